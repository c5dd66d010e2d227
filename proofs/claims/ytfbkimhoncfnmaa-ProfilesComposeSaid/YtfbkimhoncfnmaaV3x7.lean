/- Written by a program of ours (wip/eng/gen.py): the functions compute their models. -/
import Derived.Test.YtfbkimhoncfnmaaFacts
import Derived.Test.YtfbkimhoncfnmaaV3x6
namespace Go.Proofs.Ytfbkimhoncfnmaa.W
open Go Go.Proofs Go.Proofs.Ytfbkimhoncfnmaa.E Go.Proofs.Ytfbkimhoncfnmaa.M
set_option linter.unusedVariables false
set_option maxRecDepth 100000 in
set_option maxHeartbeats 8000000 in
theorem compose_Series_ok (F : Nat) (a0_l : List SProfile) (a1_conn : Int) (a2_txn : ByteArray) (a3_start : Int) (a4_s : SSpan) (r : (List SStep) × Int) (h : compose_Series F a0_l a1_conn a2_txn a3_start a4_s = some r) :
    SFun Try.prog 6 [] [.c (.vec a0_l.length 11 (gL cSProfile dSProfile a0_l)), .c (.int .i64 a1_conn), .c (.str a2_txn), .c (.int .i64 a3_start), .a [.int .i64 a4_s.From, .int .i64 a4_s.To]] (fun x _ => x = .t [.c (.vec r.1.length 2 (gL cSStep dSStep r.1)), .c (.int .i64 r.2)]) := by
  refine SFun.of (n := 72) Try.func6 rfl rfl rfl ?_
  unfold compose_Series at h
  show SCode _ _ _ ⟨[(0, .c (.vec a0_l.length 11 (gL cSProfile dSProfile a0_l))), (1, .c (.int .i64 a1_conn)), (2, .c (.str a2_txn)), (3, .c (.int .i64 a3_start)), (4, .a [.int .i64 a4_s.From, .int .i64 a4_s.To])], []⟩ _
  refine SCode.seq ?_
  refine SCode.region (show SOps _ _ _ [0, 1, 2] _ _ from ?_)
  refine SOps.e rfl (.plain rfl) (e_box rfl rfl rfl rfl rfl rfl) ?_
  refine SOps.q rfl (.plain rfl) rfl (q_assign rfl rfl) ?_
  refine SOps.q rfl (.plain rfl) rfl (q_assign rfl rfl) ?_
  refine SOps.sub (st' := ⟨[(0, .c (.vec a0_l.length 11 (gL cSProfile dSProfile a0_l))), (1, .c (.int .i64 a1_conn)), (2, .c (.str a2_txn)), (3, .c (.int .i64 a3_start)), (9, .c (.ptr 0 0))], [.box [.int .i64 a4_s.From, .int .i64 a4_s.To]]⟩) (sub_gen [0] rfl rfl ⟨zc rfl rfl, zc rfl rfl, zc rfl rfl, zc rfl rfl, zc rfl rfl, trivial⟩ ⟨⟨_, rfl, ⟨ii rfl rfl, ii rfl rfl, trivial⟩⟩, trivial⟩) ?_
  refine SOps.nil ?_
  refine SCode.seq ?_
  refine SCode.seq ?_
  rcases cond_out h with ⟨g1, h⟩ | ⟨g1, h⟩
  · refine SCode.region (show SOps _ _ _ [0, 1, 2, 3, 4, 5, 6, 7, 8, 9, 10, 11, 12, 13, 14, 15, 16, 17, 18, 19, 20, 21, 22] _ _ from ?_)
    refine SOps.q rfl (.plain rfl) rfl (q_field_ptr rfl rfl fd26_0) ?_
    refine SOps.q rfl (.plain rfl) rfl (q_load_ptr rfl rfl rfl rfl ty3) ?_
    refine SOps.q rfl (.plain rfl) rfl (q_lss rfl rfl rfl) ?_
    refine SOps.q rfl (.plain rfl) rfl (q_move rfl rfl) ?_
    refine SOps.skip rfl 3 18 false rfl rfl (.inl (gT g1)) rfl ?_
    refine SOps.skip rfl 3 18 false rfl rfl (.inl (gT g1)) rfl ?_
    refine SOps.skip rfl 3 18 false rfl rfl (.inl (gT g1)) rfl ?_
    refine SOps.skip rfl 3 18 false rfl rfl (.inl (gT g1)) rfl ?_
    refine SOps.skip rfl 3 18 false rfl rfl (.inl (gT g1)) rfl ?_
    refine SOps.q rfl (.plain rfl) rfl (q_pick_t rfl rfl g1 rfl) ?_
    refine SOps.q rfl (.plain rfl) rfl (q_move rfl rfl) ?_
    refine SOps.skip rfl 10 25 false rfl rfl (.inl rfl) rfl ?_
    refine SOps.skip rfl 10 25 false rfl rfl (.inl rfl) rfl ?_
    refine SOps.skip rfl 10 25 false rfl rfl (.inl rfl) rfl ?_
    refine SOps.q rfl (.plain rfl) rfl (q_pick_t rfl rfl rfl rfl) ?_
    refine SOps.q rfl (.plain rfl) rfl (q_move rfl rfl) ?_
    refine SOps.skip rfl 15 30 false rfl rfl (.inl rfl) rfl ?_
    refine SOps.skip rfl 15 30 false rfl rfl (.inl rfl) rfl ?_
    refine SOps.skip rfl 15 30 false rfl rfl (.inl rfl) rfl ?_
    refine SOps.skip rfl 15 30 false rfl rfl (.inl rfl) rfl ?_
    refine SOps.skip rfl 15 30 false rfl rfl (.inl rfl) rfl ?_
    refine SOps.skip rfl 15 30 false rfl rfl (.inl rfl) rfl ?_
    refine SOps.q rfl (.plain rfl) rfl (q_pick_t rfl rfl rfl rfl) ?_
    refine SOps.sub (st' := ⟨[(0, .c (.vec a0_l.length 11 (gL cSProfile dSProfile a0_l))), (1, .c (.int .i64 a1_conn)), (2, .c (.str a2_txn)), (3, .c (.int .i64 a3_start)), (9, .c (.ptr 0 0)), (37, .c (.bool true))], [.box [.int .i64 a4_s.From, .int .i64 a4_s.To]]⟩) (sub_gen [0] rfl rfl ⟨zc rfl rfl, zc rfl rfl, zc rfl rfl, zc rfl rfl, zc rfl rfl, zc rfl rfl, trivial⟩ ⟨⟨_, rfl, ⟨ii rfl rfl, ii rfl rfl, trivial⟩⟩, trivial⟩) ?_
    refine SOps.nil ?_
    refine SCode.cond_t rfl rfl ?_
    refine SCode.seq ?_
    refine SCode.region (show SOps _ _ _ [0, 1] _ _ from ?_)
    refine SOps.q rfl (.plain rfl) rfl (q_assign rfl rfl) ?_
    refine SOps.q rfl (.plain rfl) rfl (q_assign rfl rfl) ?_
    refine SOps.sub (st' := ⟨[(10, .c (.raw (.slice none 0 0))), (11, .c (.int .i64 2))], []⟩) (sub_gen [] rfl rfl ⟨zc rfl rfl, zc rfl rfl, trivial⟩ trivial) ?_
    refine SOps.nil ?_
    refine SCode.ret ?_
    obtain rfl := Option.some.inj h
    exact ⟨⟨[(10, .c (.vec (([] : List SStep)).length 2 (gL cSStep dSStep (([] : List SStep))))), (11, .c (.int .i64 2))], []⟩, _, sub_gen [] rfl rfl ⟨⟨_, rfl, .inr (.inr (.inr (.inl ⟨_, _, rfl, rfl⟩)))⟩, zc rfl rfl, trivial⟩ trivial, resA2 (v1 := .c (.vec (([] : List SStep)).length 2 (gL cSStep dSStep (([] : List SStep))))) (v2 := .c (.int .i64 2)) rfl rfl rfl, rfl⟩
  rcases cond_out h with ⟨g2, h⟩ | ⟨g2, h⟩
  · refine SCode.region (show SOps _ _ _ [0, 1, 2, 3, 4, 5, 6, 7, 8, 9, 10, 11, 12, 13, 14, 15, 16, 17, 18, 19, 20, 21, 22] _ _ from ?_)
    refine SOps.q rfl (.plain rfl) rfl (q_field_ptr rfl rfl fd26_0) ?_
    refine SOps.q rfl (.plain rfl) rfl (q_load_ptr rfl rfl rfl rfl ty3) ?_
    refine SOps.q rfl (.plain rfl) rfl (q_lss rfl rfl rfl) ?_
    refine SOps.q rfl (.plain rfl) rfl (q_move rfl rfl) ?_
    refine SOps.q rfl (.guard 3 18 false rfl rfl (gF g1)) rfl (q_field_ptr rfl rfl fd26_1) ?_
    refine SOps.q rfl (.guard 3 18 false rfl rfl (gF g1)) rfl (q_load_ptr rfl rfl rfl rfl ty3) ?_
    refine SOps.q rfl (.guard 3 18 false rfl rfl (gF g1)) rfl (q_field_ptr rfl rfl fd26_0) ?_
    refine SOps.q rfl (.guard 3 18 false rfl rfl (gF g1)) rfl (q_load_ptr rfl rfl rfl rfl ty3) ?_
    refine SOps.q rfl (.guard 3 18 false rfl rfl (gF g1)) rfl (q_lss rfl rfl rfl) ?_
    refine SOps.q rfl (.plain rfl) rfl (q_pick_f rfl rfl g1 rfl) ?_
    refine SOps.q rfl (.plain rfl) rfl (q_move rfl rfl) ?_
    refine SOps.skip rfl 10 25 false rfl rfl (.inl (gT g2)) rfl ?_
    refine SOps.skip rfl 10 25 false rfl rfl (.inl (gT g2)) rfl ?_
    refine SOps.skip rfl 10 25 false rfl rfl (.inl (gT g2)) rfl ?_
    refine SOps.q rfl (.plain rfl) rfl (q_pick_t rfl rfl g2 rfl) ?_
    refine SOps.q rfl (.plain rfl) rfl (q_move rfl rfl) ?_
    refine SOps.skip rfl 15 30 false rfl rfl (.inl rfl) rfl ?_
    refine SOps.skip rfl 15 30 false rfl rfl (.inl rfl) rfl ?_
    refine SOps.skip rfl 15 30 false rfl rfl (.inl rfl) rfl ?_
    refine SOps.skip rfl 15 30 false rfl rfl (.inl rfl) rfl ?_
    refine SOps.skip rfl 15 30 false rfl rfl (.inl rfl) rfl ?_
    refine SOps.skip rfl 15 30 false rfl rfl (.inl rfl) rfl ?_
    refine SOps.q rfl (.plain rfl) rfl (q_pick_t rfl rfl rfl rfl) ?_
    refine SOps.sub (st' := ⟨[(0, .c (.vec a0_l.length 11 (gL cSProfile dSProfile a0_l))), (1, .c (.int .i64 a1_conn)), (2, .c (.str a2_txn)), (3, .c (.int .i64 a3_start)), (9, .c (.ptr 0 0)), (37, .c (.bool true))], [.box [.int .i64 a4_s.From, .int .i64 a4_s.To]]⟩) (sub_gen [0] rfl rfl ⟨zc rfl rfl, zc rfl rfl, zc rfl rfl, zc rfl rfl, zc rfl rfl, zc rfl rfl, trivial⟩ ⟨⟨_, rfl, ⟨ii rfl rfl, ii rfl rfl, trivial⟩⟩, trivial⟩) ?_
    refine SOps.nil ?_
    refine SCode.cond_t rfl rfl ?_
    refine SCode.seq ?_
    refine SCode.region (show SOps _ _ _ [0, 1] _ _ from ?_)
    refine SOps.q rfl (.plain rfl) rfl (q_assign rfl rfl) ?_
    refine SOps.q rfl (.plain rfl) rfl (q_assign rfl rfl) ?_
    refine SOps.sub (st' := ⟨[(10, .c (.raw (.slice none 0 0))), (11, .c (.int .i64 2))], []⟩) (sub_gen [] rfl rfl ⟨zc rfl rfl, zc rfl rfl, trivial⟩ trivial) ?_
    refine SOps.nil ?_
    refine SCode.ret ?_
    obtain rfl := Option.some.inj h
    exact ⟨⟨[(10, .c (.vec (([] : List SStep)).length 2 (gL cSStep dSStep (([] : List SStep))))), (11, .c (.int .i64 2))], []⟩, _, sub_gen [] rfl rfl ⟨⟨_, rfl, .inr (.inr (.inr (.inl ⟨_, _, rfl, rfl⟩)))⟩, zc rfl rfl, trivial⟩ trivial, resA2 (v1 := .c (.vec (([] : List SStep)).length 2 (gL cSStep dSStep (([] : List SStep))))) (v2 := .c (.int .i64 2)) rfl rfl rfl, rfl⟩
  rcases cond_out h with ⟨g3, h⟩ | ⟨g3, h⟩
  · refine SCode.region (show SOps _ _ _ [0, 1, 2, 3, 4, 5, 6, 7, 8, 9, 10, 11, 12, 13, 14, 15, 16, 17, 18, 19, 20, 21, 22] _ _ from ?_)
    refine SOps.q rfl (.plain rfl) rfl (q_field_ptr rfl rfl fd26_0) ?_
    refine SOps.q rfl (.plain rfl) rfl (q_load_ptr rfl rfl rfl rfl ty3) ?_
    refine SOps.q rfl (.plain rfl) rfl (q_lss rfl rfl rfl) ?_
    refine SOps.q rfl (.plain rfl) rfl (q_move rfl rfl) ?_
    refine SOps.q rfl (.guard 3 18 false rfl rfl (gF g1)) rfl (q_field_ptr rfl rfl fd26_1) ?_
    refine SOps.q rfl (.guard 3 18 false rfl rfl (gF g1)) rfl (q_load_ptr rfl rfl rfl rfl ty3) ?_
    refine SOps.q rfl (.guard 3 18 false rfl rfl (gF g1)) rfl (q_field_ptr rfl rfl fd26_0) ?_
    refine SOps.q rfl (.guard 3 18 false rfl rfl (gF g1)) rfl (q_load_ptr rfl rfl rfl rfl ty3) ?_
    refine SOps.q rfl (.guard 3 18 false rfl rfl (gF g1)) rfl (q_lss rfl rfl rfl) ?_
    refine SOps.q rfl (.plain rfl) rfl (q_pick_f rfl rfl g1 rfl) ?_
    refine SOps.q rfl (.plain rfl) rfl (q_move rfl rfl) ?_
    refine SOps.q rfl (.guard 10 25 false rfl rfl (gF g2)) rfl (q_field_ptr rfl rfl fd26_1) ?_
    refine SOps.q rfl (.guard 10 25 false rfl rfl (gF g2)) rfl (q_load_ptr rfl rfl rfl rfl ty3) ?_
    refine SOps.q rfl (.guard 10 25 false rfl rfl (gF g2)) rfl (q_gtr rfl rfl rfl) ?_
    refine SOps.q rfl (.plain rfl) rfl (q_pick_f rfl rfl g2 rfl) ?_
    refine SOps.q rfl (.plain rfl) rfl (q_move rfl rfl) ?_
    refine SOps.skip rfl 15 30 false rfl rfl (.inl (gT g3)) rfl ?_
    refine SOps.skip rfl 15 30 false rfl rfl (.inl (gT g3)) rfl ?_
    refine SOps.skip rfl 15 30 false rfl rfl (.inl (gT g3)) rfl ?_
    refine SOps.skip rfl 15 30 false rfl rfl (.inl (gT g3)) rfl ?_
    refine SOps.skip rfl 15 30 false rfl rfl (.inl (gT g3)) rfl ?_
    refine SOps.skip rfl 15 30 false rfl rfl (.inl (gT g3)) rfl ?_
    refine SOps.q rfl (.plain rfl) rfl (q_pick_t rfl rfl g3 rfl) ?_
    refine SOps.sub (st' := ⟨[(0, .c (.vec a0_l.length 11 (gL cSProfile dSProfile a0_l))), (1, .c (.int .i64 a1_conn)), (2, .c (.str a2_txn)), (3, .c (.int .i64 a3_start)), (9, .c (.ptr 0 0)), (37, .c (.bool true))], [.box [.int .i64 a4_s.From, .int .i64 a4_s.To]]⟩) (sub_gen [0] rfl rfl ⟨zc rfl rfl, zc rfl rfl, zc rfl rfl, zc rfl rfl, zc rfl rfl, zc rfl rfl, trivial⟩ ⟨⟨_, rfl, ⟨ii rfl rfl, ii rfl rfl, trivial⟩⟩, trivial⟩) ?_
    refine SOps.nil ?_
    refine SCode.cond_t rfl rfl ?_
    refine SCode.seq ?_
    refine SCode.region (show SOps _ _ _ [0, 1] _ _ from ?_)
    refine SOps.q rfl (.plain rfl) rfl (q_assign rfl rfl) ?_
    refine SOps.q rfl (.plain rfl) rfl (q_assign rfl rfl) ?_
    refine SOps.sub (st' := ⟨[(10, .c (.raw (.slice none 0 0))), (11, .c (.int .i64 2))], []⟩) (sub_gen [] rfl rfl ⟨zc rfl rfl, zc rfl rfl, trivial⟩ trivial) ?_
    refine SOps.nil ?_
    refine SCode.ret ?_
    obtain rfl := Option.some.inj h
    exact ⟨⟨[(10, .c (.vec (([] : List SStep)).length 2 (gL cSStep dSStep (([] : List SStep))))), (11, .c (.int .i64 2))], []⟩, _, sub_gen [] rfl rfl ⟨⟨_, rfl, .inr (.inr (.inr (.inl ⟨_, _, rfl, rfl⟩)))⟩, zc rfl rfl, trivial⟩ trivial, resA2 (v1 := .c (.vec (([] : List SStep)).length 2 (gL cSStep dSStep (([] : List SStep))))) (v2 := .c (.int .i64 2)) rfl rfl rfl, rfl⟩
  refine SCode.region (show SOps _ _ _ [0, 1, 2, 3, 4, 5, 6, 7, 8, 9, 10, 11, 12, 13, 14, 15, 16, 17, 18, 19, 20, 21, 22] _ _ from ?_)
  refine SOps.q rfl (.plain rfl) rfl (q_field_ptr rfl rfl fd26_0) ?_
  refine SOps.q rfl (.plain rfl) rfl (q_load_ptr rfl rfl rfl rfl ty3) ?_
  refine SOps.q rfl (.plain rfl) rfl (q_lss rfl rfl rfl) ?_
  refine SOps.q rfl (.plain rfl) rfl (q_move rfl rfl) ?_
  refine SOps.q rfl (.guard 3 18 false rfl rfl (gF g1)) rfl (q_field_ptr rfl rfl fd26_1) ?_
  refine SOps.q rfl (.guard 3 18 false rfl rfl (gF g1)) rfl (q_load_ptr rfl rfl rfl rfl ty3) ?_
  refine SOps.q rfl (.guard 3 18 false rfl rfl (gF g1)) rfl (q_field_ptr rfl rfl fd26_0) ?_
  refine SOps.q rfl (.guard 3 18 false rfl rfl (gF g1)) rfl (q_load_ptr rfl rfl rfl rfl ty3) ?_
  refine SOps.q rfl (.guard 3 18 false rfl rfl (gF g1)) rfl (q_lss rfl rfl rfl) ?_
  refine SOps.q rfl (.plain rfl) rfl (q_pick_f rfl rfl g1 rfl) ?_
  refine SOps.q rfl (.plain rfl) rfl (q_move rfl rfl) ?_
  refine SOps.q rfl (.guard 10 25 false rfl rfl (gF g2)) rfl (q_field_ptr rfl rfl fd26_1) ?_
  refine SOps.q rfl (.guard 10 25 false rfl rfl (gF g2)) rfl (q_load_ptr rfl rfl rfl rfl ty3) ?_
  refine SOps.q rfl (.guard 10 25 false rfl rfl (gF g2)) rfl (q_gtr rfl rfl rfl) ?_
  refine SOps.q rfl (.plain rfl) rfl (q_pick_f rfl rfl g2 rfl) ?_
  refine SOps.q rfl (.plain rfl) rfl (q_move rfl rfl) ?_
  refine SOps.q rfl (.guard 15 30 false rfl rfl (gF g3)) rfl (q_field_ptr rfl rfl fd26_1) ?_
  refine SOps.q rfl (.guard 15 30 false rfl rfl (gF g3)) rfl (q_load_ptr rfl rfl rfl rfl ty3) ?_
  refine SOps.q rfl (.guard 15 30 false rfl rfl (gF g3)) rfl (q_field_ptr rfl rfl fd26_0) ?_
  refine SOps.q rfl (.guard 15 30 false rfl rfl (gF g3)) rfl (q_load_ptr rfl rfl rfl rfl ty3) ?_
  refine SOps.q rfl (.guard 15 30 false rfl rfl (gF g3)) rfl (q_sub rfl rfl rfl) ?_
  refine SOps.q rfl (.guard 15 30 false rfl rfl (gF g3)) rfl (q_gtr rfl rfl rfl) ?_
  refine SOps.q rfl (.plain rfl) rfl (q_pick_f rfl rfl g3 rfl) ?_
  refine SOps.sub (st' := ⟨[(0, .c (.vec a0_l.length 11 (gL cSProfile dSProfile a0_l))), (1, .c (.int .i64 a1_conn)), (2, .c (.str a2_txn)), (3, .c (.int .i64 a3_start)), (9, .c (.ptr 0 0)), (37, .c (.bool (decide (20160 < IntKind.wrap .i64 (a4_s.To - a4_s.From)))))], [.box [.int .i64 a4_s.From, .int .i64 a4_s.To]]⟩) (sub_gen [0] rfl rfl ⟨zc rfl rfl, zc rfl rfl, zc rfl rfl, zc rfl rfl, zc rfl rfl, zc rfl rfl, trivial⟩ ⟨⟨_, rfl, ⟨ii rfl rfl, ii rfl rfl, trivial⟩⟩, trivial⟩) ?_
  refine SOps.nil ?_
  rcases cond_out h with ⟨g4, h⟩ | ⟨g4, h⟩
  · refine SCode.cond_t rfl g4 ?_
    refine SCode.seq ?_
    refine SCode.region (show SOps _ _ _ [0, 1] _ _ from ?_)
    refine SOps.q rfl (.plain rfl) rfl (q_assign rfl rfl) ?_
    refine SOps.q rfl (.plain rfl) rfl (q_assign rfl rfl) ?_
    refine SOps.sub (st' := ⟨[(10, .c (.raw (.slice none 0 0))), (11, .c (.int .i64 2))], []⟩) (sub_gen [] rfl rfl ⟨zc rfl rfl, zc rfl rfl, trivial⟩ trivial) ?_
    refine SOps.nil ?_
    refine SCode.ret ?_
    obtain rfl := Option.some.inj h
    exact ⟨⟨[(10, .c (.vec (([] : List SStep)).length 2 (gL cSStep dSStep (([] : List SStep))))), (11, .c (.int .i64 2))], []⟩, _, sub_gen [] rfl rfl ⟨⟨_, rfl, .inr (.inr (.inr (.inl ⟨_, _, rfl, rfl⟩)))⟩, zc rfl rfl, trivial⟩ trivial, resA2 (v1 := .c (.vec (([] : List SStep)).length 2 (gL cSStep dSStep (([] : List SStep))))) (v2 := .c (.int .i64 2)) rfl rfl rfl, rfl⟩
  refine SCode.cond_f rfl g4 ?_
  refine SCode.skip ?_
  refine SCode.seq ?_
  obtain ⟨c_5, g6, h⟩ := bind_out h
  try dsimp only at h
  refine SCode.region (show SOps _ _ _ [0, 1, 2, 3, 4] _ _ from ?_)
  refine SOps.q rfl (.plain rfl) rfl (q_move rfl rfl) ?_
  refine SOps.q rfl (.plain rfl) rfl (q_move rfl rfl) ?_
  refine SOps.q rfl (.plain rfl) rfl (q_move rfl rfl) ?_
  refine SOps.q rfl (.plain rfl) rfl (q_call (compose_candidates_ok F a0_l a1_conn a2_txn c_5 g6) [] rfl fn16 ⟨⟨_, rfl, .inl ⟨rfl, rfl⟩⟩, ⟨_, rfl, .inl ⟨rfl, rfl⟩⟩, ⟨_, rfl, .inl ⟨rfl, rfl⟩⟩, trivial⟩ (.inl rfl)) ?_
  refine SOps.q rfl (.plain rfl) rfl (q_assign rfl rfl) ?_
  refine SOps.sub (st' := ⟨[(3, .c (.int .i64 a3_start)), (9, .c (.ptr 0 0)), (12, .c (.vec c_5.length 11 (gL cSProfile dSProfile c_5)))], [.box [.int .i64 a4_s.From, .int .i64 a4_s.To]]⟩) (sub_gen [0] rfl rfl ⟨zc rfl rfl, zc rfl rfl, zc rfl rfl, trivial⟩ ⟨⟨_, rfl, ⟨ii rfl rfl, ii rfl rfl, trivial⟩⟩, trivial⟩) ?_
  refine SOps.nil ?_
  refine SCode.seq ?_
  refine SCode.region (show SOps _ _ _ [0] _ _ from ?_)
  refine SOps.q rfl (.plain rfl) rfl (q_assign rfl rfl) ?_
  refine SOps.nilArrL (T := 51) (k := 2) cSStep dSStep (s := 13) rfl rfl ?_
  refine SOps.sub (st' := ⟨[(3, .c (.int .i64 a3_start)), (9, .c (.ptr 0 0)), (12, .c (.vec c_5.length 11 (gL cSProfile dSProfile c_5))), (13, .c (.own 1 (([] : List SStep)).length))], [.box [.int .i64 a4_s.From, .int .i64 a4_s.To], .arr 51 2 (([] : List SStep)).length (gL cSStep dSStep (([] : List SStep)))]⟩) (sub_gen [0, 1] rfl rfl ⟨zc rfl rfl, zc rfl rfl, zc rfl rfl, zc rfl rfl, trivial⟩ ⟨⟨_, rfl, ⟨ii rfl rfl, ii rfl rfl, trivial⟩⟩, oa rfl, trivial⟩) ?_
  refine SOps.nil ?_
  refine SCode.join (σ := (List SStep)) (S := fun s => ⟨[(13, .c (.own 0 s.length))], [.arr 51 2 s.length (gL cSStep dSStep s)]⟩) (g := fun s => compose_Series_p8 s = some r) ?_ ?_
  rotate_left
  · refine SCode.seq ?_
    refine SCode.region (show SOps _ _ _ [0, 1, 2] _ _ from ?_)
    refine SOps.q rfl (.plain rfl) rfl (q_field_ptr rfl rfl fd26_0) ?_
    refine SOps.q rfl (.plain rfl) rfl (q_load_ptr rfl rfl rfl rfl ty3) ?_
    refine SOps.q rfl (.plain rfl) rfl (q_assign rfl rfl) ?_
    refine SOps.sub (st' := ⟨[(3, .c (.int .i64 a3_start)), (9, .c (.ptr 0 0)), (12, .c (.vec c_5.length 11 (gL cSProfile dSProfile c_5))), (13, .c (.own 1 (([] : List SStep)).length)), (14, .c (.int .i64 a4_s.From))], [.box [.int .i64 a4_s.From, .int .i64 a4_s.To], .arr 51 2 (([] : List SStep)).length (gL cSStep dSStep (([] : List SStep)))]⟩) (sub_gen [0, 1] rfl rfl ⟨zc rfl rfl, zc rfl rfl, zc rfl rfl, zc rfl rfl, zc rfl rfl, trivial⟩ ⟨⟨_, rfl, ⟨ii rfl rfl, ii rfl rfl, trivial⟩⟩, oa rfl, trivial⟩) ?_
    refine SOps.nil ?_
    refine SCode.block ?_
    refine SCode.sub (st' := ⟨[(3, .c (.int .i64 a3_start)), (9, .c (.ptr 0 0)), (12, .c (.vec c_5.length 11 (gL cSProfile dSProfile c_5))), (13, .c (.own 1 ([] : List SStep).length)), (14, .c (.int .i64 a4_s.From))], [.box [.int .i64 a4_s.From, .int .i64 a4_s.To], .arr 51 2 ([] : List SStep).length (gL cSStep dSStep ([] : List SStep))]⟩) (sub_gen [0, 1] rfl rfl ⟨zc rfl rfl, zc rfl rfl, zc rfl rfl, zc rfl rfl, zc rfl rfl, trivial⟩ ⟨⟨_, rfl, ⟨ii rfl rfl, ii rfl rfl, trivial⟩⟩, oa rfl, trivial⟩) ?_
    refine (SCode.loop (σ := Nat × (Int × (List SStep))) (S := fun s => ⟨[(3, .c (.int .i64 a3_start)), (9, .c (.ptr 0 0)), (12, .c (.vec c_5.length 11 (gL cSProfile dSProfile c_5))), (13, .c (.own 1 s.2.2.length)), (14, .c (.int .i64 s.2.1))], [.box [.int .i64 a4_s.From, .int .i64 a4_s.To], .arr 51 2 s.2.2.length (gL cSStep dSStep s.2.2)]⟩) (g := fun s => compose_Series_l27 F a3_start a4_s c_5 s.1 s.2.1 s.2.2 = some r) (μ := fun s => s.1) (F, (a4_s.From, ([] : List SStep))) h ?_)
    rintro ⟨n_27, ⟨t_17, o1_18⟩⟩ h
    replace h : compose_Series_l27 F a3_start a4_s c_5 n_27 t_17 o1_18 = some r := h
    show SCode _ _ _ ⟨[(3, .c (.int .i64 a3_start)), (9, .c (.ptr 0 0)), (12, .c (.vec c_5.length 11 (gL cSProfile dSProfile c_5))), (13, .c (.own 1 o1_18.length)), (14, .c (.int .i64 t_17))], [.box [.int .i64 a4_s.From, .int .i64 a4_s.To], .arr 51 2 o1_18.length (gL cSStep dSStep o1_18)]⟩ _
    cases n_27 with
    | zero => cases h
    | succ n_27 =>
      replace h : compose_Series_b27 F a3_start a4_s c_5 (fun t_17 o1_18 => compose_Series_l27 F a3_start a4_s c_5 n_27 t_17 o1_18) t_17 o1_18 = some r := h
      unfold compose_Series_b27 at h
      refine SCode.seq ?_
      refine SCode.seq ?_
      rcases cond_out h with ⟨g28, h⟩ | ⟨g28, h⟩
      · refine SCode.region (show SOps _ _ _ [0, 1, 2, 3, 4, 5, 6, 7] _ _ from ?_)
        refine SOps.q rfl (.plain rfl) rfl (q_move rfl rfl) ?_
        refine SOps.q rfl (.plain rfl) rfl (q_geq rfl rfl rfl) ?_
        refine SOps.q rfl (.plain rfl) rfl (q_move rfl rfl) ?_
        refine SOps.q rfl (.guard 2 46 true rfl rfl (gT g28)) rfl (q_move rfl rfl) ?_
        refine SOps.q rfl (.guard 2 46 true rfl rfl (gT g28)) rfl (q_field_ptr rfl rfl fd26_1) ?_
        refine SOps.q rfl (.guard 2 46 true rfl rfl (gT g28)) rfl (q_load_ptr rfl rfl rfl rfl ty3) ?_
        refine SOps.q rfl (.guard 2 46 true rfl rfl (gT g28)) rfl (q_lss rfl rfl rfl) ?_
        refine SOps.q rfl (.plain rfl) rfl (q_pick_t rfl rfl g28 rfl) ?_
        refine SOps.sub (st' := ⟨[(3, .c (.int .i64 a3_start)), (9, .c (.ptr 0 0)), (12, .c (.vec c_5.length 11 (gL cSProfile dSProfile c_5))), (13, .c (.own 1 o1_18.length)), (14, .c (.int .i64 t_17)), (51, .c (.bool (decide (t_17 < a4_s.To))))], [.box [.int .i64 a4_s.From, .int .i64 a4_s.To], .arr 51 2 o1_18.length (gL cSStep dSStep o1_18)]⟩) (sub_gen [0, 1] rfl rfl ⟨zc rfl rfl, zc rfl rfl, zc rfl rfl, zc rfl rfl, zc rfl rfl, zc rfl rfl, trivial⟩ ⟨⟨_, rfl, ⟨ii rfl rfl, ii rfl rfl, trivial⟩⟩, oa rfl, trivial⟩) ?_
        refine SOps.nil ?_
        rcases cond_out h with ⟨g29, h⟩ | ⟨g29, h⟩
        · refine SCode.cond_t rfl g29 ?_
          refine SCode.skip ?_
          refine SCode.seq ?_
          refine SCode.block ?_
          refine SCode.seq ?_
          refine SCode.seq ?_
          refine SCode.region (show SOps _ _ _ [0, 1, 2] _ _ from ?_)
          refine SOps.q rfl (.plain rfl) rfl (q_move rfl rfl) ?_
          refine SOps.q rfl (.plain rfl) rfl (q_len_own rfl rfl sl34) ?_
          refine SOps.q rfl (.plain rfl) rfl (q_eql rfl rfl rfl) ?_
          refine SOps.sub (st' := ⟨[(3, .c (.int .i64 a3_start)), (9, .c (.ptr 0 0)), (12, .c (.vec c_5.length 11 (gL cSProfile dSProfile c_5))), (13, .c (.own 1 o1_18.length)), (14, .c (.int .i64 t_17)), (61, .c (.bool (decide (((o1_18).length : Int) = 512))))], [.box [.int .i64 a4_s.From, .int .i64 a4_s.To], .arr 51 2 o1_18.length (gL cSStep dSStep o1_18)]⟩) (sub_gen [0, 1] rfl rfl ⟨zc rfl rfl, zc rfl rfl, zc rfl rfl, zc rfl rfl, zc rfl rfl, zc rfl rfl, trivial⟩ ⟨⟨_, rfl, ⟨ii rfl rfl, ii rfl rfl, trivial⟩⟩, oa rfl, trivial⟩) ?_
          refine SOps.nil ?_
          rcases cond_out h with ⟨g30, h⟩ | ⟨g30, h⟩
          · refine SCode.cond_t rfl g30 ?_
            refine SCode.seq ?_
            refine SCode.region (show SOps _ _ _ [0, 1] _ _ from ?_)
            refine SOps.q rfl (.plain rfl) rfl (q_assign rfl rfl) ?_
            refine SOps.q rfl (.plain rfl) rfl (q_assign rfl rfl) ?_
            refine SOps.sub (st' := ⟨[(10, .c (.raw (.slice none 0 0))), (11, .c (.int .i64 3))], []⟩) (sub_gen [] rfl rfl ⟨zc rfl rfl, zc rfl rfl, trivial⟩ trivial) ?_
            refine SOps.nil ?_
            refine SCode.ret ?_
            obtain rfl := Option.some.inj h
            exact ⟨⟨[(10, .c (.vec (([] : List SStep)).length 2 (gL cSStep dSStep (([] : List SStep))))), (11, .c (.int .i64 3))], []⟩, _, sub_gen [] rfl rfl ⟨⟨_, rfl, .inr (.inr (.inr (.inl ⟨_, _, rfl, rfl⟩)))⟩, zc rfl rfl, trivial⟩ trivial, resA2 (v1 := .c (.vec (([] : List SStep)).length 2 (gL cSStep dSStep (([] : List SStep))))) (v2 := .c (.int .i64 3)) rfl rfl rfl, rfl⟩
          refine SCode.cond_f rfl g30 ?_
          refine SCode.skip ?_
          obtain ⟨c_31, g32, h⟩ := bind_out h
          try dsimp only at h
          obtain ⟨g33, h⟩ := guard_out h
          refine SCode.region (show SOps _ _ _ [0, 1, 2, 3, 4, 5, 6, 7, 8, 9] _ _ from ?_)
          refine SOps.q rfl (.plain rfl) rfl (q_move rfl rfl) ?_
          refine SOps.q rfl (.plain rfl) rfl (q_move rfl rfl) ?_
          refine SOps.q rfl (.plain rfl) rfl (q_move rfl rfl) ?_
          refine SOps.q rfl (.plain rfl) rfl (q_move rfl rfl) ?_
          refine SOps.q rfl (.plain rfl) rfl (q_move rfl rfl) ?_
          refine SOps.q rfl (.plain rfl) rfl (q_call (compose_limit_ok F c_5 a3_start t_17 c_31 g32) [] rfl fn18 ⟨⟨_, rfl, .inl ⟨rfl, rfl⟩⟩, ⟨_, rfl, .inl ⟨rfl, rfl⟩⟩, ⟨_, rfl, .inl ⟨rfl, rfl⟩⟩, trivial⟩ (.inl rfl)) ?_
          refine SOps.q rfl (.plain rfl) rfl (q_build2 rfl rfl pl51 rfl) ?_
          refine SOps.q rfl (.plain rfl) rfl (q_bsliceL (c := cSStep) (d0 := dSStep) [SStep.mk t_17 c_31] rfl rfl sl34 z51 rfl rfl rfl rfl rfl rfl rfl) ?_
          refine SOps.e rfl (.plain rfl) (e_appendL (c := cSStep) (d0 := dSStep) (l := o1_18) (l2 := [SStep.mk t_17 c_31]) rfl rfl rfl rfl rfl rfl (.inl rfl) sl34 z51 rfl rfl oneSStep g33.1 g33.2) ?_
          refine SOps.q rfl (.plain rfl) rfl (q_assign rfl rfl) ?_
          refine SOps.sub (st' := ⟨[(3, .c (.int .i64 a3_start)), (9, .c (.ptr 0 0)), (12, .c (.vec c_5.length 11 (gL cSProfile dSProfile c_5))), (13, .c (.own 1 (o1_18 ++ ([SStep.mk t_17 c_31])).length)), (14, .c (.int .i64 t_17))], [.box [.int .i64 a4_s.From, .int .i64 a4_s.To], .arr 51 2 (o1_18 ++ ([SStep.mk t_17 c_31])).length (gL cSStep dSStep (o1_18 ++ ([SStep.mk t_17 c_31])))]⟩) (sub_gen [0, 2] rfl rfl ⟨zc rfl rfl, zc rfl rfl, zc rfl rfl, zc rfl rfl, zc rfl rfl, trivial⟩ ⟨⟨_, rfl, ⟨ii rfl rfl, ii rfl rfl, trivial⟩⟩, oa rfl, trivial⟩) ?_
          refine SOps.nil ?_
          obtain ⟨c_34, g35, h⟩ := bind_out h
          try dsimp only at h
          refine SCode.region (show SOps _ _ _ [0, 1, 2, 3, 4, 5, 6, 7] _ _ from ?_)
          refine SOps.q rfl (.plain rfl) rfl (q_move rfl rfl) ?_
          refine SOps.q rfl (.plain rfl) rfl (q_move rfl rfl) ?_
          refine SOps.q rfl (.plain rfl) rfl (q_move rfl rfl) ?_
          refine SOps.q rfl (.plain rfl) rfl (q_field_ptr rfl rfl fd26_1) ?_
          refine SOps.q rfl (.plain rfl) rfl (q_load_ptr rfl rfl rfl rfl ty3) ?_
          refine SOps.q rfl (.plain rfl) rfl (q_sub rfl rfl rfl) ?_
          refine SOps.q rfl (.plain rfl) rfl (q_call (compose_next_ok F c_5 a3_start t_17 (IntKind.wrap .i64 (a4_s.To - 1)) c_34 g35) [] rfl fn17 ⟨⟨_, rfl, .inl ⟨rfl, rfl⟩⟩, ⟨_, rfl, .inl ⟨rfl, rfl⟩⟩, ⟨_, rfl, .inl ⟨rfl, rfl⟩⟩, ⟨_, rfl, .inl ⟨rfl, rfl⟩⟩, trivial⟩ (.inl rfl)) ?_
          refine SOps.q rfl (.plain rfl) rfl (q_assign rfl rfl) ?_
          refine SOps.sub (st' := ⟨[(3, .c (.int .i64 a3_start)), (9, .c (.ptr 0 0)), (12, .c (.vec c_5.length 11 (gL cSProfile dSProfile c_5))), (13, .c (.own 1 (o1_18 ++ ([SStep.mk t_17 c_31])).length)), (14, .c (.int .i64 c_34))], [.box [.int .i64 a4_s.From, .int .i64 a4_s.To], .arr 51 2 (o1_18 ++ ([SStep.mk t_17 c_31])).length (gL cSStep dSStep (o1_18 ++ ([SStep.mk t_17 c_31])))]⟩) (sub_gen [0, 1] rfl rfl ⟨zc rfl rfl, zc rfl rfl, zc rfl rfl, zc rfl rfl, zc rfl rfl, trivial⟩ ⟨⟨_, rfl, ⟨ii rfl rfl, ii rfl rfl, trivial⟩⟩, oa rfl, trivial⟩) ?_
          refine SOps.nil ?_
          exact ⟨(n_27, (c_34, o1_18 ++ ([SStep.mk t_17 c_31]))), h, Nat.lt_succ_self n_27, sub_gen [0, 1] rfl rfl ⟨zc rfl rfl, zc rfl rfl, zc rfl rfl, zc rfl rfl, zc rfl rfl, trivial⟩ ⟨⟨_, rfl, ⟨ii rfl rfl, ii rfl rfl, trivial⟩⟩, oa rfl, trivial⟩⟩
        refine SCode.cond_f rfl g29 ?_
        refine SCode.exit ?_
        exact ⟨o1_18, h, sub_gen [1] rfl rfl ⟨zc rfl rfl, trivial⟩ ⟨oa rfl, trivial⟩⟩
      refine SCode.region (show SOps _ _ _ [0, 1, 2, 3, 4, 5, 6, 7] _ _ from ?_)
      refine SOps.q rfl (.plain rfl) rfl (q_move rfl rfl) ?_
      refine SOps.q rfl (.plain rfl) rfl (q_geq rfl rfl rfl) ?_
      refine SOps.q rfl (.plain rfl) rfl (q_move rfl rfl) ?_
      refine SOps.skip rfl 2 46 true rfl rfl (.inl (gF g28)) rfl ?_
      refine SOps.skip rfl 2 46 true rfl rfl (.inl (gF g28)) rfl ?_
      refine SOps.skip rfl 2 46 true rfl rfl (.inl (gF g28)) rfl ?_
      refine SOps.skip rfl 2 46 true rfl rfl (.inl (gF g28)) rfl ?_
      refine SOps.q rfl (.plain rfl) rfl (q_pick_f rfl rfl g28 rfl) ?_
      refine SOps.sub (st' := ⟨[(3, .c (.int .i64 a3_start)), (9, .c (.ptr 0 0)), (12, .c (.vec c_5.length 11 (gL cSProfile dSProfile c_5))), (13, .c (.own 1 o1_18.length)), (14, .c (.int .i64 t_17)), (51, .c (.bool false))], [.box [.int .i64 a4_s.From, .int .i64 a4_s.To], .arr 51 2 o1_18.length (gL cSStep dSStep o1_18)]⟩) (sub_gen [0, 1] rfl rfl ⟨zc rfl rfl, zc rfl rfl, zc rfl rfl, zc rfl rfl, zc rfl rfl, zc rfl rfl, trivial⟩ ⟨⟨_, rfl, ⟨ii rfl rfl, ii rfl rfl, trivial⟩⟩, oa rfl, trivial⟩) ?_
      refine SOps.nil ?_
      refine SCode.cond_f rfl rfl ?_
      refine SCode.exit ?_
      exact ⟨o1_18, h, sub_gen [1] rfl rfl ⟨zc rfl rfl, trivial⟩ ⟨oa rfl, trivial⟩⟩
  rintro o0_7 h
  show SCode _ _ _ ⟨[(13, .c (.own 0 o0_7.length))], [.arr 51 2 o0_7.length (gL cSStep dSStep o0_7)]⟩ _
  replace h : compose_Series_p8 o0_7 = some r := h
  unfold compose_Series_p8 at h
  refine SCode.seq ?_
  refine SCode.region (show SOps _ _ _ [0, 1, 2] _ _ from ?_)
  refine SOps.q rfl (.plain rfl) rfl (q_move rfl rfl) ?_
  refine SOps.q rfl (.plain rfl) rfl (q_assign rfl rfl) ?_
  refine SOps.q rfl (.plain rfl) rfl (q_assign rfl rfl) ?_
  refine SOps.sub (st' := ⟨[(10, .c (.own 0 o0_7.length)), (11, .c (.int .i64 0))], [.arr 51 2 o0_7.length (gL cSStep dSStep o0_7)]⟩) (sub_gen [0] rfl rfl ⟨zc rfl rfl, zc rfl rfl, trivial⟩ ⟨oa rfl, trivial⟩) ?_
  refine SOps.nil ?_
  refine SCode.ret ?_
  obtain rfl := Option.some.inj h
  exact ⟨⟨[(10, .c (.vec o0_7.length 2 (gL cSStep dSStep o0_7))), (11, .c (.int .i64 0))], []⟩, _, sub_gen [] rfl rfl ⟨⟨_, rfl, .inr (.inl ⟨_, _, _, _, _, _, _, rfl, rfl, rfl, Nat.le_refl _, fun _ _ _ _ => rfl, by decide⟩)⟩, zc rfl rfl, trivial⟩ trivial, resA2 (v1 := .c (.vec o0_7.length 2 (gL cSStep dSStep o0_7))) (v2 := .c (.int .i64 0)) rfl rfl rfl, rfl⟩
set_option maxRecDepth 100000 in
set_option maxHeartbeats 8000000 in
theorem series_isTime_ok (F : Nat) (a0_t : Int) (r : Bool) (h : series_isTime F a0_t = some r) :
    SFun Try.prog 27 [] [.c (.int .i64 a0_t)] (fun x _ => x = .c (.bool r)) := by
  refine SFun.of (n := 9) Try.func27 rfl rfl rfl ?_
  unfold series_isTime at h
  show SCode _ _ _ ⟨[(0, .c (.int .i64 a0_t))], []⟩ _
  refine SCode.seq ?_
  refine SCode.region (show SOps _ _ _ [0] _ _ from ?_)
  refine SOps.q rfl (.plain rfl) rfl (q_assign rfl rfl) ?_
  refine SOps.sub (st' := ⟨[(0, .c (.int .i64 a0_t))], []⟩) (sub_gen [] rfl rfl ⟨zc rfl rfl, trivial⟩ trivial) ?_
  refine SOps.nil ?_
  refine SCode.seq ?_
  rcases cond_out h with ⟨g1, h⟩ | ⟨g1, h⟩
  · refine SCode.region (show SOps _ _ _ [0, 1, 2, 3, 4, 5, 6] _ _ from ?_)
    refine SOps.q rfl (.plain rfl) rfl (q_move rfl rfl) ?_
    refine SOps.q rfl (.plain rfl) rfl (q_geq rfl rfl rfl) ?_
    refine SOps.q rfl (.plain rfl) rfl (q_move rfl rfl) ?_
    refine SOps.q rfl (.guard 2 5 true rfl rfl (gT g1)) rfl (q_move rfl rfl) ?_
    refine SOps.q rfl (.guard 2 5 true rfl rfl (gT g1)) rfl (q_leq rfl rfl rfl) ?_
    refine SOps.q rfl (.plain rfl) rfl (q_pick_t rfl rfl g1 rfl) ?_
    refine SOps.q rfl (.plain rfl) rfl (q_assign rfl rfl) ?_
    refine SOps.sub (st' := ⟨[(2, .c (.bool (decide (a0_t ≤ 268435456))))], []⟩) (sub_gen [] rfl rfl ⟨zc rfl rfl, trivial⟩ trivial) ?_
    refine SOps.nil ?_
    refine SCode.ret ?_
    obtain rfl := Option.some.inj h
    exact ⟨⟨[(2, .c (.bool (decide (a0_t ≤ 268435456))))], []⟩, _, sub_gen [] rfl rfl ⟨zc rfl rfl, trivial⟩ trivial, resA1 (v := .c (.bool (decide (a0_t ≤ 268435456)))) rfl rfl, rfl⟩
  refine SCode.region (show SOps _ _ _ [0, 1, 2, 3, 4, 5, 6] _ _ from ?_)
  refine SOps.q rfl (.plain rfl) rfl (q_move rfl rfl) ?_
  refine SOps.q rfl (.plain rfl) rfl (q_geq rfl rfl rfl) ?_
  refine SOps.q rfl (.plain rfl) rfl (q_move rfl rfl) ?_
  refine SOps.skip rfl 2 5 true rfl rfl (.inl (gF g1)) rfl ?_
  refine SOps.skip rfl 2 5 true rfl rfl (.inl (gF g1)) rfl ?_
  refine SOps.q rfl (.plain rfl) rfl (q_pick_f rfl rfl g1 rfl) ?_
  refine SOps.q rfl (.plain rfl) rfl (q_assign rfl rfl) ?_
  refine SOps.sub (st' := ⟨[(2, .c (.bool false))], []⟩) (sub_gen [] rfl rfl ⟨zc rfl rfl, trivial⟩ trivial) ?_
  refine SOps.nil ?_
  refine SCode.ret ?_
  obtain rfl := Option.some.inj h
  exact ⟨⟨[(2, .c (.bool false))], []⟩, _, sub_gen [] rfl rfl ⟨zc rfl rfl, trivial⟩ trivial, resA1 (v := .c (.bool false)) rfl rfl, rfl⟩
set_option maxRecDepth 100000 in
set_option maxHeartbeats 8000000 in
theorem series_isValue_ok (F : Nat) (a0_v : Int) (r : Bool) (h : series_isValue F a0_v = some r) :
    SFun Try.prog 28 [] [.c (.int .i64 a0_v)] (fun x _ => x = .c (.bool r)) := by
  refine SFun.of (n := 9) Try.func28 rfl rfl rfl ?_
  unfold series_isValue at h
  show SCode _ _ _ ⟨[(0, .c (.int .i64 a0_v))], []⟩ _
  refine SCode.seq ?_
  refine SCode.region (show SOps _ _ _ [0] _ _ from ?_)
  refine SOps.q rfl (.plain rfl) rfl (q_assign rfl rfl) ?_
  refine SOps.sub (st' := ⟨[(0, .c (.int .i64 a0_v))], []⟩) (sub_gen [] rfl rfl ⟨zc rfl rfl, trivial⟩ trivial) ?_
  refine SOps.nil ?_
  refine SCode.seq ?_
  rcases cond_out h with ⟨g1, h⟩ | ⟨g1, h⟩
  · refine SCode.region (show SOps _ _ _ [0, 1, 2, 3, 4, 5, 6] _ _ from ?_)
    refine SOps.q rfl (.plain rfl) rfl (q_move rfl rfl) ?_
    refine SOps.q rfl (.plain rfl) rfl (q_geq rfl rfl rfl) ?_
    refine SOps.q rfl (.plain rfl) rfl (q_move rfl rfl) ?_
    refine SOps.q rfl (.guard 2 5 true rfl rfl (gT g1)) rfl (q_move rfl rfl) ?_
    refine SOps.q rfl (.guard 2 5 true rfl rfl (gT g1)) rfl (q_leq rfl rfl rfl) ?_
    refine SOps.q rfl (.plain rfl) rfl (q_pick_t rfl rfl g1 rfl) ?_
    refine SOps.q rfl (.plain rfl) rfl (q_assign rfl rfl) ?_
    refine SOps.sub (st' := ⟨[(2, .c (.bool (decide (a0_v ≤ 1099511627776))))], []⟩) (sub_gen [] rfl rfl ⟨zc rfl rfl, trivial⟩ trivial) ?_
    refine SOps.nil ?_
    refine SCode.ret ?_
    obtain rfl := Option.some.inj h
    exact ⟨⟨[(2, .c (.bool (decide (a0_v ≤ 1099511627776))))], []⟩, _, sub_gen [] rfl rfl ⟨zc rfl rfl, trivial⟩ trivial, resA1 (v := .c (.bool (decide (a0_v ≤ 1099511627776)))) rfl rfl, rfl⟩
  refine SCode.region (show SOps _ _ _ [0, 1, 2, 3, 4, 5, 6] _ _ from ?_)
  refine SOps.q rfl (.plain rfl) rfl (q_move rfl rfl) ?_
  refine SOps.q rfl (.plain rfl) rfl (q_geq rfl rfl rfl) ?_
  refine SOps.q rfl (.plain rfl) rfl (q_move rfl rfl) ?_
  refine SOps.skip rfl 2 5 true rfl rfl (.inl (gF g1)) rfl ?_
  refine SOps.skip rfl 2 5 true rfl rfl (.inl (gF g1)) rfl ?_
  refine SOps.q rfl (.plain rfl) rfl (q_pick_f rfl rfl g1 rfl) ?_
  refine SOps.q rfl (.plain rfl) rfl (q_assign rfl rfl) ?_
  refine SOps.sub (st' := ⟨[(2, .c (.bool false))], []⟩) (sub_gen [] rfl rfl ⟨zc rfl rfl, trivial⟩ trivial) ?_
  refine SOps.nil ?_
  refine SCode.ret ?_
  obtain rfl := Option.some.inj h
  exact ⟨⟨[(2, .c (.bool false))], []⟩, _, sub_gen [] rfl rfl ⟨zc rfl rfl, trivial⟩ trivial, resA1 (v := .c (.bool false)) rfl rfl, rfl⟩
set_option maxRecDepth 100000 in
set_option maxHeartbeats 8000000 in
theorem series_Valid_ok (F : Nat) (a0_l : List SStep) (r : Int) (h : series_Valid F a0_l = some r) :
    SFun Try.prog 19 [] [.c (.vec a0_l.length 2 (gL cSStep dSStep a0_l))] (fun x _ => x = .c (.int .i64 r)) := by
  refine SFun.of (n := 39) Try.func19 rfl rfl rfl ?_
  unfold series_Valid at h
  show SCode _ _ _ ⟨[(0, .c (.vec a0_l.length 2 (gL cSStep dSStep a0_l)))], []⟩ _
  refine SCode.seq ?_
  refine SCode.region (show SOps _ _ _ [0] _ _ from ?_)
  refine SOps.q rfl (.plain rfl) rfl (q_assign rfl rfl) ?_
  refine SOps.sub (st' := ⟨[(0, .c (.vec a0_l.length 2 (gL cSStep dSStep a0_l)))], []⟩) (sub_gen [] rfl rfl ⟨zc rfl rfl, trivial⟩ trivial) ?_
  refine SOps.nil ?_
  refine SCode.seq ?_
  refine SCode.seq ?_
  refine SCode.region (show SOps _ _ _ [0, 1, 2] _ _ from ?_)
  refine SOps.q rfl (.plain rfl) rfl (q_move rfl rfl) ?_
  refine SOps.q rfl (.plain rfl) rfl (q_len_vec rfl rfl sl34) ?_
  refine SOps.q rfl (.plain rfl) rfl (q_gtr rfl rfl rfl) ?_
  refine SOps.sub (st' := ⟨[(0, .c (.vec a0_l.length 2 (gL cSStep dSStep a0_l))), (7, .c (.bool (decide (512 < ((a0_l).length : Int)))))], []⟩) (sub_gen [] rfl rfl ⟨zc rfl rfl, zc rfl rfl, trivial⟩ trivial) ?_
  refine SOps.nil ?_
  rcases cond_out h with ⟨g1, h⟩ | ⟨g1, h⟩
  · refine SCode.cond_t rfl g1 ?_
    refine SCode.seq ?_
    refine SCode.region (show SOps _ _ _ [0] _ _ from ?_)
    refine SOps.q rfl (.plain rfl) rfl (q_assign rfl rfl) ?_
    refine SOps.sub (st' := ⟨[(2, .c (.int .i64 3))], []⟩) (sub_gen [] rfl rfl ⟨zc rfl rfl, trivial⟩ trivial) ?_
    refine SOps.nil ?_
    refine SCode.ret ?_
    obtain rfl := Option.some.inj h
    exact ⟨⟨[(2, .c (.int .i64 3))], []⟩, _, sub_gen [] rfl rfl ⟨zc rfl rfl, trivial⟩ trivial, resA1 (v := .c (.int .i64 3)) rfl rfl, rfl⟩
  refine SCode.cond_f rfl g1 ?_
  refine SCode.skip ?_
  refine SCode.join (σ := Unit) (S := fun s => ⟨[], []⟩) (g := fun s => series_Valid_p2 = some r) ?_ ?_
  rotate_left
  · refine SCode.seq ?_
    refine SCode.region (show SOps _ _ _ [0, 1, 2] _ _ from ?_)
    refine SOps.q rfl (.plain rfl) rfl (q_move rfl rfl) ?_
    refine SOps.q rfl (.plain rfl) rfl (q_len_vec rfl rfl sl34) ?_
    refine SOps.q rfl (.plain rfl) rfl (q_move rfl rfl) ?_
    refine SOps.sub (st' := ⟨[(0, .c (.vec a0_l.length 2 (gL cSStep dSStep a0_l))), (8, .c (.vec a0_l.length 2 (gL cSStep dSStep a0_l))), (9, .c (.int .i64 (((a0_l).length : Int)))), (10, .c (.int .i64 0))], []⟩) (sub_gen [] rfl rfl ⟨zc rfl rfl, zc rfl rfl, zc rfl rfl, zc rfl rfl, trivial⟩ trivial) ?_
    refine SOps.nil ?_
    refine SCode.block ?_
    refine SCode.sub (st' := ⟨[(0, .c (.vec a0_l.length 2 (gL cSStep dSStep a0_l))), (8, .c (.vec a0_l.length 2 (gL cSStep dSStep a0_l))), (9, .c (.int .i64 (((a0_l).length : Int)))), (10, .c (.int .i64 0))], []⟩) (sub_gen [] rfl rfl ⟨zc rfl rfl, zc rfl rfl, zc rfl rfl, zc rfl rfl, trivial⟩ trivial) ?_
    refine (SCode.loop (σ := Nat × Int) (S := fun s => ⟨[(0, .c (.vec a0_l.length 2 (gL cSStep dSStep a0_l))), (8, .c (.vec a0_l.length 2 (gL cSStep dSStep a0_l))), (9, .c (.int .i64 (((a0_l).length : Int)))), (10, .c (.int .i64 s.2))], []⟩) (g := fun s => series_Valid_l28 F a0_l s.1 s.2 = some r) (μ := fun s => s.1) (F, 0) h ?_)
    rintro ⟨n_28, t10_15⟩ h
    replace h : series_Valid_l28 F a0_l n_28 t10_15 = some r := h
    show SCode _ _ _ ⟨[(0, .c (.vec a0_l.length 2 (gL cSStep dSStep a0_l))), (8, .c (.vec a0_l.length 2 (gL cSStep dSStep a0_l))), (9, .c (.int .i64 (((a0_l).length : Int)))), (10, .c (.int .i64 t10_15))], []⟩ _
    cases n_28 with
    | zero => cases h
    | succ n_28 =>
      replace h : series_Valid_b28 F a0_l (fun t10_15 => series_Valid_l28 F a0_l n_28 t10_15) t10_15 = some r := h
      unfold series_Valid_b28 at h
      refine SCode.seq ?_
      refine SCode.region (show SOps _ _ _ [0] _ _ from ?_)
      refine SOps.q rfl (.plain rfl) rfl (q_lss rfl rfl rfl) ?_
      refine SOps.sub (st' := ⟨[(0, .c (.vec a0_l.length 2 (gL cSStep dSStep a0_l))), (8, .c (.vec a0_l.length 2 (gL cSStep dSStep a0_l))), (9, .c (.int .i64 (((a0_l).length : Int)))), (10, .c (.int .i64 t10_15)), (11, .c (.bool (decide (t10_15 < ((a0_l).length : Int)))))], []⟩) (sub_gen [] rfl rfl ⟨zc rfl rfl, zc rfl rfl, zc rfl rfl, zc rfl rfl, zc rfl rfl, trivial⟩ trivial) ?_
      refine SOps.nil ?_
      refine SCode.seq ?_
      rcases cond_out h with ⟨g29, h⟩ | ⟨g29, h⟩
      · refine SCode.cond_t rfl g29 ?_
        refine SCode.skip ?_
        refine SCode.join (σ := Unit) (S := fun s => ⟨[(0, .c (.vec a0_l.length 2 (gL cSStep dSStep a0_l))), (8, .c (.vec a0_l.length 2 (gL cSStep dSStep a0_l))), (9, .c (.int .i64 (((a0_l).length : Int)))), (10, .c (.int .i64 t10_15))], []⟩) (g := fun s => series_Valid_p30 t10_15 (fun t10_15 => series_Valid_l28 F a0_l n_28 t10_15) = some r) ?_ ?_
        rotate_left
        · refine SCode.block ?_
          refine SCode.seq ?_
          obtain ⟨g31, h⟩ := guard_out h
          refine SCode.region (show SOps _ _ _ [0, 1, 2, 3, 4, 5] _ _ from ?_)
          refine SOps.q rfl (.plain rfl) rfl (q_move rfl rfl) ?_
          refine SOps.q rfl (.plain rfl) rfl (q_index_vec rfl rfl rfl sl34 rfl g31.1 g31.2) ?_
          refine SOps.q rfl (.plain rfl) rfl (q_load_eptr_all rfl rfl rfl ty51) ?_
          refine SOps.e rfl (.plain rfl) (e_alloc rfl rfl rfl z51) ?_
          refine SOps.q rfl (.plain rfl) rfl (q_assign rfl rfl) ?_
          refine SOps.e rfl (.plain rfl) (e_store_box rfl rfl rfl rfl rfl ty51 rfl rfl rfl rfl) ?_
          refine SOps.sub (st' := ⟨[(0, .c (.vec a0_l.length 2 (gL cSStep dSStep a0_l))), (3, .c (.int .i64 t10_15)), (4, .c (.ptr 0 0)), (8, .c (.vec a0_l.length 2 (gL cSStep dSStep a0_l))), (9, .c (.int .i64 (((a0_l).length : Int)))), (10, .c (.int .i64 t10_15))], [.box [.int .i64 ((a0_l.getD t10_15.toNat dSStep).At), .int .i64 ((a0_l.getD t10_15.toNat dSStep).Value)]]⟩) (sub_gen [0] rfl rfl ⟨zc rfl rfl, zc rfl rfl, zc rfl rfl, zc rfl rfl, zc rfl rfl, zc rfl rfl, trivial⟩ ⟨⟨_, rfl, ⟨ii rfl rfl, ii rfl rfl, trivial⟩⟩, trivial⟩) ?_
          refine SOps.nil ?_
          refine SCode.seq ?_
          refine SCode.seq ?_
          obtain ⟨c_32, g33, h⟩ := bind_out h
          try dsimp only at h
          rcases cond_out h with ⟨g34, h⟩ | ⟨g34, h⟩
          · refine SCode.region (show SOps _ _ _ [0, 1, 2, 3, 4, 5, 6, 7, 8, 9] _ _ from ?_)
            refine SOps.q rfl (.plain rfl) rfl (q_field_ptr rfl rfl fd51_0) ?_
            refine SOps.q rfl (.plain rfl) rfl (q_load_ptr rfl rfl rfl rfl ty3) ?_
            refine SOps.q rfl (.plain rfl) rfl (q_call (series_isTime_ok F ((a0_l.getD t10_15.toNat dSStep).At) c_32 g33) [] rfl fn27 ⟨⟨_, rfl, .inl ⟨rfl, rfl⟩⟩, trivial⟩ (.inl rfl)) ?_
            refine SOps.q rfl (.plain rfl) rfl (q_not rfl rfl) ?_
            refine SOps.q rfl (.plain rfl) rfl (q_move rfl rfl) ?_
            refine SOps.skip rfl 4 19 false rfl rfl (.inl (gT g34)) rfl ?_
            refine SOps.skip rfl 4 19 false rfl rfl (.inl (gT g34)) rfl ?_
            refine SOps.skip rfl 4 19 false rfl rfl (.inl (gT g34)) rfl ?_
            refine SOps.skip rfl 4 19 false rfl rfl (.inl (gT g34)) rfl ?_
            refine SOps.q rfl (.plain rfl) rfl (q_pick_t rfl rfl g34 rfl) ?_
            refine SOps.sub (st' := ⟨[(0, .c (.vec a0_l.length 2 (gL cSStep dSStep a0_l))), (3, .c (.int .i64 t10_15)), (4, .c (.ptr 0 0)), (8, .c (.vec a0_l.length 2 (gL cSStep dSStep a0_l))), (9, .c (.int .i64 (((a0_l).length : Int)))), (10, .c (.int .i64 t10_15)), (24, .c (.bool true))], [.box [.int .i64 ((a0_l.getD t10_15.toNat dSStep).At), .int .i64 ((a0_l.getD t10_15.toNat dSStep).Value)]]⟩) (sub_gen [0] rfl rfl ⟨zc rfl rfl, zc rfl rfl, zc rfl rfl, zc rfl rfl, zc rfl rfl, zc rfl rfl, zc rfl rfl, trivial⟩ ⟨⟨_, rfl, ⟨ii rfl rfl, ii rfl rfl, trivial⟩⟩, trivial⟩) ?_
            refine SOps.nil ?_
            refine SCode.cond_t rfl rfl ?_
            refine SCode.seq ?_
            refine SCode.region (show SOps _ _ _ [0] _ _ from ?_)
            refine SOps.q rfl (.plain rfl) rfl (q_assign rfl rfl) ?_
            refine SOps.sub (st' := ⟨[(2, .c (.int .i64 2))], []⟩) (sub_gen [] rfl rfl ⟨zc rfl rfl, trivial⟩ trivial) ?_
            refine SOps.nil ?_
            refine SCode.ret ?_
            obtain rfl := Option.some.inj h
            exact ⟨⟨[(2, .c (.int .i64 2))], []⟩, _, sub_gen [] rfl rfl ⟨zc rfl rfl, trivial⟩ trivial, resA1 (v := .c (.int .i64 2)) rfl rfl, rfl⟩
          obtain ⟨c_35, g36, h⟩ := bind_out h
          try dsimp only at h
          refine SCode.region (show SOps _ _ _ [0, 1, 2, 3, 4, 5, 6, 7, 8, 9] _ _ from ?_)
          refine SOps.q rfl (.plain rfl) rfl (q_field_ptr rfl rfl fd51_0) ?_
          refine SOps.q rfl (.plain rfl) rfl (q_load_ptr rfl rfl rfl rfl ty3) ?_
          refine SOps.q rfl (.plain rfl) rfl (q_call (series_isTime_ok F ((a0_l.getD t10_15.toNat dSStep).At) c_32 g33) [] rfl fn27 ⟨⟨_, rfl, .inl ⟨rfl, rfl⟩⟩, trivial⟩ (.inl rfl)) ?_
          refine SOps.q rfl (.plain rfl) rfl (q_not rfl rfl) ?_
          refine SOps.q rfl (.plain rfl) rfl (q_move rfl rfl) ?_
          refine SOps.q rfl (.guard 4 19 false rfl rfl (gF g34)) rfl (q_field_ptr rfl rfl fd51_1) ?_
          refine SOps.q rfl (.guard 4 19 false rfl rfl (gF g34)) rfl (q_load_ptr rfl rfl rfl rfl ty3) ?_
          refine SOps.q rfl (.guard 4 19 false rfl rfl (gF g34)) rfl (q_call (series_isValue_ok F ((a0_l.getD t10_15.toNat dSStep).Value) c_35 g36) [] rfl fn28 ⟨⟨_, rfl, .inl ⟨rfl, rfl⟩⟩, trivial⟩ (.inl rfl)) ?_
          refine SOps.q rfl (.guard 4 19 false rfl rfl (gF g34)) rfl (q_not rfl rfl) ?_
          refine SOps.q rfl (.plain rfl) rfl (q_pick_f rfl rfl g34 rfl) ?_
          refine SOps.sub (st' := ⟨[(0, .c (.vec a0_l.length 2 (gL cSStep dSStep a0_l))), (3, .c (.int .i64 t10_15)), (4, .c (.ptr 0 0)), (8, .c (.vec a0_l.length 2 (gL cSStep dSStep a0_l))), (9, .c (.int .i64 (((a0_l).length : Int)))), (10, .c (.int .i64 t10_15)), (24, .c (.bool ((!c_35))))], [.box [.int .i64 ((a0_l.getD t10_15.toNat dSStep).At), .int .i64 ((a0_l.getD t10_15.toNat dSStep).Value)]]⟩) (sub_gen [0] rfl rfl ⟨zc rfl rfl, zc rfl rfl, zc rfl rfl, zc rfl rfl, zc rfl rfl, zc rfl rfl, zc rfl rfl, trivial⟩ ⟨⟨_, rfl, ⟨ii rfl rfl, ii rfl rfl, trivial⟩⟩, trivial⟩) ?_
          refine SOps.nil ?_
          rcases cond_out h with ⟨g37, h⟩ | ⟨g37, h⟩
          · refine SCode.cond_t rfl g37 ?_
            refine SCode.seq ?_
            refine SCode.region (show SOps _ _ _ [0] _ _ from ?_)
            refine SOps.q rfl (.plain rfl) rfl (q_assign rfl rfl) ?_
            refine SOps.sub (st' := ⟨[(2, .c (.int .i64 2))], []⟩) (sub_gen [] rfl rfl ⟨zc rfl rfl, trivial⟩ trivial) ?_
            refine SOps.nil ?_
            refine SCode.ret ?_
            obtain rfl := Option.some.inj h
            exact ⟨⟨[(2, .c (.int .i64 2))], []⟩, _, sub_gen [] rfl rfl ⟨zc rfl rfl, trivial⟩ trivial, resA1 (v := .c (.int .i64 2)) rfl rfl, rfl⟩
          refine SCode.cond_f rfl g37 ?_
          refine SCode.skip ?_
          refine SCode.seq ?_
          rcases cond_out h with ⟨g38, h⟩ | ⟨g38, h⟩
          · obtain ⟨g39, h⟩ := guard_out h
            refine SCode.draw (s' := [(37, .c (.bool (decide ((a0_l.getD t10_15.toNat dSStep).At ≤ (a0_l.getD (IntKind.wrap .i64 (t10_15 - 1)).toNat dSStep).At)))), (36, .c (.bool (decide ((a0_l.getD t10_15.toNat dSStep).At ≤ (a0_l.getD (IntKind.wrap .i64 (t10_15 - 1)).toNat dSStep).At)))), (35, .c (.int .i64 ((a0_l.getD (IntKind.wrap .i64 (t10_15 - 1)).toNat dSStep).At))), (34, .c (.eptr 2 (cSStep (a0_l.getD (IntKind.wrap .i64 (t10_15 - 1)).toNat dSStep)) 0)), (33, .c (.eptr 2 (cSStep (a0_l.getD (IntKind.wrap .i64 (t10_15 - 1)).toNat dSStep)) 0)), (32, .c (.int .i64 (IntKind.wrap .i64 (t10_15 - 1)))), (31, .c (.int .i64 t10_15)), (30, .c (.vec a0_l.length 2 (gL cSStep dSStep a0_l))), (29, .c (.int .i64 ((a0_l.getD t10_15.toNat dSStep).At))), (28, .c (.ptr 0 0)), (27, .c (.bool (decide (0 < t10_15)))), (26, .c (.bool (decide (0 < t10_15)))), (25, .c (.int .i64 t10_15)), (0, .c (.vec a0_l.length 2 (gL cSStep dSStep a0_l))), (3, .c (.int .i64 t10_15)), (4, .c (.ptr 0 0)), (8, .c (.vec a0_l.length 2 (gL cSStep dSStep a0_l))), (9, .c (.int .i64 (((a0_l).length : Int)))), (10, .c (.int .i64 t10_15)), (24, .c (.bool ((!c_35))))]) mixed [[], [0], [0, 1], [0, 1, 2], [0, 1, 2, 3], [0, 1, 2], [0, 1, 2], [0, 1, 2, 6], [0, 1, 2, 5, 6, 7], [0, 1, 2, 5, 6, 7, 8], [0, 1, 2, 5, 6, 7, 8, 9], [0, 1, 2, 3, 4, 5, 6, 7, 8, 9, 10], [0, 1, 2, 3, 4, 5, 6, 7, 8, 9, 10, 11]] 13 0 rfl rfl ?_ ?_
            · refine QChain.run rfl (.plain rfl) rfl (q_move rfl rfl) ?_
              refine QChain.run rfl (.plain rfl) rfl (q_gtr rfl rfl rfl) ?_
              refine QChain.run rfl (.plain rfl) rfl (q_move rfl rfl) ?_
              refine QChain.run rfl (.guard 2 27 true rfl rfl (gT g38)) rfl (q_field_ptr rfl rfl fd51_0) ?_
              refine QChain.run rfl (.guard 2 27 true rfl rfl (gT g38)) rfl (q_load_ptr rfl rfl rfl rfl ty3) ?_
              refine QChain.run rfl (.guard 2 27 true rfl rfl (gT g38)) rfl (q_move rfl rfl) ?_
              refine QChain.run rfl (.guard 2 27 true rfl rfl (gT g38)) rfl (q_move rfl rfl) ?_
              refine QChain.run rfl (.guard 2 27 true rfl rfl (gT g38)) rfl (q_sub rfl rfl rfl) ?_
              refine QChain.run rfl (.guard 2 27 true rfl rfl (gT g38)) rfl (q_index_vec rfl rfl rfl sl34 rfl g39.1 g39.2) ?_
              refine QChain.run rfl (.guard 2 27 true rfl rfl (gT g38)) rfl (q_field_eptr rfl rfl fd51_0 rfl) ?_
              refine QChain.run rfl (.guard 2 27 true rfl rfl (gT g38)) rfl (q_load_eptr rfl rfl ty3) ?_
              refine QChain.run rfl (.guard 2 27 true rfl rfl (gT g38)) rfl (q_leq rfl rfl rfl) ?_
              refine QChain.run rfl (.plain rfl) rfl (q_pick_t rfl rfl g38 rfl) ?_
              exact QChain.nil _ _
            refine (show SOps _ _ _ [] _ _ from ?_)
            refine SOps.sub (st' := ⟨[(0, .c (.vec a0_l.length 2 (gL cSStep dSStep a0_l))), (8, .c (.vec a0_l.length 2 (gL cSStep dSStep a0_l))), (9, .c (.int .i64 (((a0_l).length : Int)))), (10, .c (.int .i64 t10_15)), (37, .c (.bool (decide ((a0_l.getD t10_15.toNat dSStep).At ≤ (a0_l.getD (IntKind.wrap .i64 (t10_15 - 1)).toNat dSStep).At))))], []⟩) (sub_gen [] rfl rfl ⟨zc rfl rfl, zc rfl rfl, zc rfl rfl, zc rfl rfl, zc rfl rfl, trivial⟩ trivial) ?_
            refine SOps.nil ?_
            rcases cond_out h with ⟨g40, h⟩ | ⟨g40, h⟩
            · refine SCode.cond_t rfl g40 ?_
              refine SCode.seq ?_
              refine SCode.region (show SOps _ _ _ [0] _ _ from ?_)
              refine SOps.q rfl (.plain rfl) rfl (q_assign rfl rfl) ?_
              refine SOps.sub (st' := ⟨[(2, .c (.int .i64 1))], []⟩) (sub_gen [] rfl rfl ⟨zc rfl rfl, trivial⟩ trivial) ?_
              refine SOps.nil ?_
              refine SCode.ret ?_
              obtain rfl := Option.some.inj h
              exact ⟨⟨[(2, .c (.int .i64 1))], []⟩, _, sub_gen [] rfl rfl ⟨zc rfl rfl, trivial⟩ trivial, resA1 (v := .c (.int .i64 1)) rfl rfl, rfl⟩
            refine SCode.cond_f rfl g40 ?_
            refine SCode.skip ?_
            exact ⟨(), h, sub_gen [] rfl rfl ⟨zc rfl rfl, zc rfl rfl, zc rfl rfl, zc rfl rfl, trivial⟩ trivial⟩
          refine SCode.draw (s' := [(37, .c (.bool false)), (36, .c (.raw (.tuple #[]))), (35, .c (.raw (.tuple #[]))), (34, .c (.raw (.tuple #[]))), (33, .c (.raw (.tuple #[]))), (32, .c (.raw (.tuple #[]))), (31, .c (.raw (.tuple #[]))), (30, .c (.raw (.tuple #[]))), (29, .c (.raw (.tuple #[]))), (28, .c (.raw (.tuple #[]))), (27, .c (.bool (decide (0 < t10_15)))), (26, .c (.bool (decide (0 < t10_15)))), (25, .c (.int .i64 t10_15)), (0, .c (.vec a0_l.length 2 (gL cSStep dSStep a0_l))), (3, .c (.int .i64 t10_15)), (4, .c (.ptr 0 0)), (8, .c (.vec a0_l.length 2 (gL cSStep dSStep a0_l))), (9, .c (.int .i64 (((a0_l).length : Int)))), (10, .c (.int .i64 t10_15)), (24, .c (.bool ((!c_35))))]) mixed [[], [0], [0, 1], [0, 1, 2], [0, 1, 2, 3], [0, 1, 2], [0, 1, 2], [0, 1, 2, 6], [0, 1, 2, 5, 6, 7], [0, 1, 2, 5, 6, 7, 8], [0, 1, 2, 5, 6, 7, 8, 9], [0, 1, 2, 3, 4, 5, 6, 7, 8, 9, 10], [0, 1, 2, 3, 4, 5, 6, 7, 8, 9, 10, 11]] 13 0 rfl rfl ?_ ?_
          · refine QChain.run rfl (.plain rfl) rfl (q_move rfl rfl) ?_
            refine QChain.run rfl (.plain rfl) rfl (q_gtr rfl rfl rfl) ?_
            refine QChain.run rfl (.plain rfl) rfl (q_move rfl rfl) ?_
            refine QChain.skip rfl ⟨2, 27, true, rfl, rfl, (.inl (gF g38))⟩ rfl ?_
            refine QChain.skip rfl ⟨2, 27, true, rfl, rfl, (.inl (gF g38))⟩ rfl ?_
            refine QChain.skip rfl ⟨2, 27, true, rfl, rfl, (.inl (gF g38))⟩ rfl ?_
            refine QChain.skip rfl ⟨2, 27, true, rfl, rfl, (.inl (gF g38))⟩ rfl ?_
            refine QChain.skip rfl ⟨2, 27, true, rfl, rfl, (.inl (gF g38))⟩ rfl ?_
            refine QChain.skip rfl ⟨2, 27, true, rfl, rfl, (.inl (gF g38))⟩ rfl ?_
            refine QChain.skip rfl ⟨2, 27, true, rfl, rfl, (.inl (gF g38))⟩ rfl ?_
            refine QChain.skip rfl ⟨2, 27, true, rfl, rfl, (.inl (gF g38))⟩ rfl ?_
            refine QChain.skip rfl ⟨2, 27, true, rfl, rfl, (.inl (gF g38))⟩ rfl ?_
            refine QChain.run rfl (.plain rfl) rfl (q_pick_f rfl rfl g38 rfl) ?_
            exact QChain.nil _ _
          refine (show SOps _ _ _ [] _ _ from ?_)
          refine SOps.sub (st' := ⟨[(0, .c (.vec a0_l.length 2 (gL cSStep dSStep a0_l))), (8, .c (.vec a0_l.length 2 (gL cSStep dSStep a0_l))), (9, .c (.int .i64 (((a0_l).length : Int)))), (10, .c (.int .i64 t10_15)), (37, .c (.bool false))], []⟩) (sub_gen [] rfl rfl ⟨zc rfl rfl, zc rfl rfl, zc rfl rfl, zc rfl rfl, zc rfl rfl, trivial⟩ trivial) ?_
          refine SOps.nil ?_
          refine SCode.cond_f rfl rfl ?_
          refine SCode.skip ?_
          exact ⟨(), h, sub_gen [] rfl rfl ⟨zc rfl rfl, zc rfl rfl, zc rfl rfl, zc rfl rfl, trivial⟩ trivial⟩
        rintro ⟨⟩ h
        show SCode _ _ _ ⟨[(0, .c (.vec a0_l.length 2 (gL cSStep dSStep a0_l))), (8, .c (.vec a0_l.length 2 (gL cSStep dSStep a0_l))), (9, .c (.int .i64 (((a0_l).length : Int)))), (10, .c (.int .i64 t10_15))], []⟩ _
        replace h : series_Valid_p30 t10_15 (fun t10_15 => series_Valid_l28 F a0_l n_28 t10_15) = some r := h
        unfold series_Valid_p30 at h
        refine SCode.region (show SOps _ _ _ [0, 1] _ _ from ?_)
        refine SOps.q rfl (.plain rfl) rfl (q_add rfl rfl rfl) ?_
        refine SOps.q rfl (.plain rfl) rfl (q_move rfl rfl) ?_
        refine SOps.sub (st' := ⟨[(0, .c (.vec a0_l.length 2 (gL cSStep dSStep a0_l))), (8, .c (.vec a0_l.length 2 (gL cSStep dSStep a0_l))), (9, .c (.int .i64 (((a0_l).length : Int)))), (10, .c (.int .i64 (IntKind.wrap .i64 (t10_15 + 1))))], []⟩) (sub_gen [] rfl rfl ⟨zc rfl rfl, zc rfl rfl, zc rfl rfl, zc rfl rfl, trivial⟩ trivial) ?_
        refine SOps.nil ?_
        exact ⟨(n_28, IntKind.wrap .i64 (t10_15 + 1)), h, Nat.lt_succ_self n_28, sub_gen [] rfl rfl ⟨zc rfl rfl, zc rfl rfl, zc rfl rfl, zc rfl rfl, trivial⟩ trivial⟩
      refine SCode.cond_f rfl g29 ?_
      refine SCode.exit ?_
      exact ⟨(), h, sub_gen [] rfl rfl trivial trivial⟩
  rintro ⟨⟩ h
  show SCode _ _ _ ⟨[], []⟩ _
  replace h : series_Valid_p2 = some r := h
  unfold series_Valid_p2 at h
  refine SCode.seq ?_
  refine SCode.region (show SOps _ _ _ [0] _ _ from ?_)
  refine SOps.q rfl (.plain rfl) rfl (q_assign rfl rfl) ?_
  refine SOps.sub (st' := ⟨[(2, .c (.int .i64 0))], []⟩) (sub_gen [] rfl rfl ⟨zc rfl rfl, trivial⟩ trivial) ?_
  refine SOps.nil ?_
  refine SCode.ret ?_
  obtain rfl := Option.some.inj h
  exact ⟨⟨[(2, .c (.int .i64 0))], []⟩, _, sub_gen [] rfl rfl ⟨zc rfl rfl, trivial⟩ trivial, resA1 (v := .c (.int .i64 0)) rfl rfl, rfl⟩
set_option maxRecDepth 100000 in
set_option maxHeartbeats 8000000 in
theorem series_isSpan_ok (F : Nat) (a0_s : SSpan) (r : Bool) (h : series_isSpan F a0_s = some r) :
    SFun Try.prog 20 [] [.a [.int .i64 a0_s.From, .int .i64 a0_s.To]] (fun x _ => x = .c (.bool r)) := by
  refine SFun.of (n := 18) Try.func20 rfl rfl rfl ?_
  unfold series_isSpan at h
  show SCode _ _ _ ⟨[(0, .a [.int .i64 a0_s.From, .int .i64 a0_s.To])], []⟩ _
  refine SCode.seq ?_
  refine SCode.region (show SOps _ _ _ [0, 1] _ _ from ?_)
  refine SOps.e rfl (.plain rfl) (e_box rfl rfl rfl rfl rfl rfl) ?_
  refine SOps.q rfl (.plain rfl) rfl (q_assign rfl rfl) ?_
  refine SOps.sub (st' := ⟨[(1, .c (.ptr 0 0))], [.box [.int .i64 a0_s.From, .int .i64 a0_s.To]]⟩) (sub_gen [0] rfl rfl ⟨zc rfl rfl, trivial⟩ ⟨⟨_, rfl, ⟨ii rfl rfl, ii rfl rfl, trivial⟩⟩, trivial⟩) ?_
  refine SOps.nil ?_
  refine SCode.seq ?_
  rcases cond_out h with ⟨g1, h⟩ | ⟨g1, h⟩
  · rcases cond_out h with ⟨g2, h⟩ | ⟨g2, h⟩
    · refine SCode.region (show SOps _ _ _ [0, 1, 2, 3, 4, 5, 6, 7, 8, 9, 10, 11, 12, 13, 14, 15] _ _ from ?_)
      refine SOps.q rfl (.plain rfl) rfl (q_field_ptr rfl rfl fd26_0) ?_
      refine SOps.q rfl (.plain rfl) rfl (q_load_ptr rfl rfl rfl rfl ty3) ?_
      refine SOps.q rfl (.plain rfl) rfl (q_geq rfl rfl rfl) ?_
      refine SOps.q rfl (.plain rfl) rfl (q_move rfl rfl) ?_
      refine SOps.q rfl (.guard 3 6 true rfl rfl (gT g1)) rfl (q_field_ptr rfl rfl fd26_0) ?_
      refine SOps.q rfl (.guard 3 6 true rfl rfl (gT g1)) rfl (q_load_ptr rfl rfl rfl rfl ty3) ?_
      refine SOps.q rfl (.guard 3 6 true rfl rfl (gT g1)) rfl (q_field_ptr rfl rfl fd26_1) ?_
      refine SOps.q rfl (.guard 3 6 true rfl rfl (gT g1)) rfl (q_load_ptr rfl rfl rfl rfl ty3) ?_
      refine SOps.q rfl (.guard 3 6 true rfl rfl (gT g1)) rfl (q_leq rfl rfl rfl) ?_
      refine SOps.q rfl (.plain rfl) rfl (q_pick_t rfl rfl g1 rfl) ?_
      refine SOps.q rfl (.plain rfl) rfl (q_move rfl rfl) ?_
      refine SOps.q rfl (.guard 10 13 true rfl rfl (gT g2)) rfl (q_field_ptr rfl rfl fd26_1) ?_
      refine SOps.q rfl (.guard 10 13 true rfl rfl (gT g2)) rfl (q_load_ptr rfl rfl rfl rfl ty3) ?_
      refine SOps.q rfl (.guard 10 13 true rfl rfl (gT g2)) rfl (q_leq rfl rfl rfl) ?_
      refine SOps.q rfl (.plain rfl) rfl (q_pick_t rfl rfl g2 rfl) ?_
      refine SOps.q rfl (.plain rfl) rfl (q_assign rfl rfl) ?_
      refine SOps.sub (st' := ⟨[(2, .c (.bool (decide (a0_s.To ≤ 268435456))))], []⟩) (sub_gen [] rfl rfl ⟨zc rfl rfl, trivial⟩ trivial) ?_
      refine SOps.nil ?_
      refine SCode.ret ?_
      obtain rfl := Option.some.inj h
      exact ⟨⟨[(2, .c (.bool (decide (a0_s.To ≤ 268435456))))], []⟩, _, sub_gen [] rfl rfl ⟨zc rfl rfl, trivial⟩ trivial, resA1 (v := .c (.bool (decide (a0_s.To ≤ 268435456)))) rfl rfl, rfl⟩
    refine SCode.region (show SOps _ _ _ [0, 1, 2, 3, 4, 5, 6, 7, 8, 9, 10, 11, 12, 13, 14, 15] _ _ from ?_)
    refine SOps.q rfl (.plain rfl) rfl (q_field_ptr rfl rfl fd26_0) ?_
    refine SOps.q rfl (.plain rfl) rfl (q_load_ptr rfl rfl rfl rfl ty3) ?_
    refine SOps.q rfl (.plain rfl) rfl (q_geq rfl rfl rfl) ?_
    refine SOps.q rfl (.plain rfl) rfl (q_move rfl rfl) ?_
    refine SOps.q rfl (.guard 3 6 true rfl rfl (gT g1)) rfl (q_field_ptr rfl rfl fd26_0) ?_
    refine SOps.q rfl (.guard 3 6 true rfl rfl (gT g1)) rfl (q_load_ptr rfl rfl rfl rfl ty3) ?_
    refine SOps.q rfl (.guard 3 6 true rfl rfl (gT g1)) rfl (q_field_ptr rfl rfl fd26_1) ?_
    refine SOps.q rfl (.guard 3 6 true rfl rfl (gT g1)) rfl (q_load_ptr rfl rfl rfl rfl ty3) ?_
    refine SOps.q rfl (.guard 3 6 true rfl rfl (gT g1)) rfl (q_leq rfl rfl rfl) ?_
    refine SOps.q rfl (.plain rfl) rfl (q_pick_t rfl rfl g1 rfl) ?_
    refine SOps.q rfl (.plain rfl) rfl (q_move rfl rfl) ?_
    refine SOps.skip rfl 10 13 true rfl rfl (.inl (gF g2)) rfl ?_
    refine SOps.skip rfl 10 13 true rfl rfl (.inl (gF g2)) rfl ?_
    refine SOps.skip rfl 10 13 true rfl rfl (.inl (gF g2)) rfl ?_
    refine SOps.q rfl (.plain rfl) rfl (q_pick_f rfl rfl g2 rfl) ?_
    refine SOps.q rfl (.plain rfl) rfl (q_assign rfl rfl) ?_
    refine SOps.sub (st' := ⟨[(2, .c (.bool false))], []⟩) (sub_gen [] rfl rfl ⟨zc rfl rfl, trivial⟩ trivial) ?_
    refine SOps.nil ?_
    refine SCode.ret ?_
    obtain rfl := Option.some.inj h
    exact ⟨⟨[(2, .c (.bool false))], []⟩, _, sub_gen [] rfl rfl ⟨zc rfl rfl, trivial⟩ trivial, resA1 (v := .c (.bool false)) rfl rfl, rfl⟩
  refine SCode.region (show SOps _ _ _ [0, 1, 2, 3, 4, 5, 6, 7, 8, 9, 10, 11, 12, 13, 14, 15] _ _ from ?_)
  refine SOps.q rfl (.plain rfl) rfl (q_field_ptr rfl rfl fd26_0) ?_
  refine SOps.q rfl (.plain rfl) rfl (q_load_ptr rfl rfl rfl rfl ty3) ?_
  refine SOps.q rfl (.plain rfl) rfl (q_geq rfl rfl rfl) ?_
  refine SOps.q rfl (.plain rfl) rfl (q_move rfl rfl) ?_
  refine SOps.skip rfl 3 6 true rfl rfl (.inl (gF g1)) rfl ?_
  refine SOps.skip rfl 3 6 true rfl rfl (.inl (gF g1)) rfl ?_
  refine SOps.skip rfl 3 6 true rfl rfl (.inl (gF g1)) rfl ?_
  refine SOps.skip rfl 3 6 true rfl rfl (.inl (gF g1)) rfl ?_
  refine SOps.skip rfl 3 6 true rfl rfl (.inl (gF g1)) rfl ?_
  refine SOps.q rfl (.plain rfl) rfl (q_pick_f rfl rfl g1 rfl) ?_
  refine SOps.q rfl (.plain rfl) rfl (q_move rfl rfl) ?_
  refine SOps.skip rfl 10 13 true rfl rfl (.inl rfl) rfl ?_
  refine SOps.skip rfl 10 13 true rfl rfl (.inl rfl) rfl ?_
  refine SOps.skip rfl 10 13 true rfl rfl (.inl rfl) rfl ?_
  refine SOps.q rfl (.plain rfl) rfl (q_pick_f rfl rfl rfl rfl) ?_
  refine SOps.q rfl (.plain rfl) rfl (q_assign rfl rfl) ?_
  refine SOps.sub (st' := ⟨[(2, .c (.bool false))], []⟩) (sub_gen [] rfl rfl ⟨zc rfl rfl, trivial⟩ trivial) ?_
  refine SOps.nil ?_
  refine SCode.ret ?_
  obtain rfl := Option.some.inj h
  exact ⟨⟨[(2, .c (.bool false))], []⟩, _, sub_gen [] rfl rfl ⟨zc rfl rfl, trivial⟩ trivial, resA1 (v := .c (.bool false)) rfl rfl, rfl⟩
set_option maxRecDepth 100000 in
set_option maxHeartbeats 8000000 in
theorem series_Energy_ok (F : Nat) (a0_l : List SStep) (a1_s : SSpan) (r : Int × Int) (h : series_Energy F a0_l a1_s = some r) :
    SFun Try.prog 7 [] [.c (.vec a0_l.length 2 (gL cSStep dSStep a0_l)), .a [.int .i64 a1_s.From, .int .i64 a1_s.To]] (fun x _ => x = .t [.c (.int .i64 r.1), .c (.int .i64 r.2)]) := by
  refine SFun.of (n := 85) Try.func7 rfl rfl rfl ?_
  unfold series_Energy at h
  show SCode _ _ _ ⟨[(0, .c (.vec a0_l.length 2 (gL cSStep dSStep a0_l))), (1, .a [.int .i64 a1_s.From, .int .i64 a1_s.To])], []⟩ _
  refine SCode.seq ?_
  refine SCode.region (show SOps _ _ _ [0, 1, 2] _ _ from ?_)
  refine SOps.e rfl (.plain rfl) (e_box rfl rfl rfl rfl rfl rfl) ?_
  refine SOps.q rfl (.plain rfl) rfl (q_assign rfl rfl) ?_
  refine SOps.q rfl (.plain rfl) rfl (q_assign rfl rfl) ?_
  refine SOps.sub (st' := ⟨[(0, .c (.vec a0_l.length 2 (gL cSStep dSStep a0_l))), (3, .c (.ptr 0 0))], [.box [.int .i64 a1_s.From, .int .i64 a1_s.To]]⟩) (sub_gen [0] rfl rfl ⟨zc rfl rfl, zc rfl rfl, trivial⟩ ⟨⟨_, rfl, ⟨ii rfl rfl, ii rfl rfl, trivial⟩⟩, trivial⟩) ?_
  refine SOps.nil ?_
  refine SCode.seq ?_
  refine SCode.seq ?_
  obtain ⟨c_1, g2, h⟩ := bind_out h
  try dsimp only at h
  refine SCode.region (show SOps _ _ _ [0, 1, 2] _ _ from ?_)
  refine SOps.q rfl (.plain rfl) rfl (q_move rfl rfl) ?_
  refine SOps.q rfl (.plain rfl) rfl (q_call (series_Valid_ok F a0_l c_1 g2) [] rfl fn19 ⟨⟨_, rfl, .inl ⟨rfl, rfl⟩⟩, trivial⟩ (.inl rfl)) ?_
  refine SOps.q rfl (.plain rfl) rfl (q_assign rfl rfl) ?_
  refine SOps.sub (st' := ⟨[(0, .c (.vec a0_l.length 2 (gL cSStep dSStep a0_l))), (3, .c (.ptr 0 0)), (6, .c (.int .i64 c_1))], [.box [.int .i64 a1_s.From, .int .i64 a1_s.To]]⟩) (sub_gen [0] rfl rfl ⟨zc rfl rfl, zc rfl rfl, zc rfl rfl, trivial⟩ ⟨⟨_, rfl, ⟨ii rfl rfl, ii rfl rfl, trivial⟩⟩, trivial⟩) ?_
  refine SOps.nil ?_
  refine SCode.seq ?_
  refine SCode.region (show SOps _ _ _ [0, 1] _ _ from ?_)
  refine SOps.q rfl (.plain rfl) rfl (q_move rfl rfl) ?_
  refine SOps.q rfl (.plain rfl) rfl (q_neq rfl rfl rfl) ?_
  refine SOps.sub (st' := ⟨[(0, .c (.vec a0_l.length 2 (gL cSStep dSStep a0_l))), (3, .c (.ptr 0 0)), (6, .c (.int .i64 c_1)), (16, .c (.bool ((!decide (c_1 = 0)))))], [.box [.int .i64 a1_s.From, .int .i64 a1_s.To]]⟩) (sub_gen [0] rfl rfl ⟨zc rfl rfl, zc rfl rfl, zc rfl rfl, zc rfl rfl, trivial⟩ ⟨⟨_, rfl, ⟨ii rfl rfl, ii rfl rfl, trivial⟩⟩, trivial⟩) ?_
  refine SOps.nil ?_
  rcases cond_out h with ⟨g3, h⟩ | ⟨g3, h⟩
  · refine SCode.cond_t rfl g3 ?_
    refine SCode.seq ?_
    refine SCode.region (show SOps _ _ _ [0, 1, 2] _ _ from ?_)
    refine SOps.q rfl (.plain rfl) rfl (q_move rfl rfl) ?_
    refine SOps.q rfl (.plain rfl) rfl (q_assign rfl rfl) ?_
    refine SOps.q rfl (.plain rfl) rfl (q_assign rfl rfl) ?_
    refine SOps.sub (st' := ⟨[(4, .c (.int .i64 0)), (5, .c (.int .i64 c_1))], []⟩) (sub_gen [] rfl rfl ⟨zc rfl rfl, zc rfl rfl, trivial⟩ trivial) ?_
    refine SOps.nil ?_
    refine SCode.ret ?_
    obtain rfl := Option.some.inj h
    exact ⟨⟨[(4, .c (.int .i64 0)), (5, .c (.int .i64 c_1))], []⟩, _, sub_gen [] rfl rfl ⟨zc rfl rfl, zc rfl rfl, trivial⟩ trivial, resA2 (v1 := .c (.int .i64 0)) (v2 := .c (.int .i64 c_1)) rfl rfl rfl, rfl⟩
  refine SCode.cond_f rfl g3 ?_
  refine SCode.skip ?_
  refine SCode.seq ?_
  refine SCode.seq ?_
  obtain ⟨c_4, g5, h⟩ := bind_out h
  try dsimp only at h
  refine SCode.region (show SOps _ _ _ [0, 1, 2] _ _ from ?_)
  refine SOps.q rfl (.plain rfl) rfl (q_load_ptr_all rfl rfl rfl rfl rfl ty26) ?_
  refine SOps.q rfl (.plain rfl) rfl (q_call (series_isSpan_ok F a1_s c_4 g5) [] rfl fn20 ⟨⟨rfl, rfl⟩, trivial⟩ (.inl rfl)) ?_
  refine SOps.q rfl (.plain rfl) rfl (q_not rfl rfl) ?_
  refine SOps.sub (st' := ⟨[(0, .c (.vec a0_l.length 2 (gL cSStep dSStep a0_l))), (3, .c (.ptr 0 0)), (20, .c (.bool ((!c_4))))], [.box [.int .i64 a1_s.From, .int .i64 a1_s.To]]⟩) (sub_gen [0] rfl rfl ⟨zc rfl rfl, zc rfl rfl, zc rfl rfl, trivial⟩ ⟨⟨_, rfl, ⟨ii rfl rfl, ii rfl rfl, trivial⟩⟩, trivial⟩) ?_
  refine SOps.nil ?_
  rcases cond_out h with ⟨g6, h⟩ | ⟨g6, h⟩
  · refine SCode.cond_t rfl g6 ?_
    refine SCode.seq ?_
    refine SCode.region (show SOps _ _ _ [0, 1] _ _ from ?_)
    refine SOps.q rfl (.plain rfl) rfl (q_assign rfl rfl) ?_
    refine SOps.q rfl (.plain rfl) rfl (q_assign rfl rfl) ?_
    refine SOps.sub (st' := ⟨[(4, .c (.int .i64 0)), (5, .c (.int .i64 2))], []⟩) (sub_gen [] rfl rfl ⟨zc rfl rfl, zc rfl rfl, trivial⟩ trivial) ?_
    refine SOps.nil ?_
    refine SCode.ret ?_
    obtain rfl := Option.some.inj h
    exact ⟨⟨[(4, .c (.int .i64 0)), (5, .c (.int .i64 2))], []⟩, _, sub_gen [] rfl rfl ⟨zc rfl rfl, zc rfl rfl, trivial⟩ trivial, resA2 (v1 := .c (.int .i64 0)) (v2 := .c (.int .i64 2)) rfl rfl rfl, rfl⟩
  refine SCode.cond_f rfl g6 ?_
  refine SCode.skip ?_
  refine SCode.seq ?_
  refine SCode.region (show SOps _ _ _ [0, 1] _ _ from ?_)
  refine SOps.q rfl (.plain rfl) rfl (q_assign rfl rfl) ?_
  refine SOps.q rfl (.plain rfl) rfl (q_assign rfl rfl) ?_
  refine SOps.sub (st' := ⟨[(0, .c (.vec a0_l.length 2 (gL cSStep dSStep a0_l))), (3, .c (.ptr 0 0)), (7, .c (.int .i64 0)), (8, .c (.int .i64 0))], [.box [.int .i64 a1_s.From, .int .i64 a1_s.To]]⟩) (sub_gen [0] rfl rfl ⟨zc rfl rfl, zc rfl rfl, zc rfl rfl, zc rfl rfl, trivial⟩ ⟨⟨_, rfl, ⟨ii rfl rfl, ii rfl rfl, trivial⟩⟩, trivial⟩) ?_
  refine SOps.nil ?_
  refine SCode.join (σ := Int × Int) (S := fun s => ⟨[(7, .c (.int .i64 s.1)), (8, .c (.int .i64 s.2))], []⟩) (g := fun s => series_Energy_p11 s.1 s.2 = some r) ?_ ?_
  rotate_left
  · refine SCode.seq ?_
    refine SCode.region (show SOps _ _ _ [0, 1, 2] _ _ from ?_)
    refine SOps.q rfl (.plain rfl) rfl (q_move rfl rfl) ?_
    refine SOps.q rfl (.plain rfl) rfl (q_len_vec rfl rfl sl34) ?_
    refine SOps.q rfl (.plain rfl) rfl (q_move rfl rfl) ?_
    refine SOps.sub (st' := ⟨[(0, .c (.vec a0_l.length 2 (gL cSStep dSStep a0_l))), (3, .c (.ptr 0 0)), (7, .c (.int .i64 0)), (8, .c (.int .i64 0)), (21, .c (.vec a0_l.length 2 (gL cSStep dSStep a0_l))), (22, .c (.int .i64 (((a0_l).length : Int)))), (23, .c (.int .i64 0))], [.box [.int .i64 a1_s.From, .int .i64 a1_s.To]]⟩) (sub_gen [0] rfl rfl ⟨zc rfl rfl, zc rfl rfl, zc rfl rfl, zc rfl rfl, zc rfl rfl, zc rfl rfl, zc rfl rfl, trivial⟩ ⟨⟨_, rfl, ⟨ii rfl rfl, ii rfl rfl, trivial⟩⟩, trivial⟩) ?_
    refine SOps.nil ?_
    refine SCode.block ?_
    refine SCode.sub (st' := ⟨[(0, .c (.vec a0_l.length 2 (gL cSStep dSStep a0_l))), (3, .c (.ptr 0 0)), (7, .c (.int .i64 0)), (8, .c (.int .i64 0)), (21, .c (.vec a0_l.length 2 (gL cSStep dSStep a0_l))), (22, .c (.int .i64 (((a0_l).length : Int)))), (23, .c (.int .i64 0))], [.box [.int .i64 a1_s.From, .int .i64 a1_s.To]]⟩) (sub_gen [0] rfl rfl ⟨zc rfl rfl, zc rfl rfl, zc rfl rfl, zc rfl rfl, zc rfl rfl, zc rfl rfl, zc rfl rfl, trivial⟩ ⟨⟨_, rfl, ⟨ii rfl rfl, ii rfl rfl, trivial⟩⟩, trivial⟩) ?_
    refine (SCode.loop (σ := Nat × (Int × Int × Int)) (S := fun s => ⟨[(0, .c (.vec a0_l.length 2 (gL cSStep dSStep a0_l))), (3, .c (.ptr 0 0)), (7, .c (.int .i64 s.2.1)), (8, .c (.int .i64 s.2.2.1)), (21, .c (.vec a0_l.length 2 (gL cSStep dSStep a0_l))), (22, .c (.int .i64 (((a0_l).length : Int)))), (23, .c (.int .i64 s.2.2.2))], [.box [.int .i64 a1_s.From, .int .i64 a1_s.To]]⟩) (g := fun s => series_Energy_l35 a0_l a1_s s.1 s.2.1 s.2.2.1 s.2.2.2 = some r) (μ := fun s => s.1) (F, (0, 0, 0)) h ?_)
    rintro ⟨n_35, ⟨high_22, low_23, t23_24⟩⟩ h
    replace h : series_Energy_l35 a0_l a1_s n_35 high_22 low_23 t23_24 = some r := h
    show SCode _ _ _ ⟨[(0, .c (.vec a0_l.length 2 (gL cSStep dSStep a0_l))), (3, .c (.ptr 0 0)), (7, .c (.int .i64 high_22)), (8, .c (.int .i64 low_23)), (21, .c (.vec a0_l.length 2 (gL cSStep dSStep a0_l))), (22, .c (.int .i64 (((a0_l).length : Int)))), (23, .c (.int .i64 t23_24))], [.box [.int .i64 a1_s.From, .int .i64 a1_s.To]]⟩ _
    cases n_35 with
    | zero => cases h
    | succ n_35 =>
      replace h : series_Energy_b35 a0_l a1_s (fun high_22 low_23 t23_24 => series_Energy_l35 a0_l a1_s n_35 high_22 low_23 t23_24) high_22 low_23 t23_24 = some r := h
      unfold series_Energy_b35 at h
      refine SCode.seq ?_
      refine SCode.region (show SOps _ _ _ [0] _ _ from ?_)
      refine SOps.q rfl (.plain rfl) rfl (q_lss rfl rfl rfl) ?_
      refine SOps.sub (st' := ⟨[(0, .c (.vec a0_l.length 2 (gL cSStep dSStep a0_l))), (3, .c (.ptr 0 0)), (7, .c (.int .i64 high_22)), (8, .c (.int .i64 low_23)), (21, .c (.vec a0_l.length 2 (gL cSStep dSStep a0_l))), (22, .c (.int .i64 (((a0_l).length : Int)))), (23, .c (.int .i64 t23_24)), (24, .c (.bool (decide (t23_24 < ((a0_l).length : Int)))))], [.box [.int .i64 a1_s.From, .int .i64 a1_s.To]]⟩) (sub_gen [0] rfl rfl ⟨zc rfl rfl, zc rfl rfl, zc rfl rfl, zc rfl rfl, zc rfl rfl, zc rfl rfl, zc rfl rfl, zc rfl rfl, trivial⟩ ⟨⟨_, rfl, ⟨ii rfl rfl, ii rfl rfl, trivial⟩⟩, trivial⟩) ?_
      refine SOps.nil ?_
      refine SCode.seq ?_
      rcases cond_out h with ⟨g36, h⟩ | ⟨g36, h⟩
      · refine SCode.cond_t rfl g36 ?_
        refine SCode.skip ?_
        refine SCode.join (σ := Int × Int) (S := fun s => ⟨[(0, .c (.vec a0_l.length 2 (gL cSStep dSStep a0_l))), (3, .c (.ptr 0 0)), (7, .c (.int .i64 s.1)), (8, .c (.int .i64 s.2)), (21, .c (.vec a0_l.length 2 (gL cSStep dSStep a0_l))), (22, .c (.int .i64 (((a0_l).length : Int)))), (23, .c (.int .i64 t23_24))], [.box [.int .i64 a1_s.From, .int .i64 a1_s.To]]⟩) (g := fun s => series_Energy_p39 t23_24 (fun high_22 low_23 t23_24 => series_Energy_l35 a0_l a1_s n_35 high_22 low_23 t23_24) s.1 s.2 = some r) ?_ ?_
        rotate_left
        · refine SCode.block ?_
          refine SCode.seq ?_
          obtain ⟨g40, h⟩ := guard_out h
          refine SCode.region (show SOps _ _ _ [0, 1, 2, 3, 4, 5] _ _ from ?_)
          refine SOps.q rfl (.plain rfl) rfl (q_move rfl rfl) ?_
          refine SOps.q rfl (.plain rfl) rfl (q_index_vec rfl rfl rfl sl34 rfl g40.1 g40.2) ?_
          refine SOps.q rfl (.plain rfl) rfl (q_load_eptr_all rfl rfl rfl ty51) ?_
          refine SOps.e rfl (.plain rfl) (e_alloc rfl rfl rfl z51) ?_
          refine SOps.q rfl (.plain rfl) rfl (q_assign rfl rfl) ?_
          refine SOps.e rfl (.plain rfl) (e_store_box rfl rfl rfl rfl rfl ty51 rfl rfl rfl rfl) ?_
          refine SOps.sub (st' := ⟨[(0, .c (.vec a0_l.length 2 (gL cSStep dSStep a0_l))), (3, .c (.ptr 0 0)), (7, .c (.int .i64 high_22)), (8, .c (.int .i64 low_23)), (9, .c (.int .i64 t23_24)), (10, .c (.ptr 1 0)), (21, .c (.vec a0_l.length 2 (gL cSStep dSStep a0_l))), (22, .c (.int .i64 (((a0_l).length : Int)))), (23, .c (.int .i64 t23_24))], [.box [.int .i64 a1_s.From, .int .i64 a1_s.To], .box [.int .i64 ((a0_l.getD t23_24.toNat dSStep).At), .int .i64 ((a0_l.getD t23_24.toNat dSStep).Value)]]⟩) (sub_gen [0, 1] rfl rfl ⟨zc rfl rfl, zc rfl rfl, zc rfl rfl, zc rfl rfl, zc rfl rfl, zc rfl rfl, zc rfl rfl, zc rfl rfl, zc rfl rfl, trivial⟩ ⟨⟨_, rfl, ⟨ii rfl rfl, ii rfl rfl, trivial⟩⟩, ⟨_, rfl, ⟨ii rfl rfl, ii rfl rfl, trivial⟩⟩, trivial⟩) ?_
          refine SOps.nil ?_
          refine SCode.seq ?_
          refine SCode.draw (s' := [(12, .c (.int .i64 a1_s.To)), (11, .c (.int .i64 ((if (a0_l.getD t23_24.toNat dSStep).At < a1_s.From then a1_s.From else (a0_l.getD t23_24.toNat dSStep).At)))), (34, .c (.int .i64 a1_s.To)), (33, .c (.ptr 0 1)), (32, .c (.int .i64 ((if (a0_l.getD t23_24.toNat dSStep).At < a1_s.From then a1_s.From else (a0_l.getD t23_24.toNat dSStep).At)))), (31, .c (.int .i64 a1_s.From)), (30, .c (.ptr 0 0)), (29, .c (.int .i64 ((a0_l.getD t23_24.toNat dSStep).At))), (28, .c (.ptr 1 0)), (0, .c (.vec a0_l.length 2 (gL cSStep dSStep a0_l))), (3, .c (.ptr 0 0)), (7, .c (.int .i64 high_22)), (8, .c (.int .i64 low_23)), (9, .c (.int .i64 t23_24)), (10, .c (.ptr 1 0)), (21, .c (.vec a0_l.length 2 (gL cSStep dSStep a0_l))), (22, .c (.int .i64 (((a0_l).length : Int)))), (23, .c (.int .i64 t23_24))]) mixed [[], [0], [], [2], [0, 1, 2, 3], [], [5], [0, 1, 2, 3, 4], [0, 1, 2, 3, 4, 5, 6, 7]] 9 0 rfl rfl ?_ ?_
          · refine QChain.run rfl (.plain rfl) rfl (q_field_ptr rfl rfl fd51_0) ?_
            refine QChain.run rfl (.plain rfl) rfl (q_load_ptr rfl rfl rfl rfl ty3) ?_
            refine QChain.run rfl (.plain rfl) rfl (q_field_ptr rfl rfl fd26_0) ?_
            refine QChain.run rfl (.plain rfl) rfl (q_load_ptr rfl rfl rfl rfl ty3) ?_
            refine QChain.run rfl (.plain rfl) rfl (q_max rfl rfl rfl) ?_
            refine QChain.run rfl (.plain rfl) rfl (q_field_ptr rfl rfl fd26_1) ?_
            refine QChain.run rfl (.plain rfl) rfl (q_load_ptr rfl rfl rfl rfl ty3) ?_
            refine QChain.run rfl (.plain rfl) rfl (q_assign rfl rfl) ?_
            refine QChain.run rfl (.plain rfl) rfl (q_assign rfl rfl) ?_
            exact QChain.nil _ _
          refine (show SOps _ _ _ [] _ _ from ?_)
          refine SOps.sub (st' := ⟨[(0, .c (.vec a0_l.length 2 (gL cSStep dSStep a0_l))), (3, .c (.ptr 0 0)), (7, .c (.int .i64 high_22)), (8, .c (.int .i64 low_23)), (9, .c (.int .i64 t23_24)), (10, .c (.ptr 1 0)), (11, .c (.int .i64 ((if (a0_l.getD t23_24.toNat dSStep).At < a1_s.From then a1_s.From else (a0_l.getD t23_24.toNat dSStep).At)))), (12, .c (.int .i64 a1_s.To)), (21, .c (.vec a0_l.length 2 (gL cSStep dSStep a0_l))), (22, .c (.int .i64 (((a0_l).length : Int)))), (23, .c (.int .i64 t23_24))], [.box [.int .i64 a1_s.From, .int .i64 a1_s.To], .box [.int .i64 ((a0_l.getD t23_24.toNat dSStep).At), .int .i64 ((a0_l.getD t23_24.toNat dSStep).Value)]]⟩) (sub_gen [0, 1] rfl rfl ⟨zc rfl rfl, zc rfl rfl, zc rfl rfl, zc rfl rfl, zc rfl rfl, zc rfl rfl, zc rfl rfl, zc rfl rfl, zc rfl rfl, zc rfl rfl, zc rfl rfl, trivial⟩ ⟨⟨_, rfl, ⟨ii rfl rfl, ii rfl rfl, trivial⟩⟩, ⟨_, rfl, ⟨ii rfl rfl, ii rfl rfl, trivial⟩⟩, trivial⟩) ?_
          refine SOps.nil ?_
          refine SCode.join (σ := Int) (S := fun s => ⟨[(0, .c (.vec a0_l.length 2 (gL cSStep dSStep a0_l))), (3, .c (.ptr 0 0)), (7, .c (.int .i64 high_22)), (8, .c (.int .i64 low_23)), (10, .c (.ptr 1 0)), (11, .c (.int .i64 ((if (a0_l.getD t23_24.toNat dSStep).At < a1_s.From then a1_s.From else (a0_l.getD t23_24.toNat dSStep).At)))), (12, .c (.int .i64 s)), (21, .c (.vec a0_l.length 2 (gL cSStep dSStep a0_l))), (22, .c (.int .i64 (((a0_l).length : Int)))), (23, .c (.int .i64 t23_24))], [.box [.int .i64 a1_s.From, .int .i64 a1_s.To], .box [.int .i64 ((a0_l.getD t23_24.toNat dSStep).At), .int .i64 ((a0_l.getD t23_24.toNat dSStep).Value)]]⟩) (g := fun s => series_Energy_p43 a0_l a1_s high_22 low_23 t23_24 (fun high_22 low_23 t23_24 => series_Energy_l35 a0_l a1_s n_35 high_22 low_23 t23_24) s = some r) ?_ ?_
          rotate_left
          · refine SCode.seq ?_
            refine SCode.region (show SOps _ _ _ [0, 1, 2, 3, 4] _ _ from ?_)
            refine SOps.q rfl (.plain rfl) rfl (q_move rfl rfl) ?_
            refine SOps.q rfl (.plain rfl) rfl (q_add rfl rfl rfl) ?_
            refine SOps.q rfl (.plain rfl) rfl (q_move rfl rfl) ?_
            refine SOps.q rfl (.plain rfl) rfl (q_len_vec rfl rfl sl34) ?_
            refine SOps.q rfl (.plain rfl) rfl (q_lss rfl rfl rfl) ?_
            refine SOps.sub (st' := ⟨[(0, .c (.vec a0_l.length 2 (gL cSStep dSStep a0_l))), (3, .c (.ptr 0 0)), (7, .c (.int .i64 high_22)), (8, .c (.int .i64 low_23)), (9, .c (.int .i64 t23_24)), (10, .c (.ptr 1 0)), (11, .c (.int .i64 ((if (a0_l.getD t23_24.toNat dSStep).At < a1_s.From then a1_s.From else (a0_l.getD t23_24.toNat dSStep).At)))), (12, .c (.int .i64 a1_s.To)), (21, .c (.vec a0_l.length 2 (gL cSStep dSStep a0_l))), (22, .c (.int .i64 (((a0_l).length : Int)))), (23, .c (.int .i64 t23_24)), (39, .c (.bool (decide (IntKind.wrap .i64 (t23_24 + 1) < ((a0_l).length : Int)))))], [.box [.int .i64 a1_s.From, .int .i64 a1_s.To], .box [.int .i64 ((a0_l.getD t23_24.toNat dSStep).At), .int .i64 ((a0_l.getD t23_24.toNat dSStep).Value)]]⟩) (sub_gen [0, 1] rfl rfl ⟨zc rfl rfl, zc rfl rfl, zc rfl rfl, zc rfl rfl, zc rfl rfl, zc rfl rfl, zc rfl rfl, zc rfl rfl, zc rfl rfl, zc rfl rfl, zc rfl rfl, zc rfl rfl, trivial⟩ ⟨⟨_, rfl, ⟨ii rfl rfl, ii rfl rfl, trivial⟩⟩, ⟨_, rfl, ⟨ii rfl rfl, ii rfl rfl, trivial⟩⟩, trivial⟩) ?_
            refine SOps.nil ?_
            rcases cond_out h with ⟨g44, h⟩ | ⟨g44, h⟩
            · refine SCode.cond_t rfl g44 ?_
              obtain ⟨g45, h⟩ := guard_out h
              refine SCode.region (show SOps _ _ _ [0, 1, 2, 3, 4, 5, 6, 7, 8] _ _ from ?_)
              refine SOps.q rfl (.plain rfl) rfl (q_move rfl rfl) ?_
              refine SOps.q rfl (.plain rfl) rfl (q_move rfl rfl) ?_
              refine SOps.q rfl (.plain rfl) rfl (q_move rfl rfl) ?_
              refine SOps.q rfl (.plain rfl) rfl (q_add rfl rfl rfl) ?_
              refine SOps.q rfl (.plain rfl) rfl (q_index_vec rfl rfl rfl sl34 rfl g45.1 g45.2) ?_
              refine SOps.q rfl (.plain rfl) rfl (q_field_eptr rfl rfl fd51_0 rfl) ?_
              refine SOps.q rfl (.plain rfl) rfl (q_load_eptr rfl rfl ty3) ?_
              refine SOps.q rfl (.plain rfl) rfl (q_min rfl rfl rfl) ?_
              refine SOps.q rfl (.plain rfl) rfl (q_assign rfl rfl) ?_
              refine SOps.sub (st' := ⟨[(0, .c (.vec a0_l.length 2 (gL cSStep dSStep a0_l))), (3, .c (.ptr 0 0)), (7, .c (.int .i64 high_22)), (8, .c (.int .i64 low_23)), (10, .c (.ptr 1 0)), (11, .c (.int .i64 ((if (a0_l.getD t23_24.toNat dSStep).At < a1_s.From then a1_s.From else (a0_l.getD t23_24.toNat dSStep).At)))), (12, .c (.int .i64 ((if (a0_l.getD (IntKind.wrap .i64 (t23_24 + 1)).toNat dSStep).At < a1_s.To then (a0_l.getD (IntKind.wrap .i64 (t23_24 + 1)).toNat dSStep).At else a1_s.To)))), (21, .c (.vec a0_l.length 2 (gL cSStep dSStep a0_l))), (22, .c (.int .i64 (((a0_l).length : Int)))), (23, .c (.int .i64 t23_24))], [.box [.int .i64 a1_s.From, .int .i64 a1_s.To], .box [.int .i64 ((a0_l.getD t23_24.toNat dSStep).At), .int .i64 ((a0_l.getD t23_24.toNat dSStep).Value)]]⟩) (sub_gen [0, 1] rfl rfl ⟨zc rfl rfl, zc rfl rfl, zc rfl rfl, zc rfl rfl, zc rfl rfl, zc rfl rfl, zc rfl rfl, zc rfl rfl, zc rfl rfl, zc rfl rfl, trivial⟩ ⟨⟨_, rfl, ⟨ii rfl rfl, ii rfl rfl, trivial⟩⟩, ⟨_, rfl, ⟨ii rfl rfl, ii rfl rfl, trivial⟩⟩, trivial⟩) ?_
              refine SOps.nil ?_
              exact ⟨(if (a0_l.getD (IntKind.wrap .i64 (t23_24 + 1)).toNat dSStep).At < a1_s.To then (a0_l.getD (IntKind.wrap .i64 (t23_24 + 1)).toNat dSStep).At else a1_s.To), h, sub_gen [0, 1] rfl rfl ⟨zc rfl rfl, zc rfl rfl, zc rfl rfl, zc rfl rfl, zc rfl rfl, zc rfl rfl, zc rfl rfl, zc rfl rfl, zc rfl rfl, zc rfl rfl, trivial⟩ ⟨⟨_, rfl, ⟨ii rfl rfl, ii rfl rfl, trivial⟩⟩, ⟨_, rfl, ⟨ii rfl rfl, ii rfl rfl, trivial⟩⟩, trivial⟩⟩
            refine SCode.cond_f rfl g44 ?_
            refine SCode.skip ?_
            exact ⟨a1_s.To, h, sub_gen [0, 1] rfl rfl ⟨zc rfl rfl, zc rfl rfl, zc rfl rfl, zc rfl rfl, zc rfl rfl, zc rfl rfl, zc rfl rfl, zc rfl rfl, zc rfl rfl, zc rfl rfl, trivial⟩ ⟨⟨_, rfl, ⟨ii rfl rfl, ii rfl rfl, trivial⟩⟩, ⟨_, rfl, ⟨ii rfl rfl, ii rfl rfl, trivial⟩⟩, trivial⟩⟩
          rintro to_41 h
          show SCode _ _ _ ⟨[(0, .c (.vec a0_l.length 2 (gL cSStep dSStep a0_l))), (3, .c (.ptr 0 0)), (7, .c (.int .i64 high_22)), (8, .c (.int .i64 low_23)), (10, .c (.ptr 1 0)), (11, .c (.int .i64 ((if (a0_l.getD t23_24.toNat dSStep).At < a1_s.From then a1_s.From else (a0_l.getD t23_24.toNat dSStep).At)))), (12, .c (.int .i64 to_41)), (21, .c (.vec a0_l.length 2 (gL cSStep dSStep a0_l))), (22, .c (.int .i64 (((a0_l).length : Int)))), (23, .c (.int .i64 t23_24))], [.box [.int .i64 a1_s.From, .int .i64 a1_s.To], .box [.int .i64 ((a0_l.getD t23_24.toNat dSStep).At), .int .i64 ((a0_l.getD t23_24.toNat dSStep).Value)]]⟩ _
          replace h : series_Energy_p43 a0_l a1_s high_22 low_23 t23_24 (fun high_22 low_23 t23_24 => series_Energy_l35 a0_l a1_s n_35 high_22 low_23 t23_24) to_41 = some r := h
          unfold series_Energy_p43 at h
          refine SCode.seq ?_
          refine SCode.seq ?_
          refine SCode.region (show SOps _ _ _ [0, 1, 2] _ _ from ?_)
          refine SOps.q rfl (.plain rfl) rfl (q_move rfl rfl) ?_
          refine SOps.q rfl (.plain rfl) rfl (q_move rfl rfl) ?_
          refine SOps.q rfl (.plain rfl) rfl (q_geq rfl rfl rfl) ?_
          refine SOps.sub (st' := ⟨[(0, .c (.vec a0_l.length 2 (gL cSStep dSStep a0_l))), (3, .c (.ptr 0 0)), (7, .c (.int .i64 high_22)), (8, .c (.int .i64 low_23)), (10, .c (.ptr 1 0)), (11, .c (.int .i64 ((if (a0_l.getD t23_24.toNat dSStep).At < a1_s.From then a1_s.From else (a0_l.getD t23_24.toNat dSStep).At)))), (12, .c (.int .i64 to_41)), (21, .c (.vec a0_l.length 2 (gL cSStep dSStep a0_l))), (22, .c (.int .i64 (((a0_l).length : Int)))), (23, .c (.int .i64 t23_24)), (50, .c (.bool (decide (to_41 ≤ (if (a0_l.getD t23_24.toNat dSStep).At < a1_s.From then a1_s.From else (a0_l.getD t23_24.toNat dSStep).At)))))], [.box [.int .i64 a1_s.From, .int .i64 a1_s.To], .box [.int .i64 ((a0_l.getD t23_24.toNat dSStep).At), .int .i64 ((a0_l.getD t23_24.toNat dSStep).Value)]]⟩) (sub_gen [0, 1] rfl rfl ⟨zc rfl rfl, zc rfl rfl, zc rfl rfl, zc rfl rfl, zc rfl rfl, zc rfl rfl, zc rfl rfl, zc rfl rfl, zc rfl rfl, zc rfl rfl, zc rfl rfl, trivial⟩ ⟨⟨_, rfl, ⟨ii rfl rfl, ii rfl rfl, trivial⟩⟩, ⟨_, rfl, ⟨ii rfl rfl, ii rfl rfl, trivial⟩⟩, trivial⟩) ?_
          refine SOps.nil ?_
          rcases cond_out h with ⟨g42, h⟩ | ⟨g42, h⟩
          · refine SCode.cond_t rfl g42 ?_
            refine SCode.exit ?_
            exact ⟨(high_22, low_23), h, sub_gen [0] rfl rfl ⟨zc rfl rfl, zc rfl rfl, zc rfl rfl, zc rfl rfl, zc rfl rfl, zc rfl rfl, zc rfl rfl, trivial⟩ ⟨⟨_, rfl, ⟨ii rfl rfl, ii rfl rfl, trivial⟩⟩, trivial⟩⟩
          refine SCode.cond_f rfl g42 ?_
          refine SCode.skip ?_
          refine SCode.seq ?_
          refine SCode.region (show SOps _ _ _ [0, 1, 2, 3, 4, 5, 6, 7, 8, 9] _ _ from ?_)
          refine SOps.q rfl (.plain rfl) rfl (q_move rfl rfl) ?_
          refine SOps.q rfl (.plain rfl) rfl (q_field_ptr rfl rfl fd51_1) ?_
          refine SOps.q rfl (.plain rfl) rfl (q_load_ptr rfl rfl rfl rfl ty3) ?_
          refine SOps.q rfl (.plain rfl) rfl (q_shr rfl rfl rfl (by decide)) ?_
          refine SOps.q rfl (.plain rfl) rfl (q_move rfl rfl) ?_
          refine SOps.q rfl (.plain rfl) rfl (q_move rfl rfl) ?_
          refine SOps.q rfl (.plain rfl) rfl (q_sub rfl rfl rfl) ?_
          refine SOps.q rfl (.plain rfl) rfl (q_mul rfl rfl rfl) ?_
          refine SOps.q rfl (.plain rfl) rfl (q_add rfl rfl rfl) ?_
          refine SOps.q rfl (.plain rfl) rfl (q_assign rfl rfl) ?_
          refine SOps.sub (st' := ⟨[(0, .c (.vec a0_l.length 2 (gL cSStep dSStep a0_l))), (3, .c (.ptr 0 0)), (7, .c (.int .i64 (IntKind.wrap .i64 (high_22 + IntKind.wrap .i64 (((a0_l.getD t23_24.toNat dSStep).Value / 2 ^ min (20 : Int).toNat (IntKind.bits .i64)) * IntKind.wrap .i64 (to_41 - (if (a0_l.getD t23_24.toNat dSStep).At < a1_s.From then a1_s.From else (a0_l.getD t23_24.toNat dSStep).At))))))), (8, .c (.int .i64 low_23)), (10, .c (.ptr 1 0)), (11, .c (.int .i64 ((if (a0_l.getD t23_24.toNat dSStep).At < a1_s.From then a1_s.From else (a0_l.getD t23_24.toNat dSStep).At)))), (12, .c (.int .i64 to_41)), (21, .c (.vec a0_l.length 2 (gL cSStep dSStep a0_l))), (22, .c (.int .i64 (((a0_l).length : Int)))), (23, .c (.int .i64 t23_24))], [.box [.int .i64 a1_s.From, .int .i64 a1_s.To], .box [.int .i64 ((a0_l.getD t23_24.toNat dSStep).At), .int .i64 ((a0_l.getD t23_24.toNat dSStep).Value)]]⟩) (sub_gen [0, 1] rfl rfl ⟨zc rfl rfl, zc rfl rfl, zc rfl rfl, zc rfl rfl, zc rfl rfl, zc rfl rfl, zc rfl rfl, zc rfl rfl, zc rfl rfl, zc rfl rfl, trivial⟩ ⟨⟨_, rfl, ⟨ii rfl rfl, ii rfl rfl, trivial⟩⟩, ⟨_, rfl, ⟨ii rfl rfl, ii rfl rfl, trivial⟩⟩, trivial⟩) ?_
          refine SOps.nil ?_
          refine SCode.region (show SOps _ _ _ [0, 1, 2, 3, 4, 5, 6, 7, 8, 9] _ _ from ?_)
          refine SOps.q rfl (.plain rfl) rfl (q_move rfl rfl) ?_
          refine SOps.q rfl (.plain rfl) rfl (q_field_ptr rfl rfl fd51_1) ?_
          refine SOps.q rfl (.plain rfl) rfl (q_load_ptr rfl rfl rfl rfl ty3) ?_
          refine SOps.q rfl (.plain rfl) rfl (q_and rfl rfl rfl) ?_
          refine SOps.q rfl (.plain rfl) rfl (q_move rfl rfl) ?_
          refine SOps.q rfl (.plain rfl) rfl (q_move rfl rfl) ?_
          refine SOps.q rfl (.plain rfl) rfl (q_sub rfl rfl rfl) ?_
          refine SOps.q rfl (.plain rfl) rfl (q_mul rfl rfl rfl) ?_
          refine SOps.q rfl (.plain rfl) rfl (q_add rfl rfl rfl) ?_
          refine SOps.q rfl (.plain rfl) rfl (q_assign rfl rfl) ?_
          refine SOps.sub (st' := ⟨[(0, .c (.vec a0_l.length 2 (gL cSStep dSStep a0_l))), (3, .c (.ptr 0 0)), (7, .c (.int .i64 (IntKind.wrap .i64 (high_22 + IntKind.wrap .i64 (((a0_l.getD t23_24.toNat dSStep).Value / 2 ^ min (20 : Int).toNat (IntKind.bits .i64)) * IntKind.wrap .i64 (to_41 - (if (a0_l.getD t23_24.toNat dSStep).At < a1_s.From then a1_s.From else (a0_l.getD t23_24.toNat dSStep).At))))))), (8, .c (.int .i64 (IntKind.wrap .i64 (low_23 + IntKind.wrap .i64 (iAnd .i64 ((a0_l.getD t23_24.toNat dSStep).Value) 1048575 * IntKind.wrap .i64 (to_41 - (if (a0_l.getD t23_24.toNat dSStep).At < a1_s.From then a1_s.From else (a0_l.getD t23_24.toNat dSStep).At))))))), (21, .c (.vec a0_l.length 2 (gL cSStep dSStep a0_l))), (22, .c (.int .i64 (((a0_l).length : Int)))), (23, .c (.int .i64 t23_24))], [.box [.int .i64 a1_s.From, .int .i64 a1_s.To]]⟩) (sub_gen [0] rfl rfl ⟨zc rfl rfl, zc rfl rfl, zc rfl rfl, zc rfl rfl, zc rfl rfl, zc rfl rfl, zc rfl rfl, trivial⟩ ⟨⟨_, rfl, ⟨ii rfl rfl, ii rfl rfl, trivial⟩⟩, trivial⟩) ?_
          refine SOps.nil ?_
          exact ⟨(IntKind.wrap .i64 (high_22 + IntKind.wrap .i64 (((a0_l.getD t23_24.toNat dSStep).Value / 2 ^ min (20 : Int).toNat (IntKind.bits .i64)) * IntKind.wrap .i64 (to_41 - (if (a0_l.getD t23_24.toNat dSStep).At < a1_s.From then a1_s.From else (a0_l.getD t23_24.toNat dSStep).At)))), IntKind.wrap .i64 (low_23 + IntKind.wrap .i64 (iAnd .i64 ((a0_l.getD t23_24.toNat dSStep).Value) 1048575 * IntKind.wrap .i64 (to_41 - (if (a0_l.getD t23_24.toNat dSStep).At < a1_s.From then a1_s.From else (a0_l.getD t23_24.toNat dSStep).At))))), h, sub_gen [0] rfl rfl ⟨zc rfl rfl, zc rfl rfl, zc rfl rfl, zc rfl rfl, zc rfl rfl, zc rfl rfl, zc rfl rfl, trivial⟩ ⟨⟨_, rfl, ⟨ii rfl rfl, ii rfl rfl, trivial⟩⟩, trivial⟩⟩
        rintro ⟨high_37, low_38⟩ h
        show SCode _ _ _ ⟨[(0, .c (.vec a0_l.length 2 (gL cSStep dSStep a0_l))), (3, .c (.ptr 0 0)), (7, .c (.int .i64 high_37)), (8, .c (.int .i64 low_38)), (21, .c (.vec a0_l.length 2 (gL cSStep dSStep a0_l))), (22, .c (.int .i64 (((a0_l).length : Int)))), (23, .c (.int .i64 t23_24))], [.box [.int .i64 a1_s.From, .int .i64 a1_s.To]]⟩ _
        replace h : series_Energy_p39 t23_24 (fun high_22 low_23 t23_24 => series_Energy_l35 a0_l a1_s n_35 high_22 low_23 t23_24) high_37 low_38 = some r := h
        unfold series_Energy_p39 at h
        refine SCode.region (show SOps _ _ _ [0, 1] _ _ from ?_)
        refine SOps.q rfl (.plain rfl) rfl (q_add rfl rfl rfl) ?_
        refine SOps.q rfl (.plain rfl) rfl (q_move rfl rfl) ?_
        refine SOps.sub (st' := ⟨[(0, .c (.vec a0_l.length 2 (gL cSStep dSStep a0_l))), (3, .c (.ptr 0 0)), (7, .c (.int .i64 high_37)), (8, .c (.int .i64 low_38)), (21, .c (.vec a0_l.length 2 (gL cSStep dSStep a0_l))), (22, .c (.int .i64 (((a0_l).length : Int)))), (23, .c (.int .i64 (IntKind.wrap .i64 (t23_24 + 1))))], [.box [.int .i64 a1_s.From, .int .i64 a1_s.To]]⟩) (sub_gen [0] rfl rfl ⟨zc rfl rfl, zc rfl rfl, zc rfl rfl, zc rfl rfl, zc rfl rfl, zc rfl rfl, zc rfl rfl, trivial⟩ ⟨⟨_, rfl, ⟨ii rfl rfl, ii rfl rfl, trivial⟩⟩, trivial⟩) ?_
        refine SOps.nil ?_
        exact ⟨(n_35, (high_37, low_38, IntKind.wrap .i64 (t23_24 + 1))), h, Nat.lt_succ_self n_35, sub_gen [0] rfl rfl ⟨zc rfl rfl, zc rfl rfl, zc rfl rfl, zc rfl rfl, zc rfl rfl, zc rfl rfl, zc rfl rfl, trivial⟩ ⟨⟨_, rfl, ⟨ii rfl rfl, ii rfl rfl, trivial⟩⟩, trivial⟩⟩
      refine SCode.cond_f rfl g36 ?_
      refine SCode.exit ?_
      exact ⟨(high_22, low_23), h, sub_gen [] rfl rfl ⟨zc rfl rfl, zc rfl rfl, trivial⟩ trivial⟩
  rintro ⟨high_7, low_8⟩ h
  show SCode _ _ _ ⟨[(7, .c (.int .i64 high_7)), (8, .c (.int .i64 low_8))], []⟩ _
  replace h : series_Energy_p11 high_7 low_8 = some r := h
  unfold series_Energy_p11 at h
  refine SCode.seq ?_
  refine SCode.region (show SOps _ _ _ [0, 1, 2, 3, 4] _ _ from ?_)
  refine SOps.q rfl (.plain rfl) rfl (q_move rfl rfl) ?_
  refine SOps.q rfl (.plain rfl) rfl (q_move rfl rfl) ?_
  refine SOps.q rfl (.plain rfl) rfl (q_shr rfl rfl rfl (by decide)) ?_
  refine SOps.q rfl (.plain rfl) rfl (q_add rfl rfl rfl) ?_
  refine SOps.q rfl (.plain rfl) rfl (q_assign rfl rfl) ?_
  refine SOps.sub (st' := ⟨[(7, .c (.int .i64 (IntKind.wrap .i64 (high_7 + (low_8 / 2 ^ min (20 : Int).toNat (IntKind.bits .i64)))))), (8, .c (.int .i64 low_8))], []⟩) (sub_gen [] rfl rfl ⟨zc rfl rfl, zc rfl rfl, trivial⟩ trivial) ?_
  refine SOps.nil ?_
  refine SCode.seq ?_
  refine SCode.seq ?_
  rcases cond_out h with ⟨g9, h⟩ | ⟨g9, h⟩
  · refine SCode.region (show SOps _ _ _ [0, 1, 2, 3, 4, 5] _ _ from ?_)
    refine SOps.q rfl (.plain rfl) rfl (q_move rfl rfl) ?_
    refine SOps.q rfl (.plain rfl) rfl (q_lss rfl rfl rfl) ?_
    refine SOps.q rfl (.plain rfl) rfl (q_move rfl rfl) ?_
    refine SOps.skip rfl 2 76 false rfl rfl (.inl (gT g9)) rfl ?_
    refine SOps.skip rfl 2 76 false rfl rfl (.inl (gT g9)) rfl ?_
    refine SOps.q rfl (.plain rfl) rfl (q_pick_t rfl rfl g9 rfl) ?_
    refine SOps.sub (st' := ⟨[(7, .c (.int .i64 (IntKind.wrap .i64 (high_7 + (low_8 / 2 ^ min (20 : Int).toNat (IntKind.bits .i64)))))), (8, .c (.int .i64 low_8)), (79, .c (.bool true))], []⟩) (sub_gen [] rfl rfl ⟨zc rfl rfl, zc rfl rfl, zc rfl rfl, trivial⟩ trivial) ?_
    refine SOps.nil ?_
    refine SCode.cond_t rfl rfl ?_
    refine SCode.seq ?_
    refine SCode.region (show SOps _ _ _ [0, 1] _ _ from ?_)
    refine SOps.q rfl (.plain rfl) rfl (q_assign rfl rfl) ?_
    refine SOps.q rfl (.plain rfl) rfl (q_assign rfl rfl) ?_
    refine SOps.sub (st' := ⟨[(4, .c (.int .i64 0)), (5, .c (.int .i64 20))], []⟩) (sub_gen [] rfl rfl ⟨zc rfl rfl, zc rfl rfl, trivial⟩ trivial) ?_
    refine SOps.nil ?_
    refine SCode.ret ?_
    obtain rfl := Option.some.inj h
    exact ⟨⟨[(4, .c (.int .i64 0)), (5, .c (.int .i64 20))], []⟩, _, sub_gen [] rfl rfl ⟨zc rfl rfl, zc rfl rfl, trivial⟩ trivial, resA2 (v1 := .c (.int .i64 0)) (v2 := .c (.int .i64 20)) rfl rfl rfl, rfl⟩
  refine SCode.region (show SOps _ _ _ [0, 1, 2, 3, 4, 5] _ _ from ?_)
  refine SOps.q rfl (.plain rfl) rfl (q_move rfl rfl) ?_
  refine SOps.q rfl (.plain rfl) rfl (q_lss rfl rfl rfl) ?_
  refine SOps.q rfl (.plain rfl) rfl (q_move rfl rfl) ?_
  refine SOps.q rfl (.guard 2 76 false rfl rfl (gF g9)) rfl (q_move rfl rfl) ?_
  refine SOps.q rfl (.guard 2 76 false rfl rfl (gF g9)) rfl (q_gtr rfl rfl rfl) ?_
  refine SOps.q rfl (.plain rfl) rfl (q_pick_f rfl rfl g9 rfl) ?_
  refine SOps.sub (st' := ⟨[(7, .c (.int .i64 (IntKind.wrap .i64 (high_7 + (low_8 / 2 ^ min (20 : Int).toNat (IntKind.bits .i64)))))), (8, .c (.int .i64 low_8)), (79, .c (.bool (decide (8796093022207 < IntKind.wrap .i64 (high_7 + (low_8 / 2 ^ min (20 : Int).toNat (IntKind.bits .i64)))))))], []⟩) (sub_gen [] rfl rfl ⟨zc rfl rfl, zc rfl rfl, zc rfl rfl, trivial⟩ trivial) ?_
  refine SOps.nil ?_
  rcases cond_out h with ⟨g10, h⟩ | ⟨g10, h⟩
  · refine SCode.cond_t rfl g10 ?_
    refine SCode.seq ?_
    refine SCode.region (show SOps _ _ _ [0, 1] _ _ from ?_)
    refine SOps.q rfl (.plain rfl) rfl (q_assign rfl rfl) ?_
    refine SOps.q rfl (.plain rfl) rfl (q_assign rfl rfl) ?_
    refine SOps.sub (st' := ⟨[(4, .c (.int .i64 0)), (5, .c (.int .i64 20))], []⟩) (sub_gen [] rfl rfl ⟨zc rfl rfl, zc rfl rfl, trivial⟩ trivial) ?_
    refine SOps.nil ?_
    refine SCode.ret ?_
    obtain rfl := Option.some.inj h
    exact ⟨⟨[(4, .c (.int .i64 0)), (5, .c (.int .i64 20))], []⟩, _, sub_gen [] rfl rfl ⟨zc rfl rfl, zc rfl rfl, trivial⟩ trivial, resA2 (v1 := .c (.int .i64 0)) (v2 := .c (.int .i64 20)) rfl rfl rfl, rfl⟩
  refine SCode.cond_f rfl g10 ?_
  refine SCode.skip ?_
  refine SCode.seq ?_
  refine SCode.region (show SOps _ _ _ [0, 1, 2, 3, 4, 5, 6] _ _ from ?_)
  refine SOps.q rfl (.plain rfl) rfl (q_move rfl rfl) ?_
  refine SOps.q rfl (.plain rfl) rfl (q_shl rfl rfl rfl (by decide)) ?_
  refine SOps.q rfl (.plain rfl) rfl (q_move rfl rfl) ?_
  refine SOps.q rfl (.plain rfl) rfl (q_and rfl rfl rfl) ?_
  refine SOps.q rfl (.plain rfl) rfl (q_add rfl rfl rfl) ?_
  refine SOps.q rfl (.plain rfl) rfl (q_assign rfl rfl) ?_
  refine SOps.q rfl (.plain rfl) rfl (q_assign rfl rfl) ?_
  refine SOps.sub (st' := ⟨[(4, .c (.int .i64 (IntKind.wrap .i64 (IntKind.wrap .i64 (IntKind.wrap .i64 (high_7 + (low_8 / 2 ^ min (20 : Int).toNat (IntKind.bits .i64))) * 2 ^ min (20 : Int).toNat (IntKind.bits .i64)) + iAnd .i64 low_8 1048575)))), (5, .c (.int .i64 0))], []⟩) (sub_gen [] rfl rfl ⟨zc rfl rfl, zc rfl rfl, trivial⟩ trivial) ?_
  refine SOps.nil ?_
  refine SCode.ret ?_
  obtain rfl := Option.some.inj h
  exact ⟨⟨[(4, .c (.int .i64 (IntKind.wrap .i64 (IntKind.wrap .i64 (IntKind.wrap .i64 (high_7 + (low_8 / 2 ^ min (20 : Int).toNat (IntKind.bits .i64))) * 2 ^ min (20 : Int).toNat (IntKind.bits .i64)) + iAnd .i64 low_8 1048575)))), (5, .c (.int .i64 0))], []⟩, _, sub_gen [] rfl rfl ⟨zc rfl rfl, zc rfl rfl, trivial⟩ trivial, resA2 (v1 := .c (.int .i64 (IntKind.wrap .i64 (IntKind.wrap .i64 (IntKind.wrap .i64 (high_7 + (low_8 / 2 ^ min (20 : Int).toNat (IntKind.bits .i64))) * 2 ^ min (20 : Int).toNat (IntKind.bits .i64)) + iAnd .i64 low_8 1048575)))) (v2 := .c (.int .i64 0)) rfl rfl rfl, rfl⟩
set_option maxRecDepth 100000 in
set_option maxHeartbeats 8000000 in
theorem compose_At_ok (F : Nat) (a0_l : List SProfile) (a1_conn : Int) (a2_txn : ByteArray) (a3_start : Int) (a4_t : Int) (r : Int) (h : compose_At F a0_l a1_conn a2_txn a3_start a4_t = some r) :
    SFun Try.prog 8 [] [.c (.vec a0_l.length 11 (gL cSProfile dSProfile a0_l)), .c (.int .i64 a1_conn), .c (.str a2_txn), .c (.int .i64 a3_start), .c (.int .i64 a4_t)] (fun x _ => x = .c (.int .i64 r)) := by
  refine SFun.of (n := 18) Try.func8 rfl rfl rfl ?_
  unfold compose_At at h
  show SCode _ _ _ ⟨[(0, .c (.vec a0_l.length 11 (gL cSProfile dSProfile a0_l))), (1, .c (.int .i64 a1_conn)), (2, .c (.str a2_txn)), (3, .c (.int .i64 a3_start)), (4, .c (.int .i64 a4_t))], []⟩ _
  refine SCode.seq ?_
  refine SCode.region (show SOps _ _ _ [0] _ _ from ?_)
  refine SOps.q rfl (.plain rfl) rfl (q_assign rfl rfl) ?_
  refine SOps.sub (st' := ⟨[(0, .c (.vec a0_l.length 11 (gL cSProfile dSProfile a0_l))), (1, .c (.int .i64 a1_conn)), (2, .c (.str a2_txn)), (3, .c (.int .i64 a3_start)), (4, .c (.int .i64 a4_t))], []⟩) (sub_gen [] rfl rfl ⟨zc rfl rfl, zc rfl rfl, zc rfl rfl, zc rfl rfl, zc rfl rfl, trivial⟩ trivial) ?_
  refine SOps.nil ?_
  refine SCode.seq ?_
  obtain ⟨c_1, g2, h⟩ := bind_out h
  try dsimp only at h
  obtain ⟨c_3, g4, h⟩ := bind_out h
  try dsimp only at h
  refine SCode.region (show SOps _ _ _ [0, 1, 2, 3, 4, 5, 6, 7] _ _ from ?_)
  refine SOps.q rfl (.plain rfl) rfl (q_move rfl rfl) ?_
  refine SOps.q rfl (.plain rfl) rfl (q_move rfl rfl) ?_
  refine SOps.q rfl (.plain rfl) rfl (q_move rfl rfl) ?_
  refine SOps.q rfl (.plain rfl) rfl (q_call (compose_candidates_ok F a0_l a1_conn a2_txn c_1 g2) [] rfl fn16 ⟨⟨_, rfl, .inl ⟨rfl, rfl⟩⟩, ⟨_, rfl, .inl ⟨rfl, rfl⟩⟩, ⟨_, rfl, .inl ⟨rfl, rfl⟩⟩, trivial⟩ (.inl rfl)) ?_
  refine SOps.q rfl (.plain rfl) rfl (q_move rfl rfl) ?_
  refine SOps.q rfl (.plain rfl) rfl (q_move rfl rfl) ?_
  refine SOps.q rfl (.plain rfl) rfl (q_call (compose_limit_ok F c_1 a3_start a4_t c_3 g4) [] rfl fn18 ⟨⟨_, rfl, .inl ⟨rfl, rfl⟩⟩, ⟨_, rfl, .inl ⟨rfl, rfl⟩⟩, ⟨_, rfl, .inl ⟨rfl, rfl⟩⟩, trivial⟩ (.inl rfl)) ?_
  refine SOps.q rfl (.plain rfl) rfl (q_assign rfl rfl) ?_
  refine SOps.sub (st' := ⟨[(10, .c (.int .i64 c_3))], []⟩) (sub_gen [] rfl rfl ⟨zc rfl rfl, trivial⟩ trivial) ?_
  refine SOps.nil ?_
  refine SCode.ret ?_
  obtain rfl := Option.some.inj h
  exact ⟨⟨[(10, .c (.int .i64 c_3))], []⟩, _, sub_gen [] rfl rfl ⟨zc rfl rfl, trivial⟩ trivial, resA1 (v := .c (.int .i64 c_3)) rfl rfl, rfl⟩
end Go.Proofs.Ytfbkimhoncfnmaa.W
