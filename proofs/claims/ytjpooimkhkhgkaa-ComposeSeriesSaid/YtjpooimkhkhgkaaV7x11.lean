/- Written by a program of ours (wip/eng/gen.py): the functions compute their models. -/
import Derived.Test.YtjpooimkhkhgkaaFacts
import Derived.Test.YtjpooimkhkhgkaaV7x10
namespace Go.Proofs.Ytjpooimkhkhgkaa.W
open Go Go.Proofs Go.Proofs.Ytjpooimkhkhgkaa.E Go.Proofs.Ytjpooimkhkhgkaa.M
set_option linter.unusedVariables false
set_option maxRecDepth 100000 in
set_option maxHeartbeats 8000000 in
theorem chargenetref16_Series_ok (F : Nat) (a0_l : List SProfile) (a1_conn : Int) (a2_txn : ByteArray) (a3_start : Int) (a4_s : SSpan) (r : (List SStep) × Int) (h : chargenetref16_Series F a0_l a1_conn a2_txn a3_start a4_s = some r) :
    SFun Try.prog 16 [] [.c (.vec a0_l.length 11 (gL cSProfile dSProfile a0_l)), .c (.int .i64 a1_conn), .c (.str a2_txn), .c (.int .i64 a3_start), .a [.int .i64 a4_s.From, .int .i64 a4_s.To]] (fun x _ => x = .t [.c (.vec r.1.length 2 (gL cSStep dSStep r.1)), .c (.int .i64 r.2)]) := by
  refine SFun.of (n := 76) Try.func16 rfl rfl rfl ?_
  unfold chargenetref16_Series at h
  show SCode _ _ _ ⟨[(0, .c (.vec a0_l.length 11 (gL cSProfile dSProfile a0_l))), (1, .c (.int .i64 a1_conn)), (2, .c (.str a2_txn)), (3, .c (.int .i64 a3_start)), (4, .a [.int .i64 a4_s.From, .int .i64 a4_s.To])], []⟩ _
  refine SCode.seq ?_
  refine SCode.region (show SOps _ _ _ [0, 1, 2] _ _ from ?_)
  refine SOps.e rfl (.plain rfl) (e_box rfl rfl rfl rfl rfl rfl) ?_
  refine SOps.q rfl (.plain rfl) rfl (q_assign rfl rfl) ?_
  refine SOps.q rfl (.plain rfl) rfl (q_assign rfl rfl) ?_
  refine SOps.sub (st' := ⟨[(0, .c (.vec a0_l.length 11 (gL cSProfile dSProfile a0_l))), (1, .c (.int .i64 a1_conn)), (2, .c (.str a2_txn)), (3, .c (.int .i64 a3_start)), (9, .c (.ptr 0 0))], [.box [.int .i64 a4_s.From, .int .i64 a4_s.To]]⟩) (sub_gen [0] rfl rfl ⟨zc rfl rfl, zc rfl rfl, zc rfl rfl, zc rfl rfl, zc rfl rfl, trivial⟩ ⟨⟨_, rfl, ⟨ii rfl rfl, ii rfl rfl, trivial⟩⟩, trivial⟩) ?_
  refine SOps.nil ?_
  refine SCode.seq ?_
  refine SCode.seq ?_
  rcases cond_out h with ⟨g1, h⟩ | ⟨g1, h⟩
  · refine SCode.region (show SOps _ _ _ [0, 1, 2, 3, 4, 5, 6, 7, 8, 9, 10, 11, 12, 13, 14, 15, 16, 17, 18, 19, 20, 21, 22] _ _ from ?_)
    refine SOps.q rfl (.plain rfl) rfl (q_field_ptr rfl rfl fd28_0) ?_
    refine SOps.q rfl (.plain rfl) rfl (q_load_ptr rfl rfl rfl rfl ty3) ?_
    refine SOps.q rfl (.plain rfl) rfl (q_lss rfl rfl rfl) ?_
    refine SOps.q rfl (.plain rfl) rfl (q_move rfl rfl) ?_
    refine SOps.skip rfl 3 18 false rfl rfl (.inl (gT g1)) rfl ?_
    refine SOps.skip rfl 3 18 false rfl rfl (.inl (gT g1)) rfl ?_
    refine SOps.skip rfl 3 18 false rfl rfl (.inl (gT g1)) rfl ?_
    refine SOps.skip rfl 3 18 false rfl rfl (.inl (gT g1)) rfl ?_
    refine SOps.skip rfl 3 18 false rfl rfl (.inl (gT g1)) rfl ?_
    refine SOps.q rfl (.plain rfl) rfl (q_pick_t rfl rfl g1 rfl) ?_
    refine SOps.q rfl (.plain rfl) rfl (q_move rfl rfl) ?_
    refine SOps.skip rfl 10 25 false rfl rfl (.inl rfl) rfl ?_
    refine SOps.skip rfl 10 25 false rfl rfl (.inl rfl) rfl ?_
    refine SOps.skip rfl 10 25 false rfl rfl (.inl rfl) rfl ?_
    refine SOps.q rfl (.plain rfl) rfl (q_pick_t rfl rfl rfl rfl) ?_
    refine SOps.q rfl (.plain rfl) rfl (q_move rfl rfl) ?_
    refine SOps.skip rfl 15 30 false rfl rfl (.inl rfl) rfl ?_
    refine SOps.skip rfl 15 30 false rfl rfl (.inl rfl) rfl ?_
    refine SOps.skip rfl 15 30 false rfl rfl (.inl rfl) rfl ?_
    refine SOps.skip rfl 15 30 false rfl rfl (.inl rfl) rfl ?_
    refine SOps.skip rfl 15 30 false rfl rfl (.inl rfl) rfl ?_
    refine SOps.skip rfl 15 30 false rfl rfl (.inl rfl) rfl ?_
    refine SOps.q rfl (.plain rfl) rfl (q_pick_t rfl rfl rfl rfl) ?_
    refine SOps.sub (st' := ⟨[(0, .c (.vec a0_l.length 11 (gL cSProfile dSProfile a0_l))), (1, .c (.int .i64 a1_conn)), (2, .c (.str a2_txn)), (3, .c (.int .i64 a3_start)), (9, .c (.ptr 0 0)), (37, .c (.bool true))], [.box [.int .i64 a4_s.From, .int .i64 a4_s.To]]⟩) (sub_gen [0] rfl rfl ⟨zc rfl rfl, zc rfl rfl, zc rfl rfl, zc rfl rfl, zc rfl rfl, zc rfl rfl, trivial⟩ ⟨⟨_, rfl, ⟨ii rfl rfl, ii rfl rfl, trivial⟩⟩, trivial⟩) ?_
    refine SOps.nil ?_
    refine SCode.cond_t rfl rfl ?_
    refine SCode.seq ?_
    refine SCode.region (show SOps _ _ _ [0, 1] _ _ from ?_)
    refine SOps.q rfl (.plain rfl) rfl (q_assign rfl rfl) ?_
    refine SOps.q rfl (.plain rfl) rfl (q_assign rfl rfl) ?_
    refine SOps.sub (st' := ⟨[(10, .c (.raw (.slice none 0 0))), (11, .c (.int .i64 2))], []⟩) (sub_gen [] rfl rfl ⟨zc rfl rfl, zc rfl rfl, trivial⟩ trivial) ?_
    refine SOps.nil ?_
    refine SCode.ret ?_
    obtain rfl := Option.some.inj h
    exact ⟨⟨[(10, .c (.vec (([] : List SStep)).length 2 (gL cSStep dSStep (([] : List SStep))))), (11, .c (.int .i64 2))], []⟩, _, sub_gen [] rfl rfl ⟨⟨_, rfl, .inr (.inr (.inr (.inl ⟨_, _, rfl, rfl⟩)))⟩, zc rfl rfl, trivial⟩ trivial, resA2 (v1 := .c (.vec (([] : List SStep)).length 2 (gL cSStep dSStep (([] : List SStep))))) (v2 := .c (.int .i64 2)) rfl rfl rfl, rfl⟩
  rcases cond_out h with ⟨g2, h⟩ | ⟨g2, h⟩
  · refine SCode.region (show SOps _ _ _ [0, 1, 2, 3, 4, 5, 6, 7, 8, 9, 10, 11, 12, 13, 14, 15, 16, 17, 18, 19, 20, 21, 22] _ _ from ?_)
    refine SOps.q rfl (.plain rfl) rfl (q_field_ptr rfl rfl fd28_0) ?_
    refine SOps.q rfl (.plain rfl) rfl (q_load_ptr rfl rfl rfl rfl ty3) ?_
    refine SOps.q rfl (.plain rfl) rfl (q_lss rfl rfl rfl) ?_
    refine SOps.q rfl (.plain rfl) rfl (q_move rfl rfl) ?_
    refine SOps.q rfl (.guard 3 18 false rfl rfl (gF g1)) rfl (q_field_ptr rfl rfl fd28_1) ?_
    refine SOps.q rfl (.guard 3 18 false rfl rfl (gF g1)) rfl (q_load_ptr rfl rfl rfl rfl ty3) ?_
    refine SOps.q rfl (.guard 3 18 false rfl rfl (gF g1)) rfl (q_field_ptr rfl rfl fd28_0) ?_
    refine SOps.q rfl (.guard 3 18 false rfl rfl (gF g1)) rfl (q_load_ptr rfl rfl rfl rfl ty3) ?_
    refine SOps.q rfl (.guard 3 18 false rfl rfl (gF g1)) rfl (q_lss rfl rfl rfl) ?_
    refine SOps.q rfl (.plain rfl) rfl (q_pick_f rfl rfl g1 rfl) ?_
    refine SOps.q rfl (.plain rfl) rfl (q_move rfl rfl) ?_
    refine SOps.skip rfl 10 25 false rfl rfl (.inl (gT g2)) rfl ?_
    refine SOps.skip rfl 10 25 false rfl rfl (.inl (gT g2)) rfl ?_
    refine SOps.skip rfl 10 25 false rfl rfl (.inl (gT g2)) rfl ?_
    refine SOps.q rfl (.plain rfl) rfl (q_pick_t rfl rfl g2 rfl) ?_
    refine SOps.q rfl (.plain rfl) rfl (q_move rfl rfl) ?_
    refine SOps.skip rfl 15 30 false rfl rfl (.inl rfl) rfl ?_
    refine SOps.skip rfl 15 30 false rfl rfl (.inl rfl) rfl ?_
    refine SOps.skip rfl 15 30 false rfl rfl (.inl rfl) rfl ?_
    refine SOps.skip rfl 15 30 false rfl rfl (.inl rfl) rfl ?_
    refine SOps.skip rfl 15 30 false rfl rfl (.inl rfl) rfl ?_
    refine SOps.skip rfl 15 30 false rfl rfl (.inl rfl) rfl ?_
    refine SOps.q rfl (.plain rfl) rfl (q_pick_t rfl rfl rfl rfl) ?_
    refine SOps.sub (st' := ⟨[(0, .c (.vec a0_l.length 11 (gL cSProfile dSProfile a0_l))), (1, .c (.int .i64 a1_conn)), (2, .c (.str a2_txn)), (3, .c (.int .i64 a3_start)), (9, .c (.ptr 0 0)), (37, .c (.bool true))], [.box [.int .i64 a4_s.From, .int .i64 a4_s.To]]⟩) (sub_gen [0] rfl rfl ⟨zc rfl rfl, zc rfl rfl, zc rfl rfl, zc rfl rfl, zc rfl rfl, zc rfl rfl, trivial⟩ ⟨⟨_, rfl, ⟨ii rfl rfl, ii rfl rfl, trivial⟩⟩, trivial⟩) ?_
    refine SOps.nil ?_
    refine SCode.cond_t rfl rfl ?_
    refine SCode.seq ?_
    refine SCode.region (show SOps _ _ _ [0, 1] _ _ from ?_)
    refine SOps.q rfl (.plain rfl) rfl (q_assign rfl rfl) ?_
    refine SOps.q rfl (.plain rfl) rfl (q_assign rfl rfl) ?_
    refine SOps.sub (st' := ⟨[(10, .c (.raw (.slice none 0 0))), (11, .c (.int .i64 2))], []⟩) (sub_gen [] rfl rfl ⟨zc rfl rfl, zc rfl rfl, trivial⟩ trivial) ?_
    refine SOps.nil ?_
    refine SCode.ret ?_
    obtain rfl := Option.some.inj h
    exact ⟨⟨[(10, .c (.vec (([] : List SStep)).length 2 (gL cSStep dSStep (([] : List SStep))))), (11, .c (.int .i64 2))], []⟩, _, sub_gen [] rfl rfl ⟨⟨_, rfl, .inr (.inr (.inr (.inl ⟨_, _, rfl, rfl⟩)))⟩, zc rfl rfl, trivial⟩ trivial, resA2 (v1 := .c (.vec (([] : List SStep)).length 2 (gL cSStep dSStep (([] : List SStep))))) (v2 := .c (.int .i64 2)) rfl rfl rfl, rfl⟩
  rcases cond_out h with ⟨g3, h⟩ | ⟨g3, h⟩
  · refine SCode.region (show SOps _ _ _ [0, 1, 2, 3, 4, 5, 6, 7, 8, 9, 10, 11, 12, 13, 14, 15, 16, 17, 18, 19, 20, 21, 22] _ _ from ?_)
    refine SOps.q rfl (.plain rfl) rfl (q_field_ptr rfl rfl fd28_0) ?_
    refine SOps.q rfl (.plain rfl) rfl (q_load_ptr rfl rfl rfl rfl ty3) ?_
    refine SOps.q rfl (.plain rfl) rfl (q_lss rfl rfl rfl) ?_
    refine SOps.q rfl (.plain rfl) rfl (q_move rfl rfl) ?_
    refine SOps.q rfl (.guard 3 18 false rfl rfl (gF g1)) rfl (q_field_ptr rfl rfl fd28_1) ?_
    refine SOps.q rfl (.guard 3 18 false rfl rfl (gF g1)) rfl (q_load_ptr rfl rfl rfl rfl ty3) ?_
    refine SOps.q rfl (.guard 3 18 false rfl rfl (gF g1)) rfl (q_field_ptr rfl rfl fd28_0) ?_
    refine SOps.q rfl (.guard 3 18 false rfl rfl (gF g1)) rfl (q_load_ptr rfl rfl rfl rfl ty3) ?_
    refine SOps.q rfl (.guard 3 18 false rfl rfl (gF g1)) rfl (q_lss rfl rfl rfl) ?_
    refine SOps.q rfl (.plain rfl) rfl (q_pick_f rfl rfl g1 rfl) ?_
    refine SOps.q rfl (.plain rfl) rfl (q_move rfl rfl) ?_
    refine SOps.q rfl (.guard 10 25 false rfl rfl (gF g2)) rfl (q_field_ptr rfl rfl fd28_1) ?_
    refine SOps.q rfl (.guard 10 25 false rfl rfl (gF g2)) rfl (q_load_ptr rfl rfl rfl rfl ty3) ?_
    refine SOps.q rfl (.guard 10 25 false rfl rfl (gF g2)) rfl (q_gtr rfl rfl rfl) ?_
    refine SOps.q rfl (.plain rfl) rfl (q_pick_f rfl rfl g2 rfl) ?_
    refine SOps.q rfl (.plain rfl) rfl (q_move rfl rfl) ?_
    refine SOps.skip rfl 15 30 false rfl rfl (.inl (gT g3)) rfl ?_
    refine SOps.skip rfl 15 30 false rfl rfl (.inl (gT g3)) rfl ?_
    refine SOps.skip rfl 15 30 false rfl rfl (.inl (gT g3)) rfl ?_
    refine SOps.skip rfl 15 30 false rfl rfl (.inl (gT g3)) rfl ?_
    refine SOps.skip rfl 15 30 false rfl rfl (.inl (gT g3)) rfl ?_
    refine SOps.skip rfl 15 30 false rfl rfl (.inl (gT g3)) rfl ?_
    refine SOps.q rfl (.plain rfl) rfl (q_pick_t rfl rfl g3 rfl) ?_
    refine SOps.sub (st' := ⟨[(0, .c (.vec a0_l.length 11 (gL cSProfile dSProfile a0_l))), (1, .c (.int .i64 a1_conn)), (2, .c (.str a2_txn)), (3, .c (.int .i64 a3_start)), (9, .c (.ptr 0 0)), (37, .c (.bool true))], [.box [.int .i64 a4_s.From, .int .i64 a4_s.To]]⟩) (sub_gen [0] rfl rfl ⟨zc rfl rfl, zc rfl rfl, zc rfl rfl, zc rfl rfl, zc rfl rfl, zc rfl rfl, trivial⟩ ⟨⟨_, rfl, ⟨ii rfl rfl, ii rfl rfl, trivial⟩⟩, trivial⟩) ?_
    refine SOps.nil ?_
    refine SCode.cond_t rfl rfl ?_
    refine SCode.seq ?_
    refine SCode.region (show SOps _ _ _ [0, 1] _ _ from ?_)
    refine SOps.q rfl (.plain rfl) rfl (q_assign rfl rfl) ?_
    refine SOps.q rfl (.plain rfl) rfl (q_assign rfl rfl) ?_
    refine SOps.sub (st' := ⟨[(10, .c (.raw (.slice none 0 0))), (11, .c (.int .i64 2))], []⟩) (sub_gen [] rfl rfl ⟨zc rfl rfl, zc rfl rfl, trivial⟩ trivial) ?_
    refine SOps.nil ?_
    refine SCode.ret ?_
    obtain rfl := Option.some.inj h
    exact ⟨⟨[(10, .c (.vec (([] : List SStep)).length 2 (gL cSStep dSStep (([] : List SStep))))), (11, .c (.int .i64 2))], []⟩, _, sub_gen [] rfl rfl ⟨⟨_, rfl, .inr (.inr (.inr (.inl ⟨_, _, rfl, rfl⟩)))⟩, zc rfl rfl, trivial⟩ trivial, resA2 (v1 := .c (.vec (([] : List SStep)).length 2 (gL cSStep dSStep (([] : List SStep))))) (v2 := .c (.int .i64 2)) rfl rfl rfl, rfl⟩
  refine SCode.region (show SOps _ _ _ [0, 1, 2, 3, 4, 5, 6, 7, 8, 9, 10, 11, 12, 13, 14, 15, 16, 17, 18, 19, 20, 21, 22] _ _ from ?_)
  refine SOps.q rfl (.plain rfl) rfl (q_field_ptr rfl rfl fd28_0) ?_
  refine SOps.q rfl (.plain rfl) rfl (q_load_ptr rfl rfl rfl rfl ty3) ?_
  refine SOps.q rfl (.plain rfl) rfl (q_lss rfl rfl rfl) ?_
  refine SOps.q rfl (.plain rfl) rfl (q_move rfl rfl) ?_
  refine SOps.q rfl (.guard 3 18 false rfl rfl (gF g1)) rfl (q_field_ptr rfl rfl fd28_1) ?_
  refine SOps.q rfl (.guard 3 18 false rfl rfl (gF g1)) rfl (q_load_ptr rfl rfl rfl rfl ty3) ?_
  refine SOps.q rfl (.guard 3 18 false rfl rfl (gF g1)) rfl (q_field_ptr rfl rfl fd28_0) ?_
  refine SOps.q rfl (.guard 3 18 false rfl rfl (gF g1)) rfl (q_load_ptr rfl rfl rfl rfl ty3) ?_
  refine SOps.q rfl (.guard 3 18 false rfl rfl (gF g1)) rfl (q_lss rfl rfl rfl) ?_
  refine SOps.q rfl (.plain rfl) rfl (q_pick_f rfl rfl g1 rfl) ?_
  refine SOps.q rfl (.plain rfl) rfl (q_move rfl rfl) ?_
  refine SOps.q rfl (.guard 10 25 false rfl rfl (gF g2)) rfl (q_field_ptr rfl rfl fd28_1) ?_
  refine SOps.q rfl (.guard 10 25 false rfl rfl (gF g2)) rfl (q_load_ptr rfl rfl rfl rfl ty3) ?_
  refine SOps.q rfl (.guard 10 25 false rfl rfl (gF g2)) rfl (q_gtr rfl rfl rfl) ?_
  refine SOps.q rfl (.plain rfl) rfl (q_pick_f rfl rfl g2 rfl) ?_
  refine SOps.q rfl (.plain rfl) rfl (q_move rfl rfl) ?_
  refine SOps.q rfl (.guard 15 30 false rfl rfl (gF g3)) rfl (q_field_ptr rfl rfl fd28_1) ?_
  refine SOps.q rfl (.guard 15 30 false rfl rfl (gF g3)) rfl (q_load_ptr rfl rfl rfl rfl ty3) ?_
  refine SOps.q rfl (.guard 15 30 false rfl rfl (gF g3)) rfl (q_field_ptr rfl rfl fd28_0) ?_
  refine SOps.q rfl (.guard 15 30 false rfl rfl (gF g3)) rfl (q_load_ptr rfl rfl rfl rfl ty3) ?_
  refine SOps.q rfl (.guard 15 30 false rfl rfl (gF g3)) rfl (q_sub rfl rfl rfl) ?_
  refine SOps.q rfl (.guard 15 30 false rfl rfl (gF g3)) rfl (q_gtr rfl rfl rfl) ?_
  refine SOps.q rfl (.plain rfl) rfl (q_pick_f rfl rfl g3 rfl) ?_
  refine SOps.sub (st' := ⟨[(0, .c (.vec a0_l.length 11 (gL cSProfile dSProfile a0_l))), (1, .c (.int .i64 a1_conn)), (2, .c (.str a2_txn)), (3, .c (.int .i64 a3_start)), (9, .c (.ptr 0 0)), (37, .c (.bool (decide (20160 < IntKind.wrap .i64 (a4_s.To - a4_s.From)))))], [.box [.int .i64 a4_s.From, .int .i64 a4_s.To]]⟩) (sub_gen [0] rfl rfl ⟨zc rfl rfl, zc rfl rfl, zc rfl rfl, zc rfl rfl, zc rfl rfl, zc rfl rfl, trivial⟩ ⟨⟨_, rfl, ⟨ii rfl rfl, ii rfl rfl, trivial⟩⟩, trivial⟩) ?_
  refine SOps.nil ?_
  rcases cond_out h with ⟨g4, h⟩ | ⟨g4, h⟩
  · refine SCode.cond_t rfl g4 ?_
    refine SCode.seq ?_
    refine SCode.region (show SOps _ _ _ [0, 1] _ _ from ?_)
    refine SOps.q rfl (.plain rfl) rfl (q_assign rfl rfl) ?_
    refine SOps.q rfl (.plain rfl) rfl (q_assign rfl rfl) ?_
    refine SOps.sub (st' := ⟨[(10, .c (.raw (.slice none 0 0))), (11, .c (.int .i64 2))], []⟩) (sub_gen [] rfl rfl ⟨zc rfl rfl, zc rfl rfl, trivial⟩ trivial) ?_
    refine SOps.nil ?_
    refine SCode.ret ?_
    obtain rfl := Option.some.inj h
    exact ⟨⟨[(10, .c (.vec (([] : List SStep)).length 2 (gL cSStep dSStep (([] : List SStep))))), (11, .c (.int .i64 2))], []⟩, _, sub_gen [] rfl rfl ⟨⟨_, rfl, .inr (.inr (.inr (.inl ⟨_, _, rfl, rfl⟩)))⟩, zc rfl rfl, trivial⟩ trivial, resA2 (v1 := .c (.vec (([] : List SStep)).length 2 (gL cSStep dSStep (([] : List SStep))))) (v2 := .c (.int .i64 2)) rfl rfl rfl, rfl⟩
  refine SCode.cond_f rfl g4 ?_
  refine SCode.skip ?_
  refine SCode.seq ?_
  refine SCode.region (show SOps _ _ _ [0] _ _ from ?_)
  refine SOps.q rfl (.plain rfl) rfl (q_assign rfl rfl) ?_
  refine SOps.nilArrL (T := 46) (k := 2) cSStep dSStep (s := 12) rfl rfl ?_
  refine SOps.sub (st' := ⟨[(0, .c (.vec a0_l.length 11 (gL cSProfile dSProfile a0_l))), (1, .c (.int .i64 a1_conn)), (2, .c (.str a2_txn)), (3, .c (.int .i64 a3_start)), (9, .c (.ptr 0 0)), (12, .c (.own 1 (([] : List SStep)).length))], [.box [.int .i64 a4_s.From, .int .i64 a4_s.To], .arr 46 2 (([] : List SStep)).length (gL cSStep dSStep (([] : List SStep)))]⟩) (sub_gen [0, 1] rfl rfl ⟨zc rfl rfl, zc rfl rfl, zc rfl rfl, zc rfl rfl, zc rfl rfl, zc rfl rfl, trivial⟩ ⟨⟨_, rfl, ⟨ii rfl rfl, ii rfl rfl, trivial⟩⟩, oa rfl, trivial⟩) ?_
  refine SOps.nil ?_
  refine SCode.join (σ := (List SStep)) (S := fun s => ⟨[(12, .c (.own 0 s.length))], [.arr 46 2 s.length (gL cSStep dSStep s)]⟩) (g := fun s => chargenetref16_Series_p7 s = some r) ?_ ?_
  rotate_left
  · refine SCode.seq ?_
    refine SCode.region (show SOps _ _ _ [0, 1, 2] _ _ from ?_)
    refine SOps.q rfl (.plain rfl) rfl (q_field_ptr rfl rfl fd28_0) ?_
    refine SOps.q rfl (.plain rfl) rfl (q_load_ptr rfl rfl rfl rfl ty3) ?_
    refine SOps.q rfl (.plain rfl) rfl (q_assign rfl rfl) ?_
    refine SOps.sub (st' := ⟨[(0, .c (.vec a0_l.length 11 (gL cSProfile dSProfile a0_l))), (1, .c (.int .i64 a1_conn)), (2, .c (.str a2_txn)), (3, .c (.int .i64 a3_start)), (9, .c (.ptr 0 0)), (12, .c (.own 1 (([] : List SStep)).length)), (13, .c (.int .i64 a4_s.From))], [.box [.int .i64 a4_s.From, .int .i64 a4_s.To], .arr 46 2 (([] : List SStep)).length (gL cSStep dSStep (([] : List SStep)))]⟩) (sub_gen [0, 1] rfl rfl ⟨zc rfl rfl, zc rfl rfl, zc rfl rfl, zc rfl rfl, zc rfl rfl, zc rfl rfl, zc rfl rfl, trivial⟩ ⟨⟨_, rfl, ⟨ii rfl rfl, ii rfl rfl, trivial⟩⟩, oa rfl, trivial⟩) ?_
    refine SOps.nil ?_
    refine SCode.block ?_
    refine SCode.sub (st' := ⟨[(0, .c (.vec a0_l.length 11 (gL cSProfile dSProfile a0_l))), (1, .c (.int .i64 a1_conn)), (2, .c (.str a2_txn)), (3, .c (.int .i64 a3_start)), (9, .c (.ptr 0 0)), (12, .c (.own 1 ([] : List SStep).length)), (13, .c (.int .i64 a4_s.From))], [.box [.int .i64 a4_s.From, .int .i64 a4_s.To], .arr 46 2 ([] : List SStep).length (gL cSStep dSStep ([] : List SStep))]⟩) (sub_gen [0, 1] rfl rfl ⟨zc rfl rfl, zc rfl rfl, zc rfl rfl, zc rfl rfl, zc rfl rfl, zc rfl rfl, zc rfl rfl, trivial⟩ ⟨⟨_, rfl, ⟨ii rfl rfl, ii rfl rfl, trivial⟩⟩, oa rfl, trivial⟩) ?_
    refine (SCode.loop (σ := Nat × (Int × (List SStep))) (S := fun s => ⟨[(0, .c (.vec a0_l.length 11 (gL cSProfile dSProfile a0_l))), (1, .c (.int .i64 a1_conn)), (2, .c (.str a2_txn)), (3, .c (.int .i64 a3_start)), (9, .c (.ptr 0 0)), (12, .c (.own 1 s.2.2.length)), (13, .c (.int .i64 s.2.1))], [.box [.int .i64 a4_s.From, .int .i64 a4_s.To], .arr 46 2 s.2.2.length (gL cSStep dSStep s.2.2)]⟩) (g := fun s => chargenetref16_Series_l30 F a0_l a1_conn a2_txn a3_start a4_s s.1 s.2.1 s.2.2 = some r) (μ := fun s => s.1) (F, (a4_s.From, ([] : List SStep))) h ?_)
    rintro ⟨n_30, ⟨t_18, o1_19⟩⟩ h
    replace h : chargenetref16_Series_l30 F a0_l a1_conn a2_txn a3_start a4_s n_30 t_18 o1_19 = some r := h
    show SCode _ _ _ ⟨[(0, .c (.vec a0_l.length 11 (gL cSProfile dSProfile a0_l))), (1, .c (.int .i64 a1_conn)), (2, .c (.str a2_txn)), (3, .c (.int .i64 a3_start)), (9, .c (.ptr 0 0)), (12, .c (.own 1 o1_19.length)), (13, .c (.int .i64 t_18))], [.box [.int .i64 a4_s.From, .int .i64 a4_s.To], .arr 46 2 o1_19.length (gL cSStep dSStep o1_19)]⟩ _
    cases n_30 with
    | zero => cases h
    | succ n_30 =>
      replace h : chargenetref16_Series_b30 F a0_l a1_conn a2_txn a3_start a4_s (fun t_18 o1_19 => chargenetref16_Series_l30 F a0_l a1_conn a2_txn a3_start a4_s n_30 t_18 o1_19) t_18 o1_19 = some r := h
      unfold chargenetref16_Series_b30 at h
      refine SCode.seq ?_
      refine SCode.seq ?_
      refine SCode.region (show SOps _ _ _ [0, 1, 2, 3] _ _ from ?_)
      refine SOps.q rfl (.plain rfl) rfl (q_move rfl rfl) ?_
      refine SOps.q rfl (.plain rfl) rfl (q_field_ptr rfl rfl fd28_1) ?_
      refine SOps.q rfl (.plain rfl) rfl (q_load_ptr rfl rfl rfl rfl ty3) ?_
      refine SOps.q rfl (.plain rfl) rfl (q_lss rfl rfl rfl) ?_
      refine SOps.sub (st' := ⟨[(0, .c (.vec a0_l.length 11 (gL cSProfile dSProfile a0_l))), (1, .c (.int .i64 a1_conn)), (2, .c (.str a2_txn)), (3, .c (.int .i64 a3_start)), (9, .c (.ptr 0 0)), (12, .c (.own 1 o1_19.length)), (13, .c (.int .i64 t_18)), (43, .c (.bool (decide (t_18 < a4_s.To))))], [.box [.int .i64 a4_s.From, .int .i64 a4_s.To], .arr 46 2 o1_19.length (gL cSStep dSStep o1_19)]⟩) (sub_gen [0, 1] rfl rfl ⟨zc rfl rfl, zc rfl rfl, zc rfl rfl, zc rfl rfl, zc rfl rfl, zc rfl rfl, zc rfl rfl, zc rfl rfl, trivial⟩ ⟨⟨_, rfl, ⟨ii rfl rfl, ii rfl rfl, trivial⟩⟩, oa rfl, trivial⟩) ?_
      refine SOps.nil ?_
      rcases cond_out h with ⟨g31, h⟩ | ⟨g31, h⟩
      · refine SCode.cond_t rfl g31 ?_
        refine SCode.skip ?_
        refine SCode.join (σ := (List SStep)) (S := fun s => ⟨[(0, .c (.vec a0_l.length 11 (gL cSProfile dSProfile a0_l))), (1, .c (.int .i64 a1_conn)), (2, .c (.str a2_txn)), (3, .c (.int .i64 a3_start)), (9, .c (.ptr 0 0)), (12, .c (.own 1 s.length)), (13, .c (.int .i64 t_18))], [.box [.int .i64 a4_s.From, .int .i64 a4_s.To], .arr 46 2 s.length (gL cSStep dSStep s)]⟩) (g := fun s => chargenetref16_Series_p33 t_18 (fun t_18 o1_19 => chargenetref16_Series_l30 F a0_l a1_conn a2_txn a3_start a4_s n_30 t_18 o1_19) s = some r) ?_ ?_
        rotate_left
        · refine SCode.block ?_
          refine SCode.seq ?_
          obtain ⟨c_34, g35, h⟩ := bind_out h
          try dsimp only at h
          refine SCode.region (show SOps _ _ _ [0, 1, 2, 3, 4, 5, 6] _ _ from ?_)
          refine SOps.q rfl (.plain rfl) rfl (q_move rfl rfl) ?_
          refine SOps.q rfl (.plain rfl) rfl (q_move rfl rfl) ?_
          refine SOps.q rfl (.plain rfl) rfl (q_move rfl rfl) ?_
          refine SOps.q rfl (.plain rfl) rfl (q_move rfl rfl) ?_
          refine SOps.q rfl (.plain rfl) rfl (q_move rfl rfl) ?_
          refine SOps.q rfl (.plain rfl) rfl (q_call (chargenetref16_At_ok F a0_l a1_conn a2_txn a3_start t_18 c_34 g35) [] rfl fn14 ⟨⟨_, rfl, .inl ⟨rfl, rfl⟩⟩, ⟨_, rfl, .inl ⟨rfl, rfl⟩⟩, ⟨_, rfl, .inl ⟨rfl, rfl⟩⟩, ⟨_, rfl, .inl ⟨rfl, rfl⟩⟩, ⟨_, rfl, .inl ⟨rfl, rfl⟩⟩, trivial⟩ (.inl rfl)) ?_
          refine SOps.q rfl (.plain rfl) rfl (q_assign rfl rfl) ?_
          refine SOps.sub (st' := ⟨[(0, .c (.vec a0_l.length 11 (gL cSProfile dSProfile a0_l))), (1, .c (.int .i64 a1_conn)), (2, .c (.str a2_txn)), (3, .c (.int .i64 a3_start)), (9, .c (.ptr 0 0)), (12, .c (.own 1 o1_19.length)), (13, .c (.int .i64 t_18)), (14, .c (.int .i64 c_34))], [.box [.int .i64 a4_s.From, .int .i64 a4_s.To], .arr 46 2 o1_19.length (gL cSStep dSStep o1_19)]⟩) (sub_gen [0, 1] rfl rfl ⟨zc rfl rfl, zc rfl rfl, zc rfl rfl, zc rfl rfl, zc rfl rfl, zc rfl rfl, zc rfl rfl, zc rfl rfl, trivial⟩ ⟨⟨_, rfl, ⟨ii rfl rfl, ii rfl rfl, trivial⟩⟩, oa rfl, trivial⟩) ?_
          refine SOps.nil ?_
          refine SCode.seq ?_
          rcases cond_out h with ⟨g36, h⟩ | ⟨g36, h⟩
          · refine SCode.region (show SOps _ _ _ [0, 1, 2, 3, 4, 5, 6, 7, 8, 9, 10, 11, 12, 13] _ _ from ?_)
            refine SOps.q rfl (.plain rfl) rfl (q_move rfl rfl) ?_
            refine SOps.q rfl (.plain rfl) rfl (q_len_own rfl rfl sl41) ?_
            refine SOps.q rfl (.plain rfl) rfl (q_eql rfl rfl rfl) ?_
            refine SOps.q rfl (.plain rfl) rfl (q_move rfl rfl) ?_
            refine SOps.skip rfl 3 55 false rfl rfl (.inl (gT g36)) rfl ?_
            refine SOps.skip rfl 3 55 false rfl rfl (.inl (gT g36)) rfl ?_
            refine SOps.skip rfl 3 55 false rfl rfl (.inl (gT g36)) rfl ?_
            refine SOps.skip rfl 3 55 false rfl rfl (.inl (gT g36)) rfl ?_
            refine SOps.skip rfl 3 55 false rfl rfl (.inl (gT g36)) rfl ?_
            refine SOps.skip rfl 3 55 false rfl rfl (.inl (gT g36)) rfl ?_
            refine SOps.skip rfl 3 55 false rfl rfl (.inl (gT g36)) rfl ?_
            refine SOps.skip rfl 3 55 false rfl rfl (.inl (gT g36)) rfl ?_
            refine SOps.skip rfl 3 55 false rfl rfl (.inl (gT g36)) rfl ?_
            refine SOps.q rfl (.plain rfl) rfl (q_pick_t rfl rfl g36 rfl) ?_
            refine SOps.sub (st' := ⟨[(0, .c (.vec a0_l.length 11 (gL cSProfile dSProfile a0_l))), (1, .c (.int .i64 a1_conn)), (2, .c (.str a2_txn)), (3, .c (.int .i64 a3_start)), (9, .c (.ptr 0 0)), (12, .c (.own 1 o1_19.length)), (13, .c (.int .i64 t_18)), (14, .c (.int .i64 c_34)), (65, .c (.bool true))], [.box [.int .i64 a4_s.From, .int .i64 a4_s.To], .arr 46 2 o1_19.length (gL cSStep dSStep o1_19)]⟩) (sub_gen [0, 1] rfl rfl ⟨zc rfl rfl, zc rfl rfl, zc rfl rfl, zc rfl rfl, zc rfl rfl, zc rfl rfl, zc rfl rfl, zc rfl rfl, zc rfl rfl, trivial⟩ ⟨⟨_, rfl, ⟨ii rfl rfl, ii rfl rfl, trivial⟩⟩, oa rfl, trivial⟩) ?_
            refine SOps.nil ?_
            refine SCode.cond_t rfl rfl ?_
            obtain ⟨g37, h⟩ := guard_out h
            refine SCode.region (show SOps _ _ _ [0, 1, 2, 3, 4, 5, 6] _ _ from ?_)
            refine SOps.q rfl (.plain rfl) rfl (q_move rfl rfl) ?_
            refine SOps.q rfl (.plain rfl) rfl (q_move rfl rfl) ?_
            refine SOps.q rfl (.plain rfl) rfl (q_move rfl rfl) ?_
            refine SOps.q rfl (.plain rfl) rfl (q_build2 rfl rfl pl46 rfl) ?_
            refine SOps.q rfl (.plain rfl) rfl (q_bsliceL (c := cSStep) (d0 := dSStep) [SStep.mk t_18 c_34] rfl rfl sl41 z46 rfl rfl rfl rfl rfl rfl rfl) ?_
            refine SOps.e rfl (.plain rfl) (e_appendL (c := cSStep) (d0 := dSStep) (l := o1_19) (l2 := [SStep.mk t_18 c_34]) rfl rfl rfl rfl rfl rfl (.inl rfl) sl41 z46 rfl rfl oneSStep g37.1 g37.2) ?_
            refine SOps.q rfl (.plain rfl) rfl (q_assign rfl rfl) ?_
            refine SOps.sub (st' := ⟨[(0, .c (.vec a0_l.length 11 (gL cSProfile dSProfile a0_l))), (1, .c (.int .i64 a1_conn)), (2, .c (.str a2_txn)), (3, .c (.int .i64 a3_start)), (9, .c (.ptr 0 0)), (12, .c (.own 1 (o1_19 ++ ([SStep.mk t_18 c_34])).length)), (13, .c (.int .i64 t_18))], [.box [.int .i64 a4_s.From, .int .i64 a4_s.To], .arr 46 2 (o1_19 ++ ([SStep.mk t_18 c_34])).length (gL cSStep dSStep (o1_19 ++ ([SStep.mk t_18 c_34])))]⟩) (sub_gen [0, 2] rfl rfl ⟨zc rfl rfl, zc rfl rfl, zc rfl rfl, zc rfl rfl, zc rfl rfl, zc rfl rfl, zc rfl rfl, trivial⟩ ⟨⟨_, rfl, ⟨ii rfl rfl, ii rfl rfl, trivial⟩⟩, oa rfl, trivial⟩) ?_
            refine SOps.nil ?_
            exact ⟨o1_19 ++ ([SStep.mk t_18 c_34]), h, sub_gen [0, 1] rfl rfl ⟨zc rfl rfl, zc rfl rfl, zc rfl rfl, zc rfl rfl, zc rfl rfl, zc rfl rfl, zc rfl rfl, trivial⟩ ⟨⟨_, rfl, ⟨ii rfl rfl, ii rfl rfl, trivial⟩⟩, oa rfl, trivial⟩⟩
          obtain ⟨g38, h⟩ := guard_out h
          refine SCode.region (show SOps _ _ _ [0, 1, 2, 3, 4, 5, 6, 7, 8, 9, 10, 11, 12, 13] _ _ from ?_)
          refine SOps.q rfl (.plain rfl) rfl (q_move rfl rfl) ?_
          refine SOps.q rfl (.plain rfl) rfl (q_len_own rfl rfl sl41) ?_
          refine SOps.q rfl (.plain rfl) rfl (q_eql rfl rfl rfl) ?_
          refine SOps.q rfl (.plain rfl) rfl (q_move rfl rfl) ?_
          refine SOps.q rfl (.guard 3 55 false rfl rfl (gF g36)) rfl (q_move rfl rfl) ?_
          refine SOps.q rfl (.guard 3 55 false rfl rfl (gF g36)) rfl (q_move rfl rfl) ?_
          refine SOps.q rfl (.guard 3 55 false rfl rfl (gF g36)) rfl (q_len_own rfl rfl sl41) ?_
          refine SOps.q rfl (.guard 3 55 false rfl rfl (gF g36)) rfl (q_sub rfl rfl rfl) ?_
          refine SOps.q rfl (.guard 3 55 false rfl rfl (gF g36)) rfl (q_index_own rfl rfl rfl sl41 g38.1 g38.2) ?_
          refine SOps.q rfl (.guard 3 55 false rfl rfl (gF g36)) rfl (q_field_aptr rfl rfl fd46_1) ?_
          refine SOps.q rfl (.guard 3 55 false rfl rfl (gF g36)) rfl (q_load_aptr rfl rfl rfl (toNat_lt g38) rfl ty3) ?_
          refine SOps.q rfl (.guard 3 55 false rfl rfl (gF g36)) rfl (q_move rfl rfl) ?_
          refine SOps.q rfl (.guard 3 55 false rfl rfl (gF g36)) rfl (q_neq rfl rfl rfl) ?_
          refine SOps.q rfl (.plain rfl) rfl (q_pick_f rfl rfl g36 rfl) ?_
          refine SOps.sub (st' := ⟨[(0, .c (.vec a0_l.length 11 (gL cSProfile dSProfile a0_l))), (1, .c (.int .i64 a1_conn)), (2, .c (.str a2_txn)), (3, .c (.int .i64 a3_start)), (9, .c (.ptr 0 0)), (12, .c (.own 1 o1_19.length)), (13, .c (.int .i64 t_18)), (14, .c (.int .i64 c_34)), (65, .c (.bool ((!decide ((o1_19.getD ((IntKind.wrap .i64 (((o1_19).length : Int) - 1)).toNat) dSStep).Value = c_34)))))], [.box [.int .i64 a4_s.From, .int .i64 a4_s.To], .arr 46 2 o1_19.length (gL cSStep dSStep o1_19)]⟩) (sub_gen [0, 1] rfl rfl ⟨zc rfl rfl, zc rfl rfl, zc rfl rfl, zc rfl rfl, zc rfl rfl, zc rfl rfl, zc rfl rfl, zc rfl rfl, zc rfl rfl, trivial⟩ ⟨⟨_, rfl, ⟨ii rfl rfl, ii rfl rfl, trivial⟩⟩, oa rfl, trivial⟩) ?_
          refine SOps.nil ?_
          rcases cond_out h with ⟨g39, h⟩ | ⟨g39, h⟩
          · refine SCode.cond_t rfl g39 ?_
            obtain ⟨g40, h⟩ := guard_out h
            refine SCode.region (show SOps _ _ _ [0, 1, 2, 3, 4, 5, 6] _ _ from ?_)
            refine SOps.q rfl (.plain rfl) rfl (q_move rfl rfl) ?_
            refine SOps.q rfl (.plain rfl) rfl (q_move rfl rfl) ?_
            refine SOps.q rfl (.plain rfl) rfl (q_move rfl rfl) ?_
            refine SOps.q rfl (.plain rfl) rfl (q_build2 rfl rfl pl46 rfl) ?_
            refine SOps.q rfl (.plain rfl) rfl (q_bsliceL (c := cSStep) (d0 := dSStep) [SStep.mk t_18 c_34] rfl rfl sl41 z46 rfl rfl rfl rfl rfl rfl rfl) ?_
            refine SOps.e rfl (.plain rfl) (e_appendL (c := cSStep) (d0 := dSStep) (l := o1_19) (l2 := [SStep.mk t_18 c_34]) rfl rfl rfl rfl rfl rfl (.inl rfl) sl41 z46 rfl rfl oneSStep g40.1 g40.2) ?_
            refine SOps.q rfl (.plain rfl) rfl (q_assign rfl rfl) ?_
            refine SOps.sub (st' := ⟨[(0, .c (.vec a0_l.length 11 (gL cSProfile dSProfile a0_l))), (1, .c (.int .i64 a1_conn)), (2, .c (.str a2_txn)), (3, .c (.int .i64 a3_start)), (9, .c (.ptr 0 0)), (12, .c (.own 1 (o1_19 ++ ([SStep.mk t_18 c_34])).length)), (13, .c (.int .i64 t_18))], [.box [.int .i64 a4_s.From, .int .i64 a4_s.To], .arr 46 2 (o1_19 ++ ([SStep.mk t_18 c_34])).length (gL cSStep dSStep (o1_19 ++ ([SStep.mk t_18 c_34])))]⟩) (sub_gen [0, 2] rfl rfl ⟨zc rfl rfl, zc rfl rfl, zc rfl rfl, zc rfl rfl, zc rfl rfl, zc rfl rfl, zc rfl rfl, trivial⟩ ⟨⟨_, rfl, ⟨ii rfl rfl, ii rfl rfl, trivial⟩⟩, oa rfl, trivial⟩) ?_
            refine SOps.nil ?_
            exact ⟨o1_19 ++ ([SStep.mk t_18 c_34]), h, sub_gen [0, 1] rfl rfl ⟨zc rfl rfl, zc rfl rfl, zc rfl rfl, zc rfl rfl, zc rfl rfl, zc rfl rfl, zc rfl rfl, trivial⟩ ⟨⟨_, rfl, ⟨ii rfl rfl, ii rfl rfl, trivial⟩⟩, oa rfl, trivial⟩⟩
          refine SCode.cond_f rfl g39 ?_
          refine SCode.skip ?_
          exact ⟨o1_19, h, sub_gen [0, 1] rfl rfl ⟨zc rfl rfl, zc rfl rfl, zc rfl rfl, zc rfl rfl, zc rfl rfl, zc rfl rfl, zc rfl rfl, trivial⟩ ⟨⟨_, rfl, ⟨ii rfl rfl, ii rfl rfl, trivial⟩⟩, oa rfl, trivial⟩⟩
        rintro o1_32 h
        show SCode _ _ _ ⟨[(0, .c (.vec a0_l.length 11 (gL cSProfile dSProfile a0_l))), (1, .c (.int .i64 a1_conn)), (2, .c (.str a2_txn)), (3, .c (.int .i64 a3_start)), (9, .c (.ptr 0 0)), (12, .c (.own 1 o1_32.length)), (13, .c (.int .i64 t_18))], [.box [.int .i64 a4_s.From, .int .i64 a4_s.To], .arr 46 2 o1_32.length (gL cSStep dSStep o1_32)]⟩ _
        replace h : chargenetref16_Series_p33 t_18 (fun t_18 o1_19 => chargenetref16_Series_l30 F a0_l a1_conn a2_txn a3_start a4_s n_30 t_18 o1_19) o1_32 = some r := h
        unfold chargenetref16_Series_p33 at h
        refine SCode.region (show SOps _ _ _ [0, 1, 2] _ _ from ?_)
        refine SOps.q rfl (.plain rfl) rfl (q_move rfl rfl) ?_
        refine SOps.q rfl (.plain rfl) rfl (q_add rfl rfl rfl) ?_
        refine SOps.q rfl (.plain rfl) rfl (q_assign rfl rfl) ?_
        refine SOps.sub (st' := ⟨[(0, .c (.vec a0_l.length 11 (gL cSProfile dSProfile a0_l))), (1, .c (.int .i64 a1_conn)), (2, .c (.str a2_txn)), (3, .c (.int .i64 a3_start)), (9, .c (.ptr 0 0)), (12, .c (.own 1 o1_32.length)), (13, .c (.int .i64 (IntKind.wrap .i64 (t_18 + 1))))], [.box [.int .i64 a4_s.From, .int .i64 a4_s.To], .arr 46 2 o1_32.length (gL cSStep dSStep o1_32)]⟩) (sub_gen [0, 1] rfl rfl ⟨zc rfl rfl, zc rfl rfl, zc rfl rfl, zc rfl rfl, zc rfl rfl, zc rfl rfl, zc rfl rfl, trivial⟩ ⟨⟨_, rfl, ⟨ii rfl rfl, ii rfl rfl, trivial⟩⟩, oa rfl, trivial⟩) ?_
        refine SOps.nil ?_
        exact ⟨(n_30, (IntKind.wrap .i64 (t_18 + 1), o1_32)), h, Nat.lt_succ_self n_30, sub_gen [0, 1] rfl rfl ⟨zc rfl rfl, zc rfl rfl, zc rfl rfl, zc rfl rfl, zc rfl rfl, zc rfl rfl, zc rfl rfl, trivial⟩ ⟨⟨_, rfl, ⟨ii rfl rfl, ii rfl rfl, trivial⟩⟩, oa rfl, trivial⟩⟩
      refine SCode.cond_f rfl g31 ?_
      refine SCode.exit ?_
      exact ⟨o1_19, h, sub_gen [1] rfl rfl ⟨zc rfl rfl, trivial⟩ ⟨oa rfl, trivial⟩⟩
  rintro o0_5 h
  show SCode _ _ _ ⟨[(12, .c (.own 0 o0_5.length))], [.arr 46 2 o0_5.length (gL cSStep dSStep o0_5)]⟩ _
  replace h : chargenetref16_Series_p7 o0_5 = some r := h
  unfold chargenetref16_Series_p7 at h
  refine SCode.seq ?_
  refine SCode.seq ?_
  refine SCode.region (show SOps _ _ _ [0, 1, 2] _ _ from ?_)
  refine SOps.q rfl (.plain rfl) rfl (q_move rfl rfl) ?_
  refine SOps.q rfl (.plain rfl) rfl (q_len_own rfl rfl sl41) ?_
  refine SOps.q rfl (.plain rfl) rfl (q_gtr rfl rfl rfl) ?_
  refine SOps.sub (st' := ⟨[(12, .c (.own 0 o0_5.length)), (74, .c (.bool (decide (512 < ((o0_5).length : Int)))))], [.arr 46 2 o0_5.length (gL cSStep dSStep o0_5)]⟩) (sub_gen [0] rfl rfl ⟨zc rfl rfl, zc rfl rfl, trivial⟩ ⟨oa rfl, trivial⟩) ?_
  refine SOps.nil ?_
  rcases cond_out h with ⟨g6, h⟩ | ⟨g6, h⟩
  · refine SCode.cond_t rfl g6 ?_
    refine SCode.seq ?_
    refine SCode.region (show SOps _ _ _ [0, 1] _ _ from ?_)
    refine SOps.q rfl (.plain rfl) rfl (q_assign rfl rfl) ?_
    refine SOps.q rfl (.plain rfl) rfl (q_assign rfl rfl) ?_
    refine SOps.sub (st' := ⟨[(10, .c (.raw (.slice none 0 0))), (11, .c (.int .i64 3))], []⟩) (sub_gen [] rfl rfl ⟨zc rfl rfl, zc rfl rfl, trivial⟩ trivial) ?_
    refine SOps.nil ?_
    refine SCode.ret ?_
    obtain rfl := Option.some.inj h
    exact ⟨⟨[(10, .c (.vec (([] : List SStep)).length 2 (gL cSStep dSStep (([] : List SStep))))), (11, .c (.int .i64 3))], []⟩, _, sub_gen [] rfl rfl ⟨⟨_, rfl, .inr (.inr (.inr (.inl ⟨_, _, rfl, rfl⟩)))⟩, zc rfl rfl, trivial⟩ trivial, resA2 (v1 := .c (.vec (([] : List SStep)).length 2 (gL cSStep dSStep (([] : List SStep))))) (v2 := .c (.int .i64 3)) rfl rfl rfl, rfl⟩
  refine SCode.cond_f rfl g6 ?_
  refine SCode.skip ?_
  refine SCode.seq ?_
  refine SCode.region (show SOps _ _ _ [0, 1, 2] _ _ from ?_)
  refine SOps.q rfl (.plain rfl) rfl (q_move rfl rfl) ?_
  refine SOps.q rfl (.plain rfl) rfl (q_assign rfl rfl) ?_
  refine SOps.q rfl (.plain rfl) rfl (q_assign rfl rfl) ?_
  refine SOps.sub (st' := ⟨[(10, .c (.own 0 o0_5.length)), (11, .c (.int .i64 0))], [.arr 46 2 o0_5.length (gL cSStep dSStep o0_5)]⟩) (sub_gen [0] rfl rfl ⟨zc rfl rfl, zc rfl rfl, trivial⟩ ⟨oa rfl, trivial⟩) ?_
  refine SOps.nil ?_
  refine SCode.ret ?_
  obtain rfl := Option.some.inj h
  exact ⟨⟨[(10, .c (.vec o0_5.length 2 (gL cSStep dSStep o0_5))), (11, .c (.int .i64 0))], []⟩, _, sub_gen [] rfl rfl ⟨⟨_, rfl, .inr (.inl ⟨_, _, _, _, _, _, _, rfl, rfl, rfl, Nat.le_refl _, fun _ _ _ _ => rfl, by decide⟩)⟩, zc rfl rfl, trivial⟩ trivial, resA2 (v1 := .c (.vec o0_5.length 2 (gL cSStep dSStep o0_5))) (v2 := .c (.int .i64 0)) rfl rfl rfl, rfl⟩
set_option maxRecDepth 100000 in
set_option maxHeartbeats 8000000 in
theorem chargenetlaw16_same_ok (F : Nat) (a0_a : List SStep) (a1_b : List SStep) (r : Bool) (h : chargenetlaw16_same F a0_a a1_b = some r) :
    SFun Try.prog 17 [] [.c (.vec a0_a.length 2 (gL cSStep dSStep a0_a)), .c (.vec a1_b.length 2 (gL cSStep dSStep a1_b))] (fun x _ => x = .c (.bool r)) := by
  refine SFun.of (n := 26) Try.func17 rfl rfl rfl ?_
  unfold chargenetlaw16_same at h
  show SCode _ _ _ ⟨[(0, .c (.vec a0_a.length 2 (gL cSStep dSStep a0_a))), (1, .c (.vec a1_b.length 2 (gL cSStep dSStep a1_b)))], []⟩ _
  refine SCode.seq ?_
  refine SCode.region (show SOps _ _ _ [0] _ _ from ?_)
  refine SOps.q rfl (.plain rfl) rfl (q_assign rfl rfl) ?_
  refine SOps.sub (st' := ⟨[(0, .c (.vec a0_a.length 2 (gL cSStep dSStep a0_a))), (1, .c (.vec a1_b.length 2 (gL cSStep dSStep a1_b)))], []⟩) (sub_gen [] rfl rfl ⟨zc rfl rfl, zc rfl rfl, trivial⟩ trivial) ?_
  refine SOps.nil ?_
  refine SCode.seq ?_
  refine SCode.seq ?_
  refine SCode.region (show SOps _ _ _ [0, 1, 2, 3, 4] _ _ from ?_)
  refine SOps.q rfl (.plain rfl) rfl (q_move rfl rfl) ?_
  refine SOps.q rfl (.plain rfl) rfl (q_len_vec rfl rfl sl41) ?_
  refine SOps.q rfl (.plain rfl) rfl (q_move rfl rfl) ?_
  refine SOps.q rfl (.plain rfl) rfl (q_len_vec rfl rfl sl41) ?_
  refine SOps.q rfl (.plain rfl) rfl (q_neq rfl rfl rfl) ?_
  refine SOps.sub (st' := ⟨[(0, .c (.vec a0_a.length 2 (gL cSStep dSStep a0_a))), (1, .c (.vec a1_b.length 2 (gL cSStep dSStep a1_b))), (10, .c (.bool ((!decide (((a0_a).length : Int) = ((a1_b).length : Int))))))], []⟩) (sub_gen [] rfl rfl ⟨zc rfl rfl, zc rfl rfl, zc rfl rfl, trivial⟩ trivial) ?_
  refine SOps.nil ?_
  rcases cond_out h with ⟨g1, h⟩ | ⟨g1, h⟩
  · refine SCode.cond_t rfl g1 ?_
    refine SCode.seq ?_
    refine SCode.region (show SOps _ _ _ [0] _ _ from ?_)
    refine SOps.q rfl (.plain rfl) rfl (q_assign rfl rfl) ?_
    refine SOps.sub (st' := ⟨[(4, .c (.bool false))], []⟩) (sub_gen [] rfl rfl ⟨zc rfl rfl, trivial⟩ trivial) ?_
    refine SOps.nil ?_
    refine SCode.ret ?_
    obtain rfl := Option.some.inj h
    exact ⟨⟨[(4, .c (.bool false))], []⟩, _, sub_gen [] rfl rfl ⟨zc rfl rfl, trivial⟩ trivial, resA1 (v := .c (.bool false)) rfl rfl, rfl⟩
  refine SCode.cond_f rfl g1 ?_
  refine SCode.skip ?_
  refine SCode.join (σ := Unit) (S := fun s => ⟨[], []⟩) (g := fun s => chargenetlaw16_same_p2 = some r) ?_ ?_
  rotate_left
  · refine SCode.seq ?_
    refine SCode.region (show SOps _ _ _ [0, 1, 2] _ _ from ?_)
    refine SOps.q rfl (.plain rfl) rfl (q_move rfl rfl) ?_
    refine SOps.q rfl (.plain rfl) rfl (q_len_vec rfl rfl sl41) ?_
    refine SOps.q rfl (.plain rfl) rfl (q_move rfl rfl) ?_
    refine SOps.sub (st' := ⟨[(0, .c (.vec a0_a.length 2 (gL cSStep dSStep a0_a))), (1, .c (.vec a1_b.length 2 (gL cSStep dSStep a1_b))), (12, .c (.int .i64 (((a0_a).length : Int)))), (13, .c (.int .i64 0))], []⟩) (sub_gen [] rfl rfl ⟨zc rfl rfl, zc rfl rfl, zc rfl rfl, zc rfl rfl, trivial⟩ trivial) ?_
    refine SOps.nil ?_
    refine SCode.block ?_
    refine SCode.sub (st' := ⟨[(0, .c (.vec a0_a.length 2 (gL cSStep dSStep a0_a))), (1, .c (.vec a1_b.length 2 (gL cSStep dSStep a1_b))), (12, .c (.int .i64 (((a0_a).length : Int)))), (13, .c (.int .i64 0))], []⟩) (sub_gen [] rfl rfl ⟨zc rfl rfl, zc rfl rfl, zc rfl rfl, zc rfl rfl, trivial⟩ trivial) ?_
    refine (SCode.loop (σ := Nat × Int) (S := fun s => ⟨[(0, .c (.vec a0_a.length 2 (gL cSStep dSStep a0_a))), (1, .c (.vec a1_b.length 2 (gL cSStep dSStep a1_b))), (12, .c (.int .i64 (((a0_a).length : Int)))), (13, .c (.int .i64 s.2))], []⟩) (g := fun s => chargenetlaw16_same_l12 a0_a a1_b s.1 s.2 = some r) (μ := fun s => s.1) (F, 0) h ?_)
    rintro ⟨n_12, t13_7⟩ h
    replace h : chargenetlaw16_same_l12 a0_a a1_b n_12 t13_7 = some r := h
    show SCode _ _ _ ⟨[(0, .c (.vec a0_a.length 2 (gL cSStep dSStep a0_a))), (1, .c (.vec a1_b.length 2 (gL cSStep dSStep a1_b))), (12, .c (.int .i64 (((a0_a).length : Int)))), (13, .c (.int .i64 t13_7))], []⟩ _
    cases n_12 with
    | zero => cases h
    | succ n_12 =>
      replace h : chargenetlaw16_same_b12 a0_a a1_b (fun t13_7 => chargenetlaw16_same_l12 a0_a a1_b n_12 t13_7) t13_7 = some r := h
      unfold chargenetlaw16_same_b12 at h
      refine SCode.seq ?_
      refine SCode.region (show SOps _ _ _ [0] _ _ from ?_)
      refine SOps.q rfl (.plain rfl) rfl (q_lss rfl rfl rfl) ?_
      refine SOps.sub (st' := ⟨[(0, .c (.vec a0_a.length 2 (gL cSStep dSStep a0_a))), (1, .c (.vec a1_b.length 2 (gL cSStep dSStep a1_b))), (12, .c (.int .i64 (((a0_a).length : Int)))), (13, .c (.int .i64 t13_7)), (14, .c (.bool (decide (t13_7 < ((a0_a).length : Int)))))], []⟩) (sub_gen [] rfl rfl ⟨zc rfl rfl, zc rfl rfl, zc rfl rfl, zc rfl rfl, zc rfl rfl, trivial⟩ trivial) ?_
      refine SOps.nil ?_
      refine SCode.seq ?_
      rcases cond_out h with ⟨g13, h⟩ | ⟨g13, h⟩
      · refine SCode.cond_t rfl g13 ?_
        refine SCode.skip ?_
        refine SCode.seq ?_
        refine SCode.block ?_
        refine SCode.seq ?_
        refine SCode.region (show SOps _ _ _ [0, 1] _ _ from ?_)
        refine SOps.q rfl (.plain rfl) rfl (q_move rfl rfl) ?_
        refine SOps.q rfl (.plain rfl) rfl (q_assign rfl rfl) ?_
        refine SOps.sub (st' := ⟨[(0, .c (.vec a0_a.length 2 (gL cSStep dSStep a0_a))), (1, .c (.vec a1_b.length 2 (gL cSStep dSStep a1_b))), (5, .c (.int .i64 t13_7)), (12, .c (.int .i64 (((a0_a).length : Int)))), (13, .c (.int .i64 t13_7))], []⟩) (sub_gen [] rfl rfl ⟨zc rfl rfl, zc rfl rfl, zc rfl rfl, zc rfl rfl, zc rfl rfl, trivial⟩ trivial) ?_
        refine SOps.nil ?_
        refine SCode.seq ?_
        obtain ⟨g14, h⟩ := guard_out h
        obtain ⟨g15, h⟩ := guard_out h
        refine SCode.draw (s' := [(24, .c (.bool ((xor true (decide ((a0_a.getD t13_7.toNat dSStep).At = (a1_b.getD t13_7.toNat dSStep).At) && (decide ((a0_a.getD t13_7.toNat dSStep).Value = (a1_b.getD t13_7.toNat dSStep).Value) && true)))))), (23, .a [.int .i64 ((a1_b.getD t13_7.toNat dSStep).At), .int .i64 ((a1_b.getD t13_7.toNat dSStep).Value)]), (22, .c (.eptr 2 (cSStep (a1_b.getD t13_7.toNat dSStep)) 0)), (21, .c (.int .i64 t13_7)), (20, .c (.vec a1_b.length 2 (gL cSStep dSStep a1_b))), (19, .a [.int .i64 ((a0_a.getD t13_7.toNat dSStep).At), .int .i64 ((a0_a.getD t13_7.toNat dSStep).Value)]), (18, .c (.eptr 2 (cSStep (a0_a.getD t13_7.toNat dSStep)) 0)), (17, .c (.int .i64 t13_7)), (16, .c (.vec a0_a.length 2 (gL cSStep dSStep a0_a))), (0, .c (.vec a0_a.length 2 (gL cSStep dSStep a0_a))), (1, .c (.vec a1_b.length 2 (gL cSStep dSStep a1_b))), (5, .c (.int .i64 t13_7)), (12, .c (.int .i64 (((a0_a).length : Int)))), (13, .c (.int .i64 t13_7))]) mixed [[], [], [0, 1], [0, 1, 2], [], [], [4, 5], [4, 5, 6], [0, 1, 2, 3, 4, 5, 6, 7]] 9 0 rfl rfl ?_ ?_
        · refine QChain.run rfl (.plain rfl) rfl (q_move rfl rfl) ?_
          refine QChain.run rfl (.plain rfl) rfl (q_move rfl rfl) ?_
          refine QChain.run rfl (.plain rfl) rfl (q_index_vec rfl rfl rfl sl41 rfl g14.1 g14.2) ?_
          refine QChain.run rfl (.plain rfl) rfl (q_load_eptr_all rfl rfl rfl ty46) ?_
          refine QChain.run rfl (.plain rfl) rfl (q_move rfl rfl) ?_
          refine QChain.run rfl (.plain rfl) rfl (q_move rfl rfl) ?_
          refine QChain.run rfl (.plain rfl) rfl (q_index_vec rfl rfl rfl sl41 rfl g15.1 g15.2) ?_
          refine QChain.run rfl (.plain rfl) rfl (q_load_eptr_all rfl rfl rfl ty46) ?_
          refine QChain.run rfl (.plain rfl) rfl (q_eqAgg (neg := true) rfl (.inr rfl) rfl rfl eqt46 rfl) ?_
          exact QChain.nil _ _
        refine (show SOps _ _ _ [] _ _ from ?_)
        refine SOps.sub (st' := ⟨[(0, .c (.vec a0_a.length 2 (gL cSStep dSStep a0_a))), (1, .c (.vec a1_b.length 2 (gL cSStep dSStep a1_b))), (12, .c (.int .i64 (((a0_a).length : Int)))), (13, .c (.int .i64 t13_7)), (24, .c (.bool ((xor true (decide ((a0_a.getD t13_7.toNat dSStep).At = (a1_b.getD t13_7.toNat dSStep).At) && (decide ((a0_a.getD t13_7.toNat dSStep).Value = (a1_b.getD t13_7.toNat dSStep).Value) && true))))))], []⟩) (sub_gen [] rfl rfl ⟨zc rfl rfl, zc rfl rfl, zc rfl rfl, zc rfl rfl, zc rfl rfl, trivial⟩ trivial) ?_
        refine SOps.nil ?_
        rcases cond_out h with ⟨g16, h⟩ | ⟨g16, h⟩
        · refine SCode.cond_t rfl g16 ?_
          refine SCode.seq ?_
          refine SCode.region (show SOps _ _ _ [0] _ _ from ?_)
          refine SOps.q rfl (.plain rfl) rfl (q_assign rfl rfl) ?_
          refine SOps.sub (st' := ⟨[(4, .c (.bool false))], []⟩) (sub_gen [] rfl rfl ⟨zc rfl rfl, trivial⟩ trivial) ?_
          refine SOps.nil ?_
          refine SCode.ret ?_
          obtain rfl := Option.some.inj h
          exact ⟨⟨[(4, .c (.bool false))], []⟩, _, sub_gen [] rfl rfl ⟨zc rfl rfl, trivial⟩ trivial, resA1 (v := .c (.bool false)) rfl rfl, rfl⟩
        refine SCode.cond_f rfl g16 ?_
        refine SCode.skip ?_
        refine SCode.region (show SOps _ _ _ [0, 1] _ _ from ?_)
        refine SOps.q rfl (.plain rfl) rfl (q_add rfl rfl rfl) ?_
        refine SOps.q rfl (.plain rfl) rfl (q_move rfl rfl) ?_
        refine SOps.sub (st' := ⟨[(0, .c (.vec a0_a.length 2 (gL cSStep dSStep a0_a))), (1, .c (.vec a1_b.length 2 (gL cSStep dSStep a1_b))), (12, .c (.int .i64 (((a0_a).length : Int)))), (13, .c (.int .i64 (IntKind.wrap .i64 (t13_7 + 1))))], []⟩) (sub_gen [] rfl rfl ⟨zc rfl rfl, zc rfl rfl, zc rfl rfl, zc rfl rfl, trivial⟩ trivial) ?_
        refine SOps.nil ?_
        exact ⟨(n_12, IntKind.wrap .i64 (t13_7 + 1)), h, Nat.lt_succ_self n_12, sub_gen [] rfl rfl ⟨zc rfl rfl, zc rfl rfl, zc rfl rfl, zc rfl rfl, trivial⟩ trivial⟩
      refine SCode.cond_f rfl g13 ?_
      refine SCode.exit ?_
      exact ⟨(), h, sub_gen [] rfl rfl trivial trivial⟩
  rintro ⟨⟩ h
  show SCode _ _ _ ⟨[], []⟩ _
  replace h : chargenetlaw16_same_p2 = some r := h
  unfold chargenetlaw16_same_p2 at h
  refine SCode.seq ?_
  refine SCode.region (show SOps _ _ _ [0] _ _ from ?_)
  refine SOps.q rfl (.plain rfl) rfl (q_assign rfl rfl) ?_
  refine SOps.sub (st' := ⟨[(4, .c (.bool true))], []⟩) (sub_gen [] rfl rfl ⟨zc rfl rfl, trivial⟩ trivial) ?_
  refine SOps.nil ?_
  refine SCode.ret ?_
  obtain rfl := Option.some.inj h
  exact ⟨⟨[(4, .c (.bool true))], []⟩, _, sub_gen [] rfl rfl ⟨zc rfl rfl, trivial⟩ trivial, resA1 (v := .c (.bool true)) rfl rfl, rfl⟩
set_option maxRecDepth 100000 in
set_option maxHeartbeats 8000000 in
theorem chargenetlaw16_ComposeSeries_ok (F : Nat) (a0_q : SQuery) (r : Bool) (h : chargenetlaw16_ComposeSeries F a0_q = some r) :
    SFun Try.prog 7 [] [.a [.vec a0_q.L.length 11 (gL cSProfile dSProfile a0_q.L), .int .i64 a0_q.Conn, .str a0_q.Txn, .int .i64 a0_q.Start, .int .i64 a0_q.T, .int .i64 a0_q.Length]] (fun x _ => x = .c (.bool r)) := by
  refine SFun.of (n := 54) Try.func7 rfl rfl rfl ?_
  unfold chargenetlaw16_ComposeSeries at h
  show SCode _ _ _ ⟨[(0, .a [.vec a0_q.L.length 11 (gL cSProfile dSProfile a0_q.L), .int .i64 a0_q.Conn, .str a0_q.Txn, .int .i64 a0_q.Start, .int .i64 a0_q.T, .int .i64 a0_q.Length])], []⟩ _
  refine SCode.seq ?_
  refine SCode.region (show SOps _ _ _ [0, 1] _ _ from ?_)
  refine SOps.e rfl (.plain rfl) (e_box rfl rfl rfl rfl rfl rfl) ?_
  refine SOps.q rfl (.plain rfl) rfl (q_assign rfl rfl) ?_
  refine SOps.sub (st' := ⟨[(1, .c (.ptr 0 0))], [.box [.vec a0_q.L.length 11 (gL cSProfile dSProfile a0_q.L), .int .i64 a0_q.Conn, .str a0_q.Txn, .int .i64 a0_q.Start, .int .i64 a0_q.T, .int .i64 a0_q.Length]]⟩) (sub_gen [0] rfl rfl ⟨zc rfl rfl, trivial⟩ ⟨⟨_, rfl, ⟨ii rfl rfl, ii rfl rfl, ii rfl rfl, ii rfl rfl, ii rfl rfl, ii rfl rfl, trivial⟩⟩, trivial⟩) ?_
  refine SOps.nil ?_
  refine SCode.seq ?_
  refine SCode.seq ?_
  obtain ⟨c_1, g2, h⟩ := bind_out h
  try dsimp only at h
  refine SCode.region (show SOps _ _ _ [0, 1, 2] _ _ from ?_)
  refine SOps.q rfl (.plain rfl) rfl (q_load_ptr_all rfl rfl rfl rfl rfl ty24) ?_
  refine SOps.q rfl (.plain rfl) rfl (q_call (chargenetlaw16_Good_ok F a0_q c_1 g2) [] rfl fn8 ⟨⟨rfl, rfl⟩, trivial⟩ (.inl rfl)) ?_
  refine SOps.q rfl (.plain rfl) rfl (q_not rfl rfl) ?_
  refine SOps.sub (st' := ⟨[(1, .c (.ptr 0 0)), (10, .c (.bool ((!c_1))))], [.box [.vec a0_q.L.length 11 (gL cSProfile dSProfile a0_q.L), .int .i64 a0_q.Conn, .str a0_q.Txn, .int .i64 a0_q.Start, .int .i64 a0_q.T, .int .i64 a0_q.Length]]⟩) (sub_gen [0] rfl rfl ⟨zc rfl rfl, zc rfl rfl, trivial⟩ ⟨⟨_, rfl, ⟨ii rfl rfl, ii rfl rfl, ii rfl rfl, ii rfl rfl, ii rfl rfl, ii rfl rfl, trivial⟩⟩, trivial⟩) ?_
  refine SOps.nil ?_
  rcases cond_out h with ⟨g3, h⟩ | ⟨g3, h⟩
  · refine SCode.cond_t rfl g3 ?_
    refine SCode.seq ?_
    obtain ⟨c_4, g5, h⟩ := bind_out h
    try dsimp only at h
    refine SCode.region (show SOps _ _ _ [0, 1] _ _ from ?_)
    refine SOps.q rfl (.plain rfl) rfl (q_call (chargenetlaw16_exampleHolds_ok F  c_4 g5) [] rfl fn9 trivial (.inl rfl)) ?_
    refine SOps.q rfl (.plain rfl) rfl (q_assign rfl rfl) ?_
    refine SOps.sub (st' := ⟨[(2, .c (.bool c_4))], []⟩) (sub_gen [] rfl rfl ⟨zc rfl rfl, trivial⟩ trivial) ?_
    refine SOps.nil ?_
    refine SCode.ret ?_
    obtain rfl := Option.some.inj h
    exact ⟨⟨[(2, .c (.bool c_4))], []⟩, _, sub_gen [] rfl rfl ⟨zc rfl rfl, trivial⟩ trivial, resA1 (v := .c (.bool c_4)) rfl rfl, rfl⟩
  refine SCode.cond_f rfl g3 ?_
  refine SCode.skip ?_
  refine SCode.seq ?_
  refine SCode.region (show SOps _ _ _ [0, 1, 2, 3, 4, 5, 6, 7, 8, 9] _ _ from ?_)
  refine SOps.q rfl (.plain rfl) rfl (q_field_ptr rfl rfl fd24_4) ?_
  refine SOps.q rfl (.plain rfl) rfl (q_load_ptr rfl rfl rfl rfl ty3) ?_
  refine SOps.q rfl (.plain rfl) rfl (q_field_ptr rfl rfl fd24_4) ?_
  refine SOps.q rfl (.plain rfl) rfl (q_load_ptr rfl rfl rfl rfl ty3) ?_
  refine SOps.q rfl (.plain rfl) rfl (q_field_ptr rfl rfl fd24_5) ?_
  refine SOps.q rfl (.plain rfl) rfl (q_load_ptr rfl rfl rfl rfl ty3) ?_
  refine SOps.q rfl (.plain rfl) rfl (q_add rfl rfl rfl) ?_
  refine SOps.q rfl (.plain rfl) rfl (q_build2 rfl rfl pl28 rfl) ?_
  refine SOps.e rfl (.plain rfl) (e_alloc rfl rfl rfl z28) ?_
  refine SOps.e rfl (.plain rfl) (e_store_box rfl rfl rfl rfl rfl ty28 rfl rfl rfl rfl) ?_
  refine SOps.sub (st' := ⟨[(1, .c (.ptr 0 0)), (3, .c (.ptr 1 0))], [.box [.vec a0_q.L.length 11 (gL cSProfile dSProfile a0_q.L), .int .i64 a0_q.Conn, .str a0_q.Txn, .int .i64 a0_q.Start, .int .i64 a0_q.T, .int .i64 a0_q.Length], .box [.int .i64 a0_q.T, .int .i64 (IntKind.wrap .i64 (a0_q.T + a0_q.Length))]]⟩) (sub_gen [0, 1] rfl rfl ⟨zc rfl rfl, zc rfl rfl, trivial⟩ ⟨⟨_, rfl, ⟨ii rfl rfl, ii rfl rfl, ii rfl rfl, ii rfl rfl, ii rfl rfl, ii rfl rfl, trivial⟩⟩, ⟨_, rfl, ⟨ii rfl rfl, ii rfl rfl, trivial⟩⟩, trivial⟩) ?_
  refine SOps.nil ?_
  refine SCode.seq ?_
  obtain ⟨c_6, g7, h⟩ := bind_out h
  try dsimp only at h
  refine SCode.region (show SOps _ _ _ [0, 1, 2, 3, 4, 5, 6, 7, 8, 9, 10, 11, 12, 13, 14] _ _ from ?_)
  refine SOps.q rfl (.plain rfl) rfl (q_field_ptr rfl rfl fd24_0) ?_
  refine SOps.q rfl (.plain rfl) rfl (q_load_ptr rfl rfl rfl rfl ty22) ?_
  refine SOps.q rfl (.plain rfl) rfl (q_field_ptr rfl rfl fd24_1) ?_
  refine SOps.q rfl (.plain rfl) rfl (q_load_ptr rfl rfl rfl rfl ty3) ?_
  refine SOps.q rfl (.plain rfl) rfl (q_field_ptr rfl rfl fd24_2) ?_
  refine SOps.q rfl (.plain rfl) rfl (q_load_ptr rfl rfl rfl rfl ty9) ?_
  refine SOps.q rfl (.plain rfl) rfl (q_field_ptr rfl rfl fd24_3) ?_
  refine SOps.q rfl (.plain rfl) rfl (q_load_ptr rfl rfl rfl rfl ty3) ?_
  refine SOps.q rfl (.plain rfl) rfl (q_load_ptr_all rfl rfl rfl rfl rfl ty28) ?_
  refine SOps.q rfl (.plain rfl) rfl (q_call (compose_Series_ok F a0_q.L a0_q.Conn a0_q.Txn a0_q.Start (SSpan.mk a0_q.T (IntKind.wrap .i64 (a0_q.T + a0_q.Length))) c_6 g7) [] rfl fn15 ⟨⟨_, rfl, .inl ⟨rfl, rfl⟩⟩, ⟨_, rfl, .inl ⟨rfl, rfl⟩⟩, ⟨_, rfl, .inl ⟨rfl, rfl⟩⟩, ⟨_, rfl, .inl ⟨rfl, rfl⟩⟩, ⟨rfl, rfl⟩, trivial⟩ (.inl rfl)) ?_
  refine SOps.q rfl (.plain rfl) rfl (q_move rfl rfl) ?_
  refine SOps.q rfl (.plain rfl) rfl (q_extract rfl rfl rfl) ?_
  refine SOps.q rfl (.plain rfl) rfl (q_extract rfl rfl rfl) ?_
  refine SOps.q rfl (.plain rfl) rfl (q_assign rfl rfl) ?_
  refine SOps.q rfl (.plain rfl) rfl (q_assign rfl rfl) ?_
  refine SOps.sub (st' := ⟨[(1, .c (.ptr 0 0)), (3, .c (.ptr 1 0)), (4, .c (.vec c_6.1.length 2 (gL cSStep dSStep c_6.1))), (5, .c (.int .i64 c_6.2))], [.box [.vec a0_q.L.length 11 (gL cSProfile dSProfile a0_q.L), .int .i64 a0_q.Conn, .str a0_q.Txn, .int .i64 a0_q.Start, .int .i64 a0_q.T, .int .i64 a0_q.Length], .box [.int .i64 a0_q.T, .int .i64 (IntKind.wrap .i64 (a0_q.T + a0_q.Length))]]⟩) (sub_gen [0, 1] rfl rfl ⟨zc rfl rfl, zc rfl rfl, zc rfl rfl, zc rfl rfl, trivial⟩ ⟨⟨_, rfl, ⟨ii rfl rfl, ii rfl rfl, ii rfl rfl, ii rfl rfl, ii rfl rfl, ii rfl rfl, trivial⟩⟩, ⟨_, rfl, ⟨ii rfl rfl, ii rfl rfl, trivial⟩⟩, trivial⟩) ?_
  refine SOps.nil ?_
  refine SCode.seq ?_
  obtain ⟨c_8, g9, h⟩ := bind_out h
  try dsimp only at h
  refine SCode.region (show SOps _ _ _ [0, 1, 2, 3, 4, 5, 6, 7, 8, 9, 10, 11, 12, 13, 14] _ _ from ?_)
  refine SOps.q rfl (.plain rfl) rfl (q_field_ptr rfl rfl fd24_0) ?_
  refine SOps.q rfl (.plain rfl) rfl (q_load_ptr rfl rfl rfl rfl ty22) ?_
  refine SOps.q rfl (.plain rfl) rfl (q_field_ptr rfl rfl fd24_1) ?_
  refine SOps.q rfl (.plain rfl) rfl (q_load_ptr rfl rfl rfl rfl ty3) ?_
  refine SOps.q rfl (.plain rfl) rfl (q_field_ptr rfl rfl fd24_2) ?_
  refine SOps.q rfl (.plain rfl) rfl (q_load_ptr rfl rfl rfl rfl ty9) ?_
  refine SOps.q rfl (.plain rfl) rfl (q_field_ptr rfl rfl fd24_3) ?_
  refine SOps.q rfl (.plain rfl) rfl (q_load_ptr rfl rfl rfl rfl ty3) ?_
  refine SOps.q rfl (.plain rfl) rfl (q_load_ptr_all rfl rfl rfl rfl rfl ty28) ?_
  refine SOps.q rfl (.plain rfl) rfl (q_call (chargenetref16_Series_ok F a0_q.L a0_q.Conn a0_q.Txn a0_q.Start (SSpan.mk a0_q.T (IntKind.wrap .i64 (a0_q.T + a0_q.Length))) c_8 g9) [] rfl fn16 ⟨⟨_, rfl, .inl ⟨rfl, rfl⟩⟩, ⟨_, rfl, .inl ⟨rfl, rfl⟩⟩, ⟨_, rfl, .inl ⟨rfl, rfl⟩⟩, ⟨_, rfl, .inl ⟨rfl, rfl⟩⟩, ⟨rfl, rfl⟩, trivial⟩ (.inl rfl)) ?_
  refine SOps.q rfl (.plain rfl) rfl (q_move rfl rfl) ?_
  refine SOps.q rfl (.plain rfl) rfl (q_extract rfl rfl rfl) ?_
  refine SOps.q rfl (.plain rfl) rfl (q_extract rfl rfl rfl) ?_
  refine SOps.q rfl (.plain rfl) rfl (q_assign rfl rfl) ?_
  refine SOps.q rfl (.plain rfl) rfl (q_assign rfl rfl) ?_
  refine SOps.sub (st' := ⟨[(4, .c (.vec c_6.1.length 2 (gL cSStep dSStep c_6.1))), (5, .c (.int .i64 c_6.2)), (6, .c (.vec c_8.1.length 2 (gL cSStep dSStep c_8.1))), (7, .c (.int .i64 c_8.2))], []⟩) (sub_gen [] rfl rfl ⟨zc rfl rfl, zc rfl rfl, zc rfl rfl, zc rfl rfl, trivial⟩ trivial) ?_
  refine SOps.nil ?_
  refine SCode.seq ?_
  rcases cond_out h with ⟨g10, h⟩ | ⟨g10, h⟩
  · obtain ⟨c_11, g12, h⟩ := bind_out h
    try dsimp only at h
    refine SCode.region (show SOps _ _ _ [0, 1, 2, 3, 4, 5, 6, 7, 8] _ _ from ?_)
    refine SOps.q rfl (.plain rfl) rfl (q_move rfl rfl) ?_
    refine SOps.q rfl (.plain rfl) rfl (q_move rfl rfl) ?_
    refine SOps.q rfl (.plain rfl) rfl (q_eql rfl rfl rfl) ?_
    refine SOps.q rfl (.plain rfl) rfl (q_move rfl rfl) ?_
    refine SOps.q rfl (.guard 3 49 true rfl rfl (gT g10)) rfl (q_move rfl rfl) ?_
    refine SOps.q rfl (.guard 3 49 true rfl rfl (gT g10)) rfl (q_move rfl rfl) ?_
    refine SOps.q rfl (.guard 3 49 true rfl rfl (gT g10)) rfl (q_call (chargenetlaw16_same_ok F c_6.1 c_8.1 c_11 g12) [] rfl fn17 ⟨⟨_, rfl, .inl ⟨rfl, rfl⟩⟩, ⟨_, rfl, .inl ⟨rfl, rfl⟩⟩, trivial⟩ (.inl rfl)) ?_
    refine SOps.q rfl (.plain rfl) rfl (q_pick_t rfl rfl g10 rfl) ?_
    refine SOps.q rfl (.plain rfl) rfl (q_assign rfl rfl) ?_
    refine SOps.sub (st' := ⟨[(2, .c (.bool c_11))], []⟩) (sub_gen [] rfl rfl ⟨zc rfl rfl, trivial⟩ trivial) ?_
    refine SOps.nil ?_
    refine SCode.ret ?_
    obtain rfl := Option.some.inj h
    exact ⟨⟨[(2, .c (.bool c_11))], []⟩, _, sub_gen [] rfl rfl ⟨zc rfl rfl, trivial⟩ trivial, resA1 (v := .c (.bool c_11)) rfl rfl, rfl⟩
  refine SCode.region (show SOps _ _ _ [0, 1, 2, 3, 4, 5, 6, 7, 8] _ _ from ?_)
  refine SOps.q rfl (.plain rfl) rfl (q_move rfl rfl) ?_
  refine SOps.q rfl (.plain rfl) rfl (q_move rfl rfl) ?_
  refine SOps.q rfl (.plain rfl) rfl (q_eql rfl rfl rfl) ?_
  refine SOps.q rfl (.plain rfl) rfl (q_move rfl rfl) ?_
  refine SOps.skip rfl 3 49 true rfl rfl (.inl (gF g10)) rfl ?_
  refine SOps.skip rfl 3 49 true rfl rfl (.inl (gF g10)) rfl ?_
  refine SOps.skip rfl 3 49 true rfl rfl (.inl (gF g10)) rfl ?_
  refine SOps.q rfl (.plain rfl) rfl (q_pick_f rfl rfl g10 rfl) ?_
  refine SOps.q rfl (.plain rfl) rfl (q_assign rfl rfl) ?_
  refine SOps.sub (st' := ⟨[(2, .c (.bool false))], []⟩) (sub_gen [] rfl rfl ⟨zc rfl rfl, trivial⟩ trivial) ?_
  refine SOps.nil ?_
  refine SCode.ret ?_
  obtain rfl := Option.some.inj h
  exact ⟨⟨[(2, .c (.bool false))], []⟩, _, sub_gen [] rfl rfl ⟨zc rfl rfl, trivial⟩ trivial, resA1 (v := .c (.bool false)) rfl rfl, rfl⟩
end Go.Proofs.Ytjpooimkhkhgkaa.W
