/- Written by a program of ours (wip/eng/gen.py): the functions compute their models. -/
import Derived.Test.YtjpooimkhkhgkaaFacts
import Derived.Test.YtjpooimkhkhgkaaV7x3
namespace Go.Proofs.Ytjpooimkhkhgkaa.W
open Go Go.Proofs Go.Proofs.Ytjpooimkhkhgkaa.E Go.Proofs.Ytjpooimkhkhgkaa.M
set_option linter.unusedVariables false
set_option maxRecDepth 100000 in
set_option maxHeartbeats 8000000 in
theorem chargenetlaw16_Good_ok (F : Nat) (a0_q : SQuery) (r : Bool) (h : chargenetlaw16_Good F a0_q = some r) :
    SFun Try.prog 8 [] [.a [.vec a0_q.L.length 11 (gL cSProfile dSProfile a0_q.L), .int .i64 a0_q.Conn, .str a0_q.Txn, .int .i64 a0_q.Start, .int .i64 a0_q.T, .int .i64 a0_q.Length]] (fun x _ => x = .c (.bool r)) := by
  refine SFun.of (n := 68) Try.func8 rfl rfl rfl ?_
  unfold chargenetlaw16_Good at h
  show SCode _ _ _ ⟨[(0, .a [.vec a0_q.L.length 11 (gL cSProfile dSProfile a0_q.L), .int .i64 a0_q.Conn, .str a0_q.Txn, .int .i64 a0_q.Start, .int .i64 a0_q.T, .int .i64 a0_q.Length])], []⟩ _
  refine SCode.seq ?_
  refine SCode.region (show SOps _ _ _ [0, 1] _ _ from ?_)
  refine SOps.e rfl (.plain rfl) (e_box rfl rfl rfl rfl rfl rfl) ?_
  refine SOps.q rfl (.plain rfl) rfl (q_assign rfl rfl) ?_
  refine SOps.sub (st' := ⟨[(1, .c (.ptr 0 0))], [.box [.vec a0_q.L.length 11 (gL cSProfile dSProfile a0_q.L), .int .i64 a0_q.Conn, .str a0_q.Txn, .int .i64 a0_q.Start, .int .i64 a0_q.T, .int .i64 a0_q.Length]]⟩) (sub_gen [0] rfl rfl ⟨zc rfl rfl, trivial⟩ ⟨⟨_, rfl, ⟨ii rfl rfl, ii rfl rfl, ii rfl rfl, ii rfl rfl, ii rfl rfl, ii rfl rfl, trivial⟩⟩, trivial⟩) ?_
  refine SOps.nil ?_
  refine SCode.seq ?_
  refine SCode.seq ?_
  rcases cond_out h with ⟨g1, h⟩ | ⟨g1, h⟩
  · refine SCode.region (show SOps _ _ _ [0, 1, 2, 3, 4, 5, 6, 7, 8, 9, 10, 11, 12, 13, 14, 15, 16, 17, 18, 19, 20, 21, 22, 23, 24, 25, 26, 27, 28, 29, 30, 31, 32, 33] _ _ from ?_)
    refine SOps.q rfl (.plain rfl) rfl (q_field_ptr rfl rfl fd24_0) ?_
    refine SOps.q rfl (.plain rfl) rfl (q_load_ptr rfl rfl rfl rfl ty22) ?_
    refine SOps.q rfl (.plain rfl) rfl (q_len_vec rfl rfl sl22) ?_
    refine SOps.q rfl (.plain rfl) rfl (q_gtr rfl rfl rfl) ?_
    refine SOps.q rfl (.plain rfl) rfl (q_move rfl rfl) ?_
    refine SOps.skip rfl 4 11 false rfl rfl (.inl (gT g1)) rfl ?_
    refine SOps.skip rfl 4 11 false rfl rfl (.inl (gT g1)) rfl ?_
    refine SOps.skip rfl 4 11 false rfl rfl (.inl (gT g1)) rfl ?_
    refine SOps.q rfl (.plain rfl) rfl (q_pick_t rfl rfl g1 rfl) ?_
    refine SOps.q rfl (.plain rfl) rfl (q_move rfl rfl) ?_
    refine SOps.skip rfl 9 16 false rfl rfl (.inl rfl) rfl ?_
    refine SOps.skip rfl 9 16 false rfl rfl (.inl rfl) rfl ?_
    refine SOps.skip rfl 9 16 false rfl rfl (.inl rfl) rfl ?_
    refine SOps.q rfl (.plain rfl) rfl (q_pick_t rfl rfl rfl rfl) ?_
    refine SOps.q rfl (.plain rfl) rfl (q_move rfl rfl) ?_
    refine SOps.skip rfl 14 21 false rfl rfl (.inl rfl) rfl ?_
    refine SOps.skip rfl 14 21 false rfl rfl (.inl rfl) rfl ?_
    refine SOps.skip rfl 14 21 false rfl rfl (.inl rfl) rfl ?_
    refine SOps.q rfl (.plain rfl) rfl (q_pick_t rfl rfl rfl rfl) ?_
    refine SOps.q rfl (.plain rfl) rfl (q_move rfl rfl) ?_
    refine SOps.skip rfl 19 26 false rfl rfl (.inl rfl) rfl ?_
    refine SOps.skip rfl 19 26 false rfl rfl (.inl rfl) rfl ?_
    refine SOps.skip rfl 19 26 false rfl rfl (.inl rfl) rfl ?_
    refine SOps.q rfl (.plain rfl) rfl (q_pick_t rfl rfl rfl rfl) ?_
    refine SOps.q rfl (.plain rfl) rfl (q_move rfl rfl) ?_
    refine SOps.skip rfl 24 31 false rfl rfl (.inl rfl) rfl ?_
    refine SOps.skip rfl 24 31 false rfl rfl (.inl rfl) rfl ?_
    refine SOps.skip rfl 24 31 false rfl rfl (.inl rfl) rfl ?_
    refine SOps.q rfl (.plain rfl) rfl (q_pick_t rfl rfl rfl rfl) ?_
    refine SOps.q rfl (.plain rfl) rfl (q_move rfl rfl) ?_
    refine SOps.skip rfl 29 36 false rfl rfl (.inl rfl) rfl ?_
    refine SOps.skip rfl 29 36 false rfl rfl (.inl rfl) rfl ?_
    refine SOps.skip rfl 29 36 false rfl rfl (.inl rfl) rfl ?_
    refine SOps.q rfl (.plain rfl) rfl (q_pick_t rfl rfl rfl rfl) ?_
    refine SOps.sub (st' := ⟨[(1, .c (.ptr 0 0)), (40, .c (.bool true))], [.box [.vec a0_q.L.length 11 (gL cSProfile dSProfile a0_q.L), .int .i64 a0_q.Conn, .str a0_q.Txn, .int .i64 a0_q.Start, .int .i64 a0_q.T, .int .i64 a0_q.Length]]⟩) (sub_gen [0] rfl rfl ⟨zc rfl rfl, zc rfl rfl, trivial⟩ ⟨⟨_, rfl, ⟨ii rfl rfl, ii rfl rfl, ii rfl rfl, ii rfl rfl, ii rfl rfl, ii rfl rfl, trivial⟩⟩, trivial⟩) ?_
    refine SOps.nil ?_
    refine SCode.cond_t rfl rfl ?_
    refine SCode.seq ?_
    refine SCode.region (show SOps _ _ _ [0] _ _ from ?_)
    refine SOps.q rfl (.plain rfl) rfl (q_assign rfl rfl) ?_
    refine SOps.sub (st' := ⟨[(2, .c (.bool false))], []⟩) (sub_gen [] rfl rfl ⟨zc rfl rfl, trivial⟩ trivial) ?_
    refine SOps.nil ?_
    refine SCode.ret ?_
    obtain rfl := Option.some.inj h
    exact ⟨⟨[(2, .c (.bool false))], []⟩, _, sub_gen [] rfl rfl ⟨zc rfl rfl, trivial⟩ trivial, resA1 (v := .c (.bool false)) rfl rfl, rfl⟩
  rcases cond_out h with ⟨g2, h⟩ | ⟨g2, h⟩
  · refine SCode.region (show SOps _ _ _ [0, 1, 2, 3, 4, 5, 6, 7, 8, 9, 10, 11, 12, 13, 14, 15, 16, 17, 18, 19, 20, 21, 22, 23, 24, 25, 26, 27, 28, 29, 30, 31, 32, 33] _ _ from ?_)
    refine SOps.q rfl (.plain rfl) rfl (q_field_ptr rfl rfl fd24_0) ?_
    refine SOps.q rfl (.plain rfl) rfl (q_load_ptr rfl rfl rfl rfl ty22) ?_
    refine SOps.q rfl (.plain rfl) rfl (q_len_vec rfl rfl sl22) ?_
    refine SOps.q rfl (.plain rfl) rfl (q_gtr rfl rfl rfl) ?_
    refine SOps.q rfl (.plain rfl) rfl (q_move rfl rfl) ?_
    refine SOps.q rfl (.guard 4 11 false rfl rfl (gF g1)) rfl (q_field_ptr rfl rfl fd24_3) ?_
    refine SOps.q rfl (.guard 4 11 false rfl rfl (gF g1)) rfl (q_load_ptr rfl rfl rfl rfl ty3) ?_
    refine SOps.q rfl (.guard 4 11 false rfl rfl (gF g1)) rfl (q_lss rfl rfl rfl) ?_
    refine SOps.q rfl (.plain rfl) rfl (q_pick_f rfl rfl g1 rfl) ?_
    refine SOps.q rfl (.plain rfl) rfl (q_move rfl rfl) ?_
    refine SOps.skip rfl 9 16 false rfl rfl (.inl (gT g2)) rfl ?_
    refine SOps.skip rfl 9 16 false rfl rfl (.inl (gT g2)) rfl ?_
    refine SOps.skip rfl 9 16 false rfl rfl (.inl (gT g2)) rfl ?_
    refine SOps.q rfl (.plain rfl) rfl (q_pick_t rfl rfl g2 rfl) ?_
    refine SOps.q rfl (.plain rfl) rfl (q_move rfl rfl) ?_
    refine SOps.skip rfl 14 21 false rfl rfl (.inl rfl) rfl ?_
    refine SOps.skip rfl 14 21 false rfl rfl (.inl rfl) rfl ?_
    refine SOps.skip rfl 14 21 false rfl rfl (.inl rfl) rfl ?_
    refine SOps.q rfl (.plain rfl) rfl (q_pick_t rfl rfl rfl rfl) ?_
    refine SOps.q rfl (.plain rfl) rfl (q_move rfl rfl) ?_
    refine SOps.skip rfl 19 26 false rfl rfl (.inl rfl) rfl ?_
    refine SOps.skip rfl 19 26 false rfl rfl (.inl rfl) rfl ?_
    refine SOps.skip rfl 19 26 false rfl rfl (.inl rfl) rfl ?_
    refine SOps.q rfl (.plain rfl) rfl (q_pick_t rfl rfl rfl rfl) ?_
    refine SOps.q rfl (.plain rfl) rfl (q_move rfl rfl) ?_
    refine SOps.skip rfl 24 31 false rfl rfl (.inl rfl) rfl ?_
    refine SOps.skip rfl 24 31 false rfl rfl (.inl rfl) rfl ?_
    refine SOps.skip rfl 24 31 false rfl rfl (.inl rfl) rfl ?_
    refine SOps.q rfl (.plain rfl) rfl (q_pick_t rfl rfl rfl rfl) ?_
    refine SOps.q rfl (.plain rfl) rfl (q_move rfl rfl) ?_
    refine SOps.skip rfl 29 36 false rfl rfl (.inl rfl) rfl ?_
    refine SOps.skip rfl 29 36 false rfl rfl (.inl rfl) rfl ?_
    refine SOps.skip rfl 29 36 false rfl rfl (.inl rfl) rfl ?_
    refine SOps.q rfl (.plain rfl) rfl (q_pick_t rfl rfl rfl rfl) ?_
    refine SOps.sub (st' := ⟨[(1, .c (.ptr 0 0)), (40, .c (.bool true))], [.box [.vec a0_q.L.length 11 (gL cSProfile dSProfile a0_q.L), .int .i64 a0_q.Conn, .str a0_q.Txn, .int .i64 a0_q.Start, .int .i64 a0_q.T, .int .i64 a0_q.Length]]⟩) (sub_gen [0] rfl rfl ⟨zc rfl rfl, zc rfl rfl, trivial⟩ ⟨⟨_, rfl, ⟨ii rfl rfl, ii rfl rfl, ii rfl rfl, ii rfl rfl, ii rfl rfl, ii rfl rfl, trivial⟩⟩, trivial⟩) ?_
    refine SOps.nil ?_
    refine SCode.cond_t rfl rfl ?_
    refine SCode.seq ?_
    refine SCode.region (show SOps _ _ _ [0] _ _ from ?_)
    refine SOps.q rfl (.plain rfl) rfl (q_assign rfl rfl) ?_
    refine SOps.sub (st' := ⟨[(2, .c (.bool false))], []⟩) (sub_gen [] rfl rfl ⟨zc rfl rfl, trivial⟩ trivial) ?_
    refine SOps.nil ?_
    refine SCode.ret ?_
    obtain rfl := Option.some.inj h
    exact ⟨⟨[(2, .c (.bool false))], []⟩, _, sub_gen [] rfl rfl ⟨zc rfl rfl, trivial⟩ trivial, resA1 (v := .c (.bool false)) rfl rfl, rfl⟩
  rcases cond_out h with ⟨g3, h⟩ | ⟨g3, h⟩
  · refine SCode.region (show SOps _ _ _ [0, 1, 2, 3, 4, 5, 6, 7, 8, 9, 10, 11, 12, 13, 14, 15, 16, 17, 18, 19, 20, 21, 22, 23, 24, 25, 26, 27, 28, 29, 30, 31, 32, 33] _ _ from ?_)
    refine SOps.q rfl (.plain rfl) rfl (q_field_ptr rfl rfl fd24_0) ?_
    refine SOps.q rfl (.plain rfl) rfl (q_load_ptr rfl rfl rfl rfl ty22) ?_
    refine SOps.q rfl (.plain rfl) rfl (q_len_vec rfl rfl sl22) ?_
    refine SOps.q rfl (.plain rfl) rfl (q_gtr rfl rfl rfl) ?_
    refine SOps.q rfl (.plain rfl) rfl (q_move rfl rfl) ?_
    refine SOps.q rfl (.guard 4 11 false rfl rfl (gF g1)) rfl (q_field_ptr rfl rfl fd24_3) ?_
    refine SOps.q rfl (.guard 4 11 false rfl rfl (gF g1)) rfl (q_load_ptr rfl rfl rfl rfl ty3) ?_
    refine SOps.q rfl (.guard 4 11 false rfl rfl (gF g1)) rfl (q_lss rfl rfl rfl) ?_
    refine SOps.q rfl (.plain rfl) rfl (q_pick_f rfl rfl g1 rfl) ?_
    refine SOps.q rfl (.plain rfl) rfl (q_move rfl rfl) ?_
    refine SOps.q rfl (.guard 9 16 false rfl rfl (gF g2)) rfl (q_field_ptr rfl rfl fd24_3) ?_
    refine SOps.q rfl (.guard 9 16 false rfl rfl (gF g2)) rfl (q_load_ptr rfl rfl rfl rfl ty3) ?_
    refine SOps.q rfl (.guard 9 16 false rfl rfl (gF g2)) rfl (q_gtr rfl rfl rfl) ?_
    refine SOps.q rfl (.plain rfl) rfl (q_pick_f rfl rfl g2 rfl) ?_
    refine SOps.q rfl (.plain rfl) rfl (q_move rfl rfl) ?_
    refine SOps.skip rfl 14 21 false rfl rfl (.inl (gT g3)) rfl ?_
    refine SOps.skip rfl 14 21 false rfl rfl (.inl (gT g3)) rfl ?_
    refine SOps.skip rfl 14 21 false rfl rfl (.inl (gT g3)) rfl ?_
    refine SOps.q rfl (.plain rfl) rfl (q_pick_t rfl rfl g3 rfl) ?_
    refine SOps.q rfl (.plain rfl) rfl (q_move rfl rfl) ?_
    refine SOps.skip rfl 19 26 false rfl rfl (.inl rfl) rfl ?_
    refine SOps.skip rfl 19 26 false rfl rfl (.inl rfl) rfl ?_
    refine SOps.skip rfl 19 26 false rfl rfl (.inl rfl) rfl ?_
    refine SOps.q rfl (.plain rfl) rfl (q_pick_t rfl rfl rfl rfl) ?_
    refine SOps.q rfl (.plain rfl) rfl (q_move rfl rfl) ?_
    refine SOps.skip rfl 24 31 false rfl rfl (.inl rfl) rfl ?_
    refine SOps.skip rfl 24 31 false rfl rfl (.inl rfl) rfl ?_
    refine SOps.skip rfl 24 31 false rfl rfl (.inl rfl) rfl ?_
    refine SOps.q rfl (.plain rfl) rfl (q_pick_t rfl rfl rfl rfl) ?_
    refine SOps.q rfl (.plain rfl) rfl (q_move rfl rfl) ?_
    refine SOps.skip rfl 29 36 false rfl rfl (.inl rfl) rfl ?_
    refine SOps.skip rfl 29 36 false rfl rfl (.inl rfl) rfl ?_
    refine SOps.skip rfl 29 36 false rfl rfl (.inl rfl) rfl ?_
    refine SOps.q rfl (.plain rfl) rfl (q_pick_t rfl rfl rfl rfl) ?_
    refine SOps.sub (st' := ⟨[(1, .c (.ptr 0 0)), (40, .c (.bool true))], [.box [.vec a0_q.L.length 11 (gL cSProfile dSProfile a0_q.L), .int .i64 a0_q.Conn, .str a0_q.Txn, .int .i64 a0_q.Start, .int .i64 a0_q.T, .int .i64 a0_q.Length]]⟩) (sub_gen [0] rfl rfl ⟨zc rfl rfl, zc rfl rfl, trivial⟩ ⟨⟨_, rfl, ⟨ii rfl rfl, ii rfl rfl, ii rfl rfl, ii rfl rfl, ii rfl rfl, ii rfl rfl, trivial⟩⟩, trivial⟩) ?_
    refine SOps.nil ?_
    refine SCode.cond_t rfl rfl ?_
    refine SCode.seq ?_
    refine SCode.region (show SOps _ _ _ [0] _ _ from ?_)
    refine SOps.q rfl (.plain rfl) rfl (q_assign rfl rfl) ?_
    refine SOps.sub (st' := ⟨[(2, .c (.bool false))], []⟩) (sub_gen [] rfl rfl ⟨zc rfl rfl, trivial⟩ trivial) ?_
    refine SOps.nil ?_
    refine SCode.ret ?_
    obtain rfl := Option.some.inj h
    exact ⟨⟨[(2, .c (.bool false))], []⟩, _, sub_gen [] rfl rfl ⟨zc rfl rfl, trivial⟩ trivial, resA1 (v := .c (.bool false)) rfl rfl, rfl⟩
  rcases cond_out h with ⟨g4, h⟩ | ⟨g4, h⟩
  · refine SCode.region (show SOps _ _ _ [0, 1, 2, 3, 4, 5, 6, 7, 8, 9, 10, 11, 12, 13, 14, 15, 16, 17, 18, 19, 20, 21, 22, 23, 24, 25, 26, 27, 28, 29, 30, 31, 32, 33] _ _ from ?_)
    refine SOps.q rfl (.plain rfl) rfl (q_field_ptr rfl rfl fd24_0) ?_
    refine SOps.q rfl (.plain rfl) rfl (q_load_ptr rfl rfl rfl rfl ty22) ?_
    refine SOps.q rfl (.plain rfl) rfl (q_len_vec rfl rfl sl22) ?_
    refine SOps.q rfl (.plain rfl) rfl (q_gtr rfl rfl rfl) ?_
    refine SOps.q rfl (.plain rfl) rfl (q_move rfl rfl) ?_
    refine SOps.q rfl (.guard 4 11 false rfl rfl (gF g1)) rfl (q_field_ptr rfl rfl fd24_3) ?_
    refine SOps.q rfl (.guard 4 11 false rfl rfl (gF g1)) rfl (q_load_ptr rfl rfl rfl rfl ty3) ?_
    refine SOps.q rfl (.guard 4 11 false rfl rfl (gF g1)) rfl (q_lss rfl rfl rfl) ?_
    refine SOps.q rfl (.plain rfl) rfl (q_pick_f rfl rfl g1 rfl) ?_
    refine SOps.q rfl (.plain rfl) rfl (q_move rfl rfl) ?_
    refine SOps.q rfl (.guard 9 16 false rfl rfl (gF g2)) rfl (q_field_ptr rfl rfl fd24_3) ?_
    refine SOps.q rfl (.guard 9 16 false rfl rfl (gF g2)) rfl (q_load_ptr rfl rfl rfl rfl ty3) ?_
    refine SOps.q rfl (.guard 9 16 false rfl rfl (gF g2)) rfl (q_gtr rfl rfl rfl) ?_
    refine SOps.q rfl (.plain rfl) rfl (q_pick_f rfl rfl g2 rfl) ?_
    refine SOps.q rfl (.plain rfl) rfl (q_move rfl rfl) ?_
    refine SOps.q rfl (.guard 14 21 false rfl rfl (gF g3)) rfl (q_field_ptr rfl rfl fd24_4) ?_
    refine SOps.q rfl (.guard 14 21 false rfl rfl (gF g3)) rfl (q_load_ptr rfl rfl rfl rfl ty3) ?_
    refine SOps.q rfl (.guard 14 21 false rfl rfl (gF g3)) rfl (q_lss rfl rfl rfl) ?_
    refine SOps.q rfl (.plain rfl) rfl (q_pick_f rfl rfl g3 rfl) ?_
    refine SOps.q rfl (.plain rfl) rfl (q_move rfl rfl) ?_
    refine SOps.skip rfl 19 26 false rfl rfl (.inl (gT g4)) rfl ?_
    refine SOps.skip rfl 19 26 false rfl rfl (.inl (gT g4)) rfl ?_
    refine SOps.skip rfl 19 26 false rfl rfl (.inl (gT g4)) rfl ?_
    refine SOps.q rfl (.plain rfl) rfl (q_pick_t rfl rfl g4 rfl) ?_
    refine SOps.q rfl (.plain rfl) rfl (q_move rfl rfl) ?_
    refine SOps.skip rfl 24 31 false rfl rfl (.inl rfl) rfl ?_
    refine SOps.skip rfl 24 31 false rfl rfl (.inl rfl) rfl ?_
    refine SOps.skip rfl 24 31 false rfl rfl (.inl rfl) rfl ?_
    refine SOps.q rfl (.plain rfl) rfl (q_pick_t rfl rfl rfl rfl) ?_
    refine SOps.q rfl (.plain rfl) rfl (q_move rfl rfl) ?_
    refine SOps.skip rfl 29 36 false rfl rfl (.inl rfl) rfl ?_
    refine SOps.skip rfl 29 36 false rfl rfl (.inl rfl) rfl ?_
    refine SOps.skip rfl 29 36 false rfl rfl (.inl rfl) rfl ?_
    refine SOps.q rfl (.plain rfl) rfl (q_pick_t rfl rfl rfl rfl) ?_
    refine SOps.sub (st' := ⟨[(1, .c (.ptr 0 0)), (40, .c (.bool true))], [.box [.vec a0_q.L.length 11 (gL cSProfile dSProfile a0_q.L), .int .i64 a0_q.Conn, .str a0_q.Txn, .int .i64 a0_q.Start, .int .i64 a0_q.T, .int .i64 a0_q.Length]]⟩) (sub_gen [0] rfl rfl ⟨zc rfl rfl, zc rfl rfl, trivial⟩ ⟨⟨_, rfl, ⟨ii rfl rfl, ii rfl rfl, ii rfl rfl, ii rfl rfl, ii rfl rfl, ii rfl rfl, trivial⟩⟩, trivial⟩) ?_
    refine SOps.nil ?_
    refine SCode.cond_t rfl rfl ?_
    refine SCode.seq ?_
    refine SCode.region (show SOps _ _ _ [0] _ _ from ?_)
    refine SOps.q rfl (.plain rfl) rfl (q_assign rfl rfl) ?_
    refine SOps.sub (st' := ⟨[(2, .c (.bool false))], []⟩) (sub_gen [] rfl rfl ⟨zc rfl rfl, trivial⟩ trivial) ?_
    refine SOps.nil ?_
    refine SCode.ret ?_
    obtain rfl := Option.some.inj h
    exact ⟨⟨[(2, .c (.bool false))], []⟩, _, sub_gen [] rfl rfl ⟨zc rfl rfl, trivial⟩ trivial, resA1 (v := .c (.bool false)) rfl rfl, rfl⟩
  rcases cond_out h with ⟨g5, h⟩ | ⟨g5, h⟩
  · refine SCode.region (show SOps _ _ _ [0, 1, 2, 3, 4, 5, 6, 7, 8, 9, 10, 11, 12, 13, 14, 15, 16, 17, 18, 19, 20, 21, 22, 23, 24, 25, 26, 27, 28, 29, 30, 31, 32, 33] _ _ from ?_)
    refine SOps.q rfl (.plain rfl) rfl (q_field_ptr rfl rfl fd24_0) ?_
    refine SOps.q rfl (.plain rfl) rfl (q_load_ptr rfl rfl rfl rfl ty22) ?_
    refine SOps.q rfl (.plain rfl) rfl (q_len_vec rfl rfl sl22) ?_
    refine SOps.q rfl (.plain rfl) rfl (q_gtr rfl rfl rfl) ?_
    refine SOps.q rfl (.plain rfl) rfl (q_move rfl rfl) ?_
    refine SOps.q rfl (.guard 4 11 false rfl rfl (gF g1)) rfl (q_field_ptr rfl rfl fd24_3) ?_
    refine SOps.q rfl (.guard 4 11 false rfl rfl (gF g1)) rfl (q_load_ptr rfl rfl rfl rfl ty3) ?_
    refine SOps.q rfl (.guard 4 11 false rfl rfl (gF g1)) rfl (q_lss rfl rfl rfl) ?_
    refine SOps.q rfl (.plain rfl) rfl (q_pick_f rfl rfl g1 rfl) ?_
    refine SOps.q rfl (.plain rfl) rfl (q_move rfl rfl) ?_
    refine SOps.q rfl (.guard 9 16 false rfl rfl (gF g2)) rfl (q_field_ptr rfl rfl fd24_3) ?_
    refine SOps.q rfl (.guard 9 16 false rfl rfl (gF g2)) rfl (q_load_ptr rfl rfl rfl rfl ty3) ?_
    refine SOps.q rfl (.guard 9 16 false rfl rfl (gF g2)) rfl (q_gtr rfl rfl rfl) ?_
    refine SOps.q rfl (.plain rfl) rfl (q_pick_f rfl rfl g2 rfl) ?_
    refine SOps.q rfl (.plain rfl) rfl (q_move rfl rfl) ?_
    refine SOps.q rfl (.guard 14 21 false rfl rfl (gF g3)) rfl (q_field_ptr rfl rfl fd24_4) ?_
    refine SOps.q rfl (.guard 14 21 false rfl rfl (gF g3)) rfl (q_load_ptr rfl rfl rfl rfl ty3) ?_
    refine SOps.q rfl (.guard 14 21 false rfl rfl (gF g3)) rfl (q_lss rfl rfl rfl) ?_
    refine SOps.q rfl (.plain rfl) rfl (q_pick_f rfl rfl g3 rfl) ?_
    refine SOps.q rfl (.plain rfl) rfl (q_move rfl rfl) ?_
    refine SOps.q rfl (.guard 19 26 false rfl rfl (gF g4)) rfl (q_field_ptr rfl rfl fd24_4) ?_
    refine SOps.q rfl (.guard 19 26 false rfl rfl (gF g4)) rfl (q_load_ptr rfl rfl rfl rfl ty3) ?_
    refine SOps.q rfl (.guard 19 26 false rfl rfl (gF g4)) rfl (q_gtr rfl rfl rfl) ?_
    refine SOps.q rfl (.plain rfl) rfl (q_pick_f rfl rfl g4 rfl) ?_
    refine SOps.q rfl (.plain rfl) rfl (q_move rfl rfl) ?_
    refine SOps.skip rfl 24 31 false rfl rfl (.inl (gT g5)) rfl ?_
    refine SOps.skip rfl 24 31 false rfl rfl (.inl (gT g5)) rfl ?_
    refine SOps.skip rfl 24 31 false rfl rfl (.inl (gT g5)) rfl ?_
    refine SOps.q rfl (.plain rfl) rfl (q_pick_t rfl rfl g5 rfl) ?_
    refine SOps.q rfl (.plain rfl) rfl (q_move rfl rfl) ?_
    refine SOps.skip rfl 29 36 false rfl rfl (.inl rfl) rfl ?_
    refine SOps.skip rfl 29 36 false rfl rfl (.inl rfl) rfl ?_
    refine SOps.skip rfl 29 36 false rfl rfl (.inl rfl) rfl ?_
    refine SOps.q rfl (.plain rfl) rfl (q_pick_t rfl rfl rfl rfl) ?_
    refine SOps.sub (st' := ⟨[(1, .c (.ptr 0 0)), (40, .c (.bool true))], [.box [.vec a0_q.L.length 11 (gL cSProfile dSProfile a0_q.L), .int .i64 a0_q.Conn, .str a0_q.Txn, .int .i64 a0_q.Start, .int .i64 a0_q.T, .int .i64 a0_q.Length]]⟩) (sub_gen [0] rfl rfl ⟨zc rfl rfl, zc rfl rfl, trivial⟩ ⟨⟨_, rfl, ⟨ii rfl rfl, ii rfl rfl, ii rfl rfl, ii rfl rfl, ii rfl rfl, ii rfl rfl, trivial⟩⟩, trivial⟩) ?_
    refine SOps.nil ?_
    refine SCode.cond_t rfl rfl ?_
    refine SCode.seq ?_
    refine SCode.region (show SOps _ _ _ [0] _ _ from ?_)
    refine SOps.q rfl (.plain rfl) rfl (q_assign rfl rfl) ?_
    refine SOps.sub (st' := ⟨[(2, .c (.bool false))], []⟩) (sub_gen [] rfl rfl ⟨zc rfl rfl, trivial⟩ trivial) ?_
    refine SOps.nil ?_
    refine SCode.ret ?_
    obtain rfl := Option.some.inj h
    exact ⟨⟨[(2, .c (.bool false))], []⟩, _, sub_gen [] rfl rfl ⟨zc rfl rfl, trivial⟩ trivial, resA1 (v := .c (.bool false)) rfl rfl, rfl⟩
  rcases cond_out h with ⟨g6, h⟩ | ⟨g6, h⟩
  · refine SCode.region (show SOps _ _ _ [0, 1, 2, 3, 4, 5, 6, 7, 8, 9, 10, 11, 12, 13, 14, 15, 16, 17, 18, 19, 20, 21, 22, 23, 24, 25, 26, 27, 28, 29, 30, 31, 32, 33] _ _ from ?_)
    refine SOps.q rfl (.plain rfl) rfl (q_field_ptr rfl rfl fd24_0) ?_
    refine SOps.q rfl (.plain rfl) rfl (q_load_ptr rfl rfl rfl rfl ty22) ?_
    refine SOps.q rfl (.plain rfl) rfl (q_len_vec rfl rfl sl22) ?_
    refine SOps.q rfl (.plain rfl) rfl (q_gtr rfl rfl rfl) ?_
    refine SOps.q rfl (.plain rfl) rfl (q_move rfl rfl) ?_
    refine SOps.q rfl (.guard 4 11 false rfl rfl (gF g1)) rfl (q_field_ptr rfl rfl fd24_3) ?_
    refine SOps.q rfl (.guard 4 11 false rfl rfl (gF g1)) rfl (q_load_ptr rfl rfl rfl rfl ty3) ?_
    refine SOps.q rfl (.guard 4 11 false rfl rfl (gF g1)) rfl (q_lss rfl rfl rfl) ?_
    refine SOps.q rfl (.plain rfl) rfl (q_pick_f rfl rfl g1 rfl) ?_
    refine SOps.q rfl (.plain rfl) rfl (q_move rfl rfl) ?_
    refine SOps.q rfl (.guard 9 16 false rfl rfl (gF g2)) rfl (q_field_ptr rfl rfl fd24_3) ?_
    refine SOps.q rfl (.guard 9 16 false rfl rfl (gF g2)) rfl (q_load_ptr rfl rfl rfl rfl ty3) ?_
    refine SOps.q rfl (.guard 9 16 false rfl rfl (gF g2)) rfl (q_gtr rfl rfl rfl) ?_
    refine SOps.q rfl (.plain rfl) rfl (q_pick_f rfl rfl g2 rfl) ?_
    refine SOps.q rfl (.plain rfl) rfl (q_move rfl rfl) ?_
    refine SOps.q rfl (.guard 14 21 false rfl rfl (gF g3)) rfl (q_field_ptr rfl rfl fd24_4) ?_
    refine SOps.q rfl (.guard 14 21 false rfl rfl (gF g3)) rfl (q_load_ptr rfl rfl rfl rfl ty3) ?_
    refine SOps.q rfl (.guard 14 21 false rfl rfl (gF g3)) rfl (q_lss rfl rfl rfl) ?_
    refine SOps.q rfl (.plain rfl) rfl (q_pick_f rfl rfl g3 rfl) ?_
    refine SOps.q rfl (.plain rfl) rfl (q_move rfl rfl) ?_
    refine SOps.q rfl (.guard 19 26 false rfl rfl (gF g4)) rfl (q_field_ptr rfl rfl fd24_4) ?_
    refine SOps.q rfl (.guard 19 26 false rfl rfl (gF g4)) rfl (q_load_ptr rfl rfl rfl rfl ty3) ?_
    refine SOps.q rfl (.guard 19 26 false rfl rfl (gF g4)) rfl (q_gtr rfl rfl rfl) ?_
    refine SOps.q rfl (.plain rfl) rfl (q_pick_f rfl rfl g4 rfl) ?_
    refine SOps.q rfl (.plain rfl) rfl (q_move rfl rfl) ?_
    refine SOps.q rfl (.guard 24 31 false rfl rfl (gF g5)) rfl (q_field_ptr rfl rfl fd24_5) ?_
    refine SOps.q rfl (.guard 24 31 false rfl rfl (gF g5)) rfl (q_load_ptr rfl rfl rfl rfl ty3) ?_
    refine SOps.q rfl (.guard 24 31 false rfl rfl (gF g5)) rfl (q_lss rfl rfl rfl) ?_
    refine SOps.q rfl (.plain rfl) rfl (q_pick_f rfl rfl g5 rfl) ?_
    refine SOps.q rfl (.plain rfl) rfl (q_move rfl rfl) ?_
    refine SOps.skip rfl 29 36 false rfl rfl (.inl (gT g6)) rfl ?_
    refine SOps.skip rfl 29 36 false rfl rfl (.inl (gT g6)) rfl ?_
    refine SOps.skip rfl 29 36 false rfl rfl (.inl (gT g6)) rfl ?_
    refine SOps.q rfl (.plain rfl) rfl (q_pick_t rfl rfl g6 rfl) ?_
    refine SOps.sub (st' := ⟨[(1, .c (.ptr 0 0)), (40, .c (.bool true))], [.box [.vec a0_q.L.length 11 (gL cSProfile dSProfile a0_q.L), .int .i64 a0_q.Conn, .str a0_q.Txn, .int .i64 a0_q.Start, .int .i64 a0_q.T, .int .i64 a0_q.Length]]⟩) (sub_gen [0] rfl rfl ⟨zc rfl rfl, zc rfl rfl, trivial⟩ ⟨⟨_, rfl, ⟨ii rfl rfl, ii rfl rfl, ii rfl rfl, ii rfl rfl, ii rfl rfl, ii rfl rfl, trivial⟩⟩, trivial⟩) ?_
    refine SOps.nil ?_
    refine SCode.cond_t rfl rfl ?_
    refine SCode.seq ?_
    refine SCode.region (show SOps _ _ _ [0] _ _ from ?_)
    refine SOps.q rfl (.plain rfl) rfl (q_assign rfl rfl) ?_
    refine SOps.sub (st' := ⟨[(2, .c (.bool false))], []⟩) (sub_gen [] rfl rfl ⟨zc rfl rfl, trivial⟩ trivial) ?_
    refine SOps.nil ?_
    refine SCode.ret ?_
    obtain rfl := Option.some.inj h
    exact ⟨⟨[(2, .c (.bool false))], []⟩, _, sub_gen [] rfl rfl ⟨zc rfl rfl, trivial⟩ trivial, resA1 (v := .c (.bool false)) rfl rfl, rfl⟩
  refine SCode.region (show SOps _ _ _ [0, 1, 2, 3, 4, 5, 6, 7, 8, 9, 10, 11, 12, 13, 14, 15, 16, 17, 18, 19, 20, 21, 22, 23, 24, 25, 26, 27, 28, 29, 30, 31, 32, 33] _ _ from ?_)
  refine SOps.q rfl (.plain rfl) rfl (q_field_ptr rfl rfl fd24_0) ?_
  refine SOps.q rfl (.plain rfl) rfl (q_load_ptr rfl rfl rfl rfl ty22) ?_
  refine SOps.q rfl (.plain rfl) rfl (q_len_vec rfl rfl sl22) ?_
  refine SOps.q rfl (.plain rfl) rfl (q_gtr rfl rfl rfl) ?_
  refine SOps.q rfl (.plain rfl) rfl (q_move rfl rfl) ?_
  refine SOps.q rfl (.guard 4 11 false rfl rfl (gF g1)) rfl (q_field_ptr rfl rfl fd24_3) ?_
  refine SOps.q rfl (.guard 4 11 false rfl rfl (gF g1)) rfl (q_load_ptr rfl rfl rfl rfl ty3) ?_
  refine SOps.q rfl (.guard 4 11 false rfl rfl (gF g1)) rfl (q_lss rfl rfl rfl) ?_
  refine SOps.q rfl (.plain rfl) rfl (q_pick_f rfl rfl g1 rfl) ?_
  refine SOps.q rfl (.plain rfl) rfl (q_move rfl rfl) ?_
  refine SOps.q rfl (.guard 9 16 false rfl rfl (gF g2)) rfl (q_field_ptr rfl rfl fd24_3) ?_
  refine SOps.q rfl (.guard 9 16 false rfl rfl (gF g2)) rfl (q_load_ptr rfl rfl rfl rfl ty3) ?_
  refine SOps.q rfl (.guard 9 16 false rfl rfl (gF g2)) rfl (q_gtr rfl rfl rfl) ?_
  refine SOps.q rfl (.plain rfl) rfl (q_pick_f rfl rfl g2 rfl) ?_
  refine SOps.q rfl (.plain rfl) rfl (q_move rfl rfl) ?_
  refine SOps.q rfl (.guard 14 21 false rfl rfl (gF g3)) rfl (q_field_ptr rfl rfl fd24_4) ?_
  refine SOps.q rfl (.guard 14 21 false rfl rfl (gF g3)) rfl (q_load_ptr rfl rfl rfl rfl ty3) ?_
  refine SOps.q rfl (.guard 14 21 false rfl rfl (gF g3)) rfl (q_lss rfl rfl rfl) ?_
  refine SOps.q rfl (.plain rfl) rfl (q_pick_f rfl rfl g3 rfl) ?_
  refine SOps.q rfl (.plain rfl) rfl (q_move rfl rfl) ?_
  refine SOps.q rfl (.guard 19 26 false rfl rfl (gF g4)) rfl (q_field_ptr rfl rfl fd24_4) ?_
  refine SOps.q rfl (.guard 19 26 false rfl rfl (gF g4)) rfl (q_load_ptr rfl rfl rfl rfl ty3) ?_
  refine SOps.q rfl (.guard 19 26 false rfl rfl (gF g4)) rfl (q_gtr rfl rfl rfl) ?_
  refine SOps.q rfl (.plain rfl) rfl (q_pick_f rfl rfl g4 rfl) ?_
  refine SOps.q rfl (.plain rfl) rfl (q_move rfl rfl) ?_
  refine SOps.q rfl (.guard 24 31 false rfl rfl (gF g5)) rfl (q_field_ptr rfl rfl fd24_5) ?_
  refine SOps.q rfl (.guard 24 31 false rfl rfl (gF g5)) rfl (q_load_ptr rfl rfl rfl rfl ty3) ?_
  refine SOps.q rfl (.guard 24 31 false rfl rfl (gF g5)) rfl (q_lss rfl rfl rfl) ?_
  refine SOps.q rfl (.plain rfl) rfl (q_pick_f rfl rfl g5 rfl) ?_
  refine SOps.q rfl (.plain rfl) rfl (q_move rfl rfl) ?_
  refine SOps.q rfl (.guard 29 36 false rfl rfl (gF g6)) rfl (q_field_ptr rfl rfl fd24_5) ?_
  refine SOps.q rfl (.guard 29 36 false rfl rfl (gF g6)) rfl (q_load_ptr rfl rfl rfl rfl ty3) ?_
  refine SOps.q rfl (.guard 29 36 false rfl rfl (gF g6)) rfl (q_gtr rfl rfl rfl) ?_
  refine SOps.q rfl (.plain rfl) rfl (q_pick_f rfl rfl g6 rfl) ?_
  refine SOps.sub (st' := ⟨[(1, .c (.ptr 0 0)), (40, .c (.bool (decide (3000 < a0_q.Length))))], [.box [.vec a0_q.L.length 11 (gL cSProfile dSProfile a0_q.L), .int .i64 a0_q.Conn, .str a0_q.Txn, .int .i64 a0_q.Start, .int .i64 a0_q.T, .int .i64 a0_q.Length]]⟩) (sub_gen [0] rfl rfl ⟨zc rfl rfl, zc rfl rfl, trivial⟩ ⟨⟨_, rfl, ⟨ii rfl rfl, ii rfl rfl, ii rfl rfl, ii rfl rfl, ii rfl rfl, ii rfl rfl, trivial⟩⟩, trivial⟩) ?_
  refine SOps.nil ?_
  rcases cond_out h with ⟨g7, h⟩ | ⟨g7, h⟩
  · refine SCode.cond_t rfl g7 ?_
    refine SCode.seq ?_
    refine SCode.region (show SOps _ _ _ [0] _ _ from ?_)
    refine SOps.q rfl (.plain rfl) rfl (q_assign rfl rfl) ?_
    refine SOps.sub (st' := ⟨[(2, .c (.bool false))], []⟩) (sub_gen [] rfl rfl ⟨zc rfl rfl, trivial⟩ trivial) ?_
    refine SOps.nil ?_
    refine SCode.ret ?_
    obtain rfl := Option.some.inj h
    exact ⟨⟨[(2, .c (.bool false))], []⟩, _, sub_gen [] rfl rfl ⟨zc rfl rfl, trivial⟩ trivial, resA1 (v := .c (.bool false)) rfl rfl, rfl⟩
  refine SCode.cond_f rfl g7 ?_
  refine SCode.skip ?_
  refine SCode.join (σ := Unit) (S := fun s => ⟨[], []⟩) (g := fun s => chargenetlaw16_Good_p8 = some r) ?_ ?_
  rotate_left
  · refine SCode.seq ?_
    refine SCode.region (show SOps _ _ _ [0, 1, 2, 3] _ _ from ?_)
    refine SOps.q rfl (.plain rfl) rfl (q_field_ptr rfl rfl fd24_0) ?_
    refine SOps.q rfl (.plain rfl) rfl (q_load_ptr rfl rfl rfl rfl ty22) ?_
    refine SOps.q rfl (.plain rfl) rfl (q_len_vec rfl rfl sl22) ?_
    refine SOps.q rfl (.plain rfl) rfl (q_move rfl rfl) ?_
    refine SOps.sub (st' := ⟨[(1, .c (.ptr 0 0)), (42, .c (.vec a0_q.L.length 11 (gL cSProfile dSProfile a0_q.L))), (43, .c (.int .i64 (((a0_q.L).length : Int)))), (44, .c (.int .i64 0))], [.box [.vec a0_q.L.length 11 (gL cSProfile dSProfile a0_q.L), .int .i64 a0_q.Conn, .str a0_q.Txn, .int .i64 a0_q.Start, .int .i64 a0_q.T, .int .i64 a0_q.Length]]⟩) (sub_gen [0] rfl rfl ⟨zc rfl rfl, zc rfl rfl, zc rfl rfl, zc rfl rfl, trivial⟩ ⟨⟨_, rfl, ⟨ii rfl rfl, ii rfl rfl, ii rfl rfl, ii rfl rfl, ii rfl rfl, ii rfl rfl, trivial⟩⟩, trivial⟩) ?_
    refine SOps.nil ?_
    refine SCode.block ?_
    refine SCode.sub (st' := ⟨[(1, .c (.ptr 0 0)), (42, .c (.vec a0_q.L.length 11 (gL cSProfile dSProfile a0_q.L))), (43, .c (.int .i64 (((a0_q.L).length : Int)))), (44, .c (.int .i64 0))], [.box [.vec a0_q.L.length 11 (gL cSProfile dSProfile a0_q.L), .int .i64 a0_q.Conn, .str a0_q.Txn, .int .i64 a0_q.Start, .int .i64 a0_q.T, .int .i64 a0_q.Length]]⟩) (sub_gen [0] rfl rfl ⟨zc rfl rfl, zc rfl rfl, zc rfl rfl, zc rfl rfl, trivial⟩ ⟨⟨_, rfl, ⟨ii rfl rfl, ii rfl rfl, ii rfl rfl, ii rfl rfl, ii rfl rfl, ii rfl rfl, trivial⟩⟩, trivial⟩) ?_
    refine (SCode.loop (σ := Nat × Int) (S := fun s => ⟨[(1, .c (.ptr 0 0)), (42, .c (.vec a0_q.L.length 11 (gL cSProfile dSProfile a0_q.L))), (43, .c (.int .i64 (((a0_q.L).length : Int)))), (44, .c (.int .i64 s.2))], [.box [.vec a0_q.L.length 11 (gL cSProfile dSProfile a0_q.L), .int .i64 a0_q.Conn, .str a0_q.Txn, .int .i64 a0_q.Start, .int .i64 a0_q.T, .int .i64 a0_q.Length]]⟩) (g := fun s => chargenetlaw16_Good_l46 F a0_q s.1 s.2 = some r) (μ := fun s => s.1) (F, 0) h ?_)
    rintro ⟨n_46, t44_27⟩ h
    replace h : chargenetlaw16_Good_l46 F a0_q n_46 t44_27 = some r := h
    show SCode _ _ _ ⟨[(1, .c (.ptr 0 0)), (42, .c (.vec a0_q.L.length 11 (gL cSProfile dSProfile a0_q.L))), (43, .c (.int .i64 (((a0_q.L).length : Int)))), (44, .c (.int .i64 t44_27))], [.box [.vec a0_q.L.length 11 (gL cSProfile dSProfile a0_q.L), .int .i64 a0_q.Conn, .str a0_q.Txn, .int .i64 a0_q.Start, .int .i64 a0_q.T, .int .i64 a0_q.Length]]⟩ _
    cases n_46 with
    | zero => cases h
    | succ n_46 =>
      replace h : chargenetlaw16_Good_b46 F a0_q (fun t44_27 => chargenetlaw16_Good_l46 F a0_q n_46 t44_27) t44_27 = some r := h
      unfold chargenetlaw16_Good_b46 at h
      refine SCode.seq ?_
      refine SCode.region (show SOps _ _ _ [0] _ _ from ?_)
      refine SOps.q rfl (.plain rfl) rfl (q_lss rfl rfl rfl) ?_
      refine SOps.sub (st' := ⟨[(1, .c (.ptr 0 0)), (42, .c (.vec a0_q.L.length 11 (gL cSProfile dSProfile a0_q.L))), (43, .c (.int .i64 (((a0_q.L).length : Int)))), (44, .c (.int .i64 t44_27)), (45, .c (.bool (decide (t44_27 < ((a0_q.L).length : Int)))))], [.box [.vec a0_q.L.length 11 (gL cSProfile dSProfile a0_q.L), .int .i64 a0_q.Conn, .str a0_q.Txn, .int .i64 a0_q.Start, .int .i64 a0_q.T, .int .i64 a0_q.Length]]⟩) (sub_gen [0] rfl rfl ⟨zc rfl rfl, zc rfl rfl, zc rfl rfl, zc rfl rfl, zc rfl rfl, trivial⟩ ⟨⟨_, rfl, ⟨ii rfl rfl, ii rfl rfl, ii rfl rfl, ii rfl rfl, ii rfl rfl, ii rfl rfl, trivial⟩⟩, trivial⟩) ?_
      refine SOps.nil ?_
      refine SCode.seq ?_
      rcases cond_out h with ⟨g47, h⟩ | ⟨g47, h⟩
      · refine SCode.cond_t rfl g47 ?_
        refine SCode.skip ?_
        refine SCode.join (σ := Unit) (S := fun s => ⟨[(1, .c (.ptr 0 0)), (42, .c (.vec a0_q.L.length 11 (gL cSProfile dSProfile a0_q.L))), (43, .c (.int .i64 (((a0_q.L).length : Int)))), (44, .c (.int .i64 t44_27))], [.box [.vec a0_q.L.length 11 (gL cSProfile dSProfile a0_q.L), .int .i64 a0_q.Conn, .str a0_q.Txn, .int .i64 a0_q.Start, .int .i64 a0_q.T, .int .i64 a0_q.Length]]⟩) (g := fun s => chargenetlaw16_Good_p48 t44_27 (fun t44_27 => chargenetlaw16_Good_l46 F a0_q n_46 t44_27) = some r) ?_ ?_
        rotate_left
        · refine SCode.block ?_
          refine SCode.seq ?_
          obtain ⟨g49, h⟩ := guard_out h
          refine SCode.region (show SOps _ _ _ [0, 1, 2, 3, 4, 5] _ _ from ?_)
          refine SOps.q rfl (.plain rfl) rfl (q_move rfl rfl) ?_
          refine SOps.q rfl (.plain rfl) rfl (q_index_vec rfl rfl rfl sl22 rfl g49.1 g49.2) ?_
          refine SOps.q rfl (.plain rfl) rfl (q_load_eptr_all rfl rfl rfl ty31) ?_
          refine SOps.e rfl (.plain rfl) (e_alloc rfl rfl rfl z31) ?_
          refine SOps.q rfl (.plain rfl) rfl (q_assign rfl rfl) ?_
          refine SOps.e rfl (.plain rfl) (e_store_box rfl rfl rfl rfl rfl ty31 rfl rfl rfl rfl) ?_
          refine SOps.sub (st' := ⟨[(1, .c (.ptr 0 0)), (3, .c (.int .i64 t44_27)), (4, .c (.ptr 1 0)), (42, .c (.vec a0_q.L.length 11 (gL cSProfile dSProfile a0_q.L))), (43, .c (.int .i64 (((a0_q.L).length : Int)))), (44, .c (.int .i64 t44_27))], [.box [.vec a0_q.L.length 11 (gL cSProfile dSProfile a0_q.L), .int .i64 a0_q.Conn, .str a0_q.Txn, .int .i64 a0_q.Start, .int .i64 a0_q.T, .int .i64 a0_q.Length], .box [.int .i64 ((a0_q.L.getD t44_27.toNat dSProfile).ID), .int .i64 ((a0_q.L.getD t44_27.toNat dSProfile).Level), .int .i64 ((a0_q.L.getD t44_27.toNat dSProfile).Purpose), .int .i64 ((a0_q.L.getD t44_27.toNat dSProfile).Kind), .int .i64 ((a0_q.L.getD t44_27.toNat dSProfile).Conn), .str ((a0_q.L.getD t44_27.toNat dSProfile).Txn), .int .i64 ((a0_q.L.getD t44_27.toNat dSProfile).Span_From), .int .i64 ((a0_q.L.getD t44_27.toNat dSProfile).Span_To), .int .i64 ((a0_q.L.getD t44_27.toNat dSProfile).Start), .int .i64 ((a0_q.L.getD t44_27.toNat dSProfile).Duration), .vec ((a0_q.L.getD t44_27.toNat dSProfile).Periods).length 2 (gL cSPeriod dSPeriod ((a0_q.L.getD t44_27.toNat dSProfile).Periods))]]⟩) (sub_gen [0, 1] rfl rfl ⟨zc rfl rfl, zc rfl rfl, zc rfl rfl, zc rfl rfl, zc rfl rfl, zc rfl rfl, trivial⟩ ⟨⟨_, rfl, ⟨ii rfl rfl, ii rfl rfl, ii rfl rfl, ii rfl rfl, ii rfl rfl, ii rfl rfl, trivial⟩⟩, ⟨_, rfl, ⟨ii rfl rfl, ii rfl rfl, ii rfl rfl, ii rfl rfl, ii rfl rfl, ii rfl rfl, ii rfl rfl, ii rfl rfl, ii rfl rfl, ii rfl rfl, ii rfl rfl, trivial⟩⟩, trivial⟩) ?_
          refine SOps.nil ?_
          refine SCode.seq ?_
          refine SCode.seq ?_
          obtain ⟨c_50, g51, h⟩ := bind_out h
          try dsimp only at h
          refine SCode.region (show SOps _ _ _ [0, 1, 2] _ _ from ?_)
          refine SOps.q rfl (.plain rfl) rfl (q_load_ptr_all rfl rfl rfl rfl rfl ty31) ?_
          refine SOps.q rfl (.plain rfl) rfl (q_call (chargenetref15_Valid_ok F (a0_q.L.getD t44_27.toNat dSProfile) c_50 g51) [] rfl fn18 ⟨⟨rfl, rfl⟩, trivial⟩ (.inl rfl)) ?_
          refine SOps.q rfl (.plain rfl) rfl (q_neq rfl rfl rfl) ?_
          refine SOps.sub (st' := ⟨[(1, .c (.ptr 0 0)), (3, .c (.int .i64 t44_27)), (4, .c (.ptr 1 0)), (42, .c (.vec a0_q.L.length 11 (gL cSProfile dSProfile a0_q.L))), (43, .c (.int .i64 (((a0_q.L).length : Int)))), (44, .c (.int .i64 t44_27)), (51, .c (.bool ((!decide (c_50 = 0)))))], [.box [.vec a0_q.L.length 11 (gL cSProfile dSProfile a0_q.L), .int .i64 a0_q.Conn, .str a0_q.Txn, .int .i64 a0_q.Start, .int .i64 a0_q.T, .int .i64 a0_q.Length], .box [.int .i64 ((a0_q.L.getD t44_27.toNat dSProfile).ID), .int .i64 ((a0_q.L.getD t44_27.toNat dSProfile).Level), .int .i64 ((a0_q.L.getD t44_27.toNat dSProfile).Purpose), .int .i64 ((a0_q.L.getD t44_27.toNat dSProfile).Kind), .int .i64 ((a0_q.L.getD t44_27.toNat dSProfile).Conn), .str ((a0_q.L.getD t44_27.toNat dSProfile).Txn), .int .i64 ((a0_q.L.getD t44_27.toNat dSProfile).Span_From), .int .i64 ((a0_q.L.getD t44_27.toNat dSProfile).Span_To), .int .i64 ((a0_q.L.getD t44_27.toNat dSProfile).Start), .int .i64 ((a0_q.L.getD t44_27.toNat dSProfile).Duration), .vec ((a0_q.L.getD t44_27.toNat dSProfile).Periods).length 2 (gL cSPeriod dSPeriod ((a0_q.L.getD t44_27.toNat dSProfile).Periods))]]⟩) (sub_gen [0, 1] rfl rfl ⟨zc rfl rfl, zc rfl rfl, zc rfl rfl, zc rfl rfl, zc rfl rfl, zc rfl rfl, zc rfl rfl, trivial⟩ ⟨⟨_, rfl, ⟨ii rfl rfl, ii rfl rfl, ii rfl rfl, ii rfl rfl, ii rfl rfl, ii rfl rfl, trivial⟩⟩, ⟨_, rfl, ⟨ii rfl rfl, ii rfl rfl, ii rfl rfl, ii rfl rfl, ii rfl rfl, ii rfl rfl, ii rfl rfl, ii rfl rfl, ii rfl rfl, ii rfl rfl, ii rfl rfl, trivial⟩⟩, trivial⟩) ?_
          refine SOps.nil ?_
          rcases cond_out h with ⟨g52, h⟩ | ⟨g52, h⟩
          · refine SCode.cond_t rfl g52 ?_
            refine SCode.seq ?_
            refine SCode.region (show SOps _ _ _ [0] _ _ from ?_)
            refine SOps.q rfl (.plain rfl) rfl (q_assign rfl rfl) ?_
            refine SOps.sub (st' := ⟨[(2, .c (.bool false))], []⟩) (sub_gen [] rfl rfl ⟨zc rfl rfl, trivial⟩ trivial) ?_
            refine SOps.nil ?_
            refine SCode.ret ?_
            obtain rfl := Option.some.inj h
            exact ⟨⟨[(2, .c (.bool false))], []⟩, _, sub_gen [] rfl rfl ⟨zc rfl rfl, trivial⟩ trivial, resA1 (v := .c (.bool false)) rfl rfl, rfl⟩
          refine SCode.cond_f rfl g52 ?_
          refine SCode.skip ?_
          refine SCode.seq ?_
          obtain ⟨g53, h⟩ := guard_out h
          refine SCode.region (show SOps _ _ _ [0, 1, 2, 3, 4, 5] _ _ from ?_)
          refine SOps.q rfl (.plain rfl) rfl (q_field_ptr rfl rfl fd24_0) ?_
          refine SOps.q rfl (.plain rfl) rfl (q_load_ptr rfl rfl rfl rfl ty22) ?_
          refine SOps.q rfl (.plain rfl) rfl (q_move rfl rfl) ?_
          refine SOps.q rfl (.plain rfl) rfl (q_slice_h rfl rfl rfl sl22 g53.1 g53.2) ?_
          refine SOps.q rfl (.plain rfl) rfl (q_len_vec rfl rfl sl22) ?_
          refine SOps.q rfl (.plain rfl) rfl (q_move rfl rfl) ?_
          refine SOps.sub (st' := ⟨[(1, .c (.ptr 0 0)), (4, .c (.ptr 1 0)), (42, .c (.vec a0_q.L.length 11 (gL cSProfile dSProfile a0_q.L))), (43, .c (.int .i64 (((a0_q.L).length : Int)))), (44, .c (.int .i64 t44_27)), (55, .c (.vec (subL a0_q.L 0 (t44_27 : Int).toNat).length 11 (gL cSProfile dSProfile (subL a0_q.L 0 (t44_27 : Int).toNat)))), (56, .c (.int .i64 (((subL a0_q.L 0 (t44_27 : Int).toNat).length : Int)))), (57, .c (.int .i64 0))], [.box [.vec a0_q.L.length 11 (gL cSProfile dSProfile a0_q.L), .int .i64 a0_q.Conn, .str a0_q.Txn, .int .i64 a0_q.Start, .int .i64 a0_q.T, .int .i64 a0_q.Length], .box [.int .i64 ((a0_q.L.getD t44_27.toNat dSProfile).ID), .int .i64 ((a0_q.L.getD t44_27.toNat dSProfile).Level), .int .i64 ((a0_q.L.getD t44_27.toNat dSProfile).Purpose), .int .i64 ((a0_q.L.getD t44_27.toNat dSProfile).Kind), .int .i64 ((a0_q.L.getD t44_27.toNat dSProfile).Conn), .str ((a0_q.L.getD t44_27.toNat dSProfile).Txn), .int .i64 ((a0_q.L.getD t44_27.toNat dSProfile).Span_From), .int .i64 ((a0_q.L.getD t44_27.toNat dSProfile).Span_To), .int .i64 ((a0_q.L.getD t44_27.toNat dSProfile).Start), .int .i64 ((a0_q.L.getD t44_27.toNat dSProfile).Duration), .vec ((a0_q.L.getD t44_27.toNat dSProfile).Periods).length 2 (gL cSPeriod dSPeriod ((a0_q.L.getD t44_27.toNat dSProfile).Periods))]]⟩) (sub_gen [0, 1] rfl rfl ⟨zc rfl rfl, zc rfl rfl, zc rfl rfl, zc rfl rfl, zc rfl rfl, zc rfl rfl, zc rfl rfl, zc rfl rfl, trivial⟩ ⟨⟨_, rfl, ⟨ii rfl rfl, ii rfl rfl, ii rfl rfl, ii rfl rfl, ii rfl rfl, ii rfl rfl, trivial⟩⟩, ⟨_, rfl, ⟨ii rfl rfl, ii rfl rfl, ii rfl rfl, ii rfl rfl, ii rfl rfl, ii rfl rfl, ii rfl rfl, ii rfl rfl, ii rfl rfl, ii rfl rfl, ii rfl rfl, trivial⟩⟩, trivial⟩) ?_
          refine SOps.nil ?_
          refine SCode.block ?_
          refine SCode.sub (st' := ⟨[(1, .c (.ptr 0 0)), (4, .c (.ptr 1 0)), (42, .c (.vec a0_q.L.length 11 (gL cSProfile dSProfile a0_q.L))), (43, .c (.int .i64 (((a0_q.L).length : Int)))), (44, .c (.int .i64 t44_27)), (55, .c (.vec (subL a0_q.L 0 (t44_27 : Int).toNat).length 11 (gL cSProfile dSProfile (subL a0_q.L 0 (t44_27 : Int).toNat)))), (56, .c (.int .i64 (((subL a0_q.L 0 (t44_27 : Int).toNat).length : Int)))), (57, .c (.int .i64 0))], [.box [.vec a0_q.L.length 11 (gL cSProfile dSProfile a0_q.L), .int .i64 a0_q.Conn, .str a0_q.Txn, .int .i64 a0_q.Start, .int .i64 a0_q.T, .int .i64 a0_q.Length], .box [.int .i64 ((a0_q.L.getD t44_27.toNat dSProfile).ID), .int .i64 ((a0_q.L.getD t44_27.toNat dSProfile).Level), .int .i64 ((a0_q.L.getD t44_27.toNat dSProfile).Purpose), .int .i64 ((a0_q.L.getD t44_27.toNat dSProfile).Kind), .int .i64 ((a0_q.L.getD t44_27.toNat dSProfile).Conn), .str ((a0_q.L.getD t44_27.toNat dSProfile).Txn), .int .i64 ((a0_q.L.getD t44_27.toNat dSProfile).Span_From), .int .i64 ((a0_q.L.getD t44_27.toNat dSProfile).Span_To), .int .i64 ((a0_q.L.getD t44_27.toNat dSProfile).Start), .int .i64 ((a0_q.L.getD t44_27.toNat dSProfile).Duration), .vec ((a0_q.L.getD t44_27.toNat dSProfile).Periods).length 2 (gL cSPeriod dSPeriod ((a0_q.L.getD t44_27.toNat dSProfile).Periods))]]⟩) (sub_gen [0, 1] rfl rfl ⟨zc rfl rfl, zc rfl rfl, zc rfl rfl, zc rfl rfl, zc rfl rfl, zc rfl rfl, zc rfl rfl, zc rfl rfl, trivial⟩ ⟨⟨_, rfl, ⟨ii rfl rfl, ii rfl rfl, ii rfl rfl, ii rfl rfl, ii rfl rfl, ii rfl rfl, trivial⟩⟩, ⟨_, rfl, ⟨ii rfl rfl, ii rfl rfl, ii rfl rfl, ii rfl rfl, ii rfl rfl, ii rfl rfl, ii rfl rfl, ii rfl rfl, ii rfl rfl, ii rfl rfl, ii rfl rfl, trivial⟩⟩, trivial⟩) ?_
          refine (SCode.loop (σ := Nat × Int) (S := fun s => ⟨[(1, .c (.ptr 0 0)), (4, .c (.ptr 1 0)), (42, .c (.vec a0_q.L.length 11 (gL cSProfile dSProfile a0_q.L))), (43, .c (.int .i64 (((a0_q.L).length : Int)))), (44, .c (.int .i64 t44_27)), (55, .c (.vec (subL a0_q.L 0 (t44_27 : Int).toNat).length 11 (gL cSProfile dSProfile (subL a0_q.L 0 (t44_27 : Int).toNat)))), (56, .c (.int .i64 (((subL a0_q.L 0 (t44_27 : Int).toNat).length : Int)))), (57, .c (.int .i64 s.2))], [.box [.vec a0_q.L.length 11 (gL cSProfile dSProfile a0_q.L), .int .i64 a0_q.Conn, .str a0_q.Txn, .int .i64 a0_q.Start, .int .i64 a0_q.T, .int .i64 a0_q.Length], .box [.int .i64 ((a0_q.L.getD t44_27.toNat dSProfile).ID), .int .i64 ((a0_q.L.getD t44_27.toNat dSProfile).Level), .int .i64 ((a0_q.L.getD t44_27.toNat dSProfile).Purpose), .int .i64 ((a0_q.L.getD t44_27.toNat dSProfile).Kind), .int .i64 ((a0_q.L.getD t44_27.toNat dSProfile).Conn), .str ((a0_q.L.getD t44_27.toNat dSProfile).Txn), .int .i64 ((a0_q.L.getD t44_27.toNat dSProfile).Span_From), .int .i64 ((a0_q.L.getD t44_27.toNat dSProfile).Span_To), .int .i64 ((a0_q.L.getD t44_27.toNat dSProfile).Start), .int .i64 ((a0_q.L.getD t44_27.toNat dSProfile).Duration), .vec ((a0_q.L.getD t44_27.toNat dSProfile).Periods).length 2 (gL cSPeriod dSPeriod ((a0_q.L.getD t44_27.toNat dSProfile).Periods))]]⟩) (g := fun s => chargenetlaw16_Good_l61 a0_q t44_27 (fun t44_27 => chargenetlaw16_Good_l46 F a0_q n_46 t44_27) s.1 s.2 = some r) (μ := fun s => s.1) (F, 0) h ?_)
          rintro ⟨n_61, t57_57⟩ h
          replace h : chargenetlaw16_Good_l61 a0_q t44_27 (fun t44_27 => chargenetlaw16_Good_l46 F a0_q n_46 t44_27) n_61 t57_57 = some r := h
          show SCode _ _ _ ⟨[(1, .c (.ptr 0 0)), (4, .c (.ptr 1 0)), (42, .c (.vec a0_q.L.length 11 (gL cSProfile dSProfile a0_q.L))), (43, .c (.int .i64 (((a0_q.L).length : Int)))), (44, .c (.int .i64 t44_27)), (55, .c (.vec (subL a0_q.L 0 (t44_27 : Int).toNat).length 11 (gL cSProfile dSProfile (subL a0_q.L 0 (t44_27 : Int).toNat)))), (56, .c (.int .i64 (((subL a0_q.L 0 (t44_27 : Int).toNat).length : Int)))), (57, .c (.int .i64 t57_57))], [.box [.vec a0_q.L.length 11 (gL cSProfile dSProfile a0_q.L), .int .i64 a0_q.Conn, .str a0_q.Txn, .int .i64 a0_q.Start, .int .i64 a0_q.T, .int .i64 a0_q.Length], .box [.int .i64 ((a0_q.L.getD t44_27.toNat dSProfile).ID), .int .i64 ((a0_q.L.getD t44_27.toNat dSProfile).Level), .int .i64 ((a0_q.L.getD t44_27.toNat dSProfile).Purpose), .int .i64 ((a0_q.L.getD t44_27.toNat dSProfile).Kind), .int .i64 ((a0_q.L.getD t44_27.toNat dSProfile).Conn), .str ((a0_q.L.getD t44_27.toNat dSProfile).Txn), .int .i64 ((a0_q.L.getD t44_27.toNat dSProfile).Span_From), .int .i64 ((a0_q.L.getD t44_27.toNat dSProfile).Span_To), .int .i64 ((a0_q.L.getD t44_27.toNat dSProfile).Start), .int .i64 ((a0_q.L.getD t44_27.toNat dSProfile).Duration), .vec ((a0_q.L.getD t44_27.toNat dSProfile).Periods).length 2 (gL cSPeriod dSPeriod ((a0_q.L.getD t44_27.toNat dSProfile).Periods))]]⟩ _
          cases n_61 with
          | zero => cases h
          | succ n_61 =>
            replace h : chargenetlaw16_Good_b61 a0_q t44_27 (fun t44_27 => chargenetlaw16_Good_l46 F a0_q n_46 t44_27) (fun t57_57 => chargenetlaw16_Good_l61 a0_q t44_27 (fun t44_27 => chargenetlaw16_Good_l46 F a0_q n_46 t44_27) n_61 t57_57) t57_57 = some r := h
            unfold chargenetlaw16_Good_b61 at h
            refine SCode.seq ?_
            refine SCode.region (show SOps _ _ _ [0] _ _ from ?_)
            refine SOps.q rfl (.plain rfl) rfl (q_lss rfl rfl rfl) ?_
            refine SOps.sub (st' := ⟨[(1, .c (.ptr 0 0)), (4, .c (.ptr 1 0)), (42, .c (.vec a0_q.L.length 11 (gL cSProfile dSProfile a0_q.L))), (43, .c (.int .i64 (((a0_q.L).length : Int)))), (44, .c (.int .i64 t44_27)), (55, .c (.vec (subL a0_q.L 0 (t44_27 : Int).toNat).length 11 (gL cSProfile dSProfile (subL a0_q.L 0 (t44_27 : Int).toNat)))), (56, .c (.int .i64 (((subL a0_q.L 0 (t44_27 : Int).toNat).length : Int)))), (57, .c (.int .i64 t57_57)), (58, .c (.bool (decide (t57_57 < ((subL a0_q.L 0 (t44_27 : Int).toNat).length : Int)))))], [.box [.vec a0_q.L.length 11 (gL cSProfile dSProfile a0_q.L), .int .i64 a0_q.Conn, .str a0_q.Txn, .int .i64 a0_q.Start, .int .i64 a0_q.T, .int .i64 a0_q.Length], .box [.int .i64 ((a0_q.L.getD t44_27.toNat dSProfile).ID), .int .i64 ((a0_q.L.getD t44_27.toNat dSProfile).Level), .int .i64 ((a0_q.L.getD t44_27.toNat dSProfile).Purpose), .int .i64 ((a0_q.L.getD t44_27.toNat dSProfile).Kind), .int .i64 ((a0_q.L.getD t44_27.toNat dSProfile).Conn), .str ((a0_q.L.getD t44_27.toNat dSProfile).Txn), .int .i64 ((a0_q.L.getD t44_27.toNat dSProfile).Span_From), .int .i64 ((a0_q.L.getD t44_27.toNat dSProfile).Span_To), .int .i64 ((a0_q.L.getD t44_27.toNat dSProfile).Start), .int .i64 ((a0_q.L.getD t44_27.toNat dSProfile).Duration), .vec ((a0_q.L.getD t44_27.toNat dSProfile).Periods).length 2 (gL cSPeriod dSPeriod ((a0_q.L.getD t44_27.toNat dSProfile).Periods))]]⟩) (sub_gen [0, 1] rfl rfl ⟨zc rfl rfl, zc rfl rfl, zc rfl rfl, zc rfl rfl, zc rfl rfl, zc rfl rfl, zc rfl rfl, zc rfl rfl, zc rfl rfl, trivial⟩ ⟨⟨_, rfl, ⟨ii rfl rfl, ii rfl rfl, ii rfl rfl, ii rfl rfl, ii rfl rfl, ii rfl rfl, trivial⟩⟩, ⟨_, rfl, ⟨ii rfl rfl, ii rfl rfl, ii rfl rfl, ii rfl rfl, ii rfl rfl, ii rfl rfl, ii rfl rfl, ii rfl rfl, ii rfl rfl, ii rfl rfl, ii rfl rfl, trivial⟩⟩, trivial⟩) ?_
            refine SOps.nil ?_
            refine SCode.seq ?_
            rcases cond_out h with ⟨g62, h⟩ | ⟨g62, h⟩
            · refine SCode.cond_t rfl g62 ?_
              refine SCode.skip ?_
              refine SCode.seq ?_
              refine SCode.block ?_
              refine SCode.seq ?_
              obtain ⟨g63, h⟩ := guard_out h
              refine SCode.region (show SOps _ _ _ [0, 1, 2, 3] _ _ from ?_)
              refine SOps.q rfl (.plain rfl) rfl (q_index_vec rfl rfl rfl sl22 rfl g63.1 g63.2) ?_
              refine SOps.q rfl (.plain rfl) rfl (q_load_eptr_all rfl rfl rfl ty31) ?_
              refine SOps.e rfl (.plain rfl) (e_alloc rfl rfl rfl z31) ?_
              refine SOps.e rfl (.plain rfl) (e_store_box rfl rfl rfl rfl rfl ty31 rfl rfl rfl rfl) ?_
              refine SOps.sub (st' := ⟨[(1, .c (.ptr 0 0)), (4, .c (.ptr 1 0)), (6, .c (.ptr 2 0)), (42, .c (.vec a0_q.L.length 11 (gL cSProfile dSProfile a0_q.L))), (43, .c (.int .i64 (((a0_q.L).length : Int)))), (44, .c (.int .i64 t44_27)), (55, .c (.vec (subL a0_q.L 0 (t44_27 : Int).toNat).length 11 (gL cSProfile dSProfile (subL a0_q.L 0 (t44_27 : Int).toNat)))), (56, .c (.int .i64 (((subL a0_q.L 0 (t44_27 : Int).toNat).length : Int)))), (57, .c (.int .i64 t57_57))], [.box [.vec a0_q.L.length 11 (gL cSProfile dSProfile a0_q.L), .int .i64 a0_q.Conn, .str a0_q.Txn, .int .i64 a0_q.Start, .int .i64 a0_q.T, .int .i64 a0_q.Length], .box [.int .i64 ((a0_q.L.getD t44_27.toNat dSProfile).ID), .int .i64 ((a0_q.L.getD t44_27.toNat dSProfile).Level), .int .i64 ((a0_q.L.getD t44_27.toNat dSProfile).Purpose), .int .i64 ((a0_q.L.getD t44_27.toNat dSProfile).Kind), .int .i64 ((a0_q.L.getD t44_27.toNat dSProfile).Conn), .str ((a0_q.L.getD t44_27.toNat dSProfile).Txn), .int .i64 ((a0_q.L.getD t44_27.toNat dSProfile).Span_From), .int .i64 ((a0_q.L.getD t44_27.toNat dSProfile).Span_To), .int .i64 ((a0_q.L.getD t44_27.toNat dSProfile).Start), .int .i64 ((a0_q.L.getD t44_27.toNat dSProfile).Duration), .vec ((a0_q.L.getD t44_27.toNat dSProfile).Periods).length 2 (gL cSPeriod dSPeriod ((a0_q.L.getD t44_27.toNat dSProfile).Periods))], .box [.int .i64 (((subL a0_q.L 0 (t44_27 : Int).toNat).getD t57_57.toNat dSProfile).ID), .int .i64 (((subL a0_q.L 0 (t44_27 : Int).toNat).getD t57_57.toNat dSProfile).Level), .int .i64 (((subL a0_q.L 0 (t44_27 : Int).toNat).getD t57_57.toNat dSProfile).Purpose), .int .i64 (((subL a0_q.L 0 (t44_27 : Int).toNat).getD t57_57.toNat dSProfile).Kind), .int .i64 (((subL a0_q.L 0 (t44_27 : Int).toNat).getD t57_57.toNat dSProfile).Conn), .str (((subL a0_q.L 0 (t44_27 : Int).toNat).getD t57_57.toNat dSProfile).Txn), .int .i64 (((subL a0_q.L 0 (t44_27 : Int).toNat).getD t57_57.toNat dSProfile).Span_From), .int .i64 (((subL a0_q.L 0 (t44_27 : Int).toNat).getD t57_57.toNat dSProfile).Span_To), .int .i64 (((subL a0_q.L 0 (t44_27 : Int).toNat).getD t57_57.toNat dSProfile).Start), .int .i64 (((subL a0_q.L 0 (t44_27 : Int).toNat).getD t57_57.toNat dSProfile).Duration), .vec (((subL a0_q.L 0 (t44_27 : Int).toNat).getD t57_57.toNat dSProfile).Periods).length 2 (gL cSPeriod dSPeriod (((subL a0_q.L 0 (t44_27 : Int).toNat).getD t57_57.toNat dSProfile).Periods))]]⟩) (sub_gen [0, 1, 2] rfl rfl ⟨zc rfl rfl, zc rfl rfl, zc rfl rfl, zc rfl rfl, zc rfl rfl, zc rfl rfl, zc rfl rfl, zc rfl rfl, zc rfl rfl, trivial⟩ ⟨⟨_, rfl, ⟨ii rfl rfl, ii rfl rfl, ii rfl rfl, ii rfl rfl, ii rfl rfl, ii rfl rfl, trivial⟩⟩, ⟨_, rfl, ⟨ii rfl rfl, ii rfl rfl, ii rfl rfl, ii rfl rfl, ii rfl rfl, ii rfl rfl, ii rfl rfl, ii rfl rfl, ii rfl rfl, ii rfl rfl, ii rfl rfl, trivial⟩⟩, ⟨_, rfl, ⟨ii rfl rfl, ii rfl rfl, ii rfl rfl, ii rfl rfl, ii rfl rfl, ii rfl rfl, ii rfl rfl, ii rfl rfl, ii rfl rfl, ii rfl rfl, ii rfl rfl, trivial⟩⟩, trivial⟩) ?_
              refine SOps.nil ?_
              refine SCode.seq ?_
              refine SCode.region (show SOps _ _ _ [0, 1, 2, 3, 4] _ _ from ?_)
              refine SOps.q rfl (.plain rfl) rfl (q_field_ptr rfl rfl fd31_0) ?_
              refine SOps.q rfl (.plain rfl) rfl (q_load_ptr rfl rfl rfl rfl ty3) ?_
              refine SOps.q rfl (.plain rfl) rfl (q_field_ptr rfl rfl fd31_0) ?_
              refine SOps.q rfl (.plain rfl) rfl (q_load_ptr rfl rfl rfl rfl ty3) ?_
              refine SOps.q rfl (.plain rfl) rfl (q_eql rfl rfl rfl) ?_
              refine SOps.sub (st' := ⟨[(1, .c (.ptr 0 0)), (4, .c (.ptr 1 0)), (42, .c (.vec a0_q.L.length 11 (gL cSProfile dSProfile a0_q.L))), (43, .c (.int .i64 (((a0_q.L).length : Int)))), (44, .c (.int .i64 t44_27)), (55, .c (.vec (subL a0_q.L 0 (t44_27 : Int).toNat).length 11 (gL cSProfile dSProfile (subL a0_q.L 0 (t44_27 : Int).toNat)))), (56, .c (.int .i64 (((subL a0_q.L 0 (t44_27 : Int).toNat).length : Int)))), (57, .c (.int .i64 t57_57)), (65, .c (.bool (decide (((subL a0_q.L 0 (t44_27 : Int).toNat).getD t57_57.toNat dSProfile).ID = (a0_q.L.getD t44_27.toNat dSProfile).ID))))], [.box [.vec a0_q.L.length 11 (gL cSProfile dSProfile a0_q.L), .int .i64 a0_q.Conn, .str a0_q.Txn, .int .i64 a0_q.Start, .int .i64 a0_q.T, .int .i64 a0_q.Length], .box [.int .i64 ((a0_q.L.getD t44_27.toNat dSProfile).ID), .int .i64 ((a0_q.L.getD t44_27.toNat dSProfile).Level), .int .i64 ((a0_q.L.getD t44_27.toNat dSProfile).Purpose), .int .i64 ((a0_q.L.getD t44_27.toNat dSProfile).Kind), .int .i64 ((a0_q.L.getD t44_27.toNat dSProfile).Conn), .str ((a0_q.L.getD t44_27.toNat dSProfile).Txn), .int .i64 ((a0_q.L.getD t44_27.toNat dSProfile).Span_From), .int .i64 ((a0_q.L.getD t44_27.toNat dSProfile).Span_To), .int .i64 ((a0_q.L.getD t44_27.toNat dSProfile).Start), .int .i64 ((a0_q.L.getD t44_27.toNat dSProfile).Duration), .vec ((a0_q.L.getD t44_27.toNat dSProfile).Periods).length 2 (gL cSPeriod dSPeriod ((a0_q.L.getD t44_27.toNat dSProfile).Periods))]]⟩) (sub_gen [0, 1] rfl rfl ⟨zc rfl rfl, zc rfl rfl, zc rfl rfl, zc rfl rfl, zc rfl rfl, zc rfl rfl, zc rfl rfl, zc rfl rfl, zc rfl rfl, trivial⟩ ⟨⟨_, rfl, ⟨ii rfl rfl, ii rfl rfl, ii rfl rfl, ii rfl rfl, ii rfl rfl, ii rfl rfl, trivial⟩⟩, ⟨_, rfl, ⟨ii rfl rfl, ii rfl rfl, ii rfl rfl, ii rfl rfl, ii rfl rfl, ii rfl rfl, ii rfl rfl, ii rfl rfl, ii rfl rfl, ii rfl rfl, ii rfl rfl, trivial⟩⟩, trivial⟩) ?_
              refine SOps.nil ?_
              rcases cond_out h with ⟨g64, h⟩ | ⟨g64, h⟩
              · refine SCode.cond_t rfl g64 ?_
                refine SCode.seq ?_
                refine SCode.region (show SOps _ _ _ [0] _ _ from ?_)
                refine SOps.q rfl (.plain rfl) rfl (q_assign rfl rfl) ?_
                refine SOps.sub (st' := ⟨[(2, .c (.bool false))], []⟩) (sub_gen [] rfl rfl ⟨zc rfl rfl, trivial⟩ trivial) ?_
                refine SOps.nil ?_
                refine SCode.ret ?_
                obtain rfl := Option.some.inj h
                exact ⟨⟨[(2, .c (.bool false))], []⟩, _, sub_gen [] rfl rfl ⟨zc rfl rfl, trivial⟩ trivial, resA1 (v := .c (.bool false)) rfl rfl, rfl⟩
              refine SCode.cond_f rfl g64 ?_
              refine SCode.skip ?_
              refine SCode.region (show SOps _ _ _ [0, 1] _ _ from ?_)
              refine SOps.q rfl (.plain rfl) rfl (q_add rfl rfl rfl) ?_
              refine SOps.q rfl (.plain rfl) rfl (q_move rfl rfl) ?_
              refine SOps.sub (st' := ⟨[(1, .c (.ptr 0 0)), (4, .c (.ptr 1 0)), (42, .c (.vec a0_q.L.length 11 (gL cSProfile dSProfile a0_q.L))), (43, .c (.int .i64 (((a0_q.L).length : Int)))), (44, .c (.int .i64 t44_27)), (55, .c (.vec (subL a0_q.L 0 (t44_27 : Int).toNat).length 11 (gL cSProfile dSProfile (subL a0_q.L 0 (t44_27 : Int).toNat)))), (56, .c (.int .i64 (((subL a0_q.L 0 (t44_27 : Int).toNat).length : Int)))), (57, .c (.int .i64 (IntKind.wrap .i64 (t57_57 + 1))))], [.box [.vec a0_q.L.length 11 (gL cSProfile dSProfile a0_q.L), .int .i64 a0_q.Conn, .str a0_q.Txn, .int .i64 a0_q.Start, .int .i64 a0_q.T, .int .i64 a0_q.Length], .box [.int .i64 ((a0_q.L.getD t44_27.toNat dSProfile).ID), .int .i64 ((a0_q.L.getD t44_27.toNat dSProfile).Level), .int .i64 ((a0_q.L.getD t44_27.toNat dSProfile).Purpose), .int .i64 ((a0_q.L.getD t44_27.toNat dSProfile).Kind), .int .i64 ((a0_q.L.getD t44_27.toNat dSProfile).Conn), .str ((a0_q.L.getD t44_27.toNat dSProfile).Txn), .int .i64 ((a0_q.L.getD t44_27.toNat dSProfile).Span_From), .int .i64 ((a0_q.L.getD t44_27.toNat dSProfile).Span_To), .int .i64 ((a0_q.L.getD t44_27.toNat dSProfile).Start), .int .i64 ((a0_q.L.getD t44_27.toNat dSProfile).Duration), .vec ((a0_q.L.getD t44_27.toNat dSProfile).Periods).length 2 (gL cSPeriod dSPeriod ((a0_q.L.getD t44_27.toNat dSProfile).Periods))]]⟩) (sub_gen [0, 1] rfl rfl ⟨zc rfl rfl, zc rfl rfl, zc rfl rfl, zc rfl rfl, zc rfl rfl, zc rfl rfl, zc rfl rfl, zc rfl rfl, trivial⟩ ⟨⟨_, rfl, ⟨ii rfl rfl, ii rfl rfl, ii rfl rfl, ii rfl rfl, ii rfl rfl, ii rfl rfl, trivial⟩⟩, ⟨_, rfl, ⟨ii rfl rfl, ii rfl rfl, ii rfl rfl, ii rfl rfl, ii rfl rfl, ii rfl rfl, ii rfl rfl, ii rfl rfl, ii rfl rfl, ii rfl rfl, ii rfl rfl, trivial⟩⟩, trivial⟩) ?_
              refine SOps.nil ?_
              exact ⟨(n_61, IntKind.wrap .i64 (t57_57 + 1)), h, Nat.lt_succ_self n_61, sub_gen [0, 1] rfl rfl ⟨zc rfl rfl, zc rfl rfl, zc rfl rfl, zc rfl rfl, zc rfl rfl, zc rfl rfl, zc rfl rfl, zc rfl rfl, trivial⟩ ⟨⟨_, rfl, ⟨ii rfl rfl, ii rfl rfl, ii rfl rfl, ii rfl rfl, ii rfl rfl, ii rfl rfl, trivial⟩⟩, ⟨_, rfl, ⟨ii rfl rfl, ii rfl rfl, ii rfl rfl, ii rfl rfl, ii rfl rfl, ii rfl rfl, ii rfl rfl, ii rfl rfl, ii rfl rfl, ii rfl rfl, ii rfl rfl, trivial⟩⟩, trivial⟩⟩
            refine SCode.cond_f rfl g62 ?_
            refine SCode.exit ?_
            exact ⟨(), h, sub_gen [0] rfl rfl ⟨zc rfl rfl, zc rfl rfl, zc rfl rfl, zc rfl rfl, trivial⟩ ⟨⟨_, rfl, ⟨ii rfl rfl, ii rfl rfl, ii rfl rfl, ii rfl rfl, ii rfl rfl, ii rfl rfl, trivial⟩⟩, trivial⟩⟩
        rintro ⟨⟩ h
        show SCode _ _ _ ⟨[(1, .c (.ptr 0 0)), (42, .c (.vec a0_q.L.length 11 (gL cSProfile dSProfile a0_q.L))), (43, .c (.int .i64 (((a0_q.L).length : Int)))), (44, .c (.int .i64 t44_27))], [.box [.vec a0_q.L.length 11 (gL cSProfile dSProfile a0_q.L), .int .i64 a0_q.Conn, .str a0_q.Txn, .int .i64 a0_q.Start, .int .i64 a0_q.T, .int .i64 a0_q.Length]]⟩ _
        replace h : chargenetlaw16_Good_p48 t44_27 (fun t44_27 => chargenetlaw16_Good_l46 F a0_q n_46 t44_27) = some r := h
        unfold chargenetlaw16_Good_p48 at h
        refine SCode.region (show SOps _ _ _ [0, 1] _ _ from ?_)
        refine SOps.q rfl (.plain rfl) rfl (q_add rfl rfl rfl) ?_
        refine SOps.q rfl (.plain rfl) rfl (q_move rfl rfl) ?_
        refine SOps.sub (st' := ⟨[(1, .c (.ptr 0 0)), (42, .c (.vec a0_q.L.length 11 (gL cSProfile dSProfile a0_q.L))), (43, .c (.int .i64 (((a0_q.L).length : Int)))), (44, .c (.int .i64 (IntKind.wrap .i64 (t44_27 + 1))))], [.box [.vec a0_q.L.length 11 (gL cSProfile dSProfile a0_q.L), .int .i64 a0_q.Conn, .str a0_q.Txn, .int .i64 a0_q.Start, .int .i64 a0_q.T, .int .i64 a0_q.Length]]⟩) (sub_gen [0] rfl rfl ⟨zc rfl rfl, zc rfl rfl, zc rfl rfl, zc rfl rfl, trivial⟩ ⟨⟨_, rfl, ⟨ii rfl rfl, ii rfl rfl, ii rfl rfl, ii rfl rfl, ii rfl rfl, ii rfl rfl, trivial⟩⟩, trivial⟩) ?_
        refine SOps.nil ?_
        exact ⟨(n_46, IntKind.wrap .i64 (t44_27 + 1)), h, Nat.lt_succ_self n_46, sub_gen [0] rfl rfl ⟨zc rfl rfl, zc rfl rfl, zc rfl rfl, zc rfl rfl, trivial⟩ ⟨⟨_, rfl, ⟨ii rfl rfl, ii rfl rfl, ii rfl rfl, ii rfl rfl, ii rfl rfl, ii rfl rfl, trivial⟩⟩, trivial⟩⟩
      refine SCode.cond_f rfl g47 ?_
      refine SCode.exit ?_
      exact ⟨(), h, sub_gen [] rfl rfl trivial trivial⟩
  rintro ⟨⟩ h
  show SCode _ _ _ ⟨[], []⟩ _
  replace h : chargenetlaw16_Good_p8 = some r := h
  unfold chargenetlaw16_Good_p8 at h
  refine SCode.seq ?_
  refine SCode.region (show SOps _ _ _ [0] _ _ from ?_)
  refine SOps.q rfl (.plain rfl) rfl (q_assign rfl rfl) ?_
  refine SOps.sub (st' := ⟨[(2, .c (.bool true))], []⟩) (sub_gen [] rfl rfl ⟨zc rfl rfl, trivial⟩ trivial) ?_
  refine SOps.nil ?_
  refine SCode.ret ?_
  obtain rfl := Option.some.inj h
  exact ⟨⟨[(2, .c (.bool true))], []⟩, _, sub_gen [] rfl rfl ⟨zc rfl rfl, trivial⟩ trivial, resA1 (v := .c (.bool true)) rfl rfl, rfl⟩
set_option maxRecDepth 100000 in
set_option maxHeartbeats 8000000 in
theorem profile_gap_ok (F : Nat) (a0_from : Int) (a1_to : Int) (r : Int) (h : profile_gap F a0_from a1_to = some r) :
    SFun Try.prog 41 [] [.c (.int .i64 a0_from), .c (.int .i64 a1_to)] (fun x _ => x = .c (.int .u64 r)) := by
  refine SFun.of (n := 10) Try.func41 rfl rfl rfl ?_
  unfold profile_gap at h
  show SCode _ _ _ ⟨[(0, .c (.int .i64 a0_from)), (1, .c (.int .i64 a1_to))], []⟩ _
  refine SCode.seq ?_
  refine SCode.region (show SOps _ _ _ [0] _ _ from ?_)
  refine SOps.q rfl (.plain rfl) rfl (q_assign rfl rfl) ?_
  refine SOps.sub (st' := ⟨[(0, .c (.int .i64 a0_from)), (1, .c (.int .i64 a1_to))], []⟩) (sub_gen [] rfl rfl ⟨zc rfl rfl, zc rfl rfl, trivial⟩ trivial) ?_
  refine SOps.nil ?_
  refine SCode.seq ?_
  refine SCode.region (show SOps _ _ _ [0, 1, 2, 3, 4, 5] _ _ from ?_)
  refine SOps.q rfl (.plain rfl) rfl (q_move rfl rfl) ?_
  refine SOps.q rfl (.plain rfl) rfl (q_convert rfl rfl un3 un51) ?_
  refine SOps.q rfl (.plain rfl) rfl (q_move rfl rfl) ?_
  refine SOps.q rfl (.plain rfl) rfl (q_convert rfl rfl un3 un51) ?_
  refine SOps.q rfl (.plain rfl) rfl (q_sub rfl rfl rfl) ?_
  refine SOps.q rfl (.plain rfl) rfl (q_assign rfl rfl) ?_
  refine SOps.sub (st' := ⟨[(4, .c (.int .u64 (IntKind.wrap .u64 (IntKind.wrap .u64 a1_to - IntKind.wrap .u64 a0_from))))], []⟩) (sub_gen [] rfl rfl ⟨zc rfl rfl, trivial⟩ trivial) ?_
  refine SOps.nil ?_
  refine SCode.ret ?_
  obtain rfl := Option.some.inj h
  exact ⟨⟨[(4, .c (.int .u64 (IntKind.wrap .u64 (IntKind.wrap .u64 a1_to - IntKind.wrap .u64 a0_from))))], []⟩, _, sub_gen [] rfl rfl ⟨zc rfl rfl, trivial⟩ trivial, resA1 (v := .c (.int .u64 (IntKind.wrap .u64 (IntKind.wrap .u64 a1_to - IntKind.wrap .u64 a0_from)))) rfl rfl, rfl⟩
set_option maxRecDepth 100000 in
set_option maxHeartbeats 8000000 in
theorem profile_first_ok (F : Nat) (a0_p : SProfile) (a1_start : Int) (r : Int) (h : profile_first F a0_p a1_start = some r) :
    SFun Try.prog 45 [] [.a [.int .i64 a0_p.ID, .int .i64 a0_p.Level, .int .i64 a0_p.Purpose, .int .i64 a0_p.Kind, .int .i64 a0_p.Conn, .str a0_p.Txn, .int .i64 a0_p.Span_From, .int .i64 a0_p.Span_To, .int .i64 a0_p.Start, .int .i64 a0_p.Duration, .vec a0_p.Periods.length 2 (gL cSPeriod dSPeriod a0_p.Periods)], .c (.int .i64 a1_start)] (fun x _ => x = .c (.int .i64 r)) := by
  refine SFun.of (n := 11) Try.func45 rfl rfl rfl ?_
  unfold profile_first at h
  show SCode _ _ _ ⟨[(0, .a [.int .i64 a0_p.ID, .int .i64 a0_p.Level, .int .i64 a0_p.Purpose, .int .i64 a0_p.Kind, .int .i64 a0_p.Conn, .str a0_p.Txn, .int .i64 a0_p.Span_From, .int .i64 a0_p.Span_To, .int .i64 a0_p.Start, .int .i64 a0_p.Duration, .vec a0_p.Periods.length 2 (gL cSPeriod dSPeriod a0_p.Periods)]), (1, .c (.int .i64 a1_start))], []⟩ _
  refine SCode.seq ?_
  refine SCode.region (show SOps _ _ _ [0, 1] _ _ from ?_)
  refine SOps.e rfl (.plain rfl) (e_box rfl rfl rfl rfl rfl rfl) ?_
  refine SOps.q rfl (.plain rfl) rfl (q_assign rfl rfl) ?_
  refine SOps.sub (st' := ⟨[(1, .c (.int .i64 a1_start)), (2, .c (.ptr 0 0))], [.box [.int .i64 a0_p.ID, .int .i64 a0_p.Level, .int .i64 a0_p.Purpose, .int .i64 a0_p.Kind, .int .i64 a0_p.Conn, .str a0_p.Txn, .int .i64 a0_p.Span_From, .int .i64 a0_p.Span_To, .int .i64 a0_p.Start, .int .i64 a0_p.Duration, .vec a0_p.Periods.length 2 (gL cSPeriod dSPeriod a0_p.Periods)]]⟩) (sub_gen [0] rfl rfl ⟨zc rfl rfl, zc rfl rfl, trivial⟩ ⟨⟨_, rfl, ⟨ii rfl rfl, ii rfl rfl, ii rfl rfl, ii rfl rfl, ii rfl rfl, ii rfl rfl, ii rfl rfl, ii rfl rfl, ii rfl rfl, ii rfl rfl, ii rfl rfl, trivial⟩⟩, trivial⟩) ?_
  refine SOps.nil ?_
  refine SCode.seq ?_
  refine SCode.seq ?_
  refine SCode.region (show SOps _ _ _ [0, 1, 2] _ _ from ?_)
  refine SOps.q rfl (.plain rfl) rfl (q_field_ptr rfl rfl fd31_3) ?_
  refine SOps.q rfl (.plain rfl) rfl (q_load_ptr rfl rfl rfl rfl ty3) ?_
  refine SOps.q rfl (.plain rfl) rfl (q_eql rfl rfl rfl) ?_
  refine SOps.sub (st' := ⟨[(1, .c (.int .i64 a1_start)), (2, .c (.ptr 0 0)), (7, .c (.bool (decide (a0_p.Kind = 4))))], [.box [.int .i64 a0_p.ID, .int .i64 a0_p.Level, .int .i64 a0_p.Purpose, .int .i64 a0_p.Kind, .int .i64 a0_p.Conn, .str a0_p.Txn, .int .i64 a0_p.Span_From, .int .i64 a0_p.Span_To, .int .i64 a0_p.Start, .int .i64 a0_p.Duration, .vec a0_p.Periods.length 2 (gL cSPeriod dSPeriod a0_p.Periods)]]⟩) (sub_gen [0] rfl rfl ⟨zc rfl rfl, zc rfl rfl, zc rfl rfl, trivial⟩ ⟨⟨_, rfl, ⟨ii rfl rfl, ii rfl rfl, ii rfl rfl, ii rfl rfl, ii rfl rfl, ii rfl rfl, ii rfl rfl, ii rfl rfl, ii rfl rfl, ii rfl rfl, ii rfl rfl, trivial⟩⟩, trivial⟩) ?_
  refine SOps.nil ?_
  rcases cond_out h with ⟨g1, h⟩ | ⟨g1, h⟩
  · refine SCode.cond_t rfl g1 ?_
    refine SCode.seq ?_
    refine SCode.region (show SOps _ _ _ [0, 1] _ _ from ?_)
    refine SOps.q rfl (.plain rfl) rfl (q_move rfl rfl) ?_
    refine SOps.q rfl (.plain rfl) rfl (q_assign rfl rfl) ?_
    refine SOps.sub (st' := ⟨[(4, .c (.int .i64 a1_start))], []⟩) (sub_gen [] rfl rfl ⟨zc rfl rfl, trivial⟩ trivial) ?_
    refine SOps.nil ?_
    refine SCode.ret ?_
    obtain rfl := Option.some.inj h
    exact ⟨⟨[(4, .c (.int .i64 a1_start))], []⟩, _, sub_gen [] rfl rfl ⟨zc rfl rfl, trivial⟩ trivial, resA1 (v := .c (.int .i64 a1_start)) rfl rfl, rfl⟩
  refine SCode.cond_f rfl g1 ?_
  refine SCode.skip ?_
  refine SCode.seq ?_
  refine SCode.region (show SOps _ _ _ [0, 1, 2] _ _ from ?_)
  refine SOps.q rfl (.plain rfl) rfl (q_field_ptr rfl rfl fd31_7) ?_
  refine SOps.q rfl (.plain rfl) rfl (q_load_ptr rfl rfl rfl rfl ty3) ?_
  refine SOps.q rfl (.plain rfl) rfl (q_assign rfl rfl) ?_
  refine SOps.sub (st' := ⟨[(4, .c (.int .i64 a0_p.Start))], []⟩) (sub_gen [] rfl rfl ⟨zc rfl rfl, trivial⟩ trivial) ?_
  refine SOps.nil ?_
  refine SCode.ret ?_
  obtain rfl := Option.some.inj h
  exact ⟨⟨[(4, .c (.int .i64 a0_p.Start))], []⟩, _, sub_gen [] rfl rfl ⟨zc rfl rfl, trivial⟩ trivial, resA1 (v := .c (.int .i64 a0_p.Start)) rfl rfl, rfl⟩
set_option maxRecDepth 100000 in
set_option maxHeartbeats 8000000 in
theorem profile_cycle_ok (F : Nat) (a0_kind : Int) (r : Int) (h : profile_cycle F a0_kind = some r) :
    SFun Try.prog 46 [] [.c (.int .i64 a0_kind)] (fun x _ => x = .c (.int .i64 r)) := by
  refine SFun.of (n := 15) Try.func46 rfl rfl rfl ?_
  unfold profile_cycle at h
  show SCode _ _ _ ⟨[(0, .c (.int .i64 a0_kind))], []⟩ _
  refine SCode.seq ?_
  refine SCode.region (show SOps _ _ _ [0] _ _ from ?_)
  refine SOps.q rfl (.plain rfl) rfl (q_assign rfl rfl) ?_
  refine SOps.sub (st' := ⟨[(0, .c (.int .i64 a0_kind))], []⟩) (sub_gen [] rfl rfl ⟨zc rfl rfl, trivial⟩ trivial) ?_
  refine SOps.nil ?_
  refine SCode.seq ?_
  refine SCode.region (show SOps _ _ _ [0] _ _ from ?_)
  refine SOps.q rfl (.plain rfl) rfl (q_assign rfl rfl) ?_
  refine SOps.sub (st' := ⟨[(0, .c (.int .i64 a0_kind)), (3, .c (.int .i64 0))], []⟩) (sub_gen [] rfl rfl ⟨zc rfl rfl, zc rfl rfl, trivial⟩ trivial) ?_
  refine SOps.nil ?_
  refine SCode.join (σ := Int) (S := fun s => ⟨[(3, .c (.int .i64 s))], []⟩) (g := fun s => profile_cycle_p2 s = some r) ?_ ?_
  rotate_left
  · refine SCode.seq ?_
    refine SCode.region (show SOps _ _ _ [0] _ _ from ?_)
    refine SOps.q rfl (.plain rfl) rfl (q_move rfl rfl) ?_
    refine SOps.sub (st' := ⟨[(3, .c (.int .i64 0)), (4, .c (.int .i64 a0_kind))], []⟩) (sub_gen [] rfl rfl ⟨zc rfl rfl, zc rfl rfl, trivial⟩ trivial) ?_
    refine SOps.nil ?_
    refine SCode.block ?_
    refine SCode.join (σ := Int) (S := fun s => ⟨[(3, .c (.int .i64 s))], []⟩) (g := fun s => profile_cycle_p4 s = some r) ?_ ?_
    rotate_left
    · refine SCode.block ?_
      refine SCode.join (σ := Unit) (S := fun s => ⟨[(3, .c (.int .i64 0))], []⟩) (g := fun s => profile_cycle_p5 = some r) ?_ ?_
      rotate_left
      · refine SCode.block ?_
        refine SCode.seq ?_
        refine SCode.seq ?_
        refine SCode.seq ?_
        refine SCode.region (show SOps _ _ _ [0, 1] _ _ from ?_)
        refine SOps.q rfl (.plain rfl) rfl (q_eql rfl rfl rfl) ?_
        refine SOps.q rfl (.plain rfl) rfl (q_assign rfl rfl) ?_
        refine SOps.sub (st' := ⟨[(3, .c (.int .i64 0)), (4, .c (.int .i64 a0_kind)), (5, .c (.bool (decide (a0_kind = 3))))], []⟩) (sub_gen [] rfl rfl ⟨zc rfl rfl, zc rfl rfl, zc rfl rfl, trivial⟩ trivial) ?_
        refine SOps.nil ?_
        rcases cond_out h with ⟨g6, h⟩ | ⟨g6, h⟩
        · refine SCode.cond_t rfl g6 ?_
          refine SCode.exit ?_
          exact ⟨(), h, sub_gen [] rfl rfl ⟨zc rfl rfl, trivial⟩ trivial⟩
        refine SCode.cond_f rfl g6 ?_
        refine SCode.skip ?_
        refine SCode.seq ?_
        refine SCode.region (show SOps _ _ _ [0, 1] _ _ from ?_)
        refine SOps.q rfl (.plain rfl) rfl (q_eql rfl rfl rfl) ?_
        refine SOps.q rfl (.plain rfl) rfl (q_assign rfl rfl) ?_
        refine SOps.sub (st' := ⟨[(3, .c (.int .i64 0)), (7, .c (.bool (decide (a0_kind = 2))))], []⟩) (sub_gen [] rfl rfl ⟨zc rfl rfl, zc rfl rfl, trivial⟩ trivial) ?_
        refine SOps.nil ?_
        rcases cond_out h with ⟨g7, h⟩ | ⟨g7, h⟩
        · refine SCode.cond_t rfl g7 ?_
          refine SCode.exit ?_
          exact ⟨0, h, sub_gen [] rfl rfl ⟨zc rfl rfl, trivial⟩ trivial⟩
        refine SCode.cond_f rfl g7 ?_
        refine SCode.skip ?_
        refine SCode.exit ?_
        exact ⟨0, h, sub_gen [] rfl rfl ⟨zc rfl rfl, trivial⟩ trivial⟩
      rintro ⟨⟩ h
      show SCode _ _ _ ⟨[(3, .c (.int .i64 0))], []⟩ _
      replace h : profile_cycle_p5 = some r := h
      unfold profile_cycle_p5 at h
      refine SCode.region (show SOps _ _ _ [0, 1, 2] _ _ from ?_)
      refine SOps.q rfl (.plain rfl) rfl (q_move rfl rfl) ?_
      refine SOps.q rfl (.plain rfl) rfl (q_add rfl rfl rfl) ?_
      refine SOps.q rfl (.plain rfl) rfl (q_assign rfl rfl) ?_
      refine SOps.sub (st' := ⟨[(3, .c (.int .i64 (IntKind.wrap .i64 (0 + 6))))], []⟩) (sub_gen [] rfl rfl ⟨zc rfl rfl, trivial⟩ trivial) ?_
      refine SOps.nil ?_
      exact ⟨IntKind.wrap .i64 (0 + 6), h, sub_gen [] rfl rfl ⟨zc rfl rfl, trivial⟩ trivial⟩
    rintro days_3 h
    show SCode _ _ _ ⟨[(3, .c (.int .i64 days_3))], []⟩ _
    replace h : profile_cycle_p4 days_3 = some r := h
    unfold profile_cycle_p4 at h
    refine SCode.seq ?_
    refine SCode.region (show SOps _ _ _ [0, 1, 2] _ _ from ?_)
    refine SOps.q rfl (.plain rfl) rfl (q_move rfl rfl) ?_
    refine SOps.q rfl (.plain rfl) rfl (q_add rfl rfl rfl) ?_
    refine SOps.q rfl (.plain rfl) rfl (q_assign rfl rfl) ?_
    refine SOps.sub (st' := ⟨[(3, .c (.int .i64 (IntKind.wrap .i64 (days_3 + 1))))], []⟩) (sub_gen [] rfl rfl ⟨zc rfl rfl, trivial⟩ trivial) ?_
    refine SOps.nil ?_
    refine SCode.exit ?_
    exact ⟨IntKind.wrap .i64 (days_3 + 1), h, sub_gen [] rfl rfl ⟨zc rfl rfl, trivial⟩ trivial⟩
  rintro days_1 h
  show SCode _ _ _ ⟨[(3, .c (.int .i64 days_1))], []⟩ _
  replace h : profile_cycle_p2 days_1 = some r := h
  unfold profile_cycle_p2 at h
  refine SCode.seq ?_
  refine SCode.region (show SOps _ _ _ [0, 1, 2] _ _ from ?_)
  refine SOps.q rfl (.plain rfl) rfl (q_move rfl rfl) ?_
  refine SOps.q rfl (.plain rfl) rfl (q_mul rfl rfl rfl) ?_
  refine SOps.q rfl (.plain rfl) rfl (q_assign rfl rfl) ?_
  refine SOps.sub (st' := ⟨[(2, .c (.int .i64 (IntKind.wrap .i64 (days_1 * 1440))))], []⟩) (sub_gen [] rfl rfl ⟨zc rfl rfl, trivial⟩ trivial) ?_
  refine SOps.nil ?_
  refine SCode.ret ?_
  obtain rfl := Option.some.inj h
  exact ⟨⟨[(2, .c (.int .i64 (IntKind.wrap .i64 (days_1 * 1440))))], []⟩, _, sub_gen [] rfl rfl ⟨zc rfl rfl, trivial⟩ trivial, resA1 (v := .c (.int .i64 (IntKind.wrap .i64 (days_1 * 1440)))) rfl rfl, rfl⟩
set_option maxRecDepth 100000 in
set_option maxHeartbeats 8000000 in
theorem profile_origin_ok (F : Nat) (a0_p : SProfile) (a1_start : Int) (a2_t : Int) (r : Int × Bool) (h : profile_origin F a0_p a1_start a2_t = some r) :
    SFun Try.prog 40 [] [.a [.int .i64 a0_p.ID, .int .i64 a0_p.Level, .int .i64 a0_p.Purpose, .int .i64 a0_p.Kind, .int .i64 a0_p.Conn, .str a0_p.Txn, .int .i64 a0_p.Span_From, .int .i64 a0_p.Span_To, .int .i64 a0_p.Start, .int .i64 a0_p.Duration, .vec a0_p.Periods.length 2 (gL cSPeriod dSPeriod a0_p.Periods)], .c (.int .i64 a1_start), .c (.int .i64 a2_t)] (fun x _ => x = .t [.c (.int .i64 r.1), .c (.bool r.2)]) := by
  refine SFun.of (n := 31) Try.func40 rfl rfl rfl ?_
  unfold profile_origin at h
  show SCode _ _ _ ⟨[(0, .a [.int .i64 a0_p.ID, .int .i64 a0_p.Level, .int .i64 a0_p.Purpose, .int .i64 a0_p.Kind, .int .i64 a0_p.Conn, .str a0_p.Txn, .int .i64 a0_p.Span_From, .int .i64 a0_p.Span_To, .int .i64 a0_p.Start, .int .i64 a0_p.Duration, .vec a0_p.Periods.length 2 (gL cSPeriod dSPeriod a0_p.Periods)]), (1, .c (.int .i64 a1_start)), (2, .c (.int .i64 a2_t))], []⟩ _
  refine SCode.seq ?_
  refine SCode.region (show SOps _ _ _ [0, 1, 2] _ _ from ?_)
  refine SOps.e rfl (.plain rfl) (e_box rfl rfl rfl rfl rfl rfl) ?_
  refine SOps.q rfl (.plain rfl) rfl (q_assign rfl rfl) ?_
  refine SOps.q rfl (.plain rfl) rfl (q_assign rfl rfl) ?_
  refine SOps.sub (st' := ⟨[(1, .c (.int .i64 a1_start)), (2, .c (.int .i64 a2_t)), (3, .c (.ptr 0 0))], [.box [.int .i64 a0_p.ID, .int .i64 a0_p.Level, .int .i64 a0_p.Purpose, .int .i64 a0_p.Kind, .int .i64 a0_p.Conn, .str a0_p.Txn, .int .i64 a0_p.Span_From, .int .i64 a0_p.Span_To, .int .i64 a0_p.Start, .int .i64 a0_p.Duration, .vec a0_p.Periods.length 2 (gL cSPeriod dSPeriod a0_p.Periods)]]⟩) (sub_gen [0] rfl rfl ⟨zc rfl rfl, zc rfl rfl, zc rfl rfl, trivial⟩ ⟨⟨_, rfl, ⟨ii rfl rfl, ii rfl rfl, ii rfl rfl, ii rfl rfl, ii rfl rfl, ii rfl rfl, ii rfl rfl, ii rfl rfl, ii rfl rfl, ii rfl rfl, ii rfl rfl, trivial⟩⟩, trivial⟩) ?_
  refine SOps.nil ?_
  refine SCode.seq ?_
  obtain ⟨c_1, g2, h⟩ := bind_out h
  try dsimp only at h
  refine SCode.region (show SOps _ _ _ [0, 1, 2, 3] _ _ from ?_)
  refine SOps.q rfl (.plain rfl) rfl (q_load_ptr_all rfl rfl rfl rfl rfl ty31) ?_
  refine SOps.q rfl (.plain rfl) rfl (q_move rfl rfl) ?_
  refine SOps.q rfl (.plain rfl) rfl (q_call (profile_first_ok F a0_p a1_start c_1 g2) [] rfl fn45 ⟨⟨rfl, rfl⟩, ⟨_, rfl, .inl ⟨rfl, rfl⟩⟩, trivial⟩ (.inl rfl)) ?_
  refine SOps.q rfl (.plain rfl) rfl (q_assign rfl rfl) ?_
  refine SOps.sub (st' := ⟨[(2, .c (.int .i64 a2_t)), (3, .c (.ptr 0 0)), (8, .c (.int .i64 c_1))], [.box [.int .i64 a0_p.ID, .int .i64 a0_p.Level, .int .i64 a0_p.Purpose, .int .i64 a0_p.Kind, .int .i64 a0_p.Conn, .str a0_p.Txn, .int .i64 a0_p.Span_From, .int .i64 a0_p.Span_To, .int .i64 a0_p.Start, .int .i64 a0_p.Duration, .vec a0_p.Periods.length 2 (gL cSPeriod dSPeriod a0_p.Periods)]]⟩) (sub_gen [0] rfl rfl ⟨zc rfl rfl, zc rfl rfl, zc rfl rfl, trivial⟩ ⟨⟨_, rfl, ⟨ii rfl rfl, ii rfl rfl, ii rfl rfl, ii rfl rfl, ii rfl rfl, ii rfl rfl, ii rfl rfl, ii rfl rfl, ii rfl rfl, ii rfl rfl, ii rfl rfl, trivial⟩⟩, trivial⟩) ?_
  refine SOps.nil ?_
  refine SCode.seq ?_
  refine SCode.seq ?_
  refine SCode.region (show SOps _ _ _ [0, 1, 2] _ _ from ?_)
  refine SOps.q rfl (.plain rfl) rfl (q_move rfl rfl) ?_
  refine SOps.q rfl (.plain rfl) rfl (q_move rfl rfl) ?_
  refine SOps.q rfl (.plain rfl) rfl (q_gtr rfl rfl rfl) ?_
  refine SOps.sub (st' := ⟨[(2, .c (.int .i64 a2_t)), (3, .c (.ptr 0 0)), (8, .c (.int .i64 c_1)), (15, .c (.bool (decide (a2_t < c_1))))], [.box [.int .i64 a0_p.ID, .int .i64 a0_p.Level, .int .i64 a0_p.Purpose, .int .i64 a0_p.Kind, .int .i64 a0_p.Conn, .str a0_p.Txn, .int .i64 a0_p.Span_From, .int .i64 a0_p.Span_To, .int .i64 a0_p.Start, .int .i64 a0_p.Duration, .vec a0_p.Periods.length 2 (gL cSPeriod dSPeriod a0_p.Periods)]]⟩) (sub_gen [0] rfl rfl ⟨zc rfl rfl, zc rfl rfl, zc rfl rfl, zc rfl rfl, trivial⟩ ⟨⟨_, rfl, ⟨ii rfl rfl, ii rfl rfl, ii rfl rfl, ii rfl rfl, ii rfl rfl, ii rfl rfl, ii rfl rfl, ii rfl rfl, ii rfl rfl, ii rfl rfl, ii rfl rfl, trivial⟩⟩, trivial⟩) ?_
  refine SOps.nil ?_
  rcases cond_out h with ⟨g3, h⟩ | ⟨g3, h⟩
  · refine SCode.cond_t rfl g3 ?_
    refine SCode.seq ?_
    refine SCode.region (show SOps _ _ _ [0, 1] _ _ from ?_)
    refine SOps.q rfl (.plain rfl) rfl (q_assign rfl rfl) ?_
    refine SOps.q rfl (.plain rfl) rfl (q_assign rfl rfl) ?_
    refine SOps.sub (st' := ⟨[(6, .c (.int .i64 0)), (7, .c (.bool false))], []⟩) (sub_gen [] rfl rfl ⟨zc rfl rfl, zc rfl rfl, trivial⟩ trivial) ?_
    refine SOps.nil ?_
    refine SCode.ret ?_
    obtain rfl := Option.some.inj h
    exact ⟨⟨[(6, .c (.int .i64 0)), (7, .c (.bool false))], []⟩, _, sub_gen [] rfl rfl ⟨zc rfl rfl, zc rfl rfl, trivial⟩ trivial, resA2 (v1 := .c (.int .i64 0)) (v2 := .c (.bool false)) rfl rfl rfl, rfl⟩
  refine SCode.cond_f rfl g3 ?_
  refine SCode.skip ?_
  refine SCode.join (σ := Int) (S := fun s => ⟨[(8, .c (.int .i64 s))], []⟩) (g := fun s => profile_origin_p5 s = some r) ?_ ?_
  rotate_left
  · refine SCode.seq ?_
    obtain ⟨c_6, g7, h⟩ := bind_out h
    try dsimp only at h
    refine SCode.region (show SOps _ _ _ [0, 1, 2, 3] _ _ from ?_)
    refine SOps.q rfl (.plain rfl) rfl (q_field_ptr rfl rfl fd31_3) ?_
    refine SOps.q rfl (.plain rfl) rfl (q_load_ptr rfl rfl rfl rfl ty3) ?_
    refine SOps.q rfl (.plain rfl) rfl (q_call (profile_cycle_ok F a0_p.Kind c_6 g7) [] rfl fn46 ⟨⟨_, rfl, .inl ⟨rfl, rfl⟩⟩, trivial⟩ (.inl rfl)) ?_
    refine SOps.q rfl (.plain rfl) rfl (q_assign rfl rfl) ?_
    refine SOps.sub (st' := ⟨[(2, .c (.int .i64 a2_t)), (8, .c (.int .i64 c_1)), (9, .c (.int .i64 c_6))], []⟩) (sub_gen [] rfl rfl ⟨zc rfl rfl, zc rfl rfl, zc rfl rfl, trivial⟩ trivial) ?_
    refine SOps.nil ?_
    refine SCode.seq ?_
    refine SCode.region (show SOps _ _ _ [0, 1] _ _ from ?_)
    refine SOps.q rfl (.plain rfl) rfl (q_move rfl rfl) ?_
    refine SOps.q rfl (.plain rfl) rfl (q_gtr rfl rfl rfl) ?_
    refine SOps.sub (st' := ⟨[(2, .c (.int .i64 a2_t)), (8, .c (.int .i64 c_1)), (9, .c (.int .i64 c_6)), (20, .c (.bool (decide (0 < c_6))))], []⟩) (sub_gen [] rfl rfl ⟨zc rfl rfl, zc rfl rfl, zc rfl rfl, zc rfl rfl, trivial⟩ trivial) ?_
    refine SOps.nil ?_
    rcases cond_out h with ⟨g8, h⟩ | ⟨g8, h⟩
    · refine SCode.cond_t rfl g8 ?_
      obtain ⟨c_9, g10, h⟩ := bind_out h
      try dsimp only at h
      obtain ⟨g11, h⟩ := guard_out h
      refine SCode.region (show SOps _ _ _ [0, 1, 2, 3, 4, 5, 6, 7, 8, 9] _ _ from ?_)
      refine SOps.q rfl (.plain rfl) rfl (q_move rfl rfl) ?_
      refine SOps.q rfl (.plain rfl) rfl (q_move rfl rfl) ?_
      refine SOps.q rfl (.plain rfl) rfl (q_move rfl rfl) ?_
      refine SOps.q rfl (.plain rfl) rfl (q_call (profile_gap_ok F c_1 a2_t c_9 g10) [] rfl fn41 ⟨⟨_, rfl, .inl ⟨rfl, rfl⟩⟩, ⟨_, rfl, .inl ⟨rfl, rfl⟩⟩, trivial⟩ (.inl rfl)) ?_
      refine SOps.q rfl (.plain rfl) rfl (q_move rfl rfl) ?_
      refine SOps.q rfl (.plain rfl) rfl (q_convert rfl rfl un3 un51) ?_
      refine SOps.q rfl (.plain rfl) rfl (q_rem rfl rfl rfl g11) ?_
      refine SOps.q rfl (.plain rfl) rfl (q_convert rfl rfl un51 un3) ?_
      refine SOps.q rfl (.plain rfl) rfl (q_sub rfl rfl rfl) ?_
      refine SOps.q rfl (.plain rfl) rfl (q_assign rfl rfl) ?_
      refine SOps.sub (st' := ⟨[(8, .c (.int .i64 (IntKind.wrap .i64 (a2_t - IntKind.wrap .i64 (Int.tmod c_9 (IntKind.wrap .u64 c_6))))))], []⟩) (sub_gen [] rfl rfl ⟨zc rfl rfl, trivial⟩ trivial) ?_
      refine SOps.nil ?_
      exact ⟨IntKind.wrap .i64 (a2_t - IntKind.wrap .i64 (Int.tmod c_9 (IntKind.wrap .u64 c_6))), h, sub_gen [] rfl rfl ⟨zc rfl rfl, trivial⟩ trivial⟩
    refine SCode.cond_f rfl g8 ?_
    refine SCode.skip ?_
    exact ⟨c_1, h, sub_gen [] rfl rfl ⟨zc rfl rfl, trivial⟩ trivial⟩
  rintro o_4 h
  show SCode _ _ _ ⟨[(8, .c (.int .i64 o_4))], []⟩ _
  replace h : profile_origin_p5 o_4 = some r := h
  unfold profile_origin_p5 at h
  refine SCode.seq ?_
  refine SCode.region (show SOps _ _ _ [0, 1, 2] _ _ from ?_)
  refine SOps.q rfl (.plain rfl) rfl (q_move rfl rfl) ?_
  refine SOps.q rfl (.plain rfl) rfl (q_assign rfl rfl) ?_
  refine SOps.q rfl (.plain rfl) rfl (q_assign rfl rfl) ?_
  refine SOps.sub (st' := ⟨[(6, .c (.int .i64 o_4)), (7, .c (.bool true))], []⟩) (sub_gen [] rfl rfl ⟨zc rfl rfl, zc rfl rfl, trivial⟩ trivial) ?_
  refine SOps.nil ?_
  refine SCode.ret ?_
  obtain rfl := Option.some.inj h
  exact ⟨⟨[(6, .c (.int .i64 o_4)), (7, .c (.bool true))], []⟩, _, sub_gen [] rfl rfl ⟨zc rfl rfl, zc rfl rfl, trivial⟩ trivial, resA2 (v1 := .c (.int .i64 o_4)) (v2 := .c (.bool true)) rfl rfl rfl, rfl⟩
end Go.Proofs.Ytjpooimkhkhgkaa.W
