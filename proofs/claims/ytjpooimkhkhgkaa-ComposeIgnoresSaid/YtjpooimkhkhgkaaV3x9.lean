/- Written by a program of ours (wip/eng/gen.py): the functions compute their models. -/
import Derived.Test.YtjpooimkhkhgkaaFacts
import Derived.Test.YtjpooimkhkhgkaaV3x8
namespace Go.Proofs.Ytjpooimkhkhgkaa.W
open Go Go.Proofs Go.Proofs.Ytjpooimkhkhgkaa.E Go.Proofs.Ytjpooimkhkhgkaa.M
set_option linter.unusedVariables false
set_option maxRecDepth 100000 in
set_option maxHeartbeats 8000000 in
theorem chargenetlaw16_ComposeIgnores_ok (F : Nat) (a0_q : SQuery) (a1_i : Int) (r : Bool) (h : chargenetlaw16_ComposeIgnores F a0_q a1_i = some r) :
    SFun Try.prog 3 [] [.a [.vec a0_q.L.length 11 (gL cSProfile dSProfile a0_q.L), .int .i64 a0_q.Conn, .str a0_q.Txn, .int .i64 a0_q.Start, .int .i64 a0_q.T, .int .i64 a0_q.Length], .c (.int .u8 a1_i)] (fun x _ => x = .c (.bool r)) := by
  refine SFun.of (n := 102) Try.func3 rfl rfl rfl ?_
  unfold chargenetlaw16_ComposeIgnores at h
  show SCode _ _ _ ⟨[(0, .a [.vec a0_q.L.length 11 (gL cSProfile dSProfile a0_q.L), .int .i64 a0_q.Conn, .str a0_q.Txn, .int .i64 a0_q.Start, .int .i64 a0_q.T, .int .i64 a0_q.Length]), (1, .c (.int .u8 a1_i))], []⟩ _
  refine SCode.seq ?_
  refine SCode.region (show SOps _ _ _ [0, 1] _ _ from ?_)
  refine SOps.e rfl (.plain rfl) (e_box rfl rfl rfl rfl rfl rfl) ?_
  refine SOps.q rfl (.plain rfl) rfl (q_assign rfl rfl) ?_
  refine SOps.sub (st' := ⟨[(1, .c (.int .u8 a1_i)), (2, .c (.ptr 0 0))], [.box [.vec a0_q.L.length 11 (gL cSProfile dSProfile a0_q.L), .int .i64 a0_q.Conn, .str a0_q.Txn, .int .i64 a0_q.Start, .int .i64 a0_q.T, .int .i64 a0_q.Length]]⟩) (sub_gen [0] rfl rfl ⟨zc rfl rfl, zc rfl rfl, trivial⟩ ⟨⟨_, rfl, ⟨ii rfl rfl, ii rfl rfl, ii rfl rfl, ii rfl rfl, ii rfl rfl, ii rfl rfl, trivial⟩⟩, trivial⟩) ?_
  refine SOps.nil ?_
  refine SCode.seq ?_
  refine SCode.seq ?_
  obtain ⟨c_1, g2, h⟩ := bind_out h
  try dsimp only at h
  rcases cond_out h with ⟨g3, h⟩ | ⟨g3, h⟩
  · refine SCode.region (show SOps _ _ _ [0, 1, 2, 3, 4, 5, 6, 7, 8] _ _ from ?_)
    refine SOps.q rfl (.plain rfl) rfl (q_load_ptr_all rfl rfl rfl rfl rfl ty24) ?_
    refine SOps.q rfl (.plain rfl) rfl (q_call (chargenetlaw16_Good_ok F a0_q c_1 g2) [] rfl fn8 ⟨⟨rfl, rfl⟩, trivial⟩ (.inl rfl)) ?_
    refine SOps.q rfl (.plain rfl) rfl (q_not rfl rfl) ?_
    refine SOps.q rfl (.plain rfl) rfl (q_move rfl rfl) ?_
    refine SOps.skip rfl 3 13 false rfl rfl (.inl (gT g3)) rfl ?_
    refine SOps.skip rfl 3 13 false rfl rfl (.inl (gT g3)) rfl ?_
    refine SOps.skip rfl 3 13 false rfl rfl (.inl (gT g3)) rfl ?_
    refine SOps.skip rfl 3 13 false rfl rfl (.inl (gT g3)) rfl ?_
    refine SOps.q rfl (.plain rfl) rfl (q_pick_t rfl rfl g3 rfl) ?_
    refine SOps.sub (st' := ⟨[(1, .c (.int .u8 a1_i)), (2, .c (.ptr 0 0)), (18, .c (.bool true))], [.box [.vec a0_q.L.length 11 (gL cSProfile dSProfile a0_q.L), .int .i64 a0_q.Conn, .str a0_q.Txn, .int .i64 a0_q.Start, .int .i64 a0_q.T, .int .i64 a0_q.Length]]⟩) (sub_gen [0] rfl rfl ⟨zc rfl rfl, zc rfl rfl, zc rfl rfl, trivial⟩ ⟨⟨_, rfl, ⟨ii rfl rfl, ii rfl rfl, ii rfl rfl, ii rfl rfl, ii rfl rfl, ii rfl rfl, trivial⟩⟩, trivial⟩) ?_
    refine SOps.nil ?_
    refine SCode.cond_t rfl rfl ?_
    refine SCode.seq ?_
    obtain ⟨c_4, g5, h⟩ := bind_out h
    try dsimp only at h
    refine SCode.region (show SOps _ _ _ [0, 1] _ _ from ?_)
    refine SOps.q rfl (.plain rfl) rfl (q_call (chargenetlaw16_exampleHolds_ok F  c_4 g5) [] rfl fn9 trivial (.inl rfl)) ?_
    refine SOps.q rfl (.plain rfl) rfl (q_assign rfl rfl) ?_
    refine SOps.sub (st' := ⟨[(4, .c (.bool c_4))], []⟩) (sub_gen [] rfl rfl ⟨zc rfl rfl, trivial⟩ trivial) ?_
    refine SOps.nil ?_
    refine SCode.ret ?_
    obtain rfl := Option.some.inj h
    exact ⟨⟨[(4, .c (.bool c_4))], []⟩, _, sub_gen [] rfl rfl ⟨zc rfl rfl, trivial⟩ trivial, resA1 (v := .c (.bool c_4)) rfl rfl, rfl⟩
  refine SCode.region (show SOps _ _ _ [0, 1, 2, 3, 4, 5, 6, 7, 8] _ _ from ?_)
  refine SOps.q rfl (.plain rfl) rfl (q_load_ptr_all rfl rfl rfl rfl rfl ty24) ?_
  refine SOps.q rfl (.plain rfl) rfl (q_call (chargenetlaw16_Good_ok F a0_q c_1 g2) [] rfl fn8 ⟨⟨rfl, rfl⟩, trivial⟩ (.inl rfl)) ?_
  refine SOps.q rfl (.plain rfl) rfl (q_not rfl rfl) ?_
  refine SOps.q rfl (.plain rfl) rfl (q_move rfl rfl) ?_
  refine SOps.q rfl (.guard 3 13 false rfl rfl (gF g3)) rfl (q_field_ptr rfl rfl fd24_0) ?_
  refine SOps.q rfl (.guard 3 13 false rfl rfl (gF g3)) rfl (q_load_ptr rfl rfl rfl rfl ty22) ?_
  refine SOps.q rfl (.guard 3 13 false rfl rfl (gF g3)) rfl (q_len_vec rfl rfl sl22) ?_
  refine SOps.q rfl (.guard 3 13 false rfl rfl (gF g3)) rfl (q_eql rfl rfl rfl) ?_
  refine SOps.q rfl (.plain rfl) rfl (q_pick_f rfl rfl g3 rfl) ?_
  refine SOps.sub (st' := ⟨[(1, .c (.int .u8 a1_i)), (2, .c (.ptr 0 0)), (18, .c (.bool (decide (((a0_q.L).length : Int) = 0))))], [.box [.vec a0_q.L.length 11 (gL cSProfile dSProfile a0_q.L), .int .i64 a0_q.Conn, .str a0_q.Txn, .int .i64 a0_q.Start, .int .i64 a0_q.T, .int .i64 a0_q.Length]]⟩) (sub_gen [0] rfl rfl ⟨zc rfl rfl, zc rfl rfl, zc rfl rfl, trivial⟩ ⟨⟨_, rfl, ⟨ii rfl rfl, ii rfl rfl, ii rfl rfl, ii rfl rfl, ii rfl rfl, ii rfl rfl, trivial⟩⟩, trivial⟩) ?_
  refine SOps.nil ?_
  rcases cond_out h with ⟨g6, h⟩ | ⟨g6, h⟩
  · refine SCode.cond_t rfl g6 ?_
    refine SCode.seq ?_
    obtain ⟨c_7, g8, h⟩ := bind_out h
    try dsimp only at h
    refine SCode.region (show SOps _ _ _ [0, 1] _ _ from ?_)
    refine SOps.q rfl (.plain rfl) rfl (q_call (chargenetlaw16_exampleHolds_ok F  c_7 g8) [] rfl fn9 trivial (.inl rfl)) ?_
    refine SOps.q rfl (.plain rfl) rfl (q_assign rfl rfl) ?_
    refine SOps.sub (st' := ⟨[(4, .c (.bool c_7))], []⟩) (sub_gen [] rfl rfl ⟨zc rfl rfl, trivial⟩ trivial) ?_
    refine SOps.nil ?_
    refine SCode.ret ?_
    obtain rfl := Option.some.inj h
    exact ⟨⟨[(4, .c (.bool c_7))], []⟩, _, sub_gen [] rfl rfl ⟨zc rfl rfl, trivial⟩ trivial, resA1 (v := .c (.bool c_7)) rfl rfl, rfl⟩
  refine SCode.cond_f rfl g6 ?_
  refine SCode.skip ?_
  refine SCode.seq ?_
  obtain ⟨g9, h⟩ := guard_out h
  refine SCode.region (show SOps _ _ _ [0, 1, 2, 3, 4, 5, 6] _ _ from ?_)
  refine SOps.q rfl (.plain rfl) rfl (q_move rfl rfl) ?_
  refine SOps.q rfl (.plain rfl) rfl (q_convert rfl rfl un5 un3) ?_
  refine SOps.q rfl (.plain rfl) rfl (q_field_ptr rfl rfl fd24_0) ?_
  refine SOps.q rfl (.plain rfl) rfl (q_load_ptr rfl rfl rfl rfl ty22) ?_
  refine SOps.q rfl (.plain rfl) rfl (q_len_vec rfl rfl sl22) ?_
  refine SOps.q rfl (.plain rfl) rfl (q_rem rfl rfl rfl g9) ?_
  refine SOps.q rfl (.plain rfl) rfl (q_assign rfl rfl) ?_
  refine SOps.sub (st' := ⟨[(2, .c (.ptr 0 0)), (5, .c (.int .i64 (Int.tmod (IntKind.wrap .i64 a1_i) (((a0_q.L).length : Int)))))], [.box [.vec a0_q.L.length 11 (gL cSProfile dSProfile a0_q.L), .int .i64 a0_q.Conn, .str a0_q.Txn, .int .i64 a0_q.Start, .int .i64 a0_q.T, .int .i64 a0_q.Length]]⟩) (sub_gen [0] rfl rfl ⟨zc rfl rfl, zc rfl rfl, trivial⟩ ⟨⟨_, rfl, ⟨ii rfl rfl, ii rfl rfl, ii rfl rfl, ii rfl rfl, ii rfl rfl, ii rfl rfl, trivial⟩⟩, trivial⟩) ?_
  refine SOps.nil ?_
  refine SCode.seq ?_
  obtain ⟨g10, h⟩ := guard_out h
  refine SCode.region (show SOps _ _ _ [0, 1, 2, 3, 4, 5, 6] _ _ from ?_)
  refine SOps.q rfl (.plain rfl) rfl (q_field_ptr rfl rfl fd24_0) ?_
  refine SOps.q rfl (.plain rfl) rfl (q_load_ptr rfl rfl rfl rfl ty22) ?_
  refine SOps.q rfl (.plain rfl) rfl (q_move rfl rfl) ?_
  refine SOps.q rfl (.plain rfl) rfl (q_index_vec rfl rfl rfl sl22 rfl g10.1 g10.2) ?_
  refine SOps.q rfl (.plain rfl) rfl (q_load_eptr_all rfl rfl rfl ty31) ?_
  refine SOps.e rfl (.plain rfl) (e_alloc rfl rfl rfl z31) ?_
  refine SOps.e rfl (.plain rfl) (e_store_box rfl rfl rfl rfl rfl ty31 rfl rfl rfl rfl) ?_
  refine SOps.sub (st' := ⟨[(2, .c (.ptr 0 0)), (5, .c (.int .i64 (Int.tmod (IntKind.wrap .i64 a1_i) (((a0_q.L).length : Int))))), (6, .c (.ptr 1 0))], [.box [.vec a0_q.L.length 11 (gL cSProfile dSProfile a0_q.L), .int .i64 a0_q.Conn, .str a0_q.Txn, .int .i64 a0_q.Start, .int .i64 a0_q.T, .int .i64 a0_q.Length], .box [.int .i64 ((a0_q.L.getD (Int.tmod (IntKind.wrap .i64 a1_i) (((a0_q.L).length : Int))).toNat dSProfile).ID), .int .i64 ((a0_q.L.getD (Int.tmod (IntKind.wrap .i64 a1_i) (((a0_q.L).length : Int))).toNat dSProfile).Level), .int .i64 ((a0_q.L.getD (Int.tmod (IntKind.wrap .i64 a1_i) (((a0_q.L).length : Int))).toNat dSProfile).Purpose), .int .i64 ((a0_q.L.getD (Int.tmod (IntKind.wrap .i64 a1_i) (((a0_q.L).length : Int))).toNat dSProfile).Kind), .int .i64 ((a0_q.L.getD (Int.tmod (IntKind.wrap .i64 a1_i) (((a0_q.L).length : Int))).toNat dSProfile).Conn), .str ((a0_q.L.getD (Int.tmod (IntKind.wrap .i64 a1_i) (((a0_q.L).length : Int))).toNat dSProfile).Txn), .int .i64 ((a0_q.L.getD (Int.tmod (IntKind.wrap .i64 a1_i) (((a0_q.L).length : Int))).toNat dSProfile).Span_From), .int .i64 ((a0_q.L.getD (Int.tmod (IntKind.wrap .i64 a1_i) (((a0_q.L).length : Int))).toNat dSProfile).Span_To), .int .i64 ((a0_q.L.getD (Int.tmod (IntKind.wrap .i64 a1_i) (((a0_q.L).length : Int))).toNat dSProfile).Start), .int .i64 ((a0_q.L.getD (Int.tmod (IntKind.wrap .i64 a1_i) (((a0_q.L).length : Int))).toNat dSProfile).Duration), .vec ((a0_q.L.getD (Int.tmod (IntKind.wrap .i64 a1_i) (((a0_q.L).length : Int))).toNat dSProfile).Periods).length 2 (gL cSPeriod dSPeriod ((a0_q.L.getD (Int.tmod (IntKind.wrap .i64 a1_i) (((a0_q.L).length : Int))).toNat dSProfile).Periods))]]⟩) (sub_gen [0, 1] rfl rfl ⟨zc rfl rfl, zc rfl rfl, zc rfl rfl, trivial⟩ ⟨⟨_, rfl, ⟨ii rfl rfl, ii rfl rfl, ii rfl rfl, ii rfl rfl, ii rfl rfl, ii rfl rfl, trivial⟩⟩, ⟨_, rfl, ⟨ii rfl rfl, ii rfl rfl, ii rfl rfl, ii rfl rfl, ii rfl rfl, ii rfl rfl, ii rfl rfl, ii rfl rfl, ii rfl rfl, ii rfl rfl, ii rfl rfl, trivial⟩⟩, trivial⟩) ?_
  refine SOps.nil ?_
  refine SCode.seq ?_
  obtain ⟨c_11, g12, h⟩ := bind_out h
  try dsimp only at h
  refine SCode.region (show SOps _ _ _ [0, 1, 2, 3, 4, 5, 6, 7, 8, 9, 10] _ _ from ?_)
  refine SOps.q rfl (.plain rfl) rfl (q_load_ptr_all rfl rfl rfl rfl rfl ty31) ?_
  refine SOps.q rfl (.plain rfl) rfl (q_field_ptr rfl rfl fd24_3) ?_
  refine SOps.q rfl (.plain rfl) rfl (q_load_ptr rfl rfl rfl rfl ty3) ?_
  refine SOps.q rfl (.plain rfl) rfl (q_field_ptr rfl rfl fd24_4) ?_
  refine SOps.q rfl (.plain rfl) rfl (q_load_ptr rfl rfl rfl rfl ty3) ?_
  refine SOps.q rfl (.plain rfl) rfl (q_call (chargenetref15_Limit_ok F (a0_q.L.getD (Int.tmod (IntKind.wrap .i64 a1_i) (((a0_q.L).length : Int))).toNat dSProfile) a0_q.Start a0_q.T c_11 g12) [] rfl fn10 ⟨⟨rfl, rfl⟩, ⟨_, rfl, .inl ⟨rfl, rfl⟩⟩, ⟨_, rfl, .inl ⟨rfl, rfl⟩⟩, trivial⟩ (.inl rfl)) ?_
  refine SOps.q rfl (.plain rfl) rfl (q_move rfl rfl) ?_
  refine SOps.q rfl (.plain rfl) rfl (q_extract rfl rfl rfl) ?_
  refine SOps.q rfl (.plain rfl) rfl (q_extract rfl rfl rfl) ?_
  refine SOps.q rfl (.plain rfl) rfl (q_assign rfl rfl) ?_
  refine SOps.q rfl (.plain rfl) rfl (q_assign rfl rfl) ?_
  refine SOps.sub (st' := ⟨[(2, .c (.ptr 0 0)), (5, .c (.int .i64 (Int.tmod (IntKind.wrap .i64 a1_i) (((a0_q.L).length : Int))))), (6, .c (.ptr 1 0)), (8, .c (.bool c_11.2))], [.box [.vec a0_q.L.length 11 (gL cSProfile dSProfile a0_q.L), .int .i64 a0_q.Conn, .str a0_q.Txn, .int .i64 a0_q.Start, .int .i64 a0_q.T, .int .i64 a0_q.Length], .box [.int .i64 ((a0_q.L.getD (Int.tmod (IntKind.wrap .i64 a1_i) (((a0_q.L).length : Int))).toNat dSProfile).ID), .int .i64 ((a0_q.L.getD (Int.tmod (IntKind.wrap .i64 a1_i) (((a0_q.L).length : Int))).toNat dSProfile).Level), .int .i64 ((a0_q.L.getD (Int.tmod (IntKind.wrap .i64 a1_i) (((a0_q.L).length : Int))).toNat dSProfile).Purpose), .int .i64 ((a0_q.L.getD (Int.tmod (IntKind.wrap .i64 a1_i) (((a0_q.L).length : Int))).toNat dSProfile).Kind), .int .i64 ((a0_q.L.getD (Int.tmod (IntKind.wrap .i64 a1_i) (((a0_q.L).length : Int))).toNat dSProfile).Conn), .str ((a0_q.L.getD (Int.tmod (IntKind.wrap .i64 a1_i) (((a0_q.L).length : Int))).toNat dSProfile).Txn), .int .i64 ((a0_q.L.getD (Int.tmod (IntKind.wrap .i64 a1_i) (((a0_q.L).length : Int))).toNat dSProfile).Span_From), .int .i64 ((a0_q.L.getD (Int.tmod (IntKind.wrap .i64 a1_i) (((a0_q.L).length : Int))).toNat dSProfile).Span_To), .int .i64 ((a0_q.L.getD (Int.tmod (IntKind.wrap .i64 a1_i) (((a0_q.L).length : Int))).toNat dSProfile).Start), .int .i64 ((a0_q.L.getD (Int.tmod (IntKind.wrap .i64 a1_i) (((a0_q.L).length : Int))).toNat dSProfile).Duration), .vec ((a0_q.L.getD (Int.tmod (IntKind.wrap .i64 a1_i) (((a0_q.L).length : Int))).toNat dSProfile).Periods).length 2 (gL cSPeriod dSPeriod ((a0_q.L.getD (Int.tmod (IntKind.wrap .i64 a1_i) (((a0_q.L).length : Int))).toNat dSProfile).Periods))]]⟩) (sub_gen [0, 1] rfl rfl ⟨zc rfl rfl, zc rfl rfl, zc rfl rfl, zc rfl rfl, trivial⟩ ⟨⟨_, rfl, ⟨ii rfl rfl, ii rfl rfl, ii rfl rfl, ii rfl rfl, ii rfl rfl, ii rfl rfl, trivial⟩⟩, ⟨_, rfl, ⟨ii rfl rfl, ii rfl rfl, ii rfl rfl, ii rfl rfl, ii rfl rfl, ii rfl rfl, ii rfl rfl, ii rfl rfl, ii rfl rfl, ii rfl rfl, ii rfl rfl, trivial⟩⟩, trivial⟩) ?_
  refine SOps.nil ?_
  refine SCode.join (σ := Unit) (S := fun s => ⟨[(2, .c (.ptr 0 0)), (5, .c (.int .i64 (Int.tmod (IntKind.wrap .i64 a1_i) (((a0_q.L).length : Int)))))], [.box [.vec a0_q.L.length 11 (gL cSProfile dSProfile a0_q.L), .int .i64 a0_q.Conn, .str a0_q.Txn, .int .i64 a0_q.Start, .int .i64 a0_q.T, .int .i64 a0_q.Length]]⟩) (g := fun s => chargenetlaw16_ComposeIgnores_p24 F a0_q a1_i = some r) ?_ ?_
  rotate_left
  · refine SCode.seq ?_
    rcases cond_out h with ⟨g25, h⟩ | ⟨g25, h⟩
    · rcases cond_out h with ⟨g26, h⟩ | ⟨g26, h⟩
      · rcases cond_out h with ⟨g27, h⟩ | ⟨g27, h⟩
        · refine SCode.region (show SOps _ _ _ [0, 1, 2, 3, 4, 5, 6, 7, 8, 9, 10, 11, 12, 13, 14, 15, 16, 17, 18, 19, 20, 21, 22, 23, 24] _ _ from ?_)
          refine SOps.q rfl (.plain rfl) rfl (q_move rfl rfl) ?_
          refine SOps.q rfl (.plain rfl) rfl (q_move rfl rfl) ?_
          refine SOps.q rfl (.guard 1 41 true rfl rfl (gT g25)) rfl (q_field_ptr rfl rfl fd31_4) ?_
          refine SOps.q rfl (.guard 1 41 true rfl rfl (gT g25)) rfl (q_load_ptr rfl rfl rfl rfl ty3) ?_
          refine SOps.q rfl (.guard 1 41 true rfl rfl (gT g25)) rfl (q_eql rfl rfl rfl) ?_
          refine SOps.q rfl (.guard 1 41 true rfl rfl (gT g25)) rfl (q_move rfl rfl) ?_
          refine SOps.skip rfl 5 45 false rfl rfl (.inl (gT g26)) rfl ?_
          refine SOps.skip rfl 5 45 false rfl rfl (.inl (gT g26)) rfl ?_
          refine SOps.skip rfl 5 45 false rfl rfl (.inl (gT g26)) rfl ?_
          refine SOps.skip rfl 5 45 false rfl rfl (.inl (gT g26)) rfl ?_
          refine SOps.skip rfl 5 45 false rfl rfl (.inl (gT g26)) rfl ?_
          refine SOps.q rfl (.guard 1 41 true rfl rfl (gT g25)) rfl (q_pick_t rfl rfl g26 rfl) ?_
          refine SOps.q rfl (.plain rfl) rfl (q_pick_t rfl rfl g25 rfl) ?_
          refine SOps.q rfl (.plain rfl) rfl (q_move rfl rfl) ?_
          refine SOps.q rfl (.guard 13 53 true rfl rfl rfl) rfl (q_field_ptr rfl rfl fd31_2) ?_
          refine SOps.q rfl (.guard 13 53 true rfl rfl rfl) rfl (q_load_ptr rfl rfl rfl rfl ty3) ?_
          refine SOps.q rfl (.guard 13 53 true rfl rfl rfl) rfl (q_neq rfl rfl rfl) ?_
          refine SOps.q rfl (.guard 13 53 true rfl rfl rfl) rfl (q_move rfl rfl) ?_
          refine SOps.skip rfl 17 57 false rfl rfl (.inl (gT g27)) rfl ?_
          refine SOps.skip rfl 17 57 false rfl rfl (.inl (gT g27)) rfl ?_
          refine SOps.skip rfl 17 57 false rfl rfl (.inl (gT g27)) rfl ?_
          refine SOps.skip rfl 17 57 false rfl rfl (.inl (gT g27)) rfl ?_
          refine SOps.skip rfl 17 57 false rfl rfl (.inl (gT g27)) rfl ?_
          refine SOps.q rfl (.guard 13 53 true rfl rfl rfl) rfl (q_pick_t rfl rfl g27 rfl) ?_
          refine SOps.q rfl (.plain rfl) rfl (q_pick_t rfl rfl rfl rfl) ?_
          refine SOps.sub (st' := ⟨[(2, .c (.ptr 0 0)), (5, .c (.int .i64 (Int.tmod (IntKind.wrap .i64 a1_i) (((a0_q.L).length : Int))))), (64, .c (.bool true))], [.box [.vec a0_q.L.length 11 (gL cSProfile dSProfile a0_q.L), .int .i64 a0_q.Conn, .str a0_q.Txn, .int .i64 a0_q.Start, .int .i64 a0_q.T, .int .i64 a0_q.Length]]⟩) (sub_gen [0] rfl rfl ⟨zc rfl rfl, zc rfl rfl, zc rfl rfl, trivial⟩ ⟨⟨_, rfl, ⟨ii rfl rfl, ii rfl rfl, ii rfl rfl, ii rfl rfl, ii rfl rfl, ii rfl rfl, trivial⟩⟩, trivial⟩) ?_
          refine SOps.nil ?_
          refine SCode.cond_t rfl rfl ?_
          refine SCode.seq ?_
          refine SCode.region (show SOps _ _ _ [0] _ _ from ?_)
          refine SOps.q rfl (.plain rfl) rfl (q_assign rfl rfl) ?_
          refine SOps.sub (st' := ⟨[(4, .c (.bool true))], []⟩) (sub_gen [] rfl rfl ⟨zc rfl rfl, trivial⟩ trivial) ?_
          refine SOps.nil ?_
          refine SCode.ret ?_
          obtain rfl := Option.some.inj h
          exact ⟨⟨[(4, .c (.bool true))], []⟩, _, sub_gen [] rfl rfl ⟨zc rfl rfl, trivial⟩ trivial, resA1 (v := .c (.bool true)) rfl rfl, rfl⟩
        refine SCode.region (show SOps _ _ _ [0, 1, 2, 3, 4, 5, 6, 7, 8, 9, 10, 11, 12, 13, 14, 15, 16, 17, 18, 19, 20, 21, 22, 23, 24] _ _ from ?_)
        refine SOps.q rfl (.plain rfl) rfl (q_move rfl rfl) ?_
        refine SOps.q rfl (.plain rfl) rfl (q_move rfl rfl) ?_
        refine SOps.q rfl (.guard 1 41 true rfl rfl (gT g25)) rfl (q_field_ptr rfl rfl fd31_4) ?_
        refine SOps.q rfl (.guard 1 41 true rfl rfl (gT g25)) rfl (q_load_ptr rfl rfl rfl rfl ty3) ?_
        refine SOps.q rfl (.guard 1 41 true rfl rfl (gT g25)) rfl (q_eql rfl rfl rfl) ?_
        refine SOps.q rfl (.guard 1 41 true rfl rfl (gT g25)) rfl (q_move rfl rfl) ?_
        refine SOps.skip rfl 5 45 false rfl rfl (.inl (gT g26)) rfl ?_
        refine SOps.skip rfl 5 45 false rfl rfl (.inl (gT g26)) rfl ?_
        refine SOps.skip rfl 5 45 false rfl rfl (.inl (gT g26)) rfl ?_
        refine SOps.skip rfl 5 45 false rfl rfl (.inl (gT g26)) rfl ?_
        refine SOps.skip rfl 5 45 false rfl rfl (.inl (gT g26)) rfl ?_
        refine SOps.q rfl (.guard 1 41 true rfl rfl (gT g25)) rfl (q_pick_t rfl rfl g26 rfl) ?_
        refine SOps.q rfl (.plain rfl) rfl (q_pick_t rfl rfl g25 rfl) ?_
        refine SOps.q rfl (.plain rfl) rfl (q_move rfl rfl) ?_
        refine SOps.q rfl (.guard 13 53 true rfl rfl rfl) rfl (q_field_ptr rfl rfl fd31_2) ?_
        refine SOps.q rfl (.guard 13 53 true rfl rfl rfl) rfl (q_load_ptr rfl rfl rfl rfl ty3) ?_
        refine SOps.q rfl (.guard 13 53 true rfl rfl rfl) rfl (q_neq rfl rfl rfl) ?_
        refine SOps.q rfl (.guard 13 53 true rfl rfl rfl) rfl (q_move rfl rfl) ?_
        refine SOps.q rfl (.guard 17 57 false rfl rfl (gF g27)) rfl (q_field_ptr rfl rfl fd31_5) ?_
        refine SOps.q rfl (.guard 17 57 false rfl rfl (gF g27)) rfl (q_load_ptr rfl rfl rfl rfl ty9) ?_
        refine SOps.q rfl (.guard 17 57 false rfl rfl (gF g27)) rfl (q_field_ptr rfl rfl fd24_2) ?_
        refine SOps.q rfl (.guard 17 57 false rfl rfl (gF g27)) rfl (q_load_ptr rfl rfl rfl rfl ty9) ?_
        refine SOps.q rfl (.guard 17 57 false rfl rfl (gF g27)) rfl (q_eqlS rfl rfl rfl) ?_
        refine SOps.q rfl (.guard 13 53 true rfl rfl rfl) rfl (q_pick_f rfl rfl g27 rfl) ?_
        refine SOps.q rfl (.plain rfl) rfl (q_pick_t rfl rfl rfl rfl) ?_
        refine SOps.sub (st' := ⟨[(2, .c (.ptr 0 0)), (5, .c (.int .i64 (Int.tmod (IntKind.wrap .i64 a1_i) (((a0_q.L).length : Int))))), (64, .c (.bool (sEq ((a0_q.L.getD (Int.tmod (IntKind.wrap .i64 a1_i) (((a0_q.L).length : Int))).toNat dSProfile).Txn) a0_q.Txn)))], [.box [.vec a0_q.L.length 11 (gL cSProfile dSProfile a0_q.L), .int .i64 a0_q.Conn, .str a0_q.Txn, .int .i64 a0_q.Start, .int .i64 a0_q.T, .int .i64 a0_q.Length]]⟩) (sub_gen [0] rfl rfl ⟨zc rfl rfl, zc rfl rfl, zc rfl rfl, trivial⟩ ⟨⟨_, rfl, ⟨ii rfl rfl, ii rfl rfl, ii rfl rfl, ii rfl rfl, ii rfl rfl, ii rfl rfl, trivial⟩⟩, trivial⟩) ?_
        refine SOps.nil ?_
        rcases cond_out h with ⟨g28, h⟩ | ⟨g28, h⟩
        · refine SCode.cond_t rfl g28 ?_
          refine SCode.seq ?_
          refine SCode.region (show SOps _ _ _ [0] _ _ from ?_)
          refine SOps.q rfl (.plain rfl) rfl (q_assign rfl rfl) ?_
          refine SOps.sub (st' := ⟨[(4, .c (.bool true))], []⟩) (sub_gen [] rfl rfl ⟨zc rfl rfl, trivial⟩ trivial) ?_
          refine SOps.nil ?_
          refine SCode.ret ?_
          obtain rfl := Option.some.inj h
          exact ⟨⟨[(4, .c (.bool true))], []⟩, _, sub_gen [] rfl rfl ⟨zc rfl rfl, trivial⟩ trivial, resA1 (v := .c (.bool true)) rfl rfl, rfl⟩
        refine SCode.cond_f rfl g28 ?_
        refine SCode.skip ?_
        exact ⟨(), h, sub_gen [0] rfl rfl ⟨zc rfl rfl, zc rfl rfl, trivial⟩ ⟨⟨_, rfl, ⟨ii rfl rfl, ii rfl rfl, ii rfl rfl, ii rfl rfl, ii rfl rfl, ii rfl rfl, trivial⟩⟩, trivial⟩⟩
      rcases cond_out h with ⟨g29, h⟩ | ⟨g29, h⟩
      · rcases cond_out h with ⟨g30, h⟩ | ⟨g30, h⟩
        · refine SCode.region (show SOps _ _ _ [0, 1, 2, 3, 4, 5, 6, 7, 8, 9, 10, 11, 12, 13, 14, 15, 16, 17, 18, 19, 20, 21, 22, 23, 24] _ _ from ?_)
          refine SOps.q rfl (.plain rfl) rfl (q_move rfl rfl) ?_
          refine SOps.q rfl (.plain rfl) rfl (q_move rfl rfl) ?_
          refine SOps.q rfl (.guard 1 41 true rfl rfl (gT g25)) rfl (q_field_ptr rfl rfl fd31_4) ?_
          refine SOps.q rfl (.guard 1 41 true rfl rfl (gT g25)) rfl (q_load_ptr rfl rfl rfl rfl ty3) ?_
          refine SOps.q rfl (.guard 1 41 true rfl rfl (gT g25)) rfl (q_eql rfl rfl rfl) ?_
          refine SOps.q rfl (.guard 1 41 true rfl rfl (gT g25)) rfl (q_move rfl rfl) ?_
          refine SOps.q rfl (.guard 5 45 false rfl rfl (gF g26)) rfl (q_field_ptr rfl rfl fd31_4) ?_
          refine SOps.q rfl (.guard 5 45 false rfl rfl (gF g26)) rfl (q_load_ptr rfl rfl rfl rfl ty3) ?_
          refine SOps.q rfl (.guard 5 45 false rfl rfl (gF g26)) rfl (q_field_ptr rfl rfl fd24_1) ?_
          refine SOps.q rfl (.guard 5 45 false rfl rfl (gF g26)) rfl (q_load_ptr rfl rfl rfl rfl ty3) ?_
          refine SOps.q rfl (.guard 5 45 false rfl rfl (gF g26)) rfl (q_eql rfl rfl rfl) ?_
          refine SOps.q rfl (.guard 1 41 true rfl rfl (gT g25)) rfl (q_pick_f rfl rfl g26 rfl) ?_
          refine SOps.q rfl (.plain rfl) rfl (q_pick_t rfl rfl g25 rfl) ?_
          refine SOps.q rfl (.plain rfl) rfl (q_move rfl rfl) ?_
          refine SOps.q rfl (.guard 13 53 true rfl rfl (gT g29)) rfl (q_field_ptr rfl rfl fd31_2) ?_
          refine SOps.q rfl (.guard 13 53 true rfl rfl (gT g29)) rfl (q_load_ptr rfl rfl rfl rfl ty3) ?_
          refine SOps.q rfl (.guard 13 53 true rfl rfl (gT g29)) rfl (q_neq rfl rfl rfl) ?_
          refine SOps.q rfl (.guard 13 53 true rfl rfl (gT g29)) rfl (q_move rfl rfl) ?_
          refine SOps.skip rfl 17 57 false rfl rfl (.inl (gT g30)) rfl ?_
          refine SOps.skip rfl 17 57 false rfl rfl (.inl (gT g30)) rfl ?_
          refine SOps.skip rfl 17 57 false rfl rfl (.inl (gT g30)) rfl ?_
          refine SOps.skip rfl 17 57 false rfl rfl (.inl (gT g30)) rfl ?_
          refine SOps.skip rfl 17 57 false rfl rfl (.inl (gT g30)) rfl ?_
          refine SOps.q rfl (.guard 13 53 true rfl rfl (gT g29)) rfl (q_pick_t rfl rfl g30 rfl) ?_
          refine SOps.q rfl (.plain rfl) rfl (q_pick_t rfl rfl g29 rfl) ?_
          refine SOps.sub (st' := ⟨[(2, .c (.ptr 0 0)), (5, .c (.int .i64 (Int.tmod (IntKind.wrap .i64 a1_i) (((a0_q.L).length : Int))))), (64, .c (.bool true))], [.box [.vec a0_q.L.length 11 (gL cSProfile dSProfile a0_q.L), .int .i64 a0_q.Conn, .str a0_q.Txn, .int .i64 a0_q.Start, .int .i64 a0_q.T, .int .i64 a0_q.Length]]⟩) (sub_gen [0] rfl rfl ⟨zc rfl rfl, zc rfl rfl, zc rfl rfl, trivial⟩ ⟨⟨_, rfl, ⟨ii rfl rfl, ii rfl rfl, ii rfl rfl, ii rfl rfl, ii rfl rfl, ii rfl rfl, trivial⟩⟩, trivial⟩) ?_
          refine SOps.nil ?_
          refine SCode.cond_t rfl rfl ?_
          refine SCode.seq ?_
          refine SCode.region (show SOps _ _ _ [0] _ _ from ?_)
          refine SOps.q rfl (.plain rfl) rfl (q_assign rfl rfl) ?_
          refine SOps.sub (st' := ⟨[(4, .c (.bool true))], []⟩) (sub_gen [] rfl rfl ⟨zc rfl rfl, trivial⟩ trivial) ?_
          refine SOps.nil ?_
          refine SCode.ret ?_
          obtain rfl := Option.some.inj h
          exact ⟨⟨[(4, .c (.bool true))], []⟩, _, sub_gen [] rfl rfl ⟨zc rfl rfl, trivial⟩ trivial, resA1 (v := .c (.bool true)) rfl rfl, rfl⟩
        refine SCode.region (show SOps _ _ _ [0, 1, 2, 3, 4, 5, 6, 7, 8, 9, 10, 11, 12, 13, 14, 15, 16, 17, 18, 19, 20, 21, 22, 23, 24] _ _ from ?_)
        refine SOps.q rfl (.plain rfl) rfl (q_move rfl rfl) ?_
        refine SOps.q rfl (.plain rfl) rfl (q_move rfl rfl) ?_
        refine SOps.q rfl (.guard 1 41 true rfl rfl (gT g25)) rfl (q_field_ptr rfl rfl fd31_4) ?_
        refine SOps.q rfl (.guard 1 41 true rfl rfl (gT g25)) rfl (q_load_ptr rfl rfl rfl rfl ty3) ?_
        refine SOps.q rfl (.guard 1 41 true rfl rfl (gT g25)) rfl (q_eql rfl rfl rfl) ?_
        refine SOps.q rfl (.guard 1 41 true rfl rfl (gT g25)) rfl (q_move rfl rfl) ?_
        refine SOps.q rfl (.guard 5 45 false rfl rfl (gF g26)) rfl (q_field_ptr rfl rfl fd31_4) ?_
        refine SOps.q rfl (.guard 5 45 false rfl rfl (gF g26)) rfl (q_load_ptr rfl rfl rfl rfl ty3) ?_
        refine SOps.q rfl (.guard 5 45 false rfl rfl (gF g26)) rfl (q_field_ptr rfl rfl fd24_1) ?_
        refine SOps.q rfl (.guard 5 45 false rfl rfl (gF g26)) rfl (q_load_ptr rfl rfl rfl rfl ty3) ?_
        refine SOps.q rfl (.guard 5 45 false rfl rfl (gF g26)) rfl (q_eql rfl rfl rfl) ?_
        refine SOps.q rfl (.guard 1 41 true rfl rfl (gT g25)) rfl (q_pick_f rfl rfl g26 rfl) ?_
        refine SOps.q rfl (.plain rfl) rfl (q_pick_t rfl rfl g25 rfl) ?_
        refine SOps.q rfl (.plain rfl) rfl (q_move rfl rfl) ?_
        refine SOps.q rfl (.guard 13 53 true rfl rfl (gT g29)) rfl (q_field_ptr rfl rfl fd31_2) ?_
        refine SOps.q rfl (.guard 13 53 true rfl rfl (gT g29)) rfl (q_load_ptr rfl rfl rfl rfl ty3) ?_
        refine SOps.q rfl (.guard 13 53 true rfl rfl (gT g29)) rfl (q_neq rfl rfl rfl) ?_
        refine SOps.q rfl (.guard 13 53 true rfl rfl (gT g29)) rfl (q_move rfl rfl) ?_
        refine SOps.q rfl (.guard 17 57 false rfl rfl (gF g30)) rfl (q_field_ptr rfl rfl fd31_5) ?_
        refine SOps.q rfl (.guard 17 57 false rfl rfl (gF g30)) rfl (q_load_ptr rfl rfl rfl rfl ty9) ?_
        refine SOps.q rfl (.guard 17 57 false rfl rfl (gF g30)) rfl (q_field_ptr rfl rfl fd24_2) ?_
        refine SOps.q rfl (.guard 17 57 false rfl rfl (gF g30)) rfl (q_load_ptr rfl rfl rfl rfl ty9) ?_
        refine SOps.q rfl (.guard 17 57 false rfl rfl (gF g30)) rfl (q_eqlS rfl rfl rfl) ?_
        refine SOps.q rfl (.guard 13 53 true rfl rfl (gT g29)) rfl (q_pick_f rfl rfl g30 rfl) ?_
        refine SOps.q rfl (.plain rfl) rfl (q_pick_t rfl rfl g29 rfl) ?_
        refine SOps.sub (st' := ⟨[(2, .c (.ptr 0 0)), (5, .c (.int .i64 (Int.tmod (IntKind.wrap .i64 a1_i) (((a0_q.L).length : Int))))), (64, .c (.bool (sEq ((a0_q.L.getD (Int.tmod (IntKind.wrap .i64 a1_i) (((a0_q.L).length : Int))).toNat dSProfile).Txn) a0_q.Txn)))], [.box [.vec a0_q.L.length 11 (gL cSProfile dSProfile a0_q.L), .int .i64 a0_q.Conn, .str a0_q.Txn, .int .i64 a0_q.Start, .int .i64 a0_q.T, .int .i64 a0_q.Length]]⟩) (sub_gen [0] rfl rfl ⟨zc rfl rfl, zc rfl rfl, zc rfl rfl, trivial⟩ ⟨⟨_, rfl, ⟨ii rfl rfl, ii rfl rfl, ii rfl rfl, ii rfl rfl, ii rfl rfl, ii rfl rfl, trivial⟩⟩, trivial⟩) ?_
        refine SOps.nil ?_
        rcases cond_out h with ⟨g31, h⟩ | ⟨g31, h⟩
        · refine SCode.cond_t rfl g31 ?_
          refine SCode.seq ?_
          refine SCode.region (show SOps _ _ _ [0] _ _ from ?_)
          refine SOps.q rfl (.plain rfl) rfl (q_assign rfl rfl) ?_
          refine SOps.sub (st' := ⟨[(4, .c (.bool true))], []⟩) (sub_gen [] rfl rfl ⟨zc rfl rfl, trivial⟩ trivial) ?_
          refine SOps.nil ?_
          refine SCode.ret ?_
          obtain rfl := Option.some.inj h
          exact ⟨⟨[(4, .c (.bool true))], []⟩, _, sub_gen [] rfl rfl ⟨zc rfl rfl, trivial⟩ trivial, resA1 (v := .c (.bool true)) rfl rfl, rfl⟩
        refine SCode.cond_f rfl g31 ?_
        refine SCode.skip ?_
        exact ⟨(), h, sub_gen [0] rfl rfl ⟨zc rfl rfl, zc rfl rfl, trivial⟩ ⟨⟨_, rfl, ⟨ii rfl rfl, ii rfl rfl, ii rfl rfl, ii rfl rfl, ii rfl rfl, ii rfl rfl, trivial⟩⟩, trivial⟩⟩
      refine SCode.region (show SOps _ _ _ [0, 1, 2, 3, 4, 5, 6, 7, 8, 9, 10, 11, 12, 13, 14, 15, 16, 17, 18, 19, 20, 21, 22, 23, 24] _ _ from ?_)
      refine SOps.q rfl (.plain rfl) rfl (q_move rfl rfl) ?_
      refine SOps.q rfl (.plain rfl) rfl (q_move rfl rfl) ?_
      refine SOps.q rfl (.guard 1 41 true rfl rfl (gT g25)) rfl (q_field_ptr rfl rfl fd31_4) ?_
      refine SOps.q rfl (.guard 1 41 true rfl rfl (gT g25)) rfl (q_load_ptr rfl rfl rfl rfl ty3) ?_
      refine SOps.q rfl (.guard 1 41 true rfl rfl (gT g25)) rfl (q_eql rfl rfl rfl) ?_
      refine SOps.q rfl (.guard 1 41 true rfl rfl (gT g25)) rfl (q_move rfl rfl) ?_
      refine SOps.q rfl (.guard 5 45 false rfl rfl (gF g26)) rfl (q_field_ptr rfl rfl fd31_4) ?_
      refine SOps.q rfl (.guard 5 45 false rfl rfl (gF g26)) rfl (q_load_ptr rfl rfl rfl rfl ty3) ?_
      refine SOps.q rfl (.guard 5 45 false rfl rfl (gF g26)) rfl (q_field_ptr rfl rfl fd24_1) ?_
      refine SOps.q rfl (.guard 5 45 false rfl rfl (gF g26)) rfl (q_load_ptr rfl rfl rfl rfl ty3) ?_
      refine SOps.q rfl (.guard 5 45 false rfl rfl (gF g26)) rfl (q_eql rfl rfl rfl) ?_
      refine SOps.q rfl (.guard 1 41 true rfl rfl (gT g25)) rfl (q_pick_f rfl rfl g26 rfl) ?_
      refine SOps.q rfl (.plain rfl) rfl (q_pick_t rfl rfl g25 rfl) ?_
      refine SOps.q rfl (.plain rfl) rfl (q_move rfl rfl) ?_
      refine SOps.skip rfl 13 53 true rfl rfl (.inl (gF g29)) rfl ?_
      refine SOps.skip rfl 13 53 true rfl rfl (.inl (gF g29)) rfl ?_
      refine SOps.skip rfl 13 53 true rfl rfl (.inl (gF g29)) rfl ?_
      refine SOps.skip rfl 13 53 true rfl rfl (.inl (gF g29)) rfl ?_
      refine SOps.skip rfl 17 57 false rfl rfl (.inr rfl) rfl ?_
      refine SOps.skip rfl 17 57 false rfl rfl (.inr rfl) rfl ?_
      refine SOps.skip rfl 17 57 false rfl rfl (.inr rfl) rfl ?_
      refine SOps.skip rfl 17 57 false rfl rfl (.inr rfl) rfl ?_
      refine SOps.skip rfl 17 57 false rfl rfl (.inr rfl) rfl ?_
      refine SOps.skip rfl 13 53 true rfl rfl (.inl (gF g29)) rfl ?_
      refine SOps.q rfl (.plain rfl) rfl (q_pick_f rfl rfl g29 rfl) ?_
      refine SOps.sub (st' := ⟨[(2, .c (.ptr 0 0)), (5, .c (.int .i64 (Int.tmod (IntKind.wrap .i64 a1_i) (((a0_q.L).length : Int))))), (64, .c (.bool false))], [.box [.vec a0_q.L.length 11 (gL cSProfile dSProfile a0_q.L), .int .i64 a0_q.Conn, .str a0_q.Txn, .int .i64 a0_q.Start, .int .i64 a0_q.T, .int .i64 a0_q.Length]]⟩) (sub_gen [0] rfl rfl ⟨zc rfl rfl, zc rfl rfl, zc rfl rfl, trivial⟩ ⟨⟨_, rfl, ⟨ii rfl rfl, ii rfl rfl, ii rfl rfl, ii rfl rfl, ii rfl rfl, ii rfl rfl, trivial⟩⟩, trivial⟩) ?_
      refine SOps.nil ?_
      refine SCode.cond_f rfl rfl ?_
      refine SCode.skip ?_
      exact ⟨(), h, sub_gen [0] rfl rfl ⟨zc rfl rfl, zc rfl rfl, trivial⟩ ⟨⟨_, rfl, ⟨ii rfl rfl, ii rfl rfl, ii rfl rfl, ii rfl rfl, ii rfl rfl, ii rfl rfl, trivial⟩⟩, trivial⟩⟩
    refine SCode.region (show SOps _ _ _ [0, 1, 2, 3, 4, 5, 6, 7, 8, 9, 10, 11, 12, 13, 14, 15, 16, 17, 18, 19, 20, 21, 22, 23, 24] _ _ from ?_)
    refine SOps.q rfl (.plain rfl) rfl (q_move rfl rfl) ?_
    refine SOps.q rfl (.plain rfl) rfl (q_move rfl rfl) ?_
    refine SOps.skip rfl 1 41 true rfl rfl (.inl (gF g25)) rfl ?_
    refine SOps.skip rfl 1 41 true rfl rfl (.inl (gF g25)) rfl ?_
    refine SOps.skip rfl 1 41 true rfl rfl (.inl (gF g25)) rfl ?_
    refine SOps.skip rfl 1 41 true rfl rfl (.inl (gF g25)) rfl ?_
    refine SOps.skip rfl 5 45 false rfl rfl (.inr rfl) rfl ?_
    refine SOps.skip rfl 5 45 false rfl rfl (.inr rfl) rfl ?_
    refine SOps.skip rfl 5 45 false rfl rfl (.inr rfl) rfl ?_
    refine SOps.skip rfl 5 45 false rfl rfl (.inr rfl) rfl ?_
    refine SOps.skip rfl 5 45 false rfl rfl (.inr rfl) rfl ?_
    refine SOps.skip rfl 1 41 true rfl rfl (.inl (gF g25)) rfl ?_
    refine SOps.q rfl (.plain rfl) rfl (q_pick_f rfl rfl g25 rfl) ?_
    refine SOps.q rfl (.plain rfl) rfl (q_move rfl rfl) ?_
    refine SOps.skip rfl 13 53 true rfl rfl (.inl rfl) rfl ?_
    refine SOps.skip rfl 13 53 true rfl rfl (.inl rfl) rfl ?_
    refine SOps.skip rfl 13 53 true rfl rfl (.inl rfl) rfl ?_
    refine SOps.skip rfl 13 53 true rfl rfl (.inl rfl) rfl ?_
    refine SOps.skip rfl 17 57 false rfl rfl (.inr rfl) rfl ?_
    refine SOps.skip rfl 17 57 false rfl rfl (.inr rfl) rfl ?_
    refine SOps.skip rfl 17 57 false rfl rfl (.inr rfl) rfl ?_
    refine SOps.skip rfl 17 57 false rfl rfl (.inr rfl) rfl ?_
    refine SOps.skip rfl 17 57 false rfl rfl (.inr rfl) rfl ?_
    refine SOps.skip rfl 13 53 true rfl rfl (.inl rfl) rfl ?_
    refine SOps.q rfl (.plain rfl) rfl (q_pick_f rfl rfl rfl rfl) ?_
    refine SOps.sub (st' := ⟨[(2, .c (.ptr 0 0)), (5, .c (.int .i64 (Int.tmod (IntKind.wrap .i64 a1_i) (((a0_q.L).length : Int))))), (64, .c (.bool false))], [.box [.vec a0_q.L.length 11 (gL cSProfile dSProfile a0_q.L), .int .i64 a0_q.Conn, .str a0_q.Txn, .int .i64 a0_q.Start, .int .i64 a0_q.T, .int .i64 a0_q.Length]]⟩) (sub_gen [0] rfl rfl ⟨zc rfl rfl, zc rfl rfl, zc rfl rfl, trivial⟩ ⟨⟨_, rfl, ⟨ii rfl rfl, ii rfl rfl, ii rfl rfl, ii rfl rfl, ii rfl rfl, ii rfl rfl, trivial⟩⟩, trivial⟩) ?_
    refine SOps.nil ?_
    refine SCode.cond_f rfl rfl ?_
    refine SCode.skip ?_
    exact ⟨(), h, sub_gen [0] rfl rfl ⟨zc rfl rfl, zc rfl rfl, trivial⟩ ⟨⟨_, rfl, ⟨ii rfl rfl, ii rfl rfl, ii rfl rfl, ii rfl rfl, ii rfl rfl, ii rfl rfl, trivial⟩⟩, trivial⟩⟩
  rintro ⟨⟩ h
  show SCode _ _ _ ⟨[(2, .c (.ptr 0 0)), (5, .c (.int .i64 (Int.tmod (IntKind.wrap .i64 a1_i) (((a0_q.L).length : Int)))))], [.box [.vec a0_q.L.length 11 (gL cSProfile dSProfile a0_q.L), .int .i64 a0_q.Conn, .str a0_q.Txn, .int .i64 a0_q.Start, .int .i64 a0_q.T, .int .i64 a0_q.Length]]⟩ _
  replace h : chargenetlaw16_ComposeIgnores_p24 F a0_q a1_i = some r := h
  unfold chargenetlaw16_ComposeIgnores_p24 at h
  refine SCode.seq ?_
  obtain ⟨g13, h⟩ := guard_out h
  obtain ⟨g14, h⟩ := guard_out h
  obtain ⟨g15, h⟩ := guard_out h
  obtain ⟨g16, h⟩ := guard_out h
  refine SCode.draw2 (sH := [(75, .c (.vec (subL a0_q.L (IntKind.wrap .i64 (Int.tmod (IntKind.wrap .i64 a1_i) (((a0_q.L).length : Int)) + 1) : Int).toNat (a0_q.L).length).length 11 (gL cSProfile dSProfile (subL a0_q.L (IntKind.wrap .i64 (Int.tmod (IntKind.wrap .i64 a1_i) (((a0_q.L).length : Int)) + 1) : Int).toNat (a0_q.L).length)))), (74, .c (.int .i64 (IntKind.wrap .i64 (Int.tmod (IntKind.wrap .i64 a1_i) (((a0_q.L).length : Int)) + 1)))), (73, .c (.int .i64 (Int.tmod (IntKind.wrap .i64 a1_i) (((a0_q.L).length : Int))))), (72, .c (.vec a0_q.L.length 11 (gL cSProfile dSProfile a0_q.L))), (71, .c (.ptr 0 0)), (69, .c (.vec (subL a0_q.L 0 (Int.tmod (IntKind.wrap .i64 a1_i) (((a0_q.L).length : Int)) : Int).toNat).length 11 (gL cSProfile dSProfile (subL a0_q.L 0 (Int.tmod (IntKind.wrap .i64 a1_i) (((a0_q.L).length : Int)) : Int).toNat)))), (68, .c (.int .i64 (Int.tmod (IntKind.wrap .i64 a1_i) (((a0_q.L).length : Int))))), (67, .c (.vec a0_q.L.length 11 (gL cSProfile dSProfile a0_q.L))), (66, .c (.ptr 0 0)), (2, .c (.ptr 0 0)), (5, .c (.int .i64 (Int.tmod (IntKind.wrap .i64 a1_i) (((a0_q.L).length : Int)))))]) mixed [[], [], [1], [], [1, 2, 3], [0, 1, 2, 3, 4], [], [6], [], [8], [6, 7, 8, 9], [0, 1, 2, 3, 4, 5, 6, 7, 8, 9, 10], [0, 1, 2, 3, 4, 5, 6, 7, 8, 9, 10, 11]] [0, 5, 11, 12] (fun h => List.getD ([] : List (List Nat)) h []) rfl ?_ ⟨[(2, .c (.ptr 0 0)), (9, .c (.own 1 (((([] : List SProfile)) ++ (subL a0_q.L 0 (Int.tmod (IntKind.wrap .i64 a1_i) (((a0_q.L).length : Int)) : Int).toNat)) ++ (subL a0_q.L (IntKind.wrap .i64 (Int.tmod (IntKind.wrap .i64 a1_i) (((a0_q.L).length : Int)) + 1) : Int).toNat (a0_q.L).length)).length))], [.box [.vec a0_q.L.length 11 (gL cSProfile dSProfile a0_q.L), .int .i64 a0_q.Conn, .str a0_q.Txn, .int .i64 a0_q.Start, .int .i64 a0_q.T, .int .i64 a0_q.Length], .arr 31 11 (((([] : List SProfile)) ++ (subL a0_q.L 0 (Int.tmod (IntKind.wrap .i64 a1_i) (((a0_q.L).length : Int)) : Int).toNat)) ++ (subL a0_q.L (IntKind.wrap .i64 (Int.tmod (IntKind.wrap .i64 a1_i) (((a0_q.L).length : Int)) + 1) : Int).toNat (a0_q.L).length)).length (gL cSProfile dSProfile (((([] : List SProfile)) ++ (subL a0_q.L 0 (Int.tmod (IntKind.wrap .i64 a1_i) (((a0_q.L).length : Int)) : Int).toNat)) ++ (subL a0_q.L (IntKind.wrap .i64 (Int.tmod (IntKind.wrap .i64 a1_i) (((a0_q.L).length : Int)) + 1) : Int).toNat (a0_q.L).length)))]⟩ ?_ ?_
  · refine HChain.tail rfl ?_
    refine HChain.run rfl rfl (.plain rfl) rfl (fun f x => q_field_ptr rfl rfl fd24_0) ?_
    refine HChain.run rfl rfl (.plain rfl) rfl (fun f x => q_load_ptr rfl rfl rfl rfl ty22) ?_
    refine HChain.run rfl rfl (.plain rfl) rfl (fun f x => q_move rfl rfl) ?_
    refine HChain.run rfl rfl (.plain rfl) rfl (fun f x => q_slice_h rfl rfl rfl sl22 g13.1 g13.2) ?_
    refine HChain.tail rfl ?_
    refine HChain.run rfl rfl (.plain rfl) rfl (fun f x => q_field_ptr rfl rfl fd24_0) ?_
    refine HChain.run rfl rfl (.plain rfl) rfl (fun f x => q_load_ptr rfl rfl rfl rfl ty22) ?_
    refine HChain.run rfl rfl (.plain rfl) rfl (fun f x => q_move rfl rfl) ?_
    refine HChain.run rfl rfl (.plain rfl) rfl (fun f x => q_add rfl rfl rfl) ?_
    refine HChain.run rfl rfl (.plain rfl) rfl (fun f x => q_slice_l rfl rfl rfl sl22 g15.1 g15.2) ?_
    refine HChain.tail rfl ?_
    refine HChain.tail rfl ?_
    exact HChain.nil _ _
  · refine TTree.node 0 [] rfl ?_
    refine AllP.cons ?_ ?_
    · refine TStep.d (objs' := [.box [.vec a0_q.L.length 11 (gL cSProfile dSProfile a0_q.L), .int .i64 a0_q.Conn, .str a0_q.Txn, .int .i64 a0_q.Start, .int .i64 a0_q.T, .int .i64 a0_q.Length], .arr 31 11 (([] : List SProfile)).length (gL cSProfile dSProfile (([] : List SProfile)))]) (v := .c (.own 1 (([] : List SProfile)).length)) [] 65 rfl rfl rfl rfl rfl (fun s2 => by refine EOp.eq (e_bslice0L (α := SProfile) (c := cSProfile) (d0 := dSProfile) rfl rfl rfl rfl sl22) ?_; rfl) ?_
      refine ⟨rfl, (SameP.zero.s rfl), ?_⟩
      refine TTree.node 5 [] rfl ?_
      refine AllP.cons ?_ ?_
      · refine TStep.d (objs' := [.box [.vec a0_q.L.length 11 (gL cSProfile dSProfile a0_q.L), .int .i64 a0_q.Conn, .str a0_q.Txn, .int .i64 a0_q.Start, .int .i64 a0_q.T, .int .i64 a0_q.Length], .dead, .arr 31 11 ((([] : List SProfile)) ++ (subL a0_q.L 0 (Int.tmod (IntKind.wrap .i64 a1_i) (((a0_q.L).length : Int)) : Int).toNat)).length (gL cSProfile dSProfile ((([] : List SProfile)) ++ (subL a0_q.L 0 (Int.tmod (IntKind.wrap .i64 a1_i) (((a0_q.L).length : Int)) : Int).toNat)))]) (v := .c (.own 2 ((([] : List SProfile)) ++ (subL a0_q.L 0 (Int.tmod (IntKind.wrap .i64 a1_i) (((a0_q.L).length : Int)) : Int).toNat)).length)) [] 70 rfl rfl rfl rfl rfl (fun s2 => by refine EOp.eq (e_appendL (c := cSProfile) (d0 := dSProfile) (l := ([] : List SProfile)) (l2 := subL a0_q.L 0 (Int.tmod (IntKind.wrap .i64 a1_i) (((a0_q.L).length : Int)) : Int).toNat) rfl rfl rfl rfl rfl rfl (.inl rfl) sl22 z31 rfl rfl oneSProfile g14.1 g14.2) ?_; rfl) ?_
        refine ⟨rfl, (SameP.zero.s rfl), ?_⟩
        refine TTree.node 11 [] rfl ?_
        refine AllP.cons ?_ ?_
        · refine TStep.d (objs' := [.box [.vec a0_q.L.length 11 (gL cSProfile dSProfile a0_q.L), .int .i64 a0_q.Conn, .str a0_q.Txn, .int .i64 a0_q.Start, .int .i64 a0_q.T, .int .i64 a0_q.Length], .dead, .dead, .arr 31 11 (((([] : List SProfile)) ++ (subL a0_q.L 0 (Int.tmod (IntKind.wrap .i64 a1_i) (((a0_q.L).length : Int)) : Int).toNat)) ++ (subL a0_q.L (IntKind.wrap .i64 (Int.tmod (IntKind.wrap .i64 a1_i) (((a0_q.L).length : Int)) + 1) : Int).toNat (a0_q.L).length)).length (gL cSProfile dSProfile (((([] : List SProfile)) ++ (subL a0_q.L 0 (Int.tmod (IntKind.wrap .i64 a1_i) (((a0_q.L).length : Int)) : Int).toNat)) ++ (subL a0_q.L (IntKind.wrap .i64 (Int.tmod (IntKind.wrap .i64 a1_i) (((a0_q.L).length : Int)) + 1) : Int).toNat (a0_q.L).length)))]) (v := .c (.own 3 (((([] : List SProfile)) ++ (subL a0_q.L 0 (Int.tmod (IntKind.wrap .i64 a1_i) (((a0_q.L).length : Int)) : Int).toNat)) ++ (subL a0_q.L (IntKind.wrap .i64 (Int.tmod (IntKind.wrap .i64 a1_i) (((a0_q.L).length : Int)) + 1) : Int).toNat (a0_q.L).length)).length)) [] 76 rfl rfl rfl rfl rfl (fun s2 => by refine EOp.eq (e_appendL (c := cSProfile) (d0 := dSProfile) (l := (([] : List SProfile)) ++ (subL a0_q.L 0 (Int.tmod (IntKind.wrap .i64 a1_i) (((a0_q.L).length : Int)) : Int).toNat)) (l2 := subL a0_q.L (IntKind.wrap .i64 (Int.tmod (IntKind.wrap .i64 a1_i) (((a0_q.L).length : Int)) + 1) : Int).toNat (a0_q.L).length) rfl rfl rfl rfl rfl rfl (.inl rfl) sl22 z31 rfl rfl oneSProfile g16.1 g16.2) ?_; rfl) ?_
          refine ⟨rfl, (SameP.zero.s rfl), ?_⟩
          refine TTree.node 12 [] rfl ?_
          refine AllP.cons ?_ ?_
          · refine TStep.d (objs' := [.box [.vec a0_q.L.length 11 (gL cSProfile dSProfile a0_q.L), .int .i64 a0_q.Conn, .str a0_q.Txn, .int .i64 a0_q.Start, .int .i64 a0_q.T, .int .i64 a0_q.Length], .dead, .dead, .arr 31 11 (((([] : List SProfile)) ++ (subL a0_q.L 0 (Int.tmod (IntKind.wrap .i64 a1_i) (((a0_q.L).length : Int)) : Int).toNat)) ++ (subL a0_q.L (IntKind.wrap .i64 (Int.tmod (IntKind.wrap .i64 a1_i) (((a0_q.L).length : Int)) + 1) : Int).toNat (a0_q.L).length)).length (gL cSProfile dSProfile (((([] : List SProfile)) ++ (subL a0_q.L 0 (Int.tmod (IntKind.wrap .i64 a1_i) (((a0_q.L).length : Int)) : Int).toNat)) ++ (subL a0_q.L (IntKind.wrap .i64 (Int.tmod (IntKind.wrap .i64 a1_i) (((a0_q.L).length : Int)) + 1) : Int).toNat (a0_q.L).length)))]) (v := .c (.own 3 (((([] : List SProfile)) ++ (subL a0_q.L 0 (Int.tmod (IntKind.wrap .i64 a1_i) (((a0_q.L).length : Int)) : Int).toNat)) ++ (subL a0_q.L (IntKind.wrap .i64 (Int.tmod (IntKind.wrap .i64 a1_i) (((a0_q.L).length : Int)) + 1) : Int).toNat (a0_q.L).length)).length)) [] 9 rfl rfl rfl rfl rfl (fun s2 => by refine EOp.eq (EOp.qd rfl rfl (q_assign rfl rfl)) ?_; rfl) ?_
            refine ⟨rfl, (SameP.zero.s rfl), ?_⟩
            exact TTree.leaf rfl (sub_gen [0, 3] rfl rfl ⟨zc rfl rfl, zc rfl rfl, trivial⟩ ⟨⟨_, rfl, ⟨ii rfl rfl, ii rfl rfl, ii rfl rfl, ii rfl rfl, ii rfl rfl, ii rfl rfl, trivial⟩⟩, oa rfl, trivial⟩)
          exact AllP.nil
        exact AllP.nil
      exact AllP.nil
    exact AllP.nil
  refine SCode.seq ?_
  obtain ⟨c_17, g18, h⟩ := bind_out h
  try dsimp only at h
  obtain ⟨c_19, g20, h⟩ := bind_out h
  try dsimp only at h
  rcases cond_out h with ⟨g21, h⟩ | ⟨g21, h⟩
  · obtain ⟨c_22, g23, h⟩ := bind_out h
    try dsimp only at h
    refine SCode.draw (s' := [(4, .c (.bool c_22)), (101, .c (.bool c_22)), (100, .c (.bool c_22)), (99, .c (.bool (decide (c_17 = c_19)))), (98, .c (.bool (decide (c_17 = c_19)))), (97, .c (.int .i64 c_19)), (96, .c (.int .i64 a0_q.T)), (95, .c (.ptr 0 4)), (94, .c (.int .i64 a0_q.Start)), (93, .c (.ptr 0 3)), (92, .c (.str a0_q.Txn)), (91, .c (.ptr 0 2)), (90, .c (.int .i64 a0_q.Conn)), (89, .c (.ptr 0 1)), (88, .c (.vec a0_q.L.length 11 (gL cSProfile dSProfile a0_q.L))), (87, .c (.ptr 0 0)), (86, .c (.int .i64 c_17)), (85, .c (.int .i64 a0_q.T)), (84, .c (.ptr 0 4)), (83, .c (.int .i64 a0_q.Start)), (82, .c (.ptr 0 3)), (81, .c (.str a0_q.Txn)), (80, .c (.ptr 0 2)), (79, .c (.int .i64 a0_q.Conn)), (78, .c (.ptr 0 1)), (77, .c (.own 1 (((([] : List SProfile)) ++ (subL a0_q.L 0 (Int.tmod (IntKind.wrap .i64 a1_i) (((a0_q.L).length : Int)) : Int).toNat)) ++ (subL a0_q.L (IntKind.wrap .i64 (Int.tmod (IntKind.wrap .i64 a1_i) (((a0_q.L).length : Int)) + 1) : Int).toNat (a0_q.L).length)).length)), (2, .c (.ptr 0 0)), (9, .c (.own 1 (((([] : List SProfile)) ++ (subL a0_q.L 0 (Int.tmod (IntKind.wrap .i64 a1_i) (((a0_q.L).length : Int)) : Int).toNat)) ++ (subL a0_q.L (IntKind.wrap .i64 (Int.tmod (IntKind.wrap .i64 a1_i) (((a0_q.L).length : Int)) + 1) : Int).toNat (a0_q.L).length)).length))]) mixed [[], [], [1], [], [3], [], [5], [], [7], [0, 1, 2, 3, 4, 5, 6, 7, 8], [], [10], [], [12], [], [14], [], [16], [], [18], [0, 1, 2, 3, 4, 5, 6, 7, 8, 9, 10, 11, 12, 13, 14, 15, 16, 17, 18, 19], [0, 1, 2, 3, 4, 5, 6, 7, 8, 9, 10, 11, 12, 13, 14, 15, 16, 17, 18, 19, 20], [0, 1, 2, 3, 4, 5, 6, 7, 8, 9, 10, 11, 12, 13, 14, 15, 16, 17, 18, 19, 20, 21], [0, 1, 2, 3, 4, 5, 6, 7, 8, 9, 10, 11, 12, 13, 14, 15, 16, 17, 18, 19, 20, 21, 22], [0, 1, 2, 3, 4, 5, 6, 7, 8, 9, 10, 11, 12, 13, 14, 15, 16, 17, 18, 19, 20, 21, 22, 23], [0, 1, 2, 3, 4, 5, 6, 7, 8, 9, 10, 11, 12, 13, 14, 15, 16, 17, 18, 19, 20, 21, 22, 23, 24]] 26 0 rfl rfl ?_ ?_
    · refine QChain.run rfl (.plain rfl) rfl (q_move rfl rfl) ?_
      refine QChain.run rfl (.plain rfl) rfl (q_field_ptr rfl rfl fd24_1) ?_
      refine QChain.run rfl (.plain rfl) rfl (q_load_ptr rfl rfl rfl rfl ty3) ?_
      refine QChain.run rfl (.plain rfl) rfl (q_field_ptr rfl rfl fd24_2) ?_
      refine QChain.run rfl (.plain rfl) rfl (q_load_ptr rfl rfl rfl rfl ty9) ?_
      refine QChain.run rfl (.plain rfl) rfl (q_field_ptr rfl rfl fd24_3) ?_
      refine QChain.run rfl (.plain rfl) rfl (q_load_ptr rfl rfl rfl rfl ty3) ?_
      refine QChain.run rfl (.plain rfl) rfl (q_field_ptr rfl rfl fd24_4) ?_
      refine QChain.run rfl (.plain rfl) rfl (q_load_ptr rfl rfl rfl rfl ty3) ?_
      refine QChain.run rfl (.plain rfl) rfl (q_call (compose_At_ok F (((([] : List SProfile)) ++ (subL a0_q.L 0 (Int.tmod (IntKind.wrap .i64 a1_i) (((a0_q.L).length : Int)) : Int).toNat)) ++ (subL a0_q.L (IntKind.wrap .i64 (Int.tmod (IntKind.wrap .i64 a1_i) (((a0_q.L).length : Int)) + 1) : Int).toNat (a0_q.L).length)) a0_q.Conn a0_q.Txn a0_q.Start a0_q.T c_17 g18) [1] rfl fn11 ⟨⟨_, rfl, .inr (.inl ⟨_, _, _, _, _, _, _, rfl, rfl, rfl, Nat.le_refl _, fun _ _ _ _ => rfl, by decide⟩)⟩, ⟨_, rfl, .inl ⟨rfl, rfl⟩⟩, ⟨_, rfl, .inl ⟨rfl, rfl⟩⟩, ⟨_, rfl, .inl ⟨rfl, rfl⟩⟩, ⟨_, rfl, .inl ⟨rfl, rfl⟩⟩, trivial⟩ (.inr rfl)) ?_
      refine QChain.run rfl (.plain rfl) rfl (q_field_ptr rfl rfl fd24_0) ?_
      refine QChain.run rfl (.plain rfl) rfl (q_load_ptr rfl rfl rfl rfl ty22) ?_
      refine QChain.run rfl (.plain rfl) rfl (q_field_ptr rfl rfl fd24_1) ?_
      refine QChain.run rfl (.plain rfl) rfl (q_load_ptr rfl rfl rfl rfl ty3) ?_
      refine QChain.run rfl (.plain rfl) rfl (q_field_ptr rfl rfl fd24_2) ?_
      refine QChain.run rfl (.plain rfl) rfl (q_load_ptr rfl rfl rfl rfl ty9) ?_
      refine QChain.run rfl (.plain rfl) rfl (q_field_ptr rfl rfl fd24_3) ?_
      refine QChain.run rfl (.plain rfl) rfl (q_load_ptr rfl rfl rfl rfl ty3) ?_
      refine QChain.run rfl (.plain rfl) rfl (q_field_ptr rfl rfl fd24_4) ?_
      refine QChain.run rfl (.plain rfl) rfl (q_load_ptr rfl rfl rfl rfl ty3) ?_
      refine QChain.run rfl (.plain rfl) rfl (q_call (compose_At_ok F a0_q.L a0_q.Conn a0_q.Txn a0_q.Start a0_q.T c_19 g20) [] rfl fn11 ⟨⟨_, rfl, .inl ⟨rfl, rfl⟩⟩, ⟨_, rfl, .inl ⟨rfl, rfl⟩⟩, ⟨_, rfl, .inl ⟨rfl, rfl⟩⟩, ⟨_, rfl, .inl ⟨rfl, rfl⟩⟩, ⟨_, rfl, .inl ⟨rfl, rfl⟩⟩, trivial⟩ (.inl rfl)) ?_
      refine QChain.run rfl (.plain rfl) rfl (q_eql rfl rfl rfl) ?_
      refine QChain.run rfl (.plain rfl) rfl (q_move rfl rfl) ?_
      refine QChain.run rfl (.guard 22 99 true rfl rfl (gT g21)) rfl (q_call (chargenetlaw16_exampleHolds_ok F  c_22 g23) [] rfl fn9 trivial (.inl rfl)) ?_
      refine QChain.run rfl (.plain rfl) rfl (q_pick_t rfl rfl g21 rfl) ?_
      refine QChain.run rfl (.plain rfl) rfl (q_assign rfl rfl) ?_
      exact QChain.nil _ _
    refine (show SOps _ _ _ [] _ _ from ?_)
    refine SOps.sub (st' := ⟨[(4, .c (.bool c_22))], []⟩) (sub_gen [] rfl rfl ⟨zc rfl rfl, trivial⟩ trivial) ?_
    refine SOps.nil ?_
    refine SCode.ret ?_
    obtain rfl := Option.some.inj h
    exact ⟨⟨[(4, .c (.bool c_22))], []⟩, _, sub_gen [] rfl rfl ⟨zc rfl rfl, trivial⟩ trivial, resA1 (v := .c (.bool c_22)) rfl rfl, rfl⟩
  refine SCode.draw (s' := [(4, .c (.bool false)), (101, .c (.bool false)), (100, .c (.raw (.tuple #[]))), (99, .c (.bool (decide (c_17 = c_19)))), (98, .c (.bool (decide (c_17 = c_19)))), (97, .c (.int .i64 c_19)), (96, .c (.int .i64 a0_q.T)), (95, .c (.ptr 0 4)), (94, .c (.int .i64 a0_q.Start)), (93, .c (.ptr 0 3)), (92, .c (.str a0_q.Txn)), (91, .c (.ptr 0 2)), (90, .c (.int .i64 a0_q.Conn)), (89, .c (.ptr 0 1)), (88, .c (.vec a0_q.L.length 11 (gL cSProfile dSProfile a0_q.L))), (87, .c (.ptr 0 0)), (86, .c (.int .i64 c_17)), (85, .c (.int .i64 a0_q.T)), (84, .c (.ptr 0 4)), (83, .c (.int .i64 a0_q.Start)), (82, .c (.ptr 0 3)), (81, .c (.str a0_q.Txn)), (80, .c (.ptr 0 2)), (79, .c (.int .i64 a0_q.Conn)), (78, .c (.ptr 0 1)), (77, .c (.own 1 (((([] : List SProfile)) ++ (subL a0_q.L 0 (Int.tmod (IntKind.wrap .i64 a1_i) (((a0_q.L).length : Int)) : Int).toNat)) ++ (subL a0_q.L (IntKind.wrap .i64 (Int.tmod (IntKind.wrap .i64 a1_i) (((a0_q.L).length : Int)) + 1) : Int).toNat (a0_q.L).length)).length)), (2, .c (.ptr 0 0)), (9, .c (.own 1 (((([] : List SProfile)) ++ (subL a0_q.L 0 (Int.tmod (IntKind.wrap .i64 a1_i) (((a0_q.L).length : Int)) : Int).toNat)) ++ (subL a0_q.L (IntKind.wrap .i64 (Int.tmod (IntKind.wrap .i64 a1_i) (((a0_q.L).length : Int)) + 1) : Int).toNat (a0_q.L).length)).length))]) mixed [[], [], [1], [], [3], [], [5], [], [7], [0, 1, 2, 3, 4, 5, 6, 7, 8], [], [10], [], [12], [], [14], [], [16], [], [18], [0, 1, 2, 3, 4, 5, 6, 7, 8, 9, 10, 11, 12, 13, 14, 15, 16, 17, 18, 19], [0, 1, 2, 3, 4, 5, 6, 7, 8, 9, 10, 11, 12, 13, 14, 15, 16, 17, 18, 19, 20], [0, 1, 2, 3, 4, 5, 6, 7, 8, 9, 10, 11, 12, 13, 14, 15, 16, 17, 18, 19, 20, 21], [0, 1, 2, 3, 4, 5, 6, 7, 8, 9, 10, 11, 12, 13, 14, 15, 16, 17, 18, 19, 20, 21, 22], [0, 1, 2, 3, 4, 5, 6, 7, 8, 9, 10, 11, 12, 13, 14, 15, 16, 17, 18, 19, 20, 21, 22, 23], [0, 1, 2, 3, 4, 5, 6, 7, 8, 9, 10, 11, 12, 13, 14, 15, 16, 17, 18, 19, 20, 21, 22, 23, 24]] 26 0 rfl rfl ?_ ?_
  · refine QChain.run rfl (.plain rfl) rfl (q_move rfl rfl) ?_
    refine QChain.run rfl (.plain rfl) rfl (q_field_ptr rfl rfl fd24_1) ?_
    refine QChain.run rfl (.plain rfl) rfl (q_load_ptr rfl rfl rfl rfl ty3) ?_
    refine QChain.run rfl (.plain rfl) rfl (q_field_ptr rfl rfl fd24_2) ?_
    refine QChain.run rfl (.plain rfl) rfl (q_load_ptr rfl rfl rfl rfl ty9) ?_
    refine QChain.run rfl (.plain rfl) rfl (q_field_ptr rfl rfl fd24_3) ?_
    refine QChain.run rfl (.plain rfl) rfl (q_load_ptr rfl rfl rfl rfl ty3) ?_
    refine QChain.run rfl (.plain rfl) rfl (q_field_ptr rfl rfl fd24_4) ?_
    refine QChain.run rfl (.plain rfl) rfl (q_load_ptr rfl rfl rfl rfl ty3) ?_
    refine QChain.run rfl (.plain rfl) rfl (q_call (compose_At_ok F (((([] : List SProfile)) ++ (subL a0_q.L 0 (Int.tmod (IntKind.wrap .i64 a1_i) (((a0_q.L).length : Int)) : Int).toNat)) ++ (subL a0_q.L (IntKind.wrap .i64 (Int.tmod (IntKind.wrap .i64 a1_i) (((a0_q.L).length : Int)) + 1) : Int).toNat (a0_q.L).length)) a0_q.Conn a0_q.Txn a0_q.Start a0_q.T c_17 g18) [1] rfl fn11 ⟨⟨_, rfl, .inr (.inl ⟨_, _, _, _, _, _, _, rfl, rfl, rfl, Nat.le_refl _, fun _ _ _ _ => rfl, by decide⟩)⟩, ⟨_, rfl, .inl ⟨rfl, rfl⟩⟩, ⟨_, rfl, .inl ⟨rfl, rfl⟩⟩, ⟨_, rfl, .inl ⟨rfl, rfl⟩⟩, ⟨_, rfl, .inl ⟨rfl, rfl⟩⟩, trivial⟩ (.inr rfl)) ?_
    refine QChain.run rfl (.plain rfl) rfl (q_field_ptr rfl rfl fd24_0) ?_
    refine QChain.run rfl (.plain rfl) rfl (q_load_ptr rfl rfl rfl rfl ty22) ?_
    refine QChain.run rfl (.plain rfl) rfl (q_field_ptr rfl rfl fd24_1) ?_
    refine QChain.run rfl (.plain rfl) rfl (q_load_ptr rfl rfl rfl rfl ty3) ?_
    refine QChain.run rfl (.plain rfl) rfl (q_field_ptr rfl rfl fd24_2) ?_
    refine QChain.run rfl (.plain rfl) rfl (q_load_ptr rfl rfl rfl rfl ty9) ?_
    refine QChain.run rfl (.plain rfl) rfl (q_field_ptr rfl rfl fd24_3) ?_
    refine QChain.run rfl (.plain rfl) rfl (q_load_ptr rfl rfl rfl rfl ty3) ?_
    refine QChain.run rfl (.plain rfl) rfl (q_field_ptr rfl rfl fd24_4) ?_
    refine QChain.run rfl (.plain rfl) rfl (q_load_ptr rfl rfl rfl rfl ty3) ?_
    refine QChain.run rfl (.plain rfl) rfl (q_call (compose_At_ok F a0_q.L a0_q.Conn a0_q.Txn a0_q.Start a0_q.T c_19 g20) [] rfl fn11 ⟨⟨_, rfl, .inl ⟨rfl, rfl⟩⟩, ⟨_, rfl, .inl ⟨rfl, rfl⟩⟩, ⟨_, rfl, .inl ⟨rfl, rfl⟩⟩, ⟨_, rfl, .inl ⟨rfl, rfl⟩⟩, ⟨_, rfl, .inl ⟨rfl, rfl⟩⟩, trivial⟩ (.inl rfl)) ?_
    refine QChain.run rfl (.plain rfl) rfl (q_eql rfl rfl rfl) ?_
    refine QChain.run rfl (.plain rfl) rfl (q_move rfl rfl) ?_
    refine QChain.skip rfl ⟨22, 99, true, rfl, rfl, (.inl (gF g21))⟩ rfl ?_
    refine QChain.run rfl (.plain rfl) rfl (q_pick_f rfl rfl g21 rfl) ?_
    refine QChain.run rfl (.plain rfl) rfl (q_assign rfl rfl) ?_
    exact QChain.nil _ _
  refine (show SOps _ _ _ [] _ _ from ?_)
  refine SOps.sub (st' := ⟨[(4, .c (.bool false))], []⟩) (sub_gen [] rfl rfl ⟨zc rfl rfl, trivial⟩ trivial) ?_
  refine SOps.nil ?_
  refine SCode.ret ?_
  obtain rfl := Option.some.inj h
  exact ⟨⟨[(4, .c (.bool false))], []⟩, _, sub_gen [] rfl rfl ⟨zc rfl rfl, trivial⟩ trivial, resA1 (v := .c (.bool false)) rfl rfl, rfl⟩
end Go.Proofs.Ytjpooimkhkhgkaa.W
