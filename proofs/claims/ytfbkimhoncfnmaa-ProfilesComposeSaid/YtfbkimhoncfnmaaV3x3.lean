/- Written by a program of ours (wip/eng/gen.py): the functions compute their models. -/
import Derived.Test.YtfbkimhoncfnmaaFacts
import Derived.Test.YtfbkimhoncfnmaaV3x2
namespace Go.Proofs.Ytfbkimhoncfnmaa.W
open Go Go.Proofs Go.Proofs.Ytfbkimhoncfnmaa.E Go.Proofs.Ytfbkimhoncfnmaa.M
set_option linter.unusedVariables false
set_option maxRecDepth 100000 in
set_option maxHeartbeats 8000000 in
theorem profile_Put_ok (F : Nat) (a0_l : List SProfile) (a1_p : SProfile) (r : (List SProfile) × Int) (h : profile_Put F a0_l a1_p = some r) :
    SFun Try.prog 5 [] [.c (.vec a0_l.length 11 (gL cSProfile dSProfile a0_l)), .a [.int .i64 a1_p.ID, .int .i64 a1_p.Level, .int .i64 a1_p.Purpose, .int .i64 a1_p.Kind, .int .i64 a1_p.Conn, .str a1_p.Txn, .int .i64 a1_p.Span_From, .int .i64 a1_p.Span_To, .int .i64 a1_p.Start, .int .i64 a1_p.Duration, .vec a1_p.Periods.length 2 (gL cSPeriod dSPeriod a1_p.Periods)]] (fun x _ => x = .t [.c (.vec r.1.length 11 (gL cSProfile dSProfile r.1)), .c (.int .i64 r.2)]) := by
  refine SFun.of (n := 68) Try.func5 rfl rfl rfl ?_
  unfold profile_Put at h
  show SCode _ _ _ ⟨[(0, .c (.vec a0_l.length 11 (gL cSProfile dSProfile a0_l))), (1, .a [.int .i64 a1_p.ID, .int .i64 a1_p.Level, .int .i64 a1_p.Purpose, .int .i64 a1_p.Kind, .int .i64 a1_p.Conn, .str a1_p.Txn, .int .i64 a1_p.Span_From, .int .i64 a1_p.Span_To, .int .i64 a1_p.Start, .int .i64 a1_p.Duration, .vec a1_p.Periods.length 2 (gL cSPeriod dSPeriod a1_p.Periods)])], []⟩ _
  refine SCode.seq ?_
  refine SCode.region (show SOps _ _ _ [0, 1, 2] _ _ from ?_)
  refine SOps.e rfl (.plain rfl) (e_box rfl rfl rfl rfl rfl rfl) ?_
  refine SOps.q rfl (.plain rfl) rfl (q_assign rfl rfl) ?_
  refine SOps.q rfl (.plain rfl) rfl (q_assign rfl rfl) ?_
  refine SOps.sub (st' := ⟨[(0, .c (.vec a0_l.length 11 (gL cSProfile dSProfile a0_l))), (3, .c (.ptr 0 0))], [.box [.int .i64 a1_p.ID, .int .i64 a1_p.Level, .int .i64 a1_p.Purpose, .int .i64 a1_p.Kind, .int .i64 a1_p.Conn, .str a1_p.Txn, .int .i64 a1_p.Span_From, .int .i64 a1_p.Span_To, .int .i64 a1_p.Start, .int .i64 a1_p.Duration, .vec a1_p.Periods.length 2 (gL cSPeriod dSPeriod a1_p.Periods)]]⟩) (sub_gen [0] rfl rfl ⟨zc rfl rfl, zc rfl rfl, trivial⟩ ⟨⟨_, rfl, ⟨ii rfl rfl, ii rfl rfl, ii rfl rfl, ii rfl rfl, ii rfl rfl, ii rfl rfl, ii rfl rfl, ii rfl rfl, ii rfl rfl, ii rfl rfl, ii rfl rfl, trivial⟩⟩, trivial⟩) ?_
  refine SOps.nil ?_
  refine SCode.seq ?_
  refine SCode.seq ?_
  obtain ⟨c_1, g2, h⟩ := bind_out h
  try dsimp only at h
  refine SCode.region (show SOps _ _ _ [0, 1, 2] _ _ from ?_)
  refine SOps.q rfl (.plain rfl) rfl (q_load_ptr_all rfl rfl rfl rfl rfl ty29) ?_
  refine SOps.q rfl (.plain rfl) rfl (q_call (profile_Valid_ok F a1_p c_1 g2) [] rfl fn4 ⟨⟨rfl, rfl⟩, trivial⟩ (.inl rfl)) ?_
  refine SOps.q rfl (.plain rfl) rfl (q_assign rfl rfl) ?_
  refine SOps.sub (st' := ⟨[(0, .c (.vec a0_l.length 11 (gL cSProfile dSProfile a0_l))), (3, .c (.ptr 0 0)), (6, .c (.int .i64 c_1))], [.box [.int .i64 a1_p.ID, .int .i64 a1_p.Level, .int .i64 a1_p.Purpose, .int .i64 a1_p.Kind, .int .i64 a1_p.Conn, .str a1_p.Txn, .int .i64 a1_p.Span_From, .int .i64 a1_p.Span_To, .int .i64 a1_p.Start, .int .i64 a1_p.Duration, .vec a1_p.Periods.length 2 (gL cSPeriod dSPeriod a1_p.Periods)]]⟩) (sub_gen [0] rfl rfl ⟨zc rfl rfl, zc rfl rfl, zc rfl rfl, trivial⟩ ⟨⟨_, rfl, ⟨ii rfl rfl, ii rfl rfl, ii rfl rfl, ii rfl rfl, ii rfl rfl, ii rfl rfl, ii rfl rfl, ii rfl rfl, ii rfl rfl, ii rfl rfl, ii rfl rfl, trivial⟩⟩, trivial⟩) ?_
  refine SOps.nil ?_
  refine SCode.seq ?_
  refine SCode.region (show SOps _ _ _ [0, 1] _ _ from ?_)
  refine SOps.q rfl (.plain rfl) rfl (q_move rfl rfl) ?_
  refine SOps.q rfl (.plain rfl) rfl (q_neq rfl rfl rfl) ?_
  refine SOps.sub (st' := ⟨[(0, .c (.vec a0_l.length 11 (gL cSProfile dSProfile a0_l))), (3, .c (.ptr 0 0)), (6, .c (.int .i64 c_1)), (13, .c (.bool ((!decide (c_1 = 0)))))], [.box [.int .i64 a1_p.ID, .int .i64 a1_p.Level, .int .i64 a1_p.Purpose, .int .i64 a1_p.Kind, .int .i64 a1_p.Conn, .str a1_p.Txn, .int .i64 a1_p.Span_From, .int .i64 a1_p.Span_To, .int .i64 a1_p.Start, .int .i64 a1_p.Duration, .vec a1_p.Periods.length 2 (gL cSPeriod dSPeriod a1_p.Periods)]]⟩) (sub_gen [0] rfl rfl ⟨zc rfl rfl, zc rfl rfl, zc rfl rfl, zc rfl rfl, trivial⟩ ⟨⟨_, rfl, ⟨ii rfl rfl, ii rfl rfl, ii rfl rfl, ii rfl rfl, ii rfl rfl, ii rfl rfl, ii rfl rfl, ii rfl rfl, ii rfl rfl, ii rfl rfl, ii rfl rfl, trivial⟩⟩, trivial⟩) ?_
  refine SOps.nil ?_
  rcases cond_out h with ⟨g3, h⟩ | ⟨g3, h⟩
  · refine SCode.cond_t rfl g3 ?_
    refine SCode.seq ?_
    refine SCode.region (show SOps _ _ _ [0, 1, 2, 3] _ _ from ?_)
    refine SOps.q rfl (.plain rfl) rfl (q_move rfl rfl) ?_
    refine SOps.q rfl (.plain rfl) rfl (q_move rfl rfl) ?_
    refine SOps.q rfl (.plain rfl) rfl (q_assign rfl rfl) ?_
    refine SOps.q rfl (.plain rfl) rfl (q_assign rfl rfl) ?_
    refine SOps.sub (st' := ⟨[(4, .c (.vec a0_l.length 11 (gL cSProfile dSProfile a0_l))), (5, .c (.int .i64 c_1))], []⟩) (sub_gen [] rfl rfl ⟨zc rfl rfl, zc rfl rfl, trivial⟩ trivial) ?_
    refine SOps.nil ?_
    refine SCode.ret ?_
    obtain rfl := Option.some.inj h
    exact ⟨⟨[(4, .c (.vec a0_l.length 11 (gL cSProfile dSProfile a0_l))), (5, .c (.int .i64 c_1))], []⟩, _, sub_gen [] rfl rfl ⟨zc rfl rfl, zc rfl rfl, trivial⟩ trivial, resA2 (v1 := .c (.vec a0_l.length 11 (gL cSProfile dSProfile a0_l))) (v2 := .c (.int .i64 c_1)) rfl rfl rfl, rfl⟩
  refine SCode.cond_f rfl g3 ?_
  refine SCode.skip ?_
  refine SCode.seq ?_
  refine SCode.region (show SOps _ _ _ [0] _ _ from ?_)
  refine SOps.q rfl (.plain rfl) rfl (q_assign rfl rfl) ?_
  refine SOps.nilArrL (T := 29) (k := 11) cSProfile dSProfile (s := 7) rfl rfl ?_
  refine SOps.sub (st' := ⟨[(0, .c (.vec a0_l.length 11 (gL cSProfile dSProfile a0_l))), (3, .c (.ptr 0 0)), (7, .c (.own 1 (([] : List SProfile)).length))], [.box [.int .i64 a1_p.ID, .int .i64 a1_p.Level, .int .i64 a1_p.Purpose, .int .i64 a1_p.Kind, .int .i64 a1_p.Conn, .str a1_p.Txn, .int .i64 a1_p.Span_From, .int .i64 a1_p.Span_To, .int .i64 a1_p.Start, .int .i64 a1_p.Duration, .vec a1_p.Periods.length 2 (gL cSPeriod dSPeriod a1_p.Periods)], .arr 29 11 (([] : List SProfile)).length (gL cSProfile dSProfile (([] : List SProfile)))]⟩) (sub_gen [0, 1] rfl rfl ⟨zc rfl rfl, zc rfl rfl, zc rfl rfl, trivial⟩ ⟨⟨_, rfl, ⟨ii rfl rfl, ii rfl rfl, ii rfl rfl, ii rfl rfl, ii rfl rfl, ii rfl rfl, ii rfl rfl, ii rfl rfl, ii rfl rfl, ii rfl rfl, ii rfl rfl, trivial⟩⟩, oa rfl, trivial⟩) ?_
  refine SOps.nil ?_
  refine SCode.join (σ := (List SProfile)) (S := fun s => ⟨[(0, .c (.vec a0_l.length 11 (gL cSProfile dSProfile a0_l))), (3, .c (.ptr 0 0)), (7, .c (.own 1 s.length))], [.box [.int .i64 a1_p.ID, .int .i64 a1_p.Level, .int .i64 a1_p.Purpose, .int .i64 a1_p.Kind, .int .i64 a1_p.Conn, .str a1_p.Txn, .int .i64 a1_p.Span_From, .int .i64 a1_p.Span_To, .int .i64 a1_p.Start, .int .i64 a1_p.Duration, .vec a1_p.Periods.length 2 (gL cSPeriod dSPeriod a1_p.Periods)], .arr 29 11 s.length (gL cSProfile dSProfile s)]⟩) (g := fun s => profile_Put_p9 F a0_l a1_p s = some r) ?_ ?_
  rotate_left
  · refine SCode.seq ?_
    refine SCode.region (show SOps _ _ _ [0, 1, 2] _ _ from ?_)
    refine SOps.q rfl (.plain rfl) rfl (q_move rfl rfl) ?_
    refine SOps.q rfl (.plain rfl) rfl (q_len_vec rfl rfl sl22) ?_
    refine SOps.q rfl (.plain rfl) rfl (q_move rfl rfl) ?_
    refine SOps.sub (st' := ⟨[(0, .c (.vec a0_l.length 11 (gL cSProfile dSProfile a0_l))), (3, .c (.ptr 0 0)), (7, .c (.own 1 (([] : List SProfile)).length)), (16, .c (.vec a0_l.length 11 (gL cSProfile dSProfile a0_l))), (17, .c (.int .i64 (((a0_l).length : Int)))), (18, .c (.int .i64 0))], [.box [.int .i64 a1_p.ID, .int .i64 a1_p.Level, .int .i64 a1_p.Purpose, .int .i64 a1_p.Kind, .int .i64 a1_p.Conn, .str a1_p.Txn, .int .i64 a1_p.Span_From, .int .i64 a1_p.Span_To, .int .i64 a1_p.Start, .int .i64 a1_p.Duration, .vec a1_p.Periods.length 2 (gL cSPeriod dSPeriod a1_p.Periods)], .arr 29 11 (([] : List SProfile)).length (gL cSProfile dSProfile (([] : List SProfile)))]⟩) (sub_gen [0, 1] rfl rfl ⟨zc rfl rfl, zc rfl rfl, zc rfl rfl, zc rfl rfl, zc rfl rfl, zc rfl rfl, trivial⟩ ⟨⟨_, rfl, ⟨ii rfl rfl, ii rfl rfl, ii rfl rfl, ii rfl rfl, ii rfl rfl, ii rfl rfl, ii rfl rfl, ii rfl rfl, ii rfl rfl, ii rfl rfl, ii rfl rfl, trivial⟩⟩, oa rfl, trivial⟩) ?_
    refine SOps.nil ?_
    refine SCode.block ?_
    refine SCode.sub (st' := ⟨[(0, .c (.vec a0_l.length 11 (gL cSProfile dSProfile a0_l))), (3, .c (.ptr 0 0)), (7, .c (.own 1 ([] : List SProfile).length)), (16, .c (.vec a0_l.length 11 (gL cSProfile dSProfile a0_l))), (17, .c (.int .i64 (((a0_l).length : Int)))), (18, .c (.int .i64 0))], [.box [.int .i64 a1_p.ID, .int .i64 a1_p.Level, .int .i64 a1_p.Purpose, .int .i64 a1_p.Kind, .int .i64 a1_p.Conn, .str a1_p.Txn, .int .i64 a1_p.Span_From, .int .i64 a1_p.Span_To, .int .i64 a1_p.Start, .int .i64 a1_p.Duration, .vec a1_p.Periods.length 2 (gL cSPeriod dSPeriod a1_p.Periods)], .arr 29 11 ([] : List SProfile).length (gL cSProfile dSProfile ([] : List SProfile))]⟩) (sub_gen [0, 1] rfl rfl ⟨zc rfl rfl, zc rfl rfl, zc rfl rfl, zc rfl rfl, zc rfl rfl, zc rfl rfl, trivial⟩ ⟨⟨_, rfl, ⟨ii rfl rfl, ii rfl rfl, ii rfl rfl, ii rfl rfl, ii rfl rfl, ii rfl rfl, ii rfl rfl, ii rfl rfl, ii rfl rfl, ii rfl rfl, ii rfl rfl, trivial⟩⟩, oa rfl, trivial⟩) ?_
    refine (SCode.loop (σ := Nat × (Int × (List SProfile))) (S := fun s => ⟨[(0, .c (.vec a0_l.length 11 (gL cSProfile dSProfile a0_l))), (3, .c (.ptr 0 0)), (7, .c (.own 1 s.2.2.length)), (16, .c (.vec a0_l.length 11 (gL cSProfile dSProfile a0_l))), (17, .c (.int .i64 (((a0_l).length : Int)))), (18, .c (.int .i64 s.2.1))], [.box [.int .i64 a1_p.ID, .int .i64 a1_p.Level, .int .i64 a1_p.Purpose, .int .i64 a1_p.Kind, .int .i64 a1_p.Conn, .str a1_p.Txn, .int .i64 a1_p.Span_From, .int .i64 a1_p.Span_To, .int .i64 a1_p.Start, .int .i64 a1_p.Duration, .vec a1_p.Periods.length 2 (gL cSPeriod dSPeriod a1_p.Periods)], .arr 29 11 s.2.2.length (gL cSProfile dSProfile s.2.2)]⟩) (g := fun s => profile_Put_l38 F a0_l a1_p s.1 s.2.1 s.2.2 = some r) (μ := fun s => s.1) (F, (0, ([] : List SProfile))) h ?_)
    rintro ⟨n_38, ⟨t18_23, o1_24⟩⟩ h
    replace h : profile_Put_l38 F a0_l a1_p n_38 t18_23 o1_24 = some r := h
    show SCode _ _ _ ⟨[(0, .c (.vec a0_l.length 11 (gL cSProfile dSProfile a0_l))), (3, .c (.ptr 0 0)), (7, .c (.own 1 o1_24.length)), (16, .c (.vec a0_l.length 11 (gL cSProfile dSProfile a0_l))), (17, .c (.int .i64 (((a0_l).length : Int)))), (18, .c (.int .i64 t18_23))], [.box [.int .i64 a1_p.ID, .int .i64 a1_p.Level, .int .i64 a1_p.Purpose, .int .i64 a1_p.Kind, .int .i64 a1_p.Conn, .str a1_p.Txn, .int .i64 a1_p.Span_From, .int .i64 a1_p.Span_To, .int .i64 a1_p.Start, .int .i64 a1_p.Duration, .vec a1_p.Periods.length 2 (gL cSPeriod dSPeriod a1_p.Periods)], .arr 29 11 o1_24.length (gL cSProfile dSProfile o1_24)]⟩ _
    cases n_38 with
    | zero => cases h
    | succ n_38 =>
      replace h : profile_Put_b38 F a0_l a1_p (fun t18_23 o1_24 => profile_Put_l38 F a0_l a1_p n_38 t18_23 o1_24) t18_23 o1_24 = some r := h
      unfold profile_Put_b38 at h
      refine SCode.seq ?_
      refine SCode.region (show SOps _ _ _ [0] _ _ from ?_)
      refine SOps.q rfl (.plain rfl) rfl (q_lss rfl rfl rfl) ?_
      refine SOps.sub (st' := ⟨[(0, .c (.vec a0_l.length 11 (gL cSProfile dSProfile a0_l))), (3, .c (.ptr 0 0)), (7, .c (.own 1 o1_24.length)), (16, .c (.vec a0_l.length 11 (gL cSProfile dSProfile a0_l))), (17, .c (.int .i64 (((a0_l).length : Int)))), (18, .c (.int .i64 t18_23)), (19, .c (.bool (decide (t18_23 < ((a0_l).length : Int)))))], [.box [.int .i64 a1_p.ID, .int .i64 a1_p.Level, .int .i64 a1_p.Purpose, .int .i64 a1_p.Kind, .int .i64 a1_p.Conn, .str a1_p.Txn, .int .i64 a1_p.Span_From, .int .i64 a1_p.Span_To, .int .i64 a1_p.Start, .int .i64 a1_p.Duration, .vec a1_p.Periods.length 2 (gL cSPeriod dSPeriod a1_p.Periods)], .arr 29 11 o1_24.length (gL cSProfile dSProfile o1_24)]⟩) (sub_gen [0, 1] rfl rfl ⟨zc rfl rfl, zc rfl rfl, zc rfl rfl, zc rfl rfl, zc rfl rfl, zc rfl rfl, zc rfl rfl, trivial⟩ ⟨⟨_, rfl, ⟨ii rfl rfl, ii rfl rfl, ii rfl rfl, ii rfl rfl, ii rfl rfl, ii rfl rfl, ii rfl rfl, ii rfl rfl, ii rfl rfl, ii rfl rfl, ii rfl rfl, trivial⟩⟩, oa rfl, trivial⟩) ?_
      refine SOps.nil ?_
      refine SCode.seq ?_
      rcases cond_out h with ⟨g39, h⟩ | ⟨g39, h⟩
      · refine SCode.cond_t rfl g39 ?_
        refine SCode.skip ?_
        refine SCode.join (σ := (List SProfile)) (S := fun s => ⟨[(0, .c (.vec a0_l.length 11 (gL cSProfile dSProfile a0_l))), (3, .c (.ptr 0 0)), (7, .c (.own 1 s.length)), (16, .c (.vec a0_l.length 11 (gL cSProfile dSProfile a0_l))), (17, .c (.int .i64 (((a0_l).length : Int)))), (18, .c (.int .i64 t18_23))], [.box [.int .i64 a1_p.ID, .int .i64 a1_p.Level, .int .i64 a1_p.Purpose, .int .i64 a1_p.Kind, .int .i64 a1_p.Conn, .str a1_p.Txn, .int .i64 a1_p.Span_From, .int .i64 a1_p.Span_To, .int .i64 a1_p.Start, .int .i64 a1_p.Duration, .vec a1_p.Periods.length 2 (gL cSPeriod dSPeriod a1_p.Periods)], .arr 29 11 s.length (gL cSProfile dSProfile s)]⟩) (g := fun s => profile_Put_p41 t18_23 (fun t18_23 o1_24 => profile_Put_l38 F a0_l a1_p n_38 t18_23 o1_24) s = some r) ?_ ?_
        rotate_left
        · refine SCode.block ?_
          refine SCode.seq ?_
          obtain ⟨g42, h⟩ := guard_out h
          refine SCode.region (show SOps _ _ _ [0, 1, 2, 3] _ _ from ?_)
          refine SOps.q rfl (.plain rfl) rfl (q_index_vec rfl rfl rfl sl22 rfl g42.1 g42.2) ?_
          refine SOps.q rfl (.plain rfl) rfl (q_load_eptr_all rfl rfl rfl ty29) ?_
          refine SOps.e rfl (.plain rfl) (e_alloc rfl rfl rfl z29) ?_
          refine SOps.e rfl (.plain rfl) (e_store_box rfl rfl rfl rfl rfl ty29 rfl rfl rfl rfl) ?_
          refine SOps.sub (st' := ⟨[(0, .c (.vec a0_l.length 11 (gL cSProfile dSProfile a0_l))), (3, .c (.ptr 0 0)), (7, .c (.own 1 o1_24.length)), (9, .c (.ptr 2 0)), (16, .c (.vec a0_l.length 11 (gL cSProfile dSProfile a0_l))), (17, .c (.int .i64 (((a0_l).length : Int)))), (18, .c (.int .i64 t18_23))], [.box [.int .i64 a1_p.ID, .int .i64 a1_p.Level, .int .i64 a1_p.Purpose, .int .i64 a1_p.Kind, .int .i64 a1_p.Conn, .str a1_p.Txn, .int .i64 a1_p.Span_From, .int .i64 a1_p.Span_To, .int .i64 a1_p.Start, .int .i64 a1_p.Duration, .vec a1_p.Periods.length 2 (gL cSPeriod dSPeriod a1_p.Periods)], .arr 29 11 o1_24.length (gL cSProfile dSProfile o1_24), .box [.int .i64 ((a0_l.getD t18_23.toNat dSProfile).ID), .int .i64 ((a0_l.getD t18_23.toNat dSProfile).Level), .int .i64 ((a0_l.getD t18_23.toNat dSProfile).Purpose), .int .i64 ((a0_l.getD t18_23.toNat dSProfile).Kind), .int .i64 ((a0_l.getD t18_23.toNat dSProfile).Conn), .str ((a0_l.getD t18_23.toNat dSProfile).Txn), .int .i64 ((a0_l.getD t18_23.toNat dSProfile).Span_From), .int .i64 ((a0_l.getD t18_23.toNat dSProfile).Span_To), .int .i64 ((a0_l.getD t18_23.toNat dSProfile).Start), .int .i64 ((a0_l.getD t18_23.toNat dSProfile).Duration), .vec ((a0_l.getD t18_23.toNat dSProfile).Periods).length 2 (gL cSPeriod dSPeriod ((a0_l.getD t18_23.toNat dSProfile).Periods))]]⟩) (sub_gen [0, 1, 2] rfl rfl ⟨zc rfl rfl, zc rfl rfl, zc rfl rfl, zc rfl rfl, zc rfl rfl, zc rfl rfl, zc rfl rfl, trivial⟩ ⟨⟨_, rfl, ⟨ii rfl rfl, ii rfl rfl, ii rfl rfl, ii rfl rfl, ii rfl rfl, ii rfl rfl, ii rfl rfl, ii rfl rfl, ii rfl rfl, ii rfl rfl, ii rfl rfl, trivial⟩⟩, oa rfl, ⟨_, rfl, ⟨ii rfl rfl, ii rfl rfl, ii rfl rfl, ii rfl rfl, ii rfl rfl, ii rfl rfl, ii rfl rfl, ii rfl rfl, ii rfl rfl, ii rfl rfl, ii rfl rfl, trivial⟩⟩, trivial⟩) ?_
          refine SOps.nil ?_
          refine SCode.seq ?_
          refine SCode.seq ?_
          refine SCode.region (show SOps _ _ _ [0, 1, 2, 3, 4] _ _ from ?_)
          refine SOps.q rfl (.plain rfl) rfl (q_field_ptr rfl rfl fd29_0) ?_
          refine SOps.q rfl (.plain rfl) rfl (q_load_ptr rfl rfl rfl rfl ty3) ?_
          refine SOps.q rfl (.plain rfl) rfl (q_field_ptr rfl rfl fd29_0) ?_
          refine SOps.q rfl (.plain rfl) rfl (q_load_ptr rfl rfl rfl rfl ty3) ?_
          refine SOps.q rfl (.plain rfl) rfl (q_eql rfl rfl rfl) ?_
          refine SOps.sub (st' := ⟨[(0, .c (.vec a0_l.length 11 (gL cSProfile dSProfile a0_l))), (3, .c (.ptr 0 0)), (7, .c (.own 1 o1_24.length)), (9, .c (.ptr 2 0)), (16, .c (.vec a0_l.length 11 (gL cSProfile dSProfile a0_l))), (17, .c (.int .i64 (((a0_l).length : Int)))), (18, .c (.int .i64 t18_23)), (26, .c (.bool (decide ((a0_l.getD t18_23.toNat dSProfile).ID = a1_p.ID))))], [.box [.int .i64 a1_p.ID, .int .i64 a1_p.Level, .int .i64 a1_p.Purpose, .int .i64 a1_p.Kind, .int .i64 a1_p.Conn, .str a1_p.Txn, .int .i64 a1_p.Span_From, .int .i64 a1_p.Span_To, .int .i64 a1_p.Start, .int .i64 a1_p.Duration, .vec a1_p.Periods.length 2 (gL cSPeriod dSPeriod a1_p.Periods)], .arr 29 11 o1_24.length (gL cSProfile dSProfile o1_24), .box [.int .i64 ((a0_l.getD t18_23.toNat dSProfile).ID), .int .i64 ((a0_l.getD t18_23.toNat dSProfile).Level), .int .i64 ((a0_l.getD t18_23.toNat dSProfile).Purpose), .int .i64 ((a0_l.getD t18_23.toNat dSProfile).Kind), .int .i64 ((a0_l.getD t18_23.toNat dSProfile).Conn), .str ((a0_l.getD t18_23.toNat dSProfile).Txn), .int .i64 ((a0_l.getD t18_23.toNat dSProfile).Span_From), .int .i64 ((a0_l.getD t18_23.toNat dSProfile).Span_To), .int .i64 ((a0_l.getD t18_23.toNat dSProfile).Start), .int .i64 ((a0_l.getD t18_23.toNat dSProfile).Duration), .vec ((a0_l.getD t18_23.toNat dSProfile).Periods).length 2 (gL cSPeriod dSPeriod ((a0_l.getD t18_23.toNat dSProfile).Periods))]]⟩) (sub_gen [0, 1, 2] rfl rfl ⟨zc rfl rfl, zc rfl rfl, zc rfl rfl, zc rfl rfl, zc rfl rfl, zc rfl rfl, zc rfl rfl, zc rfl rfl, trivial⟩ ⟨⟨_, rfl, ⟨ii rfl rfl, ii rfl rfl, ii rfl rfl, ii rfl rfl, ii rfl rfl, ii rfl rfl, ii rfl rfl, ii rfl rfl, ii rfl rfl, ii rfl rfl, ii rfl rfl, trivial⟩⟩, oa rfl, ⟨_, rfl, ⟨ii rfl rfl, ii rfl rfl, ii rfl rfl, ii rfl rfl, ii rfl rfl, ii rfl rfl, ii rfl rfl, ii rfl rfl, ii rfl rfl, ii rfl rfl, ii rfl rfl, trivial⟩⟩, trivial⟩) ?_
          refine SOps.nil ?_
          rcases cond_out h with ⟨g43, h⟩ | ⟨g43, h⟩
          · refine SCode.cond_t rfl g43 ?_
            refine SCode.exit ?_
            exact ⟨o1_24, h, sub_gen [0, 1] rfl rfl ⟨zc rfl rfl, zc rfl rfl, zc rfl rfl, zc rfl rfl, zc rfl rfl, zc rfl rfl, trivial⟩ ⟨⟨_, rfl, ⟨ii rfl rfl, ii rfl rfl, ii rfl rfl, ii rfl rfl, ii rfl rfl, ii rfl rfl, ii rfl rfl, ii rfl rfl, ii rfl rfl, ii rfl rfl, ii rfl rfl, trivial⟩⟩, oa rfl, trivial⟩⟩
          refine SCode.cond_f rfl g43 ?_
          refine SCode.skip ?_
          refine SCode.join (σ := Unit) (S := fun s => ⟨[(0, .c (.vec a0_l.length 11 (gL cSProfile dSProfile a0_l))), (3, .c (.ptr 0 0)), (7, .c (.own 1 o1_24.length)), (9, .c (.ptr 2 0)), (16, .c (.vec a0_l.length 11 (gL cSProfile dSProfile a0_l))), (17, .c (.int .i64 (((a0_l).length : Int)))), (18, .c (.int .i64 t18_23))], [.box [.int .i64 a1_p.ID, .int .i64 a1_p.Level, .int .i64 a1_p.Purpose, .int .i64 a1_p.Kind, .int .i64 a1_p.Conn, .str a1_p.Txn, .int .i64 a1_p.Span_From, .int .i64 a1_p.Span_To, .int .i64 a1_p.Start, .int .i64 a1_p.Duration, .vec a1_p.Periods.length 2 (gL cSPeriod dSPeriod a1_p.Periods)], .arr 29 11 o1_24.length (gL cSProfile dSProfile o1_24), .box [.int .i64 ((a0_l.getD t18_23.toNat dSProfile).ID), .int .i64 ((a0_l.getD t18_23.toNat dSProfile).Level), .int .i64 ((a0_l.getD t18_23.toNat dSProfile).Purpose), .int .i64 ((a0_l.getD t18_23.toNat dSProfile).Kind), .int .i64 ((a0_l.getD t18_23.toNat dSProfile).Conn), .str ((a0_l.getD t18_23.toNat dSProfile).Txn), .int .i64 ((a0_l.getD t18_23.toNat dSProfile).Span_From), .int .i64 ((a0_l.getD t18_23.toNat dSProfile).Span_To), .int .i64 ((a0_l.getD t18_23.toNat dSProfile).Start), .int .i64 ((a0_l.getD t18_23.toNat dSProfile).Duration), .vec ((a0_l.getD t18_23.toNat dSProfile).Periods).length 2 (gL cSPeriod dSPeriod ((a0_l.getD t18_23.toNat dSProfile).Periods))]]⟩) (g := fun s => profile_Put_p47 F a0_l t18_23 o1_24 (fun t18_23 o1_24 => profile_Put_l38 F a0_l a1_p n_38 t18_23 o1_24) = some r) ?_ ?_
          rotate_left
          · refine SCode.seq ?_
            rcases cond_out h with ⟨g48, h⟩ | ⟨g48, h⟩
            · rcases cond_out h with ⟨g49, h⟩ | ⟨g49, h⟩
              · rcases cond_out h with ⟨g50, h⟩ | ⟨g50, h⟩
                · refine SCode.region (show SOps _ _ _ [0, 1, 2, 3, 4, 5, 6, 7, 8, 9, 10, 11, 12, 13, 14, 15, 16, 17, 18, 19, 20, 21, 22, 23, 24, 25] _ _ from ?_)
                  refine SOps.q rfl (.plain rfl) rfl (q_field_ptr rfl rfl fd29_2) ?_
                  refine SOps.q rfl (.plain rfl) rfl (q_load_ptr rfl rfl rfl rfl ty3) ?_
                  refine SOps.q rfl (.plain rfl) rfl (q_field_ptr rfl rfl fd29_2) ?_
                  refine SOps.q rfl (.plain rfl) rfl (q_load_ptr rfl rfl rfl rfl ty3) ?_
                  refine SOps.q rfl (.plain rfl) rfl (q_eql rfl rfl rfl) ?_
                  refine SOps.q rfl (.plain rfl) rfl (q_move rfl rfl) ?_
                  refine SOps.q rfl (.guard 5 32 true rfl rfl (gT g48)) rfl (q_field_ptr rfl rfl fd29_1) ?_
                  refine SOps.q rfl (.guard 5 32 true rfl rfl (gT g48)) rfl (q_load_ptr rfl rfl rfl rfl ty3) ?_
                  refine SOps.q rfl (.guard 5 32 true rfl rfl (gT g48)) rfl (q_field_ptr rfl rfl fd29_1) ?_
                  refine SOps.q rfl (.guard 5 32 true rfl rfl (gT g48)) rfl (q_load_ptr rfl rfl rfl rfl ty3) ?_
                  refine SOps.q rfl (.guard 5 32 true rfl rfl (gT g48)) rfl (q_eql rfl rfl rfl) ?_
                  refine SOps.q rfl (.plain rfl) rfl (q_pick_t rfl rfl g48 rfl) ?_
                  refine SOps.q rfl (.plain rfl) rfl (q_move rfl rfl) ?_
                  refine SOps.q rfl (.guard 12 39 true rfl rfl (gT g49)) rfl (q_field_ptr rfl rfl fd29_4) ?_
                  refine SOps.q rfl (.guard 12 39 true rfl rfl (gT g49)) rfl (q_load_ptr rfl rfl rfl rfl ty3) ?_
                  refine SOps.q rfl (.guard 12 39 true rfl rfl (gT g49)) rfl (q_field_ptr rfl rfl fd29_4) ?_
                  refine SOps.q rfl (.guard 12 39 true rfl rfl (gT g49)) rfl (q_load_ptr rfl rfl rfl rfl ty3) ?_
                  refine SOps.q rfl (.guard 12 39 true rfl rfl (gT g49)) rfl (q_eql rfl rfl rfl) ?_
                  refine SOps.q rfl (.plain rfl) rfl (q_pick_t rfl rfl g49 rfl) ?_
                  refine SOps.q rfl (.plain rfl) rfl (q_move rfl rfl) ?_
                  refine SOps.q rfl (.guard 19 46 true rfl rfl (gT g50)) rfl (q_field_ptr rfl rfl fd29_5) ?_
                  refine SOps.q rfl (.guard 19 46 true rfl rfl (gT g50)) rfl (q_load_ptr rfl rfl rfl rfl ty9) ?_
                  refine SOps.q rfl (.guard 19 46 true rfl rfl (gT g50)) rfl (q_field_ptr rfl rfl fd29_5) ?_
                  refine SOps.q rfl (.guard 19 46 true rfl rfl (gT g50)) rfl (q_load_ptr rfl rfl rfl rfl ty9) ?_
                  refine SOps.q rfl (.guard 19 46 true rfl rfl (gT g50)) rfl (q_eqlS rfl rfl rfl) ?_
                  refine SOps.q rfl (.plain rfl) rfl (q_pick_t rfl rfl g50 rfl) ?_
                  refine SOps.sub (st' := ⟨[(0, .c (.vec a0_l.length 11 (gL cSProfile dSProfile a0_l))), (3, .c (.ptr 0 0)), (7, .c (.own 1 o1_24.length)), (9, .c (.ptr 2 0)), (16, .c (.vec a0_l.length 11 (gL cSProfile dSProfile a0_l))), (17, .c (.int .i64 (((a0_l).length : Int)))), (18, .c (.int .i64 t18_23)), (52, .c (.bool (sEq ((a0_l.getD t18_23.toNat dSProfile).Txn) a1_p.Txn)))], [.box [.int .i64 a1_p.ID, .int .i64 a1_p.Level, .int .i64 a1_p.Purpose, .int .i64 a1_p.Kind, .int .i64 a1_p.Conn, .str a1_p.Txn, .int .i64 a1_p.Span_From, .int .i64 a1_p.Span_To, .int .i64 a1_p.Start, .int .i64 a1_p.Duration, .vec a1_p.Periods.length 2 (gL cSPeriod dSPeriod a1_p.Periods)], .arr 29 11 o1_24.length (gL cSProfile dSProfile o1_24), .box [.int .i64 ((a0_l.getD t18_23.toNat dSProfile).ID), .int .i64 ((a0_l.getD t18_23.toNat dSProfile).Level), .int .i64 ((a0_l.getD t18_23.toNat dSProfile).Purpose), .int .i64 ((a0_l.getD t18_23.toNat dSProfile).Kind), .int .i64 ((a0_l.getD t18_23.toNat dSProfile).Conn), .str ((a0_l.getD t18_23.toNat dSProfile).Txn), .int .i64 ((a0_l.getD t18_23.toNat dSProfile).Span_From), .int .i64 ((a0_l.getD t18_23.toNat dSProfile).Span_To), .int .i64 ((a0_l.getD t18_23.toNat dSProfile).Start), .int .i64 ((a0_l.getD t18_23.toNat dSProfile).Duration), .vec ((a0_l.getD t18_23.toNat dSProfile).Periods).length 2 (gL cSPeriod dSPeriod ((a0_l.getD t18_23.toNat dSProfile).Periods))]]⟩) (sub_gen [0, 1, 2] rfl rfl ⟨zc rfl rfl, zc rfl rfl, zc rfl rfl, zc rfl rfl, zc rfl rfl, zc rfl rfl, zc rfl rfl, zc rfl rfl, trivial⟩ ⟨⟨_, rfl, ⟨ii rfl rfl, ii rfl rfl, ii rfl rfl, ii rfl rfl, ii rfl rfl, ii rfl rfl, ii rfl rfl, ii rfl rfl, ii rfl rfl, ii rfl rfl, ii rfl rfl, trivial⟩⟩, oa rfl, ⟨_, rfl, ⟨ii rfl rfl, ii rfl rfl, ii rfl rfl, ii rfl rfl, ii rfl rfl, ii rfl rfl, ii rfl rfl, ii rfl rfl, ii rfl rfl, ii rfl rfl, ii rfl rfl, trivial⟩⟩, trivial⟩) ?_
                  refine SOps.nil ?_
                  rcases cond_out h with ⟨g51, h⟩ | ⟨g51, h⟩
                  · refine SCode.cond_t rfl g51 ?_
                    refine SCode.exit ?_
                    exact ⟨o1_24, h, sub_gen [0, 1] rfl rfl ⟨zc rfl rfl, zc rfl rfl, zc rfl rfl, zc rfl rfl, zc rfl rfl, zc rfl rfl, trivial⟩ ⟨⟨_, rfl, ⟨ii rfl rfl, ii rfl rfl, ii rfl rfl, ii rfl rfl, ii rfl rfl, ii rfl rfl, ii rfl rfl, ii rfl rfl, ii rfl rfl, ii rfl rfl, ii rfl rfl, trivial⟩⟩, oa rfl, trivial⟩⟩
                  refine SCode.cond_f rfl g51 ?_
                  refine SCode.skip ?_
                  exact ⟨(), h, sub_gen [0, 1, 2] rfl rfl ⟨zc rfl rfl, zc rfl rfl, zc rfl rfl, zc rfl rfl, zc rfl rfl, zc rfl rfl, zc rfl rfl, trivial⟩ ⟨⟨_, rfl, ⟨ii rfl rfl, ii rfl rfl, ii rfl rfl, ii rfl rfl, ii rfl rfl, ii rfl rfl, ii rfl rfl, ii rfl rfl, ii rfl rfl, ii rfl rfl, ii rfl rfl, trivial⟩⟩, oa rfl, ⟨_, rfl, ⟨ii rfl rfl, ii rfl rfl, ii rfl rfl, ii rfl rfl, ii rfl rfl, ii rfl rfl, ii rfl rfl, ii rfl rfl, ii rfl rfl, ii rfl rfl, ii rfl rfl, trivial⟩⟩, trivial⟩⟩
                refine SCode.region (show SOps _ _ _ [0, 1, 2, 3, 4, 5, 6, 7, 8, 9, 10, 11, 12, 13, 14, 15, 16, 17, 18, 19, 20, 21, 22, 23, 24, 25] _ _ from ?_)
                refine SOps.q rfl (.plain rfl) rfl (q_field_ptr rfl rfl fd29_2) ?_
                refine SOps.q rfl (.plain rfl) rfl (q_load_ptr rfl rfl rfl rfl ty3) ?_
                refine SOps.q rfl (.plain rfl) rfl (q_field_ptr rfl rfl fd29_2) ?_
                refine SOps.q rfl (.plain rfl) rfl (q_load_ptr rfl rfl rfl rfl ty3) ?_
                refine SOps.q rfl (.plain rfl) rfl (q_eql rfl rfl rfl) ?_
                refine SOps.q rfl (.plain rfl) rfl (q_move rfl rfl) ?_
                refine SOps.q rfl (.guard 5 32 true rfl rfl (gT g48)) rfl (q_field_ptr rfl rfl fd29_1) ?_
                refine SOps.q rfl (.guard 5 32 true rfl rfl (gT g48)) rfl (q_load_ptr rfl rfl rfl rfl ty3) ?_
                refine SOps.q rfl (.guard 5 32 true rfl rfl (gT g48)) rfl (q_field_ptr rfl rfl fd29_1) ?_
                refine SOps.q rfl (.guard 5 32 true rfl rfl (gT g48)) rfl (q_load_ptr rfl rfl rfl rfl ty3) ?_
                refine SOps.q rfl (.guard 5 32 true rfl rfl (gT g48)) rfl (q_eql rfl rfl rfl) ?_
                refine SOps.q rfl (.plain rfl) rfl (q_pick_t rfl rfl g48 rfl) ?_
                refine SOps.q rfl (.plain rfl) rfl (q_move rfl rfl) ?_
                refine SOps.q rfl (.guard 12 39 true rfl rfl (gT g49)) rfl (q_field_ptr rfl rfl fd29_4) ?_
                refine SOps.q rfl (.guard 12 39 true rfl rfl (gT g49)) rfl (q_load_ptr rfl rfl rfl rfl ty3) ?_
                refine SOps.q rfl (.guard 12 39 true rfl rfl (gT g49)) rfl (q_field_ptr rfl rfl fd29_4) ?_
                refine SOps.q rfl (.guard 12 39 true rfl rfl (gT g49)) rfl (q_load_ptr rfl rfl rfl rfl ty3) ?_
                refine SOps.q rfl (.guard 12 39 true rfl rfl (gT g49)) rfl (q_eql rfl rfl rfl) ?_
                refine SOps.q rfl (.plain rfl) rfl (q_pick_t rfl rfl g49 rfl) ?_
                refine SOps.q rfl (.plain rfl) rfl (q_move rfl rfl) ?_
                refine SOps.skip rfl 19 46 true rfl rfl (.inl (gF g50)) rfl ?_
                refine SOps.skip rfl 19 46 true rfl rfl (.inl (gF g50)) rfl ?_
                refine SOps.skip rfl 19 46 true rfl rfl (.inl (gF g50)) rfl ?_
                refine SOps.skip rfl 19 46 true rfl rfl (.inl (gF g50)) rfl ?_
                refine SOps.skip rfl 19 46 true rfl rfl (.inl (gF g50)) rfl ?_
                refine SOps.q rfl (.plain rfl) rfl (q_pick_f rfl rfl g50 rfl) ?_
                refine SOps.sub (st' := ⟨[(0, .c (.vec a0_l.length 11 (gL cSProfile dSProfile a0_l))), (3, .c (.ptr 0 0)), (7, .c (.own 1 o1_24.length)), (9, .c (.ptr 2 0)), (16, .c (.vec a0_l.length 11 (gL cSProfile dSProfile a0_l))), (17, .c (.int .i64 (((a0_l).length : Int)))), (18, .c (.int .i64 t18_23)), (52, .c (.bool false))], [.box [.int .i64 a1_p.ID, .int .i64 a1_p.Level, .int .i64 a1_p.Purpose, .int .i64 a1_p.Kind, .int .i64 a1_p.Conn, .str a1_p.Txn, .int .i64 a1_p.Span_From, .int .i64 a1_p.Span_To, .int .i64 a1_p.Start, .int .i64 a1_p.Duration, .vec a1_p.Periods.length 2 (gL cSPeriod dSPeriod a1_p.Periods)], .arr 29 11 o1_24.length (gL cSProfile dSProfile o1_24), .box [.int .i64 ((a0_l.getD t18_23.toNat dSProfile).ID), .int .i64 ((a0_l.getD t18_23.toNat dSProfile).Level), .int .i64 ((a0_l.getD t18_23.toNat dSProfile).Purpose), .int .i64 ((a0_l.getD t18_23.toNat dSProfile).Kind), .int .i64 ((a0_l.getD t18_23.toNat dSProfile).Conn), .str ((a0_l.getD t18_23.toNat dSProfile).Txn), .int .i64 ((a0_l.getD t18_23.toNat dSProfile).Span_From), .int .i64 ((a0_l.getD t18_23.toNat dSProfile).Span_To), .int .i64 ((a0_l.getD t18_23.toNat dSProfile).Start), .int .i64 ((a0_l.getD t18_23.toNat dSProfile).Duration), .vec ((a0_l.getD t18_23.toNat dSProfile).Periods).length 2 (gL cSPeriod dSPeriod ((a0_l.getD t18_23.toNat dSProfile).Periods))]]⟩) (sub_gen [0, 1, 2] rfl rfl ⟨zc rfl rfl, zc rfl rfl, zc rfl rfl, zc rfl rfl, zc rfl rfl, zc rfl rfl, zc rfl rfl, zc rfl rfl, trivial⟩ ⟨⟨_, rfl, ⟨ii rfl rfl, ii rfl rfl, ii rfl rfl, ii rfl rfl, ii rfl rfl, ii rfl rfl, ii rfl rfl, ii rfl rfl, ii rfl rfl, ii rfl rfl, ii rfl rfl, trivial⟩⟩, oa rfl, ⟨_, rfl, ⟨ii rfl rfl, ii rfl rfl, ii rfl rfl, ii rfl rfl, ii rfl rfl, ii rfl rfl, ii rfl rfl, ii rfl rfl, ii rfl rfl, ii rfl rfl, ii rfl rfl, trivial⟩⟩, trivial⟩) ?_
                refine SOps.nil ?_
                refine SCode.cond_f rfl rfl ?_
                refine SCode.skip ?_
                exact ⟨(), h, sub_gen [0, 1, 2] rfl rfl ⟨zc rfl rfl, zc rfl rfl, zc rfl rfl, zc rfl rfl, zc rfl rfl, zc rfl rfl, zc rfl rfl, trivial⟩ ⟨⟨_, rfl, ⟨ii rfl rfl, ii rfl rfl, ii rfl rfl, ii rfl rfl, ii rfl rfl, ii rfl rfl, ii rfl rfl, ii rfl rfl, ii rfl rfl, ii rfl rfl, ii rfl rfl, trivial⟩⟩, oa rfl, ⟨_, rfl, ⟨ii rfl rfl, ii rfl rfl, ii rfl rfl, ii rfl rfl, ii rfl rfl, ii rfl rfl, ii rfl rfl, ii rfl rfl, ii rfl rfl, ii rfl rfl, ii rfl rfl, trivial⟩⟩, trivial⟩⟩
              refine SCode.region (show SOps _ _ _ [0, 1, 2, 3, 4, 5, 6, 7, 8, 9, 10, 11, 12, 13, 14, 15, 16, 17, 18, 19, 20, 21, 22, 23, 24, 25] _ _ from ?_)
              refine SOps.q rfl (.plain rfl) rfl (q_field_ptr rfl rfl fd29_2) ?_
              refine SOps.q rfl (.plain rfl) rfl (q_load_ptr rfl rfl rfl rfl ty3) ?_
              refine SOps.q rfl (.plain rfl) rfl (q_field_ptr rfl rfl fd29_2) ?_
              refine SOps.q rfl (.plain rfl) rfl (q_load_ptr rfl rfl rfl rfl ty3) ?_
              refine SOps.q rfl (.plain rfl) rfl (q_eql rfl rfl rfl) ?_
              refine SOps.q rfl (.plain rfl) rfl (q_move rfl rfl) ?_
              refine SOps.q rfl (.guard 5 32 true rfl rfl (gT g48)) rfl (q_field_ptr rfl rfl fd29_1) ?_
              refine SOps.q rfl (.guard 5 32 true rfl rfl (gT g48)) rfl (q_load_ptr rfl rfl rfl rfl ty3) ?_
              refine SOps.q rfl (.guard 5 32 true rfl rfl (gT g48)) rfl (q_field_ptr rfl rfl fd29_1) ?_
              refine SOps.q rfl (.guard 5 32 true rfl rfl (gT g48)) rfl (q_load_ptr rfl rfl rfl rfl ty3) ?_
              refine SOps.q rfl (.guard 5 32 true rfl rfl (gT g48)) rfl (q_eql rfl rfl rfl) ?_
              refine SOps.q rfl (.plain rfl) rfl (q_pick_t rfl rfl g48 rfl) ?_
              refine SOps.q rfl (.plain rfl) rfl (q_move rfl rfl) ?_
              refine SOps.skip rfl 12 39 true rfl rfl (.inl (gF g49)) rfl ?_
              refine SOps.skip rfl 12 39 true rfl rfl (.inl (gF g49)) rfl ?_
              refine SOps.skip rfl 12 39 true rfl rfl (.inl (gF g49)) rfl ?_
              refine SOps.skip rfl 12 39 true rfl rfl (.inl (gF g49)) rfl ?_
              refine SOps.skip rfl 12 39 true rfl rfl (.inl (gF g49)) rfl ?_
              refine SOps.q rfl (.plain rfl) rfl (q_pick_f rfl rfl g49 rfl) ?_
              refine SOps.q rfl (.plain rfl) rfl (q_move rfl rfl) ?_
              refine SOps.skip rfl 19 46 true rfl rfl (.inl rfl) rfl ?_
              refine SOps.skip rfl 19 46 true rfl rfl (.inl rfl) rfl ?_
              refine SOps.skip rfl 19 46 true rfl rfl (.inl rfl) rfl ?_
              refine SOps.skip rfl 19 46 true rfl rfl (.inl rfl) rfl ?_
              refine SOps.skip rfl 19 46 true rfl rfl (.inl rfl) rfl ?_
              refine SOps.q rfl (.plain rfl) rfl (q_pick_f rfl rfl rfl rfl) ?_
              refine SOps.sub (st' := ⟨[(0, .c (.vec a0_l.length 11 (gL cSProfile dSProfile a0_l))), (3, .c (.ptr 0 0)), (7, .c (.own 1 o1_24.length)), (9, .c (.ptr 2 0)), (16, .c (.vec a0_l.length 11 (gL cSProfile dSProfile a0_l))), (17, .c (.int .i64 (((a0_l).length : Int)))), (18, .c (.int .i64 t18_23)), (52, .c (.bool false))], [.box [.int .i64 a1_p.ID, .int .i64 a1_p.Level, .int .i64 a1_p.Purpose, .int .i64 a1_p.Kind, .int .i64 a1_p.Conn, .str a1_p.Txn, .int .i64 a1_p.Span_From, .int .i64 a1_p.Span_To, .int .i64 a1_p.Start, .int .i64 a1_p.Duration, .vec a1_p.Periods.length 2 (gL cSPeriod dSPeriod a1_p.Periods)], .arr 29 11 o1_24.length (gL cSProfile dSProfile o1_24), .box [.int .i64 ((a0_l.getD t18_23.toNat dSProfile).ID), .int .i64 ((a0_l.getD t18_23.toNat dSProfile).Level), .int .i64 ((a0_l.getD t18_23.toNat dSProfile).Purpose), .int .i64 ((a0_l.getD t18_23.toNat dSProfile).Kind), .int .i64 ((a0_l.getD t18_23.toNat dSProfile).Conn), .str ((a0_l.getD t18_23.toNat dSProfile).Txn), .int .i64 ((a0_l.getD t18_23.toNat dSProfile).Span_From), .int .i64 ((a0_l.getD t18_23.toNat dSProfile).Span_To), .int .i64 ((a0_l.getD t18_23.toNat dSProfile).Start), .int .i64 ((a0_l.getD t18_23.toNat dSProfile).Duration), .vec ((a0_l.getD t18_23.toNat dSProfile).Periods).length 2 (gL cSPeriod dSPeriod ((a0_l.getD t18_23.toNat dSProfile).Periods))]]⟩) (sub_gen [0, 1, 2] rfl rfl ⟨zc rfl rfl, zc rfl rfl, zc rfl rfl, zc rfl rfl, zc rfl rfl, zc rfl rfl, zc rfl rfl, zc rfl rfl, trivial⟩ ⟨⟨_, rfl, ⟨ii rfl rfl, ii rfl rfl, ii rfl rfl, ii rfl rfl, ii rfl rfl, ii rfl rfl, ii rfl rfl, ii rfl rfl, ii rfl rfl, ii rfl rfl, ii rfl rfl, trivial⟩⟩, oa rfl, ⟨_, rfl, ⟨ii rfl rfl, ii rfl rfl, ii rfl rfl, ii rfl rfl, ii rfl rfl, ii rfl rfl, ii rfl rfl, ii rfl rfl, ii rfl rfl, ii rfl rfl, ii rfl rfl, trivial⟩⟩, trivial⟩) ?_
              refine SOps.nil ?_
              refine SCode.cond_f rfl rfl ?_
              refine SCode.skip ?_
              exact ⟨(), h, sub_gen [0, 1, 2] rfl rfl ⟨zc rfl rfl, zc rfl rfl, zc rfl rfl, zc rfl rfl, zc rfl rfl, zc rfl rfl, zc rfl rfl, trivial⟩ ⟨⟨_, rfl, ⟨ii rfl rfl, ii rfl rfl, ii rfl rfl, ii rfl rfl, ii rfl rfl, ii rfl rfl, ii rfl rfl, ii rfl rfl, ii rfl rfl, ii rfl rfl, ii rfl rfl, trivial⟩⟩, oa rfl, ⟨_, rfl, ⟨ii rfl rfl, ii rfl rfl, ii rfl rfl, ii rfl rfl, ii rfl rfl, ii rfl rfl, ii rfl rfl, ii rfl rfl, ii rfl rfl, ii rfl rfl, ii rfl rfl, trivial⟩⟩, trivial⟩⟩
            refine SCode.region (show SOps _ _ _ [0, 1, 2, 3, 4, 5, 6, 7, 8, 9, 10, 11, 12, 13, 14, 15, 16, 17, 18, 19, 20, 21, 22, 23, 24, 25] _ _ from ?_)
            refine SOps.q rfl (.plain rfl) rfl (q_field_ptr rfl rfl fd29_2) ?_
            refine SOps.q rfl (.plain rfl) rfl (q_load_ptr rfl rfl rfl rfl ty3) ?_
            refine SOps.q rfl (.plain rfl) rfl (q_field_ptr rfl rfl fd29_2) ?_
            refine SOps.q rfl (.plain rfl) rfl (q_load_ptr rfl rfl rfl rfl ty3) ?_
            refine SOps.q rfl (.plain rfl) rfl (q_eql rfl rfl rfl) ?_
            refine SOps.q rfl (.plain rfl) rfl (q_move rfl rfl) ?_
            refine SOps.skip rfl 5 32 true rfl rfl (.inl (gF g48)) rfl ?_
            refine SOps.skip rfl 5 32 true rfl rfl (.inl (gF g48)) rfl ?_
            refine SOps.skip rfl 5 32 true rfl rfl (.inl (gF g48)) rfl ?_
            refine SOps.skip rfl 5 32 true rfl rfl (.inl (gF g48)) rfl ?_
            refine SOps.skip rfl 5 32 true rfl rfl (.inl (gF g48)) rfl ?_
            refine SOps.q rfl (.plain rfl) rfl (q_pick_f rfl rfl g48 rfl) ?_
            refine SOps.q rfl (.plain rfl) rfl (q_move rfl rfl) ?_
            refine SOps.skip rfl 12 39 true rfl rfl (.inl rfl) rfl ?_
            refine SOps.skip rfl 12 39 true rfl rfl (.inl rfl) rfl ?_
            refine SOps.skip rfl 12 39 true rfl rfl (.inl rfl) rfl ?_
            refine SOps.skip rfl 12 39 true rfl rfl (.inl rfl) rfl ?_
            refine SOps.skip rfl 12 39 true rfl rfl (.inl rfl) rfl ?_
            refine SOps.q rfl (.plain rfl) rfl (q_pick_f rfl rfl rfl rfl) ?_
            refine SOps.q rfl (.plain rfl) rfl (q_move rfl rfl) ?_
            refine SOps.skip rfl 19 46 true rfl rfl (.inl rfl) rfl ?_
            refine SOps.skip rfl 19 46 true rfl rfl (.inl rfl) rfl ?_
            refine SOps.skip rfl 19 46 true rfl rfl (.inl rfl) rfl ?_
            refine SOps.skip rfl 19 46 true rfl rfl (.inl rfl) rfl ?_
            refine SOps.skip rfl 19 46 true rfl rfl (.inl rfl) rfl ?_
            refine SOps.q rfl (.plain rfl) rfl (q_pick_f rfl rfl rfl rfl) ?_
            refine SOps.sub (st' := ⟨[(0, .c (.vec a0_l.length 11 (gL cSProfile dSProfile a0_l))), (3, .c (.ptr 0 0)), (7, .c (.own 1 o1_24.length)), (9, .c (.ptr 2 0)), (16, .c (.vec a0_l.length 11 (gL cSProfile dSProfile a0_l))), (17, .c (.int .i64 (((a0_l).length : Int)))), (18, .c (.int .i64 t18_23)), (52, .c (.bool false))], [.box [.int .i64 a1_p.ID, .int .i64 a1_p.Level, .int .i64 a1_p.Purpose, .int .i64 a1_p.Kind, .int .i64 a1_p.Conn, .str a1_p.Txn, .int .i64 a1_p.Span_From, .int .i64 a1_p.Span_To, .int .i64 a1_p.Start, .int .i64 a1_p.Duration, .vec a1_p.Periods.length 2 (gL cSPeriod dSPeriod a1_p.Periods)], .arr 29 11 o1_24.length (gL cSProfile dSProfile o1_24), .box [.int .i64 ((a0_l.getD t18_23.toNat dSProfile).ID), .int .i64 ((a0_l.getD t18_23.toNat dSProfile).Level), .int .i64 ((a0_l.getD t18_23.toNat dSProfile).Purpose), .int .i64 ((a0_l.getD t18_23.toNat dSProfile).Kind), .int .i64 ((a0_l.getD t18_23.toNat dSProfile).Conn), .str ((a0_l.getD t18_23.toNat dSProfile).Txn), .int .i64 ((a0_l.getD t18_23.toNat dSProfile).Span_From), .int .i64 ((a0_l.getD t18_23.toNat dSProfile).Span_To), .int .i64 ((a0_l.getD t18_23.toNat dSProfile).Start), .int .i64 ((a0_l.getD t18_23.toNat dSProfile).Duration), .vec ((a0_l.getD t18_23.toNat dSProfile).Periods).length 2 (gL cSPeriod dSPeriod ((a0_l.getD t18_23.toNat dSProfile).Periods))]]⟩) (sub_gen [0, 1, 2] rfl rfl ⟨zc rfl rfl, zc rfl rfl, zc rfl rfl, zc rfl rfl, zc rfl rfl, zc rfl rfl, zc rfl rfl, zc rfl rfl, trivial⟩ ⟨⟨_, rfl, ⟨ii rfl rfl, ii rfl rfl, ii rfl rfl, ii rfl rfl, ii rfl rfl, ii rfl rfl, ii rfl rfl, ii rfl rfl, ii rfl rfl, ii rfl rfl, ii rfl rfl, trivial⟩⟩, oa rfl, ⟨_, rfl, ⟨ii rfl rfl, ii rfl rfl, ii rfl rfl, ii rfl rfl, ii rfl rfl, ii rfl rfl, ii rfl rfl, ii rfl rfl, ii rfl rfl, ii rfl rfl, ii rfl rfl, trivial⟩⟩, trivial⟩) ?_
            refine SOps.nil ?_
            refine SCode.cond_f rfl rfl ?_
            refine SCode.skip ?_
            exact ⟨(), h, sub_gen [0, 1, 2] rfl rfl ⟨zc rfl rfl, zc rfl rfl, zc rfl rfl, zc rfl rfl, zc rfl rfl, zc rfl rfl, zc rfl rfl, trivial⟩ ⟨⟨_, rfl, ⟨ii rfl rfl, ii rfl rfl, ii rfl rfl, ii rfl rfl, ii rfl rfl, ii rfl rfl, ii rfl rfl, ii rfl rfl, ii rfl rfl, ii rfl rfl, ii rfl rfl, trivial⟩⟩, oa rfl, ⟨_, rfl, ⟨ii rfl rfl, ii rfl rfl, ii rfl rfl, ii rfl rfl, ii rfl rfl, ii rfl rfl, ii rfl rfl, ii rfl rfl, ii rfl rfl, ii rfl rfl, ii rfl rfl, trivial⟩⟩, trivial⟩⟩
          rintro ⟨⟩ h
          show SCode _ _ _ ⟨[(0, .c (.vec a0_l.length 11 (gL cSProfile dSProfile a0_l))), (3, .c (.ptr 0 0)), (7, .c (.own 1 o1_24.length)), (9, .c (.ptr 2 0)), (16, .c (.vec a0_l.length 11 (gL cSProfile dSProfile a0_l))), (17, .c (.int .i64 (((a0_l).length : Int)))), (18, .c (.int .i64 t18_23))], [.box [.int .i64 a1_p.ID, .int .i64 a1_p.Level, .int .i64 a1_p.Purpose, .int .i64 a1_p.Kind, .int .i64 a1_p.Conn, .str a1_p.Txn, .int .i64 a1_p.Span_From, .int .i64 a1_p.Span_To, .int .i64 a1_p.Start, .int .i64 a1_p.Duration, .vec a1_p.Periods.length 2 (gL cSPeriod dSPeriod a1_p.Periods)], .arr 29 11 o1_24.length (gL cSProfile dSProfile o1_24), .box [.int .i64 ((a0_l.getD t18_23.toNat dSProfile).ID), .int .i64 ((a0_l.getD t18_23.toNat dSProfile).Level), .int .i64 ((a0_l.getD t18_23.toNat dSProfile).Purpose), .int .i64 ((a0_l.getD t18_23.toNat dSProfile).Kind), .int .i64 ((a0_l.getD t18_23.toNat dSProfile).Conn), .str ((a0_l.getD t18_23.toNat dSProfile).Txn), .int .i64 ((a0_l.getD t18_23.toNat dSProfile).Span_From), .int .i64 ((a0_l.getD t18_23.toNat dSProfile).Span_To), .int .i64 ((a0_l.getD t18_23.toNat dSProfile).Start), .int .i64 ((a0_l.getD t18_23.toNat dSProfile).Duration), .vec ((a0_l.getD t18_23.toNat dSProfile).Periods).length 2 (gL cSPeriod dSPeriod ((a0_l.getD t18_23.toNat dSProfile).Periods))]]⟩ _
          replace h : profile_Put_p47 F a0_l t18_23 o1_24 (fun t18_23 o1_24 => profile_Put_l38 F a0_l a1_p n_38 t18_23 o1_24) = some r := h
          unfold profile_Put_p47 at h
          obtain ⟨c_44, g45, h⟩ := bind_out h
          try dsimp only at h
          obtain ⟨g46, h⟩ := guard_out h
          refine SCode.region (show SOps _ _ _ [0, 1, 2, 3, 4, 5] _ _ from ?_)
          refine SOps.q rfl (.plain rfl) rfl (q_move rfl rfl) ?_
          refine SOps.q rfl (.plain rfl) rfl (q_load_ptr_all rfl rfl rfl rfl rfl ty29) ?_
          refine SOps.q rfl (.plain rfl) rfl (q_call (profile_clone_ok F (a0_l.getD t18_23.toNat dSProfile) c_44 g45) [] rfl fn15 ⟨⟨rfl, rfl⟩, trivial⟩ (.inl rfl)) ?_
          refine SOps.q rfl (.plain rfl) rfl (q_bsliceL (c := cSProfile) (d0 := dSProfile) [c_44] rfl rfl sl22 z29 rfl rfl rfl rfl rfl rfl rfl) ?_
          refine SOps.e rfl (.plain rfl) (e_appendL (c := cSProfile) (d0 := dSProfile) (l := o1_24) (l2 := [c_44]) rfl rfl rfl rfl rfl rfl (.inl rfl) sl22 z29 rfl rfl oneSProfile g46.1 g46.2) ?_
          refine SOps.q rfl (.plain rfl) rfl (q_assign rfl rfl) ?_
          refine SOps.sub (st' := ⟨[(0, .c (.vec a0_l.length 11 (gL cSProfile dSProfile a0_l))), (3, .c (.ptr 0 0)), (7, .c (.own 1 (o1_24 ++ ([c_44])).length)), (16, .c (.vec a0_l.length 11 (gL cSProfile dSProfile a0_l))), (17, .c (.int .i64 (((a0_l).length : Int)))), (18, .c (.int .i64 t18_23))], [.box [.int .i64 a1_p.ID, .int .i64 a1_p.Level, .int .i64 a1_p.Purpose, .int .i64 a1_p.Kind, .int .i64 a1_p.Conn, .str a1_p.Txn, .int .i64 a1_p.Span_From, .int .i64 a1_p.Span_To, .int .i64 a1_p.Start, .int .i64 a1_p.Duration, .vec a1_p.Periods.length 2 (gL cSPeriod dSPeriod a1_p.Periods)], .arr 29 11 (o1_24 ++ ([c_44])).length (gL cSProfile dSProfile (o1_24 ++ ([c_44])))]⟩) (sub_gen [0, 3] rfl rfl ⟨zc rfl rfl, zc rfl rfl, zc rfl rfl, zc rfl rfl, zc rfl rfl, zc rfl rfl, trivial⟩ ⟨⟨_, rfl, ⟨ii rfl rfl, ii rfl rfl, ii rfl rfl, ii rfl rfl, ii rfl rfl, ii rfl rfl, ii rfl rfl, ii rfl rfl, ii rfl rfl, ii rfl rfl, ii rfl rfl, trivial⟩⟩, oa rfl, trivial⟩) ?_
          refine SOps.nil ?_
          exact ⟨o1_24 ++ ([c_44]), h, sub_gen [0, 1] rfl rfl ⟨zc rfl rfl, zc rfl rfl, zc rfl rfl, zc rfl rfl, zc rfl rfl, zc rfl rfl, trivial⟩ ⟨⟨_, rfl, ⟨ii rfl rfl, ii rfl rfl, ii rfl rfl, ii rfl rfl, ii rfl rfl, ii rfl rfl, ii rfl rfl, ii rfl rfl, ii rfl rfl, ii rfl rfl, ii rfl rfl, trivial⟩⟩, oa rfl, trivial⟩⟩
        rintro o1_40 h
        show SCode _ _ _ ⟨[(0, .c (.vec a0_l.length 11 (gL cSProfile dSProfile a0_l))), (3, .c (.ptr 0 0)), (7, .c (.own 1 o1_40.length)), (16, .c (.vec a0_l.length 11 (gL cSProfile dSProfile a0_l))), (17, .c (.int .i64 (((a0_l).length : Int)))), (18, .c (.int .i64 t18_23))], [.box [.int .i64 a1_p.ID, .int .i64 a1_p.Level, .int .i64 a1_p.Purpose, .int .i64 a1_p.Kind, .int .i64 a1_p.Conn, .str a1_p.Txn, .int .i64 a1_p.Span_From, .int .i64 a1_p.Span_To, .int .i64 a1_p.Start, .int .i64 a1_p.Duration, .vec a1_p.Periods.length 2 (gL cSPeriod dSPeriod a1_p.Periods)], .arr 29 11 o1_40.length (gL cSProfile dSProfile o1_40)]⟩ _
        replace h : profile_Put_p41 t18_23 (fun t18_23 o1_24 => profile_Put_l38 F a0_l a1_p n_38 t18_23 o1_24) o1_40 = some r := h
        unfold profile_Put_p41 at h
        refine SCode.region (show SOps _ _ _ [0, 1] _ _ from ?_)
        refine SOps.q rfl (.plain rfl) rfl (q_add rfl rfl rfl) ?_
        refine SOps.q rfl (.plain rfl) rfl (q_move rfl rfl) ?_
        refine SOps.sub (st' := ⟨[(0, .c (.vec a0_l.length 11 (gL cSProfile dSProfile a0_l))), (3, .c (.ptr 0 0)), (7, .c (.own 1 o1_40.length)), (16, .c (.vec a0_l.length 11 (gL cSProfile dSProfile a0_l))), (17, .c (.int .i64 (((a0_l).length : Int)))), (18, .c (.int .i64 (IntKind.wrap .i64 (t18_23 + 1))))], [.box [.int .i64 a1_p.ID, .int .i64 a1_p.Level, .int .i64 a1_p.Purpose, .int .i64 a1_p.Kind, .int .i64 a1_p.Conn, .str a1_p.Txn, .int .i64 a1_p.Span_From, .int .i64 a1_p.Span_To, .int .i64 a1_p.Start, .int .i64 a1_p.Duration, .vec a1_p.Periods.length 2 (gL cSPeriod dSPeriod a1_p.Periods)], .arr 29 11 o1_40.length (gL cSProfile dSProfile o1_40)]⟩) (sub_gen [0, 1] rfl rfl ⟨zc rfl rfl, zc rfl rfl, zc rfl rfl, zc rfl rfl, zc rfl rfl, zc rfl rfl, trivial⟩ ⟨⟨_, rfl, ⟨ii rfl rfl, ii rfl rfl, ii rfl rfl, ii rfl rfl, ii rfl rfl, ii rfl rfl, ii rfl rfl, ii rfl rfl, ii rfl rfl, ii rfl rfl, ii rfl rfl, trivial⟩⟩, oa rfl, trivial⟩) ?_
        refine SOps.nil ?_
        exact ⟨(n_38, (IntKind.wrap .i64 (t18_23 + 1), o1_40)), h, Nat.lt_succ_self n_38, sub_gen [0, 1] rfl rfl ⟨zc rfl rfl, zc rfl rfl, zc rfl rfl, zc rfl rfl, zc rfl rfl, zc rfl rfl, trivial⟩ ⟨⟨_, rfl, ⟨ii rfl rfl, ii rfl rfl, ii rfl rfl, ii rfl rfl, ii rfl rfl, ii rfl rfl, ii rfl rfl, ii rfl rfl, ii rfl rfl, ii rfl rfl, ii rfl rfl, trivial⟩⟩, oa rfl, trivial⟩⟩
      refine SCode.cond_f rfl g39 ?_
      refine SCode.exit ?_
      exact ⟨o1_24, h, sub_gen [0, 1] rfl rfl ⟨zc rfl rfl, zc rfl rfl, zc rfl rfl, trivial⟩ ⟨⟨_, rfl, ⟨ii rfl rfl, ii rfl rfl, ii rfl rfl, ii rfl rfl, ii rfl rfl, ii rfl rfl, ii rfl rfl, ii rfl rfl, ii rfl rfl, ii rfl rfl, ii rfl rfl, trivial⟩⟩, oa rfl, trivial⟩⟩
  rintro o1_4 h
  show SCode _ _ _ ⟨[(0, .c (.vec a0_l.length 11 (gL cSProfile dSProfile a0_l))), (3, .c (.ptr 0 0)), (7, .c (.own 1 o1_4.length))], [.box [.int .i64 a1_p.ID, .int .i64 a1_p.Level, .int .i64 a1_p.Purpose, .int .i64 a1_p.Kind, .int .i64 a1_p.Conn, .str a1_p.Txn, .int .i64 a1_p.Span_From, .int .i64 a1_p.Span_To, .int .i64 a1_p.Start, .int .i64 a1_p.Duration, .vec a1_p.Periods.length 2 (gL cSPeriod dSPeriod a1_p.Periods)], .arr 29 11 o1_4.length (gL cSProfile dSProfile o1_4)]⟩ _
  replace h : profile_Put_p9 F a0_l a1_p o1_4 = some r := h
  unfold profile_Put_p9 at h
  refine SCode.seq ?_
  refine SCode.seq ?_
  refine SCode.region (show SOps _ _ _ [0, 1, 2] _ _ from ?_)
  refine SOps.q rfl (.plain rfl) rfl (q_move rfl rfl) ?_
  refine SOps.q rfl (.plain rfl) rfl (q_len_own rfl rfl sl22) ?_
  refine SOps.q rfl (.plain rfl) rfl (q_geq rfl rfl rfl) ?_
  refine SOps.sub (st' := ⟨[(0, .c (.vec a0_l.length 11 (gL cSProfile dSProfile a0_l))), (3, .c (.ptr 0 0)), (7, .c (.own 1 o1_4.length)), (61, .c (.bool (decide (16 ≤ ((o1_4).length : Int)))))], [.box [.int .i64 a1_p.ID, .int .i64 a1_p.Level, .int .i64 a1_p.Purpose, .int .i64 a1_p.Kind, .int .i64 a1_p.Conn, .str a1_p.Txn, .int .i64 a1_p.Span_From, .int .i64 a1_p.Span_To, .int .i64 a1_p.Start, .int .i64 a1_p.Duration, .vec a1_p.Periods.length 2 (gL cSPeriod dSPeriod a1_p.Periods)], .arr 29 11 o1_4.length (gL cSProfile dSProfile o1_4)]⟩) (sub_gen [0, 1] rfl rfl ⟨zc rfl rfl, zc rfl rfl, zc rfl rfl, zc rfl rfl, trivial⟩ ⟨⟨_, rfl, ⟨ii rfl rfl, ii rfl rfl, ii rfl rfl, ii rfl rfl, ii rfl rfl, ii rfl rfl, ii rfl rfl, ii rfl rfl, ii rfl rfl, ii rfl rfl, ii rfl rfl, trivial⟩⟩, oa rfl, trivial⟩) ?_
  refine SOps.nil ?_
  rcases cond_out h with ⟨g5, h⟩ | ⟨g5, h⟩
  · refine SCode.cond_t rfl g5 ?_
    refine SCode.seq ?_
    refine SCode.region (show SOps _ _ _ [0, 1, 2] _ _ from ?_)
    refine SOps.q rfl (.plain rfl) rfl (q_move rfl rfl) ?_
    refine SOps.q rfl (.plain rfl) rfl (q_assign rfl rfl) ?_
    refine SOps.q rfl (.plain rfl) rfl (q_assign rfl rfl) ?_
    refine SOps.sub (st' := ⟨[(4, .c (.vec a0_l.length 11 (gL cSProfile dSProfile a0_l))), (5, .c (.int .i64 3))], []⟩) (sub_gen [] rfl rfl ⟨zc rfl rfl, zc rfl rfl, trivial⟩ trivial) ?_
    refine SOps.nil ?_
    refine SCode.ret ?_
    obtain rfl := Option.some.inj h
    exact ⟨⟨[(4, .c (.vec a0_l.length 11 (gL cSProfile dSProfile a0_l))), (5, .c (.int .i64 3))], []⟩, _, sub_gen [] rfl rfl ⟨zc rfl rfl, zc rfl rfl, trivial⟩ trivial, resA2 (v1 := .c (.vec a0_l.length 11 (gL cSProfile dSProfile a0_l))) (v2 := .c (.int .i64 3)) rfl rfl rfl, rfl⟩
  refine SCode.cond_f rfl g5 ?_
  refine SCode.skip ?_
  refine SCode.seq ?_
  obtain ⟨c_6, g7, h⟩ := bind_out h
  try dsimp only at h
  obtain ⟨g8, h⟩ := guard_out h
  refine SCode.region (show SOps _ _ _ [0, 1, 2, 3, 4, 5, 6] _ _ from ?_)
  refine SOps.q rfl (.plain rfl) rfl (q_move rfl rfl) ?_
  refine SOps.q rfl (.plain rfl) rfl (q_load_ptr_all rfl rfl rfl rfl rfl ty29) ?_
  refine SOps.q rfl (.plain rfl) rfl (q_call (profile_clone_ok F a1_p c_6 g7) [] rfl fn15 ⟨⟨rfl, rfl⟩, trivial⟩ (.inl rfl)) ?_
  refine SOps.q rfl (.plain rfl) rfl (q_bsliceL (c := cSProfile) (d0 := dSProfile) [c_6] rfl rfl sl22 z29 rfl rfl rfl rfl rfl rfl rfl) ?_
  refine SOps.e rfl (.plain rfl) (e_appendL (c := cSProfile) (d0 := dSProfile) (l := o1_4) (l2 := [c_6]) rfl rfl rfl rfl rfl rfl (.inl rfl) sl22 z29 rfl rfl oneSProfile g8.1 g8.2) ?_
  refine SOps.q rfl (.plain rfl) rfl (q_assign rfl rfl) ?_
  refine SOps.q rfl (.plain rfl) rfl (q_assign rfl rfl) ?_
  refine SOps.sub (st' := ⟨[(4, .c (.own 0 (o1_4 ++ ([c_6])).length)), (5, .c (.int .i64 0))], [.arr 29 11 (o1_4 ++ ([c_6])).length (gL cSProfile dSProfile (o1_4 ++ ([c_6])))]⟩) (sub_gen [2] rfl rfl ⟨zc rfl rfl, zc rfl rfl, trivial⟩ ⟨oa rfl, trivial⟩) ?_
  refine SOps.nil ?_
  refine SCode.ret ?_
  obtain rfl := Option.some.inj h
  exact ⟨⟨[(4, .c (.vec (o1_4 ++ ([c_6])).length 11 (gL cSProfile dSProfile (o1_4 ++ ([c_6]))))), (5, .c (.int .i64 0))], []⟩, _, sub_gen [] rfl rfl ⟨⟨_, rfl, .inr (.inl ⟨_, _, _, _, _, _, _, rfl, rfl, rfl, Nat.le_refl _, fun _ _ _ _ => rfl, by decide⟩)⟩, zc rfl rfl, trivial⟩ trivial, resA2 (v1 := .c (.vec (o1_4 ++ ([c_6])).length 11 (gL cSProfile dSProfile (o1_4 ++ ([c_6]))))) (v2 := .c (.int .i64 0)) rfl rfl rfl, rfl⟩
set_option maxRecDepth 100000 in
set_option maxHeartbeats 8000000 in
theorem compose_candidates_ok (F : Nat) (a0_l : List SProfile) (a1_conn : Int) (a2_txn : ByteArray) (r : List SProfile) (h : compose_candidates F a0_l a1_conn a2_txn = some r) :
    SFun Try.prog 16 [] [.c (.vec a0_l.length 11 (gL cSProfile dSProfile a0_l)), .c (.int .i64 a1_conn), .c (.str a2_txn)] (fun x _ => x = .c (.vec r.length 11 (gL cSProfile dSProfile r))) := by
  refine SFun.of (n := 52) Try.func16 rfl rfl rfl ?_
  unfold compose_candidates at h
  show SCode _ _ _ ⟨[(0, .c (.vec a0_l.length 11 (gL cSProfile dSProfile a0_l))), (1, .c (.int .i64 a1_conn)), (2, .c (.str a2_txn))], []⟩ _
  refine SCode.seq ?_
  refine SCode.region (show SOps _ _ _ [0] _ _ from ?_)
  refine SOps.q rfl (.plain rfl) rfl (q_assign rfl rfl) ?_
  refine SOps.sub (st' := ⟨[(0, .c (.vec a0_l.length 11 (gL cSProfile dSProfile a0_l))), (1, .c (.int .i64 a1_conn)), (2, .c (.str a2_txn))], []⟩) (sub_gen [] rfl rfl ⟨zc rfl rfl, zc rfl rfl, zc rfl rfl, trivial⟩ trivial) ?_
  refine SOps.nil ?_
  refine SCode.seq ?_
  refine SCode.region (show SOps _ _ _ [0] _ _ from ?_)
  refine SOps.q rfl (.plain rfl) rfl (q_assign rfl rfl) ?_
  refine SOps.nilArrL (T := 29) (k := 11) cSProfile dSProfile (s := 7) rfl rfl ?_
  refine SOps.sub (st' := ⟨[(0, .c (.vec a0_l.length 11 (gL cSProfile dSProfile a0_l))), (1, .c (.int .i64 a1_conn)), (2, .c (.str a2_txn)), (7, .c (.own 0 (([] : List SProfile)).length))], [.arr 29 11 (([] : List SProfile)).length (gL cSProfile dSProfile (([] : List SProfile)))]⟩) (sub_gen [0] rfl rfl ⟨zc rfl rfl, zc rfl rfl, zc rfl rfl, zc rfl rfl, trivial⟩ ⟨oa rfl, trivial⟩) ?_
  refine SOps.nil ?_
  refine SCode.join (σ := (List SProfile)) (S := fun s => ⟨[(7, .c (.own 0 s.length))], [.arr 29 11 s.length (gL cSProfile dSProfile s)]⟩) (g := fun s => compose_candidates_p2 s = some r) ?_ ?_
  rotate_left
  · refine SCode.seq ?_
    refine SCode.region (show SOps _ _ _ [0, 1, 2] _ _ from ?_)
    refine SOps.q rfl (.plain rfl) rfl (q_move rfl rfl) ?_
    refine SOps.q rfl (.plain rfl) rfl (q_len_vec rfl rfl sl22) ?_
    refine SOps.q rfl (.plain rfl) rfl (q_move rfl rfl) ?_
    refine SOps.sub (st' := ⟨[(1, .c (.int .i64 a1_conn)), (2, .c (.str a2_txn)), (7, .c (.own 0 (([] : List SProfile)).length)), (10, .c (.vec a0_l.length 11 (gL cSProfile dSProfile a0_l))), (11, .c (.int .i64 (((a0_l).length : Int)))), (12, .c (.int .i64 0))], [.arr 29 11 (([] : List SProfile)).length (gL cSProfile dSProfile (([] : List SProfile)))]⟩) (sub_gen [0] rfl rfl ⟨zc rfl rfl, zc rfl rfl, zc rfl rfl, zc rfl rfl, zc rfl rfl, zc rfl rfl, trivial⟩ ⟨oa rfl, trivial⟩) ?_
    refine SOps.nil ?_
    refine SCode.block ?_
    refine SCode.sub (st' := ⟨[(1, .c (.int .i64 a1_conn)), (2, .c (.str a2_txn)), (7, .c (.own 0 ([] : List SProfile).length)), (10, .c (.vec a0_l.length 11 (gL cSProfile dSProfile a0_l))), (11, .c (.int .i64 (((a0_l).length : Int)))), (12, .c (.int .i64 0))], [.arr 29 11 ([] : List SProfile).length (gL cSProfile dSProfile ([] : List SProfile))]⟩) (sub_gen [0] rfl rfl ⟨zc rfl rfl, zc rfl rfl, zc rfl rfl, zc rfl rfl, zc rfl rfl, zc rfl rfl, trivial⟩ ⟨oa rfl, trivial⟩) ?_
    refine (SCode.loop (σ := Nat × (Int × (List SProfile))) (S := fun s => ⟨[(1, .c (.int .i64 a1_conn)), (2, .c (.str a2_txn)), (7, .c (.own 0 s.2.2.length)), (10, .c (.vec a0_l.length 11 (gL cSProfile dSProfile a0_l))), (11, .c (.int .i64 (((a0_l).length : Int)))), (12, .c (.int .i64 s.2.1))], [.arr 29 11 s.2.2.length (gL cSProfile dSProfile s.2.2)]⟩) (g := fun s => compose_candidates_l35 a0_l a1_conn a2_txn s.1 s.2.1 s.2.2 = some r) (μ := fun s => s.1) (F, (0, ([] : List SProfile))) h ?_)
    rintro ⟨n_35, ⟨t12_18, o0_19⟩⟩ h
    replace h : compose_candidates_l35 a0_l a1_conn a2_txn n_35 t12_18 o0_19 = some r := h
    show SCode _ _ _ ⟨[(1, .c (.int .i64 a1_conn)), (2, .c (.str a2_txn)), (7, .c (.own 0 o0_19.length)), (10, .c (.vec a0_l.length 11 (gL cSProfile dSProfile a0_l))), (11, .c (.int .i64 (((a0_l).length : Int)))), (12, .c (.int .i64 t12_18))], [.arr 29 11 o0_19.length (gL cSProfile dSProfile o0_19)]⟩ _
    cases n_35 with
    | zero => cases h
    | succ n_35 =>
      replace h : compose_candidates_b35 a0_l a1_conn a2_txn (fun t12_18 o0_19 => compose_candidates_l35 a0_l a1_conn a2_txn n_35 t12_18 o0_19) t12_18 o0_19 = some r := h
      unfold compose_candidates_b35 at h
      refine SCode.seq ?_
      refine SCode.region (show SOps _ _ _ [0] _ _ from ?_)
      refine SOps.q rfl (.plain rfl) rfl (q_lss rfl rfl rfl) ?_
      refine SOps.sub (st' := ⟨[(1, .c (.int .i64 a1_conn)), (2, .c (.str a2_txn)), (7, .c (.own 0 o0_19.length)), (10, .c (.vec a0_l.length 11 (gL cSProfile dSProfile a0_l))), (11, .c (.int .i64 (((a0_l).length : Int)))), (12, .c (.int .i64 t12_18)), (13, .c (.bool (decide (t12_18 < ((a0_l).length : Int)))))], [.arr 29 11 o0_19.length (gL cSProfile dSProfile o0_19)]⟩) (sub_gen [0] rfl rfl ⟨zc rfl rfl, zc rfl rfl, zc rfl rfl, zc rfl rfl, zc rfl rfl, zc rfl rfl, zc rfl rfl, trivial⟩ ⟨oa rfl, trivial⟩) ?_
      refine SOps.nil ?_
      refine SCode.seq ?_
      rcases cond_out h with ⟨g36, h⟩ | ⟨g36, h⟩
      · refine SCode.cond_t rfl g36 ?_
        refine SCode.skip ?_
        refine SCode.join (σ := (List SProfile)) (S := fun s => ⟨[(1, .c (.int .i64 a1_conn)), (2, .c (.str a2_txn)), (7, .c (.own 0 s.length)), (10, .c (.vec a0_l.length 11 (gL cSProfile dSProfile a0_l))), (11, .c (.int .i64 (((a0_l).length : Int)))), (12, .c (.int .i64 t12_18))], [.arr 29 11 s.length (gL cSProfile dSProfile s)]⟩) (g := fun s => compose_candidates_p38 t12_18 (fun t12_18 o0_19 => compose_candidates_l35 a0_l a1_conn a2_txn n_35 t12_18 o0_19) s = some r) ?_ ?_
        rotate_left
        · refine SCode.block ?_
          refine SCode.seq ?_
          obtain ⟨g39, h⟩ := guard_out h
          refine SCode.region (show SOps _ _ _ [0, 1, 2, 3] _ _ from ?_)
          refine SOps.q rfl (.plain rfl) rfl (q_index_vec rfl rfl rfl sl22 rfl g39.1 g39.2) ?_
          refine SOps.q rfl (.plain rfl) rfl (q_load_eptr_all rfl rfl rfl ty29) ?_
          refine SOps.e rfl (.plain rfl) (e_alloc rfl rfl rfl z29) ?_
          refine SOps.e rfl (.plain rfl) (e_store_box rfl rfl rfl rfl rfl ty29 rfl rfl rfl rfl) ?_
          refine SOps.sub (st' := ⟨[(1, .c (.int .i64 a1_conn)), (2, .c (.str a2_txn)), (7, .c (.own 0 o0_19.length)), (9, .c (.ptr 1 0)), (10, .c (.vec a0_l.length 11 (gL cSProfile dSProfile a0_l))), (11, .c (.int .i64 (((a0_l).length : Int)))), (12, .c (.int .i64 t12_18))], [.arr 29 11 o0_19.length (gL cSProfile dSProfile o0_19), .box [.int .i64 ((a0_l.getD t12_18.toNat dSProfile).ID), .int .i64 ((a0_l.getD t12_18.toNat dSProfile).Level), .int .i64 ((a0_l.getD t12_18.toNat dSProfile).Purpose), .int .i64 ((a0_l.getD t12_18.toNat dSProfile).Kind), .int .i64 ((a0_l.getD t12_18.toNat dSProfile).Conn), .str ((a0_l.getD t12_18.toNat dSProfile).Txn), .int .i64 ((a0_l.getD t12_18.toNat dSProfile).Span_From), .int .i64 ((a0_l.getD t12_18.toNat dSProfile).Span_To), .int .i64 ((a0_l.getD t12_18.toNat dSProfile).Start), .int .i64 ((a0_l.getD t12_18.toNat dSProfile).Duration), .vec ((a0_l.getD t12_18.toNat dSProfile).Periods).length 2 (gL cSPeriod dSPeriod ((a0_l.getD t12_18.toNat dSProfile).Periods))]]⟩) (sub_gen [0, 1] rfl rfl ⟨zc rfl rfl, zc rfl rfl, zc rfl rfl, zc rfl rfl, zc rfl rfl, zc rfl rfl, zc rfl rfl, trivial⟩ ⟨oa rfl, ⟨_, rfl, ⟨ii rfl rfl, ii rfl rfl, ii rfl rfl, ii rfl rfl, ii rfl rfl, ii rfl rfl, ii rfl rfl, ii rfl rfl, ii rfl rfl, ii rfl rfl, ii rfl rfl, trivial⟩⟩, trivial⟩) ?_
          refine SOps.nil ?_
          refine SCode.join (σ := Unit) (S := fun s => ⟨[(1, .c (.int .i64 a1_conn)), (2, .c (.str a2_txn)), (7, .c (.own 0 o0_19.length)), (9, .c (.ptr 1 0)), (10, .c (.vec a0_l.length 11 (gL cSProfile dSProfile a0_l))), (11, .c (.int .i64 (((a0_l).length : Int)))), (12, .c (.int .i64 t12_18))], [.arr 29 11 o0_19.length (gL cSProfile dSProfile o0_19), .box [.int .i64 ((a0_l.getD t12_18.toNat dSProfile).ID), .int .i64 ((a0_l.getD t12_18.toNat dSProfile).Level), .int .i64 ((a0_l.getD t12_18.toNat dSProfile).Purpose), .int .i64 ((a0_l.getD t12_18.toNat dSProfile).Kind), .int .i64 ((a0_l.getD t12_18.toNat dSProfile).Conn), .str ((a0_l.getD t12_18.toNat dSProfile).Txn), .int .i64 ((a0_l.getD t12_18.toNat dSProfile).Span_From), .int .i64 ((a0_l.getD t12_18.toNat dSProfile).Span_To), .int .i64 ((a0_l.getD t12_18.toNat dSProfile).Start), .int .i64 ((a0_l.getD t12_18.toNat dSProfile).Duration), .vec ((a0_l.getD t12_18.toNat dSProfile).Periods).length 2 (gL cSPeriod dSPeriod ((a0_l.getD t12_18.toNat dSProfile).Periods))]]⟩) (g := fun s => compose_candidates_p48 a0_l a2_txn t12_18 o0_19 (fun t12_18 o0_19 => compose_candidates_l35 a0_l a1_conn a2_txn n_35 t12_18 o0_19) = some r) ?_ ?_
          rotate_left
          · refine SCode.seq ?_
            rcases cond_out h with ⟨g49, h⟩ | ⟨g49, h⟩
            · refine SCode.region (show SOps _ _ _ [0, 1, 2, 3, 4, 5, 6, 7, 8] _ _ from ?_)
              refine SOps.q rfl (.plain rfl) rfl (q_field_ptr rfl rfl fd29_4) ?_
              refine SOps.q rfl (.plain rfl) rfl (q_load_ptr rfl rfl rfl rfl ty3) ?_
              refine SOps.q rfl (.plain rfl) rfl (q_neq rfl rfl rfl) ?_
              refine SOps.q rfl (.plain rfl) rfl (q_move rfl rfl) ?_
              refine SOps.q rfl (.guard 3 19 true rfl rfl (gT g49)) rfl (q_field_ptr rfl rfl fd29_4) ?_
              refine SOps.q rfl (.guard 3 19 true rfl rfl (gT g49)) rfl (q_load_ptr rfl rfl rfl rfl ty3) ?_
              refine SOps.q rfl (.guard 3 19 true rfl rfl (gT g49)) rfl (q_move rfl rfl) ?_
              refine SOps.q rfl (.guard 3 19 true rfl rfl (gT g49)) rfl (q_neq rfl rfl rfl) ?_
              refine SOps.q rfl (.plain rfl) rfl (q_pick_t rfl rfl g49 rfl) ?_
              refine SOps.sub (st' := ⟨[(1, .c (.int .i64 a1_conn)), (2, .c (.str a2_txn)), (7, .c (.own 0 o0_19.length)), (9, .c (.ptr 1 0)), (10, .c (.vec a0_l.length 11 (gL cSProfile dSProfile a0_l))), (11, .c (.int .i64 (((a0_l).length : Int)))), (12, .c (.int .i64 t12_18)), (24, .c (.bool ((!decide ((a0_l.getD t12_18.toNat dSProfile).Conn = a1_conn)))))], [.arr 29 11 o0_19.length (gL cSProfile dSProfile o0_19), .box [.int .i64 ((a0_l.getD t12_18.toNat dSProfile).ID), .int .i64 ((a0_l.getD t12_18.toNat dSProfile).Level), .int .i64 ((a0_l.getD t12_18.toNat dSProfile).Purpose), .int .i64 ((a0_l.getD t12_18.toNat dSProfile).Kind), .int .i64 ((a0_l.getD t12_18.toNat dSProfile).Conn), .str ((a0_l.getD t12_18.toNat dSProfile).Txn), .int .i64 ((a0_l.getD t12_18.toNat dSProfile).Span_From), .int .i64 ((a0_l.getD t12_18.toNat dSProfile).Span_To), .int .i64 ((a0_l.getD t12_18.toNat dSProfile).Start), .int .i64 ((a0_l.getD t12_18.toNat dSProfile).Duration), .vec ((a0_l.getD t12_18.toNat dSProfile).Periods).length 2 (gL cSPeriod dSPeriod ((a0_l.getD t12_18.toNat dSProfile).Periods))]]⟩) (sub_gen [0, 1] rfl rfl ⟨zc rfl rfl, zc rfl rfl, zc rfl rfl, zc rfl rfl, zc rfl rfl, zc rfl rfl, zc rfl rfl, zc rfl rfl, trivial⟩ ⟨oa rfl, ⟨_, rfl, ⟨ii rfl rfl, ii rfl rfl, ii rfl rfl, ii rfl rfl, ii rfl rfl, ii rfl rfl, ii rfl rfl, ii rfl rfl, ii rfl rfl, ii rfl rfl, ii rfl rfl, trivial⟩⟩, trivial⟩) ?_
              refine SOps.nil ?_
              rcases cond_out h with ⟨g50, h⟩ | ⟨g50, h⟩
              · refine SCode.cond_t rfl g50 ?_
                refine SCode.exit ?_
                exact ⟨o0_19, h, sub_gen [0] rfl rfl ⟨zc rfl rfl, zc rfl rfl, zc rfl rfl, zc rfl rfl, zc rfl rfl, zc rfl rfl, trivial⟩ ⟨oa rfl, trivial⟩⟩
              refine SCode.cond_f rfl g50 ?_
              refine SCode.skip ?_
              exact ⟨(), h, sub_gen [0, 1] rfl rfl ⟨zc rfl rfl, zc rfl rfl, zc rfl rfl, zc rfl rfl, zc rfl rfl, zc rfl rfl, zc rfl rfl, trivial⟩ ⟨oa rfl, ⟨_, rfl, ⟨ii rfl rfl, ii rfl rfl, ii rfl rfl, ii rfl rfl, ii rfl rfl, ii rfl rfl, ii rfl rfl, ii rfl rfl, ii rfl rfl, ii rfl rfl, ii rfl rfl, trivial⟩⟩, trivial⟩⟩
            refine SCode.region (show SOps _ _ _ [0, 1, 2, 3, 4, 5, 6, 7, 8] _ _ from ?_)
            refine SOps.q rfl (.plain rfl) rfl (q_field_ptr rfl rfl fd29_4) ?_
            refine SOps.q rfl (.plain rfl) rfl (q_load_ptr rfl rfl rfl rfl ty3) ?_
            refine SOps.q rfl (.plain rfl) rfl (q_neq rfl rfl rfl) ?_
            refine SOps.q rfl (.plain rfl) rfl (q_move rfl rfl) ?_
            refine SOps.skip rfl 3 19 true rfl rfl (.inl (gF g49)) rfl ?_
            refine SOps.skip rfl 3 19 true rfl rfl (.inl (gF g49)) rfl ?_
            refine SOps.skip rfl 3 19 true rfl rfl (.inl (gF g49)) rfl ?_
            refine SOps.skip rfl 3 19 true rfl rfl (.inl (gF g49)) rfl ?_
            refine SOps.q rfl (.plain rfl) rfl (q_pick_f rfl rfl g49 rfl) ?_
            refine SOps.sub (st' := ⟨[(1, .c (.int .i64 a1_conn)), (2, .c (.str a2_txn)), (7, .c (.own 0 o0_19.length)), (9, .c (.ptr 1 0)), (10, .c (.vec a0_l.length 11 (gL cSProfile dSProfile a0_l))), (11, .c (.int .i64 (((a0_l).length : Int)))), (12, .c (.int .i64 t12_18)), (24, .c (.bool false))], [.arr 29 11 o0_19.length (gL cSProfile dSProfile o0_19), .box [.int .i64 ((a0_l.getD t12_18.toNat dSProfile).ID), .int .i64 ((a0_l.getD t12_18.toNat dSProfile).Level), .int .i64 ((a0_l.getD t12_18.toNat dSProfile).Purpose), .int .i64 ((a0_l.getD t12_18.toNat dSProfile).Kind), .int .i64 ((a0_l.getD t12_18.toNat dSProfile).Conn), .str ((a0_l.getD t12_18.toNat dSProfile).Txn), .int .i64 ((a0_l.getD t12_18.toNat dSProfile).Span_From), .int .i64 ((a0_l.getD t12_18.toNat dSProfile).Span_To), .int .i64 ((a0_l.getD t12_18.toNat dSProfile).Start), .int .i64 ((a0_l.getD t12_18.toNat dSProfile).Duration), .vec ((a0_l.getD t12_18.toNat dSProfile).Periods).length 2 (gL cSPeriod dSPeriod ((a0_l.getD t12_18.toNat dSProfile).Periods))]]⟩) (sub_gen [0, 1] rfl rfl ⟨zc rfl rfl, zc rfl rfl, zc rfl rfl, zc rfl rfl, zc rfl rfl, zc rfl rfl, zc rfl rfl, zc rfl rfl, trivial⟩ ⟨oa rfl, ⟨_, rfl, ⟨ii rfl rfl, ii rfl rfl, ii rfl rfl, ii rfl rfl, ii rfl rfl, ii rfl rfl, ii rfl rfl, ii rfl rfl, ii rfl rfl, ii rfl rfl, ii rfl rfl, trivial⟩⟩, trivial⟩) ?_
            refine SOps.nil ?_
            refine SCode.cond_f rfl rfl ?_
            refine SCode.skip ?_
            exact ⟨(), h, sub_gen [0, 1] rfl rfl ⟨zc rfl rfl, zc rfl rfl, zc rfl rfl, zc rfl rfl, zc rfl rfl, zc rfl rfl, zc rfl rfl, trivial⟩ ⟨oa rfl, ⟨_, rfl, ⟨ii rfl rfl, ii rfl rfl, ii rfl rfl, ii rfl rfl, ii rfl rfl, ii rfl rfl, ii rfl rfl, ii rfl rfl, ii rfl rfl, ii rfl rfl, ii rfl rfl, trivial⟩⟩, trivial⟩⟩
          rintro ⟨⟩ h
          show SCode _ _ _ ⟨[(1, .c (.int .i64 a1_conn)), (2, .c (.str a2_txn)), (7, .c (.own 0 o0_19.length)), (9, .c (.ptr 1 0)), (10, .c (.vec a0_l.length 11 (gL cSProfile dSProfile a0_l))), (11, .c (.int .i64 (((a0_l).length : Int)))), (12, .c (.int .i64 t12_18))], [.arr 29 11 o0_19.length (gL cSProfile dSProfile o0_19), .box [.int .i64 ((a0_l.getD t12_18.toNat dSProfile).ID), .int .i64 ((a0_l.getD t12_18.toNat dSProfile).Level), .int .i64 ((a0_l.getD t12_18.toNat dSProfile).Purpose), .int .i64 ((a0_l.getD t12_18.toNat dSProfile).Kind), .int .i64 ((a0_l.getD t12_18.toNat dSProfile).Conn), .str ((a0_l.getD t12_18.toNat dSProfile).Txn), .int .i64 ((a0_l.getD t12_18.toNat dSProfile).Span_From), .int .i64 ((a0_l.getD t12_18.toNat dSProfile).Span_To), .int .i64 ((a0_l.getD t12_18.toNat dSProfile).Start), .int .i64 ((a0_l.getD t12_18.toNat dSProfile).Duration), .vec ((a0_l.getD t12_18.toNat dSProfile).Periods).length 2 (gL cSPeriod dSPeriod ((a0_l.getD t12_18.toNat dSProfile).Periods))]]⟩ _
          replace h : compose_candidates_p48 a0_l a2_txn t12_18 o0_19 (fun t12_18 o0_19 => compose_candidates_l35 a0_l a1_conn a2_txn n_35 t12_18 o0_19) = some r := h
          unfold compose_candidates_p48 at h
          refine SCode.join (σ := Unit) (S := fun s => ⟨[(1, .c (.int .i64 a1_conn)), (2, .c (.str a2_txn)), (7, .c (.own 0 o0_19.length)), (9, .c (.ptr 1 0)), (10, .c (.vec a0_l.length 11 (gL cSProfile dSProfile a0_l))), (11, .c (.int .i64 (((a0_l).length : Int)))), (12, .c (.int .i64 t12_18))], [.arr 29 11 o0_19.length (gL cSProfile dSProfile o0_19), .box [.int .i64 ((a0_l.getD t12_18.toNat dSProfile).ID), .int .i64 ((a0_l.getD t12_18.toNat dSProfile).Level), .int .i64 ((a0_l.getD t12_18.toNat dSProfile).Purpose), .int .i64 ((a0_l.getD t12_18.toNat dSProfile).Kind), .int .i64 ((a0_l.getD t12_18.toNat dSProfile).Conn), .str ((a0_l.getD t12_18.toNat dSProfile).Txn), .int .i64 ((a0_l.getD t12_18.toNat dSProfile).Span_From), .int .i64 ((a0_l.getD t12_18.toNat dSProfile).Span_To), .int .i64 ((a0_l.getD t12_18.toNat dSProfile).Start), .int .i64 ((a0_l.getD t12_18.toNat dSProfile).Duration), .vec ((a0_l.getD t12_18.toNat dSProfile).Periods).length 2 (gL cSPeriod dSPeriod ((a0_l.getD t12_18.toNat dSProfile).Periods))]]⟩) (g := fun s => compose_candidates_p45 a0_l a2_txn t12_18 o0_19 (fun t12_18 o0_19 => compose_candidates_l35 a0_l a1_conn a2_txn n_35 t12_18 o0_19) = some r) ?_ ?_
          rotate_left
          · refine SCode.seq ?_
            rcases cond_out h with ⟨g46, h⟩ | ⟨g46, h⟩
            · refine SCode.region (show SOps _ _ _ [0, 1, 2, 3, 4, 5, 6, 7, 8] _ _ from ?_)
              refine SOps.q rfl (.plain rfl) rfl (q_field_ptr rfl rfl fd29_2) ?_
              refine SOps.q rfl (.plain rfl) rfl (q_load_ptr rfl rfl rfl rfl ty3) ?_
              refine SOps.q rfl (.plain rfl) rfl (q_eql rfl rfl rfl) ?_
              refine SOps.q rfl (.plain rfl) rfl (q_move rfl rfl) ?_
              refine SOps.q rfl (.guard 3 28 true rfl rfl (gT g46)) rfl (q_field_ptr rfl rfl fd29_5) ?_
              refine SOps.q rfl (.guard 3 28 true rfl rfl (gT g46)) rfl (q_load_ptr rfl rfl rfl rfl ty9) ?_
              refine SOps.q rfl (.guard 3 28 true rfl rfl (gT g46)) rfl (q_move rfl rfl) ?_
              refine SOps.q rfl (.guard 3 28 true rfl rfl (gT g46)) rfl (q_neqS rfl rfl rfl) ?_
              refine SOps.q rfl (.plain rfl) rfl (q_pick_t rfl rfl g46 rfl) ?_
              refine SOps.sub (st' := ⟨[(1, .c (.int .i64 a1_conn)), (2, .c (.str a2_txn)), (7, .c (.own 0 o0_19.length)), (9, .c (.ptr 1 0)), (10, .c (.vec a0_l.length 11 (gL cSProfile dSProfile a0_l))), (11, .c (.int .i64 (((a0_l).length : Int)))), (12, .c (.int .i64 t12_18)), (33, .c (.bool ((!(sEq ((a0_l.getD t12_18.toNat dSProfile).Txn) a2_txn)))))], [.arr 29 11 o0_19.length (gL cSProfile dSProfile o0_19), .box [.int .i64 ((a0_l.getD t12_18.toNat dSProfile).ID), .int .i64 ((a0_l.getD t12_18.toNat dSProfile).Level), .int .i64 ((a0_l.getD t12_18.toNat dSProfile).Purpose), .int .i64 ((a0_l.getD t12_18.toNat dSProfile).Kind), .int .i64 ((a0_l.getD t12_18.toNat dSProfile).Conn), .str ((a0_l.getD t12_18.toNat dSProfile).Txn), .int .i64 ((a0_l.getD t12_18.toNat dSProfile).Span_From), .int .i64 ((a0_l.getD t12_18.toNat dSProfile).Span_To), .int .i64 ((a0_l.getD t12_18.toNat dSProfile).Start), .int .i64 ((a0_l.getD t12_18.toNat dSProfile).Duration), .vec ((a0_l.getD t12_18.toNat dSProfile).Periods).length 2 (gL cSPeriod dSPeriod ((a0_l.getD t12_18.toNat dSProfile).Periods))]]⟩) (sub_gen [0, 1] rfl rfl ⟨zc rfl rfl, zc rfl rfl, zc rfl rfl, zc rfl rfl, zc rfl rfl, zc rfl rfl, zc rfl rfl, zc rfl rfl, trivial⟩ ⟨oa rfl, ⟨_, rfl, ⟨ii rfl rfl, ii rfl rfl, ii rfl rfl, ii rfl rfl, ii rfl rfl, ii rfl rfl, ii rfl rfl, ii rfl rfl, ii rfl rfl, ii rfl rfl, ii rfl rfl, trivial⟩⟩, trivial⟩) ?_
              refine SOps.nil ?_
              rcases cond_out h with ⟨g47, h⟩ | ⟨g47, h⟩
              · refine SCode.cond_t rfl g47 ?_
                refine SCode.exit ?_
                exact ⟨o0_19, h, sub_gen [0] rfl rfl ⟨zc rfl rfl, zc rfl rfl, zc rfl rfl, zc rfl rfl, zc rfl rfl, zc rfl rfl, trivial⟩ ⟨oa rfl, trivial⟩⟩
              refine SCode.cond_f rfl g47 ?_
              refine SCode.skip ?_
              exact ⟨(), h, sub_gen [0, 1] rfl rfl ⟨zc rfl rfl, zc rfl rfl, zc rfl rfl, zc rfl rfl, zc rfl rfl, zc rfl rfl, zc rfl rfl, trivial⟩ ⟨oa rfl, ⟨_, rfl, ⟨ii rfl rfl, ii rfl rfl, ii rfl rfl, ii rfl rfl, ii rfl rfl, ii rfl rfl, ii rfl rfl, ii rfl rfl, ii rfl rfl, ii rfl rfl, ii rfl rfl, trivial⟩⟩, trivial⟩⟩
            refine SCode.region (show SOps _ _ _ [0, 1, 2, 3, 4, 5, 6, 7, 8] _ _ from ?_)
            refine SOps.q rfl (.plain rfl) rfl (q_field_ptr rfl rfl fd29_2) ?_
            refine SOps.q rfl (.plain rfl) rfl (q_load_ptr rfl rfl rfl rfl ty3) ?_
            refine SOps.q rfl (.plain rfl) rfl (q_eql rfl rfl rfl) ?_
            refine SOps.q rfl (.plain rfl) rfl (q_move rfl rfl) ?_
            refine SOps.skip rfl 3 28 true rfl rfl (.inl (gF g46)) rfl ?_
            refine SOps.skip rfl 3 28 true rfl rfl (.inl (gF g46)) rfl ?_
            refine SOps.skip rfl 3 28 true rfl rfl (.inl (gF g46)) rfl ?_
            refine SOps.skip rfl 3 28 true rfl rfl (.inl (gF g46)) rfl ?_
            refine SOps.q rfl (.plain rfl) rfl (q_pick_f rfl rfl g46 rfl) ?_
            refine SOps.sub (st' := ⟨[(1, .c (.int .i64 a1_conn)), (2, .c (.str a2_txn)), (7, .c (.own 0 o0_19.length)), (9, .c (.ptr 1 0)), (10, .c (.vec a0_l.length 11 (gL cSProfile dSProfile a0_l))), (11, .c (.int .i64 (((a0_l).length : Int)))), (12, .c (.int .i64 t12_18)), (33, .c (.bool false))], [.arr 29 11 o0_19.length (gL cSProfile dSProfile o0_19), .box [.int .i64 ((a0_l.getD t12_18.toNat dSProfile).ID), .int .i64 ((a0_l.getD t12_18.toNat dSProfile).Level), .int .i64 ((a0_l.getD t12_18.toNat dSProfile).Purpose), .int .i64 ((a0_l.getD t12_18.toNat dSProfile).Kind), .int .i64 ((a0_l.getD t12_18.toNat dSProfile).Conn), .str ((a0_l.getD t12_18.toNat dSProfile).Txn), .int .i64 ((a0_l.getD t12_18.toNat dSProfile).Span_From), .int .i64 ((a0_l.getD t12_18.toNat dSProfile).Span_To), .int .i64 ((a0_l.getD t12_18.toNat dSProfile).Start), .int .i64 ((a0_l.getD t12_18.toNat dSProfile).Duration), .vec ((a0_l.getD t12_18.toNat dSProfile).Periods).length 2 (gL cSPeriod dSPeriod ((a0_l.getD t12_18.toNat dSProfile).Periods))]]⟩) (sub_gen [0, 1] rfl rfl ⟨zc rfl rfl, zc rfl rfl, zc rfl rfl, zc rfl rfl, zc rfl rfl, zc rfl rfl, zc rfl rfl, zc rfl rfl, trivial⟩ ⟨oa rfl, ⟨_, rfl, ⟨ii rfl rfl, ii rfl rfl, ii rfl rfl, ii rfl rfl, ii rfl rfl, ii rfl rfl, ii rfl rfl, ii rfl rfl, ii rfl rfl, ii rfl rfl, ii rfl rfl, trivial⟩⟩, trivial⟩) ?_
            refine SOps.nil ?_
            refine SCode.cond_f rfl rfl ?_
            refine SCode.skip ?_
            exact ⟨(), h, sub_gen [0, 1] rfl rfl ⟨zc rfl rfl, zc rfl rfl, zc rfl rfl, zc rfl rfl, zc rfl rfl, zc rfl rfl, zc rfl rfl, trivial⟩ ⟨oa rfl, ⟨_, rfl, ⟨ii rfl rfl, ii rfl rfl, ii rfl rfl, ii rfl rfl, ii rfl rfl, ii rfl rfl, ii rfl rfl, ii rfl rfl, ii rfl rfl, ii rfl rfl, ii rfl rfl, trivial⟩⟩, trivial⟩⟩
          rintro ⟨⟩ h
          show SCode _ _ _ ⟨[(1, .c (.int .i64 a1_conn)), (2, .c (.str a2_txn)), (7, .c (.own 0 o0_19.length)), (9, .c (.ptr 1 0)), (10, .c (.vec a0_l.length 11 (gL cSProfile dSProfile a0_l))), (11, .c (.int .i64 (((a0_l).length : Int)))), (12, .c (.int .i64 t12_18))], [.arr 29 11 o0_19.length (gL cSProfile dSProfile o0_19), .box [.int .i64 ((a0_l.getD t12_18.toNat dSProfile).ID), .int .i64 ((a0_l.getD t12_18.toNat dSProfile).Level), .int .i64 ((a0_l.getD t12_18.toNat dSProfile).Purpose), .int .i64 ((a0_l.getD t12_18.toNat dSProfile).Kind), .int .i64 ((a0_l.getD t12_18.toNat dSProfile).Conn), .str ((a0_l.getD t12_18.toNat dSProfile).Txn), .int .i64 ((a0_l.getD t12_18.toNat dSProfile).Span_From), .int .i64 ((a0_l.getD t12_18.toNat dSProfile).Span_To), .int .i64 ((a0_l.getD t12_18.toNat dSProfile).Start), .int .i64 ((a0_l.getD t12_18.toNat dSProfile).Duration), .vec ((a0_l.getD t12_18.toNat dSProfile).Periods).length 2 (gL cSPeriod dSPeriod ((a0_l.getD t12_18.toNat dSProfile).Periods))]]⟩ _
          replace h : compose_candidates_p45 a0_l a2_txn t12_18 o0_19 (fun t12_18 o0_19 => compose_candidates_l35 a0_l a1_conn a2_txn n_35 t12_18 o0_19) = some r := h
          unfold compose_candidates_p45 at h
          refine SCode.join (σ := Unit) (S := fun s => ⟨[(1, .c (.int .i64 a1_conn)), (2, .c (.str a2_txn)), (7, .c (.own 0 o0_19.length)), (9, .c (.ptr 1 0)), (10, .c (.vec a0_l.length 11 (gL cSProfile dSProfile a0_l))), (11, .c (.int .i64 (((a0_l).length : Int)))), (12, .c (.int .i64 t12_18))], [.arr 29 11 o0_19.length (gL cSProfile dSProfile o0_19), .box [.int .i64 ((a0_l.getD t12_18.toNat dSProfile).ID), .int .i64 ((a0_l.getD t12_18.toNat dSProfile).Level), .int .i64 ((a0_l.getD t12_18.toNat dSProfile).Purpose), .int .i64 ((a0_l.getD t12_18.toNat dSProfile).Kind), .int .i64 ((a0_l.getD t12_18.toNat dSProfile).Conn), .str ((a0_l.getD t12_18.toNat dSProfile).Txn), .int .i64 ((a0_l.getD t12_18.toNat dSProfile).Span_From), .int .i64 ((a0_l.getD t12_18.toNat dSProfile).Span_To), .int .i64 ((a0_l.getD t12_18.toNat dSProfile).Start), .int .i64 ((a0_l.getD t12_18.toNat dSProfile).Duration), .vec ((a0_l.getD t12_18.toNat dSProfile).Periods).length 2 (gL cSPeriod dSPeriod ((a0_l.getD t12_18.toNat dSProfile).Periods))]]⟩) (g := fun s => compose_candidates_p41 a0_l t12_18 o0_19 (fun t12_18 o0_19 => compose_candidates_l35 a0_l a1_conn a2_txn n_35 t12_18 o0_19) = some r) ?_ ?_
          rotate_left
          · refine SCode.seq ?_
            rcases cond_out h with ⟨g42, h⟩ | ⟨g42, h⟩
            · rcases cond_out h with ⟨g43, h⟩ | ⟨g43, h⟩
              · refine SCode.region (show SOps _ _ _ [0, 1, 2, 3, 4, 5, 6, 7, 8, 9, 10, 11] _ _ from ?_)
                refine SOps.q rfl (.plain rfl) rfl (q_move rfl rfl) ?_
                refine SOps.q rfl (.plain rfl) rfl (q_eqlS rfl rfl rfl) ?_
                refine SOps.q rfl (.plain rfl) rfl (q_move rfl rfl) ?_
                refine SOps.q rfl (.guard 2 36 true rfl rfl (gT g42)) rfl (q_field_ptr rfl rfl fd29_2) ?_
                refine SOps.q rfl (.guard 2 36 true rfl rfl (gT g42)) rfl (q_load_ptr rfl rfl rfl rfl ty3) ?_
                refine SOps.q rfl (.guard 2 36 true rfl rfl (gT g42)) rfl (q_eql rfl rfl rfl) ?_
                refine SOps.q rfl (.guard 2 36 true rfl rfl (gT g42)) rfl (q_move rfl rfl) ?_
                refine SOps.skip rfl 6 40 false rfl rfl (.inl (gT g43)) rfl ?_
                refine SOps.skip rfl 6 40 false rfl rfl (.inl (gT g43)) rfl ?_
                refine SOps.skip rfl 6 40 false rfl rfl (.inl (gT g43)) rfl ?_
                refine SOps.q rfl (.guard 2 36 true rfl rfl (gT g42)) rfl (q_pick_t rfl rfl g43 rfl) ?_
                refine SOps.q rfl (.plain rfl) rfl (q_pick_t rfl rfl g42 rfl) ?_
                refine SOps.sub (st' := ⟨[(1, .c (.int .i64 a1_conn)), (2, .c (.str a2_txn)), (7, .c (.own 0 o0_19.length)), (9, .c (.ptr 1 0)), (10, .c (.vec a0_l.length 11 (gL cSProfile dSProfile a0_l))), (11, .c (.int .i64 (((a0_l).length : Int)))), (12, .c (.int .i64 t12_18)), (45, .c (.bool true))], [.arr 29 11 o0_19.length (gL cSProfile dSProfile o0_19), .box [.int .i64 ((a0_l.getD t12_18.toNat dSProfile).ID), .int .i64 ((a0_l.getD t12_18.toNat dSProfile).Level), .int .i64 ((a0_l.getD t12_18.toNat dSProfile).Purpose), .int .i64 ((a0_l.getD t12_18.toNat dSProfile).Kind), .int .i64 ((a0_l.getD t12_18.toNat dSProfile).Conn), .str ((a0_l.getD t12_18.toNat dSProfile).Txn), .int .i64 ((a0_l.getD t12_18.toNat dSProfile).Span_From), .int .i64 ((a0_l.getD t12_18.toNat dSProfile).Span_To), .int .i64 ((a0_l.getD t12_18.toNat dSProfile).Start), .int .i64 ((a0_l.getD t12_18.toNat dSProfile).Duration), .vec ((a0_l.getD t12_18.toNat dSProfile).Periods).length 2 (gL cSPeriod dSPeriod ((a0_l.getD t12_18.toNat dSProfile).Periods))]]⟩) (sub_gen [0, 1] rfl rfl ⟨zc rfl rfl, zc rfl rfl, zc rfl rfl, zc rfl rfl, zc rfl rfl, zc rfl rfl, zc rfl rfl, zc rfl rfl, trivial⟩ ⟨oa rfl, ⟨_, rfl, ⟨ii rfl rfl, ii rfl rfl, ii rfl rfl, ii rfl rfl, ii rfl rfl, ii rfl rfl, ii rfl rfl, ii rfl rfl, ii rfl rfl, ii rfl rfl, ii rfl rfl, trivial⟩⟩, trivial⟩) ?_
                refine SOps.nil ?_
                refine SCode.cond_t rfl rfl ?_
                refine SCode.exit ?_
                exact ⟨o0_19, h, sub_gen [0] rfl rfl ⟨zc rfl rfl, zc rfl rfl, zc rfl rfl, zc rfl rfl, zc rfl rfl, zc rfl rfl, trivial⟩ ⟨oa rfl, trivial⟩⟩
              refine SCode.region (show SOps _ _ _ [0, 1, 2, 3, 4, 5, 6, 7, 8, 9, 10, 11] _ _ from ?_)
              refine SOps.q rfl (.plain rfl) rfl (q_move rfl rfl) ?_
              refine SOps.q rfl (.plain rfl) rfl (q_eqlS rfl rfl rfl) ?_
              refine SOps.q rfl (.plain rfl) rfl (q_move rfl rfl) ?_
              refine SOps.q rfl (.guard 2 36 true rfl rfl (gT g42)) rfl (q_field_ptr rfl rfl fd29_2) ?_
              refine SOps.q rfl (.guard 2 36 true rfl rfl (gT g42)) rfl (q_load_ptr rfl rfl rfl rfl ty3) ?_
              refine SOps.q rfl (.guard 2 36 true rfl rfl (gT g42)) rfl (q_eql rfl rfl rfl) ?_
              refine SOps.q rfl (.guard 2 36 true rfl rfl (gT g42)) rfl (q_move rfl rfl) ?_
              refine SOps.q rfl (.guard 6 40 false rfl rfl (gF g43)) rfl (q_field_ptr rfl rfl fd29_3) ?_
              refine SOps.q rfl (.guard 6 40 false rfl rfl (gF g43)) rfl (q_load_ptr rfl rfl rfl rfl ty3) ?_
              refine SOps.q rfl (.guard 6 40 false rfl rfl (gF g43)) rfl (q_eql rfl rfl rfl) ?_
              refine SOps.q rfl (.guard 2 36 true rfl rfl (gT g42)) rfl (q_pick_f rfl rfl g43 rfl) ?_
              refine SOps.q rfl (.plain rfl) rfl (q_pick_t rfl rfl g42 rfl) ?_
              refine SOps.sub (st' := ⟨[(1, .c (.int .i64 a1_conn)), (2, .c (.str a2_txn)), (7, .c (.own 0 o0_19.length)), (9, .c (.ptr 1 0)), (10, .c (.vec a0_l.length 11 (gL cSProfile dSProfile a0_l))), (11, .c (.int .i64 (((a0_l).length : Int)))), (12, .c (.int .i64 t12_18)), (45, .c (.bool (decide ((a0_l.getD t12_18.toNat dSProfile).Kind = 4))))], [.arr 29 11 o0_19.length (gL cSProfile dSProfile o0_19), .box [.int .i64 ((a0_l.getD t12_18.toNat dSProfile).ID), .int .i64 ((a0_l.getD t12_18.toNat dSProfile).Level), .int .i64 ((a0_l.getD t12_18.toNat dSProfile).Purpose), .int .i64 ((a0_l.getD t12_18.toNat dSProfile).Kind), .int .i64 ((a0_l.getD t12_18.toNat dSProfile).Conn), .str ((a0_l.getD t12_18.toNat dSProfile).Txn), .int .i64 ((a0_l.getD t12_18.toNat dSProfile).Span_From), .int .i64 ((a0_l.getD t12_18.toNat dSProfile).Span_To), .int .i64 ((a0_l.getD t12_18.toNat dSProfile).Start), .int .i64 ((a0_l.getD t12_18.toNat dSProfile).Duration), .vec ((a0_l.getD t12_18.toNat dSProfile).Periods).length 2 (gL cSPeriod dSPeriod ((a0_l.getD t12_18.toNat dSProfile).Periods))]]⟩) (sub_gen [0, 1] rfl rfl ⟨zc rfl rfl, zc rfl rfl, zc rfl rfl, zc rfl rfl, zc rfl rfl, zc rfl rfl, zc rfl rfl, zc rfl rfl, trivial⟩ ⟨oa rfl, ⟨_, rfl, ⟨ii rfl rfl, ii rfl rfl, ii rfl rfl, ii rfl rfl, ii rfl rfl, ii rfl rfl, ii rfl rfl, ii rfl rfl, ii rfl rfl, ii rfl rfl, ii rfl rfl, trivial⟩⟩, trivial⟩) ?_
              refine SOps.nil ?_
              rcases cond_out h with ⟨g44, h⟩ | ⟨g44, h⟩
              · refine SCode.cond_t rfl g44 ?_
                refine SCode.exit ?_
                exact ⟨o0_19, h, sub_gen [0] rfl rfl ⟨zc rfl rfl, zc rfl rfl, zc rfl rfl, zc rfl rfl, zc rfl rfl, zc rfl rfl, trivial⟩ ⟨oa rfl, trivial⟩⟩
              refine SCode.cond_f rfl g44 ?_
              refine SCode.skip ?_
              exact ⟨(), h, sub_gen [0, 1] rfl rfl ⟨zc rfl rfl, zc rfl rfl, zc rfl rfl, zc rfl rfl, zc rfl rfl, zc rfl rfl, zc rfl rfl, trivial⟩ ⟨oa rfl, ⟨_, rfl, ⟨ii rfl rfl, ii rfl rfl, ii rfl rfl, ii rfl rfl, ii rfl rfl, ii rfl rfl, ii rfl rfl, ii rfl rfl, ii rfl rfl, ii rfl rfl, ii rfl rfl, trivial⟩⟩, trivial⟩⟩
            refine SCode.region (show SOps _ _ _ [0, 1, 2, 3, 4, 5, 6, 7, 8, 9, 10, 11] _ _ from ?_)
            refine SOps.q rfl (.plain rfl) rfl (q_move rfl rfl) ?_
            refine SOps.q rfl (.plain rfl) rfl (q_eqlS rfl rfl rfl) ?_
            refine SOps.q rfl (.plain rfl) rfl (q_move rfl rfl) ?_
            refine SOps.skip rfl 2 36 true rfl rfl (.inl (gF g42)) rfl ?_
            refine SOps.skip rfl 2 36 true rfl rfl (.inl (gF g42)) rfl ?_
            refine SOps.skip rfl 2 36 true rfl rfl (.inl (gF g42)) rfl ?_
            refine SOps.skip rfl 2 36 true rfl rfl (.inl (gF g42)) rfl ?_
            refine SOps.skip rfl 6 40 false rfl rfl (.inr rfl) rfl ?_
            refine SOps.skip rfl 6 40 false rfl rfl (.inr rfl) rfl ?_
            refine SOps.skip rfl 6 40 false rfl rfl (.inr rfl) rfl ?_
            refine SOps.skip rfl 2 36 true rfl rfl (.inl (gF g42)) rfl ?_
            refine SOps.q rfl (.plain rfl) rfl (q_pick_f rfl rfl g42 rfl) ?_
            refine SOps.sub (st' := ⟨[(1, .c (.int .i64 a1_conn)), (2, .c (.str a2_txn)), (7, .c (.own 0 o0_19.length)), (9, .c (.ptr 1 0)), (10, .c (.vec a0_l.length 11 (gL cSProfile dSProfile a0_l))), (11, .c (.int .i64 (((a0_l).length : Int)))), (12, .c (.int .i64 t12_18)), (45, .c (.bool false))], [.arr 29 11 o0_19.length (gL cSProfile dSProfile o0_19), .box [.int .i64 ((a0_l.getD t12_18.toNat dSProfile).ID), .int .i64 ((a0_l.getD t12_18.toNat dSProfile).Level), .int .i64 ((a0_l.getD t12_18.toNat dSProfile).Purpose), .int .i64 ((a0_l.getD t12_18.toNat dSProfile).Kind), .int .i64 ((a0_l.getD t12_18.toNat dSProfile).Conn), .str ((a0_l.getD t12_18.toNat dSProfile).Txn), .int .i64 ((a0_l.getD t12_18.toNat dSProfile).Span_From), .int .i64 ((a0_l.getD t12_18.toNat dSProfile).Span_To), .int .i64 ((a0_l.getD t12_18.toNat dSProfile).Start), .int .i64 ((a0_l.getD t12_18.toNat dSProfile).Duration), .vec ((a0_l.getD t12_18.toNat dSProfile).Periods).length 2 (gL cSPeriod dSPeriod ((a0_l.getD t12_18.toNat dSProfile).Periods))]]⟩) (sub_gen [0, 1] rfl rfl ⟨zc rfl rfl, zc rfl rfl, zc rfl rfl, zc rfl rfl, zc rfl rfl, zc rfl rfl, zc rfl rfl, zc rfl rfl, trivial⟩ ⟨oa rfl, ⟨_, rfl, ⟨ii rfl rfl, ii rfl rfl, ii rfl rfl, ii rfl rfl, ii rfl rfl, ii rfl rfl, ii rfl rfl, ii rfl rfl, ii rfl rfl, ii rfl rfl, ii rfl rfl, trivial⟩⟩, trivial⟩) ?_
            refine SOps.nil ?_
            refine SCode.cond_f rfl rfl ?_
            refine SCode.skip ?_
            exact ⟨(), h, sub_gen [0, 1] rfl rfl ⟨zc rfl rfl, zc rfl rfl, zc rfl rfl, zc rfl rfl, zc rfl rfl, zc rfl rfl, zc rfl rfl, trivial⟩ ⟨oa rfl, ⟨_, rfl, ⟨ii rfl rfl, ii rfl rfl, ii rfl rfl, ii rfl rfl, ii rfl rfl, ii rfl rfl, ii rfl rfl, ii rfl rfl, ii rfl rfl, ii rfl rfl, ii rfl rfl, trivial⟩⟩, trivial⟩⟩
          rintro ⟨⟩ h
          show SCode _ _ _ ⟨[(1, .c (.int .i64 a1_conn)), (2, .c (.str a2_txn)), (7, .c (.own 0 o0_19.length)), (9, .c (.ptr 1 0)), (10, .c (.vec a0_l.length 11 (gL cSProfile dSProfile a0_l))), (11, .c (.int .i64 (((a0_l).length : Int)))), (12, .c (.int .i64 t12_18))], [.arr 29 11 o0_19.length (gL cSProfile dSProfile o0_19), .box [.int .i64 ((a0_l.getD t12_18.toNat dSProfile).ID), .int .i64 ((a0_l.getD t12_18.toNat dSProfile).Level), .int .i64 ((a0_l.getD t12_18.toNat dSProfile).Purpose), .int .i64 ((a0_l.getD t12_18.toNat dSProfile).Kind), .int .i64 ((a0_l.getD t12_18.toNat dSProfile).Conn), .str ((a0_l.getD t12_18.toNat dSProfile).Txn), .int .i64 ((a0_l.getD t12_18.toNat dSProfile).Span_From), .int .i64 ((a0_l.getD t12_18.toNat dSProfile).Span_To), .int .i64 ((a0_l.getD t12_18.toNat dSProfile).Start), .int .i64 ((a0_l.getD t12_18.toNat dSProfile).Duration), .vec ((a0_l.getD t12_18.toNat dSProfile).Periods).length 2 (gL cSPeriod dSPeriod ((a0_l.getD t12_18.toNat dSProfile).Periods))]]⟩ _
          replace h : compose_candidates_p41 a0_l t12_18 o0_19 (fun t12_18 o0_19 => compose_candidates_l35 a0_l a1_conn a2_txn n_35 t12_18 o0_19) = some r := h
          unfold compose_candidates_p41 at h
          obtain ⟨g40, h⟩ := guard_out h
          refine SCode.region (show SOps _ _ _ [0, 1, 2, 3, 4] _ _ from ?_)
          refine SOps.q rfl (.plain rfl) rfl (q_move rfl rfl) ?_
          refine SOps.q rfl (.plain rfl) rfl (q_load_ptr_all rfl rfl rfl rfl rfl ty29) ?_
          refine SOps.q rfl (.plain rfl) rfl (q_bsliceL (c := cSProfile) (d0 := dSProfile) [a0_l.getD t12_18.toNat dSProfile] rfl rfl sl22 z29 rfl rfl rfl rfl rfl rfl rfl) ?_
          refine SOps.e rfl (.plain rfl) (e_appendL (c := cSProfile) (d0 := dSProfile) (l := o0_19) (l2 := [a0_l.getD t12_18.toNat dSProfile]) rfl rfl rfl rfl rfl rfl (.inl rfl) sl22 z29 rfl rfl oneSProfile g40.1 g40.2) ?_
          refine SOps.q rfl (.plain rfl) rfl (q_assign rfl rfl) ?_
          refine SOps.sub (st' := ⟨[(1, .c (.int .i64 a1_conn)), (2, .c (.str a2_txn)), (7, .c (.own 0 (o0_19 ++ ([a0_l.getD t12_18.toNat dSProfile])).length)), (10, .c (.vec a0_l.length 11 (gL cSProfile dSProfile a0_l))), (11, .c (.int .i64 (((a0_l).length : Int)))), (12, .c (.int .i64 t12_18))], [.arr 29 11 (o0_19 ++ ([a0_l.getD t12_18.toNat dSProfile])).length (gL cSProfile dSProfile (o0_19 ++ ([a0_l.getD t12_18.toNat dSProfile])))]⟩) (sub_gen [2] rfl rfl ⟨zc rfl rfl, zc rfl rfl, zc rfl rfl, zc rfl rfl, zc rfl rfl, zc rfl rfl, trivial⟩ ⟨oa rfl, trivial⟩) ?_
          refine SOps.nil ?_
          exact ⟨o0_19 ++ ([a0_l.getD t12_18.toNat dSProfile]), h, sub_gen [0] rfl rfl ⟨zc rfl rfl, zc rfl rfl, zc rfl rfl, zc rfl rfl, zc rfl rfl, zc rfl rfl, trivial⟩ ⟨oa rfl, trivial⟩⟩
        rintro o0_37 h
        show SCode _ _ _ ⟨[(1, .c (.int .i64 a1_conn)), (2, .c (.str a2_txn)), (7, .c (.own 0 o0_37.length)), (10, .c (.vec a0_l.length 11 (gL cSProfile dSProfile a0_l))), (11, .c (.int .i64 (((a0_l).length : Int)))), (12, .c (.int .i64 t12_18))], [.arr 29 11 o0_37.length (gL cSProfile dSProfile o0_37)]⟩ _
        replace h : compose_candidates_p38 t12_18 (fun t12_18 o0_19 => compose_candidates_l35 a0_l a1_conn a2_txn n_35 t12_18 o0_19) o0_37 = some r := h
        unfold compose_candidates_p38 at h
        refine SCode.region (show SOps _ _ _ [0, 1] _ _ from ?_)
        refine SOps.q rfl (.plain rfl) rfl (q_add rfl rfl rfl) ?_
        refine SOps.q rfl (.plain rfl) rfl (q_move rfl rfl) ?_
        refine SOps.sub (st' := ⟨[(1, .c (.int .i64 a1_conn)), (2, .c (.str a2_txn)), (7, .c (.own 0 o0_37.length)), (10, .c (.vec a0_l.length 11 (gL cSProfile dSProfile a0_l))), (11, .c (.int .i64 (((a0_l).length : Int)))), (12, .c (.int .i64 (IntKind.wrap .i64 (t12_18 + 1))))], [.arr 29 11 o0_37.length (gL cSProfile dSProfile o0_37)]⟩) (sub_gen [0] rfl rfl ⟨zc rfl rfl, zc rfl rfl, zc rfl rfl, zc rfl rfl, zc rfl rfl, zc rfl rfl, trivial⟩ ⟨oa rfl, trivial⟩) ?_
        refine SOps.nil ?_
        exact ⟨(n_35, (IntKind.wrap .i64 (t12_18 + 1), o0_37)), h, Nat.lt_succ_self n_35, sub_gen [0] rfl rfl ⟨zc rfl rfl, zc rfl rfl, zc rfl rfl, zc rfl rfl, zc rfl rfl, zc rfl rfl, trivial⟩ ⟨oa rfl, trivial⟩⟩
      refine SCode.cond_f rfl g36 ?_
      refine SCode.exit ?_
      exact ⟨o0_19, h, sub_gen [0] rfl rfl ⟨zc rfl rfl, trivial⟩ ⟨oa rfl, trivial⟩⟩
  rintro o0_1 h
  show SCode _ _ _ ⟨[(7, .c (.own 0 o0_1.length))], [.arr 29 11 o0_1.length (gL cSProfile dSProfile o0_1)]⟩ _
  replace h : compose_candidates_p2 o0_1 = some r := h
  unfold compose_candidates_p2 at h
  refine SCode.seq ?_
  refine SCode.region (show SOps _ _ _ [0, 1] _ _ from ?_)
  refine SOps.q rfl (.plain rfl) rfl (q_move rfl rfl) ?_
  refine SOps.q rfl (.plain rfl) rfl (q_assign rfl rfl) ?_
  refine SOps.sub (st' := ⟨[(6, .c (.own 0 o0_1.length))], [.arr 29 11 o0_1.length (gL cSProfile dSProfile o0_1)]⟩) (sub_gen [0] rfl rfl ⟨zc rfl rfl, trivial⟩ ⟨oa rfl, trivial⟩) ?_
  refine SOps.nil ?_
  refine SCode.ret ?_
  obtain rfl := Option.some.inj h
  exact ⟨⟨[(6, .c (.vec o0_1.length 11 (gL cSProfile dSProfile o0_1)))], []⟩, _, sub_gen [] rfl rfl ⟨⟨_, rfl, .inr (.inl ⟨_, _, _, _, _, _, _, rfl, rfl, rfl, Nat.le_refl _, fun _ _ _ _ => rfl, by decide⟩)⟩, trivial⟩ trivial, resA1 (v := .c (.vec o0_1.length 11 (gL cSProfile dSProfile o0_1))) rfl rfl, rfl⟩
set_option maxRecDepth 100000 in
set_option maxHeartbeats 8000000 in
theorem profile_gap_ok (F : Nat) (a0_from : Int) (a1_to : Int) (r : Int) (h : profile_gap F a0_from a1_to = some r) :
    SFun Try.prog 35 [] [.c (.int .i64 a0_from), .c (.int .i64 a1_to)] (fun x _ => x = .c (.int .u64 r)) := by
  refine SFun.of (n := 10) Try.func35 rfl rfl rfl ?_
  unfold profile_gap at h
  show SCode _ _ _ ⟨[(0, .c (.int .i64 a0_from)), (1, .c (.int .i64 a1_to))], []⟩ _
  refine SCode.seq ?_
  refine SCode.region (show SOps _ _ _ [0] _ _ from ?_)
  refine SOps.q rfl (.plain rfl) rfl (q_assign rfl rfl) ?_
  refine SOps.sub (st' := ⟨[(0, .c (.int .i64 a0_from)), (1, .c (.int .i64 a1_to))], []⟩) (sub_gen [] rfl rfl ⟨zc rfl rfl, zc rfl rfl, trivial⟩ trivial) ?_
  refine SOps.nil ?_
  refine SCode.seq ?_
  refine SCode.region (show SOps _ _ _ [0, 1, 2, 3, 4, 5] _ _ from ?_)
  refine SOps.q rfl (.plain rfl) rfl (q_move rfl rfl) ?_
  refine SOps.q rfl (.plain rfl) rfl (q_convert rfl rfl un3 un73) ?_
  refine SOps.q rfl (.plain rfl) rfl (q_move rfl rfl) ?_
  refine SOps.q rfl (.plain rfl) rfl (q_convert rfl rfl un3 un73) ?_
  refine SOps.q rfl (.plain rfl) rfl (q_sub rfl rfl rfl) ?_
  refine SOps.q rfl (.plain rfl) rfl (q_assign rfl rfl) ?_
  refine SOps.sub (st' := ⟨[(4, .c (.int .u64 (IntKind.wrap .u64 (IntKind.wrap .u64 a1_to - IntKind.wrap .u64 a0_from))))], []⟩) (sub_gen [] rfl rfl ⟨zc rfl rfl, trivial⟩ trivial) ?_
  refine SOps.nil ?_
  refine SCode.ret ?_
  obtain rfl := Option.some.inj h
  exact ⟨⟨[(4, .c (.int .u64 (IntKind.wrap .u64 (IntKind.wrap .u64 a1_to - IntKind.wrap .u64 a0_from))))], []⟩, _, sub_gen [] rfl rfl ⟨zc rfl rfl, trivial⟩ trivial, resA1 (v := .c (.int .u64 (IntKind.wrap .u64 (IntKind.wrap .u64 a1_to - IntKind.wrap .u64 a0_from)))) rfl rfl, rfl⟩
set_option maxRecDepth 100000 in
set_option maxHeartbeats 8000000 in
theorem profile_first_ok (F : Nat) (a0_p : SProfile) (a1_start : Int) (r : Int) (h : profile_first F a0_p a1_start = some r) :
    SFun Try.prog 37 [] [.a [.int .i64 a0_p.ID, .int .i64 a0_p.Level, .int .i64 a0_p.Purpose, .int .i64 a0_p.Kind, .int .i64 a0_p.Conn, .str a0_p.Txn, .int .i64 a0_p.Span_From, .int .i64 a0_p.Span_To, .int .i64 a0_p.Start, .int .i64 a0_p.Duration, .vec a0_p.Periods.length 2 (gL cSPeriod dSPeriod a0_p.Periods)], .c (.int .i64 a1_start)] (fun x _ => x = .c (.int .i64 r)) := by
  refine SFun.of (n := 11) Try.func37 rfl rfl rfl ?_
  unfold profile_first at h
  show SCode _ _ _ ⟨[(0, .a [.int .i64 a0_p.ID, .int .i64 a0_p.Level, .int .i64 a0_p.Purpose, .int .i64 a0_p.Kind, .int .i64 a0_p.Conn, .str a0_p.Txn, .int .i64 a0_p.Span_From, .int .i64 a0_p.Span_To, .int .i64 a0_p.Start, .int .i64 a0_p.Duration, .vec a0_p.Periods.length 2 (gL cSPeriod dSPeriod a0_p.Periods)]), (1, .c (.int .i64 a1_start))], []⟩ _
  refine SCode.seq ?_
  refine SCode.region (show SOps _ _ _ [0, 1] _ _ from ?_)
  refine SOps.e rfl (.plain rfl) (e_box rfl rfl rfl rfl rfl rfl) ?_
  refine SOps.q rfl (.plain rfl) rfl (q_assign rfl rfl) ?_
  refine SOps.sub (st' := ⟨[(1, .c (.int .i64 a1_start)), (2, .c (.ptr 0 0))], [.box [.int .i64 a0_p.ID, .int .i64 a0_p.Level, .int .i64 a0_p.Purpose, .int .i64 a0_p.Kind, .int .i64 a0_p.Conn, .str a0_p.Txn, .int .i64 a0_p.Span_From, .int .i64 a0_p.Span_To, .int .i64 a0_p.Start, .int .i64 a0_p.Duration, .vec a0_p.Periods.length 2 (gL cSPeriod dSPeriod a0_p.Periods)]]⟩) (sub_gen [0] rfl rfl ⟨zc rfl rfl, zc rfl rfl, trivial⟩ ⟨⟨_, rfl, ⟨ii rfl rfl, ii rfl rfl, ii rfl rfl, ii rfl rfl, ii rfl rfl, ii rfl rfl, ii rfl rfl, ii rfl rfl, ii rfl rfl, ii rfl rfl, ii rfl rfl, trivial⟩⟩, trivial⟩) ?_
  refine SOps.nil ?_
  refine SCode.seq ?_
  refine SCode.seq ?_
  refine SCode.region (show SOps _ _ _ [0, 1, 2] _ _ from ?_)
  refine SOps.q rfl (.plain rfl) rfl (q_field_ptr rfl rfl fd29_3) ?_
  refine SOps.q rfl (.plain rfl) rfl (q_load_ptr rfl rfl rfl rfl ty3) ?_
  refine SOps.q rfl (.plain rfl) rfl (q_eql rfl rfl rfl) ?_
  refine SOps.sub (st' := ⟨[(1, .c (.int .i64 a1_start)), (2, .c (.ptr 0 0)), (7, .c (.bool (decide (a0_p.Kind = 4))))], [.box [.int .i64 a0_p.ID, .int .i64 a0_p.Level, .int .i64 a0_p.Purpose, .int .i64 a0_p.Kind, .int .i64 a0_p.Conn, .str a0_p.Txn, .int .i64 a0_p.Span_From, .int .i64 a0_p.Span_To, .int .i64 a0_p.Start, .int .i64 a0_p.Duration, .vec a0_p.Periods.length 2 (gL cSPeriod dSPeriod a0_p.Periods)]]⟩) (sub_gen [0] rfl rfl ⟨zc rfl rfl, zc rfl rfl, zc rfl rfl, trivial⟩ ⟨⟨_, rfl, ⟨ii rfl rfl, ii rfl rfl, ii rfl rfl, ii rfl rfl, ii rfl rfl, ii rfl rfl, ii rfl rfl, ii rfl rfl, ii rfl rfl, ii rfl rfl, ii rfl rfl, trivial⟩⟩, trivial⟩) ?_
  refine SOps.nil ?_
  rcases cond_out h with ⟨g1, h⟩ | ⟨g1, h⟩
  · refine SCode.cond_t rfl g1 ?_
    refine SCode.seq ?_
    refine SCode.region (show SOps _ _ _ [0, 1] _ _ from ?_)
    refine SOps.q rfl (.plain rfl) rfl (q_move rfl rfl) ?_
    refine SOps.q rfl (.plain rfl) rfl (q_assign rfl rfl) ?_
    refine SOps.sub (st' := ⟨[(4, .c (.int .i64 a1_start))], []⟩) (sub_gen [] rfl rfl ⟨zc rfl rfl, trivial⟩ trivial) ?_
    refine SOps.nil ?_
    refine SCode.ret ?_
    obtain rfl := Option.some.inj h
    exact ⟨⟨[(4, .c (.int .i64 a1_start))], []⟩, _, sub_gen [] rfl rfl ⟨zc rfl rfl, trivial⟩ trivial, resA1 (v := .c (.int .i64 a1_start)) rfl rfl, rfl⟩
  refine SCode.cond_f rfl g1 ?_
  refine SCode.skip ?_
  refine SCode.seq ?_
  refine SCode.region (show SOps _ _ _ [0, 1, 2] _ _ from ?_)
  refine SOps.q rfl (.plain rfl) rfl (q_field_ptr rfl rfl fd29_7) ?_
  refine SOps.q rfl (.plain rfl) rfl (q_load_ptr rfl rfl rfl rfl ty3) ?_
  refine SOps.q rfl (.plain rfl) rfl (q_assign rfl rfl) ?_
  refine SOps.sub (st' := ⟨[(4, .c (.int .i64 a0_p.Start))], []⟩) (sub_gen [] rfl rfl ⟨zc rfl rfl, trivial⟩ trivial) ?_
  refine SOps.nil ?_
  refine SCode.ret ?_
  obtain rfl := Option.some.inj h
  exact ⟨⟨[(4, .c (.int .i64 a0_p.Start))], []⟩, _, sub_gen [] rfl rfl ⟨zc rfl rfl, trivial⟩ trivial, resA1 (v := .c (.int .i64 a0_p.Start)) rfl rfl, rfl⟩
set_option maxRecDepth 100000 in
set_option maxHeartbeats 8000000 in
theorem profile_origin_ok (F : Nat) (a0_p : SProfile) (a1_start : Int) (a2_t : Int) (r : Int × Bool) (h : profile_origin F a0_p a1_start a2_t = some r) :
    SFun Try.prog 34 [] [.a [.int .i64 a0_p.ID, .int .i64 a0_p.Level, .int .i64 a0_p.Purpose, .int .i64 a0_p.Kind, .int .i64 a0_p.Conn, .str a0_p.Txn, .int .i64 a0_p.Span_From, .int .i64 a0_p.Span_To, .int .i64 a0_p.Start, .int .i64 a0_p.Duration, .vec a0_p.Periods.length 2 (gL cSPeriod dSPeriod a0_p.Periods)], .c (.int .i64 a1_start), .c (.int .i64 a2_t)] (fun x _ => x = .t [.c (.int .i64 r.1), .c (.bool r.2)]) := by
  refine SFun.of (n := 31) Try.func34 rfl rfl rfl ?_
  unfold profile_origin at h
  show SCode _ _ _ ⟨[(0, .a [.int .i64 a0_p.ID, .int .i64 a0_p.Level, .int .i64 a0_p.Purpose, .int .i64 a0_p.Kind, .int .i64 a0_p.Conn, .str a0_p.Txn, .int .i64 a0_p.Span_From, .int .i64 a0_p.Span_To, .int .i64 a0_p.Start, .int .i64 a0_p.Duration, .vec a0_p.Periods.length 2 (gL cSPeriod dSPeriod a0_p.Periods)]), (1, .c (.int .i64 a1_start)), (2, .c (.int .i64 a2_t))], []⟩ _
  refine SCode.seq ?_
  refine SCode.region (show SOps _ _ _ [0, 1, 2] _ _ from ?_)
  refine SOps.e rfl (.plain rfl) (e_box rfl rfl rfl rfl rfl rfl) ?_
  refine SOps.q rfl (.plain rfl) rfl (q_assign rfl rfl) ?_
  refine SOps.q rfl (.plain rfl) rfl (q_assign rfl rfl) ?_
  refine SOps.sub (st' := ⟨[(1, .c (.int .i64 a1_start)), (2, .c (.int .i64 a2_t)), (3, .c (.ptr 0 0))], [.box [.int .i64 a0_p.ID, .int .i64 a0_p.Level, .int .i64 a0_p.Purpose, .int .i64 a0_p.Kind, .int .i64 a0_p.Conn, .str a0_p.Txn, .int .i64 a0_p.Span_From, .int .i64 a0_p.Span_To, .int .i64 a0_p.Start, .int .i64 a0_p.Duration, .vec a0_p.Periods.length 2 (gL cSPeriod dSPeriod a0_p.Periods)]]⟩) (sub_gen [0] rfl rfl ⟨zc rfl rfl, zc rfl rfl, zc rfl rfl, trivial⟩ ⟨⟨_, rfl, ⟨ii rfl rfl, ii rfl rfl, ii rfl rfl, ii rfl rfl, ii rfl rfl, ii rfl rfl, ii rfl rfl, ii rfl rfl, ii rfl rfl, ii rfl rfl, ii rfl rfl, trivial⟩⟩, trivial⟩) ?_
  refine SOps.nil ?_
  refine SCode.seq ?_
  obtain ⟨c_1, g2, h⟩ := bind_out h
  try dsimp only at h
  refine SCode.region (show SOps _ _ _ [0, 1, 2, 3] _ _ from ?_)
  refine SOps.q rfl (.plain rfl) rfl (q_load_ptr_all rfl rfl rfl rfl rfl ty29) ?_
  refine SOps.q rfl (.plain rfl) rfl (q_move rfl rfl) ?_
  refine SOps.q rfl (.plain rfl) rfl (q_call (profile_first_ok F a0_p a1_start c_1 g2) [] rfl fn37 ⟨⟨rfl, rfl⟩, ⟨_, rfl, .inl ⟨rfl, rfl⟩⟩, trivial⟩ (.inl rfl)) ?_
  refine SOps.q rfl (.plain rfl) rfl (q_assign rfl rfl) ?_
  refine SOps.sub (st' := ⟨[(2, .c (.int .i64 a2_t)), (3, .c (.ptr 0 0)), (8, .c (.int .i64 c_1))], [.box [.int .i64 a0_p.ID, .int .i64 a0_p.Level, .int .i64 a0_p.Purpose, .int .i64 a0_p.Kind, .int .i64 a0_p.Conn, .str a0_p.Txn, .int .i64 a0_p.Span_From, .int .i64 a0_p.Span_To, .int .i64 a0_p.Start, .int .i64 a0_p.Duration, .vec a0_p.Periods.length 2 (gL cSPeriod dSPeriod a0_p.Periods)]]⟩) (sub_gen [0] rfl rfl ⟨zc rfl rfl, zc rfl rfl, zc rfl rfl, trivial⟩ ⟨⟨_, rfl, ⟨ii rfl rfl, ii rfl rfl, ii rfl rfl, ii rfl rfl, ii rfl rfl, ii rfl rfl, ii rfl rfl, ii rfl rfl, ii rfl rfl, ii rfl rfl, ii rfl rfl, trivial⟩⟩, trivial⟩) ?_
  refine SOps.nil ?_
  refine SCode.seq ?_
  refine SCode.seq ?_
  refine SCode.region (show SOps _ _ _ [0, 1, 2] _ _ from ?_)
  refine SOps.q rfl (.plain rfl) rfl (q_move rfl rfl) ?_
  refine SOps.q rfl (.plain rfl) rfl (q_move rfl rfl) ?_
  refine SOps.q rfl (.plain rfl) rfl (q_gtr rfl rfl rfl) ?_
  refine SOps.sub (st' := ⟨[(2, .c (.int .i64 a2_t)), (3, .c (.ptr 0 0)), (8, .c (.int .i64 c_1)), (15, .c (.bool (decide (a2_t < c_1))))], [.box [.int .i64 a0_p.ID, .int .i64 a0_p.Level, .int .i64 a0_p.Purpose, .int .i64 a0_p.Kind, .int .i64 a0_p.Conn, .str a0_p.Txn, .int .i64 a0_p.Span_From, .int .i64 a0_p.Span_To, .int .i64 a0_p.Start, .int .i64 a0_p.Duration, .vec a0_p.Periods.length 2 (gL cSPeriod dSPeriod a0_p.Periods)]]⟩) (sub_gen [0] rfl rfl ⟨zc rfl rfl, zc rfl rfl, zc rfl rfl, zc rfl rfl, trivial⟩ ⟨⟨_, rfl, ⟨ii rfl rfl, ii rfl rfl, ii rfl rfl, ii rfl rfl, ii rfl rfl, ii rfl rfl, ii rfl rfl, ii rfl rfl, ii rfl rfl, ii rfl rfl, ii rfl rfl, trivial⟩⟩, trivial⟩) ?_
  refine SOps.nil ?_
  rcases cond_out h with ⟨g3, h⟩ | ⟨g3, h⟩
  · refine SCode.cond_t rfl g3 ?_
    refine SCode.seq ?_
    refine SCode.region (show SOps _ _ _ [0, 1] _ _ from ?_)
    refine SOps.q rfl (.plain rfl) rfl (q_assign rfl rfl) ?_
    refine SOps.q rfl (.plain rfl) rfl (q_assign rfl rfl) ?_
    refine SOps.sub (st' := ⟨[(6, .c (.int .i64 0)), (7, .c (.bool false))], []⟩) (sub_gen [] rfl rfl ⟨zc rfl rfl, zc rfl rfl, trivial⟩ trivial) ?_
    refine SOps.nil ?_
    refine SCode.ret ?_
    obtain rfl := Option.some.inj h
    exact ⟨⟨[(6, .c (.int .i64 0)), (7, .c (.bool false))], []⟩, _, sub_gen [] rfl rfl ⟨zc rfl rfl, zc rfl rfl, trivial⟩ trivial, resA2 (v1 := .c (.int .i64 0)) (v2 := .c (.bool false)) rfl rfl rfl, rfl⟩
  refine SCode.cond_f rfl g3 ?_
  refine SCode.skip ?_
  refine SCode.join (σ := Int) (S := fun s => ⟨[(8, .c (.int .i64 s))], []⟩) (g := fun s => profile_origin_p5 s = some r) ?_ ?_
  rotate_left
  · refine SCode.seq ?_
    obtain ⟨c_6, g7, h⟩ := bind_out h
    try dsimp only at h
    refine SCode.region (show SOps _ _ _ [0, 1, 2, 3] _ _ from ?_)
    refine SOps.q rfl (.plain rfl) rfl (q_field_ptr rfl rfl fd29_3) ?_
    refine SOps.q rfl (.plain rfl) rfl (q_load_ptr rfl rfl rfl rfl ty3) ?_
    refine SOps.q rfl (.plain rfl) rfl (q_call (profile_cycle_ok F a0_p.Kind c_6 g7) [] rfl fn23 ⟨⟨_, rfl, .inl ⟨rfl, rfl⟩⟩, trivial⟩ (.inl rfl)) ?_
    refine SOps.q rfl (.plain rfl) rfl (q_assign rfl rfl) ?_
    refine SOps.sub (st' := ⟨[(2, .c (.int .i64 a2_t)), (8, .c (.int .i64 c_1)), (9, .c (.int .i64 c_6))], []⟩) (sub_gen [] rfl rfl ⟨zc rfl rfl, zc rfl rfl, zc rfl rfl, trivial⟩ trivial) ?_
    refine SOps.nil ?_
    refine SCode.seq ?_
    refine SCode.region (show SOps _ _ _ [0, 1] _ _ from ?_)
    refine SOps.q rfl (.plain rfl) rfl (q_move rfl rfl) ?_
    refine SOps.q rfl (.plain rfl) rfl (q_gtr rfl rfl rfl) ?_
    refine SOps.sub (st' := ⟨[(2, .c (.int .i64 a2_t)), (8, .c (.int .i64 c_1)), (9, .c (.int .i64 c_6)), (20, .c (.bool (decide (0 < c_6))))], []⟩) (sub_gen [] rfl rfl ⟨zc rfl rfl, zc rfl rfl, zc rfl rfl, zc rfl rfl, trivial⟩ trivial) ?_
    refine SOps.nil ?_
    rcases cond_out h with ⟨g8, h⟩ | ⟨g8, h⟩
    · refine SCode.cond_t rfl g8 ?_
      obtain ⟨c_9, g10, h⟩ := bind_out h
      try dsimp only at h
      obtain ⟨g11, h⟩ := guard_out h
      refine SCode.region (show SOps _ _ _ [0, 1, 2, 3, 4, 5, 6, 7, 8, 9] _ _ from ?_)
      refine SOps.q rfl (.plain rfl) rfl (q_move rfl rfl) ?_
      refine SOps.q rfl (.plain rfl) rfl (q_move rfl rfl) ?_
      refine SOps.q rfl (.plain rfl) rfl (q_move rfl rfl) ?_
      refine SOps.q rfl (.plain rfl) rfl (q_call (profile_gap_ok F c_1 a2_t c_9 g10) [] rfl fn35 ⟨⟨_, rfl, .inl ⟨rfl, rfl⟩⟩, ⟨_, rfl, .inl ⟨rfl, rfl⟩⟩, trivial⟩ (.inl rfl)) ?_
      refine SOps.q rfl (.plain rfl) rfl (q_move rfl rfl) ?_
      refine SOps.q rfl (.plain rfl) rfl (q_convert rfl rfl un3 un73) ?_
      refine SOps.q rfl (.plain rfl) rfl (q_rem rfl rfl rfl g11) ?_
      refine SOps.q rfl (.plain rfl) rfl (q_convert rfl rfl un73 un3) ?_
      refine SOps.q rfl (.plain rfl) rfl (q_sub rfl rfl rfl) ?_
      refine SOps.q rfl (.plain rfl) rfl (q_assign rfl rfl) ?_
      refine SOps.sub (st' := ⟨[(8, .c (.int .i64 (IntKind.wrap .i64 (a2_t - IntKind.wrap .i64 (Int.tmod c_9 (IntKind.wrap .u64 c_6))))))], []⟩) (sub_gen [] rfl rfl ⟨zc rfl rfl, trivial⟩ trivial) ?_
      refine SOps.nil ?_
      exact ⟨IntKind.wrap .i64 (a2_t - IntKind.wrap .i64 (Int.tmod c_9 (IntKind.wrap .u64 c_6))), h, sub_gen [] rfl rfl ⟨zc rfl rfl, trivial⟩ trivial⟩
    refine SCode.cond_f rfl g8 ?_
    refine SCode.skip ?_
    exact ⟨c_1, h, sub_gen [] rfl rfl ⟨zc rfl rfl, trivial⟩ trivial⟩
  rintro o_4 h
  show SCode _ _ _ ⟨[(8, .c (.int .i64 o_4))], []⟩ _
  replace h : profile_origin_p5 o_4 = some r := h
  unfold profile_origin_p5 at h
  refine SCode.seq ?_
  refine SCode.region (show SOps _ _ _ [0, 1, 2] _ _ from ?_)
  refine SOps.q rfl (.plain rfl) rfl (q_move rfl rfl) ?_
  refine SOps.q rfl (.plain rfl) rfl (q_assign rfl rfl) ?_
  refine SOps.q rfl (.plain rfl) rfl (q_assign rfl rfl) ?_
  refine SOps.sub (st' := ⟨[(6, .c (.int .i64 o_4)), (7, .c (.bool true))], []⟩) (sub_gen [] rfl rfl ⟨zc rfl rfl, zc rfl rfl, trivial⟩ trivial) ?_
  refine SOps.nil ?_
  refine SCode.ret ?_
  obtain rfl := Option.some.inj h
  exact ⟨⟨[(6, .c (.int .i64 o_4)), (7, .c (.bool true))], []⟩, _, sub_gen [] rfl rfl ⟨zc rfl rfl, zc rfl rfl, trivial⟩ trivial, resA2 (v1 := .c (.int .i64 o_4)) (v2 := .c (.bool true)) rfl rfl rfl, rfl⟩
end Go.Proofs.Ytfbkimhoncfnmaa.W
