/- Written by a program of ours (wip/eng/gen.py): the functions compute their models. -/
import Derived.Test.YtldekibkmombdaaFacts
import Derived.Test.YtldekibkmombdaaV6x2
namespace Go.Proofs.Ytldekibkmombdaa.W
open Go Go.Proofs Go.Proofs.Ytldekibkmombdaa.E Go.Proofs.Ytldekibkmombdaa.M
set_option linter.unusedVariables false
set_option maxRecDepth 100000 in
set_option maxHeartbeats 8000000 in
theorem profile_Put_ok (F : Nat) (a0_l : List SProfile) (a1_p : SProfile) (r : (List SProfile) × Int) (h : profile_Put F a0_l a1_p = some r) :
    SFun Try.prog 15 [] [.c (.vec a0_l.length 11 (gL cSProfile dSProfile a0_l)), .a [.int .i64 a1_p.ID, .int .i64 a1_p.Level, .int .i64 a1_p.Purpose, .int .i64 a1_p.Kind, .int .i64 a1_p.Conn, .str a1_p.Txn, .int .i64 a1_p.Span_From, .int .i64 a1_p.Span_To, .int .i64 a1_p.Start, .int .i64 a1_p.Duration, .vec a1_p.Periods.length 2 (gL cSPeriod dSPeriod a1_p.Periods)]] (fun x _ => x = .t [.c (.vec r.1.length 11 (gL cSProfile dSProfile r.1)), .c (.int .i64 r.2)]) := by
  refine SFun.of (n := 68) Try.func15 rfl rfl rfl ?_
  unfold profile_Put at h
  show SCode _ _ _ ⟨[(0, .c (.vec a0_l.length 11 (gL cSProfile dSProfile a0_l))), (1, .a [.int .i64 a1_p.ID, .int .i64 a1_p.Level, .int .i64 a1_p.Purpose, .int .i64 a1_p.Kind, .int .i64 a1_p.Conn, .str a1_p.Txn, .int .i64 a1_p.Span_From, .int .i64 a1_p.Span_To, .int .i64 a1_p.Start, .int .i64 a1_p.Duration, .vec a1_p.Periods.length 2 (gL cSPeriod dSPeriod a1_p.Periods)])], []⟩ _
  refine SCode.seq ?_
  refine SCode.region (show SOps _ _ _ [0, 1, 2] _ _ from ?_)
  refine SOps.e rfl (.plain rfl) (e_box rfl rfl rfl rfl rfl rfl) ?_
  refine SOps.q rfl (.plain rfl) rfl (q_assign rfl rfl) ?_
  refine SOps.q rfl (.plain rfl) rfl (q_assign rfl rfl) ?_
  refine SOps.sub (st' := ⟨[(0, .c (.vec a0_l.length 11 (gL cSProfile dSProfile a0_l))), (3, .c (.ptr 0 0))], [.box [.int .i64 a1_p.ID, .int .i64 a1_p.Level, .int .i64 a1_p.Purpose, .int .i64 a1_p.Kind, .int .i64 a1_p.Conn, .str a1_p.Txn, .int .i64 a1_p.Span_From, .int .i64 a1_p.Span_To, .int .i64 a1_p.Start, .int .i64 a1_p.Duration, .vec a1_p.Periods.length 2 (gL cSPeriod dSPeriod a1_p.Periods)]]⟩) (sub_gen [0] rfl rfl ⟨zc rfl rfl, zc rfl rfl, trivial⟩ ⟨⟨_, rfl, ⟨ii rfl rfl, ii rfl rfl, ii rfl rfl, ii rfl rfl, ii rfl rfl, ii rfl rfl, ii rfl rfl, ii rfl rfl, ii rfl rfl, ii rfl rfl, ii rfl rfl, trivial⟩⟩, trivial⟩) ?_
  refine SOps.nil ?_
  refine SCode.seq ?_
  refine SCode.seq ?_
  obtain ⟨c_1, g2, h⟩ := bind_out h
  try dsimp only at h
  refine SCode.region (show SOps _ _ _ [0, 1, 2] _ _ from ?_)
  refine SOps.q rfl (.plain rfl) rfl (q_load_ptr_all rfl rfl rfl rfl rfl ty26) ?_
  refine SOps.q rfl (.plain rfl) rfl (q_call (profile_Valid_ok F a1_p c_1 g2) [] rfl fn12 ⟨⟨rfl, rfl⟩, trivial⟩ (.inl rfl)) ?_
  refine SOps.q rfl (.plain rfl) rfl (q_assign rfl rfl) ?_
  refine SOps.sub (st' := ⟨[(0, .c (.vec a0_l.length 11 (gL cSProfile dSProfile a0_l))), (3, .c (.ptr 0 0)), (6, .c (.int .i64 c_1))], [.box [.int .i64 a1_p.ID, .int .i64 a1_p.Level, .int .i64 a1_p.Purpose, .int .i64 a1_p.Kind, .int .i64 a1_p.Conn, .str a1_p.Txn, .int .i64 a1_p.Span_From, .int .i64 a1_p.Span_To, .int .i64 a1_p.Start, .int .i64 a1_p.Duration, .vec a1_p.Periods.length 2 (gL cSPeriod dSPeriod a1_p.Periods)]]⟩) (sub_gen [0] rfl rfl ⟨zc rfl rfl, zc rfl rfl, zc rfl rfl, trivial⟩ ⟨⟨_, rfl, ⟨ii rfl rfl, ii rfl rfl, ii rfl rfl, ii rfl rfl, ii rfl rfl, ii rfl rfl, ii rfl rfl, ii rfl rfl, ii rfl rfl, ii rfl rfl, ii rfl rfl, trivial⟩⟩, trivial⟩) ?_
  refine SOps.nil ?_
  refine SCode.seq ?_
  refine SCode.region (show SOps _ _ _ [0, 1] _ _ from ?_)
  refine SOps.q rfl (.plain rfl) rfl (q_move rfl rfl) ?_
  refine SOps.q rfl (.plain rfl) rfl (q_neq rfl rfl rfl) ?_
  refine SOps.sub (st' := ⟨[(0, .c (.vec a0_l.length 11 (gL cSProfile dSProfile a0_l))), (3, .c (.ptr 0 0)), (6, .c (.int .i64 c_1)), (13, .c (.bool ((!decide (c_1 = 0)))))], [.box [.int .i64 a1_p.ID, .int .i64 a1_p.Level, .int .i64 a1_p.Purpose, .int .i64 a1_p.Kind, .int .i64 a1_p.Conn, .str a1_p.Txn, .int .i64 a1_p.Span_From, .int .i64 a1_p.Span_To, .int .i64 a1_p.Start, .int .i64 a1_p.Duration, .vec a1_p.Periods.length 2 (gL cSPeriod dSPeriod a1_p.Periods)]]⟩) (sub_gen [0] rfl rfl ⟨zc rfl rfl, zc rfl rfl, zc rfl rfl, zc rfl rfl, trivial⟩ ⟨⟨_, rfl, ⟨ii rfl rfl, ii rfl rfl, ii rfl rfl, ii rfl rfl, ii rfl rfl, ii rfl rfl, ii rfl rfl, ii rfl rfl, ii rfl rfl, ii rfl rfl, ii rfl rfl, trivial⟩⟩, trivial⟩) ?_
  refine SOps.nil ?_
  rcases cond_out h with ⟨g3, h⟩ | ⟨g3, h⟩
  · refine SCode.cond_t rfl g3 ?_
    refine SCode.seq ?_
    refine SCode.region (show SOps _ _ _ [0, 1, 2, 3] _ _ from ?_)
    refine SOps.q rfl (.plain rfl) rfl (q_move rfl rfl) ?_
    refine SOps.q rfl (.plain rfl) rfl (q_move rfl rfl) ?_
    refine SOps.q rfl (.plain rfl) rfl (q_assign rfl rfl) ?_
    refine SOps.q rfl (.plain rfl) rfl (q_assign rfl rfl) ?_
    refine SOps.sub (st' := ⟨[(4, .c (.vec a0_l.length 11 (gL cSProfile dSProfile a0_l))), (5, .c (.int .i64 c_1))], []⟩) (sub_gen [] rfl rfl ⟨zc rfl rfl, zc rfl rfl, trivial⟩ trivial) ?_
    refine SOps.nil ?_
    refine SCode.ret ?_
    obtain rfl := Option.some.inj h
    exact ⟨⟨[(4, .c (.vec a0_l.length 11 (gL cSProfile dSProfile a0_l))), (5, .c (.int .i64 c_1))], []⟩, _, sub_gen [] rfl rfl ⟨zc rfl rfl, zc rfl rfl, trivial⟩ trivial, resA2 (v1 := .c (.vec a0_l.length 11 (gL cSProfile dSProfile a0_l))) (v2 := .c (.int .i64 c_1)) rfl rfl rfl, rfl⟩
  refine SCode.cond_f rfl g3 ?_
  refine SCode.skip ?_
  refine SCode.seq ?_
  refine SCode.region (show SOps _ _ _ [0] _ _ from ?_)
  refine SOps.q rfl (.plain rfl) rfl (q_assign rfl rfl) ?_
  refine SOps.nilArrL (T := 26) (k := 11) cSProfile dSProfile (s := 7) rfl rfl ?_
  refine SOps.sub (st' := ⟨[(0, .c (.vec a0_l.length 11 (gL cSProfile dSProfile a0_l))), (3, .c (.ptr 0 0)), (7, .c (.own 1 (([] : List SProfile)).length))], [.box [.int .i64 a1_p.ID, .int .i64 a1_p.Level, .int .i64 a1_p.Purpose, .int .i64 a1_p.Kind, .int .i64 a1_p.Conn, .str a1_p.Txn, .int .i64 a1_p.Span_From, .int .i64 a1_p.Span_To, .int .i64 a1_p.Start, .int .i64 a1_p.Duration, .vec a1_p.Periods.length 2 (gL cSPeriod dSPeriod a1_p.Periods)], .arr 26 11 (([] : List SProfile)).length (gL cSProfile dSProfile (([] : List SProfile)))]⟩) (sub_gen [0, 1] rfl rfl ⟨zc rfl rfl, zc rfl rfl, zc rfl rfl, trivial⟩ ⟨⟨_, rfl, ⟨ii rfl rfl, ii rfl rfl, ii rfl rfl, ii rfl rfl, ii rfl rfl, ii rfl rfl, ii rfl rfl, ii rfl rfl, ii rfl rfl, ii rfl rfl, ii rfl rfl, trivial⟩⟩, oa rfl, trivial⟩) ?_
  refine SOps.nil ?_
  refine SCode.join (σ := (List SProfile)) (S := fun s => ⟨[(0, .c (.vec a0_l.length 11 (gL cSProfile dSProfile a0_l))), (3, .c (.ptr 0 0)), (7, .c (.own 1 s.length))], [.box [.int .i64 a1_p.ID, .int .i64 a1_p.Level, .int .i64 a1_p.Purpose, .int .i64 a1_p.Kind, .int .i64 a1_p.Conn, .str a1_p.Txn, .int .i64 a1_p.Span_From, .int .i64 a1_p.Span_To, .int .i64 a1_p.Start, .int .i64 a1_p.Duration, .vec a1_p.Periods.length 2 (gL cSPeriod dSPeriod a1_p.Periods)], .arr 26 11 s.length (gL cSProfile dSProfile s)]⟩) (g := fun s => profile_Put_p9 F a0_l a1_p s = some r) ?_ ?_
  rotate_left
  · refine SCode.seq ?_
    refine SCode.region (show SOps _ _ _ [0, 1, 2] _ _ from ?_)
    refine SOps.q rfl (.plain rfl) rfl (q_move rfl rfl) ?_
    refine SOps.q rfl (.plain rfl) rfl (q_len_vec rfl rfl sl31) ?_
    refine SOps.q rfl (.plain rfl) rfl (q_move rfl rfl) ?_
    refine SOps.sub (st' := ⟨[(0, .c (.vec a0_l.length 11 (gL cSProfile dSProfile a0_l))), (3, .c (.ptr 0 0)), (7, .c (.own 1 (([] : List SProfile)).length)), (16, .c (.vec a0_l.length 11 (gL cSProfile dSProfile a0_l))), (17, .c (.int .i64 (((a0_l).length : Int)))), (18, .c (.int .i64 0))], [.box [.int .i64 a1_p.ID, .int .i64 a1_p.Level, .int .i64 a1_p.Purpose, .int .i64 a1_p.Kind, .int .i64 a1_p.Conn, .str a1_p.Txn, .int .i64 a1_p.Span_From, .int .i64 a1_p.Span_To, .int .i64 a1_p.Start, .int .i64 a1_p.Duration, .vec a1_p.Periods.length 2 (gL cSPeriod dSPeriod a1_p.Periods)], .arr 26 11 (([] : List SProfile)).length (gL cSProfile dSProfile (([] : List SProfile)))]⟩) (sub_gen [0, 1] rfl rfl ⟨zc rfl rfl, zc rfl rfl, zc rfl rfl, zc rfl rfl, zc rfl rfl, zc rfl rfl, trivial⟩ ⟨⟨_, rfl, ⟨ii rfl rfl, ii rfl rfl, ii rfl rfl, ii rfl rfl, ii rfl rfl, ii rfl rfl, ii rfl rfl, ii rfl rfl, ii rfl rfl, ii rfl rfl, ii rfl rfl, trivial⟩⟩, oa rfl, trivial⟩) ?_
    refine SOps.nil ?_
    refine SCode.block ?_
    refine SCode.sub (st' := ⟨[(0, .c (.vec a0_l.length 11 (gL cSProfile dSProfile a0_l))), (3, .c (.ptr 0 0)), (7, .c (.own 1 ([] : List SProfile).length)), (16, .c (.vec a0_l.length 11 (gL cSProfile dSProfile a0_l))), (17, .c (.int .i64 (((a0_l).length : Int)))), (18, .c (.int .i64 0))], [.box [.int .i64 a1_p.ID, .int .i64 a1_p.Level, .int .i64 a1_p.Purpose, .int .i64 a1_p.Kind, .int .i64 a1_p.Conn, .str a1_p.Txn, .int .i64 a1_p.Span_From, .int .i64 a1_p.Span_To, .int .i64 a1_p.Start, .int .i64 a1_p.Duration, .vec a1_p.Periods.length 2 (gL cSPeriod dSPeriod a1_p.Periods)], .arr 26 11 ([] : List SProfile).length (gL cSProfile dSProfile ([] : List SProfile))]⟩) (sub_gen [0, 1] rfl rfl ⟨zc rfl rfl, zc rfl rfl, zc rfl rfl, zc rfl rfl, zc rfl rfl, zc rfl rfl, trivial⟩ ⟨⟨_, rfl, ⟨ii rfl rfl, ii rfl rfl, ii rfl rfl, ii rfl rfl, ii rfl rfl, ii rfl rfl, ii rfl rfl, ii rfl rfl, ii rfl rfl, ii rfl rfl, ii rfl rfl, trivial⟩⟩, oa rfl, trivial⟩) ?_
    refine (SCode.loop (σ := Nat × (Int × (List SProfile))) (S := fun s => ⟨[(0, .c (.vec a0_l.length 11 (gL cSProfile dSProfile a0_l))), (3, .c (.ptr 0 0)), (7, .c (.own 1 s.2.2.length)), (16, .c (.vec a0_l.length 11 (gL cSProfile dSProfile a0_l))), (17, .c (.int .i64 (((a0_l).length : Int)))), (18, .c (.int .i64 s.2.1))], [.box [.int .i64 a1_p.ID, .int .i64 a1_p.Level, .int .i64 a1_p.Purpose, .int .i64 a1_p.Kind, .int .i64 a1_p.Conn, .str a1_p.Txn, .int .i64 a1_p.Span_From, .int .i64 a1_p.Span_To, .int .i64 a1_p.Start, .int .i64 a1_p.Duration, .vec a1_p.Periods.length 2 (gL cSPeriod dSPeriod a1_p.Periods)], .arr 26 11 s.2.2.length (gL cSProfile dSProfile s.2.2)]⟩) (g := fun s => profile_Put_l38 F a0_l a1_p s.1 s.2.1 s.2.2 = some r) (μ := fun s => s.1) (F, (0, ([] : List SProfile))) h ?_)
    rintro ⟨n_38, ⟨t18_23, o1_24⟩⟩ h
    replace h : profile_Put_l38 F a0_l a1_p n_38 t18_23 o1_24 = some r := h
    show SCode _ _ _ ⟨[(0, .c (.vec a0_l.length 11 (gL cSProfile dSProfile a0_l))), (3, .c (.ptr 0 0)), (7, .c (.own 1 o1_24.length)), (16, .c (.vec a0_l.length 11 (gL cSProfile dSProfile a0_l))), (17, .c (.int .i64 (((a0_l).length : Int)))), (18, .c (.int .i64 t18_23))], [.box [.int .i64 a1_p.ID, .int .i64 a1_p.Level, .int .i64 a1_p.Purpose, .int .i64 a1_p.Kind, .int .i64 a1_p.Conn, .str a1_p.Txn, .int .i64 a1_p.Span_From, .int .i64 a1_p.Span_To, .int .i64 a1_p.Start, .int .i64 a1_p.Duration, .vec a1_p.Periods.length 2 (gL cSPeriod dSPeriod a1_p.Periods)], .arr 26 11 o1_24.length (gL cSProfile dSProfile o1_24)]⟩ _
    cases n_38 with
    | zero => cases h
    | succ n_38 =>
      replace h : profile_Put_b38 F a0_l a1_p (fun t18_23 o1_24 => profile_Put_l38 F a0_l a1_p n_38 t18_23 o1_24) t18_23 o1_24 = some r := h
      unfold profile_Put_b38 at h
      refine SCode.seq ?_
      refine SCode.region (show SOps _ _ _ [0] _ _ from ?_)
      refine SOps.q rfl (.plain rfl) rfl (q_lss rfl rfl rfl) ?_
      refine SOps.sub (st' := ⟨[(0, .c (.vec a0_l.length 11 (gL cSProfile dSProfile a0_l))), (3, .c (.ptr 0 0)), (7, .c (.own 1 o1_24.length)), (16, .c (.vec a0_l.length 11 (gL cSProfile dSProfile a0_l))), (17, .c (.int .i64 (((a0_l).length : Int)))), (18, .c (.int .i64 t18_23)), (19, .c (.bool (decide (t18_23 < ((a0_l).length : Int)))))], [.box [.int .i64 a1_p.ID, .int .i64 a1_p.Level, .int .i64 a1_p.Purpose, .int .i64 a1_p.Kind, .int .i64 a1_p.Conn, .str a1_p.Txn, .int .i64 a1_p.Span_From, .int .i64 a1_p.Span_To, .int .i64 a1_p.Start, .int .i64 a1_p.Duration, .vec a1_p.Periods.length 2 (gL cSPeriod dSPeriod a1_p.Periods)], .arr 26 11 o1_24.length (gL cSProfile dSProfile o1_24)]⟩) (sub_gen [0, 1] rfl rfl ⟨zc rfl rfl, zc rfl rfl, zc rfl rfl, zc rfl rfl, zc rfl rfl, zc rfl rfl, zc rfl rfl, trivial⟩ ⟨⟨_, rfl, ⟨ii rfl rfl, ii rfl rfl, ii rfl rfl, ii rfl rfl, ii rfl rfl, ii rfl rfl, ii rfl rfl, ii rfl rfl, ii rfl rfl, ii rfl rfl, ii rfl rfl, trivial⟩⟩, oa rfl, trivial⟩) ?_
      refine SOps.nil ?_
      refine SCode.seq ?_
      rcases cond_out h with ⟨g39, h⟩ | ⟨g39, h⟩
      · refine SCode.cond_t rfl g39 ?_
        refine SCode.skip ?_
        refine SCode.join (σ := (List SProfile)) (S := fun s => ⟨[(0, .c (.vec a0_l.length 11 (gL cSProfile dSProfile a0_l))), (3, .c (.ptr 0 0)), (7, .c (.own 1 s.length)), (16, .c (.vec a0_l.length 11 (gL cSProfile dSProfile a0_l))), (17, .c (.int .i64 (((a0_l).length : Int)))), (18, .c (.int .i64 t18_23))], [.box [.int .i64 a1_p.ID, .int .i64 a1_p.Level, .int .i64 a1_p.Purpose, .int .i64 a1_p.Kind, .int .i64 a1_p.Conn, .str a1_p.Txn, .int .i64 a1_p.Span_From, .int .i64 a1_p.Span_To, .int .i64 a1_p.Start, .int .i64 a1_p.Duration, .vec a1_p.Periods.length 2 (gL cSPeriod dSPeriod a1_p.Periods)], .arr 26 11 s.length (gL cSProfile dSProfile s)]⟩) (g := fun s => profile_Put_p41 t18_23 (fun t18_23 o1_24 => profile_Put_l38 F a0_l a1_p n_38 t18_23 o1_24) s = some r) ?_ ?_
        rotate_left
        · refine SCode.block ?_
          refine SCode.seq ?_
          obtain ⟨g42, h⟩ := guard_out h
          refine SCode.region (show SOps _ _ _ [0, 1, 2, 3] _ _ from ?_)
          refine SOps.q rfl (.plain rfl) rfl (q_index_vec rfl rfl rfl sl31 rfl g42.1 g42.2) ?_
          refine SOps.q rfl (.plain rfl) rfl (q_load_eptr_all rfl rfl rfl ty26) ?_
          refine SOps.e rfl (.plain rfl) (e_alloc rfl rfl rfl z26) ?_
          refine SOps.e rfl (.plain rfl) (e_store_box rfl rfl rfl rfl rfl ty26 rfl rfl rfl rfl) ?_
          refine SOps.sub (st' := ⟨[(0, .c (.vec a0_l.length 11 (gL cSProfile dSProfile a0_l))), (3, .c (.ptr 0 0)), (7, .c (.own 1 o1_24.length)), (9, .c (.ptr 2 0)), (16, .c (.vec a0_l.length 11 (gL cSProfile dSProfile a0_l))), (17, .c (.int .i64 (((a0_l).length : Int)))), (18, .c (.int .i64 t18_23))], [.box [.int .i64 a1_p.ID, .int .i64 a1_p.Level, .int .i64 a1_p.Purpose, .int .i64 a1_p.Kind, .int .i64 a1_p.Conn, .str a1_p.Txn, .int .i64 a1_p.Span_From, .int .i64 a1_p.Span_To, .int .i64 a1_p.Start, .int .i64 a1_p.Duration, .vec a1_p.Periods.length 2 (gL cSPeriod dSPeriod a1_p.Periods)], .arr 26 11 o1_24.length (gL cSProfile dSProfile o1_24), .box [.int .i64 ((a0_l.getD t18_23.toNat dSProfile).ID), .int .i64 ((a0_l.getD t18_23.toNat dSProfile).Level), .int .i64 ((a0_l.getD t18_23.toNat dSProfile).Purpose), .int .i64 ((a0_l.getD t18_23.toNat dSProfile).Kind), .int .i64 ((a0_l.getD t18_23.toNat dSProfile).Conn), .str ((a0_l.getD t18_23.toNat dSProfile).Txn), .int .i64 ((a0_l.getD t18_23.toNat dSProfile).Span_From), .int .i64 ((a0_l.getD t18_23.toNat dSProfile).Span_To), .int .i64 ((a0_l.getD t18_23.toNat dSProfile).Start), .int .i64 ((a0_l.getD t18_23.toNat dSProfile).Duration), .vec ((a0_l.getD t18_23.toNat dSProfile).Periods).length 2 (gL cSPeriod dSPeriod ((a0_l.getD t18_23.toNat dSProfile).Periods))]]⟩) (sub_gen [0, 1, 2] rfl rfl ⟨zc rfl rfl, zc rfl rfl, zc rfl rfl, zc rfl rfl, zc rfl rfl, zc rfl rfl, zc rfl rfl, trivial⟩ ⟨⟨_, rfl, ⟨ii rfl rfl, ii rfl rfl, ii rfl rfl, ii rfl rfl, ii rfl rfl, ii rfl rfl, ii rfl rfl, ii rfl rfl, ii rfl rfl, ii rfl rfl, ii rfl rfl, trivial⟩⟩, oa rfl, ⟨_, rfl, ⟨ii rfl rfl, ii rfl rfl, ii rfl rfl, ii rfl rfl, ii rfl rfl, ii rfl rfl, ii rfl rfl, ii rfl rfl, ii rfl rfl, ii rfl rfl, ii rfl rfl, trivial⟩⟩, trivial⟩) ?_
          refine SOps.nil ?_
          refine SCode.seq ?_
          refine SCode.seq ?_
          refine SCode.region (show SOps _ _ _ [0, 1, 2, 3, 4] _ _ from ?_)
          refine SOps.q rfl (.plain rfl) rfl (q_field_ptr rfl rfl fd26_0) ?_
          refine SOps.q rfl (.plain rfl) rfl (q_load_ptr rfl rfl rfl rfl ty3) ?_
          refine SOps.q rfl (.plain rfl) rfl (q_field_ptr rfl rfl fd26_0) ?_
          refine SOps.q rfl (.plain rfl) rfl (q_load_ptr rfl rfl rfl rfl ty3) ?_
          refine SOps.q rfl (.plain rfl) rfl (q_eql rfl rfl rfl) ?_
          refine SOps.sub (st' := ⟨[(0, .c (.vec a0_l.length 11 (gL cSProfile dSProfile a0_l))), (3, .c (.ptr 0 0)), (7, .c (.own 1 o1_24.length)), (9, .c (.ptr 2 0)), (16, .c (.vec a0_l.length 11 (gL cSProfile dSProfile a0_l))), (17, .c (.int .i64 (((a0_l).length : Int)))), (18, .c (.int .i64 t18_23)), (26, .c (.bool (decide ((a0_l.getD t18_23.toNat dSProfile).ID = a1_p.ID))))], [.box [.int .i64 a1_p.ID, .int .i64 a1_p.Level, .int .i64 a1_p.Purpose, .int .i64 a1_p.Kind, .int .i64 a1_p.Conn, .str a1_p.Txn, .int .i64 a1_p.Span_From, .int .i64 a1_p.Span_To, .int .i64 a1_p.Start, .int .i64 a1_p.Duration, .vec a1_p.Periods.length 2 (gL cSPeriod dSPeriod a1_p.Periods)], .arr 26 11 o1_24.length (gL cSProfile dSProfile o1_24), .box [.int .i64 ((a0_l.getD t18_23.toNat dSProfile).ID), .int .i64 ((a0_l.getD t18_23.toNat dSProfile).Level), .int .i64 ((a0_l.getD t18_23.toNat dSProfile).Purpose), .int .i64 ((a0_l.getD t18_23.toNat dSProfile).Kind), .int .i64 ((a0_l.getD t18_23.toNat dSProfile).Conn), .str ((a0_l.getD t18_23.toNat dSProfile).Txn), .int .i64 ((a0_l.getD t18_23.toNat dSProfile).Span_From), .int .i64 ((a0_l.getD t18_23.toNat dSProfile).Span_To), .int .i64 ((a0_l.getD t18_23.toNat dSProfile).Start), .int .i64 ((a0_l.getD t18_23.toNat dSProfile).Duration), .vec ((a0_l.getD t18_23.toNat dSProfile).Periods).length 2 (gL cSPeriod dSPeriod ((a0_l.getD t18_23.toNat dSProfile).Periods))]]⟩) (sub_gen [0, 1, 2] rfl rfl ⟨zc rfl rfl, zc rfl rfl, zc rfl rfl, zc rfl rfl, zc rfl rfl, zc rfl rfl, zc rfl rfl, zc rfl rfl, trivial⟩ ⟨⟨_, rfl, ⟨ii rfl rfl, ii rfl rfl, ii rfl rfl, ii rfl rfl, ii rfl rfl, ii rfl rfl, ii rfl rfl, ii rfl rfl, ii rfl rfl, ii rfl rfl, ii rfl rfl, trivial⟩⟩, oa rfl, ⟨_, rfl, ⟨ii rfl rfl, ii rfl rfl, ii rfl rfl, ii rfl rfl, ii rfl rfl, ii rfl rfl, ii rfl rfl, ii rfl rfl, ii rfl rfl, ii rfl rfl, ii rfl rfl, trivial⟩⟩, trivial⟩) ?_
          refine SOps.nil ?_
          rcases cond_out h with ⟨g43, h⟩ | ⟨g43, h⟩
          · refine SCode.cond_t rfl g43 ?_
            refine SCode.exit ?_
            exact ⟨o1_24, h, sub_gen [0, 1] rfl rfl ⟨zc rfl rfl, zc rfl rfl, zc rfl rfl, zc rfl rfl, zc rfl rfl, zc rfl rfl, trivial⟩ ⟨⟨_, rfl, ⟨ii rfl rfl, ii rfl rfl, ii rfl rfl, ii rfl rfl, ii rfl rfl, ii rfl rfl, ii rfl rfl, ii rfl rfl, ii rfl rfl, ii rfl rfl, ii rfl rfl, trivial⟩⟩, oa rfl, trivial⟩⟩
          refine SCode.cond_f rfl g43 ?_
          refine SCode.skip ?_
          refine SCode.join (σ := Unit) (S := fun s => ⟨[(0, .c (.vec a0_l.length 11 (gL cSProfile dSProfile a0_l))), (3, .c (.ptr 0 0)), (7, .c (.own 1 o1_24.length)), (9, .c (.ptr 2 0)), (16, .c (.vec a0_l.length 11 (gL cSProfile dSProfile a0_l))), (17, .c (.int .i64 (((a0_l).length : Int)))), (18, .c (.int .i64 t18_23))], [.box [.int .i64 a1_p.ID, .int .i64 a1_p.Level, .int .i64 a1_p.Purpose, .int .i64 a1_p.Kind, .int .i64 a1_p.Conn, .str a1_p.Txn, .int .i64 a1_p.Span_From, .int .i64 a1_p.Span_To, .int .i64 a1_p.Start, .int .i64 a1_p.Duration, .vec a1_p.Periods.length 2 (gL cSPeriod dSPeriod a1_p.Periods)], .arr 26 11 o1_24.length (gL cSProfile dSProfile o1_24), .box [.int .i64 ((a0_l.getD t18_23.toNat dSProfile).ID), .int .i64 ((a0_l.getD t18_23.toNat dSProfile).Level), .int .i64 ((a0_l.getD t18_23.toNat dSProfile).Purpose), .int .i64 ((a0_l.getD t18_23.toNat dSProfile).Kind), .int .i64 ((a0_l.getD t18_23.toNat dSProfile).Conn), .str ((a0_l.getD t18_23.toNat dSProfile).Txn), .int .i64 ((a0_l.getD t18_23.toNat dSProfile).Span_From), .int .i64 ((a0_l.getD t18_23.toNat dSProfile).Span_To), .int .i64 ((a0_l.getD t18_23.toNat dSProfile).Start), .int .i64 ((a0_l.getD t18_23.toNat dSProfile).Duration), .vec ((a0_l.getD t18_23.toNat dSProfile).Periods).length 2 (gL cSPeriod dSPeriod ((a0_l.getD t18_23.toNat dSProfile).Periods))]]⟩) (g := fun s => profile_Put_p47 F a0_l t18_23 o1_24 (fun t18_23 o1_24 => profile_Put_l38 F a0_l a1_p n_38 t18_23 o1_24) = some r) ?_ ?_
          rotate_left
          · refine SCode.seq ?_
            rcases cond_out h with ⟨g48, h⟩ | ⟨g48, h⟩
            · rcases cond_out h with ⟨g49, h⟩ | ⟨g49, h⟩
              · rcases cond_out h with ⟨g50, h⟩ | ⟨g50, h⟩
                · refine SCode.region (show SOps _ _ _ [0, 1, 2, 3, 4, 5, 6, 7, 8, 9, 10, 11, 12, 13, 14, 15, 16, 17, 18, 19, 20, 21, 22, 23, 24, 25] _ _ from ?_)
                  refine SOps.q rfl (.plain rfl) rfl (q_field_ptr rfl rfl fd26_2) ?_
                  refine SOps.q rfl (.plain rfl) rfl (q_load_ptr rfl rfl rfl rfl ty3) ?_
                  refine SOps.q rfl (.plain rfl) rfl (q_field_ptr rfl rfl fd26_2) ?_
                  refine SOps.q rfl (.plain rfl) rfl (q_load_ptr rfl rfl rfl rfl ty3) ?_
                  refine SOps.q rfl (.plain rfl) rfl (q_eql rfl rfl rfl) ?_
                  refine SOps.q rfl (.plain rfl) rfl (q_move rfl rfl) ?_
                  refine SOps.q rfl (.guard 5 32 true rfl rfl (gT g48)) rfl (q_field_ptr rfl rfl fd26_1) ?_
                  refine SOps.q rfl (.guard 5 32 true rfl rfl (gT g48)) rfl (q_load_ptr rfl rfl rfl rfl ty3) ?_
                  refine SOps.q rfl (.guard 5 32 true rfl rfl (gT g48)) rfl (q_field_ptr rfl rfl fd26_1) ?_
                  refine SOps.q rfl (.guard 5 32 true rfl rfl (gT g48)) rfl (q_load_ptr rfl rfl rfl rfl ty3) ?_
                  refine SOps.q rfl (.guard 5 32 true rfl rfl (gT g48)) rfl (q_eql rfl rfl rfl) ?_
                  refine SOps.q rfl (.plain rfl) rfl (q_pick_t rfl rfl g48 rfl) ?_
                  refine SOps.q rfl (.plain rfl) rfl (q_move rfl rfl) ?_
                  refine SOps.q rfl (.guard 12 39 true rfl rfl (gT g49)) rfl (q_field_ptr rfl rfl fd26_4) ?_
                  refine SOps.q rfl (.guard 12 39 true rfl rfl (gT g49)) rfl (q_load_ptr rfl rfl rfl rfl ty3) ?_
                  refine SOps.q rfl (.guard 12 39 true rfl rfl (gT g49)) rfl (q_field_ptr rfl rfl fd26_4) ?_
                  refine SOps.q rfl (.guard 12 39 true rfl rfl (gT g49)) rfl (q_load_ptr rfl rfl rfl rfl ty3) ?_
                  refine SOps.q rfl (.guard 12 39 true rfl rfl (gT g49)) rfl (q_eql rfl rfl rfl) ?_
                  refine SOps.q rfl (.plain rfl) rfl (q_pick_t rfl rfl g49 rfl) ?_
                  refine SOps.q rfl (.plain rfl) rfl (q_move rfl rfl) ?_
                  refine SOps.q rfl (.guard 19 46 true rfl rfl (gT g50)) rfl (q_field_ptr rfl rfl fd26_5) ?_
                  refine SOps.q rfl (.guard 19 46 true rfl rfl (gT g50)) rfl (q_load_ptr rfl rfl rfl rfl ty9) ?_
                  refine SOps.q rfl (.guard 19 46 true rfl rfl (gT g50)) rfl (q_field_ptr rfl rfl fd26_5) ?_
                  refine SOps.q rfl (.guard 19 46 true rfl rfl (gT g50)) rfl (q_load_ptr rfl rfl rfl rfl ty9) ?_
                  refine SOps.q rfl (.guard 19 46 true rfl rfl (gT g50)) rfl (q_eqlS rfl rfl rfl) ?_
                  refine SOps.q rfl (.plain rfl) rfl (q_pick_t rfl rfl g50 rfl) ?_
                  refine SOps.sub (st' := ⟨[(0, .c (.vec a0_l.length 11 (gL cSProfile dSProfile a0_l))), (3, .c (.ptr 0 0)), (7, .c (.own 1 o1_24.length)), (9, .c (.ptr 2 0)), (16, .c (.vec a0_l.length 11 (gL cSProfile dSProfile a0_l))), (17, .c (.int .i64 (((a0_l).length : Int)))), (18, .c (.int .i64 t18_23)), (52, .c (.bool (sEq ((a0_l.getD t18_23.toNat dSProfile).Txn) a1_p.Txn)))], [.box [.int .i64 a1_p.ID, .int .i64 a1_p.Level, .int .i64 a1_p.Purpose, .int .i64 a1_p.Kind, .int .i64 a1_p.Conn, .str a1_p.Txn, .int .i64 a1_p.Span_From, .int .i64 a1_p.Span_To, .int .i64 a1_p.Start, .int .i64 a1_p.Duration, .vec a1_p.Periods.length 2 (gL cSPeriod dSPeriod a1_p.Periods)], .arr 26 11 o1_24.length (gL cSProfile dSProfile o1_24), .box [.int .i64 ((a0_l.getD t18_23.toNat dSProfile).ID), .int .i64 ((a0_l.getD t18_23.toNat dSProfile).Level), .int .i64 ((a0_l.getD t18_23.toNat dSProfile).Purpose), .int .i64 ((a0_l.getD t18_23.toNat dSProfile).Kind), .int .i64 ((a0_l.getD t18_23.toNat dSProfile).Conn), .str ((a0_l.getD t18_23.toNat dSProfile).Txn), .int .i64 ((a0_l.getD t18_23.toNat dSProfile).Span_From), .int .i64 ((a0_l.getD t18_23.toNat dSProfile).Span_To), .int .i64 ((a0_l.getD t18_23.toNat dSProfile).Start), .int .i64 ((a0_l.getD t18_23.toNat dSProfile).Duration), .vec ((a0_l.getD t18_23.toNat dSProfile).Periods).length 2 (gL cSPeriod dSPeriod ((a0_l.getD t18_23.toNat dSProfile).Periods))]]⟩) (sub_gen [0, 1, 2] rfl rfl ⟨zc rfl rfl, zc rfl rfl, zc rfl rfl, zc rfl rfl, zc rfl rfl, zc rfl rfl, zc rfl rfl, zc rfl rfl, trivial⟩ ⟨⟨_, rfl, ⟨ii rfl rfl, ii rfl rfl, ii rfl rfl, ii rfl rfl, ii rfl rfl, ii rfl rfl, ii rfl rfl, ii rfl rfl, ii rfl rfl, ii rfl rfl, ii rfl rfl, trivial⟩⟩, oa rfl, ⟨_, rfl, ⟨ii rfl rfl, ii rfl rfl, ii rfl rfl, ii rfl rfl, ii rfl rfl, ii rfl rfl, ii rfl rfl, ii rfl rfl, ii rfl rfl, ii rfl rfl, ii rfl rfl, trivial⟩⟩, trivial⟩) ?_
                  refine SOps.nil ?_
                  rcases cond_out h with ⟨g51, h⟩ | ⟨g51, h⟩
                  · refine SCode.cond_t rfl g51 ?_
                    refine SCode.exit ?_
                    exact ⟨o1_24, h, sub_gen [0, 1] rfl rfl ⟨zc rfl rfl, zc rfl rfl, zc rfl rfl, zc rfl rfl, zc rfl rfl, zc rfl rfl, trivial⟩ ⟨⟨_, rfl, ⟨ii rfl rfl, ii rfl rfl, ii rfl rfl, ii rfl rfl, ii rfl rfl, ii rfl rfl, ii rfl rfl, ii rfl rfl, ii rfl rfl, ii rfl rfl, ii rfl rfl, trivial⟩⟩, oa rfl, trivial⟩⟩
                  refine SCode.cond_f rfl g51 ?_
                  refine SCode.skip ?_
                  exact ⟨(), h, sub_gen [0, 1, 2] rfl rfl ⟨zc rfl rfl, zc rfl rfl, zc rfl rfl, zc rfl rfl, zc rfl rfl, zc rfl rfl, zc rfl rfl, trivial⟩ ⟨⟨_, rfl, ⟨ii rfl rfl, ii rfl rfl, ii rfl rfl, ii rfl rfl, ii rfl rfl, ii rfl rfl, ii rfl rfl, ii rfl rfl, ii rfl rfl, ii rfl rfl, ii rfl rfl, trivial⟩⟩, oa rfl, ⟨_, rfl, ⟨ii rfl rfl, ii rfl rfl, ii rfl rfl, ii rfl rfl, ii rfl rfl, ii rfl rfl, ii rfl rfl, ii rfl rfl, ii rfl rfl, ii rfl rfl, ii rfl rfl, trivial⟩⟩, trivial⟩⟩
                refine SCode.region (show SOps _ _ _ [0, 1, 2, 3, 4, 5, 6, 7, 8, 9, 10, 11, 12, 13, 14, 15, 16, 17, 18, 19, 20, 21, 22, 23, 24, 25] _ _ from ?_)
                refine SOps.q rfl (.plain rfl) rfl (q_field_ptr rfl rfl fd26_2) ?_
                refine SOps.q rfl (.plain rfl) rfl (q_load_ptr rfl rfl rfl rfl ty3) ?_
                refine SOps.q rfl (.plain rfl) rfl (q_field_ptr rfl rfl fd26_2) ?_
                refine SOps.q rfl (.plain rfl) rfl (q_load_ptr rfl rfl rfl rfl ty3) ?_
                refine SOps.q rfl (.plain rfl) rfl (q_eql rfl rfl rfl) ?_
                refine SOps.q rfl (.plain rfl) rfl (q_move rfl rfl) ?_
                refine SOps.q rfl (.guard 5 32 true rfl rfl (gT g48)) rfl (q_field_ptr rfl rfl fd26_1) ?_
                refine SOps.q rfl (.guard 5 32 true rfl rfl (gT g48)) rfl (q_load_ptr rfl rfl rfl rfl ty3) ?_
                refine SOps.q rfl (.guard 5 32 true rfl rfl (gT g48)) rfl (q_field_ptr rfl rfl fd26_1) ?_
                refine SOps.q rfl (.guard 5 32 true rfl rfl (gT g48)) rfl (q_load_ptr rfl rfl rfl rfl ty3) ?_
                refine SOps.q rfl (.guard 5 32 true rfl rfl (gT g48)) rfl (q_eql rfl rfl rfl) ?_
                refine SOps.q rfl (.plain rfl) rfl (q_pick_t rfl rfl g48 rfl) ?_
                refine SOps.q rfl (.plain rfl) rfl (q_move rfl rfl) ?_
                refine SOps.q rfl (.guard 12 39 true rfl rfl (gT g49)) rfl (q_field_ptr rfl rfl fd26_4) ?_
                refine SOps.q rfl (.guard 12 39 true rfl rfl (gT g49)) rfl (q_load_ptr rfl rfl rfl rfl ty3) ?_
                refine SOps.q rfl (.guard 12 39 true rfl rfl (gT g49)) rfl (q_field_ptr rfl rfl fd26_4) ?_
                refine SOps.q rfl (.guard 12 39 true rfl rfl (gT g49)) rfl (q_load_ptr rfl rfl rfl rfl ty3) ?_
                refine SOps.q rfl (.guard 12 39 true rfl rfl (gT g49)) rfl (q_eql rfl rfl rfl) ?_
                refine SOps.q rfl (.plain rfl) rfl (q_pick_t rfl rfl g49 rfl) ?_
                refine SOps.q rfl (.plain rfl) rfl (q_move rfl rfl) ?_
                refine SOps.skip rfl 19 46 true rfl rfl (.inl (gF g50)) rfl ?_
                refine SOps.skip rfl 19 46 true rfl rfl (.inl (gF g50)) rfl ?_
                refine SOps.skip rfl 19 46 true rfl rfl (.inl (gF g50)) rfl ?_
                refine SOps.skip rfl 19 46 true rfl rfl (.inl (gF g50)) rfl ?_
                refine SOps.skip rfl 19 46 true rfl rfl (.inl (gF g50)) rfl ?_
                refine SOps.q rfl (.plain rfl) rfl (q_pick_f rfl rfl g50 rfl) ?_
                refine SOps.sub (st' := ⟨[(0, .c (.vec a0_l.length 11 (gL cSProfile dSProfile a0_l))), (3, .c (.ptr 0 0)), (7, .c (.own 1 o1_24.length)), (9, .c (.ptr 2 0)), (16, .c (.vec a0_l.length 11 (gL cSProfile dSProfile a0_l))), (17, .c (.int .i64 (((a0_l).length : Int)))), (18, .c (.int .i64 t18_23)), (52, .c (.bool false))], [.box [.int .i64 a1_p.ID, .int .i64 a1_p.Level, .int .i64 a1_p.Purpose, .int .i64 a1_p.Kind, .int .i64 a1_p.Conn, .str a1_p.Txn, .int .i64 a1_p.Span_From, .int .i64 a1_p.Span_To, .int .i64 a1_p.Start, .int .i64 a1_p.Duration, .vec a1_p.Periods.length 2 (gL cSPeriod dSPeriod a1_p.Periods)], .arr 26 11 o1_24.length (gL cSProfile dSProfile o1_24), .box [.int .i64 ((a0_l.getD t18_23.toNat dSProfile).ID), .int .i64 ((a0_l.getD t18_23.toNat dSProfile).Level), .int .i64 ((a0_l.getD t18_23.toNat dSProfile).Purpose), .int .i64 ((a0_l.getD t18_23.toNat dSProfile).Kind), .int .i64 ((a0_l.getD t18_23.toNat dSProfile).Conn), .str ((a0_l.getD t18_23.toNat dSProfile).Txn), .int .i64 ((a0_l.getD t18_23.toNat dSProfile).Span_From), .int .i64 ((a0_l.getD t18_23.toNat dSProfile).Span_To), .int .i64 ((a0_l.getD t18_23.toNat dSProfile).Start), .int .i64 ((a0_l.getD t18_23.toNat dSProfile).Duration), .vec ((a0_l.getD t18_23.toNat dSProfile).Periods).length 2 (gL cSPeriod dSPeriod ((a0_l.getD t18_23.toNat dSProfile).Periods))]]⟩) (sub_gen [0, 1, 2] rfl rfl ⟨zc rfl rfl, zc rfl rfl, zc rfl rfl, zc rfl rfl, zc rfl rfl, zc rfl rfl, zc rfl rfl, zc rfl rfl, trivial⟩ ⟨⟨_, rfl, ⟨ii rfl rfl, ii rfl rfl, ii rfl rfl, ii rfl rfl, ii rfl rfl, ii rfl rfl, ii rfl rfl, ii rfl rfl, ii rfl rfl, ii rfl rfl, ii rfl rfl, trivial⟩⟩, oa rfl, ⟨_, rfl, ⟨ii rfl rfl, ii rfl rfl, ii rfl rfl, ii rfl rfl, ii rfl rfl, ii rfl rfl, ii rfl rfl, ii rfl rfl, ii rfl rfl, ii rfl rfl, ii rfl rfl, trivial⟩⟩, trivial⟩) ?_
                refine SOps.nil ?_
                refine SCode.cond_f rfl rfl ?_
                refine SCode.skip ?_
                exact ⟨(), h, sub_gen [0, 1, 2] rfl rfl ⟨zc rfl rfl, zc rfl rfl, zc rfl rfl, zc rfl rfl, zc rfl rfl, zc rfl rfl, zc rfl rfl, trivial⟩ ⟨⟨_, rfl, ⟨ii rfl rfl, ii rfl rfl, ii rfl rfl, ii rfl rfl, ii rfl rfl, ii rfl rfl, ii rfl rfl, ii rfl rfl, ii rfl rfl, ii rfl rfl, ii rfl rfl, trivial⟩⟩, oa rfl, ⟨_, rfl, ⟨ii rfl rfl, ii rfl rfl, ii rfl rfl, ii rfl rfl, ii rfl rfl, ii rfl rfl, ii rfl rfl, ii rfl rfl, ii rfl rfl, ii rfl rfl, ii rfl rfl, trivial⟩⟩, trivial⟩⟩
              refine SCode.region (show SOps _ _ _ [0, 1, 2, 3, 4, 5, 6, 7, 8, 9, 10, 11, 12, 13, 14, 15, 16, 17, 18, 19, 20, 21, 22, 23, 24, 25] _ _ from ?_)
              refine SOps.q rfl (.plain rfl) rfl (q_field_ptr rfl rfl fd26_2) ?_
              refine SOps.q rfl (.plain rfl) rfl (q_load_ptr rfl rfl rfl rfl ty3) ?_
              refine SOps.q rfl (.plain rfl) rfl (q_field_ptr rfl rfl fd26_2) ?_
              refine SOps.q rfl (.plain rfl) rfl (q_load_ptr rfl rfl rfl rfl ty3) ?_
              refine SOps.q rfl (.plain rfl) rfl (q_eql rfl rfl rfl) ?_
              refine SOps.q rfl (.plain rfl) rfl (q_move rfl rfl) ?_
              refine SOps.q rfl (.guard 5 32 true rfl rfl (gT g48)) rfl (q_field_ptr rfl rfl fd26_1) ?_
              refine SOps.q rfl (.guard 5 32 true rfl rfl (gT g48)) rfl (q_load_ptr rfl rfl rfl rfl ty3) ?_
              refine SOps.q rfl (.guard 5 32 true rfl rfl (gT g48)) rfl (q_field_ptr rfl rfl fd26_1) ?_
              refine SOps.q rfl (.guard 5 32 true rfl rfl (gT g48)) rfl (q_load_ptr rfl rfl rfl rfl ty3) ?_
              refine SOps.q rfl (.guard 5 32 true rfl rfl (gT g48)) rfl (q_eql rfl rfl rfl) ?_
              refine SOps.q rfl (.plain rfl) rfl (q_pick_t rfl rfl g48 rfl) ?_
              refine SOps.q rfl (.plain rfl) rfl (q_move rfl rfl) ?_
              refine SOps.skip rfl 12 39 true rfl rfl (.inl (gF g49)) rfl ?_
              refine SOps.skip rfl 12 39 true rfl rfl (.inl (gF g49)) rfl ?_
              refine SOps.skip rfl 12 39 true rfl rfl (.inl (gF g49)) rfl ?_
              refine SOps.skip rfl 12 39 true rfl rfl (.inl (gF g49)) rfl ?_
              refine SOps.skip rfl 12 39 true rfl rfl (.inl (gF g49)) rfl ?_
              refine SOps.q rfl (.plain rfl) rfl (q_pick_f rfl rfl g49 rfl) ?_
              refine SOps.q rfl (.plain rfl) rfl (q_move rfl rfl) ?_
              refine SOps.skip rfl 19 46 true rfl rfl (.inl rfl) rfl ?_
              refine SOps.skip rfl 19 46 true rfl rfl (.inl rfl) rfl ?_
              refine SOps.skip rfl 19 46 true rfl rfl (.inl rfl) rfl ?_
              refine SOps.skip rfl 19 46 true rfl rfl (.inl rfl) rfl ?_
              refine SOps.skip rfl 19 46 true rfl rfl (.inl rfl) rfl ?_
              refine SOps.q rfl (.plain rfl) rfl (q_pick_f rfl rfl rfl rfl) ?_
              refine SOps.sub (st' := ⟨[(0, .c (.vec a0_l.length 11 (gL cSProfile dSProfile a0_l))), (3, .c (.ptr 0 0)), (7, .c (.own 1 o1_24.length)), (9, .c (.ptr 2 0)), (16, .c (.vec a0_l.length 11 (gL cSProfile dSProfile a0_l))), (17, .c (.int .i64 (((a0_l).length : Int)))), (18, .c (.int .i64 t18_23)), (52, .c (.bool false))], [.box [.int .i64 a1_p.ID, .int .i64 a1_p.Level, .int .i64 a1_p.Purpose, .int .i64 a1_p.Kind, .int .i64 a1_p.Conn, .str a1_p.Txn, .int .i64 a1_p.Span_From, .int .i64 a1_p.Span_To, .int .i64 a1_p.Start, .int .i64 a1_p.Duration, .vec a1_p.Periods.length 2 (gL cSPeriod dSPeriod a1_p.Periods)], .arr 26 11 o1_24.length (gL cSProfile dSProfile o1_24), .box [.int .i64 ((a0_l.getD t18_23.toNat dSProfile).ID), .int .i64 ((a0_l.getD t18_23.toNat dSProfile).Level), .int .i64 ((a0_l.getD t18_23.toNat dSProfile).Purpose), .int .i64 ((a0_l.getD t18_23.toNat dSProfile).Kind), .int .i64 ((a0_l.getD t18_23.toNat dSProfile).Conn), .str ((a0_l.getD t18_23.toNat dSProfile).Txn), .int .i64 ((a0_l.getD t18_23.toNat dSProfile).Span_From), .int .i64 ((a0_l.getD t18_23.toNat dSProfile).Span_To), .int .i64 ((a0_l.getD t18_23.toNat dSProfile).Start), .int .i64 ((a0_l.getD t18_23.toNat dSProfile).Duration), .vec ((a0_l.getD t18_23.toNat dSProfile).Periods).length 2 (gL cSPeriod dSPeriod ((a0_l.getD t18_23.toNat dSProfile).Periods))]]⟩) (sub_gen [0, 1, 2] rfl rfl ⟨zc rfl rfl, zc rfl rfl, zc rfl rfl, zc rfl rfl, zc rfl rfl, zc rfl rfl, zc rfl rfl, zc rfl rfl, trivial⟩ ⟨⟨_, rfl, ⟨ii rfl rfl, ii rfl rfl, ii rfl rfl, ii rfl rfl, ii rfl rfl, ii rfl rfl, ii rfl rfl, ii rfl rfl, ii rfl rfl, ii rfl rfl, ii rfl rfl, trivial⟩⟩, oa rfl, ⟨_, rfl, ⟨ii rfl rfl, ii rfl rfl, ii rfl rfl, ii rfl rfl, ii rfl rfl, ii rfl rfl, ii rfl rfl, ii rfl rfl, ii rfl rfl, ii rfl rfl, ii rfl rfl, trivial⟩⟩, trivial⟩) ?_
              refine SOps.nil ?_
              refine SCode.cond_f rfl rfl ?_
              refine SCode.skip ?_
              exact ⟨(), h, sub_gen [0, 1, 2] rfl rfl ⟨zc rfl rfl, zc rfl rfl, zc rfl rfl, zc rfl rfl, zc rfl rfl, zc rfl rfl, zc rfl rfl, trivial⟩ ⟨⟨_, rfl, ⟨ii rfl rfl, ii rfl rfl, ii rfl rfl, ii rfl rfl, ii rfl rfl, ii rfl rfl, ii rfl rfl, ii rfl rfl, ii rfl rfl, ii rfl rfl, ii rfl rfl, trivial⟩⟩, oa rfl, ⟨_, rfl, ⟨ii rfl rfl, ii rfl rfl, ii rfl rfl, ii rfl rfl, ii rfl rfl, ii rfl rfl, ii rfl rfl, ii rfl rfl, ii rfl rfl, ii rfl rfl, ii rfl rfl, trivial⟩⟩, trivial⟩⟩
            refine SCode.region (show SOps _ _ _ [0, 1, 2, 3, 4, 5, 6, 7, 8, 9, 10, 11, 12, 13, 14, 15, 16, 17, 18, 19, 20, 21, 22, 23, 24, 25] _ _ from ?_)
            refine SOps.q rfl (.plain rfl) rfl (q_field_ptr rfl rfl fd26_2) ?_
            refine SOps.q rfl (.plain rfl) rfl (q_load_ptr rfl rfl rfl rfl ty3) ?_
            refine SOps.q rfl (.plain rfl) rfl (q_field_ptr rfl rfl fd26_2) ?_
            refine SOps.q rfl (.plain rfl) rfl (q_load_ptr rfl rfl rfl rfl ty3) ?_
            refine SOps.q rfl (.plain rfl) rfl (q_eql rfl rfl rfl) ?_
            refine SOps.q rfl (.plain rfl) rfl (q_move rfl rfl) ?_
            refine SOps.skip rfl 5 32 true rfl rfl (.inl (gF g48)) rfl ?_
            refine SOps.skip rfl 5 32 true rfl rfl (.inl (gF g48)) rfl ?_
            refine SOps.skip rfl 5 32 true rfl rfl (.inl (gF g48)) rfl ?_
            refine SOps.skip rfl 5 32 true rfl rfl (.inl (gF g48)) rfl ?_
            refine SOps.skip rfl 5 32 true rfl rfl (.inl (gF g48)) rfl ?_
            refine SOps.q rfl (.plain rfl) rfl (q_pick_f rfl rfl g48 rfl) ?_
            refine SOps.q rfl (.plain rfl) rfl (q_move rfl rfl) ?_
            refine SOps.skip rfl 12 39 true rfl rfl (.inl rfl) rfl ?_
            refine SOps.skip rfl 12 39 true rfl rfl (.inl rfl) rfl ?_
            refine SOps.skip rfl 12 39 true rfl rfl (.inl rfl) rfl ?_
            refine SOps.skip rfl 12 39 true rfl rfl (.inl rfl) rfl ?_
            refine SOps.skip rfl 12 39 true rfl rfl (.inl rfl) rfl ?_
            refine SOps.q rfl (.plain rfl) rfl (q_pick_f rfl rfl rfl rfl) ?_
            refine SOps.q rfl (.plain rfl) rfl (q_move rfl rfl) ?_
            refine SOps.skip rfl 19 46 true rfl rfl (.inl rfl) rfl ?_
            refine SOps.skip rfl 19 46 true rfl rfl (.inl rfl) rfl ?_
            refine SOps.skip rfl 19 46 true rfl rfl (.inl rfl) rfl ?_
            refine SOps.skip rfl 19 46 true rfl rfl (.inl rfl) rfl ?_
            refine SOps.skip rfl 19 46 true rfl rfl (.inl rfl) rfl ?_
            refine SOps.q rfl (.plain rfl) rfl (q_pick_f rfl rfl rfl rfl) ?_
            refine SOps.sub (st' := ⟨[(0, .c (.vec a0_l.length 11 (gL cSProfile dSProfile a0_l))), (3, .c (.ptr 0 0)), (7, .c (.own 1 o1_24.length)), (9, .c (.ptr 2 0)), (16, .c (.vec a0_l.length 11 (gL cSProfile dSProfile a0_l))), (17, .c (.int .i64 (((a0_l).length : Int)))), (18, .c (.int .i64 t18_23)), (52, .c (.bool false))], [.box [.int .i64 a1_p.ID, .int .i64 a1_p.Level, .int .i64 a1_p.Purpose, .int .i64 a1_p.Kind, .int .i64 a1_p.Conn, .str a1_p.Txn, .int .i64 a1_p.Span_From, .int .i64 a1_p.Span_To, .int .i64 a1_p.Start, .int .i64 a1_p.Duration, .vec a1_p.Periods.length 2 (gL cSPeriod dSPeriod a1_p.Periods)], .arr 26 11 o1_24.length (gL cSProfile dSProfile o1_24), .box [.int .i64 ((a0_l.getD t18_23.toNat dSProfile).ID), .int .i64 ((a0_l.getD t18_23.toNat dSProfile).Level), .int .i64 ((a0_l.getD t18_23.toNat dSProfile).Purpose), .int .i64 ((a0_l.getD t18_23.toNat dSProfile).Kind), .int .i64 ((a0_l.getD t18_23.toNat dSProfile).Conn), .str ((a0_l.getD t18_23.toNat dSProfile).Txn), .int .i64 ((a0_l.getD t18_23.toNat dSProfile).Span_From), .int .i64 ((a0_l.getD t18_23.toNat dSProfile).Span_To), .int .i64 ((a0_l.getD t18_23.toNat dSProfile).Start), .int .i64 ((a0_l.getD t18_23.toNat dSProfile).Duration), .vec ((a0_l.getD t18_23.toNat dSProfile).Periods).length 2 (gL cSPeriod dSPeriod ((a0_l.getD t18_23.toNat dSProfile).Periods))]]⟩) (sub_gen [0, 1, 2] rfl rfl ⟨zc rfl rfl, zc rfl rfl, zc rfl rfl, zc rfl rfl, zc rfl rfl, zc rfl rfl, zc rfl rfl, zc rfl rfl, trivial⟩ ⟨⟨_, rfl, ⟨ii rfl rfl, ii rfl rfl, ii rfl rfl, ii rfl rfl, ii rfl rfl, ii rfl rfl, ii rfl rfl, ii rfl rfl, ii rfl rfl, ii rfl rfl, ii rfl rfl, trivial⟩⟩, oa rfl, ⟨_, rfl, ⟨ii rfl rfl, ii rfl rfl, ii rfl rfl, ii rfl rfl, ii rfl rfl, ii rfl rfl, ii rfl rfl, ii rfl rfl, ii rfl rfl, ii rfl rfl, ii rfl rfl, trivial⟩⟩, trivial⟩) ?_
            refine SOps.nil ?_
            refine SCode.cond_f rfl rfl ?_
            refine SCode.skip ?_
            exact ⟨(), h, sub_gen [0, 1, 2] rfl rfl ⟨zc rfl rfl, zc rfl rfl, zc rfl rfl, zc rfl rfl, zc rfl rfl, zc rfl rfl, zc rfl rfl, trivial⟩ ⟨⟨_, rfl, ⟨ii rfl rfl, ii rfl rfl, ii rfl rfl, ii rfl rfl, ii rfl rfl, ii rfl rfl, ii rfl rfl, ii rfl rfl, ii rfl rfl, ii rfl rfl, ii rfl rfl, trivial⟩⟩, oa rfl, ⟨_, rfl, ⟨ii rfl rfl, ii rfl rfl, ii rfl rfl, ii rfl rfl, ii rfl rfl, ii rfl rfl, ii rfl rfl, ii rfl rfl, ii rfl rfl, ii rfl rfl, ii rfl rfl, trivial⟩⟩, trivial⟩⟩
          rintro ⟨⟩ h
          show SCode _ _ _ ⟨[(0, .c (.vec a0_l.length 11 (gL cSProfile dSProfile a0_l))), (3, .c (.ptr 0 0)), (7, .c (.own 1 o1_24.length)), (9, .c (.ptr 2 0)), (16, .c (.vec a0_l.length 11 (gL cSProfile dSProfile a0_l))), (17, .c (.int .i64 (((a0_l).length : Int)))), (18, .c (.int .i64 t18_23))], [.box [.int .i64 a1_p.ID, .int .i64 a1_p.Level, .int .i64 a1_p.Purpose, .int .i64 a1_p.Kind, .int .i64 a1_p.Conn, .str a1_p.Txn, .int .i64 a1_p.Span_From, .int .i64 a1_p.Span_To, .int .i64 a1_p.Start, .int .i64 a1_p.Duration, .vec a1_p.Periods.length 2 (gL cSPeriod dSPeriod a1_p.Periods)], .arr 26 11 o1_24.length (gL cSProfile dSProfile o1_24), .box [.int .i64 ((a0_l.getD t18_23.toNat dSProfile).ID), .int .i64 ((a0_l.getD t18_23.toNat dSProfile).Level), .int .i64 ((a0_l.getD t18_23.toNat dSProfile).Purpose), .int .i64 ((a0_l.getD t18_23.toNat dSProfile).Kind), .int .i64 ((a0_l.getD t18_23.toNat dSProfile).Conn), .str ((a0_l.getD t18_23.toNat dSProfile).Txn), .int .i64 ((a0_l.getD t18_23.toNat dSProfile).Span_From), .int .i64 ((a0_l.getD t18_23.toNat dSProfile).Span_To), .int .i64 ((a0_l.getD t18_23.toNat dSProfile).Start), .int .i64 ((a0_l.getD t18_23.toNat dSProfile).Duration), .vec ((a0_l.getD t18_23.toNat dSProfile).Periods).length 2 (gL cSPeriod dSPeriod ((a0_l.getD t18_23.toNat dSProfile).Periods))]]⟩ _
          replace h : profile_Put_p47 F a0_l t18_23 o1_24 (fun t18_23 o1_24 => profile_Put_l38 F a0_l a1_p n_38 t18_23 o1_24) = some r := h
          unfold profile_Put_p47 at h
          obtain ⟨c_44, g45, h⟩ := bind_out h
          try dsimp only at h
          obtain ⟨g46, h⟩ := guard_out h
          refine SCode.region (show SOps _ _ _ [0, 1, 2, 3, 4, 5] _ _ from ?_)
          refine SOps.q rfl (.plain rfl) rfl (q_move rfl rfl) ?_
          refine SOps.q rfl (.plain rfl) rfl (q_load_ptr_all rfl rfl rfl rfl rfl ty26) ?_
          refine SOps.q rfl (.plain rfl) rfl (q_call (profile_clone_ok F (a0_l.getD t18_23.toNat dSProfile) c_44 g45) [] rfl fn35 ⟨⟨rfl, rfl⟩, trivial⟩ (.inl rfl)) ?_
          refine SOps.q rfl (.plain rfl) rfl (q_bsliceL (c := cSProfile) (d0 := dSProfile) [c_44] rfl rfl sl31 z26 rfl rfl rfl rfl rfl rfl rfl) ?_
          refine SOps.e rfl (.plain rfl) (e_appendL (c := cSProfile) (d0 := dSProfile) (l := o1_24) (l2 := [c_44]) rfl rfl rfl rfl rfl rfl (.inl rfl) sl31 z26 rfl rfl oneSProfile g46.1 g46.2) ?_
          refine SOps.q rfl (.plain rfl) rfl (q_assign rfl rfl) ?_
          refine SOps.sub (st' := ⟨[(0, .c (.vec a0_l.length 11 (gL cSProfile dSProfile a0_l))), (3, .c (.ptr 0 0)), (7, .c (.own 1 (o1_24 ++ ([c_44])).length)), (16, .c (.vec a0_l.length 11 (gL cSProfile dSProfile a0_l))), (17, .c (.int .i64 (((a0_l).length : Int)))), (18, .c (.int .i64 t18_23))], [.box [.int .i64 a1_p.ID, .int .i64 a1_p.Level, .int .i64 a1_p.Purpose, .int .i64 a1_p.Kind, .int .i64 a1_p.Conn, .str a1_p.Txn, .int .i64 a1_p.Span_From, .int .i64 a1_p.Span_To, .int .i64 a1_p.Start, .int .i64 a1_p.Duration, .vec a1_p.Periods.length 2 (gL cSPeriod dSPeriod a1_p.Periods)], .arr 26 11 (o1_24 ++ ([c_44])).length (gL cSProfile dSProfile (o1_24 ++ ([c_44])))]⟩) (sub_gen [0, 3] rfl rfl ⟨zc rfl rfl, zc rfl rfl, zc rfl rfl, zc rfl rfl, zc rfl rfl, zc rfl rfl, trivial⟩ ⟨⟨_, rfl, ⟨ii rfl rfl, ii rfl rfl, ii rfl rfl, ii rfl rfl, ii rfl rfl, ii rfl rfl, ii rfl rfl, ii rfl rfl, ii rfl rfl, ii rfl rfl, ii rfl rfl, trivial⟩⟩, oa rfl, trivial⟩) ?_
          refine SOps.nil ?_
          exact ⟨o1_24 ++ ([c_44]), h, sub_gen [0, 1] rfl rfl ⟨zc rfl rfl, zc rfl rfl, zc rfl rfl, zc rfl rfl, zc rfl rfl, zc rfl rfl, trivial⟩ ⟨⟨_, rfl, ⟨ii rfl rfl, ii rfl rfl, ii rfl rfl, ii rfl rfl, ii rfl rfl, ii rfl rfl, ii rfl rfl, ii rfl rfl, ii rfl rfl, ii rfl rfl, ii rfl rfl, trivial⟩⟩, oa rfl, trivial⟩⟩
        rintro o1_40 h
        show SCode _ _ _ ⟨[(0, .c (.vec a0_l.length 11 (gL cSProfile dSProfile a0_l))), (3, .c (.ptr 0 0)), (7, .c (.own 1 o1_40.length)), (16, .c (.vec a0_l.length 11 (gL cSProfile dSProfile a0_l))), (17, .c (.int .i64 (((a0_l).length : Int)))), (18, .c (.int .i64 t18_23))], [.box [.int .i64 a1_p.ID, .int .i64 a1_p.Level, .int .i64 a1_p.Purpose, .int .i64 a1_p.Kind, .int .i64 a1_p.Conn, .str a1_p.Txn, .int .i64 a1_p.Span_From, .int .i64 a1_p.Span_To, .int .i64 a1_p.Start, .int .i64 a1_p.Duration, .vec a1_p.Periods.length 2 (gL cSPeriod dSPeriod a1_p.Periods)], .arr 26 11 o1_40.length (gL cSProfile dSProfile o1_40)]⟩ _
        replace h : profile_Put_p41 t18_23 (fun t18_23 o1_24 => profile_Put_l38 F a0_l a1_p n_38 t18_23 o1_24) o1_40 = some r := h
        unfold profile_Put_p41 at h
        refine SCode.region (show SOps _ _ _ [0, 1] _ _ from ?_)
        refine SOps.q rfl (.plain rfl) rfl (q_add rfl rfl rfl) ?_
        refine SOps.q rfl (.plain rfl) rfl (q_move rfl rfl) ?_
        refine SOps.sub (st' := ⟨[(0, .c (.vec a0_l.length 11 (gL cSProfile dSProfile a0_l))), (3, .c (.ptr 0 0)), (7, .c (.own 1 o1_40.length)), (16, .c (.vec a0_l.length 11 (gL cSProfile dSProfile a0_l))), (17, .c (.int .i64 (((a0_l).length : Int)))), (18, .c (.int .i64 (IntKind.wrap .i64 (t18_23 + 1))))], [.box [.int .i64 a1_p.ID, .int .i64 a1_p.Level, .int .i64 a1_p.Purpose, .int .i64 a1_p.Kind, .int .i64 a1_p.Conn, .str a1_p.Txn, .int .i64 a1_p.Span_From, .int .i64 a1_p.Span_To, .int .i64 a1_p.Start, .int .i64 a1_p.Duration, .vec a1_p.Periods.length 2 (gL cSPeriod dSPeriod a1_p.Periods)], .arr 26 11 o1_40.length (gL cSProfile dSProfile o1_40)]⟩) (sub_gen [0, 1] rfl rfl ⟨zc rfl rfl, zc rfl rfl, zc rfl rfl, zc rfl rfl, zc rfl rfl, zc rfl rfl, trivial⟩ ⟨⟨_, rfl, ⟨ii rfl rfl, ii rfl rfl, ii rfl rfl, ii rfl rfl, ii rfl rfl, ii rfl rfl, ii rfl rfl, ii rfl rfl, ii rfl rfl, ii rfl rfl, ii rfl rfl, trivial⟩⟩, oa rfl, trivial⟩) ?_
        refine SOps.nil ?_
        exact ⟨(n_38, (IntKind.wrap .i64 (t18_23 + 1), o1_40)), h, Nat.lt_succ_self n_38, sub_gen [0, 1] rfl rfl ⟨zc rfl rfl, zc rfl rfl, zc rfl rfl, zc rfl rfl, zc rfl rfl, zc rfl rfl, trivial⟩ ⟨⟨_, rfl, ⟨ii rfl rfl, ii rfl rfl, ii rfl rfl, ii rfl rfl, ii rfl rfl, ii rfl rfl, ii rfl rfl, ii rfl rfl, ii rfl rfl, ii rfl rfl, ii rfl rfl, trivial⟩⟩, oa rfl, trivial⟩⟩
      refine SCode.cond_f rfl g39 ?_
      refine SCode.exit ?_
      exact ⟨o1_24, h, sub_gen [0, 1] rfl rfl ⟨zc rfl rfl, zc rfl rfl, zc rfl rfl, trivial⟩ ⟨⟨_, rfl, ⟨ii rfl rfl, ii rfl rfl, ii rfl rfl, ii rfl rfl, ii rfl rfl, ii rfl rfl, ii rfl rfl, ii rfl rfl, ii rfl rfl, ii rfl rfl, ii rfl rfl, trivial⟩⟩, oa rfl, trivial⟩⟩
  rintro o1_4 h
  show SCode _ _ _ ⟨[(0, .c (.vec a0_l.length 11 (gL cSProfile dSProfile a0_l))), (3, .c (.ptr 0 0)), (7, .c (.own 1 o1_4.length))], [.box [.int .i64 a1_p.ID, .int .i64 a1_p.Level, .int .i64 a1_p.Purpose, .int .i64 a1_p.Kind, .int .i64 a1_p.Conn, .str a1_p.Txn, .int .i64 a1_p.Span_From, .int .i64 a1_p.Span_To, .int .i64 a1_p.Start, .int .i64 a1_p.Duration, .vec a1_p.Periods.length 2 (gL cSPeriod dSPeriod a1_p.Periods)], .arr 26 11 o1_4.length (gL cSProfile dSProfile o1_4)]⟩ _
  replace h : profile_Put_p9 F a0_l a1_p o1_4 = some r := h
  unfold profile_Put_p9 at h
  refine SCode.seq ?_
  refine SCode.seq ?_
  refine SCode.region (show SOps _ _ _ [0, 1, 2] _ _ from ?_)
  refine SOps.q rfl (.plain rfl) rfl (q_move rfl rfl) ?_
  refine SOps.q rfl (.plain rfl) rfl (q_len_own rfl rfl sl31) ?_
  refine SOps.q rfl (.plain rfl) rfl (q_geq rfl rfl rfl) ?_
  refine SOps.sub (st' := ⟨[(0, .c (.vec a0_l.length 11 (gL cSProfile dSProfile a0_l))), (3, .c (.ptr 0 0)), (7, .c (.own 1 o1_4.length)), (61, .c (.bool (decide (16 ≤ ((o1_4).length : Int)))))], [.box [.int .i64 a1_p.ID, .int .i64 a1_p.Level, .int .i64 a1_p.Purpose, .int .i64 a1_p.Kind, .int .i64 a1_p.Conn, .str a1_p.Txn, .int .i64 a1_p.Span_From, .int .i64 a1_p.Span_To, .int .i64 a1_p.Start, .int .i64 a1_p.Duration, .vec a1_p.Periods.length 2 (gL cSPeriod dSPeriod a1_p.Periods)], .arr 26 11 o1_4.length (gL cSProfile dSProfile o1_4)]⟩) (sub_gen [0, 1] rfl rfl ⟨zc rfl rfl, zc rfl rfl, zc rfl rfl, zc rfl rfl, trivial⟩ ⟨⟨_, rfl, ⟨ii rfl rfl, ii rfl rfl, ii rfl rfl, ii rfl rfl, ii rfl rfl, ii rfl rfl, ii rfl rfl, ii rfl rfl, ii rfl rfl, ii rfl rfl, ii rfl rfl, trivial⟩⟩, oa rfl, trivial⟩) ?_
  refine SOps.nil ?_
  rcases cond_out h with ⟨g5, h⟩ | ⟨g5, h⟩
  · refine SCode.cond_t rfl g5 ?_
    refine SCode.seq ?_
    refine SCode.region (show SOps _ _ _ [0, 1, 2] _ _ from ?_)
    refine SOps.q rfl (.plain rfl) rfl (q_move rfl rfl) ?_
    refine SOps.q rfl (.plain rfl) rfl (q_assign rfl rfl) ?_
    refine SOps.q rfl (.plain rfl) rfl (q_assign rfl rfl) ?_
    refine SOps.sub (st' := ⟨[(4, .c (.vec a0_l.length 11 (gL cSProfile dSProfile a0_l))), (5, .c (.int .i64 3))], []⟩) (sub_gen [] rfl rfl ⟨zc rfl rfl, zc rfl rfl, trivial⟩ trivial) ?_
    refine SOps.nil ?_
    refine SCode.ret ?_
    obtain rfl := Option.some.inj h
    exact ⟨⟨[(4, .c (.vec a0_l.length 11 (gL cSProfile dSProfile a0_l))), (5, .c (.int .i64 3))], []⟩, _, sub_gen [] rfl rfl ⟨zc rfl rfl, zc rfl rfl, trivial⟩ trivial, resA2 (v1 := .c (.vec a0_l.length 11 (gL cSProfile dSProfile a0_l))) (v2 := .c (.int .i64 3)) rfl rfl rfl, rfl⟩
  refine SCode.cond_f rfl g5 ?_
  refine SCode.skip ?_
  refine SCode.seq ?_
  obtain ⟨c_6, g7, h⟩ := bind_out h
  try dsimp only at h
  obtain ⟨g8, h⟩ := guard_out h
  refine SCode.region (show SOps _ _ _ [0, 1, 2, 3, 4, 5, 6] _ _ from ?_)
  refine SOps.q rfl (.plain rfl) rfl (q_move rfl rfl) ?_
  refine SOps.q rfl (.plain rfl) rfl (q_load_ptr_all rfl rfl rfl rfl rfl ty26) ?_
  refine SOps.q rfl (.plain rfl) rfl (q_call (profile_clone_ok F a1_p c_6 g7) [] rfl fn35 ⟨⟨rfl, rfl⟩, trivial⟩ (.inl rfl)) ?_
  refine SOps.q rfl (.plain rfl) rfl (q_bsliceL (c := cSProfile) (d0 := dSProfile) [c_6] rfl rfl sl31 z26 rfl rfl rfl rfl rfl rfl rfl) ?_
  refine SOps.e rfl (.plain rfl) (e_appendL (c := cSProfile) (d0 := dSProfile) (l := o1_4) (l2 := [c_6]) rfl rfl rfl rfl rfl rfl (.inl rfl) sl31 z26 rfl rfl oneSProfile g8.1 g8.2) ?_
  refine SOps.q rfl (.plain rfl) rfl (q_assign rfl rfl) ?_
  refine SOps.q rfl (.plain rfl) rfl (q_assign rfl rfl) ?_
  refine SOps.sub (st' := ⟨[(4, .c (.own 0 (o1_4 ++ ([c_6])).length)), (5, .c (.int .i64 0))], [.arr 26 11 (o1_4 ++ ([c_6])).length (gL cSProfile dSProfile (o1_4 ++ ([c_6])))]⟩) (sub_gen [2] rfl rfl ⟨zc rfl rfl, zc rfl rfl, trivial⟩ ⟨oa rfl, trivial⟩) ?_
  refine SOps.nil ?_
  refine SCode.ret ?_
  obtain rfl := Option.some.inj h
  exact ⟨⟨[(4, .c (.vec (o1_4 ++ ([c_6])).length 11 (gL cSProfile dSProfile (o1_4 ++ ([c_6]))))), (5, .c (.int .i64 0))], []⟩, _, sub_gen [] rfl rfl ⟨⟨_, rfl, .inr (.inl ⟨_, _, _, _, _, _, _, rfl, rfl, rfl, Nat.le_refl _, fun _ _ _ _ => rfl, by decide⟩)⟩, zc rfl rfl, trivial⟩ trivial, resA2 (v1 := .c (.vec (o1_4 ++ ([c_6])).length 11 (gL cSProfile dSProfile (o1_4 ++ ([c_6]))))) (v2 := .c (.int .i64 0)) rfl rfl rfl, rfl⟩
set_option maxRecDepth 100000 in
set_option maxHeartbeats 8000000 in
theorem chargenetref15_slot_ok (F : Nat) (a0_a : SProfile) (a1_b : SProfile) (r : Bool) (h : chargenetref15_slot F a0_a a1_b = some r) :
    SFun Try.prog 36 [] [.a [.int .i64 a0_a.ID, .int .i64 a0_a.Level, .int .i64 a0_a.Purpose, .int .i64 a0_a.Kind, .int .i64 a0_a.Conn, .str a0_a.Txn, .int .i64 a0_a.Span_From, .int .i64 a0_a.Span_To, .int .i64 a0_a.Start, .int .i64 a0_a.Duration, .vec a0_a.Periods.length 2 (gL cSPeriod dSPeriod a0_a.Periods)], .a [.int .i64 a1_b.ID, .int .i64 a1_b.Level, .int .i64 a1_b.Purpose, .int .i64 a1_b.Kind, .int .i64 a1_b.Conn, .str a1_b.Txn, .int .i64 a1_b.Span_From, .int .i64 a1_b.Span_To, .int .i64 a1_b.Start, .int .i64 a1_b.Duration, .vec a1_b.Periods.length 2 (gL cSPeriod dSPeriod a1_b.Periods)]] (fun x _ => x = .c (.bool r)) := by
  refine SFun.of (n := 31) Try.func36 rfl rfl rfl ?_
  unfold chargenetref15_slot at h
  show SCode _ _ _ ⟨[(0, .a [.int .i64 a0_a.ID, .int .i64 a0_a.Level, .int .i64 a0_a.Purpose, .int .i64 a0_a.Kind, .int .i64 a0_a.Conn, .str a0_a.Txn, .int .i64 a0_a.Span_From, .int .i64 a0_a.Span_To, .int .i64 a0_a.Start, .int .i64 a0_a.Duration, .vec a0_a.Periods.length 2 (gL cSPeriod dSPeriod a0_a.Periods)]), (1, .a [.int .i64 a1_b.ID, .int .i64 a1_b.Level, .int .i64 a1_b.Purpose, .int .i64 a1_b.Kind, .int .i64 a1_b.Conn, .str a1_b.Txn, .int .i64 a1_b.Span_From, .int .i64 a1_b.Span_To, .int .i64 a1_b.Start, .int .i64 a1_b.Duration, .vec a1_b.Periods.length 2 (gL cSPeriod dSPeriod a1_b.Periods)])], []⟩ _
  refine SCode.seq ?_
  refine SCode.region (show SOps _ _ _ [0, 1, 2] _ _ from ?_)
  refine SOps.e rfl (.plain rfl) (e_box rfl rfl rfl rfl rfl rfl) ?_
  refine SOps.e rfl (.plain rfl) (e_box rfl rfl rfl rfl rfl rfl) ?_
  refine SOps.q rfl (.plain rfl) rfl (q_assign rfl rfl) ?_
  refine SOps.sub (st' := ⟨[(2, .c (.ptr 0 0)), (3, .c (.ptr 1 0))], [.box [.int .i64 a0_a.ID, .int .i64 a0_a.Level, .int .i64 a0_a.Purpose, .int .i64 a0_a.Kind, .int .i64 a0_a.Conn, .str a0_a.Txn, .int .i64 a0_a.Span_From, .int .i64 a0_a.Span_To, .int .i64 a0_a.Start, .int .i64 a0_a.Duration, .vec a0_a.Periods.length 2 (gL cSPeriod dSPeriod a0_a.Periods)], .box [.int .i64 a1_b.ID, .int .i64 a1_b.Level, .int .i64 a1_b.Purpose, .int .i64 a1_b.Kind, .int .i64 a1_b.Conn, .str a1_b.Txn, .int .i64 a1_b.Span_From, .int .i64 a1_b.Span_To, .int .i64 a1_b.Start, .int .i64 a1_b.Duration, .vec a1_b.Periods.length 2 (gL cSPeriod dSPeriod a1_b.Periods)]]⟩) (sub_gen [0, 1] rfl rfl ⟨zc rfl rfl, zc rfl rfl, trivial⟩ ⟨⟨_, rfl, ⟨ii rfl rfl, ii rfl rfl, ii rfl rfl, ii rfl rfl, ii rfl rfl, ii rfl rfl, ii rfl rfl, ii rfl rfl, ii rfl rfl, ii rfl rfl, ii rfl rfl, trivial⟩⟩, ⟨_, rfl, ⟨ii rfl rfl, ii rfl rfl, ii rfl rfl, ii rfl rfl, ii rfl rfl, ii rfl rfl, ii rfl rfl, ii rfl rfl, ii rfl rfl, ii rfl rfl, ii rfl rfl, trivial⟩⟩, trivial⟩) ?_
  refine SOps.nil ?_
  refine SCode.seq ?_
  rcases cond_out h with ⟨g1, h⟩ | ⟨g1, h⟩
  · rcases cond_out h with ⟨g2, h⟩ | ⟨g2, h⟩
    · rcases cond_out h with ⟨g3, h⟩ | ⟨g3, h⟩
      · refine SCode.region (show SOps _ _ _ [0, 1, 2, 3, 4, 5, 6, 7, 8, 9, 10, 11, 12, 13, 14, 15, 16, 17, 18, 19, 20, 21, 22, 23, 24, 25, 26] _ _ from ?_)
        refine SOps.q rfl (.plain rfl) rfl (q_field_ptr rfl rfl fd26_2) ?_
        refine SOps.q rfl (.plain rfl) rfl (q_load_ptr rfl rfl rfl rfl ty3) ?_
        refine SOps.q rfl (.plain rfl) rfl (q_field_ptr rfl rfl fd26_2) ?_
        refine SOps.q rfl (.plain rfl) rfl (q_load_ptr rfl rfl rfl rfl ty3) ?_
        refine SOps.q rfl (.plain rfl) rfl (q_eql rfl rfl rfl) ?_
        refine SOps.q rfl (.plain rfl) rfl (q_move rfl rfl) ?_
        refine SOps.q rfl (.guard 5 10 true rfl rfl (gT g1)) rfl (q_field_ptr rfl rfl fd26_1) ?_
        refine SOps.q rfl (.guard 5 10 true rfl rfl (gT g1)) rfl (q_load_ptr rfl rfl rfl rfl ty3) ?_
        refine SOps.q rfl (.guard 5 10 true rfl rfl (gT g1)) rfl (q_field_ptr rfl rfl fd26_1) ?_
        refine SOps.q rfl (.guard 5 10 true rfl rfl (gT g1)) rfl (q_load_ptr rfl rfl rfl rfl ty3) ?_
        refine SOps.q rfl (.guard 5 10 true rfl rfl (gT g1)) rfl (q_eql rfl rfl rfl) ?_
        refine SOps.q rfl (.plain rfl) rfl (q_pick_t rfl rfl g1 rfl) ?_
        refine SOps.q rfl (.plain rfl) rfl (q_move rfl rfl) ?_
        refine SOps.q rfl (.guard 12 17 true rfl rfl (gT g2)) rfl (q_field_ptr rfl rfl fd26_4) ?_
        refine SOps.q rfl (.guard 12 17 true rfl rfl (gT g2)) rfl (q_load_ptr rfl rfl rfl rfl ty3) ?_
        refine SOps.q rfl (.guard 12 17 true rfl rfl (gT g2)) rfl (q_field_ptr rfl rfl fd26_4) ?_
        refine SOps.q rfl (.guard 12 17 true rfl rfl (gT g2)) rfl (q_load_ptr rfl rfl rfl rfl ty3) ?_
        refine SOps.q rfl (.guard 12 17 true rfl rfl (gT g2)) rfl (q_eql rfl rfl rfl) ?_
        refine SOps.q rfl (.plain rfl) rfl (q_pick_t rfl rfl g2 rfl) ?_
        refine SOps.q rfl (.plain rfl) rfl (q_move rfl rfl) ?_
        refine SOps.q rfl (.guard 19 24 true rfl rfl (gT g3)) rfl (q_field_ptr rfl rfl fd26_5) ?_
        refine SOps.q rfl (.guard 19 24 true rfl rfl (gT g3)) rfl (q_load_ptr rfl rfl rfl rfl ty9) ?_
        refine SOps.q rfl (.guard 19 24 true rfl rfl (gT g3)) rfl (q_field_ptr rfl rfl fd26_5) ?_
        refine SOps.q rfl (.guard 19 24 true rfl rfl (gT g3)) rfl (q_load_ptr rfl rfl rfl rfl ty9) ?_
        refine SOps.q rfl (.guard 19 24 true rfl rfl (gT g3)) rfl (q_eqlS rfl rfl rfl) ?_
        refine SOps.q rfl (.plain rfl) rfl (q_pick_t rfl rfl g3 rfl) ?_
        refine SOps.q rfl (.plain rfl) rfl (q_assign rfl rfl) ?_
        refine SOps.sub (st' := ⟨[(4, .c (.bool (sEq a0_a.Txn a1_b.Txn)))], []⟩) (sub_gen [] rfl rfl ⟨zc rfl rfl, trivial⟩ trivial) ?_
        refine SOps.nil ?_
        refine SCode.ret ?_
        obtain rfl := Option.some.inj h
        exact ⟨⟨[(4, .c (.bool (sEq a0_a.Txn a1_b.Txn)))], []⟩, _, sub_gen [] rfl rfl ⟨zc rfl rfl, trivial⟩ trivial, resA1 (v := .c (.bool (sEq a0_a.Txn a1_b.Txn))) rfl rfl, rfl⟩
      refine SCode.region (show SOps _ _ _ [0, 1, 2, 3, 4, 5, 6, 7, 8, 9, 10, 11, 12, 13, 14, 15, 16, 17, 18, 19, 20, 21, 22, 23, 24, 25, 26] _ _ from ?_)
      refine SOps.q rfl (.plain rfl) rfl (q_field_ptr rfl rfl fd26_2) ?_
      refine SOps.q rfl (.plain rfl) rfl (q_load_ptr rfl rfl rfl rfl ty3) ?_
      refine SOps.q rfl (.plain rfl) rfl (q_field_ptr rfl rfl fd26_2) ?_
      refine SOps.q rfl (.plain rfl) rfl (q_load_ptr rfl rfl rfl rfl ty3) ?_
      refine SOps.q rfl (.plain rfl) rfl (q_eql rfl rfl rfl) ?_
      refine SOps.q rfl (.plain rfl) rfl (q_move rfl rfl) ?_
      refine SOps.q rfl (.guard 5 10 true rfl rfl (gT g1)) rfl (q_field_ptr rfl rfl fd26_1) ?_
      refine SOps.q rfl (.guard 5 10 true rfl rfl (gT g1)) rfl (q_load_ptr rfl rfl rfl rfl ty3) ?_
      refine SOps.q rfl (.guard 5 10 true rfl rfl (gT g1)) rfl (q_field_ptr rfl rfl fd26_1) ?_
      refine SOps.q rfl (.guard 5 10 true rfl rfl (gT g1)) rfl (q_load_ptr rfl rfl rfl rfl ty3) ?_
      refine SOps.q rfl (.guard 5 10 true rfl rfl (gT g1)) rfl (q_eql rfl rfl rfl) ?_
      refine SOps.q rfl (.plain rfl) rfl (q_pick_t rfl rfl g1 rfl) ?_
      refine SOps.q rfl (.plain rfl) rfl (q_move rfl rfl) ?_
      refine SOps.q rfl (.guard 12 17 true rfl rfl (gT g2)) rfl (q_field_ptr rfl rfl fd26_4) ?_
      refine SOps.q rfl (.guard 12 17 true rfl rfl (gT g2)) rfl (q_load_ptr rfl rfl rfl rfl ty3) ?_
      refine SOps.q rfl (.guard 12 17 true rfl rfl (gT g2)) rfl (q_field_ptr rfl rfl fd26_4) ?_
      refine SOps.q rfl (.guard 12 17 true rfl rfl (gT g2)) rfl (q_load_ptr rfl rfl rfl rfl ty3) ?_
      refine SOps.q rfl (.guard 12 17 true rfl rfl (gT g2)) rfl (q_eql rfl rfl rfl) ?_
      refine SOps.q rfl (.plain rfl) rfl (q_pick_t rfl rfl g2 rfl) ?_
      refine SOps.q rfl (.plain rfl) rfl (q_move rfl rfl) ?_
      refine SOps.skip rfl 19 24 true rfl rfl (.inl (gF g3)) rfl ?_
      refine SOps.skip rfl 19 24 true rfl rfl (.inl (gF g3)) rfl ?_
      refine SOps.skip rfl 19 24 true rfl rfl (.inl (gF g3)) rfl ?_
      refine SOps.skip rfl 19 24 true rfl rfl (.inl (gF g3)) rfl ?_
      refine SOps.skip rfl 19 24 true rfl rfl (.inl (gF g3)) rfl ?_
      refine SOps.q rfl (.plain rfl) rfl (q_pick_f rfl rfl g3 rfl) ?_
      refine SOps.q rfl (.plain rfl) rfl (q_assign rfl rfl) ?_
      refine SOps.sub (st' := ⟨[(4, .c (.bool false))], []⟩) (sub_gen [] rfl rfl ⟨zc rfl rfl, trivial⟩ trivial) ?_
      refine SOps.nil ?_
      refine SCode.ret ?_
      obtain rfl := Option.some.inj h
      exact ⟨⟨[(4, .c (.bool false))], []⟩, _, sub_gen [] rfl rfl ⟨zc rfl rfl, trivial⟩ trivial, resA1 (v := .c (.bool false)) rfl rfl, rfl⟩
    refine SCode.region (show SOps _ _ _ [0, 1, 2, 3, 4, 5, 6, 7, 8, 9, 10, 11, 12, 13, 14, 15, 16, 17, 18, 19, 20, 21, 22, 23, 24, 25, 26] _ _ from ?_)
    refine SOps.q rfl (.plain rfl) rfl (q_field_ptr rfl rfl fd26_2) ?_
    refine SOps.q rfl (.plain rfl) rfl (q_load_ptr rfl rfl rfl rfl ty3) ?_
    refine SOps.q rfl (.plain rfl) rfl (q_field_ptr rfl rfl fd26_2) ?_
    refine SOps.q rfl (.plain rfl) rfl (q_load_ptr rfl rfl rfl rfl ty3) ?_
    refine SOps.q rfl (.plain rfl) rfl (q_eql rfl rfl rfl) ?_
    refine SOps.q rfl (.plain rfl) rfl (q_move rfl rfl) ?_
    refine SOps.q rfl (.guard 5 10 true rfl rfl (gT g1)) rfl (q_field_ptr rfl rfl fd26_1) ?_
    refine SOps.q rfl (.guard 5 10 true rfl rfl (gT g1)) rfl (q_load_ptr rfl rfl rfl rfl ty3) ?_
    refine SOps.q rfl (.guard 5 10 true rfl rfl (gT g1)) rfl (q_field_ptr rfl rfl fd26_1) ?_
    refine SOps.q rfl (.guard 5 10 true rfl rfl (gT g1)) rfl (q_load_ptr rfl rfl rfl rfl ty3) ?_
    refine SOps.q rfl (.guard 5 10 true rfl rfl (gT g1)) rfl (q_eql rfl rfl rfl) ?_
    refine SOps.q rfl (.plain rfl) rfl (q_pick_t rfl rfl g1 rfl) ?_
    refine SOps.q rfl (.plain rfl) rfl (q_move rfl rfl) ?_
    refine SOps.skip rfl 12 17 true rfl rfl (.inl (gF g2)) rfl ?_
    refine SOps.skip rfl 12 17 true rfl rfl (.inl (gF g2)) rfl ?_
    refine SOps.skip rfl 12 17 true rfl rfl (.inl (gF g2)) rfl ?_
    refine SOps.skip rfl 12 17 true rfl rfl (.inl (gF g2)) rfl ?_
    refine SOps.skip rfl 12 17 true rfl rfl (.inl (gF g2)) rfl ?_
    refine SOps.q rfl (.plain rfl) rfl (q_pick_f rfl rfl g2 rfl) ?_
    refine SOps.q rfl (.plain rfl) rfl (q_move rfl rfl) ?_
    refine SOps.skip rfl 19 24 true rfl rfl (.inl rfl) rfl ?_
    refine SOps.skip rfl 19 24 true rfl rfl (.inl rfl) rfl ?_
    refine SOps.skip rfl 19 24 true rfl rfl (.inl rfl) rfl ?_
    refine SOps.skip rfl 19 24 true rfl rfl (.inl rfl) rfl ?_
    refine SOps.skip rfl 19 24 true rfl rfl (.inl rfl) rfl ?_
    refine SOps.q rfl (.plain rfl) rfl (q_pick_f rfl rfl rfl rfl) ?_
    refine SOps.q rfl (.plain rfl) rfl (q_assign rfl rfl) ?_
    refine SOps.sub (st' := ⟨[(4, .c (.bool false))], []⟩) (sub_gen [] rfl rfl ⟨zc rfl rfl, trivial⟩ trivial) ?_
    refine SOps.nil ?_
    refine SCode.ret ?_
    obtain rfl := Option.some.inj h
    exact ⟨⟨[(4, .c (.bool false))], []⟩, _, sub_gen [] rfl rfl ⟨zc rfl rfl, trivial⟩ trivial, resA1 (v := .c (.bool false)) rfl rfl, rfl⟩
  refine SCode.region (show SOps _ _ _ [0, 1, 2, 3, 4, 5, 6, 7, 8, 9, 10, 11, 12, 13, 14, 15, 16, 17, 18, 19, 20, 21, 22, 23, 24, 25, 26] _ _ from ?_)
  refine SOps.q rfl (.plain rfl) rfl (q_field_ptr rfl rfl fd26_2) ?_
  refine SOps.q rfl (.plain rfl) rfl (q_load_ptr rfl rfl rfl rfl ty3) ?_
  refine SOps.q rfl (.plain rfl) rfl (q_field_ptr rfl rfl fd26_2) ?_
  refine SOps.q rfl (.plain rfl) rfl (q_load_ptr rfl rfl rfl rfl ty3) ?_
  refine SOps.q rfl (.plain rfl) rfl (q_eql rfl rfl rfl) ?_
  refine SOps.q rfl (.plain rfl) rfl (q_move rfl rfl) ?_
  refine SOps.skip rfl 5 10 true rfl rfl (.inl (gF g1)) rfl ?_
  refine SOps.skip rfl 5 10 true rfl rfl (.inl (gF g1)) rfl ?_
  refine SOps.skip rfl 5 10 true rfl rfl (.inl (gF g1)) rfl ?_
  refine SOps.skip rfl 5 10 true rfl rfl (.inl (gF g1)) rfl ?_
  refine SOps.skip rfl 5 10 true rfl rfl (.inl (gF g1)) rfl ?_
  refine SOps.q rfl (.plain rfl) rfl (q_pick_f rfl rfl g1 rfl) ?_
  refine SOps.q rfl (.plain rfl) rfl (q_move rfl rfl) ?_
  refine SOps.skip rfl 12 17 true rfl rfl (.inl rfl) rfl ?_
  refine SOps.skip rfl 12 17 true rfl rfl (.inl rfl) rfl ?_
  refine SOps.skip rfl 12 17 true rfl rfl (.inl rfl) rfl ?_
  refine SOps.skip rfl 12 17 true rfl rfl (.inl rfl) rfl ?_
  refine SOps.skip rfl 12 17 true rfl rfl (.inl rfl) rfl ?_
  refine SOps.q rfl (.plain rfl) rfl (q_pick_f rfl rfl rfl rfl) ?_
  refine SOps.q rfl (.plain rfl) rfl (q_move rfl rfl) ?_
  refine SOps.skip rfl 19 24 true rfl rfl (.inl rfl) rfl ?_
  refine SOps.skip rfl 19 24 true rfl rfl (.inl rfl) rfl ?_
  refine SOps.skip rfl 19 24 true rfl rfl (.inl rfl) rfl ?_
  refine SOps.skip rfl 19 24 true rfl rfl (.inl rfl) rfl ?_
  refine SOps.skip rfl 19 24 true rfl rfl (.inl rfl) rfl ?_
  refine SOps.q rfl (.plain rfl) rfl (q_pick_f rfl rfl rfl rfl) ?_
  refine SOps.q rfl (.plain rfl) rfl (q_assign rfl rfl) ?_
  refine SOps.sub (st' := ⟨[(4, .c (.bool false))], []⟩) (sub_gen [] rfl rfl ⟨zc rfl rfl, trivial⟩ trivial) ?_
  refine SOps.nil ?_
  refine SCode.ret ?_
  obtain rfl := Option.some.inj h
  exact ⟨⟨[(4, .c (.bool false))], []⟩, _, sub_gen [] rfl rfl ⟨zc rfl rfl, trivial⟩ trivial, resA1 (v := .c (.bool false)) rfl rfl, rfl⟩
end Go.Proofs.Ytldekibkmombdaa.W
