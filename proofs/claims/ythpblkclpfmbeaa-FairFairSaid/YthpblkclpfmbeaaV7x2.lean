/- Written by a program of ours (wip/eng/gen.py): the functions compute their models. -/
import Derived.Test.YthpblkclpfmbeaaFacts
import Derived.Test.YthpblkclpfmbeaaV7x1
namespace Go.Proofs.Ythpblkclpfmbeaa.W
open Go Go.Proofs Go.Proofs.Ythpblkclpfmbeaa.E Go.Proofs.Ythpblkclpfmbeaa.M
set_option linter.unusedVariables false
set_option maxRecDepth 100000 in
set_option maxHeartbeats 8000000 in
theorem chargenetlaw10_sum_1_ok (F : Nat) (a0_l : List Int) (a1f0 : Int) (r : Bool) (h : chargenetlaw10_sum_1 F a0_l a1f0 = some r) :
    SFun Try.prog 34 [] [.c (vI a0_l), .c (.eptr 1 ((cInt .i64) a1f0) 0)] (fun x _ => x = .c (.bool r)) := by
  refine SFun.of (n := 20) Try.func34 rfl rfl rfl ?_
  unfold chargenetlaw10_sum_1 at h
  show SCode _ _ _ ⟨[(0, .c (vI a0_l)), (1, .c (.eptr 1 ((cInt .i64) a1f0) 0))], []⟩ _
  refine SCode.seq ?_
  refine SCode.region (show SOps _ _ _ [0] _ _ from ?_)
  refine SOps.q rfl (.plain rfl) rfl (q_assign rfl rfl) ?_
  refine SOps.sub (st' := ⟨[(0, .c (vI a0_l)), (1, .c (.eptr 1 ((cInt .i64) a1f0) 0))], []⟩) (sub_gen [] rfl rfl ⟨zc rfl rfl, zc rfl rfl, trivial⟩ trivial) ?_
  refine SOps.nil ?_
  refine SCode.seq ?_
  refine SCode.region (show SOps _ _ _ [0] _ _ from ?_)
  refine SOps.q rfl (.plain rfl) rfl (q_assign rfl rfl) ?_
  refine SOps.sub (st' := ⟨[(0, .c (vI a0_l)), (1, .c (.eptr 1 ((cInt .i64) a1f0) 0)), (4, .c (.int .i64 0))], []⟩) (sub_gen [] rfl rfl ⟨zc rfl rfl, zc rfl rfl, zc rfl rfl, trivial⟩ trivial) ?_
  refine SOps.nil ?_
  refine SCode.join (σ := Int) (S := fun s => ⟨[(1, .c (.eptr 1 ((cInt .i64) a1f0) 0)), (4, .c (.int .i64 s))], []⟩) (g := fun s => chargenetlaw10_sum_1_p2 a1f0 s = some r) ?_ ?_
  rotate_left
  · refine SCode.seq ?_
    refine SCode.region (show SOps _ _ _ [0, 1, 2] _ _ from ?_)
    refine SOps.q rfl (.plain rfl) rfl (q_move rfl rfl) ?_
    refine SOps.q rfl (.plain rfl) rfl (q_len_vec rfl rfl sl22) ?_
    refine SOps.q rfl (.plain rfl) rfl (q_move rfl rfl) ?_
    refine SOps.sub (st' := ⟨[(1, .c (.eptr 1 ((cInt .i64) a1f0) 0)), (4, .c (.int .i64 0)), (7, .c (vI a0_l)), (8, .c (.int .i64 (((a0_l).length : Int)))), (9, .c (.int .i64 0))], []⟩) (sub_gen [] rfl rfl ⟨zc rfl rfl, zc rfl rfl, zc rfl rfl, zc rfl rfl, zc rfl rfl, trivial⟩ trivial) ?_
    refine SOps.nil ?_
    refine SCode.block ?_
    refine SCode.sub (st' := ⟨[(1, .c (.eptr 1 ((cInt .i64) a1f0) 0)), (4, .c (.int .i64 0)), (7, .c (vI a0_l)), (8, .c (.int .i64 (((a0_l).length : Int)))), (9, .c (.int .i64 0))], []⟩) (sub_gen [] rfl rfl ⟨zc rfl rfl, zc rfl rfl, zc rfl rfl, zc rfl rfl, zc rfl rfl, trivial⟩ trivial) ?_
    refine (SCode.loop (σ := Nat × (Int × Int)) (S := fun s => ⟨[(1, .c (.eptr 1 ((cInt .i64) a1f0) 0)), (4, .c (.int .i64 s.2.1)), (7, .c (vI a0_l)), (8, .c (.int .i64 (((a0_l).length : Int)))), (9, .c (.int .i64 s.2.2))], []⟩) (g := fun s => chargenetlaw10_sum_1_l9 a0_l a1f0 s.1 s.2.1 s.2.2 = some r) (μ := fun s => s.1) (F, (0, 0)) h ?_)
    rintro ⟨n_9, ⟨n_5, t9_6⟩⟩ h
    replace h : chargenetlaw10_sum_1_l9 a0_l a1f0 n_9 n_5 t9_6 = some r := h
    show SCode _ _ _ ⟨[(1, .c (.eptr 1 ((cInt .i64) a1f0) 0)), (4, .c (.int .i64 n_5)), (7, .c (vI a0_l)), (8, .c (.int .i64 (((a0_l).length : Int)))), (9, .c (.int .i64 t9_6))], []⟩ _
    cases n_9 with
    | zero => cases h
    | succ n_9 =>
      replace h : chargenetlaw10_sum_1_b9 a0_l a1f0 (fun n_5 t9_6 => chargenetlaw10_sum_1_l9 a0_l a1f0 n_9 n_5 t9_6) n_5 t9_6 = some r := h
      unfold chargenetlaw10_sum_1_b9 at h
      refine SCode.seq ?_
      refine SCode.region (show SOps _ _ _ [0] _ _ from ?_)
      refine SOps.q rfl (.plain rfl) rfl (q_lss rfl rfl rfl) ?_
      refine SOps.sub (st' := ⟨[(1, .c (.eptr 1 ((cInt .i64) a1f0) 0)), (4, .c (.int .i64 n_5)), (7, .c (vI a0_l)), (8, .c (.int .i64 (((a0_l).length : Int)))), (9, .c (.int .i64 t9_6)), (10, .c (.bool (decide (t9_6 < ((a0_l).length : Int)))))], []⟩) (sub_gen [] rfl rfl ⟨zc rfl rfl, zc rfl rfl, zc rfl rfl, zc rfl rfl, zc rfl rfl, zc rfl rfl, trivial⟩ trivial) ?_
      refine SOps.nil ?_
      refine SCode.seq ?_
      rcases cond_out h with ⟨g10, h⟩ | ⟨g10, h⟩
      · refine SCode.cond_t rfl g10 ?_
        refine SCode.skip ?_
        refine SCode.seq ?_
        refine SCode.block ?_
        refine SCode.seq ?_
        obtain ⟨g11, h⟩ := guard_out h
        refine SCode.region (show SOps _ _ _ [0, 1, 2] _ _ from ?_)
        refine SOps.q rfl (.plain rfl) rfl (q_index_vec rfl rfl rfl sl22 rfl g11.1 g11.2) ?_
        refine SOps.q rfl (.plain rfl) rfl (q_load_eptr rfl rfl ty3) ?_
        refine SOps.q rfl (.plain rfl) rfl (q_assign rfl rfl) ?_
        refine SOps.sub (st' := ⟨[(1, .c (.eptr 1 ((cInt .i64) a1f0) 0)), (4, .c (.int .i64 n_5)), (6, .c (.int .i64 (a0_l.getD t9_6.toNat 0))), (7, .c (vI a0_l)), (8, .c (.int .i64 (((a0_l).length : Int)))), (9, .c (.int .i64 t9_6))], []⟩) (sub_gen [] rfl rfl ⟨zc rfl rfl, zc rfl rfl, zc rfl rfl, zc rfl rfl, zc rfl rfl, zc rfl rfl, trivial⟩ trivial) ?_
        refine SOps.nil ?_
        refine SCode.region (show SOps _ _ _ [0, 1, 2, 3] _ _ from ?_)
        refine SOps.q rfl (.plain rfl) rfl (q_move rfl rfl) ?_
        refine SOps.q rfl (.plain rfl) rfl (q_move rfl rfl) ?_
        refine SOps.q rfl (.plain rfl) rfl (q_add rfl rfl rfl) ?_
        refine SOps.q rfl (.plain rfl) rfl (q_assign rfl rfl) ?_
        refine SOps.sub (st' := ⟨[(1, .c (.eptr 1 ((cInt .i64) a1f0) 0)), (4, .c (.int .i64 (IntKind.wrap .i64 (n_5 + a0_l.getD t9_6.toNat 0)))), (7, .c (vI a0_l)), (8, .c (.int .i64 (((a0_l).length : Int)))), (9, .c (.int .i64 t9_6))], []⟩) (sub_gen [] rfl rfl ⟨zc rfl rfl, zc rfl rfl, zc rfl rfl, zc rfl rfl, zc rfl rfl, trivial⟩ trivial) ?_
        refine SOps.nil ?_
        refine SCode.region (show SOps _ _ _ [0, 1] _ _ from ?_)
        refine SOps.q rfl (.plain rfl) rfl (q_add rfl rfl rfl) ?_
        refine SOps.q rfl (.plain rfl) rfl (q_move rfl rfl) ?_
        refine SOps.sub (st' := ⟨[(1, .c (.eptr 1 ((cInt .i64) a1f0) 0)), (4, .c (.int .i64 (IntKind.wrap .i64 (n_5 + a0_l.getD t9_6.toNat 0)))), (7, .c (vI a0_l)), (8, .c (.int .i64 (((a0_l).length : Int)))), (9, .c (.int .i64 (IntKind.wrap .i64 (t9_6 + 1))))], []⟩) (sub_gen [] rfl rfl ⟨zc rfl rfl, zc rfl rfl, zc rfl rfl, zc rfl rfl, zc rfl rfl, trivial⟩ trivial) ?_
        refine SOps.nil ?_
        exact ⟨(n_9, (IntKind.wrap .i64 (n_5 + a0_l.getD t9_6.toNat 0), IntKind.wrap .i64 (t9_6 + 1))), h, Nat.lt_succ_self n_9, sub_gen [] rfl rfl ⟨zc rfl rfl, zc rfl rfl, zc rfl rfl, zc rfl rfl, zc rfl rfl, trivial⟩ trivial⟩
      refine SCode.cond_f rfl g10 ?_
      refine SCode.exit ?_
      exact ⟨n_5, h, sub_gen [] rfl rfl ⟨zc rfl rfl, zc rfl rfl, trivial⟩ trivial⟩
  rintro n_1 h
  show SCode _ _ _ ⟨[(1, .c (.eptr 1 ((cInt .i64) a1f0) 0)), (4, .c (.int .i64 n_1))], []⟩ _
  replace h : chargenetlaw10_sum_1_p2 a1f0 n_1 = some r := h
  unfold chargenetlaw10_sum_1_p2 at h
  refine SCode.seq ?_
  refine SCode.region (show SOps _ _ _ [0, 1, 2, 3] _ _ from ?_)
  refine SOps.q rfl (.plain rfl) rfl (q_move rfl rfl) ?_
  refine SOps.q rfl (.plain rfl) rfl (q_load_eptr rfl rfl ty3) ?_
  refine SOps.q rfl (.plain rfl) rfl (q_leq rfl rfl rfl) ?_
  refine SOps.q rfl (.plain rfl) rfl (q_assign rfl rfl) ?_
  refine SOps.sub (st' := ⟨[(3, .c (.bool (decide (n_1 ≤ a1f0))))], []⟩) (sub_gen [] rfl rfl ⟨zc rfl rfl, trivial⟩ trivial) ?_
  refine SOps.nil ?_
  refine SCode.ret ?_
  obtain rfl := Option.some.inj h
  exact ⟨⟨[(3, .c (.bool (decide (n_1 ≤ a1f0))))], []⟩, _, sub_gen [] rfl rfl ⟨zc rfl rfl, trivial⟩ trivial, resA1 (v := .c (.bool (decide (n_1 ≤ a1f0)))) rfl rfl, rfl⟩
set_option maxRecDepth 100000 in
set_option maxHeartbeats 8000000 in
theorem fair_division_raise_f0_p34_ok (F : Nat) (a0_v_caps : List Int) (a0f0 : Int) (a0_v_x : List Int) (a0_v_active : List Bool) (a0_v_trial : List Int) (a1_d : Int) (r : List Int) (h : fair_division_raise_f0_p34 F a0_v_caps a0f0 a0_v_x a0_v_active a0_v_trial a1_d = some r) :
    SFun Try.prog 40 [.box [vI a0_v_caps, .fn 34 1 (cellsG [.eptr 1 ((cInt .i64) a0f0) 0]), .own 1 a0_v_x.length, .own 2 a0_v_active.length, .own 3 a0_v_trial.length], aI 3 a0_v_x, aB 4 a0_v_active, aI 3 a0_v_trial] [.c (.ptr 0 0), .c (.int .i64 a1_d)] (fun x os => x = .t [] ∧ os = [.box [vI a0_v_caps, .fn 34 1 (cellsG [.eptr 1 ((cInt .i64) a0f0) 0]), .own 1 a0_v_x.length, .own 2 a0_v_active.length, .own 3 r.length], aI 3 a0_v_x, aB 4 a0_v_active, aI 3 r]) := by
  refine SFun.of (n := 43) Try.func40 rfl rfl rfl ?_
  unfold fair_division_raise_f0_p34 at h
  show SCode _ _ _ ⟨[(0, .c (.ptr 0 0)), (1, .c (.int .i64 a1_d))], [.box [vI a0_v_caps, .fn 34 1 (cellsG [.eptr 1 ((cInt .i64) a0f0) 0]), .own 1 a0_v_x.length, .own 2 a0_v_active.length, .own 3 a0_v_trial.length], aI 3 a0_v_x, aB 4 a0_v_active, aI 3 a0_v_trial]⟩ _
  refine SCode.seq ?_
  refine SCode.region (show SOps _ _ _ [0, 1, 2, 3, 4, 5] _ _ from ?_)
  refine SOps.q rfl (.plain rfl) rfl (q_move rfl rfl) ?_
  refine SOps.q rfl (.plain rfl) rfl (q_nilCheck rfl rfl rfl) ?_
  refine SOps.q rfl (.plain rfl) rfl (q_field_ptr rfl rfl fd54_2) ?_
  refine SOps.q rfl (.plain rfl) rfl (q_load_ptr rfl rfl rfl rfl ty22) ?_
  refine SOps.q rfl (.plain rfl) rfl (q_len_own rfl rfl sl22) ?_
  refine SOps.q rfl (.plain rfl) rfl (q_move rfl rfl) ?_
  refine SOps.sub (st' := ⟨[(0, .c (.ptr 0 0)), (1, .c (.int .i64 a1_d)), (9, .c (.own 1 a0_v_x.length)), (10, .c (.int .i64 (((a0_v_x).length : Int)))), (11, .c (.int .i64 0))], [.box [vI a0_v_caps, .fn 34 1 (cellsG [.eptr 1 ((cInt .i64) a0f0) 0]), .own 1 a0_v_x.length, .own 2 a0_v_active.length, .own 3 a0_v_trial.length], aI 3 a0_v_x, aB 4 a0_v_active, aI 3 a0_v_trial]⟩) (sub_gen [0, 1, 2, 3] rfl rfl ⟨zc rfl rfl, zc rfl rfl, zc rfl rfl, zc rfl rfl, zc rfl rfl, trivial⟩ ⟨⟨_, rfl, ⟨ii rfl rfl, ii rfl rfl, ii rfl rfl, ii rfl rfl, ii rfl rfl, trivial⟩⟩, oa rfl, oa rfl, oa rfl, trivial⟩) ?_
  refine SOps.nil ?_
  refine SCode.block ?_
  refine SCode.sub (st' := ⟨[(0, .c (.ptr 0 0)), (1, .c (.int .i64 a1_d)), (9, .c (.own 1 a0_v_x.length)), (10, .c (.int .i64 (((a0_v_x).length : Int)))), (11, .c (.int .i64 0))], [.box [vI a0_v_caps, .fn 34 1 (cellsG [.eptr 1 ((cInt .i64) a0f0) 0]), .own 1 a0_v_x.length, .own 2 a0_v_active.length, .own 3 a0_v_trial.length], aI 3 a0_v_x, aB 4 a0_v_active, aI 3 a0_v_trial]⟩) (sub_gen [0, 1, 2, 3] rfl rfl ⟨zc rfl rfl, zc rfl rfl, zc rfl rfl, zc rfl rfl, zc rfl rfl, trivial⟩ ⟨⟨_, rfl, ⟨ii rfl rfl, ii rfl rfl, ii rfl rfl, ii rfl rfl, ii rfl rfl, trivial⟩⟩, oa rfl, oa rfl, oa rfl, trivial⟩) ?_
  refine (SCode.loop (σ := Nat × (Int × (List Int))) (S := fun s => ⟨[(0, .c (.ptr 0 0)), (1, .c (.int .i64 a1_d)), (9, .c (.own 1 a0_v_x.length)), (10, .c (.int .i64 (((a0_v_x).length : Int)))), (11, .c (.int .i64 s.2.1))], [.box [vI a0_v_caps, .fn 34 1 (cellsG [.eptr 1 ((cInt .i64) a0f0) 0]), .own 1 a0_v_x.length, .own 2 a0_v_active.length, .own 3 s.2.2.length], aI 3 a0_v_x, aB 4 a0_v_active, aI 3 s.2.2]⟩) (g := fun s => fair_division_raise_f0_p34_l23 F a0_v_caps a0_v_x a0_v_active a1_d s.1 s.2.1 s.2.2 = some r) (μ := fun s => s.1) (F, (0, a0_v_trial)) h ?_)
  rintro ⟨n_23, ⟨t11_11, o3_12⟩⟩ h
  replace h : fair_division_raise_f0_p34_l23 F a0_v_caps a0_v_x a0_v_active a1_d n_23 t11_11 o3_12 = some r := h
  show SCode _ _ _ ⟨[(0, .c (.ptr 0 0)), (1, .c (.int .i64 a1_d)), (9, .c (.own 1 a0_v_x.length)), (10, .c (.int .i64 (((a0_v_x).length : Int)))), (11, .c (.int .i64 t11_11))], [.box [vI a0_v_caps, .fn 34 1 (cellsG [.eptr 1 ((cInt .i64) a0f0) 0]), .own 1 a0_v_x.length, .own 2 a0_v_active.length, .own 3 o3_12.length], aI 3 a0_v_x, aB 4 a0_v_active, aI 3 o3_12]⟩ _
  cases n_23 with
  | zero => cases h
  | succ n_23 =>
    replace h : fair_division_raise_f0_p34_b23 F a0_v_caps a0_v_x a0_v_active a1_d (fun t11_11 o3_12 => fair_division_raise_f0_p34_l23 F a0_v_caps a0_v_x a0_v_active a1_d n_23 t11_11 o3_12) t11_11 o3_12 = some r := h
    unfold fair_division_raise_f0_p34_b23 at h
    refine SCode.seq ?_
    refine SCode.region (show SOps _ _ _ [0] _ _ from ?_)
    refine SOps.q rfl (.plain rfl) rfl (q_lss rfl rfl rfl) ?_
    refine SOps.sub (st' := ⟨[(0, .c (.ptr 0 0)), (1, .c (.int .i64 a1_d)), (9, .c (.own 1 a0_v_x.length)), (10, .c (.int .i64 (((a0_v_x).length : Int)))), (11, .c (.int .i64 t11_11)), (12, .c (.bool (decide (t11_11 < ((a0_v_x).length : Int)))))], [.box [vI a0_v_caps, .fn 34 1 (cellsG [.eptr 1 ((cInt .i64) a0f0) 0]), .own 1 a0_v_x.length, .own 2 a0_v_active.length, .own 3 o3_12.length], aI 3 a0_v_x, aB 4 a0_v_active, aI 3 o3_12]⟩) (sub_gen [0, 1, 2, 3] rfl rfl ⟨zc rfl rfl, zc rfl rfl, zc rfl rfl, zc rfl rfl, zc rfl rfl, zc rfl rfl, trivial⟩ ⟨⟨_, rfl, ⟨ii rfl rfl, ii rfl rfl, ii rfl rfl, ii rfl rfl, ii rfl rfl, trivial⟩⟩, oa rfl, oa rfl, oa rfl, trivial⟩) ?_
    refine SOps.nil ?_
    refine SCode.seq ?_
    rcases cond_out h with ⟨g24, h⟩ | ⟨g24, h⟩
    · refine SCode.cond_t rfl g24 ?_
      refine SCode.skip ?_
      refine SCode.seq ?_
      refine SCode.block ?_
      refine SCode.seq ?_
      obtain ⟨g25, h⟩ := guard_out h
      refine SCode.region (show SOps _ _ _ [0, 1, 2, 3, 4] _ _ from ?_)
      refine SOps.q rfl (.plain rfl) rfl (q_move rfl rfl) ?_
      refine SOps.q rfl (.plain rfl) rfl (q_index_own rfl rfl rfl sl22 g25.1 g25.2) ?_
      refine SOps.q rfl (.plain rfl) rfl (q_load_aptr rfl rfl rfl (toNat_lt g25) rfl ty3) ?_
      refine SOps.q rfl (.plain rfl) rfl (q_assign rfl rfl) ?_
      refine SOps.q rfl (.plain rfl) rfl (q_assign rfl rfl) ?_
      refine SOps.sub (st' := ⟨[(0, .c (.ptr 0 0)), (1, .c (.int .i64 a1_d)), (4, .c (.int .i64 t11_11)), (5, .c (.int .i64 (a0_v_x.getD t11_11.toNat 0))), (9, .c (.own 1 a0_v_x.length)), (10, .c (.int .i64 (((a0_v_x).length : Int)))), (11, .c (.int .i64 t11_11))], [.box [vI a0_v_caps, .fn 34 1 (cellsG [.eptr 1 ((cInt .i64) a0f0) 0]), .own 1 a0_v_x.length, .own 2 a0_v_active.length, .own 3 o3_12.length], aI 3 a0_v_x, aB 4 a0_v_active, aI 3 o3_12]⟩) (sub_gen [0, 1, 2, 3] rfl rfl ⟨zc rfl rfl, zc rfl rfl, zc rfl rfl, zc rfl rfl, zc rfl rfl, zc rfl rfl, zc rfl rfl, trivial⟩ ⟨⟨_, rfl, ⟨ii rfl rfl, ii rfl rfl, ii rfl rfl, ii rfl rfl, ii rfl rfl, trivial⟩⟩, oa rfl, oa rfl, oa rfl, trivial⟩) ?_
      refine SOps.nil ?_
      refine SCode.join (σ := Int) (S := fun s => ⟨[(0, .c (.ptr 0 0)), (1, .c (.int .i64 a1_d)), (4, .c (.int .i64 t11_11)), (5, .c (.int .i64 s)), (9, .c (.own 1 a0_v_x.length)), (10, .c (.int .i64 (((a0_v_x).length : Int)))), (11, .c (.int .i64 t11_11))], [.box [vI a0_v_caps, .fn 34 1 (cellsG [.eptr 1 ((cInt .i64) a0f0) 0]), .own 1 a0_v_x.length, .own 2 a0_v_active.length, .own 3 o3_12.length], aI 3 a0_v_x, aB 4 a0_v_active, aI 3 o3_12]⟩) (g := fun s => fair_division_raise_f0_p34_p28 t11_11 o3_12 (fun t11_11 o3_12 => fair_division_raise_f0_p34_l23 F a0_v_caps a0_v_x a0_v_active a1_d n_23 t11_11 o3_12) s = some r) ?_ ?_
      rotate_left
      · refine SCode.seq ?_
        obtain ⟨g29, h⟩ := guard_out h
        refine SCode.region (show SOps _ _ _ [0, 1, 2, 3, 4, 5, 6] _ _ from ?_)
        refine SOps.q rfl (.plain rfl) rfl (q_move rfl rfl) ?_
        refine SOps.q rfl (.plain rfl) rfl (q_nilCheck rfl rfl rfl) ?_
        refine SOps.q rfl (.plain rfl) rfl (q_field_ptr rfl rfl fd54_3) ?_
        refine SOps.q rfl (.plain rfl) rfl (q_load_ptr rfl rfl rfl rfl ty52) ?_
        refine SOps.q rfl (.plain rfl) rfl (q_move rfl rfl) ?_
        refine SOps.q rfl (.plain rfl) rfl (q_index_own rfl rfl rfl sl52 g29.1 g29.2) ?_
        refine SOps.q rfl (.plain rfl) rfl (q_load_aptr rfl rfl rfl (toNat_lt g29) rfl ty4) ?_
        refine SOps.sub (st' := ⟨[(0, .c (.ptr 0 0)), (1, .c (.int .i64 a1_d)), (4, .c (.int .i64 t11_11)), (5, .c (.int .i64 (a0_v_x.getD t11_11.toNat 0))), (9, .c (.own 1 a0_v_x.length)), (10, .c (.int .i64 (((a0_v_x).length : Int)))), (11, .c (.int .i64 t11_11)), (22, .c (.bool (a0_v_active.getD t11_11.toNat false)))], [.box [vI a0_v_caps, .fn 34 1 (cellsG [.eptr 1 ((cInt .i64) a0f0) 0]), .own 1 a0_v_x.length, .own 2 a0_v_active.length, .own 3 o3_12.length], aI 3 a0_v_x, aB 4 a0_v_active, aI 3 o3_12]⟩) (sub_gen [0, 1, 2, 3] rfl rfl ⟨zc rfl rfl, zc rfl rfl, zc rfl rfl, zc rfl rfl, zc rfl rfl, zc rfl rfl, zc rfl rfl, zc rfl rfl, trivial⟩ ⟨⟨_, rfl, ⟨ii rfl rfl, ii rfl rfl, ii rfl rfl, ii rfl rfl, ii rfl rfl, trivial⟩⟩, oa rfl, oa rfl, oa rfl, trivial⟩) ?_
        refine SOps.nil ?_
        rcases cond_out h with ⟨g30, h⟩ | ⟨g30, h⟩
        · refine SCode.cond_t rfl g30 ?_
          obtain ⟨g31, h⟩ := guard_out h
          obtain ⟨c_32, g33, h⟩ := bind_out h
          try dsimp only at h
          refine SCode.region (show SOps _ _ _ [0, 1, 2, 3, 4, 5, 6, 7, 8, 9, 10, 11, 12] _ _ from ?_)
          refine SOps.q rfl (.plain rfl) rfl (q_move rfl rfl) ?_
          refine SOps.q rfl (.plain rfl) rfl (q_move rfl rfl) ?_
          refine SOps.q rfl (.plain rfl) rfl (q_add rfl rfl rfl) ?_
          refine SOps.q rfl (.plain rfl) rfl (q_move rfl rfl) ?_
          refine SOps.q rfl (.plain rfl) rfl (q_nilCheck rfl rfl rfl) ?_
          refine SOps.q rfl (.plain rfl) rfl (q_field_ptr rfl rfl fd54_0) ?_
          refine SOps.q rfl (.plain rfl) rfl (q_load_ptr rfl rfl rfl rfl ty22) ?_
          refine SOps.q rfl (.plain rfl) rfl (q_move rfl rfl) ?_
          refine SOps.q rfl (.plain rfl) rfl (q_index_vec rfl rfl rfl sl22 rfl g31.1 g31.2) ?_
          refine SOps.q rfl (.plain rfl) rfl (q_load_eptr rfl rfl ty3) ?_
          refine SOps.q rfl (.plain rfl) rfl (q_bsliceL (c := (cInt .i64)) (d0 := 0) [a0_v_caps.getD t11_11.toNat 0] rfl rfl sl22 z3 rfl rfl rfl rfl rfl rfl rfl) ?_
          refine SOps.q rfl (.plain rfl) rfl (q_call (fair_least_int_ok F (IntKind.wrap .i64 (a0_v_x.getD t11_11.toNat 0 + a1_d)) ([a0_v_caps.getD t11_11.toNat 0]) c_32 g33) [] rfl fn24 ⟨⟨_, rfl, .inl ⟨rfl, rfl⟩⟩, ⟨_, rfl, .inl ⟨rfl, rfl⟩⟩, trivial⟩ (.inl rfl)) ?_
          refine SOps.q rfl (.plain rfl) rfl (q_assign rfl rfl) ?_
          refine SOps.sub (st' := ⟨[(0, .c (.ptr 0 0)), (1, .c (.int .i64 a1_d)), (4, .c (.int .i64 t11_11)), (5, .c (.int .i64 c_32)), (9, .c (.own 1 a0_v_x.length)), (10, .c (.int .i64 (((a0_v_x).length : Int)))), (11, .c (.int .i64 t11_11))], [.box [vI a0_v_caps, .fn 34 1 (cellsG [.eptr 1 ((cInt .i64) a0f0) 0]), .own 1 a0_v_x.length, .own 2 a0_v_active.length, .own 3 o3_12.length], aI 3 a0_v_x, aB 4 a0_v_active, aI 3 o3_12]⟩) (sub_gen [0, 1, 2, 3] rfl rfl ⟨zc rfl rfl, zc rfl rfl, zc rfl rfl, zc rfl rfl, zc rfl rfl, zc rfl rfl, zc rfl rfl, trivial⟩ ⟨⟨_, rfl, ⟨ii rfl rfl, ii rfl rfl, ii rfl rfl, ii rfl rfl, ii rfl rfl, trivial⟩⟩, oa rfl, oa rfl, oa rfl, trivial⟩) ?_
          refine SOps.nil ?_
          exact ⟨c_32, h, sub_gen [0, 1, 2, 3] rfl rfl ⟨zc rfl rfl, zc rfl rfl, zc rfl rfl, zc rfl rfl, zc rfl rfl, zc rfl rfl, zc rfl rfl, trivial⟩ ⟨⟨_, rfl, ⟨ii rfl rfl, ii rfl rfl, ii rfl rfl, ii rfl rfl, ii rfl rfl, trivial⟩⟩, oa rfl, oa rfl, oa rfl, trivial⟩⟩
        refine SCode.cond_f rfl g30 ?_
        refine SCode.skip ?_
        exact ⟨a0_v_x.getD t11_11.toNat 0, h, sub_gen [0, 1, 2, 3] rfl rfl ⟨zc rfl rfl, zc rfl rfl, zc rfl rfl, zc rfl rfl, zc rfl rfl, zc rfl rfl, zc rfl rfl, trivial⟩ ⟨⟨_, rfl, ⟨ii rfl rfl, ii rfl rfl, ii rfl rfl, ii rfl rfl, ii rfl rfl, trivial⟩⟩, oa rfl, oa rfl, oa rfl, trivial⟩⟩
      rintro n_26 h
      show SCode _ _ _ ⟨[(0, .c (.ptr 0 0)), (1, .c (.int .i64 a1_d)), (4, .c (.int .i64 t11_11)), (5, .c (.int .i64 n_26)), (9, .c (.own 1 a0_v_x.length)), (10, .c (.int .i64 (((a0_v_x).length : Int)))), (11, .c (.int .i64 t11_11))], [.box [vI a0_v_caps, .fn 34 1 (cellsG [.eptr 1 ((cInt .i64) a0f0) 0]), .own 1 a0_v_x.length, .own 2 a0_v_active.length, .own 3 o3_12.length], aI 3 a0_v_x, aB 4 a0_v_active, aI 3 o3_12]⟩ _
      replace h : fair_division_raise_f0_p34_p28 t11_11 o3_12 (fun t11_11 o3_12 => fair_division_raise_f0_p34_l23 F a0_v_caps a0_v_x a0_v_active a1_d n_23 t11_11 o3_12) n_26 = some r := h
      unfold fair_division_raise_f0_p34_p28 at h
      obtain ⟨g27, h⟩ := guard_out h
      refine SCode.region (show SOps _ _ _ [0, 1, 2, 3, 4, 5, 6, 7] _ _ from ?_)
      refine SOps.q rfl (.plain rfl) rfl (q_move rfl rfl) ?_
      refine SOps.q rfl (.plain rfl) rfl (q_nilCheck rfl rfl rfl) ?_
      refine SOps.q rfl (.plain rfl) rfl (q_field_ptr rfl rfl fd54_4) ?_
      refine SOps.q rfl (.plain rfl) rfl (q_load_ptr rfl rfl rfl rfl ty22) ?_
      refine SOps.q rfl (.plain rfl) rfl (q_move rfl rfl) ?_
      refine SOps.q rfl (.plain rfl) rfl (q_move rfl rfl) ?_
      refine SOps.q rfl (.plain rfl) rfl (q_index_own rfl rfl rfl sl22 g27.1 g27.2) ?_
      refine SOps.e rfl (.plain rfl) (e_storeL n_26 rfl rfl rfl rfl rfl (toNat_lt g27) ty3 rfl rfl rfl rfl rfl rfl) ?_
      refine SOps.sub (st' := ⟨[(0, .c (.ptr 0 0)), (1, .c (.int .i64 a1_d)), (9, .c (.own 1 a0_v_x.length)), (10, .c (.int .i64 (((a0_v_x).length : Int)))), (11, .c (.int .i64 t11_11))], [.box [vI a0_v_caps, .fn 34 1 (cellsG [.eptr 1 ((cInt .i64) a0f0) 0]), .own 1 a0_v_x.length, .own 2 a0_v_active.length, .own 3 (o3_12.set t11_11.toNat n_26).length], aI 3 a0_v_x, aB 4 a0_v_active, aI 3 (o3_12.set t11_11.toNat n_26)]⟩) (sub_gen [0, 1, 2, 3] rfl rfl ⟨zc rfl rfl, zc rfl rfl, zc rfl rfl, zc rfl rfl, zc rfl rfl, trivial⟩ ⟨⟨_, rfl, ⟨ii rfl rfl, ii rfl rfl, ii rfl rfl, ii rfl rfl, .inl ⟨rfl, congrArg (Cell.own 3) (List.length_set : (o3_12.set t11_11.toNat n_26).length = o3_12.length).symm⟩, trivial⟩⟩, oa rfl, oa rfl, oa rfl, trivial⟩) ?_
      refine SOps.nil ?_
      refine SCode.region (show SOps _ _ _ [0, 1] _ _ from ?_)
      refine SOps.q rfl (.plain rfl) rfl (q_add rfl rfl rfl) ?_
      refine SOps.q rfl (.plain rfl) rfl (q_move rfl rfl) ?_
      refine SOps.sub (st' := ⟨[(0, .c (.ptr 0 0)), (1, .c (.int .i64 a1_d)), (9, .c (.own 1 a0_v_x.length)), (10, .c (.int .i64 (((a0_v_x).length : Int)))), (11, .c (.int .i64 (IntKind.wrap .i64 (t11_11 + 1))))], [.box [vI a0_v_caps, .fn 34 1 (cellsG [.eptr 1 ((cInt .i64) a0f0) 0]), .own 1 a0_v_x.length, .own 2 a0_v_active.length, .own 3 (o3_12.set t11_11.toNat n_26).length], aI 3 a0_v_x, aB 4 a0_v_active, aI 3 (o3_12.set t11_11.toNat n_26)]⟩) (sub_gen [0, 1, 2, 3] rfl rfl ⟨zc rfl rfl, zc rfl rfl, zc rfl rfl, zc rfl rfl, zc rfl rfl, trivial⟩ ⟨⟨_, rfl, ⟨ii rfl rfl, ii rfl rfl, ii rfl rfl, ii rfl rfl, ii rfl rfl, trivial⟩⟩, oa rfl, oa rfl, oa rfl, trivial⟩) ?_
      refine SOps.nil ?_
      exact ⟨(n_23, (IntKind.wrap .i64 (t11_11 + 1), o3_12.set t11_11.toNat n_26)), h, Nat.lt_succ_self n_23, sub_gen [0, 1, 2, 3] rfl rfl ⟨zc rfl rfl, zc rfl rfl, zc rfl rfl, zc rfl rfl, zc rfl rfl, trivial⟩ ⟨⟨_, rfl, ⟨ii rfl rfl, ii rfl rfl, ii rfl rfl, ii rfl rfl, ii rfl rfl, trivial⟩⟩, oa rfl, oa rfl, oa rfl, trivial⟩⟩
    refine SCode.cond_f rfl g24 ?_
    refine SCode.exit ?_
    obtain rfl := Option.some.inj h
    exact ⟨⟨[], [.box [vI a0_v_caps, .fn 34 1 (cellsG [.eptr 1 ((cInt .i64) a0f0) 0]), .own 1 a0_v_x.length, .own 2 a0_v_active.length, .own 3 o3_12.length], aI 3 a0_v_x, aB 4 a0_v_active, aI 3 o3_12]⟩, _, sub_gen [0, 1, 2, 3] rfl rfl trivial ⟨⟨_, rfl, ⟨ii rfl rfl, ii rfl rfl, ii rfl rfl, ii rfl rfl, ii rfl rfl, trivial⟩⟩, oa rfl, oa rfl, oa rfl, trivial⟩, resA0 rfl, ⟨rfl, rfl⟩⟩
set_option maxRecDepth 100000 in
set_option maxHeartbeats 8000000 in
theorem fair_division_raisable_f0_p34_ok (F : Nat) (a0_v_caps : List Int) (a0f0 : Int) (a0_v_x : List Int) (a0_v_active : List Bool) (a0_v_trial : List Int) (a1_d : Int) (r : Bool × (List Int)) (h : fair_division_raisable_f0_p34 F a0_v_caps a0f0 a0_v_x a0_v_active a0_v_trial a1_d = some r) :
    SFun Try.prog 39 [.box [vI a0_v_caps, .fn 34 1 (cellsG [.eptr 1 ((cInt .i64) a0f0) 0]), .own 1 a0_v_x.length, .own 2 a0_v_active.length, .own 3 a0_v_trial.length], aI 3 a0_v_x, aB 4 a0_v_active, aI 3 a0_v_trial] [.c (.ptr 0 0), .c (.int .i64 a1_d)] (fun x os => x = .c (.bool r.1) ∧ os = [.box [vI a0_v_caps, .fn 34 1 (cellsG [.eptr 1 ((cInt .i64) a0f0) 0]), .own 1 a0_v_x.length, .own 2 a0_v_active.length, .own 3 r.2.length], aI 3 a0_v_x, aB 4 a0_v_active, aI 3 r.2]) := by
  refine SFun.of (n := 17) Try.func39 rfl rfl rfl ?_
  unfold fair_division_raisable_f0_p34 at h
  show SCode _ _ _ ⟨[(0, .c (.ptr 0 0)), (1, .c (.int .i64 a1_d))], [.box [vI a0_v_caps, .fn 34 1 (cellsG [.eptr 1 ((cInt .i64) a0f0) 0]), .own 1 a0_v_x.length, .own 2 a0_v_active.length, .own 3 a0_v_trial.length], aI 3 a0_v_x, aB 4 a0_v_active, aI 3 a0_v_trial]⟩ _
  refine SCode.seq ?_
  refine SCode.region (show SOps _ _ _ [0] _ _ from ?_)
  refine SOps.q rfl (.plain rfl) rfl (q_assign rfl rfl) ?_
  refine SOps.sub (st' := ⟨[(0, .c (.ptr 0 0)), (1, .c (.int .i64 a1_d))], [.box [vI a0_v_caps, .fn 34 1 (cellsG [.eptr 1 ((cInt .i64) a0f0) 0]), .own 1 a0_v_x.length, .own 2 a0_v_active.length, .own 3 a0_v_trial.length], aI 3 a0_v_x, aB 4 a0_v_active, aI 3 a0_v_trial]⟩) (sub_gen [0, 1, 2, 3] rfl rfl ⟨zc rfl rfl, zc rfl rfl, trivial⟩ ⟨⟨_, rfl, ⟨ii rfl rfl, ii rfl rfl, ii rfl rfl, ii rfl rfl, ii rfl rfl, trivial⟩⟩, oa rfl, oa rfl, oa rfl, trivial⟩) ?_
  refine SOps.nil ?_
  refine SCode.seq ?_
  obtain ⟨c_1, g2, h⟩ := bind_out h
  try dsimp only at h
  refine SCode.region (show SOps _ _ _ [0, 1, 2] _ _ from ?_)
  refine SOps.q rfl (.plain rfl) rfl (q_move rfl rfl) ?_
  refine SOps.q rfl (.plain rfl) rfl (q_move rfl rfl) ?_
  refine SOps.e rfl (.plain rfl) (e_call (fair_division_raise_f0_p34_ok F a0_v_caps a0f0 a0_v_x a0_v_active a0_v_trial a1_d c_1 g2) [0, 1, 2, 3] rfl fn40 rfl rfl rfl rfl rfl rfl rfl rfl) ?_
  refine SOps.sub (st' := ⟨[(0, .c (.ptr 0 0))], [.box [vI a0_v_caps, .fn 34 1 (cellsG [.eptr 1 ((cInt .i64) a0f0) 0]), .own 1 a0_v_x.length, .own 2 a0_v_active.length, .own 3 c_1.length], aI 3 a0_v_x, aB 4 a0_v_active, aI 3 c_1]⟩) (sub_gen [0, 1, 2, 3] rfl rfl ⟨zc rfl rfl, trivial⟩ ⟨⟨_, rfl, ⟨ii rfl rfl, ii rfl rfl, ii rfl rfl, ii rfl rfl, ii rfl rfl, trivial⟩⟩, oa rfl, oa rfl, oa rfl, trivial⟩) ?_
  refine SOps.nil ?_
  refine SCode.seq ?_
  obtain ⟨c_3, g4, h⟩ := bind_out h
  try dsimp only at h
  refine SCode.draw (s' := [(4, .c (.bool c_3)), (16, .c (.bool c_3)), (15, .c (.own 3 c_1.length)), (14, .c (.ptr 0 4)), (13, .c (.ptr 0 0)), (12, .c (.ptr 0 0)), (11, .c (.fn 34 1 (cellsG [.eptr 1 ((cInt .i64) a0f0) 0]))), (10, .c (.ptr 0 1)), (9, .c (.ptr 0 0)), (8, .c (.ptr 0 0)), (0, .c (.ptr 0 0))]) mixed [[], [0], [0, 1], [0, 1, 2], [], [4], [4, 5], [4, 5, 6], [0, 1, 2, 3, 4, 5, 6, 7], [0, 1, 2, 3, 4, 5, 6, 7, 8]] 10 0 rfl rfl ?_ ?_
  · refine QChain.run rfl (.plain rfl) rfl (q_move rfl rfl) ?_
    refine QChain.run rfl (.plain rfl) rfl (q_nilCheck rfl rfl rfl) ?_
    refine QChain.run rfl (.plain rfl) rfl (q_field_ptr rfl rfl fd54_1) ?_
    refine QChain.run rfl (.plain rfl) rfl (q_load_ptr rfl rfl rfl rfl ty35) ?_
    refine QChain.run rfl (.plain rfl) rfl (q_move rfl rfl) ?_
    refine QChain.run rfl (.plain rfl) rfl (q_nilCheck rfl rfl rfl) ?_
    refine QChain.run rfl (.plain rfl) rfl (q_field_ptr rfl rfl fd54_4) ?_
    refine QChain.run rfl (.plain rfl) rfl (q_load_ptr rfl rfl rfl rfl ty22) ?_
    refine QChain.run rfl (.plain rfl) rfl (q_callv (cs := [.eptr 1 ((cInt .i64) a0f0) 0]) (chargenetlaw10_sum_1_ok F c_1 a0f0 c_3 g4) [3] rfl rfl fn34 ⟨⟨_, rfl, .inr (.inl ⟨_, _, _, _, _, _, _, rfl, rfl, rfl, Nat.le_refl _, fun _ _ _ _ => rfl, (.head _)⟩)⟩, ⟨_, rfl, .inl ⟨rfl, rfl⟩⟩, trivial⟩ (.inr rfl)) ?_
    refine QChain.run rfl (.plain rfl) rfl (q_assign rfl rfl) ?_
    exact QChain.nil _ _
  refine (show SOps _ _ _ [] _ _ from ?_)
  refine SOps.sub (st' := ⟨[(4, .c (.bool c_3))], [.box [vI a0_v_caps, .fn 34 1 (cellsG [.eptr 1 ((cInt .i64) a0f0) 0]), .own 1 a0_v_x.length, .own 2 a0_v_active.length, .own 3 c_1.length], aI 3 a0_v_x, aB 4 a0_v_active, aI 3 c_1]⟩) (sub_gen [0, 1, 2, 3] rfl rfl ⟨zc rfl rfl, trivial⟩ ⟨⟨_, rfl, ⟨ii rfl rfl, ii rfl rfl, ii rfl rfl, ii rfl rfl, ii rfl rfl, trivial⟩⟩, oa rfl, oa rfl, oa rfl, trivial⟩) ?_
  refine SOps.nil ?_
  refine SCode.ret ?_
  obtain rfl := Option.some.inj h
  exact ⟨⟨[(4, .c (.bool c_3))], [.box [vI a0_v_caps, .fn 34 1 (cellsG [.eptr 1 ((cInt .i64) a0f0) 0]), .own 1 a0_v_x.length, .own 2 a0_v_active.length, .own 3 c_1.length], aI 3 a0_v_x, aB 4 a0_v_active, aI 3 c_1]⟩, _, sub_gen [0, 1, 2, 3] rfl rfl ⟨zc rfl rfl, trivial⟩ ⟨⟨_, rfl, ⟨ii rfl rfl, ii rfl rfl, ii rfl rfl, ii rfl rfl, ii rfl rfl, trivial⟩⟩, oa rfl, oa rfl, oa rfl, trivial⟩, resA1 (v := .c (.bool c_3)) rfl rfl, ⟨rfl, rfl⟩⟩
set_option maxRecDepth 100000 in
set_option maxHeartbeats 8000000 in
theorem fair_division_together_f0_p34_ok (F : Nat) (a0_v_caps : List Int) (a0f0 : Int) (a0_v_x : List Int) (a0_v_active : List Bool) (a0_v_trial : List Int) (r : (List Int) × (List Int)) (h : fair_division_together_f0_p34 F a0_v_caps a0f0 a0_v_x a0_v_active a0_v_trial = some r) :
    SFun Try.prog 32 [.box [vI a0_v_caps, .fn 34 1 (cellsG [.eptr 1 ((cInt .i64) a0f0) 0]), .own 1 a0_v_x.length, .own 2 a0_v_active.length, .own 3 a0_v_trial.length], aI 3 a0_v_x, aB 4 a0_v_active, aI 3 a0_v_trial] [.c (.ptr 0 0)] (fun x os => x = .t [] ∧ os = [.box [vI a0_v_caps, .fn 34 1 (cellsG [.eptr 1 ((cInt .i64) a0f0) 0]), .own 1 r.1.length, .own 2 a0_v_active.length, .own 3 r.2.length], aI 3 r.1, aB 4 a0_v_active, aI 3 r.2]) := by
  refine SFun.of (n := 74) Try.func32 rfl rfl rfl ?_
  unfold fair_division_together_f0_p34 at h
  show SCode _ _ _ ⟨[(0, .c (.ptr 0 0))], [.box [vI a0_v_caps, .fn 34 1 (cellsG [.eptr 1 ((cInt .i64) a0f0) 0]), .own 1 a0_v_x.length, .own 2 a0_v_active.length, .own 3 a0_v_trial.length], aI 3 a0_v_x, aB 4 a0_v_active, aI 3 a0_v_trial]⟩ _
  refine SCode.seq ?_
  refine SCode.region (show SOps _ _ _ [0] _ _ from ?_)
  refine SOps.q rfl (.plain rfl) rfl (q_assign rfl rfl) ?_
  refine SOps.sub (st' := ⟨[(0, .c (.ptr 0 0)), (2, .c (.int .i64 0))], [.box [vI a0_v_caps, .fn 34 1 (cellsG [.eptr 1 ((cInt .i64) a0f0) 0]), .own 1 a0_v_x.length, .own 2 a0_v_active.length, .own 3 a0_v_trial.length], aI 3 a0_v_x, aB 4 a0_v_active, aI 3 a0_v_trial]⟩) (sub_gen [0, 1, 2, 3] rfl rfl ⟨zc rfl rfl, zc rfl rfl, trivial⟩ ⟨⟨_, rfl, ⟨ii rfl rfl, ii rfl rfl, ii rfl rfl, ii rfl rfl, ii rfl rfl, trivial⟩⟩, oa rfl, oa rfl, oa rfl, trivial⟩) ?_
  refine SOps.nil ?_
  refine SCode.join (σ := Int) (S := fun s => ⟨[(0, .c (.ptr 0 0)), (2, .c (.int .i64 s))], [.box [vI a0_v_caps, .fn 34 1 (cellsG [.eptr 1 ((cInt .i64) a0f0) 0]), .own 1 a0_v_x.length, .own 2 a0_v_active.length, .own 3 a0_v_trial.length], aI 3 a0_v_x, aB 4 a0_v_active, aI 3 a0_v_trial]⟩) (g := fun s => fair_division_together_f0_p34_p32 F a0_v_caps a0f0 a0_v_x a0_v_active a0_v_trial s = some r) ?_ ?_
  rotate_left
  · refine SCode.seq ?_
    refine SCode.region (show SOps _ _ _ [0, 1, 2, 3, 4, 5] _ _ from ?_)
    refine SOps.q rfl (.plain rfl) rfl (q_move rfl rfl) ?_
    refine SOps.q rfl (.plain rfl) rfl (q_nilCheck rfl rfl rfl) ?_
    refine SOps.q rfl (.plain rfl) rfl (q_field_ptr rfl rfl fd54_2) ?_
    refine SOps.q rfl (.plain rfl) rfl (q_load_ptr rfl rfl rfl rfl ty22) ?_
    refine SOps.q rfl (.plain rfl) rfl (q_len_own rfl rfl sl22) ?_
    refine SOps.q rfl (.plain rfl) rfl (q_move rfl rfl) ?_
    refine SOps.sub (st' := ⟨[(0, .c (.ptr 0 0)), (2, .c (.int .i64 0)), (11, .c (.own 1 a0_v_x.length)), (12, .c (.int .i64 (((a0_v_x).length : Int)))), (13, .c (.int .i64 0))], [.box [vI a0_v_caps, .fn 34 1 (cellsG [.eptr 1 ((cInt .i64) a0f0) 0]), .own 1 a0_v_x.length, .own 2 a0_v_active.length, .own 3 a0_v_trial.length], aI 3 a0_v_x, aB 4 a0_v_active, aI 3 a0_v_trial]⟩) (sub_gen [0, 1, 2, 3] rfl rfl ⟨zc rfl rfl, zc rfl rfl, zc rfl rfl, zc rfl rfl, zc rfl rfl, trivial⟩ ⟨⟨_, rfl, ⟨ii rfl rfl, ii rfl rfl, ii rfl rfl, ii rfl rfl, ii rfl rfl, trivial⟩⟩, oa rfl, oa rfl, oa rfl, trivial⟩) ?_
    refine SOps.nil ?_
    refine SCode.block ?_
    refine SCode.sub (st' := ⟨[(0, .c (.ptr 0 0)), (2, .c (.int .i64 0)), (11, .c (.own 1 a0_v_x.length)), (12, .c (.int .i64 (((a0_v_x).length : Int)))), (13, .c (.int .i64 0))], [.box [vI a0_v_caps, .fn 34 1 (cellsG [.eptr 1 ((cInt .i64) a0f0) 0]), .own 1 a0_v_x.length, .own 2 a0_v_active.length, .own 3 a0_v_trial.length], aI 3 a0_v_x, aB 4 a0_v_active, aI 3 a0_v_trial]⟩) (sub_gen [0, 1, 2, 3] rfl rfl ⟨zc rfl rfl, zc rfl rfl, zc rfl rfl, zc rfl rfl, zc rfl rfl, trivial⟩ ⟨⟨_, rfl, ⟨ii rfl rfl, ii rfl rfl, ii rfl rfl, ii rfl rfl, ii rfl rfl, trivial⟩⟩, oa rfl, oa rfl, oa rfl, trivial⟩) ?_
    refine (SCode.loop (σ := Nat × (Int × Int)) (S := fun s => ⟨[(0, .c (.ptr 0 0)), (2, .c (.int .i64 s.2.1)), (11, .c (.own 1 a0_v_x.length)), (12, .c (.int .i64 (((a0_v_x).length : Int)))), (13, .c (.int .i64 s.2.2))], [.box [vI a0_v_caps, .fn 34 1 (cellsG [.eptr 1 ((cInt .i64) a0f0) 0]), .own 1 a0_v_x.length, .own 2 a0_v_active.length, .own 3 a0_v_trial.length], aI 3 a0_v_x, aB 4 a0_v_active, aI 3 a0_v_trial]⟩) (g := fun s => fair_division_together_f0_p34_l49 F a0_v_caps a0f0 a0_v_x a0_v_active a0_v_trial s.1 s.2.1 s.2.2 = some r) (μ := fun s => s.1) (F, (0, 0)) h ?_)
    rintro ⟨n_49, ⟨most_40, t13_41⟩⟩ h
    replace h : fair_division_together_f0_p34_l49 F a0_v_caps a0f0 a0_v_x a0_v_active a0_v_trial n_49 most_40 t13_41 = some r := h
    show SCode _ _ _ ⟨[(0, .c (.ptr 0 0)), (2, .c (.int .i64 most_40)), (11, .c (.own 1 a0_v_x.length)), (12, .c (.int .i64 (((a0_v_x).length : Int)))), (13, .c (.int .i64 t13_41))], [.box [vI a0_v_caps, .fn 34 1 (cellsG [.eptr 1 ((cInt .i64) a0f0) 0]), .own 1 a0_v_x.length, .own 2 a0_v_active.length, .own 3 a0_v_trial.length], aI 3 a0_v_x, aB 4 a0_v_active, aI 3 a0_v_trial]⟩ _
    cases n_49 with
    | zero => cases h
    | succ n_49 =>
      replace h : fair_division_together_f0_p34_b49 F a0_v_caps a0f0 a0_v_x a0_v_active a0_v_trial (fun most_40 t13_41 => fair_division_together_f0_p34_l49 F a0_v_caps a0f0 a0_v_x a0_v_active a0_v_trial n_49 most_40 t13_41) most_40 t13_41 = some r := h
      unfold fair_division_together_f0_p34_b49 at h
      refine SCode.seq ?_
      refine SCode.region (show SOps _ _ _ [0] _ _ from ?_)
      refine SOps.q rfl (.plain rfl) rfl (q_lss rfl rfl rfl) ?_
      refine SOps.sub (st' := ⟨[(0, .c (.ptr 0 0)), (2, .c (.int .i64 most_40)), (11, .c (.own 1 a0_v_x.length)), (12, .c (.int .i64 (((a0_v_x).length : Int)))), (13, .c (.int .i64 t13_41)), (14, .c (.bool (decide (t13_41 < ((a0_v_x).length : Int)))))], [.box [vI a0_v_caps, .fn 34 1 (cellsG [.eptr 1 ((cInt .i64) a0f0) 0]), .own 1 a0_v_x.length, .own 2 a0_v_active.length, .own 3 a0_v_trial.length], aI 3 a0_v_x, aB 4 a0_v_active, aI 3 a0_v_trial]⟩) (sub_gen [0, 1, 2, 3] rfl rfl ⟨zc rfl rfl, zc rfl rfl, zc rfl rfl, zc rfl rfl, zc rfl rfl, zc rfl rfl, trivial⟩ ⟨⟨_, rfl, ⟨ii rfl rfl, ii rfl rfl, ii rfl rfl, ii rfl rfl, ii rfl rfl, trivial⟩⟩, oa rfl, oa rfl, oa rfl, trivial⟩) ?_
      refine SOps.nil ?_
      refine SCode.seq ?_
      rcases cond_out h with ⟨g50, h⟩ | ⟨g50, h⟩
      · refine SCode.cond_t rfl g50 ?_
        refine SCode.skip ?_
        refine SCode.join (σ := Int) (S := fun s => ⟨[(0, .c (.ptr 0 0)), (2, .c (.int .i64 s)), (11, .c (.own 1 a0_v_x.length)), (12, .c (.int .i64 (((a0_v_x).length : Int)))), (13, .c (.int .i64 t13_41))], [.box [vI a0_v_caps, .fn 34 1 (cellsG [.eptr 1 ((cInt .i64) a0f0) 0]), .own 1 a0_v_x.length, .own 2 a0_v_active.length, .own 3 a0_v_trial.length], aI 3 a0_v_x, aB 4 a0_v_active, aI 3 a0_v_trial]⟩) (g := fun s => fair_division_together_f0_p34_p52 t13_41 (fun most_40 t13_41 => fair_division_together_f0_p34_l49 F a0_v_caps a0f0 a0_v_x a0_v_active a0_v_trial n_49 most_40 t13_41) s = some r) ?_ ?_
        rotate_left
        · refine SCode.block ?_
          refine SCode.seq ?_
          obtain ⟨g53, h⟩ := guard_out h
          refine SCode.region (show SOps _ _ _ [0, 1, 2, 3, 4] _ _ from ?_)
          refine SOps.q rfl (.plain rfl) rfl (q_move rfl rfl) ?_
          refine SOps.q rfl (.plain rfl) rfl (q_index_own rfl rfl rfl sl22 g53.1 g53.2) ?_
          refine SOps.q rfl (.plain rfl) rfl (q_load_aptr rfl rfl rfl (toNat_lt g53) rfl ty3) ?_
          refine SOps.q rfl (.plain rfl) rfl (q_assign rfl rfl) ?_
          refine SOps.q rfl (.plain rfl) rfl (q_assign rfl rfl) ?_
          refine SOps.sub (st' := ⟨[(0, .c (.ptr 0 0)), (2, .c (.int .i64 most_40)), (3, .c (.int .i64 t13_41)), (4, .c (.int .i64 (a0_v_x.getD t13_41.toNat 0))), (11, .c (.own 1 a0_v_x.length)), (12, .c (.int .i64 (((a0_v_x).length : Int)))), (13, .c (.int .i64 t13_41))], [.box [vI a0_v_caps, .fn 34 1 (cellsG [.eptr 1 ((cInt .i64) a0f0) 0]), .own 1 a0_v_x.length, .own 2 a0_v_active.length, .own 3 a0_v_trial.length], aI 3 a0_v_x, aB 4 a0_v_active, aI 3 a0_v_trial]⟩) (sub_gen [0, 1, 2, 3] rfl rfl ⟨zc rfl rfl, zc rfl rfl, zc rfl rfl, zc rfl rfl, zc rfl rfl, zc rfl rfl, zc rfl rfl, trivial⟩ ⟨⟨_, rfl, ⟨ii rfl rfl, ii rfl rfl, ii rfl rfl, ii rfl rfl, ii rfl rfl, trivial⟩⟩, oa rfl, oa rfl, oa rfl, trivial⟩) ?_
          refine SOps.nil ?_
          refine SCode.seq ?_
          obtain ⟨g54, h⟩ := guard_out h
          refine SCode.region (show SOps _ _ _ [0, 1, 2, 3, 4, 5, 6] _ _ from ?_)
          refine SOps.q rfl (.plain rfl) rfl (q_move rfl rfl) ?_
          refine SOps.q rfl (.plain rfl) rfl (q_nilCheck rfl rfl rfl) ?_
          refine SOps.q rfl (.plain rfl) rfl (q_field_ptr rfl rfl fd54_3) ?_
          refine SOps.q rfl (.plain rfl) rfl (q_load_ptr rfl rfl rfl rfl ty52) ?_
          refine SOps.q rfl (.plain rfl) rfl (q_move rfl rfl) ?_
          refine SOps.q rfl (.plain rfl) rfl (q_index_own rfl rfl rfl sl52 g54.1 g54.2) ?_
          refine SOps.q rfl (.plain rfl) rfl (q_load_aptr rfl rfl rfl (toNat_lt g54) rfl ty4) ?_
          refine SOps.sub (st' := ⟨[(0, .c (.ptr 0 0)), (2, .c (.int .i64 most_40)), (3, .c (.int .i64 t13_41)), (4, .c (.int .i64 (a0_v_x.getD t13_41.toNat 0))), (11, .c (.own 1 a0_v_x.length)), (12, .c (.int .i64 (((a0_v_x).length : Int)))), (13, .c (.int .i64 t13_41)), (24, .c (.bool (a0_v_active.getD t13_41.toNat false)))], [.box [vI a0_v_caps, .fn 34 1 (cellsG [.eptr 1 ((cInt .i64) a0f0) 0]), .own 1 a0_v_x.length, .own 2 a0_v_active.length, .own 3 a0_v_trial.length], aI 3 a0_v_x, aB 4 a0_v_active, aI 3 a0_v_trial]⟩) (sub_gen [0, 1, 2, 3] rfl rfl ⟨zc rfl rfl, zc rfl rfl, zc rfl rfl, zc rfl rfl, zc rfl rfl, zc rfl rfl, zc rfl rfl, zc rfl rfl, trivial⟩ ⟨⟨_, rfl, ⟨ii rfl rfl, ii rfl rfl, ii rfl rfl, ii rfl rfl, ii rfl rfl, trivial⟩⟩, oa rfl, oa rfl, oa rfl, trivial⟩) ?_
          refine SOps.nil ?_
          rcases cond_out h with ⟨g55, h⟩ | ⟨g55, h⟩
          · refine SCode.cond_t rfl g55 ?_
            obtain ⟨g56, h⟩ := guard_out h
            refine SCode.region (show SOps _ _ _ [0, 1, 2, 3, 4, 5, 6, 7, 8, 9, 10, 11] _ _ from ?_)
            refine SOps.q rfl (.plain rfl) rfl (q_move rfl rfl) ?_
            refine SOps.q rfl (.plain rfl) rfl (q_move rfl rfl) ?_
            refine SOps.q rfl (.plain rfl) rfl (q_nilCheck rfl rfl rfl) ?_
            refine SOps.q rfl (.plain rfl) rfl (q_field_ptr rfl rfl fd54_0) ?_
            refine SOps.q rfl (.plain rfl) rfl (q_load_ptr rfl rfl rfl rfl ty22) ?_
            refine SOps.q rfl (.plain rfl) rfl (q_move rfl rfl) ?_
            refine SOps.q rfl (.plain rfl) rfl (q_index_vec rfl rfl rfl sl22 rfl g56.1 g56.2) ?_
            refine SOps.q rfl (.plain rfl) rfl (q_load_eptr rfl rfl ty3) ?_
            refine SOps.q rfl (.plain rfl) rfl (q_move rfl rfl) ?_
            refine SOps.q rfl (.plain rfl) rfl (q_sub rfl rfl rfl) ?_
            refine SOps.q rfl (.plain rfl) rfl (q_max rfl rfl rfl) ?_
            refine SOps.q rfl (.plain rfl) rfl (q_assign rfl rfl) ?_
            refine SOps.sub (st' := ⟨[(0, .c (.ptr 0 0)), (2, .c (.int .i64 ((if most_40 < IntKind.wrap .i64 (a0_v_caps.getD t13_41.toNat 0 - a0_v_x.getD t13_41.toNat 0) then IntKind.wrap .i64 (a0_v_caps.getD t13_41.toNat 0 - a0_v_x.getD t13_41.toNat 0) else most_40)))), (11, .c (.own 1 a0_v_x.length)), (12, .c (.int .i64 (((a0_v_x).length : Int)))), (13, .c (.int .i64 t13_41))], [.box [vI a0_v_caps, .fn 34 1 (cellsG [.eptr 1 ((cInt .i64) a0f0) 0]), .own 1 a0_v_x.length, .own 2 a0_v_active.length, .own 3 a0_v_trial.length], aI 3 a0_v_x, aB 4 a0_v_active, aI 3 a0_v_trial]⟩) (sub_gen [0, 1, 2, 3] rfl rfl ⟨zc rfl rfl, zc rfl rfl, zc rfl rfl, zc rfl rfl, zc rfl rfl, trivial⟩ ⟨⟨_, rfl, ⟨ii rfl rfl, ii rfl rfl, ii rfl rfl, ii rfl rfl, ii rfl rfl, trivial⟩⟩, oa rfl, oa rfl, oa rfl, trivial⟩) ?_
            refine SOps.nil ?_
            exact ⟨(if most_40 < IntKind.wrap .i64 (a0_v_caps.getD t13_41.toNat 0 - a0_v_x.getD t13_41.toNat 0) then IntKind.wrap .i64 (a0_v_caps.getD t13_41.toNat 0 - a0_v_x.getD t13_41.toNat 0) else most_40), h, sub_gen [0, 1, 2, 3] rfl rfl ⟨zc rfl rfl, zc rfl rfl, zc rfl rfl, zc rfl rfl, zc rfl rfl, trivial⟩ ⟨⟨_, rfl, ⟨ii rfl rfl, ii rfl rfl, ii rfl rfl, ii rfl rfl, ii rfl rfl, trivial⟩⟩, oa rfl, oa rfl, oa rfl, trivial⟩⟩
          refine SCode.cond_f rfl g55 ?_
          refine SCode.skip ?_
          exact ⟨most_40, h, sub_gen [0, 1, 2, 3] rfl rfl ⟨zc rfl rfl, zc rfl rfl, zc rfl rfl, zc rfl rfl, zc rfl rfl, trivial⟩ ⟨⟨_, rfl, ⟨ii rfl rfl, ii rfl rfl, ii rfl rfl, ii rfl rfl, ii rfl rfl, trivial⟩⟩, oa rfl, oa rfl, oa rfl, trivial⟩⟩
        rintro most_51 h
        show SCode _ _ _ ⟨[(0, .c (.ptr 0 0)), (2, .c (.int .i64 most_51)), (11, .c (.own 1 a0_v_x.length)), (12, .c (.int .i64 (((a0_v_x).length : Int)))), (13, .c (.int .i64 t13_41))], [.box [vI a0_v_caps, .fn 34 1 (cellsG [.eptr 1 ((cInt .i64) a0f0) 0]), .own 1 a0_v_x.length, .own 2 a0_v_active.length, .own 3 a0_v_trial.length], aI 3 a0_v_x, aB 4 a0_v_active, aI 3 a0_v_trial]⟩ _
        replace h : fair_division_together_f0_p34_p52 t13_41 (fun most_40 t13_41 => fair_division_together_f0_p34_l49 F a0_v_caps a0f0 a0_v_x a0_v_active a0_v_trial n_49 most_40 t13_41) most_51 = some r := h
        unfold fair_division_together_f0_p34_p52 at h
        refine SCode.region (show SOps _ _ _ [0, 1] _ _ from ?_)
        refine SOps.q rfl (.plain rfl) rfl (q_add rfl rfl rfl) ?_
        refine SOps.q rfl (.plain rfl) rfl (q_move rfl rfl) ?_
        refine SOps.sub (st' := ⟨[(0, .c (.ptr 0 0)), (2, .c (.int .i64 most_51)), (11, .c (.own 1 a0_v_x.length)), (12, .c (.int .i64 (((a0_v_x).length : Int)))), (13, .c (.int .i64 (IntKind.wrap .i64 (t13_41 + 1))))], [.box [vI a0_v_caps, .fn 34 1 (cellsG [.eptr 1 ((cInt .i64) a0f0) 0]), .own 1 a0_v_x.length, .own 2 a0_v_active.length, .own 3 a0_v_trial.length], aI 3 a0_v_x, aB 4 a0_v_active, aI 3 a0_v_trial]⟩) (sub_gen [0, 1, 2, 3] rfl rfl ⟨zc rfl rfl, zc rfl rfl, zc rfl rfl, zc rfl rfl, zc rfl rfl, trivial⟩ ⟨⟨_, rfl, ⟨ii rfl rfl, ii rfl rfl, ii rfl rfl, ii rfl rfl, ii rfl rfl, trivial⟩⟩, oa rfl, oa rfl, oa rfl, trivial⟩) ?_
        refine SOps.nil ?_
        exact ⟨(n_49, (most_51, IntKind.wrap .i64 (t13_41 + 1))), h, Nat.lt_succ_self n_49, sub_gen [0, 1, 2, 3] rfl rfl ⟨zc rfl rfl, zc rfl rfl, zc rfl rfl, zc rfl rfl, zc rfl rfl, trivial⟩ ⟨⟨_, rfl, ⟨ii rfl rfl, ii rfl rfl, ii rfl rfl, ii rfl rfl, ii rfl rfl, trivial⟩⟩, oa rfl, oa rfl, oa rfl, trivial⟩⟩
      refine SCode.cond_f rfl g50 ?_
      refine SCode.exit ?_
      exact ⟨most_40, h, sub_gen [0, 1, 2, 3] rfl rfl ⟨zc rfl rfl, zc rfl rfl, trivial⟩ ⟨⟨_, rfl, ⟨ii rfl rfl, ii rfl rfl, ii rfl rfl, ii rfl rfl, ii rfl rfl, trivial⟩⟩, oa rfl, oa rfl, oa rfl, trivial⟩⟩
  rintro most_1 h
  show SCode _ _ _ ⟨[(0, .c (.ptr 0 0)), (2, .c (.int .i64 most_1))], [.box [vI a0_v_caps, .fn 34 1 (cellsG [.eptr 1 ((cInt .i64) a0f0) 0]), .own 1 a0_v_x.length, .own 2 a0_v_active.length, .own 3 a0_v_trial.length], aI 3 a0_v_x, aB 4 a0_v_active, aI 3 a0_v_trial]⟩ _
  replace h : fair_division_together_f0_p34_p32 F a0_v_caps a0f0 a0_v_x a0_v_active a0_v_trial most_1 = some r := h
  unfold fair_division_together_f0_p34_p32 at h
  refine SCode.seq ?_
  refine SCode.region (show SOps _ _ _ [0, 1] _ _ from ?_)
  refine SOps.q rfl (.plain rfl) rfl (q_move rfl rfl) ?_
  refine SOps.q rfl (.plain rfl) rfl (q_assign rfl rfl) ?_
  refine SOps.sub (st' := ⟨[(0, .c (.ptr 0 0)), (2, .c (.int .i64 most_1)), (5, .c (.int .i64 most_1))], [.box [vI a0_v_caps, .fn 34 1 (cellsG [.eptr 1 ((cInt .i64) a0f0) 0]), .own 1 a0_v_x.length, .own 2 a0_v_active.length, .own 3 a0_v_trial.length], aI 3 a0_v_x, aB 4 a0_v_active, aI 3 a0_v_trial]⟩) (sub_gen [0, 1, 2, 3] rfl rfl ⟨zc rfl rfl, zc rfl rfl, zc rfl rfl, trivial⟩ ⟨⟨_, rfl, ⟨ii rfl rfl, ii rfl rfl, ii rfl rfl, ii rfl rfl, ii rfl rfl, trivial⟩⟩, oa rfl, oa rfl, oa rfl, trivial⟩) ?_
  refine SOps.nil ?_
  refine SCode.join (σ := Int × (List Int)) (S := fun s => ⟨[(0, .c (.ptr 0 0)), (5, .c (.int .i64 s.1))], [.box [vI a0_v_caps, .fn 34 1 (cellsG [.eptr 1 ((cInt .i64) a0f0) 0]), .own 1 a0_v_x.length, .own 2 a0_v_active.length, .own 3 s.2.length], aI 3 a0_v_x, aB 4 a0_v_active, aI 3 s.2]⟩) (g := fun s => fair_division_together_f0_p34_p6 F a0_v_caps a0f0 a0_v_x a0_v_active s.1 s.2 = some r) ?_ ?_
  rotate_left
  · refine SCode.join (σ := Bool × (List Int)) (S := fun s => ⟨[(0, .c (.ptr 0 0)), (2, .c (.int .i64 most_1)), (5, .c (.int .i64 most_1)), (45, .c (.bool s.1))], [.box [vI a0_v_caps, .fn 34 1 (cellsG [.eptr 1 ((cInt .i64) a0f0) 0]), .own 1 a0_v_x.length, .own 2 a0_v_active.length, .own 3 s.2.length], aI 3 a0_v_x, aB 4 a0_v_active, aI 3 s.2]⟩) (g := fun s => fair_division_together_f0_p34_p28 F a0_v_caps a0f0 a0_v_x a0_v_active most_1 s.1 s.2 = some r) ?_ ?_
    rotate_left
    · rcases cond_out h with ⟨g29, h⟩ | ⟨g29, h⟩
      · obtain ⟨c_30, g31, h⟩ := bind_out h
        try dsimp only at h
        refine SCode.region (show SOps _ _ _ [0, 1, 2, 3, 4, 5, 6, 7] _ _ from ?_)
        refine SOps.q rfl (.plain rfl) rfl (q_move rfl rfl) ?_
        refine SOps.q rfl (.plain rfl) rfl (q_gtr rfl rfl rfl) ?_
        refine SOps.q rfl (.plain rfl) rfl (q_move rfl rfl) ?_
        refine SOps.q rfl (.guard 2 40 true rfl rfl (gT g29)) rfl (q_move rfl rfl) ?_
        refine SOps.q rfl (.guard 2 40 true rfl rfl (gT g29)) rfl (q_move rfl rfl) ?_
        refine SOps.e rfl (.guard 2 40 true rfl rfl (gT g29)) (e_call (fair_division_raisable_f0_p34_ok F a0_v_caps a0f0 a0_v_x a0_v_active a0_v_trial most_1 c_30 g31) [0, 1, 2, 3] rfl fn39 rfl rfl rfl rfl rfl rfl rfl rfl) ?_
        refine SOps.q rfl (.guard 2 40 true rfl rfl (gT g29)) rfl (q_not rfl rfl) ?_
        refine SOps.q rfl (.plain rfl) rfl (q_pick_t rfl rfl g29 rfl) ?_
        refine SOps.sub (st' := ⟨[(0, .c (.ptr 0 0)), (2, .c (.int .i64 most_1)), (5, .c (.int .i64 most_1)), (45, .c (.bool ((!c_30.1))))], [.box [vI a0_v_caps, .fn 34 1 (cellsG [.eptr 1 ((cInt .i64) a0f0) 0]), .own 1 a0_v_x.length, .own 2 a0_v_active.length, .own 3 c_30.2.length], aI 3 a0_v_x, aB 4 a0_v_active, aI 3 c_30.2]⟩) (sub_gen [0, 1, 2, 3] rfl rfl ⟨zc rfl rfl, zc rfl rfl, zc rfl rfl, zc rfl rfl, trivial⟩ ⟨⟨_, rfl, ⟨ii rfl rfl, ii rfl rfl, ii rfl rfl, ii rfl rfl, ii rfl rfl, trivial⟩⟩, oa rfl, oa rfl, oa rfl, trivial⟩) ?_
        refine SOps.nil ?_
        exact ⟨((!c_30.1), c_30.2), h, sub_gen [0, 1, 2, 3] rfl rfl ⟨zc rfl rfl, zc rfl rfl, zc rfl rfl, zc rfl rfl, trivial⟩ ⟨⟨_, rfl, ⟨ii rfl rfl, ii rfl rfl, ii rfl rfl, ii rfl rfl, ii rfl rfl, trivial⟩⟩, oa rfl, oa rfl, oa rfl, trivial⟩⟩
      refine SCode.region (show SOps _ _ _ [0, 1, 2, 3, 4, 5, 6, 7] _ _ from ?_)
      refine SOps.q rfl (.plain rfl) rfl (q_move rfl rfl) ?_
      refine SOps.q rfl (.plain rfl) rfl (q_gtr rfl rfl rfl) ?_
      refine SOps.q rfl (.plain rfl) rfl (q_move rfl rfl) ?_
      refine SOps.skip rfl 2 40 true rfl rfl (.inl (gF g29)) rfl ?_
      refine SOps.skip rfl 2 40 true rfl rfl (.inl (gF g29)) rfl ?_
      refine SOps.skip rfl 2 40 true rfl rfl (.inl (gF g29)) rfl ?_
      refine SOps.skip rfl 2 40 true rfl rfl (.inl (gF g29)) rfl ?_
      refine SOps.q rfl (.plain rfl) rfl (q_pick_f rfl rfl g29 rfl) ?_
      refine SOps.sub (st' := ⟨[(0, .c (.ptr 0 0)), (2, .c (.int .i64 most_1)), (5, .c (.int .i64 most_1)), (45, .c (.bool false))], [.box [vI a0_v_caps, .fn 34 1 (cellsG [.eptr 1 ((cInt .i64) a0f0) 0]), .own 1 a0_v_x.length, .own 2 a0_v_active.length, .own 3 a0_v_trial.length], aI 3 a0_v_x, aB 4 a0_v_active, aI 3 a0_v_trial]⟩) (sub_gen [0, 1, 2, 3] rfl rfl ⟨zc rfl rfl, zc rfl rfl, zc rfl rfl, zc rfl rfl, trivial⟩ ⟨⟨_, rfl, ⟨ii rfl rfl, ii rfl rfl, ii rfl rfl, ii rfl rfl, ii rfl rfl, trivial⟩⟩, oa rfl, oa rfl, oa rfl, trivial⟩) ?_
      refine SOps.nil ?_
      exact ⟨(false, a0_v_trial), h, sub_gen [0, 1, 2, 3] rfl rfl ⟨zc rfl rfl, zc rfl rfl, zc rfl rfl, zc rfl rfl, trivial⟩ ⟨⟨_, rfl, ⟨ii rfl rfl, ii rfl rfl, ii rfl rfl, ii rfl rfl, ii rfl rfl, trivial⟩⟩, oa rfl, oa rfl, oa rfl, trivial⟩⟩
    rintro ⟨t45_7, o3_8⟩ h
    show SCode _ _ _ ⟨[(0, .c (.ptr 0 0)), (2, .c (.int .i64 most_1)), (5, .c (.int .i64 most_1)), (45, .c (.bool t45_7))], [.box [vI a0_v_caps, .fn 34 1 (cellsG [.eptr 1 ((cInt .i64) a0f0) 0]), .own 1 a0_v_x.length, .own 2 a0_v_active.length, .own 3 o3_8.length], aI 3 a0_v_x, aB 4 a0_v_active, aI 3 o3_8]⟩ _
    replace h : fair_division_together_f0_p34_p28 F a0_v_caps a0f0 a0_v_x a0_v_active most_1 t45_7 o3_8 = some r := h
    unfold fair_division_together_f0_p34_p28 at h
    rcases cond_out h with ⟨g9, h⟩ | ⟨g9, h⟩
    · refine SCode.cond_t rfl g9 ?_
      refine SCode.seq ?_
      refine SCode.region (show SOps _ _ _ [0] _ _ from ?_)
      refine SOps.q rfl (.plain rfl) rfl (q_assign rfl rfl) ?_
      refine SOps.sub (st' := ⟨[(0, .c (.ptr 0 0)), (2, .c (.int .i64 most_1)), (5, .c (.int .i64 0))], [.box [vI a0_v_caps, .fn 34 1 (cellsG [.eptr 1 ((cInt .i64) a0f0) 0]), .own 1 a0_v_x.length, .own 2 a0_v_active.length, .own 3 o3_8.length], aI 3 a0_v_x, aB 4 a0_v_active, aI 3 o3_8]⟩) (sub_gen [0, 1, 2, 3] rfl rfl ⟨zc rfl rfl, zc rfl rfl, zc rfl rfl, trivial⟩ ⟨⟨_, rfl, ⟨ii rfl rfl, ii rfl rfl, ii rfl rfl, ii rfl rfl, ii rfl rfl, trivial⟩⟩, oa rfl, oa rfl, oa rfl, trivial⟩) ?_
      refine SOps.nil ?_
      refine SCode.seq ?_
      refine SCode.region (show SOps _ _ _ [0, 1] _ _ from ?_)
      refine SOps.q rfl (.plain rfl) rfl (q_move rfl rfl) ?_
      refine SOps.q rfl (.plain rfl) rfl (q_assign rfl rfl) ?_
      refine SOps.sub (st' := ⟨[(0, .c (.ptr 0 0)), (5, .c (.int .i64 0)), (6, .c (.int .i64 most_1))], [.box [vI a0_v_caps, .fn 34 1 (cellsG [.eptr 1 ((cInt .i64) a0f0) 0]), .own 1 a0_v_x.length, .own 2 a0_v_active.length, .own 3 o3_8.length], aI 3 a0_v_x, aB 4 a0_v_active, aI 3 o3_8]⟩) (sub_gen [0, 1, 2, 3] rfl rfl ⟨zc rfl rfl, zc rfl rfl, zc rfl rfl, trivial⟩ ⟨⟨_, rfl, ⟨ii rfl rfl, ii rfl rfl, ii rfl rfl, ii rfl rfl, ii rfl rfl, trivial⟩⟩, oa rfl, oa rfl, oa rfl, trivial⟩) ?_
      refine SOps.nil ?_
      refine SCode.block ?_
      refine SCode.sub (st' := ⟨[(0, .c (.ptr 0 0)), (5, .c (.int .i64 0)), (6, .c (.int .i64 most_1))], [.box [vI a0_v_caps, .fn 34 1 (cellsG [.eptr 1 ((cInt .i64) a0f0) 0]), .own 1 a0_v_x.length, .own 2 a0_v_active.length, .own 3 o3_8.length], aI 3 a0_v_x, aB 4 a0_v_active, aI 3 o3_8]⟩) (sub_gen [0, 1, 2, 3] rfl rfl ⟨zc rfl rfl, zc rfl rfl, zc rfl rfl, trivial⟩ ⟨⟨_, rfl, ⟨ii rfl rfl, ii rfl rfl, ii rfl rfl, ii rfl rfl, ii rfl rfl, trivial⟩⟩, oa rfl, oa rfl, oa rfl, trivial⟩) ?_
      refine (SCode.loop (σ := Nat × (Int × Int × (List Int))) (S := fun s => ⟨[(0, .c (.ptr 0 0)), (5, .c (.int .i64 s.2.1)), (6, .c (.int .i64 s.2.2.1))], [.box [vI a0_v_caps, .fn 34 1 (cellsG [.eptr 1 ((cInt .i64) a0f0) 0]), .own 1 a0_v_x.length, .own 2 a0_v_active.length, .own 3 s.2.2.2.length], aI 3 a0_v_x, aB 4 a0_v_active, aI 3 s.2.2.2]⟩) (g := fun s => fair_division_together_f0_p34_l23 F a0_v_caps a0f0 a0_v_x a0_v_active s.1 s.2.1 s.2.2.1 s.2.2.2 = some r) (μ := fun s => s.1) (F, (0, most_1, o3_8)) h ?_)
      rintro ⟨n_23, ⟨d_16, bad_17, o3_18⟩⟩ h
      replace h : fair_division_together_f0_p34_l23 F a0_v_caps a0f0 a0_v_x a0_v_active n_23 d_16 bad_17 o3_18 = some r := h
      show SCode _ _ _ ⟨[(0, .c (.ptr 0 0)), (5, .c (.int .i64 d_16)), (6, .c (.int .i64 bad_17))], [.box [vI a0_v_caps, .fn 34 1 (cellsG [.eptr 1 ((cInt .i64) a0f0) 0]), .own 1 a0_v_x.length, .own 2 a0_v_active.length, .own 3 o3_18.length], aI 3 a0_v_x, aB 4 a0_v_active, aI 3 o3_18]⟩ _
      cases n_23 with
      | zero => cases h
      | succ n_23 =>
        replace h : fair_division_together_f0_p34_b23 F a0_v_caps a0f0 a0_v_x a0_v_active (fun d_16 bad_17 o3_18 => fair_division_together_f0_p34_l23 F a0_v_caps a0f0 a0_v_x a0_v_active n_23 d_16 bad_17 o3_18) d_16 bad_17 o3_18 = some r := h
        unfold fair_division_together_f0_p34_b23 at h
        refine SCode.seq ?_
        refine SCode.seq ?_
        refine SCode.region (show SOps _ _ _ [0, 1, 2, 3] _ _ from ?_)
        refine SOps.q rfl (.plain rfl) rfl (q_move rfl rfl) ?_
        refine SOps.q rfl (.plain rfl) rfl (q_move rfl rfl) ?_
        refine SOps.q rfl (.plain rfl) rfl (q_sub rfl rfl rfl) ?_
        refine SOps.q rfl (.plain rfl) rfl (q_gtr rfl rfl rfl) ?_
        refine SOps.sub (st' := ⟨[(0, .c (.ptr 0 0)), (5, .c (.int .i64 d_16)), (6, .c (.int .i64 bad_17)), (50, .c (.bool (decide (1 < IntKind.wrap .i64 (bad_17 - d_16)))))], [.box [vI a0_v_caps, .fn 34 1 (cellsG [.eptr 1 ((cInt .i64) a0f0) 0]), .own 1 a0_v_x.length, .own 2 a0_v_active.length, .own 3 o3_18.length], aI 3 a0_v_x, aB 4 a0_v_active, aI 3 o3_18]⟩) (sub_gen [0, 1, 2, 3] rfl rfl ⟨zc rfl rfl, zc rfl rfl, zc rfl rfl, zc rfl rfl, trivial⟩ ⟨⟨_, rfl, ⟨ii rfl rfl, ii rfl rfl, ii rfl rfl, ii rfl rfl, ii rfl rfl, trivial⟩⟩, oa rfl, oa rfl, oa rfl, trivial⟩) ?_
        refine SOps.nil ?_
        rcases cond_out h with ⟨g24, h⟩ | ⟨g24, h⟩
        · refine SCode.cond_t rfl g24 ?_
          refine SCode.skip ?_
          refine SCode.block ?_
          refine SCode.seq ?_
          refine SCode.region (show SOps _ _ _ [0, 1, 2, 3, 4, 5, 6] _ _ from ?_)
          refine SOps.q rfl (.plain rfl) rfl (q_move rfl rfl) ?_
          refine SOps.q rfl (.plain rfl) rfl (q_move rfl rfl) ?_
          refine SOps.q rfl (.plain rfl) rfl (q_move rfl rfl) ?_
          refine SOps.q rfl (.plain rfl) rfl (q_sub rfl rfl rfl) ?_
          refine SOps.q rfl (.plain rfl) rfl (q_quo rfl rfl rfl (by decide)) ?_
          refine SOps.q rfl (.plain rfl) rfl (q_add rfl rfl rfl) ?_
          refine SOps.q rfl (.plain rfl) rfl (q_assign rfl rfl) ?_
          refine SOps.sub (st' := ⟨[(0, .c (.ptr 0 0)), (5, .c (.int .i64 d_16)), (6, .c (.int .i64 bad_17)), (7, .c (.int .i64 (IntKind.wrap .i64 (d_16 + IntKind.wrap .i64 (Int.tdiv (IntKind.wrap .i64 (bad_17 - d_16)) 2)))))], [.box [vI a0_v_caps, .fn 34 1 (cellsG [.eptr 1 ((cInt .i64) a0f0) 0]), .own 1 a0_v_x.length, .own 2 a0_v_active.length, .own 3 o3_18.length], aI 3 a0_v_x, aB 4 a0_v_active, aI 3 o3_18]⟩) (sub_gen [0, 1, 2, 3] rfl rfl ⟨zc rfl rfl, zc rfl rfl, zc rfl rfl, zc rfl rfl, trivial⟩ ⟨⟨_, rfl, ⟨ii rfl rfl, ii rfl rfl, ii rfl rfl, ii rfl rfl, ii rfl rfl, trivial⟩⟩, oa rfl, oa rfl, oa rfl, trivial⟩) ?_
          refine SOps.nil ?_
          refine SCode.seq ?_
          obtain ⟨c_25, g26, h⟩ := bind_out h
          try dsimp only at h
          refine SCode.region (show SOps _ _ _ [0, 1, 2] _ _ from ?_)
          refine SOps.q rfl (.plain rfl) rfl (q_move rfl rfl) ?_
          refine SOps.q rfl (.plain rfl) rfl (q_move rfl rfl) ?_
          refine SOps.e rfl (.plain rfl) (e_call (fair_division_raisable_f0_p34_ok F a0_v_caps a0f0 a0_v_x a0_v_active o3_18 (IntKind.wrap .i64 (d_16 + IntKind.wrap .i64 (Int.tdiv (IntKind.wrap .i64 (bad_17 - d_16)) 2))) c_25 g26) [0, 1, 2, 3] rfl fn39 rfl rfl rfl rfl rfl rfl rfl rfl) ?_
          refine SOps.sub (st' := ⟨[(0, .c (.ptr 0 0)), (5, .c (.int .i64 d_16)), (6, .c (.int .i64 bad_17)), (7, .c (.int .i64 (IntKind.wrap .i64 (d_16 + IntKind.wrap .i64 (Int.tdiv (IntKind.wrap .i64 (bad_17 - d_16)) 2))))), (59, .c (.bool c_25.1))], [.box [vI a0_v_caps, .fn 34 1 (cellsG [.eptr 1 ((cInt .i64) a0f0) 0]), .own 1 a0_v_x.length, .own 2 a0_v_active.length, .own 3 c_25.2.length], aI 3 a0_v_x, aB 4 a0_v_active, aI 3 c_25.2]⟩) (sub_gen [0, 1, 2, 3] rfl rfl ⟨zc rfl rfl, zc rfl rfl, zc rfl rfl, zc rfl rfl, zc rfl rfl, trivial⟩ ⟨⟨_, rfl, ⟨ii rfl rfl, ii rfl rfl, ii rfl rfl, ii rfl rfl, ii rfl rfl, trivial⟩⟩, oa rfl, oa rfl, oa rfl, trivial⟩) ?_
          refine SOps.nil ?_
          rcases cond_out h with ⟨g27, h⟩ | ⟨g27, h⟩
          · refine SCode.cond_t rfl g27 ?_
            refine SCode.region (show SOps _ _ _ [0, 1] _ _ from ?_)
            refine SOps.q rfl (.plain rfl) rfl (q_move rfl rfl) ?_
            refine SOps.q rfl (.plain rfl) rfl (q_assign rfl rfl) ?_
            refine SOps.sub (st' := ⟨[(0, .c (.ptr 0 0)), (5, .c (.int .i64 (IntKind.wrap .i64 (d_16 + IntKind.wrap .i64 (Int.tdiv (IntKind.wrap .i64 (bad_17 - d_16)) 2))))), (6, .c (.int .i64 bad_17))], [.box [vI a0_v_caps, .fn 34 1 (cellsG [.eptr 1 ((cInt .i64) a0f0) 0]), .own 1 a0_v_x.length, .own 2 a0_v_active.length, .own 3 c_25.2.length], aI 3 a0_v_x, aB 4 a0_v_active, aI 3 c_25.2]⟩) (sub_gen [0, 1, 2, 3] rfl rfl ⟨zc rfl rfl, zc rfl rfl, zc rfl rfl, trivial⟩ ⟨⟨_, rfl, ⟨ii rfl rfl, ii rfl rfl, ii rfl rfl, ii rfl rfl, ii rfl rfl, trivial⟩⟩, oa rfl, oa rfl, oa rfl, trivial⟩) ?_
            refine SOps.nil ?_
            exact ⟨(n_23, (IntKind.wrap .i64 (d_16 + IntKind.wrap .i64 (Int.tdiv (IntKind.wrap .i64 (bad_17 - d_16)) 2)), bad_17, c_25.2)), h, Nat.lt_succ_self n_23, sub_gen [0, 1, 2, 3] rfl rfl ⟨zc rfl rfl, zc rfl rfl, zc rfl rfl, trivial⟩ ⟨⟨_, rfl, ⟨ii rfl rfl, ii rfl rfl, ii rfl rfl, ii rfl rfl, ii rfl rfl, trivial⟩⟩, oa rfl, oa rfl, oa rfl, trivial⟩⟩
          refine SCode.cond_f rfl g27 ?_
          refine SCode.region (show SOps _ _ _ [0, 1] _ _ from ?_)
          refine SOps.q rfl (.plain rfl) rfl (q_move rfl rfl) ?_
          refine SOps.q rfl (.plain rfl) rfl (q_assign rfl rfl) ?_
          refine SOps.sub (st' := ⟨[(0, .c (.ptr 0 0)), (5, .c (.int .i64 d_16)), (6, .c (.int .i64 (IntKind.wrap .i64 (d_16 + IntKind.wrap .i64 (Int.tdiv (IntKind.wrap .i64 (bad_17 - d_16)) 2)))))], [.box [vI a0_v_caps, .fn 34 1 (cellsG [.eptr 1 ((cInt .i64) a0f0) 0]), .own 1 a0_v_x.length, .own 2 a0_v_active.length, .own 3 c_25.2.length], aI 3 a0_v_x, aB 4 a0_v_active, aI 3 c_25.2]⟩) (sub_gen [0, 1, 2, 3] rfl rfl ⟨zc rfl rfl, zc rfl rfl, zc rfl rfl, trivial⟩ ⟨⟨_, rfl, ⟨ii rfl rfl, ii rfl rfl, ii rfl rfl, ii rfl rfl, ii rfl rfl, trivial⟩⟩, oa rfl, oa rfl, oa rfl, trivial⟩) ?_
          refine SOps.nil ?_
          exact ⟨(n_23, (d_16, IntKind.wrap .i64 (d_16 + IntKind.wrap .i64 (Int.tdiv (IntKind.wrap .i64 (bad_17 - d_16)) 2)), c_25.2)), h, Nat.lt_succ_self n_23, sub_gen [0, 1, 2, 3] rfl rfl ⟨zc rfl rfl, zc rfl rfl, zc rfl rfl, trivial⟩ ⟨⟨_, rfl, ⟨ii rfl rfl, ii rfl rfl, ii rfl rfl, ii rfl rfl, ii rfl rfl, trivial⟩⟩, oa rfl, oa rfl, oa rfl, trivial⟩⟩
        refine SCode.cond_f rfl g24 ?_
        refine SCode.exit ?_
        exact ⟨(d_16, o3_18), h, sub_gen [0, 1, 2, 3] rfl rfl ⟨zc rfl rfl, zc rfl rfl, trivial⟩ ⟨⟨_, rfl, ⟨ii rfl rfl, ii rfl rfl, ii rfl rfl, ii rfl rfl, ii rfl rfl, trivial⟩⟩, oa rfl, oa rfl, oa rfl, trivial⟩⟩
    refine SCode.cond_f rfl g9 ?_
    refine SCode.skip ?_
    exact ⟨(most_1, o3_8), h, sub_gen [0, 1, 2, 3] rfl rfl ⟨zc rfl rfl, zc rfl rfl, trivial⟩ ⟨⟨_, rfl, ⟨ii rfl rfl, ii rfl rfl, ii rfl rfl, ii rfl rfl, ii rfl rfl, trivial⟩⟩, oa rfl, oa rfl, oa rfl, trivial⟩⟩
  rintro ⟨d_2, o3_3⟩ h
  show SCode _ _ _ ⟨[(0, .c (.ptr 0 0)), (5, .c (.int .i64 d_2))], [.box [vI a0_v_caps, .fn 34 1 (cellsG [.eptr 1 ((cInt .i64) a0f0) 0]), .own 1 a0_v_x.length, .own 2 a0_v_active.length, .own 3 o3_3.length], aI 3 a0_v_x, aB 4 a0_v_active, aI 3 o3_3]⟩ _
  replace h : fair_division_together_f0_p34_p6 F a0_v_caps a0f0 a0_v_x a0_v_active d_2 o3_3 = some r := h
  unfold fair_division_together_f0_p34_p6 at h
  refine SCode.seq ?_
  obtain ⟨c_4, g5, h⟩ := bind_out h
  try dsimp only at h
  refine SCode.region (show SOps _ _ _ [0, 1, 2] _ _ from ?_)
  refine SOps.q rfl (.plain rfl) rfl (q_move rfl rfl) ?_
  refine SOps.q rfl (.plain rfl) rfl (q_move rfl rfl) ?_
  refine SOps.e rfl (.plain rfl) (e_call (fair_division_raise_f0_p34_ok F a0_v_caps a0f0 a0_v_x a0_v_active o3_3 d_2 c_4 g5) [0, 1, 2, 3] rfl fn40 rfl rfl rfl rfl rfl rfl rfl rfl) ?_
  refine SOps.sub (st' := ⟨[(0, .c (.ptr 0 0))], [.box [vI a0_v_caps, .fn 34 1 (cellsG [.eptr 1 ((cInt .i64) a0f0) 0]), .own 1 a0_v_x.length, .own 2 a0_v_active.length, .own 3 c_4.length], aI 3 a0_v_x, aB 4 a0_v_active, aI 3 c_4]⟩) (sub_gen [0, 1, 2, 3] rfl rfl ⟨zc rfl rfl, trivial⟩ ⟨⟨_, rfl, ⟨ii rfl rfl, ii rfl rfl, ii rfl rfl, ii rfl rfl, ii rfl rfl, trivial⟩⟩, oa rfl, oa rfl, oa rfl, trivial⟩) ?_
  refine SOps.nil ?_
  refine SCode.draw (s' := [(72, .c (.own 3 c_4.length)), (71, .c (.ptr 0 4)), (70, .c (.ptr 0 0)), (69, .c (.ptr 0 0)), (68, .c (.own 1 a0_v_x.length)), (67, .c (.ptr 0 2)), (66, .c (.ptr 0 0)), (65, .c (.ptr 0 0)), (0, .c (.ptr 0 0))]) mixed [[], [0], [0, 1], [0, 1, 2], [], [4], [4, 5], [4, 5, 6], [0, 1, 2, 3, 4, 5, 6, 7]] 8 1 rfl rfl ?_ ?_
  · refine QChain.run rfl (.plain rfl) rfl (q_move rfl rfl) ?_
    refine QChain.run rfl (.plain rfl) rfl (q_nilCheck rfl rfl rfl) ?_
    refine QChain.run rfl (.plain rfl) rfl (q_field_ptr rfl rfl fd54_2) ?_
    refine QChain.run rfl (.plain rfl) rfl (q_load_ptr rfl rfl rfl rfl ty22) ?_
    refine QChain.run rfl (.plain rfl) rfl (q_move rfl rfl) ?_
    refine QChain.run rfl (.plain rfl) rfl (q_nilCheck rfl rfl rfl) ?_
    refine QChain.run rfl (.plain rfl) rfl (q_field_ptr rfl rfl fd54_4) ?_
    refine QChain.run rfl (.plain rfl) rfl (q_load_ptr rfl rfl rfl rfl ty22) ?_
    exact QChain.nil _ _
  refine (show SOps _ _ _ [8] _ _ from ?_)
  refine SOps.e rfl (.plain rfl) (e_copyL (c := (cInt .i64)) (d0 := 0) (l := a0_v_x) (s := c_4) (lo := 0) (n := (a0_v_x).length) (m := min (c_4).length ((a0_v_x).length)) rfl rfl rfl (.inr ⟨rfl, rfl⟩) rfl rfl (.inr (.inr ⟨_, _, rfl, rfl⟩)) sl22 rfl oneInt (Nat.le_of_eq (Nat.zero_add _)) rfl) ?_
  refine SOps.sub (st' := ⟨[], [.box [vI a0_v_caps, .fn 34 1 (cellsG [.eptr 1 ((cInt .i64) a0f0) 0]), .own 1 (copyL a0_v_x 0 ((a0_v_x).length) c_4).length, .own 2 a0_v_active.length, .own 3 c_4.length], aI 3 (copyL a0_v_x 0 ((a0_v_x).length) c_4), aB 4 a0_v_active, aI 3 c_4]⟩) (sub_gen [0, 1, 2, 3] rfl rfl trivial ⟨⟨_, rfl, ⟨ii rfl rfl, ii rfl rfl, .inl ⟨rfl, congrArg (Cell.own 1) (copyL_len (l := a0_v_x) (s := c_4) (lo := 0) (n := (a0_v_x).length) (Nat.le_of_eq (Nat.zero_add _))).symm⟩, ii rfl rfl, ii rfl rfl, trivial⟩⟩, oa rfl, oa rfl, oa rfl, trivial⟩) ?_
  refine SOps.nil ?_
  obtain rfl := Option.some.inj h
  exact ⟨⟨[], [.box [vI a0_v_caps, .fn 34 1 (cellsG [.eptr 1 ((cInt .i64) a0f0) 0]), .own 1 (copyL a0_v_x 0 ((a0_v_x).length) c_4).length, .own 2 a0_v_active.length, .own 3 c_4.length], aI 3 (copyL a0_v_x 0 ((a0_v_x).length) c_4), aB 4 a0_v_active, aI 3 c_4]⟩, _, sub_gen [0, 1, 2, 3] rfl rfl trivial ⟨⟨_, rfl, ⟨ii rfl rfl, ii rfl rfl, ii rfl rfl, ii rfl rfl, ii rfl rfl, trivial⟩⟩, oa rfl, oa rfl, oa rfl, trivial⟩, resA0 rfl, ⟨rfl, rfl⟩⟩
set_option maxRecDepth 100000 in
set_option maxHeartbeats 8000000 in
theorem fair_division_single_f0_p34_ok (F : Nat) (a0_v_caps : List Int) (a0f0 : Int) (a0_v_x : List Int) (a0_v_active : List Bool) (a0_v_trial : List Int) (r : Bool × (List Int) × (List Bool) × (List Int)) (h : fair_division_single_f0_p34 F a0_v_caps a0f0 a0_v_x a0_v_active a0_v_trial = some r) :
    SFun Try.prog 33 [.box [vI a0_v_caps, .fn 34 1 (cellsG [.eptr 1 ((cInt .i64) a0f0) 0]), .own 1 a0_v_x.length, .own 2 a0_v_active.length, .own 3 a0_v_trial.length], aI 3 a0_v_x, aB 4 a0_v_active, aI 3 a0_v_trial] [.c (.ptr 0 0)] (fun x os => x = .c (.bool r.1) ∧ os = [.box [vI a0_v_caps, .fn 34 1 (cellsG [.eptr 1 ((cInt .i64) a0f0) 0]), .own 1 r.2.1.length, .own 2 r.2.2.1.length, .own 3 r.2.2.2.length], aI 3 r.2.1, aB 4 r.2.2.1, aI 3 r.2.2.2]) := by
  refine SFun.of (n := 80) Try.func33 rfl rfl rfl ?_
  unfold fair_division_single_f0_p34 at h
  show SCode _ _ _ ⟨[(0, .c (.ptr 0 0))], [.box [vI a0_v_caps, .fn 34 1 (cellsG [.eptr 1 ((cInt .i64) a0f0) 0]), .own 1 a0_v_x.length, .own 2 a0_v_active.length, .own 3 a0_v_trial.length], aI 3 a0_v_x, aB 4 a0_v_active, aI 3 a0_v_trial]⟩ _
  refine SCode.seq ?_
  refine SCode.region (show SOps _ _ _ [0] _ _ from ?_)
  refine SOps.q rfl (.plain rfl) rfl (q_assign rfl rfl) ?_
  refine SOps.sub (st' := ⟨[(0, .c (.ptr 0 0))], [.box [vI a0_v_caps, .fn 34 1 (cellsG [.eptr 1 ((cInt .i64) a0f0) 0]), .own 1 a0_v_x.length, .own 2 a0_v_active.length, .own 3 a0_v_trial.length], aI 3 a0_v_x, aB 4 a0_v_active, aI 3 a0_v_trial]⟩) (sub_gen [0, 1, 2, 3] rfl rfl ⟨zc rfl rfl, trivial⟩ ⟨⟨_, rfl, ⟨ii rfl rfl, ii rfl rfl, ii rfl rfl, ii rfl rfl, ii rfl rfl, trivial⟩⟩, oa rfl, oa rfl, oa rfl, trivial⟩) ?_
  refine SOps.nil ?_
  refine SCode.seq ?_
  refine SCode.region (show SOps _ _ _ [0] _ _ from ?_)
  refine SOps.q rfl (.plain rfl) rfl (q_assign rfl rfl) ?_
  refine SOps.sub (st' := ⟨[(0, .c (.ptr 0 0)), (3, .c (.bool false))], [.box [vI a0_v_caps, .fn 34 1 (cellsG [.eptr 1 ((cInt .i64) a0f0) 0]), .own 1 a0_v_x.length, .own 2 a0_v_active.length, .own 3 a0_v_trial.length], aI 3 a0_v_x, aB 4 a0_v_active, aI 3 a0_v_trial]⟩) (sub_gen [0, 1, 2, 3] rfl rfl ⟨zc rfl rfl, zc rfl rfl, trivial⟩ ⟨⟨_, rfl, ⟨ii rfl rfl, ii rfl rfl, ii rfl rfl, ii rfl rfl, ii rfl rfl, trivial⟩⟩, oa rfl, oa rfl, oa rfl, trivial⟩) ?_
  refine SOps.nil ?_
  refine SCode.join (σ := Bool × (List Int) × (List Bool) × (List Int)) (S := fun s => ⟨[(3, .c (.bool s.1))], [.box [vI a0_v_caps, .fn 34 1 (cellsG [.eptr 1 ((cInt .i64) a0f0) 0]), .own 1 s.2.1.length, .own 2 s.2.2.1.length, .own 3 s.2.2.2.length], aI 3 s.2.1, aB 4 s.2.2.1, aI 3 s.2.2.2]⟩) (g := fun s => fair_division_single_f0_p34_p5 s.1 s.2.1 s.2.2.1 s.2.2.2 = some r) ?_ ?_
  rotate_left
  · refine SCode.seq ?_
    refine SCode.region (show SOps _ _ _ [0, 1, 2, 3, 4, 5] _ _ from ?_)
    refine SOps.q rfl (.plain rfl) rfl (q_move rfl rfl) ?_
    refine SOps.q rfl (.plain rfl) rfl (q_nilCheck rfl rfl rfl) ?_
    refine SOps.q rfl (.plain rfl) rfl (q_field_ptr rfl rfl fd54_2) ?_
    refine SOps.q rfl (.plain rfl) rfl (q_load_ptr rfl rfl rfl rfl ty22) ?_
    refine SOps.q rfl (.plain rfl) rfl (q_len_own rfl rfl sl22) ?_
    refine SOps.q rfl (.plain rfl) rfl (q_move rfl rfl) ?_
    refine SOps.sub (st' := ⟨[(0, .c (.ptr 0 0)), (3, .c (.bool false)), (9, .c (.int .i64 (((a0_v_x).length : Int)))), (10, .c (.int .i64 0))], [.box [vI a0_v_caps, .fn 34 1 (cellsG [.eptr 1 ((cInt .i64) a0f0) 0]), .own 1 a0_v_x.length, .own 2 a0_v_active.length, .own 3 a0_v_trial.length], aI 3 a0_v_x, aB 4 a0_v_active, aI 3 a0_v_trial]⟩) (sub_gen [0, 1, 2, 3] rfl rfl ⟨zc rfl rfl, zc rfl rfl, zc rfl rfl, zc rfl rfl, trivial⟩ ⟨⟨_, rfl, ⟨ii rfl rfl, ii rfl rfl, ii rfl rfl, ii rfl rfl, ii rfl rfl, trivial⟩⟩, oa rfl, oa rfl, oa rfl, trivial⟩) ?_
    refine SOps.nil ?_
    refine SCode.block ?_
    refine SCode.sub (st' := ⟨[(0, .c (.ptr 0 0)), (3, .c (.bool false)), (9, .c (.int .i64 (((a0_v_x).length : Int)))), (10, .c (.int .i64 0))], [.box [vI a0_v_caps, .fn 34 1 (cellsG [.eptr 1 ((cInt .i64) a0f0) 0]), .own 1 a0_v_x.length, .own 2 a0_v_active.length, .own 3 a0_v_trial.length], aI 3 a0_v_x, aB 4 a0_v_active, aI 3 a0_v_trial]⟩) (sub_gen [0, 1, 2, 3] rfl rfl ⟨zc rfl rfl, zc rfl rfl, zc rfl rfl, zc rfl rfl, trivial⟩ ⟨⟨_, rfl, ⟨ii rfl rfl, ii rfl rfl, ii rfl rfl, ii rfl rfl, ii rfl rfl, trivial⟩⟩, oa rfl, oa rfl, oa rfl, trivial⟩) ?_
    refine (SCode.loop (σ := Nat × (Bool × Int × (List Int) × (List Bool) × (List Int))) (S := fun s => ⟨[(0, .c (.ptr 0 0)), (3, .c (.bool s.2.1)), (9, .c (.int .i64 (((a0_v_x).length : Int)))), (10, .c (.int .i64 s.2.2.1))], [.box [vI a0_v_caps, .fn 34 1 (cellsG [.eptr 1 ((cInt .i64) a0f0) 0]), .own 1 s.2.2.2.1.length, .own 2 s.2.2.2.2.1.length, .own 3 s.2.2.2.2.2.length], aI 3 s.2.2.2.1, aB 4 s.2.2.2.2.1, aI 3 s.2.2.2.2.2]⟩) (g := fun s => fair_division_single_f0_p34_l53 F a0_v_caps a0f0 a0_v_x s.1 s.2.1 s.2.2.1 s.2.2.2.1 s.2.2.2.2.1 s.2.2.2.2.2 = some r) (μ := fun s => s.1) (F, (false, 0, a0_v_x, a0_v_active, a0_v_trial)) h ?_)
    rintro ⟨n_53, ⟨left_27, t10_28, o1_29, o2_30, o3_31⟩⟩ h
    replace h : fair_division_single_f0_p34_l53 F a0_v_caps a0f0 a0_v_x n_53 left_27 t10_28 o1_29 o2_30 o3_31 = some r := h
    show SCode _ _ _ ⟨[(0, .c (.ptr 0 0)), (3, .c (.bool left_27)), (9, .c (.int .i64 (((a0_v_x).length : Int)))), (10, .c (.int .i64 t10_28))], [.box [vI a0_v_caps, .fn 34 1 (cellsG [.eptr 1 ((cInt .i64) a0f0) 0]), .own 1 o1_29.length, .own 2 o2_30.length, .own 3 o3_31.length], aI 3 o1_29, aB 4 o2_30, aI 3 o3_31]⟩ _
    cases n_53 with
    | zero => cases h
    | succ n_53 =>
      replace h : fair_division_single_f0_p34_b53 F a0_v_caps a0f0 a0_v_x (fun left_27 t10_28 o1_29 o2_30 o3_31 => fair_division_single_f0_p34_l53 F a0_v_caps a0f0 a0_v_x n_53 left_27 t10_28 o1_29 o2_30 o3_31) left_27 t10_28 o1_29 o2_30 o3_31 = some r := h
      unfold fair_division_single_f0_p34_b53 at h
      refine SCode.seq ?_
      refine SCode.region (show SOps _ _ _ [0] _ _ from ?_)
      refine SOps.q rfl (.plain rfl) rfl (q_lss rfl rfl rfl) ?_
      refine SOps.sub (st' := ⟨[(0, .c (.ptr 0 0)), (3, .c (.bool left_27)), (9, .c (.int .i64 (((a0_v_x).length : Int)))), (10, .c (.int .i64 t10_28)), (11, .c (.bool (decide (t10_28 < ((a0_v_x).length : Int)))))], [.box [vI a0_v_caps, .fn 34 1 (cellsG [.eptr 1 ((cInt .i64) a0f0) 0]), .own 1 o1_29.length, .own 2 o2_30.length, .own 3 o3_31.length], aI 3 o1_29, aB 4 o2_30, aI 3 o3_31]⟩) (sub_gen [0, 1, 2, 3] rfl rfl ⟨zc rfl rfl, zc rfl rfl, zc rfl rfl, zc rfl rfl, zc rfl rfl, trivial⟩ ⟨⟨_, rfl, ⟨ii rfl rfl, ii rfl rfl, ii rfl rfl, ii rfl rfl, ii rfl rfl, trivial⟩⟩, oa rfl, oa rfl, oa rfl, trivial⟩) ?_
      refine SOps.nil ?_
      refine SCode.seq ?_
      rcases cond_out h with ⟨g54, h⟩ | ⟨g54, h⟩
      · refine SCode.cond_t rfl g54 ?_
        refine SCode.skip ?_
        refine SCode.join (σ := Bool × (List Int) × (List Bool) × (List Int)) (S := fun s => ⟨[(0, .c (.ptr 0 0)), (3, .c (.bool s.1)), (9, .c (.int .i64 (((a0_v_x).length : Int)))), (10, .c (.int .i64 t10_28))], [.box [vI a0_v_caps, .fn 34 1 (cellsG [.eptr 1 ((cInt .i64) a0f0) 0]), .own 1 s.2.1.length, .own 2 s.2.2.1.length, .own 3 s.2.2.2.length], aI 3 s.2.1, aB 4 s.2.2.1, aI 3 s.2.2.2]⟩) (g := fun s => fair_division_single_f0_p34_p59 t10_28 (fun left_27 t10_28 o1_29 o2_30 o3_31 => fair_division_single_f0_p34_l53 F a0_v_caps a0f0 a0_v_x n_53 left_27 t10_28 o1_29 o2_30 o3_31) s.1 s.2.1 s.2.2.1 s.2.2.2 = some r) ?_ ?_
        rotate_left
        · refine SCode.block ?_
          refine SCode.seq ?_
          refine SCode.region (show SOps _ _ _ [0, 1] _ _ from ?_)
          refine SOps.q rfl (.plain rfl) rfl (q_move rfl rfl) ?_
          refine SOps.q rfl (.plain rfl) rfl (q_assign rfl rfl) ?_
          refine SOps.sub (st' := ⟨[(0, .c (.ptr 0 0)), (3, .c (.bool left_27)), (4, .c (.int .i64 t10_28)), (9, .c (.int .i64 (((a0_v_x).length : Int)))), (10, .c (.int .i64 t10_28))], [.box [vI a0_v_caps, .fn 34 1 (cellsG [.eptr 1 ((cInt .i64) a0f0) 0]), .own 1 o1_29.length, .own 2 o2_30.length, .own 3 o3_31.length], aI 3 o1_29, aB 4 o2_30, aI 3 o3_31]⟩) (sub_gen [0, 1, 2, 3] rfl rfl ⟨zc rfl rfl, zc rfl rfl, zc rfl rfl, zc rfl rfl, zc rfl rfl, trivial⟩ ⟨⟨_, rfl, ⟨ii rfl rfl, ii rfl rfl, ii rfl rfl, ii rfl rfl, ii rfl rfl, trivial⟩⟩, oa rfl, oa rfl, oa rfl, trivial⟩) ?_
          refine SOps.nil ?_
          refine SCode.seq ?_
          refine SCode.seq ?_
          obtain ⟨g60, h⟩ := guard_out h
          refine SCode.region (show SOps _ _ _ [0, 1, 2, 3, 4, 5, 6, 7] _ _ from ?_)
          refine SOps.q rfl (.plain rfl) rfl (q_move rfl rfl) ?_
          refine SOps.q rfl (.plain rfl) rfl (q_nilCheck rfl rfl rfl) ?_
          refine SOps.q rfl (.plain rfl) rfl (q_field_ptr rfl rfl fd54_3) ?_
          refine SOps.q rfl (.plain rfl) rfl (q_load_ptr rfl rfl rfl rfl ty52) ?_
          refine SOps.q rfl (.plain rfl) rfl (q_move rfl rfl) ?_
          refine SOps.q rfl (.plain rfl) rfl (q_index_own rfl rfl rfl sl52 g60.1 g60.2) ?_
          refine SOps.q rfl (.plain rfl) rfl (q_load_aptr rfl rfl rfl (toNat_lt g60) rfl ty4) ?_
          refine SOps.q rfl (.plain rfl) rfl (q_not rfl rfl) ?_
          refine SOps.sub (st' := ⟨[(0, .c (.ptr 0 0)), (3, .c (.bool left_27)), (4, .c (.int .i64 t10_28)), (9, .c (.int .i64 (((a0_v_x).length : Int)))), (10, .c (.int .i64 t10_28)), (20, .c (.bool ((!(o2_30.getD t10_28.toNat false)))))], [.box [vI a0_v_caps, .fn 34 1 (cellsG [.eptr 1 ((cInt .i64) a0f0) 0]), .own 1 o1_29.length, .own 2 o2_30.length, .own 3 o3_31.length], aI 3 o1_29, aB 4 o2_30, aI 3 o3_31]⟩) (sub_gen [0, 1, 2, 3] rfl rfl ⟨zc rfl rfl, zc rfl rfl, zc rfl rfl, zc rfl rfl, zc rfl rfl, zc rfl rfl, trivial⟩ ⟨⟨_, rfl, ⟨ii rfl rfl, ii rfl rfl, ii rfl rfl, ii rfl rfl, ii rfl rfl, trivial⟩⟩, oa rfl, oa rfl, oa rfl, trivial⟩) ?_
          refine SOps.nil ?_
          rcases cond_out h with ⟨g61, h⟩ | ⟨g61, h⟩
          · refine SCode.cond_t rfl g61 ?_
            refine SCode.exit ?_
            exact ⟨(left_27, o1_29, o2_30, o3_31), h, sub_gen [0, 1, 2, 3] rfl rfl ⟨zc rfl rfl, zc rfl rfl, zc rfl rfl, zc rfl rfl, trivial⟩ ⟨⟨_, rfl, ⟨ii rfl rfl, ii rfl rfl, ii rfl rfl, ii rfl rfl, ii rfl rfl, trivial⟩⟩, oa rfl, oa rfl, oa rfl, trivial⟩⟩
          refine SCode.cond_f rfl g61 ?_
          refine SCode.skip ?_
          refine SCode.join (σ := (List Int)) (S := fun s => ⟨[(0, .c (.ptr 0 0)), (3, .c (.bool left_27)), (4, .c (.int .i64 t10_28)), (9, .c (.int .i64 (((a0_v_x).length : Int)))), (10, .c (.int .i64 t10_28))], [.box [vI a0_v_caps, .fn 34 1 (cellsG [.eptr 1 ((cInt .i64) a0f0) 0]), .own 1 o1_29.length, .own 2 o2_30.length, .own 3 s.length], aI 3 o1_29, aB 4 o2_30, aI 3 s]⟩) (g := fun s => fair_division_single_f0_p34_p64 left_27 t10_28 o1_29 o2_30 (fun left_27 t10_28 o1_29 o2_30 o3_31 => fair_division_single_f0_p34_l53 F a0_v_caps a0f0 a0_v_x n_53 left_27 t10_28 o1_29 o2_30 o3_31) s = some r) ?_ ?_
          rotate_left
          · refine SCode.seq ?_
            obtain ⟨g65, h⟩ := guard_out h
            obtain ⟨g66, h⟩ := guard_out h
            refine SCode.draw (s' := [(35, .c (.bool (decide (o1_29.getD t10_28.toNat 0 < a0_v_caps.getD t10_28.toNat 0)))), (34, .c (.int .i64 (a0_v_caps.getD t10_28.toNat 0))), (33, .c (.eptr 1 ((cInt .i64) (a0_v_caps.getD t10_28.toNat 0)) 0)), (32, .c (.int .i64 t10_28)), (31, .c (vI a0_v_caps)), (30, .c (.ptr 0 0)), (29, .c (.ptr 0 0)), (28, .c (.ptr 0 0)), (27, .c (.int .i64 (o1_29.getD t10_28.toNat 0))), (26, .c (.aptr 1 1 t10_28.toNat 0)), (25, .c (.int .i64 t10_28)), (24, .c (.own 1 o1_29.length)), (23, .c (.ptr 0 2)), (22, .c (.ptr 0 0)), (21, .c (.ptr 0 0)), (0, .c (.ptr 0 0)), (3, .c (.bool left_27)), (4, .c (.int .i64 t10_28)), (9, .c (.int .i64 (((a0_v_x).length : Int)))), (10, .c (.int .i64 t10_28)), (20, .c (.bool ((!(o2_30.getD t10_28.toNat false)))))]) mixed [[], [0], [0, 1], [0, 1, 2], [], [0, 1, 2, 3, 4], [0, 1, 2, 3, 4, 5], [], [7], [7, 8], [7, 8, 9], [], [7, 8, 9, 10, 11], [7, 8, 9, 10, 11, 12], [0, 1, 2, 3, 4, 5, 6, 7, 8, 9, 10, 11, 12, 13]] 15 0 rfl rfl ?_ ?_
            · refine QChain.run rfl (.plain rfl) rfl (q_move rfl rfl) ?_
              refine QChain.run rfl (.plain rfl) rfl (q_nilCheck rfl rfl rfl) ?_
              refine QChain.run rfl (.plain rfl) rfl (q_field_ptr rfl rfl fd54_2) ?_
              refine QChain.run rfl (.plain rfl) rfl (q_load_ptr rfl rfl rfl rfl ty22) ?_
              refine QChain.run rfl (.plain rfl) rfl (q_move rfl rfl) ?_
              refine QChain.run rfl (.plain rfl) rfl (q_index_own rfl rfl rfl sl22 g65.1 g65.2) ?_
              refine QChain.run rfl (.plain rfl) rfl (q_load_aptr rfl rfl rfl (toNat_lt g65) rfl ty3) ?_
              refine QChain.run rfl (.plain rfl) rfl (q_move rfl rfl) ?_
              refine QChain.run rfl (.plain rfl) rfl (q_nilCheck rfl rfl rfl) ?_
              refine QChain.run rfl (.plain rfl) rfl (q_field_ptr rfl rfl fd54_0) ?_
              refine QChain.run rfl (.plain rfl) rfl (q_load_ptr rfl rfl rfl rfl ty22) ?_
              refine QChain.run rfl (.plain rfl) rfl (q_move rfl rfl) ?_
              refine QChain.run rfl (.plain rfl) rfl (q_index_vec rfl rfl rfl sl22 rfl g66.1 g66.2) ?_
              refine QChain.run rfl (.plain rfl) rfl (q_load_eptr rfl rfl ty3) ?_
              refine QChain.run rfl (.plain rfl) rfl (q_lss rfl rfl rfl) ?_
              exact QChain.nil _ _
            refine (show SOps _ _ _ [] _ _ from ?_)
            refine SOps.sub (st' := ⟨[(0, .c (.ptr 0 0)), (3, .c (.bool left_27)), (4, .c (.int .i64 t10_28)), (9, .c (.int .i64 (((a0_v_x).length : Int)))), (10, .c (.int .i64 t10_28)), (35, .c (.bool (decide (o1_29.getD t10_28.toNat 0 < a0_v_caps.getD t10_28.toNat 0))))], [.box [vI a0_v_caps, .fn 34 1 (cellsG [.eptr 1 ((cInt .i64) a0f0) 0]), .own 1 o1_29.length, .own 2 o2_30.length, .own 3 o3_31.length], aI 3 o1_29, aB 4 o2_30, aI 3 o3_31]⟩) (sub_gen [0, 1, 2, 3] rfl rfl ⟨zc rfl rfl, zc rfl rfl, zc rfl rfl, zc rfl rfl, zc rfl rfl, zc rfl rfl, trivial⟩ ⟨⟨_, rfl, ⟨ii rfl rfl, ii rfl rfl, ii rfl rfl, ii rfl rfl, ii rfl rfl, trivial⟩⟩, oa rfl, oa rfl, oa rfl, trivial⟩) ?_
            refine SOps.nil ?_
            rcases cond_out h with ⟨g67, h⟩ | ⟨g67, h⟩
            · refine SCode.cond_t rfl g67 ?_
              refine SCode.seq ?_
              refine SCode.draw (s' := [(43, .c (.own 1 o1_29.length)), (42, .c (.ptr 0 2)), (41, .c (.ptr 0 0)), (40, .c (.ptr 0 0)), (39, .c (.own 3 o3_31.length)), (38, .c (.ptr 0 4)), (37, .c (.ptr 0 0)), (36, .c (.ptr 0 0)), (0, .c (.ptr 0 0)), (3, .c (.bool left_27)), (4, .c (.int .i64 t10_28)), (9, .c (.int .i64 (((a0_v_x).length : Int)))), (10, .c (.int .i64 t10_28)), (35, .c (.bool (decide (o1_29.getD t10_28.toNat 0 < a0_v_caps.getD t10_28.toNat 0))))]) mixed [[], [0], [0, 1], [0, 1, 2], [], [4], [4, 5], [4, 5, 6], [0, 1, 2, 3, 4, 5, 6, 7]] 8 1 rfl rfl ?_ ?_
              · refine QChain.run rfl (.plain rfl) rfl (q_move rfl rfl) ?_
                refine QChain.run rfl (.plain rfl) rfl (q_nilCheck rfl rfl rfl) ?_
                refine QChain.run rfl (.plain rfl) rfl (q_field_ptr rfl rfl fd54_4) ?_
                refine QChain.run rfl (.plain rfl) rfl (q_load_ptr rfl rfl rfl rfl ty22) ?_
                refine QChain.run rfl (.plain rfl) rfl (q_move rfl rfl) ?_
                refine QChain.run rfl (.plain rfl) rfl (q_nilCheck rfl rfl rfl) ?_
                refine QChain.run rfl (.plain rfl) rfl (q_field_ptr rfl rfl fd54_2) ?_
                refine QChain.run rfl (.plain rfl) rfl (q_load_ptr rfl rfl rfl rfl ty22) ?_
                exact QChain.nil _ _
              refine (show SOps _ _ _ [8] _ _ from ?_)
              refine SOps.e rfl (.plain rfl) (e_copyL (c := (cInt .i64)) (d0 := 0) (l := o3_31) (s := o1_29) (lo := 0) (n := (o3_31).length) (m := min (o1_29).length ((o3_31).length)) rfl rfl rfl (.inr ⟨rfl, rfl⟩) rfl rfl (.inr (.inr ⟨_, _, rfl, rfl⟩)) sl22 rfl oneInt (Nat.le_of_eq (Nat.zero_add _)) rfl) ?_
              refine SOps.sub (st' := ⟨[(0, .c (.ptr 0 0)), (3, .c (.bool left_27)), (4, .c (.int .i64 t10_28)), (9, .c (.int .i64 (((a0_v_x).length : Int)))), (10, .c (.int .i64 t10_28))], [.box [vI a0_v_caps, .fn 34 1 (cellsG [.eptr 1 ((cInt .i64) a0f0) 0]), .own 1 o1_29.length, .own 2 o2_30.length, .own 3 (copyL o3_31 0 ((o3_31).length) o1_29).length], aI 3 o1_29, aB 4 o2_30, aI 3 (copyL o3_31 0 ((o3_31).length) o1_29)]⟩) (sub_gen [0, 1, 2, 3] rfl rfl ⟨zc rfl rfl, zc rfl rfl, zc rfl rfl, zc rfl rfl, zc rfl rfl, trivial⟩ ⟨⟨_, rfl, ⟨ii rfl rfl, ii rfl rfl, ii rfl rfl, ii rfl rfl, .inl ⟨rfl, congrArg (Cell.own 3) (copyL_len (l := o3_31) (s := o1_29) (lo := 0) (n := (o3_31).length) (Nat.le_of_eq (Nat.zero_add _))).symm⟩, trivial⟩⟩, oa rfl, oa rfl, oa rfl, trivial⟩) ?_
              refine SOps.nil ?_
              refine SCode.seq ?_
              obtain ⟨g68, h⟩ := guard_out h
              obtain ⟨g69, h⟩ := guard_out h
              refine SCode.region (show SOps _ _ _ [0, 1, 2, 3, 4, 5, 6, 7, 8, 9] _ _ from ?_)
              refine SOps.q rfl (.plain rfl) rfl (q_move rfl rfl) ?_
              refine SOps.q rfl (.plain rfl) rfl (q_nilCheck rfl rfl rfl) ?_
              refine SOps.q rfl (.plain rfl) rfl (q_field_ptr rfl rfl fd54_4) ?_
              refine SOps.q rfl (.plain rfl) rfl (q_load_ptr rfl rfl rfl rfl ty22) ?_
              refine SOps.q rfl (.plain rfl) rfl (q_move rfl rfl) ?_
              refine SOps.q rfl (.plain rfl) rfl (q_index_own rfl rfl rfl sl22 g68.1 g68.2) ?_
              refine SOps.q rfl (.plain rfl) rfl (q_load_aptr rfl rfl rfl (toNat_lt g68) rfl ty3) ?_
              refine SOps.q rfl (.plain rfl) rfl (q_add rfl rfl rfl) ?_
              refine SOps.q rfl (.plain rfl) rfl (q_index_own rfl rfl rfl sl22 g69.1 g69.2) ?_
              refine SOps.e rfl (.plain rfl) (e_storeL (IntKind.wrap .i64 ((copyL o3_31 0 ((o3_31).length) o1_29).getD t10_28.toNat 0 + 1)) rfl rfl rfl rfl rfl (toNat_lt g69) ty3 rfl rfl rfl rfl rfl rfl) ?_
              refine SOps.sub (st' := ⟨[(0, .c (.ptr 0 0)), (3, .c (.bool left_27)), (4, .c (.int .i64 t10_28)), (9, .c (.int .i64 (((a0_v_x).length : Int)))), (10, .c (.int .i64 t10_28))], [.box [vI a0_v_caps, .fn 34 1 (cellsG [.eptr 1 ((cInt .i64) a0f0) 0]), .own 1 o1_29.length, .own 2 o2_30.length, .own 3 ((copyL o3_31 0 ((o3_31).length) o1_29).set t10_28.toNat (IntKind.wrap .i64 ((copyL o3_31 0 ((o3_31).length) o1_29).getD t10_28.toNat 0 + 1))).length], aI 3 o1_29, aB 4 o2_30, aI 3 ((copyL o3_31 0 ((o3_31).length) o1_29).set t10_28.toNat (IntKind.wrap .i64 ((copyL o3_31 0 ((o3_31).length) o1_29).getD t10_28.toNat 0 + 1)))]⟩) (sub_gen [0, 1, 2, 3] rfl rfl ⟨zc rfl rfl, zc rfl rfl, zc rfl rfl, zc rfl rfl, zc rfl rfl, trivial⟩ ⟨⟨_, rfl, ⟨ii rfl rfl, ii rfl rfl, ii rfl rfl, ii rfl rfl, .inl ⟨rfl, congrArg (Cell.own 3) (List.length_set : ((copyL o3_31 0 ((o3_31).length) o1_29).set t10_28.toNat (IntKind.wrap .i64 ((copyL o3_31 0 ((o3_31).length) o1_29).getD t10_28.toNat 0 + 1))).length = (copyL o3_31 0 ((o3_31).length) o1_29).length).symm⟩, trivial⟩⟩, oa rfl, oa rfl, oa rfl, trivial⟩) ?_
              refine SOps.nil ?_
              refine SCode.seq ?_
              obtain ⟨c_70, g71, h⟩ := bind_out h
              try dsimp only at h
              refine SCode.draw (s' := [(62, .c (.bool c_70)), (61, .c (.own 3 ((copyL o3_31 0 ((o3_31).length) o1_29).set t10_28.toNat (IntKind.wrap .i64 ((copyL o3_31 0 ((o3_31).length) o1_29).getD t10_28.toNat 0 + 1))).length)), (60, .c (.ptr 0 4)), (59, .c (.ptr 0 0)), (58, .c (.ptr 0 0)), (57, .c (.fn 34 1 (cellsG [.eptr 1 ((cInt .i64) a0f0) 0]))), (56, .c (.ptr 0 1)), (55, .c (.ptr 0 0)), (54, .c (.ptr 0 0)), (0, .c (.ptr 0 0)), (3, .c (.bool left_27)), (4, .c (.int .i64 t10_28)), (9, .c (.int .i64 (((a0_v_x).length : Int)))), (10, .c (.int .i64 t10_28))]) mixed [[], [0], [0, 1], [0, 1, 2], [], [4], [4, 5], [4, 5, 6], [0, 1, 2, 3, 4, 5, 6, 7]] 9 0 rfl rfl ?_ ?_
              · refine QChain.run rfl (.plain rfl) rfl (q_move rfl rfl) ?_
                refine QChain.run rfl (.plain rfl) rfl (q_nilCheck rfl rfl rfl) ?_
                refine QChain.run rfl (.plain rfl) rfl (q_field_ptr rfl rfl fd54_1) ?_
                refine QChain.run rfl (.plain rfl) rfl (q_load_ptr rfl rfl rfl rfl ty35) ?_
                refine QChain.run rfl (.plain rfl) rfl (q_move rfl rfl) ?_
                refine QChain.run rfl (.plain rfl) rfl (q_nilCheck rfl rfl rfl) ?_
                refine QChain.run rfl (.plain rfl) rfl (q_field_ptr rfl rfl fd54_4) ?_
                refine QChain.run rfl (.plain rfl) rfl (q_load_ptr rfl rfl rfl rfl ty22) ?_
                refine QChain.run rfl (.plain rfl) rfl (q_callv (cs := [.eptr 1 ((cInt .i64) a0f0) 0]) (chargenetlaw10_sum_1_ok F ((copyL o3_31 0 ((o3_31).length) o1_29).set t10_28.toNat (IntKind.wrap .i64 ((copyL o3_31 0 ((o3_31).length) o1_29).getD t10_28.toNat 0 + 1))) a0f0 c_70 g71) [3] rfl rfl fn34 ⟨⟨_, rfl, .inr (.inl ⟨_, _, _, _, _, _, _, rfl, rfl, rfl, Nat.le_refl _, fun _ _ _ _ => rfl, (.head _)⟩)⟩, ⟨_, rfl, .inl ⟨rfl, rfl⟩⟩, trivial⟩ (.inr rfl)) ?_
                exact QChain.nil _ _
              refine (show SOps _ _ _ [] _ _ from ?_)
              refine SOps.sub (st' := ⟨[(0, .c (.ptr 0 0)), (3, .c (.bool left_27)), (4, .c (.int .i64 t10_28)), (9, .c (.int .i64 (((a0_v_x).length : Int)))), (10, .c (.int .i64 t10_28)), (62, .c (.bool c_70))], [.box [vI a0_v_caps, .fn 34 1 (cellsG [.eptr 1 ((cInt .i64) a0f0) 0]), .own 1 o1_29.length, .own 2 o2_30.length, .own 3 ((copyL o3_31 0 ((o3_31).length) o1_29).set t10_28.toNat (IntKind.wrap .i64 ((copyL o3_31 0 ((o3_31).length) o1_29).getD t10_28.toNat 0 + 1))).length], aI 3 o1_29, aB 4 o2_30, aI 3 ((copyL o3_31 0 ((o3_31).length) o1_29).set t10_28.toNat (IntKind.wrap .i64 ((copyL o3_31 0 ((o3_31).length) o1_29).getD t10_28.toNat 0 + 1)))]⟩) (sub_gen [0, 1, 2, 3] rfl rfl ⟨zc rfl rfl, zc rfl rfl, zc rfl rfl, zc rfl rfl, zc rfl rfl, zc rfl rfl, trivial⟩ ⟨⟨_, rfl, ⟨ii rfl rfl, ii rfl rfl, ii rfl rfl, ii rfl rfl, ii rfl rfl, trivial⟩⟩, oa rfl, oa rfl, oa rfl, trivial⟩) ?_
              refine SOps.nil ?_
              rcases cond_out h with ⟨g72, h⟩ | ⟨g72, h⟩
              · refine SCode.cond_t rfl g72 ?_
                refine SCode.seq ?_
                obtain ⟨g73, h⟩ := guard_out h
                obtain ⟨g74, h⟩ := guard_out h
                refine SCode.region (show SOps _ _ _ [0, 1, 2, 3, 4, 5, 6, 7, 8, 9] _ _ from ?_)
                refine SOps.q rfl (.plain rfl) rfl (q_move rfl rfl) ?_
                refine SOps.q rfl (.plain rfl) rfl (q_nilCheck rfl rfl rfl) ?_
                refine SOps.q rfl (.plain rfl) rfl (q_field_ptr rfl rfl fd54_2) ?_
                refine SOps.q rfl (.plain rfl) rfl (q_load_ptr rfl rfl rfl rfl ty22) ?_
                refine SOps.q rfl (.plain rfl) rfl (q_move rfl rfl) ?_
                refine SOps.q rfl (.plain rfl) rfl (q_index_own rfl rfl rfl sl22 g73.1 g73.2) ?_
                refine SOps.q rfl (.plain rfl) rfl (q_load_aptr rfl rfl rfl (toNat_lt g73) rfl ty3) ?_
                refine SOps.q rfl (.plain rfl) rfl (q_add rfl rfl rfl) ?_
                refine SOps.q rfl (.plain rfl) rfl (q_index_own rfl rfl rfl sl22 g74.1 g74.2) ?_
                refine SOps.e rfl (.plain rfl) (e_storeL (IntKind.wrap .i64 (o1_29.getD t10_28.toNat 0 + 1)) rfl rfl rfl rfl rfl (toNat_lt g74) ty3 rfl rfl rfl rfl rfl rfl) ?_
                refine SOps.sub (st' := ⟨[(0, .c (.ptr 0 0)), (9, .c (.int .i64 (((a0_v_x).length : Int)))), (10, .c (.int .i64 t10_28))], [.box [vI a0_v_caps, .fn 34 1 (cellsG [.eptr 1 ((cInt .i64) a0f0) 0]), .own 1 (o1_29.set t10_28.toNat (IntKind.wrap .i64 (o1_29.getD t10_28.toNat 0 + 1))).length, .own 2 o2_30.length, .own 3 ((copyL o3_31 0 ((o3_31).length) o1_29).set t10_28.toNat (IntKind.wrap .i64 ((copyL o3_31 0 ((o3_31).length) o1_29).getD t10_28.toNat 0 + 1))).length], aI 3 (o1_29.set t10_28.toNat (IntKind.wrap .i64 (o1_29.getD t10_28.toNat 0 + 1))), aB 4 o2_30, aI 3 ((copyL o3_31 0 ((o3_31).length) o1_29).set t10_28.toNat (IntKind.wrap .i64 ((copyL o3_31 0 ((o3_31).length) o1_29).getD t10_28.toNat 0 + 1)))]⟩) (sub_gen [0, 1, 2, 3] rfl rfl ⟨zc rfl rfl, zc rfl rfl, zc rfl rfl, trivial⟩ ⟨⟨_, rfl, ⟨ii rfl rfl, ii rfl rfl, .inl ⟨rfl, congrArg (Cell.own 1) (List.length_set : (o1_29.set t10_28.toNat (IntKind.wrap .i64 (o1_29.getD t10_28.toNat 0 + 1))).length = o1_29.length).symm⟩, ii rfl rfl, ii rfl rfl, trivial⟩⟩, oa rfl, oa rfl, oa rfl, trivial⟩) ?_
                refine SOps.nil ?_
                refine SCode.seq ?_
                refine SCode.region (show SOps _ _ _ [0] _ _ from ?_)
                refine SOps.q rfl (.plain rfl) rfl (q_assign rfl rfl) ?_
                refine SOps.sub (st' := ⟨[(0, .c (.ptr 0 0)), (3, .c (.bool true)), (9, .c (.int .i64 (((a0_v_x).length : Int)))), (10, .c (.int .i64 t10_28))], [.box [vI a0_v_caps, .fn 34 1 (cellsG [.eptr 1 ((cInt .i64) a0f0) 0]), .own 1 (o1_29.set t10_28.toNat (IntKind.wrap .i64 (o1_29.getD t10_28.toNat 0 + 1))).length, .own 2 o2_30.length, .own 3 ((copyL o3_31 0 ((o3_31).length) o1_29).set t10_28.toNat (IntKind.wrap .i64 ((copyL o3_31 0 ((o3_31).length) o1_29).getD t10_28.toNat 0 + 1))).length], aI 3 (o1_29.set t10_28.toNat (IntKind.wrap .i64 (o1_29.getD t10_28.toNat 0 + 1))), aB 4 o2_30, aI 3 ((copyL o3_31 0 ((o3_31).length) o1_29).set t10_28.toNat (IntKind.wrap .i64 ((copyL o3_31 0 ((o3_31).length) o1_29).getD t10_28.toNat 0 + 1)))]⟩) (sub_gen [0, 1, 2, 3] rfl rfl ⟨zc rfl rfl, zc rfl rfl, zc rfl rfl, zc rfl rfl, trivial⟩ ⟨⟨_, rfl, ⟨ii rfl rfl, ii rfl rfl, ii rfl rfl, ii rfl rfl, ii rfl rfl, trivial⟩⟩, oa rfl, oa rfl, oa rfl, trivial⟩) ?_
                refine SOps.nil ?_
                refine SCode.exit ?_
                exact ⟨(true, o1_29.set t10_28.toNat (IntKind.wrap .i64 (o1_29.getD t10_28.toNat 0 + 1)), o2_30, (copyL o3_31 0 ((o3_31).length) o1_29).set t10_28.toNat (IntKind.wrap .i64 ((copyL o3_31 0 ((o3_31).length) o1_29).getD t10_28.toNat 0 + 1))), h, sub_gen [0, 1, 2, 3] rfl rfl ⟨zc rfl rfl, zc rfl rfl, zc rfl rfl, zc rfl rfl, trivial⟩ ⟨⟨_, rfl, ⟨ii rfl rfl, ii rfl rfl, ii rfl rfl, ii rfl rfl, ii rfl rfl, trivial⟩⟩, oa rfl, oa rfl, oa rfl, trivial⟩⟩
              refine SCode.cond_f rfl g72 ?_
              refine SCode.skip ?_
              exact ⟨(copyL o3_31 0 ((o3_31).length) o1_29).set t10_28.toNat (IntKind.wrap .i64 ((copyL o3_31 0 ((o3_31).length) o1_29).getD t10_28.toNat 0 + 1)), h, sub_gen [0, 1, 2, 3] rfl rfl ⟨zc rfl rfl, zc rfl rfl, zc rfl rfl, zc rfl rfl, zc rfl rfl, trivial⟩ ⟨⟨_, rfl, ⟨ii rfl rfl, ii rfl rfl, ii rfl rfl, ii rfl rfl, ii rfl rfl, trivial⟩⟩, oa rfl, oa rfl, oa rfl, trivial⟩⟩
            refine SCode.cond_f rfl g67 ?_
            refine SCode.skip ?_
            exact ⟨o3_31, h, sub_gen [0, 1, 2, 3] rfl rfl ⟨zc rfl rfl, zc rfl rfl, zc rfl rfl, zc rfl rfl, zc rfl rfl, trivial⟩ ⟨⟨_, rfl, ⟨ii rfl rfl, ii rfl rfl, ii rfl rfl, ii rfl rfl, ii rfl rfl, trivial⟩⟩, oa rfl, oa rfl, oa rfl, trivial⟩⟩
          rintro o3_62 h
          show SCode _ _ _ ⟨[(0, .c (.ptr 0 0)), (3, .c (.bool left_27)), (4, .c (.int .i64 t10_28)), (9, .c (.int .i64 (((a0_v_x).length : Int)))), (10, .c (.int .i64 t10_28))], [.box [vI a0_v_caps, .fn 34 1 (cellsG [.eptr 1 ((cInt .i64) a0f0) 0]), .own 1 o1_29.length, .own 2 o2_30.length, .own 3 o3_62.length], aI 3 o1_29, aB 4 o2_30, aI 3 o3_62]⟩ _
          replace h : fair_division_single_f0_p34_p64 left_27 t10_28 o1_29 o2_30 (fun left_27 t10_28 o1_29 o2_30 o3_31 => fair_division_single_f0_p34_l53 F a0_v_caps a0f0 a0_v_x n_53 left_27 t10_28 o1_29 o2_30 o3_31) o3_62 = some r := h
          unfold fair_division_single_f0_p34_p64 at h
          obtain ⟨g63, h⟩ := guard_out h
          refine SCode.region (show SOps _ _ _ [0, 1, 2, 3, 4, 5, 6] _ _ from ?_)
          refine SOps.q rfl (.plain rfl) rfl (q_move rfl rfl) ?_
          refine SOps.q rfl (.plain rfl) rfl (q_nilCheck rfl rfl rfl) ?_
          refine SOps.q rfl (.plain rfl) rfl (q_field_ptr rfl rfl fd54_3) ?_
          refine SOps.q rfl (.plain rfl) rfl (q_load_ptr rfl rfl rfl rfl ty52) ?_
          refine SOps.q rfl (.plain rfl) rfl (q_move rfl rfl) ?_
          refine SOps.q rfl (.plain rfl) rfl (q_index_own rfl rfl rfl sl52 g63.1 g63.2) ?_
          refine SOps.e rfl (.plain rfl) (e_storeL false rfl rfl rfl rfl rfl (toNat_lt g63) ty4 rfl rfl rfl rfl rfl rfl) ?_
          refine SOps.sub (st' := ⟨[(0, .c (.ptr 0 0)), (3, .c (.bool left_27)), (9, .c (.int .i64 (((a0_v_x).length : Int)))), (10, .c (.int .i64 t10_28))], [.box [vI a0_v_caps, .fn 34 1 (cellsG [.eptr 1 ((cInt .i64) a0f0) 0]), .own 1 o1_29.length, .own 2 (o2_30.set t10_28.toNat false).length, .own 3 o3_62.length], aI 3 o1_29, aB 4 (o2_30.set t10_28.toNat false), aI 3 o3_62]⟩) (sub_gen [0, 1, 2, 3] rfl rfl ⟨zc rfl rfl, zc rfl rfl, zc rfl rfl, zc rfl rfl, trivial⟩ ⟨⟨_, rfl, ⟨ii rfl rfl, ii rfl rfl, ii rfl rfl, .inl ⟨rfl, congrArg (Cell.own 2) (List.length_set : (o2_30.set t10_28.toNat false).length = o2_30.length).symm⟩, ii rfl rfl, trivial⟩⟩, oa rfl, oa rfl, oa rfl, trivial⟩) ?_
          refine SOps.nil ?_
          exact ⟨(left_27, o1_29, o2_30.set t10_28.toNat false, o3_62), h, sub_gen [0, 1, 2, 3] rfl rfl ⟨zc rfl rfl, zc rfl rfl, zc rfl rfl, zc rfl rfl, trivial⟩ ⟨⟨_, rfl, ⟨ii rfl rfl, ii rfl rfl, ii rfl rfl, ii rfl rfl, ii rfl rfl, trivial⟩⟩, oa rfl, oa rfl, oa rfl, trivial⟩⟩
        rintro ⟨left_55, o1_56, o2_58, o3_57⟩ h
        show SCode _ _ _ ⟨[(0, .c (.ptr 0 0)), (3, .c (.bool left_55)), (9, .c (.int .i64 (((a0_v_x).length : Int)))), (10, .c (.int .i64 t10_28))], [.box [vI a0_v_caps, .fn 34 1 (cellsG [.eptr 1 ((cInt .i64) a0f0) 0]), .own 1 o1_56.length, .own 2 o2_58.length, .own 3 o3_57.length], aI 3 o1_56, aB 4 o2_58, aI 3 o3_57]⟩ _
        replace h : fair_division_single_f0_p34_p59 t10_28 (fun left_27 t10_28 o1_29 o2_30 o3_31 => fair_division_single_f0_p34_l53 F a0_v_caps a0f0 a0_v_x n_53 left_27 t10_28 o1_29 o2_30 o3_31) left_55 o1_56 o2_58 o3_57 = some r := h
        unfold fair_division_single_f0_p34_p59 at h
        refine SCode.region (show SOps _ _ _ [0, 1] _ _ from ?_)
        refine SOps.q rfl (.plain rfl) rfl (q_add rfl rfl rfl) ?_
        refine SOps.q rfl (.plain rfl) rfl (q_move rfl rfl) ?_
        refine SOps.sub (st' := ⟨[(0, .c (.ptr 0 0)), (3, .c (.bool left_55)), (9, .c (.int .i64 (((a0_v_x).length : Int)))), (10, .c (.int .i64 (IntKind.wrap .i64 (t10_28 + 1))))], [.box [vI a0_v_caps, .fn 34 1 (cellsG [.eptr 1 ((cInt .i64) a0f0) 0]), .own 1 o1_56.length, .own 2 o2_58.length, .own 3 o3_57.length], aI 3 o1_56, aB 4 o2_58, aI 3 o3_57]⟩) (sub_gen [0, 1, 2, 3] rfl rfl ⟨zc rfl rfl, zc rfl rfl, zc rfl rfl, zc rfl rfl, trivial⟩ ⟨⟨_, rfl, ⟨ii rfl rfl, ii rfl rfl, ii rfl rfl, ii rfl rfl, ii rfl rfl, trivial⟩⟩, oa rfl, oa rfl, oa rfl, trivial⟩) ?_
        refine SOps.nil ?_
        exact ⟨(n_53, (left_55, IntKind.wrap .i64 (t10_28 + 1), o1_56, o2_58, o3_57)), h, Nat.lt_succ_self n_53, sub_gen [0, 1, 2, 3] rfl rfl ⟨zc rfl rfl, zc rfl rfl, zc rfl rfl, zc rfl rfl, trivial⟩ ⟨⟨_, rfl, ⟨ii rfl rfl, ii rfl rfl, ii rfl rfl, ii rfl rfl, ii rfl rfl, trivial⟩⟩, oa rfl, oa rfl, oa rfl, trivial⟩⟩
      refine SCode.cond_f rfl g54 ?_
      refine SCode.exit ?_
      exact ⟨(left_27, o1_29, o2_30, o3_31), h, sub_gen [0, 1, 2, 3] rfl rfl ⟨zc rfl rfl, trivial⟩ ⟨⟨_, rfl, ⟨ii rfl rfl, ii rfl rfl, ii rfl rfl, ii rfl rfl, ii rfl rfl, trivial⟩⟩, oa rfl, oa rfl, oa rfl, trivial⟩⟩
  rintro ⟨left_1, o1_2, o2_3, o3_4⟩ h
  show SCode _ _ _ ⟨[(3, .c (.bool left_1))], [.box [vI a0_v_caps, .fn 34 1 (cellsG [.eptr 1 ((cInt .i64) a0f0) 0]), .own 1 o1_2.length, .own 2 o2_3.length, .own 3 o3_4.length], aI 3 o1_2, aB 4 o2_3, aI 3 o3_4]⟩ _
  replace h : fair_division_single_f0_p34_p5 left_1 o1_2 o2_3 o3_4 = some r := h
  unfold fair_division_single_f0_p34_p5 at h
  refine SCode.seq ?_
  refine SCode.region (show SOps _ _ _ [0, 1] _ _ from ?_)
  refine SOps.q rfl (.plain rfl) rfl (q_move rfl rfl) ?_
  refine SOps.q rfl (.plain rfl) rfl (q_assign rfl rfl) ?_
  refine SOps.sub (st' := ⟨[(2, .c (.bool left_1))], [.box [vI a0_v_caps, .fn 34 1 (cellsG [.eptr 1 ((cInt .i64) a0f0) 0]), .own 1 o1_2.length, .own 2 o2_3.length, .own 3 o3_4.length], aI 3 o1_2, aB 4 o2_3, aI 3 o3_4]⟩) (sub_gen [0, 1, 2, 3] rfl rfl ⟨zc rfl rfl, trivial⟩ ⟨⟨_, rfl, ⟨ii rfl rfl, ii rfl rfl, ii rfl rfl, ii rfl rfl, ii rfl rfl, trivial⟩⟩, oa rfl, oa rfl, oa rfl, trivial⟩) ?_
  refine SOps.nil ?_
  refine SCode.ret ?_
  obtain rfl := Option.some.inj h
  exact ⟨⟨[(2, .c (.bool left_1))], [.box [vI a0_v_caps, .fn 34 1 (cellsG [.eptr 1 ((cInt .i64) a0f0) 0]), .own 1 o1_2.length, .own 2 o2_3.length, .own 3 o3_4.length], aI 3 o1_2, aB 4 o2_3, aI 3 o3_4]⟩, _, sub_gen [0, 1, 2, 3] rfl rfl ⟨zc rfl rfl, trivial⟩ ⟨⟨_, rfl, ⟨ii rfl rfl, ii rfl rfl, ii rfl rfl, ii rfl rfl, ii rfl rfl, trivial⟩⟩, oa rfl, oa rfl, oa rfl, trivial⟩, resA1 (v := .c (.bool left_1)) rfl rfl, ⟨rfl, rfl⟩⟩
end Go.Proofs.Ythpblkclpfmbeaa.W
