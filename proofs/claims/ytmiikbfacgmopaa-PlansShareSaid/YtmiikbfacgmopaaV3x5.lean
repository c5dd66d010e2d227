/- Written by a program of ours (wip/eng/gen.py): the functions compute their models. -/
import Derived.Test.YtmiikbfacgmopaaFacts
import Derived.Test.YtmiikbfacgmopaaV3x4
namespace Go.Proofs.Ytmiikbfacgmopaa.W
open Go Go.Proofs Go.Proofs.Ytmiikbfacgmopaa.E Go.Proofs.Ytmiikbfacgmopaa.M
set_option linter.unusedVariables false
set_option maxRecDepth 100000
set_option maxHeartbeats 8000000
theorem plan_Schedule_ok (F : Nat) (a0_p : SProblem) (a1_energy : List Int) (r : (List (List Int)) × Int) (h : plan_Schedule F a0_p a1_energy = some r) :
  SFun Try.prog 6 [] [.a (bSProblem a0_p), .c (vI a1_energy)] (fun x _ => x = .t [.c (vR r.1), .c (.int .i64 r.2)]) := by
 refine SFun.of (n := 76) Try.func6 rfl rfl rfl ?_
 unfold plan_Schedule at h
 show SCode _ _ _ ⟨[(0, .a (bSProblem a0_p)), (1, .c (vI a1_energy))], []⟩ _
 refine SCode.seq (SCode.region (se rfl rfl (e_box rfl rfl rfl rfl rfl rfl) (sa rfl rfl (sa rfl rfl (SOps.nil (SCode.seq (SCode.seq ?_)))))))
 obtain ⟨c_1, g2, h⟩ := bind_out h
 try dsimp only at h
 refine SCode.region (sq rfl rfl (q_load_ptr_all rfl rfl rfl rfl rfl ty26) (sm rfl rfl (sq rfl rfl (q_call (plan_check_ok F a0_p a1_energy c_1 g2) [] rfl fn17 ⟨⟨rfl, rfl⟩, ⟨_, rfl, .inl ⟨rfl, rfl⟩⟩, trivial⟩ (.inl rfl)) (sa rfl rfl (SOps.nil (SCode.seq (SCode.region (sm rfl rfl (sq rfl rfl (q_neq rfl rfl rfl) (SOps.nil ?_))))))))))
 rcases cond_out h with ⟨g3, h⟩ | ⟨g3, h⟩
 ·refine SCode.cond_t rfl g3 (SCode.seq (SCode.region (sm rfl rfl (sa rfl rfl (sa rfl rfl (SOps.nil (SCode.ret ?_)))))))
  obtain rfl := Option.some.inj h
  exact ⟨⟨[(4, .c (vR (([] : List (List Int))))), (5, ci c_1)], []⟩, _, sub_gen [] rfl rfl ⟨⟨_, rfl, .inr (.inr (.inr (.inl ⟨_, _, rfl, rfl⟩)))⟩, zc rfl rfl, trivial⟩ trivial, resA2 (v1 := .c (vR (([] : List (List Int))))) (v2 := .c (.int .i64 c_1)) rfl rfl rfl, rfl⟩
 refine SCode.cond_f rfl g3 (SCode.skip (SCode.seq ?_))
 obtain ⟨c_4, g5, h⟩ := bind_out h
 try dsimp only at h
 obtain ⟨c_6, g7, h⟩ := bind_out h
 try dsimp only at h
 obtain ⟨g8, h⟩ := guard_out h
 refine SCode.region (sq rfl rfl (q_load_ptr_all rfl rfl rfl rfl rfl ty26) (se rfl rfl (e_call (plan_network_own_ok F a0_p c_4 g5) [] rfl fn9 rfl rfl rfl rfl rfl rfl rfl rfl) (sm rfl rfl (se rfl rfl (e_call (plan_route_ok F c_4 a1_energy c_6 g7) [1] rfl fn12 rfl rfl rfl rfl rfl rfl rfl rfl) (sm rfl rfl (sq rfl rfl (q_extract rfl rfl rfl) (sq rfl rfl (q_extract rfl rfl rfl) (sa rfl rfl (sa rfl rfl (SOps.sub (st' := ⟨[(2, .c (.ptr 0 0)), (7, .c (vI c_6.1)), (8, .c (.bool c_6.2.1))], [.box (bSProblem a0_p)]⟩) (sub_gen [0] rfl rfl (zall rfl rfl) ⟨bx rfl rfl rfl, trivial⟩) (SOps.nil (SCode.seq (SCode.seq (SCode.region (sm rfl rfl ?_)))))))))))))))
 refine sq rfl rfl (q_not rfl rfl) (SOps.nil ?_)
 rcases cond_out h with ⟨g9, h⟩ | ⟨g9, h⟩
 ·refine SCode.cond_t rfl g9 (SCode.seq (SCode.region (sa rfl rfl (sa rfl rfl (SOps.nil (SCode.ret ?_))))))
  obtain rfl := Option.some.inj h
  exact ⟨⟨[(4, .c (vR (([] : List (List Int))))), (5, ci 3)], []⟩, _, sub_gen [] rfl rfl ⟨⟨_, rfl, .inr (.inr (.inr (.inl ⟨_, _, rfl, rfl⟩)))⟩, zc rfl rfl, trivial⟩ trivial, resA2 (v1 := .c (vR (([] : List (List Int))))) (v2 := .c (.int .i64 3)) rfl rfl rfl, rfl⟩
 refine SCode.cond_f rfl g9 (SCode.skip (SCode.seq (SCode.region (sq rfl rfl (q_field_ptr rfl rfl fd26_4) (sq rfl rfl (q_load_ptr rfl rfl rfl rfl ty24) (sq rfl rfl (q_len_vec rfl rfl sl24) (sa rfl rfl (SOps.nil (SCode.seq ?_)))))))))
 obtain ⟨g10, h⟩ := guard_out h
 refine SCode.region (sq rfl rfl (q_field_ptr rfl rfl fd26_4) (sq rfl rfl (q_load_ptr rfl rfl rfl rfl ty24) (sq rfl rfl (q_len_vec rfl rfl sl24) (se rfl rfl (e_makeRows (T := 3) (k := 1) (cInt .i64) 0 rfl rfl rfl rfl rfl sl23 z22 g10.1 (Int.le_refl _) g10.2.1 g10.2.2) (sa rfl rfl ?_)))))
 let y1 := List.replicate (((a0_p.Demands).length : Int)).toNat ([] : List Int)
 refine SOps.sub (st' := ⟨[(2, .c (.ptr 0 0)), (7, .c (vI c_6.1)), (9, ci (((a0_p.Demands).length : Int))), (10, .c (.own 1 y1.length))], [.box (bSProblem a0_p), .rows 22 3 1 y1.length (rLen y1) (rGet (cInt .i64) 0 y1) none]⟩) (sub_gen [0, 1] rfl rfl (zall rfl rfl) ⟨bx rfl rfl rfl, ⟨none, rfl, trivial⟩, trivial⟩) (SOps.nil ?_)
 let S57 := fun (o0_11 : List (List Int)) => (⟨[(10, .c (.own 0 o0_11.length))], [.rows 22 3 1 o0_11.length (rLen o0_11) (rGet (cInt .i64) 0 o0_11) none]⟩ : St)
 refine SCode.join (σ := (List (List Int))) (S := fun s => (S57 s)) (g := fun s => plan_Schedule_p12 s = some r) ?_ ?_
 rotate_left
 ·refine SCode.seq (SCode.region (sq rfl rfl (q_field_ptr rfl rfl fd26_4) (sq rfl rfl (q_load_ptr rfl rfl rfl rfl ty24) (sq rfl rfl (q_len_vec rfl rfl sl24) (sm rfl rfl ?_)))))
  let y2 := List.replicate (((a0_p.Demands).length : Int)).toNat ([] : List Int)
  refine SOps.sub (st' := ⟨[(2, .c (.ptr 0 0)), (7, .c (vI c_6.1)), (9, ci (((a0_p.Demands).length : Int))), (10, .c (.own 1 y2.length)), (37, .c (vSDemand a0_p.Demands)), (38, ci (((a0_p.Demands).length : Int))), (39, ci 0)], [.box (bSProblem a0_p), .rows 22 3 1 y2.length (rLen y2) (rGet (cInt .i64) 0 y2) none]⟩) (sub_gen [0, 1] rfl rfl (zall rfl rfl) ⟨bx rfl rfl rfl, ⟨none, rfl, trivial⟩, trivial⟩) (SOps.nil (SCode.block ?_))
  let S56 := fun (next_63 : Int) => fun (t39_64 : Int) => fun (o1_65 : List (List Int)) => (⟨[(2, .c (.ptr 0 0)), (7, .c (vI c_6.1)), (9, ci next_63), (10, .c (.own 1 o1_65.length)), (37, .c (vSDemand a0_p.Demands)), (38, ci (((a0_p.Demands).length : Int))), (39, ci t39_64)], [.box (bSProblem a0_p), .rows 22 3 1 o1_65.length (rLen o1_65) (rGet (cInt .i64) 0 o1_65) none]⟩ : St)
  refine SCode.sub (st' := (S56 (((a0_p.Demands).length : Int)) 0 (List.replicate (((a0_p.Demands).length : Int)).toNat ([] : List Int)))) (sub_gen [0, 1] rfl rfl (zall rfl rfl) ⟨bx rfl rfl rfl, ⟨none, rfl, trivial⟩, trivial⟩) ?_
  refine (SCode.loop (σ := Nat × (Int × Int × (List (List Int)))) (S := fun s => (S56 s.2.1 s.2.2.1 s.2.2.2)) (g := fun s => plan_Schedule_l116 F a0_p c_6 s.1 s.2.1 s.2.2.1 s.2.2.2 = some r) (μ := fun s => s.1) (F, (((a0_p.Demands).length : Int), 0, List.replicate (((a0_p.Demands).length : Int)).toNat ([] : List Int))) h ?_)
  rintro ⟨n_116, ⟨next_63, t39_64, o1_65⟩⟩ h
  try dsimp only at h
  show SCode _ _ _ (S56 next_63 t39_64 o1_65) _
  cases n_116 with
  | zero => cases h
  | succ n_116 =>
   rw [plan_Schedule_l116] at h
   unfold plan_Schedule_b116 at h
   refine SCode.seq (SCode.region (sq rfl rfl (q_lss rfl rfl rfl) (SOps.sub (st' := ⟨[(2, .c (.ptr 0 0)), (7, .c (vI c_6.1)), (9, ci next_63), (10, .c (.own 1 o1_65.length)), (37, .c (vSDemand a0_p.Demands)), (38, ci (((a0_p.Demands).length : Int))), (39, ci t39_64), (40, .c (.bool (decide (t39_64 < ((a0_p.Demands).length : Int)))))], [.box (bSProblem a0_p), .rows 22 3 1 o1_65.length (rLen o1_65) (rGet (cInt .i64) 0 o1_65) none]⟩) (sub_gen [0, 1] rfl rfl (zall rfl rfl) ⟨bx rfl rfl rfl, ⟨none, rfl, trivial⟩, trivial⟩) (SOps.nil (SCode.seq ?_)))))
   rcases cond_out h with ⟨g117, h⟩ | ⟨g117, h⟩
   ·refine SCode.cond_t rfl g117 (SCode.skip ?_)
    let S55 := fun (next_118 : Int) => fun (o1_119 : List (List Int)) => (⟨[(2, .c (.ptr 0 0)), (7, .c (vI c_6.1)), (9, ci next_118), (10, .c (.own 1 o1_119.length)), (37, .c (vSDemand a0_p.Demands)), (38, ci (((a0_p.Demands).length : Int))), (39, ci t39_64)], [.box (bSProblem a0_p), .rows 22 3 1 o1_119.length (rLen o1_119) (rGet (cInt .i64) 0 o1_119) none]⟩ : St)
    refine SCode.join (σ := Int × (List (List Int))) (S := fun s => (S55 s.1 s.2)) (g := fun s => plan_Schedule_p120 t39_64 (fun next_63 t39_64 o1_65 => plan_Schedule_l116 F a0_p c_6 n_116 next_63 t39_64 o1_65) s.1 s.2 = some r) ?_ ?_
    rotate_left
    ·refine SCode.block (SCode.seq ?_)
     obtain ⟨g121, h⟩ := guard_out h
     refine SCode.region (sm rfl rfl (sq rfl rfl (q_index_vec rfl rfl rfl sl24 rfl g121.1 g121.2) (sq rfl rfl (q_load_eptr_all rfl rfl rfl ty28) (se rfl rfl (e_alloc rfl rfl rfl z28) (sa rfl rfl (se rfl rfl (e_store_box rfl rfl rfl rfl rfl ty28 rfl rfl rfl rfl) (SOps.sub (st' := ⟨[(2, .c (.ptr 0 0)), (7, .c (vI c_6.1)), (9, ci next_63), (10, .c (.own 1 o1_65.length)), (11, ci t39_64), (12, .c (.ptr 2 0)), (37, .c (vSDemand a0_p.Demands)), (38, ci (((a0_p.Demands).length : Int))), (39, ci t39_64)], [.box (bSProblem a0_p), .rows 22 3 1 o1_65.length (rLen o1_65) (rGet (cInt .i64) 0 o1_65) none, .box (bSDemand (a0_p.Demands.getD t39_64.toNat dSDemand))]⟩) (sub_gen [0, 1, 2] rfl rfl (zall rfl rfl) ⟨bx rfl rfl rfl, ⟨none, rfl, trivial⟩, bx rfl rfl rfl, trivial⟩) (SOps.nil (SCode.seq ?_)))))))))
     obtain ⟨g124, h⟩ := guard_out h
     refine SCode.sub (st' := ⟨[(2, .c (.ptr 0 0)), (7, .c (vI c_6.1)), (9, ci next_63), (10, .c (.own 1 o1_65.length)), (11, ci t39_64), (12, .c (.ptr 2 0)), (37, .c (vSDemand a0_p.Demands)), (38, ci (((a0_p.Demands).length : Int))), (39, ci t39_64)], [.box (bSProblem a0_p), .rows 22 3 1 o1_65.length (rLen o1_65) (rGet (cInt .i64) 0 o1_65) (some (t39_64.toNat, .own 3 (o1_65.getD t39_64.toNat []).length)), .box (bSDemand (a0_p.Demands.getD t39_64.toNat dSDemand)), aI 3 (o1_65.getD t39_64.toNat [])]⟩) (Sub.focus (F := 1) (h := t39_64.toNat) rfl (toNat_lt g124)) ?_
     obtain ⟨g125, h⟩ := guard_out h
     obtain ⟨g126, h⟩ := guard_out h
     refine SCode.region (sm rfl rfl (sm rfl rfl (sq rfl rfl (q_field_ptr rfl rfl fd26_1) (sq rfl rfl (q_load_ptr rfl rfl rfl rfl ty23) (sq rfl rfl (q_len_vec rfl rfl sl23) (se rfl rfl (e_makeL (c := (cInt .i64)) (d0 := 0) rfl rfl rfl rfl rfl sl22 z3 rfl rfl rfl g125.1 (Int.le_refl _) g125.2.1 g125.2.2) (sq rfl rfl (q_index_own rfl rfl rfl sl23 g126.1 g126.2) (se rfl rfl (e_store_hole rfl rfl rfl rfl rfl (toNat_lt g126) ty22 rfl) ?_))))))))
     let y3 := o1_65.set t39_64.toNat (List.replicate (((a0_p.Caps).length : Int)).toNat (0 : Int))
     refine SOps.sub (st' := ⟨[(2, .c (.ptr 0 0)), (7, .c (vI c_6.1)), (9, ci next_63), (10, .c (.own 1 y3.length)), (11, ci t39_64), (12, .c (.ptr 2 0)), (37, .c (vSDemand a0_p.Demands)), (38, ci (((a0_p.Demands).length : Int))), (39, ci t39_64)], [.box (bSProblem a0_p), .rows 22 3 1 y3.length (rLen y3) (rGet (cInt .i64) 0 y3) none, .box (bSDemand (a0_p.Demands.getD t39_64.toNat dSDemand))]⟩) (Sub.trans (Sub.unfocusL (F := 1) (j := 4) rfl rfl rfl) (sub_gen [0, 1, 2] rfl rfl ⟨zc rfl rfl, zc rfl rfl, zc rfl rfl, ⟨_, rfl, .inl ⟨rfl, congrArg (Cell.own 1) (List.length_set : y3.length = o1_65.length).symm⟩⟩, zc rfl rfl, zc rfl rfl, zc rfl rfl, zc rfl rfl, zc rfl rfl, trivial⟩ ⟨bx rfl rfl rfl, ⟨none, rfl, trivial⟩, bx rfl rfl rfl, trivial⟩)) (SOps.nil (SCode.seq (SCode.region (sq rfl rfl (q_field_ptr rfl rfl fd26_1) (sq rfl rfl (q_load_ptr rfl rfl rfl rfl ty23) (sq rfl rfl (q_len_vec rfl rfl sl23) (sm rfl rfl ?_)))))))
     let y4 := o1_65.set t39_64.toNat (List.replicate (((a0_p.Caps).length : Int)).toNat (0 : Int))
     refine SOps.sub (st' := ⟨[(2, .c (.ptr 0 0)), (7, .c (vI c_6.1)), (9, ci next_63), (10, .c (.own 1 y4.length)), (11, ci t39_64), (12, .c (.ptr 2 0)), (37, .c (vSDemand a0_p.Demands)), (38, ci (((a0_p.Demands).length : Int))), (39, ci t39_64), (53, ci (((a0_p.Caps).length : Int))), (54, ci 0)], [.box (bSProblem a0_p), .rows 22 3 1 y4.length (rLen y4) (rGet (cInt .i64) 0 y4) none, .box (bSDemand (a0_p.Demands.getD t39_64.toNat dSDemand))]⟩) (sub_gen [0, 1, 2] rfl rfl (zall rfl rfl) ⟨bx rfl rfl rfl, ⟨none, rfl, trivial⟩, bx rfl rfl rfl, trivial⟩) (SOps.nil (SCode.block ?_))
     let S54 := fun (next_139 : Int) => fun (t54_140 : Int) => fun (o1_141 : List (List Int)) => (⟨[(2, .c (.ptr 0 0)), (7, .c (vI c_6.1)), (9, ci next_139), (10, .c (.own 1 o1_141.length)), (11, ci t39_64), (12, .c (.ptr 2 0)), (37, .c (vSDemand a0_p.Demands)), (38, ci (((a0_p.Demands).length : Int))), (39, ci t39_64), (53, ci (((a0_p.Caps).length : Int))), (54, ci t54_140)], [.box (bSProblem a0_p), .rows 22 3 1 o1_141.length (rLen o1_141) (rGet (cInt .i64) 0 o1_141) none, .box (bSDemand (a0_p.Demands.getD t39_64.toNat dSDemand))]⟩ : St)
     refine SCode.sub (st' := (S54 next_63 0 (o1_65.set t39_64.toNat (List.replicate (((a0_p.Caps).length : Int)).toNat (0 : Int))))) (sub_gen [0, 1, 2] rfl rfl (zall rfl rfl) ⟨bx rfl rfl rfl, ⟨none, rfl, trivial⟩, bx rfl rfl rfl, trivial⟩) ?_
     refine (SCode.loop (σ := Nat × (Int × Int × (List (List Int)))) (S := fun s => (S54 s.2.1 s.2.2.1 s.2.2.2)) (g := fun s => plan_Schedule_l154 F a0_p c_6 t39_64 (fun next_63 t39_64 o1_65 => plan_Schedule_l116 F a0_p c_6 n_116 next_63 t39_64 o1_65) s.1 s.2.1 s.2.2.1 s.2.2.2 = some r) (μ := fun s => s.1) (F, (next_63, 0, o1_65.set t39_64.toNat (List.replicate (((a0_p.Caps).length : Int)).toNat (0 : Int)))) h ?_)
     rintro ⟨n_154, ⟨next_139, t54_140, o1_141⟩⟩ h
     try dsimp only at h
     show SCode _ _ _ (S54 next_139 t54_140 o1_141) _
     cases n_154 with
     | zero => cases h
     | succ n_154 =>
      rw [plan_Schedule_l154] at h
      unfold plan_Schedule_b154 at h
      refine SCode.seq (SCode.region (sq rfl rfl (q_lss rfl rfl rfl) (SOps.sub (st' := ⟨[(2, .c (.ptr 0 0)), (7, .c (vI c_6.1)), (9, ci next_139), (10, .c (.own 1 o1_141.length)), (11, ci t39_64), (12, .c (.ptr 2 0)), (37, .c (vSDemand a0_p.Demands)), (38, ci (((a0_p.Demands).length : Int))), (39, ci t39_64), (53, ci (((a0_p.Caps).length : Int))), (54, ci t54_140), (55, .c (.bool (decide (t54_140 < ((a0_p.Caps).length : Int)))))], [.box (bSProblem a0_p), .rows 22 3 1 o1_141.length (rLen o1_141) (rGet (cInt .i64) 0 o1_141) none, .box (bSDemand (a0_p.Demands.getD t39_64.toNat dSDemand))]⟩) (sub_gen [0, 1, 2] rfl rfl (zall rfl rfl) ⟨bx rfl rfl rfl, ⟨none, rfl, trivial⟩, bx rfl rfl rfl, trivial⟩) (SOps.nil (SCode.seq ?_)))))
      rcases cond_out h with ⟨g155, h⟩ | ⟨g155, h⟩
      ·refine SCode.cond_t rfl g155 (SCode.skip ?_)
       let S53 := fun (next_156 : Int) => fun (o1_157 : List (List Int)) => (⟨[(2, .c (.ptr 0 0)), (7, .c (vI c_6.1)), (9, ci next_156), (10, .c (.own 1 o1_157.length)), (11, ci t39_64), (12, .c (.ptr 2 0)), (37, .c (vSDemand a0_p.Demands)), (38, ci (((a0_p.Demands).length : Int))), (39, ci t39_64), (53, ci (((a0_p.Caps).length : Int))), (54, ci t54_140)], [.box (bSProblem a0_p), .rows 22 3 1 o1_157.length (rLen o1_157) (rGet (cInt .i64) 0 o1_157) none, .box (bSDemand (a0_p.Demands.getD t39_64.toNat dSDemand))]⟩ : St)
       refine SCode.join (σ := Int × (List (List Int))) (S := fun s => (S53 s.1 s.2)) (g := fun s => plan_Schedule_p158 t54_140 (fun next_139 t54_140 o1_141 => plan_Schedule_l154 F a0_p c_6 t39_64 (fun next_63 t39_64 o1_65 => plan_Schedule_l116 F a0_p c_6 n_116 next_63 t39_64 o1_65) n_154 next_139 t54_140 o1_141) s.1 s.2 = some r) ?_ ?_
       rotate_left
       ·refine SCode.block (SCode.seq (SCode.region (sm rfl rfl (sa rfl rfl (SOps.sub (st' := ⟨[(2, .c (.ptr 0 0)), (7, .c (vI c_6.1)), (9, ci next_139), (10, .c (.own 1 o1_141.length)), (11, ci t39_64), (12, .c (.ptr 2 0)), (13, ci t54_140), (37, .c (vSDemand a0_p.Demands)), (38, ci (((a0_p.Demands).length : Int))), (39, ci t39_64), (53, ci (((a0_p.Caps).length : Int))), (54, ci t54_140)], [.box (bSProblem a0_p), .rows 22 3 1 o1_141.length (rLen o1_141) (rGet (cInt .i64) 0 o1_141) none, .box (bSDemand (a0_p.Demands.getD t39_64.toNat dSDemand))]⟩) (sub_gen [0, 1, 2] rfl rfl (zall rfl rfl) ⟨bx rfl rfl rfl, ⟨none, rfl, trivial⟩, bx rfl rfl rfl, trivial⟩) (SOps.nil (SCode.seq ?_)))))))
        obtain ⟨c_159, g160, h⟩ := bind_out h
        try dsimp only at h
        refine SCode.region (sq rfl rfl (q_load_ptr_all rfl rfl rfl rfl rfl ty26) (sq rfl rfl (q_load_ptr_all rfl rfl rfl rfl rfl ty28) (sm rfl rfl (sq rfl rfl (q_call (plan_usable_ok F a0_p (a0_p.Demands.getD t39_64.toNat dSDemand) t54_140 c_159 g160) [] rfl fn18 ⟨⟨rfl, rfl⟩, ⟨rfl, rfl⟩, ⟨_, rfl, .inl ⟨rfl, rfl⟩⟩, trivial⟩ (.inl rfl)) (SOps.sub (st' := ⟨[(2, .c (.ptr 0 0)), (7, .c (vI c_6.1)), (9, ci next_139), (10, .c (.own 1 o1_141.length)), (11, ci t39_64), (12, .c (.ptr 2 0)), (13, ci t54_140), (37, .c (vSDemand a0_p.Demands)), (38, ci (((a0_p.Demands).length : Int))), (39, ci t39_64), (53, ci (((a0_p.Caps).length : Int))), (54, ci t54_140), (60, .c (.bool c_159))], [.box (bSProblem a0_p), .rows 22 3 1 o1_141.length (rLen o1_141) (rGet (cInt .i64) 0 o1_141) none, .box (bSDemand (a0_p.Demands.getD t39_64.toNat dSDemand))]⟩) (sub_gen [0, 1, 2] rfl rfl (zall rfl rfl) ⟨bx rfl rfl rfl, ⟨none, rfl, trivial⟩, bx rfl rfl rfl, trivial⟩) (SOps.nil ?_))))))
        rcases cond_out h with ⟨g161, h⟩ | ⟨g161, h⟩
        ·refine SCode.cond_t rfl g161 (SCode.seq ?_)
         obtain ⟨g163, h⟩ := guard_out h
         refine SCode.sub (st' := ⟨[(2, .c (.ptr 0 0)), (7, .c (vI c_6.1)), (9, ci next_139), (10, .c (.own 1 o1_141.length)), (11, ci t39_64), (12, .c (.ptr 2 0)), (13, ci t54_140), (37, .c (vSDemand a0_p.Demands)), (38, ci (((a0_p.Demands).length : Int))), (39, ci t39_64), (53, ci (((a0_p.Caps).length : Int))), (54, ci t54_140), (60, .c (.bool c_159))], [.box (bSProblem a0_p), .rows 22 3 1 o1_141.length (rLen o1_141) (rGet (cInt .i64) 0 o1_141) (some (t39_64.toNat, .own 3 (o1_141.getD t39_64.toNat []).length)), .box (bSDemand (a0_p.Demands.getD t39_64.toNat dSDemand)), aI 3 (o1_141.getD t39_64.toNat [])]⟩) (Sub.focus (F := 1) (h := t39_64.toNat) rfl (toNat_lt g163)) ?_
         obtain ⟨g164, h⟩ := guard_out h
         obtain ⟨g165, h⟩ := guard_out h
         obtain ⟨g166, h⟩ := guard_out h
         refine SCode.drawK mixed [[], [], [0, 1], [0, 1, 2], [], [], [], [5, 6], [5, 6, 7], [0, 1, 2, 3, 4, 5, 6, 7, 8], [0, 1, 2, 3, 4, 5, 6, 7, 8, 9]] 10 1 rfl rfl (qm rfl rfl (qm rfl rfl (qr rfl rfl (q_index_own rfl rfl rfl sl23 g164.1 g164.2) (qr rfl rfl (q_load_hole rfl rfl rfl (toNat_lt g164) ty22) (qm rfl rfl (qm rfl rfl (qm rfl rfl (qr rfl rfl (q_index_vec rfl rfl rfl sl22 rfl g165.1 g165.2) (qr rfl rfl (q_load_eptr rfl rfl ty3) (qr rfl rfl (q_index_own rfl rfl rfl sl22 g166.1 g166.2) (QK.nil (se rfl rfl (e_storeL (c_6.1.getD next_139.toNat 0) rfl rfl rfl rfl rfl (toNat_lt g166) ty3 rfl rfl rfl rfl rfl rfl) ?_))))))))))))
         let y5 := o1_141.set t39_64.toNat ((o1_141.getD t39_64.toNat []).set t54_140.toNat (c_6.1.getD next_139.toNat 0))
         refine SOps.sub (st' := ⟨[(2, .c (.ptr 0 0)), (7, .c (vI c_6.1)), (9, ci next_139), (10, .c (.own 1 y5.length)), (11, ci t39_64), (12, .c (.ptr 2 0)), (37, .c (vSDemand a0_p.Demands)), (38, ci (((a0_p.Demands).length : Int))), (39, ci t39_64), (53, ci (((a0_p.Caps).length : Int))), (54, ci t54_140)], [.box (bSProblem a0_p), .rows 22 3 1 y5.length (rLen y5) (rGet (cInt .i64) 0 y5) none, .box (bSDemand (a0_p.Demands.getD t39_64.toNat dSDemand))]⟩) (Sub.trans (Sub.unfocusL (F := 1) (j := 3) (List.length_set : ((o1_141.getD t39_64.toNat []).set t54_140.toNat (c_6.1.getD next_139.toNat 0)).length = (o1_141.getD t39_64.toNat []).length) rfl rfl) (sub_gen [0, 1, 2] rfl rfl ⟨zc rfl rfl, zc rfl rfl, zc rfl rfl, ⟨_, rfl, .inl ⟨rfl, congrArg (Cell.own 1) (List.length_set : y5.length = o1_141.length).symm⟩⟩, zc rfl rfl, zc rfl rfl, zc rfl rfl, zc rfl rfl, zc rfl rfl, zc rfl rfl, zc rfl rfl, trivial⟩ ⟨bx rfl rfl rfl, ⟨none, rfl, trivial⟩, bx rfl rfl rfl, trivial⟩)) (SOps.nil (SCode.region (sm rfl rfl (sq rfl rfl (q_add rfl rfl rfl) (sa rfl rfl ?_)))))
         let y6 := o1_141.set t39_64.toNat ((o1_141.getD t39_64.toNat []).set t54_140.toNat (c_6.1.getD next_139.toNat 0))
         refine SOps.sub (st' := ⟨[(2, .c (.ptr 0 0)), (7, .c (vI c_6.1)), (9, ci (IntKind.wrap .i64 (next_139 + 1))), (10, .c (.own 1 y6.length)), (11, ci t39_64), (12, .c (.ptr 2 0)), (37, .c (vSDemand a0_p.Demands)), (38, ci (((a0_p.Demands).length : Int))), (39, ci t39_64), (53, ci (((a0_p.Caps).length : Int))), (54, ci t54_140)], [.box (bSProblem a0_p), .rows 22 3 1 y6.length (rLen y6) (rGet (cInt .i64) 0 y6) none, .box (bSDemand (a0_p.Demands.getD t39_64.toNat dSDemand))]⟩) (sub_gen [0, 1, 2] rfl rfl (zall rfl rfl) ⟨bx rfl rfl rfl, ⟨none, rfl, trivial⟩, bx rfl rfl rfl, trivial⟩) (SOps.nil ?_)
         exact ⟨(IntKind.wrap .i64 (next_139 + 1), o1_141.set t39_64.toNat ((o1_141.getD t39_64.toNat []).set t54_140.toNat (c_6.1.getD next_139.toNat 0))), h, sub_gen [0, 1, 2] rfl rfl (zall rfl rfl) ⟨bx rfl rfl rfl, ⟨none, rfl, trivial⟩, bx rfl rfl rfl, trivial⟩⟩
        refine SCode.cond_f rfl g161 (SCode.skip ?_)
        exact ⟨(next_139, o1_141), h, sub_gen [0, 1, 2] rfl rfl (zall rfl rfl) ⟨bx rfl rfl rfl, ⟨none, rfl, trivial⟩, bx rfl rfl rfl, trivial⟩⟩
       rintro ⟨next_156, o1_157⟩ h
       show SCode _ _ _ (S53 next_156 o1_157) _
       try dsimp only at h
       unfold plan_Schedule_p158 at h
       refine SCode.region (sq rfl rfl (q_add rfl rfl rfl) (sm rfl rfl (SOps.sub (st' := ⟨[(2, .c (.ptr 0 0)), (7, .c (vI c_6.1)), (9, ci next_156), (10, .c (.own 1 o1_157.length)), (11, ci t39_64), (12, .c (.ptr 2 0)), (37, .c (vSDemand a0_p.Demands)), (38, ci (((a0_p.Demands).length : Int))), (39, ci t39_64), (53, ci (((a0_p.Caps).length : Int))), (54, ci (IntKind.wrap .i64 (t54_140 + 1)))], [.box (bSProblem a0_p), .rows 22 3 1 o1_157.length (rLen o1_157) (rGet (cInt .i64) 0 o1_157) none, .box (bSDemand (a0_p.Demands.getD t39_64.toNat dSDemand))]⟩) (sub_gen [0, 1, 2] rfl rfl (zall rfl rfl) ⟨bx rfl rfl rfl, ⟨none, rfl, trivial⟩, bx rfl rfl rfl, trivial⟩) (SOps.nil ?_))))
       exact ⟨(n_154, (next_156, IntKind.wrap .i64 (t54_140 + 1), o1_157)), h, Nat.lt_succ_self n_154, sub_gen [0, 1, 2] rfl rfl (zall rfl rfl) ⟨bx rfl rfl rfl, ⟨none, rfl, trivial⟩, bx rfl rfl rfl, trivial⟩⟩
      refine SCode.cond_f rfl g155 (SCode.exit ?_)
      exact ⟨(next_139, o1_141), h, sub_gen [0, 1] rfl rfl (zall rfl rfl) ⟨bx rfl rfl rfl, ⟨none, rfl, trivial⟩, trivial⟩⟩
    rintro ⟨next_118, o1_119⟩ h
    show SCode _ _ _ (S55 next_118 o1_119) _
    try dsimp only at h
    unfold plan_Schedule_p120 at h
    refine SCode.region (sq rfl rfl (q_add rfl rfl rfl) (sm rfl rfl (SOps.sub (st' := ⟨[(2, .c (.ptr 0 0)), (7, .c (vI c_6.1)), (9, ci next_118), (10, .c (.own 1 o1_119.length)), (37, .c (vSDemand a0_p.Demands)), (38, ci (((a0_p.Demands).length : Int))), (39, ci (IntKind.wrap .i64 (t39_64 + 1)))], [.box (bSProblem a0_p), .rows 22 3 1 o1_119.length (rLen o1_119) (rGet (cInt .i64) 0 o1_119) none]⟩) (sub_gen [0, 1] rfl rfl (zall rfl rfl) ⟨bx rfl rfl rfl, ⟨none, rfl, trivial⟩, trivial⟩) (SOps.nil ?_))))
    exact ⟨(n_116, (next_118, IntKind.wrap .i64 (t39_64 + 1), o1_119)), h, Nat.lt_succ_self n_116, sub_gen [0, 1] rfl rfl (zall rfl rfl) ⟨bx rfl rfl rfl, ⟨none, rfl, trivial⟩, trivial⟩⟩
   refine SCode.cond_f rfl g117 (SCode.exit ?_)
   exact ⟨o1_65, h, sub_gen [1] rfl rfl (zall rfl rfl) ⟨⟨none, rfl, trivial⟩, trivial⟩⟩
 rintro o0_11 h
 show SCode _ _ _ (S57 o0_11) _
 try dsimp only at h
 unfold plan_Schedule_p12 at h
 refine SCode.seq (SCode.region (sm rfl rfl (sa rfl rfl (sa rfl rfl (SOps.sub (st' := ⟨[(4, .c (.own 0 o0_11.length)), (5, ci 0)], [.rows 22 3 1 o0_11.length (rLen o0_11) (rGet (cInt .i64) 0 o0_11) none]⟩) (sub_gen [0] rfl rfl (zall rfl rfl) ⟨⟨none, rfl, trivial⟩, trivial⟩) (SOps.nil (SCode.ret ?_)))))))
 obtain rfl := Option.some.inj h
 exact ⟨⟨[(4, .c (vR o0_11)), (5, ci 0)], []⟩, _, sub_gen [] rfl rfl ⟨⟨_, rfl, .inr (.inr (.inr (.inr (.inr ⟨_, _, _, _, _, _, _, _, _, rfl, rfl, rfl, Nat.le_refl _, fun _ _ => ⟨_, rfl, fun _ _ _ _ => rfl⟩, by decide⟩))))⟩, zc rfl rfl, trivial⟩ trivial, resA2 (v1 := .c (vR o0_11)) (v2 := .c (.int .i64 0)) rfl rfl rfl, rfl⟩
theorem plan_Check_ok (F : Nat) (a0_p : SProblem) (a1_energy : List Int) (a2_plan : List (List Int)) (r : Bool) (h : plan_Check F a0_p a1_energy a2_plan = some r) :
  SFun Try.prog 7 [] [.a (bSProblem a0_p), .c (vI a1_energy), .c (vR a2_plan)] (fun x _ => x = .c (.bool r)) := by
 refine SFun.of (n := 163) Try.func7 rfl rfl rfl ?_
 unfold plan_Check at h
 show SCode _ _ _ ⟨[(0, .a (bSProblem a0_p)), (1, .c (vI a1_energy)), (2, .c (vR a2_plan))], []⟩ _
 refine SCode.seq (SCode.region (se rfl rfl (e_box rfl rfl rfl rfl rfl rfl) (sa rfl rfl (SOps.nil (SCode.seq (SCode.seq ?_))))))
 obtain ⟨c_1, g2, h⟩ := bind_out h
 try dsimp only at h
 rcases cond_out h with ⟨g3, h⟩ | ⟨g3, h⟩
 ·refine SCode.region (sq rfl rfl (q_load_ptr_all rfl rfl rfl rfl rfl ty26) (sq rfl rfl (q_call (plan_Valid_ok F a0_p c_1 g2) [] rfl fn8 ⟨⟨rfl, rfl⟩, trivial⟩ (.inl rfl)) (sq rfl rfl (q_neq rfl rfl rfl) (sm rfl rfl (SOps.skip rfl 3 22 false rfl rfl (.inl (gT g3)) rfl (SOps.skip rfl 3 22 false rfl rfl (.inl (gT g3)) rfl (SOps.skip rfl 3 22 false rfl rfl (.inl (gT g3)) rfl (SOps.skip rfl 3 22 false rfl rfl (.inl (gT g3)) rfl (SOps.skip rfl 3 22 false rfl rfl (.inl (gT g3)) rfl (SOps.skip rfl 3 22 false rfl rfl (.inl (gT g3)) rfl (sq rfl rfl (q_pick_t rfl rfl g3 rfl) (sm rfl rfl (SOps.skip rfl 11 30 false rfl rfl (.inl rfl) rfl (SOps.skip rfl 11 30 false rfl rfl (.inl rfl) rfl (SOps.skip rfl 11 30 false rfl rfl (.inl rfl) rfl ?_)))))))))))))))
  refine SOps.skip rfl 11 30 false rfl rfl (.inl rfl) rfl (SOps.skip rfl 11 30 false rfl rfl (.inl rfl) rfl (SOps.skip rfl 11 30 false rfl rfl (.inl rfl) rfl (sq rfl rfl (q_pick_t rfl rfl rfl rfl) (SOps.sub (st' := ⟨[(1, .c (vI a1_energy)), (2, .c (vR a2_plan)), (3, .c (.ptr 0 0)), (37, .c (.bool true))], [.box (bSProblem a0_p)]⟩) (sub_gen [0] rfl rfl (zall rfl rfl) ⟨bx rfl rfl rfl, trivial⟩) (SOps.nil (SCode.cond_t rfl rfl (SCode.seq (SCode.region (sa rfl rfl (SOps.nil (SCode.ret ?_)))))))))))
  obtain rfl := Option.some.inj h
  exact ⟨⟨[(6, .c (.bool false))], []⟩, _, sub_gen [] rfl rfl (zall rfl rfl) trivial, resA1 (v := .c (.bool false)) rfl rfl, rfl⟩
 rcases cond_out h with ⟨g4, h⟩ | ⟨g4, h⟩
 ·refine SCode.region (sq rfl rfl (q_load_ptr_all rfl rfl rfl rfl rfl ty26) (sq rfl rfl (q_call (plan_Valid_ok F a0_p c_1 g2) [] rfl fn8 ⟨⟨rfl, rfl⟩, trivial⟩ (.inl rfl)) (sq rfl rfl (q_neq rfl rfl rfl) (sm rfl rfl (SOps.q rfl (.guard 3 22 false rfl rfl (gF g3)) rfl (q_move rfl rfl) (SOps.q rfl (.guard 3 22 false rfl rfl (gF g3)) rfl (q_len_vec rfl rfl sl22) (SOps.q rfl (.guard 3 22 false rfl rfl (gF g3)) rfl (q_field_ptr rfl rfl fd26_4) (SOps.q rfl (.guard 3 22 false rfl rfl (gF g3)) rfl (q_load_ptr rfl rfl rfl rfl ty24) (SOps.q rfl (.guard 3 22 false rfl rfl (gF g3)) rfl (q_len_vec rfl rfl sl24) (SOps.q rfl (.guard 3 22 false rfl rfl (gF g3)) rfl (q_neq rfl rfl rfl) (sq rfl rfl (q_pick_f rfl rfl g3 rfl) (sm rfl rfl (SOps.skip rfl 11 30 false rfl rfl (.inl (gT g4)) rfl (SOps.skip rfl 11 30 false rfl rfl (.inl (gT g4)) rfl (SOps.skip rfl 11 30 false rfl rfl (.inl (gT g4)) rfl ?_)))))))))))))))
  refine SOps.skip rfl 11 30 false rfl rfl (.inl (gT g4)) rfl (SOps.skip rfl 11 30 false rfl rfl (.inl (gT g4)) rfl (SOps.skip rfl 11 30 false rfl rfl (.inl (gT g4)) rfl (sq rfl rfl (q_pick_t rfl rfl g4 rfl) (SOps.sub (st' := ⟨[(1, .c (vI a1_energy)), (2, .c (vR a2_plan)), (3, .c (.ptr 0 0)), (37, .c (.bool true))], [.box (bSProblem a0_p)]⟩) (sub_gen [0] rfl rfl (zall rfl rfl) ⟨bx rfl rfl rfl, trivial⟩) (SOps.nil (SCode.cond_t rfl rfl (SCode.seq (SCode.region (sa rfl rfl (SOps.nil (SCode.ret ?_)))))))))))
  obtain rfl := Option.some.inj h
  exact ⟨⟨[(6, .c (.bool false))], []⟩, _, sub_gen [] rfl rfl (zall rfl rfl) trivial, resA1 (v := .c (.bool false)) rfl rfl, rfl⟩
 refine SCode.region (sq rfl rfl (q_load_ptr_all rfl rfl rfl rfl rfl ty26) (sq rfl rfl (q_call (plan_Valid_ok F a0_p c_1 g2) [] rfl fn8 ⟨⟨rfl, rfl⟩, trivial⟩ (.inl rfl)) (sq rfl rfl (q_neq rfl rfl rfl) (sm rfl rfl (SOps.q rfl (.guard 3 22 false rfl rfl (gF g3)) rfl (q_move rfl rfl) (SOps.q rfl (.guard 3 22 false rfl rfl (gF g3)) rfl (q_len_vec rfl rfl sl22) (SOps.q rfl (.guard 3 22 false rfl rfl (gF g3)) rfl (q_field_ptr rfl rfl fd26_4) (SOps.q rfl (.guard 3 22 false rfl rfl (gF g3)) rfl (q_load_ptr rfl rfl rfl rfl ty24) (SOps.q rfl (.guard 3 22 false rfl rfl (gF g3)) rfl (q_len_vec rfl rfl sl24) (SOps.q rfl (.guard 3 22 false rfl rfl (gF g3)) rfl (q_neq rfl rfl rfl) (sq rfl rfl (q_pick_f rfl rfl g3 rfl) (sm rfl rfl (SOps.q rfl (.guard 11 30 false rfl rfl (gF g4)) rfl (q_move rfl rfl) (SOps.q rfl (.guard 11 30 false rfl rfl (gF g4)) rfl (q_len_vec rfl rfl sl23) (SOps.q rfl (.guard 11 30 false rfl rfl (gF g4)) rfl (q_field_ptr rfl rfl fd26_4) ?_)))))))))))))))
 refine SOps.q rfl (.guard 11 30 false rfl rfl (gF g4)) rfl (q_load_ptr rfl rfl rfl rfl ty24) (SOps.q rfl (.guard 11 30 false rfl rfl (gF g4)) rfl (q_len_vec rfl rfl sl24) (SOps.q rfl (.guard 11 30 false rfl rfl (gF g4)) rfl (q_neq rfl rfl rfl) (sq rfl rfl (q_pick_f rfl rfl g4 rfl) (SOps.sub (st' := ⟨[(1, .c (vI a1_energy)), (2, .c (vR a2_plan)), (3, .c (.ptr 0 0)), (37, .c (.bool ((!decide (((a2_plan).length : Int) = ((a0_p.Demands).length : Int))))))], [.box (bSProblem a0_p)]⟩) (sub_gen [0] rfl rfl (zall rfl rfl) ⟨bx rfl rfl rfl, trivial⟩) (SOps.nil ?_)))))
 rcases cond_out h with ⟨g5, h⟩ | ⟨g5, h⟩
 ·refine SCode.cond_t rfl g5 (SCode.seq (SCode.region (sa rfl rfl (SOps.nil (SCode.ret ?_)))))
  obtain rfl := Option.some.inj h
  exact ⟨⟨[(6, .c (.bool false))], []⟩, _, sub_gen [] rfl rfl (zall rfl rfl) trivial, resA1 (v := .c (.bool false)) rfl rfl, rfl⟩
 refine SCode.cond_f rfl g5 (SCode.skip (SCode.seq ?_))
 obtain ⟨g6, h⟩ := guard_out h
 refine SCode.region (sq rfl rfl (q_field_ptr rfl rfl fd26_1) (sq rfl rfl (q_load_ptr rfl rfl rfl rfl ty23) (sq rfl rfl (q_len_vec rfl rfl sl23) (se rfl rfl (e_makeRows (T := 3) (k := 1) (cInt .i64) 0 rfl rfl rfl rfl rfl sl23 z22 g6.1 (Int.le_refl _) g6.2.1 g6.2.2) (sa rfl rfl ?_)))))
 let y1 := List.replicate (((a0_p.Caps).length : Int)).toNat ([] : List Int)
 refine SOps.sub (st' := ⟨[(1, .c (vI a1_energy)), (2, .c (vR a2_plan)), (3, .c (.ptr 0 0)), (7, .c (.own 1 y1.length))], [.box (bSProblem a0_p), .rows 22 3 1 y1.length (rLen y1) (rGet (cInt .i64) 0 y1) none]⟩) (sub_gen [0, 1] rfl rfl (zall rfl rfl) ⟨bx rfl rfl rfl, ⟨none, rfl, trivial⟩, trivial⟩) (SOps.nil ?_)
 let S429 := fun (o1_7 : List (List Int)) => (⟨[(1, .c (vI a1_energy)), (2, .c (vR a2_plan)), (3, .c (.ptr 0 0)), (7, .c (.own 1 o1_7.length))], [.box (bSProblem a0_p), .rows 22 3 1 o1_7.length (rLen o1_7) (rGet (cInt .i64) 0 o1_7) none]⟩ : St)
 refine SCode.join (σ := (List (List Int))) (S := fun s => (S429 s)) (g := fun s => plan_Check_p459 F a0_p a1_energy a2_plan s = some r) ?_ ?_
 rotate_left
 ·refine SCode.seq (SCode.region (sm rfl rfl (sq rfl rfl (q_len_own rfl rfl sl23) (sm rfl rfl ?_))))
  let y2 := List.replicate (((a0_p.Caps).length : Int)).toNat ([] : List Int)
  refine SOps.sub (st' := ⟨[(1, .c (vI a1_energy)), (2, .c (vR a2_plan)), (3, .c (.ptr 0 0)), (7, .c (.own 1 y2.length)), (43, ci ((y2.length : Int))), (44, ci 0)], [.box (bSProblem a0_p), .rows 22 3 1 y2.length (rLen y2) (rGet (cInt .i64) 0 y2) none]⟩) (sub_gen [0, 1] rfl rfl (zall rfl rfl) ⟨bx rfl rfl rfl, ⟨none, rfl, trivial⟩, trivial⟩) (SOps.nil (SCode.block ?_))
  let S428 := fun (t44_466 : Int) => fun (o1_467 : List (List Int)) => (⟨[(1, .c (vI a1_energy)), (2, .c (vR a2_plan)), (3, .c (.ptr 0 0)), (7, .c (.own 1 o1_467.length)), (43, ci (((List.replicate (((a0_p.Caps).length : Int)).toNat ([] : List Int)).length : Int))), (44, ci t44_466)], [.box (bSProblem a0_p), .rows 22 3 1 o1_467.length (rLen o1_467) (rGet (cInt .i64) 0 o1_467) none]⟩ : St)
  refine SCode.sub (st' := (S428 0 (List.replicate (((a0_p.Caps).length : Int)).toNat ([] : List Int)))) (sub_gen [0, 1] rfl rfl (zall rfl rfl) ⟨bx rfl rfl rfl, ⟨none, rfl, trivial⟩, trivial⟩) ?_
  refine (SCode.loop (σ := Nat × (Int × (List (List Int)))) (S := fun s => (S428 s.2.1 s.2.2)) (g := fun s => plan_Check_l474 F a0_p a1_energy a2_plan s.1 s.2.1 s.2.2 = some r) (μ := fun s => s.1) (F, (0, List.replicate (((a0_p.Caps).length : Int)).toNat ([] : List Int))) h ?_)
  rintro ⟨n_474, ⟨t44_466, o1_467⟩⟩ h
  try dsimp only at h
  show SCode _ _ _ (S428 t44_466 o1_467) _
  cases n_474 with
  | zero => cases h
  | succ n_474 =>
   rw [plan_Check_l474] at h
   unfold plan_Check_b474 at h
   refine SCode.seq (SCode.region (sq rfl rfl (q_lss rfl rfl rfl) ?_))
   let y3 := ((List.replicate (((a0_p.Caps).length : Int)).toNat ([] : List Int)).length : Int)
   refine SOps.sub (st' := ⟨[(1, .c (vI a1_energy)), (2, .c (vR a2_plan)), (3, .c (.ptr 0 0)), (7, .c (.own 1 o1_467.length)), (43, ci (y3)), (44, ci t44_466), (45, .c (.bool (decide (t44_466 < y3))))], [.box (bSProblem a0_p), .rows 22 3 1 o1_467.length (rLen o1_467) (rGet (cInt .i64) 0 o1_467) none]⟩) (sub_gen [0, 1] rfl rfl (zall rfl rfl) ⟨bx rfl rfl rfl, ⟨none, rfl, trivial⟩, trivial⟩) (SOps.nil (SCode.seq ?_))
   rcases cond_out h with ⟨g475, h⟩ | ⟨g475, h⟩
   ·refine SCode.cond_t rfl g475 (SCode.skip (SCode.seq (SCode.block (SCode.seq (SCode.region (sm rfl rfl (sa rfl rfl (SOps.sub (st' := ⟨[(1, .c (vI a1_energy)), (2, .c (vR a2_plan)), (3, .c (.ptr 0 0)), (7, .c (.own 1 o1_467.length)), (8, ci t44_466), (43, ci (((List.replicate (((a0_p.Caps).length : Int)).toNat ([] : List Int)).length : Int))), (44, ci t44_466)], [.box (bSProblem a0_p), .rows 22 3 1 o1_467.length (rLen o1_467) (rGet (cInt .i64) 0 o1_467) none]⟩) (sub_gen [0, 1] rfl rfl (zall rfl rfl) ⟨bx rfl rfl rfl, ⟨none, rfl, trivial⟩, trivial⟩) (SOps.nil ?_)))))))))
    obtain ⟨g478, h⟩ := guard_out h
    refine SCode.sub (st' := ⟨[(1, .c (vI a1_energy)), (2, .c (vR a2_plan)), (3, .c (.ptr 0 0)), (7, .c (.own 1 o1_467.length)), (8, ci t44_466), (43, ci (((List.replicate (((a0_p.Caps).length : Int)).toNat ([] : List Int)).length : Int))), (44, ci t44_466)], [.box (bSProblem a0_p), .rows 22 3 1 o1_467.length (rLen o1_467) (rGet (cInt .i64) 0 o1_467) (some (t44_466.toNat, .own 2 (o1_467.getD t44_466.toNat []).length)), aI 3 (o1_467.getD t44_466.toNat [])]⟩) (Sub.focus (F := 1) (h := t44_466.toNat) rfl (toNat_lt g478)) ?_
    obtain ⟨g479, h⟩ := guard_out h
    obtain ⟨g480, h⟩ := guard_out h
    refine SCode.region (sm rfl rfl (sm rfl rfl (sq rfl rfl (q_field_ptr rfl rfl fd26_0) (sq rfl rfl (q_load_ptr rfl rfl rfl rfl ty22) (sq rfl rfl (q_len_vec rfl rfl sl22) (se rfl rfl (e_makeL (c := (cInt .i64)) (d0 := 0) rfl rfl rfl rfl rfl sl22 z3 rfl rfl rfl g479.1 (Int.le_refl _) g479.2.1 g479.2.2) (sq rfl rfl (q_index_own rfl rfl rfl sl23 g480.1 g480.2) (se rfl rfl (e_store_hole rfl rfl rfl rfl rfl (toNat_lt g480) ty22 rfl) ?_))))))))
    let y4 := o1_467.set t44_466.toNat (List.replicate (((a0_p.Parents).length : Int)).toNat (0 : Int))
    refine SOps.sub (st' := ⟨[(1, .c (vI a1_energy)), (2, .c (vR a2_plan)), (3, .c (.ptr 0 0)), (7, .c (.own 1 y4.length)), (43, ci (((List.replicate (((a0_p.Caps).length : Int)).toNat ([] : List Int)).length : Int))), (44, ci t44_466)], [.box (bSProblem a0_p), .rows 22 3 1 y4.length (rLen y4) (rGet (cInt .i64) 0 y4) none]⟩) (Sub.trans (Sub.unfocusL (F := 1) (j := 3) rfl rfl rfl) (sub_gen [0, 1] rfl rfl ⟨zc rfl rfl, zc rfl rfl, zc rfl rfl, ⟨_, rfl, .inl ⟨rfl, congrArg (Cell.own 1) (List.length_set : y4.length = o1_467.length).symm⟩⟩, zc rfl rfl, zc rfl rfl, trivial⟩ ⟨bx rfl rfl rfl, ⟨none, rfl, trivial⟩, trivial⟩)) (SOps.nil (SCode.region (sq rfl rfl (q_add rfl rfl rfl) (sm rfl rfl ?_))))
    let y5 := o1_467.set t44_466.toNat (List.replicate (((a0_p.Parents).length : Int)).toNat (0 : Int))
    refine SOps.sub (st' := ⟨[(1, .c (vI a1_energy)), (2, .c (vR a2_plan)), (3, .c (.ptr 0 0)), (7, .c (.own 1 y5.length)), (43, ci (((List.replicate (((a0_p.Caps).length : Int)).toNat ([] : List Int)).length : Int))), (44, ci (IntKind.wrap .i64 (t44_466 + 1)))], [.box (bSProblem a0_p), .rows 22 3 1 y5.length (rLen y5) (rGet (cInt .i64) 0 y5) none]⟩) (sub_gen [0, 1] rfl rfl (zall rfl rfl) ⟨bx rfl rfl rfl, ⟨none, rfl, trivial⟩, trivial⟩) (SOps.nil ?_)
    exact ⟨(n_474, (IntKind.wrap .i64 (t44_466 + 1), o1_467.set t44_466.toNat (List.replicate (((a0_p.Parents).length : Int)).toNat (0 : Int)))), h, Nat.lt_succ_self n_474, sub_gen [0, 1] rfl rfl (zall rfl rfl) ⟨bx rfl rfl rfl, ⟨none, rfl, trivial⟩, trivial⟩⟩
   refine SCode.cond_f rfl g475 (SCode.exit ?_)
   exact ⟨o1_467, h, sub_gen [0, 1] rfl rfl (zall rfl rfl) ⟨bx rfl rfl rfl, ⟨none, rfl, trivial⟩, trivial⟩⟩
 rintro o1_7 h
 show SCode _ _ _ (S429 o1_7) _
 try dsimp only at h
 unfold plan_Check_p459 at h
 let S427 := fun (o1_8 : List (List Int)) => (⟨[(3, .c (.ptr 0 0)), (7, .c (.own 1 o1_8.length))], [.box (bSProblem a0_p), .rows 22 3 1 o1_8.length (rLen o1_8) (rGet (cInt .i64) 0 o1_8) none]⟩ : St)
 refine SCode.join (σ := (List (List Int))) (S := fun s => (S427 s)) (g := fun s => plan_Check_p90 F a0_p s = some r) ?_ ?_
 rotate_left
 ·refine SCode.seq (SCode.region (sq rfl rfl (q_field_ptr rfl rfl fd26_4) (sq rfl rfl (q_load_ptr rfl rfl rfl rfl ty24) (sq rfl rfl (q_len_vec rfl rfl sl24) (sm rfl rfl (SOps.sub (st' := ⟨[(1, .c (vI a1_energy)), (2, .c (vR a2_plan)), (3, .c (.ptr 0 0)), (7, .c (.own 1 o1_7.length)), (56, .c (vSDemand a0_p.Demands)), (57, ci (((a0_p.Demands).length : Int))), (58, ci 0)], [.box (bSProblem a0_p), .rows 22 3 1 o1_7.length (rLen o1_7) (rGet (cInt .i64) 0 o1_7) none]⟩) (sub_gen [0, 1] rfl rfl (zall rfl rfl) ⟨bx rfl rfl rfl, ⟨none, rfl, trivial⟩, trivial⟩) (SOps.nil (SCode.block ?_))))))))
  let S426 := fun (t57_213 : Int) => fun (t58_214 : Int) => fun (o1_215 : List (List Int)) => (⟨[(1, .c (vI a1_energy)), (2, .c (vR a2_plan)), (3, .c (.ptr 0 0)), (7, .c (.own 1 o1_215.length)), (56, .c (vSDemand a0_p.Demands)), (57, ci t57_213), (58, ci t58_214)], [.box (bSProblem a0_p), .rows 22 3 1 o1_215.length (rLen o1_215) (rGet (cInt .i64) 0 o1_215) none]⟩ : St)
  refine SCode.sub (st' := (S426 (((a0_p.Demands).length : Int)) 0 o1_7)) (sub_gen [0, 1] rfl rfl (zall rfl rfl) ⟨bx rfl rfl rfl, ⟨none, rfl, trivial⟩, trivial⟩) ?_
  refine (SCode.loop (σ := Nat × (Int × Int × (List (List Int)))) (S := fun s => (S426 s.2.1 s.2.2.1 s.2.2.2)) (g := fun s => plan_Check_l337 F a0_p a1_energy a2_plan s.1 s.2.1 s.2.2.1 s.2.2.2 = some r) (μ := fun s => s.1) (F, (((a0_p.Demands).length : Int), 0, o1_7)) h ?_)
  rintro ⟨n_337, ⟨t57_213, t58_214, o1_215⟩⟩ h
  try dsimp only at h
  show SCode _ _ _ (S426 t57_213 t58_214 o1_215) _
  cases n_337 with
  | zero => cases h
  | succ n_337 =>
   rw [plan_Check_l337] at h
   unfold plan_Check_b337 at h
   refine SCode.seq (SCode.region (sq rfl rfl (q_lss rfl rfl rfl) (SOps.sub (st' := ⟨[(1, .c (vI a1_energy)), (2, .c (vR a2_plan)), (3, .c (.ptr 0 0)), (7, .c (.own 1 o1_215.length)), (56, .c (vSDemand a0_p.Demands)), (57, ci t57_213), (58, ci t58_214), (59, .c (.bool (decide (t58_214 < t57_213))))], [.box (bSProblem a0_p), .rows 22 3 1 o1_215.length (rLen o1_215) (rGet (cInt .i64) 0 o1_215) none]⟩) (sub_gen [0, 1] rfl rfl (zall rfl rfl) ⟨bx rfl rfl rfl, ⟨none, rfl, trivial⟩, trivial⟩) (SOps.nil (SCode.seq ?_)))))
   rcases cond_out h with ⟨g338, h⟩ | ⟨g338, h⟩
   ·refine SCode.cond_t rfl g338 (SCode.skip ?_)
    let S425 := fun (o1_339 : List (List Int)) => (⟨[(1, .c (vI a1_energy)), (2, .c (vR a2_plan)), (3, .c (.ptr 0 0)), (7, .c (.own 1 o1_339.length)), (56, .c (vSDemand a0_p.Demands)), (57, ci t57_213), (58, ci t58_214)], [.box (bSProblem a0_p), .rows 22 3 1 o1_339.length (rLen o1_339) (rGet (cInt .i64) 0 o1_339) none]⟩ : St)
    refine SCode.join (σ := (List (List Int))) (S := fun s => (S425 s)) (g := fun s => plan_Check_p340 t57_213 t58_214 (fun t57_213 t58_214 o1_215 => plan_Check_l337 F a0_p a1_energy a2_plan n_337 t57_213 t58_214 o1_215) s = some r) ?_ ?_
    rotate_left
    ·refine SCode.block (SCode.seq ?_)
     obtain ⟨g341, h⟩ := guard_out h
     refine SCode.region (sm rfl rfl (sq rfl rfl (q_index_vec rfl rfl rfl sl24 rfl g341.1 g341.2) (sq rfl rfl (q_load_eptr_all rfl rfl rfl ty28) (se rfl rfl (e_alloc rfl rfl rfl z28) (sa rfl rfl (se rfl rfl (e_store_box rfl rfl rfl rfl rfl ty28 rfl rfl rfl rfl) (SOps.sub (st' := ⟨[(1, .c (vI a1_energy)), (2, .c (vR a2_plan)), (3, .c (.ptr 0 0)), (7, .c (.own 1 o1_215.length)), (9, ci t58_214), (10, .c (.ptr 2 0)), (56, .c (vSDemand a0_p.Demands)), (57, ci t57_213), (58, ci t58_214)], [.box (bSProblem a0_p), .rows 22 3 1 o1_215.length (rLen o1_215) (rGet (cInt .i64) 0 o1_215) none, .box (bSDemand (a0_p.Demands.getD t58_214.toNat dSDemand))]⟩) (sub_gen [0, 1, 2] rfl rfl (zall rfl rfl) ⟨bx rfl rfl rfl, ⟨none, rfl, trivial⟩, bx rfl rfl rfl, trivial⟩) (SOps.nil (SCode.seq (SCode.seq ?_))))))))))
     obtain ⟨g342, h⟩ := guard_out h
     refine SCode.drawK mixed [[], [], [0, 1], [0, 1, 2], [0, 1, 2, 3], [], [5], [5, 6], [0, 1, 2, 3, 4, 5, 6, 7]] 9 0 rfl rfl (qm rfl rfl (qm rfl rfl (qr rfl rfl (q_index_vec rfl rfl rfl sl23 rfl g342.1 g342.2) (qr rfl rfl (q_load_eptr rfl rfl ty22) (qr rfl rfl (q_len_vec rfl rfl sl22) (qr rfl rfl (q_field_ptr rfl rfl fd26_1) (qr rfl rfl (q_load_ptr rfl rfl rfl rfl ty23) (qr rfl rfl (q_len_vec rfl rfl sl23) (qr rfl rfl (q_neq rfl rfl rfl) (QK.nil (SOps.sub (st' := ⟨[(1, .c (vI a1_energy)), (2, .c (vR a2_plan)), (3, .c (.ptr 0 0)), (7, .c (.own 1 o1_215.length)), (9, ci t58_214), (10, .c (.ptr 2 0)), (56, .c (vSDemand a0_p.Demands)), (57, ci t57_213), (58, ci t58_214), (71, .c (.bool ((!decide (((a2_plan.getD t58_214.toNat ([])).length : Int) = ((a0_p.Caps).length : Int))))))], [.box (bSProblem a0_p), .rows 22 3 1 o1_215.length (rLen o1_215) (rGet (cInt .i64) 0 o1_215) none, .box (bSDemand (a0_p.Demands.getD t58_214.toNat dSDemand))]⟩) (sub_gen [0, 1, 2] rfl rfl (zall rfl rfl) ⟨bx rfl rfl rfl, ⟨none, rfl, trivial⟩, bx rfl rfl rfl, trivial⟩) (SOps.nil ?_))))))))))))
     rcases cond_out h with ⟨g343, h⟩ | ⟨g343, h⟩
     ·refine SCode.cond_t rfl g343 (SCode.seq (SCode.region (sa rfl rfl (SOps.sub (st' := ⟨[(6, .c (.bool false))], []⟩) (sub_gen [] rfl rfl (zall rfl rfl) trivial) (SOps.nil (SCode.ret ?_))))))
      obtain rfl := Option.some.inj h
      exact ⟨⟨[(6, .c (.bool false))], []⟩, _, sub_gen [] rfl rfl (zall rfl rfl) trivial, resA1 (v := .c (.bool false)) rfl rfl, rfl⟩
     refine SCode.cond_f rfl g343 (SCode.skip (SCode.seq (SCode.region (sa rfl rfl (SOps.sub (st' := ⟨[(1, .c (vI a1_energy)), (2, .c (vR a2_plan)), (3, .c (.ptr 0 0)), (7, .c (.own 1 o1_215.length)), (9, ci t58_214), (10, .c (.ptr 2 0)), (11, ci 0), (56, .c (vSDemand a0_p.Demands)), (57, ci t57_213), (58, ci t58_214)], [.box (bSProblem a0_p), .rows 22 3 1 o1_215.length (rLen o1_215) (rGet (cInt .i64) 0 o1_215) none, .box (bSDemand (a0_p.Demands.getD t58_214.toNat dSDemand))]⟩) (sub_gen [0, 1, 2] rfl rfl (zall rfl rfl) ⟨bx rfl rfl rfl, ⟨none, rfl, trivial⟩, bx rfl rfl rfl, trivial⟩) (SOps.nil ?_))))))
     let S424 := fun (total_344 : Int) => fun (o1_345 : List (List Int)) => (⟨[(1, .c (vI a1_energy)), (2, .c (vR a2_plan)), (3, .c (.ptr 0 0)), (7, .c (.own 1 o1_345.length)), (9, ci t58_214), (11, ci total_344), (56, .c (vSDemand a0_p.Demands)), (57, ci t57_213), (58, ci t58_214)], [.box (bSProblem a0_p), .rows 22 3 1 o1_345.length (rLen o1_345) (rGet (cInt .i64) 0 o1_345) none]⟩ : St)
     refine SCode.join (σ := Int × (List (List Int))) (S := fun s => (S424 s.1 s.2)) (g := fun s => plan_Check_p348 a1_energy t57_213 t58_214 (fun t57_213 t58_214 o1_215 => plan_Check_l337 F a0_p a1_energy a2_plan n_337 t57_213 t58_214 o1_215) s.1 s.2 = some r) ?_ ?_
     rotate_left
     ·refine SCode.seq ?_
      obtain ⟨g349, h⟩ := guard_out h
      refine SCode.region (sm rfl rfl (sm rfl rfl (sq rfl rfl (q_index_vec rfl rfl rfl sl23 rfl g349.1 g349.2) (sq rfl rfl (q_load_eptr rfl rfl ty22) (sq rfl rfl (q_len_vec rfl rfl sl22) (sm rfl rfl (SOps.sub (st' := ⟨[(1, .c (vI a1_energy)), (2, .c (vR a2_plan)), (3, .c (.ptr 0 0)), (7, .c (.own 1 o1_215.length)), (9, ci t58_214), (10, .c (.ptr 2 0)), (11, ci 0), (56, .c (vSDemand a0_p.Demands)), (57, ci t57_213), (58, ci t58_214), (75, .c (vI (a2_plan.getD t58_214.toNat ([])))), (76, ci (((a2_plan.getD t58_214.toNat ([])).length : Int))), (77, ci 0)], [.box (bSProblem a0_p), .rows 22 3 1 o1_215.length (rLen o1_215) (rGet (cInt .i64) 0 o1_215) none, .box (bSDemand (a0_p.Demands.getD t58_214.toNat dSDemand))]⟩) (sub_gen [0, 1, 2] rfl rfl (zall rfl rfl) ⟨bx rfl rfl rfl, ⟨none, rfl, trivial⟩, bx rfl rfl rfl, trivial⟩) (SOps.nil (SCode.block ?_)))))))))
      let S423 := fun (total_385 : Int) => fun (t77_386 : Int) => fun (o1_387 : List (List Int)) => (⟨[(1, .c (vI a1_energy)), (2, .c (vR a2_plan)), (3, .c (.ptr 0 0)), (7, .c (.own 1 o1_387.length)), (9, ci t58_214), (10, .c (.ptr 2 0)), (11, ci total_385), (56, .c (vSDemand a0_p.Demands)), (57, ci t57_213), (58, ci t58_214), (75, .c (vI (a2_plan.getD t58_214.toNat ([])))), (76, ci (((a2_plan.getD t58_214.toNat ([])).length : Int))), (77, ci t77_386)], [.box (bSProblem a0_p), .rows 22 3 1 o1_387.length (rLen o1_387) (rGet (cInt .i64) 0 o1_387) none, .box (bSDemand (a0_p.Demands.getD t58_214.toNat dSDemand))]⟩ : St)
      refine SCode.sub (st' := (S423 0 0 o1_215)) (sub_gen [0, 1, 2] rfl rfl (zall rfl rfl) ⟨bx rfl rfl rfl, ⟨none, rfl, trivial⟩, bx rfl rfl rfl, trivial⟩) ?_
      refine (SCode.loop (σ := Nat × (Int × Int × (List (List Int)))) (S := fun s => (S423 s.2.1 s.2.2.1 s.2.2.2)) (g := fun s => plan_Check_l423 F a0_p a1_energy a2_plan t57_213 t58_214 (fun t57_213 t58_214 o1_215 => plan_Check_l337 F a0_p a1_energy a2_plan n_337 t57_213 t58_214 o1_215) s.1 s.2.1 s.2.2.1 s.2.2.2 = some r) (μ := fun s => s.1) (F, (0, 0, o1_215)) h ?_)
      rintro ⟨n_423, ⟨total_385, t77_386, o1_387⟩⟩ h
      try dsimp only at h
      show SCode _ _ _ (S423 total_385 t77_386 o1_387) _
      cases n_423 with
      | zero => cases h
      | succ n_423 =>
       rw [plan_Check_l423] at h
       unfold plan_Check_b423 at h
       refine SCode.seq (SCode.region (sq rfl rfl (q_lss rfl rfl rfl) (SOps.sub (st' := ⟨[(1, .c (vI a1_energy)), (2, .c (vR a2_plan)), (3, .c (.ptr 0 0)), (7, .c (.own 1 o1_387.length)), (9, ci t58_214), (10, .c (.ptr 2 0)), (11, ci total_385), (56, .c (vSDemand a0_p.Demands)), (57, ci t57_213), (58, ci t58_214), (75, .c (vI (a2_plan.getD t58_214.toNat ([])))), (76, ci (((a2_plan.getD t58_214.toNat ([])).length : Int))), (77, ci t77_386), (78, .c (.bool (decide (t77_386 < ((a2_plan.getD t58_214.toNat ([])).length : Int)))))], [.box (bSProblem a0_p), .rows 22 3 1 o1_387.length (rLen o1_387) (rGet (cInt .i64) 0 o1_387) none, .box (bSDemand (a0_p.Demands.getD t58_214.toNat dSDemand))]⟩) (sub_gen [0, 1, 2] rfl rfl (zall rfl rfl) ⟨bx rfl rfl rfl, ⟨none, rfl, trivial⟩, bx rfl rfl rfl, trivial⟩) (SOps.nil (SCode.seq ?_)))))
       rcases cond_out h with ⟨g424, h⟩ | ⟨g424, h⟩
       ·refine SCode.cond_t rfl g424 (SCode.skip ?_)
        let S422 := fun (o1_425 : List (List Int)) => (⟨[(1, .c (vI a1_energy)), (2, .c (vR a2_plan)), (3, .c (.ptr 0 0)), (7, .c (.own 1 o1_425.length)), (9, ci t58_214), (10, .c (.ptr 2 0)), (11, ci (IntKind.wrap .i64 (total_385 + (a2_plan.getD t58_214.toNat ([])).getD t77_386.toNat 0))), (56, .c (vSDemand a0_p.Demands)), (57, ci t57_213), (58, ci t58_214), (75, .c (vI (a2_plan.getD t58_214.toNat ([])))), (76, ci (((a2_plan.getD t58_214.toNat ([])).length : Int))), (77, ci t77_386)], [.box (bSProblem a0_p), .rows 22 3 1 o1_425.length (rLen o1_425) (rGet (cInt .i64) 0 o1_425) none, .box (bSDemand (a0_p.Demands.getD t58_214.toNat dSDemand))]⟩ : St)
        refine SCode.join (σ := (List (List Int))) (S := fun s => (S422 s)) (g := fun s => plan_Check_p426 a2_plan t58_214 total_385 t77_386 (fun total_385 t77_386 o1_387 => plan_Check_l423 F a0_p a1_energy a2_plan t57_213 t58_214 (fun t57_213 t58_214 o1_215 => plan_Check_l337 F a0_p a1_energy a2_plan n_337 t57_213 t58_214 o1_215) n_423 total_385 t77_386 o1_387) s = some r) ?_ ?_
        rotate_left
        ·refine SCode.block (SCode.seq ?_)
         obtain ⟨g427, h⟩ := guard_out h
         refine SCode.region (sm rfl rfl (sq rfl rfl (q_index_vec rfl rfl rfl sl22 rfl g427.1 g427.2) (sq rfl rfl (q_load_eptr rfl rfl ty3) (sa rfl rfl (sa rfl rfl (SOps.sub (st' := ⟨[(1, .c (vI a1_energy)), (2, .c (vR a2_plan)), (3, .c (.ptr 0 0)), (7, .c (.own 1 o1_387.length)), (9, ci t58_214), (10, .c (.ptr 2 0)), (11, ci total_385), (12, ci t77_386), (13, ci ((a2_plan.getD t58_214.toNat ([])).getD t77_386.toNat 0)), (56, .c (vSDemand a0_p.Demands)), (57, ci t57_213), (58, ci t58_214), (75, .c (vI (a2_plan.getD t58_214.toNat ([])))), (76, ci (((a2_plan.getD t58_214.toNat ([])).length : Int))), (77, ci t77_386)], [.box (bSProblem a0_p), .rows 22 3 1 o1_387.length (rLen o1_387) (rGet (cInt .i64) 0 o1_387) none, .box (bSDemand (a0_p.Demands.getD t58_214.toNat dSDemand))]⟩) (sub_gen [0, 1, 2] rfl rfl (zall rfl rfl) ⟨bx rfl rfl rfl, ⟨none, rfl, trivial⟩, bx rfl rfl rfl, trivial⟩) (SOps.nil ?_)))))))
         let S421 := (⟨[(1, .c (vI a1_energy)), (2, .c (vR a2_plan)), (3, .c (.ptr 0 0)), (7, .c (.own 1 o1_387.length)), (9, ci t58_214), (10, .c (.ptr 2 0)), (11, ci total_385), (12, ci t77_386), (13, ci ((a2_plan.getD t58_214.toNat ([])).getD t77_386.toNat 0)), (56, .c (vSDemand a0_p.Demands)), (57, ci t57_213), (58, ci t58_214), (75, .c (vI (a2_plan.getD t58_214.toNat ([])))), (76, ci (((a2_plan.getD t58_214.toNat ([])).length : Int))), (77, ci t77_386)], [.box (bSProblem a0_p), .rows 22 3 1 o1_387.length (rLen o1_387) (rGet (cInt .i64) 0 o1_387) none, .box (bSDemand (a0_p.Demands.getD t58_214.toNat dSDemand))]⟩ : St)
         refine SCode.join (σ := Unit) (S := fun s => S421) (g := fun s => plan_Check_p452 F a0_p a2_plan t58_214 total_385 t77_386 o1_387 (fun total_385 t77_386 o1_387 => plan_Check_l423 F a0_p a1_energy a2_plan t57_213 t58_214 (fun t57_213 t58_214 o1_215 => plan_Check_l337 F a0_p a1_energy a2_plan n_337 t57_213 t58_214 o1_215) n_423 total_385 t77_386 o1_387) = some r) ?_ ?_
         rotate_left
         ·refine SCode.seq ?_
          rcases cond_out h with ⟨g453, h⟩ | ⟨g453, h⟩
          ·refine SCode.region (sm rfl rfl (sq rfl rfl (q_lss rfl rfl rfl) (sm rfl rfl (SOps.skip rfl 2 84 false rfl rfl (.inl (gT g453)) rfl (SOps.skip rfl 2 84 false rfl rfl (.inl (gT g453)) rfl (SOps.skip rfl 2 84 false rfl rfl (.inl (gT g453)) rfl (SOps.skip rfl 2 84 false rfl rfl (.inl (gT g453)) rfl (SOps.skip rfl 2 84 false rfl rfl (.inl (gT g453)) rfl (SOps.skip rfl 2 84 false rfl rfl (.inl (gT g453)) rfl (SOps.skip rfl 2 84 false rfl rfl (.inl (gT g453)) rfl (sq rfl rfl (q_pick_t rfl rfl g453 rfl) (sm rfl rfl (SOps.skip rfl 11 93 false rfl rfl (.inl rfl) rfl (SOps.skip rfl 11 93 false rfl rfl (.inl rfl) rfl (SOps.skip rfl 11 93 false rfl rfl (.inl rfl) rfl ?_)))))))))))))))
           refine SOps.skip rfl 14 96 true rfl rfl (.inr rfl) rfl (SOps.skip rfl 14 96 true rfl rfl (.inr rfl) rfl (SOps.skip rfl 14 96 true rfl rfl (.inr rfl) rfl (SOps.skip rfl 14 96 true rfl rfl (.inr rfl) rfl (SOps.skip rfl 14 96 true rfl rfl (.inr rfl) rfl (SOps.skip rfl 11 93 false rfl rfl (.inl rfl) rfl (sq rfl rfl (q_pick_t rfl rfl rfl rfl) (SOps.sub (st' := ⟨[(1, .c (vI a1_energy)), (2, .c (vR a2_plan)), (3, .c (.ptr 0 0)), (7, .c (.own 1 o1_387.length)), (9, ci t58_214), (10, .c (.ptr 2 0)), (11, ci total_385), (12, ci t77_386), (13, ci ((a2_plan.getD t58_214.toNat ([])).getD t77_386.toNat 0)), (56, .c (vSDemand a0_p.Demands)), (57, ci t57_213), (58, ci t58_214), (75, .c (vI (a2_plan.getD t58_214.toNat ([])))), (76, ci (((a2_plan.getD t58_214.toNat ([])).length : Int))), (77, ci t77_386), (103, .c (.bool true))], [.box (bSProblem a0_p), .rows 22 3 1 o1_387.length (rLen o1_387) (rGet (cInt .i64) 0 o1_387) none, .box (bSDemand (a0_p.Demands.getD t58_214.toNat dSDemand))]⟩) (sub_gen [0, 1, 2] rfl rfl (zall rfl rfl) ⟨bx rfl rfl rfl, ⟨none, rfl, trivial⟩, bx rfl rfl rfl, trivial⟩) (SOps.nil (SCode.cond_t rfl rfl (SCode.seq (SCode.region (sa rfl rfl (SOps.sub (st' := ⟨[(6, .c (.bool false))], []⟩) (sub_gen [] rfl rfl (zall rfl rfl) trivial) (SOps.nil (SCode.ret ?_)))))))))))))))
           obtain rfl := Option.some.inj h
           exact ⟨⟨[(6, .c (.bool false))], []⟩, _, sub_gen [] rfl rfl (zall rfl rfl) trivial, resA1 (v := .c (.bool false)) rfl rfl, rfl⟩
          rcases cond_out h with ⟨g454, h⟩ | ⟨g454, h⟩
          ·refine SCode.region (sm rfl rfl (sq rfl rfl (q_lss rfl rfl rfl) (sm rfl rfl (SOps.q rfl (.guard 2 84 false rfl rfl (gF g453)) rfl (q_move rfl rfl) (SOps.q rfl (.guard 2 84 false rfl rfl (gF g453)) rfl (q_field_ptr rfl rfl fd28_1) (SOps.q rfl (.guard 2 84 false rfl rfl (gF g453)) rfl (q_load_ptr rfl rfl rfl rfl ty3) (SOps.q rfl (.guard 2 84 false rfl rfl (gF g453)) rfl (q_field_ptr rfl rfl fd26_3) (SOps.q rfl (.guard 2 84 false rfl rfl (gF g453)) rfl (q_load_ptr rfl rfl rfl rfl ty3) (SOps.q rfl (.guard 2 84 false rfl rfl (gF g453)) rfl (q_mul rfl rfl rfl) (SOps.q rfl (.guard 2 84 false rfl rfl (gF g453)) rfl (q_gtr rfl rfl rfl) (sq rfl rfl (q_pick_f rfl rfl g453 rfl) (sm rfl rfl (SOps.skip rfl 11 93 false rfl rfl (.inl (gT g454)) rfl (SOps.skip rfl 11 93 false rfl rfl (.inl (gT g454)) rfl (SOps.skip rfl 11 93 false rfl rfl (.inl (gT g454)) rfl ?_)))))))))))))))
           refine SOps.skip rfl 14 96 true rfl rfl (.inr rfl) rfl (SOps.skip rfl 14 96 true rfl rfl (.inr rfl) rfl (SOps.skip rfl 14 96 true rfl rfl (.inr rfl) rfl (SOps.skip rfl 14 96 true rfl rfl (.inr rfl) rfl (SOps.skip rfl 14 96 true rfl rfl (.inr rfl) rfl (SOps.skip rfl 11 93 false rfl rfl (.inl (gT g454)) rfl (sq rfl rfl (q_pick_t rfl rfl g454 rfl) (SOps.sub (st' := ⟨[(1, .c (vI a1_energy)), (2, .c (vR a2_plan)), (3, .c (.ptr 0 0)), (7, .c (.own 1 o1_387.length)), (9, ci t58_214), (10, .c (.ptr 2 0)), (11, ci total_385), (12, ci t77_386), (13, ci ((a2_plan.getD t58_214.toNat ([])).getD t77_386.toNat 0)), (56, .c (vSDemand a0_p.Demands)), (57, ci t57_213), (58, ci t58_214), (75, .c (vI (a2_plan.getD t58_214.toNat ([])))), (76, ci (((a2_plan.getD t58_214.toNat ([])).length : Int))), (77, ci t77_386), (103, .c (.bool true))], [.box (bSProblem a0_p), .rows 22 3 1 o1_387.length (rLen o1_387) (rGet (cInt .i64) 0 o1_387) none, .box (bSDemand (a0_p.Demands.getD t58_214.toNat dSDemand))]⟩) (sub_gen [0, 1, 2] rfl rfl (zall rfl rfl) ⟨bx rfl rfl rfl, ⟨none, rfl, trivial⟩, bx rfl rfl rfl, trivial⟩) (SOps.nil (SCode.cond_t rfl rfl (SCode.seq (SCode.region (sa rfl rfl (SOps.sub (st' := ⟨[(6, .c (.bool false))], []⟩) (sub_gen [] rfl rfl (zall rfl rfl) trivial) (SOps.nil (SCode.ret ?_)))))))))))))))
           obtain rfl := Option.some.inj h
           exact ⟨⟨[(6, .c (.bool false))], []⟩, _, sub_gen [] rfl rfl (zall rfl rfl) trivial, resA1 (v := .c (.bool false)) rfl rfl, rfl⟩
          rcases cond_out h with ⟨g455, h⟩ | ⟨g455, h⟩
          ·obtain ⟨c_456, g457, h⟩ := bind_out h
           try dsimp only at h
           refine SCode.region (sm rfl rfl (sq rfl rfl (q_lss rfl rfl rfl) (sm rfl rfl (SOps.q rfl (.guard 2 84 false rfl rfl (gF g453)) rfl (q_move rfl rfl) (SOps.q rfl (.guard 2 84 false rfl rfl (gF g453)) rfl (q_field_ptr rfl rfl fd28_1) (SOps.q rfl (.guard 2 84 false rfl rfl (gF g453)) rfl (q_load_ptr rfl rfl rfl rfl ty3) (SOps.q rfl (.guard 2 84 false rfl rfl (gF g453)) rfl (q_field_ptr rfl rfl fd26_3) (SOps.q rfl (.guard 2 84 false rfl rfl (gF g453)) rfl (q_load_ptr rfl rfl rfl rfl ty3) (SOps.q rfl (.guard 2 84 false rfl rfl (gF g453)) rfl (q_mul rfl rfl rfl) (SOps.q rfl (.guard 2 84 false rfl rfl (gF g453)) rfl (q_gtr rfl rfl rfl) (sq rfl rfl (q_pick_f rfl rfl g453 rfl) (sm rfl rfl (SOps.q rfl (.guard 11 93 false rfl rfl (gF g454)) rfl (q_move rfl rfl) (SOps.q rfl (.guard 11 93 false rfl rfl (gF g454)) rfl (q_gtr rfl rfl rfl) (SOps.q rfl (.guard 11 93 false rfl rfl (gF g454)) rfl (q_move rfl rfl) ?_)))))))))))))))
           refine SOps.q rfl (.guard 14 96 true rfl rfl (gT g455)) rfl (q_load_ptr_all rfl rfl rfl rfl rfl ty26) (SOps.q rfl (.guard 14 96 true rfl rfl (gT g455)) rfl (q_load_ptr_all rfl rfl rfl rfl rfl ty28) (SOps.q rfl (.guard 14 96 true rfl rfl (gT g455)) rfl (q_move rfl rfl) (SOps.q rfl (.guard 14 96 true rfl rfl (gT g455)) rfl (q_call (plan_usable_ok F a0_p (a0_p.Demands.getD t58_214.toNat dSDemand) t77_386 c_456 g457) [] rfl fn18 ⟨⟨rfl, rfl⟩, ⟨rfl, rfl⟩, ⟨_, rfl, .inl ⟨rfl, rfl⟩⟩, trivial⟩ (.inl rfl)) (SOps.q rfl (.guard 14 96 true rfl rfl (gT g455)) rfl (q_not rfl rfl) (SOps.q rfl (.guard 11 93 false rfl rfl (gF g454)) rfl (q_pick_t rfl rfl g455 rfl) (sq rfl rfl (q_pick_f rfl rfl g454 rfl) (SOps.sub (st' := ⟨[(1, .c (vI a1_energy)), (2, .c (vR a2_plan)), (3, .c (.ptr 0 0)), (7, .c (.own 1 o1_387.length)), (9, ci t58_214), (10, .c (.ptr 2 0)), (11, ci total_385), (12, ci t77_386), (13, ci ((a2_plan.getD t58_214.toNat ([])).getD t77_386.toNat 0)), (56, .c (vSDemand a0_p.Demands)), (57, ci t57_213), (58, ci t58_214), (75, .c (vI (a2_plan.getD t58_214.toNat ([])))), (76, ci (((a2_plan.getD t58_214.toNat ([])).length : Int))), (77, ci t77_386), (103, .c (.bool ((!c_456))))], [.box (bSProblem a0_p), .rows 22 3 1 o1_387.length (rLen o1_387) (rGet (cInt .i64) 0 o1_387) none, .box (bSDemand (a0_p.Demands.getD t58_214.toNat dSDemand))]⟩) (sub_gen [0, 1, 2] rfl rfl (zall rfl rfl) ⟨bx rfl rfl rfl, ⟨none, rfl, trivial⟩, bx rfl rfl rfl, trivial⟩) (SOps.nil ?_))))))))
           rcases cond_out h with ⟨g458, h⟩ | ⟨g458, h⟩
           ·refine SCode.cond_t rfl g458 (SCode.seq (SCode.region (sa rfl rfl (SOps.sub (st' := ⟨[(6, .c (.bool false))], []⟩) (sub_gen [] rfl rfl (zall rfl rfl) trivial) (SOps.nil (SCode.ret ?_))))))
            obtain rfl := Option.some.inj h
            exact ⟨⟨[(6, .c (.bool false))], []⟩, _, sub_gen [] rfl rfl (zall rfl rfl) trivial, resA1 (v := .c (.bool false)) rfl rfl, rfl⟩
           refine SCode.cond_f rfl g458 (SCode.skip ?_)
           exact ⟨(), h, sub_gen [0, 1, 2] rfl rfl (zall rfl rfl) ⟨bx rfl rfl rfl, ⟨none, rfl, trivial⟩, bx rfl rfl rfl, trivial⟩⟩
          refine SCode.region (sm rfl rfl (sq rfl rfl (q_lss rfl rfl rfl) (sm rfl rfl (SOps.q rfl (.guard 2 84 false rfl rfl (gF g453)) rfl (q_move rfl rfl) (SOps.q rfl (.guard 2 84 false rfl rfl (gF g453)) rfl (q_field_ptr rfl rfl fd28_1) (SOps.q rfl (.guard 2 84 false rfl rfl (gF g453)) rfl (q_load_ptr rfl rfl rfl rfl ty3) (SOps.q rfl (.guard 2 84 false rfl rfl (gF g453)) rfl (q_field_ptr rfl rfl fd26_3) (SOps.q rfl (.guard 2 84 false rfl rfl (gF g453)) rfl (q_load_ptr rfl rfl rfl rfl ty3) (SOps.q rfl (.guard 2 84 false rfl rfl (gF g453)) rfl (q_mul rfl rfl rfl) (SOps.q rfl (.guard 2 84 false rfl rfl (gF g453)) rfl (q_gtr rfl rfl rfl) (sq rfl rfl (q_pick_f rfl rfl g453 rfl) (sm rfl rfl (SOps.q rfl (.guard 11 93 false rfl rfl (gF g454)) rfl (q_move rfl rfl) (SOps.q rfl (.guard 11 93 false rfl rfl (gF g454)) rfl (q_gtr rfl rfl rfl) (SOps.q rfl (.guard 11 93 false rfl rfl (gF g454)) rfl (q_move rfl rfl) ?_)))))))))))))))
          refine SOps.skip rfl 14 96 true rfl rfl (.inl (gF g455)) rfl (SOps.skip rfl 14 96 true rfl rfl (.inl (gF g455)) rfl (SOps.skip rfl 14 96 true rfl rfl (.inl (gF g455)) rfl (SOps.skip rfl 14 96 true rfl rfl (.inl (gF g455)) rfl (SOps.skip rfl 14 96 true rfl rfl (.inl (gF g455)) rfl (SOps.q rfl (.guard 11 93 false rfl rfl (gF g454)) rfl (q_pick_f rfl rfl g455 rfl) (sq rfl rfl (q_pick_f rfl rfl g454 rfl) (SOps.sub (st' := ⟨[(1, .c (vI a1_energy)), (2, .c (vR a2_plan)), (3, .c (.ptr 0 0)), (7, .c (.own 1 o1_387.length)), (9, ci t58_214), (10, .c (.ptr 2 0)), (11, ci total_385), (12, ci t77_386), (13, ci ((a2_plan.getD t58_214.toNat ([])).getD t77_386.toNat 0)), (56, .c (vSDemand a0_p.Demands)), (57, ci t57_213), (58, ci t58_214), (75, .c (vI (a2_plan.getD t58_214.toNat ([])))), (76, ci (((a2_plan.getD t58_214.toNat ([])).length : Int))), (77, ci t77_386), (103, .c (.bool false))], [.box (bSProblem a0_p), .rows 22 3 1 o1_387.length (rLen o1_387) (rGet (cInt .i64) 0 o1_387) none, .box (bSDemand (a0_p.Demands.getD t58_214.toNat dSDemand))]⟩) (sub_gen [0, 1, 2] rfl rfl (zall rfl rfl) ⟨bx rfl rfl rfl, ⟨none, rfl, trivial⟩, bx rfl rfl rfl, trivial⟩) (SOps.nil (SCode.cond_f rfl rfl (SCode.skip ?_))))))))))
          exact ⟨(), h, sub_gen [0, 1, 2] rfl rfl (zall rfl rfl) ⟨bx rfl rfl rfl, ⟨none, rfl, trivial⟩, bx rfl rfl rfl, trivial⟩⟩
         rintro ⟨⟩ h
         show SCode _ _ _ S421 _
         try dsimp only at h
         unfold plan_Check_p452 at h
         refine SCode.seq (SCode.region (sm rfl rfl (sm rfl rfl (sq rfl rfl (q_add rfl rfl rfl) (sa rfl rfl ?_)))))
         let y6 := a2_plan.getD t58_214.toNat ([])
         refine SOps.sub (st' := ⟨[(1, .c (vI a1_energy)), (2, .c (vR a2_plan)), (3, .c (.ptr 0 0)), (7, .c (.own 1 o1_387.length)), (9, ci t58_214), (10, .c (.ptr 2 0)), (11, ci (IntKind.wrap .i64 (total_385 + y6.getD t77_386.toNat 0))), (12, ci t77_386), (13, ci (y6.getD t77_386.toNat 0)), (56, .c (vSDemand a0_p.Demands)), (57, ci t57_213), (58, ci t58_214), (75, .c (vI y6)), (76, ci ((y6.length : Int))), (77, ci t77_386)], [.box (bSProblem a0_p), .rows 22 3 1 o1_387.length (rLen o1_387) (rGet (cInt .i64) 0 o1_387) none, .box (bSDemand (a0_p.Demands.getD t58_214.toNat dSDemand))]⟩) (sub_gen [0, 1, 2] rfl rfl (zall rfl rfl) ⟨bx rfl rfl rfl, ⟨none, rfl, trivial⟩, bx rfl rfl rfl, trivial⟩) (SOps.nil (SCode.seq (SCode.region (sq rfl rfl (q_field_ptr rfl rfl fd28_0) (sq rfl rfl (q_load_ptr rfl rfl rfl rfl ty3) (sa rfl rfl ?_))))))
         let y7 := a2_plan.getD t58_214.toNat ([])
         refine SOps.sub (st' := ⟨[(1, .c (vI a1_energy)), (2, .c (vR a2_plan)), (3, .c (.ptr 0 0)), (7, .c (.own 1 o1_387.length)), (9, ci t58_214), (10, .c (.ptr 2 0)), (11, ci (IntKind.wrap .i64 (total_385 + y7.getD t77_386.toNat 0))), (12, ci t77_386), (13, ci (y7.getD t77_386.toNat 0)), (14, ci ((a0_p.Demands.getD t58_214.toNat dSDemand).Feeder)), (56, .c (vSDemand a0_p.Demands)), (57, ci t57_213), (58, ci t58_214), (75, .c (vI y7)), (76, ci ((y7.length : Int))), (77, ci t77_386)], [.box (bSProblem a0_p), .rows 22 3 1 o1_387.length (rLen o1_387) (rGet (cInt .i64) 0 o1_387) none, .box (bSDemand (a0_p.Demands.getD t58_214.toNat dSDemand))]⟩) (sub_gen [0, 1, 2] rfl rfl (zall rfl rfl) ⟨bx rfl rfl rfl, ⟨none, rfl, trivial⟩, bx rfl rfl rfl, trivial⟩) (SOps.nil (SCode.block ?_))
         let S420 := fun (f_435 : Int) => fun (o1_436 : List (List Int)) => (⟨[(1, .c (vI a1_energy)), (2, .c (vR a2_plan)), (3, .c (.ptr 0 0)), (7, .c (.own 1 o1_436.length)), (9, ci t58_214), (10, .c (.ptr 2 0)), (11, ci (IntKind.wrap .i64 (total_385 + (a2_plan.getD t58_214.toNat ([])).getD t77_386.toNat 0))), (12, ci t77_386), (13, ci ((a2_plan.getD t58_214.toNat ([])).getD t77_386.toNat 0)), (14, ci f_435), (56, .c (vSDemand a0_p.Demands)), (57, ci t57_213), (58, ci t58_214), (75, .c (vI (a2_plan.getD t58_214.toNat ([])))), (76, ci (((a2_plan.getD t58_214.toNat ([])).length : Int))), (77, ci t77_386)], [.box (bSProblem a0_p), .rows 22 3 1 o1_436.length (rLen o1_436) (rGet (cInt .i64) 0 o1_436) none, .box (bSDemand (a0_p.Demands.getD t58_214.toNat dSDemand))]⟩ : St)
         refine SCode.sub (st' := (S420 ((a0_p.Demands.getD t58_214.toNat dSDemand).Feeder) o1_387)) (sub_gen [0, 1, 2] rfl rfl (zall rfl rfl) ⟨bx rfl rfl rfl, ⟨none, rfl, trivial⟩, bx rfl rfl rfl, trivial⟩) ?_
         refine (SCode.loop (σ := Nat × (Int × (List (List Int)))) (S := fun s => (S420 s.2.1 s.2.2)) (g := fun s => plan_Check_l444 a0_p a2_plan t58_214 total_385 t77_386 (fun total_385 t77_386 o1_387 => plan_Check_l423 F a0_p a1_energy a2_plan t57_213 t58_214 (fun t57_213 t58_214 o1_215 => plan_Check_l337 F a0_p a1_energy a2_plan n_337 t57_213 t58_214 o1_215) n_423 total_385 t77_386 o1_387) s.1 s.2.1 s.2.2 = some r) (μ := fun s => s.1) (F, ((a0_p.Demands.getD t58_214.toNat dSDemand).Feeder, o1_387)) h ?_)
         rintro ⟨n_444, ⟨f_435, o1_436⟩⟩ h
         try dsimp only at h
         show SCode _ _ _ (S420 f_435 o1_436) _
         cases n_444 with
         | zero => cases h
         | succ n_444 =>
          rw [plan_Check_l444] at h
          unfold plan_Check_b444 at h
          refine SCode.seq (SCode.seq (SCode.region (sm rfl rfl (sq rfl rfl (q_geq rfl rfl rfl) ?_))))
          let y8 := a2_plan.getD t58_214.toNat ([])
          refine SOps.sub (st' := ⟨[(1, .c (vI a1_energy)), (2, .c (vR a2_plan)), (3, .c (.ptr 0 0)), (7, .c (.own 1 o1_436.length)), (9, ci t58_214), (10, .c (.ptr 2 0)), (11, ci (IntKind.wrap .i64 (total_385 + y8.getD t77_386.toNat 0))), (12, ci t77_386), (13, ci (y8.getD t77_386.toNat 0)), (14, ci f_435), (56, .c (vSDemand a0_p.Demands)), (57, ci t57_213), (58, ci t58_214), (75, .c (vI y8)), (76, ci ((y8.length : Int))), (77, ci t77_386), (110, .c (.bool (decide (0 ≤ f_435))))], [.box (bSProblem a0_p), .rows 22 3 1 o1_436.length (rLen o1_436) (rGet (cInt .i64) 0 o1_436) none, .box (bSDemand (a0_p.Demands.getD t58_214.toNat dSDemand))]⟩) (sub_gen [0, 1, 2] rfl rfl (zall rfl rfl) ⟨bx rfl rfl rfl, ⟨none, rfl, trivial⟩, bx rfl rfl rfl, trivial⟩) (SOps.nil ?_)
          rcases cond_out h with ⟨g445, h⟩ | ⟨g445, h⟩
          ·refine SCode.cond_t rfl g445 (SCode.skip (SCode.seq (SCode.block ?_)))
           obtain ⟨g447, h⟩ := guard_out h
           let y9 := a2_plan.getD t58_214.toNat ([])
           refine SCode.sub (st' := ⟨[(1, .c (vI a1_energy)), (2, .c (vR a2_plan)), (3, .c (.ptr 0 0)), (7, .c (.own 1 o1_436.length)), (9, ci t58_214), (10, .c (.ptr 2 0)), (11, ci (IntKind.wrap .i64 (total_385 + y9.getD t77_386.toNat 0))), (12, ci t77_386), (13, ci (y9.getD t77_386.toNat 0)), (14, ci f_435), (56, .c (vSDemand a0_p.Demands)), (57, ci t57_213), (58, ci t58_214), (75, .c (vI y9)), (76, ci ((y9.length : Int))), (77, ci t77_386), (110, .c (.bool (decide (0 ≤ f_435))))], [.box (bSProblem a0_p), .rows 22 3 1 o1_436.length (rLen o1_436) (rGet (cInt .i64) 0 o1_436) (some (t77_386.toNat, .own 3 (o1_436.getD t77_386.toNat []).length)), .box (bSDemand (a0_p.Demands.getD t58_214.toNat dSDemand)), aI 3 (o1_436.getD t77_386.toNat [])]⟩) (Sub.focus (F := 1) (h := t77_386.toNat) rfl (toNat_lt g447)) ?_
           obtain ⟨g448, h⟩ := guard_out h
           obtain ⟨g449, h⟩ := guard_out h
           obtain ⟨g450, h⟩ := guard_out h
           refine SCode.region (sm rfl rfl (sm rfl rfl (sq rfl rfl (q_index_own rfl rfl rfl sl23 g448.1 g448.2) (sq rfl rfl (q_load_hole rfl rfl rfl (toNat_lt g448) ty22) (sm rfl rfl (sq rfl rfl (q_index_own rfl rfl rfl sl22 g449.1 g449.2) (sq rfl rfl (q_load_aptr rfl rfl rfl (toNat_lt g449) rfl ty3) (sm rfl rfl (sq rfl rfl (q_add rfl rfl rfl) (sq rfl rfl (q_index_own rfl rfl rfl sl22 g450.1 g450.2) (se rfl rfl (e_storeL (IntKind.wrap .i64 ((o1_436.getD t77_386.toNat []).getD f_435.toNat 0 + (a2_plan.getD t58_214.toNat ([])).getD t77_386.toNat 0)) rfl rfl rfl rfl rfl (toNat_lt g450) ty3 rfl rfl rfl rfl rfl rfl) ?_)))))))))))
           let y12 := a2_plan.getD t58_214.toNat ([])
           let y10 := (o1_436.getD t77_386.toNat []).set f_435.toNat (IntKind.wrap .i64 ((o1_436.getD t77_386.toNat []).getD f_435.toNat 0 + y12.getD t77_386.toNat 0))
           let y11 := o1_436.set t77_386.toNat y10
           refine SOps.sub (st' := ⟨[(1, .c (vI a1_energy)), (2, .c (vR a2_plan)), (3, .c (.ptr 0 0)), (7, .c (.own 1 y11.length)), (9, ci t58_214), (10, .c (.ptr 2 0)), (11, ci (IntKind.wrap .i64 (total_385 + y12.getD t77_386.toNat 0))), (12, ci t77_386), (13, ci (y12.getD t77_386.toNat 0)), (14, ci f_435), (56, .c (vSDemand a0_p.Demands)), (57, ci t57_213), (58, ci t58_214), (75, .c (vI y12)), (76, ci ((y12.length : Int))), (77, ci t77_386)], [.box (bSProblem a0_p), .rows 22 3 1 y11.length (rLen y11) (rGet (cInt .i64) 0 y11) none, .box (bSDemand (a0_p.Demands.getD t58_214.toNat dSDemand))]⟩) (Sub.trans (Sub.unfocusL (F := 1) (j := 3) (List.length_set : y10.length = (o1_436.getD t77_386.toNat []).length) rfl rfl) (sub_gen [0, 1, 2] rfl rfl ⟨zc rfl rfl, zc rfl rfl, zc rfl rfl, ⟨_, rfl, .inl ⟨rfl, congrArg (Cell.own 1) (List.length_set : y11.length = o1_436.length).symm⟩⟩, zc rfl rfl, zc rfl rfl, zc rfl rfl, zc rfl rfl, zc rfl rfl, zc rfl rfl, zc rfl rfl, zc rfl rfl, zc rfl rfl, zc rfl rfl, zc rfl rfl, zc rfl rfl, trivial⟩ ⟨bx rfl rfl rfl, ⟨none, rfl, trivial⟩, bx rfl rfl rfl, trivial⟩)) (SOps.nil ?_)
           obtain ⟨g451, h⟩ := guard_out h
           refine SCode.region (sq rfl rfl (q_field_ptr rfl rfl fd26_0) (sq rfl rfl (q_load_ptr rfl rfl rfl rfl ty22) (sm rfl rfl (sq rfl rfl (q_index_vec rfl rfl rfl sl22 rfl g451.1 g451.2) (sq rfl rfl (q_load_eptr rfl rfl ty3) (sa rfl rfl ?_))))))
           let y14 := a2_plan.getD t58_214.toNat ([])
           let y13 := o1_436.set t77_386.toNat ((o1_436.getD t77_386.toNat []).set f_435.toNat (IntKind.wrap .i64 ((o1_436.getD t77_386.toNat []).getD f_435.toNat 0 + y14.getD t77_386.toNat 0)))
           refine SOps.sub (st' := ⟨[(1, .c (vI a1_energy)), (2, .c (vR a2_plan)), (3, .c (.ptr 0 0)), (7, .c (.own 1 y13.length)), (9, ci t58_214), (10, .c (.ptr 2 0)), (11, ci (IntKind.wrap .i64 (total_385 + y14.getD t77_386.toNat 0))), (12, ci t77_386), (13, ci (y14.getD t77_386.toNat 0)), (14, ci (a0_p.Parents.getD f_435.toNat 0)), (56, .c (vSDemand a0_p.Demands)), (57, ci t57_213), (58, ci t58_214), (75, .c (vI y14)), (76, ci ((y14.length : Int))), (77, ci t77_386)], [.box (bSProblem a0_p), .rows 22 3 1 y13.length (rLen y13) (rGet (cInt .i64) 0 y13) none, .box (bSDemand (a0_p.Demands.getD t58_214.toNat dSDemand))]⟩) (sub_gen [0, 1, 2] rfl rfl (zall rfl rfl) ⟨bx rfl rfl rfl, ⟨none, rfl, trivial⟩, bx rfl rfl rfl, trivial⟩) (SOps.nil ?_)
           exact ⟨(n_444, (a0_p.Parents.getD f_435.toNat 0, o1_436.set t77_386.toNat ((o1_436.getD t77_386.toNat []).set f_435.toNat (IntKind.wrap .i64 ((o1_436.getD t77_386.toNat []).getD f_435.toNat 0 + (a2_plan.getD t58_214.toNat ([])).getD t77_386.toNat 0))))), h, Nat.lt_succ_self n_444, sub_gen [0, 1, 2] rfl rfl (zall rfl rfl) ⟨bx rfl rfl rfl, ⟨none, rfl, trivial⟩, bx rfl rfl rfl, trivial⟩⟩
          refine SCode.cond_f rfl g445 (SCode.exit ?_)
          exact ⟨o1_436, h, sub_gen [0, 1, 2] rfl rfl (zall rfl rfl) ⟨bx rfl rfl rfl, ⟨none, rfl, trivial⟩, bx rfl rfl rfl, trivial⟩⟩
        rintro o1_425 h
        show SCode _ _ _ (S422 o1_425) _
        try dsimp only at h
        unfold plan_Check_p426 at h
        refine SCode.region (sq rfl rfl (q_add rfl rfl rfl) (sm rfl rfl (SOps.sub (st' := ⟨[(1, .c (vI a1_energy)), (2, .c (vR a2_plan)), (3, .c (.ptr 0 0)), (7, .c (.own 1 o1_425.length)), (9, ci t58_214), (10, .c (.ptr 2 0)), (11, ci (IntKind.wrap .i64 (total_385 + (a2_plan.getD t58_214.toNat ([])).getD t77_386.toNat 0))), (56, .c (vSDemand a0_p.Demands)), (57, ci t57_213), (58, ci t58_214), (75, .c (vI (a2_plan.getD t58_214.toNat ([])))), (76, ci (((a2_plan.getD t58_214.toNat ([])).length : Int))), (77, ci (IntKind.wrap .i64 (t77_386 + 1)))], [.box (bSProblem a0_p), .rows 22 3 1 o1_425.length (rLen o1_425) (rGet (cInt .i64) 0 o1_425) none, .box (bSDemand (a0_p.Demands.getD t58_214.toNat dSDemand))]⟩) (sub_gen [0, 1, 2] rfl rfl (zall rfl rfl) ⟨bx rfl rfl rfl, ⟨none, rfl, trivial⟩, bx rfl rfl rfl, trivial⟩) (SOps.nil ?_))))
        exact ⟨(n_423, (IntKind.wrap .i64 (total_385 + (a2_plan.getD t58_214.toNat ([])).getD t77_386.toNat 0), IntKind.wrap .i64 (t77_386 + 1), o1_425)), h, Nat.lt_succ_self n_423, sub_gen [0, 1, 2] rfl rfl (zall rfl rfl) ⟨bx rfl rfl rfl, ⟨none, rfl, trivial⟩, bx rfl rfl rfl, trivial⟩⟩
       refine SCode.cond_f rfl g424 (SCode.exit ?_)
       exact ⟨(total_385, o1_387), h, sub_gen [0, 1] rfl rfl (zall rfl rfl) ⟨bx rfl rfl rfl, ⟨none, rfl, trivial⟩, trivial⟩⟩
     rintro ⟨total_344, o1_345⟩ h
     show SCode _ _ _ (S424 total_344 o1_345) _
     try dsimp only at h
     unfold plan_Check_p348 at h
     refine SCode.seq ?_
     obtain ⟨g346, h⟩ := guard_out h
     refine SCode.region (sm rfl rfl (sm rfl rfl (sm rfl rfl (sq rfl rfl (q_index_vec rfl rfl rfl sl22 rfl g346.1 g346.2) (sq rfl rfl (q_load_eptr rfl rfl ty3) (sq rfl rfl (q_neq rfl rfl rfl) (SOps.sub (st' := ⟨[(1, .c (vI a1_energy)), (2, .c (vR a2_plan)), (3, .c (.ptr 0 0)), (7, .c (.own 1 o1_345.length)), (56, .c (vSDemand a0_p.Demands)), (57, ci t57_213), (58, ci t58_214), (132, .c (.bool ((!decide (total_344 = a1_energy.getD t58_214.toNat 0)))))], [.box (bSProblem a0_p), .rows 22 3 1 o1_345.length (rLen o1_345) (rGet (cInt .i64) 0 o1_345) none]⟩) (sub_gen [0, 1] rfl rfl (zall rfl rfl) ⟨bx rfl rfl rfl, ⟨none, rfl, trivial⟩, trivial⟩) (SOps.nil ?_))))))))
     rcases cond_out h with ⟨g347, h⟩ | ⟨g347, h⟩
     ·refine SCode.cond_t rfl g347 (SCode.seq (SCode.region (sa rfl rfl (SOps.sub (st' := ⟨[(6, .c (.bool false))], []⟩) (sub_gen [] rfl rfl (zall rfl rfl) trivial) (SOps.nil (SCode.ret ?_))))))
      obtain rfl := Option.some.inj h
      exact ⟨⟨[(6, .c (.bool false))], []⟩, _, sub_gen [] rfl rfl (zall rfl rfl) trivial, resA1 (v := .c (.bool false)) rfl rfl, rfl⟩
     refine SCode.cond_f rfl g347 (SCode.skip ?_)
     exact ⟨o1_345, h, sub_gen [0, 1] rfl rfl (zall rfl rfl) ⟨bx rfl rfl rfl, ⟨none, rfl, trivial⟩, trivial⟩⟩
    rintro o1_339 h
    show SCode _ _ _ (S425 o1_339) _
    try dsimp only at h
    unfold plan_Check_p340 at h
    refine SCode.region (sq rfl rfl (q_add rfl rfl rfl) (sm rfl rfl (SOps.sub (st' := ⟨[(1, .c (vI a1_energy)), (2, .c (vR a2_plan)), (3, .c (.ptr 0 0)), (7, .c (.own 1 o1_339.length)), (56, .c (vSDemand a0_p.Demands)), (57, ci t57_213), (58, ci (IntKind.wrap .i64 (t58_214 + 1)))], [.box (bSProblem a0_p), .rows 22 3 1 o1_339.length (rLen o1_339) (rGet (cInt .i64) 0 o1_339) none]⟩) (sub_gen [0, 1] rfl rfl (zall rfl rfl) ⟨bx rfl rfl rfl, ⟨none, rfl, trivial⟩, trivial⟩) (SOps.nil ?_))))
    exact ⟨(n_337, (t57_213, IntKind.wrap .i64 (t58_214 + 1), o1_339)), h, Nat.lt_succ_self n_337, sub_gen [0, 1] rfl rfl (zall rfl rfl) ⟨bx rfl rfl rfl, ⟨none, rfl, trivial⟩, trivial⟩⟩
   refine SCode.cond_f rfl g338 (SCode.exit ?_)
   exact ⟨o1_215, h, sub_gen [0, 1] rfl rfl (zall rfl rfl) ⟨bx rfl rfl rfl, ⟨none, rfl, trivial⟩, trivial⟩⟩
 rintro o1_8 h
 show SCode _ _ _ (S427 o1_8) _
 try dsimp only at h
 unfold plan_Check_p90 at h
 let S224 := (⟨[], []⟩ : St)
 refine SCode.join (σ := Unit) (S := fun s => S224) (g := fun s => plan_Check_p9 = some r) ?_ ?_
 rotate_left
 ·refine SCode.seq (SCode.region (sq rfl rfl (q_field_ptr rfl rfl fd26_1) (sq rfl rfl (q_load_ptr rfl rfl rfl rfl ty23) (sq rfl rfl (q_len_vec rfl rfl sl23) (sm rfl rfl (SOps.sub (st' := ⟨[(3, .c (.ptr 0 0)), (7, .c (.own 1 o1_8.length)), (135, .c (vR a0_p.Caps)), (136, ci (((a0_p.Caps).length : Int))), (137, ci 0)], [.box (bSProblem a0_p), .rows 22 3 1 o1_8.length (rLen o1_8) (rGet (cInt .i64) 0 o1_8) none]⟩) (sub_gen [0, 1] rfl rfl (zall rfl rfl) ⟨bx rfl rfl rfl, ⟨none, rfl, trivial⟩, trivial⟩) (SOps.nil (SCode.block ?_))))))))
  let S223 := fun (t137_36 : Int) => (⟨[(3, .c (.ptr 0 0)), (7, .c (.own 1 o1_8.length)), (135, .c (vR a0_p.Caps)), (136, ci (((a0_p.Caps).length : Int))), (137, ci t137_36)], [.box (bSProblem a0_p), .rows 22 3 1 o1_8.length (rLen o1_8) (rGet (cInt .i64) 0 o1_8) none]⟩ : St)
  refine SCode.sub (st' := (S223 0)) (sub_gen [0, 1] rfl rfl (zall rfl rfl) ⟨bx rfl rfl rfl, ⟨none, rfl, trivial⟩, trivial⟩) ?_
  refine (SCode.loop (σ := Nat × Int) (S := fun s => (S223 s.2)) (g := fun s => plan_Check_l63 F a0_p o1_8 s.1 s.2 = some r) (μ := fun s => s.1) (F, 0) h ?_)
  rintro ⟨n_63, t137_36⟩ h
  try dsimp only at h
  show SCode _ _ _ (S223 t137_36) _
  cases n_63 with
  | zero => cases h
  | succ n_63 =>
   rw [plan_Check_l63] at h
   unfold plan_Check_b63 at h
   refine SCode.seq (SCode.region (sq rfl rfl (q_lss rfl rfl rfl) (SOps.sub (st' := ⟨[(3, .c (.ptr 0 0)), (7, .c (.own 1 o1_8.length)), (135, .c (vR a0_p.Caps)), (136, ci (((a0_p.Caps).length : Int))), (137, ci t137_36), (138, .c (.bool (decide (t137_36 < ((a0_p.Caps).length : Int)))))], [.box (bSProblem a0_p), .rows 22 3 1 o1_8.length (rLen o1_8) (rGet (cInt .i64) 0 o1_8) none]⟩) (sub_gen [0, 1] rfl rfl (zall rfl rfl) ⟨bx rfl rfl rfl, ⟨none, rfl, trivial⟩, trivial⟩) (SOps.nil (SCode.seq ?_)))))
   rcases cond_out h with ⟨g64, h⟩ | ⟨g64, h⟩
   ·refine SCode.cond_t rfl g64 (SCode.skip ?_)
    let S222 := (⟨[(3, .c (.ptr 0 0)), (7, .c (.own 1 o1_8.length)), (135, .c (vR a0_p.Caps)), (136, ci (((a0_p.Caps).length : Int))), (137, ci t137_36)], [.box (bSProblem a0_p), .rows 22 3 1 o1_8.length (rLen o1_8) (rGet (cInt .i64) 0 o1_8) none]⟩ : St)
    refine SCode.join (σ := Unit) (S := fun s => S222) (g := fun s => plan_Check_p65 t137_36 (fun t137_36 => plan_Check_l63 F a0_p o1_8 n_63 t137_36) = some r) ?_ ?_
    rotate_left
    ·refine SCode.block (SCode.seq ?_)
     obtain ⟨g66, h⟩ := guard_out h
     refine SCode.region (sm rfl rfl (sq rfl rfl (q_index_vec rfl rfl rfl sl23 rfl g66.1 g66.2) (sq rfl rfl (q_load_eptr rfl rfl ty22) (sa rfl rfl (sa rfl rfl (SOps.sub (st' := ⟨[(3, .c (.ptr 0 0)), (7, .c (.own 1 o1_8.length)), (15, ci t137_36), (16, .c (vI (a0_p.Caps.getD t137_36.toNat ([])))), (135, .c (vR a0_p.Caps)), (136, ci (((a0_p.Caps).length : Int))), (137, ci t137_36)], [.box (bSProblem a0_p), .rows 22 3 1 o1_8.length (rLen o1_8) (rGet (cInt .i64) 0 o1_8) none]⟩) (sub_gen [0, 1] rfl rfl (zall rfl rfl) ⟨bx rfl rfl rfl, ⟨none, rfl, trivial⟩, trivial⟩) (SOps.nil (SCode.seq (SCode.region (sm rfl rfl (sq rfl rfl (q_len_vec rfl rfl sl22) (sm rfl rfl (SOps.sub (st' := ⟨[(3, .c (.ptr 0 0)), (7, .c (.own 1 o1_8.length)), (15, ci t137_36), (135, .c (vR a0_p.Caps)), (136, ci (((a0_p.Caps).length : Int))), (137, ci t137_36), (142, .c (vI (a0_p.Caps.getD t137_36.toNat ([])))), (143, ci (((a0_p.Caps.getD t137_36.toNat ([])).length : Int))), (144, ci 0)], [.box (bSProblem a0_p), .rows 22 3 1 o1_8.length (rLen o1_8) (rGet (cInt .i64) 0 o1_8) none]⟩) (sub_gen [0, 1] rfl rfl (zall rfl rfl) ⟨bx rfl rfl rfl, ⟨none, rfl, trivial⟩, trivial⟩) (SOps.nil (SCode.block ?_)))))))))))))))
     let S221 := fun (t144_74 : Int) => (⟨[(3, .c (.ptr 0 0)), (7, .c (.own 1 o1_8.length)), (15, ci t137_36), (135, .c (vR a0_p.Caps)), (136, ci (((a0_p.Caps).length : Int))), (137, ci t137_36), (142, .c (vI (a0_p.Caps.getD t137_36.toNat ([])))), (143, ci (((a0_p.Caps.getD t137_36.toNat ([])).length : Int))), (144, ci t144_74)], [.box (bSProblem a0_p), .rows 22 3 1 o1_8.length (rLen o1_8) (rGet (cInt .i64) 0 o1_8) none]⟩ : St)
     refine SCode.sub (st' := (S221 0)) (sub_gen [0, 1] rfl rfl (zall rfl rfl) ⟨bx rfl rfl rfl, ⟨none, rfl, trivial⟩, trivial⟩) ?_
     refine (SCode.loop (σ := Nat × Int) (S := fun s => (S221 s.2)) (g := fun s => plan_Check_l82 a0_p o1_8 t137_36 (fun t137_36 => plan_Check_l63 F a0_p o1_8 n_63 t137_36) s.1 s.2 = some r) (μ := fun s => s.1) (F, 0) h ?_)
     rintro ⟨n_82, t144_74⟩ h
     try dsimp only at h
     show SCode _ _ _ (S221 t144_74) _
     cases n_82 with
     | zero => cases h
     | succ n_82 =>
      rw [plan_Check_l82] at h
      unfold plan_Check_b82 at h
      refine SCode.seq (SCode.region (sq rfl rfl (q_lss rfl rfl rfl) (SOps.sub (st' := ⟨[(3, .c (.ptr 0 0)), (7, .c (.own 1 o1_8.length)), (15, ci t137_36), (135, .c (vR a0_p.Caps)), (136, ci (((a0_p.Caps).length : Int))), (137, ci t137_36), (142, .c (vI (a0_p.Caps.getD t137_36.toNat ([])))), (143, ci (((a0_p.Caps.getD t137_36.toNat ([])).length : Int))), (144, ci t144_74), (145, .c (.bool (decide (t144_74 < ((a0_p.Caps.getD t137_36.toNat ([])).length : Int)))))], [.box (bSProblem a0_p), .rows 22 3 1 o1_8.length (rLen o1_8) (rGet (cInt .i64) 0 o1_8) none]⟩) (sub_gen [0, 1] rfl rfl (zall rfl rfl) ⟨bx rfl rfl rfl, ⟨none, rfl, trivial⟩, trivial⟩) (SOps.nil (SCode.seq ?_)))))
      rcases cond_out h with ⟨g83, h⟩ | ⟨g83, h⟩
      ·refine SCode.cond_t rfl g83 (SCode.skip (SCode.seq (SCode.block (SCode.seq ?_))))
       obtain ⟨g84, h⟩ := guard_out h
       refine SCode.region (sm rfl rfl (sq rfl rfl (q_index_vec rfl rfl rfl sl22 rfl g84.1 g84.2) (sq rfl rfl (q_load_eptr rfl rfl ty3) (sa rfl rfl (sa rfl rfl (SOps.sub (st' := ⟨[(3, .c (.ptr 0 0)), (7, .c (.own 1 o1_8.length)), (15, ci t137_36), (17, ci t144_74), (18, ci ((a0_p.Caps.getD t137_36.toNat ([])).getD t144_74.toNat 0)), (135, .c (vR a0_p.Caps)), (136, ci (((a0_p.Caps).length : Int))), (137, ci t137_36), (142, .c (vI (a0_p.Caps.getD t137_36.toNat ([])))), (143, ci (((a0_p.Caps.getD t137_36.toNat ([])).length : Int))), (144, ci t144_74)], [.box (bSProblem a0_p), .rows 22 3 1 o1_8.length (rLen o1_8) (rGet (cInt .i64) 0 o1_8) none]⟩) (sub_gen [0, 1] rfl rfl (zall rfl rfl) ⟨bx rfl rfl rfl, ⟨none, rfl, trivial⟩, trivial⟩) (SOps.nil (SCode.seq ?_))))))))
       obtain ⟨g86, h⟩ := guard_out h
       refine SCode.sub (st' := ⟨[(3, .c (.ptr 0 0)), (7, .c (.own 1 o1_8.length)), (15, ci t137_36), (17, ci t144_74), (18, ci ((a0_p.Caps.getD t137_36.toNat ([])).getD t144_74.toNat 0)), (135, .c (vR a0_p.Caps)), (136, ci (((a0_p.Caps).length : Int))), (137, ci t137_36), (142, .c (vI (a0_p.Caps.getD t137_36.toNat ([])))), (143, ci (((a0_p.Caps.getD t137_36.toNat ([])).length : Int))), (144, ci t144_74)], [.box (bSProblem a0_p), .rows 22 3 1 o1_8.length (rLen o1_8) (rGet (cInt .i64) 0 o1_8) (some (t137_36.toNat, .own 2 (o1_8.getD t137_36.toNat []).length)), aI 3 (o1_8.getD t137_36.toNat [])]⟩) (Sub.focus (F := 1) (h := t137_36.toNat) rfl (toNat_lt g86)) ?_
       obtain ⟨g87, h⟩ := guard_out h
       obtain ⟨g88, h⟩ := guard_out h
       refine SCode.drawK mixed [[], [], [0, 1], [0, 1, 2], [], [0, 1, 2, 3, 4], [0, 1, 2, 3, 4, 5], [], [], [8], [7, 8, 9], [0, 1, 2, 3, 4, 5, 6, 7, 8, 9, 10]] 12 0 rfl rfl (qm rfl rfl (qm rfl rfl (qr rfl rfl (q_index_own rfl rfl rfl sl23 g87.1 g87.2) (qr rfl rfl (q_load_hole rfl rfl rfl (toNat_lt g87) ty22) (qm rfl rfl (qr rfl rfl (q_index_own rfl rfl rfl sl22 g88.1 g88.2) (qr rfl rfl (q_load_aptr rfl rfl rfl (toNat_lt g88) rfl ty3) (qm rfl rfl (qr rfl rfl (q_field_ptr rfl rfl fd26_3) (qr rfl rfl (q_load_ptr rfl rfl rfl rfl ty3) (qr rfl rfl (q_mul rfl rfl rfl) (qr rfl rfl (q_gtr rfl rfl rfl) (QK.nil (SOps.sub (st' := ⟨[(3, .c (.ptr 0 0)), (7, .c (.own 1 o1_8.length)), (15, ci t137_36), (135, .c (vR a0_p.Caps)), (136, ci (((a0_p.Caps).length : Int))), (137, ci t137_36), (142, .c (vI (a0_p.Caps.getD t137_36.toNat ([])))), (143, ci (((a0_p.Caps.getD t137_36.toNat ([])).length : Int))), (144, ci t144_74), (160, .c (.bool (decide (IntKind.wrap .i64 ((a0_p.Caps.getD t137_36.toNat ([])).getD t144_74.toNat 0 * a0_p.Length) < (o1_8.getD t137_36.toNat []).getD t144_74.toNat 0))))], [.box (bSProblem a0_p), .rows 22 3 1 o1_8.length (rLen o1_8) (rGet (cInt .i64) 0 o1_8) none]⟩) (Sub.trans (Sub.unfocusR (F := 1) (j := 2) rfl rfl) (sub_gen [0, 1] rfl rfl (zall rfl rfl) ⟨bx rfl rfl rfl, ⟨none, rfl, trivial⟩, trivial⟩)) (SOps.nil ?_)))))))))))))))
       rcases cond_out h with ⟨g89, h⟩ | ⟨g89, h⟩
       ·refine SCode.cond_t rfl g89 (SCode.seq (SCode.region (sa rfl rfl (SOps.sub (st' := ⟨[(6, .c (.bool false))], []⟩) (sub_gen [] rfl rfl (zall rfl rfl) trivial) (SOps.nil (SCode.ret ?_))))))
        obtain rfl := Option.some.inj h
        exact ⟨⟨[(6, .c (.bool false))], []⟩, _, sub_gen [] rfl rfl (zall rfl rfl) trivial, resA1 (v := .c (.bool false)) rfl rfl, rfl⟩
       refine SCode.cond_f rfl g89 (SCode.skip (SCode.region (sq rfl rfl (q_add rfl rfl rfl) (sm rfl rfl (SOps.sub (st' := ⟨[(3, .c (.ptr 0 0)), (7, .c (.own 1 o1_8.length)), (15, ci t137_36), (135, .c (vR a0_p.Caps)), (136, ci (((a0_p.Caps).length : Int))), (137, ci t137_36), (142, .c (vI (a0_p.Caps.getD t137_36.toNat ([])))), (143, ci (((a0_p.Caps.getD t137_36.toNat ([])).length : Int))), (144, ci (IntKind.wrap .i64 (t144_74 + 1)))], [.box (bSProblem a0_p), .rows 22 3 1 o1_8.length (rLen o1_8) (rGet (cInt .i64) 0 o1_8) none]⟩) (sub_gen [0, 1] rfl rfl (zall rfl rfl) ⟨bx rfl rfl rfl, ⟨none, rfl, trivial⟩, trivial⟩) (SOps.nil ?_))))))
       exact ⟨(n_82, IntKind.wrap .i64 (t144_74 + 1)), h, Nat.lt_succ_self n_82, sub_gen [0, 1] rfl rfl (zall rfl rfl) ⟨bx rfl rfl rfl, ⟨none, rfl, trivial⟩, trivial⟩⟩
      refine SCode.cond_f rfl g83 (SCode.exit ?_)
      exact ⟨(), h, sub_gen [0, 1] rfl rfl (zall rfl rfl) ⟨bx rfl rfl rfl, ⟨none, rfl, trivial⟩, trivial⟩⟩
    rintro ⟨⟩ h
    show SCode _ _ _ S222 _
    try dsimp only at h
    unfold plan_Check_p65 at h
    refine SCode.region (sq rfl rfl (q_add rfl rfl rfl) (sm rfl rfl (SOps.sub (st' := ⟨[(3, .c (.ptr 0 0)), (7, .c (.own 1 o1_8.length)), (135, .c (vR a0_p.Caps)), (136, ci (((a0_p.Caps).length : Int))), (137, ci (IntKind.wrap .i64 (t137_36 + 1)))], [.box (bSProblem a0_p), .rows 22 3 1 o1_8.length (rLen o1_8) (rGet (cInt .i64) 0 o1_8) none]⟩) (sub_gen [0, 1] rfl rfl (zall rfl rfl) ⟨bx rfl rfl rfl, ⟨none, rfl, trivial⟩, trivial⟩) (SOps.nil ?_))))
    exact ⟨(n_63, IntKind.wrap .i64 (t137_36 + 1)), h, Nat.lt_succ_self n_63, sub_gen [0, 1] rfl rfl (zall rfl rfl) ⟨bx rfl rfl rfl, ⟨none, rfl, trivial⟩, trivial⟩⟩
   refine SCode.cond_f rfl g64 (SCode.exit ?_)
   exact ⟨(), h, sub_gen [] rfl rfl trivial trivial⟩
 rintro ⟨⟩ h
 show SCode _ _ _ S224 _
 try dsimp only at h
 unfold plan_Check_p9 at h
 refine SCode.seq (SCode.region (sa rfl rfl (SOps.nil (SCode.ret ?_))))
 obtain rfl := Option.some.inj h
 exact ⟨⟨[(6, .c (.bool true))], []⟩, _, sub_gen [] rfl rfl (zall rfl rfl) trivial, resA1 (v := .c (.bool true)) rfl rfl, rfl⟩
end Go.Proofs.Ytmiikbfacgmopaa.W
