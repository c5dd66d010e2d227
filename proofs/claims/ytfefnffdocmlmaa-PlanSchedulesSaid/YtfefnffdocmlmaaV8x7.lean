/- Written by a program of ours (wip/eng/gen.py): the functions compute their models. -/
import Derived.Test.YtfefnffdocmlmaaFacts
import Derived.Test.YtfefnffdocmlmaaV8x6
namespace Go.Proofs.Ytfefnffdocmlmaa.W
open Go Go.Proofs Go.Proofs.Ytfefnffdocmlmaa.E Go.Proofs.Ytfefnffdocmlmaa.M
set_option linter.unusedVariables false
set_option maxRecDepth 100000
set_option maxHeartbeats 8000000
theorem chargenetref18_fits_ok (F : Nat) (a0_p : SProblem) (a1_energy : List Int) (r : Bool) (h : chargenetref18_fits F a0_p a1_energy = some r) :
  SFun Try.prog 29 [] [.a (bSProblem a0_p), .c (vI a1_energy)] (fun x _ => x = .c (.bool r)) := by
 refine SFun.of (n := 29) Try.func29 rfl rfl rfl ?_
 unfold chargenetref18_fits at h
 show SCode _ _ _ ⟨[(0, .a (bSProblem a0_p)), (1, .c (vI a1_energy))], []⟩ _
 refine SCode.seq (SCode.region (se rfl rfl (e_box rfl rfl rfl rfl rfl rfl) (sa rfl rfl (SOps.nil (SCode.seq (SCode.region (sa rfl rfl (SOps.nil ?_))))))))
 let S3 := fun (want_1 : Int) => (⟨[(1, .c (vI a1_energy)), (2, .c (.ptr 0 0)), (5, ci want_1)], [.box (bSProblem a0_p)]⟩ : St)
 refine SCode.join (σ := Int) (S := fun s => (S3 s)) (g := fun s => chargenetref18_fits_p4 F a0_p a1_energy s = some r) ?_ ?_
 rotate_left
 ·refine SCode.seq (SCode.region (sm rfl rfl (sq rfl rfl (q_len_vec rfl rfl sl22) (sm rfl rfl (SOps.nil (SCode.block ?_))))))
  let S2 := fun (want_7 : Int) => fun (t12_8 : Int) => (⟨[(1, .c (vI a1_energy)), (2, .c (.ptr 0 0)), (5, ci want_7), (10, .c (vI a1_energy)), (11, ci (((a1_energy).length : Int))), (12, ci t12_8)], [.box (bSProblem a0_p)]⟩ : St)
  refine SCode.sub (st' := (S2 0 0)) (sub_gen [0] rfl rfl (zall rfl rfl) ⟨bx rfl rfl rfl, trivial⟩) ?_
  refine (SCode.loop (σ := Nat × (Int × Int)) (S := fun s => (S2 s.2.1 s.2.2)) (g := fun s => chargenetref18_fits_l11 F a0_p a1_energy s.1 s.2.1 s.2.2 = some r) (μ := fun s => s.1) (F, (0, 0)) h ?_)
  rintro ⟨n_11, ⟨want_7, t12_8⟩⟩ h
  try dsimp only at h
  show SCode _ _ _ (S2 want_7 t12_8) _
  cases n_11 with
  | zero => cases h
  | succ n_11 =>
   rw [chargenetref18_fits_l11] at h
   unfold chargenetref18_fits_b11 at h
   refine SCode.seq (SCode.region (sq rfl rfl (q_lss rfl rfl rfl) (SOps.nil (SCode.seq ?_))))
   rcases cond_out h with ⟨g12, h⟩ | ⟨g12, h⟩
   ·refine SCode.cond_t rfl g12 (SCode.skip (SCode.seq (SCode.block (SCode.seq ?_))))
    obtain ⟨g13, h⟩ := guard_out h
    refine SCode.region (sq rfl rfl (q_index_vec rfl rfl rfl sl22 rfl g13.1 g13.2) (sq rfl rfl (q_load_eptr rfl rfl ty3) (sa rfl rfl (SOps.nil (SCode.region (sm rfl rfl (sm rfl rfl (sq rfl rfl (q_add rfl rfl rfl) (sa rfl rfl (SOps.nil (SCode.region (sq rfl rfl (q_add rfl rfl rfl) (sm rfl rfl (SOps.nil ?_))))))))))))))
    exact ⟨(n_11, (IntKind.wrap .i64 (want_7 + a1_energy.getD t12_8.toNat 0), IntKind.wrap .i64 (t12_8 + 1))), h, Nat.lt_succ_self n_11, sub_gen [0] rfl rfl (zall rfl rfl) ⟨bx rfl rfl rfl, trivial⟩⟩
   refine SCode.cond_f rfl g12 (SCode.exit ?_)
   exact ⟨want_7, h, sub_gen [0] rfl rfl (zall rfl rfl) ⟨bx rfl rfl rfl, trivial⟩⟩
 rintro want_1 h
 show SCode _ _ _ (S3 want_1) _
 try dsimp only at h
 unfold chargenetref18_fits_p4 at h
 refine SCode.seq ?_
 obtain ⟨c_2, g3, h⟩ := bind_out h
 try dsimp only at h
 refine SCode.region (sq rfl rfl (q_load_ptr_all rfl rfl rfl rfl rfl ty26) (sm rfl rfl (sq rfl rfl (q_call (chargenetref18_flows_ok F a0_p a1_energy c_2 g3) [] rfl fn37 ⟨⟨rfl, rfl⟩, ⟨_, rfl, .inl ⟨rfl, rfl⟩⟩, trivial⟩ (.inl rfl)) (sm rfl rfl (sq rfl rfl (q_extract rfl rfl rfl) (sq rfl rfl (q_extract rfl rfl rfl) (sa rfl rfl (sa rfl rfl (SOps.nil (SCode.seq (SCode.region (sm rfl rfl (sm rfl rfl (sq rfl rfl (q_eql rfl rfl rfl) (sa rfl rfl ?_)))))))))))))))
 refine SOps.nil (SCode.ret ?_)
 obtain rfl := Option.some.inj h
 exact ⟨⟨[(4, .c (.bool (decide (c_2.1 = want_1))))], []⟩, _, sub_gen [] rfl rfl (zall rfl rfl) trivial, resA1 (v := .c (.bool (decide (c_2.1 = want_1)))) rfl rfl, rfl⟩
theorem chargenetref18_Schedule_ok (F : Nat) (a0_p : SProblem) (a1_energy : List Int) (r : (List (List Int)) × Int) (h : chargenetref18_Schedule F a0_p a1_energy = some r) :
  SFun Try.prog 21 [] [.a (bSProblem a0_p), .c (vI a1_energy)] (fun x _ => x = .t [.c (vR r.1), .c (.int .i64 r.2)]) := by
 refine SFun.of (n := 70) Try.func21 rfl rfl rfl ?_
 unfold chargenetref18_Schedule at h
 show SCode _ _ _ ⟨[(0, .a (bSProblem a0_p)), (1, .c (vI a1_energy))], []⟩ _
 refine SCode.seq (SCode.region (se rfl rfl (e_box rfl rfl rfl rfl rfl rfl) (sa rfl rfl (sa rfl rfl (SOps.nil (SCode.seq (SCode.seq ?_)))))))
 obtain ⟨c_1, g2, h⟩ := bind_out h
 try dsimp only at h
 refine SCode.region (sq rfl rfl (q_load_ptr_all rfl rfl rfl rfl rfl ty26) (sm rfl rfl (sq rfl rfl (q_call (chargenetref18_energies_ok F a0_p a1_energy c_1 g2) [] rfl fn28 ⟨⟨rfl, rfl⟩, ⟨_, rfl, .inl ⟨rfl, rfl⟩⟩, trivial⟩ (.inl rfl)) (sa rfl rfl (SOps.nil (SCode.seq (SCode.region (sm rfl rfl (sq rfl rfl (q_neq rfl rfl rfl) (SOps.nil ?_))))))))))
 rcases cond_out h with ⟨g3, h⟩ | ⟨g3, h⟩
 ·refine SCode.cond_t rfl g3 (SCode.seq (SCode.region (sm rfl rfl (sa rfl rfl (sa rfl rfl (SOps.nil (SCode.ret ?_)))))))
  obtain rfl := Option.some.inj h
  exact ⟨⟨[(4, .c (vR (([] : List (List Int))))), (5, ci c_1)], []⟩, _, sub_gen [] rfl rfl ⟨⟨_, rfl, .inr (.inr (.inr (.inl ⟨_, _, rfl, rfl⟩)))⟩, zc rfl rfl, trivial⟩ trivial, resA2 (v1 := .c (vR (([] : List (List Int))))) (v2 := .c (.int .i64 c_1)) rfl rfl rfl, rfl⟩
 refine SCode.cond_f rfl g3 (SCode.skip (SCode.seq (SCode.seq ?_)))
 obtain ⟨c_4, g5, h⟩ := bind_out h
 try dsimp only at h
 refine SCode.region (sq rfl rfl (q_load_ptr_all rfl rfl rfl rfl rfl ty26) (sm rfl rfl (sq rfl rfl (q_call (chargenetref18_fits_ok F a0_p a1_energy c_4 g5) [] rfl fn29 ⟨⟨rfl, rfl⟩, ⟨_, rfl, .inl ⟨rfl, rfl⟩⟩, trivial⟩ (.inl rfl)) (sq rfl rfl (q_not rfl rfl) (SOps.nil ?_)))))
 rcases cond_out h with ⟨g6, h⟩ | ⟨g6, h⟩
 ·refine SCode.cond_t rfl g6 (SCode.seq (SCode.region (sa rfl rfl (sa rfl rfl (SOps.nil (SCode.ret ?_))))))
  obtain rfl := Option.some.inj h
  exact ⟨⟨[(4, .c (vR (([] : List (List Int))))), (5, ci 3)], []⟩, _, sub_gen [] rfl rfl ⟨⟨_, rfl, .inr (.inr (.inr (.inl ⟨_, _, rfl, rfl⟩)))⟩, zc rfl rfl, trivial⟩ trivial, resA2 (v1 := .c (vR (([] : List (List Int))))) (v2 := .c (.int .i64 3)) rfl rfl rfl, rfl⟩
 refine SCode.cond_f rfl g6 (SCode.skip (SCode.seq ?_))
 obtain ⟨c_7, g8, h⟩ := bind_out h
 try dsimp only at h
 refine SCode.region (sq rfl rfl (q_load_ptr_all rfl rfl rfl rfl rfl ty26) (sm rfl rfl (sq rfl rfl (q_call (chargenetref18_flows_ok F a0_p a1_energy c_7 g8) [] rfl fn37 ⟨⟨rfl, rfl⟩, ⟨_, rfl, .inl ⟨rfl, rfl⟩⟩, trivial⟩ (.inl rfl)) (sm rfl rfl (sq rfl rfl (q_extract rfl rfl rfl) (sq rfl rfl (q_extract rfl rfl rfl) (sa rfl rfl (sa rfl rfl (SOps.sub (st' := ⟨[(2, .c (.ptr 0 0)), (8, .c (vI c_7.2))], [.box (bSProblem a0_p)]⟩) (sub_gen [0] rfl rfl (zall rfl rfl) ⟨bx rfl rfl rfl, trivial⟩) (SOps.nil (SCode.seq (SCode.region (sa rfl rfl (SOps.nilArrL (T := 22) (k := 1) (cVec 1 (cInt .i64) 0) ([]) (s := 9) rfl rfl (SOps.nil ?_)))))))))))))))
 refine SCode.seq (SCode.region (sa rfl rfl (SOps.nil ?_)))
 let S117 := fun (o0_9 : List (List Int)) => (⟨[(9, .c (.own 0 o0_9.length))], [aR 22 o0_9]⟩ : St)
 refine SCode.join (σ := (List (List Int))) (S := fun s => (S117 s)) (g := fun s => chargenetref18_Schedule_p10 s = some r) ?_ ?_
 rotate_left
 ·refine SCode.seq (SCode.region (sq rfl rfl (q_field_ptr rfl rfl fd26_4) (sq rfl rfl (q_load_ptr rfl rfl rfl rfl ty24) (sq rfl rfl (q_len_vec rfl rfl sl24) (sm rfl rfl (SOps.nil (SCode.block ?_)))))))
  let S116 := fun (at_53 : Int) => fun (t33_54 : Int) => fun (t34_55 : Int) => fun (o1_56 : List (List Int)) => (⟨[(2, .c (.ptr 0 0)), (8, .c (vI c_7.2)), (9, .c (.own 1 o1_56.length)), (10, ci at_53), (32, .c (vSDemand a0_p.Demands)), (33, ci t33_54), (34, ci t34_55)], [.box (bSProblem a0_p), aR 22 o1_56]⟩ : St)
  refine SCode.sub (st' := (S116 0 (((a0_p.Demands).length : Int)) 0 (([] : List (List Int))))) (sub_gen [0, 1] rfl rfl (zall rfl rfl) ⟨bx rfl rfl rfl, oa rfl, trivial⟩) ?_
  refine (SCode.loop (σ := Nat × (Int × Int × Int × (List (List Int)))) (S := fun s => (S116 s.2.1 s.2.2.1 s.2.2.2.1 s.2.2.2.2)) (g := fun s => chargenetref18_Schedule_l98 F a0_p c_7 s.1 s.2.1 s.2.2.1 s.2.2.2.1 s.2.2.2.2 = some r) (μ := fun s => s.1) (F, (0, ((a0_p.Demands).length : Int), 0, ([] : List (List Int)))) h ?_)
  rintro ⟨n_98, ⟨at_53, t33_54, t34_55, o1_56⟩⟩ h
  try dsimp only at h
  show SCode _ _ _ (S116 at_53 t33_54 t34_55 o1_56) _
  cases n_98 with
  | zero => cases h
  | succ n_98 =>
   rw [chargenetref18_Schedule_l98] at h
   unfold chargenetref18_Schedule_b98 at h
   refine SCode.seq (SCode.region (sq rfl rfl (q_lss rfl rfl rfl) (SOps.nil (SCode.seq ?_))))
   rcases cond_out h with ⟨g99, h⟩ | ⟨g99, h⟩
   ·refine SCode.cond_t rfl g99 (SCode.skip ?_)
    let S115 := fun (at_100 : Int) => fun (o1_101 : List (List Int)) => (⟨[(2, .c (.ptr 0 0)), (8, .c (vI c_7.2)), (9, .c (.own 1 o1_101.length)), (10, ci at_100), (32, .c (vSDemand a0_p.Demands)), (33, ci t33_54), (34, ci t34_55)], [.box (bSProblem a0_p), aR 22 o1_101]⟩ : St)
    refine SCode.join (σ := Int × (List (List Int))) (S := fun s => (S115 s.1 s.2)) (g := fun s => chargenetref18_Schedule_p102 t33_54 t34_55 (fun at_53 t33_54 t34_55 o1_56 => chargenetref18_Schedule_l98 F a0_p c_7 n_98 at_53 t33_54 t34_55 o1_56) s.1 s.2 = some r) ?_ ?_
    rotate_left
    ·refine SCode.block (SCode.seq ?_)
     obtain ⟨g103, h⟩ := guard_out h
     refine SCode.region (sq rfl rfl (q_index_vec rfl rfl rfl sl24 rfl g103.1 g103.2) (sq rfl rfl (q_load_eptr_all rfl rfl rfl ty39) (se rfl rfl (e_alloc rfl rfl rfl z39) (se rfl rfl (e_store_box rfl rfl rfl rfl rfl ty39 rfl rfl rfl rfl) (SOps.nil (SCode.seq ?_))))))
     obtain ⟨g104, h⟩ := guard_out h
     refine SCode.region (sq rfl rfl (q_field_ptr rfl rfl fd26_1) (sq rfl rfl (q_load_ptr rfl rfl rfl rfl ty23) (sq rfl rfl (q_len_vec rfl rfl sl23) (se rfl rfl (e_makeL (c := (cInt .i64)) (d0 := 0) rfl rfl rfl rfl rfl sl22 z3 rfl rfl rfl g104.1 (Int.le_refl _) g104.2.1 g104.2.2) (sa rfl rfl (SOps.nil (SCode.seq (SCode.region (sm rfl rfl (sq rfl rfl (q_add rfl rfl rfl) (sa rfl rfl (SOps.nil ?_))))))))))))
     let S114 := fun (at_105 : Int) => fun (o2_106 : List Int) => (⟨[(2, .c (.ptr 0 0)), (8, .c (vI c_7.2)), (9, .c (.own 1 o1_56.length)), (10, ci at_105), (13, .c (.own 2 o2_106.length)), (32, .c (vSDemand a0_p.Demands)), (33, ci t33_54), (34, ci t34_55)], [.box (bSProblem a0_p), aR 22 o1_56, aI 3 o2_106]⟩ : St)
     refine SCode.join (σ := Int × (List Int)) (S := fun s => (S114 s.1 s.2)) (g := fun s => chargenetref18_Schedule_p108 t33_54 t34_55 o1_56 (fun at_53 t33_54 t34_55 o1_56 => chargenetref18_Schedule_l98 F a0_p c_7 n_98 at_53 t33_54 t34_55 o1_56) s.1 s.2 = some r) ?_ ?_
     rotate_left
     ·refine SCode.seq (SCode.region (sq rfl rfl (q_field_ptr rfl rfl fd26_1) (sq rfl rfl (q_load_ptr rfl rfl rfl rfl ty23) (sq rfl rfl (q_len_vec rfl rfl sl23) (sm rfl rfl (SOps.nil (SCode.block ?_)))))))
      let S113 := fun (at_118 : Int) => fun (t47_119 : Int) => fun (o3_120 : List Int) => (⟨[(2, .c (.ptr 0 0)), (8, .c (vI c_7.2)), (9, .c (.own 1 o1_56.length)), (10, ci at_118), (12, .c (.ptr 2 0)), (13, .c (.own 3 o3_120.length)), (32, .c (vSDemand a0_p.Demands)), (33, ci t33_54), (34, ci t34_55), (46, ci (((a0_p.Caps).length : Int))), (47, ci t47_119)], [.box (bSProblem a0_p), aR 22 o1_56, .box (bSDemand (a0_p.Demands.getD t34_55.toNat dSDemand)), aI 3 o3_120]⟩ : St)
      refine SCode.sub (st' := (S113 (IntKind.wrap .i64 (at_53 + 1)) 0 (List.replicate (((a0_p.Caps).length : Int)).toNat (0 : Int)))) (sub_gen [0, 1, 2, 3] rfl rfl (zall rfl rfl) ⟨bx rfl rfl rfl, oa rfl, bx rfl rfl rfl, oa rfl, trivial⟩) ?_
      refine (SCode.loop (σ := Nat × (Int × Int × (List Int))) (S := fun s => (S113 s.2.1 s.2.2.1 s.2.2.2)) (g := fun s => chargenetref18_Schedule_l130 F a0_p c_7 t33_54 t34_55 o1_56 (fun at_53 t33_54 t34_55 o1_56 => chargenetref18_Schedule_l98 F a0_p c_7 n_98 at_53 t33_54 t34_55 o1_56) s.1 s.2.1 s.2.2.1 s.2.2.2 = some r) (μ := fun s => s.1) (F, (IntKind.wrap .i64 (at_53 + 1), 0, List.replicate (((a0_p.Caps).length : Int)).toNat (0 : Int))) h ?_)
      rintro ⟨n_130, ⟨at_118, t47_119, o3_120⟩⟩ h
      try dsimp only at h
      show SCode _ _ _ (S113 at_118 t47_119 o3_120) _
      cases n_130 with
      | zero => cases h
      | succ n_130 =>
       rw [chargenetref18_Schedule_l130] at h
       unfold chargenetref18_Schedule_b130 at h
       refine SCode.seq (SCode.region (sq rfl rfl (q_lss rfl rfl rfl) (SOps.nil (SCode.seq ?_))))
       rcases cond_out h with ⟨g131, h⟩ | ⟨g131, h⟩
       ·refine SCode.cond_t rfl g131 (SCode.skip ?_)
        let S112 := fun (at_132 : Int) => fun (o3_133 : List Int) => (⟨[(2, .c (.ptr 0 0)), (8, .c (vI c_7.2)), (9, .c (.own 1 o1_56.length)), (10, ci at_132), (12, .c (.ptr 2 0)), (13, .c (.own 3 o3_133.length)), (32, .c (vSDemand a0_p.Demands)), (33, ci t33_54), (34, ci t34_55), (46, ci (((a0_p.Caps).length : Int))), (47, ci t47_119)], [.box (bSProblem a0_p), aR 22 o1_56, .box (bSDemand (a0_p.Demands.getD t34_55.toNat dSDemand)), aI 3 o3_133]⟩ : St)
        refine SCode.join (σ := Int × (List Int)) (S := fun s => (S112 s.1 s.2)) (g := fun s => chargenetref18_Schedule_p134 t47_119 (fun at_118 t47_119 o3_120 => chargenetref18_Schedule_l130 F a0_p c_7 t33_54 t34_55 o1_56 (fun at_53 t33_54 t34_55 o1_56 => chargenetref18_Schedule_l98 F a0_p c_7 n_98 at_53 t33_54 t34_55 o1_56) n_130 at_118 t47_119 o3_120) s.1 s.2 = some r) ?_ ?_
        rotate_left
        ·refine SCode.block (SCode.seq (SCode.region (sm rfl rfl (sa rfl rfl (SOps.nil (SCode.seq ?_))))))
         obtain ⟨c_135, g136, h⟩ := bind_out h
         try dsimp only at h
         refine SCode.region (sq rfl rfl (q_load_ptr_all rfl rfl rfl rfl rfl ty26) (sq rfl rfl (q_load_ptr_all rfl rfl rfl rfl rfl ty39) (sm rfl rfl (sq rfl rfl (q_call (chargenetref18_Usable_ok F a0_p (a0_p.Demands.getD t34_55.toNat dSDemand) t47_119 c_135 g136) [] rfl fn38 ⟨⟨rfl, rfl⟩, ⟨rfl, rfl⟩, ⟨_, rfl, .inl ⟨rfl, rfl⟩⟩, trivial⟩ (.inl rfl)) (SOps.nil ?_)))))
         rcases cond_out h with ⟨g137, h⟩ | ⟨g137, h⟩
         ·refine SCode.cond_t rfl g137 (SCode.seq ?_)
          obtain ⟨g138, h⟩ := guard_out h
          obtain ⟨g139, h⟩ := guard_out h
          refine SCode.region (sm rfl rfl (sm rfl rfl (sm rfl rfl (sm rfl rfl (sq rfl rfl (q_index_vec rfl rfl rfl sl22 rfl g138.1 g138.2) (sq rfl rfl (q_load_eptr rfl rfl ty3) (sq rfl rfl (q_index_own rfl rfl rfl sl22 g139.1 g139.2) (se rfl rfl (e_storeL (c_7.2.getD at_118.toNat 0) rfl rfl rfl rfl rfl (toNat_lt g139) ty3 rfl rfl rfl rfl rfl rfl) ?_))))))))
          let y1 := o3_120.set t47_119.toNat (c_7.2.getD at_118.toNat 0)
          refine SOps.sub (st' := ⟨[(2, .c (.ptr 0 0)), (8, .c (vI c_7.2)), (9, .c (.own 1 o1_56.length)), (10, ci at_118), (12, .c (.ptr 2 0)), (13, .c (.own 3 y1.length)), (32, .c (vSDemand a0_p.Demands)), (33, ci t33_54), (34, ci t34_55), (46, ci (((a0_p.Caps).length : Int))), (47, ci t47_119)], [.box (bSProblem a0_p), aR 22 o1_56, .box (bSDemand (a0_p.Demands.getD t34_55.toNat dSDemand)), aI 3 y1]⟩) (sub_gen [0, 1, 2, 3] rfl rfl ⟨zc rfl rfl, zc rfl rfl, zc rfl rfl, zc rfl rfl, zc rfl rfl, ⟨_, rfl, .inl ⟨rfl, congrArg (Cell.own 3) (List.length_set : y1.length = o3_120.length).symm⟩⟩, zc rfl rfl, zc rfl rfl, zc rfl rfl, zc rfl rfl, zc rfl rfl, trivial⟩ ⟨bx rfl rfl rfl, oa rfl, bx rfl rfl rfl, oa rfl, trivial⟩) (SOps.nil (SCode.region (sm rfl rfl (sq rfl rfl (q_add rfl rfl rfl) (sa rfl rfl (SOps.nil ?_))))))
          exact ⟨(IntKind.wrap .i64 (at_118 + 1), o3_120.set t47_119.toNat (c_7.2.getD at_118.toNat 0)), h, sub_gen [0, 1, 2, 3] rfl rfl (zall rfl rfl) ⟨bx rfl rfl rfl, oa rfl, bx rfl rfl rfl, oa rfl, trivial⟩⟩
         refine SCode.cond_f rfl g137 (SCode.skip ?_)
         exact ⟨(at_118, o3_120), h, sub_gen [0, 1, 2, 3] rfl rfl (zall rfl rfl) ⟨bx rfl rfl rfl, oa rfl, bx rfl rfl rfl, oa rfl, trivial⟩⟩
        rintro ⟨at_132, o3_133⟩ h
        show SCode _ _ _ (S112 at_132 o3_133) _
        try dsimp only at h
        unfold chargenetref18_Schedule_p134 at h
        refine SCode.region (sq rfl rfl (q_add rfl rfl rfl) (sm rfl rfl (SOps.nil ?_)))
        exact ⟨(n_130, (at_132, IntKind.wrap .i64 (t47_119 + 1), o3_133)), h, Nat.lt_succ_self n_130, sub_gen [0, 1, 2, 3] rfl rfl (zall rfl rfl) ⟨bx rfl rfl rfl, oa rfl, bx rfl rfl rfl, oa rfl, trivial⟩⟩
       refine SCode.cond_f rfl g131 (SCode.exit ?_)
       exact ⟨(at_118, o3_120), h, sub_gen [0, 1, 3] rfl rfl (zall rfl rfl) ⟨bx rfl rfl rfl, oa rfl, oa rfl, trivial⟩⟩
     rintro ⟨at_105, o2_106⟩ h
     show SCode _ _ _ (S114 at_105 o2_106) _
     try dsimp only at h
     unfold chargenetref18_Schedule_p108 at h
     refine SCode.sub (st' := ⟨[(2, .c (.ptr 0 0)), (8, .c (vI c_7.2)), (9, .c (.own 1 o1_56.length)), (10, ci at_105), (13, .c (vI o2_106)), (32, .c (vSDemand a0_p.Demands)), (33, ci t33_54), (34, ci t34_55)], [.box (bSProblem a0_p), aR 22 o1_56]⟩) (sub_gen [0, 1] rfl rfl ⟨zc rfl rfl, zc rfl rfl, zc rfl rfl, zc rfl rfl, ⟨_, rfl, .inr (.inl ⟨_, _, _, _, _, _, _, rfl, rfl, rfl, Nat.le_refl _, fun _ _ _ _ => rfl, nm rfl⟩)⟩, zc rfl rfl, zc rfl rfl, zc rfl rfl, trivial⟩ ⟨bx rfl rfl rfl, oa rfl, trivial⟩) ?_
     obtain ⟨g107, h⟩ := guard_out h
     refine SCode.region (sm rfl rfl (sm rfl rfl (sq rfl rfl (q_bsliceL (c := (cVec 1 (cInt .i64) 0)) (d0 := []) [o2_106] rfl rfl sl23 z22 rfl rfl rfl rfl rfl rfl rfl) (se rfl rfl (e_appendL (c := (cVec 1 (cInt .i64) 0)) (d0 := []) (l := o1_56) (l2 := [o2_106]) rfl rfl rfl rfl rfl rfl (.inl rfl) sl23 z22 rfl rfl oneVec g107.1 g107.2) (sa rfl rfl (SOps.sub (st' := ⟨[(2, .c (.ptr 0 0)), (8, .c (vI c_7.2)), (9, .c (.own 1 (o1_56 ++ ([o2_106])).length)), (10, ci at_105), (32, .c (vSDemand a0_p.Demands)), (33, ci t33_54), (34, ci t34_55)], [.box (bSProblem a0_p), aR 22 (o1_56 ++ ([o2_106]))]⟩) (sub_gen [0, 2] rfl rfl (zall rfl rfl) ⟨bx rfl rfl rfl, oa rfl, trivial⟩) (SOps.nil ?_)))))))
     exact ⟨(at_105, o1_56 ++ ([o2_106])), h, sub_gen [0, 1] rfl rfl (zall rfl rfl) ⟨bx rfl rfl rfl, oa rfl, trivial⟩⟩
    rintro ⟨at_100, o1_101⟩ h
    show SCode _ _ _ (S115 at_100 o1_101) _
    try dsimp only at h
    unfold chargenetref18_Schedule_p102 at h
    refine SCode.region (sq rfl rfl (q_add rfl rfl rfl) (sm rfl rfl (SOps.nil ?_)))
    exact ⟨(n_98, (at_100, t33_54, IntKind.wrap .i64 (t34_55 + 1), o1_101)), h, Nat.lt_succ_self n_98, sub_gen [0, 1] rfl rfl (zall rfl rfl) ⟨bx rfl rfl rfl, oa rfl, trivial⟩⟩
   refine SCode.cond_f rfl g99 (SCode.exit ?_)
   exact ⟨o1_56, h, sub_gen [1] rfl rfl (zall rfl rfl) ⟨oa rfl, trivial⟩⟩
 rintro o0_9 h
 show SCode _ _ _ (S117 o0_9) _
 try dsimp only at h
 unfold chargenetref18_Schedule_p10 at h
 refine SCode.seq (SCode.region (sm rfl rfl (sa rfl rfl (sa rfl rfl (SOps.nil (SCode.ret ?_))))))
 obtain rfl := Option.some.inj h
 exact ⟨⟨[(4, .c (vR o0_9)), (5, ci 0)], []⟩, _, sub_gen [] rfl rfl ⟨⟨_, rfl, .inr (.inl ⟨_, _, _, _, _, _, _, rfl, rfl, rfl, Nat.le_refl _, fun _ _ _ _ => rfl, nm rfl⟩)⟩, zc rfl rfl, trivial⟩ trivial, resA2 (v1 := .c (vR o0_9)) (v2 := .c (.int .i64 0)) rfl rfl rfl, rfl⟩
theorem chargenetref18_Below_ok (F : Nat) (a0_p : SProblem) (a1_f : Int) (a2_top : Int) (r : Bool) (h : chargenetref18_Below F a0_p a1_f a2_top = some r) :
  SFun Try.prog 39 [] [.a (bSProblem a0_p), ci a1_f, ci a2_top] (fun x _ => x = .c (.bool r)) := by
 refine SFun.of (n := 17) Try.func39 rfl rfl rfl ?_
 unfold chargenetref18_Below at h
 show SCode _ _ _ ⟨[(0, .a (bSProblem a0_p)), (1, ci a1_f), (2, ci a2_top)], []⟩ _
 refine SCode.seq (SCode.region (se rfl rfl (e_box rfl rfl rfl rfl rfl rfl) (sa rfl rfl (SOps.nil ?_))))
 let S3 := (⟨[], []⟩ : St)
 refine SCode.join (σ := Unit) (S := fun s => S3) (g := fun s => chargenetref18_Below_p1 = some r) ?_ ?_
 rotate_left
 ·refine SCode.block ?_
  let S2 := fun (f_5 : Int) => (⟨[(1, ci f_5), (2, ci a2_top), (3, .c (.ptr 0 0))], [.box (bSProblem a0_p)]⟩ : St)
  refine SCode.sub (st' := (S2 a1_f)) (sub_gen [0] rfl rfl (zall rfl rfl) ⟨bx rfl rfl rfl, trivial⟩) ?_
  refine (SCode.loop (σ := Nat × Int) (S := fun s => (S2 s.2)) (g := fun s => chargenetref18_Below_l9 a0_p a2_top s.1 s.2 = some r) (μ := fun s => s.1) (F, a1_f) h ?_)
  rintro ⟨n_9, f_5⟩ h
  try dsimp only at h
  show SCode _ _ _ (S2 f_5) _
  cases n_9 with
  | zero => cases h
  | succ n_9 =>
   rw [chargenetref18_Below_l9] at h
   unfold chargenetref18_Below_b9 at h
   refine SCode.seq (SCode.seq (SCode.region (sm rfl rfl (sq rfl rfl (q_geq rfl rfl rfl) (SOps.nil ?_)))))
   rcases cond_out h with ⟨g10, h⟩ | ⟨g10, h⟩
   ·refine SCode.cond_t rfl g10 (SCode.skip (SCode.seq (SCode.block (SCode.seq (SCode.region (sm rfl rfl (sm rfl rfl (sq rfl rfl (q_eql rfl rfl rfl) (SOps.nil ?_)))))))))
    rcases cond_out h with ⟨g11, h⟩ | ⟨g11, h⟩
    ·refine SCode.cond_t rfl g11 (SCode.seq (SCode.region (sa rfl rfl (SOps.nil (SCode.ret ?_)))))
     obtain rfl := Option.some.inj h
     exact ⟨⟨[(6, .c (.bool true))], []⟩, _, sub_gen [] rfl rfl (zall rfl rfl) trivial, resA1 (v := .c (.bool true)) rfl rfl, rfl⟩
    refine SCode.cond_f rfl g11 (SCode.skip ?_)
    obtain ⟨g12, h⟩ := guard_out h
    refine SCode.region (sq rfl rfl (q_field_ptr rfl rfl fd26_0) (sq rfl rfl (q_load_ptr rfl rfl rfl rfl ty22) (sm rfl rfl (sq rfl rfl (q_index_vec rfl rfl rfl sl22 rfl g12.1 g12.2) (sq rfl rfl (q_load_eptr rfl rfl ty3) (sa rfl rfl (SOps.nil ?_)))))))
    exact ⟨(n_9, a0_p.Parents.getD f_5.toNat 0), h, Nat.lt_succ_self n_9, sub_gen [0] rfl rfl (zall rfl rfl) ⟨bx rfl rfl rfl, trivial⟩⟩
   refine SCode.cond_f rfl g10 (SCode.exit ?_)
   exact ⟨(), h, sub_gen [] rfl rfl trivial trivial⟩
 rintro ⟨⟩ h
 show SCode _ _ _ S3 _
 try dsimp only at h
 unfold chargenetref18_Below_p1 at h
 refine SCode.seq (SCode.region (sa rfl rfl (SOps.nil (SCode.ret ?_))))
 obtain rfl := Option.some.inj h
 exact ⟨⟨[(6, .c (.bool false))], []⟩, _, sub_gen [] rfl rfl (zall rfl rfl) trivial, resA1 (v := .c (.bool false)) rfl rfl, rfl⟩
theorem chargenetref18_Check_ok (F : Nat) (a0_p : SProblem) (a1_energy : List Int) (a2_plan : List (List Int)) (r : Bool) (h : chargenetref18_Check F a0_p a1_energy a2_plan = some r) :
  SFun Try.prog 22 [] [.a (bSProblem a0_p), .c (vI a1_energy), .c (vR a2_plan)] (fun x _ => x = .c (.bool r)) := by
 refine SFun.of (n := 137) Try.func22 rfl rfl rfl ?_
 unfold chargenetref18_Check at h
 show SCode _ _ _ ⟨[(0, .a (bSProblem a0_p)), (1, .c (vI a1_energy)), (2, .c (vR a2_plan))], []⟩ _
 refine SCode.seq (SCode.region (se rfl rfl (e_box rfl rfl rfl rfl rfl rfl) (sa rfl rfl (SOps.nil (SCode.seq (SCode.seq ?_))))))
 obtain ⟨c_1, g2, h⟩ := bind_out h
 try dsimp only at h
 rcases cond_out h with ⟨g3, h⟩ | ⟨g3, h⟩
 ·refine SCode.region (sq rfl rfl (q_load_ptr_all rfl rfl rfl rfl rfl ty26) (sm rfl rfl (sq rfl rfl (q_call (chargenetref18_energies_ok F a0_p a1_energy c_1 g2) [] rfl fn28 ⟨⟨rfl, rfl⟩, ⟨_, rfl, .inl ⟨rfl, rfl⟩⟩, trivial⟩ (.inl rfl)) (sq rfl rfl (q_neq rfl rfl rfl) (sm rfl rfl (SOps.skip rfl 4 23 false rfl rfl (.inl (gT g3)) rfl (SOps.skip rfl 4 23 false rfl rfl (.inl (gT g3)) rfl (SOps.skip rfl 4 23 false rfl rfl (.inl (gT g3)) rfl (SOps.skip rfl 4 23 false rfl rfl (.inl (gT g3)) rfl (SOps.skip rfl 4 23 false rfl rfl (.inl (gT g3)) rfl (SOps.skip rfl 4 23 false rfl rfl (.inl (gT g3)) rfl (sq rfl rfl (q_pick_t rfl rfl g3 rfl) (SOps.nil (SCode.cond_t rfl rfl (SCode.seq ?_)))))))))))))))
  refine SCode.region (sa rfl rfl (SOps.nil (SCode.ret ?_)))
  obtain rfl := Option.some.inj h
  exact ⟨⟨[(6, .c (.bool false))], []⟩, _, sub_gen [] rfl rfl (zall rfl rfl) trivial, resA1 (v := .c (.bool false)) rfl rfl, rfl⟩
 refine SCode.region (sq rfl rfl (q_load_ptr_all rfl rfl rfl rfl rfl ty26) (sm rfl rfl (sq rfl rfl (q_call (chargenetref18_energies_ok F a0_p a1_energy c_1 g2) [] rfl fn28 ⟨⟨rfl, rfl⟩, ⟨_, rfl, .inl ⟨rfl, rfl⟩⟩, trivial⟩ (.inl rfl)) (sq rfl rfl (q_neq rfl rfl rfl) (sm rfl rfl (SOps.q rfl (.guard 4 23 false rfl rfl (gF g3)) rfl (q_move rfl rfl) (SOps.q rfl (.guard 4 23 false rfl rfl (gF g3)) rfl (q_len_vec rfl rfl sl23) (SOps.q rfl (.guard 4 23 false rfl rfl (gF g3)) rfl (q_field_ptr rfl rfl fd26_4) (SOps.q rfl (.guard 4 23 false rfl rfl (gF g3)) rfl (q_load_ptr rfl rfl rfl rfl ty24) (SOps.q rfl (.guard 4 23 false rfl rfl (gF g3)) rfl (q_len_vec rfl rfl sl24) (SOps.q rfl (.guard 4 23 false rfl rfl (gF g3)) rfl (q_neq rfl rfl rfl) (sq rfl rfl (q_pick_f rfl rfl g3 rfl) (SOps.nil ?_)))))))))))))
 rcases cond_out h with ⟨g4, h⟩ | ⟨g4, h⟩
 ·refine SCode.cond_t rfl g4 (SCode.seq (SCode.region (sa rfl rfl (SOps.nil (SCode.ret ?_)))))
  obtain rfl := Option.some.inj h
  exact ⟨⟨[(6, .c (.bool false))], []⟩, _, sub_gen [] rfl rfl (zall rfl rfl) trivial, resA1 (v := .c (.bool false)) rfl rfl, rfl⟩
 refine SCode.cond_f rfl g4 (SCode.skip ?_)
 let S894 := (⟨[(2, .c (vR a2_plan)), (3, .c (.ptr 0 0))], [.box (bSProblem a0_p)]⟩ : St)
 refine SCode.join (σ := Unit) (S := fun s => S894) (g := fun s => chargenetref18_Check_p363 F a0_p a2_plan = some r) ?_ ?_
 rotate_left
 ·refine SCode.seq (SCode.region (sq rfl rfl (q_field_ptr rfl rfl fd26_4) (sq rfl rfl (q_load_ptr rfl rfl rfl rfl ty24) (sq rfl rfl (q_len_vec rfl rfl sl24) (sm rfl rfl (SOps.sub (st' := ⟨[(1, .c (vI a1_energy)), (2, .c (vR a2_plan)), (3, .c (.ptr 0 0)), (32, .c (vSDemand a0_p.Demands)), (33, ci (((a0_p.Demands).length : Int))), (34, ci 0)], [.box (bSProblem a0_p)]⟩) (sub_gen [0] rfl rfl (zall rfl rfl) ⟨bx rfl rfl rfl, trivial⟩) (SOps.nil (SCode.block ?_))))))))
  let S893 := fun (t33_405 : Int) => fun (t34_406 : Int) => (⟨[(1, .c (vI a1_energy)), (2, .c (vR a2_plan)), (3, .c (.ptr 0 0)), (32, .c (vSDemand a0_p.Demands)), (33, ci t33_405), (34, ci t34_406)], [.box (bSProblem a0_p)]⟩ : St)
  refine SCode.sub (st' := (S893 (((a0_p.Demands).length : Int)) 0)) (sub_gen [0] rfl rfl (zall rfl rfl) ⟨bx rfl rfl rfl, trivial⟩) ?_
  refine (SCode.loop (σ := Nat × (Int × Int)) (S := fun s => (S893 s.2.1 s.2.2)) (g := fun s => chargenetref18_Check_l447 F a0_p a1_energy a2_plan s.1 s.2.1 s.2.2 = some r) (μ := fun s => s.1) (F, (((a0_p.Demands).length : Int), 0)) h ?_)
  rintro ⟨n_447, ⟨t33_405, t34_406⟩⟩ h
  try dsimp only at h
  show SCode _ _ _ (S893 t33_405 t34_406) _
  cases n_447 with
  | zero => cases h
  | succ n_447 =>
   rw [chargenetref18_Check_l447] at h
   unfold chargenetref18_Check_b447 at h
   refine SCode.seq (SCode.region (sq rfl rfl (q_lss rfl rfl rfl) (SOps.nil (SCode.seq ?_))))
   rcases cond_out h with ⟨g448, h⟩ | ⟨g448, h⟩
   ·refine SCode.cond_t rfl g448 (SCode.skip ?_)
    let S892 := (⟨[(1, .c (vI a1_energy)), (2, .c (vR a2_plan)), (3, .c (.ptr 0 0)), (32, .c (vSDemand a0_p.Demands)), (33, ci t33_405), (34, ci t34_406)], [.box (bSProblem a0_p)]⟩ : St)
    refine SCode.join (σ := Unit) (S := fun s => S892) (g := fun s => chargenetref18_Check_p449 t33_405 t34_406 (fun t33_405 t34_406 => chargenetref18_Check_l447 F a0_p a1_energy a2_plan n_447 t33_405 t34_406) = some r) ?_ ?_
    rotate_left
    ·refine SCode.block (SCode.seq ?_)
     obtain ⟨g450, h⟩ := guard_out h
     refine SCode.region (sm rfl rfl (sq rfl rfl (q_index_vec rfl rfl rfl sl24 rfl g450.1 g450.2) (sq rfl rfl (q_load_eptr_all rfl rfl rfl ty39) (se rfl rfl (e_alloc rfl rfl rfl z39) (sa rfl rfl (se rfl rfl (e_store_box rfl rfl rfl rfl rfl ty39 rfl rfl rfl rfl) (SOps.nil (SCode.seq (SCode.seq (SCode.sub (st' := ⟨[(1, .c (vI a1_energy)), (2, .c (vR a2_plan)), (3, .c (.ptr 0 0)), (7, ci t34_406), (8, .c (.ptr 1 0)), (32, .c (vSDemand a0_p.Demands)), (33, ci t33_405), (34, ci t34_406)], [.box (bSProblem a0_p), .box (bSDemand (a0_p.Demands.getD t34_406.toNat dSDemand))]⟩) (sub_gen [0, 1] rfl rfl (zall rfl rfl) ⟨bx rfl rfl rfl, bx rfl rfl rfl, trivial⟩) ?_))))))))))
     obtain ⟨g451, h⟩ := guard_out h
     refine SCode.drawK mixed [[], [], [0, 1], [0, 1, 2], [0, 1, 2, 3], [], [5], [5, 6], [0, 1, 2, 3, 4, 5, 6, 7]] 9 0 rfl rfl (qm rfl rfl (qm rfl rfl (qr rfl rfl (q_index_vec rfl rfl rfl sl23 rfl g451.1 g451.2) (qr rfl rfl (q_load_eptr rfl rfl ty22) (qr rfl rfl (q_len_vec rfl rfl sl22) (qr rfl rfl (q_field_ptr rfl rfl fd26_1) (qr rfl rfl (q_load_ptr rfl rfl rfl rfl ty23) (qr rfl rfl (q_len_vec rfl rfl sl23) (qr rfl rfl (q_neq rfl rfl rfl) (QK.nil (SOps.sub (st' := ⟨[(1, .c (vI a1_energy)), (2, .c (vR a2_plan)), (3, .c (.ptr 0 0)), (7, ci t34_406), (8, .c (.ptr 1 0)), (32, .c (vSDemand a0_p.Demands)), (33, ci t33_405), (34, ci t34_406), (47, .c (.bool ((!decide (((a2_plan.getD t34_406.toNat ([])).length : Int) = ((a0_p.Caps).length : Int))))))], [.box (bSProblem a0_p), .box (bSDemand (a0_p.Demands.getD t34_406.toNat dSDemand))]⟩) (sub_gen [0, 1] rfl rfl (zall rfl rfl) ⟨bx rfl rfl rfl, bx rfl rfl rfl, trivial⟩) (SOps.nil ?_))))))))))))
     rcases cond_out h with ⟨g452, h⟩ | ⟨g452, h⟩
     ·refine SCode.cond_t rfl g452 (SCode.seq (SCode.region (sa rfl rfl (SOps.nil (SCode.ret ?_)))))
      obtain rfl := Option.some.inj h
      exact ⟨⟨[(6, .c (.bool false))], []⟩, _, sub_gen [] rfl rfl (zall rfl rfl) trivial, resA1 (v := .c (.bool false)) rfl rfl, rfl⟩
     refine SCode.cond_f rfl g452 (SCode.skip (SCode.seq (SCode.region (sa rfl rfl (SOps.nil ?_)))))
     let S891 := fun (sum_453 : Int) => (⟨[(1, .c (vI a1_energy)), (2, .c (vR a2_plan)), (3, .c (.ptr 0 0)), (7, ci t34_406), (9, ci sum_453), (32, .c (vSDemand a0_p.Demands)), (33, ci t33_405), (34, ci t34_406)], [.box (bSProblem a0_p)]⟩ : St)
     refine SCode.join (σ := Int) (S := fun s => (S891 s)) (g := fun s => chargenetref18_Check_p456 a1_energy t33_405 t34_406 (fun t33_405 t34_406 => chargenetref18_Check_l447 F a0_p a1_energy a2_plan n_447 t33_405 t34_406) s = some r) ?_ ?_
     rotate_left
     ·refine SCode.seq ?_
      obtain ⟨g457, h⟩ := guard_out h
      refine SCode.region (sm rfl rfl (sm rfl rfl (sq rfl rfl (q_index_vec rfl rfl rfl sl23 rfl g457.1 g457.2) (sq rfl rfl (q_load_eptr rfl rfl ty22) (sq rfl rfl (q_len_vec rfl rfl sl22) (sm rfl rfl (SOps.nil (SCode.block ?_))))))))
      let S890 := fun (sum_467 : Int) => fun (t53_468 : Int) => (⟨[(1, .c (vI a1_energy)), (2, .c (vR a2_plan)), (3, .c (.ptr 0 0)), (7, ci t34_406), (8, .c (.ptr 1 0)), (9, ci sum_467), (32, .c (vSDemand a0_p.Demands)), (33, ci t33_405), (34, ci t34_406), (51, .c (vI (a2_plan.getD t34_406.toNat ([])))), (52, ci (((a2_plan.getD t34_406.toNat ([])).length : Int))), (53, ci t53_468)], [.box (bSProblem a0_p), .box (bSDemand (a0_p.Demands.getD t34_406.toNat dSDemand))]⟩ : St)
      refine SCode.sub (st' := (S890 0 0)) (sub_gen [0, 1] rfl rfl (zall rfl rfl) ⟨bx rfl rfl rfl, bx rfl rfl rfl, trivial⟩) ?_
      refine (SCode.loop (σ := Nat × (Int × Int)) (S := fun s => (S890 s.2.1 s.2.2)) (g := fun s => chargenetref18_Check_l478 F a0_p a1_energy a2_plan t33_405 t34_406 (fun t33_405 t34_406 => chargenetref18_Check_l447 F a0_p a1_energy a2_plan n_447 t33_405 t34_406) s.1 s.2.1 s.2.2 = some r) (μ := fun s => s.1) (F, (0, 0)) h ?_)
      rintro ⟨n_478, ⟨sum_467, t53_468⟩⟩ h
      try dsimp only at h
      show SCode _ _ _ (S890 sum_467 t53_468) _
      cases n_478 with
      | zero => cases h
      | succ n_478 =>
       rw [chargenetref18_Check_l478] at h
       unfold chargenetref18_Check_b478 at h
       refine SCode.seq (SCode.region (sq rfl rfl (q_lss rfl rfl rfl) (SOps.nil (SCode.seq ?_))))
       rcases cond_out h with ⟨g479, h⟩ | ⟨g479, h⟩
       ·refine SCode.cond_t rfl g479 (SCode.skip (SCode.seq (SCode.block (SCode.seq ?_))))
        obtain ⟨g480, h⟩ := guard_out h
        refine SCode.region (sm rfl rfl (sq rfl rfl (q_index_vec rfl rfl rfl sl22 rfl g480.1 g480.2) (sq rfl rfl (q_load_eptr rfl rfl ty3) (sa rfl rfl (sa rfl rfl (SOps.nil ?_))))))
        let S889 := (⟨[(1, .c (vI a1_energy)), (2, .c (vR a2_plan)), (3, .c (.ptr 0 0)), (7, ci t34_406), (8, .c (.ptr 1 0)), (9, ci sum_467), (11, ci ((a2_plan.getD t34_406.toNat ([])).getD t53_468.toNat 0)), (32, .c (vSDemand a0_p.Demands)), (33, ci t33_405), (34, ci t34_406), (51, .c (vI (a2_plan.getD t34_406.toNat ([])))), (52, ci (((a2_plan.getD t34_406.toNat ([])).length : Int))), (53, ci t53_468)], [.box (bSProblem a0_p), .box (bSDemand (a0_p.Demands.getD t34_406.toNat dSDemand))]⟩ : St)
        refine SCode.join (σ := Unit) (S := fun s => S889) (g := fun s => chargenetref18_Check_p481 a2_plan t34_406 sum_467 t53_468 (fun sum_467 t53_468 => chargenetref18_Check_l478 F a0_p a1_energy a2_plan t33_405 t34_406 (fun t33_405 t34_406 => chargenetref18_Check_l447 F a0_p a1_energy a2_plan n_447 t33_405 t34_406) n_478 sum_467 t53_468) = some r) ?_ ?_
        rotate_left
        ·refine SCode.seq ?_
         rcases cond_out h with ⟨g482, h⟩ | ⟨g482, h⟩
         ·refine SCode.region (sm rfl rfl (sq rfl rfl (q_lss rfl rfl rfl) (sm rfl rfl (SOps.skip rfl 2 60 false rfl rfl (.inl (gT g482)) rfl (SOps.skip rfl 2 60 false rfl rfl (.inl (gT g482)) rfl (SOps.skip rfl 2 60 false rfl rfl (.inl (gT g482)) rfl (SOps.skip rfl 2 60 false rfl rfl (.inl (gT g482)) rfl (SOps.skip rfl 2 60 false rfl rfl (.inl (gT g482)) rfl (SOps.skip rfl 2 60 false rfl rfl (.inl (gT g482)) rfl (SOps.skip rfl 2 60 false rfl rfl (.inl (gT g482)) rfl (sq rfl rfl (q_pick_t rfl rfl g482 rfl) (sm rfl rfl (SOps.skip rfl 11 69 false rfl rfl (.inl rfl) rfl (SOps.skip rfl 11 69 false rfl rfl (.inl rfl) rfl (SOps.skip rfl 11 69 false rfl rfl (.inl rfl) rfl ?_)))))))))))))))
          refine SOps.skip rfl 14 72 true rfl rfl (.inr rfl) rfl (SOps.skip rfl 14 72 true rfl rfl (.inr rfl) rfl (SOps.skip rfl 14 72 true rfl rfl (.inr rfl) rfl (SOps.skip rfl 14 72 true rfl rfl (.inr rfl) rfl (SOps.skip rfl 14 72 true rfl rfl (.inr rfl) rfl (SOps.skip rfl 11 69 false rfl rfl (.inl rfl) rfl (sq rfl rfl (q_pick_t rfl rfl rfl rfl) (SOps.sub (st' := ⟨[(1, .c (vI a1_energy)), (2, .c (vR a2_plan)), (3, .c (.ptr 0 0)), (7, ci t34_406), (8, .c (.ptr 1 0)), (9, ci sum_467), (11, ci ((a2_plan.getD t34_406.toNat ([])).getD t53_468.toNat 0)), (32, .c (vSDemand a0_p.Demands)), (33, ci t33_405), (34, ci t34_406), (51, .c (vI (a2_plan.getD t34_406.toNat ([])))), (52, ci (((a2_plan.getD t34_406.toNat ([])).length : Int))), (53, ci t53_468), (79, .c (.bool true))], [.box (bSProblem a0_p), .box (bSDemand (a0_p.Demands.getD t34_406.toNat dSDemand))]⟩) (sub_gen [0, 1] rfl rfl (zall rfl rfl) ⟨bx rfl rfl rfl, bx rfl rfl rfl, trivial⟩) (SOps.nil (SCode.cond_t rfl rfl (SCode.seq (SCode.region (sa rfl rfl (SOps.nil (SCode.ret ?_))))))))))))))
          obtain rfl := Option.some.inj h
          exact ⟨⟨[(6, .c (.bool false))], []⟩, _, sub_gen [] rfl rfl (zall rfl rfl) trivial, resA1 (v := .c (.bool false)) rfl rfl, rfl⟩
         rcases cond_out h with ⟨g483, h⟩ | ⟨g483, h⟩
         ·refine SCode.region (sm rfl rfl (sq rfl rfl (q_lss rfl rfl rfl) (sm rfl rfl (SOps.q rfl (.guard 2 60 false rfl rfl (gF g482)) rfl (q_move rfl rfl) (SOps.q rfl (.guard 2 60 false rfl rfl (gF g482)) rfl (q_field_ptr rfl rfl fd39_1) (SOps.q rfl (.guard 2 60 false rfl rfl (gF g482)) rfl (q_load_ptr rfl rfl rfl rfl ty3) (SOps.q rfl (.guard 2 60 false rfl rfl (gF g482)) rfl (q_field_ptr rfl rfl fd26_3) (SOps.q rfl (.guard 2 60 false rfl rfl (gF g482)) rfl (q_load_ptr rfl rfl rfl rfl ty3) (SOps.q rfl (.guard 2 60 false rfl rfl (gF g482)) rfl (q_mul rfl rfl rfl) (SOps.q rfl (.guard 2 60 false rfl rfl (gF g482)) rfl (q_gtr rfl rfl rfl) (sq rfl rfl (q_pick_f rfl rfl g482 rfl) (sm rfl rfl (SOps.skip rfl 11 69 false rfl rfl (.inl (gT g483)) rfl (SOps.skip rfl 11 69 false rfl rfl (.inl (gT g483)) rfl (SOps.skip rfl 11 69 false rfl rfl (.inl (gT g483)) rfl ?_)))))))))))))))
          refine SOps.skip rfl 14 72 true rfl rfl (.inr rfl) rfl (SOps.skip rfl 14 72 true rfl rfl (.inr rfl) rfl (SOps.skip rfl 14 72 true rfl rfl (.inr rfl) rfl (SOps.skip rfl 14 72 true rfl rfl (.inr rfl) rfl (SOps.skip rfl 14 72 true rfl rfl (.inr rfl) rfl (SOps.skip rfl 11 69 false rfl rfl (.inl (gT g483)) rfl (sq rfl rfl (q_pick_t rfl rfl g483 rfl) (SOps.sub (st' := ⟨[(1, .c (vI a1_energy)), (2, .c (vR a2_plan)), (3, .c (.ptr 0 0)), (7, ci t34_406), (8, .c (.ptr 1 0)), (9, ci sum_467), (11, ci ((a2_plan.getD t34_406.toNat ([])).getD t53_468.toNat 0)), (32, .c (vSDemand a0_p.Demands)), (33, ci t33_405), (34, ci t34_406), (51, .c (vI (a2_plan.getD t34_406.toNat ([])))), (52, ci (((a2_plan.getD t34_406.toNat ([])).length : Int))), (53, ci t53_468), (79, .c (.bool true))], [.box (bSProblem a0_p), .box (bSDemand (a0_p.Demands.getD t34_406.toNat dSDemand))]⟩) (sub_gen [0, 1] rfl rfl (zall rfl rfl) ⟨bx rfl rfl rfl, bx rfl rfl rfl, trivial⟩) (SOps.nil (SCode.cond_t rfl rfl (SCode.seq (SCode.region (sa rfl rfl (SOps.nil (SCode.ret ?_))))))))))))))
          obtain rfl := Option.some.inj h
          exact ⟨⟨[(6, .c (.bool false))], []⟩, _, sub_gen [] rfl rfl (zall rfl rfl) trivial, resA1 (v := .c (.bool false)) rfl rfl, rfl⟩
         rcases cond_out h with ⟨g484, h⟩ | ⟨g484, h⟩
         ·obtain ⟨c_485, g486, h⟩ := bind_out h
          try dsimp only at h
          refine SCode.region (sm rfl rfl (sq rfl rfl (q_lss rfl rfl rfl) (sm rfl rfl (SOps.q rfl (.guard 2 60 false rfl rfl (gF g482)) rfl (q_move rfl rfl) (SOps.q rfl (.guard 2 60 false rfl rfl (gF g482)) rfl (q_field_ptr rfl rfl fd39_1) (SOps.q rfl (.guard 2 60 false rfl rfl (gF g482)) rfl (q_load_ptr rfl rfl rfl rfl ty3) (SOps.q rfl (.guard 2 60 false rfl rfl (gF g482)) rfl (q_field_ptr rfl rfl fd26_3) (SOps.q rfl (.guard 2 60 false rfl rfl (gF g482)) rfl (q_load_ptr rfl rfl rfl rfl ty3) (SOps.q rfl (.guard 2 60 false rfl rfl (gF g482)) rfl (q_mul rfl rfl rfl) (SOps.q rfl (.guard 2 60 false rfl rfl (gF g482)) rfl (q_gtr rfl rfl rfl) (sq rfl rfl (q_pick_f rfl rfl g482 rfl) (sm rfl rfl (SOps.q rfl (.guard 11 69 false rfl rfl (gF g483)) rfl (q_move rfl rfl) (SOps.q rfl (.guard 11 69 false rfl rfl (gF g483)) rfl (q_gtr rfl rfl rfl) (SOps.q rfl (.guard 11 69 false rfl rfl (gF g483)) rfl (q_move rfl rfl) ?_)))))))))))))))
          refine SOps.q rfl (.guard 14 72 true rfl rfl (gT g484)) rfl (q_load_ptr_all rfl rfl rfl rfl rfl ty26) (SOps.q rfl (.guard 14 72 true rfl rfl (gT g484)) rfl (q_load_ptr_all rfl rfl rfl rfl rfl ty39) (SOps.q rfl (.guard 14 72 true rfl rfl (gT g484)) rfl (q_move rfl rfl) (SOps.q rfl (.guard 14 72 true rfl rfl (gT g484)) rfl (q_call (chargenetref18_Usable_ok F a0_p (a0_p.Demands.getD t34_406.toNat dSDemand) t53_468 c_485 g486) [] rfl fn38 ⟨⟨rfl, rfl⟩, ⟨rfl, rfl⟩, ⟨_, rfl, .inl ⟨rfl, rfl⟩⟩, trivial⟩ (.inl rfl)) (SOps.q rfl (.guard 14 72 true rfl rfl (gT g484)) rfl (q_not rfl rfl) (SOps.q rfl (.guard 11 69 false rfl rfl (gF g483)) rfl (q_pick_t rfl rfl g484 rfl) (sq rfl rfl (q_pick_f rfl rfl g483 rfl) (SOps.sub (st' := ⟨[(1, .c (vI a1_energy)), (2, .c (vR a2_plan)), (3, .c (.ptr 0 0)), (7, ci t34_406), (8, .c (.ptr 1 0)), (9, ci sum_467), (11, ci ((a2_plan.getD t34_406.toNat ([])).getD t53_468.toNat 0)), (32, .c (vSDemand a0_p.Demands)), (33, ci t33_405), (34, ci t34_406), (51, .c (vI (a2_plan.getD t34_406.toNat ([])))), (52, ci (((a2_plan.getD t34_406.toNat ([])).length : Int))), (53, ci t53_468), (79, .c (.bool ((!c_485))))], [.box (bSProblem a0_p), .box (bSDemand (a0_p.Demands.getD t34_406.toNat dSDemand))]⟩) (sub_gen [0, 1] rfl rfl (zall rfl rfl) ⟨bx rfl rfl rfl, bx rfl rfl rfl, trivial⟩) (SOps.nil ?_))))))))
          rcases cond_out h with ⟨g487, h⟩ | ⟨g487, h⟩
          ·refine SCode.cond_t rfl g487 (SCode.seq (SCode.region (sa rfl rfl (SOps.nil (SCode.ret ?_)))))
           obtain rfl := Option.some.inj h
           exact ⟨⟨[(6, .c (.bool false))], []⟩, _, sub_gen [] rfl rfl (zall rfl rfl) trivial, resA1 (v := .c (.bool false)) rfl rfl, rfl⟩
          refine SCode.cond_f rfl g487 (SCode.skip ?_)
          exact ⟨(), h, sub_gen [0, 1] rfl rfl (zall rfl rfl) ⟨bx rfl rfl rfl, bx rfl rfl rfl, trivial⟩⟩
         refine SCode.region (sm rfl rfl (sq rfl rfl (q_lss rfl rfl rfl) (sm rfl rfl (SOps.q rfl (.guard 2 60 false rfl rfl (gF g482)) rfl (q_move rfl rfl) (SOps.q rfl (.guard 2 60 false rfl rfl (gF g482)) rfl (q_field_ptr rfl rfl fd39_1) (SOps.q rfl (.guard 2 60 false rfl rfl (gF g482)) rfl (q_load_ptr rfl rfl rfl rfl ty3) (SOps.q rfl (.guard 2 60 false rfl rfl (gF g482)) rfl (q_field_ptr rfl rfl fd26_3) (SOps.q rfl (.guard 2 60 false rfl rfl (gF g482)) rfl (q_load_ptr rfl rfl rfl rfl ty3) (SOps.q rfl (.guard 2 60 false rfl rfl (gF g482)) rfl (q_mul rfl rfl rfl) (SOps.q rfl (.guard 2 60 false rfl rfl (gF g482)) rfl (q_gtr rfl rfl rfl) (sq rfl rfl (q_pick_f rfl rfl g482 rfl) (sm rfl rfl (SOps.q rfl (.guard 11 69 false rfl rfl (gF g483)) rfl (q_move rfl rfl) (SOps.q rfl (.guard 11 69 false rfl rfl (gF g483)) rfl (q_gtr rfl rfl rfl) (SOps.q rfl (.guard 11 69 false rfl rfl (gF g483)) rfl (q_move rfl rfl) ?_)))))))))))))))
         refine SOps.skip rfl 14 72 true rfl rfl (.inl (gF g484)) rfl (SOps.skip rfl 14 72 true rfl rfl (.inl (gF g484)) rfl (SOps.skip rfl 14 72 true rfl rfl (.inl (gF g484)) rfl (SOps.skip rfl 14 72 true rfl rfl (.inl (gF g484)) rfl (SOps.skip rfl 14 72 true rfl rfl (.inl (gF g484)) rfl (SOps.q rfl (.guard 11 69 false rfl rfl (gF g483)) rfl (q_pick_f rfl rfl g484 rfl) (sq rfl rfl (q_pick_f rfl rfl g483 rfl) (SOps.sub (st' := ⟨[(1, .c (vI a1_energy)), (2, .c (vR a2_plan)), (3, .c (.ptr 0 0)), (7, ci t34_406), (8, .c (.ptr 1 0)), (9, ci sum_467), (11, ci ((a2_plan.getD t34_406.toNat ([])).getD t53_468.toNat 0)), (32, .c (vSDemand a0_p.Demands)), (33, ci t33_405), (34, ci t34_406), (51, .c (vI (a2_plan.getD t34_406.toNat ([])))), (52, ci (((a2_plan.getD t34_406.toNat ([])).length : Int))), (53, ci t53_468), (79, .c (.bool false))], [.box (bSProblem a0_p), .box (bSDemand (a0_p.Demands.getD t34_406.toNat dSDemand))]⟩) (sub_gen [0, 1] rfl rfl (zall rfl rfl) ⟨bx rfl rfl rfl, bx rfl rfl rfl, trivial⟩) (SOps.nil (SCode.cond_f rfl rfl (SCode.skip ?_))))))))))
         exact ⟨(), h, sub_gen [0, 1] rfl rfl (zall rfl rfl) ⟨bx rfl rfl rfl, bx rfl rfl rfl, trivial⟩⟩
        rintro ⟨⟩ h
        show SCode _ _ _ S889 _
        try dsimp only at h
        unfold chargenetref18_Check_p481 at h
        refine SCode.region (sm rfl rfl (sm rfl rfl (sq rfl rfl (q_add rfl rfl rfl) (sa rfl rfl (SOps.nil (SCode.region (sq rfl rfl (q_add rfl rfl rfl) (sm rfl rfl (SOps.nil ?_)))))))))
        exact ⟨(n_478, (IntKind.wrap .i64 (sum_467 + (a2_plan.getD t34_406.toNat ([])).getD t53_468.toNat 0), IntKind.wrap .i64 (t53_468 + 1))), h, Nat.lt_succ_self n_478, sub_gen [0, 1] rfl rfl (zall rfl rfl) ⟨bx rfl rfl rfl, bx rfl rfl rfl, trivial⟩⟩
       refine SCode.cond_f rfl g479 (SCode.exit ?_)
       exact ⟨sum_467, h, sub_gen [0] rfl rfl (zall rfl rfl) ⟨bx rfl rfl rfl, trivial⟩⟩
     rintro sum_453 h
     show SCode _ _ _ (S891 sum_453) _
     try dsimp only at h
     unfold chargenetref18_Check_p456 at h
     refine SCode.seq ?_
     obtain ⟨g454, h⟩ := guard_out h
     refine SCode.region (sm rfl rfl (sm rfl rfl (sm rfl rfl (sq rfl rfl (q_index_vec rfl rfl rfl sl22 rfl g454.1 g454.2) (sq rfl rfl (q_load_eptr rfl rfl ty3) (sq rfl rfl (q_neq rfl rfl rfl) (SOps.nil ?_)))))))
     rcases cond_out h with ⟨g455, h⟩ | ⟨g455, h⟩
     ·refine SCode.cond_t rfl g455 (SCode.seq (SCode.region (sa rfl rfl (SOps.nil (SCode.ret ?_)))))
      obtain rfl := Option.some.inj h
      exact ⟨⟨[(6, .c (.bool false))], []⟩, _, sub_gen [] rfl rfl (zall rfl rfl) trivial, resA1 (v := .c (.bool false)) rfl rfl, rfl⟩
     refine SCode.cond_f rfl g455 (SCode.skip ?_)
     exact ⟨(), h, sub_gen [0] rfl rfl (zall rfl rfl) ⟨bx rfl rfl rfl, trivial⟩⟩
    rintro ⟨⟩ h
    show SCode _ _ _ S892 _
    try dsimp only at h
    unfold chargenetref18_Check_p449 at h
    refine SCode.region (sq rfl rfl (q_add rfl rfl rfl) (sm rfl rfl (SOps.nil ?_)))
    exact ⟨(n_447, (t33_405, IntKind.wrap .i64 (t34_406 + 1))), h, Nat.lt_succ_self n_447, sub_gen [0] rfl rfl (zall rfl rfl) ⟨bx rfl rfl rfl, trivial⟩⟩
   refine SCode.cond_f rfl g448 (SCode.exit ?_)
   exact ⟨(), h, sub_gen [0] rfl rfl (zall rfl rfl) ⟨bx rfl rfl rfl, trivial⟩⟩
 rintro ⟨⟩ h
 show SCode _ _ _ S894 _
 try dsimp only at h
 unfold chargenetref18_Check_p363 at h
 let S799 := (⟨[], []⟩ : St)
 refine SCode.join (σ := Unit) (S := fun s => S799) (g := fun s => chargenetref18_Check_p5 = some r) ?_ ?_
 rotate_left
 ·refine SCode.seq (SCode.region (sq rfl rfl (q_field_ptr rfl rfl fd26_1) (sq rfl rfl (q_load_ptr rfl rfl rfl rfl ty23) (sq rfl rfl (q_len_vec rfl rfl sl23) (sm rfl rfl (SOps.nil (SCode.block ?_)))))))
  let S798 := fun (t93_126 : Int) => fun (t94_127 : Int) => (⟨[(2, .c (vR a2_plan)), (3, .c (.ptr 0 0)), (92, .c (vR a0_p.Caps)), (93, ci t93_126), (94, ci t94_127)], [.box (bSProblem a0_p)]⟩ : St)
  refine SCode.sub (st' := (S798 (((a0_p.Caps).length : Int)) 0)) (sub_gen [0] rfl rfl (zall rfl rfl) ⟨bx rfl rfl rfl, trivial⟩) ?_
  refine (SCode.loop (σ := Nat × (Int × Int)) (S := fun s => (S798 s.2.1 s.2.2)) (g := fun s => chargenetref18_Check_l245 F a0_p a2_plan s.1 s.2.1 s.2.2 = some r) (μ := fun s => s.1) (F, (((a0_p.Caps).length : Int), 0)) h ?_)
  rintro ⟨n_245, ⟨t93_126, t94_127⟩⟩ h
  try dsimp only at h
  show SCode _ _ _ (S798 t93_126 t94_127) _
  cases n_245 with
  | zero => cases h
  | succ n_245 =>
   rw [chargenetref18_Check_l245] at h
   unfold chargenetref18_Check_b245 at h
   refine SCode.seq (SCode.region (sq rfl rfl (q_lss rfl rfl rfl) (SOps.nil (SCode.seq ?_))))
   rcases cond_out h with ⟨g246, h⟩ | ⟨g246, h⟩
   ·refine SCode.cond_t rfl g246 (SCode.skip ?_)
    let S797 := (⟨[(2, .c (vR a2_plan)), (3, .c (.ptr 0 0)), (92, .c (vR a0_p.Caps)), (93, ci t93_126), (94, ci t94_127)], [.box (bSProblem a0_p)]⟩ : St)
    refine SCode.join (σ := Unit) (S := fun s => S797) (g := fun s => chargenetref18_Check_p247 t93_126 t94_127 (fun t93_126 t94_127 => chargenetref18_Check_l245 F a0_p a2_plan n_245 t93_126 t94_127) = some r) ?_ ?_
    rotate_left
    ·refine SCode.block (SCode.seq ?_)
     obtain ⟨g248, h⟩ := guard_out h
     refine SCode.region (sm rfl rfl (sq rfl rfl (q_index_vec rfl rfl rfl sl23 rfl g248.1 g248.2) (sq rfl rfl (q_load_eptr rfl rfl ty22) (sa rfl rfl (sa rfl rfl (SOps.nil (SCode.seq (SCode.region (sm rfl rfl (sq rfl rfl (q_len_vec rfl rfl sl22) (sm rfl rfl (SOps.nil (SCode.block ?_)))))))))))))
     let S796 := fun (t99_287 : List Int) => fun (t100_288 : Int) => fun (t101_289 : Int) => (⟨[(2, .c (vR a2_plan)), (3, .c (.ptr 0 0)), (12, ci t94_127), (92, .c (vR a0_p.Caps)), (93, ci t93_126), (94, ci t94_127), (99, .c (vI t99_287)), (100, ci t100_288), (101, ci t101_289)], [.box (bSProblem a0_p)]⟩ : St)
     refine SCode.sub (st' := (S796 (a0_p.Caps.getD t94_127.toNat ([])) (((a0_p.Caps.getD t94_127.toNat ([])).length : Int)) 0)) (sub_gen [0] rfl rfl (zall rfl rfl) ⟨bx rfl rfl rfl, trivial⟩) ?_
     refine (SCode.loop (σ := Nat × ((List Int) × Int × Int)) (S := fun s => (S796 s.2.1 s.2.2.1 s.2.2.2)) (g := fun s => chargenetref18_Check_l326 F a0_p a2_plan t93_126 t94_127 (fun t93_126 t94_127 => chargenetref18_Check_l245 F a0_p a2_plan n_245 t93_126 t94_127) s.1 s.2.1 s.2.2.1 s.2.2.2 = some r) (μ := fun s => s.1) (F, (a0_p.Caps.getD t94_127.toNat ([]), ((a0_p.Caps.getD t94_127.toNat ([])).length : Int), 0)) h ?_)
     rintro ⟨n_326, ⟨t99_287, t100_288, t101_289⟩⟩ h
     try dsimp only at h
     show SCode _ _ _ (S796 t99_287 t100_288 t101_289) _
     cases n_326 with
     | zero => cases h
     | succ n_326 =>
      rw [chargenetref18_Check_l326] at h
      unfold chargenetref18_Check_b326 at h
      refine SCode.seq (SCode.region (sq rfl rfl (q_lss rfl rfl rfl) (SOps.nil (SCode.seq ?_))))
      rcases cond_out h with ⟨g327, h⟩ | ⟨g327, h⟩
      ·refine SCode.cond_t rfl g327 (SCode.skip ?_)
       let S795 := (⟨[(2, .c (vR a2_plan)), (3, .c (.ptr 0 0)), (12, ci t94_127), (92, .c (vR a0_p.Caps)), (93, ci t93_126), (94, ci t94_127), (99, .c (vI t99_287)), (100, ci t100_288), (101, ci t101_289)], [.box (bSProblem a0_p)]⟩ : St)
       refine SCode.join (σ := Unit) (S := fun s => S795) (g := fun s => chargenetref18_Check_p328 t99_287 t100_288 t101_289 (fun t99_287 t100_288 t101_289 => chargenetref18_Check_l326 F a0_p a2_plan t93_126 t94_127 (fun t93_126 t94_127 => chargenetref18_Check_l245 F a0_p a2_plan n_245 t93_126 t94_127) n_326 t99_287 t100_288 t101_289) = some r) ?_ ?_
       rotate_left
       ·refine SCode.block (SCode.seq ?_)
        obtain ⟨g329, h⟩ := guard_out h
        refine SCode.region (sm rfl rfl (sq rfl rfl (q_index_vec rfl rfl rfl sl22 rfl g329.1 g329.2) (sq rfl rfl (q_load_eptr rfl rfl ty3) (sa rfl rfl (sa rfl rfl (SOps.nil (SCode.seq (SCode.region (sa rfl rfl (SOps.nil ?_))))))))))
        let S794 := fun (sum_330 : Int) => (⟨[(2, .c (vR a2_plan)), (3, .c (.ptr 0 0)), (12, ci t94_127), (15, ci (t99_287.getD t101_289.toNat 0)), (16, ci sum_330), (92, .c (vR a0_p.Caps)), (93, ci t93_126), (94, ci t94_127), (99, .c (vI t99_287)), (100, ci t100_288), (101, ci t101_289)], [.box (bSProblem a0_p)]⟩ : St)
        refine SCode.join (σ := Int) (S := fun s => (S794 s)) (g := fun s => chargenetref18_Check_p332 a0_p t99_287 t100_288 t101_289 (fun t99_287 t100_288 t101_289 => chargenetref18_Check_l326 F a0_p a2_plan t93_126 t94_127 (fun t93_126 t94_127 => chargenetref18_Check_l245 F a0_p a2_plan n_245 t93_126 t94_127) n_326 t99_287 t100_288 t101_289) s = some r) ?_ ?_
        rotate_left
        ·refine SCode.seq (SCode.region (sq rfl rfl (q_field_ptr rfl rfl fd26_4) (sq rfl rfl (q_load_ptr rfl rfl rfl rfl ty24) (sq rfl rfl (q_len_vec rfl rfl sl24) (sm rfl rfl (SOps.nil (SCode.block ?_)))))))
         let S793 := fun (sum_342 : Int) => fun (t109_343 : Int) => (⟨[(2, .c (vR a2_plan)), (3, .c (.ptr 0 0)), (12, ci t94_127), (14, ci t101_289), (15, ci (t99_287.getD t101_289.toNat 0)), (16, ci sum_342), (92, .c (vR a0_p.Caps)), (93, ci t93_126), (94, ci t94_127), (99, .c (vI t99_287)), (100, ci t100_288), (101, ci t101_289), (107, .c (vSDemand a0_p.Demands)), (108, ci (((a0_p.Demands).length : Int))), (109, ci t109_343)], [.box (bSProblem a0_p)]⟩ : St)
         refine SCode.sub (st' := (S793 0 0)) (sub_gen [0] rfl rfl (zall rfl rfl) ⟨bx rfl rfl rfl, trivial⟩) ?_
         refine (SCode.loop (σ := Nat × (Int × Int)) (S := fun s => (S793 s.2.1 s.2.2)) (g := fun s => chargenetref18_Check_l353 F a0_p a2_plan t94_127 t99_287 t100_288 t101_289 (fun t99_287 t100_288 t101_289 => chargenetref18_Check_l326 F a0_p a2_plan t93_126 t94_127 (fun t93_126 t94_127 => chargenetref18_Check_l245 F a0_p a2_plan n_245 t93_126 t94_127) n_326 t99_287 t100_288 t101_289) s.1 s.2.1 s.2.2 = some r) (μ := fun s => s.1) (F, (0, 0)) h ?_)
         rintro ⟨n_353, ⟨sum_342, t109_343⟩⟩ h
         try dsimp only at h
         show SCode _ _ _ (S793 sum_342 t109_343) _
         cases n_353 with
         | zero => cases h
         | succ n_353 =>
          rw [chargenetref18_Check_l353] at h
          unfold chargenetref18_Check_b353 at h
          refine SCode.seq (SCode.region (sq rfl rfl (q_lss rfl rfl rfl) (SOps.nil (SCode.seq ?_))))
          rcases cond_out h with ⟨g354, h⟩ | ⟨g354, h⟩
          ·refine SCode.cond_t rfl g354 (SCode.skip ?_)
           let S792 := fun (sum_355 : Int) => (⟨[(2, .c (vR a2_plan)), (3, .c (.ptr 0 0)), (12, ci t94_127), (14, ci t101_289), (15, ci (t99_287.getD t101_289.toNat 0)), (16, ci sum_355), (92, .c (vR a0_p.Caps)), (93, ci t93_126), (94, ci t94_127), (99, .c (vI t99_287)), (100, ci t100_288), (101, ci t101_289), (107, .c (vSDemand a0_p.Demands)), (108, ci (((a0_p.Demands).length : Int))), (109, ci t109_343)], [.box (bSProblem a0_p)]⟩ : St)
           refine SCode.join (σ := Int) (S := fun s => (S792 s)) (g := fun s => chargenetref18_Check_p356 t109_343 (fun sum_342 t109_343 => chargenetref18_Check_l353 F a0_p a2_plan t94_127 t99_287 t100_288 t101_289 (fun t99_287 t100_288 t101_289 => chargenetref18_Check_l326 F a0_p a2_plan t93_126 t94_127 (fun t93_126 t94_127 => chargenetref18_Check_l245 F a0_p a2_plan n_245 t93_126 t94_127) n_326 t99_287 t100_288 t101_289) n_353 sum_342 t109_343) s = some r) ?_ ?_
           rotate_left
           ·refine SCode.block (SCode.seq ?_)
            obtain ⟨g357, h⟩ := guard_out h
            refine SCode.region (sm rfl rfl (sq rfl rfl (q_index_vec rfl rfl rfl sl24 rfl g357.1 g357.2) (sq rfl rfl (q_load_eptr_all rfl rfl rfl ty39) (se rfl rfl (e_alloc rfl rfl rfl z39) (sa rfl rfl (se rfl rfl (e_store_box rfl rfl rfl rfl rfl ty39 rfl rfl rfl rfl) (SOps.nil (SCode.seq ?_))))))))
            obtain ⟨c_358, g359, h⟩ := bind_out h
            try dsimp only at h
            refine SCode.region (sq rfl rfl (q_load_ptr_all rfl rfl rfl rfl rfl ty26) (sq rfl rfl (q_field_ptr rfl rfl fd39_0) (sq rfl rfl (q_load_ptr rfl rfl rfl rfl ty3) (sm rfl rfl (sq rfl rfl (q_call (chargenetref18_Below_ok F a0_p ((a0_p.Demands.getD t109_343.toNat dSDemand).Feeder) t101_289 c_358 g359) [] rfl fn39 ⟨⟨rfl, rfl⟩, ⟨_, rfl, .inl ⟨rfl, rfl⟩⟩, ⟨_, rfl, .inl ⟨rfl, rfl⟩⟩, trivial⟩ (.inl rfl)) (SOps.nil ?_))))))
            rcases cond_out h with ⟨g360, h⟩ | ⟨g360, h⟩
            ·refine SCode.cond_t rfl g360 ?_
             obtain ⟨g361, h⟩ := guard_out h
             obtain ⟨g362, h⟩ := guard_out h
             refine SCode.region (sm rfl rfl (sm rfl rfl (sm rfl rfl (sq rfl rfl (q_index_vec rfl rfl rfl sl23 rfl g361.1 g361.2) (sq rfl rfl (q_load_eptr rfl rfl ty22) (sm rfl rfl (sq rfl rfl (q_index_vec rfl rfl rfl sl22 rfl g362.1 g362.2) (sq rfl rfl (q_load_eptr rfl rfl ty3) (sq rfl rfl (q_add rfl rfl rfl) (sa rfl rfl (SOps.sub (st' := ⟨[(2, .c (vR a2_plan)), (3, .c (.ptr 0 0)), (12, ci t94_127), (14, ci t101_289), (15, ci (t99_287.getD t101_289.toNat 0)), (16, ci (IntKind.wrap .i64 (sum_342 + (a2_plan.getD t109_343.toNat ([])).getD t94_127.toNat 0))), (92, .c (vR a0_p.Caps)), (93, ci t93_126), (94, ci t94_127), (99, .c (vI t99_287)), (100, ci t100_288), (101, ci t101_289), (107, .c (vSDemand a0_p.Demands)), (108, ci (((a0_p.Demands).length : Int))), (109, ci t109_343)], [.box (bSProblem a0_p)]⟩) (sub_gen [0] rfl rfl (zall rfl rfl) ⟨bx rfl rfl rfl, trivial⟩) (SOps.nil ?_))))))))))))
             exact ⟨IntKind.wrap .i64 (sum_342 + (a2_plan.getD t109_343.toNat ([])).getD t94_127.toNat 0), h, sub_gen [0] rfl rfl (zall rfl rfl) ⟨bx rfl rfl rfl, trivial⟩⟩
            refine SCode.cond_f rfl g360 (SCode.skip ?_)
            exact ⟨sum_342, h, sub_gen [0] rfl rfl (zall rfl rfl) ⟨bx rfl rfl rfl, trivial⟩⟩
           rintro sum_355 h
           show SCode _ _ _ (S792 sum_355) _
           try dsimp only at h
           unfold chargenetref18_Check_p356 at h
           refine SCode.region (sq rfl rfl (q_add rfl rfl rfl) (sm rfl rfl (SOps.nil ?_)))
           exact ⟨(n_353, (sum_355, IntKind.wrap .i64 (t109_343 + 1))), h, Nat.lt_succ_self n_353, sub_gen [0] rfl rfl (zall rfl rfl) ⟨bx rfl rfl rfl, trivial⟩⟩
          refine SCode.cond_f rfl g354 (SCode.exit ?_)
          exact ⟨sum_342, h, sub_gen [0] rfl rfl (zall rfl rfl) ⟨bx rfl rfl rfl, trivial⟩⟩
        rintro sum_330 h
        show SCode _ _ _ (S794 sum_330) _
        try dsimp only at h
        unfold chargenetref18_Check_p332 at h
        refine SCode.seq (SCode.region (sm rfl rfl (sm rfl rfl (sq rfl rfl (q_field_ptr rfl rfl fd26_3) (sq rfl rfl (q_load_ptr rfl rfl rfl rfl ty3) (sq rfl rfl (q_mul rfl rfl rfl) (sq rfl rfl (q_gtr rfl rfl rfl) (SOps.nil ?_))))))))
        rcases cond_out h with ⟨g331, h⟩ | ⟨g331, h⟩
        ·refine SCode.cond_t rfl g331 (SCode.seq (SCode.region (sa rfl rfl (SOps.nil (SCode.ret ?_)))))
         obtain rfl := Option.some.inj h
         exact ⟨⟨[(6, .c (.bool false))], []⟩, _, sub_gen [] rfl rfl (zall rfl rfl) trivial, resA1 (v := .c (.bool false)) rfl rfl, rfl⟩
        refine SCode.cond_f rfl g331 (SCode.skip ?_)
        exact ⟨(), h, sub_gen [0] rfl rfl (zall rfl rfl) ⟨bx rfl rfl rfl, trivial⟩⟩
       rintro ⟨⟩ h
       show SCode _ _ _ S795 _
       try dsimp only at h
       unfold chargenetref18_Check_p328 at h
       refine SCode.region (sq rfl rfl (q_add rfl rfl rfl) (sm rfl rfl (SOps.nil ?_)))
       exact ⟨(n_326, (t99_287, t100_288, IntKind.wrap .i64 (t101_289 + 1))), h, Nat.lt_succ_self n_326, sub_gen [0] rfl rfl (zall rfl rfl) ⟨bx rfl rfl rfl, trivial⟩⟩
      refine SCode.cond_f rfl g327 (SCode.exit ?_)
      exact ⟨(), h, sub_gen [0] rfl rfl (zall rfl rfl) ⟨bx rfl rfl rfl, trivial⟩⟩
    rintro ⟨⟩ h
    show SCode _ _ _ S797 _
    try dsimp only at h
    unfold chargenetref18_Check_p247 at h
    refine SCode.region (sq rfl rfl (q_add rfl rfl rfl) (sm rfl rfl (SOps.nil ?_)))
    exact ⟨(n_245, (t93_126, IntKind.wrap .i64 (t94_127 + 1))), h, Nat.lt_succ_self n_245, sub_gen [0] rfl rfl (zall rfl rfl) ⟨bx rfl rfl rfl, trivial⟩⟩
   refine SCode.cond_f rfl g246 (SCode.exit ?_)
   exact ⟨(), h, sub_gen [] rfl rfl trivial trivial⟩
 rintro ⟨⟩ h
 show SCode _ _ _ S799 _
 try dsimp only at h
 unfold chargenetref18_Check_p5 at h
 refine SCode.seq (SCode.region (sa rfl rfl (SOps.nil (SCode.ret ?_))))
 obtain rfl := Option.some.inj h
 exact ⟨⟨[(6, .c (.bool true))], []⟩, _, sub_gen [] rfl rfl (zall rfl rfl) trivial, resA1 (v := .c (.bool true)) rfl rfl, rfl⟩
end Go.Proofs.Ytfefnffdocmlmaa.W
