/- Written by a program of ours (wip/eng/gen.py): the functions compute their models. -/
import Derived.Test.YtfefnffdocmlmaaFacts
import Derived.Test.YtfefnffdocmlmaaV5x6
namespace Go.Proofs.Ytfefnffdocmlmaa.W
open Go Go.Proofs Go.Proofs.Ytfefnffdocmlmaa.E Go.Proofs.Ytfefnffdocmlmaa.M
set_option linter.unusedVariables false
set_option maxRecDepth 100000
set_option maxHeartbeats 8000000
theorem chargenetref18_network_ok (F : Nat) (a0_p : SProblem) (a1_energy : List Int) (r : SNet) (h : chargenetref18_network F a0_p a1_energy = some r) :
  SFun Try.prog 46 [] [.a (bSProblem a0_p), .c (vI a1_energy)] (fun x _ => x = .a (bSNet r)) := by
 refine SFun.of (n := 125) Try.func46 rfl rfl rfl ?_
 unfold chargenetref18_network at h
 show SCode _ _ _ ⟨[(0, .a (bSProblem a0_p)), (1, .c (vI a1_energy))], []⟩ _
 refine SCode.seq ?_
 refine SCode.region (show SOps _ _ _ [0, 1] _ _ from ?_)
 refine se rfl rfl (e_box rfl rfl rfl rfl rfl rfl) (se rfl rfl (e_alloc rfl rfl rfl z49) (SOps.sub (st' := ⟨[(1, .c (vI a1_energy)), (2, .c (.ptr 0 0)), (4, .c (.ptr 1 0))], [.box (bSProblem a0_p), .box [.int .i64 0, .own 2 (([] : List SArc)).length], aSArc 63 (([] : List SArc))]⟩) (Sub.trans (Sub.nilBox (id := 1) (j := 1) (T := 63) (k := 3) (g := gL cSArc dSArc ([] : List SArc)) rfl rfl) (sub_gen [0, 1, 2] rfl rfl (zall rfl rfl) ⟨bx rfl rfl rfl, bx rfl rfl rfl, oa rfl, trivial⟩)) (SOps.nil (SCode.seq ?_))))
 refine SCode.region (show SOps _ _ _ [0, 1, 2, 3, 4, 5, 6, 7, 8, 9, 10, 11, 12, 13, 14] _ _ from ?_)
 refine sq rfl rfl rfl (q_field_ptr rfl rfl fd26_4) (sq rfl rfl rfl (q_load_ptr rfl rfl rfl rfl ty24) (sq rfl rfl rfl (q_len_vec rfl rfl sl24) (sq rfl rfl rfl (q_add rfl rfl rfl) (sq rfl rfl rfl (q_field_ptr rfl rfl fd26_1) (sq rfl rfl rfl (q_load_ptr rfl rfl rfl rfl ty23) (sq rfl rfl rfl (q_len_vec rfl rfl sl23) (sq rfl rfl rfl (q_field_ptr rfl rfl fd26_0) (sq rfl rfl rfl (q_load_ptr rfl rfl rfl rfl ty22) (sq rfl rfl rfl (q_len_vec rfl rfl sl22) ?_)))))))))
 refine sq rfl rfl rfl (q_mul rfl rfl rfl) (sq rfl rfl rfl (q_add rfl rfl rfl) (sq rfl rfl rfl (q_build2 rfl rfl pl49 rfl) (se rfl rfl (e_alloc rfl rfl rfl z49) (se rfl rfl (e_store_box rfl rfl rfl rfl rfl ty49 rfl rfl rfl rfl) (SOps.sub (st' := ⟨[(1, .c (vI a1_energy)), (2, .c (.ptr 0 0)), (4, .c (.ptr 1 0)), (5, .c (.ptr 3 0))], [.box (bSProblem a0_p), .box [.int .i64 0, .own 2 (([] : List SArc)).length], aSArc 63 (([] : List SArc)), .box [.int .i64 (IntKind.wrap .i64 (IntKind.wrap .i64 (2 + ((a0_p.Demands).length : Int)) + IntKind.wrap .i64 (((a0_p.Caps).length : Int) * ((a0_p.Parents).length : Int)))), .own 4 (([] : List SArc)).length], aSArc 63 (([] : List SArc))]⟩) (Sub.trans (Sub.nilBox (id := 3) (j := 1) (T := 63) (k := 3) (g := gL cSArc dSArc ([] : List SArc)) rfl rfl) (sub_gen [0, 1, 2, 3, 4] rfl rfl (zall rfl rfl) ⟨bx rfl rfl rfl, bx rfl rfl rfl, oa rfl, bx rfl rfl rfl, oa rfl, trivial⟩)) (SOps.nil ?_))))))
 let S150 := fun (o4_1 : List SArc) => (⟨[(2, .c (.ptr 0 0)), (4, .c (.ptr 1 0)), (5, .c (.ptr 3 0))], [.box (bSProblem a0_p), .box [.int .i64 0, .own 2 (([] : List SArc)).length], aSArc 63 (([] : List SArc)), .box [.int .i64 (IntKind.wrap .i64 (IntKind.wrap .i64 (2 + ((a0_p.Demands).length : Int)) + IntKind.wrap .i64 (((a0_p.Caps).length : Int) * ((a0_p.Parents).length : Int)))), .own 4 o4_1.length], aSArc 63 o4_1]⟩ : St)
 refine SCode.join (σ := (List SArc)) (S := fun s => (S150 s)) (g := fun s => chargenetref18_network_p136 F a0_p s = some r) ?_ ?_
 rotate_left
 ·refine SCode.seq ?_
  refine SCode.region (show SOps _ _ _ [0, 1, 2, 3] _ _ from ?_)
  refine sq rfl rfl rfl (q_field_ptr rfl rfl fd26_4) (sq rfl rfl rfl (q_load_ptr rfl rfl rfl rfl ty24) (sq rfl rfl rfl (q_len_vec rfl rfl sl24) (sm rfl rfl rfl rfl rfl (SOps.nil (SCode.block ?_)))))
  let S149 := fun (t30_173 : Int) => fun (o4_174 : List SArc) => (⟨[(1, .c (vI a1_energy)), (2, .c (.ptr 0 0)), (4, .c (.ptr 1 0)), (5, .c (.ptr 3 0)), (28, .c (vSDemand a0_p.Demands)), (29, ci (((a0_p.Demands).length : Int))), (30, ci t30_173)], [.box (bSProblem a0_p), .box [.int .i64 0, .own 2 (([] : List SArc)).length], aSArc 63 (([] : List SArc)), .box [.int .i64 (IntKind.wrap .i64 (IntKind.wrap .i64 (2 + ((a0_p.Demands).length : Int)) + IntKind.wrap .i64 (((a0_p.Caps).length : Int) * ((a0_p.Parents).length : Int)))), .own 4 o4_174.length], aSArc 63 o4_174]⟩ : St)
  refine SCode.sub (st' := (S149 0 (([] : List SArc)))) (sub_gen [0, 1, 2, 3, 4] rfl rfl (zall rfl rfl) ⟨bx rfl rfl rfl, bx rfl rfl rfl, oa rfl, bx rfl rfl rfl, oa rfl, trivial⟩) ?_
  refine (SCode.loop (σ := Nat × (Int × (List SArc))) (S := fun s => (S149 s.2.1 s.2.2)) (g := fun s => chargenetref18_network_l211 F a0_p a1_energy s.1 s.2.1 s.2.2 = some r) (μ := fun s => s.1) (F, (0, ([] : List SArc))) h ?_)
  rintro ⟨n_211, ⟨t30_173, o4_174⟩⟩ h
  try dsimp only at h
  show SCode _ _ _ (S149 t30_173 o4_174) _
  cases n_211 with
  | zero => cases h
  | succ n_211 =>
   rw [chargenetref18_network_l211] at h
   unfold chargenetref18_network_b211 at h
   refine SCode.seq ?_
   refine SCode.region (show SOps _ _ _ [0] _ _ from ?_)
   refine sq rfl rfl rfl (q_lss rfl rfl rfl) (SOps.nil (SCode.seq ?_))
   rcases cond_out h with ⟨g212, h⟩ | ⟨g212, h⟩
   ·refine SCode.cond_t rfl g212 (SCode.skip ?_)
    let S148 := fun (o4_213 : List SArc) => (⟨[(1, .c (vI a1_energy)), (2, .c (.ptr 0 0)), (4, .c (.ptr 1 0)), (5, .c (.ptr 3 0)), (28, .c (vSDemand a0_p.Demands)), (29, ci (((a0_p.Demands).length : Int))), (30, ci t30_173)], [.box (bSProblem a0_p), .box [.int .i64 0, .own 2 (([] : List SArc)).length], aSArc 63 (([] : List SArc)), .box [.int .i64 (IntKind.wrap .i64 (IntKind.wrap .i64 (2 + ((a0_p.Demands).length : Int)) + IntKind.wrap .i64 (((a0_p.Caps).length : Int) * ((a0_p.Parents).length : Int)))), .own 4 o4_213.length], aSArc 63 o4_213]⟩ : St)
    refine SCode.join (σ := (List SArc)) (S := fun s => (S148 s)) (g := fun s => chargenetref18_network_p214 t30_173 (fun t30_173 o4_174 => chargenetref18_network_l211 F a0_p a1_energy n_211 t30_173 o4_174) s = some r) ?_ ?_
    rotate_left
    ·refine SCode.block (SCode.seq ?_)
     obtain ⟨g215, h⟩ := guard_out h
     refine SCode.region (show SOps _ _ _ [0, 1, 2, 3, 4, 5] _ _ from ?_)
     refine sm rfl rfl rfl rfl rfl (sq rfl rfl rfl (q_index_vec rfl rfl rfl sl24 rfl g215.1 g215.2) (sq rfl rfl rfl (q_load_eptr_all rfl rfl rfl ty39) (se rfl rfl (e_alloc rfl rfl rfl z39) (sa rfl rfl rfl rfl rfl (se rfl rfl (e_store_box rfl rfl rfl rfl rfl ty39 rfl rfl rfl rfl) (SOps.nil (SCode.seq (SCode.sub (st' := ⟨[(1, .c (vI a1_energy)), (2, .c (.ptr 0 0)), (4, .c (.ptr 1 0)), (5, .c (.ptr 3 0)), (6, ci t30_173), (7, .c (.ptr 5 0)), (28, .c (vSDemand a0_p.Demands)), (29, ci (((a0_p.Demands).length : Int))), (30, ci t30_173)], [.box (bSProblem a0_p), .box [.int .i64 0, .own 2 (([] : List SArc)).length], aSArc 63 (([] : List SArc)), .box [.int .i64 (IntKind.wrap .i64 (IntKind.wrap .i64 (2 + ((a0_p.Demands).length : Int)) + IntKind.wrap .i64 (((a0_p.Caps).length : Int) * ((a0_p.Parents).length : Int)))), .own 4 o4_174.length], aSArc 63 o4_174, .box (bSDemand (a0_p.Demands.getD t30_173.toNat dSDemand))]⟩) (sub_gen [0, 1, 2, 3, 4, 5] rfl rfl (zall rfl rfl) ⟨bx rfl rfl rfl, bx rfl rfl rfl, oa rfl, bx rfl rfl rfl, oa rfl, bx rfl rfl rfl, trivial⟩) ?_))))))))
     obtain ⟨g216, h⟩ := guard_out h
     obtain ⟨g217, h⟩ := guard_out h
     refine SCode.drawK mixed [[], [0], [], [2], [], [], [4, 5], [4, 5, 6], [2, 3, 4, 5, 6, 7], [2, 3, 4, 5, 6, 7, 8], [0, 1, 2, 3, 4, 5, 6, 7, 8, 9], [0, 1, 2, 3, 4, 5, 6, 7, 8, 9, 10], [0, 1, 2, 3, 4, 5, 6, 7, 8, 9, 10, 11]] 10 3 rfl rfl (qr rfl rfl rfl (q_field_ptr rfl rfl fd49_1) (qr rfl rfl rfl (q_load_ptr rfl rfl rfl rfl ty47) (qm rfl rfl rfl rfl rfl (qr rfl rfl rfl (q_add rfl rfl rfl) (qm rfl rfl rfl rfl rfl (qm rfl rfl rfl rfl rfl (qr rfl rfl rfl (q_index_vec rfl rfl rfl sl22 rfl g216.1 g216.2) (qr rfl rfl rfl (q_load_eptr rfl rfl ty3) (qr rfl rfl rfl (q_build2 rfl rfl pl63 rfl) ?_)))))))))
     refine qr rfl rfl rfl (q_bsliceL (c := cSArc) (d0 := dSArc) [SArc.mk 0 (IntKind.wrap .i64 (2 + t30_173)) (a1_energy.getD t30_173.toNat 0)] rfl rfl sl47 z63 rfl rfl rfl rfl rfl rfl rfl) (QK.nil ?_)
     refine (show SOps _ _ _ [10, 11, 12] _ _ from ?_)
     refine se rfl rfl (e_appendL (c := cSArc) (d0 := dSArc) (l := o4_174) (l2 := [SArc.mk 0 (IntKind.wrap .i64 (2 + t30_173)) (a1_energy.getD t30_173.toNat 0)]) rfl rfl rfl rfl rfl rfl (.inl rfl) sl47 z63 rfl rfl oneSArc g217.1 g217.2) (sq rfl rfl rfl (q_field_ptr rfl rfl fd49_1) (se rfl rfl (e_store_box rfl rfl rfl rfl rfl ty47 rfl rfl rfl rfl) ?_))
     let y1 := o4_174 ++ ([SArc.mk 0 (IntKind.wrap .i64 (2 + t30_173)) (a1_energy.getD t30_173.toNat 0)])
     refine SOps.sub (st' := ⟨[(1, .c (vI a1_energy)), (2, .c (.ptr 0 0)), (4, .c (.ptr 1 0)), (5, .c (.ptr 3 0)), (6, ci t30_173), (7, .c (.ptr 5 0)), (28, .c (vSDemand a0_p.Demands)), (29, ci (((a0_p.Demands).length : Int))), (30, ci t30_173)], [.box (bSProblem a0_p), .box [.int .i64 0, .own 2 (([] : List SArc)).length], aSArc 63 (([] : List SArc)), .box [.int .i64 (IntKind.wrap .i64 (IntKind.wrap .i64 (2 + ((a0_p.Demands).length : Int)) + IntKind.wrap .i64 (((a0_p.Caps).length : Int) * ((a0_p.Parents).length : Int)))), .own 4 y1.length], aSArc 63 y1, .box (bSDemand (a0_p.Demands.getD t30_173.toNat dSDemand))]⟩) (sub_gen [0, 1, 2, 3, 6, 5] rfl rfl (zall rfl rfl) ⟨bx rfl rfl rfl, bx rfl rfl rfl, oa rfl, bx rfl rfl rfl, oa rfl, bx rfl rfl rfl, trivial⟩) (SOps.nil (SCode.seq ?_))
     refine SCode.region (show SOps _ _ _ [0, 1, 2, 3] _ _ from ?_)
     refine sq rfl rfl rfl (q_field_ptr rfl rfl fd26_1) (sq rfl rfl rfl (q_load_ptr rfl rfl rfl rfl ty23) (sq rfl rfl rfl (q_len_vec rfl rfl sl23) (sm rfl rfl rfl rfl rfl (SOps.nil (SCode.block ?_)))))
     let S147 := fun (t50_227 : Int) => fun (o4_228 : List SArc) => (⟨[(1, .c (vI a1_energy)), (2, .c (.ptr 0 0)), (4, .c (.ptr 1 0)), (5, .c (.ptr 3 0)), (6, ci t30_173), (7, .c (.ptr 5 0)), (28, .c (vSDemand a0_p.Demands)), (29, ci (((a0_p.Demands).length : Int))), (30, ci t30_173), (49, ci (((a0_p.Caps).length : Int))), (50, ci t50_227)], [.box (bSProblem a0_p), .box [.int .i64 0, .own 2 (([] : List SArc)).length], aSArc 63 (([] : List SArc)), .box [.int .i64 (IntKind.wrap .i64 (IntKind.wrap .i64 (2 + ((a0_p.Demands).length : Int)) + IntKind.wrap .i64 (((a0_p.Caps).length : Int) * ((a0_p.Parents).length : Int)))), .own 4 o4_228.length], aSArc 63 o4_228, .box (bSDemand (a0_p.Demands.getD t30_173.toNat dSDemand))]⟩ : St)
     refine SCode.sub (st' := (S147 0 (o4_174 ++ ([SArc.mk 0 (IntKind.wrap .i64 (2 + t30_173)) (a1_energy.getD t30_173.toNat 0)])))) (sub_gen [0, 1, 2, 3, 4, 5] rfl rfl (zall rfl rfl) ⟨bx rfl rfl rfl, bx rfl rfl rfl, oa rfl, bx rfl rfl rfl, oa rfl, bx rfl rfl rfl, trivial⟩) ?_
     refine (SCode.loop (σ := Nat × (Int × (List SArc))) (S := fun s => (S147 s.2.1 s.2.2)) (g := fun s => chargenetref18_network_l238 F a0_p t30_173 (fun t30_173 o4_174 => chargenetref18_network_l211 F a0_p a1_energy n_211 t30_173 o4_174) s.1 s.2.1 s.2.2 = some r) (μ := fun s => s.1) (F, (0, o4_174 ++ ([SArc.mk 0 (IntKind.wrap .i64 (2 + t30_173)) (a1_energy.getD t30_173.toNat 0)]))) h ?_)
     rintro ⟨n_238, ⟨t50_227, o4_228⟩⟩ h
     try dsimp only at h
     show SCode _ _ _ (S147 t50_227 o4_228) _
     cases n_238 with
     | zero => cases h
     | succ n_238 =>
      rw [chargenetref18_network_l238] at h
      unfold chargenetref18_network_b238 at h
      refine SCode.seq ?_
      refine SCode.region (show SOps _ _ _ [0] _ _ from ?_)
      refine sq rfl rfl rfl (q_lss rfl rfl rfl) (SOps.nil (SCode.seq ?_))
      rcases cond_out h with ⟨g239, h⟩ | ⟨g239, h⟩
      ·refine SCode.cond_t rfl g239 (SCode.skip ?_)
       let S146 := fun (o4_240 : List SArc) => (⟨[(1, .c (vI a1_energy)), (2, .c (.ptr 0 0)), (4, .c (.ptr 1 0)), (5, .c (.ptr 3 0)), (6, ci t30_173), (7, .c (.ptr 5 0)), (28, .c (vSDemand a0_p.Demands)), (29, ci (((a0_p.Demands).length : Int))), (30, ci t30_173), (49, ci (((a0_p.Caps).length : Int))), (50, ci t50_227)], [.box (bSProblem a0_p), .box [.int .i64 0, .own 2 (([] : List SArc)).length], aSArc 63 (([] : List SArc)), .box [.int .i64 (IntKind.wrap .i64 (IntKind.wrap .i64 (2 + ((a0_p.Demands).length : Int)) + IntKind.wrap .i64 (((a0_p.Caps).length : Int) * ((a0_p.Parents).length : Int)))), .own 4 o4_240.length], aSArc 63 o4_240, .box (bSDemand (a0_p.Demands.getD t30_173.toNat dSDemand))]⟩ : St)
       refine SCode.join (σ := (List SArc)) (S := fun s => (S146 s)) (g := fun s => chargenetref18_network_p241 t50_227 (fun t50_227 o4_228 => chargenetref18_network_l238 F a0_p t30_173 (fun t30_173 o4_174 => chargenetref18_network_l211 F a0_p a1_energy n_211 t30_173 o4_174) n_238 t50_227 o4_228) s = some r) ?_ ?_
       rotate_left
       ·refine SCode.block (SCode.seq ?_)
        refine SCode.region (show SOps _ _ _ [0, 1] _ _ from ?_)
        refine sm rfl rfl rfl rfl rfl (sa rfl rfl rfl rfl rfl (SOps.nil (SCode.seq ?_)))
        obtain ⟨c_242, g243, h⟩ := bind_out h
        try dsimp only at h
        refine SCode.region (show SOps _ _ _ [0, 1, 2, 3] _ _ from ?_)
        refine sq rfl rfl rfl (q_load_ptr_all rfl rfl rfl rfl rfl ty26) (sq rfl rfl rfl (q_load_ptr_all rfl rfl rfl rfl rfl ty39) (sm rfl rfl rfl rfl rfl (sq rfl rfl rfl (q_call (chargenetref18_Usable_ok F a0_p (a0_p.Demands.getD t30_173.toNat dSDemand) t50_227 c_242 g243) [] rfl fn38 ⟨⟨rfl, rfl⟩, ⟨rfl, rfl⟩, ⟨_, rfl, .inl ⟨rfl, rfl⟩⟩, trivial⟩ (.inl rfl)) (SOps.nil ?_))))
        rcases cond_out h with ⟨g244, h⟩ | ⟨g244, h⟩
        ·refine SCode.cond_t rfl g244 (SCode.sub (st' := ⟨[(1, .c (vI a1_energy)), (2, .c (.ptr 0 0)), (4, .c (.ptr 1 0)), (5, .c (.ptr 3 0)), (6, ci t30_173), (7, .c (.ptr 5 0)), (8, ci t50_227), (28, .c (vSDemand a0_p.Demands)), (29, ci (((a0_p.Demands).length : Int))), (30, ci t30_173), (49, ci (((a0_p.Caps).length : Int))), (50, ci t50_227)], [.box (bSProblem a0_p), .box [.int .i64 0, .own 2 (([] : List SArc)).length], aSArc 63 (([] : List SArc)), .box [.int .i64 (IntKind.wrap .i64 (IntKind.wrap .i64 (2 + ((a0_p.Demands).length : Int)) + IntKind.wrap .i64 (((a0_p.Caps).length : Int) * ((a0_p.Parents).length : Int)))), .own 4 o4_228.length], aSArc 63 o4_228, .box (bSDemand (a0_p.Demands.getD t30_173.toNat dSDemand))]⟩) (sub_gen [0, 1, 2, 3, 4, 5] rfl rfl (zall rfl rfl) ⟨bx rfl rfl rfl, bx rfl rfl rfl, oa rfl, bx rfl rfl rfl, oa rfl, bx rfl rfl rfl, trivial⟩) ?_)
         obtain ⟨c_245, g246, h⟩ := bind_out h
         try dsimp only at h
         obtain ⟨g247, h⟩ := guard_out h
         refine SCode.drawK mixed [[], [0], [], [2], [], [], [], [6], [4, 5, 6, 7], [], [9], [], [11], [9, 10, 11, 12], [2, 3, 4, 5, 6, 7, 8, 9, 10, 11, 12, 13], [2, 3, 4, 5, 6, 7, 8, 9, 10, 11, 12, 13, 14], [0, 1, 2, 3, 4, 5, 6, 7, 8, 9, 10, 11, 12, 13, 14, 15], [0, 1, 2, 3, 4, 5, 6, 7, 8, 9, 10, 11, 12, 13, 14, 15, 16], [0, 1, 2, 3, 4, 5, 6, 7, 8, 9, 10, 11, 12, 13, 14, 15, 16, 17]] 16 3 rfl rfl (qr rfl rfl rfl (q_field_ptr rfl rfl fd49_1) (qr rfl rfl rfl (q_load_ptr rfl rfl rfl rfl ty47) (qm rfl rfl rfl rfl rfl (qr rfl rfl rfl (q_add rfl rfl rfl) (qr rfl rfl rfl (q_load_ptr_all rfl rfl rfl rfl rfl ty26) (qm rfl rfl rfl rfl rfl (qr rfl rfl rfl (q_field_ptr rfl rfl fd39_0) (qr rfl rfl rfl (q_load_ptr rfl rfl rfl rfl ty3) (qr rfl rfl rfl (q_call (chargenetref18_node_ok F a0_p t50_227 ((a0_p.Demands.getD t30_173.toNat dSDemand).Feeder) c_245 g246) [] rfl fn56 ⟨⟨rfl, rfl⟩, ⟨_, rfl, .inl ⟨rfl, rfl⟩⟩, ⟨_, rfl, .inl ⟨rfl, rfl⟩⟩, trivial⟩ (.inl rfl)) ?_)))))))))
         refine qr rfl rfl rfl (q_field_ptr rfl rfl fd39_1) (qr rfl rfl rfl (q_load_ptr rfl rfl rfl rfl ty3) (qr rfl rfl rfl (q_field_ptr rfl rfl fd26_3) (qr rfl rfl rfl (q_load_ptr rfl rfl rfl rfl ty3) (qr rfl rfl rfl (q_mul rfl rfl rfl) (qr rfl rfl rfl (q_build2 rfl rfl pl63 rfl) (qr rfl rfl rfl (q_bsliceL (c := cSArc) (d0 := dSArc) [SArc.mk (IntKind.wrap .i64 (2 + t30_173)) c_245 (IntKind.wrap .i64 ((a0_p.Demands.getD t30_173.toNat dSDemand).Max * a0_p.Length))] rfl rfl sl47 z63 rfl rfl rfl rfl rfl rfl rfl) (QK.nil ?_)))))))
         refine (show SOps _ _ _ [16, 17, 18] _ _ from ?_)
         refine se rfl rfl (e_appendL (c := cSArc) (d0 := dSArc) (l := o4_228) (l2 := [SArc.mk (IntKind.wrap .i64 (2 + t30_173)) c_245 (IntKind.wrap .i64 ((a0_p.Demands.getD t30_173.toNat dSDemand).Max * a0_p.Length))]) rfl rfl rfl rfl rfl rfl (.inl rfl) sl47 z63 rfl rfl oneSArc g247.1 g247.2) (sq rfl rfl rfl (q_field_ptr rfl rfl fd49_1) (se rfl rfl (e_store_box rfl rfl rfl rfl rfl ty47 rfl rfl rfl rfl) ?_))
         let y2 := o4_228 ++ ([SArc.mk (IntKind.wrap .i64 (2 + t30_173)) c_245 (IntKind.wrap .i64 ((a0_p.Demands.getD t30_173.toNat dSDemand).Max * a0_p.Length))])
         refine SOps.sub (st' := ⟨[(1, .c (vI a1_energy)), (2, .c (.ptr 0 0)), (4, .c (.ptr 1 0)), (5, .c (.ptr 3 0)), (6, ci t30_173), (7, .c (.ptr 5 0)), (28, .c (vSDemand a0_p.Demands)), (29, ci (((a0_p.Demands).length : Int))), (30, ci t30_173), (49, ci (((a0_p.Caps).length : Int))), (50, ci t50_227)], [.box (bSProblem a0_p), .box [.int .i64 0, .own 2 (([] : List SArc)).length], aSArc 63 (([] : List SArc)), .box [.int .i64 (IntKind.wrap .i64 (IntKind.wrap .i64 (2 + ((a0_p.Demands).length : Int)) + IntKind.wrap .i64 (((a0_p.Caps).length : Int) * ((a0_p.Parents).length : Int)))), .own 4 y2.length], aSArc 63 y2, .box (bSDemand (a0_p.Demands.getD t30_173.toNat dSDemand))]⟩) (sub_gen [0, 1, 2, 3, 6, 5] rfl rfl (zall rfl rfl) ⟨bx rfl rfl rfl, bx rfl rfl rfl, oa rfl, bx rfl rfl rfl, oa rfl, bx rfl rfl rfl, trivial⟩) (SOps.nil ?_)
         exact ⟨o4_228 ++ ([SArc.mk (IntKind.wrap .i64 (2 + t30_173)) c_245 (IntKind.wrap .i64 ((a0_p.Demands.getD t30_173.toNat dSDemand).Max * a0_p.Length))]), h, sub_gen [0, 1, 2, 3, 4, 5] rfl rfl (zall rfl rfl) ⟨bx rfl rfl rfl, bx rfl rfl rfl, oa rfl, bx rfl rfl rfl, oa rfl, bx rfl rfl rfl, trivial⟩⟩
        refine SCode.cond_f rfl g244 (SCode.skip ?_)
        exact ⟨o4_228, h, sub_gen [0, 1, 2, 3, 4, 5] rfl rfl (zall rfl rfl) ⟨bx rfl rfl rfl, bx rfl rfl rfl, oa rfl, bx rfl rfl rfl, oa rfl, bx rfl rfl rfl, trivial⟩⟩
       rintro o4_240 h
       show SCode _ _ _ (S146 o4_240) _
       try dsimp only at h
       unfold chargenetref18_network_p241 at h
       refine SCode.region (show SOps _ _ _ [0, 1] _ _ from ?_)
       refine sq rfl rfl rfl (q_add rfl rfl rfl) (sm rfl rfl rfl rfl rfl (SOps.nil ?_))
       exact ⟨(n_238, (IntKind.wrap .i64 (t50_227 + 1), o4_240)), h, Nat.lt_succ_self n_238, sub_gen [0, 1, 2, 3, 4, 5] rfl rfl (zall rfl rfl) ⟨bx rfl rfl rfl, bx rfl rfl rfl, oa rfl, bx rfl rfl rfl, oa rfl, bx rfl rfl rfl, trivial⟩⟩
      refine SCode.cond_f rfl g239 (SCode.exit ?_)
      exact ⟨o4_228, h, sub_gen [0, 1, 2, 3, 4] rfl rfl (zall rfl rfl) ⟨bx rfl rfl rfl, bx rfl rfl rfl, oa rfl, bx rfl rfl rfl, oa rfl, trivial⟩⟩
    rintro o4_213 h
    show SCode _ _ _ (S148 o4_213) _
    try dsimp only at h
    unfold chargenetref18_network_p214 at h
    refine SCode.region (show SOps _ _ _ [0, 1] _ _ from ?_)
    refine sq rfl rfl rfl (q_add rfl rfl rfl) (sm rfl rfl rfl rfl rfl (SOps.nil ?_))
    exact ⟨(n_211, (IntKind.wrap .i64 (t30_173 + 1), o4_213)), h, Nat.lt_succ_self n_211, sub_gen [0, 1, 2, 3, 4] rfl rfl (zall rfl rfl) ⟨bx rfl rfl rfl, bx rfl rfl rfl, oa rfl, bx rfl rfl rfl, oa rfl, trivial⟩⟩
   refine SCode.cond_f rfl g212 (SCode.exit ?_)
   exact ⟨o4_174, h, sub_gen [0, 1, 2, 3, 4] rfl rfl (zall rfl rfl) ⟨bx rfl rfl rfl, bx rfl rfl rfl, oa rfl, bx rfl rfl rfl, oa rfl, trivial⟩⟩
 rintro o4_1 h
 show SCode _ _ _ (S150 o4_1) _
 try dsimp only at h
 unfold chargenetref18_network_p136 at h
 let S121 := fun (o3_2 : List SArc) => (⟨[(4, .c (.ptr 0 0)), (5, .c (.ptr 2 0))], [.box [.int .i64 0, .own 1 (([] : List SArc)).length], aSArc 63 (([] : List SArc)), .box [.int .i64 (IntKind.wrap .i64 (IntKind.wrap .i64 (2 + ((a0_p.Demands).length : Int)) + IntKind.wrap .i64 (((a0_p.Caps).length : Int) * ((a0_p.Parents).length : Int)))), .own 3 o3_2.length], aSArc 63 o3_2]⟩ : St)
 refine SCode.join (σ := (List SArc)) (S := fun s => (S121 s)) (g := fun s => chargenetref18_network_p3 a0_p s = some r) ?_ ?_
 rotate_left
 ·refine SCode.seq ?_
  refine SCode.region (show SOps _ _ _ [0, 1, 2, 3] _ _ from ?_)
  refine sq rfl rfl rfl (q_field_ptr rfl rfl fd26_1) (sq rfl rfl rfl (q_load_ptr rfl rfl rfl rfl ty23) (sq rfl rfl rfl (q_len_vec rfl rfl sl23) (sm rfl rfl rfl rfl rfl (SOps.nil (SCode.block ?_)))))
  let S120 := fun (t80_47 : Int) => fun (o4_48 : List SArc) => (⟨[(2, .c (.ptr 0 0)), (4, .c (.ptr 1 0)), (5, .c (.ptr 3 0)), (78, .c (vR a0_p.Caps)), (79, ci (((a0_p.Caps).length : Int))), (80, ci t80_47)], [.box (bSProblem a0_p), .box [.int .i64 0, .own 2 (([] : List SArc)).length], aSArc 63 (([] : List SArc)), .box [.int .i64 (IntKind.wrap .i64 (IntKind.wrap .i64 (2 + ((a0_p.Demands).length : Int)) + IntKind.wrap .i64 (((a0_p.Caps).length : Int) * ((a0_p.Parents).length : Int)))), .own 4 o4_48.length], aSArc 63 o4_48]⟩ : St)
  refine SCode.sub (st' := (S120 0 o4_1)) (sub_gen [0, 1, 2, 3, 4] rfl rfl (zall rfl rfl) ⟨bx rfl rfl rfl, bx rfl rfl rfl, oa rfl, bx rfl rfl rfl, oa rfl, trivial⟩) ?_
  refine (SCode.loop (σ := Nat × (Int × (List SArc))) (S := fun s => (S120 s.2.1 s.2.2)) (g := fun s => chargenetref18_network_l92 F a0_p s.1 s.2.1 s.2.2 = some r) (μ := fun s => s.1) (F, (0, o4_1)) h ?_)
  rintro ⟨n_92, ⟨t80_47, o4_48⟩⟩ h
  try dsimp only at h
  show SCode _ _ _ (S120 t80_47 o4_48) _
  cases n_92 with
  | zero => cases h
  | succ n_92 =>
   rw [chargenetref18_network_l92] at h
   unfold chargenetref18_network_b92 at h
   refine SCode.seq ?_
   refine SCode.region (show SOps _ _ _ [0] _ _ from ?_)
   refine sq rfl rfl rfl (q_lss rfl rfl rfl) (SOps.nil (SCode.seq ?_))
   rcases cond_out h with ⟨g93, h⟩ | ⟨g93, h⟩
   ·refine SCode.cond_t rfl g93 (SCode.skip ?_)
    let S119 := fun (o4_94 : List SArc) => (⟨[(2, .c (.ptr 0 0)), (4, .c (.ptr 1 0)), (5, .c (.ptr 3 0)), (78, .c (vR a0_p.Caps)), (79, ci (((a0_p.Caps).length : Int))), (80, ci t80_47)], [.box (bSProblem a0_p), .box [.int .i64 0, .own 2 (([] : List SArc)).length], aSArc 63 (([] : List SArc)), .box [.int .i64 (IntKind.wrap .i64 (IntKind.wrap .i64 (2 + ((a0_p.Demands).length : Int)) + IntKind.wrap .i64 (((a0_p.Caps).length : Int) * ((a0_p.Parents).length : Int)))), .own 4 o4_94.length], aSArc 63 o4_94]⟩ : St)
    refine SCode.join (σ := (List SArc)) (S := fun s => (S119 s)) (g := fun s => chargenetref18_network_p95 t80_47 (fun t80_47 o4_48 => chargenetref18_network_l92 F a0_p n_92 t80_47 o4_48) s = some r) ?_ ?_
    rotate_left
    ·refine SCode.block (SCode.seq ?_)
     obtain ⟨g96, h⟩ := guard_out h
     refine SCode.region (show SOps _ _ _ [0, 1, 2, 3, 4] _ _ from ?_)
     refine sm rfl rfl rfl rfl rfl (sq rfl rfl rfl (q_index_vec rfl rfl rfl sl23 rfl g96.1 g96.2) (sq rfl rfl rfl (q_load_eptr rfl rfl ty22) (sa rfl rfl rfl rfl rfl (sa rfl rfl rfl rfl rfl (SOps.nil (SCode.seq ?_))))))
     refine SCode.region (show SOps _ _ _ [0, 1, 2] _ _ from ?_)
     refine sm rfl rfl rfl rfl rfl (sq rfl rfl rfl (q_len_vec rfl rfl sl22) (sm rfl rfl rfl rfl rfl (SOps.nil (SCode.block ?_))))
     let S118 := fun (t87_109 : Int) => fun (o4_110 : List SArc) => (⟨[(2, .c (.ptr 0 0)), (4, .c (.ptr 1 0)), (5, .c (.ptr 3 0)), (9, ci t80_47), (78, .c (vR a0_p.Caps)), (79, ci (((a0_p.Caps).length : Int))), (80, ci t80_47), (85, .c (vI (a0_p.Caps.getD t80_47.toNat ([])))), (86, ci (((a0_p.Caps.getD t80_47.toNat ([])).length : Int))), (87, ci t87_109)], [.box (bSProblem a0_p), .box [.int .i64 0, .own 2 (([] : List SArc)).length], aSArc 63 (([] : List SArc)), .box [.int .i64 (IntKind.wrap .i64 (IntKind.wrap .i64 (2 + ((a0_p.Demands).length : Int)) + IntKind.wrap .i64 (((a0_p.Caps).length : Int) * ((a0_p.Parents).length : Int)))), .own 4 o4_110.length], aSArc 63 o4_110]⟩ : St)
     refine SCode.sub (st' := (S118 0 o4_48)) (sub_gen [0, 1, 2, 3, 4] rfl rfl (zall rfl rfl) ⟨bx rfl rfl rfl, bx rfl rfl rfl, oa rfl, bx rfl rfl rfl, oa rfl, trivial⟩) ?_
     refine (SCode.loop (σ := Nat × (Int × (List SArc))) (S := fun s => (S118 s.2.1 s.2.2)) (g := fun s => chargenetref18_network_l123 F a0_p t80_47 (fun t80_47 o4_48 => chargenetref18_network_l92 F a0_p n_92 t80_47 o4_48) s.1 s.2.1 s.2.2 = some r) (μ := fun s => s.1) (F, (0, o4_48)) h ?_)
     rintro ⟨n_123, ⟨t87_109, o4_110⟩⟩ h
     try dsimp only at h
     show SCode _ _ _ (S118 t87_109 o4_110) _
     cases n_123 with
     | zero => cases h
     | succ n_123 =>
      rw [chargenetref18_network_l123] at h
      unfold chargenetref18_network_b123 at h
      refine SCode.seq ?_
      refine SCode.region (show SOps _ _ _ [0] _ _ from ?_)
      refine sq rfl rfl rfl (q_lss rfl rfl rfl) (SOps.nil (SCode.seq ?_))
      rcases cond_out h with ⟨g124, h⟩ | ⟨g124, h⟩
      ·refine SCode.cond_t rfl g124 (SCode.skip (SCode.seq (SCode.block (SCode.seq ?_))))
       obtain ⟨g125, h⟩ := guard_out h
       refine SCode.region (show SOps _ _ _ [0, 1, 2, 3, 4] _ _ from ?_)
       refine sm rfl rfl rfl rfl rfl (sq rfl rfl rfl (q_index_vec rfl rfl rfl sl22 rfl g125.1 g125.2) (sq rfl rfl rfl (q_load_eptr rfl rfl ty3) (sa rfl rfl rfl rfl rfl (sa rfl rfl rfl rfl rfl (SOps.nil (SCode.seq ?_))))))
       refine SCode.region (show SOps _ _ _ [0] _ _ from ?_)
       refine sa rfl rfl rfl rfl rfl (SOps.nil ?_)
       let S117 := fun (to_126 : Int) => (⟨[(2, .c (.ptr 0 0)), (4, .c (.ptr 1 0)), (5, .c (.ptr 3 0)), (9, ci t80_47), (11, ci t87_109), (12, ci ((a0_p.Caps.getD t80_47.toNat ([])).getD t87_109.toNat 0)), (13, ci to_126), (78, .c (vR a0_p.Caps)), (79, ci (((a0_p.Caps).length : Int))), (80, ci t80_47), (85, .c (vI (a0_p.Caps.getD t80_47.toNat ([])))), (86, ci (((a0_p.Caps.getD t80_47.toNat ([])).length : Int))), (87, ci t87_109)], [.box (bSProblem a0_p), .box [.int .i64 0, .own 2 (([] : List SArc)).length], aSArc 63 (([] : List SArc)), .box [.int .i64 (IntKind.wrap .i64 (IntKind.wrap .i64 (2 + ((a0_p.Demands).length : Int)) + IntKind.wrap .i64 (((a0_p.Caps).length : Int) * ((a0_p.Parents).length : Int)))), .own 4 o4_110.length], aSArc 63 o4_110]⟩ : St)
       refine SCode.join (σ := Int) (S := fun s => (S117 s)) (g := fun s => chargenetref18_network_p130 F a0_p t80_47 t87_109 o4_110 (fun t87_109 o4_110 => chargenetref18_network_l123 F a0_p t80_47 (fun t80_47 o4_48 => chargenetref18_network_l92 F a0_p n_92 t80_47 o4_48) n_123 t87_109 o4_110) s = some r) ?_ ?_
       rotate_left
       ·refine SCode.seq ?_
        obtain ⟨g131, h⟩ := guard_out h
        refine SCode.region (show SOps _ _ _ [0, 1, 2, 3, 4, 5] _ _ from ?_)
        refine sq rfl rfl rfl (q_field_ptr rfl rfl fd26_0) (sq rfl rfl rfl (q_load_ptr rfl rfl rfl rfl ty22) (sm rfl rfl rfl rfl rfl (sq rfl rfl rfl (q_index_vec rfl rfl rfl sl22 rfl g131.1 g131.2) (sq rfl rfl rfl (q_load_eptr rfl rfl ty3) (sq rfl rfl rfl (q_geq rfl rfl rfl) (SOps.nil ?_))))))
        rcases cond_out h with ⟨g132, h⟩ | ⟨g132, h⟩
        ·refine SCode.cond_t rfl g132 (SCode.sub (st' := ⟨[(2, .c (.ptr 0 0)), (4, .c (.ptr 1 0)), (5, .c (.ptr 3 0)), (9, ci t80_47), (11, ci t87_109), (12, ci ((a0_p.Caps.getD t80_47.toNat ([])).getD t87_109.toNat 0)), (78, .c (vR a0_p.Caps)), (79, ci (((a0_p.Caps).length : Int))), (80, ci t80_47), (85, .c (vI (a0_p.Caps.getD t80_47.toNat ([])))), (86, ci (((a0_p.Caps.getD t80_47.toNat ([])).length : Int))), (87, ci t87_109)], [.box (bSProblem a0_p), .box [.int .i64 0, .own 2 (([] : List SArc)).length], aSArc 63 (([] : List SArc)), .box [.int .i64 (IntKind.wrap .i64 (IntKind.wrap .i64 (2 + ((a0_p.Demands).length : Int)) + IntKind.wrap .i64 (((a0_p.Caps).length : Int) * ((a0_p.Parents).length : Int)))), .own 4 o4_110.length], aSArc 63 o4_110]⟩) (sub_gen [0, 1, 2, 3, 4] rfl rfl (zall rfl rfl) ⟨bx rfl rfl rfl, bx rfl rfl rfl, oa rfl, bx rfl rfl rfl, oa rfl, trivial⟩) ?_)
         obtain ⟨g133, h⟩ := guard_out h
         obtain ⟨c_134, g135, h⟩ := bind_out h
         try dsimp only at h
         refine SCode.drawK mixed [[], [], [], [2], [], [2, 3, 4], [2, 3, 4, 5], [0, 1, 2, 3, 4, 5, 6], [0, 1, 2, 3, 4, 5, 6, 7]] 9 0 rfl rfl (qr rfl rfl rfl (q_load_ptr_all rfl rfl rfl rfl rfl ty26) (qm rfl rfl rfl rfl rfl (qr rfl rfl rfl (q_field_ptr rfl rfl fd26_0) (qr rfl rfl rfl (q_load_ptr rfl rfl rfl rfl ty22) (qm rfl rfl rfl rfl rfl (qr rfl rfl rfl (q_index_vec rfl rfl rfl sl22 rfl g133.1 g133.2) (qr rfl rfl rfl (q_load_eptr rfl rfl ty3) (qr rfl rfl rfl (q_call (chargenetref18_node_ok F a0_p t80_47 (a0_p.Parents.getD t87_109.toNat 0) c_134 g135) [] rfl fn56 ⟨⟨rfl, rfl⟩, ⟨_, rfl, .inl ⟨rfl, rfl⟩⟩, ⟨_, rfl, .inl ⟨rfl, rfl⟩⟩, trivial⟩ (.inl rfl)) (qr rfl rfl rfl (q_assign rfl rfl) ?_)))))))))
         refine QK.nil ?_
         refine (show SOps _ _ _ [] _ _ from ?_)
         refine SOps.sub (st' := ⟨[(2, .c (.ptr 0 0)), (4, .c (.ptr 1 0)), (5, .c (.ptr 3 0)), (9, ci t80_47), (11, ci t87_109), (12, ci ((a0_p.Caps.getD t80_47.toNat ([])).getD t87_109.toNat 0)), (13, ci c_134), (78, .c (vR a0_p.Caps)), (79, ci (((a0_p.Caps).length : Int))), (80, ci t80_47), (85, .c (vI (a0_p.Caps.getD t80_47.toNat ([])))), (86, ci (((a0_p.Caps.getD t80_47.toNat ([])).length : Int))), (87, ci t87_109)], [.box (bSProblem a0_p), .box [.int .i64 0, .own 2 (([] : List SArc)).length], aSArc 63 (([] : List SArc)), .box [.int .i64 (IntKind.wrap .i64 (IntKind.wrap .i64 (2 + ((a0_p.Demands).length : Int)) + IntKind.wrap .i64 (((a0_p.Caps).length : Int) * ((a0_p.Parents).length : Int)))), .own 4 o4_110.length], aSArc 63 o4_110]⟩) (sub_gen [0, 1, 2, 3, 4] rfl rfl (zall rfl rfl) ⟨bx rfl rfl rfl, bx rfl rfl rfl, oa rfl, bx rfl rfl rfl, oa rfl, trivial⟩) (SOps.nil ?_)
         exact ⟨c_134, h, sub_gen [0, 1, 2, 3, 4] rfl rfl (zall rfl rfl) ⟨bx rfl rfl rfl, bx rfl rfl rfl, oa rfl, bx rfl rfl rfl, oa rfl, trivial⟩⟩
        refine SCode.cond_f rfl g132 (SCode.skip ?_)
        exact ⟨1, h, sub_gen [0, 1, 2, 3, 4] rfl rfl (zall rfl rfl) ⟨bx rfl rfl rfl, bx rfl rfl rfl, oa rfl, bx rfl rfl rfl, oa rfl, trivial⟩⟩
       rintro to_126 h
       show SCode _ _ _ (S117 to_126) _
       try dsimp only at h
       unfold chargenetref18_network_p130 at h
       obtain ⟨c_127, g128, h⟩ := bind_out h
       try dsimp only at h
       obtain ⟨g129, h⟩ := guard_out h
       refine SCode.drawK mixed [[], [0], [], [], [], [2, 3, 4], [], [], [], [8], [7, 8, 9], [7, 8, 9, 10], [2, 3, 4, 5, 6, 7, 8, 9, 10, 11], [2, 3, 4, 5, 6, 7, 8, 9, 10, 11, 12], [0, 1, 2, 3, 4, 5, 6, 7, 8, 9, 10, 11, 12, 13], [0, 1, 2, 3, 4, 5, 6, 7, 8, 9, 10, 11, 12, 13, 14], [0, 1, 2, 3, 4, 5, 6, 7, 8, 9, 10, 11, 12, 13, 14, 15]] 14 3 rfl rfl (qr rfl rfl rfl (q_field_ptr rfl rfl fd49_1) (qr rfl rfl rfl (q_load_ptr rfl rfl rfl rfl ty47) (qr rfl rfl rfl (q_load_ptr_all rfl rfl rfl rfl rfl ty26) (qm rfl rfl rfl rfl rfl (qm rfl rfl rfl rfl rfl (qr rfl rfl rfl (q_call (chargenetref18_node_ok F a0_p t80_47 t87_109 c_127 g128) [] rfl fn56 ⟨⟨rfl, rfl⟩, ⟨_, rfl, .inl ⟨rfl, rfl⟩⟩, ⟨_, rfl, .inl ⟨rfl, rfl⟩⟩, trivial⟩ (.inl rfl)) (qm rfl rfl rfl rfl rfl (qm rfl rfl rfl rfl rfl (qr rfl rfl rfl (q_field_ptr rfl rfl fd26_3) ?_)))))))))
       refine qr rfl rfl rfl (q_load_ptr rfl rfl rfl rfl ty3) (qr rfl rfl rfl (q_mul rfl rfl rfl) (qr rfl rfl rfl (q_min rfl rfl rfl) (qr rfl rfl rfl (q_build2 rfl rfl pl63 rfl) (qr rfl rfl rfl (q_bsliceL (c := cSArc) (d0 := dSArc) [SArc.mk c_127 to_126 ((if 1099511627776 < IntKind.wrap .i64 ((a0_p.Caps.getD t80_47.toNat ([])).getD t87_109.toNat 0 * a0_p.Length) then 1099511627776 else IntKind.wrap .i64 ((a0_p.Caps.getD t80_47.toNat ([])).getD t87_109.toNat 0 * a0_p.Length)))] rfl rfl sl47 z63 rfl rfl rfl rfl rfl rfl rfl) (QK.nil ?_)))))
       refine (show SOps _ _ _ [14, 15, 16] _ _ from ?_)
       refine se rfl rfl (e_appendL (c := cSArc) (d0 := dSArc) (l := o4_110) (l2 := [SArc.mk c_127 to_126 ((if 1099511627776 < IntKind.wrap .i64 ((a0_p.Caps.getD t80_47.toNat ([])).getD t87_109.toNat 0 * a0_p.Length) then 1099511627776 else IntKind.wrap .i64 ((a0_p.Caps.getD t80_47.toNat ([])).getD t87_109.toNat 0 * a0_p.Length)))]) rfl rfl rfl rfl rfl rfl (.inl rfl) sl47 z63 rfl rfl oneSArc g129.1 g129.2) (sq rfl rfl rfl (q_field_ptr rfl rfl fd49_1) (se rfl rfl (e_store_box rfl rfl rfl rfl rfl ty47 rfl rfl rfl rfl) ?_))
       let y3 := (a0_p.Caps.getD t80_47.toNat ([])).getD t87_109.toNat 0 * a0_p.Length
       refine SOps.sub (st' := ⟨[(2, .c (.ptr 0 0)), (4, .c (.ptr 1 0)), (5, .c (.ptr 3 0)), (9, ci t80_47), (78, .c (vR a0_p.Caps)), (79, ci (((a0_p.Caps).length : Int))), (80, ci t80_47), (85, .c (vI (a0_p.Caps.getD t80_47.toNat ([])))), (86, ci (((a0_p.Caps.getD t80_47.toNat ([])).length : Int))), (87, ci t87_109)], [.box (bSProblem a0_p), .box [.int .i64 0, .own 2 (([] : List SArc)).length], aSArc 63 (([] : List SArc)), .box [.int .i64 (IntKind.wrap .i64 (IntKind.wrap .i64 (2 + ((a0_p.Demands).length : Int)) + IntKind.wrap .i64 (((a0_p.Caps).length : Int) * ((a0_p.Parents).length : Int)))), .own 4 (o4_110 ++ ([SArc.mk c_127 to_126 ((if 1099511627776 < IntKind.wrap .i64 y3 then 1099511627776 else IntKind.wrap .i64 y3))])).length], aSArc 63 (o4_110 ++ ([SArc.mk c_127 to_126 ((if 1099511627776 < IntKind.wrap .i64 y3 then 1099511627776 else IntKind.wrap .i64 y3))]))]⟩) (sub_gen [0, 1, 2, 3, 5] rfl rfl (zall rfl rfl) ⟨bx rfl rfl rfl, bx rfl rfl rfl, oa rfl, bx rfl rfl rfl, oa rfl, trivial⟩) (SOps.nil ?_)
       refine SCode.region (show SOps _ _ _ [0, 1] _ _ from ?_)
       refine sq rfl rfl rfl (q_add rfl rfl rfl) (sm rfl rfl rfl rfl rfl (SOps.nil ?_))
       exact ⟨(n_123, (IntKind.wrap .i64 (t87_109 + 1), o4_110 ++ ([SArc.mk c_127 to_126 ((if 1099511627776 < IntKind.wrap .i64 ((a0_p.Caps.getD t80_47.toNat ([])).getD t87_109.toNat 0 * a0_p.Length) then 1099511627776 else IntKind.wrap .i64 ((a0_p.Caps.getD t80_47.toNat ([])).getD t87_109.toNat 0 * a0_p.Length)))]))), h, Nat.lt_succ_self n_123, sub_gen [0, 1, 2, 3, 4] rfl rfl (zall rfl rfl) ⟨bx rfl rfl rfl, bx rfl rfl rfl, oa rfl, bx rfl rfl rfl, oa rfl, trivial⟩⟩
      refine SCode.cond_f rfl g124 (SCode.exit ?_)
      exact ⟨o4_110, h, sub_gen [0, 1, 2, 3, 4] rfl rfl (zall rfl rfl) ⟨bx rfl rfl rfl, bx rfl rfl rfl, oa rfl, bx rfl rfl rfl, oa rfl, trivial⟩⟩
    rintro o4_94 h
    show SCode _ _ _ (S119 o4_94) _
    try dsimp only at h
    unfold chargenetref18_network_p95 at h
    refine SCode.region (show SOps _ _ _ [0, 1] _ _ from ?_)
    refine sq rfl rfl rfl (q_add rfl rfl rfl) (sm rfl rfl rfl rfl rfl (SOps.nil ?_))
    exact ⟨(n_92, (IntKind.wrap .i64 (t80_47 + 1), o4_94)), h, Nat.lt_succ_self n_92, sub_gen [0, 1, 2, 3, 4] rfl rfl (zall rfl rfl) ⟨bx rfl rfl rfl, bx rfl rfl rfl, oa rfl, bx rfl rfl rfl, oa rfl, trivial⟩⟩
   refine SCode.cond_f rfl g93 (SCode.exit ?_)
   exact ⟨o4_48, h, sub_gen [1, 2, 3, 4] rfl rfl (zall rfl rfl) ⟨bx rfl rfl rfl, oa rfl, bx rfl rfl rfl, oa rfl, trivial⟩⟩
 rintro o3_2 h
 show SCode _ _ _ (S121 o3_2) _
 try dsimp only at h
 unfold chargenetref18_network_p3 at h
 refine SCode.seq ?_
 refine SCode.region (show SOps _ _ _ [0, 1] _ _ from ?_)
 refine sq rfl rfl rfl (q_load_ptr_all rfl rfl rfl rfl rfl ty49) (se rfl rfl (e_store_box rfl rfl rfl rfl rfl ty49 rfl rfl rfl rfl) (SOps.nil (SCode.ret ?_)))
 obtain rfl := Option.some.inj h
 let y4 := IntKind.wrap .i64 (IntKind.wrap .i64 (2 + ((a0_p.Demands).length : Int)) + IntKind.wrap .i64 (((a0_p.Caps).length : Int) * ((a0_p.Parents).length : Int)))
 exact ⟨⟨[(4, .c (.ptr 0 0))], [.box [.int .i64 y4, vSArc ((SNet.mk y4 o3_2).Arcs)]]⟩, _, sub_gen [0] rfl rfl (zall rfl rfl) ⟨⟨_, rfl, ⟨ii rfl rfl, .inr (.inl ⟨_, _, _, _, _, _, _, rfl, rfl, rfl, Nat.le_refl _, fun _ _ _ _ => rfl, nm rfl⟩), trivial⟩⟩, trivial⟩, resA1 (v := .a [.int .i64 y4, vSArc ((SNet.mk y4 o3_2).Arcs)]) rfl ⟨_, rfl, rfl, ty49⟩, rfl⟩
theorem chargenetref18_flows_ok (F : Nat) (a0_p : SProblem) (a1_energy : List Int) (r : Int × (List Int)) (h : chargenetref18_flows F a0_p a1_energy = some r) :
  SFun Try.prog 37 [] [.a (bSProblem a0_p), .c (vI a1_energy)] (fun x _ => x = .t [.c (.int .i64 r.1), .c (vI r.2)]) := by
 refine SFun.of (n := 19) Try.func37 rfl rfl rfl ?_
 unfold chargenetref18_flows at h
 show SCode _ _ _ ⟨[(0, .a (bSProblem a0_p)), (1, .c (vI a1_energy))], []⟩ _
 refine SCode.seq ?_
 refine SCode.region (show SOps _ _ _ [0, 1, 2] _ _ from ?_)
 refine se rfl rfl (e_box rfl rfl rfl rfl rfl rfl) (sa rfl rfl rfl rfl rfl (sa rfl rfl rfl rfl rfl (SOps.nil (SCode.seq ?_))))
 obtain ⟨c_1, g2, h⟩ := bind_out h
 try dsimp only at h
 obtain ⟨c_3, g4, h⟩ := bind_out h
 try dsimp only at h
 refine SCode.region (show SOps _ _ _ [0, 1, 2, 3, 4, 5, 6, 7, 8, 9, 10] _ _ from ?_)
 refine sq rfl rfl rfl (q_load_ptr_all rfl rfl rfl rfl rfl ty26) (sm rfl rfl rfl rfl rfl (sq rfl rfl rfl (q_call (chargenetref18_network_ok F a0_p a1_energy c_1 g2) [] rfl fn46 ⟨⟨rfl, rfl⟩, ⟨_, rfl, .inl ⟨rfl, rfl⟩⟩, trivial⟩ (.inl rfl)) (sq rfl rfl rfl (q_call (chargenetref09_Max_ok F (SNet.mk c_1.Nodes c_1.Arcs) 0 1 c_3 g4) [] rfl fn45 ⟨⟨rfl, rfl⟩, ⟨_, rfl, .inl ⟨rfl, rfl⟩⟩, ⟨_, rfl, .inl ⟨rfl, rfl⟩⟩, trivial⟩ (.inl rfl)) (sm rfl rfl rfl rfl rfl (sq rfl rfl rfl (q_extract rfl rfl rfl) (sq rfl rfl rfl (q_extract rfl rfl rfl) (sq rfl rfl rfl (q_extract rfl rfl rfl) (sa rfl rfl rfl rfl rfl (sa rfl rfl rfl rfl rfl ?_)))))))))
 refine sa rfl rfl rfl rfl rfl (SOps.nil (SCode.seq ?_))
 refine SCode.region (show SOps _ _ _ [0, 1, 2, 3] _ _ from ?_)
 refine sm rfl rfl rfl rfl rfl (sm rfl rfl rfl rfl rfl (sa rfl rfl rfl rfl rfl (sa rfl rfl rfl rfl rfl (SOps.sub (st' := ⟨[(4, ci c_3.1), (5, .c (vI c_3.2.1))], []⟩) (sub_gen [] rfl rfl (zall rfl rfl) trivial) (SOps.nil (SCode.ret ?_))))))
 obtain rfl := Option.some.inj h
 exact ⟨⟨[(4, ci c_3.1), (5, .c (vI c_3.2.1))], []⟩, _, sub_gen [] rfl rfl (zall rfl rfl) trivial, resA2 (v1 := .c (.int .i64 c_3.1)) (v2 := .c (vI c_3.2.1)) rfl rfl rfl, rfl⟩
theorem chargenetref18_fits_ok (F : Nat) (a0_p : SProblem) (a1_energy : List Int) (r : Bool) (h : chargenetref18_fits F a0_p a1_energy = some r) :
  SFun Try.prog 29 [] [.a (bSProblem a0_p), .c (vI a1_energy)] (fun x _ => x = .c (.bool r)) := by
 refine SFun.of (n := 29) Try.func29 rfl rfl rfl ?_
 unfold chargenetref18_fits at h
 show SCode _ _ _ ⟨[(0, .a (bSProblem a0_p)), (1, .c (vI a1_energy))], []⟩ _
 refine SCode.seq ?_
 refine SCode.region (show SOps _ _ _ [0, 1] _ _ from ?_)
 refine se rfl rfl (e_box rfl rfl rfl rfl rfl rfl) (sa rfl rfl rfl rfl rfl (SOps.nil (SCode.seq ?_)))
 refine SCode.region (show SOps _ _ _ [0] _ _ from ?_)
 refine sa rfl rfl rfl rfl rfl (SOps.nil ?_)
 let S3 := fun (want_1 : Int) => (⟨[(1, .c (vI a1_energy)), (2, .c (.ptr 0 0)), (5, ci want_1)], [.box (bSProblem a0_p)]⟩ : St)
 refine SCode.join (σ := Int) (S := fun s => (S3 s)) (g := fun s => chargenetref18_fits_p4 F a0_p a1_energy s = some r) ?_ ?_
 rotate_left
 ·refine SCode.seq ?_
  refine SCode.region (show SOps _ _ _ [0, 1, 2] _ _ from ?_)
  refine sm rfl rfl rfl rfl rfl (sq rfl rfl rfl (q_len_vec rfl rfl sl22) (sm rfl rfl rfl rfl rfl (SOps.nil (SCode.block ?_))))
  let S2 := fun (want_7 : Int) => fun (t12_8 : Int) => (⟨[(1, .c (vI a1_energy)), (2, .c (.ptr 0 0)), (5, ci want_7), (10, .c (vI a1_energy)), (11, ci (((a1_energy).length : Int))), (12, ci t12_8)], [.box (bSProblem a0_p)]⟩ : St)
  refine SCode.sub (st' := (S2 0 0)) (sub_gen [0] rfl rfl (zall rfl rfl) ⟨bx rfl rfl rfl, trivial⟩) ?_
  refine (SCode.loop (σ := Nat × (Int × Int)) (S := fun s => (S2 s.2.1 s.2.2)) (g := fun s => chargenetref18_fits_l11 F a0_p a1_energy s.1 s.2.1 s.2.2 = some r) (μ := fun s => s.1) (F, (0, 0)) h ?_)
  rintro ⟨n_11, ⟨want_7, t12_8⟩⟩ h
  try dsimp only at h
  show SCode _ _ _ (S2 want_7 t12_8) _
  cases n_11 with
  | zero => cases h
  | succ n_11 =>
   rw [chargenetref18_fits_l11] at h
   unfold chargenetref18_fits_b11 at h
   refine SCode.seq ?_
   refine SCode.region (show SOps _ _ _ [0] _ _ from ?_)
   refine sq rfl rfl rfl (q_lss rfl rfl rfl) (SOps.nil (SCode.seq ?_))
   rcases cond_out h with ⟨g12, h⟩ | ⟨g12, h⟩
   ·refine SCode.cond_t rfl g12 (SCode.skip (SCode.seq (SCode.block (SCode.seq ?_))))
    obtain ⟨g13, h⟩ := guard_out h
    refine SCode.region (show SOps _ _ _ [0, 1, 2] _ _ from ?_)
    refine sq rfl rfl rfl (q_index_vec rfl rfl rfl sl22 rfl g13.1 g13.2) (sq rfl rfl rfl (q_load_eptr rfl rfl ty3) (sa rfl rfl rfl rfl rfl (SOps.nil ?_)))
    refine SCode.region (show SOps _ _ _ [0, 1, 2, 3] _ _ from ?_)
    refine sm rfl rfl rfl rfl rfl (sm rfl rfl rfl rfl rfl (sq rfl rfl rfl (q_add rfl rfl rfl) (sa rfl rfl rfl rfl rfl (SOps.nil ?_))))
    refine SCode.region (show SOps _ _ _ [0, 1] _ _ from ?_)
    refine sq rfl rfl rfl (q_add rfl rfl rfl) (sm rfl rfl rfl rfl rfl (SOps.nil ?_))
    exact ⟨(n_11, (IntKind.wrap .i64 (want_7 + a1_energy.getD t12_8.toNat 0), IntKind.wrap .i64 (t12_8 + 1))), h, Nat.lt_succ_self n_11, sub_gen [0] rfl rfl (zall rfl rfl) ⟨bx rfl rfl rfl, trivial⟩⟩
   refine SCode.cond_f rfl g12 (SCode.exit ?_)
   exact ⟨want_7, h, sub_gen [0] rfl rfl (zall rfl rfl) ⟨bx rfl rfl rfl, trivial⟩⟩
 rintro want_1 h
 show SCode _ _ _ (S3 want_1) _
 try dsimp only at h
 unfold chargenetref18_fits_p4 at h
 refine SCode.seq ?_
 obtain ⟨c_2, g3, h⟩ := bind_out h
 try dsimp only at h
 refine SCode.region (show SOps _ _ _ [0, 1, 2, 3, 4, 5, 6, 7] _ _ from ?_)
 refine sq rfl rfl rfl (q_load_ptr_all rfl rfl rfl rfl rfl ty26) (sm rfl rfl rfl rfl rfl (sq rfl rfl rfl (q_call (chargenetref18_flows_ok F a0_p a1_energy c_2 g3) [] rfl fn37 ⟨⟨rfl, rfl⟩, ⟨_, rfl, .inl ⟨rfl, rfl⟩⟩, trivial⟩ (.inl rfl)) (sm rfl rfl rfl rfl rfl (sq rfl rfl rfl (q_extract rfl rfl rfl) (sq rfl rfl rfl (q_extract rfl rfl rfl) (sa rfl rfl rfl rfl rfl (sa rfl rfl rfl rfl rfl (SOps.nil (SCode.seq ?_)))))))))
 refine SCode.region (show SOps _ _ _ [0, 1, 2, 3] _ _ from ?_)
 refine sm rfl rfl rfl rfl rfl (sm rfl rfl rfl rfl rfl (sq rfl rfl rfl (q_eql rfl rfl rfl) (sa rfl rfl rfl rfl rfl (SOps.nil (SCode.ret ?_)))))
 obtain rfl := Option.some.inj h
 exact ⟨⟨[(4, .c (.bool (decide (c_2.1 = want_1))))], []⟩, _, sub_gen [] rfl rfl (zall rfl rfl) trivial, resA1 (v := .c (.bool (decide (c_2.1 = want_1)))) rfl rfl, rfl⟩
theorem chargenetref18_some_ok (F : Nat) (a0_active : List Bool) (r : Bool) (h : chargenetref18_some F a0_active = some r) :
  SFun Try.prog 32 [] [.c (.vec a0_active.length 1 (gL cBool false a0_active))] (fun x _ => x = .c (.bool r)) := by
 refine SFun.of (n := 13) Try.func32 rfl rfl rfl ?_
 unfold chargenetref18_some at h
 show SCode _ _ _ ⟨[(0, .c (.vec a0_active.length 1 (gL cBool false a0_active)))], []⟩ _
 refine SCode.seq ?_
 refine SCode.region (show SOps _ _ _ [0] _ _ from ?_)
 refine sa rfl rfl rfl rfl rfl (SOps.nil ?_)
 let S3 := (⟨[], []⟩ : St)
 refine SCode.join (σ := Unit) (S := fun s => S3) (g := fun s => chargenetref18_some_p1 = some r) ?_ ?_
 rotate_left
 ·refine SCode.seq ?_
  refine SCode.region (show SOps _ _ _ [0, 1, 2] _ _ from ?_)
  refine sm rfl rfl rfl rfl rfl (sq rfl rfl rfl (q_len_vec rfl rfl sl53) (sm rfl rfl rfl rfl rfl (SOps.nil (SCode.block ?_))))
  let S2 := fun (t7_5 : Int) => (⟨[(5, .c (.vec a0_active.length 1 (gL cBool false a0_active))), (6, ci (((a0_active).length : Int))), (7, ci t7_5)], []⟩ : St)
  refine SCode.sub (st' := (S2 0)) (sub_gen [] rfl rfl (zall rfl rfl) trivial) ?_
  refine (SCode.loop (σ := Nat × Int) (S := fun s => (S2 s.2)) (g := fun s => chargenetref18_some_l9 a0_active s.1 s.2 = some r) (μ := fun s => s.1) (F, 0) h ?_)
  rintro ⟨n_9, t7_5⟩ h
  try dsimp only at h
  show SCode _ _ _ (S2 t7_5) _
  cases n_9 with
  | zero => cases h
  | succ n_9 =>
   rw [chargenetref18_some_l9] at h
   unfold chargenetref18_some_b9 at h
   refine SCode.seq ?_
   refine SCode.region (show SOps _ _ _ [0] _ _ from ?_)
   refine sq rfl rfl rfl (q_lss rfl rfl rfl) (SOps.nil (SCode.seq ?_))
   rcases cond_out h with ⟨g10, h⟩ | ⟨g10, h⟩
   ·refine SCode.cond_t rfl g10 (SCode.skip (SCode.seq (SCode.block (SCode.seq ?_))))
    obtain ⟨g11, h⟩ := guard_out h
    refine SCode.region (show SOps _ _ _ [0, 1, 2] _ _ from ?_)
    refine sq rfl rfl rfl (q_index_vec rfl rfl rfl sl53 rfl g11.1 g11.2) (sq rfl rfl rfl (q_load_eptr rfl rfl ty4) (sa rfl rfl rfl rfl rfl (SOps.nil (SCode.seq ?_))))
    refine SCode.region (show SOps _ _ _ [0] _ _ from ?_)
    refine sm rfl rfl rfl rfl rfl (SOps.nil ?_)
    rcases cond_out h with ⟨g12, h⟩ | ⟨g12, h⟩
    ·refine SCode.cond_t rfl g12 (SCode.seq ?_)
     refine SCode.region (show SOps _ _ _ [0] _ _ from ?_)
     refine sa rfl rfl rfl rfl rfl (SOps.nil (SCode.ret ?_))
     obtain rfl := Option.some.inj h
     exact ⟨⟨[(2, .c (.bool true))], []⟩, _, sub_gen [] rfl rfl (zall rfl rfl) trivial, resA1 (v := .c (.bool true)) rfl rfl, rfl⟩
    refine SCode.cond_f rfl g12 (SCode.skip ?_)
    refine SCode.region (show SOps _ _ _ [0, 1] _ _ from ?_)
    refine sq rfl rfl rfl (q_add rfl rfl rfl) (sm rfl rfl rfl rfl rfl (SOps.nil ?_))
    exact ⟨(n_9, IntKind.wrap .i64 (t7_5 + 1)), h, Nat.lt_succ_self n_9, sub_gen [] rfl rfl (zall rfl rfl) trivial⟩
   refine SCode.cond_f rfl g10 (SCode.exit ?_)
   exact ⟨(), h, sub_gen [] rfl rfl trivial trivial⟩
 rintro ⟨⟩ h
 show SCode _ _ _ S3 _
 try dsimp only at h
 unfold chargenetref18_some_p1 at h
 refine SCode.seq ?_
 refine SCode.region (show SOps _ _ _ [0] _ _ from ?_)
 refine sa rfl rfl rfl rfl rfl (SOps.nil (SCode.ret ?_))
 obtain rfl := Option.some.inj h
 exact ⟨⟨[(2, .c (.bool false))], []⟩, _, sub_gen [] rfl rfl (zall rfl rfl) trivial, resA1 (v := .c (.bool false)) rfl rfl, rfl⟩
theorem chargenetref18_raise_ok (F : Nat) (a0_p : SProblem) (a1_x : List Int) (a2_active : List Bool) (a3_by : Int) (r : List Int) (h : chargenetref18_raise F a0_p a1_x a2_active a3_by = some r) :
  SFun Try.prog 33 [] [.a (bSProblem a0_p), .c (vI a1_x), .c (.vec a2_active.length 1 (gL cBool false a2_active)), ci a3_by] (fun x _ => x = .c (vI r)) := by
 refine SFun.of (n := 39) Try.func33 rfl rfl rfl ?_
 unfold chargenetref18_raise at h
 show SCode _ _ _ ⟨[(0, .a (bSProblem a0_p)), (1, .c (vI a1_x)), (2, .c (.vec a2_active.length 1 (gL cBool false a2_active))), (3, ci a3_by)], []⟩ _
 refine SCode.seq ?_
 refine SCode.region (show SOps _ _ _ [0, 1] _ _ from ?_)
 refine se rfl rfl (e_box rfl rfl rfl rfl rfl rfl) (sa rfl rfl rfl rfl rfl (SOps.nil (SCode.seq ?_)))
 refine SCode.region (show SOps _ _ _ [0] _ _ from ?_)
 refine sa rfl rfl rfl rfl rfl (SOps.nilArrL (T := 3) (k := 1) (cInt .i64) 0 (s := 9) rfl rfl (SOps.nil ?_))
 let S15 := fun (o0_1 : List Int) => (⟨[(9, .c (.own 0 o0_1.length))], [aI 3 o0_1]⟩ : St)
 refine SCode.join (σ := (List Int)) (S := fun s => (S15 s)) (g := fun s => chargenetref18_raise_p2 s = some r) ?_ ?_
 rotate_left
 ·refine SCode.seq ?_
  refine SCode.region (show SOps _ _ _ [0, 1, 2] _ _ from ?_)
  refine sm rfl rfl rfl rfl rfl (sq rfl rfl rfl (q_len_vec rfl rfl sl22) (sm rfl rfl rfl rfl rfl (SOps.nil (SCode.block ?_))))
  let S14 := fun (t14_11 : Int) => fun (o1_12 : List Int) => (⟨[(2, .c (.vec a2_active.length 1 (gL cBool false a2_active))), (3, ci a3_by), (4, .c (.ptr 0 0)), (9, .c (.own 1 o1_12.length)), (12, .c (vI a1_x)), (13, ci (((a1_x).length : Int))), (14, ci t14_11)], [.box (bSProblem a0_p), aI 3 o1_12]⟩ : St)
  refine SCode.sub (st' := (S14 0 (([] : List Int)))) (sub_gen [0, 1] rfl rfl (zall rfl rfl) ⟨bx rfl rfl rfl, oa rfl, trivial⟩) ?_
  refine (SCode.loop (σ := Nat × (Int × (List Int))) (S := fun s => (S14 s.2.1 s.2.2)) (g := fun s => chargenetref18_raise_l21 a0_p a1_x a2_active a3_by s.1 s.2.1 s.2.2 = some r) (μ := fun s => s.1) (F, (0, ([] : List Int))) h ?_)
  rintro ⟨n_21, ⟨t14_11, o1_12⟩⟩ h
  try dsimp only at h
  show SCode _ _ _ (S14 t14_11 o1_12) _
  cases n_21 with
  | zero => cases h
  | succ n_21 =>
   rw [chargenetref18_raise_l21] at h
   unfold chargenetref18_raise_b21 at h
   refine SCode.seq ?_
   refine SCode.region (show SOps _ _ _ [0] _ _ from ?_)
   refine sq rfl rfl rfl (q_lss rfl rfl rfl) (SOps.nil (SCode.seq ?_))
   rcases cond_out h with ⟨g22, h⟩ | ⟨g22, h⟩
   ·refine SCode.cond_t rfl g22 (SCode.skip (SCode.seq (SCode.block (SCode.seq ?_))))
    obtain ⟨g23, h⟩ := guard_out h
    refine SCode.region (show SOps _ _ _ [0, 1, 2, 3, 4] _ _ from ?_)
    refine sm rfl rfl rfl rfl rfl (sq rfl rfl rfl (q_index_vec rfl rfl rfl sl22 rfl g23.1 g23.2) (sq rfl rfl rfl (q_load_eptr rfl rfl ty3) (sa rfl rfl rfl rfl rfl (sa rfl rfl rfl rfl rfl (SOps.nil ?_)))))
    let S13 := fun (n_24 : Int) => (⟨[(2, .c (.vec a2_active.length 1 (gL cBool false a2_active))), (3, ci a3_by), (4, .c (.ptr 0 0)), (9, .c (.own 1 o1_12.length)), (11, ci n_24), (12, .c (vI a1_x)), (13, ci (((a1_x).length : Int))), (14, ci t14_11)], [.box (bSProblem a0_p), aI 3 o1_12]⟩ : St)
    refine SCode.join (σ := Int) (S := fun s => (S13 s)) (g := fun s => chargenetref18_raise_p26 t14_11 o1_12 (fun t14_11 o1_12 => chargenetref18_raise_l21 a0_p a1_x a2_active a3_by n_21 t14_11 o1_12) s = some r) ?_ ?_
    rotate_left
    ·refine SCode.seq ?_
     obtain ⟨g27, h⟩ := guard_out h
     refine SCode.region (show SOps _ _ _ [0, 1, 2, 3] _ _ from ?_)
     refine sm rfl rfl rfl rfl rfl (sm rfl rfl rfl rfl rfl (sq rfl rfl rfl (q_index_vec rfl rfl rfl sl53 rfl g27.1 g27.2) (sq rfl rfl rfl (q_load_eptr rfl rfl ty4) (SOps.nil ?_))))
     rcases cond_out h with ⟨g28, h⟩ | ⟨g28, h⟩
     ·refine SCode.cond_t rfl g28 ?_
      obtain ⟨g29, h⟩ := guard_out h
      refine SCode.region (show SOps _ _ _ [0, 1, 2, 3, 4, 5, 6, 7, 8, 9, 10] _ _ from ?_)
      refine sm rfl rfl rfl rfl rfl (sm rfl rfl rfl rfl rfl (sq rfl rfl rfl (q_add rfl rfl rfl) (sq rfl rfl rfl (q_field_ptr rfl rfl fd26_4) (sq rfl rfl rfl (q_load_ptr rfl rfl rfl rfl ty24) (sm rfl rfl rfl rfl rfl (sq rfl rfl rfl (q_index_vec rfl rfl rfl sl24 rfl g29.1 g29.2) (sq rfl rfl rfl (q_field_eptr rfl rfl fd39_2 rfl) (sq rfl rfl rfl (q_load_eptr rfl rfl ty3) (sq rfl rfl rfl (q_min rfl rfl rfl) ?_)))))))))
      refine sa rfl rfl rfl rfl rfl (SOps.sub (st' := ⟨[(2, .c (.vec a2_active.length 1 (gL cBool false a2_active))), (3, ci a3_by), (4, .c (.ptr 0 0)), (9, .c (.own 1 o1_12.length)), (11, ci ((if (a0_p.Demands.getD t14_11.toNat dSDemand).Energy < IntKind.wrap .i64 (a1_x.getD t14_11.toNat 0 + a3_by) then (a0_p.Demands.getD t14_11.toNat dSDemand).Energy else IntKind.wrap .i64 (a1_x.getD t14_11.toNat 0 + a3_by)))), (12, .c (vI a1_x)), (13, ci (((a1_x).length : Int))), (14, ci t14_11)], [.box (bSProblem a0_p), aI 3 o1_12]⟩) (sub_gen [0, 1] rfl rfl (zall rfl rfl) ⟨bx rfl rfl rfl, oa rfl, trivial⟩) (SOps.nil ?_))
      exact ⟨(if (a0_p.Demands.getD t14_11.toNat dSDemand).Energy < IntKind.wrap .i64 (a1_x.getD t14_11.toNat 0 + a3_by) then (a0_p.Demands.getD t14_11.toNat dSDemand).Energy else IntKind.wrap .i64 (a1_x.getD t14_11.toNat 0 + a3_by)), h, sub_gen [0, 1] rfl rfl (zall rfl rfl) ⟨bx rfl rfl rfl, oa rfl, trivial⟩⟩
     refine SCode.cond_f rfl g28 (SCode.skip ?_)
     exact ⟨a1_x.getD t14_11.toNat 0, h, sub_gen [0, 1] rfl rfl (zall rfl rfl) ⟨bx rfl rfl rfl, oa rfl, trivial⟩⟩
    rintro n_24 h
    show SCode _ _ _ (S13 n_24) _
    try dsimp only at h
    unfold chargenetref18_raise_p26 at h
    obtain ⟨g25, h⟩ := guard_out h
    refine SCode.region (show SOps _ _ _ [0, 1, 2, 3, 4] _ _ from ?_)
    refine sm rfl rfl rfl rfl rfl (sm rfl rfl rfl rfl rfl (sq rfl rfl rfl (q_bsliceL (c := (cInt .i64)) (d0 := 0) [n_24] rfl rfl sl22 z3 rfl rfl rfl rfl rfl rfl rfl) (se rfl rfl (e_appendL (c := (cInt .i64)) (d0 := 0) (l := o1_12) (l2 := [n_24]) rfl rfl rfl rfl rfl rfl (.inl rfl) sl22 z3 rfl rfl oneInt g25.1 g25.2) (sa rfl rfl rfl rfl rfl (SOps.sub (st' := ⟨[(2, .c (.vec a2_active.length 1 (gL cBool false a2_active))), (3, ci a3_by), (4, .c (.ptr 0 0)), (9, .c (.own 1 (o1_12 ++ ([n_24])).length)), (12, .c (vI a1_x)), (13, ci (((a1_x).length : Int))), (14, ci t14_11)], [.box (bSProblem a0_p), aI 3 (o1_12 ++ ([n_24]))]⟩) (sub_gen [0, 2] rfl rfl (zall rfl rfl) ⟨bx rfl rfl rfl, oa rfl, trivial⟩) (SOps.nil ?_))))))
    refine SCode.region (show SOps _ _ _ [0, 1] _ _ from ?_)
    refine sq rfl rfl rfl (q_add rfl rfl rfl) (sm rfl rfl rfl rfl rfl (SOps.nil ?_))
    exact ⟨(n_21, (IntKind.wrap .i64 (t14_11 + 1), o1_12 ++ ([n_24]))), h, Nat.lt_succ_self n_21, sub_gen [0, 1] rfl rfl (zall rfl rfl) ⟨bx rfl rfl rfl, oa rfl, trivial⟩⟩
   refine SCode.cond_f rfl g22 (SCode.exit ?_)
   exact ⟨o1_12, h, sub_gen [1] rfl rfl (zall rfl rfl) ⟨oa rfl, trivial⟩⟩
 rintro o0_1 h
 show SCode _ _ _ (S15 o0_1) _
 try dsimp only at h
 unfold chargenetref18_raise_p2 at h
 refine SCode.seq ?_
 refine SCode.region (show SOps _ _ _ [0, 1] _ _ from ?_)
 refine sm rfl rfl rfl rfl rfl (sa rfl rfl rfl rfl rfl (SOps.nil (SCode.ret ?_)))
 obtain rfl := Option.some.inj h
 exact ⟨⟨[(8, .c (vI o0_1))], []⟩, _, sub_gen [] rfl rfl ⟨⟨_, rfl, .inr (.inl ⟨_, _, _, _, _, _, _, rfl, rfl, rfl, Nat.le_refl _, fun _ _ _ _ => rfl, nm rfl⟩)⟩, trivial⟩ trivial, resA1 (v := .c (vI o0_1)) rfl rfl, rfl⟩
theorem chargenetref18_step_ok (F : Nat) (a0_p : SProblem) (a1_x : List Int) (a2_active : List Bool) (r : Int) (h : chargenetref18_step F a0_p a1_x a2_active = some r) :
  SFun Try.prog 34 [] [.a (bSProblem a0_p), .c (vI a1_x), .c (.vec a2_active.length 1 (gL cBool false a2_active))] (fun x _ => x = ci r) := by
 refine SFun.of (n := 29) Try.func34 rfl rfl rfl ?_
 unfold chargenetref18_step at h
 show SCode _ _ _ ⟨[(0, .a (bSProblem a0_p)), (1, .c (vI a1_x)), (2, .c (.vec a2_active.length 1 (gL cBool false a2_active)))], []⟩ _
 refine SCode.seq ?_
 refine SCode.region (show SOps _ _ _ [0, 1] _ _ from ?_)
 refine se rfl rfl (e_box rfl rfl rfl rfl rfl rfl) (sa rfl rfl rfl rfl rfl (SOps.nil (SCode.seq ?_)))
 refine SCode.region (show SOps _ _ _ [0, 1] _ _ from ?_)
 refine sa rfl rfl rfl rfl rfl (sa rfl rfl rfl rfl rfl (SOps.nil ?_))
 let S3 := fun (lo_1 : Int) => (⟨[(7, ci lo_1)], []⟩ : St)
 refine SCode.join (σ := Int) (S := fun s => (S3 s)) (g := fun s => chargenetref18_step_p2 s = some r) ?_ ?_
 rotate_left
 ·refine SCode.block ?_
  let S2 := fun (lo_10 : Int) => fun (hi_11 : Int) => (⟨[(1, .c (vI a1_x)), (2, .c (.vec a2_active.length 1 (gL cBool false a2_active))), (3, .c (.ptr 0 0)), (7, ci lo_10), (8, ci hi_11)], [.box (bSProblem a0_p)]⟩ : St)
  refine SCode.sub (st' := (S2 0 1099511627776)) (sub_gen [0] rfl rfl (zall rfl rfl) ⟨bx rfl rfl rfl, trivial⟩) ?_
  refine (SCode.loop (σ := Nat × (Int × Int)) (S := fun s => (S2 s.2.1 s.2.2)) (g := fun s => chargenetref18_step_l18 F a0_p a1_x a2_active s.1 s.2.1 s.2.2 = some r) (μ := fun s => s.1) (F, (0, 1099511627776)) h ?_)
  rintro ⟨n_18, ⟨lo_10, hi_11⟩⟩ h
  try dsimp only at h
  show SCode _ _ _ (S2 lo_10 hi_11) _
  cases n_18 with
  | zero => cases h
  | succ n_18 =>
   rw [chargenetref18_step_l18] at h
   unfold chargenetref18_step_b18 at h
   refine SCode.seq (SCode.seq ?_)
   refine SCode.region (show SOps _ _ _ [0, 1, 2] _ _ from ?_)
   refine sm rfl rfl rfl rfl rfl (sm rfl rfl rfl rfl rfl (sq rfl rfl rfl (q_lss rfl rfl rfl) (SOps.nil ?_)))
   rcases cond_out h with ⟨g19, h⟩ | ⟨g19, h⟩
   ·refine SCode.cond_t rfl g19 (SCode.skip (SCode.block (SCode.seq ?_)))
    refine SCode.region (show SOps _ _ _ [0, 1, 2, 3, 4, 5] _ _ from ?_)
    refine sm rfl rfl rfl rfl rfl (sm rfl rfl rfl rfl rfl (sq rfl rfl rfl (q_add rfl rfl rfl) (sq rfl rfl rfl (q_add rfl rfl rfl) (sq rfl rfl rfl (q_quo rfl rfl rfl (by decide)) (sa rfl rfl rfl rfl rfl (SOps.nil (SCode.seq (SCode.sub (st' := ⟨[(1, .c (vI a1_x)), (2, .c (.vec a2_active.length 1 (gL cBool false a2_active))), (3, .c (.ptr 0 0)), (7, ci lo_10), (8, ci hi_11), (9, ci (IntKind.wrap .i64 (Int.tdiv (IntKind.wrap .i64 (IntKind.wrap .i64 (lo_10 + hi_11) + 1)) 2)))], [.box (bSProblem a0_p)]⟩) (sub_gen [0] rfl rfl (zall rfl rfl) ⟨bx rfl rfl rfl, trivial⟩) ?_))))))))
    obtain ⟨c_20, g21, h⟩ := bind_out h
    try dsimp only at h
    obtain ⟨c_22, g23, h⟩ := bind_out h
    try dsimp only at h
    refine SCode.drawK mixed [[], [], [], [], [], [1, 2, 3, 4], [0, 1, 2, 3, 4, 5]] 7 0 rfl rfl (qr rfl rfl rfl (q_load_ptr_all rfl rfl rfl rfl rfl ty26) (qr rfl rfl rfl (q_load_ptr_all rfl rfl rfl rfl rfl ty26) (qm rfl rfl rfl rfl rfl (qm rfl rfl rfl rfl rfl (qm rfl rfl rfl rfl rfl (qr rfl rfl rfl (q_call (chargenetref18_raise_ok F a0_p a1_x a2_active (IntKind.wrap .i64 (Int.tdiv (IntKind.wrap .i64 (IntKind.wrap .i64 (lo_10 + hi_11) + 1)) 2)) c_20 g21) [] rfl fn33 ⟨⟨rfl, rfl⟩, ⟨_, rfl, .inl ⟨rfl, rfl⟩⟩, ⟨_, rfl, .inl ⟨rfl, rfl⟩⟩, ⟨_, rfl, .inl ⟨rfl, rfl⟩⟩, trivial⟩ (.inl rfl)) (qr rfl rfl rfl (q_call (chargenetref18_fits_ok F a0_p c_20 c_22 g23) [] rfl fn29 ⟨⟨rfl, rfl⟩, ⟨_, rfl, .inl ⟨rfl, rfl⟩⟩, trivial⟩ (.inl rfl)) (QK.nil ?_))))))))
    refine (show SOps _ _ _ [] _ _ from ?_)
    refine SOps.sub (st' := ⟨[(1, .c (vI a1_x)), (2, .c (.vec a2_active.length 1 (gL cBool false a2_active))), (3, .c (.ptr 0 0)), (7, ci lo_10), (8, ci hi_11), (9, ci (IntKind.wrap .i64 (Int.tdiv (IntKind.wrap .i64 (IntKind.wrap .i64 (lo_10 + hi_11) + 1)) 2))), (24, .c (.bool c_22))], [.box (bSProblem a0_p)]⟩) (sub_gen [0] rfl rfl (zall rfl rfl) ⟨bx rfl rfl rfl, trivial⟩) (SOps.nil ?_)
    rcases cond_out h with ⟨g24, h⟩ | ⟨g24, h⟩
    ·refine SCode.cond_t rfl g24 ?_
     refine SCode.region (show SOps _ _ _ [0, 1] _ _ from ?_)
     refine sm rfl rfl rfl rfl rfl (sa rfl rfl rfl rfl rfl (SOps.nil ?_))
     exact ⟨(n_18, (IntKind.wrap .i64 (Int.tdiv (IntKind.wrap .i64 (IntKind.wrap .i64 (lo_10 + hi_11) + 1)) 2), hi_11)), h, Nat.lt_succ_self n_18, sub_gen [0] rfl rfl (zall rfl rfl) ⟨bx rfl rfl rfl, trivial⟩⟩
    refine SCode.cond_f rfl g24 ?_
    refine SCode.region (show SOps _ _ _ [0, 1, 2] _ _ from ?_)
    refine sm rfl rfl rfl rfl rfl (sq rfl rfl rfl (q_sub rfl rfl rfl) (sa rfl rfl rfl rfl rfl (SOps.nil ?_)))
    exact ⟨(n_18, (lo_10, IntKind.wrap .i64 (IntKind.wrap .i64 (Int.tdiv (IntKind.wrap .i64 (IntKind.wrap .i64 (lo_10 + hi_11) + 1)) 2) - 1))), h, Nat.lt_succ_self n_18, sub_gen [0] rfl rfl (zall rfl rfl) ⟨bx rfl rfl rfl, trivial⟩⟩
   refine SCode.cond_f rfl g19 (SCode.exit ?_)
   exact ⟨lo_10, h, sub_gen [] rfl rfl (zall rfl rfl) trivial⟩
 rintro lo_1 h
 show SCode _ _ _ (S3 lo_1) _
 try dsimp only at h
 unfold chargenetref18_step_p2 at h
 refine SCode.seq ?_
 refine SCode.region (show SOps _ _ _ [0, 1] _ _ from ?_)
 refine sm rfl rfl rfl rfl rfl (sa rfl rfl rfl rfl rfl (SOps.nil (SCode.ret ?_)))
 obtain rfl := Option.some.inj h
 exact ⟨⟨[(6, ci lo_1)], []⟩, _, sub_gen [] rfl rfl (zall rfl rfl) trivial, resA1 (v := .c (.int .i64 lo_1)) rfl rfl, rfl⟩
theorem chargenetref18_raise_own_ok (F : Nat) (a0_p : SProblem) (a1_x : List Int) (a2_active : List Bool) (a3_by : Int) (r : List Int) (h : chargenetref18_raise_own F a0_p a1_x a2_active a3_by = some r) :
  SFun Try.prog 33 [] [.a (bSProblem a0_p), .c (vI a1_x), .c (.vec a2_active.length 1 (gL cBool false a2_active)), ci a3_by] (fun x os => x = .c (.own 0 r.length) ∧ os = [aI 3 r]) := by
 refine SFun.of (n := 39) Try.func33 rfl rfl rfl ?_
 unfold chargenetref18_raise_own at h
 show SCode _ _ _ ⟨[(0, .a (bSProblem a0_p)), (1, .c (vI a1_x)), (2, .c (.vec a2_active.length 1 (gL cBool false a2_active))), (3, ci a3_by)], []⟩ _
 refine SCode.seq ?_
 refine SCode.region (show SOps _ _ _ [0, 1] _ _ from ?_)
 refine se rfl rfl (e_box rfl rfl rfl rfl rfl rfl) (sa rfl rfl rfl rfl rfl (SOps.nilArrL (T := 3) (k := 1) (cInt .i64) 0 (s := 8) rfl rfl (SOps.nil (SCode.seq ?_))))
 refine SCode.region (show SOps _ _ _ [0] _ _ from ?_)
 refine sa rfl rfl rfl rfl rfl (SOps.nilArrL (T := 3) (k := 1) (cInt .i64) 0 (s := 9) rfl rfl (SOps.nil ?_))
 let S15 := fun (o0_1 : List Int) => (⟨[(9, .c (.own 0 o0_1.length))], [aI 3 o0_1]⟩ : St)
 refine SCode.join (σ := (List Int)) (S := fun s => (S15 s)) (g := fun s => chargenetref18_raise_own_p2 s = some r) ?_ ?_
 rotate_left
 ·refine SCode.seq ?_
  refine SCode.region (show SOps _ _ _ [0, 1, 2] _ _ from ?_)
  refine sm rfl rfl rfl rfl rfl (sq rfl rfl rfl (q_len_vec rfl rfl sl22) (sm rfl rfl rfl rfl rfl (SOps.nil (SCode.block ?_))))
  let S14 := fun (t14_11 : Int) => fun (o1_12 : List Int) => (⟨[(2, .c (.vec a2_active.length 1 (gL cBool false a2_active))), (3, ci a3_by), (4, .c (.ptr 0 0)), (9, .c (.own 1 o1_12.length)), (12, .c (vI a1_x)), (13, ci (((a1_x).length : Int))), (14, ci t14_11)], [.box (bSProblem a0_p), aI 3 o1_12]⟩ : St)
  refine SCode.sub (st' := (S14 0 (([] : List Int)))) (sub_gen [0, 2] rfl rfl (zall rfl rfl) ⟨bx rfl rfl rfl, oa rfl, trivial⟩) ?_
  refine (SCode.loop (σ := Nat × (Int × (List Int))) (S := fun s => (S14 s.2.1 s.2.2)) (g := fun s => chargenetref18_raise_own_l21 a0_p a1_x a2_active a3_by s.1 s.2.1 s.2.2 = some r) (μ := fun s => s.1) (F, (0, ([] : List Int))) h ?_)
  rintro ⟨n_21, ⟨t14_11, o1_12⟩⟩ h
  try dsimp only at h
  show SCode _ _ _ (S14 t14_11 o1_12) _
  cases n_21 with
  | zero => cases h
  | succ n_21 =>
   rw [chargenetref18_raise_own_l21] at h
   unfold chargenetref18_raise_own_b21 at h
   refine SCode.seq ?_
   refine SCode.region (show SOps _ _ _ [0] _ _ from ?_)
   refine sq rfl rfl rfl (q_lss rfl rfl rfl) (SOps.nil (SCode.seq ?_))
   rcases cond_out h with ⟨g22, h⟩ | ⟨g22, h⟩
   ·refine SCode.cond_t rfl g22 (SCode.skip (SCode.seq (SCode.block (SCode.seq ?_))))
    obtain ⟨g23, h⟩ := guard_out h
    refine SCode.region (show SOps _ _ _ [0, 1, 2, 3, 4] _ _ from ?_)
    refine sm rfl rfl rfl rfl rfl (sq rfl rfl rfl (q_index_vec rfl rfl rfl sl22 rfl g23.1 g23.2) (sq rfl rfl rfl (q_load_eptr rfl rfl ty3) (sa rfl rfl rfl rfl rfl (sa rfl rfl rfl rfl rfl (SOps.nil ?_)))))
    let S13 := fun (n_24 : Int) => (⟨[(2, .c (.vec a2_active.length 1 (gL cBool false a2_active))), (3, ci a3_by), (4, .c (.ptr 0 0)), (9, .c (.own 1 o1_12.length)), (11, ci n_24), (12, .c (vI a1_x)), (13, ci (((a1_x).length : Int))), (14, ci t14_11)], [.box (bSProblem a0_p), aI 3 o1_12]⟩ : St)
    refine SCode.join (σ := Int) (S := fun s => (S13 s)) (g := fun s => chargenetref18_raise_own_p26 t14_11 o1_12 (fun t14_11 o1_12 => chargenetref18_raise_own_l21 a0_p a1_x a2_active a3_by n_21 t14_11 o1_12) s = some r) ?_ ?_
    rotate_left
    ·refine SCode.seq ?_
     obtain ⟨g27, h⟩ := guard_out h
     refine SCode.region (show SOps _ _ _ [0, 1, 2, 3] _ _ from ?_)
     refine sm rfl rfl rfl rfl rfl (sm rfl rfl rfl rfl rfl (sq rfl rfl rfl (q_index_vec rfl rfl rfl sl53 rfl g27.1 g27.2) (sq rfl rfl rfl (q_load_eptr rfl rfl ty4) (SOps.nil ?_))))
     rcases cond_out h with ⟨g28, h⟩ | ⟨g28, h⟩
     ·refine SCode.cond_t rfl g28 ?_
      obtain ⟨g29, h⟩ := guard_out h
      refine SCode.region (show SOps _ _ _ [0, 1, 2, 3, 4, 5, 6, 7, 8, 9, 10] _ _ from ?_)
      refine sm rfl rfl rfl rfl rfl (sm rfl rfl rfl rfl rfl (sq rfl rfl rfl (q_add rfl rfl rfl) (sq rfl rfl rfl (q_field_ptr rfl rfl fd26_4) (sq rfl rfl rfl (q_load_ptr rfl rfl rfl rfl ty24) (sm rfl rfl rfl rfl rfl (sq rfl rfl rfl (q_index_vec rfl rfl rfl sl24 rfl g29.1 g29.2) (sq rfl rfl rfl (q_field_eptr rfl rfl fd39_2 rfl) (sq rfl rfl rfl (q_load_eptr rfl rfl ty3) (sq rfl rfl rfl (q_min rfl rfl rfl) ?_)))))))))
      refine sa rfl rfl rfl rfl rfl (SOps.sub (st' := ⟨[(2, .c (.vec a2_active.length 1 (gL cBool false a2_active))), (3, ci a3_by), (4, .c (.ptr 0 0)), (9, .c (.own 1 o1_12.length)), (11, ci ((if (a0_p.Demands.getD t14_11.toNat dSDemand).Energy < IntKind.wrap .i64 (a1_x.getD t14_11.toNat 0 + a3_by) then (a0_p.Demands.getD t14_11.toNat dSDemand).Energy else IntKind.wrap .i64 (a1_x.getD t14_11.toNat 0 + a3_by)))), (12, .c (vI a1_x)), (13, ci (((a1_x).length : Int))), (14, ci t14_11)], [.box (bSProblem a0_p), aI 3 o1_12]⟩) (sub_gen [0, 1] rfl rfl (zall rfl rfl) ⟨bx rfl rfl rfl, oa rfl, trivial⟩) (SOps.nil ?_))
      exact ⟨(if (a0_p.Demands.getD t14_11.toNat dSDemand).Energy < IntKind.wrap .i64 (a1_x.getD t14_11.toNat 0 + a3_by) then (a0_p.Demands.getD t14_11.toNat dSDemand).Energy else IntKind.wrap .i64 (a1_x.getD t14_11.toNat 0 + a3_by)), h, sub_gen [0, 1] rfl rfl (zall rfl rfl) ⟨bx rfl rfl rfl, oa rfl, trivial⟩⟩
     refine SCode.cond_f rfl g28 (SCode.skip ?_)
     exact ⟨a1_x.getD t14_11.toNat 0, h, sub_gen [0, 1] rfl rfl (zall rfl rfl) ⟨bx rfl rfl rfl, oa rfl, trivial⟩⟩
    rintro n_24 h
    show SCode _ _ _ (S13 n_24) _
    try dsimp only at h
    unfold chargenetref18_raise_own_p26 at h
    obtain ⟨g25, h⟩ := guard_out h
    refine SCode.region (show SOps _ _ _ [0, 1, 2, 3, 4] _ _ from ?_)
    refine sm rfl rfl rfl rfl rfl (sm rfl rfl rfl rfl rfl (sq rfl rfl rfl (q_bsliceL (c := (cInt .i64)) (d0 := 0) [n_24] rfl rfl sl22 z3 rfl rfl rfl rfl rfl rfl rfl) (se rfl rfl (e_appendL (c := (cInt .i64)) (d0 := 0) (l := o1_12) (l2 := [n_24]) rfl rfl rfl rfl rfl rfl (.inl rfl) sl22 z3 rfl rfl oneInt g25.1 g25.2) (sa rfl rfl rfl rfl rfl (SOps.sub (st' := ⟨[(2, .c (.vec a2_active.length 1 (gL cBool false a2_active))), (3, ci a3_by), (4, .c (.ptr 0 0)), (9, .c (.own 1 (o1_12 ++ ([n_24])).length)), (12, .c (vI a1_x)), (13, ci (((a1_x).length : Int))), (14, ci t14_11)], [.box (bSProblem a0_p), aI 3 (o1_12 ++ ([n_24]))]⟩) (sub_gen [0, 2] rfl rfl (zall rfl rfl) ⟨bx rfl rfl rfl, oa rfl, trivial⟩) (SOps.nil ?_))))))
    refine SCode.region (show SOps _ _ _ [0, 1] _ _ from ?_)
    refine sq rfl rfl rfl (q_add rfl rfl rfl) (sm rfl rfl rfl rfl rfl (SOps.nil ?_))
    exact ⟨(n_21, (IntKind.wrap .i64 (t14_11 + 1), o1_12 ++ ([n_24]))), h, Nat.lt_succ_self n_21, sub_gen [0, 1] rfl rfl (zall rfl rfl) ⟨bx rfl rfl rfl, oa rfl, trivial⟩⟩
   refine SCode.cond_f rfl g22 (SCode.exit ?_)
   exact ⟨o1_12, h, sub_gen [1] rfl rfl (zall rfl rfl) ⟨oa rfl, trivial⟩⟩
 rintro o0_1 h
 show SCode _ _ _ (S15 o0_1) _
 try dsimp only at h
 unfold chargenetref18_raise_own_p2 at h
 refine SCode.seq ?_
 refine SCode.region (show SOps _ _ _ [0, 1] _ _ from ?_)
 refine sm rfl rfl rfl rfl rfl (sa rfl rfl rfl rfl rfl (SOps.nil (SCode.ret ?_)))
 obtain rfl := Option.some.inj h
 exact ⟨⟨[(8, .c (.own 0 o0_1.length))], [aI 3 o0_1]⟩, _, sub_gen [0] rfl rfl (zall rfl rfl) ⟨oa rfl, trivial⟩, resA1 (v := .c (.own 0 o0_1.length)) rfl rfl, ⟨rfl, rfl⟩⟩
theorem chargenetref18_Fair_ok (F : Nat) (a0_p : SProblem) (r : (List Int) × Int) (h : chargenetref18_Fair F a0_p = some r) :
  SFun Try.prog 17 [] [.a (bSProblem a0_p)] (fun x _ => x = .t [.c (vI r.1), .c (.int .i64 r.2)]) := by
 refine SFun.of (n := 85) Try.func17 rfl rfl rfl ?_
 unfold chargenetref18_Fair at h
 show SCode _ _ _ ⟨[(0, .a (bSProblem a0_p))], []⟩ _
 refine SCode.seq ?_
 refine SCode.region (show SOps _ _ _ [0, 1, 2] _ _ from ?_)
 refine se rfl rfl (e_box rfl rfl rfl rfl rfl rfl) (sa rfl rfl rfl rfl rfl (sa rfl rfl rfl rfl rfl (SOps.nil (SCode.seq (SCode.seq ?_)))))
 obtain ⟨c_1, g2, h⟩ := bind_out h
 try dsimp only at h
 refine SCode.region (show SOps _ _ _ [0, 1, 2] _ _ from ?_)
 refine sq rfl rfl rfl (q_load_ptr_all rfl rfl rfl rfl rfl ty26) (sq rfl rfl rfl (q_call (chargenetref18_Valid_ok F a0_p c_1 g2) [] rfl fn12 ⟨⟨rfl, rfl⟩, trivial⟩ (.inl rfl)) (sa rfl rfl rfl rfl rfl (SOps.nil (SCode.seq ?_))))
 refine SCode.region (show SOps _ _ _ [0, 1] _ _ from ?_)
 refine sm rfl rfl rfl rfl rfl (sq rfl rfl rfl (q_neq rfl rfl rfl) (SOps.nil ?_))
 rcases cond_out h with ⟨g3, h⟩ | ⟨g3, h⟩
 ·refine SCode.cond_t rfl g3 (SCode.seq ?_)
  refine SCode.region (show SOps _ _ _ [0, 1, 2] _ _ from ?_)
  refine sm rfl rfl rfl rfl rfl (sa rfl rfl rfl rfl rfl (sa rfl rfl rfl rfl rfl (SOps.nil (SCode.ret ?_))))
  obtain rfl := Option.some.inj h
  exact ⟨⟨[(2, .c (vI (([] : List Int)))), (3, ci c_1)], []⟩, _, sub_gen [] rfl rfl ⟨⟨_, rfl, .inr (.inr (.inr (.inl ⟨_, _, rfl, rfl⟩)))⟩, zc rfl rfl, trivial⟩ trivial, resA2 (v1 := .c (vI (([] : List Int)))) (v2 := .c (.int .i64 c_1)) rfl rfl rfl, rfl⟩
 refine SCode.cond_f rfl g3 (SCode.skip (SCode.seq ?_))
 obtain ⟨g4, h⟩ := guard_out h
 refine SCode.region (show SOps _ _ _ [0, 1, 2, 3, 4] _ _ from ?_)
 refine sq rfl rfl rfl (q_field_ptr rfl rfl fd26_4) (sq rfl rfl rfl (q_load_ptr rfl rfl rfl rfl ty24) (sq rfl rfl rfl (q_len_vec rfl rfl sl24) (se rfl rfl (e_makeL (c := (cInt .i64)) (d0 := 0) rfl rfl rfl rfl rfl sl22 z3 rfl rfl rfl g4.1 (Int.le_refl _) g4.2.1 g4.2.2) (sa rfl rfl rfl rfl rfl (SOps.nil (SCode.seq ?_))))))
 obtain ⟨g5, h⟩ := guard_out h
 refine SCode.region (show SOps _ _ _ [0, 1, 2, 3, 4] _ _ from ?_)
 refine sq rfl rfl rfl (q_field_ptr rfl rfl fd26_4) (sq rfl rfl rfl (q_load_ptr rfl rfl rfl rfl ty24) (sq rfl rfl rfl (q_len_vec rfl rfl sl24) (se rfl rfl (e_makeL (c := cBool) (d0 := false) rfl rfl rfl rfl rfl sl53 z4 rfl rfl rfl g5.1 (Int.le_refl _) g5.2.1 g5.2.2) (sa rfl rfl rfl rfl rfl ?_))))
 let y1 := ((a0_p.Demands).length : Int)
 refine SOps.sub (st' := ⟨[(1, .c (.ptr 0 0)), (5, .c (.own 1 (List.replicate y1.toNat (0 : Int)).length)), (6, .c (.own 2 (List.replicate y1.toNat (false : Bool)).length))], [.box (bSProblem a0_p), aI 3 (List.replicate y1.toNat (0 : Int)), aB 4 (List.replicate y1.toNat (false : Bool))]⟩) (sub_gen [0, 1, 2] rfl rfl (zall rfl rfl) ⟨bx rfl rfl rfl, oa rfl, oa rfl, trivial⟩) (SOps.nil ?_)
 let S30 := fun (o2_6 : List Bool) => (⟨[(1, .c (.ptr 0 0)), (5, .c (.own 1 (List.replicate (((a0_p.Demands).length : Int)).toNat (0 : Int)).length)), (6, .c (.own 2 o2_6.length))], [.box (bSProblem a0_p), aI 3 (List.replicate (((a0_p.Demands).length : Int)).toNat (0 : Int)), aB 4 o2_6]⟩ : St)
 refine SCode.join (σ := (List Bool)) (S := fun s => (S30 s)) (g := fun s => chargenetref18_Fair_p233 F a0_p s = some r) ?_ ?_
 rotate_left
 ·refine SCode.seq ?_
  refine SCode.region (show SOps _ _ _ [0, 1, 2] _ _ from ?_)
  refine sm rfl rfl rfl rfl rfl (sq rfl rfl rfl (q_len_own rfl rfl sl53) (sm rfl rfl rfl rfl rfl (SOps.nil (SCode.block ?_))))
  let S29 := fun (t25_236 : Int) => fun (o2_237 : List Bool) => (⟨[(1, .c (.ptr 0 0)), (5, .c (.own 1 (List.replicate (((a0_p.Demands).length : Int)).toNat (0 : Int)).length)), (6, .c (.own 2 o2_237.length)), (24, ci (((List.replicate (((a0_p.Demands).length : Int)).toNat (false : Bool)).length : Int))), (25, ci t25_236)], [.box (bSProblem a0_p), aI 3 (List.replicate (((a0_p.Demands).length : Int)).toNat (0 : Int)), aB 4 o2_237]⟩ : St)
  refine SCode.sub (st' := (S29 0 (List.replicate (((a0_p.Demands).length : Int)).toNat (false : Bool)))) (sub_gen [0, 1, 2] rfl rfl (zall rfl rfl) ⟨bx rfl rfl rfl, oa rfl, oa rfl, trivial⟩) ?_
  refine (SCode.loop (σ := Nat × (Int × (List Bool))) (S := fun s => (S29 s.2.1 s.2.2)) (g := fun s => chargenetref18_Fair_l240 F a0_p s.1 s.2.1 s.2.2 = some r) (μ := fun s => s.1) (F, (0, List.replicate (((a0_p.Demands).length : Int)).toNat (false : Bool))) h ?_)
  rintro ⟨n_240, ⟨t25_236, o2_237⟩⟩ h
  try dsimp only at h
  show SCode _ _ _ (S29 t25_236 o2_237) _
  cases n_240 with
  | zero => cases h
  | succ n_240 =>
   rw [chargenetref18_Fair_l240] at h
   unfold chargenetref18_Fair_b240 at h
   refine SCode.seq ?_
   refine SCode.region (show SOps _ _ _ [0] _ _ from ?_)
   refine sq rfl rfl rfl (q_lss rfl rfl rfl) (SOps.nil (SCode.seq ?_))
   rcases cond_out h with ⟨g241, h⟩ | ⟨g241, h⟩
   ·refine SCode.cond_t rfl g241 (SCode.skip (SCode.seq (SCode.block (SCode.seq ?_))))
    refine SCode.region (show SOps _ _ _ [0, 1] _ _ from ?_)
    refine sm rfl rfl rfl rfl rfl (sa rfl rfl rfl rfl rfl (SOps.nil ?_))
    obtain ⟨g242, h⟩ := guard_out h
    refine SCode.region (show SOps _ _ _ [0, 1, 2, 3] _ _ from ?_)
    refine sm rfl rfl rfl rfl rfl (sm rfl rfl rfl rfl rfl (sq rfl rfl rfl (q_index_own rfl rfl rfl sl53 g242.1 g242.2) (se rfl rfl (e_storeL true rfl rfl rfl rfl rfl (toNat_lt g242) ty4 rfl rfl rfl rfl rfl rfl) (SOps.sub (st' := ⟨[(1, .c (.ptr 0 0)), (5, .c (.own 1 (List.replicate (((a0_p.Demands).length : Int)).toNat (0 : Int)).length)), (6, .c (.own 2 (o2_237.set t25_236.toNat true).length)), (24, ci (((List.replicate (((a0_p.Demands).length : Int)).toNat (false : Bool)).length : Int))), (25, ci t25_236)], [.box (bSProblem a0_p), aI 3 (List.replicate (((a0_p.Demands).length : Int)).toNat (0 : Int)), aB 4 (o2_237.set t25_236.toNat true)]⟩) (sub_gen [0, 1, 2] rfl rfl ⟨zc rfl rfl, zc rfl rfl, ⟨_, rfl, .inl ⟨rfl, congrArg (Cell.own 2) (List.length_set : (o2_237.set t25_236.toNat true).length = o2_237.length).symm⟩⟩, zc rfl rfl, zc rfl rfl, trivial⟩ ⟨bx rfl rfl rfl, oa rfl, oa rfl, trivial⟩) (SOps.nil ?_)))))
    refine SCode.region (show SOps _ _ _ [0, 1] _ _ from ?_)
    refine sq rfl rfl rfl (q_add rfl rfl rfl) (sm rfl rfl rfl rfl rfl (SOps.nil ?_))
    exact ⟨(n_240, (IntKind.wrap .i64 (t25_236 + 1), o2_237.set t25_236.toNat true)), h, Nat.lt_succ_self n_240, sub_gen [0, 1, 2] rfl rfl (zall rfl rfl) ⟨bx rfl rfl rfl, oa rfl, oa rfl, trivial⟩⟩
   refine SCode.cond_f rfl g241 (SCode.exit ?_)
   exact ⟨o2_237, h, sub_gen [0, 1, 2] rfl rfl (zall rfl rfl) ⟨bx rfl rfl rfl, oa rfl, oa rfl, trivial⟩⟩
 rintro o2_6 h
 show SCode _ _ _ (S30 o2_6) _
 try dsimp only at h
 unfold chargenetref18_Fair_p233 at h
 let S28 := fun (o0_7 : List Int) => (⟨[(5, .c (.own 0 o0_7.length))], [aI 3 o0_7]⟩ : St)
 refine SCode.join (σ := (List Int)) (S := fun s => (S28 s)) (g := fun s => chargenetref18_Fair_p8 s = some r) ?_ ?_
 rotate_left
 ·refine SCode.block ?_
  let S27 := fun (o1_88 : List Int) => fun (o2_89 : List Bool) => (⟨[(1, .c (.ptr 0 0)), (5, .c (.own 1 o1_88.length)), (6, .c (.own 2 o2_89.length))], [.box (bSProblem a0_p), aI 3 o1_88, aB 4 o2_89]⟩ : St)
  refine SCode.sub (st' := (S27 (List.replicate (((a0_p.Demands).length : Int)).toNat (0 : Int)) o2_6)) (sub_gen [0, 1, 2] rfl rfl (zall rfl rfl) ⟨bx rfl rfl rfl, oa rfl, oa rfl, trivial⟩) ?_
  refine (SCode.loop (σ := Nat × ((List Int) × (List Bool))) (S := fun s => (S27 s.2.1 s.2.2)) (g := fun s => chargenetref18_Fair_l161 F a0_p s.1 s.2.1 s.2.2 = some r) (μ := fun s => s.1) (F, (List.replicate (((a0_p.Demands).length : Int)).toNat (0 : Int), o2_6)) h ?_)
  rintro ⟨n_161, ⟨o1_88, o2_89⟩⟩ h
  try dsimp only at h
  show SCode _ _ _ (S27 o1_88 o2_89) _
  cases n_161 with
  | zero => cases h
  | succ n_161 =>
   rw [chargenetref18_Fair_l161] at h
   unfold chargenetref18_Fair_b161 at h
   refine SCode.seq (SCode.seq ?_)
   obtain ⟨c_162, g163, h⟩ := bind_out h
   try dsimp only at h
   refine SCode.region (show SOps _ _ _ [0, 1] _ _ from ?_)
   refine sm rfl rfl rfl rfl rfl (sq rfl rfl rfl (q_call (chargenetref18_some_ok F o2_89 c_162 g163) [2] rfl fn32 ⟨⟨_, rfl, .inr (.inl ⟨_, _, _, _, _, _, _, rfl, rfl, rfl, Nat.le_refl _, fun _ _ _ _ => rfl, (.head _)⟩)⟩, trivial⟩ (.inr rfl)) (SOps.nil ?_))
   rcases cond_out h with ⟨g164, h⟩ | ⟨g164, h⟩
   ·refine SCode.cond_t rfl g164 (SCode.skip (SCode.block (SCode.seq (SCode.sub (st' := ⟨[(1, .c (.ptr 0 0)), (5, .c (.own 1 o1_88.length)), (6, .c (.own 2 o2_89.length))], [.box (bSProblem a0_p), aI 3 o1_88, aB 4 o2_89]⟩) (sub_gen [0, 1, 2] rfl rfl (zall rfl rfl) ⟨bx rfl rfl rfl, oa rfl, oa rfl, trivial⟩) ?_))))
    obtain ⟨c_165, g166, h⟩ := bind_out h
    try dsimp only at h
    obtain ⟨c_167, g168, h⟩ := bind_out h
    try dsimp only at h
    refine SCode.drawK mixed [[], [], [], [], [], [], [3, 4, 5], [0, 1, 2, 3, 4, 5, 6], [0, 1, 2, 3, 4, 5, 6, 7]] 7 2 rfl rfl (qr rfl rfl rfl (q_load_ptr_all rfl rfl rfl rfl rfl ty26) (qm rfl rfl rfl rfl rfl (qm rfl rfl rfl rfl rfl (qr rfl rfl rfl (q_load_ptr_all rfl rfl rfl rfl rfl ty26) (qm rfl rfl rfl rfl rfl (qm rfl rfl rfl rfl rfl (qr rfl rfl rfl (q_call (chargenetref18_step_ok F a0_p o1_88 o2_89 c_165 g166) [1, 2] rfl fn34 ⟨⟨rfl, rfl⟩, ⟨_, rfl, .inr (.inl ⟨_, _, _, _, _, _, _, rfl, rfl, rfl, Nat.le_refl _, fun _ _ _ _ => rfl, (.head _)⟩)⟩, ⟨_, rfl, .inr (.inl ⟨_, _, _, _, _, _, _, rfl, rfl, rfl, Nat.le_refl _, fun _ _ _ _ => rfl, (.tail _ (.head _))⟩)⟩, trivial⟩ (.inr rfl)) (QK.nil ?_))))))))
    refine (show SOps _ _ _ [7, 8] _ _ from ?_)
    refine se rfl rfl (e_callL (chargenetref18_raise_own_ok F a0_p o1_88 o2_89 c_165 c_167 g168) [] [1, 2] rfl fn33 rfl rfl rfl rfl rfl rfl rfl rfl (nrs ⟨fun _ _ => rfl, trivial⟩) ⟨⟨.inl ⟨rfl, rfl⟩, .inl ⟨rfl, rfl⟩, .inl ⟨rfl, rfl⟩, .inl ⟨rfl, rfl⟩, .inl ⟨rfl, rfl⟩, trivial⟩, .inr (.inl ⟨_, _, _, _, _, _, _, rfl, rfl, rfl, Nat.le_refl _, fun _ _ _ _ => rfl, (.head _)⟩), .inr (.inl ⟨_, _, _, _, _, _, _, rfl, rfl, rfl, Nat.le_refl _, fun _ _ _ _ => rfl, (.tail _ (.head _))⟩), .inl ⟨rfl, rfl⟩, trivial⟩) (sa rfl rfl rfl rfl rfl (SOps.sub (st' := ⟨[(1, .c (.ptr 0 0)), (5, .c (.own 1 c_167.length)), (6, .c (.own 2 o2_89.length))], [.box (bSProblem a0_p), aI 3 c_167, aB 4 o2_89]⟩) (sub_gen [0, 3, 2] rfl rfl (zall rfl rfl) ⟨bx rfl rfl rfl, oa rfl, oa rfl, trivial⟩) (SOps.nil (SCode.seq ?_))))
    refine SCode.region (show SOps _ _ _ [0, 1, 2, 3] _ _ from ?_)
    refine sq rfl rfl rfl (q_field_ptr rfl rfl fd26_4) (sq rfl rfl rfl (q_load_ptr rfl rfl rfl rfl ty24) (sq rfl rfl rfl (q_len_vec rfl rfl sl24) (sm rfl rfl rfl rfl rfl (SOps.nil (SCode.block ?_)))))
    let S26 := fun (t45_189 : Int) => fun (o1_190 : List Int) => fun (o2_191 : List Bool) => (⟨[(1, .c (.ptr 0 0)), (5, .c (.own 1 o1_190.length)), (6, .c (.own 2 o2_191.length)), (43, .c (vSDemand a0_p.Demands)), (44, ci (((a0_p.Demands).length : Int))), (45, ci t45_189)], [.box (bSProblem a0_p), aI 3 o1_190, aB 4 o2_191]⟩ : St)
    refine SCode.sub (st' := (S26 0 c_167 o2_89)) (sub_gen [0, 1, 2] rfl rfl (zall rfl rfl) ⟨bx rfl rfl rfl, oa rfl, oa rfl, trivial⟩) ?_
    refine (SCode.loop (σ := Nat × (Int × (List Int) × (List Bool))) (S := fun s => (S26 s.2.1 s.2.2.1 s.2.2.2)) (g := fun s => chargenetref18_Fair_l212 F a0_p (fun o1_88 o2_89 => chargenetref18_Fair_l161 F a0_p n_161 o1_88 o2_89) s.1 s.2.1 s.2.2.1 s.2.2.2 = some r) (μ := fun s => s.1) (F, (0, c_167, o2_89)) h ?_)
    rintro ⟨n_212, ⟨t45_189, o1_190, o2_191⟩⟩ h
    try dsimp only at h
    show SCode _ _ _ (S26 t45_189 o1_190 o2_191) _
    cases n_212 with
    | zero => cases h
    | succ n_212 =>
     rw [chargenetref18_Fair_l212] at h
     unfold chargenetref18_Fair_b212 at h
     refine SCode.seq ?_
     refine SCode.region (show SOps _ _ _ [0] _ _ from ?_)
     refine sq rfl rfl rfl (q_lss rfl rfl rfl) (SOps.nil (SCode.seq ?_))
     rcases cond_out h with ⟨g213, h⟩ | ⟨g213, h⟩
     ·refine SCode.cond_t rfl g213 (SCode.skip ?_)
      let S25 := fun (o1_214 : List Int) => fun (o2_215 : List Bool) => (⟨[(1, .c (.ptr 0 0)), (5, .c (.own 1 o1_214.length)), (6, .c (.own 2 o2_215.length)), (43, .c (vSDemand a0_p.Demands)), (44, ci (((a0_p.Demands).length : Int))), (45, ci t45_189)], [.box (bSProblem a0_p), aI 3 o1_214, aB 4 o2_215]⟩ : St)
      refine SCode.join (σ := (List Int) × (List Bool)) (S := fun s => (S25 s.1 s.2)) (g := fun s => chargenetref18_Fair_p216 t45_189 (fun t45_189 o1_190 o2_191 => chargenetref18_Fair_l212 F a0_p (fun o1_88 o2_89 => chargenetref18_Fair_l161 F a0_p n_161 o1_88 o2_89) n_212 t45_189 o1_190 o2_191) s.1 s.2 = some r) ?_ ?_
      rotate_left
      ·refine SCode.block (SCode.seq ?_)
       obtain ⟨g217, h⟩ := guard_out h
       refine SCode.region (show SOps _ _ _ [0, 1, 2, 3, 4, 5] _ _ from ?_)
       refine sm rfl rfl rfl rfl rfl (sq rfl rfl rfl (q_index_vec rfl rfl rfl sl24 rfl g217.1 g217.2) (sq rfl rfl rfl (q_load_eptr_all rfl rfl rfl ty39) (se rfl rfl (e_alloc rfl rfl rfl z39) (sa rfl rfl rfl rfl rfl (se rfl rfl (e_store_box rfl rfl rfl rfl rfl ty39 rfl rfl rfl rfl) (SOps.nil (SCode.seq (SCode.seq ?_))))))))
       obtain ⟨g218, h⟩ := guard_out h
       refine SCode.region (show SOps _ _ _ [0, 1, 2, 3, 4] _ _ from ?_)
       refine sm rfl rfl rfl rfl rfl (sm rfl rfl rfl rfl rfl (sq rfl rfl rfl (q_index_own rfl rfl rfl sl53 g218.1 g218.2) (sq rfl rfl rfl (q_load_aptr rfl rfl rfl (toNat_lt g218) rfl ty4) (sq rfl rfl rfl (q_not rfl rfl) (SOps.nil ?_)))))
       rcases cond_out h with ⟨g219, h⟩ | ⟨g219, h⟩
       ·refine SCode.cond_t rfl g219 (SCode.exit ?_)
        exact ⟨(o1_190, o2_191), h, sub_gen [0, 1, 2] rfl rfl (zall rfl rfl) ⟨bx rfl rfl rfl, oa rfl, oa rfl, trivial⟩⟩
       refine SCode.cond_f rfl g219 (SCode.skip (SCode.seq ?_))
       obtain ⟨g220, h⟩ := guard_out h
       obtain ⟨g221, h⟩ := guard_out h
       refine SCode.region (show SOps _ _ _ [0, 1, 2, 3, 4, 5, 6] _ _ from ?_)
       refine sm rfl rfl rfl rfl rfl (sm rfl rfl rfl rfl rfl (sq rfl rfl rfl (q_index_own rfl rfl rfl sl22 g220.1 g220.2) (sq rfl rfl rfl (q_load_aptr rfl rfl rfl (toNat_lt g220) rfl ty3) (sq rfl rfl rfl (q_add rfl rfl rfl) (sq rfl rfl rfl (q_index_own rfl rfl rfl sl22 g221.1 g221.2) (se rfl rfl (e_storeL (IntKind.wrap .i64 (o1_190.getD t45_189.toNat 0 + 1)) rfl rfl rfl rfl rfl (toNat_lt g221) ty3 rfl rfl rfl rfl rfl rfl) ?_))))))
       let y2 := o1_190.set t45_189.toNat (IntKind.wrap .i64 (o1_190.getD t45_189.toNat 0 + 1))
       refine SOps.sub (st' := ⟨[(1, .c (.ptr 0 0)), (5, .c (.own 1 y2.length)), (6, .c (.own 2 o2_191.length)), (8, ci t45_189), (9, .c (.ptr 3 0)), (43, .c (vSDemand a0_p.Demands)), (44, ci (((a0_p.Demands).length : Int))), (45, ci t45_189)], [.box (bSProblem a0_p), aI 3 y2, aB 4 o2_191, .box (bSDemand (a0_p.Demands.getD t45_189.toNat dSDemand))]⟩) (sub_gen [0, 1, 2, 3] rfl rfl ⟨zc rfl rfl, ⟨_, rfl, .inl ⟨rfl, congrArg (Cell.own 1) (List.length_set : y2.length = o1_190.length).symm⟩⟩, zc rfl rfl, zc rfl rfl, zc rfl rfl, zc rfl rfl, zc rfl rfl, zc rfl rfl, trivial⟩ ⟨bx rfl rfl rfl, oa rfl, oa rfl, bx rfl rfl rfl, trivial⟩) (SOps.nil (SCode.seq ?_))
       obtain ⟨g222, h⟩ := guard_out h
       rcases cond_out h with ⟨g223, h⟩ | ⟨g223, h⟩
       ·refine SCode.drawK mixed [[], [], [0, 1], [0, 1, 2], [], [4], [0, 1, 2, 3, 4, 5], [0, 1, 2, 3, 4, 5, 6], [0, 1, 2, 3, 4, 5, 6, 7], [0, 1, 2, 3, 4, 5, 6, 7], [0, 1, 2, 3, 4, 5, 6, 7, 8, 9], [0, 1, 2, 3, 4, 5, 6, 7, 8, 9, 10], [0, 1, 2, 3, 4, 5, 6, 7, 8, 9, 10, 11]] 13 0 rfl rfl (qm rfl rfl rfl rfl rfl (qm rfl rfl rfl rfl rfl (qr rfl rfl rfl (q_index_own rfl rfl rfl sl22 g222.1 g222.2) (qr rfl rfl rfl (q_load_aptr rfl rfl rfl (toNat_lt g222) rfl ty3) (qr rfl rfl rfl (q_field_ptr rfl rfl fd39_2) (qr rfl rfl rfl (q_load_ptr rfl rfl rfl rfl ty3) (qr rfl rfl rfl (q_gtr rfl rfl rfl) (qm rfl rfl rfl rfl rfl (QK.skip rfl ⟨7, 68, false, rfl, rfl, (.inl (gT g223))⟩ rfl ?_)))))))))
        refine QK.skip rfl ⟨7, 68, false, rfl, rfl, (.inl (gT g223))⟩ rfl (QK.skip rfl ⟨7, 68, false, rfl, rfl, (.inl (gT g223))⟩ rfl (QK.skip rfl ⟨7, 68, false, rfl, rfl, (.inl (gT g223))⟩ rfl (qr rfl rfl rfl (q_pick_t rfl rfl g223 rfl) (QK.nil ?_))))
        refine (show SOps _ _ _ [] _ _ from ?_)
        let y3 := o1_190.set t45_189.toNat (IntKind.wrap .i64 (o1_190.getD t45_189.toNat 0 + 1))
        refine SOps.sub (st' := ⟨[(1, .c (.ptr 0 0)), (5, .c (.own 1 y3.length)), (6, .c (.own 2 o2_191.length)), (8, ci t45_189), (43, .c (vSDemand a0_p.Demands)), (44, ci (((a0_p.Demands).length : Int))), (45, ci t45_189), (73, .c (.bool true))], [.box (bSProblem a0_p), aI 3 y3, aB 4 o2_191]⟩) (sub_gen [0, 1, 2] rfl rfl (zall rfl rfl) ⟨bx rfl rfl rfl, oa rfl, oa rfl, trivial⟩) (SOps.nil (SCode.cond_t rfl rfl (SCode.seq ?_)))
        obtain ⟨g224, h⟩ := guard_out h
        obtain ⟨g225, h⟩ := guard_out h
        refine SCode.region (show SOps _ _ _ [0, 1, 2, 3, 4, 5, 6] _ _ from ?_)
        refine sm rfl rfl rfl rfl rfl (sm rfl rfl rfl rfl rfl (sq rfl rfl rfl (q_index_own rfl rfl rfl sl22 g224.1 g224.2) (sq rfl rfl rfl (q_load_aptr rfl rfl rfl (toNat_lt g224) rfl ty3) (sq rfl rfl rfl (q_sub rfl rfl rfl) (sq rfl rfl rfl (q_index_own rfl rfl rfl sl22 g225.1 g225.2) (se rfl rfl (e_storeL (IntKind.wrap .i64 ((o1_190.set t45_189.toNat (IntKind.wrap .i64 (o1_190.getD t45_189.toNat 0 + 1))).getD t45_189.toNat 0 - 1)) rfl rfl rfl rfl rfl (toNat_lt g225) ty3 rfl rfl rfl rfl rfl rfl) ?_))))))
        let y4 := o1_190.set t45_189.toNat (IntKind.wrap .i64 (o1_190.getD t45_189.toNat 0 + 1))
        let y5 := y4.set t45_189.toNat (IntKind.wrap .i64 (y4.getD t45_189.toNat 0 - 1))
        refine SOps.sub (st' := ⟨[(1, .c (.ptr 0 0)), (5, .c (.own 1 y5.length)), (6, .c (.own 2 o2_191.length)), (8, ci t45_189), (43, .c (vSDemand a0_p.Demands)), (44, ci (((a0_p.Demands).length : Int))), (45, ci t45_189)], [.box (bSProblem a0_p), aI 3 y5, aB 4 o2_191]⟩) (sub_gen [0, 1, 2] rfl rfl ⟨zc rfl rfl, ⟨_, rfl, .inl ⟨rfl, congrArg (Cell.own 1) (List.length_set : y5.length = y4.length).symm⟩⟩, zc rfl rfl, zc rfl rfl, zc rfl rfl, zc rfl rfl, zc rfl rfl, trivial⟩ ⟨bx rfl rfl rfl, oa rfl, oa rfl, trivial⟩) (SOps.nil ?_)
        obtain ⟨g226, h⟩ := guard_out h
        refine SCode.region (show SOps _ _ _ [0, 1, 2, 3] _ _ from ?_)
        refine sm rfl rfl rfl rfl rfl (sm rfl rfl rfl rfl rfl (sq rfl rfl rfl (q_index_own rfl rfl rfl sl53 g226.1 g226.2) (se rfl rfl (e_storeL false rfl rfl rfl rfl rfl (toNat_lt g226) ty4 rfl rfl rfl rfl rfl rfl) ?_)))
        let y6 := o1_190.set t45_189.toNat (IntKind.wrap .i64 (o1_190.getD t45_189.toNat 0 + 1))
        refine SOps.sub (st' := ⟨[(1, .c (.ptr 0 0)), (5, .c (.own 1 (y6.set t45_189.toNat (IntKind.wrap .i64 (y6.getD t45_189.toNat 0 - 1))).length)), (6, .c (.own 2 (o2_191.set t45_189.toNat false).length)), (43, .c (vSDemand a0_p.Demands)), (44, ci (((a0_p.Demands).length : Int))), (45, ci t45_189)], [.box (bSProblem a0_p), aI 3 (y6.set t45_189.toNat (IntKind.wrap .i64 (y6.getD t45_189.toNat 0 - 1))), aB 4 (o2_191.set t45_189.toNat false)]⟩) (sub_gen [0, 1, 2] rfl rfl ⟨zc rfl rfl, zc rfl rfl, ⟨_, rfl, .inl ⟨rfl, congrArg (Cell.own 2) (List.length_set : (o2_191.set t45_189.toNat false).length = o2_191.length).symm⟩⟩, zc rfl rfl, zc rfl rfl, zc rfl rfl, trivial⟩ ⟨bx rfl rfl rfl, oa rfl, oa rfl, trivial⟩) (SOps.nil ?_)
        exact ⟨((o1_190.set t45_189.toNat (IntKind.wrap .i64 (o1_190.getD t45_189.toNat 0 + 1))).set t45_189.toNat (IntKind.wrap .i64 ((o1_190.set t45_189.toNat (IntKind.wrap .i64 (o1_190.getD t45_189.toNat 0 + 1))).getD t45_189.toNat 0 - 1)), o2_191.set t45_189.toNat false), h, sub_gen [0, 1, 2] rfl rfl (zall rfl rfl) ⟨bx rfl rfl rfl, oa rfl, oa rfl, trivial⟩⟩
       obtain ⟨c_227, g228, h⟩ := bind_out h
       try dsimp only at h
       refine SCode.drawK mixed [[], [], [0, 1], [0, 1, 2], [], [4], [0, 1, 2, 3, 4, 5], [0, 1, 2, 3, 4, 5, 6], [0, 1, 2, 3, 4, 5, 6, 7], [0, 1, 2, 3, 4, 5, 6, 7], [0, 1, 2, 3, 4, 5, 6, 7, 8, 9], [0, 1, 2, 3, 4, 5, 6, 7, 8, 9, 10], [0, 1, 2, 3, 4, 5, 6, 7, 8, 9, 10, 11]] 13 0 rfl rfl (qm rfl rfl rfl rfl rfl (qm rfl rfl rfl rfl rfl (qr rfl rfl rfl (q_index_own rfl rfl rfl sl22 g222.1 g222.2) (qr rfl rfl rfl (q_load_aptr rfl rfl rfl (toNat_lt g222) rfl ty3) (qr rfl rfl rfl (q_field_ptr rfl rfl fd39_2) (qr rfl rfl rfl (q_load_ptr rfl rfl rfl rfl ty3) (qr rfl rfl rfl (q_gtr rfl rfl rfl) (qm rfl rfl rfl rfl rfl (QK.run rfl (.guard 7 68 false rfl rfl (gF g223)) rfl (q_load_ptr_all rfl rfl rfl rfl rfl ty26) ?_)))))))))
       refine QK.run rfl (.guard 7 68 false rfl rfl (gF g223)) rfl (q_move rfl rfl) (QK.run rfl (.guard 7 68 false rfl rfl (gF g223)) rfl (q_call (chargenetref18_fits_ok F a0_p (o1_190.set t45_189.toNat (IntKind.wrap .i64 (o1_190.getD t45_189.toNat 0 + 1))) c_227 g228) [1] rfl fn29 ⟨⟨rfl, rfl⟩, ⟨_, rfl, .inr (.inl ⟨_, _, _, _, _, _, _, rfl, rfl, rfl, Nat.le_refl _, fun _ _ _ _ => rfl, (.head _)⟩)⟩, trivial⟩ (.inr rfl)) (QK.run rfl (.guard 7 68 false rfl rfl (gF g223)) rfl (q_not rfl rfl) (qr rfl rfl rfl (q_pick_f rfl rfl g223 rfl) (QK.nil ?_))))
       refine (show SOps _ _ _ [] _ _ from ?_)
       let y7 := o1_190.set t45_189.toNat (IntKind.wrap .i64 (o1_190.getD t45_189.toNat 0 + 1))
       refine SOps.sub (st' := ⟨[(1, .c (.ptr 0 0)), (5, .c (.own 1 y7.length)), (6, .c (.own 2 o2_191.length)), (8, ci t45_189), (43, .c (vSDemand a0_p.Demands)), (44, ci (((a0_p.Demands).length : Int))), (45, ci t45_189), (73, .c (.bool ((!c_227))))], [.box (bSProblem a0_p), aI 3 y7, aB 4 o2_191]⟩) (sub_gen [0, 1, 2] rfl rfl (zall rfl rfl) ⟨bx rfl rfl rfl, oa rfl, oa rfl, trivial⟩) (SOps.nil ?_)
       rcases cond_out h with ⟨g229, h⟩ | ⟨g229, h⟩
       ·refine SCode.cond_t rfl g229 (SCode.seq ?_)
        obtain ⟨g230, h⟩ := guard_out h
        obtain ⟨g231, h⟩ := guard_out h
        refine SCode.region (show SOps _ _ _ [0, 1, 2, 3, 4, 5, 6] _ _ from ?_)
        refine sm rfl rfl rfl rfl rfl (sm rfl rfl rfl rfl rfl (sq rfl rfl rfl (q_index_own rfl rfl rfl sl22 g230.1 g230.2) (sq rfl rfl rfl (q_load_aptr rfl rfl rfl (toNat_lt g230) rfl ty3) (sq rfl rfl rfl (q_sub rfl rfl rfl) (sq rfl rfl rfl (q_index_own rfl rfl rfl sl22 g231.1 g231.2) (se rfl rfl (e_storeL (IntKind.wrap .i64 ((o1_190.set t45_189.toNat (IntKind.wrap .i64 (o1_190.getD t45_189.toNat 0 + 1))).getD t45_189.toNat 0 - 1)) rfl rfl rfl rfl rfl (toNat_lt g231) ty3 rfl rfl rfl rfl rfl rfl) ?_))))))
        let y8 := o1_190.set t45_189.toNat (IntKind.wrap .i64 (o1_190.getD t45_189.toNat 0 + 1))
        let y9 := y8.set t45_189.toNat (IntKind.wrap .i64 (y8.getD t45_189.toNat 0 - 1))
        refine SOps.sub (st' := ⟨[(1, .c (.ptr 0 0)), (5, .c (.own 1 y9.length)), (6, .c (.own 2 o2_191.length)), (8, ci t45_189), (43, .c (vSDemand a0_p.Demands)), (44, ci (((a0_p.Demands).length : Int))), (45, ci t45_189)], [.box (bSProblem a0_p), aI 3 y9, aB 4 o2_191]⟩) (sub_gen [0, 1, 2] rfl rfl ⟨zc rfl rfl, ⟨_, rfl, .inl ⟨rfl, congrArg (Cell.own 1) (List.length_set : y9.length = y8.length).symm⟩⟩, zc rfl rfl, zc rfl rfl, zc rfl rfl, zc rfl rfl, zc rfl rfl, trivial⟩ ⟨bx rfl rfl rfl, oa rfl, oa rfl, trivial⟩) (SOps.nil ?_)
        obtain ⟨g232, h⟩ := guard_out h
        refine SCode.region (show SOps _ _ _ [0, 1, 2, 3] _ _ from ?_)
        refine sm rfl rfl rfl rfl rfl (sm rfl rfl rfl rfl rfl (sq rfl rfl rfl (q_index_own rfl rfl rfl sl53 g232.1 g232.2) (se rfl rfl (e_storeL false rfl rfl rfl rfl rfl (toNat_lt g232) ty4 rfl rfl rfl rfl rfl rfl) ?_)))
        let y10 := o1_190.set t45_189.toNat (IntKind.wrap .i64 (o1_190.getD t45_189.toNat 0 + 1))
        refine SOps.sub (st' := ⟨[(1, .c (.ptr 0 0)), (5, .c (.own 1 (y10.set t45_189.toNat (IntKind.wrap .i64 (y10.getD t45_189.toNat 0 - 1))).length)), (6, .c (.own 2 (o2_191.set t45_189.toNat false).length)), (43, .c (vSDemand a0_p.Demands)), (44, ci (((a0_p.Demands).length : Int))), (45, ci t45_189)], [.box (bSProblem a0_p), aI 3 (y10.set t45_189.toNat (IntKind.wrap .i64 (y10.getD t45_189.toNat 0 - 1))), aB 4 (o2_191.set t45_189.toNat false)]⟩) (sub_gen [0, 1, 2] rfl rfl ⟨zc rfl rfl, zc rfl rfl, ⟨_, rfl, .inl ⟨rfl, congrArg (Cell.own 2) (List.length_set : (o2_191.set t45_189.toNat false).length = o2_191.length).symm⟩⟩, zc rfl rfl, zc rfl rfl, zc rfl rfl, trivial⟩ ⟨bx rfl rfl rfl, oa rfl, oa rfl, trivial⟩) (SOps.nil ?_)
        exact ⟨((o1_190.set t45_189.toNat (IntKind.wrap .i64 (o1_190.getD t45_189.toNat 0 + 1))).set t45_189.toNat (IntKind.wrap .i64 ((o1_190.set t45_189.toNat (IntKind.wrap .i64 (o1_190.getD t45_189.toNat 0 + 1))).getD t45_189.toNat 0 - 1)), o2_191.set t45_189.toNat false), h, sub_gen [0, 1, 2] rfl rfl (zall rfl rfl) ⟨bx rfl rfl rfl, oa rfl, oa rfl, trivial⟩⟩
       refine SCode.cond_f rfl g229 (SCode.skip ?_)
       exact ⟨(o1_190.set t45_189.toNat (IntKind.wrap .i64 (o1_190.getD t45_189.toNat 0 + 1)), o2_191), h, sub_gen [0, 1, 2] rfl rfl (zall rfl rfl) ⟨bx rfl rfl rfl, oa rfl, oa rfl, trivial⟩⟩
      rintro ⟨o1_214, o2_215⟩ h
      show SCode _ _ _ (S25 o1_214 o2_215) _
      try dsimp only at h
      unfold chargenetref18_Fair_p216 at h
      refine SCode.region (show SOps _ _ _ [0, 1] _ _ from ?_)
      refine sq rfl rfl rfl (q_add rfl rfl rfl) (sm rfl rfl rfl rfl rfl (SOps.nil ?_))
      exact ⟨(n_212, (IntKind.wrap .i64 (t45_189 + 1), o1_214, o2_215)), h, Nat.lt_succ_self n_212, sub_gen [0, 1, 2] rfl rfl (zall rfl rfl) ⟨bx rfl rfl rfl, oa rfl, oa rfl, trivial⟩⟩
     refine SCode.cond_f rfl g213 (SCode.exit ?_)
     exact ⟨(n_161, (o1_190, o2_191)), h, Nat.lt_succ_self n_161, sub_gen [0, 1, 2] rfl rfl (zall rfl rfl) ⟨bx rfl rfl rfl, oa rfl, oa rfl, trivial⟩⟩
   refine SCode.cond_f rfl g164 (SCode.exit ?_)
   exact ⟨o1_88, h, sub_gen [1] rfl rfl (zall rfl rfl) ⟨oa rfl, trivial⟩⟩
 rintro o0_7 h
 show SCode _ _ _ (S28 o0_7) _
 try dsimp only at h
 unfold chargenetref18_Fair_p8 at h
 refine SCode.seq ?_
 refine SCode.region (show SOps _ _ _ [0, 1, 2] _ _ from ?_)
 refine sm rfl rfl rfl rfl rfl (sa rfl rfl rfl rfl rfl (sa rfl rfl rfl rfl rfl (SOps.nil (SCode.ret ?_))))
 obtain rfl := Option.some.inj h
 exact ⟨⟨[(2, .c (vI o0_7)), (3, ci 0)], []⟩, _, sub_gen [] rfl rfl ⟨⟨_, rfl, .inr (.inl ⟨_, _, _, _, _, _, _, rfl, rfl, rfl, Nat.le_refl _, fun _ _ _ _ => rfl, nm rfl⟩)⟩, zc rfl rfl, trivial⟩ trivial, resA2 (v1 := .c (vI o0_7)) (v2 := .c (.int .i64 0)) rfl rfl rfl, rfl⟩
end Go.Proofs.Ytfefnffdocmlmaa.W
