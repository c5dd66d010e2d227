/- Written by a program of ours (wip/eng/gen.py): the functions compute their models. -/
import Derived.Test.YtfefnffdocmlmaaFacts
import Derived.Test.YtfefnffdocmlmaaV4x9
namespace Go.Proofs.Ytfefnffdocmlmaa.W
open Go Go.Proofs Go.Proofs.Ytfefnffdocmlmaa.E Go.Proofs.Ytfefnffdocmlmaa.M
set_option linter.unusedVariables false
set_option maxRecDepth 100000 in
set_option maxHeartbeats 8000000 in
theorem chargenetref18_network_ok (F : Nat) (a0_p : SProblem) (a1_energy : List Int) (r : SNet) (h : chargenetref18_network F a0_p a1_energy = some r) :
  SFun Try.prog 46 [] [.a (bSProblem a0_p), .c (vI a1_energy)] (fun x _ => x = .a (bSNet r)) := by
 refine SFun.of (n := 125) Try.func46 rfl rfl rfl ?_
 unfold chargenetref18_network at h
 show SCode _ _ _ ⟨[(0, .a (bSProblem a0_p)), (1, .c (vI a1_energy))], []⟩ _
 refine SCode.seq ?_
 refine SCode.region (show SOps _ _ _ [0, 1] _ _ from ?_)
 refine se rfl rfl (e_box rfl rfl rfl rfl rfl rfl) (se rfl rfl (e_alloc rfl rfl rfl z49) (SOps.sub (st' := ⟨[(1, .c (vI a1_energy)), (2, .c (.ptr 0 0)), (4, .c (.ptr 1 0))], [.box (bSProblem a0_p), .box [.int .i64 0, .own 2 (([] : List SArc)).length], aSArc 63 (([] : List SArc))]⟩) (Sub.trans (Sub.nilBox (id := 1) (j := 1) (T := 63) (k := 3) (g := gL cSArc dSArc ([] : List SArc)) rfl rfl) (sub_gen [0, 1, 2] rfl rfl (zall rfl rfl) ⟨bx rfl rfl rfl, bx rfl rfl rfl, oa rfl, trivial⟩)) (SOps.nil (SCode.seq ?_))))
 refine SCode.region (show SOps _ _ _ [0, 1, 2, 3, 4, 5, 6, 7, 8, 9, 10, 11, 12, 13, 14] _ _ from ?_)
 refine sq rfl rfl rfl (q_field_ptr rfl rfl fd26_4) (sq rfl rfl rfl (q_load_ptr rfl rfl rfl rfl ty24) (sq rfl rfl rfl (q_len_vec rfl rfl sl24) (sq rfl rfl rfl (q_add rfl rfl rfl) (sq rfl rfl rfl (q_field_ptr rfl rfl fd26_1) (sq rfl rfl rfl (q_load_ptr rfl rfl rfl rfl ty23) (sq rfl rfl rfl (q_len_vec rfl rfl sl23) (sq rfl rfl rfl (q_field_ptr rfl rfl fd26_0) (sq rfl rfl rfl (q_load_ptr rfl rfl rfl rfl ty22) (sq rfl rfl rfl (q_len_vec rfl rfl sl22) ?_)))))))))
 refine sq rfl rfl rfl (q_mul rfl rfl rfl) (sq rfl rfl rfl (q_add rfl rfl rfl) (sq rfl rfl rfl (q_build2 rfl rfl pl49 rfl) (se rfl rfl (e_alloc rfl rfl rfl z49) (se rfl rfl (e_store_box rfl rfl rfl rfl rfl ty49 rfl rfl rfl rfl) (SOps.sub (st' := ⟨[(1, .c (vI a1_energy)), (2, .c (.ptr 0 0)), (4, .c (.ptr 1 0)), (5, .c (.ptr 3 0))], [.box (bSProblem a0_p), .box [.int .i64 0, .own 2 (([] : List SArc)).length], aSArc 63 (([] : List SArc)), .box [.int .i64 (IntKind.wrap .i64 (IntKind.wrap .i64 (2 + ((a0_p.Demands).length : Int)) + IntKind.wrap .i64 (((a0_p.Caps).length : Int) * ((a0_p.Parents).length : Int)))), .own 4 (([] : List SArc)).length], aSArc 63 (([] : List SArc))]⟩) (Sub.trans (Sub.nilBox (id := 3) (j := 1) (T := 63) (k := 3) (g := gL cSArc dSArc ([] : List SArc)) rfl rfl) (sub_gen [0, 1, 2, 3, 4] rfl rfl (zall rfl rfl) ⟨bx rfl rfl rfl, bx rfl rfl rfl, oa rfl, bx rfl rfl rfl, oa rfl, trivial⟩)) (SOps.nil ?_))))))
 refine SCode.join (σ := (List SArc)) (S := fun s => ⟨[(2, .c (.ptr 0 0)), (4, .c (.ptr 1 0)), (5, .c (.ptr 3 0))], [.box (bSProblem a0_p), .box [.int .i64 0, .own 2 (([] : List SArc)).length], aSArc 63 (([] : List SArc)), .box [.int .i64 (IntKind.wrap .i64 (IntKind.wrap .i64 (2 + ((a0_p.Demands).length : Int)) + IntKind.wrap .i64 (((a0_p.Caps).length : Int) * ((a0_p.Parents).length : Int)))), .own 4 s.length], aSArc 63 s]⟩) (g := fun s => chargenetref18_network_p136 F a0_p s = some r) ?_ ?_
 rotate_left
 ·refine SCode.seq ?_
  refine SCode.region (show SOps _ _ _ [0, 1, 2, 3] _ _ from ?_)
  refine sq rfl rfl rfl (q_field_ptr rfl rfl fd26_4) (sq rfl rfl rfl (q_load_ptr rfl rfl rfl rfl ty24) (sq rfl rfl rfl (q_len_vec rfl rfl sl24) (sm rfl rfl rfl rfl rfl (SOps.nil (SCode.block (SCode.sub (st' := ⟨[(1, .c (vI a1_energy)), (2, .c (.ptr 0 0)), (4, .c (.ptr 1 0)), (5, .c (.ptr 3 0)), (28, .c (vSDemand a0_p.Demands)), (29, ci (((a0_p.Demands).length : Int))), (30, ci 0)], [.box (bSProblem a0_p), .box [.int .i64 0, .own 2 (([] : List SArc)).length], aSArc 63 (([] : List SArc)), .box [.int .i64 (IntKind.wrap .i64 (IntKind.wrap .i64 (2 + ((a0_p.Demands).length : Int)) + IntKind.wrap .i64 (((a0_p.Caps).length : Int) * ((a0_p.Parents).length : Int)))), .own 4 ([] : List SArc).length], aSArc 63 ([] : List SArc)]⟩) (sub_gen [0, 1, 2, 3, 4] rfl rfl (zall rfl rfl) ⟨bx rfl rfl rfl, bx rfl rfl rfl, oa rfl, bx rfl rfl rfl, oa rfl, trivial⟩) ?_))))))
  refine (SCode.loop (σ := Nat × (Int × (List SArc))) (S := fun s => ⟨[(1, .c (vI a1_energy)), (2, .c (.ptr 0 0)), (4, .c (.ptr 1 0)), (5, .c (.ptr 3 0)), (28, .c (vSDemand a0_p.Demands)), (29, ci (((a0_p.Demands).length : Int))), (30, ci s.2.1)], [.box (bSProblem a0_p), .box [.int .i64 0, .own 2 (([] : List SArc)).length], aSArc 63 (([] : List SArc)), .box [.int .i64 (IntKind.wrap .i64 (IntKind.wrap .i64 (2 + ((a0_p.Demands).length : Int)) + IntKind.wrap .i64 (((a0_p.Caps).length : Int) * ((a0_p.Parents).length : Int)))), .own 4 s.2.2.length], aSArc 63 s.2.2]⟩) (g := fun s => chargenetref18_network_l211 F a0_p a1_energy s.1 s.2.1 s.2.2 = some r) (μ := fun s => s.1) (F, (0, ([] : List SArc))) h ?_)
  rintro ⟨n_211, ⟨t30_173, o4_174⟩⟩ h
  replace h : chargenetref18_network_l211 F a0_p a1_energy n_211 t30_173 o4_174 = some r := h
  show SCode _ _ _ ⟨[(1, .c (vI a1_energy)), (2, .c (.ptr 0 0)), (4, .c (.ptr 1 0)), (5, .c (.ptr 3 0)), (28, .c (vSDemand a0_p.Demands)), (29, ci (((a0_p.Demands).length : Int))), (30, ci t30_173)], [.box (bSProblem a0_p), .box [.int .i64 0, .own 2 (([] : List SArc)).length], aSArc 63 (([] : List SArc)), .box [.int .i64 (IntKind.wrap .i64 (IntKind.wrap .i64 (2 + ((a0_p.Demands).length : Int)) + IntKind.wrap .i64 (((a0_p.Caps).length : Int) * ((a0_p.Parents).length : Int)))), .own 4 o4_174.length], aSArc 63 o4_174]⟩ _
  cases n_211 with
  | zero => cases h
  | succ n_211 =>
   replace h : chargenetref18_network_b211 F a0_p a1_energy (fun t30_173 o4_174 => chargenetref18_network_l211 F a0_p a1_energy n_211 t30_173 o4_174) t30_173 o4_174 = some r := h
   unfold chargenetref18_network_b211 at h
   refine SCode.seq ?_
   refine SCode.region (show SOps _ _ _ [0] _ _ from ?_)
   refine sq rfl rfl rfl (q_lss rfl rfl rfl) (SOps.nil (SCode.seq ?_))
   rcases cond_out h with ⟨g212, h⟩ | ⟨g212, h⟩
   ·refine SCode.cond_t rfl g212 (SCode.skip ?_)
    refine SCode.join (σ := (List SArc)) (S := fun s => ⟨[(1, .c (vI a1_energy)), (2, .c (.ptr 0 0)), (4, .c (.ptr 1 0)), (5, .c (.ptr 3 0)), (28, .c (vSDemand a0_p.Demands)), (29, ci (((a0_p.Demands).length : Int))), (30, ci t30_173)], [.box (bSProblem a0_p), .box [.int .i64 0, .own 2 (([] : List SArc)).length], aSArc 63 (([] : List SArc)), .box [.int .i64 (IntKind.wrap .i64 (IntKind.wrap .i64 (2 + ((a0_p.Demands).length : Int)) + IntKind.wrap .i64 (((a0_p.Caps).length : Int) * ((a0_p.Parents).length : Int)))), .own 4 s.length], aSArc 63 s]⟩) (g := fun s => chargenetref18_network_p214 t30_173 (fun t30_173 o4_174 => chargenetref18_network_l211 F a0_p a1_energy n_211 t30_173 o4_174) s = some r) ?_ ?_
    rotate_left
    ·refine SCode.block (SCode.seq ?_)
     obtain ⟨g215, h⟩ := guard_out h
     refine SCode.region (show SOps _ _ _ [0, 1, 2, 3, 4, 5] _ _ from ?_)
     refine sm rfl rfl rfl rfl rfl (sq rfl rfl rfl (q_index_vec rfl rfl rfl sl24 rfl g215.1 g215.2) (sq rfl rfl rfl (q_load_eptr_all rfl rfl rfl ty39) (se rfl rfl (e_alloc rfl rfl rfl z39) (sa rfl rfl rfl rfl rfl (se rfl rfl (e_store_box rfl rfl rfl rfl rfl ty39 rfl rfl rfl rfl) (SOps.nil (SCode.seq (SCode.sub (st' := ⟨[(1, .c (vI a1_energy)), (2, .c (.ptr 0 0)), (4, .c (.ptr 1 0)), (5, .c (.ptr 3 0)), (6, ci t30_173), (7, .c (.ptr 5 0)), (28, .c (vSDemand a0_p.Demands)), (29, ci (((a0_p.Demands).length : Int))), (30, ci t30_173)], [.box (bSProblem a0_p), .box [.int .i64 0, .own 2 (([] : List SArc)).length], aSArc 63 (([] : List SArc)), .box [.int .i64 (IntKind.wrap .i64 (IntKind.wrap .i64 (2 + ((a0_p.Demands).length : Int)) + IntKind.wrap .i64 (((a0_p.Caps).length : Int) * ((a0_p.Parents).length : Int)))), .own 4 o4_174.length], aSArc 63 o4_174, .box (bSDemand (a0_p.Demands.getD t30_173.toNat dSDemand))]⟩) (sub_gen [0, 1, 2, 3, 4, 5] rfl rfl (zall rfl rfl) ⟨bx rfl rfl rfl, bx rfl rfl rfl, oa rfl, bx rfl rfl rfl, oa rfl, bx rfl rfl rfl, trivial⟩) ?_))))))))
     obtain ⟨g216, h⟩ := guard_out h
     obtain ⟨g217, h⟩ := guard_out h
     refine SCode.draw (s' := [(44, .c (vSArc ([SArc.mk 0 (IntKind.wrap .i64 (2 + t30_173)) (a1_energy.getD t30_173.toNat 0)]))), (43, .a [.int .i64 0, .int .i64 (IntKind.wrap .i64 (2 + t30_173)), .int .i64 (a1_energy.getD t30_173.toNat 0)]), (42, ci (a1_energy.getD t30_173.toNat 0)), (41, .c (.eptr 1 ((cInt .i64) (a1_energy.getD t30_173.toNat 0)) 0)), (40, ci t30_173), (39, .c (vI a1_energy)), (38, ci (IntKind.wrap .i64 (2 + t30_173))), (37, ci t30_173), (36, .c (.own 4 o4_174.length)), (35, .c (.ptr 3 1)), (1, .c (vI a1_energy)), (2, .c (.ptr 0 0)), (4, .c (.ptr 1 0)), (5, .c (.ptr 3 0)), (6, ci t30_173), (7, .c (.ptr 5 0)), (28, .c (vSDemand a0_p.Demands)), (29, ci (((a0_p.Demands).length : Int))), (30, ci t30_173)]) mixed [[], [0], [], [2], [], [], [4, 5], [4, 5, 6], [2, 3, 4, 5, 6, 7], [2, 3, 4, 5, 6, 7, 8], [0, 1, 2, 3, 4, 5, 6, 7, 8, 9], [0, 1, 2, 3, 4, 5, 6, 7, 8, 9, 10], [0, 1, 2, 3, 4, 5, 6, 7, 8, 9, 10, 11]] 10 3 rfl rfl ?_ ?_
     ·refine QChain.run rfl (.plain rfl) rfl (q_field_ptr rfl rfl fd49_1) (QChain.run rfl (.plain rfl) rfl (q_load_ptr rfl rfl rfl rfl ty47) (QChain.run rfl (.plain rfl) rfl (q_move rfl rfl) (QChain.run rfl (.plain rfl) rfl (q_add rfl rfl rfl) (QChain.run rfl (.plain rfl) rfl (q_move rfl rfl) (QChain.run rfl (.plain rfl) rfl (q_move rfl rfl) (QChain.run rfl (.plain rfl) rfl (q_index_vec rfl rfl rfl sl22 rfl g216.1 g216.2) (QChain.run rfl (.plain rfl) rfl (q_load_eptr rfl rfl ty3) (QChain.run rfl (.plain rfl) rfl (q_build2 rfl rfl pl63 rfl) (QChain.run rfl (.plain rfl) rfl (q_bsliceL (c := cSArc) (d0 := dSArc) [SArc.mk 0 (IntKind.wrap .i64 (2 + t30_173)) (a1_energy.getD t30_173.toNat 0)] rfl rfl sl47 z63 rfl rfl rfl rfl rfl rfl rfl) ?_)))))))))
      exact QChain.nil _ _
     refine (show SOps _ _ _ [10, 11, 12] _ _ from ?_)
     refine se rfl rfl (e_appendL (c := cSArc) (d0 := dSArc) (l := o4_174) (l2 := [SArc.mk 0 (IntKind.wrap .i64 (2 + t30_173)) (a1_energy.getD t30_173.toNat 0)]) rfl rfl rfl rfl rfl rfl (.inl rfl) sl47 z63 rfl rfl oneSArc g217.1 g217.2) (sq rfl rfl rfl (q_field_ptr rfl rfl fd49_1) (se rfl rfl (e_store_box rfl rfl rfl rfl rfl ty47 rfl rfl rfl rfl) (SOps.sub (st' := ⟨[(1, .c (vI a1_energy)), (2, .c (.ptr 0 0)), (4, .c (.ptr 1 0)), (5, .c (.ptr 3 0)), (6, ci t30_173), (7, .c (.ptr 5 0)), (28, .c (vSDemand a0_p.Demands)), (29, ci (((a0_p.Demands).length : Int))), (30, ci t30_173)], [.box (bSProblem a0_p), .box [.int .i64 0, .own 2 (([] : List SArc)).length], aSArc 63 (([] : List SArc)), .box [.int .i64 (IntKind.wrap .i64 (IntKind.wrap .i64 (2 + ((a0_p.Demands).length : Int)) + IntKind.wrap .i64 (((a0_p.Caps).length : Int) * ((a0_p.Parents).length : Int)))), .own 4 (o4_174 ++ ([SArc.mk 0 (IntKind.wrap .i64 (2 + t30_173)) (a1_energy.getD t30_173.toNat 0)])).length], aSArc 63 (o4_174 ++ ([SArc.mk 0 (IntKind.wrap .i64 (2 + t30_173)) (a1_energy.getD t30_173.toNat 0)])), .box (bSDemand (a0_p.Demands.getD t30_173.toNat dSDemand))]⟩) (sub_gen [0, 1, 2, 3, 6, 5] rfl rfl (zall rfl rfl) ⟨bx rfl rfl rfl, bx rfl rfl rfl, oa rfl, bx rfl rfl rfl, oa rfl, bx rfl rfl rfl, trivial⟩) (SOps.nil (SCode.seq ?_)))))
     refine SCode.region (show SOps _ _ _ [0, 1, 2, 3] _ _ from ?_)
     refine sq rfl rfl rfl (q_field_ptr rfl rfl fd26_1) (sq rfl rfl rfl (q_load_ptr rfl rfl rfl rfl ty23) (sq rfl rfl rfl (q_len_vec rfl rfl sl23) (sm rfl rfl rfl rfl rfl (SOps.nil (SCode.block (SCode.sub (st' := ⟨[(1, .c (vI a1_energy)), (2, .c (.ptr 0 0)), (4, .c (.ptr 1 0)), (5, .c (.ptr 3 0)), (6, ci t30_173), (7, .c (.ptr 5 0)), (28, .c (vSDemand a0_p.Demands)), (29, ci (((a0_p.Demands).length : Int))), (30, ci t30_173), (49, ci (((a0_p.Caps).length : Int))), (50, ci 0)], [.box (bSProblem a0_p), .box [.int .i64 0, .own 2 (([] : List SArc)).length], aSArc 63 (([] : List SArc)), .box [.int .i64 (IntKind.wrap .i64 (IntKind.wrap .i64 (2 + ((a0_p.Demands).length : Int)) + IntKind.wrap .i64 (((a0_p.Caps).length : Int) * ((a0_p.Parents).length : Int)))), .own 4 (o4_174 ++ ([SArc.mk 0 (IntKind.wrap .i64 (2 + t30_173)) (a1_energy.getD t30_173.toNat 0)])).length], aSArc 63 (o4_174 ++ ([SArc.mk 0 (IntKind.wrap .i64 (2 + t30_173)) (a1_energy.getD t30_173.toNat 0)])), .box (bSDemand (a0_p.Demands.getD t30_173.toNat dSDemand))]⟩) (sub_gen [0, 1, 2, 3, 4, 5] rfl rfl (zall rfl rfl) ⟨bx rfl rfl rfl, bx rfl rfl rfl, oa rfl, bx rfl rfl rfl, oa rfl, bx rfl rfl rfl, trivial⟩) ?_))))))
     refine (SCode.loop (σ := Nat × (Int × (List SArc))) (S := fun s => ⟨[(1, .c (vI a1_energy)), (2, .c (.ptr 0 0)), (4, .c (.ptr 1 0)), (5, .c (.ptr 3 0)), (6, ci t30_173), (7, .c (.ptr 5 0)), (28, .c (vSDemand a0_p.Demands)), (29, ci (((a0_p.Demands).length : Int))), (30, ci t30_173), (49, ci (((a0_p.Caps).length : Int))), (50, ci s.2.1)], [.box (bSProblem a0_p), .box [.int .i64 0, .own 2 (([] : List SArc)).length], aSArc 63 (([] : List SArc)), .box [.int .i64 (IntKind.wrap .i64 (IntKind.wrap .i64 (2 + ((a0_p.Demands).length : Int)) + IntKind.wrap .i64 (((a0_p.Caps).length : Int) * ((a0_p.Parents).length : Int)))), .own 4 s.2.2.length], aSArc 63 s.2.2, .box (bSDemand (a0_p.Demands.getD t30_173.toNat dSDemand))]⟩) (g := fun s => chargenetref18_network_l238 F a0_p t30_173 (fun t30_173 o4_174 => chargenetref18_network_l211 F a0_p a1_energy n_211 t30_173 o4_174) s.1 s.2.1 s.2.2 = some r) (μ := fun s => s.1) (F, (0, o4_174 ++ ([SArc.mk 0 (IntKind.wrap .i64 (2 + t30_173)) (a1_energy.getD t30_173.toNat 0)]))) h ?_)
     rintro ⟨n_238, ⟨t50_227, o4_228⟩⟩ h
     replace h : chargenetref18_network_l238 F a0_p t30_173 (fun t30_173 o4_174 => chargenetref18_network_l211 F a0_p a1_energy n_211 t30_173 o4_174) n_238 t50_227 o4_228 = some r := h
     show SCode _ _ _ ⟨[(1, .c (vI a1_energy)), (2, .c (.ptr 0 0)), (4, .c (.ptr 1 0)), (5, .c (.ptr 3 0)), (6, ci t30_173), (7, .c (.ptr 5 0)), (28, .c (vSDemand a0_p.Demands)), (29, ci (((a0_p.Demands).length : Int))), (30, ci t30_173), (49, ci (((a0_p.Caps).length : Int))), (50, ci t50_227)], [.box (bSProblem a0_p), .box [.int .i64 0, .own 2 (([] : List SArc)).length], aSArc 63 (([] : List SArc)), .box [.int .i64 (IntKind.wrap .i64 (IntKind.wrap .i64 (2 + ((a0_p.Demands).length : Int)) + IntKind.wrap .i64 (((a0_p.Caps).length : Int) * ((a0_p.Parents).length : Int)))), .own 4 o4_228.length], aSArc 63 o4_228, .box (bSDemand (a0_p.Demands.getD t30_173.toNat dSDemand))]⟩ _
     cases n_238 with
     | zero => cases h
     | succ n_238 =>
      replace h : chargenetref18_network_b238 F a0_p t30_173 (fun t30_173 o4_174 => chargenetref18_network_l211 F a0_p a1_energy n_211 t30_173 o4_174) (fun t50_227 o4_228 => chargenetref18_network_l238 F a0_p t30_173 (fun t30_173 o4_174 => chargenetref18_network_l211 F a0_p a1_energy n_211 t30_173 o4_174) n_238 t50_227 o4_228) t50_227 o4_228 = some r := h
      unfold chargenetref18_network_b238 at h
      refine SCode.seq ?_
      refine SCode.region (show SOps _ _ _ [0] _ _ from ?_)
      refine sq rfl rfl rfl (q_lss rfl rfl rfl) (SOps.nil (SCode.seq ?_))
      rcases cond_out h with ⟨g239, h⟩ | ⟨g239, h⟩
      ·refine SCode.cond_t rfl g239 (SCode.skip ?_)
       refine SCode.join (σ := (List SArc)) (S := fun s => ⟨[(1, .c (vI a1_energy)), (2, .c (.ptr 0 0)), (4, .c (.ptr 1 0)), (5, .c (.ptr 3 0)), (6, ci t30_173), (7, .c (.ptr 5 0)), (28, .c (vSDemand a0_p.Demands)), (29, ci (((a0_p.Demands).length : Int))), (30, ci t30_173), (49, ci (((a0_p.Caps).length : Int))), (50, ci t50_227)], [.box (bSProblem a0_p), .box [.int .i64 0, .own 2 (([] : List SArc)).length], aSArc 63 (([] : List SArc)), .box [.int .i64 (IntKind.wrap .i64 (IntKind.wrap .i64 (2 + ((a0_p.Demands).length : Int)) + IntKind.wrap .i64 (((a0_p.Caps).length : Int) * ((a0_p.Parents).length : Int)))), .own 4 s.length], aSArc 63 s, .box (bSDemand (a0_p.Demands.getD t30_173.toNat dSDemand))]⟩) (g := fun s => chargenetref18_network_p241 t50_227 (fun t50_227 o4_228 => chargenetref18_network_l238 F a0_p t30_173 (fun t30_173 o4_174 => chargenetref18_network_l211 F a0_p a1_energy n_211 t30_173 o4_174) n_238 t50_227 o4_228) s = some r) ?_ ?_
       rotate_left
       ·refine SCode.block (SCode.seq ?_)
        refine SCode.region (show SOps _ _ _ [0, 1] _ _ from ?_)
        refine sm rfl rfl rfl rfl rfl (sa rfl rfl rfl rfl rfl (SOps.nil (SCode.seq ?_)))
        obtain ⟨c_242, g243, h⟩ := bind_out h
        try dsimp only at h
        refine SCode.region (show SOps _ _ _ [0, 1, 2, 3] _ _ from ?_)
        refine sq rfl rfl rfl (q_load_ptr_all rfl rfl rfl rfl rfl ty26) (sq rfl rfl rfl (q_load_ptr_all rfl rfl rfl rfl rfl ty39) (sm rfl rfl rfl rfl rfl (sq rfl rfl rfl (q_call (chargenetref18_Usable_ok F a0_p (a0_p.Demands.getD t30_173.toNat dSDemand) t50_227 c_242 g243) [] rfl fn38 ⟨⟨rfl, rfl⟩, ⟨rfl, rfl⟩, ⟨_, rfl, .inl ⟨rfl, rfl⟩⟩, trivial⟩ (.inl rfl)) (SOps.nil ?_))))
        rcases cond_out h with ⟨g244, h⟩ | ⟨g244, h⟩
        ·refine SCode.cond_t rfl g244 (SCode.sub (st' := ⟨[(1, .c (vI a1_energy)), (2, .c (.ptr 0 0)), (4, .c (.ptr 1 0)), (5, .c (.ptr 3 0)), (6, ci t30_173), (7, .c (.ptr 5 0)), (8, ci t50_227), (28, .c (vSDemand a0_p.Demands)), (29, ci (((a0_p.Demands).length : Int))), (30, ci t30_173), (49, ci (((a0_p.Caps).length : Int))), (50, ci t50_227)], [.box (bSProblem a0_p), .box [.int .i64 0, .own 2 (([] : List SArc)).length], aSArc 63 (([] : List SArc)), .box [.int .i64 (IntKind.wrap .i64 (IntKind.wrap .i64 (2 + ((a0_p.Demands).length : Int)) + IntKind.wrap .i64 (((a0_p.Caps).length : Int) * ((a0_p.Parents).length : Int)))), .own 4 o4_228.length], aSArc 63 o4_228, .box (bSDemand (a0_p.Demands.getD t30_173.toNat dSDemand))]⟩) (sub_gen [0, 1, 2, 3, 4, 5] rfl rfl (zall rfl rfl) ⟨bx rfl rfl rfl, bx rfl rfl rfl, oa rfl, bx rfl rfl rfl, oa rfl, bx rfl rfl rfl, trivial⟩) ?_)
         obtain ⟨c_245, g246, h⟩ := bind_out h
         try dsimp only at h
         obtain ⟨g247, h⟩ := guard_out h
         refine SCode.draw (s' := [(72, .c (vSArc ([SArc.mk (IntKind.wrap .i64 (2 + t30_173)) c_245 (IntKind.wrap .i64 ((a0_p.Demands.getD t30_173.toNat dSDemand).Max * a0_p.Length))]))), (71, .a [.int .i64 (IntKind.wrap .i64 (2 + t30_173)), .int .i64 c_245, .int .i64 (IntKind.wrap .i64 ((a0_p.Demands.getD t30_173.toNat dSDemand).Max * a0_p.Length))]), (70, ci (IntKind.wrap .i64 ((a0_p.Demands.getD t30_173.toNat dSDemand).Max * a0_p.Length))), (69, ci a0_p.Length), (68, .c (.ptr 0 3)), (67, ci ((a0_p.Demands.getD t30_173.toNat dSDemand).Max)), (66, .c (.ptr 5 1)), (65, ci c_245), (64, ci ((a0_p.Demands.getD t30_173.toNat dSDemand).Feeder)), (63, .c (.ptr 5 0)), (62, ci t50_227), (61, .a (bSProblem a0_p)), (60, ci (IntKind.wrap .i64 (2 + t30_173))), (59, ci t30_173), (58, .c (.own 4 o4_228.length)), (57, .c (.ptr 3 1)), (1, .c (vI a1_energy)), (2, .c (.ptr 0 0)), (4, .c (.ptr 1 0)), (5, .c (.ptr 3 0)), (6, ci t30_173), (7, .c (.ptr 5 0)), (8, ci t50_227), (28, .c (vSDemand a0_p.Demands)), (29, ci (((a0_p.Demands).length : Int))), (30, ci t30_173), (49, ci (((a0_p.Caps).length : Int))), (50, ci t50_227)]) mixed [[], [0], [], [2], [], [], [], [6], [4, 5, 6, 7], [], [9], [], [11], [9, 10, 11, 12], [2, 3, 4, 5, 6, 7, 8, 9, 10, 11, 12, 13], [2, 3, 4, 5, 6, 7, 8, 9, 10, 11, 12, 13, 14], [0, 1, 2, 3, 4, 5, 6, 7, 8, 9, 10, 11, 12, 13, 14, 15], [0, 1, 2, 3, 4, 5, 6, 7, 8, 9, 10, 11, 12, 13, 14, 15, 16], [0, 1, 2, 3, 4, 5, 6, 7, 8, 9, 10, 11, 12, 13, 14, 15, 16, 17]] 16 3 rfl rfl ?_ ?_
         ·refine QChain.run rfl (.plain rfl) rfl (q_field_ptr rfl rfl fd49_1) (QChain.run rfl (.plain rfl) rfl (q_load_ptr rfl rfl rfl rfl ty47) (QChain.run rfl (.plain rfl) rfl (q_move rfl rfl) (QChain.run rfl (.plain rfl) rfl (q_add rfl rfl rfl) (QChain.run rfl (.plain rfl) rfl (q_load_ptr_all rfl rfl rfl rfl rfl ty26) (QChain.run rfl (.plain rfl) rfl (q_move rfl rfl) (QChain.run rfl (.plain rfl) rfl (q_field_ptr rfl rfl fd39_0) (QChain.run rfl (.plain rfl) rfl (q_load_ptr rfl rfl rfl rfl ty3) (QChain.run rfl (.plain rfl) rfl (q_call (chargenetref18_node_ok F a0_p t50_227 ((a0_p.Demands.getD t30_173.toNat dSDemand).Feeder) c_245 g246) [] rfl fn56 ⟨⟨rfl, rfl⟩, ⟨_, rfl, .inl ⟨rfl, rfl⟩⟩, ⟨_, rfl, .inl ⟨rfl, rfl⟩⟩, trivial⟩ (.inl rfl)) (QChain.run rfl (.plain rfl) rfl (q_field_ptr rfl rfl fd39_1) ?_)))))))))
          refine QChain.run rfl (.plain rfl) rfl (q_load_ptr rfl rfl rfl rfl ty3) (QChain.run rfl (.plain rfl) rfl (q_field_ptr rfl rfl fd26_3) (QChain.run rfl (.plain rfl) rfl (q_load_ptr rfl rfl rfl rfl ty3) (QChain.run rfl (.plain rfl) rfl (q_mul rfl rfl rfl) (QChain.run rfl (.plain rfl) rfl (q_build2 rfl rfl pl63 rfl) (QChain.run rfl (.plain rfl) rfl (q_bsliceL (c := cSArc) (d0 := dSArc) [SArc.mk (IntKind.wrap .i64 (2 + t30_173)) c_245 (IntKind.wrap .i64 ((a0_p.Demands.getD t30_173.toNat dSDemand).Max * a0_p.Length))] rfl rfl sl47 z63 rfl rfl rfl rfl rfl rfl rfl) ?_)))))
          exact QChain.nil _ _
         refine (show SOps _ _ _ [16, 17, 18] _ _ from ?_)
         refine se rfl rfl (e_appendL (c := cSArc) (d0 := dSArc) (l := o4_228) (l2 := [SArc.mk (IntKind.wrap .i64 (2 + t30_173)) c_245 (IntKind.wrap .i64 ((a0_p.Demands.getD t30_173.toNat dSDemand).Max * a0_p.Length))]) rfl rfl rfl rfl rfl rfl (.inl rfl) sl47 z63 rfl rfl oneSArc g247.1 g247.2) (sq rfl rfl rfl (q_field_ptr rfl rfl fd49_1) (se rfl rfl (e_store_box rfl rfl rfl rfl rfl ty47 rfl rfl rfl rfl) (SOps.sub (st' := ⟨[(1, .c (vI a1_energy)), (2, .c (.ptr 0 0)), (4, .c (.ptr 1 0)), (5, .c (.ptr 3 0)), (6, ci t30_173), (7, .c (.ptr 5 0)), (28, .c (vSDemand a0_p.Demands)), (29, ci (((a0_p.Demands).length : Int))), (30, ci t30_173), (49, ci (((a0_p.Caps).length : Int))), (50, ci t50_227)], [.box (bSProblem a0_p), .box [.int .i64 0, .own 2 (([] : List SArc)).length], aSArc 63 (([] : List SArc)), .box [.int .i64 (IntKind.wrap .i64 (IntKind.wrap .i64 (2 + ((a0_p.Demands).length : Int)) + IntKind.wrap .i64 (((a0_p.Caps).length : Int) * ((a0_p.Parents).length : Int)))), .own 4 (o4_228 ++ ([SArc.mk (IntKind.wrap .i64 (2 + t30_173)) c_245 (IntKind.wrap .i64 ((a0_p.Demands.getD t30_173.toNat dSDemand).Max * a0_p.Length))])).length], aSArc 63 (o4_228 ++ ([SArc.mk (IntKind.wrap .i64 (2 + t30_173)) c_245 (IntKind.wrap .i64 ((a0_p.Demands.getD t30_173.toNat dSDemand).Max * a0_p.Length))])), .box (bSDemand (a0_p.Demands.getD t30_173.toNat dSDemand))]⟩) (sub_gen [0, 1, 2, 3, 6, 5] rfl rfl (zall rfl rfl) ⟨bx rfl rfl rfl, bx rfl rfl rfl, oa rfl, bx rfl rfl rfl, oa rfl, bx rfl rfl rfl, trivial⟩) (SOps.nil ?_))))
         exact ⟨o4_228 ++ ([SArc.mk (IntKind.wrap .i64 (2 + t30_173)) c_245 (IntKind.wrap .i64 ((a0_p.Demands.getD t30_173.toNat dSDemand).Max * a0_p.Length))]), h, sub_gen [0, 1, 2, 3, 4, 5] rfl rfl (zall rfl rfl) ⟨bx rfl rfl rfl, bx rfl rfl rfl, oa rfl, bx rfl rfl rfl, oa rfl, bx rfl rfl rfl, trivial⟩⟩
        refine SCode.cond_f rfl g244 (SCode.skip ?_)
        exact ⟨o4_228, h, sub_gen [0, 1, 2, 3, 4, 5] rfl rfl (zall rfl rfl) ⟨bx rfl rfl rfl, bx rfl rfl rfl, oa rfl, bx rfl rfl rfl, oa rfl, bx rfl rfl rfl, trivial⟩⟩
       rintro o4_240 h
       show SCode _ _ _ ⟨[(1, .c (vI a1_energy)), (2, .c (.ptr 0 0)), (4, .c (.ptr 1 0)), (5, .c (.ptr 3 0)), (6, ci t30_173), (7, .c (.ptr 5 0)), (28, .c (vSDemand a0_p.Demands)), (29, ci (((a0_p.Demands).length : Int))), (30, ci t30_173), (49, ci (((a0_p.Caps).length : Int))), (50, ci t50_227)], [.box (bSProblem a0_p), .box [.int .i64 0, .own 2 (([] : List SArc)).length], aSArc 63 (([] : List SArc)), .box [.int .i64 (IntKind.wrap .i64 (IntKind.wrap .i64 (2 + ((a0_p.Demands).length : Int)) + IntKind.wrap .i64 (((a0_p.Caps).length : Int) * ((a0_p.Parents).length : Int)))), .own 4 o4_240.length], aSArc 63 o4_240, .box (bSDemand (a0_p.Demands.getD t30_173.toNat dSDemand))]⟩ _
       replace h : chargenetref18_network_p241 t50_227 (fun t50_227 o4_228 => chargenetref18_network_l238 F a0_p t30_173 (fun t30_173 o4_174 => chargenetref18_network_l211 F a0_p a1_energy n_211 t30_173 o4_174) n_238 t50_227 o4_228) o4_240 = some r := h
       unfold chargenetref18_network_p241 at h
       refine SCode.region (show SOps _ _ _ [0, 1] _ _ from ?_)
       refine sq rfl rfl rfl (q_add rfl rfl rfl) (sm rfl rfl rfl rfl rfl (SOps.nil ?_))
       exact ⟨(n_238, (IntKind.wrap .i64 (t50_227 + 1), o4_240)), h, Nat.lt_succ_self n_238, sub_gen [0, 1, 2, 3, 4, 5] rfl rfl (zall rfl rfl) ⟨bx rfl rfl rfl, bx rfl rfl rfl, oa rfl, bx rfl rfl rfl, oa rfl, bx rfl rfl rfl, trivial⟩⟩
      refine SCode.cond_f rfl g239 (SCode.exit ?_)
      exact ⟨o4_228, h, sub_gen [0, 1, 2, 3, 4] rfl rfl (zall rfl rfl) ⟨bx rfl rfl rfl, bx rfl rfl rfl, oa rfl, bx rfl rfl rfl, oa rfl, trivial⟩⟩
    rintro o4_213 h
    show SCode _ _ _ ⟨[(1, .c (vI a1_energy)), (2, .c (.ptr 0 0)), (4, .c (.ptr 1 0)), (5, .c (.ptr 3 0)), (28, .c (vSDemand a0_p.Demands)), (29, ci (((a0_p.Demands).length : Int))), (30, ci t30_173)], [.box (bSProblem a0_p), .box [.int .i64 0, .own 2 (([] : List SArc)).length], aSArc 63 (([] : List SArc)), .box [.int .i64 (IntKind.wrap .i64 (IntKind.wrap .i64 (2 + ((a0_p.Demands).length : Int)) + IntKind.wrap .i64 (((a0_p.Caps).length : Int) * ((a0_p.Parents).length : Int)))), .own 4 o4_213.length], aSArc 63 o4_213]⟩ _
    replace h : chargenetref18_network_p214 t30_173 (fun t30_173 o4_174 => chargenetref18_network_l211 F a0_p a1_energy n_211 t30_173 o4_174) o4_213 = some r := h
    unfold chargenetref18_network_p214 at h
    refine SCode.region (show SOps _ _ _ [0, 1] _ _ from ?_)
    refine sq rfl rfl rfl (q_add rfl rfl rfl) (sm rfl rfl rfl rfl rfl (SOps.nil ?_))
    exact ⟨(n_211, (IntKind.wrap .i64 (t30_173 + 1), o4_213)), h, Nat.lt_succ_self n_211, sub_gen [0, 1, 2, 3, 4] rfl rfl (zall rfl rfl) ⟨bx rfl rfl rfl, bx rfl rfl rfl, oa rfl, bx rfl rfl rfl, oa rfl, trivial⟩⟩
   refine SCode.cond_f rfl g212 (SCode.exit ?_)
   exact ⟨o4_174, h, sub_gen [0, 1, 2, 3, 4] rfl rfl (zall rfl rfl) ⟨bx rfl rfl rfl, bx rfl rfl rfl, oa rfl, bx rfl rfl rfl, oa rfl, trivial⟩⟩
 rintro o4_1 h
 show SCode _ _ _ ⟨[(2, .c (.ptr 0 0)), (4, .c (.ptr 1 0)), (5, .c (.ptr 3 0))], [.box (bSProblem a0_p), .box [.int .i64 0, .own 2 (([] : List SArc)).length], aSArc 63 (([] : List SArc)), .box [.int .i64 (IntKind.wrap .i64 (IntKind.wrap .i64 (2 + ((a0_p.Demands).length : Int)) + IntKind.wrap .i64 (((a0_p.Caps).length : Int) * ((a0_p.Parents).length : Int)))), .own 4 o4_1.length], aSArc 63 o4_1]⟩ _
 replace h : chargenetref18_network_p136 F a0_p o4_1 = some r := h
 unfold chargenetref18_network_p136 at h
 refine SCode.join (σ := (List SArc)) (S := fun s => ⟨[(4, .c (.ptr 0 0)), (5, .c (.ptr 2 0))], [.box [.int .i64 0, .own 1 (([] : List SArc)).length], aSArc 63 (([] : List SArc)), .box [.int .i64 (IntKind.wrap .i64 (IntKind.wrap .i64 (2 + ((a0_p.Demands).length : Int)) + IntKind.wrap .i64 (((a0_p.Caps).length : Int) * ((a0_p.Parents).length : Int)))), .own 3 s.length], aSArc 63 s]⟩) (g := fun s => chargenetref18_network_p3 a0_p s = some r) ?_ ?_
 rotate_left
 ·refine SCode.seq ?_
  refine SCode.region (show SOps _ _ _ [0, 1, 2, 3] _ _ from ?_)
  refine sq rfl rfl rfl (q_field_ptr rfl rfl fd26_1) (sq rfl rfl rfl (q_load_ptr rfl rfl rfl rfl ty23) (sq rfl rfl rfl (q_len_vec rfl rfl sl23) (sm rfl rfl rfl rfl rfl (SOps.nil (SCode.block (SCode.sub (st' := ⟨[(2, .c (.ptr 0 0)), (4, .c (.ptr 1 0)), (5, .c (.ptr 3 0)), (78, .c (vR a0_p.Caps)), (79, ci (((a0_p.Caps).length : Int))), (80, ci 0)], [.box (bSProblem a0_p), .box [.int .i64 0, .own 2 (([] : List SArc)).length], aSArc 63 (([] : List SArc)), .box [.int .i64 (IntKind.wrap .i64 (IntKind.wrap .i64 (2 + ((a0_p.Demands).length : Int)) + IntKind.wrap .i64 (((a0_p.Caps).length : Int) * ((a0_p.Parents).length : Int)))), .own 4 o4_1.length], aSArc 63 o4_1]⟩) (sub_gen [0, 1, 2, 3, 4] rfl rfl (zall rfl rfl) ⟨bx rfl rfl rfl, bx rfl rfl rfl, oa rfl, bx rfl rfl rfl, oa rfl, trivial⟩) ?_))))))
  refine (SCode.loop (σ := Nat × (Int × (List SArc))) (S := fun s => ⟨[(2, .c (.ptr 0 0)), (4, .c (.ptr 1 0)), (5, .c (.ptr 3 0)), (78, .c (vR a0_p.Caps)), (79, ci (((a0_p.Caps).length : Int))), (80, ci s.2.1)], [.box (bSProblem a0_p), .box [.int .i64 0, .own 2 (([] : List SArc)).length], aSArc 63 (([] : List SArc)), .box [.int .i64 (IntKind.wrap .i64 (IntKind.wrap .i64 (2 + ((a0_p.Demands).length : Int)) + IntKind.wrap .i64 (((a0_p.Caps).length : Int) * ((a0_p.Parents).length : Int)))), .own 4 s.2.2.length], aSArc 63 s.2.2]⟩) (g := fun s => chargenetref18_network_l92 F a0_p s.1 s.2.1 s.2.2 = some r) (μ := fun s => s.1) (F, (0, o4_1)) h ?_)
  rintro ⟨n_92, ⟨t80_47, o4_48⟩⟩ h
  replace h : chargenetref18_network_l92 F a0_p n_92 t80_47 o4_48 = some r := h
  show SCode _ _ _ ⟨[(2, .c (.ptr 0 0)), (4, .c (.ptr 1 0)), (5, .c (.ptr 3 0)), (78, .c (vR a0_p.Caps)), (79, ci (((a0_p.Caps).length : Int))), (80, ci t80_47)], [.box (bSProblem a0_p), .box [.int .i64 0, .own 2 (([] : List SArc)).length], aSArc 63 (([] : List SArc)), .box [.int .i64 (IntKind.wrap .i64 (IntKind.wrap .i64 (2 + ((a0_p.Demands).length : Int)) + IntKind.wrap .i64 (((a0_p.Caps).length : Int) * ((a0_p.Parents).length : Int)))), .own 4 o4_48.length], aSArc 63 o4_48]⟩ _
  cases n_92 with
  | zero => cases h
  | succ n_92 =>
   replace h : chargenetref18_network_b92 F a0_p (fun t80_47 o4_48 => chargenetref18_network_l92 F a0_p n_92 t80_47 o4_48) t80_47 o4_48 = some r := h
   unfold chargenetref18_network_b92 at h
   refine SCode.seq ?_
   refine SCode.region (show SOps _ _ _ [0] _ _ from ?_)
   refine sq rfl rfl rfl (q_lss rfl rfl rfl) (SOps.nil (SCode.seq ?_))
   rcases cond_out h with ⟨g93, h⟩ | ⟨g93, h⟩
   ·refine SCode.cond_t rfl g93 (SCode.skip ?_)
    refine SCode.join (σ := (List SArc)) (S := fun s => ⟨[(2, .c (.ptr 0 0)), (4, .c (.ptr 1 0)), (5, .c (.ptr 3 0)), (78, .c (vR a0_p.Caps)), (79, ci (((a0_p.Caps).length : Int))), (80, ci t80_47)], [.box (bSProblem a0_p), .box [.int .i64 0, .own 2 (([] : List SArc)).length], aSArc 63 (([] : List SArc)), .box [.int .i64 (IntKind.wrap .i64 (IntKind.wrap .i64 (2 + ((a0_p.Demands).length : Int)) + IntKind.wrap .i64 (((a0_p.Caps).length : Int) * ((a0_p.Parents).length : Int)))), .own 4 s.length], aSArc 63 s]⟩) (g := fun s => chargenetref18_network_p95 t80_47 (fun t80_47 o4_48 => chargenetref18_network_l92 F a0_p n_92 t80_47 o4_48) s = some r) ?_ ?_
    rotate_left
    ·refine SCode.block (SCode.seq ?_)
     obtain ⟨g96, h⟩ := guard_out h
     refine SCode.region (show SOps _ _ _ [0, 1, 2, 3, 4] _ _ from ?_)
     refine sm rfl rfl rfl rfl rfl (sq rfl rfl rfl (q_index_vec rfl rfl rfl sl23 rfl g96.1 g96.2) (sq rfl rfl rfl (q_load_eptr rfl rfl ty22) (sa rfl rfl rfl rfl rfl (sa rfl rfl rfl rfl rfl (SOps.nil (SCode.seq ?_))))))
     refine SCode.region (show SOps _ _ _ [0, 1, 2] _ _ from ?_)
     refine sm rfl rfl rfl rfl rfl (sq rfl rfl rfl (q_len_vec rfl rfl sl22) (sm rfl rfl rfl rfl rfl (SOps.nil (SCode.block (SCode.sub (st' := ⟨[(2, .c (.ptr 0 0)), (4, .c (.ptr 1 0)), (5, .c (.ptr 3 0)), (9, ci t80_47), (78, .c (vR a0_p.Caps)), (79, ci (((a0_p.Caps).length : Int))), (80, ci t80_47), (85, .c (vI (a0_p.Caps.getD t80_47.toNat ([])))), (86, ci (((a0_p.Caps.getD t80_47.toNat ([])).length : Int))), (87, ci 0)], [.box (bSProblem a0_p), .box [.int .i64 0, .own 2 (([] : List SArc)).length], aSArc 63 (([] : List SArc)), .box [.int .i64 (IntKind.wrap .i64 (IntKind.wrap .i64 (2 + ((a0_p.Demands).length : Int)) + IntKind.wrap .i64 (((a0_p.Caps).length : Int) * ((a0_p.Parents).length : Int)))), .own 4 o4_48.length], aSArc 63 o4_48]⟩) (sub_gen [0, 1, 2, 3, 4] rfl rfl (zall rfl rfl) ⟨bx rfl rfl rfl, bx rfl rfl rfl, oa rfl, bx rfl rfl rfl, oa rfl, trivial⟩) ?_)))))
     refine (SCode.loop (σ := Nat × (Int × (List SArc))) (S := fun s => ⟨[(2, .c (.ptr 0 0)), (4, .c (.ptr 1 0)), (5, .c (.ptr 3 0)), (9, ci t80_47), (78, .c (vR a0_p.Caps)), (79, ci (((a0_p.Caps).length : Int))), (80, ci t80_47), (85, .c (vI (a0_p.Caps.getD t80_47.toNat ([])))), (86, ci (((a0_p.Caps.getD t80_47.toNat ([])).length : Int))), (87, ci s.2.1)], [.box (bSProblem a0_p), .box [.int .i64 0, .own 2 (([] : List SArc)).length], aSArc 63 (([] : List SArc)), .box [.int .i64 (IntKind.wrap .i64 (IntKind.wrap .i64 (2 + ((a0_p.Demands).length : Int)) + IntKind.wrap .i64 (((a0_p.Caps).length : Int) * ((a0_p.Parents).length : Int)))), .own 4 s.2.2.length], aSArc 63 s.2.2]⟩) (g := fun s => chargenetref18_network_l123 F a0_p t80_47 (fun t80_47 o4_48 => chargenetref18_network_l92 F a0_p n_92 t80_47 o4_48) s.1 s.2.1 s.2.2 = some r) (μ := fun s => s.1) (F, (0, o4_48)) h ?_)
     rintro ⟨n_123, ⟨t87_109, o4_110⟩⟩ h
     replace h : chargenetref18_network_l123 F a0_p t80_47 (fun t80_47 o4_48 => chargenetref18_network_l92 F a0_p n_92 t80_47 o4_48) n_123 t87_109 o4_110 = some r := h
     show SCode _ _ _ ⟨[(2, .c (.ptr 0 0)), (4, .c (.ptr 1 0)), (5, .c (.ptr 3 0)), (9, ci t80_47), (78, .c (vR a0_p.Caps)), (79, ci (((a0_p.Caps).length : Int))), (80, ci t80_47), (85, .c (vI (a0_p.Caps.getD t80_47.toNat ([])))), (86, ci (((a0_p.Caps.getD t80_47.toNat ([])).length : Int))), (87, ci t87_109)], [.box (bSProblem a0_p), .box [.int .i64 0, .own 2 (([] : List SArc)).length], aSArc 63 (([] : List SArc)), .box [.int .i64 (IntKind.wrap .i64 (IntKind.wrap .i64 (2 + ((a0_p.Demands).length : Int)) + IntKind.wrap .i64 (((a0_p.Caps).length : Int) * ((a0_p.Parents).length : Int)))), .own 4 o4_110.length], aSArc 63 o4_110]⟩ _
     cases n_123 with
     | zero => cases h
     | succ n_123 =>
      replace h : chargenetref18_network_b123 F a0_p t80_47 (fun t80_47 o4_48 => chargenetref18_network_l92 F a0_p n_92 t80_47 o4_48) (fun t87_109 o4_110 => chargenetref18_network_l123 F a0_p t80_47 (fun t80_47 o4_48 => chargenetref18_network_l92 F a0_p n_92 t80_47 o4_48) n_123 t87_109 o4_110) t87_109 o4_110 = some r := h
      unfold chargenetref18_network_b123 at h
      refine SCode.seq ?_
      refine SCode.region (show SOps _ _ _ [0] _ _ from ?_)
      refine sq rfl rfl rfl (q_lss rfl rfl rfl) (SOps.nil (SCode.seq ?_))
      rcases cond_out h with ⟨g124, h⟩ | ⟨g124, h⟩
      ·refine SCode.cond_t rfl g124 (SCode.skip (SCode.seq (SCode.block (SCode.seq ?_))))
       obtain ⟨g125, h⟩ := guard_out h
       refine SCode.region (show SOps _ _ _ [0, 1, 2, 3, 4] _ _ from ?_)
       refine sm rfl rfl rfl rfl rfl (sq rfl rfl rfl (q_index_vec rfl rfl rfl sl22 rfl g125.1 g125.2) (sq rfl rfl rfl (q_load_eptr rfl rfl ty3) (sa rfl rfl rfl rfl rfl (sa rfl rfl rfl rfl rfl (SOps.nil (SCode.seq ?_))))))
       refine SCode.region (show SOps _ _ _ [0] _ _ from ?_)
       refine sa rfl rfl rfl rfl rfl (SOps.nil ?_)
       refine SCode.join (σ := Int) (S := fun s => ⟨[(2, .c (.ptr 0 0)), (4, .c (.ptr 1 0)), (5, .c (.ptr 3 0)), (9, ci t80_47), (11, ci t87_109), (12, ci ((a0_p.Caps.getD t80_47.toNat ([])).getD t87_109.toNat 0)), (13, ci s), (78, .c (vR a0_p.Caps)), (79, ci (((a0_p.Caps).length : Int))), (80, ci t80_47), (85, .c (vI (a0_p.Caps.getD t80_47.toNat ([])))), (86, ci (((a0_p.Caps.getD t80_47.toNat ([])).length : Int))), (87, ci t87_109)], [.box (bSProblem a0_p), .box [.int .i64 0, .own 2 (([] : List SArc)).length], aSArc 63 (([] : List SArc)), .box [.int .i64 (IntKind.wrap .i64 (IntKind.wrap .i64 (2 + ((a0_p.Demands).length : Int)) + IntKind.wrap .i64 (((a0_p.Caps).length : Int) * ((a0_p.Parents).length : Int)))), .own 4 o4_110.length], aSArc 63 o4_110]⟩) (g := fun s => chargenetref18_network_p130 F a0_p t80_47 t87_109 o4_110 (fun t87_109 o4_110 => chargenetref18_network_l123 F a0_p t80_47 (fun t80_47 o4_48 => chargenetref18_network_l92 F a0_p n_92 t80_47 o4_48) n_123 t87_109 o4_110) s = some r) ?_ ?_
       rotate_left
       ·refine SCode.seq ?_
        obtain ⟨g131, h⟩ := guard_out h
        refine SCode.region (show SOps _ _ _ [0, 1, 2, 3, 4, 5] _ _ from ?_)
        refine sq rfl rfl rfl (q_field_ptr rfl rfl fd26_0) (sq rfl rfl rfl (q_load_ptr rfl rfl rfl rfl ty22) (sm rfl rfl rfl rfl rfl (sq rfl rfl rfl (q_index_vec rfl rfl rfl sl22 rfl g131.1 g131.2) (sq rfl rfl rfl (q_load_eptr rfl rfl ty3) (sq rfl rfl rfl (q_geq rfl rfl rfl) (SOps.nil ?_))))))
        rcases cond_out h with ⟨g132, h⟩ | ⟨g132, h⟩
        ·refine SCode.cond_t rfl g132 (SCode.sub (st' := ⟨[(2, .c (.ptr 0 0)), (4, .c (.ptr 1 0)), (5, .c (.ptr 3 0)), (9, ci t80_47), (11, ci t87_109), (12, ci ((a0_p.Caps.getD t80_47.toNat ([])).getD t87_109.toNat 0)), (78, .c (vR a0_p.Caps)), (79, ci (((a0_p.Caps).length : Int))), (80, ci t80_47), (85, .c (vI (a0_p.Caps.getD t80_47.toNat ([])))), (86, ci (((a0_p.Caps.getD t80_47.toNat ([])).length : Int))), (87, ci t87_109)], [.box (bSProblem a0_p), .box [.int .i64 0, .own 2 (([] : List SArc)).length], aSArc 63 (([] : List SArc)), .box [.int .i64 (IntKind.wrap .i64 (IntKind.wrap .i64 (2 + ((a0_p.Demands).length : Int)) + IntKind.wrap .i64 (((a0_p.Caps).length : Int) * ((a0_p.Parents).length : Int)))), .own 4 o4_110.length], aSArc 63 o4_110]⟩) (sub_gen [0, 1, 2, 3, 4] rfl rfl (zall rfl rfl) ⟨bx rfl rfl rfl, bx rfl rfl rfl, oa rfl, bx rfl rfl rfl, oa rfl, trivial⟩) ?_)
         obtain ⟨g133, h⟩ := guard_out h
         obtain ⟨c_134, g135, h⟩ := bind_out h
         try dsimp only at h
         refine SCode.draw (s' := [(13, ci c_134), (105, ci c_134), (104, ci (a0_p.Parents.getD t87_109.toNat 0)), (103, .c (.eptr 1 ((cInt .i64) (a0_p.Parents.getD t87_109.toNat 0)) 0)), (102, ci t87_109), (101, .c (vI a0_p.Parents)), (100, .c (.ptr 0 0)), (99, ci t80_47), (98, .a (bSProblem a0_p)), (2, .c (.ptr 0 0)), (4, .c (.ptr 1 0)), (5, .c (.ptr 3 0)), (9, ci t80_47), (11, ci t87_109), (12, ci ((a0_p.Caps.getD t80_47.toNat ([])).getD t87_109.toNat 0)), (78, .c (vR a0_p.Caps)), (79, ci (((a0_p.Caps).length : Int))), (80, ci t80_47), (85, .c (vI (a0_p.Caps.getD t80_47.toNat ([])))), (86, ci (((a0_p.Caps.getD t80_47.toNat ([])).length : Int))), (87, ci t87_109)]) mixed [[], [], [], [2], [], [2, 3, 4], [2, 3, 4, 5], [0, 1, 2, 3, 4, 5, 6], [0, 1, 2, 3, 4, 5, 6, 7]] 9 0 rfl rfl ?_ ?_
         ·refine QChain.run rfl (.plain rfl) rfl (q_load_ptr_all rfl rfl rfl rfl rfl ty26) (QChain.run rfl (.plain rfl) rfl (q_move rfl rfl) (QChain.run rfl (.plain rfl) rfl (q_field_ptr rfl rfl fd26_0) (QChain.run rfl (.plain rfl) rfl (q_load_ptr rfl rfl rfl rfl ty22) (QChain.run rfl (.plain rfl) rfl (q_move rfl rfl) (QChain.run rfl (.plain rfl) rfl (q_index_vec rfl rfl rfl sl22 rfl g133.1 g133.2) (QChain.run rfl (.plain rfl) rfl (q_load_eptr rfl rfl ty3) (QChain.run rfl (.plain rfl) rfl (q_call (chargenetref18_node_ok F a0_p t80_47 (a0_p.Parents.getD t87_109.toNat 0) c_134 g135) [] rfl fn56 ⟨⟨rfl, rfl⟩, ⟨_, rfl, .inl ⟨rfl, rfl⟩⟩, ⟨_, rfl, .inl ⟨rfl, rfl⟩⟩, trivial⟩ (.inl rfl)) (QChain.run rfl (.plain rfl) rfl (q_assign rfl rfl) ?_))))))))
          exact QChain.nil _ _
         refine (show SOps _ _ _ [] _ _ from ?_)
         refine SOps.sub (st' := ⟨[(2, .c (.ptr 0 0)), (4, .c (.ptr 1 0)), (5, .c (.ptr 3 0)), (9, ci t80_47), (11, ci t87_109), (12, ci ((a0_p.Caps.getD t80_47.toNat ([])).getD t87_109.toNat 0)), (13, ci c_134), (78, .c (vR a0_p.Caps)), (79, ci (((a0_p.Caps).length : Int))), (80, ci t80_47), (85, .c (vI (a0_p.Caps.getD t80_47.toNat ([])))), (86, ci (((a0_p.Caps.getD t80_47.toNat ([])).length : Int))), (87, ci t87_109)], [.box (bSProblem a0_p), .box [.int .i64 0, .own 2 (([] : List SArc)).length], aSArc 63 (([] : List SArc)), .box [.int .i64 (IntKind.wrap .i64 (IntKind.wrap .i64 (2 + ((a0_p.Demands).length : Int)) + IntKind.wrap .i64 (((a0_p.Caps).length : Int) * ((a0_p.Parents).length : Int)))), .own 4 o4_110.length], aSArc 63 o4_110]⟩) (sub_gen [0, 1, 2, 3, 4] rfl rfl (zall rfl rfl) ⟨bx rfl rfl rfl, bx rfl rfl rfl, oa rfl, bx rfl rfl rfl, oa rfl, trivial⟩) (SOps.nil ?_)
         exact ⟨c_134, h, sub_gen [0, 1, 2, 3, 4] rfl rfl (zall rfl rfl) ⟨bx rfl rfl rfl, bx rfl rfl rfl, oa rfl, bx rfl rfl rfl, oa rfl, trivial⟩⟩
        refine SCode.cond_f rfl g132 (SCode.skip ?_)
        exact ⟨1, h, sub_gen [0, 1, 2, 3, 4] rfl rfl (zall rfl rfl) ⟨bx rfl rfl rfl, bx rfl rfl rfl, oa rfl, bx rfl rfl rfl, oa rfl, trivial⟩⟩
       rintro to_126 h
       show SCode _ _ _ ⟨[(2, .c (.ptr 0 0)), (4, .c (.ptr 1 0)), (5, .c (.ptr 3 0)), (9, ci t80_47), (11, ci t87_109), (12, ci ((a0_p.Caps.getD t80_47.toNat ([])).getD t87_109.toNat 0)), (13, ci to_126), (78, .c (vR a0_p.Caps)), (79, ci (((a0_p.Caps).length : Int))), (80, ci t80_47), (85, .c (vI (a0_p.Caps.getD t80_47.toNat ([])))), (86, ci (((a0_p.Caps.getD t80_47.toNat ([])).length : Int))), (87, ci t87_109)], [.box (bSProblem a0_p), .box [.int .i64 0, .own 2 (([] : List SArc)).length], aSArc 63 (([] : List SArc)), .box [.int .i64 (IntKind.wrap .i64 (IntKind.wrap .i64 (2 + ((a0_p.Demands).length : Int)) + IntKind.wrap .i64 (((a0_p.Caps).length : Int) * ((a0_p.Parents).length : Int)))), .own 4 o4_110.length], aSArc 63 o4_110]⟩ _
       replace h : chargenetref18_network_p130 F a0_p t80_47 t87_109 o4_110 (fun t87_109 o4_110 => chargenetref18_network_l123 F a0_p t80_47 (fun t80_47 o4_48 => chargenetref18_network_l92 F a0_p n_92 t80_47 o4_48) n_123 t87_109 o4_110) to_126 = some r := h
       unfold chargenetref18_network_p130 at h
       obtain ⟨c_127, g128, h⟩ := bind_out h
       try dsimp only at h
       obtain ⟨g129, h⟩ := guard_out h
       refine SCode.draw (s' := [(119, .c (vSArc ([SArc.mk c_127 to_126 ((if 1099511627776 < IntKind.wrap .i64 ((a0_p.Caps.getD t80_47.toNat ([])).getD t87_109.toNat 0 * a0_p.Length) then 1099511627776 else IntKind.wrap .i64 ((a0_p.Caps.getD t80_47.toNat ([])).getD t87_109.toNat 0 * a0_p.Length)))]))), (118, .a [.int .i64 c_127, .int .i64 to_126, .int .i64 ((if 1099511627776 < IntKind.wrap .i64 ((a0_p.Caps.getD t80_47.toNat ([])).getD t87_109.toNat 0 * a0_p.Length) then 1099511627776 else IntKind.wrap .i64 ((a0_p.Caps.getD t80_47.toNat ([])).getD t87_109.toNat 0 * a0_p.Length)))]), (117, ci ((if 1099511627776 < IntKind.wrap .i64 ((a0_p.Caps.getD t80_47.toNat ([])).getD t87_109.toNat 0 * a0_p.Length) then 1099511627776 else IntKind.wrap .i64 ((a0_p.Caps.getD t80_47.toNat ([])).getD t87_109.toNat 0 * a0_p.Length)))), (116, ci (IntKind.wrap .i64 ((a0_p.Caps.getD t80_47.toNat ([])).getD t87_109.toNat 0 * a0_p.Length))), (115, ci a0_p.Length), (114, .c (.ptr 0 3)), (113, ci ((a0_p.Caps.getD t80_47.toNat ([])).getD t87_109.toNat 0)), (112, ci to_126), (111, ci c_127), (110, ci t87_109), (109, ci t80_47), (108, .a (bSProblem a0_p)), (107, .c (.own 4 o4_110.length)), (106, .c (.ptr 3 1)), (2, .c (.ptr 0 0)), (4, .c (.ptr 1 0)), (5, .c (.ptr 3 0)), (9, ci t80_47), (11, ci t87_109), (12, ci ((a0_p.Caps.getD t80_47.toNat ([])).getD t87_109.toNat 0)), (13, ci to_126), (78, .c (vR a0_p.Caps)), (79, ci (((a0_p.Caps).length : Int))), (80, ci t80_47), (85, .c (vI (a0_p.Caps.getD t80_47.toNat ([])))), (86, ci (((a0_p.Caps.getD t80_47.toNat ([])).length : Int))), (87, ci t87_109)]) mixed [[], [0], [], [], [], [2, 3, 4], [], [], [], [8], [7, 8, 9], [7, 8, 9, 10], [2, 3, 4, 5, 6, 7, 8, 9, 10, 11], [2, 3, 4, 5, 6, 7, 8, 9, 10, 11, 12], [0, 1, 2, 3, 4, 5, 6, 7, 8, 9, 10, 11, 12, 13], [0, 1, 2, 3, 4, 5, 6, 7, 8, 9, 10, 11, 12, 13, 14], [0, 1, 2, 3, 4, 5, 6, 7, 8, 9, 10, 11, 12, 13, 14, 15]] 14 3 rfl rfl ?_ ?_
       ·refine QChain.run rfl (.plain rfl) rfl (q_field_ptr rfl rfl fd49_1) (QChain.run rfl (.plain rfl) rfl (q_load_ptr rfl rfl rfl rfl ty47) (QChain.run rfl (.plain rfl) rfl (q_load_ptr_all rfl rfl rfl rfl rfl ty26) (QChain.run rfl (.plain rfl) rfl (q_move rfl rfl) (QChain.run rfl (.plain rfl) rfl (q_move rfl rfl) (QChain.run rfl (.plain rfl) rfl (q_call (chargenetref18_node_ok F a0_p t80_47 t87_109 c_127 g128) [] rfl fn56 ⟨⟨rfl, rfl⟩, ⟨_, rfl, .inl ⟨rfl, rfl⟩⟩, ⟨_, rfl, .inl ⟨rfl, rfl⟩⟩, trivial⟩ (.inl rfl)) (QChain.run rfl (.plain rfl) rfl (q_move rfl rfl) (QChain.run rfl (.plain rfl) rfl (q_move rfl rfl) (QChain.run rfl (.plain rfl) rfl (q_field_ptr rfl rfl fd26_3) (QChain.run rfl (.plain rfl) rfl (q_load_ptr rfl rfl rfl rfl ty3) ?_)))))))))
        refine QChain.run rfl (.plain rfl) rfl (q_mul rfl rfl rfl) (QChain.run rfl (.plain rfl) rfl (q_min rfl rfl rfl) (QChain.run rfl (.plain rfl) rfl (q_build2 rfl rfl pl63 rfl) (QChain.run rfl (.plain rfl) rfl (q_bsliceL (c := cSArc) (d0 := dSArc) [SArc.mk c_127 to_126 ((if 1099511627776 < IntKind.wrap .i64 ((a0_p.Caps.getD t80_47.toNat ([])).getD t87_109.toNat 0 * a0_p.Length) then 1099511627776 else IntKind.wrap .i64 ((a0_p.Caps.getD t80_47.toNat ([])).getD t87_109.toNat 0 * a0_p.Length)))] rfl rfl sl47 z63 rfl rfl rfl rfl rfl rfl rfl) ?_)))
        exact QChain.nil _ _
       refine (show SOps _ _ _ [14, 15, 16] _ _ from ?_)
       refine se rfl rfl (e_appendL (c := cSArc) (d0 := dSArc) (l := o4_110) (l2 := [SArc.mk c_127 to_126 ((if 1099511627776 < IntKind.wrap .i64 ((a0_p.Caps.getD t80_47.toNat ([])).getD t87_109.toNat 0 * a0_p.Length) then 1099511627776 else IntKind.wrap .i64 ((a0_p.Caps.getD t80_47.toNat ([])).getD t87_109.toNat 0 * a0_p.Length)))]) rfl rfl rfl rfl rfl rfl (.inl rfl) sl47 z63 rfl rfl oneSArc g129.1 g129.2) (sq rfl rfl rfl (q_field_ptr rfl rfl fd49_1) (se rfl rfl (e_store_box rfl rfl rfl rfl rfl ty47 rfl rfl rfl rfl) (SOps.sub (st' := ⟨[(2, .c (.ptr 0 0)), (4, .c (.ptr 1 0)), (5, .c (.ptr 3 0)), (9, ci t80_47), (78, .c (vR a0_p.Caps)), (79, ci (((a0_p.Caps).length : Int))), (80, ci t80_47), (85, .c (vI (a0_p.Caps.getD t80_47.toNat ([])))), (86, ci (((a0_p.Caps.getD t80_47.toNat ([])).length : Int))), (87, ci t87_109)], [.box (bSProblem a0_p), .box [.int .i64 0, .own 2 (([] : List SArc)).length], aSArc 63 (([] : List SArc)), .box [.int .i64 (IntKind.wrap .i64 (IntKind.wrap .i64 (2 + ((a0_p.Demands).length : Int)) + IntKind.wrap .i64 (((a0_p.Caps).length : Int) * ((a0_p.Parents).length : Int)))), .own 4 (o4_110 ++ ([SArc.mk c_127 to_126 ((if 1099511627776 < IntKind.wrap .i64 ((a0_p.Caps.getD t80_47.toNat ([])).getD t87_109.toNat 0 * a0_p.Length) then 1099511627776 else IntKind.wrap .i64 ((a0_p.Caps.getD t80_47.toNat ([])).getD t87_109.toNat 0 * a0_p.Length)))])).length], aSArc 63 (o4_110 ++ ([SArc.mk c_127 to_126 ((if 1099511627776 < IntKind.wrap .i64 ((a0_p.Caps.getD t80_47.toNat ([])).getD t87_109.toNat 0 * a0_p.Length) then 1099511627776 else IntKind.wrap .i64 ((a0_p.Caps.getD t80_47.toNat ([])).getD t87_109.toNat 0 * a0_p.Length)))]))]⟩) (sub_gen [0, 1, 2, 3, 5] rfl rfl (zall rfl rfl) ⟨bx rfl rfl rfl, bx rfl rfl rfl, oa rfl, bx rfl rfl rfl, oa rfl, trivial⟩) (SOps.nil ?_))))
       refine SCode.region (show SOps _ _ _ [0, 1] _ _ from ?_)
       refine sq rfl rfl rfl (q_add rfl rfl rfl) (sm rfl rfl rfl rfl rfl (SOps.nil ?_))
       exact ⟨(n_123, (IntKind.wrap .i64 (t87_109 + 1), o4_110 ++ ([SArc.mk c_127 to_126 ((if 1099511627776 < IntKind.wrap .i64 ((a0_p.Caps.getD t80_47.toNat ([])).getD t87_109.toNat 0 * a0_p.Length) then 1099511627776 else IntKind.wrap .i64 ((a0_p.Caps.getD t80_47.toNat ([])).getD t87_109.toNat 0 * a0_p.Length)))]))), h, Nat.lt_succ_self n_123, sub_gen [0, 1, 2, 3, 4] rfl rfl (zall rfl rfl) ⟨bx rfl rfl rfl, bx rfl rfl rfl, oa rfl, bx rfl rfl rfl, oa rfl, trivial⟩⟩
      refine SCode.cond_f rfl g124 (SCode.exit ?_)
      exact ⟨o4_110, h, sub_gen [0, 1, 2, 3, 4] rfl rfl (zall rfl rfl) ⟨bx rfl rfl rfl, bx rfl rfl rfl, oa rfl, bx rfl rfl rfl, oa rfl, trivial⟩⟩
    rintro o4_94 h
    show SCode _ _ _ ⟨[(2, .c (.ptr 0 0)), (4, .c (.ptr 1 0)), (5, .c (.ptr 3 0)), (78, .c (vR a0_p.Caps)), (79, ci (((a0_p.Caps).length : Int))), (80, ci t80_47)], [.box (bSProblem a0_p), .box [.int .i64 0, .own 2 (([] : List SArc)).length], aSArc 63 (([] : List SArc)), .box [.int .i64 (IntKind.wrap .i64 (IntKind.wrap .i64 (2 + ((a0_p.Demands).length : Int)) + IntKind.wrap .i64 (((a0_p.Caps).length : Int) * ((a0_p.Parents).length : Int)))), .own 4 o4_94.length], aSArc 63 o4_94]⟩ _
    replace h : chargenetref18_network_p95 t80_47 (fun t80_47 o4_48 => chargenetref18_network_l92 F a0_p n_92 t80_47 o4_48) o4_94 = some r := h
    unfold chargenetref18_network_p95 at h
    refine SCode.region (show SOps _ _ _ [0, 1] _ _ from ?_)
    refine sq rfl rfl rfl (q_add rfl rfl rfl) (sm rfl rfl rfl rfl rfl (SOps.nil ?_))
    exact ⟨(n_92, (IntKind.wrap .i64 (t80_47 + 1), o4_94)), h, Nat.lt_succ_self n_92, sub_gen [0, 1, 2, 3, 4] rfl rfl (zall rfl rfl) ⟨bx rfl rfl rfl, bx rfl rfl rfl, oa rfl, bx rfl rfl rfl, oa rfl, trivial⟩⟩
   refine SCode.cond_f rfl g93 (SCode.exit ?_)
   exact ⟨o4_48, h, sub_gen [1, 2, 3, 4] rfl rfl (zall rfl rfl) ⟨bx rfl rfl rfl, oa rfl, bx rfl rfl rfl, oa rfl, trivial⟩⟩
 rintro o3_2 h
 show SCode _ _ _ ⟨[(4, .c (.ptr 0 0)), (5, .c (.ptr 2 0))], [.box [.int .i64 0, .own 1 (([] : List SArc)).length], aSArc 63 (([] : List SArc)), .box [.int .i64 (IntKind.wrap .i64 (IntKind.wrap .i64 (2 + ((a0_p.Demands).length : Int)) + IntKind.wrap .i64 (((a0_p.Caps).length : Int) * ((a0_p.Parents).length : Int)))), .own 3 o3_2.length], aSArc 63 o3_2]⟩ _
 replace h : chargenetref18_network_p3 a0_p o3_2 = some r := h
 unfold chargenetref18_network_p3 at h
 refine SCode.seq ?_
 refine SCode.region (show SOps _ _ _ [0, 1] _ _ from ?_)
 refine sq rfl rfl rfl (q_load_ptr_all rfl rfl rfl rfl rfl ty49) (se rfl rfl (e_store_box rfl rfl rfl rfl rfl ty49 rfl rfl rfl rfl) (SOps.nil (SCode.ret ?_)))
 obtain rfl := Option.some.inj h
 exact ⟨⟨[(4, .c (.ptr 0 0))], [.box [.int .i64 (IntKind.wrap .i64 (IntKind.wrap .i64 (2 + ((a0_p.Demands).length : Int)) + IntKind.wrap .i64 (((a0_p.Caps).length : Int) * ((a0_p.Parents).length : Int)))), vSArc ((SNet.mk (IntKind.wrap .i64 (IntKind.wrap .i64 (2 + ((a0_p.Demands).length : Int)) + IntKind.wrap .i64 (((a0_p.Caps).length : Int) * ((a0_p.Parents).length : Int)))) o3_2).Arcs)]]⟩, _, sub_gen [0] rfl rfl (zall rfl rfl) ⟨⟨_, rfl, ⟨ii rfl rfl, .inr (.inl ⟨_, _, _, _, _, _, _, rfl, rfl, rfl, Nat.le_refl _, fun _ _ _ _ => rfl, nm rfl⟩), trivial⟩⟩, trivial⟩, resA1 (v := .a [.int .i64 (IntKind.wrap .i64 (IntKind.wrap .i64 (2 + ((a0_p.Demands).length : Int)) + IntKind.wrap .i64 (((a0_p.Caps).length : Int) * ((a0_p.Parents).length : Int)))), vSArc ((SNet.mk (IntKind.wrap .i64 (IntKind.wrap .i64 (2 + ((a0_p.Demands).length : Int)) + IntKind.wrap .i64 (((a0_p.Caps).length : Int) * ((a0_p.Parents).length : Int)))) o3_2).Arcs)]) rfl ⟨_, rfl, rfl, ty49⟩, rfl⟩
set_option maxRecDepth 100000 in
set_option maxHeartbeats 8000000 in
theorem chargenetref18_flows_ok (F : Nat) (a0_p : SProblem) (a1_energy : List Int) (r : Int × (List Int)) (h : chargenetref18_flows F a0_p a1_energy = some r) :
  SFun Try.prog 37 [] [.a (bSProblem a0_p), .c (vI a1_energy)] (fun x _ => x = .t [.c (.int .i64 r.1), .c (vI r.2)]) := by
 refine SFun.of (n := 19) Try.func37 rfl rfl rfl ?_
 unfold chargenetref18_flows at h
 show SCode _ _ _ ⟨[(0, .a (bSProblem a0_p)), (1, .c (vI a1_energy))], []⟩ _
 refine SCode.seq ?_
 refine SCode.region (show SOps _ _ _ [0, 1, 2] _ _ from ?_)
 refine se rfl rfl (e_box rfl rfl rfl rfl rfl rfl) (sa rfl rfl rfl rfl rfl (sa rfl rfl rfl rfl rfl (SOps.nil (SCode.seq ?_))))
 obtain ⟨c_1, g2, h⟩ := bind_out h
 try dsimp only at h
 obtain ⟨c_3, g4, h⟩ := bind_out h
 try dsimp only at h
 refine SCode.region (show SOps _ _ _ [0, 1, 2, 3, 4, 5, 6, 7, 8, 9, 10] _ _ from ?_)
 refine sq rfl rfl rfl (q_load_ptr_all rfl rfl rfl rfl rfl ty26) (sm rfl rfl rfl rfl rfl (sq rfl rfl rfl (q_call (chargenetref18_network_ok F a0_p a1_energy c_1 g2) [] rfl fn46 ⟨⟨rfl, rfl⟩, ⟨_, rfl, .inl ⟨rfl, rfl⟩⟩, trivial⟩ (.inl rfl)) (sq rfl rfl rfl (q_call (chargenetref09_Max_ok F (SNet.mk c_1.Nodes c_1.Arcs) 0 1 c_3 g4) [] rfl fn45 ⟨⟨rfl, rfl⟩, ⟨_, rfl, .inl ⟨rfl, rfl⟩⟩, ⟨_, rfl, .inl ⟨rfl, rfl⟩⟩, trivial⟩ (.inl rfl)) (sm rfl rfl rfl rfl rfl (sq rfl rfl rfl (q_extract rfl rfl rfl) (sq rfl rfl rfl (q_extract rfl rfl rfl) (sq rfl rfl rfl (q_extract rfl rfl rfl) (sa rfl rfl rfl rfl rfl (sa rfl rfl rfl rfl rfl ?_)))))))))
 refine sa rfl rfl rfl rfl rfl (SOps.nil (SCode.seq ?_))
 refine SCode.region (show SOps _ _ _ [0, 1, 2, 3] _ _ from ?_)
 refine sm rfl rfl rfl rfl rfl (sm rfl rfl rfl rfl rfl (sa rfl rfl rfl rfl rfl (sa rfl rfl rfl rfl rfl (SOps.sub (st' := ⟨[(4, ci c_3.1), (5, .c (vI c_3.2.1))], []⟩) (sub_gen [] rfl rfl (zall rfl rfl) trivial) (SOps.nil (SCode.ret ?_))))))
 obtain rfl := Option.some.inj h
 exact ⟨⟨[(4, ci c_3.1), (5, .c (vI c_3.2.1))], []⟩, _, sub_gen [] rfl rfl (zall rfl rfl) trivial, resA2 (v1 := .c (.int .i64 c_3.1)) (v2 := .c (vI c_3.2.1)) rfl rfl rfl, rfl⟩
set_option maxRecDepth 100000 in
set_option maxHeartbeats 8000000 in
theorem chargenetref18_fits_ok (F : Nat) (a0_p : SProblem) (a1_energy : List Int) (r : Bool) (h : chargenetref18_fits F a0_p a1_energy = some r) :
  SFun Try.prog 29 [] [.a (bSProblem a0_p), .c (vI a1_energy)] (fun x _ => x = .c (.bool r)) := by
 refine SFun.of (n := 29) Try.func29 rfl rfl rfl ?_
 unfold chargenetref18_fits at h
 show SCode _ _ _ ⟨[(0, .a (bSProblem a0_p)), (1, .c (vI a1_energy))], []⟩ _
 refine SCode.seq ?_
 refine SCode.region (show SOps _ _ _ [0, 1] _ _ from ?_)
 refine se rfl rfl (e_box rfl rfl rfl rfl rfl rfl) (sa rfl rfl rfl rfl rfl (SOps.nil (SCode.seq ?_)))
 refine SCode.region (show SOps _ _ _ [0] _ _ from ?_)
 refine sa rfl rfl rfl rfl rfl (SOps.nil ?_)
 refine SCode.join (σ := Int) (S := fun s => ⟨[(1, .c (vI a1_energy)), (2, .c (.ptr 0 0)), (5, ci s)], [.box (bSProblem a0_p)]⟩) (g := fun s => chargenetref18_fits_p4 F a0_p a1_energy s = some r) ?_ ?_
 rotate_left
 ·refine SCode.seq ?_
  refine SCode.region (show SOps _ _ _ [0, 1, 2] _ _ from ?_)
  refine sm rfl rfl rfl rfl rfl (sq rfl rfl rfl (q_len_vec rfl rfl sl22) (sm rfl rfl rfl rfl rfl (SOps.nil (SCode.block (SCode.sub (st' := ⟨[(1, .c (vI a1_energy)), (2, .c (.ptr 0 0)), (5, ci 0), (10, .c (vI a1_energy)), (11, ci (((a1_energy).length : Int))), (12, ci 0)], [.box (bSProblem a0_p)]⟩) (sub_gen [0] rfl rfl (zall rfl rfl) ⟨bx rfl rfl rfl, trivial⟩) ?_)))))
  refine (SCode.loop (σ := Nat × (Int × Int)) (S := fun s => ⟨[(1, .c (vI a1_energy)), (2, .c (.ptr 0 0)), (5, ci s.2.1), (10, .c (vI a1_energy)), (11, ci (((a1_energy).length : Int))), (12, ci s.2.2)], [.box (bSProblem a0_p)]⟩) (g := fun s => chargenetref18_fits_l11 F a0_p a1_energy s.1 s.2.1 s.2.2 = some r) (μ := fun s => s.1) (F, (0, 0)) h ?_)
  rintro ⟨n_11, ⟨want_7, t12_8⟩⟩ h
  replace h : chargenetref18_fits_l11 F a0_p a1_energy n_11 want_7 t12_8 = some r := h
  show SCode _ _ _ ⟨[(1, .c (vI a1_energy)), (2, .c (.ptr 0 0)), (5, ci want_7), (10, .c (vI a1_energy)), (11, ci (((a1_energy).length : Int))), (12, ci t12_8)], [.box (bSProblem a0_p)]⟩ _
  cases n_11 with
  | zero => cases h
  | succ n_11 =>
   replace h : chargenetref18_fits_b11 F a0_p a1_energy (fun want_7 t12_8 => chargenetref18_fits_l11 F a0_p a1_energy n_11 want_7 t12_8) want_7 t12_8 = some r := h
   unfold chargenetref18_fits_b11 at h
   refine SCode.seq ?_
   refine SCode.region (show SOps _ _ _ [0] _ _ from ?_)
   refine sq rfl rfl rfl (q_lss rfl rfl rfl) (SOps.nil (SCode.seq ?_))
   rcases cond_out h with ⟨g12, h⟩ | ⟨g12, h⟩
   ·refine SCode.cond_t rfl g12 (SCode.skip (SCode.seq (SCode.block (SCode.seq ?_))))
    obtain ⟨g13, h⟩ := guard_out h
    refine SCode.region (show SOps _ _ _ [0, 1, 2] _ _ from ?_)
    refine sq rfl rfl rfl (q_index_vec rfl rfl rfl sl22 rfl g13.1 g13.2) (sq rfl rfl rfl (q_load_eptr rfl rfl ty3) (sa rfl rfl rfl rfl rfl (SOps.nil ?_)))
    refine SCode.region (show SOps _ _ _ [0, 1, 2, 3] _ _ from ?_)
    refine sm rfl rfl rfl rfl rfl (sm rfl rfl rfl rfl rfl (sq rfl rfl rfl (q_add rfl rfl rfl) (sa rfl rfl rfl rfl rfl (SOps.nil ?_))))
    refine SCode.region (show SOps _ _ _ [0, 1] _ _ from ?_)
    refine sq rfl rfl rfl (q_add rfl rfl rfl) (sm rfl rfl rfl rfl rfl (SOps.nil ?_))
    exact ⟨(n_11, (IntKind.wrap .i64 (want_7 + a1_energy.getD t12_8.toNat 0), IntKind.wrap .i64 (t12_8 + 1))), h, Nat.lt_succ_self n_11, sub_gen [0] rfl rfl (zall rfl rfl) ⟨bx rfl rfl rfl, trivial⟩⟩
   refine SCode.cond_f rfl g12 (SCode.exit ?_)
   exact ⟨want_7, h, sub_gen [0] rfl rfl (zall rfl rfl) ⟨bx rfl rfl rfl, trivial⟩⟩
 rintro want_1 h
 show SCode _ _ _ ⟨[(1, .c (vI a1_energy)), (2, .c (.ptr 0 0)), (5, ci want_1)], [.box (bSProblem a0_p)]⟩ _
 replace h : chargenetref18_fits_p4 F a0_p a1_energy want_1 = some r := h
 unfold chargenetref18_fits_p4 at h
 refine SCode.seq ?_
 obtain ⟨c_2, g3, h⟩ := bind_out h
 try dsimp only at h
 refine SCode.region (show SOps _ _ _ [0, 1, 2, 3, 4, 5, 6, 7] _ _ from ?_)
 refine sq rfl rfl rfl (q_load_ptr_all rfl rfl rfl rfl rfl ty26) (sm rfl rfl rfl rfl rfl (sq rfl rfl rfl (q_call (chargenetref18_flows_ok F a0_p a1_energy c_2 g3) [] rfl fn37 ⟨⟨rfl, rfl⟩, ⟨_, rfl, .inl ⟨rfl, rfl⟩⟩, trivial⟩ (.inl rfl)) (sm rfl rfl rfl rfl rfl (sq rfl rfl rfl (q_extract rfl rfl rfl) (sq rfl rfl rfl (q_extract rfl rfl rfl) (sa rfl rfl rfl rfl rfl (sa rfl rfl rfl rfl rfl (SOps.nil (SCode.seq ?_)))))))))
 refine SCode.region (show SOps _ _ _ [0, 1, 2, 3] _ _ from ?_)
 refine sm rfl rfl rfl rfl rfl (sm rfl rfl rfl rfl rfl (sq rfl rfl rfl (q_eql rfl rfl rfl) (sa rfl rfl rfl rfl rfl (SOps.nil (SCode.ret ?_)))))
 obtain rfl := Option.some.inj h
 exact ⟨⟨[(4, .c (.bool (decide (c_2.1 = want_1))))], []⟩, _, sub_gen [] rfl rfl (zall rfl rfl) trivial, resA1 (v := .c (.bool (decide (c_2.1 = want_1)))) rfl rfl, rfl⟩
set_option maxRecDepth 100000 in
set_option maxHeartbeats 8000000 in
theorem chargenetref18_Feasible_ok (F : Nat) (a0_p : SProblem) (a1_energy : List Int) (r : Bool × Int) (h : chargenetref18_Feasible F a0_p a1_energy = some r) :
  SFun Try.prog 15 [] [.a (bSProblem a0_p), .c (vI a1_energy)] (fun x _ => x = .t [.c (.bool r.1), .c (.int .i64 r.2)]) := by
 refine SFun.of (n := 16) Try.func15 rfl rfl rfl ?_
 unfold chargenetref18_Feasible at h
 show SCode _ _ _ ⟨[(0, .a (bSProblem a0_p)), (1, .c (vI a1_energy))], []⟩ _
 refine SCode.seq ?_
 refine SCode.region (show SOps _ _ _ [0, 1, 2] _ _ from ?_)
 refine se rfl rfl (e_box rfl rfl rfl rfl rfl rfl) (sa rfl rfl rfl rfl rfl (sa rfl rfl rfl rfl rfl (SOps.nil (SCode.seq (SCode.seq ?_)))))
 obtain ⟨c_1, g2, h⟩ := bind_out h
 try dsimp only at h
 refine SCode.region (show SOps _ _ _ [0, 1, 2, 3] _ _ from ?_)
 refine sq rfl rfl rfl (q_load_ptr_all rfl rfl rfl rfl rfl ty26) (sm rfl rfl rfl rfl rfl (sq rfl rfl rfl (q_call (chargenetref18_energies_ok F a0_p a1_energy c_1 g2) [] rfl fn28 ⟨⟨rfl, rfl⟩, ⟨_, rfl, .inl ⟨rfl, rfl⟩⟩, trivial⟩ (.inl rfl)) (sa rfl rfl rfl rfl rfl (SOps.nil (SCode.seq ?_)))))
 refine SCode.region (show SOps _ _ _ [0, 1] _ _ from ?_)
 refine sm rfl rfl rfl rfl rfl (sq rfl rfl rfl (q_neq rfl rfl rfl) (SOps.nil ?_))
 rcases cond_out h with ⟨g3, h⟩ | ⟨g3, h⟩
 ·refine SCode.cond_t rfl g3 (SCode.seq ?_)
  refine SCode.region (show SOps _ _ _ [0, 1, 2] _ _ from ?_)
  refine sm rfl rfl rfl rfl rfl (sa rfl rfl rfl rfl rfl (sa rfl rfl rfl rfl rfl (SOps.nil (SCode.ret ?_))))
  obtain rfl := Option.some.inj h
  exact ⟨⟨[(4, .c (.bool false)), (5, ci c_1)], []⟩, _, sub_gen [] rfl rfl (zall rfl rfl) trivial, resA2 (v1 := .c (.bool false)) (v2 := .c (.int .i64 c_1)) rfl rfl rfl, rfl⟩
 refine SCode.cond_f rfl g3 (SCode.skip (SCode.seq ?_))
 obtain ⟨c_4, g5, h⟩ := bind_out h
 try dsimp only at h
 refine SCode.region (show SOps _ _ _ [0, 1, 2, 3, 4] _ _ from ?_)
 refine sq rfl rfl rfl (q_load_ptr_all rfl rfl rfl rfl rfl ty26) (sm rfl rfl rfl rfl rfl (sq rfl rfl rfl (q_call (chargenetref18_fits_ok F a0_p a1_energy c_4 g5) [] rfl fn29 ⟨⟨rfl, rfl⟩, ⟨_, rfl, .inl ⟨rfl, rfl⟩⟩, trivial⟩ (.inl rfl)) (sa rfl rfl rfl rfl rfl (sa rfl rfl rfl rfl rfl (SOps.nil (SCode.ret ?_))))))
 obtain rfl := Option.some.inj h
 exact ⟨⟨[(4, .c (.bool c_4)), (5, ci 0)], []⟩, _, sub_gen [] rfl rfl (zall rfl rfl) trivial, resA2 (v1 := .c (.bool c_4)) (v2 := .c (.int .i64 0)) rfl rfl rfl, rfl⟩
set_option maxRecDepth 100000 in
set_option maxHeartbeats 8000000 in
theorem chargenetlaw18_PlanFeasibles_ok (F : Nat) (a0_p : SProblem) (a1_energy : List Int) (r : Bool) (h : chargenetlaw18_PlanFeasibles F a0_p a1_energy = some r) :
  SFun Try.prog 4 [] [.a (bSProblem a0_p), .c (vI a1_energy)] (fun x _ => x = .c (.bool r)) := by
 refine SFun.of (n := 38) Try.func4 rfl rfl rfl ?_
 unfold chargenetlaw18_PlanFeasibles at h
 show SCode _ _ _ ⟨[(0, .a (bSProblem a0_p)), (1, .c (vI a1_energy))], []⟩ _
 refine SCode.seq ?_
 refine SCode.region (show SOps _ _ _ [0, 1] _ _ from ?_)
 refine se rfl rfl (e_box rfl rfl rfl rfl rfl rfl) (sa rfl rfl rfl rfl rfl (SOps.nil (SCode.seq (SCode.seq ?_))))
 obtain ⟨c_1, g2, h⟩ := bind_out h
 try dsimp only at h
 rcases cond_out h with ⟨g3, h⟩ | ⟨g3, h⟩
 ·refine SCode.region (show SOps _ _ _ [0, 1, 2, 3, 4, 5, 6, 7] _ _ from ?_)
  refine sq rfl rfl rfl (q_load_ptr_all rfl rfl rfl rfl rfl ty26) (sq rfl rfl rfl (q_call (chargenetlaw18_Small_ok F a0_p c_1 g2) [] rfl fn13 ⟨⟨rfl, rfl⟩, trivial⟩ (.inl rfl)) (sq rfl rfl rfl (q_not rfl rfl) (sm rfl rfl rfl rfl rfl (SOps.skip rfl 3 12 false rfl rfl (.inl (gT g3)) rfl (SOps.skip rfl 3 12 false rfl rfl (.inl (gT g3)) rfl (SOps.skip rfl 3 12 false rfl rfl (.inl (gT g3)) rfl (sq rfl rfl rfl (q_pick_t rfl rfl g3 rfl) (SOps.nil (SCode.cond_t rfl rfl ?_)))))))))
  refine SCode.seq ?_
  obtain ⟨c_4, g5, h⟩ := bind_out h
  try dsimp only at h
  refine SCode.region (show SOps _ _ _ [0, 1] _ _ from ?_)
  refine sq rfl rfl rfl (q_call (chargenetlaw18_exampleHolds_ok F  c_4 g5) [] rfl fn10 trivial (.inl rfl)) (sa rfl rfl rfl rfl rfl (SOps.nil (SCode.ret ?_)))
  obtain rfl := Option.some.inj h
  exact ⟨⟨[(4, .c (.bool c_4))], []⟩, _, sub_gen [] rfl rfl (zall rfl rfl) trivial, resA1 (v := .c (.bool c_4)) rfl rfl, rfl⟩
 refine SCode.region (show SOps _ _ _ [0, 1, 2, 3, 4, 5, 6, 7] _ _ from ?_)
 refine sq rfl rfl rfl (q_load_ptr_all rfl rfl rfl rfl rfl ty26) (sq rfl rfl rfl (q_call (chargenetlaw18_Small_ok F a0_p c_1 g2) [] rfl fn13 ⟨⟨rfl, rfl⟩, trivial⟩ (.inl rfl)) (sq rfl rfl rfl (q_not rfl rfl) (sm rfl rfl rfl rfl rfl (SOps.q rfl (.guard 3 12 false rfl rfl (gF g3)) rfl (q_move rfl rfl) (SOps.q rfl (.guard 3 12 false rfl rfl (gF g3)) rfl (q_len_vec rfl rfl sl22) (SOps.q rfl (.guard 3 12 false rfl rfl (gF g3)) rfl (q_gtr rfl rfl rfl) (sq rfl rfl rfl (q_pick_f rfl rfl g3 rfl) (SOps.nil ?_))))))))
 rcases cond_out h with ⟨g6, h⟩ | ⟨g6, h⟩
 ·refine SCode.cond_t rfl g6 (SCode.seq ?_)
  obtain ⟨c_7, g8, h⟩ := bind_out h
  try dsimp only at h
  refine SCode.region (show SOps _ _ _ [0, 1] _ _ from ?_)
  refine sq rfl rfl rfl (q_call (chargenetlaw18_exampleHolds_ok F  c_7 g8) [] rfl fn10 trivial (.inl rfl)) (sa rfl rfl rfl rfl rfl (SOps.nil (SCode.ret ?_)))
  obtain rfl := Option.some.inj h
  exact ⟨⟨[(4, .c (.bool c_7))], []⟩, _, sub_gen [] rfl rfl (zall rfl rfl) trivial, resA1 (v := .c (.bool c_7)) rfl rfl, rfl⟩
 refine SCode.cond_f rfl g6 (SCode.skip (SCode.seq ?_))
 obtain ⟨c_9, g10, h⟩ := bind_out h
 try dsimp only at h
 refine SCode.region (show SOps _ _ _ [0, 1, 2, 3, 4, 5, 6, 7] _ _ from ?_)
 refine sq rfl rfl rfl (q_load_ptr_all rfl rfl rfl rfl rfl ty26) (sm rfl rfl rfl rfl rfl (sq rfl rfl rfl (q_call (plan_Feasible_ok F a0_p a1_energy c_9 g10) [] rfl fn14 ⟨⟨rfl, rfl⟩, ⟨_, rfl, .inl ⟨rfl, rfl⟩⟩, trivial⟩ (.inl rfl)) (sm rfl rfl rfl rfl rfl (sq rfl rfl rfl (q_extract rfl rfl rfl) (sq rfl rfl rfl (q_extract rfl rfl rfl) (sa rfl rfl rfl rfl rfl (sa rfl rfl rfl rfl rfl (SOps.sub (st' := ⟨[(1, .c (vI a1_energy)), (2, .c (.ptr 0 0)), (5, .c (.bool c_9.1)), (6, ci c_9.2)], [.box (bSProblem a0_p)]⟩) (sub_gen [0] rfl rfl (zall rfl rfl) ⟨bx rfl rfl rfl, trivial⟩) (SOps.nil ?_)))))))))
 refine SCode.seq ?_
 obtain ⟨c_11, g12, h⟩ := bind_out h
 try dsimp only at h
 refine SCode.region (show SOps _ _ _ [0, 1, 2, 3, 4, 5, 6, 7] _ _ from ?_)
 refine sq rfl rfl rfl (q_load_ptr_all rfl rfl rfl rfl rfl ty26) (sm rfl rfl rfl rfl rfl (sq rfl rfl rfl (q_call (chargenetref18_Feasible_ok F a0_p a1_energy c_11 g12) [] rfl fn15 ⟨⟨rfl, rfl⟩, ⟨_, rfl, .inl ⟨rfl, rfl⟩⟩, trivial⟩ (.inl rfl)) (sm rfl rfl rfl rfl rfl (sq rfl rfl rfl (q_extract rfl rfl rfl) (sq rfl rfl rfl (q_extract rfl rfl rfl) (sa rfl rfl rfl rfl rfl (sa rfl rfl rfl rfl rfl (SOps.nil (SCode.seq ?_)))))))))
 rcases cond_out h with ⟨g13, h⟩ | ⟨g13, h⟩
 ·refine SCode.region (show SOps _ _ _ [0, 1, 2, 3, 4, 5, 6, 7, 8] _ _ from ?_)
  refine sm rfl rfl rfl rfl rfl (sm rfl rfl rfl rfl rfl (sq rfl rfl rfl (q_eqlB rfl rfl rfl un4) (sm rfl rfl rfl rfl rfl (SOps.q rfl (.guard 3 33 true rfl rfl (gT g13)) rfl (q_move rfl rfl) (SOps.q rfl (.guard 3 33 true rfl rfl (gT g13)) rfl (q_move rfl rfl) (SOps.q rfl (.guard 3 33 true rfl rfl (gT g13)) rfl (q_eql rfl rfl rfl) (sq rfl rfl rfl (q_pick_t rfl rfl g13 rfl) (sa rfl rfl rfl rfl rfl (SOps.nil ?_)))))))))
  refine SCode.ret ?_
  obtain rfl := Option.some.inj h
  exact ⟨⟨[(4, .c (.bool (decide (c_9.2 = c_11.2))))], []⟩, _, sub_gen [] rfl rfl (zall rfl rfl) trivial, resA1 (v := .c (.bool (decide (c_9.2 = c_11.2)))) rfl rfl, rfl⟩
 refine SCode.region (show SOps _ _ _ [0, 1, 2, 3, 4, 5, 6, 7, 8] _ _ from ?_)
 refine sm rfl rfl rfl rfl rfl (sm rfl rfl rfl rfl rfl (sq rfl rfl rfl (q_eqlB rfl rfl rfl un4) (sm rfl rfl rfl rfl rfl (SOps.skip rfl 3 33 true rfl rfl (.inl (gF g13)) rfl (SOps.skip rfl 3 33 true rfl rfl (.inl (gF g13)) rfl (SOps.skip rfl 3 33 true rfl rfl (.inl (gF g13)) rfl (sq rfl rfl rfl (q_pick_f rfl rfl g13 rfl) (sa rfl rfl rfl rfl rfl (SOps.nil ?_)))))))))
 refine SCode.ret ?_
 obtain rfl := Option.some.inj h
 exact ⟨⟨[(4, .c (.bool false))], []⟩, _, sub_gen [] rfl rfl (zall rfl rfl) trivial, resA1 (v := .c (.bool false)) rfl rfl, rfl⟩
end Go.Proofs.Ytfefnffdocmlmaa.W
