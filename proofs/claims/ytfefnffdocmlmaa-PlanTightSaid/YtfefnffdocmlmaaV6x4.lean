/- Written by a program of ours (wip/eng/gen.py): the functions compute their models. -/
import Derived.Test.YtfefnffdocmlmaaFacts
import Derived.Test.YtfefnffdocmlmaaV6x3
namespace Go.Proofs.Ytfefnffdocmlmaa.W
open Go Go.Proofs Go.Proofs.Ytfefnffdocmlmaa.E Go.Proofs.Ytfefnffdocmlmaa.M
set_option linter.unusedVariables false
set_option maxRecDepth 100000 in
set_option maxHeartbeats 8000000 in
theorem plan_network_own_ok (F : Nat) (a0_p : SProblem) (r : SNet) (h : plan_network_own F a0_p = some r) :
  SFun Try.prog 27 [] [.a (bSProblem a0_p)] (fun x os => x = .a [.int .i64 r.Nodes, .own 0 r.Arcs.length] ∧ os = [aSArc 63 r.Arcs, .box [.int .i64 r.Nodes, .own 0 r.Arcs.length]]) := by
 refine SFun.of (n := 136) Try.func27 rfl rfl rfl ?_
 unfold plan_network_own at h
 show SCode _ _ _ ⟨[(0, .a (bSProblem a0_p))], []⟩ _
 refine SCode.seq ?_
 refine SCode.region (show SOps _ _ _ [0, 1] _ _ from ?_)
 refine se rfl rfl (e_box rfl rfl rfl rfl rfl rfl) (se rfl rfl (e_alloc rfl rfl rfl z49) (SOps.sub (st' := ⟨[(1, .c (.ptr 0 0)), (2, .c (.ptr 1 0))], [.box (bSProblem a0_p), .box [.int .i64 0, .own 2 (([] : List SArc)).length], aSArc 63 (([] : List SArc))]⟩) (Sub.trans (Sub.nilBox (id := 1) (j := 1) (T := 63) (k := 3) (g := gL cSArc dSArc ([] : List SArc)) rfl rfl) (sub_gen [0, 1, 2] rfl rfl (zall rfl rfl) ⟨bx rfl rfl rfl, bx rfl rfl rfl, oa rfl, trivial⟩)) (SOps.nil (SCode.seq ?_))))
 refine SCode.draw (s' := [(4, ci (IntKind.wrap .i64 (2 + ((a0_p.Demands).length : Int)))), (3, ci (((a0_p.Parents).length : Int))), (23, ci (IntKind.wrap .i64 (2 + ((a0_p.Demands).length : Int)))), (22, ci (((a0_p.Demands).length : Int))), (21, .c (vSDemand a0_p.Demands)), (20, .c (.ptr 0 4)), (19, ci (((a0_p.Parents).length : Int))), (18, .c (vI a0_p.Parents)), (17, .c (.ptr 0 0)), (1, .c (.ptr 0 0)), (2, .c (.ptr 1 0))]) mixed [[], [0], [0, 1], [], [3], [3, 4], [3, 4, 5], [0, 1, 2], [0, 1, 2, 3, 4, 5, 6, 7]] 9 0 rfl rfl ?_ ?_
 ·refine QChain.run rfl (.plain rfl) rfl (q_field_ptr rfl rfl fd26_0) (QChain.run rfl (.plain rfl) rfl (q_load_ptr rfl rfl rfl rfl ty22) (QChain.run rfl (.plain rfl) rfl (q_len_vec rfl rfl sl22) (QChain.run rfl (.plain rfl) rfl (q_field_ptr rfl rfl fd26_4) (QChain.run rfl (.plain rfl) rfl (q_load_ptr rfl rfl rfl rfl ty24) (QChain.run rfl (.plain rfl) rfl (q_len_vec rfl rfl sl24) (QChain.run rfl (.plain rfl) rfl (q_add rfl rfl rfl) (QChain.run rfl (.plain rfl) rfl (q_assign rfl rfl) (QChain.run rfl (.plain rfl) rfl (q_assign rfl rfl) ?_))))))))
  exact QChain.nil _ _
 refine (show SOps _ _ _ [] _ _ from ?_)
 refine SOps.sub (st' := ⟨[(1, .c (.ptr 0 0)), (2, .c (.ptr 1 0)), (3, ci (((a0_p.Parents).length : Int))), (4, ci (IntKind.wrap .i64 (2 + ((a0_p.Demands).length : Int))))], [.box (bSProblem a0_p), .box [.int .i64 0, .own 2 (([] : List SArc)).length], aSArc 63 (([] : List SArc))]⟩) (sub_gen [0, 1, 2] rfl rfl (zall rfl rfl) ⟨bx rfl rfl rfl, bx rfl rfl rfl, oa rfl, trivial⟩) (SOps.nil (SCode.seq ?_))
 refine SCode.region (show SOps _ _ _ [0, 1, 2, 3, 4, 5, 6, 7, 8, 9] _ _ from ?_)
 refine sm rfl rfl rfl rfl rfl (sq rfl rfl rfl (q_field_ptr rfl rfl fd26_1) (sq rfl rfl rfl (q_load_ptr rfl rfl rfl rfl ty23) (sq rfl rfl rfl (q_len_vec rfl rfl sl23) (sm rfl rfl rfl rfl rfl (sq rfl rfl rfl (q_mul rfl rfl rfl) (sq rfl rfl rfl (q_add rfl rfl rfl) (sq rfl rfl rfl (q_build2 rfl rfl pl49 rfl) (se rfl rfl (e_alloc rfl rfl rfl z49) (se rfl rfl (e_store_box rfl rfl rfl rfl rfl ty49 rfl rfl rfl rfl) ?_)))))))))
 refine SOps.sub (st' := ⟨[(1, .c (.ptr 0 0)), (2, .c (.ptr 1 0)), (3, ci (((a0_p.Parents).length : Int))), (4, ci (IntKind.wrap .i64 (2 + ((a0_p.Demands).length : Int)))), (5, .c (.ptr 3 0))], [.box (bSProblem a0_p), .box [.int .i64 0, .own 2 (([] : List SArc)).length], aSArc 63 (([] : List SArc)), .box [.int .i64 (IntKind.wrap .i64 (IntKind.wrap .i64 (2 + ((a0_p.Demands).length : Int)) + IntKind.wrap .i64 (((a0_p.Caps).length : Int) * ((a0_p.Parents).length : Int)))), .own 4 (([] : List SArc)).length], aSArc 63 (([] : List SArc))]⟩) (Sub.trans (Sub.nilBox (id := 3) (j := 1) (T := 63) (k := 3) (g := gL cSArc dSArc ([] : List SArc)) rfl rfl) (sub_gen [0, 1, 2, 3, 4] rfl rfl (zall rfl rfl) ⟨bx rfl rfl rfl, bx rfl rfl rfl, oa rfl, bx rfl rfl rfl, oa rfl, trivial⟩)) (SOps.nil ?_)
 refine SCode.join (σ := (List SArc)) (S := fun s => ⟨[(1, .c (.ptr 0 0)), (2, .c (.ptr 1 0)), (3, ci (((a0_p.Parents).length : Int))), (4, ci (IntKind.wrap .i64 (2 + ((a0_p.Demands).length : Int)))), (5, .c (.ptr 3 0))], [.box (bSProblem a0_p), .box [.int .i64 0, .own 2 (([] : List SArc)).length], aSArc 63 (([] : List SArc)), .box [.int .i64 (IntKind.wrap .i64 (IntKind.wrap .i64 (2 + ((a0_p.Demands).length : Int)) + IntKind.wrap .i64 (((a0_p.Caps).length : Int) * ((a0_p.Parents).length : Int)))), .own 4 s.length], aSArc 63 s]⟩) (g := fun s => plan_network_own_p180 F a0_p s = some r) ?_ ?_
 rotate_left
 ·refine SCode.seq ?_
  refine SCode.region (show SOps _ _ _ [0, 1, 2, 3] _ _ from ?_)
  refine sq rfl rfl rfl (q_field_ptr rfl rfl fd26_4) (sq rfl rfl rfl (q_load_ptr rfl rfl rfl rfl ty24) (sq rfl rfl rfl (q_len_vec rfl rfl sl24) (sm rfl rfl rfl rfl rfl (SOps.nil (SCode.block (SCode.sub (st' := ⟨[(1, .c (.ptr 0 0)), (2, .c (.ptr 1 0)), (3, ci (((a0_p.Parents).length : Int))), (4, ci (IntKind.wrap .i64 (2 + ((a0_p.Demands).length : Int)))), (5, .c (.ptr 3 0)), (34, ci (((a0_p.Demands).length : Int))), (35, ci 0)], [.box (bSProblem a0_p), .box [.int .i64 0, .own 2 (([] : List SArc)).length], aSArc 63 (([] : List SArc)), .box [.int .i64 (IntKind.wrap .i64 (IntKind.wrap .i64 (2 + ((a0_p.Demands).length : Int)) + IntKind.wrap .i64 (((a0_p.Caps).length : Int) * ((a0_p.Parents).length : Int)))), .own 4 ([] : List SArc).length], aSArc 63 ([] : List SArc)]⟩) (sub_gen [0, 1, 2, 3, 4] rfl rfl (zall rfl rfl) ⟨bx rfl rfl rfl, bx rfl rfl rfl, oa rfl, bx rfl rfl rfl, oa rfl, trivial⟩) ?_))))))
  refine (SCode.loop (σ := Nat × (Int × (List SArc))) (S := fun s => ⟨[(1, .c (.ptr 0 0)), (2, .c (.ptr 1 0)), (3, ci (((a0_p.Parents).length : Int))), (4, ci (IntKind.wrap .i64 (2 + ((a0_p.Demands).length : Int)))), (5, .c (.ptr 3 0)), (34, ci (((a0_p.Demands).length : Int))), (35, ci s.2.1)], [.box (bSProblem a0_p), .box [.int .i64 0, .own 2 (([] : List SArc)).length], aSArc 63 (([] : List SArc)), .box [.int .i64 (IntKind.wrap .i64 (IntKind.wrap .i64 (2 + ((a0_p.Demands).length : Int)) + IntKind.wrap .i64 (((a0_p.Caps).length : Int) * ((a0_p.Parents).length : Int)))), .own 4 s.2.2.length], aSArc 63 s.2.2]⟩) (g := fun s => plan_network_own_l187 F a0_p s.1 s.2.1 s.2.2 = some r) (μ := fun s => s.1) (F, (0, ([] : List SArc))) h ?_)
  rintro ⟨n_187, ⟨t35_183, o4_184⟩⟩ h
  replace h : plan_network_own_l187 F a0_p n_187 t35_183 o4_184 = some r := h
  show SCode _ _ _ ⟨[(1, .c (.ptr 0 0)), (2, .c (.ptr 1 0)), (3, ci (((a0_p.Parents).length : Int))), (4, ci (IntKind.wrap .i64 (2 + ((a0_p.Demands).length : Int)))), (5, .c (.ptr 3 0)), (34, ci (((a0_p.Demands).length : Int))), (35, ci t35_183)], [.box (bSProblem a0_p), .box [.int .i64 0, .own 2 (([] : List SArc)).length], aSArc 63 (([] : List SArc)), .box [.int .i64 (IntKind.wrap .i64 (IntKind.wrap .i64 (2 + ((a0_p.Demands).length : Int)) + IntKind.wrap .i64 (((a0_p.Caps).length : Int) * ((a0_p.Parents).length : Int)))), .own 4 o4_184.length], aSArc 63 o4_184]⟩ _
  cases n_187 with
  | zero => cases h
  | succ n_187 =>
   replace h : plan_network_own_b187 F a0_p (fun t35_183 o4_184 => plan_network_own_l187 F a0_p n_187 t35_183 o4_184) t35_183 o4_184 = some r := h
   unfold plan_network_own_b187 at h
   refine SCode.seq ?_
   refine SCode.region (show SOps _ _ _ [0] _ _ from ?_)
   refine sq rfl rfl rfl (q_lss rfl rfl rfl) (SOps.nil (SCode.seq ?_))
   rcases cond_out h with ⟨g188, h⟩ | ⟨g188, h⟩
   ·refine SCode.cond_t rfl g188 (SCode.skip (SCode.seq (SCode.block (SCode.seq ?_))))
    refine SCode.region (show SOps _ _ _ [0, 1] _ _ from ?_)
    refine sm rfl rfl rfl rfl rfl (sa rfl rfl rfl rfl rfl (SOps.nil ?_))
    obtain ⟨g189, h⟩ := guard_out h
    refine SCode.region (show SOps _ _ _ [0, 1, 2, 3, 4, 5, 6, 7, 8] _ _ from ?_)
    refine sq rfl rfl rfl (q_field_ptr rfl rfl fd49_1) (sq rfl rfl rfl (q_load_ptr rfl rfl rfl rfl ty47) (sm rfl rfl rfl rfl rfl (sq rfl rfl rfl (q_add rfl rfl rfl) (sq rfl rfl rfl (q_build2 rfl rfl pl63 rfl) (sq rfl rfl rfl (q_bsliceL (c := cSArc) (d0 := dSArc) [SArc.mk 0 (IntKind.wrap .i64 (2 + t35_183)) 0] rfl rfl sl47 z63 rfl rfl rfl rfl rfl rfl rfl) (se rfl rfl (e_appendL (c := cSArc) (d0 := dSArc) (l := o4_184) (l2 := [SArc.mk 0 (IntKind.wrap .i64 (2 + t35_183)) 0]) rfl rfl rfl rfl rfl rfl (.inl rfl) sl47 z63 rfl rfl oneSArc g189.1 g189.2) (sq rfl rfl rfl (q_field_ptr rfl rfl fd49_1) (se rfl rfl (e_store_box rfl rfl rfl rfl rfl ty47 rfl rfl rfl rfl) (SOps.sub (st' := ⟨[(1, .c (.ptr 0 0)), (2, .c (.ptr 1 0)), (3, ci (((a0_p.Parents).length : Int))), (4, ci (IntKind.wrap .i64 (2 + ((a0_p.Demands).length : Int)))), (5, .c (.ptr 3 0)), (34, ci (((a0_p.Demands).length : Int))), (35, ci t35_183)], [.box (bSProblem a0_p), .box [.int .i64 0, .own 2 (([] : List SArc)).length], aSArc 63 (([] : List SArc)), .box [.int .i64 (IntKind.wrap .i64 (IntKind.wrap .i64 (2 + ((a0_p.Demands).length : Int)) + IntKind.wrap .i64 (((a0_p.Caps).length : Int) * ((a0_p.Parents).length : Int)))), .own 4 (o4_184 ++ ([SArc.mk 0 (IntKind.wrap .i64 (2 + t35_183)) 0])).length], aSArc 63 (o4_184 ++ ([SArc.mk 0 (IntKind.wrap .i64 (2 + t35_183)) 0]))]⟩) (sub_gen [0, 1, 2, 3, 5] rfl rfl (zall rfl rfl) ⟨bx rfl rfl rfl, bx rfl rfl rfl, oa rfl, bx rfl rfl rfl, oa rfl, trivial⟩) ?_)))))))))
    refine SOps.nil ?_
    refine SCode.region (show SOps _ _ _ [0, 1] _ _ from ?_)
    refine sq rfl rfl rfl (q_add rfl rfl rfl) (sm rfl rfl rfl rfl rfl (SOps.nil ?_))
    exact ⟨(n_187, (IntKind.wrap .i64 (t35_183 + 1), o4_184 ++ ([SArc.mk 0 (IntKind.wrap .i64 (2 + t35_183)) 0]))), h, Nat.lt_succ_self n_187, sub_gen [0, 1, 2, 3, 4] rfl rfl (zall rfl rfl) ⟨bx rfl rfl rfl, bx rfl rfl rfl, oa rfl, bx rfl rfl rfl, oa rfl, trivial⟩⟩
   refine SCode.cond_f rfl g188 (SCode.exit ?_)
   exact ⟨o4_184, h, sub_gen [0, 1, 2, 3, 4] rfl rfl (zall rfl rfl) ⟨bx rfl rfl rfl, bx rfl rfl rfl, oa rfl, bx rfl rfl rfl, oa rfl, trivial⟩⟩
 rintro o4_1 h
 show SCode _ _ _ ⟨[(1, .c (.ptr 0 0)), (2, .c (.ptr 1 0)), (3, ci (((a0_p.Parents).length : Int))), (4, ci (IntKind.wrap .i64 (2 + ((a0_p.Demands).length : Int)))), (5, .c (.ptr 3 0))], [.box (bSProblem a0_p), .box [.int .i64 0, .own 2 (([] : List SArc)).length], aSArc 63 (([] : List SArc)), .box [.int .i64 (IntKind.wrap .i64 (IntKind.wrap .i64 (2 + ((a0_p.Demands).length : Int)) + IntKind.wrap .i64 (((a0_p.Caps).length : Int) * ((a0_p.Parents).length : Int)))), .own 4 o4_1.length], aSArc 63 o4_1]⟩ _
 replace h : plan_network_own_p180 F a0_p o4_1 = some r := h
 unfold plan_network_own_p180 at h
 refine SCode.join (σ := (List SArc)) (S := fun s => ⟨[(1, .c (.ptr 0 0)), (2, .c (.ptr 1 0)), (3, ci (((a0_p.Parents).length : Int))), (4, ci (IntKind.wrap .i64 (2 + ((a0_p.Demands).length : Int)))), (5, .c (.ptr 3 0))], [.box (bSProblem a0_p), .box [.int .i64 0, .own 2 (([] : List SArc)).length], aSArc 63 (([] : List SArc)), .box [.int .i64 (IntKind.wrap .i64 (IntKind.wrap .i64 (2 + ((a0_p.Demands).length : Int)) + IntKind.wrap .i64 (((a0_p.Caps).length : Int) * ((a0_p.Parents).length : Int)))), .own 4 s.length], aSArc 63 s]⟩) (g := fun s => plan_network_own_p92 F a0_p s = some r) ?_ ?_
 rotate_left
 ·refine SCode.seq ?_
  refine SCode.region (show SOps _ _ _ [0, 1, 2, 3] _ _ from ?_)
  refine sq rfl rfl rfl (q_field_ptr rfl rfl fd26_4) (sq rfl rfl rfl (q_load_ptr rfl rfl rfl rfl ty24) (sq rfl rfl rfl (q_len_vec rfl rfl sl24) (sm rfl rfl rfl rfl rfl (SOps.nil (SCode.block (SCode.sub (st' := ⟨[(1, .c (.ptr 0 0)), (2, .c (.ptr 1 0)), (3, ci (((a0_p.Parents).length : Int))), (4, ci (IntKind.wrap .i64 (2 + ((a0_p.Demands).length : Int)))), (5, .c (.ptr 3 0)), (48, .c (vSDemand a0_p.Demands)), (49, ci (((a0_p.Demands).length : Int))), (50, ci 0)], [.box (bSProblem a0_p), .box [.int .i64 0, .own 2 (([] : List SArc)).length], aSArc 63 (([] : List SArc)), .box [.int .i64 (IntKind.wrap .i64 (IntKind.wrap .i64 (2 + ((a0_p.Demands).length : Int)) + IntKind.wrap .i64 (((a0_p.Caps).length : Int) * ((a0_p.Parents).length : Int)))), .own 4 o4_1.length], aSArc 63 o4_1]⟩) (sub_gen [0, 1, 2, 3, 4] rfl rfl (zall rfl rfl) ⟨bx rfl rfl rfl, bx rfl rfl rfl, oa rfl, bx rfl rfl rfl, oa rfl, trivial⟩) ?_))))))
  refine (SCode.loop (σ := Nat × (Int × (List SArc))) (S := fun s => ⟨[(1, .c (.ptr 0 0)), (2, .c (.ptr 1 0)), (3, ci (((a0_p.Parents).length : Int))), (4, ci (IntKind.wrap .i64 (2 + ((a0_p.Demands).length : Int)))), (5, .c (.ptr 3 0)), (48, .c (vSDemand a0_p.Demands)), (49, ci (((a0_p.Demands).length : Int))), (50, ci s.2.1)], [.box (bSProblem a0_p), .box [.int .i64 0, .own 2 (([] : List SArc)).length], aSArc 63 (([] : List SArc)), .box [.int .i64 (IntKind.wrap .i64 (IntKind.wrap .i64 (2 + ((a0_p.Demands).length : Int)) + IntKind.wrap .i64 (((a0_p.Caps).length : Int) * ((a0_p.Parents).length : Int)))), .own 4 s.2.2.length], aSArc 63 s.2.2]⟩) (g := fun s => plan_network_own_l151 F a0_p s.1 s.2.1 s.2.2 = some r) (μ := fun s => s.1) (F, (0, o4_1)) h ?_)
  rintro ⟨n_151, ⟨t50_121, o4_122⟩⟩ h
  replace h : plan_network_own_l151 F a0_p n_151 t50_121 o4_122 = some r := h
  show SCode _ _ _ ⟨[(1, .c (.ptr 0 0)), (2, .c (.ptr 1 0)), (3, ci (((a0_p.Parents).length : Int))), (4, ci (IntKind.wrap .i64 (2 + ((a0_p.Demands).length : Int)))), (5, .c (.ptr 3 0)), (48, .c (vSDemand a0_p.Demands)), (49, ci (((a0_p.Demands).length : Int))), (50, ci t50_121)], [.box (bSProblem a0_p), .box [.int .i64 0, .own 2 (([] : List SArc)).length], aSArc 63 (([] : List SArc)), .box [.int .i64 (IntKind.wrap .i64 (IntKind.wrap .i64 (2 + ((a0_p.Demands).length : Int)) + IntKind.wrap .i64 (((a0_p.Caps).length : Int) * ((a0_p.Parents).length : Int)))), .own 4 o4_122.length], aSArc 63 o4_122]⟩ _
  cases n_151 with
  | zero => cases h
  | succ n_151 =>
   replace h : plan_network_own_b151 F a0_p (fun t50_121 o4_122 => plan_network_own_l151 F a0_p n_151 t50_121 o4_122) t50_121 o4_122 = some r := h
   unfold plan_network_own_b151 at h
   refine SCode.seq ?_
   refine SCode.region (show SOps _ _ _ [0] _ _ from ?_)
   refine sq rfl rfl rfl (q_lss rfl rfl rfl) (SOps.nil (SCode.seq ?_))
   rcases cond_out h with ⟨g152, h⟩ | ⟨g152, h⟩
   ·refine SCode.cond_t rfl g152 (SCode.skip ?_)
    refine SCode.join (σ := (List SArc)) (S := fun s => ⟨[(1, .c (.ptr 0 0)), (2, .c (.ptr 1 0)), (3, ci (((a0_p.Parents).length : Int))), (4, ci (IntKind.wrap .i64 (2 + ((a0_p.Demands).length : Int)))), (5, .c (.ptr 3 0)), (48, .c (vSDemand a0_p.Demands)), (49, ci (((a0_p.Demands).length : Int))), (50, ci t50_121)], [.box (bSProblem a0_p), .box [.int .i64 0, .own 2 (([] : List SArc)).length], aSArc 63 (([] : List SArc)), .box [.int .i64 (IntKind.wrap .i64 (IntKind.wrap .i64 (2 + ((a0_p.Demands).length : Int)) + IntKind.wrap .i64 (((a0_p.Caps).length : Int) * ((a0_p.Parents).length : Int)))), .own 4 s.length], aSArc 63 s]⟩) (g := fun s => plan_network_own_p154 t50_121 (fun t50_121 o4_122 => plan_network_own_l151 F a0_p n_151 t50_121 o4_122) s = some r) ?_ ?_
    rotate_left
    ·refine SCode.block (SCode.seq ?_)
     obtain ⟨g155, h⟩ := guard_out h
     refine SCode.region (show SOps _ _ _ [0, 1, 2, 3, 4, 5] _ _ from ?_)
     refine sm rfl rfl rfl rfl rfl (sq rfl rfl rfl (q_index_vec rfl rfl rfl sl24 rfl g155.1 g155.2) (sq rfl rfl rfl (q_load_eptr_all rfl rfl rfl ty39) (se rfl rfl (e_alloc rfl rfl rfl z39) (sa rfl rfl rfl rfl rfl (se rfl rfl (e_store_box rfl rfl rfl rfl rfl ty39 rfl rfl rfl rfl) (SOps.nil (SCode.seq ?_)))))))
     refine SCode.region (show SOps _ _ _ [0, 1, 2, 3] _ _ from ?_)
     refine sq rfl rfl rfl (q_field_ptr rfl rfl fd26_1) (sq rfl rfl rfl (q_load_ptr rfl rfl rfl rfl ty23) (sq rfl rfl rfl (q_len_vec rfl rfl sl23) (sm rfl rfl rfl rfl rfl (SOps.nil (SCode.block (SCode.sub (st' := ⟨[(1, .c (.ptr 0 0)), (2, .c (.ptr 1 0)), (3, ci (((a0_p.Parents).length : Int))), (4, ci (IntKind.wrap .i64 (2 + ((a0_p.Demands).length : Int)))), (5, .c (.ptr 3 0)), (7, ci t50_121), (8, .c (.ptr 5 0)), (48, .c (vSDemand a0_p.Demands)), (49, ci (((a0_p.Demands).length : Int))), (50, ci t50_121), (57, ci (((a0_p.Caps).length : Int))), (58, ci 0)], [.box (bSProblem a0_p), .box [.int .i64 0, .own 2 (([] : List SArc)).length], aSArc 63 (([] : List SArc)), .box [.int .i64 (IntKind.wrap .i64 (IntKind.wrap .i64 (2 + ((a0_p.Demands).length : Int)) + IntKind.wrap .i64 (((a0_p.Caps).length : Int) * ((a0_p.Parents).length : Int)))), .own 4 o4_122.length], aSArc 63 o4_122, .box (bSDemand (a0_p.Demands.getD t50_121.toNat dSDemand))]⟩) (sub_gen [0, 1, 2, 3, 4, 5] rfl rfl (zall rfl rfl) ⟨bx rfl rfl rfl, bx rfl rfl rfl, oa rfl, bx rfl rfl rfl, oa rfl, bx rfl rfl rfl, trivial⟩) ?_))))))
     refine (SCode.loop (σ := Nat × (Int × (List SArc))) (S := fun s => ⟨[(1, .c (.ptr 0 0)), (2, .c (.ptr 1 0)), (3, ci (((a0_p.Parents).length : Int))), (4, ci (IntKind.wrap .i64 (2 + ((a0_p.Demands).length : Int)))), (5, .c (.ptr 3 0)), (7, ci t50_121), (8, .c (.ptr 5 0)), (48, .c (vSDemand a0_p.Demands)), (49, ci (((a0_p.Demands).length : Int))), (50, ci t50_121), (57, ci (((a0_p.Caps).length : Int))), (58, ci s.2.1)], [.box (bSProblem a0_p), .box [.int .i64 0, .own 2 (([] : List SArc)).length], aSArc 63 (([] : List SArc)), .box [.int .i64 (IntKind.wrap .i64 (IntKind.wrap .i64 (2 + ((a0_p.Demands).length : Int)) + IntKind.wrap .i64 (((a0_p.Caps).length : Int) * ((a0_p.Parents).length : Int)))), .own 4 s.2.2.length], aSArc 63 s.2.2, .box (bSDemand (a0_p.Demands.getD t50_121.toNat dSDemand))]⟩) (g := fun s => plan_network_own_l172 F a0_p t50_121 (fun t50_121 o4_122 => plan_network_own_l151 F a0_p n_151 t50_121 o4_122) s.1 s.2.1 s.2.2 = some r) (μ := fun s => s.1) (F, (0, o4_122)) h ?_)
     rintro ⟨n_172, ⟨t58_163, o4_164⟩⟩ h
     replace h : plan_network_own_l172 F a0_p t50_121 (fun t50_121 o4_122 => plan_network_own_l151 F a0_p n_151 t50_121 o4_122) n_172 t58_163 o4_164 = some r := h
     show SCode _ _ _ ⟨[(1, .c (.ptr 0 0)), (2, .c (.ptr 1 0)), (3, ci (((a0_p.Parents).length : Int))), (4, ci (IntKind.wrap .i64 (2 + ((a0_p.Demands).length : Int)))), (5, .c (.ptr 3 0)), (7, ci t50_121), (8, .c (.ptr 5 0)), (48, .c (vSDemand a0_p.Demands)), (49, ci (((a0_p.Demands).length : Int))), (50, ci t50_121), (57, ci (((a0_p.Caps).length : Int))), (58, ci t58_163)], [.box (bSProblem a0_p), .box [.int .i64 0, .own 2 (([] : List SArc)).length], aSArc 63 (([] : List SArc)), .box [.int .i64 (IntKind.wrap .i64 (IntKind.wrap .i64 (2 + ((a0_p.Demands).length : Int)) + IntKind.wrap .i64 (((a0_p.Caps).length : Int) * ((a0_p.Parents).length : Int)))), .own 4 o4_164.length], aSArc 63 o4_164, .box (bSDemand (a0_p.Demands.getD t50_121.toNat dSDemand))]⟩ _
     cases n_172 with
     | zero => cases h
     | succ n_172 =>
      replace h : plan_network_own_b172 F a0_p t50_121 (fun t50_121 o4_122 => plan_network_own_l151 F a0_p n_151 t50_121 o4_122) (fun t58_163 o4_164 => plan_network_own_l172 F a0_p t50_121 (fun t50_121 o4_122 => plan_network_own_l151 F a0_p n_151 t50_121 o4_122) n_172 t58_163 o4_164) t58_163 o4_164 = some r := h
      unfold plan_network_own_b172 at h
      refine SCode.seq ?_
      refine SCode.region (show SOps _ _ _ [0] _ _ from ?_)
      refine sq rfl rfl rfl (q_lss rfl rfl rfl) (SOps.nil (SCode.seq ?_))
      rcases cond_out h with ⟨g173, h⟩ | ⟨g173, h⟩
      ·refine SCode.cond_t rfl g173 (SCode.skip ?_)
       refine SCode.join (σ := (List SArc)) (S := fun s => ⟨[(1, .c (.ptr 0 0)), (2, .c (.ptr 1 0)), (3, ci (((a0_p.Parents).length : Int))), (4, ci (IntKind.wrap .i64 (2 + ((a0_p.Demands).length : Int)))), (5, .c (.ptr 3 0)), (7, ci t50_121), (8, .c (.ptr 5 0)), (48, .c (vSDemand a0_p.Demands)), (49, ci (((a0_p.Demands).length : Int))), (50, ci t50_121), (57, ci (((a0_p.Caps).length : Int))), (58, ci t58_163)], [.box (bSProblem a0_p), .box [.int .i64 0, .own 2 (([] : List SArc)).length], aSArc 63 (([] : List SArc)), .box [.int .i64 (IntKind.wrap .i64 (IntKind.wrap .i64 (2 + ((a0_p.Demands).length : Int)) + IntKind.wrap .i64 (((a0_p.Caps).length : Int) * ((a0_p.Parents).length : Int)))), .own 4 s.length], aSArc 63 s, .box (bSDemand (a0_p.Demands.getD t50_121.toNat dSDemand))]⟩) (g := fun s => plan_network_own_p175 t58_163 (fun t58_163 o4_164 => plan_network_own_l172 F a0_p t50_121 (fun t50_121 o4_122 => plan_network_own_l151 F a0_p n_151 t50_121 o4_122) n_172 t58_163 o4_164) s = some r) ?_ ?_
       rotate_left
       ·refine SCode.block (SCode.seq ?_)
        refine SCode.region (show SOps _ _ _ [0, 1] _ _ from ?_)
        refine sm rfl rfl rfl rfl rfl (sa rfl rfl rfl rfl rfl (SOps.nil (SCode.seq ?_)))
        obtain ⟨c_176, g177, h⟩ := bind_out h
        try dsimp only at h
        refine SCode.region (show SOps _ _ _ [0, 1, 2, 3] _ _ from ?_)
        refine sq rfl rfl rfl (q_load_ptr_all rfl rfl rfl rfl rfl ty26) (sq rfl rfl rfl (q_load_ptr_all rfl rfl rfl rfl rfl ty39) (sm rfl rfl rfl rfl rfl (sq rfl rfl rfl (q_call (plan_usable_ok F a0_p (a0_p.Demands.getD t50_121.toNat dSDemand) t58_163 c_176 g177) [] rfl fn36 ⟨⟨rfl, rfl⟩, ⟨rfl, rfl⟩, ⟨_, rfl, .inl ⟨rfl, rfl⟩⟩, trivial⟩ (.inl rfl)) (SOps.nil ?_))))
        rcases cond_out h with ⟨g178, h⟩ | ⟨g178, h⟩
        ·refine SCode.cond_t rfl g178 (SCode.seq ?_)
         refine SCode.region (show SOps _ _ _ [0, 1, 2, 3, 4, 5, 6, 7, 8] _ _ from ?_)
         refine sm rfl rfl rfl rfl rfl (sm rfl rfl rfl rfl rfl (sm rfl rfl rfl rfl rfl (sq rfl rfl rfl (q_mul rfl rfl rfl) (sq rfl rfl rfl (q_add rfl rfl rfl) (sq rfl rfl rfl (q_field_ptr rfl rfl fd39_0) (sq rfl rfl rfl (q_load_ptr rfl rfl rfl rfl ty3) (sq rfl rfl rfl (q_add rfl rfl rfl) (sa rfl rfl rfl rfl rfl (SOps.nil ?_)))))))))
         obtain ⟨g179, h⟩ := guard_out h
         refine SCode.region (show SOps _ _ _ [0, 1, 2, 3, 4, 5, 6, 7, 8, 9, 10, 11, 12, 13, 14] _ _ from ?_)
         refine sq rfl rfl rfl (q_field_ptr rfl rfl fd49_1) (sq rfl rfl rfl (q_load_ptr rfl rfl rfl rfl ty47) (sm rfl rfl rfl rfl rfl (sq rfl rfl rfl (q_add rfl rfl rfl) (sm rfl rfl rfl rfl rfl (sq rfl rfl rfl (q_field_ptr rfl rfl fd39_1) (sq rfl rfl rfl (q_load_ptr rfl rfl rfl rfl ty3) (sq rfl rfl rfl (q_field_ptr rfl rfl fd26_3) (sq rfl rfl rfl (q_load_ptr rfl rfl rfl rfl ty3) (sq rfl rfl rfl (q_mul rfl rfl rfl) ?_)))))))))
         refine sq rfl rfl rfl (q_build2 rfl rfl pl63 rfl) (sq rfl rfl rfl (q_bsliceL (c := cSArc) (d0 := dSArc) [SArc.mk (IntKind.wrap .i64 (2 + t50_121)) (IntKind.wrap .i64 (IntKind.wrap .i64 (IntKind.wrap .i64 (2 + ((a0_p.Demands).length : Int)) + IntKind.wrap .i64 (t58_163 * ((a0_p.Parents).length : Int))) + (a0_p.Demands.getD t50_121.toNat dSDemand).Feeder)) (IntKind.wrap .i64 ((a0_p.Demands.getD t50_121.toNat dSDemand).Max * a0_p.Length))] rfl rfl sl47 z63 rfl rfl rfl rfl rfl rfl rfl) (se rfl rfl (e_appendL (c := cSArc) (d0 := dSArc) (l := o4_164) (l2 := [SArc.mk (IntKind.wrap .i64 (2 + t50_121)) (IntKind.wrap .i64 (IntKind.wrap .i64 (IntKind.wrap .i64 (2 + ((a0_p.Demands).length : Int)) + IntKind.wrap .i64 (t58_163 * ((a0_p.Parents).length : Int))) + (a0_p.Demands.getD t50_121.toNat dSDemand).Feeder)) (IntKind.wrap .i64 ((a0_p.Demands.getD t50_121.toNat dSDemand).Max * a0_p.Length))]) rfl rfl rfl rfl rfl rfl (.inl rfl) sl47 z63 rfl rfl oneSArc g179.1 g179.2) (sq rfl rfl rfl (q_field_ptr rfl rfl fd49_1) (se rfl rfl (e_store_box rfl rfl rfl rfl rfl ty47 rfl rfl rfl rfl) (SOps.sub (st' := ⟨[(1, .c (.ptr 0 0)), (2, .c (.ptr 1 0)), (3, ci (((a0_p.Parents).length : Int))), (4, ci (IntKind.wrap .i64 (2 + ((a0_p.Demands).length : Int)))), (5, .c (.ptr 3 0)), (7, ci t50_121), (8, .c (.ptr 5 0)), (48, .c (vSDemand a0_p.Demands)), (49, ci (((a0_p.Demands).length : Int))), (50, ci t50_121), (57, ci (((a0_p.Caps).length : Int))), (58, ci t58_163)], [.box (bSProblem a0_p), .box [.int .i64 0, .own 2 (([] : List SArc)).length], aSArc 63 (([] : List SArc)), .box [.int .i64 (IntKind.wrap .i64 (IntKind.wrap .i64 (2 + ((a0_p.Demands).length : Int)) + IntKind.wrap .i64 (((a0_p.Caps).length : Int) * ((a0_p.Parents).length : Int)))), .own 4 (o4_164 ++ ([SArc.mk (IntKind.wrap .i64 (2 + t50_121)) (IntKind.wrap .i64 (IntKind.wrap .i64 (IntKind.wrap .i64 (2 + ((a0_p.Demands).length : Int)) + IntKind.wrap .i64 (t58_163 * ((a0_p.Parents).length : Int))) + (a0_p.Demands.getD t50_121.toNat dSDemand).Feeder)) (IntKind.wrap .i64 ((a0_p.Demands.getD t50_121.toNat dSDemand).Max * a0_p.Length))])).length], aSArc 63 (o4_164 ++ ([SArc.mk (IntKind.wrap .i64 (2 + t50_121)) (IntKind.wrap .i64 (IntKind.wrap .i64 (IntKind.wrap .i64 (2 + ((a0_p.Demands).length : Int)) + IntKind.wrap .i64 (t58_163 * ((a0_p.Parents).length : Int))) + (a0_p.Demands.getD t50_121.toNat dSDemand).Feeder)) (IntKind.wrap .i64 ((a0_p.Demands.getD t50_121.toNat dSDemand).Max * a0_p.Length))])), .box (bSDemand (a0_p.Demands.getD t50_121.toNat dSDemand))]⟩) (sub_gen [0, 1, 2, 3, 6, 5] rfl rfl (zall rfl rfl) ⟨bx rfl rfl rfl, bx rfl rfl rfl, oa rfl, bx rfl rfl rfl, oa rfl, bx rfl rfl rfl, trivial⟩) (SOps.nil ?_))))))
         exact ⟨o4_164 ++ ([SArc.mk (IntKind.wrap .i64 (2 + t50_121)) (IntKind.wrap .i64 (IntKind.wrap .i64 (IntKind.wrap .i64 (2 + ((a0_p.Demands).length : Int)) + IntKind.wrap .i64 (t58_163 * ((a0_p.Parents).length : Int))) + (a0_p.Demands.getD t50_121.toNat dSDemand).Feeder)) (IntKind.wrap .i64 ((a0_p.Demands.getD t50_121.toNat dSDemand).Max * a0_p.Length))]), h, sub_gen [0, 1, 2, 3, 4, 5] rfl rfl (zall rfl rfl) ⟨bx rfl rfl rfl, bx rfl rfl rfl, oa rfl, bx rfl rfl rfl, oa rfl, bx rfl rfl rfl, trivial⟩⟩
        refine SCode.cond_f rfl g178 (SCode.skip ?_)
        exact ⟨o4_164, h, sub_gen [0, 1, 2, 3, 4, 5] rfl rfl (zall rfl rfl) ⟨bx rfl rfl rfl, bx rfl rfl rfl, oa rfl, bx rfl rfl rfl, oa rfl, bx rfl rfl rfl, trivial⟩⟩
       rintro o4_174 h
       show SCode _ _ _ ⟨[(1, .c (.ptr 0 0)), (2, .c (.ptr 1 0)), (3, ci (((a0_p.Parents).length : Int))), (4, ci (IntKind.wrap .i64 (2 + ((a0_p.Demands).length : Int)))), (5, .c (.ptr 3 0)), (7, ci t50_121), (8, .c (.ptr 5 0)), (48, .c (vSDemand a0_p.Demands)), (49, ci (((a0_p.Demands).length : Int))), (50, ci t50_121), (57, ci (((a0_p.Caps).length : Int))), (58, ci t58_163)], [.box (bSProblem a0_p), .box [.int .i64 0, .own 2 (([] : List SArc)).length], aSArc 63 (([] : List SArc)), .box [.int .i64 (IntKind.wrap .i64 (IntKind.wrap .i64 (2 + ((a0_p.Demands).length : Int)) + IntKind.wrap .i64 (((a0_p.Caps).length : Int) * ((a0_p.Parents).length : Int)))), .own 4 o4_174.length], aSArc 63 o4_174, .box (bSDemand (a0_p.Demands.getD t50_121.toNat dSDemand))]⟩ _
       replace h : plan_network_own_p175 t58_163 (fun t58_163 o4_164 => plan_network_own_l172 F a0_p t50_121 (fun t50_121 o4_122 => plan_network_own_l151 F a0_p n_151 t50_121 o4_122) n_172 t58_163 o4_164) o4_174 = some r := h
       unfold plan_network_own_p175 at h
       refine SCode.region (show SOps _ _ _ [0, 1] _ _ from ?_)
       refine sq rfl rfl rfl (q_add rfl rfl rfl) (sm rfl rfl rfl rfl rfl (SOps.nil ?_))
       exact ⟨(n_172, (IntKind.wrap .i64 (t58_163 + 1), o4_174)), h, Nat.lt_succ_self n_172, sub_gen [0, 1, 2, 3, 4, 5] rfl rfl (zall rfl rfl) ⟨bx rfl rfl rfl, bx rfl rfl rfl, oa rfl, bx rfl rfl rfl, oa rfl, bx rfl rfl rfl, trivial⟩⟩
      refine SCode.cond_f rfl g173 (SCode.exit ?_)
      exact ⟨o4_164, h, sub_gen [0, 1, 2, 3, 4] rfl rfl (zall rfl rfl) ⟨bx rfl rfl rfl, bx rfl rfl rfl, oa rfl, bx rfl rfl rfl, oa rfl, trivial⟩⟩
    rintro o4_153 h
    show SCode _ _ _ ⟨[(1, .c (.ptr 0 0)), (2, .c (.ptr 1 0)), (3, ci (((a0_p.Parents).length : Int))), (4, ci (IntKind.wrap .i64 (2 + ((a0_p.Demands).length : Int)))), (5, .c (.ptr 3 0)), (48, .c (vSDemand a0_p.Demands)), (49, ci (((a0_p.Demands).length : Int))), (50, ci t50_121)], [.box (bSProblem a0_p), .box [.int .i64 0, .own 2 (([] : List SArc)).length], aSArc 63 (([] : List SArc)), .box [.int .i64 (IntKind.wrap .i64 (IntKind.wrap .i64 (2 + ((a0_p.Demands).length : Int)) + IntKind.wrap .i64 (((a0_p.Caps).length : Int) * ((a0_p.Parents).length : Int)))), .own 4 o4_153.length], aSArc 63 o4_153]⟩ _
    replace h : plan_network_own_p154 t50_121 (fun t50_121 o4_122 => plan_network_own_l151 F a0_p n_151 t50_121 o4_122) o4_153 = some r := h
    unfold plan_network_own_p154 at h
    refine SCode.region (show SOps _ _ _ [0, 1] _ _ from ?_)
    refine sq rfl rfl rfl (q_add rfl rfl rfl) (sm rfl rfl rfl rfl rfl (SOps.nil ?_))
    exact ⟨(n_151, (IntKind.wrap .i64 (t50_121 + 1), o4_153)), h, Nat.lt_succ_self n_151, sub_gen [0, 1, 2, 3, 4] rfl rfl (zall rfl rfl) ⟨bx rfl rfl rfl, bx rfl rfl rfl, oa rfl, bx rfl rfl rfl, oa rfl, trivial⟩⟩
   refine SCode.cond_f rfl g152 (SCode.exit ?_)
   exact ⟨o4_122, h, sub_gen [0, 1, 2, 3, 4] rfl rfl (zall rfl rfl) ⟨bx rfl rfl rfl, bx rfl rfl rfl, oa rfl, bx rfl rfl rfl, oa rfl, trivial⟩⟩
 rintro o4_2 h
 show SCode _ _ _ ⟨[(1, .c (.ptr 0 0)), (2, .c (.ptr 1 0)), (3, ci (((a0_p.Parents).length : Int))), (4, ci (IntKind.wrap .i64 (2 + ((a0_p.Demands).length : Int)))), (5, .c (.ptr 3 0))], [.box (bSProblem a0_p), .box [.int .i64 0, .own 2 (([] : List SArc)).length], aSArc 63 (([] : List SArc)), .box [.int .i64 (IntKind.wrap .i64 (IntKind.wrap .i64 (2 + ((a0_p.Demands).length : Int)) + IntKind.wrap .i64 (((a0_p.Caps).length : Int) * ((a0_p.Parents).length : Int)))), .own 4 o4_2.length], aSArc 63 o4_2]⟩ _
 replace h : plan_network_own_p92 F a0_p o4_2 = some r := h
 unfold plan_network_own_p92 at h
 refine SCode.join (σ := (List SArc)) (S := fun s => ⟨[(2, .c (.ptr 0 0)), (5, .c (.ptr 2 0))], [.box [.int .i64 0, .own 1 (([] : List SArc)).length], aSArc 63 (([] : List SArc)), .box [.int .i64 (IntKind.wrap .i64 (IntKind.wrap .i64 (2 + ((a0_p.Demands).length : Int)) + IntKind.wrap .i64 (((a0_p.Caps).length : Int) * ((a0_p.Parents).length : Int)))), .own 3 s.length], aSArc 63 s]⟩) (g := fun s => plan_network_own_p4 a0_p s = some r) ?_ ?_
 rotate_left
 ·refine SCode.seq ?_
  refine SCode.region (show SOps _ _ _ [0, 1, 2, 3] _ _ from ?_)
  refine sq rfl rfl rfl (q_field_ptr rfl rfl fd26_1) (sq rfl rfl rfl (q_load_ptr rfl rfl rfl rfl ty23) (sq rfl rfl rfl (q_len_vec rfl rfl sl23) (sm rfl rfl rfl rfl rfl (SOps.nil (SCode.block (SCode.sub (st' := ⟨[(1, .c (.ptr 0 0)), (2, .c (.ptr 1 0)), (3, ci (((a0_p.Parents).length : Int))), (4, ci (IntKind.wrap .i64 (2 + ((a0_p.Demands).length : Int)))), (5, .c (.ptr 3 0)), (90, .c (vR a0_p.Caps)), (91, ci (((a0_p.Caps).length : Int))), (92, ci 0)], [.box (bSProblem a0_p), .box [.int .i64 0, .own 2 (([] : List SArc)).length], aSArc 63 (([] : List SArc)), .box [.int .i64 (IntKind.wrap .i64 (IntKind.wrap .i64 (2 + ((a0_p.Demands).length : Int)) + IntKind.wrap .i64 (((a0_p.Caps).length : Int) * ((a0_p.Parents).length : Int)))), .own 4 o4_2.length], aSArc 63 o4_2]⟩) (sub_gen [0, 1, 2, 3, 4] rfl rfl (zall rfl rfl) ⟨bx rfl rfl rfl, bx rfl rfl rfl, oa rfl, bx rfl rfl rfl, oa rfl, trivial⟩) ?_))))))
  refine (SCode.loop (σ := Nat × (Int × (List SArc))) (S := fun s => ⟨[(1, .c (.ptr 0 0)), (2, .c (.ptr 1 0)), (3, ci (((a0_p.Parents).length : Int))), (4, ci (IntKind.wrap .i64 (2 + ((a0_p.Demands).length : Int)))), (5, .c (.ptr 3 0)), (90, .c (vR a0_p.Caps)), (91, ci (((a0_p.Caps).length : Int))), (92, ci s.2.1)], [.box (bSProblem a0_p), .box [.int .i64 0, .own 2 (([] : List SArc)).length], aSArc 63 (([] : List SArc)), .box [.int .i64 (IntKind.wrap .i64 (IntKind.wrap .i64 (2 + ((a0_p.Demands).length : Int)) + IntKind.wrap .i64 (((a0_p.Caps).length : Int) * ((a0_p.Parents).length : Int)))), .own 4 s.2.2.length], aSArc 63 s.2.2]⟩) (g := fun s => plan_network_own_l63 F a0_p s.1 s.2.1 s.2.2 = some r) (μ := fun s => s.1) (F, (0, o4_2)) h ?_)
  rintro ⟨n_63, ⟨t92_33, o4_34⟩⟩ h
  replace h : plan_network_own_l63 F a0_p n_63 t92_33 o4_34 = some r := h
  show SCode _ _ _ ⟨[(1, .c (.ptr 0 0)), (2, .c (.ptr 1 0)), (3, ci (((a0_p.Parents).length : Int))), (4, ci (IntKind.wrap .i64 (2 + ((a0_p.Demands).length : Int)))), (5, .c (.ptr 3 0)), (90, .c (vR a0_p.Caps)), (91, ci (((a0_p.Caps).length : Int))), (92, ci t92_33)], [.box (bSProblem a0_p), .box [.int .i64 0, .own 2 (([] : List SArc)).length], aSArc 63 (([] : List SArc)), .box [.int .i64 (IntKind.wrap .i64 (IntKind.wrap .i64 (2 + ((a0_p.Demands).length : Int)) + IntKind.wrap .i64 (((a0_p.Caps).length : Int) * ((a0_p.Parents).length : Int)))), .own 4 o4_34.length], aSArc 63 o4_34]⟩ _
  cases n_63 with
  | zero => cases h
  | succ n_63 =>
   replace h : plan_network_own_b63 F a0_p (fun t92_33 o4_34 => plan_network_own_l63 F a0_p n_63 t92_33 o4_34) t92_33 o4_34 = some r := h
   unfold plan_network_own_b63 at h
   refine SCode.seq ?_
   refine SCode.region (show SOps _ _ _ [0] _ _ from ?_)
   refine sq rfl rfl rfl (q_lss rfl rfl rfl) (SOps.nil (SCode.seq ?_))
   rcases cond_out h with ⟨g64, h⟩ | ⟨g64, h⟩
   ·refine SCode.cond_t rfl g64 (SCode.skip ?_)
    refine SCode.join (σ := (List SArc)) (S := fun s => ⟨[(1, .c (.ptr 0 0)), (2, .c (.ptr 1 0)), (3, ci (((a0_p.Parents).length : Int))), (4, ci (IntKind.wrap .i64 (2 + ((a0_p.Demands).length : Int)))), (5, .c (.ptr 3 0)), (90, .c (vR a0_p.Caps)), (91, ci (((a0_p.Caps).length : Int))), (92, ci t92_33)], [.box (bSProblem a0_p), .box [.int .i64 0, .own 2 (([] : List SArc)).length], aSArc 63 (([] : List SArc)), .box [.int .i64 (IntKind.wrap .i64 (IntKind.wrap .i64 (2 + ((a0_p.Demands).length : Int)) + IntKind.wrap .i64 (((a0_p.Caps).length : Int) * ((a0_p.Parents).length : Int)))), .own 4 s.length], aSArc 63 s]⟩) (g := fun s => plan_network_own_p66 t92_33 (fun t92_33 o4_34 => plan_network_own_l63 F a0_p n_63 t92_33 o4_34) s = some r) ?_ ?_
    rotate_left
    ·refine SCode.block (SCode.seq ?_)
     obtain ⟨g67, h⟩ := guard_out h
     refine SCode.region (show SOps _ _ _ [0, 1, 2, 3, 4] _ _ from ?_)
     refine sm rfl rfl rfl rfl rfl (sq rfl rfl rfl (q_index_vec rfl rfl rfl sl23 rfl g67.1 g67.2) (sq rfl rfl rfl (q_load_eptr rfl rfl ty22) (sa rfl rfl rfl rfl rfl (sa rfl rfl rfl rfl rfl (SOps.nil (SCode.seq ?_))))))
     refine SCode.region (show SOps _ _ _ [0, 1, 2, 3, 4, 5] _ _ from ?_)
     refine sm rfl rfl rfl rfl rfl (sm rfl rfl rfl rfl rfl (sm rfl rfl rfl rfl rfl (sq rfl rfl rfl (q_mul rfl rfl rfl) (sq rfl rfl rfl (q_add rfl rfl rfl) (sa rfl rfl rfl rfl rfl (SOps.nil (SCode.seq ?_)))))))
     refine SCode.region (show SOps _ _ _ [0, 1, 2, 3] _ _ from ?_)
     refine sq rfl rfl rfl (q_field_ptr rfl rfl fd26_0) (sq rfl rfl rfl (q_load_ptr rfl rfl rfl rfl ty22) (sq rfl rfl rfl (q_len_vec rfl rfl sl22) (sm rfl rfl rfl rfl rfl (SOps.nil (SCode.block (SCode.sub (st' := ⟨[(1, .c (.ptr 0 0)), (2, .c (.ptr 1 0)), (3, ci (((a0_p.Parents).length : Int))), (4, ci (IntKind.wrap .i64 (2 + ((a0_p.Demands).length : Int)))), (5, .c (.ptr 3 0)), (12, .c (vI (a0_p.Caps.getD t92_33.toNat ([])))), (13, ci (IntKind.wrap .i64 (IntKind.wrap .i64 (2 + ((a0_p.Demands).length : Int)) + IntKind.wrap .i64 (t92_33 * ((a0_p.Parents).length : Int))))), (90, .c (vR a0_p.Caps)), (91, ci (((a0_p.Caps).length : Int))), (92, ci t92_33), (103, .c (vI a0_p.Parents)), (104, ci (((a0_p.Parents).length : Int))), (105, ci 0)], [.box (bSProblem a0_p), .box [.int .i64 0, .own 2 (([] : List SArc)).length], aSArc 63 (([] : List SArc)), .box [.int .i64 (IntKind.wrap .i64 (IntKind.wrap .i64 (2 + ((a0_p.Demands).length : Int)) + IntKind.wrap .i64 (((a0_p.Caps).length : Int) * ((a0_p.Parents).length : Int)))), .own 4 o4_34.length], aSArc 63 o4_34]⟩) (sub_gen [0, 1, 2, 3, 4] rfl rfl (zall rfl rfl) ⟨bx rfl rfl rfl, bx rfl rfl rfl, oa rfl, bx rfl rfl rfl, oa rfl, trivial⟩) ?_))))))
     refine (SCode.loop (σ := Nat × (Int × (List SArc))) (S := fun s => ⟨[(1, .c (.ptr 0 0)), (2, .c (.ptr 1 0)), (3, ci (((a0_p.Parents).length : Int))), (4, ci (IntKind.wrap .i64 (2 + ((a0_p.Demands).length : Int)))), (5, .c (.ptr 3 0)), (12, .c (vI (a0_p.Caps.getD t92_33.toNat ([])))), (13, ci (IntKind.wrap .i64 (IntKind.wrap .i64 (2 + ((a0_p.Demands).length : Int)) + IntKind.wrap .i64 (t92_33 * ((a0_p.Parents).length : Int))))), (90, .c (vR a0_p.Caps)), (91, ci (((a0_p.Caps).length : Int))), (92, ci t92_33), (103, .c (vI a0_p.Parents)), (104, ci (((a0_p.Parents).length : Int))), (105, ci s.2.1)], [.box (bSProblem a0_p), .box [.int .i64 0, .own 2 (([] : List SArc)).length], aSArc 63 (([] : List SArc)), .box [.int .i64 (IntKind.wrap .i64 (IntKind.wrap .i64 (2 + ((a0_p.Demands).length : Int)) + IntKind.wrap .i64 (((a0_p.Caps).length : Int) * ((a0_p.Parents).length : Int)))), .own 4 s.2.2.length], aSArc 63 s.2.2]⟩) (g := fun s => plan_network_own_l84 a0_p t92_33 (fun t92_33 o4_34 => plan_network_own_l63 F a0_p n_63 t92_33 o4_34) s.1 s.2.1 s.2.2 = some r) (μ := fun s => s.1) (F, (0, o4_34)) h ?_)
     rintro ⟨n_84, ⟨t105_75, o4_76⟩⟩ h
     replace h : plan_network_own_l84 a0_p t92_33 (fun t92_33 o4_34 => plan_network_own_l63 F a0_p n_63 t92_33 o4_34) n_84 t105_75 o4_76 = some r := h
     show SCode _ _ _ ⟨[(1, .c (.ptr 0 0)), (2, .c (.ptr 1 0)), (3, ci (((a0_p.Parents).length : Int))), (4, ci (IntKind.wrap .i64 (2 + ((a0_p.Demands).length : Int)))), (5, .c (.ptr 3 0)), (12, .c (vI (a0_p.Caps.getD t92_33.toNat ([])))), (13, ci (IntKind.wrap .i64 (IntKind.wrap .i64 (2 + ((a0_p.Demands).length : Int)) + IntKind.wrap .i64 (t92_33 * ((a0_p.Parents).length : Int))))), (90, .c (vR a0_p.Caps)), (91, ci (((a0_p.Caps).length : Int))), (92, ci t92_33), (103, .c (vI a0_p.Parents)), (104, ci (((a0_p.Parents).length : Int))), (105, ci t105_75)], [.box (bSProblem a0_p), .box [.int .i64 0, .own 2 (([] : List SArc)).length], aSArc 63 (([] : List SArc)), .box [.int .i64 (IntKind.wrap .i64 (IntKind.wrap .i64 (2 + ((a0_p.Demands).length : Int)) + IntKind.wrap .i64 (((a0_p.Caps).length : Int) * ((a0_p.Parents).length : Int)))), .own 4 o4_76.length], aSArc 63 o4_76]⟩ _
     cases n_84 with
     | zero => cases h
     | succ n_84 =>
      replace h : plan_network_own_b84 a0_p t92_33 (fun t92_33 o4_34 => plan_network_own_l63 F a0_p n_63 t92_33 o4_34) (fun t105_75 o4_76 => plan_network_own_l84 a0_p t92_33 (fun t92_33 o4_34 => plan_network_own_l63 F a0_p n_63 t92_33 o4_34) n_84 t105_75 o4_76) t105_75 o4_76 = some r := h
      unfold plan_network_own_b84 at h
      refine SCode.seq ?_
      refine SCode.region (show SOps _ _ _ [0] _ _ from ?_)
      refine sq rfl rfl rfl (q_lss rfl rfl rfl) (SOps.nil (SCode.seq ?_))
      rcases cond_out h with ⟨g85, h⟩ | ⟨g85, h⟩
      ·refine SCode.cond_t rfl g85 (SCode.skip (SCode.seq (SCode.block (SCode.seq ?_))))
       obtain ⟨g86, h⟩ := guard_out h
       refine SCode.region (show SOps _ _ _ [0, 1, 2, 3, 4] _ _ from ?_)
       refine sm rfl rfl rfl rfl rfl (sq rfl rfl rfl (q_index_vec rfl rfl rfl sl22 rfl g86.1 g86.2) (sq rfl rfl rfl (q_load_eptr rfl rfl ty3) (sa rfl rfl rfl rfl rfl (sa rfl rfl rfl rfl rfl (SOps.nil (SCode.seq ?_))))))
       refine SCode.region (show SOps _ _ _ [0] _ _ from ?_)
       refine sa rfl rfl rfl rfl rfl (SOps.nil ?_)
       refine SCode.join (σ := Int) (S := fun s => ⟨[(1, .c (.ptr 0 0)), (2, .c (.ptr 1 0)), (3, ci (((a0_p.Parents).length : Int))), (4, ci (IntKind.wrap .i64 (2 + ((a0_p.Demands).length : Int)))), (5, .c (.ptr 3 0)), (12, .c (vI (a0_p.Caps.getD t92_33.toNat ([])))), (13, ci (IntKind.wrap .i64 (IntKind.wrap .i64 (2 + ((a0_p.Demands).length : Int)) + IntKind.wrap .i64 (t92_33 * ((a0_p.Parents).length : Int))))), (14, ci t105_75), (16, ci s), (90, .c (vR a0_p.Caps)), (91, ci (((a0_p.Caps).length : Int))), (92, ci t92_33), (103, .c (vI a0_p.Parents)), (104, ci (((a0_p.Parents).length : Int))), (105, ci t105_75)], [.box (bSProblem a0_p), .box [.int .i64 0, .own 2 (([] : List SArc)).length], aSArc 63 (([] : List SArc)), .box [.int .i64 (IntKind.wrap .i64 (IntKind.wrap .i64 (2 + ((a0_p.Demands).length : Int)) + IntKind.wrap .i64 (((a0_p.Caps).length : Int) * ((a0_p.Parents).length : Int)))), .own 4 o4_76.length], aSArc 63 o4_76]⟩) (g := fun s => plan_network_own_p90 a0_p t92_33 t105_75 o4_76 (fun t105_75 o4_76 => plan_network_own_l84 a0_p t92_33 (fun t92_33 o4_34 => plan_network_own_l63 F a0_p n_63 t92_33 o4_34) n_84 t105_75 o4_76) s = some r) ?_ ?_
       rotate_left
       ·refine SCode.seq ?_
        refine SCode.region (show SOps _ _ _ [0, 1] _ _ from ?_)
        refine sm rfl rfl rfl rfl rfl (sq rfl rfl rfl (q_geq rfl rfl rfl) (SOps.nil ?_))
        rcases cond_out h with ⟨g91, h⟩ | ⟨g91, h⟩
        ·refine SCode.cond_t rfl g91 ?_
         refine SCode.region (show SOps _ _ _ [0, 1, 2, 3] _ _ from ?_)
         refine sm rfl rfl rfl rfl rfl (sm rfl rfl rfl rfl rfl (sq rfl rfl rfl (q_add rfl rfl rfl) (sa rfl rfl rfl rfl rfl (SOps.nil ?_))))
         exact ⟨IntKind.wrap .i64 (IntKind.wrap .i64 (IntKind.wrap .i64 (2 + ((a0_p.Demands).length : Int)) + IntKind.wrap .i64 (t92_33 * ((a0_p.Parents).length : Int))) + a0_p.Parents.getD t105_75.toNat 0), h, sub_gen [0, 1, 2, 3, 4] rfl rfl (zall rfl rfl) ⟨bx rfl rfl rfl, bx rfl rfl rfl, oa rfl, bx rfl rfl rfl, oa rfl, trivial⟩⟩
        refine SCode.cond_f rfl g91 (SCode.skip ?_)
        exact ⟨1, h, sub_gen [0, 1, 2, 3, 4] rfl rfl (zall rfl rfl) ⟨bx rfl rfl rfl, bx rfl rfl rfl, oa rfl, bx rfl rfl rfl, oa rfl, trivial⟩⟩
       rintro to_87 h
       show SCode _ _ _ ⟨[(1, .c (.ptr 0 0)), (2, .c (.ptr 1 0)), (3, ci (((a0_p.Parents).length : Int))), (4, ci (IntKind.wrap .i64 (2 + ((a0_p.Demands).length : Int)))), (5, .c (.ptr 3 0)), (12, .c (vI (a0_p.Caps.getD t92_33.toNat ([])))), (13, ci (IntKind.wrap .i64 (IntKind.wrap .i64 (2 + ((a0_p.Demands).length : Int)) + IntKind.wrap .i64 (t92_33 * ((a0_p.Parents).length : Int))))), (14, ci t105_75), (16, ci to_87), (90, .c (vR a0_p.Caps)), (91, ci (((a0_p.Caps).length : Int))), (92, ci t92_33), (103, .c (vI a0_p.Parents)), (104, ci (((a0_p.Parents).length : Int))), (105, ci t105_75)], [.box (bSProblem a0_p), .box [.int .i64 0, .own 2 (([] : List SArc)).length], aSArc 63 (([] : List SArc)), .box [.int .i64 (IntKind.wrap .i64 (IntKind.wrap .i64 (2 + ((a0_p.Demands).length : Int)) + IntKind.wrap .i64 (((a0_p.Caps).length : Int) * ((a0_p.Parents).length : Int)))), .own 4 o4_76.length], aSArc 63 o4_76]⟩ _
       replace h : plan_network_own_p90 a0_p t92_33 t105_75 o4_76 (fun t105_75 o4_76 => plan_network_own_l84 a0_p t92_33 (fun t92_33 o4_34 => plan_network_own_l63 F a0_p n_63 t92_33 o4_34) n_84 t105_75 o4_76) to_87 = some r := h
       unfold plan_network_own_p90 at h
       obtain ⟨g88, h⟩ := guard_out h
       obtain ⟨g89, h⟩ := guard_out h
       refine SCode.draw (s' := [(130, .c (vSArc ([SArc.mk (IntKind.wrap .i64 (IntKind.wrap .i64 (IntKind.wrap .i64 (2 + ((a0_p.Demands).length : Int)) + IntKind.wrap .i64 (t92_33 * ((a0_p.Parents).length : Int))) + t105_75)) to_87 ((if 1099511627776 < IntKind.wrap .i64 ((a0_p.Caps.getD t92_33.toNat ([])).getD t105_75.toNat 0 * a0_p.Length) then 1099511627776 else IntKind.wrap .i64 ((a0_p.Caps.getD t92_33.toNat ([])).getD t105_75.toNat 0 * a0_p.Length)))]))), (129, .a [.int .i64 (IntKind.wrap .i64 (IntKind.wrap .i64 (IntKind.wrap .i64 (2 + ((a0_p.Demands).length : Int)) + IntKind.wrap .i64 (t92_33 * ((a0_p.Parents).length : Int))) + t105_75)), .int .i64 to_87, .int .i64 ((if 1099511627776 < IntKind.wrap .i64 ((a0_p.Caps.getD t92_33.toNat ([])).getD t105_75.toNat 0 * a0_p.Length) then 1099511627776 else IntKind.wrap .i64 ((a0_p.Caps.getD t92_33.toNat ([])).getD t105_75.toNat 0 * a0_p.Length)))]), (128, ci ((if 1099511627776 < IntKind.wrap .i64 ((a0_p.Caps.getD t92_33.toNat ([])).getD t105_75.toNat 0 * a0_p.Length) then 1099511627776 else IntKind.wrap .i64 ((a0_p.Caps.getD t92_33.toNat ([])).getD t105_75.toNat 0 * a0_p.Length)))), (127, ci (IntKind.wrap .i64 ((a0_p.Caps.getD t92_33.toNat ([])).getD t105_75.toNat 0 * a0_p.Length))), (126, ci a0_p.Length), (125, .c (.ptr 0 3)), (124, ci ((a0_p.Caps.getD t92_33.toNat ([])).getD t105_75.toNat 0)), (123, .c (.eptr 1 ((cInt .i64) ((a0_p.Caps.getD t92_33.toNat ([])).getD t105_75.toNat 0)) 0)), (122, ci t105_75), (121, .c (vI (a0_p.Caps.getD t92_33.toNat ([])))), (120, ci to_87), (119, ci (IntKind.wrap .i64 (IntKind.wrap .i64 (IntKind.wrap .i64 (2 + ((a0_p.Demands).length : Int)) + IntKind.wrap .i64 (t92_33 * ((a0_p.Parents).length : Int))) + t105_75))), (118, ci t105_75), (117, ci (IntKind.wrap .i64 (IntKind.wrap .i64 (2 + ((a0_p.Demands).length : Int)) + IntKind.wrap .i64 (t92_33 * ((a0_p.Parents).length : Int))))), (116, .c (.own 4 o4_76.length)), (115, .c (.ptr 3 1)), (1, .c (.ptr 0 0)), (2, .c (.ptr 1 0)), (3, ci (((a0_p.Parents).length : Int))), (4, ci (IntKind.wrap .i64 (2 + ((a0_p.Demands).length : Int)))), (5, .c (.ptr 3 0)), (12, .c (vI (a0_p.Caps.getD t92_33.toNat ([])))), (13, ci (IntKind.wrap .i64 (IntKind.wrap .i64 (2 + ((a0_p.Demands).length : Int)) + IntKind.wrap .i64 (t92_33 * ((a0_p.Parents).length : Int))))), (14, ci t105_75), (16, ci to_87), (90, .c (vR a0_p.Caps)), (91, ci (((a0_p.Caps).length : Int))), (92, ci t92_33), (103, .c (vI a0_p.Parents)), (104, ci (((a0_p.Parents).length : Int))), (105, ci t105_75)]) mixed [[], [0], [], [], [2, 3], [], [], [], [6, 7], [6, 7, 8], [], [10], [6, 7, 8, 9, 10, 11], [6, 7, 8, 9, 10, 11, 12], [2, 3, 4, 5, 6, 7, 8, 9, 10, 11, 12, 13], [2, 3, 4, 5, 6, 7, 8, 9, 10, 11, 12, 13, 14], [0, 1, 2, 3, 4, 5, 6, 7, 8, 9, 10, 11, 12, 13, 14, 15], [0, 1, 2, 3, 4, 5, 6, 7, 8, 9, 10, 11, 12, 13, 14, 15, 16], [0, 1, 2, 3, 4, 5, 6, 7, 8, 9, 10, 11, 12, 13, 14, 15, 16, 17]] 16 3 rfl rfl ?_ ?_
       ·refine QChain.run rfl (.plain rfl) rfl (q_field_ptr rfl rfl fd49_1) (QChain.run rfl (.plain rfl) rfl (q_load_ptr rfl rfl rfl rfl ty47) (QChain.run rfl (.plain rfl) rfl (q_move rfl rfl) (QChain.run rfl (.plain rfl) rfl (q_move rfl rfl) (QChain.run rfl (.plain rfl) rfl (q_add rfl rfl rfl) (QChain.run rfl (.plain rfl) rfl (q_move rfl rfl) (QChain.run rfl (.plain rfl) rfl (q_move rfl rfl) (QChain.run rfl (.plain rfl) rfl (q_move rfl rfl) (QChain.run rfl (.plain rfl) rfl (q_index_vec rfl rfl rfl sl22 rfl g88.1 g88.2) (QChain.run rfl (.plain rfl) rfl (q_load_eptr rfl rfl ty3) ?_)))))))))
        refine QChain.run rfl (.plain rfl) rfl (q_field_ptr rfl rfl fd26_3) (QChain.run rfl (.plain rfl) rfl (q_load_ptr rfl rfl rfl rfl ty3) (QChain.run rfl (.plain rfl) rfl (q_mul rfl rfl rfl) (QChain.run rfl (.plain rfl) rfl (q_min rfl rfl rfl) (QChain.run rfl (.plain rfl) rfl (q_build2 rfl rfl pl63 rfl) (QChain.run rfl (.plain rfl) rfl (q_bsliceL (c := cSArc) (d0 := dSArc) [SArc.mk (IntKind.wrap .i64 (IntKind.wrap .i64 (IntKind.wrap .i64 (2 + ((a0_p.Demands).length : Int)) + IntKind.wrap .i64 (t92_33 * ((a0_p.Parents).length : Int))) + t105_75)) to_87 ((if 1099511627776 < IntKind.wrap .i64 ((a0_p.Caps.getD t92_33.toNat ([])).getD t105_75.toNat 0 * a0_p.Length) then 1099511627776 else IntKind.wrap .i64 ((a0_p.Caps.getD t92_33.toNat ([])).getD t105_75.toNat 0 * a0_p.Length)))] rfl rfl sl47 z63 rfl rfl rfl rfl rfl rfl rfl) ?_)))))
        exact QChain.nil _ _
       refine (show SOps _ _ _ [16, 17, 18] _ _ from ?_)
       refine se rfl rfl (e_appendL (c := cSArc) (d0 := dSArc) (l := o4_76) (l2 := [SArc.mk (IntKind.wrap .i64 (IntKind.wrap .i64 (IntKind.wrap .i64 (2 + ((a0_p.Demands).length : Int)) + IntKind.wrap .i64 (t92_33 * ((a0_p.Parents).length : Int))) + t105_75)) to_87 ((if 1099511627776 < IntKind.wrap .i64 ((a0_p.Caps.getD t92_33.toNat ([])).getD t105_75.toNat 0 * a0_p.Length) then 1099511627776 else IntKind.wrap .i64 ((a0_p.Caps.getD t92_33.toNat ([])).getD t105_75.toNat 0 * a0_p.Length)))]) rfl rfl rfl rfl rfl rfl (.inl rfl) sl47 z63 rfl rfl oneSArc g89.1 g89.2) (sq rfl rfl rfl (q_field_ptr rfl rfl fd49_1) (se rfl rfl (e_store_box rfl rfl rfl rfl rfl ty47 rfl rfl rfl rfl) (SOps.sub (st' := ⟨[(1, .c (.ptr 0 0)), (2, .c (.ptr 1 0)), (3, ci (((a0_p.Parents).length : Int))), (4, ci (IntKind.wrap .i64 (2 + ((a0_p.Demands).length : Int)))), (5, .c (.ptr 3 0)), (12, .c (vI (a0_p.Caps.getD t92_33.toNat ([])))), (13, ci (IntKind.wrap .i64 (IntKind.wrap .i64 (2 + ((a0_p.Demands).length : Int)) + IntKind.wrap .i64 (t92_33 * ((a0_p.Parents).length : Int))))), (90, .c (vR a0_p.Caps)), (91, ci (((a0_p.Caps).length : Int))), (92, ci t92_33), (103, .c (vI a0_p.Parents)), (104, ci (((a0_p.Parents).length : Int))), (105, ci t105_75)], [.box (bSProblem a0_p), .box [.int .i64 0, .own 2 (([] : List SArc)).length], aSArc 63 (([] : List SArc)), .box [.int .i64 (IntKind.wrap .i64 (IntKind.wrap .i64 (2 + ((a0_p.Demands).length : Int)) + IntKind.wrap .i64 (((a0_p.Caps).length : Int) * ((a0_p.Parents).length : Int)))), .own 4 (o4_76 ++ ([SArc.mk (IntKind.wrap .i64 (IntKind.wrap .i64 (IntKind.wrap .i64 (2 + ((a0_p.Demands).length : Int)) + IntKind.wrap .i64 (t92_33 * ((a0_p.Parents).length : Int))) + t105_75)) to_87 ((if 1099511627776 < IntKind.wrap .i64 ((a0_p.Caps.getD t92_33.toNat ([])).getD t105_75.toNat 0 * a0_p.Length) then 1099511627776 else IntKind.wrap .i64 ((a0_p.Caps.getD t92_33.toNat ([])).getD t105_75.toNat 0 * a0_p.Length)))])).length], aSArc 63 (o4_76 ++ ([SArc.mk (IntKind.wrap .i64 (IntKind.wrap .i64 (IntKind.wrap .i64 (2 + ((a0_p.Demands).length : Int)) + IntKind.wrap .i64 (t92_33 * ((a0_p.Parents).length : Int))) + t105_75)) to_87 ((if 1099511627776 < IntKind.wrap .i64 ((a0_p.Caps.getD t92_33.toNat ([])).getD t105_75.toNat 0 * a0_p.Length) then 1099511627776 else IntKind.wrap .i64 ((a0_p.Caps.getD t92_33.toNat ([])).getD t105_75.toNat 0 * a0_p.Length)))]))]⟩) (sub_gen [0, 1, 2, 3, 5] rfl rfl (zall rfl rfl) ⟨bx rfl rfl rfl, bx rfl rfl rfl, oa rfl, bx rfl rfl rfl, oa rfl, trivial⟩) (SOps.nil ?_))))
       refine SCode.region (show SOps _ _ _ [0, 1] _ _ from ?_)
       refine sq rfl rfl rfl (q_add rfl rfl rfl) (sm rfl rfl rfl rfl rfl (SOps.nil ?_))
       exact ⟨(n_84, (IntKind.wrap .i64 (t105_75 + 1), o4_76 ++ ([SArc.mk (IntKind.wrap .i64 (IntKind.wrap .i64 (IntKind.wrap .i64 (2 + ((a0_p.Demands).length : Int)) + IntKind.wrap .i64 (t92_33 * ((a0_p.Parents).length : Int))) + t105_75)) to_87 ((if 1099511627776 < IntKind.wrap .i64 ((a0_p.Caps.getD t92_33.toNat ([])).getD t105_75.toNat 0 * a0_p.Length) then 1099511627776 else IntKind.wrap .i64 ((a0_p.Caps.getD t92_33.toNat ([])).getD t105_75.toNat 0 * a0_p.Length)))]))), h, Nat.lt_succ_self n_84, sub_gen [0, 1, 2, 3, 4] rfl rfl (zall rfl rfl) ⟨bx rfl rfl rfl, bx rfl rfl rfl, oa rfl, bx rfl rfl rfl, oa rfl, trivial⟩⟩
      refine SCode.cond_f rfl g85 (SCode.exit ?_)
      exact ⟨o4_76, h, sub_gen [0, 1, 2, 3, 4] rfl rfl (zall rfl rfl) ⟨bx rfl rfl rfl, bx rfl rfl rfl, oa rfl, bx rfl rfl rfl, oa rfl, trivial⟩⟩
    rintro o4_65 h
    show SCode _ _ _ ⟨[(1, .c (.ptr 0 0)), (2, .c (.ptr 1 0)), (3, ci (((a0_p.Parents).length : Int))), (4, ci (IntKind.wrap .i64 (2 + ((a0_p.Demands).length : Int)))), (5, .c (.ptr 3 0)), (90, .c (vR a0_p.Caps)), (91, ci (((a0_p.Caps).length : Int))), (92, ci t92_33)], [.box (bSProblem a0_p), .box [.int .i64 0, .own 2 (([] : List SArc)).length], aSArc 63 (([] : List SArc)), .box [.int .i64 (IntKind.wrap .i64 (IntKind.wrap .i64 (2 + ((a0_p.Demands).length : Int)) + IntKind.wrap .i64 (((a0_p.Caps).length : Int) * ((a0_p.Parents).length : Int)))), .own 4 o4_65.length], aSArc 63 o4_65]⟩ _
    replace h : plan_network_own_p66 t92_33 (fun t92_33 o4_34 => plan_network_own_l63 F a0_p n_63 t92_33 o4_34) o4_65 = some r := h
    unfold plan_network_own_p66 at h
    refine SCode.region (show SOps _ _ _ [0, 1] _ _ from ?_)
    refine sq rfl rfl rfl (q_add rfl rfl rfl) (sm rfl rfl rfl rfl rfl (SOps.nil ?_))
    exact ⟨(n_63, (IntKind.wrap .i64 (t92_33 + 1), o4_65)), h, Nat.lt_succ_self n_63, sub_gen [0, 1, 2, 3, 4] rfl rfl (zall rfl rfl) ⟨bx rfl rfl rfl, bx rfl rfl rfl, oa rfl, bx rfl rfl rfl, oa rfl, trivial⟩⟩
   refine SCode.cond_f rfl g64 (SCode.exit ?_)
   exact ⟨o4_34, h, sub_gen [1, 2, 3, 4] rfl rfl (zall rfl rfl) ⟨bx rfl rfl rfl, oa rfl, bx rfl rfl rfl, oa rfl, trivial⟩⟩
 rintro o3_3 h
 show SCode _ _ _ ⟨[(2, .c (.ptr 0 0)), (5, .c (.ptr 2 0))], [.box [.int .i64 0, .own 1 (([] : List SArc)).length], aSArc 63 (([] : List SArc)), .box [.int .i64 (IntKind.wrap .i64 (IntKind.wrap .i64 (2 + ((a0_p.Demands).length : Int)) + IntKind.wrap .i64 (((a0_p.Caps).length : Int) * ((a0_p.Parents).length : Int)))), .own 3 o3_3.length], aSArc 63 o3_3]⟩ _
 replace h : plan_network_own_p4 a0_p o3_3 = some r := h
 unfold plan_network_own_p4 at h
 refine SCode.seq ?_
 refine SCode.region (show SOps _ _ _ [0, 1] _ _ from ?_)
 refine sq rfl rfl rfl (q_load_ptr_all rfl rfl rfl rfl rfl ty49) (se rfl rfl (e_store_box rfl rfl rfl rfl rfl ty49 rfl rfl rfl rfl) (SOps.nil (SCode.ret ?_)))
 obtain rfl := Option.some.inj h
 exact ⟨⟨[(2, .c (.ptr 1 0))], [aSArc 63 o3_3, .box [.int .i64 (IntKind.wrap .i64 (IntKind.wrap .i64 (2 + ((a0_p.Demands).length : Int)) + IntKind.wrap .i64 (((a0_p.Caps).length : Int) * ((a0_p.Parents).length : Int)))), .own 0 o3_3.length]]⟩, _, sub_gen [3, 0] rfl rfl (zall rfl rfl) ⟨oa rfl, bx rfl rfl rfl, trivial⟩, resA1 (v := .a [.int .i64 (IntKind.wrap .i64 (IntKind.wrap .i64 (2 + ((a0_p.Demands).length : Int)) + IntKind.wrap .i64 (((a0_p.Caps).length : Int) * ((a0_p.Parents).length : Int)))), .own 0 o3_3.length]) rfl ⟨_, rfl, rfl, ty49⟩, ⟨rfl, rfl⟩⟩
set_option maxRecDepth 100000 in
set_option maxHeartbeats 8000000 in
theorem plan_Feasible_ok (F : Nat) (a0_p : SProblem) (a1_energy : List Int) (r : Bool × Int) (h : plan_Feasible F a0_p a1_energy = some r) :
  SFun Try.prog 14 [] [.a (bSProblem a0_p), .c (vI a1_energy)] (fun x _ => x = .t [.c (.bool r.1), .c (.int .i64 r.2)]) := by
 refine SFun.of (n := 23) Try.func14 rfl rfl rfl ?_
 unfold plan_Feasible at h
 show SCode _ _ _ ⟨[(0, .a (bSProblem a0_p)), (1, .c (vI a1_energy))], []⟩ _
 refine SCode.seq ?_
 refine SCode.region (show SOps _ _ _ [0, 1, 2] _ _ from ?_)
 refine se rfl rfl (e_box rfl rfl rfl rfl rfl rfl) (sa rfl rfl rfl rfl rfl (sa rfl rfl rfl rfl rfl (SOps.nil (SCode.seq (SCode.seq ?_)))))
 obtain ⟨c_1, g2, h⟩ := bind_out h
 try dsimp only at h
 refine SCode.region (show SOps _ _ _ [0, 1, 2, 3] _ _ from ?_)
 refine sq rfl rfl rfl (q_load_ptr_all rfl rfl rfl rfl rfl ty26) (sm rfl rfl rfl rfl rfl (sq rfl rfl rfl (q_call (plan_check_ok F a0_p a1_energy c_1 g2) [] rfl fn25 ⟨⟨rfl, rfl⟩, ⟨_, rfl, .inl ⟨rfl, rfl⟩⟩, trivial⟩ (.inl rfl)) (sa rfl rfl rfl rfl rfl (SOps.nil (SCode.seq ?_)))))
 refine SCode.region (show SOps _ _ _ [0, 1] _ _ from ?_)
 refine sm rfl rfl rfl rfl rfl (sq rfl rfl rfl (q_neq rfl rfl rfl) (SOps.nil ?_))
 rcases cond_out h with ⟨g3, h⟩ | ⟨g3, h⟩
 ·refine SCode.cond_t rfl g3 (SCode.seq ?_)
  refine SCode.region (show SOps _ _ _ [0, 1, 2] _ _ from ?_)
  refine sm rfl rfl rfl rfl rfl (sa rfl rfl rfl rfl rfl (sa rfl rfl rfl rfl rfl (SOps.nil (SCode.ret ?_))))
  obtain rfl := Option.some.inj h
  exact ⟨⟨[(4, .c (.bool false)), (5, ci c_1)], []⟩, _, sub_gen [] rfl rfl (zall rfl rfl) trivial, resA2 (v1 := .c (.bool false)) (v2 := .c (.int .i64 c_1)) rfl rfl rfl, rfl⟩
 refine SCode.cond_f rfl g3 (SCode.skip (SCode.seq ?_))
 obtain ⟨c_4, g5, h⟩ := bind_out h
 try dsimp only at h
 obtain ⟨c_6, g7, h⟩ := bind_out h
 try dsimp only at h
 obtain ⟨g8, h⟩ := guard_out h
 refine SCode.region (show SOps _ _ _ [0, 1, 2, 3, 4, 5, 6, 7, 8] _ _ from ?_)
 refine sq rfl rfl rfl (q_load_ptr_all rfl rfl rfl rfl rfl ty26) (se rfl rfl (e_call (plan_network_own_ok F a0_p c_4 g5) [] rfl fn27 rfl rfl rfl rfl rfl rfl rfl rfl) (sm rfl rfl rfl rfl rfl (se rfl rfl (e_call (plan_route_ok F c_4 a1_energy c_6 g7) [1] rfl fn26 rfl rfl rfl rfl rfl rfl rfl rfl) (sm rfl rfl rfl rfl rfl (sq rfl rfl rfl (q_extract rfl rfl rfl) (sq rfl rfl rfl (q_extract rfl rfl rfl) (sa rfl rfl rfl rfl rfl (sa rfl rfl rfl rfl rfl (SOps.sub (st' := ⟨[(8, .c (.bool c_6.2.1))], []⟩) (sub_gen [] rfl rfl (zall rfl rfl) trivial) ?_)))))))))
 refine SOps.nil (SCode.seq ?_)
 refine SCode.region (show SOps _ _ _ [0, 1, 2] _ _ from ?_)
 refine sm rfl rfl rfl rfl rfl (sa rfl rfl rfl rfl rfl (sa rfl rfl rfl rfl rfl (SOps.nil (SCode.ret ?_))))
 obtain rfl := Option.some.inj h
 exact ⟨⟨[(4, .c (.bool c_6.2.1)), (5, ci 0)], []⟩, _, sub_gen [] rfl rfl (zall rfl rfl) trivial, resA2 (v1 := .c (.bool c_6.2.1)) (v2 := .c (.int .i64 0)) rfl rfl rfl, rfl⟩
set_option maxRecDepth 100000 in
set_option maxHeartbeats 8000000 in
theorem plan_Fair_1_ok (F : Nat) (a0_l : List Int) (a1b_Nodes : Int) (a1b_Arcs : List SArc) (r : Bool × (List SArc)) (h : plan_Fair_1 F a0_l a1b_Nodes a1b_Arcs = some r) :
  SFun Try.prog 31 [.box [.int .i64 a1b_Nodes, .own 1 a1b_Arcs.length], aSArc 63 a1b_Arcs] [.c (vI a0_l), .c (.ptr 0 0)] (fun x os => x = .c (.bool r.1) ∧ os = [.box [.int .i64 a1b_Nodes, .own 1 r.2.length], aSArc 63 r.2]) := by
 refine SFun.of (n := 13) Try.func31 rfl rfl rfl ?_
 unfold plan_Fair_1 at h
 show SCode _ _ _ ⟨[(0, .c (vI a0_l)), (1, .c (.ptr 0 0))], [.box [.int .i64 a1b_Nodes, .own 1 a1b_Arcs.length], aSArc 63 a1b_Arcs]⟩ _
 refine SCode.seq ?_
 refine SCode.region (show SOps _ _ _ [0] _ _ from ?_)
 refine sa rfl rfl rfl rfl rfl (SOps.nil (SCode.seq ?_))
 obtain ⟨c_1, g2, h⟩ := bind_out h
 try dsimp only at h
 obtain ⟨g3, h⟩ := guard_out h
 refine SCode.region (show SOps _ _ _ [0, 1, 2, 3, 4, 5, 6, 7] _ _ from ?_)
 refine sq rfl rfl rfl (q_load_ptr_all rfl rfl rfl rfl rfl ty49) (sm rfl rfl rfl rfl rfl (se rfl rfl (e_call (plan_route_ok F (SNet.mk a1b_Nodes a1b_Arcs) a0_l c_1 g2) [1] rfl fn26 rfl rfl rfl rfl rfl rfl rfl rfl) (sm rfl rfl rfl rfl rfl (sq rfl rfl rfl (q_extract rfl rfl rfl) (sq rfl rfl rfl (q_extract rfl rfl rfl) (sa rfl rfl rfl rfl rfl (sa rfl rfl rfl rfl rfl (SOps.sub (st' := ⟨[(5, .c (.bool c_1.2.1))], [.box [.int .i64 a1b_Nodes, .own 1 c_1.2.2.length], aSArc 63 c_1.2.2]⟩) (sub_gen [0, 1] rfl rfl (zall rfl rfl) ⟨⟨_, rfl, ⟨ii rfl rfl, .inl ⟨rfl, congrArg (Cell.own 1) g3.symm⟩, trivial⟩⟩, oa rfl, trivial⟩) (SOps.nil ?_)))))))))
 refine SCode.seq ?_
 refine SCode.region (show SOps _ _ _ [0, 1] _ _ from ?_)
 refine sm rfl rfl rfl rfl rfl (sa rfl rfl rfl rfl rfl (SOps.nil (SCode.ret ?_)))
 obtain rfl := Option.some.inj h
 exact ⟨⟨[(3, .c (.bool c_1.2.1))], [.box [.int .i64 a1b_Nodes, .own 1 c_1.2.2.length], aSArc 63 c_1.2.2]⟩, _, sub_gen [0, 1] rfl rfl (zall rfl rfl) ⟨bx rfl rfl rfl, oa rfl, trivial⟩, resA1 (v := .c (.bool c_1.2.1)) rfl rfl, ⟨rfl, rfl⟩⟩
set_option maxRecDepth 100000 in
set_option maxHeartbeats 8000000 in
theorem fair_check_ok (F : Nat) (a0_caps : List Int) (r : Int) (h : fair_check F a0_caps = some r) :
  SFun Try.prog 42 [] [.c (vI a0_caps)] (fun x _ => x = ci r) := by
 refine SFun.of (n := 21) Try.func42 rfl rfl rfl ?_
 unfold fair_check at h
 show SCode _ _ _ ⟨[(0, .c (vI a0_caps))], []⟩ _
 refine SCode.seq ?_
 refine SCode.region (show SOps _ _ _ [0] _ _ from ?_)
 refine sa rfl rfl rfl rfl rfl (SOps.nil (SCode.seq (SCode.seq ?_)))
 refine SCode.region (show SOps _ _ _ [0, 1, 2] _ _ from ?_)
 refine sm rfl rfl rfl rfl rfl (sq rfl rfl rfl (q_len_vec rfl rfl sl22) (sq rfl rfl rfl (q_gtr rfl rfl rfl) (SOps.nil ?_)))
 rcases cond_out h with ⟨g1, h⟩ | ⟨g1, h⟩
 ·refine SCode.cond_t rfl g1 (SCode.seq ?_)
  refine SCode.region (show SOps _ _ _ [0] _ _ from ?_)
  refine sa rfl rfl rfl rfl rfl (SOps.nil (SCode.ret ?_))
  obtain rfl := Option.some.inj h
  exact ⟨⟨[(2, ci 3)], []⟩, _, sub_gen [] rfl rfl (zall rfl rfl) trivial, resA1 (v := .c (.int .i64 3)) rfl rfl, rfl⟩
 refine SCode.cond_f rfl g1 (SCode.skip ?_)
 refine SCode.join (σ := Unit) (S := fun s => ⟨[], []⟩) (g := fun s => fair_check_p2 = some r) ?_ ?_
 rotate_left
 ·refine SCode.seq ?_
  refine SCode.region (show SOps _ _ _ [0, 1, 2] _ _ from ?_)
  refine sm rfl rfl rfl rfl rfl (sq rfl rfl rfl (q_len_vec rfl rfl sl22) (sm rfl rfl rfl rfl rfl (SOps.nil (SCode.block (SCode.sub (st' := ⟨[(8, .c (vI a0_caps)), (9, ci (((a0_caps).length : Int))), (10, ci 0)], []⟩) (sub_gen [] rfl rfl (zall rfl rfl) trivial) ?_)))))
  refine (SCode.loop (σ := Nat × Int) (S := fun s => ⟨[(8, .c (vI a0_caps)), (9, ci (((a0_caps).length : Int))), (10, ci s.2)], []⟩) (g := fun s => fair_check_l12 a0_caps s.1 s.2 = some r) (μ := fun s => s.1) (F, 0) h ?_)
  rintro ⟨n_12, t10_7⟩ h
  replace h : fair_check_l12 a0_caps n_12 t10_7 = some r := h
  show SCode _ _ _ ⟨[(8, .c (vI a0_caps)), (9, ci (((a0_caps).length : Int))), (10, ci t10_7)], []⟩ _
  cases n_12 with
  | zero => cases h
  | succ n_12 =>
   replace h : fair_check_b12 a0_caps (fun t10_7 => fair_check_l12 a0_caps n_12 t10_7) t10_7 = some r := h
   unfold fair_check_b12 at h
   refine SCode.seq ?_
   refine SCode.region (show SOps _ _ _ [0] _ _ from ?_)
   refine sq rfl rfl rfl (q_lss rfl rfl rfl) (SOps.nil (SCode.seq ?_))
   rcases cond_out h with ⟨g13, h⟩ | ⟨g13, h⟩
   ·refine SCode.cond_t rfl g13 (SCode.skip (SCode.seq (SCode.block (SCode.seq ?_))))
    obtain ⟨g14, h⟩ := guard_out h
    refine SCode.region (show SOps _ _ _ [0, 1, 2] _ _ from ?_)
    refine sq rfl rfl rfl (q_index_vec rfl rfl rfl sl22 rfl g14.1 g14.2) (sq rfl rfl rfl (q_load_eptr rfl rfl ty3) (sa rfl rfl rfl rfl rfl (SOps.nil (SCode.seq ?_))))
    rcases cond_out h with ⟨g15, h⟩ | ⟨g15, h⟩
    ·refine SCode.region (show SOps _ _ _ [0, 1, 2, 3, 4, 5] _ _ from ?_)
     refine sm rfl rfl rfl rfl rfl (sq rfl rfl rfl (q_lss rfl rfl rfl) (sm rfl rfl rfl rfl rfl (SOps.skip rfl 2 16 false rfl rfl (.inl (gT g15)) rfl (SOps.skip rfl 2 16 false rfl rfl (.inl (gT g15)) rfl (sq rfl rfl rfl (q_pick_t rfl rfl g15 rfl) (SOps.nil (SCode.cond_t rfl rfl (SCode.seq ?_))))))))
     refine SCode.region (show SOps _ _ _ [0] _ _ from ?_)
     refine sa rfl rfl rfl rfl rfl (SOps.nil (SCode.ret ?_))
     obtain rfl := Option.some.inj h
     exact ⟨⟨[(2, ci 2)], []⟩, _, sub_gen [] rfl rfl (zall rfl rfl) trivial, resA1 (v := .c (.int .i64 2)) rfl rfl, rfl⟩
    refine SCode.region (show SOps _ _ _ [0, 1, 2, 3, 4, 5] _ _ from ?_)
    refine sm rfl rfl rfl rfl rfl (sq rfl rfl rfl (q_lss rfl rfl rfl) (sm rfl rfl rfl rfl rfl (SOps.q rfl (.guard 2 16 false rfl rfl (gF g15)) rfl (q_move rfl rfl) (SOps.q rfl (.guard 2 16 false rfl rfl (gF g15)) rfl (q_gtr rfl rfl rfl) (sq rfl rfl rfl (q_pick_f rfl rfl g15 rfl) (SOps.nil ?_))))))
    rcases cond_out h with ⟨g16, h⟩ | ⟨g16, h⟩
    ·refine SCode.cond_t rfl g16 (SCode.seq ?_)
     refine SCode.region (show SOps _ _ _ [0] _ _ from ?_)
     refine sa rfl rfl rfl rfl rfl (SOps.nil (SCode.ret ?_))
     obtain rfl := Option.some.inj h
     exact ⟨⟨[(2, ci 2)], []⟩, _, sub_gen [] rfl rfl (zall rfl rfl) trivial, resA1 (v := .c (.int .i64 2)) rfl rfl, rfl⟩
    refine SCode.cond_f rfl g16 (SCode.skip ?_)
    refine SCode.region (show SOps _ _ _ [0, 1] _ _ from ?_)
    refine sq rfl rfl rfl (q_add rfl rfl rfl) (sm rfl rfl rfl rfl rfl (SOps.nil ?_))
    exact ⟨(n_12, IntKind.wrap .i64 (t10_7 + 1)), h, Nat.lt_succ_self n_12, sub_gen [] rfl rfl (zall rfl rfl) trivial⟩
   refine SCode.cond_f rfl g13 (SCode.exit ?_)
   exact ⟨(), h, sub_gen [] rfl rfl trivial trivial⟩
 rintro ⟨⟩ h
 show SCode _ _ _ ⟨[], []⟩ _
 replace h : fair_check_p2 = some r := h
 unfold fair_check_p2 at h
 refine SCode.seq ?_
 refine SCode.region (show SOps _ _ _ [0] _ _ from ?_)
 refine sa rfl rfl rfl rfl rfl (SOps.nil (SCode.ret ?_))
 obtain rfl := Option.some.inj h
 exact ⟨⟨[(2, ci 0)], []⟩, _, sub_gen [] rfl rfl (zall rfl rfl) trivial, resA1 (v := .c (.int .i64 0)) rfl rfl, rfl⟩
set_option maxRecDepth 100000 in
set_option maxHeartbeats 8000000 in
theorem fair_least_int_ok (F : Nat) (a0_first : Int) (a1_others : List Int) (r : Int) (h : fair_least_int F a0_first a1_others = some r) :
  SFun Try.prog 61 [] [ci a0_first, .c (vI a1_others)] (fun x _ => x = ci r) := by
 refine SFun.of (n := 19) Try.func61 rfl rfl rfl ?_
 unfold fair_least_int at h
 show SCode _ _ _ ⟨[(0, ci a0_first), (1, .c (vI a1_others))], []⟩ _
 refine SCode.seq ?_
 refine SCode.region (show SOps _ _ _ [0] _ _ from ?_)
 refine sa rfl rfl rfl rfl rfl (SOps.nil ?_)
 refine SCode.join (σ := Int) (S := fun s => ⟨[(0, ci s)], []⟩) (g := fun s => fair_least_int_p2 s = some r) ?_ ?_
 rotate_left
 ·refine SCode.seq ?_
  refine SCode.region (show SOps _ _ _ [0, 1, 2] _ _ from ?_)
  refine sm rfl rfl rfl rfl rfl (sq rfl rfl rfl (q_len_vec rfl rfl sl22) (sm rfl rfl rfl rfl rfl (SOps.nil (SCode.block (SCode.sub (st' := ⟨[(0, ci a0_first), (7, .c (vI a1_others)), (8, ci (((a1_others).length : Int))), (9, ci 0)], []⟩) (sub_gen [] rfl rfl (zall rfl rfl) trivial) ?_)))))
  refine (SCode.loop (σ := Nat × (Int × Int)) (S := fun s => ⟨[(0, ci s.2.1), (7, .c (vI a1_others)), (8, ci (((a1_others).length : Int))), (9, ci s.2.2)], []⟩) (g := fun s => fair_least_int_l15 a1_others s.1 s.2.1 s.2.2 = some r) (μ := fun s => s.1) (F, (a0_first, 0)) h ?_)
  rintro ⟨n_15, ⟨first_8, t9_9⟩⟩ h
  replace h : fair_least_int_l15 a1_others n_15 first_8 t9_9 = some r := h
  show SCode _ _ _ ⟨[(0, ci first_8), (7, .c (vI a1_others)), (8, ci (((a1_others).length : Int))), (9, ci t9_9)], []⟩ _
  cases n_15 with
  | zero => cases h
  | succ n_15 =>
   replace h : fair_least_int_b15 a1_others (fun first_8 t9_9 => fair_least_int_l15 a1_others n_15 first_8 t9_9) first_8 t9_9 = some r := h
   unfold fair_least_int_b15 at h
   refine SCode.seq ?_
   refine SCode.region (show SOps _ _ _ [0] _ _ from ?_)
   refine sq rfl rfl rfl (q_lss rfl rfl rfl) (SOps.nil (SCode.seq ?_))
   rcases cond_out h with ⟨g16, h⟩ | ⟨g16, h⟩
   ·refine SCode.cond_t rfl g16 (SCode.skip ?_)
    refine SCode.join (σ := Int) (S := fun s => ⟨[(0, ci s), (7, .c (vI a1_others)), (8, ci (((a1_others).length : Int))), (9, ci t9_9)], []⟩) (g := fun s => fair_least_int_p18 t9_9 (fun first_8 t9_9 => fair_least_int_l15 a1_others n_15 first_8 t9_9) s = some r) ?_ ?_
    rotate_left
    ·refine SCode.block (SCode.seq ?_)
     obtain ⟨g19, h⟩ := guard_out h
     refine SCode.region (show SOps _ _ _ [0, 1, 2] _ _ from ?_)
     refine sq rfl rfl rfl (q_index_vec rfl rfl rfl sl22 rfl g19.1 g19.2) (sq rfl rfl rfl (q_load_eptr rfl rfl ty3) (sa rfl rfl rfl rfl rfl (SOps.nil (SCode.seq ?_))))
     refine SCode.region (show SOps _ _ _ [0, 1, 2] _ _ from ?_)
     refine sm rfl rfl rfl rfl rfl (sm rfl rfl rfl rfl rfl (sq rfl rfl rfl (q_lss rfl rfl rfl) (SOps.nil ?_)))
     rcases cond_out h with ⟨g20, h⟩ | ⟨g20, h⟩
     ·refine SCode.cond_t rfl g20 ?_
      refine SCode.region (show SOps _ _ _ [0, 1] _ _ from ?_)
      refine sm rfl rfl rfl rfl rfl (sa rfl rfl rfl rfl rfl (SOps.nil ?_))
      exact ⟨a1_others.getD t9_9.toNat 0, h, sub_gen [] rfl rfl (zall rfl rfl) trivial⟩
     refine SCode.cond_f rfl g20 (SCode.skip ?_)
     exact ⟨first_8, h, sub_gen [] rfl rfl (zall rfl rfl) trivial⟩
    rintro first_17 h
    show SCode _ _ _ ⟨[(0, ci first_17), (7, .c (vI a1_others)), (8, ci (((a1_others).length : Int))), (9, ci t9_9)], []⟩ _
    replace h : fair_least_int_p18 t9_9 (fun first_8 t9_9 => fair_least_int_l15 a1_others n_15 first_8 t9_9) first_17 = some r := h
    unfold fair_least_int_p18 at h
    refine SCode.region (show SOps _ _ _ [0, 1] _ _ from ?_)
    refine sq rfl rfl rfl (q_add rfl rfl rfl) (sm rfl rfl rfl rfl rfl (SOps.nil ?_))
    exact ⟨(n_15, (first_17, IntKind.wrap .i64 (t9_9 + 1))), h, Nat.lt_succ_self n_15, sub_gen [] rfl rfl (zall rfl rfl) trivial⟩
   refine SCode.cond_f rfl g16 (SCode.exit ?_)
   exact ⟨first_8, h, sub_gen [] rfl rfl (zall rfl rfl) trivial⟩
 rintro first_1 h
 show SCode _ _ _ ⟨[(0, ci first_1)], []⟩ _
 replace h : fair_least_int_p2 first_1 = some r := h
 unfold fair_least_int_p2 at h
 refine SCode.seq ?_
 refine SCode.region (show SOps _ _ _ [0, 1] _ _ from ?_)
 refine sm rfl rfl rfl rfl rfl (sa rfl rfl rfl rfl rfl (SOps.nil (SCode.ret ?_)))
 obtain rfl := Option.some.inj h
 exact ⟨⟨[(4, ci first_1)], []⟩, _, sub_gen [] rfl rfl (zall rfl rfl) trivial, resA1 (v := .c (.int .i64 first_1)) rfl rfl, rfl⟩
set_option maxRecDepth 100000 in
set_option maxHeartbeats 8000000 in
theorem fair_division_raise_f0_p31_ok (F : Nat) (a0_v_caps : List Int) (a0b_Nodes : Int) (a0b_Arcs : List SArc) (a0_v_x : List Int) (a0_v_active : List Bool) (a0_v_trial : List Int) (a1_d : Int) (r : List Int) (h : fair_division_raise_f0_p31 F a0_v_caps a0b_Nodes a0b_Arcs a0_v_x a0_v_active a0_v_trial a1_d = some r) :
  SFun Try.prog 51 [.box [vI a0_v_caps, .fnp 31 1, .own 3 a0_v_x.length, .own 4 a0_v_active.length, .own 5 a0_v_trial.length], .box [.int .i64 a0b_Nodes, .own 2 a0b_Arcs.length], aSArc 63 a0b_Arcs, aI 3 a0_v_x, aB 4 a0_v_active, aI 3 a0_v_trial] [.c (.ptr 0 0), ci a1_d] (fun x os => x = .t [] ∧ os = [.box [vI a0_v_caps, .fnp 31 1, .own 3 a0_v_x.length, .own 4 a0_v_active.length, .own 5 r.length], .box [.int .i64 a0b_Nodes, .own 2 a0b_Arcs.length], aSArc 63 a0b_Arcs, aI 3 a0_v_x, aB 4 a0_v_active, aI 3 r]) := by
 refine SFun.of (n := 43) Try.func51 rfl rfl rfl ?_
 unfold fair_division_raise_f0_p31 at h
 show SCode _ _ _ ⟨[(0, .c (.ptr 0 0)), (1, ci a1_d)], [.box [vI a0_v_caps, .fnp 31 1, .own 3 a0_v_x.length, .own 4 a0_v_active.length, .own 5 a0_v_trial.length], .box [.int .i64 a0b_Nodes, .own 2 a0b_Arcs.length], aSArc 63 a0b_Arcs, aI 3 a0_v_x, aB 4 a0_v_active, aI 3 a0_v_trial]⟩ _
 refine SCode.seq ?_
 refine SCode.region (show SOps _ _ _ [0, 1, 2, 3, 4, 5] _ _ from ?_)
 refine sm rfl rfl rfl rfl rfl (sq rfl rfl rfl (q_nilCheck rfl rfl rfl) (sq rfl rfl rfl (q_field_ptr rfl rfl fd68_2) (sq rfl rfl rfl (q_load_ptr rfl rfl rfl rfl ty22) (sq rfl rfl rfl (q_len_own rfl rfl sl22) (sm rfl rfl rfl rfl rfl (SOps.nil (SCode.block (SCode.sub (st' := ⟨[(0, .c (.ptr 0 0)), (1, ci a1_d), (9, .c (.own 3 a0_v_x.length)), (10, ci (((a0_v_x).length : Int))), (11, ci 0)], [.box [vI a0_v_caps, .fnp 31 1, .own 3 a0_v_x.length, .own 4 a0_v_active.length, .own 5 a0_v_trial.length], .box [.int .i64 a0b_Nodes, .own 2 a0b_Arcs.length], aSArc 63 a0b_Arcs, aI 3 a0_v_x, aB 4 a0_v_active, aI 3 a0_v_trial]⟩) (sub_gen [0, 1, 2, 3, 4, 5] rfl rfl (zall rfl rfl) ⟨bx rfl rfl rfl, bx rfl rfl rfl, oa rfl, oa rfl, oa rfl, oa rfl, trivial⟩) ?_))))))))
 refine (SCode.loop (σ := Nat × (Int × (List Int))) (S := fun s => ⟨[(0, .c (.ptr 0 0)), (1, ci a1_d), (9, .c (.own 3 a0_v_x.length)), (10, ci (((a0_v_x).length : Int))), (11, ci s.2.1)], [.box [vI a0_v_caps, .fnp 31 1, .own 3 a0_v_x.length, .own 4 a0_v_active.length, .own 5 s.2.2.length], .box [.int .i64 a0b_Nodes, .own 2 a0b_Arcs.length], aSArc 63 a0b_Arcs, aI 3 a0_v_x, aB 4 a0_v_active, aI 3 s.2.2]⟩) (g := fun s => fair_division_raise_f0_p31_l23 F a0_v_caps a0_v_x a0_v_active a1_d s.1 s.2.1 s.2.2 = some r) (μ := fun s => s.1) (F, (0, a0_v_trial)) h ?_)
 rintro ⟨n_23, ⟨t11_11, o5_12⟩⟩ h
 replace h : fair_division_raise_f0_p31_l23 F a0_v_caps a0_v_x a0_v_active a1_d n_23 t11_11 o5_12 = some r := h
 show SCode _ _ _ ⟨[(0, .c (.ptr 0 0)), (1, ci a1_d), (9, .c (.own 3 a0_v_x.length)), (10, ci (((a0_v_x).length : Int))), (11, ci t11_11)], [.box [vI a0_v_caps, .fnp 31 1, .own 3 a0_v_x.length, .own 4 a0_v_active.length, .own 5 o5_12.length], .box [.int .i64 a0b_Nodes, .own 2 a0b_Arcs.length], aSArc 63 a0b_Arcs, aI 3 a0_v_x, aB 4 a0_v_active, aI 3 o5_12]⟩ _
 cases n_23 with
 | zero => cases h
 | succ n_23 =>
  replace h : fair_division_raise_f0_p31_b23 F a0_v_caps a0_v_x a0_v_active a1_d (fun t11_11 o5_12 => fair_division_raise_f0_p31_l23 F a0_v_caps a0_v_x a0_v_active a1_d n_23 t11_11 o5_12) t11_11 o5_12 = some r := h
  unfold fair_division_raise_f0_p31_b23 at h
  refine SCode.seq ?_
  refine SCode.region (show SOps _ _ _ [0] _ _ from ?_)
  refine sq rfl rfl rfl (q_lss rfl rfl rfl) (SOps.nil (SCode.seq ?_))
  rcases cond_out h with ⟨g24, h⟩ | ⟨g24, h⟩
  ·refine SCode.cond_t rfl g24 (SCode.skip (SCode.seq (SCode.block (SCode.seq ?_))))
   obtain ⟨g25, h⟩ := guard_out h
   refine SCode.region (show SOps _ _ _ [0, 1, 2, 3, 4] _ _ from ?_)
   refine sm rfl rfl rfl rfl rfl (sq rfl rfl rfl (q_index_own rfl rfl rfl sl22 g25.1 g25.2) (sq rfl rfl rfl (q_load_aptr rfl rfl rfl (toNat_lt g25) rfl ty3) (sa rfl rfl rfl rfl rfl (sa rfl rfl rfl rfl rfl (SOps.nil ?_)))))
   refine SCode.join (σ := Int) (S := fun s => ⟨[(0, .c (.ptr 0 0)), (1, ci a1_d), (4, ci t11_11), (5, ci s), (9, .c (.own 3 a0_v_x.length)), (10, ci (((a0_v_x).length : Int))), (11, ci t11_11)], [.box [vI a0_v_caps, .fnp 31 1, .own 3 a0_v_x.length, .own 4 a0_v_active.length, .own 5 o5_12.length], .box [.int .i64 a0b_Nodes, .own 2 a0b_Arcs.length], aSArc 63 a0b_Arcs, aI 3 a0_v_x, aB 4 a0_v_active, aI 3 o5_12]⟩) (g := fun s => fair_division_raise_f0_p31_p28 t11_11 o5_12 (fun t11_11 o5_12 => fair_division_raise_f0_p31_l23 F a0_v_caps a0_v_x a0_v_active a1_d n_23 t11_11 o5_12) s = some r) ?_ ?_
   rotate_left
   ·refine SCode.seq ?_
    obtain ⟨g29, h⟩ := guard_out h
    refine SCode.region (show SOps _ _ _ [0, 1, 2, 3, 4, 5, 6] _ _ from ?_)
    refine sm rfl rfl rfl rfl rfl (sq rfl rfl rfl (q_nilCheck rfl rfl rfl) (sq rfl rfl rfl (q_field_ptr rfl rfl fd68_3) (sq rfl rfl rfl (q_load_ptr rfl rfl rfl rfl ty53) (sm rfl rfl rfl rfl rfl (sq rfl rfl rfl (q_index_own rfl rfl rfl sl53 g29.1 g29.2) (sq rfl rfl rfl (q_load_aptr rfl rfl rfl (toNat_lt g29) rfl ty4) (SOps.nil ?_)))))))
    rcases cond_out h with ⟨g30, h⟩ | ⟨g30, h⟩
    ·refine SCode.cond_t rfl g30 ?_
     obtain ⟨g31, h⟩ := guard_out h
     obtain ⟨c_32, g33, h⟩ := bind_out h
     try dsimp only at h
     refine SCode.region (show SOps _ _ _ [0, 1, 2, 3, 4, 5, 6, 7, 8, 9, 10, 11, 12] _ _ from ?_)
     refine sm rfl rfl rfl rfl rfl (sm rfl rfl rfl rfl rfl (sq rfl rfl rfl (q_add rfl rfl rfl) (sm rfl rfl rfl rfl rfl (sq rfl rfl rfl (q_nilCheck rfl rfl rfl) (sq rfl rfl rfl (q_field_ptr rfl rfl fd68_0) (sq rfl rfl rfl (q_load_ptr rfl rfl rfl rfl ty22) (sm rfl rfl rfl rfl rfl (sq rfl rfl rfl (q_index_vec rfl rfl rfl sl22 rfl g31.1 g31.2) (sq rfl rfl rfl (q_load_eptr rfl rfl ty3) ?_)))))))))
     refine sq rfl rfl rfl (q_bsliceL (c := (cInt .i64)) (d0 := 0) [a0_v_caps.getD t11_11.toNat 0] rfl rfl sl22 z3 rfl rfl rfl rfl rfl rfl rfl) (sq rfl rfl rfl (q_call (fair_least_int_ok F (IntKind.wrap .i64 (a0_v_x.getD t11_11.toNat 0 + a1_d)) ([a0_v_caps.getD t11_11.toNat 0]) c_32 g33) [] rfl fn61 ⟨⟨_, rfl, .inl ⟨rfl, rfl⟩⟩, ⟨_, rfl, .inl ⟨rfl, rfl⟩⟩, trivial⟩ (.inl rfl)) (sa rfl rfl rfl rfl rfl (SOps.sub (st' := ⟨[(0, .c (.ptr 0 0)), (1, ci a1_d), (4, ci t11_11), (5, ci c_32), (9, .c (.own 3 a0_v_x.length)), (10, ci (((a0_v_x).length : Int))), (11, ci t11_11)], [.box [vI a0_v_caps, .fnp 31 1, .own 3 a0_v_x.length, .own 4 a0_v_active.length, .own 5 o5_12.length], .box [.int .i64 a0b_Nodes, .own 2 a0b_Arcs.length], aSArc 63 a0b_Arcs, aI 3 a0_v_x, aB 4 a0_v_active, aI 3 o5_12]⟩) (sub_gen [0, 1, 2, 3, 4, 5] rfl rfl (zall rfl rfl) ⟨bx rfl rfl rfl, bx rfl rfl rfl, oa rfl, oa rfl, oa rfl, oa rfl, trivial⟩) (SOps.nil ?_))))
     exact ⟨c_32, h, sub_gen [0, 1, 2, 3, 4, 5] rfl rfl (zall rfl rfl) ⟨bx rfl rfl rfl, bx rfl rfl rfl, oa rfl, oa rfl, oa rfl, oa rfl, trivial⟩⟩
    refine SCode.cond_f rfl g30 (SCode.skip ?_)
    exact ⟨a0_v_x.getD t11_11.toNat 0, h, sub_gen [0, 1, 2, 3, 4, 5] rfl rfl (zall rfl rfl) ⟨bx rfl rfl rfl, bx rfl rfl rfl, oa rfl, oa rfl, oa rfl, oa rfl, trivial⟩⟩
   rintro n_26 h
   show SCode _ _ _ ⟨[(0, .c (.ptr 0 0)), (1, ci a1_d), (4, ci t11_11), (5, ci n_26), (9, .c (.own 3 a0_v_x.length)), (10, ci (((a0_v_x).length : Int))), (11, ci t11_11)], [.box [vI a0_v_caps, .fnp 31 1, .own 3 a0_v_x.length, .own 4 a0_v_active.length, .own 5 o5_12.length], .box [.int .i64 a0b_Nodes, .own 2 a0b_Arcs.length], aSArc 63 a0b_Arcs, aI 3 a0_v_x, aB 4 a0_v_active, aI 3 o5_12]⟩ _
   replace h : fair_division_raise_f0_p31_p28 t11_11 o5_12 (fun t11_11 o5_12 => fair_division_raise_f0_p31_l23 F a0_v_caps a0_v_x a0_v_active a1_d n_23 t11_11 o5_12) n_26 = some r := h
   unfold fair_division_raise_f0_p31_p28 at h
   obtain ⟨g27, h⟩ := guard_out h
   refine SCode.region (show SOps _ _ _ [0, 1, 2, 3, 4, 5, 6, 7] _ _ from ?_)
   refine sm rfl rfl rfl rfl rfl (sq rfl rfl rfl (q_nilCheck rfl rfl rfl) (sq rfl rfl rfl (q_field_ptr rfl rfl fd68_4) (sq rfl rfl rfl (q_load_ptr rfl rfl rfl rfl ty22) (sm rfl rfl rfl rfl rfl (sm rfl rfl rfl rfl rfl (sq rfl rfl rfl (q_index_own rfl rfl rfl sl22 g27.1 g27.2) (se rfl rfl (e_storeL n_26 rfl rfl rfl rfl rfl (toNat_lt g27) ty3 rfl rfl rfl rfl rfl rfl) (SOps.sub (st' := ⟨[(0, .c (.ptr 0 0)), (1, ci a1_d), (9, .c (.own 3 a0_v_x.length)), (10, ci (((a0_v_x).length : Int))), (11, ci t11_11)], [.box [vI a0_v_caps, .fnp 31 1, .own 3 a0_v_x.length, .own 4 a0_v_active.length, .own 5 (o5_12.set t11_11.toNat n_26).length], .box [.int .i64 a0b_Nodes, .own 2 a0b_Arcs.length], aSArc 63 a0b_Arcs, aI 3 a0_v_x, aB 4 a0_v_active, aI 3 (o5_12.set t11_11.toNat n_26)]⟩) (sub_gen [0, 1, 2, 3, 4, 5] rfl rfl (zall rfl rfl) ⟨⟨_, rfl, ⟨ii rfl rfl, ii rfl rfl, ii rfl rfl, ii rfl rfl, .inl ⟨rfl, congrArg (Cell.own 5) (List.length_set : (o5_12.set t11_11.toNat n_26).length = o5_12.length).symm⟩, trivial⟩⟩, bx rfl rfl rfl, oa rfl, oa rfl, oa rfl, oa rfl, trivial⟩) (SOps.nil ?_)))))))))
   refine SCode.region (show SOps _ _ _ [0, 1] _ _ from ?_)
   refine sq rfl rfl rfl (q_add rfl rfl rfl) (sm rfl rfl rfl rfl rfl (SOps.nil ?_))
   exact ⟨(n_23, (IntKind.wrap .i64 (t11_11 + 1), o5_12.set t11_11.toNat n_26)), h, Nat.lt_succ_self n_23, sub_gen [0, 1, 2, 3, 4, 5] rfl rfl (zall rfl rfl) ⟨bx rfl rfl rfl, bx rfl rfl rfl, oa rfl, oa rfl, oa rfl, oa rfl, trivial⟩⟩
  refine SCode.cond_f rfl g24 (SCode.exit ?_)
  obtain rfl := Option.some.inj h
  exact ⟨⟨[], [.box [vI a0_v_caps, .fnp 31 1, .own 3 a0_v_x.length, .own 4 a0_v_active.length, .own 5 o5_12.length], .box [.int .i64 a0b_Nodes, .own 2 a0b_Arcs.length], aSArc 63 a0b_Arcs, aI 3 a0_v_x, aB 4 a0_v_active, aI 3 o5_12]⟩, _, sub_gen [0, 1, 2, 3, 4, 5] rfl rfl trivial ⟨bx rfl rfl rfl, bx rfl rfl rfl, oa rfl, oa rfl, oa rfl, oa rfl, trivial⟩, resA0 rfl, ⟨rfl, rfl⟩⟩
set_option maxRecDepth 100000 in
set_option maxHeartbeats 8000000 in
theorem fair_division_raisable_f0_p31_ok (F : Nat) (a0_v_caps : List Int) (a0b_Nodes : Int) (a0b_Arcs : List SArc) (a0_v_x : List Int) (a0_v_active : List Bool) (a0_v_trial : List Int) (a1_d : Int) (r : Bool × (List SArc) × (List Int)) (h : fair_division_raisable_f0_p31 F a0_v_caps a0b_Nodes a0b_Arcs a0_v_x a0_v_active a0_v_trial a1_d = some r) :
  SFun Try.prog 50 [.box [vI a0_v_caps, .fnp 31 1, .own 3 a0_v_x.length, .own 4 a0_v_active.length, .own 5 a0_v_trial.length], .box [.int .i64 a0b_Nodes, .own 2 a0b_Arcs.length], aSArc 63 a0b_Arcs, aI 3 a0_v_x, aB 4 a0_v_active, aI 3 a0_v_trial] [.c (.ptr 0 0), ci a1_d] (fun x os => x = .c (.bool r.1) ∧ os = [.box [vI a0_v_caps, .fnp 31 1, .own 3 a0_v_x.length, .own 4 a0_v_active.length, .own 5 r.2.2.length], .box [.int .i64 a0b_Nodes, .own 2 r.2.1.length], aSArc 63 r.2.1, aI 3 a0_v_x, aB 4 a0_v_active, aI 3 r.2.2]) := by
 refine SFun.of (n := 17) Try.func50 rfl rfl rfl ?_
 unfold fair_division_raisable_f0_p31 at h
 show SCode _ _ _ ⟨[(0, .c (.ptr 0 0)), (1, ci a1_d)], [.box [vI a0_v_caps, .fnp 31 1, .own 3 a0_v_x.length, .own 4 a0_v_active.length, .own 5 a0_v_trial.length], .box [.int .i64 a0b_Nodes, .own 2 a0b_Arcs.length], aSArc 63 a0b_Arcs, aI 3 a0_v_x, aB 4 a0_v_active, aI 3 a0_v_trial]⟩ _
 refine SCode.seq ?_
 refine SCode.region (show SOps _ _ _ [0] _ _ from ?_)
 refine sa rfl rfl rfl rfl rfl (SOps.nil (SCode.seq ?_))
 obtain ⟨c_1, g2, h⟩ := bind_out h
 try dsimp only at h
 refine SCode.region (show SOps _ _ _ [0, 1, 2] _ _ from ?_)
 refine sm rfl rfl rfl rfl rfl (sm rfl rfl rfl rfl rfl (se rfl rfl (e_call (fair_division_raise_f0_p31_ok F a0_v_caps a0b_Nodes a0b_Arcs a0_v_x a0_v_active a0_v_trial a1_d c_1 g2) [0, 1, 2, 3, 4, 5] rfl fn51 rfl rfl rfl rfl rfl rfl rfl rfl) (SOps.nil (SCode.seq (SCode.sub (st' := ⟨[(0, .c (.ptr 0 0))], [.box [vI a0_v_caps, .fnp 31 1, .own 3 a0_v_x.length, .own 4 a0_v_active.length, .own 5 c_1.length], .box [.int .i64 a0b_Nodes, .own 2 a0b_Arcs.length], aSArc 63 a0b_Arcs, aI 3 a0_v_x, aB 4 a0_v_active, aI 3 c_1]⟩) (sub_gen [0, 1, 2, 3, 4, 5] rfl rfl (zall rfl rfl) ⟨bx rfl rfl rfl, bx rfl rfl rfl, oa rfl, oa rfl, oa rfl, oa rfl, trivial⟩) ?_)))))
 obtain ⟨c_3, g4, h⟩ := bind_out h
 try dsimp only at h
 refine SCode.draw (s' := [(15, .c (.own 5 c_1.length)), (14, .c (.ptr 0 4)), (13, .c (.ptr 0 0)), (12, .c (.ptr 0 0)), (11, .c (.fnp 31 1)), (10, .c (.ptr 0 1)), (9, .c (.ptr 0 0)), (8, .c (.ptr 0 0)), (0, .c (.ptr 0 0))]) mixed [[], [0], [0, 1], [0, 1, 2], [], [4], [4, 5], [4, 5, 6], [0, 1, 2, 3, 4, 5, 6, 7], [0, 1, 2, 3, 4, 5, 6, 7, 8]] 8 2 rfl rfl ?_ ?_
 ·refine QChain.run rfl (.plain rfl) rfl (q_move rfl rfl) (QChain.run rfl (.plain rfl) rfl (q_nilCheck rfl rfl rfl) (QChain.run rfl (.plain rfl) rfl (q_field_ptr rfl rfl fd68_1) (QChain.run rfl (.plain rfl) rfl (q_load_ptr rfl rfl rfl rfl ty52) (QChain.run rfl (.plain rfl) rfl (q_move rfl rfl) (QChain.run rfl (.plain rfl) rfl (q_nilCheck rfl rfl rfl) (QChain.run rfl (.plain rfl) rfl (q_field_ptr rfl rfl fd68_4) (QChain.run rfl (.plain rfl) rfl (q_load_ptr rfl rfl rfl rfl ty22) ?_)))))))
  exact QChain.nil _ _
 refine (show SOps _ _ _ [8, 9] _ _ from ?_)
 refine se rfl rfl (e_callP (plan_Fair_1_ok F c_1 a0b_Nodes a0b_Arcs c_3 g4) [1, 2] [5] rfl rfl fn31 rfl rfl rfl rfl rfl rfl rfl rfl (nrs ⟨rfl, fun _ _ => nrSArc _ _, trivial⟩) ⟨.inr (.inl ⟨_, _, _, _, _, _, _, rfl, rfl, rfl, Nat.le_refl _, fun _ _ _ _ => rfl, (.head _)⟩), .inl ⟨rfl, rfl⟩, trivial⟩) (sa rfl rfl rfl rfl rfl (SOps.sub (st' := ⟨[(4, .c (.bool c_3.1))], [.box [vI a0_v_caps, .fnp 31 1, .own 3 a0_v_x.length, .own 4 a0_v_active.length, .own 5 c_1.length], .box [.int .i64 a0b_Nodes, .own 2 c_3.2.length], aSArc 63 c_3.2, aI 3 a0_v_x, aB 4 a0_v_active, aI 3 c_1]⟩) (sub_gen [0, 1, 2, 3, 4, 5] rfl rfl (zall rfl rfl) ⟨bx rfl rfl rfl, bx rfl rfl rfl, oa rfl, oa rfl, oa rfl, oa rfl, trivial⟩) (SOps.nil (SCode.ret ?_))))
 obtain rfl := Option.some.inj h
 exact ⟨⟨[(4, .c (.bool c_3.1))], [.box [vI a0_v_caps, .fnp 31 1, .own 3 a0_v_x.length, .own 4 a0_v_active.length, .own 5 c_1.length], .box [.int .i64 a0b_Nodes, .own 2 c_3.2.length], aSArc 63 c_3.2, aI 3 a0_v_x, aB 4 a0_v_active, aI 3 c_1]⟩, _, sub_gen [0, 1, 2, 3, 4, 5] rfl rfl (zall rfl rfl) ⟨bx rfl rfl rfl, bx rfl rfl rfl, oa rfl, oa rfl, oa rfl, oa rfl, trivial⟩, resA1 (v := .c (.bool c_3.1)) rfl rfl, ⟨rfl, rfl⟩⟩
set_option maxRecDepth 100000 in
set_option maxHeartbeats 8000000 in
theorem fair_division_together_f0_p31_ok (F : Nat) (a0_v_caps : List Int) (a0b_Nodes : Int) (a0b_Arcs : List SArc) (a0_v_x : List Int) (a0_v_active : List Bool) (a0_v_trial : List Int) (r : (List SArc) × (List Int) × (List Int)) (h : fair_division_together_f0_p31 F a0_v_caps a0b_Nodes a0b_Arcs a0_v_x a0_v_active a0_v_trial = some r) :
  SFun Try.prog 43 [.box [vI a0_v_caps, .fnp 31 1, .own 3 a0_v_x.length, .own 4 a0_v_active.length, .own 5 a0_v_trial.length], .box [.int .i64 a0b_Nodes, .own 2 a0b_Arcs.length], aSArc 63 a0b_Arcs, aI 3 a0_v_x, aB 4 a0_v_active, aI 3 a0_v_trial] [.c (.ptr 0 0)] (fun x os => x = .t [] ∧ os = [.box [vI a0_v_caps, .fnp 31 1, .own 3 r.2.1.length, .own 4 a0_v_active.length, .own 5 r.2.2.length], .box [.int .i64 a0b_Nodes, .own 2 r.1.length], aSArc 63 r.1, aI 3 r.2.1, aB 4 a0_v_active, aI 3 r.2.2]) := by
 refine SFun.of (n := 74) Try.func43 rfl rfl rfl ?_
 unfold fair_division_together_f0_p31 at h
 show SCode _ _ _ ⟨[(0, .c (.ptr 0 0))], [.box [vI a0_v_caps, .fnp 31 1, .own 3 a0_v_x.length, .own 4 a0_v_active.length, .own 5 a0_v_trial.length], .box [.int .i64 a0b_Nodes, .own 2 a0b_Arcs.length], aSArc 63 a0b_Arcs, aI 3 a0_v_x, aB 4 a0_v_active, aI 3 a0_v_trial]⟩ _
 refine SCode.seq ?_
 refine SCode.region (show SOps _ _ _ [0] _ _ from ?_)
 refine sa rfl rfl rfl rfl rfl (SOps.nil ?_)
 refine SCode.join (σ := Int) (S := fun s => ⟨[(0, .c (.ptr 0 0)), (2, ci s)], [.box [vI a0_v_caps, .fnp 31 1, .own 3 a0_v_x.length, .own 4 a0_v_active.length, .own 5 a0_v_trial.length], .box [.int .i64 a0b_Nodes, .own 2 a0b_Arcs.length], aSArc 63 a0b_Arcs, aI 3 a0_v_x, aB 4 a0_v_active, aI 3 a0_v_trial]⟩) (g := fun s => fair_division_together_f0_p31_p36 F a0_v_caps a0b_Nodes a0b_Arcs a0_v_x a0_v_active a0_v_trial s = some r) ?_ ?_
 rotate_left
 ·refine SCode.seq ?_
  refine SCode.region (show SOps _ _ _ [0, 1, 2, 3, 4, 5] _ _ from ?_)
  refine sm rfl rfl rfl rfl rfl (sq rfl rfl rfl (q_nilCheck rfl rfl rfl) (sq rfl rfl rfl (q_field_ptr rfl rfl fd68_2) (sq rfl rfl rfl (q_load_ptr rfl rfl rfl rfl ty22) (sq rfl rfl rfl (q_len_own rfl rfl sl22) (sm rfl rfl rfl rfl rfl (SOps.nil (SCode.block (SCode.sub (st' := ⟨[(0, .c (.ptr 0 0)), (2, ci 0), (11, .c (.own 3 a0_v_x.length)), (12, ci (((a0_v_x).length : Int))), (13, ci 0)], [.box [vI a0_v_caps, .fnp 31 1, .own 3 a0_v_x.length, .own 4 a0_v_active.length, .own 5 a0_v_trial.length], .box [.int .i64 a0b_Nodes, .own 2 a0b_Arcs.length], aSArc 63 a0b_Arcs, aI 3 a0_v_x, aB 4 a0_v_active, aI 3 a0_v_trial]⟩) (sub_gen [0, 1, 2, 3, 4, 5] rfl rfl (zall rfl rfl) ⟨bx rfl rfl rfl, bx rfl rfl rfl, oa rfl, oa rfl, oa rfl, oa rfl, trivial⟩) ?_))))))))
  refine (SCode.loop (σ := Nat × (Int × Int)) (S := fun s => ⟨[(0, .c (.ptr 0 0)), (2, ci s.2.1), (11, .c (.own 3 a0_v_x.length)), (12, ci (((a0_v_x).length : Int))), (13, ci s.2.2)], [.box [vI a0_v_caps, .fnp 31 1, .own 3 a0_v_x.length, .own 4 a0_v_active.length, .own 5 a0_v_trial.length], .box [.int .i64 a0b_Nodes, .own 2 a0b_Arcs.length], aSArc 63 a0b_Arcs, aI 3 a0_v_x, aB 4 a0_v_active, aI 3 a0_v_trial]⟩) (g := fun s => fair_division_together_f0_p31_l53 F a0_v_caps a0b_Nodes a0b_Arcs a0_v_x a0_v_active a0_v_trial s.1 s.2.1 s.2.2 = some r) (μ := fun s => s.1) (F, (0, 0)) h ?_)
  rintro ⟨n_53, ⟨most_44, t13_45⟩⟩ h
  replace h : fair_division_together_f0_p31_l53 F a0_v_caps a0b_Nodes a0b_Arcs a0_v_x a0_v_active a0_v_trial n_53 most_44 t13_45 = some r := h
  show SCode _ _ _ ⟨[(0, .c (.ptr 0 0)), (2, ci most_44), (11, .c (.own 3 a0_v_x.length)), (12, ci (((a0_v_x).length : Int))), (13, ci t13_45)], [.box [vI a0_v_caps, .fnp 31 1, .own 3 a0_v_x.length, .own 4 a0_v_active.length, .own 5 a0_v_trial.length], .box [.int .i64 a0b_Nodes, .own 2 a0b_Arcs.length], aSArc 63 a0b_Arcs, aI 3 a0_v_x, aB 4 a0_v_active, aI 3 a0_v_trial]⟩ _
  cases n_53 with
  | zero => cases h
  | succ n_53 =>
   replace h : fair_division_together_f0_p31_b53 F a0_v_caps a0b_Nodes a0b_Arcs a0_v_x a0_v_active a0_v_trial (fun most_44 t13_45 => fair_division_together_f0_p31_l53 F a0_v_caps a0b_Nodes a0b_Arcs a0_v_x a0_v_active a0_v_trial n_53 most_44 t13_45) most_44 t13_45 = some r := h
   unfold fair_division_together_f0_p31_b53 at h
   refine SCode.seq ?_
   refine SCode.region (show SOps _ _ _ [0] _ _ from ?_)
   refine sq rfl rfl rfl (q_lss rfl rfl rfl) (SOps.nil (SCode.seq ?_))
   rcases cond_out h with ⟨g54, h⟩ | ⟨g54, h⟩
   ·refine SCode.cond_t rfl g54 (SCode.skip ?_)
    refine SCode.join (σ := Int) (S := fun s => ⟨[(0, .c (.ptr 0 0)), (2, ci s), (11, .c (.own 3 a0_v_x.length)), (12, ci (((a0_v_x).length : Int))), (13, ci t13_45)], [.box [vI a0_v_caps, .fnp 31 1, .own 3 a0_v_x.length, .own 4 a0_v_active.length, .own 5 a0_v_trial.length], .box [.int .i64 a0b_Nodes, .own 2 a0b_Arcs.length], aSArc 63 a0b_Arcs, aI 3 a0_v_x, aB 4 a0_v_active, aI 3 a0_v_trial]⟩) (g := fun s => fair_division_together_f0_p31_p56 t13_45 (fun most_44 t13_45 => fair_division_together_f0_p31_l53 F a0_v_caps a0b_Nodes a0b_Arcs a0_v_x a0_v_active a0_v_trial n_53 most_44 t13_45) s = some r) ?_ ?_
    rotate_left
    ·refine SCode.block (SCode.seq ?_)
     obtain ⟨g57, h⟩ := guard_out h
     refine SCode.region (show SOps _ _ _ [0, 1, 2, 3, 4] _ _ from ?_)
     refine sm rfl rfl rfl rfl rfl (sq rfl rfl rfl (q_index_own rfl rfl rfl sl22 g57.1 g57.2) (sq rfl rfl rfl (q_load_aptr rfl rfl rfl (toNat_lt g57) rfl ty3) (sa rfl rfl rfl rfl rfl (sa rfl rfl rfl rfl rfl (SOps.nil (SCode.seq ?_))))))
     obtain ⟨g58, h⟩ := guard_out h
     refine SCode.region (show SOps _ _ _ [0, 1, 2, 3, 4, 5, 6] _ _ from ?_)
     refine sm rfl rfl rfl rfl rfl (sq rfl rfl rfl (q_nilCheck rfl rfl rfl) (sq rfl rfl rfl (q_field_ptr rfl rfl fd68_3) (sq rfl rfl rfl (q_load_ptr rfl rfl rfl rfl ty53) (sm rfl rfl rfl rfl rfl (sq rfl rfl rfl (q_index_own rfl rfl rfl sl53 g58.1 g58.2) (sq rfl rfl rfl (q_load_aptr rfl rfl rfl (toNat_lt g58) rfl ty4) (SOps.nil ?_)))))))
     rcases cond_out h with ⟨g59, h⟩ | ⟨g59, h⟩
     ·refine SCode.cond_t rfl g59 ?_
      obtain ⟨g60, h⟩ := guard_out h
      refine SCode.region (show SOps _ _ _ [0, 1, 2, 3, 4, 5, 6, 7, 8, 9, 10, 11] _ _ from ?_)
      refine sm rfl rfl rfl rfl rfl (sm rfl rfl rfl rfl rfl (sq rfl rfl rfl (q_nilCheck rfl rfl rfl) (sq rfl rfl rfl (q_field_ptr rfl rfl fd68_0) (sq rfl rfl rfl (q_load_ptr rfl rfl rfl rfl ty22) (sm rfl rfl rfl rfl rfl (sq rfl rfl rfl (q_index_vec rfl rfl rfl sl22 rfl g60.1 g60.2) (sq rfl rfl rfl (q_load_eptr rfl rfl ty3) (sm rfl rfl rfl rfl rfl (sq rfl rfl rfl (q_sub rfl rfl rfl) ?_)))))))))
      refine sq rfl rfl rfl (q_max rfl rfl rfl) (sa rfl rfl rfl rfl rfl (SOps.sub (st' := ⟨[(0, .c (.ptr 0 0)), (2, ci ((if most_44 < IntKind.wrap .i64 (a0_v_caps.getD t13_45.toNat 0 - a0_v_x.getD t13_45.toNat 0) then IntKind.wrap .i64 (a0_v_caps.getD t13_45.toNat 0 - a0_v_x.getD t13_45.toNat 0) else most_44))), (11, .c (.own 3 a0_v_x.length)), (12, ci (((a0_v_x).length : Int))), (13, ci t13_45)], [.box [vI a0_v_caps, .fnp 31 1, .own 3 a0_v_x.length, .own 4 a0_v_active.length, .own 5 a0_v_trial.length], .box [.int .i64 a0b_Nodes, .own 2 a0b_Arcs.length], aSArc 63 a0b_Arcs, aI 3 a0_v_x, aB 4 a0_v_active, aI 3 a0_v_trial]⟩) (sub_gen [0, 1, 2, 3, 4, 5] rfl rfl (zall rfl rfl) ⟨bx rfl rfl rfl, bx rfl rfl rfl, oa rfl, oa rfl, oa rfl, oa rfl, trivial⟩) (SOps.nil ?_)))
      exact ⟨(if most_44 < IntKind.wrap .i64 (a0_v_caps.getD t13_45.toNat 0 - a0_v_x.getD t13_45.toNat 0) then IntKind.wrap .i64 (a0_v_caps.getD t13_45.toNat 0 - a0_v_x.getD t13_45.toNat 0) else most_44), h, sub_gen [0, 1, 2, 3, 4, 5] rfl rfl (zall rfl rfl) ⟨bx rfl rfl rfl, bx rfl rfl rfl, oa rfl, oa rfl, oa rfl, oa rfl, trivial⟩⟩
     refine SCode.cond_f rfl g59 (SCode.skip ?_)
     exact ⟨most_44, h, sub_gen [0, 1, 2, 3, 4, 5] rfl rfl (zall rfl rfl) ⟨bx rfl rfl rfl, bx rfl rfl rfl, oa rfl, oa rfl, oa rfl, oa rfl, trivial⟩⟩
    rintro most_55 h
    show SCode _ _ _ ⟨[(0, .c (.ptr 0 0)), (2, ci most_55), (11, .c (.own 3 a0_v_x.length)), (12, ci (((a0_v_x).length : Int))), (13, ci t13_45)], [.box [vI a0_v_caps, .fnp 31 1, .own 3 a0_v_x.length, .own 4 a0_v_active.length, .own 5 a0_v_trial.length], .box [.int .i64 a0b_Nodes, .own 2 a0b_Arcs.length], aSArc 63 a0b_Arcs, aI 3 a0_v_x, aB 4 a0_v_active, aI 3 a0_v_trial]⟩ _
    replace h : fair_division_together_f0_p31_p56 t13_45 (fun most_44 t13_45 => fair_division_together_f0_p31_l53 F a0_v_caps a0b_Nodes a0b_Arcs a0_v_x a0_v_active a0_v_trial n_53 most_44 t13_45) most_55 = some r := h
    unfold fair_division_together_f0_p31_p56 at h
    refine SCode.region (show SOps _ _ _ [0, 1] _ _ from ?_)
    refine sq rfl rfl rfl (q_add rfl rfl rfl) (sm rfl rfl rfl rfl rfl (SOps.nil ?_))
    exact ⟨(n_53, (most_55, IntKind.wrap .i64 (t13_45 + 1))), h, Nat.lt_succ_self n_53, sub_gen [0, 1, 2, 3, 4, 5] rfl rfl (zall rfl rfl) ⟨bx rfl rfl rfl, bx rfl rfl rfl, oa rfl, oa rfl, oa rfl, oa rfl, trivial⟩⟩
   refine SCode.cond_f rfl g54 (SCode.exit ?_)
   exact ⟨most_44, h, sub_gen [0, 1, 2, 3, 4, 5] rfl rfl (zall rfl rfl) ⟨bx rfl rfl rfl, bx rfl rfl rfl, oa rfl, oa rfl, oa rfl, oa rfl, trivial⟩⟩
 rintro most_1 h
 show SCode _ _ _ ⟨[(0, .c (.ptr 0 0)), (2, ci most_1)], [.box [vI a0_v_caps, .fnp 31 1, .own 3 a0_v_x.length, .own 4 a0_v_active.length, .own 5 a0_v_trial.length], .box [.int .i64 a0b_Nodes, .own 2 a0b_Arcs.length], aSArc 63 a0b_Arcs, aI 3 a0_v_x, aB 4 a0_v_active, aI 3 a0_v_trial]⟩ _
 replace h : fair_division_together_f0_p31_p36 F a0_v_caps a0b_Nodes a0b_Arcs a0_v_x a0_v_active a0_v_trial most_1 = some r := h
 unfold fair_division_together_f0_p31_p36 at h
 refine SCode.seq ?_
 refine SCode.region (show SOps _ _ _ [0, 1] _ _ from ?_)
 refine sm rfl rfl rfl rfl rfl (sa rfl rfl rfl rfl rfl (SOps.nil ?_))
 refine SCode.join (σ := Int × (List SArc) × (List Int)) (S := fun s => ⟨[(0, .c (.ptr 0 0)), (5, ci s.1)], [.box [vI a0_v_caps, .fnp 31 1, .own 3 a0_v_x.length, .own 4 a0_v_active.length, .own 5 s.2.2.length], .box [.int .i64 a0b_Nodes, .own 2 s.2.1.length], aSArc 63 s.2.1, aI 3 a0_v_x, aB 4 a0_v_active, aI 3 s.2.2]⟩) (g := fun s => fair_division_together_f0_p31_p7 F a0_v_caps a0b_Nodes a0_v_x a0_v_active s.1 s.2.1 s.2.2 = some r) ?_ ?_
 rotate_left
 ·refine SCode.join (σ := Bool × (List SArc) × (List Int)) (S := fun s => ⟨[(0, .c (.ptr 0 0)), (2, ci most_1), (5, ci most_1), (45, .c (.bool s.1))], [.box [vI a0_v_caps, .fnp 31 1, .own 3 a0_v_x.length, .own 4 a0_v_active.length, .own 5 s.2.2.length], .box [.int .i64 a0b_Nodes, .own 2 s.2.1.length], aSArc 63 s.2.1, aI 3 a0_v_x, aB 4 a0_v_active, aI 3 s.2.2]⟩) (g := fun s => fair_division_together_f0_p31_p32 F a0_v_caps a0b_Nodes a0_v_x a0_v_active most_1 s.1 s.2.1 s.2.2 = some r) ?_ ?_
  rotate_left
  ·rcases cond_out h with ⟨g33, h⟩ | ⟨g33, h⟩
   ·obtain ⟨c_34, g35, h⟩ := bind_out h
    try dsimp only at h
    refine SCode.region (show SOps _ _ _ [0, 1, 2, 3, 4, 5, 6, 7] _ _ from ?_)
    refine sm rfl rfl rfl rfl rfl (sq rfl rfl rfl (q_gtr rfl rfl rfl) (sm rfl rfl rfl rfl rfl (SOps.q rfl (.guard 2 40 true rfl rfl (gT g33)) rfl (q_move rfl rfl) (SOps.q rfl (.guard 2 40 true rfl rfl (gT g33)) rfl (q_move rfl rfl) (SOps.e rfl (.guard 2 40 true rfl rfl (gT g33)) (e_call (fair_division_raisable_f0_p31_ok F a0_v_caps a0b_Nodes a0b_Arcs a0_v_x a0_v_active a0_v_trial most_1 c_34 g35) [0, 1, 2, 3, 4, 5] rfl fn50 rfl rfl rfl rfl rfl rfl rfl rfl) (SOps.q rfl (.guard 2 40 true rfl rfl (gT g33)) rfl (q_not rfl rfl) (sq rfl rfl rfl (q_pick_t rfl rfl g33 rfl) (SOps.nil ?_))))))))
    exact ⟨((!c_34.1), c_34.2.1, c_34.2.2), h, sub_gen [0, 1, 2, 3, 4, 5] rfl rfl (zall rfl rfl) ⟨bx rfl rfl rfl, bx rfl rfl rfl, oa rfl, oa rfl, oa rfl, oa rfl, trivial⟩⟩
   refine SCode.region (show SOps _ _ _ [0, 1, 2, 3, 4, 5, 6, 7] _ _ from ?_)
   refine sm rfl rfl rfl rfl rfl (sq rfl rfl rfl (q_gtr rfl rfl rfl) (sm rfl rfl rfl rfl rfl (SOps.skip rfl 2 40 true rfl rfl (.inl (gF g33)) rfl (SOps.skip rfl 2 40 true rfl rfl (.inl (gF g33)) rfl (SOps.skip rfl 2 40 true rfl rfl (.inl (gF g33)) rfl (SOps.skip rfl 2 40 true rfl rfl (.inl (gF g33)) rfl (sq rfl rfl rfl (q_pick_f rfl rfl g33 rfl) (SOps.nil ?_))))))))
   exact ⟨(false, a0b_Arcs, a0_v_trial), h, sub_gen [0, 1, 2, 3, 4, 5] rfl rfl (zall rfl rfl) ⟨bx rfl rfl rfl, bx rfl rfl rfl, oa rfl, oa rfl, oa rfl, oa rfl, trivial⟩⟩
  rintro ⟨t45_8, o2_9, o5_10⟩ h
  show SCode _ _ _ ⟨[(0, .c (.ptr 0 0)), (2, ci most_1), (5, ci most_1), (45, .c (.bool t45_8))], [.box [vI a0_v_caps, .fnp 31 1, .own 3 a0_v_x.length, .own 4 a0_v_active.length, .own 5 o5_10.length], .box [.int .i64 a0b_Nodes, .own 2 o2_9.length], aSArc 63 o2_9, aI 3 a0_v_x, aB 4 a0_v_active, aI 3 o5_10]⟩ _
  replace h : fair_division_together_f0_p31_p32 F a0_v_caps a0b_Nodes a0_v_x a0_v_active most_1 t45_8 o2_9 o5_10 = some r := h
  unfold fair_division_together_f0_p31_p32 at h
  rcases cond_out h with ⟨g11, h⟩ | ⟨g11, h⟩
  ·refine SCode.cond_t rfl g11 (SCode.seq ?_)
   refine SCode.region (show SOps _ _ _ [0] _ _ from ?_)
   refine sa rfl rfl rfl rfl rfl (SOps.nil (SCode.seq ?_))
   refine SCode.region (show SOps _ _ _ [0, 1] _ _ from ?_)
   refine sm rfl rfl rfl rfl rfl (sa rfl rfl rfl rfl rfl (SOps.nil (SCode.block (SCode.sub (st' := ⟨[(0, .c (.ptr 0 0)), (5, ci 0), (6, ci most_1)], [.box [vI a0_v_caps, .fnp 31 1, .own 3 a0_v_x.length, .own 4 a0_v_active.length, .own 5 o5_10.length], .box [.int .i64 a0b_Nodes, .own 2 o2_9.length], aSArc 63 o2_9, aI 3 a0_v_x, aB 4 a0_v_active, aI 3 o5_10]⟩) (sub_gen [0, 1, 2, 3, 4, 5] rfl rfl (zall rfl rfl) ⟨bx rfl rfl rfl, bx rfl rfl rfl, oa rfl, oa rfl, oa rfl, oa rfl, trivial⟩) ?_))))
   refine (SCode.loop (σ := Nat × (Int × Int × (List SArc) × (List Int))) (S := fun s => ⟨[(0, .c (.ptr 0 0)), (5, ci s.2.1), (6, ci s.2.2.1)], [.box [vI a0_v_caps, .fnp 31 1, .own 3 a0_v_x.length, .own 4 a0_v_active.length, .own 5 s.2.2.2.2.length], .box [.int .i64 a0b_Nodes, .own 2 s.2.2.2.1.length], aSArc 63 s.2.2.2.1, aI 3 a0_v_x, aB 4 a0_v_active, aI 3 s.2.2.2.2]⟩) (g := fun s => fair_division_together_f0_p31_l27 F a0_v_caps a0b_Nodes a0_v_x a0_v_active s.1 s.2.1 s.2.2.1 s.2.2.2.1 s.2.2.2.2 = some r) (μ := fun s => s.1) (F, (0, most_1, o2_9, o5_10)) h ?_)
   rintro ⟨n_27, ⟨d_19, bad_20, o2_21, o5_22⟩⟩ h
   replace h : fair_division_together_f0_p31_l27 F a0_v_caps a0b_Nodes a0_v_x a0_v_active n_27 d_19 bad_20 o2_21 o5_22 = some r := h
   show SCode _ _ _ ⟨[(0, .c (.ptr 0 0)), (5, ci d_19), (6, ci bad_20)], [.box [vI a0_v_caps, .fnp 31 1, .own 3 a0_v_x.length, .own 4 a0_v_active.length, .own 5 o5_22.length], .box [.int .i64 a0b_Nodes, .own 2 o2_21.length], aSArc 63 o2_21, aI 3 a0_v_x, aB 4 a0_v_active, aI 3 o5_22]⟩ _
   cases n_27 with
   | zero => cases h
   | succ n_27 =>
    replace h : fair_division_together_f0_p31_b27 F a0_v_caps a0b_Nodes a0_v_x a0_v_active (fun d_19 bad_20 o2_21 o5_22 => fair_division_together_f0_p31_l27 F a0_v_caps a0b_Nodes a0_v_x a0_v_active n_27 d_19 bad_20 o2_21 o5_22) d_19 bad_20 o2_21 o5_22 = some r := h
    unfold fair_division_together_f0_p31_b27 at h
    refine SCode.seq (SCode.seq ?_)
    refine SCode.region (show SOps _ _ _ [0, 1, 2, 3] _ _ from ?_)
    refine sm rfl rfl rfl rfl rfl (sm rfl rfl rfl rfl rfl (sq rfl rfl rfl (q_sub rfl rfl rfl) (sq rfl rfl rfl (q_gtr rfl rfl rfl) (SOps.nil ?_))))
    rcases cond_out h with ⟨g28, h⟩ | ⟨g28, h⟩
    ·refine SCode.cond_t rfl g28 (SCode.skip (SCode.block (SCode.seq ?_)))
     refine SCode.region (show SOps _ _ _ [0, 1, 2, 3, 4, 5, 6] _ _ from ?_)
     refine sm rfl rfl rfl rfl rfl (sm rfl rfl rfl rfl rfl (sm rfl rfl rfl rfl rfl (sq rfl rfl rfl (q_sub rfl rfl rfl) (sq rfl rfl rfl (q_quo rfl rfl rfl (by decide)) (sq rfl rfl rfl (q_add rfl rfl rfl) (sa rfl rfl rfl rfl rfl (SOps.nil (SCode.seq ?_))))))))
     obtain ⟨c_29, g30, h⟩ := bind_out h
     try dsimp only at h
     refine SCode.region (show SOps _ _ _ [0, 1, 2] _ _ from ?_)
     refine sm rfl rfl rfl rfl rfl (sm rfl rfl rfl rfl rfl (se rfl rfl (e_call (fair_division_raisable_f0_p31_ok F a0_v_caps a0b_Nodes o2_21 a0_v_x a0_v_active o5_22 (IntKind.wrap .i64 (d_19 + IntKind.wrap .i64 (Int.tdiv (IntKind.wrap .i64 (bad_20 - d_19)) 2))) c_29 g30) [0, 1, 2, 3, 4, 5] rfl fn50 rfl rfl rfl rfl rfl rfl rfl rfl) (SOps.nil ?_)))
     rcases cond_out h with ⟨g31, h⟩ | ⟨g31, h⟩
     ·refine SCode.cond_t rfl g31 ?_
      refine SCode.region (show SOps _ _ _ [0, 1] _ _ from ?_)
      refine sm rfl rfl rfl rfl rfl (sa rfl rfl rfl rfl rfl (SOps.nil ?_))
      exact ⟨(n_27, (IntKind.wrap .i64 (d_19 + IntKind.wrap .i64 (Int.tdiv (IntKind.wrap .i64 (bad_20 - d_19)) 2)), bad_20, c_29.2.1, c_29.2.2)), h, Nat.lt_succ_self n_27, sub_gen [0, 1, 2, 3, 4, 5] rfl rfl (zall rfl rfl) ⟨bx rfl rfl rfl, bx rfl rfl rfl, oa rfl, oa rfl, oa rfl, oa rfl, trivial⟩⟩
     refine SCode.cond_f rfl g31 ?_
     refine SCode.region (show SOps _ _ _ [0, 1] _ _ from ?_)
     refine sm rfl rfl rfl rfl rfl (sa rfl rfl rfl rfl rfl (SOps.nil ?_))
     exact ⟨(n_27, (d_19, IntKind.wrap .i64 (d_19 + IntKind.wrap .i64 (Int.tdiv (IntKind.wrap .i64 (bad_20 - d_19)) 2)), c_29.2.1, c_29.2.2)), h, Nat.lt_succ_self n_27, sub_gen [0, 1, 2, 3, 4, 5] rfl rfl (zall rfl rfl) ⟨bx rfl rfl rfl, bx rfl rfl rfl, oa rfl, oa rfl, oa rfl, oa rfl, trivial⟩⟩
    refine SCode.cond_f rfl g28 (SCode.exit ?_)
    exact ⟨(d_19, o2_21, o5_22), h, sub_gen [0, 1, 2, 3, 4, 5] rfl rfl (zall rfl rfl) ⟨bx rfl rfl rfl, bx rfl rfl rfl, oa rfl, oa rfl, oa rfl, oa rfl, trivial⟩⟩
  refine SCode.cond_f rfl g11 (SCode.skip ?_)
  exact ⟨(most_1, o2_9, o5_10), h, sub_gen [0, 1, 2, 3, 4, 5] rfl rfl (zall rfl rfl) ⟨bx rfl rfl rfl, bx rfl rfl rfl, oa rfl, oa rfl, oa rfl, oa rfl, trivial⟩⟩
 rintro ⟨d_2, o2_3, o5_4⟩ h
 show SCode _ _ _ ⟨[(0, .c (.ptr 0 0)), (5, ci d_2)], [.box [vI a0_v_caps, .fnp 31 1, .own 3 a0_v_x.length, .own 4 a0_v_active.length, .own 5 o5_4.length], .box [.int .i64 a0b_Nodes, .own 2 o2_3.length], aSArc 63 o2_3, aI 3 a0_v_x, aB 4 a0_v_active, aI 3 o5_4]⟩ _
 replace h : fair_division_together_f0_p31_p7 F a0_v_caps a0b_Nodes a0_v_x a0_v_active d_2 o2_3 o5_4 = some r := h
 unfold fair_division_together_f0_p31_p7 at h
 refine SCode.seq ?_
 obtain ⟨c_5, g6, h⟩ := bind_out h
 try dsimp only at h
 refine SCode.region (show SOps _ _ _ [0, 1, 2] _ _ from ?_)
 refine sm rfl rfl rfl rfl rfl (sm rfl rfl rfl rfl rfl (se rfl rfl (e_call (fair_division_raise_f0_p31_ok F a0_v_caps a0b_Nodes o2_3 a0_v_x a0_v_active o5_4 d_2 c_5 g6) [0, 1, 2, 3, 4, 5] rfl fn51 rfl rfl rfl rfl rfl rfl rfl rfl) (SOps.nil (SCode.sub (st' := ⟨[(0, .c (.ptr 0 0))], [.box [vI a0_v_caps, .fnp 31 1, .own 3 a0_v_x.length, .own 4 a0_v_active.length, .own 5 c_5.length], .box [.int .i64 a0b_Nodes, .own 2 o2_3.length], aSArc 63 o2_3, aI 3 a0_v_x, aB 4 a0_v_active, aI 3 c_5]⟩) (sub_gen [0, 1, 2, 3, 4, 5] rfl rfl (zall rfl rfl) ⟨bx rfl rfl rfl, bx rfl rfl rfl, oa rfl, oa rfl, oa rfl, oa rfl, trivial⟩) ?_))))
 refine SCode.draw (s' := [(72, .c (.own 5 c_5.length)), (71, .c (.ptr 0 4)), (70, .c (.ptr 0 0)), (69, .c (.ptr 0 0)), (68, .c (.own 3 a0_v_x.length)), (67, .c (.ptr 0 2)), (66, .c (.ptr 0 0)), (65, .c (.ptr 0 0)), (0, .c (.ptr 0 0))]) mixed [[], [0], [0, 1], [0, 1, 2], [], [4], [4, 5], [4, 5, 6], [0, 1, 2, 3, 4, 5, 6, 7]] 8 1 rfl rfl ?_ ?_
 ·refine QChain.run rfl (.plain rfl) rfl (q_move rfl rfl) (QChain.run rfl (.plain rfl) rfl (q_nilCheck rfl rfl rfl) (QChain.run rfl (.plain rfl) rfl (q_field_ptr rfl rfl fd68_2) (QChain.run rfl (.plain rfl) rfl (q_load_ptr rfl rfl rfl rfl ty22) (QChain.run rfl (.plain rfl) rfl (q_move rfl rfl) (QChain.run rfl (.plain rfl) rfl (q_nilCheck rfl rfl rfl) (QChain.run rfl (.plain rfl) rfl (q_field_ptr rfl rfl fd68_4) (QChain.run rfl (.plain rfl) rfl (q_load_ptr rfl rfl rfl rfl ty22) ?_)))))))
  exact QChain.nil _ _
 refine (show SOps _ _ _ [8] _ _ from ?_)
 refine se rfl rfl (e_copyL (c := (cInt .i64)) (d0 := 0) (l := a0_v_x) (s := c_5) (lo := 0) (n := (a0_v_x).length) (m := min (c_5).length ((a0_v_x).length)) rfl rfl rfl (.inr ⟨rfl, rfl⟩) rfl rfl (.inr (.inr ⟨_, _, rfl, rfl⟩)) sl22 rfl oneInt (Nat.le_of_eq (Nat.zero_add _)) rfl) (SOps.sub (st' := ⟨[], [.box [vI a0_v_caps, .fnp 31 1, .own 3 (copyL a0_v_x 0 ((a0_v_x).length) c_5).length, .own 4 a0_v_active.length, .own 5 c_5.length], .box [.int .i64 a0b_Nodes, .own 2 o2_3.length], aSArc 63 o2_3, aI 3 (copyL a0_v_x 0 ((a0_v_x).length) c_5), aB 4 a0_v_active, aI 3 c_5]⟩) (sub_gen [0, 1, 2, 3, 4, 5] rfl rfl trivial ⟨⟨_, rfl, ⟨ii rfl rfl, ii rfl rfl, .inl ⟨rfl, congrArg (Cell.own 3) (copyL_len (l := a0_v_x) (s := c_5) (lo := 0) (n := (a0_v_x).length) (Nat.le_of_eq (Nat.zero_add _))).symm⟩, ii rfl rfl, ii rfl rfl, trivial⟩⟩, bx rfl rfl rfl, oa rfl, oa rfl, oa rfl, oa rfl, trivial⟩) (SOps.nil ?_))
 obtain rfl := Option.some.inj h
 exact ⟨⟨[], [.box [vI a0_v_caps, .fnp 31 1, .own 3 (copyL a0_v_x 0 ((a0_v_x).length) c_5).length, .own 4 a0_v_active.length, .own 5 c_5.length], .box [.int .i64 a0b_Nodes, .own 2 o2_3.length], aSArc 63 o2_3, aI 3 (copyL a0_v_x 0 ((a0_v_x).length) c_5), aB 4 a0_v_active, aI 3 c_5]⟩, _, sub_gen [0, 1, 2, 3, 4, 5] rfl rfl trivial ⟨bx rfl rfl rfl, bx rfl rfl rfl, oa rfl, oa rfl, oa rfl, oa rfl, trivial⟩, resA0 rfl, ⟨rfl, rfl⟩⟩
end Go.Proofs.Ytfefnffdocmlmaa.W
