/- Written by a program of ours (wip/eng/gen.py): the functions compute their models. -/
import Derived.Test.YtfefnffdocmlmaaFacts
import Derived.Test.YtfefnffdocmlmaaV7x2
namespace Go.Proofs.Ytfefnffdocmlmaa.W
open Go Go.Proofs Go.Proofs.Ytfefnffdocmlmaa.E Go.Proofs.Ytfefnffdocmlmaa.M
set_option linter.unusedVariables false
set_option maxRecDepth 100000
set_option maxHeartbeats 8000000
theorem plan_network_own_ok (F : Nat) (a0_p : SProblem) (r : SNet) (h : plan_network_own F a0_p = some r) :
  SFun Try.prog 27 [] [.a (bSProblem a0_p)] (fun x os => x = .a [.int .i64 r.Nodes, .own 0 r.Arcs.length] ∧ os = [aSArc 63 r.Arcs, .box [.int .i64 r.Nodes, .own 0 r.Arcs.length]]) := by
 refine SFun.of (n := 136) Try.func27 rfl rfl rfl ?_
 unfold plan_network_own at h
 show SCode _ _ _ ⟨[(0, .a (bSProblem a0_p))], []⟩ _
 refine SCode.seq (SCode.region (se rfl rfl (e_box rfl rfl rfl rfl rfl rfl) (se rfl rfl (e_alloc rfl rfl rfl z49) (SOps.sub (st' := ⟨[(1, .c (.ptr 0 0)), (2, .c (.ptr 1 0))], [.box (bSProblem a0_p), .box [.int .i64 0, .own 2 (([] : List SArc)).length], aSArc 63 (([] : List SArc))]⟩) (Sub.trans (Sub.nilBox (id := 1) (j := 1) (T := 63) (k := 3) (g := gL cSArc dSArc ([] : List SArc)) rfl rfl) (sub_gen [0, 1, 2] rfl rfl (zall rfl rfl) ⟨bx rfl rfl rfl, bx rfl rfl rfl, oa rfl, trivial⟩)) (SOps.nil (SCode.seq (SCode.drawK mixed [[], [0], [0, 1], [], [3], [3, 4], [3, 4, 5], [0, 1, 2], [0, 1, 2, 3, 4, 5, 6, 7]] 9 0 rfl rfl (qr rfl rfl (q_field_ptr rfl rfl fd26_0) (qr rfl rfl (q_load_ptr rfl rfl rfl rfl ty22) (qr rfl rfl (q_len_vec rfl rfl sl22) (qr rfl rfl (q_field_ptr rfl rfl fd26_4) (qr rfl rfl (q_load_ptr rfl rfl rfl rfl ty24) (qr rfl rfl (q_len_vec rfl rfl sl24) (qr rfl rfl (q_add rfl rfl rfl) (qr rfl rfl (q_assign rfl rfl) ?_)))))))))))))))
 refine qr rfl rfl (q_assign rfl rfl) (QK.nil (SOps.sub (st' := ⟨[(1, .c (.ptr 0 0)), (2, .c (.ptr 1 0)), (3, ci (((a0_p.Parents).length : Int))), (4, ci (IntKind.wrap .i64 (2 + ((a0_p.Demands).length : Int))))], [.box (bSProblem a0_p), .box [.int .i64 0, .own 2 (([] : List SArc)).length], aSArc 63 (([] : List SArc))]⟩) (sub_gen [0, 1, 2] rfl rfl (zall rfl rfl) ⟨bx rfl rfl rfl, bx rfl rfl rfl, oa rfl, trivial⟩) (SOps.nil (SCode.seq (SCode.region (sm rfl rfl (sq rfl rfl (q_field_ptr rfl rfl fd26_1) (sq rfl rfl (q_load_ptr rfl rfl rfl rfl ty23) (sq rfl rfl (q_len_vec rfl rfl sl23) (sm rfl rfl (sq rfl rfl (q_mul rfl rfl rfl) (sq rfl rfl (q_add rfl rfl rfl) (sq rfl rfl (q_build2 rfl rfl pl49 rfl) (se rfl rfl (e_alloc rfl rfl rfl z49) (se rfl rfl (e_store_box rfl rfl rfl rfl rfl ty49 rfl rfl rfl rfl) ?_)))))))))))))))
 refine SOps.sub (st' := ⟨[(1, .c (.ptr 0 0)), (2, .c (.ptr 1 0)), (3, ci (((a0_p.Parents).length : Int))), (4, ci (IntKind.wrap .i64 (2 + ((a0_p.Demands).length : Int)))), (5, .c (.ptr 3 0))], [.box (bSProblem a0_p), .box [.int .i64 0, .own 2 (([] : List SArc)).length], aSArc 63 (([] : List SArc)), .box [.int .i64 (IntKind.wrap .i64 (IntKind.wrap .i64 (2 + ((a0_p.Demands).length : Int)) + IntKind.wrap .i64 (((a0_p.Caps).length : Int) * ((a0_p.Parents).length : Int)))), .own 4 (([] : List SArc)).length], aSArc 63 (([] : List SArc))]⟩) (Sub.trans (Sub.nilBox (id := 3) (j := 1) (T := 63) (k := 3) (g := gL cSArc dSArc ([] : List SArc)) rfl rfl) (sub_gen [0, 1, 2, 3, 4] rfl rfl (zall rfl rfl) ⟨bx rfl rfl rfl, bx rfl rfl rfl, oa rfl, bx rfl rfl rfl, oa rfl, trivial⟩)) (SOps.nil ?_)
 let S153 := fun (o4_1 : List SArc) => (⟨[(1, .c (.ptr 0 0)), (2, .c (.ptr 1 0)), (3, ci (((a0_p.Parents).length : Int))), (4, ci (IntKind.wrap .i64 (2 + ((a0_p.Demands).length : Int)))), (5, .c (.ptr 3 0))], [.box (bSProblem a0_p), .box [.int .i64 0, .own 2 (([] : List SArc)).length], aSArc 63 (([] : List SArc)), .box [.int .i64 (IntKind.wrap .i64 (IntKind.wrap .i64 (2 + ((a0_p.Demands).length : Int)) + IntKind.wrap .i64 (((a0_p.Caps).length : Int) * ((a0_p.Parents).length : Int)))), .own 4 o4_1.length], aSArc 63 o4_1]⟩ : St)
 refine SCode.join (σ := (List SArc)) (S := fun s => (S153 s)) (g := fun s => plan_network_own_p180 F a0_p s = some r) ?_ ?_
 rotate_left
 ·refine SCode.seq (SCode.region (sq rfl rfl (q_field_ptr rfl rfl fd26_4) (sq rfl rfl (q_load_ptr rfl rfl rfl rfl ty24) (sq rfl rfl (q_len_vec rfl rfl sl24) (sm rfl rfl (SOps.nil (SCode.block ?_)))))))
  let S152 := fun (t35_183 : Int) => fun (o4_184 : List SArc) => (⟨[(1, .c (.ptr 0 0)), (2, .c (.ptr 1 0)), (3, ci (((a0_p.Parents).length : Int))), (4, ci (IntKind.wrap .i64 (2 + ((a0_p.Demands).length : Int)))), (5, .c (.ptr 3 0)), (34, ci (((a0_p.Demands).length : Int))), (35, ci t35_183)], [.box (bSProblem a0_p), .box [.int .i64 0, .own 2 (([] : List SArc)).length], aSArc 63 (([] : List SArc)), .box [.int .i64 (IntKind.wrap .i64 (IntKind.wrap .i64 (2 + ((a0_p.Demands).length : Int)) + IntKind.wrap .i64 (((a0_p.Caps).length : Int) * ((a0_p.Parents).length : Int)))), .own 4 o4_184.length], aSArc 63 o4_184]⟩ : St)
  refine SCode.sub (st' := (S152 0 (([] : List SArc)))) (sub_gen [0, 1, 2, 3, 4] rfl rfl (zall rfl rfl) ⟨bx rfl rfl rfl, bx rfl rfl rfl, oa rfl, bx rfl rfl rfl, oa rfl, trivial⟩) ?_
  refine (SCode.loop (σ := Nat × (Int × (List SArc))) (S := fun s => (S152 s.2.1 s.2.2)) (g := fun s => plan_network_own_l187 F a0_p s.1 s.2.1 s.2.2 = some r) (μ := fun s => s.1) (F, (0, ([] : List SArc))) h ?_)
  rintro ⟨n_187, ⟨t35_183, o4_184⟩⟩ h
  try dsimp only at h
  show SCode _ _ _ (S152 t35_183 o4_184) _
  cases n_187 with
  | zero => cases h
  | succ n_187 =>
   rw [plan_network_own_l187] at h
   unfold plan_network_own_b187 at h
   refine SCode.seq (SCode.region (sq rfl rfl (q_lss rfl rfl rfl) (SOps.nil (SCode.seq ?_))))
   rcases cond_out h with ⟨g188, h⟩ | ⟨g188, h⟩
   ·refine SCode.cond_t rfl g188 (SCode.skip (SCode.seq (SCode.block (SCode.seq (SCode.region (sm rfl rfl (sa rfl rfl (SOps.nil ?_))))))))
    obtain ⟨g189, h⟩ := guard_out h
    refine SCode.region (sq rfl rfl (q_field_ptr rfl rfl fd49_1) (sq rfl rfl (q_load_ptr rfl rfl rfl rfl ty47) (sm rfl rfl (sq rfl rfl (q_add rfl rfl rfl) (sq rfl rfl (q_build2 rfl rfl pl63 rfl) (sq rfl rfl (q_bsliceL (c := cSArc) (d0 := dSArc) [SArc.mk 0 (IntKind.wrap .i64 (2 + t35_183)) 0] rfl rfl sl47 z63 rfl rfl rfl rfl rfl rfl rfl) (se rfl rfl (e_appendL (c := cSArc) (d0 := dSArc) (l := o4_184) (l2 := [SArc.mk 0 (IntKind.wrap .i64 (2 + t35_183)) 0]) rfl rfl rfl rfl rfl rfl (.inl rfl) sl47 z63 rfl rfl oneSArc g189.1 g189.2) (sq rfl rfl (q_field_ptr rfl rfl fd49_1) (se rfl rfl (e_store_box rfl rfl rfl rfl rfl ty47 rfl rfl rfl rfl) (SOps.sub (st' := ⟨[(1, .c (.ptr 0 0)), (2, .c (.ptr 1 0)), (3, ci (((a0_p.Parents).length : Int))), (4, ci (IntKind.wrap .i64 (2 + ((a0_p.Demands).length : Int)))), (5, .c (.ptr 3 0)), (34, ci (((a0_p.Demands).length : Int))), (35, ci t35_183)], [.box (bSProblem a0_p), .box [.int .i64 0, .own 2 (([] : List SArc)).length], aSArc 63 (([] : List SArc)), .box [.int .i64 (IntKind.wrap .i64 (IntKind.wrap .i64 (2 + ((a0_p.Demands).length : Int)) + IntKind.wrap .i64 (((a0_p.Caps).length : Int) * ((a0_p.Parents).length : Int)))), .own 4 (o4_184 ++ ([SArc.mk 0 (IntKind.wrap .i64 (2 + t35_183)) 0])).length], aSArc 63 (o4_184 ++ ([SArc.mk 0 (IntKind.wrap .i64 (2 + t35_183)) 0]))]⟩) (sub_gen [0, 1, 2, 3, 5] rfl rfl (zall rfl rfl) ⟨bx rfl rfl rfl, bx rfl rfl rfl, oa rfl, bx rfl rfl rfl, oa rfl, trivial⟩) (SOps.nil (SCode.region (sq rfl rfl (q_add rfl rfl rfl) (sm rfl rfl (SOps.nil ?_)))))))))))))))
    exact ⟨(n_187, (IntKind.wrap .i64 (t35_183 + 1), o4_184 ++ ([SArc.mk 0 (IntKind.wrap .i64 (2 + t35_183)) 0]))), h, Nat.lt_succ_self n_187, sub_gen [0, 1, 2, 3, 4] rfl rfl (zall rfl rfl) ⟨bx rfl rfl rfl, bx rfl rfl rfl, oa rfl, bx rfl rfl rfl, oa rfl, trivial⟩⟩
   refine SCode.cond_f rfl g188 (SCode.exit ?_)
   exact ⟨o4_184, h, sub_gen [0, 1, 2, 3, 4] rfl rfl (zall rfl rfl) ⟨bx rfl rfl rfl, bx rfl rfl rfl, oa rfl, bx rfl rfl rfl, oa rfl, trivial⟩⟩
 rintro o4_1 h
 show SCode _ _ _ (S153 o4_1) _
 try dsimp only at h
 unfold plan_network_own_p180 at h
 let S151 := fun (o4_2 : List SArc) => (⟨[(1, .c (.ptr 0 0)), (2, .c (.ptr 1 0)), (3, ci (((a0_p.Parents).length : Int))), (4, ci (IntKind.wrap .i64 (2 + ((a0_p.Demands).length : Int)))), (5, .c (.ptr 3 0))], [.box (bSProblem a0_p), .box [.int .i64 0, .own 2 (([] : List SArc)).length], aSArc 63 (([] : List SArc)), .box [.int .i64 (IntKind.wrap .i64 (IntKind.wrap .i64 (2 + ((a0_p.Demands).length : Int)) + IntKind.wrap .i64 (((a0_p.Caps).length : Int) * ((a0_p.Parents).length : Int)))), .own 4 o4_2.length], aSArc 63 o4_2]⟩ : St)
 refine SCode.join (σ := (List SArc)) (S := fun s => (S151 s)) (g := fun s => plan_network_own_p92 F a0_p s = some r) ?_ ?_
 rotate_left
 ·refine SCode.seq (SCode.region (sq rfl rfl (q_field_ptr rfl rfl fd26_4) (sq rfl rfl (q_load_ptr rfl rfl rfl rfl ty24) (sq rfl rfl (q_len_vec rfl rfl sl24) (sm rfl rfl (SOps.nil (SCode.block ?_)))))))
  let S150 := fun (t50_121 : Int) => fun (o4_122 : List SArc) => (⟨[(1, .c (.ptr 0 0)), (2, .c (.ptr 1 0)), (3, ci (((a0_p.Parents).length : Int))), (4, ci (IntKind.wrap .i64 (2 + ((a0_p.Demands).length : Int)))), (5, .c (.ptr 3 0)), (48, .c (vSDemand a0_p.Demands)), (49, ci (((a0_p.Demands).length : Int))), (50, ci t50_121)], [.box (bSProblem a0_p), .box [.int .i64 0, .own 2 (([] : List SArc)).length], aSArc 63 (([] : List SArc)), .box [.int .i64 (IntKind.wrap .i64 (IntKind.wrap .i64 (2 + ((a0_p.Demands).length : Int)) + IntKind.wrap .i64 (((a0_p.Caps).length : Int) * ((a0_p.Parents).length : Int)))), .own 4 o4_122.length], aSArc 63 o4_122]⟩ : St)
  refine SCode.sub (st' := (S150 0 o4_1)) (sub_gen [0, 1, 2, 3, 4] rfl rfl (zall rfl rfl) ⟨bx rfl rfl rfl, bx rfl rfl rfl, oa rfl, bx rfl rfl rfl, oa rfl, trivial⟩) ?_
  refine (SCode.loop (σ := Nat × (Int × (List SArc))) (S := fun s => (S150 s.2.1 s.2.2)) (g := fun s => plan_network_own_l151 F a0_p s.1 s.2.1 s.2.2 = some r) (μ := fun s => s.1) (F, (0, o4_1)) h ?_)
  rintro ⟨n_151, ⟨t50_121, o4_122⟩⟩ h
  try dsimp only at h
  show SCode _ _ _ (S150 t50_121 o4_122) _
  cases n_151 with
  | zero => cases h
  | succ n_151 =>
   rw [plan_network_own_l151] at h
   unfold plan_network_own_b151 at h
   refine SCode.seq (SCode.region (sq rfl rfl (q_lss rfl rfl rfl) (SOps.nil (SCode.seq ?_))))
   rcases cond_out h with ⟨g152, h⟩ | ⟨g152, h⟩
   ·refine SCode.cond_t rfl g152 (SCode.skip ?_)
    let S149 := fun (o4_153 : List SArc) => (⟨[(1, .c (.ptr 0 0)), (2, .c (.ptr 1 0)), (3, ci (((a0_p.Parents).length : Int))), (4, ci (IntKind.wrap .i64 (2 + ((a0_p.Demands).length : Int)))), (5, .c (.ptr 3 0)), (48, .c (vSDemand a0_p.Demands)), (49, ci (((a0_p.Demands).length : Int))), (50, ci t50_121)], [.box (bSProblem a0_p), .box [.int .i64 0, .own 2 (([] : List SArc)).length], aSArc 63 (([] : List SArc)), .box [.int .i64 (IntKind.wrap .i64 (IntKind.wrap .i64 (2 + ((a0_p.Demands).length : Int)) + IntKind.wrap .i64 (((a0_p.Caps).length : Int) * ((a0_p.Parents).length : Int)))), .own 4 o4_153.length], aSArc 63 o4_153]⟩ : St)
    refine SCode.join (σ := (List SArc)) (S := fun s => (S149 s)) (g := fun s => plan_network_own_p154 t50_121 (fun t50_121 o4_122 => plan_network_own_l151 F a0_p n_151 t50_121 o4_122) s = some r) ?_ ?_
    rotate_left
    ·refine SCode.block (SCode.seq ?_)
     obtain ⟨g155, h⟩ := guard_out h
     refine SCode.region (sm rfl rfl (sq rfl rfl (q_index_vec rfl rfl rfl sl24 rfl g155.1 g155.2) (sq rfl rfl (q_load_eptr_all rfl rfl rfl ty39) (se rfl rfl (e_alloc rfl rfl rfl z39) (sa rfl rfl (se rfl rfl (e_store_box rfl rfl rfl rfl rfl ty39 rfl rfl rfl rfl) (SOps.nil (SCode.seq (SCode.region (sq rfl rfl (q_field_ptr rfl rfl fd26_1) (sq rfl rfl (q_load_ptr rfl rfl rfl rfl ty23) (sq rfl rfl (q_len_vec rfl rfl sl23) (sm rfl rfl (SOps.nil (SCode.block ?_)))))))))))))))
     let S148 := fun (t58_163 : Int) => fun (o4_164 : List SArc) => (⟨[(1, .c (.ptr 0 0)), (2, .c (.ptr 1 0)), (3, ci (((a0_p.Parents).length : Int))), (4, ci (IntKind.wrap .i64 (2 + ((a0_p.Demands).length : Int)))), (5, .c (.ptr 3 0)), (7, ci t50_121), (8, .c (.ptr 5 0)), (48, .c (vSDemand a0_p.Demands)), (49, ci (((a0_p.Demands).length : Int))), (50, ci t50_121), (57, ci (((a0_p.Caps).length : Int))), (58, ci t58_163)], [.box (bSProblem a0_p), .box [.int .i64 0, .own 2 (([] : List SArc)).length], aSArc 63 (([] : List SArc)), .box [.int .i64 (IntKind.wrap .i64 (IntKind.wrap .i64 (2 + ((a0_p.Demands).length : Int)) + IntKind.wrap .i64 (((a0_p.Caps).length : Int) * ((a0_p.Parents).length : Int)))), .own 4 o4_164.length], aSArc 63 o4_164, .box (bSDemand (a0_p.Demands.getD t50_121.toNat dSDemand))]⟩ : St)
     refine SCode.sub (st' := (S148 0 o4_122)) (sub_gen [0, 1, 2, 3, 4, 5] rfl rfl (zall rfl rfl) ⟨bx rfl rfl rfl, bx rfl rfl rfl, oa rfl, bx rfl rfl rfl, oa rfl, bx rfl rfl rfl, trivial⟩) ?_
     refine (SCode.loop (σ := Nat × (Int × (List SArc))) (S := fun s => (S148 s.2.1 s.2.2)) (g := fun s => plan_network_own_l172 F a0_p t50_121 (fun t50_121 o4_122 => plan_network_own_l151 F a0_p n_151 t50_121 o4_122) s.1 s.2.1 s.2.2 = some r) (μ := fun s => s.1) (F, (0, o4_122)) h ?_)
     rintro ⟨n_172, ⟨t58_163, o4_164⟩⟩ h
     try dsimp only at h
     show SCode _ _ _ (S148 t58_163 o4_164) _
     cases n_172 with
     | zero => cases h
     | succ n_172 =>
      rw [plan_network_own_l172] at h
      unfold plan_network_own_b172 at h
      refine SCode.seq (SCode.region (sq rfl rfl (q_lss rfl rfl rfl) (SOps.nil (SCode.seq ?_))))
      rcases cond_out h with ⟨g173, h⟩ | ⟨g173, h⟩
      ·refine SCode.cond_t rfl g173 (SCode.skip ?_)
       let S147 := fun (o4_174 : List SArc) => (⟨[(1, .c (.ptr 0 0)), (2, .c (.ptr 1 0)), (3, ci (((a0_p.Parents).length : Int))), (4, ci (IntKind.wrap .i64 (2 + ((a0_p.Demands).length : Int)))), (5, .c (.ptr 3 0)), (7, ci t50_121), (8, .c (.ptr 5 0)), (48, .c (vSDemand a0_p.Demands)), (49, ci (((a0_p.Demands).length : Int))), (50, ci t50_121), (57, ci (((a0_p.Caps).length : Int))), (58, ci t58_163)], [.box (bSProblem a0_p), .box [.int .i64 0, .own 2 (([] : List SArc)).length], aSArc 63 (([] : List SArc)), .box [.int .i64 (IntKind.wrap .i64 (IntKind.wrap .i64 (2 + ((a0_p.Demands).length : Int)) + IntKind.wrap .i64 (((a0_p.Caps).length : Int) * ((a0_p.Parents).length : Int)))), .own 4 o4_174.length], aSArc 63 o4_174, .box (bSDemand (a0_p.Demands.getD t50_121.toNat dSDemand))]⟩ : St)
       refine SCode.join (σ := (List SArc)) (S := fun s => (S147 s)) (g := fun s => plan_network_own_p175 t58_163 (fun t58_163 o4_164 => plan_network_own_l172 F a0_p t50_121 (fun t50_121 o4_122 => plan_network_own_l151 F a0_p n_151 t50_121 o4_122) n_172 t58_163 o4_164) s = some r) ?_ ?_
       rotate_left
       ·refine SCode.block (SCode.seq (SCode.region (sm rfl rfl (sa rfl rfl (SOps.nil (SCode.seq ?_))))))
        obtain ⟨c_176, g177, h⟩ := bind_out h
        try dsimp only at h
        refine SCode.region (sq rfl rfl (q_load_ptr_all rfl rfl rfl rfl rfl ty26) (sq rfl rfl (q_load_ptr_all rfl rfl rfl rfl rfl ty39) (sm rfl rfl (sq rfl rfl (q_call (plan_usable_ok F a0_p (a0_p.Demands.getD t50_121.toNat dSDemand) t58_163 c_176 g177) [] rfl fn36 ⟨⟨rfl, rfl⟩, ⟨rfl, rfl⟩, ⟨_, rfl, .inl ⟨rfl, rfl⟩⟩, trivial⟩ (.inl rfl)) (SOps.nil ?_)))))
        rcases cond_out h with ⟨g178, h⟩ | ⟨g178, h⟩
        ·refine SCode.cond_t rfl g178 (SCode.seq (SCode.region (sm rfl rfl (sm rfl rfl (sm rfl rfl (sq rfl rfl (q_mul rfl rfl rfl) (sq rfl rfl (q_add rfl rfl rfl) (sq rfl rfl (q_field_ptr rfl rfl fd39_0) (sq rfl rfl (q_load_ptr rfl rfl rfl rfl ty3) (sq rfl rfl (q_add rfl rfl rfl) (sa rfl rfl (SOps.nil ?_))))))))))))
         obtain ⟨g179, h⟩ := guard_out h
         refine SCode.region (sq rfl rfl (q_field_ptr rfl rfl fd49_1) (sq rfl rfl (q_load_ptr rfl rfl rfl rfl ty47) (sm rfl rfl (sq rfl rfl (q_add rfl rfl rfl) (sm rfl rfl (sq rfl rfl (q_field_ptr rfl rfl fd39_1) (sq rfl rfl (q_load_ptr rfl rfl rfl rfl ty3) (sq rfl rfl (q_field_ptr rfl rfl fd26_3) (sq rfl rfl (q_load_ptr rfl rfl rfl rfl ty3) (sq rfl rfl (q_mul rfl rfl rfl) (sq rfl rfl (q_build2 rfl rfl pl63 rfl) (sq rfl rfl (q_bsliceL (c := cSArc) (d0 := dSArc) [SArc.mk (IntKind.wrap .i64 (2 + t50_121)) (IntKind.wrap .i64 (IntKind.wrap .i64 (IntKind.wrap .i64 (2 + ((a0_p.Demands).length : Int)) + IntKind.wrap .i64 (t58_163 * ((a0_p.Parents).length : Int))) + (a0_p.Demands.getD t50_121.toNat dSDemand).Feeder)) (IntKind.wrap .i64 ((a0_p.Demands.getD t50_121.toNat dSDemand).Max * a0_p.Length))] rfl rfl sl47 z63 rfl rfl rfl rfl rfl rfl rfl) (se rfl rfl (e_appendL (c := cSArc) (d0 := dSArc) (l := o4_164) (l2 := [SArc.mk (IntKind.wrap .i64 (2 + t50_121)) (IntKind.wrap .i64 (IntKind.wrap .i64 (IntKind.wrap .i64 (2 + ((a0_p.Demands).length : Int)) + IntKind.wrap .i64 (t58_163 * ((a0_p.Parents).length : Int))) + (a0_p.Demands.getD t50_121.toNat dSDemand).Feeder)) (IntKind.wrap .i64 ((a0_p.Demands.getD t50_121.toNat dSDemand).Max * a0_p.Length))]) rfl rfl rfl rfl rfl rfl (.inl rfl) sl47 z63 rfl rfl oneSArc g179.1 g179.2) (sq rfl rfl (q_field_ptr rfl rfl fd49_1) (se rfl rfl (e_store_box rfl rfl rfl rfl rfl ty47 rfl rfl rfl rfl) ?_)))))))))))))))
         let y1 := o4_164 ++ ([SArc.mk (IntKind.wrap .i64 (2 + t50_121)) (IntKind.wrap .i64 (IntKind.wrap .i64 (IntKind.wrap .i64 (2 + ((a0_p.Demands).length : Int)) + IntKind.wrap .i64 (t58_163 * ((a0_p.Parents).length : Int))) + (a0_p.Demands.getD t50_121.toNat dSDemand).Feeder)) (IntKind.wrap .i64 ((a0_p.Demands.getD t50_121.toNat dSDemand).Max * a0_p.Length))])
         refine SOps.sub (st' := ⟨[(1, .c (.ptr 0 0)), (2, .c (.ptr 1 0)), (3, ci (((a0_p.Parents).length : Int))), (4, ci (IntKind.wrap .i64 (2 + ((a0_p.Demands).length : Int)))), (5, .c (.ptr 3 0)), (7, ci t50_121), (8, .c (.ptr 5 0)), (48, .c (vSDemand a0_p.Demands)), (49, ci (((a0_p.Demands).length : Int))), (50, ci t50_121), (57, ci (((a0_p.Caps).length : Int))), (58, ci t58_163)], [.box (bSProblem a0_p), .box [.int .i64 0, .own 2 (([] : List SArc)).length], aSArc 63 (([] : List SArc)), .box [.int .i64 (IntKind.wrap .i64 (IntKind.wrap .i64 (2 + ((a0_p.Demands).length : Int)) + IntKind.wrap .i64 (((a0_p.Caps).length : Int) * ((a0_p.Parents).length : Int)))), .own 4 y1.length], aSArc 63 y1, .box (bSDemand (a0_p.Demands.getD t50_121.toNat dSDemand))]⟩) (sub_gen [0, 1, 2, 3, 6, 5] rfl rfl (zall rfl rfl) ⟨bx rfl rfl rfl, bx rfl rfl rfl, oa rfl, bx rfl rfl rfl, oa rfl, bx rfl rfl rfl, trivial⟩) (SOps.nil ?_)
         exact ⟨o4_164 ++ ([SArc.mk (IntKind.wrap .i64 (2 + t50_121)) (IntKind.wrap .i64 (IntKind.wrap .i64 (IntKind.wrap .i64 (2 + ((a0_p.Demands).length : Int)) + IntKind.wrap .i64 (t58_163 * ((a0_p.Parents).length : Int))) + (a0_p.Demands.getD t50_121.toNat dSDemand).Feeder)) (IntKind.wrap .i64 ((a0_p.Demands.getD t50_121.toNat dSDemand).Max * a0_p.Length))]), h, sub_gen [0, 1, 2, 3, 4, 5] rfl rfl (zall rfl rfl) ⟨bx rfl rfl rfl, bx rfl rfl rfl, oa rfl, bx rfl rfl rfl, oa rfl, bx rfl rfl rfl, trivial⟩⟩
        refine SCode.cond_f rfl g178 (SCode.skip ?_)
        exact ⟨o4_164, h, sub_gen [0, 1, 2, 3, 4, 5] rfl rfl (zall rfl rfl) ⟨bx rfl rfl rfl, bx rfl rfl rfl, oa rfl, bx rfl rfl rfl, oa rfl, bx rfl rfl rfl, trivial⟩⟩
       rintro o4_174 h
       show SCode _ _ _ (S147 o4_174) _
       try dsimp only at h
       unfold plan_network_own_p175 at h
       refine SCode.region (sq rfl rfl (q_add rfl rfl rfl) (sm rfl rfl (SOps.nil ?_)))
       exact ⟨(n_172, (IntKind.wrap .i64 (t58_163 + 1), o4_174)), h, Nat.lt_succ_self n_172, sub_gen [0, 1, 2, 3, 4, 5] rfl rfl (zall rfl rfl) ⟨bx rfl rfl rfl, bx rfl rfl rfl, oa rfl, bx rfl rfl rfl, oa rfl, bx rfl rfl rfl, trivial⟩⟩
      refine SCode.cond_f rfl g173 (SCode.exit ?_)
      exact ⟨o4_164, h, sub_gen [0, 1, 2, 3, 4] rfl rfl (zall rfl rfl) ⟨bx rfl rfl rfl, bx rfl rfl rfl, oa rfl, bx rfl rfl rfl, oa rfl, trivial⟩⟩
    rintro o4_153 h
    show SCode _ _ _ (S149 o4_153) _
    try dsimp only at h
    unfold plan_network_own_p154 at h
    refine SCode.region (sq rfl rfl (q_add rfl rfl rfl) (sm rfl rfl (SOps.nil ?_)))
    exact ⟨(n_151, (IntKind.wrap .i64 (t50_121 + 1), o4_153)), h, Nat.lt_succ_self n_151, sub_gen [0, 1, 2, 3, 4] rfl rfl (zall rfl rfl) ⟨bx rfl rfl rfl, bx rfl rfl rfl, oa rfl, bx rfl rfl rfl, oa rfl, trivial⟩⟩
   refine SCode.cond_f rfl g152 (SCode.exit ?_)
   exact ⟨o4_122, h, sub_gen [0, 1, 2, 3, 4] rfl rfl (zall rfl rfl) ⟨bx rfl rfl rfl, bx rfl rfl rfl, oa rfl, bx rfl rfl rfl, oa rfl, trivial⟩⟩
 rintro o4_2 h
 show SCode _ _ _ (S151 o4_2) _
 try dsimp only at h
 unfold plan_network_own_p92 at h
 let S122 := fun (o3_3 : List SArc) => (⟨[(2, .c (.ptr 0 0)), (5, .c (.ptr 2 0))], [.box [.int .i64 0, .own 1 (([] : List SArc)).length], aSArc 63 (([] : List SArc)), .box [.int .i64 (IntKind.wrap .i64 (IntKind.wrap .i64 (2 + ((a0_p.Demands).length : Int)) + IntKind.wrap .i64 (((a0_p.Caps).length : Int) * ((a0_p.Parents).length : Int)))), .own 3 o3_3.length], aSArc 63 o3_3]⟩ : St)
 refine SCode.join (σ := (List SArc)) (S := fun s => (S122 s)) (g := fun s => plan_network_own_p4 a0_p s = some r) ?_ ?_
 rotate_left
 ·refine SCode.seq (SCode.region (sq rfl rfl (q_field_ptr rfl rfl fd26_1) (sq rfl rfl (q_load_ptr rfl rfl rfl rfl ty23) (sq rfl rfl (q_len_vec rfl rfl sl23) (sm rfl rfl (SOps.nil (SCode.block ?_)))))))
  let S121 := fun (t92_33 : Int) => fun (o4_34 : List SArc) => (⟨[(1, .c (.ptr 0 0)), (2, .c (.ptr 1 0)), (3, ci (((a0_p.Parents).length : Int))), (4, ci (IntKind.wrap .i64 (2 + ((a0_p.Demands).length : Int)))), (5, .c (.ptr 3 0)), (90, .c (vR a0_p.Caps)), (91, ci (((a0_p.Caps).length : Int))), (92, ci t92_33)], [.box (bSProblem a0_p), .box [.int .i64 0, .own 2 (([] : List SArc)).length], aSArc 63 (([] : List SArc)), .box [.int .i64 (IntKind.wrap .i64 (IntKind.wrap .i64 (2 + ((a0_p.Demands).length : Int)) + IntKind.wrap .i64 (((a0_p.Caps).length : Int) * ((a0_p.Parents).length : Int)))), .own 4 o4_34.length], aSArc 63 o4_34]⟩ : St)
  refine SCode.sub (st' := (S121 0 o4_2)) (sub_gen [0, 1, 2, 3, 4] rfl rfl (zall rfl rfl) ⟨bx rfl rfl rfl, bx rfl rfl rfl, oa rfl, bx rfl rfl rfl, oa rfl, trivial⟩) ?_
  refine (SCode.loop (σ := Nat × (Int × (List SArc))) (S := fun s => (S121 s.2.1 s.2.2)) (g := fun s => plan_network_own_l63 F a0_p s.1 s.2.1 s.2.2 = some r) (μ := fun s => s.1) (F, (0, o4_2)) h ?_)
  rintro ⟨n_63, ⟨t92_33, o4_34⟩⟩ h
  try dsimp only at h
  show SCode _ _ _ (S121 t92_33 o4_34) _
  cases n_63 with
  | zero => cases h
  | succ n_63 =>
   rw [plan_network_own_l63] at h
   unfold plan_network_own_b63 at h
   refine SCode.seq (SCode.region (sq rfl rfl (q_lss rfl rfl rfl) (SOps.nil (SCode.seq ?_))))
   rcases cond_out h with ⟨g64, h⟩ | ⟨g64, h⟩
   ·refine SCode.cond_t rfl g64 (SCode.skip ?_)
    let S120 := fun (o4_65 : List SArc) => (⟨[(1, .c (.ptr 0 0)), (2, .c (.ptr 1 0)), (3, ci (((a0_p.Parents).length : Int))), (4, ci (IntKind.wrap .i64 (2 + ((a0_p.Demands).length : Int)))), (5, .c (.ptr 3 0)), (90, .c (vR a0_p.Caps)), (91, ci (((a0_p.Caps).length : Int))), (92, ci t92_33)], [.box (bSProblem a0_p), .box [.int .i64 0, .own 2 (([] : List SArc)).length], aSArc 63 (([] : List SArc)), .box [.int .i64 (IntKind.wrap .i64 (IntKind.wrap .i64 (2 + ((a0_p.Demands).length : Int)) + IntKind.wrap .i64 (((a0_p.Caps).length : Int) * ((a0_p.Parents).length : Int)))), .own 4 o4_65.length], aSArc 63 o4_65]⟩ : St)
    refine SCode.join (σ := (List SArc)) (S := fun s => (S120 s)) (g := fun s => plan_network_own_p66 t92_33 (fun t92_33 o4_34 => plan_network_own_l63 F a0_p n_63 t92_33 o4_34) s = some r) ?_ ?_
    rotate_left
    ·refine SCode.block (SCode.seq ?_)
     obtain ⟨g67, h⟩ := guard_out h
     refine SCode.region (sm rfl rfl (sq rfl rfl (q_index_vec rfl rfl rfl sl23 rfl g67.1 g67.2) (sq rfl rfl (q_load_eptr rfl rfl ty22) (sa rfl rfl (sa rfl rfl (SOps.nil (SCode.seq (SCode.region (sm rfl rfl (sm rfl rfl (sm rfl rfl (sq rfl rfl (q_mul rfl rfl rfl) (sq rfl rfl (q_add rfl rfl rfl) (sa rfl rfl (SOps.nil ?_)))))))))))))))
     refine SCode.seq (SCode.region (sq rfl rfl (q_field_ptr rfl rfl fd26_0) (sq rfl rfl (q_load_ptr rfl rfl rfl rfl ty22) (sq rfl rfl (q_len_vec rfl rfl sl22) (sm rfl rfl (SOps.nil (SCode.block ?_)))))))
     let S119 := fun (t105_75 : Int) => fun (o4_76 : List SArc) => (⟨[(1, .c (.ptr 0 0)), (2, .c (.ptr 1 0)), (3, ci (((a0_p.Parents).length : Int))), (4, ci (IntKind.wrap .i64 (2 + ((a0_p.Demands).length : Int)))), (5, .c (.ptr 3 0)), (12, .c (vI (a0_p.Caps.getD t92_33.toNat ([])))), (13, ci (IntKind.wrap .i64 (IntKind.wrap .i64 (2 + ((a0_p.Demands).length : Int)) + IntKind.wrap .i64 (t92_33 * ((a0_p.Parents).length : Int))))), (90, .c (vR a0_p.Caps)), (91, ci (((a0_p.Caps).length : Int))), (92, ci t92_33), (103, .c (vI a0_p.Parents)), (104, ci (((a0_p.Parents).length : Int))), (105, ci t105_75)], [.box (bSProblem a0_p), .box [.int .i64 0, .own 2 (([] : List SArc)).length], aSArc 63 (([] : List SArc)), .box [.int .i64 (IntKind.wrap .i64 (IntKind.wrap .i64 (2 + ((a0_p.Demands).length : Int)) + IntKind.wrap .i64 (((a0_p.Caps).length : Int) * ((a0_p.Parents).length : Int)))), .own 4 o4_76.length], aSArc 63 o4_76]⟩ : St)
     refine SCode.sub (st' := (S119 0 o4_34)) (sub_gen [0, 1, 2, 3, 4] rfl rfl (zall rfl rfl) ⟨bx rfl rfl rfl, bx rfl rfl rfl, oa rfl, bx rfl rfl rfl, oa rfl, trivial⟩) ?_
     refine (SCode.loop (σ := Nat × (Int × (List SArc))) (S := fun s => (S119 s.2.1 s.2.2)) (g := fun s => plan_network_own_l84 a0_p t92_33 (fun t92_33 o4_34 => plan_network_own_l63 F a0_p n_63 t92_33 o4_34) s.1 s.2.1 s.2.2 = some r) (μ := fun s => s.1) (F, (0, o4_34)) h ?_)
     rintro ⟨n_84, ⟨t105_75, o4_76⟩⟩ h
     try dsimp only at h
     show SCode _ _ _ (S119 t105_75 o4_76) _
     cases n_84 with
     | zero => cases h
     | succ n_84 =>
      rw [plan_network_own_l84] at h
      unfold plan_network_own_b84 at h
      refine SCode.seq (SCode.region (sq rfl rfl (q_lss rfl rfl rfl) (SOps.nil (SCode.seq ?_))))
      rcases cond_out h with ⟨g85, h⟩ | ⟨g85, h⟩
      ·refine SCode.cond_t rfl g85 (SCode.skip (SCode.seq (SCode.block (SCode.seq ?_))))
       obtain ⟨g86, h⟩ := guard_out h
       refine SCode.region (sm rfl rfl (sq rfl rfl (q_index_vec rfl rfl rfl sl22 rfl g86.1 g86.2) (sq rfl rfl (q_load_eptr rfl rfl ty3) (sa rfl rfl (sa rfl rfl (SOps.nil (SCode.seq (SCode.region (sa rfl rfl (SOps.nil ?_))))))))))
       let S118 := fun (to_87 : Int) => (⟨[(1, .c (.ptr 0 0)), (2, .c (.ptr 1 0)), (3, ci (((a0_p.Parents).length : Int))), (4, ci (IntKind.wrap .i64 (2 + ((a0_p.Demands).length : Int)))), (5, .c (.ptr 3 0)), (12, .c (vI (a0_p.Caps.getD t92_33.toNat ([])))), (13, ci (IntKind.wrap .i64 (IntKind.wrap .i64 (2 + ((a0_p.Demands).length : Int)) + IntKind.wrap .i64 (t92_33 * ((a0_p.Parents).length : Int))))), (14, ci t105_75), (16, ci to_87), (90, .c (vR a0_p.Caps)), (91, ci (((a0_p.Caps).length : Int))), (92, ci t92_33), (103, .c (vI a0_p.Parents)), (104, ci (((a0_p.Parents).length : Int))), (105, ci t105_75)], [.box (bSProblem a0_p), .box [.int .i64 0, .own 2 (([] : List SArc)).length], aSArc 63 (([] : List SArc)), .box [.int .i64 (IntKind.wrap .i64 (IntKind.wrap .i64 (2 + ((a0_p.Demands).length : Int)) + IntKind.wrap .i64 (((a0_p.Caps).length : Int) * ((a0_p.Parents).length : Int)))), .own 4 o4_76.length], aSArc 63 o4_76]⟩ : St)
       refine SCode.join (σ := Int) (S := fun s => (S118 s)) (g := fun s => plan_network_own_p90 a0_p t92_33 t105_75 o4_76 (fun t105_75 o4_76 => plan_network_own_l84 a0_p t92_33 (fun t92_33 o4_34 => plan_network_own_l63 F a0_p n_63 t92_33 o4_34) n_84 t105_75 o4_76) s = some r) ?_ ?_
       rotate_left
       ·refine SCode.seq (SCode.region (sm rfl rfl (sq rfl rfl (q_geq rfl rfl rfl) (SOps.nil ?_))))
        rcases cond_out h with ⟨g91, h⟩ | ⟨g91, h⟩
        ·refine SCode.cond_t rfl g91 (SCode.region (sm rfl rfl (sm rfl rfl (sq rfl rfl (q_add rfl rfl rfl) (sa rfl rfl (SOps.nil ?_))))))
         exact ⟨IntKind.wrap .i64 (IntKind.wrap .i64 (IntKind.wrap .i64 (2 + ((a0_p.Demands).length : Int)) + IntKind.wrap .i64 (t92_33 * ((a0_p.Parents).length : Int))) + a0_p.Parents.getD t105_75.toNat 0), h, sub_gen [0, 1, 2, 3, 4] rfl rfl (zall rfl rfl) ⟨bx rfl rfl rfl, bx rfl rfl rfl, oa rfl, bx rfl rfl rfl, oa rfl, trivial⟩⟩
        refine SCode.cond_f rfl g91 (SCode.skip ?_)
        exact ⟨1, h, sub_gen [0, 1, 2, 3, 4] rfl rfl (zall rfl rfl) ⟨bx rfl rfl rfl, bx rfl rfl rfl, oa rfl, bx rfl rfl rfl, oa rfl, trivial⟩⟩
       rintro to_87 h
       show SCode _ _ _ (S118 to_87) _
       try dsimp only at h
       unfold plan_network_own_p90 at h
       obtain ⟨g88, h⟩ := guard_out h
       obtain ⟨g89, h⟩ := guard_out h
       refine SCode.drawK mixed [[], [0], [], [], [2, 3], [], [], [], [6, 7], [6, 7, 8], [], [10], [6, 7, 8, 9, 10, 11], [6, 7, 8, 9, 10, 11, 12], [2, 3, 4, 5, 6, 7, 8, 9, 10, 11, 12, 13], [2, 3, 4, 5, 6, 7, 8, 9, 10, 11, 12, 13, 14], [0, 1, 2, 3, 4, 5, 6, 7, 8, 9, 10, 11, 12, 13, 14, 15], [0, 1, 2, 3, 4, 5, 6, 7, 8, 9, 10, 11, 12, 13, 14, 15, 16], [0, 1, 2, 3, 4, 5, 6, 7, 8, 9, 10, 11, 12, 13, 14, 15, 16, 17]] 16 3 rfl rfl (qr rfl rfl (q_field_ptr rfl rfl fd49_1) (qr rfl rfl (q_load_ptr rfl rfl rfl rfl ty47) (qm rfl rfl (qm rfl rfl (qr rfl rfl (q_add rfl rfl rfl) (qm rfl rfl (qm rfl rfl (qm rfl rfl (qr rfl rfl (q_index_vec rfl rfl rfl sl22 rfl g88.1 g88.2) (qr rfl rfl (q_load_eptr rfl rfl ty3) (qr rfl rfl (q_field_ptr rfl rfl fd26_3) (qr rfl rfl (q_load_ptr rfl rfl rfl rfl ty3) (qr rfl rfl (q_mul rfl rfl rfl) (qr rfl rfl (q_min rfl rfl rfl) (qr rfl rfl (q_build2 rfl rfl pl63 rfl) ?_)))))))))))))))
       refine qr rfl rfl (q_bsliceL (c := cSArc) (d0 := dSArc) [SArc.mk (IntKind.wrap .i64 (IntKind.wrap .i64 (IntKind.wrap .i64 (2 + ((a0_p.Demands).length : Int)) + IntKind.wrap .i64 (t92_33 * ((a0_p.Parents).length : Int))) + t105_75)) to_87 ((if 1099511627776 < IntKind.wrap .i64 ((a0_p.Caps.getD t92_33.toNat ([])).getD t105_75.toNat 0 * a0_p.Length) then 1099511627776 else IntKind.wrap .i64 ((a0_p.Caps.getD t92_33.toNat ([])).getD t105_75.toNat 0 * a0_p.Length)))] rfl rfl sl47 z63 rfl rfl rfl rfl rfl rfl rfl) (QK.nil (se rfl rfl (e_appendL (c := cSArc) (d0 := dSArc) (l := o4_76) (l2 := [SArc.mk (IntKind.wrap .i64 (IntKind.wrap .i64 (IntKind.wrap .i64 (2 + ((a0_p.Demands).length : Int)) + IntKind.wrap .i64 (t92_33 * ((a0_p.Parents).length : Int))) + t105_75)) to_87 ((if 1099511627776 < IntKind.wrap .i64 ((a0_p.Caps.getD t92_33.toNat ([])).getD t105_75.toNat 0 * a0_p.Length) then 1099511627776 else IntKind.wrap .i64 ((a0_p.Caps.getD t92_33.toNat ([])).getD t105_75.toNat 0 * a0_p.Length)))]) rfl rfl rfl rfl rfl rfl (.inl rfl) sl47 z63 rfl rfl oneSArc g89.1 g89.2) (sq rfl rfl (q_field_ptr rfl rfl fd49_1) (se rfl rfl (e_store_box rfl rfl rfl rfl rfl ty47 rfl rfl rfl rfl) ?_))))
       let y2 := IntKind.wrap .i64 (2 + ((a0_p.Demands).length : Int)) + IntKind.wrap .i64 (t92_33 * ((a0_p.Parents).length : Int))
       let y3 := (a0_p.Caps.getD t92_33.toNat ([])).getD t105_75.toNat 0 * a0_p.Length
       refine SOps.sub (st' := ⟨[(1, .c (.ptr 0 0)), (2, .c (.ptr 1 0)), (3, ci (((a0_p.Parents).length : Int))), (4, ci (IntKind.wrap .i64 (2 + ((a0_p.Demands).length : Int)))), (5, .c (.ptr 3 0)), (12, .c (vI (a0_p.Caps.getD t92_33.toNat ([])))), (13, ci (IntKind.wrap .i64 y2)), (90, .c (vR a0_p.Caps)), (91, ci (((a0_p.Caps).length : Int))), (92, ci t92_33), (103, .c (vI a0_p.Parents)), (104, ci (((a0_p.Parents).length : Int))), (105, ci t105_75)], [.box (bSProblem a0_p), .box [.int .i64 0, .own 2 (([] : List SArc)).length], aSArc 63 (([] : List SArc)), .box [.int .i64 (IntKind.wrap .i64 (IntKind.wrap .i64 (2 + ((a0_p.Demands).length : Int)) + IntKind.wrap .i64 (((a0_p.Caps).length : Int) * ((a0_p.Parents).length : Int)))), .own 4 (o4_76 ++ ([SArc.mk (IntKind.wrap .i64 (IntKind.wrap .i64 y2 + t105_75)) to_87 ((if 1099511627776 < IntKind.wrap .i64 y3 then 1099511627776 else IntKind.wrap .i64 y3))])).length], aSArc 63 (o4_76 ++ ([SArc.mk (IntKind.wrap .i64 (IntKind.wrap .i64 y2 + t105_75)) to_87 ((if 1099511627776 < IntKind.wrap .i64 y3 then 1099511627776 else IntKind.wrap .i64 y3))]))]⟩) (sub_gen [0, 1, 2, 3, 5] rfl rfl (zall rfl rfl) ⟨bx rfl rfl rfl, bx rfl rfl rfl, oa rfl, bx rfl rfl rfl, oa rfl, trivial⟩) (SOps.nil (SCode.region (sq rfl rfl (q_add rfl rfl rfl) (sm rfl rfl (SOps.nil ?_)))))
       exact ⟨(n_84, (IntKind.wrap .i64 (t105_75 + 1), o4_76 ++ ([SArc.mk (IntKind.wrap .i64 (IntKind.wrap .i64 (IntKind.wrap .i64 (2 + ((a0_p.Demands).length : Int)) + IntKind.wrap .i64 (t92_33 * ((a0_p.Parents).length : Int))) + t105_75)) to_87 ((if 1099511627776 < IntKind.wrap .i64 ((a0_p.Caps.getD t92_33.toNat ([])).getD t105_75.toNat 0 * a0_p.Length) then 1099511627776 else IntKind.wrap .i64 ((a0_p.Caps.getD t92_33.toNat ([])).getD t105_75.toNat 0 * a0_p.Length)))]))), h, Nat.lt_succ_self n_84, sub_gen [0, 1, 2, 3, 4] rfl rfl (zall rfl rfl) ⟨bx rfl rfl rfl, bx rfl rfl rfl, oa rfl, bx rfl rfl rfl, oa rfl, trivial⟩⟩
      refine SCode.cond_f rfl g85 (SCode.exit ?_)
      exact ⟨o4_76, h, sub_gen [0, 1, 2, 3, 4] rfl rfl (zall rfl rfl) ⟨bx rfl rfl rfl, bx rfl rfl rfl, oa rfl, bx rfl rfl rfl, oa rfl, trivial⟩⟩
    rintro o4_65 h
    show SCode _ _ _ (S120 o4_65) _
    try dsimp only at h
    unfold plan_network_own_p66 at h
    refine SCode.region (sq rfl rfl (q_add rfl rfl rfl) (sm rfl rfl (SOps.nil ?_)))
    exact ⟨(n_63, (IntKind.wrap .i64 (t92_33 + 1), o4_65)), h, Nat.lt_succ_self n_63, sub_gen [0, 1, 2, 3, 4] rfl rfl (zall rfl rfl) ⟨bx rfl rfl rfl, bx rfl rfl rfl, oa rfl, bx rfl rfl rfl, oa rfl, trivial⟩⟩
   refine SCode.cond_f rfl g64 (SCode.exit ?_)
   exact ⟨o4_34, h, sub_gen [1, 2, 3, 4] rfl rfl (zall rfl rfl) ⟨bx rfl rfl rfl, oa rfl, bx rfl rfl rfl, oa rfl, trivial⟩⟩
 rintro o3_3 h
 show SCode _ _ _ (S122 o3_3) _
 try dsimp only at h
 unfold plan_network_own_p4 at h
 refine SCode.seq (SCode.region (sq rfl rfl (q_load_ptr_all rfl rfl rfl rfl rfl ty49) (se rfl rfl (e_store_box rfl rfl rfl rfl rfl ty49 rfl rfl rfl rfl) (SOps.nil (SCode.ret ?_)))))
 obtain rfl := Option.some.inj h
 let y4 := IntKind.wrap .i64 (IntKind.wrap .i64 (2 + ((a0_p.Demands).length : Int)) + IntKind.wrap .i64 (((a0_p.Caps).length : Int) * ((a0_p.Parents).length : Int)))
 exact ⟨⟨[(2, .c (.ptr 1 0))], [aSArc 63 o3_3, .box [.int .i64 y4, .own 0 o3_3.length]]⟩, _, sub_gen [3, 0] rfl rfl (zall rfl rfl) ⟨oa rfl, bx rfl rfl rfl, trivial⟩, resA1 (v := .a [.int .i64 y4, .own 0 o3_3.length]) rfl ⟨_, rfl, rfl, ty49⟩, ⟨rfl, rfl⟩⟩
theorem plan_Feasible_ok (F : Nat) (a0_p : SProblem) (a1_energy : List Int) (r : Bool × Int) (h : plan_Feasible F a0_p a1_energy = some r) :
  SFun Try.prog 14 [] [.a (bSProblem a0_p), .c (vI a1_energy)] (fun x _ => x = .t [.c (.bool r.1), .c (.int .i64 r.2)]) := by
 refine SFun.of (n := 23) Try.func14 rfl rfl rfl ?_
 unfold plan_Feasible at h
 show SCode _ _ _ ⟨[(0, .a (bSProblem a0_p)), (1, .c (vI a1_energy))], []⟩ _
 refine SCode.seq (SCode.region (se rfl rfl (e_box rfl rfl rfl rfl rfl rfl) (sa rfl rfl (sa rfl rfl (SOps.nil (SCode.seq (SCode.seq ?_)))))))
 obtain ⟨c_1, g2, h⟩ := bind_out h
 try dsimp only at h
 refine SCode.region (sq rfl rfl (q_load_ptr_all rfl rfl rfl rfl rfl ty26) (sm rfl rfl (sq rfl rfl (q_call (plan_check_ok F a0_p a1_energy c_1 g2) [] rfl fn25 ⟨⟨rfl, rfl⟩, ⟨_, rfl, .inl ⟨rfl, rfl⟩⟩, trivial⟩ (.inl rfl)) (sa rfl rfl (SOps.nil (SCode.seq (SCode.region (sm rfl rfl (sq rfl rfl (q_neq rfl rfl rfl) (SOps.nil ?_))))))))))
 rcases cond_out h with ⟨g3, h⟩ | ⟨g3, h⟩
 ·refine SCode.cond_t rfl g3 (SCode.seq (SCode.region (sm rfl rfl (sa rfl rfl (sa rfl rfl (SOps.nil (SCode.ret ?_)))))))
  obtain rfl := Option.some.inj h
  exact ⟨⟨[(4, .c (.bool false)), (5, ci c_1)], []⟩, _, sub_gen [] rfl rfl (zall rfl rfl) trivial, resA2 (v1 := .c (.bool false)) (v2 := .c (.int .i64 c_1)) rfl rfl rfl, rfl⟩
 refine SCode.cond_f rfl g3 (SCode.skip (SCode.seq ?_))
 obtain ⟨c_4, g5, h⟩ := bind_out h
 try dsimp only at h
 obtain ⟨c_6, g7, h⟩ := bind_out h
 try dsimp only at h
 obtain ⟨g8, h⟩ := guard_out h
 refine SCode.region (sq rfl rfl (q_load_ptr_all rfl rfl rfl rfl rfl ty26) (se rfl rfl (e_call (plan_network_own_ok F a0_p c_4 g5) [] rfl fn27 rfl rfl rfl rfl rfl rfl rfl rfl) (sm rfl rfl (se rfl rfl (e_call (plan_route_ok F c_4 a1_energy c_6 g7) [1] rfl fn26 rfl rfl rfl rfl rfl rfl rfl rfl) (sm rfl rfl (sq rfl rfl (q_extract rfl rfl rfl) (sq rfl rfl (q_extract rfl rfl rfl) (sa rfl rfl (sa rfl rfl (SOps.sub (st' := ⟨[(8, .c (.bool c_6.2.1))], []⟩) (sub_gen [] rfl rfl (zall rfl rfl) trivial) (SOps.nil (SCode.seq (SCode.region (sm rfl rfl (sa rfl rfl ?_)))))))))))))))
 refine sa rfl rfl (SOps.nil (SCode.ret ?_))
 obtain rfl := Option.some.inj h
 exact ⟨⟨[(4, .c (.bool c_6.2.1)), (5, ci 0)], []⟩, _, sub_gen [] rfl rfl (zall rfl rfl) trivial, resA2 (v1 := .c (.bool c_6.2.1)) (v2 := .c (.int .i64 0)) rfl rfl rfl, rfl⟩
theorem plan_Fair_1_ok (F : Nat) (a0_l : List Int) (a1b_Nodes : Int) (a1b_Arcs : List SArc) (r : Bool × (List SArc)) (h : plan_Fair_1 F a0_l a1b_Nodes a1b_Arcs = some r) :
  SFun Try.prog 31 [.box [.int .i64 a1b_Nodes, .own 1 a1b_Arcs.length], aSArc 63 a1b_Arcs] [.c (vI a0_l), .c (.ptr 0 0)] (fun x os => x = .c (.bool r.1) ∧ os = [.box [.int .i64 a1b_Nodes, .own 1 r.2.length], aSArc 63 r.2]) := by
 refine SFun.of (n := 13) Try.func31 rfl rfl rfl ?_
 unfold plan_Fair_1 at h
 show SCode _ _ _ ⟨[(0, .c (vI a0_l)), (1, .c (.ptr 0 0))], [.box [.int .i64 a1b_Nodes, .own 1 a1b_Arcs.length], aSArc 63 a1b_Arcs]⟩ _
 refine SCode.seq (SCode.region (sa rfl rfl (SOps.nil (SCode.seq ?_))))
 obtain ⟨c_1, g2, h⟩ := bind_out h
 try dsimp only at h
 obtain ⟨g3, h⟩ := guard_out h
 refine SCode.region (sq rfl rfl (q_load_ptr_all rfl rfl rfl rfl rfl ty49) (sm rfl rfl (se rfl rfl (e_call (plan_route_ok F (SNet.mk a1b_Nodes a1b_Arcs) a0_l c_1 g2) [1] rfl fn26 rfl rfl rfl rfl rfl rfl rfl rfl) (sm rfl rfl (sq rfl rfl (q_extract rfl rfl rfl) (sq rfl rfl (q_extract rfl rfl rfl) (sa rfl rfl (sa rfl rfl (SOps.sub (st' := ⟨[(5, .c (.bool c_1.2.1))], [.box [.int .i64 a1b_Nodes, .own 1 c_1.2.2.length], aSArc 63 c_1.2.2]⟩) (sub_gen [0, 1] rfl rfl (zall rfl rfl) ⟨⟨_, rfl, ⟨ii rfl rfl, .inl ⟨rfl, congrArg (Cell.own 1) g3.symm⟩, trivial⟩⟩, oa rfl, trivial⟩) (SOps.nil (SCode.seq (SCode.region (sm rfl rfl (sa rfl rfl (SOps.nil ?_)))))))))))))))
 refine SCode.ret ?_
 obtain rfl := Option.some.inj h
 exact ⟨⟨[(3, .c (.bool c_1.2.1))], [.box [.int .i64 a1b_Nodes, .own 1 c_1.2.2.length], aSArc 63 c_1.2.2]⟩, _, sub_gen [0, 1] rfl rfl (zall rfl rfl) ⟨bx rfl rfl rfl, oa rfl, trivial⟩, resA1 (v := .c (.bool c_1.2.1)) rfl rfl, ⟨rfl, rfl⟩⟩
theorem fair_check_ok (F : Nat) (a0_caps : List Int) (r : Int) (h : fair_check F a0_caps = some r) :
  SFun Try.prog 42 [] [.c (vI a0_caps)] (fun x _ => x = ci r) := by
 refine SFun.of (n := 21) Try.func42 rfl rfl rfl ?_
 unfold fair_check at h
 show SCode _ _ _ ⟨[(0, .c (vI a0_caps))], []⟩ _
 refine SCode.seq (SCode.region (sa rfl rfl (SOps.nil (SCode.seq (SCode.seq (SCode.region (sm rfl rfl (sq rfl rfl (q_len_vec rfl rfl sl22) (sq rfl rfl (q_gtr rfl rfl rfl) (SOps.nil ?_))))))))))
 rcases cond_out h with ⟨g1, h⟩ | ⟨g1, h⟩
 ·refine SCode.cond_t rfl g1 (SCode.seq (SCode.region (sa rfl rfl (SOps.nil (SCode.ret ?_)))))
  obtain rfl := Option.some.inj h
  exact ⟨⟨[(2, ci 3)], []⟩, _, sub_gen [] rfl rfl (zall rfl rfl) trivial, resA1 (v := .c (.int .i64 3)) rfl rfl, rfl⟩
 refine SCode.cond_f rfl g1 (SCode.skip ?_)
 let S3 := (⟨[], []⟩ : St)
 refine SCode.join (σ := Unit) (S := fun s => S3) (g := fun s => fair_check_p2 = some r) ?_ ?_
 rotate_left
 ·refine SCode.seq (SCode.region (sm rfl rfl (sq rfl rfl (q_len_vec rfl rfl sl22) (sm rfl rfl (SOps.nil (SCode.block ?_))))))
  let S2 := fun (t10_7 : Int) => (⟨[(8, .c (vI a0_caps)), (9, ci (((a0_caps).length : Int))), (10, ci t10_7)], []⟩ : St)
  refine SCode.sub (st' := (S2 0)) (sub_gen [] rfl rfl (zall rfl rfl) trivial) ?_
  refine (SCode.loop (σ := Nat × Int) (S := fun s => (S2 s.2)) (g := fun s => fair_check_l12 a0_caps s.1 s.2 = some r) (μ := fun s => s.1) (F, 0) h ?_)
  rintro ⟨n_12, t10_7⟩ h
  try dsimp only at h
  show SCode _ _ _ (S2 t10_7) _
  cases n_12 with
  | zero => cases h
  | succ n_12 =>
   rw [fair_check_l12] at h
   unfold fair_check_b12 at h
   refine SCode.seq (SCode.region (sq rfl rfl (q_lss rfl rfl rfl) (SOps.nil (SCode.seq ?_))))
   rcases cond_out h with ⟨g13, h⟩ | ⟨g13, h⟩
   ·refine SCode.cond_t rfl g13 (SCode.skip (SCode.seq (SCode.block (SCode.seq ?_))))
    obtain ⟨g14, h⟩ := guard_out h
    refine SCode.region (sq rfl rfl (q_index_vec rfl rfl rfl sl22 rfl g14.1 g14.2) (sq rfl rfl (q_load_eptr rfl rfl ty3) (sa rfl rfl (SOps.nil (SCode.seq ?_)))))
    rcases cond_out h with ⟨g15, h⟩ | ⟨g15, h⟩
    ·refine SCode.region (sm rfl rfl (sq rfl rfl (q_lss rfl rfl rfl) (sm rfl rfl (SOps.skip rfl 2 16 false rfl rfl (.inl (gT g15)) rfl (SOps.skip rfl 2 16 false rfl rfl (.inl (gT g15)) rfl (sq rfl rfl (q_pick_t rfl rfl g15 rfl) (SOps.nil (SCode.cond_t rfl rfl (SCode.seq (SCode.region (sa rfl rfl (SOps.nil (SCode.ret ?_)))))))))))))
     obtain rfl := Option.some.inj h
     exact ⟨⟨[(2, ci 2)], []⟩, _, sub_gen [] rfl rfl (zall rfl rfl) trivial, resA1 (v := .c (.int .i64 2)) rfl rfl, rfl⟩
    refine SCode.region (sm rfl rfl (sq rfl rfl (q_lss rfl rfl rfl) (sm rfl rfl (SOps.q rfl (.guard 2 16 false rfl rfl (gF g15)) rfl (q_move rfl rfl) (SOps.q rfl (.guard 2 16 false rfl rfl (gF g15)) rfl (q_gtr rfl rfl rfl) (sq rfl rfl (q_pick_f rfl rfl g15 rfl) (SOps.nil ?_)))))))
    rcases cond_out h with ⟨g16, h⟩ | ⟨g16, h⟩
    ·refine SCode.cond_t rfl g16 (SCode.seq (SCode.region (sa rfl rfl (SOps.nil (SCode.ret ?_)))))
     obtain rfl := Option.some.inj h
     exact ⟨⟨[(2, ci 2)], []⟩, _, sub_gen [] rfl rfl (zall rfl rfl) trivial, resA1 (v := .c (.int .i64 2)) rfl rfl, rfl⟩
    refine SCode.cond_f rfl g16 (SCode.skip (SCode.region (sq rfl rfl (q_add rfl rfl rfl) (sm rfl rfl (SOps.nil ?_)))))
    exact ⟨(n_12, IntKind.wrap .i64 (t10_7 + 1)), h, Nat.lt_succ_self n_12, sub_gen [] rfl rfl (zall rfl rfl) trivial⟩
   refine SCode.cond_f rfl g13 (SCode.exit ?_)
   exact ⟨(), h, sub_gen [] rfl rfl trivial trivial⟩
 rintro ⟨⟩ h
 show SCode _ _ _ S3 _
 try dsimp only at h
 unfold fair_check_p2 at h
 refine SCode.seq (SCode.region (sa rfl rfl (SOps.nil (SCode.ret ?_))))
 obtain rfl := Option.some.inj h
 exact ⟨⟨[(2, ci 0)], []⟩, _, sub_gen [] rfl rfl (zall rfl rfl) trivial, resA1 (v := .c (.int .i64 0)) rfl rfl, rfl⟩
theorem fair_least_int_ok (F : Nat) (a0_first : Int) (a1_others : List Int) (r : Int) (h : fair_least_int F a0_first a1_others = some r) :
  SFun Try.prog 61 [] [ci a0_first, .c (vI a1_others)] (fun x _ => x = ci r) := by
 refine SFun.of (n := 19) Try.func61 rfl rfl rfl ?_
 unfold fair_least_int at h
 show SCode _ _ _ ⟨[(0, ci a0_first), (1, .c (vI a1_others))], []⟩ _
 refine SCode.seq (SCode.region (sa rfl rfl (SOps.nil ?_)))
 let S9 := fun (first_1 : Int) => (⟨[(0, ci first_1)], []⟩ : St)
 refine SCode.join (σ := Int) (S := fun s => (S9 s)) (g := fun s => fair_least_int_p2 s = some r) ?_ ?_
 rotate_left
 ·refine SCode.seq (SCode.region (sm rfl rfl (sq rfl rfl (q_len_vec rfl rfl sl22) (sm rfl rfl (SOps.nil (SCode.block ?_))))))
  let S8 := fun (first_8 : Int) => fun (t9_9 : Int) => (⟨[(0, ci first_8), (7, .c (vI a1_others)), (8, ci (((a1_others).length : Int))), (9, ci t9_9)], []⟩ : St)
  refine SCode.sub (st' := (S8 a0_first 0)) (sub_gen [] rfl rfl (zall rfl rfl) trivial) ?_
  refine (SCode.loop (σ := Nat × (Int × Int)) (S := fun s => (S8 s.2.1 s.2.2)) (g := fun s => fair_least_int_l15 a1_others s.1 s.2.1 s.2.2 = some r) (μ := fun s => s.1) (F, (a0_first, 0)) h ?_)
  rintro ⟨n_15, ⟨first_8, t9_9⟩⟩ h
  try dsimp only at h
  show SCode _ _ _ (S8 first_8 t9_9) _
  cases n_15 with
  | zero => cases h
  | succ n_15 =>
   rw [fair_least_int_l15] at h
   unfold fair_least_int_b15 at h
   refine SCode.seq (SCode.region (sq rfl rfl (q_lss rfl rfl rfl) (SOps.nil (SCode.seq ?_))))
   rcases cond_out h with ⟨g16, h⟩ | ⟨g16, h⟩
   ·refine SCode.cond_t rfl g16 (SCode.skip ?_)
    let S7 := fun (first_17 : Int) => (⟨[(0, ci first_17), (7, .c (vI a1_others)), (8, ci (((a1_others).length : Int))), (9, ci t9_9)], []⟩ : St)
    refine SCode.join (σ := Int) (S := fun s => (S7 s)) (g := fun s => fair_least_int_p18 t9_9 (fun first_8 t9_9 => fair_least_int_l15 a1_others n_15 first_8 t9_9) s = some r) ?_ ?_
    rotate_left
    ·refine SCode.block (SCode.seq ?_)
     obtain ⟨g19, h⟩ := guard_out h
     refine SCode.region (sq rfl rfl (q_index_vec rfl rfl rfl sl22 rfl g19.1 g19.2) (sq rfl rfl (q_load_eptr rfl rfl ty3) (sa rfl rfl (SOps.nil (SCode.seq (SCode.region (sm rfl rfl (sm rfl rfl (sq rfl rfl (q_lss rfl rfl rfl) (SOps.nil ?_))))))))))
     rcases cond_out h with ⟨g20, h⟩ | ⟨g20, h⟩
     ·refine SCode.cond_t rfl g20 (SCode.region (sm rfl rfl (sa rfl rfl (SOps.nil ?_))))
      exact ⟨a1_others.getD t9_9.toNat 0, h, sub_gen [] rfl rfl (zall rfl rfl) trivial⟩
     refine SCode.cond_f rfl g20 (SCode.skip ?_)
     exact ⟨first_8, h, sub_gen [] rfl rfl (zall rfl rfl) trivial⟩
    rintro first_17 h
    show SCode _ _ _ (S7 first_17) _
    try dsimp only at h
    unfold fair_least_int_p18 at h
    refine SCode.region (sq rfl rfl (q_add rfl rfl rfl) (sm rfl rfl (SOps.nil ?_)))
    exact ⟨(n_15, (first_17, IntKind.wrap .i64 (t9_9 + 1))), h, Nat.lt_succ_self n_15, sub_gen [] rfl rfl (zall rfl rfl) trivial⟩
   refine SCode.cond_f rfl g16 (SCode.exit ?_)
   exact ⟨first_8, h, sub_gen [] rfl rfl (zall rfl rfl) trivial⟩
 rintro first_1 h
 show SCode _ _ _ (S9 first_1) _
 try dsimp only at h
 unfold fair_least_int_p2 at h
 refine SCode.seq (SCode.region (sm rfl rfl (sa rfl rfl (SOps.nil (SCode.ret ?_)))))
 obtain rfl := Option.some.inj h
 exact ⟨⟨[(4, ci first_1)], []⟩, _, sub_gen [] rfl rfl (zall rfl rfl) trivial, resA1 (v := .c (.int .i64 first_1)) rfl rfl, rfl⟩
theorem fair_division_raise_f0_p31_ok (F : Nat) (a0_v_caps : List Int) (a0b_Nodes : Int) (a0b_Arcs : List SArc) (a0_v_x : List Int) (a0_v_active : List Bool) (a0_v_trial : List Int) (a1_d : Int) (r : List Int) (h : fair_division_raise_f0_p31 F a0_v_caps a0b_Nodes a0b_Arcs a0_v_x a0_v_active a0_v_trial a1_d = some r) :
  SFun Try.prog 51 [.box [vI a0_v_caps, .fnp 31 1, .own 3 a0_v_x.length, .own 4 a0_v_active.length, .own 5 a0_v_trial.length], .box [.int .i64 a0b_Nodes, .own 2 a0b_Arcs.length], aSArc 63 a0b_Arcs, aI 3 a0_v_x, aB 4 a0_v_active, aI 3 a0_v_trial] [.c (.ptr 0 0), ci a1_d] (fun x os => x = .t [] ∧ os = [.box [vI a0_v_caps, .fnp 31 1, .own 3 a0_v_x.length, .own 4 a0_v_active.length, .own 5 r.length], .box [.int .i64 a0b_Nodes, .own 2 a0b_Arcs.length], aSArc 63 a0b_Arcs, aI 3 a0_v_x, aB 4 a0_v_active, aI 3 r]) := by
 refine SFun.of (n := 43) Try.func51 rfl rfl rfl ?_
 unfold fair_division_raise_f0_p31 at h
 show SCode _ _ _ ⟨[(0, .c (.ptr 0 0)), (1, ci a1_d)], [.box [vI a0_v_caps, .fnp 31 1, .own 3 a0_v_x.length, .own 4 a0_v_active.length, .own 5 a0_v_trial.length], .box [.int .i64 a0b_Nodes, .own 2 a0b_Arcs.length], aSArc 63 a0b_Arcs, aI 3 a0_v_x, aB 4 a0_v_active, aI 3 a0_v_trial]⟩ _
 refine SCode.seq (SCode.region (sm rfl rfl (sq rfl rfl (q_nilCheck rfl rfl rfl) (sq rfl rfl (q_field_ptr rfl rfl fd68_2) (sq rfl rfl (q_load_ptr rfl rfl rfl rfl ty22) (sq rfl rfl (q_len_own rfl rfl sl22) (sm rfl rfl (SOps.nil (SCode.block ?_)))))))))
 let S7 := fun (t11_11 : Int) => fun (o5_12 : List Int) => (⟨[(0, .c (.ptr 0 0)), (1, ci a1_d), (9, .c (.own 3 a0_v_x.length)), (10, ci (((a0_v_x).length : Int))), (11, ci t11_11)], [.box [vI a0_v_caps, .fnp 31 1, .own 3 a0_v_x.length, .own 4 a0_v_active.length, .own 5 o5_12.length], .box [.int .i64 a0b_Nodes, .own 2 a0b_Arcs.length], aSArc 63 a0b_Arcs, aI 3 a0_v_x, aB 4 a0_v_active, aI 3 o5_12]⟩ : St)
 refine SCode.sub (st' := (S7 0 a0_v_trial)) (sub_gen [0, 1, 2, 3, 4, 5] rfl rfl (zall rfl rfl) ⟨bx rfl rfl rfl, bx rfl rfl rfl, oa rfl, oa rfl, oa rfl, oa rfl, trivial⟩) ?_
 refine (SCode.loop (σ := Nat × (Int × (List Int))) (S := fun s => (S7 s.2.1 s.2.2)) (g := fun s => fair_division_raise_f0_p31_l23 F a0_v_caps a0_v_x a0_v_active a1_d s.1 s.2.1 s.2.2 = some r) (μ := fun s => s.1) (F, (0, a0_v_trial)) h ?_)
 rintro ⟨n_23, ⟨t11_11, o5_12⟩⟩ h
 try dsimp only at h
 show SCode _ _ _ (S7 t11_11 o5_12) _
 cases n_23 with
 | zero => cases h
 | succ n_23 =>
  rw [fair_division_raise_f0_p31_l23] at h
  unfold fair_division_raise_f0_p31_b23 at h
  refine SCode.seq (SCode.region (sq rfl rfl (q_lss rfl rfl rfl) (SOps.nil (SCode.seq ?_))))
  rcases cond_out h with ⟨g24, h⟩ | ⟨g24, h⟩
  ·refine SCode.cond_t rfl g24 (SCode.skip (SCode.seq (SCode.block (SCode.seq ?_))))
   obtain ⟨g25, h⟩ := guard_out h
   refine SCode.region (sm rfl rfl (sq rfl rfl (q_index_own rfl rfl rfl sl22 g25.1 g25.2) (sq rfl rfl (q_load_aptr rfl rfl rfl (toNat_lt g25) rfl ty3) (sa rfl rfl (sa rfl rfl (SOps.nil ?_))))))
   let S6 := fun (n_26 : Int) => (⟨[(0, .c (.ptr 0 0)), (1, ci a1_d), (4, ci t11_11), (5, ci n_26), (9, .c (.own 3 a0_v_x.length)), (10, ci (((a0_v_x).length : Int))), (11, ci t11_11)], [.box [vI a0_v_caps, .fnp 31 1, .own 3 a0_v_x.length, .own 4 a0_v_active.length, .own 5 o5_12.length], .box [.int .i64 a0b_Nodes, .own 2 a0b_Arcs.length], aSArc 63 a0b_Arcs, aI 3 a0_v_x, aB 4 a0_v_active, aI 3 o5_12]⟩ : St)
   refine SCode.join (σ := Int) (S := fun s => (S6 s)) (g := fun s => fair_division_raise_f0_p31_p28 t11_11 o5_12 (fun t11_11 o5_12 => fair_division_raise_f0_p31_l23 F a0_v_caps a0_v_x a0_v_active a1_d n_23 t11_11 o5_12) s = some r) ?_ ?_
   rotate_left
   ·refine SCode.seq ?_
    obtain ⟨g29, h⟩ := guard_out h
    refine SCode.region (sm rfl rfl (sq rfl rfl (q_nilCheck rfl rfl rfl) (sq rfl rfl (q_field_ptr rfl rfl fd68_3) (sq rfl rfl (q_load_ptr rfl rfl rfl rfl ty53) (sm rfl rfl (sq rfl rfl (q_index_own rfl rfl rfl sl53 g29.1 g29.2) (sq rfl rfl (q_load_aptr rfl rfl rfl (toNat_lt g29) rfl ty4) (SOps.nil ?_))))))))
    rcases cond_out h with ⟨g30, h⟩ | ⟨g30, h⟩
    ·refine SCode.cond_t rfl g30 ?_
     obtain ⟨g31, h⟩ := guard_out h
     obtain ⟨c_32, g33, h⟩ := bind_out h
     try dsimp only at h
     refine SCode.region (sm rfl rfl (sm rfl rfl (sq rfl rfl (q_add rfl rfl rfl) (sm rfl rfl (sq rfl rfl (q_nilCheck rfl rfl rfl) (sq rfl rfl (q_field_ptr rfl rfl fd68_0) (sq rfl rfl (q_load_ptr rfl rfl rfl rfl ty22) (sm rfl rfl (sq rfl rfl (q_index_vec rfl rfl rfl sl22 rfl g31.1 g31.2) (sq rfl rfl (q_load_eptr rfl rfl ty3) (sq rfl rfl (q_bsliceL (c := (cInt .i64)) (d0 := 0) [a0_v_caps.getD t11_11.toNat 0] rfl rfl sl22 z3 rfl rfl rfl rfl rfl rfl rfl) (sq rfl rfl (q_call (fair_least_int_ok F (IntKind.wrap .i64 (a0_v_x.getD t11_11.toNat 0 + a1_d)) ([a0_v_caps.getD t11_11.toNat 0]) c_32 g33) [] rfl fn61 ⟨⟨_, rfl, .inl ⟨rfl, rfl⟩⟩, ⟨_, rfl, .inl ⟨rfl, rfl⟩⟩, trivial⟩ (.inl rfl)) (sa rfl rfl (SOps.sub (st' := ⟨[(0, .c (.ptr 0 0)), (1, ci a1_d), (4, ci t11_11), (5, ci c_32), (9, .c (.own 3 a0_v_x.length)), (10, ci (((a0_v_x).length : Int))), (11, ci t11_11)], [.box [vI a0_v_caps, .fnp 31 1, .own 3 a0_v_x.length, .own 4 a0_v_active.length, .own 5 o5_12.length], .box [.int .i64 a0b_Nodes, .own 2 a0b_Arcs.length], aSArc 63 a0b_Arcs, aI 3 a0_v_x, aB 4 a0_v_active, aI 3 o5_12]⟩) (sub_gen [0, 1, 2, 3, 4, 5] rfl rfl (zall rfl rfl) ⟨bx rfl rfl rfl, bx rfl rfl rfl, oa rfl, oa rfl, oa rfl, oa rfl, trivial⟩) (SOps.nil ?_)))))))))))))))
     exact ⟨c_32, h, sub_gen [0, 1, 2, 3, 4, 5] rfl rfl (zall rfl rfl) ⟨bx rfl rfl rfl, bx rfl rfl rfl, oa rfl, oa rfl, oa rfl, oa rfl, trivial⟩⟩
    refine SCode.cond_f rfl g30 (SCode.skip ?_)
    exact ⟨a0_v_x.getD t11_11.toNat 0, h, sub_gen [0, 1, 2, 3, 4, 5] rfl rfl (zall rfl rfl) ⟨bx rfl rfl rfl, bx rfl rfl rfl, oa rfl, oa rfl, oa rfl, oa rfl, trivial⟩⟩
   rintro n_26 h
   show SCode _ _ _ (S6 n_26) _
   try dsimp only at h
   unfold fair_division_raise_f0_p31_p28 at h
   obtain ⟨g27, h⟩ := guard_out h
   refine SCode.region (sm rfl rfl (sq rfl rfl (q_nilCheck rfl rfl rfl) (sq rfl rfl (q_field_ptr rfl rfl fd68_4) (sq rfl rfl (q_load_ptr rfl rfl rfl rfl ty22) (sm rfl rfl (sm rfl rfl (sq rfl rfl (q_index_own rfl rfl rfl sl22 g27.1 g27.2) (se rfl rfl (e_storeL n_26 rfl rfl rfl rfl rfl (toNat_lt g27) ty3 rfl rfl rfl rfl rfl rfl) (SOps.sub (st' := ⟨[(0, .c (.ptr 0 0)), (1, ci a1_d), (9, .c (.own 3 a0_v_x.length)), (10, ci (((a0_v_x).length : Int))), (11, ci t11_11)], [.box [vI a0_v_caps, .fnp 31 1, .own 3 a0_v_x.length, .own 4 a0_v_active.length, .own 5 (o5_12.set t11_11.toNat n_26).length], .box [.int .i64 a0b_Nodes, .own 2 a0b_Arcs.length], aSArc 63 a0b_Arcs, aI 3 a0_v_x, aB 4 a0_v_active, aI 3 (o5_12.set t11_11.toNat n_26)]⟩) (sub_gen [0, 1, 2, 3, 4, 5] rfl rfl (zall rfl rfl) ⟨⟨_, rfl, ⟨ii rfl rfl, ii rfl rfl, ii rfl rfl, ii rfl rfl, .inl ⟨rfl, congrArg (Cell.own 5) (List.length_set : (o5_12.set t11_11.toNat n_26).length = o5_12.length).symm⟩, trivial⟩⟩, bx rfl rfl rfl, oa rfl, oa rfl, oa rfl, oa rfl, trivial⟩) (SOps.nil (SCode.region (sq rfl rfl (q_add rfl rfl rfl) (sm rfl rfl (SOps.nil ?_))))))))))))))
   exact ⟨(n_23, (IntKind.wrap .i64 (t11_11 + 1), o5_12.set t11_11.toNat n_26)), h, Nat.lt_succ_self n_23, sub_gen [0, 1, 2, 3, 4, 5] rfl rfl (zall rfl rfl) ⟨bx rfl rfl rfl, bx rfl rfl rfl, oa rfl, oa rfl, oa rfl, oa rfl, trivial⟩⟩
  refine SCode.cond_f rfl g24 (SCode.exit ?_)
  obtain rfl := Option.some.inj h
  exact ⟨⟨[], [.box [vI a0_v_caps, .fnp 31 1, .own 3 a0_v_x.length, .own 4 a0_v_active.length, .own 5 o5_12.length], .box [.int .i64 a0b_Nodes, .own 2 a0b_Arcs.length], aSArc 63 a0b_Arcs, aI 3 a0_v_x, aB 4 a0_v_active, aI 3 o5_12]⟩, _, sub_gen [0, 1, 2, 3, 4, 5] rfl rfl trivial ⟨bx rfl rfl rfl, bx rfl rfl rfl, oa rfl, oa rfl, oa rfl, oa rfl, trivial⟩, resA0 rfl, ⟨rfl, rfl⟩⟩
theorem fair_division_raisable_f0_p31_ok (F : Nat) (a0_v_caps : List Int) (a0b_Nodes : Int) (a0b_Arcs : List SArc) (a0_v_x : List Int) (a0_v_active : List Bool) (a0_v_trial : List Int) (a1_d : Int) (r : Bool × (List SArc) × (List Int)) (h : fair_division_raisable_f0_p31 F a0_v_caps a0b_Nodes a0b_Arcs a0_v_x a0_v_active a0_v_trial a1_d = some r) :
  SFun Try.prog 50 [.box [vI a0_v_caps, .fnp 31 1, .own 3 a0_v_x.length, .own 4 a0_v_active.length, .own 5 a0_v_trial.length], .box [.int .i64 a0b_Nodes, .own 2 a0b_Arcs.length], aSArc 63 a0b_Arcs, aI 3 a0_v_x, aB 4 a0_v_active, aI 3 a0_v_trial] [.c (.ptr 0 0), ci a1_d] (fun x os => x = .c (.bool r.1) ∧ os = [.box [vI a0_v_caps, .fnp 31 1, .own 3 a0_v_x.length, .own 4 a0_v_active.length, .own 5 r.2.2.length], .box [.int .i64 a0b_Nodes, .own 2 r.2.1.length], aSArc 63 r.2.1, aI 3 a0_v_x, aB 4 a0_v_active, aI 3 r.2.2]) := by
 refine SFun.of (n := 17) Try.func50 rfl rfl rfl ?_
 unfold fair_division_raisable_f0_p31 at h
 show SCode _ _ _ ⟨[(0, .c (.ptr 0 0)), (1, ci a1_d)], [.box [vI a0_v_caps, .fnp 31 1, .own 3 a0_v_x.length, .own 4 a0_v_active.length, .own 5 a0_v_trial.length], .box [.int .i64 a0b_Nodes, .own 2 a0b_Arcs.length], aSArc 63 a0b_Arcs, aI 3 a0_v_x, aB 4 a0_v_active, aI 3 a0_v_trial]⟩ _
 refine SCode.seq (SCode.region (sa rfl rfl (SOps.nil (SCode.seq ?_))))
 obtain ⟨c_1, g2, h⟩ := bind_out h
 try dsimp only at h
 refine SCode.region (sm rfl rfl (sm rfl rfl (se rfl rfl (e_call (fair_division_raise_f0_p31_ok F a0_v_caps a0b_Nodes a0b_Arcs a0_v_x a0_v_active a0_v_trial a1_d c_1 g2) [0, 1, 2, 3, 4, 5] rfl fn51 rfl rfl rfl rfl rfl rfl rfl rfl) (SOps.nil (SCode.seq (SCode.sub (st' := ⟨[(0, .c (.ptr 0 0))], [.box [vI a0_v_caps, .fnp 31 1, .own 3 a0_v_x.length, .own 4 a0_v_active.length, .own 5 c_1.length], .box [.int .i64 a0b_Nodes, .own 2 a0b_Arcs.length], aSArc 63 a0b_Arcs, aI 3 a0_v_x, aB 4 a0_v_active, aI 3 c_1]⟩) (sub_gen [0, 1, 2, 3, 4, 5] rfl rfl (zall rfl rfl) ⟨bx rfl rfl rfl, bx rfl rfl rfl, oa rfl, oa rfl, oa rfl, oa rfl, trivial⟩) ?_))))))
 obtain ⟨c_3, g4, h⟩ := bind_out h
 try dsimp only at h
 refine SCode.drawK mixed [[], [0], [0, 1], [0, 1, 2], [], [4], [4, 5], [4, 5, 6], [0, 1, 2, 3, 4, 5, 6, 7], [0, 1, 2, 3, 4, 5, 6, 7, 8]] 8 2 rfl rfl (qm rfl rfl (qr rfl rfl (q_nilCheck rfl rfl rfl) (qr rfl rfl (q_field_ptr rfl rfl fd68_1) (qr rfl rfl (q_load_ptr rfl rfl rfl rfl ty52) (qm rfl rfl (qr rfl rfl (q_nilCheck rfl rfl rfl) (qr rfl rfl (q_field_ptr rfl rfl fd68_4) (qr rfl rfl (q_load_ptr rfl rfl rfl rfl ty22) (QK.nil (se rfl rfl (e_callP (plan_Fair_1_ok F c_1 a0b_Nodes a0b_Arcs c_3 g4) [1, 2] [5] rfl rfl fn31 rfl rfl rfl rfl rfl rfl rfl rfl (nrs ⟨rfl, fun _ _ => nrSArc _ _, trivial⟩) ⟨.inr (.inl ⟨_, _, _, _, _, _, _, rfl, rfl, rfl, Nat.le_refl _, fun _ _ _ _ => rfl, (.head _)⟩), .inl ⟨rfl, rfl⟩, trivial⟩) (sa rfl rfl (SOps.sub (st' := ⟨[(4, .c (.bool c_3.1))], [.box [vI a0_v_caps, .fnp 31 1, .own 3 a0_v_x.length, .own 4 a0_v_active.length, .own 5 c_1.length], .box [.int .i64 a0b_Nodes, .own 2 c_3.2.length], aSArc 63 c_3.2, aI 3 a0_v_x, aB 4 a0_v_active, aI 3 c_1]⟩) (sub_gen [0, 1, 2, 3, 4, 5] rfl rfl (zall rfl rfl) ⟨bx rfl rfl rfl, bx rfl rfl rfl, oa rfl, oa rfl, oa rfl, oa rfl, trivial⟩) (SOps.nil (SCode.ret ?_))))))))))))))
 obtain rfl := Option.some.inj h
 exact ⟨⟨[(4, .c (.bool c_3.1))], [.box [vI a0_v_caps, .fnp 31 1, .own 3 a0_v_x.length, .own 4 a0_v_active.length, .own 5 c_1.length], .box [.int .i64 a0b_Nodes, .own 2 c_3.2.length], aSArc 63 c_3.2, aI 3 a0_v_x, aB 4 a0_v_active, aI 3 c_1]⟩, _, sub_gen [0, 1, 2, 3, 4, 5] rfl rfl (zall rfl rfl) ⟨bx rfl rfl rfl, bx rfl rfl rfl, oa rfl, oa rfl, oa rfl, oa rfl, trivial⟩, resA1 (v := .c (.bool c_3.1)) rfl rfl, ⟨rfl, rfl⟩⟩
theorem fair_division_together_f0_p31_ok (F : Nat) (a0_v_caps : List Int) (a0b_Nodes : Int) (a0b_Arcs : List SArc) (a0_v_x : List Int) (a0_v_active : List Bool) (a0_v_trial : List Int) (r : (List SArc) × (List Int) × (List Int)) (h : fair_division_together_f0_p31 F a0_v_caps a0b_Nodes a0b_Arcs a0_v_x a0_v_active a0_v_trial = some r) :
  SFun Try.prog 43 [.box [vI a0_v_caps, .fnp 31 1, .own 3 a0_v_x.length, .own 4 a0_v_active.length, .own 5 a0_v_trial.length], .box [.int .i64 a0b_Nodes, .own 2 a0b_Arcs.length], aSArc 63 a0b_Arcs, aI 3 a0_v_x, aB 4 a0_v_active, aI 3 a0_v_trial] [.c (.ptr 0 0)] (fun x os => x = .t [] ∧ os = [.box [vI a0_v_caps, .fnp 31 1, .own 3 r.2.1.length, .own 4 a0_v_active.length, .own 5 r.2.2.length], .box [.int .i64 a0b_Nodes, .own 2 r.1.length], aSArc 63 r.1, aI 3 r.2.1, aB 4 a0_v_active, aI 3 r.2.2]) := by
 refine SFun.of (n := 74) Try.func43 rfl rfl rfl ?_
 unfold fair_division_together_f0_p31 at h
 show SCode _ _ _ ⟨[(0, .c (.ptr 0 0))], [.box [vI a0_v_caps, .fnp 31 1, .own 3 a0_v_x.length, .own 4 a0_v_active.length, .own 5 a0_v_trial.length], .box [.int .i64 a0b_Nodes, .own 2 a0b_Arcs.length], aSArc 63 a0b_Arcs, aI 3 a0_v_x, aB 4 a0_v_active, aI 3 a0_v_trial]⟩ _
 refine SCode.seq (SCode.region (sa rfl rfl (SOps.nil ?_)))
 let S14 := fun (most_1 : Int) => (⟨[(0, .c (.ptr 0 0)), (2, ci most_1)], [.box [vI a0_v_caps, .fnp 31 1, .own 3 a0_v_x.length, .own 4 a0_v_active.length, .own 5 a0_v_trial.length], .box [.int .i64 a0b_Nodes, .own 2 a0b_Arcs.length], aSArc 63 a0b_Arcs, aI 3 a0_v_x, aB 4 a0_v_active, aI 3 a0_v_trial]⟩ : St)
 refine SCode.join (σ := Int) (S := fun s => (S14 s)) (g := fun s => fair_division_together_f0_p31_p36 F a0_v_caps a0b_Nodes a0b_Arcs a0_v_x a0_v_active a0_v_trial s = some r) ?_ ?_
 rotate_left
 ·refine SCode.seq (SCode.region (sm rfl rfl (sq rfl rfl (q_nilCheck rfl rfl rfl) (sq rfl rfl (q_field_ptr rfl rfl fd68_2) (sq rfl rfl (q_load_ptr rfl rfl rfl rfl ty22) (sq rfl rfl (q_len_own rfl rfl sl22) (sm rfl rfl (SOps.nil (SCode.block ?_)))))))))
  let S13 := fun (most_44 : Int) => fun (t13_45 : Int) => (⟨[(0, .c (.ptr 0 0)), (2, ci most_44), (11, .c (.own 3 a0_v_x.length)), (12, ci (((a0_v_x).length : Int))), (13, ci t13_45)], [.box [vI a0_v_caps, .fnp 31 1, .own 3 a0_v_x.length, .own 4 a0_v_active.length, .own 5 a0_v_trial.length], .box [.int .i64 a0b_Nodes, .own 2 a0b_Arcs.length], aSArc 63 a0b_Arcs, aI 3 a0_v_x, aB 4 a0_v_active, aI 3 a0_v_trial]⟩ : St)
  refine SCode.sub (st' := (S13 0 0)) (sub_gen [0, 1, 2, 3, 4, 5] rfl rfl (zall rfl rfl) ⟨bx rfl rfl rfl, bx rfl rfl rfl, oa rfl, oa rfl, oa rfl, oa rfl, trivial⟩) ?_
  refine (SCode.loop (σ := Nat × (Int × Int)) (S := fun s => (S13 s.2.1 s.2.2)) (g := fun s => fair_division_together_f0_p31_l53 F a0_v_caps a0b_Nodes a0b_Arcs a0_v_x a0_v_active a0_v_trial s.1 s.2.1 s.2.2 = some r) (μ := fun s => s.1) (F, (0, 0)) h ?_)
  rintro ⟨n_53, ⟨most_44, t13_45⟩⟩ h
  try dsimp only at h
  show SCode _ _ _ (S13 most_44 t13_45) _
  cases n_53 with
  | zero => cases h
  | succ n_53 =>
   rw [fair_division_together_f0_p31_l53] at h
   unfold fair_division_together_f0_p31_b53 at h
   refine SCode.seq (SCode.region (sq rfl rfl (q_lss rfl rfl rfl) (SOps.nil (SCode.seq ?_))))
   rcases cond_out h with ⟨g54, h⟩ | ⟨g54, h⟩
   ·refine SCode.cond_t rfl g54 (SCode.skip ?_)
    let S12 := fun (most_55 : Int) => (⟨[(0, .c (.ptr 0 0)), (2, ci most_55), (11, .c (.own 3 a0_v_x.length)), (12, ci (((a0_v_x).length : Int))), (13, ci t13_45)], [.box [vI a0_v_caps, .fnp 31 1, .own 3 a0_v_x.length, .own 4 a0_v_active.length, .own 5 a0_v_trial.length], .box [.int .i64 a0b_Nodes, .own 2 a0b_Arcs.length], aSArc 63 a0b_Arcs, aI 3 a0_v_x, aB 4 a0_v_active, aI 3 a0_v_trial]⟩ : St)
    refine SCode.join (σ := Int) (S := fun s => (S12 s)) (g := fun s => fair_division_together_f0_p31_p56 t13_45 (fun most_44 t13_45 => fair_division_together_f0_p31_l53 F a0_v_caps a0b_Nodes a0b_Arcs a0_v_x a0_v_active a0_v_trial n_53 most_44 t13_45) s = some r) ?_ ?_
    rotate_left
    ·refine SCode.block (SCode.seq ?_)
     obtain ⟨g57, h⟩ := guard_out h
     refine SCode.region (sm rfl rfl (sq rfl rfl (q_index_own rfl rfl rfl sl22 g57.1 g57.2) (sq rfl rfl (q_load_aptr rfl rfl rfl (toNat_lt g57) rfl ty3) (sa rfl rfl (sa rfl rfl (SOps.nil (SCode.seq ?_)))))))
     obtain ⟨g58, h⟩ := guard_out h
     refine SCode.region (sm rfl rfl (sq rfl rfl (q_nilCheck rfl rfl rfl) (sq rfl rfl (q_field_ptr rfl rfl fd68_3) (sq rfl rfl (q_load_ptr rfl rfl rfl rfl ty53) (sm rfl rfl (sq rfl rfl (q_index_own rfl rfl rfl sl53 g58.1 g58.2) (sq rfl rfl (q_load_aptr rfl rfl rfl (toNat_lt g58) rfl ty4) (SOps.nil ?_))))))))
     rcases cond_out h with ⟨g59, h⟩ | ⟨g59, h⟩
     ·refine SCode.cond_t rfl g59 ?_
      obtain ⟨g60, h⟩ := guard_out h
      refine SCode.region (sm rfl rfl (sm rfl rfl (sq rfl rfl (q_nilCheck rfl rfl rfl) (sq rfl rfl (q_field_ptr rfl rfl fd68_0) (sq rfl rfl (q_load_ptr rfl rfl rfl rfl ty22) (sm rfl rfl (sq rfl rfl (q_index_vec rfl rfl rfl sl22 rfl g60.1 g60.2) (sq rfl rfl (q_load_eptr rfl rfl ty3) (sm rfl rfl (sq rfl rfl (q_sub rfl rfl rfl) (sq rfl rfl (q_max rfl rfl rfl) (sa rfl rfl (SOps.sub (st' := ⟨[(0, .c (.ptr 0 0)), (2, ci ((if most_44 < IntKind.wrap .i64 (a0_v_caps.getD t13_45.toNat 0 - a0_v_x.getD t13_45.toNat 0) then IntKind.wrap .i64 (a0_v_caps.getD t13_45.toNat 0 - a0_v_x.getD t13_45.toNat 0) else most_44))), (11, .c (.own 3 a0_v_x.length)), (12, ci (((a0_v_x).length : Int))), (13, ci t13_45)], [.box [vI a0_v_caps, .fnp 31 1, .own 3 a0_v_x.length, .own 4 a0_v_active.length, .own 5 a0_v_trial.length], .box [.int .i64 a0b_Nodes, .own 2 a0b_Arcs.length], aSArc 63 a0b_Arcs, aI 3 a0_v_x, aB 4 a0_v_active, aI 3 a0_v_trial]⟩) (sub_gen [0, 1, 2, 3, 4, 5] rfl rfl (zall rfl rfl) ⟨bx rfl rfl rfl, bx rfl rfl rfl, oa rfl, oa rfl, oa rfl, oa rfl, trivial⟩) (SOps.nil ?_))))))))))))))
      exact ⟨(if most_44 < IntKind.wrap .i64 (a0_v_caps.getD t13_45.toNat 0 - a0_v_x.getD t13_45.toNat 0) then IntKind.wrap .i64 (a0_v_caps.getD t13_45.toNat 0 - a0_v_x.getD t13_45.toNat 0) else most_44), h, sub_gen [0, 1, 2, 3, 4, 5] rfl rfl (zall rfl rfl) ⟨bx rfl rfl rfl, bx rfl rfl rfl, oa rfl, oa rfl, oa rfl, oa rfl, trivial⟩⟩
     refine SCode.cond_f rfl g59 (SCode.skip ?_)
     exact ⟨most_44, h, sub_gen [0, 1, 2, 3, 4, 5] rfl rfl (zall rfl rfl) ⟨bx rfl rfl rfl, bx rfl rfl rfl, oa rfl, oa rfl, oa rfl, oa rfl, trivial⟩⟩
    rintro most_55 h
    show SCode _ _ _ (S12 most_55) _
    try dsimp only at h
    unfold fair_division_together_f0_p31_p56 at h
    refine SCode.region (sq rfl rfl (q_add rfl rfl rfl) (sm rfl rfl (SOps.nil ?_)))
    exact ⟨(n_53, (most_55, IntKind.wrap .i64 (t13_45 + 1))), h, Nat.lt_succ_self n_53, sub_gen [0, 1, 2, 3, 4, 5] rfl rfl (zall rfl rfl) ⟨bx rfl rfl rfl, bx rfl rfl rfl, oa rfl, oa rfl, oa rfl, oa rfl, trivial⟩⟩
   refine SCode.cond_f rfl g54 (SCode.exit ?_)
   exact ⟨most_44, h, sub_gen [0, 1, 2, 3, 4, 5] rfl rfl (zall rfl rfl) ⟨bx rfl rfl rfl, bx rfl rfl rfl, oa rfl, oa rfl, oa rfl, oa rfl, trivial⟩⟩
 rintro most_1 h
 show SCode _ _ _ (S14 most_1) _
 try dsimp only at h
 unfold fair_division_together_f0_p31_p36 at h
 refine SCode.seq (SCode.region (sm rfl rfl (sa rfl rfl (SOps.nil ?_))))
 let S9 := fun (d_2 : Int) => fun (o2_3 : List SArc) => fun (o5_4 : List Int) => (⟨[(0, .c (.ptr 0 0)), (5, ci d_2)], [.box [vI a0_v_caps, .fnp 31 1, .own 3 a0_v_x.length, .own 4 a0_v_active.length, .own 5 o5_4.length], .box [.int .i64 a0b_Nodes, .own 2 o2_3.length], aSArc 63 o2_3, aI 3 a0_v_x, aB 4 a0_v_active, aI 3 o5_4]⟩ : St)
 refine SCode.join (σ := Int × (List SArc) × (List Int)) (S := fun s => (S9 s.1 s.2.1 s.2.2)) (g := fun s => fair_division_together_f0_p31_p7 F a0_v_caps a0b_Nodes a0_v_x a0_v_active s.1 s.2.1 s.2.2 = some r) ?_ ?_
 rotate_left
 ·let S8 := fun (t45_8 : Bool) => fun (o2_9 : List SArc) => fun (o5_10 : List Int) => (⟨[(0, .c (.ptr 0 0)), (2, ci most_1), (5, ci most_1), (45, .c (.bool t45_8))], [.box [vI a0_v_caps, .fnp 31 1, .own 3 a0_v_x.length, .own 4 a0_v_active.length, .own 5 o5_10.length], .box [.int .i64 a0b_Nodes, .own 2 o2_9.length], aSArc 63 o2_9, aI 3 a0_v_x, aB 4 a0_v_active, aI 3 o5_10]⟩ : St)
  refine SCode.join (σ := Bool × (List SArc) × (List Int)) (S := fun s => (S8 s.1 s.2.1 s.2.2)) (g := fun s => fair_division_together_f0_p31_p32 F a0_v_caps a0b_Nodes a0_v_x a0_v_active most_1 s.1 s.2.1 s.2.2 = some r) ?_ ?_
  rotate_left
  ·rcases cond_out h with ⟨g33, h⟩ | ⟨g33, h⟩
   ·obtain ⟨c_34, g35, h⟩ := bind_out h
    try dsimp only at h
    refine SCode.region (sm rfl rfl (sq rfl rfl (q_gtr rfl rfl rfl) (sm rfl rfl (SOps.q rfl (.guard 2 40 true rfl rfl (gT g33)) rfl (q_move rfl rfl) (SOps.q rfl (.guard 2 40 true rfl rfl (gT g33)) rfl (q_move rfl rfl) (SOps.e rfl (.guard 2 40 true rfl rfl (gT g33)) (e_call (fair_division_raisable_f0_p31_ok F a0_v_caps a0b_Nodes a0b_Arcs a0_v_x a0_v_active a0_v_trial most_1 c_34 g35) [0, 1, 2, 3, 4, 5] rfl fn50 rfl rfl rfl rfl rfl rfl rfl rfl) (SOps.q rfl (.guard 2 40 true rfl rfl (gT g33)) rfl (q_not rfl rfl) (sq rfl rfl (q_pick_t rfl rfl g33 rfl) (SOps.nil ?_)))))))))
    exact ⟨((!c_34.1), c_34.2.1, c_34.2.2), h, sub_gen [0, 1, 2, 3, 4, 5] rfl rfl (zall rfl rfl) ⟨bx rfl rfl rfl, bx rfl rfl rfl, oa rfl, oa rfl, oa rfl, oa rfl, trivial⟩⟩
   refine SCode.region (sm rfl rfl (sq rfl rfl (q_gtr rfl rfl rfl) (sm rfl rfl (SOps.skip rfl 2 40 true rfl rfl (.inl (gF g33)) rfl (SOps.skip rfl 2 40 true rfl rfl (.inl (gF g33)) rfl (SOps.skip rfl 2 40 true rfl rfl (.inl (gF g33)) rfl (SOps.skip rfl 2 40 true rfl rfl (.inl (gF g33)) rfl (sq rfl rfl (q_pick_f rfl rfl g33 rfl) (SOps.nil ?_)))))))))
   exact ⟨(false, a0b_Arcs, a0_v_trial), h, sub_gen [0, 1, 2, 3, 4, 5] rfl rfl (zall rfl rfl) ⟨bx rfl rfl rfl, bx rfl rfl rfl, oa rfl, oa rfl, oa rfl, oa rfl, trivial⟩⟩
  rintro ⟨t45_8, o2_9, o5_10⟩ h
  show SCode _ _ _ (S8 t45_8 o2_9 o5_10) _
  try dsimp only at h
  unfold fair_division_together_f0_p31_p32 at h
  rcases cond_out h with ⟨g11, h⟩ | ⟨g11, h⟩
  ·refine SCode.cond_t rfl g11 (SCode.seq (SCode.region (sa rfl rfl (SOps.nil (SCode.seq (SCode.region (sm rfl rfl (sa rfl rfl (SOps.nil (SCode.block ?_))))))))))
   let S7 := fun (d_19 : Int) => fun (bad_20 : Int) => fun (o2_21 : List SArc) => fun (o5_22 : List Int) => (⟨[(0, .c (.ptr 0 0)), (5, ci d_19), (6, ci bad_20)], [.box [vI a0_v_caps, .fnp 31 1, .own 3 a0_v_x.length, .own 4 a0_v_active.length, .own 5 o5_22.length], .box [.int .i64 a0b_Nodes, .own 2 o2_21.length], aSArc 63 o2_21, aI 3 a0_v_x, aB 4 a0_v_active, aI 3 o5_22]⟩ : St)
   refine SCode.sub (st' := (S7 0 most_1 o2_9 o5_10)) (sub_gen [0, 1, 2, 3, 4, 5] rfl rfl (zall rfl rfl) ⟨bx rfl rfl rfl, bx rfl rfl rfl, oa rfl, oa rfl, oa rfl, oa rfl, trivial⟩) ?_
   refine (SCode.loop (σ := Nat × (Int × Int × (List SArc) × (List Int))) (S := fun s => (S7 s.2.1 s.2.2.1 s.2.2.2.1 s.2.2.2.2)) (g := fun s => fair_division_together_f0_p31_l27 F a0_v_caps a0b_Nodes a0_v_x a0_v_active s.1 s.2.1 s.2.2.1 s.2.2.2.1 s.2.2.2.2 = some r) (μ := fun s => s.1) (F, (0, most_1, o2_9, o5_10)) h ?_)
   rintro ⟨n_27, ⟨d_19, bad_20, o2_21, o5_22⟩⟩ h
   try dsimp only at h
   show SCode _ _ _ (S7 d_19 bad_20 o2_21 o5_22) _
   cases n_27 with
   | zero => cases h
   | succ n_27 =>
    rw [fair_division_together_f0_p31_l27] at h
    unfold fair_division_together_f0_p31_b27 at h
    refine SCode.seq (SCode.seq (SCode.region (sm rfl rfl (sm rfl rfl (sq rfl rfl (q_sub rfl rfl rfl) (sq rfl rfl (q_gtr rfl rfl rfl) (SOps.nil ?_)))))))
    rcases cond_out h with ⟨g28, h⟩ | ⟨g28, h⟩
    ·refine SCode.cond_t rfl g28 (SCode.skip (SCode.block (SCode.seq (SCode.region (sm rfl rfl (sm rfl rfl (sm rfl rfl (sq rfl rfl (q_sub rfl rfl rfl) (sq rfl rfl (q_quo rfl rfl rfl (by decide)) (sq rfl rfl (q_add rfl rfl rfl) (sa rfl rfl (SOps.nil (SCode.seq ?_)))))))))))))
     obtain ⟨c_29, g30, h⟩ := bind_out h
     try dsimp only at h
     refine SCode.region (sm rfl rfl (sm rfl rfl (se rfl rfl (e_call (fair_division_raisable_f0_p31_ok F a0_v_caps a0b_Nodes o2_21 a0_v_x a0_v_active o5_22 (IntKind.wrap .i64 (d_19 + IntKind.wrap .i64 (Int.tdiv (IntKind.wrap .i64 (bad_20 - d_19)) 2))) c_29 g30) [0, 1, 2, 3, 4, 5] rfl fn50 rfl rfl rfl rfl rfl rfl rfl rfl) (SOps.nil ?_))))
     rcases cond_out h with ⟨g31, h⟩ | ⟨g31, h⟩
     ·refine SCode.cond_t rfl g31 (SCode.region (sm rfl rfl (sa rfl rfl (SOps.nil ?_))))
      exact ⟨(n_27, (IntKind.wrap .i64 (d_19 + IntKind.wrap .i64 (Int.tdiv (IntKind.wrap .i64 (bad_20 - d_19)) 2)), bad_20, c_29.2.1, c_29.2.2)), h, Nat.lt_succ_self n_27, sub_gen [0, 1, 2, 3, 4, 5] rfl rfl (zall rfl rfl) ⟨bx rfl rfl rfl, bx rfl rfl rfl, oa rfl, oa rfl, oa rfl, oa rfl, trivial⟩⟩
     refine SCode.cond_f rfl g31 (SCode.region (sm rfl rfl (sa rfl rfl (SOps.nil ?_))))
     exact ⟨(n_27, (d_19, IntKind.wrap .i64 (d_19 + IntKind.wrap .i64 (Int.tdiv (IntKind.wrap .i64 (bad_20 - d_19)) 2)), c_29.2.1, c_29.2.2)), h, Nat.lt_succ_self n_27, sub_gen [0, 1, 2, 3, 4, 5] rfl rfl (zall rfl rfl) ⟨bx rfl rfl rfl, bx rfl rfl rfl, oa rfl, oa rfl, oa rfl, oa rfl, trivial⟩⟩
    refine SCode.cond_f rfl g28 (SCode.exit ?_)
    exact ⟨(d_19, o2_21, o5_22), h, sub_gen [0, 1, 2, 3, 4, 5] rfl rfl (zall rfl rfl) ⟨bx rfl rfl rfl, bx rfl rfl rfl, oa rfl, oa rfl, oa rfl, oa rfl, trivial⟩⟩
  refine SCode.cond_f rfl g11 (SCode.skip ?_)
  exact ⟨(most_1, o2_9, o5_10), h, sub_gen [0, 1, 2, 3, 4, 5] rfl rfl (zall rfl rfl) ⟨bx rfl rfl rfl, bx rfl rfl rfl, oa rfl, oa rfl, oa rfl, oa rfl, trivial⟩⟩
 rintro ⟨d_2, o2_3, o5_4⟩ h
 show SCode _ _ _ (S9 d_2 o2_3 o5_4) _
 try dsimp only at h
 unfold fair_division_together_f0_p31_p7 at h
 refine SCode.seq ?_
 obtain ⟨c_5, g6, h⟩ := bind_out h
 try dsimp only at h
 refine SCode.region (sm rfl rfl (sm rfl rfl (se rfl rfl (e_call (fair_division_raise_f0_p31_ok F a0_v_caps a0b_Nodes o2_3 a0_v_x a0_v_active o5_4 d_2 c_5 g6) [0, 1, 2, 3, 4, 5] rfl fn51 rfl rfl rfl rfl rfl rfl rfl rfl) (SOps.nil (SCode.sub (st' := ⟨[(0, .c (.ptr 0 0))], [.box [vI a0_v_caps, .fnp 31 1, .own 3 a0_v_x.length, .own 4 a0_v_active.length, .own 5 c_5.length], .box [.int .i64 a0b_Nodes, .own 2 o2_3.length], aSArc 63 o2_3, aI 3 a0_v_x, aB 4 a0_v_active, aI 3 c_5]⟩) (sub_gen [0, 1, 2, 3, 4, 5] rfl rfl (zall rfl rfl) ⟨bx rfl rfl rfl, bx rfl rfl rfl, oa rfl, oa rfl, oa rfl, oa rfl, trivial⟩) (SCode.drawK mixed [[], [0], [0, 1], [0, 1, 2], [], [4], [4, 5], [4, 5, 6], [0, 1, 2, 3, 4, 5, 6, 7]] 8 1 rfl rfl (qm rfl rfl (qr rfl rfl (q_nilCheck rfl rfl rfl) (qr rfl rfl (q_field_ptr rfl rfl fd68_2) (qr rfl rfl (q_load_ptr rfl rfl rfl rfl ty22) (qm rfl rfl (qr rfl rfl (q_nilCheck rfl rfl rfl) (qr rfl rfl (q_field_ptr rfl rfl fd68_4) (qr rfl rfl (q_load_ptr rfl rfl rfl rfl ty22) (QK.nil ?_)))))))))))))))
 refine se rfl rfl (e_copyL (c := (cInt .i64)) (d0 := 0) (l := a0_v_x) (s := c_5) (lo := 0) (n := (a0_v_x).length) (m := min (c_5).length ((a0_v_x).length)) rfl rfl rfl (.inr ⟨rfl, rfl⟩) rfl rfl (.inr (.inr ⟨_, _, rfl, rfl⟩)) sl22 rfl oneInt (Nat.le_of_eq (Nat.zero_add _)) rfl) (SOps.sub (st' := ⟨[], [.box [vI a0_v_caps, .fnp 31 1, .own 3 (copyL a0_v_x 0 ((a0_v_x).length) c_5).length, .own 4 a0_v_active.length, .own 5 c_5.length], .box [.int .i64 a0b_Nodes, .own 2 o2_3.length], aSArc 63 o2_3, aI 3 (copyL a0_v_x 0 ((a0_v_x).length) c_5), aB 4 a0_v_active, aI 3 c_5]⟩) (sub_gen [0, 1, 2, 3, 4, 5] rfl rfl trivial ⟨⟨_, rfl, ⟨ii rfl rfl, ii rfl rfl, .inl ⟨rfl, congrArg (Cell.own 3) (copyL_len (l := a0_v_x) (s := c_5) (lo := 0) (n := (a0_v_x).length) (Nat.le_of_eq (Nat.zero_add _))).symm⟩, ii rfl rfl, ii rfl rfl, trivial⟩⟩, bx rfl rfl rfl, oa rfl, oa rfl, oa rfl, oa rfl, trivial⟩) (SOps.nil ?_))
 obtain rfl := Option.some.inj h
 exact ⟨⟨[], [.box [vI a0_v_caps, .fnp 31 1, .own 3 (copyL a0_v_x 0 ((a0_v_x).length) c_5).length, .own 4 a0_v_active.length, .own 5 c_5.length], .box [.int .i64 a0b_Nodes, .own 2 o2_3.length], aSArc 63 o2_3, aI 3 (copyL a0_v_x 0 ((a0_v_x).length) c_5), aB 4 a0_v_active, aI 3 c_5]⟩, _, sub_gen [0, 1, 2, 3, 4, 5] rfl rfl trivial ⟨bx rfl rfl rfl, bx rfl rfl rfl, oa rfl, oa rfl, oa rfl, oa rfl, trivial⟩, resA0 rfl, ⟨rfl, rfl⟩⟩
theorem fair_division_single_f0_p31_ok (F : Nat) (a0_v_caps : List Int) (a0b_Nodes : Int) (a0b_Arcs : List SArc) (a0_v_x : List Int) (a0_v_active : List Bool) (a0_v_trial : List Int) (r : Bool × (List SArc) × (List Int) × (List Bool) × (List Int)) (h : fair_division_single_f0_p31 F a0_v_caps a0b_Nodes a0b_Arcs a0_v_x a0_v_active a0_v_trial = some r) :
  SFun Try.prog 44 [.box [vI a0_v_caps, .fnp 31 1, .own 3 a0_v_x.length, .own 4 a0_v_active.length, .own 5 a0_v_trial.length], .box [.int .i64 a0b_Nodes, .own 2 a0b_Arcs.length], aSArc 63 a0b_Arcs, aI 3 a0_v_x, aB 4 a0_v_active, aI 3 a0_v_trial] [.c (.ptr 0 0)] (fun x os => x = .c (.bool r.1) ∧ os = [.box [vI a0_v_caps, .fnp 31 1, .own 3 r.2.2.1.length, .own 4 r.2.2.2.1.length, .own 5 r.2.2.2.2.length], .box [.int .i64 a0b_Nodes, .own 2 r.2.1.length], aSArc 63 r.2.1, aI 3 r.2.2.1, aB 4 r.2.2.2.1, aI 3 r.2.2.2.2]) := by
 refine SFun.of (n := 80) Try.func44 rfl rfl rfl ?_
 unfold fair_division_single_f0_p31 at h
 show SCode _ _ _ ⟨[(0, .c (.ptr 0 0))], [.box [vI a0_v_caps, .fnp 31 1, .own 3 a0_v_x.length, .own 4 a0_v_active.length, .own 5 a0_v_trial.length], .box [.int .i64 a0b_Nodes, .own 2 a0b_Arcs.length], aSArc 63 a0b_Arcs, aI 3 a0_v_x, aB 4 a0_v_active, aI 3 a0_v_trial]⟩ _
 refine SCode.seq (SCode.region (sa rfl rfl (SOps.nil (SCode.seq (SCode.region (sa rfl rfl (SOps.nil ?_)))))))
 let S21 := fun (left_1 : Bool) => fun (o2_2 : List SArc) => fun (o3_3 : List Int) => fun (o4_4 : List Bool) => fun (o5_5 : List Int) => (⟨[(3, .c (.bool left_1))], [.box [vI a0_v_caps, .fnp 31 1, .own 3 o3_3.length, .own 4 o4_4.length, .own 5 o5_5.length], .box [.int .i64 a0b_Nodes, .own 2 o2_2.length], aSArc 63 o2_2, aI 3 o3_3, aB 4 o4_4, aI 3 o5_5]⟩ : St)
 refine SCode.join (σ := Bool × (List SArc) × (List Int) × (List Bool) × (List Int)) (S := fun s => (S21 s.1 s.2.1 s.2.2.1 s.2.2.2.1 s.2.2.2.2)) (g := fun s => fair_division_single_f0_p31_p6 s.1 s.2.1 s.2.2.1 s.2.2.2.1 s.2.2.2.2 = some r) ?_ ?_
 rotate_left
 ·refine SCode.seq (SCode.region (sm rfl rfl (sq rfl rfl (q_nilCheck rfl rfl rfl) (sq rfl rfl (q_field_ptr rfl rfl fd68_2) (sq rfl rfl (q_load_ptr rfl rfl rfl rfl ty22) (sq rfl rfl (q_len_own rfl rfl sl22) (sm rfl rfl (SOps.nil (SCode.block ?_)))))))))
  let S20 := fun (left_30 : Bool) => fun (t10_31 : Int) => fun (o2_32 : List SArc) => fun (o3_33 : List Int) => fun (o4_34 : List Bool) => fun (o5_35 : List Int) => (⟨[(0, .c (.ptr 0 0)), (3, .c (.bool left_30)), (9, ci (((a0_v_x).length : Int))), (10, ci t10_31)], [.box [vI a0_v_caps, .fnp 31 1, .own 3 o3_33.length, .own 4 o4_34.length, .own 5 o5_35.length], .box [.int .i64 a0b_Nodes, .own 2 o2_32.length], aSArc 63 o2_32, aI 3 o3_33, aB 4 o4_34, aI 3 o5_35]⟩ : St)
  refine SCode.sub (st' := (S20 false 0 a0b_Arcs a0_v_x a0_v_active a0_v_trial)) (sub_gen [0, 1, 2, 3, 4, 5] rfl rfl (zall rfl rfl) ⟨bx rfl rfl rfl, bx rfl rfl rfl, oa rfl, oa rfl, oa rfl, oa rfl, trivial⟩) ?_
  refine (SCode.loop (σ := Nat × (Bool × Int × (List SArc) × (List Int) × (List Bool) × (List Int))) (S := fun s => (S20 s.2.1 s.2.2.1 s.2.2.2.1 s.2.2.2.2.1 s.2.2.2.2.2.1 s.2.2.2.2.2.2)) (g := fun s => fair_division_single_f0_p31_l59 F a0_v_caps a0b_Nodes a0_v_x s.1 s.2.1 s.2.2.1 s.2.2.2.1 s.2.2.2.2.1 s.2.2.2.2.2.1 s.2.2.2.2.2.2 = some r) (μ := fun s => s.1) (F, (false, 0, a0b_Arcs, a0_v_x, a0_v_active, a0_v_trial)) h ?_)
  rintro ⟨n_59, ⟨left_30, t10_31, o2_32, o3_33, o4_34, o5_35⟩⟩ h
  try dsimp only at h
  show SCode _ _ _ (S20 left_30 t10_31 o2_32 o3_33 o4_34 o5_35) _
  cases n_59 with
  | zero => cases h
  | succ n_59 =>
   rw [fair_division_single_f0_p31_l59] at h
   unfold fair_division_single_f0_p31_b59 at h
   refine SCode.seq (SCode.region (sq rfl rfl (q_lss rfl rfl rfl) (SOps.nil (SCode.seq ?_))))
   rcases cond_out h with ⟨g60, h⟩ | ⟨g60, h⟩
   ·refine SCode.cond_t rfl g60 (SCode.skip ?_)
    let S19 := fun (left_61 : Bool) => fun (o2_62 : List SArc) => fun (o3_63 : List Int) => fun (o4_65 : List Bool) => fun (o5_64 : List Int) => (⟨[(0, .c (.ptr 0 0)), (3, .c (.bool left_61)), (9, ci (((a0_v_x).length : Int))), (10, ci t10_31)], [.box [vI a0_v_caps, .fnp 31 1, .own 3 o3_63.length, .own 4 o4_65.length, .own 5 o5_64.length], .box [.int .i64 a0b_Nodes, .own 2 o2_62.length], aSArc 63 o2_62, aI 3 o3_63, aB 4 o4_65, aI 3 o5_64]⟩ : St)
    refine SCode.join (σ := Bool × (List SArc) × (List Int) × (List Bool) × (List Int)) (S := fun s => (S19 s.1 s.2.1 s.2.2.1 s.2.2.2.1 s.2.2.2.2)) (g := fun s => fair_division_single_f0_p31_p66 t10_31 (fun left_30 t10_31 o2_32 o3_33 o4_34 o5_35 => fair_division_single_f0_p31_l59 F a0_v_caps a0b_Nodes a0_v_x n_59 left_30 t10_31 o2_32 o3_33 o4_34 o5_35) s.1 s.2.1 s.2.2.1 s.2.2.2.1 s.2.2.2.2 = some r) ?_ ?_
    rotate_left
    ·refine SCode.block (SCode.seq (SCode.region (sm rfl rfl (sa rfl rfl (SOps.nil (SCode.seq (SCode.seq ?_)))))))
     obtain ⟨g67, h⟩ := guard_out h
     refine SCode.region (sm rfl rfl (sq rfl rfl (q_nilCheck rfl rfl rfl) (sq rfl rfl (q_field_ptr rfl rfl fd68_3) (sq rfl rfl (q_load_ptr rfl rfl rfl rfl ty53) (sm rfl rfl (sq rfl rfl (q_index_own rfl rfl rfl sl53 g67.1 g67.2) (sq rfl rfl (q_load_aptr rfl rfl rfl (toNat_lt g67) rfl ty4) (sq rfl rfl (q_not rfl rfl) (SOps.nil ?_)))))))))
     rcases cond_out h with ⟨g68, h⟩ | ⟨g68, h⟩
     ·refine SCode.cond_t rfl g68 (SCode.exit ?_)
      exact ⟨(left_30, o2_32, o3_33, o4_34, o5_35), h, sub_gen [0, 1, 2, 3, 4, 5] rfl rfl (zall rfl rfl) ⟨bx rfl rfl rfl, bx rfl rfl rfl, oa rfl, oa rfl, oa rfl, oa rfl, trivial⟩⟩
     refine SCode.cond_f rfl g68 (SCode.skip ?_)
     let S18 := fun (o2_69 : List SArc) => fun (o5_70 : List Int) => (⟨[(0, .c (.ptr 0 0)), (3, .c (.bool left_30)), (4, ci t10_31), (9, ci (((a0_v_x).length : Int))), (10, ci t10_31)], [.box [vI a0_v_caps, .fnp 31 1, .own 3 o3_33.length, .own 4 o4_34.length, .own 5 o5_70.length], .box [.int .i64 a0b_Nodes, .own 2 o2_69.length], aSArc 63 o2_69, aI 3 o3_33, aB 4 o4_34, aI 3 o5_70]⟩ : St)
     refine SCode.join (σ := (List SArc) × (List Int)) (S := fun s => (S18 s.1 s.2)) (g := fun s => fair_division_single_f0_p31_p72 left_30 t10_31 o3_33 o4_34 (fun left_30 t10_31 o2_32 o3_33 o4_34 o5_35 => fair_division_single_f0_p31_l59 F a0_v_caps a0b_Nodes a0_v_x n_59 left_30 t10_31 o2_32 o3_33 o4_34 o5_35) s.1 s.2 = some r) ?_ ?_
     rotate_left
     ·refine SCode.seq (SCode.sub (st' := ⟨[(0, .c (.ptr 0 0)), (3, .c (.bool left_30)), (4, ci t10_31), (9, ci (((a0_v_x).length : Int))), (10, ci t10_31)], [.box [vI a0_v_caps, .fnp 31 1, .own 3 o3_33.length, .own 4 o4_34.length, .own 5 o5_35.length], .box [.int .i64 a0b_Nodes, .own 2 o2_32.length], aSArc 63 o2_32, aI 3 o3_33, aB 4 o4_34, aI 3 o5_35]⟩) (sub_gen [0, 1, 2, 3, 4, 5] rfl rfl (zall rfl rfl) ⟨bx rfl rfl rfl, bx rfl rfl rfl, oa rfl, oa rfl, oa rfl, oa rfl, trivial⟩) ?_)
      obtain ⟨g73, h⟩ := guard_out h
      obtain ⟨g74, h⟩ := guard_out h
      refine SCode.drawK mixed [[], [0], [0, 1], [0, 1, 2], [], [0, 1, 2, 3, 4], [0, 1, 2, 3, 4, 5], [], [7], [7, 8], [7, 8, 9], [], [7, 8, 9, 10, 11], [7, 8, 9, 10, 11, 12], [0, 1, 2, 3, 4, 5, 6, 7, 8, 9, 10, 11, 12, 13]] 15 0 rfl rfl (qm rfl rfl (qr rfl rfl (q_nilCheck rfl rfl rfl) (qr rfl rfl (q_field_ptr rfl rfl fd68_2) (qr rfl rfl (q_load_ptr rfl rfl rfl rfl ty22) (qm rfl rfl (qr rfl rfl (q_index_own rfl rfl rfl sl22 g73.1 g73.2) (qr rfl rfl (q_load_aptr rfl rfl rfl (toNat_lt g73) rfl ty3) (qm rfl rfl (qr rfl rfl (q_nilCheck rfl rfl rfl) (qr rfl rfl (q_field_ptr rfl rfl fd68_0) (qr rfl rfl (q_load_ptr rfl rfl rfl rfl ty22) (qm rfl rfl (qr rfl rfl (q_index_vec rfl rfl rfl sl22 rfl g74.1 g74.2) (qr rfl rfl (q_load_eptr rfl rfl ty3) (qr rfl rfl (q_lss rfl rfl rfl) ?_)))))))))))))))
      refine QK.nil (SOps.sub (st' := ⟨[(0, .c (.ptr 0 0)), (3, .c (.bool left_30)), (4, ci t10_31), (9, ci (((a0_v_x).length : Int))), (10, ci t10_31), (35, .c (.bool (decide (o3_33.getD t10_31.toNat 0 < a0_v_caps.getD t10_31.toNat 0))))], [.box [vI a0_v_caps, .fnp 31 1, .own 3 o3_33.length, .own 4 o4_34.length, .own 5 o5_35.length], .box [.int .i64 a0b_Nodes, .own 2 o2_32.length], aSArc 63 o2_32, aI 3 o3_33, aB 4 o4_34, aI 3 o5_35]⟩) (sub_gen [0, 1, 2, 3, 4, 5] rfl rfl (zall rfl rfl) ⟨bx rfl rfl rfl, bx rfl rfl rfl, oa rfl, oa rfl, oa rfl, oa rfl, trivial⟩) (SOps.nil ?_))
      rcases cond_out h with ⟨g75, h⟩ | ⟨g75, h⟩
      ·refine SCode.cond_t rfl g75 (SCode.seq (SCode.drawK mixed [[], [0], [0, 1], [0, 1, 2], [], [4], [4, 5], [4, 5, 6], [0, 1, 2, 3, 4, 5, 6, 7]] 8 1 rfl rfl (qm rfl rfl (qr rfl rfl (q_nilCheck rfl rfl rfl) (qr rfl rfl (q_field_ptr rfl rfl fd68_4) (qr rfl rfl (q_load_ptr rfl rfl rfl rfl ty22) (qm rfl rfl (qr rfl rfl (q_nilCheck rfl rfl rfl) (qr rfl rfl (q_field_ptr rfl rfl fd68_2) (qr rfl rfl (q_load_ptr rfl rfl rfl rfl ty22) (QK.nil (se rfl rfl (e_copyL (c := (cInt .i64)) (d0 := 0) (l := o5_35) (s := o3_33) (lo := 0) (n := (o5_35).length) (m := min (o3_33).length ((o5_35).length)) rfl rfl rfl (.inr ⟨rfl, rfl⟩) rfl rfl (.inr (.inr ⟨_, _, rfl, rfl⟩)) sl22 rfl oneInt (Nat.le_of_eq (Nat.zero_add _)) rfl) (SOps.sub (st' := ⟨[(0, .c (.ptr 0 0)), (3, .c (.bool left_30)), (4, ci t10_31), (9, ci (((a0_v_x).length : Int))), (10, ci t10_31)], [.box [vI a0_v_caps, .fnp 31 1, .own 3 o3_33.length, .own 4 o4_34.length, .own 5 (copyL o5_35 0 ((o5_35).length) o3_33).length], .box [.int .i64 a0b_Nodes, .own 2 o2_32.length], aSArc 63 o2_32, aI 3 o3_33, aB 4 o4_34, aI 3 (copyL o5_35 0 ((o5_35).length) o3_33)]⟩) (sub_gen [0, 1, 2, 3, 4, 5] rfl rfl (zall rfl rfl) ⟨⟨_, rfl, ⟨ii rfl rfl, ii rfl rfl, ii rfl rfl, ii rfl rfl, .inl ⟨rfl, congrArg (Cell.own 5) (copyL_len (l := o5_35) (s := o3_33) (lo := 0) (n := (o5_35).length) (Nat.le_of_eq (Nat.zero_add _))).symm⟩, trivial⟩⟩, bx rfl rfl rfl, oa rfl, oa rfl, oa rfl, oa rfl, trivial⟩) (SOps.nil (SCode.seq ?_)))))))))))))))
       obtain ⟨g76, h⟩ := guard_out h
       obtain ⟨g77, h⟩ := guard_out h
       refine SCode.region (sm rfl rfl (sq rfl rfl (q_nilCheck rfl rfl rfl) (sq rfl rfl (q_field_ptr rfl rfl fd68_4) (sq rfl rfl (q_load_ptr rfl rfl rfl rfl ty22) (sm rfl rfl (sq rfl rfl (q_index_own rfl rfl rfl sl22 g76.1 g76.2) (sq rfl rfl (q_load_aptr rfl rfl rfl (toNat_lt g76) rfl ty3) (sq rfl rfl (q_add rfl rfl rfl) (sq rfl rfl (q_index_own rfl rfl rfl sl22 g77.1 g77.2) (se rfl rfl (e_storeL (IntKind.wrap .i64 ((copyL o5_35 0 ((o5_35).length) o3_33).getD t10_31.toNat 0 + 1)) rfl rfl rfl rfl rfl (toNat_lt g77) ty3 rfl rfl rfl rfl rfl rfl) ?_))))))))))
       let y1 := (copyL o5_35 0 ((o5_35).length) o3_33).set t10_31.toNat (IntKind.wrap .i64 ((copyL o5_35 0 ((o5_35).length) o3_33).getD t10_31.toNat 0 + 1))
       refine SOps.sub (st' := ⟨[(0, .c (.ptr 0 0)), (3, .c (.bool left_30)), (4, ci t10_31), (9, ci (((a0_v_x).length : Int))), (10, ci t10_31)], [.box [vI a0_v_caps, .fnp 31 1, .own 3 o3_33.length, .own 4 o4_34.length, .own 5 y1.length], .box [.int .i64 a0b_Nodes, .own 2 o2_32.length], aSArc 63 o2_32, aI 3 o3_33, aB 4 o4_34, aI 3 y1]⟩) (sub_gen [0, 1, 2, 3, 4, 5] rfl rfl (zall rfl rfl) ⟨⟨_, rfl, ⟨ii rfl rfl, ii rfl rfl, ii rfl rfl, ii rfl rfl, .inl ⟨rfl, congrArg (Cell.own 5) (List.length_set : y1.length = (copyL o5_35 0 ((o5_35).length) o3_33).length).symm⟩, trivial⟩⟩, bx rfl rfl rfl, oa rfl, oa rfl, oa rfl, oa rfl, trivial⟩) (SOps.nil (SCode.seq ?_))
       obtain ⟨c_78, g79, h⟩ := bind_out h
       try dsimp only at h
       refine SCode.drawK mixed [[], [0], [0, 1], [0, 1, 2], [], [4], [4, 5], [4, 5, 6], [0, 1, 2, 3, 4, 5, 6, 7]] 8 1 rfl rfl (qm rfl rfl (qr rfl rfl (q_nilCheck rfl rfl rfl) (qr rfl rfl (q_field_ptr rfl rfl fd68_1) (qr rfl rfl (q_load_ptr rfl rfl rfl rfl ty52) (qm rfl rfl (qr rfl rfl (q_nilCheck rfl rfl rfl) (qr rfl rfl (q_field_ptr rfl rfl fd68_4) (qr rfl rfl (q_load_ptr rfl rfl rfl rfl ty22) (QK.nil (se rfl rfl (e_callP (plan_Fair_1_ok F ((copyL o5_35 0 ((o5_35).length) o3_33).set t10_31.toNat (IntKind.wrap .i64 ((copyL o5_35 0 ((o5_35).length) o3_33).getD t10_31.toNat 0 + 1))) a0b_Nodes o2_32 c_78 g79) [1, 2] [5] rfl rfl fn31 rfl rfl rfl rfl rfl rfl rfl rfl (nrs ⟨rfl, fun _ _ => nrSArc _ _, trivial⟩) ⟨.inr (.inl ⟨_, _, _, _, _, _, _, rfl, rfl, rfl, Nat.le_refl _, fun _ _ _ _ => rfl, (.head _)⟩), .inl ⟨rfl, rfl⟩, trivial⟩) ?_))))))))))
       let y2 := (copyL o5_35 0 ((o5_35).length) o3_33).set t10_31.toNat (IntKind.wrap .i64 ((copyL o5_35 0 ((o5_35).length) o3_33).getD t10_31.toNat 0 + 1))
       refine SOps.sub (st' := ⟨[(0, .c (.ptr 0 0)), (3, .c (.bool left_30)), (4, ci t10_31), (9, ci (((a0_v_x).length : Int))), (10, ci t10_31), (62, .c (.bool c_78.1))], [.box [vI a0_v_caps, .fnp 31 1, .own 3 o3_33.length, .own 4 o4_34.length, .own 5 y2.length], .box [.int .i64 a0b_Nodes, .own 2 c_78.2.length], aSArc 63 c_78.2, aI 3 o3_33, aB 4 o4_34, aI 3 y2]⟩) (sub_gen [0, 1, 2, 3, 4, 5] rfl rfl (zall rfl rfl) ⟨bx rfl rfl rfl, bx rfl rfl rfl, oa rfl, oa rfl, oa rfl, oa rfl, trivial⟩) (SOps.nil ?_)
       rcases cond_out h with ⟨g80, h⟩ | ⟨g80, h⟩
       ·refine SCode.cond_t rfl g80 (SCode.seq ?_)
        obtain ⟨g81, h⟩ := guard_out h
        obtain ⟨g82, h⟩ := guard_out h
        refine SCode.region (sm rfl rfl (sq rfl rfl (q_nilCheck rfl rfl rfl) (sq rfl rfl (q_field_ptr rfl rfl fd68_2) (sq rfl rfl (q_load_ptr rfl rfl rfl rfl ty22) (sm rfl rfl (sq rfl rfl (q_index_own rfl rfl rfl sl22 g81.1 g81.2) (sq rfl rfl (q_load_aptr rfl rfl rfl (toNat_lt g81) rfl ty3) (sq rfl rfl (q_add rfl rfl rfl) (sq rfl rfl (q_index_own rfl rfl rfl sl22 g82.1 g82.2) (se rfl rfl (e_storeL (IntKind.wrap .i64 (o3_33.getD t10_31.toNat 0 + 1)) rfl rfl rfl rfl rfl (toNat_lt g82) ty3 rfl rfl rfl rfl rfl rfl) ?_))))))))))
        let y3 := o3_33.set t10_31.toNat (IntKind.wrap .i64 (o3_33.getD t10_31.toNat 0 + 1))
        let y4 := (copyL o5_35 0 ((o5_35).length) o3_33).set t10_31.toNat (IntKind.wrap .i64 ((copyL o5_35 0 ((o5_35).length) o3_33).getD t10_31.toNat 0 + 1))
        refine SOps.sub (st' := ⟨[(0, .c (.ptr 0 0)), (9, ci (((a0_v_x).length : Int))), (10, ci t10_31)], [.box [vI a0_v_caps, .fnp 31 1, .own 3 y3.length, .own 4 o4_34.length, .own 5 y4.length], .box [.int .i64 a0b_Nodes, .own 2 c_78.2.length], aSArc 63 c_78.2, aI 3 y3, aB 4 o4_34, aI 3 y4]⟩) (sub_gen [0, 1, 2, 3, 4, 5] rfl rfl (zall rfl rfl) ⟨⟨_, rfl, ⟨ii rfl rfl, ii rfl rfl, .inl ⟨rfl, congrArg (Cell.own 3) (List.length_set : y3.length = o3_33.length).symm⟩, ii rfl rfl, ii rfl rfl, trivial⟩⟩, bx rfl rfl rfl, oa rfl, oa rfl, oa rfl, oa rfl, trivial⟩) (SOps.nil (SCode.seq (SCode.region (sa rfl rfl (SOps.nil (SCode.exit ?_))))))
        exact ⟨(true, c_78.2, o3_33.set t10_31.toNat (IntKind.wrap .i64 (o3_33.getD t10_31.toNat 0 + 1)), o4_34, (copyL o5_35 0 ((o5_35).length) o3_33).set t10_31.toNat (IntKind.wrap .i64 ((copyL o5_35 0 ((o5_35).length) o3_33).getD t10_31.toNat 0 + 1))), h, sub_gen [0, 1, 2, 3, 4, 5] rfl rfl (zall rfl rfl) ⟨bx rfl rfl rfl, bx rfl rfl rfl, oa rfl, oa rfl, oa rfl, oa rfl, trivial⟩⟩
       refine SCode.cond_f rfl g80 (SCode.skip ?_)
       exact ⟨(c_78.2, (copyL o5_35 0 ((o5_35).length) o3_33).set t10_31.toNat (IntKind.wrap .i64 ((copyL o5_35 0 ((o5_35).length) o3_33).getD t10_31.toNat 0 + 1))), h, sub_gen [0, 1, 2, 3, 4, 5] rfl rfl (zall rfl rfl) ⟨bx rfl rfl rfl, bx rfl rfl rfl, oa rfl, oa rfl, oa rfl, oa rfl, trivial⟩⟩
      refine SCode.cond_f rfl g75 (SCode.skip ?_)
      exact ⟨(o2_32, o5_35), h, sub_gen [0, 1, 2, 3, 4, 5] rfl rfl (zall rfl rfl) ⟨bx rfl rfl rfl, bx rfl rfl rfl, oa rfl, oa rfl, oa rfl, oa rfl, trivial⟩⟩
     rintro ⟨o2_69, o5_70⟩ h
     show SCode _ _ _ (S18 o2_69 o5_70) _
     try dsimp only at h
     unfold fair_division_single_f0_p31_p72 at h
     obtain ⟨g71, h⟩ := guard_out h
     refine SCode.region (sm rfl rfl (sq rfl rfl (q_nilCheck rfl rfl rfl) (sq rfl rfl (q_field_ptr rfl rfl fd68_3) (sq rfl rfl (q_load_ptr rfl rfl rfl rfl ty53) (sm rfl rfl (sq rfl rfl (q_index_own rfl rfl rfl sl53 g71.1 g71.2) (se rfl rfl (e_storeL false rfl rfl rfl rfl rfl (toNat_lt g71) ty4 rfl rfl rfl rfl rfl rfl) (SOps.sub (st' := ⟨[(0, .c (.ptr 0 0)), (3, .c (.bool left_30)), (9, ci (((a0_v_x).length : Int))), (10, ci t10_31)], [.box [vI a0_v_caps, .fnp 31 1, .own 3 o3_33.length, .own 4 (o4_34.set t10_31.toNat false).length, .own 5 o5_70.length], .box [.int .i64 a0b_Nodes, .own 2 o2_69.length], aSArc 63 o2_69, aI 3 o3_33, aB 4 (o4_34.set t10_31.toNat false), aI 3 o5_70]⟩) (sub_gen [0, 1, 2, 3, 4, 5] rfl rfl (zall rfl rfl) ⟨⟨_, rfl, ⟨ii rfl rfl, ii rfl rfl, ii rfl rfl, .inl ⟨rfl, congrArg (Cell.own 4) (List.length_set : (o4_34.set t10_31.toNat false).length = o4_34.length).symm⟩, ii rfl rfl, trivial⟩⟩, bx rfl rfl rfl, oa rfl, oa rfl, oa rfl, oa rfl, trivial⟩) (SOps.nil ?_)))))))))
     exact ⟨(left_30, o2_69, o3_33, o4_34.set t10_31.toNat false, o5_70), h, sub_gen [0, 1, 2, 3, 4, 5] rfl rfl (zall rfl rfl) ⟨bx rfl rfl rfl, bx rfl rfl rfl, oa rfl, oa rfl, oa rfl, oa rfl, trivial⟩⟩
    rintro ⟨left_61, o2_62, o3_63, o4_65, o5_64⟩ h
    show SCode _ _ _ (S19 left_61 o2_62 o3_63 o4_65 o5_64) _
    try dsimp only at h
    unfold fair_division_single_f0_p31_p66 at h
    refine SCode.region (sq rfl rfl (q_add rfl rfl rfl) (sm rfl rfl (SOps.nil ?_)))
    exact ⟨(n_59, (left_61, IntKind.wrap .i64 (t10_31 + 1), o2_62, o3_63, o4_65, o5_64)), h, Nat.lt_succ_self n_59, sub_gen [0, 1, 2, 3, 4, 5] rfl rfl (zall rfl rfl) ⟨bx rfl rfl rfl, bx rfl rfl rfl, oa rfl, oa rfl, oa rfl, oa rfl, trivial⟩⟩
   refine SCode.cond_f rfl g60 (SCode.exit ?_)
   exact ⟨(left_30, o2_32, o3_33, o4_34, o5_35), h, sub_gen [0, 1, 2, 3, 4, 5] rfl rfl (zall rfl rfl) ⟨bx rfl rfl rfl, bx rfl rfl rfl, oa rfl, oa rfl, oa rfl, oa rfl, trivial⟩⟩
 rintro ⟨left_1, o2_2, o3_3, o4_4, o5_5⟩ h
 show SCode _ _ _ (S21 left_1 o2_2 o3_3 o4_4 o5_5) _
 try dsimp only at h
 unfold fair_division_single_f0_p31_p6 at h
 refine SCode.seq (SCode.region (sm rfl rfl (sa rfl rfl (SOps.nil (SCode.ret ?_)))))
 obtain rfl := Option.some.inj h
 exact ⟨⟨[(2, .c (.bool left_1))], [.box [vI a0_v_caps, .fnp 31 1, .own 3 o3_3.length, .own 4 o4_4.length, .own 5 o5_5.length], .box [.int .i64 a0b_Nodes, .own 2 o2_2.length], aSArc 63 o2_2, aI 3 o3_3, aB 4 o4_4, aI 3 o5_5]⟩, _, sub_gen [0, 1, 2, 3, 4, 5] rfl rfl (zall rfl rfl) ⟨bx rfl rfl rfl, bx rfl rfl rfl, oa rfl, oa rfl, oa rfl, oa rfl, trivial⟩, resA1 (v := .c (.bool left_1)) rfl rfl, ⟨rfl, rfl⟩⟩
end Go.Proofs.Ytfefnffdocmlmaa.W
