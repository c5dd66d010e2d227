/- Written by a program of ours (wip/eng/gen.py): the functions compute their models. -/
import Derived.Test.YtmiikbfacgmopaaFacts
import Derived.Test.YtmiikbfacgmopaaV3x2
namespace Go.Proofs.Ytmiikbfacgmopaa.W
open Go Go.Proofs Go.Proofs.Ytmiikbfacgmopaa.E Go.Proofs.Ytmiikbfacgmopaa.M
set_option linter.unusedVariables false
set_option maxRecDepth 100000
set_option maxHeartbeats 8000000
theorem flow_Max_own_ok (F : Nat) (a0_n : SNet) (a1_source : Int) (a2_sink : Int) (r : Int × (List Int) × Int) (h : flow_Max_own F a0_n a1_source a2_sink = some r) :
  SFun Try.prog 23 [] [.a (bSNet a0_n), ci a1_source, ci a2_sink] (fun x os => x = .t [.c (.int .i64 r.1), .c (.own 0 r.2.1.length), .c (.int .i64 r.2.2)] ∧ os = [aI 3 r.2.1]) := by
 refine SFun.of (n := 52) Try.func23 rfl rfl rfl ?_
 unfold flow_Max_own at h
 show SCode _ _ _ ⟨[(0, .a (bSNet a0_n)), (1, ci a1_source), (2, ci a2_sink)], []⟩ _
 refine SCode.seq (SCode.region (se rfl rfl (e_box rfl rfl rfl rfl rfl rfl) (sa rfl rfl (sa rfl rfl (SOps.nilArrL (T := 3) (k := 1) (cInt .i64) 0 (s := 7) rfl rfl (sa rfl rfl (SOps.nil (SCode.seq (SCode.seq ?_)))))))))
 obtain ⟨c_1, g2, h⟩ := bind_out h
 try dsimp only at h
 refine SCode.region (sq rfl rfl (q_load_ptr_all rfl rfl rfl rfl rfl ty40) (sm rfl rfl (sm rfl rfl (sq rfl rfl (q_call (flow_valid_ok F a0_n a1_source a2_sink c_1 g2) [] rfl fn26 ⟨⟨rfl, rfl⟩, ⟨_, rfl, .inl ⟨rfl, rfl⟩⟩, ⟨_, rfl, .inl ⟨rfl, rfl⟩⟩, trivial⟩ (.inl rfl)) (sa rfl rfl (SOps.nil (SCode.seq (SCode.region (sm rfl rfl (sq rfl rfl (q_neq rfl rfl rfl) (SOps.nil ?_)))))))))))
 rcases cond_out h with ⟨g3, h⟩ | ⟨g3, h⟩
 ·refine SCode.cond_t rfl g3 (SCode.seq (SCode.region (sm rfl rfl (sa rfl rfl (sa rfl rfl (SOps.nilArrL (T := 3) (k := 1) (cInt .i64) 0 (s := 7) rfl rfl (sa rfl rfl (SOps.nil (SCode.ret ?_)))))))))
  obtain rfl := Option.some.inj h
  exact ⟨⟨[(6, ci 0), (7, .c (.own 0 (([] : List Int)).length)), (8, ci c_1)], [aI 3 (([] : List Int))]⟩, _, sub_gen [2] rfl rfl (zall rfl rfl) ⟨oa rfl, trivial⟩, resA3 (v1 := .c (.int .i64 0)) (v2 := .c (.own 0 (([] : List Int)).length)) (v3 := .c (.int .i64 c_1)) rfl rfl rfl rfl, ⟨rfl, rfl⟩⟩
 refine SCode.cond_f rfl g3 (SCode.skip (SCode.seq ?_))
 obtain ⟨c_4, g5, h⟩ := bind_out h
 try dsimp only at h
 refine SCode.region (sq rfl rfl (q_load_ptr_all rfl rfl rfl rfl rfl ty40) (se rfl rfl (e_call (flow_build_own_ok F a0_n c_4 g5) [] rfl fn27 rfl rfl rfl rfl rfl rfl rfl rfl) (sa rfl rfl (SOps.nil (SCode.seq ?_)))))
 obtain ⟨c_6, g7, h⟩ := bind_out h
 try dsimp only at h
 refine SCode.region (sm rfl rfl (sm rfl rfl (sm rfl rfl (se rfl rfl (e_call (flow_graph_run_ok F c_4.1 c_4.2.1 c_4.2.2.1 c_4.2.2.2 a1_source a2_sink c_6 g7) [2, 3, 4, 5] rfl fn28 rfl rfl rfl rfl rfl rfl rfl rfl) (sa rfl rfl (SOps.sub (st' := ⟨[(3, .c (.ptr 0 0)), (10, .c (.ptr 1 0)), (11, ci c_6.1)], [.box (bSNet a0_n), .box [.own 2 c_6.2.1.length, vR c_4.2.1, .own 3 c_6.2.2.1.length, .own 4 c_6.2.2.2.length], aSEdge 69 c_6.2.1, aI 3 c_6.2.2.1, aI 3 c_6.2.2.2]⟩) (sub_gen [0, 2, 3, 4, 5] rfl rfl (zall rfl rfl) ⟨bx rfl rfl rfl, bx rfl rfl rfl, oa rfl, oa rfl, oa rfl, trivial⟩) (SOps.nil (SCode.seq ?_))))))))
 obtain ⟨g8, h⟩ := guard_out h
 refine SCode.region (sq rfl rfl (q_field_ptr rfl rfl fd40_1) (sq rfl rfl (q_load_ptr rfl rfl rfl rfl ty38) (sq rfl rfl (q_len_vec rfl rfl sl38) (se rfl rfl (e_makeL (c := (cInt .i64)) (d0 := 0) rfl rfl rfl rfl rfl sl22 z3 rfl rfl rfl g8.1 (Int.le_refl _) g8.2.1 g8.2.2) (sa rfl rfl (SOps.nil ?_))))))
 let S3 := fun (o0_9 : List Int) => (⟨[(11, ci c_6.1), (12, .c (.own 0 o0_9.length))], [aI 3 o0_9]⟩ : St)
 refine SCode.join (σ := (List Int)) (S := fun s => (S3 s)) (g := fun s => flow_Max_own_p10 c_6 s = some r) ?_ ?_
 rotate_left
 ·refine SCode.seq (SCode.region (sm rfl rfl (sq rfl rfl (q_len_own rfl rfl sl22) (sm rfl rfl (SOps.nil (SCode.block ?_))))))
  let S2 := fun (t33_14 : Int) => fun (o4_15 : List Int) => (⟨[(10, .c (.ptr 0 0)), (11, ci c_6.1), (12, .c (.own 4 o4_15.length)), (32, ci (((List.replicate (((a0_n.Arcs).length : Int)).toNat (0 : Int)).length : Int))), (33, ci t33_14)], [.box [.own 1 c_6.2.1.length, vR c_4.2.1, .own 2 c_6.2.2.1.length, .own 3 c_6.2.2.2.length], aSEdge 69 c_6.2.1, aI 3 c_6.2.2.1, aI 3 c_6.2.2.2, aI 3 o4_15]⟩ : St)
  refine SCode.sub (st' := (S2 0 (List.replicate (((a0_n.Arcs).length : Int)).toNat (0 : Int)))) (sub_gen [1, 2, 3, 4, 5] rfl rfl (zall rfl rfl) ⟨bx rfl rfl rfl, oa rfl, oa rfl, oa rfl, oa rfl, trivial⟩) ?_
  refine (SCode.loop (σ := Nat × (Int × (List Int))) (S := fun s => (S2 s.2.1 s.2.2)) (g := fun s => flow_Max_own_l19 a0_n c_6 s.1 s.2.1 s.2.2 = some r) (μ := fun s => s.1) (F, (0, List.replicate (((a0_n.Arcs).length : Int)).toNat (0 : Int))) h ?_)
  rintro ⟨n_19, ⟨t33_14, o4_15⟩⟩ h
  try dsimp only at h
  show SCode _ _ _ (S2 t33_14 o4_15) _
  cases n_19 with
  | zero => cases h
  | succ n_19 =>
   rw [flow_Max_own_l19] at h
   unfold flow_Max_own_b19 at h
   refine SCode.seq (SCode.region (sq rfl rfl (q_lss rfl rfl rfl) (SOps.nil (SCode.seq ?_))))
   rcases cond_out h with ⟨g20, h⟩ | ⟨g20, h⟩
   ·refine SCode.cond_t rfl g20 (SCode.skip (SCode.seq (SCode.block (SCode.seq (SCode.region (sm rfl rfl (sa rfl rfl (SOps.nil ?_))))))))
    obtain ⟨g21, h⟩ := guard_out h
    obtain ⟨g22, h⟩ := guard_out h
    refine SCode.region (sm rfl rfl (sm rfl rfl (sm rfl rfl (sq rfl rfl (q_nilCheck rfl rfl rfl) (sq rfl rfl (q_field_ptr rfl rfl fd72_0) (sq rfl rfl (q_load_ptr rfl rfl rfl rfl ty70) (sm rfl rfl (sq rfl rfl (q_mul rfl rfl rfl) (sq rfl rfl (q_add rfl rfl rfl) (sq rfl rfl (q_index_own rfl rfl rfl sl70 g21.1 g21.2) (sq rfl rfl (q_field_aptr rfl rfl fd69_1) (sq rfl rfl (q_load_aptr rfl rfl rfl (toNat_lt g21) rfl ty3) (sq rfl rfl (q_index_own rfl rfl rfl sl22 g22.1 g22.2) (se rfl rfl (e_storeL ((c_6.2.1.getD ((IntKind.wrap .i64 (IntKind.wrap .i64 (2 * t33_14) + 1)).toNat) dSEdge).room) rfl rfl rfl rfl rfl (toNat_lt g22) ty3 rfl rfl rfl rfl rfl rfl) ?_))))))))))))))
    let y1 := o4_15.set t33_14.toNat ((c_6.2.1.getD ((IntKind.wrap .i64 (IntKind.wrap .i64 (2 * t33_14) + 1)).toNat) dSEdge).room)
    refine SOps.sub (st' := ⟨[(10, .c (.ptr 0 0)), (11, ci c_6.1), (12, .c (.own 4 y1.length)), (32, ci (((List.replicate (((a0_n.Arcs).length : Int)).toNat (0 : Int)).length : Int))), (33, ci t33_14)], [.box [.own 1 c_6.2.1.length, vR c_4.2.1, .own 2 c_6.2.2.1.length, .own 3 c_6.2.2.2.length], aSEdge 69 c_6.2.1, aI 3 c_6.2.2.1, aI 3 c_6.2.2.2, aI 3 y1]⟩) (sub_gen [0, 1, 2, 3, 4] rfl rfl ⟨zc rfl rfl, zc rfl rfl, ⟨_, rfl, .inl ⟨rfl, congrArg (Cell.own 4) (List.length_set : y1.length = o4_15.length).symm⟩⟩, zc rfl rfl, zc rfl rfl, trivial⟩ ⟨bx rfl rfl rfl, oa rfl, oa rfl, oa rfl, oa rfl, trivial⟩) (SOps.nil (SCode.region (sq rfl rfl (q_add rfl rfl rfl) (sm rfl rfl (SOps.nil ?_)))))
    exact ⟨(n_19, (IntKind.wrap .i64 (t33_14 + 1), o4_15.set t33_14.toNat ((c_6.2.1.getD ((IntKind.wrap .i64 (IntKind.wrap .i64 (2 * t33_14) + 1)).toNat) dSEdge).room))), h, Nat.lt_succ_self n_19, sub_gen [0, 1, 2, 3, 4] rfl rfl (zall rfl rfl) ⟨bx rfl rfl rfl, oa rfl, oa rfl, oa rfl, oa rfl, trivial⟩⟩
   refine SCode.cond_f rfl g20 (SCode.exit ?_)
   exact ⟨o4_15, h, sub_gen [4] rfl rfl (zall rfl rfl) ⟨oa rfl, trivial⟩⟩
 rintro o0_9 h
 show SCode _ _ _ (S3 o0_9) _
 try dsimp only at h
 unfold flow_Max_own_p10 at h
 refine SCode.seq (SCode.region (sm rfl rfl (sm rfl rfl (sa rfl rfl (sa rfl rfl (sa rfl rfl (SOps.nil (SCode.ret ?_))))))))
 obtain rfl := Option.some.inj h
 exact ⟨⟨[(6, ci c_6.1), (7, .c (.own 0 o0_9.length)), (8, ci 0)], [aI 3 o0_9]⟩, _, sub_gen [0] rfl rfl (zall rfl rfl) ⟨oa rfl, trivial⟩, resA3 (v1 := .c (.int .i64 c_6.1)) (v2 := .c (.own 0 o0_9.length)) (v3 := .c (.int .i64 0)) rfl rfl rfl rfl, ⟨rfl, rfl⟩⟩
theorem plan_route_ok (F : Nat) (a0_n : SNet) (a1_energy : List Int) (r : (List Int) × Bool × (List SArc)) (h : plan_route F a0_n a1_energy = some r) :
  SFun Try.prog 12 [aSArc 54 a0_n.Arcs] [.a [.int .i64 a0_n.Nodes, .own 0 a0_n.Arcs.length], .c (vI a1_energy)] (fun x os => x = .t [.c (vI r.1), .c (.bool r.2.1)] ∧ os = [aSArc 54 r.2.2]) := by
 refine SFun.of (n := 43) Try.func12 rfl rfl rfl ?_
 unfold plan_route at h
 show SCode _ _ _ ⟨[(0, .a [.int .i64 a0_n.Nodes, .own 0 a0_n.Arcs.length]), (1, .c (vI a1_energy))], [aSArc 54 a0_n.Arcs]⟩ _
 refine SCode.seq (SCode.region (se rfl rfl (e_box rfl rfl rfl rfl rfl rfl) (sa rfl rfl (sa rfl rfl (SOps.nil (SCode.seq (SCode.region (sa rfl rfl (SOps.nil ?_)))))))))
 let S3 := fun (total_1 : Int) => fun (o0_2 : List SArc) => (⟨[(2, .c (.ptr 1 0)), (6, ci total_1)], [aSArc 54 o0_2, .box [.int .i64 a0_n.Nodes, .own 0 o0_2.length]]⟩ : St)
 refine SCode.join (σ := Int × (List SArc)) (S := fun s => (S3 s.1 s.2)) (g := fun s => plan_route_p6 F a0_n s.1 s.2 = some r) ?_ ?_
 rotate_left
 ·refine SCode.seq (SCode.region (sm rfl rfl (sq rfl rfl (q_len_vec rfl rfl sl22) (sm rfl rfl (SOps.nil (SCode.block ?_))))))
  let S2 := fun (total_10 : Int) => fun (t14_11 : Int) => fun (o0_12 : List SArc) => (⟨[(2, .c (.ptr 1 0)), (6, ci total_10), (12, .c (vI a1_energy)), (13, ci (((a1_energy).length : Int))), (14, ci t14_11)], [aSArc 54 o0_12, .box [.int .i64 a0_n.Nodes, .own 0 o0_12.length]]⟩ : St)
  refine SCode.sub (st' := (S2 0 0 a0_n.Arcs)) (sub_gen [0, 1] rfl rfl (zall rfl rfl) ⟨oa rfl, bx rfl rfl rfl, trivial⟩) ?_
  refine (SCode.loop (σ := Nat × (Int × Int × (List SArc))) (S := fun s => (S2 s.2.1 s.2.2.1 s.2.2.2)) (g := fun s => plan_route_l16 F a0_n a1_energy s.1 s.2.1 s.2.2.1 s.2.2.2 = some r) (μ := fun s => s.1) (F, (0, 0, a0_n.Arcs)) h ?_)
  rintro ⟨n_16, ⟨total_10, t14_11, o0_12⟩⟩ h
  try dsimp only at h
  show SCode _ _ _ (S2 total_10 t14_11 o0_12) _
  cases n_16 with
  | zero => cases h
  | succ n_16 =>
   rw [plan_route_l16] at h
   unfold plan_route_b16 at h
   refine SCode.seq (SCode.region (sq rfl rfl (q_lss rfl rfl rfl) (SOps.nil (SCode.seq ?_))))
   rcases cond_out h with ⟨g17, h⟩ | ⟨g17, h⟩
   ·refine SCode.cond_t rfl g17 (SCode.skip (SCode.seq (SCode.block (SCode.seq ?_))))
    obtain ⟨g18, h⟩ := guard_out h
    refine SCode.region (sm rfl rfl (sq rfl rfl (q_index_vec rfl rfl rfl sl22 rfl g18.1 g18.2) (sq rfl rfl (q_load_eptr rfl rfl ty3) (sa rfl rfl (sa rfl rfl (SOps.nil (SCode.seq ?_)))))))
    obtain ⟨g19, h⟩ := guard_out h
    refine SCode.region (sq rfl rfl (q_field_ptr rfl rfl fd40_1) (sq rfl rfl (q_load_ptr rfl rfl rfl rfl ty38) (sm rfl rfl (sm rfl rfl (sq rfl rfl (q_index_own rfl rfl rfl sl38 g19.1 g19.2) (sq rfl rfl (q_field_aptr rfl rfl fd54_2) (se rfl rfl (e_storeL (SArc.mk ((o0_12.getD t14_11.toNat dSArc).From) ((o0_12.getD t14_11.toNat dSArc).To) (a1_energy.getD t14_11.toNat 0)) rfl rfl rfl rfl rfl (toNat_lt g19) ty3 rfl rfl rfl rfl rfl rfl) ?_)))))))
    let y1 := o0_12.set t14_11.toNat (SArc.mk ((o0_12.getD t14_11.toNat dSArc).From) ((o0_12.getD t14_11.toNat dSArc).To) (a1_energy.getD t14_11.toNat 0))
    refine SOps.sub (st' := ⟨[(2, .c (.ptr 1 0)), (6, ci total_10), (8, ci (a1_energy.getD t14_11.toNat 0)), (12, .c (vI a1_energy)), (13, ci (((a1_energy).length : Int))), (14, ci t14_11)], [aSArc 54 y1, .box [.int .i64 a0_n.Nodes, .own 0 y1.length]]⟩) (sub_gen [0, 1] rfl rfl (zall rfl rfl) ⟨oa rfl, ⟨_, rfl, ⟨ii rfl rfl, .inl ⟨rfl, congrArg (Cell.own 0) (List.length_set : y1.length = o0_12.length).symm⟩, trivial⟩⟩, trivial⟩) (SOps.nil (SCode.region (sm rfl rfl (sm rfl rfl (sq rfl rfl (q_add rfl rfl rfl) (sa rfl rfl (SOps.nil (SCode.region (sq rfl rfl (q_add rfl rfl rfl) (sm rfl rfl (SOps.nil ?_)))))))))))
    exact ⟨(n_16, (IntKind.wrap .i64 (total_10 + a1_energy.getD t14_11.toNat 0), IntKind.wrap .i64 (t14_11 + 1), o0_12.set t14_11.toNat (SArc.mk ((o0_12.getD t14_11.toNat dSArc).From) ((o0_12.getD t14_11.toNat dSArc).To) (a1_energy.getD t14_11.toNat 0)))), h, Nat.lt_succ_self n_16, sub_gen [0, 1] rfl rfl (zall rfl rfl) ⟨oa rfl, bx rfl rfl rfl, trivial⟩⟩
   refine SCode.cond_f rfl g17 (SCode.exit ?_)
   exact ⟨(total_10, o0_12), h, sub_gen [0, 1] rfl rfl (zall rfl rfl) ⟨oa rfl, bx rfl rfl rfl, trivial⟩⟩
 rintro ⟨total_1, o0_2⟩ h
 show SCode _ _ _ (S3 total_1 o0_2) _
 try dsimp only at h
 unfold plan_route_p6 at h
 refine SCode.seq ?_
 obtain ⟨c_3, g4, h⟩ := bind_out h
 try dsimp only at h
 refine SCode.region (sq rfl rfl (q_load_ptr_all rfl rfl rfl rfl rfl ty40) (se rfl rfl (e_callL (flow_Max_own_ok F (SNet.mk a0_n.Nodes o0_2) 0 1 c_3 g4) [] [0] rfl fn23 rfl rfl rfl rfl rfl rfl rfl rfl (nrs ⟨fun _ _ => rfl, trivial⟩) ⟨⟨.inl ⟨rfl, rfl⟩, .inr (.inl ⟨_, _, _, _, _, _, _, rfl, rfl, rfl, Nat.le_refl _, fun _ _ _ _ => rfl, (.head _)⟩), trivial⟩, .inl ⟨rfl, rfl⟩, .inl ⟨rfl, rfl⟩, trivial⟩) (sm rfl rfl (sq rfl rfl (q_extract rfl rfl rfl) (sq rfl rfl (q_extract rfl rfl rfl) (sq rfl rfl (q_extract rfl rfl rfl) (sa rfl rfl (sa rfl rfl (sa rfl rfl (SOps.nil (SCode.seq ?_)))))))))))
 rcases cond_out h with ⟨g5, h⟩ | ⟨g5, h⟩
 ·refine SCode.region (sm rfl rfl (sm rfl rfl (sq rfl rfl (q_eql rfl rfl rfl) (sm rfl rfl (SOps.q rfl (.guard 3 38 true rfl rfl (gT g5)) rfl (q_move rfl rfl) (SOps.q rfl (.guard 3 38 true rfl rfl (gT g5)) rfl (q_move rfl rfl) (SOps.q rfl (.guard 3 38 true rfl rfl (gT g5)) rfl (q_eql rfl rfl rfl) (sq rfl rfl (q_pick_t rfl rfl g5 rfl) (sa rfl rfl (sa rfl rfl (SOps.sub (st' := ⟨[(4, .c (.own 1 c_3.2.1.length)), (5, .c (.bool (decide (c_3.1 = total_1))))], [aSArc 54 o0_2, aI 3 c_3.2.1]⟩) (sub_gen [0, 2] rfl rfl (zall rfl rfl) ⟨oa rfl, oa rfl, trivial⟩) (SOps.nil (SCode.ret ?_)))))))))))))
  obtain rfl := Option.some.inj h
  exact ⟨⟨[(4, .c (vI c_3.2.1)), (5, .c (.bool (decide (c_3.1 = total_1))))], [aSArc 54 o0_2]⟩, _, sub_gen [0] rfl rfl ⟨⟨_, rfl, .inr (.inl ⟨_, _, _, _, _, _, _, rfl, rfl, rfl, Nat.le_refl _, fun _ _ _ _ => rfl, nm rfl⟩)⟩, zc rfl rfl, trivial⟩ ⟨oa rfl, trivial⟩, resA2 (v1 := .c (vI c_3.2.1)) (v2 := .c (.bool (decide (c_3.1 = total_1)))) rfl rfl rfl, ⟨rfl, rfl⟩⟩
 refine SCode.region (sm rfl rfl (sm rfl rfl (sq rfl rfl (q_eql rfl rfl rfl) (sm rfl rfl (SOps.skip rfl 3 38 true rfl rfl (.inl (gF g5)) rfl (SOps.skip rfl 3 38 true rfl rfl (.inl (gF g5)) rfl (SOps.skip rfl 3 38 true rfl rfl (.inl (gF g5)) rfl (sq rfl rfl (q_pick_f rfl rfl g5 rfl) (sa rfl rfl (sa rfl rfl (SOps.sub (st' := ⟨[(4, .c (.own 1 c_3.2.1.length)), (5, .c (.bool false))], [aSArc 54 o0_2, aI 3 c_3.2.1]⟩) (sub_gen [0, 2] rfl rfl (zall rfl rfl) ⟨oa rfl, oa rfl, trivial⟩) (SOps.nil (SCode.ret ?_)))))))))))))
 obtain rfl := Option.some.inj h
 exact ⟨⟨[(4, .c (vI c_3.2.1)), (5, .c (.bool false))], [aSArc 54 o0_2]⟩, _, sub_gen [0] rfl rfl ⟨⟨_, rfl, .inr (.inl ⟨_, _, _, _, _, _, _, rfl, rfl, rfl, Nat.le_refl _, fun _ _ _ _ => rfl, nm rfl⟩)⟩, zc rfl rfl, trivial⟩ ⟨oa rfl, trivial⟩, resA2 (v1 := .c (vI c_3.2.1)) (v2 := .c (.bool false)) rfl rfl rfl, ⟨rfl, rfl⟩⟩
theorem plan_Fair_1_ok (F : Nat) (a0_l : List Int) (a1b_Nodes : Int) (a1b_Arcs : List SArc) (r : Bool × (List SArc)) (h : plan_Fair_1 F a0_l a1b_Nodes a1b_Arcs = some r) :
  SFun Try.prog 11 [.box [.int .i64 a1b_Nodes, .own 1 a1b_Arcs.length], aSArc 54 a1b_Arcs] [.c (vI a0_l), .c (.ptr 0 0)] (fun x os => x = .c (.bool r.1) ∧ os = [.box [.int .i64 a1b_Nodes, .own 1 r.2.length], aSArc 54 r.2]) := by
 refine SFun.of (n := 13) Try.func11 rfl rfl rfl ?_
 unfold plan_Fair_1 at h
 show SCode _ _ _ ⟨[(0, .c (vI a0_l)), (1, .c (.ptr 0 0))], [.box [.int .i64 a1b_Nodes, .own 1 a1b_Arcs.length], aSArc 54 a1b_Arcs]⟩ _
 refine SCode.seq (SCode.region (sa rfl rfl (SOps.nil (SCode.seq ?_))))
 obtain ⟨c_1, g2, h⟩ := bind_out h
 try dsimp only at h
 obtain ⟨g3, h⟩ := guard_out h
 refine SCode.region (sq rfl rfl (q_load_ptr_all rfl rfl rfl rfl rfl ty40) (sm rfl rfl (se rfl rfl (e_call (plan_route_ok F (SNet.mk a1b_Nodes a1b_Arcs) a0_l c_1 g2) [1] rfl fn12 rfl rfl rfl rfl rfl rfl rfl rfl) (sm rfl rfl (sq rfl rfl (q_extract rfl rfl rfl) (sq rfl rfl (q_extract rfl rfl rfl) (sa rfl rfl (sa rfl rfl (SOps.sub (st' := ⟨[(5, .c (.bool c_1.2.1))], [.box [.int .i64 a1b_Nodes, .own 1 c_1.2.2.length], aSArc 54 c_1.2.2]⟩) (sub_gen [0, 1] rfl rfl (zall rfl rfl) ⟨⟨_, rfl, ⟨ii rfl rfl, .inl ⟨rfl, congrArg (Cell.own 1) g3.symm⟩, trivial⟩⟩, oa rfl, trivial⟩) (SOps.nil (SCode.seq (SCode.region (sm rfl rfl (sa rfl rfl (SOps.nil ?_)))))))))))))))
 refine SCode.ret ?_
 obtain rfl := Option.some.inj h
 exact ⟨⟨[(3, .c (.bool c_1.2.1))], [.box [.int .i64 a1b_Nodes, .own 1 c_1.2.2.length], aSArc 54 c_1.2.2]⟩, _, sub_gen [0, 1] rfl rfl (zall rfl rfl) ⟨bx rfl rfl rfl, oa rfl, trivial⟩, resA1 (v := .c (.bool c_1.2.1)) rfl rfl, ⟨rfl, rfl⟩⟩
theorem fair_check_ok (F : Nat) (a0_caps : List Int) (r : Int) (h : fair_check F a0_caps = some r) :
  SFun Try.prog 13 [] [.c (vI a0_caps)] (fun x _ => x = ci r) := by
 refine SFun.of (n := 21) Try.func13 rfl rfl rfl ?_
 unfold fair_check at h
 show SCode _ _ _ ⟨[(0, .c (vI a0_caps))], []⟩ _
 refine SCode.seq (SCode.region (sa rfl rfl (SOps.nil (SCode.seq (SCode.seq (SCode.region (sm rfl rfl (sq rfl rfl (q_len_vec rfl rfl sl22) (sq rfl rfl (q_gtr rfl rfl rfl) (SOps.nil ?_))))))))))
 rcases cond_out h with ⟨g1, h⟩ | ⟨g1, h⟩
 ·refine SCode.cond_t rfl g1 (SCode.seq (SCode.region (sa rfl rfl (SOps.nil (SCode.ret ?_)))))
  obtain rfl := Option.some.inj h
  exact ⟨⟨[(2, ci 3)], []⟩, _, sub_gen [] rfl rfl (zall rfl rfl) trivial, resA1 (v := .c (.int .i64 3)) rfl rfl, rfl⟩
 refine SCode.cond_f rfl g1 (SCode.skip ?_)
 let S3 := (⟨[], []⟩ : St)
 refine SCode.join (σ := Unit) (S := fun s => S3) (g := fun s => fair_check_p2 = some r) ?_ ?_
 rotate_left
 ·refine SCode.seq (SCode.region (sm rfl rfl (sq rfl rfl (q_len_vec rfl rfl sl22) (sm rfl rfl (SOps.nil (SCode.block ?_))))))
  let S2 := fun (t10_7 : Int) => (⟨[(8, .c (vI a0_caps)), (9, ci (((a0_caps).length : Int))), (10, ci t10_7)], []⟩ : St)
  refine SCode.sub (st' := (S2 0)) (sub_gen [] rfl rfl (zall rfl rfl) trivial) ?_
  refine (SCode.loop (σ := Nat × Int) (S := fun s => (S2 s.2)) (g := fun s => fair_check_l12 a0_caps s.1 s.2 = some r) (μ := fun s => s.1) (F, 0) h ?_)
  rintro ⟨n_12, t10_7⟩ h
  try dsimp only at h
  show SCode _ _ _ (S2 t10_7) _
  cases n_12 with
  | zero => cases h
  | succ n_12 =>
   rw [fair_check_l12] at h
   unfold fair_check_b12 at h
   refine SCode.seq (SCode.region (sq rfl rfl (q_lss rfl rfl rfl) (SOps.nil (SCode.seq ?_))))
   rcases cond_out h with ⟨g13, h⟩ | ⟨g13, h⟩
   ·refine SCode.cond_t rfl g13 (SCode.skip (SCode.seq (SCode.block (SCode.seq ?_))))
    obtain ⟨g14, h⟩ := guard_out h
    refine SCode.region (sq rfl rfl (q_index_vec rfl rfl rfl sl22 rfl g14.1 g14.2) (sq rfl rfl (q_load_eptr rfl rfl ty3) (sa rfl rfl (SOps.nil (SCode.seq ?_)))))
    rcases cond_out h with ⟨g15, h⟩ | ⟨g15, h⟩
    ·refine SCode.region (sm rfl rfl (sq rfl rfl (q_lss rfl rfl rfl) (sm rfl rfl (SOps.skip rfl 2 16 false rfl rfl (.inl (gT g15)) rfl (SOps.skip rfl 2 16 false rfl rfl (.inl (gT g15)) rfl (sq rfl rfl (q_pick_t rfl rfl g15 rfl) (SOps.nil (SCode.cond_t rfl rfl (SCode.seq (SCode.region (sa rfl rfl (SOps.nil (SCode.ret ?_)))))))))))))
     obtain rfl := Option.some.inj h
     exact ⟨⟨[(2, ci 2)], []⟩, _, sub_gen [] rfl rfl (zall rfl rfl) trivial, resA1 (v := .c (.int .i64 2)) rfl rfl, rfl⟩
    refine SCode.region (sm rfl rfl (sq rfl rfl (q_lss rfl rfl rfl) (sm rfl rfl (SOps.q rfl (.guard 2 16 false rfl rfl (gF g15)) rfl (q_move rfl rfl) (SOps.q rfl (.guard 2 16 false rfl rfl (gF g15)) rfl (q_gtr rfl rfl rfl) (sq rfl rfl (q_pick_f rfl rfl g15 rfl) (SOps.nil ?_)))))))
    rcases cond_out h with ⟨g16, h⟩ | ⟨g16, h⟩
    ·refine SCode.cond_t rfl g16 (SCode.seq (SCode.region (sa rfl rfl (SOps.nil (SCode.ret ?_)))))
     obtain rfl := Option.some.inj h
     exact ⟨⟨[(2, ci 2)], []⟩, _, sub_gen [] rfl rfl (zall rfl rfl) trivial, resA1 (v := .c (.int .i64 2)) rfl rfl, rfl⟩
    refine SCode.cond_f rfl g16 (SCode.skip (SCode.region (sq rfl rfl (q_add rfl rfl rfl) (sm rfl rfl (SOps.nil ?_)))))
    exact ⟨(n_12, IntKind.wrap .i64 (t10_7 + 1)), h, Nat.lt_succ_self n_12, sub_gen [] rfl rfl (zall rfl rfl) trivial⟩
   refine SCode.cond_f rfl g13 (SCode.exit ?_)
   exact ⟨(), h, sub_gen [] rfl rfl trivial trivial⟩
 rintro ⟨⟩ h
 show SCode _ _ _ S3 _
 try dsimp only at h
 unfold fair_check_p2 at h
 refine SCode.seq (SCode.region (sa rfl rfl (SOps.nil (SCode.ret ?_))))
 obtain rfl := Option.some.inj h
 exact ⟨⟨[(2, ci 0)], []⟩, _, sub_gen [] rfl rfl (zall rfl rfl) trivial, resA1 (v := .c (.int .i64 0)) rfl rfl, rfl⟩
theorem fair_least_int_ok (F : Nat) (a0_first : Int) (a1_others : List Int) (r : Int) (h : fair_least_int F a0_first a1_others = some r) :
  SFun Try.prog 16 [] [ci a0_first, .c (vI a1_others)] (fun x _ => x = ci r) := by
 refine SFun.of (n := 19) Try.func16 rfl rfl rfl ?_
 unfold fair_least_int at h
 show SCode _ _ _ ⟨[(0, ci a0_first), (1, .c (vI a1_others))], []⟩ _
 refine SCode.seq (SCode.region (sa rfl rfl (SOps.nil ?_)))
 let S9 := fun (first_1 : Int) => (⟨[(0, ci first_1)], []⟩ : St)
 refine SCode.join (σ := Int) (S := fun s => (S9 s)) (g := fun s => fair_least_int_p2 s = some r) ?_ ?_
 rotate_left
 ·refine SCode.seq (SCode.region (sm rfl rfl (sq rfl rfl (q_len_vec rfl rfl sl22) (sm rfl rfl (SOps.nil (SCode.block ?_))))))
  let S8 := fun (first_8 : Int) => fun (t9_9 : Int) => (⟨[(0, ci first_8), (7, .c (vI a1_others)), (8, ci (((a1_others).length : Int))), (9, ci t9_9)], []⟩ : St)
  refine SCode.sub (st' := (S8 a0_first 0)) (sub_gen [] rfl rfl (zall rfl rfl) trivial) ?_
  refine (SCode.loop (σ := Nat × (Int × Int)) (S := fun s => (S8 s.2.1 s.2.2)) (g := fun s => fair_least_int_l15 a1_others s.1 s.2.1 s.2.2 = some r) (μ := fun s => s.1) (F, (a0_first, 0)) h ?_)
  rintro ⟨n_15, ⟨first_8, t9_9⟩⟩ h
  try dsimp only at h
  show SCode _ _ _ (S8 first_8 t9_9) _
  cases n_15 with
  | zero => cases h
  | succ n_15 =>
   rw [fair_least_int_l15] at h
   unfold fair_least_int_b15 at h
   refine SCode.seq (SCode.region (sq rfl rfl (q_lss rfl rfl rfl) (SOps.nil (SCode.seq ?_))))
   rcases cond_out h with ⟨g16, h⟩ | ⟨g16, h⟩
   ·refine SCode.cond_t rfl g16 (SCode.skip ?_)
    let S7 := fun (first_17 : Int) => (⟨[(0, ci first_17), (7, .c (vI a1_others)), (8, ci (((a1_others).length : Int))), (9, ci t9_9)], []⟩ : St)
    refine SCode.join (σ := Int) (S := fun s => (S7 s)) (g := fun s => fair_least_int_p18 t9_9 (fun first_8 t9_9 => fair_least_int_l15 a1_others n_15 first_8 t9_9) s = some r) ?_ ?_
    rotate_left
    ·refine SCode.block (SCode.seq ?_)
     obtain ⟨g19, h⟩ := guard_out h
     refine SCode.region (sq rfl rfl (q_index_vec rfl rfl rfl sl22 rfl g19.1 g19.2) (sq rfl rfl (q_load_eptr rfl rfl ty3) (sa rfl rfl (SOps.nil (SCode.seq (SCode.region (sm rfl rfl (sm rfl rfl (sq rfl rfl (q_lss rfl rfl rfl) (SOps.nil ?_))))))))))
     rcases cond_out h with ⟨g20, h⟩ | ⟨g20, h⟩
     ·refine SCode.cond_t rfl g20 (SCode.region (sm rfl rfl (sa rfl rfl (SOps.nil ?_))))
      exact ⟨a1_others.getD t9_9.toNat 0, h, sub_gen [] rfl rfl (zall rfl rfl) trivial⟩
     refine SCode.cond_f rfl g20 (SCode.skip ?_)
     exact ⟨first_8, h, sub_gen [] rfl rfl (zall rfl rfl) trivial⟩
    rintro first_17 h
    show SCode _ _ _ (S7 first_17) _
    try dsimp only at h
    unfold fair_least_int_p18 at h
    refine SCode.region (sq rfl rfl (q_add rfl rfl rfl) (sm rfl rfl (SOps.nil ?_)))
    exact ⟨(n_15, (first_17, IntKind.wrap .i64 (t9_9 + 1))), h, Nat.lt_succ_self n_15, sub_gen [] rfl rfl (zall rfl rfl) trivial⟩
   refine SCode.cond_f rfl g16 (SCode.exit ?_)
   exact ⟨first_8, h, sub_gen [] rfl rfl (zall rfl rfl) trivial⟩
 rintro first_1 h
 show SCode _ _ _ (S9 first_1) _
 try dsimp only at h
 unfold fair_least_int_p2 at h
 refine SCode.seq (SCode.region (sm rfl rfl (sa rfl rfl (SOps.nil (SCode.ret ?_)))))
 obtain rfl := Option.some.inj h
 exact ⟨⟨[(4, ci first_1)], []⟩, _, sub_gen [] rfl rfl (zall rfl rfl) trivial, resA1 (v := .c (.int .i64 first_1)) rfl rfl, rfl⟩
theorem fair_division_raise_f0_p11_ok (F : Nat) (a0_v_caps : List Int) (a0b_Nodes : Int) (a0b_Arcs : List SArc) (a0_v_x : List Int) (a0_v_active : List Bool) (a0_v_trial : List Int) (a1_d : Int) (r : List Int) (h : fair_division_raise_f0_p11 F a0_v_caps a0b_Nodes a0b_Arcs a0_v_x a0_v_active a0_v_trial a1_d = some r) :
  SFun Try.prog 25 [.box [vI a0_v_caps, .fnp 11 1, .own 3 a0_v_x.length, .own 4 a0_v_active.length, .own 5 a0_v_trial.length], .box [.int .i64 a0b_Nodes, .own 2 a0b_Arcs.length], aSArc 54 a0b_Arcs, aI 3 a0_v_x, aB 4 a0_v_active, aI 3 a0_v_trial] [.c (.ptr 0 0), ci a1_d] (fun x os => x = .t [] ∧ os = [.box [vI a0_v_caps, .fnp 11 1, .own 3 a0_v_x.length, .own 4 a0_v_active.length, .own 5 r.length], .box [.int .i64 a0b_Nodes, .own 2 a0b_Arcs.length], aSArc 54 a0b_Arcs, aI 3 a0_v_x, aB 4 a0_v_active, aI 3 r]) := by
 refine SFun.of (n := 43) Try.func25 rfl rfl rfl ?_
 unfold fair_division_raise_f0_p11 at h
 show SCode _ _ _ ⟨[(0, .c (.ptr 0 0)), (1, ci a1_d)], [.box [vI a0_v_caps, .fnp 11 1, .own 3 a0_v_x.length, .own 4 a0_v_active.length, .own 5 a0_v_trial.length], .box [.int .i64 a0b_Nodes, .own 2 a0b_Arcs.length], aSArc 54 a0b_Arcs, aI 3 a0_v_x, aB 4 a0_v_active, aI 3 a0_v_trial]⟩ _
 refine SCode.seq (SCode.region (sm rfl rfl (sq rfl rfl (q_nilCheck rfl rfl rfl) (sq rfl rfl (q_field_ptr rfl rfl fd57_2) (sq rfl rfl (q_load_ptr rfl rfl rfl rfl ty22) (sq rfl rfl (q_len_own rfl rfl sl22) (sm rfl rfl (SOps.nil (SCode.block ?_)))))))))
 let S7 := fun (t11_11 : Int) => fun (o5_12 : List Int) => (⟨[(0, .c (.ptr 0 0)), (1, ci a1_d), (9, .c (.own 3 a0_v_x.length)), (10, ci (((a0_v_x).length : Int))), (11, ci t11_11)], [.box [vI a0_v_caps, .fnp 11 1, .own 3 a0_v_x.length, .own 4 a0_v_active.length, .own 5 o5_12.length], .box [.int .i64 a0b_Nodes, .own 2 a0b_Arcs.length], aSArc 54 a0b_Arcs, aI 3 a0_v_x, aB 4 a0_v_active, aI 3 o5_12]⟩ : St)
 refine SCode.sub (st' := (S7 0 a0_v_trial)) (sub_gen [0, 1, 2, 3, 4, 5] rfl rfl (zall rfl rfl) ⟨bx rfl rfl rfl, bx rfl rfl rfl, oa rfl, oa rfl, oa rfl, oa rfl, trivial⟩) ?_
 refine (SCode.loop (σ := Nat × (Int × (List Int))) (S := fun s => (S7 s.2.1 s.2.2)) (g := fun s => fair_division_raise_f0_p11_l23 F a0_v_caps a0_v_x a0_v_active a1_d s.1 s.2.1 s.2.2 = some r) (μ := fun s => s.1) (F, (0, a0_v_trial)) h ?_)
 rintro ⟨n_23, ⟨t11_11, o5_12⟩⟩ h
 try dsimp only at h
 show SCode _ _ _ (S7 t11_11 o5_12) _
 cases n_23 with
 | zero => cases h
 | succ n_23 =>
  rw [fair_division_raise_f0_p11_l23] at h
  unfold fair_division_raise_f0_p11_b23 at h
  refine SCode.seq (SCode.region (sq rfl rfl (q_lss rfl rfl rfl) (SOps.nil (SCode.seq ?_))))
  rcases cond_out h with ⟨g24, h⟩ | ⟨g24, h⟩
  ·refine SCode.cond_t rfl g24 (SCode.skip (SCode.seq (SCode.block (SCode.seq ?_))))
   obtain ⟨g25, h⟩ := guard_out h
   refine SCode.region (sm rfl rfl (sq rfl rfl (q_index_own rfl rfl rfl sl22 g25.1 g25.2) (sq rfl rfl (q_load_aptr rfl rfl rfl (toNat_lt g25) rfl ty3) (sa rfl rfl (sa rfl rfl (SOps.nil ?_))))))
   let S6 := fun (n_26 : Int) => (⟨[(0, .c (.ptr 0 0)), (1, ci a1_d), (4, ci t11_11), (5, ci n_26), (9, .c (.own 3 a0_v_x.length)), (10, ci (((a0_v_x).length : Int))), (11, ci t11_11)], [.box [vI a0_v_caps, .fnp 11 1, .own 3 a0_v_x.length, .own 4 a0_v_active.length, .own 5 o5_12.length], .box [.int .i64 a0b_Nodes, .own 2 a0b_Arcs.length], aSArc 54 a0b_Arcs, aI 3 a0_v_x, aB 4 a0_v_active, aI 3 o5_12]⟩ : St)
   refine SCode.join (σ := Int) (S := fun s => (S6 s)) (g := fun s => fair_division_raise_f0_p11_p28 t11_11 o5_12 (fun t11_11 o5_12 => fair_division_raise_f0_p11_l23 F a0_v_caps a0_v_x a0_v_active a1_d n_23 t11_11 o5_12) s = some r) ?_ ?_
   rotate_left
   ·refine SCode.seq ?_
    obtain ⟨g29, h⟩ := guard_out h
    refine SCode.region (sm rfl rfl (sq rfl rfl (q_nilCheck rfl rfl rfl) (sq rfl rfl (q_field_ptr rfl rfl fd57_3) (sq rfl rfl (q_load_ptr rfl rfl rfl rfl ty55) (sm rfl rfl (sq rfl rfl (q_index_own rfl rfl rfl sl55 g29.1 g29.2) (sq rfl rfl (q_load_aptr rfl rfl rfl (toNat_lt g29) rfl ty4) (SOps.nil ?_))))))))
    rcases cond_out h with ⟨g30, h⟩ | ⟨g30, h⟩
    ·refine SCode.cond_t rfl g30 ?_
     obtain ⟨g31, h⟩ := guard_out h
     obtain ⟨c_32, g33, h⟩ := bind_out h
     try dsimp only at h
     refine SCode.region (sm rfl rfl (sm rfl rfl (sq rfl rfl (q_add rfl rfl rfl) (sm rfl rfl (sq rfl rfl (q_nilCheck rfl rfl rfl) (sq rfl rfl (q_field_ptr rfl rfl fd57_0) (sq rfl rfl (q_load_ptr rfl rfl rfl rfl ty22) (sm rfl rfl (sq rfl rfl (q_index_vec rfl rfl rfl sl22 rfl g31.1 g31.2) (sq rfl rfl (q_load_eptr rfl rfl ty3) (sq rfl rfl (q_bsliceL (c := (cInt .i64)) (d0 := 0) [a0_v_caps.getD t11_11.toNat 0] rfl rfl sl22 z3 rfl rfl rfl rfl rfl rfl rfl) (sq rfl rfl (q_call (fair_least_int_ok F (IntKind.wrap .i64 (a0_v_x.getD t11_11.toNat 0 + a1_d)) ([a0_v_caps.getD t11_11.toNat 0]) c_32 g33) [] rfl fn16 ⟨⟨_, rfl, .inl ⟨rfl, rfl⟩⟩, ⟨_, rfl, .inl ⟨rfl, rfl⟩⟩, trivial⟩ (.inl rfl)) (sa rfl rfl (SOps.sub (st' := ⟨[(0, .c (.ptr 0 0)), (1, ci a1_d), (4, ci t11_11), (5, ci c_32), (9, .c (.own 3 a0_v_x.length)), (10, ci (((a0_v_x).length : Int))), (11, ci t11_11)], [.box [vI a0_v_caps, .fnp 11 1, .own 3 a0_v_x.length, .own 4 a0_v_active.length, .own 5 o5_12.length], .box [.int .i64 a0b_Nodes, .own 2 a0b_Arcs.length], aSArc 54 a0b_Arcs, aI 3 a0_v_x, aB 4 a0_v_active, aI 3 o5_12]⟩) (sub_gen [0, 1, 2, 3, 4, 5] rfl rfl (zall rfl rfl) ⟨bx rfl rfl rfl, bx rfl rfl rfl, oa rfl, oa rfl, oa rfl, oa rfl, trivial⟩) (SOps.nil ?_)))))))))))))))
     exact ⟨c_32, h, sub_gen [0, 1, 2, 3, 4, 5] rfl rfl (zall rfl rfl) ⟨bx rfl rfl rfl, bx rfl rfl rfl, oa rfl, oa rfl, oa rfl, oa rfl, trivial⟩⟩
    refine SCode.cond_f rfl g30 (SCode.skip ?_)
    exact ⟨a0_v_x.getD t11_11.toNat 0, h, sub_gen [0, 1, 2, 3, 4, 5] rfl rfl (zall rfl rfl) ⟨bx rfl rfl rfl, bx rfl rfl rfl, oa rfl, oa rfl, oa rfl, oa rfl, trivial⟩⟩
   rintro n_26 h
   show SCode _ _ _ (S6 n_26) _
   try dsimp only at h
   unfold fair_division_raise_f0_p11_p28 at h
   obtain ⟨g27, h⟩ := guard_out h
   refine SCode.region (sm rfl rfl (sq rfl rfl (q_nilCheck rfl rfl rfl) (sq rfl rfl (q_field_ptr rfl rfl fd57_4) (sq rfl rfl (q_load_ptr rfl rfl rfl rfl ty22) (sm rfl rfl (sm rfl rfl (sq rfl rfl (q_index_own rfl rfl rfl sl22 g27.1 g27.2) (se rfl rfl (e_storeL n_26 rfl rfl rfl rfl rfl (toNat_lt g27) ty3 rfl rfl rfl rfl rfl rfl) (SOps.sub (st' := ⟨[(0, .c (.ptr 0 0)), (1, ci a1_d), (9, .c (.own 3 a0_v_x.length)), (10, ci (((a0_v_x).length : Int))), (11, ci t11_11)], [.box [vI a0_v_caps, .fnp 11 1, .own 3 a0_v_x.length, .own 4 a0_v_active.length, .own 5 (o5_12.set t11_11.toNat n_26).length], .box [.int .i64 a0b_Nodes, .own 2 a0b_Arcs.length], aSArc 54 a0b_Arcs, aI 3 a0_v_x, aB 4 a0_v_active, aI 3 (o5_12.set t11_11.toNat n_26)]⟩) (sub_gen [0, 1, 2, 3, 4, 5] rfl rfl (zall rfl rfl) ⟨⟨_, rfl, ⟨ii rfl rfl, ii rfl rfl, ii rfl rfl, ii rfl rfl, .inl ⟨rfl, congrArg (Cell.own 5) (List.length_set : (o5_12.set t11_11.toNat n_26).length = o5_12.length).symm⟩, trivial⟩⟩, bx rfl rfl rfl, oa rfl, oa rfl, oa rfl, oa rfl, trivial⟩) (SOps.nil (SCode.region (sq rfl rfl (q_add rfl rfl rfl) (sm rfl rfl (SOps.nil ?_))))))))))))))
   exact ⟨(n_23, (IntKind.wrap .i64 (t11_11 + 1), o5_12.set t11_11.toNat n_26)), h, Nat.lt_succ_self n_23, sub_gen [0, 1, 2, 3, 4, 5] rfl rfl (zall rfl rfl) ⟨bx rfl rfl rfl, bx rfl rfl rfl, oa rfl, oa rfl, oa rfl, oa rfl, trivial⟩⟩
  refine SCode.cond_f rfl g24 (SCode.exit ?_)
  obtain rfl := Option.some.inj h
  exact ⟨⟨[], [.box [vI a0_v_caps, .fnp 11 1, .own 3 a0_v_x.length, .own 4 a0_v_active.length, .own 5 o5_12.length], .box [.int .i64 a0b_Nodes, .own 2 a0b_Arcs.length], aSArc 54 a0b_Arcs, aI 3 a0_v_x, aB 4 a0_v_active, aI 3 o5_12]⟩, _, sub_gen [0, 1, 2, 3, 4, 5] rfl rfl trivial ⟨bx rfl rfl rfl, bx rfl rfl rfl, oa rfl, oa rfl, oa rfl, oa rfl, trivial⟩, resA0 rfl, ⟨rfl, rfl⟩⟩
theorem fair_division_raisable_f0_p11_ok (F : Nat) (a0_v_caps : List Int) (a0b_Nodes : Int) (a0b_Arcs : List SArc) (a0_v_x : List Int) (a0_v_active : List Bool) (a0_v_trial : List Int) (a1_d : Int) (r : Bool × (List SArc) × (List Int)) (h : fair_division_raisable_f0_p11 F a0_v_caps a0b_Nodes a0b_Arcs a0_v_x a0_v_active a0_v_trial a1_d = some r) :
  SFun Try.prog 24 [.box [vI a0_v_caps, .fnp 11 1, .own 3 a0_v_x.length, .own 4 a0_v_active.length, .own 5 a0_v_trial.length], .box [.int .i64 a0b_Nodes, .own 2 a0b_Arcs.length], aSArc 54 a0b_Arcs, aI 3 a0_v_x, aB 4 a0_v_active, aI 3 a0_v_trial] [.c (.ptr 0 0), ci a1_d] (fun x os => x = .c (.bool r.1) ∧ os = [.box [vI a0_v_caps, .fnp 11 1, .own 3 a0_v_x.length, .own 4 a0_v_active.length, .own 5 r.2.2.length], .box [.int .i64 a0b_Nodes, .own 2 r.2.1.length], aSArc 54 r.2.1, aI 3 a0_v_x, aB 4 a0_v_active, aI 3 r.2.2]) := by
 refine SFun.of (n := 17) Try.func24 rfl rfl rfl ?_
 unfold fair_division_raisable_f0_p11 at h
 show SCode _ _ _ ⟨[(0, .c (.ptr 0 0)), (1, ci a1_d)], [.box [vI a0_v_caps, .fnp 11 1, .own 3 a0_v_x.length, .own 4 a0_v_active.length, .own 5 a0_v_trial.length], .box [.int .i64 a0b_Nodes, .own 2 a0b_Arcs.length], aSArc 54 a0b_Arcs, aI 3 a0_v_x, aB 4 a0_v_active, aI 3 a0_v_trial]⟩ _
 refine SCode.seq (SCode.region (sa rfl rfl (SOps.nil (SCode.seq ?_))))
 obtain ⟨c_1, g2, h⟩ := bind_out h
 try dsimp only at h
 refine SCode.region (sm rfl rfl (sm rfl rfl (se rfl rfl (e_call (fair_division_raise_f0_p11_ok F a0_v_caps a0b_Nodes a0b_Arcs a0_v_x a0_v_active a0_v_trial a1_d c_1 g2) [0, 1, 2, 3, 4, 5] rfl fn25 rfl rfl rfl rfl rfl rfl rfl rfl) (SOps.nil (SCode.seq (SCode.sub (st' := ⟨[(0, .c (.ptr 0 0))], [.box [vI a0_v_caps, .fnp 11 1, .own 3 a0_v_x.length, .own 4 a0_v_active.length, .own 5 c_1.length], .box [.int .i64 a0b_Nodes, .own 2 a0b_Arcs.length], aSArc 54 a0b_Arcs, aI 3 a0_v_x, aB 4 a0_v_active, aI 3 c_1]⟩) (sub_gen [0, 1, 2, 3, 4, 5] rfl rfl (zall rfl rfl) ⟨bx rfl rfl rfl, bx rfl rfl rfl, oa rfl, oa rfl, oa rfl, oa rfl, trivial⟩) ?_))))))
 obtain ⟨c_3, g4, h⟩ := bind_out h
 try dsimp only at h
 refine SCode.drawK mixed [[], [0], [0, 1], [0, 1, 2], [], [4], [4, 5], [4, 5, 6], [0, 1, 2, 3, 4, 5, 6, 7], [0, 1, 2, 3, 4, 5, 6, 7, 8]] 8 2 rfl rfl (qm rfl rfl (qr rfl rfl (q_nilCheck rfl rfl rfl) (qr rfl rfl (q_field_ptr rfl rfl fd57_1) (qr rfl rfl (q_load_ptr rfl rfl rfl rfl ty45) (qm rfl rfl (qr rfl rfl (q_nilCheck rfl rfl rfl) (qr rfl rfl (q_field_ptr rfl rfl fd57_4) (qr rfl rfl (q_load_ptr rfl rfl rfl rfl ty22) (QK.nil (se rfl rfl (e_callP (plan_Fair_1_ok F c_1 a0b_Nodes a0b_Arcs c_3 g4) [1, 2] [5] rfl rfl fn11 rfl rfl rfl rfl rfl rfl rfl rfl (nrs ⟨rfl, fun _ _ => nrSArc _ _, trivial⟩) ⟨.inr (.inl ⟨_, _, _, _, _, _, _, rfl, rfl, rfl, Nat.le_refl _, fun _ _ _ _ => rfl, (.head _)⟩), .inl ⟨rfl, rfl⟩, trivial⟩) (sa rfl rfl (SOps.sub (st' := ⟨[(4, .c (.bool c_3.1))], [.box [vI a0_v_caps, .fnp 11 1, .own 3 a0_v_x.length, .own 4 a0_v_active.length, .own 5 c_1.length], .box [.int .i64 a0b_Nodes, .own 2 c_3.2.length], aSArc 54 c_3.2, aI 3 a0_v_x, aB 4 a0_v_active, aI 3 c_1]⟩) (sub_gen [0, 1, 2, 3, 4, 5] rfl rfl (zall rfl rfl) ⟨bx rfl rfl rfl, bx rfl rfl rfl, oa rfl, oa rfl, oa rfl, oa rfl, trivial⟩) (SOps.nil (SCode.ret ?_))))))))))))))
 obtain rfl := Option.some.inj h
 exact ⟨⟨[(4, .c (.bool c_3.1))], [.box [vI a0_v_caps, .fnp 11 1, .own 3 a0_v_x.length, .own 4 a0_v_active.length, .own 5 c_1.length], .box [.int .i64 a0b_Nodes, .own 2 c_3.2.length], aSArc 54 c_3.2, aI 3 a0_v_x, aB 4 a0_v_active, aI 3 c_1]⟩, _, sub_gen [0, 1, 2, 3, 4, 5] rfl rfl (zall rfl rfl) ⟨bx rfl rfl rfl, bx rfl rfl rfl, oa rfl, oa rfl, oa rfl, oa rfl, trivial⟩, resA1 (v := .c (.bool c_3.1)) rfl rfl, ⟨rfl, rfl⟩⟩
theorem fair_division_together_f0_p11_ok (F : Nat) (a0_v_caps : List Int) (a0b_Nodes : Int) (a0b_Arcs : List SArc) (a0_v_x : List Int) (a0_v_active : List Bool) (a0_v_trial : List Int) (r : (List SArc) × (List Int) × (List Int)) (h : fair_division_together_f0_p11 F a0_v_caps a0b_Nodes a0b_Arcs a0_v_x a0_v_active a0_v_trial = some r) :
  SFun Try.prog 21 [.box [vI a0_v_caps, .fnp 11 1, .own 3 a0_v_x.length, .own 4 a0_v_active.length, .own 5 a0_v_trial.length], .box [.int .i64 a0b_Nodes, .own 2 a0b_Arcs.length], aSArc 54 a0b_Arcs, aI 3 a0_v_x, aB 4 a0_v_active, aI 3 a0_v_trial] [.c (.ptr 0 0)] (fun x os => x = .t [] ∧ os = [.box [vI a0_v_caps, .fnp 11 1, .own 3 r.2.1.length, .own 4 a0_v_active.length, .own 5 r.2.2.length], .box [.int .i64 a0b_Nodes, .own 2 r.1.length], aSArc 54 r.1, aI 3 r.2.1, aB 4 a0_v_active, aI 3 r.2.2]) := by
 refine SFun.of (n := 74) Try.func21 rfl rfl rfl ?_
 unfold fair_division_together_f0_p11 at h
 show SCode _ _ _ ⟨[(0, .c (.ptr 0 0))], [.box [vI a0_v_caps, .fnp 11 1, .own 3 a0_v_x.length, .own 4 a0_v_active.length, .own 5 a0_v_trial.length], .box [.int .i64 a0b_Nodes, .own 2 a0b_Arcs.length], aSArc 54 a0b_Arcs, aI 3 a0_v_x, aB 4 a0_v_active, aI 3 a0_v_trial]⟩ _
 refine SCode.seq (SCode.region (sa rfl rfl (SOps.nil ?_)))
 let S14 := fun (most_1 : Int) => (⟨[(0, .c (.ptr 0 0)), (2, ci most_1)], [.box [vI a0_v_caps, .fnp 11 1, .own 3 a0_v_x.length, .own 4 a0_v_active.length, .own 5 a0_v_trial.length], .box [.int .i64 a0b_Nodes, .own 2 a0b_Arcs.length], aSArc 54 a0b_Arcs, aI 3 a0_v_x, aB 4 a0_v_active, aI 3 a0_v_trial]⟩ : St)
 refine SCode.join (σ := Int) (S := fun s => (S14 s)) (g := fun s => fair_division_together_f0_p11_p36 F a0_v_caps a0b_Nodes a0b_Arcs a0_v_x a0_v_active a0_v_trial s = some r) ?_ ?_
 rotate_left
 ·refine SCode.seq (SCode.region (sm rfl rfl (sq rfl rfl (q_nilCheck rfl rfl rfl) (sq rfl rfl (q_field_ptr rfl rfl fd57_2) (sq rfl rfl (q_load_ptr rfl rfl rfl rfl ty22) (sq rfl rfl (q_len_own rfl rfl sl22) (sm rfl rfl (SOps.nil (SCode.block ?_)))))))))
  let S13 := fun (most_44 : Int) => fun (t13_45 : Int) => (⟨[(0, .c (.ptr 0 0)), (2, ci most_44), (11, .c (.own 3 a0_v_x.length)), (12, ci (((a0_v_x).length : Int))), (13, ci t13_45)], [.box [vI a0_v_caps, .fnp 11 1, .own 3 a0_v_x.length, .own 4 a0_v_active.length, .own 5 a0_v_trial.length], .box [.int .i64 a0b_Nodes, .own 2 a0b_Arcs.length], aSArc 54 a0b_Arcs, aI 3 a0_v_x, aB 4 a0_v_active, aI 3 a0_v_trial]⟩ : St)
  refine SCode.sub (st' := (S13 0 0)) (sub_gen [0, 1, 2, 3, 4, 5] rfl rfl (zall rfl rfl) ⟨bx rfl rfl rfl, bx rfl rfl rfl, oa rfl, oa rfl, oa rfl, oa rfl, trivial⟩) ?_
  refine (SCode.loop (σ := Nat × (Int × Int)) (S := fun s => (S13 s.2.1 s.2.2)) (g := fun s => fair_division_together_f0_p11_l53 F a0_v_caps a0b_Nodes a0b_Arcs a0_v_x a0_v_active a0_v_trial s.1 s.2.1 s.2.2 = some r) (μ := fun s => s.1) (F, (0, 0)) h ?_)
  rintro ⟨n_53, ⟨most_44, t13_45⟩⟩ h
  try dsimp only at h
  show SCode _ _ _ (S13 most_44 t13_45) _
  cases n_53 with
  | zero => cases h
  | succ n_53 =>
   rw [fair_division_together_f0_p11_l53] at h
   unfold fair_division_together_f0_p11_b53 at h
   refine SCode.seq (SCode.region (sq rfl rfl (q_lss rfl rfl rfl) (SOps.nil (SCode.seq ?_))))
   rcases cond_out h with ⟨g54, h⟩ | ⟨g54, h⟩
   ·refine SCode.cond_t rfl g54 (SCode.skip ?_)
    let S12 := fun (most_55 : Int) => (⟨[(0, .c (.ptr 0 0)), (2, ci most_55), (11, .c (.own 3 a0_v_x.length)), (12, ci (((a0_v_x).length : Int))), (13, ci t13_45)], [.box [vI a0_v_caps, .fnp 11 1, .own 3 a0_v_x.length, .own 4 a0_v_active.length, .own 5 a0_v_trial.length], .box [.int .i64 a0b_Nodes, .own 2 a0b_Arcs.length], aSArc 54 a0b_Arcs, aI 3 a0_v_x, aB 4 a0_v_active, aI 3 a0_v_trial]⟩ : St)
    refine SCode.join (σ := Int) (S := fun s => (S12 s)) (g := fun s => fair_division_together_f0_p11_p56 t13_45 (fun most_44 t13_45 => fair_division_together_f0_p11_l53 F a0_v_caps a0b_Nodes a0b_Arcs a0_v_x a0_v_active a0_v_trial n_53 most_44 t13_45) s = some r) ?_ ?_
    rotate_left
    ·refine SCode.block (SCode.seq ?_)
     obtain ⟨g57, h⟩ := guard_out h
     refine SCode.region (sm rfl rfl (sq rfl rfl (q_index_own rfl rfl rfl sl22 g57.1 g57.2) (sq rfl rfl (q_load_aptr rfl rfl rfl (toNat_lt g57) rfl ty3) (sa rfl rfl (sa rfl rfl (SOps.nil (SCode.seq ?_)))))))
     obtain ⟨g58, h⟩ := guard_out h
     refine SCode.region (sm rfl rfl (sq rfl rfl (q_nilCheck rfl rfl rfl) (sq rfl rfl (q_field_ptr rfl rfl fd57_3) (sq rfl rfl (q_load_ptr rfl rfl rfl rfl ty55) (sm rfl rfl (sq rfl rfl (q_index_own rfl rfl rfl sl55 g58.1 g58.2) (sq rfl rfl (q_load_aptr rfl rfl rfl (toNat_lt g58) rfl ty4) (SOps.nil ?_))))))))
     rcases cond_out h with ⟨g59, h⟩ | ⟨g59, h⟩
     ·refine SCode.cond_t rfl g59 ?_
      obtain ⟨g60, h⟩ := guard_out h
      refine SCode.region (sm rfl rfl (sm rfl rfl (sq rfl rfl (q_nilCheck rfl rfl rfl) (sq rfl rfl (q_field_ptr rfl rfl fd57_0) (sq rfl rfl (q_load_ptr rfl rfl rfl rfl ty22) (sm rfl rfl (sq rfl rfl (q_index_vec rfl rfl rfl sl22 rfl g60.1 g60.2) (sq rfl rfl (q_load_eptr rfl rfl ty3) (sm rfl rfl (sq rfl rfl (q_sub rfl rfl rfl) (sq rfl rfl (q_max rfl rfl rfl) (sa rfl rfl (SOps.sub (st' := ⟨[(0, .c (.ptr 0 0)), (2, ci ((if most_44 < IntKind.wrap .i64 (a0_v_caps.getD t13_45.toNat 0 - a0_v_x.getD t13_45.toNat 0) then IntKind.wrap .i64 (a0_v_caps.getD t13_45.toNat 0 - a0_v_x.getD t13_45.toNat 0) else most_44))), (11, .c (.own 3 a0_v_x.length)), (12, ci (((a0_v_x).length : Int))), (13, ci t13_45)], [.box [vI a0_v_caps, .fnp 11 1, .own 3 a0_v_x.length, .own 4 a0_v_active.length, .own 5 a0_v_trial.length], .box [.int .i64 a0b_Nodes, .own 2 a0b_Arcs.length], aSArc 54 a0b_Arcs, aI 3 a0_v_x, aB 4 a0_v_active, aI 3 a0_v_trial]⟩) (sub_gen [0, 1, 2, 3, 4, 5] rfl rfl (zall rfl rfl) ⟨bx rfl rfl rfl, bx rfl rfl rfl, oa rfl, oa rfl, oa rfl, oa rfl, trivial⟩) (SOps.nil ?_))))))))))))))
      exact ⟨(if most_44 < IntKind.wrap .i64 (a0_v_caps.getD t13_45.toNat 0 - a0_v_x.getD t13_45.toNat 0) then IntKind.wrap .i64 (a0_v_caps.getD t13_45.toNat 0 - a0_v_x.getD t13_45.toNat 0) else most_44), h, sub_gen [0, 1, 2, 3, 4, 5] rfl rfl (zall rfl rfl) ⟨bx rfl rfl rfl, bx rfl rfl rfl, oa rfl, oa rfl, oa rfl, oa rfl, trivial⟩⟩
     refine SCode.cond_f rfl g59 (SCode.skip ?_)
     exact ⟨most_44, h, sub_gen [0, 1, 2, 3, 4, 5] rfl rfl (zall rfl rfl) ⟨bx rfl rfl rfl, bx rfl rfl rfl, oa rfl, oa rfl, oa rfl, oa rfl, trivial⟩⟩
    rintro most_55 h
    show SCode _ _ _ (S12 most_55) _
    try dsimp only at h
    unfold fair_division_together_f0_p11_p56 at h
    refine SCode.region (sq rfl rfl (q_add rfl rfl rfl) (sm rfl rfl (SOps.nil ?_)))
    exact ⟨(n_53, (most_55, IntKind.wrap .i64 (t13_45 + 1))), h, Nat.lt_succ_self n_53, sub_gen [0, 1, 2, 3, 4, 5] rfl rfl (zall rfl rfl) ⟨bx rfl rfl rfl, bx rfl rfl rfl, oa rfl, oa rfl, oa rfl, oa rfl, trivial⟩⟩
   refine SCode.cond_f rfl g54 (SCode.exit ?_)
   exact ⟨most_44, h, sub_gen [0, 1, 2, 3, 4, 5] rfl rfl (zall rfl rfl) ⟨bx rfl rfl rfl, bx rfl rfl rfl, oa rfl, oa rfl, oa rfl, oa rfl, trivial⟩⟩
 rintro most_1 h
 show SCode _ _ _ (S14 most_1) _
 try dsimp only at h
 unfold fair_division_together_f0_p11_p36 at h
 refine SCode.seq (SCode.region (sm rfl rfl (sa rfl rfl (SOps.nil ?_))))
 let S9 := fun (d_2 : Int) => fun (o2_3 : List SArc) => fun (o5_4 : List Int) => (⟨[(0, .c (.ptr 0 0)), (5, ci d_2)], [.box [vI a0_v_caps, .fnp 11 1, .own 3 a0_v_x.length, .own 4 a0_v_active.length, .own 5 o5_4.length], .box [.int .i64 a0b_Nodes, .own 2 o2_3.length], aSArc 54 o2_3, aI 3 a0_v_x, aB 4 a0_v_active, aI 3 o5_4]⟩ : St)
 refine SCode.join (σ := Int × (List SArc) × (List Int)) (S := fun s => (S9 s.1 s.2.1 s.2.2)) (g := fun s => fair_division_together_f0_p11_p7 F a0_v_caps a0b_Nodes a0_v_x a0_v_active s.1 s.2.1 s.2.2 = some r) ?_ ?_
 rotate_left
 ·let S8 := fun (t45_8 : Bool) => fun (o2_9 : List SArc) => fun (o5_10 : List Int) => (⟨[(0, .c (.ptr 0 0)), (2, ci most_1), (5, ci most_1), (45, .c (.bool t45_8))], [.box [vI a0_v_caps, .fnp 11 1, .own 3 a0_v_x.length, .own 4 a0_v_active.length, .own 5 o5_10.length], .box [.int .i64 a0b_Nodes, .own 2 o2_9.length], aSArc 54 o2_9, aI 3 a0_v_x, aB 4 a0_v_active, aI 3 o5_10]⟩ : St)
  refine SCode.join (σ := Bool × (List SArc) × (List Int)) (S := fun s => (S8 s.1 s.2.1 s.2.2)) (g := fun s => fair_division_together_f0_p11_p32 F a0_v_caps a0b_Nodes a0_v_x a0_v_active most_1 s.1 s.2.1 s.2.2 = some r) ?_ ?_
  rotate_left
  ·rcases cond_out h with ⟨g33, h⟩ | ⟨g33, h⟩
   ·obtain ⟨c_34, g35, h⟩ := bind_out h
    try dsimp only at h
    refine SCode.region (sm rfl rfl (sq rfl rfl (q_gtr rfl rfl rfl) (sm rfl rfl (SOps.q rfl (.guard 2 40 true rfl rfl (gT g33)) rfl (q_move rfl rfl) (SOps.q rfl (.guard 2 40 true rfl rfl (gT g33)) rfl (q_move rfl rfl) (SOps.e rfl (.guard 2 40 true rfl rfl (gT g33)) (e_call (fair_division_raisable_f0_p11_ok F a0_v_caps a0b_Nodes a0b_Arcs a0_v_x a0_v_active a0_v_trial most_1 c_34 g35) [0, 1, 2, 3, 4, 5] rfl fn24 rfl rfl rfl rfl rfl rfl rfl rfl) (SOps.q rfl (.guard 2 40 true rfl rfl (gT g33)) rfl (q_not rfl rfl) (sq rfl rfl (q_pick_t rfl rfl g33 rfl) (SOps.nil ?_)))))))))
    exact ⟨((!c_34.1), c_34.2.1, c_34.2.2), h, sub_gen [0, 1, 2, 3, 4, 5] rfl rfl (zall rfl rfl) ⟨bx rfl rfl rfl, bx rfl rfl rfl, oa rfl, oa rfl, oa rfl, oa rfl, trivial⟩⟩
   refine SCode.region (sm rfl rfl (sq rfl rfl (q_gtr rfl rfl rfl) (sm rfl rfl (SOps.skip rfl 2 40 true rfl rfl (.inl (gF g33)) rfl (SOps.skip rfl 2 40 true rfl rfl (.inl (gF g33)) rfl (SOps.skip rfl 2 40 true rfl rfl (.inl (gF g33)) rfl (SOps.skip rfl 2 40 true rfl rfl (.inl (gF g33)) rfl (sq rfl rfl (q_pick_f rfl rfl g33 rfl) (SOps.nil ?_)))))))))
   exact ⟨(false, a0b_Arcs, a0_v_trial), h, sub_gen [0, 1, 2, 3, 4, 5] rfl rfl (zall rfl rfl) ⟨bx rfl rfl rfl, bx rfl rfl rfl, oa rfl, oa rfl, oa rfl, oa rfl, trivial⟩⟩
  rintro ⟨t45_8, o2_9, o5_10⟩ h
  show SCode _ _ _ (S8 t45_8 o2_9 o5_10) _
  try dsimp only at h
  unfold fair_division_together_f0_p11_p32 at h
  rcases cond_out h with ⟨g11, h⟩ | ⟨g11, h⟩
  ·refine SCode.cond_t rfl g11 (SCode.seq (SCode.region (sa rfl rfl (SOps.nil (SCode.seq (SCode.region (sm rfl rfl (sa rfl rfl (SOps.nil (SCode.block ?_))))))))))
   let S7 := fun (d_19 : Int) => fun (bad_20 : Int) => fun (o2_21 : List SArc) => fun (o5_22 : List Int) => (⟨[(0, .c (.ptr 0 0)), (5, ci d_19), (6, ci bad_20)], [.box [vI a0_v_caps, .fnp 11 1, .own 3 a0_v_x.length, .own 4 a0_v_active.length, .own 5 o5_22.length], .box [.int .i64 a0b_Nodes, .own 2 o2_21.length], aSArc 54 o2_21, aI 3 a0_v_x, aB 4 a0_v_active, aI 3 o5_22]⟩ : St)
   refine SCode.sub (st' := (S7 0 most_1 o2_9 o5_10)) (sub_gen [0, 1, 2, 3, 4, 5] rfl rfl (zall rfl rfl) ⟨bx rfl rfl rfl, bx rfl rfl rfl, oa rfl, oa rfl, oa rfl, oa rfl, trivial⟩) ?_
   refine (SCode.loop (σ := Nat × (Int × Int × (List SArc) × (List Int))) (S := fun s => (S7 s.2.1 s.2.2.1 s.2.2.2.1 s.2.2.2.2)) (g := fun s => fair_division_together_f0_p11_l27 F a0_v_caps a0b_Nodes a0_v_x a0_v_active s.1 s.2.1 s.2.2.1 s.2.2.2.1 s.2.2.2.2 = some r) (μ := fun s => s.1) (F, (0, most_1, o2_9, o5_10)) h ?_)
   rintro ⟨n_27, ⟨d_19, bad_20, o2_21, o5_22⟩⟩ h
   try dsimp only at h
   show SCode _ _ _ (S7 d_19 bad_20 o2_21 o5_22) _
   cases n_27 with
   | zero => cases h
   | succ n_27 =>
    rw [fair_division_together_f0_p11_l27] at h
    unfold fair_division_together_f0_p11_b27 at h
    refine SCode.seq (SCode.seq (SCode.region (sm rfl rfl (sm rfl rfl (sq rfl rfl (q_sub rfl rfl rfl) (sq rfl rfl (q_gtr rfl rfl rfl) (SOps.nil ?_)))))))
    rcases cond_out h with ⟨g28, h⟩ | ⟨g28, h⟩
    ·refine SCode.cond_t rfl g28 (SCode.skip (SCode.block (SCode.seq (SCode.region (sm rfl rfl (sm rfl rfl (sm rfl rfl (sq rfl rfl (q_sub rfl rfl rfl) (sq rfl rfl (q_quo rfl rfl rfl (by decide)) (sq rfl rfl (q_add rfl rfl rfl) (sa rfl rfl (SOps.nil (SCode.seq ?_)))))))))))))
     obtain ⟨c_29, g30, h⟩ := bind_out h
     try dsimp only at h
     refine SCode.region (sm rfl rfl (sm rfl rfl (se rfl rfl (e_call (fair_division_raisable_f0_p11_ok F a0_v_caps a0b_Nodes o2_21 a0_v_x a0_v_active o5_22 (IntKind.wrap .i64 (d_19 + IntKind.wrap .i64 (Int.tdiv (IntKind.wrap .i64 (bad_20 - d_19)) 2))) c_29 g30) [0, 1, 2, 3, 4, 5] rfl fn24 rfl rfl rfl rfl rfl rfl rfl rfl) (SOps.nil ?_))))
     rcases cond_out h with ⟨g31, h⟩ | ⟨g31, h⟩
     ·refine SCode.cond_t rfl g31 (SCode.region (sm rfl rfl (sa rfl rfl (SOps.nil ?_))))
      exact ⟨(n_27, (IntKind.wrap .i64 (d_19 + IntKind.wrap .i64 (Int.tdiv (IntKind.wrap .i64 (bad_20 - d_19)) 2)), bad_20, c_29.2.1, c_29.2.2)), h, Nat.lt_succ_self n_27, sub_gen [0, 1, 2, 3, 4, 5] rfl rfl (zall rfl rfl) ⟨bx rfl rfl rfl, bx rfl rfl rfl, oa rfl, oa rfl, oa rfl, oa rfl, trivial⟩⟩
     refine SCode.cond_f rfl g31 (SCode.region (sm rfl rfl (sa rfl rfl (SOps.nil ?_))))
     exact ⟨(n_27, (d_19, IntKind.wrap .i64 (d_19 + IntKind.wrap .i64 (Int.tdiv (IntKind.wrap .i64 (bad_20 - d_19)) 2)), c_29.2.1, c_29.2.2)), h, Nat.lt_succ_self n_27, sub_gen [0, 1, 2, 3, 4, 5] rfl rfl (zall rfl rfl) ⟨bx rfl rfl rfl, bx rfl rfl rfl, oa rfl, oa rfl, oa rfl, oa rfl, trivial⟩⟩
    refine SCode.cond_f rfl g28 (SCode.exit ?_)
    exact ⟨(d_19, o2_21, o5_22), h, sub_gen [0, 1, 2, 3, 4, 5] rfl rfl (zall rfl rfl) ⟨bx rfl rfl rfl, bx rfl rfl rfl, oa rfl, oa rfl, oa rfl, oa rfl, trivial⟩⟩
  refine SCode.cond_f rfl g11 (SCode.skip ?_)
  exact ⟨(most_1, o2_9, o5_10), h, sub_gen [0, 1, 2, 3, 4, 5] rfl rfl (zall rfl rfl) ⟨bx rfl rfl rfl, bx rfl rfl rfl, oa rfl, oa rfl, oa rfl, oa rfl, trivial⟩⟩
 rintro ⟨d_2, o2_3, o5_4⟩ h
 show SCode _ _ _ (S9 d_2 o2_3 o5_4) _
 try dsimp only at h
 unfold fair_division_together_f0_p11_p7 at h
 refine SCode.seq ?_
 obtain ⟨c_5, g6, h⟩ := bind_out h
 try dsimp only at h
 refine SCode.region (sm rfl rfl (sm rfl rfl (se rfl rfl (e_call (fair_division_raise_f0_p11_ok F a0_v_caps a0b_Nodes o2_3 a0_v_x a0_v_active o5_4 d_2 c_5 g6) [0, 1, 2, 3, 4, 5] rfl fn25 rfl rfl rfl rfl rfl rfl rfl rfl) (SOps.nil (SCode.sub (st' := ⟨[(0, .c (.ptr 0 0))], [.box [vI a0_v_caps, .fnp 11 1, .own 3 a0_v_x.length, .own 4 a0_v_active.length, .own 5 c_5.length], .box [.int .i64 a0b_Nodes, .own 2 o2_3.length], aSArc 54 o2_3, aI 3 a0_v_x, aB 4 a0_v_active, aI 3 c_5]⟩) (sub_gen [0, 1, 2, 3, 4, 5] rfl rfl (zall rfl rfl) ⟨bx rfl rfl rfl, bx rfl rfl rfl, oa rfl, oa rfl, oa rfl, oa rfl, trivial⟩) (SCode.drawK mixed [[], [0], [0, 1], [0, 1, 2], [], [4], [4, 5], [4, 5, 6], [0, 1, 2, 3, 4, 5, 6, 7]] 8 1 rfl rfl (qm rfl rfl (qr rfl rfl (q_nilCheck rfl rfl rfl) (qr rfl rfl (q_field_ptr rfl rfl fd57_2) (qr rfl rfl (q_load_ptr rfl rfl rfl rfl ty22) (qm rfl rfl (qr rfl rfl (q_nilCheck rfl rfl rfl) (qr rfl rfl (q_field_ptr rfl rfl fd57_4) (qr rfl rfl (q_load_ptr rfl rfl rfl rfl ty22) (QK.nil ?_)))))))))))))))
 refine se rfl rfl (e_copyL (c := (cInt .i64)) (d0 := 0) (l := a0_v_x) (s := c_5) (lo := 0) (n := (a0_v_x).length) (m := min (c_5).length ((a0_v_x).length)) rfl rfl rfl (.inr ⟨rfl, rfl⟩) rfl rfl (.inr (.inr ⟨_, _, rfl, rfl⟩)) sl22 rfl oneInt (Nat.le_of_eq (Nat.zero_add _)) rfl) (SOps.sub (st' := ⟨[], [.box [vI a0_v_caps, .fnp 11 1, .own 3 (copyL a0_v_x 0 ((a0_v_x).length) c_5).length, .own 4 a0_v_active.length, .own 5 c_5.length], .box [.int .i64 a0b_Nodes, .own 2 o2_3.length], aSArc 54 o2_3, aI 3 (copyL a0_v_x 0 ((a0_v_x).length) c_5), aB 4 a0_v_active, aI 3 c_5]⟩) (sub_gen [0, 1, 2, 3, 4, 5] rfl rfl trivial ⟨⟨_, rfl, ⟨ii rfl rfl, ii rfl rfl, .inl ⟨rfl, congrArg (Cell.own 3) (copyL_len (l := a0_v_x) (s := c_5) (lo := 0) (n := (a0_v_x).length) (Nat.le_of_eq (Nat.zero_add _))).symm⟩, ii rfl rfl, ii rfl rfl, trivial⟩⟩, bx rfl rfl rfl, oa rfl, oa rfl, oa rfl, oa rfl, trivial⟩) (SOps.nil ?_))
 obtain rfl := Option.some.inj h
 exact ⟨⟨[], [.box [vI a0_v_caps, .fnp 11 1, .own 3 (copyL a0_v_x 0 ((a0_v_x).length) c_5).length, .own 4 a0_v_active.length, .own 5 c_5.length], .box [.int .i64 a0b_Nodes, .own 2 o2_3.length], aSArc 54 o2_3, aI 3 (copyL a0_v_x 0 ((a0_v_x).length) c_5), aB 4 a0_v_active, aI 3 c_5]⟩, _, sub_gen [0, 1, 2, 3, 4, 5] rfl rfl trivial ⟨bx rfl rfl rfl, bx rfl rfl rfl, oa rfl, oa rfl, oa rfl, oa rfl, trivial⟩, resA0 rfl, ⟨rfl, rfl⟩⟩
theorem fair_division_single_f0_p11_ok (F : Nat) (a0_v_caps : List Int) (a0b_Nodes : Int) (a0b_Arcs : List SArc) (a0_v_x : List Int) (a0_v_active : List Bool) (a0_v_trial : List Int) (r : Bool × (List SArc) × (List Int) × (List Bool) × (List Int)) (h : fair_division_single_f0_p11 F a0_v_caps a0b_Nodes a0b_Arcs a0_v_x a0_v_active a0_v_trial = some r) :
  SFun Try.prog 22 [.box [vI a0_v_caps, .fnp 11 1, .own 3 a0_v_x.length, .own 4 a0_v_active.length, .own 5 a0_v_trial.length], .box [.int .i64 a0b_Nodes, .own 2 a0b_Arcs.length], aSArc 54 a0b_Arcs, aI 3 a0_v_x, aB 4 a0_v_active, aI 3 a0_v_trial] [.c (.ptr 0 0)] (fun x os => x = .c (.bool r.1) ∧ os = [.box [vI a0_v_caps, .fnp 11 1, .own 3 r.2.2.1.length, .own 4 r.2.2.2.1.length, .own 5 r.2.2.2.2.length], .box [.int .i64 a0b_Nodes, .own 2 r.2.1.length], aSArc 54 r.2.1, aI 3 r.2.2.1, aB 4 r.2.2.2.1, aI 3 r.2.2.2.2]) := by
 refine SFun.of (n := 80) Try.func22 rfl rfl rfl ?_
 unfold fair_division_single_f0_p11 at h
 show SCode _ _ _ ⟨[(0, .c (.ptr 0 0))], [.box [vI a0_v_caps, .fnp 11 1, .own 3 a0_v_x.length, .own 4 a0_v_active.length, .own 5 a0_v_trial.length], .box [.int .i64 a0b_Nodes, .own 2 a0b_Arcs.length], aSArc 54 a0b_Arcs, aI 3 a0_v_x, aB 4 a0_v_active, aI 3 a0_v_trial]⟩ _
 refine SCode.seq (SCode.region (sa rfl rfl (SOps.nil (SCode.seq (SCode.region (sa rfl rfl (SOps.nil ?_)))))))
 let S21 := fun (left_1 : Bool) => fun (o2_2 : List SArc) => fun (o3_3 : List Int) => fun (o4_4 : List Bool) => fun (o5_5 : List Int) => (⟨[(3, .c (.bool left_1))], [.box [vI a0_v_caps, .fnp 11 1, .own 3 o3_3.length, .own 4 o4_4.length, .own 5 o5_5.length], .box [.int .i64 a0b_Nodes, .own 2 o2_2.length], aSArc 54 o2_2, aI 3 o3_3, aB 4 o4_4, aI 3 o5_5]⟩ : St)
 refine SCode.join (σ := Bool × (List SArc) × (List Int) × (List Bool) × (List Int)) (S := fun s => (S21 s.1 s.2.1 s.2.2.1 s.2.2.2.1 s.2.2.2.2)) (g := fun s => fair_division_single_f0_p11_p6 s.1 s.2.1 s.2.2.1 s.2.2.2.1 s.2.2.2.2 = some r) ?_ ?_
 rotate_left
 ·refine SCode.seq (SCode.region (sm rfl rfl (sq rfl rfl (q_nilCheck rfl rfl rfl) (sq rfl rfl (q_field_ptr rfl rfl fd57_2) (sq rfl rfl (q_load_ptr rfl rfl rfl rfl ty22) (sq rfl rfl (q_len_own rfl rfl sl22) (sm rfl rfl (SOps.nil (SCode.block ?_)))))))))
  let S20 := fun (left_30 : Bool) => fun (t10_31 : Int) => fun (o2_32 : List SArc) => fun (o3_33 : List Int) => fun (o4_34 : List Bool) => fun (o5_35 : List Int) => (⟨[(0, .c (.ptr 0 0)), (3, .c (.bool left_30)), (9, ci (((a0_v_x).length : Int))), (10, ci t10_31)], [.box [vI a0_v_caps, .fnp 11 1, .own 3 o3_33.length, .own 4 o4_34.length, .own 5 o5_35.length], .box [.int .i64 a0b_Nodes, .own 2 o2_32.length], aSArc 54 o2_32, aI 3 o3_33, aB 4 o4_34, aI 3 o5_35]⟩ : St)
  refine SCode.sub (st' := (S20 false 0 a0b_Arcs a0_v_x a0_v_active a0_v_trial)) (sub_gen [0, 1, 2, 3, 4, 5] rfl rfl (zall rfl rfl) ⟨bx rfl rfl rfl, bx rfl rfl rfl, oa rfl, oa rfl, oa rfl, oa rfl, trivial⟩) ?_
  refine (SCode.loop (σ := Nat × (Bool × Int × (List SArc) × (List Int) × (List Bool) × (List Int))) (S := fun s => (S20 s.2.1 s.2.2.1 s.2.2.2.1 s.2.2.2.2.1 s.2.2.2.2.2.1 s.2.2.2.2.2.2)) (g := fun s => fair_division_single_f0_p11_l59 F a0_v_caps a0b_Nodes a0_v_x s.1 s.2.1 s.2.2.1 s.2.2.2.1 s.2.2.2.2.1 s.2.2.2.2.2.1 s.2.2.2.2.2.2 = some r) (μ := fun s => s.1) (F, (false, 0, a0b_Arcs, a0_v_x, a0_v_active, a0_v_trial)) h ?_)
  rintro ⟨n_59, ⟨left_30, t10_31, o2_32, o3_33, o4_34, o5_35⟩⟩ h
  try dsimp only at h
  show SCode _ _ _ (S20 left_30 t10_31 o2_32 o3_33 o4_34 o5_35) _
  cases n_59 with
  | zero => cases h
  | succ n_59 =>
   rw [fair_division_single_f0_p11_l59] at h
   unfold fair_division_single_f0_p11_b59 at h
   refine SCode.seq (SCode.region (sq rfl rfl (q_lss rfl rfl rfl) (SOps.nil (SCode.seq ?_))))
   rcases cond_out h with ⟨g60, h⟩ | ⟨g60, h⟩
   ·refine SCode.cond_t rfl g60 (SCode.skip ?_)
    let S19 := fun (left_61 : Bool) => fun (o2_62 : List SArc) => fun (o3_63 : List Int) => fun (o4_65 : List Bool) => fun (o5_64 : List Int) => (⟨[(0, .c (.ptr 0 0)), (3, .c (.bool left_61)), (9, ci (((a0_v_x).length : Int))), (10, ci t10_31)], [.box [vI a0_v_caps, .fnp 11 1, .own 3 o3_63.length, .own 4 o4_65.length, .own 5 o5_64.length], .box [.int .i64 a0b_Nodes, .own 2 o2_62.length], aSArc 54 o2_62, aI 3 o3_63, aB 4 o4_65, aI 3 o5_64]⟩ : St)
    refine SCode.join (σ := Bool × (List SArc) × (List Int) × (List Bool) × (List Int)) (S := fun s => (S19 s.1 s.2.1 s.2.2.1 s.2.2.2.1 s.2.2.2.2)) (g := fun s => fair_division_single_f0_p11_p66 t10_31 (fun left_30 t10_31 o2_32 o3_33 o4_34 o5_35 => fair_division_single_f0_p11_l59 F a0_v_caps a0b_Nodes a0_v_x n_59 left_30 t10_31 o2_32 o3_33 o4_34 o5_35) s.1 s.2.1 s.2.2.1 s.2.2.2.1 s.2.2.2.2 = some r) ?_ ?_
    rotate_left
    ·refine SCode.block (SCode.seq (SCode.region (sm rfl rfl (sa rfl rfl (SOps.nil (SCode.seq (SCode.seq ?_)))))))
     obtain ⟨g67, h⟩ := guard_out h
     refine SCode.region (sm rfl rfl (sq rfl rfl (q_nilCheck rfl rfl rfl) (sq rfl rfl (q_field_ptr rfl rfl fd57_3) (sq rfl rfl (q_load_ptr rfl rfl rfl rfl ty55) (sm rfl rfl (sq rfl rfl (q_index_own rfl rfl rfl sl55 g67.1 g67.2) (sq rfl rfl (q_load_aptr rfl rfl rfl (toNat_lt g67) rfl ty4) (sq rfl rfl (q_not rfl rfl) (SOps.nil ?_)))))))))
     rcases cond_out h with ⟨g68, h⟩ | ⟨g68, h⟩
     ·refine SCode.cond_t rfl g68 (SCode.exit ?_)
      exact ⟨(left_30, o2_32, o3_33, o4_34, o5_35), h, sub_gen [0, 1, 2, 3, 4, 5] rfl rfl (zall rfl rfl) ⟨bx rfl rfl rfl, bx rfl rfl rfl, oa rfl, oa rfl, oa rfl, oa rfl, trivial⟩⟩
     refine SCode.cond_f rfl g68 (SCode.skip ?_)
     let S18 := fun (o2_69 : List SArc) => fun (o5_70 : List Int) => (⟨[(0, .c (.ptr 0 0)), (3, .c (.bool left_30)), (4, ci t10_31), (9, ci (((a0_v_x).length : Int))), (10, ci t10_31)], [.box [vI a0_v_caps, .fnp 11 1, .own 3 o3_33.length, .own 4 o4_34.length, .own 5 o5_70.length], .box [.int .i64 a0b_Nodes, .own 2 o2_69.length], aSArc 54 o2_69, aI 3 o3_33, aB 4 o4_34, aI 3 o5_70]⟩ : St)
     refine SCode.join (σ := (List SArc) × (List Int)) (S := fun s => (S18 s.1 s.2)) (g := fun s => fair_division_single_f0_p11_p72 left_30 t10_31 o3_33 o4_34 (fun left_30 t10_31 o2_32 o3_33 o4_34 o5_35 => fair_division_single_f0_p11_l59 F a0_v_caps a0b_Nodes a0_v_x n_59 left_30 t10_31 o2_32 o3_33 o4_34 o5_35) s.1 s.2 = some r) ?_ ?_
     rotate_left
     ·refine SCode.seq (SCode.sub (st' := ⟨[(0, .c (.ptr 0 0)), (3, .c (.bool left_30)), (4, ci t10_31), (9, ci (((a0_v_x).length : Int))), (10, ci t10_31)], [.box [vI a0_v_caps, .fnp 11 1, .own 3 o3_33.length, .own 4 o4_34.length, .own 5 o5_35.length], .box [.int .i64 a0b_Nodes, .own 2 o2_32.length], aSArc 54 o2_32, aI 3 o3_33, aB 4 o4_34, aI 3 o5_35]⟩) (sub_gen [0, 1, 2, 3, 4, 5] rfl rfl (zall rfl rfl) ⟨bx rfl rfl rfl, bx rfl rfl rfl, oa rfl, oa rfl, oa rfl, oa rfl, trivial⟩) ?_)
      obtain ⟨g73, h⟩ := guard_out h
      obtain ⟨g74, h⟩ := guard_out h
      refine SCode.drawK mixed [[], [0], [0, 1], [0, 1, 2], [], [0, 1, 2, 3, 4], [0, 1, 2, 3, 4, 5], [], [7], [7, 8], [7, 8, 9], [], [7, 8, 9, 10, 11], [7, 8, 9, 10, 11, 12], [0, 1, 2, 3, 4, 5, 6, 7, 8, 9, 10, 11, 12, 13]] 15 0 rfl rfl (qm rfl rfl (qr rfl rfl (q_nilCheck rfl rfl rfl) (qr rfl rfl (q_field_ptr rfl rfl fd57_2) (qr rfl rfl (q_load_ptr rfl rfl rfl rfl ty22) (qm rfl rfl (qr rfl rfl (q_index_own rfl rfl rfl sl22 g73.1 g73.2) (qr rfl rfl (q_load_aptr rfl rfl rfl (toNat_lt g73) rfl ty3) (qm rfl rfl (qr rfl rfl (q_nilCheck rfl rfl rfl) (qr rfl rfl (q_field_ptr rfl rfl fd57_0) (qr rfl rfl (q_load_ptr rfl rfl rfl rfl ty22) (qm rfl rfl (qr rfl rfl (q_index_vec rfl rfl rfl sl22 rfl g74.1 g74.2) (qr rfl rfl (q_load_eptr rfl rfl ty3) (qr rfl rfl (q_lss rfl rfl rfl) ?_)))))))))))))))
      refine QK.nil (SOps.sub (st' := ⟨[(0, .c (.ptr 0 0)), (3, .c (.bool left_30)), (4, ci t10_31), (9, ci (((a0_v_x).length : Int))), (10, ci t10_31), (35, .c (.bool (decide (o3_33.getD t10_31.toNat 0 < a0_v_caps.getD t10_31.toNat 0))))], [.box [vI a0_v_caps, .fnp 11 1, .own 3 o3_33.length, .own 4 o4_34.length, .own 5 o5_35.length], .box [.int .i64 a0b_Nodes, .own 2 o2_32.length], aSArc 54 o2_32, aI 3 o3_33, aB 4 o4_34, aI 3 o5_35]⟩) (sub_gen [0, 1, 2, 3, 4, 5] rfl rfl (zall rfl rfl) ⟨bx rfl rfl rfl, bx rfl rfl rfl, oa rfl, oa rfl, oa rfl, oa rfl, trivial⟩) (SOps.nil ?_))
      rcases cond_out h with ⟨g75, h⟩ | ⟨g75, h⟩
      ·refine SCode.cond_t rfl g75 (SCode.seq (SCode.drawK mixed [[], [0], [0, 1], [0, 1, 2], [], [4], [4, 5], [4, 5, 6], [0, 1, 2, 3, 4, 5, 6, 7]] 8 1 rfl rfl (qm rfl rfl (qr rfl rfl (q_nilCheck rfl rfl rfl) (qr rfl rfl (q_field_ptr rfl rfl fd57_4) (qr rfl rfl (q_load_ptr rfl rfl rfl rfl ty22) (qm rfl rfl (qr rfl rfl (q_nilCheck rfl rfl rfl) (qr rfl rfl (q_field_ptr rfl rfl fd57_2) (qr rfl rfl (q_load_ptr rfl rfl rfl rfl ty22) (QK.nil (se rfl rfl (e_copyL (c := (cInt .i64)) (d0 := 0) (l := o5_35) (s := o3_33) (lo := 0) (n := (o5_35).length) (m := min (o3_33).length ((o5_35).length)) rfl rfl rfl (.inr ⟨rfl, rfl⟩) rfl rfl (.inr (.inr ⟨_, _, rfl, rfl⟩)) sl22 rfl oneInt (Nat.le_of_eq (Nat.zero_add _)) rfl) (SOps.sub (st' := ⟨[(0, .c (.ptr 0 0)), (3, .c (.bool left_30)), (4, ci t10_31), (9, ci (((a0_v_x).length : Int))), (10, ci t10_31)], [.box [vI a0_v_caps, .fnp 11 1, .own 3 o3_33.length, .own 4 o4_34.length, .own 5 (copyL o5_35 0 ((o5_35).length) o3_33).length], .box [.int .i64 a0b_Nodes, .own 2 o2_32.length], aSArc 54 o2_32, aI 3 o3_33, aB 4 o4_34, aI 3 (copyL o5_35 0 ((o5_35).length) o3_33)]⟩) (sub_gen [0, 1, 2, 3, 4, 5] rfl rfl (zall rfl rfl) ⟨⟨_, rfl, ⟨ii rfl rfl, ii rfl rfl, ii rfl rfl, ii rfl rfl, .inl ⟨rfl, congrArg (Cell.own 5) (copyL_len (l := o5_35) (s := o3_33) (lo := 0) (n := (o5_35).length) (Nat.le_of_eq (Nat.zero_add _))).symm⟩, trivial⟩⟩, bx rfl rfl rfl, oa rfl, oa rfl, oa rfl, oa rfl, trivial⟩) (SOps.nil (SCode.seq ?_)))))))))))))))
       obtain ⟨g76, h⟩ := guard_out h
       obtain ⟨g77, h⟩ := guard_out h
       refine SCode.region (sm rfl rfl (sq rfl rfl (q_nilCheck rfl rfl rfl) (sq rfl rfl (q_field_ptr rfl rfl fd57_4) (sq rfl rfl (q_load_ptr rfl rfl rfl rfl ty22) (sm rfl rfl (sq rfl rfl (q_index_own rfl rfl rfl sl22 g76.1 g76.2) (sq rfl rfl (q_load_aptr rfl rfl rfl (toNat_lt g76) rfl ty3) (sq rfl rfl (q_add rfl rfl rfl) (sq rfl rfl (q_index_own rfl rfl rfl sl22 g77.1 g77.2) (se rfl rfl (e_storeL (IntKind.wrap .i64 ((copyL o5_35 0 ((o5_35).length) o3_33).getD t10_31.toNat 0 + 1)) rfl rfl rfl rfl rfl (toNat_lt g77) ty3 rfl rfl rfl rfl rfl rfl) ?_))))))))))
       let y1 := (copyL o5_35 0 ((o5_35).length) o3_33).set t10_31.toNat (IntKind.wrap .i64 ((copyL o5_35 0 ((o5_35).length) o3_33).getD t10_31.toNat 0 + 1))
       refine SOps.sub (st' := ⟨[(0, .c (.ptr 0 0)), (3, .c (.bool left_30)), (4, ci t10_31), (9, ci (((a0_v_x).length : Int))), (10, ci t10_31)], [.box [vI a0_v_caps, .fnp 11 1, .own 3 o3_33.length, .own 4 o4_34.length, .own 5 y1.length], .box [.int .i64 a0b_Nodes, .own 2 o2_32.length], aSArc 54 o2_32, aI 3 o3_33, aB 4 o4_34, aI 3 y1]⟩) (sub_gen [0, 1, 2, 3, 4, 5] rfl rfl (zall rfl rfl) ⟨⟨_, rfl, ⟨ii rfl rfl, ii rfl rfl, ii rfl rfl, ii rfl rfl, .inl ⟨rfl, congrArg (Cell.own 5) (List.length_set : y1.length = (copyL o5_35 0 ((o5_35).length) o3_33).length).symm⟩, trivial⟩⟩, bx rfl rfl rfl, oa rfl, oa rfl, oa rfl, oa rfl, trivial⟩) (SOps.nil (SCode.seq ?_))
       obtain ⟨c_78, g79, h⟩ := bind_out h
       try dsimp only at h
       refine SCode.drawK mixed [[], [0], [0, 1], [0, 1, 2], [], [4], [4, 5], [4, 5, 6], [0, 1, 2, 3, 4, 5, 6, 7]] 8 1 rfl rfl (qm rfl rfl (qr rfl rfl (q_nilCheck rfl rfl rfl) (qr rfl rfl (q_field_ptr rfl rfl fd57_1) (qr rfl rfl (q_load_ptr rfl rfl rfl rfl ty45) (qm rfl rfl (qr rfl rfl (q_nilCheck rfl rfl rfl) (qr rfl rfl (q_field_ptr rfl rfl fd57_4) (qr rfl rfl (q_load_ptr rfl rfl rfl rfl ty22) (QK.nil (se rfl rfl (e_callP (plan_Fair_1_ok F ((copyL o5_35 0 ((o5_35).length) o3_33).set t10_31.toNat (IntKind.wrap .i64 ((copyL o5_35 0 ((o5_35).length) o3_33).getD t10_31.toNat 0 + 1))) a0b_Nodes o2_32 c_78 g79) [1, 2] [5] rfl rfl fn11 rfl rfl rfl rfl rfl rfl rfl rfl (nrs ⟨rfl, fun _ _ => nrSArc _ _, trivial⟩) ⟨.inr (.inl ⟨_, _, _, _, _, _, _, rfl, rfl, rfl, Nat.le_refl _, fun _ _ _ _ => rfl, (.head _)⟩), .inl ⟨rfl, rfl⟩, trivial⟩) ?_))))))))))
       let y2 := (copyL o5_35 0 ((o5_35).length) o3_33).set t10_31.toNat (IntKind.wrap .i64 ((copyL o5_35 0 ((o5_35).length) o3_33).getD t10_31.toNat 0 + 1))
       refine SOps.sub (st' := ⟨[(0, .c (.ptr 0 0)), (3, .c (.bool left_30)), (4, ci t10_31), (9, ci (((a0_v_x).length : Int))), (10, ci t10_31), (62, .c (.bool c_78.1))], [.box [vI a0_v_caps, .fnp 11 1, .own 3 o3_33.length, .own 4 o4_34.length, .own 5 y2.length], .box [.int .i64 a0b_Nodes, .own 2 c_78.2.length], aSArc 54 c_78.2, aI 3 o3_33, aB 4 o4_34, aI 3 y2]⟩) (sub_gen [0, 1, 2, 3, 4, 5] rfl rfl (zall rfl rfl) ⟨bx rfl rfl rfl, bx rfl rfl rfl, oa rfl, oa rfl, oa rfl, oa rfl, trivial⟩) (SOps.nil ?_)
       rcases cond_out h with ⟨g80, h⟩ | ⟨g80, h⟩
       ·refine SCode.cond_t rfl g80 (SCode.seq ?_)
        obtain ⟨g81, h⟩ := guard_out h
        obtain ⟨g82, h⟩ := guard_out h
        refine SCode.region (sm rfl rfl (sq rfl rfl (q_nilCheck rfl rfl rfl) (sq rfl rfl (q_field_ptr rfl rfl fd57_2) (sq rfl rfl (q_load_ptr rfl rfl rfl rfl ty22) (sm rfl rfl (sq rfl rfl (q_index_own rfl rfl rfl sl22 g81.1 g81.2) (sq rfl rfl (q_load_aptr rfl rfl rfl (toNat_lt g81) rfl ty3) (sq rfl rfl (q_add rfl rfl rfl) (sq rfl rfl (q_index_own rfl rfl rfl sl22 g82.1 g82.2) (se rfl rfl (e_storeL (IntKind.wrap .i64 (o3_33.getD t10_31.toNat 0 + 1)) rfl rfl rfl rfl rfl (toNat_lt g82) ty3 rfl rfl rfl rfl rfl rfl) ?_))))))))))
        let y3 := o3_33.set t10_31.toNat (IntKind.wrap .i64 (o3_33.getD t10_31.toNat 0 + 1))
        let y4 := (copyL o5_35 0 ((o5_35).length) o3_33).set t10_31.toNat (IntKind.wrap .i64 ((copyL o5_35 0 ((o5_35).length) o3_33).getD t10_31.toNat 0 + 1))
        refine SOps.sub (st' := ⟨[(0, .c (.ptr 0 0)), (9, ci (((a0_v_x).length : Int))), (10, ci t10_31)], [.box [vI a0_v_caps, .fnp 11 1, .own 3 y3.length, .own 4 o4_34.length, .own 5 y4.length], .box [.int .i64 a0b_Nodes, .own 2 c_78.2.length], aSArc 54 c_78.2, aI 3 y3, aB 4 o4_34, aI 3 y4]⟩) (sub_gen [0, 1, 2, 3, 4, 5] rfl rfl (zall rfl rfl) ⟨⟨_, rfl, ⟨ii rfl rfl, ii rfl rfl, .inl ⟨rfl, congrArg (Cell.own 3) (List.length_set : y3.length = o3_33.length).symm⟩, ii rfl rfl, ii rfl rfl, trivial⟩⟩, bx rfl rfl rfl, oa rfl, oa rfl, oa rfl, oa rfl, trivial⟩) (SOps.nil (SCode.seq (SCode.region (sa rfl rfl (SOps.nil (SCode.exit ?_))))))
        exact ⟨(true, c_78.2, o3_33.set t10_31.toNat (IntKind.wrap .i64 (o3_33.getD t10_31.toNat 0 + 1)), o4_34, (copyL o5_35 0 ((o5_35).length) o3_33).set t10_31.toNat (IntKind.wrap .i64 ((copyL o5_35 0 ((o5_35).length) o3_33).getD t10_31.toNat 0 + 1))), h, sub_gen [0, 1, 2, 3, 4, 5] rfl rfl (zall rfl rfl) ⟨bx rfl rfl rfl, bx rfl rfl rfl, oa rfl, oa rfl, oa rfl, oa rfl, trivial⟩⟩
       refine SCode.cond_f rfl g80 (SCode.skip ?_)
       exact ⟨(c_78.2, (copyL o5_35 0 ((o5_35).length) o3_33).set t10_31.toNat (IntKind.wrap .i64 ((copyL o5_35 0 ((o5_35).length) o3_33).getD t10_31.toNat 0 + 1))), h, sub_gen [0, 1, 2, 3, 4, 5] rfl rfl (zall rfl rfl) ⟨bx rfl rfl rfl, bx rfl rfl rfl, oa rfl, oa rfl, oa rfl, oa rfl, trivial⟩⟩
      refine SCode.cond_f rfl g75 (SCode.skip ?_)
      exact ⟨(o2_32, o5_35), h, sub_gen [0, 1, 2, 3, 4, 5] rfl rfl (zall rfl rfl) ⟨bx rfl rfl rfl, bx rfl rfl rfl, oa rfl, oa rfl, oa rfl, oa rfl, trivial⟩⟩
     rintro ⟨o2_69, o5_70⟩ h
     show SCode _ _ _ (S18 o2_69 o5_70) _
     try dsimp only at h
     unfold fair_division_single_f0_p11_p72 at h
     obtain ⟨g71, h⟩ := guard_out h
     refine SCode.region (sm rfl rfl (sq rfl rfl (q_nilCheck rfl rfl rfl) (sq rfl rfl (q_field_ptr rfl rfl fd57_3) (sq rfl rfl (q_load_ptr rfl rfl rfl rfl ty55) (sm rfl rfl (sq rfl rfl (q_index_own rfl rfl rfl sl55 g71.1 g71.2) (se rfl rfl (e_storeL false rfl rfl rfl rfl rfl (toNat_lt g71) ty4 rfl rfl rfl rfl rfl rfl) (SOps.sub (st' := ⟨[(0, .c (.ptr 0 0)), (3, .c (.bool left_30)), (9, ci (((a0_v_x).length : Int))), (10, ci t10_31)], [.box [vI a0_v_caps, .fnp 11 1, .own 3 o3_33.length, .own 4 (o4_34.set t10_31.toNat false).length, .own 5 o5_70.length], .box [.int .i64 a0b_Nodes, .own 2 o2_69.length], aSArc 54 o2_69, aI 3 o3_33, aB 4 (o4_34.set t10_31.toNat false), aI 3 o5_70]⟩) (sub_gen [0, 1, 2, 3, 4, 5] rfl rfl (zall rfl rfl) ⟨⟨_, rfl, ⟨ii rfl rfl, ii rfl rfl, ii rfl rfl, .inl ⟨rfl, congrArg (Cell.own 4) (List.length_set : (o4_34.set t10_31.toNat false).length = o4_34.length).symm⟩, ii rfl rfl, trivial⟩⟩, bx rfl rfl rfl, oa rfl, oa rfl, oa rfl, oa rfl, trivial⟩) (SOps.nil ?_)))))))))
     exact ⟨(left_30, o2_69, o3_33, o4_34.set t10_31.toNat false, o5_70), h, sub_gen [0, 1, 2, 3, 4, 5] rfl rfl (zall rfl rfl) ⟨bx rfl rfl rfl, bx rfl rfl rfl, oa rfl, oa rfl, oa rfl, oa rfl, trivial⟩⟩
    rintro ⟨left_61, o2_62, o3_63, o4_65, o5_64⟩ h
    show SCode _ _ _ (S19 left_61 o2_62 o3_63 o4_65 o5_64) _
    try dsimp only at h
    unfold fair_division_single_f0_p11_p66 at h
    refine SCode.region (sq rfl rfl (q_add rfl rfl rfl) (sm rfl rfl (SOps.nil ?_)))
    exact ⟨(n_59, (left_61, IntKind.wrap .i64 (t10_31 + 1), o2_62, o3_63, o4_65, o5_64)), h, Nat.lt_succ_self n_59, sub_gen [0, 1, 2, 3, 4, 5] rfl rfl (zall rfl rfl) ⟨bx rfl rfl rfl, bx rfl rfl rfl, oa rfl, oa rfl, oa rfl, oa rfl, trivial⟩⟩
   refine SCode.cond_f rfl g60 (SCode.exit ?_)
   exact ⟨(left_30, o2_32, o3_33, o4_34, o5_35), h, sub_gen [0, 1, 2, 3, 4, 5] rfl rfl (zall rfl rfl) ⟨bx rfl rfl rfl, bx rfl rfl rfl, oa rfl, oa rfl, oa rfl, oa rfl, trivial⟩⟩
 rintro ⟨left_1, o2_2, o3_3, o4_4, o5_5⟩ h
 show SCode _ _ _ (S21 left_1 o2_2 o3_3 o4_4 o5_5) _
 try dsimp only at h
 unfold fair_division_single_f0_p11_p6 at h
 refine SCode.seq (SCode.region (sm rfl rfl (sa rfl rfl (SOps.nil (SCode.ret ?_)))))
 obtain rfl := Option.some.inj h
 exact ⟨⟨[(2, .c (.bool left_1))], [.box [vI a0_v_caps, .fnp 11 1, .own 3 o3_3.length, .own 4 o4_4.length, .own 5 o5_5.length], .box [.int .i64 a0b_Nodes, .own 2 o2_2.length], aSArc 54 o2_2, aI 3 o3_3, aB 4 o4_4, aI 3 o5_5]⟩, _, sub_gen [0, 1, 2, 3, 4, 5] rfl rfl (zall rfl rfl) ⟨bx rfl rfl rfl, bx rfl rfl rfl, oa rfl, oa rfl, oa rfl, oa rfl, trivial⟩, resA1 (v := .c (.bool left_1)) rfl rfl, ⟨rfl, rfl⟩⟩
end Go.Proofs.Ytmiikbfacgmopaa.W
