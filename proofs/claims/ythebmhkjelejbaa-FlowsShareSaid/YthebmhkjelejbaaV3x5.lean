/- Written by a program of ours (wip/eng/gen.py): the functions compute their models. -/
import Derived.Test.YthebmhkjelejbaaFacts
import Derived.Test.YthebmhkjelejbaaV3x4
namespace Go.Proofs.Ythebmhkjelejbaa.W
open Go Go.Proofs Go.Proofs.Ythebmhkjelejbaa.E Go.Proofs.Ythebmhkjelejbaa.M
set_option linter.unusedVariables false
set_option maxRecDepth 100000 in
set_option maxHeartbeats 8000000 in
theorem flow_Max_ok (F : Nat) (a0_n : SNet) (a1_source : Int) (a2_sink : Int) (r : Int × (List Int) × Int) (h : flow_Max F a0_n a1_source a2_sink = some r) :
    SFun Try.prog 5 [] [.a [.int .i64 a0_n.Nodes, .vec a0_n.Arcs.length 3 (gL cSArc dSArc a0_n.Arcs)], .c (.int .i64 a1_source), .c (.int .i64 a2_sink)] (fun x _ => x = .t [.c (.int .i64 r.1), .c (.vec r.2.1.length 1 (gL (cInt .i64) 0 r.2.1)), .c (.int .i64 r.2.2)]) := by
  refine SFun.of (n := 52) Try.func5 rfl rfl rfl ?_
  unfold flow_Max at h
  show SCode _ _ _ ⟨[(0, .a [.int .i64 a0_n.Nodes, .vec a0_n.Arcs.length 3 (gL cSArc dSArc a0_n.Arcs)]), (1, .c (.int .i64 a1_source)), (2, .c (.int .i64 a2_sink))], []⟩ _
  refine SCode.seq ?_
  refine SCode.region (show SOps _ _ _ [0, 1, 2, 3] _ _ from ?_)
  refine SOps.e rfl (.plain rfl) (e_box rfl rfl rfl rfl rfl rfl) ?_
  refine SOps.q rfl (.plain rfl) rfl (q_assign rfl rfl) ?_
  refine SOps.q rfl (.plain rfl) rfl (q_assign rfl rfl) ?_
  refine SOps.q rfl (.plain rfl) rfl (q_assign rfl rfl) ?_
  refine SOps.sub (st' := ⟨[(1, .c (.int .i64 a1_source)), (2, .c (.int .i64 a2_sink)), (3, .c (.ptr 0 0))], [.box [.int .i64 a0_n.Nodes, .vec a0_n.Arcs.length 3 (gL cSArc dSArc a0_n.Arcs)]]⟩) (sub_gen [0] rfl rfl ⟨zc rfl rfl, zc rfl rfl, zc rfl rfl, trivial⟩ ⟨⟨_, rfl, ⟨ii rfl rfl, ii rfl rfl, trivial⟩⟩, trivial⟩) ?_
  refine SOps.nil ?_
  refine SCode.seq ?_
  refine SCode.seq ?_
  obtain ⟨c_1, g2, h⟩ := bind_out h
  try dsimp only at h
  refine SCode.region (show SOps _ _ _ [0, 1, 2, 3, 4] _ _ from ?_)
  refine SOps.q rfl (.plain rfl) rfl (q_load_ptr_all rfl rfl rfl rfl rfl ty27) ?_
  refine SOps.q rfl (.plain rfl) rfl (q_move rfl rfl) ?_
  refine SOps.q rfl (.plain rfl) rfl (q_move rfl rfl) ?_
  refine SOps.q rfl (.plain rfl) rfl (q_call (flow_valid_ok F a0_n a1_source a2_sink c_1 g2) [] rfl fn8 ⟨⟨rfl, rfl⟩, ⟨_, rfl, .inl ⟨rfl, rfl⟩⟩, ⟨_, rfl, .inl ⟨rfl, rfl⟩⟩, trivial⟩ (.inl rfl)) ?_
  refine SOps.q rfl (.plain rfl) rfl (q_assign rfl rfl) ?_
  refine SOps.sub (st' := ⟨[(1, .c (.int .i64 a1_source)), (2, .c (.int .i64 a2_sink)), (3, .c (.ptr 0 0)), (9, .c (.int .i64 c_1))], [.box [.int .i64 a0_n.Nodes, .vec a0_n.Arcs.length 3 (gL cSArc dSArc a0_n.Arcs)]]⟩) (sub_gen [0] rfl rfl ⟨zc rfl rfl, zc rfl rfl, zc rfl rfl, zc rfl rfl, trivial⟩ ⟨⟨_, rfl, ⟨ii rfl rfl, ii rfl rfl, trivial⟩⟩, trivial⟩) ?_
  refine SOps.nil ?_
  refine SCode.seq ?_
  refine SCode.region (show SOps _ _ _ [0, 1] _ _ from ?_)
  refine SOps.q rfl (.plain rfl) rfl (q_move rfl rfl) ?_
  refine SOps.q rfl (.plain rfl) rfl (q_neq rfl rfl rfl) ?_
  refine SOps.sub (st' := ⟨[(1, .c (.int .i64 a1_source)), (2, .c (.int .i64 a2_sink)), (3, .c (.ptr 0 0)), (9, .c (.int .i64 c_1)), (19, .c (.bool ((!decide (c_1 = 0)))))], [.box [.int .i64 a0_n.Nodes, .vec a0_n.Arcs.length 3 (gL cSArc dSArc a0_n.Arcs)]]⟩) (sub_gen [0] rfl rfl ⟨zc rfl rfl, zc rfl rfl, zc rfl rfl, zc rfl rfl, zc rfl rfl, trivial⟩ ⟨⟨_, rfl, ⟨ii rfl rfl, ii rfl rfl, trivial⟩⟩, trivial⟩) ?_
  refine SOps.nil ?_
  rcases cond_out h with ⟨g3, h⟩ | ⟨g3, h⟩
  · refine SCode.cond_t rfl g3 ?_
    refine SCode.seq ?_
    refine SCode.region (show SOps _ _ _ [0, 1, 2, 3] _ _ from ?_)
    refine SOps.q rfl (.plain rfl) rfl (q_move rfl rfl) ?_
    refine SOps.q rfl (.plain rfl) rfl (q_assign rfl rfl) ?_
    refine SOps.q rfl (.plain rfl) rfl (q_assign rfl rfl) ?_
    refine SOps.q rfl (.plain rfl) rfl (q_assign rfl rfl) ?_
    refine SOps.sub (st' := ⟨[(6, .c (.int .i64 0)), (7, .c (.raw (.slice none 0 0))), (8, .c (.int .i64 c_1))], []⟩) (sub_gen [] rfl rfl ⟨zc rfl rfl, zc rfl rfl, zc rfl rfl, trivial⟩ trivial) ?_
    refine SOps.nil ?_
    refine SCode.ret ?_
    obtain rfl := Option.some.inj h
    exact ⟨⟨[(6, .c (.int .i64 0)), (7, .c (.vec (([] : List Int)).length 1 (gL (cInt .i64) 0 (([] : List Int))))), (8, .c (.int .i64 c_1))], []⟩, _, sub_gen [] rfl rfl ⟨zc rfl rfl, ⟨_, rfl, .inr (.inr (.inr (.inl ⟨_, _, rfl, rfl⟩)))⟩, zc rfl rfl, trivial⟩ trivial, resA3 (v1 := .c (.int .i64 0)) (v2 := .c (.vec (([] : List Int)).length 1 (gL (cInt .i64) 0 (([] : List Int))))) (v3 := .c (.int .i64 c_1)) rfl rfl rfl rfl, rfl⟩
  refine SCode.cond_f rfl g3 ?_
  refine SCode.skip ?_
  refine SCode.seq ?_
  obtain ⟨c_4, g5, h⟩ := bind_out h
  try dsimp only at h
  refine SCode.region (show SOps _ _ _ [0, 1, 2] _ _ from ?_)
  refine SOps.q rfl (.plain rfl) rfl (q_load_ptr_all rfl rfl rfl rfl rfl ty27) ?_
  refine SOps.e rfl (.plain rfl) (e_call (flow_build_own_ok F a0_n c_4 g5) [] rfl fn9 rfl rfl rfl rfl rfl rfl rfl rfl) ?_
  refine SOps.q rfl (.plain rfl) rfl (q_assign rfl rfl) ?_
  refine SOps.sub (st' := ⟨[(1, .c (.int .i64 a1_source)), (2, .c (.int .i64 a2_sink)), (3, .c (.ptr 0 0)), (10, .c (.ptr 1 0))], [.box [.int .i64 a0_n.Nodes, .vec a0_n.Arcs.length 3 (gL cSArc dSArc a0_n.Arcs)], .box [.own 2 c_4.1.length, .vec c_4.2.1.length 1 (gL (cVec 1 (cInt .i64) 0) ([]) c_4.2.1), .own 3 c_4.2.2.1.length, .own 4 c_4.2.2.2.length], .arr 41 2 c_4.1.length (gL cSEdge dSEdge c_4.1), .arr 3 1 c_4.2.2.1.length (gL (cInt .i64) 0 c_4.2.2.1), .arr 3 1 c_4.2.2.2.length (gL (cInt .i64) 0 c_4.2.2.2)]⟩) (sub_gen [0, 1, 2, 3, 4] rfl rfl ⟨zc rfl rfl, zc rfl rfl, zc rfl rfl, zc rfl rfl, trivial⟩ ⟨⟨_, rfl, ⟨ii rfl rfl, ii rfl rfl, trivial⟩⟩, ⟨_, rfl, ⟨ii rfl rfl, ii rfl rfl, ii rfl rfl, ii rfl rfl, trivial⟩⟩, oa rfl, oa rfl, oa rfl, trivial⟩) ?_
  refine SOps.nil ?_
  refine SCode.seq ?_
  obtain ⟨c_6, g7, h⟩ := bind_out h
  try dsimp only at h
  refine SCode.region (show SOps _ _ _ [0, 1, 2, 3, 4] _ _ from ?_)
  refine SOps.q rfl (.plain rfl) rfl (q_move rfl rfl) ?_
  refine SOps.q rfl (.plain rfl) rfl (q_move rfl rfl) ?_
  refine SOps.q rfl (.plain rfl) rfl (q_move rfl rfl) ?_
  refine SOps.e rfl (.plain rfl) (e_call (flow_graph_run_ok F c_4.1 c_4.2.1 c_4.2.2.1 c_4.2.2.2 a1_source a2_sink c_6 g7) [1, 2, 3, 4] rfl fn10 rfl rfl rfl rfl rfl rfl rfl rfl) ?_
  refine SOps.q rfl (.plain rfl) rfl (q_assign rfl rfl) ?_
  refine SOps.sub (st' := ⟨[(3, .c (.ptr 0 0)), (10, .c (.ptr 1 0)), (11, .c (.int .i64 c_6.1))], [.box [.int .i64 a0_n.Nodes, .vec a0_n.Arcs.length 3 (gL cSArc dSArc a0_n.Arcs)], .box [.own 2 c_6.2.1.length, .vec c_4.2.1.length 1 (gL (cVec 1 (cInt .i64) 0) ([]) c_4.2.1), .own 3 c_6.2.2.1.length, .own 4 c_6.2.2.2.length], .arr 41 2 c_6.2.1.length (gL cSEdge dSEdge c_6.2.1), .arr 3 1 c_6.2.2.1.length (gL (cInt .i64) 0 c_6.2.2.1), .arr 3 1 c_6.2.2.2.length (gL (cInt .i64) 0 c_6.2.2.2)]⟩) (sub_gen [0, 1, 2, 3, 4] rfl rfl ⟨zc rfl rfl, zc rfl rfl, zc rfl rfl, trivial⟩ ⟨⟨_, rfl, ⟨ii rfl rfl, ii rfl rfl, trivial⟩⟩, ⟨_, rfl, ⟨ii rfl rfl, ii rfl rfl, ii rfl rfl, ii rfl rfl, trivial⟩⟩, oa rfl, oa rfl, oa rfl, trivial⟩) ?_
  refine SOps.nil ?_
  refine SCode.seq ?_
  obtain ⟨g8, h⟩ := guard_out h
  refine SCode.region (show SOps _ _ _ [0, 1, 2, 3, 4] _ _ from ?_)
  refine SOps.q rfl (.plain rfl) rfl (q_field_ptr rfl rfl fd27_1) ?_
  refine SOps.q rfl (.plain rfl) rfl (q_load_ptr rfl rfl rfl rfl ty25) ?_
  refine SOps.q rfl (.plain rfl) rfl (q_len_vec rfl rfl sl25) ?_
  refine SOps.e rfl (.plain rfl) (e_makeL (c := (cInt .i64)) (d0 := 0) rfl rfl rfl rfl rfl sl22 z3 rfl rfl rfl g8.1 (Int.le_refl _) g8.2.1 g8.2.2) ?_
  refine SOps.q rfl (.plain rfl) rfl (q_assign rfl rfl) ?_
  refine SOps.sub (st' := ⟨[(10, .c (.ptr 0 0)), (11, .c (.int .i64 c_6.1)), (12, .c (.own 4 (List.replicate (((a0_n.Arcs).length : Int)).toNat (0 : Int)).length))], [.box [.own 1 c_6.2.1.length, .vec c_4.2.1.length 1 (gL (cVec 1 (cInt .i64) 0) ([]) c_4.2.1), .own 2 c_6.2.2.1.length, .own 3 c_6.2.2.2.length], .arr 41 2 c_6.2.1.length (gL cSEdge dSEdge c_6.2.1), .arr 3 1 c_6.2.2.1.length (gL (cInt .i64) 0 c_6.2.2.1), .arr 3 1 c_6.2.2.2.length (gL (cInt .i64) 0 c_6.2.2.2), .arr 3 1 (List.replicate (((a0_n.Arcs).length : Int)).toNat (0 : Int)).length (gL (cInt .i64) 0 (List.replicate (((a0_n.Arcs).length : Int)).toNat (0 : Int)))]⟩) (sub_gen [1, 2, 3, 4, 5] rfl rfl ⟨zc rfl rfl, zc rfl rfl, zc rfl rfl, trivial⟩ ⟨⟨_, rfl, ⟨ii rfl rfl, ii rfl rfl, ii rfl rfl, ii rfl rfl, trivial⟩⟩, oa rfl, oa rfl, oa rfl, oa rfl, trivial⟩) ?_
  refine SOps.nil ?_
  refine SCode.join (σ := (List Int)) (S := fun s => ⟨[(11, .c (.int .i64 c_6.1)), (12, .c (.own 0 s.length))], [.arr 3 1 s.length (gL (cInt .i64) 0 s)]⟩) (g := fun s => flow_Max_p10 c_6 s = some r) ?_ ?_
  rotate_left
  · refine SCode.seq ?_
    refine SCode.region (show SOps _ _ _ [0, 1, 2] _ _ from ?_)
    refine SOps.q rfl (.plain rfl) rfl (q_move rfl rfl) ?_
    refine SOps.q rfl (.plain rfl) rfl (q_len_own rfl rfl sl22) ?_
    refine SOps.q rfl (.plain rfl) rfl (q_move rfl rfl) ?_
    refine SOps.sub (st' := ⟨[(10, .c (.ptr 0 0)), (11, .c (.int .i64 c_6.1)), (12, .c (.own 4 (List.replicate (((a0_n.Arcs).length : Int)).toNat (0 : Int)).length)), (32, .c (.int .i64 (((List.replicate (((a0_n.Arcs).length : Int)).toNat (0 : Int)).length : Int)))), (33, .c (.int .i64 0))], [.box [.own 1 c_6.2.1.length, .vec c_4.2.1.length 1 (gL (cVec 1 (cInt .i64) 0) ([]) c_4.2.1), .own 2 c_6.2.2.1.length, .own 3 c_6.2.2.2.length], .arr 41 2 c_6.2.1.length (gL cSEdge dSEdge c_6.2.1), .arr 3 1 c_6.2.2.1.length (gL (cInt .i64) 0 c_6.2.2.1), .arr 3 1 c_6.2.2.2.length (gL (cInt .i64) 0 c_6.2.2.2), .arr 3 1 (List.replicate (((a0_n.Arcs).length : Int)).toNat (0 : Int)).length (gL (cInt .i64) 0 (List.replicate (((a0_n.Arcs).length : Int)).toNat (0 : Int)))]⟩) (sub_gen [0, 1, 2, 3, 4] rfl rfl ⟨zc rfl rfl, zc rfl rfl, zc rfl rfl, zc rfl rfl, zc rfl rfl, trivial⟩ ⟨⟨_, rfl, ⟨ii rfl rfl, ii rfl rfl, ii rfl rfl, ii rfl rfl, trivial⟩⟩, oa rfl, oa rfl, oa rfl, oa rfl, trivial⟩) ?_
    refine SOps.nil ?_
    refine SCode.block ?_
    refine SCode.sub (st' := ⟨[(10, .c (.ptr 0 0)), (11, .c (.int .i64 c_6.1)), (12, .c (.own 4 (List.replicate (((a0_n.Arcs).length : Int)).toNat (0 : Int)).length)), (32, .c (.int .i64 (((List.replicate (((a0_n.Arcs).length : Int)).toNat (0 : Int)).length : Int)))), (33, .c (.int .i64 0))], [.box [.own 1 c_6.2.1.length, .vec c_4.2.1.length 1 (gL (cVec 1 (cInt .i64) 0) ([]) c_4.2.1), .own 2 c_6.2.2.1.length, .own 3 c_6.2.2.2.length], .arr 41 2 c_6.2.1.length (gL cSEdge dSEdge c_6.2.1), .arr 3 1 c_6.2.2.1.length (gL (cInt .i64) 0 c_6.2.2.1), .arr 3 1 c_6.2.2.2.length (gL (cInt .i64) 0 c_6.2.2.2), .arr 3 1 (List.replicate (((a0_n.Arcs).length : Int)).toNat (0 : Int)).length (gL (cInt .i64) 0 (List.replicate (((a0_n.Arcs).length : Int)).toNat (0 : Int)))]⟩) (sub_gen [0, 1, 2, 3, 4] rfl rfl ⟨zc rfl rfl, zc rfl rfl, zc rfl rfl, zc rfl rfl, zc rfl rfl, trivial⟩ ⟨⟨_, rfl, ⟨ii rfl rfl, ii rfl rfl, ii rfl rfl, ii rfl rfl, trivial⟩⟩, oa rfl, oa rfl, oa rfl, oa rfl, trivial⟩) ?_
    refine (SCode.loop (σ := Nat × (Int × (List Int))) (S := fun s => ⟨[(10, .c (.ptr 0 0)), (11, .c (.int .i64 c_6.1)), (12, .c (.own 4 s.2.2.length)), (32, .c (.int .i64 (((List.replicate (((a0_n.Arcs).length : Int)).toNat (0 : Int)).length : Int)))), (33, .c (.int .i64 s.2.1))], [.box [.own 1 c_6.2.1.length, .vec c_4.2.1.length 1 (gL (cVec 1 (cInt .i64) 0) ([]) c_4.2.1), .own 2 c_6.2.2.1.length, .own 3 c_6.2.2.2.length], .arr 41 2 c_6.2.1.length (gL cSEdge dSEdge c_6.2.1), .arr 3 1 c_6.2.2.1.length (gL (cInt .i64) 0 c_6.2.2.1), .arr 3 1 c_6.2.2.2.length (gL (cInt .i64) 0 c_6.2.2.2), .arr 3 1 s.2.2.length (gL (cInt .i64) 0 s.2.2)]⟩) (g := fun s => flow_Max_l19 a0_n c_6 s.1 s.2.1 s.2.2 = some r) (μ := fun s => s.1) (F, (0, List.replicate (((a0_n.Arcs).length : Int)).toNat (0 : Int))) h ?_)
    rintro ⟨n_19, ⟨t33_14, o4_15⟩⟩ h
    replace h : flow_Max_l19 a0_n c_6 n_19 t33_14 o4_15 = some r := h
    show SCode _ _ _ ⟨[(10, .c (.ptr 0 0)), (11, .c (.int .i64 c_6.1)), (12, .c (.own 4 o4_15.length)), (32, .c (.int .i64 (((List.replicate (((a0_n.Arcs).length : Int)).toNat (0 : Int)).length : Int)))), (33, .c (.int .i64 t33_14))], [.box [.own 1 c_6.2.1.length, .vec c_4.2.1.length 1 (gL (cVec 1 (cInt .i64) 0) ([]) c_4.2.1), .own 2 c_6.2.2.1.length, .own 3 c_6.2.2.2.length], .arr 41 2 c_6.2.1.length (gL cSEdge dSEdge c_6.2.1), .arr 3 1 c_6.2.2.1.length (gL (cInt .i64) 0 c_6.2.2.1), .arr 3 1 c_6.2.2.2.length (gL (cInt .i64) 0 c_6.2.2.2), .arr 3 1 o4_15.length (gL (cInt .i64) 0 o4_15)]⟩ _
    cases n_19 with
    | zero => cases h
    | succ n_19 =>
      replace h : flow_Max_b19 a0_n c_6 (fun t33_14 o4_15 => flow_Max_l19 a0_n c_6 n_19 t33_14 o4_15) t33_14 o4_15 = some r := h
      unfold flow_Max_b19 at h
      refine SCode.seq ?_
      refine SCode.region (show SOps _ _ _ [0] _ _ from ?_)
      refine SOps.q rfl (.plain rfl) rfl (q_lss rfl rfl rfl) ?_
      refine SOps.sub (st' := ⟨[(10, .c (.ptr 0 0)), (11, .c (.int .i64 c_6.1)), (12, .c (.own 4 o4_15.length)), (32, .c (.int .i64 (((List.replicate (((a0_n.Arcs).length : Int)).toNat (0 : Int)).length : Int)))), (33, .c (.int .i64 t33_14)), (34, .c (.bool (decide (t33_14 < ((List.replicate (((a0_n.Arcs).length : Int)).toNat (0 : Int)).length : Int)))))], [.box [.own 1 c_6.2.1.length, .vec c_4.2.1.length 1 (gL (cVec 1 (cInt .i64) 0) ([]) c_4.2.1), .own 2 c_6.2.2.1.length, .own 3 c_6.2.2.2.length], .arr 41 2 c_6.2.1.length (gL cSEdge dSEdge c_6.2.1), .arr 3 1 c_6.2.2.1.length (gL (cInt .i64) 0 c_6.2.2.1), .arr 3 1 c_6.2.2.2.length (gL (cInt .i64) 0 c_6.2.2.2), .arr 3 1 o4_15.length (gL (cInt .i64) 0 o4_15)]⟩) (sub_gen [0, 1, 2, 3, 4] rfl rfl ⟨zc rfl rfl, zc rfl rfl, zc rfl rfl, zc rfl rfl, zc rfl rfl, zc rfl rfl, trivial⟩ ⟨⟨_, rfl, ⟨ii rfl rfl, ii rfl rfl, ii rfl rfl, ii rfl rfl, trivial⟩⟩, oa rfl, oa rfl, oa rfl, oa rfl, trivial⟩) ?_
      refine SOps.nil ?_
      refine SCode.seq ?_
      rcases cond_out h with ⟨g20, h⟩ | ⟨g20, h⟩
      · refine SCode.cond_t rfl g20 ?_
        refine SCode.skip ?_
        refine SCode.seq ?_
        refine SCode.block ?_
        refine SCode.seq ?_
        refine SCode.region (show SOps _ _ _ [0, 1] _ _ from ?_)
        refine SOps.q rfl (.plain rfl) rfl (q_move rfl rfl) ?_
        refine SOps.q rfl (.plain rfl) rfl (q_assign rfl rfl) ?_
        refine SOps.sub (st' := ⟨[(10, .c (.ptr 0 0)), (11, .c (.int .i64 c_6.1)), (12, .c (.own 4 o4_15.length)), (13, .c (.int .i64 t33_14)), (32, .c (.int .i64 (((List.replicate (((a0_n.Arcs).length : Int)).toNat (0 : Int)).length : Int)))), (33, .c (.int .i64 t33_14))], [.box [.own 1 c_6.2.1.length, .vec c_4.2.1.length 1 (gL (cVec 1 (cInt .i64) 0) ([]) c_4.2.1), .own 2 c_6.2.2.1.length, .own 3 c_6.2.2.2.length], .arr 41 2 c_6.2.1.length (gL cSEdge dSEdge c_6.2.1), .arr 3 1 c_6.2.2.1.length (gL (cInt .i64) 0 c_6.2.2.1), .arr 3 1 c_6.2.2.2.length (gL (cInt .i64) 0 c_6.2.2.2), .arr 3 1 o4_15.length (gL (cInt .i64) 0 o4_15)]⟩) (sub_gen [0, 1, 2, 3, 4] rfl rfl ⟨zc rfl rfl, zc rfl rfl, zc rfl rfl, zc rfl rfl, zc rfl rfl, zc rfl rfl, trivial⟩ ⟨⟨_, rfl, ⟨ii rfl rfl, ii rfl rfl, ii rfl rfl, ii rfl rfl, trivial⟩⟩, oa rfl, oa rfl, oa rfl, oa rfl, trivial⟩) ?_
        refine SOps.nil ?_
        obtain ⟨g21, h⟩ := guard_out h
        obtain ⟨g22, h⟩ := guard_out h
        refine SCode.region (show SOps _ _ _ [0, 1, 2, 3, 4, 5, 6, 7, 8, 9, 10, 11, 12, 13] _ _ from ?_)
        refine SOps.q rfl (.plain rfl) rfl (q_move rfl rfl) ?_
        refine SOps.q rfl (.plain rfl) rfl (q_move rfl rfl) ?_
        refine SOps.q rfl (.plain rfl) rfl (q_move rfl rfl) ?_
        refine SOps.q rfl (.plain rfl) rfl (q_nilCheck rfl rfl rfl) ?_
        refine SOps.q rfl (.plain rfl) rfl (q_field_ptr rfl rfl fd45_0) ?_
        refine SOps.q rfl (.plain rfl) rfl (q_load_ptr rfl rfl rfl rfl ty42) ?_
        refine SOps.q rfl (.plain rfl) rfl (q_move rfl rfl) ?_
        refine SOps.q rfl (.plain rfl) rfl (q_mul rfl rfl rfl) ?_
        refine SOps.q rfl (.plain rfl) rfl (q_add rfl rfl rfl) ?_
        refine SOps.q rfl (.plain rfl) rfl (q_index_own rfl rfl rfl sl42 g21.1 g21.2) ?_
        refine SOps.q rfl (.plain rfl) rfl (q_field_aptr rfl rfl fd41_1) ?_
        refine SOps.q rfl (.plain rfl) rfl (q_load_aptr rfl rfl rfl (toNat_lt g21) rfl ty3) ?_
        refine SOps.q rfl (.plain rfl) rfl (q_index_own rfl rfl rfl sl22 g22.1 g22.2) ?_
        refine SOps.e rfl (.plain rfl) (e_storeL ((c_6.2.1.getD ((IntKind.wrap .i64 (IntKind.wrap .i64 (2 * t33_14) + 1)).toNat) dSEdge).room) rfl rfl rfl rfl rfl (toNat_lt g22) ty3 rfl rfl rfl rfl rfl rfl) ?_
        refine SOps.sub (st' := ⟨[(10, .c (.ptr 0 0)), (11, .c (.int .i64 c_6.1)), (12, .c (.own 4 (o4_15.set t33_14.toNat ((c_6.2.1.getD ((IntKind.wrap .i64 (IntKind.wrap .i64 (2 * t33_14) + 1)).toNat) dSEdge).room)).length)), (32, .c (.int .i64 (((List.replicate (((a0_n.Arcs).length : Int)).toNat (0 : Int)).length : Int)))), (33, .c (.int .i64 t33_14))], [.box [.own 1 c_6.2.1.length, .vec c_4.2.1.length 1 (gL (cVec 1 (cInt .i64) 0) ([]) c_4.2.1), .own 2 c_6.2.2.1.length, .own 3 c_6.2.2.2.length], .arr 41 2 c_6.2.1.length (gL cSEdge dSEdge c_6.2.1), .arr 3 1 c_6.2.2.1.length (gL (cInt .i64) 0 c_6.2.2.1), .arr 3 1 c_6.2.2.2.length (gL (cInt .i64) 0 c_6.2.2.2), .arr 3 1 (o4_15.set t33_14.toNat ((c_6.2.1.getD ((IntKind.wrap .i64 (IntKind.wrap .i64 (2 * t33_14) + 1)).toNat) dSEdge).room)).length (gL (cInt .i64) 0 (o4_15.set t33_14.toNat ((c_6.2.1.getD ((IntKind.wrap .i64 (IntKind.wrap .i64 (2 * t33_14) + 1)).toNat) dSEdge).room)))]⟩) (sub_gen [0, 1, 2, 3, 4] rfl rfl ⟨zc rfl rfl, zc rfl rfl, ⟨_, rfl, .inl ⟨rfl, congrArg (Cell.own 4) (List.length_set : (o4_15.set t33_14.toNat ((c_6.2.1.getD ((IntKind.wrap .i64 (IntKind.wrap .i64 (2 * t33_14) + 1)).toNat) dSEdge).room)).length = o4_15.length).symm⟩⟩, zc rfl rfl, zc rfl rfl, trivial⟩ ⟨⟨_, rfl, ⟨ii rfl rfl, ii rfl rfl, ii rfl rfl, ii rfl rfl, trivial⟩⟩, oa rfl, oa rfl, oa rfl, oa rfl, trivial⟩) ?_
        refine SOps.nil ?_
        refine SCode.region (show SOps _ _ _ [0, 1] _ _ from ?_)
        refine SOps.q rfl (.plain rfl) rfl (q_add rfl rfl rfl) ?_
        refine SOps.q rfl (.plain rfl) rfl (q_move rfl rfl) ?_
        refine SOps.sub (st' := ⟨[(10, .c (.ptr 0 0)), (11, .c (.int .i64 c_6.1)), (12, .c (.own 4 (o4_15.set t33_14.toNat ((c_6.2.1.getD ((IntKind.wrap .i64 (IntKind.wrap .i64 (2 * t33_14) + 1)).toNat) dSEdge).room)).length)), (32, .c (.int .i64 (((List.replicate (((a0_n.Arcs).length : Int)).toNat (0 : Int)).length : Int)))), (33, .c (.int .i64 (IntKind.wrap .i64 (t33_14 + 1))))], [.box [.own 1 c_6.2.1.length, .vec c_4.2.1.length 1 (gL (cVec 1 (cInt .i64) 0) ([]) c_4.2.1), .own 2 c_6.2.2.1.length, .own 3 c_6.2.2.2.length], .arr 41 2 c_6.2.1.length (gL cSEdge dSEdge c_6.2.1), .arr 3 1 c_6.2.2.1.length (gL (cInt .i64) 0 c_6.2.2.1), .arr 3 1 c_6.2.2.2.length (gL (cInt .i64) 0 c_6.2.2.2), .arr 3 1 (o4_15.set t33_14.toNat ((c_6.2.1.getD ((IntKind.wrap .i64 (IntKind.wrap .i64 (2 * t33_14) + 1)).toNat) dSEdge).room)).length (gL (cInt .i64) 0 (o4_15.set t33_14.toNat ((c_6.2.1.getD ((IntKind.wrap .i64 (IntKind.wrap .i64 (2 * t33_14) + 1)).toNat) dSEdge).room)))]⟩) (sub_gen [0, 1, 2, 3, 4] rfl rfl ⟨zc rfl rfl, zc rfl rfl, zc rfl rfl, zc rfl rfl, zc rfl rfl, trivial⟩ ⟨⟨_, rfl, ⟨ii rfl rfl, ii rfl rfl, ii rfl rfl, ii rfl rfl, trivial⟩⟩, oa rfl, oa rfl, oa rfl, oa rfl, trivial⟩) ?_
        refine SOps.nil ?_
        exact ⟨(n_19, (IntKind.wrap .i64 (t33_14 + 1), o4_15.set t33_14.toNat ((c_6.2.1.getD ((IntKind.wrap .i64 (IntKind.wrap .i64 (2 * t33_14) + 1)).toNat) dSEdge).room))), h, Nat.lt_succ_self n_19, sub_gen [0, 1, 2, 3, 4] rfl rfl ⟨zc rfl rfl, zc rfl rfl, zc rfl rfl, zc rfl rfl, zc rfl rfl, trivial⟩ ⟨⟨_, rfl, ⟨ii rfl rfl, ii rfl rfl, ii rfl rfl, ii rfl rfl, trivial⟩⟩, oa rfl, oa rfl, oa rfl, oa rfl, trivial⟩⟩
      refine SCode.cond_f rfl g20 ?_
      refine SCode.exit ?_
      exact ⟨o4_15, h, sub_gen [4] rfl rfl ⟨zc rfl rfl, zc rfl rfl, trivial⟩ ⟨oa rfl, trivial⟩⟩
  rintro o0_9 h
  show SCode _ _ _ ⟨[(11, .c (.int .i64 c_6.1)), (12, .c (.own 0 o0_9.length))], [.arr 3 1 o0_9.length (gL (cInt .i64) 0 o0_9)]⟩ _
  replace h : flow_Max_p10 c_6 o0_9 = some r := h
  unfold flow_Max_p10 at h
  refine SCode.seq ?_
  refine SCode.region (show SOps _ _ _ [0, 1, 2, 3, 4] _ _ from ?_)
  refine SOps.q rfl (.plain rfl) rfl (q_move rfl rfl) ?_
  refine SOps.q rfl (.plain rfl) rfl (q_move rfl rfl) ?_
  refine SOps.q rfl (.plain rfl) rfl (q_assign rfl rfl) ?_
  refine SOps.q rfl (.plain rfl) rfl (q_assign rfl rfl) ?_
  refine SOps.q rfl (.plain rfl) rfl (q_assign rfl rfl) ?_
  refine SOps.sub (st' := ⟨[(6, .c (.int .i64 c_6.1)), (7, .c (.own 0 o0_9.length)), (8, .c (.int .i64 0))], [.arr 3 1 o0_9.length (gL (cInt .i64) 0 o0_9)]⟩) (sub_gen [0] rfl rfl ⟨zc rfl rfl, zc rfl rfl, zc rfl rfl, trivial⟩ ⟨oa rfl, trivial⟩) ?_
  refine SOps.nil ?_
  refine SCode.ret ?_
  obtain rfl := Option.some.inj h
  exact ⟨⟨[(6, .c (.int .i64 c_6.1)), (7, .c (.vec o0_9.length 1 (gL (cInt .i64) 0 o0_9))), (8, .c (.int .i64 0))], []⟩, _, sub_gen [] rfl rfl ⟨zc rfl rfl, ⟨_, rfl, .inr (.inl ⟨_, _, _, _, _, _, _, rfl, rfl, rfl, Nat.le_refl _, fun _ _ _ _ => rfl, by decide⟩)⟩, zc rfl rfl, trivial⟩ trivial, resA3 (v1 := .c (.int .i64 c_6.1)) (v2 := .c (.vec o0_9.length 1 (gL (cInt .i64) 0 o0_9))) (v3 := .c (.int .i64 0)) rfl rfl rfl rfl, rfl⟩
set_option maxRecDepth 100000 in
set_option maxHeartbeats 8000000 in
theorem chargenettop_FlowsShare_1_ok (F : Nat) (a0_l : List Int) (a1f0 : Int) (r : Bool) (h : chargenettop_FlowsShare_1 F a0_l a1f0 = some r) :
    SFun Try.prog 4 [] [.c (.vec a0_l.length 1 (gL (cInt .i64) 0 a0_l)), .c (.eptr 1 ((cInt .i64) a1f0) 0)] (fun x _ => x = .c (.bool r)) := by
  refine SFun.of (n := 54) Try.func4 rfl rfl rfl ?_
  unfold chargenettop_FlowsShare_1 at h
  show SCode _ _ _ ⟨[(0, .c (.vec a0_l.length 1 (gL (cInt .i64) 0 a0_l))), (1, .c (.eptr 1 ((cInt .i64) a1f0) 0))], []⟩ _
  refine SCode.seq ?_
  refine SCode.region (show SOps _ _ _ [0] _ _ from ?_)
  refine SOps.q rfl (.plain rfl) rfl (q_assign rfl rfl) ?_
  refine SOps.sub (st' := ⟨[(0, .c (.vec a0_l.length 1 (gL (cInt .i64) 0 a0_l))), (1, .c (.eptr 1 ((cInt .i64) a1f0) 0))], []⟩) (sub_gen [] rfl rfl ⟨zc rfl rfl, zc rfl rfl, trivial⟩ trivial) ?_
  refine SOps.nil ?_
  refine SCode.seq ?_
  refine SCode.region (show SOps _ _ _ [0, 1, 2, 3, 4, 5, 6, 7, 8] _ _ from ?_)
  refine SOps.q rfl (.plain rfl) rfl (q_move rfl rfl) ?_
  refine SOps.q rfl (.plain rfl) rfl (q_len_vec rfl rfl sl22) ?_
  refine SOps.q rfl (.plain rfl) rfl (q_add rfl rfl rfl) ?_
  refine SOps.q rfl (.plain rfl) rfl (q_load_eptr rfl rfl ty3) ?_
  refine SOps.q rfl (.plain rfl) rfl (q_build2 rfl rfl pl24 rfl) ?_
  refine SOps.e rfl (.plain rfl) (e_bsliceL (c := cSArc) (d0 := dSArc) [SArc.mk 2 1 a1f0] rfl rfl rfl rfl sl25 z24 rfl rfl rfl rfl rfl rfl rfl) ?_
  refine SOps.q rfl (.plain rfl) rfl (q_build2 rfl rfl pl27 rfl) ?_
  refine SOps.e rfl (.plain rfl) (e_alloc rfl rfl rfl z27) ?_
  refine SOps.e rfl (.plain rfl) (e_store_box rfl rfl rfl rfl rfl ty27 rfl rfl rfl rfl) ?_
  refine SOps.sub (st' := ⟨[(0, .c (.vec a0_l.length 1 (gL (cInt .i64) 0 a0_l))), (4, .c (.ptr 0 0))], [.box [.int .i64 (IntKind.wrap .i64 (3 + ((a0_l).length : Int))), .own 1 ([SArc.mk 2 1 a1f0]).length], .arr 24 3 ([SArc.mk 2 1 a1f0]).length (gL cSArc dSArc ([SArc.mk 2 1 a1f0]))]⟩) (sub_gen [1, 0] rfl rfl ⟨zc rfl rfl, zc rfl rfl, trivial⟩ ⟨⟨_, rfl, ⟨ii rfl rfl, ii rfl rfl, trivial⟩⟩, oa rfl, trivial⟩) ?_
  refine SOps.nil ?_
  refine SCode.seq ?_
  refine SCode.region (show SOps _ _ _ [0] _ _ from ?_)
  refine SOps.q rfl (.plain rfl) rfl (q_assign rfl rfl) ?_
  refine SOps.sub (st' := ⟨[(0, .c (.vec a0_l.length 1 (gL (cInt .i64) 0 a0_l))), (4, .c (.ptr 0 0)), (5, .c (.int .i64 0))], [.box [.int .i64 (IntKind.wrap .i64 (3 + ((a0_l).length : Int))), .own 1 ([SArc.mk 2 1 a1f0]).length], .arr 24 3 ([SArc.mk 2 1 a1f0]).length (gL cSArc dSArc ([SArc.mk 2 1 a1f0]))]⟩) (sub_gen [0, 1] rfl rfl ⟨zc rfl rfl, zc rfl rfl, zc rfl rfl, trivial⟩ ⟨⟨_, rfl, ⟨ii rfl rfl, ii rfl rfl, trivial⟩⟩, oa rfl, trivial⟩) ?_
  refine SOps.nil ?_
  refine SCode.join (σ := Int × (List SArc)) (S := fun s => ⟨[(4, .c (.ptr 0 0)), (5, .c (.int .i64 s.1))], [.box [.int .i64 (IntKind.wrap .i64 (3 + ((a0_l).length : Int))), .own 1 s.2.length], .arr 24 3 s.2.length (gL cSArc dSArc s.2)]⟩) (g := fun s => chargenettop_FlowsShare_1_p6 F a0_l s.1 s.2 = some r) ?_ ?_
  rotate_left
  · refine SCode.seq ?_
    refine SCode.region (show SOps _ _ _ [0, 1, 2] _ _ from ?_)
    refine SOps.q rfl (.plain rfl) rfl (q_move rfl rfl) ?_
    refine SOps.q rfl (.plain rfl) rfl (q_len_vec rfl rfl sl22) ?_
    refine SOps.q rfl (.plain rfl) rfl (q_move rfl rfl) ?_
    refine SOps.sub (st' := ⟨[(4, .c (.ptr 0 0)), (5, .c (.int .i64 0)), (18, .c (.vec a0_l.length 1 (gL (cInt .i64) 0 a0_l))), (19, .c (.int .i64 (((a0_l).length : Int)))), (20, .c (.int .i64 0))], [.box [.int .i64 (IntKind.wrap .i64 (3 + ((a0_l).length : Int))), .own 1 ([SArc.mk 2 1 a1f0]).length], .arr 24 3 ([SArc.mk 2 1 a1f0]).length (gL cSArc dSArc ([SArc.mk 2 1 a1f0]))]⟩) (sub_gen [0, 1] rfl rfl ⟨zc rfl rfl, zc rfl rfl, zc rfl rfl, zc rfl rfl, zc rfl rfl, trivial⟩ ⟨⟨_, rfl, ⟨ii rfl rfl, ii rfl rfl, trivial⟩⟩, oa rfl, trivial⟩) ?_
    refine SOps.nil ?_
    refine SCode.block ?_
    refine SCode.sub (st' := ⟨[(4, .c (.ptr 0 0)), (5, .c (.int .i64 0)), (18, .c (.vec a0_l.length 1 (gL (cInt .i64) 0 a0_l))), (19, .c (.int .i64 (((a0_l).length : Int)))), (20, .c (.int .i64 0))], [.box [.int .i64 (IntKind.wrap .i64 (3 + ((a0_l).length : Int))), .own 1 ([SArc.mk 2 1 a1f0]).length], .arr 24 3 ([SArc.mk 2 1 a1f0]).length (gL cSArc dSArc ([SArc.mk 2 1 a1f0]))]⟩) (sub_gen [0, 1] rfl rfl ⟨zc rfl rfl, zc rfl rfl, zc rfl rfl, zc rfl rfl, zc rfl rfl, trivial⟩ ⟨⟨_, rfl, ⟨ii rfl rfl, ii rfl rfl, trivial⟩⟩, oa rfl, trivial⟩) ?_
    refine (SCode.loop (σ := Nat × (Int × Int × (List SArc))) (S := fun s => ⟨[(4, .c (.ptr 0 0)), (5, .c (.int .i64 s.2.1)), (18, .c (.vec a0_l.length 1 (gL (cInt .i64) 0 a0_l))), (19, .c (.int .i64 (((a0_l).length : Int)))), (20, .c (.int .i64 s.2.2.1))], [.box [.int .i64 (IntKind.wrap .i64 (3 + ((a0_l).length : Int))), .own 1 s.2.2.2.length], .arr 24 3 s.2.2.2.length (gL cSArc dSArc s.2.2.2)]⟩) (g := fun s => chargenettop_FlowsShare_1_l16 F a0_l s.1 s.2.1 s.2.2.1 s.2.2.2 = some r) (μ := fun s => s.1) (F, (0, 0, [SArc.mk 2 1 a1f0])) h ?_)
    rintro ⟨n_16, ⟨sum_10, t20_11, o1_12⟩⟩ h
    replace h : chargenettop_FlowsShare_1_l16 F a0_l n_16 sum_10 t20_11 o1_12 = some r := h
    show SCode _ _ _ ⟨[(4, .c (.ptr 0 0)), (5, .c (.int .i64 sum_10)), (18, .c (.vec a0_l.length 1 (gL (cInt .i64) 0 a0_l))), (19, .c (.int .i64 (((a0_l).length : Int)))), (20, .c (.int .i64 t20_11))], [.box [.int .i64 (IntKind.wrap .i64 (3 + ((a0_l).length : Int))), .own 1 o1_12.length], .arr 24 3 o1_12.length (gL cSArc dSArc o1_12)]⟩ _
    cases n_16 with
    | zero => cases h
    | succ n_16 =>
      replace h : chargenettop_FlowsShare_1_b16 F a0_l (fun sum_10 t20_11 o1_12 => chargenettop_FlowsShare_1_l16 F a0_l n_16 sum_10 t20_11 o1_12) sum_10 t20_11 o1_12 = some r := h
      unfold chargenettop_FlowsShare_1_b16 at h
      refine SCode.seq ?_
      refine SCode.region (show SOps _ _ _ [0] _ _ from ?_)
      refine SOps.q rfl (.plain rfl) rfl (q_lss rfl rfl rfl) ?_
      refine SOps.sub (st' := ⟨[(4, .c (.ptr 0 0)), (5, .c (.int .i64 sum_10)), (18, .c (.vec a0_l.length 1 (gL (cInt .i64) 0 a0_l))), (19, .c (.int .i64 (((a0_l).length : Int)))), (20, .c (.int .i64 t20_11)), (21, .c (.bool (decide (t20_11 < ((a0_l).length : Int)))))], [.box [.int .i64 (IntKind.wrap .i64 (3 + ((a0_l).length : Int))), .own 1 o1_12.length], .arr 24 3 o1_12.length (gL cSArc dSArc o1_12)]⟩) (sub_gen [0, 1] rfl rfl ⟨zc rfl rfl, zc rfl rfl, zc rfl rfl, zc rfl rfl, zc rfl rfl, zc rfl rfl, trivial⟩ ⟨⟨_, rfl, ⟨ii rfl rfl, ii rfl rfl, trivial⟩⟩, oa rfl, trivial⟩) ?_
      refine SOps.nil ?_
      refine SCode.seq ?_
      rcases cond_out h with ⟨g17, h⟩ | ⟨g17, h⟩
      · refine SCode.cond_t rfl g17 ?_
        refine SCode.skip ?_
        refine SCode.seq ?_
        refine SCode.block ?_
        refine SCode.seq ?_
        obtain ⟨g18, h⟩ := guard_out h
        refine SCode.region (show SOps _ _ _ [0, 1, 2, 3, 4] _ _ from ?_)
        refine SOps.q rfl (.plain rfl) rfl (q_move rfl rfl) ?_
        refine SOps.q rfl (.plain rfl) rfl (q_index_vec rfl rfl rfl sl22 rfl g18.1 g18.2) ?_
        refine SOps.q rfl (.plain rfl) rfl (q_load_eptr rfl rfl ty3) ?_
        refine SOps.q rfl (.plain rfl) rfl (q_assign rfl rfl) ?_
        refine SOps.q rfl (.plain rfl) rfl (q_assign rfl rfl) ?_
        refine SOps.sub (st' := ⟨[(4, .c (.ptr 0 0)), (5, .c (.int .i64 sum_10)), (6, .c (.int .i64 t20_11)), (7, .c (.int .i64 (a0_l.getD t20_11.toNat 0))), (18, .c (.vec a0_l.length 1 (gL (cInt .i64) 0 a0_l))), (19, .c (.int .i64 (((a0_l).length : Int)))), (20, .c (.int .i64 t20_11))], [.box [.int .i64 (IntKind.wrap .i64 (3 + ((a0_l).length : Int))), .own 1 o1_12.length], .arr 24 3 o1_12.length (gL cSArc dSArc o1_12)]⟩) (sub_gen [0, 1] rfl rfl ⟨zc rfl rfl, zc rfl rfl, zc rfl rfl, zc rfl rfl, zc rfl rfl, zc rfl rfl, zc rfl rfl, trivial⟩ ⟨⟨_, rfl, ⟨ii rfl rfl, ii rfl rfl, trivial⟩⟩, oa rfl, trivial⟩) ?_
        refine SOps.nil ?_
        refine SCode.seq ?_
        obtain ⟨g19, h⟩ := guard_out h
        refine SCode.region (show SOps _ _ _ [0, 1, 2, 3, 4, 5, 6, 7, 8, 9, 10, 11, 12] _ _ from ?_)
        refine SOps.q rfl (.plain rfl) rfl (q_field_ptr rfl rfl fd27_1) ?_
        refine SOps.q rfl (.plain rfl) rfl (q_load_ptr rfl rfl rfl rfl ty25) ?_
        refine SOps.q rfl (.plain rfl) rfl (q_move rfl rfl) ?_
        refine SOps.q rfl (.plain rfl) rfl (q_add rfl rfl rfl) ?_
        refine SOps.q rfl (.plain rfl) rfl (q_move rfl rfl) ?_
        refine SOps.q rfl (.plain rfl) rfl (q_build2 rfl rfl pl24 rfl) ?_
        refine SOps.q rfl (.plain rfl) rfl (q_move rfl rfl) ?_
        refine SOps.q rfl (.plain rfl) rfl (q_add rfl rfl rfl) ?_
        refine SOps.q rfl (.plain rfl) rfl (q_build2 rfl rfl pl24 rfl) ?_
        refine SOps.q rfl (.plain rfl) rfl (q_bsliceL (c := cSArc) (d0 := dSArc) [SArc.mk 0 (IntKind.wrap .i64 (3 + t20_11)) (a0_l.getD t20_11.toNat 0), SArc.mk (IntKind.wrap .i64 (3 + t20_11)) 2 1073741824] rfl rfl sl25 z24 rfl rfl rfl rfl rfl rfl rfl) ?_
        refine SOps.e rfl (.plain rfl) (e_appendL (c := cSArc) (d0 := dSArc) (l := o1_12) (l2 := [SArc.mk 0 (IntKind.wrap .i64 (3 + t20_11)) (a0_l.getD t20_11.toNat 0), SArc.mk (IntKind.wrap .i64 (3 + t20_11)) 2 1073741824]) rfl rfl rfl rfl rfl rfl (.inl rfl) sl25 z24 rfl rfl oneSArc g19.1 g19.2) ?_
        refine SOps.q rfl (.plain rfl) rfl (q_field_ptr rfl rfl fd27_1) ?_
        refine SOps.e rfl (.plain rfl) (e_store_box rfl rfl rfl rfl rfl ty25 rfl rfl rfl rfl) ?_
        refine SOps.sub (st' := ⟨[(4, .c (.ptr 0 0)), (5, .c (.int .i64 sum_10)), (7, .c (.int .i64 (a0_l.getD t20_11.toNat 0))), (18, .c (.vec a0_l.length 1 (gL (cInt .i64) 0 a0_l))), (19, .c (.int .i64 (((a0_l).length : Int)))), (20, .c (.int .i64 t20_11))], [.box [.int .i64 (IntKind.wrap .i64 (3 + ((a0_l).length : Int))), .own 1 (o1_12 ++ ([SArc.mk 0 (IntKind.wrap .i64 (3 + t20_11)) (a0_l.getD t20_11.toNat 0), SArc.mk (IntKind.wrap .i64 (3 + t20_11)) 2 1073741824])).length], .arr 24 3 (o1_12 ++ ([SArc.mk 0 (IntKind.wrap .i64 (3 + t20_11)) (a0_l.getD t20_11.toNat 0), SArc.mk (IntKind.wrap .i64 (3 + t20_11)) 2 1073741824])).length (gL cSArc dSArc (o1_12 ++ ([SArc.mk 0 (IntKind.wrap .i64 (3 + t20_11)) (a0_l.getD t20_11.toNat 0), SArc.mk (IntKind.wrap .i64 (3 + t20_11)) 2 1073741824])))]⟩) (sub_gen [0, 2] rfl rfl ⟨zc rfl rfl, zc rfl rfl, zc rfl rfl, zc rfl rfl, zc rfl rfl, zc rfl rfl, trivial⟩ ⟨⟨_, rfl, ⟨ii rfl rfl, ii rfl rfl, trivial⟩⟩, oa rfl, trivial⟩) ?_
        refine SOps.nil ?_
        refine SCode.region (show SOps _ _ _ [0, 1, 2, 3] _ _ from ?_)
        refine SOps.q rfl (.plain rfl) rfl (q_move rfl rfl) ?_
        refine SOps.q rfl (.plain rfl) rfl (q_move rfl rfl) ?_
        refine SOps.q rfl (.plain rfl) rfl (q_add rfl rfl rfl) ?_
        refine SOps.q rfl (.plain rfl) rfl (q_assign rfl rfl) ?_
        refine SOps.sub (st' := ⟨[(4, .c (.ptr 0 0)), (5, .c (.int .i64 (IntKind.wrap .i64 (sum_10 + a0_l.getD t20_11.toNat 0)))), (18, .c (.vec a0_l.length 1 (gL (cInt .i64) 0 a0_l))), (19, .c (.int .i64 (((a0_l).length : Int)))), (20, .c (.int .i64 t20_11))], [.box [.int .i64 (IntKind.wrap .i64 (3 + ((a0_l).length : Int))), .own 1 (o1_12 ++ ([SArc.mk 0 (IntKind.wrap .i64 (3 + t20_11)) (a0_l.getD t20_11.toNat 0), SArc.mk (IntKind.wrap .i64 (3 + t20_11)) 2 1073741824])).length], .arr 24 3 (o1_12 ++ ([SArc.mk 0 (IntKind.wrap .i64 (3 + t20_11)) (a0_l.getD t20_11.toNat 0), SArc.mk (IntKind.wrap .i64 (3 + t20_11)) 2 1073741824])).length (gL cSArc dSArc (o1_12 ++ ([SArc.mk 0 (IntKind.wrap .i64 (3 + t20_11)) (a0_l.getD t20_11.toNat 0), SArc.mk (IntKind.wrap .i64 (3 + t20_11)) 2 1073741824])))]⟩) (sub_gen [0, 1] rfl rfl ⟨zc rfl rfl, zc rfl rfl, zc rfl rfl, zc rfl rfl, zc rfl rfl, trivial⟩ ⟨⟨_, rfl, ⟨ii rfl rfl, ii rfl rfl, trivial⟩⟩, oa rfl, trivial⟩) ?_
        refine SOps.nil ?_
        refine SCode.region (show SOps _ _ _ [0, 1] _ _ from ?_)
        refine SOps.q rfl (.plain rfl) rfl (q_add rfl rfl rfl) ?_
        refine SOps.q rfl (.plain rfl) rfl (q_move rfl rfl) ?_
        refine SOps.sub (st' := ⟨[(4, .c (.ptr 0 0)), (5, .c (.int .i64 (IntKind.wrap .i64 (sum_10 + a0_l.getD t20_11.toNat 0)))), (18, .c (.vec a0_l.length 1 (gL (cInt .i64) 0 a0_l))), (19, .c (.int .i64 (((a0_l).length : Int)))), (20, .c (.int .i64 (IntKind.wrap .i64 (t20_11 + 1))))], [.box [.int .i64 (IntKind.wrap .i64 (3 + ((a0_l).length : Int))), .own 1 (o1_12 ++ ([SArc.mk 0 (IntKind.wrap .i64 (3 + t20_11)) (a0_l.getD t20_11.toNat 0), SArc.mk (IntKind.wrap .i64 (3 + t20_11)) 2 1073741824])).length], .arr 24 3 (o1_12 ++ ([SArc.mk 0 (IntKind.wrap .i64 (3 + t20_11)) (a0_l.getD t20_11.toNat 0), SArc.mk (IntKind.wrap .i64 (3 + t20_11)) 2 1073741824])).length (gL cSArc dSArc (o1_12 ++ ([SArc.mk 0 (IntKind.wrap .i64 (3 + t20_11)) (a0_l.getD t20_11.toNat 0), SArc.mk (IntKind.wrap .i64 (3 + t20_11)) 2 1073741824])))]⟩) (sub_gen [0, 1] rfl rfl ⟨zc rfl rfl, zc rfl rfl, zc rfl rfl, zc rfl rfl, zc rfl rfl, trivial⟩ ⟨⟨_, rfl, ⟨ii rfl rfl, ii rfl rfl, trivial⟩⟩, oa rfl, trivial⟩) ?_
        refine SOps.nil ?_
        exact ⟨(n_16, (IntKind.wrap .i64 (sum_10 + a0_l.getD t20_11.toNat 0), IntKind.wrap .i64 (t20_11 + 1), o1_12 ++ ([SArc.mk 0 (IntKind.wrap .i64 (3 + t20_11)) (a0_l.getD t20_11.toNat 0), SArc.mk (IntKind.wrap .i64 (3 + t20_11)) 2 1073741824]))), h, Nat.lt_succ_self n_16, sub_gen [0, 1] rfl rfl ⟨zc rfl rfl, zc rfl rfl, zc rfl rfl, zc rfl rfl, zc rfl rfl, trivial⟩ ⟨⟨_, rfl, ⟨ii rfl rfl, ii rfl rfl, trivial⟩⟩, oa rfl, trivial⟩⟩
      refine SCode.cond_f rfl g17 ?_
      refine SCode.exit ?_
      exact ⟨(sum_10, o1_12), h, sub_gen [0, 1] rfl rfl ⟨zc rfl rfl, zc rfl rfl, trivial⟩ ⟨⟨_, rfl, ⟨ii rfl rfl, ii rfl rfl, trivial⟩⟩, oa rfl, trivial⟩⟩
  rintro ⟨sum_1, o1_2⟩ h
  show SCode _ _ _ ⟨[(4, .c (.ptr 0 0)), (5, .c (.int .i64 sum_1))], [.box [.int .i64 (IntKind.wrap .i64 (3 + ((a0_l).length : Int))), .own 1 o1_2.length], .arr 24 3 o1_2.length (gL cSArc dSArc o1_2)]⟩ _
  replace h : chargenettop_FlowsShare_1_p6 F a0_l sum_1 o1_2 = some r := h
  unfold chargenettop_FlowsShare_1_p6 at h
  refine SCode.seq ?_
  refine SCode.sub (st' := ⟨[(4, .c (.ptr 0 0)), (5, .c (.int .i64 sum_1))], [.box [.int .i64 (IntKind.wrap .i64 (3 + ((a0_l).length : Int))), .vec o1_2.length 3 (gL cSArc dSArc o1_2)]]⟩) (sub_gen [0] rfl rfl ⟨zc rfl rfl, zc rfl rfl, trivial⟩ ⟨⟨_, rfl, ⟨ii rfl rfl, .inr (.inl ⟨_, _, _, _, _, _, _, rfl, rfl, rfl, Nat.le_refl _, fun _ _ _ _ => rfl, by decide⟩), trivial⟩⟩, trivial⟩) ?_
  obtain ⟨c_3, g4, h⟩ := bind_out h
  try dsimp only at h
  refine SCode.region (show SOps _ _ _ [0, 1, 2, 3, 4, 5, 6, 7, 8] _ _ from ?_)
  refine SOps.q rfl (.plain rfl) rfl (q_load_ptr_all rfl rfl rfl rfl rfl ty27) ?_
  refine SOps.q rfl (.plain rfl) rfl (q_call (flow_Max_ok F (SNet.mk (IntKind.wrap .i64 (3 + ((a0_l).length : Int))) o1_2) 0 1 c_3 g4) [] rfl fn5 ⟨⟨rfl, rfl⟩, ⟨_, rfl, .inl ⟨rfl, rfl⟩⟩, ⟨_, rfl, .inl ⟨rfl, rfl⟩⟩, trivial⟩ (.inl rfl)) ?_
  refine SOps.q rfl (.plain rfl) rfl (q_move rfl rfl) ?_
  refine SOps.q rfl (.plain rfl) rfl (q_extract rfl rfl rfl) ?_
  refine SOps.q rfl (.plain rfl) rfl (q_extract rfl rfl rfl) ?_
  refine SOps.q rfl (.plain rfl) rfl (q_extract rfl rfl rfl) ?_
  refine SOps.q rfl (.plain rfl) rfl (q_assign rfl rfl) ?_
  refine SOps.q rfl (.plain rfl) rfl (q_assign rfl rfl) ?_
  refine SOps.q rfl (.plain rfl) rfl (q_assign rfl rfl) ?_
  refine SOps.sub (st' := ⟨[(5, .c (.int .i64 sum_1)), (8, .c (.int .i64 c_3.1)), (10, .c (.int .i64 c_3.2.2))], []⟩) (sub_gen [] rfl rfl ⟨zc rfl rfl, zc rfl rfl, zc rfl rfl, trivial⟩ trivial) ?_
  refine SOps.nil ?_
  refine SCode.seq ?_
  rcases cond_out h with ⟨g5, h⟩ | ⟨g5, h⟩
  · refine SCode.region (show SOps _ _ _ [0, 1, 2, 3, 4, 5, 6, 7] _ _ from ?_)
    refine SOps.q rfl (.plain rfl) rfl (q_move rfl rfl) ?_
    refine SOps.q rfl (.plain rfl) rfl (q_eql rfl rfl rfl) ?_
    refine SOps.q rfl (.plain rfl) rfl (q_move rfl rfl) ?_
    refine SOps.q rfl (.guard 2 49 true rfl rfl (gT g5)) rfl (q_move rfl rfl) ?_
    refine SOps.q rfl (.guard 2 49 true rfl rfl (gT g5)) rfl (q_move rfl rfl) ?_
    refine SOps.q rfl (.guard 2 49 true rfl rfl (gT g5)) rfl (q_eql rfl rfl rfl) ?_
    refine SOps.q rfl (.plain rfl) rfl (q_pick_t rfl rfl g5 rfl) ?_
    refine SOps.q rfl (.plain rfl) rfl (q_assign rfl rfl) ?_
    refine SOps.sub (st' := ⟨[(3, .c (.bool (decide (c_3.1 = sum_1))))], []⟩) (sub_gen [] rfl rfl ⟨zc rfl rfl, trivial⟩ trivial) ?_
    refine SOps.nil ?_
    refine SCode.ret ?_
    obtain rfl := Option.some.inj h
    exact ⟨⟨[(3, .c (.bool (decide (c_3.1 = sum_1))))], []⟩, _, sub_gen [] rfl rfl ⟨zc rfl rfl, trivial⟩ trivial, resA1 (v := .c (.bool (decide (c_3.1 = sum_1)))) rfl rfl, rfl⟩
  refine SCode.region (show SOps _ _ _ [0, 1, 2, 3, 4, 5, 6, 7] _ _ from ?_)
  refine SOps.q rfl (.plain rfl) rfl (q_move rfl rfl) ?_
  refine SOps.q rfl (.plain rfl) rfl (q_eql rfl rfl rfl) ?_
  refine SOps.q rfl (.plain rfl) rfl (q_move rfl rfl) ?_
  refine SOps.skip rfl 2 49 true rfl rfl (.inl (gF g5)) rfl ?_
  refine SOps.skip rfl 2 49 true rfl rfl (.inl (gF g5)) rfl ?_
  refine SOps.skip rfl 2 49 true rfl rfl (.inl (gF g5)) rfl ?_
  refine SOps.q rfl (.plain rfl) rfl (q_pick_f rfl rfl g5 rfl) ?_
  refine SOps.q rfl (.plain rfl) rfl (q_assign rfl rfl) ?_
  refine SOps.sub (st' := ⟨[(3, .c (.bool false))], []⟩) (sub_gen [] rfl rfl ⟨zc rfl rfl, trivial⟩ trivial) ?_
  refine SOps.nil ?_
  refine SCode.ret ?_
  obtain rfl := Option.some.inj h
  exact ⟨⟨[(3, .c (.bool false))], []⟩, _, sub_gen [] rfl rfl ⟨zc rfl rfl, trivial⟩ trivial, resA1 (v := .c (.bool false)) rfl rfl, rfl⟩
set_option maxRecDepth 100000 in
set_option maxHeartbeats 8000000 in
theorem fair_division_raise_f0_p4_ok (F : Nat) (a0_v_caps : List Int) (a0f0 : Int) (a0_v_x : List Int) (a0_v_active : List Bool) (a0_v_trial : List Int) (a1_d : Int) (r : List Int) (h : fair_division_raise_f0_p4 F a0_v_caps a0f0 a0_v_x a0_v_active a0_v_trial a1_d = some r) :
    SFun Try.prog 23 [.box [.vec a0_v_caps.length 1 (gL (cInt .i64) 0 a0_v_caps), .fn 4 1 (cellsG [.eptr 1 ((cInt .i64) a0f0) 0]), .own 1 a0_v_x.length, .own 2 a0_v_active.length, .own 3 a0_v_trial.length], .arr 3 1 a0_v_x.length (gL (cInt .i64) 0 a0_v_x), .arr 4 1 a0_v_active.length (gL cBool false a0_v_active), .arr 3 1 a0_v_trial.length (gL (cInt .i64) 0 a0_v_trial)] [.c (.ptr 0 0), .c (.int .i64 a1_d)] (fun x os => x = .t [] ∧ os = [.box [.vec a0_v_caps.length 1 (gL (cInt .i64) 0 a0_v_caps), .fn 4 1 (cellsG [.eptr 1 ((cInt .i64) a0f0) 0]), .own 1 a0_v_x.length, .own 2 a0_v_active.length, .own 3 r.length], .arr 3 1 a0_v_x.length (gL (cInt .i64) 0 a0_v_x), .arr 4 1 a0_v_active.length (gL cBool false a0_v_active), .arr 3 1 r.length (gL (cInt .i64) 0 r)]) := by
  refine SFun.of (n := 43) Try.func23 rfl rfl rfl ?_
  unfold fair_division_raise_f0_p4 at h
  show SCode _ _ _ ⟨[(0, .c (.ptr 0 0)), (1, .c (.int .i64 a1_d))], [.box [.vec a0_v_caps.length 1 (gL (cInt .i64) 0 a0_v_caps), .fn 4 1 (cellsG [.eptr 1 ((cInt .i64) a0f0) 0]), .own 1 a0_v_x.length, .own 2 a0_v_active.length, .own 3 a0_v_trial.length], .arr 3 1 a0_v_x.length (gL (cInt .i64) 0 a0_v_x), .arr 4 1 a0_v_active.length (gL cBool false a0_v_active), .arr 3 1 a0_v_trial.length (gL (cInt .i64) 0 a0_v_trial)]⟩ _
  refine SCode.seq ?_
  refine SCode.region (show SOps _ _ _ [0, 1, 2, 3, 4, 5] _ _ from ?_)
  refine SOps.q rfl (.plain rfl) rfl (q_move rfl rfl) ?_
  refine SOps.q rfl (.plain rfl) rfl (q_nilCheck rfl rfl rfl) ?_
  refine SOps.q rfl (.plain rfl) rfl (q_field_ptr rfl rfl fd49_2) ?_
  refine SOps.q rfl (.plain rfl) rfl (q_load_ptr rfl rfl rfl rfl ty22) ?_
  refine SOps.q rfl (.plain rfl) rfl (q_len_own rfl rfl sl22) ?_
  refine SOps.q rfl (.plain rfl) rfl (q_move rfl rfl) ?_
  refine SOps.sub (st' := ⟨[(0, .c (.ptr 0 0)), (1, .c (.int .i64 a1_d)), (9, .c (.own 1 a0_v_x.length)), (10, .c (.int .i64 (((a0_v_x).length : Int)))), (11, .c (.int .i64 0))], [.box [.vec a0_v_caps.length 1 (gL (cInt .i64) 0 a0_v_caps), .fn 4 1 (cellsG [.eptr 1 ((cInt .i64) a0f0) 0]), .own 1 a0_v_x.length, .own 2 a0_v_active.length, .own 3 a0_v_trial.length], .arr 3 1 a0_v_x.length (gL (cInt .i64) 0 a0_v_x), .arr 4 1 a0_v_active.length (gL cBool false a0_v_active), .arr 3 1 a0_v_trial.length (gL (cInt .i64) 0 a0_v_trial)]⟩) (sub_gen [0, 1, 2, 3] rfl rfl ⟨zc rfl rfl, zc rfl rfl, zc rfl rfl, zc rfl rfl, zc rfl rfl, trivial⟩ ⟨⟨_, rfl, ⟨ii rfl rfl, ii rfl rfl, ii rfl rfl, ii rfl rfl, ii rfl rfl, trivial⟩⟩, oa rfl, oa rfl, oa rfl, trivial⟩) ?_
  refine SOps.nil ?_
  refine SCode.block ?_
  refine SCode.sub (st' := ⟨[(0, .c (.ptr 0 0)), (1, .c (.int .i64 a1_d)), (9, .c (.own 1 a0_v_x.length)), (10, .c (.int .i64 (((a0_v_x).length : Int)))), (11, .c (.int .i64 0))], [.box [.vec a0_v_caps.length 1 (gL (cInt .i64) 0 a0_v_caps), .fn 4 1 (cellsG [.eptr 1 ((cInt .i64) a0f0) 0]), .own 1 a0_v_x.length, .own 2 a0_v_active.length, .own 3 a0_v_trial.length], .arr 3 1 a0_v_x.length (gL (cInt .i64) 0 a0_v_x), .arr 4 1 a0_v_active.length (gL cBool false a0_v_active), .arr 3 1 a0_v_trial.length (gL (cInt .i64) 0 a0_v_trial)]⟩) (sub_gen [0, 1, 2, 3] rfl rfl ⟨zc rfl rfl, zc rfl rfl, zc rfl rfl, zc rfl rfl, zc rfl rfl, trivial⟩ ⟨⟨_, rfl, ⟨ii rfl rfl, ii rfl rfl, ii rfl rfl, ii rfl rfl, ii rfl rfl, trivial⟩⟩, oa rfl, oa rfl, oa rfl, trivial⟩) ?_
  refine (SCode.loop (σ := Nat × (Int × (List Int))) (S := fun s => ⟨[(0, .c (.ptr 0 0)), (1, .c (.int .i64 a1_d)), (9, .c (.own 1 a0_v_x.length)), (10, .c (.int .i64 (((a0_v_x).length : Int)))), (11, .c (.int .i64 s.2.1))], [.box [.vec a0_v_caps.length 1 (gL (cInt .i64) 0 a0_v_caps), .fn 4 1 (cellsG [.eptr 1 ((cInt .i64) a0f0) 0]), .own 1 a0_v_x.length, .own 2 a0_v_active.length, .own 3 s.2.2.length], .arr 3 1 a0_v_x.length (gL (cInt .i64) 0 a0_v_x), .arr 4 1 a0_v_active.length (gL cBool false a0_v_active), .arr 3 1 s.2.2.length (gL (cInt .i64) 0 s.2.2)]⟩) (g := fun s => fair_division_raise_f0_p4_l23 F a0_v_caps a0_v_x a0_v_active a1_d s.1 s.2.1 s.2.2 = some r) (μ := fun s => s.1) (F, (0, a0_v_trial)) h ?_)
  rintro ⟨n_23, ⟨t11_11, o3_12⟩⟩ h
  replace h : fair_division_raise_f0_p4_l23 F a0_v_caps a0_v_x a0_v_active a1_d n_23 t11_11 o3_12 = some r := h
  show SCode _ _ _ ⟨[(0, .c (.ptr 0 0)), (1, .c (.int .i64 a1_d)), (9, .c (.own 1 a0_v_x.length)), (10, .c (.int .i64 (((a0_v_x).length : Int)))), (11, .c (.int .i64 t11_11))], [.box [.vec a0_v_caps.length 1 (gL (cInt .i64) 0 a0_v_caps), .fn 4 1 (cellsG [.eptr 1 ((cInt .i64) a0f0) 0]), .own 1 a0_v_x.length, .own 2 a0_v_active.length, .own 3 o3_12.length], .arr 3 1 a0_v_x.length (gL (cInt .i64) 0 a0_v_x), .arr 4 1 a0_v_active.length (gL cBool false a0_v_active), .arr 3 1 o3_12.length (gL (cInt .i64) 0 o3_12)]⟩ _
  cases n_23 with
  | zero => cases h
  | succ n_23 =>
    replace h : fair_division_raise_f0_p4_b23 F a0_v_caps a0_v_x a0_v_active a1_d (fun t11_11 o3_12 => fair_division_raise_f0_p4_l23 F a0_v_caps a0_v_x a0_v_active a1_d n_23 t11_11 o3_12) t11_11 o3_12 = some r := h
    unfold fair_division_raise_f0_p4_b23 at h
    refine SCode.seq ?_
    refine SCode.region (show SOps _ _ _ [0] _ _ from ?_)
    refine SOps.q rfl (.plain rfl) rfl (q_lss rfl rfl rfl) ?_
    refine SOps.sub (st' := ⟨[(0, .c (.ptr 0 0)), (1, .c (.int .i64 a1_d)), (9, .c (.own 1 a0_v_x.length)), (10, .c (.int .i64 (((a0_v_x).length : Int)))), (11, .c (.int .i64 t11_11)), (12, .c (.bool (decide (t11_11 < ((a0_v_x).length : Int)))))], [.box [.vec a0_v_caps.length 1 (gL (cInt .i64) 0 a0_v_caps), .fn 4 1 (cellsG [.eptr 1 ((cInt .i64) a0f0) 0]), .own 1 a0_v_x.length, .own 2 a0_v_active.length, .own 3 o3_12.length], .arr 3 1 a0_v_x.length (gL (cInt .i64) 0 a0_v_x), .arr 4 1 a0_v_active.length (gL cBool false a0_v_active), .arr 3 1 o3_12.length (gL (cInt .i64) 0 o3_12)]⟩) (sub_gen [0, 1, 2, 3] rfl rfl ⟨zc rfl rfl, zc rfl rfl, zc rfl rfl, zc rfl rfl, zc rfl rfl, zc rfl rfl, trivial⟩ ⟨⟨_, rfl, ⟨ii rfl rfl, ii rfl rfl, ii rfl rfl, ii rfl rfl, ii rfl rfl, trivial⟩⟩, oa rfl, oa rfl, oa rfl, trivial⟩) ?_
    refine SOps.nil ?_
    refine SCode.seq ?_
    rcases cond_out h with ⟨g24, h⟩ | ⟨g24, h⟩
    · refine SCode.cond_t rfl g24 ?_
      refine SCode.skip ?_
      refine SCode.seq ?_
      refine SCode.block ?_
      refine SCode.seq ?_
      obtain ⟨g25, h⟩ := guard_out h
      refine SCode.region (show SOps _ _ _ [0, 1, 2, 3, 4] _ _ from ?_)
      refine SOps.q rfl (.plain rfl) rfl (q_move rfl rfl) ?_
      refine SOps.q rfl (.plain rfl) rfl (q_index_own rfl rfl rfl sl22 g25.1 g25.2) ?_
      refine SOps.q rfl (.plain rfl) rfl (q_load_aptr rfl rfl rfl (toNat_lt g25) rfl ty3) ?_
      refine SOps.q rfl (.plain rfl) rfl (q_assign rfl rfl) ?_
      refine SOps.q rfl (.plain rfl) rfl (q_assign rfl rfl) ?_
      refine SOps.sub (st' := ⟨[(0, .c (.ptr 0 0)), (1, .c (.int .i64 a1_d)), (4, .c (.int .i64 t11_11)), (5, .c (.int .i64 (a0_v_x.getD t11_11.toNat 0))), (9, .c (.own 1 a0_v_x.length)), (10, .c (.int .i64 (((a0_v_x).length : Int)))), (11, .c (.int .i64 t11_11))], [.box [.vec a0_v_caps.length 1 (gL (cInt .i64) 0 a0_v_caps), .fn 4 1 (cellsG [.eptr 1 ((cInt .i64) a0f0) 0]), .own 1 a0_v_x.length, .own 2 a0_v_active.length, .own 3 o3_12.length], .arr 3 1 a0_v_x.length (gL (cInt .i64) 0 a0_v_x), .arr 4 1 a0_v_active.length (gL cBool false a0_v_active), .arr 3 1 o3_12.length (gL (cInt .i64) 0 o3_12)]⟩) (sub_gen [0, 1, 2, 3] rfl rfl ⟨zc rfl rfl, zc rfl rfl, zc rfl rfl, zc rfl rfl, zc rfl rfl, zc rfl rfl, zc rfl rfl, trivial⟩ ⟨⟨_, rfl, ⟨ii rfl rfl, ii rfl rfl, ii rfl rfl, ii rfl rfl, ii rfl rfl, trivial⟩⟩, oa rfl, oa rfl, oa rfl, trivial⟩) ?_
      refine SOps.nil ?_
      refine SCode.join (σ := Int) (S := fun s => ⟨[(0, .c (.ptr 0 0)), (1, .c (.int .i64 a1_d)), (4, .c (.int .i64 t11_11)), (5, .c (.int .i64 s)), (9, .c (.own 1 a0_v_x.length)), (10, .c (.int .i64 (((a0_v_x).length : Int)))), (11, .c (.int .i64 t11_11))], [.box [.vec a0_v_caps.length 1 (gL (cInt .i64) 0 a0_v_caps), .fn 4 1 (cellsG [.eptr 1 ((cInt .i64) a0f0) 0]), .own 1 a0_v_x.length, .own 2 a0_v_active.length, .own 3 o3_12.length], .arr 3 1 a0_v_x.length (gL (cInt .i64) 0 a0_v_x), .arr 4 1 a0_v_active.length (gL cBool false a0_v_active), .arr 3 1 o3_12.length (gL (cInt .i64) 0 o3_12)]⟩) (g := fun s => fair_division_raise_f0_p4_p28 t11_11 o3_12 (fun t11_11 o3_12 => fair_division_raise_f0_p4_l23 F a0_v_caps a0_v_x a0_v_active a1_d n_23 t11_11 o3_12) s = some r) ?_ ?_
      rotate_left
      · refine SCode.seq ?_
        obtain ⟨g29, h⟩ := guard_out h
        refine SCode.region (show SOps _ _ _ [0, 1, 2, 3, 4, 5, 6] _ _ from ?_)
        refine SOps.q rfl (.plain rfl) rfl (q_move rfl rfl) ?_
        refine SOps.q rfl (.plain rfl) rfl (q_nilCheck rfl rfl rfl) ?_
        refine SOps.q rfl (.plain rfl) rfl (q_field_ptr rfl rfl fd49_3) ?_
        refine SOps.q rfl (.plain rfl) rfl (q_load_ptr rfl rfl rfl rfl ty47) ?_
        refine SOps.q rfl (.plain rfl) rfl (q_move rfl rfl) ?_
        refine SOps.q rfl (.plain rfl) rfl (q_index_own rfl rfl rfl sl47 g29.1 g29.2) ?_
        refine SOps.q rfl (.plain rfl) rfl (q_load_aptr rfl rfl rfl (toNat_lt g29) rfl ty4) ?_
        refine SOps.sub (st' := ⟨[(0, .c (.ptr 0 0)), (1, .c (.int .i64 a1_d)), (4, .c (.int .i64 t11_11)), (5, .c (.int .i64 (a0_v_x.getD t11_11.toNat 0))), (9, .c (.own 1 a0_v_x.length)), (10, .c (.int .i64 (((a0_v_x).length : Int)))), (11, .c (.int .i64 t11_11)), (22, .c (.bool (a0_v_active.getD t11_11.toNat false)))], [.box [.vec a0_v_caps.length 1 (gL (cInt .i64) 0 a0_v_caps), .fn 4 1 (cellsG [.eptr 1 ((cInt .i64) a0f0) 0]), .own 1 a0_v_x.length, .own 2 a0_v_active.length, .own 3 o3_12.length], .arr 3 1 a0_v_x.length (gL (cInt .i64) 0 a0_v_x), .arr 4 1 a0_v_active.length (gL cBool false a0_v_active), .arr 3 1 o3_12.length (gL (cInt .i64) 0 o3_12)]⟩) (sub_gen [0, 1, 2, 3] rfl rfl ⟨zc rfl rfl, zc rfl rfl, zc rfl rfl, zc rfl rfl, zc rfl rfl, zc rfl rfl, zc rfl rfl, zc rfl rfl, trivial⟩ ⟨⟨_, rfl, ⟨ii rfl rfl, ii rfl rfl, ii rfl rfl, ii rfl rfl, ii rfl rfl, trivial⟩⟩, oa rfl, oa rfl, oa rfl, trivial⟩) ?_
        refine SOps.nil ?_
        rcases cond_out h with ⟨g30, h⟩ | ⟨g30, h⟩
        · refine SCode.cond_t rfl g30 ?_
          obtain ⟨g31, h⟩ := guard_out h
          obtain ⟨c_32, g33, h⟩ := bind_out h
          try dsimp only at h
          refine SCode.region (show SOps _ _ _ [0, 1, 2, 3, 4, 5, 6, 7, 8, 9, 10, 11, 12] _ _ from ?_)
          refine SOps.q rfl (.plain rfl) rfl (q_move rfl rfl) ?_
          refine SOps.q rfl (.plain rfl) rfl (q_move rfl rfl) ?_
          refine SOps.q rfl (.plain rfl) rfl (q_add rfl rfl rfl) ?_
          refine SOps.q rfl (.plain rfl) rfl (q_move rfl rfl) ?_
          refine SOps.q rfl (.plain rfl) rfl (q_nilCheck rfl rfl rfl) ?_
          refine SOps.q rfl (.plain rfl) rfl (q_field_ptr rfl rfl fd49_0) ?_
          refine SOps.q rfl (.plain rfl) rfl (q_load_ptr rfl rfl rfl rfl ty22) ?_
          refine SOps.q rfl (.plain rfl) rfl (q_move rfl rfl) ?_
          refine SOps.q rfl (.plain rfl) rfl (q_index_vec rfl rfl rfl sl22 rfl g31.1 g31.2) ?_
          refine SOps.q rfl (.plain rfl) rfl (q_load_eptr rfl rfl ty3) ?_
          refine SOps.q rfl (.plain rfl) rfl (q_bsliceL (c := (cInt .i64)) (d0 := 0) [a0_v_caps.getD t11_11.toNat 0] rfl rfl sl22 z3 rfl rfl rfl rfl rfl rfl rfl) ?_
          refine SOps.q rfl (.plain rfl) rfl (q_call (fair_least_int_ok F (IntKind.wrap .i64 (a0_v_x.getD t11_11.toNat 0 + a1_d)) ([a0_v_caps.getD t11_11.toNat 0]) c_32 g33) [] rfl fn17 ⟨⟨_, rfl, .inl ⟨rfl, rfl⟩⟩, ⟨_, rfl, .inl ⟨rfl, rfl⟩⟩, trivial⟩ (.inl rfl)) ?_
          refine SOps.q rfl (.plain rfl) rfl (q_assign rfl rfl) ?_
          refine SOps.sub (st' := ⟨[(0, .c (.ptr 0 0)), (1, .c (.int .i64 a1_d)), (4, .c (.int .i64 t11_11)), (5, .c (.int .i64 c_32)), (9, .c (.own 1 a0_v_x.length)), (10, .c (.int .i64 (((a0_v_x).length : Int)))), (11, .c (.int .i64 t11_11))], [.box [.vec a0_v_caps.length 1 (gL (cInt .i64) 0 a0_v_caps), .fn 4 1 (cellsG [.eptr 1 ((cInt .i64) a0f0) 0]), .own 1 a0_v_x.length, .own 2 a0_v_active.length, .own 3 o3_12.length], .arr 3 1 a0_v_x.length (gL (cInt .i64) 0 a0_v_x), .arr 4 1 a0_v_active.length (gL cBool false a0_v_active), .arr 3 1 o3_12.length (gL (cInt .i64) 0 o3_12)]⟩) (sub_gen [0, 1, 2, 3] rfl rfl ⟨zc rfl rfl, zc rfl rfl, zc rfl rfl, zc rfl rfl, zc rfl rfl, zc rfl rfl, zc rfl rfl, trivial⟩ ⟨⟨_, rfl, ⟨ii rfl rfl, ii rfl rfl, ii rfl rfl, ii rfl rfl, ii rfl rfl, trivial⟩⟩, oa rfl, oa rfl, oa rfl, trivial⟩) ?_
          refine SOps.nil ?_
          exact ⟨c_32, h, sub_gen [0, 1, 2, 3] rfl rfl ⟨zc rfl rfl, zc rfl rfl, zc rfl rfl, zc rfl rfl, zc rfl rfl, zc rfl rfl, zc rfl rfl, trivial⟩ ⟨⟨_, rfl, ⟨ii rfl rfl, ii rfl rfl, ii rfl rfl, ii rfl rfl, ii rfl rfl, trivial⟩⟩, oa rfl, oa rfl, oa rfl, trivial⟩⟩
        refine SCode.cond_f rfl g30 ?_
        refine SCode.skip ?_
        exact ⟨a0_v_x.getD t11_11.toNat 0, h, sub_gen [0, 1, 2, 3] rfl rfl ⟨zc rfl rfl, zc rfl rfl, zc rfl rfl, zc rfl rfl, zc rfl rfl, zc rfl rfl, zc rfl rfl, trivial⟩ ⟨⟨_, rfl, ⟨ii rfl rfl, ii rfl rfl, ii rfl rfl, ii rfl rfl, ii rfl rfl, trivial⟩⟩, oa rfl, oa rfl, oa rfl, trivial⟩⟩
      rintro n_26 h
      show SCode _ _ _ ⟨[(0, .c (.ptr 0 0)), (1, .c (.int .i64 a1_d)), (4, .c (.int .i64 t11_11)), (5, .c (.int .i64 n_26)), (9, .c (.own 1 a0_v_x.length)), (10, .c (.int .i64 (((a0_v_x).length : Int)))), (11, .c (.int .i64 t11_11))], [.box [.vec a0_v_caps.length 1 (gL (cInt .i64) 0 a0_v_caps), .fn 4 1 (cellsG [.eptr 1 ((cInt .i64) a0f0) 0]), .own 1 a0_v_x.length, .own 2 a0_v_active.length, .own 3 o3_12.length], .arr 3 1 a0_v_x.length (gL (cInt .i64) 0 a0_v_x), .arr 4 1 a0_v_active.length (gL cBool false a0_v_active), .arr 3 1 o3_12.length (gL (cInt .i64) 0 o3_12)]⟩ _
      replace h : fair_division_raise_f0_p4_p28 t11_11 o3_12 (fun t11_11 o3_12 => fair_division_raise_f0_p4_l23 F a0_v_caps a0_v_x a0_v_active a1_d n_23 t11_11 o3_12) n_26 = some r := h
      unfold fair_division_raise_f0_p4_p28 at h
      obtain ⟨g27, h⟩ := guard_out h
      refine SCode.region (show SOps _ _ _ [0, 1, 2, 3, 4, 5, 6, 7] _ _ from ?_)
      refine SOps.q rfl (.plain rfl) rfl (q_move rfl rfl) ?_
      refine SOps.q rfl (.plain rfl) rfl (q_nilCheck rfl rfl rfl) ?_
      refine SOps.q rfl (.plain rfl) rfl (q_field_ptr rfl rfl fd49_4) ?_
      refine SOps.q rfl (.plain rfl) rfl (q_load_ptr rfl rfl rfl rfl ty22) ?_
      refine SOps.q rfl (.plain rfl) rfl (q_move rfl rfl) ?_
      refine SOps.q rfl (.plain rfl) rfl (q_move rfl rfl) ?_
      refine SOps.q rfl (.plain rfl) rfl (q_index_own rfl rfl rfl sl22 g27.1 g27.2) ?_
      refine SOps.e rfl (.plain rfl) (e_storeL n_26 rfl rfl rfl rfl rfl (toNat_lt g27) ty3 rfl rfl rfl rfl rfl rfl) ?_
      refine SOps.sub (st' := ⟨[(0, .c (.ptr 0 0)), (1, .c (.int .i64 a1_d)), (9, .c (.own 1 a0_v_x.length)), (10, .c (.int .i64 (((a0_v_x).length : Int)))), (11, .c (.int .i64 t11_11))], [.box [.vec a0_v_caps.length 1 (gL (cInt .i64) 0 a0_v_caps), .fn 4 1 (cellsG [.eptr 1 ((cInt .i64) a0f0) 0]), .own 1 a0_v_x.length, .own 2 a0_v_active.length, .own 3 (o3_12.set t11_11.toNat n_26).length], .arr 3 1 a0_v_x.length (gL (cInt .i64) 0 a0_v_x), .arr 4 1 a0_v_active.length (gL cBool false a0_v_active), .arr 3 1 (o3_12.set t11_11.toNat n_26).length (gL (cInt .i64) 0 (o3_12.set t11_11.toNat n_26))]⟩) (sub_gen [0, 1, 2, 3] rfl rfl ⟨zc rfl rfl, zc rfl rfl, zc rfl rfl, zc rfl rfl, zc rfl rfl, trivial⟩ ⟨⟨_, rfl, ⟨ii rfl rfl, ii rfl rfl, ii rfl rfl, ii rfl rfl, .inl ⟨rfl, congrArg (Cell.own 3) (List.length_set : (o3_12.set t11_11.toNat n_26).length = o3_12.length).symm⟩, trivial⟩⟩, oa rfl, oa rfl, oa rfl, trivial⟩) ?_
      refine SOps.nil ?_
      refine SCode.region (show SOps _ _ _ [0, 1] _ _ from ?_)
      refine SOps.q rfl (.plain rfl) rfl (q_add rfl rfl rfl) ?_
      refine SOps.q rfl (.plain rfl) rfl (q_move rfl rfl) ?_
      refine SOps.sub (st' := ⟨[(0, .c (.ptr 0 0)), (1, .c (.int .i64 a1_d)), (9, .c (.own 1 a0_v_x.length)), (10, .c (.int .i64 (((a0_v_x).length : Int)))), (11, .c (.int .i64 (IntKind.wrap .i64 (t11_11 + 1))))], [.box [.vec a0_v_caps.length 1 (gL (cInt .i64) 0 a0_v_caps), .fn 4 1 (cellsG [.eptr 1 ((cInt .i64) a0f0) 0]), .own 1 a0_v_x.length, .own 2 a0_v_active.length, .own 3 (o3_12.set t11_11.toNat n_26).length], .arr 3 1 a0_v_x.length (gL (cInt .i64) 0 a0_v_x), .arr 4 1 a0_v_active.length (gL cBool false a0_v_active), .arr 3 1 (o3_12.set t11_11.toNat n_26).length (gL (cInt .i64) 0 (o3_12.set t11_11.toNat n_26))]⟩) (sub_gen [0, 1, 2, 3] rfl rfl ⟨zc rfl rfl, zc rfl rfl, zc rfl rfl, zc rfl rfl, zc rfl rfl, trivial⟩ ⟨⟨_, rfl, ⟨ii rfl rfl, ii rfl rfl, ii rfl rfl, ii rfl rfl, ii rfl rfl, trivial⟩⟩, oa rfl, oa rfl, oa rfl, trivial⟩) ?_
      refine SOps.nil ?_
      exact ⟨(n_23, (IntKind.wrap .i64 (t11_11 + 1), o3_12.set t11_11.toNat n_26)), h, Nat.lt_succ_self n_23, sub_gen [0, 1, 2, 3] rfl rfl ⟨zc rfl rfl, zc rfl rfl, zc rfl rfl, zc rfl rfl, zc rfl rfl, trivial⟩ ⟨⟨_, rfl, ⟨ii rfl rfl, ii rfl rfl, ii rfl rfl, ii rfl rfl, ii rfl rfl, trivial⟩⟩, oa rfl, oa rfl, oa rfl, trivial⟩⟩
    refine SCode.cond_f rfl g24 ?_
    refine SCode.exit ?_
    obtain rfl := Option.some.inj h
    exact ⟨⟨[], [.box [.vec a0_v_caps.length 1 (gL (cInt .i64) 0 a0_v_caps), .fn 4 1 (cellsG [.eptr 1 ((cInt .i64) a0f0) 0]), .own 1 a0_v_x.length, .own 2 a0_v_active.length, .own 3 o3_12.length], .arr 3 1 a0_v_x.length (gL (cInt .i64) 0 a0_v_x), .arr 4 1 a0_v_active.length (gL cBool false a0_v_active), .arr 3 1 o3_12.length (gL (cInt .i64) 0 o3_12)]⟩, _, sub_gen [0, 1, 2, 3] rfl rfl trivial ⟨⟨_, rfl, ⟨ii rfl rfl, ii rfl rfl, ii rfl rfl, ii rfl rfl, ii rfl rfl, trivial⟩⟩, oa rfl, oa rfl, oa rfl, trivial⟩, resA0 rfl, ⟨rfl, rfl⟩⟩
set_option maxRecDepth 100000 in
set_option maxHeartbeats 8000000 in
theorem fair_division_raisable_f0_p4_ok (F : Nat) (a0_v_caps : List Int) (a0f0 : Int) (a0_v_x : List Int) (a0_v_active : List Bool) (a0_v_trial : List Int) (a1_d : Int) (r : Bool × (List Int)) (h : fair_division_raisable_f0_p4 F a0_v_caps a0f0 a0_v_x a0_v_active a0_v_trial a1_d = some r) :
    SFun Try.prog 22 [.box [.vec a0_v_caps.length 1 (gL (cInt .i64) 0 a0_v_caps), .fn 4 1 (cellsG [.eptr 1 ((cInt .i64) a0f0) 0]), .own 1 a0_v_x.length, .own 2 a0_v_active.length, .own 3 a0_v_trial.length], .arr 3 1 a0_v_x.length (gL (cInt .i64) 0 a0_v_x), .arr 4 1 a0_v_active.length (gL cBool false a0_v_active), .arr 3 1 a0_v_trial.length (gL (cInt .i64) 0 a0_v_trial)] [.c (.ptr 0 0), .c (.int .i64 a1_d)] (fun x os => x = .c (.bool r.1) ∧ os = [.box [.vec a0_v_caps.length 1 (gL (cInt .i64) 0 a0_v_caps), .fn 4 1 (cellsG [.eptr 1 ((cInt .i64) a0f0) 0]), .own 1 a0_v_x.length, .own 2 a0_v_active.length, .own 3 r.2.length], .arr 3 1 a0_v_x.length (gL (cInt .i64) 0 a0_v_x), .arr 4 1 a0_v_active.length (gL cBool false a0_v_active), .arr 3 1 r.2.length (gL (cInt .i64) 0 r.2)]) := by
  refine SFun.of (n := 17) Try.func22 rfl rfl rfl ?_
  unfold fair_division_raisable_f0_p4 at h
  show SCode _ _ _ ⟨[(0, .c (.ptr 0 0)), (1, .c (.int .i64 a1_d))], [.box [.vec a0_v_caps.length 1 (gL (cInt .i64) 0 a0_v_caps), .fn 4 1 (cellsG [.eptr 1 ((cInt .i64) a0f0) 0]), .own 1 a0_v_x.length, .own 2 a0_v_active.length, .own 3 a0_v_trial.length], .arr 3 1 a0_v_x.length (gL (cInt .i64) 0 a0_v_x), .arr 4 1 a0_v_active.length (gL cBool false a0_v_active), .arr 3 1 a0_v_trial.length (gL (cInt .i64) 0 a0_v_trial)]⟩ _
  refine SCode.seq ?_
  refine SCode.region (show SOps _ _ _ [0] _ _ from ?_)
  refine SOps.q rfl (.plain rfl) rfl (q_assign rfl rfl) ?_
  refine SOps.sub (st' := ⟨[(0, .c (.ptr 0 0)), (1, .c (.int .i64 a1_d))], [.box [.vec a0_v_caps.length 1 (gL (cInt .i64) 0 a0_v_caps), .fn 4 1 (cellsG [.eptr 1 ((cInt .i64) a0f0) 0]), .own 1 a0_v_x.length, .own 2 a0_v_active.length, .own 3 a0_v_trial.length], .arr 3 1 a0_v_x.length (gL (cInt .i64) 0 a0_v_x), .arr 4 1 a0_v_active.length (gL cBool false a0_v_active), .arr 3 1 a0_v_trial.length (gL (cInt .i64) 0 a0_v_trial)]⟩) (sub_gen [0, 1, 2, 3] rfl rfl ⟨zc rfl rfl, zc rfl rfl, trivial⟩ ⟨⟨_, rfl, ⟨ii rfl rfl, ii rfl rfl, ii rfl rfl, ii rfl rfl, ii rfl rfl, trivial⟩⟩, oa rfl, oa rfl, oa rfl, trivial⟩) ?_
  refine SOps.nil ?_
  refine SCode.seq ?_
  obtain ⟨c_1, g2, h⟩ := bind_out h
  try dsimp only at h
  refine SCode.region (show SOps _ _ _ [0, 1, 2] _ _ from ?_)
  refine SOps.q rfl (.plain rfl) rfl (q_move rfl rfl) ?_
  refine SOps.q rfl (.plain rfl) rfl (q_move rfl rfl) ?_
  refine SOps.e rfl (.plain rfl) (e_call (fair_division_raise_f0_p4_ok F a0_v_caps a0f0 a0_v_x a0_v_active a0_v_trial a1_d c_1 g2) [0, 1, 2, 3] rfl fn23 rfl rfl rfl rfl rfl rfl rfl rfl) ?_
  refine SOps.sub (st' := ⟨[(0, .c (.ptr 0 0))], [.box [.vec a0_v_caps.length 1 (gL (cInt .i64) 0 a0_v_caps), .fn 4 1 (cellsG [.eptr 1 ((cInt .i64) a0f0) 0]), .own 1 a0_v_x.length, .own 2 a0_v_active.length, .own 3 c_1.length], .arr 3 1 a0_v_x.length (gL (cInt .i64) 0 a0_v_x), .arr 4 1 a0_v_active.length (gL cBool false a0_v_active), .arr 3 1 c_1.length (gL (cInt .i64) 0 c_1)]⟩) (sub_gen [0, 1, 2, 3] rfl rfl ⟨zc rfl rfl, trivial⟩ ⟨⟨_, rfl, ⟨ii rfl rfl, ii rfl rfl, ii rfl rfl, ii rfl rfl, ii rfl rfl, trivial⟩⟩, oa rfl, oa rfl, oa rfl, trivial⟩) ?_
  refine SOps.nil ?_
  refine SCode.seq ?_
  obtain ⟨c_3, g4, h⟩ := bind_out h
  try dsimp only at h
  refine SCode.draw (s' := [(4, .c (.bool c_3)), (16, .c (.bool c_3)), (15, .c (.own 3 c_1.length)), (14, .c (.ptr 0 4)), (13, .c (.ptr 0 0)), (12, .c (.ptr 0 0)), (11, .c (.fn 4 1 (cellsG [.eptr 1 ((cInt .i64) a0f0) 0]))), (10, .c (.ptr 0 1)), (9, .c (.ptr 0 0)), (8, .c (.ptr 0 0)), (0, .c (.ptr 0 0))]) mixed [[], [0], [0, 1], [0, 1, 2], [], [4], [4, 5], [4, 5, 6], [0, 1, 2, 3, 4, 5, 6, 7], [0, 1, 2, 3, 4, 5, 6, 7, 8]] 10 0 rfl rfl ?_ ?_
  · refine QChain.run rfl (.plain rfl) rfl (q_move rfl rfl) ?_
    refine QChain.run rfl (.plain rfl) rfl (q_nilCheck rfl rfl rfl) ?_
    refine QChain.run rfl (.plain rfl) rfl (q_field_ptr rfl rfl fd49_1) ?_
    refine QChain.run rfl (.plain rfl) rfl (q_load_ptr rfl rfl rfl rfl ty31) ?_
    refine QChain.run rfl (.plain rfl) rfl (q_move rfl rfl) ?_
    refine QChain.run rfl (.plain rfl) rfl (q_nilCheck rfl rfl rfl) ?_
    refine QChain.run rfl (.plain rfl) rfl (q_field_ptr rfl rfl fd49_4) ?_
    refine QChain.run rfl (.plain rfl) rfl (q_load_ptr rfl rfl rfl rfl ty22) ?_
    refine QChain.run rfl (.plain rfl) rfl (q_callv (cs := [.eptr 1 ((cInt .i64) a0f0) 0]) (chargenettop_FlowsShare_1_ok F c_1 a0f0 c_3 g4) [3] rfl rfl fn4 ⟨⟨_, rfl, .inr (.inl ⟨_, _, _, _, _, _, _, rfl, rfl, rfl, Nat.le_refl _, fun _ _ _ _ => rfl, by decide⟩)⟩, ⟨_, rfl, .inl ⟨rfl, rfl⟩⟩, trivial⟩ (.inr rfl)) ?_
    refine QChain.run rfl (.plain rfl) rfl (q_assign rfl rfl) ?_
    exact QChain.nil _ _
  refine (show SOps _ _ _ [] _ _ from ?_)
  refine SOps.sub (st' := ⟨[(4, .c (.bool c_3))], [.box [.vec a0_v_caps.length 1 (gL (cInt .i64) 0 a0_v_caps), .fn 4 1 (cellsG [.eptr 1 ((cInt .i64) a0f0) 0]), .own 1 a0_v_x.length, .own 2 a0_v_active.length, .own 3 c_1.length], .arr 3 1 a0_v_x.length (gL (cInt .i64) 0 a0_v_x), .arr 4 1 a0_v_active.length (gL cBool false a0_v_active), .arr 3 1 c_1.length (gL (cInt .i64) 0 c_1)]⟩) (sub_gen [0, 1, 2, 3] rfl rfl ⟨zc rfl rfl, trivial⟩ ⟨⟨_, rfl, ⟨ii rfl rfl, ii rfl rfl, ii rfl rfl, ii rfl rfl, ii rfl rfl, trivial⟩⟩, oa rfl, oa rfl, oa rfl, trivial⟩) ?_
  refine SOps.nil ?_
  refine SCode.ret ?_
  obtain rfl := Option.some.inj h
  exact ⟨⟨[(4, .c (.bool c_3))], [.box [.vec a0_v_caps.length 1 (gL (cInt .i64) 0 a0_v_caps), .fn 4 1 (cellsG [.eptr 1 ((cInt .i64) a0f0) 0]), .own 1 a0_v_x.length, .own 2 a0_v_active.length, .own 3 c_1.length], .arr 3 1 a0_v_x.length (gL (cInt .i64) 0 a0_v_x), .arr 4 1 a0_v_active.length (gL cBool false a0_v_active), .arr 3 1 c_1.length (gL (cInt .i64) 0 c_1)]⟩, _, sub_gen [0, 1, 2, 3] rfl rfl ⟨zc rfl rfl, trivial⟩ ⟨⟨_, rfl, ⟨ii rfl rfl, ii rfl rfl, ii rfl rfl, ii rfl rfl, ii rfl rfl, trivial⟩⟩, oa rfl, oa rfl, oa rfl, trivial⟩, resA1 (v := .c (.bool c_3)) rfl rfl, ⟨rfl, rfl⟩⟩
set_option maxRecDepth 100000 in
set_option maxHeartbeats 8000000 in
theorem fair_division_together_f0_p4_ok (F : Nat) (a0_v_caps : List Int) (a0f0 : Int) (a0_v_x : List Int) (a0_v_active : List Bool) (a0_v_trial : List Int) (r : (List Int) × (List Int)) (h : fair_division_together_f0_p4 F a0_v_caps a0f0 a0_v_x a0_v_active a0_v_trial = some r) :
    SFun Try.prog 13 [.box [.vec a0_v_caps.length 1 (gL (cInt .i64) 0 a0_v_caps), .fn 4 1 (cellsG [.eptr 1 ((cInt .i64) a0f0) 0]), .own 1 a0_v_x.length, .own 2 a0_v_active.length, .own 3 a0_v_trial.length], .arr 3 1 a0_v_x.length (gL (cInt .i64) 0 a0_v_x), .arr 4 1 a0_v_active.length (gL cBool false a0_v_active), .arr 3 1 a0_v_trial.length (gL (cInt .i64) 0 a0_v_trial)] [.c (.ptr 0 0)] (fun x os => x = .t [] ∧ os = [.box [.vec a0_v_caps.length 1 (gL (cInt .i64) 0 a0_v_caps), .fn 4 1 (cellsG [.eptr 1 ((cInt .i64) a0f0) 0]), .own 1 r.1.length, .own 2 a0_v_active.length, .own 3 r.2.length], .arr 3 1 r.1.length (gL (cInt .i64) 0 r.1), .arr 4 1 a0_v_active.length (gL cBool false a0_v_active), .arr 3 1 r.2.length (gL (cInt .i64) 0 r.2)]) := by
  refine SFun.of (n := 74) Try.func13 rfl rfl rfl ?_
  unfold fair_division_together_f0_p4 at h
  show SCode _ _ _ ⟨[(0, .c (.ptr 0 0))], [.box [.vec a0_v_caps.length 1 (gL (cInt .i64) 0 a0_v_caps), .fn 4 1 (cellsG [.eptr 1 ((cInt .i64) a0f0) 0]), .own 1 a0_v_x.length, .own 2 a0_v_active.length, .own 3 a0_v_trial.length], .arr 3 1 a0_v_x.length (gL (cInt .i64) 0 a0_v_x), .arr 4 1 a0_v_active.length (gL cBool false a0_v_active), .arr 3 1 a0_v_trial.length (gL (cInt .i64) 0 a0_v_trial)]⟩ _
  refine SCode.seq ?_
  refine SCode.region (show SOps _ _ _ [0] _ _ from ?_)
  refine SOps.q rfl (.plain rfl) rfl (q_assign rfl rfl) ?_
  refine SOps.sub (st' := ⟨[(0, .c (.ptr 0 0)), (2, .c (.int .i64 0))], [.box [.vec a0_v_caps.length 1 (gL (cInt .i64) 0 a0_v_caps), .fn 4 1 (cellsG [.eptr 1 ((cInt .i64) a0f0) 0]), .own 1 a0_v_x.length, .own 2 a0_v_active.length, .own 3 a0_v_trial.length], .arr 3 1 a0_v_x.length (gL (cInt .i64) 0 a0_v_x), .arr 4 1 a0_v_active.length (gL cBool false a0_v_active), .arr 3 1 a0_v_trial.length (gL (cInt .i64) 0 a0_v_trial)]⟩) (sub_gen [0, 1, 2, 3] rfl rfl ⟨zc rfl rfl, zc rfl rfl, trivial⟩ ⟨⟨_, rfl, ⟨ii rfl rfl, ii rfl rfl, ii rfl rfl, ii rfl rfl, ii rfl rfl, trivial⟩⟩, oa rfl, oa rfl, oa rfl, trivial⟩) ?_
  refine SOps.nil ?_
  refine SCode.join (σ := Int) (S := fun s => ⟨[(0, .c (.ptr 0 0)), (2, .c (.int .i64 s))], [.box [.vec a0_v_caps.length 1 (gL (cInt .i64) 0 a0_v_caps), .fn 4 1 (cellsG [.eptr 1 ((cInt .i64) a0f0) 0]), .own 1 a0_v_x.length, .own 2 a0_v_active.length, .own 3 a0_v_trial.length], .arr 3 1 a0_v_x.length (gL (cInt .i64) 0 a0_v_x), .arr 4 1 a0_v_active.length (gL cBool false a0_v_active), .arr 3 1 a0_v_trial.length (gL (cInt .i64) 0 a0_v_trial)]⟩) (g := fun s => fair_division_together_f0_p4_p32 F a0_v_caps a0f0 a0_v_x a0_v_active a0_v_trial s = some r) ?_ ?_
  rotate_left
  · refine SCode.seq ?_
    refine SCode.region (show SOps _ _ _ [0, 1, 2, 3, 4, 5] _ _ from ?_)
    refine SOps.q rfl (.plain rfl) rfl (q_move rfl rfl) ?_
    refine SOps.q rfl (.plain rfl) rfl (q_nilCheck rfl rfl rfl) ?_
    refine SOps.q rfl (.plain rfl) rfl (q_field_ptr rfl rfl fd49_2) ?_
    refine SOps.q rfl (.plain rfl) rfl (q_load_ptr rfl rfl rfl rfl ty22) ?_
    refine SOps.q rfl (.plain rfl) rfl (q_len_own rfl rfl sl22) ?_
    refine SOps.q rfl (.plain rfl) rfl (q_move rfl rfl) ?_
    refine SOps.sub (st' := ⟨[(0, .c (.ptr 0 0)), (2, .c (.int .i64 0)), (11, .c (.own 1 a0_v_x.length)), (12, .c (.int .i64 (((a0_v_x).length : Int)))), (13, .c (.int .i64 0))], [.box [.vec a0_v_caps.length 1 (gL (cInt .i64) 0 a0_v_caps), .fn 4 1 (cellsG [.eptr 1 ((cInt .i64) a0f0) 0]), .own 1 a0_v_x.length, .own 2 a0_v_active.length, .own 3 a0_v_trial.length], .arr 3 1 a0_v_x.length (gL (cInt .i64) 0 a0_v_x), .arr 4 1 a0_v_active.length (gL cBool false a0_v_active), .arr 3 1 a0_v_trial.length (gL (cInt .i64) 0 a0_v_trial)]⟩) (sub_gen [0, 1, 2, 3] rfl rfl ⟨zc rfl rfl, zc rfl rfl, zc rfl rfl, zc rfl rfl, zc rfl rfl, trivial⟩ ⟨⟨_, rfl, ⟨ii rfl rfl, ii rfl rfl, ii rfl rfl, ii rfl rfl, ii rfl rfl, trivial⟩⟩, oa rfl, oa rfl, oa rfl, trivial⟩) ?_
    refine SOps.nil ?_
    refine SCode.block ?_
    refine SCode.sub (st' := ⟨[(0, .c (.ptr 0 0)), (2, .c (.int .i64 0)), (11, .c (.own 1 a0_v_x.length)), (12, .c (.int .i64 (((a0_v_x).length : Int)))), (13, .c (.int .i64 0))], [.box [.vec a0_v_caps.length 1 (gL (cInt .i64) 0 a0_v_caps), .fn 4 1 (cellsG [.eptr 1 ((cInt .i64) a0f0) 0]), .own 1 a0_v_x.length, .own 2 a0_v_active.length, .own 3 a0_v_trial.length], .arr 3 1 a0_v_x.length (gL (cInt .i64) 0 a0_v_x), .arr 4 1 a0_v_active.length (gL cBool false a0_v_active), .arr 3 1 a0_v_trial.length (gL (cInt .i64) 0 a0_v_trial)]⟩) (sub_gen [0, 1, 2, 3] rfl rfl ⟨zc rfl rfl, zc rfl rfl, zc rfl rfl, zc rfl rfl, zc rfl rfl, trivial⟩ ⟨⟨_, rfl, ⟨ii rfl rfl, ii rfl rfl, ii rfl rfl, ii rfl rfl, ii rfl rfl, trivial⟩⟩, oa rfl, oa rfl, oa rfl, trivial⟩) ?_
    refine (SCode.loop (σ := Nat × (Int × Int)) (S := fun s => ⟨[(0, .c (.ptr 0 0)), (2, .c (.int .i64 s.2.1)), (11, .c (.own 1 a0_v_x.length)), (12, .c (.int .i64 (((a0_v_x).length : Int)))), (13, .c (.int .i64 s.2.2))], [.box [.vec a0_v_caps.length 1 (gL (cInt .i64) 0 a0_v_caps), .fn 4 1 (cellsG [.eptr 1 ((cInt .i64) a0f0) 0]), .own 1 a0_v_x.length, .own 2 a0_v_active.length, .own 3 a0_v_trial.length], .arr 3 1 a0_v_x.length (gL (cInt .i64) 0 a0_v_x), .arr 4 1 a0_v_active.length (gL cBool false a0_v_active), .arr 3 1 a0_v_trial.length (gL (cInt .i64) 0 a0_v_trial)]⟩) (g := fun s => fair_division_together_f0_p4_l49 F a0_v_caps a0f0 a0_v_x a0_v_active a0_v_trial s.1 s.2.1 s.2.2 = some r) (μ := fun s => s.1) (F, (0, 0)) h ?_)
    rintro ⟨n_49, ⟨most_40, t13_41⟩⟩ h
    replace h : fair_division_together_f0_p4_l49 F a0_v_caps a0f0 a0_v_x a0_v_active a0_v_trial n_49 most_40 t13_41 = some r := h
    show SCode _ _ _ ⟨[(0, .c (.ptr 0 0)), (2, .c (.int .i64 most_40)), (11, .c (.own 1 a0_v_x.length)), (12, .c (.int .i64 (((a0_v_x).length : Int)))), (13, .c (.int .i64 t13_41))], [.box [.vec a0_v_caps.length 1 (gL (cInt .i64) 0 a0_v_caps), .fn 4 1 (cellsG [.eptr 1 ((cInt .i64) a0f0) 0]), .own 1 a0_v_x.length, .own 2 a0_v_active.length, .own 3 a0_v_trial.length], .arr 3 1 a0_v_x.length (gL (cInt .i64) 0 a0_v_x), .arr 4 1 a0_v_active.length (gL cBool false a0_v_active), .arr 3 1 a0_v_trial.length (gL (cInt .i64) 0 a0_v_trial)]⟩ _
    cases n_49 with
    | zero => cases h
    | succ n_49 =>
      replace h : fair_division_together_f0_p4_b49 F a0_v_caps a0f0 a0_v_x a0_v_active a0_v_trial (fun most_40 t13_41 => fair_division_together_f0_p4_l49 F a0_v_caps a0f0 a0_v_x a0_v_active a0_v_trial n_49 most_40 t13_41) most_40 t13_41 = some r := h
      unfold fair_division_together_f0_p4_b49 at h
      refine SCode.seq ?_
      refine SCode.region (show SOps _ _ _ [0] _ _ from ?_)
      refine SOps.q rfl (.plain rfl) rfl (q_lss rfl rfl rfl) ?_
      refine SOps.sub (st' := ⟨[(0, .c (.ptr 0 0)), (2, .c (.int .i64 most_40)), (11, .c (.own 1 a0_v_x.length)), (12, .c (.int .i64 (((a0_v_x).length : Int)))), (13, .c (.int .i64 t13_41)), (14, .c (.bool (decide (t13_41 < ((a0_v_x).length : Int)))))], [.box [.vec a0_v_caps.length 1 (gL (cInt .i64) 0 a0_v_caps), .fn 4 1 (cellsG [.eptr 1 ((cInt .i64) a0f0) 0]), .own 1 a0_v_x.length, .own 2 a0_v_active.length, .own 3 a0_v_trial.length], .arr 3 1 a0_v_x.length (gL (cInt .i64) 0 a0_v_x), .arr 4 1 a0_v_active.length (gL cBool false a0_v_active), .arr 3 1 a0_v_trial.length (gL (cInt .i64) 0 a0_v_trial)]⟩) (sub_gen [0, 1, 2, 3] rfl rfl ⟨zc rfl rfl, zc rfl rfl, zc rfl rfl, zc rfl rfl, zc rfl rfl, zc rfl rfl, trivial⟩ ⟨⟨_, rfl, ⟨ii rfl rfl, ii rfl rfl, ii rfl rfl, ii rfl rfl, ii rfl rfl, trivial⟩⟩, oa rfl, oa rfl, oa rfl, trivial⟩) ?_
      refine SOps.nil ?_
      refine SCode.seq ?_
      rcases cond_out h with ⟨g50, h⟩ | ⟨g50, h⟩
      · refine SCode.cond_t rfl g50 ?_
        refine SCode.skip ?_
        refine SCode.join (σ := Int) (S := fun s => ⟨[(0, .c (.ptr 0 0)), (2, .c (.int .i64 s)), (11, .c (.own 1 a0_v_x.length)), (12, .c (.int .i64 (((a0_v_x).length : Int)))), (13, .c (.int .i64 t13_41))], [.box [.vec a0_v_caps.length 1 (gL (cInt .i64) 0 a0_v_caps), .fn 4 1 (cellsG [.eptr 1 ((cInt .i64) a0f0) 0]), .own 1 a0_v_x.length, .own 2 a0_v_active.length, .own 3 a0_v_trial.length], .arr 3 1 a0_v_x.length (gL (cInt .i64) 0 a0_v_x), .arr 4 1 a0_v_active.length (gL cBool false a0_v_active), .arr 3 1 a0_v_trial.length (gL (cInt .i64) 0 a0_v_trial)]⟩) (g := fun s => fair_division_together_f0_p4_p52 t13_41 (fun most_40 t13_41 => fair_division_together_f0_p4_l49 F a0_v_caps a0f0 a0_v_x a0_v_active a0_v_trial n_49 most_40 t13_41) s = some r) ?_ ?_
        rotate_left
        · refine SCode.block ?_
          refine SCode.seq ?_
          obtain ⟨g53, h⟩ := guard_out h
          refine SCode.region (show SOps _ _ _ [0, 1, 2, 3, 4] _ _ from ?_)
          refine SOps.q rfl (.plain rfl) rfl (q_move rfl rfl) ?_
          refine SOps.q rfl (.plain rfl) rfl (q_index_own rfl rfl rfl sl22 g53.1 g53.2) ?_
          refine SOps.q rfl (.plain rfl) rfl (q_load_aptr rfl rfl rfl (toNat_lt g53) rfl ty3) ?_
          refine SOps.q rfl (.plain rfl) rfl (q_assign rfl rfl) ?_
          refine SOps.q rfl (.plain rfl) rfl (q_assign rfl rfl) ?_
          refine SOps.sub (st' := ⟨[(0, .c (.ptr 0 0)), (2, .c (.int .i64 most_40)), (3, .c (.int .i64 t13_41)), (4, .c (.int .i64 (a0_v_x.getD t13_41.toNat 0))), (11, .c (.own 1 a0_v_x.length)), (12, .c (.int .i64 (((a0_v_x).length : Int)))), (13, .c (.int .i64 t13_41))], [.box [.vec a0_v_caps.length 1 (gL (cInt .i64) 0 a0_v_caps), .fn 4 1 (cellsG [.eptr 1 ((cInt .i64) a0f0) 0]), .own 1 a0_v_x.length, .own 2 a0_v_active.length, .own 3 a0_v_trial.length], .arr 3 1 a0_v_x.length (gL (cInt .i64) 0 a0_v_x), .arr 4 1 a0_v_active.length (gL cBool false a0_v_active), .arr 3 1 a0_v_trial.length (gL (cInt .i64) 0 a0_v_trial)]⟩) (sub_gen [0, 1, 2, 3] rfl rfl ⟨zc rfl rfl, zc rfl rfl, zc rfl rfl, zc rfl rfl, zc rfl rfl, zc rfl rfl, zc rfl rfl, trivial⟩ ⟨⟨_, rfl, ⟨ii rfl rfl, ii rfl rfl, ii rfl rfl, ii rfl rfl, ii rfl rfl, trivial⟩⟩, oa rfl, oa rfl, oa rfl, trivial⟩) ?_
          refine SOps.nil ?_
          refine SCode.seq ?_
          obtain ⟨g54, h⟩ := guard_out h
          refine SCode.region (show SOps _ _ _ [0, 1, 2, 3, 4, 5, 6] _ _ from ?_)
          refine SOps.q rfl (.plain rfl) rfl (q_move rfl rfl) ?_
          refine SOps.q rfl (.plain rfl) rfl (q_nilCheck rfl rfl rfl) ?_
          refine SOps.q rfl (.plain rfl) rfl (q_field_ptr rfl rfl fd49_3) ?_
          refine SOps.q rfl (.plain rfl) rfl (q_load_ptr rfl rfl rfl rfl ty47) ?_
          refine SOps.q rfl (.plain rfl) rfl (q_move rfl rfl) ?_
          refine SOps.q rfl (.plain rfl) rfl (q_index_own rfl rfl rfl sl47 g54.1 g54.2) ?_
          refine SOps.q rfl (.plain rfl) rfl (q_load_aptr rfl rfl rfl (toNat_lt g54) rfl ty4) ?_
          refine SOps.sub (st' := ⟨[(0, .c (.ptr 0 0)), (2, .c (.int .i64 most_40)), (3, .c (.int .i64 t13_41)), (4, .c (.int .i64 (a0_v_x.getD t13_41.toNat 0))), (11, .c (.own 1 a0_v_x.length)), (12, .c (.int .i64 (((a0_v_x).length : Int)))), (13, .c (.int .i64 t13_41)), (24, .c (.bool (a0_v_active.getD t13_41.toNat false)))], [.box [.vec a0_v_caps.length 1 (gL (cInt .i64) 0 a0_v_caps), .fn 4 1 (cellsG [.eptr 1 ((cInt .i64) a0f0) 0]), .own 1 a0_v_x.length, .own 2 a0_v_active.length, .own 3 a0_v_trial.length], .arr 3 1 a0_v_x.length (gL (cInt .i64) 0 a0_v_x), .arr 4 1 a0_v_active.length (gL cBool false a0_v_active), .arr 3 1 a0_v_trial.length (gL (cInt .i64) 0 a0_v_trial)]⟩) (sub_gen [0, 1, 2, 3] rfl rfl ⟨zc rfl rfl, zc rfl rfl, zc rfl rfl, zc rfl rfl, zc rfl rfl, zc rfl rfl, zc rfl rfl, zc rfl rfl, trivial⟩ ⟨⟨_, rfl, ⟨ii rfl rfl, ii rfl rfl, ii rfl rfl, ii rfl rfl, ii rfl rfl, trivial⟩⟩, oa rfl, oa rfl, oa rfl, trivial⟩) ?_
          refine SOps.nil ?_
          rcases cond_out h with ⟨g55, h⟩ | ⟨g55, h⟩
          · refine SCode.cond_t rfl g55 ?_
            obtain ⟨g56, h⟩ := guard_out h
            refine SCode.region (show SOps _ _ _ [0, 1, 2, 3, 4, 5, 6, 7, 8, 9, 10, 11] _ _ from ?_)
            refine SOps.q rfl (.plain rfl) rfl (q_move rfl rfl) ?_
            refine SOps.q rfl (.plain rfl) rfl (q_move rfl rfl) ?_
            refine SOps.q rfl (.plain rfl) rfl (q_nilCheck rfl rfl rfl) ?_
            refine SOps.q rfl (.plain rfl) rfl (q_field_ptr rfl rfl fd49_0) ?_
            refine SOps.q rfl (.plain rfl) rfl (q_load_ptr rfl rfl rfl rfl ty22) ?_
            refine SOps.q rfl (.plain rfl) rfl (q_move rfl rfl) ?_
            refine SOps.q rfl (.plain rfl) rfl (q_index_vec rfl rfl rfl sl22 rfl g56.1 g56.2) ?_
            refine SOps.q rfl (.plain rfl) rfl (q_load_eptr rfl rfl ty3) ?_
            refine SOps.q rfl (.plain rfl) rfl (q_move rfl rfl) ?_
            refine SOps.q rfl (.plain rfl) rfl (q_sub rfl rfl rfl) ?_
            refine SOps.q rfl (.plain rfl) rfl (q_max rfl rfl rfl) ?_
            refine SOps.q rfl (.plain rfl) rfl (q_assign rfl rfl) ?_
            refine SOps.sub (st' := ⟨[(0, .c (.ptr 0 0)), (2, .c (.int .i64 ((if most_40 < IntKind.wrap .i64 (a0_v_caps.getD t13_41.toNat 0 - a0_v_x.getD t13_41.toNat 0) then IntKind.wrap .i64 (a0_v_caps.getD t13_41.toNat 0 - a0_v_x.getD t13_41.toNat 0) else most_40)))), (11, .c (.own 1 a0_v_x.length)), (12, .c (.int .i64 (((a0_v_x).length : Int)))), (13, .c (.int .i64 t13_41))], [.box [.vec a0_v_caps.length 1 (gL (cInt .i64) 0 a0_v_caps), .fn 4 1 (cellsG [.eptr 1 ((cInt .i64) a0f0) 0]), .own 1 a0_v_x.length, .own 2 a0_v_active.length, .own 3 a0_v_trial.length], .arr 3 1 a0_v_x.length (gL (cInt .i64) 0 a0_v_x), .arr 4 1 a0_v_active.length (gL cBool false a0_v_active), .arr 3 1 a0_v_trial.length (gL (cInt .i64) 0 a0_v_trial)]⟩) (sub_gen [0, 1, 2, 3] rfl rfl ⟨zc rfl rfl, zc rfl rfl, zc rfl rfl, zc rfl rfl, zc rfl rfl, trivial⟩ ⟨⟨_, rfl, ⟨ii rfl rfl, ii rfl rfl, ii rfl rfl, ii rfl rfl, ii rfl rfl, trivial⟩⟩, oa rfl, oa rfl, oa rfl, trivial⟩) ?_
            refine SOps.nil ?_
            exact ⟨(if most_40 < IntKind.wrap .i64 (a0_v_caps.getD t13_41.toNat 0 - a0_v_x.getD t13_41.toNat 0) then IntKind.wrap .i64 (a0_v_caps.getD t13_41.toNat 0 - a0_v_x.getD t13_41.toNat 0) else most_40), h, sub_gen [0, 1, 2, 3] rfl rfl ⟨zc rfl rfl, zc rfl rfl, zc rfl rfl, zc rfl rfl, zc rfl rfl, trivial⟩ ⟨⟨_, rfl, ⟨ii rfl rfl, ii rfl rfl, ii rfl rfl, ii rfl rfl, ii rfl rfl, trivial⟩⟩, oa rfl, oa rfl, oa rfl, trivial⟩⟩
          refine SCode.cond_f rfl g55 ?_
          refine SCode.skip ?_
          exact ⟨most_40, h, sub_gen [0, 1, 2, 3] rfl rfl ⟨zc rfl rfl, zc rfl rfl, zc rfl rfl, zc rfl rfl, zc rfl rfl, trivial⟩ ⟨⟨_, rfl, ⟨ii rfl rfl, ii rfl rfl, ii rfl rfl, ii rfl rfl, ii rfl rfl, trivial⟩⟩, oa rfl, oa rfl, oa rfl, trivial⟩⟩
        rintro most_51 h
        show SCode _ _ _ ⟨[(0, .c (.ptr 0 0)), (2, .c (.int .i64 most_51)), (11, .c (.own 1 a0_v_x.length)), (12, .c (.int .i64 (((a0_v_x).length : Int)))), (13, .c (.int .i64 t13_41))], [.box [.vec a0_v_caps.length 1 (gL (cInt .i64) 0 a0_v_caps), .fn 4 1 (cellsG [.eptr 1 ((cInt .i64) a0f0) 0]), .own 1 a0_v_x.length, .own 2 a0_v_active.length, .own 3 a0_v_trial.length], .arr 3 1 a0_v_x.length (gL (cInt .i64) 0 a0_v_x), .arr 4 1 a0_v_active.length (gL cBool false a0_v_active), .arr 3 1 a0_v_trial.length (gL (cInt .i64) 0 a0_v_trial)]⟩ _
        replace h : fair_division_together_f0_p4_p52 t13_41 (fun most_40 t13_41 => fair_division_together_f0_p4_l49 F a0_v_caps a0f0 a0_v_x a0_v_active a0_v_trial n_49 most_40 t13_41) most_51 = some r := h
        unfold fair_division_together_f0_p4_p52 at h
        refine SCode.region (show SOps _ _ _ [0, 1] _ _ from ?_)
        refine SOps.q rfl (.plain rfl) rfl (q_add rfl rfl rfl) ?_
        refine SOps.q rfl (.plain rfl) rfl (q_move rfl rfl) ?_
        refine SOps.sub (st' := ⟨[(0, .c (.ptr 0 0)), (2, .c (.int .i64 most_51)), (11, .c (.own 1 a0_v_x.length)), (12, .c (.int .i64 (((a0_v_x).length : Int)))), (13, .c (.int .i64 (IntKind.wrap .i64 (t13_41 + 1))))], [.box [.vec a0_v_caps.length 1 (gL (cInt .i64) 0 a0_v_caps), .fn 4 1 (cellsG [.eptr 1 ((cInt .i64) a0f0) 0]), .own 1 a0_v_x.length, .own 2 a0_v_active.length, .own 3 a0_v_trial.length], .arr 3 1 a0_v_x.length (gL (cInt .i64) 0 a0_v_x), .arr 4 1 a0_v_active.length (gL cBool false a0_v_active), .arr 3 1 a0_v_trial.length (gL (cInt .i64) 0 a0_v_trial)]⟩) (sub_gen [0, 1, 2, 3] rfl rfl ⟨zc rfl rfl, zc rfl rfl, zc rfl rfl, zc rfl rfl, zc rfl rfl, trivial⟩ ⟨⟨_, rfl, ⟨ii rfl rfl, ii rfl rfl, ii rfl rfl, ii rfl rfl, ii rfl rfl, trivial⟩⟩, oa rfl, oa rfl, oa rfl, trivial⟩) ?_
        refine SOps.nil ?_
        exact ⟨(n_49, (most_51, IntKind.wrap .i64 (t13_41 + 1))), h, Nat.lt_succ_self n_49, sub_gen [0, 1, 2, 3] rfl rfl ⟨zc rfl rfl, zc rfl rfl, zc rfl rfl, zc rfl rfl, zc rfl rfl, trivial⟩ ⟨⟨_, rfl, ⟨ii rfl rfl, ii rfl rfl, ii rfl rfl, ii rfl rfl, ii rfl rfl, trivial⟩⟩, oa rfl, oa rfl, oa rfl, trivial⟩⟩
      refine SCode.cond_f rfl g50 ?_
      refine SCode.exit ?_
      exact ⟨most_40, h, sub_gen [0, 1, 2, 3] rfl rfl ⟨zc rfl rfl, zc rfl rfl, trivial⟩ ⟨⟨_, rfl, ⟨ii rfl rfl, ii rfl rfl, ii rfl rfl, ii rfl rfl, ii rfl rfl, trivial⟩⟩, oa rfl, oa rfl, oa rfl, trivial⟩⟩
  rintro most_1 h
  show SCode _ _ _ ⟨[(0, .c (.ptr 0 0)), (2, .c (.int .i64 most_1))], [.box [.vec a0_v_caps.length 1 (gL (cInt .i64) 0 a0_v_caps), .fn 4 1 (cellsG [.eptr 1 ((cInt .i64) a0f0) 0]), .own 1 a0_v_x.length, .own 2 a0_v_active.length, .own 3 a0_v_trial.length], .arr 3 1 a0_v_x.length (gL (cInt .i64) 0 a0_v_x), .arr 4 1 a0_v_active.length (gL cBool false a0_v_active), .arr 3 1 a0_v_trial.length (gL (cInt .i64) 0 a0_v_trial)]⟩ _
  replace h : fair_division_together_f0_p4_p32 F a0_v_caps a0f0 a0_v_x a0_v_active a0_v_trial most_1 = some r := h
  unfold fair_division_together_f0_p4_p32 at h
  refine SCode.seq ?_
  refine SCode.region (show SOps _ _ _ [0, 1] _ _ from ?_)
  refine SOps.q rfl (.plain rfl) rfl (q_move rfl rfl) ?_
  refine SOps.q rfl (.plain rfl) rfl (q_assign rfl rfl) ?_
  refine SOps.sub (st' := ⟨[(0, .c (.ptr 0 0)), (2, .c (.int .i64 most_1)), (5, .c (.int .i64 most_1))], [.box [.vec a0_v_caps.length 1 (gL (cInt .i64) 0 a0_v_caps), .fn 4 1 (cellsG [.eptr 1 ((cInt .i64) a0f0) 0]), .own 1 a0_v_x.length, .own 2 a0_v_active.length, .own 3 a0_v_trial.length], .arr 3 1 a0_v_x.length (gL (cInt .i64) 0 a0_v_x), .arr 4 1 a0_v_active.length (gL cBool false a0_v_active), .arr 3 1 a0_v_trial.length (gL (cInt .i64) 0 a0_v_trial)]⟩) (sub_gen [0, 1, 2, 3] rfl rfl ⟨zc rfl rfl, zc rfl rfl, zc rfl rfl, trivial⟩ ⟨⟨_, rfl, ⟨ii rfl rfl, ii rfl rfl, ii rfl rfl, ii rfl rfl, ii rfl rfl, trivial⟩⟩, oa rfl, oa rfl, oa rfl, trivial⟩) ?_
  refine SOps.nil ?_
  refine SCode.join (σ := Int × (List Int)) (S := fun s => ⟨[(0, .c (.ptr 0 0)), (5, .c (.int .i64 s.1))], [.box [.vec a0_v_caps.length 1 (gL (cInt .i64) 0 a0_v_caps), .fn 4 1 (cellsG [.eptr 1 ((cInt .i64) a0f0) 0]), .own 1 a0_v_x.length, .own 2 a0_v_active.length, .own 3 s.2.length], .arr 3 1 a0_v_x.length (gL (cInt .i64) 0 a0_v_x), .arr 4 1 a0_v_active.length (gL cBool false a0_v_active), .arr 3 1 s.2.length (gL (cInt .i64) 0 s.2)]⟩) (g := fun s => fair_division_together_f0_p4_p6 F a0_v_caps a0f0 a0_v_x a0_v_active s.1 s.2 = some r) ?_ ?_
  rotate_left
  · refine SCode.join (σ := Bool × (List Int)) (S := fun s => ⟨[(0, .c (.ptr 0 0)), (2, .c (.int .i64 most_1)), (5, .c (.int .i64 most_1)), (45, .c (.bool s.1))], [.box [.vec a0_v_caps.length 1 (gL (cInt .i64) 0 a0_v_caps), .fn 4 1 (cellsG [.eptr 1 ((cInt .i64) a0f0) 0]), .own 1 a0_v_x.length, .own 2 a0_v_active.length, .own 3 s.2.length], .arr 3 1 a0_v_x.length (gL (cInt .i64) 0 a0_v_x), .arr 4 1 a0_v_active.length (gL cBool false a0_v_active), .arr 3 1 s.2.length (gL (cInt .i64) 0 s.2)]⟩) (g := fun s => fair_division_together_f0_p4_p28 F a0_v_caps a0f0 a0_v_x a0_v_active most_1 s.1 s.2 = some r) ?_ ?_
    rotate_left
    · rcases cond_out h with ⟨g29, h⟩ | ⟨g29, h⟩
      · obtain ⟨c_30, g31, h⟩ := bind_out h
        try dsimp only at h
        refine SCode.region (show SOps _ _ _ [0, 1, 2, 3, 4, 5, 6, 7] _ _ from ?_)
        refine SOps.q rfl (.plain rfl) rfl (q_move rfl rfl) ?_
        refine SOps.q rfl (.plain rfl) rfl (q_gtr rfl rfl rfl) ?_
        refine SOps.q rfl (.plain rfl) rfl (q_move rfl rfl) ?_
        refine SOps.q rfl (.guard 2 40 true rfl rfl (gT g29)) rfl (q_move rfl rfl) ?_
        refine SOps.q rfl (.guard 2 40 true rfl rfl (gT g29)) rfl (q_move rfl rfl) ?_
        refine SOps.e rfl (.guard 2 40 true rfl rfl (gT g29)) (e_call (fair_division_raisable_f0_p4_ok F a0_v_caps a0f0 a0_v_x a0_v_active a0_v_trial most_1 c_30 g31) [0, 1, 2, 3] rfl fn22 rfl rfl rfl rfl rfl rfl rfl rfl) ?_
        refine SOps.q rfl (.guard 2 40 true rfl rfl (gT g29)) rfl (q_not rfl rfl) ?_
        refine SOps.q rfl (.plain rfl) rfl (q_pick_t rfl rfl g29 rfl) ?_
        refine SOps.sub (st' := ⟨[(0, .c (.ptr 0 0)), (2, .c (.int .i64 most_1)), (5, .c (.int .i64 most_1)), (45, .c (.bool ((!c_30.1))))], [.box [.vec a0_v_caps.length 1 (gL (cInt .i64) 0 a0_v_caps), .fn 4 1 (cellsG [.eptr 1 ((cInt .i64) a0f0) 0]), .own 1 a0_v_x.length, .own 2 a0_v_active.length, .own 3 c_30.2.length], .arr 3 1 a0_v_x.length (gL (cInt .i64) 0 a0_v_x), .arr 4 1 a0_v_active.length (gL cBool false a0_v_active), .arr 3 1 c_30.2.length (gL (cInt .i64) 0 c_30.2)]⟩) (sub_gen [0, 1, 2, 3] rfl rfl ⟨zc rfl rfl, zc rfl rfl, zc rfl rfl, zc rfl rfl, trivial⟩ ⟨⟨_, rfl, ⟨ii rfl rfl, ii rfl rfl, ii rfl rfl, ii rfl rfl, ii rfl rfl, trivial⟩⟩, oa rfl, oa rfl, oa rfl, trivial⟩) ?_
        refine SOps.nil ?_
        exact ⟨((!c_30.1), c_30.2), h, sub_gen [0, 1, 2, 3] rfl rfl ⟨zc rfl rfl, zc rfl rfl, zc rfl rfl, zc rfl rfl, trivial⟩ ⟨⟨_, rfl, ⟨ii rfl rfl, ii rfl rfl, ii rfl rfl, ii rfl rfl, ii rfl rfl, trivial⟩⟩, oa rfl, oa rfl, oa rfl, trivial⟩⟩
      refine SCode.region (show SOps _ _ _ [0, 1, 2, 3, 4, 5, 6, 7] _ _ from ?_)
      refine SOps.q rfl (.plain rfl) rfl (q_move rfl rfl) ?_
      refine SOps.q rfl (.plain rfl) rfl (q_gtr rfl rfl rfl) ?_
      refine SOps.q rfl (.plain rfl) rfl (q_move rfl rfl) ?_
      refine SOps.skip rfl 2 40 true rfl rfl (.inl (gF g29)) rfl ?_
      refine SOps.skip rfl 2 40 true rfl rfl (.inl (gF g29)) rfl ?_
      refine SOps.skip rfl 2 40 true rfl rfl (.inl (gF g29)) rfl ?_
      refine SOps.skip rfl 2 40 true rfl rfl (.inl (gF g29)) rfl ?_
      refine SOps.q rfl (.plain rfl) rfl (q_pick_f rfl rfl g29 rfl) ?_
      refine SOps.sub (st' := ⟨[(0, .c (.ptr 0 0)), (2, .c (.int .i64 most_1)), (5, .c (.int .i64 most_1)), (45, .c (.bool false))], [.box [.vec a0_v_caps.length 1 (gL (cInt .i64) 0 a0_v_caps), .fn 4 1 (cellsG [.eptr 1 ((cInt .i64) a0f0) 0]), .own 1 a0_v_x.length, .own 2 a0_v_active.length, .own 3 a0_v_trial.length], .arr 3 1 a0_v_x.length (gL (cInt .i64) 0 a0_v_x), .arr 4 1 a0_v_active.length (gL cBool false a0_v_active), .arr 3 1 a0_v_trial.length (gL (cInt .i64) 0 a0_v_trial)]⟩) (sub_gen [0, 1, 2, 3] rfl rfl ⟨zc rfl rfl, zc rfl rfl, zc rfl rfl, zc rfl rfl, trivial⟩ ⟨⟨_, rfl, ⟨ii rfl rfl, ii rfl rfl, ii rfl rfl, ii rfl rfl, ii rfl rfl, trivial⟩⟩, oa rfl, oa rfl, oa rfl, trivial⟩) ?_
      refine SOps.nil ?_
      exact ⟨(false, a0_v_trial), h, sub_gen [0, 1, 2, 3] rfl rfl ⟨zc rfl rfl, zc rfl rfl, zc rfl rfl, zc rfl rfl, trivial⟩ ⟨⟨_, rfl, ⟨ii rfl rfl, ii rfl rfl, ii rfl rfl, ii rfl rfl, ii rfl rfl, trivial⟩⟩, oa rfl, oa rfl, oa rfl, trivial⟩⟩
    rintro ⟨t45_7, o3_8⟩ h
    show SCode _ _ _ ⟨[(0, .c (.ptr 0 0)), (2, .c (.int .i64 most_1)), (5, .c (.int .i64 most_1)), (45, .c (.bool t45_7))], [.box [.vec a0_v_caps.length 1 (gL (cInt .i64) 0 a0_v_caps), .fn 4 1 (cellsG [.eptr 1 ((cInt .i64) a0f0) 0]), .own 1 a0_v_x.length, .own 2 a0_v_active.length, .own 3 o3_8.length], .arr 3 1 a0_v_x.length (gL (cInt .i64) 0 a0_v_x), .arr 4 1 a0_v_active.length (gL cBool false a0_v_active), .arr 3 1 o3_8.length (gL (cInt .i64) 0 o3_8)]⟩ _
    replace h : fair_division_together_f0_p4_p28 F a0_v_caps a0f0 a0_v_x a0_v_active most_1 t45_7 o3_8 = some r := h
    unfold fair_division_together_f0_p4_p28 at h
    rcases cond_out h with ⟨g9, h⟩ | ⟨g9, h⟩
    · refine SCode.cond_t rfl g9 ?_
      refine SCode.seq ?_
      refine SCode.region (show SOps _ _ _ [0] _ _ from ?_)
      refine SOps.q rfl (.plain rfl) rfl (q_assign rfl rfl) ?_
      refine SOps.sub (st' := ⟨[(0, .c (.ptr 0 0)), (2, .c (.int .i64 most_1)), (5, .c (.int .i64 0))], [.box [.vec a0_v_caps.length 1 (gL (cInt .i64) 0 a0_v_caps), .fn 4 1 (cellsG [.eptr 1 ((cInt .i64) a0f0) 0]), .own 1 a0_v_x.length, .own 2 a0_v_active.length, .own 3 o3_8.length], .arr 3 1 a0_v_x.length (gL (cInt .i64) 0 a0_v_x), .arr 4 1 a0_v_active.length (gL cBool false a0_v_active), .arr 3 1 o3_8.length (gL (cInt .i64) 0 o3_8)]⟩) (sub_gen [0, 1, 2, 3] rfl rfl ⟨zc rfl rfl, zc rfl rfl, zc rfl rfl, trivial⟩ ⟨⟨_, rfl, ⟨ii rfl rfl, ii rfl rfl, ii rfl rfl, ii rfl rfl, ii rfl rfl, trivial⟩⟩, oa rfl, oa rfl, oa rfl, trivial⟩) ?_
      refine SOps.nil ?_
      refine SCode.seq ?_
      refine SCode.region (show SOps _ _ _ [0, 1] _ _ from ?_)
      refine SOps.q rfl (.plain rfl) rfl (q_move rfl rfl) ?_
      refine SOps.q rfl (.plain rfl) rfl (q_assign rfl rfl) ?_
      refine SOps.sub (st' := ⟨[(0, .c (.ptr 0 0)), (5, .c (.int .i64 0)), (6, .c (.int .i64 most_1))], [.box [.vec a0_v_caps.length 1 (gL (cInt .i64) 0 a0_v_caps), .fn 4 1 (cellsG [.eptr 1 ((cInt .i64) a0f0) 0]), .own 1 a0_v_x.length, .own 2 a0_v_active.length, .own 3 o3_8.length], .arr 3 1 a0_v_x.length (gL (cInt .i64) 0 a0_v_x), .arr 4 1 a0_v_active.length (gL cBool false a0_v_active), .arr 3 1 o3_8.length (gL (cInt .i64) 0 o3_8)]⟩) (sub_gen [0, 1, 2, 3] rfl rfl ⟨zc rfl rfl, zc rfl rfl, zc rfl rfl, trivial⟩ ⟨⟨_, rfl, ⟨ii rfl rfl, ii rfl rfl, ii rfl rfl, ii rfl rfl, ii rfl rfl, trivial⟩⟩, oa rfl, oa rfl, oa rfl, trivial⟩) ?_
      refine SOps.nil ?_
      refine SCode.block ?_
      refine SCode.sub (st' := ⟨[(0, .c (.ptr 0 0)), (5, .c (.int .i64 0)), (6, .c (.int .i64 most_1))], [.box [.vec a0_v_caps.length 1 (gL (cInt .i64) 0 a0_v_caps), .fn 4 1 (cellsG [.eptr 1 ((cInt .i64) a0f0) 0]), .own 1 a0_v_x.length, .own 2 a0_v_active.length, .own 3 o3_8.length], .arr 3 1 a0_v_x.length (gL (cInt .i64) 0 a0_v_x), .arr 4 1 a0_v_active.length (gL cBool false a0_v_active), .arr 3 1 o3_8.length (gL (cInt .i64) 0 o3_8)]⟩) (sub_gen [0, 1, 2, 3] rfl rfl ⟨zc rfl rfl, zc rfl rfl, zc rfl rfl, trivial⟩ ⟨⟨_, rfl, ⟨ii rfl rfl, ii rfl rfl, ii rfl rfl, ii rfl rfl, ii rfl rfl, trivial⟩⟩, oa rfl, oa rfl, oa rfl, trivial⟩) ?_
      refine (SCode.loop (σ := Nat × (Int × Int × (List Int))) (S := fun s => ⟨[(0, .c (.ptr 0 0)), (5, .c (.int .i64 s.2.1)), (6, .c (.int .i64 s.2.2.1))], [.box [.vec a0_v_caps.length 1 (gL (cInt .i64) 0 a0_v_caps), .fn 4 1 (cellsG [.eptr 1 ((cInt .i64) a0f0) 0]), .own 1 a0_v_x.length, .own 2 a0_v_active.length, .own 3 s.2.2.2.length], .arr 3 1 a0_v_x.length (gL (cInt .i64) 0 a0_v_x), .arr 4 1 a0_v_active.length (gL cBool false a0_v_active), .arr 3 1 s.2.2.2.length (gL (cInt .i64) 0 s.2.2.2)]⟩) (g := fun s => fair_division_together_f0_p4_l23 F a0_v_caps a0f0 a0_v_x a0_v_active s.1 s.2.1 s.2.2.1 s.2.2.2 = some r) (μ := fun s => s.1) (F, (0, most_1, o3_8)) h ?_)
      rintro ⟨n_23, ⟨d_16, bad_17, o3_18⟩⟩ h
      replace h : fair_division_together_f0_p4_l23 F a0_v_caps a0f0 a0_v_x a0_v_active n_23 d_16 bad_17 o3_18 = some r := h
      show SCode _ _ _ ⟨[(0, .c (.ptr 0 0)), (5, .c (.int .i64 d_16)), (6, .c (.int .i64 bad_17))], [.box [.vec a0_v_caps.length 1 (gL (cInt .i64) 0 a0_v_caps), .fn 4 1 (cellsG [.eptr 1 ((cInt .i64) a0f0) 0]), .own 1 a0_v_x.length, .own 2 a0_v_active.length, .own 3 o3_18.length], .arr 3 1 a0_v_x.length (gL (cInt .i64) 0 a0_v_x), .arr 4 1 a0_v_active.length (gL cBool false a0_v_active), .arr 3 1 o3_18.length (gL (cInt .i64) 0 o3_18)]⟩ _
      cases n_23 with
      | zero => cases h
      | succ n_23 =>
        replace h : fair_division_together_f0_p4_b23 F a0_v_caps a0f0 a0_v_x a0_v_active (fun d_16 bad_17 o3_18 => fair_division_together_f0_p4_l23 F a0_v_caps a0f0 a0_v_x a0_v_active n_23 d_16 bad_17 o3_18) d_16 bad_17 o3_18 = some r := h
        unfold fair_division_together_f0_p4_b23 at h
        refine SCode.seq ?_
        refine SCode.seq ?_
        refine SCode.region (show SOps _ _ _ [0, 1, 2, 3] _ _ from ?_)
        refine SOps.q rfl (.plain rfl) rfl (q_move rfl rfl) ?_
        refine SOps.q rfl (.plain rfl) rfl (q_move rfl rfl) ?_
        refine SOps.q rfl (.plain rfl) rfl (q_sub rfl rfl rfl) ?_
        refine SOps.q rfl (.plain rfl) rfl (q_gtr rfl rfl rfl) ?_
        refine SOps.sub (st' := ⟨[(0, .c (.ptr 0 0)), (5, .c (.int .i64 d_16)), (6, .c (.int .i64 bad_17)), (50, .c (.bool (decide (1 < IntKind.wrap .i64 (bad_17 - d_16)))))], [.box [.vec a0_v_caps.length 1 (gL (cInt .i64) 0 a0_v_caps), .fn 4 1 (cellsG [.eptr 1 ((cInt .i64) a0f0) 0]), .own 1 a0_v_x.length, .own 2 a0_v_active.length, .own 3 o3_18.length], .arr 3 1 a0_v_x.length (gL (cInt .i64) 0 a0_v_x), .arr 4 1 a0_v_active.length (gL cBool false a0_v_active), .arr 3 1 o3_18.length (gL (cInt .i64) 0 o3_18)]⟩) (sub_gen [0, 1, 2, 3] rfl rfl ⟨zc rfl rfl, zc rfl rfl, zc rfl rfl, zc rfl rfl, trivial⟩ ⟨⟨_, rfl, ⟨ii rfl rfl, ii rfl rfl, ii rfl rfl, ii rfl rfl, ii rfl rfl, trivial⟩⟩, oa rfl, oa rfl, oa rfl, trivial⟩) ?_
        refine SOps.nil ?_
        rcases cond_out h with ⟨g24, h⟩ | ⟨g24, h⟩
        · refine SCode.cond_t rfl g24 ?_
          refine SCode.skip ?_
          refine SCode.block ?_
          refine SCode.seq ?_
          refine SCode.region (show SOps _ _ _ [0, 1, 2, 3, 4, 5, 6] _ _ from ?_)
          refine SOps.q rfl (.plain rfl) rfl (q_move rfl rfl) ?_
          refine SOps.q rfl (.plain rfl) rfl (q_move rfl rfl) ?_
          refine SOps.q rfl (.plain rfl) rfl (q_move rfl rfl) ?_
          refine SOps.q rfl (.plain rfl) rfl (q_sub rfl rfl rfl) ?_
          refine SOps.q rfl (.plain rfl) rfl (q_quo rfl rfl rfl (by decide)) ?_
          refine SOps.q rfl (.plain rfl) rfl (q_add rfl rfl rfl) ?_
          refine SOps.q rfl (.plain rfl) rfl (q_assign rfl rfl) ?_
          refine SOps.sub (st' := ⟨[(0, .c (.ptr 0 0)), (5, .c (.int .i64 d_16)), (6, .c (.int .i64 bad_17)), (7, .c (.int .i64 (IntKind.wrap .i64 (d_16 + IntKind.wrap .i64 (Int.tdiv (IntKind.wrap .i64 (bad_17 - d_16)) 2)))))], [.box [.vec a0_v_caps.length 1 (gL (cInt .i64) 0 a0_v_caps), .fn 4 1 (cellsG [.eptr 1 ((cInt .i64) a0f0) 0]), .own 1 a0_v_x.length, .own 2 a0_v_active.length, .own 3 o3_18.length], .arr 3 1 a0_v_x.length (gL (cInt .i64) 0 a0_v_x), .arr 4 1 a0_v_active.length (gL cBool false a0_v_active), .arr 3 1 o3_18.length (gL (cInt .i64) 0 o3_18)]⟩) (sub_gen [0, 1, 2, 3] rfl rfl ⟨zc rfl rfl, zc rfl rfl, zc rfl rfl, zc rfl rfl, trivial⟩ ⟨⟨_, rfl, ⟨ii rfl rfl, ii rfl rfl, ii rfl rfl, ii rfl rfl, ii rfl rfl, trivial⟩⟩, oa rfl, oa rfl, oa rfl, trivial⟩) ?_
          refine SOps.nil ?_
          refine SCode.seq ?_
          obtain ⟨c_25, g26, h⟩ := bind_out h
          try dsimp only at h
          refine SCode.region (show SOps _ _ _ [0, 1, 2] _ _ from ?_)
          refine SOps.q rfl (.plain rfl) rfl (q_move rfl rfl) ?_
          refine SOps.q rfl (.plain rfl) rfl (q_move rfl rfl) ?_
          refine SOps.e rfl (.plain rfl) (e_call (fair_division_raisable_f0_p4_ok F a0_v_caps a0f0 a0_v_x a0_v_active o3_18 (IntKind.wrap .i64 (d_16 + IntKind.wrap .i64 (Int.tdiv (IntKind.wrap .i64 (bad_17 - d_16)) 2))) c_25 g26) [0, 1, 2, 3] rfl fn22 rfl rfl rfl rfl rfl rfl rfl rfl) ?_
          refine SOps.sub (st' := ⟨[(0, .c (.ptr 0 0)), (5, .c (.int .i64 d_16)), (6, .c (.int .i64 bad_17)), (7, .c (.int .i64 (IntKind.wrap .i64 (d_16 + IntKind.wrap .i64 (Int.tdiv (IntKind.wrap .i64 (bad_17 - d_16)) 2))))), (59, .c (.bool c_25.1))], [.box [.vec a0_v_caps.length 1 (gL (cInt .i64) 0 a0_v_caps), .fn 4 1 (cellsG [.eptr 1 ((cInt .i64) a0f0) 0]), .own 1 a0_v_x.length, .own 2 a0_v_active.length, .own 3 c_25.2.length], .arr 3 1 a0_v_x.length (gL (cInt .i64) 0 a0_v_x), .arr 4 1 a0_v_active.length (gL cBool false a0_v_active), .arr 3 1 c_25.2.length (gL (cInt .i64) 0 c_25.2)]⟩) (sub_gen [0, 1, 2, 3] rfl rfl ⟨zc rfl rfl, zc rfl rfl, zc rfl rfl, zc rfl rfl, zc rfl rfl, trivial⟩ ⟨⟨_, rfl, ⟨ii rfl rfl, ii rfl rfl, ii rfl rfl, ii rfl rfl, ii rfl rfl, trivial⟩⟩, oa rfl, oa rfl, oa rfl, trivial⟩) ?_
          refine SOps.nil ?_
          rcases cond_out h with ⟨g27, h⟩ | ⟨g27, h⟩
          · refine SCode.cond_t rfl g27 ?_
            refine SCode.region (show SOps _ _ _ [0, 1] _ _ from ?_)
            refine SOps.q rfl (.plain rfl) rfl (q_move rfl rfl) ?_
            refine SOps.q rfl (.plain rfl) rfl (q_assign rfl rfl) ?_
            refine SOps.sub (st' := ⟨[(0, .c (.ptr 0 0)), (5, .c (.int .i64 (IntKind.wrap .i64 (d_16 + IntKind.wrap .i64 (Int.tdiv (IntKind.wrap .i64 (bad_17 - d_16)) 2))))), (6, .c (.int .i64 bad_17))], [.box [.vec a0_v_caps.length 1 (gL (cInt .i64) 0 a0_v_caps), .fn 4 1 (cellsG [.eptr 1 ((cInt .i64) a0f0) 0]), .own 1 a0_v_x.length, .own 2 a0_v_active.length, .own 3 c_25.2.length], .arr 3 1 a0_v_x.length (gL (cInt .i64) 0 a0_v_x), .arr 4 1 a0_v_active.length (gL cBool false a0_v_active), .arr 3 1 c_25.2.length (gL (cInt .i64) 0 c_25.2)]⟩) (sub_gen [0, 1, 2, 3] rfl rfl ⟨zc rfl rfl, zc rfl rfl, zc rfl rfl, trivial⟩ ⟨⟨_, rfl, ⟨ii rfl rfl, ii rfl rfl, ii rfl rfl, ii rfl rfl, ii rfl rfl, trivial⟩⟩, oa rfl, oa rfl, oa rfl, trivial⟩) ?_
            refine SOps.nil ?_
            exact ⟨(n_23, (IntKind.wrap .i64 (d_16 + IntKind.wrap .i64 (Int.tdiv (IntKind.wrap .i64 (bad_17 - d_16)) 2)), bad_17, c_25.2)), h, Nat.lt_succ_self n_23, sub_gen [0, 1, 2, 3] rfl rfl ⟨zc rfl rfl, zc rfl rfl, zc rfl rfl, trivial⟩ ⟨⟨_, rfl, ⟨ii rfl rfl, ii rfl rfl, ii rfl rfl, ii rfl rfl, ii rfl rfl, trivial⟩⟩, oa rfl, oa rfl, oa rfl, trivial⟩⟩
          refine SCode.cond_f rfl g27 ?_
          refine SCode.region (show SOps _ _ _ [0, 1] _ _ from ?_)
          refine SOps.q rfl (.plain rfl) rfl (q_move rfl rfl) ?_
          refine SOps.q rfl (.plain rfl) rfl (q_assign rfl rfl) ?_
          refine SOps.sub (st' := ⟨[(0, .c (.ptr 0 0)), (5, .c (.int .i64 d_16)), (6, .c (.int .i64 (IntKind.wrap .i64 (d_16 + IntKind.wrap .i64 (Int.tdiv (IntKind.wrap .i64 (bad_17 - d_16)) 2)))))], [.box [.vec a0_v_caps.length 1 (gL (cInt .i64) 0 a0_v_caps), .fn 4 1 (cellsG [.eptr 1 ((cInt .i64) a0f0) 0]), .own 1 a0_v_x.length, .own 2 a0_v_active.length, .own 3 c_25.2.length], .arr 3 1 a0_v_x.length (gL (cInt .i64) 0 a0_v_x), .arr 4 1 a0_v_active.length (gL cBool false a0_v_active), .arr 3 1 c_25.2.length (gL (cInt .i64) 0 c_25.2)]⟩) (sub_gen [0, 1, 2, 3] rfl rfl ⟨zc rfl rfl, zc rfl rfl, zc rfl rfl, trivial⟩ ⟨⟨_, rfl, ⟨ii rfl rfl, ii rfl rfl, ii rfl rfl, ii rfl rfl, ii rfl rfl, trivial⟩⟩, oa rfl, oa rfl, oa rfl, trivial⟩) ?_
          refine SOps.nil ?_
          exact ⟨(n_23, (d_16, IntKind.wrap .i64 (d_16 + IntKind.wrap .i64 (Int.tdiv (IntKind.wrap .i64 (bad_17 - d_16)) 2)), c_25.2)), h, Nat.lt_succ_self n_23, sub_gen [0, 1, 2, 3] rfl rfl ⟨zc rfl rfl, zc rfl rfl, zc rfl rfl, trivial⟩ ⟨⟨_, rfl, ⟨ii rfl rfl, ii rfl rfl, ii rfl rfl, ii rfl rfl, ii rfl rfl, trivial⟩⟩, oa rfl, oa rfl, oa rfl, trivial⟩⟩
        refine SCode.cond_f rfl g24 ?_
        refine SCode.exit ?_
        exact ⟨(d_16, o3_18), h, sub_gen [0, 1, 2, 3] rfl rfl ⟨zc rfl rfl, zc rfl rfl, trivial⟩ ⟨⟨_, rfl, ⟨ii rfl rfl, ii rfl rfl, ii rfl rfl, ii rfl rfl, ii rfl rfl, trivial⟩⟩, oa rfl, oa rfl, oa rfl, trivial⟩⟩
    refine SCode.cond_f rfl g9 ?_
    refine SCode.skip ?_
    exact ⟨(most_1, o3_8), h, sub_gen [0, 1, 2, 3] rfl rfl ⟨zc rfl rfl, zc rfl rfl, trivial⟩ ⟨⟨_, rfl, ⟨ii rfl rfl, ii rfl rfl, ii rfl rfl, ii rfl rfl, ii rfl rfl, trivial⟩⟩, oa rfl, oa rfl, oa rfl, trivial⟩⟩
  rintro ⟨d_2, o3_3⟩ h
  show SCode _ _ _ ⟨[(0, .c (.ptr 0 0)), (5, .c (.int .i64 d_2))], [.box [.vec a0_v_caps.length 1 (gL (cInt .i64) 0 a0_v_caps), .fn 4 1 (cellsG [.eptr 1 ((cInt .i64) a0f0) 0]), .own 1 a0_v_x.length, .own 2 a0_v_active.length, .own 3 o3_3.length], .arr 3 1 a0_v_x.length (gL (cInt .i64) 0 a0_v_x), .arr 4 1 a0_v_active.length (gL cBool false a0_v_active), .arr 3 1 o3_3.length (gL (cInt .i64) 0 o3_3)]⟩ _
  replace h : fair_division_together_f0_p4_p6 F a0_v_caps a0f0 a0_v_x a0_v_active d_2 o3_3 = some r := h
  unfold fair_division_together_f0_p4_p6 at h
  refine SCode.seq ?_
  obtain ⟨c_4, g5, h⟩ := bind_out h
  try dsimp only at h
  refine SCode.region (show SOps _ _ _ [0, 1, 2] _ _ from ?_)
  refine SOps.q rfl (.plain rfl) rfl (q_move rfl rfl) ?_
  refine SOps.q rfl (.plain rfl) rfl (q_move rfl rfl) ?_
  refine SOps.e rfl (.plain rfl) (e_call (fair_division_raise_f0_p4_ok F a0_v_caps a0f0 a0_v_x a0_v_active o3_3 d_2 c_4 g5) [0, 1, 2, 3] rfl fn23 rfl rfl rfl rfl rfl rfl rfl rfl) ?_
  refine SOps.sub (st' := ⟨[(0, .c (.ptr 0 0))], [.box [.vec a0_v_caps.length 1 (gL (cInt .i64) 0 a0_v_caps), .fn 4 1 (cellsG [.eptr 1 ((cInt .i64) a0f0) 0]), .own 1 a0_v_x.length, .own 2 a0_v_active.length, .own 3 c_4.length], .arr 3 1 a0_v_x.length (gL (cInt .i64) 0 a0_v_x), .arr 4 1 a0_v_active.length (gL cBool false a0_v_active), .arr 3 1 c_4.length (gL (cInt .i64) 0 c_4)]⟩) (sub_gen [0, 1, 2, 3] rfl rfl ⟨zc rfl rfl, trivial⟩ ⟨⟨_, rfl, ⟨ii rfl rfl, ii rfl rfl, ii rfl rfl, ii rfl rfl, ii rfl rfl, trivial⟩⟩, oa rfl, oa rfl, oa rfl, trivial⟩) ?_
  refine SOps.nil ?_
  refine SCode.draw (s' := [(72, .c (.own 3 c_4.length)), (71, .c (.ptr 0 4)), (70, .c (.ptr 0 0)), (69, .c (.ptr 0 0)), (68, .c (.own 1 a0_v_x.length)), (67, .c (.ptr 0 2)), (66, .c (.ptr 0 0)), (65, .c (.ptr 0 0)), (0, .c (.ptr 0 0))]) mixed [[], [0], [0, 1], [0, 1, 2], [], [4], [4, 5], [4, 5, 6], [0, 1, 2, 3, 4, 5, 6, 7]] 8 1 rfl rfl ?_ ?_
  · refine QChain.run rfl (.plain rfl) rfl (q_move rfl rfl) ?_
    refine QChain.run rfl (.plain rfl) rfl (q_nilCheck rfl rfl rfl) ?_
    refine QChain.run rfl (.plain rfl) rfl (q_field_ptr rfl rfl fd49_2) ?_
    refine QChain.run rfl (.plain rfl) rfl (q_load_ptr rfl rfl rfl rfl ty22) ?_
    refine QChain.run rfl (.plain rfl) rfl (q_move rfl rfl) ?_
    refine QChain.run rfl (.plain rfl) rfl (q_nilCheck rfl rfl rfl) ?_
    refine QChain.run rfl (.plain rfl) rfl (q_field_ptr rfl rfl fd49_4) ?_
    refine QChain.run rfl (.plain rfl) rfl (q_load_ptr rfl rfl rfl rfl ty22) ?_
    exact QChain.nil _ _
  refine (show SOps _ _ _ [8] _ _ from ?_)
  refine SOps.e rfl (.plain rfl) (e_copyL (c := (cInt .i64)) (d0 := 0) (l := a0_v_x) (s := c_4) (lo := 0) (n := (a0_v_x).length) (m := min (c_4).length ((a0_v_x).length)) rfl rfl rfl (.inr ⟨rfl, rfl⟩) rfl rfl (.inr (.inr ⟨_, _, rfl, rfl⟩)) sl22 rfl oneInt (Nat.le_of_eq (Nat.zero_add _)) rfl) ?_
  refine SOps.sub (st' := ⟨[], [.box [.vec a0_v_caps.length 1 (gL (cInt .i64) 0 a0_v_caps), .fn 4 1 (cellsG [.eptr 1 ((cInt .i64) a0f0) 0]), .own 1 (copyL a0_v_x 0 ((a0_v_x).length) c_4).length, .own 2 a0_v_active.length, .own 3 c_4.length], .arr 3 1 (copyL a0_v_x 0 ((a0_v_x).length) c_4).length (gL (cInt .i64) 0 (copyL a0_v_x 0 ((a0_v_x).length) c_4)), .arr 4 1 a0_v_active.length (gL cBool false a0_v_active), .arr 3 1 c_4.length (gL (cInt .i64) 0 c_4)]⟩) (sub_gen [0, 1, 2, 3] rfl rfl trivial ⟨⟨_, rfl, ⟨ii rfl rfl, ii rfl rfl, .inl ⟨rfl, congrArg (Cell.own 1) (copyL_len (l := a0_v_x) (s := c_4) (lo := 0) (n := (a0_v_x).length) (Nat.le_of_eq (Nat.zero_add _))).symm⟩, ii rfl rfl, ii rfl rfl, trivial⟩⟩, oa rfl, oa rfl, oa rfl, trivial⟩) ?_
  refine SOps.nil ?_
  obtain rfl := Option.some.inj h
  exact ⟨⟨[], [.box [.vec a0_v_caps.length 1 (gL (cInt .i64) 0 a0_v_caps), .fn 4 1 (cellsG [.eptr 1 ((cInt .i64) a0f0) 0]), .own 1 (copyL a0_v_x 0 ((a0_v_x).length) c_4).length, .own 2 a0_v_active.length, .own 3 c_4.length], .arr 3 1 (copyL a0_v_x 0 ((a0_v_x).length) c_4).length (gL (cInt .i64) 0 (copyL a0_v_x 0 ((a0_v_x).length) c_4)), .arr 4 1 a0_v_active.length (gL cBool false a0_v_active), .arr 3 1 c_4.length (gL (cInt .i64) 0 c_4)]⟩, _, sub_gen [0, 1, 2, 3] rfl rfl trivial ⟨⟨_, rfl, ⟨ii rfl rfl, ii rfl rfl, ii rfl rfl, ii rfl rfl, ii rfl rfl, trivial⟩⟩, oa rfl, oa rfl, oa rfl, trivial⟩, resA0 rfl, ⟨rfl, rfl⟩⟩
end Go.Proofs.Ythebmhkjelejbaa.W
