/- Written by a program of ours (wip/eng/gen.py): the functions compute their models. -/
import Derived.Test.YtbepoingholchaaFacts
import Derived.Test.YtbepoingholchaaV6x3
namespace Go.Proofs.Ytbepoingholchaa.W
open Go Go.Proofs Go.Proofs.Ytbepoingholchaa.E Go.Proofs.Ytbepoingholchaa.M
set_option linter.unusedVariables false
set_option maxRecDepth 100000 in
set_option maxHeartbeats 8000000 in
theorem flow_Max_ok (F : Nat) (a0_n : SNet) (a1_source : Int) (a2_sink : Int) (r : Int × (List Int) × Int) (h : flow_Max F a0_n a1_source a2_sink = some r) :
    SFun Try.prog 15 [] [.a [.int .i64 a0_n.Nodes, .vec a0_n.Arcs.length 3 (gL cSArc dSArc a0_n.Arcs)], .c (.int .i64 a1_source), .c (.int .i64 a2_sink)] (fun x _ => x = .t [.c (.int .i64 r.1), .c (.vec r.2.1.length 1 (gL (cInt .i64) 0 r.2.1)), .c (.int .i64 r.2.2)]) := by
  refine SFun.of (n := 52) Try.func15 rfl rfl rfl ?_
  unfold flow_Max at h
  show SCode _ _ _ ⟨[(0, .a [.int .i64 a0_n.Nodes, .vec a0_n.Arcs.length 3 (gL cSArc dSArc a0_n.Arcs)]), (1, .c (.int .i64 a1_source)), (2, .c (.int .i64 a2_sink))], []⟩ _
  refine SCode.seq ?_
  refine SCode.region (show SOps _ _ _ [0, 1, 2, 3] _ _ from ?_)
  refine SOps.e rfl (.plain rfl) (e_box rfl rfl rfl rfl rfl rfl) ?_
  refine SOps.q rfl (.plain rfl) rfl (q_assign rfl rfl) ?_
  refine SOps.q rfl (.plain rfl) rfl (q_assign rfl rfl) ?_
  refine SOps.q rfl (.plain rfl) rfl (q_assign rfl rfl) ?_
  refine SOps.sub (st' := ⟨[(1, .c (.int .i64 a1_source)), (2, .c (.int .i64 a2_sink)), (3, .c (.ptr 0 0))], [.box [.int .i64 a0_n.Nodes, .vec a0_n.Arcs.length 3 (gL cSArc dSArc a0_n.Arcs)]]⟩) (sub_gen [0] rfl rfl ⟨zc rfl rfl, zc rfl rfl, zc rfl rfl, trivial⟩ ⟨⟨_, rfl, ⟨ii rfl rfl, ii rfl rfl, trivial⟩⟩, trivial⟩) ?_
  refine SOps.nil ?_
  refine SCode.seq ?_
  refine SCode.seq ?_
  obtain ⟨c_1, g2, h⟩ := bind_out h
  try dsimp only at h
  refine SCode.region (show SOps _ _ _ [0, 1, 2, 3, 4] _ _ from ?_)
  refine SOps.q rfl (.plain rfl) rfl (q_load_ptr_all rfl rfl rfl rfl rfl ty24) ?_
  refine SOps.q rfl (.plain rfl) rfl (q_move rfl rfl) ?_
  refine SOps.q rfl (.plain rfl) rfl (q_move rfl rfl) ?_
  refine SOps.q rfl (.plain rfl) rfl (q_call (flow_valid_ok F a0_n a1_source a2_sink c_1 g2) [] rfl fn27 ⟨⟨rfl, rfl⟩, ⟨_, rfl, .inl ⟨rfl, rfl⟩⟩, ⟨_, rfl, .inl ⟨rfl, rfl⟩⟩, trivial⟩ (.inl rfl)) ?_
  refine SOps.q rfl (.plain rfl) rfl (q_assign rfl rfl) ?_
  refine SOps.sub (st' := ⟨[(1, .c (.int .i64 a1_source)), (2, .c (.int .i64 a2_sink)), (3, .c (.ptr 0 0)), (9, .c (.int .i64 c_1))], [.box [.int .i64 a0_n.Nodes, .vec a0_n.Arcs.length 3 (gL cSArc dSArc a0_n.Arcs)]]⟩) (sub_gen [0] rfl rfl ⟨zc rfl rfl, zc rfl rfl, zc rfl rfl, zc rfl rfl, trivial⟩ ⟨⟨_, rfl, ⟨ii rfl rfl, ii rfl rfl, trivial⟩⟩, trivial⟩) ?_
  refine SOps.nil ?_
  refine SCode.seq ?_
  refine SCode.region (show SOps _ _ _ [0, 1] _ _ from ?_)
  refine SOps.q rfl (.plain rfl) rfl (q_move rfl rfl) ?_
  refine SOps.q rfl (.plain rfl) rfl (q_neq rfl rfl rfl) ?_
  refine SOps.sub (st' := ⟨[(1, .c (.int .i64 a1_source)), (2, .c (.int .i64 a2_sink)), (3, .c (.ptr 0 0)), (9, .c (.int .i64 c_1)), (19, .c (.bool ((!decide (c_1 = 0)))))], [.box [.int .i64 a0_n.Nodes, .vec a0_n.Arcs.length 3 (gL cSArc dSArc a0_n.Arcs)]]⟩) (sub_gen [0] rfl rfl ⟨zc rfl rfl, zc rfl rfl, zc rfl rfl, zc rfl rfl, zc rfl rfl, trivial⟩ ⟨⟨_, rfl, ⟨ii rfl rfl, ii rfl rfl, trivial⟩⟩, trivial⟩) ?_
  refine SOps.nil ?_
  rcases cond_out h with ⟨g3, h⟩ | ⟨g3, h⟩
  · refine SCode.cond_t rfl g3 ?_
    refine SCode.seq ?_
    refine SCode.region (show SOps _ _ _ [0, 1, 2, 3] _ _ from ?_)
    refine SOps.q rfl (.plain rfl) rfl (q_move rfl rfl) ?_
    refine SOps.q rfl (.plain rfl) rfl (q_assign rfl rfl) ?_
    refine SOps.q rfl (.plain rfl) rfl (q_assign rfl rfl) ?_
    refine SOps.q rfl (.plain rfl) rfl (q_assign rfl rfl) ?_
    refine SOps.sub (st' := ⟨[(6, .c (.int .i64 0)), (7, .c (.raw (.slice none 0 0))), (8, .c (.int .i64 c_1))], []⟩) (sub_gen [] rfl rfl ⟨zc rfl rfl, zc rfl rfl, zc rfl rfl, trivial⟩ trivial) ?_
    refine SOps.nil ?_
    refine SCode.ret ?_
    obtain rfl := Option.some.inj h
    exact ⟨⟨[(6, .c (.int .i64 0)), (7, .c (.vec (([] : List Int)).length 1 (gL (cInt .i64) 0 (([] : List Int))))), (8, .c (.int .i64 c_1))], []⟩, _, sub_gen [] rfl rfl ⟨zc rfl rfl, ⟨_, rfl, .inr (.inr (.inr (.inl ⟨_, _, rfl, rfl⟩)))⟩, zc rfl rfl, trivial⟩ trivial, resA3 (v1 := .c (.int .i64 0)) (v2 := .c (.vec (([] : List Int)).length 1 (gL (cInt .i64) 0 (([] : List Int))))) (v3 := .c (.int .i64 c_1)) rfl rfl rfl rfl, rfl⟩
  refine SCode.cond_f rfl g3 ?_
  refine SCode.skip ?_
  refine SCode.seq ?_
  obtain ⟨c_4, g5, h⟩ := bind_out h
  try dsimp only at h
  refine SCode.region (show SOps _ _ _ [0, 1, 2] _ _ from ?_)
  refine SOps.q rfl (.plain rfl) rfl (q_load_ptr_all rfl rfl rfl rfl rfl ty24) ?_
  refine SOps.e rfl (.plain rfl) (e_call (flow_build_own_ok F a0_n c_4 g5) [] rfl fn28 rfl rfl rfl rfl rfl rfl rfl rfl) ?_
  refine SOps.q rfl (.plain rfl) rfl (q_assign rfl rfl) ?_
  refine SOps.sub (st' := ⟨[(1, .c (.int .i64 a1_source)), (2, .c (.int .i64 a2_sink)), (3, .c (.ptr 0 0)), (10, .c (.ptr 1 0))], [.box [.int .i64 a0_n.Nodes, .vec a0_n.Arcs.length 3 (gL cSArc dSArc a0_n.Arcs)], .box [.own 2 c_4.1.length, .vec c_4.2.1.length 1 (gL (cVec 1 (cInt .i64) 0) ([]) c_4.2.1), .own 3 c_4.2.2.1.length, .own 4 c_4.2.2.2.length], .arr 59 2 c_4.1.length (gL cSEdge dSEdge c_4.1), .arr 3 1 c_4.2.2.1.length (gL (cInt .i64) 0 c_4.2.2.1), .arr 3 1 c_4.2.2.2.length (gL (cInt .i64) 0 c_4.2.2.2)]⟩) (sub_gen [0, 1, 2, 3, 4] rfl rfl ⟨zc rfl rfl, zc rfl rfl, zc rfl rfl, zc rfl rfl, trivial⟩ ⟨⟨_, rfl, ⟨ii rfl rfl, ii rfl rfl, trivial⟩⟩, ⟨_, rfl, ⟨ii rfl rfl, ii rfl rfl, ii rfl rfl, ii rfl rfl, trivial⟩⟩, oa rfl, oa rfl, oa rfl, trivial⟩) ?_
  refine SOps.nil ?_
  refine SCode.seq ?_
  obtain ⟨c_6, g7, h⟩ := bind_out h
  try dsimp only at h
  refine SCode.region (show SOps _ _ _ [0, 1, 2, 3, 4] _ _ from ?_)
  refine SOps.q rfl (.plain rfl) rfl (q_move rfl rfl) ?_
  refine SOps.q rfl (.plain rfl) rfl (q_move rfl rfl) ?_
  refine SOps.q rfl (.plain rfl) rfl (q_move rfl rfl) ?_
  refine SOps.e rfl (.plain rfl) (e_call (flow_graph_run_ok F c_4.1 c_4.2.1 c_4.2.2.1 c_4.2.2.2 a1_source a2_sink c_6 g7) [1, 2, 3, 4] rfl fn29 rfl rfl rfl rfl rfl rfl rfl rfl) ?_
  refine SOps.q rfl (.plain rfl) rfl (q_assign rfl rfl) ?_
  refine SOps.sub (st' := ⟨[(3, .c (.ptr 0 0)), (10, .c (.ptr 1 0)), (11, .c (.int .i64 c_6.1))], [.box [.int .i64 a0_n.Nodes, .vec a0_n.Arcs.length 3 (gL cSArc dSArc a0_n.Arcs)], .box [.own 2 c_6.2.1.length, .vec c_4.2.1.length 1 (gL (cVec 1 (cInt .i64) 0) ([]) c_4.2.1), .own 3 c_6.2.2.1.length, .own 4 c_6.2.2.2.length], .arr 59 2 c_6.2.1.length (gL cSEdge dSEdge c_6.2.1), .arr 3 1 c_6.2.2.1.length (gL (cInt .i64) 0 c_6.2.2.1), .arr 3 1 c_6.2.2.2.length (gL (cInt .i64) 0 c_6.2.2.2)]⟩) (sub_gen [0, 1, 2, 3, 4] rfl rfl ⟨zc rfl rfl, zc rfl rfl, zc rfl rfl, trivial⟩ ⟨⟨_, rfl, ⟨ii rfl rfl, ii rfl rfl, trivial⟩⟩, ⟨_, rfl, ⟨ii rfl rfl, ii rfl rfl, ii rfl rfl, ii rfl rfl, trivial⟩⟩, oa rfl, oa rfl, oa rfl, trivial⟩) ?_
  refine SOps.nil ?_
  refine SCode.seq ?_
  obtain ⟨g8, h⟩ := guard_out h
  refine SCode.region (show SOps _ _ _ [0, 1, 2, 3, 4] _ _ from ?_)
  refine SOps.q rfl (.plain rfl) rfl (q_field_ptr rfl rfl fd24_1) ?_
  refine SOps.q rfl (.plain rfl) rfl (q_load_ptr rfl rfl rfl rfl ty22) ?_
  refine SOps.q rfl (.plain rfl) rfl (q_len_vec rfl rfl sl22) ?_
  refine SOps.e rfl (.plain rfl) (e_makeL (c := (cInt .i64)) (d0 := 0) rfl rfl rfl rfl rfl sl30 z3 rfl rfl rfl g8.1 (Int.le_refl _) g8.2.1 g8.2.2) ?_
  refine SOps.q rfl (.plain rfl) rfl (q_assign rfl rfl) ?_
  refine SOps.sub (st' := ⟨[(10, .c (.ptr 0 0)), (11, .c (.int .i64 c_6.1)), (12, .c (.own 4 (List.replicate (((a0_n.Arcs).length : Int)).toNat (0 : Int)).length))], [.box [.own 1 c_6.2.1.length, .vec c_4.2.1.length 1 (gL (cVec 1 (cInt .i64) 0) ([]) c_4.2.1), .own 2 c_6.2.2.1.length, .own 3 c_6.2.2.2.length], .arr 59 2 c_6.2.1.length (gL cSEdge dSEdge c_6.2.1), .arr 3 1 c_6.2.2.1.length (gL (cInt .i64) 0 c_6.2.2.1), .arr 3 1 c_6.2.2.2.length (gL (cInt .i64) 0 c_6.2.2.2), .arr 3 1 (List.replicate (((a0_n.Arcs).length : Int)).toNat (0 : Int)).length (gL (cInt .i64) 0 (List.replicate (((a0_n.Arcs).length : Int)).toNat (0 : Int)))]⟩) (sub_gen [1, 2, 3, 4, 5] rfl rfl ⟨zc rfl rfl, zc rfl rfl, zc rfl rfl, trivial⟩ ⟨⟨_, rfl, ⟨ii rfl rfl, ii rfl rfl, ii rfl rfl, ii rfl rfl, trivial⟩⟩, oa rfl, oa rfl, oa rfl, oa rfl, trivial⟩) ?_
  refine SOps.nil ?_
  refine SCode.join (σ := (List Int)) (S := fun s => ⟨[(11, .c (.int .i64 c_6.1)), (12, .c (.own 0 s.length))], [.arr 3 1 s.length (gL (cInt .i64) 0 s)]⟩) (g := fun s => flow_Max_p10 c_6 s = some r) ?_ ?_
  rotate_left
  · refine SCode.seq ?_
    refine SCode.region (show SOps _ _ _ [0, 1, 2] _ _ from ?_)
    refine SOps.q rfl (.plain rfl) rfl (q_move rfl rfl) ?_
    refine SOps.q rfl (.plain rfl) rfl (q_len_own rfl rfl sl30) ?_
    refine SOps.q rfl (.plain rfl) rfl (q_move rfl rfl) ?_
    refine SOps.sub (st' := ⟨[(10, .c (.ptr 0 0)), (11, .c (.int .i64 c_6.1)), (12, .c (.own 4 (List.replicate (((a0_n.Arcs).length : Int)).toNat (0 : Int)).length)), (32, .c (.int .i64 (((List.replicate (((a0_n.Arcs).length : Int)).toNat (0 : Int)).length : Int)))), (33, .c (.int .i64 0))], [.box [.own 1 c_6.2.1.length, .vec c_4.2.1.length 1 (gL (cVec 1 (cInt .i64) 0) ([]) c_4.2.1), .own 2 c_6.2.2.1.length, .own 3 c_6.2.2.2.length], .arr 59 2 c_6.2.1.length (gL cSEdge dSEdge c_6.2.1), .arr 3 1 c_6.2.2.1.length (gL (cInt .i64) 0 c_6.2.2.1), .arr 3 1 c_6.2.2.2.length (gL (cInt .i64) 0 c_6.2.2.2), .arr 3 1 (List.replicate (((a0_n.Arcs).length : Int)).toNat (0 : Int)).length (gL (cInt .i64) 0 (List.replicate (((a0_n.Arcs).length : Int)).toNat (0 : Int)))]⟩) (sub_gen [0, 1, 2, 3, 4] rfl rfl ⟨zc rfl rfl, zc rfl rfl, zc rfl rfl, zc rfl rfl, zc rfl rfl, trivial⟩ ⟨⟨_, rfl, ⟨ii rfl rfl, ii rfl rfl, ii rfl rfl, ii rfl rfl, trivial⟩⟩, oa rfl, oa rfl, oa rfl, oa rfl, trivial⟩) ?_
    refine SOps.nil ?_
    refine SCode.block ?_
    refine SCode.sub (st' := ⟨[(10, .c (.ptr 0 0)), (11, .c (.int .i64 c_6.1)), (12, .c (.own 4 (List.replicate (((a0_n.Arcs).length : Int)).toNat (0 : Int)).length)), (32, .c (.int .i64 (((List.replicate (((a0_n.Arcs).length : Int)).toNat (0 : Int)).length : Int)))), (33, .c (.int .i64 0))], [.box [.own 1 c_6.2.1.length, .vec c_4.2.1.length 1 (gL (cVec 1 (cInt .i64) 0) ([]) c_4.2.1), .own 2 c_6.2.2.1.length, .own 3 c_6.2.2.2.length], .arr 59 2 c_6.2.1.length (gL cSEdge dSEdge c_6.2.1), .arr 3 1 c_6.2.2.1.length (gL (cInt .i64) 0 c_6.2.2.1), .arr 3 1 c_6.2.2.2.length (gL (cInt .i64) 0 c_6.2.2.2), .arr 3 1 (List.replicate (((a0_n.Arcs).length : Int)).toNat (0 : Int)).length (gL (cInt .i64) 0 (List.replicate (((a0_n.Arcs).length : Int)).toNat (0 : Int)))]⟩) (sub_gen [0, 1, 2, 3, 4] rfl rfl ⟨zc rfl rfl, zc rfl rfl, zc rfl rfl, zc rfl rfl, zc rfl rfl, trivial⟩ ⟨⟨_, rfl, ⟨ii rfl rfl, ii rfl rfl, ii rfl rfl, ii rfl rfl, trivial⟩⟩, oa rfl, oa rfl, oa rfl, oa rfl, trivial⟩) ?_
    refine (SCode.loop (σ := Nat × (Int × (List Int))) (S := fun s => ⟨[(10, .c (.ptr 0 0)), (11, .c (.int .i64 c_6.1)), (12, .c (.own 4 s.2.2.length)), (32, .c (.int .i64 (((List.replicate (((a0_n.Arcs).length : Int)).toNat (0 : Int)).length : Int)))), (33, .c (.int .i64 s.2.1))], [.box [.own 1 c_6.2.1.length, .vec c_4.2.1.length 1 (gL (cVec 1 (cInt .i64) 0) ([]) c_4.2.1), .own 2 c_6.2.2.1.length, .own 3 c_6.2.2.2.length], .arr 59 2 c_6.2.1.length (gL cSEdge dSEdge c_6.2.1), .arr 3 1 c_6.2.2.1.length (gL (cInt .i64) 0 c_6.2.2.1), .arr 3 1 c_6.2.2.2.length (gL (cInt .i64) 0 c_6.2.2.2), .arr 3 1 s.2.2.length (gL (cInt .i64) 0 s.2.2)]⟩) (g := fun s => flow_Max_l19 a0_n c_6 s.1 s.2.1 s.2.2 = some r) (μ := fun s => s.1) (F, (0, List.replicate (((a0_n.Arcs).length : Int)).toNat (0 : Int))) h ?_)
    rintro ⟨n_19, ⟨t33_14, o4_15⟩⟩ h
    replace h : flow_Max_l19 a0_n c_6 n_19 t33_14 o4_15 = some r := h
    show SCode _ _ _ ⟨[(10, .c (.ptr 0 0)), (11, .c (.int .i64 c_6.1)), (12, .c (.own 4 o4_15.length)), (32, .c (.int .i64 (((List.replicate (((a0_n.Arcs).length : Int)).toNat (0 : Int)).length : Int)))), (33, .c (.int .i64 t33_14))], [.box [.own 1 c_6.2.1.length, .vec c_4.2.1.length 1 (gL (cVec 1 (cInt .i64) 0) ([]) c_4.2.1), .own 2 c_6.2.2.1.length, .own 3 c_6.2.2.2.length], .arr 59 2 c_6.2.1.length (gL cSEdge dSEdge c_6.2.1), .arr 3 1 c_6.2.2.1.length (gL (cInt .i64) 0 c_6.2.2.1), .arr 3 1 c_6.2.2.2.length (gL (cInt .i64) 0 c_6.2.2.2), .arr 3 1 o4_15.length (gL (cInt .i64) 0 o4_15)]⟩ _
    cases n_19 with
    | zero => cases h
    | succ n_19 =>
      replace h : flow_Max_b19 a0_n c_6 (fun t33_14 o4_15 => flow_Max_l19 a0_n c_6 n_19 t33_14 o4_15) t33_14 o4_15 = some r := h
      unfold flow_Max_b19 at h
      refine SCode.seq ?_
      refine SCode.region (show SOps _ _ _ [0] _ _ from ?_)
      refine SOps.q rfl (.plain rfl) rfl (q_lss rfl rfl rfl) ?_
      refine SOps.sub (st' := ⟨[(10, .c (.ptr 0 0)), (11, .c (.int .i64 c_6.1)), (12, .c (.own 4 o4_15.length)), (32, .c (.int .i64 (((List.replicate (((a0_n.Arcs).length : Int)).toNat (0 : Int)).length : Int)))), (33, .c (.int .i64 t33_14)), (34, .c (.bool (decide (t33_14 < ((List.replicate (((a0_n.Arcs).length : Int)).toNat (0 : Int)).length : Int)))))], [.box [.own 1 c_6.2.1.length, .vec c_4.2.1.length 1 (gL (cVec 1 (cInt .i64) 0) ([]) c_4.2.1), .own 2 c_6.2.2.1.length, .own 3 c_6.2.2.2.length], .arr 59 2 c_6.2.1.length (gL cSEdge dSEdge c_6.2.1), .arr 3 1 c_6.2.2.1.length (gL (cInt .i64) 0 c_6.2.2.1), .arr 3 1 c_6.2.2.2.length (gL (cInt .i64) 0 c_6.2.2.2), .arr 3 1 o4_15.length (gL (cInt .i64) 0 o4_15)]⟩) (sub_gen [0, 1, 2, 3, 4] rfl rfl ⟨zc rfl rfl, zc rfl rfl, zc rfl rfl, zc rfl rfl, zc rfl rfl, zc rfl rfl, trivial⟩ ⟨⟨_, rfl, ⟨ii rfl rfl, ii rfl rfl, ii rfl rfl, ii rfl rfl, trivial⟩⟩, oa rfl, oa rfl, oa rfl, oa rfl, trivial⟩) ?_
      refine SOps.nil ?_
      refine SCode.seq ?_
      rcases cond_out h with ⟨g20, h⟩ | ⟨g20, h⟩
      · refine SCode.cond_t rfl g20 ?_
        refine SCode.skip ?_
        refine SCode.seq ?_
        refine SCode.block ?_
        refine SCode.seq ?_
        refine SCode.region (show SOps _ _ _ [0, 1] _ _ from ?_)
        refine SOps.q rfl (.plain rfl) rfl (q_move rfl rfl) ?_
        refine SOps.q rfl (.plain rfl) rfl (q_assign rfl rfl) ?_
        refine SOps.sub (st' := ⟨[(10, .c (.ptr 0 0)), (11, .c (.int .i64 c_6.1)), (12, .c (.own 4 o4_15.length)), (13, .c (.int .i64 t33_14)), (32, .c (.int .i64 (((List.replicate (((a0_n.Arcs).length : Int)).toNat (0 : Int)).length : Int)))), (33, .c (.int .i64 t33_14))], [.box [.own 1 c_6.2.1.length, .vec c_4.2.1.length 1 (gL (cVec 1 (cInt .i64) 0) ([]) c_4.2.1), .own 2 c_6.2.2.1.length, .own 3 c_6.2.2.2.length], .arr 59 2 c_6.2.1.length (gL cSEdge dSEdge c_6.2.1), .arr 3 1 c_6.2.2.1.length (gL (cInt .i64) 0 c_6.2.2.1), .arr 3 1 c_6.2.2.2.length (gL (cInt .i64) 0 c_6.2.2.2), .arr 3 1 o4_15.length (gL (cInt .i64) 0 o4_15)]⟩) (sub_gen [0, 1, 2, 3, 4] rfl rfl ⟨zc rfl rfl, zc rfl rfl, zc rfl rfl, zc rfl rfl, zc rfl rfl, zc rfl rfl, trivial⟩ ⟨⟨_, rfl, ⟨ii rfl rfl, ii rfl rfl, ii rfl rfl, ii rfl rfl, trivial⟩⟩, oa rfl, oa rfl, oa rfl, oa rfl, trivial⟩) ?_
        refine SOps.nil ?_
        obtain ⟨g21, h⟩ := guard_out h
        obtain ⟨g22, h⟩ := guard_out h
        refine SCode.region (show SOps _ _ _ [0, 1, 2, 3, 4, 5, 6, 7, 8, 9, 10, 11, 12, 13] _ _ from ?_)
        refine SOps.q rfl (.plain rfl) rfl (q_move rfl rfl) ?_
        refine SOps.q rfl (.plain rfl) rfl (q_move rfl rfl) ?_
        refine SOps.q rfl (.plain rfl) rfl (q_move rfl rfl) ?_
        refine SOps.q rfl (.plain rfl) rfl (q_nilCheck rfl rfl rfl) ?_
        refine SOps.q rfl (.plain rfl) rfl (q_field_ptr rfl rfl fd63_0) ?_
        refine SOps.q rfl (.plain rfl) rfl (q_load_ptr rfl rfl rfl rfl ty60) ?_
        refine SOps.q rfl (.plain rfl) rfl (q_move rfl rfl) ?_
        refine SOps.q rfl (.plain rfl) rfl (q_mul rfl rfl rfl) ?_
        refine SOps.q rfl (.plain rfl) rfl (q_add rfl rfl rfl) ?_
        refine SOps.q rfl (.plain rfl) rfl (q_index_own rfl rfl rfl sl60 g21.1 g21.2) ?_
        refine SOps.q rfl (.plain rfl) rfl (q_field_aptr rfl rfl fd59_1) ?_
        refine SOps.q rfl (.plain rfl) rfl (q_load_aptr rfl rfl rfl (toNat_lt g21) rfl ty3) ?_
        refine SOps.q rfl (.plain rfl) rfl (q_index_own rfl rfl rfl sl30 g22.1 g22.2) ?_
        refine SOps.e rfl (.plain rfl) (e_storeL ((c_6.2.1.getD ((IntKind.wrap .i64 (IntKind.wrap .i64 (2 * t33_14) + 1)).toNat) dSEdge).room) rfl rfl rfl rfl rfl (toNat_lt g22) ty3 rfl rfl rfl rfl rfl rfl) ?_
        refine SOps.sub (st' := ⟨[(10, .c (.ptr 0 0)), (11, .c (.int .i64 c_6.1)), (12, .c (.own 4 (o4_15.set t33_14.toNat ((c_6.2.1.getD ((IntKind.wrap .i64 (IntKind.wrap .i64 (2 * t33_14) + 1)).toNat) dSEdge).room)).length)), (32, .c (.int .i64 (((List.replicate (((a0_n.Arcs).length : Int)).toNat (0 : Int)).length : Int)))), (33, .c (.int .i64 t33_14))], [.box [.own 1 c_6.2.1.length, .vec c_4.2.1.length 1 (gL (cVec 1 (cInt .i64) 0) ([]) c_4.2.1), .own 2 c_6.2.2.1.length, .own 3 c_6.2.2.2.length], .arr 59 2 c_6.2.1.length (gL cSEdge dSEdge c_6.2.1), .arr 3 1 c_6.2.2.1.length (gL (cInt .i64) 0 c_6.2.2.1), .arr 3 1 c_6.2.2.2.length (gL (cInt .i64) 0 c_6.2.2.2), .arr 3 1 (o4_15.set t33_14.toNat ((c_6.2.1.getD ((IntKind.wrap .i64 (IntKind.wrap .i64 (2 * t33_14) + 1)).toNat) dSEdge).room)).length (gL (cInt .i64) 0 (o4_15.set t33_14.toNat ((c_6.2.1.getD ((IntKind.wrap .i64 (IntKind.wrap .i64 (2 * t33_14) + 1)).toNat) dSEdge).room)))]⟩) (sub_gen [0, 1, 2, 3, 4] rfl rfl ⟨zc rfl rfl, zc rfl rfl, ⟨_, rfl, .inl ⟨rfl, congrArg (Cell.own 4) (List.length_set : (o4_15.set t33_14.toNat ((c_6.2.1.getD ((IntKind.wrap .i64 (IntKind.wrap .i64 (2 * t33_14) + 1)).toNat) dSEdge).room)).length = o4_15.length).symm⟩⟩, zc rfl rfl, zc rfl rfl, trivial⟩ ⟨⟨_, rfl, ⟨ii rfl rfl, ii rfl rfl, ii rfl rfl, ii rfl rfl, trivial⟩⟩, oa rfl, oa rfl, oa rfl, oa rfl, trivial⟩) ?_
        refine SOps.nil ?_
        refine SCode.region (show SOps _ _ _ [0, 1] _ _ from ?_)
        refine SOps.q rfl (.plain rfl) rfl (q_add rfl rfl rfl) ?_
        refine SOps.q rfl (.plain rfl) rfl (q_move rfl rfl) ?_
        refine SOps.sub (st' := ⟨[(10, .c (.ptr 0 0)), (11, .c (.int .i64 c_6.1)), (12, .c (.own 4 (o4_15.set t33_14.toNat ((c_6.2.1.getD ((IntKind.wrap .i64 (IntKind.wrap .i64 (2 * t33_14) + 1)).toNat) dSEdge).room)).length)), (32, .c (.int .i64 (((List.replicate (((a0_n.Arcs).length : Int)).toNat (0 : Int)).length : Int)))), (33, .c (.int .i64 (IntKind.wrap .i64 (t33_14 + 1))))], [.box [.own 1 c_6.2.1.length, .vec c_4.2.1.length 1 (gL (cVec 1 (cInt .i64) 0) ([]) c_4.2.1), .own 2 c_6.2.2.1.length, .own 3 c_6.2.2.2.length], .arr 59 2 c_6.2.1.length (gL cSEdge dSEdge c_6.2.1), .arr 3 1 c_6.2.2.1.length (gL (cInt .i64) 0 c_6.2.2.1), .arr 3 1 c_6.2.2.2.length (gL (cInt .i64) 0 c_6.2.2.2), .arr 3 1 (o4_15.set t33_14.toNat ((c_6.2.1.getD ((IntKind.wrap .i64 (IntKind.wrap .i64 (2 * t33_14) + 1)).toNat) dSEdge).room)).length (gL (cInt .i64) 0 (o4_15.set t33_14.toNat ((c_6.2.1.getD ((IntKind.wrap .i64 (IntKind.wrap .i64 (2 * t33_14) + 1)).toNat) dSEdge).room)))]⟩) (sub_gen [0, 1, 2, 3, 4] rfl rfl ⟨zc rfl rfl, zc rfl rfl, zc rfl rfl, zc rfl rfl, zc rfl rfl, trivial⟩ ⟨⟨_, rfl, ⟨ii rfl rfl, ii rfl rfl, ii rfl rfl, ii rfl rfl, trivial⟩⟩, oa rfl, oa rfl, oa rfl, oa rfl, trivial⟩) ?_
        refine SOps.nil ?_
        exact ⟨(n_19, (IntKind.wrap .i64 (t33_14 + 1), o4_15.set t33_14.toNat ((c_6.2.1.getD ((IntKind.wrap .i64 (IntKind.wrap .i64 (2 * t33_14) + 1)).toNat) dSEdge).room))), h, Nat.lt_succ_self n_19, sub_gen [0, 1, 2, 3, 4] rfl rfl ⟨zc rfl rfl, zc rfl rfl, zc rfl rfl, zc rfl rfl, zc rfl rfl, trivial⟩ ⟨⟨_, rfl, ⟨ii rfl rfl, ii rfl rfl, ii rfl rfl, ii rfl rfl, trivial⟩⟩, oa rfl, oa rfl, oa rfl, oa rfl, trivial⟩⟩
      refine SCode.cond_f rfl g20 ?_
      refine SCode.exit ?_
      exact ⟨o4_15, h, sub_gen [4] rfl rfl ⟨zc rfl rfl, zc rfl rfl, trivial⟩ ⟨oa rfl, trivial⟩⟩
  rintro o0_9 h
  show SCode _ _ _ ⟨[(11, .c (.int .i64 c_6.1)), (12, .c (.own 0 o0_9.length))], [.arr 3 1 o0_9.length (gL (cInt .i64) 0 o0_9)]⟩ _
  replace h : flow_Max_p10 c_6 o0_9 = some r := h
  unfold flow_Max_p10 at h
  refine SCode.seq ?_
  refine SCode.region (show SOps _ _ _ [0, 1, 2, 3, 4] _ _ from ?_)
  refine SOps.q rfl (.plain rfl) rfl (q_move rfl rfl) ?_
  refine SOps.q rfl (.plain rfl) rfl (q_move rfl rfl) ?_
  refine SOps.q rfl (.plain rfl) rfl (q_assign rfl rfl) ?_
  refine SOps.q rfl (.plain rfl) rfl (q_assign rfl rfl) ?_
  refine SOps.q rfl (.plain rfl) rfl (q_assign rfl rfl) ?_
  refine SOps.sub (st' := ⟨[(6, .c (.int .i64 c_6.1)), (7, .c (.own 0 o0_9.length)), (8, .c (.int .i64 0))], [.arr 3 1 o0_9.length (gL (cInt .i64) 0 o0_9)]⟩) (sub_gen [0] rfl rfl ⟨zc rfl rfl, zc rfl rfl, zc rfl rfl, trivial⟩ ⟨oa rfl, trivial⟩) ?_
  refine SOps.nil ?_
  refine SCode.ret ?_
  obtain rfl := Option.some.inj h
  exact ⟨⟨[(6, .c (.int .i64 c_6.1)), (7, .c (.vec o0_9.length 1 (gL (cInt .i64) 0 o0_9))), (8, .c (.int .i64 0))], []⟩, _, sub_gen [] rfl rfl ⟨zc rfl rfl, ⟨_, rfl, .inr (.inl ⟨_, _, _, _, _, _, _, rfl, rfl, rfl, Nat.le_refl _, fun _ _ _ _ => rfl, by decide⟩)⟩, zc rfl rfl, trivial⟩ trivial, resA3 (v1 := .c (.int .i64 c_6.1)) (v2 := .c (.vec o0_9.length 1 (gL (cInt .i64) 0 o0_9))) (v3 := .c (.int .i64 0)) rfl rfl rfl rfl, rfl⟩
set_option maxRecDepth 100000 in
set_option maxHeartbeats 8000000 in
theorem flow_Cut_ok (F : Nat) (a0_n : SNet) (a1_source : Int) (a2_sink : Int) (r : (List Bool) × Int) (h : flow_Cut F a0_n a1_source a2_sink = some r) :
    SFun Try.prog 18 [] [.a [.int .i64 a0_n.Nodes, .vec a0_n.Arcs.length 3 (gL cSArc dSArc a0_n.Arcs)], .c (.int .i64 a1_source), .c (.int .i64 a2_sink)] (fun x _ => x = .t [.c (.vec r.1.length 1 (gL cBool false r.1)), .c (.int .i64 r.2)]) := by
  refine SFun.of (n := 46) Try.func18 rfl rfl rfl ?_
  unfold flow_Cut at h
  show SCode _ _ _ ⟨[(0, .a [.int .i64 a0_n.Nodes, .vec a0_n.Arcs.length 3 (gL cSArc dSArc a0_n.Arcs)]), (1, .c (.int .i64 a1_source)), (2, .c (.int .i64 a2_sink))], []⟩ _
  refine SCode.seq ?_
  refine SCode.region (show SOps _ _ _ [0, 1, 2] _ _ from ?_)
  refine SOps.e rfl (.plain rfl) (e_box rfl rfl rfl rfl rfl rfl) ?_
  refine SOps.q rfl (.plain rfl) rfl (q_assign rfl rfl) ?_
  refine SOps.q rfl (.plain rfl) rfl (q_assign rfl rfl) ?_
  refine SOps.sub (st' := ⟨[(1, .c (.int .i64 a1_source)), (2, .c (.int .i64 a2_sink)), (3, .c (.ptr 0 0))], [.box [.int .i64 a0_n.Nodes, .vec a0_n.Arcs.length 3 (gL cSArc dSArc a0_n.Arcs)]]⟩) (sub_gen [0] rfl rfl ⟨zc rfl rfl, zc rfl rfl, zc rfl rfl, trivial⟩ ⟨⟨_, rfl, ⟨ii rfl rfl, ii rfl rfl, trivial⟩⟩, trivial⟩) ?_
  refine SOps.nil ?_
  refine SCode.seq ?_
  refine SCode.seq ?_
  obtain ⟨c_1, g2, h⟩ := bind_out h
  try dsimp only at h
  refine SCode.region (show SOps _ _ _ [0, 1, 2, 3, 4] _ _ from ?_)
  refine SOps.q rfl (.plain rfl) rfl (q_load_ptr_all rfl rfl rfl rfl rfl ty24) ?_
  refine SOps.q rfl (.plain rfl) rfl (q_move rfl rfl) ?_
  refine SOps.q rfl (.plain rfl) rfl (q_move rfl rfl) ?_
  refine SOps.q rfl (.plain rfl) rfl (q_call (flow_valid_ok F a0_n a1_source a2_sink c_1 g2) [] rfl fn27 ⟨⟨rfl, rfl⟩, ⟨_, rfl, .inl ⟨rfl, rfl⟩⟩, ⟨_, rfl, .inl ⟨rfl, rfl⟩⟩, trivial⟩ (.inl rfl)) ?_
  refine SOps.q rfl (.plain rfl) rfl (q_assign rfl rfl) ?_
  refine SOps.sub (st' := ⟨[(1, .c (.int .i64 a1_source)), (2, .c (.int .i64 a2_sink)), (3, .c (.ptr 0 0)), (8, .c (.int .i64 c_1))], [.box [.int .i64 a0_n.Nodes, .vec a0_n.Arcs.length 3 (gL cSArc dSArc a0_n.Arcs)]]⟩) (sub_gen [0] rfl rfl ⟨zc rfl rfl, zc rfl rfl, zc rfl rfl, zc rfl rfl, trivial⟩ ⟨⟨_, rfl, ⟨ii rfl rfl, ii rfl rfl, trivial⟩⟩, trivial⟩) ?_
  refine SOps.nil ?_
  refine SCode.seq ?_
  refine SCode.region (show SOps _ _ _ [0, 1] _ _ from ?_)
  refine SOps.q rfl (.plain rfl) rfl (q_move rfl rfl) ?_
  refine SOps.q rfl (.plain rfl) rfl (q_neq rfl rfl rfl) ?_
  refine SOps.sub (st' := ⟨[(1, .c (.int .i64 a1_source)), (2, .c (.int .i64 a2_sink)), (3, .c (.ptr 0 0)), (8, .c (.int .i64 c_1)), (17, .c (.bool ((!decide (c_1 = 0)))))], [.box [.int .i64 a0_n.Nodes, .vec a0_n.Arcs.length 3 (gL cSArc dSArc a0_n.Arcs)]]⟩) (sub_gen [0] rfl rfl ⟨zc rfl rfl, zc rfl rfl, zc rfl rfl, zc rfl rfl, zc rfl rfl, trivial⟩ ⟨⟨_, rfl, ⟨ii rfl rfl, ii rfl rfl, trivial⟩⟩, trivial⟩) ?_
  refine SOps.nil ?_
  rcases cond_out h with ⟨g3, h⟩ | ⟨g3, h⟩
  · refine SCode.cond_t rfl g3 ?_
    refine SCode.seq ?_
    refine SCode.region (show SOps _ _ _ [0, 1, 2] _ _ from ?_)
    refine SOps.q rfl (.plain rfl) rfl (q_move rfl rfl) ?_
    refine SOps.q rfl (.plain rfl) rfl (q_assign rfl rfl) ?_
    refine SOps.q rfl (.plain rfl) rfl (q_assign rfl rfl) ?_
    refine SOps.sub (st' := ⟨[(6, .c (.raw (.slice none 0 0))), (7, .c (.int .i64 c_1))], []⟩) (sub_gen [] rfl rfl ⟨zc rfl rfl, zc rfl rfl, trivial⟩ trivial) ?_
    refine SOps.nil ?_
    refine SCode.ret ?_
    obtain rfl := Option.some.inj h
    exact ⟨⟨[(6, .c (.vec (([] : List Bool)).length 1 (gL cBool false (([] : List Bool))))), (7, .c (.int .i64 c_1))], []⟩, _, sub_gen [] rfl rfl ⟨⟨_, rfl, .inr (.inr (.inr (.inl ⟨_, _, rfl, rfl⟩)))⟩, zc rfl rfl, trivial⟩ trivial, resA2 (v1 := .c (.vec (([] : List Bool)).length 1 (gL cBool false (([] : List Bool))))) (v2 := .c (.int .i64 c_1)) rfl rfl rfl, rfl⟩
  refine SCode.cond_f rfl g3 ?_
  refine SCode.skip ?_
  refine SCode.seq ?_
  obtain ⟨c_4, g5, h⟩ := bind_out h
  try dsimp only at h
  refine SCode.region (show SOps _ _ _ [0, 1, 2] _ _ from ?_)
  refine SOps.q rfl (.plain rfl) rfl (q_load_ptr_all rfl rfl rfl rfl rfl ty24) ?_
  refine SOps.e rfl (.plain rfl) (e_call (flow_build_own_ok F a0_n c_4 g5) [] rfl fn28 rfl rfl rfl rfl rfl rfl rfl rfl) ?_
  refine SOps.q rfl (.plain rfl) rfl (q_assign rfl rfl) ?_
  refine SOps.sub (st' := ⟨[(1, .c (.int .i64 a1_source)), (2, .c (.int .i64 a2_sink)), (3, .c (.ptr 0 0)), (9, .c (.ptr 1 0))], [.box [.int .i64 a0_n.Nodes, .vec a0_n.Arcs.length 3 (gL cSArc dSArc a0_n.Arcs)], .box [.own 2 c_4.1.length, .vec c_4.2.1.length 1 (gL (cVec 1 (cInt .i64) 0) ([]) c_4.2.1), .own 3 c_4.2.2.1.length, .own 4 c_4.2.2.2.length], .arr 59 2 c_4.1.length (gL cSEdge dSEdge c_4.1), .arr 3 1 c_4.2.2.1.length (gL (cInt .i64) 0 c_4.2.2.1), .arr 3 1 c_4.2.2.2.length (gL (cInt .i64) 0 c_4.2.2.2)]⟩) (sub_gen [0, 1, 2, 3, 4] rfl rfl ⟨zc rfl rfl, zc rfl rfl, zc rfl rfl, zc rfl rfl, trivial⟩ ⟨⟨_, rfl, ⟨ii rfl rfl, ii rfl rfl, trivial⟩⟩, ⟨_, rfl, ⟨ii rfl rfl, ii rfl rfl, ii rfl rfl, ii rfl rfl, trivial⟩⟩, oa rfl, oa rfl, oa rfl, trivial⟩) ?_
  refine SOps.nil ?_
  refine SCode.seq ?_
  obtain ⟨c_6, g7, h⟩ := bind_out h
  try dsimp only at h
  refine SCode.region (show SOps _ _ _ [0, 1, 2, 3] _ _ from ?_)
  refine SOps.q rfl (.plain rfl) rfl (q_move rfl rfl) ?_
  refine SOps.q rfl (.plain rfl) rfl (q_move rfl rfl) ?_
  refine SOps.q rfl (.plain rfl) rfl (q_move rfl rfl) ?_
  refine SOps.e rfl (.plain rfl) (e_call (flow_graph_run_ok F c_4.1 c_4.2.1 c_4.2.2.1 c_4.2.2.2 a1_source a2_sink c_6 g7) [1, 2, 3, 4] rfl fn29 rfl rfl rfl rfl rfl rfl rfl rfl) ?_
  refine SOps.sub (st' := ⟨[(3, .c (.ptr 0 0)), (9, .c (.ptr 1 0))], [.box [.int .i64 a0_n.Nodes, .vec a0_n.Arcs.length 3 (gL cSArc dSArc a0_n.Arcs)], .box [.own 2 c_6.2.1.length, .vec c_4.2.1.length 1 (gL (cVec 1 (cInt .i64) 0) ([]) c_4.2.1), .own 3 c_6.2.2.1.length, .own 4 c_6.2.2.2.length], .arr 59 2 c_6.2.1.length (gL cSEdge dSEdge c_6.2.1), .arr 3 1 c_6.2.2.1.length (gL (cInt .i64) 0 c_6.2.2.1), .arr 3 1 c_6.2.2.2.length (gL (cInt .i64) 0 c_6.2.2.2)]⟩) (sub_gen [0, 1, 2, 3, 4] rfl rfl ⟨zc rfl rfl, zc rfl rfl, trivial⟩ ⟨⟨_, rfl, ⟨ii rfl rfl, ii rfl rfl, trivial⟩⟩, ⟨_, rfl, ⟨ii rfl rfl, ii rfl rfl, ii rfl rfl, ii rfl rfl, trivial⟩⟩, oa rfl, oa rfl, oa rfl, trivial⟩) ?_
  refine SOps.nil ?_
  refine SCode.seq ?_
  obtain ⟨g8, h⟩ := guard_out h
  refine SCode.region (show SOps _ _ _ [0, 1, 2, 3] _ _ from ?_)
  refine SOps.q rfl (.plain rfl) rfl (q_field_ptr rfl rfl fd24_0) ?_
  refine SOps.q rfl (.plain rfl) rfl (q_load_ptr rfl rfl rfl rfl ty3) ?_
  refine SOps.e rfl (.plain rfl) (e_makeL (c := cBool) (d0 := false) rfl rfl rfl rfl rfl sl35 z4 rfl rfl rfl g8.1 (Int.le_refl _) g8.2.1 g8.2.2) ?_
  refine SOps.q rfl (.plain rfl) rfl (q_assign rfl rfl) ?_
  refine SOps.sub (st' := ⟨[(9, .c (.ptr 0 0)), (10, .c (.own 4 (List.replicate a0_n.Nodes.toNat (false : Bool)).length))], [.box [.own 1 c_6.2.1.length, .vec c_4.2.1.length 1 (gL (cVec 1 (cInt .i64) 0) ([]) c_4.2.1), .own 2 c_6.2.2.1.length, .own 3 c_6.2.2.2.length], .arr 59 2 c_6.2.1.length (gL cSEdge dSEdge c_6.2.1), .arr 3 1 c_6.2.2.1.length (gL (cInt .i64) 0 c_6.2.2.1), .arr 3 1 c_6.2.2.2.length (gL (cInt .i64) 0 c_6.2.2.2), .arr 4 1 (List.replicate a0_n.Nodes.toNat (false : Bool)).length (gL cBool false (List.replicate a0_n.Nodes.toNat (false : Bool)))]⟩) (sub_gen [1, 2, 3, 4, 5] rfl rfl ⟨zc rfl rfl, zc rfl rfl, trivial⟩ ⟨⟨_, rfl, ⟨ii rfl rfl, ii rfl rfl, ii rfl rfl, ii rfl rfl, trivial⟩⟩, oa rfl, oa rfl, oa rfl, oa rfl, trivial⟩) ?_
  refine SOps.nil ?_
  refine SCode.join (σ := (List Bool)) (S := fun s => ⟨[(10, .c (.own 0 s.length))], [.arr 4 1 s.length (gL cBool false s)]⟩) (g := fun s => flow_Cut_p10 s = some r) ?_ ?_
  rotate_left
  · refine SCode.seq ?_
    refine SCode.region (show SOps _ _ _ [0, 1, 2] _ _ from ?_)
    refine SOps.q rfl (.plain rfl) rfl (q_move rfl rfl) ?_
    refine SOps.q rfl (.plain rfl) rfl (q_len_own rfl rfl sl35) ?_
    refine SOps.q rfl (.plain rfl) rfl (q_move rfl rfl) ?_
    refine SOps.sub (st' := ⟨[(9, .c (.ptr 0 0)), (10, .c (.own 4 (List.replicate a0_n.Nodes.toNat (false : Bool)).length)), (29, .c (.int .i64 (((List.replicate a0_n.Nodes.toNat (false : Bool)).length : Int)))), (30, .c (.int .i64 0))], [.box [.own 1 c_6.2.1.length, .vec c_4.2.1.length 1 (gL (cVec 1 (cInt .i64) 0) ([]) c_4.2.1), .own 2 c_6.2.2.1.length, .own 3 c_6.2.2.2.length], .arr 59 2 c_6.2.1.length (gL cSEdge dSEdge c_6.2.1), .arr 3 1 c_6.2.2.1.length (gL (cInt .i64) 0 c_6.2.2.1), .arr 3 1 c_6.2.2.2.length (gL (cInt .i64) 0 c_6.2.2.2), .arr 4 1 (List.replicate a0_n.Nodes.toNat (false : Bool)).length (gL cBool false (List.replicate a0_n.Nodes.toNat (false : Bool)))]⟩) (sub_gen [0, 1, 2, 3, 4] rfl rfl ⟨zc rfl rfl, zc rfl rfl, zc rfl rfl, zc rfl rfl, trivial⟩ ⟨⟨_, rfl, ⟨ii rfl rfl, ii rfl rfl, ii rfl rfl, ii rfl rfl, trivial⟩⟩, oa rfl, oa rfl, oa rfl, oa rfl, trivial⟩) ?_
    refine SOps.nil ?_
    refine SCode.block ?_
    refine SCode.sub (st' := ⟨[(9, .c (.ptr 0 0)), (10, .c (.own 4 (List.replicate a0_n.Nodes.toNat (false : Bool)).length)), (29, .c (.int .i64 (((List.replicate a0_n.Nodes.toNat (false : Bool)).length : Int)))), (30, .c (.int .i64 0))], [.box [.own 1 c_6.2.1.length, .vec c_4.2.1.length 1 (gL (cVec 1 (cInt .i64) 0) ([]) c_4.2.1), .own 2 c_6.2.2.1.length, .own 3 c_6.2.2.2.length], .arr 59 2 c_6.2.1.length (gL cSEdge dSEdge c_6.2.1), .arr 3 1 c_6.2.2.1.length (gL (cInt .i64) 0 c_6.2.2.1), .arr 3 1 c_6.2.2.2.length (gL (cInt .i64) 0 c_6.2.2.2), .arr 4 1 (List.replicate a0_n.Nodes.toNat (false : Bool)).length (gL cBool false (List.replicate a0_n.Nodes.toNat (false : Bool)))]⟩) (sub_gen [0, 1, 2, 3, 4] rfl rfl ⟨zc rfl rfl, zc rfl rfl, zc rfl rfl, zc rfl rfl, trivial⟩ ⟨⟨_, rfl, ⟨ii rfl rfl, ii rfl rfl, ii rfl rfl, ii rfl rfl, trivial⟩⟩, oa rfl, oa rfl, oa rfl, oa rfl, trivial⟩) ?_
    refine (SCode.loop (σ := Nat × (Int × (List Bool))) (S := fun s => ⟨[(9, .c (.ptr 0 0)), (10, .c (.own 4 s.2.2.length)), (29, .c (.int .i64 (((List.replicate a0_n.Nodes.toNat (false : Bool)).length : Int)))), (30, .c (.int .i64 s.2.1))], [.box [.own 1 c_6.2.1.length, .vec c_4.2.1.length 1 (gL (cVec 1 (cInt .i64) 0) ([]) c_4.2.1), .own 2 c_6.2.2.1.length, .own 3 c_6.2.2.2.length], .arr 59 2 c_6.2.1.length (gL cSEdge dSEdge c_6.2.1), .arr 3 1 c_6.2.2.1.length (gL (cInt .i64) 0 c_6.2.2.1), .arr 3 1 c_6.2.2.2.length (gL (cInt .i64) 0 c_6.2.2.2), .arr 4 1 s.2.2.length (gL cBool false s.2.2)]⟩) (g := fun s => flow_Cut_l19 a0_n c_6 s.1 s.2.1 s.2.2 = some r) (μ := fun s => s.1) (F, (0, List.replicate a0_n.Nodes.toNat (false : Bool))) h ?_)
    rintro ⟨n_19, ⟨t30_14, o4_15⟩⟩ h
    replace h : flow_Cut_l19 a0_n c_6 n_19 t30_14 o4_15 = some r := h
    show SCode _ _ _ ⟨[(9, .c (.ptr 0 0)), (10, .c (.own 4 o4_15.length)), (29, .c (.int .i64 (((List.replicate a0_n.Nodes.toNat (false : Bool)).length : Int)))), (30, .c (.int .i64 t30_14))], [.box [.own 1 c_6.2.1.length, .vec c_4.2.1.length 1 (gL (cVec 1 (cInt .i64) 0) ([]) c_4.2.1), .own 2 c_6.2.2.1.length, .own 3 c_6.2.2.2.length], .arr 59 2 c_6.2.1.length (gL cSEdge dSEdge c_6.2.1), .arr 3 1 c_6.2.2.1.length (gL (cInt .i64) 0 c_6.2.2.1), .arr 3 1 c_6.2.2.2.length (gL (cInt .i64) 0 c_6.2.2.2), .arr 4 1 o4_15.length (gL cBool false o4_15)]⟩ _
    cases n_19 with
    | zero => cases h
    | succ n_19 =>
      replace h : flow_Cut_b19 a0_n c_6 (fun t30_14 o4_15 => flow_Cut_l19 a0_n c_6 n_19 t30_14 o4_15) t30_14 o4_15 = some r := h
      unfold flow_Cut_b19 at h
      refine SCode.seq ?_
      refine SCode.region (show SOps _ _ _ [0] _ _ from ?_)
      refine SOps.q rfl (.plain rfl) rfl (q_lss rfl rfl rfl) ?_
      refine SOps.sub (st' := ⟨[(9, .c (.ptr 0 0)), (10, .c (.own 4 o4_15.length)), (29, .c (.int .i64 (((List.replicate a0_n.Nodes.toNat (false : Bool)).length : Int)))), (30, .c (.int .i64 t30_14)), (31, .c (.bool (decide (t30_14 < ((List.replicate a0_n.Nodes.toNat (false : Bool)).length : Int)))))], [.box [.own 1 c_6.2.1.length, .vec c_4.2.1.length 1 (gL (cVec 1 (cInt .i64) 0) ([]) c_4.2.1), .own 2 c_6.2.2.1.length, .own 3 c_6.2.2.2.length], .arr 59 2 c_6.2.1.length (gL cSEdge dSEdge c_6.2.1), .arr 3 1 c_6.2.2.1.length (gL (cInt .i64) 0 c_6.2.2.1), .arr 3 1 c_6.2.2.2.length (gL (cInt .i64) 0 c_6.2.2.2), .arr 4 1 o4_15.length (gL cBool false o4_15)]⟩) (sub_gen [0, 1, 2, 3, 4] rfl rfl ⟨zc rfl rfl, zc rfl rfl, zc rfl rfl, zc rfl rfl, zc rfl rfl, trivial⟩ ⟨⟨_, rfl, ⟨ii rfl rfl, ii rfl rfl, ii rfl rfl, ii rfl rfl, trivial⟩⟩, oa rfl, oa rfl, oa rfl, oa rfl, trivial⟩) ?_
      refine SOps.nil ?_
      refine SCode.seq ?_
      rcases cond_out h with ⟨g20, h⟩ | ⟨g20, h⟩
      · refine SCode.cond_t rfl g20 ?_
        refine SCode.skip ?_
        refine SCode.seq ?_
        refine SCode.block ?_
        refine SCode.seq ?_
        refine SCode.region (show SOps _ _ _ [0, 1] _ _ from ?_)
        refine SOps.q rfl (.plain rfl) rfl (q_move rfl rfl) ?_
        refine SOps.q rfl (.plain rfl) rfl (q_assign rfl rfl) ?_
        refine SOps.sub (st' := ⟨[(9, .c (.ptr 0 0)), (10, .c (.own 4 o4_15.length)), (11, .c (.int .i64 t30_14)), (29, .c (.int .i64 (((List.replicate a0_n.Nodes.toNat (false : Bool)).length : Int)))), (30, .c (.int .i64 t30_14))], [.box [.own 1 c_6.2.1.length, .vec c_4.2.1.length 1 (gL (cVec 1 (cInt .i64) 0) ([]) c_4.2.1), .own 2 c_6.2.2.1.length, .own 3 c_6.2.2.2.length], .arr 59 2 c_6.2.1.length (gL cSEdge dSEdge c_6.2.1), .arr 3 1 c_6.2.2.1.length (gL (cInt .i64) 0 c_6.2.2.1), .arr 3 1 c_6.2.2.2.length (gL (cInt .i64) 0 c_6.2.2.2), .arr 4 1 o4_15.length (gL cBool false o4_15)]⟩) (sub_gen [0, 1, 2, 3, 4] rfl rfl ⟨zc rfl rfl, zc rfl rfl, zc rfl rfl, zc rfl rfl, zc rfl rfl, trivial⟩ ⟨⟨_, rfl, ⟨ii rfl rfl, ii rfl rfl, ii rfl rfl, ii rfl rfl, trivial⟩⟩, oa rfl, oa rfl, oa rfl, oa rfl, trivial⟩) ?_
        refine SOps.nil ?_
        obtain ⟨g21, h⟩ := guard_out h
        obtain ⟨g22, h⟩ := guard_out h
        refine SCode.region (show SOps _ _ _ [0, 1, 2, 3, 4, 5, 6, 7, 8, 9, 10, 11] _ _ from ?_)
        refine SOps.q rfl (.plain rfl) rfl (q_move rfl rfl) ?_
        refine SOps.q rfl (.plain rfl) rfl (q_move rfl rfl) ?_
        refine SOps.q rfl (.plain rfl) rfl (q_move rfl rfl) ?_
        refine SOps.q rfl (.plain rfl) rfl (q_nilCheck rfl rfl rfl) ?_
        refine SOps.q rfl (.plain rfl) rfl (q_field_ptr rfl rfl fd63_2) ?_
        refine SOps.q rfl (.plain rfl) rfl (q_load_ptr rfl rfl rfl rfl ty30) ?_
        refine SOps.q rfl (.plain rfl) rfl (q_move rfl rfl) ?_
        refine SOps.q rfl (.plain rfl) rfl (q_index_own rfl rfl rfl sl30 g21.1 g21.2) ?_
        refine SOps.q rfl (.plain rfl) rfl (q_load_aptr rfl rfl rfl (toNat_lt g21) rfl ty3) ?_
        refine SOps.q rfl (.plain rfl) rfl (q_geq rfl rfl rfl) ?_
        refine SOps.q rfl (.plain rfl) rfl (q_index_own rfl rfl rfl sl35 g22.1 g22.2) ?_
        refine SOps.e rfl (.plain rfl) (e_storeL (decide (0 ≤ c_6.2.2.1.getD t30_14.toNat 0)) rfl rfl rfl rfl rfl (toNat_lt g22) ty4 rfl rfl rfl rfl rfl rfl) ?_
        refine SOps.sub (st' := ⟨[(9, .c (.ptr 0 0)), (10, .c (.own 4 (o4_15.set t30_14.toNat (decide (0 ≤ c_6.2.2.1.getD t30_14.toNat 0))).length)), (29, .c (.int .i64 (((List.replicate a0_n.Nodes.toNat (false : Bool)).length : Int)))), (30, .c (.int .i64 t30_14))], [.box [.own 1 c_6.2.1.length, .vec c_4.2.1.length 1 (gL (cVec 1 (cInt .i64) 0) ([]) c_4.2.1), .own 2 c_6.2.2.1.length, .own 3 c_6.2.2.2.length], .arr 59 2 c_6.2.1.length (gL cSEdge dSEdge c_6.2.1), .arr 3 1 c_6.2.2.1.length (gL (cInt .i64) 0 c_6.2.2.1), .arr 3 1 c_6.2.2.2.length (gL (cInt .i64) 0 c_6.2.2.2), .arr 4 1 (o4_15.set t30_14.toNat (decide (0 ≤ c_6.2.2.1.getD t30_14.toNat 0))).length (gL cBool false (o4_15.set t30_14.toNat (decide (0 ≤ c_6.2.2.1.getD t30_14.toNat 0))))]⟩) (sub_gen [0, 1, 2, 3, 4] rfl rfl ⟨zc rfl rfl, ⟨_, rfl, .inl ⟨rfl, congrArg (Cell.own 4) (List.length_set : (o4_15.set t30_14.toNat (decide (0 ≤ c_6.2.2.1.getD t30_14.toNat 0))).length = o4_15.length).symm⟩⟩, zc rfl rfl, zc rfl rfl, trivial⟩ ⟨⟨_, rfl, ⟨ii rfl rfl, ii rfl rfl, ii rfl rfl, ii rfl rfl, trivial⟩⟩, oa rfl, oa rfl, oa rfl, oa rfl, trivial⟩) ?_
        refine SOps.nil ?_
        refine SCode.region (show SOps _ _ _ [0, 1] _ _ from ?_)
        refine SOps.q rfl (.plain rfl) rfl (q_add rfl rfl rfl) ?_
        refine SOps.q rfl (.plain rfl) rfl (q_move rfl rfl) ?_
        refine SOps.sub (st' := ⟨[(9, .c (.ptr 0 0)), (10, .c (.own 4 (o4_15.set t30_14.toNat (decide (0 ≤ c_6.2.2.1.getD t30_14.toNat 0))).length)), (29, .c (.int .i64 (((List.replicate a0_n.Nodes.toNat (false : Bool)).length : Int)))), (30, .c (.int .i64 (IntKind.wrap .i64 (t30_14 + 1))))], [.box [.own 1 c_6.2.1.length, .vec c_4.2.1.length 1 (gL (cVec 1 (cInt .i64) 0) ([]) c_4.2.1), .own 2 c_6.2.2.1.length, .own 3 c_6.2.2.2.length], .arr 59 2 c_6.2.1.length (gL cSEdge dSEdge c_6.2.1), .arr 3 1 c_6.2.2.1.length (gL (cInt .i64) 0 c_6.2.2.1), .arr 3 1 c_6.2.2.2.length (gL (cInt .i64) 0 c_6.2.2.2), .arr 4 1 (o4_15.set t30_14.toNat (decide (0 ≤ c_6.2.2.1.getD t30_14.toNat 0))).length (gL cBool false (o4_15.set t30_14.toNat (decide (0 ≤ c_6.2.2.1.getD t30_14.toNat 0))))]⟩) (sub_gen [0, 1, 2, 3, 4] rfl rfl ⟨zc rfl rfl, zc rfl rfl, zc rfl rfl, zc rfl rfl, trivial⟩ ⟨⟨_, rfl, ⟨ii rfl rfl, ii rfl rfl, ii rfl rfl, ii rfl rfl, trivial⟩⟩, oa rfl, oa rfl, oa rfl, oa rfl, trivial⟩) ?_
        refine SOps.nil ?_
        exact ⟨(n_19, (IntKind.wrap .i64 (t30_14 + 1), o4_15.set t30_14.toNat (decide (0 ≤ c_6.2.2.1.getD t30_14.toNat 0)))), h, Nat.lt_succ_self n_19, sub_gen [0, 1, 2, 3, 4] rfl rfl ⟨zc rfl rfl, zc rfl rfl, zc rfl rfl, zc rfl rfl, trivial⟩ ⟨⟨_, rfl, ⟨ii rfl rfl, ii rfl rfl, ii rfl rfl, ii rfl rfl, trivial⟩⟩, oa rfl, oa rfl, oa rfl, oa rfl, trivial⟩⟩
      refine SCode.cond_f rfl g20 ?_
      refine SCode.exit ?_
      exact ⟨o4_15, h, sub_gen [4] rfl rfl ⟨zc rfl rfl, trivial⟩ ⟨oa rfl, trivial⟩⟩
  rintro o0_9 h
  show SCode _ _ _ ⟨[(10, .c (.own 0 o0_9.length))], [.arr 4 1 o0_9.length (gL cBool false o0_9)]⟩ _
  replace h : flow_Cut_p10 o0_9 = some r := h
  unfold flow_Cut_p10 at h
  refine SCode.seq ?_
  refine SCode.region (show SOps _ _ _ [0, 1, 2] _ _ from ?_)
  refine SOps.q rfl (.plain rfl) rfl (q_move rfl rfl) ?_
  refine SOps.q rfl (.plain rfl) rfl (q_assign rfl rfl) ?_
  refine SOps.q rfl (.plain rfl) rfl (q_assign rfl rfl) ?_
  refine SOps.sub (st' := ⟨[(6, .c (.own 0 o0_9.length)), (7, .c (.int .i64 0))], [.arr 4 1 o0_9.length (gL cBool false o0_9)]⟩) (sub_gen [0] rfl rfl ⟨zc rfl rfl, zc rfl rfl, trivial⟩ ⟨oa rfl, trivial⟩) ?_
  refine SOps.nil ?_
  refine SCode.ret ?_
  obtain rfl := Option.some.inj h
  exact ⟨⟨[(6, .c (.vec o0_9.length 1 (gL cBool false o0_9))), (7, .c (.int .i64 0))], []⟩, _, sub_gen [] rfl rfl ⟨⟨_, rfl, .inr (.inl ⟨_, _, _, _, _, _, _, rfl, rfl, rfl, Nat.le_refl _, fun _ _ _ _ => rfl, by decide⟩)⟩, zc rfl rfl, trivial⟩ trivial, resA2 (v1 := .c (.vec o0_9.length 1 (gL cBool false o0_9))) (v2 := .c (.int .i64 0)) rfl rfl rfl, rfl⟩
set_option maxRecDepth 100000 in
set_option maxHeartbeats 8000000 in
theorem chargenetref09_Same_ok (F : Nat) (a0_a : List Bool) (a1_b : List Bool) (r : Bool) (h : chargenetref09_Same F a0_a a1_b = some r) :
    SFun Try.prog 19 [] [.c (.vec a0_a.length 1 (gL cBool false a0_a)), .c (.vec a1_b.length 1 (gL cBool false a1_b))] (fun x _ => x = .c (.bool r)) := by
  refine SFun.of (n := 26) Try.func19 rfl rfl rfl ?_
  unfold chargenetref09_Same at h
  show SCode _ _ _ ⟨[(0, .c (.vec a0_a.length 1 (gL cBool false a0_a))), (1, .c (.vec a1_b.length 1 (gL cBool false a1_b)))], []⟩ _
  refine SCode.seq ?_
  refine SCode.region (show SOps _ _ _ [0] _ _ from ?_)
  refine SOps.q rfl (.plain rfl) rfl (q_assign rfl rfl) ?_
  refine SOps.sub (st' := ⟨[(0, .c (.vec a0_a.length 1 (gL cBool false a0_a))), (1, .c (.vec a1_b.length 1 (gL cBool false a1_b)))], []⟩) (sub_gen [] rfl rfl ⟨zc rfl rfl, zc rfl rfl, trivial⟩ trivial) ?_
  refine SOps.nil ?_
  refine SCode.seq ?_
  refine SCode.seq ?_
  refine SCode.region (show SOps _ _ _ [0, 1, 2, 3, 4] _ _ from ?_)
  refine SOps.q rfl (.plain rfl) rfl (q_move rfl rfl) ?_
  refine SOps.q rfl (.plain rfl) rfl (q_len_vec rfl rfl sl35) ?_
  refine SOps.q rfl (.plain rfl) rfl (q_move rfl rfl) ?_
  refine SOps.q rfl (.plain rfl) rfl (q_len_vec rfl rfl sl35) ?_
  refine SOps.q rfl (.plain rfl) rfl (q_neq rfl rfl rfl) ?_
  refine SOps.sub (st' := ⟨[(0, .c (.vec a0_a.length 1 (gL cBool false a0_a))), (1, .c (.vec a1_b.length 1 (gL cBool false a1_b))), (10, .c (.bool ((!decide (((a0_a).length : Int) = ((a1_b).length : Int))))))], []⟩) (sub_gen [] rfl rfl ⟨zc rfl rfl, zc rfl rfl, zc rfl rfl, trivial⟩ trivial) ?_
  refine SOps.nil ?_
  rcases cond_out h with ⟨g1, h⟩ | ⟨g1, h⟩
  · refine SCode.cond_t rfl g1 ?_
    refine SCode.seq ?_
    refine SCode.region (show SOps _ _ _ [0] _ _ from ?_)
    refine SOps.q rfl (.plain rfl) rfl (q_assign rfl rfl) ?_
    refine SOps.sub (st' := ⟨[(4, .c (.bool false))], []⟩) (sub_gen [] rfl rfl ⟨zc rfl rfl, trivial⟩ trivial) ?_
    refine SOps.nil ?_
    refine SCode.ret ?_
    obtain rfl := Option.some.inj h
    exact ⟨⟨[(4, .c (.bool false))], []⟩, _, sub_gen [] rfl rfl ⟨zc rfl rfl, trivial⟩ trivial, resA1 (v := .c (.bool false)) rfl rfl, rfl⟩
  refine SCode.cond_f rfl g1 ?_
  refine SCode.skip ?_
  refine SCode.join (σ := Unit) (S := fun s => ⟨[], []⟩) (g := fun s => chargenetref09_Same_p2 = some r) ?_ ?_
  rotate_left
  · refine SCode.seq ?_
    refine SCode.region (show SOps _ _ _ [0] _ _ from ?_)
    refine SOps.q rfl (.plain rfl) rfl (q_assign rfl rfl) ?_
    refine SOps.sub (st' := ⟨[(0, .c (.vec a0_a.length 1 (gL cBool false a0_a))), (1, .c (.vec a1_b.length 1 (gL cBool false a1_b))), (5, .c (.int .i64 0))], []⟩) (sub_gen [] rfl rfl ⟨zc rfl rfl, zc rfl rfl, zc rfl rfl, trivial⟩ trivial) ?_
    refine SOps.nil ?_
    refine SCode.block ?_
    refine SCode.sub (st' := ⟨[(0, .c (.vec a0_a.length 1 (gL cBool false a0_a))), (1, .c (.vec a1_b.length 1 (gL cBool false a1_b))), (5, .c (.int .i64 0))], []⟩) (sub_gen [] rfl rfl ⟨zc rfl rfl, zc rfl rfl, zc rfl rfl, trivial⟩ trivial) ?_
    refine (SCode.loop (σ := Nat × Int) (S := fun s => ⟨[(0, .c (.vec a0_a.length 1 (gL cBool false a0_a))), (1, .c (.vec a1_b.length 1 (gL cBool false a1_b))), (5, .c (.int .i64 s.2))], []⟩) (g := fun s => chargenetref09_Same_l12 a0_a a1_b s.1 s.2 = some r) (μ := fun s => s.1) (F, 0) h ?_)
    rintro ⟨n_12, i_7⟩ h
    replace h : chargenetref09_Same_l12 a0_a a1_b n_12 i_7 = some r := h
    show SCode _ _ _ ⟨[(0, .c (.vec a0_a.length 1 (gL cBool false a0_a))), (1, .c (.vec a1_b.length 1 (gL cBool false a1_b))), (5, .c (.int .i64 i_7))], []⟩ _
    cases n_12 with
    | zero => cases h
    | succ n_12 =>
      replace h : chargenetref09_Same_b12 a0_a a1_b (fun i_7 => chargenetref09_Same_l12 a0_a a1_b n_12 i_7) i_7 = some r := h
      unfold chargenetref09_Same_b12 at h
      refine SCode.seq ?_
      refine SCode.seq ?_
      refine SCode.region (show SOps _ _ _ [0, 1, 2, 3] _ _ from ?_)
      refine SOps.q rfl (.plain rfl) rfl (q_move rfl rfl) ?_
      refine SOps.q rfl (.plain rfl) rfl (q_move rfl rfl) ?_
      refine SOps.q rfl (.plain rfl) rfl (q_len_vec rfl rfl sl35) ?_
      refine SOps.q rfl (.plain rfl) rfl (q_lss rfl rfl rfl) ?_
      refine SOps.sub (st' := ⟨[(0, .c (.vec a0_a.length 1 (gL cBool false a0_a))), (1, .c (.vec a1_b.length 1 (gL cBool false a1_b))), (5, .c (.int .i64 i_7)), (14, .c (.bool (decide (i_7 < ((a0_a).length : Int)))))], []⟩) (sub_gen [] rfl rfl ⟨zc rfl rfl, zc rfl rfl, zc rfl rfl, zc rfl rfl, trivial⟩ trivial) ?_
      refine SOps.nil ?_
      rcases cond_out h with ⟨g13, h⟩ | ⟨g13, h⟩
      · refine SCode.cond_t rfl g13 ?_
        refine SCode.skip ?_
        refine SCode.seq ?_
        refine SCode.block ?_
        refine SCode.seq ?_
        obtain ⟨g14, h⟩ := guard_out h
        obtain ⟨g15, h⟩ := guard_out h
        refine SCode.draw (s' := [(25, .c (.bool ((!(a0_a.getD i_7.toNat false == a1_b.getD i_7.toNat false))))), (24, .c (.bool (a1_b.getD i_7.toNat false))), (23, .c (.eptr 1 (cBool (a1_b.getD i_7.toNat false)) 0)), (22, .c (.int .i64 i_7)), (21, .c (.vec a1_b.length 1 (gL cBool false a1_b))), (20, .c (.bool (a0_a.getD i_7.toNat false))), (19, .c (.eptr 1 (cBool (a0_a.getD i_7.toNat false)) 0)), (18, .c (.int .i64 i_7)), (17, .c (.vec a0_a.length 1 (gL cBool false a0_a))), (0, .c (.vec a0_a.length 1 (gL cBool false a0_a))), (1, .c (.vec a1_b.length 1 (gL cBool false a1_b))), (5, .c (.int .i64 i_7)), (14, .c (.bool (decide (i_7 < ((a0_a).length : Int)))))]) mixed [[], [], [0, 1], [0, 1, 2], [], [], [4, 5], [4, 5, 6], [0, 1, 2, 3, 4, 5, 6, 7]] 9 0 rfl rfl ?_ ?_
        · refine QChain.run rfl (.plain rfl) rfl (q_move rfl rfl) ?_
          refine QChain.run rfl (.plain rfl) rfl (q_move rfl rfl) ?_
          refine QChain.run rfl (.plain rfl) rfl (q_index_vec rfl rfl rfl sl35 rfl g14.1 g14.2) ?_
          refine QChain.run rfl (.plain rfl) rfl (q_load_eptr rfl rfl ty4) ?_
          refine QChain.run rfl (.plain rfl) rfl (q_move rfl rfl) ?_
          refine QChain.run rfl (.plain rfl) rfl (q_move rfl rfl) ?_
          refine QChain.run rfl (.plain rfl) rfl (q_index_vec rfl rfl rfl sl35 rfl g15.1 g15.2) ?_
          refine QChain.run rfl (.plain rfl) rfl (q_load_eptr rfl rfl ty4) ?_
          refine QChain.run rfl (.plain rfl) rfl (q_neqB rfl rfl rfl un4) ?_
          exact QChain.nil _ _
        refine (show SOps _ _ _ [] _ _ from ?_)
        refine SOps.sub (st' := ⟨[(0, .c (.vec a0_a.length 1 (gL cBool false a0_a))), (1, .c (.vec a1_b.length 1 (gL cBool false a1_b))), (5, .c (.int .i64 i_7)), (25, .c (.bool ((!(a0_a.getD i_7.toNat false == a1_b.getD i_7.toNat false)))))], []⟩) (sub_gen [] rfl rfl ⟨zc rfl rfl, zc rfl rfl, zc rfl rfl, zc rfl rfl, trivial⟩ trivial) ?_
        refine SOps.nil ?_
        rcases cond_out h with ⟨g16, h⟩ | ⟨g16, h⟩
        · refine SCode.cond_t rfl g16 ?_
          refine SCode.seq ?_
          refine SCode.region (show SOps _ _ _ [0] _ _ from ?_)
          refine SOps.q rfl (.plain rfl) rfl (q_assign rfl rfl) ?_
          refine SOps.sub (st' := ⟨[(4, .c (.bool false))], []⟩) (sub_gen [] rfl rfl ⟨zc rfl rfl, trivial⟩ trivial) ?_
          refine SOps.nil ?_
          refine SCode.ret ?_
          obtain rfl := Option.some.inj h
          exact ⟨⟨[(4, .c (.bool false))], []⟩, _, sub_gen [] rfl rfl ⟨zc rfl rfl, trivial⟩ trivial, resA1 (v := .c (.bool false)) rfl rfl, rfl⟩
        refine SCode.cond_f rfl g16 ?_
        refine SCode.skip ?_
        refine SCode.region (show SOps _ _ _ [0, 1, 2] _ _ from ?_)
        refine SOps.q rfl (.plain rfl) rfl (q_move rfl rfl) ?_
        refine SOps.q rfl (.plain rfl) rfl (q_add rfl rfl rfl) ?_
        refine SOps.q rfl (.plain rfl) rfl (q_assign rfl rfl) ?_
        refine SOps.sub (st' := ⟨[(0, .c (.vec a0_a.length 1 (gL cBool false a0_a))), (1, .c (.vec a1_b.length 1 (gL cBool false a1_b))), (5, .c (.int .i64 (IntKind.wrap .i64 (i_7 + 1))))], []⟩) (sub_gen [] rfl rfl ⟨zc rfl rfl, zc rfl rfl, zc rfl rfl, trivial⟩ trivial) ?_
        refine SOps.nil ?_
        exact ⟨(n_12, IntKind.wrap .i64 (i_7 + 1)), h, Nat.lt_succ_self n_12, sub_gen [] rfl rfl ⟨zc rfl rfl, zc rfl rfl, zc rfl rfl, trivial⟩ trivial⟩
      refine SCode.cond_f rfl g13 ?_
      refine SCode.exit ?_
      exact ⟨(), h, sub_gen [] rfl rfl trivial trivial⟩
  rintro ⟨⟩ h
  show SCode _ _ _ ⟨[], []⟩ _
  replace h : chargenetref09_Same_p2 = some r := h
  unfold chargenetref09_Same_p2 at h
  refine SCode.seq ?_
  refine SCode.region (show SOps _ _ _ [0] _ _ from ?_)
  refine SOps.q rfl (.plain rfl) rfl (q_assign rfl rfl) ?_
  refine SOps.sub (st' := ⟨[(4, .c (.bool true))], []⟩) (sub_gen [] rfl rfl ⟨zc rfl rfl, trivial⟩ trivial) ?_
  refine SOps.nil ?_
  refine SCode.ret ?_
  obtain rfl := Option.some.inj h
  exact ⟨⟨[(4, .c (.bool true))], []⟩, _, sub_gen [] rfl rfl ⟨zc rfl rfl, trivial⟩ trivial, resA1 (v := .c (.bool true)) rfl rfl, rfl⟩
set_option maxRecDepth 100000 in
set_option maxHeartbeats 8000000 in
theorem flow_Check_ok (F : Nat) (a0_n : SNet) (a1_source : Int) (a2_sink : Int) (a3_l : List Int) (r : Int × Bool) (h : flow_Check F a0_n a1_source a2_sink a3_l = some r) :
    SFun Try.prog 23 [] [.a [.int .i64 a0_n.Nodes, .vec a0_n.Arcs.length 3 (gL cSArc dSArc a0_n.Arcs)], .c (.int .i64 a1_source), .c (.int .i64 a2_sink), .c (.vec a3_l.length 1 (gL (cInt .i64) 0 a3_l))] (fun x _ => x = .t [.c (.int .i64 r.1), .c (.bool r.2)]) := by
  refine SFun.of (n := 100) Try.func23 rfl rfl rfl ?_
  unfold flow_Check at h
  show SCode _ _ _ ⟨[(0, .a [.int .i64 a0_n.Nodes, .vec a0_n.Arcs.length 3 (gL cSArc dSArc a0_n.Arcs)]), (1, .c (.int .i64 a1_source)), (2, .c (.int .i64 a2_sink)), (3, .c (.vec a3_l.length 1 (gL (cInt .i64) 0 a3_l)))], []⟩ _
  refine SCode.seq ?_
  refine SCode.region (show SOps _ _ _ [0, 1, 2] _ _ from ?_)
  refine SOps.e rfl (.plain rfl) (e_box rfl rfl rfl rfl rfl rfl) ?_
  refine SOps.q rfl (.plain rfl) rfl (q_assign rfl rfl) ?_
  refine SOps.q rfl (.plain rfl) rfl (q_assign rfl rfl) ?_
  refine SOps.sub (st' := ⟨[(1, .c (.int .i64 a1_source)), (2, .c (.int .i64 a2_sink)), (3, .c (.vec a3_l.length 1 (gL (cInt .i64) 0 a3_l))), (4, .c (.ptr 0 0))], [.box [.int .i64 a0_n.Nodes, .vec a0_n.Arcs.length 3 (gL cSArc dSArc a0_n.Arcs)]]⟩) (sub_gen [0] rfl rfl ⟨zc rfl rfl, zc rfl rfl, zc rfl rfl, zc rfl rfl, trivial⟩ ⟨⟨_, rfl, ⟨ii rfl rfl, ii rfl rfl, trivial⟩⟩, trivial⟩) ?_
  refine SOps.nil ?_
  refine SCode.seq ?_
  refine SCode.seq ?_
  obtain ⟨c_1, g2, h⟩ := bind_out h
  try dsimp only at h
  rcases cond_out h with ⟨g3, h⟩ | ⟨g3, h⟩
  · refine SCode.region (show SOps _ _ _ [0, 1, 2, 3, 4, 5, 6, 7, 8, 9, 10, 11, 12] _ _ from ?_)
    refine SOps.q rfl (.plain rfl) rfl (q_load_ptr_all rfl rfl rfl rfl rfl ty24) ?_
    refine SOps.q rfl (.plain rfl) rfl (q_move rfl rfl) ?_
    refine SOps.q rfl (.plain rfl) rfl (q_move rfl rfl) ?_
    refine SOps.q rfl (.plain rfl) rfl (q_call (flow_valid_ok F a0_n a1_source a2_sink c_1 g2) [] rfl fn27 ⟨⟨rfl, rfl⟩, ⟨_, rfl, .inl ⟨rfl, rfl⟩⟩, ⟨_, rfl, .inl ⟨rfl, rfl⟩⟩, trivial⟩ (.inl rfl)) ?_
    refine SOps.q rfl (.plain rfl) rfl (q_neq rfl rfl rfl) ?_
    refine SOps.q rfl (.plain rfl) rfl (q_move rfl rfl) ?_
    refine SOps.skip rfl 5 20 false rfl rfl (.inl (gT g3)) rfl ?_
    refine SOps.skip rfl 5 20 false rfl rfl (.inl (gT g3)) rfl ?_
    refine SOps.skip rfl 5 20 false rfl rfl (.inl (gT g3)) rfl ?_
    refine SOps.skip rfl 5 20 false rfl rfl (.inl (gT g3)) rfl ?_
    refine SOps.skip rfl 5 20 false rfl rfl (.inl (gT g3)) rfl ?_
    refine SOps.skip rfl 5 20 false rfl rfl (.inl (gT g3)) rfl ?_
    refine SOps.q rfl (.plain rfl) rfl (q_pick_t rfl rfl g3 rfl) ?_
    refine SOps.sub (st' := ⟨[(1, .c (.int .i64 a1_source)), (2, .c (.int .i64 a2_sink)), (3, .c (.vec a3_l.length 1 (gL (cInt .i64) 0 a3_l))), (4, .c (.ptr 0 0)), (27, .c (.bool true))], [.box [.int .i64 a0_n.Nodes, .vec a0_n.Arcs.length 3 (gL cSArc dSArc a0_n.Arcs)]]⟩) (sub_gen [0] rfl rfl ⟨zc rfl rfl, zc rfl rfl, zc rfl rfl, zc rfl rfl, zc rfl rfl, trivial⟩ ⟨⟨_, rfl, ⟨ii rfl rfl, ii rfl rfl, trivial⟩⟩, trivial⟩) ?_
    refine SOps.nil ?_
    refine SCode.cond_t rfl rfl ?_
    refine SCode.seq ?_
    refine SCode.region (show SOps _ _ _ [0, 1] _ _ from ?_)
    refine SOps.q rfl (.plain rfl) rfl (q_assign rfl rfl) ?_
    refine SOps.q rfl (.plain rfl) rfl (q_assign rfl rfl) ?_
    refine SOps.sub (st' := ⟨[(8, .c (.int .i64 0)), (9, .c (.bool false))], []⟩) (sub_gen [] rfl rfl ⟨zc rfl rfl, zc rfl rfl, trivial⟩ trivial) ?_
    refine SOps.nil ?_
    refine SCode.ret ?_
    obtain rfl := Option.some.inj h
    exact ⟨⟨[(8, .c (.int .i64 0)), (9, .c (.bool false))], []⟩, _, sub_gen [] rfl rfl ⟨zc rfl rfl, zc rfl rfl, trivial⟩ trivial, resA2 (v1 := .c (.int .i64 0)) (v2 := .c (.bool false)) rfl rfl rfl, rfl⟩
  refine SCode.region (show SOps _ _ _ [0, 1, 2, 3, 4, 5, 6, 7, 8, 9, 10, 11, 12] _ _ from ?_)
  refine SOps.q rfl (.plain rfl) rfl (q_load_ptr_all rfl rfl rfl rfl rfl ty24) ?_
  refine SOps.q rfl (.plain rfl) rfl (q_move rfl rfl) ?_
  refine SOps.q rfl (.plain rfl) rfl (q_move rfl rfl) ?_
  refine SOps.q rfl (.plain rfl) rfl (q_call (flow_valid_ok F a0_n a1_source a2_sink c_1 g2) [] rfl fn27 ⟨⟨rfl, rfl⟩, ⟨_, rfl, .inl ⟨rfl, rfl⟩⟩, ⟨_, rfl, .inl ⟨rfl, rfl⟩⟩, trivial⟩ (.inl rfl)) ?_
  refine SOps.q rfl (.plain rfl) rfl (q_neq rfl rfl rfl) ?_
  refine SOps.q rfl (.plain rfl) rfl (q_move rfl rfl) ?_
  refine SOps.q rfl (.guard 5 20 false rfl rfl (gF g3)) rfl (q_move rfl rfl) ?_
  refine SOps.q rfl (.guard 5 20 false rfl rfl (gF g3)) rfl (q_len_vec rfl rfl sl30) ?_
  refine SOps.q rfl (.guard 5 20 false rfl rfl (gF g3)) rfl (q_field_ptr rfl rfl fd24_1) ?_
  refine SOps.q rfl (.guard 5 20 false rfl rfl (gF g3)) rfl (q_load_ptr rfl rfl rfl rfl ty22) ?_
  refine SOps.q rfl (.guard 5 20 false rfl rfl (gF g3)) rfl (q_len_vec rfl rfl sl22) ?_
  refine SOps.q rfl (.guard 5 20 false rfl rfl (gF g3)) rfl (q_neq rfl rfl rfl) ?_
  refine SOps.q rfl (.plain rfl) rfl (q_pick_f rfl rfl g3 rfl) ?_
  refine SOps.sub (st' := ⟨[(1, .c (.int .i64 a1_source)), (2, .c (.int .i64 a2_sink)), (3, .c (.vec a3_l.length 1 (gL (cInt .i64) 0 a3_l))), (4, .c (.ptr 0 0)), (27, .c (.bool ((!decide (((a3_l).length : Int) = ((a0_n.Arcs).length : Int))))))], [.box [.int .i64 a0_n.Nodes, .vec a0_n.Arcs.length 3 (gL cSArc dSArc a0_n.Arcs)]]⟩) (sub_gen [0] rfl rfl ⟨zc rfl rfl, zc rfl rfl, zc rfl rfl, zc rfl rfl, zc rfl rfl, trivial⟩ ⟨⟨_, rfl, ⟨ii rfl rfl, ii rfl rfl, trivial⟩⟩, trivial⟩) ?_
  refine SOps.nil ?_
  rcases cond_out h with ⟨g4, h⟩ | ⟨g4, h⟩
  · refine SCode.cond_t rfl g4 ?_
    refine SCode.seq ?_
    refine SCode.region (show SOps _ _ _ [0, 1] _ _ from ?_)
    refine SOps.q rfl (.plain rfl) rfl (q_assign rfl rfl) ?_
    refine SOps.q rfl (.plain rfl) rfl (q_assign rfl rfl) ?_
    refine SOps.sub (st' := ⟨[(8, .c (.int .i64 0)), (9, .c (.bool false))], []⟩) (sub_gen [] rfl rfl ⟨zc rfl rfl, zc rfl rfl, trivial⟩ trivial) ?_
    refine SOps.nil ?_
    refine SCode.ret ?_
    obtain rfl := Option.some.inj h
    exact ⟨⟨[(8, .c (.int .i64 0)), (9, .c (.bool false))], []⟩, _, sub_gen [] rfl rfl ⟨zc rfl rfl, zc rfl rfl, trivial⟩ trivial, resA2 (v1 := .c (.int .i64 0)) (v2 := .c (.bool false)) rfl rfl rfl, rfl⟩
  refine SCode.cond_f rfl g4 ?_
  refine SCode.skip ?_
  refine SCode.seq ?_
  obtain ⟨g5, h⟩ := guard_out h
  refine SCode.region (show SOps _ _ _ [0, 1, 2, 3] _ _ from ?_)
  refine SOps.q rfl (.plain rfl) rfl (q_field_ptr rfl rfl fd24_0) ?_
  refine SOps.q rfl (.plain rfl) rfl (q_load_ptr rfl rfl rfl rfl ty3) ?_
  refine SOps.e rfl (.plain rfl) (e_makeL (c := (cInt .i64)) (d0 := 0) rfl rfl rfl rfl rfl sl30 z3 rfl rfl rfl g5.1 (Int.le_refl _) g5.2.1 g5.2.2) ?_
  refine SOps.q rfl (.plain rfl) rfl (q_assign rfl rfl) ?_
  refine SOps.sub (st' := ⟨[(1, .c (.int .i64 a1_source)), (2, .c (.int .i64 a2_sink)), (3, .c (.vec a3_l.length 1 (gL (cInt .i64) 0 a3_l))), (4, .c (.ptr 0 0)), (10, .c (.own 1 (List.replicate a0_n.Nodes.toNat (0 : Int)).length))], [.box [.int .i64 a0_n.Nodes, .vec a0_n.Arcs.length 3 (gL cSArc dSArc a0_n.Arcs)], .arr 3 1 (List.replicate a0_n.Nodes.toNat (0 : Int)).length (gL (cInt .i64) 0 (List.replicate a0_n.Nodes.toNat (0 : Int)))]⟩) (sub_gen [0, 1] rfl rfl ⟨zc rfl rfl, zc rfl rfl, zc rfl rfl, zc rfl rfl, zc rfl rfl, trivial⟩ ⟨⟨_, rfl, ⟨ii rfl rfl, ii rfl rfl, trivial⟩⟩, oa rfl, trivial⟩) ?_
  refine SOps.nil ?_
  refine SCode.join (σ := (List Int)) (S := fun s => ⟨[(1, .c (.int .i64 a1_source)), (2, .c (.int .i64 a2_sink)), (10, .c (.own 0 s.length))], [.arr 3 1 s.length (gL (cInt .i64) 0 s)]⟩) (g := fun s => flow_Check_p29 F a1_source a2_sink s = some r) ?_ ?_
  rotate_left
  · refine SCode.seq ?_
    refine SCode.region (show SOps _ _ _ [0, 1, 2, 3] _ _ from ?_)
    refine SOps.q rfl (.plain rfl) rfl (q_field_ptr rfl rfl fd24_1) ?_
    refine SOps.q rfl (.plain rfl) rfl (q_load_ptr rfl rfl rfl rfl ty22) ?_
    refine SOps.q rfl (.plain rfl) rfl (q_len_vec rfl rfl sl22) ?_
    refine SOps.q rfl (.plain rfl) rfl (q_move rfl rfl) ?_
    refine SOps.sub (st' := ⟨[(1, .c (.int .i64 a1_source)), (2, .c (.int .i64 a2_sink)), (3, .c (.vec a3_l.length 1 (gL (cInt .i64) 0 a3_l))), (10, .c (.own 0 (List.replicate a0_n.Nodes.toNat (0 : Int)).length)), (32, .c (.vec a0_n.Arcs.length 3 (gL cSArc dSArc a0_n.Arcs))), (33, .c (.int .i64 (((a0_n.Arcs).length : Int)))), (34, .c (.int .i64 0))], [.arr 3 1 (List.replicate a0_n.Nodes.toNat (0 : Int)).length (gL (cInt .i64) 0 (List.replicate a0_n.Nodes.toNat (0 : Int)))]⟩) (sub_gen [1] rfl rfl ⟨zc rfl rfl, zc rfl rfl, zc rfl rfl, zc rfl rfl, zc rfl rfl, zc rfl rfl, zc rfl rfl, trivial⟩ ⟨oa rfl, trivial⟩) ?_
    refine SOps.nil ?_
    refine SCode.block ?_
    refine SCode.sub (st' := ⟨[(1, .c (.int .i64 a1_source)), (2, .c (.int .i64 a2_sink)), (3, .c (.vec a3_l.length 1 (gL (cInt .i64) 0 a3_l))), (10, .c (.own 0 (List.replicate a0_n.Nodes.toNat (0 : Int)).length)), (32, .c (.vec a0_n.Arcs.length 3 (gL cSArc dSArc a0_n.Arcs))), (33, .c (.int .i64 (((a0_n.Arcs).length : Int)))), (34, .c (.int .i64 0))], [.arr 3 1 (List.replicate a0_n.Nodes.toNat (0 : Int)).length (gL (cInt .i64) 0 (List.replicate a0_n.Nodes.toNat (0 : Int)))]⟩) (sub_gen [0] rfl rfl ⟨zc rfl rfl, zc rfl rfl, zc rfl rfl, zc rfl rfl, zc rfl rfl, zc rfl rfl, zc rfl rfl, trivial⟩ ⟨oa rfl, trivial⟩) ?_
    refine (SCode.loop (σ := Nat × (Int × (List Int))) (S := fun s => ⟨[(1, .c (.int .i64 a1_source)), (2, .c (.int .i64 a2_sink)), (3, .c (.vec a3_l.length 1 (gL (cInt .i64) 0 a3_l))), (10, .c (.own 0 s.2.2.length)), (32, .c (.vec a0_n.Arcs.length 3 (gL cSArc dSArc a0_n.Arcs))), (33, .c (.int .i64 (((a0_n.Arcs).length : Int)))), (34, .c (.int .i64 s.2.1))], [.arr 3 1 s.2.2.length (gL (cInt .i64) 0 s.2.2)]⟩) (g := fun s => flow_Check_l56 F a0_n a1_source a2_sink a3_l s.1 s.2.1 s.2.2 = some r) (μ := fun s => s.1) (F, (0, List.replicate a0_n.Nodes.toNat (0 : Int))) h ?_)
    rintro ⟨n_56, ⟨t34_42, o0_43⟩⟩ h
    replace h : flow_Check_l56 F a0_n a1_source a2_sink a3_l n_56 t34_42 o0_43 = some r := h
    show SCode _ _ _ ⟨[(1, .c (.int .i64 a1_source)), (2, .c (.int .i64 a2_sink)), (3, .c (.vec a3_l.length 1 (gL (cInt .i64) 0 a3_l))), (10, .c (.own 0 o0_43.length)), (32, .c (.vec a0_n.Arcs.length 3 (gL cSArc dSArc a0_n.Arcs))), (33, .c (.int .i64 (((a0_n.Arcs).length : Int)))), (34, .c (.int .i64 t34_42))], [.arr 3 1 o0_43.length (gL (cInt .i64) 0 o0_43)]⟩ _
    cases n_56 with
    | zero => cases h
    | succ n_56 =>
      replace h : flow_Check_b56 F a0_n a1_source a2_sink a3_l (fun t34_42 o0_43 => flow_Check_l56 F a0_n a1_source a2_sink a3_l n_56 t34_42 o0_43) t34_42 o0_43 = some r := h
      unfold flow_Check_b56 at h
      refine SCode.seq ?_
      refine SCode.region (show SOps _ _ _ [0] _ _ from ?_)
      refine SOps.q rfl (.plain rfl) rfl (q_lss rfl rfl rfl) ?_
      refine SOps.sub (st' := ⟨[(1, .c (.int .i64 a1_source)), (2, .c (.int .i64 a2_sink)), (3, .c (.vec a3_l.length 1 (gL (cInt .i64) 0 a3_l))), (10, .c (.own 0 o0_43.length)), (32, .c (.vec a0_n.Arcs.length 3 (gL cSArc dSArc a0_n.Arcs))), (33, .c (.int .i64 (((a0_n.Arcs).length : Int)))), (34, .c (.int .i64 t34_42)), (35, .c (.bool (decide (t34_42 < ((a0_n.Arcs).length : Int)))))], [.arr 3 1 o0_43.length (gL (cInt .i64) 0 o0_43)]⟩) (sub_gen [0] rfl rfl ⟨zc rfl rfl, zc rfl rfl, zc rfl rfl, zc rfl rfl, zc rfl rfl, zc rfl rfl, zc rfl rfl, zc rfl rfl, trivial⟩ ⟨oa rfl, trivial⟩) ?_
      refine SOps.nil ?_
      refine SCode.seq ?_
      rcases cond_out h with ⟨g57, h⟩ | ⟨g57, h⟩
      · refine SCode.cond_t rfl g57 ?_
        refine SCode.skip ?_
        refine SCode.seq ?_
        refine SCode.block ?_
        refine SCode.seq ?_
        obtain ⟨g58, h⟩ := guard_out h
        refine SCode.region (show SOps _ _ _ [0, 1, 2, 3, 4, 5] _ _ from ?_)
        refine SOps.q rfl (.plain rfl) rfl (q_move rfl rfl) ?_
        refine SOps.q rfl (.plain rfl) rfl (q_index_vec rfl rfl rfl sl22 rfl g58.1 g58.2) ?_
        refine SOps.q rfl (.plain rfl) rfl (q_load_eptr_all rfl rfl rfl ty50) ?_
        refine SOps.e rfl (.plain rfl) (e_alloc rfl rfl rfl z50) ?_
        refine SOps.q rfl (.plain rfl) rfl (q_assign rfl rfl) ?_
        refine SOps.e rfl (.plain rfl) (e_store_box rfl rfl rfl rfl rfl ty50 rfl rfl rfl rfl) ?_
        refine SOps.sub (st' := ⟨[(1, .c (.int .i64 a1_source)), (2, .c (.int .i64 a2_sink)), (3, .c (.vec a3_l.length 1 (gL (cInt .i64) 0 a3_l))), (10, .c (.own 0 o0_43.length)), (11, .c (.int .i64 t34_42)), (12, .c (.ptr 1 0)), (32, .c (.vec a0_n.Arcs.length 3 (gL cSArc dSArc a0_n.Arcs))), (33, .c (.int .i64 (((a0_n.Arcs).length : Int)))), (34, .c (.int .i64 t34_42))], [.arr 3 1 o0_43.length (gL (cInt .i64) 0 o0_43), .box [.int .i64 ((a0_n.Arcs.getD t34_42.toNat dSArc).From), .int .i64 ((a0_n.Arcs.getD t34_42.toNat dSArc).To), .int .i64 ((a0_n.Arcs.getD t34_42.toNat dSArc).Cap)]]⟩) (sub_gen [0, 1] rfl rfl ⟨zc rfl rfl, zc rfl rfl, zc rfl rfl, zc rfl rfl, zc rfl rfl, zc rfl rfl, zc rfl rfl, zc rfl rfl, zc rfl rfl, trivial⟩ ⟨oa rfl, ⟨_, rfl, ⟨ii rfl rfl, ii rfl rfl, ii rfl rfl, trivial⟩⟩, trivial⟩) ?_
        refine SOps.nil ?_
        refine SCode.seq ?_
        refine SCode.seq ?_
        obtain ⟨g59, h⟩ := guard_out h
        rcases cond_out h with ⟨g60, h⟩ | ⟨g60, h⟩
        · refine SCode.draw (s' := [(52, .c (.bool true)), (51, .c (.raw (.tuple #[]))), (50, .c (.raw (.tuple #[]))), (49, .c (.raw (.tuple #[]))), (48, .c (.raw (.tuple #[]))), (47, .c (.raw (.tuple #[]))), (46, .c (.raw (.tuple #[]))), (45, .c (.raw (.tuple #[]))), (44, .c (.bool (decide (a3_l.getD t34_42.toNat 0 < 0)))), (43, .c (.bool (decide (a3_l.getD t34_42.toNat 0 < 0)))), (42, .c (.int .i64 (a3_l.getD t34_42.toNat 0))), (41, .c (.eptr 1 ((cInt .i64) (a3_l.getD t34_42.toNat 0)) 0)), (40, .c (.int .i64 t34_42)), (39, .c (.vec a3_l.length 1 (gL (cInt .i64) 0 a3_l))), (1, .c (.int .i64 a1_source)), (2, .c (.int .i64 a2_sink)), (3, .c (.vec a3_l.length 1 (gL (cInt .i64) 0 a3_l))), (10, .c (.own 0 o0_43.length)), (11, .c (.int .i64 t34_42)), (12, .c (.ptr 1 0)), (32, .c (.vec a0_n.Arcs.length 3 (gL cSArc dSArc a0_n.Arcs))), (33, .c (.int .i64 (((a0_n.Arcs).length : Int)))), (34, .c (.int .i64 t34_42))]) mixed [[], [], [0, 1], [0, 1, 2], [0, 1, 2, 3], [0, 1, 2, 3, 4], [0, 1, 2, 3, 4, 5], [0, 1, 2, 3, 4, 5], [0, 1, 2, 3, 4, 5, 6, 7], [0, 1, 2, 3, 4, 5, 6, 7, 8], [0, 1, 2, 3, 4, 5], [0, 1, 2, 3, 4, 5, 10], [0, 1, 2, 3, 4, 5, 6, 7, 8, 9, 10, 11], [0, 1, 2, 3, 4, 5, 6, 7, 8, 9, 10, 11, 12]] 14 0 rfl rfl ?_ ?_
          · refine QChain.run rfl (.plain rfl) rfl (q_move rfl rfl) ?_
            refine QChain.run rfl (.plain rfl) rfl (q_move rfl rfl) ?_
            refine QChain.run rfl (.plain rfl) rfl (q_index_vec rfl rfl rfl sl30 rfl g59.1 g59.2) ?_
            refine QChain.run rfl (.plain rfl) rfl (q_load_eptr rfl rfl ty3) ?_
            refine QChain.run rfl (.plain rfl) rfl (q_lss rfl rfl rfl) ?_
            refine QChain.run rfl (.plain rfl) rfl (q_move rfl rfl) ?_
            refine QChain.skip rfl ⟨5, 44, false, rfl, rfl, (.inl (gT g60))⟩ rfl ?_
            refine QChain.skip rfl ⟨5, 44, false, rfl, rfl, (.inl (gT g60))⟩ rfl ?_
            refine QChain.skip rfl ⟨5, 44, false, rfl, rfl, (.inl (gT g60))⟩ rfl ?_
            refine QChain.skip rfl ⟨5, 44, false, rfl, rfl, (.inl (gT g60))⟩ rfl ?_
            refine QChain.skip rfl ⟨5, 44, false, rfl, rfl, (.inl (gT g60))⟩ rfl ?_
            refine QChain.skip rfl ⟨5, 44, false, rfl, rfl, (.inl (gT g60))⟩ rfl ?_
            refine QChain.skip rfl ⟨5, 44, false, rfl, rfl, (.inl (gT g60))⟩ rfl ?_
            refine QChain.run rfl (.plain rfl) rfl (q_pick_t rfl rfl g60 rfl) ?_
            exact QChain.nil _ _
          refine (show SOps _ _ _ [] _ _ from ?_)
          refine SOps.sub (st' := ⟨[(1, .c (.int .i64 a1_source)), (2, .c (.int .i64 a2_sink)), (3, .c (.vec a3_l.length 1 (gL (cInt .i64) 0 a3_l))), (10, .c (.own 0 o0_43.length)), (11, .c (.int .i64 t34_42)), (12, .c (.ptr 1 0)), (32, .c (.vec a0_n.Arcs.length 3 (gL cSArc dSArc a0_n.Arcs))), (33, .c (.int .i64 (((a0_n.Arcs).length : Int)))), (34, .c (.int .i64 t34_42)), (52, .c (.bool true))], [.arr 3 1 o0_43.length (gL (cInt .i64) 0 o0_43), .box [.int .i64 ((a0_n.Arcs.getD t34_42.toNat dSArc).From), .int .i64 ((a0_n.Arcs.getD t34_42.toNat dSArc).To), .int .i64 ((a0_n.Arcs.getD t34_42.toNat dSArc).Cap)]]⟩) (sub_gen [0, 1] rfl rfl ⟨zc rfl rfl, zc rfl rfl, zc rfl rfl, zc rfl rfl, zc rfl rfl, zc rfl rfl, zc rfl rfl, zc rfl rfl, zc rfl rfl, zc rfl rfl, trivial⟩ ⟨oa rfl, ⟨_, rfl, ⟨ii rfl rfl, ii rfl rfl, ii rfl rfl, trivial⟩⟩, trivial⟩) ?_
          refine SOps.nil ?_
          refine SCode.cond_t rfl rfl ?_
          refine SCode.seq ?_
          refine SCode.region (show SOps _ _ _ [0, 1] _ _ from ?_)
          refine SOps.q rfl (.plain rfl) rfl (q_assign rfl rfl) ?_
          refine SOps.q rfl (.plain rfl) rfl (q_assign rfl rfl) ?_
          refine SOps.sub (st' := ⟨[(8, .c (.int .i64 0)), (9, .c (.bool false))], []⟩) (sub_gen [] rfl rfl ⟨zc rfl rfl, zc rfl rfl, trivial⟩ trivial) ?_
          refine SOps.nil ?_
          refine SCode.ret ?_
          obtain rfl := Option.some.inj h
          exact ⟨⟨[(8, .c (.int .i64 0)), (9, .c (.bool false))], []⟩, _, sub_gen [] rfl rfl ⟨zc rfl rfl, zc rfl rfl, trivial⟩ trivial, resA2 (v1 := .c (.int .i64 0)) (v2 := .c (.bool false)) rfl rfl rfl, rfl⟩
        obtain ⟨g61, h⟩ := guard_out h
        refine SCode.draw (s' := [(52, .c (.bool (decide ((a0_n.Arcs.getD t34_42.toNat dSArc).Cap < a3_l.getD t34_42.toNat 0)))), (51, .c (.bool (decide ((a0_n.Arcs.getD t34_42.toNat dSArc).Cap < a3_l.getD t34_42.toNat 0)))), (50, .c (.int .i64 ((a0_n.Arcs.getD t34_42.toNat dSArc).Cap))), (49, .c (.ptr 1 2)), (48, .c (.int .i64 (a3_l.getD t34_42.toNat 0))), (47, .c (.eptr 1 ((cInt .i64) (a3_l.getD t34_42.toNat 0)) 0)), (46, .c (.int .i64 t34_42)), (45, .c (.vec a3_l.length 1 (gL (cInt .i64) 0 a3_l))), (44, .c (.bool (decide (a3_l.getD t34_42.toNat 0 < 0)))), (43, .c (.bool (decide (a3_l.getD t34_42.toNat 0 < 0)))), (42, .c (.int .i64 (a3_l.getD t34_42.toNat 0))), (41, .c (.eptr 1 ((cInt .i64) (a3_l.getD t34_42.toNat 0)) 0)), (40, .c (.int .i64 t34_42)), (39, .c (.vec a3_l.length 1 (gL (cInt .i64) 0 a3_l))), (1, .c (.int .i64 a1_source)), (2, .c (.int .i64 a2_sink)), (3, .c (.vec a3_l.length 1 (gL (cInt .i64) 0 a3_l))), (10, .c (.own 0 o0_43.length)), (11, .c (.int .i64 t34_42)), (12, .c (.ptr 1 0)), (32, .c (.vec a0_n.Arcs.length 3 (gL cSArc dSArc a0_n.Arcs))), (33, .c (.int .i64 (((a0_n.Arcs).length : Int)))), (34, .c (.int .i64 t34_42))]) mixed [[], [], [0, 1], [0, 1, 2], [0, 1, 2, 3], [0, 1, 2, 3, 4], [0, 1, 2, 3, 4, 5], [0, 1, 2, 3, 4, 5], [0, 1, 2, 3, 4, 5, 6, 7], [0, 1, 2, 3, 4, 5, 6, 7, 8], [0, 1, 2, 3, 4, 5], [0, 1, 2, 3, 4, 5, 10], [0, 1, 2, 3, 4, 5, 6, 7, 8, 9, 10, 11], [0, 1, 2, 3, 4, 5, 6, 7, 8, 9, 10, 11, 12]] 14 0 rfl rfl ?_ ?_
        · refine QChain.run rfl (.plain rfl) rfl (q_move rfl rfl) ?_
          refine QChain.run rfl (.plain rfl) rfl (q_move rfl rfl) ?_
          refine QChain.run rfl (.plain rfl) rfl (q_index_vec rfl rfl rfl sl30 rfl g59.1 g59.2) ?_
          refine QChain.run rfl (.plain rfl) rfl (q_load_eptr rfl rfl ty3) ?_
          refine QChain.run rfl (.plain rfl) rfl (q_lss rfl rfl rfl) ?_
          refine QChain.run rfl (.plain rfl) rfl (q_move rfl rfl) ?_
          refine QChain.run rfl (.guard 5 44 false rfl rfl (gF g60)) rfl (q_move rfl rfl) ?_
          refine QChain.run rfl (.guard 5 44 false rfl rfl (gF g60)) rfl (q_move rfl rfl) ?_
          refine QChain.run rfl (.guard 5 44 false rfl rfl (gF g60)) rfl (q_index_vec rfl rfl rfl sl30 rfl g61.1 g61.2) ?_
          refine QChain.run rfl (.guard 5 44 false rfl rfl (gF g60)) rfl (q_load_eptr rfl rfl ty3) ?_
          refine QChain.run rfl (.guard 5 44 false rfl rfl (gF g60)) rfl (q_field_ptr rfl rfl fd50_2) ?_
          refine QChain.run rfl (.guard 5 44 false rfl rfl (gF g60)) rfl (q_load_ptr rfl rfl rfl rfl ty3) ?_
          refine QChain.run rfl (.guard 5 44 false rfl rfl (gF g60)) rfl (q_gtr rfl rfl rfl) ?_
          refine QChain.run rfl (.plain rfl) rfl (q_pick_f rfl rfl g60 rfl) ?_
          exact QChain.nil _ _
        refine (show SOps _ _ _ [] _ _ from ?_)
        refine SOps.sub (st' := ⟨[(1, .c (.int .i64 a1_source)), (2, .c (.int .i64 a2_sink)), (3, .c (.vec a3_l.length 1 (gL (cInt .i64) 0 a3_l))), (10, .c (.own 0 o0_43.length)), (11, .c (.int .i64 t34_42)), (12, .c (.ptr 1 0)), (32, .c (.vec a0_n.Arcs.length 3 (gL cSArc dSArc a0_n.Arcs))), (33, .c (.int .i64 (((a0_n.Arcs).length : Int)))), (34, .c (.int .i64 t34_42)), (52, .c (.bool (decide ((a0_n.Arcs.getD t34_42.toNat dSArc).Cap < a3_l.getD t34_42.toNat 0))))], [.arr 3 1 o0_43.length (gL (cInt .i64) 0 o0_43), .box [.int .i64 ((a0_n.Arcs.getD t34_42.toNat dSArc).From), .int .i64 ((a0_n.Arcs.getD t34_42.toNat dSArc).To), .int .i64 ((a0_n.Arcs.getD t34_42.toNat dSArc).Cap)]]⟩) (sub_gen [0, 1] rfl rfl ⟨zc rfl rfl, zc rfl rfl, zc rfl rfl, zc rfl rfl, zc rfl rfl, zc rfl rfl, zc rfl rfl, zc rfl rfl, zc rfl rfl, zc rfl rfl, trivial⟩ ⟨oa rfl, ⟨_, rfl, ⟨ii rfl rfl, ii rfl rfl, ii rfl rfl, trivial⟩⟩, trivial⟩) ?_
        refine SOps.nil ?_
        rcases cond_out h with ⟨g62, h⟩ | ⟨g62, h⟩
        · refine SCode.cond_t rfl g62 ?_
          refine SCode.seq ?_
          refine SCode.region (show SOps _ _ _ [0, 1] _ _ from ?_)
          refine SOps.q rfl (.plain rfl) rfl (q_assign rfl rfl) ?_
          refine SOps.q rfl (.plain rfl) rfl (q_assign rfl rfl) ?_
          refine SOps.sub (st' := ⟨[(8, .c (.int .i64 0)), (9, .c (.bool false))], []⟩) (sub_gen [] rfl rfl ⟨zc rfl rfl, zc rfl rfl, trivial⟩ trivial) ?_
          refine SOps.nil ?_
          refine SCode.ret ?_
          obtain rfl := Option.some.inj h
          exact ⟨⟨[(8, .c (.int .i64 0)), (9, .c (.bool false))], []⟩, _, sub_gen [] rfl rfl ⟨zc rfl rfl, zc rfl rfl, trivial⟩ trivial, resA2 (v1 := .c (.int .i64 0)) (v2 := .c (.bool false)) rfl rfl rfl, rfl⟩
        refine SCode.cond_f rfl g62 ?_
        refine SCode.skip ?_
        refine SCode.seq ?_
        obtain ⟨g63, h⟩ := guard_out h
        obtain ⟨g64, h⟩ := guard_out h
        obtain ⟨g65, h⟩ := guard_out h
        refine SCode.draw (s' := [(63, .c (.aptr 0 1 (((a0_n.Arcs.getD t34_42.toNat dSArc).From).toNat) 0)), (62, .c (.int .i64 (IntKind.wrap .i64 (o0_43.getD (((a0_n.Arcs.getD t34_42.toNat dSArc).From).toNat) 0 + a3_l.getD t34_42.toNat 0)))), (61, .c (.int .i64 (a3_l.getD t34_42.toNat 0))), (60, .c (.eptr 1 ((cInt .i64) (a3_l.getD t34_42.toNat 0)) 0)), (59, .c (.int .i64 t34_42)), (58, .c (.vec a3_l.length 1 (gL (cInt .i64) 0 a3_l))), (57, .c (.int .i64 (o0_43.getD (((a0_n.Arcs.getD t34_42.toNat dSArc).From).toNat) 0))), (56, .c (.aptr 0 1 (((a0_n.Arcs.getD t34_42.toNat dSArc).From).toNat) 0)), (55, .c (.int .i64 ((a0_n.Arcs.getD t34_42.toNat dSArc).From))), (54, .c (.ptr 1 0)), (53, .c (.own 0 o0_43.length)), (1, .c (.int .i64 a1_source)), (2, .c (.int .i64 a2_sink)), (3, .c (.vec a3_l.length 1 (gL (cInt .i64) 0 a3_l))), (10, .c (.own 0 o0_43.length)), (11, .c (.int .i64 t34_42)), (12, .c (.ptr 1 0)), (32, .c (.vec a0_n.Arcs.length 3 (gL cSArc dSArc a0_n.Arcs))), (33, .c (.int .i64 (((a0_n.Arcs).length : Int)))), (34, .c (.int .i64 t34_42)), (52, .c (.bool (decide ((a0_n.Arcs.getD t34_42.toNat dSArc).Cap < a3_l.getD t34_42.toNat 0))))]) mixed [[], [], [1], [0, 1, 2], [0, 1, 2, 3], [], [], [5, 6], [5, 6, 7], [0, 1, 2, 3, 4, 5, 6, 7, 8], [0, 1, 2, 3, 4, 5, 6, 7, 8, 9], [0, 1, 2, 3, 4, 5, 6, 7, 8, 9, 10]] 11 1 rfl rfl ?_ ?_
        · refine QChain.run rfl (.plain rfl) rfl (q_move rfl rfl) ?_
          refine QChain.run rfl (.plain rfl) rfl (q_field_ptr rfl rfl fd50_0) ?_
          refine QChain.run rfl (.plain rfl) rfl (q_load_ptr rfl rfl rfl rfl ty3) ?_
          refine QChain.run rfl (.plain rfl) rfl (q_index_own rfl rfl rfl sl30 g63.1 g63.2) ?_
          refine QChain.run rfl (.plain rfl) rfl (q_load_aptr rfl rfl rfl (toNat_lt g63) rfl ty3) ?_
          refine QChain.run rfl (.plain rfl) rfl (q_move rfl rfl) ?_
          refine QChain.run rfl (.plain rfl) rfl (q_move rfl rfl) ?_
          refine QChain.run rfl (.plain rfl) rfl (q_index_vec rfl rfl rfl sl30 rfl g64.1 g64.2) ?_
          refine QChain.run rfl (.plain rfl) rfl (q_load_eptr rfl rfl ty3) ?_
          refine QChain.run rfl (.plain rfl) rfl (q_add rfl rfl rfl) ?_
          refine QChain.run rfl (.plain rfl) rfl (q_index_own rfl rfl rfl sl30 g65.1 g65.2) ?_
          exact QChain.nil _ _
        refine (show SOps _ _ _ [11] _ _ from ?_)
        refine SOps.e rfl (.plain rfl) (e_storeL (IntKind.wrap .i64 (o0_43.getD (((a0_n.Arcs.getD t34_42.toNat dSArc).From).toNat) 0 + a3_l.getD t34_42.toNat 0)) rfl rfl rfl rfl rfl (toNat_lt g65) ty3 rfl rfl rfl rfl rfl rfl) ?_
        refine SOps.sub (st' := ⟨[(1, .c (.int .i64 a1_source)), (2, .c (.int .i64 a2_sink)), (3, .c (.vec a3_l.length 1 (gL (cInt .i64) 0 a3_l))), (10, .c (.own 0 (o0_43.set (((a0_n.Arcs.getD t34_42.toNat dSArc).From).toNat) (IntKind.wrap .i64 (o0_43.getD (((a0_n.Arcs.getD t34_42.toNat dSArc).From).toNat) 0 + a3_l.getD t34_42.toNat 0))).length)), (11, .c (.int .i64 t34_42)), (12, .c (.ptr 1 0)), (32, .c (.vec a0_n.Arcs.length 3 (gL cSArc dSArc a0_n.Arcs))), (33, .c (.int .i64 (((a0_n.Arcs).length : Int)))), (34, .c (.int .i64 t34_42))], [.arr 3 1 (o0_43.set (((a0_n.Arcs.getD t34_42.toNat dSArc).From).toNat) (IntKind.wrap .i64 (o0_43.getD (((a0_n.Arcs.getD t34_42.toNat dSArc).From).toNat) 0 + a3_l.getD t34_42.toNat 0))).length (gL (cInt .i64) 0 (o0_43.set (((a0_n.Arcs.getD t34_42.toNat dSArc).From).toNat) (IntKind.wrap .i64 (o0_43.getD (((a0_n.Arcs.getD t34_42.toNat dSArc).From).toNat) 0 + a3_l.getD t34_42.toNat 0)))), .box [.int .i64 ((a0_n.Arcs.getD t34_42.toNat dSArc).From), .int .i64 ((a0_n.Arcs.getD t34_42.toNat dSArc).To), .int .i64 ((a0_n.Arcs.getD t34_42.toNat dSArc).Cap)]]⟩) (sub_gen [0, 1] rfl rfl ⟨zc rfl rfl, zc rfl rfl, zc rfl rfl, ⟨_, rfl, .inl ⟨rfl, congrArg (Cell.own 0) (List.length_set : (o0_43.set (((a0_n.Arcs.getD t34_42.toNat dSArc).From).toNat) (IntKind.wrap .i64 (o0_43.getD (((a0_n.Arcs.getD t34_42.toNat dSArc).From).toNat) 0 + a3_l.getD t34_42.toNat 0))).length = o0_43.length).symm⟩⟩, zc rfl rfl, zc rfl rfl, zc rfl rfl, zc rfl rfl, zc rfl rfl, trivial⟩ ⟨oa rfl, ⟨_, rfl, ⟨ii rfl rfl, ii rfl rfl, ii rfl rfl, trivial⟩⟩, trivial⟩) ?_
        refine SOps.nil ?_
        obtain ⟨g66, h⟩ := guard_out h
        obtain ⟨g67, h⟩ := guard_out h
        obtain ⟨g68, h⟩ := guard_out h
        refine SCode.draw (s' := [(74, .c (.aptr 0 1 (((a0_n.Arcs.getD t34_42.toNat dSArc).To).toNat) 0)), (73, .c (.int .i64 (IntKind.wrap .i64 ((o0_43.set (((a0_n.Arcs.getD t34_42.toNat dSArc).From).toNat) (IntKind.wrap .i64 (o0_43.getD (((a0_n.Arcs.getD t34_42.toNat dSArc).From).toNat) 0 + a3_l.getD t34_42.toNat 0))).getD (((a0_n.Arcs.getD t34_42.toNat dSArc).To).toNat) 0 - a3_l.getD t34_42.toNat 0)))), (72, .c (.int .i64 (a3_l.getD t34_42.toNat 0))), (71, .c (.eptr 1 ((cInt .i64) (a3_l.getD t34_42.toNat 0)) 0)), (70, .c (.int .i64 t34_42)), (69, .c (.vec a3_l.length 1 (gL (cInt .i64) 0 a3_l))), (68, .c (.int .i64 ((o0_43.set (((a0_n.Arcs.getD t34_42.toNat dSArc).From).toNat) (IntKind.wrap .i64 (o0_43.getD (((a0_n.Arcs.getD t34_42.toNat dSArc).From).toNat) 0 + a3_l.getD t34_42.toNat 0))).getD (((a0_n.Arcs.getD t34_42.toNat dSArc).To).toNat) 0))), (67, .c (.aptr 0 1 (((a0_n.Arcs.getD t34_42.toNat dSArc).To).toNat) 0)), (66, .c (.int .i64 ((a0_n.Arcs.getD t34_42.toNat dSArc).To))), (65, .c (.ptr 1 1)), (64, .c (.own 0 (o0_43.set (((a0_n.Arcs.getD t34_42.toNat dSArc).From).toNat) (IntKind.wrap .i64 (o0_43.getD (((a0_n.Arcs.getD t34_42.toNat dSArc).From).toNat) 0 + a3_l.getD t34_42.toNat 0))).length)), (1, .c (.int .i64 a1_source)), (2, .c (.int .i64 a2_sink)), (3, .c (.vec a3_l.length 1 (gL (cInt .i64) 0 a3_l))), (10, .c (.own 0 (o0_43.set (((a0_n.Arcs.getD t34_42.toNat dSArc).From).toNat) (IntKind.wrap .i64 (o0_43.getD (((a0_n.Arcs.getD t34_42.toNat dSArc).From).toNat) 0 + a3_l.getD t34_42.toNat 0))).length)), (11, .c (.int .i64 t34_42)), (12, .c (.ptr 1 0)), (32, .c (.vec a0_n.Arcs.length 3 (gL cSArc dSArc a0_n.Arcs))), (33, .c (.int .i64 (((a0_n.Arcs).length : Int)))), (34, .c (.int .i64 t34_42))]) mixed [[], [], [1], [0, 1, 2], [0, 1, 2, 3], [], [], [5, 6], [5, 6, 7], [0, 1, 2, 3, 4, 5, 6, 7, 8], [0, 1, 2, 3, 4, 5, 6, 7, 8, 9], [0, 1, 2, 3, 4, 5, 6, 7, 8, 9, 10]] 11 1 rfl rfl ?_ ?_
        · refine QChain.run rfl (.plain rfl) rfl (q_move rfl rfl) ?_
          refine QChain.run rfl (.plain rfl) rfl (q_field_ptr rfl rfl fd50_1) ?_
          refine QChain.run rfl (.plain rfl) rfl (q_load_ptr rfl rfl rfl rfl ty3) ?_
          refine QChain.run rfl (.plain rfl) rfl (q_index_own rfl rfl rfl sl30 g66.1 g66.2) ?_
          refine QChain.run rfl (.plain rfl) rfl (q_load_aptr rfl rfl rfl (toNat_lt g66) rfl ty3) ?_
          refine QChain.run rfl (.plain rfl) rfl (q_move rfl rfl) ?_
          refine QChain.run rfl (.plain rfl) rfl (q_move rfl rfl) ?_
          refine QChain.run rfl (.plain rfl) rfl (q_index_vec rfl rfl rfl sl30 rfl g67.1 g67.2) ?_
          refine QChain.run rfl (.plain rfl) rfl (q_load_eptr rfl rfl ty3) ?_
          refine QChain.run rfl (.plain rfl) rfl (q_sub rfl rfl rfl) ?_
          refine QChain.run rfl (.plain rfl) rfl (q_index_own rfl rfl rfl sl30 g68.1 g68.2) ?_
          exact QChain.nil _ _
        refine (show SOps _ _ _ [11] _ _ from ?_)
        refine SOps.e rfl (.plain rfl) (e_storeL (IntKind.wrap .i64 ((o0_43.set (((a0_n.Arcs.getD t34_42.toNat dSArc).From).toNat) (IntKind.wrap .i64 (o0_43.getD (((a0_n.Arcs.getD t34_42.toNat dSArc).From).toNat) 0 + a3_l.getD t34_42.toNat 0))).getD (((a0_n.Arcs.getD t34_42.toNat dSArc).To).toNat) 0 - a3_l.getD t34_42.toNat 0)) rfl rfl rfl rfl rfl (toNat_lt g68) ty3 rfl rfl rfl rfl rfl rfl) ?_
        refine SOps.sub (st' := ⟨[(1, .c (.int .i64 a1_source)), (2, .c (.int .i64 a2_sink)), (3, .c (.vec a3_l.length 1 (gL (cInt .i64) 0 a3_l))), (10, .c (.own 0 ((o0_43.set (((a0_n.Arcs.getD t34_42.toNat dSArc).From).toNat) (IntKind.wrap .i64 (o0_43.getD (((a0_n.Arcs.getD t34_42.toNat dSArc).From).toNat) 0 + a3_l.getD t34_42.toNat 0))).set (((a0_n.Arcs.getD t34_42.toNat dSArc).To).toNat) (IntKind.wrap .i64 ((o0_43.set (((a0_n.Arcs.getD t34_42.toNat dSArc).From).toNat) (IntKind.wrap .i64 (o0_43.getD (((a0_n.Arcs.getD t34_42.toNat dSArc).From).toNat) 0 + a3_l.getD t34_42.toNat 0))).getD (((a0_n.Arcs.getD t34_42.toNat dSArc).To).toNat) 0 - a3_l.getD t34_42.toNat 0))).length)), (32, .c (.vec a0_n.Arcs.length 3 (gL cSArc dSArc a0_n.Arcs))), (33, .c (.int .i64 (((a0_n.Arcs).length : Int)))), (34, .c (.int .i64 t34_42))], [.arr 3 1 ((o0_43.set (((a0_n.Arcs.getD t34_42.toNat dSArc).From).toNat) (IntKind.wrap .i64 (o0_43.getD (((a0_n.Arcs.getD t34_42.toNat dSArc).From).toNat) 0 + a3_l.getD t34_42.toNat 0))).set (((a0_n.Arcs.getD t34_42.toNat dSArc).To).toNat) (IntKind.wrap .i64 ((o0_43.set (((a0_n.Arcs.getD t34_42.toNat dSArc).From).toNat) (IntKind.wrap .i64 (o0_43.getD (((a0_n.Arcs.getD t34_42.toNat dSArc).From).toNat) 0 + a3_l.getD t34_42.toNat 0))).getD (((a0_n.Arcs.getD t34_42.toNat dSArc).To).toNat) 0 - a3_l.getD t34_42.toNat 0))).length (gL (cInt .i64) 0 ((o0_43.set (((a0_n.Arcs.getD t34_42.toNat dSArc).From).toNat) (IntKind.wrap .i64 (o0_43.getD (((a0_n.Arcs.getD t34_42.toNat dSArc).From).toNat) 0 + a3_l.getD t34_42.toNat 0))).set (((a0_n.Arcs.getD t34_42.toNat dSArc).To).toNat) (IntKind.wrap .i64 ((o0_43.set (((a0_n.Arcs.getD t34_42.toNat dSArc).From).toNat) (IntKind.wrap .i64 (o0_43.getD (((a0_n.Arcs.getD t34_42.toNat dSArc).From).toNat) 0 + a3_l.getD t34_42.toNat 0))).getD (((a0_n.Arcs.getD t34_42.toNat dSArc).To).toNat) 0 - a3_l.getD t34_42.toNat 0))))]⟩) (sub_gen [0] rfl rfl ⟨zc rfl rfl, zc rfl rfl, zc rfl rfl, ⟨_, rfl, .inl ⟨rfl, congrArg (Cell.own 0) (List.length_set : ((o0_43.set (((a0_n.Arcs.getD t34_42.toNat dSArc).From).toNat) (IntKind.wrap .i64 (o0_43.getD (((a0_n.Arcs.getD t34_42.toNat dSArc).From).toNat) 0 + a3_l.getD t34_42.toNat 0))).set (((a0_n.Arcs.getD t34_42.toNat dSArc).To).toNat) (IntKind.wrap .i64 ((o0_43.set (((a0_n.Arcs.getD t34_42.toNat dSArc).From).toNat) (IntKind.wrap .i64 (o0_43.getD (((a0_n.Arcs.getD t34_42.toNat dSArc).From).toNat) 0 + a3_l.getD t34_42.toNat 0))).getD (((a0_n.Arcs.getD t34_42.toNat dSArc).To).toNat) 0 - a3_l.getD t34_42.toNat 0))).length = (o0_43.set (((a0_n.Arcs.getD t34_42.toNat dSArc).From).toNat) (IntKind.wrap .i64 (o0_43.getD (((a0_n.Arcs.getD t34_42.toNat dSArc).From).toNat) 0 + a3_l.getD t34_42.toNat 0))).length).symm⟩⟩, zc rfl rfl, zc rfl rfl, zc rfl rfl, trivial⟩ ⟨oa rfl, trivial⟩) ?_
        refine SOps.nil ?_
        refine SCode.region (show SOps _ _ _ [0, 1] _ _ from ?_)
        refine SOps.q rfl (.plain rfl) rfl (q_add rfl rfl rfl) ?_
        refine SOps.q rfl (.plain rfl) rfl (q_move rfl rfl) ?_
        refine SOps.sub (st' := ⟨[(1, .c (.int .i64 a1_source)), (2, .c (.int .i64 a2_sink)), (3, .c (.vec a3_l.length 1 (gL (cInt .i64) 0 a3_l))), (10, .c (.own 0 ((o0_43.set (((a0_n.Arcs.getD t34_42.toNat dSArc).From).toNat) (IntKind.wrap .i64 (o0_43.getD (((a0_n.Arcs.getD t34_42.toNat dSArc).From).toNat) 0 + a3_l.getD t34_42.toNat 0))).set (((a0_n.Arcs.getD t34_42.toNat dSArc).To).toNat) (IntKind.wrap .i64 ((o0_43.set (((a0_n.Arcs.getD t34_42.toNat dSArc).From).toNat) (IntKind.wrap .i64 (o0_43.getD (((a0_n.Arcs.getD t34_42.toNat dSArc).From).toNat) 0 + a3_l.getD t34_42.toNat 0))).getD (((a0_n.Arcs.getD t34_42.toNat dSArc).To).toNat) 0 - a3_l.getD t34_42.toNat 0))).length)), (32, .c (.vec a0_n.Arcs.length 3 (gL cSArc dSArc a0_n.Arcs))), (33, .c (.int .i64 (((a0_n.Arcs).length : Int)))), (34, .c (.int .i64 (IntKind.wrap .i64 (t34_42 + 1))))], [.arr 3 1 ((o0_43.set (((a0_n.Arcs.getD t34_42.toNat dSArc).From).toNat) (IntKind.wrap .i64 (o0_43.getD (((a0_n.Arcs.getD t34_42.toNat dSArc).From).toNat) 0 + a3_l.getD t34_42.toNat 0))).set (((a0_n.Arcs.getD t34_42.toNat dSArc).To).toNat) (IntKind.wrap .i64 ((o0_43.set (((a0_n.Arcs.getD t34_42.toNat dSArc).From).toNat) (IntKind.wrap .i64 (o0_43.getD (((a0_n.Arcs.getD t34_42.toNat dSArc).From).toNat) 0 + a3_l.getD t34_42.toNat 0))).getD (((a0_n.Arcs.getD t34_42.toNat dSArc).To).toNat) 0 - a3_l.getD t34_42.toNat 0))).length (gL (cInt .i64) 0 ((o0_43.set (((a0_n.Arcs.getD t34_42.toNat dSArc).From).toNat) (IntKind.wrap .i64 (o0_43.getD (((a0_n.Arcs.getD t34_42.toNat dSArc).From).toNat) 0 + a3_l.getD t34_42.toNat 0))).set (((a0_n.Arcs.getD t34_42.toNat dSArc).To).toNat) (IntKind.wrap .i64 ((o0_43.set (((a0_n.Arcs.getD t34_42.toNat dSArc).From).toNat) (IntKind.wrap .i64 (o0_43.getD (((a0_n.Arcs.getD t34_42.toNat dSArc).From).toNat) 0 + a3_l.getD t34_42.toNat 0))).getD (((a0_n.Arcs.getD t34_42.toNat dSArc).To).toNat) 0 - a3_l.getD t34_42.toNat 0))))]⟩) (sub_gen [0] rfl rfl ⟨zc rfl rfl, zc rfl rfl, zc rfl rfl, zc rfl rfl, zc rfl rfl, zc rfl rfl, zc rfl rfl, trivial⟩ ⟨oa rfl, trivial⟩) ?_
        refine SOps.nil ?_
        exact ⟨(n_56, (IntKind.wrap .i64 (t34_42 + 1), (o0_43.set (((a0_n.Arcs.getD t34_42.toNat dSArc).From).toNat) (IntKind.wrap .i64 (o0_43.getD (((a0_n.Arcs.getD t34_42.toNat dSArc).From).toNat) 0 + a3_l.getD t34_42.toNat 0))).set (((a0_n.Arcs.getD t34_42.toNat dSArc).To).toNat) (IntKind.wrap .i64 ((o0_43.set (((a0_n.Arcs.getD t34_42.toNat dSArc).From).toNat) (IntKind.wrap .i64 (o0_43.getD (((a0_n.Arcs.getD t34_42.toNat dSArc).From).toNat) 0 + a3_l.getD t34_42.toNat 0))).getD (((a0_n.Arcs.getD t34_42.toNat dSArc).To).toNat) 0 - a3_l.getD t34_42.toNat 0)))), h, Nat.lt_succ_self n_56, sub_gen [0] rfl rfl ⟨zc rfl rfl, zc rfl rfl, zc rfl rfl, zc rfl rfl, zc rfl rfl, zc rfl rfl, zc rfl rfl, trivial⟩ ⟨oa rfl, trivial⟩⟩
      refine SCode.cond_f rfl g57 ?_
      refine SCode.exit ?_
      exact ⟨o0_43, h, sub_gen [0] rfl rfl ⟨zc rfl rfl, zc rfl rfl, zc rfl rfl, trivial⟩ ⟨oa rfl, trivial⟩⟩
  rintro o0_6 h
  show SCode _ _ _ ⟨[(1, .c (.int .i64 a1_source)), (2, .c (.int .i64 a2_sink)), (10, .c (.own 0 o0_6.length))], [.arr 3 1 o0_6.length (gL (cInt .i64) 0 o0_6)]⟩ _
  replace h : flow_Check_p29 F a1_source a2_sink o0_6 = some r := h
  unfold flow_Check_p29 at h
  refine SCode.join (σ := Unit) (S := fun s => ⟨[(1, .c (.int .i64 a1_source)), (10, .c (.own 0 o0_6.length))], [.arr 3 1 o0_6.length (gL (cInt .i64) 0 o0_6)]⟩) (g := fun s => flow_Check_p8 a1_source o0_6 = some r) ?_ ?_
  rotate_left
  · refine SCode.seq ?_
    refine SCode.region (show SOps _ _ _ [0, 1, 2] _ _ from ?_)
    refine SOps.q rfl (.plain rfl) rfl (q_move rfl rfl) ?_
    refine SOps.q rfl (.plain rfl) rfl (q_len_own rfl rfl sl30) ?_
    refine SOps.q rfl (.plain rfl) rfl (q_move rfl rfl) ?_
    refine SOps.sub (st' := ⟨[(1, .c (.int .i64 a1_source)), (2, .c (.int .i64 a2_sink)), (10, .c (.own 0 o0_6.length)), (76, .c (.own 0 o0_6.length)), (77, .c (.int .i64 (((o0_6).length : Int)))), (78, .c (.int .i64 0))], [.arr 3 1 o0_6.length (gL (cInt .i64) 0 o0_6)]⟩) (sub_gen [0] rfl rfl ⟨zc rfl rfl, zc rfl rfl, zc rfl rfl, zc rfl rfl, zc rfl rfl, zc rfl rfl, trivial⟩ ⟨oa rfl, trivial⟩) ?_
    refine SOps.nil ?_
    refine SCode.block ?_
    refine SCode.sub (st' := ⟨[(1, .c (.int .i64 a1_source)), (2, .c (.int .i64 a2_sink)), (10, .c (.own 0 o0_6.length)), (76, .c (.own 0 o0_6.length)), (77, .c (.int .i64 (((o0_6).length : Int)))), (78, .c (.int .i64 0))], [.arr 3 1 o0_6.length (gL (cInt .i64) 0 o0_6)]⟩) (sub_gen [0] rfl rfl ⟨zc rfl rfl, zc rfl rfl, zc rfl rfl, zc rfl rfl, zc rfl rfl, zc rfl rfl, trivial⟩ ⟨oa rfl, trivial⟩) ?_
    refine (SCode.loop (σ := Nat × Int) (S := fun s => ⟨[(1, .c (.int .i64 a1_source)), (2, .c (.int .i64 a2_sink)), (10, .c (.own 0 o0_6.length)), (76, .c (.own 0 o0_6.length)), (77, .c (.int .i64 (((o0_6).length : Int)))), (78, .c (.int .i64 s.2))], [.arr 3 1 o0_6.length (gL (cInt .i64) 0 o0_6)]⟩) (g := fun s => flow_Check_l22 a1_source a2_sink o0_6 s.1 s.2 = some r) (μ := fun s => s.1) (F, 0) h ?_)
    rintro ⟨n_22, t78_15⟩ h
    replace h : flow_Check_l22 a1_source a2_sink o0_6 n_22 t78_15 = some r := h
    show SCode _ _ _ ⟨[(1, .c (.int .i64 a1_source)), (2, .c (.int .i64 a2_sink)), (10, .c (.own 0 o0_6.length)), (76, .c (.own 0 o0_6.length)), (77, .c (.int .i64 (((o0_6).length : Int)))), (78, .c (.int .i64 t78_15))], [.arr 3 1 o0_6.length (gL (cInt .i64) 0 o0_6)]⟩ _
    cases n_22 with
    | zero => cases h
    | succ n_22 =>
      replace h : flow_Check_b22 a1_source a2_sink o0_6 (fun t78_15 => flow_Check_l22 a1_source a2_sink o0_6 n_22 t78_15) t78_15 = some r := h
      unfold flow_Check_b22 at h
      refine SCode.seq ?_
      refine SCode.region (show SOps _ _ _ [0] _ _ from ?_)
      refine SOps.q rfl (.plain rfl) rfl (q_lss rfl rfl rfl) ?_
      refine SOps.sub (st' := ⟨[(1, .c (.int .i64 a1_source)), (2, .c (.int .i64 a2_sink)), (10, .c (.own 0 o0_6.length)), (76, .c (.own 0 o0_6.length)), (77, .c (.int .i64 (((o0_6).length : Int)))), (78, .c (.int .i64 t78_15)), (79, .c (.bool (decide (t78_15 < ((o0_6).length : Int)))))], [.arr 3 1 o0_6.length (gL (cInt .i64) 0 o0_6)]⟩) (sub_gen [0] rfl rfl ⟨zc rfl rfl, zc rfl rfl, zc rfl rfl, zc rfl rfl, zc rfl rfl, zc rfl rfl, zc rfl rfl, trivial⟩ ⟨oa rfl, trivial⟩) ?_
      refine SOps.nil ?_
      refine SCode.seq ?_
      rcases cond_out h with ⟨g23, h⟩ | ⟨g23, h⟩
      · refine SCode.cond_t rfl g23 ?_
        refine SCode.skip ?_
        refine SCode.join (σ := Unit) (S := fun s => ⟨[(1, .c (.int .i64 a1_source)), (2, .c (.int .i64 a2_sink)), (10, .c (.own 0 o0_6.length)), (76, .c (.own 0 o0_6.length)), (77, .c (.int .i64 (((o0_6).length : Int)))), (78, .c (.int .i64 t78_15))], [.arr 3 1 o0_6.length (gL (cInt .i64) 0 o0_6)]⟩) (g := fun s => flow_Check_p24 t78_15 (fun t78_15 => flow_Check_l22 a1_source a2_sink o0_6 n_22 t78_15) = some r) ?_ ?_
        rotate_left
        · refine SCode.block ?_
          refine SCode.seq ?_
          obtain ⟨g25, h⟩ := guard_out h
          refine SCode.region (show SOps _ _ _ [0, 1, 2, 3, 4] _ _ from ?_)
          refine SOps.q rfl (.plain rfl) rfl (q_move rfl rfl) ?_
          refine SOps.q rfl (.plain rfl) rfl (q_index_own rfl rfl rfl sl30 g25.1 g25.2) ?_
          refine SOps.q rfl (.plain rfl) rfl (q_load_aptr rfl rfl rfl (toNat_lt g25) rfl ty3) ?_
          refine SOps.q rfl (.plain rfl) rfl (q_assign rfl rfl) ?_
          refine SOps.q rfl (.plain rfl) rfl (q_assign rfl rfl) ?_
          refine SOps.sub (st' := ⟨[(1, .c (.int .i64 a1_source)), (2, .c (.int .i64 a2_sink)), (10, .c (.own 0 o0_6.length)), (13, .c (.int .i64 t78_15)), (14, .c (.int .i64 (o0_6.getD t78_15.toNat 0))), (76, .c (.own 0 o0_6.length)), (77, .c (.int .i64 (((o0_6).length : Int)))), (78, .c (.int .i64 t78_15))], [.arr 3 1 o0_6.length (gL (cInt .i64) 0 o0_6)]⟩) (sub_gen [0] rfl rfl ⟨zc rfl rfl, zc rfl rfl, zc rfl rfl, zc rfl rfl, zc rfl rfl, zc rfl rfl, zc rfl rfl, zc rfl rfl, trivial⟩ ⟨oa rfl, trivial⟩) ?_
          refine SOps.nil ?_
          refine SCode.seq ?_
          rcases cond_out h with ⟨g26, h⟩ | ⟨g26, h⟩
          · rcases cond_out h with ⟨g27, h⟩ | ⟨g27, h⟩
            · refine SCode.region (show SOps _ _ _ [0, 1, 2, 3, 4, 5, 6, 7, 8, 9, 10, 11] _ _ from ?_)
              refine SOps.q rfl (.plain rfl) rfl (q_move rfl rfl) ?_
              refine SOps.q rfl (.plain rfl) rfl (q_neq rfl rfl rfl) ?_
              refine SOps.q rfl (.plain rfl) rfl (q_move rfl rfl) ?_
              refine SOps.q rfl (.guard 2 85 true rfl rfl (gT g26)) rfl (q_move rfl rfl) ?_
              refine SOps.q rfl (.guard 2 85 true rfl rfl (gT g26)) rfl (q_move rfl rfl) ?_
              refine SOps.q rfl (.guard 2 85 true rfl rfl (gT g26)) rfl (q_neq rfl rfl rfl) ?_
              refine SOps.q rfl (.plain rfl) rfl (q_pick_t rfl rfl g26 rfl) ?_
              refine SOps.q rfl (.plain rfl) rfl (q_move rfl rfl) ?_
              refine SOps.q rfl (.guard 7 90 true rfl rfl (gT g27)) rfl (q_move rfl rfl) ?_
              refine SOps.q rfl (.guard 7 90 true rfl rfl (gT g27)) rfl (q_move rfl rfl) ?_
              refine SOps.q rfl (.guard 7 90 true rfl rfl (gT g27)) rfl (q_neq rfl rfl rfl) ?_
              refine SOps.q rfl (.plain rfl) rfl (q_pick_t rfl rfl g27 rfl) ?_
              refine SOps.sub (st' := ⟨[(1, .c (.int .i64 a1_source)), (2, .c (.int .i64 a2_sink)), (10, .c (.own 0 o0_6.length)), (76, .c (.own 0 o0_6.length)), (77, .c (.int .i64 (((o0_6).length : Int)))), (78, .c (.int .i64 t78_15)), (94, .c (.bool ((!decide (t78_15 = a2_sink)))))], [.arr 3 1 o0_6.length (gL (cInt .i64) 0 o0_6)]⟩) (sub_gen [0] rfl rfl ⟨zc rfl rfl, zc rfl rfl, zc rfl rfl, zc rfl rfl, zc rfl rfl, zc rfl rfl, zc rfl rfl, trivial⟩ ⟨oa rfl, trivial⟩) ?_
              refine SOps.nil ?_
              rcases cond_out h with ⟨g28, h⟩ | ⟨g28, h⟩
              · refine SCode.cond_t rfl g28 ?_
                refine SCode.seq ?_
                refine SCode.region (show SOps _ _ _ [0, 1] _ _ from ?_)
                refine SOps.q rfl (.plain rfl) rfl (q_assign rfl rfl) ?_
                refine SOps.q rfl (.plain rfl) rfl (q_assign rfl rfl) ?_
                refine SOps.sub (st' := ⟨[(8, .c (.int .i64 0)), (9, .c (.bool false))], []⟩) (sub_gen [] rfl rfl ⟨zc rfl rfl, zc rfl rfl, trivial⟩ trivial) ?_
                refine SOps.nil ?_
                refine SCode.ret ?_
                obtain rfl := Option.some.inj h
                exact ⟨⟨[(8, .c (.int .i64 0)), (9, .c (.bool false))], []⟩, _, sub_gen [] rfl rfl ⟨zc rfl rfl, zc rfl rfl, trivial⟩ trivial, resA2 (v1 := .c (.int .i64 0)) (v2 := .c (.bool false)) rfl rfl rfl, rfl⟩
              refine SCode.cond_f rfl g28 ?_
              refine SCode.skip ?_
              exact ⟨(), h, sub_gen [0] rfl rfl ⟨zc rfl rfl, zc rfl rfl, zc rfl rfl, zc rfl rfl, zc rfl rfl, zc rfl rfl, trivial⟩ ⟨oa rfl, trivial⟩⟩
            refine SCode.region (show SOps _ _ _ [0, 1, 2, 3, 4, 5, 6, 7, 8, 9, 10, 11] _ _ from ?_)
            refine SOps.q rfl (.plain rfl) rfl (q_move rfl rfl) ?_
            refine SOps.q rfl (.plain rfl) rfl (q_neq rfl rfl rfl) ?_
            refine SOps.q rfl (.plain rfl) rfl (q_move rfl rfl) ?_
            refine SOps.q rfl (.guard 2 85 true rfl rfl (gT g26)) rfl (q_move rfl rfl) ?_
            refine SOps.q rfl (.guard 2 85 true rfl rfl (gT g26)) rfl (q_move rfl rfl) ?_
            refine SOps.q rfl (.guard 2 85 true rfl rfl (gT g26)) rfl (q_neq rfl rfl rfl) ?_
            refine SOps.q rfl (.plain rfl) rfl (q_pick_t rfl rfl g26 rfl) ?_
            refine SOps.q rfl (.plain rfl) rfl (q_move rfl rfl) ?_
            refine SOps.skip rfl 7 90 true rfl rfl (.inl (gF g27)) rfl ?_
            refine SOps.skip rfl 7 90 true rfl rfl (.inl (gF g27)) rfl ?_
            refine SOps.skip rfl 7 90 true rfl rfl (.inl (gF g27)) rfl ?_
            refine SOps.q rfl (.plain rfl) rfl (q_pick_f rfl rfl g27 rfl) ?_
            refine SOps.sub (st' := ⟨[(1, .c (.int .i64 a1_source)), (2, .c (.int .i64 a2_sink)), (10, .c (.own 0 o0_6.length)), (76, .c (.own 0 o0_6.length)), (77, .c (.int .i64 (((o0_6).length : Int)))), (78, .c (.int .i64 t78_15)), (94, .c (.bool false))], [.arr 3 1 o0_6.length (gL (cInt .i64) 0 o0_6)]⟩) (sub_gen [0] rfl rfl ⟨zc rfl rfl, zc rfl rfl, zc rfl rfl, zc rfl rfl, zc rfl rfl, zc rfl rfl, zc rfl rfl, trivial⟩ ⟨oa rfl, trivial⟩) ?_
            refine SOps.nil ?_
            refine SCode.cond_f rfl rfl ?_
            refine SCode.skip ?_
            exact ⟨(), h, sub_gen [0] rfl rfl ⟨zc rfl rfl, zc rfl rfl, zc rfl rfl, zc rfl rfl, zc rfl rfl, zc rfl rfl, trivial⟩ ⟨oa rfl, trivial⟩⟩
          refine SCode.region (show SOps _ _ _ [0, 1, 2, 3, 4, 5, 6, 7, 8, 9, 10, 11] _ _ from ?_)
          refine SOps.q rfl (.plain rfl) rfl (q_move rfl rfl) ?_
          refine SOps.q rfl (.plain rfl) rfl (q_neq rfl rfl rfl) ?_
          refine SOps.q rfl (.plain rfl) rfl (q_move rfl rfl) ?_
          refine SOps.skip rfl 2 85 true rfl rfl (.inl (gF g26)) rfl ?_
          refine SOps.skip rfl 2 85 true rfl rfl (.inl (gF g26)) rfl ?_
          refine SOps.skip rfl 2 85 true rfl rfl (.inl (gF g26)) rfl ?_
          refine SOps.q rfl (.plain rfl) rfl (q_pick_f rfl rfl g26 rfl) ?_
          refine SOps.q rfl (.plain rfl) rfl (q_move rfl rfl) ?_
          refine SOps.skip rfl 7 90 true rfl rfl (.inl rfl) rfl ?_
          refine SOps.skip rfl 7 90 true rfl rfl (.inl rfl) rfl ?_
          refine SOps.skip rfl 7 90 true rfl rfl (.inl rfl) rfl ?_
          refine SOps.q rfl (.plain rfl) rfl (q_pick_f rfl rfl rfl rfl) ?_
          refine SOps.sub (st' := ⟨[(1, .c (.int .i64 a1_source)), (2, .c (.int .i64 a2_sink)), (10, .c (.own 0 o0_6.length)), (76, .c (.own 0 o0_6.length)), (77, .c (.int .i64 (((o0_6).length : Int)))), (78, .c (.int .i64 t78_15)), (94, .c (.bool false))], [.arr 3 1 o0_6.length (gL (cInt .i64) 0 o0_6)]⟩) (sub_gen [0] rfl rfl ⟨zc rfl rfl, zc rfl rfl, zc rfl rfl, zc rfl rfl, zc rfl rfl, zc rfl rfl, zc rfl rfl, trivial⟩ ⟨oa rfl, trivial⟩) ?_
          refine SOps.nil ?_
          refine SCode.cond_f rfl rfl ?_
          refine SCode.skip ?_
          exact ⟨(), h, sub_gen [0] rfl rfl ⟨zc rfl rfl, zc rfl rfl, zc rfl rfl, zc rfl rfl, zc rfl rfl, zc rfl rfl, trivial⟩ ⟨oa rfl, trivial⟩⟩
        rintro ⟨⟩ h
        show SCode _ _ _ ⟨[(1, .c (.int .i64 a1_source)), (2, .c (.int .i64 a2_sink)), (10, .c (.own 0 o0_6.length)), (76, .c (.own 0 o0_6.length)), (77, .c (.int .i64 (((o0_6).length : Int)))), (78, .c (.int .i64 t78_15))], [.arr 3 1 o0_6.length (gL (cInt .i64) 0 o0_6)]⟩ _
        replace h : flow_Check_p24 t78_15 (fun t78_15 => flow_Check_l22 a1_source a2_sink o0_6 n_22 t78_15) = some r := h
        unfold flow_Check_p24 at h
        refine SCode.region (show SOps _ _ _ [0, 1] _ _ from ?_)
        refine SOps.q rfl (.plain rfl) rfl (q_add rfl rfl rfl) ?_
        refine SOps.q rfl (.plain rfl) rfl (q_move rfl rfl) ?_
        refine SOps.sub (st' := ⟨[(1, .c (.int .i64 a1_source)), (2, .c (.int .i64 a2_sink)), (10, .c (.own 0 o0_6.length)), (76, .c (.own 0 o0_6.length)), (77, .c (.int .i64 (((o0_6).length : Int)))), (78, .c (.int .i64 (IntKind.wrap .i64 (t78_15 + 1))))], [.arr 3 1 o0_6.length (gL (cInt .i64) 0 o0_6)]⟩) (sub_gen [0] rfl rfl ⟨zc rfl rfl, zc rfl rfl, zc rfl rfl, zc rfl rfl, zc rfl rfl, zc rfl rfl, trivial⟩ ⟨oa rfl, trivial⟩) ?_
        refine SOps.nil ?_
        exact ⟨(n_22, IntKind.wrap .i64 (t78_15 + 1)), h, Nat.lt_succ_self n_22, sub_gen [0] rfl rfl ⟨zc rfl rfl, zc rfl rfl, zc rfl rfl, zc rfl rfl, zc rfl rfl, zc rfl rfl, trivial⟩ ⟨oa rfl, trivial⟩⟩
      refine SCode.cond_f rfl g23 ?_
      refine SCode.exit ?_
      exact ⟨(), h, sub_gen [0] rfl rfl ⟨zc rfl rfl, zc rfl rfl, trivial⟩ ⟨oa rfl, trivial⟩⟩
  rintro ⟨⟩ h
  show SCode _ _ _ ⟨[(1, .c (.int .i64 a1_source)), (10, .c (.own 0 o0_6.length))], [.arr 3 1 o0_6.length (gL (cInt .i64) 0 o0_6)]⟩ _
  replace h : flow_Check_p8 a1_source o0_6 = some r := h
  unfold flow_Check_p8 at h
  refine SCode.seq ?_
  obtain ⟨g7, h⟩ := guard_out h
  refine SCode.region (show SOps _ _ _ [0, 1, 2, 3, 4, 5] _ _ from ?_)
  refine SOps.q rfl (.plain rfl) rfl (q_move rfl rfl) ?_
  refine SOps.q rfl (.plain rfl) rfl (q_move rfl rfl) ?_
  refine SOps.q rfl (.plain rfl) rfl (q_index_own rfl rfl rfl sl30 g7.1 g7.2) ?_
  refine SOps.q rfl (.plain rfl) rfl (q_load_aptr rfl rfl rfl (toNat_lt g7) rfl ty3) ?_
  refine SOps.q rfl (.plain rfl) rfl (q_assign rfl rfl) ?_
  refine SOps.q rfl (.plain rfl) rfl (q_assign rfl rfl) ?_
  refine SOps.sub (st' := ⟨[(8, .c (.int .i64 (o0_6.getD a1_source.toNat 0))), (9, .c (.bool true))], []⟩) (sub_gen [] rfl rfl ⟨zc rfl rfl, zc rfl rfl, trivial⟩ trivial) ?_
  refine SOps.nil ?_
  refine SCode.ret ?_
  obtain rfl := Option.some.inj h
  exact ⟨⟨[(8, .c (.int .i64 (o0_6.getD a1_source.toNat 0))), (9, .c (.bool true))], []⟩, _, sub_gen [] rfl rfl ⟨zc rfl rfl, zc rfl rfl, trivial⟩ trivial, resA2 (v1 := .c (.int .i64 (o0_6.getD a1_source.toNat 0))) (v2 := .c (.bool true)) rfl rfl rfl, rfl⟩
set_option maxRecDepth 100000 in
set_option maxHeartbeats 8000000 in
theorem chargenetlaw09_example_ok (F : Nat)  (r : SNet) (h : chargenetlaw09_example F  = some r) :
    SFun Try.prog 25 [] [] (fun x _ => x = .a [.int .i64 r.Nodes, .vec r.Arcs.length 3 (gL cSArc dSArc r.Arcs)]) := by
  refine SFun.of (n := 5) Try.func25 rfl rfl rfl ?_
  unfold chargenetlaw09_example at h
  show SCode _ _ _ ⟨[], []⟩ _
  refine SCode.seq ?_
  refine SCode.region (show SOps _ _ _ [0] _ _ from ?_)
  refine SOps.e rfl (.plain rfl) (e_alloc rfl rfl rfl z24) ?_
  refine SOps.sub (st' := ⟨[(0, .c (.ptr 0 0))], [.box [.int .i64 0, .raw (.slice none 0 0)]]⟩) (sub_gen [0] rfl rfl ⟨zc rfl rfl, trivial⟩ ⟨⟨_, rfl, ⟨ii rfl rfl, ii rfl rfl, trivial⟩⟩, trivial⟩) ?_
  refine SOps.nil ?_
  refine SCode.seq ?_
  refine SCode.region (show SOps _ _ _ [0, 1, 2, 3, 4] _ _ from ?_)
  refine SOps.q rfl (.plain rfl) rfl (q_build2 rfl rfl pl50 rfl) ?_
  refine SOps.q rfl (.plain rfl) rfl (q_build2 rfl rfl pl50 rfl) ?_
  refine SOps.q rfl (.plain rfl) rfl (q_bsliceL (c := cSArc) (d0 := dSArc) [SArc.mk 0 1 4, SArc.mk 1 2 1] rfl rfl sl22 z50 rfl rfl rfl rfl rfl rfl rfl) ?_
  refine SOps.q rfl (.plain rfl) rfl (q_build2 rfl rfl pl24 rfl) ?_
  refine SOps.e rfl (.plain rfl) (e_store_box rfl rfl rfl rfl rfl ty24 rfl rfl rfl rfl) ?_
  refine SOps.sub (st' := ⟨[(0, .c (.ptr 0 0))], [.box [.int .i64 3, .vec ([SArc.mk 0 1 4, SArc.mk 1 2 1]).length 3 (gL cSArc dSArc ([SArc.mk 0 1 4, SArc.mk 1 2 1]))]]⟩) (sub_gen [0] rfl rfl ⟨zc rfl rfl, trivial⟩ ⟨⟨_, rfl, ⟨ii rfl rfl, ii rfl rfl, trivial⟩⟩, trivial⟩) ?_
  refine SOps.nil ?_
  refine SCode.ret ?_
  obtain rfl := Option.some.inj h
  exact ⟨⟨[(0, .c (.ptr 0 0))], [.box [.int .i64 3, .vec ([SArc.mk 0 1 4, SArc.mk 1 2 1]).length 3 (gL cSArc dSArc ([SArc.mk 0 1 4, SArc.mk 1 2 1]))]]⟩, _, sub_gen [0] rfl rfl ⟨zc rfl rfl, trivial⟩ ⟨⟨_, rfl, ⟨ii rfl rfl, ii rfl rfl, trivial⟩⟩, trivial⟩, resA1 (v := .a [.int .i64 3, .vec ([SArc.mk 0 1 4, SArc.mk 1 2 1]).length 3 (gL cSArc dSArc ([SArc.mk 0 1 4, SArc.mk 1 2 1]))]) rfl ⟨_, rfl, rfl, ty24⟩, rfl⟩
end Go.Proofs.Ytbepoingholchaa.W
