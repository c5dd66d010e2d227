/- Written by a program of ours (wip/eng/gen.py): the functions compute their models. -/
import Derived.Test.YtbepoingholchaaFacts
import Derived.Test.YtbepoingholchaaV6x6
namespace Go.Proofs.Ytbepoingholchaa.W
open Go Go.Proofs Go.Proofs.Ytbepoingholchaa.E Go.Proofs.Ytbepoingholchaa.M
set_option linter.unusedVariables false
set_option maxRecDepth 100000 in
set_option maxHeartbeats 8000000 in
theorem chargenetref09_search_ok (F : Nat) (a0_n : SNet) (a1_source : Int) (a2_l : List Int) (r : (List Int) × (List Int)) (h : chargenetref09_search F a0_n a1_source a2_l = some r) :
    SFun Try.prog 30 [.arr 3 1 a2_l.length (gL (cInt .i64) 0 a2_l)] [.a [.int .i64 a0_n.Nodes, .vec a0_n.Arcs.length 3 (gL cSArc dSArc a0_n.Arcs)], .c (.int .i64 a1_source), .c (.own 0 a2_l.length)] (fun x os => x = .t [.c (.vec r.1.length 1 (gL (cInt .i64) 0 r.1)), .c (.vec r.2.length 1 (gL (cInt .i64) 0 r.2))] ∧ os = [.arr 3 1 a2_l.length (gL (cInt .i64) 0 a2_l)]) := by
  refine SFun.of (n := 117) Try.func30 rfl rfl rfl ?_
  unfold chargenetref09_search at h
  show SCode _ _ _ ⟨[(0, .a [.int .i64 a0_n.Nodes, .vec a0_n.Arcs.length 3 (gL cSArc dSArc a0_n.Arcs)]), (1, .c (.int .i64 a1_source)), (2, .c (.own 0 a2_l.length))], [.arr 3 1 a2_l.length (gL (cInt .i64) 0 a2_l)]⟩ _
  refine SCode.seq ?_
  refine SCode.region (show SOps _ _ _ [0, 1, 2] _ _ from ?_)
  refine SOps.e rfl (.plain rfl) (e_box rfl rfl rfl rfl rfl rfl) ?_
  refine SOps.q rfl (.plain rfl) rfl (q_assign rfl rfl) ?_
  refine SOps.q rfl (.plain rfl) rfl (q_assign rfl rfl) ?_
  refine SOps.sub (st' := ⟨[(1, .c (.int .i64 a1_source)), (2, .c (.own 0 a2_l.length)), (3, .c (.ptr 1 0))], [.arr 3 1 a2_l.length (gL (cInt .i64) 0 a2_l), .box [.int .i64 a0_n.Nodes, .vec a0_n.Arcs.length 3 (gL cSArc dSArc a0_n.Arcs)]]⟩) (sub_gen [0, 1] rfl rfl ⟨zc rfl rfl, zc rfl rfl, zc rfl rfl, trivial⟩ ⟨oa rfl, ⟨_, rfl, ⟨ii rfl rfl, ii rfl rfl, trivial⟩⟩, trivial⟩) ?_
  refine SOps.nil ?_
  refine SCode.seq ?_
  obtain ⟨g1, h⟩ := guard_out h
  refine SCode.region (show SOps _ _ _ [0, 1, 2, 3] _ _ from ?_)
  refine SOps.q rfl (.plain rfl) rfl (q_field_ptr rfl rfl fd24_0) ?_
  refine SOps.q rfl (.plain rfl) rfl (q_load_ptr rfl rfl rfl rfl ty3) ?_
  refine SOps.e rfl (.plain rfl) (e_makeL (c := (cInt .i64)) (d0 := 0) rfl rfl rfl rfl rfl sl30 z3 rfl rfl rfl g1.1 (Int.le_refl _) g1.2.1 g1.2.2) ?_
  refine SOps.q rfl (.plain rfl) rfl (q_assign rfl rfl) ?_
  refine SOps.sub (st' := ⟨[(1, .c (.int .i64 a1_source)), (2, .c (.own 0 a2_l.length)), (3, .c (.ptr 1 0)), (8, .c (.own 2 (List.replicate a0_n.Nodes.toNat (0 : Int)).length))], [.arr 3 1 a2_l.length (gL (cInt .i64) 0 a2_l), .box [.int .i64 a0_n.Nodes, .vec a0_n.Arcs.length 3 (gL cSArc dSArc a0_n.Arcs)], .arr 3 1 (List.replicate a0_n.Nodes.toNat (0 : Int)).length (gL (cInt .i64) 0 (List.replicate a0_n.Nodes.toNat (0 : Int)))]⟩) (sub_gen [0, 1, 2] rfl rfl ⟨zc rfl rfl, zc rfl rfl, zc rfl rfl, zc rfl rfl, trivial⟩ ⟨oa rfl, ⟨_, rfl, ⟨ii rfl rfl, ii rfl rfl, trivial⟩⟩, oa rfl, trivial⟩) ?_
  refine SOps.nil ?_
  refine SCode.seq ?_
  obtain ⟨g2, h⟩ := guard_out h
  refine SCode.region (show SOps _ _ _ [0, 1, 2, 3] _ _ from ?_)
  refine SOps.q rfl (.plain rfl) rfl (q_field_ptr rfl rfl fd24_0) ?_
  refine SOps.q rfl (.plain rfl) rfl (q_load_ptr rfl rfl rfl rfl ty3) ?_
  refine SOps.e rfl (.plain rfl) (e_makeL (c := (cInt .i64)) (d0 := 0) rfl rfl rfl rfl rfl sl30 z3 rfl rfl rfl g2.1 (Int.le_refl _) g2.2.1 g2.2.2) ?_
  refine SOps.q rfl (.plain rfl) rfl (q_assign rfl rfl) ?_
  refine SOps.sub (st' := ⟨[(1, .c (.int .i64 a1_source)), (2, .c (.own 0 a2_l.length)), (3, .c (.ptr 1 0)), (8, .c (.own 2 (List.replicate a0_n.Nodes.toNat (0 : Int)).length)), (9, .c (.own 3 (List.replicate a0_n.Nodes.toNat (0 : Int)).length))], [.arr 3 1 a2_l.length (gL (cInt .i64) 0 a2_l), .box [.int .i64 a0_n.Nodes, .vec a0_n.Arcs.length 3 (gL cSArc dSArc a0_n.Arcs)], .arr 3 1 (List.replicate a0_n.Nodes.toNat (0 : Int)).length (gL (cInt .i64) 0 (List.replicate a0_n.Nodes.toNat (0 : Int))), .arr 3 1 (List.replicate a0_n.Nodes.toNat (0 : Int)).length (gL (cInt .i64) 0 (List.replicate a0_n.Nodes.toNat (0 : Int)))]⟩) (sub_gen [0, 1, 2, 3] rfl rfl ⟨zc rfl rfl, zc rfl rfl, zc rfl rfl, zc rfl rfl, zc rfl rfl, trivial⟩ ⟨oa rfl, ⟨_, rfl, ⟨ii rfl rfl, ii rfl rfl, trivial⟩⟩, oa rfl, oa rfl, trivial⟩) ?_
  refine SOps.nil ?_
  refine SCode.seq ?_
  obtain ⟨g3, h⟩ := guard_out h
  refine SCode.region (show SOps _ _ _ [0, 1, 2, 3] _ _ from ?_)
  refine SOps.q rfl (.plain rfl) rfl (q_move rfl rfl) ?_
  refine SOps.q rfl (.plain rfl) rfl (q_move rfl rfl) ?_
  refine SOps.q rfl (.plain rfl) rfl (q_index_own rfl rfl rfl sl30 g3.1 g3.2) ?_
  refine SOps.e rfl (.plain rfl) (e_storeL 1 rfl rfl rfl rfl rfl (toNat_lt g3) ty3 rfl rfl rfl rfl rfl rfl) ?_
  refine SOps.sub (st' := ⟨[(2, .c (.own 0 a2_l.length)), (3, .c (.ptr 1 0)), (8, .c (.own 2 (List.replicate a0_n.Nodes.toNat (0 : Int)).length)), (9, .c (.own 3 ((List.replicate a0_n.Nodes.toNat (0 : Int)).set a1_source.toNat 1).length))], [.arr 3 1 a2_l.length (gL (cInt .i64) 0 a2_l), .box [.int .i64 a0_n.Nodes, .vec a0_n.Arcs.length 3 (gL cSArc dSArc a0_n.Arcs)], .arr 3 1 (List.replicate a0_n.Nodes.toNat (0 : Int)).length (gL (cInt .i64) 0 (List.replicate a0_n.Nodes.toNat (0 : Int))), .arr 3 1 ((List.replicate a0_n.Nodes.toNat (0 : Int)).set a1_source.toNat 1).length (gL (cInt .i64) 0 ((List.replicate a0_n.Nodes.toNat (0 : Int)).set a1_source.toNat 1))]⟩) (sub_gen [0, 1, 2, 3] rfl rfl ⟨zc rfl rfl, zc rfl rfl, zc rfl rfl, ⟨_, rfl, .inl ⟨rfl, congrArg (Cell.own 3) (List.length_set : ((List.replicate a0_n.Nodes.toNat (0 : Int)).set a1_source.toNat 1).length = (List.replicate a0_n.Nodes.toNat (0 : Int)).length).symm⟩⟩, trivial⟩ ⟨oa rfl, ⟨_, rfl, ⟨ii rfl rfl, ii rfl rfl, trivial⟩⟩, oa rfl, oa rfl, trivial⟩) ?_
  refine SOps.nil ?_
  refine SCode.join (σ := (List Int) × (List Int)) (S := fun s => ⟨[(8, .c (.own 1 s.1.length)), (9, .c (.own 2 s.2.length))], [.arr 3 1 a2_l.length (gL (cInt .i64) 0 a2_l), .arr 3 1 s.1.length (gL (cInt .i64) 0 s.1), .arr 3 1 s.2.length (gL (cInt .i64) 0 s.2)]⟩) (g := fun s => chargenetref09_search_p6 s.1 s.2 = some r) ?_ ?_
  rotate_left
  · refine SCode.seq ?_
    refine SCode.region (show SOps _ _ _ [0] _ _ from ?_)
    refine SOps.q rfl (.plain rfl) rfl (q_assign rfl rfl) ?_
    refine SOps.sub (st' := ⟨[(2, .c (.own 0 a2_l.length)), (3, .c (.ptr 1 0)), (8, .c (.own 2 (List.replicate a0_n.Nodes.toNat (0 : Int)).length)), (9, .c (.own 3 ((List.replicate a0_n.Nodes.toNat (0 : Int)).set a1_source.toNat 1).length)), (10, .c (.int .i64 1))], [.arr 3 1 a2_l.length (gL (cInt .i64) 0 a2_l), .box [.int .i64 a0_n.Nodes, .vec a0_n.Arcs.length 3 (gL cSArc dSArc a0_n.Arcs)], .arr 3 1 (List.replicate a0_n.Nodes.toNat (0 : Int)).length (gL (cInt .i64) 0 (List.replicate a0_n.Nodes.toNat (0 : Int))), .arr 3 1 ((List.replicate a0_n.Nodes.toNat (0 : Int)).set a1_source.toNat 1).length (gL (cInt .i64) 0 ((List.replicate a0_n.Nodes.toNat (0 : Int)).set a1_source.toNat 1))]⟩) (sub_gen [0, 1, 2, 3] rfl rfl ⟨zc rfl rfl, zc rfl rfl, zc rfl rfl, zc rfl rfl, zc rfl rfl, trivial⟩ ⟨oa rfl, ⟨_, rfl, ⟨ii rfl rfl, ii rfl rfl, trivial⟩⟩, oa rfl, oa rfl, trivial⟩) ?_
    refine SOps.nil ?_
    refine SCode.block ?_
    refine SCode.sub (st' := ⟨[(2, .c (.own 0 a2_l.length)), (3, .c (.ptr 1 0)), (8, .c (.own 2 (List.replicate a0_n.Nodes.toNat (0 : Int)).length)), (9, .c (.own 3 ((List.replicate a0_n.Nodes.toNat (0 : Int)).set a1_source.toNat 1).length)), (10, .c (.int .i64 1))], [.arr 3 1 a2_l.length (gL (cInt .i64) 0 a2_l), .box [.int .i64 a0_n.Nodes, .vec a0_n.Arcs.length 3 (gL cSArc dSArc a0_n.Arcs)], .arr 3 1 (List.replicate a0_n.Nodes.toNat (0 : Int)).length (gL (cInt .i64) 0 (List.replicate a0_n.Nodes.toNat (0 : Int))), .arr 3 1 ((List.replicate a0_n.Nodes.toNat (0 : Int)).set a1_source.toNat 1).length (gL (cInt .i64) 0 ((List.replicate a0_n.Nodes.toNat (0 : Int)).set a1_source.toNat 1))]⟩) (sub_gen [0, 1, 2, 3] rfl rfl ⟨zc rfl rfl, zc rfl rfl, zc rfl rfl, zc rfl rfl, zc rfl rfl, trivial⟩ ⟨oa rfl, ⟨_, rfl, ⟨ii rfl rfl, ii rfl rfl, trivial⟩⟩, oa rfl, oa rfl, trivial⟩) ?_
    refine (SCode.loop (σ := Nat × (Int × (List Int) × (List Int))) (S := fun s => ⟨[(2, .c (.own 0 a2_l.length)), (3, .c (.ptr 1 0)), (8, .c (.own 2 s.2.2.1.length)), (9, .c (.own 3 s.2.2.2.length)), (10, .c (.int .i64 s.2.1))], [.arr 3 1 a2_l.length (gL (cInt .i64) 0 a2_l), .box [.int .i64 a0_n.Nodes, .vec a0_n.Arcs.length 3 (gL cSArc dSArc a0_n.Arcs)], .arr 3 1 s.2.2.1.length (gL (cInt .i64) 0 s.2.2.1), .arr 3 1 s.2.2.2.length (gL (cInt .i64) 0 s.2.2.2)]⟩) (g := fun s => chargenetref09_search_l218 F a0_n a2_l s.1 s.2.1 s.2.2.1 s.2.2.2 = some r) (μ := fun s => s.1) (F, (1, List.replicate a0_n.Nodes.toNat (0 : Int), (List.replicate a0_n.Nodes.toNat (0 : Int)).set a1_source.toNat 1)) h ?_)
    rintro ⟨n_218, ⟨d_111, o2_112, o3_113⟩⟩ h
    replace h : chargenetref09_search_l218 F a0_n a2_l n_218 d_111 o2_112 o3_113 = some r := h
    show SCode _ _ _ ⟨[(2, .c (.own 0 a2_l.length)), (3, .c (.ptr 1 0)), (8, .c (.own 2 o2_112.length)), (9, .c (.own 3 o3_113.length)), (10, .c (.int .i64 d_111))], [.arr 3 1 a2_l.length (gL (cInt .i64) 0 a2_l), .box [.int .i64 a0_n.Nodes, .vec a0_n.Arcs.length 3 (gL cSArc dSArc a0_n.Arcs)], .arr 3 1 o2_112.length (gL (cInt .i64) 0 o2_112), .arr 3 1 o3_113.length (gL (cInt .i64) 0 o3_113)]⟩ _
    cases n_218 with
    | zero => cases h
    | succ n_218 =>
      replace h : chargenetref09_search_b218 F a0_n a2_l (fun d_111 o2_112 o3_113 => chargenetref09_search_l218 F a0_n a2_l n_218 d_111 o2_112 o3_113) d_111 o2_112 o3_113 = some r := h
      unfold chargenetref09_search_b218 at h
      refine SCode.seq ?_
      refine SCode.seq ?_
      refine SCode.region (show SOps _ _ _ [0, 1, 2, 3] _ _ from ?_)
      refine SOps.q rfl (.plain rfl) rfl (q_move rfl rfl) ?_
      refine SOps.q rfl (.plain rfl) rfl (q_field_ptr rfl rfl fd24_0) ?_
      refine SOps.q rfl (.plain rfl) rfl (q_load_ptr rfl rfl rfl rfl ty3) ?_
      refine SOps.q rfl (.plain rfl) rfl (q_leq rfl rfl rfl) ?_
      refine SOps.sub (st' := ⟨[(2, .c (.own 0 a2_l.length)), (3, .c (.ptr 1 0)), (8, .c (.own 2 o2_112.length)), (9, .c (.own 3 o3_113.length)), (10, .c (.int .i64 d_111)), (26, .c (.bool (decide (d_111 ≤ a0_n.Nodes))))], [.arr 3 1 a2_l.length (gL (cInt .i64) 0 a2_l), .box [.int .i64 a0_n.Nodes, .vec a0_n.Arcs.length 3 (gL cSArc dSArc a0_n.Arcs)], .arr 3 1 o2_112.length (gL (cInt .i64) 0 o2_112), .arr 3 1 o3_113.length (gL (cInt .i64) 0 o3_113)]⟩) (sub_gen [0, 1, 2, 3] rfl rfl ⟨zc rfl rfl, zc rfl rfl, zc rfl rfl, zc rfl rfl, zc rfl rfl, zc rfl rfl, trivial⟩ ⟨oa rfl, ⟨_, rfl, ⟨ii rfl rfl, ii rfl rfl, trivial⟩⟩, oa rfl, oa rfl, trivial⟩) ?_
      refine SOps.nil ?_
      rcases cond_out h with ⟨g219, h⟩ | ⟨g219, h⟩
      · refine SCode.cond_t rfl g219 ?_
        refine SCode.skip ?_
        refine SCode.join (σ := (List Int) × (List Int)) (S := fun s => ⟨[(2, .c (.own 0 a2_l.length)), (3, .c (.ptr 1 0)), (8, .c (.own 2 s.1.length)), (9, .c (.own 3 s.2.length)), (10, .c (.int .i64 d_111))], [.arr 3 1 a2_l.length (gL (cInt .i64) 0 a2_l), .box [.int .i64 a0_n.Nodes, .vec a0_n.Arcs.length 3 (gL cSArc dSArc a0_n.Arcs)], .arr 3 1 s.1.length (gL (cInt .i64) 0 s.1), .arr 3 1 s.2.length (gL (cInt .i64) 0 s.2)]⟩) (g := fun s => chargenetref09_search_p222 d_111 (fun d_111 o2_112 o3_113 => chargenetref09_search_l218 F a0_n a2_l n_218 d_111 o2_112 o3_113) s.1 s.2 = some r) ?_ ?_
        rotate_left
        · refine SCode.block ?_
          refine SCode.seq ?_
          refine SCode.region (show SOps _ _ _ [0] _ _ from ?_)
          refine SOps.q rfl (.plain rfl) rfl (q_assign rfl rfl) ?_
          refine SOps.sub (st' := ⟨[(2, .c (.own 0 a2_l.length)), (3, .c (.ptr 1 0)), (8, .c (.own 2 o2_112.length)), (9, .c (.own 3 o3_113.length)), (10, .c (.int .i64 d_111)), (11, .c (.bool true))], [.arr 3 1 a2_l.length (gL (cInt .i64) 0 a2_l), .box [.int .i64 a0_n.Nodes, .vec a0_n.Arcs.length 3 (gL cSArc dSArc a0_n.Arcs)], .arr 3 1 o2_112.length (gL (cInt .i64) 0 o2_112), .arr 3 1 o3_113.length (gL (cInt .i64) 0 o3_113)]⟩) (sub_gen [0, 1, 2, 3] rfl rfl ⟨zc rfl rfl, zc rfl rfl, zc rfl rfl, zc rfl rfl, zc rfl rfl, zc rfl rfl, trivial⟩ ⟨oa rfl, ⟨_, rfl, ⟨ii rfl rfl, ii rfl rfl, trivial⟩⟩, oa rfl, oa rfl, trivial⟩) ?_
          refine SOps.nil ?_
          refine SCode.join (σ := Bool × (List Int) × (List Int)) (S := fun s => ⟨[(2, .c (.own 0 a2_l.length)), (3, .c (.ptr 1 0)), (8, .c (.own 2 s.2.1.length)), (9, .c (.own 3 s.2.2.length)), (10, .c (.int .i64 d_111)), (11, .c (.bool s.1))], [.arr 3 1 a2_l.length (gL (cInt .i64) 0 a2_l), .box [.int .i64 a0_n.Nodes, .vec a0_n.Arcs.length 3 (gL cSArc dSArc a0_n.Arcs)], .arr 3 1 s.2.1.length (gL (cInt .i64) 0 s.2.1), .arr 3 1 s.2.2.length (gL (cInt .i64) 0 s.2.2)]⟩) (g := fun s => chargenetref09_search_p227 d_111 (fun d_111 o2_112 o3_113 => chargenetref09_search_l218 F a0_n a2_l n_218 d_111 o2_112 o3_113) s.1 s.2.1 s.2.2 = some r) ?_ ?_
          rotate_left
          · refine SCode.seq ?_
            refine SCode.region (show SOps _ _ _ [0] _ _ from ?_)
            refine SOps.q rfl (.plain rfl) rfl (q_assign rfl rfl) ?_
            refine SOps.sub (st' := ⟨[(2, .c (.own 0 a2_l.length)), (3, .c (.ptr 1 0)), (8, .c (.own 2 o2_112.length)), (9, .c (.own 3 o3_113.length)), (10, .c (.int .i64 d_111)), (11, .c (.bool true)), (12, .c (.int .i64 0))], [.arr 3 1 a2_l.length (gL (cInt .i64) 0 a2_l), .box [.int .i64 a0_n.Nodes, .vec a0_n.Arcs.length 3 (gL cSArc dSArc a0_n.Arcs)], .arr 3 1 o2_112.length (gL (cInt .i64) 0 o2_112), .arr 3 1 o3_113.length (gL (cInt .i64) 0 o3_113)]⟩) (sub_gen [0, 1, 2, 3] rfl rfl ⟨zc rfl rfl, zc rfl rfl, zc rfl rfl, zc rfl rfl, zc rfl rfl, zc rfl rfl, zc rfl rfl, trivial⟩ ⟨oa rfl, ⟨_, rfl, ⟨ii rfl rfl, ii rfl rfl, trivial⟩⟩, oa rfl, oa rfl, trivial⟩) ?_
            refine SOps.nil ?_
            refine SCode.block ?_
            refine SCode.sub (st' := ⟨[(2, .c (.own 0 a2_l.length)), (3, .c (.ptr 1 0)), (8, .c (.own 2 o2_112.length)), (9, .c (.own 3 o3_113.length)), (10, .c (.int .i64 d_111)), (11, .c (.bool true)), (12, .c (.int .i64 0))], [.arr 3 1 a2_l.length (gL (cInt .i64) 0 a2_l), .box [.int .i64 a0_n.Nodes, .vec a0_n.Arcs.length 3 (gL cSArc dSArc a0_n.Arcs)], .arr 3 1 o2_112.length (gL (cInt .i64) 0 o2_112), .arr 3 1 o3_113.length (gL (cInt .i64) 0 o3_113)]⟩) (sub_gen [0, 1, 2, 3] rfl rfl ⟨zc rfl rfl, zc rfl rfl, zc rfl rfl, zc rfl rfl, zc rfl rfl, zc rfl rfl, zc rfl rfl, trivial⟩ ⟨oa rfl, ⟨_, rfl, ⟨ii rfl rfl, ii rfl rfl, trivial⟩⟩, oa rfl, oa rfl, trivial⟩) ?_
            refine (SCode.loop (σ := Nat × (Bool × Int × (List Int) × (List Int))) (S := fun s => ⟨[(2, .c (.own 0 a2_l.length)), (3, .c (.ptr 1 0)), (8, .c (.own 2 s.2.2.2.1.length)), (9, .c (.own 3 s.2.2.2.2.length)), (10, .c (.int .i64 d_111)), (11, .c (.bool s.2.1)), (12, .c (.int .i64 s.2.2.1))], [.arr 3 1 a2_l.length (gL (cInt .i64) 0 a2_l), .box [.int .i64 a0_n.Nodes, .vec a0_n.Arcs.length 3 (gL cSArc dSArc a0_n.Arcs)], .arr 3 1 s.2.2.2.1.length (gL (cInt .i64) 0 s.2.2.2.1), .arr 3 1 s.2.2.2.2.length (gL (cInt .i64) 0 s.2.2.2.2)]⟩) (g := fun s => chargenetref09_search_l292 a0_n a2_l d_111 (fun d_111 o2_112 o3_113 => chargenetref09_search_l218 F a0_n a2_l n_218 d_111 o2_112 o3_113) s.1 s.2.1 s.2.2.1 s.2.2.2.1 s.2.2.2.2 = some r) (μ := fun s => s.1) (F, (true, 0, o2_112, o3_113)) h ?_)
            rintro ⟨n_292, ⟨done_258, i_259, o2_260, o3_261⟩⟩ h
            replace h : chargenetref09_search_l292 a0_n a2_l d_111 (fun d_111 o2_112 o3_113 => chargenetref09_search_l218 F a0_n a2_l n_218 d_111 o2_112 o3_113) n_292 done_258 i_259 o2_260 o3_261 = some r := h
            show SCode _ _ _ ⟨[(2, .c (.own 0 a2_l.length)), (3, .c (.ptr 1 0)), (8, .c (.own 2 o2_260.length)), (9, .c (.own 3 o3_261.length)), (10, .c (.int .i64 d_111)), (11, .c (.bool done_258)), (12, .c (.int .i64 i_259))], [.arr 3 1 a2_l.length (gL (cInt .i64) 0 a2_l), .box [.int .i64 a0_n.Nodes, .vec a0_n.Arcs.length 3 (gL cSArc dSArc a0_n.Arcs)], .arr 3 1 o2_260.length (gL (cInt .i64) 0 o2_260), .arr 3 1 o3_261.length (gL (cInt .i64) 0 o3_261)]⟩ _
            cases n_292 with
            | zero => cases h
            | succ n_292 =>
              replace h : chargenetref09_search_b292 a0_n a2_l d_111 (fun d_111 o2_112 o3_113 => chargenetref09_search_l218 F a0_n a2_l n_218 d_111 o2_112 o3_113) (fun done_258 i_259 o2_260 o3_261 => chargenetref09_search_l292 a0_n a2_l d_111 (fun d_111 o2_112 o3_113 => chargenetref09_search_l218 F a0_n a2_l n_218 d_111 o2_112 o3_113) n_292 done_258 i_259 o2_260 o3_261) done_258 i_259 o2_260 o3_261 = some r := h
              unfold chargenetref09_search_b292 at h
              refine SCode.seq ?_
              refine SCode.seq ?_
              refine SCode.region (show SOps _ _ _ [0, 1, 2, 3, 4] _ _ from ?_)
              refine SOps.q rfl (.plain rfl) rfl (q_move rfl rfl) ?_
              refine SOps.q rfl (.plain rfl) rfl (q_field_ptr rfl rfl fd24_1) ?_
              refine SOps.q rfl (.plain rfl) rfl (q_load_ptr rfl rfl rfl rfl ty22) ?_
              refine SOps.q rfl (.plain rfl) rfl (q_len_vec rfl rfl sl22) ?_
              refine SOps.q rfl (.plain rfl) rfl (q_lss rfl rfl rfl) ?_
              refine SOps.sub (st' := ⟨[(2, .c (.own 0 a2_l.length)), (3, .c (.ptr 1 0)), (8, .c (.own 2 o2_260.length)), (9, .c (.own 3 o3_261.length)), (10, .c (.int .i64 d_111)), (11, .c (.bool done_258)), (12, .c (.int .i64 i_259)), (33, .c (.bool (decide (i_259 < ((a0_n.Arcs).length : Int)))))], [.arr 3 1 a2_l.length (gL (cInt .i64) 0 a2_l), .box [.int .i64 a0_n.Nodes, .vec a0_n.Arcs.length 3 (gL cSArc dSArc a0_n.Arcs)], .arr 3 1 o2_260.length (gL (cInt .i64) 0 o2_260), .arr 3 1 o3_261.length (gL (cInt .i64) 0 o3_261)]⟩) (sub_gen [0, 1, 2, 3] rfl rfl ⟨zc rfl rfl, zc rfl rfl, zc rfl rfl, zc rfl rfl, zc rfl rfl, zc rfl rfl, zc rfl rfl, zc rfl rfl, trivial⟩ ⟨oa rfl, ⟨_, rfl, ⟨ii rfl rfl, ii rfl rfl, trivial⟩⟩, oa rfl, oa rfl, trivial⟩) ?_
              refine SOps.nil ?_
              rcases cond_out h with ⟨g293, h⟩ | ⟨g293, h⟩
              · refine SCode.cond_t rfl g293 ?_
                refine SCode.skip ?_
                refine SCode.join (σ := Bool × (List Int) × (List Int)) (S := fun s => ⟨[(2, .c (.own 0 a2_l.length)), (3, .c (.ptr 1 0)), (8, .c (.own 2 s.2.1.length)), (9, .c (.own 3 s.2.2.length)), (10, .c (.int .i64 d_111)), (11, .c (.bool s.1)), (12, .c (.int .i64 i_259))], [.arr 3 1 a2_l.length (gL (cInt .i64) 0 a2_l), .box [.int .i64 a0_n.Nodes, .vec a0_n.Arcs.length 3 (gL cSArc dSArc a0_n.Arcs)], .arr 3 1 s.2.1.length (gL (cInt .i64) 0 s.2.1), .arr 3 1 s.2.2.length (gL (cInt .i64) 0 s.2.2)]⟩) (g := fun s => chargenetref09_search_p297 i_259 (fun done_258 i_259 o2_260 o3_261 => chargenetref09_search_l292 a0_n a2_l d_111 (fun d_111 o2_112 o3_113 => chargenetref09_search_l218 F a0_n a2_l n_218 d_111 o2_112 o3_113) n_292 done_258 i_259 o2_260 o3_261) s.1 s.2.1 s.2.2 = some r) ?_ ?_
                rotate_left
                · refine SCode.block ?_
                  refine SCode.seq ?_
                  obtain ⟨g298, h⟩ := guard_out h
                  refine SCode.region (show SOps _ _ _ [0, 1, 2, 3, 4, 5, 6] _ _ from ?_)
                  refine SOps.q rfl (.plain rfl) rfl (q_field_ptr rfl rfl fd24_1) ?_
                  refine SOps.q rfl (.plain rfl) rfl (q_load_ptr rfl rfl rfl rfl ty22) ?_
                  refine SOps.q rfl (.plain rfl) rfl (q_move rfl rfl) ?_
                  refine SOps.q rfl (.plain rfl) rfl (q_index_vec rfl rfl rfl sl22 rfl g298.1 g298.2) ?_
                  refine SOps.q rfl (.plain rfl) rfl (q_load_eptr_all rfl rfl rfl ty50) ?_
                  refine SOps.e rfl (.plain rfl) (e_alloc rfl rfl rfl z50) ?_
                  refine SOps.e rfl (.plain rfl) (e_store_box rfl rfl rfl rfl rfl ty50 rfl rfl rfl rfl) ?_
                  refine SOps.sub (st' := ⟨[(2, .c (.own 0 a2_l.length)), (3, .c (.ptr 1 0)), (8, .c (.own 2 o2_260.length)), (9, .c (.own 3 o3_261.length)), (10, .c (.int .i64 d_111)), (11, .c (.bool done_258)), (12, .c (.int .i64 i_259)), (13, .c (.ptr 4 0))], [.arr 3 1 a2_l.length (gL (cInt .i64) 0 a2_l), .box [.int .i64 a0_n.Nodes, .vec a0_n.Arcs.length 3 (gL cSArc dSArc a0_n.Arcs)], .arr 3 1 o2_260.length (gL (cInt .i64) 0 o2_260), .arr 3 1 o3_261.length (gL (cInt .i64) 0 o3_261), .box [.int .i64 ((a0_n.Arcs.getD i_259.toNat dSArc).From), .int .i64 ((a0_n.Arcs.getD i_259.toNat dSArc).To), .int .i64 ((a0_n.Arcs.getD i_259.toNat dSArc).Cap)]]⟩) (sub_gen [0, 1, 2, 3, 4] rfl rfl ⟨zc rfl rfl, zc rfl rfl, zc rfl rfl, zc rfl rfl, zc rfl rfl, zc rfl rfl, zc rfl rfl, zc rfl rfl, trivial⟩ ⟨oa rfl, ⟨_, rfl, ⟨ii rfl rfl, ii rfl rfl, trivial⟩⟩, oa rfl, oa rfl, ⟨_, rfl, ⟨ii rfl rfl, ii rfl rfl, ii rfl rfl, trivial⟩⟩, trivial⟩) ?_
                  refine SOps.nil ?_
                  refine SCode.join (σ := Bool × (List Int) × (List Int)) (S := fun s => ⟨[(2, .c (.own 0 a2_l.length)), (3, .c (.ptr 1 0)), (8, .c (.own 2 s.2.1.length)), (9, .c (.own 3 s.2.2.length)), (10, .c (.int .i64 d_111)), (11, .c (.bool s.1)), (12, .c (.int .i64 i_259)), (13, .c (.ptr 4 0))], [.arr 3 1 a2_l.length (gL (cInt .i64) 0 a2_l), .box [.int .i64 a0_n.Nodes, .vec a0_n.Arcs.length 3 (gL cSArc dSArc a0_n.Arcs)], .arr 3 1 s.2.1.length (gL (cInt .i64) 0 s.2.1), .arr 3 1 s.2.2.length (gL (cInt .i64) 0 s.2.2), .box [.int .i64 ((a0_n.Arcs.getD i_259.toNat dSArc).From), .int .i64 ((a0_n.Arcs.getD i_259.toNat dSArc).To), .int .i64 ((a0_n.Arcs.getD i_259.toNat dSArc).Cap)]]⟩) (g := fun s => chargenetref09_search_p312 a0_n a2_l d_111 i_259 (fun done_258 i_259 o2_260 o3_261 => chargenetref09_search_l292 a0_n a2_l d_111 (fun d_111 o2_112 o3_113 => chargenetref09_search_l218 F a0_n a2_l n_218 d_111 o2_112 o3_113) n_292 done_258 i_259 o2_260 o3_261) s.1 s.2.1 s.2.2 = some r) ?_ ?_
                  rotate_left
                  · refine SCode.join (σ := Bool) (S := fun s => ⟨[(2, .c (.own 0 a2_l.length)), (3, .c (.ptr 1 0)), (8, .c (.own 2 o2_260.length)), (9, .c (.own 3 o3_261.length)), (10, .c (.int .i64 d_111)), (11, .c (.bool done_258)), (12, .c (.int .i64 i_259)), (13, .c (.ptr 4 0)), (64, .c (.bool s))], [.arr 3 1 a2_l.length (gL (cInt .i64) 0 a2_l), .box [.int .i64 a0_n.Nodes, .vec a0_n.Arcs.length 3 (gL cSArc dSArc a0_n.Arcs)], .arr 3 1 o2_260.length (gL (cInt .i64) 0 o2_260), .arr 3 1 o3_261.length (gL (cInt .i64) 0 o3_261), .box [.int .i64 ((a0_n.Arcs.getD i_259.toNat dSArc).From), .int .i64 ((a0_n.Arcs.getD i_259.toNat dSArc).To), .int .i64 ((a0_n.Arcs.getD i_259.toNat dSArc).Cap)]]⟩) (g := fun s => chargenetref09_search_p317 a0_n a2_l d_111 done_258 i_259 o2_260 o3_261 (fun done_258 i_259 o2_260 o3_261 => chargenetref09_search_l292 a0_n a2_l d_111 (fun d_111 o2_112 o3_113 => chargenetref09_search_l218 F a0_n a2_l n_218 d_111 o2_112 o3_113) n_292 done_258 i_259 o2_260 o3_261) s = some r) ?_ ?_
                    rotate_left
                    · obtain ⟨g318, h⟩ := guard_out h
                      rcases cond_out h with ⟨g319, h⟩ | ⟨g319, h⟩
                      · obtain ⟨g320, h⟩ := guard_out h
                        rcases cond_out h with ⟨g321, h⟩ | ⟨g321, h⟩
                        · obtain ⟨g322, h⟩ := guard_out h
                          refine SCode.draw (s' := [(64, .c (.bool (decide (a2_l.getD i_259.toNat 0 < (a0_n.Arcs.getD i_259.toNat dSArc).Cap)))), (63, .c (.bool (decide (a2_l.getD i_259.toNat 0 < (a0_n.Arcs.getD i_259.toNat dSArc).Cap)))), (62, .c (.int .i64 ((a0_n.Arcs.getD i_259.toNat dSArc).Cap))), (61, .c (.ptr 4 2)), (60, .c (.int .i64 (a2_l.getD i_259.toNat 0))), (59, .c (.aptr 0 1 i_259.toNat 0)), (58, .c (.int .i64 i_259)), (57, .c (.own 0 a2_l.length)), (56, .c (.bool (decide (o3_261.getD (((a0_n.Arcs.getD i_259.toNat dSArc).To).toNat) 0 = 0)))), (55, .c (.bool (decide (o3_261.getD (((a0_n.Arcs.getD i_259.toNat dSArc).To).toNat) 0 = 0)))), (54, .c (.bool (decide (o3_261.getD (((a0_n.Arcs.getD i_259.toNat dSArc).To).toNat) 0 = 0)))), (53, .c (.int .i64 (o3_261.getD (((a0_n.Arcs.getD i_259.toNat dSArc).To).toNat) 0))), (52, .c (.aptr 3 1 (((a0_n.Arcs.getD i_259.toNat dSArc).To).toNat) 0)), (51, .c (.int .i64 ((a0_n.Arcs.getD i_259.toNat dSArc).To))), (50, .c (.ptr 4 1)), (49, .c (.own 3 o3_261.length)), (48, .c (.bool (decide (o3_261.getD (((a0_n.Arcs.getD i_259.toNat dSArc).From).toNat) 0 = d_111)))), (47, .c (.bool (decide (o3_261.getD (((a0_n.Arcs.getD i_259.toNat dSArc).From).toNat) 0 = d_111)))), (46, .c (.int .i64 d_111)), (45, .c (.int .i64 (o3_261.getD (((a0_n.Arcs.getD i_259.toNat dSArc).From).toNat) 0))), (44, .c (.aptr 3 1 (((a0_n.Arcs.getD i_259.toNat dSArc).From).toNat) 0)), (43, .c (.int .i64 ((a0_n.Arcs.getD i_259.toNat dSArc).From))), (42, .c (.ptr 4 0)), (41, .c (.own 3 o3_261.length)), (2, .c (.own 0 a2_l.length)), (3, .c (.ptr 1 0)), (8, .c (.own 2 o2_260.length)), (9, .c (.own 3 o3_261.length)), (10, .c (.int .i64 d_111)), (11, .c (.bool done_258)), (12, .c (.int .i64 i_259)), (13, .c (.ptr 4 0))]) mixed [[], [], [1], [0, 1, 2], [0, 1, 2, 3], [], [0, 1, 2, 3, 4, 5], [0, 1, 2, 3, 4, 5, 6], [0, 1, 2, 3, 4, 5, 6, 7], [0, 1, 2, 3, 4, 5, 6, 7], [0, 1, 2, 3, 4, 5, 6, 7, 9], [0, 1, 2, 3, 4, 5, 6, 7, 8, 9, 10], [0, 1, 2, 3, 4, 5, 6, 7, 8, 9, 10, 11], [0, 1, 2, 3, 4, 5, 6, 7, 8, 9, 10, 11, 12], [0, 1, 2, 3, 4, 5, 6, 7, 8, 9, 10, 11, 12, 13], [0, 1, 2, 3, 4, 5, 6, 7, 8, 9, 10, 11, 12, 13, 14], [0, 1, 2, 3, 4, 5, 6, 7, 8, 9, 10, 11, 12, 13, 14, 15], [0, 1, 2, 3, 4, 5, 6, 7, 8, 9, 10, 11, 12, 13, 14, 15], [0, 1, 2, 3, 4, 5, 6, 7, 8, 9, 10, 11, 12, 13, 14, 15, 16, 17], [0, 1, 2, 3, 4, 5, 6, 7, 8, 9, 10, 11, 12, 13, 14, 15, 16, 17, 18], [0, 1, 2, 3, 4, 5, 6, 7, 8, 9, 10, 11, 12, 13, 14, 15], [0, 1, 2, 3, 4, 5, 6, 7, 8, 9, 10, 11, 12, 13, 14, 15, 20], [0, 1, 2, 3, 4, 5, 6, 7, 8, 9, 10, 11, 12, 13, 14, 15, 16, 17, 18, 19, 20, 21], [0, 1, 2, 3, 4, 5, 6, 7, 8, 9, 10, 11, 12, 13, 14, 15, 16, 17, 18, 19, 20, 21, 22]] 24 0 rfl rfl ?_ ?_
                          · refine QChain.run rfl (.plain rfl) rfl (q_move rfl rfl) ?_
                            refine QChain.run rfl (.plain rfl) rfl (q_field_ptr rfl rfl fd50_0) ?_
                            refine QChain.run rfl (.plain rfl) rfl (q_load_ptr rfl rfl rfl rfl ty3) ?_
                            refine QChain.run rfl (.plain rfl) rfl (q_index_own rfl rfl rfl sl30 g318.1 g318.2) ?_
                            refine QChain.run rfl (.plain rfl) rfl (q_load_aptr rfl rfl rfl (toNat_lt g318) rfl ty3) ?_
                            refine QChain.run rfl (.plain rfl) rfl (q_move rfl rfl) ?_
                            refine QChain.run rfl (.plain rfl) rfl (q_eql rfl rfl rfl) ?_
                            refine QChain.run rfl (.plain rfl) rfl (q_move rfl rfl) ?_
                            refine QChain.run rfl (.guard 7 48 true rfl rfl (gT g319)) rfl (q_move rfl rfl) ?_
                            refine QChain.run rfl (.guard 7 48 true rfl rfl (gT g319)) rfl (q_field_ptr rfl rfl fd50_1) ?_
                            refine QChain.run rfl (.guard 7 48 true rfl rfl (gT g319)) rfl (q_load_ptr rfl rfl rfl rfl ty3) ?_
                            refine QChain.run rfl (.guard 7 48 true rfl rfl (gT g319)) rfl (q_index_own rfl rfl rfl sl30 g320.1 g320.2) ?_
                            refine QChain.run rfl (.guard 7 48 true rfl rfl (gT g319)) rfl (q_load_aptr rfl rfl rfl (toNat_lt g320) rfl ty3) ?_
                            refine QChain.run rfl (.guard 7 48 true rfl rfl (gT g319)) rfl (q_eql rfl rfl rfl) ?_
                            refine QChain.run rfl (.plain rfl) rfl (q_pick_t rfl rfl g319 rfl) ?_
                            refine QChain.run rfl (.plain rfl) rfl (q_move rfl rfl) ?_
                            refine QChain.run rfl (.guard 15 56 true rfl rfl (gT g321)) rfl (q_move rfl rfl) ?_
                            refine QChain.run rfl (.guard 15 56 true rfl rfl (gT g321)) rfl (q_move rfl rfl) ?_
                            refine QChain.run rfl (.guard 15 56 true rfl rfl (gT g321)) rfl (q_index_own rfl rfl rfl sl30 g322.1 g322.2) ?_
                            refine QChain.run rfl (.guard 15 56 true rfl rfl (gT g321)) rfl (q_load_aptr rfl rfl rfl (toNat_lt g322) rfl ty3) ?_
                            refine QChain.run rfl (.guard 15 56 true rfl rfl (gT g321)) rfl (q_field_ptr rfl rfl fd50_2) ?_
                            refine QChain.run rfl (.guard 15 56 true rfl rfl (gT g321)) rfl (q_load_ptr rfl rfl rfl rfl ty3) ?_
                            refine QChain.run rfl (.guard 15 56 true rfl rfl (gT g321)) rfl (q_lss rfl rfl rfl) ?_
                            refine QChain.run rfl (.plain rfl) rfl (q_pick_t rfl rfl g321 rfl) ?_
                            exact QChain.nil _ _
                          refine (show SOps _ _ _ [] _ _ from ?_)
                          refine SOps.sub (st' := ⟨[(2, .c (.own 0 a2_l.length)), (3, .c (.ptr 1 0)), (8, .c (.own 2 o2_260.length)), (9, .c (.own 3 o3_261.length)), (10, .c (.int .i64 d_111)), (11, .c (.bool done_258)), (12, .c (.int .i64 i_259)), (13, .c (.ptr 4 0)), (64, .c (.bool (decide (a2_l.getD i_259.toNat 0 < (a0_n.Arcs.getD i_259.toNat dSArc).Cap))))], [.arr 3 1 a2_l.length (gL (cInt .i64) 0 a2_l), .box [.int .i64 a0_n.Nodes, .vec a0_n.Arcs.length 3 (gL cSArc dSArc a0_n.Arcs)], .arr 3 1 o2_260.length (gL (cInt .i64) 0 o2_260), .arr 3 1 o3_261.length (gL (cInt .i64) 0 o3_261), .box [.int .i64 ((a0_n.Arcs.getD i_259.toNat dSArc).From), .int .i64 ((a0_n.Arcs.getD i_259.toNat dSArc).To), .int .i64 ((a0_n.Arcs.getD i_259.toNat dSArc).Cap)]]⟩) (sub_gen [0, 1, 2, 3, 4] rfl rfl ⟨zc rfl rfl, zc rfl rfl, zc rfl rfl, zc rfl rfl, zc rfl rfl, zc rfl rfl, zc rfl rfl, zc rfl rfl, zc rfl rfl, trivial⟩ ⟨oa rfl, ⟨_, rfl, ⟨ii rfl rfl, ii rfl rfl, trivial⟩⟩, oa rfl, oa rfl, ⟨_, rfl, ⟨ii rfl rfl, ii rfl rfl, ii rfl rfl, trivial⟩⟩, trivial⟩) ?_
                          refine SOps.nil ?_
                          exact ⟨decide (a2_l.getD i_259.toNat 0 < (a0_n.Arcs.getD i_259.toNat dSArc).Cap), h, sub_gen [0, 1, 2, 3, 4] rfl rfl ⟨zc rfl rfl, zc rfl rfl, zc rfl rfl, zc rfl rfl, zc rfl rfl, zc rfl rfl, zc rfl rfl, zc rfl rfl, zc rfl rfl, trivial⟩ ⟨oa rfl, ⟨_, rfl, ⟨ii rfl rfl, ii rfl rfl, trivial⟩⟩, oa rfl, oa rfl, ⟨_, rfl, ⟨ii rfl rfl, ii rfl rfl, ii rfl rfl, trivial⟩⟩, trivial⟩⟩
                        refine SCode.draw (s' := [(64, .c (.bool false)), (63, .c (.raw (.tuple #[]))), (62, .c (.raw (.tuple #[]))), (61, .c (.raw (.tuple #[]))), (60, .c (.raw (.tuple #[]))), (59, .c (.raw (.tuple #[]))), (58, .c (.raw (.tuple #[]))), (57, .c (.raw (.tuple #[]))), (56, .c (.bool (decide (o3_261.getD (((a0_n.Arcs.getD i_259.toNat dSArc).To).toNat) 0 = 0)))), (55, .c (.bool (decide (o3_261.getD (((a0_n.Arcs.getD i_259.toNat dSArc).To).toNat) 0 = 0)))), (54, .c (.bool (decide (o3_261.getD (((a0_n.Arcs.getD i_259.toNat dSArc).To).toNat) 0 = 0)))), (53, .c (.int .i64 (o3_261.getD (((a0_n.Arcs.getD i_259.toNat dSArc).To).toNat) 0))), (52, .c (.aptr 3 1 (((a0_n.Arcs.getD i_259.toNat dSArc).To).toNat) 0)), (51, .c (.int .i64 ((a0_n.Arcs.getD i_259.toNat dSArc).To))), (50, .c (.ptr 4 1)), (49, .c (.own 3 o3_261.length)), (48, .c (.bool (decide (o3_261.getD (((a0_n.Arcs.getD i_259.toNat dSArc).From).toNat) 0 = d_111)))), (47, .c (.bool (decide (o3_261.getD (((a0_n.Arcs.getD i_259.toNat dSArc).From).toNat) 0 = d_111)))), (46, .c (.int .i64 d_111)), (45, .c (.int .i64 (o3_261.getD (((a0_n.Arcs.getD i_259.toNat dSArc).From).toNat) 0))), (44, .c (.aptr 3 1 (((a0_n.Arcs.getD i_259.toNat dSArc).From).toNat) 0)), (43, .c (.int .i64 ((a0_n.Arcs.getD i_259.toNat dSArc).From))), (42, .c (.ptr 4 0)), (41, .c (.own 3 o3_261.length)), (2, .c (.own 0 a2_l.length)), (3, .c (.ptr 1 0)), (8, .c (.own 2 o2_260.length)), (9, .c (.own 3 o3_261.length)), (10, .c (.int .i64 d_111)), (11, .c (.bool done_258)), (12, .c (.int .i64 i_259)), (13, .c (.ptr 4 0))]) mixed [[], [], [1], [0, 1, 2], [0, 1, 2, 3], [], [0, 1, 2, 3, 4, 5], [0, 1, 2, 3, 4, 5, 6], [0, 1, 2, 3, 4, 5, 6, 7], [0, 1, 2, 3, 4, 5, 6, 7], [0, 1, 2, 3, 4, 5, 6, 7, 9], [0, 1, 2, 3, 4, 5, 6, 7, 8, 9, 10], [0, 1, 2, 3, 4, 5, 6, 7, 8, 9, 10, 11], [0, 1, 2, 3, 4, 5, 6, 7, 8, 9, 10, 11, 12], [0, 1, 2, 3, 4, 5, 6, 7, 8, 9, 10, 11, 12, 13], [0, 1, 2, 3, 4, 5, 6, 7, 8, 9, 10, 11, 12, 13, 14], [0, 1, 2, 3, 4, 5, 6, 7, 8, 9, 10, 11, 12, 13, 14, 15], [0, 1, 2, 3, 4, 5, 6, 7, 8, 9, 10, 11, 12, 13, 14, 15], [0, 1, 2, 3, 4, 5, 6, 7, 8, 9, 10, 11, 12, 13, 14, 15, 16, 17], [0, 1, 2, 3, 4, 5, 6, 7, 8, 9, 10, 11, 12, 13, 14, 15, 16, 17, 18], [0, 1, 2, 3, 4, 5, 6, 7, 8, 9, 10, 11, 12, 13, 14, 15], [0, 1, 2, 3, 4, 5, 6, 7, 8, 9, 10, 11, 12, 13, 14, 15, 20], [0, 1, 2, 3, 4, 5, 6, 7, 8, 9, 10, 11, 12, 13, 14, 15, 16, 17, 18, 19, 20, 21], [0, 1, 2, 3, 4, 5, 6, 7, 8, 9, 10, 11, 12, 13, 14, 15, 16, 17, 18, 19, 20, 21, 22]] 24 0 rfl rfl ?_ ?_
                        · refine QChain.run rfl (.plain rfl) rfl (q_move rfl rfl) ?_
                          refine QChain.run rfl (.plain rfl) rfl (q_field_ptr rfl rfl fd50_0) ?_
                          refine QChain.run rfl (.plain rfl) rfl (q_load_ptr rfl rfl rfl rfl ty3) ?_
                          refine QChain.run rfl (.plain rfl) rfl (q_index_own rfl rfl rfl sl30 g318.1 g318.2) ?_
                          refine QChain.run rfl (.plain rfl) rfl (q_load_aptr rfl rfl rfl (toNat_lt g318) rfl ty3) ?_
                          refine QChain.run rfl (.plain rfl) rfl (q_move rfl rfl) ?_
                          refine QChain.run rfl (.plain rfl) rfl (q_eql rfl rfl rfl) ?_
                          refine QChain.run rfl (.plain rfl) rfl (q_move rfl rfl) ?_
                          refine QChain.run rfl (.guard 7 48 true rfl rfl (gT g319)) rfl (q_move rfl rfl) ?_
                          refine QChain.run rfl (.guard 7 48 true rfl rfl (gT g319)) rfl (q_field_ptr rfl rfl fd50_1) ?_
                          refine QChain.run rfl (.guard 7 48 true rfl rfl (gT g319)) rfl (q_load_ptr rfl rfl rfl rfl ty3) ?_
                          refine QChain.run rfl (.guard 7 48 true rfl rfl (gT g319)) rfl (q_index_own rfl rfl rfl sl30 g320.1 g320.2) ?_
                          refine QChain.run rfl (.guard 7 48 true rfl rfl (gT g319)) rfl (q_load_aptr rfl rfl rfl (toNat_lt g320) rfl ty3) ?_
                          refine QChain.run rfl (.guard 7 48 true rfl rfl (gT g319)) rfl (q_eql rfl rfl rfl) ?_
                          refine QChain.run rfl (.plain rfl) rfl (q_pick_t rfl rfl g319 rfl) ?_
                          refine QChain.run rfl (.plain rfl) rfl (q_move rfl rfl) ?_
                          refine QChain.skip rfl ⟨15, 56, true, rfl, rfl, (.inl (gF g321))⟩ rfl ?_
                          refine QChain.skip rfl ⟨15, 56, true, rfl, rfl, (.inl (gF g321))⟩ rfl ?_
                          refine QChain.skip rfl ⟨15, 56, true, rfl, rfl, (.inl (gF g321))⟩ rfl ?_
                          refine QChain.skip rfl ⟨15, 56, true, rfl, rfl, (.inl (gF g321))⟩ rfl ?_
                          refine QChain.skip rfl ⟨15, 56, true, rfl, rfl, (.inl (gF g321))⟩ rfl ?_
                          refine QChain.skip rfl ⟨15, 56, true, rfl, rfl, (.inl (gF g321))⟩ rfl ?_
                          refine QChain.skip rfl ⟨15, 56, true, rfl, rfl, (.inl (gF g321))⟩ rfl ?_
                          refine QChain.run rfl (.plain rfl) rfl (q_pick_f rfl rfl g321 rfl) ?_
                          exact QChain.nil _ _
                        refine (show SOps _ _ _ [] _ _ from ?_)
                        refine SOps.sub (st' := ⟨[(2, .c (.own 0 a2_l.length)), (3, .c (.ptr 1 0)), (8, .c (.own 2 o2_260.length)), (9, .c (.own 3 o3_261.length)), (10, .c (.int .i64 d_111)), (11, .c (.bool done_258)), (12, .c (.int .i64 i_259)), (13, .c (.ptr 4 0)), (64, .c (.bool false))], [.arr 3 1 a2_l.length (gL (cInt .i64) 0 a2_l), .box [.int .i64 a0_n.Nodes, .vec a0_n.Arcs.length 3 (gL cSArc dSArc a0_n.Arcs)], .arr 3 1 o2_260.length (gL (cInt .i64) 0 o2_260), .arr 3 1 o3_261.length (gL (cInt .i64) 0 o3_261), .box [.int .i64 ((a0_n.Arcs.getD i_259.toNat dSArc).From), .int .i64 ((a0_n.Arcs.getD i_259.toNat dSArc).To), .int .i64 ((a0_n.Arcs.getD i_259.toNat dSArc).Cap)]]⟩) (sub_gen [0, 1, 2, 3, 4] rfl rfl ⟨zc rfl rfl, zc rfl rfl, zc rfl rfl, zc rfl rfl, zc rfl rfl, zc rfl rfl, zc rfl rfl, zc rfl rfl, zc rfl rfl, trivial⟩ ⟨oa rfl, ⟨_, rfl, ⟨ii rfl rfl, ii rfl rfl, trivial⟩⟩, oa rfl, oa rfl, ⟨_, rfl, ⟨ii rfl rfl, ii rfl rfl, ii rfl rfl, trivial⟩⟩, trivial⟩) ?_
                        refine SOps.nil ?_
                        exact ⟨false, h, sub_gen [0, 1, 2, 3, 4] rfl rfl ⟨zc rfl rfl, zc rfl rfl, zc rfl rfl, zc rfl rfl, zc rfl rfl, zc rfl rfl, zc rfl rfl, zc rfl rfl, zc rfl rfl, trivial⟩ ⟨oa rfl, ⟨_, rfl, ⟨ii rfl rfl, ii rfl rfl, trivial⟩⟩, oa rfl, oa rfl, ⟨_, rfl, ⟨ii rfl rfl, ii rfl rfl, ii rfl rfl, trivial⟩⟩, trivial⟩⟩
                      refine SCode.draw (s' := [(64, .c (.bool false)), (63, .c (.raw (.tuple #[]))), (62, .c (.raw (.tuple #[]))), (61, .c (.raw (.tuple #[]))), (60, .c (.raw (.tuple #[]))), (59, .c (.raw (.tuple #[]))), (58, .c (.raw (.tuple #[]))), (57, .c (.raw (.tuple #[]))), (56, .c (.bool false)), (55, .c (.bool false)), (54, .c (.raw (.tuple #[]))), (53, .c (.raw (.tuple #[]))), (52, .c (.raw (.tuple #[]))), (51, .c (.raw (.tuple #[]))), (50, .c (.raw (.tuple #[]))), (49, .c (.raw (.tuple #[]))), (48, .c (.bool (decide (o3_261.getD (((a0_n.Arcs.getD i_259.toNat dSArc).From).toNat) 0 = d_111)))), (47, .c (.bool (decide (o3_261.getD (((a0_n.Arcs.getD i_259.toNat dSArc).From).toNat) 0 = d_111)))), (46, .c (.int .i64 d_111)), (45, .c (.int .i64 (o3_261.getD (((a0_n.Arcs.getD i_259.toNat dSArc).From).toNat) 0))), (44, .c (.aptr 3 1 (((a0_n.Arcs.getD i_259.toNat dSArc).From).toNat) 0)), (43, .c (.int .i64 ((a0_n.Arcs.getD i_259.toNat dSArc).From))), (42, .c (.ptr 4 0)), (41, .c (.own 3 o3_261.length)), (2, .c (.own 0 a2_l.length)), (3, .c (.ptr 1 0)), (8, .c (.own 2 o2_260.length)), (9, .c (.own 3 o3_261.length)), (10, .c (.int .i64 d_111)), (11, .c (.bool done_258)), (12, .c (.int .i64 i_259)), (13, .c (.ptr 4 0))]) mixed [[], [], [1], [0, 1, 2], [0, 1, 2, 3], [], [0, 1, 2, 3, 4, 5], [0, 1, 2, 3, 4, 5, 6], [0, 1, 2, 3, 4, 5, 6, 7], [0, 1, 2, 3, 4, 5, 6, 7], [0, 1, 2, 3, 4, 5, 6, 7, 9], [0, 1, 2, 3, 4, 5, 6, 7, 8, 9, 10], [0, 1, 2, 3, 4, 5, 6, 7, 8, 9, 10, 11], [0, 1, 2, 3, 4, 5, 6, 7, 8, 9, 10, 11, 12], [0, 1, 2, 3, 4, 5, 6, 7, 8, 9, 10, 11, 12, 13], [0, 1, 2, 3, 4, 5, 6, 7, 8, 9, 10, 11, 12, 13, 14], [0, 1, 2, 3, 4, 5, 6, 7, 8, 9, 10, 11, 12, 13, 14, 15], [0, 1, 2, 3, 4, 5, 6, 7, 8, 9, 10, 11, 12, 13, 14, 15], [0, 1, 2, 3, 4, 5, 6, 7, 8, 9, 10, 11, 12, 13, 14, 15, 16, 17], [0, 1, 2, 3, 4, 5, 6, 7, 8, 9, 10, 11, 12, 13, 14, 15, 16, 17, 18], [0, 1, 2, 3, 4, 5, 6, 7, 8, 9, 10, 11, 12, 13, 14, 15], [0, 1, 2, 3, 4, 5, 6, 7, 8, 9, 10, 11, 12, 13, 14, 15, 20], [0, 1, 2, 3, 4, 5, 6, 7, 8, 9, 10, 11, 12, 13, 14, 15, 16, 17, 18, 19, 20, 21], [0, 1, 2, 3, 4, 5, 6, 7, 8, 9, 10, 11, 12, 13, 14, 15, 16, 17, 18, 19, 20, 21, 22]] 24 0 rfl rfl ?_ ?_
                      · refine QChain.run rfl (.plain rfl) rfl (q_move rfl rfl) ?_
                        refine QChain.run rfl (.plain rfl) rfl (q_field_ptr rfl rfl fd50_0) ?_
                        refine QChain.run rfl (.plain rfl) rfl (q_load_ptr rfl rfl rfl rfl ty3) ?_
                        refine QChain.run rfl (.plain rfl) rfl (q_index_own rfl rfl rfl sl30 g318.1 g318.2) ?_
                        refine QChain.run rfl (.plain rfl) rfl (q_load_aptr rfl rfl rfl (toNat_lt g318) rfl ty3) ?_
                        refine QChain.run rfl (.plain rfl) rfl (q_move rfl rfl) ?_
                        refine QChain.run rfl (.plain rfl) rfl (q_eql rfl rfl rfl) ?_
                        refine QChain.run rfl (.plain rfl) rfl (q_move rfl rfl) ?_
                        refine QChain.skip rfl ⟨7, 48, true, rfl, rfl, (.inl (gF g319))⟩ rfl ?_
                        refine QChain.skip rfl ⟨7, 48, true, rfl, rfl, (.inl (gF g319))⟩ rfl ?_
                        refine QChain.skip rfl ⟨7, 48, true, rfl, rfl, (.inl (gF g319))⟩ rfl ?_
                        refine QChain.skip rfl ⟨7, 48, true, rfl, rfl, (.inl (gF g319))⟩ rfl ?_
                        refine QChain.skip rfl ⟨7, 48, true, rfl, rfl, (.inl (gF g319))⟩ rfl ?_
                        refine QChain.skip rfl ⟨7, 48, true, rfl, rfl, (.inl (gF g319))⟩ rfl ?_
                        refine QChain.run rfl (.plain rfl) rfl (q_pick_f rfl rfl g319 rfl) ?_
                        refine QChain.run rfl (.plain rfl) rfl (q_move rfl rfl) ?_
                        refine QChain.skip rfl ⟨15, 56, true, rfl, rfl, (.inl rfl)⟩ rfl ?_
                        refine QChain.skip rfl ⟨15, 56, true, rfl, rfl, (.inl rfl)⟩ rfl ?_
                        refine QChain.skip rfl ⟨15, 56, true, rfl, rfl, (.inl rfl)⟩ rfl ?_
                        refine QChain.skip rfl ⟨15, 56, true, rfl, rfl, (.inl rfl)⟩ rfl ?_
                        refine QChain.skip rfl ⟨15, 56, true, rfl, rfl, (.inl rfl)⟩ rfl ?_
                        refine QChain.skip rfl ⟨15, 56, true, rfl, rfl, (.inl rfl)⟩ rfl ?_
                        refine QChain.skip rfl ⟨15, 56, true, rfl, rfl, (.inl rfl)⟩ rfl ?_
                        refine QChain.run rfl (.plain rfl) rfl (q_pick_f rfl rfl rfl rfl) ?_
                        exact QChain.nil _ _
                      refine (show SOps _ _ _ [] _ _ from ?_)
                      refine SOps.sub (st' := ⟨[(2, .c (.own 0 a2_l.length)), (3, .c (.ptr 1 0)), (8, .c (.own 2 o2_260.length)), (9, .c (.own 3 o3_261.length)), (10, .c (.int .i64 d_111)), (11, .c (.bool done_258)), (12, .c (.int .i64 i_259)), (13, .c (.ptr 4 0)), (64, .c (.bool false))], [.arr 3 1 a2_l.length (gL (cInt .i64) 0 a2_l), .box [.int .i64 a0_n.Nodes, .vec a0_n.Arcs.length 3 (gL cSArc dSArc a0_n.Arcs)], .arr 3 1 o2_260.length (gL (cInt .i64) 0 o2_260), .arr 3 1 o3_261.length (gL (cInt .i64) 0 o3_261), .box [.int .i64 ((a0_n.Arcs.getD i_259.toNat dSArc).From), .int .i64 ((a0_n.Arcs.getD i_259.toNat dSArc).To), .int .i64 ((a0_n.Arcs.getD i_259.toNat dSArc).Cap)]]⟩) (sub_gen [0, 1, 2, 3, 4] rfl rfl ⟨zc rfl rfl, zc rfl rfl, zc rfl rfl, zc rfl rfl, zc rfl rfl, zc rfl rfl, zc rfl rfl, zc rfl rfl, zc rfl rfl, trivial⟩ ⟨oa rfl, ⟨_, rfl, ⟨ii rfl rfl, ii rfl rfl, trivial⟩⟩, oa rfl, oa rfl, ⟨_, rfl, ⟨ii rfl rfl, ii rfl rfl, ii rfl rfl, trivial⟩⟩, trivial⟩) ?_
                      refine SOps.nil ?_
                      exact ⟨false, h, sub_gen [0, 1, 2, 3, 4] rfl rfl ⟨zc rfl rfl, zc rfl rfl, zc rfl rfl, zc rfl rfl, zc rfl rfl, zc rfl rfl, zc rfl rfl, zc rfl rfl, zc rfl rfl, trivial⟩ ⟨oa rfl, ⟨_, rfl, ⟨ii rfl rfl, ii rfl rfl, trivial⟩⟩, oa rfl, oa rfl, ⟨_, rfl, ⟨ii rfl rfl, ii rfl rfl, ii rfl rfl, trivial⟩⟩, trivial⟩⟩
                    rintro t64_313 h
                    show SCode _ _ _ ⟨[(2, .c (.own 0 a2_l.length)), (3, .c (.ptr 1 0)), (8, .c (.own 2 o2_260.length)), (9, .c (.own 3 o3_261.length)), (10, .c (.int .i64 d_111)), (11, .c (.bool done_258)), (12, .c (.int .i64 i_259)), (13, .c (.ptr 4 0)), (64, .c (.bool t64_313))], [.arr 3 1 a2_l.length (gL (cInt .i64) 0 a2_l), .box [.int .i64 a0_n.Nodes, .vec a0_n.Arcs.length 3 (gL cSArc dSArc a0_n.Arcs)], .arr 3 1 o2_260.length (gL (cInt .i64) 0 o2_260), .arr 3 1 o3_261.length (gL (cInt .i64) 0 o3_261), .box [.int .i64 ((a0_n.Arcs.getD i_259.toNat dSArc).From), .int .i64 ((a0_n.Arcs.getD i_259.toNat dSArc).To), .int .i64 ((a0_n.Arcs.getD i_259.toNat dSArc).Cap)]]⟩ _
                    replace h : chargenetref09_search_p317 a0_n a2_l d_111 done_258 i_259 o2_260 o3_261 (fun done_258 i_259 o2_260 o3_261 => chargenetref09_search_l292 a0_n a2_l d_111 (fun d_111 o2_112 o3_113 => chargenetref09_search_l218 F a0_n a2_l n_218 d_111 o2_112 o3_113) n_292 done_258 i_259 o2_260 o3_261) t64_313 = some r := h
                    unfold chargenetref09_search_p317 at h
                    rcases cond_out h with ⟨g314, h⟩ | ⟨g314, h⟩
                    · refine SCode.cond_t rfl g314 ?_
                      refine SCode.seq ?_
                      obtain ⟨g315, h⟩ := guard_out h
                      obtain ⟨g316, h⟩ := guard_out h
                      refine SCode.draw2 (sH := [(75, .c (.aptr 3 1 (((a0_n.Arcs.getD i_259.toNat dSArc).To).toNat) 0)), (74, .c (.int .i64 (IntKind.wrap .i64 (i_259 + 1)))), (73, .c (.int .i64 i_259)), (72, .c (.int .i64 (IntKind.wrap .i64 (d_111 + 1)))), (71, .c (.int .i64 d_111)), (70, .c (.int .i64 ((a0_n.Arcs.getD i_259.toNat dSArc).To))), (69, .c (.ptr 4 1)), (68, .c (.own 2 o2_260.length)), (67, .c (.int .i64 ((a0_n.Arcs.getD i_259.toNat dSArc).To))), (66, .c (.ptr 4 1)), (65, .c (.own 3 o3_261.length)), (2, .c (.own 0 a2_l.length)), (3, .c (.ptr 1 0)), (8, .c (.own 2 o2_260.length)), (9, .c (.own 3 o3_261.length)), (10, .c (.int .i64 d_111)), (11, .c (.bool done_258)), (12, .c (.int .i64 i_259)), (13, .c (.ptr 4 0)), (64, .c (.bool t64_313))]) mixed [[], [], [1], [], [], [4], [], [6], [], [8], [0, 1, 2, 6, 7], [0, 1, 2, 6, 7, 10], [0, 1, 2, 3, 4, 5, 6, 7, 8, 9, 10, 11], [0, 1, 2, 3, 4, 5, 6, 7, 8, 9, 10, 11, 12]] [11, 12, 13] (fun h => List.getD [[], [], [], [3], [3], [3], [], [], [3], [3]] h []) rfl ?_ ⟨[(2, .c (.own 0 a2_l.length)), (3, .c (.ptr 1 0)), (8, .c (.own 2 (o2_260.set (((a0_n.Arcs.getD i_259.toNat dSArc).To).toNat) (IntKind.wrap .i64 (i_259 + 1))).length)), (9, .c (.own 3 (o3_261.set (((a0_n.Arcs.getD i_259.toNat dSArc).To).toNat) (IntKind.wrap .i64 (d_111 + 1))).length)), (10, .c (.int .i64 d_111)), (12, .c (.int .i64 i_259)), (13, .c (.ptr 4 0))], [.arr 3 1 a2_l.length (gL (cInt .i64) 0 a2_l), .box [.int .i64 a0_n.Nodes, .vec a0_n.Arcs.length 3 (gL cSArc dSArc a0_n.Arcs)], .arr 3 1 (o2_260.set (((a0_n.Arcs.getD i_259.toNat dSArc).To).toNat) (IntKind.wrap .i64 (i_259 + 1))).length (gL (cInt .i64) 0 (o2_260.set (((a0_n.Arcs.getD i_259.toNat dSArc).To).toNat) (IntKind.wrap .i64 (i_259 + 1)))), .arr 3 1 (o3_261.set (((a0_n.Arcs.getD i_259.toNat dSArc).To).toNat) (IntKind.wrap .i64 (d_111 + 1))).length (gL (cInt .i64) 0 (o3_261.set (((a0_n.Arcs.getD i_259.toNat dSArc).To).toNat) (IntKind.wrap .i64 (d_111 + 1)))), .box [.int .i64 ((a0_n.Arcs.getD i_259.toNat dSArc).From), .int .i64 ((a0_n.Arcs.getD i_259.toNat dSArc).To), .int .i64 ((a0_n.Arcs.getD i_259.toNat dSArc).Cap)]]⟩ ?_ ?_
                      · refine HChain.run rfl rfl (.plain rfl) rfl (fun f x => q_move rfl rfl) ?_
                        refine HChain.run rfl rfl (.plain rfl) rfl (fun f x => q_field_ptr rfl rfl fd50_1) ?_
                        refine HChain.run rfl rfl (.plain rfl) rfl (fun f x => q_load_ptr rfl rfl rfl rfl ty3) ?_
                        refine HChain.run rfl rfl (.plain rfl) rfl (fun f x => q_move rfl rfl) ?_
                        refine HChain.run rfl rfl (.plain rfl) rfl (fun f x => q_field_ptr rfl rfl fd50_1) ?_
                        refine HChain.run rfl rfl (.plain rfl) rfl (fun f x => q_load_ptr rfl rfl rfl rfl ty3) ?_
                        refine HChain.run rfl rfl (.plain rfl) rfl (fun f x => q_move rfl rfl) ?_
                        refine HChain.run rfl rfl (.plain rfl) rfl (fun f x => q_add rfl rfl rfl) ?_
                        refine HChain.run rfl rfl (.plain rfl) rfl (fun f x => q_move rfl rfl) ?_
                        refine HChain.run rfl rfl (.plain rfl) rfl (fun f x => q_add rfl rfl rfl) ?_
                        refine HChain.run rfl rfl (.plain rfl) rfl (fun f x => q_index_own rfl rfl rfl sl30 g315.1 g315.2) ?_
                        refine HChain.tail rfl ?_
                        refine HChain.tail rfl ?_
                        refine HChain.tail rfl ?_
                        exact HChain.nil _ _
                      · refine TTree.node 11 [] rfl ?_
                        refine AllP.cons ?_ ?_
                        · refine TStep.n (objs' := [.arr 3 1 a2_l.length (gL (cInt .i64) 0 a2_l), .box [.int .i64 a0_n.Nodes, .vec a0_n.Arcs.length 3 (gL cSArc dSArc a0_n.Arcs)], .arr 3 1 o2_260.length (gL (cInt .i64) 0 o2_260), .arr 3 1 (o3_261.set (((a0_n.Arcs.getD i_259.toNat dSArc).To).toNat) (IntKind.wrap .i64 (d_111 + 1))).length (gL (cInt .i64) 0 (o3_261.set (((a0_n.Arcs.getD i_259.toNat dSArc).To).toNat) (IntKind.wrap .i64 (d_111 + 1)))), .box [.int .i64 ((a0_n.Arcs.getD i_259.toNat dSArc).From), .int .i64 ((a0_n.Arcs.getD i_259.toNat dSArc).To), .int .i64 ((a0_n.Arcs.getD i_259.toNat dSArc).Cap)]]) [3] rfl rfl rfl rfl (fun s2 => by refine EOp.eq (e_storeL (IntKind.wrap .i64 (d_111 + 1)) rfl rfl rfl rfl rfl (toNat_lt g315) ty3 rfl rfl rfl rfl rfl rfl) ?_; rfl) ?_
                          refine ⟨rfl, ⟨⟨⟨⟨⟨trivial, .inr rfl⟩, .inr rfl⟩, .inr rfl⟩, .inl rfl⟩, .inr rfl⟩, ?_⟩
                          refine TTree.node 12 [] rfl ?_
                          refine AllP.cons ?_ ?_
                          · refine TStep.d (objs' := [.arr 3 1 a2_l.length (gL (cInt .i64) 0 a2_l), .box [.int .i64 a0_n.Nodes, .vec a0_n.Arcs.length 3 (gL cSArc dSArc a0_n.Arcs)], .arr 3 1 o2_260.length (gL (cInt .i64) 0 o2_260), .arr 3 1 (o3_261.set (((a0_n.Arcs.getD i_259.toNat dSArc).To).toNat) (IntKind.wrap .i64 (d_111 + 1))).length (gL (cInt .i64) 0 (o3_261.set (((a0_n.Arcs.getD i_259.toNat dSArc).To).toNat) (IntKind.wrap .i64 (d_111 + 1)))), .box [.int .i64 ((a0_n.Arcs.getD i_259.toNat dSArc).From), .int .i64 ((a0_n.Arcs.getD i_259.toNat dSArc).To), .int .i64 ((a0_n.Arcs.getD i_259.toNat dSArc).Cap)]]) (v := .c (.aptr 2 1 (((a0_n.Arcs.getD i_259.toNat dSArc).To).toNat) 0)) [] 76 rfl rfl rfl rfl rfl (fun s2 => by refine EOp.eq (EOp.qd rfl rfl (q_index_own rfl rfl rfl sl30 g316.1 g316.2)) ?_; rfl) ?_
                            refine ⟨rfl, ⟨⟨⟨⟨⟨trivial, .inr rfl⟩, .inr rfl⟩, .inr rfl⟩, .inr rfl⟩, .inr rfl⟩, ?_⟩
                            refine TTree.node 13 [] rfl ?_
                            refine AllP.cons ?_ ?_
                            · refine TStep.n (objs' := [.arr 3 1 a2_l.length (gL (cInt .i64) 0 a2_l), .box [.int .i64 a0_n.Nodes, .vec a0_n.Arcs.length 3 (gL cSArc dSArc a0_n.Arcs)], .arr 3 1 (o2_260.set (((a0_n.Arcs.getD i_259.toNat dSArc).To).toNat) (IntKind.wrap .i64 (i_259 + 1))).length (gL (cInt .i64) 0 (o2_260.set (((a0_n.Arcs.getD i_259.toNat dSArc).To).toNat) (IntKind.wrap .i64 (i_259 + 1)))), .arr 3 1 (o3_261.set (((a0_n.Arcs.getD i_259.toNat dSArc).To).toNat) (IntKind.wrap .i64 (d_111 + 1))).length (gL (cInt .i64) 0 (o3_261.set (((a0_n.Arcs.getD i_259.toNat dSArc).To).toNat) (IntKind.wrap .i64 (d_111 + 1)))), .box [.int .i64 ((a0_n.Arcs.getD i_259.toNat dSArc).From), .int .i64 ((a0_n.Arcs.getD i_259.toNat dSArc).To), .int .i64 ((a0_n.Arcs.getD i_259.toNat dSArc).Cap)]]) [2] rfl rfl rfl rfl (fun s2 => by refine EOp.eq (e_storeL (IntKind.wrap .i64 (i_259 + 1)) rfl rfl rfl rfl rfl (toNat_lt g316) ty3 rfl rfl rfl rfl rfl rfl) ?_; rfl) ?_
                              refine ⟨rfl, ⟨⟨⟨⟨⟨trivial, .inr rfl⟩, .inr rfl⟩, .inl rfl⟩, .inr rfl⟩, .inr rfl⟩, ?_⟩
                              exact TTree.leaf rfl (sub_gen [0, 1, 2, 3, 4] rfl rfl ⟨zc rfl rfl, zc rfl rfl, ⟨_, rfl, .inl ⟨rfl, congrArg (Cell.own 2) (List.length_set : (o2_260.set (((a0_n.Arcs.getD i_259.toNat dSArc).To).toNat) (IntKind.wrap .i64 (i_259 + 1))).length = o2_260.length).symm⟩⟩, ⟨_, rfl, .inl ⟨rfl, congrArg (Cell.own 3) (List.length_set : (o3_261.set (((a0_n.Arcs.getD i_259.toNat dSArc).To).toNat) (IntKind.wrap .i64 (d_111 + 1))).length = o3_261.length).symm⟩⟩, zc rfl rfl, zc rfl rfl, zc rfl rfl, trivial⟩ ⟨oa rfl, ⟨_, rfl, ⟨ii rfl rfl, ii rfl rfl, trivial⟩⟩, oa rfl, oa rfl, ⟨_, rfl, ⟨ii rfl rfl, ii rfl rfl, ii rfl rfl, trivial⟩⟩, trivial⟩)
                            exact AllP.nil
                          exact AllP.nil
                        exact AllP.nil
                      refine SCode.region (show SOps _ _ _ [0] _ _ from ?_)
                      refine SOps.q rfl (.plain rfl) rfl (q_assign rfl rfl) ?_
                      refine SOps.sub (st' := ⟨[(2, .c (.own 0 a2_l.length)), (3, .c (.ptr 1 0)), (8, .c (.own 2 (o2_260.set (((a0_n.Arcs.getD i_259.toNat dSArc).To).toNat) (IntKind.wrap .i64 (i_259 + 1))).length)), (9, .c (.own 3 (o3_261.set (((a0_n.Arcs.getD i_259.toNat dSArc).To).toNat) (IntKind.wrap .i64 (d_111 + 1))).length)), (10, .c (.int .i64 d_111)), (11, .c (.bool false)), (12, .c (.int .i64 i_259)), (13, .c (.ptr 4 0))], [.arr 3 1 a2_l.length (gL (cInt .i64) 0 a2_l), .box [.int .i64 a0_n.Nodes, .vec a0_n.Arcs.length 3 (gL cSArc dSArc a0_n.Arcs)], .arr 3 1 (o2_260.set (((a0_n.Arcs.getD i_259.toNat dSArc).To).toNat) (IntKind.wrap .i64 (i_259 + 1))).length (gL (cInt .i64) 0 (o2_260.set (((a0_n.Arcs.getD i_259.toNat dSArc).To).toNat) (IntKind.wrap .i64 (i_259 + 1)))), .arr 3 1 (o3_261.set (((a0_n.Arcs.getD i_259.toNat dSArc).To).toNat) (IntKind.wrap .i64 (d_111 + 1))).length (gL (cInt .i64) 0 (o3_261.set (((a0_n.Arcs.getD i_259.toNat dSArc).To).toNat) (IntKind.wrap .i64 (d_111 + 1)))), .box [.int .i64 ((a0_n.Arcs.getD i_259.toNat dSArc).From), .int .i64 ((a0_n.Arcs.getD i_259.toNat dSArc).To), .int .i64 ((a0_n.Arcs.getD i_259.toNat dSArc).Cap)]]⟩) (sub_gen [0, 1, 2, 3, 4] rfl rfl ⟨zc rfl rfl, zc rfl rfl, zc rfl rfl, zc rfl rfl, zc rfl rfl, zc rfl rfl, zc rfl rfl, zc rfl rfl, trivial⟩ ⟨oa rfl, ⟨_, rfl, ⟨ii rfl rfl, ii rfl rfl, trivial⟩⟩, oa rfl, oa rfl, ⟨_, rfl, ⟨ii rfl rfl, ii rfl rfl, ii rfl rfl, trivial⟩⟩, trivial⟩) ?_
                      refine SOps.nil ?_
                      exact ⟨(false, o2_260.set (((a0_n.Arcs.getD i_259.toNat dSArc).To).toNat) (IntKind.wrap .i64 (i_259 + 1)), o3_261.set (((a0_n.Arcs.getD i_259.toNat dSArc).To).toNat) (IntKind.wrap .i64 (d_111 + 1))), h, sub_gen [0, 1, 2, 3, 4] rfl rfl ⟨zc rfl rfl, zc rfl rfl, zc rfl rfl, zc rfl rfl, zc rfl rfl, zc rfl rfl, zc rfl rfl, zc rfl rfl, trivial⟩ ⟨oa rfl, ⟨_, rfl, ⟨ii rfl rfl, ii rfl rfl, trivial⟩⟩, oa rfl, oa rfl, ⟨_, rfl, ⟨ii rfl rfl, ii rfl rfl, ii rfl rfl, trivial⟩⟩, trivial⟩⟩
                    refine SCode.cond_f rfl g314 ?_
                    refine SCode.skip ?_
                    exact ⟨(done_258, o2_260, o3_261), h, sub_gen [0, 1, 2, 3, 4] rfl rfl ⟨zc rfl rfl, zc rfl rfl, zc rfl rfl, zc rfl rfl, zc rfl rfl, zc rfl rfl, zc rfl rfl, zc rfl rfl, trivial⟩ ⟨oa rfl, ⟨_, rfl, ⟨ii rfl rfl, ii rfl rfl, trivial⟩⟩, oa rfl, oa rfl, ⟨_, rfl, ⟨ii rfl rfl, ii rfl rfl, ii rfl rfl, trivial⟩⟩, trivial⟩⟩
                  rintro ⟨done_299, o2_300, o3_301⟩ h
                  show SCode _ _ _ ⟨[(2, .c (.own 0 a2_l.length)), (3, .c (.ptr 1 0)), (8, .c (.own 2 o2_300.length)), (9, .c (.own 3 o3_301.length)), (10, .c (.int .i64 d_111)), (11, .c (.bool done_299)), (12, .c (.int .i64 i_259)), (13, .c (.ptr 4 0))], [.arr 3 1 a2_l.length (gL (cInt .i64) 0 a2_l), .box [.int .i64 a0_n.Nodes, .vec a0_n.Arcs.length 3 (gL cSArc dSArc a0_n.Arcs)], .arr 3 1 o2_300.length (gL (cInt .i64) 0 o2_300), .arr 3 1 o3_301.length (gL (cInt .i64) 0 o3_301), .box [.int .i64 ((a0_n.Arcs.getD i_259.toNat dSArc).From), .int .i64 ((a0_n.Arcs.getD i_259.toNat dSArc).To), .int .i64 ((a0_n.Arcs.getD i_259.toNat dSArc).Cap)]]⟩ _
                  replace h : chargenetref09_search_p312 a0_n a2_l d_111 i_259 (fun done_258 i_259 o2_260 o3_261 => chargenetref09_search_l292 a0_n a2_l d_111 (fun d_111 o2_112 o3_113 => chargenetref09_search_l218 F a0_n a2_l n_218 d_111 o2_112 o3_113) n_292 done_258 i_259 o2_260 o3_261) done_299 o2_300 o3_301 = some r := h
                  unfold chargenetref09_search_p312 at h
                  refine SCode.join (σ := Bool) (S := fun s => ⟨[(2, .c (.own 0 a2_l.length)), (3, .c (.ptr 1 0)), (8, .c (.own 2 o2_300.length)), (9, .c (.own 3 o3_301.length)), (10, .c (.int .i64 d_111)), (11, .c (.bool done_299)), (12, .c (.int .i64 i_259)), (13, .c (.ptr 4 0)), (98, .c (.bool s))], [.arr 3 1 a2_l.length (gL (cInt .i64) 0 a2_l), .box [.int .i64 a0_n.Nodes, .vec a0_n.Arcs.length 3 (gL cSArc dSArc a0_n.Arcs)], .arr 3 1 o2_300.length (gL (cInt .i64) 0 o2_300), .arr 3 1 o3_301.length (gL (cInt .i64) 0 o3_301), .box [.int .i64 ((a0_n.Arcs.getD i_259.toNat dSArc).From), .int .i64 ((a0_n.Arcs.getD i_259.toNat dSArc).To), .int .i64 ((a0_n.Arcs.getD i_259.toNat dSArc).Cap)]]⟩) (g := fun s => chargenetref09_search_p306 a0_n d_111 i_259 (fun done_258 i_259 o2_260 o3_261 => chargenetref09_search_l292 a0_n a2_l d_111 (fun d_111 o2_112 o3_113 => chargenetref09_search_l218 F a0_n a2_l n_218 d_111 o2_112 o3_113) n_292 done_258 i_259 o2_260 o3_261) done_299 o2_300 o3_301 s = some r) ?_ ?_
                  rotate_left
                  · obtain ⟨g307, h⟩ := guard_out h
                    rcases cond_out h with ⟨g308, h⟩ | ⟨g308, h⟩
                    · obtain ⟨g309, h⟩ := guard_out h
                      rcases cond_out h with ⟨g310, h⟩ | ⟨g310, h⟩
                      · obtain ⟨g311, h⟩ := guard_out h
                        refine SCode.region (show SOps _ _ _ [0, 1, 2, 3, 4, 5, 6, 7, 8, 9, 10, 11, 12, 13, 14, 15, 16, 17, 18, 19, 20, 21] _ _ from ?_)
                        refine SOps.q rfl (.plain rfl) rfl (q_move rfl rfl) ?_
                        refine SOps.q rfl (.plain rfl) rfl (q_field_ptr rfl rfl fd50_1) ?_
                        refine SOps.q rfl (.plain rfl) rfl (q_load_ptr rfl rfl rfl rfl ty3) ?_
                        refine SOps.q rfl (.plain rfl) rfl (q_index_own rfl rfl rfl sl30 g307.1 g307.2) ?_
                        refine SOps.q rfl (.plain rfl) rfl (q_load_aptr rfl rfl rfl (toNat_lt g307) rfl ty3) ?_
                        refine SOps.q rfl (.plain rfl) rfl (q_move rfl rfl) ?_
                        refine SOps.q rfl (.plain rfl) rfl (q_eql rfl rfl rfl) ?_
                        refine SOps.q rfl (.plain rfl) rfl (q_move rfl rfl) ?_
                        refine SOps.q rfl (.guard 7 84 true rfl rfl (gT g308)) rfl (q_move rfl rfl) ?_
                        refine SOps.q rfl (.guard 7 84 true rfl rfl (gT g308)) rfl (q_field_ptr rfl rfl fd50_0) ?_
                        refine SOps.q rfl (.guard 7 84 true rfl rfl (gT g308)) rfl (q_load_ptr rfl rfl rfl rfl ty3) ?_
                        refine SOps.q rfl (.guard 7 84 true rfl rfl (gT g308)) rfl (q_index_own rfl rfl rfl sl30 g309.1 g309.2) ?_
                        refine SOps.q rfl (.guard 7 84 true rfl rfl (gT g308)) rfl (q_load_aptr rfl rfl rfl (toNat_lt g309) rfl ty3) ?_
                        refine SOps.q rfl (.guard 7 84 true rfl rfl (gT g308)) rfl (q_eql rfl rfl rfl) ?_
                        refine SOps.q rfl (.plain rfl) rfl (q_pick_t rfl rfl g308 rfl) ?_
                        refine SOps.q rfl (.plain rfl) rfl (q_move rfl rfl) ?_
                        refine SOps.q rfl (.guard 15 92 true rfl rfl (gT g310)) rfl (q_move rfl rfl) ?_
                        refine SOps.q rfl (.guard 15 92 true rfl rfl (gT g310)) rfl (q_move rfl rfl) ?_
                        refine SOps.q rfl (.guard 15 92 true rfl rfl (gT g310)) rfl (q_index_own rfl rfl rfl sl30 g311.1 g311.2) ?_
                        refine SOps.q rfl (.guard 15 92 true rfl rfl (gT g310)) rfl (q_load_aptr rfl rfl rfl (toNat_lt g311) rfl ty3) ?_
                        refine SOps.q rfl (.guard 15 92 true rfl rfl (gT g310)) rfl (q_gtr rfl rfl rfl) ?_
                        refine SOps.q rfl (.plain rfl) rfl (q_pick_t rfl rfl g310 rfl) ?_
                        refine SOps.sub (st' := ⟨[(2, .c (.own 0 a2_l.length)), (3, .c (.ptr 1 0)), (8, .c (.own 2 o2_300.length)), (9, .c (.own 3 o3_301.length)), (10, .c (.int .i64 d_111)), (11, .c (.bool done_299)), (12, .c (.int .i64 i_259)), (13, .c (.ptr 4 0)), (98, .c (.bool (decide (0 < a2_l.getD i_259.toNat 0))))], [.arr 3 1 a2_l.length (gL (cInt .i64) 0 a2_l), .box [.int .i64 a0_n.Nodes, .vec a0_n.Arcs.length 3 (gL cSArc dSArc a0_n.Arcs)], .arr 3 1 o2_300.length (gL (cInt .i64) 0 o2_300), .arr 3 1 o3_301.length (gL (cInt .i64) 0 o3_301), .box [.int .i64 ((a0_n.Arcs.getD i_259.toNat dSArc).From), .int .i64 ((a0_n.Arcs.getD i_259.toNat dSArc).To), .int .i64 ((a0_n.Arcs.getD i_259.toNat dSArc).Cap)]]⟩) (sub_gen [0, 1, 2, 3, 4] rfl rfl ⟨zc rfl rfl, zc rfl rfl, zc rfl rfl, zc rfl rfl, zc rfl rfl, zc rfl rfl, zc rfl rfl, zc rfl rfl, zc rfl rfl, trivial⟩ ⟨oa rfl, ⟨_, rfl, ⟨ii rfl rfl, ii rfl rfl, trivial⟩⟩, oa rfl, oa rfl, ⟨_, rfl, ⟨ii rfl rfl, ii rfl rfl, ii rfl rfl, trivial⟩⟩, trivial⟩) ?_
                        refine SOps.nil ?_
                        exact ⟨decide (0 < a2_l.getD i_259.toNat 0), h, sub_gen [0, 1, 2, 3, 4] rfl rfl ⟨zc rfl rfl, zc rfl rfl, zc rfl rfl, zc rfl rfl, zc rfl rfl, zc rfl rfl, zc rfl rfl, zc rfl rfl, zc rfl rfl, trivial⟩ ⟨oa rfl, ⟨_, rfl, ⟨ii rfl rfl, ii rfl rfl, trivial⟩⟩, oa rfl, oa rfl, ⟨_, rfl, ⟨ii rfl rfl, ii rfl rfl, ii rfl rfl, trivial⟩⟩, trivial⟩⟩
                      refine SCode.region (show SOps _ _ _ [0, 1, 2, 3, 4, 5, 6, 7, 8, 9, 10, 11, 12, 13, 14, 15, 16, 17, 18, 19, 20, 21] _ _ from ?_)
                      refine SOps.q rfl (.plain rfl) rfl (q_move rfl rfl) ?_
                      refine SOps.q rfl (.plain rfl) rfl (q_field_ptr rfl rfl fd50_1) ?_
                      refine SOps.q rfl (.plain rfl) rfl (q_load_ptr rfl rfl rfl rfl ty3) ?_
                      refine SOps.q rfl (.plain rfl) rfl (q_index_own rfl rfl rfl sl30 g307.1 g307.2) ?_
                      refine SOps.q rfl (.plain rfl) rfl (q_load_aptr rfl rfl rfl (toNat_lt g307) rfl ty3) ?_
                      refine SOps.q rfl (.plain rfl) rfl (q_move rfl rfl) ?_
                      refine SOps.q rfl (.plain rfl) rfl (q_eql rfl rfl rfl) ?_
                      refine SOps.q rfl (.plain rfl) rfl (q_move rfl rfl) ?_
                      refine SOps.q rfl (.guard 7 84 true rfl rfl (gT g308)) rfl (q_move rfl rfl) ?_
                      refine SOps.q rfl (.guard 7 84 true rfl rfl (gT g308)) rfl (q_field_ptr rfl rfl fd50_0) ?_
                      refine SOps.q rfl (.guard 7 84 true rfl rfl (gT g308)) rfl (q_load_ptr rfl rfl rfl rfl ty3) ?_
                      refine SOps.q rfl (.guard 7 84 true rfl rfl (gT g308)) rfl (q_index_own rfl rfl rfl sl30 g309.1 g309.2) ?_
                      refine SOps.q rfl (.guard 7 84 true rfl rfl (gT g308)) rfl (q_load_aptr rfl rfl rfl (toNat_lt g309) rfl ty3) ?_
                      refine SOps.q rfl (.guard 7 84 true rfl rfl (gT g308)) rfl (q_eql rfl rfl rfl) ?_
                      refine SOps.q rfl (.plain rfl) rfl (q_pick_t rfl rfl g308 rfl) ?_
                      refine SOps.q rfl (.plain rfl) rfl (q_move rfl rfl) ?_
                      refine SOps.skip rfl 15 92 true rfl rfl (.inl (gF g310)) rfl ?_
                      refine SOps.skip rfl 15 92 true rfl rfl (.inl (gF g310)) rfl ?_
                      refine SOps.skip rfl 15 92 true rfl rfl (.inl (gF g310)) rfl ?_
                      refine SOps.skip rfl 15 92 true rfl rfl (.inl (gF g310)) rfl ?_
                      refine SOps.skip rfl 15 92 true rfl rfl (.inl (gF g310)) rfl ?_
                      refine SOps.q rfl (.plain rfl) rfl (q_pick_f rfl rfl g310 rfl) ?_
                      refine SOps.sub (st' := ⟨[(2, .c (.own 0 a2_l.length)), (3, .c (.ptr 1 0)), (8, .c (.own 2 o2_300.length)), (9, .c (.own 3 o3_301.length)), (10, .c (.int .i64 d_111)), (11, .c (.bool done_299)), (12, .c (.int .i64 i_259)), (13, .c (.ptr 4 0)), (98, .c (.bool false))], [.arr 3 1 a2_l.length (gL (cInt .i64) 0 a2_l), .box [.int .i64 a0_n.Nodes, .vec a0_n.Arcs.length 3 (gL cSArc dSArc a0_n.Arcs)], .arr 3 1 o2_300.length (gL (cInt .i64) 0 o2_300), .arr 3 1 o3_301.length (gL (cInt .i64) 0 o3_301), .box [.int .i64 ((a0_n.Arcs.getD i_259.toNat dSArc).From), .int .i64 ((a0_n.Arcs.getD i_259.toNat dSArc).To), .int .i64 ((a0_n.Arcs.getD i_259.toNat dSArc).Cap)]]⟩) (sub_gen [0, 1, 2, 3, 4] rfl rfl ⟨zc rfl rfl, zc rfl rfl, zc rfl rfl, zc rfl rfl, zc rfl rfl, zc rfl rfl, zc rfl rfl, zc rfl rfl, zc rfl rfl, trivial⟩ ⟨oa rfl, ⟨_, rfl, ⟨ii rfl rfl, ii rfl rfl, trivial⟩⟩, oa rfl, oa rfl, ⟨_, rfl, ⟨ii rfl rfl, ii rfl rfl, ii rfl rfl, trivial⟩⟩, trivial⟩) ?_
                      refine SOps.nil ?_
                      exact ⟨false, h, sub_gen [0, 1, 2, 3, 4] rfl rfl ⟨zc rfl rfl, zc rfl rfl, zc rfl rfl, zc rfl rfl, zc rfl rfl, zc rfl rfl, zc rfl rfl, zc rfl rfl, zc rfl rfl, trivial⟩ ⟨oa rfl, ⟨_, rfl, ⟨ii rfl rfl, ii rfl rfl, trivial⟩⟩, oa rfl, oa rfl, ⟨_, rfl, ⟨ii rfl rfl, ii rfl rfl, ii rfl rfl, trivial⟩⟩, trivial⟩⟩
                    refine SCode.region (show SOps _ _ _ [0, 1, 2, 3, 4, 5, 6, 7, 8, 9, 10, 11, 12, 13, 14, 15, 16, 17, 18, 19, 20, 21] _ _ from ?_)
                    refine SOps.q rfl (.plain rfl) rfl (q_move rfl rfl) ?_
                    refine SOps.q rfl (.plain rfl) rfl (q_field_ptr rfl rfl fd50_1) ?_
                    refine SOps.q rfl (.plain rfl) rfl (q_load_ptr rfl rfl rfl rfl ty3) ?_
                    refine SOps.q rfl (.plain rfl) rfl (q_index_own rfl rfl rfl sl30 g307.1 g307.2) ?_
                    refine SOps.q rfl (.plain rfl) rfl (q_load_aptr rfl rfl rfl (toNat_lt g307) rfl ty3) ?_
                    refine SOps.q rfl (.plain rfl) rfl (q_move rfl rfl) ?_
                    refine SOps.q rfl (.plain rfl) rfl (q_eql rfl rfl rfl) ?_
                    refine SOps.q rfl (.plain rfl) rfl (q_move rfl rfl) ?_
                    refine SOps.skip rfl 7 84 true rfl rfl (.inl (gF g308)) rfl ?_
                    refine SOps.skip rfl 7 84 true rfl rfl (.inl (gF g308)) rfl ?_
                    refine SOps.skip rfl 7 84 true rfl rfl (.inl (gF g308)) rfl ?_
                    refine SOps.skip rfl 7 84 true rfl rfl (.inl (gF g308)) rfl ?_
                    refine SOps.skip rfl 7 84 true rfl rfl (.inl (gF g308)) rfl ?_
                    refine SOps.skip rfl 7 84 true rfl rfl (.inl (gF g308)) rfl ?_
                    refine SOps.q rfl (.plain rfl) rfl (q_pick_f rfl rfl g308 rfl) ?_
                    refine SOps.q rfl (.plain rfl) rfl (q_move rfl rfl) ?_
                    refine SOps.skip rfl 15 92 true rfl rfl (.inl rfl) rfl ?_
                    refine SOps.skip rfl 15 92 true rfl rfl (.inl rfl) rfl ?_
                    refine SOps.skip rfl 15 92 true rfl rfl (.inl rfl) rfl ?_
                    refine SOps.skip rfl 15 92 true rfl rfl (.inl rfl) rfl ?_
                    refine SOps.skip rfl 15 92 true rfl rfl (.inl rfl) rfl ?_
                    refine SOps.q rfl (.plain rfl) rfl (q_pick_f rfl rfl rfl rfl) ?_
                    refine SOps.sub (st' := ⟨[(2, .c (.own 0 a2_l.length)), (3, .c (.ptr 1 0)), (8, .c (.own 2 o2_300.length)), (9, .c (.own 3 o3_301.length)), (10, .c (.int .i64 d_111)), (11, .c (.bool done_299)), (12, .c (.int .i64 i_259)), (13, .c (.ptr 4 0)), (98, .c (.bool false))], [.arr 3 1 a2_l.length (gL (cInt .i64) 0 a2_l), .box [.int .i64 a0_n.Nodes, .vec a0_n.Arcs.length 3 (gL cSArc dSArc a0_n.Arcs)], .arr 3 1 o2_300.length (gL (cInt .i64) 0 o2_300), .arr 3 1 o3_301.length (gL (cInt .i64) 0 o3_301), .box [.int .i64 ((a0_n.Arcs.getD i_259.toNat dSArc).From), .int .i64 ((a0_n.Arcs.getD i_259.toNat dSArc).To), .int .i64 ((a0_n.Arcs.getD i_259.toNat dSArc).Cap)]]⟩) (sub_gen [0, 1, 2, 3, 4] rfl rfl ⟨zc rfl rfl, zc rfl rfl, zc rfl rfl, zc rfl rfl, zc rfl rfl, zc rfl rfl, zc rfl rfl, zc rfl rfl, zc rfl rfl, trivial⟩ ⟨oa rfl, ⟨_, rfl, ⟨ii rfl rfl, ii rfl rfl, trivial⟩⟩, oa rfl, oa rfl, ⟨_, rfl, ⟨ii rfl rfl, ii rfl rfl, ii rfl rfl, trivial⟩⟩, trivial⟩) ?_
                    refine SOps.nil ?_
                    exact ⟨false, h, sub_gen [0, 1, 2, 3, 4] rfl rfl ⟨zc rfl rfl, zc rfl rfl, zc rfl rfl, zc rfl rfl, zc rfl rfl, zc rfl rfl, zc rfl rfl, zc rfl rfl, zc rfl rfl, trivial⟩ ⟨oa rfl, ⟨_, rfl, ⟨ii rfl rfl, ii rfl rfl, trivial⟩⟩, oa rfl, oa rfl, ⟨_, rfl, ⟨ii rfl rfl, ii rfl rfl, ii rfl rfl, trivial⟩⟩, trivial⟩⟩
                  rintro t98_302 h
                  show SCode _ _ _ ⟨[(2, .c (.own 0 a2_l.length)), (3, .c (.ptr 1 0)), (8, .c (.own 2 o2_300.length)), (9, .c (.own 3 o3_301.length)), (10, .c (.int .i64 d_111)), (11, .c (.bool done_299)), (12, .c (.int .i64 i_259)), (13, .c (.ptr 4 0)), (98, .c (.bool t98_302))], [.arr 3 1 a2_l.length (gL (cInt .i64) 0 a2_l), .box [.int .i64 a0_n.Nodes, .vec a0_n.Arcs.length 3 (gL cSArc dSArc a0_n.Arcs)], .arr 3 1 o2_300.length (gL (cInt .i64) 0 o2_300), .arr 3 1 o3_301.length (gL (cInt .i64) 0 o3_301), .box [.int .i64 ((a0_n.Arcs.getD i_259.toNat dSArc).From), .int .i64 ((a0_n.Arcs.getD i_259.toNat dSArc).To), .int .i64 ((a0_n.Arcs.getD i_259.toNat dSArc).Cap)]]⟩ _
                  replace h : chargenetref09_search_p306 a0_n d_111 i_259 (fun done_258 i_259 o2_260 o3_261 => chargenetref09_search_l292 a0_n a2_l d_111 (fun d_111 o2_112 o3_113 => chargenetref09_search_l218 F a0_n a2_l n_218 d_111 o2_112 o3_113) n_292 done_258 i_259 o2_260 o3_261) done_299 o2_300 o3_301 t98_302 = some r := h
                  unfold chargenetref09_search_p306 at h
                  rcases cond_out h with ⟨g303, h⟩ | ⟨g303, h⟩
                  · refine SCode.cond_t rfl g303 ?_
                    refine SCode.seq ?_
                    obtain ⟨g304, h⟩ := guard_out h
                    obtain ⟨g305, h⟩ := guard_out h
                    refine SCode.draw2 (sH := [(110, .c (.aptr 3 1 (((a0_n.Arcs.getD i_259.toNat dSArc).From).toNat) 0)), (109, .c (.int .i64 (IntKind.wrap .i64 (IntKind.wrap .i64 (0 - i_259) - 1)))), (108, .c (.int .i64 (IntKind.wrap .i64 (0 - i_259)))), (107, .c (.int .i64 i_259)), (106, .c (.int .i64 (IntKind.wrap .i64 (d_111 + 1)))), (105, .c (.int .i64 d_111)), (104, .c (.int .i64 ((a0_n.Arcs.getD i_259.toNat dSArc).From))), (103, .c (.ptr 4 0)), (102, .c (.own 2 o2_300.length)), (101, .c (.int .i64 ((a0_n.Arcs.getD i_259.toNat dSArc).From))), (100, .c (.ptr 4 0)), (99, .c (.own 3 o3_301.length)), (2, .c (.own 0 a2_l.length)), (3, .c (.ptr 1 0)), (8, .c (.own 2 o2_300.length)), (9, .c (.own 3 o3_301.length)), (10, .c (.int .i64 d_111)), (11, .c (.bool done_299)), (12, .c (.int .i64 i_259)), (13, .c (.ptr 4 0)), (98, .c (.bool t98_302))]) mixed [[], [], [1], [], [], [4], [], [6], [], [8], [8, 9], [0, 1, 2, 6, 7], [0, 1, 2, 6, 7, 11], [0, 1, 2, 3, 4, 5, 6, 7, 8, 9, 10, 11, 12], [0, 1, 2, 3, 4, 5, 6, 7, 8, 9, 10, 11, 12, 13]] [12, 13, 14] (fun h => List.getD [[], [], [], [3], [3], [3], [], [], [3], [3], [3]] h []) rfl ?_ ⟨[(2, .c (.own 0 a2_l.length)), (3, .c (.ptr 1 0)), (8, .c (.own 2 (o2_300.set (((a0_n.Arcs.getD i_259.toNat dSArc).From).toNat) (IntKind.wrap .i64 (IntKind.wrap .i64 (0 - i_259) - 1))).length)), (9, .c (.own 3 (o3_301.set (((a0_n.Arcs.getD i_259.toNat dSArc).From).toNat) (IntKind.wrap .i64 (d_111 + 1))).length)), (10, .c (.int .i64 d_111)), (12, .c (.int .i64 i_259))], [.arr 3 1 a2_l.length (gL (cInt .i64) 0 a2_l), .box [.int .i64 a0_n.Nodes, .vec a0_n.Arcs.length 3 (gL cSArc dSArc a0_n.Arcs)], .arr 3 1 (o2_300.set (((a0_n.Arcs.getD i_259.toNat dSArc).From).toNat) (IntKind.wrap .i64 (IntKind.wrap .i64 (0 - i_259) - 1))).length (gL (cInt .i64) 0 (o2_300.set (((a0_n.Arcs.getD i_259.toNat dSArc).From).toNat) (IntKind.wrap .i64 (IntKind.wrap .i64 (0 - i_259) - 1)))), .arr 3 1 (o3_301.set (((a0_n.Arcs.getD i_259.toNat dSArc).From).toNat) (IntKind.wrap .i64 (d_111 + 1))).length (gL (cInt .i64) 0 (o3_301.set (((a0_n.Arcs.getD i_259.toNat dSArc).From).toNat) (IntKind.wrap .i64 (d_111 + 1))))]⟩ ?_ ?_
                    · refine HChain.run rfl rfl (.plain rfl) rfl (fun f x => q_move rfl rfl) ?_
                      refine HChain.run rfl rfl (.plain rfl) rfl (fun f x => q_field_ptr rfl rfl fd50_0) ?_
                      refine HChain.run rfl rfl (.plain rfl) rfl (fun f x => q_load_ptr rfl rfl rfl rfl ty3) ?_
                      refine HChain.run rfl rfl (.plain rfl) rfl (fun f x => q_move rfl rfl) ?_
                      refine HChain.run rfl rfl (.plain rfl) rfl (fun f x => q_field_ptr rfl rfl fd50_0) ?_
                      refine HChain.run rfl rfl (.plain rfl) rfl (fun f x => q_load_ptr rfl rfl rfl rfl ty3) ?_
                      refine HChain.run rfl rfl (.plain rfl) rfl (fun f x => q_move rfl rfl) ?_
                      refine HChain.run rfl rfl (.plain rfl) rfl (fun f x => q_add rfl rfl rfl) ?_
                      refine HChain.run rfl rfl (.plain rfl) rfl (fun f x => q_move rfl rfl) ?_
                      refine HChain.run rfl rfl (.plain rfl) rfl (fun f x => q_neg rfl rfl) ?_
                      refine HChain.run rfl rfl (.plain rfl) rfl (fun f x => q_sub rfl rfl rfl) ?_
                      refine HChain.run rfl rfl (.plain rfl) rfl (fun f x => q_index_own rfl rfl rfl sl30 g304.1 g304.2) ?_
                      refine HChain.tail rfl ?_
                      refine HChain.tail rfl ?_
                      refine HChain.tail rfl ?_
                      exact HChain.nil _ _
                    · refine TTree.node 12 [] rfl ?_
                      refine AllP.cons ?_ ?_
                      · refine TStep.n (objs' := [.arr 3 1 a2_l.length (gL (cInt .i64) 0 a2_l), .box [.int .i64 a0_n.Nodes, .vec a0_n.Arcs.length 3 (gL cSArc dSArc a0_n.Arcs)], .arr 3 1 o2_300.length (gL (cInt .i64) 0 o2_300), .arr 3 1 (o3_301.set (((a0_n.Arcs.getD i_259.toNat dSArc).From).toNat) (IntKind.wrap .i64 (d_111 + 1))).length (gL (cInt .i64) 0 (o3_301.set (((a0_n.Arcs.getD i_259.toNat dSArc).From).toNat) (IntKind.wrap .i64 (d_111 + 1)))), .box [.int .i64 ((a0_n.Arcs.getD i_259.toNat dSArc).From), .int .i64 ((a0_n.Arcs.getD i_259.toNat dSArc).To), .int .i64 ((a0_n.Arcs.getD i_259.toNat dSArc).Cap)]]) [3] rfl rfl rfl rfl (fun s2 => by refine EOp.eq (e_storeL (IntKind.wrap .i64 (d_111 + 1)) rfl rfl rfl rfl rfl (toNat_lt g304) ty3 rfl rfl rfl rfl rfl rfl) ?_; rfl) ?_
                        refine ⟨rfl, ⟨⟨⟨⟨⟨trivial, .inr rfl⟩, .inr rfl⟩, .inr rfl⟩, .inl rfl⟩, .inr rfl⟩, ?_⟩
                        refine TTree.node 13 [] rfl ?_
                        refine AllP.cons ?_ ?_
                        · refine TStep.d (objs' := [.arr 3 1 a2_l.length (gL (cInt .i64) 0 a2_l), .box [.int .i64 a0_n.Nodes, .vec a0_n.Arcs.length 3 (gL cSArc dSArc a0_n.Arcs)], .arr 3 1 o2_300.length (gL (cInt .i64) 0 o2_300), .arr 3 1 (o3_301.set (((a0_n.Arcs.getD i_259.toNat dSArc).From).toNat) (IntKind.wrap .i64 (d_111 + 1))).length (gL (cInt .i64) 0 (o3_301.set (((a0_n.Arcs.getD i_259.toNat dSArc).From).toNat) (IntKind.wrap .i64 (d_111 + 1)))), .box [.int .i64 ((a0_n.Arcs.getD i_259.toNat dSArc).From), .int .i64 ((a0_n.Arcs.getD i_259.toNat dSArc).To), .int .i64 ((a0_n.Arcs.getD i_259.toNat dSArc).Cap)]]) (v := .c (.aptr 2 1 (((a0_n.Arcs.getD i_259.toNat dSArc).From).toNat) 0)) [] 111 rfl rfl rfl rfl rfl (fun s2 => by refine EOp.eq (EOp.qd rfl rfl (q_index_own rfl rfl rfl sl30 g305.1 g305.2)) ?_; rfl) ?_
                          refine ⟨rfl, ⟨⟨⟨⟨⟨trivial, .inr rfl⟩, .inr rfl⟩, .inr rfl⟩, .inr rfl⟩, .inr rfl⟩, ?_⟩
                          refine TTree.node 14 [] rfl ?_
                          refine AllP.cons ?_ ?_
                          · refine TStep.n (objs' := [.arr 3 1 a2_l.length (gL (cInt .i64) 0 a2_l), .box [.int .i64 a0_n.Nodes, .vec a0_n.Arcs.length 3 (gL cSArc dSArc a0_n.Arcs)], .arr 3 1 (o2_300.set (((a0_n.Arcs.getD i_259.toNat dSArc).From).toNat) (IntKind.wrap .i64 (IntKind.wrap .i64 (0 - i_259) - 1))).length (gL (cInt .i64) 0 (o2_300.set (((a0_n.Arcs.getD i_259.toNat dSArc).From).toNat) (IntKind.wrap .i64 (IntKind.wrap .i64 (0 - i_259) - 1)))), .arr 3 1 (o3_301.set (((a0_n.Arcs.getD i_259.toNat dSArc).From).toNat) (IntKind.wrap .i64 (d_111 + 1))).length (gL (cInt .i64) 0 (o3_301.set (((a0_n.Arcs.getD i_259.toNat dSArc).From).toNat) (IntKind.wrap .i64 (d_111 + 1)))), .box [.int .i64 ((a0_n.Arcs.getD i_259.toNat dSArc).From), .int .i64 ((a0_n.Arcs.getD i_259.toNat dSArc).To), .int .i64 ((a0_n.Arcs.getD i_259.toNat dSArc).Cap)]]) [2] rfl rfl rfl rfl (fun s2 => by refine EOp.eq (e_storeL (IntKind.wrap .i64 (IntKind.wrap .i64 (0 - i_259) - 1)) rfl rfl rfl rfl rfl (toNat_lt g305) ty3 rfl rfl rfl rfl rfl rfl) ?_; rfl) ?_
                            refine ⟨rfl, ⟨⟨⟨⟨⟨trivial, .inr rfl⟩, .inr rfl⟩, .inl rfl⟩, .inr rfl⟩, .inr rfl⟩, ?_⟩
                            exact TTree.leaf rfl (sub_gen [0, 1, 2, 3] rfl rfl ⟨zc rfl rfl, zc rfl rfl, ⟨_, rfl, .inl ⟨rfl, congrArg (Cell.own 2) (List.length_set : (o2_300.set (((a0_n.Arcs.getD i_259.toNat dSArc).From).toNat) (IntKind.wrap .i64 (IntKind.wrap .i64 (0 - i_259) - 1))).length = o2_300.length).symm⟩⟩, ⟨_, rfl, .inl ⟨rfl, congrArg (Cell.own 3) (List.length_set : (o3_301.set (((a0_n.Arcs.getD i_259.toNat dSArc).From).toNat) (IntKind.wrap .i64 (d_111 + 1))).length = o3_301.length).symm⟩⟩, zc rfl rfl, zc rfl rfl, trivial⟩ ⟨oa rfl, ⟨_, rfl, ⟨ii rfl rfl, ii rfl rfl, trivial⟩⟩, oa rfl, oa rfl, trivial⟩)
                          exact AllP.nil
                        exact AllP.nil
                      exact AllP.nil
                    refine SCode.region (show SOps _ _ _ [0] _ _ from ?_)
                    refine SOps.q rfl (.plain rfl) rfl (q_assign rfl rfl) ?_
                    refine SOps.sub (st' := ⟨[(2, .c (.own 0 a2_l.length)), (3, .c (.ptr 1 0)), (8, .c (.own 2 (o2_300.set (((a0_n.Arcs.getD i_259.toNat dSArc).From).toNat) (IntKind.wrap .i64 (IntKind.wrap .i64 (0 - i_259) - 1))).length)), (9, .c (.own 3 (o3_301.set (((a0_n.Arcs.getD i_259.toNat dSArc).From).toNat) (IntKind.wrap .i64 (d_111 + 1))).length)), (10, .c (.int .i64 d_111)), (11, .c (.bool false)), (12, .c (.int .i64 i_259))], [.arr 3 1 a2_l.length (gL (cInt .i64) 0 a2_l), .box [.int .i64 a0_n.Nodes, .vec a0_n.Arcs.length 3 (gL cSArc dSArc a0_n.Arcs)], .arr 3 1 (o2_300.set (((a0_n.Arcs.getD i_259.toNat dSArc).From).toNat) (IntKind.wrap .i64 (IntKind.wrap .i64 (0 - i_259) - 1))).length (gL (cInt .i64) 0 (o2_300.set (((a0_n.Arcs.getD i_259.toNat dSArc).From).toNat) (IntKind.wrap .i64 (IntKind.wrap .i64 (0 - i_259) - 1)))), .arr 3 1 (o3_301.set (((a0_n.Arcs.getD i_259.toNat dSArc).From).toNat) (IntKind.wrap .i64 (d_111 + 1))).length (gL (cInt .i64) 0 (o3_301.set (((a0_n.Arcs.getD i_259.toNat dSArc).From).toNat) (IntKind.wrap .i64 (d_111 + 1))))]⟩) (sub_gen [0, 1, 2, 3] rfl rfl ⟨zc rfl rfl, zc rfl rfl, zc rfl rfl, zc rfl rfl, zc rfl rfl, zc rfl rfl, zc rfl rfl, trivial⟩ ⟨oa rfl, ⟨_, rfl, ⟨ii rfl rfl, ii rfl rfl, trivial⟩⟩, oa rfl, oa rfl, trivial⟩) ?_
                    refine SOps.nil ?_
                    exact ⟨(false, o2_300.set (((a0_n.Arcs.getD i_259.toNat dSArc).From).toNat) (IntKind.wrap .i64 (IntKind.wrap .i64 (0 - i_259) - 1)), o3_301.set (((a0_n.Arcs.getD i_259.toNat dSArc).From).toNat) (IntKind.wrap .i64 (d_111 + 1))), h, sub_gen [0, 1, 2, 3] rfl rfl ⟨zc rfl rfl, zc rfl rfl, zc rfl rfl, zc rfl rfl, zc rfl rfl, zc rfl rfl, zc rfl rfl, trivial⟩ ⟨oa rfl, ⟨_, rfl, ⟨ii rfl rfl, ii rfl rfl, trivial⟩⟩, oa rfl, oa rfl, trivial⟩⟩
                  refine SCode.cond_f rfl g303 ?_
                  refine SCode.skip ?_
                  exact ⟨(done_299, o2_300, o3_301), h, sub_gen [0, 1, 2, 3] rfl rfl ⟨zc rfl rfl, zc rfl rfl, zc rfl rfl, zc rfl rfl, zc rfl rfl, zc rfl rfl, zc rfl rfl, trivial⟩ ⟨oa rfl, ⟨_, rfl, ⟨ii rfl rfl, ii rfl rfl, trivial⟩⟩, oa rfl, oa rfl, trivial⟩⟩
                rintro ⟨done_294, o2_295, o3_296⟩ h
                show SCode _ _ _ ⟨[(2, .c (.own 0 a2_l.length)), (3, .c (.ptr 1 0)), (8, .c (.own 2 o2_295.length)), (9, .c (.own 3 o3_296.length)), (10, .c (.int .i64 d_111)), (11, .c (.bool done_294)), (12, .c (.int .i64 i_259))], [.arr 3 1 a2_l.length (gL (cInt .i64) 0 a2_l), .box [.int .i64 a0_n.Nodes, .vec a0_n.Arcs.length 3 (gL cSArc dSArc a0_n.Arcs)], .arr 3 1 o2_295.length (gL (cInt .i64) 0 o2_295), .arr 3 1 o3_296.length (gL (cInt .i64) 0 o3_296)]⟩ _
                replace h : chargenetref09_search_p297 i_259 (fun done_258 i_259 o2_260 o3_261 => chargenetref09_search_l292 a0_n a2_l d_111 (fun d_111 o2_112 o3_113 => chargenetref09_search_l218 F a0_n a2_l n_218 d_111 o2_112 o3_113) n_292 done_258 i_259 o2_260 o3_261) done_294 o2_295 o3_296 = some r := h
                unfold chargenetref09_search_p297 at h
                refine SCode.region (show SOps _ _ _ [0, 1, 2] _ _ from ?_)
                refine SOps.q rfl (.plain rfl) rfl (q_move rfl rfl) ?_
                refine SOps.q rfl (.plain rfl) rfl (q_add rfl rfl rfl) ?_
                refine SOps.q rfl (.plain rfl) rfl (q_assign rfl rfl) ?_
                refine SOps.sub (st' := ⟨[(2, .c (.own 0 a2_l.length)), (3, .c (.ptr 1 0)), (8, .c (.own 2 o2_295.length)), (9, .c (.own 3 o3_296.length)), (10, .c (.int .i64 d_111)), (11, .c (.bool done_294)), (12, .c (.int .i64 (IntKind.wrap .i64 (i_259 + 1))))], [.arr 3 1 a2_l.length (gL (cInt .i64) 0 a2_l), .box [.int .i64 a0_n.Nodes, .vec a0_n.Arcs.length 3 (gL cSArc dSArc a0_n.Arcs)], .arr 3 1 o2_295.length (gL (cInt .i64) 0 o2_295), .arr 3 1 o3_296.length (gL (cInt .i64) 0 o3_296)]⟩) (sub_gen [0, 1, 2, 3] rfl rfl ⟨zc rfl rfl, zc rfl rfl, zc rfl rfl, zc rfl rfl, zc rfl rfl, zc rfl rfl, zc rfl rfl, trivial⟩ ⟨oa rfl, ⟨_, rfl, ⟨ii rfl rfl, ii rfl rfl, trivial⟩⟩, oa rfl, oa rfl, trivial⟩) ?_
                refine SOps.nil ?_
                exact ⟨(n_292, (done_294, IntKind.wrap .i64 (i_259 + 1), o2_295, o3_296)), h, Nat.lt_succ_self n_292, sub_gen [0, 1, 2, 3] rfl rfl ⟨zc rfl rfl, zc rfl rfl, zc rfl rfl, zc rfl rfl, zc rfl rfl, zc rfl rfl, zc rfl rfl, trivial⟩ ⟨oa rfl, ⟨_, rfl, ⟨ii rfl rfl, ii rfl rfl, trivial⟩⟩, oa rfl, oa rfl, trivial⟩⟩
              refine SCode.cond_f rfl g293 ?_
              refine SCode.exit ?_
              exact ⟨(done_258, o2_260, o3_261), h, sub_gen [0, 1, 2, 3] rfl rfl ⟨zc rfl rfl, zc rfl rfl, zc rfl rfl, zc rfl rfl, zc rfl rfl, zc rfl rfl, trivial⟩ ⟨oa rfl, ⟨_, rfl, ⟨ii rfl rfl, ii rfl rfl, trivial⟩⟩, oa rfl, oa rfl, trivial⟩⟩
          rintro ⟨done_223, o2_224, o3_225⟩ h
          show SCode _ _ _ ⟨[(2, .c (.own 0 a2_l.length)), (3, .c (.ptr 1 0)), (8, .c (.own 2 o2_224.length)), (9, .c (.own 3 o3_225.length)), (10, .c (.int .i64 d_111)), (11, .c (.bool done_223))], [.arr 3 1 a2_l.length (gL (cInt .i64) 0 a2_l), .box [.int .i64 a0_n.Nodes, .vec a0_n.Arcs.length 3 (gL cSArc dSArc a0_n.Arcs)], .arr 3 1 o2_224.length (gL (cInt .i64) 0 o2_224), .arr 3 1 o3_225.length (gL (cInt .i64) 0 o3_225)]⟩ _
          replace h : chargenetref09_search_p227 d_111 (fun d_111 o2_112 o3_113 => chargenetref09_search_l218 F a0_n a2_l n_218 d_111 o2_112 o3_113) done_223 o2_224 o3_225 = some r := h
          unfold chargenetref09_search_p227 at h
          refine SCode.seq ?_
          refine SCode.region (show SOps _ _ _ [0] _ _ from ?_)
          refine SOps.q rfl (.plain rfl) rfl (q_move rfl rfl) ?_
          refine SOps.sub (st' := ⟨[(2, .c (.own 0 a2_l.length)), (3, .c (.ptr 1 0)), (8, .c (.own 2 o2_224.length)), (9, .c (.own 3 o3_225.length)), (10, .c (.int .i64 d_111)), (112, .c (.bool done_223))], [.arr 3 1 a2_l.length (gL (cInt .i64) 0 a2_l), .box [.int .i64 a0_n.Nodes, .vec a0_n.Arcs.length 3 (gL cSArc dSArc a0_n.Arcs)], .arr 3 1 o2_224.length (gL (cInt .i64) 0 o2_224), .arr 3 1 o3_225.length (gL (cInt .i64) 0 o3_225)]⟩) (sub_gen [0, 1, 2, 3] rfl rfl ⟨zc rfl rfl, zc rfl rfl, zc rfl rfl, zc rfl rfl, zc rfl rfl, zc rfl rfl, trivial⟩ ⟨oa rfl, ⟨_, rfl, ⟨ii rfl rfl, ii rfl rfl, trivial⟩⟩, oa rfl, oa rfl, trivial⟩) ?_
          refine SOps.nil ?_
          rcases cond_out h with ⟨g226, h⟩ | ⟨g226, h⟩
          · refine SCode.cond_t rfl g226 ?_
            refine SCode.seq ?_
            refine SCode.region (show SOps _ _ _ [0, 1, 2, 3] _ _ from ?_)
            refine SOps.q rfl (.plain rfl) rfl (q_move rfl rfl) ?_
            refine SOps.q rfl (.plain rfl) rfl (q_move rfl rfl) ?_
            refine SOps.q rfl (.plain rfl) rfl (q_assign rfl rfl) ?_
            refine SOps.q rfl (.plain rfl) rfl (q_assign rfl rfl) ?_
            refine SOps.sub (st' := ⟨[(6, .c (.own 1 o2_224.length)), (7, .c (.own 2 o3_225.length))], [.arr 3 1 a2_l.length (gL (cInt .i64) 0 a2_l), .arr 3 1 o2_224.length (gL (cInt .i64) 0 o2_224), .arr 3 1 o3_225.length (gL (cInt .i64) 0 o3_225)]⟩) (sub_gen [0, 2, 3] rfl rfl ⟨zc rfl rfl, zc rfl rfl, trivial⟩ ⟨oa rfl, oa rfl, oa rfl, trivial⟩) ?_
            refine SOps.nil ?_
            refine SCode.ret ?_
            obtain rfl := Option.some.inj h
            exact ⟨⟨[(6, .c (.vec o2_224.length 1 (gL (cInt .i64) 0 o2_224))), (7, .c (.vec o3_225.length 1 (gL (cInt .i64) 0 o3_225)))], [.arr 3 1 a2_l.length (gL (cInt .i64) 0 a2_l)]⟩, _, sub_gen [0] rfl rfl ⟨⟨_, rfl, .inr (.inl ⟨_, _, _, _, _, _, _, rfl, rfl, rfl, Nat.le_refl _, fun _ _ _ _ => rfl, by decide⟩)⟩, ⟨_, rfl, .inr (.inl ⟨_, _, _, _, _, _, _, rfl, rfl, rfl, Nat.le_refl _, fun _ _ _ _ => rfl, by decide⟩)⟩, trivial⟩ ⟨oa rfl, trivial⟩, resA2 (v1 := .c (.vec o2_224.length 1 (gL (cInt .i64) 0 o2_224))) (v2 := .c (.vec o3_225.length 1 (gL (cInt .i64) 0 o3_225))) rfl rfl rfl, ⟨rfl, rfl⟩⟩
          refine SCode.cond_f rfl g226 ?_
          refine SCode.skip ?_
          exact ⟨(o2_224, o3_225), h, sub_gen [0, 1, 2, 3] rfl rfl ⟨zc rfl rfl, zc rfl rfl, zc rfl rfl, zc rfl rfl, zc rfl rfl, trivial⟩ ⟨oa rfl, ⟨_, rfl, ⟨ii rfl rfl, ii rfl rfl, trivial⟩⟩, oa rfl, oa rfl, trivial⟩⟩
        rintro ⟨o2_220, o3_221⟩ h
        show SCode _ _ _ ⟨[(2, .c (.own 0 a2_l.length)), (3, .c (.ptr 1 0)), (8, .c (.own 2 o2_220.length)), (9, .c (.own 3 o3_221.length)), (10, .c (.int .i64 d_111))], [.arr 3 1 a2_l.length (gL (cInt .i64) 0 a2_l), .box [.int .i64 a0_n.Nodes, .vec a0_n.Arcs.length 3 (gL cSArc dSArc a0_n.Arcs)], .arr 3 1 o2_220.length (gL (cInt .i64) 0 o2_220), .arr 3 1 o3_221.length (gL (cInt .i64) 0 o3_221)]⟩ _
        replace h : chargenetref09_search_p222 d_111 (fun d_111 o2_112 o3_113 => chargenetref09_search_l218 F a0_n a2_l n_218 d_111 o2_112 o3_113) o2_220 o3_221 = some r := h
        unfold chargenetref09_search_p222 at h
        refine SCode.region (show SOps _ _ _ [0, 1, 2] _ _ from ?_)
        refine SOps.q rfl (.plain rfl) rfl (q_move rfl rfl) ?_
        refine SOps.q rfl (.plain rfl) rfl (q_add rfl rfl rfl) ?_
        refine SOps.q rfl (.plain rfl) rfl (q_assign rfl rfl) ?_
        refine SOps.sub (st' := ⟨[(2, .c (.own 0 a2_l.length)), (3, .c (.ptr 1 0)), (8, .c (.own 2 o2_220.length)), (9, .c (.own 3 o3_221.length)), (10, .c (.int .i64 (IntKind.wrap .i64 (d_111 + 1))))], [.arr 3 1 a2_l.length (gL (cInt .i64) 0 a2_l), .box [.int .i64 a0_n.Nodes, .vec a0_n.Arcs.length 3 (gL cSArc dSArc a0_n.Arcs)], .arr 3 1 o2_220.length (gL (cInt .i64) 0 o2_220), .arr 3 1 o3_221.length (gL (cInt .i64) 0 o3_221)]⟩) (sub_gen [0, 1, 2, 3] rfl rfl ⟨zc rfl rfl, zc rfl rfl, zc rfl rfl, zc rfl rfl, zc rfl rfl, trivial⟩ ⟨oa rfl, ⟨_, rfl, ⟨ii rfl rfl, ii rfl rfl, trivial⟩⟩, oa rfl, oa rfl, trivial⟩) ?_
        refine SOps.nil ?_
        exact ⟨(n_218, (IntKind.wrap .i64 (d_111 + 1), o2_220, o3_221)), h, Nat.lt_succ_self n_218, sub_gen [0, 1, 2, 3] rfl rfl ⟨zc rfl rfl, zc rfl rfl, zc rfl rfl, zc rfl rfl, zc rfl rfl, trivial⟩ ⟨oa rfl, ⟨_, rfl, ⟨ii rfl rfl, ii rfl rfl, trivial⟩⟩, oa rfl, oa rfl, trivial⟩⟩
      refine SCode.cond_f rfl g219 ?_
      refine SCode.exit ?_
      exact ⟨(o2_112, o3_113), h, sub_gen [0, 2, 3] rfl rfl ⟨zc rfl rfl, zc rfl rfl, trivial⟩ ⟨oa rfl, oa rfl, oa rfl, trivial⟩⟩
  rintro ⟨o1_4, o2_5⟩ h
  show SCode _ _ _ ⟨[(8, .c (.own 1 o1_4.length)), (9, .c (.own 2 o2_5.length))], [.arr 3 1 a2_l.length (gL (cInt .i64) 0 a2_l), .arr 3 1 o1_4.length (gL (cInt .i64) 0 o1_4), .arr 3 1 o2_5.length (gL (cInt .i64) 0 o2_5)]⟩ _
  replace h : chargenetref09_search_p6 o1_4 o2_5 = some r := h
  unfold chargenetref09_search_p6 at h
  refine SCode.seq ?_
  refine SCode.region (show SOps _ _ _ [0, 1, 2, 3] _ _ from ?_)
  refine SOps.q rfl (.plain rfl) rfl (q_move rfl rfl) ?_
  refine SOps.q rfl (.plain rfl) rfl (q_move rfl rfl) ?_
  refine SOps.q rfl (.plain rfl) rfl (q_assign rfl rfl) ?_
  refine SOps.q rfl (.plain rfl) rfl (q_assign rfl rfl) ?_
  refine SOps.sub (st' := ⟨[(6, .c (.own 1 o1_4.length)), (7, .c (.own 2 o2_5.length))], [.arr 3 1 a2_l.length (gL (cInt .i64) 0 a2_l), .arr 3 1 o1_4.length (gL (cInt .i64) 0 o1_4), .arr 3 1 o2_5.length (gL (cInt .i64) 0 o2_5)]⟩) (sub_gen [0, 1, 2] rfl rfl ⟨zc rfl rfl, zc rfl rfl, trivial⟩ ⟨oa rfl, oa rfl, oa rfl, trivial⟩) ?_
  refine SOps.nil ?_
  refine SCode.ret ?_
  obtain rfl := Option.some.inj h
  exact ⟨⟨[(6, .c (.vec o1_4.length 1 (gL (cInt .i64) 0 o1_4))), (7, .c (.vec o2_5.length 1 (gL (cInt .i64) 0 o2_5)))], [.arr 3 1 a2_l.length (gL (cInt .i64) 0 a2_l)]⟩, _, sub_gen [0] rfl rfl ⟨⟨_, rfl, .inr (.inl ⟨_, _, _, _, _, _, _, rfl, rfl, rfl, Nat.le_refl _, fun _ _ _ _ => rfl, by decide⟩)⟩, ⟨_, rfl, .inr (.inl ⟨_, _, _, _, _, _, _, rfl, rfl, rfl, Nat.le_refl _, fun _ _ _ _ => rfl, by decide⟩)⟩, trivial⟩ ⟨oa rfl, trivial⟩, resA2 (v1 := .c (.vec o1_4.length 1 (gL (cInt .i64) 0 o1_4))) (v2 := .c (.vec o2_5.length 1 (gL (cInt .i64) 0 o2_5))) rfl rfl rfl, ⟨rfl, rfl⟩⟩
end Go.Proofs.Ytbepoingholchaa.W
