/- Written by a program of ours (wip/eng/gen.py): the functions compute their models. -/
import Derived.Test.YtbepoingholchaaFacts
import Derived.Test.YtbepoingholchaaV6x7
namespace Go.Proofs.Ytbepoingholchaa.W
open Go Go.Proofs Go.Proofs.Ytbepoingholchaa.E Go.Proofs.Ytbepoingholchaa.M
set_option linter.unusedVariables false
set_option maxRecDepth 100000 in
set_option maxHeartbeats 8000000 in
theorem chargenetref09_spare_ok (F : Nat) (a0_n : SNet) (a1_l : List Int) (a2_by : List Int) (a3_source : Int) (a4_sink : Int) (r : Int) (h : chargenetref09_spare F a0_n a1_l a2_by a3_source a4_sink = some r) :
    SFun Try.prog 31 [] [.a [.int .i64 a0_n.Nodes, .vec a0_n.Arcs.length 3 (gL cSArc dSArc a0_n.Arcs)], .c (.vec a1_l.length 1 (gL (cInt .i64) 0 a1_l)), .c (.vec a2_by.length 1 (gL (cInt .i64) 0 a2_by)), .c (.int .i64 a3_source), .c (.int .i64 a4_sink)] (fun x _ => x = .c (.int .i64 r)) := by
  refine SFun.of (n := 67) Try.func31 rfl rfl rfl ?_
  unfold chargenetref09_spare at h
  show SCode _ _ _ ⟨[(0, .a [.int .i64 a0_n.Nodes, .vec a0_n.Arcs.length 3 (gL cSArc dSArc a0_n.Arcs)]), (1, .c (.vec a1_l.length 1 (gL (cInt .i64) 0 a1_l))), (2, .c (.vec a2_by.length 1 (gL (cInt .i64) 0 a2_by))), (3, .c (.int .i64 a3_source)), (4, .c (.int .i64 a4_sink))], []⟩ _
  refine SCode.seq ?_
  refine SCode.region (show SOps _ _ _ [0, 1] _ _ from ?_)
  refine SOps.e rfl (.plain rfl) (e_box rfl rfl rfl rfl rfl rfl) ?_
  refine SOps.q rfl (.plain rfl) rfl (q_assign rfl rfl) ?_
  refine SOps.sub (st' := ⟨[(1, .c (.vec a1_l.length 1 (gL (cInt .i64) 0 a1_l))), (2, .c (.vec a2_by.length 1 (gL (cInt .i64) 0 a2_by))), (3, .c (.int .i64 a3_source)), (4, .c (.int .i64 a4_sink)), (5, .c (.ptr 0 0))], [.box [.int .i64 a0_n.Nodes, .vec a0_n.Arcs.length 3 (gL cSArc dSArc a0_n.Arcs)]]⟩) (sub_gen [0] rfl rfl ⟨zc rfl rfl, zc rfl rfl, zc rfl rfl, zc rfl rfl, zc rfl rfl, trivial⟩ ⟨⟨_, rfl, ⟨ii rfl rfl, ii rfl rfl, trivial⟩⟩, trivial⟩) ?_
  refine SOps.nil ?_
  refine SCode.seq ?_
  refine SCode.region (show SOps _ _ _ [0] _ _ from ?_)
  refine SOps.q rfl (.plain rfl) rfl (q_assign rfl rfl) ?_
  refine SOps.sub (st' := ⟨[(1, .c (.vec a1_l.length 1 (gL (cInt .i64) 0 a1_l))), (2, .c (.vec a2_by.length 1 (gL (cInt .i64) 0 a2_by))), (3, .c (.int .i64 a3_source)), (4, .c (.int .i64 a4_sink)), (5, .c (.ptr 0 0)), (11, .c (.int .i64 1099511627776))], [.box [.int .i64 a0_n.Nodes, .vec a0_n.Arcs.length 3 (gL cSArc dSArc a0_n.Arcs)]]⟩) (sub_gen [0] rfl rfl ⟨zc rfl rfl, zc rfl rfl, zc rfl rfl, zc rfl rfl, zc rfl rfl, zc rfl rfl, trivial⟩ ⟨⟨_, rfl, ⟨ii rfl rfl, ii rfl rfl, trivial⟩⟩, trivial⟩) ?_
  refine SOps.nil ?_
  refine SCode.join (σ := Int) (S := fun s => ⟨[(11, .c (.int .i64 s))], []⟩) (g := fun s => chargenetref09_spare_p2 s = some r) ?_ ?_
  rotate_left
  · refine SCode.seq ?_
    refine SCode.region (show SOps _ _ _ [0, 1] _ _ from ?_)
    refine SOps.q rfl (.plain rfl) rfl (q_move rfl rfl) ?_
    refine SOps.q rfl (.plain rfl) rfl (q_assign rfl rfl) ?_
    refine SOps.sub (st' := ⟨[(1, .c (.vec a1_l.length 1 (gL (cInt .i64) 0 a1_l))), (2, .c (.vec a2_by.length 1 (gL (cInt .i64) 0 a2_by))), (3, .c (.int .i64 a3_source)), (5, .c (.ptr 0 0)), (11, .c (.int .i64 1099511627776)), (12, .c (.int .i64 a4_sink))], [.box [.int .i64 a0_n.Nodes, .vec a0_n.Arcs.length 3 (gL cSArc dSArc a0_n.Arcs)]]⟩) (sub_gen [0] rfl rfl ⟨zc rfl rfl, zc rfl rfl, zc rfl rfl, zc rfl rfl, zc rfl rfl, zc rfl rfl, trivial⟩ ⟨⟨_, rfl, ⟨ii rfl rfl, ii rfl rfl, trivial⟩⟩, trivial⟩) ?_
    refine SOps.nil ?_
    refine SCode.block ?_
    refine SCode.sub (st' := ⟨[(1, .c (.vec a1_l.length 1 (gL (cInt .i64) 0 a1_l))), (2, .c (.vec a2_by.length 1 (gL (cInt .i64) 0 a2_by))), (3, .c (.int .i64 a3_source)), (5, .c (.ptr 0 0)), (11, .c (.int .i64 1099511627776)), (12, .c (.int .i64 a4_sink))], [.box [.int .i64 a0_n.Nodes, .vec a0_n.Arcs.length 3 (gL cSArc dSArc a0_n.Arcs)]]⟩) (sub_gen [0] rfl rfl ⟨zc rfl rfl, zc rfl rfl, zc rfl rfl, zc rfl rfl, zc rfl rfl, zc rfl rfl, trivial⟩ ⟨⟨_, rfl, ⟨ii rfl rfl, ii rfl rfl, trivial⟩⟩, trivial⟩) ?_
    refine (SCode.loop (σ := Nat × (Int × Int)) (S := fun s => ⟨[(1, .c (.vec a1_l.length 1 (gL (cInt .i64) 0 a1_l))), (2, .c (.vec a2_by.length 1 (gL (cInt .i64) 0 a2_by))), (3, .c (.int .i64 a3_source)), (5, .c (.ptr 0 0)), (11, .c (.int .i64 s.2.1)), (12, .c (.int .i64 s.2.2))], [.box [.int .i64 a0_n.Nodes, .vec a0_n.Arcs.length 3 (gL cSArc dSArc a0_n.Arcs)]]⟩) (g := fun s => chargenetref09_spare_l27 a0_n a1_l a2_by a3_source s.1 s.2.1 s.2.2 = some r) (μ := fun s => s.1) (F, (1099511627776, a4_sink)) h ?_)
    rintro ⟨n_27, ⟨d_15, v_16⟩⟩ h
    replace h : chargenetref09_spare_l27 a0_n a1_l a2_by a3_source n_27 d_15 v_16 = some r := h
    show SCode _ _ _ ⟨[(1, .c (.vec a1_l.length 1 (gL (cInt .i64) 0 a1_l))), (2, .c (.vec a2_by.length 1 (gL (cInt .i64) 0 a2_by))), (3, .c (.int .i64 a3_source)), (5, .c (.ptr 0 0)), (11, .c (.int .i64 d_15)), (12, .c (.int .i64 v_16))], [.box [.int .i64 a0_n.Nodes, .vec a0_n.Arcs.length 3 (gL cSArc dSArc a0_n.Arcs)]]⟩ _
    cases n_27 with
    | zero => cases h
    | succ n_27 =>
      replace h : chargenetref09_spare_b27 a0_n a1_l a2_by a3_source (fun d_15 v_16 => chargenetref09_spare_l27 a0_n a1_l a2_by a3_source n_27 d_15 v_16) d_15 v_16 = some r := h
      unfold chargenetref09_spare_b27 at h
      refine SCode.seq ?_
      refine SCode.seq ?_
      refine SCode.region (show SOps _ _ _ [0, 1, 2] _ _ from ?_)
      refine SOps.q rfl (.plain rfl) rfl (q_move rfl rfl) ?_
      refine SOps.q rfl (.plain rfl) rfl (q_move rfl rfl) ?_
      refine SOps.q rfl (.plain rfl) rfl (q_neq rfl rfl rfl) ?_
      refine SOps.sub (st' := ⟨[(1, .c (.vec a1_l.length 1 (gL (cInt .i64) 0 a1_l))), (2, .c (.vec a2_by.length 1 (gL (cInt .i64) 0 a2_by))), (3, .c (.int .i64 a3_source)), (5, .c (.ptr 0 0)), (11, .c (.int .i64 d_15)), (12, .c (.int .i64 v_16)), (18, .c (.bool ((!decide (v_16 = a3_source)))))], [.box [.int .i64 a0_n.Nodes, .vec a0_n.Arcs.length 3 (gL cSArc dSArc a0_n.Arcs)]]⟩) (sub_gen [0] rfl rfl ⟨zc rfl rfl, zc rfl rfl, zc rfl rfl, zc rfl rfl, zc rfl rfl, zc rfl rfl, zc rfl rfl, trivial⟩ ⟨⟨_, rfl, ⟨ii rfl rfl, ii rfl rfl, trivial⟩⟩, trivial⟩) ?_
      refine SOps.nil ?_
      rcases cond_out h with ⟨g28, h⟩ | ⟨g28, h⟩
      · refine SCode.cond_t rfl g28 ?_
        refine SCode.skip ?_
        refine SCode.block ?_
        refine SCode.seq ?_
        obtain ⟨g29, h⟩ := guard_out h
        refine SCode.region (show SOps _ _ _ [0, 1, 2, 3, 4] _ _ from ?_)
        refine SOps.q rfl (.plain rfl) rfl (q_move rfl rfl) ?_
        refine SOps.q rfl (.plain rfl) rfl (q_move rfl rfl) ?_
        refine SOps.q rfl (.plain rfl) rfl (q_index_vec rfl rfl rfl sl30 rfl g29.1 g29.2) ?_
        refine SOps.q rfl (.plain rfl) rfl (q_load_eptr rfl rfl ty3) ?_
        refine SOps.q rfl (.plain rfl) rfl (q_gtr rfl rfl rfl) ?_
        refine SOps.sub (st' := ⟨[(1, .c (.vec a1_l.length 1 (gL (cInt .i64) 0 a1_l))), (2, .c (.vec a2_by.length 1 (gL (cInt .i64) 0 a2_by))), (3, .c (.int .i64 a3_source)), (5, .c (.ptr 0 0)), (11, .c (.int .i64 d_15)), (12, .c (.int .i64 v_16)), (23, .c (.bool (decide (0 < a2_by.getD v_16.toNat 0))))], [.box [.int .i64 a0_n.Nodes, .vec a0_n.Arcs.length 3 (gL cSArc dSArc a0_n.Arcs)]]⟩) (sub_gen [0] rfl rfl ⟨zc rfl rfl, zc rfl rfl, zc rfl rfl, zc rfl rfl, zc rfl rfl, zc rfl rfl, zc rfl rfl, trivial⟩ ⟨⟨_, rfl, ⟨ii rfl rfl, ii rfl rfl, trivial⟩⟩, trivial⟩) ?_
        refine SOps.nil ?_
        rcases cond_out h with ⟨g30, h⟩ | ⟨g30, h⟩
        · refine SCode.cond_t rfl g30 ?_
          refine SCode.seq ?_
          obtain ⟨g31, h⟩ := guard_out h
          refine SCode.region (show SOps _ _ _ [0, 1, 2, 3, 4, 5] _ _ from ?_)
          refine SOps.q rfl (.plain rfl) rfl (q_move rfl rfl) ?_
          refine SOps.q rfl (.plain rfl) rfl (q_move rfl rfl) ?_
          refine SOps.q rfl (.plain rfl) rfl (q_index_vec rfl rfl rfl sl30 rfl g31.1 g31.2) ?_
          refine SOps.q rfl (.plain rfl) rfl (q_load_eptr rfl rfl ty3) ?_
          refine SOps.q rfl (.plain rfl) rfl (q_sub rfl rfl rfl) ?_
          refine SOps.q rfl (.plain rfl) rfl (q_assign rfl rfl) ?_
          refine SOps.sub (st' := ⟨[(1, .c (.vec a1_l.length 1 (gL (cInt .i64) 0 a1_l))), (2, .c (.vec a2_by.length 1 (gL (cInt .i64) 0 a2_by))), (3, .c (.int .i64 a3_source)), (5, .c (.ptr 0 0)), (11, .c (.int .i64 d_15)), (13, .c (.int .i64 (IntKind.wrap .i64 (a2_by.getD v_16.toNat 0 - 1))))], [.box [.int .i64 a0_n.Nodes, .vec a0_n.Arcs.length 3 (gL cSArc dSArc a0_n.Arcs)]]⟩) (sub_gen [0] rfl rfl ⟨zc rfl rfl, zc rfl rfl, zc rfl rfl, zc rfl rfl, zc rfl rfl, zc rfl rfl, trivial⟩ ⟨⟨_, rfl, ⟨ii rfl rfl, ii rfl rfl, trivial⟩⟩, trivial⟩) ?_
          refine SOps.nil ?_
          refine SCode.seq ?_
          obtain ⟨g32, h⟩ := guard_out h
          obtain ⟨g33, h⟩ := guard_out h
          refine SCode.draw (s' := [(11, .c (.int .i64 ((if IntKind.wrap .i64 ((a0_n.Arcs.getD (IntKind.wrap .i64 (a2_by.getD v_16.toNat 0 - 1)).toNat dSArc).Cap - a1_l.getD (IntKind.wrap .i64 (a2_by.getD v_16.toNat 0 - 1)).toNat 0) < d_15 then IntKind.wrap .i64 ((a0_n.Arcs.getD (IntKind.wrap .i64 (a2_by.getD v_16.toNat 0 - 1)).toNat dSArc).Cap - a1_l.getD (IntKind.wrap .i64 (a2_by.getD v_16.toNat 0 - 1)).toNat 0) else d_15)))), (41, .c (.int .i64 ((if IntKind.wrap .i64 ((a0_n.Arcs.getD (IntKind.wrap .i64 (a2_by.getD v_16.toNat 0 - 1)).toNat dSArc).Cap - a1_l.getD (IntKind.wrap .i64 (a2_by.getD v_16.toNat 0 - 1)).toNat 0) < d_15 then IntKind.wrap .i64 ((a0_n.Arcs.getD (IntKind.wrap .i64 (a2_by.getD v_16.toNat 0 - 1)).toNat dSArc).Cap - a1_l.getD (IntKind.wrap .i64 (a2_by.getD v_16.toNat 0 - 1)).toNat 0) else d_15)))), (40, .c (.int .i64 (IntKind.wrap .i64 ((a0_n.Arcs.getD (IntKind.wrap .i64 (a2_by.getD v_16.toNat 0 - 1)).toNat dSArc).Cap - a1_l.getD (IntKind.wrap .i64 (a2_by.getD v_16.toNat 0 - 1)).toNat 0)))), (39, .c (.int .i64 (a1_l.getD (IntKind.wrap .i64 (a2_by.getD v_16.toNat 0 - 1)).toNat 0))), (38, .c (.eptr 1 ((cInt .i64) (a1_l.getD (IntKind.wrap .i64 (a2_by.getD v_16.toNat 0 - 1)).toNat 0)) 0)), (37, .c (.int .i64 (IntKind.wrap .i64 (a2_by.getD v_16.toNat 0 - 1)))), (36, .c (.vec a1_l.length 1 (gL (cInt .i64) 0 a1_l))), (35, .c (.int .i64 ((a0_n.Arcs.getD (IntKind.wrap .i64 (a2_by.getD v_16.toNat 0 - 1)).toNat dSArc).Cap))), (34, .c (.eptr 3 (cSArc (a0_n.Arcs.getD (IntKind.wrap .i64 (a2_by.getD v_16.toNat 0 - 1)).toNat dSArc)) 2)), (33, .c (.eptr 3 (cSArc (a0_n.Arcs.getD (IntKind.wrap .i64 (a2_by.getD v_16.toNat 0 - 1)).toNat dSArc)) 0)), (32, .c (.int .i64 (IntKind.wrap .i64 (a2_by.getD v_16.toNat 0 - 1)))), (31, .c (.vec a0_n.Arcs.length 3 (gL cSArc dSArc a0_n.Arcs))), (30, .c (.ptr 0 1)), (29, .c (.int .i64 d_15)), (1, .c (.vec a1_l.length 1 (gL (cInt .i64) 0 a1_l))), (2, .c (.vec a2_by.length 1 (gL (cInt .i64) 0 a2_by))), (3, .c (.int .i64 a3_source)), (5, .c (.ptr 0 0)), (11, .c (.int .i64 d_15)), (13, .c (.int .i64 (IntKind.wrap .i64 (a2_by.getD v_16.toNat 0 - 1))))]) mixed [[], [], [1], [], [1, 2, 3], [1, 2, 3, 4], [1, 2, 3, 4, 5], [], [], [7, 8], [7, 8, 9], [1, 2, 3, 4, 5, 6, 7, 8, 9, 10], [0, 1, 2, 3, 4, 5, 6, 7, 8, 9, 10, 11], [0, 1, 2, 3, 4, 5, 6, 7, 8, 9, 10, 11, 12]] 14 0 rfl rfl ?_ ?_
          · refine QChain.run rfl (.plain rfl) rfl (q_move rfl rfl) ?_
            refine QChain.run rfl (.plain rfl) rfl (q_field_ptr rfl rfl fd24_1) ?_
            refine QChain.run rfl (.plain rfl) rfl (q_load_ptr rfl rfl rfl rfl ty22) ?_
            refine QChain.run rfl (.plain rfl) rfl (q_move rfl rfl) ?_
            refine QChain.run rfl (.plain rfl) rfl (q_index_vec rfl rfl rfl sl22 rfl g32.1 g32.2) ?_
            refine QChain.run rfl (.plain rfl) rfl (q_field_eptr rfl rfl fd50_2 rfl) ?_
            refine QChain.run rfl (.plain rfl) rfl (q_load_eptr rfl rfl ty3) ?_
            refine QChain.run rfl (.plain rfl) rfl (q_move rfl rfl) ?_
            refine QChain.run rfl (.plain rfl) rfl (q_move rfl rfl) ?_
            refine QChain.run rfl (.plain rfl) rfl (q_index_vec rfl rfl rfl sl30 rfl g33.1 g33.2) ?_
            refine QChain.run rfl (.plain rfl) rfl (q_load_eptr rfl rfl ty3) ?_
            refine QChain.run rfl (.plain rfl) rfl (q_sub rfl rfl rfl) ?_
            refine QChain.run rfl (.plain rfl) rfl (q_min rfl rfl rfl) ?_
            refine QChain.run rfl (.plain rfl) rfl (q_assign rfl rfl) ?_
            exact QChain.nil _ _
          refine (show SOps _ _ _ [] _ _ from ?_)
          refine SOps.sub (st' := ⟨[(1, .c (.vec a1_l.length 1 (gL (cInt .i64) 0 a1_l))), (2, .c (.vec a2_by.length 1 (gL (cInt .i64) 0 a2_by))), (3, .c (.int .i64 a3_source)), (5, .c (.ptr 0 0)), (11, .c (.int .i64 ((if IntKind.wrap .i64 ((a0_n.Arcs.getD (IntKind.wrap .i64 (a2_by.getD v_16.toNat 0 - 1)).toNat dSArc).Cap - a1_l.getD (IntKind.wrap .i64 (a2_by.getD v_16.toNat 0 - 1)).toNat 0) < d_15 then IntKind.wrap .i64 ((a0_n.Arcs.getD (IntKind.wrap .i64 (a2_by.getD v_16.toNat 0 - 1)).toNat dSArc).Cap - a1_l.getD (IntKind.wrap .i64 (a2_by.getD v_16.toNat 0 - 1)).toNat 0) else d_15)))), (13, .c (.int .i64 (IntKind.wrap .i64 (a2_by.getD v_16.toNat 0 - 1))))], [.box [.int .i64 a0_n.Nodes, .vec a0_n.Arcs.length 3 (gL cSArc dSArc a0_n.Arcs)]]⟩) (sub_gen [0] rfl rfl ⟨zc rfl rfl, zc rfl rfl, zc rfl rfl, zc rfl rfl, zc rfl rfl, zc rfl rfl, trivial⟩ ⟨⟨_, rfl, ⟨ii rfl rfl, ii rfl rfl, trivial⟩⟩, trivial⟩) ?_
          refine SOps.nil ?_
          obtain ⟨g34, h⟩ := guard_out h
          refine SCode.region (show SOps _ _ _ [0, 1, 2, 3, 4, 5, 6] _ _ from ?_)
          refine SOps.q rfl (.plain rfl) rfl (q_field_ptr rfl rfl fd24_1) ?_
          refine SOps.q rfl (.plain rfl) rfl (q_load_ptr rfl rfl rfl rfl ty22) ?_
          refine SOps.q rfl (.plain rfl) rfl (q_move rfl rfl) ?_
          refine SOps.q rfl (.plain rfl) rfl (q_index_vec rfl rfl rfl sl22 rfl g34.1 g34.2) ?_
          refine SOps.q rfl (.plain rfl) rfl (q_field_eptr rfl rfl fd50_0 rfl) ?_
          refine SOps.q rfl (.plain rfl) rfl (q_load_eptr rfl rfl ty3) ?_
          refine SOps.q rfl (.plain rfl) rfl (q_assign rfl rfl) ?_
          refine SOps.sub (st' := ⟨[(1, .c (.vec a1_l.length 1 (gL (cInt .i64) 0 a1_l))), (2, .c (.vec a2_by.length 1 (gL (cInt .i64) 0 a2_by))), (3, .c (.int .i64 a3_source)), (5, .c (.ptr 0 0)), (11, .c (.int .i64 ((if IntKind.wrap .i64 ((a0_n.Arcs.getD (IntKind.wrap .i64 (a2_by.getD v_16.toNat 0 - 1)).toNat dSArc).Cap - a1_l.getD (IntKind.wrap .i64 (a2_by.getD v_16.toNat 0 - 1)).toNat 0) < d_15 then IntKind.wrap .i64 ((a0_n.Arcs.getD (IntKind.wrap .i64 (a2_by.getD v_16.toNat 0 - 1)).toNat dSArc).Cap - a1_l.getD (IntKind.wrap .i64 (a2_by.getD v_16.toNat 0 - 1)).toNat 0) else d_15)))), (12, .c (.int .i64 ((a0_n.Arcs.getD (IntKind.wrap .i64 (a2_by.getD v_16.toNat 0 - 1)).toNat dSArc).From)))], [.box [.int .i64 a0_n.Nodes, .vec a0_n.Arcs.length 3 (gL cSArc dSArc a0_n.Arcs)]]⟩) (sub_gen [0] rfl rfl ⟨zc rfl rfl, zc rfl rfl, zc rfl rfl, zc rfl rfl, zc rfl rfl, zc rfl rfl, trivial⟩ ⟨⟨_, rfl, ⟨ii rfl rfl, ii rfl rfl, trivial⟩⟩, trivial⟩) ?_
          refine SOps.nil ?_
          exact ⟨(n_27, ((if IntKind.wrap .i64 ((a0_n.Arcs.getD (IntKind.wrap .i64 (a2_by.getD v_16.toNat 0 - 1)).toNat dSArc).Cap - a1_l.getD (IntKind.wrap .i64 (a2_by.getD v_16.toNat 0 - 1)).toNat 0) < d_15 then IntKind.wrap .i64 ((a0_n.Arcs.getD (IntKind.wrap .i64 (a2_by.getD v_16.toNat 0 - 1)).toNat dSArc).Cap - a1_l.getD (IntKind.wrap .i64 (a2_by.getD v_16.toNat 0 - 1)).toNat 0) else d_15), (a0_n.Arcs.getD (IntKind.wrap .i64 (a2_by.getD v_16.toNat 0 - 1)).toNat dSArc).From)), h, Nat.lt_succ_self n_27, sub_gen [0] rfl rfl ⟨zc rfl rfl, zc rfl rfl, zc rfl rfl, zc rfl rfl, zc rfl rfl, zc rfl rfl, trivial⟩ ⟨⟨_, rfl, ⟨ii rfl rfl, ii rfl rfl, trivial⟩⟩, trivial⟩⟩
        refine SCode.cond_f rfl g30 ?_
        refine SCode.seq ?_
        obtain ⟨g35, h⟩ := guard_out h
        refine SCode.region (show SOps _ _ _ [0, 1, 2, 3, 4, 5, 6] _ _ from ?_)
        refine SOps.q rfl (.plain rfl) rfl (q_move rfl rfl) ?_
        refine SOps.q rfl (.plain rfl) rfl (q_move rfl rfl) ?_
        refine SOps.q rfl (.plain rfl) rfl (q_index_vec rfl rfl rfl sl30 rfl g35.1 g35.2) ?_
        refine SOps.q rfl (.plain rfl) rfl (q_load_eptr rfl rfl ty3) ?_
        refine SOps.q rfl (.plain rfl) rfl (q_neg rfl rfl) ?_
        refine SOps.q rfl (.plain rfl) rfl (q_sub rfl rfl rfl) ?_
        refine SOps.q rfl (.plain rfl) rfl (q_assign rfl rfl) ?_
        refine SOps.sub (st' := ⟨[(1, .c (.vec a1_l.length 1 (gL (cInt .i64) 0 a1_l))), (2, .c (.vec a2_by.length 1 (gL (cInt .i64) 0 a2_by))), (3, .c (.int .i64 a3_source)), (5, .c (.ptr 0 0)), (11, .c (.int .i64 d_15)), (14, .c (.int .i64 (IntKind.wrap .i64 (IntKind.wrap .i64 (0 - a2_by.getD v_16.toNat 0) - 1))))], [.box [.int .i64 a0_n.Nodes, .vec a0_n.Arcs.length 3 (gL cSArc dSArc a0_n.Arcs)]]⟩) (sub_gen [0] rfl rfl ⟨zc rfl rfl, zc rfl rfl, zc rfl rfl, zc rfl rfl, zc rfl rfl, zc rfl rfl, trivial⟩ ⟨⟨_, rfl, ⟨ii rfl rfl, ii rfl rfl, trivial⟩⟩, trivial⟩) ?_
        refine SOps.nil ?_
        refine SCode.seq ?_
        obtain ⟨g36, h⟩ := guard_out h
        refine SCode.region (show SOps _ _ _ [0, 1, 2, 3, 4, 5, 6] _ _ from ?_)
        refine SOps.q rfl (.plain rfl) rfl (q_move rfl rfl) ?_
        refine SOps.q rfl (.plain rfl) rfl (q_move rfl rfl) ?_
        refine SOps.q rfl (.plain rfl) rfl (q_move rfl rfl) ?_
        refine SOps.q rfl (.plain rfl) rfl (q_index_vec rfl rfl rfl sl30 rfl g36.1 g36.2) ?_
        refine SOps.q rfl (.plain rfl) rfl (q_load_eptr rfl rfl ty3) ?_
        refine SOps.q rfl (.plain rfl) rfl (q_min rfl rfl rfl) ?_
        refine SOps.q rfl (.plain rfl) rfl (q_assign rfl rfl) ?_
        refine SOps.sub (st' := ⟨[(1, .c (.vec a1_l.length 1 (gL (cInt .i64) 0 a1_l))), (2, .c (.vec a2_by.length 1 (gL (cInt .i64) 0 a2_by))), (3, .c (.int .i64 a3_source)), (5, .c (.ptr 0 0)), (11, .c (.int .i64 ((if a1_l.getD (IntKind.wrap .i64 (IntKind.wrap .i64 (0 - a2_by.getD v_16.toNat 0) - 1)).toNat 0 < d_15 then a1_l.getD (IntKind.wrap .i64 (IntKind.wrap .i64 (0 - a2_by.getD v_16.toNat 0) - 1)).toNat 0 else d_15)))), (14, .c (.int .i64 (IntKind.wrap .i64 (IntKind.wrap .i64 (0 - a2_by.getD v_16.toNat 0) - 1))))], [.box [.int .i64 a0_n.Nodes, .vec a0_n.Arcs.length 3 (gL cSArc dSArc a0_n.Arcs)]]⟩) (sub_gen [0] rfl rfl ⟨zc rfl rfl, zc rfl rfl, zc rfl rfl, zc rfl rfl, zc rfl rfl, zc rfl rfl, trivial⟩ ⟨⟨_, rfl, ⟨ii rfl rfl, ii rfl rfl, trivial⟩⟩, trivial⟩) ?_
        refine SOps.nil ?_
        obtain ⟨g37, h⟩ := guard_out h
        refine SCode.region (show SOps _ _ _ [0, 1, 2, 3, 4, 5, 6] _ _ from ?_)
        refine SOps.q rfl (.plain rfl) rfl (q_field_ptr rfl rfl fd24_1) ?_
        refine SOps.q rfl (.plain rfl) rfl (q_load_ptr rfl rfl rfl rfl ty22) ?_
        refine SOps.q rfl (.plain rfl) rfl (q_move rfl rfl) ?_
        refine SOps.q rfl (.plain rfl) rfl (q_index_vec rfl rfl rfl sl22 rfl g37.1 g37.2) ?_
        refine SOps.q rfl (.plain rfl) rfl (q_field_eptr rfl rfl fd50_1 rfl) ?_
        refine SOps.q rfl (.plain rfl) rfl (q_load_eptr rfl rfl ty3) ?_
        refine SOps.q rfl (.plain rfl) rfl (q_assign rfl rfl) ?_
        refine SOps.sub (st' := ⟨[(1, .c (.vec a1_l.length 1 (gL (cInt .i64) 0 a1_l))), (2, .c (.vec a2_by.length 1 (gL (cInt .i64) 0 a2_by))), (3, .c (.int .i64 a3_source)), (5, .c (.ptr 0 0)), (11, .c (.int .i64 ((if a1_l.getD (IntKind.wrap .i64 (IntKind.wrap .i64 (0 - a2_by.getD v_16.toNat 0) - 1)).toNat 0 < d_15 then a1_l.getD (IntKind.wrap .i64 (IntKind.wrap .i64 (0 - a2_by.getD v_16.toNat 0) - 1)).toNat 0 else d_15)))), (12, .c (.int .i64 ((a0_n.Arcs.getD (IntKind.wrap .i64 (IntKind.wrap .i64 (0 - a2_by.getD v_16.toNat 0) - 1)).toNat dSArc).To)))], [.box [.int .i64 a0_n.Nodes, .vec a0_n.Arcs.length 3 (gL cSArc dSArc a0_n.Arcs)]]⟩) (sub_gen [0] rfl rfl ⟨zc rfl rfl, zc rfl rfl, zc rfl rfl, zc rfl rfl, zc rfl rfl, zc rfl rfl, trivial⟩ ⟨⟨_, rfl, ⟨ii rfl rfl, ii rfl rfl, trivial⟩⟩, trivial⟩) ?_
        refine SOps.nil ?_
        exact ⟨(n_27, ((if a1_l.getD (IntKind.wrap .i64 (IntKind.wrap .i64 (0 - a2_by.getD v_16.toNat 0) - 1)).toNat 0 < d_15 then a1_l.getD (IntKind.wrap .i64 (IntKind.wrap .i64 (0 - a2_by.getD v_16.toNat 0) - 1)).toNat 0 else d_15), (a0_n.Arcs.getD (IntKind.wrap .i64 (IntKind.wrap .i64 (0 - a2_by.getD v_16.toNat 0) - 1)).toNat dSArc).To)), h, Nat.lt_succ_self n_27, sub_gen [0] rfl rfl ⟨zc rfl rfl, zc rfl rfl, zc rfl rfl, zc rfl rfl, zc rfl rfl, zc rfl rfl, trivial⟩ ⟨⟨_, rfl, ⟨ii rfl rfl, ii rfl rfl, trivial⟩⟩, trivial⟩⟩
      refine SCode.cond_f rfl g28 ?_
      refine SCode.exit ?_
      exact ⟨d_15, h, sub_gen [] rfl rfl ⟨zc rfl rfl, trivial⟩ trivial⟩
  rintro d_1 h
  show SCode _ _ _ ⟨[(11, .c (.int .i64 d_1))], []⟩ _
  replace h : chargenetref09_spare_p2 d_1 = some r := h
  unfold chargenetref09_spare_p2 at h
  refine SCode.seq ?_
  refine SCode.region (show SOps _ _ _ [0, 1] _ _ from ?_)
  refine SOps.q rfl (.plain rfl) rfl (q_move rfl rfl) ?_
  refine SOps.q rfl (.plain rfl) rfl (q_assign rfl rfl) ?_
  refine SOps.sub (st' := ⟨[(10, .c (.int .i64 d_1))], []⟩) (sub_gen [] rfl rfl ⟨zc rfl rfl, trivial⟩ trivial) ?_
  refine SOps.nil ?_
  refine SCode.ret ?_
  obtain rfl := Option.some.inj h
  exact ⟨⟨[(10, .c (.int .i64 d_1))], []⟩, _, sub_gen [] rfl rfl ⟨zc rfl rfl, trivial⟩ trivial, resA1 (v := .c (.int .i64 d_1)) rfl rfl, rfl⟩
set_option maxRecDepth 100000 in
set_option maxHeartbeats 8000000 in
theorem chargenetref09_push_ok (F : Nat) (a0_n : SNet) (a1_l : List Int) (a2_by : List Int) (a3_source : Int) (a4_sink : Int) (a5_d : Int) (r : List Int) (h : chargenetref09_push F a0_n a1_l a2_by a3_source a4_sink a5_d = some r) :
    SFun Try.prog 32 [.arr 3 1 a1_l.length (gL (cInt .i64) 0 a1_l)] [.a [.int .i64 a0_n.Nodes, .vec a0_n.Arcs.length 3 (gL cSArc dSArc a0_n.Arcs)], .c (.own 0 a1_l.length), .c (.vec a2_by.length 1 (gL (cInt .i64) 0 a2_by)), .c (.int .i64 a3_source), .c (.int .i64 a4_sink), .c (.int .i64 a5_d)] (fun x os => x = .t [] ∧ os = [.arr 3 1 r.length (gL (cInt .i64) 0 r)]) := by
  refine SFun.of (n := 65) Try.func32 rfl rfl rfl ?_
  unfold chargenetref09_push at h
  show SCode _ _ _ ⟨[(0, .a [.int .i64 a0_n.Nodes, .vec a0_n.Arcs.length 3 (gL cSArc dSArc a0_n.Arcs)]), (1, .c (.own 0 a1_l.length)), (2, .c (.vec a2_by.length 1 (gL (cInt .i64) 0 a2_by))), (3, .c (.int .i64 a3_source)), (4, .c (.int .i64 a4_sink)), (5, .c (.int .i64 a5_d))], [.arr 3 1 a1_l.length (gL (cInt .i64) 0 a1_l)]⟩ _
  refine SCode.seq ?_
  refine SCode.region (show SOps _ _ _ [0] _ _ from ?_)
  refine SOps.e rfl (.plain rfl) (e_box rfl rfl rfl rfl rfl rfl) ?_
  refine SOps.sub (st' := ⟨[(1, .c (.own 0 a1_l.length)), (2, .c (.vec a2_by.length 1 (gL (cInt .i64) 0 a2_by))), (3, .c (.int .i64 a3_source)), (4, .c (.int .i64 a4_sink)), (5, .c (.int .i64 a5_d)), (6, .c (.ptr 1 0))], [.arr 3 1 a1_l.length (gL (cInt .i64) 0 a1_l), .box [.int .i64 a0_n.Nodes, .vec a0_n.Arcs.length 3 (gL cSArc dSArc a0_n.Arcs)]]⟩) (sub_gen [0, 1] rfl rfl ⟨zc rfl rfl, zc rfl rfl, zc rfl rfl, zc rfl rfl, zc rfl rfl, zc rfl rfl, trivial⟩ ⟨oa rfl, ⟨_, rfl, ⟨ii rfl rfl, ii rfl rfl, trivial⟩⟩, trivial⟩) ?_
  refine SOps.nil ?_
  refine SCode.seq ?_
  refine SCode.region (show SOps _ _ _ [0, 1] _ _ from ?_)
  refine SOps.q rfl (.plain rfl) rfl (q_move rfl rfl) ?_
  refine SOps.q rfl (.plain rfl) rfl (q_assign rfl rfl) ?_
  refine SOps.sub (st' := ⟨[(1, .c (.own 0 a1_l.length)), (2, .c (.vec a2_by.length 1 (gL (cInt .i64) 0 a2_by))), (3, .c (.int .i64 a3_source)), (5, .c (.int .i64 a5_d)), (6, .c (.ptr 1 0)), (12, .c (.int .i64 a4_sink))], [.arr 3 1 a1_l.length (gL (cInt .i64) 0 a1_l), .box [.int .i64 a0_n.Nodes, .vec a0_n.Arcs.length 3 (gL cSArc dSArc a0_n.Arcs)]]⟩) (sub_gen [0, 1] rfl rfl ⟨zc rfl rfl, zc rfl rfl, zc rfl rfl, zc rfl rfl, zc rfl rfl, zc rfl rfl, trivial⟩ ⟨oa rfl, ⟨_, rfl, ⟨ii rfl rfl, ii rfl rfl, trivial⟩⟩, trivial⟩) ?_
  refine SOps.nil ?_
  refine SCode.block ?_
  refine SCode.sub (st' := ⟨[(1, .c (.own 0 a1_l.length)), (2, .c (.vec a2_by.length 1 (gL (cInt .i64) 0 a2_by))), (3, .c (.int .i64 a3_source)), (5, .c (.int .i64 a5_d)), (6, .c (.ptr 1 0)), (12, .c (.int .i64 a4_sink))], [.arr 3 1 a1_l.length (gL (cInt .i64) 0 a1_l), .box [.int .i64 a0_n.Nodes, .vec a0_n.Arcs.length 3 (gL cSArc dSArc a0_n.Arcs)]]⟩) (sub_gen [0, 1] rfl rfl ⟨zc rfl rfl, zc rfl rfl, zc rfl rfl, zc rfl rfl, zc rfl rfl, zc rfl rfl, trivial⟩ ⟨oa rfl, ⟨_, rfl, ⟨ii rfl rfl, ii rfl rfl, trivial⟩⟩, trivial⟩) ?_
  refine (SCode.loop (σ := Nat × (Int × (List Int))) (S := fun s => ⟨[(1, .c (.own 0 s.2.2.length)), (2, .c (.vec a2_by.length 1 (gL (cInt .i64) 0 a2_by))), (3, .c (.int .i64 a3_source)), (5, .c (.int .i64 a5_d)), (6, .c (.ptr 1 0)), (12, .c (.int .i64 s.2.1))], [.arr 3 1 s.2.2.length (gL (cInt .i64) 0 s.2.2), .box [.int .i64 a0_n.Nodes, .vec a0_n.Arcs.length 3 (gL cSArc dSArc a0_n.Arcs)]]⟩) (g := fun s => chargenetref09_push_l27 a0_n a2_by a3_source a5_d s.1 s.2.1 s.2.2 = some r) (μ := fun s => s.1) (F, (a4_sink, a1_l)) h ?_)
  rintro ⟨n_27, ⟨v_14, o0_15⟩⟩ h
  replace h : chargenetref09_push_l27 a0_n a2_by a3_source a5_d n_27 v_14 o0_15 = some r := h
  show SCode _ _ _ ⟨[(1, .c (.own 0 o0_15.length)), (2, .c (.vec a2_by.length 1 (gL (cInt .i64) 0 a2_by))), (3, .c (.int .i64 a3_source)), (5, .c (.int .i64 a5_d)), (6, .c (.ptr 1 0)), (12, .c (.int .i64 v_14))], [.arr 3 1 o0_15.length (gL (cInt .i64) 0 o0_15), .box [.int .i64 a0_n.Nodes, .vec a0_n.Arcs.length 3 (gL cSArc dSArc a0_n.Arcs)]]⟩ _
  cases n_27 with
  | zero => cases h
  | succ n_27 =>
    replace h : chargenetref09_push_b27 a0_n a2_by a3_source a5_d (fun v_14 o0_15 => chargenetref09_push_l27 a0_n a2_by a3_source a5_d n_27 v_14 o0_15) v_14 o0_15 = some r := h
    unfold chargenetref09_push_b27 at h
    refine SCode.seq ?_
    refine SCode.seq ?_
    refine SCode.region (show SOps _ _ _ [0, 1, 2] _ _ from ?_)
    refine SOps.q rfl (.plain rfl) rfl (q_move rfl rfl) ?_
    refine SOps.q rfl (.plain rfl) rfl (q_move rfl rfl) ?_
    refine SOps.q rfl (.plain rfl) rfl (q_neq rfl rfl rfl) ?_
    refine SOps.sub (st' := ⟨[(1, .c (.own 0 o0_15.length)), (2, .c (.vec a2_by.length 1 (gL (cInt .i64) 0 a2_by))), (3, .c (.int .i64 a3_source)), (5, .c (.int .i64 a5_d)), (6, .c (.ptr 1 0)), (12, .c (.int .i64 v_14)), (18, .c (.bool ((!decide (v_14 = a3_source)))))], [.arr 3 1 o0_15.length (gL (cInt .i64) 0 o0_15), .box [.int .i64 a0_n.Nodes, .vec a0_n.Arcs.length 3 (gL cSArc dSArc a0_n.Arcs)]]⟩) (sub_gen [0, 1] rfl rfl ⟨zc rfl rfl, zc rfl rfl, zc rfl rfl, zc rfl rfl, zc rfl rfl, zc rfl rfl, zc rfl rfl, trivial⟩ ⟨oa rfl, ⟨_, rfl, ⟨ii rfl rfl, ii rfl rfl, trivial⟩⟩, trivial⟩) ?_
    refine SOps.nil ?_
    rcases cond_out h with ⟨g28, h⟩ | ⟨g28, h⟩
    · refine SCode.cond_t rfl g28 ?_
      refine SCode.skip ?_
      refine SCode.block ?_
      refine SCode.seq ?_
      obtain ⟨g29, h⟩ := guard_out h
      refine SCode.region (show SOps _ _ _ [0, 1, 2, 3, 4] _ _ from ?_)
      refine SOps.q rfl (.plain rfl) rfl (q_move rfl rfl) ?_
      refine SOps.q rfl (.plain rfl) rfl (q_move rfl rfl) ?_
      refine SOps.q rfl (.plain rfl) rfl (q_index_vec rfl rfl rfl sl30 rfl g29.1 g29.2) ?_
      refine SOps.q rfl (.plain rfl) rfl (q_load_eptr rfl rfl ty3) ?_
      refine SOps.q rfl (.plain rfl) rfl (q_gtr rfl rfl rfl) ?_
      refine SOps.sub (st' := ⟨[(1, .c (.own 0 o0_15.length)), (2, .c (.vec a2_by.length 1 (gL (cInt .i64) 0 a2_by))), (3, .c (.int .i64 a3_source)), (5, .c (.int .i64 a5_d)), (6, .c (.ptr 1 0)), (12, .c (.int .i64 v_14)), (23, .c (.bool (decide (0 < a2_by.getD v_14.toNat 0))))], [.arr 3 1 o0_15.length (gL (cInt .i64) 0 o0_15), .box [.int .i64 a0_n.Nodes, .vec a0_n.Arcs.length 3 (gL cSArc dSArc a0_n.Arcs)]]⟩) (sub_gen [0, 1] rfl rfl ⟨zc rfl rfl, zc rfl rfl, zc rfl rfl, zc rfl rfl, zc rfl rfl, zc rfl rfl, zc rfl rfl, trivial⟩ ⟨oa rfl, ⟨_, rfl, ⟨ii rfl rfl, ii rfl rfl, trivial⟩⟩, trivial⟩) ?_
      refine SOps.nil ?_
      rcases cond_out h with ⟨g30, h⟩ | ⟨g30, h⟩
      · refine SCode.cond_t rfl g30 ?_
        refine SCode.seq ?_
        obtain ⟨g31, h⟩ := guard_out h
        refine SCode.region (show SOps _ _ _ [0, 1, 2, 3, 4, 5] _ _ from ?_)
        refine SOps.q rfl (.plain rfl) rfl (q_move rfl rfl) ?_
        refine SOps.q rfl (.plain rfl) rfl (q_move rfl rfl) ?_
        refine SOps.q rfl (.plain rfl) rfl (q_index_vec rfl rfl rfl sl30 rfl g31.1 g31.2) ?_
        refine SOps.q rfl (.plain rfl) rfl (q_load_eptr rfl rfl ty3) ?_
        refine SOps.q rfl (.plain rfl) rfl (q_sub rfl rfl rfl) ?_
        refine SOps.q rfl (.plain rfl) rfl (q_assign rfl rfl) ?_
        refine SOps.sub (st' := ⟨[(1, .c (.own 0 o0_15.length)), (2, .c (.vec a2_by.length 1 (gL (cInt .i64) 0 a2_by))), (3, .c (.int .i64 a3_source)), (5, .c (.int .i64 a5_d)), (6, .c (.ptr 1 0)), (13, .c (.int .i64 (IntKind.wrap .i64 (a2_by.getD v_14.toNat 0 - 1))))], [.arr 3 1 o0_15.length (gL (cInt .i64) 0 o0_15), .box [.int .i64 a0_n.Nodes, .vec a0_n.Arcs.length 3 (gL cSArc dSArc a0_n.Arcs)]]⟩) (sub_gen [0, 1] rfl rfl ⟨zc rfl rfl, zc rfl rfl, zc rfl rfl, zc rfl rfl, zc rfl rfl, zc rfl rfl, trivial⟩ ⟨oa rfl, ⟨_, rfl, ⟨ii rfl rfl, ii rfl rfl, trivial⟩⟩, trivial⟩) ?_
        refine SOps.nil ?_
        refine SCode.seq ?_
        obtain ⟨g32, h⟩ := guard_out h
        obtain ⟨g33, h⟩ := guard_out h
        refine SCode.region (show SOps _ _ _ [0, 1, 2, 3, 4, 5, 6, 7, 8, 9] _ _ from ?_)
        refine SOps.q rfl (.plain rfl) rfl (q_move rfl rfl) ?_
        refine SOps.q rfl (.plain rfl) rfl (q_move rfl rfl) ?_
        refine SOps.q rfl (.plain rfl) rfl (q_move rfl rfl) ?_
        refine SOps.q rfl (.plain rfl) rfl (q_move rfl rfl) ?_
        refine SOps.q rfl (.plain rfl) rfl (q_index_own rfl rfl rfl sl30 g32.1 g32.2) ?_
        refine SOps.q rfl (.plain rfl) rfl (q_load_aptr rfl rfl rfl (toNat_lt g32) rfl ty3) ?_
        refine SOps.q rfl (.plain rfl) rfl (q_move rfl rfl) ?_
        refine SOps.q rfl (.plain rfl) rfl (q_add rfl rfl rfl) ?_
        refine SOps.q rfl (.plain rfl) rfl (q_index_own rfl rfl rfl sl30 g33.1 g33.2) ?_
        refine SOps.e rfl (.plain rfl) (e_storeL (IntKind.wrap .i64 (o0_15.getD ((IntKind.wrap .i64 (a2_by.getD v_14.toNat 0 - 1)).toNat) 0 + a5_d)) rfl rfl rfl rfl rfl (toNat_lt g33) ty3 rfl rfl rfl rfl rfl rfl) ?_
        refine SOps.sub (st' := ⟨[(1, .c (.own 0 (o0_15.set ((IntKind.wrap .i64 (a2_by.getD v_14.toNat 0 - 1)).toNat) (IntKind.wrap .i64 (o0_15.getD ((IntKind.wrap .i64 (a2_by.getD v_14.toNat 0 - 1)).toNat) 0 + a5_d))).length)), (2, .c (.vec a2_by.length 1 (gL (cInt .i64) 0 a2_by))), (3, .c (.int .i64 a3_source)), (5, .c (.int .i64 a5_d)), (6, .c (.ptr 1 0)), (13, .c (.int .i64 (IntKind.wrap .i64 (a2_by.getD v_14.toNat 0 - 1))))], [.arr 3 1 (o0_15.set ((IntKind.wrap .i64 (a2_by.getD v_14.toNat 0 - 1)).toNat) (IntKind.wrap .i64 (o0_15.getD ((IntKind.wrap .i64 (a2_by.getD v_14.toNat 0 - 1)).toNat) 0 + a5_d))).length (gL (cInt .i64) 0 (o0_15.set ((IntKind.wrap .i64 (a2_by.getD v_14.toNat 0 - 1)).toNat) (IntKind.wrap .i64 (o0_15.getD ((IntKind.wrap .i64 (a2_by.getD v_14.toNat 0 - 1)).toNat) 0 + a5_d)))), .box [.int .i64 a0_n.Nodes, .vec a0_n.Arcs.length 3 (gL cSArc dSArc a0_n.Arcs)]]⟩) (sub_gen [0, 1] rfl rfl ⟨⟨_, rfl, .inl ⟨rfl, congrArg (Cell.own 0) (List.length_set : (o0_15.set ((IntKind.wrap .i64 (a2_by.getD v_14.toNat 0 - 1)).toNat) (IntKind.wrap .i64 (o0_15.getD ((IntKind.wrap .i64 (a2_by.getD v_14.toNat 0 - 1)).toNat) 0 + a5_d))).length = o0_15.length).symm⟩⟩, zc rfl rfl, zc rfl rfl, zc rfl rfl, zc rfl rfl, zc rfl rfl, trivial⟩ ⟨oa rfl, ⟨_, rfl, ⟨ii rfl rfl, ii rfl rfl, trivial⟩⟩, trivial⟩) ?_
        refine SOps.nil ?_
        obtain ⟨g34, h⟩ := guard_out h
        refine SCode.region (show SOps _ _ _ [0, 1, 2, 3, 4, 5, 6] _ _ from ?_)
        refine SOps.q rfl (.plain rfl) rfl (q_field_ptr rfl rfl fd24_1) ?_
        refine SOps.q rfl (.plain rfl) rfl (q_load_ptr rfl rfl rfl rfl ty22) ?_
        refine SOps.q rfl (.plain rfl) rfl (q_move rfl rfl) ?_
        refine SOps.q rfl (.plain rfl) rfl (q_index_vec rfl rfl rfl sl22 rfl g34.1 g34.2) ?_
        refine SOps.q rfl (.plain rfl) rfl (q_field_eptr rfl rfl fd50_0 rfl) ?_
        refine SOps.q rfl (.plain rfl) rfl (q_load_eptr rfl rfl ty3) ?_
        refine SOps.q rfl (.plain rfl) rfl (q_assign rfl rfl) ?_
        refine SOps.sub (st' := ⟨[(1, .c (.own 0 (o0_15.set ((IntKind.wrap .i64 (a2_by.getD v_14.toNat 0 - 1)).toNat) (IntKind.wrap .i64 (o0_15.getD ((IntKind.wrap .i64 (a2_by.getD v_14.toNat 0 - 1)).toNat) 0 + a5_d))).length)), (2, .c (.vec a2_by.length 1 (gL (cInt .i64) 0 a2_by))), (3, .c (.int .i64 a3_source)), (5, .c (.int .i64 a5_d)), (6, .c (.ptr 1 0)), (12, .c (.int .i64 ((a0_n.Arcs.getD (IntKind.wrap .i64 (a2_by.getD v_14.toNat 0 - 1)).toNat dSArc).From)))], [.arr 3 1 (o0_15.set ((IntKind.wrap .i64 (a2_by.getD v_14.toNat 0 - 1)).toNat) (IntKind.wrap .i64 (o0_15.getD ((IntKind.wrap .i64 (a2_by.getD v_14.toNat 0 - 1)).toNat) 0 + a5_d))).length (gL (cInt .i64) 0 (o0_15.set ((IntKind.wrap .i64 (a2_by.getD v_14.toNat 0 - 1)).toNat) (IntKind.wrap .i64 (o0_15.getD ((IntKind.wrap .i64 (a2_by.getD v_14.toNat 0 - 1)).toNat) 0 + a5_d)))), .box [.int .i64 a0_n.Nodes, .vec a0_n.Arcs.length 3 (gL cSArc dSArc a0_n.Arcs)]]⟩) (sub_gen [0, 1] rfl rfl ⟨zc rfl rfl, zc rfl rfl, zc rfl rfl, zc rfl rfl, zc rfl rfl, zc rfl rfl, trivial⟩ ⟨oa rfl, ⟨_, rfl, ⟨ii rfl rfl, ii rfl rfl, trivial⟩⟩, trivial⟩) ?_
        refine SOps.nil ?_
        exact ⟨(n_27, ((a0_n.Arcs.getD (IntKind.wrap .i64 (a2_by.getD v_14.toNat 0 - 1)).toNat dSArc).From, o0_15.set ((IntKind.wrap .i64 (a2_by.getD v_14.toNat 0 - 1)).toNat) (IntKind.wrap .i64 (o0_15.getD ((IntKind.wrap .i64 (a2_by.getD v_14.toNat 0 - 1)).toNat) 0 + a5_d)))), h, Nat.lt_succ_self n_27, sub_gen [0, 1] rfl rfl ⟨zc rfl rfl, zc rfl rfl, zc rfl rfl, zc rfl rfl, zc rfl rfl, zc rfl rfl, trivial⟩ ⟨oa rfl, ⟨_, rfl, ⟨ii rfl rfl, ii rfl rfl, trivial⟩⟩, trivial⟩⟩
      refine SCode.cond_f rfl g30 ?_
      refine SCode.seq ?_
      obtain ⟨g35, h⟩ := guard_out h
      refine SCode.region (show SOps _ _ _ [0, 1, 2, 3, 4, 5, 6] _ _ from ?_)
      refine SOps.q rfl (.plain rfl) rfl (q_move rfl rfl) ?_
      refine SOps.q rfl (.plain rfl) rfl (q_move rfl rfl) ?_
      refine SOps.q rfl (.plain rfl) rfl (q_index_vec rfl rfl rfl sl30 rfl g35.1 g35.2) ?_
      refine SOps.q rfl (.plain rfl) rfl (q_load_eptr rfl rfl ty3) ?_
      refine SOps.q rfl (.plain rfl) rfl (q_neg rfl rfl) ?_
      refine SOps.q rfl (.plain rfl) rfl (q_sub rfl rfl rfl) ?_
      refine SOps.q rfl (.plain rfl) rfl (q_assign rfl rfl) ?_
      refine SOps.sub (st' := ⟨[(1, .c (.own 0 o0_15.length)), (2, .c (.vec a2_by.length 1 (gL (cInt .i64) 0 a2_by))), (3, .c (.int .i64 a3_source)), (5, .c (.int .i64 a5_d)), (6, .c (.ptr 1 0)), (14, .c (.int .i64 (IntKind.wrap .i64 (IntKind.wrap .i64 (0 - a2_by.getD v_14.toNat 0) - 1))))], [.arr 3 1 o0_15.length (gL (cInt .i64) 0 o0_15), .box [.int .i64 a0_n.Nodes, .vec a0_n.Arcs.length 3 (gL cSArc dSArc a0_n.Arcs)]]⟩) (sub_gen [0, 1] rfl rfl ⟨zc rfl rfl, zc rfl rfl, zc rfl rfl, zc rfl rfl, zc rfl rfl, zc rfl rfl, trivial⟩ ⟨oa rfl, ⟨_, rfl, ⟨ii rfl rfl, ii rfl rfl, trivial⟩⟩, trivial⟩) ?_
      refine SOps.nil ?_
      refine SCode.seq ?_
      obtain ⟨g36, h⟩ := guard_out h
      obtain ⟨g37, h⟩ := guard_out h
      refine SCode.region (show SOps _ _ _ [0, 1, 2, 3, 4, 5, 6, 7, 8, 9] _ _ from ?_)
      refine SOps.q rfl (.plain rfl) rfl (q_move rfl rfl) ?_
      refine SOps.q rfl (.plain rfl) rfl (q_move rfl rfl) ?_
      refine SOps.q rfl (.plain rfl) rfl (q_move rfl rfl) ?_
      refine SOps.q rfl (.plain rfl) rfl (q_move rfl rfl) ?_
      refine SOps.q rfl (.plain rfl) rfl (q_index_own rfl rfl rfl sl30 g36.1 g36.2) ?_
      refine SOps.q rfl (.plain rfl) rfl (q_load_aptr rfl rfl rfl (toNat_lt g36) rfl ty3) ?_
      refine SOps.q rfl (.plain rfl) rfl (q_move rfl rfl) ?_
      refine SOps.q rfl (.plain rfl) rfl (q_sub rfl rfl rfl) ?_
      refine SOps.q rfl (.plain rfl) rfl (q_index_own rfl rfl rfl sl30 g37.1 g37.2) ?_
      refine SOps.e rfl (.plain rfl) (e_storeL (IntKind.wrap .i64 (o0_15.getD ((IntKind.wrap .i64 (IntKind.wrap .i64 (0 - a2_by.getD v_14.toNat 0) - 1)).toNat) 0 - a5_d)) rfl rfl rfl rfl rfl (toNat_lt g37) ty3 rfl rfl rfl rfl rfl rfl) ?_
      refine SOps.sub (st' := ⟨[(1, .c (.own 0 (o0_15.set ((IntKind.wrap .i64 (IntKind.wrap .i64 (0 - a2_by.getD v_14.toNat 0) - 1)).toNat) (IntKind.wrap .i64 (o0_15.getD ((IntKind.wrap .i64 (IntKind.wrap .i64 (0 - a2_by.getD v_14.toNat 0) - 1)).toNat) 0 - a5_d))).length)), (2, .c (.vec a2_by.length 1 (gL (cInt .i64) 0 a2_by))), (3, .c (.int .i64 a3_source)), (5, .c (.int .i64 a5_d)), (6, .c (.ptr 1 0)), (14, .c (.int .i64 (IntKind.wrap .i64 (IntKind.wrap .i64 (0 - a2_by.getD v_14.toNat 0) - 1))))], [.arr 3 1 (o0_15.set ((IntKind.wrap .i64 (IntKind.wrap .i64 (0 - a2_by.getD v_14.toNat 0) - 1)).toNat) (IntKind.wrap .i64 (o0_15.getD ((IntKind.wrap .i64 (IntKind.wrap .i64 (0 - a2_by.getD v_14.toNat 0) - 1)).toNat) 0 - a5_d))).length (gL (cInt .i64) 0 (o0_15.set ((IntKind.wrap .i64 (IntKind.wrap .i64 (0 - a2_by.getD v_14.toNat 0) - 1)).toNat) (IntKind.wrap .i64 (o0_15.getD ((IntKind.wrap .i64 (IntKind.wrap .i64 (0 - a2_by.getD v_14.toNat 0) - 1)).toNat) 0 - a5_d)))), .box [.int .i64 a0_n.Nodes, .vec a0_n.Arcs.length 3 (gL cSArc dSArc a0_n.Arcs)]]⟩) (sub_gen [0, 1] rfl rfl ⟨⟨_, rfl, .inl ⟨rfl, congrArg (Cell.own 0) (List.length_set : (o0_15.set ((IntKind.wrap .i64 (IntKind.wrap .i64 (0 - a2_by.getD v_14.toNat 0) - 1)).toNat) (IntKind.wrap .i64 (o0_15.getD ((IntKind.wrap .i64 (IntKind.wrap .i64 (0 - a2_by.getD v_14.toNat 0) - 1)).toNat) 0 - a5_d))).length = o0_15.length).symm⟩⟩, zc rfl rfl, zc rfl rfl, zc rfl rfl, zc rfl rfl, zc rfl rfl, trivial⟩ ⟨oa rfl, ⟨_, rfl, ⟨ii rfl rfl, ii rfl rfl, trivial⟩⟩, trivial⟩) ?_
      refine SOps.nil ?_
      obtain ⟨g38, h⟩ := guard_out h
      refine SCode.region (show SOps _ _ _ [0, 1, 2, 3, 4, 5, 6] _ _ from ?_)
      refine SOps.q rfl (.plain rfl) rfl (q_field_ptr rfl rfl fd24_1) ?_
      refine SOps.q rfl (.plain rfl) rfl (q_load_ptr rfl rfl rfl rfl ty22) ?_
      refine SOps.q rfl (.plain rfl) rfl (q_move rfl rfl) ?_
      refine SOps.q rfl (.plain rfl) rfl (q_index_vec rfl rfl rfl sl22 rfl g38.1 g38.2) ?_
      refine SOps.q rfl (.plain rfl) rfl (q_field_eptr rfl rfl fd50_1 rfl) ?_
      refine SOps.q rfl (.plain rfl) rfl (q_load_eptr rfl rfl ty3) ?_
      refine SOps.q rfl (.plain rfl) rfl (q_assign rfl rfl) ?_
      refine SOps.sub (st' := ⟨[(1, .c (.own 0 (o0_15.set ((IntKind.wrap .i64 (IntKind.wrap .i64 (0 - a2_by.getD v_14.toNat 0) - 1)).toNat) (IntKind.wrap .i64 (o0_15.getD ((IntKind.wrap .i64 (IntKind.wrap .i64 (0 - a2_by.getD v_14.toNat 0) - 1)).toNat) 0 - a5_d))).length)), (2, .c (.vec a2_by.length 1 (gL (cInt .i64) 0 a2_by))), (3, .c (.int .i64 a3_source)), (5, .c (.int .i64 a5_d)), (6, .c (.ptr 1 0)), (12, .c (.int .i64 ((a0_n.Arcs.getD (IntKind.wrap .i64 (IntKind.wrap .i64 (0 - a2_by.getD v_14.toNat 0) - 1)).toNat dSArc).To)))], [.arr 3 1 (o0_15.set ((IntKind.wrap .i64 (IntKind.wrap .i64 (0 - a2_by.getD v_14.toNat 0) - 1)).toNat) (IntKind.wrap .i64 (o0_15.getD ((IntKind.wrap .i64 (IntKind.wrap .i64 (0 - a2_by.getD v_14.toNat 0) - 1)).toNat) 0 - a5_d))).length (gL (cInt .i64) 0 (o0_15.set ((IntKind.wrap .i64 (IntKind.wrap .i64 (0 - a2_by.getD v_14.toNat 0) - 1)).toNat) (IntKind.wrap .i64 (o0_15.getD ((IntKind.wrap .i64 (IntKind.wrap .i64 (0 - a2_by.getD v_14.toNat 0) - 1)).toNat) 0 - a5_d)))), .box [.int .i64 a0_n.Nodes, .vec a0_n.Arcs.length 3 (gL cSArc dSArc a0_n.Arcs)]]⟩) (sub_gen [0, 1] rfl rfl ⟨zc rfl rfl, zc rfl rfl, zc rfl rfl, zc rfl rfl, zc rfl rfl, zc rfl rfl, trivial⟩ ⟨oa rfl, ⟨_, rfl, ⟨ii rfl rfl, ii rfl rfl, trivial⟩⟩, trivial⟩) ?_
      refine SOps.nil ?_
      exact ⟨(n_27, ((a0_n.Arcs.getD (IntKind.wrap .i64 (IntKind.wrap .i64 (0 - a2_by.getD v_14.toNat 0) - 1)).toNat dSArc).To, o0_15.set ((IntKind.wrap .i64 (IntKind.wrap .i64 (0 - a2_by.getD v_14.toNat 0) - 1)).toNat) (IntKind.wrap .i64 (o0_15.getD ((IntKind.wrap .i64 (IntKind.wrap .i64 (0 - a2_by.getD v_14.toNat 0) - 1)).toNat) 0 - a5_d)))), h, Nat.lt_succ_self n_27, sub_gen [0, 1] rfl rfl ⟨zc rfl rfl, zc rfl rfl, zc rfl rfl, zc rfl rfl, zc rfl rfl, zc rfl rfl, trivial⟩ ⟨oa rfl, ⟨_, rfl, ⟨ii rfl rfl, ii rfl rfl, trivial⟩⟩, trivial⟩⟩
    refine SCode.cond_f rfl g28 ?_
    refine SCode.exit ?_
    obtain rfl := Option.some.inj h
    exact ⟨⟨[], [.arr 3 1 o0_15.length (gL (cInt .i64) 0 o0_15)]⟩, _, sub_gen [0] rfl rfl trivial ⟨oa rfl, trivial⟩, resA0 rfl, ⟨rfl, rfl⟩⟩
set_option maxRecDepth 100000 in
set_option maxHeartbeats 8000000 in
theorem chargenetref09_Max_ok (F : Nat) (a0_n : SNet) (a1_source : Int) (a2_sink : Int) (r : Int × (List Int) × Int) (h : chargenetref09_Max F a0_n a1_source a2_sink = some r) :
    SFun Try.prog 22 [] [.a [.int .i64 a0_n.Nodes, .vec a0_n.Arcs.length 3 (gL cSArc dSArc a0_n.Arcs)], .c (.int .i64 a1_source), .c (.int .i64 a2_sink)] (fun x _ => x = .t [.c (.int .i64 r.1), .c (.vec r.2.1.length 1 (gL (cInt .i64) 0 r.2.1)), .c (.int .i64 r.2.2)]) := by
  refine SFun.of (n := 56) Try.func22 rfl rfl rfl ?_
  unfold chargenetref09_Max at h
  show SCode _ _ _ ⟨[(0, .a [.int .i64 a0_n.Nodes, .vec a0_n.Arcs.length 3 (gL cSArc dSArc a0_n.Arcs)]), (1, .c (.int .i64 a1_source)), (2, .c (.int .i64 a2_sink))], []⟩ _
  refine SCode.seq ?_
  refine SCode.region (show SOps _ _ _ [0, 1, 2, 3] _ _ from ?_)
  refine SOps.e rfl (.plain rfl) (e_box rfl rfl rfl rfl rfl rfl) ?_
  refine SOps.q rfl (.plain rfl) rfl (q_assign rfl rfl) ?_
  refine SOps.q rfl (.plain rfl) rfl (q_assign rfl rfl) ?_
  refine SOps.q rfl (.plain rfl) rfl (q_assign rfl rfl) ?_
  refine SOps.sub (st' := ⟨[(1, .c (.int .i64 a1_source)), (2, .c (.int .i64 a2_sink)), (3, .c (.ptr 0 0))], [.box [.int .i64 a0_n.Nodes, .vec a0_n.Arcs.length 3 (gL cSArc dSArc a0_n.Arcs)]]⟩) (sub_gen [0] rfl rfl ⟨zc rfl rfl, zc rfl rfl, zc rfl rfl, trivial⟩ ⟨⟨_, rfl, ⟨ii rfl rfl, ii rfl rfl, trivial⟩⟩, trivial⟩) ?_
  refine SOps.nil ?_
  refine SCode.seq ?_
  refine SCode.seq ?_
  obtain ⟨c_1, g2, h⟩ := bind_out h
  try dsimp only at h
  refine SCode.region (show SOps _ _ _ [0, 1, 2, 3, 4] _ _ from ?_)
  refine SOps.q rfl (.plain rfl) rfl (q_load_ptr_all rfl rfl rfl rfl rfl ty24) ?_
  refine SOps.q rfl (.plain rfl) rfl (q_move rfl rfl) ?_
  refine SOps.q rfl (.plain rfl) rfl (q_move rfl rfl) ?_
  refine SOps.q rfl (.plain rfl) rfl (q_call (chargenetref09_Ends_ok F a0_n a1_source a2_sink c_1 g2) [] rfl fn16 ⟨⟨rfl, rfl⟩, ⟨_, rfl, .inl ⟨rfl, rfl⟩⟩, ⟨_, rfl, .inl ⟨rfl, rfl⟩⟩, trivial⟩ (.inl rfl)) ?_
  refine SOps.q rfl (.plain rfl) rfl (q_assign rfl rfl) ?_
  refine SOps.sub (st' := ⟨[(1, .c (.int .i64 a1_source)), (2, .c (.int .i64 a2_sink)), (3, .c (.ptr 0 0)), (9, .c (.int .i64 c_1))], [.box [.int .i64 a0_n.Nodes, .vec a0_n.Arcs.length 3 (gL cSArc dSArc a0_n.Arcs)]]⟩) (sub_gen [0] rfl rfl ⟨zc rfl rfl, zc rfl rfl, zc rfl rfl, zc rfl rfl, trivial⟩ ⟨⟨_, rfl, ⟨ii rfl rfl, ii rfl rfl, trivial⟩⟩, trivial⟩) ?_
  refine SOps.nil ?_
  refine SCode.seq ?_
  refine SCode.region (show SOps _ _ _ [0, 1] _ _ from ?_)
  refine SOps.q rfl (.plain rfl) rfl (q_move rfl rfl) ?_
  refine SOps.q rfl (.plain rfl) rfl (q_neq rfl rfl rfl) ?_
  refine SOps.sub (st' := ⟨[(1, .c (.int .i64 a1_source)), (2, .c (.int .i64 a2_sink)), (3, .c (.ptr 0 0)), (9, .c (.int .i64 c_1)), (20, .c (.bool ((!decide (c_1 = 0)))))], [.box [.int .i64 a0_n.Nodes, .vec a0_n.Arcs.length 3 (gL cSArc dSArc a0_n.Arcs)]]⟩) (sub_gen [0] rfl rfl ⟨zc rfl rfl, zc rfl rfl, zc rfl rfl, zc rfl rfl, zc rfl rfl, trivial⟩ ⟨⟨_, rfl, ⟨ii rfl rfl, ii rfl rfl, trivial⟩⟩, trivial⟩) ?_
  refine SOps.nil ?_
  rcases cond_out h with ⟨g3, h⟩ | ⟨g3, h⟩
  · refine SCode.cond_t rfl g3 ?_
    refine SCode.seq ?_
    refine SCode.region (show SOps _ _ _ [0, 1, 2, 3] _ _ from ?_)
    refine SOps.q rfl (.plain rfl) rfl (q_move rfl rfl) ?_
    refine SOps.q rfl (.plain rfl) rfl (q_assign rfl rfl) ?_
    refine SOps.q rfl (.plain rfl) rfl (q_assign rfl rfl) ?_
    refine SOps.q rfl (.plain rfl) rfl (q_assign rfl rfl) ?_
    refine SOps.sub (st' := ⟨[(6, .c (.int .i64 0)), (7, .c (.raw (.slice none 0 0))), (8, .c (.int .i64 c_1))], []⟩) (sub_gen [] rfl rfl ⟨zc rfl rfl, zc rfl rfl, zc rfl rfl, trivial⟩ trivial) ?_
    refine SOps.nil ?_
    refine SCode.ret ?_
    obtain rfl := Option.some.inj h
    exact ⟨⟨[(6, .c (.int .i64 0)), (7, .c (.vec (([] : List Int)).length 1 (gL (cInt .i64) 0 (([] : List Int))))), (8, .c (.int .i64 c_1))], []⟩, _, sub_gen [] rfl rfl ⟨zc rfl rfl, ⟨_, rfl, .inr (.inr (.inr (.inl ⟨_, _, rfl, rfl⟩)))⟩, zc rfl rfl, trivial⟩ trivial, resA3 (v1 := .c (.int .i64 0)) (v2 := .c (.vec (([] : List Int)).length 1 (gL (cInt .i64) 0 (([] : List Int))))) (v3 := .c (.int .i64 c_1)) rfl rfl rfl rfl, rfl⟩
  refine SCode.cond_f rfl g3 ?_
  refine SCode.skip ?_
  refine SCode.seq ?_
  obtain ⟨g4, h⟩ := guard_out h
  refine SCode.region (show SOps _ _ _ [0, 1, 2, 3, 4] _ _ from ?_)
  refine SOps.q rfl (.plain rfl) rfl (q_field_ptr rfl rfl fd24_1) ?_
  refine SOps.q rfl (.plain rfl) rfl (q_load_ptr rfl rfl rfl rfl ty22) ?_
  refine SOps.q rfl (.plain rfl) rfl (q_len_vec rfl rfl sl22) ?_
  refine SOps.e rfl (.plain rfl) (e_makeL (c := (cInt .i64)) (d0 := 0) rfl rfl rfl rfl rfl sl30 z3 rfl rfl rfl g4.1 (Int.le_refl _) g4.2.1 g4.2.2) ?_
  refine SOps.q rfl (.plain rfl) rfl (q_assign rfl rfl) ?_
  refine SOps.sub (st' := ⟨[(1, .c (.int .i64 a1_source)), (2, .c (.int .i64 a2_sink)), (3, .c (.ptr 0 0)), (10, .c (.own 1 (List.replicate (((a0_n.Arcs).length : Int)).toNat (0 : Int)).length))], [.box [.int .i64 a0_n.Nodes, .vec a0_n.Arcs.length 3 (gL cSArc dSArc a0_n.Arcs)], .arr 3 1 (List.replicate (((a0_n.Arcs).length : Int)).toNat (0 : Int)).length (gL (cInt .i64) 0 (List.replicate (((a0_n.Arcs).length : Int)).toNat (0 : Int)))]⟩) (sub_gen [0, 1] rfl rfl ⟨zc rfl rfl, zc rfl rfl, zc rfl rfl, zc rfl rfl, trivial⟩ ⟨⟨_, rfl, ⟨ii rfl rfl, ii rfl rfl, trivial⟩⟩, oa rfl, trivial⟩) ?_
  refine SOps.nil ?_
  refine SCode.seq ?_
  refine SCode.region (show SOps _ _ _ [0] _ _ from ?_)
  refine SOps.q rfl (.plain rfl) rfl (q_assign rfl rfl) ?_
  refine SOps.sub (st' := ⟨[(1, .c (.int .i64 a1_source)), (2, .c (.int .i64 a2_sink)), (3, .c (.ptr 0 0)), (10, .c (.own 1 (List.replicate (((a0_n.Arcs).length : Int)).toNat (0 : Int)).length)), (11, .c (.int .i64 0))], [.box [.int .i64 a0_n.Nodes, .vec a0_n.Arcs.length 3 (gL cSArc dSArc a0_n.Arcs)], .arr 3 1 (List.replicate (((a0_n.Arcs).length : Int)).toNat (0 : Int)).length (gL (cInt .i64) 0 (List.replicate (((a0_n.Arcs).length : Int)).toNat (0 : Int)))]⟩) (sub_gen [0, 1] rfl rfl ⟨zc rfl rfl, zc rfl rfl, zc rfl rfl, zc rfl rfl, zc rfl rfl, trivial⟩ ⟨⟨_, rfl, ⟨ii rfl rfl, ii rfl rfl, trivial⟩⟩, oa rfl, trivial⟩) ?_
  refine SOps.nil ?_
  refine SCode.block ?_
  refine SCode.sub (st' := ⟨[(1, .c (.int .i64 a1_source)), (2, .c (.int .i64 a2_sink)), (3, .c (.ptr 0 0)), (10, .c (.own 1 (List.replicate (((a0_n.Arcs).length : Int)).toNat (0 : Int)).length)), (11, .c (.int .i64 0))], [.box [.int .i64 a0_n.Nodes, .vec a0_n.Arcs.length 3 (gL cSArc dSArc a0_n.Arcs)], .arr 3 1 (List.replicate (((a0_n.Arcs).length : Int)).toNat (0 : Int)).length (gL (cInt .i64) 0 (List.replicate (((a0_n.Arcs).length : Int)).toNat (0 : Int)))]⟩) (sub_gen [0, 1] rfl rfl ⟨zc rfl rfl, zc rfl rfl, zc rfl rfl, zc rfl rfl, zc rfl rfl, trivial⟩ ⟨⟨_, rfl, ⟨ii rfl rfl, ii rfl rfl, trivial⟩⟩, oa rfl, trivial⟩) ?_
  refine (SCode.loop (σ := Nat × (Int × (List Int))) (S := fun s => ⟨[(1, .c (.int .i64 a1_source)), (2, .c (.int .i64 a2_sink)), (3, .c (.ptr 0 0)), (10, .c (.own 1 s.2.2.length)), (11, .c (.int .i64 s.2.1))], [.box [.int .i64 a0_n.Nodes, .vec a0_n.Arcs.length 3 (gL cSArc dSArc a0_n.Arcs)], .arr 3 1 s.2.2.length (gL (cInt .i64) 0 s.2.2)]⟩) (g := fun s => chargenetref09_Max_l25 F a0_n a1_source a2_sink s.1 s.2.1 s.2.2 = some r) (μ := fun s => s.1) (F, (0, List.replicate (((a0_n.Arcs).length : Int)).toNat (0 : Int))) h ?_)
  rintro ⟨n_25, ⟨value_14, o1_15⟩⟩ h
  replace h : chargenetref09_Max_l25 F a0_n a1_source a2_sink n_25 value_14 o1_15 = some r := h
  show SCode _ _ _ ⟨[(1, .c (.int .i64 a1_source)), (2, .c (.int .i64 a2_sink)), (3, .c (.ptr 0 0)), (10, .c (.own 1 o1_15.length)), (11, .c (.int .i64 value_14))], [.box [.int .i64 a0_n.Nodes, .vec a0_n.Arcs.length 3 (gL cSArc dSArc a0_n.Arcs)], .arr 3 1 o1_15.length (gL (cInt .i64) 0 o1_15)]⟩ _
  cases n_25 with
  | zero => cases h
  | succ n_25 =>
    replace h : chargenetref09_Max_b25 F a0_n a1_source a2_sink (fun value_14 o1_15 => chargenetref09_Max_l25 F a0_n a1_source a2_sink n_25 value_14 o1_15) value_14 o1_15 = some r := h
    unfold chargenetref09_Max_b25 at h
    refine SCode.block ?_
    refine SCode.seq ?_
    obtain ⟨c_26, g27, h⟩ := bind_out h
    try dsimp only at h
    refine SCode.region (show SOps _ _ _ [0, 1, 2, 3, 4, 5, 6, 7, 8] _ _ from ?_)
    refine SOps.q rfl (.plain rfl) rfl (q_load_ptr_all rfl rfl rfl rfl rfl ty24) ?_
    refine SOps.q rfl (.plain rfl) rfl (q_move rfl rfl) ?_
    refine SOps.q rfl (.plain rfl) rfl (q_move rfl rfl) ?_
    refine SOps.e rfl (.plain rfl) (e_call (chargenetref09_search_ok F a0_n a1_source o1_15 c_26 g27) [1] rfl fn30 rfl rfl rfl rfl rfl rfl rfl rfl) ?_
    refine SOps.q rfl (.plain rfl) rfl (q_move rfl rfl) ?_
    refine SOps.q rfl (.plain rfl) rfl (q_extract rfl rfl rfl) ?_
    refine SOps.q rfl (.plain rfl) rfl (q_extract rfl rfl rfl) ?_
    refine SOps.q rfl (.plain rfl) rfl (q_assign rfl rfl) ?_
    refine SOps.q rfl (.plain rfl) rfl (q_assign rfl rfl) ?_
    refine SOps.sub (st' := ⟨[(1, .c (.int .i64 a1_source)), (2, .c (.int .i64 a2_sink)), (3, .c (.ptr 0 0)), (10, .c (.own 1 o1_15.length)), (11, .c (.int .i64 value_14)), (12, .c (.vec c_26.1.length 1 (gL (cInt .i64) 0 c_26.1))), (13, .c (.vec c_26.2.length 1 (gL (cInt .i64) 0 c_26.2)))], [.box [.int .i64 a0_n.Nodes, .vec a0_n.Arcs.length 3 (gL cSArc dSArc a0_n.Arcs)], .arr 3 1 o1_15.length (gL (cInt .i64) 0 o1_15)]⟩) (sub_gen [0, 1] rfl rfl ⟨zc rfl rfl, zc rfl rfl, zc rfl rfl, zc rfl rfl, zc rfl rfl, zc rfl rfl, zc rfl rfl, trivial⟩ ⟨⟨_, rfl, ⟨ii rfl rfl, ii rfl rfl, trivial⟩⟩, oa rfl, trivial⟩) ?_
    refine SOps.nil ?_
    refine SCode.seq ?_
    refine SCode.seq ?_
    obtain ⟨g28, h⟩ := guard_out h
    refine SCode.region (show SOps _ _ _ [0, 1, 2, 3, 4] _ _ from ?_)
    refine SOps.q rfl (.plain rfl) rfl (q_move rfl rfl) ?_
    refine SOps.q rfl (.plain rfl) rfl (q_move rfl rfl) ?_
    refine SOps.q rfl (.plain rfl) rfl (q_index_vec rfl rfl rfl sl30 rfl g28.1 g28.2) ?_
    refine SOps.q rfl (.plain rfl) rfl (q_load_eptr rfl rfl ty3) ?_
    refine SOps.q rfl (.plain rfl) rfl (q_eql rfl rfl rfl) ?_
    refine SOps.sub (st' := ⟨[(1, .c (.int .i64 a1_source)), (2, .c (.int .i64 a2_sink)), (3, .c (.ptr 0 0)), (10, .c (.own 1 o1_15.length)), (11, .c (.int .i64 value_14)), (12, .c (.vec c_26.1.length 1 (gL (cInt .i64) 0 c_26.1))), (37, .c (.bool (decide (c_26.2.getD a2_sink.toNat 0 = 0))))], [.box [.int .i64 a0_n.Nodes, .vec a0_n.Arcs.length 3 (gL cSArc dSArc a0_n.Arcs)], .arr 3 1 o1_15.length (gL (cInt .i64) 0 o1_15)]⟩) (sub_gen [0, 1] rfl rfl ⟨zc rfl rfl, zc rfl rfl, zc rfl rfl, zc rfl rfl, zc rfl rfl, zc rfl rfl, zc rfl rfl, trivial⟩ ⟨⟨_, rfl, ⟨ii rfl rfl, ii rfl rfl, trivial⟩⟩, oa rfl, trivial⟩) ?_
    refine SOps.nil ?_
    rcases cond_out h with ⟨g29, h⟩ | ⟨g29, h⟩
    · refine SCode.cond_t rfl g29 ?_
      refine SCode.seq ?_
      refine SCode.region (show SOps _ _ _ [0, 1, 2, 3, 4] _ _ from ?_)
      refine SOps.q rfl (.plain rfl) rfl (q_move rfl rfl) ?_
      refine SOps.q rfl (.plain rfl) rfl (q_move rfl rfl) ?_
      refine SOps.q rfl (.plain rfl) rfl (q_assign rfl rfl) ?_
      refine SOps.q rfl (.plain rfl) rfl (q_assign rfl rfl) ?_
      refine SOps.q rfl (.plain rfl) rfl (q_assign rfl rfl) ?_
      refine SOps.sub (st' := ⟨[(6, .c (.int .i64 value_14)), (7, .c (.own 0 o1_15.length)), (8, .c (.int .i64 0))], [.arr 3 1 o1_15.length (gL (cInt .i64) 0 o1_15)]⟩) (sub_gen [1] rfl rfl ⟨zc rfl rfl, zc rfl rfl, zc rfl rfl, trivial⟩ ⟨oa rfl, trivial⟩) ?_
      refine SOps.nil ?_
      refine SCode.ret ?_
      obtain rfl := Option.some.inj h
      exact ⟨⟨[(6, .c (.int .i64 value_14)), (7, .c (.vec o1_15.length 1 (gL (cInt .i64) 0 o1_15))), (8, .c (.int .i64 0))], []⟩, _, sub_gen [] rfl rfl ⟨zc rfl rfl, ⟨_, rfl, .inr (.inl ⟨_, _, _, _, _, _, _, rfl, rfl, rfl, Nat.le_refl _, fun _ _ _ _ => rfl, by decide⟩)⟩, zc rfl rfl, trivial⟩ trivial, resA3 (v1 := .c (.int .i64 value_14)) (v2 := .c (.vec o1_15.length 1 (gL (cInt .i64) 0 o1_15))) (v3 := .c (.int .i64 0)) rfl rfl rfl rfl, rfl⟩
    refine SCode.cond_f rfl g29 ?_
    refine SCode.skip ?_
    refine SCode.seq ?_
    obtain ⟨c_30, g31, h⟩ := bind_out h
    try dsimp only at h
    refine SCode.region (show SOps _ _ _ [0, 1, 2, 3, 4, 5, 6] _ _ from ?_)
    refine SOps.q rfl (.plain rfl) rfl (q_load_ptr_all rfl rfl rfl rfl rfl ty24) ?_
    refine SOps.q rfl (.plain rfl) rfl (q_move rfl rfl) ?_
    refine SOps.q rfl (.plain rfl) rfl (q_move rfl rfl) ?_
    refine SOps.q rfl (.plain rfl) rfl (q_move rfl rfl) ?_
    refine SOps.q rfl (.plain rfl) rfl (q_move rfl rfl) ?_
    refine SOps.q rfl (.plain rfl) rfl (q_call (chargenetref09_spare_ok F a0_n o1_15 c_26.1 a1_source a2_sink c_30 g31) [1] rfl fn31 ⟨⟨rfl, rfl⟩, ⟨_, rfl, .inr (.inl ⟨_, _, _, _, _, _, _, rfl, rfl, rfl, Nat.le_refl _, fun _ _ _ _ => rfl, by decide⟩)⟩, ⟨_, rfl, .inl ⟨rfl, rfl⟩⟩, ⟨_, rfl, .inl ⟨rfl, rfl⟩⟩, ⟨_, rfl, .inl ⟨rfl, rfl⟩⟩, trivial⟩ (.inr rfl)) ?_
    refine SOps.q rfl (.plain rfl) rfl (q_assign rfl rfl) ?_
    refine SOps.sub (st' := ⟨[(1, .c (.int .i64 a1_source)), (2, .c (.int .i64 a2_sink)), (3, .c (.ptr 0 0)), (10, .c (.own 1 o1_15.length)), (11, .c (.int .i64 value_14)), (12, .c (.vec c_26.1.length 1 (gL (cInt .i64) 0 c_26.1))), (14, .c (.int .i64 c_30))], [.box [.int .i64 a0_n.Nodes, .vec a0_n.Arcs.length 3 (gL cSArc dSArc a0_n.Arcs)], .arr 3 1 o1_15.length (gL (cInt .i64) 0 o1_15)]⟩) (sub_gen [0, 1] rfl rfl ⟨zc rfl rfl, zc rfl rfl, zc rfl rfl, zc rfl rfl, zc rfl rfl, zc rfl rfl, zc rfl rfl, trivial⟩ ⟨⟨_, rfl, ⟨ii rfl rfl, ii rfl rfl, trivial⟩⟩, oa rfl, trivial⟩) ?_
    refine SOps.nil ?_
    refine SCode.seq ?_
    obtain ⟨c_32, g33, h⟩ := bind_out h
    try dsimp only at h
    obtain ⟨g34, h⟩ := guard_out h
    refine SCode.region (show SOps _ _ _ [0, 1, 2, 3, 4, 5, 6] _ _ from ?_)
    refine SOps.q rfl (.plain rfl) rfl (q_load_ptr_all rfl rfl rfl rfl rfl ty24) ?_
    refine SOps.q rfl (.plain rfl) rfl (q_move rfl rfl) ?_
    refine SOps.q rfl (.plain rfl) rfl (q_move rfl rfl) ?_
    refine SOps.q rfl (.plain rfl) rfl (q_move rfl rfl) ?_
    refine SOps.q rfl (.plain rfl) rfl (q_move rfl rfl) ?_
    refine SOps.q rfl (.plain rfl) rfl (q_move rfl rfl) ?_
    refine SOps.e rfl (.plain rfl) (e_call (chargenetref09_push_ok F a0_n o1_15 c_26.1 a1_source a2_sink c_30 c_32 g33) [1] rfl fn32 rfl rfl rfl rfl rfl rfl rfl rfl) ?_
    refine SOps.sub (st' := ⟨[(1, .c (.int .i64 a1_source)), (2, .c (.int .i64 a2_sink)), (3, .c (.ptr 0 0)), (10, .c (.own 1 c_32.length)), (11, .c (.int .i64 value_14)), (14, .c (.int .i64 c_30))], [.box [.int .i64 a0_n.Nodes, .vec a0_n.Arcs.length 3 (gL cSArc dSArc a0_n.Arcs)], .arr 3 1 c_32.length (gL (cInt .i64) 0 c_32)]⟩) (sub_gen [0, 1] rfl rfl ⟨zc rfl rfl, zc rfl rfl, zc rfl rfl, ⟨_, rfl, .inl ⟨rfl, congrArg (Cell.own 1) g34.symm⟩⟩, zc rfl rfl, zc rfl rfl, trivial⟩ ⟨⟨_, rfl, ⟨ii rfl rfl, ii rfl rfl, trivial⟩⟩, oa rfl, trivial⟩) ?_
    refine SOps.nil ?_
    refine SCode.region (show SOps _ _ _ [0, 1, 2, 3] _ _ from ?_)
    refine SOps.q rfl (.plain rfl) rfl (q_move rfl rfl) ?_
    refine SOps.q rfl (.plain rfl) rfl (q_move rfl rfl) ?_
    refine SOps.q rfl (.plain rfl) rfl (q_add rfl rfl rfl) ?_
    refine SOps.q rfl (.plain rfl) rfl (q_assign rfl rfl) ?_
    refine SOps.sub (st' := ⟨[(1, .c (.int .i64 a1_source)), (2, .c (.int .i64 a2_sink)), (3, .c (.ptr 0 0)), (10, .c (.own 1 c_32.length)), (11, .c (.int .i64 (IntKind.wrap .i64 (value_14 + c_30))))], [.box [.int .i64 a0_n.Nodes, .vec a0_n.Arcs.length 3 (gL cSArc dSArc a0_n.Arcs)], .arr 3 1 c_32.length (gL (cInt .i64) 0 c_32)]⟩) (sub_gen [0, 1] rfl rfl ⟨zc rfl rfl, zc rfl rfl, zc rfl rfl, zc rfl rfl, zc rfl rfl, trivial⟩ ⟨⟨_, rfl, ⟨ii rfl rfl, ii rfl rfl, trivial⟩⟩, oa rfl, trivial⟩) ?_
    refine SOps.nil ?_
    exact ⟨(n_25, (IntKind.wrap .i64 (value_14 + c_30), c_32)), h, Nat.lt_succ_self n_25, sub_gen [0, 1] rfl rfl ⟨zc rfl rfl, zc rfl rfl, zc rfl rfl, zc rfl rfl, zc rfl rfl, trivial⟩ ⟨⟨_, rfl, ⟨ii rfl rfl, ii rfl rfl, trivial⟩⟩, oa rfl, trivial⟩⟩
set_option maxRecDepth 100000 in
set_option maxHeartbeats 8000000 in
theorem chargenetlaw09_FlowSolves_ok (F : Nat) (a0_n : SNet) (a1_source : Int) (a2_sink : Int) (r : Bool) (h : chargenetlaw09_FlowSolves F a0_n a1_source a2_sink = some r) :
    SFun Try.prog 6 [] [.a [.int .i64 a0_n.Nodes, .vec a0_n.Arcs.length 3 (gL cSArc dSArc a0_n.Arcs)], .c (.int .i64 a1_source), .c (.int .i64 a2_sink)] (fun x _ => x = .c (.bool r)) := by
  refine SFun.of (n := 71) Try.func6 rfl rfl rfl ?_
  unfold chargenetlaw09_FlowSolves at h
  show SCode _ _ _ ⟨[(0, .a [.int .i64 a0_n.Nodes, .vec a0_n.Arcs.length 3 (gL cSArc dSArc a0_n.Arcs)]), (1, .c (.int .i64 a1_source)), (2, .c (.int .i64 a2_sink))], []⟩ _
  refine SCode.seq ?_
  refine SCode.region (show SOps _ _ _ [0, 1] _ _ from ?_)
  refine SOps.e rfl (.plain rfl) (e_box rfl rfl rfl rfl rfl rfl) ?_
  refine SOps.q rfl (.plain rfl) rfl (q_assign rfl rfl) ?_
  refine SOps.sub (st' := ⟨[(1, .c (.int .i64 a1_source)), (2, .c (.int .i64 a2_sink)), (3, .c (.ptr 0 0))], [.box [.int .i64 a0_n.Nodes, .vec a0_n.Arcs.length 3 (gL cSArc dSArc a0_n.Arcs)]]⟩) (sub_gen [0] rfl rfl ⟨zc rfl rfl, zc rfl rfl, zc rfl rfl, trivial⟩ ⟨⟨_, rfl, ⟨ii rfl rfl, ii rfl rfl, trivial⟩⟩, trivial⟩) ?_
  refine SOps.nil ?_
  refine SCode.seq ?_
  refine SCode.seq ?_
  obtain ⟨c_1, g2, h⟩ := bind_out h
  try dsimp only at h
  rcases cond_out h with ⟨g3, h⟩ | ⟨g3, h⟩
  · refine SCode.region (show SOps _ _ _ [0, 1, 2, 3, 4, 5, 6, 7, 8, 9] _ _ from ?_)
    refine SOps.q rfl (.plain rfl) rfl (q_load_ptr_all rfl rfl rfl rfl rfl ty24) ?_
    refine SOps.q rfl (.plain rfl) rfl (q_call (chargenetref09_Small_ok F a0_n 10 20 c_1 g2) [] rfl fn14 ⟨⟨rfl, rfl⟩, ⟨_, rfl, .inl ⟨rfl, rfl⟩⟩, ⟨_, rfl, .inl ⟨rfl, rfl⟩⟩, trivial⟩ (.inl rfl)) ?_
    refine SOps.q rfl (.plain rfl) rfl (q_not rfl rfl) ?_
    refine SOps.q rfl (.plain rfl) rfl (q_move rfl rfl) ?_
    refine SOps.skip rfl 3 18 false rfl rfl (.inl (gT g3)) rfl ?_
    refine SOps.skip rfl 3 18 false rfl rfl (.inl (gT g3)) rfl ?_
    refine SOps.skip rfl 3 18 false rfl rfl (.inl (gT g3)) rfl ?_
    refine SOps.skip rfl 3 18 false rfl rfl (.inl (gT g3)) rfl ?_
    refine SOps.skip rfl 3 18 false rfl rfl (.inl (gT g3)) rfl ?_
    refine SOps.q rfl (.plain rfl) rfl (q_pick_t rfl rfl g3 rfl) ?_
    refine SOps.sub (st' := ⟨[(1, .c (.int .i64 a1_source)), (2, .c (.int .i64 a2_sink)), (3, .c (.ptr 0 0)), (24, .c (.bool true))], [.box [.int .i64 a0_n.Nodes, .vec a0_n.Arcs.length 3 (gL cSArc dSArc a0_n.Arcs)]]⟩) (sub_gen [0] rfl rfl ⟨zc rfl rfl, zc rfl rfl, zc rfl rfl, zc rfl rfl, trivial⟩ ⟨⟨_, rfl, ⟨ii rfl rfl, ii rfl rfl, trivial⟩⟩, trivial⟩) ?_
    refine SOps.nil ?_
    refine SCode.cond_t rfl rfl ?_
    refine SCode.seq ?_
    obtain ⟨c_4, g5, h⟩ := bind_out h
    try dsimp only at h
    refine SCode.region (show SOps _ _ _ [0, 1] _ _ from ?_)
    refine SOps.q rfl (.plain rfl) rfl (q_call (chargenetlaw09_awake_ok F  c_4 g5) [] rfl fn11 trivial (.inl rfl)) ?_
    refine SOps.q rfl (.plain rfl) rfl (q_assign rfl rfl) ?_
    refine SOps.sub (st' := ⟨[(6, .c (.bool c_4))], []⟩) (sub_gen [] rfl rfl ⟨zc rfl rfl, trivial⟩ trivial) ?_
    refine SOps.nil ?_
    refine SCode.ret ?_
    obtain rfl := Option.some.inj h
    exact ⟨⟨[(6, .c (.bool c_4))], []⟩, _, sub_gen [] rfl rfl ⟨zc rfl rfl, trivial⟩ trivial, resA1 (v := .c (.bool c_4)) rfl rfl, rfl⟩
  obtain ⟨c_6, g7, h⟩ := bind_out h
  try dsimp only at h
  refine SCode.region (show SOps _ _ _ [0, 1, 2, 3, 4, 5, 6, 7, 8, 9] _ _ from ?_)
  refine SOps.q rfl (.plain rfl) rfl (q_load_ptr_all rfl rfl rfl rfl rfl ty24) ?_
  refine SOps.q rfl (.plain rfl) rfl (q_call (chargenetref09_Small_ok F a0_n 10 20 c_1 g2) [] rfl fn14 ⟨⟨rfl, rfl⟩, ⟨_, rfl, .inl ⟨rfl, rfl⟩⟩, ⟨_, rfl, .inl ⟨rfl, rfl⟩⟩, trivial⟩ (.inl rfl)) ?_
  refine SOps.q rfl (.plain rfl) rfl (q_not rfl rfl) ?_
  refine SOps.q rfl (.plain rfl) rfl (q_move rfl rfl) ?_
  refine SOps.q rfl (.guard 3 18 false rfl rfl (gF g3)) rfl (q_load_ptr_all rfl rfl rfl rfl rfl ty24) ?_
  refine SOps.q rfl (.guard 3 18 false rfl rfl (gF g3)) rfl (q_move rfl rfl) ?_
  refine SOps.q rfl (.guard 3 18 false rfl rfl (gF g3)) rfl (q_move rfl rfl) ?_
  refine SOps.q rfl (.guard 3 18 false rfl rfl (gF g3)) rfl (q_call (chargenetref09_Ends_ok F a0_n a1_source a2_sink c_6 g7) [] rfl fn16 ⟨⟨rfl, rfl⟩, ⟨_, rfl, .inl ⟨rfl, rfl⟩⟩, ⟨_, rfl, .inl ⟨rfl, rfl⟩⟩, trivial⟩ (.inl rfl)) ?_
  refine SOps.q rfl (.guard 3 18 false rfl rfl (gF g3)) rfl (q_neq rfl rfl rfl) ?_
  refine SOps.q rfl (.plain rfl) rfl (q_pick_f rfl rfl g3 rfl) ?_
  refine SOps.sub (st' := ⟨[(1, .c (.int .i64 a1_source)), (2, .c (.int .i64 a2_sink)), (3, .c (.ptr 0 0)), (24, .c (.bool ((!decide (c_6 = 0)))))], [.box [.int .i64 a0_n.Nodes, .vec a0_n.Arcs.length 3 (gL cSArc dSArc a0_n.Arcs)]]⟩) (sub_gen [0] rfl rfl ⟨zc rfl rfl, zc rfl rfl, zc rfl rfl, zc rfl rfl, trivial⟩ ⟨⟨_, rfl, ⟨ii rfl rfl, ii rfl rfl, trivial⟩⟩, trivial⟩) ?_
  refine SOps.nil ?_
  rcases cond_out h with ⟨g8, h⟩ | ⟨g8, h⟩
  · refine SCode.cond_t rfl g8 ?_
    refine SCode.seq ?_
    obtain ⟨c_9, g10, h⟩ := bind_out h
    try dsimp only at h
    refine SCode.region (show SOps _ _ _ [0, 1] _ _ from ?_)
    refine SOps.q rfl (.plain rfl) rfl (q_call (chargenetlaw09_awake_ok F  c_9 g10) [] rfl fn11 trivial (.inl rfl)) ?_
    refine SOps.q rfl (.plain rfl) rfl (q_assign rfl rfl) ?_
    refine SOps.sub (st' := ⟨[(6, .c (.bool c_9))], []⟩) (sub_gen [] rfl rfl ⟨zc rfl rfl, trivial⟩ trivial) ?_
    refine SOps.nil ?_
    refine SCode.ret ?_
    obtain rfl := Option.some.inj h
    exact ⟨⟨[(6, .c (.bool c_9))], []⟩, _, sub_gen [] rfl rfl ⟨zc rfl rfl, trivial⟩ trivial, resA1 (v := .c (.bool c_9)) rfl rfl, rfl⟩
  refine SCode.cond_f rfl g8 ?_
  refine SCode.skip ?_
  refine SCode.seq ?_
  obtain ⟨c_11, g12, h⟩ := bind_out h
  try dsimp only at h
  refine SCode.region (show SOps _ _ _ [0, 1, 2, 3, 4, 5, 6, 7, 8, 9, 10] _ _ from ?_)
  refine SOps.q rfl (.plain rfl) rfl (q_load_ptr_all rfl rfl rfl rfl rfl ty24) ?_
  refine SOps.q rfl (.plain rfl) rfl (q_move rfl rfl) ?_
  refine SOps.q rfl (.plain rfl) rfl (q_move rfl rfl) ?_
  refine SOps.q rfl (.plain rfl) rfl (q_call (chargenetref09_Max_ok F a0_n a1_source a2_sink c_11 g12) [] rfl fn22 ⟨⟨rfl, rfl⟩, ⟨_, rfl, .inl ⟨rfl, rfl⟩⟩, ⟨_, rfl, .inl ⟨rfl, rfl⟩⟩, trivial⟩ (.inl rfl)) ?_
  refine SOps.q rfl (.plain rfl) rfl (q_move rfl rfl) ?_
  refine SOps.q rfl (.plain rfl) rfl (q_extract rfl rfl rfl) ?_
  refine SOps.q rfl (.plain rfl) rfl (q_extract rfl rfl rfl) ?_
  refine SOps.q rfl (.plain rfl) rfl (q_extract rfl rfl rfl) ?_
  refine SOps.q rfl (.plain rfl) rfl (q_assign rfl rfl) ?_
  refine SOps.q rfl (.plain rfl) rfl (q_assign rfl rfl) ?_
  refine SOps.q rfl (.plain rfl) rfl (q_assign rfl rfl) ?_
  refine SOps.sub (st' := ⟨[(1, .c (.int .i64 a1_source)), (2, .c (.int .i64 a2_sink)), (3, .c (.ptr 0 0)), (7, .c (.int .i64 c_11.1)), (8, .c (.vec c_11.2.1.length 1 (gL (cInt .i64) 0 c_11.2.1)))], [.box [.int .i64 a0_n.Nodes, .vec a0_n.Arcs.length 3 (gL cSArc dSArc a0_n.Arcs)]]⟩) (sub_gen [0] rfl rfl ⟨zc rfl rfl, zc rfl rfl, zc rfl rfl, zc rfl rfl, zc rfl rfl, trivial⟩ ⟨⟨_, rfl, ⟨ii rfl rfl, ii rfl rfl, trivial⟩⟩, trivial⟩) ?_
  refine SOps.nil ?_
  refine SCode.seq ?_
  obtain ⟨c_13, g14, h⟩ := bind_out h
  try dsimp only at h
  refine SCode.region (show SOps _ _ _ [0, 1, 2, 3, 4, 5, 6, 7, 8, 9, 10] _ _ from ?_)
  refine SOps.q rfl (.plain rfl) rfl (q_load_ptr_all rfl rfl rfl rfl rfl ty24) ?_
  refine SOps.q rfl (.plain rfl) rfl (q_move rfl rfl) ?_
  refine SOps.q rfl (.plain rfl) rfl (q_move rfl rfl) ?_
  refine SOps.q rfl (.plain rfl) rfl (q_call (flow_Max_ok F a0_n a1_source a2_sink c_13 g14) [] rfl fn15 ⟨⟨rfl, rfl⟩, ⟨_, rfl, .inl ⟨rfl, rfl⟩⟩, ⟨_, rfl, .inl ⟨rfl, rfl⟩⟩, trivial⟩ (.inl rfl)) ?_
  refine SOps.q rfl (.plain rfl) rfl (q_move rfl rfl) ?_
  refine SOps.q rfl (.plain rfl) rfl (q_extract rfl rfl rfl) ?_
  refine SOps.q rfl (.plain rfl) rfl (q_extract rfl rfl rfl) ?_
  refine SOps.q rfl (.plain rfl) rfl (q_extract rfl rfl rfl) ?_
  refine SOps.q rfl (.plain rfl) rfl (q_assign rfl rfl) ?_
  refine SOps.q rfl (.plain rfl) rfl (q_assign rfl rfl) ?_
  refine SOps.q rfl (.plain rfl) rfl (q_assign rfl rfl) ?_
  refine SOps.sub (st' := ⟨[(1, .c (.int .i64 a1_source)), (2, .c (.int .i64 a2_sink)), (3, .c (.ptr 0 0)), (7, .c (.int .i64 c_11.1)), (8, .c (.vec c_11.2.1.length 1 (gL (cInt .i64) 0 c_11.2.1))), (10, .c (.int .i64 c_13.1)), (12, .c (.int .i64 c_13.2.2))], [.box [.int .i64 a0_n.Nodes, .vec a0_n.Arcs.length 3 (gL cSArc dSArc a0_n.Arcs)]]⟩) (sub_gen [0] rfl rfl ⟨zc rfl rfl, zc rfl rfl, zc rfl rfl, zc rfl rfl, zc rfl rfl, zc rfl rfl, zc rfl rfl, trivial⟩ ⟨⟨_, rfl, ⟨ii rfl rfl, ii rfl rfl, trivial⟩⟩, trivial⟩) ?_
  refine SOps.nil ?_
  refine SCode.seq ?_
  obtain ⟨c_15, g16, h⟩ := bind_out h
  try dsimp only at h
  refine SCode.region (show SOps _ _ _ [0, 1, 2, 3, 4, 5, 6, 7, 8] _ _ from ?_)
  refine SOps.q rfl (.plain rfl) rfl (q_load_ptr_all rfl rfl rfl rfl rfl ty24) ?_
  refine SOps.q rfl (.plain rfl) rfl (q_move rfl rfl) ?_
  refine SOps.q rfl (.plain rfl) rfl (q_move rfl rfl) ?_
  refine SOps.q rfl (.plain rfl) rfl (q_call (flow_Cut_ok F a0_n a1_source a2_sink c_15 g16) [] rfl fn18 ⟨⟨rfl, rfl⟩, ⟨_, rfl, .inl ⟨rfl, rfl⟩⟩, ⟨_, rfl, .inl ⟨rfl, rfl⟩⟩, trivial⟩ (.inl rfl)) ?_
  refine SOps.q rfl (.plain rfl) rfl (q_move rfl rfl) ?_
  refine SOps.q rfl (.plain rfl) rfl (q_extract rfl rfl rfl) ?_
  refine SOps.q rfl (.plain rfl) rfl (q_extract rfl rfl rfl) ?_
  refine SOps.q rfl (.plain rfl) rfl (q_assign rfl rfl) ?_
  refine SOps.q rfl (.plain rfl) rfl (q_assign rfl rfl) ?_
  refine SOps.sub (st' := ⟨[(1, .c (.int .i64 a1_source)), (3, .c (.ptr 0 0)), (7, .c (.int .i64 c_11.1)), (8, .c (.vec c_11.2.1.length 1 (gL (cInt .i64) 0 c_11.2.1))), (10, .c (.int .i64 c_13.1)), (12, .c (.int .i64 c_13.2.2)), (13, .c (.vec c_15.1.length 1 (gL cBool false c_15.1))), (14, .c (.int .i64 c_15.2))], [.box [.int .i64 a0_n.Nodes, .vec a0_n.Arcs.length 3 (gL cSArc dSArc a0_n.Arcs)]]⟩) (sub_gen [0] rfl rfl ⟨zc rfl rfl, zc rfl rfl, zc rfl rfl, zc rfl rfl, zc rfl rfl, zc rfl rfl, zc rfl rfl, zc rfl rfl, trivial⟩ ⟨⟨_, rfl, ⟨ii rfl rfl, ii rfl rfl, trivial⟩⟩, trivial⟩) ?_
  refine SOps.nil ?_
  refine SCode.seq ?_
  rcases cond_out h with ⟨g17, h⟩ | ⟨g17, h⟩
  · rcases cond_out h with ⟨g18, h⟩ | ⟨g18, h⟩
    · obtain ⟨c_19, g20, h⟩ := bind_out h
      try dsimp only at h
      obtain ⟨c_21, g22, h⟩ := bind_out h
      try dsimp only at h
      rcases cond_out h with ⟨g23, h⟩ | ⟨g23, h⟩
      · rcases cond_out h with ⟨g24, h⟩ | ⟨g24, h⟩
        · obtain ⟨c_25, g26, h⟩ := bind_out h
          try dsimp only at h
          refine SCode.region (show SOps _ _ _ [0, 1, 2, 3, 4, 5, 6, 7, 8, 9, 10, 11, 12, 13, 14, 15, 16, 17, 18, 19, 20, 21, 22] _ _ from ?_)
          refine SOps.q rfl (.plain rfl) rfl (q_move rfl rfl) ?_
          refine SOps.q rfl (.plain rfl) rfl (q_move rfl rfl) ?_
          refine SOps.q rfl (.plain rfl) rfl (q_eql rfl rfl rfl) ?_
          refine SOps.q rfl (.plain rfl) rfl (q_move rfl rfl) ?_
          refine SOps.q rfl (.guard 3 52 true rfl rfl (gT g17)) rfl (q_move rfl rfl) ?_
          refine SOps.q rfl (.guard 3 52 true rfl rfl (gT g17)) rfl (q_eql rfl rfl rfl) ?_
          refine SOps.q rfl (.plain rfl) rfl (q_pick_t rfl rfl g17 rfl) ?_
          refine SOps.q rfl (.plain rfl) rfl (q_move rfl rfl) ?_
          refine SOps.q rfl (.guard 7 56 true rfl rfl (gT g18)) rfl (q_move rfl rfl) ?_
          refine SOps.q rfl (.guard 7 56 true rfl rfl (gT g18)) rfl (q_load_ptr_all rfl rfl rfl rfl rfl ty24) ?_
          refine SOps.q rfl (.guard 7 56 true rfl rfl (gT g18)) rfl (q_move rfl rfl) ?_
          refine SOps.q rfl (.guard 7 56 true rfl rfl (gT g18)) rfl (q_move rfl rfl) ?_
          refine SOps.q rfl (.guard 7 56 true rfl rfl (gT g18)) rfl (q_call (chargenetref09_Reach_ok F a0_n a1_source c_11.2.1 c_19 g20) [] rfl fn20 ⟨⟨rfl, rfl⟩, ⟨_, rfl, .inl ⟨rfl, rfl⟩⟩, ⟨_, rfl, .inl ⟨rfl, rfl⟩⟩, trivial⟩ (.inl rfl)) ?_
          refine SOps.q rfl (.guard 7 56 true rfl rfl (gT g18)) rfl (q_call (chargenetref09_Same_ok F c_15.1 c_19 c_21 g22) [] rfl fn19 ⟨⟨_, rfl, .inl ⟨rfl, rfl⟩⟩, ⟨_, rfl, .inl ⟨rfl, rfl⟩⟩, trivial⟩ (.inl rfl)) ?_
          refine SOps.q rfl (.plain rfl) rfl (q_pick_t rfl rfl g18 rfl) ?_
          refine SOps.q rfl (.plain rfl) rfl (q_move rfl rfl) ?_
          refine SOps.q rfl (.guard 15 64 true rfl rfl (gT g23)) rfl (q_move rfl rfl) ?_
          refine SOps.q rfl (.guard 15 64 true rfl rfl (gT g23)) rfl (q_eql rfl rfl rfl) ?_
          refine SOps.q rfl (.plain rfl) rfl (q_pick_t rfl rfl g23 rfl) ?_
          refine SOps.q rfl (.plain rfl) rfl (q_move rfl rfl) ?_
          refine SOps.q rfl (.guard 19 68 true rfl rfl (gT g24)) rfl (q_call (chargenetlaw09_awake_ok F  c_25 g26) [] rfl fn11 trivial (.inl rfl)) ?_
          refine SOps.q rfl (.plain rfl) rfl (q_pick_t rfl rfl g24 rfl) ?_
          refine SOps.q rfl (.plain rfl) rfl (q_assign rfl rfl) ?_
          refine SOps.sub (st' := ⟨[(6, .c (.bool c_25))], []⟩) (sub_gen [] rfl rfl ⟨zc rfl rfl, trivial⟩ trivial) ?_
          refine SOps.nil ?_
          refine SCode.ret ?_
          obtain rfl := Option.some.inj h
          exact ⟨⟨[(6, .c (.bool c_25))], []⟩, _, sub_gen [] rfl rfl ⟨zc rfl rfl, trivial⟩ trivial, resA1 (v := .c (.bool c_25)) rfl rfl, rfl⟩
        refine SCode.region (show SOps _ _ _ [0, 1, 2, 3, 4, 5, 6, 7, 8, 9, 10, 11, 12, 13, 14, 15, 16, 17, 18, 19, 20, 21, 22] _ _ from ?_)
        refine SOps.q rfl (.plain rfl) rfl (q_move rfl rfl) ?_
        refine SOps.q rfl (.plain rfl) rfl (q_move rfl rfl) ?_
        refine SOps.q rfl (.plain rfl) rfl (q_eql rfl rfl rfl) ?_
        refine SOps.q rfl (.plain rfl) rfl (q_move rfl rfl) ?_
        refine SOps.q rfl (.guard 3 52 true rfl rfl (gT g17)) rfl (q_move rfl rfl) ?_
        refine SOps.q rfl (.guard 3 52 true rfl rfl (gT g17)) rfl (q_eql rfl rfl rfl) ?_
        refine SOps.q rfl (.plain rfl) rfl (q_pick_t rfl rfl g17 rfl) ?_
        refine SOps.q rfl (.plain rfl) rfl (q_move rfl rfl) ?_
        refine SOps.q rfl (.guard 7 56 true rfl rfl (gT g18)) rfl (q_move rfl rfl) ?_
        refine SOps.q rfl (.guard 7 56 true rfl rfl (gT g18)) rfl (q_load_ptr_all rfl rfl rfl rfl rfl ty24) ?_
        refine SOps.q rfl (.guard 7 56 true rfl rfl (gT g18)) rfl (q_move rfl rfl) ?_
        refine SOps.q rfl (.guard 7 56 true rfl rfl (gT g18)) rfl (q_move rfl rfl) ?_
        refine SOps.q rfl (.guard 7 56 true rfl rfl (gT g18)) rfl (q_call (chargenetref09_Reach_ok F a0_n a1_source c_11.2.1 c_19 g20) [] rfl fn20 ⟨⟨rfl, rfl⟩, ⟨_, rfl, .inl ⟨rfl, rfl⟩⟩, ⟨_, rfl, .inl ⟨rfl, rfl⟩⟩, trivial⟩ (.inl rfl)) ?_
        refine SOps.q rfl (.guard 7 56 true rfl rfl (gT g18)) rfl (q_call (chargenetref09_Same_ok F c_15.1 c_19 c_21 g22) [] rfl fn19 ⟨⟨_, rfl, .inl ⟨rfl, rfl⟩⟩, ⟨_, rfl, .inl ⟨rfl, rfl⟩⟩, trivial⟩ (.inl rfl)) ?_
        refine SOps.q rfl (.plain rfl) rfl (q_pick_t rfl rfl g18 rfl) ?_
        refine SOps.q rfl (.plain rfl) rfl (q_move rfl rfl) ?_
        refine SOps.q rfl (.guard 15 64 true rfl rfl (gT g23)) rfl (q_move rfl rfl) ?_
        refine SOps.q rfl (.guard 15 64 true rfl rfl (gT g23)) rfl (q_eql rfl rfl rfl) ?_
        refine SOps.q rfl (.plain rfl) rfl (q_pick_t rfl rfl g23 rfl) ?_
        refine SOps.q rfl (.plain rfl) rfl (q_move rfl rfl) ?_
        refine SOps.skip rfl 19 68 true rfl rfl (.inl (gF g24)) rfl ?_
        refine SOps.q rfl (.plain rfl) rfl (q_pick_f rfl rfl g24 rfl) ?_
        refine SOps.q rfl (.plain rfl) rfl (q_assign rfl rfl) ?_
        refine SOps.sub (st' := ⟨[(6, .c (.bool false))], []⟩) (sub_gen [] rfl rfl ⟨zc rfl rfl, trivial⟩ trivial) ?_
        refine SOps.nil ?_
        refine SCode.ret ?_
        obtain rfl := Option.some.inj h
        exact ⟨⟨[(6, .c (.bool false))], []⟩, _, sub_gen [] rfl rfl ⟨zc rfl rfl, trivial⟩ trivial, resA1 (v := .c (.bool false)) rfl rfl, rfl⟩
      refine SCode.region (show SOps _ _ _ [0, 1, 2, 3, 4, 5, 6, 7, 8, 9, 10, 11, 12, 13, 14, 15, 16, 17, 18, 19, 20, 21, 22] _ _ from ?_)
      refine SOps.q rfl (.plain rfl) rfl (q_move rfl rfl) ?_
      refine SOps.q rfl (.plain rfl) rfl (q_move rfl rfl) ?_
      refine SOps.q rfl (.plain rfl) rfl (q_eql rfl rfl rfl) ?_
      refine SOps.q rfl (.plain rfl) rfl (q_move rfl rfl) ?_
      refine SOps.q rfl (.guard 3 52 true rfl rfl (gT g17)) rfl (q_move rfl rfl) ?_
      refine SOps.q rfl (.guard 3 52 true rfl rfl (gT g17)) rfl (q_eql rfl rfl rfl) ?_
      refine SOps.q rfl (.plain rfl) rfl (q_pick_t rfl rfl g17 rfl) ?_
      refine SOps.q rfl (.plain rfl) rfl (q_move rfl rfl) ?_
      refine SOps.q rfl (.guard 7 56 true rfl rfl (gT g18)) rfl (q_move rfl rfl) ?_
      refine SOps.q rfl (.guard 7 56 true rfl rfl (gT g18)) rfl (q_load_ptr_all rfl rfl rfl rfl rfl ty24) ?_
      refine SOps.q rfl (.guard 7 56 true rfl rfl (gT g18)) rfl (q_move rfl rfl) ?_
      refine SOps.q rfl (.guard 7 56 true rfl rfl (gT g18)) rfl (q_move rfl rfl) ?_
      refine SOps.q rfl (.guard 7 56 true rfl rfl (gT g18)) rfl (q_call (chargenetref09_Reach_ok F a0_n a1_source c_11.2.1 c_19 g20) [] rfl fn20 ⟨⟨rfl, rfl⟩, ⟨_, rfl, .inl ⟨rfl, rfl⟩⟩, ⟨_, rfl, .inl ⟨rfl, rfl⟩⟩, trivial⟩ (.inl rfl)) ?_
      refine SOps.q rfl (.guard 7 56 true rfl rfl (gT g18)) rfl (q_call (chargenetref09_Same_ok F c_15.1 c_19 c_21 g22) [] rfl fn19 ⟨⟨_, rfl, .inl ⟨rfl, rfl⟩⟩, ⟨_, rfl, .inl ⟨rfl, rfl⟩⟩, trivial⟩ (.inl rfl)) ?_
      refine SOps.q rfl (.plain rfl) rfl (q_pick_t rfl rfl g18 rfl) ?_
      refine SOps.q rfl (.plain rfl) rfl (q_move rfl rfl) ?_
      refine SOps.skip rfl 15 64 true rfl rfl (.inl (gF g23)) rfl ?_
      refine SOps.skip rfl 15 64 true rfl rfl (.inl (gF g23)) rfl ?_
      refine SOps.q rfl (.plain rfl) rfl (q_pick_f rfl rfl g23 rfl) ?_
      refine SOps.q rfl (.plain rfl) rfl (q_move rfl rfl) ?_
      refine SOps.skip rfl 19 68 true rfl rfl (.inl rfl) rfl ?_
      refine SOps.q rfl (.plain rfl) rfl (q_pick_f rfl rfl rfl rfl) ?_
      refine SOps.q rfl (.plain rfl) rfl (q_assign rfl rfl) ?_
      refine SOps.sub (st' := ⟨[(6, .c (.bool false))], []⟩) (sub_gen [] rfl rfl ⟨zc rfl rfl, trivial⟩ trivial) ?_
      refine SOps.nil ?_
      refine SCode.ret ?_
      obtain rfl := Option.some.inj h
      exact ⟨⟨[(6, .c (.bool false))], []⟩, _, sub_gen [] rfl rfl ⟨zc rfl rfl, trivial⟩ trivial, resA1 (v := .c (.bool false)) rfl rfl, rfl⟩
    refine SCode.region (show SOps _ _ _ [0, 1, 2, 3, 4, 5, 6, 7, 8, 9, 10, 11, 12, 13, 14, 15, 16, 17, 18, 19, 20, 21, 22] _ _ from ?_)
    refine SOps.q rfl (.plain rfl) rfl (q_move rfl rfl) ?_
    refine SOps.q rfl (.plain rfl) rfl (q_move rfl rfl) ?_
    refine SOps.q rfl (.plain rfl) rfl (q_eql rfl rfl rfl) ?_
    refine SOps.q rfl (.plain rfl) rfl (q_move rfl rfl) ?_
    refine SOps.q rfl (.guard 3 52 true rfl rfl (gT g17)) rfl (q_move rfl rfl) ?_
    refine SOps.q rfl (.guard 3 52 true rfl rfl (gT g17)) rfl (q_eql rfl rfl rfl) ?_
    refine SOps.q rfl (.plain rfl) rfl (q_pick_t rfl rfl g17 rfl) ?_
    refine SOps.q rfl (.plain rfl) rfl (q_move rfl rfl) ?_
    refine SOps.skip rfl 7 56 true rfl rfl (.inl (gF g18)) rfl ?_
    refine SOps.skip rfl 7 56 true rfl rfl (.inl (gF g18)) rfl ?_
    refine SOps.skip rfl 7 56 true rfl rfl (.inl (gF g18)) rfl ?_
    refine SOps.skip rfl 7 56 true rfl rfl (.inl (gF g18)) rfl ?_
    refine SOps.skip rfl 7 56 true rfl rfl (.inl (gF g18)) rfl ?_
    refine SOps.skip rfl 7 56 true rfl rfl (.inl (gF g18)) rfl ?_
    refine SOps.q rfl (.plain rfl) rfl (q_pick_f rfl rfl g18 rfl) ?_
    refine SOps.q rfl (.plain rfl) rfl (q_move rfl rfl) ?_
    refine SOps.skip rfl 15 64 true rfl rfl (.inl rfl) rfl ?_
    refine SOps.skip rfl 15 64 true rfl rfl (.inl rfl) rfl ?_
    refine SOps.q rfl (.plain rfl) rfl (q_pick_f rfl rfl rfl rfl) ?_
    refine SOps.q rfl (.plain rfl) rfl (q_move rfl rfl) ?_
    refine SOps.skip rfl 19 68 true rfl rfl (.inl rfl) rfl ?_
    refine SOps.q rfl (.plain rfl) rfl (q_pick_f rfl rfl rfl rfl) ?_
    refine SOps.q rfl (.plain rfl) rfl (q_assign rfl rfl) ?_
    refine SOps.sub (st' := ⟨[(6, .c (.bool false))], []⟩) (sub_gen [] rfl rfl ⟨zc rfl rfl, trivial⟩ trivial) ?_
    refine SOps.nil ?_
    refine SCode.ret ?_
    obtain rfl := Option.some.inj h
    exact ⟨⟨[(6, .c (.bool false))], []⟩, _, sub_gen [] rfl rfl ⟨zc rfl rfl, trivial⟩ trivial, resA1 (v := .c (.bool false)) rfl rfl, rfl⟩
  refine SCode.region (show SOps _ _ _ [0, 1, 2, 3, 4, 5, 6, 7, 8, 9, 10, 11, 12, 13, 14, 15, 16, 17, 18, 19, 20, 21, 22] _ _ from ?_)
  refine SOps.q rfl (.plain rfl) rfl (q_move rfl rfl) ?_
  refine SOps.q rfl (.plain rfl) rfl (q_move rfl rfl) ?_
  refine SOps.q rfl (.plain rfl) rfl (q_eql rfl rfl rfl) ?_
  refine SOps.q rfl (.plain rfl) rfl (q_move rfl rfl) ?_
  refine SOps.skip rfl 3 52 true rfl rfl (.inl (gF g17)) rfl ?_
  refine SOps.skip rfl 3 52 true rfl rfl (.inl (gF g17)) rfl ?_
  refine SOps.q rfl (.plain rfl) rfl (q_pick_f rfl rfl g17 rfl) ?_
  refine SOps.q rfl (.plain rfl) rfl (q_move rfl rfl) ?_
  refine SOps.skip rfl 7 56 true rfl rfl (.inl rfl) rfl ?_
  refine SOps.skip rfl 7 56 true rfl rfl (.inl rfl) rfl ?_
  refine SOps.skip rfl 7 56 true rfl rfl (.inl rfl) rfl ?_
  refine SOps.skip rfl 7 56 true rfl rfl (.inl rfl) rfl ?_
  refine SOps.skip rfl 7 56 true rfl rfl (.inl rfl) rfl ?_
  refine SOps.skip rfl 7 56 true rfl rfl (.inl rfl) rfl ?_
  refine SOps.q rfl (.plain rfl) rfl (q_pick_f rfl rfl rfl rfl) ?_
  refine SOps.q rfl (.plain rfl) rfl (q_move rfl rfl) ?_
  refine SOps.skip rfl 15 64 true rfl rfl (.inl rfl) rfl ?_
  refine SOps.skip rfl 15 64 true rfl rfl (.inl rfl) rfl ?_
  refine SOps.q rfl (.plain rfl) rfl (q_pick_f rfl rfl rfl rfl) ?_
  refine SOps.q rfl (.plain rfl) rfl (q_move rfl rfl) ?_
  refine SOps.skip rfl 19 68 true rfl rfl (.inl rfl) rfl ?_
  refine SOps.q rfl (.plain rfl) rfl (q_pick_f rfl rfl rfl rfl) ?_
  refine SOps.q rfl (.plain rfl) rfl (q_assign rfl rfl) ?_
  refine SOps.sub (st' := ⟨[(6, .c (.bool false))], []⟩) (sub_gen [] rfl rfl ⟨zc rfl rfl, trivial⟩ trivial) ?_
  refine SOps.nil ?_
  refine SCode.ret ?_
  obtain rfl := Option.some.inj h
  exact ⟨⟨[(6, .c (.bool false))], []⟩, _, sub_gen [] rfl rfl ⟨zc rfl rfl, trivial⟩ trivial, resA1 (v := .c (.bool false)) rfl rfl, rfl⟩
end Go.Proofs.Ytbepoingholchaa.W
