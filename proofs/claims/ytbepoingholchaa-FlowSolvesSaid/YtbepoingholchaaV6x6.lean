/- Written by a program of ours (wip/eng/gen.py): the functions compute their models. -/
import Derived.Test.YtbepoingholchaaFacts
import Derived.Test.YtbepoingholchaaV6x5
namespace Go.Proofs.Ytbepoingholchaa.W
open Go Go.Proofs Go.Proofs.Ytbepoingholchaa.E Go.Proofs.Ytbepoingholchaa.M
set_option linter.unusedVariables false
set_option maxRecDepth 100000 in
set_option maxHeartbeats 8000000 in
theorem chargenetref09_Reach_ok (F : Nat) (a0_n : SNet) (a1_source : Int) (a2_l : List Int) (r : List Bool) (h : chargenetref09_Reach F a0_n a1_source a2_l = some r) :
    SFun Try.prog 20 [] [.a [.int .i64 a0_n.Nodes, .vec a0_n.Arcs.length 3 (gL cSArc dSArc a0_n.Arcs)], .c (.int .i64 a1_source), .c (.vec a2_l.length 1 (gL (cInt .i64) 0 a2_l))] (fun x _ => x = .c (.vec r.length 1 (gL cBool false r))) := by
  refine SFun.of (n := 89) Try.func20 rfl rfl rfl ?_
  unfold chargenetref09_Reach at h
  show SCode _ _ _ ⟨[(0, .a [.int .i64 a0_n.Nodes, .vec a0_n.Arcs.length 3 (gL cSArc dSArc a0_n.Arcs)]), (1, .c (.int .i64 a1_source)), (2, .c (.vec a2_l.length 1 (gL (cInt .i64) 0 a2_l)))], []⟩ _
  refine SCode.seq ?_
  refine SCode.region (show SOps _ _ _ [0, 1] _ _ from ?_)
  refine SOps.e rfl (.plain rfl) (e_box rfl rfl rfl rfl rfl rfl) ?_
  refine SOps.q rfl (.plain rfl) rfl (q_assign rfl rfl) ?_
  refine SOps.sub (st' := ⟨[(1, .c (.int .i64 a1_source)), (2, .c (.vec a2_l.length 1 (gL (cInt .i64) 0 a2_l))), (3, .c (.ptr 0 0))], [.box [.int .i64 a0_n.Nodes, .vec a0_n.Arcs.length 3 (gL cSArc dSArc a0_n.Arcs)]]⟩) (sub_gen [0] rfl rfl ⟨zc rfl rfl, zc rfl rfl, zc rfl rfl, trivial⟩ ⟨⟨_, rfl, ⟨ii rfl rfl, ii rfl rfl, trivial⟩⟩, trivial⟩) ?_
  refine SOps.nil ?_
  refine SCode.seq ?_
  obtain ⟨g1, h⟩ := guard_out h
  refine SCode.region (show SOps _ _ _ [0, 1, 2, 3] _ _ from ?_)
  refine SOps.q rfl (.plain rfl) rfl (q_field_ptr rfl rfl fd24_0) ?_
  refine SOps.q rfl (.plain rfl) rfl (q_load_ptr rfl rfl rfl rfl ty3) ?_
  refine SOps.e rfl (.plain rfl) (e_makeL (c := cBool) (d0 := false) rfl rfl rfl rfl rfl sl35 z4 rfl rfl rfl g1.1 (Int.le_refl _) g1.2.1 g1.2.2) ?_
  refine SOps.q rfl (.plain rfl) rfl (q_assign rfl rfl) ?_
  refine SOps.sub (st' := ⟨[(1, .c (.int .i64 a1_source)), (2, .c (.vec a2_l.length 1 (gL (cInt .i64) 0 a2_l))), (3, .c (.ptr 0 0)), (7, .c (.own 1 (List.replicate a0_n.Nodes.toNat (false : Bool)).length))], [.box [.int .i64 a0_n.Nodes, .vec a0_n.Arcs.length 3 (gL cSArc dSArc a0_n.Arcs)], .arr 4 1 (List.replicate a0_n.Nodes.toNat (false : Bool)).length (gL cBool false (List.replicate a0_n.Nodes.toNat (false : Bool)))]⟩) (sub_gen [0, 1] rfl rfl ⟨zc rfl rfl, zc rfl rfl, zc rfl rfl, zc rfl rfl, trivial⟩ ⟨⟨_, rfl, ⟨ii rfl rfl, ii rfl rfl, trivial⟩⟩, oa rfl, trivial⟩) ?_
  refine SOps.nil ?_
  refine SCode.seq ?_
  obtain ⟨g2, h⟩ := guard_out h
  refine SCode.region (show SOps _ _ _ [0, 1, 2, 3] _ _ from ?_)
  refine SOps.q rfl (.plain rfl) rfl (q_move rfl rfl) ?_
  refine SOps.q rfl (.plain rfl) rfl (q_move rfl rfl) ?_
  refine SOps.q rfl (.plain rfl) rfl (q_index_own rfl rfl rfl sl35 g2.1 g2.2) ?_
  refine SOps.e rfl (.plain rfl) (e_storeL true rfl rfl rfl rfl rfl (toNat_lt g2) ty4 rfl rfl rfl rfl rfl rfl) ?_
  refine SOps.sub (st' := ⟨[(2, .c (.vec a2_l.length 1 (gL (cInt .i64) 0 a2_l))), (3, .c (.ptr 0 0)), (7, .c (.own 1 ((List.replicate a0_n.Nodes.toNat (false : Bool)).set a1_source.toNat true).length))], [.box [.int .i64 a0_n.Nodes, .vec a0_n.Arcs.length 3 (gL cSArc dSArc a0_n.Arcs)], .arr 4 1 ((List.replicate a0_n.Nodes.toNat (false : Bool)).set a1_source.toNat true).length (gL cBool false ((List.replicate a0_n.Nodes.toNat (false : Bool)).set a1_source.toNat true))]⟩) (sub_gen [0, 1] rfl rfl ⟨zc rfl rfl, zc rfl rfl, ⟨_, rfl, .inl ⟨rfl, congrArg (Cell.own 1) (List.length_set : ((List.replicate a0_n.Nodes.toNat (false : Bool)).set a1_source.toNat true).length = (List.replicate a0_n.Nodes.toNat (false : Bool)).length).symm⟩⟩, trivial⟩ ⟨⟨_, rfl, ⟨ii rfl rfl, ii rfl rfl, trivial⟩⟩, oa rfl, trivial⟩) ?_
  refine SOps.nil ?_
  refine SCode.join (σ := (List Bool)) (S := fun s => ⟨[(7, .c (.own 0 s.length))], [.arr 4 1 s.length (gL cBool false s)]⟩) (g := fun s => chargenetref09_Reach_p4 s = some r) ?_ ?_
  rotate_left
  · refine SCode.seq ?_
    refine SCode.region (show SOps _ _ _ [0] _ _ from ?_)
    refine SOps.q rfl (.plain rfl) rfl (q_assign rfl rfl) ?_
    refine SOps.sub (st' := ⟨[(2, .c (.vec a2_l.length 1 (gL (cInt .i64) 0 a2_l))), (3, .c (.ptr 0 0)), (7, .c (.own 1 ((List.replicate a0_n.Nodes.toNat (false : Bool)).set a1_source.toNat true).length)), (8, .c (.int .i64 0))], [.box [.int .i64 a0_n.Nodes, .vec a0_n.Arcs.length 3 (gL cSArc dSArc a0_n.Arcs)], .arr 4 1 ((List.replicate a0_n.Nodes.toNat (false : Bool)).set a1_source.toNat true).length (gL cBool false ((List.replicate a0_n.Nodes.toNat (false : Bool)).set a1_source.toNat true))]⟩) (sub_gen [0, 1] rfl rfl ⟨zc rfl rfl, zc rfl rfl, zc rfl rfl, zc rfl rfl, trivial⟩ ⟨⟨_, rfl, ⟨ii rfl rfl, ii rfl rfl, trivial⟩⟩, oa rfl, trivial⟩) ?_
    refine SOps.nil ?_
    refine SCode.block ?_
    refine SCode.sub (st' := ⟨[(2, .c (.vec a2_l.length 1 (gL (cInt .i64) 0 a2_l))), (3, .c (.ptr 0 0)), (7, .c (.own 1 ((List.replicate a0_n.Nodes.toNat (false : Bool)).set a1_source.toNat true).length)), (8, .c (.int .i64 0))], [.box [.int .i64 a0_n.Nodes, .vec a0_n.Arcs.length 3 (gL cSArc dSArc a0_n.Arcs)], .arr 4 1 ((List.replicate a0_n.Nodes.toNat (false : Bool)).set a1_source.toNat true).length (gL cBool false ((List.replicate a0_n.Nodes.toNat (false : Bool)).set a1_source.toNat true))]⟩) (sub_gen [0, 1] rfl rfl ⟨zc rfl rfl, zc rfl rfl, zc rfl rfl, zc rfl rfl, trivial⟩ ⟨⟨_, rfl, ⟨ii rfl rfl, ii rfl rfl, trivial⟩⟩, oa rfl, trivial⟩) ?_
    refine (SCode.loop (σ := Nat × (Int × (List Bool))) (S := fun s => ⟨[(2, .c (.vec a2_l.length 1 (gL (cInt .i64) 0 a2_l))), (3, .c (.ptr 0 0)), (7, .c (.own 1 s.2.2.length)), (8, .c (.int .i64 s.2.1))], [.box [.int .i64 a0_n.Nodes, .vec a0_n.Arcs.length 3 (gL cSArc dSArc a0_n.Arcs)], .arr 4 1 s.2.2.length (gL cBool false s.2.2)]⟩) (g := fun s => chargenetref09_Reach_l161 F a0_n a2_l s.1 s.2.1 s.2.2 = some r) (μ := fun s => s.1) (F, (0, (List.replicate a0_n.Nodes.toNat (false : Bool)).set a1_source.toNat true)) h ?_)
    rintro ⟨n_161, ⟨round_82, o1_83⟩⟩ h
    replace h : chargenetref09_Reach_l161 F a0_n a2_l n_161 round_82 o1_83 = some r := h
    show SCode _ _ _ ⟨[(2, .c (.vec a2_l.length 1 (gL (cInt .i64) 0 a2_l))), (3, .c (.ptr 0 0)), (7, .c (.own 1 o1_83.length)), (8, .c (.int .i64 round_82))], [.box [.int .i64 a0_n.Nodes, .vec a0_n.Arcs.length 3 (gL cSArc dSArc a0_n.Arcs)], .arr 4 1 o1_83.length (gL cBool false o1_83)]⟩ _
    cases n_161 with
    | zero => cases h
    | succ n_161 =>
      replace h : chargenetref09_Reach_b161 F a0_n a2_l (fun round_82 o1_83 => chargenetref09_Reach_l161 F a0_n a2_l n_161 round_82 o1_83) round_82 o1_83 = some r := h
      unfold chargenetref09_Reach_b161 at h
      refine SCode.seq ?_
      refine SCode.seq ?_
      refine SCode.region (show SOps _ _ _ [0, 1, 2, 3] _ _ from ?_)
      refine SOps.q rfl (.plain rfl) rfl (q_move rfl rfl) ?_
      refine SOps.q rfl (.plain rfl) rfl (q_field_ptr rfl rfl fd24_0) ?_
      refine SOps.q rfl (.plain rfl) rfl (q_load_ptr rfl rfl rfl rfl ty3) ?_
      refine SOps.q rfl (.plain rfl) rfl (q_lss rfl rfl rfl) ?_
      refine SOps.sub (st' := ⟨[(2, .c (.vec a2_l.length 1 (gL (cInt .i64) 0 a2_l))), (3, .c (.ptr 0 0)), (7, .c (.own 1 o1_83.length)), (8, .c (.int .i64 round_82)), (21, .c (.bool (decide (round_82 < a0_n.Nodes))))], [.box [.int .i64 a0_n.Nodes, .vec a0_n.Arcs.length 3 (gL cSArc dSArc a0_n.Arcs)], .arr 4 1 o1_83.length (gL cBool false o1_83)]⟩) (sub_gen [0, 1] rfl rfl ⟨zc rfl rfl, zc rfl rfl, zc rfl rfl, zc rfl rfl, zc rfl rfl, trivial⟩ ⟨⟨_, rfl, ⟨ii rfl rfl, ii rfl rfl, trivial⟩⟩, oa rfl, trivial⟩) ?_
      refine SOps.nil ?_
      rcases cond_out h with ⟨g162, h⟩ | ⟨g162, h⟩
      · refine SCode.cond_t rfl g162 ?_
        refine SCode.skip ?_
        refine SCode.join (σ := (List Bool)) (S := fun s => ⟨[(2, .c (.vec a2_l.length 1 (gL (cInt .i64) 0 a2_l))), (3, .c (.ptr 0 0)), (7, .c (.own 1 s.length)), (8, .c (.int .i64 round_82))], [.box [.int .i64 a0_n.Nodes, .vec a0_n.Arcs.length 3 (gL cSArc dSArc a0_n.Arcs)], .arr 4 1 s.length (gL cBool false s)]⟩) (g := fun s => chargenetref09_Reach_p164 round_82 (fun round_82 o1_83 => chargenetref09_Reach_l161 F a0_n a2_l n_161 round_82 o1_83) s = some r) ?_ ?_
        rotate_left
        · refine SCode.block ?_
          refine SCode.seq ?_
          refine SCode.region (show SOps _ _ _ [0] _ _ from ?_)
          refine SOps.q rfl (.plain rfl) rfl (q_assign rfl rfl) ?_
          refine SOps.sub (st' := ⟨[(2, .c (.vec a2_l.length 1 (gL (cInt .i64) 0 a2_l))), (3, .c (.ptr 0 0)), (7, .c (.own 1 o1_83.length)), (8, .c (.int .i64 round_82)), (9, .c (.bool true))], [.box [.int .i64 a0_n.Nodes, .vec a0_n.Arcs.length 3 (gL cSArc dSArc a0_n.Arcs)], .arr 4 1 o1_83.length (gL cBool false o1_83)]⟩) (sub_gen [0, 1] rfl rfl ⟨zc rfl rfl, zc rfl rfl, zc rfl rfl, zc rfl rfl, zc rfl rfl, trivial⟩ ⟨⟨_, rfl, ⟨ii rfl rfl, ii rfl rfl, trivial⟩⟩, oa rfl, trivial⟩) ?_
          refine SOps.nil ?_
          refine SCode.join (σ := Bool × (List Bool)) (S := fun s => ⟨[(2, .c (.vec a2_l.length 1 (gL (cInt .i64) 0 a2_l))), (3, .c (.ptr 0 0)), (7, .c (.own 1 s.2.length)), (8, .c (.int .i64 round_82)), (9, .c (.bool s.1))], [.box [.int .i64 a0_n.Nodes, .vec a0_n.Arcs.length 3 (gL cSArc dSArc a0_n.Arcs)], .arr 4 1 s.2.length (gL cBool false s.2)]⟩) (g := fun s => chargenetref09_Reach_p168 round_82 (fun round_82 o1_83 => chargenetref09_Reach_l161 F a0_n a2_l n_161 round_82 o1_83) s.1 s.2 = some r) ?_ ?_
          rotate_left
          · refine SCode.seq ?_
            refine SCode.region (show SOps _ _ _ [0] _ _ from ?_)
            refine SOps.q rfl (.plain rfl) rfl (q_assign rfl rfl) ?_
            refine SOps.sub (st' := ⟨[(2, .c (.vec a2_l.length 1 (gL (cInt .i64) 0 a2_l))), (3, .c (.ptr 0 0)), (7, .c (.own 1 o1_83.length)), (8, .c (.int .i64 round_82)), (9, .c (.bool true)), (10, .c (.int .i64 0))], [.box [.int .i64 a0_n.Nodes, .vec a0_n.Arcs.length 3 (gL cSArc dSArc a0_n.Arcs)], .arr 4 1 o1_83.length (gL cBool false o1_83)]⟩) (sub_gen [0, 1] rfl rfl ⟨zc rfl rfl, zc rfl rfl, zc rfl rfl, zc rfl rfl, zc rfl rfl, zc rfl rfl, trivial⟩ ⟨⟨_, rfl, ⟨ii rfl rfl, ii rfl rfl, trivial⟩⟩, oa rfl, trivial⟩) ?_
            refine SOps.nil ?_
            refine SCode.block ?_
            refine SCode.sub (st' := ⟨[(2, .c (.vec a2_l.length 1 (gL (cInt .i64) 0 a2_l))), (3, .c (.ptr 0 0)), (7, .c (.own 1 o1_83.length)), (8, .c (.int .i64 round_82)), (9, .c (.bool true)), (10, .c (.int .i64 0))], [.box [.int .i64 a0_n.Nodes, .vec a0_n.Arcs.length 3 (gL cSArc dSArc a0_n.Arcs)], .arr 4 1 o1_83.length (gL cBool false o1_83)]⟩) (sub_gen [0, 1] rfl rfl ⟨zc rfl rfl, zc rfl rfl, zc rfl rfl, zc rfl rfl, zc rfl rfl, zc rfl rfl, trivial⟩ ⟨⟨_, rfl, ⟨ii rfl rfl, ii rfl rfl, trivial⟩⟩, oa rfl, trivial⟩) ?_
            refine (SCode.loop (σ := Nat × (Bool × Int × (List Bool))) (S := fun s => ⟨[(2, .c (.vec a2_l.length 1 (gL (cInt .i64) 0 a2_l))), (3, .c (.ptr 0 0)), (7, .c (.own 1 s.2.2.2.length)), (8, .c (.int .i64 round_82)), (9, .c (.bool s.2.1)), (10, .c (.int .i64 s.2.2.1))], [.box [.int .i64 a0_n.Nodes, .vec a0_n.Arcs.length 3 (gL cSArc dSArc a0_n.Arcs)], .arr 4 1 s.2.2.2.length (gL cBool false s.2.2.2)]⟩) (g := fun s => chargenetref09_Reach_l216 a0_n a2_l round_82 (fun round_82 o1_83 => chargenetref09_Reach_l161 F a0_n a2_l n_161 round_82 o1_83) s.1 s.2.1 s.2.2.1 s.2.2.2 = some r) (μ := fun s => s.1) (F, (true, 0, o1_83)) h ?_)
            rintro ⟨n_216, ⟨done_191, i_192, o1_193⟩⟩ h
            replace h : chargenetref09_Reach_l216 a0_n a2_l round_82 (fun round_82 o1_83 => chargenetref09_Reach_l161 F a0_n a2_l n_161 round_82 o1_83) n_216 done_191 i_192 o1_193 = some r := h
            show SCode _ _ _ ⟨[(2, .c (.vec a2_l.length 1 (gL (cInt .i64) 0 a2_l))), (3, .c (.ptr 0 0)), (7, .c (.own 1 o1_193.length)), (8, .c (.int .i64 round_82)), (9, .c (.bool done_191)), (10, .c (.int .i64 i_192))], [.box [.int .i64 a0_n.Nodes, .vec a0_n.Arcs.length 3 (gL cSArc dSArc a0_n.Arcs)], .arr 4 1 o1_193.length (gL cBool false o1_193)]⟩ _
            cases n_216 with
            | zero => cases h
            | succ n_216 =>
              replace h : chargenetref09_Reach_b216 a0_n a2_l round_82 (fun round_82 o1_83 => chargenetref09_Reach_l161 F a0_n a2_l n_161 round_82 o1_83) (fun done_191 i_192 o1_193 => chargenetref09_Reach_l216 a0_n a2_l round_82 (fun round_82 o1_83 => chargenetref09_Reach_l161 F a0_n a2_l n_161 round_82 o1_83) n_216 done_191 i_192 o1_193) done_191 i_192 o1_193 = some r := h
              unfold chargenetref09_Reach_b216 at h
              refine SCode.seq ?_
              refine SCode.seq ?_
              refine SCode.region (show SOps _ _ _ [0, 1, 2, 3, 4] _ _ from ?_)
              refine SOps.q rfl (.plain rfl) rfl (q_move rfl rfl) ?_
              refine SOps.q rfl (.plain rfl) rfl (q_field_ptr rfl rfl fd24_1) ?_
              refine SOps.q rfl (.plain rfl) rfl (q_load_ptr rfl rfl rfl rfl ty22) ?_
              refine SOps.q rfl (.plain rfl) rfl (q_len_vec rfl rfl sl22) ?_
              refine SOps.q rfl (.plain rfl) rfl (q_lss rfl rfl rfl) ?_
              refine SOps.sub (st' := ⟨[(2, .c (.vec a2_l.length 1 (gL (cInt .i64) 0 a2_l))), (3, .c (.ptr 0 0)), (7, .c (.own 1 o1_193.length)), (8, .c (.int .i64 round_82)), (9, .c (.bool done_191)), (10, .c (.int .i64 i_192)), (28, .c (.bool (decide (i_192 < ((a0_n.Arcs).length : Int)))))], [.box [.int .i64 a0_n.Nodes, .vec a0_n.Arcs.length 3 (gL cSArc dSArc a0_n.Arcs)], .arr 4 1 o1_193.length (gL cBool false o1_193)]⟩) (sub_gen [0, 1] rfl rfl ⟨zc rfl rfl, zc rfl rfl, zc rfl rfl, zc rfl rfl, zc rfl rfl, zc rfl rfl, zc rfl rfl, trivial⟩ ⟨⟨_, rfl, ⟨ii rfl rfl, ii rfl rfl, trivial⟩⟩, oa rfl, trivial⟩) ?_
              refine SOps.nil ?_
              rcases cond_out h with ⟨g217, h⟩ | ⟨g217, h⟩
              · refine SCode.cond_t rfl g217 ?_
                refine SCode.skip ?_
                refine SCode.join (σ := Bool × (List Bool)) (S := fun s => ⟨[(2, .c (.vec a2_l.length 1 (gL (cInt .i64) 0 a2_l))), (3, .c (.ptr 0 0)), (7, .c (.own 1 s.2.length)), (8, .c (.int .i64 round_82)), (9, .c (.bool s.1)), (10, .c (.int .i64 i_192))], [.box [.int .i64 a0_n.Nodes, .vec a0_n.Arcs.length 3 (gL cSArc dSArc a0_n.Arcs)], .arr 4 1 s.2.length (gL cBool false s.2)]⟩) (g := fun s => chargenetref09_Reach_p220 i_192 (fun done_191 i_192 o1_193 => chargenetref09_Reach_l216 a0_n a2_l round_82 (fun round_82 o1_83 => chargenetref09_Reach_l161 F a0_n a2_l n_161 round_82 o1_83) n_216 done_191 i_192 o1_193) s.1 s.2 = some r) ?_ ?_
                rotate_left
                · refine SCode.block ?_
                  refine SCode.seq ?_
                  obtain ⟨g221, h⟩ := guard_out h
                  refine SCode.region (show SOps _ _ _ [0, 1, 2, 3, 4, 5, 6] _ _ from ?_)
                  refine SOps.q rfl (.plain rfl) rfl (q_field_ptr rfl rfl fd24_1) ?_
                  refine SOps.q rfl (.plain rfl) rfl (q_load_ptr rfl rfl rfl rfl ty22) ?_
                  refine SOps.q rfl (.plain rfl) rfl (q_move rfl rfl) ?_
                  refine SOps.q rfl (.plain rfl) rfl (q_index_vec rfl rfl rfl sl22 rfl g221.1 g221.2) ?_
                  refine SOps.q rfl (.plain rfl) rfl (q_load_eptr_all rfl rfl rfl ty50) ?_
                  refine SOps.e rfl (.plain rfl) (e_alloc rfl rfl rfl z50) ?_
                  refine SOps.e rfl (.plain rfl) (e_store_box rfl rfl rfl rfl rfl ty50 rfl rfl rfl rfl) ?_
                  refine SOps.sub (st' := ⟨[(2, .c (.vec a2_l.length 1 (gL (cInt .i64) 0 a2_l))), (3, .c (.ptr 0 0)), (7, .c (.own 1 o1_193.length)), (8, .c (.int .i64 round_82)), (9, .c (.bool done_191)), (10, .c (.int .i64 i_192)), (11, .c (.ptr 2 0))], [.box [.int .i64 a0_n.Nodes, .vec a0_n.Arcs.length 3 (gL cSArc dSArc a0_n.Arcs)], .arr 4 1 o1_193.length (gL cBool false o1_193), .box [.int .i64 ((a0_n.Arcs.getD i_192.toNat dSArc).From), .int .i64 ((a0_n.Arcs.getD i_192.toNat dSArc).To), .int .i64 ((a0_n.Arcs.getD i_192.toNat dSArc).Cap)]]⟩) (sub_gen [0, 1, 2] rfl rfl ⟨zc rfl rfl, zc rfl rfl, zc rfl rfl, zc rfl rfl, zc rfl rfl, zc rfl rfl, zc rfl rfl, trivial⟩ ⟨⟨_, rfl, ⟨ii rfl rfl, ii rfl rfl, trivial⟩⟩, oa rfl, ⟨_, rfl, ⟨ii rfl rfl, ii rfl rfl, ii rfl rfl, trivial⟩⟩, trivial⟩) ?_
                  refine SOps.nil ?_
                  refine SCode.join (σ := Bool × (List Bool)) (S := fun s => ⟨[(2, .c (.vec a2_l.length 1 (gL (cInt .i64) 0 a2_l))), (3, .c (.ptr 0 0)), (7, .c (.own 1 s.2.length)), (8, .c (.int .i64 round_82)), (9, .c (.bool s.1)), (10, .c (.int .i64 i_192)), (11, .c (.ptr 2 0))], [.box [.int .i64 a0_n.Nodes, .vec a0_n.Arcs.length 3 (gL cSArc dSArc a0_n.Arcs)], .arr 4 1 s.2.length (gL cBool false s.2), .box [.int .i64 ((a0_n.Arcs.getD i_192.toNat dSArc).From), .int .i64 ((a0_n.Arcs.getD i_192.toNat dSArc).To), .int .i64 ((a0_n.Arcs.getD i_192.toNat dSArc).Cap)]]⟩) (g := fun s => chargenetref09_Reach_p231 a0_n a2_l i_192 (fun done_191 i_192 o1_193 => chargenetref09_Reach_l216 a0_n a2_l round_82 (fun round_82 o1_83 => chargenetref09_Reach_l161 F a0_n a2_l n_161 round_82 o1_83) n_216 done_191 i_192 o1_193) s.1 s.2 = some r) ?_ ?_
                  rotate_left
                  · refine SCode.seq ?_
                    obtain ⟨g232, h⟩ := guard_out h
                    rcases cond_out h with ⟨g233, h⟩ | ⟨g233, h⟩
                    · obtain ⟨g234, h⟩ := guard_out h
                      rcases cond_out h with ⟨g235, h⟩ | ⟨g235, h⟩
                      · obtain ⟨g236, h⟩ := guard_out h
                        refine SCode.draw (s' := [(57, .c (.bool (decide (a2_l.getD i_192.toNat 0 < (a0_n.Arcs.getD i_192.toNat dSArc).Cap)))), (56, .c (.bool (decide (a2_l.getD i_192.toNat 0 < (a0_n.Arcs.getD i_192.toNat dSArc).Cap)))), (55, .c (.int .i64 ((a0_n.Arcs.getD i_192.toNat dSArc).Cap))), (54, .c (.ptr 2 2)), (53, .c (.int .i64 (a2_l.getD i_192.toNat 0))), (52, .c (.eptr 1 ((cInt .i64) (a2_l.getD i_192.toNat 0)) 0)), (51, .c (.int .i64 i_192)), (50, .c (.vec a2_l.length 1 (gL (cInt .i64) 0 a2_l))), (49, .c (.bool ((!(o1_193.getD (((a0_n.Arcs.getD i_192.toNat dSArc).To).toNat) false))))), (48, .c (.bool ((!(o1_193.getD (((a0_n.Arcs.getD i_192.toNat dSArc).To).toNat) false))))), (47, .c (.bool ((!(o1_193.getD (((a0_n.Arcs.getD i_192.toNat dSArc).To).toNat) false))))), (46, .c (.bool (o1_193.getD (((a0_n.Arcs.getD i_192.toNat dSArc).To).toNat) false))), (45, .c (.aptr 1 1 (((a0_n.Arcs.getD i_192.toNat dSArc).To).toNat) 0)), (44, .c (.int .i64 ((a0_n.Arcs.getD i_192.toNat dSArc).To))), (43, .c (.ptr 2 1)), (42, .c (.own 1 o1_193.length)), (41, .c (.bool (o1_193.getD (((a0_n.Arcs.getD i_192.toNat dSArc).From).toNat) false))), (40, .c (.bool (o1_193.getD (((a0_n.Arcs.getD i_192.toNat dSArc).From).toNat) false))), (39, .c (.aptr 1 1 (((a0_n.Arcs.getD i_192.toNat dSArc).From).toNat) 0)), (38, .c (.int .i64 ((a0_n.Arcs.getD i_192.toNat dSArc).From))), (37, .c (.ptr 2 0)), (36, .c (.own 1 o1_193.length)), (2, .c (.vec a2_l.length 1 (gL (cInt .i64) 0 a2_l))), (3, .c (.ptr 0 0)), (7, .c (.own 1 o1_193.length)), (8, .c (.int .i64 round_82)), (9, .c (.bool done_191)), (10, .c (.int .i64 i_192)), (11, .c (.ptr 2 0))]) mixed [[], [], [1], [0, 1, 2], [0, 1, 2, 3], [0, 1, 2, 3, 4], [0, 1, 2, 3, 4, 5], [0, 1, 2, 3, 4, 5], [0, 1, 2, 3, 4, 5, 7], [0, 1, 2, 3, 4, 5, 6, 7, 8], [0, 1, 2, 3, 4, 5, 6, 7, 8, 9], [0, 1, 2, 3, 4, 5, 6, 7, 8, 9, 10], [0, 1, 2, 3, 4, 5, 6, 7, 8, 9, 10, 11], [0, 1, 2, 3, 4, 5, 6, 7, 8, 9, 10, 11, 12], [0, 1, 2, 3, 4, 5, 6, 7, 8, 9, 10, 11, 12, 13], [0, 1, 2, 3, 4, 5, 6, 7, 8, 9, 10, 11, 12, 13], [0, 1, 2, 3, 4, 5, 6, 7, 8, 9, 10, 11, 12, 13, 14, 15], [0, 1, 2, 3, 4, 5, 6, 7, 8, 9, 10, 11, 12, 13, 14, 15, 16], [0, 1, 2, 3, 4, 5, 6, 7, 8, 9, 10, 11, 12, 13], [0, 1, 2, 3, 4, 5, 6, 7, 8, 9, 10, 11, 12, 13, 18], [0, 1, 2, 3, 4, 5, 6, 7, 8, 9, 10, 11, 12, 13, 14, 15, 16, 17, 18, 19], [0, 1, 2, 3, 4, 5, 6, 7, 8, 9, 10, 11, 12, 13, 14, 15, 16, 17, 18, 19, 20]] 22 0 rfl rfl ?_ ?_
                        · refine QChain.run rfl (.plain rfl) rfl (q_move rfl rfl) ?_
                          refine QChain.run rfl (.plain rfl) rfl (q_field_ptr rfl rfl fd50_0) ?_
                          refine QChain.run rfl (.plain rfl) rfl (q_load_ptr rfl rfl rfl rfl ty3) ?_
                          refine QChain.run rfl (.plain rfl) rfl (q_index_own rfl rfl rfl sl35 g232.1 g232.2) ?_
                          refine QChain.run rfl (.plain rfl) rfl (q_load_aptr rfl rfl rfl (toNat_lt g232) rfl ty4) ?_
                          refine QChain.run rfl (.plain rfl) rfl (q_move rfl rfl) ?_
                          refine QChain.run rfl (.guard 5 41 true rfl rfl (gT g233)) rfl (q_move rfl rfl) ?_
                          refine QChain.run rfl (.guard 5 41 true rfl rfl (gT g233)) rfl (q_field_ptr rfl rfl fd50_1) ?_
                          refine QChain.run rfl (.guard 5 41 true rfl rfl (gT g233)) rfl (q_load_ptr rfl rfl rfl rfl ty3) ?_
                          refine QChain.run rfl (.guard 5 41 true rfl rfl (gT g233)) rfl (q_index_own rfl rfl rfl sl35 g234.1 g234.2) ?_
                          refine QChain.run rfl (.guard 5 41 true rfl rfl (gT g233)) rfl (q_load_aptr rfl rfl rfl (toNat_lt g234) rfl ty4) ?_
                          refine QChain.run rfl (.guard 5 41 true rfl rfl (gT g233)) rfl (q_not rfl rfl) ?_
                          refine QChain.run rfl (.plain rfl) rfl (q_pick_t rfl rfl g233 rfl) ?_
                          refine QChain.run rfl (.plain rfl) rfl (q_move rfl rfl) ?_
                          refine QChain.run rfl (.guard 13 49 true rfl rfl (gT g235)) rfl (q_move rfl rfl) ?_
                          refine QChain.run rfl (.guard 13 49 true rfl rfl (gT g235)) rfl (q_move rfl rfl) ?_
                          refine QChain.run rfl (.guard 13 49 true rfl rfl (gT g235)) rfl (q_index_vec rfl rfl rfl sl30 rfl g236.1 g236.2) ?_
                          refine QChain.run rfl (.guard 13 49 true rfl rfl (gT g235)) rfl (q_load_eptr rfl rfl ty3) ?_
                          refine QChain.run rfl (.guard 13 49 true rfl rfl (gT g235)) rfl (q_field_ptr rfl rfl fd50_2) ?_
                          refine QChain.run rfl (.guard 13 49 true rfl rfl (gT g235)) rfl (q_load_ptr rfl rfl rfl rfl ty3) ?_
                          refine QChain.run rfl (.guard 13 49 true rfl rfl (gT g235)) rfl (q_lss rfl rfl rfl) ?_
                          refine QChain.run rfl (.plain rfl) rfl (q_pick_t rfl rfl g235 rfl) ?_
                          exact QChain.nil _ _
                        refine (show SOps _ _ _ [] _ _ from ?_)
                        refine SOps.sub (st' := ⟨[(2, .c (.vec a2_l.length 1 (gL (cInt .i64) 0 a2_l))), (3, .c (.ptr 0 0)), (7, .c (.own 1 o1_193.length)), (8, .c (.int .i64 round_82)), (9, .c (.bool done_191)), (10, .c (.int .i64 i_192)), (11, .c (.ptr 2 0)), (57, .c (.bool (decide (a2_l.getD i_192.toNat 0 < (a0_n.Arcs.getD i_192.toNat dSArc).Cap))))], [.box [.int .i64 a0_n.Nodes, .vec a0_n.Arcs.length 3 (gL cSArc dSArc a0_n.Arcs)], .arr 4 1 o1_193.length (gL cBool false o1_193), .box [.int .i64 ((a0_n.Arcs.getD i_192.toNat dSArc).From), .int .i64 ((a0_n.Arcs.getD i_192.toNat dSArc).To), .int .i64 ((a0_n.Arcs.getD i_192.toNat dSArc).Cap)]]⟩) (sub_gen [0, 1, 2] rfl rfl ⟨zc rfl rfl, zc rfl rfl, zc rfl rfl, zc rfl rfl, zc rfl rfl, zc rfl rfl, zc rfl rfl, zc rfl rfl, trivial⟩ ⟨⟨_, rfl, ⟨ii rfl rfl, ii rfl rfl, trivial⟩⟩, oa rfl, ⟨_, rfl, ⟨ii rfl rfl, ii rfl rfl, ii rfl rfl, trivial⟩⟩, trivial⟩) ?_
                        refine SOps.nil ?_
                        rcases cond_out h with ⟨g237, h⟩ | ⟨g237, h⟩
                        · refine SCode.cond_t rfl g237 ?_
                          refine SCode.seq ?_
                          obtain ⟨g238, h⟩ := guard_out h
                          refine SCode.region (show SOps _ _ _ [0, 1, 2, 3, 4] _ _ from ?_)
                          refine SOps.q rfl (.plain rfl) rfl (q_move rfl rfl) ?_
                          refine SOps.q rfl (.plain rfl) rfl (q_field_ptr rfl rfl fd50_1) ?_
                          refine SOps.q rfl (.plain rfl) rfl (q_load_ptr rfl rfl rfl rfl ty3) ?_
                          refine SOps.q rfl (.plain rfl) rfl (q_index_own rfl rfl rfl sl35 g238.1 g238.2) ?_
                          refine SOps.e rfl (.plain rfl) (e_storeL true rfl rfl rfl rfl rfl (toNat_lt g238) ty4 rfl rfl rfl rfl rfl rfl) ?_
                          refine SOps.sub (st' := ⟨[(2, .c (.vec a2_l.length 1 (gL (cInt .i64) 0 a2_l))), (3, .c (.ptr 0 0)), (7, .c (.own 1 (o1_193.set (((a0_n.Arcs.getD i_192.toNat dSArc).To).toNat) true).length)), (8, .c (.int .i64 round_82)), (10, .c (.int .i64 i_192)), (11, .c (.ptr 2 0))], [.box [.int .i64 a0_n.Nodes, .vec a0_n.Arcs.length 3 (gL cSArc dSArc a0_n.Arcs)], .arr 4 1 (o1_193.set (((a0_n.Arcs.getD i_192.toNat dSArc).To).toNat) true).length (gL cBool false (o1_193.set (((a0_n.Arcs.getD i_192.toNat dSArc).To).toNat) true)), .box [.int .i64 ((a0_n.Arcs.getD i_192.toNat dSArc).From), .int .i64 ((a0_n.Arcs.getD i_192.toNat dSArc).To), .int .i64 ((a0_n.Arcs.getD i_192.toNat dSArc).Cap)]]⟩) (sub_gen [0, 1, 2] rfl rfl ⟨zc rfl rfl, zc rfl rfl, ⟨_, rfl, .inl ⟨rfl, congrArg (Cell.own 1) (List.length_set : (o1_193.set (((a0_n.Arcs.getD i_192.toNat dSArc).To).toNat) true).length = o1_193.length).symm⟩⟩, zc rfl rfl, zc rfl rfl, zc rfl rfl, trivial⟩ ⟨⟨_, rfl, ⟨ii rfl rfl, ii rfl rfl, trivial⟩⟩, oa rfl, ⟨_, rfl, ⟨ii rfl rfl, ii rfl rfl, ii rfl rfl, trivial⟩⟩, trivial⟩) ?_
                          refine SOps.nil ?_
                          refine SCode.region (show SOps _ _ _ [0] _ _ from ?_)
                          refine SOps.q rfl (.plain rfl) rfl (q_assign rfl rfl) ?_
                          refine SOps.sub (st' := ⟨[(2, .c (.vec a2_l.length 1 (gL (cInt .i64) 0 a2_l))), (3, .c (.ptr 0 0)), (7, .c (.own 1 (o1_193.set (((a0_n.Arcs.getD i_192.toNat dSArc).To).toNat) true).length)), (8, .c (.int .i64 round_82)), (9, .c (.bool false)), (10, .c (.int .i64 i_192)), (11, .c (.ptr 2 0))], [.box [.int .i64 a0_n.Nodes, .vec a0_n.Arcs.length 3 (gL cSArc dSArc a0_n.Arcs)], .arr 4 1 (o1_193.set (((a0_n.Arcs.getD i_192.toNat dSArc).To).toNat) true).length (gL cBool false (o1_193.set (((a0_n.Arcs.getD i_192.toNat dSArc).To).toNat) true)), .box [.int .i64 ((a0_n.Arcs.getD i_192.toNat dSArc).From), .int .i64 ((a0_n.Arcs.getD i_192.toNat dSArc).To), .int .i64 ((a0_n.Arcs.getD i_192.toNat dSArc).Cap)]]⟩) (sub_gen [0, 1, 2] rfl rfl ⟨zc rfl rfl, zc rfl rfl, zc rfl rfl, zc rfl rfl, zc rfl rfl, zc rfl rfl, zc rfl rfl, trivial⟩ ⟨⟨_, rfl, ⟨ii rfl rfl, ii rfl rfl, trivial⟩⟩, oa rfl, ⟨_, rfl, ⟨ii rfl rfl, ii rfl rfl, ii rfl rfl, trivial⟩⟩, trivial⟩) ?_
                          refine SOps.nil ?_
                          exact ⟨(false, o1_193.set (((a0_n.Arcs.getD i_192.toNat dSArc).To).toNat) true), h, sub_gen [0, 1, 2] rfl rfl ⟨zc rfl rfl, zc rfl rfl, zc rfl rfl, zc rfl rfl, zc rfl rfl, zc rfl rfl, zc rfl rfl, trivial⟩ ⟨⟨_, rfl, ⟨ii rfl rfl, ii rfl rfl, trivial⟩⟩, oa rfl, ⟨_, rfl, ⟨ii rfl rfl, ii rfl rfl, ii rfl rfl, trivial⟩⟩, trivial⟩⟩
                        refine SCode.cond_f rfl g237 ?_
                        refine SCode.skip ?_
                        exact ⟨(done_191, o1_193), h, sub_gen [0, 1, 2] rfl rfl ⟨zc rfl rfl, zc rfl rfl, zc rfl rfl, zc rfl rfl, zc rfl rfl, zc rfl rfl, zc rfl rfl, trivial⟩ ⟨⟨_, rfl, ⟨ii rfl rfl, ii rfl rfl, trivial⟩⟩, oa rfl, ⟨_, rfl, ⟨ii rfl rfl, ii rfl rfl, ii rfl rfl, trivial⟩⟩, trivial⟩⟩
                      refine SCode.draw (s' := [(57, .c (.bool false)), (56, .c (.raw (.tuple #[]))), (55, .c (.raw (.tuple #[]))), (54, .c (.raw (.tuple #[]))), (53, .c (.raw (.tuple #[]))), (52, .c (.raw (.tuple #[]))), (51, .c (.raw (.tuple #[]))), (50, .c (.raw (.tuple #[]))), (49, .c (.bool ((!(o1_193.getD (((a0_n.Arcs.getD i_192.toNat dSArc).To).toNat) false))))), (48, .c (.bool ((!(o1_193.getD (((a0_n.Arcs.getD i_192.toNat dSArc).To).toNat) false))))), (47, .c (.bool ((!(o1_193.getD (((a0_n.Arcs.getD i_192.toNat dSArc).To).toNat) false))))), (46, .c (.bool (o1_193.getD (((a0_n.Arcs.getD i_192.toNat dSArc).To).toNat) false))), (45, .c (.aptr 1 1 (((a0_n.Arcs.getD i_192.toNat dSArc).To).toNat) 0)), (44, .c (.int .i64 ((a0_n.Arcs.getD i_192.toNat dSArc).To))), (43, .c (.ptr 2 1)), (42, .c (.own 1 o1_193.length)), (41, .c (.bool (o1_193.getD (((a0_n.Arcs.getD i_192.toNat dSArc).From).toNat) false))), (40, .c (.bool (o1_193.getD (((a0_n.Arcs.getD i_192.toNat dSArc).From).toNat) false))), (39, .c (.aptr 1 1 (((a0_n.Arcs.getD i_192.toNat dSArc).From).toNat) 0)), (38, .c (.int .i64 ((a0_n.Arcs.getD i_192.toNat dSArc).From))), (37, .c (.ptr 2 0)), (36, .c (.own 1 o1_193.length)), (2, .c (.vec a2_l.length 1 (gL (cInt .i64) 0 a2_l))), (3, .c (.ptr 0 0)), (7, .c (.own 1 o1_193.length)), (8, .c (.int .i64 round_82)), (9, .c (.bool done_191)), (10, .c (.int .i64 i_192)), (11, .c (.ptr 2 0))]) mixed [[], [], [1], [0, 1, 2], [0, 1, 2, 3], [0, 1, 2, 3, 4], [0, 1, 2, 3, 4, 5], [0, 1, 2, 3, 4, 5], [0, 1, 2, 3, 4, 5, 7], [0, 1, 2, 3, 4, 5, 6, 7, 8], [0, 1, 2, 3, 4, 5, 6, 7, 8, 9], [0, 1, 2, 3, 4, 5, 6, 7, 8, 9, 10], [0, 1, 2, 3, 4, 5, 6, 7, 8, 9, 10, 11], [0, 1, 2, 3, 4, 5, 6, 7, 8, 9, 10, 11, 12], [0, 1, 2, 3, 4, 5, 6, 7, 8, 9, 10, 11, 12, 13], [0, 1, 2, 3, 4, 5, 6, 7, 8, 9, 10, 11, 12, 13], [0, 1, 2, 3, 4, 5, 6, 7, 8, 9, 10, 11, 12, 13, 14, 15], [0, 1, 2, 3, 4, 5, 6, 7, 8, 9, 10, 11, 12, 13, 14, 15, 16], [0, 1, 2, 3, 4, 5, 6, 7, 8, 9, 10, 11, 12, 13], [0, 1, 2, 3, 4, 5, 6, 7, 8, 9, 10, 11, 12, 13, 18], [0, 1, 2, 3, 4, 5, 6, 7, 8, 9, 10, 11, 12, 13, 14, 15, 16, 17, 18, 19], [0, 1, 2, 3, 4, 5, 6, 7, 8, 9, 10, 11, 12, 13, 14, 15, 16, 17, 18, 19, 20]] 22 0 rfl rfl ?_ ?_
                      · refine QChain.run rfl (.plain rfl) rfl (q_move rfl rfl) ?_
                        refine QChain.run rfl (.plain rfl) rfl (q_field_ptr rfl rfl fd50_0) ?_
                        refine QChain.run rfl (.plain rfl) rfl (q_load_ptr rfl rfl rfl rfl ty3) ?_
                        refine QChain.run rfl (.plain rfl) rfl (q_index_own rfl rfl rfl sl35 g232.1 g232.2) ?_
                        refine QChain.run rfl (.plain rfl) rfl (q_load_aptr rfl rfl rfl (toNat_lt g232) rfl ty4) ?_
                        refine QChain.run rfl (.plain rfl) rfl (q_move rfl rfl) ?_
                        refine QChain.run rfl (.guard 5 41 true rfl rfl (gT g233)) rfl (q_move rfl rfl) ?_
                        refine QChain.run rfl (.guard 5 41 true rfl rfl (gT g233)) rfl (q_field_ptr rfl rfl fd50_1) ?_
                        refine QChain.run rfl (.guard 5 41 true rfl rfl (gT g233)) rfl (q_load_ptr rfl rfl rfl rfl ty3) ?_
                        refine QChain.run rfl (.guard 5 41 true rfl rfl (gT g233)) rfl (q_index_own rfl rfl rfl sl35 g234.1 g234.2) ?_
                        refine QChain.run rfl (.guard 5 41 true rfl rfl (gT g233)) rfl (q_load_aptr rfl rfl rfl (toNat_lt g234) rfl ty4) ?_
                        refine QChain.run rfl (.guard 5 41 true rfl rfl (gT g233)) rfl (q_not rfl rfl) ?_
                        refine QChain.run rfl (.plain rfl) rfl (q_pick_t rfl rfl g233 rfl) ?_
                        refine QChain.run rfl (.plain rfl) rfl (q_move rfl rfl) ?_
                        refine QChain.skip rfl ⟨13, 49, true, rfl, rfl, (.inl (gF g235))⟩ rfl ?_
                        refine QChain.skip rfl ⟨13, 49, true, rfl, rfl, (.inl (gF g235))⟩ rfl ?_
                        refine QChain.skip rfl ⟨13, 49, true, rfl, rfl, (.inl (gF g235))⟩ rfl ?_
                        refine QChain.skip rfl ⟨13, 49, true, rfl, rfl, (.inl (gF g235))⟩ rfl ?_
                        refine QChain.skip rfl ⟨13, 49, true, rfl, rfl, (.inl (gF g235))⟩ rfl ?_
                        refine QChain.skip rfl ⟨13, 49, true, rfl, rfl, (.inl (gF g235))⟩ rfl ?_
                        refine QChain.skip rfl ⟨13, 49, true, rfl, rfl, (.inl (gF g235))⟩ rfl ?_
                        refine QChain.run rfl (.plain rfl) rfl (q_pick_f rfl rfl g235 rfl) ?_
                        exact QChain.nil _ _
                      refine (show SOps _ _ _ [] _ _ from ?_)
                      refine SOps.sub (st' := ⟨[(2, .c (.vec a2_l.length 1 (gL (cInt .i64) 0 a2_l))), (3, .c (.ptr 0 0)), (7, .c (.own 1 o1_193.length)), (8, .c (.int .i64 round_82)), (9, .c (.bool done_191)), (10, .c (.int .i64 i_192)), (11, .c (.ptr 2 0)), (57, .c (.bool false))], [.box [.int .i64 a0_n.Nodes, .vec a0_n.Arcs.length 3 (gL cSArc dSArc a0_n.Arcs)], .arr 4 1 o1_193.length (gL cBool false o1_193), .box [.int .i64 ((a0_n.Arcs.getD i_192.toNat dSArc).From), .int .i64 ((a0_n.Arcs.getD i_192.toNat dSArc).To), .int .i64 ((a0_n.Arcs.getD i_192.toNat dSArc).Cap)]]⟩) (sub_gen [0, 1, 2] rfl rfl ⟨zc rfl rfl, zc rfl rfl, zc rfl rfl, zc rfl rfl, zc rfl rfl, zc rfl rfl, zc rfl rfl, zc rfl rfl, trivial⟩ ⟨⟨_, rfl, ⟨ii rfl rfl, ii rfl rfl, trivial⟩⟩, oa rfl, ⟨_, rfl, ⟨ii rfl rfl, ii rfl rfl, ii rfl rfl, trivial⟩⟩, trivial⟩) ?_
                      refine SOps.nil ?_
                      refine SCode.cond_f rfl rfl ?_
                      refine SCode.skip ?_
                      exact ⟨(done_191, o1_193), h, sub_gen [0, 1, 2] rfl rfl ⟨zc rfl rfl, zc rfl rfl, zc rfl rfl, zc rfl rfl, zc rfl rfl, zc rfl rfl, zc rfl rfl, trivial⟩ ⟨⟨_, rfl, ⟨ii rfl rfl, ii rfl rfl, trivial⟩⟩, oa rfl, ⟨_, rfl, ⟨ii rfl rfl, ii rfl rfl, ii rfl rfl, trivial⟩⟩, trivial⟩⟩
                    refine SCode.draw (s' := [(57, .c (.bool false)), (56, .c (.raw (.tuple #[]))), (55, .c (.raw (.tuple #[]))), (54, .c (.raw (.tuple #[]))), (53, .c (.raw (.tuple #[]))), (52, .c (.raw (.tuple #[]))), (51, .c (.raw (.tuple #[]))), (50, .c (.raw (.tuple #[]))), (49, .c (.bool false)), (48, .c (.bool false)), (47, .c (.raw (.tuple #[]))), (46, .c (.raw (.tuple #[]))), (45, .c (.raw (.tuple #[]))), (44, .c (.raw (.tuple #[]))), (43, .c (.raw (.tuple #[]))), (42, .c (.raw (.tuple #[]))), (41, .c (.bool (o1_193.getD (((a0_n.Arcs.getD i_192.toNat dSArc).From).toNat) false))), (40, .c (.bool (o1_193.getD (((a0_n.Arcs.getD i_192.toNat dSArc).From).toNat) false))), (39, .c (.aptr 1 1 (((a0_n.Arcs.getD i_192.toNat dSArc).From).toNat) 0)), (38, .c (.int .i64 ((a0_n.Arcs.getD i_192.toNat dSArc).From))), (37, .c (.ptr 2 0)), (36, .c (.own 1 o1_193.length)), (2, .c (.vec a2_l.length 1 (gL (cInt .i64) 0 a2_l))), (3, .c (.ptr 0 0)), (7, .c (.own 1 o1_193.length)), (8, .c (.int .i64 round_82)), (9, .c (.bool done_191)), (10, .c (.int .i64 i_192)), (11, .c (.ptr 2 0))]) mixed [[], [], [1], [0, 1, 2], [0, 1, 2, 3], [0, 1, 2, 3, 4], [0, 1, 2, 3, 4, 5], [0, 1, 2, 3, 4, 5], [0, 1, 2, 3, 4, 5, 7], [0, 1, 2, 3, 4, 5, 6, 7, 8], [0, 1, 2, 3, 4, 5, 6, 7, 8, 9], [0, 1, 2, 3, 4, 5, 6, 7, 8, 9, 10], [0, 1, 2, 3, 4, 5, 6, 7, 8, 9, 10, 11], [0, 1, 2, 3, 4, 5, 6, 7, 8, 9, 10, 11, 12], [0, 1, 2, 3, 4, 5, 6, 7, 8, 9, 10, 11, 12, 13], [0, 1, 2, 3, 4, 5, 6, 7, 8, 9, 10, 11, 12, 13], [0, 1, 2, 3, 4, 5, 6, 7, 8, 9, 10, 11, 12, 13, 14, 15], [0, 1, 2, 3, 4, 5, 6, 7, 8, 9, 10, 11, 12, 13, 14, 15, 16], [0, 1, 2, 3, 4, 5, 6, 7, 8, 9, 10, 11, 12, 13], [0, 1, 2, 3, 4, 5, 6, 7, 8, 9, 10, 11, 12, 13, 18], [0, 1, 2, 3, 4, 5, 6, 7, 8, 9, 10, 11, 12, 13, 14, 15, 16, 17, 18, 19], [0, 1, 2, 3, 4, 5, 6, 7, 8, 9, 10, 11, 12, 13, 14, 15, 16, 17, 18, 19, 20]] 22 0 rfl rfl ?_ ?_
                    · refine QChain.run rfl (.plain rfl) rfl (q_move rfl rfl) ?_
                      refine QChain.run rfl (.plain rfl) rfl (q_field_ptr rfl rfl fd50_0) ?_
                      refine QChain.run rfl (.plain rfl) rfl (q_load_ptr rfl rfl rfl rfl ty3) ?_
                      refine QChain.run rfl (.plain rfl) rfl (q_index_own rfl rfl rfl sl35 g232.1 g232.2) ?_
                      refine QChain.run rfl (.plain rfl) rfl (q_load_aptr rfl rfl rfl (toNat_lt g232) rfl ty4) ?_
                      refine QChain.run rfl (.plain rfl) rfl (q_move rfl rfl) ?_
                      refine QChain.skip rfl ⟨5, 41, true, rfl, rfl, (.inl (gF g233))⟩ rfl ?_
                      refine QChain.skip rfl ⟨5, 41, true, rfl, rfl, (.inl (gF g233))⟩ rfl ?_
                      refine QChain.skip rfl ⟨5, 41, true, rfl, rfl, (.inl (gF g233))⟩ rfl ?_
                      refine QChain.skip rfl ⟨5, 41, true, rfl, rfl, (.inl (gF g233))⟩ rfl ?_
                      refine QChain.skip rfl ⟨5, 41, true, rfl, rfl, (.inl (gF g233))⟩ rfl ?_
                      refine QChain.skip rfl ⟨5, 41, true, rfl, rfl, (.inl (gF g233))⟩ rfl ?_
                      refine QChain.run rfl (.plain rfl) rfl (q_pick_f rfl rfl g233 rfl) ?_
                      refine QChain.run rfl (.plain rfl) rfl (q_move rfl rfl) ?_
                      refine QChain.skip rfl ⟨13, 49, true, rfl, rfl, (.inl rfl)⟩ rfl ?_
                      refine QChain.skip rfl ⟨13, 49, true, rfl, rfl, (.inl rfl)⟩ rfl ?_
                      refine QChain.skip rfl ⟨13, 49, true, rfl, rfl, (.inl rfl)⟩ rfl ?_
                      refine QChain.skip rfl ⟨13, 49, true, rfl, rfl, (.inl rfl)⟩ rfl ?_
                      refine QChain.skip rfl ⟨13, 49, true, rfl, rfl, (.inl rfl)⟩ rfl ?_
                      refine QChain.skip rfl ⟨13, 49, true, rfl, rfl, (.inl rfl)⟩ rfl ?_
                      refine QChain.skip rfl ⟨13, 49, true, rfl, rfl, (.inl rfl)⟩ rfl ?_
                      refine QChain.run rfl (.plain rfl) rfl (q_pick_f rfl rfl rfl rfl) ?_
                      exact QChain.nil _ _
                    refine (show SOps _ _ _ [] _ _ from ?_)
                    refine SOps.sub (st' := ⟨[(2, .c (.vec a2_l.length 1 (gL (cInt .i64) 0 a2_l))), (3, .c (.ptr 0 0)), (7, .c (.own 1 o1_193.length)), (8, .c (.int .i64 round_82)), (9, .c (.bool done_191)), (10, .c (.int .i64 i_192)), (11, .c (.ptr 2 0)), (57, .c (.bool false))], [.box [.int .i64 a0_n.Nodes, .vec a0_n.Arcs.length 3 (gL cSArc dSArc a0_n.Arcs)], .arr 4 1 o1_193.length (gL cBool false o1_193), .box [.int .i64 ((a0_n.Arcs.getD i_192.toNat dSArc).From), .int .i64 ((a0_n.Arcs.getD i_192.toNat dSArc).To), .int .i64 ((a0_n.Arcs.getD i_192.toNat dSArc).Cap)]]⟩) (sub_gen [0, 1, 2] rfl rfl ⟨zc rfl rfl, zc rfl rfl, zc rfl rfl, zc rfl rfl, zc rfl rfl, zc rfl rfl, zc rfl rfl, zc rfl rfl, trivial⟩ ⟨⟨_, rfl, ⟨ii rfl rfl, ii rfl rfl, trivial⟩⟩, oa rfl, ⟨_, rfl, ⟨ii rfl rfl, ii rfl rfl, ii rfl rfl, trivial⟩⟩, trivial⟩) ?_
                    refine SOps.nil ?_
                    refine SCode.cond_f rfl rfl ?_
                    refine SCode.skip ?_
                    exact ⟨(done_191, o1_193), h, sub_gen [0, 1, 2] rfl rfl ⟨zc rfl rfl, zc rfl rfl, zc rfl rfl, zc rfl rfl, zc rfl rfl, zc rfl rfl, zc rfl rfl, trivial⟩ ⟨⟨_, rfl, ⟨ii rfl rfl, ii rfl rfl, trivial⟩⟩, oa rfl, ⟨_, rfl, ⟨ii rfl rfl, ii rfl rfl, ii rfl rfl, trivial⟩⟩, trivial⟩⟩
                  rintro ⟨done_222, o1_223⟩ h
                  show SCode _ _ _ ⟨[(2, .c (.vec a2_l.length 1 (gL (cInt .i64) 0 a2_l))), (3, .c (.ptr 0 0)), (7, .c (.own 1 o1_223.length)), (8, .c (.int .i64 round_82)), (9, .c (.bool done_222)), (10, .c (.int .i64 i_192)), (11, .c (.ptr 2 0))], [.box [.int .i64 a0_n.Nodes, .vec a0_n.Arcs.length 3 (gL cSArc dSArc a0_n.Arcs)], .arr 4 1 o1_223.length (gL cBool false o1_223), .box [.int .i64 ((a0_n.Arcs.getD i_192.toNat dSArc).From), .int .i64 ((a0_n.Arcs.getD i_192.toNat dSArc).To), .int .i64 ((a0_n.Arcs.getD i_192.toNat dSArc).Cap)]]⟩ _
                  replace h : chargenetref09_Reach_p231 a0_n a2_l i_192 (fun done_191 i_192 o1_193 => chargenetref09_Reach_l216 a0_n a2_l round_82 (fun round_82 o1_83 => chargenetref09_Reach_l161 F a0_n a2_l n_161 round_82 o1_83) n_216 done_191 i_192 o1_193) done_222 o1_223 = some r := h
                  unfold chargenetref09_Reach_p231 at h
                  refine SCode.seq ?_
                  obtain ⟨g224, h⟩ := guard_out h
                  rcases cond_out h with ⟨g225, h⟩ | ⟨g225, h⟩
                  · obtain ⟨g226, h⟩ := guard_out h
                    rcases cond_out h with ⟨g227, h⟩ | ⟨g227, h⟩
                    · obtain ⟨g228, h⟩ := guard_out h
                      refine SCode.region (show SOps _ _ _ [0, 1, 2, 3, 4, 5, 6, 7, 8, 9, 10, 11, 12, 13, 14, 15, 16, 17, 18, 19] _ _ from ?_)
                      refine SOps.q rfl (.plain rfl) rfl (q_move rfl rfl) ?_
                      refine SOps.q rfl (.plain rfl) rfl (q_field_ptr rfl rfl fd50_1) ?_
                      refine SOps.q rfl (.plain rfl) rfl (q_load_ptr rfl rfl rfl rfl ty3) ?_
                      refine SOps.q rfl (.plain rfl) rfl (q_index_own rfl rfl rfl sl35 g224.1 g224.2) ?_
                      refine SOps.q rfl (.plain rfl) rfl (q_load_aptr rfl rfl rfl (toNat_lt g224) rfl ty4) ?_
                      refine SOps.q rfl (.plain rfl) rfl (q_move rfl rfl) ?_
                      refine SOps.q rfl (.guard 5 67 true rfl rfl (gT g225)) rfl (q_move rfl rfl) ?_
                      refine SOps.q rfl (.guard 5 67 true rfl rfl (gT g225)) rfl (q_field_ptr rfl rfl fd50_0) ?_
                      refine SOps.q rfl (.guard 5 67 true rfl rfl (gT g225)) rfl (q_load_ptr rfl rfl rfl rfl ty3) ?_
                      refine SOps.q rfl (.guard 5 67 true rfl rfl (gT g225)) rfl (q_index_own rfl rfl rfl sl35 g226.1 g226.2) ?_
                      refine SOps.q rfl (.guard 5 67 true rfl rfl (gT g225)) rfl (q_load_aptr rfl rfl rfl (toNat_lt g226) rfl ty4) ?_
                      refine SOps.q rfl (.guard 5 67 true rfl rfl (gT g225)) rfl (q_not rfl rfl) ?_
                      refine SOps.q rfl (.plain rfl) rfl (q_pick_t rfl rfl g225 rfl) ?_
                      refine SOps.q rfl (.plain rfl) rfl (q_move rfl rfl) ?_
                      refine SOps.q rfl (.guard 13 75 true rfl rfl (gT g227)) rfl (q_move rfl rfl) ?_
                      refine SOps.q rfl (.guard 13 75 true rfl rfl (gT g227)) rfl (q_move rfl rfl) ?_
                      refine SOps.q rfl (.guard 13 75 true rfl rfl (gT g227)) rfl (q_index_vec rfl rfl rfl sl30 rfl g228.1 g228.2) ?_
                      refine SOps.q rfl (.guard 13 75 true rfl rfl (gT g227)) rfl (q_load_eptr rfl rfl ty3) ?_
                      refine SOps.q rfl (.guard 13 75 true rfl rfl (gT g227)) rfl (q_gtr rfl rfl rfl) ?_
                      refine SOps.q rfl (.plain rfl) rfl (q_pick_t rfl rfl g227 rfl) ?_
                      refine SOps.sub (st' := ⟨[(2, .c (.vec a2_l.length 1 (gL (cInt .i64) 0 a2_l))), (3, .c (.ptr 0 0)), (7, .c (.own 1 o1_223.length)), (8, .c (.int .i64 round_82)), (9, .c (.bool done_222)), (10, .c (.int .i64 i_192)), (11, .c (.ptr 2 0)), (81, .c (.bool (decide (0 < a2_l.getD i_192.toNat 0))))], [.box [.int .i64 a0_n.Nodes, .vec a0_n.Arcs.length 3 (gL cSArc dSArc a0_n.Arcs)], .arr 4 1 o1_223.length (gL cBool false o1_223), .box [.int .i64 ((a0_n.Arcs.getD i_192.toNat dSArc).From), .int .i64 ((a0_n.Arcs.getD i_192.toNat dSArc).To), .int .i64 ((a0_n.Arcs.getD i_192.toNat dSArc).Cap)]]⟩) (sub_gen [0, 1, 2] rfl rfl ⟨zc rfl rfl, zc rfl rfl, zc rfl rfl, zc rfl rfl, zc rfl rfl, zc rfl rfl, zc rfl rfl, zc rfl rfl, trivial⟩ ⟨⟨_, rfl, ⟨ii rfl rfl, ii rfl rfl, trivial⟩⟩, oa rfl, ⟨_, rfl, ⟨ii rfl rfl, ii rfl rfl, ii rfl rfl, trivial⟩⟩, trivial⟩) ?_
                      refine SOps.nil ?_
                      rcases cond_out h with ⟨g229, h⟩ | ⟨g229, h⟩
                      · refine SCode.cond_t rfl g229 ?_
                        refine SCode.seq ?_
                        obtain ⟨g230, h⟩ := guard_out h
                        refine SCode.region (show SOps _ _ _ [0, 1, 2, 3, 4] _ _ from ?_)
                        refine SOps.q rfl (.plain rfl) rfl (q_move rfl rfl) ?_
                        refine SOps.q rfl (.plain rfl) rfl (q_field_ptr rfl rfl fd50_0) ?_
                        refine SOps.q rfl (.plain rfl) rfl (q_load_ptr rfl rfl rfl rfl ty3) ?_
                        refine SOps.q rfl (.plain rfl) rfl (q_index_own rfl rfl rfl sl35 g230.1 g230.2) ?_
                        refine SOps.e rfl (.plain rfl) (e_storeL true rfl rfl rfl rfl rfl (toNat_lt g230) ty4 rfl rfl rfl rfl rfl rfl) ?_
                        refine SOps.sub (st' := ⟨[(2, .c (.vec a2_l.length 1 (gL (cInt .i64) 0 a2_l))), (3, .c (.ptr 0 0)), (7, .c (.own 1 (o1_223.set (((a0_n.Arcs.getD i_192.toNat dSArc).From).toNat) true).length)), (8, .c (.int .i64 round_82)), (10, .c (.int .i64 i_192))], [.box [.int .i64 a0_n.Nodes, .vec a0_n.Arcs.length 3 (gL cSArc dSArc a0_n.Arcs)], .arr 4 1 (o1_223.set (((a0_n.Arcs.getD i_192.toNat dSArc).From).toNat) true).length (gL cBool false (o1_223.set (((a0_n.Arcs.getD i_192.toNat dSArc).From).toNat) true))]⟩) (sub_gen [0, 1] rfl rfl ⟨zc rfl rfl, zc rfl rfl, ⟨_, rfl, .inl ⟨rfl, congrArg (Cell.own 1) (List.length_set : (o1_223.set (((a0_n.Arcs.getD i_192.toNat dSArc).From).toNat) true).length = o1_223.length).symm⟩⟩, zc rfl rfl, zc rfl rfl, trivial⟩ ⟨⟨_, rfl, ⟨ii rfl rfl, ii rfl rfl, trivial⟩⟩, oa rfl, trivial⟩) ?_
                        refine SOps.nil ?_
                        refine SCode.region (show SOps _ _ _ [0] _ _ from ?_)
                        refine SOps.q rfl (.plain rfl) rfl (q_assign rfl rfl) ?_
                        refine SOps.sub (st' := ⟨[(2, .c (.vec a2_l.length 1 (gL (cInt .i64) 0 a2_l))), (3, .c (.ptr 0 0)), (7, .c (.own 1 (o1_223.set (((a0_n.Arcs.getD i_192.toNat dSArc).From).toNat) true).length)), (8, .c (.int .i64 round_82)), (9, .c (.bool false)), (10, .c (.int .i64 i_192))], [.box [.int .i64 a0_n.Nodes, .vec a0_n.Arcs.length 3 (gL cSArc dSArc a0_n.Arcs)], .arr 4 1 (o1_223.set (((a0_n.Arcs.getD i_192.toNat dSArc).From).toNat) true).length (gL cBool false (o1_223.set (((a0_n.Arcs.getD i_192.toNat dSArc).From).toNat) true))]⟩) (sub_gen [0, 1] rfl rfl ⟨zc rfl rfl, zc rfl rfl, zc rfl rfl, zc rfl rfl, zc rfl rfl, zc rfl rfl, trivial⟩ ⟨⟨_, rfl, ⟨ii rfl rfl, ii rfl rfl, trivial⟩⟩, oa rfl, trivial⟩) ?_
                        refine SOps.nil ?_
                        exact ⟨(false, o1_223.set (((a0_n.Arcs.getD i_192.toNat dSArc).From).toNat) true), h, sub_gen [0, 1] rfl rfl ⟨zc rfl rfl, zc rfl rfl, zc rfl rfl, zc rfl rfl, zc rfl rfl, zc rfl rfl, trivial⟩ ⟨⟨_, rfl, ⟨ii rfl rfl, ii rfl rfl, trivial⟩⟩, oa rfl, trivial⟩⟩
                      refine SCode.cond_f rfl g229 ?_
                      refine SCode.skip ?_
                      exact ⟨(done_222, o1_223), h, sub_gen [0, 1] rfl rfl ⟨zc rfl rfl, zc rfl rfl, zc rfl rfl, zc rfl rfl, zc rfl rfl, zc rfl rfl, trivial⟩ ⟨⟨_, rfl, ⟨ii rfl rfl, ii rfl rfl, trivial⟩⟩, oa rfl, trivial⟩⟩
                    refine SCode.region (show SOps _ _ _ [0, 1, 2, 3, 4, 5, 6, 7, 8, 9, 10, 11, 12, 13, 14, 15, 16, 17, 18, 19] _ _ from ?_)
                    refine SOps.q rfl (.plain rfl) rfl (q_move rfl rfl) ?_
                    refine SOps.q rfl (.plain rfl) rfl (q_field_ptr rfl rfl fd50_1) ?_
                    refine SOps.q rfl (.plain rfl) rfl (q_load_ptr rfl rfl rfl rfl ty3) ?_
                    refine SOps.q rfl (.plain rfl) rfl (q_index_own rfl rfl rfl sl35 g224.1 g224.2) ?_
                    refine SOps.q rfl (.plain rfl) rfl (q_load_aptr rfl rfl rfl (toNat_lt g224) rfl ty4) ?_
                    refine SOps.q rfl (.plain rfl) rfl (q_move rfl rfl) ?_
                    refine SOps.q rfl (.guard 5 67 true rfl rfl (gT g225)) rfl (q_move rfl rfl) ?_
                    refine SOps.q rfl (.guard 5 67 true rfl rfl (gT g225)) rfl (q_field_ptr rfl rfl fd50_0) ?_
                    refine SOps.q rfl (.guard 5 67 true rfl rfl (gT g225)) rfl (q_load_ptr rfl rfl rfl rfl ty3) ?_
                    refine SOps.q rfl (.guard 5 67 true rfl rfl (gT g225)) rfl (q_index_own rfl rfl rfl sl35 g226.1 g226.2) ?_
                    refine SOps.q rfl (.guard 5 67 true rfl rfl (gT g225)) rfl (q_load_aptr rfl rfl rfl (toNat_lt g226) rfl ty4) ?_
                    refine SOps.q rfl (.guard 5 67 true rfl rfl (gT g225)) rfl (q_not rfl rfl) ?_
                    refine SOps.q rfl (.plain rfl) rfl (q_pick_t rfl rfl g225 rfl) ?_
                    refine SOps.q rfl (.plain rfl) rfl (q_move rfl rfl) ?_
                    refine SOps.skip rfl 13 75 true rfl rfl (.inl (gF g227)) rfl ?_
                    refine SOps.skip rfl 13 75 true rfl rfl (.inl (gF g227)) rfl ?_
                    refine SOps.skip rfl 13 75 true rfl rfl (.inl (gF g227)) rfl ?_
                    refine SOps.skip rfl 13 75 true rfl rfl (.inl (gF g227)) rfl ?_
                    refine SOps.skip rfl 13 75 true rfl rfl (.inl (gF g227)) rfl ?_
                    refine SOps.q rfl (.plain rfl) rfl (q_pick_f rfl rfl g227 rfl) ?_
                    refine SOps.sub (st' := ⟨[(2, .c (.vec a2_l.length 1 (gL (cInt .i64) 0 a2_l))), (3, .c (.ptr 0 0)), (7, .c (.own 1 o1_223.length)), (8, .c (.int .i64 round_82)), (9, .c (.bool done_222)), (10, .c (.int .i64 i_192)), (11, .c (.ptr 2 0)), (81, .c (.bool false))], [.box [.int .i64 a0_n.Nodes, .vec a0_n.Arcs.length 3 (gL cSArc dSArc a0_n.Arcs)], .arr 4 1 o1_223.length (gL cBool false o1_223), .box [.int .i64 ((a0_n.Arcs.getD i_192.toNat dSArc).From), .int .i64 ((a0_n.Arcs.getD i_192.toNat dSArc).To), .int .i64 ((a0_n.Arcs.getD i_192.toNat dSArc).Cap)]]⟩) (sub_gen [0, 1, 2] rfl rfl ⟨zc rfl rfl, zc rfl rfl, zc rfl rfl, zc rfl rfl, zc rfl rfl, zc rfl rfl, zc rfl rfl, zc rfl rfl, trivial⟩ ⟨⟨_, rfl, ⟨ii rfl rfl, ii rfl rfl, trivial⟩⟩, oa rfl, ⟨_, rfl, ⟨ii rfl rfl, ii rfl rfl, ii rfl rfl, trivial⟩⟩, trivial⟩) ?_
                    refine SOps.nil ?_
                    refine SCode.cond_f rfl rfl ?_
                    refine SCode.skip ?_
                    exact ⟨(done_222, o1_223), h, sub_gen [0, 1] rfl rfl ⟨zc rfl rfl, zc rfl rfl, zc rfl rfl, zc rfl rfl, zc rfl rfl, zc rfl rfl, trivial⟩ ⟨⟨_, rfl, ⟨ii rfl rfl, ii rfl rfl, trivial⟩⟩, oa rfl, trivial⟩⟩
                  refine SCode.region (show SOps _ _ _ [0, 1, 2, 3, 4, 5, 6, 7, 8, 9, 10, 11, 12, 13, 14, 15, 16, 17, 18, 19] _ _ from ?_)
                  refine SOps.q rfl (.plain rfl) rfl (q_move rfl rfl) ?_
                  refine SOps.q rfl (.plain rfl) rfl (q_field_ptr rfl rfl fd50_1) ?_
                  refine SOps.q rfl (.plain rfl) rfl (q_load_ptr rfl rfl rfl rfl ty3) ?_
                  refine SOps.q rfl (.plain rfl) rfl (q_index_own rfl rfl rfl sl35 g224.1 g224.2) ?_
                  refine SOps.q rfl (.plain rfl) rfl (q_load_aptr rfl rfl rfl (toNat_lt g224) rfl ty4) ?_
                  refine SOps.q rfl (.plain rfl) rfl (q_move rfl rfl) ?_
                  refine SOps.skip rfl 5 67 true rfl rfl (.inl (gF g225)) rfl ?_
                  refine SOps.skip rfl 5 67 true rfl rfl (.inl (gF g225)) rfl ?_
                  refine SOps.skip rfl 5 67 true rfl rfl (.inl (gF g225)) rfl ?_
                  refine SOps.skip rfl 5 67 true rfl rfl (.inl (gF g225)) rfl ?_
                  refine SOps.skip rfl 5 67 true rfl rfl (.inl (gF g225)) rfl ?_
                  refine SOps.skip rfl 5 67 true rfl rfl (.inl (gF g225)) rfl ?_
                  refine SOps.q rfl (.plain rfl) rfl (q_pick_f rfl rfl g225 rfl) ?_
                  refine SOps.q rfl (.plain rfl) rfl (q_move rfl rfl) ?_
                  refine SOps.skip rfl 13 75 true rfl rfl (.inl rfl) rfl ?_
                  refine SOps.skip rfl 13 75 true rfl rfl (.inl rfl) rfl ?_
                  refine SOps.skip rfl 13 75 true rfl rfl (.inl rfl) rfl ?_
                  refine SOps.skip rfl 13 75 true rfl rfl (.inl rfl) rfl ?_
                  refine SOps.skip rfl 13 75 true rfl rfl (.inl rfl) rfl ?_
                  refine SOps.q rfl (.plain rfl) rfl (q_pick_f rfl rfl rfl rfl) ?_
                  refine SOps.sub (st' := ⟨[(2, .c (.vec a2_l.length 1 (gL (cInt .i64) 0 a2_l))), (3, .c (.ptr 0 0)), (7, .c (.own 1 o1_223.length)), (8, .c (.int .i64 round_82)), (9, .c (.bool done_222)), (10, .c (.int .i64 i_192)), (11, .c (.ptr 2 0)), (81, .c (.bool false))], [.box [.int .i64 a0_n.Nodes, .vec a0_n.Arcs.length 3 (gL cSArc dSArc a0_n.Arcs)], .arr 4 1 o1_223.length (gL cBool false o1_223), .box [.int .i64 ((a0_n.Arcs.getD i_192.toNat dSArc).From), .int .i64 ((a0_n.Arcs.getD i_192.toNat dSArc).To), .int .i64 ((a0_n.Arcs.getD i_192.toNat dSArc).Cap)]]⟩) (sub_gen [0, 1, 2] rfl rfl ⟨zc rfl rfl, zc rfl rfl, zc rfl rfl, zc rfl rfl, zc rfl rfl, zc rfl rfl, zc rfl rfl, zc rfl rfl, trivial⟩ ⟨⟨_, rfl, ⟨ii rfl rfl, ii rfl rfl, trivial⟩⟩, oa rfl, ⟨_, rfl, ⟨ii rfl rfl, ii rfl rfl, ii rfl rfl, trivial⟩⟩, trivial⟩) ?_
                  refine SOps.nil ?_
                  refine SCode.cond_f rfl rfl ?_
                  refine SCode.skip ?_
                  exact ⟨(done_222, o1_223), h, sub_gen [0, 1] rfl rfl ⟨zc rfl rfl, zc rfl rfl, zc rfl rfl, zc rfl rfl, zc rfl rfl, zc rfl rfl, trivial⟩ ⟨⟨_, rfl, ⟨ii rfl rfl, ii rfl rfl, trivial⟩⟩, oa rfl, trivial⟩⟩
                rintro ⟨done_218, o1_219⟩ h
                show SCode _ _ _ ⟨[(2, .c (.vec a2_l.length 1 (gL (cInt .i64) 0 a2_l))), (3, .c (.ptr 0 0)), (7, .c (.own 1 o1_219.length)), (8, .c (.int .i64 round_82)), (9, .c (.bool done_218)), (10, .c (.int .i64 i_192))], [.box [.int .i64 a0_n.Nodes, .vec a0_n.Arcs.length 3 (gL cSArc dSArc a0_n.Arcs)], .arr 4 1 o1_219.length (gL cBool false o1_219)]⟩ _
                replace h : chargenetref09_Reach_p220 i_192 (fun done_191 i_192 o1_193 => chargenetref09_Reach_l216 a0_n a2_l round_82 (fun round_82 o1_83 => chargenetref09_Reach_l161 F a0_n a2_l n_161 round_82 o1_83) n_216 done_191 i_192 o1_193) done_218 o1_219 = some r := h
                unfold chargenetref09_Reach_p220 at h
                refine SCode.region (show SOps _ _ _ [0, 1, 2] _ _ from ?_)
                refine SOps.q rfl (.plain rfl) rfl (q_move rfl rfl) ?_
                refine SOps.q rfl (.plain rfl) rfl (q_add rfl rfl rfl) ?_
                refine SOps.q rfl (.plain rfl) rfl (q_assign rfl rfl) ?_
                refine SOps.sub (st' := ⟨[(2, .c (.vec a2_l.length 1 (gL (cInt .i64) 0 a2_l))), (3, .c (.ptr 0 0)), (7, .c (.own 1 o1_219.length)), (8, .c (.int .i64 round_82)), (9, .c (.bool done_218)), (10, .c (.int .i64 (IntKind.wrap .i64 (i_192 + 1))))], [.box [.int .i64 a0_n.Nodes, .vec a0_n.Arcs.length 3 (gL cSArc dSArc a0_n.Arcs)], .arr 4 1 o1_219.length (gL cBool false o1_219)]⟩) (sub_gen [0, 1] rfl rfl ⟨zc rfl rfl, zc rfl rfl, zc rfl rfl, zc rfl rfl, zc rfl rfl, zc rfl rfl, trivial⟩ ⟨⟨_, rfl, ⟨ii rfl rfl, ii rfl rfl, trivial⟩⟩, oa rfl, trivial⟩) ?_
                refine SOps.nil ?_
                exact ⟨(n_216, (done_218, IntKind.wrap .i64 (i_192 + 1), o1_219)), h, Nat.lt_succ_self n_216, sub_gen [0, 1] rfl rfl ⟨zc rfl rfl, zc rfl rfl, zc rfl rfl, zc rfl rfl, zc rfl rfl, zc rfl rfl, trivial⟩ ⟨⟨_, rfl, ⟨ii rfl rfl, ii rfl rfl, trivial⟩⟩, oa rfl, trivial⟩⟩
              refine SCode.cond_f rfl g217 ?_
              refine SCode.exit ?_
              exact ⟨(done_191, o1_193), h, sub_gen [0, 1] rfl rfl ⟨zc rfl rfl, zc rfl rfl, zc rfl rfl, zc rfl rfl, zc rfl rfl, trivial⟩ ⟨⟨_, rfl, ⟨ii rfl rfl, ii rfl rfl, trivial⟩⟩, oa rfl, trivial⟩⟩
          rintro ⟨done_165, o1_166⟩ h
          show SCode _ _ _ ⟨[(2, .c (.vec a2_l.length 1 (gL (cInt .i64) 0 a2_l))), (3, .c (.ptr 0 0)), (7, .c (.own 1 o1_166.length)), (8, .c (.int .i64 round_82)), (9, .c (.bool done_165))], [.box [.int .i64 a0_n.Nodes, .vec a0_n.Arcs.length 3 (gL cSArc dSArc a0_n.Arcs)], .arr 4 1 o1_166.length (gL cBool false o1_166)]⟩ _
          replace h : chargenetref09_Reach_p168 round_82 (fun round_82 o1_83 => chargenetref09_Reach_l161 F a0_n a2_l n_161 round_82 o1_83) done_165 o1_166 = some r := h
          unfold chargenetref09_Reach_p168 at h
          refine SCode.seq ?_
          refine SCode.region (show SOps _ _ _ [0] _ _ from ?_)
          refine SOps.q rfl (.plain rfl) rfl (q_move rfl rfl) ?_
          refine SOps.sub (st' := ⟨[(2, .c (.vec a2_l.length 1 (gL (cInt .i64) 0 a2_l))), (3, .c (.ptr 0 0)), (7, .c (.own 1 o1_166.length)), (8, .c (.int .i64 round_82)), (86, .c (.bool done_165))], [.box [.int .i64 a0_n.Nodes, .vec a0_n.Arcs.length 3 (gL cSArc dSArc a0_n.Arcs)], .arr 4 1 o1_166.length (gL cBool false o1_166)]⟩) (sub_gen [0, 1] rfl rfl ⟨zc rfl rfl, zc rfl rfl, zc rfl rfl, zc rfl rfl, zc rfl rfl, trivial⟩ ⟨⟨_, rfl, ⟨ii rfl rfl, ii rfl rfl, trivial⟩⟩, oa rfl, trivial⟩) ?_
          refine SOps.nil ?_
          rcases cond_out h with ⟨g167, h⟩ | ⟨g167, h⟩
          · refine SCode.cond_t rfl g167 ?_
            refine SCode.seq ?_
            refine SCode.region (show SOps _ _ _ [0, 1] _ _ from ?_)
            refine SOps.q rfl (.plain rfl) rfl (q_move rfl rfl) ?_
            refine SOps.q rfl (.plain rfl) rfl (q_assign rfl rfl) ?_
            refine SOps.sub (st' := ⟨[(6, .c (.own 0 o1_166.length))], [.arr 4 1 o1_166.length (gL cBool false o1_166)]⟩) (sub_gen [1] rfl rfl ⟨zc rfl rfl, trivial⟩ ⟨oa rfl, trivial⟩) ?_
            refine SOps.nil ?_
            refine SCode.ret ?_
            obtain rfl := Option.some.inj h
            exact ⟨⟨[(6, .c (.vec o1_166.length 1 (gL cBool false o1_166)))], []⟩, _, sub_gen [] rfl rfl ⟨⟨_, rfl, .inr (.inl ⟨_, _, _, _, _, _, _, rfl, rfl, rfl, Nat.le_refl _, fun _ _ _ _ => rfl, by decide⟩)⟩, trivial⟩ trivial, resA1 (v := .c (.vec o1_166.length 1 (gL cBool false o1_166))) rfl rfl, rfl⟩
          refine SCode.cond_f rfl g167 ?_
          refine SCode.skip ?_
          exact ⟨o1_166, h, sub_gen [0, 1] rfl rfl ⟨zc rfl rfl, zc rfl rfl, zc rfl rfl, zc rfl rfl, trivial⟩ ⟨⟨_, rfl, ⟨ii rfl rfl, ii rfl rfl, trivial⟩⟩, oa rfl, trivial⟩⟩
        rintro o1_163 h
        show SCode _ _ _ ⟨[(2, .c (.vec a2_l.length 1 (gL (cInt .i64) 0 a2_l))), (3, .c (.ptr 0 0)), (7, .c (.own 1 o1_163.length)), (8, .c (.int .i64 round_82))], [.box [.int .i64 a0_n.Nodes, .vec a0_n.Arcs.length 3 (gL cSArc dSArc a0_n.Arcs)], .arr 4 1 o1_163.length (gL cBool false o1_163)]⟩ _
        replace h : chargenetref09_Reach_p164 round_82 (fun round_82 o1_83 => chargenetref09_Reach_l161 F a0_n a2_l n_161 round_82 o1_83) o1_163 = some r := h
        unfold chargenetref09_Reach_p164 at h
        refine SCode.region (show SOps _ _ _ [0, 1, 2] _ _ from ?_)
        refine SOps.q rfl (.plain rfl) rfl (q_move rfl rfl) ?_
        refine SOps.q rfl (.plain rfl) rfl (q_add rfl rfl rfl) ?_
        refine SOps.q rfl (.plain rfl) rfl (q_assign rfl rfl) ?_
        refine SOps.sub (st' := ⟨[(2, .c (.vec a2_l.length 1 (gL (cInt .i64) 0 a2_l))), (3, .c (.ptr 0 0)), (7, .c (.own 1 o1_163.length)), (8, .c (.int .i64 (IntKind.wrap .i64 (round_82 + 1))))], [.box [.int .i64 a0_n.Nodes, .vec a0_n.Arcs.length 3 (gL cSArc dSArc a0_n.Arcs)], .arr 4 1 o1_163.length (gL cBool false o1_163)]⟩) (sub_gen [0, 1] rfl rfl ⟨zc rfl rfl, zc rfl rfl, zc rfl rfl, zc rfl rfl, trivial⟩ ⟨⟨_, rfl, ⟨ii rfl rfl, ii rfl rfl, trivial⟩⟩, oa rfl, trivial⟩) ?_
        refine SOps.nil ?_
        exact ⟨(n_161, (IntKind.wrap .i64 (round_82 + 1), o1_163)), h, Nat.lt_succ_self n_161, sub_gen [0, 1] rfl rfl ⟨zc rfl rfl, zc rfl rfl, zc rfl rfl, zc rfl rfl, trivial⟩ ⟨⟨_, rfl, ⟨ii rfl rfl, ii rfl rfl, trivial⟩⟩, oa rfl, trivial⟩⟩
      refine SCode.cond_f rfl g162 ?_
      refine SCode.exit ?_
      exact ⟨o1_83, h, sub_gen [1] rfl rfl ⟨zc rfl rfl, trivial⟩ ⟨oa rfl, trivial⟩⟩
  rintro o0_3 h
  show SCode _ _ _ ⟨[(7, .c (.own 0 o0_3.length))], [.arr 4 1 o0_3.length (gL cBool false o0_3)]⟩ _
  replace h : chargenetref09_Reach_p4 o0_3 = some r := h
  unfold chargenetref09_Reach_p4 at h
  refine SCode.seq ?_
  refine SCode.region (show SOps _ _ _ [0, 1] _ _ from ?_)
  refine SOps.q rfl (.plain rfl) rfl (q_move rfl rfl) ?_
  refine SOps.q rfl (.plain rfl) rfl (q_assign rfl rfl) ?_
  refine SOps.sub (st' := ⟨[(6, .c (.own 0 o0_3.length))], [.arr 4 1 o0_3.length (gL cBool false o0_3)]⟩) (sub_gen [0] rfl rfl ⟨zc rfl rfl, trivial⟩ ⟨oa rfl, trivial⟩) ?_
  refine SOps.nil ?_
  refine SCode.ret ?_
  obtain rfl := Option.some.inj h
  exact ⟨⟨[(6, .c (.vec o0_3.length 1 (gL cBool false o0_3)))], []⟩, _, sub_gen [] rfl rfl ⟨⟨_, rfl, .inr (.inl ⟨_, _, _, _, _, _, _, rfl, rfl, rfl, Nat.le_refl _, fun _ _ _ _ => rfl, by decide⟩)⟩, trivial⟩ trivial, resA1 (v := .c (.vec o0_3.length 1 (gL cBool false o0_3))) rfl rfl, rfl⟩
end Go.Proofs.Ytbepoingholchaa.W
