/- Written by a program of ours (wip/eng/gen.py): the functions compute their models. -/
import Derived.Test.YtbepoingholchaaFacts
import Derived.Test.YtbepoingholchaaV7x5
namespace Go.Proofs.Ytbepoingholchaa.W
open Go Go.Proofs Go.Proofs.Ytbepoingholchaa.E Go.Proofs.Ytbepoingholchaa.M
set_option linter.unusedVariables false
set_option maxRecDepth 100000 in
set_option maxHeartbeats 8000000 in
theorem chargenetref09_Check_ok (F : Nat) (a0_n : SNet) (a1_source : Int) (a2_sink : Int) (a3_l : List Int) (r : Int × Bool) (h : chargenetref09_Check F a0_n a1_source a2_sink a3_l = some r) :
    SFun Try.prog 24 [] [.a [.int .i64 a0_n.Nodes, .vec a0_n.Arcs.length 3 (gL cSArc dSArc a0_n.Arcs)], .c (.int .i64 a1_source), .c (.int .i64 a2_sink), .c (.vec a3_l.length 1 (gL (cInt .i64) 0 a3_l))] (fun x _ => x = .t [.c (.int .i64 r.1), .c (.bool r.2)]) := by
  refine SFun.of (n := 108) Try.func24 rfl rfl rfl ?_
  unfold chargenetref09_Check at h
  show SCode _ _ _ ⟨[(0, .a [.int .i64 a0_n.Nodes, .vec a0_n.Arcs.length 3 (gL cSArc dSArc a0_n.Arcs)]), (1, .c (.int .i64 a1_source)), (2, .c (.int .i64 a2_sink)), (3, .c (.vec a3_l.length 1 (gL (cInt .i64) 0 a3_l)))], []⟩ _
  refine SCode.seq ?_
  refine SCode.region (show SOps _ _ _ [0, 1, 2] _ _ from ?_)
  refine SOps.e rfl (.plain rfl) (e_box rfl rfl rfl rfl rfl rfl) ?_
  refine SOps.q rfl (.plain rfl) rfl (q_assign rfl rfl) ?_
  refine SOps.q rfl (.plain rfl) rfl (q_assign rfl rfl) ?_
  refine SOps.sub (st' := ⟨[(1, .c (.int .i64 a1_source)), (2, .c (.int .i64 a2_sink)), (3, .c (.vec a3_l.length 1 (gL (cInt .i64) 0 a3_l))), (4, .c (.ptr 0 0))], [.box [.int .i64 a0_n.Nodes, .vec a0_n.Arcs.length 3 (gL cSArc dSArc a0_n.Arcs)]]⟩) (sub_gen [0] rfl rfl ⟨zc rfl rfl, zc rfl rfl, zc rfl rfl, zc rfl rfl, trivial⟩ ⟨⟨_, rfl, ⟨ii rfl rfl, ii rfl rfl, trivial⟩⟩, trivial⟩) ?_
  refine SOps.nil ?_
  refine SCode.seq ?_
  refine SCode.seq ?_
  obtain ⟨c_1, g2, h⟩ := bind_out h
  try dsimp only at h
  rcases cond_out h with ⟨g3, h⟩ | ⟨g3, h⟩
  · refine SCode.region (show SOps _ _ _ [0, 1, 2, 3, 4, 5, 6, 7, 8, 9, 10, 11, 12] _ _ from ?_)
    refine SOps.q rfl (.plain rfl) rfl (q_load_ptr_all rfl rfl rfl rfl rfl ty24) ?_
    refine SOps.q rfl (.plain rfl) rfl (q_move rfl rfl) ?_
    refine SOps.q rfl (.plain rfl) rfl (q_move rfl rfl) ?_
    refine SOps.q rfl (.plain rfl) rfl (q_call (chargenetref09_Ends_ok F a0_n a1_source a2_sink c_1 g2) [] rfl fn16 ⟨⟨rfl, rfl⟩, ⟨_, rfl, .inl ⟨rfl, rfl⟩⟩, ⟨_, rfl, .inl ⟨rfl, rfl⟩⟩, trivial⟩ (.inl rfl)) ?_
    refine SOps.q rfl (.plain rfl) rfl (q_neq rfl rfl rfl) ?_
    refine SOps.q rfl (.plain rfl) rfl (q_move rfl rfl) ?_
    refine SOps.skip rfl 5 19 false rfl rfl (.inl (gT g3)) rfl ?_
    refine SOps.skip rfl 5 19 false rfl rfl (.inl (gT g3)) rfl ?_
    refine SOps.skip rfl 5 19 false rfl rfl (.inl (gT g3)) rfl ?_
    refine SOps.skip rfl 5 19 false rfl rfl (.inl (gT g3)) rfl ?_
    refine SOps.skip rfl 5 19 false rfl rfl (.inl (gT g3)) rfl ?_
    refine SOps.skip rfl 5 19 false rfl rfl (.inl (gT g3)) rfl ?_
    refine SOps.q rfl (.plain rfl) rfl (q_pick_t rfl rfl g3 rfl) ?_
    refine SOps.sub (st' := ⟨[(1, .c (.int .i64 a1_source)), (2, .c (.int .i64 a2_sink)), (3, .c (.vec a3_l.length 1 (gL (cInt .i64) 0 a3_l))), (4, .c (.ptr 0 0)), (26, .c (.bool true))], [.box [.int .i64 a0_n.Nodes, .vec a0_n.Arcs.length 3 (gL cSArc dSArc a0_n.Arcs)]]⟩) (sub_gen [0] rfl rfl ⟨zc rfl rfl, zc rfl rfl, zc rfl rfl, zc rfl rfl, zc rfl rfl, trivial⟩ ⟨⟨_, rfl, ⟨ii rfl rfl, ii rfl rfl, trivial⟩⟩, trivial⟩) ?_
    refine SOps.nil ?_
    refine SCode.cond_t rfl rfl ?_
    refine SCode.seq ?_
    refine SCode.region (show SOps _ _ _ [0, 1] _ _ from ?_)
    refine SOps.q rfl (.plain rfl) rfl (q_assign rfl rfl) ?_
    refine SOps.q rfl (.plain rfl) rfl (q_assign rfl rfl) ?_
    refine SOps.sub (st' := ⟨[(8, .c (.int .i64 0)), (9, .c (.bool false))], []⟩) (sub_gen [] rfl rfl ⟨zc rfl rfl, zc rfl rfl, trivial⟩ trivial) ?_
    refine SOps.nil ?_
    refine SCode.ret ?_
    obtain rfl := Option.some.inj h
    exact ⟨⟨[(8, .c (.int .i64 0)), (9, .c (.bool false))], []⟩, _, sub_gen [] rfl rfl ⟨zc rfl rfl, zc rfl rfl, trivial⟩ trivial, resA2 (v1 := .c (.int .i64 0)) (v2 := .c (.bool false)) rfl rfl rfl, rfl⟩
  refine SCode.region (show SOps _ _ _ [0, 1, 2, 3, 4, 5, 6, 7, 8, 9, 10, 11, 12] _ _ from ?_)
  refine SOps.q rfl (.plain rfl) rfl (q_load_ptr_all rfl rfl rfl rfl rfl ty24) ?_
  refine SOps.q rfl (.plain rfl) rfl (q_move rfl rfl) ?_
  refine SOps.q rfl (.plain rfl) rfl (q_move rfl rfl) ?_
  refine SOps.q rfl (.plain rfl) rfl (q_call (chargenetref09_Ends_ok F a0_n a1_source a2_sink c_1 g2) [] rfl fn16 ⟨⟨rfl, rfl⟩, ⟨_, rfl, .inl ⟨rfl, rfl⟩⟩, ⟨_, rfl, .inl ⟨rfl, rfl⟩⟩, trivial⟩ (.inl rfl)) ?_
  refine SOps.q rfl (.plain rfl) rfl (q_neq rfl rfl rfl) ?_
  refine SOps.q rfl (.plain rfl) rfl (q_move rfl rfl) ?_
  refine SOps.q rfl (.guard 5 19 false rfl rfl (gF g3)) rfl (q_move rfl rfl) ?_
  refine SOps.q rfl (.guard 5 19 false rfl rfl (gF g3)) rfl (q_len_vec rfl rfl sl30) ?_
  refine SOps.q rfl (.guard 5 19 false rfl rfl (gF g3)) rfl (q_field_ptr rfl rfl fd24_1) ?_
  refine SOps.q rfl (.guard 5 19 false rfl rfl (gF g3)) rfl (q_load_ptr rfl rfl rfl rfl ty22) ?_
  refine SOps.q rfl (.guard 5 19 false rfl rfl (gF g3)) rfl (q_len_vec rfl rfl sl22) ?_
  refine SOps.q rfl (.guard 5 19 false rfl rfl (gF g3)) rfl (q_neq rfl rfl rfl) ?_
  refine SOps.q rfl (.plain rfl) rfl (q_pick_f rfl rfl g3 rfl) ?_
  refine SOps.sub (st' := ⟨[(1, .c (.int .i64 a1_source)), (2, .c (.int .i64 a2_sink)), (3, .c (.vec a3_l.length 1 (gL (cInt .i64) 0 a3_l))), (4, .c (.ptr 0 0)), (26, .c (.bool ((!decide (((a3_l).length : Int) = ((a0_n.Arcs).length : Int))))))], [.box [.int .i64 a0_n.Nodes, .vec a0_n.Arcs.length 3 (gL cSArc dSArc a0_n.Arcs)]]⟩) (sub_gen [0] rfl rfl ⟨zc rfl rfl, zc rfl rfl, zc rfl rfl, zc rfl rfl, zc rfl rfl, trivial⟩ ⟨⟨_, rfl, ⟨ii rfl rfl, ii rfl rfl, trivial⟩⟩, trivial⟩) ?_
  refine SOps.nil ?_
  rcases cond_out h with ⟨g4, h⟩ | ⟨g4, h⟩
  · refine SCode.cond_t rfl g4 ?_
    refine SCode.seq ?_
    refine SCode.region (show SOps _ _ _ [0, 1] _ _ from ?_)
    refine SOps.q rfl (.plain rfl) rfl (q_assign rfl rfl) ?_
    refine SOps.q rfl (.plain rfl) rfl (q_assign rfl rfl) ?_
    refine SOps.sub (st' := ⟨[(8, .c (.int .i64 0)), (9, .c (.bool false))], []⟩) (sub_gen [] rfl rfl ⟨zc rfl rfl, zc rfl rfl, trivial⟩ trivial) ?_
    refine SOps.nil ?_
    refine SCode.ret ?_
    obtain rfl := Option.some.inj h
    exact ⟨⟨[(8, .c (.int .i64 0)), (9, .c (.bool false))], []⟩, _, sub_gen [] rfl rfl ⟨zc rfl rfl, zc rfl rfl, trivial⟩ trivial, resA2 (v1 := .c (.int .i64 0)) (v2 := .c (.bool false)) rfl rfl rfl, rfl⟩
  refine SCode.cond_f rfl g4 ?_
  refine SCode.skip ?_
  refine SCode.seq ?_
  obtain ⟨g5, h⟩ := guard_out h
  refine SCode.region (show SOps _ _ _ [0, 1, 2, 3] _ _ from ?_)
  refine SOps.q rfl (.plain rfl) rfl (q_field_ptr rfl rfl fd24_0) ?_
  refine SOps.q rfl (.plain rfl) rfl (q_load_ptr rfl rfl rfl rfl ty3) ?_
  refine SOps.e rfl (.plain rfl) (e_makeL (c := (cInt .i64)) (d0 := 0) rfl rfl rfl rfl rfl sl30 z3 rfl rfl rfl g5.1 (Int.le_refl _) g5.2.1 g5.2.2) ?_
  refine SOps.q rfl (.plain rfl) rfl (q_assign rfl rfl) ?_
  refine SOps.sub (st' := ⟨[(1, .c (.int .i64 a1_source)), (2, .c (.int .i64 a2_sink)), (3, .c (.vec a3_l.length 1 (gL (cInt .i64) 0 a3_l))), (4, .c (.ptr 0 0)), (10, .c (.own 1 (List.replicate a0_n.Nodes.toNat (0 : Int)).length))], [.box [.int .i64 a0_n.Nodes, .vec a0_n.Arcs.length 3 (gL cSArc dSArc a0_n.Arcs)], .arr 3 1 (List.replicate a0_n.Nodes.toNat (0 : Int)).length (gL (cInt .i64) 0 (List.replicate a0_n.Nodes.toNat (0 : Int)))]⟩) (sub_gen [0, 1] rfl rfl ⟨zc rfl rfl, zc rfl rfl, zc rfl rfl, zc rfl rfl, zc rfl rfl, trivial⟩ ⟨⟨_, rfl, ⟨ii rfl rfl, ii rfl rfl, trivial⟩⟩, oa rfl, trivial⟩) ?_
  refine SOps.nil ?_
  refine SCode.join (σ := (List Int)) (S := fun s => ⟨[(1, .c (.int .i64 a1_source)), (2, .c (.int .i64 a2_sink)), (4, .c (.ptr 0 0)), (10, .c (.own 1 s.length))], [.box [.int .i64 a0_n.Nodes, .vec a0_n.Arcs.length 3 (gL cSArc dSArc a0_n.Arcs)], .arr 3 1 s.length (gL (cInt .i64) 0 s)]⟩) (g := fun s => chargenetref09_Check_p29 F a0_n a1_source a2_sink s = some r) ?_ ?_
  rotate_left
  · refine SCode.seq ?_
    refine SCode.region (show SOps _ _ _ [0] _ _ from ?_)
    refine SOps.q rfl (.plain rfl) rfl (q_assign rfl rfl) ?_
    refine SOps.sub (st' := ⟨[(1, .c (.int .i64 a1_source)), (2, .c (.int .i64 a2_sink)), (3, .c (.vec a3_l.length 1 (gL (cInt .i64) 0 a3_l))), (4, .c (.ptr 0 0)), (10, .c (.own 1 (List.replicate a0_n.Nodes.toNat (0 : Int)).length)), (11, .c (.int .i64 0))], [.box [.int .i64 a0_n.Nodes, .vec a0_n.Arcs.length 3 (gL cSArc dSArc a0_n.Arcs)], .arr 3 1 (List.replicate a0_n.Nodes.toNat (0 : Int)).length (gL (cInt .i64) 0 (List.replicate a0_n.Nodes.toNat (0 : Int)))]⟩) (sub_gen [0, 1] rfl rfl ⟨zc rfl rfl, zc rfl rfl, zc rfl rfl, zc rfl rfl, zc rfl rfl, zc rfl rfl, trivial⟩ ⟨⟨_, rfl, ⟨ii rfl rfl, ii rfl rfl, trivial⟩⟩, oa rfl, trivial⟩) ?_
    refine SOps.nil ?_
    refine SCode.block ?_
    refine SCode.sub (st' := ⟨[(1, .c (.int .i64 a1_source)), (2, .c (.int .i64 a2_sink)), (3, .c (.vec a3_l.length 1 (gL (cInt .i64) 0 a3_l))), (4, .c (.ptr 0 0)), (10, .c (.own 1 (List.replicate a0_n.Nodes.toNat (0 : Int)).length)), (11, .c (.int .i64 0))], [.box [.int .i64 a0_n.Nodes, .vec a0_n.Arcs.length 3 (gL cSArc dSArc a0_n.Arcs)], .arr 3 1 (List.replicate a0_n.Nodes.toNat (0 : Int)).length (gL (cInt .i64) 0 (List.replicate a0_n.Nodes.toNat (0 : Int)))]⟩) (sub_gen [0, 1] rfl rfl ⟨zc rfl rfl, zc rfl rfl, zc rfl rfl, zc rfl rfl, zc rfl rfl, zc rfl rfl, trivial⟩ ⟨⟨_, rfl, ⟨ii rfl rfl, ii rfl rfl, trivial⟩⟩, oa rfl, trivial⟩) ?_
    refine (SCode.loop (σ := Nat × (Int × (List Int))) (S := fun s => ⟨[(1, .c (.int .i64 a1_source)), (2, .c (.int .i64 a2_sink)), (3, .c (.vec a3_l.length 1 (gL (cInt .i64) 0 a3_l))), (4, .c (.ptr 0 0)), (10, .c (.own 1 s.2.2.length)), (11, .c (.int .i64 s.2.1))], [.box [.int .i64 a0_n.Nodes, .vec a0_n.Arcs.length 3 (gL cSArc dSArc a0_n.Arcs)], .arr 3 1 s.2.2.length (gL (cInt .i64) 0 s.2.2)]⟩) (g := fun s => chargenetref09_Check_l56 F a0_n a1_source a2_sink a3_l s.1 s.2.1 s.2.2 = some r) (μ := fun s => s.1) (F, (0, List.replicate a0_n.Nodes.toNat (0 : Int))) h ?_)
    rintro ⟨n_56, ⟨i_42, o1_43⟩⟩ h
    replace h : chargenetref09_Check_l56 F a0_n a1_source a2_sink a3_l n_56 i_42 o1_43 = some r := h
    show SCode _ _ _ ⟨[(1, .c (.int .i64 a1_source)), (2, .c (.int .i64 a2_sink)), (3, .c (.vec a3_l.length 1 (gL (cInt .i64) 0 a3_l))), (4, .c (.ptr 0 0)), (10, .c (.own 1 o1_43.length)), (11, .c (.int .i64 i_42))], [.box [.int .i64 a0_n.Nodes, .vec a0_n.Arcs.length 3 (gL cSArc dSArc a0_n.Arcs)], .arr 3 1 o1_43.length (gL (cInt .i64) 0 o1_43)]⟩ _
    cases n_56 with
    | zero => cases h
    | succ n_56 =>
      replace h : chargenetref09_Check_b56 F a0_n a1_source a2_sink a3_l (fun i_42 o1_43 => chargenetref09_Check_l56 F a0_n a1_source a2_sink a3_l n_56 i_42 o1_43) i_42 o1_43 = some r := h
      unfold chargenetref09_Check_b56 at h
      refine SCode.seq ?_
      refine SCode.seq ?_
      refine SCode.region (show SOps _ _ _ [0, 1, 2, 3] _ _ from ?_)
      refine SOps.q rfl (.plain rfl) rfl (q_move rfl rfl) ?_
      refine SOps.q rfl (.plain rfl) rfl (q_move rfl rfl) ?_
      refine SOps.q rfl (.plain rfl) rfl (q_len_vec rfl rfl sl30) ?_
      refine SOps.q rfl (.plain rfl) rfl (q_lss rfl rfl rfl) ?_
      refine SOps.sub (st' := ⟨[(1, .c (.int .i64 a1_source)), (2, .c (.int .i64 a2_sink)), (3, .c (.vec a3_l.length 1 (gL (cInt .i64) 0 a3_l))), (4, .c (.ptr 0 0)), (10, .c (.own 1 o1_43.length)), (11, .c (.int .i64 i_42)), (33, .c (.bool (decide (i_42 < ((a3_l).length : Int)))))], [.box [.int .i64 a0_n.Nodes, .vec a0_n.Arcs.length 3 (gL cSArc dSArc a0_n.Arcs)], .arr 3 1 o1_43.length (gL (cInt .i64) 0 o1_43)]⟩) (sub_gen [0, 1] rfl rfl ⟨zc rfl rfl, zc rfl rfl, zc rfl rfl, zc rfl rfl, zc rfl rfl, zc rfl rfl, zc rfl rfl, trivial⟩ ⟨⟨_, rfl, ⟨ii rfl rfl, ii rfl rfl, trivial⟩⟩, oa rfl, trivial⟩) ?_
      refine SOps.nil ?_
      rcases cond_out h with ⟨g57, h⟩ | ⟨g57, h⟩
      · refine SCode.cond_t rfl g57 ?_
        refine SCode.skip ?_
        refine SCode.seq ?_
        refine SCode.block ?_
        refine SCode.seq ?_
        obtain ⟨g58, h⟩ := guard_out h
        refine SCode.region (show SOps _ _ _ [0, 1, 2, 3, 4, 5, 6] _ _ from ?_)
        refine SOps.q rfl (.plain rfl) rfl (q_field_ptr rfl rfl fd24_1) ?_
        refine SOps.q rfl (.plain rfl) rfl (q_load_ptr rfl rfl rfl rfl ty22) ?_
        refine SOps.q rfl (.plain rfl) rfl (q_move rfl rfl) ?_
        refine SOps.q rfl (.plain rfl) rfl (q_index_vec rfl rfl rfl sl22 rfl g58.1 g58.2) ?_
        refine SOps.q rfl (.plain rfl) rfl (q_load_eptr_all rfl rfl rfl ty50) ?_
        refine SOps.e rfl (.plain rfl) (e_alloc rfl rfl rfl z50) ?_
        refine SOps.e rfl (.plain rfl) (e_store_box rfl rfl rfl rfl rfl ty50 rfl rfl rfl rfl) ?_
        refine SOps.sub (st' := ⟨[(1, .c (.int .i64 a1_source)), (2, .c (.int .i64 a2_sink)), (3, .c (.vec a3_l.length 1 (gL (cInt .i64) 0 a3_l))), (4, .c (.ptr 0 0)), (10, .c (.own 1 o1_43.length)), (11, .c (.int .i64 i_42)), (12, .c (.ptr 2 0))], [.box [.int .i64 a0_n.Nodes, .vec a0_n.Arcs.length 3 (gL cSArc dSArc a0_n.Arcs)], .arr 3 1 o1_43.length (gL (cInt .i64) 0 o1_43), .box [.int .i64 ((a0_n.Arcs.getD i_42.toNat dSArc).From), .int .i64 ((a0_n.Arcs.getD i_42.toNat dSArc).To), .int .i64 ((a0_n.Arcs.getD i_42.toNat dSArc).Cap)]]⟩) (sub_gen [0, 1, 2] rfl rfl ⟨zc rfl rfl, zc rfl rfl, zc rfl rfl, zc rfl rfl, zc rfl rfl, zc rfl rfl, zc rfl rfl, trivial⟩ ⟨⟨_, rfl, ⟨ii rfl rfl, ii rfl rfl, trivial⟩⟩, oa rfl, ⟨_, rfl, ⟨ii rfl rfl, ii rfl rfl, ii rfl rfl, trivial⟩⟩, trivial⟩) ?_
        refine SOps.nil ?_
        refine SCode.seq ?_
        refine SCode.seq ?_
        obtain ⟨g59, h⟩ := guard_out h
        rcases cond_out h with ⟨g60, h⟩ | ⟨g60, h⟩
        · refine SCode.draw (s' := [(54, .c (.bool true)), (53, .c (.raw (.tuple #[]))), (52, .c (.raw (.tuple #[]))), (51, .c (.raw (.tuple #[]))), (50, .c (.raw (.tuple #[]))), (49, .c (.raw (.tuple #[]))), (48, .c (.raw (.tuple #[]))), (47, .c (.raw (.tuple #[]))), (46, .c (.bool (decide (a3_l.getD i_42.toNat 0 < 0)))), (45, .c (.bool (decide (a3_l.getD i_42.toNat 0 < 0)))), (44, .c (.int .i64 (a3_l.getD i_42.toNat 0))), (43, .c (.eptr 1 ((cInt .i64) (a3_l.getD i_42.toNat 0)) 0)), (42, .c (.int .i64 i_42)), (41, .c (.vec a3_l.length 1 (gL (cInt .i64) 0 a3_l))), (1, .c (.int .i64 a1_source)), (2, .c (.int .i64 a2_sink)), (3, .c (.vec a3_l.length 1 (gL (cInt .i64) 0 a3_l))), (4, .c (.ptr 0 0)), (10, .c (.own 1 o1_43.length)), (11, .c (.int .i64 i_42)), (12, .c (.ptr 2 0))]) mixed [[], [], [0, 1], [0, 1, 2], [0, 1, 2, 3], [0, 1, 2, 3, 4], [0, 1, 2, 3, 4, 5], [0, 1, 2, 3, 4, 5], [0, 1, 2, 3, 4, 5, 6, 7], [0, 1, 2, 3, 4, 5, 6, 7, 8], [0, 1, 2, 3, 4, 5], [0, 1, 2, 3, 4, 5, 10], [0, 1, 2, 3, 4, 5, 6, 7, 8, 9, 10, 11], [0, 1, 2, 3, 4, 5, 6, 7, 8, 9, 10, 11, 12]] 14 0 rfl rfl ?_ ?_
          · refine QChain.run rfl (.plain rfl) rfl (q_move rfl rfl) ?_
            refine QChain.run rfl (.plain rfl) rfl (q_move rfl rfl) ?_
            refine QChain.run rfl (.plain rfl) rfl (q_index_vec rfl rfl rfl sl30 rfl g59.1 g59.2) ?_
            refine QChain.run rfl (.plain rfl) rfl (q_load_eptr rfl rfl ty3) ?_
            refine QChain.run rfl (.plain rfl) rfl (q_lss rfl rfl rfl) ?_
            refine QChain.run rfl (.plain rfl) rfl (q_move rfl rfl) ?_
            refine QChain.skip rfl ⟨5, 46, false, rfl, rfl, (.inl (gT g60))⟩ rfl ?_
            refine QChain.skip rfl ⟨5, 46, false, rfl, rfl, (.inl (gT g60))⟩ rfl ?_
            refine QChain.skip rfl ⟨5, 46, false, rfl, rfl, (.inl (gT g60))⟩ rfl ?_
            refine QChain.skip rfl ⟨5, 46, false, rfl, rfl, (.inl (gT g60))⟩ rfl ?_
            refine QChain.skip rfl ⟨5, 46, false, rfl, rfl, (.inl (gT g60))⟩ rfl ?_
            refine QChain.skip rfl ⟨5, 46, false, rfl, rfl, (.inl (gT g60))⟩ rfl ?_
            refine QChain.skip rfl ⟨5, 46, false, rfl, rfl, (.inl (gT g60))⟩ rfl ?_
            refine QChain.run rfl (.plain rfl) rfl (q_pick_t rfl rfl g60 rfl) ?_
            exact QChain.nil _ _
          refine (show SOps _ _ _ [] _ _ from ?_)
          refine SOps.sub (st' := ⟨[(1, .c (.int .i64 a1_source)), (2, .c (.int .i64 a2_sink)), (3, .c (.vec a3_l.length 1 (gL (cInt .i64) 0 a3_l))), (4, .c (.ptr 0 0)), (10, .c (.own 1 o1_43.length)), (11, .c (.int .i64 i_42)), (12, .c (.ptr 2 0)), (54, .c (.bool true))], [.box [.int .i64 a0_n.Nodes, .vec a0_n.Arcs.length 3 (gL cSArc dSArc a0_n.Arcs)], .arr 3 1 o1_43.length (gL (cInt .i64) 0 o1_43), .box [.int .i64 ((a0_n.Arcs.getD i_42.toNat dSArc).From), .int .i64 ((a0_n.Arcs.getD i_42.toNat dSArc).To), .int .i64 ((a0_n.Arcs.getD i_42.toNat dSArc).Cap)]]⟩) (sub_gen [0, 1, 2] rfl rfl ⟨zc rfl rfl, zc rfl rfl, zc rfl rfl, zc rfl rfl, zc rfl rfl, zc rfl rfl, zc rfl rfl, zc rfl rfl, trivial⟩ ⟨⟨_, rfl, ⟨ii rfl rfl, ii rfl rfl, trivial⟩⟩, oa rfl, ⟨_, rfl, ⟨ii rfl rfl, ii rfl rfl, ii rfl rfl, trivial⟩⟩, trivial⟩) ?_
          refine SOps.nil ?_
          refine SCode.cond_t rfl rfl ?_
          refine SCode.seq ?_
          refine SCode.region (show SOps _ _ _ [0, 1] _ _ from ?_)
          refine SOps.q rfl (.plain rfl) rfl (q_assign rfl rfl) ?_
          refine SOps.q rfl (.plain rfl) rfl (q_assign rfl rfl) ?_
          refine SOps.sub (st' := ⟨[(8, .c (.int .i64 0)), (9, .c (.bool false))], []⟩) (sub_gen [] rfl rfl ⟨zc rfl rfl, zc rfl rfl, trivial⟩ trivial) ?_
          refine SOps.nil ?_
          refine SCode.ret ?_
          obtain rfl := Option.some.inj h
          exact ⟨⟨[(8, .c (.int .i64 0)), (9, .c (.bool false))], []⟩, _, sub_gen [] rfl rfl ⟨zc rfl rfl, zc rfl rfl, trivial⟩ trivial, resA2 (v1 := .c (.int .i64 0)) (v2 := .c (.bool false)) rfl rfl rfl, rfl⟩
        obtain ⟨g61, h⟩ := guard_out h
        refine SCode.draw (s' := [(54, .c (.bool (decide ((a0_n.Arcs.getD i_42.toNat dSArc).Cap < a3_l.getD i_42.toNat 0)))), (53, .c (.bool (decide ((a0_n.Arcs.getD i_42.toNat dSArc).Cap < a3_l.getD i_42.toNat 0)))), (52, .c (.int .i64 ((a0_n.Arcs.getD i_42.toNat dSArc).Cap))), (51, .c (.ptr 2 2)), (50, .c (.int .i64 (a3_l.getD i_42.toNat 0))), (49, .c (.eptr 1 ((cInt .i64) (a3_l.getD i_42.toNat 0)) 0)), (48, .c (.int .i64 i_42)), (47, .c (.vec a3_l.length 1 (gL (cInt .i64) 0 a3_l))), (46, .c (.bool (decide (a3_l.getD i_42.toNat 0 < 0)))), (45, .c (.bool (decide (a3_l.getD i_42.toNat 0 < 0)))), (44, .c (.int .i64 (a3_l.getD i_42.toNat 0))), (43, .c (.eptr 1 ((cInt .i64) (a3_l.getD i_42.toNat 0)) 0)), (42, .c (.int .i64 i_42)), (41, .c (.vec a3_l.length 1 (gL (cInt .i64) 0 a3_l))), (1, .c (.int .i64 a1_source)), (2, .c (.int .i64 a2_sink)), (3, .c (.vec a3_l.length 1 (gL (cInt .i64) 0 a3_l))), (4, .c (.ptr 0 0)), (10, .c (.own 1 o1_43.length)), (11, .c (.int .i64 i_42)), (12, .c (.ptr 2 0))]) mixed [[], [], [0, 1], [0, 1, 2], [0, 1, 2, 3], [0, 1, 2, 3, 4], [0, 1, 2, 3, 4, 5], [0, 1, 2, 3, 4, 5], [0, 1, 2, 3, 4, 5, 6, 7], [0, 1, 2, 3, 4, 5, 6, 7, 8], [0, 1, 2, 3, 4, 5], [0, 1, 2, 3, 4, 5, 10], [0, 1, 2, 3, 4, 5, 6, 7, 8, 9, 10, 11], [0, 1, 2, 3, 4, 5, 6, 7, 8, 9, 10, 11, 12]] 14 0 rfl rfl ?_ ?_
        · refine QChain.run rfl (.plain rfl) rfl (q_move rfl rfl) ?_
          refine QChain.run rfl (.plain rfl) rfl (q_move rfl rfl) ?_
          refine QChain.run rfl (.plain rfl) rfl (q_index_vec rfl rfl rfl sl30 rfl g59.1 g59.2) ?_
          refine QChain.run rfl (.plain rfl) rfl (q_load_eptr rfl rfl ty3) ?_
          refine QChain.run rfl (.plain rfl) rfl (q_lss rfl rfl rfl) ?_
          refine QChain.run rfl (.plain rfl) rfl (q_move rfl rfl) ?_
          refine QChain.run rfl (.guard 5 46 false rfl rfl (gF g60)) rfl (q_move rfl rfl) ?_
          refine QChain.run rfl (.guard 5 46 false rfl rfl (gF g60)) rfl (q_move rfl rfl) ?_
          refine QChain.run rfl (.guard 5 46 false rfl rfl (gF g60)) rfl (q_index_vec rfl rfl rfl sl30 rfl g61.1 g61.2) ?_
          refine QChain.run rfl (.guard 5 46 false rfl rfl (gF g60)) rfl (q_load_eptr rfl rfl ty3) ?_
          refine QChain.run rfl (.guard 5 46 false rfl rfl (gF g60)) rfl (q_field_ptr rfl rfl fd50_2) ?_
          refine QChain.run rfl (.guard 5 46 false rfl rfl (gF g60)) rfl (q_load_ptr rfl rfl rfl rfl ty3) ?_
          refine QChain.run rfl (.guard 5 46 false rfl rfl (gF g60)) rfl (q_gtr rfl rfl rfl) ?_
          refine QChain.run rfl (.plain rfl) rfl (q_pick_f rfl rfl g60 rfl) ?_
          exact QChain.nil _ _
        refine (show SOps _ _ _ [] _ _ from ?_)
        refine SOps.sub (st' := ⟨[(1, .c (.int .i64 a1_source)), (2, .c (.int .i64 a2_sink)), (3, .c (.vec a3_l.length 1 (gL (cInt .i64) 0 a3_l))), (4, .c (.ptr 0 0)), (10, .c (.own 1 o1_43.length)), (11, .c (.int .i64 i_42)), (12, .c (.ptr 2 0)), (54, .c (.bool (decide ((a0_n.Arcs.getD i_42.toNat dSArc).Cap < a3_l.getD i_42.toNat 0))))], [.box [.int .i64 a0_n.Nodes, .vec a0_n.Arcs.length 3 (gL cSArc dSArc a0_n.Arcs)], .arr 3 1 o1_43.length (gL (cInt .i64) 0 o1_43), .box [.int .i64 ((a0_n.Arcs.getD i_42.toNat dSArc).From), .int .i64 ((a0_n.Arcs.getD i_42.toNat dSArc).To), .int .i64 ((a0_n.Arcs.getD i_42.toNat dSArc).Cap)]]⟩) (sub_gen [0, 1, 2] rfl rfl ⟨zc rfl rfl, zc rfl rfl, zc rfl rfl, zc rfl rfl, zc rfl rfl, zc rfl rfl, zc rfl rfl, zc rfl rfl, trivial⟩ ⟨⟨_, rfl, ⟨ii rfl rfl, ii rfl rfl, trivial⟩⟩, oa rfl, ⟨_, rfl, ⟨ii rfl rfl, ii rfl rfl, ii rfl rfl, trivial⟩⟩, trivial⟩) ?_
        refine SOps.nil ?_
        rcases cond_out h with ⟨g62, h⟩ | ⟨g62, h⟩
        · refine SCode.cond_t rfl g62 ?_
          refine SCode.seq ?_
          refine SCode.region (show SOps _ _ _ [0, 1] _ _ from ?_)
          refine SOps.q rfl (.plain rfl) rfl (q_assign rfl rfl) ?_
          refine SOps.q rfl (.plain rfl) rfl (q_assign rfl rfl) ?_
          refine SOps.sub (st' := ⟨[(8, .c (.int .i64 0)), (9, .c (.bool false))], []⟩) (sub_gen [] rfl rfl ⟨zc rfl rfl, zc rfl rfl, trivial⟩ trivial) ?_
          refine SOps.nil ?_
          refine SCode.ret ?_
          obtain rfl := Option.some.inj h
          exact ⟨⟨[(8, .c (.int .i64 0)), (9, .c (.bool false))], []⟩, _, sub_gen [] rfl rfl ⟨zc rfl rfl, zc rfl rfl, trivial⟩ trivial, resA2 (v1 := .c (.int .i64 0)) (v2 := .c (.bool false)) rfl rfl rfl, rfl⟩
        refine SCode.cond_f rfl g62 ?_
        refine SCode.skip ?_
        refine SCode.seq ?_
        obtain ⟨g63, h⟩ := guard_out h
        obtain ⟨g64, h⟩ := guard_out h
        obtain ⟨g65, h⟩ := guard_out h
        refine SCode.draw (s' := [(68, .c (.aptr 1 1 (((a0_n.Arcs.getD i_42.toNat dSArc).From).toNat) 0)), (67, .c (.int .i64 (IntKind.wrap .i64 (o1_43.getD (((a0_n.Arcs.getD i_42.toNat dSArc).From).toNat) 0 + a3_l.getD i_42.toNat 0)))), (66, .c (.int .i64 (a3_l.getD i_42.toNat 0))), (65, .c (.eptr 1 ((cInt .i64) (a3_l.getD i_42.toNat 0)) 0)), (64, .c (.int .i64 i_42)), (63, .c (.vec a3_l.length 1 (gL (cInt .i64) 0 a3_l))), (62, .c (.int .i64 (o1_43.getD (((a0_n.Arcs.getD i_42.toNat dSArc).From).toNat) 0))), (61, .c (.aptr 1 1 (((a0_n.Arcs.getD i_42.toNat dSArc).From).toNat) 0)), (60, .c (.int .i64 ((a0_n.Arcs.getD i_42.toNat dSArc).From))), (59, .c (.ptr 2 0)), (58, .c (.own 1 o1_43.length)), (57, .c (.int .i64 ((a0_n.Arcs.getD i_42.toNat dSArc).From))), (56, .c (.ptr 2 0)), (55, .c (.own 1 o1_43.length)), (1, .c (.int .i64 a1_source)), (2, .c (.int .i64 a2_sink)), (3, .c (.vec a3_l.length 1 (gL (cInt .i64) 0 a3_l))), (4, .c (.ptr 0 0)), (10, .c (.own 1 o1_43.length)), (11, .c (.int .i64 i_42)), (12, .c (.ptr 2 0)), (54, .c (.bool (decide ((a0_n.Arcs.getD i_42.toNat dSArc).Cap < a3_l.getD i_42.toNat 0))))]) mixed [[], [], [1], [], [], [4], [3, 4, 5], [3, 4, 5, 6], [], [], [8, 9], [8, 9, 10], [3, 4, 5, 6, 7, 8, 9, 10, 11], [0, 1, 2, 3, 4, 5, 6, 7, 8, 9, 10, 11, 12], [0, 1, 2, 3, 4, 5, 6, 7, 8, 9, 10, 11, 12, 13]] 14 1 rfl rfl ?_ ?_
        · refine QChain.run rfl (.plain rfl) rfl (q_move rfl rfl) ?_
          refine QChain.run rfl (.plain rfl) rfl (q_field_ptr rfl rfl fd50_0) ?_
          refine QChain.run rfl (.plain rfl) rfl (q_load_ptr rfl rfl rfl rfl ty3) ?_
          refine QChain.run rfl (.plain rfl) rfl (q_move rfl rfl) ?_
          refine QChain.run rfl (.plain rfl) rfl (q_field_ptr rfl rfl fd50_0) ?_
          refine QChain.run rfl (.plain rfl) rfl (q_load_ptr rfl rfl rfl rfl ty3) ?_
          refine QChain.run rfl (.plain rfl) rfl (q_index_own rfl rfl rfl sl30 g63.1 g63.2) ?_
          refine QChain.run rfl (.plain rfl) rfl (q_load_aptr rfl rfl rfl (toNat_lt g63) rfl ty3) ?_
          refine QChain.run rfl (.plain rfl) rfl (q_move rfl rfl) ?_
          refine QChain.run rfl (.plain rfl) rfl (q_move rfl rfl) ?_
          refine QChain.run rfl (.plain rfl) rfl (q_index_vec rfl rfl rfl sl30 rfl g64.1 g64.2) ?_
          refine QChain.run rfl (.plain rfl) rfl (q_load_eptr rfl rfl ty3) ?_
          refine QChain.run rfl (.plain rfl) rfl (q_add rfl rfl rfl) ?_
          refine QChain.run rfl (.plain rfl) rfl (q_index_own rfl rfl rfl sl30 g65.1 g65.2) ?_
          exact QChain.nil _ _
        refine (show SOps _ _ _ [14] _ _ from ?_)
        refine SOps.e rfl (.plain rfl) (e_storeL (IntKind.wrap .i64 (o1_43.getD (((a0_n.Arcs.getD i_42.toNat dSArc).From).toNat) 0 + a3_l.getD i_42.toNat 0)) rfl rfl rfl rfl rfl (toNat_lt g65) ty3 rfl rfl rfl rfl rfl rfl) ?_
        refine SOps.sub (st' := ⟨[(1, .c (.int .i64 a1_source)), (2, .c (.int .i64 a2_sink)), (3, .c (.vec a3_l.length 1 (gL (cInt .i64) 0 a3_l))), (4, .c (.ptr 0 0)), (10, .c (.own 1 (o1_43.set (((a0_n.Arcs.getD i_42.toNat dSArc).From).toNat) (IntKind.wrap .i64 (o1_43.getD (((a0_n.Arcs.getD i_42.toNat dSArc).From).toNat) 0 + a3_l.getD i_42.toNat 0))).length)), (11, .c (.int .i64 i_42)), (12, .c (.ptr 2 0))], [.box [.int .i64 a0_n.Nodes, .vec a0_n.Arcs.length 3 (gL cSArc dSArc a0_n.Arcs)], .arr 3 1 (o1_43.set (((a0_n.Arcs.getD i_42.toNat dSArc).From).toNat) (IntKind.wrap .i64 (o1_43.getD (((a0_n.Arcs.getD i_42.toNat dSArc).From).toNat) 0 + a3_l.getD i_42.toNat 0))).length (gL (cInt .i64) 0 (o1_43.set (((a0_n.Arcs.getD i_42.toNat dSArc).From).toNat) (IntKind.wrap .i64 (o1_43.getD (((a0_n.Arcs.getD i_42.toNat dSArc).From).toNat) 0 + a3_l.getD i_42.toNat 0)))), .box [.int .i64 ((a0_n.Arcs.getD i_42.toNat dSArc).From), .int .i64 ((a0_n.Arcs.getD i_42.toNat dSArc).To), .int .i64 ((a0_n.Arcs.getD i_42.toNat dSArc).Cap)]]⟩) (sub_gen [0, 1, 2] rfl rfl ⟨zc rfl rfl, zc rfl rfl, zc rfl rfl, zc rfl rfl, ⟨_, rfl, .inl ⟨rfl, congrArg (Cell.own 1) (List.length_set : (o1_43.set (((a0_n.Arcs.getD i_42.toNat dSArc).From).toNat) (IntKind.wrap .i64 (o1_43.getD (((a0_n.Arcs.getD i_42.toNat dSArc).From).toNat) 0 + a3_l.getD i_42.toNat 0))).length = o1_43.length).symm⟩⟩, zc rfl rfl, zc rfl rfl, trivial⟩ ⟨⟨_, rfl, ⟨ii rfl rfl, ii rfl rfl, trivial⟩⟩, oa rfl, ⟨_, rfl, ⟨ii rfl rfl, ii rfl rfl, ii rfl rfl, trivial⟩⟩, trivial⟩) ?_
        refine SOps.nil ?_
        obtain ⟨g66, h⟩ := guard_out h
        obtain ⟨g67, h⟩ := guard_out h
        obtain ⟨g68, h⟩ := guard_out h
        refine SCode.draw (s' := [(82, .c (.aptr 1 1 (((a0_n.Arcs.getD i_42.toNat dSArc).To).toNat) 0)), (81, .c (.int .i64 (IntKind.wrap .i64 ((o1_43.set (((a0_n.Arcs.getD i_42.toNat dSArc).From).toNat) (IntKind.wrap .i64 (o1_43.getD (((a0_n.Arcs.getD i_42.toNat dSArc).From).toNat) 0 + a3_l.getD i_42.toNat 0))).getD (((a0_n.Arcs.getD i_42.toNat dSArc).To).toNat) 0 - a3_l.getD i_42.toNat 0)))), (80, .c (.int .i64 (a3_l.getD i_42.toNat 0))), (79, .c (.eptr 1 ((cInt .i64) (a3_l.getD i_42.toNat 0)) 0)), (78, .c (.int .i64 i_42)), (77, .c (.vec a3_l.length 1 (gL (cInt .i64) 0 a3_l))), (76, .c (.int .i64 ((o1_43.set (((a0_n.Arcs.getD i_42.toNat dSArc).From).toNat) (IntKind.wrap .i64 (o1_43.getD (((a0_n.Arcs.getD i_42.toNat dSArc).From).toNat) 0 + a3_l.getD i_42.toNat 0))).getD (((a0_n.Arcs.getD i_42.toNat dSArc).To).toNat) 0))), (75, .c (.aptr 1 1 (((a0_n.Arcs.getD i_42.toNat dSArc).To).toNat) 0)), (74, .c (.int .i64 ((a0_n.Arcs.getD i_42.toNat dSArc).To))), (73, .c (.ptr 2 1)), (72, .c (.own 1 (o1_43.set (((a0_n.Arcs.getD i_42.toNat dSArc).From).toNat) (IntKind.wrap .i64 (o1_43.getD (((a0_n.Arcs.getD i_42.toNat dSArc).From).toNat) 0 + a3_l.getD i_42.toNat 0))).length)), (71, .c (.int .i64 ((a0_n.Arcs.getD i_42.toNat dSArc).To))), (70, .c (.ptr 2 1)), (69, .c (.own 1 (o1_43.set (((a0_n.Arcs.getD i_42.toNat dSArc).From).toNat) (IntKind.wrap .i64 (o1_43.getD (((a0_n.Arcs.getD i_42.toNat dSArc).From).toNat) 0 + a3_l.getD i_42.toNat 0))).length)), (1, .c (.int .i64 a1_source)), (2, .c (.int .i64 a2_sink)), (3, .c (.vec a3_l.length 1 (gL (cInt .i64) 0 a3_l))), (4, .c (.ptr 0 0)), (10, .c (.own 1 (o1_43.set (((a0_n.Arcs.getD i_42.toNat dSArc).From).toNat) (IntKind.wrap .i64 (o1_43.getD (((a0_n.Arcs.getD i_42.toNat dSArc).From).toNat) 0 + a3_l.getD i_42.toNat 0))).length)), (11, .c (.int .i64 i_42)), (12, .c (.ptr 2 0))]) mixed [[], [], [1], [], [], [4], [3, 4, 5], [3, 4, 5, 6], [], [], [8, 9], [8, 9, 10], [3, 4, 5, 6, 7, 8, 9, 10, 11], [0, 1, 2, 3, 4, 5, 6, 7, 8, 9, 10, 11, 12], [0, 1, 2, 3, 4, 5, 6, 7, 8, 9, 10, 11, 12, 13]] 14 1 rfl rfl ?_ ?_
        · refine QChain.run rfl (.plain rfl) rfl (q_move rfl rfl) ?_
          refine QChain.run rfl (.plain rfl) rfl (q_field_ptr rfl rfl fd50_1) ?_
          refine QChain.run rfl (.plain rfl) rfl (q_load_ptr rfl rfl rfl rfl ty3) ?_
          refine QChain.run rfl (.plain rfl) rfl (q_move rfl rfl) ?_
          refine QChain.run rfl (.plain rfl) rfl (q_field_ptr rfl rfl fd50_1) ?_
          refine QChain.run rfl (.plain rfl) rfl (q_load_ptr rfl rfl rfl rfl ty3) ?_
          refine QChain.run rfl (.plain rfl) rfl (q_index_own rfl rfl rfl sl30 g66.1 g66.2) ?_
          refine QChain.run rfl (.plain rfl) rfl (q_load_aptr rfl rfl rfl (toNat_lt g66) rfl ty3) ?_
          refine QChain.run rfl (.plain rfl) rfl (q_move rfl rfl) ?_
          refine QChain.run rfl (.plain rfl) rfl (q_move rfl rfl) ?_
          refine QChain.run rfl (.plain rfl) rfl (q_index_vec rfl rfl rfl sl30 rfl g67.1 g67.2) ?_
          refine QChain.run rfl (.plain rfl) rfl (q_load_eptr rfl rfl ty3) ?_
          refine QChain.run rfl (.plain rfl) rfl (q_sub rfl rfl rfl) ?_
          refine QChain.run rfl (.plain rfl) rfl (q_index_own rfl rfl rfl sl30 g68.1 g68.2) ?_
          exact QChain.nil _ _
        refine (show SOps _ _ _ [14] _ _ from ?_)
        refine SOps.e rfl (.plain rfl) (e_storeL (IntKind.wrap .i64 ((o1_43.set (((a0_n.Arcs.getD i_42.toNat dSArc).From).toNat) (IntKind.wrap .i64 (o1_43.getD (((a0_n.Arcs.getD i_42.toNat dSArc).From).toNat) 0 + a3_l.getD i_42.toNat 0))).getD (((a0_n.Arcs.getD i_42.toNat dSArc).To).toNat) 0 - a3_l.getD i_42.toNat 0)) rfl rfl rfl rfl rfl (toNat_lt g68) ty3 rfl rfl rfl rfl rfl rfl) ?_
        refine SOps.sub (st' := ⟨[(1, .c (.int .i64 a1_source)), (2, .c (.int .i64 a2_sink)), (3, .c (.vec a3_l.length 1 (gL (cInt .i64) 0 a3_l))), (4, .c (.ptr 0 0)), (10, .c (.own 1 ((o1_43.set (((a0_n.Arcs.getD i_42.toNat dSArc).From).toNat) (IntKind.wrap .i64 (o1_43.getD (((a0_n.Arcs.getD i_42.toNat dSArc).From).toNat) 0 + a3_l.getD i_42.toNat 0))).set (((a0_n.Arcs.getD i_42.toNat dSArc).To).toNat) (IntKind.wrap .i64 ((o1_43.set (((a0_n.Arcs.getD i_42.toNat dSArc).From).toNat) (IntKind.wrap .i64 (o1_43.getD (((a0_n.Arcs.getD i_42.toNat dSArc).From).toNat) 0 + a3_l.getD i_42.toNat 0))).getD (((a0_n.Arcs.getD i_42.toNat dSArc).To).toNat) 0 - a3_l.getD i_42.toNat 0))).length)), (11, .c (.int .i64 i_42))], [.box [.int .i64 a0_n.Nodes, .vec a0_n.Arcs.length 3 (gL cSArc dSArc a0_n.Arcs)], .arr 3 1 ((o1_43.set (((a0_n.Arcs.getD i_42.toNat dSArc).From).toNat) (IntKind.wrap .i64 (o1_43.getD (((a0_n.Arcs.getD i_42.toNat dSArc).From).toNat) 0 + a3_l.getD i_42.toNat 0))).set (((a0_n.Arcs.getD i_42.toNat dSArc).To).toNat) (IntKind.wrap .i64 ((o1_43.set (((a0_n.Arcs.getD i_42.toNat dSArc).From).toNat) (IntKind.wrap .i64 (o1_43.getD (((a0_n.Arcs.getD i_42.toNat dSArc).From).toNat) 0 + a3_l.getD i_42.toNat 0))).getD (((a0_n.Arcs.getD i_42.toNat dSArc).To).toNat) 0 - a3_l.getD i_42.toNat 0))).length (gL (cInt .i64) 0 ((o1_43.set (((a0_n.Arcs.getD i_42.toNat dSArc).From).toNat) (IntKind.wrap .i64 (o1_43.getD (((a0_n.Arcs.getD i_42.toNat dSArc).From).toNat) 0 + a3_l.getD i_42.toNat 0))).set (((a0_n.Arcs.getD i_42.toNat dSArc).To).toNat) (IntKind.wrap .i64 ((o1_43.set (((a0_n.Arcs.getD i_42.toNat dSArc).From).toNat) (IntKind.wrap .i64 (o1_43.getD (((a0_n.Arcs.getD i_42.toNat dSArc).From).toNat) 0 + a3_l.getD i_42.toNat 0))).getD (((a0_n.Arcs.getD i_42.toNat dSArc).To).toNat) 0 - a3_l.getD i_42.toNat 0))))]⟩) (sub_gen [0, 1] rfl rfl ⟨zc rfl rfl, zc rfl rfl, zc rfl rfl, zc rfl rfl, ⟨_, rfl, .inl ⟨rfl, congrArg (Cell.own 1) (List.length_set : ((o1_43.set (((a0_n.Arcs.getD i_42.toNat dSArc).From).toNat) (IntKind.wrap .i64 (o1_43.getD (((a0_n.Arcs.getD i_42.toNat dSArc).From).toNat) 0 + a3_l.getD i_42.toNat 0))).set (((a0_n.Arcs.getD i_42.toNat dSArc).To).toNat) (IntKind.wrap .i64 ((o1_43.set (((a0_n.Arcs.getD i_42.toNat dSArc).From).toNat) (IntKind.wrap .i64 (o1_43.getD (((a0_n.Arcs.getD i_42.toNat dSArc).From).toNat) 0 + a3_l.getD i_42.toNat 0))).getD (((a0_n.Arcs.getD i_42.toNat dSArc).To).toNat) 0 - a3_l.getD i_42.toNat 0))).length = (o1_43.set (((a0_n.Arcs.getD i_42.toNat dSArc).From).toNat) (IntKind.wrap .i64 (o1_43.getD (((a0_n.Arcs.getD i_42.toNat dSArc).From).toNat) 0 + a3_l.getD i_42.toNat 0))).length).symm⟩⟩, zc rfl rfl, trivial⟩ ⟨⟨_, rfl, ⟨ii rfl rfl, ii rfl rfl, trivial⟩⟩, oa rfl, trivial⟩) ?_
        refine SOps.nil ?_
        refine SCode.region (show SOps _ _ _ [0, 1, 2] _ _ from ?_)
        refine SOps.q rfl (.plain rfl) rfl (q_move rfl rfl) ?_
        refine SOps.q rfl (.plain rfl) rfl (q_add rfl rfl rfl) ?_
        refine SOps.q rfl (.plain rfl) rfl (q_assign rfl rfl) ?_
        refine SOps.sub (st' := ⟨[(1, .c (.int .i64 a1_source)), (2, .c (.int .i64 a2_sink)), (3, .c (.vec a3_l.length 1 (gL (cInt .i64) 0 a3_l))), (4, .c (.ptr 0 0)), (10, .c (.own 1 ((o1_43.set (((a0_n.Arcs.getD i_42.toNat dSArc).From).toNat) (IntKind.wrap .i64 (o1_43.getD (((a0_n.Arcs.getD i_42.toNat dSArc).From).toNat) 0 + a3_l.getD i_42.toNat 0))).set (((a0_n.Arcs.getD i_42.toNat dSArc).To).toNat) (IntKind.wrap .i64 ((o1_43.set (((a0_n.Arcs.getD i_42.toNat dSArc).From).toNat) (IntKind.wrap .i64 (o1_43.getD (((a0_n.Arcs.getD i_42.toNat dSArc).From).toNat) 0 + a3_l.getD i_42.toNat 0))).getD (((a0_n.Arcs.getD i_42.toNat dSArc).To).toNat) 0 - a3_l.getD i_42.toNat 0))).length)), (11, .c (.int .i64 (IntKind.wrap .i64 (i_42 + 1))))], [.box [.int .i64 a0_n.Nodes, .vec a0_n.Arcs.length 3 (gL cSArc dSArc a0_n.Arcs)], .arr 3 1 ((o1_43.set (((a0_n.Arcs.getD i_42.toNat dSArc).From).toNat) (IntKind.wrap .i64 (o1_43.getD (((a0_n.Arcs.getD i_42.toNat dSArc).From).toNat) 0 + a3_l.getD i_42.toNat 0))).set (((a0_n.Arcs.getD i_42.toNat dSArc).To).toNat) (IntKind.wrap .i64 ((o1_43.set (((a0_n.Arcs.getD i_42.toNat dSArc).From).toNat) (IntKind.wrap .i64 (o1_43.getD (((a0_n.Arcs.getD i_42.toNat dSArc).From).toNat) 0 + a3_l.getD i_42.toNat 0))).getD (((a0_n.Arcs.getD i_42.toNat dSArc).To).toNat) 0 - a3_l.getD i_42.toNat 0))).length (gL (cInt .i64) 0 ((o1_43.set (((a0_n.Arcs.getD i_42.toNat dSArc).From).toNat) (IntKind.wrap .i64 (o1_43.getD (((a0_n.Arcs.getD i_42.toNat dSArc).From).toNat) 0 + a3_l.getD i_42.toNat 0))).set (((a0_n.Arcs.getD i_42.toNat dSArc).To).toNat) (IntKind.wrap .i64 ((o1_43.set (((a0_n.Arcs.getD i_42.toNat dSArc).From).toNat) (IntKind.wrap .i64 (o1_43.getD (((a0_n.Arcs.getD i_42.toNat dSArc).From).toNat) 0 + a3_l.getD i_42.toNat 0))).getD (((a0_n.Arcs.getD i_42.toNat dSArc).To).toNat) 0 - a3_l.getD i_42.toNat 0))))]⟩) (sub_gen [0, 1] rfl rfl ⟨zc rfl rfl, zc rfl rfl, zc rfl rfl, zc rfl rfl, zc rfl rfl, zc rfl rfl, trivial⟩ ⟨⟨_, rfl, ⟨ii rfl rfl, ii rfl rfl, trivial⟩⟩, oa rfl, trivial⟩) ?_
        refine SOps.nil ?_
        exact ⟨(n_56, (IntKind.wrap .i64 (i_42 + 1), (o1_43.set (((a0_n.Arcs.getD i_42.toNat dSArc).From).toNat) (IntKind.wrap .i64 (o1_43.getD (((a0_n.Arcs.getD i_42.toNat dSArc).From).toNat) 0 + a3_l.getD i_42.toNat 0))).set (((a0_n.Arcs.getD i_42.toNat dSArc).To).toNat) (IntKind.wrap .i64 ((o1_43.set (((a0_n.Arcs.getD i_42.toNat dSArc).From).toNat) (IntKind.wrap .i64 (o1_43.getD (((a0_n.Arcs.getD i_42.toNat dSArc).From).toNat) 0 + a3_l.getD i_42.toNat 0))).getD (((a0_n.Arcs.getD i_42.toNat dSArc).To).toNat) 0 - a3_l.getD i_42.toNat 0)))), h, Nat.lt_succ_self n_56, sub_gen [0, 1] rfl rfl ⟨zc rfl rfl, zc rfl rfl, zc rfl rfl, zc rfl rfl, zc rfl rfl, zc rfl rfl, trivial⟩ ⟨⟨_, rfl, ⟨ii rfl rfl, ii rfl rfl, trivial⟩⟩, oa rfl, trivial⟩⟩
      refine SCode.cond_f rfl g57 ?_
      refine SCode.exit ?_
      exact ⟨o1_43, h, sub_gen [0, 1] rfl rfl ⟨zc rfl rfl, zc rfl rfl, zc rfl rfl, zc rfl rfl, trivial⟩ ⟨⟨_, rfl, ⟨ii rfl rfl, ii rfl rfl, trivial⟩⟩, oa rfl, trivial⟩⟩
  rintro o1_6 h
  show SCode _ _ _ ⟨[(1, .c (.int .i64 a1_source)), (2, .c (.int .i64 a2_sink)), (4, .c (.ptr 0 0)), (10, .c (.own 1 o1_6.length))], [.box [.int .i64 a0_n.Nodes, .vec a0_n.Arcs.length 3 (gL cSArc dSArc a0_n.Arcs)], .arr 3 1 o1_6.length (gL (cInt .i64) 0 o1_6)]⟩ _
  replace h : chargenetref09_Check_p29 F a0_n a1_source a2_sink o1_6 = some r := h
  unfold chargenetref09_Check_p29 at h
  refine SCode.join (σ := Unit) (S := fun s => ⟨[(1, .c (.int .i64 a1_source)), (10, .c (.own 0 o1_6.length))], [.arr 3 1 o1_6.length (gL (cInt .i64) 0 o1_6)]⟩) (g := fun s => chargenetref09_Check_p8 a1_source o1_6 = some r) ?_ ?_
  rotate_left
  · refine SCode.seq ?_
    refine SCode.region (show SOps _ _ _ [0] _ _ from ?_)
    refine SOps.q rfl (.plain rfl) rfl (q_assign rfl rfl) ?_
    refine SOps.sub (st' := ⟨[(1, .c (.int .i64 a1_source)), (2, .c (.int .i64 a2_sink)), (4, .c (.ptr 0 0)), (10, .c (.own 1 o1_6.length)), (13, .c (.int .i64 0))], [.box [.int .i64 a0_n.Nodes, .vec a0_n.Arcs.length 3 (gL cSArc dSArc a0_n.Arcs)], .arr 3 1 o1_6.length (gL (cInt .i64) 0 o1_6)]⟩) (sub_gen [0, 1] rfl rfl ⟨zc rfl rfl, zc rfl rfl, zc rfl rfl, zc rfl rfl, zc rfl rfl, trivial⟩ ⟨⟨_, rfl, ⟨ii rfl rfl, ii rfl rfl, trivial⟩⟩, oa rfl, trivial⟩) ?_
    refine SOps.nil ?_
    refine SCode.block ?_
    refine SCode.sub (st' := ⟨[(1, .c (.int .i64 a1_source)), (2, .c (.int .i64 a2_sink)), (4, .c (.ptr 0 0)), (10, .c (.own 1 o1_6.length)), (13, .c (.int .i64 0))], [.box [.int .i64 a0_n.Nodes, .vec a0_n.Arcs.length 3 (gL cSArc dSArc a0_n.Arcs)], .arr 3 1 o1_6.length (gL (cInt .i64) 0 o1_6)]⟩) (sub_gen [0, 1] rfl rfl ⟨zc rfl rfl, zc rfl rfl, zc rfl rfl, zc rfl rfl, zc rfl rfl, trivial⟩ ⟨⟨_, rfl, ⟨ii rfl rfl, ii rfl rfl, trivial⟩⟩, oa rfl, trivial⟩) ?_
    refine (SCode.loop (σ := Nat × Int) (S := fun s => ⟨[(1, .c (.int .i64 a1_source)), (2, .c (.int .i64 a2_sink)), (4, .c (.ptr 0 0)), (10, .c (.own 1 o1_6.length)), (13, .c (.int .i64 s.2))], [.box [.int .i64 a0_n.Nodes, .vec a0_n.Arcs.length 3 (gL cSArc dSArc a0_n.Arcs)], .arr 3 1 o1_6.length (gL (cInt .i64) 0 o1_6)]⟩) (g := fun s => chargenetref09_Check_l22 a0_n a1_source a2_sink o1_6 s.1 s.2 = some r) (μ := fun s => s.1) (F, 0) h ?_)
    rintro ⟨n_22, v_15⟩ h
    replace h : chargenetref09_Check_l22 a0_n a1_source a2_sink o1_6 n_22 v_15 = some r := h
    show SCode _ _ _ ⟨[(1, .c (.int .i64 a1_source)), (2, .c (.int .i64 a2_sink)), (4, .c (.ptr 0 0)), (10, .c (.own 1 o1_6.length)), (13, .c (.int .i64 v_15))], [.box [.int .i64 a0_n.Nodes, .vec a0_n.Arcs.length 3 (gL cSArc dSArc a0_n.Arcs)], .arr 3 1 o1_6.length (gL (cInt .i64) 0 o1_6)]⟩ _
    cases n_22 with
    | zero => cases h
    | succ n_22 =>
      replace h : chargenetref09_Check_b22 a0_n a1_source a2_sink o1_6 (fun v_15 => chargenetref09_Check_l22 a0_n a1_source a2_sink o1_6 n_22 v_15) v_15 = some r := h
      unfold chargenetref09_Check_b22 at h
      refine SCode.seq ?_
      refine SCode.seq ?_
      refine SCode.region (show SOps _ _ _ [0, 1, 2, 3] _ _ from ?_)
      refine SOps.q rfl (.plain rfl) rfl (q_move rfl rfl) ?_
      refine SOps.q rfl (.plain rfl) rfl (q_field_ptr rfl rfl fd24_0) ?_
      refine SOps.q rfl (.plain rfl) rfl (q_load_ptr rfl rfl rfl rfl ty3) ?_
      refine SOps.q rfl (.plain rfl) rfl (q_lss rfl rfl rfl) ?_
      refine SOps.sub (st' := ⟨[(1, .c (.int .i64 a1_source)), (2, .c (.int .i64 a2_sink)), (4, .c (.ptr 0 0)), (10, .c (.own 1 o1_6.length)), (13, .c (.int .i64 v_15)), (86, .c (.bool (decide (v_15 < a0_n.Nodes))))], [.box [.int .i64 a0_n.Nodes, .vec a0_n.Arcs.length 3 (gL cSArc dSArc a0_n.Arcs)], .arr 3 1 o1_6.length (gL (cInt .i64) 0 o1_6)]⟩) (sub_gen [0, 1] rfl rfl ⟨zc rfl rfl, zc rfl rfl, zc rfl rfl, zc rfl rfl, zc rfl rfl, zc rfl rfl, trivial⟩ ⟨⟨_, rfl, ⟨ii rfl rfl, ii rfl rfl, trivial⟩⟩, oa rfl, trivial⟩) ?_
      refine SOps.nil ?_
      rcases cond_out h with ⟨g23, h⟩ | ⟨g23, h⟩
      · refine SCode.cond_t rfl g23 ?_
        refine SCode.skip ?_
        refine SCode.join (σ := Unit) (S := fun s => ⟨[(1, .c (.int .i64 a1_source)), (2, .c (.int .i64 a2_sink)), (4, .c (.ptr 0 0)), (10, .c (.own 1 o1_6.length)), (13, .c (.int .i64 v_15))], [.box [.int .i64 a0_n.Nodes, .vec a0_n.Arcs.length 3 (gL cSArc dSArc a0_n.Arcs)], .arr 3 1 o1_6.length (gL (cInt .i64) 0 o1_6)]⟩) (g := fun s => chargenetref09_Check_p24 v_15 (fun v_15 => chargenetref09_Check_l22 a0_n a1_source a2_sink o1_6 n_22 v_15) = some r) ?_ ?_
        rotate_left
        · refine SCode.block ?_
          refine SCode.seq ?_
          rcases cond_out h with ⟨g25, h⟩ | ⟨g25, h⟩
          · rcases cond_out h with ⟨g26, h⟩ | ⟨g26, h⟩
            · obtain ⟨g27, h⟩ := guard_out h
              refine SCode.region (show SOps _ _ _ [0, 1, 2, 3, 4, 5, 6, 7, 8, 9, 10, 11, 12, 13, 14] _ _ from ?_)
              refine SOps.q rfl (.plain rfl) rfl (q_move rfl rfl) ?_
              refine SOps.q rfl (.plain rfl) rfl (q_move rfl rfl) ?_
              refine SOps.q rfl (.plain rfl) rfl (q_neq rfl rfl rfl) ?_
              refine SOps.q rfl (.plain rfl) rfl (q_move rfl rfl) ?_
              refine SOps.q rfl (.guard 3 92 true rfl rfl (gT g25)) rfl (q_move rfl rfl) ?_
              refine SOps.q rfl (.guard 3 92 true rfl rfl (gT g25)) rfl (q_move rfl rfl) ?_
              refine SOps.q rfl (.guard 3 92 true rfl rfl (gT g25)) rfl (q_neq rfl rfl rfl) ?_
              refine SOps.q rfl (.plain rfl) rfl (q_pick_t rfl rfl g25 rfl) ?_
              refine SOps.q rfl (.plain rfl) rfl (q_move rfl rfl) ?_
              refine SOps.q rfl (.guard 8 97 true rfl rfl (gT g26)) rfl (q_move rfl rfl) ?_
              refine SOps.q rfl (.guard 8 97 true rfl rfl (gT g26)) rfl (q_move rfl rfl) ?_
              refine SOps.q rfl (.guard 8 97 true rfl rfl (gT g26)) rfl (q_index_own rfl rfl rfl sl30 g27.1 g27.2) ?_
              refine SOps.q rfl (.guard 8 97 true rfl rfl (gT g26)) rfl (q_load_aptr rfl rfl rfl (toNat_lt g27) rfl ty3) ?_
              refine SOps.q rfl (.guard 8 97 true rfl rfl (gT g26)) rfl (q_neq rfl rfl rfl) ?_
              refine SOps.q rfl (.plain rfl) rfl (q_pick_t rfl rfl g26 rfl) ?_
              refine SOps.sub (st' := ⟨[(1, .c (.int .i64 a1_source)), (2, .c (.int .i64 a2_sink)), (4, .c (.ptr 0 0)), (10, .c (.own 1 o1_6.length)), (13, .c (.int .i64 v_15)), (103, .c (.bool ((!decide (o1_6.getD v_15.toNat 0 = 0)))))], [.box [.int .i64 a0_n.Nodes, .vec a0_n.Arcs.length 3 (gL cSArc dSArc a0_n.Arcs)], .arr 3 1 o1_6.length (gL (cInt .i64) 0 o1_6)]⟩) (sub_gen [0, 1] rfl rfl ⟨zc rfl rfl, zc rfl rfl, zc rfl rfl, zc rfl rfl, zc rfl rfl, zc rfl rfl, trivial⟩ ⟨⟨_, rfl, ⟨ii rfl rfl, ii rfl rfl, trivial⟩⟩, oa rfl, trivial⟩) ?_
              refine SOps.nil ?_
              rcases cond_out h with ⟨g28, h⟩ | ⟨g28, h⟩
              · refine SCode.cond_t rfl g28 ?_
                refine SCode.seq ?_
                refine SCode.region (show SOps _ _ _ [0, 1] _ _ from ?_)
                refine SOps.q rfl (.plain rfl) rfl (q_assign rfl rfl) ?_
                refine SOps.q rfl (.plain rfl) rfl (q_assign rfl rfl) ?_
                refine SOps.sub (st' := ⟨[(8, .c (.int .i64 0)), (9, .c (.bool false))], []⟩) (sub_gen [] rfl rfl ⟨zc rfl rfl, zc rfl rfl, trivial⟩ trivial) ?_
                refine SOps.nil ?_
                refine SCode.ret ?_
                obtain rfl := Option.some.inj h
                exact ⟨⟨[(8, .c (.int .i64 0)), (9, .c (.bool false))], []⟩, _, sub_gen [] rfl rfl ⟨zc rfl rfl, zc rfl rfl, trivial⟩ trivial, resA2 (v1 := .c (.int .i64 0)) (v2 := .c (.bool false)) rfl rfl rfl, rfl⟩
              refine SCode.cond_f rfl g28 ?_
              refine SCode.skip ?_
              exact ⟨(), h, sub_gen [0, 1] rfl rfl ⟨zc rfl rfl, zc rfl rfl, zc rfl rfl, zc rfl rfl, zc rfl rfl, trivial⟩ ⟨⟨_, rfl, ⟨ii rfl rfl, ii rfl rfl, trivial⟩⟩, oa rfl, trivial⟩⟩
            refine SCode.region (show SOps _ _ _ [0, 1, 2, 3, 4, 5, 6, 7, 8, 9, 10, 11, 12, 13, 14] _ _ from ?_)
            refine SOps.q rfl (.plain rfl) rfl (q_move rfl rfl) ?_
            refine SOps.q rfl (.plain rfl) rfl (q_move rfl rfl) ?_
            refine SOps.q rfl (.plain rfl) rfl (q_neq rfl rfl rfl) ?_
            refine SOps.q rfl (.plain rfl) rfl (q_move rfl rfl) ?_
            refine SOps.q rfl (.guard 3 92 true rfl rfl (gT g25)) rfl (q_move rfl rfl) ?_
            refine SOps.q rfl (.guard 3 92 true rfl rfl (gT g25)) rfl (q_move rfl rfl) ?_
            refine SOps.q rfl (.guard 3 92 true rfl rfl (gT g25)) rfl (q_neq rfl rfl rfl) ?_
            refine SOps.q rfl (.plain rfl) rfl (q_pick_t rfl rfl g25 rfl) ?_
            refine SOps.q rfl (.plain rfl) rfl (q_move rfl rfl) ?_
            refine SOps.skip rfl 8 97 true rfl rfl (.inl (gF g26)) rfl ?_
            refine SOps.skip rfl 8 97 true rfl rfl (.inl (gF g26)) rfl ?_
            refine SOps.skip rfl 8 97 true rfl rfl (.inl (gF g26)) rfl ?_
            refine SOps.skip rfl 8 97 true rfl rfl (.inl (gF g26)) rfl ?_
            refine SOps.skip rfl 8 97 true rfl rfl (.inl (gF g26)) rfl ?_
            refine SOps.q rfl (.plain rfl) rfl (q_pick_f rfl rfl g26 rfl) ?_
            refine SOps.sub (st' := ⟨[(1, .c (.int .i64 a1_source)), (2, .c (.int .i64 a2_sink)), (4, .c (.ptr 0 0)), (10, .c (.own 1 o1_6.length)), (13, .c (.int .i64 v_15)), (103, .c (.bool false))], [.box [.int .i64 a0_n.Nodes, .vec a0_n.Arcs.length 3 (gL cSArc dSArc a0_n.Arcs)], .arr 3 1 o1_6.length (gL (cInt .i64) 0 o1_6)]⟩) (sub_gen [0, 1] rfl rfl ⟨zc rfl rfl, zc rfl rfl, zc rfl rfl, zc rfl rfl, zc rfl rfl, zc rfl rfl, trivial⟩ ⟨⟨_, rfl, ⟨ii rfl rfl, ii rfl rfl, trivial⟩⟩, oa rfl, trivial⟩) ?_
            refine SOps.nil ?_
            refine SCode.cond_f rfl rfl ?_
            refine SCode.skip ?_
            exact ⟨(), h, sub_gen [0, 1] rfl rfl ⟨zc rfl rfl, zc rfl rfl, zc rfl rfl, zc rfl rfl, zc rfl rfl, trivial⟩ ⟨⟨_, rfl, ⟨ii rfl rfl, ii rfl rfl, trivial⟩⟩, oa rfl, trivial⟩⟩
          refine SCode.region (show SOps _ _ _ [0, 1, 2, 3, 4, 5, 6, 7, 8, 9, 10, 11, 12, 13, 14] _ _ from ?_)
          refine SOps.q rfl (.plain rfl) rfl (q_move rfl rfl) ?_
          refine SOps.q rfl (.plain rfl) rfl (q_move rfl rfl) ?_
          refine SOps.q rfl (.plain rfl) rfl (q_neq rfl rfl rfl) ?_
          refine SOps.q rfl (.plain rfl) rfl (q_move rfl rfl) ?_
          refine SOps.skip rfl 3 92 true rfl rfl (.inl (gF g25)) rfl ?_
          refine SOps.skip rfl 3 92 true rfl rfl (.inl (gF g25)) rfl ?_
          refine SOps.skip rfl 3 92 true rfl rfl (.inl (gF g25)) rfl ?_
          refine SOps.q rfl (.plain rfl) rfl (q_pick_f rfl rfl g25 rfl) ?_
          refine SOps.q rfl (.plain rfl) rfl (q_move rfl rfl) ?_
          refine SOps.skip rfl 8 97 true rfl rfl (.inl rfl) rfl ?_
          refine SOps.skip rfl 8 97 true rfl rfl (.inl rfl) rfl ?_
          refine SOps.skip rfl 8 97 true rfl rfl (.inl rfl) rfl ?_
          refine SOps.skip rfl 8 97 true rfl rfl (.inl rfl) rfl ?_
          refine SOps.skip rfl 8 97 true rfl rfl (.inl rfl) rfl ?_
          refine SOps.q rfl (.plain rfl) rfl (q_pick_f rfl rfl rfl rfl) ?_
          refine SOps.sub (st' := ⟨[(1, .c (.int .i64 a1_source)), (2, .c (.int .i64 a2_sink)), (4, .c (.ptr 0 0)), (10, .c (.own 1 o1_6.length)), (13, .c (.int .i64 v_15)), (103, .c (.bool false))], [.box [.int .i64 a0_n.Nodes, .vec a0_n.Arcs.length 3 (gL cSArc dSArc a0_n.Arcs)], .arr 3 1 o1_6.length (gL (cInt .i64) 0 o1_6)]⟩) (sub_gen [0, 1] rfl rfl ⟨zc rfl rfl, zc rfl rfl, zc rfl rfl, zc rfl rfl, zc rfl rfl, zc rfl rfl, trivial⟩ ⟨⟨_, rfl, ⟨ii rfl rfl, ii rfl rfl, trivial⟩⟩, oa rfl, trivial⟩) ?_
          refine SOps.nil ?_
          refine SCode.cond_f rfl rfl ?_
          refine SCode.skip ?_
          exact ⟨(), h, sub_gen [0, 1] rfl rfl ⟨zc rfl rfl, zc rfl rfl, zc rfl rfl, zc rfl rfl, zc rfl rfl, trivial⟩ ⟨⟨_, rfl, ⟨ii rfl rfl, ii rfl rfl, trivial⟩⟩, oa rfl, trivial⟩⟩
        rintro ⟨⟩ h
        show SCode _ _ _ ⟨[(1, .c (.int .i64 a1_source)), (2, .c (.int .i64 a2_sink)), (4, .c (.ptr 0 0)), (10, .c (.own 1 o1_6.length)), (13, .c (.int .i64 v_15))], [.box [.int .i64 a0_n.Nodes, .vec a0_n.Arcs.length 3 (gL cSArc dSArc a0_n.Arcs)], .arr 3 1 o1_6.length (gL (cInt .i64) 0 o1_6)]⟩ _
        replace h : chargenetref09_Check_p24 v_15 (fun v_15 => chargenetref09_Check_l22 a0_n a1_source a2_sink o1_6 n_22 v_15) = some r := h
        unfold chargenetref09_Check_p24 at h
        refine SCode.region (show SOps _ _ _ [0, 1, 2] _ _ from ?_)
        refine SOps.q rfl (.plain rfl) rfl (q_move rfl rfl) ?_
        refine SOps.q rfl (.plain rfl) rfl (q_add rfl rfl rfl) ?_
        refine SOps.q rfl (.plain rfl) rfl (q_assign rfl rfl) ?_
        refine SOps.sub (st' := ⟨[(1, .c (.int .i64 a1_source)), (2, .c (.int .i64 a2_sink)), (4, .c (.ptr 0 0)), (10, .c (.own 1 o1_6.length)), (13, .c (.int .i64 (IntKind.wrap .i64 (v_15 + 1))))], [.box [.int .i64 a0_n.Nodes, .vec a0_n.Arcs.length 3 (gL cSArc dSArc a0_n.Arcs)], .arr 3 1 o1_6.length (gL (cInt .i64) 0 o1_6)]⟩) (sub_gen [0, 1] rfl rfl ⟨zc rfl rfl, zc rfl rfl, zc rfl rfl, zc rfl rfl, zc rfl rfl, trivial⟩ ⟨⟨_, rfl, ⟨ii rfl rfl, ii rfl rfl, trivial⟩⟩, oa rfl, trivial⟩) ?_
        refine SOps.nil ?_
        exact ⟨(n_22, IntKind.wrap .i64 (v_15 + 1)), h, Nat.lt_succ_self n_22, sub_gen [0, 1] rfl rfl ⟨zc rfl rfl, zc rfl rfl, zc rfl rfl, zc rfl rfl, zc rfl rfl, trivial⟩ ⟨⟨_, rfl, ⟨ii rfl rfl, ii rfl rfl, trivial⟩⟩, oa rfl, trivial⟩⟩
      refine SCode.cond_f rfl g23 ?_
      refine SCode.exit ?_
      exact ⟨(), h, sub_gen [1] rfl rfl ⟨zc rfl rfl, zc rfl rfl, trivial⟩ ⟨oa rfl, trivial⟩⟩
  rintro ⟨⟩ h
  show SCode _ _ _ ⟨[(1, .c (.int .i64 a1_source)), (10, .c (.own 0 o1_6.length))], [.arr 3 1 o1_6.length (gL (cInt .i64) 0 o1_6)]⟩ _
  replace h : chargenetref09_Check_p8 a1_source o1_6 = some r := h
  unfold chargenetref09_Check_p8 at h
  refine SCode.seq ?_
  obtain ⟨g7, h⟩ := guard_out h
  refine SCode.region (show SOps _ _ _ [0, 1, 2, 3, 4, 5] _ _ from ?_)
  refine SOps.q rfl (.plain rfl) rfl (q_move rfl rfl) ?_
  refine SOps.q rfl (.plain rfl) rfl (q_move rfl rfl) ?_
  refine SOps.q rfl (.plain rfl) rfl (q_index_own rfl rfl rfl sl30 g7.1 g7.2) ?_
  refine SOps.q rfl (.plain rfl) rfl (q_load_aptr rfl rfl rfl (toNat_lt g7) rfl ty3) ?_
  refine SOps.q rfl (.plain rfl) rfl (q_assign rfl rfl) ?_
  refine SOps.q rfl (.plain rfl) rfl (q_assign rfl rfl) ?_
  refine SOps.sub (st' := ⟨[(8, .c (.int .i64 (o1_6.getD a1_source.toNat 0))), (9, .c (.bool true))], []⟩) (sub_gen [] rfl rfl ⟨zc rfl rfl, zc rfl rfl, trivial⟩ trivial) ?_
  refine SOps.nil ?_
  refine SCode.ret ?_
  obtain rfl := Option.some.inj h
  exact ⟨⟨[(8, .c (.int .i64 (o1_6.getD a1_source.toNat 0))), (9, .c (.bool true))], []⟩, _, sub_gen [] rfl rfl ⟨zc rfl rfl, zc rfl rfl, trivial⟩ trivial, resA2 (v1 := .c (.int .i64 (o1_6.getD a1_source.toNat 0))) (v2 := .c (.bool true)) rfl rfl rfl, rfl⟩
set_option maxRecDepth 100000 in
set_option maxHeartbeats 8000000 in
theorem chargenetlaw09_FlowChecks_ok (F : Nat) (a0_c : SClaim) (r : Bool) (h : chargenetlaw09_FlowChecks F a0_c = some r) :
    SFun Try.prog 7 [] [.a [.int .i64 a0_c.N_Nodes, .vec a0_c.N_Arcs.length 3 (gL cSArc dSArc a0_c.N_Arcs), .int .i64 a0_c.Source, .int .i64 a0_c.Sink, .vec a0_c.L.length 1 (gL (cInt .i64) 0 a0_c.L)]] (fun x _ => x = .c (.bool r)) := by
  refine SFun.of (n := 53) Try.func7 rfl rfl rfl ?_
  unfold chargenetlaw09_FlowChecks at h
  show SCode _ _ _ ⟨[(0, .a [.int .i64 a0_c.N_Nodes, .vec a0_c.N_Arcs.length 3 (gL cSArc dSArc a0_c.N_Arcs), .int .i64 a0_c.Source, .int .i64 a0_c.Sink, .vec a0_c.L.length 1 (gL (cInt .i64) 0 a0_c.L)])], []⟩ _
  refine SCode.seq ?_
  refine SCode.region (show SOps _ _ _ [0, 1] _ _ from ?_)
  refine SOps.e rfl (.plain rfl) (e_box rfl rfl rfl rfl rfl rfl) ?_
  refine SOps.q rfl (.plain rfl) rfl (q_assign rfl rfl) ?_
  refine SOps.sub (st' := ⟨[(1, .c (.ptr 0 0))], [.box [.int .i64 a0_c.N_Nodes, .vec a0_c.N_Arcs.length 3 (gL cSArc dSArc a0_c.N_Arcs), .int .i64 a0_c.Source, .int .i64 a0_c.Sink, .vec a0_c.L.length 1 (gL (cInt .i64) 0 a0_c.L)]]⟩) (sub_gen [0] rfl rfl ⟨zc rfl rfl, trivial⟩ ⟨⟨_, rfl, ⟨ii rfl rfl, ii rfl rfl, ii rfl rfl, ii rfl rfl, ii rfl rfl, trivial⟩⟩, trivial⟩) ?_
  refine SOps.nil ?_
  refine SCode.seq ?_
  refine SCode.seq ?_
  obtain ⟨c_1, g2, h⟩ := bind_out h
  try dsimp only at h
  rcases cond_out h with ⟨g3, h⟩ | ⟨g3, h⟩
  · refine SCode.region (show SOps _ _ _ [0, 1, 2, 3, 4, 5, 6, 7, 8, 9] _ _ from ?_)
    refine SOps.q rfl (.plain rfl) rfl (q_field_ptr rfl rfl fd42_0) ?_
    refine SOps.q rfl (.plain rfl) rfl (q_load_ptr_all rfl rfl rfl rfl rfl ty24) ?_
    refine SOps.q rfl (.plain rfl) rfl (q_call (chargenetref09_Small_ok F (SNet.mk a0_c.N_Nodes a0_c.N_Arcs) 64 200 c_1 g2) [] rfl fn14 ⟨⟨rfl, rfl⟩, ⟨_, rfl, .inl ⟨rfl, rfl⟩⟩, ⟨_, rfl, .inl ⟨rfl, rfl⟩⟩, trivial⟩ (.inl rfl)) ?_
    refine SOps.q rfl (.plain rfl) rfl (q_not rfl rfl) ?_
    refine SOps.q rfl (.plain rfl) rfl (q_move rfl rfl) ?_
    refine SOps.skip rfl 4 11 false rfl rfl (.inl (gT g3)) rfl ?_
    refine SOps.skip rfl 4 11 false rfl rfl (.inl (gT g3)) rfl ?_
    refine SOps.skip rfl 4 11 false rfl rfl (.inl (gT g3)) rfl ?_
    refine SOps.skip rfl 4 11 false rfl rfl (.inl (gT g3)) rfl ?_
    refine SOps.q rfl (.plain rfl) rfl (q_pick_t rfl rfl g3 rfl) ?_
    refine SOps.sub (st' := ⟨[(1, .c (.ptr 0 0)), (16, .c (.bool true))], [.box [.int .i64 a0_c.N_Nodes, .vec a0_c.N_Arcs.length 3 (gL cSArc dSArc a0_c.N_Arcs), .int .i64 a0_c.Source, .int .i64 a0_c.Sink, .vec a0_c.L.length 1 (gL (cInt .i64) 0 a0_c.L)]]⟩) (sub_gen [0] rfl rfl ⟨zc rfl rfl, zc rfl rfl, trivial⟩ ⟨⟨_, rfl, ⟨ii rfl rfl, ii rfl rfl, ii rfl rfl, ii rfl rfl, ii rfl rfl, trivial⟩⟩, trivial⟩) ?_
    refine SOps.nil ?_
    refine SCode.cond_t rfl rfl ?_
    refine SCode.seq ?_
    obtain ⟨c_4, g5, h⟩ := bind_out h
    try dsimp only at h
    refine SCode.region (show SOps _ _ _ [0, 1] _ _ from ?_)
    refine SOps.q rfl (.plain rfl) rfl (q_call (chargenetlaw09_awake_ok F  c_4 g5) [] rfl fn11 trivial (.inl rfl)) ?_
    refine SOps.q rfl (.plain rfl) rfl (q_assign rfl rfl) ?_
    refine SOps.sub (st' := ⟨[(2, .c (.bool c_4))], []⟩) (sub_gen [] rfl rfl ⟨zc rfl rfl, trivial⟩ trivial) ?_
    refine SOps.nil ?_
    refine SCode.ret ?_
    obtain rfl := Option.some.inj h
    exact ⟨⟨[(2, .c (.bool c_4))], []⟩, _, sub_gen [] rfl rfl ⟨zc rfl rfl, trivial⟩ trivial, resA1 (v := .c (.bool c_4)) rfl rfl, rfl⟩
  refine SCode.region (show SOps _ _ _ [0, 1, 2, 3, 4, 5, 6, 7, 8, 9] _ _ from ?_)
  refine SOps.q rfl (.plain rfl) rfl (q_field_ptr rfl rfl fd42_0) ?_
  refine SOps.q rfl (.plain rfl) rfl (q_load_ptr_all rfl rfl rfl rfl rfl ty24) ?_
  refine SOps.q rfl (.plain rfl) rfl (q_call (chargenetref09_Small_ok F (SNet.mk a0_c.N_Nodes a0_c.N_Arcs) 64 200 c_1 g2) [] rfl fn14 ⟨⟨rfl, rfl⟩, ⟨_, rfl, .inl ⟨rfl, rfl⟩⟩, ⟨_, rfl, .inl ⟨rfl, rfl⟩⟩, trivial⟩ (.inl rfl)) ?_
  refine SOps.q rfl (.plain rfl) rfl (q_not rfl rfl) ?_
  refine SOps.q rfl (.plain rfl) rfl (q_move rfl rfl) ?_
  refine SOps.q rfl (.guard 4 11 false rfl rfl (gF g3)) rfl (q_field_ptr rfl rfl fd42_3) ?_
  refine SOps.q rfl (.guard 4 11 false rfl rfl (gF g3)) rfl (q_load_ptr rfl rfl rfl rfl ty30) ?_
  refine SOps.q rfl (.guard 4 11 false rfl rfl (gF g3)) rfl (q_len_vec rfl rfl sl30) ?_
  refine SOps.q rfl (.guard 4 11 false rfl rfl (gF g3)) rfl (q_gtr rfl rfl rfl) ?_
  refine SOps.q rfl (.plain rfl) rfl (q_pick_f rfl rfl g3 rfl) ?_
  refine SOps.sub (st' := ⟨[(1, .c (.ptr 0 0)), (16, .c (.bool (decide (210 < ((a0_c.L).length : Int)))))], [.box [.int .i64 a0_c.N_Nodes, .vec a0_c.N_Arcs.length 3 (gL cSArc dSArc a0_c.N_Arcs), .int .i64 a0_c.Source, .int .i64 a0_c.Sink, .vec a0_c.L.length 1 (gL (cInt .i64) 0 a0_c.L)]]⟩) (sub_gen [0] rfl rfl ⟨zc rfl rfl, zc rfl rfl, trivial⟩ ⟨⟨_, rfl, ⟨ii rfl rfl, ii rfl rfl, ii rfl rfl, ii rfl rfl, ii rfl rfl, trivial⟩⟩, trivial⟩) ?_
  refine SOps.nil ?_
  rcases cond_out h with ⟨g6, h⟩ | ⟨g6, h⟩
  · refine SCode.cond_t rfl g6 ?_
    refine SCode.seq ?_
    obtain ⟨c_7, g8, h⟩ := bind_out h
    try dsimp only at h
    refine SCode.region (show SOps _ _ _ [0, 1] _ _ from ?_)
    refine SOps.q rfl (.plain rfl) rfl (q_call (chargenetlaw09_awake_ok F  c_7 g8) [] rfl fn11 trivial (.inl rfl)) ?_
    refine SOps.q rfl (.plain rfl) rfl (q_assign rfl rfl) ?_
    refine SOps.sub (st' := ⟨[(2, .c (.bool c_7))], []⟩) (sub_gen [] rfl rfl ⟨zc rfl rfl, trivial⟩ trivial) ?_
    refine SOps.nil ?_
    refine SCode.ret ?_
    obtain rfl := Option.some.inj h
    exact ⟨⟨[(2, .c (.bool c_7))], []⟩, _, sub_gen [] rfl rfl ⟨zc rfl rfl, trivial⟩ trivial, resA1 (v := .c (.bool c_7)) rfl rfl, rfl⟩
  refine SCode.cond_f rfl g6 ?_
  refine SCode.skip ?_
  refine SCode.seq ?_
  obtain ⟨c_9, g10, h⟩ := bind_out h
  try dsimp only at h
  refine SCode.region (show SOps _ _ _ [0, 1, 2, 3, 4, 5, 6, 7, 8, 9, 10, 11, 12, 13] _ _ from ?_)
  refine SOps.q rfl (.plain rfl) rfl (q_field_ptr rfl rfl fd42_0) ?_
  refine SOps.q rfl (.plain rfl) rfl (q_load_ptr_all rfl rfl rfl rfl rfl ty24) ?_
  refine SOps.q rfl (.plain rfl) rfl (q_field_ptr rfl rfl fd42_1) ?_
  refine SOps.q rfl (.plain rfl) rfl (q_load_ptr rfl rfl rfl rfl ty3) ?_
  refine SOps.q rfl (.plain rfl) rfl (q_field_ptr rfl rfl fd42_2) ?_
  refine SOps.q rfl (.plain rfl) rfl (q_load_ptr rfl rfl rfl rfl ty3) ?_
  refine SOps.q rfl (.plain rfl) rfl (q_field_ptr rfl rfl fd42_3) ?_
  refine SOps.q rfl (.plain rfl) rfl (q_load_ptr rfl rfl rfl rfl ty30) ?_
  refine SOps.q rfl (.plain rfl) rfl (q_call (flow_Check_ok F (SNet.mk a0_c.N_Nodes a0_c.N_Arcs) a0_c.Source a0_c.Sink a0_c.L c_9 g10) [] rfl fn23 ⟨⟨rfl, rfl⟩, ⟨_, rfl, .inl ⟨rfl, rfl⟩⟩, ⟨_, rfl, .inl ⟨rfl, rfl⟩⟩, ⟨_, rfl, .inl ⟨rfl, rfl⟩⟩, trivial⟩ (.inl rfl)) ?_
  refine SOps.q rfl (.plain rfl) rfl (q_move rfl rfl) ?_
  refine SOps.q rfl (.plain rfl) rfl (q_extract rfl rfl rfl) ?_
  refine SOps.q rfl (.plain rfl) rfl (q_extract rfl rfl rfl) ?_
  refine SOps.q rfl (.plain rfl) rfl (q_assign rfl rfl) ?_
  refine SOps.q rfl (.plain rfl) rfl (q_assign rfl rfl) ?_
  refine SOps.sub (st' := ⟨[(1, .c (.ptr 0 0)), (3, .c (.int .i64 c_9.1)), (4, .c (.bool c_9.2))], [.box [.int .i64 a0_c.N_Nodes, .vec a0_c.N_Arcs.length 3 (gL cSArc dSArc a0_c.N_Arcs), .int .i64 a0_c.Source, .int .i64 a0_c.Sink, .vec a0_c.L.length 1 (gL (cInt .i64) 0 a0_c.L)]]⟩) (sub_gen [0] rfl rfl ⟨zc rfl rfl, zc rfl rfl, zc rfl rfl, trivial⟩ ⟨⟨_, rfl, ⟨ii rfl rfl, ii rfl rfl, ii rfl rfl, ii rfl rfl, ii rfl rfl, trivial⟩⟩, trivial⟩) ?_
  refine SOps.nil ?_
  refine SCode.seq ?_
  obtain ⟨c_11, g12, h⟩ := bind_out h
  try dsimp only at h
  refine SCode.region (show SOps _ _ _ [0, 1, 2, 3, 4, 5, 6, 7, 8, 9, 10, 11, 12, 13] _ _ from ?_)
  refine SOps.q rfl (.plain rfl) rfl (q_field_ptr rfl rfl fd42_0) ?_
  refine SOps.q rfl (.plain rfl) rfl (q_load_ptr_all rfl rfl rfl rfl rfl ty24) ?_
  refine SOps.q rfl (.plain rfl) rfl (q_field_ptr rfl rfl fd42_1) ?_
  refine SOps.q rfl (.plain rfl) rfl (q_load_ptr rfl rfl rfl rfl ty3) ?_
  refine SOps.q rfl (.plain rfl) rfl (q_field_ptr rfl rfl fd42_2) ?_
  refine SOps.q rfl (.plain rfl) rfl (q_load_ptr rfl rfl rfl rfl ty3) ?_
  refine SOps.q rfl (.plain rfl) rfl (q_field_ptr rfl rfl fd42_3) ?_
  refine SOps.q rfl (.plain rfl) rfl (q_load_ptr rfl rfl rfl rfl ty30) ?_
  refine SOps.q rfl (.plain rfl) rfl (q_call (chargenetref09_Check_ok F (SNet.mk a0_c.N_Nodes a0_c.N_Arcs) a0_c.Source a0_c.Sink a0_c.L c_11 g12) [] rfl fn24 ⟨⟨rfl, rfl⟩, ⟨_, rfl, .inl ⟨rfl, rfl⟩⟩, ⟨_, rfl, .inl ⟨rfl, rfl⟩⟩, ⟨_, rfl, .inl ⟨rfl, rfl⟩⟩, trivial⟩ (.inl rfl)) ?_
  refine SOps.q rfl (.plain rfl) rfl (q_move rfl rfl) ?_
  refine SOps.q rfl (.plain rfl) rfl (q_extract rfl rfl rfl) ?_
  refine SOps.q rfl (.plain rfl) rfl (q_extract rfl rfl rfl) ?_
  refine SOps.q rfl (.plain rfl) rfl (q_assign rfl rfl) ?_
  refine SOps.q rfl (.plain rfl) rfl (q_assign rfl rfl) ?_
  refine SOps.sub (st' := ⟨[(3, .c (.int .i64 c_9.1)), (4, .c (.bool c_9.2)), (5, .c (.int .i64 c_11.1)), (6, .c (.bool c_11.2))], []⟩) (sub_gen [] rfl rfl ⟨zc rfl rfl, zc rfl rfl, zc rfl rfl, zc rfl rfl, trivial⟩ trivial) ?_
  refine SOps.nil ?_
  refine SCode.seq ?_
  rcases cond_out h with ⟨g13, h⟩ | ⟨g13, h⟩
  · rcases cond_out h with ⟨g14, h⟩ | ⟨g14, h⟩
    · obtain ⟨c_15, g16, h⟩ := bind_out h
      try dsimp only at h
      refine SCode.region (show SOps _ _ _ [0, 1, 2, 3, 4, 5, 6, 7, 8, 9, 10, 11] _ _ from ?_)
      refine SOps.q rfl (.plain rfl) rfl (q_move rfl rfl) ?_
      refine SOps.q rfl (.plain rfl) rfl (q_move rfl rfl) ?_
      refine SOps.q rfl (.plain rfl) rfl (q_eql rfl rfl rfl) ?_
      refine SOps.q rfl (.plain rfl) rfl (q_move rfl rfl) ?_
      refine SOps.q rfl (.guard 3 45 true rfl rfl (gT g13)) rfl (q_move rfl rfl) ?_
      refine SOps.q rfl (.guard 3 45 true rfl rfl (gT g13)) rfl (q_move rfl rfl) ?_
      refine SOps.q rfl (.guard 3 45 true rfl rfl (gT g13)) rfl (q_eqlB rfl rfl rfl un4) ?_
      refine SOps.q rfl (.plain rfl) rfl (q_pick_t rfl rfl g13 rfl) ?_
      refine SOps.q rfl (.plain rfl) rfl (q_move rfl rfl) ?_
      refine SOps.q rfl (.guard 8 50 true rfl rfl (gT g14)) rfl (q_call (chargenetlaw09_awake_ok F  c_15 g16) [] rfl fn11 trivial (.inl rfl)) ?_
      refine SOps.q rfl (.plain rfl) rfl (q_pick_t rfl rfl g14 rfl) ?_
      refine SOps.q rfl (.plain rfl) rfl (q_assign rfl rfl) ?_
      refine SOps.sub (st' := ⟨[(2, .c (.bool c_15))], []⟩) (sub_gen [] rfl rfl ⟨zc rfl rfl, trivial⟩ trivial) ?_
      refine SOps.nil ?_
      refine SCode.ret ?_
      obtain rfl := Option.some.inj h
      exact ⟨⟨[(2, .c (.bool c_15))], []⟩, _, sub_gen [] rfl rfl ⟨zc rfl rfl, trivial⟩ trivial, resA1 (v := .c (.bool c_15)) rfl rfl, rfl⟩
    refine SCode.region (show SOps _ _ _ [0, 1, 2, 3, 4, 5, 6, 7, 8, 9, 10, 11] _ _ from ?_)
    refine SOps.q rfl (.plain rfl) rfl (q_move rfl rfl) ?_
    refine SOps.q rfl (.plain rfl) rfl (q_move rfl rfl) ?_
    refine SOps.q rfl (.plain rfl) rfl (q_eql rfl rfl rfl) ?_
    refine SOps.q rfl (.plain rfl) rfl (q_move rfl rfl) ?_
    refine SOps.q rfl (.guard 3 45 true rfl rfl (gT g13)) rfl (q_move rfl rfl) ?_
    refine SOps.q rfl (.guard 3 45 true rfl rfl (gT g13)) rfl (q_move rfl rfl) ?_
    refine SOps.q rfl (.guard 3 45 true rfl rfl (gT g13)) rfl (q_eqlB rfl rfl rfl un4) ?_
    refine SOps.q rfl (.plain rfl) rfl (q_pick_t rfl rfl g13 rfl) ?_
    refine SOps.q rfl (.plain rfl) rfl (q_move rfl rfl) ?_
    refine SOps.skip rfl 8 50 true rfl rfl (.inl (gF g14)) rfl ?_
    refine SOps.q rfl (.plain rfl) rfl (q_pick_f rfl rfl g14 rfl) ?_
    refine SOps.q rfl (.plain rfl) rfl (q_assign rfl rfl) ?_
    refine SOps.sub (st' := ⟨[(2, .c (.bool false))], []⟩) (sub_gen [] rfl rfl ⟨zc rfl rfl, trivial⟩ trivial) ?_
    refine SOps.nil ?_
    refine SCode.ret ?_
    obtain rfl := Option.some.inj h
    exact ⟨⟨[(2, .c (.bool false))], []⟩, _, sub_gen [] rfl rfl ⟨zc rfl rfl, trivial⟩ trivial, resA1 (v := .c (.bool false)) rfl rfl, rfl⟩
  refine SCode.region (show SOps _ _ _ [0, 1, 2, 3, 4, 5, 6, 7, 8, 9, 10, 11] _ _ from ?_)
  refine SOps.q rfl (.plain rfl) rfl (q_move rfl rfl) ?_
  refine SOps.q rfl (.plain rfl) rfl (q_move rfl rfl) ?_
  refine SOps.q rfl (.plain rfl) rfl (q_eql rfl rfl rfl) ?_
  refine SOps.q rfl (.plain rfl) rfl (q_move rfl rfl) ?_
  refine SOps.skip rfl 3 45 true rfl rfl (.inl (gF g13)) rfl ?_
  refine SOps.skip rfl 3 45 true rfl rfl (.inl (gF g13)) rfl ?_
  refine SOps.skip rfl 3 45 true rfl rfl (.inl (gF g13)) rfl ?_
  refine SOps.q rfl (.plain rfl) rfl (q_pick_f rfl rfl g13 rfl) ?_
  refine SOps.q rfl (.plain rfl) rfl (q_move rfl rfl) ?_
  refine SOps.skip rfl 8 50 true rfl rfl (.inl rfl) rfl ?_
  refine SOps.q rfl (.plain rfl) rfl (q_pick_f rfl rfl rfl rfl) ?_
  refine SOps.q rfl (.plain rfl) rfl (q_assign rfl rfl) ?_
  refine SOps.sub (st' := ⟨[(2, .c (.bool false))], []⟩) (sub_gen [] rfl rfl ⟨zc rfl rfl, trivial⟩ trivial) ?_
  refine SOps.nil ?_
  refine SCode.ret ?_
  obtain rfl := Option.some.inj h
  exact ⟨⟨[(2, .c (.bool false))], []⟩, _, sub_gen [] rfl rfl ⟨zc rfl rfl, trivial⟩ trivial, resA1 (v := .c (.bool false)) rfl rfl, rfl⟩
end Go.Proofs.Ytbepoingholchaa.W
