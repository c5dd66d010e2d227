/- Written by a program of ours (wip/eng/gen.py): the functions compute their models. -/
import Derived.Test.YtbepoingholchaaFacts
import Derived.Test.YtbepoingholchaaV5x7
namespace Go.Proofs.Ytbepoingholchaa.W
open Go Go.Proofs Go.Proofs.Ytbepoingholchaa.E Go.Proofs.Ytbepoingholchaa.M
set_option linter.unusedVariables false
set_option maxRecDepth 100000 in
set_option maxHeartbeats 8000000 in
theorem chargenetlaw09_FlowCuts_ok (F : Nat) (a0_n : SNet) (a1_source : Int) (a2_sink : Int) (r : Bool) (h : chargenetlaw09_FlowCuts F a0_n a1_source a2_sink = some r) :
    SFun Try.prog 5 [] [.a [.int .i64 a0_n.Nodes, .vec a0_n.Arcs.length 3 (gL cSArc dSArc a0_n.Arcs)], .c (.int .i64 a1_source), .c (.int .i64 a2_sink)] (fun x _ => x = .c (.bool r)) := by
  refine SFun.of (n := 94) Try.func5 rfl rfl rfl ?_
  unfold chargenetlaw09_FlowCuts at h
  show SCode _ _ _ ⟨[(0, .a [.int .i64 a0_n.Nodes, .vec a0_n.Arcs.length 3 (gL cSArc dSArc a0_n.Arcs)]), (1, .c (.int .i64 a1_source)), (2, .c (.int .i64 a2_sink))], []⟩ _
  refine SCode.seq ?_
  refine SCode.region (show SOps _ _ _ [0, 1] _ _ from ?_)
  refine SOps.e rfl (.plain rfl) (e_box rfl rfl rfl rfl rfl rfl) ?_
  refine SOps.q rfl (.plain rfl) rfl (q_assign rfl rfl) ?_
  refine SOps.sub (st' := ⟨[(1, .c (.int .i64 a1_source)), (2, .c (.int .i64 a2_sink)), (3, .c (.ptr 0 0))], [.box [.int .i64 a0_n.Nodes, .vec a0_n.Arcs.length 3 (gL cSArc dSArc a0_n.Arcs)]]⟩) (sub_gen [0] rfl rfl ⟨zc rfl rfl, zc rfl rfl, zc rfl rfl, trivial⟩ ⟨⟨_, rfl, ⟨ii rfl rfl, ii rfl rfl, trivial⟩⟩, trivial⟩) ?_
  refine SOps.nil ?_
  refine SCode.seq ?_
  refine SCode.seq ?_
  obtain ⟨c_1, g2, h⟩ := bind_out h
  try dsimp only at h
  refine SCode.region (show SOps _ _ _ [0, 1, 2] _ _ from ?_)
  refine SOps.q rfl (.plain rfl) rfl (q_load_ptr_all rfl rfl rfl rfl rfl ty24) ?_
  refine SOps.q rfl (.plain rfl) rfl (q_call (chargenetref09_Small_ok F a0_n 64 200 c_1 g2) [] rfl fn14 ⟨⟨rfl, rfl⟩, ⟨_, rfl, .inl ⟨rfl, rfl⟩⟩, ⟨_, rfl, .inl ⟨rfl, rfl⟩⟩, trivial⟩ (.inl rfl)) ?_
  refine SOps.q rfl (.plain rfl) rfl (q_not rfl rfl) ?_
  refine SOps.sub (st' := ⟨[(1, .c (.int .i64 a1_source)), (2, .c (.int .i64 a2_sink)), (3, .c (.ptr 0 0)), (15, .c (.bool ((!c_1))))], [.box [.int .i64 a0_n.Nodes, .vec a0_n.Arcs.length 3 (gL cSArc dSArc a0_n.Arcs)]]⟩) (sub_gen [0] rfl rfl ⟨zc rfl rfl, zc rfl rfl, zc rfl rfl, zc rfl rfl, trivial⟩ ⟨⟨_, rfl, ⟨ii rfl rfl, ii rfl rfl, trivial⟩⟩, trivial⟩) ?_
  refine SOps.nil ?_
  rcases cond_out h with ⟨g3, h⟩ | ⟨g3, h⟩
  · refine SCode.cond_t rfl g3 ?_
    refine SCode.seq ?_
    obtain ⟨c_4, g5, h⟩ := bind_out h
    try dsimp only at h
    refine SCode.region (show SOps _ _ _ [0, 1] _ _ from ?_)
    refine SOps.q rfl (.plain rfl) rfl (q_call (chargenetlaw09_awake_ok F  c_4 g5) [] rfl fn11 trivial (.inl rfl)) ?_
    refine SOps.q rfl (.plain rfl) rfl (q_assign rfl rfl) ?_
    refine SOps.sub (st' := ⟨[(6, .c (.bool c_4))], []⟩) (sub_gen [] rfl rfl ⟨zc rfl rfl, trivial⟩ trivial) ?_
    refine SOps.nil ?_
    refine SCode.ret ?_
    obtain rfl := Option.some.inj h
    exact ⟨⟨[(6, .c (.bool c_4))], []⟩, _, sub_gen [] rfl rfl ⟨zc rfl rfl, trivial⟩ trivial, resA1 (v := .c (.bool c_4)) rfl rfl, rfl⟩
  refine SCode.cond_f rfl g3 ?_
  refine SCode.skip ?_
  refine SCode.seq ?_
  obtain ⟨c_6, g7, h⟩ := bind_out h
  try dsimp only at h
  refine SCode.region (show SOps _ _ _ [0, 1, 2, 3, 4, 5, 6, 7, 8] _ _ from ?_)
  refine SOps.q rfl (.plain rfl) rfl (q_load_ptr_all rfl rfl rfl rfl rfl ty24) ?_
  refine SOps.q rfl (.plain rfl) rfl (q_move rfl rfl) ?_
  refine SOps.q rfl (.plain rfl) rfl (q_move rfl rfl) ?_
  refine SOps.q rfl (.plain rfl) rfl (q_call (flow_Cut_ok F a0_n a1_source a2_sink c_6 g7) [] rfl fn18 ⟨⟨rfl, rfl⟩, ⟨_, rfl, .inl ⟨rfl, rfl⟩⟩, ⟨_, rfl, .inl ⟨rfl, rfl⟩⟩, trivial⟩ (.inl rfl)) ?_
  refine SOps.q rfl (.plain rfl) rfl (q_move rfl rfl) ?_
  refine SOps.q rfl (.plain rfl) rfl (q_extract rfl rfl rfl) ?_
  refine SOps.q rfl (.plain rfl) rfl (q_extract rfl rfl rfl) ?_
  refine SOps.q rfl (.plain rfl) rfl (q_assign rfl rfl) ?_
  refine SOps.q rfl (.plain rfl) rfl (q_assign rfl rfl) ?_
  refine SOps.sub (st' := ⟨[(1, .c (.int .i64 a1_source)), (2, .c (.int .i64 a2_sink)), (3, .c (.ptr 0 0)), (7, .c (.vec c_6.1.length 1 (gL cBool false c_6.1))), (8, .c (.int .i64 c_6.2))], [.box [.int .i64 a0_n.Nodes, .vec a0_n.Arcs.length 3 (gL cSArc dSArc a0_n.Arcs)]]⟩) (sub_gen [0] rfl rfl ⟨zc rfl rfl, zc rfl rfl, zc rfl rfl, zc rfl rfl, zc rfl rfl, trivial⟩ ⟨⟨_, rfl, ⟨ii rfl rfl, ii rfl rfl, trivial⟩⟩, trivial⟩) ?_
  refine SOps.nil ?_
  refine SCode.seq ?_
  refine SCode.seq ?_
  obtain ⟨c_8, g9, h⟩ := bind_out h
  try dsimp only at h
  refine SCode.region (show SOps _ _ _ [0, 1, 2, 3, 4] _ _ from ?_)
  refine SOps.q rfl (.plain rfl) rfl (q_load_ptr_all rfl rfl rfl rfl rfl ty24) ?_
  refine SOps.q rfl (.plain rfl) rfl (q_move rfl rfl) ?_
  refine SOps.q rfl (.plain rfl) rfl (q_move rfl rfl) ?_
  refine SOps.q rfl (.plain rfl) rfl (q_call (chargenetref09_Ends_ok F a0_n a1_source a2_sink c_8 g9) [] rfl fn16 ⟨⟨rfl, rfl⟩, ⟨_, rfl, .inl ⟨rfl, rfl⟩⟩, ⟨_, rfl, .inl ⟨rfl, rfl⟩⟩, trivial⟩ (.inl rfl)) ?_
  refine SOps.q rfl (.plain rfl) rfl (q_assign rfl rfl) ?_
  refine SOps.sub (st' := ⟨[(1, .c (.int .i64 a1_source)), (2, .c (.int .i64 a2_sink)), (3, .c (.ptr 0 0)), (7, .c (.vec c_6.1.length 1 (gL cBool false c_6.1))), (8, .c (.int .i64 c_6.2)), (9, .c (.int .i64 c_8))], [.box [.int .i64 a0_n.Nodes, .vec a0_n.Arcs.length 3 (gL cSArc dSArc a0_n.Arcs)]]⟩) (sub_gen [0] rfl rfl ⟨zc rfl rfl, zc rfl rfl, zc rfl rfl, zc rfl rfl, zc rfl rfl, zc rfl rfl, trivial⟩ ⟨⟨_, rfl, ⟨ii rfl rfl, ii rfl rfl, trivial⟩⟩, trivial⟩) ?_
  refine SOps.nil ?_
  refine SCode.seq ?_
  refine SCode.region (show SOps _ _ _ [0, 1] _ _ from ?_)
  refine SOps.q rfl (.plain rfl) rfl (q_move rfl rfl) ?_
  refine SOps.q rfl (.plain rfl) rfl (q_neq rfl rfl rfl) ?_
  refine SOps.sub (st' := ⟨[(1, .c (.int .i64 a1_source)), (2, .c (.int .i64 a2_sink)), (3, .c (.ptr 0 0)), (7, .c (.vec c_6.1.length 1 (gL cBool false c_6.1))), (8, .c (.int .i64 c_6.2)), (9, .c (.int .i64 c_8)), (29, .c (.bool ((!decide (c_8 = 0)))))], [.box [.int .i64 a0_n.Nodes, .vec a0_n.Arcs.length 3 (gL cSArc dSArc a0_n.Arcs)]]⟩) (sub_gen [0] rfl rfl ⟨zc rfl rfl, zc rfl rfl, zc rfl rfl, zc rfl rfl, zc rfl rfl, zc rfl rfl, zc rfl rfl, trivial⟩ ⟨⟨_, rfl, ⟨ii rfl rfl, ii rfl rfl, trivial⟩⟩, trivial⟩) ?_
  refine SOps.nil ?_
  rcases cond_out h with ⟨g10, h⟩ | ⟨g10, h⟩
  · refine SCode.cond_t rfl g10 ?_
    refine SCode.seq ?_
    rcases cond_out h with ⟨g11, h⟩ | ⟨g11, h⟩
    · rcases cond_out h with ⟨g12, h⟩ | ⟨g12, h⟩
      · obtain ⟨c_13, g14, h⟩ := bind_out h
        try dsimp only at h
        refine SCode.region (show SOps _ _ _ [0, 1, 2, 3, 4, 5, 6, 7, 8, 9, 10, 11] _ _ from ?_)
        refine SOps.q rfl (.plain rfl) rfl (q_move rfl rfl) ?_
        refine SOps.q rfl (.plain rfl) rfl (q_len_vec rfl rfl sl35) ?_
        refine SOps.q rfl (.plain rfl) rfl (q_eql rfl rfl rfl) ?_
        refine SOps.q rfl (.plain rfl) rfl (q_move rfl rfl) ?_
        refine SOps.q rfl (.guard 3 33 true rfl rfl (gT g11)) rfl (q_move rfl rfl) ?_
        refine SOps.q rfl (.guard 3 33 true rfl rfl (gT g11)) rfl (q_move rfl rfl) ?_
        refine SOps.q rfl (.guard 3 33 true rfl rfl (gT g11)) rfl (q_eql rfl rfl rfl) ?_
        refine SOps.q rfl (.plain rfl) rfl (q_pick_t rfl rfl g11 rfl) ?_
        refine SOps.q rfl (.plain rfl) rfl (q_move rfl rfl) ?_
        refine SOps.q rfl (.guard 8 38 true rfl rfl (gT g12)) rfl (q_call (chargenetlaw09_awake_ok F  c_13 g14) [] rfl fn11 trivial (.inl rfl)) ?_
        refine SOps.q rfl (.plain rfl) rfl (q_pick_t rfl rfl g12 rfl) ?_
        refine SOps.q rfl (.plain rfl) rfl (q_assign rfl rfl) ?_
        refine SOps.sub (st' := ⟨[(6, .c (.bool c_13))], []⟩) (sub_gen [] rfl rfl ⟨zc rfl rfl, trivial⟩ trivial) ?_
        refine SOps.nil ?_
        refine SCode.ret ?_
        obtain rfl := Option.some.inj h
        exact ⟨⟨[(6, .c (.bool c_13))], []⟩, _, sub_gen [] rfl rfl ⟨zc rfl rfl, trivial⟩ trivial, resA1 (v := .c (.bool c_13)) rfl rfl, rfl⟩
      refine SCode.region (show SOps _ _ _ [0, 1, 2, 3, 4, 5, 6, 7, 8, 9, 10, 11] _ _ from ?_)
      refine SOps.q rfl (.plain rfl) rfl (q_move rfl rfl) ?_
      refine SOps.q rfl (.plain rfl) rfl (q_len_vec rfl rfl sl35) ?_
      refine SOps.q rfl (.plain rfl) rfl (q_eql rfl rfl rfl) ?_
      refine SOps.q rfl (.plain rfl) rfl (q_move rfl rfl) ?_
      refine SOps.q rfl (.guard 3 33 true rfl rfl (gT g11)) rfl (q_move rfl rfl) ?_
      refine SOps.q rfl (.guard 3 33 true rfl rfl (gT g11)) rfl (q_move rfl rfl) ?_
      refine SOps.q rfl (.guard 3 33 true rfl rfl (gT g11)) rfl (q_eql rfl rfl rfl) ?_
      refine SOps.q rfl (.plain rfl) rfl (q_pick_t rfl rfl g11 rfl) ?_
      refine SOps.q rfl (.plain rfl) rfl (q_move rfl rfl) ?_
      refine SOps.skip rfl 8 38 true rfl rfl (.inl (gF g12)) rfl ?_
      refine SOps.q rfl (.plain rfl) rfl (q_pick_f rfl rfl g12 rfl) ?_
      refine SOps.q rfl (.plain rfl) rfl (q_assign rfl rfl) ?_
      refine SOps.sub (st' := ⟨[(6, .c (.bool false))], []⟩) (sub_gen [] rfl rfl ⟨zc rfl rfl, trivial⟩ trivial) ?_
      refine SOps.nil ?_
      refine SCode.ret ?_
      obtain rfl := Option.some.inj h
      exact ⟨⟨[(6, .c (.bool false))], []⟩, _, sub_gen [] rfl rfl ⟨zc rfl rfl, trivial⟩ trivial, resA1 (v := .c (.bool false)) rfl rfl, rfl⟩
    refine SCode.region (show SOps _ _ _ [0, 1, 2, 3, 4, 5, 6, 7, 8, 9, 10, 11] _ _ from ?_)
    refine SOps.q rfl (.plain rfl) rfl (q_move rfl rfl) ?_
    refine SOps.q rfl (.plain rfl) rfl (q_len_vec rfl rfl sl35) ?_
    refine SOps.q rfl (.plain rfl) rfl (q_eql rfl rfl rfl) ?_
    refine SOps.q rfl (.plain rfl) rfl (q_move rfl rfl) ?_
    refine SOps.skip rfl 3 33 true rfl rfl (.inl (gF g11)) rfl ?_
    refine SOps.skip rfl 3 33 true rfl rfl (.inl (gF g11)) rfl ?_
    refine SOps.skip rfl 3 33 true rfl rfl (.inl (gF g11)) rfl ?_
    refine SOps.q rfl (.plain rfl) rfl (q_pick_f rfl rfl g11 rfl) ?_
    refine SOps.q rfl (.plain rfl) rfl (q_move rfl rfl) ?_
    refine SOps.skip rfl 8 38 true rfl rfl (.inl rfl) rfl ?_
    refine SOps.q rfl (.plain rfl) rfl (q_pick_f rfl rfl rfl rfl) ?_
    refine SOps.q rfl (.plain rfl) rfl (q_assign rfl rfl) ?_
    refine SOps.sub (st' := ⟨[(6, .c (.bool false))], []⟩) (sub_gen [] rfl rfl ⟨zc rfl rfl, trivial⟩ trivial) ?_
    refine SOps.nil ?_
    refine SCode.ret ?_
    obtain rfl := Option.some.inj h
    exact ⟨⟨[(6, .c (.bool false))], []⟩, _, sub_gen [] rfl rfl ⟨zc rfl rfl, trivial⟩ trivial, resA1 (v := .c (.bool false)) rfl rfl, rfl⟩
  refine SCode.cond_f rfl g10 ?_
  refine SCode.skip ?_
  refine SCode.seq ?_
  obtain ⟨c_15, g16, h⟩ := bind_out h
  try dsimp only at h
  refine SCode.region (show SOps _ _ _ [0, 1, 2, 3, 4, 5, 6, 7, 8, 9, 10] _ _ from ?_)
  refine SOps.q rfl (.plain rfl) rfl (q_load_ptr_all rfl rfl rfl rfl rfl ty24) ?_
  refine SOps.q rfl (.plain rfl) rfl (q_move rfl rfl) ?_
  refine SOps.q rfl (.plain rfl) rfl (q_move rfl rfl) ?_
  refine SOps.q rfl (.plain rfl) rfl (q_call (flow_Max_ok F a0_n a1_source a2_sink c_15 g16) [] rfl fn15 ⟨⟨rfl, rfl⟩, ⟨_, rfl, .inl ⟨rfl, rfl⟩⟩, ⟨_, rfl, .inl ⟨rfl, rfl⟩⟩, trivial⟩ (.inl rfl)) ?_
  refine SOps.q rfl (.plain rfl) rfl (q_move rfl rfl) ?_
  refine SOps.q rfl (.plain rfl) rfl (q_extract rfl rfl rfl) ?_
  refine SOps.q rfl (.plain rfl) rfl (q_extract rfl rfl rfl) ?_
  refine SOps.q rfl (.plain rfl) rfl (q_extract rfl rfl rfl) ?_
  refine SOps.q rfl (.plain rfl) rfl (q_assign rfl rfl) ?_
  refine SOps.q rfl (.plain rfl) rfl (q_assign rfl rfl) ?_
  refine SOps.q rfl (.plain rfl) rfl (q_assign rfl rfl) ?_
  refine SOps.sub (st' := ⟨[(1, .c (.int .i64 a1_source)), (2, .c (.int .i64 a2_sink)), (3, .c (.ptr 0 0)), (7, .c (.vec c_6.1.length 1 (gL cBool false c_6.1))), (8, .c (.int .i64 c_6.2)), (10, .c (.int .i64 c_15.1)), (11, .c (.vec c_15.2.1.length 1 (gL (cInt .i64) 0 c_15.2.1))), (12, .c (.int .i64 c_15.2.2))], [.box [.int .i64 a0_n.Nodes, .vec a0_n.Arcs.length 3 (gL cSArc dSArc a0_n.Arcs)]]⟩) (sub_gen [0] rfl rfl ⟨zc rfl rfl, zc rfl rfl, zc rfl rfl, zc rfl rfl, zc rfl rfl, zc rfl rfl, zc rfl rfl, zc rfl rfl, trivial⟩ ⟨⟨_, rfl, ⟨ii rfl rfl, ii rfl rfl, trivial⟩⟩, trivial⟩) ?_
  refine SOps.nil ?_
  refine SCode.seq ?_
  refine SCode.seq ?_
  rcases cond_out h with ⟨g17, h⟩ | ⟨g17, h⟩
  · refine SCode.region (show SOps _ _ _ [0, 1, 2, 3, 4, 5, 6, 7, 8, 9, 10, 11, 12, 13, 14, 15, 16, 17, 18, 19, 20] _ _ from ?_)
    refine SOps.q rfl (.plain rfl) rfl (q_move rfl rfl) ?_
    refine SOps.q rfl (.plain rfl) rfl (q_neq rfl rfl rfl) ?_
    refine SOps.q rfl (.plain rfl) rfl (q_move rfl rfl) ?_
    refine SOps.skip rfl 2 51 false rfl rfl (.inl (gT g17)) rfl ?_
    refine SOps.skip rfl 2 51 false rfl rfl (.inl (gT g17)) rfl ?_
    refine SOps.q rfl (.plain rfl) rfl (q_pick_t rfl rfl g17 rfl) ?_
    refine SOps.q rfl (.plain rfl) rfl (q_move rfl rfl) ?_
    refine SOps.skip rfl 6 55 false rfl rfl (.inl rfl) rfl ?_
    refine SOps.skip rfl 6 55 false rfl rfl (.inl rfl) rfl ?_
    refine SOps.skip rfl 6 55 false rfl rfl (.inl rfl) rfl ?_
    refine SOps.skip rfl 6 55 false rfl rfl (.inl rfl) rfl ?_
    refine SOps.skip rfl 6 55 false rfl rfl (.inl rfl) rfl ?_
    refine SOps.skip rfl 6 55 false rfl rfl (.inl rfl) rfl ?_
    refine SOps.q rfl (.plain rfl) rfl (q_pick_t rfl rfl rfl rfl) ?_
    refine SOps.q rfl (.plain rfl) rfl (q_move rfl rfl) ?_
    refine SOps.skip rfl 14 63 false rfl rfl (.inl rfl) rfl ?_
    refine SOps.skip rfl 14 63 false rfl rfl (.inl rfl) rfl ?_
    refine SOps.skip rfl 14 63 false rfl rfl (.inl rfl) rfl ?_
    refine SOps.skip rfl 14 63 false rfl rfl (.inl rfl) rfl ?_
    refine SOps.skip rfl 14 63 false rfl rfl (.inl rfl) rfl ?_
    refine SOps.q rfl (.plain rfl) rfl (q_pick_t rfl rfl rfl rfl) ?_
    refine SOps.sub (st' := ⟨[(1, .c (.int .i64 a1_source)), (2, .c (.int .i64 a2_sink)), (3, .c (.ptr 0 0)), (7, .c (.vec c_6.1.length 1 (gL cBool false c_6.1))), (10, .c (.int .i64 c_15.1)), (11, .c (.vec c_15.2.1.length 1 (gL (cInt .i64) 0 c_15.2.1))), (69, .c (.bool true))], [.box [.int .i64 a0_n.Nodes, .vec a0_n.Arcs.length 3 (gL cSArc dSArc a0_n.Arcs)]]⟩) (sub_gen [0] rfl rfl ⟨zc rfl rfl, zc rfl rfl, zc rfl rfl, zc rfl rfl, zc rfl rfl, zc rfl rfl, zc rfl rfl, trivial⟩ ⟨⟨_, rfl, ⟨ii rfl rfl, ii rfl rfl, trivial⟩⟩, trivial⟩) ?_
    refine SOps.nil ?_
    refine SCode.cond_t rfl rfl ?_
    refine SCode.seq ?_
    refine SCode.region (show SOps _ _ _ [0] _ _ from ?_)
    refine SOps.q rfl (.plain rfl) rfl (q_assign rfl rfl) ?_
    refine SOps.sub (st' := ⟨[(6, .c (.bool false))], []⟩) (sub_gen [] rfl rfl ⟨zc rfl rfl, trivial⟩ trivial) ?_
    refine SOps.nil ?_
    refine SCode.ret ?_
    obtain rfl := Option.some.inj h
    exact ⟨⟨[(6, .c (.bool false))], []⟩, _, sub_gen [] rfl rfl ⟨zc rfl rfl, trivial⟩ trivial, resA1 (v := .c (.bool false)) rfl rfl, rfl⟩
  rcases cond_out h with ⟨g18, h⟩ | ⟨g18, h⟩
  · refine SCode.region (show SOps _ _ _ [0, 1, 2, 3, 4, 5, 6, 7, 8, 9, 10, 11, 12, 13, 14, 15, 16, 17, 18, 19, 20] _ _ from ?_)
    refine SOps.q rfl (.plain rfl) rfl (q_move rfl rfl) ?_
    refine SOps.q rfl (.plain rfl) rfl (q_neq rfl rfl rfl) ?_
    refine SOps.q rfl (.plain rfl) rfl (q_move rfl rfl) ?_
    refine SOps.q rfl (.guard 2 51 false rfl rfl (gF g17)) rfl (q_move rfl rfl) ?_
    refine SOps.q rfl (.guard 2 51 false rfl rfl (gF g17)) rfl (q_neq rfl rfl rfl) ?_
    refine SOps.q rfl (.plain rfl) rfl (q_pick_f rfl rfl g17 rfl) ?_
    refine SOps.q rfl (.plain rfl) rfl (q_move rfl rfl) ?_
    refine SOps.skip rfl 6 55 false rfl rfl (.inl (gT g18)) rfl ?_
    refine SOps.skip rfl 6 55 false rfl rfl (.inl (gT g18)) rfl ?_
    refine SOps.skip rfl 6 55 false rfl rfl (.inl (gT g18)) rfl ?_
    refine SOps.skip rfl 6 55 false rfl rfl (.inl (gT g18)) rfl ?_
    refine SOps.skip rfl 6 55 false rfl rfl (.inl (gT g18)) rfl ?_
    refine SOps.skip rfl 6 55 false rfl rfl (.inl (gT g18)) rfl ?_
    refine SOps.q rfl (.plain rfl) rfl (q_pick_t rfl rfl g18 rfl) ?_
    refine SOps.q rfl (.plain rfl) rfl (q_move rfl rfl) ?_
    refine SOps.skip rfl 14 63 false rfl rfl (.inl rfl) rfl ?_
    refine SOps.skip rfl 14 63 false rfl rfl (.inl rfl) rfl ?_
    refine SOps.skip rfl 14 63 false rfl rfl (.inl rfl) rfl ?_
    refine SOps.skip rfl 14 63 false rfl rfl (.inl rfl) rfl ?_
    refine SOps.skip rfl 14 63 false rfl rfl (.inl rfl) rfl ?_
    refine SOps.q rfl (.plain rfl) rfl (q_pick_t rfl rfl rfl rfl) ?_
    refine SOps.sub (st' := ⟨[(1, .c (.int .i64 a1_source)), (2, .c (.int .i64 a2_sink)), (3, .c (.ptr 0 0)), (7, .c (.vec c_6.1.length 1 (gL cBool false c_6.1))), (10, .c (.int .i64 c_15.1)), (11, .c (.vec c_15.2.1.length 1 (gL (cInt .i64) 0 c_15.2.1))), (69, .c (.bool true))], [.box [.int .i64 a0_n.Nodes, .vec a0_n.Arcs.length 3 (gL cSArc dSArc a0_n.Arcs)]]⟩) (sub_gen [0] rfl rfl ⟨zc rfl rfl, zc rfl rfl, zc rfl rfl, zc rfl rfl, zc rfl rfl, zc rfl rfl, zc rfl rfl, trivial⟩ ⟨⟨_, rfl, ⟨ii rfl rfl, ii rfl rfl, trivial⟩⟩, trivial⟩) ?_
    refine SOps.nil ?_
    refine SCode.cond_t rfl rfl ?_
    refine SCode.seq ?_
    refine SCode.region (show SOps _ _ _ [0] _ _ from ?_)
    refine SOps.q rfl (.plain rfl) rfl (q_assign rfl rfl) ?_
    refine SOps.sub (st' := ⟨[(6, .c (.bool false))], []⟩) (sub_gen [] rfl rfl ⟨zc rfl rfl, trivial⟩ trivial) ?_
    refine SOps.nil ?_
    refine SCode.ret ?_
    obtain rfl := Option.some.inj h
    exact ⟨⟨[(6, .c (.bool false))], []⟩, _, sub_gen [] rfl rfl ⟨zc rfl rfl, trivial⟩ trivial, resA1 (v := .c (.bool false)) rfl rfl, rfl⟩
  rcases cond_out h with ⟨g19, h⟩ | ⟨g19, h⟩
  · refine SCode.region (show SOps _ _ _ [0, 1, 2, 3, 4, 5, 6, 7, 8, 9, 10, 11, 12, 13, 14, 15, 16, 17, 18, 19, 20] _ _ from ?_)
    refine SOps.q rfl (.plain rfl) rfl (q_move rfl rfl) ?_
    refine SOps.q rfl (.plain rfl) rfl (q_neq rfl rfl rfl) ?_
    refine SOps.q rfl (.plain rfl) rfl (q_move rfl rfl) ?_
    refine SOps.q rfl (.guard 2 51 false rfl rfl (gF g17)) rfl (q_move rfl rfl) ?_
    refine SOps.q rfl (.guard 2 51 false rfl rfl (gF g17)) rfl (q_neq rfl rfl rfl) ?_
    refine SOps.q rfl (.plain rfl) rfl (q_pick_f rfl rfl g17 rfl) ?_
    refine SOps.q rfl (.plain rfl) rfl (q_move rfl rfl) ?_
    refine SOps.q rfl (.guard 6 55 false rfl rfl (gF g18)) rfl (q_move rfl rfl) ?_
    refine SOps.q rfl (.guard 6 55 false rfl rfl (gF g18)) rfl (q_len_vec rfl rfl sl30) ?_
    refine SOps.q rfl (.guard 6 55 false rfl rfl (gF g18)) rfl (q_field_ptr rfl rfl fd24_1) ?_
    refine SOps.q rfl (.guard 6 55 false rfl rfl (gF g18)) rfl (q_load_ptr rfl rfl rfl rfl ty22) ?_
    refine SOps.q rfl (.guard 6 55 false rfl rfl (gF g18)) rfl (q_len_vec rfl rfl sl22) ?_
    refine SOps.q rfl (.guard 6 55 false rfl rfl (gF g18)) rfl (q_neq rfl rfl rfl) ?_
    refine SOps.q rfl (.plain rfl) rfl (q_pick_f rfl rfl g18 rfl) ?_
    refine SOps.q rfl (.plain rfl) rfl (q_move rfl rfl) ?_
    refine SOps.skip rfl 14 63 false rfl rfl (.inl (gT g19)) rfl ?_
    refine SOps.skip rfl 14 63 false rfl rfl (.inl (gT g19)) rfl ?_
    refine SOps.skip rfl 14 63 false rfl rfl (.inl (gT g19)) rfl ?_
    refine SOps.skip rfl 14 63 false rfl rfl (.inl (gT g19)) rfl ?_
    refine SOps.skip rfl 14 63 false rfl rfl (.inl (gT g19)) rfl ?_
    refine SOps.q rfl (.plain rfl) rfl (q_pick_t rfl rfl g19 rfl) ?_
    refine SOps.sub (st' := ⟨[(1, .c (.int .i64 a1_source)), (2, .c (.int .i64 a2_sink)), (3, .c (.ptr 0 0)), (7, .c (.vec c_6.1.length 1 (gL cBool false c_6.1))), (10, .c (.int .i64 c_15.1)), (11, .c (.vec c_15.2.1.length 1 (gL (cInt .i64) 0 c_15.2.1))), (69, .c (.bool true))], [.box [.int .i64 a0_n.Nodes, .vec a0_n.Arcs.length 3 (gL cSArc dSArc a0_n.Arcs)]]⟩) (sub_gen [0] rfl rfl ⟨zc rfl rfl, zc rfl rfl, zc rfl rfl, zc rfl rfl, zc rfl rfl, zc rfl rfl, zc rfl rfl, trivial⟩ ⟨⟨_, rfl, ⟨ii rfl rfl, ii rfl rfl, trivial⟩⟩, trivial⟩) ?_
    refine SOps.nil ?_
    refine SCode.cond_t rfl rfl ?_
    refine SCode.seq ?_
    refine SCode.region (show SOps _ _ _ [0] _ _ from ?_)
    refine SOps.q rfl (.plain rfl) rfl (q_assign rfl rfl) ?_
    refine SOps.sub (st' := ⟨[(6, .c (.bool false))], []⟩) (sub_gen [] rfl rfl ⟨zc rfl rfl, trivial⟩ trivial) ?_
    refine SOps.nil ?_
    refine SCode.ret ?_
    obtain rfl := Option.some.inj h
    exact ⟨⟨[(6, .c (.bool false))], []⟩, _, sub_gen [] rfl rfl ⟨zc rfl rfl, trivial⟩ trivial, resA1 (v := .c (.bool false)) rfl rfl, rfl⟩
  refine SCode.region (show SOps _ _ _ [0, 1, 2, 3, 4, 5, 6, 7, 8, 9, 10, 11, 12, 13, 14, 15, 16, 17, 18, 19, 20] _ _ from ?_)
  refine SOps.q rfl (.plain rfl) rfl (q_move rfl rfl) ?_
  refine SOps.q rfl (.plain rfl) rfl (q_neq rfl rfl rfl) ?_
  refine SOps.q rfl (.plain rfl) rfl (q_move rfl rfl) ?_
  refine SOps.q rfl (.guard 2 51 false rfl rfl (gF g17)) rfl (q_move rfl rfl) ?_
  refine SOps.q rfl (.guard 2 51 false rfl rfl (gF g17)) rfl (q_neq rfl rfl rfl) ?_
  refine SOps.q rfl (.plain rfl) rfl (q_pick_f rfl rfl g17 rfl) ?_
  refine SOps.q rfl (.plain rfl) rfl (q_move rfl rfl) ?_
  refine SOps.q rfl (.guard 6 55 false rfl rfl (gF g18)) rfl (q_move rfl rfl) ?_
  refine SOps.q rfl (.guard 6 55 false rfl rfl (gF g18)) rfl (q_len_vec rfl rfl sl30) ?_
  refine SOps.q rfl (.guard 6 55 false rfl rfl (gF g18)) rfl (q_field_ptr rfl rfl fd24_1) ?_
  refine SOps.q rfl (.guard 6 55 false rfl rfl (gF g18)) rfl (q_load_ptr rfl rfl rfl rfl ty22) ?_
  refine SOps.q rfl (.guard 6 55 false rfl rfl (gF g18)) rfl (q_len_vec rfl rfl sl22) ?_
  refine SOps.q rfl (.guard 6 55 false rfl rfl (gF g18)) rfl (q_neq rfl rfl rfl) ?_
  refine SOps.q rfl (.plain rfl) rfl (q_pick_f rfl rfl g18 rfl) ?_
  refine SOps.q rfl (.plain rfl) rfl (q_move rfl rfl) ?_
  refine SOps.q rfl (.guard 14 63 false rfl rfl (gF g19)) rfl (q_move rfl rfl) ?_
  refine SOps.q rfl (.guard 14 63 false rfl rfl (gF g19)) rfl (q_len_vec rfl rfl sl35) ?_
  refine SOps.q rfl (.guard 14 63 false rfl rfl (gF g19)) rfl (q_field_ptr rfl rfl fd24_0) ?_
  refine SOps.q rfl (.guard 14 63 false rfl rfl (gF g19)) rfl (q_load_ptr rfl rfl rfl rfl ty3) ?_
  refine SOps.q rfl (.guard 14 63 false rfl rfl (gF g19)) rfl (q_neq rfl rfl rfl) ?_
  refine SOps.q rfl (.plain rfl) rfl (q_pick_f rfl rfl g19 rfl) ?_
  refine SOps.sub (st' := ⟨[(1, .c (.int .i64 a1_source)), (2, .c (.int .i64 a2_sink)), (3, .c (.ptr 0 0)), (7, .c (.vec c_6.1.length 1 (gL cBool false c_6.1))), (10, .c (.int .i64 c_15.1)), (11, .c (.vec c_15.2.1.length 1 (gL (cInt .i64) 0 c_15.2.1))), (69, .c (.bool ((!decide (((c_6.1).length : Int) = a0_n.Nodes)))))], [.box [.int .i64 a0_n.Nodes, .vec a0_n.Arcs.length 3 (gL cSArc dSArc a0_n.Arcs)]]⟩) (sub_gen [0] rfl rfl ⟨zc rfl rfl, zc rfl rfl, zc rfl rfl, zc rfl rfl, zc rfl rfl, zc rfl rfl, zc rfl rfl, trivial⟩ ⟨⟨_, rfl, ⟨ii rfl rfl, ii rfl rfl, trivial⟩⟩, trivial⟩) ?_
  refine SOps.nil ?_
  rcases cond_out h with ⟨g20, h⟩ | ⟨g20, h⟩
  · refine SCode.cond_t rfl g20 ?_
    refine SCode.seq ?_
    refine SCode.region (show SOps _ _ _ [0] _ _ from ?_)
    refine SOps.q rfl (.plain rfl) rfl (q_assign rfl rfl) ?_
    refine SOps.sub (st' := ⟨[(6, .c (.bool false))], []⟩) (sub_gen [] rfl rfl ⟨zc rfl rfl, trivial⟩ trivial) ?_
    refine SOps.nil ?_
    refine SCode.ret ?_
    obtain rfl := Option.some.inj h
    exact ⟨⟨[(6, .c (.bool false))], []⟩, _, sub_gen [] rfl rfl ⟨zc rfl rfl, trivial⟩ trivial, resA1 (v := .c (.bool false)) rfl rfl, rfl⟩
  refine SCode.cond_f rfl g20 ?_
  refine SCode.skip ?_
  refine SCode.seq ?_
  obtain ⟨c_21, g22, h⟩ := bind_out h
  try dsimp only at h
  rcases cond_out h with ⟨g23, h⟩ | ⟨g23, h⟩
  · obtain ⟨c_24, g25, h⟩ := bind_out h
    try dsimp only at h
    obtain ⟨c_26, g27, h⟩ := bind_out h
    try dsimp only at h
    rcases cond_out h with ⟨g28, h⟩ | ⟨g28, h⟩
    · obtain ⟨c_29, g30, h⟩ := bind_out h
      try dsimp only at h
      rcases cond_out h with ⟨g31, h⟩ | ⟨g31, h⟩
      · obtain ⟨c_32, g33, h⟩ := bind_out h
        try dsimp only at h
        refine SCode.region (show SOps _ _ _ [0, 1, 2, 3, 4, 5, 6, 7, 8, 9, 10, 11, 12, 13, 14, 15, 16, 17, 18, 19, 20, 21, 22, 23, 24] _ _ from ?_)
        refine SOps.q rfl (.plain rfl) rfl (q_load_ptr_all rfl rfl rfl rfl rfl ty24) ?_
        refine SOps.q rfl (.plain rfl) rfl (q_move rfl rfl) ?_
        refine SOps.q rfl (.plain rfl) rfl (q_move rfl rfl) ?_
        refine SOps.q rfl (.plain rfl) rfl (q_move rfl rfl) ?_
        refine SOps.q rfl (.plain rfl) rfl (q_move rfl rfl) ?_
        refine SOps.q rfl (.plain rfl) rfl (q_call (chargenetref09_Greatest_ok F a0_n a1_source a2_sink c_15.1 c_15.2.1 c_21 g22) [] rfl fn17 ⟨⟨rfl, rfl⟩, ⟨_, rfl, .inl ⟨rfl, rfl⟩⟩, ⟨_, rfl, .inl ⟨rfl, rfl⟩⟩, ⟨_, rfl, .inl ⟨rfl, rfl⟩⟩, ⟨_, rfl, .inl ⟨rfl, rfl⟩⟩, trivial⟩ (.inl rfl)) ?_
        refine SOps.q rfl (.plain rfl) rfl (q_move rfl rfl) ?_
        refine SOps.q rfl (.guard 6 76 true rfl rfl (gT g23)) rfl (q_move rfl rfl) ?_
        refine SOps.q rfl (.guard 6 76 true rfl rfl (gT g23)) rfl (q_load_ptr_all rfl rfl rfl rfl rfl ty24) ?_
        refine SOps.q rfl (.guard 6 76 true rfl rfl (gT g23)) rfl (q_move rfl rfl) ?_
        refine SOps.q rfl (.guard 6 76 true rfl rfl (gT g23)) rfl (q_move rfl rfl) ?_
        refine SOps.q rfl (.guard 6 76 true rfl rfl (gT g23)) rfl (q_call (chargenetref09_Reach_ok F a0_n a1_source c_15.2.1 c_24 g25) [] rfl fn20 ⟨⟨rfl, rfl⟩, ⟨_, rfl, .inl ⟨rfl, rfl⟩⟩, ⟨_, rfl, .inl ⟨rfl, rfl⟩⟩, trivial⟩ (.inl rfl)) ?_
        refine SOps.q rfl (.guard 6 76 true rfl rfl (gT g23)) rfl (q_call (chargenetref09_Same_ok F c_6.1 c_24 c_26 g27) [] rfl fn19 ⟨⟨_, rfl, .inl ⟨rfl, rfl⟩⟩, ⟨_, rfl, .inl ⟨rfl, rfl⟩⟩, trivial⟩ (.inl rfl)) ?_
        refine SOps.q rfl (.plain rfl) rfl (q_pick_t rfl rfl g23 rfl) ?_
        refine SOps.q rfl (.plain rfl) rfl (q_move rfl rfl) ?_
        refine SOps.q rfl (.guard 14 84 true rfl rfl (gT g28)) rfl (q_load_ptr_all rfl rfl rfl rfl rfl ty24) ?_
        refine SOps.q rfl (.guard 14 84 true rfl rfl (gT g28)) rfl (q_move rfl rfl) ?_
        refine SOps.q rfl (.guard 14 84 true rfl rfl (gT g28)) rfl (q_call (chargenetref09_Capacity_ok F a0_n c_6.1 c_29 g30) [] rfl fn21 ⟨⟨rfl, rfl⟩, ⟨_, rfl, .inl ⟨rfl, rfl⟩⟩, trivial⟩ (.inl rfl)) ?_
        refine SOps.q rfl (.guard 14 84 true rfl rfl (gT g28)) rfl (q_move rfl rfl) ?_
        refine SOps.q rfl (.guard 14 84 true rfl rfl (gT g28)) rfl (q_eql rfl rfl rfl) ?_
        refine SOps.q rfl (.plain rfl) rfl (q_pick_t rfl rfl g28 rfl) ?_
        refine SOps.q rfl (.plain rfl) rfl (q_move rfl rfl) ?_
        refine SOps.q rfl (.guard 21 91 true rfl rfl (gT g31)) rfl (q_call (chargenetlaw09_awake_ok F  c_32 g33) [] rfl fn11 trivial (.inl rfl)) ?_
        refine SOps.q rfl (.plain rfl) rfl (q_pick_t rfl rfl g31 rfl) ?_
        refine SOps.q rfl (.plain rfl) rfl (q_assign rfl rfl) ?_
        refine SOps.sub (st' := ⟨[(6, .c (.bool c_32))], []⟩) (sub_gen [] rfl rfl ⟨zc rfl rfl, trivial⟩ trivial) ?_
        refine SOps.nil ?_
        refine SCode.ret ?_
        obtain rfl := Option.some.inj h
        exact ⟨⟨[(6, .c (.bool c_32))], []⟩, _, sub_gen [] rfl rfl ⟨zc rfl rfl, trivial⟩ trivial, resA1 (v := .c (.bool c_32)) rfl rfl, rfl⟩
      refine SCode.region (show SOps _ _ _ [0, 1, 2, 3, 4, 5, 6, 7, 8, 9, 10, 11, 12, 13, 14, 15, 16, 17, 18, 19, 20, 21, 22, 23, 24] _ _ from ?_)
      refine SOps.q rfl (.plain rfl) rfl (q_load_ptr_all rfl rfl rfl rfl rfl ty24) ?_
      refine SOps.q rfl (.plain rfl) rfl (q_move rfl rfl) ?_
      refine SOps.q rfl (.plain rfl) rfl (q_move rfl rfl) ?_
      refine SOps.q rfl (.plain rfl) rfl (q_move rfl rfl) ?_
      refine SOps.q rfl (.plain rfl) rfl (q_move rfl rfl) ?_
      refine SOps.q rfl (.plain rfl) rfl (q_call (chargenetref09_Greatest_ok F a0_n a1_source a2_sink c_15.1 c_15.2.1 c_21 g22) [] rfl fn17 ⟨⟨rfl, rfl⟩, ⟨_, rfl, .inl ⟨rfl, rfl⟩⟩, ⟨_, rfl, .inl ⟨rfl, rfl⟩⟩, ⟨_, rfl, .inl ⟨rfl, rfl⟩⟩, ⟨_, rfl, .inl ⟨rfl, rfl⟩⟩, trivial⟩ (.inl rfl)) ?_
      refine SOps.q rfl (.plain rfl) rfl (q_move rfl rfl) ?_
      refine SOps.q rfl (.guard 6 76 true rfl rfl (gT g23)) rfl (q_move rfl rfl) ?_
      refine SOps.q rfl (.guard 6 76 true rfl rfl (gT g23)) rfl (q_load_ptr_all rfl rfl rfl rfl rfl ty24) ?_
      refine SOps.q rfl (.guard 6 76 true rfl rfl (gT g23)) rfl (q_move rfl rfl) ?_
      refine SOps.q rfl (.guard 6 76 true rfl rfl (gT g23)) rfl (q_move rfl rfl) ?_
      refine SOps.q rfl (.guard 6 76 true rfl rfl (gT g23)) rfl (q_call (chargenetref09_Reach_ok F a0_n a1_source c_15.2.1 c_24 g25) [] rfl fn20 ⟨⟨rfl, rfl⟩, ⟨_, rfl, .inl ⟨rfl, rfl⟩⟩, ⟨_, rfl, .inl ⟨rfl, rfl⟩⟩, trivial⟩ (.inl rfl)) ?_
      refine SOps.q rfl (.guard 6 76 true rfl rfl (gT g23)) rfl (q_call (chargenetref09_Same_ok F c_6.1 c_24 c_26 g27) [] rfl fn19 ⟨⟨_, rfl, .inl ⟨rfl, rfl⟩⟩, ⟨_, rfl, .inl ⟨rfl, rfl⟩⟩, trivial⟩ (.inl rfl)) ?_
      refine SOps.q rfl (.plain rfl) rfl (q_pick_t rfl rfl g23 rfl) ?_
      refine SOps.q rfl (.plain rfl) rfl (q_move rfl rfl) ?_
      refine SOps.q rfl (.guard 14 84 true rfl rfl (gT g28)) rfl (q_load_ptr_all rfl rfl rfl rfl rfl ty24) ?_
      refine SOps.q rfl (.guard 14 84 true rfl rfl (gT g28)) rfl (q_move rfl rfl) ?_
      refine SOps.q rfl (.guard 14 84 true rfl rfl (gT g28)) rfl (q_call (chargenetref09_Capacity_ok F a0_n c_6.1 c_29 g30) [] rfl fn21 ⟨⟨rfl, rfl⟩, ⟨_, rfl, .inl ⟨rfl, rfl⟩⟩, trivial⟩ (.inl rfl)) ?_
      refine SOps.q rfl (.guard 14 84 true rfl rfl (gT g28)) rfl (q_move rfl rfl) ?_
      refine SOps.q rfl (.guard 14 84 true rfl rfl (gT g28)) rfl (q_eql rfl rfl rfl) ?_
      refine SOps.q rfl (.plain rfl) rfl (q_pick_t rfl rfl g28 rfl) ?_
      refine SOps.q rfl (.plain rfl) rfl (q_move rfl rfl) ?_
      refine SOps.skip rfl 21 91 true rfl rfl (.inl (gF g31)) rfl ?_
      refine SOps.q rfl (.plain rfl) rfl (q_pick_f rfl rfl g31 rfl) ?_
      refine SOps.q rfl (.plain rfl) rfl (q_assign rfl rfl) ?_
      refine SOps.sub (st' := ⟨[(6, .c (.bool false))], []⟩) (sub_gen [] rfl rfl ⟨zc rfl rfl, trivial⟩ trivial) ?_
      refine SOps.nil ?_
      refine SCode.ret ?_
      obtain rfl := Option.some.inj h
      exact ⟨⟨[(6, .c (.bool false))], []⟩, _, sub_gen [] rfl rfl ⟨zc rfl rfl, trivial⟩ trivial, resA1 (v := .c (.bool false)) rfl rfl, rfl⟩
    refine SCode.region (show SOps _ _ _ [0, 1, 2, 3, 4, 5, 6, 7, 8, 9, 10, 11, 12, 13, 14, 15, 16, 17, 18, 19, 20, 21, 22, 23, 24] _ _ from ?_)
    refine SOps.q rfl (.plain rfl) rfl (q_load_ptr_all rfl rfl rfl rfl rfl ty24) ?_
    refine SOps.q rfl (.plain rfl) rfl (q_move rfl rfl) ?_
    refine SOps.q rfl (.plain rfl) rfl (q_move rfl rfl) ?_
    refine SOps.q rfl (.plain rfl) rfl (q_move rfl rfl) ?_
    refine SOps.q rfl (.plain rfl) rfl (q_move rfl rfl) ?_
    refine SOps.q rfl (.plain rfl) rfl (q_call (chargenetref09_Greatest_ok F a0_n a1_source a2_sink c_15.1 c_15.2.1 c_21 g22) [] rfl fn17 ⟨⟨rfl, rfl⟩, ⟨_, rfl, .inl ⟨rfl, rfl⟩⟩, ⟨_, rfl, .inl ⟨rfl, rfl⟩⟩, ⟨_, rfl, .inl ⟨rfl, rfl⟩⟩, ⟨_, rfl, .inl ⟨rfl, rfl⟩⟩, trivial⟩ (.inl rfl)) ?_
    refine SOps.q rfl (.plain rfl) rfl (q_move rfl rfl) ?_
    refine SOps.q rfl (.guard 6 76 true rfl rfl (gT g23)) rfl (q_move rfl rfl) ?_
    refine SOps.q rfl (.guard 6 76 true rfl rfl (gT g23)) rfl (q_load_ptr_all rfl rfl rfl rfl rfl ty24) ?_
    refine SOps.q rfl (.guard 6 76 true rfl rfl (gT g23)) rfl (q_move rfl rfl) ?_
    refine SOps.q rfl (.guard 6 76 true rfl rfl (gT g23)) rfl (q_move rfl rfl) ?_
    refine SOps.q rfl (.guard 6 76 true rfl rfl (gT g23)) rfl (q_call (chargenetref09_Reach_ok F a0_n a1_source c_15.2.1 c_24 g25) [] rfl fn20 ⟨⟨rfl, rfl⟩, ⟨_, rfl, .inl ⟨rfl, rfl⟩⟩, ⟨_, rfl, .inl ⟨rfl, rfl⟩⟩, trivial⟩ (.inl rfl)) ?_
    refine SOps.q rfl (.guard 6 76 true rfl rfl (gT g23)) rfl (q_call (chargenetref09_Same_ok F c_6.1 c_24 c_26 g27) [] rfl fn19 ⟨⟨_, rfl, .inl ⟨rfl, rfl⟩⟩, ⟨_, rfl, .inl ⟨rfl, rfl⟩⟩, trivial⟩ (.inl rfl)) ?_
    refine SOps.q rfl (.plain rfl) rfl (q_pick_t rfl rfl g23 rfl) ?_
    refine SOps.q rfl (.plain rfl) rfl (q_move rfl rfl) ?_
    refine SOps.skip rfl 14 84 true rfl rfl (.inl (gF g28)) rfl ?_
    refine SOps.skip rfl 14 84 true rfl rfl (.inl (gF g28)) rfl ?_
    refine SOps.skip rfl 14 84 true rfl rfl (.inl (gF g28)) rfl ?_
    refine SOps.skip rfl 14 84 true rfl rfl (.inl (gF g28)) rfl ?_
    refine SOps.skip rfl 14 84 true rfl rfl (.inl (gF g28)) rfl ?_
    refine SOps.q rfl (.plain rfl) rfl (q_pick_f rfl rfl g28 rfl) ?_
    refine SOps.q rfl (.plain rfl) rfl (q_move rfl rfl) ?_
    refine SOps.skip rfl 21 91 true rfl rfl (.inl rfl) rfl ?_
    refine SOps.q rfl (.plain rfl) rfl (q_pick_f rfl rfl rfl rfl) ?_
    refine SOps.q rfl (.plain rfl) rfl (q_assign rfl rfl) ?_
    refine SOps.sub (st' := ⟨[(6, .c (.bool false))], []⟩) (sub_gen [] rfl rfl ⟨zc rfl rfl, trivial⟩ trivial) ?_
    refine SOps.nil ?_
    refine SCode.ret ?_
    obtain rfl := Option.some.inj h
    exact ⟨⟨[(6, .c (.bool false))], []⟩, _, sub_gen [] rfl rfl ⟨zc rfl rfl, trivial⟩ trivial, resA1 (v := .c (.bool false)) rfl rfl, rfl⟩
  refine SCode.region (show SOps _ _ _ [0, 1, 2, 3, 4, 5, 6, 7, 8, 9, 10, 11, 12, 13, 14, 15, 16, 17, 18, 19, 20, 21, 22, 23, 24] _ _ from ?_)
  refine SOps.q rfl (.plain rfl) rfl (q_load_ptr_all rfl rfl rfl rfl rfl ty24) ?_
  refine SOps.q rfl (.plain rfl) rfl (q_move rfl rfl) ?_
  refine SOps.q rfl (.plain rfl) rfl (q_move rfl rfl) ?_
  refine SOps.q rfl (.plain rfl) rfl (q_move rfl rfl) ?_
  refine SOps.q rfl (.plain rfl) rfl (q_move rfl rfl) ?_
  refine SOps.q rfl (.plain rfl) rfl (q_call (chargenetref09_Greatest_ok F a0_n a1_source a2_sink c_15.1 c_15.2.1 c_21 g22) [] rfl fn17 ⟨⟨rfl, rfl⟩, ⟨_, rfl, .inl ⟨rfl, rfl⟩⟩, ⟨_, rfl, .inl ⟨rfl, rfl⟩⟩, ⟨_, rfl, .inl ⟨rfl, rfl⟩⟩, ⟨_, rfl, .inl ⟨rfl, rfl⟩⟩, trivial⟩ (.inl rfl)) ?_
  refine SOps.q rfl (.plain rfl) rfl (q_move rfl rfl) ?_
  refine SOps.skip rfl 6 76 true rfl rfl (.inl (gF g23)) rfl ?_
  refine SOps.skip rfl 6 76 true rfl rfl (.inl (gF g23)) rfl ?_
  refine SOps.skip rfl 6 76 true rfl rfl (.inl (gF g23)) rfl ?_
  refine SOps.skip rfl 6 76 true rfl rfl (.inl (gF g23)) rfl ?_
  refine SOps.skip rfl 6 76 true rfl rfl (.inl (gF g23)) rfl ?_
  refine SOps.skip rfl 6 76 true rfl rfl (.inl (gF g23)) rfl ?_
  refine SOps.q rfl (.plain rfl) rfl (q_pick_f rfl rfl g23 rfl) ?_
  refine SOps.q rfl (.plain rfl) rfl (q_move rfl rfl) ?_
  refine SOps.skip rfl 14 84 true rfl rfl (.inl rfl) rfl ?_
  refine SOps.skip rfl 14 84 true rfl rfl (.inl rfl) rfl ?_
  refine SOps.skip rfl 14 84 true rfl rfl (.inl rfl) rfl ?_
  refine SOps.skip rfl 14 84 true rfl rfl (.inl rfl) rfl ?_
  refine SOps.skip rfl 14 84 true rfl rfl (.inl rfl) rfl ?_
  refine SOps.q rfl (.plain rfl) rfl (q_pick_f rfl rfl rfl rfl) ?_
  refine SOps.q rfl (.plain rfl) rfl (q_move rfl rfl) ?_
  refine SOps.skip rfl 21 91 true rfl rfl (.inl rfl) rfl ?_
  refine SOps.q rfl (.plain rfl) rfl (q_pick_f rfl rfl rfl rfl) ?_
  refine SOps.q rfl (.plain rfl) rfl (q_assign rfl rfl) ?_
  refine SOps.sub (st' := ⟨[(6, .c (.bool false))], []⟩) (sub_gen [] rfl rfl ⟨zc rfl rfl, trivial⟩ trivial) ?_
  refine SOps.nil ?_
  refine SCode.ret ?_
  obtain rfl := Option.some.inj h
  exact ⟨⟨[(6, .c (.bool false))], []⟩, _, sub_gen [] rfl rfl ⟨zc rfl rfl, trivial⟩ trivial, resA1 (v := .c (.bool false)) rfl rfl, rfl⟩
end Go.Proofs.Ytbepoingholchaa.W
