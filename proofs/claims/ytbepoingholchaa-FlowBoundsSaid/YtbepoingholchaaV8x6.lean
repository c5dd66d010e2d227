/- Written by a program of ours (wip/eng/gen.py): the functions compute their models. -/
import Derived.Test.YtbepoingholchaaFacts
import Derived.Test.YtbepoingholchaaV8x5
namespace Go.Proofs.Ytbepoingholchaa.W
open Go Go.Proofs Go.Proofs.Ytbepoingholchaa.E Go.Proofs.Ytbepoingholchaa.M
set_option linter.unusedVariables false
set_option maxRecDepth 100000 in
set_option maxHeartbeats 8000000 in
theorem chargenetlaw09_FlowBounds_ok (F : Nat) (a0_n : SNet) (a1_source : Int) (a2_sink : Int) (a3_side : Int) (r : Bool) (h : chargenetlaw09_FlowBounds F a0_n a1_source a2_sink a3_side = some r) :
    SFun Try.prog 8 [] [.a [.int .i64 a0_n.Nodes, .vec a0_n.Arcs.length 3 (gL cSArc dSArc a0_n.Arcs)], .c (.int .i64 a1_source), .c (.int .i64 a2_sink), .c (.int .u64 a3_side)] (fun x _ => x = .c (.bool r)) := by
  refine SFun.of (n := 116) Try.func8 rfl rfl rfl ?_
  unfold chargenetlaw09_FlowBounds at h
  show SCode _ _ _ ⟨[(0, .a [.int .i64 a0_n.Nodes, .vec a0_n.Arcs.length 3 (gL cSArc dSArc a0_n.Arcs)]), (1, .c (.int .i64 a1_source)), (2, .c (.int .i64 a2_sink)), (3, .c (.int .u64 a3_side))], []⟩ _
  refine SCode.seq ?_
  refine SCode.region (show SOps _ _ _ [0, 1] _ _ from ?_)
  refine SOps.e rfl (.plain rfl) (e_box rfl rfl rfl rfl rfl rfl) ?_
  refine SOps.q rfl (.plain rfl) rfl (q_assign rfl rfl) ?_
  refine SOps.sub (st' := ⟨[(1, .c (.int .i64 a1_source)), (2, .c (.int .i64 a2_sink)), (3, .c (.int .u64 a3_side)), (4, .c (.ptr 0 0))], [.box [.int .i64 a0_n.Nodes, .vec a0_n.Arcs.length 3 (gL cSArc dSArc a0_n.Arcs)]]⟩) (sub_gen [0] rfl rfl ⟨zc rfl rfl, zc rfl rfl, zc rfl rfl, zc rfl rfl, trivial⟩ ⟨⟨_, rfl, ⟨ii rfl rfl, ii rfl rfl, trivial⟩⟩, trivial⟩) ?_
  refine SOps.nil ?_
  refine SCode.seq ?_
  refine SCode.seq ?_
  obtain ⟨c_1, g2, h⟩ := bind_out h
  try dsimp only at h
  rcases cond_out h with ⟨g3, h⟩ | ⟨g3, h⟩
  · refine SCode.region (show SOps _ _ _ [0, 1, 2, 3, 4, 5, 6, 7, 8, 9] _ _ from ?_)
    refine SOps.q rfl (.plain rfl) rfl (q_load_ptr_all rfl rfl rfl rfl rfl ty24) ?_
    refine SOps.q rfl (.plain rfl) rfl (q_call (chargenetref09_Small_ok F a0_n 64 200 c_1 g2) [] rfl fn14 ⟨⟨rfl, rfl⟩, ⟨_, rfl, .inl ⟨rfl, rfl⟩⟩, ⟨_, rfl, .inl ⟨rfl, rfl⟩⟩, trivial⟩ (.inl rfl)) ?_
    refine SOps.q rfl (.plain rfl) rfl (q_not rfl rfl) ?_
    refine SOps.q rfl (.plain rfl) rfl (q_move rfl rfl) ?_
    refine SOps.skip rfl 3 21 false rfl rfl (.inl (gT g3)) rfl ?_
    refine SOps.skip rfl 3 21 false rfl rfl (.inl (gT g3)) rfl ?_
    refine SOps.skip rfl 3 21 false rfl rfl (.inl (gT g3)) rfl ?_
    refine SOps.skip rfl 3 21 false rfl rfl (.inl (gT g3)) rfl ?_
    refine SOps.skip rfl 3 21 false rfl rfl (.inl (gT g3)) rfl ?_
    refine SOps.q rfl (.plain rfl) rfl (q_pick_t rfl rfl g3 rfl) ?_
    refine SOps.sub (st' := ⟨[(1, .c (.int .i64 a1_source)), (2, .c (.int .i64 a2_sink)), (3, .c (.int .u64 a3_side)), (4, .c (.ptr 0 0)), (27, .c (.bool true))], [.box [.int .i64 a0_n.Nodes, .vec a0_n.Arcs.length 3 (gL cSArc dSArc a0_n.Arcs)]]⟩) (sub_gen [0] rfl rfl ⟨zc rfl rfl, zc rfl rfl, zc rfl rfl, zc rfl rfl, zc rfl rfl, trivial⟩ ⟨⟨_, rfl, ⟨ii rfl rfl, ii rfl rfl, trivial⟩⟩, trivial⟩) ?_
    refine SOps.nil ?_
    refine SCode.cond_t rfl rfl ?_
    refine SCode.seq ?_
    obtain ⟨c_4, g5, h⟩ := bind_out h
    try dsimp only at h
    refine SCode.region (show SOps _ _ _ [0, 1] _ _ from ?_)
    refine SOps.q rfl (.plain rfl) rfl (q_call (chargenetlaw09_awake_ok F  c_4 g5) [] rfl fn11 trivial (.inl rfl)) ?_
    refine SOps.q rfl (.plain rfl) rfl (q_assign rfl rfl) ?_
    refine SOps.sub (st' := ⟨[(8, .c (.bool c_4))], []⟩) (sub_gen [] rfl rfl ⟨zc rfl rfl, trivial⟩ trivial) ?_
    refine SOps.nil ?_
    refine SCode.ret ?_
    obtain rfl := Option.some.inj h
    exact ⟨⟨[(8, .c (.bool c_4))], []⟩, _, sub_gen [] rfl rfl ⟨zc rfl rfl, trivial⟩ trivial, resA1 (v := .c (.bool c_4)) rfl rfl, rfl⟩
  obtain ⟨c_6, g7, h⟩ := bind_out h
  try dsimp only at h
  refine SCode.region (show SOps _ _ _ [0, 1, 2, 3, 4, 5, 6, 7, 8, 9] _ _ from ?_)
  refine SOps.q rfl (.plain rfl) rfl (q_load_ptr_all rfl rfl rfl rfl rfl ty24) ?_
  refine SOps.q rfl (.plain rfl) rfl (q_call (chargenetref09_Small_ok F a0_n 64 200 c_1 g2) [] rfl fn14 ⟨⟨rfl, rfl⟩, ⟨_, rfl, .inl ⟨rfl, rfl⟩⟩, ⟨_, rfl, .inl ⟨rfl, rfl⟩⟩, trivial⟩ (.inl rfl)) ?_
  refine SOps.q rfl (.plain rfl) rfl (q_not rfl rfl) ?_
  refine SOps.q rfl (.plain rfl) rfl (q_move rfl rfl) ?_
  refine SOps.q rfl (.guard 3 21 false rfl rfl (gF g3)) rfl (q_load_ptr_all rfl rfl rfl rfl rfl ty24) ?_
  refine SOps.q rfl (.guard 3 21 false rfl rfl (gF g3)) rfl (q_move rfl rfl) ?_
  refine SOps.q rfl (.guard 3 21 false rfl rfl (gF g3)) rfl (q_move rfl rfl) ?_
  refine SOps.q rfl (.guard 3 21 false rfl rfl (gF g3)) rfl (q_call (chargenetref09_Ends_ok F a0_n a1_source a2_sink c_6 g7) [] rfl fn16 ⟨⟨rfl, rfl⟩, ⟨_, rfl, .inl ⟨rfl, rfl⟩⟩, ⟨_, rfl, .inl ⟨rfl, rfl⟩⟩, trivial⟩ (.inl rfl)) ?_
  refine SOps.q rfl (.guard 3 21 false rfl rfl (gF g3)) rfl (q_neq rfl rfl rfl) ?_
  refine SOps.q rfl (.plain rfl) rfl (q_pick_f rfl rfl g3 rfl) ?_
  refine SOps.sub (st' := ⟨[(1, .c (.int .i64 a1_source)), (2, .c (.int .i64 a2_sink)), (3, .c (.int .u64 a3_side)), (4, .c (.ptr 0 0)), (27, .c (.bool ((!decide (c_6 = 0)))))], [.box [.int .i64 a0_n.Nodes, .vec a0_n.Arcs.length 3 (gL cSArc dSArc a0_n.Arcs)]]⟩) (sub_gen [0] rfl rfl ⟨zc rfl rfl, zc rfl rfl, zc rfl rfl, zc rfl rfl, zc rfl rfl, trivial⟩ ⟨⟨_, rfl, ⟨ii rfl rfl, ii rfl rfl, trivial⟩⟩, trivial⟩) ?_
  refine SOps.nil ?_
  rcases cond_out h with ⟨g8, h⟩ | ⟨g8, h⟩
  · refine SCode.cond_t rfl g8 ?_
    refine SCode.seq ?_
    obtain ⟨c_9, g10, h⟩ := bind_out h
    try dsimp only at h
    refine SCode.region (show SOps _ _ _ [0, 1] _ _ from ?_)
    refine SOps.q rfl (.plain rfl) rfl (q_call (chargenetlaw09_awake_ok F  c_9 g10) [] rfl fn11 trivial (.inl rfl)) ?_
    refine SOps.q rfl (.plain rfl) rfl (q_assign rfl rfl) ?_
    refine SOps.sub (st' := ⟨[(8, .c (.bool c_9))], []⟩) (sub_gen [] rfl rfl ⟨zc rfl rfl, trivial⟩ trivial) ?_
    refine SOps.nil ?_
    refine SCode.ret ?_
    obtain rfl := Option.some.inj h
    exact ⟨⟨[(8, .c (.bool c_9))], []⟩, _, sub_gen [] rfl rfl ⟨zc rfl rfl, trivial⟩ trivial, resA1 (v := .c (.bool c_9)) rfl rfl, rfl⟩
  refine SCode.cond_f rfl g8 ?_
  refine SCode.skip ?_
  refine SCode.seq ?_
  obtain ⟨c_11, g12, h⟩ := bind_out h
  try dsimp only at h
  refine SCode.region (show SOps _ _ _ [0, 1, 2, 3, 4, 5, 6, 7, 8, 9, 10] _ _ from ?_)
  refine SOps.q rfl (.plain rfl) rfl (q_load_ptr_all rfl rfl rfl rfl rfl ty24) ?_
  refine SOps.q rfl (.plain rfl) rfl (q_move rfl rfl) ?_
  refine SOps.q rfl (.plain rfl) rfl (q_move rfl rfl) ?_
  refine SOps.q rfl (.plain rfl) rfl (q_call (flow_Max_ok F a0_n a1_source a2_sink c_11 g12) [] rfl fn15 ⟨⟨rfl, rfl⟩, ⟨_, rfl, .inl ⟨rfl, rfl⟩⟩, ⟨_, rfl, .inl ⟨rfl, rfl⟩⟩, trivial⟩ (.inl rfl)) ?_
  refine SOps.q rfl (.plain rfl) rfl (q_move rfl rfl) ?_
  refine SOps.q rfl (.plain rfl) rfl (q_extract rfl rfl rfl) ?_
  refine SOps.q rfl (.plain rfl) rfl (q_extract rfl rfl rfl) ?_
  refine SOps.q rfl (.plain rfl) rfl (q_extract rfl rfl rfl) ?_
  refine SOps.q rfl (.plain rfl) rfl (q_assign rfl rfl) ?_
  refine SOps.q rfl (.plain rfl) rfl (q_assign rfl rfl) ?_
  refine SOps.q rfl (.plain rfl) rfl (q_assign rfl rfl) ?_
  refine SOps.sub (st' := ⟨[(1, .c (.int .i64 a1_source)), (2, .c (.int .i64 a2_sink)), (3, .c (.int .u64 a3_side)), (4, .c (.ptr 0 0)), (9, .c (.int .i64 c_11.1)), (11, .c (.int .i64 c_11.2.2))], [.box [.int .i64 a0_n.Nodes, .vec a0_n.Arcs.length 3 (gL cSArc dSArc a0_n.Arcs)]]⟩) (sub_gen [0] rfl rfl ⟨zc rfl rfl, zc rfl rfl, zc rfl rfl, zc rfl rfl, zc rfl rfl, zc rfl rfl, trivial⟩ ⟨⟨_, rfl, ⟨ii rfl rfl, ii rfl rfl, trivial⟩⟩, trivial⟩) ?_
  refine SOps.nil ?_
  refine SCode.seq ?_
  obtain ⟨c_13, g14, h⟩ := bind_out h
  try dsimp only at h
  refine SCode.region (show SOps _ _ _ [0, 1, 2, 3, 4, 5, 6, 7, 8] _ _ from ?_)
  refine SOps.q rfl (.plain rfl) rfl (q_load_ptr_all rfl rfl rfl rfl rfl ty24) ?_
  refine SOps.q rfl (.plain rfl) rfl (q_move rfl rfl) ?_
  refine SOps.q rfl (.plain rfl) rfl (q_move rfl rfl) ?_
  refine SOps.q rfl (.plain rfl) rfl (q_call (flow_Cut_ok F a0_n a1_source a2_sink c_13 g14) [] rfl fn18 ⟨⟨rfl, rfl⟩, ⟨_, rfl, .inl ⟨rfl, rfl⟩⟩, ⟨_, rfl, .inl ⟨rfl, rfl⟩⟩, trivial⟩ (.inl rfl)) ?_
  refine SOps.q rfl (.plain rfl) rfl (q_move rfl rfl) ?_
  refine SOps.q rfl (.plain rfl) rfl (q_extract rfl rfl rfl) ?_
  refine SOps.q rfl (.plain rfl) rfl (q_extract rfl rfl rfl) ?_
  refine SOps.q rfl (.plain rfl) rfl (q_assign rfl rfl) ?_
  refine SOps.q rfl (.plain rfl) rfl (q_assign rfl rfl) ?_
  refine SOps.sub (st' := ⟨[(1, .c (.int .i64 a1_source)), (2, .c (.int .i64 a2_sink)), (3, .c (.int .u64 a3_side)), (4, .c (.ptr 0 0)), (9, .c (.int .i64 c_11.1)), (11, .c (.int .i64 c_11.2.2)), (12, .c (.vec c_13.1.length 1 (gL cBool false c_13.1))), (13, .c (.int .i64 c_13.2))], [.box [.int .i64 a0_n.Nodes, .vec a0_n.Arcs.length 3 (gL cSArc dSArc a0_n.Arcs)]]⟩) (sub_gen [0] rfl rfl ⟨zc rfl rfl, zc rfl rfl, zc rfl rfl, zc rfl rfl, zc rfl rfl, zc rfl rfl, zc rfl rfl, zc rfl rfl, trivial⟩ ⟨⟨_, rfl, ⟨ii rfl rfl, ii rfl rfl, trivial⟩⟩, trivial⟩) ?_
  refine SOps.nil ?_
  refine SCode.seq ?_
  refine SCode.seq ?_
  rcases cond_out h with ⟨g15, h⟩ | ⟨g15, h⟩
  · refine SCode.region (show SOps _ _ _ [0, 1, 2, 3, 4, 5, 6, 7, 8, 9, 10, 11, 12] _ _ from ?_)
    refine SOps.q rfl (.plain rfl) rfl (q_move rfl rfl) ?_
    refine SOps.q rfl (.plain rfl) rfl (q_neq rfl rfl rfl) ?_
    refine SOps.q rfl (.plain rfl) rfl (q_move rfl rfl) ?_
    refine SOps.skip rfl 2 46 false rfl rfl (.inl (gT g15)) rfl ?_
    refine SOps.skip rfl 2 46 false rfl rfl (.inl (gT g15)) rfl ?_
    refine SOps.q rfl (.plain rfl) rfl (q_pick_t rfl rfl g15 rfl) ?_
    refine SOps.q rfl (.plain rfl) rfl (q_move rfl rfl) ?_
    refine SOps.skip rfl 6 50 false rfl rfl (.inl rfl) rfl ?_
    refine SOps.skip rfl 6 50 false rfl rfl (.inl rfl) rfl ?_
    refine SOps.skip rfl 6 50 false rfl rfl (.inl rfl) rfl ?_
    refine SOps.skip rfl 6 50 false rfl rfl (.inl rfl) rfl ?_
    refine SOps.skip rfl 6 50 false rfl rfl (.inl rfl) rfl ?_
    refine SOps.q rfl (.plain rfl) rfl (q_pick_t rfl rfl rfl rfl) ?_
    refine SOps.sub (st' := ⟨[(1, .c (.int .i64 a1_source)), (2, .c (.int .i64 a2_sink)), (3, .c (.int .u64 a3_side)), (4, .c (.ptr 0 0)), (9, .c (.int .i64 c_11.1)), (12, .c (.vec c_13.1.length 1 (gL cBool false c_13.1))), (56, .c (.bool true))], [.box [.int .i64 a0_n.Nodes, .vec a0_n.Arcs.length 3 (gL cSArc dSArc a0_n.Arcs)]]⟩) (sub_gen [0] rfl rfl ⟨zc rfl rfl, zc rfl rfl, zc rfl rfl, zc rfl rfl, zc rfl rfl, zc rfl rfl, zc rfl rfl, trivial⟩ ⟨⟨_, rfl, ⟨ii rfl rfl, ii rfl rfl, trivial⟩⟩, trivial⟩) ?_
    refine SOps.nil ?_
    refine SCode.cond_t rfl rfl ?_
    refine SCode.seq ?_
    refine SCode.region (show SOps _ _ _ [0] _ _ from ?_)
    refine SOps.q rfl (.plain rfl) rfl (q_assign rfl rfl) ?_
    refine SOps.sub (st' := ⟨[(8, .c (.bool false))], []⟩) (sub_gen [] rfl rfl ⟨zc rfl rfl, trivial⟩ trivial) ?_
    refine SOps.nil ?_
    refine SCode.ret ?_
    obtain rfl := Option.some.inj h
    exact ⟨⟨[(8, .c (.bool false))], []⟩, _, sub_gen [] rfl rfl ⟨zc rfl rfl, trivial⟩ trivial, resA1 (v := .c (.bool false)) rfl rfl, rfl⟩
  rcases cond_out h with ⟨g16, h⟩ | ⟨g16, h⟩
  · refine SCode.region (show SOps _ _ _ [0, 1, 2, 3, 4, 5, 6, 7, 8, 9, 10, 11, 12] _ _ from ?_)
    refine SOps.q rfl (.plain rfl) rfl (q_move rfl rfl) ?_
    refine SOps.q rfl (.plain rfl) rfl (q_neq rfl rfl rfl) ?_
    refine SOps.q rfl (.plain rfl) rfl (q_move rfl rfl) ?_
    refine SOps.q rfl (.guard 2 46 false rfl rfl (gF g15)) rfl (q_move rfl rfl) ?_
    refine SOps.q rfl (.guard 2 46 false rfl rfl (gF g15)) rfl (q_neq rfl rfl rfl) ?_
    refine SOps.q rfl (.plain rfl) rfl (q_pick_f rfl rfl g15 rfl) ?_
    refine SOps.q rfl (.plain rfl) rfl (q_move rfl rfl) ?_
    refine SOps.skip rfl 6 50 false rfl rfl (.inl (gT g16)) rfl ?_
    refine SOps.skip rfl 6 50 false rfl rfl (.inl (gT g16)) rfl ?_
    refine SOps.skip rfl 6 50 false rfl rfl (.inl (gT g16)) rfl ?_
    refine SOps.skip rfl 6 50 false rfl rfl (.inl (gT g16)) rfl ?_
    refine SOps.skip rfl 6 50 false rfl rfl (.inl (gT g16)) rfl ?_
    refine SOps.q rfl (.plain rfl) rfl (q_pick_t rfl rfl g16 rfl) ?_
    refine SOps.sub (st' := ⟨[(1, .c (.int .i64 a1_source)), (2, .c (.int .i64 a2_sink)), (3, .c (.int .u64 a3_side)), (4, .c (.ptr 0 0)), (9, .c (.int .i64 c_11.1)), (12, .c (.vec c_13.1.length 1 (gL cBool false c_13.1))), (56, .c (.bool true))], [.box [.int .i64 a0_n.Nodes, .vec a0_n.Arcs.length 3 (gL cSArc dSArc a0_n.Arcs)]]⟩) (sub_gen [0] rfl rfl ⟨zc rfl rfl, zc rfl rfl, zc rfl rfl, zc rfl rfl, zc rfl rfl, zc rfl rfl, zc rfl rfl, trivial⟩ ⟨⟨_, rfl, ⟨ii rfl rfl, ii rfl rfl, trivial⟩⟩, trivial⟩) ?_
    refine SOps.nil ?_
    refine SCode.cond_t rfl rfl ?_
    refine SCode.seq ?_
    refine SCode.region (show SOps _ _ _ [0] _ _ from ?_)
    refine SOps.q rfl (.plain rfl) rfl (q_assign rfl rfl) ?_
    refine SOps.sub (st' := ⟨[(8, .c (.bool false))], []⟩) (sub_gen [] rfl rfl ⟨zc rfl rfl, trivial⟩ trivial) ?_
    refine SOps.nil ?_
    refine SCode.ret ?_
    obtain rfl := Option.some.inj h
    exact ⟨⟨[(8, .c (.bool false))], []⟩, _, sub_gen [] rfl rfl ⟨zc rfl rfl, trivial⟩ trivial, resA1 (v := .c (.bool false)) rfl rfl, rfl⟩
  refine SCode.region (show SOps _ _ _ [0, 1, 2, 3, 4, 5, 6, 7, 8, 9, 10, 11, 12] _ _ from ?_)
  refine SOps.q rfl (.plain rfl) rfl (q_move rfl rfl) ?_
  refine SOps.q rfl (.plain rfl) rfl (q_neq rfl rfl rfl) ?_
  refine SOps.q rfl (.plain rfl) rfl (q_move rfl rfl) ?_
  refine SOps.q rfl (.guard 2 46 false rfl rfl (gF g15)) rfl (q_move rfl rfl) ?_
  refine SOps.q rfl (.guard 2 46 false rfl rfl (gF g15)) rfl (q_neq rfl rfl rfl) ?_
  refine SOps.q rfl (.plain rfl) rfl (q_pick_f rfl rfl g15 rfl) ?_
  refine SOps.q rfl (.plain rfl) rfl (q_move rfl rfl) ?_
  refine SOps.q rfl (.guard 6 50 false rfl rfl (gF g16)) rfl (q_move rfl rfl) ?_
  refine SOps.q rfl (.guard 6 50 false rfl rfl (gF g16)) rfl (q_len_vec rfl rfl sl35) ?_
  refine SOps.q rfl (.guard 6 50 false rfl rfl (gF g16)) rfl (q_field_ptr rfl rfl fd24_0) ?_
  refine SOps.q rfl (.guard 6 50 false rfl rfl (gF g16)) rfl (q_load_ptr rfl rfl rfl rfl ty3) ?_
  refine SOps.q rfl (.guard 6 50 false rfl rfl (gF g16)) rfl (q_neq rfl rfl rfl) ?_
  refine SOps.q rfl (.plain rfl) rfl (q_pick_f rfl rfl g16 rfl) ?_
  refine SOps.sub (st' := ⟨[(1, .c (.int .i64 a1_source)), (2, .c (.int .i64 a2_sink)), (3, .c (.int .u64 a3_side)), (4, .c (.ptr 0 0)), (9, .c (.int .i64 c_11.1)), (12, .c (.vec c_13.1.length 1 (gL cBool false c_13.1))), (56, .c (.bool ((!decide (((c_13.1).length : Int) = a0_n.Nodes)))))], [.box [.int .i64 a0_n.Nodes, .vec a0_n.Arcs.length 3 (gL cSArc dSArc a0_n.Arcs)]]⟩) (sub_gen [0] rfl rfl ⟨zc rfl rfl, zc rfl rfl, zc rfl rfl, zc rfl rfl, zc rfl rfl, zc rfl rfl, zc rfl rfl, trivial⟩ ⟨⟨_, rfl, ⟨ii rfl rfl, ii rfl rfl, trivial⟩⟩, trivial⟩) ?_
  refine SOps.nil ?_
  rcases cond_out h with ⟨g17, h⟩ | ⟨g17, h⟩
  · refine SCode.cond_t rfl g17 ?_
    refine SCode.seq ?_
    refine SCode.region (show SOps _ _ _ [0] _ _ from ?_)
    refine SOps.q rfl (.plain rfl) rfl (q_assign rfl rfl) ?_
    refine SOps.sub (st' := ⟨[(8, .c (.bool false))], []⟩) (sub_gen [] rfl rfl ⟨zc rfl rfl, trivial⟩ trivial) ?_
    refine SOps.nil ?_
    refine SCode.ret ?_
    obtain rfl := Option.some.inj h
    exact ⟨⟨[(8, .c (.bool false))], []⟩, _, sub_gen [] rfl rfl ⟨zc rfl rfl, trivial⟩ trivial, resA1 (v := .c (.bool false)) rfl rfl, rfl⟩
  refine SCode.cond_f rfl g17 ?_
  refine SCode.skip ?_
  refine SCode.seq ?_
  obtain ⟨g18, h⟩ := guard_out h
  refine SCode.region (show SOps _ _ _ [0, 1, 2, 3] _ _ from ?_)
  refine SOps.q rfl (.plain rfl) rfl (q_field_ptr rfl rfl fd24_0) ?_
  refine SOps.q rfl (.plain rfl) rfl (q_load_ptr rfl rfl rfl rfl ty3) ?_
  refine SOps.e rfl (.plain rfl) (e_makeL (c := cBool) (d0 := false) rfl rfl rfl rfl rfl sl35 z4 rfl rfl rfl g18.1 (Int.le_refl _) g18.2.1 g18.2.2) ?_
  refine SOps.q rfl (.plain rfl) rfl (q_assign rfl rfl) ?_
  refine SOps.sub (st' := ⟨[(1, .c (.int .i64 a1_source)), (2, .c (.int .i64 a2_sink)), (3, .c (.int .u64 a3_side)), (4, .c (.ptr 0 0)), (9, .c (.int .i64 c_11.1)), (12, .c (.vec c_13.1.length 1 (gL cBool false c_13.1))), (14, .c (.own 1 (List.replicate a0_n.Nodes.toNat (false : Bool)).length))], [.box [.int .i64 a0_n.Nodes, .vec a0_n.Arcs.length 3 (gL cSArc dSArc a0_n.Arcs)], .arr 4 1 (List.replicate a0_n.Nodes.toNat (false : Bool)).length (gL cBool false (List.replicate a0_n.Nodes.toNat (false : Bool)))]⟩) (sub_gen [0, 1] rfl rfl ⟨zc rfl rfl, zc rfl rfl, zc rfl rfl, zc rfl rfl, zc rfl rfl, zc rfl rfl, zc rfl rfl, trivial⟩ ⟨⟨_, rfl, ⟨ii rfl rfl, ii rfl rfl, trivial⟩⟩, oa rfl, trivial⟩) ?_
  refine SOps.nil ?_
  refine SCode.join (σ := (List Bool)) (S := fun s => ⟨[(4, .c (.ptr 0 0)), (9, .c (.int .i64 c_11.1)), (12, .c (.vec c_13.1.length 1 (gL cBool false c_13.1))), (14, .c (.own 1 s.length))], [.box [.int .i64 a0_n.Nodes, .vec a0_n.Arcs.length 3 (gL cSArc dSArc a0_n.Arcs)], .arr 4 1 s.length (gL cBool false s)]⟩) (g := fun s => chargenetlaw09_FlowBounds_p49 F a0_n c_11 c_13 s = some r) ?_ ?_
  rotate_left
  · refine SCode.seq ?_
    refine SCode.region (show SOps _ _ _ [0] _ _ from ?_)
    refine SOps.q rfl (.plain rfl) rfl (q_assign rfl rfl) ?_
    refine SOps.sub (st' := ⟨[(1, .c (.int .i64 a1_source)), (2, .c (.int .i64 a2_sink)), (3, .c (.int .u64 a3_side)), (4, .c (.ptr 0 0)), (9, .c (.int .i64 c_11.1)), (12, .c (.vec c_13.1.length 1 (gL cBool false c_13.1))), (14, .c (.own 1 (List.replicate a0_n.Nodes.toNat (false : Bool)).length)), (15, .c (.int .i64 0))], [.box [.int .i64 a0_n.Nodes, .vec a0_n.Arcs.length 3 (gL cSArc dSArc a0_n.Arcs)], .arr 4 1 (List.replicate a0_n.Nodes.toNat (false : Bool)).length (gL cBool false (List.replicate a0_n.Nodes.toNat (false : Bool)))]⟩) (sub_gen [0, 1] rfl rfl ⟨zc rfl rfl, zc rfl rfl, zc rfl rfl, zc rfl rfl, zc rfl rfl, zc rfl rfl, zc rfl rfl, zc rfl rfl, trivial⟩ ⟨⟨_, rfl, ⟨ii rfl rfl, ii rfl rfl, trivial⟩⟩, oa rfl, trivial⟩) ?_
    refine SOps.nil ?_
    refine SCode.block ?_
    refine SCode.sub (st' := ⟨[(1, .c (.int .i64 a1_source)), (2, .c (.int .i64 a2_sink)), (3, .c (.int .u64 a3_side)), (4, .c (.ptr 0 0)), (9, .c (.int .i64 c_11.1)), (12, .c (.vec c_13.1.length 1 (gL cBool false c_13.1))), (14, .c (.own 1 (List.replicate a0_n.Nodes.toNat (false : Bool)).length)), (15, .c (.int .i64 0))], [.box [.int .i64 a0_n.Nodes, .vec a0_n.Arcs.length 3 (gL cSArc dSArc a0_n.Arcs)], .arr 4 1 (List.replicate a0_n.Nodes.toNat (false : Bool)).length (gL cBool false (List.replicate a0_n.Nodes.toNat (false : Bool)))]⟩) (sub_gen [0, 1] rfl rfl ⟨zc rfl rfl, zc rfl rfl, zc rfl rfl, zc rfl rfl, zc rfl rfl, zc rfl rfl, zc rfl rfl, zc rfl rfl, trivial⟩ ⟨⟨_, rfl, ⟨ii rfl rfl, ii rfl rfl, trivial⟩⟩, oa rfl, trivial⟩) ?_
    refine (SCode.loop (σ := Nat × (Int × (List Bool))) (S := fun s => ⟨[(1, .c (.int .i64 a1_source)), (2, .c (.int .i64 a2_sink)), (3, .c (.int .u64 a3_side)), (4, .c (.ptr 0 0)), (9, .c (.int .i64 c_11.1)), (12, .c (.vec c_13.1.length 1 (gL cBool false c_13.1))), (14, .c (.own 1 s.2.2.length)), (15, .c (.int .i64 s.2.1))], [.box [.int .i64 a0_n.Nodes, .vec a0_n.Arcs.length 3 (gL cSArc dSArc a0_n.Arcs)], .arr 4 1 s.2.2.length (gL cBool false s.2.2)]⟩) (g := fun s => chargenetlaw09_FlowBounds_l70 F a0_n a1_source a2_sink a3_side c_11 c_13 s.1 s.2.1 s.2.2 = some r) (μ := fun s => s.1) (F, (0, List.replicate a0_n.Nodes.toNat (false : Bool))) h ?_)
    rintro ⟨n_70, ⟨i_59, o1_60⟩⟩ h
    replace h : chargenetlaw09_FlowBounds_l70 F a0_n a1_source a2_sink a3_side c_11 c_13 n_70 i_59 o1_60 = some r := h
    show SCode _ _ _ ⟨[(1, .c (.int .i64 a1_source)), (2, .c (.int .i64 a2_sink)), (3, .c (.int .u64 a3_side)), (4, .c (.ptr 0 0)), (9, .c (.int .i64 c_11.1)), (12, .c (.vec c_13.1.length 1 (gL cBool false c_13.1))), (14, .c (.own 1 o1_60.length)), (15, .c (.int .i64 i_59))], [.box [.int .i64 a0_n.Nodes, .vec a0_n.Arcs.length 3 (gL cSArc dSArc a0_n.Arcs)], .arr 4 1 o1_60.length (gL cBool false o1_60)]⟩ _
    cases n_70 with
    | zero => cases h
    | succ n_70 =>
      replace h : chargenetlaw09_FlowBounds_b70 F a0_n a1_source a2_sink a3_side c_11 c_13 (fun i_59 o1_60 => chargenetlaw09_FlowBounds_l70 F a0_n a1_source a2_sink a3_side c_11 c_13 n_70 i_59 o1_60) i_59 o1_60 = some r := h
      unfold chargenetlaw09_FlowBounds_b70 at h
      refine SCode.seq ?_
      refine SCode.seq ?_
      refine SCode.region (show SOps _ _ _ [0, 1, 2, 3] _ _ from ?_)
      refine SOps.q rfl (.plain rfl) rfl (q_move rfl rfl) ?_
      refine SOps.q rfl (.plain rfl) rfl (q_field_ptr rfl rfl fd24_0) ?_
      refine SOps.q rfl (.plain rfl) rfl (q_load_ptr rfl rfl rfl rfl ty3) ?_
      refine SOps.q rfl (.plain rfl) rfl (q_lss rfl rfl rfl) ?_
      refine SOps.sub (st' := ⟨[(1, .c (.int .i64 a1_source)), (2, .c (.int .i64 a2_sink)), (3, .c (.int .u64 a3_side)), (4, .c (.ptr 0 0)), (9, .c (.int .i64 c_11.1)), (12, .c (.vec c_13.1.length 1 (gL cBool false c_13.1))), (14, .c (.own 1 o1_60.length)), (15, .c (.int .i64 i_59)), (63, .c (.bool (decide (i_59 < a0_n.Nodes))))], [.box [.int .i64 a0_n.Nodes, .vec a0_n.Arcs.length 3 (gL cSArc dSArc a0_n.Arcs)], .arr 4 1 o1_60.length (gL cBool false o1_60)]⟩) (sub_gen [0, 1] rfl rfl ⟨zc rfl rfl, zc rfl rfl, zc rfl rfl, zc rfl rfl, zc rfl rfl, zc rfl rfl, zc rfl rfl, zc rfl rfl, zc rfl rfl, trivial⟩ ⟨⟨_, rfl, ⟨ii rfl rfl, ii rfl rfl, trivial⟩⟩, oa rfl, trivial⟩) ?_
      refine SOps.nil ?_
      rcases cond_out h with ⟨g71, h⟩ | ⟨g71, h⟩
      · refine SCode.cond_t rfl g71 ?_
        refine SCode.skip ?_
        refine SCode.join (σ := (List Bool)) (S := fun s => ⟨[(1, .c (.int .i64 a1_source)), (2, .c (.int .i64 a2_sink)), (3, .c (.int .u64 a3_side)), (4, .c (.ptr 0 0)), (9, .c (.int .i64 c_11.1)), (12, .c (.vec c_13.1.length 1 (gL cBool false c_13.1))), (14, .c (.own 1 s.length)), (15, .c (.int .i64 i_59))], [.box [.int .i64 a0_n.Nodes, .vec a0_n.Arcs.length 3 (gL cSArc dSArc a0_n.Arcs)], .arr 4 1 s.length (gL cBool false s)]⟩) (g := fun s => chargenetlaw09_FlowBounds_p73 i_59 (fun i_59 o1_60 => chargenetlaw09_FlowBounds_l70 F a0_n a1_source a2_sink a3_side c_11 c_13 n_70 i_59 o1_60) s = some r) ?_ ?_
        rotate_left
        · refine SCode.block ?_
          rcases cond_out h with ⟨g74, h⟩ | ⟨g74, h⟩
          · obtain ⟨g75, h⟩ := guard_out h
            refine SCode.region (show SOps _ _ _ [0, 1, 2, 3, 4, 5, 6, 7, 8, 9, 10, 11, 12, 13, 14, 15, 16, 17, 18, 19] _ _ from ?_)
            refine SOps.q rfl (.plain rfl) rfl (q_move rfl rfl) ?_
            refine SOps.q rfl (.plain rfl) rfl (q_move rfl rfl) ?_
            refine SOps.q rfl (.plain rfl) rfl (q_move rfl rfl) ?_
            refine SOps.q rfl (.plain rfl) rfl (q_move rfl rfl) ?_
            refine SOps.q rfl (.plain rfl) rfl (q_eql rfl rfl rfl) ?_
            refine SOps.q rfl (.plain rfl) rfl (q_move rfl rfl) ?_
            refine SOps.skip rfl 5 71 false rfl rfl (.inl (gT g74)) rfl ?_
            refine SOps.skip rfl 5 71 false rfl rfl (.inl (gT g74)) rfl ?_
            refine SOps.skip rfl 5 71 false rfl rfl (.inl (gT g74)) rfl ?_
            refine SOps.skip rfl 5 71 false rfl rfl (.inl (gT g74)) rfl ?_
            refine SOps.skip rfl 9 75 true rfl rfl (.inr rfl) rfl ?_
            refine SOps.skip rfl 9 75 true rfl rfl (.inr rfl) rfl ?_
            refine SOps.skip rfl 9 75 true rfl rfl (.inr rfl) rfl ?_
            refine SOps.skip rfl 9 75 true rfl rfl (.inr rfl) rfl ?_
            refine SOps.skip rfl 9 75 true rfl rfl (.inr rfl) rfl ?_
            refine SOps.skip rfl 9 75 true rfl rfl (.inr rfl) rfl ?_
            refine SOps.skip rfl 5 71 false rfl rfl (.inl (gT g74)) rfl ?_
            refine SOps.q rfl (.plain rfl) rfl (q_pick_t rfl rfl g74 rfl) ?_
            refine SOps.q rfl (.plain rfl) rfl (q_index_own rfl rfl rfl sl35 g75.1 g75.2) ?_
            refine SOps.e rfl (.plain rfl) (e_storeL true rfl rfl rfl rfl rfl (toNat_lt g75) ty4 rfl rfl rfl rfl rfl rfl) ?_
            refine SOps.sub (st' := ⟨[(1, .c (.int .i64 a1_source)), (2, .c (.int .i64 a2_sink)), (3, .c (.int .u64 a3_side)), (4, .c (.ptr 0 0)), (9, .c (.int .i64 c_11.1)), (12, .c (.vec c_13.1.length 1 (gL cBool false c_13.1))), (14, .c (.own 1 (o1_60.set i_59.toNat true).length)), (15, .c (.int .i64 i_59))], [.box [.int .i64 a0_n.Nodes, .vec a0_n.Arcs.length 3 (gL cSArc dSArc a0_n.Arcs)], .arr 4 1 (o1_60.set i_59.toNat true).length (gL cBool false (o1_60.set i_59.toNat true))]⟩) (sub_gen [0, 1] rfl rfl ⟨zc rfl rfl, zc rfl rfl, zc rfl rfl, zc rfl rfl, zc rfl rfl, zc rfl rfl, ⟨_, rfl, .inl ⟨rfl, congrArg (Cell.own 1) (List.length_set : (o1_60.set i_59.toNat true).length = o1_60.length).symm⟩⟩, zc rfl rfl, trivial⟩ ⟨⟨_, rfl, ⟨ii rfl rfl, ii rfl rfl, trivial⟩⟩, oa rfl, trivial⟩) ?_
            refine SOps.nil ?_
            exact ⟨o1_60.set i_59.toNat true, h, sub_gen [0, 1] rfl rfl ⟨zc rfl rfl, zc rfl rfl, zc rfl rfl, zc rfl rfl, zc rfl rfl, zc rfl rfl, zc rfl rfl, zc rfl rfl, trivial⟩ ⟨⟨_, rfl, ⟨ii rfl rfl, ii rfl rfl, trivial⟩⟩, oa rfl, trivial⟩⟩
          rcases cond_out h with ⟨g76, h⟩ | ⟨g76, h⟩
          · obtain ⟨g77, h⟩ := guard_out h
            obtain ⟨g78, h⟩ := guard_out h
            refine SCode.region (show SOps _ _ _ [0, 1, 2, 3, 4, 5, 6, 7, 8, 9, 10, 11, 12, 13, 14, 15, 16, 17, 18, 19] _ _ from ?_)
            refine SOps.q rfl (.plain rfl) rfl (q_move rfl rfl) ?_
            refine SOps.q rfl (.plain rfl) rfl (q_move rfl rfl) ?_
            refine SOps.q rfl (.plain rfl) rfl (q_move rfl rfl) ?_
            refine SOps.q rfl (.plain rfl) rfl (q_move rfl rfl) ?_
            refine SOps.q rfl (.plain rfl) rfl (q_eql rfl rfl rfl) ?_
            refine SOps.q rfl (.plain rfl) rfl (q_move rfl rfl) ?_
            refine SOps.q rfl (.guard 5 71 false rfl rfl (gF g74)) rfl (q_move rfl rfl) ?_
            refine SOps.q rfl (.guard 5 71 false rfl rfl (gF g74)) rfl (q_move rfl rfl) ?_
            refine SOps.q rfl (.guard 5 71 false rfl rfl (gF g74)) rfl (q_neq rfl rfl rfl) ?_
            refine SOps.q rfl (.guard 5 71 false rfl rfl (gF g74)) rfl (q_move rfl rfl) ?_
            refine SOps.q rfl (.guard 9 75 true rfl rfl (gT g76)) rfl (q_move rfl rfl) ?_
            refine SOps.q rfl (.guard 9 75 true rfl rfl (gT g76)) rfl (q_move rfl rfl) ?_
            refine SOps.q rfl (.guard 9 75 true rfl rfl (gT g76)) rfl (q_convert rfl rfl un3 un47) ?_
            refine SOps.q rfl (.guard 9 75 true rfl rfl (gT g76)) rfl (q_shr rfl rfl rfl g77) ?_
            refine SOps.q rfl (.guard 9 75 true rfl rfl (gT g76)) rfl (q_rem rfl rfl rfl (by decide)) ?_
            refine SOps.q rfl (.guard 9 75 true rfl rfl (gT g76)) rfl (q_eql rfl rfl rfl) ?_
            refine SOps.q rfl (.guard 5 71 false rfl rfl (gF g74)) rfl (q_pick_t rfl rfl g76 rfl) ?_
            refine SOps.q rfl (.plain rfl) rfl (q_pick_f rfl rfl g74 rfl) ?_
            refine SOps.q rfl (.plain rfl) rfl (q_index_own rfl rfl rfl sl35 g78.1 g78.2) ?_
            refine SOps.e rfl (.plain rfl) (e_storeL (decide (Int.tmod ((a3_side / 2 ^ min (IntKind.wrap .u64 i_59 : Int).toNat (IntKind.bits .u64))) 2 = 1)) rfl rfl rfl rfl rfl (toNat_lt g78) ty4 rfl rfl rfl rfl rfl rfl) ?_
            refine SOps.sub (st' := ⟨[(1, .c (.int .i64 a1_source)), (2, .c (.int .i64 a2_sink)), (3, .c (.int .u64 a3_side)), (4, .c (.ptr 0 0)), (9, .c (.int .i64 c_11.1)), (12, .c (.vec c_13.1.length 1 (gL cBool false c_13.1))), (14, .c (.own 1 (o1_60.set i_59.toNat (decide (Int.tmod ((a3_side / 2 ^ min (IntKind.wrap .u64 i_59 : Int).toNat (IntKind.bits .u64))) 2 = 1))).length)), (15, .c (.int .i64 i_59))], [.box [.int .i64 a0_n.Nodes, .vec a0_n.Arcs.length 3 (gL cSArc dSArc a0_n.Arcs)], .arr 4 1 (o1_60.set i_59.toNat (decide (Int.tmod ((a3_side / 2 ^ min (IntKind.wrap .u64 i_59 : Int).toNat (IntKind.bits .u64))) 2 = 1))).length (gL cBool false (o1_60.set i_59.toNat (decide (Int.tmod ((a3_side / 2 ^ min (IntKind.wrap .u64 i_59 : Int).toNat (IntKind.bits .u64))) 2 = 1))))]⟩) (sub_gen [0, 1] rfl rfl ⟨zc rfl rfl, zc rfl rfl, zc rfl rfl, zc rfl rfl, zc rfl rfl, zc rfl rfl, ⟨_, rfl, .inl ⟨rfl, congrArg (Cell.own 1) (List.length_set : (o1_60.set i_59.toNat (decide (Int.tmod ((a3_side / 2 ^ min (IntKind.wrap .u64 i_59 : Int).toNat (IntKind.bits .u64))) 2 = 1))).length = o1_60.length).symm⟩⟩, zc rfl rfl, trivial⟩ ⟨⟨_, rfl, ⟨ii rfl rfl, ii rfl rfl, trivial⟩⟩, oa rfl, trivial⟩) ?_
            refine SOps.nil ?_
            exact ⟨o1_60.set i_59.toNat (decide (Int.tmod ((a3_side / 2 ^ min (IntKind.wrap .u64 i_59 : Int).toNat (IntKind.bits .u64))) 2 = 1)), h, sub_gen [0, 1] rfl rfl ⟨zc rfl rfl, zc rfl rfl, zc rfl rfl, zc rfl rfl, zc rfl rfl, zc rfl rfl, zc rfl rfl, zc rfl rfl, trivial⟩ ⟨⟨_, rfl, ⟨ii rfl rfl, ii rfl rfl, trivial⟩⟩, oa rfl, trivial⟩⟩
          obtain ⟨g79, h⟩ := guard_out h
          refine SCode.region (show SOps _ _ _ [0, 1, 2, 3, 4, 5, 6, 7, 8, 9, 10, 11, 12, 13, 14, 15, 16, 17, 18, 19] _ _ from ?_)
          refine SOps.q rfl (.plain rfl) rfl (q_move rfl rfl) ?_
          refine SOps.q rfl (.plain rfl) rfl (q_move rfl rfl) ?_
          refine SOps.q rfl (.plain rfl) rfl (q_move rfl rfl) ?_
          refine SOps.q rfl (.plain rfl) rfl (q_move rfl rfl) ?_
          refine SOps.q rfl (.plain rfl) rfl (q_eql rfl rfl rfl) ?_
          refine SOps.q rfl (.plain rfl) rfl (q_move rfl rfl) ?_
          refine SOps.q rfl (.guard 5 71 false rfl rfl (gF g74)) rfl (q_move rfl rfl) ?_
          refine SOps.q rfl (.guard 5 71 false rfl rfl (gF g74)) rfl (q_move rfl rfl) ?_
          refine SOps.q rfl (.guard 5 71 false rfl rfl (gF g74)) rfl (q_neq rfl rfl rfl) ?_
          refine SOps.q rfl (.guard 5 71 false rfl rfl (gF g74)) rfl (q_move rfl rfl) ?_
          refine SOps.skip rfl 9 75 true rfl rfl (.inl (gF g76)) rfl ?_
          refine SOps.skip rfl 9 75 true rfl rfl (.inl (gF g76)) rfl ?_
          refine SOps.skip rfl 9 75 true rfl rfl (.inl (gF g76)) rfl ?_
          refine SOps.skip rfl 9 75 true rfl rfl (.inl (gF g76)) rfl ?_
          refine SOps.skip rfl 9 75 true rfl rfl (.inl (gF g76)) rfl ?_
          refine SOps.skip rfl 9 75 true rfl rfl (.inl (gF g76)) rfl ?_
          refine SOps.q rfl (.guard 5 71 false rfl rfl (gF g74)) rfl (q_pick_f rfl rfl g76 rfl) ?_
          refine SOps.q rfl (.plain rfl) rfl (q_pick_f rfl rfl g74 rfl) ?_
          refine SOps.q rfl (.plain rfl) rfl (q_index_own rfl rfl rfl sl35 g79.1 g79.2) ?_
          refine SOps.e rfl (.plain rfl) (e_storeL false rfl rfl rfl rfl rfl (toNat_lt g79) ty4 rfl rfl rfl rfl rfl rfl) ?_
          refine SOps.sub (st' := ⟨[(1, .c (.int .i64 a1_source)), (2, .c (.int .i64 a2_sink)), (3, .c (.int .u64 a3_side)), (4, .c (.ptr 0 0)), (9, .c (.int .i64 c_11.1)), (12, .c (.vec c_13.1.length 1 (gL cBool false c_13.1))), (14, .c (.own 1 (o1_60.set i_59.toNat false).length)), (15, .c (.int .i64 i_59))], [.box [.int .i64 a0_n.Nodes, .vec a0_n.Arcs.length 3 (gL cSArc dSArc a0_n.Arcs)], .arr 4 1 (o1_60.set i_59.toNat false).length (gL cBool false (o1_60.set i_59.toNat false))]⟩) (sub_gen [0, 1] rfl rfl ⟨zc rfl rfl, zc rfl rfl, zc rfl rfl, zc rfl rfl, zc rfl rfl, zc rfl rfl, ⟨_, rfl, .inl ⟨rfl, congrArg (Cell.own 1) (List.length_set : (o1_60.set i_59.toNat false).length = o1_60.length).symm⟩⟩, zc rfl rfl, trivial⟩ ⟨⟨_, rfl, ⟨ii rfl rfl, ii rfl rfl, trivial⟩⟩, oa rfl, trivial⟩) ?_
          refine SOps.nil ?_
          exact ⟨o1_60.set i_59.toNat false, h, sub_gen [0, 1] rfl rfl ⟨zc rfl rfl, zc rfl rfl, zc rfl rfl, zc rfl rfl, zc rfl rfl, zc rfl rfl, zc rfl rfl, zc rfl rfl, trivial⟩ ⟨⟨_, rfl, ⟨ii rfl rfl, ii rfl rfl, trivial⟩⟩, oa rfl, trivial⟩⟩
        rintro o1_72 h
        show SCode _ _ _ ⟨[(1, .c (.int .i64 a1_source)), (2, .c (.int .i64 a2_sink)), (3, .c (.int .u64 a3_side)), (4, .c (.ptr 0 0)), (9, .c (.int .i64 c_11.1)), (12, .c (.vec c_13.1.length 1 (gL cBool false c_13.1))), (14, .c (.own 1 o1_72.length)), (15, .c (.int .i64 i_59))], [.box [.int .i64 a0_n.Nodes, .vec a0_n.Arcs.length 3 (gL cSArc dSArc a0_n.Arcs)], .arr 4 1 o1_72.length (gL cBool false o1_72)]⟩ _
        replace h : chargenetlaw09_FlowBounds_p73 i_59 (fun i_59 o1_60 => chargenetlaw09_FlowBounds_l70 F a0_n a1_source a2_sink a3_side c_11 c_13 n_70 i_59 o1_60) o1_72 = some r := h
        unfold chargenetlaw09_FlowBounds_p73 at h
        refine SCode.region (show SOps _ _ _ [0, 1, 2] _ _ from ?_)
        refine SOps.q rfl (.plain rfl) rfl (q_move rfl rfl) ?_
        refine SOps.q rfl (.plain rfl) rfl (q_add rfl rfl rfl) ?_
        refine SOps.q rfl (.plain rfl) rfl (q_assign rfl rfl) ?_
        refine SOps.sub (st' := ⟨[(1, .c (.int .i64 a1_source)), (2, .c (.int .i64 a2_sink)), (3, .c (.int .u64 a3_side)), (4, .c (.ptr 0 0)), (9, .c (.int .i64 c_11.1)), (12, .c (.vec c_13.1.length 1 (gL cBool false c_13.1))), (14, .c (.own 1 o1_72.length)), (15, .c (.int .i64 (IntKind.wrap .i64 (i_59 + 1))))], [.box [.int .i64 a0_n.Nodes, .vec a0_n.Arcs.length 3 (gL cSArc dSArc a0_n.Arcs)], .arr 4 1 o1_72.length (gL cBool false o1_72)]⟩) (sub_gen [0, 1] rfl rfl ⟨zc rfl rfl, zc rfl rfl, zc rfl rfl, zc rfl rfl, zc rfl rfl, zc rfl rfl, zc rfl rfl, zc rfl rfl, trivial⟩ ⟨⟨_, rfl, ⟨ii rfl rfl, ii rfl rfl, trivial⟩⟩, oa rfl, trivial⟩) ?_
        refine SOps.nil ?_
        exact ⟨(n_70, (IntKind.wrap .i64 (i_59 + 1), o1_72)), h, Nat.lt_succ_self n_70, sub_gen [0, 1] rfl rfl ⟨zc rfl rfl, zc rfl rfl, zc rfl rfl, zc rfl rfl, zc rfl rfl, zc rfl rfl, zc rfl rfl, zc rfl rfl, trivial⟩ ⟨⟨_, rfl, ⟨ii rfl rfl, ii rfl rfl, trivial⟩⟩, oa rfl, trivial⟩⟩
      refine SCode.cond_f rfl g71 ?_
      refine SCode.exit ?_
      exact ⟨o1_60, h, sub_gen [0, 1] rfl rfl ⟨zc rfl rfl, zc rfl rfl, zc rfl rfl, zc rfl rfl, trivial⟩ ⟨⟨_, rfl, ⟨ii rfl rfl, ii rfl rfl, trivial⟩⟩, oa rfl, trivial⟩⟩
  rintro o1_19 h
  show SCode _ _ _ ⟨[(4, .c (.ptr 0 0)), (9, .c (.int .i64 c_11.1)), (12, .c (.vec c_13.1.length 1 (gL cBool false c_13.1))), (14, .c (.own 1 o1_19.length))], [.box [.int .i64 a0_n.Nodes, .vec a0_n.Arcs.length 3 (gL cSArc dSArc a0_n.Arcs)], .arr 4 1 o1_19.length (gL cBool false o1_19)]⟩ _
  replace h : chargenetlaw09_FlowBounds_p49 F a0_n c_11 c_13 o1_19 = some r := h
  unfold chargenetlaw09_FlowBounds_p49 at h
  refine SCode.seq ?_
  obtain ⟨c_20, g21, h⟩ := bind_out h
  try dsimp only at h
  refine SCode.region (show SOps _ _ _ [0, 1, 2, 3] _ _ from ?_)
  refine SOps.q rfl (.plain rfl) rfl (q_load_ptr_all rfl rfl rfl rfl rfl ty24) ?_
  refine SOps.q rfl (.plain rfl) rfl (q_move rfl rfl) ?_
  refine SOps.q rfl (.plain rfl) rfl (q_call (chargenetref09_Capacity_ok F a0_n o1_19 c_20 g21) [1] rfl fn21 ⟨⟨rfl, rfl⟩, ⟨_, rfl, .inr (.inl ⟨_, _, _, _, _, _, _, rfl, rfl, rfl, Nat.le_refl _, fun _ _ _ _ => rfl, by decide⟩)⟩, trivial⟩ (.inr rfl)) ?_
  refine SOps.q rfl (.plain rfl) rfl (q_assign rfl rfl) ?_
  refine SOps.sub (st' := ⟨[(4, .c (.ptr 0 0)), (9, .c (.int .i64 c_11.1)), (12, .c (.vec c_13.1.length 1 (gL cBool false c_13.1))), (14, .c (.own 1 o1_19.length)), (16, .c (.int .i64 c_20))], [.box [.int .i64 a0_n.Nodes, .vec a0_n.Arcs.length 3 (gL cSArc dSArc a0_n.Arcs)], .arr 4 1 o1_19.length (gL cBool false o1_19)]⟩) (sub_gen [0, 1] rfl rfl ⟨zc rfl rfl, zc rfl rfl, zc rfl rfl, zc rfl rfl, zc rfl rfl, trivial⟩ ⟨⟨_, rfl, ⟨ii rfl rfl, ii rfl rfl, trivial⟩⟩, oa rfl, trivial⟩) ?_
  refine SOps.nil ?_
  refine SCode.join (σ := Unit) (S := fun s => ⟨[(9, .c (.int .i64 c_11.1)), (16, .c (.int .i64 c_20))], []⟩) (g := fun s => chargenetlaw09_FlowBounds_p25 F c_11 c_20 = some r) ?_ ?_
  rotate_left
  · refine SCode.seq ?_
    refine SCode.region (show SOps _ _ _ [0] _ _ from ?_)
    refine SOps.q rfl (.plain rfl) rfl (q_assign rfl rfl) ?_
    refine SOps.sub (st' := ⟨[(4, .c (.ptr 0 0)), (9, .c (.int .i64 c_11.1)), (12, .c (.vec c_13.1.length 1 (gL cBool false c_13.1))), (14, .c (.own 1 o1_19.length)), (16, .c (.int .i64 c_20)), (17, .c (.int .i64 0))], [.box [.int .i64 a0_n.Nodes, .vec a0_n.Arcs.length 3 (gL cSArc dSArc a0_n.Arcs)], .arr 4 1 o1_19.length (gL cBool false o1_19)]⟩) (sub_gen [0, 1] rfl rfl ⟨zc rfl rfl, zc rfl rfl, zc rfl rfl, zc rfl rfl, zc rfl rfl, zc rfl rfl, trivial⟩ ⟨⟨_, rfl, ⟨ii rfl rfl, ii rfl rfl, trivial⟩⟩, oa rfl, trivial⟩) ?_
    refine SOps.nil ?_
    refine SCode.block ?_
    refine SCode.sub (st' := ⟨[(4, .c (.ptr 0 0)), (9, .c (.int .i64 c_11.1)), (12, .c (.vec c_13.1.length 1 (gL cBool false c_13.1))), (14, .c (.own 1 o1_19.length)), (16, .c (.int .i64 c_20)), (17, .c (.int .i64 0))], [.box [.int .i64 a0_n.Nodes, .vec a0_n.Arcs.length 3 (gL cSArc dSArc a0_n.Arcs)], .arr 4 1 o1_19.length (gL cBool false o1_19)]⟩) (sub_gen [0, 1] rfl rfl ⟨zc rfl rfl, zc rfl rfl, zc rfl rfl, zc rfl rfl, zc rfl rfl, zc rfl rfl, trivial⟩ ⟨⟨_, rfl, ⟨ii rfl rfl, ii rfl rfl, trivial⟩⟩, oa rfl, trivial⟩) ?_
    refine (SCode.loop (σ := Nat × Int) (S := fun s => ⟨[(4, .c (.ptr 0 0)), (9, .c (.int .i64 c_11.1)), (12, .c (.vec c_13.1.length 1 (gL cBool false c_13.1))), (14, .c (.own 1 o1_19.length)), (16, .c (.int .i64 c_20)), (17, .c (.int .i64 s.2))], [.box [.int .i64 a0_n.Nodes, .vec a0_n.Arcs.length 3 (gL cSArc dSArc a0_n.Arcs)], .arr 4 1 o1_19.length (gL cBool false o1_19)]⟩) (g := fun s => chargenetlaw09_FlowBounds_l41 F a0_n c_11 c_13 o1_19 c_20 s.1 s.2 = some r) (μ := fun s => s.1) (F, 0) h ?_)
    rintro ⟨n_41, i_33⟩ h
    replace h : chargenetlaw09_FlowBounds_l41 F a0_n c_11 c_13 o1_19 c_20 n_41 i_33 = some r := h
    show SCode _ _ _ ⟨[(4, .c (.ptr 0 0)), (9, .c (.int .i64 c_11.1)), (12, .c (.vec c_13.1.length 1 (gL cBool false c_13.1))), (14, .c (.own 1 o1_19.length)), (16, .c (.int .i64 c_20)), (17, .c (.int .i64 i_33))], [.box [.int .i64 a0_n.Nodes, .vec a0_n.Arcs.length 3 (gL cSArc dSArc a0_n.Arcs)], .arr 4 1 o1_19.length (gL cBool false o1_19)]⟩ _
    cases n_41 with
    | zero => cases h
    | succ n_41 =>
      replace h : chargenetlaw09_FlowBounds_b41 F a0_n c_11 c_13 o1_19 c_20 (fun i_33 => chargenetlaw09_FlowBounds_l41 F a0_n c_11 c_13 o1_19 c_20 n_41 i_33) i_33 = some r := h
      unfold chargenetlaw09_FlowBounds_b41 at h
      refine SCode.seq ?_
      refine SCode.seq ?_
      refine SCode.region (show SOps _ _ _ [0, 1, 2, 3] _ _ from ?_)
      refine SOps.q rfl (.plain rfl) rfl (q_move rfl rfl) ?_
      refine SOps.q rfl (.plain rfl) rfl (q_field_ptr rfl rfl fd24_0) ?_
      refine SOps.q rfl (.plain rfl) rfl (q_load_ptr rfl rfl rfl rfl ty3) ?_
      refine SOps.q rfl (.plain rfl) rfl (q_lss rfl rfl rfl) ?_
      refine SOps.sub (st' := ⟨[(4, .c (.ptr 0 0)), (9, .c (.int .i64 c_11.1)), (12, .c (.vec c_13.1.length 1 (gL cBool false c_13.1))), (14, .c (.own 1 o1_19.length)), (16, .c (.int .i64 c_20)), (17, .c (.int .i64 i_33)), (91, .c (.bool (decide (i_33 < a0_n.Nodes))))], [.box [.int .i64 a0_n.Nodes, .vec a0_n.Arcs.length 3 (gL cSArc dSArc a0_n.Arcs)], .arr 4 1 o1_19.length (gL cBool false o1_19)]⟩) (sub_gen [0, 1] rfl rfl ⟨zc rfl rfl, zc rfl rfl, zc rfl rfl, zc rfl rfl, zc rfl rfl, zc rfl rfl, zc rfl rfl, trivial⟩ ⟨⟨_, rfl, ⟨ii rfl rfl, ii rfl rfl, trivial⟩⟩, oa rfl, trivial⟩) ?_
      refine SOps.nil ?_
      rcases cond_out h with ⟨g42, h⟩ | ⟨g42, h⟩
      · refine SCode.cond_t rfl g42 ?_
        refine SCode.skip ?_
        refine SCode.join (σ := Unit) (S := fun s => ⟨[(4, .c (.ptr 0 0)), (9, .c (.int .i64 c_11.1)), (12, .c (.vec c_13.1.length 1 (gL cBool false c_13.1))), (14, .c (.own 1 o1_19.length)), (16, .c (.int .i64 c_20)), (17, .c (.int .i64 i_33))], [.box [.int .i64 a0_n.Nodes, .vec a0_n.Arcs.length 3 (gL cSArc dSArc a0_n.Arcs)], .arr 4 1 o1_19.length (gL cBool false o1_19)]⟩) (g := fun s => chargenetlaw09_FlowBounds_p43 i_33 (fun i_33 => chargenetlaw09_FlowBounds_l41 F a0_n c_11 c_13 o1_19 c_20 n_41 i_33) = some r) ?_ ?_
        rotate_left
        · refine SCode.block ?_
          refine SCode.seq ?_
          rcases cond_out h with ⟨g44, h⟩ | ⟨g44, h⟩
          · obtain ⟨g45, h⟩ := guard_out h
            rcases cond_out h with ⟨g46, h⟩ | ⟨g46, h⟩
            · obtain ⟨g47, h⟩ := guard_out h
              refine SCode.region (show SOps _ _ _ [0, 1, 2, 3, 4, 5, 6, 7, 8, 9, 10, 11, 12, 13, 14, 15] _ _ from ?_)
              refine SOps.q rfl (.plain rfl) rfl (q_move rfl rfl) ?_
              refine SOps.q rfl (.plain rfl) rfl (q_move rfl rfl) ?_
              refine SOps.q rfl (.plain rfl) rfl (q_eql rfl rfl rfl) ?_
              refine SOps.q rfl (.plain rfl) rfl (q_move rfl rfl) ?_
              refine SOps.q rfl (.guard 3 97 true rfl rfl (gT g44)) rfl (q_move rfl rfl) ?_
              refine SOps.q rfl (.guard 3 97 true rfl rfl (gT g44)) rfl (q_move rfl rfl) ?_
              refine SOps.q rfl (.guard 3 97 true rfl rfl (gT g44)) rfl (q_index_vec rfl rfl rfl sl35 rfl g45.1 g45.2) ?_
              refine SOps.q rfl (.guard 3 97 true rfl rfl (gT g44)) rfl (q_load_eptr rfl rfl ty4) ?_
              refine SOps.q rfl (.plain rfl) rfl (q_pick_t rfl rfl g44 rfl) ?_
              refine SOps.q rfl (.plain rfl) rfl (q_move rfl rfl) ?_
              refine SOps.q rfl (.guard 9 103 true rfl rfl (gT g46)) rfl (q_move rfl rfl) ?_
              refine SOps.q rfl (.guard 9 103 true rfl rfl (gT g46)) rfl (q_move rfl rfl) ?_
              refine SOps.q rfl (.guard 9 103 true rfl rfl (gT g46)) rfl (q_index_own rfl rfl rfl sl35 g47.1 g47.2) ?_
              refine SOps.q rfl (.guard 9 103 true rfl rfl (gT g46)) rfl (q_load_aptr rfl rfl rfl (toNat_lt g47) rfl ty4) ?_
              refine SOps.q rfl (.guard 9 103 true rfl rfl (gT g46)) rfl (q_not rfl rfl) ?_
              refine SOps.q rfl (.plain rfl) rfl (q_pick_t rfl rfl g46 rfl) ?_
              refine SOps.sub (st' := ⟨[(4, .c (.ptr 0 0)), (9, .c (.int .i64 c_11.1)), (12, .c (.vec c_13.1.length 1 (gL cBool false c_13.1))), (14, .c (.own 1 o1_19.length)), (16, .c (.int .i64 c_20)), (17, .c (.int .i64 i_33)), (109, .c (.bool ((!(o1_19.getD i_33.toNat false)))))], [.box [.int .i64 a0_n.Nodes, .vec a0_n.Arcs.length 3 (gL cSArc dSArc a0_n.Arcs)], .arr 4 1 o1_19.length (gL cBool false o1_19)]⟩) (sub_gen [0, 1] rfl rfl ⟨zc rfl rfl, zc rfl rfl, zc rfl rfl, zc rfl rfl, zc rfl rfl, zc rfl rfl, zc rfl rfl, trivial⟩ ⟨⟨_, rfl, ⟨ii rfl rfl, ii rfl rfl, trivial⟩⟩, oa rfl, trivial⟩) ?_
              refine SOps.nil ?_
              rcases cond_out h with ⟨g48, h⟩ | ⟨g48, h⟩
              · refine SCode.cond_t rfl g48 ?_
                refine SCode.seq ?_
                refine SCode.region (show SOps _ _ _ [0] _ _ from ?_)
                refine SOps.q rfl (.plain rfl) rfl (q_assign rfl rfl) ?_
                refine SOps.sub (st' := ⟨[(8, .c (.bool false))], []⟩) (sub_gen [] rfl rfl ⟨zc rfl rfl, trivial⟩ trivial) ?_
                refine SOps.nil ?_
                refine SCode.ret ?_
                obtain rfl := Option.some.inj h
                exact ⟨⟨[(8, .c (.bool false))], []⟩, _, sub_gen [] rfl rfl ⟨zc rfl rfl, trivial⟩ trivial, resA1 (v := .c (.bool false)) rfl rfl, rfl⟩
              refine SCode.cond_f rfl g48 ?_
              refine SCode.skip ?_
              exact ⟨(), h, sub_gen [0, 1] rfl rfl ⟨zc rfl rfl, zc rfl rfl, zc rfl rfl, zc rfl rfl, zc rfl rfl, zc rfl rfl, trivial⟩ ⟨⟨_, rfl, ⟨ii rfl rfl, ii rfl rfl, trivial⟩⟩, oa rfl, trivial⟩⟩
            refine SCode.region (show SOps _ _ _ [0, 1, 2, 3, 4, 5, 6, 7, 8, 9, 10, 11, 12, 13, 14, 15] _ _ from ?_)
            refine SOps.q rfl (.plain rfl) rfl (q_move rfl rfl) ?_
            refine SOps.q rfl (.plain rfl) rfl (q_move rfl rfl) ?_
            refine SOps.q rfl (.plain rfl) rfl (q_eql rfl rfl rfl) ?_
            refine SOps.q rfl (.plain rfl) rfl (q_move rfl rfl) ?_
            refine SOps.q rfl (.guard 3 97 true rfl rfl (gT g44)) rfl (q_move rfl rfl) ?_
            refine SOps.q rfl (.guard 3 97 true rfl rfl (gT g44)) rfl (q_move rfl rfl) ?_
            refine SOps.q rfl (.guard 3 97 true rfl rfl (gT g44)) rfl (q_index_vec rfl rfl rfl sl35 rfl g45.1 g45.2) ?_
            refine SOps.q rfl (.guard 3 97 true rfl rfl (gT g44)) rfl (q_load_eptr rfl rfl ty4) ?_
            refine SOps.q rfl (.plain rfl) rfl (q_pick_t rfl rfl g44 rfl) ?_
            refine SOps.q rfl (.plain rfl) rfl (q_move rfl rfl) ?_
            refine SOps.skip rfl 9 103 true rfl rfl (.inl (gF g46)) rfl ?_
            refine SOps.skip rfl 9 103 true rfl rfl (.inl (gF g46)) rfl ?_
            refine SOps.skip rfl 9 103 true rfl rfl (.inl (gF g46)) rfl ?_
            refine SOps.skip rfl 9 103 true rfl rfl (.inl (gF g46)) rfl ?_
            refine SOps.skip rfl 9 103 true rfl rfl (.inl (gF g46)) rfl ?_
            refine SOps.q rfl (.plain rfl) rfl (q_pick_f rfl rfl g46 rfl) ?_
            refine SOps.sub (st' := ⟨[(4, .c (.ptr 0 0)), (9, .c (.int .i64 c_11.1)), (12, .c (.vec c_13.1.length 1 (gL cBool false c_13.1))), (14, .c (.own 1 o1_19.length)), (16, .c (.int .i64 c_20)), (17, .c (.int .i64 i_33)), (109, .c (.bool false))], [.box [.int .i64 a0_n.Nodes, .vec a0_n.Arcs.length 3 (gL cSArc dSArc a0_n.Arcs)], .arr 4 1 o1_19.length (gL cBool false o1_19)]⟩) (sub_gen [0, 1] rfl rfl ⟨zc rfl rfl, zc rfl rfl, zc rfl rfl, zc rfl rfl, zc rfl rfl, zc rfl rfl, zc rfl rfl, trivial⟩ ⟨⟨_, rfl, ⟨ii rfl rfl, ii rfl rfl, trivial⟩⟩, oa rfl, trivial⟩) ?_
            refine SOps.nil ?_
            refine SCode.cond_f rfl rfl ?_
            refine SCode.skip ?_
            exact ⟨(), h, sub_gen [0, 1] rfl rfl ⟨zc rfl rfl, zc rfl rfl, zc rfl rfl, zc rfl rfl, zc rfl rfl, zc rfl rfl, trivial⟩ ⟨⟨_, rfl, ⟨ii rfl rfl, ii rfl rfl, trivial⟩⟩, oa rfl, trivial⟩⟩
          refine SCode.region (show SOps _ _ _ [0, 1, 2, 3, 4, 5, 6, 7, 8, 9, 10, 11, 12, 13, 14, 15] _ _ from ?_)
          refine SOps.q rfl (.plain rfl) rfl (q_move rfl rfl) ?_
          refine SOps.q rfl (.plain rfl) rfl (q_move rfl rfl) ?_
          refine SOps.q rfl (.plain rfl) rfl (q_eql rfl rfl rfl) ?_
          refine SOps.q rfl (.plain rfl) rfl (q_move rfl rfl) ?_
          refine SOps.skip rfl 3 97 true rfl rfl (.inl (gF g44)) rfl ?_
          refine SOps.skip rfl 3 97 true rfl rfl (.inl (gF g44)) rfl ?_
          refine SOps.skip rfl 3 97 true rfl rfl (.inl (gF g44)) rfl ?_
          refine SOps.skip rfl 3 97 true rfl rfl (.inl (gF g44)) rfl ?_
          refine SOps.q rfl (.plain rfl) rfl (q_pick_f rfl rfl g44 rfl) ?_
          refine SOps.q rfl (.plain rfl) rfl (q_move rfl rfl) ?_
          refine SOps.skip rfl 9 103 true rfl rfl (.inl rfl) rfl ?_
          refine SOps.skip rfl 9 103 true rfl rfl (.inl rfl) rfl ?_
          refine SOps.skip rfl 9 103 true rfl rfl (.inl rfl) rfl ?_
          refine SOps.skip rfl 9 103 true rfl rfl (.inl rfl) rfl ?_
          refine SOps.skip rfl 9 103 true rfl rfl (.inl rfl) rfl ?_
          refine SOps.q rfl (.plain rfl) rfl (q_pick_f rfl rfl rfl rfl) ?_
          refine SOps.sub (st' := ⟨[(4, .c (.ptr 0 0)), (9, .c (.int .i64 c_11.1)), (12, .c (.vec c_13.1.length 1 (gL cBool false c_13.1))), (14, .c (.own 1 o1_19.length)), (16, .c (.int .i64 c_20)), (17, .c (.int .i64 i_33)), (109, .c (.bool false))], [.box [.int .i64 a0_n.Nodes, .vec a0_n.Arcs.length 3 (gL cSArc dSArc a0_n.Arcs)], .arr 4 1 o1_19.length (gL cBool false o1_19)]⟩) (sub_gen [0, 1] rfl rfl ⟨zc rfl rfl, zc rfl rfl, zc rfl rfl, zc rfl rfl, zc rfl rfl, zc rfl rfl, zc rfl rfl, trivial⟩ ⟨⟨_, rfl, ⟨ii rfl rfl, ii rfl rfl, trivial⟩⟩, oa rfl, trivial⟩) ?_
          refine SOps.nil ?_
          refine SCode.cond_f rfl rfl ?_
          refine SCode.skip ?_
          exact ⟨(), h, sub_gen [0, 1] rfl rfl ⟨zc rfl rfl, zc rfl rfl, zc rfl rfl, zc rfl rfl, zc rfl rfl, zc rfl rfl, trivial⟩ ⟨⟨_, rfl, ⟨ii rfl rfl, ii rfl rfl, trivial⟩⟩, oa rfl, trivial⟩⟩
        rintro ⟨⟩ h
        show SCode _ _ _ ⟨[(4, .c (.ptr 0 0)), (9, .c (.int .i64 c_11.1)), (12, .c (.vec c_13.1.length 1 (gL cBool false c_13.1))), (14, .c (.own 1 o1_19.length)), (16, .c (.int .i64 c_20)), (17, .c (.int .i64 i_33))], [.box [.int .i64 a0_n.Nodes, .vec a0_n.Arcs.length 3 (gL cSArc dSArc a0_n.Arcs)], .arr 4 1 o1_19.length (gL cBool false o1_19)]⟩ _
        replace h : chargenetlaw09_FlowBounds_p43 i_33 (fun i_33 => chargenetlaw09_FlowBounds_l41 F a0_n c_11 c_13 o1_19 c_20 n_41 i_33) = some r := h
        unfold chargenetlaw09_FlowBounds_p43 at h
        refine SCode.region (show SOps _ _ _ [0, 1, 2] _ _ from ?_)
        refine SOps.q rfl (.plain rfl) rfl (q_move rfl rfl) ?_
        refine SOps.q rfl (.plain rfl) rfl (q_add rfl rfl rfl) ?_
        refine SOps.q rfl (.plain rfl) rfl (q_assign rfl rfl) ?_
        refine SOps.sub (st' := ⟨[(4, .c (.ptr 0 0)), (9, .c (.int .i64 c_11.1)), (12, .c (.vec c_13.1.length 1 (gL cBool false c_13.1))), (14, .c (.own 1 o1_19.length)), (16, .c (.int .i64 c_20)), (17, .c (.int .i64 (IntKind.wrap .i64 (i_33 + 1))))], [.box [.int .i64 a0_n.Nodes, .vec a0_n.Arcs.length 3 (gL cSArc dSArc a0_n.Arcs)], .arr 4 1 o1_19.length (gL cBool false o1_19)]⟩) (sub_gen [0, 1] rfl rfl ⟨zc rfl rfl, zc rfl rfl, zc rfl rfl, zc rfl rfl, zc rfl rfl, zc rfl rfl, trivial⟩ ⟨⟨_, rfl, ⟨ii rfl rfl, ii rfl rfl, trivial⟩⟩, oa rfl, trivial⟩) ?_
        refine SOps.nil ?_
        exact ⟨(n_41, IntKind.wrap .i64 (i_33 + 1)), h, Nat.lt_succ_self n_41, sub_gen [0, 1] rfl rfl ⟨zc rfl rfl, zc rfl rfl, zc rfl rfl, zc rfl rfl, zc rfl rfl, zc rfl rfl, trivial⟩ ⟨⟨_, rfl, ⟨ii rfl rfl, ii rfl rfl, trivial⟩⟩, oa rfl, trivial⟩⟩
      refine SCode.cond_f rfl g42 ?_
      refine SCode.exit ?_
      exact ⟨(), h, sub_gen [] rfl rfl ⟨zc rfl rfl, zc rfl rfl, trivial⟩ trivial⟩
  rintro ⟨⟩ h
  show SCode _ _ _ ⟨[(9, .c (.int .i64 c_11.1)), (16, .c (.int .i64 c_20))], []⟩ _
  replace h : chargenetlaw09_FlowBounds_p25 F c_11 c_20 = some r := h
  unfold chargenetlaw09_FlowBounds_p25 at h
  refine SCode.seq ?_
  rcases cond_out h with ⟨g22, h⟩ | ⟨g22, h⟩
  · obtain ⟨c_23, g24, h⟩ := bind_out h
    try dsimp only at h
    refine SCode.region (show SOps _ _ _ [0, 1, 2, 3, 4, 5, 6] _ _ from ?_)
    refine SOps.q rfl (.plain rfl) rfl (q_move rfl rfl) ?_
    refine SOps.q rfl (.plain rfl) rfl (q_move rfl rfl) ?_
    refine SOps.q rfl (.plain rfl) rfl (q_geq rfl rfl rfl) ?_
    refine SOps.q rfl (.plain rfl) rfl (q_move rfl rfl) ?_
    refine SOps.q rfl (.guard 3 113 true rfl rfl (gT g22)) rfl (q_call (chargenetlaw09_awake_ok F  c_23 g24) [] rfl fn11 trivial (.inl rfl)) ?_
    refine SOps.q rfl (.plain rfl) rfl (q_pick_t rfl rfl g22 rfl) ?_
    refine SOps.q rfl (.plain rfl) rfl (q_assign rfl rfl) ?_
    refine SOps.sub (st' := ⟨[(8, .c (.bool c_23))], []⟩) (sub_gen [] rfl rfl ⟨zc rfl rfl, trivial⟩ trivial) ?_
    refine SOps.nil ?_
    refine SCode.ret ?_
    obtain rfl := Option.some.inj h
    exact ⟨⟨[(8, .c (.bool c_23))], []⟩, _, sub_gen [] rfl rfl ⟨zc rfl rfl, trivial⟩ trivial, resA1 (v := .c (.bool c_23)) rfl rfl, rfl⟩
  refine SCode.region (show SOps _ _ _ [0, 1, 2, 3, 4, 5, 6] _ _ from ?_)
  refine SOps.q rfl (.plain rfl) rfl (q_move rfl rfl) ?_
  refine SOps.q rfl (.plain rfl) rfl (q_move rfl rfl) ?_
  refine SOps.q rfl (.plain rfl) rfl (q_geq rfl rfl rfl) ?_
  refine SOps.q rfl (.plain rfl) rfl (q_move rfl rfl) ?_
  refine SOps.skip rfl 3 113 true rfl rfl (.inl (gF g22)) rfl ?_
  refine SOps.q rfl (.plain rfl) rfl (q_pick_f rfl rfl g22 rfl) ?_
  refine SOps.q rfl (.plain rfl) rfl (q_assign rfl rfl) ?_
  refine SOps.sub (st' := ⟨[(8, .c (.bool false))], []⟩) (sub_gen [] rfl rfl ⟨zc rfl rfl, trivial⟩ trivial) ?_
  refine SOps.nil ?_
  refine SCode.ret ?_
  obtain rfl := Option.some.inj h
  exact ⟨⟨[(8, .c (.bool false))], []⟩, _, sub_gen [] rfl rfl ⟨zc rfl rfl, trivial⟩ trivial, resA1 (v := .c (.bool false)) rfl rfl, rfl⟩
end Go.Proofs.Ytbepoingholchaa.W
