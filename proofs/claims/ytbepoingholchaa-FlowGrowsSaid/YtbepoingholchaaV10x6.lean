/- Written by a program of ours (wip/eng/gen.py): the functions compute their models. -/
import Derived.Test.YtbepoingholchaaFacts
import Derived.Test.YtbepoingholchaaV10x5
namespace Go.Proofs.Ytbepoingholchaa.W
open Go Go.Proofs Go.Proofs.Ytbepoingholchaa.E Go.Proofs.Ytbepoingholchaa.M
set_option linter.unusedVariables false
set_option maxRecDepth 100000 in
set_option maxHeartbeats 8000000 in
theorem chargenetlaw09_FlowGrows_ok (F : Nat) (a0_n : SNet) (a1_source : Int) (a2_sink : Int) (a3_at : Int) (a4_by : Int) (r : Bool) (h : chargenetlaw09_FlowGrows F a0_n a1_source a2_sink a3_at a4_by = some r) :
    SFun Try.prog 10 [] [.a [.int .i64 a0_n.Nodes, .vec a0_n.Arcs.length 3 (gL cSArc dSArc a0_n.Arcs)], .c (.int .i64 a1_source), .c (.int .i64 a2_sink), .c (.int .u8 a3_at), .c (.int .u32 a4_by)] (fun x _ => x = .c (.bool r)) := by
  refine SFun.of (n := 112) Try.func10 rfl rfl rfl ?_
  unfold chargenetlaw09_FlowGrows at h
  show SCode _ _ _ ⟨[(0, .a [.int .i64 a0_n.Nodes, .vec a0_n.Arcs.length 3 (gL cSArc dSArc a0_n.Arcs)]), (1, .c (.int .i64 a1_source)), (2, .c (.int .i64 a2_sink)), (3, .c (.int .u8 a3_at)), (4, .c (.int .u32 a4_by))], []⟩ _
  refine SCode.seq ?_
  refine SCode.region (show SOps _ _ _ [0, 1] _ _ from ?_)
  refine SOps.e rfl (.plain rfl) (e_box rfl rfl rfl rfl rfl rfl) ?_
  refine SOps.q rfl (.plain rfl) rfl (q_assign rfl rfl) ?_
  refine SOps.sub (st' := ⟨[(1, .c (.int .i64 a1_source)), (2, .c (.int .i64 a2_sink)), (3, .c (.int .u8 a3_at)), (4, .c (.int .u32 a4_by)), (5, .c (.ptr 0 0))], [.box [.int .i64 a0_n.Nodes, .vec a0_n.Arcs.length 3 (gL cSArc dSArc a0_n.Arcs)]]⟩) (sub_gen [0] rfl rfl ⟨zc rfl rfl, zc rfl rfl, zc rfl rfl, zc rfl rfl, zc rfl rfl, trivial⟩ ⟨⟨_, rfl, ⟨ii rfl rfl, ii rfl rfl, trivial⟩⟩, trivial⟩) ?_
  refine SOps.nil ?_
  refine SCode.seq ?_
  refine SCode.seq ?_
  obtain ⟨c_1, g2, h⟩ := bind_out h
  try dsimp only at h
  rcases cond_out h with ⟨g3, h⟩ | ⟨g3, h⟩
  · refine SCode.region (show SOps _ _ _ [0, 1, 2, 3, 4, 5, 6, 7, 8, 9, 10, 11, 12, 13, 14, 15] _ _ from ?_)
    refine SOps.q rfl (.plain rfl) rfl (q_load_ptr_all rfl rfl rfl rfl rfl ty24) ?_
    refine SOps.q rfl (.plain rfl) rfl (q_call (chargenetref09_Small_ok F a0_n 64 200 c_1 g2) [] rfl fn14 ⟨⟨rfl, rfl⟩, ⟨_, rfl, .inl ⟨rfl, rfl⟩⟩, ⟨_, rfl, .inl ⟨rfl, rfl⟩⟩, trivial⟩ (.inl rfl)) ?_
    refine SOps.q rfl (.plain rfl) rfl (q_not rfl rfl) ?_
    refine SOps.q rfl (.plain rfl) rfl (q_move rfl rfl) ?_
    refine SOps.skip rfl 3 22 false rfl rfl (.inl (gT g3)) rfl ?_
    refine SOps.skip rfl 3 22 false rfl rfl (.inl (gT g3)) rfl ?_
    refine SOps.skip rfl 3 22 false rfl rfl (.inl (gT g3)) rfl ?_
    refine SOps.skip rfl 3 22 false rfl rfl (.inl (gT g3)) rfl ?_
    refine SOps.skip rfl 3 22 false rfl rfl (.inl (gT g3)) rfl ?_
    refine SOps.q rfl (.plain rfl) rfl (q_pick_t rfl rfl g3 rfl) ?_
    refine SOps.q rfl (.plain rfl) rfl (q_move rfl rfl) ?_
    refine SOps.skip rfl 10 29 false rfl rfl (.inl rfl) rfl ?_
    refine SOps.skip rfl 10 29 false rfl rfl (.inl rfl) rfl ?_
    refine SOps.skip rfl 10 29 false rfl rfl (.inl rfl) rfl ?_
    refine SOps.skip rfl 10 29 false rfl rfl (.inl rfl) rfl ?_
    refine SOps.q rfl (.plain rfl) rfl (q_pick_t rfl rfl rfl rfl) ?_
    refine SOps.sub (st' := ⟨[(1, .c (.int .i64 a1_source)), (2, .c (.int .i64 a2_sink)), (3, .c (.int .u8 a3_at)), (4, .c (.int .u32 a4_by)), (5, .c (.ptr 0 0)), (34, .c (.bool true))], [.box [.int .i64 a0_n.Nodes, .vec a0_n.Arcs.length 3 (gL cSArc dSArc a0_n.Arcs)]]⟩) (sub_gen [0] rfl rfl ⟨zc rfl rfl, zc rfl rfl, zc rfl rfl, zc rfl rfl, zc rfl rfl, zc rfl rfl, trivial⟩ ⟨⟨_, rfl, ⟨ii rfl rfl, ii rfl rfl, trivial⟩⟩, trivial⟩) ?_
    refine SOps.nil ?_
    refine SCode.cond_t rfl rfl ?_
    refine SCode.seq ?_
    obtain ⟨c_4, g5, h⟩ := bind_out h
    try dsimp only at h
    refine SCode.region (show SOps _ _ _ [0, 1] _ _ from ?_)
    refine SOps.q rfl (.plain rfl) rfl (q_call (chargenetlaw09_awake_ok F  c_4 g5) [] rfl fn11 trivial (.inl rfl)) ?_
    refine SOps.q rfl (.plain rfl) rfl (q_assign rfl rfl) ?_
    refine SOps.sub (st' := ⟨[(10, .c (.bool c_4))], []⟩) (sub_gen [] rfl rfl ⟨zc rfl rfl, trivial⟩ trivial) ?_
    refine SOps.nil ?_
    refine SCode.ret ?_
    obtain rfl := Option.some.inj h
    exact ⟨⟨[(10, .c (.bool c_4))], []⟩, _, sub_gen [] rfl rfl ⟨zc rfl rfl, trivial⟩ trivial, resA1 (v := .c (.bool c_4)) rfl rfl, rfl⟩
  obtain ⟨c_6, g7, h⟩ := bind_out h
  try dsimp only at h
  rcases cond_out h with ⟨g8, h⟩ | ⟨g8, h⟩
  · refine SCode.region (show SOps _ _ _ [0, 1, 2, 3, 4, 5, 6, 7, 8, 9, 10, 11, 12, 13, 14, 15] _ _ from ?_)
    refine SOps.q rfl (.plain rfl) rfl (q_load_ptr_all rfl rfl rfl rfl rfl ty24) ?_
    refine SOps.q rfl (.plain rfl) rfl (q_call (chargenetref09_Small_ok F a0_n 64 200 c_1 g2) [] rfl fn14 ⟨⟨rfl, rfl⟩, ⟨_, rfl, .inl ⟨rfl, rfl⟩⟩, ⟨_, rfl, .inl ⟨rfl, rfl⟩⟩, trivial⟩ (.inl rfl)) ?_
    refine SOps.q rfl (.plain rfl) rfl (q_not rfl rfl) ?_
    refine SOps.q rfl (.plain rfl) rfl (q_move rfl rfl) ?_
    refine SOps.q rfl (.guard 3 22 false rfl rfl (gF g3)) rfl (q_load_ptr_all rfl rfl rfl rfl rfl ty24) ?_
    refine SOps.q rfl (.guard 3 22 false rfl rfl (gF g3)) rfl (q_move rfl rfl) ?_
    refine SOps.q rfl (.guard 3 22 false rfl rfl (gF g3)) rfl (q_move rfl rfl) ?_
    refine SOps.q rfl (.guard 3 22 false rfl rfl (gF g3)) rfl (q_call (chargenetref09_Ends_ok F a0_n a1_source a2_sink c_6 g7) [] rfl fn16 ⟨⟨rfl, rfl⟩, ⟨_, rfl, .inl ⟨rfl, rfl⟩⟩, ⟨_, rfl, .inl ⟨rfl, rfl⟩⟩, trivial⟩ (.inl rfl)) ?_
    refine SOps.q rfl (.guard 3 22 false rfl rfl (gF g3)) rfl (q_neq rfl rfl rfl) ?_
    refine SOps.q rfl (.plain rfl) rfl (q_pick_f rfl rfl g3 rfl) ?_
    refine SOps.q rfl (.plain rfl) rfl (q_move rfl rfl) ?_
    refine SOps.skip rfl 10 29 false rfl rfl (.inl (gT g8)) rfl ?_
    refine SOps.skip rfl 10 29 false rfl rfl (.inl (gT g8)) rfl ?_
    refine SOps.skip rfl 10 29 false rfl rfl (.inl (gT g8)) rfl ?_
    refine SOps.skip rfl 10 29 false rfl rfl (.inl (gT g8)) rfl ?_
    refine SOps.q rfl (.plain rfl) rfl (q_pick_t rfl rfl g8 rfl) ?_
    refine SOps.sub (st' := ⟨[(1, .c (.int .i64 a1_source)), (2, .c (.int .i64 a2_sink)), (3, .c (.int .u8 a3_at)), (4, .c (.int .u32 a4_by)), (5, .c (.ptr 0 0)), (34, .c (.bool true))], [.box [.int .i64 a0_n.Nodes, .vec a0_n.Arcs.length 3 (gL cSArc dSArc a0_n.Arcs)]]⟩) (sub_gen [0] rfl rfl ⟨zc rfl rfl, zc rfl rfl, zc rfl rfl, zc rfl rfl, zc rfl rfl, zc rfl rfl, trivial⟩ ⟨⟨_, rfl, ⟨ii rfl rfl, ii rfl rfl, trivial⟩⟩, trivial⟩) ?_
    refine SOps.nil ?_
    refine SCode.cond_t rfl rfl ?_
    refine SCode.seq ?_
    obtain ⟨c_9, g10, h⟩ := bind_out h
    try dsimp only at h
    refine SCode.region (show SOps _ _ _ [0, 1] _ _ from ?_)
    refine SOps.q rfl (.plain rfl) rfl (q_call (chargenetlaw09_awake_ok F  c_9 g10) [] rfl fn11 trivial (.inl rfl)) ?_
    refine SOps.q rfl (.plain rfl) rfl (q_assign rfl rfl) ?_
    refine SOps.sub (st' := ⟨[(10, .c (.bool c_9))], []⟩) (sub_gen [] rfl rfl ⟨zc rfl rfl, trivial⟩ trivial) ?_
    refine SOps.nil ?_
    refine SCode.ret ?_
    obtain rfl := Option.some.inj h
    exact ⟨⟨[(10, .c (.bool c_9))], []⟩, _, sub_gen [] rfl rfl ⟨zc rfl rfl, trivial⟩ trivial, resA1 (v := .c (.bool c_9)) rfl rfl, rfl⟩
  refine SCode.region (show SOps _ _ _ [0, 1, 2, 3, 4, 5, 6, 7, 8, 9, 10, 11, 12, 13, 14, 15] _ _ from ?_)
  refine SOps.q rfl (.plain rfl) rfl (q_load_ptr_all rfl rfl rfl rfl rfl ty24) ?_
  refine SOps.q rfl (.plain rfl) rfl (q_call (chargenetref09_Small_ok F a0_n 64 200 c_1 g2) [] rfl fn14 ⟨⟨rfl, rfl⟩, ⟨_, rfl, .inl ⟨rfl, rfl⟩⟩, ⟨_, rfl, .inl ⟨rfl, rfl⟩⟩, trivial⟩ (.inl rfl)) ?_
  refine SOps.q rfl (.plain rfl) rfl (q_not rfl rfl) ?_
  refine SOps.q rfl (.plain rfl) rfl (q_move rfl rfl) ?_
  refine SOps.q rfl (.guard 3 22 false rfl rfl (gF g3)) rfl (q_load_ptr_all rfl rfl rfl rfl rfl ty24) ?_
  refine SOps.q rfl (.guard 3 22 false rfl rfl (gF g3)) rfl (q_move rfl rfl) ?_
  refine SOps.q rfl (.guard 3 22 false rfl rfl (gF g3)) rfl (q_move rfl rfl) ?_
  refine SOps.q rfl (.guard 3 22 false rfl rfl (gF g3)) rfl (q_call (chargenetref09_Ends_ok F a0_n a1_source a2_sink c_6 g7) [] rfl fn16 ⟨⟨rfl, rfl⟩, ⟨_, rfl, .inl ⟨rfl, rfl⟩⟩, ⟨_, rfl, .inl ⟨rfl, rfl⟩⟩, trivial⟩ (.inl rfl)) ?_
  refine SOps.q rfl (.guard 3 22 false rfl rfl (gF g3)) rfl (q_neq rfl rfl rfl) ?_
  refine SOps.q rfl (.plain rfl) rfl (q_pick_f rfl rfl g3 rfl) ?_
  refine SOps.q rfl (.plain rfl) rfl (q_move rfl rfl) ?_
  refine SOps.q rfl (.guard 10 29 false rfl rfl (gF g8)) rfl (q_field_ptr rfl rfl fd24_1) ?_
  refine SOps.q rfl (.guard 10 29 false rfl rfl (gF g8)) rfl (q_load_ptr rfl rfl rfl rfl ty22) ?_
  refine SOps.q rfl (.guard 10 29 false rfl rfl (gF g8)) rfl (q_len_vec rfl rfl sl22) ?_
  refine SOps.q rfl (.guard 10 29 false rfl rfl (gF g8)) rfl (q_eql rfl rfl rfl) ?_
  refine SOps.q rfl (.plain rfl) rfl (q_pick_f rfl rfl g8 rfl) ?_
  refine SOps.sub (st' := ⟨[(1, .c (.int .i64 a1_source)), (2, .c (.int .i64 a2_sink)), (3, .c (.int .u8 a3_at)), (4, .c (.int .u32 a4_by)), (5, .c (.ptr 0 0)), (34, .c (.bool (decide (((a0_n.Arcs).length : Int) = 0))))], [.box [.int .i64 a0_n.Nodes, .vec a0_n.Arcs.length 3 (gL cSArc dSArc a0_n.Arcs)]]⟩) (sub_gen [0] rfl rfl ⟨zc rfl rfl, zc rfl rfl, zc rfl rfl, zc rfl rfl, zc rfl rfl, zc rfl rfl, trivial⟩ ⟨⟨_, rfl, ⟨ii rfl rfl, ii rfl rfl, trivial⟩⟩, trivial⟩) ?_
  refine SOps.nil ?_
  rcases cond_out h with ⟨g11, h⟩ | ⟨g11, h⟩
  · refine SCode.cond_t rfl g11 ?_
    refine SCode.seq ?_
    obtain ⟨c_12, g13, h⟩ := bind_out h
    try dsimp only at h
    refine SCode.region (show SOps _ _ _ [0, 1] _ _ from ?_)
    refine SOps.q rfl (.plain rfl) rfl (q_call (chargenetlaw09_awake_ok F  c_12 g13) [] rfl fn11 trivial (.inl rfl)) ?_
    refine SOps.q rfl (.plain rfl) rfl (q_assign rfl rfl) ?_
    refine SOps.sub (st' := ⟨[(10, .c (.bool c_12))], []⟩) (sub_gen [] rfl rfl ⟨zc rfl rfl, trivial⟩ trivial) ?_
    refine SOps.nil ?_
    refine SCode.ret ?_
    obtain rfl := Option.some.inj h
    exact ⟨⟨[(10, .c (.bool c_12))], []⟩, _, sub_gen [] rfl rfl ⟨zc rfl rfl, trivial⟩ trivial, resA1 (v := .c (.bool c_12)) rfl rfl, rfl⟩
  refine SCode.cond_f rfl g11 ?_
  refine SCode.skip ?_
  refine SCode.seq ?_
  obtain ⟨g14, h⟩ := guard_out h
  refine SCode.region (show SOps _ _ _ [0, 1, 2, 3, 4, 5, 6] _ _ from ?_)
  refine SOps.q rfl (.plain rfl) rfl (q_move rfl rfl) ?_
  refine SOps.q rfl (.plain rfl) rfl (q_convert rfl rfl un5 un3) ?_
  refine SOps.q rfl (.plain rfl) rfl (q_field_ptr rfl rfl fd24_1) ?_
  refine SOps.q rfl (.plain rfl) rfl (q_load_ptr rfl rfl rfl rfl ty22) ?_
  refine SOps.q rfl (.plain rfl) rfl (q_len_vec rfl rfl sl22) ?_
  refine SOps.q rfl (.plain rfl) rfl (q_rem rfl rfl rfl g14) ?_
  refine SOps.q rfl (.plain rfl) rfl (q_assign rfl rfl) ?_
  refine SOps.sub (st' := ⟨[(1, .c (.int .i64 a1_source)), (2, .c (.int .i64 a2_sink)), (4, .c (.int .u32 a4_by)), (5, .c (.ptr 0 0)), (11, .c (.int .i64 (Int.tmod (IntKind.wrap .i64 a3_at) (((a0_n.Arcs).length : Int)))))], [.box [.int .i64 a0_n.Nodes, .vec a0_n.Arcs.length 3 (gL cSArc dSArc a0_n.Arcs)]]⟩) (sub_gen [0] rfl rfl ⟨zc rfl rfl, zc rfl rfl, zc rfl rfl, zc rfl rfl, zc rfl rfl, trivial⟩ ⟨⟨_, rfl, ⟨ii rfl rfl, ii rfl rfl, trivial⟩⟩, trivial⟩) ?_
  refine SOps.nil ?_
  refine SCode.seq ?_
  refine SCode.seq ?_
  obtain ⟨g15, h⟩ := guard_out h
  refine SCode.region (show SOps _ _ _ [0, 1, 2, 3, 4, 5, 6, 7, 8, 9] _ _ from ?_)
  refine SOps.q rfl (.plain rfl) rfl (q_field_ptr rfl rfl fd24_1) ?_
  refine SOps.q rfl (.plain rfl) rfl (q_load_ptr rfl rfl rfl rfl ty22) ?_
  refine SOps.q rfl (.plain rfl) rfl (q_move rfl rfl) ?_
  refine SOps.q rfl (.plain rfl) rfl (q_index_vec rfl rfl rfl sl22 rfl g15.1 g15.2) ?_
  refine SOps.q rfl (.plain rfl) rfl (q_field_eptr rfl rfl fd50_2 rfl) ?_
  refine SOps.q rfl (.plain rfl) rfl (q_load_eptr rfl rfl ty3) ?_
  refine SOps.q rfl (.plain rfl) rfl (q_move rfl rfl) ?_
  refine SOps.q rfl (.plain rfl) rfl (q_convert rfl rfl un51 un3) ?_
  refine SOps.q rfl (.plain rfl) rfl (q_add rfl rfl rfl) ?_
  refine SOps.q rfl (.plain rfl) rfl (q_gtr rfl rfl rfl) ?_
  refine SOps.sub (st' := ⟨[(1, .c (.int .i64 a1_source)), (2, .c (.int .i64 a2_sink)), (4, .c (.int .u32 a4_by)), (5, .c (.ptr 0 0)), (11, .c (.int .i64 (Int.tmod (IntKind.wrap .i64 a3_at) (((a0_n.Arcs).length : Int))))), (51, .c (.bool (decide (1099511627776 < IntKind.wrap .i64 ((a0_n.Arcs.getD (Int.tmod (IntKind.wrap .i64 a3_at) (((a0_n.Arcs).length : Int))).toNat dSArc).Cap + IntKind.wrap .i64 a4_by)))))], [.box [.int .i64 a0_n.Nodes, .vec a0_n.Arcs.length 3 (gL cSArc dSArc a0_n.Arcs)]]⟩) (sub_gen [0] rfl rfl ⟨zc rfl rfl, zc rfl rfl, zc rfl rfl, zc rfl rfl, zc rfl rfl, zc rfl rfl, trivial⟩ ⟨⟨_, rfl, ⟨ii rfl rfl, ii rfl rfl, trivial⟩⟩, trivial⟩) ?_
  refine SOps.nil ?_
  rcases cond_out h with ⟨g16, h⟩ | ⟨g16, h⟩
  · refine SCode.cond_t rfl g16 ?_
    refine SCode.seq ?_
    obtain ⟨c_17, g18, h⟩ := bind_out h
    try dsimp only at h
    refine SCode.region (show SOps _ _ _ [0, 1] _ _ from ?_)
    refine SOps.q rfl (.plain rfl) rfl (q_call (chargenetlaw09_awake_ok F  c_17 g18) [] rfl fn11 trivial (.inl rfl)) ?_
    refine SOps.q rfl (.plain rfl) rfl (q_assign rfl rfl) ?_
    refine SOps.sub (st' := ⟨[(10, .c (.bool c_17))], []⟩) (sub_gen [] rfl rfl ⟨zc rfl rfl, trivial⟩ trivial) ?_
    refine SOps.nil ?_
    refine SCode.ret ?_
    obtain rfl := Option.some.inj h
    exact ⟨⟨[(10, .c (.bool c_17))], []⟩, _, sub_gen [] rfl rfl ⟨zc rfl rfl, trivial⟩ trivial, resA1 (v := .c (.bool c_17)) rfl rfl, rfl⟩
  refine SCode.cond_f rfl g16 ?_
  refine SCode.skip ?_
  refine SCode.seq ?_
  obtain ⟨g19, h⟩ := guard_out h
  refine SCode.draw2 (sH := [(57, .c (.vec a0_n.Arcs.length 3 (gL cSArc dSArc a0_n.Arcs))), (56, .c (.ptr 0 1)), (54, .c (.int .i64 a0_n.Nodes)), (53, .c (.ptr 0 0)), (1, .c (.int .i64 a1_source)), (2, .c (.int .i64 a2_sink)), (4, .c (.int .u32 a4_by)), (5, .c (.ptr 0 0)), (11, .c (.int .i64 (Int.tmod (IntKind.wrap .i64 a3_at) (((a0_n.Arcs).length : Int))))), (51, .c (.bool (decide (1099511627776 < IntKind.wrap .i64 ((a0_n.Arcs.getD (Int.tmod (IntKind.wrap .i64 a3_at) (((a0_n.Arcs).length : Int))).toNat dSArc).Cap + IntKind.wrap .i64 a4_by)))))]) mixed [[], [0], [], [], [3], [2, 3, 4], [0, 1, 2, 3, 4, 5], [], [0, 1, 2, 3, 4, 5, 6, 7]] [2, 5, 6, 7, 8] (fun h => List.getD ([] : List (List Nat)) h []) rfl ?_ ⟨[(1, .c (.int .i64 a1_source)), (2, .c (.int .i64 a2_sink)), (4, .c (.int .u32 a4_by)), (5, .c (.ptr 0 0)), (11, .c (.int .i64 (Int.tmod (IntKind.wrap .i64 a3_at) (((a0_n.Arcs).length : Int))))), (12, .c (.ptr 1 0))], [.box [.int .i64 a0_n.Nodes, .vec a0_n.Arcs.length 3 (gL cSArc dSArc a0_n.Arcs)], .box [.int .i64 a0_n.Nodes, .own 2 ((([] : List SArc)) ++ a0_n.Arcs).length], .arr 50 3 ((([] : List SArc)) ++ a0_n.Arcs).length (gL cSArc dSArc ((([] : List SArc)) ++ a0_n.Arcs))]⟩ ?_ ?_
  · refine HChain.run rfl rfl (.plain rfl) rfl (fun f x => q_field_ptr rfl rfl fd24_0) ?_
    refine HChain.run rfl rfl (.plain rfl) rfl (fun f x => q_load_ptr rfl rfl rfl rfl ty3) ?_
    refine HChain.tail rfl ?_
    refine HChain.run rfl rfl (.plain rfl) rfl (fun f x => q_field_ptr rfl rfl fd24_1) ?_
    refine HChain.run rfl rfl (.plain rfl) rfl (fun f x => q_load_ptr rfl rfl rfl rfl ty22) ?_
    refine HChain.tail rfl ?_
    refine HChain.tail rfl ?_
    refine HChain.tail rfl ?_
    refine HChain.tail rfl ?_
    exact HChain.nil _ _
  · refine TTree.node 2 [7] rfl ?_
    refine AllP.cons ?_ ?_
    · refine TStep.d (objs' := [.box [.int .i64 a0_n.Nodes, .vec a0_n.Arcs.length 3 (gL cSArc dSArc a0_n.Arcs)], .arr 50 3 (([] : List SArc)).length (gL cSArc dSArc (([] : List SArc)))]) (v := .c (.own 1 (([] : List SArc)).length)) [] 55 rfl rfl rfl rfl rfl (fun s2 => by refine EOp.eq (e_bslice0L (α := SArc) (c := cSArc) (d0 := dSArc) rfl rfl rfl rfl sl22) ?_; rfl) ?_
      refine ⟨rfl, ⟨trivial, .inr rfl⟩, ?_⟩
      refine TTree.node 5 [7] rfl ?_
      refine AllP.cons ?_ ?_
      · refine TStep.d (objs' := [.box [.int .i64 a0_n.Nodes, .vec a0_n.Arcs.length 3 (gL cSArc dSArc a0_n.Arcs)], .dead, .arr 50 3 ((([] : List SArc)) ++ a0_n.Arcs).length (gL cSArc dSArc ((([] : List SArc)) ++ a0_n.Arcs))]) (v := .c (.own 2 ((([] : List SArc)) ++ a0_n.Arcs).length)) [] 58 rfl rfl rfl rfl rfl (fun s2 => by refine EOp.eq (e_appendL (c := cSArc) (d0 := dSArc) (l := ([] : List SArc)) (l2 := a0_n.Arcs) rfl rfl rfl rfl rfl rfl (.inl rfl) sl22 z50 rfl rfl oneSArc g19.1 g19.2) ?_; rfl) ?_
        refine ⟨rfl, ⟨trivial, .inr rfl⟩, ?_⟩
        refine TTree.node 6 [7] rfl ?_
        refine AllP.cons ?_ ?_
        · refine TStep.d (objs' := [.box [.int .i64 a0_n.Nodes, .vec a0_n.Arcs.length 3 (gL cSArc dSArc a0_n.Arcs)], .dead, .arr 50 3 ((([] : List SArc)) ++ a0_n.Arcs).length (gL cSArc dSArc ((([] : List SArc)) ++ a0_n.Arcs))]) (v := .a [.int .i64 a0_n.Nodes, .own 2 ((([] : List SArc)) ++ a0_n.Arcs).length]) [] 59 rfl rfl rfl rfl rfl (fun s2 => by refine EOp.eq (EOp.qd rfl rfl (q_build2 rfl rfl pl24 rfl)) ?_; rfl) ?_
          refine ⟨rfl, ⟨trivial, .inr rfl⟩, ?_⟩
          refine TTree.node 7 [] rfl ?_
          refine AllP.cons ?_ ?_
          · refine TStep.d (objs' := [.box [.int .i64 a0_n.Nodes, .vec a0_n.Arcs.length 3 (gL cSArc dSArc a0_n.Arcs)], .dead, .arr 50 3 ((([] : List SArc)) ++ a0_n.Arcs).length (gL cSArc dSArc ((([] : List SArc)) ++ a0_n.Arcs)), .box [.int .i64 0, .raw (.slice none 0 0)]]) (v := .c (.ptr 3 0)) [] 12 rfl rfl rfl rfl rfl (fun s2 => by refine EOp.eq (e_alloc rfl rfl rfl z24) ?_; rfl) ?_
            refine ⟨rfl, ⟨trivial, .inr rfl⟩, ?_⟩
            refine TTree.node 8 [] rfl ?_
            refine AllP.cons ?_ ?_
            · refine TStep.n (objs' := [.box [.int .i64 a0_n.Nodes, .vec a0_n.Arcs.length 3 (gL cSArc dSArc a0_n.Arcs)], .dead, .arr 50 3 ((([] : List SArc)) ++ a0_n.Arcs).length (gL cSArc dSArc ((([] : List SArc)) ++ a0_n.Arcs)), .box [.int .i64 a0_n.Nodes, .own 2 ((([] : List SArc)) ++ a0_n.Arcs).length]]) [] rfl rfl rfl rfl (fun s2 => by refine EOp.eq (e_store_box rfl rfl rfl rfl rfl ty24 rfl rfl rfl rfl) ?_; rfl) ?_
              refine ⟨rfl, ⟨trivial, .inr rfl⟩, ?_⟩
              exact TTree.leaf rfl (sub_gen [0, 3, 2] rfl rfl ⟨zc rfl rfl, zc rfl rfl, zc rfl rfl, zc rfl rfl, zc rfl rfl, zc rfl rfl, trivial⟩ ⟨⟨_, rfl, ⟨ii rfl rfl, ii rfl rfl, trivial⟩⟩, ⟨_, rfl, ⟨ii rfl rfl, ii rfl rfl, trivial⟩⟩, oa rfl, trivial⟩)
            exact AllP.nil
          exact AllP.nil
        refine AllP.cons ?_ ?_
        · refine TStep.d (objs' := [.box [.int .i64 a0_n.Nodes, .vec a0_n.Arcs.length 3 (gL cSArc dSArc a0_n.Arcs)], .dead, .arr 50 3 ((([] : List SArc)) ++ a0_n.Arcs).length (gL cSArc dSArc ((([] : List SArc)) ++ a0_n.Arcs)), .box [.int .i64 0, .raw (.slice none 0 0)]]) (v := .c (.ptr 3 0)) [] 12 rfl rfl rfl rfl rfl (fun s2 => by refine EOp.eq (e_alloc rfl rfl rfl z24) ?_; rfl) ?_
          refine ⟨rfl, ⟨trivial, .inr rfl⟩, ?_⟩
          refine TTree.node 6 [] rfl ?_
          refine AllP.cons ?_ ?_
          · refine TStep.d (objs' := [.box [.int .i64 a0_n.Nodes, .vec a0_n.Arcs.length 3 (gL cSArc dSArc a0_n.Arcs)], .dead, .arr 50 3 ((([] : List SArc)) ++ a0_n.Arcs).length (gL cSArc dSArc ((([] : List SArc)) ++ a0_n.Arcs)), .box [.int .i64 0, .raw (.slice none 0 0)]]) (v := .a [.int .i64 a0_n.Nodes, .own 2 ((([] : List SArc)) ++ a0_n.Arcs).length]) [] 59 rfl rfl rfl rfl rfl (fun s2 => by refine EOp.eq (EOp.qd rfl rfl (q_build2 rfl rfl pl24 rfl)) ?_; rfl) ?_
            refine ⟨rfl, ⟨trivial, .inr rfl⟩, ?_⟩
            refine TTree.node 8 [] rfl ?_
            refine AllP.cons ?_ ?_
            · refine TStep.n (objs' := [.box [.int .i64 a0_n.Nodes, .vec a0_n.Arcs.length 3 (gL cSArc dSArc a0_n.Arcs)], .dead, .arr 50 3 ((([] : List SArc)) ++ a0_n.Arcs).length (gL cSArc dSArc ((([] : List SArc)) ++ a0_n.Arcs)), .box [.int .i64 a0_n.Nodes, .own 2 ((([] : List SArc)) ++ a0_n.Arcs).length]]) [] rfl rfl rfl rfl (fun s2 => by refine EOp.eq (e_store_box rfl rfl rfl rfl rfl ty24 rfl rfl rfl rfl) ?_; rfl) ?_
              refine ⟨rfl, ⟨trivial, .inr rfl⟩, ?_⟩
              exact TTree.leaf rfl (sub_gen [0, 3, 2] rfl rfl ⟨zc rfl rfl, zc rfl rfl, zc rfl rfl, zc rfl rfl, zc rfl rfl, zc rfl rfl, trivial⟩ ⟨⟨_, rfl, ⟨ii rfl rfl, ii rfl rfl, trivial⟩⟩, ⟨_, rfl, ⟨ii rfl rfl, ii rfl rfl, trivial⟩⟩, oa rfl, trivial⟩)
            exact AllP.nil
          exact AllP.nil
        exact AllP.nil
      refine AllP.cons ?_ ?_
      · refine TStep.d (objs' := [.box [.int .i64 a0_n.Nodes, .vec a0_n.Arcs.length 3 (gL cSArc dSArc a0_n.Arcs)], .arr 50 3 (([] : List SArc)).length (gL cSArc dSArc (([] : List SArc))), .box [.int .i64 0, .raw (.slice none 0 0)]]) (v := .c (.ptr 2 0)) [] 12 rfl rfl rfl rfl rfl (fun s2 => by refine EOp.eq (e_alloc rfl rfl rfl z24) ?_; rfl) ?_
        refine ⟨rfl, ⟨trivial, .inr rfl⟩, ?_⟩
        refine TTree.node 5 [] rfl ?_
        refine AllP.cons ?_ ?_
        · refine TStep.d (objs' := [.box [.int .i64 a0_n.Nodes, .vec a0_n.Arcs.length 3 (gL cSArc dSArc a0_n.Arcs)], .dead, .box [.int .i64 0, .raw (.slice none 0 0)], .arr 50 3 ((([] : List SArc)) ++ a0_n.Arcs).length (gL cSArc dSArc ((([] : List SArc)) ++ a0_n.Arcs))]) (v := .c (.own 3 ((([] : List SArc)) ++ a0_n.Arcs).length)) [] 58 rfl rfl rfl rfl rfl (fun s2 => by refine EOp.eq (e_appendL (c := cSArc) (d0 := dSArc) (l := ([] : List SArc)) (l2 := a0_n.Arcs) rfl rfl rfl rfl rfl rfl (.inl rfl) sl22 z50 rfl rfl oneSArc g19.1 g19.2) ?_; rfl) ?_
          refine ⟨rfl, ⟨trivial, .inr rfl⟩, ?_⟩
          refine TTree.node 6 [] rfl ?_
          refine AllP.cons ?_ ?_
          · refine TStep.d (objs' := [.box [.int .i64 a0_n.Nodes, .vec a0_n.Arcs.length 3 (gL cSArc dSArc a0_n.Arcs)], .dead, .box [.int .i64 0, .raw (.slice none 0 0)], .arr 50 3 ((([] : List SArc)) ++ a0_n.Arcs).length (gL cSArc dSArc ((([] : List SArc)) ++ a0_n.Arcs))]) (v := .a [.int .i64 a0_n.Nodes, .own 3 ((([] : List SArc)) ++ a0_n.Arcs).length]) [] 59 rfl rfl rfl rfl rfl (fun s2 => by refine EOp.eq (EOp.qd rfl rfl (q_build2 rfl rfl pl24 rfl)) ?_; rfl) ?_
            refine ⟨rfl, ⟨trivial, .inr rfl⟩, ?_⟩
            refine TTree.node 8 [] rfl ?_
            refine AllP.cons ?_ ?_
            · refine TStep.n (objs' := [.box [.int .i64 a0_n.Nodes, .vec a0_n.Arcs.length 3 (gL cSArc dSArc a0_n.Arcs)], .dead, .box [.int .i64 a0_n.Nodes, .own 3 ((([] : List SArc)) ++ a0_n.Arcs).length], .arr 50 3 ((([] : List SArc)) ++ a0_n.Arcs).length (gL cSArc dSArc ((([] : List SArc)) ++ a0_n.Arcs))]) [] rfl rfl rfl rfl (fun s2 => by refine EOp.eq (e_store_box rfl rfl rfl rfl rfl ty24 rfl rfl rfl rfl) ?_; rfl) ?_
              refine ⟨rfl, ⟨trivial, .inr rfl⟩, ?_⟩
              exact TTree.leaf rfl (sub_gen [0, 2, 3] rfl rfl ⟨zc rfl rfl, zc rfl rfl, zc rfl rfl, zc rfl rfl, zc rfl rfl, zc rfl rfl, trivial⟩ ⟨⟨_, rfl, ⟨ii rfl rfl, ii rfl rfl, trivial⟩⟩, ⟨_, rfl, ⟨ii rfl rfl, ii rfl rfl, trivial⟩⟩, oa rfl, trivial⟩)
            exact AllP.nil
          exact AllP.nil
        exact AllP.nil
      exact AllP.nil
    refine AllP.cons ?_ ?_
    · refine TStep.d (objs' := [.box [.int .i64 a0_n.Nodes, .vec a0_n.Arcs.length 3 (gL cSArc dSArc a0_n.Arcs)], .box [.int .i64 0, .raw (.slice none 0 0)]]) (v := .c (.ptr 1 0)) [] 12 rfl rfl rfl rfl rfl (fun s2 => by refine EOp.eq (e_alloc rfl rfl rfl z24) ?_; rfl) ?_
      refine ⟨rfl, ⟨trivial, .inr rfl⟩, ?_⟩
      refine TTree.node 2 [] rfl ?_
      refine AllP.cons ?_ ?_
      · refine TStep.d (objs' := [.box [.int .i64 a0_n.Nodes, .vec a0_n.Arcs.length 3 (gL cSArc dSArc a0_n.Arcs)], .box [.int .i64 0, .raw (.slice none 0 0)], .arr 50 3 (([] : List SArc)).length (gL cSArc dSArc (([] : List SArc)))]) (v := .c (.own 2 (([] : List SArc)).length)) [] 55 rfl rfl rfl rfl rfl (fun s2 => by refine EOp.eq (e_bslice0L (α := SArc) (c := cSArc) (d0 := dSArc) rfl rfl rfl rfl sl22) ?_; rfl) ?_
        refine ⟨rfl, ⟨trivial, .inr rfl⟩, ?_⟩
        refine TTree.node 5 [] rfl ?_
        refine AllP.cons ?_ ?_
        · refine TStep.d (objs' := [.box [.int .i64 a0_n.Nodes, .vec a0_n.Arcs.length 3 (gL cSArc dSArc a0_n.Arcs)], .box [.int .i64 0, .raw (.slice none 0 0)], .dead, .arr 50 3 ((([] : List SArc)) ++ a0_n.Arcs).length (gL cSArc dSArc ((([] : List SArc)) ++ a0_n.Arcs))]) (v := .c (.own 3 ((([] : List SArc)) ++ a0_n.Arcs).length)) [] 58 rfl rfl rfl rfl rfl (fun s2 => by refine EOp.eq (e_appendL (c := cSArc) (d0 := dSArc) (l := ([] : List SArc)) (l2 := a0_n.Arcs) rfl rfl rfl rfl rfl rfl (.inl rfl) sl22 z50 rfl rfl oneSArc g19.1 g19.2) ?_; rfl) ?_
          refine ⟨rfl, ⟨trivial, .inr rfl⟩, ?_⟩
          refine TTree.node 6 [] rfl ?_
          refine AllP.cons ?_ ?_
          · refine TStep.d (objs' := [.box [.int .i64 a0_n.Nodes, .vec a0_n.Arcs.length 3 (gL cSArc dSArc a0_n.Arcs)], .box [.int .i64 0, .raw (.slice none 0 0)], .dead, .arr 50 3 ((([] : List SArc)) ++ a0_n.Arcs).length (gL cSArc dSArc ((([] : List SArc)) ++ a0_n.Arcs))]) (v := .a [.int .i64 a0_n.Nodes, .own 3 ((([] : List SArc)) ++ a0_n.Arcs).length]) [] 59 rfl rfl rfl rfl rfl (fun s2 => by refine EOp.eq (EOp.qd rfl rfl (q_build2 rfl rfl pl24 rfl)) ?_; rfl) ?_
            refine ⟨rfl, ⟨trivial, .inr rfl⟩, ?_⟩
            refine TTree.node 8 [] rfl ?_
            refine AllP.cons ?_ ?_
            · refine TStep.n (objs' := [.box [.int .i64 a0_n.Nodes, .vec a0_n.Arcs.length 3 (gL cSArc dSArc a0_n.Arcs)], .box [.int .i64 a0_n.Nodes, .own 3 ((([] : List SArc)) ++ a0_n.Arcs).length], .dead, .arr 50 3 ((([] : List SArc)) ++ a0_n.Arcs).length (gL cSArc dSArc ((([] : List SArc)) ++ a0_n.Arcs))]) [] rfl rfl rfl rfl (fun s2 => by refine EOp.eq (e_store_box rfl rfl rfl rfl rfl ty24 rfl rfl rfl rfl) ?_; rfl) ?_
              refine ⟨rfl, ⟨trivial, .inr rfl⟩, ?_⟩
              exact TTree.leaf rfl (sub_gen [0, 1, 3] rfl rfl ⟨zc rfl rfl, zc rfl rfl, zc rfl rfl, zc rfl rfl, zc rfl rfl, zc rfl rfl, trivial⟩ ⟨⟨_, rfl, ⟨ii rfl rfl, ii rfl rfl, trivial⟩⟩, ⟨_, rfl, ⟨ii rfl rfl, ii rfl rfl, trivial⟩⟩, oa rfl, trivial⟩)
            exact AllP.nil
          exact AllP.nil
        exact AllP.nil
      exact AllP.nil
    exact AllP.nil
  refine SCode.seq ?_
  obtain ⟨g20, h⟩ := guard_out h
  obtain ⟨g21, h⟩ := guard_out h
  refine SCode.draw (s' := [(73, .c (.aptr 2 3 ((Int.tmod (IntKind.wrap .i64 a3_at) (((a0_n.Arcs).length : Int))).toNat) 2)), (72, .c (.aptr 2 3 ((Int.tmod (IntKind.wrap .i64 a3_at) (((a0_n.Arcs).length : Int))).toNat) 0)), (71, .c (.int .i64 (IntKind.wrap .i64 ((((([] : List SArc)) ++ a0_n.Arcs).getD ((Int.tmod (IntKind.wrap .i64 a3_at) (((a0_n.Arcs).length : Int))).toNat) dSArc).Cap + IntKind.wrap .i64 a4_by)))), (70, .c (.int .i64 (IntKind.wrap .i64 a4_by))), (69, .c (.int .u32 a4_by)), (68, .c (.int .i64 ((((([] : List SArc)) ++ a0_n.Arcs).getD ((Int.tmod (IntKind.wrap .i64 a3_at) (((a0_n.Arcs).length : Int))).toNat) dSArc).Cap))), (67, .c (.aptr 2 3 ((Int.tmod (IntKind.wrap .i64 a3_at) (((a0_n.Arcs).length : Int))).toNat) 2)), (66, .c (.aptr 2 3 ((Int.tmod (IntKind.wrap .i64 a3_at) (((a0_n.Arcs).length : Int))).toNat) 0)), (65, .c (.int .i64 (Int.tmod (IntKind.wrap .i64 a3_at) (((a0_n.Arcs).length : Int))))), (64, .c (.own 2 ((([] : List SArc)) ++ a0_n.Arcs).length)), (63, .c (.ptr 1 1)), (62, .c (.int .i64 (Int.tmod (IntKind.wrap .i64 a3_at) (((a0_n.Arcs).length : Int))))), (61, .c (.own 2 ((([] : List SArc)) ++ a0_n.Arcs).length)), (60, .c (.ptr 1 1)), (1, .c (.int .i64 a1_source)), (2, .c (.int .i64 a2_sink)), (4, .c (.int .u32 a4_by)), (5, .c (.ptr 0 0)), (11, .c (.int .i64 (Int.tmod (IntKind.wrap .i64 a3_at) (((a0_n.Arcs).length : Int))))), (12, .c (.ptr 1 0))]) mixed [[], [0], [], [], [3], [], [3, 4, 5], [3, 4, 5, 6], [3, 4, 5, 6, 7], [], [9], [3, 4, 5, 6, 7, 8, 9, 10], [0, 1, 2, 3, 4, 5, 6, 7, 8, 9, 10, 11], [0, 1, 2, 3, 4, 5, 6, 7, 8, 9, 10, 11, 12], [0, 1, 2, 3, 4, 5, 6, 7, 8, 9, 10, 11, 12, 13]] 14 1 rfl rfl ?_ ?_
  · refine QChain.run rfl (.plain rfl) rfl (q_field_ptr rfl rfl fd24_1) ?_
    refine QChain.run rfl (.plain rfl) rfl (q_load_ptr rfl rfl rfl rfl ty22) ?_
    refine QChain.run rfl (.plain rfl) rfl (q_move rfl rfl) ?_
    refine QChain.run rfl (.plain rfl) rfl (q_field_ptr rfl rfl fd24_1) ?_
    refine QChain.run rfl (.plain rfl) rfl (q_load_ptr rfl rfl rfl rfl ty22) ?_
    refine QChain.run rfl (.plain rfl) rfl (q_move rfl rfl) ?_
    refine QChain.run rfl (.plain rfl) rfl (q_index_own rfl rfl rfl sl22 g20.1 g20.2) ?_
    refine QChain.run rfl (.plain rfl) rfl (q_field_aptr rfl rfl fd50_2) ?_
    refine QChain.run rfl (.plain rfl) rfl (q_load_aptr rfl rfl rfl (toNat_lt g20) rfl ty3) ?_
    refine QChain.run rfl (.plain rfl) rfl (q_move rfl rfl) ?_
    refine QChain.run rfl (.plain rfl) rfl (q_convert rfl rfl un51 un3) ?_
    refine QChain.run rfl (.plain rfl) rfl (q_add rfl rfl rfl) ?_
    refine QChain.run rfl (.plain rfl) rfl (q_index_own rfl rfl rfl sl22 g21.1 g21.2) ?_
    refine QChain.run rfl (.plain rfl) rfl (q_field_aptr rfl rfl fd50_2) ?_
    exact QChain.nil _ _
  refine (show SOps _ _ _ [14] _ _ from ?_)
  refine SOps.e rfl (.plain rfl) (e_storeL (SArc.mk ((((([] : List SArc)) ++ a0_n.Arcs).getD ((Int.tmod (IntKind.wrap .i64 a3_at) (((a0_n.Arcs).length : Int))).toNat) dSArc).From) ((((([] : List SArc)) ++ a0_n.Arcs).getD ((Int.tmod (IntKind.wrap .i64 a3_at) (((a0_n.Arcs).length : Int))).toNat) dSArc).To) (IntKind.wrap .i64 ((((([] : List SArc)) ++ a0_n.Arcs).getD ((Int.tmod (IntKind.wrap .i64 a3_at) (((a0_n.Arcs).length : Int))).toNat) dSArc).Cap + IntKind.wrap .i64 a4_by))) rfl rfl rfl rfl rfl (toNat_lt g21) ty3 rfl rfl rfl rfl rfl rfl) ?_
  refine SOps.sub (st' := ⟨[(1, .c (.int .i64 a1_source)), (2, .c (.int .i64 a2_sink)), (4, .c (.int .u32 a4_by)), (5, .c (.ptr 0 0)), (12, .c (.ptr 1 0))], [.box [.int .i64 a0_n.Nodes, .vec a0_n.Arcs.length 3 (gL cSArc dSArc a0_n.Arcs)], .box [.int .i64 a0_n.Nodes, .own 2 (((([] : List SArc)) ++ a0_n.Arcs).set ((Int.tmod (IntKind.wrap .i64 a3_at) (((a0_n.Arcs).length : Int))).toNat) (SArc.mk ((((([] : List SArc)) ++ a0_n.Arcs).getD ((Int.tmod (IntKind.wrap .i64 a3_at) (((a0_n.Arcs).length : Int))).toNat) dSArc).From) ((((([] : List SArc)) ++ a0_n.Arcs).getD ((Int.tmod (IntKind.wrap .i64 a3_at) (((a0_n.Arcs).length : Int))).toNat) dSArc).To) (IntKind.wrap .i64 ((((([] : List SArc)) ++ a0_n.Arcs).getD ((Int.tmod (IntKind.wrap .i64 a3_at) (((a0_n.Arcs).length : Int))).toNat) dSArc).Cap + IntKind.wrap .i64 a4_by)))).length], .arr 50 3 (((([] : List SArc)) ++ a0_n.Arcs).set ((Int.tmod (IntKind.wrap .i64 a3_at) (((a0_n.Arcs).length : Int))).toNat) (SArc.mk ((((([] : List SArc)) ++ a0_n.Arcs).getD ((Int.tmod (IntKind.wrap .i64 a3_at) (((a0_n.Arcs).length : Int))).toNat) dSArc).From) ((((([] : List SArc)) ++ a0_n.Arcs).getD ((Int.tmod (IntKind.wrap .i64 a3_at) (((a0_n.Arcs).length : Int))).toNat) dSArc).To) (IntKind.wrap .i64 ((((([] : List SArc)) ++ a0_n.Arcs).getD ((Int.tmod (IntKind.wrap .i64 a3_at) (((a0_n.Arcs).length : Int))).toNat) dSArc).Cap + IntKind.wrap .i64 a4_by)))).length (gL cSArc dSArc (((([] : List SArc)) ++ a0_n.Arcs).set ((Int.tmod (IntKind.wrap .i64 a3_at) (((a0_n.Arcs).length : Int))).toNat) (SArc.mk ((((([] : List SArc)) ++ a0_n.Arcs).getD ((Int.tmod (IntKind.wrap .i64 a3_at) (((a0_n.Arcs).length : Int))).toNat) dSArc).From) ((((([] : List SArc)) ++ a0_n.Arcs).getD ((Int.tmod (IntKind.wrap .i64 a3_at) (((a0_n.Arcs).length : Int))).toNat) dSArc).To) (IntKind.wrap .i64 ((((([] : List SArc)) ++ a0_n.Arcs).getD ((Int.tmod (IntKind.wrap .i64 a3_at) (((a0_n.Arcs).length : Int))).toNat) dSArc).Cap + IntKind.wrap .i64 a4_by)))))]⟩) (sub_gen [0, 1, 2] rfl rfl ⟨zc rfl rfl, zc rfl rfl, zc rfl rfl, zc rfl rfl, zc rfl rfl, trivial⟩ ⟨⟨_, rfl, ⟨ii rfl rfl, ii rfl rfl, trivial⟩⟩, ⟨_, rfl, ⟨ii rfl rfl, .inl ⟨rfl, congrArg (Cell.own 2) (List.length_set : (((([] : List SArc)) ++ a0_n.Arcs).set ((Int.tmod (IntKind.wrap .i64 a3_at) (((a0_n.Arcs).length : Int))).toNat) (SArc.mk ((((([] : List SArc)) ++ a0_n.Arcs).getD ((Int.tmod (IntKind.wrap .i64 a3_at) (((a0_n.Arcs).length : Int))).toNat) dSArc).From) ((((([] : List SArc)) ++ a0_n.Arcs).getD ((Int.tmod (IntKind.wrap .i64 a3_at) (((a0_n.Arcs).length : Int))).toNat) dSArc).To) (IntKind.wrap .i64 ((((([] : List SArc)) ++ a0_n.Arcs).getD ((Int.tmod (IntKind.wrap .i64 a3_at) (((a0_n.Arcs).length : Int))).toNat) dSArc).Cap + IntKind.wrap .i64 a4_by)))).length = ((([] : List SArc)) ++ a0_n.Arcs).length).symm⟩, trivial⟩⟩, oa rfl, trivial⟩) ?_
  refine SOps.nil ?_
  refine SCode.seq ?_
  obtain ⟨c_22, g23, h⟩ := bind_out h
  try dsimp only at h
  refine SCode.region (show SOps _ _ _ [0, 1, 2, 3, 4, 5, 6, 7, 8, 9, 10] _ _ from ?_)
  refine SOps.q rfl (.plain rfl) rfl (q_load_ptr_all rfl rfl rfl rfl rfl ty24) ?_
  refine SOps.q rfl (.plain rfl) rfl (q_move rfl rfl) ?_
  refine SOps.q rfl (.plain rfl) rfl (q_move rfl rfl) ?_
  refine SOps.q rfl (.plain rfl) rfl (q_call (flow_Max_ok F a0_n a1_source a2_sink c_22 g23) [] rfl fn15 ⟨⟨rfl, rfl⟩, ⟨_, rfl, .inl ⟨rfl, rfl⟩⟩, ⟨_, rfl, .inl ⟨rfl, rfl⟩⟩, trivial⟩ (.inl rfl)) ?_
  refine SOps.q rfl (.plain rfl) rfl (q_move rfl rfl) ?_
  refine SOps.q rfl (.plain rfl) rfl (q_extract rfl rfl rfl) ?_
  refine SOps.q rfl (.plain rfl) rfl (q_extract rfl rfl rfl) ?_
  refine SOps.q rfl (.plain rfl) rfl (q_extract rfl rfl rfl) ?_
  refine SOps.q rfl (.plain rfl) rfl (q_assign rfl rfl) ?_
  refine SOps.q rfl (.plain rfl) rfl (q_assign rfl rfl) ?_
  refine SOps.q rfl (.plain rfl) rfl (q_assign rfl rfl) ?_
  refine SOps.sub (st' := ⟨[(1, .c (.int .i64 a1_source)), (2, .c (.int .i64 a2_sink)), (4, .c (.int .u32 a4_by)), (12, .c (.ptr 0 0)), (13, .c (.int .i64 c_22.1)), (15, .c (.int .i64 c_22.2.2))], [.box [.int .i64 a0_n.Nodes, .own 1 (((([] : List SArc)) ++ a0_n.Arcs).set ((Int.tmod (IntKind.wrap .i64 a3_at) (((a0_n.Arcs).length : Int))).toNat) (SArc.mk ((((([] : List SArc)) ++ a0_n.Arcs).getD ((Int.tmod (IntKind.wrap .i64 a3_at) (((a0_n.Arcs).length : Int))).toNat) dSArc).From) ((((([] : List SArc)) ++ a0_n.Arcs).getD ((Int.tmod (IntKind.wrap .i64 a3_at) (((a0_n.Arcs).length : Int))).toNat) dSArc).To) (IntKind.wrap .i64 ((((([] : List SArc)) ++ a0_n.Arcs).getD ((Int.tmod (IntKind.wrap .i64 a3_at) (((a0_n.Arcs).length : Int))).toNat) dSArc).Cap + IntKind.wrap .i64 a4_by)))).length], .arr 50 3 (((([] : List SArc)) ++ a0_n.Arcs).set ((Int.tmod (IntKind.wrap .i64 a3_at) (((a0_n.Arcs).length : Int))).toNat) (SArc.mk ((((([] : List SArc)) ++ a0_n.Arcs).getD ((Int.tmod (IntKind.wrap .i64 a3_at) (((a0_n.Arcs).length : Int))).toNat) dSArc).From) ((((([] : List SArc)) ++ a0_n.Arcs).getD ((Int.tmod (IntKind.wrap .i64 a3_at) (((a0_n.Arcs).length : Int))).toNat) dSArc).To) (IntKind.wrap .i64 ((((([] : List SArc)) ++ a0_n.Arcs).getD ((Int.tmod (IntKind.wrap .i64 a3_at) (((a0_n.Arcs).length : Int))).toNat) dSArc).Cap + IntKind.wrap .i64 a4_by)))).length (gL cSArc dSArc (((([] : List SArc)) ++ a0_n.Arcs).set ((Int.tmod (IntKind.wrap .i64 a3_at) (((a0_n.Arcs).length : Int))).toNat) (SArc.mk ((((([] : List SArc)) ++ a0_n.Arcs).getD ((Int.tmod (IntKind.wrap .i64 a3_at) (((a0_n.Arcs).length : Int))).toNat) dSArc).From) ((((([] : List SArc)) ++ a0_n.Arcs).getD ((Int.tmod (IntKind.wrap .i64 a3_at) (((a0_n.Arcs).length : Int))).toNat) dSArc).To) (IntKind.wrap .i64 ((((([] : List SArc)) ++ a0_n.Arcs).getD ((Int.tmod (IntKind.wrap .i64 a3_at) (((a0_n.Arcs).length : Int))).toNat) dSArc).Cap + IntKind.wrap .i64 a4_by)))))]⟩) (sub_gen [1, 2] rfl rfl ⟨zc rfl rfl, zc rfl rfl, zc rfl rfl, zc rfl rfl, zc rfl rfl, zc rfl rfl, trivial⟩ ⟨⟨_, rfl, ⟨ii rfl rfl, ii rfl rfl, trivial⟩⟩, oa rfl, trivial⟩) ?_
  refine SOps.nil ?_
  refine SCode.seq ?_
  refine SCode.sub (st' := ⟨[(1, .c (.int .i64 a1_source)), (2, .c (.int .i64 a2_sink)), (4, .c (.int .u32 a4_by)), (12, .c (.ptr 0 0)), (13, .c (.int .i64 c_22.1)), (15, .c (.int .i64 c_22.2.2))], [.box [.int .i64 a0_n.Nodes, .vec (((([] : List SArc)) ++ a0_n.Arcs).set ((Int.tmod (IntKind.wrap .i64 a3_at) (((a0_n.Arcs).length : Int))).toNat) (SArc.mk ((((([] : List SArc)) ++ a0_n.Arcs).getD ((Int.tmod (IntKind.wrap .i64 a3_at) (((a0_n.Arcs).length : Int))).toNat) dSArc).From) ((((([] : List SArc)) ++ a0_n.Arcs).getD ((Int.tmod (IntKind.wrap .i64 a3_at) (((a0_n.Arcs).length : Int))).toNat) dSArc).To) (IntKind.wrap .i64 ((((([] : List SArc)) ++ a0_n.Arcs).getD ((Int.tmod (IntKind.wrap .i64 a3_at) (((a0_n.Arcs).length : Int))).toNat) dSArc).Cap + IntKind.wrap .i64 a4_by)))).length 3 (gL cSArc dSArc (((([] : List SArc)) ++ a0_n.Arcs).set ((Int.tmod (IntKind.wrap .i64 a3_at) (((a0_n.Arcs).length : Int))).toNat) (SArc.mk ((((([] : List SArc)) ++ a0_n.Arcs).getD ((Int.tmod (IntKind.wrap .i64 a3_at) (((a0_n.Arcs).length : Int))).toNat) dSArc).From) ((((([] : List SArc)) ++ a0_n.Arcs).getD ((Int.tmod (IntKind.wrap .i64 a3_at) (((a0_n.Arcs).length : Int))).toNat) dSArc).To) (IntKind.wrap .i64 ((((([] : List SArc)) ++ a0_n.Arcs).getD ((Int.tmod (IntKind.wrap .i64 a3_at) (((a0_n.Arcs).length : Int))).toNat) dSArc).Cap + IntKind.wrap .i64 a4_by)))))]]⟩) (sub_gen [0] rfl rfl ⟨zc rfl rfl, zc rfl rfl, zc rfl rfl, zc rfl rfl, zc rfl rfl, zc rfl rfl, trivial⟩ ⟨⟨_, rfl, ⟨ii rfl rfl, .inr (.inl ⟨_, _, _, _, _, _, _, rfl, rfl, rfl, Nat.le_refl _, fun _ _ _ _ => rfl, by decide⟩), trivial⟩⟩, trivial⟩) ?_
  obtain ⟨c_24, g25, h⟩ := bind_out h
  try dsimp only at h
  refine SCode.region (show SOps _ _ _ [0, 1, 2, 3, 4, 5, 6, 7, 8, 9, 10] _ _ from ?_)
  refine SOps.q rfl (.plain rfl) rfl (q_load_ptr_all rfl rfl rfl rfl rfl ty24) ?_
  refine SOps.q rfl (.plain rfl) rfl (q_move rfl rfl) ?_
  refine SOps.q rfl (.plain rfl) rfl (q_move rfl rfl) ?_
  refine SOps.q rfl (.plain rfl) rfl (q_call (flow_Max_ok F (SNet.mk a0_n.Nodes (((([] : List SArc)) ++ a0_n.Arcs).set ((Int.tmod (IntKind.wrap .i64 a3_at) (((a0_n.Arcs).length : Int))).toNat) (SArc.mk ((((([] : List SArc)) ++ a0_n.Arcs).getD ((Int.tmod (IntKind.wrap .i64 a3_at) (((a0_n.Arcs).length : Int))).toNat) dSArc).From) ((((([] : List SArc)) ++ a0_n.Arcs).getD ((Int.tmod (IntKind.wrap .i64 a3_at) (((a0_n.Arcs).length : Int))).toNat) dSArc).To) (IntKind.wrap .i64 ((((([] : List SArc)) ++ a0_n.Arcs).getD ((Int.tmod (IntKind.wrap .i64 a3_at) (((a0_n.Arcs).length : Int))).toNat) dSArc).Cap + IntKind.wrap .i64 a4_by))))) a1_source a2_sink c_24 g25) [] rfl fn15 ⟨⟨rfl, rfl⟩, ⟨_, rfl, .inl ⟨rfl, rfl⟩⟩, ⟨_, rfl, .inl ⟨rfl, rfl⟩⟩, trivial⟩ (.inl rfl)) ?_
  refine SOps.q rfl (.plain rfl) rfl (q_move rfl rfl) ?_
  refine SOps.q rfl (.plain rfl) rfl (q_extract rfl rfl rfl) ?_
  refine SOps.q rfl (.plain rfl) rfl (q_extract rfl rfl rfl) ?_
  refine SOps.q rfl (.plain rfl) rfl (q_extract rfl rfl rfl) ?_
  refine SOps.q rfl (.plain rfl) rfl (q_assign rfl rfl) ?_
  refine SOps.q rfl (.plain rfl) rfl (q_assign rfl rfl) ?_
  refine SOps.q rfl (.plain rfl) rfl (q_assign rfl rfl) ?_
  refine SOps.sub (st' := ⟨[(4, .c (.int .u32 a4_by)), (13, .c (.int .i64 c_22.1)), (15, .c (.int .i64 c_22.2.2)), (16, .c (.int .i64 c_24.1)), (18, .c (.int .i64 c_24.2.2))], []⟩) (sub_gen [] rfl rfl ⟨zc rfl rfl, zc rfl rfl, zc rfl rfl, zc rfl rfl, zc rfl rfl, trivial⟩ trivial) ?_
  refine SOps.nil ?_
  refine SCode.seq ?_
  rcases cond_out h with ⟨g26, h⟩ | ⟨g26, h⟩
  · rcases cond_out h with ⟨g27, h⟩ | ⟨g27, h⟩
    · rcases cond_out h with ⟨g28, h⟩ | ⟨g28, h⟩
      · rcases cond_out h with ⟨g29, h⟩ | ⟨g29, h⟩
        · obtain ⟨c_30, g31, h⟩ := bind_out h
          try dsimp only at h
          refine SCode.region (show SOps _ _ _ [0, 1, 2, 3, 4, 5, 6, 7, 8, 9, 10, 11, 12, 13, 14, 15, 16, 17, 18, 19, 20, 21, 22] _ _ from ?_)
          refine SOps.q rfl (.plain rfl) rfl (q_move rfl rfl) ?_
          refine SOps.q rfl (.plain rfl) rfl (q_eql rfl rfl rfl) ?_
          refine SOps.q rfl (.plain rfl) rfl (q_move rfl rfl) ?_
          refine SOps.q rfl (.guard 2 92 true rfl rfl (gT g26)) rfl (q_move rfl rfl) ?_
          refine SOps.q rfl (.guard 2 92 true rfl rfl (gT g26)) rfl (q_eql rfl rfl rfl) ?_
          refine SOps.q rfl (.plain rfl) rfl (q_pick_t rfl rfl g26 rfl) ?_
          refine SOps.q rfl (.plain rfl) rfl (q_move rfl rfl) ?_
          refine SOps.q rfl (.guard 6 96 true rfl rfl (gT g27)) rfl (q_move rfl rfl) ?_
          refine SOps.q rfl (.guard 6 96 true rfl rfl (gT g27)) rfl (q_move rfl rfl) ?_
          refine SOps.q rfl (.guard 6 96 true rfl rfl (gT g27)) rfl (q_geq rfl rfl rfl) ?_
          refine SOps.q rfl (.plain rfl) rfl (q_pick_t rfl rfl g27 rfl) ?_
          refine SOps.q rfl (.plain rfl) rfl (q_move rfl rfl) ?_
          refine SOps.q rfl (.guard 11 101 true rfl rfl (gT g28)) rfl (q_move rfl rfl) ?_
          refine SOps.q rfl (.guard 11 101 true rfl rfl (gT g28)) rfl (q_move rfl rfl) ?_
          refine SOps.q rfl (.guard 11 101 true rfl rfl (gT g28)) rfl (q_sub rfl rfl rfl) ?_
          refine SOps.q rfl (.guard 11 101 true rfl rfl (gT g28)) rfl (q_move rfl rfl) ?_
          refine SOps.q rfl (.guard 11 101 true rfl rfl (gT g28)) rfl (q_convert rfl rfl un51 un3) ?_
          refine SOps.q rfl (.guard 11 101 true rfl rfl (gT g28)) rfl (q_leq rfl rfl rfl) ?_
          refine SOps.q rfl (.plain rfl) rfl (q_pick_t rfl rfl g28 rfl) ?_
          refine SOps.q rfl (.plain rfl) rfl (q_move rfl rfl) ?_
          refine SOps.q rfl (.guard 19 109 true rfl rfl (gT g29)) rfl (q_call (chargenetlaw09_awake_ok F  c_30 g31) [] rfl fn11 trivial (.inl rfl)) ?_
          refine SOps.q rfl (.plain rfl) rfl (q_pick_t rfl rfl g29 rfl) ?_
          refine SOps.q rfl (.plain rfl) rfl (q_assign rfl rfl) ?_
          refine SOps.sub (st' := ⟨[(10, .c (.bool c_30))], []⟩) (sub_gen [] rfl rfl ⟨zc rfl rfl, trivial⟩ trivial) ?_
          refine SOps.nil ?_
          refine SCode.ret ?_
          obtain rfl := Option.some.inj h
          exact ⟨⟨[(10, .c (.bool c_30))], []⟩, _, sub_gen [] rfl rfl ⟨zc rfl rfl, trivial⟩ trivial, resA1 (v := .c (.bool c_30)) rfl rfl, rfl⟩
        refine SCode.region (show SOps _ _ _ [0, 1, 2, 3, 4, 5, 6, 7, 8, 9, 10, 11, 12, 13, 14, 15, 16, 17, 18, 19, 20, 21, 22] _ _ from ?_)
        refine SOps.q rfl (.plain rfl) rfl (q_move rfl rfl) ?_
        refine SOps.q rfl (.plain rfl) rfl (q_eql rfl rfl rfl) ?_
        refine SOps.q rfl (.plain rfl) rfl (q_move rfl rfl) ?_
        refine SOps.q rfl (.guard 2 92 true rfl rfl (gT g26)) rfl (q_move rfl rfl) ?_
        refine SOps.q rfl (.guard 2 92 true rfl rfl (gT g26)) rfl (q_eql rfl rfl rfl) ?_
        refine SOps.q rfl (.plain rfl) rfl (q_pick_t rfl rfl g26 rfl) ?_
        refine SOps.q rfl (.plain rfl) rfl (q_move rfl rfl) ?_
        refine SOps.q rfl (.guard 6 96 true rfl rfl (gT g27)) rfl (q_move rfl rfl) ?_
        refine SOps.q rfl (.guard 6 96 true rfl rfl (gT g27)) rfl (q_move rfl rfl) ?_
        refine SOps.q rfl (.guard 6 96 true rfl rfl (gT g27)) rfl (q_geq rfl rfl rfl) ?_
        refine SOps.q rfl (.plain rfl) rfl (q_pick_t rfl rfl g27 rfl) ?_
        refine SOps.q rfl (.plain rfl) rfl (q_move rfl rfl) ?_
        refine SOps.q rfl (.guard 11 101 true rfl rfl (gT g28)) rfl (q_move rfl rfl) ?_
        refine SOps.q rfl (.guard 11 101 true rfl rfl (gT g28)) rfl (q_move rfl rfl) ?_
        refine SOps.q rfl (.guard 11 101 true rfl rfl (gT g28)) rfl (q_sub rfl rfl rfl) ?_
        refine SOps.q rfl (.guard 11 101 true rfl rfl (gT g28)) rfl (q_move rfl rfl) ?_
        refine SOps.q rfl (.guard 11 101 true rfl rfl (gT g28)) rfl (q_convert rfl rfl un51 un3) ?_
        refine SOps.q rfl (.guard 11 101 true rfl rfl (gT g28)) rfl (q_leq rfl rfl rfl) ?_
        refine SOps.q rfl (.plain rfl) rfl (q_pick_t rfl rfl g28 rfl) ?_
        refine SOps.q rfl (.plain rfl) rfl (q_move rfl rfl) ?_
        refine SOps.skip rfl 19 109 true rfl rfl (.inl (gF g29)) rfl ?_
        refine SOps.q rfl (.plain rfl) rfl (q_pick_f rfl rfl g29 rfl) ?_
        refine SOps.q rfl (.plain rfl) rfl (q_assign rfl rfl) ?_
        refine SOps.sub (st' := ⟨[(10, .c (.bool false))], []⟩) (sub_gen [] rfl rfl ⟨zc rfl rfl, trivial⟩ trivial) ?_
        refine SOps.nil ?_
        refine SCode.ret ?_
        obtain rfl := Option.some.inj h
        exact ⟨⟨[(10, .c (.bool false))], []⟩, _, sub_gen [] rfl rfl ⟨zc rfl rfl, trivial⟩ trivial, resA1 (v := .c (.bool false)) rfl rfl, rfl⟩
      refine SCode.region (show SOps _ _ _ [0, 1, 2, 3, 4, 5, 6, 7, 8, 9, 10, 11, 12, 13, 14, 15, 16, 17, 18, 19, 20, 21, 22] _ _ from ?_)
      refine SOps.q rfl (.plain rfl) rfl (q_move rfl rfl) ?_
      refine SOps.q rfl (.plain rfl) rfl (q_eql rfl rfl rfl) ?_
      refine SOps.q rfl (.plain rfl) rfl (q_move rfl rfl) ?_
      refine SOps.q rfl (.guard 2 92 true rfl rfl (gT g26)) rfl (q_move rfl rfl) ?_
      refine SOps.q rfl (.guard 2 92 true rfl rfl (gT g26)) rfl (q_eql rfl rfl rfl) ?_
      refine SOps.q rfl (.plain rfl) rfl (q_pick_t rfl rfl g26 rfl) ?_
      refine SOps.q rfl (.plain rfl) rfl (q_move rfl rfl) ?_
      refine SOps.q rfl (.guard 6 96 true rfl rfl (gT g27)) rfl (q_move rfl rfl) ?_
      refine SOps.q rfl (.guard 6 96 true rfl rfl (gT g27)) rfl (q_move rfl rfl) ?_
      refine SOps.q rfl (.guard 6 96 true rfl rfl (gT g27)) rfl (q_geq rfl rfl rfl) ?_
      refine SOps.q rfl (.plain rfl) rfl (q_pick_t rfl rfl g27 rfl) ?_
      refine SOps.q rfl (.plain rfl) rfl (q_move rfl rfl) ?_
      refine SOps.skip rfl 11 101 true rfl rfl (.inl (gF g28)) rfl ?_
      refine SOps.skip rfl 11 101 true rfl rfl (.inl (gF g28)) rfl ?_
      refine SOps.skip rfl 11 101 true rfl rfl (.inl (gF g28)) rfl ?_
      refine SOps.skip rfl 11 101 true rfl rfl (.inl (gF g28)) rfl ?_
      refine SOps.skip rfl 11 101 true rfl rfl (.inl (gF g28)) rfl ?_
      refine SOps.skip rfl 11 101 true rfl rfl (.inl (gF g28)) rfl ?_
      refine SOps.q rfl (.plain rfl) rfl (q_pick_f rfl rfl g28 rfl) ?_
      refine SOps.q rfl (.plain rfl) rfl (q_move rfl rfl) ?_
      refine SOps.skip rfl 19 109 true rfl rfl (.inl rfl) rfl ?_
      refine SOps.q rfl (.plain rfl) rfl (q_pick_f rfl rfl rfl rfl) ?_
      refine SOps.q rfl (.plain rfl) rfl (q_assign rfl rfl) ?_
      refine SOps.sub (st' := ⟨[(10, .c (.bool false))], []⟩) (sub_gen [] rfl rfl ⟨zc rfl rfl, trivial⟩ trivial) ?_
      refine SOps.nil ?_
      refine SCode.ret ?_
      obtain rfl := Option.some.inj h
      exact ⟨⟨[(10, .c (.bool false))], []⟩, _, sub_gen [] rfl rfl ⟨zc rfl rfl, trivial⟩ trivial, resA1 (v := .c (.bool false)) rfl rfl, rfl⟩
    refine SCode.region (show SOps _ _ _ [0, 1, 2, 3, 4, 5, 6, 7, 8, 9, 10, 11, 12, 13, 14, 15, 16, 17, 18, 19, 20, 21, 22] _ _ from ?_)
    refine SOps.q rfl (.plain rfl) rfl (q_move rfl rfl) ?_
    refine SOps.q rfl (.plain rfl) rfl (q_eql rfl rfl rfl) ?_
    refine SOps.q rfl (.plain rfl) rfl (q_move rfl rfl) ?_
    refine SOps.q rfl (.guard 2 92 true rfl rfl (gT g26)) rfl (q_move rfl rfl) ?_
    refine SOps.q rfl (.guard 2 92 true rfl rfl (gT g26)) rfl (q_eql rfl rfl rfl) ?_
    refine SOps.q rfl (.plain rfl) rfl (q_pick_t rfl rfl g26 rfl) ?_
    refine SOps.q rfl (.plain rfl) rfl (q_move rfl rfl) ?_
    refine SOps.skip rfl 6 96 true rfl rfl (.inl (gF g27)) rfl ?_
    refine SOps.skip rfl 6 96 true rfl rfl (.inl (gF g27)) rfl ?_
    refine SOps.skip rfl 6 96 true rfl rfl (.inl (gF g27)) rfl ?_
    refine SOps.q rfl (.plain rfl) rfl (q_pick_f rfl rfl g27 rfl) ?_
    refine SOps.q rfl (.plain rfl) rfl (q_move rfl rfl) ?_
    refine SOps.skip rfl 11 101 true rfl rfl (.inl rfl) rfl ?_
    refine SOps.skip rfl 11 101 true rfl rfl (.inl rfl) rfl ?_
    refine SOps.skip rfl 11 101 true rfl rfl (.inl rfl) rfl ?_
    refine SOps.skip rfl 11 101 true rfl rfl (.inl rfl) rfl ?_
    refine SOps.skip rfl 11 101 true rfl rfl (.inl rfl) rfl ?_
    refine SOps.skip rfl 11 101 true rfl rfl (.inl rfl) rfl ?_
    refine SOps.q rfl (.plain rfl) rfl (q_pick_f rfl rfl rfl rfl) ?_
    refine SOps.q rfl (.plain rfl) rfl (q_move rfl rfl) ?_
    refine SOps.skip rfl 19 109 true rfl rfl (.inl rfl) rfl ?_
    refine SOps.q rfl (.plain rfl) rfl (q_pick_f rfl rfl rfl rfl) ?_
    refine SOps.q rfl (.plain rfl) rfl (q_assign rfl rfl) ?_
    refine SOps.sub (st' := ⟨[(10, .c (.bool false))], []⟩) (sub_gen [] rfl rfl ⟨zc rfl rfl, trivial⟩ trivial) ?_
    refine SOps.nil ?_
    refine SCode.ret ?_
    obtain rfl := Option.some.inj h
    exact ⟨⟨[(10, .c (.bool false))], []⟩, _, sub_gen [] rfl rfl ⟨zc rfl rfl, trivial⟩ trivial, resA1 (v := .c (.bool false)) rfl rfl, rfl⟩
  refine SCode.region (show SOps _ _ _ [0, 1, 2, 3, 4, 5, 6, 7, 8, 9, 10, 11, 12, 13, 14, 15, 16, 17, 18, 19, 20, 21, 22] _ _ from ?_)
  refine SOps.q rfl (.plain rfl) rfl (q_move rfl rfl) ?_
  refine SOps.q rfl (.plain rfl) rfl (q_eql rfl rfl rfl) ?_
  refine SOps.q rfl (.plain rfl) rfl (q_move rfl rfl) ?_
  refine SOps.skip rfl 2 92 true rfl rfl (.inl (gF g26)) rfl ?_
  refine SOps.skip rfl 2 92 true rfl rfl (.inl (gF g26)) rfl ?_
  refine SOps.q rfl (.plain rfl) rfl (q_pick_f rfl rfl g26 rfl) ?_
  refine SOps.q rfl (.plain rfl) rfl (q_move rfl rfl) ?_
  refine SOps.skip rfl 6 96 true rfl rfl (.inl rfl) rfl ?_
  refine SOps.skip rfl 6 96 true rfl rfl (.inl rfl) rfl ?_
  refine SOps.skip rfl 6 96 true rfl rfl (.inl rfl) rfl ?_
  refine SOps.q rfl (.plain rfl) rfl (q_pick_f rfl rfl rfl rfl) ?_
  refine SOps.q rfl (.plain rfl) rfl (q_move rfl rfl) ?_
  refine SOps.skip rfl 11 101 true rfl rfl (.inl rfl) rfl ?_
  refine SOps.skip rfl 11 101 true rfl rfl (.inl rfl) rfl ?_
  refine SOps.skip rfl 11 101 true rfl rfl (.inl rfl) rfl ?_
  refine SOps.skip rfl 11 101 true rfl rfl (.inl rfl) rfl ?_
  refine SOps.skip rfl 11 101 true rfl rfl (.inl rfl) rfl ?_
  refine SOps.skip rfl 11 101 true rfl rfl (.inl rfl) rfl ?_
  refine SOps.q rfl (.plain rfl) rfl (q_pick_f rfl rfl rfl rfl) ?_
  refine SOps.q rfl (.plain rfl) rfl (q_move rfl rfl) ?_
  refine SOps.skip rfl 19 109 true rfl rfl (.inl rfl) rfl ?_
  refine SOps.q rfl (.plain rfl) rfl (q_pick_f rfl rfl rfl rfl) ?_
  refine SOps.q rfl (.plain rfl) rfl (q_assign rfl rfl) ?_
  refine SOps.sub (st' := ⟨[(10, .c (.bool false))], []⟩) (sub_gen [] rfl rfl ⟨zc rfl rfl, trivial⟩ trivial) ?_
  refine SOps.nil ?_
  refine SCode.ret ?_
  obtain rfl := Option.some.inj h
  exact ⟨⟨[(10, .c (.bool false))], []⟩, _, sub_gen [] rfl rfl ⟨zc rfl rfl, trivial⟩ trivial, resA1 (v := .c (.bool false)) rfl rfl, rfl⟩
end Go.Proofs.Ytbepoingholchaa.W
