/- Written by a program of ours (wip/eng/gen.py): the functions compute their models. -/
import Derived.Test.YtbepoingholchaaFacts
import Derived.Test.YtbepoingholchaaV9x5
namespace Go.Proofs.Ytbepoingholchaa.W
open Go Go.Proofs Go.Proofs.Ytbepoingholchaa.E Go.Proofs.Ytbepoingholchaa.M
set_option linter.unusedVariables false
set_option maxRecDepth 100000 in
set_option maxHeartbeats 8000000 in
theorem chargenetlaw09_FlowTurns_ok (F : Nat) (a0_n : SNet) (a1_source : Int) (a2_sink : Int) (r : Bool) (h : chargenetlaw09_FlowTurns F a0_n a1_source a2_sink = some r) :
    SFun Try.prog 9 [] [.a [.int .i64 a0_n.Nodes, .vec a0_n.Arcs.length 3 (gL cSArc dSArc a0_n.Arcs)], .c (.int .i64 a1_source), .c (.int .i64 a2_sink)] (fun x _ => x = .c (.bool r)) := by
  refine SFun.of (n := 123) Try.func9 rfl rfl rfl ?_
  unfold chargenetlaw09_FlowTurns at h
  show SCode _ _ _ ⟨[(0, .a [.int .i64 a0_n.Nodes, .vec a0_n.Arcs.length 3 (gL cSArc dSArc a0_n.Arcs)]), (1, .c (.int .i64 a1_source)), (2, .c (.int .i64 a2_sink))], []⟩ _
  refine SCode.seq ?_
  refine SCode.region (show SOps _ _ _ [0, 1] _ _ from ?_)
  refine SOps.e rfl (.plain rfl) (e_box rfl rfl rfl rfl rfl rfl) ?_
  refine SOps.q rfl (.plain rfl) rfl (q_assign rfl rfl) ?_
  refine SOps.sub (st' := ⟨[(1, .c (.int .i64 a1_source)), (2, .c (.int .i64 a2_sink)), (3, .c (.ptr 0 0))], [.box [.int .i64 a0_n.Nodes, .vec a0_n.Arcs.length 3 (gL cSArc dSArc a0_n.Arcs)]]⟩) (sub_gen [0] rfl rfl ⟨zc rfl rfl, zc rfl rfl, zc rfl rfl, trivial⟩ ⟨⟨_, rfl, ⟨ii rfl rfl, ii rfl rfl, trivial⟩⟩, trivial⟩) ?_
  refine SOps.nil ?_
  refine SCode.seq ?_
  refine SCode.seq ?_
  obtain ⟨c_1, g2, h⟩ := bind_out h
  try dsimp only at h
  rcases cond_out h with ⟨g3, h⟩ | ⟨g3, h⟩
  · refine SCode.region (show SOps _ _ _ [0, 1, 2, 3, 4, 5, 6, 7, 8, 9] _ _ from ?_)
    refine SOps.q rfl (.plain rfl) rfl (q_load_ptr_all rfl rfl rfl rfl rfl ty24) ?_
    refine SOps.q rfl (.plain rfl) rfl (q_call (chargenetref09_Small_ok F a0_n 64 200 c_1 g2) [] rfl fn14 ⟨⟨rfl, rfl⟩, ⟨_, rfl, .inl ⟨rfl, rfl⟩⟩, ⟨_, rfl, .inl ⟨rfl, rfl⟩⟩, trivial⟩ (.inl rfl)) ?_
    refine SOps.q rfl (.plain rfl) rfl (q_not rfl rfl) ?_
    refine SOps.q rfl (.plain rfl) rfl (q_move rfl rfl) ?_
    refine SOps.skip rfl 3 23 false rfl rfl (.inl (gT g3)) rfl ?_
    refine SOps.skip rfl 3 23 false rfl rfl (.inl (gT g3)) rfl ?_
    refine SOps.skip rfl 3 23 false rfl rfl (.inl (gT g3)) rfl ?_
    refine SOps.skip rfl 3 23 false rfl rfl (.inl (gT g3)) rfl ?_
    refine SOps.skip rfl 3 23 false rfl rfl (.inl (gT g3)) rfl ?_
    refine SOps.q rfl (.plain rfl) rfl (q_pick_t rfl rfl g3 rfl) ?_
    refine SOps.sub (st' := ⟨[(1, .c (.int .i64 a1_source)), (2, .c (.int .i64 a2_sink)), (3, .c (.ptr 0 0)), (29, .c (.bool true))], [.box [.int .i64 a0_n.Nodes, .vec a0_n.Arcs.length 3 (gL cSArc dSArc a0_n.Arcs)]]⟩) (sub_gen [0] rfl rfl ⟨zc rfl rfl, zc rfl rfl, zc rfl rfl, zc rfl rfl, trivial⟩ ⟨⟨_, rfl, ⟨ii rfl rfl, ii rfl rfl, trivial⟩⟩, trivial⟩) ?_
    refine SOps.nil ?_
    refine SCode.cond_t rfl rfl ?_
    refine SCode.seq ?_
    obtain ⟨c_4, g5, h⟩ := bind_out h
    try dsimp only at h
    refine SCode.region (show SOps _ _ _ [0, 1] _ _ from ?_)
    refine SOps.q rfl (.plain rfl) rfl (q_call (chargenetlaw09_awake_ok F  c_4 g5) [] rfl fn11 trivial (.inl rfl)) ?_
    refine SOps.q rfl (.plain rfl) rfl (q_assign rfl rfl) ?_
    refine SOps.sub (st' := ⟨[(6, .c (.bool c_4))], []⟩) (sub_gen [] rfl rfl ⟨zc rfl rfl, trivial⟩ trivial) ?_
    refine SOps.nil ?_
    refine SCode.ret ?_
    obtain rfl := Option.some.inj h
    exact ⟨⟨[(6, .c (.bool c_4))], []⟩, _, sub_gen [] rfl rfl ⟨zc rfl rfl, trivial⟩ trivial, resA1 (v := .c (.bool c_4)) rfl rfl, rfl⟩
  obtain ⟨c_6, g7, h⟩ := bind_out h
  try dsimp only at h
  refine SCode.region (show SOps _ _ _ [0, 1, 2, 3, 4, 5, 6, 7, 8, 9] _ _ from ?_)
  refine SOps.q rfl (.plain rfl) rfl (q_load_ptr_all rfl rfl rfl rfl rfl ty24) ?_
  refine SOps.q rfl (.plain rfl) rfl (q_call (chargenetref09_Small_ok F a0_n 64 200 c_1 g2) [] rfl fn14 ⟨⟨rfl, rfl⟩, ⟨_, rfl, .inl ⟨rfl, rfl⟩⟩, ⟨_, rfl, .inl ⟨rfl, rfl⟩⟩, trivial⟩ (.inl rfl)) ?_
  refine SOps.q rfl (.plain rfl) rfl (q_not rfl rfl) ?_
  refine SOps.q rfl (.plain rfl) rfl (q_move rfl rfl) ?_
  refine SOps.q rfl (.guard 3 23 false rfl rfl (gF g3)) rfl (q_load_ptr_all rfl rfl rfl rfl rfl ty24) ?_
  refine SOps.q rfl (.guard 3 23 false rfl rfl (gF g3)) rfl (q_move rfl rfl) ?_
  refine SOps.q rfl (.guard 3 23 false rfl rfl (gF g3)) rfl (q_move rfl rfl) ?_
  refine SOps.q rfl (.guard 3 23 false rfl rfl (gF g3)) rfl (q_call (chargenetref09_Ends_ok F a0_n a1_source a2_sink c_6 g7) [] rfl fn16 ⟨⟨rfl, rfl⟩, ⟨_, rfl, .inl ⟨rfl, rfl⟩⟩, ⟨_, rfl, .inl ⟨rfl, rfl⟩⟩, trivial⟩ (.inl rfl)) ?_
  refine SOps.q rfl (.guard 3 23 false rfl rfl (gF g3)) rfl (q_neq rfl rfl rfl) ?_
  refine SOps.q rfl (.plain rfl) rfl (q_pick_f rfl rfl g3 rfl) ?_
  refine SOps.sub (st' := ⟨[(1, .c (.int .i64 a1_source)), (2, .c (.int .i64 a2_sink)), (3, .c (.ptr 0 0)), (29, .c (.bool ((!decide (c_6 = 0)))))], [.box [.int .i64 a0_n.Nodes, .vec a0_n.Arcs.length 3 (gL cSArc dSArc a0_n.Arcs)]]⟩) (sub_gen [0] rfl rfl ⟨zc rfl rfl, zc rfl rfl, zc rfl rfl, zc rfl rfl, trivial⟩ ⟨⟨_, rfl, ⟨ii rfl rfl, ii rfl rfl, trivial⟩⟩, trivial⟩) ?_
  refine SOps.nil ?_
  rcases cond_out h with ⟨g8, h⟩ | ⟨g8, h⟩
  · refine SCode.cond_t rfl g8 ?_
    refine SCode.seq ?_
    obtain ⟨c_9, g10, h⟩ := bind_out h
    try dsimp only at h
    refine SCode.region (show SOps _ _ _ [0, 1] _ _ from ?_)
    refine SOps.q rfl (.plain rfl) rfl (q_call (chargenetlaw09_awake_ok F  c_9 g10) [] rfl fn11 trivial (.inl rfl)) ?_
    refine SOps.q rfl (.plain rfl) rfl (q_assign rfl rfl) ?_
    refine SOps.sub (st' := ⟨[(6, .c (.bool c_9))], []⟩) (sub_gen [] rfl rfl ⟨zc rfl rfl, trivial⟩ trivial) ?_
    refine SOps.nil ?_
    refine SCode.ret ?_
    obtain rfl := Option.some.inj h
    exact ⟨⟨[(6, .c (.bool c_9))], []⟩, _, sub_gen [] rfl rfl ⟨zc rfl rfl, trivial⟩ trivial, resA1 (v := .c (.bool c_9)) rfl rfl, rfl⟩
  refine SCode.cond_f rfl g8 ?_
  refine SCode.skip ?_
  refine SCode.seq ?_
  obtain ⟨c_11, g12, h⟩ := bind_out h
  try dsimp only at h
  refine SCode.region (show SOps _ _ _ [0, 1, 2, 3, 4, 5, 6, 7, 8, 9, 10] _ _ from ?_)
  refine SOps.q rfl (.plain rfl) rfl (q_load_ptr_all rfl rfl rfl rfl rfl ty24) ?_
  refine SOps.q rfl (.plain rfl) rfl (q_move rfl rfl) ?_
  refine SOps.q rfl (.plain rfl) rfl (q_move rfl rfl) ?_
  refine SOps.q rfl (.plain rfl) rfl (q_call (flow_Max_ok F a0_n a1_source a2_sink c_11 g12) [] rfl fn15 ⟨⟨rfl, rfl⟩, ⟨_, rfl, .inl ⟨rfl, rfl⟩⟩, ⟨_, rfl, .inl ⟨rfl, rfl⟩⟩, trivial⟩ (.inl rfl)) ?_
  refine SOps.q rfl (.plain rfl) rfl (q_move rfl rfl) ?_
  refine SOps.q rfl (.plain rfl) rfl (q_extract rfl rfl rfl) ?_
  refine SOps.q rfl (.plain rfl) rfl (q_extract rfl rfl rfl) ?_
  refine SOps.q rfl (.plain rfl) rfl (q_extract rfl rfl rfl) ?_
  refine SOps.q rfl (.plain rfl) rfl (q_assign rfl rfl) ?_
  refine SOps.q rfl (.plain rfl) rfl (q_assign rfl rfl) ?_
  refine SOps.q rfl (.plain rfl) rfl (q_assign rfl rfl) ?_
  refine SOps.sub (st' := ⟨[(1, .c (.int .i64 a1_source)), (2, .c (.int .i64 a2_sink)), (3, .c (.ptr 0 0)), (7, .c (.int .i64 c_11.1)), (9, .c (.int .i64 c_11.2.2))], [.box [.int .i64 a0_n.Nodes, .vec a0_n.Arcs.length 3 (gL cSArc dSArc a0_n.Arcs)]]⟩) (sub_gen [0] rfl rfl ⟨zc rfl rfl, zc rfl rfl, zc rfl rfl, zc rfl rfl, zc rfl rfl, trivial⟩ ⟨⟨_, rfl, ⟨ii rfl rfl, ii rfl rfl, trivial⟩⟩, trivial⟩) ?_
  refine SOps.nil ?_
  refine SCode.seq ?_
  refine SCode.draw2 (sH := [(44, .a [.int .i64 a0_n.Nodes, .raw (.slice none 0 0)]), (43, .c (.int .i64 a0_n.Nodes)), (42, .c (.ptr 0 0)), (41, .a [.int .i64 a0_n.Nodes, .raw (.slice none 0 0)]), (40, .c (.int .i64 a0_n.Nodes)), (39, .c (.ptr 0 0)), (1, .c (.int .i64 a1_source)), (2, .c (.int .i64 a2_sink)), (3, .c (.ptr 0 0)), (7, .c (.int .i64 c_11.1)), (9, .c (.int .i64 c_11.2.2))]) mixed [[], [0], [0, 1], [], [3], [3, 4], [], [], [0, 1, 2, 6, 7], [0, 1, 2, 3, 4, 5, 6, 7, 8]] [6, 7, 8, 9] (fun h => List.getD ([] : List (List Nat)) h []) rfl ?_ ⟨[(1, .c (.int .i64 a1_source)), (2, .c (.int .i64 a2_sink)), (3, .c (.ptr 0 0)), (7, .c (.int .i64 c_11.1)), (9, .c (.int .i64 c_11.2.2)), (10, .c (.ptr 1 0)), (11, .c (.ptr 3 0))], [.box [.int .i64 a0_n.Nodes, .vec a0_n.Arcs.length 3 (gL cSArc dSArc a0_n.Arcs)], .box [.int .i64 a0_n.Nodes, .own 2 (([] : List SArc)).length], .arr 50 3 (([] : List SArc)).length (gL cSArc dSArc (([] : List SArc))), .box [.int .i64 a0_n.Nodes, .own 4 (([] : List SArc)).length], .arr 50 3 (([] : List SArc)).length (gL cSArc dSArc (([] : List SArc)))]⟩ ?_ ?_
  · refine HChain.run rfl rfl (.plain rfl) rfl (fun f x => q_field_ptr rfl rfl fd24_0) ?_
    refine HChain.run rfl rfl (.plain rfl) rfl (fun f x => q_load_ptr rfl rfl rfl rfl ty3) ?_
    refine HChain.run rfl rfl (.plain rfl) rfl (fun f x => q_build2 rfl rfl pl24 rfl) ?_
    refine HChain.run rfl rfl (.plain rfl) rfl (fun f x => q_field_ptr rfl rfl fd24_0) ?_
    refine HChain.run rfl rfl (.plain rfl) rfl (fun f x => q_load_ptr rfl rfl rfl rfl ty3) ?_
    refine HChain.run rfl rfl (.plain rfl) rfl (fun f x => q_build2 rfl rfl pl24 rfl) ?_
    refine HChain.tail rfl ?_
    refine HChain.tail rfl ?_
    refine HChain.tail rfl ?_
    refine HChain.tail rfl ?_
    exact HChain.nil _ _
  · refine TTree.node 6 [7] rfl ?_
    refine AllP.cons ?_ ?_
    · refine TStep.d (objs' := [.box [.int .i64 a0_n.Nodes, .vec a0_n.Arcs.length 3 (gL cSArc dSArc a0_n.Arcs)], .box [.int .i64 0, .raw (.slice none 0 0)]]) (v := .c (.ptr 1 0)) [] 10 rfl rfl rfl rfl rfl (fun s2 => by refine EOp.eq (e_alloc rfl rfl rfl z24) ?_; rfl) ?_
      refine ⟨rfl, ⟨trivial, .inr rfl⟩, ?_⟩
      refine TTree.node 7 [] rfl ?_
      refine AllP.cons ?_ ?_
      · refine TStep.d (objs' := [.box [.int .i64 a0_n.Nodes, .vec a0_n.Arcs.length 3 (gL cSArc dSArc a0_n.Arcs)], .box [.int .i64 0, .raw (.slice none 0 0)], .box [.int .i64 0, .raw (.slice none 0 0)]]) (v := .c (.ptr 2 0)) [] 11 rfl rfl rfl rfl rfl (fun s2 => by refine EOp.eq (e_alloc rfl rfl rfl z24) ?_; rfl) ?_
        refine ⟨rfl, ⟨trivial, .inr rfl⟩, ?_⟩
        refine TTree.node 8 [] rfl ?_
        refine AllP.cons ?_ ?_
        · refine TStep.n (objs' := [.box [.int .i64 a0_n.Nodes, .vec a0_n.Arcs.length 3 (gL cSArc dSArc a0_n.Arcs)], .box [.int .i64 a0_n.Nodes, .raw (.slice none 0 0)], .box [.int .i64 0, .raw (.slice none 0 0)]]) [] rfl rfl rfl rfl (fun s2 => by refine EOp.eq (e_store_box rfl rfl rfl rfl rfl ty24 rfl rfl rfl rfl) ?_; rfl) ?_
          refine ⟨rfl, ⟨trivial, .inr rfl⟩, ?_⟩
          refine TTree.node 9 [] rfl ?_
          refine AllP.cons ?_ ?_
          · refine TStep.n (objs' := [.box [.int .i64 a0_n.Nodes, .vec a0_n.Arcs.length 3 (gL cSArc dSArc a0_n.Arcs)], .box [.int .i64 a0_n.Nodes, .raw (.slice none 0 0)], .box [.int .i64 a0_n.Nodes, .raw (.slice none 0 0)]]) [] rfl rfl rfl rfl (fun s2 => by refine EOp.eq (e_store_box rfl rfl rfl rfl rfl ty24 rfl rfl rfl rfl) ?_; rfl) ?_
            refine ⟨rfl, ⟨trivial, .inr rfl⟩, ?_⟩
            exact TTree.leaf rfl (Sub.trans (Sub.nilBox (id := 1) (j := 1) (T := 50) (k := 3) (g := gL cSArc dSArc ([] : List SArc)) rfl rfl) (Sub.trans (Sub.nilBox (id := 2) (j := 1) (T := 50) (k := 3) (g := gL cSArc dSArc ([] : List SArc)) rfl rfl) (sub_gen [0, 1, 3, 2, 4] rfl rfl ⟨zc rfl rfl, zc rfl rfl, zc rfl rfl, zc rfl rfl, zc rfl rfl, zc rfl rfl, zc rfl rfl, trivial⟩ ⟨⟨_, rfl, ⟨ii rfl rfl, ii rfl rfl, trivial⟩⟩, ⟨_, rfl, ⟨ii rfl rfl, ii rfl rfl, trivial⟩⟩, oa rfl, ⟨_, rfl, ⟨ii rfl rfl, ii rfl rfl, trivial⟩⟩, oa rfl, trivial⟩)))
          exact AllP.nil
        exact AllP.nil
      exact AllP.nil
    refine AllP.cons ?_ ?_
    · refine TStep.d (objs' := [.box [.int .i64 a0_n.Nodes, .vec a0_n.Arcs.length 3 (gL cSArc dSArc a0_n.Arcs)], .box [.int .i64 0, .raw (.slice none 0 0)]]) (v := .c (.ptr 1 0)) [] 11 rfl rfl rfl rfl rfl (fun s2 => by refine EOp.eq (e_alloc rfl rfl rfl z24) ?_; rfl) ?_
      refine ⟨rfl, ⟨trivial, .inr rfl⟩, ?_⟩
      refine TTree.node 6 [] rfl ?_
      refine AllP.cons ?_ ?_
      · refine TStep.d (objs' := [.box [.int .i64 a0_n.Nodes, .vec a0_n.Arcs.length 3 (gL cSArc dSArc a0_n.Arcs)], .box [.int .i64 0, .raw (.slice none 0 0)], .box [.int .i64 0, .raw (.slice none 0 0)]]) (v := .c (.ptr 2 0)) [] 10 rfl rfl rfl rfl rfl (fun s2 => by refine EOp.eq (e_alloc rfl rfl rfl z24) ?_; rfl) ?_
        refine ⟨rfl, ⟨trivial, .inr rfl⟩, ?_⟩
        refine TTree.node 8 [] rfl ?_
        refine AllP.cons ?_ ?_
        · refine TStep.n (objs' := [.box [.int .i64 a0_n.Nodes, .vec a0_n.Arcs.length 3 (gL cSArc dSArc a0_n.Arcs)], .box [.int .i64 0, .raw (.slice none 0 0)], .box [.int .i64 a0_n.Nodes, .raw (.slice none 0 0)]]) [] rfl rfl rfl rfl (fun s2 => by refine EOp.eq (e_store_box rfl rfl rfl rfl rfl ty24 rfl rfl rfl rfl) ?_; rfl) ?_
          refine ⟨rfl, ⟨trivial, .inr rfl⟩, ?_⟩
          refine TTree.node 9 [] rfl ?_
          refine AllP.cons ?_ ?_
          · refine TStep.n (objs' := [.box [.int .i64 a0_n.Nodes, .vec a0_n.Arcs.length 3 (gL cSArc dSArc a0_n.Arcs)], .box [.int .i64 a0_n.Nodes, .raw (.slice none 0 0)], .box [.int .i64 a0_n.Nodes, .raw (.slice none 0 0)]]) [] rfl rfl rfl rfl (fun s2 => by refine EOp.eq (e_store_box rfl rfl rfl rfl rfl ty24 rfl rfl rfl rfl) ?_; rfl) ?_
            refine ⟨rfl, ⟨trivial, .inr rfl⟩, ?_⟩
            exact TTree.leaf rfl (Sub.trans (Sub.nilBox (id := 1) (j := 1) (T := 50) (k := 3) (g := gL cSArc dSArc ([] : List SArc)) rfl rfl) (Sub.trans (Sub.nilBox (id := 2) (j := 1) (T := 50) (k := 3) (g := gL cSArc dSArc ([] : List SArc)) rfl rfl) (sub_gen [0, 2, 4, 1, 3] rfl rfl ⟨zc rfl rfl, zc rfl rfl, zc rfl rfl, zc rfl rfl, zc rfl rfl, zc rfl rfl, zc rfl rfl, trivial⟩ ⟨⟨_, rfl, ⟨ii rfl rfl, ii rfl rfl, trivial⟩⟩, ⟨_, rfl, ⟨ii rfl rfl, ii rfl rfl, trivial⟩⟩, oa rfl, ⟨_, rfl, ⟨ii rfl rfl, ii rfl rfl, trivial⟩⟩, oa rfl, trivial⟩)))
          exact AllP.nil
        exact AllP.nil
      exact AllP.nil
    exact AllP.nil
  refine SCode.join (σ := (List SArc) × (List SArc)) (S := fun s => ⟨[(1, .c (.int .i64 a1_source)), (2, .c (.int .i64 a2_sink)), (7, .c (.int .i64 c_11.1)), (9, .c (.int .i64 c_11.2.2)), (10, .c (.ptr 0 0)), (11, .c (.ptr 2 0))], [.box [.int .i64 a0_n.Nodes, .own 1 s.1.length], .arr 50 3 s.1.length (gL cSArc dSArc s.1), .box [.int .i64 a0_n.Nodes, .own 3 s.2.length], .arr 50 3 s.2.length (gL cSArc dSArc s.2)]⟩) (g := fun s => chargenetlaw09_FlowTurns_p26 F a0_n a1_source a2_sink c_11 s.1 s.2 = some r) ?_ ?_
  rotate_left
  · refine SCode.seq ?_
    refine SCode.region (show SOps _ _ _ [0] _ _ from ?_)
    refine SOps.q rfl (.plain rfl) rfl (q_assign rfl rfl) ?_
    refine SOps.sub (st' := ⟨[(1, .c (.int .i64 a1_source)), (2, .c (.int .i64 a2_sink)), (3, .c (.ptr 0 0)), (7, .c (.int .i64 c_11.1)), (9, .c (.int .i64 c_11.2.2)), (10, .c (.ptr 1 0)), (11, .c (.ptr 3 0)), (12, .c (.int .i64 0))], [.box [.int .i64 a0_n.Nodes, .vec a0_n.Arcs.length 3 (gL cSArc dSArc a0_n.Arcs)], .box [.int .i64 a0_n.Nodes, .own 2 (([] : List SArc)).length], .arr 50 3 (([] : List SArc)).length (gL cSArc dSArc (([] : List SArc))), .box [.int .i64 a0_n.Nodes, .own 4 (([] : List SArc)).length], .arr 50 3 (([] : List SArc)).length (gL cSArc dSArc (([] : List SArc)))]⟩) (sub_gen [0, 1, 2, 3, 4] rfl rfl ⟨zc rfl rfl, zc rfl rfl, zc rfl rfl, zc rfl rfl, zc rfl rfl, zc rfl rfl, zc rfl rfl, zc rfl rfl, trivial⟩ ⟨⟨_, rfl, ⟨ii rfl rfl, ii rfl rfl, trivial⟩⟩, ⟨_, rfl, ⟨ii rfl rfl, ii rfl rfl, trivial⟩⟩, oa rfl, ⟨_, rfl, ⟨ii rfl rfl, ii rfl rfl, trivial⟩⟩, oa rfl, trivial⟩) ?_
    refine SOps.nil ?_
    refine SCode.block ?_
    refine SCode.sub (st' := ⟨[(1, .c (.int .i64 a1_source)), (2, .c (.int .i64 a2_sink)), (3, .c (.ptr 0 0)), (7, .c (.int .i64 c_11.1)), (9, .c (.int .i64 c_11.2.2)), (10, .c (.ptr 1 0)), (11, .c (.ptr 3 0)), (12, .c (.int .i64 0))], [.box [.int .i64 a0_n.Nodes, .vec a0_n.Arcs.length 3 (gL cSArc dSArc a0_n.Arcs)], .box [.int .i64 a0_n.Nodes, .own 2 ([] : List SArc).length], .arr 50 3 ([] : List SArc).length (gL cSArc dSArc ([] : List SArc)), .box [.int .i64 a0_n.Nodes, .own 4 ([] : List SArc).length], .arr 50 3 ([] : List SArc).length (gL cSArc dSArc ([] : List SArc))]⟩) (sub_gen [0, 1, 2, 3, 4] rfl rfl ⟨zc rfl rfl, zc rfl rfl, zc rfl rfl, zc rfl rfl, zc rfl rfl, zc rfl rfl, zc rfl rfl, zc rfl rfl, trivial⟩ ⟨⟨_, rfl, ⟨ii rfl rfl, ii rfl rfl, trivial⟩⟩, ⟨_, rfl, ⟨ii rfl rfl, ii rfl rfl, trivial⟩⟩, oa rfl, ⟨_, rfl, ⟨ii rfl rfl, ii rfl rfl, trivial⟩⟩, oa rfl, trivial⟩) ?_
    refine (SCode.loop (σ := Nat × (Int × (List SArc) × (List SArc))) (S := fun s => ⟨[(1, .c (.int .i64 a1_source)), (2, .c (.int .i64 a2_sink)), (3, .c (.ptr 0 0)), (7, .c (.int .i64 c_11.1)), (9, .c (.int .i64 c_11.2.2)), (10, .c (.ptr 1 0)), (11, .c (.ptr 3 0)), (12, .c (.int .i64 s.2.1))], [.box [.int .i64 a0_n.Nodes, .vec a0_n.Arcs.length 3 (gL cSArc dSArc a0_n.Arcs)], .box [.int .i64 a0_n.Nodes, .own 2 s.2.2.1.length], .arr 50 3 s.2.2.1.length (gL cSArc dSArc s.2.2.1), .box [.int .i64 a0_n.Nodes, .own 4 s.2.2.2.length], .arr 50 3 s.2.2.2.length (gL cSArc dSArc s.2.2.2)]⟩) (g := fun s => chargenetlaw09_FlowTurns_l40 F a0_n a1_source a2_sink c_11 s.1 s.2.1 s.2.2.1 s.2.2.2 = some r) (μ := fun s => s.1) (F, (0, ([] : List SArc), ([] : List SArc))) h ?_)
    rintro ⟨n_40, ⟨i_32, o2_33, o4_34⟩⟩ h
    replace h : chargenetlaw09_FlowTurns_l40 F a0_n a1_source a2_sink c_11 n_40 i_32 o2_33 o4_34 = some r := h
    show SCode _ _ _ ⟨[(1, .c (.int .i64 a1_source)), (2, .c (.int .i64 a2_sink)), (3, .c (.ptr 0 0)), (7, .c (.int .i64 c_11.1)), (9, .c (.int .i64 c_11.2.2)), (10, .c (.ptr 1 0)), (11, .c (.ptr 3 0)), (12, .c (.int .i64 i_32))], [.box [.int .i64 a0_n.Nodes, .vec a0_n.Arcs.length 3 (gL cSArc dSArc a0_n.Arcs)], .box [.int .i64 a0_n.Nodes, .own 2 o2_33.length], .arr 50 3 o2_33.length (gL cSArc dSArc o2_33), .box [.int .i64 a0_n.Nodes, .own 4 o4_34.length], .arr 50 3 o4_34.length (gL cSArc dSArc o4_34)]⟩ _
    cases n_40 with
    | zero => cases h
    | succ n_40 =>
      replace h : chargenetlaw09_FlowTurns_b40 F a0_n a1_source a2_sink c_11 (fun i_32 o2_33 o4_34 => chargenetlaw09_FlowTurns_l40 F a0_n a1_source a2_sink c_11 n_40 i_32 o2_33 o4_34) i_32 o2_33 o4_34 = some r := h
      unfold chargenetlaw09_FlowTurns_b40 at h
      refine SCode.seq ?_
      refine SCode.seq ?_
      refine SCode.region (show SOps _ _ _ [0, 1, 2, 3, 4] _ _ from ?_)
      refine SOps.q rfl (.plain rfl) rfl (q_move rfl rfl) ?_
      refine SOps.q rfl (.plain rfl) rfl (q_field_ptr rfl rfl fd24_1) ?_
      refine SOps.q rfl (.plain rfl) rfl (q_load_ptr rfl rfl rfl rfl ty22) ?_
      refine SOps.q rfl (.plain rfl) rfl (q_len_vec rfl rfl sl22) ?_
      refine SOps.q rfl (.plain rfl) rfl (q_lss rfl rfl rfl) ?_
      refine SOps.sub (st' := ⟨[(1, .c (.int .i64 a1_source)), (2, .c (.int .i64 a2_sink)), (3, .c (.ptr 0 0)), (7, .c (.int .i64 c_11.1)), (9, .c (.int .i64 c_11.2.2)), (10, .c (.ptr 1 0)), (11, .c (.ptr 3 0)), (12, .c (.int .i64 i_32)), (49, .c (.bool (decide (i_32 < ((a0_n.Arcs).length : Int)))))], [.box [.int .i64 a0_n.Nodes, .vec a0_n.Arcs.length 3 (gL cSArc dSArc a0_n.Arcs)], .box [.int .i64 a0_n.Nodes, .own 2 o2_33.length], .arr 50 3 o2_33.length (gL cSArc dSArc o2_33), .box [.int .i64 a0_n.Nodes, .own 4 o4_34.length], .arr 50 3 o4_34.length (gL cSArc dSArc o4_34)]⟩) (sub_gen [0, 1, 2, 3, 4] rfl rfl ⟨zc rfl rfl, zc rfl rfl, zc rfl rfl, zc rfl rfl, zc rfl rfl, zc rfl rfl, zc rfl rfl, zc rfl rfl, zc rfl rfl, trivial⟩ ⟨⟨_, rfl, ⟨ii rfl rfl, ii rfl rfl, trivial⟩⟩, ⟨_, rfl, ⟨ii rfl rfl, ii rfl rfl, trivial⟩⟩, oa rfl, ⟨_, rfl, ⟨ii rfl rfl, ii rfl rfl, trivial⟩⟩, oa rfl, trivial⟩) ?_
      refine SOps.nil ?_
      rcases cond_out h with ⟨g41, h⟩ | ⟨g41, h⟩
      · refine SCode.cond_t rfl g41 ?_
        refine SCode.skip ?_
        refine SCode.seq ?_
        refine SCode.block ?_
        refine SCode.seq ?_
        obtain ⟨g42, h⟩ := guard_out h
        refine SCode.region (show SOps _ _ _ [0, 1, 2, 3, 4, 5, 6] _ _ from ?_)
        refine SOps.q rfl (.plain rfl) rfl (q_field_ptr rfl rfl fd24_1) ?_
        refine SOps.q rfl (.plain rfl) rfl (q_load_ptr rfl rfl rfl rfl ty22) ?_
        refine SOps.q rfl (.plain rfl) rfl (q_move rfl rfl) ?_
        refine SOps.q rfl (.plain rfl) rfl (q_index_vec rfl rfl rfl sl22 rfl g42.1 g42.2) ?_
        refine SOps.q rfl (.plain rfl) rfl (q_load_eptr_all rfl rfl rfl ty50) ?_
        refine SOps.e rfl (.plain rfl) (e_alloc rfl rfl rfl z50) ?_
        refine SOps.e rfl (.plain rfl) (e_store_box rfl rfl rfl rfl rfl ty50 rfl rfl rfl rfl) ?_
        refine SOps.sub (st' := ⟨[(1, .c (.int .i64 a1_source)), (2, .c (.int .i64 a2_sink)), (3, .c (.ptr 0 0)), (7, .c (.int .i64 c_11.1)), (9, .c (.int .i64 c_11.2.2)), (10, .c (.ptr 1 0)), (11, .c (.ptr 3 0)), (12, .c (.int .i64 i_32)), (13, .c (.ptr 5 0))], [.box [.int .i64 a0_n.Nodes, .vec a0_n.Arcs.length 3 (gL cSArc dSArc a0_n.Arcs)], .box [.int .i64 a0_n.Nodes, .own 2 o2_33.length], .arr 50 3 o2_33.length (gL cSArc dSArc o2_33), .box [.int .i64 a0_n.Nodes, .own 4 o4_34.length], .arr 50 3 o4_34.length (gL cSArc dSArc o4_34), .box [.int .i64 ((a0_n.Arcs.getD i_32.toNat dSArc).From), .int .i64 ((a0_n.Arcs.getD i_32.toNat dSArc).To), .int .i64 ((a0_n.Arcs.getD i_32.toNat dSArc).Cap)]]⟩) (sub_gen [0, 1, 2, 3, 4, 5] rfl rfl ⟨zc rfl rfl, zc rfl rfl, zc rfl rfl, zc rfl rfl, zc rfl rfl, zc rfl rfl, zc rfl rfl, zc rfl rfl, zc rfl rfl, trivial⟩ ⟨⟨_, rfl, ⟨ii rfl rfl, ii rfl rfl, trivial⟩⟩, ⟨_, rfl, ⟨ii rfl rfl, ii rfl rfl, trivial⟩⟩, oa rfl, ⟨_, rfl, ⟨ii rfl rfl, ii rfl rfl, trivial⟩⟩, oa rfl, ⟨_, rfl, ⟨ii rfl rfl, ii rfl rfl, ii rfl rfl, trivial⟩⟩, trivial⟩) ?_
        refine SOps.nil ?_
        refine SCode.seq ?_
        obtain ⟨g43, h⟩ := guard_out h
        refine SCode.region (show SOps _ _ _ [0, 1, 2, 3, 4, 5, 6, 7, 8, 9, 10, 11, 12] _ _ from ?_)
        refine SOps.q rfl (.plain rfl) rfl (q_field_ptr rfl rfl fd24_1) ?_
        refine SOps.q rfl (.plain rfl) rfl (q_load_ptr rfl rfl rfl rfl ty22) ?_
        refine SOps.q rfl (.plain rfl) rfl (q_field_ptr rfl rfl fd50_1) ?_
        refine SOps.q rfl (.plain rfl) rfl (q_load_ptr rfl rfl rfl rfl ty3) ?_
        refine SOps.q rfl (.plain rfl) rfl (q_field_ptr rfl rfl fd50_0) ?_
        refine SOps.q rfl (.plain rfl) rfl (q_load_ptr rfl rfl rfl rfl ty3) ?_
        refine SOps.q rfl (.plain rfl) rfl (q_field_ptr rfl rfl fd50_2) ?_
        refine SOps.q rfl (.plain rfl) rfl (q_load_ptr rfl rfl rfl rfl ty3) ?_
        refine SOps.q rfl (.plain rfl) rfl (q_build2 rfl rfl pl50 rfl) ?_
        refine SOps.q rfl (.plain rfl) rfl (q_bsliceL (c := cSArc) (d0 := dSArc) [SArc.mk ((a0_n.Arcs.getD i_32.toNat dSArc).To) ((a0_n.Arcs.getD i_32.toNat dSArc).From) ((a0_n.Arcs.getD i_32.toNat dSArc).Cap)] rfl rfl sl22 z50 rfl rfl rfl rfl rfl rfl rfl) ?_
        refine SOps.e rfl (.plain rfl) (e_appendL (c := cSArc) (d0 := dSArc) (l := o2_33) (l2 := [SArc.mk ((a0_n.Arcs.getD i_32.toNat dSArc).To) ((a0_n.Arcs.getD i_32.toNat dSArc).From) ((a0_n.Arcs.getD i_32.toNat dSArc).Cap)]) rfl rfl rfl rfl rfl rfl (.inl rfl) sl22 z50 rfl rfl oneSArc g43.1 g43.2) ?_
        refine SOps.q rfl (.plain rfl) rfl (q_field_ptr rfl rfl fd24_1) ?_
        refine SOps.e rfl (.plain rfl) (e_store_box rfl rfl rfl rfl rfl ty22 rfl rfl rfl rfl) ?_
        refine SOps.sub (st' := ⟨[(1, .c (.int .i64 a1_source)), (2, .c (.int .i64 a2_sink)), (3, .c (.ptr 0 0)), (7, .c (.int .i64 c_11.1)), (9, .c (.int .i64 c_11.2.2)), (10, .c (.ptr 1 0)), (11, .c (.ptr 3 0)), (12, .c (.int .i64 i_32))], [.box [.int .i64 a0_n.Nodes, .vec a0_n.Arcs.length 3 (gL cSArc dSArc a0_n.Arcs)], .box [.int .i64 a0_n.Nodes, .own 2 (o2_33 ++ ([SArc.mk ((a0_n.Arcs.getD i_32.toNat dSArc).To) ((a0_n.Arcs.getD i_32.toNat dSArc).From) ((a0_n.Arcs.getD i_32.toNat dSArc).Cap)])).length], .arr 50 3 (o2_33 ++ ([SArc.mk ((a0_n.Arcs.getD i_32.toNat dSArc).To) ((a0_n.Arcs.getD i_32.toNat dSArc).From) ((a0_n.Arcs.getD i_32.toNat dSArc).Cap)])).length (gL cSArc dSArc (o2_33 ++ ([SArc.mk ((a0_n.Arcs.getD i_32.toNat dSArc).To) ((a0_n.Arcs.getD i_32.toNat dSArc).From) ((a0_n.Arcs.getD i_32.toNat dSArc).Cap)]))), .box [.int .i64 a0_n.Nodes, .own 4 o4_34.length], .arr 50 3 o4_34.length (gL cSArc dSArc o4_34)]⟩) (sub_gen [0, 1, 6, 3, 4] rfl rfl ⟨zc rfl rfl, zc rfl rfl, zc rfl rfl, zc rfl rfl, zc rfl rfl, zc rfl rfl, zc rfl rfl, zc rfl rfl, trivial⟩ ⟨⟨_, rfl, ⟨ii rfl rfl, ii rfl rfl, trivial⟩⟩, ⟨_, rfl, ⟨ii rfl rfl, ii rfl rfl, trivial⟩⟩, oa rfl, ⟨_, rfl, ⟨ii rfl rfl, ii rfl rfl, trivial⟩⟩, oa rfl, trivial⟩) ?_
        refine SOps.nil ?_
        obtain ⟨g44, h⟩ := guard_out h
        obtain ⟨g45, h⟩ := guard_out h
        refine SCode.draw (s' := [(81, .c (.vec ([a0_n.Arcs.getD (IntKind.wrap .i64 (IntKind.wrap .i64 (((a0_n.Arcs).length : Int) - 1) - i_32)).toNat dSArc]).length 3 (gL cSArc dSArc ([a0_n.Arcs.getD (IntKind.wrap .i64 (IntKind.wrap .i64 (((a0_n.Arcs).length : Int) - 1) - i_32)).toNat dSArc])))), (80, .a [.int .i64 ((a0_n.Arcs.getD (IntKind.wrap .i64 (IntKind.wrap .i64 (((a0_n.Arcs).length : Int) - 1) - i_32)).toNat dSArc).From), .int .i64 ((a0_n.Arcs.getD (IntKind.wrap .i64 (IntKind.wrap .i64 (((a0_n.Arcs).length : Int) - 1) - i_32)).toNat dSArc).To), .int .i64 ((a0_n.Arcs.getD (IntKind.wrap .i64 (IntKind.wrap .i64 (((a0_n.Arcs).length : Int) - 1) - i_32)).toNat dSArc).Cap)]), (79, .c (.eptr 3 (cSArc (a0_n.Arcs.getD (IntKind.wrap .i64 (IntKind.wrap .i64 (((a0_n.Arcs).length : Int) - 1) - i_32)).toNat dSArc)) 0)), (78, .c (.int .i64 (IntKind.wrap .i64 (IntKind.wrap .i64 (((a0_n.Arcs).length : Int) - 1) - i_32)))), (77, .c (.int .i64 i_32)), (76, .c (.int .i64 (IntKind.wrap .i64 (((a0_n.Arcs).length : Int) - 1)))), (75, .c (.int .i64 (((a0_n.Arcs).length : Int)))), (74, .c (.vec a0_n.Arcs.length 3 (gL cSArc dSArc a0_n.Arcs))), (73, .c (.ptr 0 1)), (72, .c (.vec a0_n.Arcs.length 3 (gL cSArc dSArc a0_n.Arcs))), (71, .c (.ptr 0 1)), (70, .c (.own 4 o4_34.length)), (69, .c (.ptr 3 1)), (1, .c (.int .i64 a1_source)), (2, .c (.int .i64 a2_sink)), (3, .c (.ptr 0 0)), (7, .c (.int .i64 c_11.1)), (9, .c (.int .i64 c_11.2.2)), (10, .c (.ptr 1 0)), (11, .c (.ptr 3 0)), (12, .c (.int .i64 i_32))]) mixed [[], [0], [], [2], [], [4], [4, 5], [4, 5, 6], [], [4, 5, 6, 7, 8], [2, 3, 4, 5, 6, 7, 8, 9], [2, 3, 4, 5, 6, 7, 8, 9, 10], [2, 3, 4, 5, 6, 7, 8, 9, 10, 11], [0, 1, 2, 3, 4, 5, 6, 7, 8, 9, 10, 11, 12], [0, 1, 2, 3, 4, 5, 6, 7, 8, 9, 10, 11, 12, 13], [0, 1, 2, 3, 4, 5, 6, 7, 8, 9, 10, 11, 12, 13, 14]] 13 3 rfl rfl ?_ ?_
        · refine QChain.run rfl (.plain rfl) rfl (q_field_ptr rfl rfl fd24_1) ?_
          refine QChain.run rfl (.plain rfl) rfl (q_load_ptr rfl rfl rfl rfl ty22) ?_
          refine QChain.run rfl (.plain rfl) rfl (q_field_ptr rfl rfl fd24_1) ?_
          refine QChain.run rfl (.plain rfl) rfl (q_load_ptr rfl rfl rfl rfl ty22) ?_
          refine QChain.run rfl (.plain rfl) rfl (q_field_ptr rfl rfl fd24_1) ?_
          refine QChain.run rfl (.plain rfl) rfl (q_load_ptr rfl rfl rfl rfl ty22) ?_
          refine QChain.run rfl (.plain rfl) rfl (q_len_vec rfl rfl sl22) ?_
          refine QChain.run rfl (.plain rfl) rfl (q_sub rfl rfl rfl) ?_
          refine QChain.run rfl (.plain rfl) rfl (q_move rfl rfl) ?_
          refine QChain.run rfl (.plain rfl) rfl (q_sub rfl rfl rfl) ?_
          refine QChain.run rfl (.plain rfl) rfl (q_index_vec rfl rfl rfl sl22 rfl g44.1 g44.2) ?_
          refine QChain.run rfl (.plain rfl) rfl (q_load_eptr_all rfl rfl rfl ty50) ?_
          refine QChain.run rfl (.plain rfl) rfl (q_bsliceL (c := cSArc) (d0 := dSArc) [a0_n.Arcs.getD (IntKind.wrap .i64 (IntKind.wrap .i64 (((a0_n.Arcs).length : Int) - 1) - i_32)).toNat dSArc] rfl rfl sl22 z50 rfl rfl rfl rfl rfl rfl rfl) ?_
          exact QChain.nil _ _
        refine (show SOps _ _ _ [13, 14, 15] _ _ from ?_)
        refine SOps.e rfl (.plain rfl) (e_appendL (c := cSArc) (d0 := dSArc) (l := o4_34) (l2 := [a0_n.Arcs.getD (IntKind.wrap .i64 (IntKind.wrap .i64 (((a0_n.Arcs).length : Int) - 1) - i_32)).toNat dSArc]) rfl rfl rfl rfl rfl rfl (.inl rfl) sl22 z50 rfl rfl oneSArc g45.1 g45.2) ?_
        refine SOps.q rfl (.plain rfl) rfl (q_field_ptr rfl rfl fd24_1) ?_
        refine SOps.e rfl (.plain rfl) (e_store_box rfl rfl rfl rfl rfl ty22 rfl rfl rfl rfl) ?_
        refine SOps.sub (st' := ⟨[(1, .c (.int .i64 a1_source)), (2, .c (.int .i64 a2_sink)), (3, .c (.ptr 0 0)), (7, .c (.int .i64 c_11.1)), (9, .c (.int .i64 c_11.2.2)), (10, .c (.ptr 1 0)), (11, .c (.ptr 3 0)), (12, .c (.int .i64 i_32))], [.box [.int .i64 a0_n.Nodes, .vec a0_n.Arcs.length 3 (gL cSArc dSArc a0_n.Arcs)], .box [.int .i64 a0_n.Nodes, .own 2 (o2_33 ++ ([SArc.mk ((a0_n.Arcs.getD i_32.toNat dSArc).To) ((a0_n.Arcs.getD i_32.toNat dSArc).From) ((a0_n.Arcs.getD i_32.toNat dSArc).Cap)])).length], .arr 50 3 (o2_33 ++ ([SArc.mk ((a0_n.Arcs.getD i_32.toNat dSArc).To) ((a0_n.Arcs.getD i_32.toNat dSArc).From) ((a0_n.Arcs.getD i_32.toNat dSArc).Cap)])).length (gL cSArc dSArc (o2_33 ++ ([SArc.mk ((a0_n.Arcs.getD i_32.toNat dSArc).To) ((a0_n.Arcs.getD i_32.toNat dSArc).From) ((a0_n.Arcs.getD i_32.toNat dSArc).Cap)]))), .box [.int .i64 a0_n.Nodes, .own 4 (o4_34 ++ ([a0_n.Arcs.getD (IntKind.wrap .i64 (IntKind.wrap .i64 (((a0_n.Arcs).length : Int) - 1) - i_32)).toNat dSArc])).length], .arr 50 3 (o4_34 ++ ([a0_n.Arcs.getD (IntKind.wrap .i64 (IntKind.wrap .i64 (((a0_n.Arcs).length : Int) - 1) - i_32)).toNat dSArc])).length (gL cSArc dSArc (o4_34 ++ ([a0_n.Arcs.getD (IntKind.wrap .i64 (IntKind.wrap .i64 (((a0_n.Arcs).length : Int) - 1) - i_32)).toNat dSArc])))]⟩) (sub_gen [0, 1, 2, 3, 5] rfl rfl ⟨zc rfl rfl, zc rfl rfl, zc rfl rfl, zc rfl rfl, zc rfl rfl, zc rfl rfl, zc rfl rfl, zc rfl rfl, trivial⟩ ⟨⟨_, rfl, ⟨ii rfl rfl, ii rfl rfl, trivial⟩⟩, ⟨_, rfl, ⟨ii rfl rfl, ii rfl rfl, trivial⟩⟩, oa rfl, ⟨_, rfl, ⟨ii rfl rfl, ii rfl rfl, trivial⟩⟩, oa rfl, trivial⟩) ?_
        refine SOps.nil ?_
        refine SCode.region (show SOps _ _ _ [0, 1, 2] _ _ from ?_)
        refine SOps.q rfl (.plain rfl) rfl (q_move rfl rfl) ?_
        refine SOps.q rfl (.plain rfl) rfl (q_add rfl rfl rfl) ?_
        refine SOps.q rfl (.plain rfl) rfl (q_assign rfl rfl) ?_
        refine SOps.sub (st' := ⟨[(1, .c (.int .i64 a1_source)), (2, .c (.int .i64 a2_sink)), (3, .c (.ptr 0 0)), (7, .c (.int .i64 c_11.1)), (9, .c (.int .i64 c_11.2.2)), (10, .c (.ptr 1 0)), (11, .c (.ptr 3 0)), (12, .c (.int .i64 (IntKind.wrap .i64 (i_32 + 1))))], [.box [.int .i64 a0_n.Nodes, .vec a0_n.Arcs.length 3 (gL cSArc dSArc a0_n.Arcs)], .box [.int .i64 a0_n.Nodes, .own 2 (o2_33 ++ ([SArc.mk ((a0_n.Arcs.getD i_32.toNat dSArc).To) ((a0_n.Arcs.getD i_32.toNat dSArc).From) ((a0_n.Arcs.getD i_32.toNat dSArc).Cap)])).length], .arr 50 3 (o2_33 ++ ([SArc.mk ((a0_n.Arcs.getD i_32.toNat dSArc).To) ((a0_n.Arcs.getD i_32.toNat dSArc).From) ((a0_n.Arcs.getD i_32.toNat dSArc).Cap)])).length (gL cSArc dSArc (o2_33 ++ ([SArc.mk ((a0_n.Arcs.getD i_32.toNat dSArc).To) ((a0_n.Arcs.getD i_32.toNat dSArc).From) ((a0_n.Arcs.getD i_32.toNat dSArc).Cap)]))), .box [.int .i64 a0_n.Nodes, .own 4 (o4_34 ++ ([a0_n.Arcs.getD (IntKind.wrap .i64 (IntKind.wrap .i64 (((a0_n.Arcs).length : Int) - 1) - i_32)).toNat dSArc])).length], .arr 50 3 (o4_34 ++ ([a0_n.Arcs.getD (IntKind.wrap .i64 (IntKind.wrap .i64 (((a0_n.Arcs).length : Int) - 1) - i_32)).toNat dSArc])).length (gL cSArc dSArc (o4_34 ++ ([a0_n.Arcs.getD (IntKind.wrap .i64 (IntKind.wrap .i64 (((a0_n.Arcs).length : Int) - 1) - i_32)).toNat dSArc])))]⟩) (sub_gen [0, 1, 2, 3, 4] rfl rfl ⟨zc rfl rfl, zc rfl rfl, zc rfl rfl, zc rfl rfl, zc rfl rfl, zc rfl rfl, zc rfl rfl, zc rfl rfl, trivial⟩ ⟨⟨_, rfl, ⟨ii rfl rfl, ii rfl rfl, trivial⟩⟩, ⟨_, rfl, ⟨ii rfl rfl, ii rfl rfl, trivial⟩⟩, oa rfl, ⟨_, rfl, ⟨ii rfl rfl, ii rfl rfl, trivial⟩⟩, oa rfl, trivial⟩) ?_
        refine SOps.nil ?_
        exact ⟨(n_40, (IntKind.wrap .i64 (i_32 + 1), o2_33 ++ ([SArc.mk ((a0_n.Arcs.getD i_32.toNat dSArc).To) ((a0_n.Arcs.getD i_32.toNat dSArc).From) ((a0_n.Arcs.getD i_32.toNat dSArc).Cap)]), o4_34 ++ ([a0_n.Arcs.getD (IntKind.wrap .i64 (IntKind.wrap .i64 (((a0_n.Arcs).length : Int) - 1) - i_32)).toNat dSArc]))), h, Nat.lt_succ_self n_40, sub_gen [0, 1, 2, 3, 4] rfl rfl ⟨zc rfl rfl, zc rfl rfl, zc rfl rfl, zc rfl rfl, zc rfl rfl, zc rfl rfl, zc rfl rfl, zc rfl rfl, trivial⟩ ⟨⟨_, rfl, ⟨ii rfl rfl, ii rfl rfl, trivial⟩⟩, ⟨_, rfl, ⟨ii rfl rfl, ii rfl rfl, trivial⟩⟩, oa rfl, ⟨_, rfl, ⟨ii rfl rfl, ii rfl rfl, trivial⟩⟩, oa rfl, trivial⟩⟩
      refine SCode.cond_f rfl g41 ?_
      refine SCode.exit ?_
      exact ⟨(o2_33, o4_34), h, sub_gen [1, 2, 3, 4] rfl rfl ⟨zc rfl rfl, zc rfl rfl, zc rfl rfl, zc rfl rfl, zc rfl rfl, zc rfl rfl, trivial⟩ ⟨⟨_, rfl, ⟨ii rfl rfl, ii rfl rfl, trivial⟩⟩, oa rfl, ⟨_, rfl, ⟨ii rfl rfl, ii rfl rfl, trivial⟩⟩, oa rfl, trivial⟩⟩
  rintro ⟨o1_13, o3_14⟩ h
  show SCode _ _ _ ⟨[(1, .c (.int .i64 a1_source)), (2, .c (.int .i64 a2_sink)), (7, .c (.int .i64 c_11.1)), (9, .c (.int .i64 c_11.2.2)), (10, .c (.ptr 0 0)), (11, .c (.ptr 2 0))], [.box [.int .i64 a0_n.Nodes, .own 1 o1_13.length], .arr 50 3 o1_13.length (gL cSArc dSArc o1_13), .box [.int .i64 a0_n.Nodes, .own 3 o3_14.length], .arr 50 3 o3_14.length (gL cSArc dSArc o3_14)]⟩ _
  replace h : chargenetlaw09_FlowTurns_p26 F a0_n a1_source a2_sink c_11 o1_13 o3_14 = some r := h
  unfold chargenetlaw09_FlowTurns_p26 at h
  refine SCode.seq ?_
  refine SCode.sub (st' := ⟨[(1, .c (.int .i64 a1_source)), (2, .c (.int .i64 a2_sink)), (7, .c (.int .i64 c_11.1)), (9, .c (.int .i64 c_11.2.2)), (10, .c (.ptr 0 0)), (11, .c (.ptr 1 0))], [.box [.int .i64 a0_n.Nodes, .vec o1_13.length 3 (gL cSArc dSArc o1_13)], .box [.int .i64 a0_n.Nodes, .own 2 o3_14.length], .arr 50 3 o3_14.length (gL cSArc dSArc o3_14)]⟩) (sub_gen [0, 2, 3] rfl rfl ⟨zc rfl rfl, zc rfl rfl, zc rfl rfl, zc rfl rfl, zc rfl rfl, zc rfl rfl, trivial⟩ ⟨⟨_, rfl, ⟨ii rfl rfl, .inr (.inl ⟨_, _, _, _, _, _, _, rfl, rfl, rfl, Nat.le_refl _, fun _ _ _ _ => rfl, by decide⟩), trivial⟩⟩, ⟨_, rfl, ⟨ii rfl rfl, ii rfl rfl, trivial⟩⟩, oa rfl, trivial⟩) ?_
  obtain ⟨c_15, g16, h⟩ := bind_out h
  try dsimp only at h
  refine SCode.region (show SOps _ _ _ [0, 1, 2, 3, 4, 5, 6, 7, 8, 9, 10] _ _ from ?_)
  refine SOps.q rfl (.plain rfl) rfl (q_load_ptr_all rfl rfl rfl rfl rfl ty24) ?_
  refine SOps.q rfl (.plain rfl) rfl (q_move rfl rfl) ?_
  refine SOps.q rfl (.plain rfl) rfl (q_move rfl rfl) ?_
  refine SOps.q rfl (.plain rfl) rfl (q_call (flow_Max_ok F (SNet.mk a0_n.Nodes o1_13) a2_sink a1_source c_15 g16) [] rfl fn15 ⟨⟨rfl, rfl⟩, ⟨_, rfl, .inl ⟨rfl, rfl⟩⟩, ⟨_, rfl, .inl ⟨rfl, rfl⟩⟩, trivial⟩ (.inl rfl)) ?_
  refine SOps.q rfl (.plain rfl) rfl (q_move rfl rfl) ?_
  refine SOps.q rfl (.plain rfl) rfl (q_extract rfl rfl rfl) ?_
  refine SOps.q rfl (.plain rfl) rfl (q_extract rfl rfl rfl) ?_
  refine SOps.q rfl (.plain rfl) rfl (q_extract rfl rfl rfl) ?_
  refine SOps.q rfl (.plain rfl) rfl (q_assign rfl rfl) ?_
  refine SOps.q rfl (.plain rfl) rfl (q_assign rfl rfl) ?_
  refine SOps.q rfl (.plain rfl) rfl (q_assign rfl rfl) ?_
  refine SOps.sub (st' := ⟨[(1, .c (.int .i64 a1_source)), (2, .c (.int .i64 a2_sink)), (7, .c (.int .i64 c_11.1)), (9, .c (.int .i64 c_11.2.2)), (11, .c (.ptr 0 0)), (14, .c (.int .i64 c_15.1)), (16, .c (.int .i64 c_15.2.2))], [.box [.int .i64 a0_n.Nodes, .own 1 o3_14.length], .arr 50 3 o3_14.length (gL cSArc dSArc o3_14)]⟩) (sub_gen [1, 2] rfl rfl ⟨zc rfl rfl, zc rfl rfl, zc rfl rfl, zc rfl rfl, zc rfl rfl, zc rfl rfl, zc rfl rfl, trivial⟩ ⟨⟨_, rfl, ⟨ii rfl rfl, ii rfl rfl, trivial⟩⟩, oa rfl, trivial⟩) ?_
  refine SOps.nil ?_
  refine SCode.seq ?_
  refine SCode.sub (st' := ⟨[(1, .c (.int .i64 a1_source)), (2, .c (.int .i64 a2_sink)), (7, .c (.int .i64 c_11.1)), (9, .c (.int .i64 c_11.2.2)), (11, .c (.ptr 0 0)), (14, .c (.int .i64 c_15.1)), (16, .c (.int .i64 c_15.2.2))], [.box [.int .i64 a0_n.Nodes, .vec o3_14.length 3 (gL cSArc dSArc o3_14)]]⟩) (sub_gen [0] rfl rfl ⟨zc rfl rfl, zc rfl rfl, zc rfl rfl, zc rfl rfl, zc rfl rfl, zc rfl rfl, zc rfl rfl, trivial⟩ ⟨⟨_, rfl, ⟨ii rfl rfl, .inr (.inl ⟨_, _, _, _, _, _, _, rfl, rfl, rfl, Nat.le_refl _, fun _ _ _ _ => rfl, by decide⟩), trivial⟩⟩, trivial⟩) ?_
  obtain ⟨c_17, g18, h⟩ := bind_out h
  try dsimp only at h
  refine SCode.region (show SOps _ _ _ [0, 1, 2, 3, 4, 5, 6, 7, 8, 9, 10] _ _ from ?_)
  refine SOps.q rfl (.plain rfl) rfl (q_load_ptr_all rfl rfl rfl rfl rfl ty24) ?_
  refine SOps.q rfl (.plain rfl) rfl (q_move rfl rfl) ?_
  refine SOps.q rfl (.plain rfl) rfl (q_move rfl rfl) ?_
  refine SOps.q rfl (.plain rfl) rfl (q_call (flow_Max_ok F (SNet.mk a0_n.Nodes o3_14) a1_source a2_sink c_17 g18) [] rfl fn15 ⟨⟨rfl, rfl⟩, ⟨_, rfl, .inl ⟨rfl, rfl⟩⟩, ⟨_, rfl, .inl ⟨rfl, rfl⟩⟩, trivial⟩ (.inl rfl)) ?_
  refine SOps.q rfl (.plain rfl) rfl (q_move rfl rfl) ?_
  refine SOps.q rfl (.plain rfl) rfl (q_extract rfl rfl rfl) ?_
  refine SOps.q rfl (.plain rfl) rfl (q_extract rfl rfl rfl) ?_
  refine SOps.q rfl (.plain rfl) rfl (q_extract rfl rfl rfl) ?_
  refine SOps.q rfl (.plain rfl) rfl (q_assign rfl rfl) ?_
  refine SOps.q rfl (.plain rfl) rfl (q_assign rfl rfl) ?_
  refine SOps.q rfl (.plain rfl) rfl (q_assign rfl rfl) ?_
  refine SOps.sub (st' := ⟨[(7, .c (.int .i64 c_11.1)), (9, .c (.int .i64 c_11.2.2)), (14, .c (.int .i64 c_15.1)), (16, .c (.int .i64 c_15.2.2)), (17, .c (.int .i64 c_17.1)), (19, .c (.int .i64 c_17.2.2))], []⟩) (sub_gen [] rfl rfl ⟨zc rfl rfl, zc rfl rfl, zc rfl rfl, zc rfl rfl, zc rfl rfl, zc rfl rfl, trivial⟩ trivial) ?_
  refine SOps.nil ?_
  refine SCode.seq ?_
  rcases cond_out h with ⟨g19, h⟩ | ⟨g19, h⟩
  · rcases cond_out h with ⟨g20, h⟩ | ⟨g20, h⟩
    · rcases cond_out h with ⟨g21, h⟩ | ⟨g21, h⟩
      · rcases cond_out h with ⟨g22, h⟩ | ⟨g22, h⟩
        · rcases cond_out h with ⟨g23, h⟩ | ⟨g23, h⟩
          · obtain ⟨c_24, g25, h⟩ := bind_out h
            try dsimp only at h
            refine SCode.region (show SOps _ _ _ [0, 1, 2, 3, 4, 5, 6, 7, 8, 9, 10, 11, 12, 13, 14, 15, 16, 17, 18, 19, 20, 21, 22, 23] _ _ from ?_)
            refine SOps.q rfl (.plain rfl) rfl (q_move rfl rfl) ?_
            refine SOps.q rfl (.plain rfl) rfl (q_move rfl rfl) ?_
            refine SOps.q rfl (.plain rfl) rfl (q_eql rfl rfl rfl) ?_
            refine SOps.q rfl (.plain rfl) rfl (q_move rfl rfl) ?_
            refine SOps.q rfl (.guard 3 103 true rfl rfl (gT g19)) rfl (q_move rfl rfl) ?_
            refine SOps.q rfl (.guard 3 103 true rfl rfl (gT g19)) rfl (q_move rfl rfl) ?_
            refine SOps.q rfl (.guard 3 103 true rfl rfl (gT g19)) rfl (q_eql rfl rfl rfl) ?_
            refine SOps.q rfl (.plain rfl) rfl (q_pick_t rfl rfl g19 rfl) ?_
            refine SOps.q rfl (.plain rfl) rfl (q_move rfl rfl) ?_
            refine SOps.q rfl (.guard 8 108 true rfl rfl (gT g20)) rfl (q_move rfl rfl) ?_
            refine SOps.q rfl (.guard 8 108 true rfl rfl (gT g20)) rfl (q_eql rfl rfl rfl) ?_
            refine SOps.q rfl (.plain rfl) rfl (q_pick_t rfl rfl g20 rfl) ?_
            refine SOps.q rfl (.plain rfl) rfl (q_move rfl rfl) ?_
            refine SOps.q rfl (.guard 12 112 true rfl rfl (gT g21)) rfl (q_move rfl rfl) ?_
            refine SOps.q rfl (.guard 12 112 true rfl rfl (gT g21)) rfl (q_eql rfl rfl rfl) ?_
            refine SOps.q rfl (.plain rfl) rfl (q_pick_t rfl rfl g21 rfl) ?_
            refine SOps.q rfl (.plain rfl) rfl (q_move rfl rfl) ?_
            refine SOps.q rfl (.guard 16 116 true rfl rfl (gT g22)) rfl (q_move rfl rfl) ?_
            refine SOps.q rfl (.guard 16 116 true rfl rfl (gT g22)) rfl (q_eql rfl rfl rfl) ?_
            refine SOps.q rfl (.plain rfl) rfl (q_pick_t rfl rfl g22 rfl) ?_
            refine SOps.q rfl (.plain rfl) rfl (q_move rfl rfl) ?_
            refine SOps.q rfl (.guard 20 120 true rfl rfl (gT g23)) rfl (q_call (chargenetlaw09_awake_ok F  c_24 g25) [] rfl fn11 trivial (.inl rfl)) ?_
            refine SOps.q rfl (.plain rfl) rfl (q_pick_t rfl rfl g23 rfl) ?_
            refine SOps.q rfl (.plain rfl) rfl (q_assign rfl rfl) ?_
            refine SOps.sub (st' := ⟨[(6, .c (.bool c_24))], []⟩) (sub_gen [] rfl rfl ⟨zc rfl rfl, trivial⟩ trivial) ?_
            refine SOps.nil ?_
            refine SCode.ret ?_
            obtain rfl := Option.some.inj h
            exact ⟨⟨[(6, .c (.bool c_24))], []⟩, _, sub_gen [] rfl rfl ⟨zc rfl rfl, trivial⟩ trivial, resA1 (v := .c (.bool c_24)) rfl rfl, rfl⟩
          refine SCode.region (show SOps _ _ _ [0, 1, 2, 3, 4, 5, 6, 7, 8, 9, 10, 11, 12, 13, 14, 15, 16, 17, 18, 19, 20, 21, 22, 23] _ _ from ?_)
          refine SOps.q rfl (.plain rfl) rfl (q_move rfl rfl) ?_
          refine SOps.q rfl (.plain rfl) rfl (q_move rfl rfl) ?_
          refine SOps.q rfl (.plain rfl) rfl (q_eql rfl rfl rfl) ?_
          refine SOps.q rfl (.plain rfl) rfl (q_move rfl rfl) ?_
          refine SOps.q rfl (.guard 3 103 true rfl rfl (gT g19)) rfl (q_move rfl rfl) ?_
          refine SOps.q rfl (.guard 3 103 true rfl rfl (gT g19)) rfl (q_move rfl rfl) ?_
          refine SOps.q rfl (.guard 3 103 true rfl rfl (gT g19)) rfl (q_eql rfl rfl rfl) ?_
          refine SOps.q rfl (.plain rfl) rfl (q_pick_t rfl rfl g19 rfl) ?_
          refine SOps.q rfl (.plain rfl) rfl (q_move rfl rfl) ?_
          refine SOps.q rfl (.guard 8 108 true rfl rfl (gT g20)) rfl (q_move rfl rfl) ?_
          refine SOps.q rfl (.guard 8 108 true rfl rfl (gT g20)) rfl (q_eql rfl rfl rfl) ?_
          refine SOps.q rfl (.plain rfl) rfl (q_pick_t rfl rfl g20 rfl) ?_
          refine SOps.q rfl (.plain rfl) rfl (q_move rfl rfl) ?_
          refine SOps.q rfl (.guard 12 112 true rfl rfl (gT g21)) rfl (q_move rfl rfl) ?_
          refine SOps.q rfl (.guard 12 112 true rfl rfl (gT g21)) rfl (q_eql rfl rfl rfl) ?_
          refine SOps.q rfl (.plain rfl) rfl (q_pick_t rfl rfl g21 rfl) ?_
          refine SOps.q rfl (.plain rfl) rfl (q_move rfl rfl) ?_
          refine SOps.q rfl (.guard 16 116 true rfl rfl (gT g22)) rfl (q_move rfl rfl) ?_
          refine SOps.q rfl (.guard 16 116 true rfl rfl (gT g22)) rfl (q_eql rfl rfl rfl) ?_
          refine SOps.q rfl (.plain rfl) rfl (q_pick_t rfl rfl g22 rfl) ?_
          refine SOps.q rfl (.plain rfl) rfl (q_move rfl rfl) ?_
          refine SOps.skip rfl 20 120 true rfl rfl (.inl (gF g23)) rfl ?_
          refine SOps.q rfl (.plain rfl) rfl (q_pick_f rfl rfl g23 rfl) ?_
          refine SOps.q rfl (.plain rfl) rfl (q_assign rfl rfl) ?_
          refine SOps.sub (st' := ⟨[(6, .c (.bool false))], []⟩) (sub_gen [] rfl rfl ⟨zc rfl rfl, trivial⟩ trivial) ?_
          refine SOps.nil ?_
          refine SCode.ret ?_
          obtain rfl := Option.some.inj h
          exact ⟨⟨[(6, .c (.bool false))], []⟩, _, sub_gen [] rfl rfl ⟨zc rfl rfl, trivial⟩ trivial, resA1 (v := .c (.bool false)) rfl rfl, rfl⟩
        refine SCode.region (show SOps _ _ _ [0, 1, 2, 3, 4, 5, 6, 7, 8, 9, 10, 11, 12, 13, 14, 15, 16, 17, 18, 19, 20, 21, 22, 23] _ _ from ?_)
        refine SOps.q rfl (.plain rfl) rfl (q_move rfl rfl) ?_
        refine SOps.q rfl (.plain rfl) rfl (q_move rfl rfl) ?_
        refine SOps.q rfl (.plain rfl) rfl (q_eql rfl rfl rfl) ?_
        refine SOps.q rfl (.plain rfl) rfl (q_move rfl rfl) ?_
        refine SOps.q rfl (.guard 3 103 true rfl rfl (gT g19)) rfl (q_move rfl rfl) ?_
        refine SOps.q rfl (.guard 3 103 true rfl rfl (gT g19)) rfl (q_move rfl rfl) ?_
        refine SOps.q rfl (.guard 3 103 true rfl rfl (gT g19)) rfl (q_eql rfl rfl rfl) ?_
        refine SOps.q rfl (.plain rfl) rfl (q_pick_t rfl rfl g19 rfl) ?_
        refine SOps.q rfl (.plain rfl) rfl (q_move rfl rfl) ?_
        refine SOps.q rfl (.guard 8 108 true rfl rfl (gT g20)) rfl (q_move rfl rfl) ?_
        refine SOps.q rfl (.guard 8 108 true rfl rfl (gT g20)) rfl (q_eql rfl rfl rfl) ?_
        refine SOps.q rfl (.plain rfl) rfl (q_pick_t rfl rfl g20 rfl) ?_
        refine SOps.q rfl (.plain rfl) rfl (q_move rfl rfl) ?_
        refine SOps.q rfl (.guard 12 112 true rfl rfl (gT g21)) rfl (q_move rfl rfl) ?_
        refine SOps.q rfl (.guard 12 112 true rfl rfl (gT g21)) rfl (q_eql rfl rfl rfl) ?_
        refine SOps.q rfl (.plain rfl) rfl (q_pick_t rfl rfl g21 rfl) ?_
        refine SOps.q rfl (.plain rfl) rfl (q_move rfl rfl) ?_
        refine SOps.skip rfl 16 116 true rfl rfl (.inl (gF g22)) rfl ?_
        refine SOps.skip rfl 16 116 true rfl rfl (.inl (gF g22)) rfl ?_
        refine SOps.q rfl (.plain rfl) rfl (q_pick_f rfl rfl g22 rfl) ?_
        refine SOps.q rfl (.plain rfl) rfl (q_move rfl rfl) ?_
        refine SOps.skip rfl 20 120 true rfl rfl (.inl rfl) rfl ?_
        refine SOps.q rfl (.plain rfl) rfl (q_pick_f rfl rfl rfl rfl) ?_
        refine SOps.q rfl (.plain rfl) rfl (q_assign rfl rfl) ?_
        refine SOps.sub (st' := ⟨[(6, .c (.bool false))], []⟩) (sub_gen [] rfl rfl ⟨zc rfl rfl, trivial⟩ trivial) ?_
        refine SOps.nil ?_
        refine SCode.ret ?_
        obtain rfl := Option.some.inj h
        exact ⟨⟨[(6, .c (.bool false))], []⟩, _, sub_gen [] rfl rfl ⟨zc rfl rfl, trivial⟩ trivial, resA1 (v := .c (.bool false)) rfl rfl, rfl⟩
      refine SCode.region (show SOps _ _ _ [0, 1, 2, 3, 4, 5, 6, 7, 8, 9, 10, 11, 12, 13, 14, 15, 16, 17, 18, 19, 20, 21, 22, 23] _ _ from ?_)
      refine SOps.q rfl (.plain rfl) rfl (q_move rfl rfl) ?_
      refine SOps.q rfl (.plain rfl) rfl (q_move rfl rfl) ?_
      refine SOps.q rfl (.plain rfl) rfl (q_eql rfl rfl rfl) ?_
      refine SOps.q rfl (.plain rfl) rfl (q_move rfl rfl) ?_
      refine SOps.q rfl (.guard 3 103 true rfl rfl (gT g19)) rfl (q_move rfl rfl) ?_
      refine SOps.q rfl (.guard 3 103 true rfl rfl (gT g19)) rfl (q_move rfl rfl) ?_
      refine SOps.q rfl (.guard 3 103 true rfl rfl (gT g19)) rfl (q_eql rfl rfl rfl) ?_
      refine SOps.q rfl (.plain rfl) rfl (q_pick_t rfl rfl g19 rfl) ?_
      refine SOps.q rfl (.plain rfl) rfl (q_move rfl rfl) ?_
      refine SOps.q rfl (.guard 8 108 true rfl rfl (gT g20)) rfl (q_move rfl rfl) ?_
      refine SOps.q rfl (.guard 8 108 true rfl rfl (gT g20)) rfl (q_eql rfl rfl rfl) ?_
      refine SOps.q rfl (.plain rfl) rfl (q_pick_t rfl rfl g20 rfl) ?_
      refine SOps.q rfl (.plain rfl) rfl (q_move rfl rfl) ?_
      refine SOps.skip rfl 12 112 true rfl rfl (.inl (gF g21)) rfl ?_
      refine SOps.skip rfl 12 112 true rfl rfl (.inl (gF g21)) rfl ?_
      refine SOps.q rfl (.plain rfl) rfl (q_pick_f rfl rfl g21 rfl) ?_
      refine SOps.q rfl (.plain rfl) rfl (q_move rfl rfl) ?_
      refine SOps.skip rfl 16 116 true rfl rfl (.inl rfl) rfl ?_
      refine SOps.skip rfl 16 116 true rfl rfl (.inl rfl) rfl ?_
      refine SOps.q rfl (.plain rfl) rfl (q_pick_f rfl rfl rfl rfl) ?_
      refine SOps.q rfl (.plain rfl) rfl (q_move rfl rfl) ?_
      refine SOps.skip rfl 20 120 true rfl rfl (.inl rfl) rfl ?_
      refine SOps.q rfl (.plain rfl) rfl (q_pick_f rfl rfl rfl rfl) ?_
      refine SOps.q rfl (.plain rfl) rfl (q_assign rfl rfl) ?_
      refine SOps.sub (st' := ⟨[(6, .c (.bool false))], []⟩) (sub_gen [] rfl rfl ⟨zc rfl rfl, trivial⟩ trivial) ?_
      refine SOps.nil ?_
      refine SCode.ret ?_
      obtain rfl := Option.some.inj h
      exact ⟨⟨[(6, .c (.bool false))], []⟩, _, sub_gen [] rfl rfl ⟨zc rfl rfl, trivial⟩ trivial, resA1 (v := .c (.bool false)) rfl rfl, rfl⟩
    refine SCode.region (show SOps _ _ _ [0, 1, 2, 3, 4, 5, 6, 7, 8, 9, 10, 11, 12, 13, 14, 15, 16, 17, 18, 19, 20, 21, 22, 23] _ _ from ?_)
    refine SOps.q rfl (.plain rfl) rfl (q_move rfl rfl) ?_
    refine SOps.q rfl (.plain rfl) rfl (q_move rfl rfl) ?_
    refine SOps.q rfl (.plain rfl) rfl (q_eql rfl rfl rfl) ?_
    refine SOps.q rfl (.plain rfl) rfl (q_move rfl rfl) ?_
    refine SOps.q rfl (.guard 3 103 true rfl rfl (gT g19)) rfl (q_move rfl rfl) ?_
    refine SOps.q rfl (.guard 3 103 true rfl rfl (gT g19)) rfl (q_move rfl rfl) ?_
    refine SOps.q rfl (.guard 3 103 true rfl rfl (gT g19)) rfl (q_eql rfl rfl rfl) ?_
    refine SOps.q rfl (.plain rfl) rfl (q_pick_t rfl rfl g19 rfl) ?_
    refine SOps.q rfl (.plain rfl) rfl (q_move rfl rfl) ?_
    refine SOps.skip rfl 8 108 true rfl rfl (.inl (gF g20)) rfl ?_
    refine SOps.skip rfl 8 108 true rfl rfl (.inl (gF g20)) rfl ?_
    refine SOps.q rfl (.plain rfl) rfl (q_pick_f rfl rfl g20 rfl) ?_
    refine SOps.q rfl (.plain rfl) rfl (q_move rfl rfl) ?_
    refine SOps.skip rfl 12 112 true rfl rfl (.inl rfl) rfl ?_
    refine SOps.skip rfl 12 112 true rfl rfl (.inl rfl) rfl ?_
    refine SOps.q rfl (.plain rfl) rfl (q_pick_f rfl rfl rfl rfl) ?_
    refine SOps.q rfl (.plain rfl) rfl (q_move rfl rfl) ?_
    refine SOps.skip rfl 16 116 true rfl rfl (.inl rfl) rfl ?_
    refine SOps.skip rfl 16 116 true rfl rfl (.inl rfl) rfl ?_
    refine SOps.q rfl (.plain rfl) rfl (q_pick_f rfl rfl rfl rfl) ?_
    refine SOps.q rfl (.plain rfl) rfl (q_move rfl rfl) ?_
    refine SOps.skip rfl 20 120 true rfl rfl (.inl rfl) rfl ?_
    refine SOps.q rfl (.plain rfl) rfl (q_pick_f rfl rfl rfl rfl) ?_
    refine SOps.q rfl (.plain rfl) rfl (q_assign rfl rfl) ?_
    refine SOps.sub (st' := ⟨[(6, .c (.bool false))], []⟩) (sub_gen [] rfl rfl ⟨zc rfl rfl, trivial⟩ trivial) ?_
    refine SOps.nil ?_
    refine SCode.ret ?_
    obtain rfl := Option.some.inj h
    exact ⟨⟨[(6, .c (.bool false))], []⟩, _, sub_gen [] rfl rfl ⟨zc rfl rfl, trivial⟩ trivial, resA1 (v := .c (.bool false)) rfl rfl, rfl⟩
  refine SCode.region (show SOps _ _ _ [0, 1, 2, 3, 4, 5, 6, 7, 8, 9, 10, 11, 12, 13, 14, 15, 16, 17, 18, 19, 20, 21, 22, 23] _ _ from ?_)
  refine SOps.q rfl (.plain rfl) rfl (q_move rfl rfl) ?_
  refine SOps.q rfl (.plain rfl) rfl (q_move rfl rfl) ?_
  refine SOps.q rfl (.plain rfl) rfl (q_eql rfl rfl rfl) ?_
  refine SOps.q rfl (.plain rfl) rfl (q_move rfl rfl) ?_
  refine SOps.skip rfl 3 103 true rfl rfl (.inl (gF g19)) rfl ?_
  refine SOps.skip rfl 3 103 true rfl rfl (.inl (gF g19)) rfl ?_
  refine SOps.skip rfl 3 103 true rfl rfl (.inl (gF g19)) rfl ?_
  refine SOps.q rfl (.plain rfl) rfl (q_pick_f rfl rfl g19 rfl) ?_
  refine SOps.q rfl (.plain rfl) rfl (q_move rfl rfl) ?_
  refine SOps.skip rfl 8 108 true rfl rfl (.inl rfl) rfl ?_
  refine SOps.skip rfl 8 108 true rfl rfl (.inl rfl) rfl ?_
  refine SOps.q rfl (.plain rfl) rfl (q_pick_f rfl rfl rfl rfl) ?_
  refine SOps.q rfl (.plain rfl) rfl (q_move rfl rfl) ?_
  refine SOps.skip rfl 12 112 true rfl rfl (.inl rfl) rfl ?_
  refine SOps.skip rfl 12 112 true rfl rfl (.inl rfl) rfl ?_
  refine SOps.q rfl (.plain rfl) rfl (q_pick_f rfl rfl rfl rfl) ?_
  refine SOps.q rfl (.plain rfl) rfl (q_move rfl rfl) ?_
  refine SOps.skip rfl 16 116 true rfl rfl (.inl rfl) rfl ?_
  refine SOps.skip rfl 16 116 true rfl rfl (.inl rfl) rfl ?_
  refine SOps.q rfl (.plain rfl) rfl (q_pick_f rfl rfl rfl rfl) ?_
  refine SOps.q rfl (.plain rfl) rfl (q_move rfl rfl) ?_
  refine SOps.skip rfl 20 120 true rfl rfl (.inl rfl) rfl ?_
  refine SOps.q rfl (.plain rfl) rfl (q_pick_f rfl rfl rfl rfl) ?_
  refine SOps.q rfl (.plain rfl) rfl (q_assign rfl rfl) ?_
  refine SOps.sub (st' := ⟨[(6, .c (.bool false))], []⟩) (sub_gen [] rfl rfl ⟨zc rfl rfl, trivial⟩ trivial) ?_
  refine SOps.nil ?_
  refine SCode.ret ?_
  obtain rfl := Option.some.inj h
  exact ⟨⟨[(6, .c (.bool false))], []⟩, _, sub_gen [] rfl rfl ⟨zc rfl rfl, trivial⟩ trivial, resA1 (v := .c (.bool false)) rfl rfl, rfl⟩
end Go.Proofs.Ytbepoingholchaa.W
