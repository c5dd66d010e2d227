/- Written by a program of ours (wip/eng/gen.py): the functions compute their models. -/
import Derived.Test.YtggfgdohbeoabaaFacts
import Derived.Test.YtggfgdohbeoabaaV5x5
namespace Go.Proofs.Ytggfgdohbeoabaa.W
open Go Go.Proofs Go.Proofs.Ytggfgdohbeoabaa.E Go.Proofs.Ytggfgdohbeoabaa.M
set_option linter.unusedVariables false
set_option maxRecDepth 100000 in
set_option maxHeartbeats 8000000 in
theorem chargenetref39_Give_ok (F : Nat) (a0_roles : List SRole) (a1_grants : List SGrant) (a2_g : SGrant) (r : (List SGrant) × Int) (h : chargenetref39_Give F a0_roles a1_grants a2_g = some r) :
    SFun Try.prog 17 [] [.c (.vec a0_roles.length 4 (gL cSRole dSRole a0_roles)), .c (.vec a1_grants.length 4 (gL cSGrant dSGrant a1_grants)), .a [.str a2_g.User, .str a2_g.Role, .int .i64 a2_g.Span_From, .int .i64 a2_g.Span_To]] (fun x _ => x = .t [.c (.vec r.1.length 4 (gL cSGrant dSGrant r.1)), .c (.int .i64 r.2)]) := by
  refine SFun.of (n := 30) Try.func17 rfl rfl rfl ?_
  unfold chargenetref39_Give at h
  show SCode _ _ _ ⟨[(0, .c (.vec a0_roles.length 4 (gL cSRole dSRole a0_roles))), (1, .c (.vec a1_grants.length 4 (gL cSGrant dSGrant a1_grants))), (2, .a [.str a2_g.User, .str a2_g.Role, .int .i64 a2_g.Span_From, .int .i64 a2_g.Span_To])], []⟩ _
  refine SCode.seq ?_
  refine SCode.region (show SOps _ _ _ [0, 1, 2] _ _ from ?_)
  refine SOps.e rfl (.plain rfl) (e_box rfl rfl rfl rfl rfl rfl) ?_
  refine SOps.q rfl (.plain rfl) rfl (q_assign rfl rfl) ?_
  refine SOps.q rfl (.plain rfl) rfl (q_assign rfl rfl) ?_
  refine SOps.sub (st' := ⟨[(0, .c (.vec a0_roles.length 4 (gL cSRole dSRole a0_roles))), (1, .c (.vec a1_grants.length 4 (gL cSGrant dSGrant a1_grants))), (5, .c (.ptr 0 0))], [.box [.str a2_g.User, .str a2_g.Role, .int .i64 a2_g.Span_From, .int .i64 a2_g.Span_To]]⟩) (sub_gen [0] rfl rfl ⟨zc rfl rfl, zc rfl rfl, zc rfl rfl, trivial⟩ ⟨⟨_, rfl, ⟨ii rfl rfl, ii rfl rfl, ii rfl rfl, ii rfl rfl, trivial⟩⟩, trivial⟩) ?_
  refine SOps.nil ?_
  refine SCode.seq ?_
  refine SCode.seq ?_
  obtain ⟨c_1, g2, h⟩ := bind_out h
  try dsimp only at h
  refine SCode.region (show SOps _ _ _ [0, 1, 2, 3] _ _ from ?_)
  refine SOps.q rfl (.plain rfl) rfl (q_move rfl rfl) ?_
  refine SOps.q rfl (.plain rfl) rfl (q_move rfl rfl) ?_
  refine SOps.q rfl (.plain rfl) rfl (q_call (chargenetref39_Valid_ok F a0_roles a1_grants c_1 g2) [] rfl fn13 ⟨⟨_, rfl, .inl ⟨rfl, rfl⟩⟩, ⟨_, rfl, .inl ⟨rfl, rfl⟩⟩, trivial⟩ (.inl rfl)) ?_
  refine SOps.q rfl (.plain rfl) rfl (q_assign rfl rfl) ?_
  refine SOps.sub (st' := ⟨[(0, .c (.vec a0_roles.length 4 (gL cSRole dSRole a0_roles))), (1, .c (.vec a1_grants.length 4 (gL cSGrant dSGrant a1_grants))), (5, .c (.ptr 0 0)), (8, .c (.int .i64 c_1))], [.box [.str a2_g.User, .str a2_g.Role, .int .i64 a2_g.Span_From, .int .i64 a2_g.Span_To]]⟩) (sub_gen [0] rfl rfl ⟨zc rfl rfl, zc rfl rfl, zc rfl rfl, zc rfl rfl, trivial⟩ ⟨⟨_, rfl, ⟨ii rfl rfl, ii rfl rfl, ii rfl rfl, ii rfl rfl, trivial⟩⟩, trivial⟩) ?_
  refine SOps.nil ?_
  refine SCode.seq ?_
  refine SCode.region (show SOps _ _ _ [0, 1] _ _ from ?_)
  refine SOps.q rfl (.plain rfl) rfl (q_move rfl rfl) ?_
  refine SOps.q rfl (.plain rfl) rfl (q_neq rfl rfl rfl) ?_
  refine SOps.sub (st' := ⟨[(0, .c (.vec a0_roles.length 4 (gL cSRole dSRole a0_roles))), (1, .c (.vec a1_grants.length 4 (gL cSGrant dSGrant a1_grants))), (5, .c (.ptr 0 0)), (8, .c (.int .i64 c_1)), (15, .c (.bool ((!decide (c_1 = 0)))))], [.box [.str a2_g.User, .str a2_g.Role, .int .i64 a2_g.Span_From, .int .i64 a2_g.Span_To]]⟩) (sub_gen [0] rfl rfl ⟨zc rfl rfl, zc rfl rfl, zc rfl rfl, zc rfl rfl, zc rfl rfl, trivial⟩ ⟨⟨_, rfl, ⟨ii rfl rfl, ii rfl rfl, ii rfl rfl, ii rfl rfl, trivial⟩⟩, trivial⟩) ?_
  refine SOps.nil ?_
  rcases cond_out h with ⟨g3, h⟩ | ⟨g3, h⟩
  · refine SCode.cond_t rfl g3 ?_
    refine SCode.seq ?_
    refine SCode.region (show SOps _ _ _ [0, 1, 2] _ _ from ?_)
    refine SOps.q rfl (.plain rfl) rfl (q_move rfl rfl) ?_
    refine SOps.q rfl (.plain rfl) rfl (q_assign rfl rfl) ?_
    refine SOps.q rfl (.plain rfl) rfl (q_assign rfl rfl) ?_
    refine SOps.sub (st' := ⟨[(6, .c (.raw (.slice none 0 0))), (7, .c (.int .i64 c_1))], []⟩) (sub_gen [] rfl rfl ⟨zc rfl rfl, zc rfl rfl, trivial⟩ trivial) ?_
    refine SOps.nil ?_
    refine SCode.ret ?_
    obtain rfl := Option.some.inj h
    exact ⟨⟨[(6, .c (.vec (([] : List SGrant)).length 4 (gL cSGrant dSGrant (([] : List SGrant))))), (7, .c (.int .i64 c_1))], []⟩, _, sub_gen [] rfl rfl ⟨⟨_, rfl, .inr (.inr (.inr (.inl ⟨_, _, rfl, rfl⟩)))⟩, zc rfl rfl, trivial⟩ trivial, resA2 (v1 := .c (.vec (([] : List SGrant)).length 4 (gL cSGrant dSGrant (([] : List SGrant))))) (v2 := .c (.int .i64 c_1)) rfl rfl rfl, rfl⟩
  refine SCode.cond_f rfl g3 ?_
  refine SCode.skip ?_
  refine SCode.seq ?_
  obtain ⟨g4, h⟩ := guard_out h
  obtain ⟨g5, h⟩ := guard_out h
  refine SCode.draw2 (sH := [(21, .c (.vec ([a2_g]).length 4 (gL cSGrant dSGrant ([a2_g])))), (20, .a [.str a2_g.User, .str a2_g.Role, .int .i64 a2_g.Span_From, .int .i64 a2_g.Span_To]), (18, .c (.vec a1_grants.length 4 (gL cSGrant dSGrant a1_grants))), (0, .c (.vec a0_roles.length 4 (gL cSRole dSRole a0_roles))), (1, .c (.vec a1_grants.length 4 (gL cSGrant dSGrant a1_grants))), (5, .c (.ptr 0 0)), (8, .c (.int .i64 c_1)), (15, .c (.bool ((!decide (c_1 = 0)))))]) mixed [[], [], [0, 1], [], [3], [0, 1, 2, 3, 4], [0, 1, 2, 3, 4, 5]] [0, 2, 5, 6] (fun h => List.getD ([] : List (List Nat)) h []) rfl ?_ ⟨[(0, .c (.vec a0_roles.length 4 (gL cSRole dSRole a0_roles))), (9, .c (.own 0 (((([] : List SGrant)) ++ a1_grants) ++ ([a2_g])).length))], [.arr 37 4 (((([] : List SGrant)) ++ a1_grants) ++ ([a2_g])).length (gL cSGrant dSGrant (((([] : List SGrant)) ++ a1_grants) ++ ([a2_g])))]⟩ ?_ ?_
  · refine HChain.tail rfl ?_
    refine HChain.run rfl rfl (.plain rfl) rfl (fun f x => q_move rfl rfl) ?_
    refine HChain.tail rfl ?_
    refine HChain.run rfl rfl (.plain rfl) rfl (fun f x => q_load_ptr_all rfl rfl rfl rfl rfl ty37) ?_
    refine HChain.run rfl rfl (.plain rfl) rfl (fun f x => q_bsliceL (c := cSGrant) (d0 := dSGrant) [a2_g] rfl rfl sl23 z37 rfl rfl rfl rfl rfl rfl rfl) ?_
    refine HChain.tail rfl ?_
    refine HChain.tail rfl ?_
    exact HChain.nil _ _
  · refine TTree.node 0 [] rfl ?_
    refine AllP.cons ?_ ?_
    · refine TStep.d (objs' := [.box [.str a2_g.User, .str a2_g.Role, .int .i64 a2_g.Span_From, .int .i64 a2_g.Span_To], .arr 37 4 (([] : List SGrant)).length (gL cSGrant dSGrant (([] : List SGrant)))]) (v := .c (.own 1 (([] : List SGrant)).length)) [] 17 rfl rfl rfl rfl rfl (fun s2 => by refine EOp.eq (e_bslice0L (α := SGrant) (c := cSGrant) (d0 := dSGrant) rfl rfl rfl rfl sl23) ?_; rfl) ?_
      refine ⟨rfl, (SameP.zero.s rfl), ?_⟩
      refine TTree.node 2 [] rfl ?_
      refine AllP.cons ?_ ?_
      · refine TStep.d (objs' := [.box [.str a2_g.User, .str a2_g.Role, .int .i64 a2_g.Span_From, .int .i64 a2_g.Span_To], .dead, .arr 37 4 ((([] : List SGrant)) ++ a1_grants).length (gL cSGrant dSGrant ((([] : List SGrant)) ++ a1_grants))]) (v := .c (.own 2 ((([] : List SGrant)) ++ a1_grants).length)) [] 19 rfl rfl rfl rfl rfl (fun s2 => by refine EOp.eq (e_appendL (c := cSGrant) (d0 := dSGrant) (l := ([] : List SGrant)) (l2 := a1_grants) rfl rfl rfl rfl rfl rfl (.inl rfl) sl23 z37 rfl rfl oneSGrant g4.1 g4.2) ?_; rfl) ?_
        refine ⟨rfl, (SameP.zero.s rfl), ?_⟩
        refine TTree.node 5 [] rfl ?_
        refine AllP.cons ?_ ?_
        · refine TStep.d (objs' := [.box [.str a2_g.User, .str a2_g.Role, .int .i64 a2_g.Span_From, .int .i64 a2_g.Span_To], .dead, .dead, .arr 37 4 (((([] : List SGrant)) ++ a1_grants) ++ ([a2_g])).length (gL cSGrant dSGrant (((([] : List SGrant)) ++ a1_grants) ++ ([a2_g])))]) (v := .c (.own 3 (((([] : List SGrant)) ++ a1_grants) ++ ([a2_g])).length)) [] 22 rfl rfl rfl rfl rfl (fun s2 => by refine EOp.eq (e_appendL (c := cSGrant) (d0 := dSGrant) (l := (([] : List SGrant)) ++ a1_grants) (l2 := [a2_g]) rfl rfl rfl rfl rfl rfl (.inl rfl) sl23 z37 rfl rfl oneSGrant g5.1 g5.2) ?_; rfl) ?_
          refine ⟨rfl, (SameP.zero.s rfl), ?_⟩
          refine TTree.node 6 [] rfl ?_
          refine AllP.cons ?_ ?_
          · refine TStep.d (objs' := [.box [.str a2_g.User, .str a2_g.Role, .int .i64 a2_g.Span_From, .int .i64 a2_g.Span_To], .dead, .dead, .arr 37 4 (((([] : List SGrant)) ++ a1_grants) ++ ([a2_g])).length (gL cSGrant dSGrant (((([] : List SGrant)) ++ a1_grants) ++ ([a2_g])))]) (v := .c (.own 3 (((([] : List SGrant)) ++ a1_grants) ++ ([a2_g])).length)) [] 9 rfl rfl rfl rfl rfl (fun s2 => by refine EOp.eq (EOp.qd rfl rfl (q_assign rfl rfl)) ?_; rfl) ?_
            refine ⟨rfl, (SameP.zero.s rfl), ?_⟩
            exact TTree.leaf rfl (sub_gen [3] rfl rfl ⟨zc rfl rfl, zc rfl rfl, trivial⟩ ⟨oa rfl, trivial⟩)
          exact AllP.nil
        exact AllP.nil
      exact AllP.nil
    exact AllP.nil
  refine SCode.seq ?_
  refine SCode.seq ?_
  obtain ⟨c_6, g7, h⟩ := bind_out h
  try dsimp only at h
  refine SCode.region (show SOps _ _ _ [0, 1, 2, 3] _ _ from ?_)
  refine SOps.q rfl (.plain rfl) rfl (q_move rfl rfl) ?_
  refine SOps.q rfl (.plain rfl) rfl (q_move rfl rfl) ?_
  refine SOps.q rfl (.plain rfl) rfl (q_call (chargenetref39_Valid_ok F a0_roles (((([] : List SGrant)) ++ a1_grants) ++ ([a2_g])) c_6 g7) [0] rfl fn13 ⟨⟨_, rfl, .inl ⟨rfl, rfl⟩⟩, ⟨_, rfl, .inr (.inl ⟨_, _, _, _, _, _, _, rfl, rfl, rfl, Nat.le_refl _, fun _ _ _ _ => rfl, by decide⟩)⟩, trivial⟩ (.inr rfl)) ?_
  refine SOps.q rfl (.plain rfl) rfl (q_assign rfl rfl) ?_
  refine SOps.sub (st' := ⟨[(9, .c (.own 0 (((([] : List SGrant)) ++ a1_grants) ++ ([a2_g])).length)), (10, .c (.int .i64 c_6))], [.arr 37 4 (((([] : List SGrant)) ++ a1_grants) ++ ([a2_g])).length (gL cSGrant dSGrant (((([] : List SGrant)) ++ a1_grants) ++ ([a2_g])))]⟩) (sub_gen [0] rfl rfl ⟨zc rfl rfl, zc rfl rfl, trivial⟩ ⟨oa rfl, trivial⟩) ?_
  refine SOps.nil ?_
  refine SCode.seq ?_
  refine SCode.region (show SOps _ _ _ [0, 1] _ _ from ?_)
  refine SOps.q rfl (.plain rfl) rfl (q_move rfl rfl) ?_
  refine SOps.q rfl (.plain rfl) rfl (q_neq rfl rfl rfl) ?_
  refine SOps.sub (st' := ⟨[(9, .c (.own 0 (((([] : List SGrant)) ++ a1_grants) ++ ([a2_g])).length)), (10, .c (.int .i64 c_6)), (27, .c (.bool ((!decide (c_6 = 0)))))], [.arr 37 4 (((([] : List SGrant)) ++ a1_grants) ++ ([a2_g])).length (gL cSGrant dSGrant (((([] : List SGrant)) ++ a1_grants) ++ ([a2_g])))]⟩) (sub_gen [0] rfl rfl ⟨zc rfl rfl, zc rfl rfl, zc rfl rfl, trivial⟩ ⟨oa rfl, trivial⟩) ?_
  refine SOps.nil ?_
  rcases cond_out h with ⟨g8, h⟩ | ⟨g8, h⟩
  · refine SCode.cond_t rfl g8 ?_
    refine SCode.seq ?_
    refine SCode.region (show SOps _ _ _ [0, 1, 2] _ _ from ?_)
    refine SOps.q rfl (.plain rfl) rfl (q_move rfl rfl) ?_
    refine SOps.q rfl (.plain rfl) rfl (q_assign rfl rfl) ?_
    refine SOps.q rfl (.plain rfl) rfl (q_assign rfl rfl) ?_
    refine SOps.sub (st' := ⟨[(6, .c (.raw (.slice none 0 0))), (7, .c (.int .i64 c_6))], []⟩) (sub_gen [] rfl rfl ⟨zc rfl rfl, zc rfl rfl, trivial⟩ trivial) ?_
    refine SOps.nil ?_
    refine SCode.ret ?_
    obtain rfl := Option.some.inj h
    exact ⟨⟨[(6, .c (.vec (([] : List SGrant)).length 4 (gL cSGrant dSGrant (([] : List SGrant))))), (7, .c (.int .i64 c_6))], []⟩, _, sub_gen [] rfl rfl ⟨⟨_, rfl, .inr (.inr (.inr (.inl ⟨_, _, rfl, rfl⟩)))⟩, zc rfl rfl, trivial⟩ trivial, resA2 (v1 := .c (.vec (([] : List SGrant)).length 4 (gL cSGrant dSGrant (([] : List SGrant))))) (v2 := .c (.int .i64 c_6)) rfl rfl rfl, rfl⟩
  refine SCode.cond_f rfl g8 ?_
  refine SCode.skip ?_
  refine SCode.seq ?_
  refine SCode.region (show SOps _ _ _ [0, 1, 2] _ _ from ?_)
  refine SOps.q rfl (.plain rfl) rfl (q_move rfl rfl) ?_
  refine SOps.q rfl (.plain rfl) rfl (q_assign rfl rfl) ?_
  refine SOps.q rfl (.plain rfl) rfl (q_assign rfl rfl) ?_
  refine SOps.sub (st' := ⟨[(6, .c (.own 0 (((([] : List SGrant)) ++ a1_grants) ++ ([a2_g])).length)), (7, .c (.int .i64 0))], [.arr 37 4 (((([] : List SGrant)) ++ a1_grants) ++ ([a2_g])).length (gL cSGrant dSGrant (((([] : List SGrant)) ++ a1_grants) ++ ([a2_g])))]⟩) (sub_gen [0] rfl rfl ⟨zc rfl rfl, zc rfl rfl, trivial⟩ ⟨oa rfl, trivial⟩) ?_
  refine SOps.nil ?_
  refine SCode.ret ?_
  obtain rfl := Option.some.inj h
  exact ⟨⟨[(6, .c (.vec (((([] : List SGrant)) ++ a1_grants) ++ ([a2_g])).length 4 (gL cSGrant dSGrant (((([] : List SGrant)) ++ a1_grants) ++ ([a2_g]))))), (7, .c (.int .i64 0))], []⟩, _, sub_gen [] rfl rfl ⟨⟨_, rfl, .inr (.inl ⟨_, _, _, _, _, _, _, rfl, rfl, rfl, Nat.le_refl _, fun _ _ _ _ => rfl, by decide⟩)⟩, zc rfl rfl, trivial⟩ trivial, resA2 (v1 := .c (.vec (((([] : List SGrant)) ++ a1_grants) ++ ([a2_g])).length 4 (gL cSGrant dSGrant (((([] : List SGrant)) ++ a1_grants) ++ ([a2_g]))))) (v2 := .c (.int .i64 0)) rfl rfl rfl, rfl⟩
set_option maxRecDepth 100000 in
set_option maxHeartbeats 8000000 in
theorem chargenetref39_Same_ok (F : Nat) (a0_a : List SGrant) (a1_b : List SGrant) (r : Bool) (h : chargenetref39_Same F a0_a a1_b = some r) :
    SFun Try.prog 18 [] [.c (.vec a0_a.length 4 (gL cSGrant dSGrant a0_a)), .c (.vec a1_b.length 4 (gL cSGrant dSGrant a1_b))] (fun x _ => x = .c (.bool r)) := by
  refine SFun.of (n := 26) Try.func18 rfl rfl rfl ?_
  unfold chargenetref39_Same at h
  show SCode _ _ _ ⟨[(0, .c (.vec a0_a.length 4 (gL cSGrant dSGrant a0_a))), (1, .c (.vec a1_b.length 4 (gL cSGrant dSGrant a1_b)))], []⟩ _
  refine SCode.seq ?_
  refine SCode.region (show SOps _ _ _ [0] _ _ from ?_)
  refine SOps.q rfl (.plain rfl) rfl (q_assign rfl rfl) ?_
  refine SOps.sub (st' := ⟨[(0, .c (.vec a0_a.length 4 (gL cSGrant dSGrant a0_a))), (1, .c (.vec a1_b.length 4 (gL cSGrant dSGrant a1_b)))], []⟩) (sub_gen [] rfl rfl ⟨zc rfl rfl, zc rfl rfl, trivial⟩ trivial) ?_
  refine SOps.nil ?_
  refine SCode.seq ?_
  refine SCode.seq ?_
  refine SCode.region (show SOps _ _ _ [0, 1, 2, 3, 4] _ _ from ?_)
  refine SOps.q rfl (.plain rfl) rfl (q_move rfl rfl) ?_
  refine SOps.q rfl (.plain rfl) rfl (q_len_vec rfl rfl sl23) ?_
  refine SOps.q rfl (.plain rfl) rfl (q_move rfl rfl) ?_
  refine SOps.q rfl (.plain rfl) rfl (q_len_vec rfl rfl sl23) ?_
  refine SOps.q rfl (.plain rfl) rfl (q_neq rfl rfl rfl) ?_
  refine SOps.sub (st' := ⟨[(0, .c (.vec a0_a.length 4 (gL cSGrant dSGrant a0_a))), (1, .c (.vec a1_b.length 4 (gL cSGrant dSGrant a1_b))), (10, .c (.bool ((!decide (((a0_a).length : Int) = ((a1_b).length : Int))))))], []⟩) (sub_gen [] rfl rfl ⟨zc rfl rfl, zc rfl rfl, zc rfl rfl, trivial⟩ trivial) ?_
  refine SOps.nil ?_
  rcases cond_out h with ⟨g1, h⟩ | ⟨g1, h⟩
  · refine SCode.cond_t rfl g1 ?_
    refine SCode.seq ?_
    refine SCode.region (show SOps _ _ _ [0] _ _ from ?_)
    refine SOps.q rfl (.plain rfl) rfl (q_assign rfl rfl) ?_
    refine SOps.sub (st' := ⟨[(4, .c (.bool false))], []⟩) (sub_gen [] rfl rfl ⟨zc rfl rfl, trivial⟩ trivial) ?_
    refine SOps.nil ?_
    refine SCode.ret ?_
    obtain rfl := Option.some.inj h
    exact ⟨⟨[(4, .c (.bool false))], []⟩, _, sub_gen [] rfl rfl ⟨zc rfl rfl, trivial⟩ trivial, resA1 (v := .c (.bool false)) rfl rfl, rfl⟩
  refine SCode.cond_f rfl g1 ?_
  refine SCode.skip ?_
  refine SCode.join (σ := Unit) (S := fun s => ⟨[], []⟩) (g := fun s => chargenetref39_Same_p2 = some r) ?_ ?_
  rotate_left
  · refine SCode.seq ?_
    refine SCode.region (show SOps _ _ _ [0] _ _ from ?_)
    refine SOps.q rfl (.plain rfl) rfl (q_assign rfl rfl) ?_
    refine SOps.sub (st' := ⟨[(0, .c (.vec a0_a.length 4 (gL cSGrant dSGrant a0_a))), (1, .c (.vec a1_b.length 4 (gL cSGrant dSGrant a1_b))), (5, .c (.int .i64 0))], []⟩) (sub_gen [] rfl rfl ⟨zc rfl rfl, zc rfl rfl, zc rfl rfl, trivial⟩ trivial) ?_
    refine SOps.nil ?_
    refine SCode.block ?_
    refine SCode.sub (st' := ⟨[(0, .c (.vec a0_a.length 4 (gL cSGrant dSGrant a0_a))), (1, .c (.vec a1_b.length 4 (gL cSGrant dSGrant a1_b))), (5, .c (.int .i64 0))], []⟩) (sub_gen [] rfl rfl ⟨zc rfl rfl, zc rfl rfl, zc rfl rfl, trivial⟩ trivial) ?_
    refine (SCode.loop (σ := Nat × Int) (S := fun s => ⟨[(0, .c (.vec a0_a.length 4 (gL cSGrant dSGrant a0_a))), (1, .c (.vec a1_b.length 4 (gL cSGrant dSGrant a1_b))), (5, .c (.int .i64 s.2))], []⟩) (g := fun s => chargenetref39_Same_l12 a0_a a1_b s.1 s.2 = some r) (μ := fun s => s.1) (F, 0) h ?_)
    rintro ⟨n_12, i_7⟩ h
    replace h : chargenetref39_Same_l12 a0_a a1_b n_12 i_7 = some r := h
    show SCode _ _ _ ⟨[(0, .c (.vec a0_a.length 4 (gL cSGrant dSGrant a0_a))), (1, .c (.vec a1_b.length 4 (gL cSGrant dSGrant a1_b))), (5, .c (.int .i64 i_7))], []⟩ _
    cases n_12 with
    | zero => cases h
    | succ n_12 =>
      replace h : chargenetref39_Same_b12 a0_a a1_b (fun i_7 => chargenetref39_Same_l12 a0_a a1_b n_12 i_7) i_7 = some r := h
      unfold chargenetref39_Same_b12 at h
      refine SCode.seq ?_
      refine SCode.seq ?_
      refine SCode.region (show SOps _ _ _ [0, 1, 2, 3] _ _ from ?_)
      refine SOps.q rfl (.plain rfl) rfl (q_move rfl rfl) ?_
      refine SOps.q rfl (.plain rfl) rfl (q_move rfl rfl) ?_
      refine SOps.q rfl (.plain rfl) rfl (q_len_vec rfl rfl sl23) ?_
      refine SOps.q rfl (.plain rfl) rfl (q_lss rfl rfl rfl) ?_
      refine SOps.sub (st' := ⟨[(0, .c (.vec a0_a.length 4 (gL cSGrant dSGrant a0_a))), (1, .c (.vec a1_b.length 4 (gL cSGrant dSGrant a1_b))), (5, .c (.int .i64 i_7)), (14, .c (.bool (decide (i_7 < ((a0_a).length : Int)))))], []⟩) (sub_gen [] rfl rfl ⟨zc rfl rfl, zc rfl rfl, zc rfl rfl, zc rfl rfl, trivial⟩ trivial) ?_
      refine SOps.nil ?_
      rcases cond_out h with ⟨g13, h⟩ | ⟨g13, h⟩
      · refine SCode.cond_t rfl g13 ?_
        refine SCode.skip ?_
        refine SCode.seq ?_
        refine SCode.block ?_
        refine SCode.seq ?_
        obtain ⟨g14, h⟩ := guard_out h
        obtain ⟨g15, h⟩ := guard_out h
        refine SCode.draw (s' := [(25, .c (.bool ((xor true (sEq ((a0_a.getD i_7.toNat dSGrant).User) ((a1_b.getD i_7.toNat dSGrant).User) && (sEq ((a0_a.getD i_7.toNat dSGrant).Role) ((a1_b.getD i_7.toNat dSGrant).Role) && (decide ((a0_a.getD i_7.toNat dSGrant).Span_From = (a1_b.getD i_7.toNat dSGrant).Span_From) && (decide ((a0_a.getD i_7.toNat dSGrant).Span_To = (a1_b.getD i_7.toNat dSGrant).Span_To) && true)))))))), (24, .a [.str ((a1_b.getD i_7.toNat dSGrant).User), .str ((a1_b.getD i_7.toNat dSGrant).Role), .int .i64 ((a1_b.getD i_7.toNat dSGrant).Span_From), .int .i64 ((a1_b.getD i_7.toNat dSGrant).Span_To)]), (23, .c (.eptr 4 (cSGrant (a1_b.getD i_7.toNat dSGrant)) 0)), (22, .c (.int .i64 i_7)), (21, .c (.vec a1_b.length 4 (gL cSGrant dSGrant a1_b))), (20, .a [.str ((a0_a.getD i_7.toNat dSGrant).User), .str ((a0_a.getD i_7.toNat dSGrant).Role), .int .i64 ((a0_a.getD i_7.toNat dSGrant).Span_From), .int .i64 ((a0_a.getD i_7.toNat dSGrant).Span_To)]), (19, .c (.eptr 4 (cSGrant (a0_a.getD i_7.toNat dSGrant)) 0)), (18, .c (.int .i64 i_7)), (17, .c (.vec a0_a.length 4 (gL cSGrant dSGrant a0_a))), (0, .c (.vec a0_a.length 4 (gL cSGrant dSGrant a0_a))), (1, .c (.vec a1_b.length 4 (gL cSGrant dSGrant a1_b))), (5, .c (.int .i64 i_7)), (14, .c (.bool (decide (i_7 < ((a0_a).length : Int)))))]) mixed [[], [], [0, 1], [0, 1, 2], [], [], [4, 5], [4, 5, 6], [0, 1, 2, 3, 4, 5, 6, 7]] 9 0 rfl rfl ?_ ?_
        · refine QChain.run rfl (.plain rfl) rfl (q_move rfl rfl) ?_
          refine QChain.run rfl (.plain rfl) rfl (q_move rfl rfl) ?_
          refine QChain.run rfl (.plain rfl) rfl (q_index_vec rfl rfl rfl sl23 rfl g14.1 g14.2) ?_
          refine QChain.run rfl (.plain rfl) rfl (q_load_eptr_all rfl rfl rfl ty37) ?_
          refine QChain.run rfl (.plain rfl) rfl (q_move rfl rfl) ?_
          refine QChain.run rfl (.plain rfl) rfl (q_move rfl rfl) ?_
          refine QChain.run rfl (.plain rfl) rfl (q_index_vec rfl rfl rfl sl23 rfl g15.1 g15.2) ?_
          refine QChain.run rfl (.plain rfl) rfl (q_load_eptr_all rfl rfl rfl ty37) ?_
          refine QChain.run rfl (.plain rfl) rfl (q_eqAgg (neg := true) rfl (.inr rfl) rfl rfl eqt37 rfl) ?_
          exact QChain.nil _ _
        refine (show SOps _ _ _ [] _ _ from ?_)
        refine SOps.sub (st' := ⟨[(0, .c (.vec a0_a.length 4 (gL cSGrant dSGrant a0_a))), (1, .c (.vec a1_b.length 4 (gL cSGrant dSGrant a1_b))), (5, .c (.int .i64 i_7)), (25, .c (.bool ((xor true (sEq ((a0_a.getD i_7.toNat dSGrant).User) ((a1_b.getD i_7.toNat dSGrant).User) && (sEq ((a0_a.getD i_7.toNat dSGrant).Role) ((a1_b.getD i_7.toNat dSGrant).Role) && (decide ((a0_a.getD i_7.toNat dSGrant).Span_From = (a1_b.getD i_7.toNat dSGrant).Span_From) && (decide ((a0_a.getD i_7.toNat dSGrant).Span_To = (a1_b.getD i_7.toNat dSGrant).Span_To) && true))))))))], []⟩) (sub_gen [] rfl rfl ⟨zc rfl rfl, zc rfl rfl, zc rfl rfl, zc rfl rfl, trivial⟩ trivial) ?_
        refine SOps.nil ?_
        rcases cond_out h with ⟨g16, h⟩ | ⟨g16, h⟩
        · refine SCode.cond_t rfl g16 ?_
          refine SCode.seq ?_
          refine SCode.region (show SOps _ _ _ [0] _ _ from ?_)
          refine SOps.q rfl (.plain rfl) rfl (q_assign rfl rfl) ?_
          refine SOps.sub (st' := ⟨[(4, .c (.bool false))], []⟩) (sub_gen [] rfl rfl ⟨zc rfl rfl, trivial⟩ trivial) ?_
          refine SOps.nil ?_
          refine SCode.ret ?_
          obtain rfl := Option.some.inj h
          exact ⟨⟨[(4, .c (.bool false))], []⟩, _, sub_gen [] rfl rfl ⟨zc rfl rfl, trivial⟩ trivial, resA1 (v := .c (.bool false)) rfl rfl, rfl⟩
        refine SCode.cond_f rfl g16 ?_
        refine SCode.skip ?_
        refine SCode.region (show SOps _ _ _ [0, 1, 2] _ _ from ?_)
        refine SOps.q rfl (.plain rfl) rfl (q_move rfl rfl) ?_
        refine SOps.q rfl (.plain rfl) rfl (q_add rfl rfl rfl) ?_
        refine SOps.q rfl (.plain rfl) rfl (q_assign rfl rfl) ?_
        refine SOps.sub (st' := ⟨[(0, .c (.vec a0_a.length 4 (gL cSGrant dSGrant a0_a))), (1, .c (.vec a1_b.length 4 (gL cSGrant dSGrant a1_b))), (5, .c (.int .i64 (IntKind.wrap .i64 (i_7 + 1))))], []⟩) (sub_gen [] rfl rfl ⟨zc rfl rfl, zc rfl rfl, zc rfl rfl, trivial⟩ trivial) ?_
        refine SOps.nil ?_
        exact ⟨(n_12, IntKind.wrap .i64 (i_7 + 1)), h, Nat.lt_succ_self n_12, sub_gen [] rfl rfl ⟨zc rfl rfl, zc rfl rfl, zc rfl rfl, trivial⟩ trivial⟩
      refine SCode.cond_f rfl g13 ?_
      refine SCode.exit ?_
      exact ⟨(), h, sub_gen [] rfl rfl trivial trivial⟩
  rintro ⟨⟩ h
  show SCode _ _ _ ⟨[], []⟩ _
  replace h : chargenetref39_Same_p2 = some r := h
  unfold chargenetref39_Same_p2 at h
  refine SCode.seq ?_
  refine SCode.region (show SOps _ _ _ [0] _ _ from ?_)
  refine SOps.q rfl (.plain rfl) rfl (q_assign rfl rfl) ?_
  refine SOps.sub (st' := ⟨[(4, .c (.bool true))], []⟩) (sub_gen [] rfl rfl ⟨zc rfl rfl, trivial⟩ trivial) ?_
  refine SOps.nil ?_
  refine SCode.ret ?_
  obtain rfl := Option.some.inj h
  exact ⟨⟨[(4, .c (.bool true))], []⟩, _, sub_gen [] rfl rfl ⟨zc rfl rfl, trivial⟩ trivial, resA1 (v := .c (.bool true)) rfl rfl, rfl⟩
set_option maxRecDepth 100000 in
set_option maxHeartbeats 8000000 in
theorem chargenetlaw39_AccessGives_ok (F : Nat) (a0_x : SCase) (a1_g : SGrant) (r : Bool) (h : chargenetlaw39_AccessGives F a0_x a1_g = some r) :
    SFun Try.prog 5 [] [.a [.vec a0_x.Roles.length 4 (gL cSRole dSRole a0_x.Roles), .vec a0_x.Grants.length 4 (gL cSGrant dSGrant a0_x.Grants)], .a [.str a1_g.User, .str a1_g.Role, .int .i64 a1_g.Span_From, .int .i64 a1_g.Span_To]] (fun x _ => x = .c (.bool r)) := by
  refine SFun.of (n := 42) Try.func5 rfl rfl rfl ?_
  unfold chargenetlaw39_AccessGives at h
  show SCode _ _ _ ⟨[(0, .a [.vec a0_x.Roles.length 4 (gL cSRole dSRole a0_x.Roles), .vec a0_x.Grants.length 4 (gL cSGrant dSGrant a0_x.Grants)]), (1, .a [.str a1_g.User, .str a1_g.Role, .int .i64 a1_g.Span_From, .int .i64 a1_g.Span_To])], []⟩ _
  refine SCode.seq ?_
  refine SCode.region (show SOps _ _ _ [0, 1, 2] _ _ from ?_)
  refine SOps.e rfl (.plain rfl) (e_box rfl rfl rfl rfl rfl rfl) ?_
  refine SOps.e rfl (.plain rfl) (e_box rfl rfl rfl rfl rfl rfl) ?_
  refine SOps.q rfl (.plain rfl) rfl (q_assign rfl rfl) ?_
  refine SOps.sub (st' := ⟨[(2, .c (.ptr 0 0)), (3, .c (.ptr 1 0))], [.box [.vec a0_x.Roles.length 4 (gL cSRole dSRole a0_x.Roles), .vec a0_x.Grants.length 4 (gL cSGrant dSGrant a0_x.Grants)], .box [.str a1_g.User, .str a1_g.Role, .int .i64 a1_g.Span_From, .int .i64 a1_g.Span_To]]⟩) (sub_gen [0, 1] rfl rfl ⟨zc rfl rfl, zc rfl rfl, trivial⟩ ⟨⟨_, rfl, ⟨ii rfl rfl, ii rfl rfl, trivial⟩⟩, ⟨_, rfl, ⟨ii rfl rfl, ii rfl rfl, ii rfl rfl, ii rfl rfl, trivial⟩⟩, trivial⟩) ?_
  refine SOps.nil ?_
  refine SCode.seq ?_
  refine SCode.seq ?_
  obtain ⟨c_1, g2, h⟩ := bind_out h
  try dsimp only at h
  refine SCode.region (show SOps _ _ _ [0, 1, 2] _ _ from ?_)
  refine SOps.q rfl (.plain rfl) rfl (q_load_ptr_all rfl rfl rfl rfl rfl ty25) ?_
  refine SOps.q rfl (.plain rfl) rfl (q_call (chargenetlaw39_small_ok F a0_x c_1 g2) [] rfl fn10 ⟨⟨rfl, rfl⟩, trivial⟩ (.inl rfl)) ?_
  refine SOps.q rfl (.plain rfl) rfl (q_not rfl rfl) ?_
  refine SOps.sub (st' := ⟨[(2, .c (.ptr 0 0)), (3, .c (.ptr 1 0)), (11, .c (.bool ((!c_1))))], [.box [.vec a0_x.Roles.length 4 (gL cSRole dSRole a0_x.Roles), .vec a0_x.Grants.length 4 (gL cSGrant dSGrant a0_x.Grants)], .box [.str a1_g.User, .str a1_g.Role, .int .i64 a1_g.Span_From, .int .i64 a1_g.Span_To]]⟩) (sub_gen [0, 1] rfl rfl ⟨zc rfl rfl, zc rfl rfl, zc rfl rfl, trivial⟩ ⟨⟨_, rfl, ⟨ii rfl rfl, ii rfl rfl, trivial⟩⟩, ⟨_, rfl, ⟨ii rfl rfl, ii rfl rfl, ii rfl rfl, ii rfl rfl, trivial⟩⟩, trivial⟩) ?_
  refine SOps.nil ?_
  rcases cond_out h with ⟨g3, h⟩ | ⟨g3, h⟩
  · refine SCode.cond_t rfl g3 ?_
    refine SCode.seq ?_
    obtain ⟨c_4, g5, h⟩ := bind_out h
    try dsimp only at h
    refine SCode.region (show SOps _ _ _ [0, 1] _ _ from ?_)
    refine SOps.q rfl (.plain rfl) rfl (q_call (chargenetlaw39_exampleHolds_ok F  c_4 g5) [] rfl fn11 trivial (.inl rfl)) ?_
    refine SOps.q rfl (.plain rfl) rfl (q_assign rfl rfl) ?_
    refine SOps.sub (st' := ⟨[(4, .c (.bool c_4))], []⟩) (sub_gen [] rfl rfl ⟨zc rfl rfl, trivial⟩ trivial) ?_
    refine SOps.nil ?_
    refine SCode.ret ?_
    obtain rfl := Option.some.inj h
    exact ⟨⟨[(4, .c (.bool c_4))], []⟩, _, sub_gen [] rfl rfl ⟨zc rfl rfl, trivial⟩ trivial, resA1 (v := .c (.bool c_4)) rfl rfl, rfl⟩
  refine SCode.cond_f rfl g3 ?_
  refine SCode.skip ?_
  refine SCode.seq ?_
  obtain ⟨c_6, g7, h⟩ := bind_out h
  try dsimp only at h
  refine SCode.region (show SOps _ _ _ [0, 1, 2, 3, 4, 5, 6, 7, 8, 9, 10] _ _ from ?_)
  refine SOps.q rfl (.plain rfl) rfl (q_field_ptr rfl rfl fd25_0) ?_
  refine SOps.q rfl (.plain rfl) rfl (q_load_ptr rfl rfl rfl rfl ty22) ?_
  refine SOps.q rfl (.plain rfl) rfl (q_field_ptr rfl rfl fd25_1) ?_
  refine SOps.q rfl (.plain rfl) rfl (q_load_ptr rfl rfl rfl rfl ty23) ?_
  refine SOps.q rfl (.plain rfl) rfl (q_load_ptr_all rfl rfl rfl rfl rfl ty37) ?_
  refine SOps.q rfl (.plain rfl) rfl (q_call (access_Give_ok F a0_x.Roles a0_x.Grants a1_g c_6 g7) [] rfl fn16 ⟨⟨_, rfl, .inl ⟨rfl, rfl⟩⟩, ⟨_, rfl, .inl ⟨rfl, rfl⟩⟩, ⟨rfl, rfl⟩, trivial⟩ (.inl rfl)) ?_
  refine SOps.q rfl (.plain rfl) rfl (q_move rfl rfl) ?_
  refine SOps.q rfl (.plain rfl) rfl (q_extract rfl rfl rfl) ?_
  refine SOps.q rfl (.plain rfl) rfl (q_extract rfl rfl rfl) ?_
  refine SOps.q rfl (.plain rfl) rfl (q_assign rfl rfl) ?_
  refine SOps.q rfl (.plain rfl) rfl (q_assign rfl rfl) ?_
  refine SOps.sub (st' := ⟨[(2, .c (.ptr 0 0)), (3, .c (.ptr 1 0)), (5, .c (.vec c_6.1.length 4 (gL cSGrant dSGrant c_6.1))), (6, .c (.int .i64 c_6.2))], [.box [.vec a0_x.Roles.length 4 (gL cSRole dSRole a0_x.Roles), .vec a0_x.Grants.length 4 (gL cSGrant dSGrant a0_x.Grants)], .box [.str a1_g.User, .str a1_g.Role, .int .i64 a1_g.Span_From, .int .i64 a1_g.Span_To]]⟩) (sub_gen [0, 1] rfl rfl ⟨zc rfl rfl, zc rfl rfl, zc rfl rfl, zc rfl rfl, trivial⟩ ⟨⟨_, rfl, ⟨ii rfl rfl, ii rfl rfl, trivial⟩⟩, ⟨_, rfl, ⟨ii rfl rfl, ii rfl rfl, ii rfl rfl, ii rfl rfl, trivial⟩⟩, trivial⟩) ?_
  refine SOps.nil ?_
  refine SCode.seq ?_
  obtain ⟨c_8, g9, h⟩ := bind_out h
  try dsimp only at h
  refine SCode.region (show SOps _ _ _ [0, 1, 2, 3, 4, 5, 6, 7, 8, 9, 10] _ _ from ?_)
  refine SOps.q rfl (.plain rfl) rfl (q_field_ptr rfl rfl fd25_0) ?_
  refine SOps.q rfl (.plain rfl) rfl (q_load_ptr rfl rfl rfl rfl ty22) ?_
  refine SOps.q rfl (.plain rfl) rfl (q_field_ptr rfl rfl fd25_1) ?_
  refine SOps.q rfl (.plain rfl) rfl (q_load_ptr rfl rfl rfl rfl ty23) ?_
  refine SOps.q rfl (.plain rfl) rfl (q_load_ptr_all rfl rfl rfl rfl rfl ty37) ?_
  refine SOps.q rfl (.plain rfl) rfl (q_call (chargenetref39_Give_ok F a0_x.Roles a0_x.Grants a1_g c_8 g9) [] rfl fn17 ⟨⟨_, rfl, .inl ⟨rfl, rfl⟩⟩, ⟨_, rfl, .inl ⟨rfl, rfl⟩⟩, ⟨rfl, rfl⟩, trivial⟩ (.inl rfl)) ?_
  refine SOps.q rfl (.plain rfl) rfl (q_move rfl rfl) ?_
  refine SOps.q rfl (.plain rfl) rfl (q_extract rfl rfl rfl) ?_
  refine SOps.q rfl (.plain rfl) rfl (q_extract rfl rfl rfl) ?_
  refine SOps.q rfl (.plain rfl) rfl (q_assign rfl rfl) ?_
  refine SOps.q rfl (.plain rfl) rfl (q_assign rfl rfl) ?_
  refine SOps.sub (st' := ⟨[(5, .c (.vec c_6.1.length 4 (gL cSGrant dSGrant c_6.1))), (6, .c (.int .i64 c_6.2)), (7, .c (.vec c_8.1.length 4 (gL cSGrant dSGrant c_8.1))), (8, .c (.int .i64 c_8.2))], []⟩) (sub_gen [] rfl rfl ⟨zc rfl rfl, zc rfl rfl, zc rfl rfl, zc rfl rfl, trivial⟩ trivial) ?_
  refine SOps.nil ?_
  refine SCode.seq ?_
  rcases cond_out h with ⟨g10, h⟩ | ⟨g10, h⟩
  · obtain ⟨c_11, g12, h⟩ := bind_out h
    try dsimp only at h
    rcases cond_out h with ⟨g13, h⟩ | ⟨g13, h⟩
    · obtain ⟨c_14, g15, h⟩ := bind_out h
      try dsimp only at h
      refine SCode.region (show SOps _ _ _ [0, 1, 2, 3, 4, 5, 6, 7, 8, 9, 10, 11] _ _ from ?_)
      refine SOps.q rfl (.plain rfl) rfl (q_move rfl rfl) ?_
      refine SOps.q rfl (.plain rfl) rfl (q_move rfl rfl) ?_
      refine SOps.q rfl (.plain rfl) rfl (q_eql rfl rfl rfl) ?_
      refine SOps.q rfl (.plain rfl) rfl (q_move rfl rfl) ?_
      refine SOps.q rfl (.guard 3 34 true rfl rfl (gT g10)) rfl (q_move rfl rfl) ?_
      refine SOps.q rfl (.guard 3 34 true rfl rfl (gT g10)) rfl (q_move rfl rfl) ?_
      refine SOps.q rfl (.guard 3 34 true rfl rfl (gT g10)) rfl (q_call (chargenetref39_Same_ok F c_6.1 c_8.1 c_11 g12) [] rfl fn18 ⟨⟨_, rfl, .inl ⟨rfl, rfl⟩⟩, ⟨_, rfl, .inl ⟨rfl, rfl⟩⟩, trivial⟩ (.inl rfl)) ?_
      refine SOps.q rfl (.plain rfl) rfl (q_pick_t rfl rfl g10 rfl) ?_
      refine SOps.q rfl (.plain rfl) rfl (q_move rfl rfl) ?_
      refine SOps.q rfl (.guard 8 39 true rfl rfl (gT g13)) rfl (q_call (chargenetlaw39_exampleHolds_ok F  c_14 g15) [] rfl fn11 trivial (.inl rfl)) ?_
      refine SOps.q rfl (.plain rfl) rfl (q_pick_t rfl rfl g13 rfl) ?_
      refine SOps.q rfl (.plain rfl) rfl (q_assign rfl rfl) ?_
      refine SOps.sub (st' := ⟨[(4, .c (.bool c_14))], []⟩) (sub_gen [] rfl rfl ⟨zc rfl rfl, trivial⟩ trivial) ?_
      refine SOps.nil ?_
      refine SCode.ret ?_
      obtain rfl := Option.some.inj h
      exact ⟨⟨[(4, .c (.bool c_14))], []⟩, _, sub_gen [] rfl rfl ⟨zc rfl rfl, trivial⟩ trivial, resA1 (v := .c (.bool c_14)) rfl rfl, rfl⟩
    refine SCode.region (show SOps _ _ _ [0, 1, 2, 3, 4, 5, 6, 7, 8, 9, 10, 11] _ _ from ?_)
    refine SOps.q rfl (.plain rfl) rfl (q_move rfl rfl) ?_
    refine SOps.q rfl (.plain rfl) rfl (q_move rfl rfl) ?_
    refine SOps.q rfl (.plain rfl) rfl (q_eql rfl rfl rfl) ?_
    refine SOps.q rfl (.plain rfl) rfl (q_move rfl rfl) ?_
    refine SOps.q rfl (.guard 3 34 true rfl rfl (gT g10)) rfl (q_move rfl rfl) ?_
    refine SOps.q rfl (.guard 3 34 true rfl rfl (gT g10)) rfl (q_move rfl rfl) ?_
    refine SOps.q rfl (.guard 3 34 true rfl rfl (gT g10)) rfl (q_call (chargenetref39_Same_ok F c_6.1 c_8.1 c_11 g12) [] rfl fn18 ⟨⟨_, rfl, .inl ⟨rfl, rfl⟩⟩, ⟨_, rfl, .inl ⟨rfl, rfl⟩⟩, trivial⟩ (.inl rfl)) ?_
    refine SOps.q rfl (.plain rfl) rfl (q_pick_t rfl rfl g10 rfl) ?_
    refine SOps.q rfl (.plain rfl) rfl (q_move rfl rfl) ?_
    refine SOps.skip rfl 8 39 true rfl rfl (.inl (gF g13)) rfl ?_
    refine SOps.q rfl (.plain rfl) rfl (q_pick_f rfl rfl g13 rfl) ?_
    refine SOps.q rfl (.plain rfl) rfl (q_assign rfl rfl) ?_
    refine SOps.sub (st' := ⟨[(4, .c (.bool false))], []⟩) (sub_gen [] rfl rfl ⟨zc rfl rfl, trivial⟩ trivial) ?_
    refine SOps.nil ?_
    refine SCode.ret ?_
    obtain rfl := Option.some.inj h
    exact ⟨⟨[(4, .c (.bool false))], []⟩, _, sub_gen [] rfl rfl ⟨zc rfl rfl, trivial⟩ trivial, resA1 (v := .c (.bool false)) rfl rfl, rfl⟩
  refine SCode.region (show SOps _ _ _ [0, 1, 2, 3, 4, 5, 6, 7, 8, 9, 10, 11] _ _ from ?_)
  refine SOps.q rfl (.plain rfl) rfl (q_move rfl rfl) ?_
  refine SOps.q rfl (.plain rfl) rfl (q_move rfl rfl) ?_
  refine SOps.q rfl (.plain rfl) rfl (q_eql rfl rfl rfl) ?_
  refine SOps.q rfl (.plain rfl) rfl (q_move rfl rfl) ?_
  refine SOps.skip rfl 3 34 true rfl rfl (.inl (gF g10)) rfl ?_
  refine SOps.skip rfl 3 34 true rfl rfl (.inl (gF g10)) rfl ?_
  refine SOps.skip rfl 3 34 true rfl rfl (.inl (gF g10)) rfl ?_
  refine SOps.q rfl (.plain rfl) rfl (q_pick_f rfl rfl g10 rfl) ?_
  refine SOps.q rfl (.plain rfl) rfl (q_move rfl rfl) ?_
  refine SOps.skip rfl 8 39 true rfl rfl (.inl rfl) rfl ?_
  refine SOps.q rfl (.plain rfl) rfl (q_pick_f rfl rfl rfl rfl) ?_
  refine SOps.q rfl (.plain rfl) rfl (q_assign rfl rfl) ?_
  refine SOps.sub (st' := ⟨[(4, .c (.bool false))], []⟩) (sub_gen [] rfl rfl ⟨zc rfl rfl, trivial⟩ trivial) ?_
  refine SOps.nil ?_
  refine SCode.ret ?_
  obtain rfl := Option.some.inj h
  exact ⟨⟨[(4, .c (.bool false))], []⟩, _, sub_gen [] rfl rfl ⟨zc rfl rfl, trivial⟩ trivial, resA1 (v := .c (.bool false)) rfl rfl, rfl⟩
end Go.Proofs.Ytggfgdohbeoabaa.W
