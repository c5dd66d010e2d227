/- Written by a program of ours (wip/eng/gen.py): the functions compute their models. -/
import Derived.Test.YtggfgdohbeoabaaFacts
import Derived.Test.YtggfgdohbeoabaaV3x5
namespace Go.Proofs.Ytggfgdohbeoabaa.W
open Go Go.Proofs Go.Proofs.Ytggfgdohbeoabaa.E Go.Proofs.Ytggfgdohbeoabaa.M
set_option linter.unusedVariables false
set_option maxRecDepth 100000 in
set_option maxHeartbeats 8000000 in
theorem chargenetlaw39_AccessValid_ok (F : Nat) (a0_x : SCase) (r : Bool) (h : chargenetlaw39_AccessValid F a0_x = some r) :
    SFun Try.prog 3 [] [.a [.vec a0_x.Roles.length 4 (gL cSRole dSRole a0_x.Roles), .vec a0_x.Grants.length 4 (gL cSGrant dSGrant a0_x.Grants)]] (fun x _ => x = .c (.bool r)) := by
  refine SFun.of (n := 21) Try.func3 rfl rfl rfl ?_
  unfold chargenetlaw39_AccessValid at h
  show SCode _ _ _ ⟨[(0, .a [.vec a0_x.Roles.length 4 (gL cSRole dSRole a0_x.Roles), .vec a0_x.Grants.length 4 (gL cSGrant dSGrant a0_x.Grants)])], []⟩ _
  refine SCode.seq ?_
  refine SCode.region (show SOps _ _ _ [0, 1] _ _ from ?_)
  refine SOps.e rfl (.plain rfl) (e_box rfl rfl rfl rfl rfl rfl) ?_
  refine SOps.q rfl (.plain rfl) rfl (q_assign rfl rfl) ?_
  refine SOps.sub (st' := ⟨[(1, .c (.ptr 0 0))], [.box [.vec a0_x.Roles.length 4 (gL cSRole dSRole a0_x.Roles), .vec a0_x.Grants.length 4 (gL cSGrant dSGrant a0_x.Grants)]]⟩) (sub_gen [0] rfl rfl ⟨zc rfl rfl, trivial⟩ ⟨⟨_, rfl, ⟨ii rfl rfl, ii rfl rfl, trivial⟩⟩, trivial⟩) ?_
  refine SOps.nil ?_
  refine SCode.seq ?_
  refine SCode.seq ?_
  obtain ⟨c_1, g2, h⟩ := bind_out h
  try dsimp only at h
  refine SCode.region (show SOps _ _ _ [0, 1, 2] _ _ from ?_)
  refine SOps.q rfl (.plain rfl) rfl (q_load_ptr_all rfl rfl rfl rfl rfl ty25) ?_
  refine SOps.q rfl (.plain rfl) rfl (q_call (chargenetlaw39_small_ok F a0_x c_1 g2) [] rfl fn10 ⟨⟨rfl, rfl⟩, trivial⟩ (.inl rfl)) ?_
  refine SOps.q rfl (.plain rfl) rfl (q_not rfl rfl) ?_
  refine SOps.sub (st' := ⟨[(1, .c (.ptr 0 0)), (5, .c (.bool ((!c_1))))], [.box [.vec a0_x.Roles.length 4 (gL cSRole dSRole a0_x.Roles), .vec a0_x.Grants.length 4 (gL cSGrant dSGrant a0_x.Grants)]]⟩) (sub_gen [0] rfl rfl ⟨zc rfl rfl, zc rfl rfl, trivial⟩ ⟨⟨_, rfl, ⟨ii rfl rfl, ii rfl rfl, trivial⟩⟩, trivial⟩) ?_
  refine SOps.nil ?_
  rcases cond_out h with ⟨g3, h⟩ | ⟨g3, h⟩
  · refine SCode.cond_t rfl g3 ?_
    refine SCode.seq ?_
    obtain ⟨c_4, g5, h⟩ := bind_out h
    try dsimp only at h
    refine SCode.region (show SOps _ _ _ [0, 1] _ _ from ?_)
    refine SOps.q rfl (.plain rfl) rfl (q_call (chargenetlaw39_exampleHolds_ok F  c_4 g5) [] rfl fn11 trivial (.inl rfl)) ?_
    refine SOps.q rfl (.plain rfl) rfl (q_assign rfl rfl) ?_
    refine SOps.sub (st' := ⟨[(2, .c (.bool c_4))], []⟩) (sub_gen [] rfl rfl ⟨zc rfl rfl, trivial⟩ trivial) ?_
    refine SOps.nil ?_
    refine SCode.ret ?_
    obtain rfl := Option.some.inj h
    exact ⟨⟨[(2, .c (.bool c_4))], []⟩, _, sub_gen [] rfl rfl ⟨zc rfl rfl, trivial⟩ trivial, resA1 (v := .c (.bool c_4)) rfl rfl, rfl⟩
  refine SCode.cond_f rfl g3 ?_
  refine SCode.skip ?_
  refine SCode.seq ?_
  obtain ⟨c_6, g7, h⟩ := bind_out h
  try dsimp only at h
  obtain ⟨c_8, g9, h⟩ := bind_out h
  try dsimp only at h
  rcases cond_out h with ⟨g10, h⟩ | ⟨g10, h⟩
  · obtain ⟨c_11, g12, h⟩ := bind_out h
    try dsimp only at h
    refine SCode.draw (s' := [(2, .c (.bool c_11)), (20, .c (.bool c_11)), (19, .c (.bool c_11)), (18, .c (.bool (decide (c_6 = c_8)))), (17, .c (.bool (decide (c_6 = c_8)))), (16, .c (.int .i64 c_8)), (15, .c (.vec a0_x.Grants.length 4 (gL cSGrant dSGrant a0_x.Grants))), (14, .c (.ptr 0 1)), (13, .c (.vec a0_x.Roles.length 4 (gL cSRole dSRole a0_x.Roles))), (12, .c (.ptr 0 0)), (11, .c (.int .i64 c_6)), (10, .c (.vec a0_x.Grants.length 4 (gL cSGrant dSGrant a0_x.Grants))), (9, .c (.ptr 0 1)), (8, .c (.vec a0_x.Roles.length 4 (gL cSRole dSRole a0_x.Roles))), (7, .c (.ptr 0 0)), (1, .c (.ptr 0 0)), (5, .c (.bool ((!c_1))))]) mixed [[], [0], [], [2], [0, 1, 2, 3], [], [5], [], [7], [0, 1, 2, 3, 4, 5, 6, 7, 8], [0, 1, 2, 3, 4, 5, 6, 7, 8, 9], [0, 1, 2, 3, 4, 5, 6, 7, 8, 9, 10], [0, 1, 2, 3, 4, 5, 6, 7, 8, 9, 10, 11], [0, 1, 2, 3, 4, 5, 6, 7, 8, 9, 10, 11, 12], [0, 1, 2, 3, 4, 5, 6, 7, 8, 9, 10, 11, 12, 13]] 15 0 rfl rfl ?_ ?_
    · refine QChain.run rfl (.plain rfl) rfl (q_field_ptr rfl rfl fd25_0) ?_
      refine QChain.run rfl (.plain rfl) rfl (q_load_ptr rfl rfl rfl rfl ty22) ?_
      refine QChain.run rfl (.plain rfl) rfl (q_field_ptr rfl rfl fd25_1) ?_
      refine QChain.run rfl (.plain rfl) rfl (q_load_ptr rfl rfl rfl rfl ty23) ?_
      refine QChain.run rfl (.plain rfl) rfl (q_call (access_Valid_ok F a0_x.Roles a0_x.Grants c_6 g7) [] rfl fn12 ⟨⟨_, rfl, .inl ⟨rfl, rfl⟩⟩, ⟨_, rfl, .inl ⟨rfl, rfl⟩⟩, trivial⟩ (.inl rfl)) ?_
      refine QChain.run rfl (.plain rfl) rfl (q_field_ptr rfl rfl fd25_0) ?_
      refine QChain.run rfl (.plain rfl) rfl (q_load_ptr rfl rfl rfl rfl ty22) ?_
      refine QChain.run rfl (.plain rfl) rfl (q_field_ptr rfl rfl fd25_1) ?_
      refine QChain.run rfl (.plain rfl) rfl (q_load_ptr rfl rfl rfl rfl ty23) ?_
      refine QChain.run rfl (.plain rfl) rfl (q_call (chargenetref39_Valid_ok F a0_x.Roles a0_x.Grants c_8 g9) [] rfl fn13 ⟨⟨_, rfl, .inl ⟨rfl, rfl⟩⟩, ⟨_, rfl, .inl ⟨rfl, rfl⟩⟩, trivial⟩ (.inl rfl)) ?_
      refine QChain.run rfl (.plain rfl) rfl (q_eql rfl rfl rfl) ?_
      refine QChain.run rfl (.plain rfl) rfl (q_move rfl rfl) ?_
      refine QChain.run rfl (.guard 11 18 true rfl rfl (gT g10)) rfl (q_call (chargenetlaw39_exampleHolds_ok F  c_11 g12) [] rfl fn11 trivial (.inl rfl)) ?_
      refine QChain.run rfl (.plain rfl) rfl (q_pick_t rfl rfl g10 rfl) ?_
      refine QChain.run rfl (.plain rfl) rfl (q_assign rfl rfl) ?_
      exact QChain.nil _ _
    refine (show SOps _ _ _ [] _ _ from ?_)
    refine SOps.sub (st' := ⟨[(2, .c (.bool c_11))], []⟩) (sub_gen [] rfl rfl ⟨zc rfl rfl, trivial⟩ trivial) ?_
    refine SOps.nil ?_
    refine SCode.ret ?_
    obtain rfl := Option.some.inj h
    exact ⟨⟨[(2, .c (.bool c_11))], []⟩, _, sub_gen [] rfl rfl ⟨zc rfl rfl, trivial⟩ trivial, resA1 (v := .c (.bool c_11)) rfl rfl, rfl⟩
  refine SCode.draw (s' := [(2, .c (.bool false)), (20, .c (.bool false)), (19, .c (.raw (.tuple #[]))), (18, .c (.bool (decide (c_6 = c_8)))), (17, .c (.bool (decide (c_6 = c_8)))), (16, .c (.int .i64 c_8)), (15, .c (.vec a0_x.Grants.length 4 (gL cSGrant dSGrant a0_x.Grants))), (14, .c (.ptr 0 1)), (13, .c (.vec a0_x.Roles.length 4 (gL cSRole dSRole a0_x.Roles))), (12, .c (.ptr 0 0)), (11, .c (.int .i64 c_6)), (10, .c (.vec a0_x.Grants.length 4 (gL cSGrant dSGrant a0_x.Grants))), (9, .c (.ptr 0 1)), (8, .c (.vec a0_x.Roles.length 4 (gL cSRole dSRole a0_x.Roles))), (7, .c (.ptr 0 0)), (1, .c (.ptr 0 0)), (5, .c (.bool ((!c_1))))]) mixed [[], [0], [], [2], [0, 1, 2, 3], [], [5], [], [7], [0, 1, 2, 3, 4, 5, 6, 7, 8], [0, 1, 2, 3, 4, 5, 6, 7, 8, 9], [0, 1, 2, 3, 4, 5, 6, 7, 8, 9, 10], [0, 1, 2, 3, 4, 5, 6, 7, 8, 9, 10, 11], [0, 1, 2, 3, 4, 5, 6, 7, 8, 9, 10, 11, 12], [0, 1, 2, 3, 4, 5, 6, 7, 8, 9, 10, 11, 12, 13]] 15 0 rfl rfl ?_ ?_
  · refine QChain.run rfl (.plain rfl) rfl (q_field_ptr rfl rfl fd25_0) ?_
    refine QChain.run rfl (.plain rfl) rfl (q_load_ptr rfl rfl rfl rfl ty22) ?_
    refine QChain.run rfl (.plain rfl) rfl (q_field_ptr rfl rfl fd25_1) ?_
    refine QChain.run rfl (.plain rfl) rfl (q_load_ptr rfl rfl rfl rfl ty23) ?_
    refine QChain.run rfl (.plain rfl) rfl (q_call (access_Valid_ok F a0_x.Roles a0_x.Grants c_6 g7) [] rfl fn12 ⟨⟨_, rfl, .inl ⟨rfl, rfl⟩⟩, ⟨_, rfl, .inl ⟨rfl, rfl⟩⟩, trivial⟩ (.inl rfl)) ?_
    refine QChain.run rfl (.plain rfl) rfl (q_field_ptr rfl rfl fd25_0) ?_
    refine QChain.run rfl (.plain rfl) rfl (q_load_ptr rfl rfl rfl rfl ty22) ?_
    refine QChain.run rfl (.plain rfl) rfl (q_field_ptr rfl rfl fd25_1) ?_
    refine QChain.run rfl (.plain rfl) rfl (q_load_ptr rfl rfl rfl rfl ty23) ?_
    refine QChain.run rfl (.plain rfl) rfl (q_call (chargenetref39_Valid_ok F a0_x.Roles a0_x.Grants c_8 g9) [] rfl fn13 ⟨⟨_, rfl, .inl ⟨rfl, rfl⟩⟩, ⟨_, rfl, .inl ⟨rfl, rfl⟩⟩, trivial⟩ (.inl rfl)) ?_
    refine QChain.run rfl (.plain rfl) rfl (q_eql rfl rfl rfl) ?_
    refine QChain.run rfl (.plain rfl) rfl (q_move rfl rfl) ?_
    refine QChain.skip rfl ⟨11, 18, true, rfl, rfl, (.inl (gF g10))⟩ rfl ?_
    refine QChain.run rfl (.plain rfl) rfl (q_pick_f rfl rfl g10 rfl) ?_
    refine QChain.run rfl (.plain rfl) rfl (q_assign rfl rfl) ?_
    exact QChain.nil _ _
  refine (show SOps _ _ _ [] _ _ from ?_)
  refine SOps.sub (st' := ⟨[(2, .c (.bool false))], []⟩) (sub_gen [] rfl rfl ⟨zc rfl rfl, trivial⟩ trivial) ?_
  refine SOps.nil ?_
  refine SCode.ret ?_
  obtain rfl := Option.some.inj h
  exact ⟨⟨[(2, .c (.bool false))], []⟩, _, sub_gen [] rfl rfl ⟨zc rfl rfl, trivial⟩ trivial, resA1 (v := .c (.bool false)) rfl rfl, rfl⟩
end Go.Proofs.Ytggfgdohbeoabaa.W
