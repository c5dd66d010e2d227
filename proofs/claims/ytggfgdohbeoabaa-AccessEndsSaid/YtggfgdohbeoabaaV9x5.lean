/- Written by a program of ours (wip/eng/gen.py): the functions compute their models. -/
import Derived.Test.YtggfgdohbeoabaaFacts
import Derived.Test.YtggfgdohbeoabaaV9x4
namespace Go.Proofs.Ytggfgdohbeoabaa.W
open Go Go.Proofs Go.Proofs.Ytggfgdohbeoabaa.E Go.Proofs.Ytggfgdohbeoabaa.M
set_option linter.unusedVariables false
set_option maxRecDepth 100000 in
set_option maxHeartbeats 8000000 in
theorem chargenetlaw39_AccessEnds_ok (F : Nat) (a0_x : SCase) (a1_q : SAsk) (a2_role : ByteArray) (r : Bool) (h : chargenetlaw39_AccessEnds F a0_x a1_q a2_role = some r) :
    SFun Try.prog 9 [] [.a [.vec a0_x.Roles.length 4 (gL cSRole dSRole a0_x.Roles), .vec a0_x.Grants.length 4 (gL cSGrant dSGrant a0_x.Grants)], .a [.str a1_q.User, .int .i64 a1_q.Action, .str a1_q.Object, .int .i64 a1_q.Now], .c (.str a2_role)] (fun x _ => x = .c (.bool r)) := by
  refine SFun.of (n := 151) Try.func9 rfl rfl rfl ?_
  unfold chargenetlaw39_AccessEnds at h
  show SCode _ _ _ ⟨[(0, .a [.vec a0_x.Roles.length 4 (gL cSRole dSRole a0_x.Roles), .vec a0_x.Grants.length 4 (gL cSGrant dSGrant a0_x.Grants)]), (1, .a [.str a1_q.User, .int .i64 a1_q.Action, .str a1_q.Object, .int .i64 a1_q.Now]), (2, .c (.str a2_role))], []⟩ _
  refine SCode.seq ?_
  refine SCode.region (show SOps _ _ _ [0, 1, 2] _ _ from ?_)
  refine SOps.e rfl (.plain rfl) (e_box rfl rfl rfl rfl rfl rfl) ?_
  refine SOps.e rfl (.plain rfl) (e_box rfl rfl rfl rfl rfl rfl) ?_
  refine SOps.q rfl (.plain rfl) rfl (q_assign rfl rfl) ?_
  refine SOps.sub (st' := ⟨[(2, .c (.str a2_role)), (3, .c (.ptr 0 0)), (4, .c (.ptr 1 0))], [.box [.vec a0_x.Roles.length 4 (gL cSRole dSRole a0_x.Roles), .vec a0_x.Grants.length 4 (gL cSGrant dSGrant a0_x.Grants)], .box [.str a1_q.User, .int .i64 a1_q.Action, .str a1_q.Object, .int .i64 a1_q.Now]]⟩) (sub_gen [0, 1] rfl rfl ⟨zc rfl rfl, zc rfl rfl, zc rfl rfl, trivial⟩ ⟨⟨_, rfl, ⟨ii rfl rfl, ii rfl rfl, trivial⟩⟩, ⟨_, rfl, ⟨ii rfl rfl, ii rfl rfl, ii rfl rfl, ii rfl rfl, trivial⟩⟩, trivial⟩) ?_
  refine SOps.nil ?_
  refine SCode.seq ?_
  refine SCode.seq ?_
  obtain ⟨c_1, g2, h⟩ := bind_out h
  try dsimp only at h
  rcases cond_out h with ⟨g3, h⟩ | ⟨g3, h⟩
  · refine SCode.region (show SOps _ _ _ [0, 1, 2, 3, 4, 5, 6, 7, 8, 9, 10] _ _ from ?_)
    refine SOps.q rfl (.plain rfl) rfl (q_load_ptr_all rfl rfl rfl rfl rfl ty25) ?_
    refine SOps.q rfl (.plain rfl) rfl (q_call (chargenetlaw39_small_ok F a0_x c_1 g2) [] rfl fn10 ⟨⟨rfl, rfl⟩, trivial⟩ (.inl rfl)) ?_
    refine SOps.q rfl (.plain rfl) rfl (q_not rfl rfl) ?_
    refine SOps.q rfl (.plain rfl) rfl (q_move rfl rfl) ?_
    refine SOps.skip rfl 3 16 false rfl rfl (.inl (gT g3)) rfl ?_
    refine SOps.skip rfl 3 16 false rfl rfl (.inl (gT g3)) rfl ?_
    refine SOps.skip rfl 3 16 false rfl rfl (.inl (gT g3)) rfl ?_
    refine SOps.skip rfl 3 16 false rfl rfl (.inl (gT g3)) rfl ?_
    refine SOps.skip rfl 3 16 false rfl rfl (.inl (gT g3)) rfl ?_
    refine SOps.skip rfl 3 16 false rfl rfl (.inl (gT g3)) rfl ?_
    refine SOps.q rfl (.plain rfl) rfl (q_pick_t rfl rfl g3 rfl) ?_
    refine SOps.sub (st' := ⟨[(2, .c (.str a2_role)), (3, .c (.ptr 0 0)), (4, .c (.ptr 1 0)), (23, .c (.bool true))], [.box [.vec a0_x.Roles.length 4 (gL cSRole dSRole a0_x.Roles), .vec a0_x.Grants.length 4 (gL cSGrant dSGrant a0_x.Grants)], .box [.str a1_q.User, .int .i64 a1_q.Action, .str a1_q.Object, .int .i64 a1_q.Now]]⟩) (sub_gen [0, 1] rfl rfl ⟨zc rfl rfl, zc rfl rfl, zc rfl rfl, zc rfl rfl, trivial⟩ ⟨⟨_, rfl, ⟨ii rfl rfl, ii rfl rfl, trivial⟩⟩, ⟨_, rfl, ⟨ii rfl rfl, ii rfl rfl, ii rfl rfl, ii rfl rfl, trivial⟩⟩, trivial⟩) ?_
    refine SOps.nil ?_
    refine SCode.cond_t rfl rfl ?_
    refine SCode.seq ?_
    obtain ⟨c_4, g5, h⟩ := bind_out h
    try dsimp only at h
    refine SCode.region (show SOps _ _ _ [0, 1] _ _ from ?_)
    refine SOps.q rfl (.plain rfl) rfl (q_call (chargenetlaw39_exampleHolds_ok F  c_4 g5) [] rfl fn11 trivial (.inl rfl)) ?_
    refine SOps.q rfl (.plain rfl) rfl (q_assign rfl rfl) ?_
    refine SOps.sub (st' := ⟨[(6, .c (.bool c_4))], []⟩) (sub_gen [] rfl rfl ⟨zc rfl rfl, trivial⟩ trivial) ?_
    refine SOps.nil ?_
    refine SCode.ret ?_
    obtain rfl := Option.some.inj h
    exact ⟨⟨[(6, .c (.bool c_4))], []⟩, _, sub_gen [] rfl rfl ⟨zc rfl rfl, trivial⟩ trivial, resA1 (v := .c (.bool c_4)) rfl rfl, rfl⟩
  obtain ⟨c_6, g7, h⟩ := bind_out h
  try dsimp only at h
  refine SCode.region (show SOps _ _ _ [0, 1, 2, 3, 4, 5, 6, 7, 8, 9, 10] _ _ from ?_)
  refine SOps.q rfl (.plain rfl) rfl (q_load_ptr_all rfl rfl rfl rfl rfl ty25) ?_
  refine SOps.q rfl (.plain rfl) rfl (q_call (chargenetlaw39_small_ok F a0_x c_1 g2) [] rfl fn10 ⟨⟨rfl, rfl⟩, trivial⟩ (.inl rfl)) ?_
  refine SOps.q rfl (.plain rfl) rfl (q_not rfl rfl) ?_
  refine SOps.q rfl (.plain rfl) rfl (q_move rfl rfl) ?_
  refine SOps.q rfl (.guard 3 16 false rfl rfl (gF g3)) rfl (q_field_ptr rfl rfl fd25_0) ?_
  refine SOps.q rfl (.guard 3 16 false rfl rfl (gF g3)) rfl (q_load_ptr rfl rfl rfl rfl ty22) ?_
  refine SOps.q rfl (.guard 3 16 false rfl rfl (gF g3)) rfl (q_field_ptr rfl rfl fd25_1) ?_
  refine SOps.q rfl (.guard 3 16 false rfl rfl (gF g3)) rfl (q_load_ptr rfl rfl rfl rfl ty23) ?_
  refine SOps.q rfl (.guard 3 16 false rfl rfl (gF g3)) rfl (q_call (access_Valid_ok F a0_x.Roles a0_x.Grants c_6 g7) [] rfl fn12 ⟨⟨_, rfl, .inl ⟨rfl, rfl⟩⟩, ⟨_, rfl, .inl ⟨rfl, rfl⟩⟩, trivial⟩ (.inl rfl)) ?_
  refine SOps.q rfl (.guard 3 16 false rfl rfl (gF g3)) rfl (q_neq rfl rfl rfl) ?_
  refine SOps.q rfl (.plain rfl) rfl (q_pick_f rfl rfl g3 rfl) ?_
  refine SOps.sub (st' := ⟨[(2, .c (.str a2_role)), (3, .c (.ptr 0 0)), (4, .c (.ptr 1 0)), (23, .c (.bool ((!decide (c_6 = 0)))))], [.box [.vec a0_x.Roles.length 4 (gL cSRole dSRole a0_x.Roles), .vec a0_x.Grants.length 4 (gL cSGrant dSGrant a0_x.Grants)], .box [.str a1_q.User, .int .i64 a1_q.Action, .str a1_q.Object, .int .i64 a1_q.Now]]⟩) (sub_gen [0, 1] rfl rfl ⟨zc rfl rfl, zc rfl rfl, zc rfl rfl, zc rfl rfl, trivial⟩ ⟨⟨_, rfl, ⟨ii rfl rfl, ii rfl rfl, trivial⟩⟩, ⟨_, rfl, ⟨ii rfl rfl, ii rfl rfl, ii rfl rfl, ii rfl rfl, trivial⟩⟩, trivial⟩) ?_
  refine SOps.nil ?_
  rcases cond_out h with ⟨g8, h⟩ | ⟨g8, h⟩
  · refine SCode.cond_t rfl g8 ?_
    refine SCode.seq ?_
    obtain ⟨c_9, g10, h⟩ := bind_out h
    try dsimp only at h
    refine SCode.region (show SOps _ _ _ [0, 1] _ _ from ?_)
    refine SOps.q rfl (.plain rfl) rfl (q_call (chargenetlaw39_exampleHolds_ok F  c_9 g10) [] rfl fn11 trivial (.inl rfl)) ?_
    refine SOps.q rfl (.plain rfl) rfl (q_assign rfl rfl) ?_
    refine SOps.sub (st' := ⟨[(6, .c (.bool c_9))], []⟩) (sub_gen [] rfl rfl ⟨zc rfl rfl, trivial⟩ trivial) ?_
    refine SOps.nil ?_
    refine SCode.ret ?_
    obtain rfl := Option.some.inj h
    exact ⟨⟨[(6, .c (.bool c_9))], []⟩, _, sub_gen [] rfl rfl ⟨zc rfl rfl, trivial⟩ trivial, resA1 (v := .c (.bool c_9)) rfl rfl, rfl⟩
  refine SCode.cond_f rfl g8 ?_
  refine SCode.skip ?_
  refine SCode.seq ?_
  obtain ⟨c_11, g12, h⟩ := bind_out h
  try dsimp only at h
  refine SCode.region (show SOps _ _ _ [0, 1, 2, 3, 4, 5, 6, 7, 8, 9, 10, 11, 12] _ _ from ?_)
  refine SOps.q rfl (.plain rfl) rfl (q_field_ptr rfl rfl fd25_1) ?_
  refine SOps.q rfl (.plain rfl) rfl (q_load_ptr rfl rfl rfl rfl ty23) ?_
  refine SOps.q rfl (.plain rfl) rfl (q_field_ptr rfl rfl fd31_0) ?_
  refine SOps.q rfl (.plain rfl) rfl (q_load_ptr rfl rfl rfl rfl ty9) ?_
  refine SOps.q rfl (.plain rfl) rfl (q_move rfl rfl) ?_
  refine SOps.q rfl (.plain rfl) rfl (q_field_ptr rfl rfl fd31_3) ?_
  refine SOps.q rfl (.plain rfl) rfl (q_load_ptr rfl rfl rfl rfl ty3) ?_
  refine SOps.q rfl (.plain rfl) rfl (q_call (access_Take_ok F a0_x.Grants a1_q.User a2_role a1_q.Now c_11 g12) [] rfl fn19 ⟨⟨_, rfl, .inl ⟨rfl, rfl⟩⟩, ⟨_, rfl, .inl ⟨rfl, rfl⟩⟩, ⟨_, rfl, .inl ⟨rfl, rfl⟩⟩, ⟨_, rfl, .inl ⟨rfl, rfl⟩⟩, trivial⟩ (.inl rfl)) ?_
  refine SOps.q rfl (.plain rfl) rfl (q_move rfl rfl) ?_
  refine SOps.q rfl (.plain rfl) rfl (q_extract rfl rfl rfl) ?_
  refine SOps.q rfl (.plain rfl) rfl (q_extract rfl rfl rfl) ?_
  refine SOps.q rfl (.plain rfl) rfl (q_assign rfl rfl) ?_
  refine SOps.q rfl (.plain rfl) rfl (q_assign rfl rfl) ?_
  refine SOps.sub (st' := ⟨[(3, .c (.ptr 0 0)), (4, .c (.ptr 1 0)), (7, .c (.vec c_11.1.length 4 (gL cSGrant dSGrant c_11.1))), (8, .c (.int .i64 c_11.2))], [.box [.vec a0_x.Roles.length 4 (gL cSRole dSRole a0_x.Roles), .vec a0_x.Grants.length 4 (gL cSGrant dSGrant a0_x.Grants)], .box [.str a1_q.User, .int .i64 a1_q.Action, .str a1_q.Object, .int .i64 a1_q.Now]]⟩) (sub_gen [0, 1] rfl rfl ⟨zc rfl rfl, zc rfl rfl, zc rfl rfl, zc rfl rfl, trivial⟩ ⟨⟨_, rfl, ⟨ii rfl rfl, ii rfl rfl, trivial⟩⟩, ⟨_, rfl, ⟨ii rfl rfl, ii rfl rfl, ii rfl rfl, ii rfl rfl, trivial⟩⟩, trivial⟩) ?_
  refine SOps.nil ?_
  refine SCode.seq ?_
  refine SCode.seq ?_
  refine SCode.region (show SOps _ _ _ [0, 1] _ _ from ?_)
  refine SOps.q rfl (.plain rfl) rfl (q_move rfl rfl) ?_
  refine SOps.q rfl (.plain rfl) rfl (q_neq rfl rfl rfl) ?_
  refine SOps.sub (st' := ⟨[(3, .c (.ptr 0 0)), (4, .c (.ptr 1 0)), (7, .c (.vec c_11.1.length 4 (gL cSGrant dSGrant c_11.1))), (37, .c (.bool ((!decide (c_11.2 = 0)))))], [.box [.vec a0_x.Roles.length 4 (gL cSRole dSRole a0_x.Roles), .vec a0_x.Grants.length 4 (gL cSGrant dSGrant a0_x.Grants)], .box [.str a1_q.User, .int .i64 a1_q.Action, .str a1_q.Object, .int .i64 a1_q.Now]]⟩) (sub_gen [0, 1] rfl rfl ⟨zc rfl rfl, zc rfl rfl, zc rfl rfl, zc rfl rfl, trivial⟩ ⟨⟨_, rfl, ⟨ii rfl rfl, ii rfl rfl, trivial⟩⟩, ⟨_, rfl, ⟨ii rfl rfl, ii rfl rfl, ii rfl rfl, ii rfl rfl, trivial⟩⟩, trivial⟩) ?_
  refine SOps.nil ?_
  rcases cond_out h with ⟨g13, h⟩ | ⟨g13, h⟩
  · refine SCode.cond_t rfl g13 ?_
    refine SCode.seq ?_
    obtain ⟨c_14, g15, h⟩ := bind_out h
    try dsimp only at h
    rcases cond_out h with ⟨g16, h⟩ | ⟨g16, h⟩
    · obtain ⟨c_17, g18, h⟩ := bind_out h
      try dsimp only at h
      refine SCode.region (show SOps _ _ _ [0, 1, 2, 3, 4, 5, 6, 7] _ _ from ?_)
      refine SOps.q rfl (.plain rfl) rfl (q_move rfl rfl) ?_
      refine SOps.q rfl (.plain rfl) rfl (q_field_ptr rfl rfl fd25_1) ?_
      refine SOps.q rfl (.plain rfl) rfl (q_load_ptr rfl rfl rfl rfl ty23) ?_
      refine SOps.q rfl (.plain rfl) rfl (q_call (chargenetref39_Same_ok F c_11.1 a0_x.Grants c_14 g15) [] rfl fn18 ⟨⟨_, rfl, .inl ⟨rfl, rfl⟩⟩, ⟨_, rfl, .inl ⟨rfl, rfl⟩⟩, trivial⟩ (.inl rfl)) ?_
      refine SOps.q rfl (.plain rfl) rfl (q_move rfl rfl) ?_
      refine SOps.q rfl (.guard 4 42 true rfl rfl (gT g16)) rfl (q_call (chargenetlaw39_exampleHolds_ok F  c_17 g18) [] rfl fn11 trivial (.inl rfl)) ?_
      refine SOps.q rfl (.plain rfl) rfl (q_pick_t rfl rfl g16 rfl) ?_
      refine SOps.q rfl (.plain rfl) rfl (q_assign rfl rfl) ?_
      refine SOps.sub (st' := ⟨[(6, .c (.bool c_17))], []⟩) (sub_gen [] rfl rfl ⟨zc rfl rfl, trivial⟩ trivial) ?_
      refine SOps.nil ?_
      refine SCode.ret ?_
      obtain rfl := Option.some.inj h
      exact ⟨⟨[(6, .c (.bool c_17))], []⟩, _, sub_gen [] rfl rfl ⟨zc rfl rfl, trivial⟩ trivial, resA1 (v := .c (.bool c_17)) rfl rfl, rfl⟩
    refine SCode.region (show SOps _ _ _ [0, 1, 2, 3, 4, 5, 6, 7] _ _ from ?_)
    refine SOps.q rfl (.plain rfl) rfl (q_move rfl rfl) ?_
    refine SOps.q rfl (.plain rfl) rfl (q_field_ptr rfl rfl fd25_1) ?_
    refine SOps.q rfl (.plain rfl) rfl (q_load_ptr rfl rfl rfl rfl ty23) ?_
    refine SOps.q rfl (.plain rfl) rfl (q_call (chargenetref39_Same_ok F c_11.1 a0_x.Grants c_14 g15) [] rfl fn18 ⟨⟨_, rfl, .inl ⟨rfl, rfl⟩⟩, ⟨_, rfl, .inl ⟨rfl, rfl⟩⟩, trivial⟩ (.inl rfl)) ?_
    refine SOps.q rfl (.plain rfl) rfl (q_move rfl rfl) ?_
    refine SOps.skip rfl 4 42 true rfl rfl (.inl (gF g16)) rfl ?_
    refine SOps.q rfl (.plain rfl) rfl (q_pick_f rfl rfl g16 rfl) ?_
    refine SOps.q rfl (.plain rfl) rfl (q_assign rfl rfl) ?_
    refine SOps.sub (st' := ⟨[(6, .c (.bool false))], []⟩) (sub_gen [] rfl rfl ⟨zc rfl rfl, trivial⟩ trivial) ?_
    refine SOps.nil ?_
    refine SCode.ret ?_
    obtain rfl := Option.some.inj h
    exact ⟨⟨[(6, .c (.bool false))], []⟩, _, sub_gen [] rfl rfl ⟨zc rfl rfl, trivial⟩ trivial, resA1 (v := .c (.bool false)) rfl rfl, rfl⟩
  refine SCode.cond_f rfl g13 ?_
  refine SCode.skip ?_
  refine SCode.seq ?_
  refine SCode.seq ?_
  obtain ⟨c_19, g20, h⟩ := bind_out h
  try dsimp only at h
  rcases cond_out h with ⟨g21, h⟩ | ⟨g21, h⟩
  · refine SCode.region (show SOps _ _ _ [0, 1, 2, 3, 4, 5, 6, 7, 8, 9, 10, 11, 12] _ _ from ?_)
    refine SOps.q rfl (.plain rfl) rfl (q_field_ptr rfl rfl fd25_0) ?_
    refine SOps.q rfl (.plain rfl) rfl (q_load_ptr rfl rfl rfl rfl ty22) ?_
    refine SOps.q rfl (.plain rfl) rfl (q_move rfl rfl) ?_
    refine SOps.q rfl (.plain rfl) rfl (q_call (access_Valid_ok F a0_x.Roles c_11.1 c_19 g20) [] rfl fn12 ⟨⟨_, rfl, .inl ⟨rfl, rfl⟩⟩, ⟨_, rfl, .inl ⟨rfl, rfl⟩⟩, trivial⟩ (.inl rfl)) ?_
    refine SOps.q rfl (.plain rfl) rfl (q_neq rfl rfl rfl) ?_
    refine SOps.q rfl (.plain rfl) rfl (q_move rfl rfl) ?_
    refine SOps.skip rfl 5 50 false rfl rfl (.inl (gT g21)) rfl ?_
    refine SOps.skip rfl 5 50 false rfl rfl (.inl (gT g21)) rfl ?_
    refine SOps.skip rfl 5 50 false rfl rfl (.inl (gT g21)) rfl ?_
    refine SOps.skip rfl 5 50 false rfl rfl (.inl (gT g21)) rfl ?_
    refine SOps.skip rfl 5 50 false rfl rfl (.inl (gT g21)) rfl ?_
    refine SOps.skip rfl 5 50 false rfl rfl (.inl (gT g21)) rfl ?_
    refine SOps.q rfl (.plain rfl) rfl (q_pick_t rfl rfl g21 rfl) ?_
    refine SOps.sub (st' := ⟨[(3, .c (.ptr 0 0)), (4, .c (.ptr 1 0)), (7, .c (.vec c_11.1.length 4 (gL cSGrant dSGrant c_11.1))), (57, .c (.bool true))], [.box [.vec a0_x.Roles.length 4 (gL cSRole dSRole a0_x.Roles), .vec a0_x.Grants.length 4 (gL cSGrant dSGrant a0_x.Grants)], .box [.str a1_q.User, .int .i64 a1_q.Action, .str a1_q.Object, .int .i64 a1_q.Now]]⟩) (sub_gen [0, 1] rfl rfl ⟨zc rfl rfl, zc rfl rfl, zc rfl rfl, zc rfl rfl, trivial⟩ ⟨⟨_, rfl, ⟨ii rfl rfl, ii rfl rfl, trivial⟩⟩, ⟨_, rfl, ⟨ii rfl rfl, ii rfl rfl, ii rfl rfl, ii rfl rfl, trivial⟩⟩, trivial⟩) ?_
    refine SOps.nil ?_
    refine SCode.cond_t rfl rfl ?_
    refine SCode.seq ?_
    refine SCode.region (show SOps _ _ _ [0] _ _ from ?_)
    refine SOps.q rfl (.plain rfl) rfl (q_assign rfl rfl) ?_
    refine SOps.sub (st' := ⟨[(6, .c (.bool false))], []⟩) (sub_gen [] rfl rfl ⟨zc rfl rfl, trivial⟩ trivial) ?_
    refine SOps.nil ?_
    refine SCode.ret ?_
    obtain rfl := Option.some.inj h
    exact ⟨⟨[(6, .c (.bool false))], []⟩, _, sub_gen [] rfl rfl ⟨zc rfl rfl, trivial⟩ trivial, resA1 (v := .c (.bool false)) rfl rfl, rfl⟩
  refine SCode.region (show SOps _ _ _ [0, 1, 2, 3, 4, 5, 6, 7, 8, 9, 10, 11, 12] _ _ from ?_)
  refine SOps.q rfl (.plain rfl) rfl (q_field_ptr rfl rfl fd25_0) ?_
  refine SOps.q rfl (.plain rfl) rfl (q_load_ptr rfl rfl rfl rfl ty22) ?_
  refine SOps.q rfl (.plain rfl) rfl (q_move rfl rfl) ?_
  refine SOps.q rfl (.plain rfl) rfl (q_call (access_Valid_ok F a0_x.Roles c_11.1 c_19 g20) [] rfl fn12 ⟨⟨_, rfl, .inl ⟨rfl, rfl⟩⟩, ⟨_, rfl, .inl ⟨rfl, rfl⟩⟩, trivial⟩ (.inl rfl)) ?_
  refine SOps.q rfl (.plain rfl) rfl (q_neq rfl rfl rfl) ?_
  refine SOps.q rfl (.plain rfl) rfl (q_move rfl rfl) ?_
  refine SOps.q rfl (.guard 5 50 false rfl rfl (gF g21)) rfl (q_move rfl rfl) ?_
  refine SOps.q rfl (.guard 5 50 false rfl rfl (gF g21)) rfl (q_len_vec rfl rfl sl23) ?_
  refine SOps.q rfl (.guard 5 50 false rfl rfl (gF g21)) rfl (q_field_ptr rfl rfl fd25_1) ?_
  refine SOps.q rfl (.guard 5 50 false rfl rfl (gF g21)) rfl (q_load_ptr rfl rfl rfl rfl ty23) ?_
  refine SOps.q rfl (.guard 5 50 false rfl rfl (gF g21)) rfl (q_len_vec rfl rfl sl23) ?_
  refine SOps.q rfl (.guard 5 50 false rfl rfl (gF g21)) rfl (q_neq rfl rfl rfl) ?_
  refine SOps.q rfl (.plain rfl) rfl (q_pick_f rfl rfl g21 rfl) ?_
  refine SOps.sub (st' := ⟨[(3, .c (.ptr 0 0)), (4, .c (.ptr 1 0)), (7, .c (.vec c_11.1.length 4 (gL cSGrant dSGrant c_11.1))), (57, .c (.bool ((!decide (((c_11.1).length : Int) = ((a0_x.Grants).length : Int))))))], [.box [.vec a0_x.Roles.length 4 (gL cSRole dSRole a0_x.Roles), .vec a0_x.Grants.length 4 (gL cSGrant dSGrant a0_x.Grants)], .box [.str a1_q.User, .int .i64 a1_q.Action, .str a1_q.Object, .int .i64 a1_q.Now]]⟩) (sub_gen [0, 1] rfl rfl ⟨zc rfl rfl, zc rfl rfl, zc rfl rfl, zc rfl rfl, trivial⟩ ⟨⟨_, rfl, ⟨ii rfl rfl, ii rfl rfl, trivial⟩⟩, ⟨_, rfl, ⟨ii rfl rfl, ii rfl rfl, ii rfl rfl, ii rfl rfl, trivial⟩⟩, trivial⟩) ?_
  refine SOps.nil ?_
  rcases cond_out h with ⟨g22, h⟩ | ⟨g22, h⟩
  · refine SCode.cond_t rfl g22 ?_
    refine SCode.seq ?_
    refine SCode.region (show SOps _ _ _ [0] _ _ from ?_)
    refine SOps.q rfl (.plain rfl) rfl (q_assign rfl rfl) ?_
    refine SOps.sub (st' := ⟨[(6, .c (.bool false))], []⟩) (sub_gen [] rfl rfl ⟨zc rfl rfl, trivial⟩ trivial) ?_
    refine SOps.nil ?_
    refine SCode.ret ?_
    obtain rfl := Option.some.inj h
    exact ⟨⟨[(6, .c (.bool false))], []⟩, _, sub_gen [] rfl rfl ⟨zc rfl rfl, trivial⟩ trivial, resA1 (v := .c (.bool false)) rfl rfl, rfl⟩
  refine SCode.cond_f rfl g22 ?_
  refine SCode.skip ?_
  refine SCode.join (σ := Unit) (S := fun s => ⟨[], []⟩) (g := fun s => chargenetlaw39_AccessEnds_p25 F = some r) ?_ ?_
  rotate_left
  · refine SCode.seq ?_
    refine SCode.region (show SOps _ _ _ [0] _ _ from ?_)
    refine SOps.q rfl (.plain rfl) rfl (q_assign rfl rfl) ?_
    refine SOps.sub (st' := ⟨[(3, .c (.ptr 0 0)), (4, .c (.ptr 1 0)), (7, .c (.vec c_11.1.length 4 (gL cSGrant dSGrant c_11.1))), (9, .c (.int .i64 0))], [.box [.vec a0_x.Roles.length 4 (gL cSRole dSRole a0_x.Roles), .vec a0_x.Grants.length 4 (gL cSGrant dSGrant a0_x.Grants)], .box [.str a1_q.User, .int .i64 a1_q.Action, .str a1_q.Object, .int .i64 a1_q.Now]]⟩) (sub_gen [0, 1] rfl rfl ⟨zc rfl rfl, zc rfl rfl, zc rfl rfl, zc rfl rfl, trivial⟩ ⟨⟨_, rfl, ⟨ii rfl rfl, ii rfl rfl, trivial⟩⟩, ⟨_, rfl, ⟨ii rfl rfl, ii rfl rfl, ii rfl rfl, ii rfl rfl, trivial⟩⟩, trivial⟩) ?_
    refine SOps.nil ?_
    refine SCode.block ?_
    refine SCode.sub (st' := ⟨[(3, .c (.ptr 0 0)), (4, .c (.ptr 1 0)), (7, .c (.vec c_11.1.length 4 (gL cSGrant dSGrant c_11.1))), (9, .c (.int .i64 0))], [.box [.vec a0_x.Roles.length 4 (gL cSRole dSRole a0_x.Roles), .vec a0_x.Grants.length 4 (gL cSGrant dSGrant a0_x.Grants)], .box [.str a1_q.User, .int .i64 a1_q.Action, .str a1_q.Object, .int .i64 a1_q.Now]]⟩) (sub_gen [0, 1] rfl rfl ⟨zc rfl rfl, zc rfl rfl, zc rfl rfl, zc rfl rfl, trivial⟩ ⟨⟨_, rfl, ⟨ii rfl rfl, ii rfl rfl, trivial⟩⟩, ⟨_, rfl, ⟨ii rfl rfl, ii rfl rfl, ii rfl rfl, ii rfl rfl, trivial⟩⟩, trivial⟩) ?_
    refine (SCode.loop (σ := Nat × Int) (S := fun s => ⟨[(3, .c (.ptr 0 0)), (4, .c (.ptr 1 0)), (7, .c (.vec c_11.1.length 4 (gL cSGrant dSGrant c_11.1))), (9, .c (.int .i64 s.2))], [.box [.vec a0_x.Roles.length 4 (gL cSRole dSRole a0_x.Roles), .vec a0_x.Grants.length 4 (gL cSGrant dSGrant a0_x.Grants)], .box [.str a1_q.User, .int .i64 a1_q.Action, .str a1_q.Object, .int .i64 a1_q.Now]]⟩) (g := fun s => chargenetlaw39_AccessEnds_l113 F a0_x a1_q c_11 s.1 s.2 = some r) (μ := fun s => s.1) (F, 0) h ?_)
    rintro ⟨n_113, i_69⟩ h
    replace h : chargenetlaw39_AccessEnds_l113 F a0_x a1_q c_11 n_113 i_69 = some r := h
    show SCode _ _ _ ⟨[(3, .c (.ptr 0 0)), (4, .c (.ptr 1 0)), (7, .c (.vec c_11.1.length 4 (gL cSGrant dSGrant c_11.1))), (9, .c (.int .i64 i_69))], [.box [.vec a0_x.Roles.length 4 (gL cSRole dSRole a0_x.Roles), .vec a0_x.Grants.length 4 (gL cSGrant dSGrant a0_x.Grants)], .box [.str a1_q.User, .int .i64 a1_q.Action, .str a1_q.Object, .int .i64 a1_q.Now]]⟩ _
    cases n_113 with
    | zero => cases h
    | succ n_113 =>
      replace h : chargenetlaw39_AccessEnds_b113 F a0_x a1_q c_11 (fun i_69 => chargenetlaw39_AccessEnds_l113 F a0_x a1_q c_11 n_113 i_69) i_69 = some r := h
      unfold chargenetlaw39_AccessEnds_b113 at h
      refine SCode.seq ?_
      refine SCode.seq ?_
      rcases cond_out h with ⟨g114, h⟩ | ⟨g114, h⟩
      · refine SCode.region (show SOps _ _ _ [0, 1, 2, 3, 4, 5, 6, 7, 8] _ _ from ?_)
        refine SOps.q rfl (.plain rfl) rfl (q_move rfl rfl) ?_
        refine SOps.q rfl (.plain rfl) rfl (q_field_ptr rfl rfl fd25_1) ?_
        refine SOps.q rfl (.plain rfl) rfl (q_load_ptr rfl rfl rfl rfl ty23) ?_
        refine SOps.q rfl (.plain rfl) rfl (q_len_vec rfl rfl sl23) ?_
        refine SOps.q rfl (.plain rfl) rfl (q_lss rfl rfl rfl) ?_
        refine SOps.q rfl (.plain rfl) rfl (q_move rfl rfl) ?_
        refine SOps.q rfl (.guard 5 63 true rfl rfl (gT g114)) rfl (q_move rfl rfl) ?_
        refine SOps.q rfl (.guard 5 63 true rfl rfl (gT g114)) rfl (q_lss rfl rfl rfl) ?_
        refine SOps.q rfl (.plain rfl) rfl (q_pick_t rfl rfl g114 rfl) ?_
        refine SOps.sub (st' := ⟨[(3, .c (.ptr 0 0)), (4, .c (.ptr 1 0)), (7, .c (.vec c_11.1.length 4 (gL cSGrant dSGrant c_11.1))), (9, .c (.int .i64 i_69)), (66, .c (.bool (decide (i_69 < 20))))], [.box [.vec a0_x.Roles.length 4 (gL cSRole dSRole a0_x.Roles), .vec a0_x.Grants.length 4 (gL cSGrant dSGrant a0_x.Grants)], .box [.str a1_q.User, .int .i64 a1_q.Action, .str a1_q.Object, .int .i64 a1_q.Now]]⟩) (sub_gen [0, 1] rfl rfl ⟨zc rfl rfl, zc rfl rfl, zc rfl rfl, zc rfl rfl, zc rfl rfl, trivial⟩ ⟨⟨_, rfl, ⟨ii rfl rfl, ii rfl rfl, trivial⟩⟩, ⟨_, rfl, ⟨ii rfl rfl, ii rfl rfl, ii rfl rfl, ii rfl rfl, trivial⟩⟩, trivial⟩) ?_
        refine SOps.nil ?_
        rcases cond_out h with ⟨g115, h⟩ | ⟨g115, h⟩
        · refine SCode.cond_t rfl g115 ?_
          refine SCode.skip ?_
          refine SCode.join (σ := Unit) (S := fun s => ⟨[(3, .c (.ptr 0 0)), (4, .c (.ptr 1 0)), (7, .c (.vec c_11.1.length 4 (gL cSGrant dSGrant c_11.1))), (9, .c (.int .i64 i_69))], [.box [.vec a0_x.Roles.length 4 (gL cSRole dSRole a0_x.Roles), .vec a0_x.Grants.length 4 (gL cSGrant dSGrant a0_x.Grants)], .box [.str a1_q.User, .int .i64 a1_q.Action, .str a1_q.Object, .int .i64 a1_q.Now]]⟩) (g := fun s => chargenetlaw39_AccessEnds_p116 i_69 (fun i_69 => chargenetlaw39_AccessEnds_l113 F a0_x a1_q c_11 n_113 i_69) = some r) ?_ ?_
          rotate_left
          · refine SCode.block ?_
            refine SCode.seq ?_
            obtain ⟨g117, h⟩ := guard_out h
            refine SCode.region (show SOps _ _ _ [0, 1, 2, 3, 4, 5, 6] _ _ from ?_)
            refine SOps.q rfl (.plain rfl) rfl (q_field_ptr rfl rfl fd25_1) ?_
            refine SOps.q rfl (.plain rfl) rfl (q_load_ptr rfl rfl rfl rfl ty23) ?_
            refine SOps.q rfl (.plain rfl) rfl (q_move rfl rfl) ?_
            refine SOps.q rfl (.plain rfl) rfl (q_index_vec rfl rfl rfl sl23 rfl g117.1 g117.2) ?_
            refine SOps.q rfl (.plain rfl) rfl (q_field_eptr rfl rfl fd37_0 rfl) ?_
            refine SOps.q rfl (.plain rfl) rfl (q_load_eptr rfl rfl ty9) ?_
            refine SOps.q rfl (.plain rfl) rfl (q_assign rfl rfl) ?_
            refine SOps.sub (st' := ⟨[(3, .c (.ptr 0 0)), (4, .c (.ptr 1 0)), (7, .c (.vec c_11.1.length 4 (gL cSGrant dSGrant c_11.1))), (9, .c (.int .i64 i_69)), (10, .c (.str ((a0_x.Grants.getD i_69.toNat dSGrant).User)))], [.box [.vec a0_x.Roles.length 4 (gL cSRole dSRole a0_x.Roles), .vec a0_x.Grants.length 4 (gL cSGrant dSGrant a0_x.Grants)], .box [.str a1_q.User, .int .i64 a1_q.Action, .str a1_q.Object, .int .i64 a1_q.Now]]⟩) (sub_gen [0, 1] rfl rfl ⟨zc rfl rfl, zc rfl rfl, zc rfl rfl, zc rfl rfl, zc rfl rfl, trivial⟩ ⟨⟨_, rfl, ⟨ii rfl rfl, ii rfl rfl, trivial⟩⟩, ⟨_, rfl, ⟨ii rfl rfl, ii rfl rfl, ii rfl rfl, ii rfl rfl, trivial⟩⟩, trivial⟩) ?_
            refine SOps.nil ?_
            refine SCode.join (σ := Unit) (S := fun s => ⟨[(3, .c (.ptr 0 0)), (4, .c (.ptr 1 0)), (7, .c (.vec c_11.1.length 4 (gL cSGrant dSGrant c_11.1))), (9, .c (.int .i64 i_69)), (10, .c (.str ((a0_x.Grants.getD i_69.toNat dSGrant).User)))], [.box [.vec a0_x.Roles.length 4 (gL cSRole dSRole a0_x.Roles), .vec a0_x.Grants.length 4 (gL cSGrant dSGrant a0_x.Grants)], .box [.str a1_q.User, .int .i64 a1_q.Action, .str a1_q.Object, .int .i64 a1_q.Now]]⟩) (g := fun s => chargenetlaw39_AccessEnds_p124 F a0_x a1_q c_11 i_69 (fun i_69 => chargenetlaw39_AccessEnds_l113 F a0_x a1_q c_11 n_113 i_69) = some r) ?_ ?_
            rotate_left
            · refine SCode.seq ?_
              refine SCode.region (show SOps _ _ _ [0, 1, 2, 3, 4, 5, 6, 7, 8] _ _ from ?_)
              refine SOps.q rfl (.plain rfl) rfl (q_field_ptr rfl rfl fd31_3) ?_
              refine SOps.q rfl (.plain rfl) rfl (q_load_ptr rfl rfl rfl rfl ty3) ?_
              refine SOps.q rfl (.plain rfl) rfl (q_sub rfl rfl rfl) ?_
              refine SOps.q rfl (.plain rfl) rfl (q_field_ptr rfl rfl fd31_3) ?_
              refine SOps.q rfl (.plain rfl) rfl (q_load_ptr rfl rfl rfl rfl ty3) ?_
              refine SOps.q rfl (.plain rfl) rfl (q_quo rfl rfl rfl (by decide)) ?_
              refine SOps.q rfl (.plain rfl) rfl (q_bsliceL (c := (cInt .i64)) (d0 := 0) [IntKind.wrap .i64 (a1_q.Now - 1), 0, IntKind.wrap .i64 (Int.tdiv a1_q.Now 2)] rfl rfl sl48 z3 rfl rfl rfl rfl rfl rfl rfl) ?_
              refine SOps.q rfl (.plain rfl) rfl (q_len_vec rfl rfl sl48) ?_
              refine SOps.q rfl (.plain rfl) rfl (q_move rfl rfl) ?_
              refine SOps.sub (st' := ⟨[(3, .c (.ptr 0 0)), (4, .c (.ptr 1 0)), (7, .c (.vec c_11.1.length 4 (gL cSGrant dSGrant c_11.1))), (9, .c (.int .i64 i_69)), (10, .c (.str ((a0_x.Grants.getD i_69.toNat dSGrant).User))), (81, .c (.vec ([IntKind.wrap .i64 (a1_q.Now - 1), 0, IntKind.wrap .i64 (Int.tdiv a1_q.Now 2)]).length 1 (gL (cInt .i64) 0 ([IntKind.wrap .i64 (a1_q.Now - 1), 0, IntKind.wrap .i64 (Int.tdiv a1_q.Now 2)])))), (82, .c (.int .i64 ((([IntKind.wrap .i64 (a1_q.Now - 1), 0, IntKind.wrap .i64 (Int.tdiv a1_q.Now 2)]).length : Int)))), (83, .c (.int .i64 0))], [.box [.vec a0_x.Roles.length 4 (gL cSRole dSRole a0_x.Roles), .vec a0_x.Grants.length 4 (gL cSGrant dSGrant a0_x.Grants)], .box [.str a1_q.User, .int .i64 a1_q.Action, .str a1_q.Object, .int .i64 a1_q.Now]]⟩) (sub_gen [0, 1] rfl rfl ⟨zc rfl rfl, zc rfl rfl, zc rfl rfl, zc rfl rfl, zc rfl rfl, zc rfl rfl, zc rfl rfl, zc rfl rfl, trivial⟩ ⟨⟨_, rfl, ⟨ii rfl rfl, ii rfl rfl, trivial⟩⟩, ⟨_, rfl, ⟨ii rfl rfl, ii rfl rfl, ii rfl rfl, ii rfl rfl, trivial⟩⟩, trivial⟩) ?_
              refine SOps.nil ?_
              refine SCode.block ?_
              refine SCode.sub (st' := ⟨[(3, .c (.ptr 0 0)), (4, .c (.ptr 1 0)), (7, .c (.vec c_11.1.length 4 (gL cSGrant dSGrant c_11.1))), (9, .c (.int .i64 i_69)), (10, .c (.str ((a0_x.Grants.getD i_69.toNat dSGrant).User))), (81, .c (.vec ([IntKind.wrap .i64 (a1_q.Now - 1), 0, IntKind.wrap .i64 (Int.tdiv a1_q.Now 2)]).length 1 (gL (cInt .i64) 0 ([IntKind.wrap .i64 (a1_q.Now - 1), 0, IntKind.wrap .i64 (Int.tdiv a1_q.Now 2)])))), (82, .c (.int .i64 ((([IntKind.wrap .i64 (a1_q.Now - 1), 0, IntKind.wrap .i64 (Int.tdiv a1_q.Now 2)]).length : Int)))), (83, .c (.int .i64 0))], [.box [.vec a0_x.Roles.length 4 (gL cSRole dSRole a0_x.Roles), .vec a0_x.Grants.length 4 (gL cSGrant dSGrant a0_x.Grants)], .box [.str a1_q.User, .int .i64 a1_q.Action, .str a1_q.Object, .int .i64 a1_q.Now]]⟩) (sub_gen [0, 1] rfl rfl ⟨zc rfl rfl, zc rfl rfl, zc rfl rfl, zc rfl rfl, zc rfl rfl, zc rfl rfl, zc rfl rfl, zc rfl rfl, trivial⟩ ⟨⟨_, rfl, ⟨ii rfl rfl, ii rfl rfl, trivial⟩⟩, ⟨_, rfl, ⟨ii rfl rfl, ii rfl rfl, ii rfl rfl, ii rfl rfl, trivial⟩⟩, trivial⟩) ?_
              refine (SCode.loop (σ := Nat × Int) (S := fun s => ⟨[(3, .c (.ptr 0 0)), (4, .c (.ptr 1 0)), (7, .c (.vec c_11.1.length 4 (gL cSGrant dSGrant c_11.1))), (9, .c (.int .i64 i_69)), (10, .c (.str ((a0_x.Grants.getD i_69.toNat dSGrant).User))), (81, .c (.vec ([IntKind.wrap .i64 (a1_q.Now - 1), 0, IntKind.wrap .i64 (Int.tdiv a1_q.Now 2)]).length 1 (gL (cInt .i64) 0 ([IntKind.wrap .i64 (a1_q.Now - 1), 0, IntKind.wrap .i64 (Int.tdiv a1_q.Now 2)])))), (82, .c (.int .i64 ((([IntKind.wrap .i64 (a1_q.Now - 1), 0, IntKind.wrap .i64 (Int.tdiv a1_q.Now 2)]).length : Int)))), (83, .c (.int .i64 s.2))], [.box [.vec a0_x.Roles.length 4 (gL cSRole dSRole a0_x.Roles), .vec a0_x.Grants.length 4 (gL cSGrant dSGrant a0_x.Grants)], .box [.str a1_q.User, .int .i64 a1_q.Action, .str a1_q.Object, .int .i64 a1_q.Now]]⟩) (g := fun s => chargenetlaw39_AccessEnds_l146 F a0_x a1_q c_11 i_69 (fun i_69 => chargenetlaw39_AccessEnds_l113 F a0_x a1_q c_11 n_113 i_69) s.1 s.2 = some r) (μ := fun s => s.1) (F, 0) h ?_)
              rintro ⟨n_146, t83_135⟩ h
              replace h : chargenetlaw39_AccessEnds_l146 F a0_x a1_q c_11 i_69 (fun i_69 => chargenetlaw39_AccessEnds_l113 F a0_x a1_q c_11 n_113 i_69) n_146 t83_135 = some r := h
              show SCode _ _ _ ⟨[(3, .c (.ptr 0 0)), (4, .c (.ptr 1 0)), (7, .c (.vec c_11.1.length 4 (gL cSGrant dSGrant c_11.1))), (9, .c (.int .i64 i_69)), (10, .c (.str ((a0_x.Grants.getD i_69.toNat dSGrant).User))), (81, .c (.vec ([IntKind.wrap .i64 (a1_q.Now - 1), 0, IntKind.wrap .i64 (Int.tdiv a1_q.Now 2)]).length 1 (gL (cInt .i64) 0 ([IntKind.wrap .i64 (a1_q.Now - 1), 0, IntKind.wrap .i64 (Int.tdiv a1_q.Now 2)])))), (82, .c (.int .i64 ((([IntKind.wrap .i64 (a1_q.Now - 1), 0, IntKind.wrap .i64 (Int.tdiv a1_q.Now 2)]).length : Int)))), (83, .c (.int .i64 t83_135))], [.box [.vec a0_x.Roles.length 4 (gL cSRole dSRole a0_x.Roles), .vec a0_x.Grants.length 4 (gL cSGrant dSGrant a0_x.Grants)], .box [.str a1_q.User, .int .i64 a1_q.Action, .str a1_q.Object, .int .i64 a1_q.Now]]⟩ _
              cases n_146 with
              | zero => cases h
              | succ n_146 =>
                replace h : chargenetlaw39_AccessEnds_b146 F a0_x a1_q c_11 i_69 (fun i_69 => chargenetlaw39_AccessEnds_l113 F a0_x a1_q c_11 n_113 i_69) (fun t83_135 => chargenetlaw39_AccessEnds_l146 F a0_x a1_q c_11 i_69 (fun i_69 => chargenetlaw39_AccessEnds_l113 F a0_x a1_q c_11 n_113 i_69) n_146 t83_135) t83_135 = some r := h
                unfold chargenetlaw39_AccessEnds_b146 at h
                refine SCode.seq ?_
                refine SCode.region (show SOps _ _ _ [0] _ _ from ?_)
                refine SOps.q rfl (.plain rfl) rfl (q_lss rfl rfl rfl) ?_
                refine SOps.sub (st' := ⟨[(3, .c (.ptr 0 0)), (4, .c (.ptr 1 0)), (7, .c (.vec c_11.1.length 4 (gL cSGrant dSGrant c_11.1))), (9, .c (.int .i64 i_69)), (10, .c (.str ((a0_x.Grants.getD i_69.toNat dSGrant).User))), (81, .c (.vec ([IntKind.wrap .i64 (a1_q.Now - 1), 0, IntKind.wrap .i64 (Int.tdiv a1_q.Now 2)]).length 1 (gL (cInt .i64) 0 ([IntKind.wrap .i64 (a1_q.Now - 1), 0, IntKind.wrap .i64 (Int.tdiv a1_q.Now 2)])))), (82, .c (.int .i64 ((([IntKind.wrap .i64 (a1_q.Now - 1), 0, IntKind.wrap .i64 (Int.tdiv a1_q.Now 2)]).length : Int)))), (83, .c (.int .i64 t83_135)), (84, .c (.bool (decide (t83_135 < (([IntKind.wrap .i64 (a1_q.Now - 1), 0, IntKind.wrap .i64 (Int.tdiv a1_q.Now 2)]).length : Int)))))], [.box [.vec a0_x.Roles.length 4 (gL cSRole dSRole a0_x.Roles), .vec a0_x.Grants.length 4 (gL cSGrant dSGrant a0_x.Grants)], .box [.str a1_q.User, .int .i64 a1_q.Action, .str a1_q.Object, .int .i64 a1_q.Now]]⟩) (sub_gen [0, 1] rfl rfl ⟨zc rfl rfl, zc rfl rfl, zc rfl rfl, zc rfl rfl, zc rfl rfl, zc rfl rfl, zc rfl rfl, zc rfl rfl, zc rfl rfl, trivial⟩ ⟨⟨_, rfl, ⟨ii rfl rfl, ii rfl rfl, trivial⟩⟩, ⟨_, rfl, ⟨ii rfl rfl, ii rfl rfl, ii rfl rfl, ii rfl rfl, trivial⟩⟩, trivial⟩) ?_
                refine SOps.nil ?_
                refine SCode.seq ?_
                rcases cond_out h with ⟨g147, h⟩ | ⟨g147, h⟩
                · refine SCode.cond_t rfl g147 ?_
                  refine SCode.skip ?_
                  refine SCode.join (σ := Unit) (S := fun s => ⟨[(3, .c (.ptr 0 0)), (4, .c (.ptr 1 0)), (7, .c (.vec c_11.1.length 4 (gL cSGrant dSGrant c_11.1))), (9, .c (.int .i64 i_69)), (10, .c (.str ((a0_x.Grants.getD i_69.toNat dSGrant).User))), (81, .c (.vec ([IntKind.wrap .i64 (a1_q.Now - 1), 0, IntKind.wrap .i64 (Int.tdiv a1_q.Now 2)]).length 1 (gL (cInt .i64) 0 ([IntKind.wrap .i64 (a1_q.Now - 1), 0, IntKind.wrap .i64 (Int.tdiv a1_q.Now 2)])))), (82, .c (.int .i64 ((([IntKind.wrap .i64 (a1_q.Now - 1), 0, IntKind.wrap .i64 (Int.tdiv a1_q.Now 2)]).length : Int)))), (83, .c (.int .i64 t83_135))], [.box [.vec a0_x.Roles.length 4 (gL cSRole dSRole a0_x.Roles), .vec a0_x.Grants.length 4 (gL cSGrant dSGrant a0_x.Grants)], .box [.str a1_q.User, .int .i64 a1_q.Action, .str a1_q.Object, .int .i64 a1_q.Now]]⟩) (g := fun s => chargenetlaw39_AccessEnds_p148 t83_135 (fun t83_135 => chargenetlaw39_AccessEnds_l146 F a0_x a1_q c_11 i_69 (fun i_69 => chargenetlaw39_AccessEnds_l113 F a0_x a1_q c_11 n_113 i_69) n_146 t83_135) = some r) ?_ ?_
                  rotate_left
                  · refine SCode.block ?_
                    refine SCode.seq ?_
                    obtain ⟨g149, h⟩ := guard_out h
                    refine SCode.region (show SOps _ _ _ [0, 1, 2] _ _ from ?_)
                    refine SOps.q rfl (.plain rfl) rfl (q_index_vec rfl rfl rfl sl48 rfl g149.1 g149.2) ?_
                    refine SOps.q rfl (.plain rfl) rfl (q_load_eptr rfl rfl ty3) ?_
                    refine SOps.q rfl (.plain rfl) rfl (q_assign rfl rfl) ?_
                    refine SOps.sub (st' := ⟨[(3, .c (.ptr 0 0)), (4, .c (.ptr 1 0)), (7, .c (.vec c_11.1.length 4 (gL cSGrant dSGrant c_11.1))), (9, .c (.int .i64 i_69)), (10, .c (.str ((a0_x.Grants.getD i_69.toNat dSGrant).User))), (12, .c (.int .i64 (([IntKind.wrap .i64 (a1_q.Now - 1), 0, IntKind.wrap .i64 (Int.tdiv a1_q.Now 2)]).getD t83_135.toNat 0))), (81, .c (.vec ([IntKind.wrap .i64 (a1_q.Now - 1), 0, IntKind.wrap .i64 (Int.tdiv a1_q.Now 2)]).length 1 (gL (cInt .i64) 0 ([IntKind.wrap .i64 (a1_q.Now - 1), 0, IntKind.wrap .i64 (Int.tdiv a1_q.Now 2)])))), (82, .c (.int .i64 ((([IntKind.wrap .i64 (a1_q.Now - 1), 0, IntKind.wrap .i64 (Int.tdiv a1_q.Now 2)]).length : Int)))), (83, .c (.int .i64 t83_135))], [.box [.vec a0_x.Roles.length 4 (gL cSRole dSRole a0_x.Roles), .vec a0_x.Grants.length 4 (gL cSGrant dSGrant a0_x.Grants)], .box [.str a1_q.User, .int .i64 a1_q.Action, .str a1_q.Object, .int .i64 a1_q.Now]]⟩) (sub_gen [0, 1] rfl rfl ⟨zc rfl rfl, zc rfl rfl, zc rfl rfl, zc rfl rfl, zc rfl rfl, zc rfl rfl, zc rfl rfl, zc rfl rfl, zc rfl rfl, trivial⟩ ⟨⟨_, rfl, ⟨ii rfl rfl, ii rfl rfl, trivial⟩⟩, ⟨_, rfl, ⟨ii rfl rfl, ii rfl rfl, ii rfl rfl, ii rfl rfl, trivial⟩⟩, trivial⟩) ?_
                    refine SOps.nil ?_
                    refine SCode.seq ?_
                    rcases cond_out h with ⟨g150, h⟩ | ⟨g150, h⟩
                    · rcases cond_out h with ⟨g151, h⟩ | ⟨g151, h⟩
                      · obtain ⟨c_152, g153, h⟩ := bind_out h
                        try dsimp only at h
                        obtain ⟨c_154, g155, h⟩ := bind_out h
                        try dsimp only at h
                        refine SCode.draw (s' := [(118, .c (.bool ((!(c_152 == c_154))))), (117, .c (.bool ((!(c_152 == c_154))))), (116, .c (.bool c_154)), (115, .c (.int .i64 (([IntKind.wrap .i64 (a1_q.Now - 1), 0, IntKind.wrap .i64 (Int.tdiv a1_q.Now 2)]).getD t83_135.toNat 0))), (114, .c (.str a1_q.Object)), (113, .c (.ptr 1 2)), (112, .c (.int .i64 a1_q.Action)), (111, .c (.ptr 1 1)), (110, .c (.str ((a0_x.Grants.getD i_69.toNat dSGrant).User))), (109, .c (.vec a0_x.Grants.length 4 (gL cSGrant dSGrant a0_x.Grants))), (108, .c (.ptr 0 1)), (107, .c (.vec a0_x.Roles.length 4 (gL cSRole dSRole a0_x.Roles))), (106, .c (.ptr 0 0)), (105, .c (.bool c_152)), (104, .c (.int .i64 (([IntKind.wrap .i64 (a1_q.Now - 1), 0, IntKind.wrap .i64 (Int.tdiv a1_q.Now 2)]).getD t83_135.toNat 0))), (103, .c (.str a1_q.Object)), (102, .c (.ptr 1 2)), (101, .c (.int .i64 a1_q.Action)), (100, .c (.ptr 1 1)), (99, .c (.str ((a0_x.Grants.getD i_69.toNat dSGrant).User))), (98, .c (.vec c_11.1.length 4 (gL cSGrant dSGrant c_11.1))), (97, .c (.vec a0_x.Roles.length 4 (gL cSRole dSRole a0_x.Roles))), (96, .c (.ptr 0 0)), (95, .c (.bool (decide (([IntKind.wrap .i64 (a1_q.Now - 1), 0, IntKind.wrap .i64 (Int.tdiv a1_q.Now 2)]).getD t83_135.toNat 0 < a1_q.Now)))), (94, .c (.bool (decide (([IntKind.wrap .i64 (a1_q.Now - 1), 0, IntKind.wrap .i64 (Int.tdiv a1_q.Now 2)]).getD t83_135.toNat 0 < a1_q.Now)))), (93, .c (.bool (decide (([IntKind.wrap .i64 (a1_q.Now - 1), 0, IntKind.wrap .i64 (Int.tdiv a1_q.Now 2)]).getD t83_135.toNat 0 < a1_q.Now)))), (92, .c (.int .i64 a1_q.Now)), (91, .c (.ptr 1 3)), (90, .c (.int .i64 (([IntKind.wrap .i64 (a1_q.Now - 1), 0, IntKind.wrap .i64 (Int.tdiv a1_q.Now 2)]).getD t83_135.toNat 0))), (89, .c (.bool (decide (0 ≤ ([IntKind.wrap .i64 (a1_q.Now - 1), 0, IntKind.wrap .i64 (Int.tdiv a1_q.Now 2)]).getD t83_135.toNat 0)))), (88, .c (.bool (decide (0 ≤ ([IntKind.wrap .i64 (a1_q.Now - 1), 0, IntKind.wrap .i64 (Int.tdiv a1_q.Now 2)]).getD t83_135.toNat 0)))), (87, .c (.int .i64 (([IntKind.wrap .i64 (a1_q.Now - 1), 0, IntKind.wrap .i64 (Int.tdiv a1_q.Now 2)]).getD t83_135.toNat 0))), (3, .c (.ptr 0 0)), (4, .c (.ptr 1 0)), (7, .c (.vec c_11.1.length 4 (gL cSGrant dSGrant c_11.1))), (9, .c (.int .i64 i_69)), (10, .c (.str ((a0_x.Grants.getD i_69.toNat dSGrant).User))), (12, .c (.int .i64 (([IntKind.wrap .i64 (a1_q.Now - 1), 0, IntKind.wrap .i64 (Int.tdiv a1_q.Now 2)]).getD t83_135.toNat 0))), (81, .c (.vec ([IntKind.wrap .i64 (a1_q.Now - 1), 0, IntKind.wrap .i64 (Int.tdiv a1_q.Now 2)]).length 1 (gL (cInt .i64) 0 ([IntKind.wrap .i64 (a1_q.Now - 1), 0, IntKind.wrap .i64 (Int.tdiv a1_q.Now 2)])))), (82, .c (.int .i64 ((([IntKind.wrap .i64 (a1_q.Now - 1), 0, IntKind.wrap .i64 (Int.tdiv a1_q.Now 2)]).length : Int)))), (83, .c (.int .i64 t83_135))]) mixed [[], [0], [0, 1], [0, 1, 2], [0, 1, 2], [0, 1, 2, 4], [0, 1, 2, 3, 4, 5], [0, 1, 2, 3, 4, 5, 6], [0, 1, 2, 3, 4, 5, 6, 7], [0, 1, 2, 3, 4, 5, 6, 7, 8], [0, 1, 2, 3, 4, 5, 6, 7, 8, 9], [0, 1, 2, 3, 4, 5, 6, 7, 8], [0, 1, 2, 3, 4, 5, 6, 7, 8], [0, 1, 2, 3, 4, 5, 6, 7, 8], [0, 1, 2, 3, 4, 5, 6, 7, 8, 13], [0, 1, 2, 3, 4, 5, 6, 7, 8], [0, 1, 2, 3, 4, 5, 6, 7, 8, 15], [0, 1, 2, 3, 4, 5, 6, 7, 8], [0, 1, 2, 3, 4, 5, 6, 7, 8, 9, 10, 11, 12, 13, 14, 15, 16, 17], [0, 1, 2, 3, 4, 5, 6, 7, 8], [0, 1, 2, 3, 4, 5, 6, 7, 8, 19], [0, 1, 2, 3, 4, 5, 6, 7, 8], [0, 1, 2, 3, 4, 5, 6, 7, 8, 21], [0, 1, 2, 3, 4, 5, 6, 7, 8], [0, 1, 2, 3, 4, 5, 6, 7, 8], [0, 1, 2, 3, 4, 5, 6, 7, 8, 24], [0, 1, 2, 3, 4, 5, 6, 7, 8], [0, 1, 2, 3, 4, 5, 6, 7, 8, 26], [0, 1, 2, 3, 4, 5, 6, 7, 8], [0, 1, 2, 3, 4, 5, 6, 7, 8, 9, 10, 11, 12, 13, 14, 15, 16, 17, 18, 19, 20, 21, 22, 23, 24, 25, 26, 27, 28], [0, 1, 2, 3, 4, 5, 6, 7, 8, 9, 10, 11, 12, 13, 14, 15, 16, 17, 18, 19, 20, 21, 22, 23, 24, 25, 26, 27, 28, 29], [0, 1, 2, 3, 4, 5, 6, 7, 8, 9, 10, 11, 12, 13, 14, 15, 16, 17, 18, 19, 20, 21, 22, 23, 24, 25, 26, 27, 28, 29, 30]] 32 0 rfl rfl ?_ ?_
                        · refine QChain.run rfl (.plain rfl) rfl (q_move rfl rfl) ?_
                          refine QChain.run rfl (.plain rfl) rfl (q_geq rfl rfl rfl) ?_
                          refine QChain.run rfl (.plain rfl) rfl (q_move rfl rfl) ?_
                          refine QChain.run rfl (.guard 2 89 true rfl rfl (gT g150)) rfl (q_move rfl rfl) ?_
                          refine QChain.run rfl (.guard 2 89 true rfl rfl (gT g150)) rfl (q_field_ptr rfl rfl fd31_3) ?_
                          refine QChain.run rfl (.guard 2 89 true rfl rfl (gT g150)) rfl (q_load_ptr rfl rfl rfl rfl ty3) ?_
                          refine QChain.run rfl (.guard 2 89 true rfl rfl (gT g150)) rfl (q_lss rfl rfl rfl) ?_
                          refine QChain.run rfl (.plain rfl) rfl (q_pick_t rfl rfl g150 rfl) ?_
                          refine QChain.run rfl (.plain rfl) rfl (q_move rfl rfl) ?_
                          refine QChain.run rfl (.guard 8 95 true rfl rfl (gT g151)) rfl (q_field_ptr rfl rfl fd25_0) ?_
                          refine QChain.run rfl (.guard 8 95 true rfl rfl (gT g151)) rfl (q_load_ptr rfl rfl rfl rfl ty22) ?_
                          refine QChain.run rfl (.guard 8 95 true rfl rfl (gT g151)) rfl (q_move rfl rfl) ?_
                          refine QChain.run rfl (.guard 8 95 true rfl rfl (gT g151)) rfl (q_move rfl rfl) ?_
                          refine QChain.run rfl (.guard 8 95 true rfl rfl (gT g151)) rfl (q_field_ptr rfl rfl fd31_1) ?_
                          refine QChain.run rfl (.guard 8 95 true rfl rfl (gT g151)) rfl (q_load_ptr rfl rfl rfl rfl ty3) ?_
                          refine QChain.run rfl (.guard 8 95 true rfl rfl (gT g151)) rfl (q_field_ptr rfl rfl fd31_2) ?_
                          refine QChain.run rfl (.guard 8 95 true rfl rfl (gT g151)) rfl (q_load_ptr rfl rfl rfl rfl ty9) ?_
                          refine QChain.run rfl (.guard 8 95 true rfl rfl (gT g151)) rfl (q_move rfl rfl) ?_
                          refine QChain.run rfl (.guard 8 95 true rfl rfl (gT g151)) rfl (q_call (access_Allowed_ok F a0_x.Roles c_11.1 ((a0_x.Grants.getD i_69.toNat dSGrant).User) a1_q.Action a1_q.Object (([IntKind.wrap .i64 (a1_q.Now - 1), 0, IntKind.wrap .i64 (Int.tdiv a1_q.Now 2)]).getD t83_135.toNat 0) c_152 g153) [] rfl fn14 ⟨⟨_, rfl, .inl ⟨rfl, rfl⟩⟩, ⟨_, rfl, .inl ⟨rfl, rfl⟩⟩, ⟨_, rfl, .inl ⟨rfl, rfl⟩⟩, ⟨_, rfl, .inl ⟨rfl, rfl⟩⟩, ⟨_, rfl, .inl ⟨rfl, rfl⟩⟩, ⟨_, rfl, .inl ⟨rfl, rfl⟩⟩, trivial⟩ (.inl rfl)) ?_
                          refine QChain.run rfl (.guard 8 95 true rfl rfl (gT g151)) rfl (q_field_ptr rfl rfl fd25_0) ?_
                          refine QChain.run rfl (.guard 8 95 true rfl rfl (gT g151)) rfl (q_load_ptr rfl rfl rfl rfl ty22) ?_
                          refine QChain.run rfl (.guard 8 95 true rfl rfl (gT g151)) rfl (q_field_ptr rfl rfl fd25_1) ?_
                          refine QChain.run rfl (.guard 8 95 true rfl rfl (gT g151)) rfl (q_load_ptr rfl rfl rfl rfl ty23) ?_
                          refine QChain.run rfl (.guard 8 95 true rfl rfl (gT g151)) rfl (q_move rfl rfl) ?_
                          refine QChain.run rfl (.guard 8 95 true rfl rfl (gT g151)) rfl (q_field_ptr rfl rfl fd31_1) ?_
                          refine QChain.run rfl (.guard 8 95 true rfl rfl (gT g151)) rfl (q_load_ptr rfl rfl rfl rfl ty3) ?_
                          refine QChain.run rfl (.guard 8 95 true rfl rfl (gT g151)) rfl (q_field_ptr rfl rfl fd31_2) ?_
                          refine QChain.run rfl (.guard 8 95 true rfl rfl (gT g151)) rfl (q_load_ptr rfl rfl rfl rfl ty9) ?_
                          refine QChain.run rfl (.guard 8 95 true rfl rfl (gT g151)) rfl (q_move rfl rfl) ?_
                          refine QChain.run rfl (.guard 8 95 true rfl rfl (gT g151)) rfl (q_call (access_Allowed_ok F a0_x.Roles a0_x.Grants ((a0_x.Grants.getD i_69.toNat dSGrant).User) a1_q.Action a1_q.Object (([IntKind.wrap .i64 (a1_q.Now - 1), 0, IntKind.wrap .i64 (Int.tdiv a1_q.Now 2)]).getD t83_135.toNat 0) c_154 g155) [] rfl fn14 ⟨⟨_, rfl, .inl ⟨rfl, rfl⟩⟩, ⟨_, rfl, .inl ⟨rfl, rfl⟩⟩, ⟨_, rfl, .inl ⟨rfl, rfl⟩⟩, ⟨_, rfl, .inl ⟨rfl, rfl⟩⟩, ⟨_, rfl, .inl ⟨rfl, rfl⟩⟩, ⟨_, rfl, .inl ⟨rfl, rfl⟩⟩, trivial⟩ (.inl rfl)) ?_
                          refine QChain.run rfl (.guard 8 95 true rfl rfl (gT g151)) rfl (q_neqB rfl rfl rfl un4) ?_
                          refine QChain.run rfl (.plain rfl) rfl (q_pick_t rfl rfl g151 rfl) ?_
                          exact QChain.nil _ _
                        refine (show SOps _ _ _ [] _ _ from ?_)
                        refine SOps.sub (st' := ⟨[(3, .c (.ptr 0 0)), (4, .c (.ptr 1 0)), (7, .c (.vec c_11.1.length 4 (gL cSGrant dSGrant c_11.1))), (9, .c (.int .i64 i_69)), (10, .c (.str ((a0_x.Grants.getD i_69.toNat dSGrant).User))), (81, .c (.vec ([IntKind.wrap .i64 (a1_q.Now - 1), 0, IntKind.wrap .i64 (Int.tdiv a1_q.Now 2)]).length 1 (gL (cInt .i64) 0 ([IntKind.wrap .i64 (a1_q.Now - 1), 0, IntKind.wrap .i64 (Int.tdiv a1_q.Now 2)])))), (82, .c (.int .i64 ((([IntKind.wrap .i64 (a1_q.Now - 1), 0, IntKind.wrap .i64 (Int.tdiv a1_q.Now 2)]).length : Int)))), (83, .c (.int .i64 t83_135)), (118, .c (.bool ((!(c_152 == c_154)))))], [.box [.vec a0_x.Roles.length 4 (gL cSRole dSRole a0_x.Roles), .vec a0_x.Grants.length 4 (gL cSGrant dSGrant a0_x.Grants)], .box [.str a1_q.User, .int .i64 a1_q.Action, .str a1_q.Object, .int .i64 a1_q.Now]]⟩) (sub_gen [0, 1] rfl rfl ⟨zc rfl rfl, zc rfl rfl, zc rfl rfl, zc rfl rfl, zc rfl rfl, zc rfl rfl, zc rfl rfl, zc rfl rfl, zc rfl rfl, trivial⟩ ⟨⟨_, rfl, ⟨ii rfl rfl, ii rfl rfl, trivial⟩⟩, ⟨_, rfl, ⟨ii rfl rfl, ii rfl rfl, ii rfl rfl, ii rfl rfl, trivial⟩⟩, trivial⟩) ?_
                        refine SOps.nil ?_
                        rcases cond_out h with ⟨g156, h⟩ | ⟨g156, h⟩
                        · refine SCode.cond_t rfl g156 ?_
                          refine SCode.seq ?_
                          refine SCode.region (show SOps _ _ _ [0] _ _ from ?_)
                          refine SOps.q rfl (.plain rfl) rfl (q_assign rfl rfl) ?_
                          refine SOps.sub (st' := ⟨[(6, .c (.bool false))], []⟩) (sub_gen [] rfl rfl ⟨zc rfl rfl, trivial⟩ trivial) ?_
                          refine SOps.nil ?_
                          refine SCode.ret ?_
                          obtain rfl := Option.some.inj h
                          exact ⟨⟨[(6, .c (.bool false))], []⟩, _, sub_gen [] rfl rfl ⟨zc rfl rfl, trivial⟩ trivial, resA1 (v := .c (.bool false)) rfl rfl, rfl⟩
                        refine SCode.cond_f rfl g156 ?_
                        refine SCode.skip ?_
                        exact ⟨(), h, sub_gen [0, 1] rfl rfl ⟨zc rfl rfl, zc rfl rfl, zc rfl rfl, zc rfl rfl, zc rfl rfl, zc rfl rfl, zc rfl rfl, zc rfl rfl, trivial⟩ ⟨⟨_, rfl, ⟨ii rfl rfl, ii rfl rfl, trivial⟩⟩, ⟨_, rfl, ⟨ii rfl rfl, ii rfl rfl, ii rfl rfl, ii rfl rfl, trivial⟩⟩, trivial⟩⟩
                      refine SCode.draw (s' := [(118, .c (.bool false)), (117, .c (.raw (.tuple #[]))), (116, .c (.raw (.tuple #[]))), (115, .c (.raw (.tuple #[]))), (114, .c (.raw (.tuple #[]))), (113, .c (.raw (.tuple #[]))), (112, .c (.raw (.tuple #[]))), (111, .c (.raw (.tuple #[]))), (110, .c (.raw (.tuple #[]))), (109, .c (.raw (.tuple #[]))), (108, .c (.raw (.tuple #[]))), (107, .c (.raw (.tuple #[]))), (106, .c (.raw (.tuple #[]))), (105, .c (.raw (.tuple #[]))), (104, .c (.raw (.tuple #[]))), (103, .c (.raw (.tuple #[]))), (102, .c (.raw (.tuple #[]))), (101, .c (.raw (.tuple #[]))), (100, .c (.raw (.tuple #[]))), (99, .c (.raw (.tuple #[]))), (98, .c (.raw (.tuple #[]))), (97, .c (.raw (.tuple #[]))), (96, .c (.raw (.tuple #[]))), (95, .c (.bool (decide (([IntKind.wrap .i64 (a1_q.Now - 1), 0, IntKind.wrap .i64 (Int.tdiv a1_q.Now 2)]).getD t83_135.toNat 0 < a1_q.Now)))), (94, .c (.bool (decide (([IntKind.wrap .i64 (a1_q.Now - 1), 0, IntKind.wrap .i64 (Int.tdiv a1_q.Now 2)]).getD t83_135.toNat 0 < a1_q.Now)))), (93, .c (.bool (decide (([IntKind.wrap .i64 (a1_q.Now - 1), 0, IntKind.wrap .i64 (Int.tdiv a1_q.Now 2)]).getD t83_135.toNat 0 < a1_q.Now)))), (92, .c (.int .i64 a1_q.Now)), (91, .c (.ptr 1 3)), (90, .c (.int .i64 (([IntKind.wrap .i64 (a1_q.Now - 1), 0, IntKind.wrap .i64 (Int.tdiv a1_q.Now 2)]).getD t83_135.toNat 0))), (89, .c (.bool (decide (0 ≤ ([IntKind.wrap .i64 (a1_q.Now - 1), 0, IntKind.wrap .i64 (Int.tdiv a1_q.Now 2)]).getD t83_135.toNat 0)))), (88, .c (.bool (decide (0 ≤ ([IntKind.wrap .i64 (a1_q.Now - 1), 0, IntKind.wrap .i64 (Int.tdiv a1_q.Now 2)]).getD t83_135.toNat 0)))), (87, .c (.int .i64 (([IntKind.wrap .i64 (a1_q.Now - 1), 0, IntKind.wrap .i64 (Int.tdiv a1_q.Now 2)]).getD t83_135.toNat 0))), (3, .c (.ptr 0 0)), (4, .c (.ptr 1 0)), (7, .c (.vec c_11.1.length 4 (gL cSGrant dSGrant c_11.1))), (9, .c (.int .i64 i_69)), (10, .c (.str ((a0_x.Grants.getD i_69.toNat dSGrant).User))), (12, .c (.int .i64 (([IntKind.wrap .i64 (a1_q.Now - 1), 0, IntKind.wrap .i64 (Int.tdiv a1_q.Now 2)]).getD t83_135.toNat 0))), (81, .c (.vec ([IntKind.wrap .i64 (a1_q.Now - 1), 0, IntKind.wrap .i64 (Int.tdiv a1_q.Now 2)]).length 1 (gL (cInt .i64) 0 ([IntKind.wrap .i64 (a1_q.Now - 1), 0, IntKind.wrap .i64 (Int.tdiv a1_q.Now 2)])))), (82, .c (.int .i64 ((([IntKind.wrap .i64 (a1_q.Now - 1), 0, IntKind.wrap .i64 (Int.tdiv a1_q.Now 2)]).length : Int)))), (83, .c (.int .i64 t83_135))]) mixed [[], [0], [0, 1], [0, 1, 2], [0, 1, 2], [0, 1, 2, 4], [0, 1, 2, 3, 4, 5], [0, 1, 2, 3, 4, 5, 6], [0, 1, 2, 3, 4, 5, 6, 7], [0, 1, 2, 3, 4, 5, 6, 7, 8], [0, 1, 2, 3, 4, 5, 6, 7, 8, 9], [0, 1, 2, 3, 4, 5, 6, 7, 8], [0, 1, 2, 3, 4, 5, 6, 7, 8], [0, 1, 2, 3, 4, 5, 6, 7, 8], [0, 1, 2, 3, 4, 5, 6, 7, 8, 13], [0, 1, 2, 3, 4, 5, 6, 7, 8], [0, 1, 2, 3, 4, 5, 6, 7, 8, 15], [0, 1, 2, 3, 4, 5, 6, 7, 8], [0, 1, 2, 3, 4, 5, 6, 7, 8, 9, 10, 11, 12, 13, 14, 15, 16, 17], [0, 1, 2, 3, 4, 5, 6, 7, 8], [0, 1, 2, 3, 4, 5, 6, 7, 8, 19], [0, 1, 2, 3, 4, 5, 6, 7, 8], [0, 1, 2, 3, 4, 5, 6, 7, 8, 21], [0, 1, 2, 3, 4, 5, 6, 7, 8], [0, 1, 2, 3, 4, 5, 6, 7, 8], [0, 1, 2, 3, 4, 5, 6, 7, 8, 24], [0, 1, 2, 3, 4, 5, 6, 7, 8], [0, 1, 2, 3, 4, 5, 6, 7, 8, 26], [0, 1, 2, 3, 4, 5, 6, 7, 8], [0, 1, 2, 3, 4, 5, 6, 7, 8, 9, 10, 11, 12, 13, 14, 15, 16, 17, 18, 19, 20, 21, 22, 23, 24, 25, 26, 27, 28], [0, 1, 2, 3, 4, 5, 6, 7, 8, 9, 10, 11, 12, 13, 14, 15, 16, 17, 18, 19, 20, 21, 22, 23, 24, 25, 26, 27, 28, 29], [0, 1, 2, 3, 4, 5, 6, 7, 8, 9, 10, 11, 12, 13, 14, 15, 16, 17, 18, 19, 20, 21, 22, 23, 24, 25, 26, 27, 28, 29, 30]] 32 0 rfl rfl ?_ ?_
                      · refine QChain.run rfl (.plain rfl) rfl (q_move rfl rfl) ?_
                        refine QChain.run rfl (.plain rfl) rfl (q_geq rfl rfl rfl) ?_
                        refine QChain.run rfl (.plain rfl) rfl (q_move rfl rfl) ?_
                        refine QChain.run rfl (.guard 2 89 true rfl rfl (gT g150)) rfl (q_move rfl rfl) ?_
                        refine QChain.run rfl (.guard 2 89 true rfl rfl (gT g150)) rfl (q_field_ptr rfl rfl fd31_3) ?_
                        refine QChain.run rfl (.guard 2 89 true rfl rfl (gT g150)) rfl (q_load_ptr rfl rfl rfl rfl ty3) ?_
                        refine QChain.run rfl (.guard 2 89 true rfl rfl (gT g150)) rfl (q_lss rfl rfl rfl) ?_
                        refine QChain.run rfl (.plain rfl) rfl (q_pick_t rfl rfl g150 rfl) ?_
                        refine QChain.run rfl (.plain rfl) rfl (q_move rfl rfl) ?_
                        refine QChain.skip rfl ⟨8, 95, true, rfl, rfl, (.inl (gF g151))⟩ rfl ?_
                        refine QChain.skip rfl ⟨8, 95, true, rfl, rfl, (.inl (gF g151))⟩ rfl ?_
                        refine QChain.skip rfl ⟨8, 95, true, rfl, rfl, (.inl (gF g151))⟩ rfl ?_
                        refine QChain.skip rfl ⟨8, 95, true, rfl, rfl, (.inl (gF g151))⟩ rfl ?_
                        refine QChain.skip rfl ⟨8, 95, true, rfl, rfl, (.inl (gF g151))⟩ rfl ?_
                        refine QChain.skip rfl ⟨8, 95, true, rfl, rfl, (.inl (gF g151))⟩ rfl ?_
                        refine QChain.skip rfl ⟨8, 95, true, rfl, rfl, (.inl (gF g151))⟩ rfl ?_
                        refine QChain.skip rfl ⟨8, 95, true, rfl, rfl, (.inl (gF g151))⟩ rfl ?_
                        refine QChain.skip rfl ⟨8, 95, true, rfl, rfl, (.inl (gF g151))⟩ rfl ?_
                        refine QChain.skip rfl ⟨8, 95, true, rfl, rfl, (.inl (gF g151))⟩ rfl ?_
                        refine QChain.skip rfl ⟨8, 95, true, rfl, rfl, (.inl (gF g151))⟩ rfl ?_
                        refine QChain.skip rfl ⟨8, 95, true, rfl, rfl, (.inl (gF g151))⟩ rfl ?_
                        refine QChain.skip rfl ⟨8, 95, true, rfl, rfl, (.inl (gF g151))⟩ rfl ?_
                        refine QChain.skip rfl ⟨8, 95, true, rfl, rfl, (.inl (gF g151))⟩ rfl ?_
                        refine QChain.skip rfl ⟨8, 95, true, rfl, rfl, (.inl (gF g151))⟩ rfl ?_
                        refine QChain.skip rfl ⟨8, 95, true, rfl, rfl, (.inl (gF g151))⟩ rfl ?_
                        refine QChain.skip rfl ⟨8, 95, true, rfl, rfl, (.inl (gF g151))⟩ rfl ?_
                        refine QChain.skip rfl ⟨8, 95, true, rfl, rfl, (.inl (gF g151))⟩ rfl ?_
                        refine QChain.skip rfl ⟨8, 95, true, rfl, rfl, (.inl (gF g151))⟩ rfl ?_
                        refine QChain.skip rfl ⟨8, 95, true, rfl, rfl, (.inl (gF g151))⟩ rfl ?_
                        refine QChain.skip rfl ⟨8, 95, true, rfl, rfl, (.inl (gF g151))⟩ rfl ?_
                        refine QChain.skip rfl ⟨8, 95, true, rfl, rfl, (.inl (gF g151))⟩ rfl ?_
                        refine QChain.run rfl (.plain rfl) rfl (q_pick_f rfl rfl g151 rfl) ?_
                        exact QChain.nil _ _
                      refine (show SOps _ _ _ [] _ _ from ?_)
                      refine SOps.sub (st' := ⟨[(3, .c (.ptr 0 0)), (4, .c (.ptr 1 0)), (7, .c (.vec c_11.1.length 4 (gL cSGrant dSGrant c_11.1))), (9, .c (.int .i64 i_69)), (10, .c (.str ((a0_x.Grants.getD i_69.toNat dSGrant).User))), (81, .c (.vec ([IntKind.wrap .i64 (a1_q.Now - 1), 0, IntKind.wrap .i64 (Int.tdiv a1_q.Now 2)]).length 1 (gL (cInt .i64) 0 ([IntKind.wrap .i64 (a1_q.Now - 1), 0, IntKind.wrap .i64 (Int.tdiv a1_q.Now 2)])))), (82, .c (.int .i64 ((([IntKind.wrap .i64 (a1_q.Now - 1), 0, IntKind.wrap .i64 (Int.tdiv a1_q.Now 2)]).length : Int)))), (83, .c (.int .i64 t83_135)), (118, .c (.bool false))], [.box [.vec a0_x.Roles.length 4 (gL cSRole dSRole a0_x.Roles), .vec a0_x.Grants.length 4 (gL cSGrant dSGrant a0_x.Grants)], .box [.str a1_q.User, .int .i64 a1_q.Action, .str a1_q.Object, .int .i64 a1_q.Now]]⟩) (sub_gen [0, 1] rfl rfl ⟨zc rfl rfl, zc rfl rfl, zc rfl rfl, zc rfl rfl, zc rfl rfl, zc rfl rfl, zc rfl rfl, zc rfl rfl, zc rfl rfl, trivial⟩ ⟨⟨_, rfl, ⟨ii rfl rfl, ii rfl rfl, trivial⟩⟩, ⟨_, rfl, ⟨ii rfl rfl, ii rfl rfl, ii rfl rfl, ii rfl rfl, trivial⟩⟩, trivial⟩) ?_
                      refine SOps.nil ?_
                      refine SCode.cond_f rfl rfl ?_
                      refine SCode.skip ?_
                      exact ⟨(), h, sub_gen [0, 1] rfl rfl ⟨zc rfl rfl, zc rfl rfl, zc rfl rfl, zc rfl rfl, zc rfl rfl, zc rfl rfl, zc rfl rfl, zc rfl rfl, trivial⟩ ⟨⟨_, rfl, ⟨ii rfl rfl, ii rfl rfl, trivial⟩⟩, ⟨_, rfl, ⟨ii rfl rfl, ii rfl rfl, ii rfl rfl, ii rfl rfl, trivial⟩⟩, trivial⟩⟩
                    refine SCode.draw (s' := [(118, .c (.bool false)), (117, .c (.raw (.tuple #[]))), (116, .c (.raw (.tuple #[]))), (115, .c (.raw (.tuple #[]))), (114, .c (.raw (.tuple #[]))), (113, .c (.raw (.tuple #[]))), (112, .c (.raw (.tuple #[]))), (111, .c (.raw (.tuple #[]))), (110, .c (.raw (.tuple #[]))), (109, .c (.raw (.tuple #[]))), (108, .c (.raw (.tuple #[]))), (107, .c (.raw (.tuple #[]))), (106, .c (.raw (.tuple #[]))), (105, .c (.raw (.tuple #[]))), (104, .c (.raw (.tuple #[]))), (103, .c (.raw (.tuple #[]))), (102, .c (.raw (.tuple #[]))), (101, .c (.raw (.tuple #[]))), (100, .c (.raw (.tuple #[]))), (99, .c (.raw (.tuple #[]))), (98, .c (.raw (.tuple #[]))), (97, .c (.raw (.tuple #[]))), (96, .c (.raw (.tuple #[]))), (95, .c (.bool false)), (94, .c (.bool false)), (93, .c (.raw (.tuple #[]))), (92, .c (.raw (.tuple #[]))), (91, .c (.raw (.tuple #[]))), (90, .c (.raw (.tuple #[]))), (89, .c (.bool (decide (0 ≤ ([IntKind.wrap .i64 (a1_q.Now - 1), 0, IntKind.wrap .i64 (Int.tdiv a1_q.Now 2)]).getD t83_135.toNat 0)))), (88, .c (.bool (decide (0 ≤ ([IntKind.wrap .i64 (a1_q.Now - 1), 0, IntKind.wrap .i64 (Int.tdiv a1_q.Now 2)]).getD t83_135.toNat 0)))), (87, .c (.int .i64 (([IntKind.wrap .i64 (a1_q.Now - 1), 0, IntKind.wrap .i64 (Int.tdiv a1_q.Now 2)]).getD t83_135.toNat 0))), (3, .c (.ptr 0 0)), (4, .c (.ptr 1 0)), (7, .c (.vec c_11.1.length 4 (gL cSGrant dSGrant c_11.1))), (9, .c (.int .i64 i_69)), (10, .c (.str ((a0_x.Grants.getD i_69.toNat dSGrant).User))), (12, .c (.int .i64 (([IntKind.wrap .i64 (a1_q.Now - 1), 0, IntKind.wrap .i64 (Int.tdiv a1_q.Now 2)]).getD t83_135.toNat 0))), (81, .c (.vec ([IntKind.wrap .i64 (a1_q.Now - 1), 0, IntKind.wrap .i64 (Int.tdiv a1_q.Now 2)]).length 1 (gL (cInt .i64) 0 ([IntKind.wrap .i64 (a1_q.Now - 1), 0, IntKind.wrap .i64 (Int.tdiv a1_q.Now 2)])))), (82, .c (.int .i64 ((([IntKind.wrap .i64 (a1_q.Now - 1), 0, IntKind.wrap .i64 (Int.tdiv a1_q.Now 2)]).length : Int)))), (83, .c (.int .i64 t83_135))]) mixed [[], [0], [0, 1], [0, 1, 2], [0, 1, 2], [0, 1, 2, 4], [0, 1, 2, 3, 4, 5], [0, 1, 2, 3, 4, 5, 6], [0, 1, 2, 3, 4, 5, 6, 7], [0, 1, 2, 3, 4, 5, 6, 7, 8], [0, 1, 2, 3, 4, 5, 6, 7, 8, 9], [0, 1, 2, 3, 4, 5, 6, 7, 8], [0, 1, 2, 3, 4, 5, 6, 7, 8], [0, 1, 2, 3, 4, 5, 6, 7, 8], [0, 1, 2, 3, 4, 5, 6, 7, 8, 13], [0, 1, 2, 3, 4, 5, 6, 7, 8], [0, 1, 2, 3, 4, 5, 6, 7, 8, 15], [0, 1, 2, 3, 4, 5, 6, 7, 8], [0, 1, 2, 3, 4, 5, 6, 7, 8, 9, 10, 11, 12, 13, 14, 15, 16, 17], [0, 1, 2, 3, 4, 5, 6, 7, 8], [0, 1, 2, 3, 4, 5, 6, 7, 8, 19], [0, 1, 2, 3, 4, 5, 6, 7, 8], [0, 1, 2, 3, 4, 5, 6, 7, 8, 21], [0, 1, 2, 3, 4, 5, 6, 7, 8], [0, 1, 2, 3, 4, 5, 6, 7, 8], [0, 1, 2, 3, 4, 5, 6, 7, 8, 24], [0, 1, 2, 3, 4, 5, 6, 7, 8], [0, 1, 2, 3, 4, 5, 6, 7, 8, 26], [0, 1, 2, 3, 4, 5, 6, 7, 8], [0, 1, 2, 3, 4, 5, 6, 7, 8, 9, 10, 11, 12, 13, 14, 15, 16, 17, 18, 19, 20, 21, 22, 23, 24, 25, 26, 27, 28], [0, 1, 2, 3, 4, 5, 6, 7, 8, 9, 10, 11, 12, 13, 14, 15, 16, 17, 18, 19, 20, 21, 22, 23, 24, 25, 26, 27, 28, 29], [0, 1, 2, 3, 4, 5, 6, 7, 8, 9, 10, 11, 12, 13, 14, 15, 16, 17, 18, 19, 20, 21, 22, 23, 24, 25, 26, 27, 28, 29, 30]] 32 0 rfl rfl ?_ ?_
                    · refine QChain.run rfl (.plain rfl) rfl (q_move rfl rfl) ?_
                      refine QChain.run rfl (.plain rfl) rfl (q_geq rfl rfl rfl) ?_
                      refine QChain.run rfl (.plain rfl) rfl (q_move rfl rfl) ?_
                      refine QChain.skip rfl ⟨2, 89, true, rfl, rfl, (.inl (gF g150))⟩ rfl ?_
                      refine QChain.skip rfl ⟨2, 89, true, rfl, rfl, (.inl (gF g150))⟩ rfl ?_
                      refine QChain.skip rfl ⟨2, 89, true, rfl, rfl, (.inl (gF g150))⟩ rfl ?_
                      refine QChain.skip rfl ⟨2, 89, true, rfl, rfl, (.inl (gF g150))⟩ rfl ?_
                      refine QChain.run rfl (.plain rfl) rfl (q_pick_f rfl rfl g150 rfl) ?_
                      refine QChain.run rfl (.plain rfl) rfl (q_move rfl rfl) ?_
                      refine QChain.skip rfl ⟨8, 95, true, rfl, rfl, (.inl rfl)⟩ rfl ?_
                      refine QChain.skip rfl ⟨8, 95, true, rfl, rfl, (.inl rfl)⟩ rfl ?_
                      refine QChain.skip rfl ⟨8, 95, true, rfl, rfl, (.inl rfl)⟩ rfl ?_
                      refine QChain.skip rfl ⟨8, 95, true, rfl, rfl, (.inl rfl)⟩ rfl ?_
                      refine QChain.skip rfl ⟨8, 95, true, rfl, rfl, (.inl rfl)⟩ rfl ?_
                      refine QChain.skip rfl ⟨8, 95, true, rfl, rfl, (.inl rfl)⟩ rfl ?_
                      refine QChain.skip rfl ⟨8, 95, true, rfl, rfl, (.inl rfl)⟩ rfl ?_
                      refine QChain.skip rfl ⟨8, 95, true, rfl, rfl, (.inl rfl)⟩ rfl ?_
                      refine QChain.skip rfl ⟨8, 95, true, rfl, rfl, (.inl rfl)⟩ rfl ?_
                      refine QChain.skip rfl ⟨8, 95, true, rfl, rfl, (.inl rfl)⟩ rfl ?_
                      refine QChain.skip rfl ⟨8, 95, true, rfl, rfl, (.inl rfl)⟩ rfl ?_
                      refine QChain.skip rfl ⟨8, 95, true, rfl, rfl, (.inl rfl)⟩ rfl ?_
                      refine QChain.skip rfl ⟨8, 95, true, rfl, rfl, (.inl rfl)⟩ rfl ?_
                      refine QChain.skip rfl ⟨8, 95, true, rfl, rfl, (.inl rfl)⟩ rfl ?_
                      refine QChain.skip rfl ⟨8, 95, true, rfl, rfl, (.inl rfl)⟩ rfl ?_
                      refine QChain.skip rfl ⟨8, 95, true, rfl, rfl, (.inl rfl)⟩ rfl ?_
                      refine QChain.skip rfl ⟨8, 95, true, rfl, rfl, (.inl rfl)⟩ rfl ?_
                      refine QChain.skip rfl ⟨8, 95, true, rfl, rfl, (.inl rfl)⟩ rfl ?_
                      refine QChain.skip rfl ⟨8, 95, true, rfl, rfl, (.inl rfl)⟩ rfl ?_
                      refine QChain.skip rfl ⟨8, 95, true, rfl, rfl, (.inl rfl)⟩ rfl ?_
                      refine QChain.skip rfl ⟨8, 95, true, rfl, rfl, (.inl rfl)⟩ rfl ?_
                      refine QChain.skip rfl ⟨8, 95, true, rfl, rfl, (.inl rfl)⟩ rfl ?_
                      refine QChain.run rfl (.plain rfl) rfl (q_pick_f rfl rfl rfl rfl) ?_
                      exact QChain.nil _ _
                    refine (show SOps _ _ _ [] _ _ from ?_)
                    refine SOps.sub (st' := ⟨[(3, .c (.ptr 0 0)), (4, .c (.ptr 1 0)), (7, .c (.vec c_11.1.length 4 (gL cSGrant dSGrant c_11.1))), (9, .c (.int .i64 i_69)), (10, .c (.str ((a0_x.Grants.getD i_69.toNat dSGrant).User))), (81, .c (.vec ([IntKind.wrap .i64 (a1_q.Now - 1), 0, IntKind.wrap .i64 (Int.tdiv a1_q.Now 2)]).length 1 (gL (cInt .i64) 0 ([IntKind.wrap .i64 (a1_q.Now - 1), 0, IntKind.wrap .i64 (Int.tdiv a1_q.Now 2)])))), (82, .c (.int .i64 ((([IntKind.wrap .i64 (a1_q.Now - 1), 0, IntKind.wrap .i64 (Int.tdiv a1_q.Now 2)]).length : Int)))), (83, .c (.int .i64 t83_135)), (118, .c (.bool false))], [.box [.vec a0_x.Roles.length 4 (gL cSRole dSRole a0_x.Roles), .vec a0_x.Grants.length 4 (gL cSGrant dSGrant a0_x.Grants)], .box [.str a1_q.User, .int .i64 a1_q.Action, .str a1_q.Object, .int .i64 a1_q.Now]]⟩) (sub_gen [0, 1] rfl rfl ⟨zc rfl rfl, zc rfl rfl, zc rfl rfl, zc rfl rfl, zc rfl rfl, zc rfl rfl, zc rfl rfl, zc rfl rfl, zc rfl rfl, trivial⟩ ⟨⟨_, rfl, ⟨ii rfl rfl, ii rfl rfl, trivial⟩⟩, ⟨_, rfl, ⟨ii rfl rfl, ii rfl rfl, ii rfl rfl, ii rfl rfl, trivial⟩⟩, trivial⟩) ?_
                    refine SOps.nil ?_
                    refine SCode.cond_f rfl rfl ?_
                    refine SCode.skip ?_
                    exact ⟨(), h, sub_gen [0, 1] rfl rfl ⟨zc rfl rfl, zc rfl rfl, zc rfl rfl, zc rfl rfl, zc rfl rfl, zc rfl rfl, zc rfl rfl, zc rfl rfl, trivial⟩ ⟨⟨_, rfl, ⟨ii rfl rfl, ii rfl rfl, trivial⟩⟩, ⟨_, rfl, ⟨ii rfl rfl, ii rfl rfl, ii rfl rfl, ii rfl rfl, trivial⟩⟩, trivial⟩⟩
                  rintro ⟨⟩ h
                  show SCode _ _ _ ⟨[(3, .c (.ptr 0 0)), (4, .c (.ptr 1 0)), (7, .c (.vec c_11.1.length 4 (gL cSGrant dSGrant c_11.1))), (9, .c (.int .i64 i_69)), (10, .c (.str ((a0_x.Grants.getD i_69.toNat dSGrant).User))), (81, .c (.vec ([IntKind.wrap .i64 (a1_q.Now - 1), 0, IntKind.wrap .i64 (Int.tdiv a1_q.Now 2)]).length 1 (gL (cInt .i64) 0 ([IntKind.wrap .i64 (a1_q.Now - 1), 0, IntKind.wrap .i64 (Int.tdiv a1_q.Now 2)])))), (82, .c (.int .i64 ((([IntKind.wrap .i64 (a1_q.Now - 1), 0, IntKind.wrap .i64 (Int.tdiv a1_q.Now 2)]).length : Int)))), (83, .c (.int .i64 t83_135))], [.box [.vec a0_x.Roles.length 4 (gL cSRole dSRole a0_x.Roles), .vec a0_x.Grants.length 4 (gL cSGrant dSGrant a0_x.Grants)], .box [.str a1_q.User, .int .i64 a1_q.Action, .str a1_q.Object, .int .i64 a1_q.Now]]⟩ _
                  replace h : chargenetlaw39_AccessEnds_p148 t83_135 (fun t83_135 => chargenetlaw39_AccessEnds_l146 F a0_x a1_q c_11 i_69 (fun i_69 => chargenetlaw39_AccessEnds_l113 F a0_x a1_q c_11 n_113 i_69) n_146 t83_135) = some r := h
                  unfold chargenetlaw39_AccessEnds_p148 at h
                  refine SCode.region (show SOps _ _ _ [0, 1] _ _ from ?_)
                  refine SOps.q rfl (.plain rfl) rfl (q_add rfl rfl rfl) ?_
                  refine SOps.q rfl (.plain rfl) rfl (q_move rfl rfl) ?_
                  refine SOps.sub (st' := ⟨[(3, .c (.ptr 0 0)), (4, .c (.ptr 1 0)), (7, .c (.vec c_11.1.length 4 (gL cSGrant dSGrant c_11.1))), (9, .c (.int .i64 i_69)), (10, .c (.str ((a0_x.Grants.getD i_69.toNat dSGrant).User))), (81, .c (.vec ([IntKind.wrap .i64 (a1_q.Now - 1), 0, IntKind.wrap .i64 (Int.tdiv a1_q.Now 2)]).length 1 (gL (cInt .i64) 0 ([IntKind.wrap .i64 (a1_q.Now - 1), 0, IntKind.wrap .i64 (Int.tdiv a1_q.Now 2)])))), (82, .c (.int .i64 ((([IntKind.wrap .i64 (a1_q.Now - 1), 0, IntKind.wrap .i64 (Int.tdiv a1_q.Now 2)]).length : Int)))), (83, .c (.int .i64 (IntKind.wrap .i64 (t83_135 + 1))))], [.box [.vec a0_x.Roles.length 4 (gL cSRole dSRole a0_x.Roles), .vec a0_x.Grants.length 4 (gL cSGrant dSGrant a0_x.Grants)], .box [.str a1_q.User, .int .i64 a1_q.Action, .str a1_q.Object, .int .i64 a1_q.Now]]⟩) (sub_gen [0, 1] rfl rfl ⟨zc rfl rfl, zc rfl rfl, zc rfl rfl, zc rfl rfl, zc rfl rfl, zc rfl rfl, zc rfl rfl, zc rfl rfl, trivial⟩ ⟨⟨_, rfl, ⟨ii rfl rfl, ii rfl rfl, trivial⟩⟩, ⟨_, rfl, ⟨ii rfl rfl, ii rfl rfl, ii rfl rfl, ii rfl rfl, trivial⟩⟩, trivial⟩) ?_
                  refine SOps.nil ?_
                  exact ⟨(n_146, IntKind.wrap .i64 (t83_135 + 1)), h, Nat.lt_succ_self n_146, sub_gen [0, 1] rfl rfl ⟨zc rfl rfl, zc rfl rfl, zc rfl rfl, zc rfl rfl, zc rfl rfl, zc rfl rfl, zc rfl rfl, zc rfl rfl, trivial⟩ ⟨⟨_, rfl, ⟨ii rfl rfl, ii rfl rfl, trivial⟩⟩, ⟨_, rfl, ⟨ii rfl rfl, ii rfl rfl, ii rfl rfl, ii rfl rfl, trivial⟩⟩, trivial⟩⟩
                refine SCode.cond_f rfl g147 ?_
                refine SCode.exit ?_
                exact ⟨(), h, sub_gen [0, 1] rfl rfl ⟨zc rfl rfl, zc rfl rfl, zc rfl rfl, zc rfl rfl, zc rfl rfl, trivial⟩ ⟨⟨_, rfl, ⟨ii rfl rfl, ii rfl rfl, trivial⟩⟩, ⟨_, rfl, ⟨ii rfl rfl, ii rfl rfl, ii rfl rfl, ii rfl rfl, trivial⟩⟩, trivial⟩⟩
            rintro ⟨⟩ h
            show SCode _ _ _ ⟨[(3, .c (.ptr 0 0)), (4, .c (.ptr 1 0)), (7, .c (.vec c_11.1.length 4 (gL cSGrant dSGrant c_11.1))), (9, .c (.int .i64 i_69)), (10, .c (.str ((a0_x.Grants.getD i_69.toNat dSGrant).User)))], [.box [.vec a0_x.Roles.length 4 (gL cSRole dSRole a0_x.Roles), .vec a0_x.Grants.length 4 (gL cSGrant dSGrant a0_x.Grants)], .box [.str a1_q.User, .int .i64 a1_q.Action, .str a1_q.Object, .int .i64 a1_q.Now]]⟩ _
            replace h : chargenetlaw39_AccessEnds_p124 F a0_x a1_q c_11 i_69 (fun i_69 => chargenetlaw39_AccessEnds_l113 F a0_x a1_q c_11 n_113 i_69) = some r := h
            unfold chargenetlaw39_AccessEnds_p124 at h
            refine SCode.seq ?_
            rcases cond_out h with ⟨g118, h⟩ | ⟨g118, h⟩
            · obtain ⟨c_119, g120, h⟩ := bind_out h
              try dsimp only at h
              obtain ⟨c_121, g122, h⟩ := bind_out h
              try dsimp only at h
              refine SCode.draw (s' := [(149, .c (.bool ((!(c_119 == c_121))))), (148, .c (.bool ((!(c_119 == c_121))))), (147, .c (.bool c_121)), (146, .c (.int .i64 a1_q.Now)), (145, .c (.ptr 1 3)), (144, .c (.str a1_q.Object)), (143, .c (.ptr 1 2)), (142, .c (.int .i64 a1_q.Action)), (141, .c (.ptr 1 1)), (140, .c (.str ((a0_x.Grants.getD i_69.toNat dSGrant).User))), (139, .c (.vec a0_x.Grants.length 4 (gL cSGrant dSGrant a0_x.Grants))), (138, .c (.ptr 0 1)), (137, .c (.vec a0_x.Roles.length 4 (gL cSRole dSRole a0_x.Roles))), (136, .c (.ptr 0 0)), (135, .c (.bool c_119)), (134, .c (.int .i64 a1_q.Now)), (133, .c (.ptr 1 3)), (132, .c (.str a1_q.Object)), (131, .c (.ptr 1 2)), (130, .c (.int .i64 a1_q.Action)), (129, .c (.ptr 1 1)), (128, .c (.str ((a0_x.Grants.getD i_69.toNat dSGrant).User))), (127, .c (.vec c_11.1.length 4 (gL cSGrant dSGrant c_11.1))), (126, .c (.vec a0_x.Roles.length 4 (gL cSRole dSRole a0_x.Roles))), (125, .c (.ptr 0 0)), (124, .c (.bool ((!(sEq ((a0_x.Grants.getD i_69.toNat dSGrant).User) a1_q.User))))), (123, .c (.bool ((!(sEq ((a0_x.Grants.getD i_69.toNat dSGrant).User) a1_q.User))))), (122, .c (.str a1_q.User)), (121, .c (.ptr 1 0)), (120, .c (.str ((a0_x.Grants.getD i_69.toNat dSGrant).User))), (3, .c (.ptr 0 0)), (4, .c (.ptr 1 0)), (7, .c (.vec c_11.1.length 4 (gL cSGrant dSGrant c_11.1))), (9, .c (.int .i64 i_69)), (10, .c (.str ((a0_x.Grants.getD i_69.toNat dSGrant).User)))]) mixed [[], [], [1], [0, 1, 2], [0, 1, 2, 3], [0, 1, 2, 3, 4], [0, 1, 2, 3, 4, 5], [0, 1, 2, 3, 4], [0, 1, 2, 3, 4], [0, 1, 2, 3, 4], [0, 1, 2, 3, 4, 9], [0, 1, 2, 3, 4], [0, 1, 2, 3, 4, 11], [0, 1, 2, 3, 4], [0, 1, 2, 3, 4, 13], [0, 1, 2, 3, 4, 5, 6, 7, 8, 9, 10, 11, 12, 13, 14], [0, 1, 2, 3, 4], [0, 1, 2, 3, 4, 16], [0, 1, 2, 3, 4], [0, 1, 2, 3, 4, 18], [0, 1, 2, 3, 4], [0, 1, 2, 3, 4], [0, 1, 2, 3, 4, 21], [0, 1, 2, 3, 4], [0, 1, 2, 3, 4, 23], [0, 1, 2, 3, 4], [0, 1, 2, 3, 4, 25], [0, 1, 2, 3, 4, 5, 6, 7, 8, 9, 10, 11, 12, 13, 14, 15, 16, 17, 18, 19, 20, 21, 22, 23, 24, 25, 26], [0, 1, 2, 3, 4, 5, 6, 7, 8, 9, 10, 11, 12, 13, 14, 15, 16, 17, 18, 19, 20, 21, 22, 23, 24, 25, 26, 27], [0, 1, 2, 3, 4, 5, 6, 7, 8, 9, 10, 11, 12, 13, 14, 15, 16, 17, 18, 19, 20, 21, 22, 23, 24, 25, 26, 27, 28]] 30 0 rfl rfl ?_ ?_
              · refine QChain.run rfl (.plain rfl) rfl (q_move rfl rfl) ?_
                refine QChain.run rfl (.plain rfl) rfl (q_field_ptr rfl rfl fd31_0) ?_
                refine QChain.run rfl (.plain rfl) rfl (q_load_ptr rfl rfl rfl rfl ty9) ?_
                refine QChain.run rfl (.plain rfl) rfl (q_neqS rfl rfl rfl) ?_
                refine QChain.run rfl (.plain rfl) rfl (q_move rfl rfl) ?_
                refine QChain.run rfl (.guard 4 124 true rfl rfl (gT g118)) rfl (q_field_ptr rfl rfl fd25_0) ?_
                refine QChain.run rfl (.guard 4 124 true rfl rfl (gT g118)) rfl (q_load_ptr rfl rfl rfl rfl ty22) ?_
                refine QChain.run rfl (.guard 4 124 true rfl rfl (gT g118)) rfl (q_move rfl rfl) ?_
                refine QChain.run rfl (.guard 4 124 true rfl rfl (gT g118)) rfl (q_move rfl rfl) ?_
                refine QChain.run rfl (.guard 4 124 true rfl rfl (gT g118)) rfl (q_field_ptr rfl rfl fd31_1) ?_
                refine QChain.run rfl (.guard 4 124 true rfl rfl (gT g118)) rfl (q_load_ptr rfl rfl rfl rfl ty3) ?_
                refine QChain.run rfl (.guard 4 124 true rfl rfl (gT g118)) rfl (q_field_ptr rfl rfl fd31_2) ?_
                refine QChain.run rfl (.guard 4 124 true rfl rfl (gT g118)) rfl (q_load_ptr rfl rfl rfl rfl ty9) ?_
                refine QChain.run rfl (.guard 4 124 true rfl rfl (gT g118)) rfl (q_field_ptr rfl rfl fd31_3) ?_
                refine QChain.run rfl (.guard 4 124 true rfl rfl (gT g118)) rfl (q_load_ptr rfl rfl rfl rfl ty3) ?_
                refine QChain.run rfl (.guard 4 124 true rfl rfl (gT g118)) rfl (q_call (access_Allowed_ok F a0_x.Roles c_11.1 ((a0_x.Grants.getD i_69.toNat dSGrant).User) a1_q.Action a1_q.Object a1_q.Now c_119 g120) [] rfl fn14 ⟨⟨_, rfl, .inl ⟨rfl, rfl⟩⟩, ⟨_, rfl, .inl ⟨rfl, rfl⟩⟩, ⟨_, rfl, .inl ⟨rfl, rfl⟩⟩, ⟨_, rfl, .inl ⟨rfl, rfl⟩⟩, ⟨_, rfl, .inl ⟨rfl, rfl⟩⟩, ⟨_, rfl, .inl ⟨rfl, rfl⟩⟩, trivial⟩ (.inl rfl)) ?_
                refine QChain.run rfl (.guard 4 124 true rfl rfl (gT g118)) rfl (q_field_ptr rfl rfl fd25_0) ?_
                refine QChain.run rfl (.guard 4 124 true rfl rfl (gT g118)) rfl (q_load_ptr rfl rfl rfl rfl ty22) ?_
                refine QChain.run rfl (.guard 4 124 true rfl rfl (gT g118)) rfl (q_field_ptr rfl rfl fd25_1) ?_
                refine QChain.run rfl (.guard 4 124 true rfl rfl (gT g118)) rfl (q_load_ptr rfl rfl rfl rfl ty23) ?_
                refine QChain.run rfl (.guard 4 124 true rfl rfl (gT g118)) rfl (q_move rfl rfl) ?_
                refine QChain.run rfl (.guard 4 124 true rfl rfl (gT g118)) rfl (q_field_ptr rfl rfl fd31_1) ?_
                refine QChain.run rfl (.guard 4 124 true rfl rfl (gT g118)) rfl (q_load_ptr rfl rfl rfl rfl ty3) ?_
                refine QChain.run rfl (.guard 4 124 true rfl rfl (gT g118)) rfl (q_field_ptr rfl rfl fd31_2) ?_
                refine QChain.run rfl (.guard 4 124 true rfl rfl (gT g118)) rfl (q_load_ptr rfl rfl rfl rfl ty9) ?_
                refine QChain.run rfl (.guard 4 124 true rfl rfl (gT g118)) rfl (q_field_ptr rfl rfl fd31_3) ?_
                refine QChain.run rfl (.guard 4 124 true rfl rfl (gT g118)) rfl (q_load_ptr rfl rfl rfl rfl ty3) ?_
                refine QChain.run rfl (.guard 4 124 true rfl rfl (gT g118)) rfl (q_call (access_Allowed_ok F a0_x.Roles a0_x.Grants ((a0_x.Grants.getD i_69.toNat dSGrant).User) a1_q.Action a1_q.Object a1_q.Now c_121 g122) [] rfl fn14 ⟨⟨_, rfl, .inl ⟨rfl, rfl⟩⟩, ⟨_, rfl, .inl ⟨rfl, rfl⟩⟩, ⟨_, rfl, .inl ⟨rfl, rfl⟩⟩, ⟨_, rfl, .inl ⟨rfl, rfl⟩⟩, ⟨_, rfl, .inl ⟨rfl, rfl⟩⟩, ⟨_, rfl, .inl ⟨rfl, rfl⟩⟩, trivial⟩ (.inl rfl)) ?_
                refine QChain.run rfl (.guard 4 124 true rfl rfl (gT g118)) rfl (q_neqB rfl rfl rfl un4) ?_
                refine QChain.run rfl (.plain rfl) rfl (q_pick_t rfl rfl g118 rfl) ?_
                exact QChain.nil _ _
              refine (show SOps _ _ _ [] _ _ from ?_)
              refine SOps.sub (st' := ⟨[(3, .c (.ptr 0 0)), (4, .c (.ptr 1 0)), (7, .c (.vec c_11.1.length 4 (gL cSGrant dSGrant c_11.1))), (9, .c (.int .i64 i_69)), (149, .c (.bool ((!(c_119 == c_121)))))], [.box [.vec a0_x.Roles.length 4 (gL cSRole dSRole a0_x.Roles), .vec a0_x.Grants.length 4 (gL cSGrant dSGrant a0_x.Grants)], .box [.str a1_q.User, .int .i64 a1_q.Action, .str a1_q.Object, .int .i64 a1_q.Now]]⟩) (sub_gen [0, 1] rfl rfl ⟨zc rfl rfl, zc rfl rfl, zc rfl rfl, zc rfl rfl, zc rfl rfl, trivial⟩ ⟨⟨_, rfl, ⟨ii rfl rfl, ii rfl rfl, trivial⟩⟩, ⟨_, rfl, ⟨ii rfl rfl, ii rfl rfl, ii rfl rfl, ii rfl rfl, trivial⟩⟩, trivial⟩) ?_
              refine SOps.nil ?_
              rcases cond_out h with ⟨g123, h⟩ | ⟨g123, h⟩
              · refine SCode.cond_t rfl g123 ?_
                refine SCode.seq ?_
                refine SCode.region (show SOps _ _ _ [0] _ _ from ?_)
                refine SOps.q rfl (.plain rfl) rfl (q_assign rfl rfl) ?_
                refine SOps.sub (st' := ⟨[(6, .c (.bool false))], []⟩) (sub_gen [] rfl rfl ⟨zc rfl rfl, trivial⟩ trivial) ?_
                refine SOps.nil ?_
                refine SCode.ret ?_
                obtain rfl := Option.some.inj h
                exact ⟨⟨[(6, .c (.bool false))], []⟩, _, sub_gen [] rfl rfl ⟨zc rfl rfl, trivial⟩ trivial, resA1 (v := .c (.bool false)) rfl rfl, rfl⟩
              refine SCode.cond_f rfl g123 ?_
              refine SCode.skip ?_
              exact ⟨(), h, sub_gen [0, 1] rfl rfl ⟨zc rfl rfl, zc rfl rfl, zc rfl rfl, zc rfl rfl, trivial⟩ ⟨⟨_, rfl, ⟨ii rfl rfl, ii rfl rfl, trivial⟩⟩, ⟨_, rfl, ⟨ii rfl rfl, ii rfl rfl, ii rfl rfl, ii rfl rfl, trivial⟩⟩, trivial⟩⟩
            refine SCode.draw (s' := [(149, .c (.bool false)), (148, .c (.raw (.tuple #[]))), (147, .c (.raw (.tuple #[]))), (146, .c (.raw (.tuple #[]))), (145, .c (.raw (.tuple #[]))), (144, .c (.raw (.tuple #[]))), (143, .c (.raw (.tuple #[]))), (142, .c (.raw (.tuple #[]))), (141, .c (.raw (.tuple #[]))), (140, .c (.raw (.tuple #[]))), (139, .c (.raw (.tuple #[]))), (138, .c (.raw (.tuple #[]))), (137, .c (.raw (.tuple #[]))), (136, .c (.raw (.tuple #[]))), (135, .c (.raw (.tuple #[]))), (134, .c (.raw (.tuple #[]))), (133, .c (.raw (.tuple #[]))), (132, .c (.raw (.tuple #[]))), (131, .c (.raw (.tuple #[]))), (130, .c (.raw (.tuple #[]))), (129, .c (.raw (.tuple #[]))), (128, .c (.raw (.tuple #[]))), (127, .c (.raw (.tuple #[]))), (126, .c (.raw (.tuple #[]))), (125, .c (.raw (.tuple #[]))), (124, .c (.bool ((!(sEq ((a0_x.Grants.getD i_69.toNat dSGrant).User) a1_q.User))))), (123, .c (.bool ((!(sEq ((a0_x.Grants.getD i_69.toNat dSGrant).User) a1_q.User))))), (122, .c (.str a1_q.User)), (121, .c (.ptr 1 0)), (120, .c (.str ((a0_x.Grants.getD i_69.toNat dSGrant).User))), (3, .c (.ptr 0 0)), (4, .c (.ptr 1 0)), (7, .c (.vec c_11.1.length 4 (gL cSGrant dSGrant c_11.1))), (9, .c (.int .i64 i_69)), (10, .c (.str ((a0_x.Grants.getD i_69.toNat dSGrant).User)))]) mixed [[], [], [1], [0, 1, 2], [0, 1, 2, 3], [0, 1, 2, 3, 4], [0, 1, 2, 3, 4, 5], [0, 1, 2, 3, 4], [0, 1, 2, 3, 4], [0, 1, 2, 3, 4], [0, 1, 2, 3, 4, 9], [0, 1, 2, 3, 4], [0, 1, 2, 3, 4, 11], [0, 1, 2, 3, 4], [0, 1, 2, 3, 4, 13], [0, 1, 2, 3, 4, 5, 6, 7, 8, 9, 10, 11, 12, 13, 14], [0, 1, 2, 3, 4], [0, 1, 2, 3, 4, 16], [0, 1, 2, 3, 4], [0, 1, 2, 3, 4, 18], [0, 1, 2, 3, 4], [0, 1, 2, 3, 4], [0, 1, 2, 3, 4, 21], [0, 1, 2, 3, 4], [0, 1, 2, 3, 4, 23], [0, 1, 2, 3, 4], [0, 1, 2, 3, 4, 25], [0, 1, 2, 3, 4, 5, 6, 7, 8, 9, 10, 11, 12, 13, 14, 15, 16, 17, 18, 19, 20, 21, 22, 23, 24, 25, 26], [0, 1, 2, 3, 4, 5, 6, 7, 8, 9, 10, 11, 12, 13, 14, 15, 16, 17, 18, 19, 20, 21, 22, 23, 24, 25, 26, 27], [0, 1, 2, 3, 4, 5, 6, 7, 8, 9, 10, 11, 12, 13, 14, 15, 16, 17, 18, 19, 20, 21, 22, 23, 24, 25, 26, 27, 28]] 30 0 rfl rfl ?_ ?_
            · refine QChain.run rfl (.plain rfl) rfl (q_move rfl rfl) ?_
              refine QChain.run rfl (.plain rfl) rfl (q_field_ptr rfl rfl fd31_0) ?_
              refine QChain.run rfl (.plain rfl) rfl (q_load_ptr rfl rfl rfl rfl ty9) ?_
              refine QChain.run rfl (.plain rfl) rfl (q_neqS rfl rfl rfl) ?_
              refine QChain.run rfl (.plain rfl) rfl (q_move rfl rfl) ?_
              refine QChain.skip rfl ⟨4, 124, true, rfl, rfl, (.inl (gF g118))⟩ rfl ?_
              refine QChain.skip rfl ⟨4, 124, true, rfl, rfl, (.inl (gF g118))⟩ rfl ?_
              refine QChain.skip rfl ⟨4, 124, true, rfl, rfl, (.inl (gF g118))⟩ rfl ?_
              refine QChain.skip rfl ⟨4, 124, true, rfl, rfl, (.inl (gF g118))⟩ rfl ?_
              refine QChain.skip rfl ⟨4, 124, true, rfl, rfl, (.inl (gF g118))⟩ rfl ?_
              refine QChain.skip rfl ⟨4, 124, true, rfl, rfl, (.inl (gF g118))⟩ rfl ?_
              refine QChain.skip rfl ⟨4, 124, true, rfl, rfl, (.inl (gF g118))⟩ rfl ?_
              refine QChain.skip rfl ⟨4, 124, true, rfl, rfl, (.inl (gF g118))⟩ rfl ?_
              refine QChain.skip rfl ⟨4, 124, true, rfl, rfl, (.inl (gF g118))⟩ rfl ?_
              refine QChain.skip rfl ⟨4, 124, true, rfl, rfl, (.inl (gF g118))⟩ rfl ?_
              refine QChain.skip rfl ⟨4, 124, true, rfl, rfl, (.inl (gF g118))⟩ rfl ?_
              refine QChain.skip rfl ⟨4, 124, true, rfl, rfl, (.inl (gF g118))⟩ rfl ?_
              refine QChain.skip rfl ⟨4, 124, true, rfl, rfl, (.inl (gF g118))⟩ rfl ?_
              refine QChain.skip rfl ⟨4, 124, true, rfl, rfl, (.inl (gF g118))⟩ rfl ?_
              refine QChain.skip rfl ⟨4, 124, true, rfl, rfl, (.inl (gF g118))⟩ rfl ?_
              refine QChain.skip rfl ⟨4, 124, true, rfl, rfl, (.inl (gF g118))⟩ rfl ?_
              refine QChain.skip rfl ⟨4, 124, true, rfl, rfl, (.inl (gF g118))⟩ rfl ?_
              refine QChain.skip rfl ⟨4, 124, true, rfl, rfl, (.inl (gF g118))⟩ rfl ?_
              refine QChain.skip rfl ⟨4, 124, true, rfl, rfl, (.inl (gF g118))⟩ rfl ?_
              refine QChain.skip rfl ⟨4, 124, true, rfl, rfl, (.inl (gF g118))⟩ rfl ?_
              refine QChain.skip rfl ⟨4, 124, true, rfl, rfl, (.inl (gF g118))⟩ rfl ?_
              refine QChain.skip rfl ⟨4, 124, true, rfl, rfl, (.inl (gF g118))⟩ rfl ?_
              refine QChain.skip rfl ⟨4, 124, true, rfl, rfl, (.inl (gF g118))⟩ rfl ?_
              refine QChain.skip rfl ⟨4, 124, true, rfl, rfl, (.inl (gF g118))⟩ rfl ?_
              refine QChain.run rfl (.plain rfl) rfl (q_pick_f rfl rfl g118 rfl) ?_
              exact QChain.nil _ _
            refine (show SOps _ _ _ [] _ _ from ?_)
            refine SOps.sub (st' := ⟨[(3, .c (.ptr 0 0)), (4, .c (.ptr 1 0)), (7, .c (.vec c_11.1.length 4 (gL cSGrant dSGrant c_11.1))), (9, .c (.int .i64 i_69)), (149, .c (.bool false))], [.box [.vec a0_x.Roles.length 4 (gL cSRole dSRole a0_x.Roles), .vec a0_x.Grants.length 4 (gL cSGrant dSGrant a0_x.Grants)], .box [.str a1_q.User, .int .i64 a1_q.Action, .str a1_q.Object, .int .i64 a1_q.Now]]⟩) (sub_gen [0, 1] rfl rfl ⟨zc rfl rfl, zc rfl rfl, zc rfl rfl, zc rfl rfl, zc rfl rfl, trivial⟩ ⟨⟨_, rfl, ⟨ii rfl rfl, ii rfl rfl, trivial⟩⟩, ⟨_, rfl, ⟨ii rfl rfl, ii rfl rfl, ii rfl rfl, ii rfl rfl, trivial⟩⟩, trivial⟩) ?_
            refine SOps.nil ?_
            refine SCode.cond_f rfl rfl ?_
            refine SCode.skip ?_
            exact ⟨(), h, sub_gen [0, 1] rfl rfl ⟨zc rfl rfl, zc rfl rfl, zc rfl rfl, zc rfl rfl, trivial⟩ ⟨⟨_, rfl, ⟨ii rfl rfl, ii rfl rfl, trivial⟩⟩, ⟨_, rfl, ⟨ii rfl rfl, ii rfl rfl, ii rfl rfl, ii rfl rfl, trivial⟩⟩, trivial⟩⟩
          rintro ⟨⟩ h
          show SCode _ _ _ ⟨[(3, .c (.ptr 0 0)), (4, .c (.ptr 1 0)), (7, .c (.vec c_11.1.length 4 (gL cSGrant dSGrant c_11.1))), (9, .c (.int .i64 i_69))], [.box [.vec a0_x.Roles.length 4 (gL cSRole dSRole a0_x.Roles), .vec a0_x.Grants.length 4 (gL cSGrant dSGrant a0_x.Grants)], .box [.str a1_q.User, .int .i64 a1_q.Action, .str a1_q.Object, .int .i64 a1_q.Now]]⟩ _
          replace h : chargenetlaw39_AccessEnds_p116 i_69 (fun i_69 => chargenetlaw39_AccessEnds_l113 F a0_x a1_q c_11 n_113 i_69) = some r := h
          unfold chargenetlaw39_AccessEnds_p116 at h
          refine SCode.region (show SOps _ _ _ [0, 1, 2] _ _ from ?_)
          refine SOps.q rfl (.plain rfl) rfl (q_move rfl rfl) ?_
          refine SOps.q rfl (.plain rfl) rfl (q_add rfl rfl rfl) ?_
          refine SOps.q rfl (.plain rfl) rfl (q_assign rfl rfl) ?_
          refine SOps.sub (st' := ⟨[(3, .c (.ptr 0 0)), (4, .c (.ptr 1 0)), (7, .c (.vec c_11.1.length 4 (gL cSGrant dSGrant c_11.1))), (9, .c (.int .i64 (IntKind.wrap .i64 (i_69 + 1))))], [.box [.vec a0_x.Roles.length 4 (gL cSRole dSRole a0_x.Roles), .vec a0_x.Grants.length 4 (gL cSGrant dSGrant a0_x.Grants)], .box [.str a1_q.User, .int .i64 a1_q.Action, .str a1_q.Object, .int .i64 a1_q.Now]]⟩) (sub_gen [0, 1] rfl rfl ⟨zc rfl rfl, zc rfl rfl, zc rfl rfl, zc rfl rfl, trivial⟩ ⟨⟨_, rfl, ⟨ii rfl rfl, ii rfl rfl, trivial⟩⟩, ⟨_, rfl, ⟨ii rfl rfl, ii rfl rfl, ii rfl rfl, ii rfl rfl, trivial⟩⟩, trivial⟩) ?_
          refine SOps.nil ?_
          exact ⟨(n_113, IntKind.wrap .i64 (i_69 + 1)), h, Nat.lt_succ_self n_113, sub_gen [0, 1] rfl rfl ⟨zc rfl rfl, zc rfl rfl, zc rfl rfl, zc rfl rfl, trivial⟩ ⟨⟨_, rfl, ⟨ii rfl rfl, ii rfl rfl, trivial⟩⟩, ⟨_, rfl, ⟨ii rfl rfl, ii rfl rfl, ii rfl rfl, ii rfl rfl, trivial⟩⟩, trivial⟩⟩
        refine SCode.cond_f rfl g115 ?_
        refine SCode.exit ?_
        exact ⟨(), h, sub_gen [] rfl rfl trivial trivial⟩
      refine SCode.region (show SOps _ _ _ [0, 1, 2, 3, 4, 5, 6, 7, 8] _ _ from ?_)
      refine SOps.q rfl (.plain rfl) rfl (q_move rfl rfl) ?_
      refine SOps.q rfl (.plain rfl) rfl (q_field_ptr rfl rfl fd25_1) ?_
      refine SOps.q rfl (.plain rfl) rfl (q_load_ptr rfl rfl rfl rfl ty23) ?_
      refine SOps.q rfl (.plain rfl) rfl (q_len_vec rfl rfl sl23) ?_
      refine SOps.q rfl (.plain rfl) rfl (q_lss rfl rfl rfl) ?_
      refine SOps.q rfl (.plain rfl) rfl (q_move rfl rfl) ?_
      refine SOps.skip rfl 5 63 true rfl rfl (.inl (gF g114)) rfl ?_
      refine SOps.skip rfl 5 63 true rfl rfl (.inl (gF g114)) rfl ?_
      refine SOps.q rfl (.plain rfl) rfl (q_pick_f rfl rfl g114 rfl) ?_
      refine SOps.sub (st' := ⟨[(3, .c (.ptr 0 0)), (4, .c (.ptr 1 0)), (7, .c (.vec c_11.1.length 4 (gL cSGrant dSGrant c_11.1))), (9, .c (.int .i64 i_69)), (66, .c (.bool false))], [.box [.vec a0_x.Roles.length 4 (gL cSRole dSRole a0_x.Roles), .vec a0_x.Grants.length 4 (gL cSGrant dSGrant a0_x.Grants)], .box [.str a1_q.User, .int .i64 a1_q.Action, .str a1_q.Object, .int .i64 a1_q.Now]]⟩) (sub_gen [0, 1] rfl rfl ⟨zc rfl rfl, zc rfl rfl, zc rfl rfl, zc rfl rfl, zc rfl rfl, trivial⟩ ⟨⟨_, rfl, ⟨ii rfl rfl, ii rfl rfl, trivial⟩⟩, ⟨_, rfl, ⟨ii rfl rfl, ii rfl rfl, ii rfl rfl, ii rfl rfl, trivial⟩⟩, trivial⟩) ?_
      refine SOps.nil ?_
      refine SCode.cond_f rfl rfl ?_
      refine SCode.exit ?_
      exact ⟨(), h, sub_gen [] rfl rfl trivial trivial⟩
  rintro ⟨⟩ h
  show SCode _ _ _ ⟨[], []⟩ _
  replace h : chargenetlaw39_AccessEnds_p25 F = some r := h
  unfold chargenetlaw39_AccessEnds_p25 at h
  refine SCode.seq ?_
  obtain ⟨c_23, g24, h⟩ := bind_out h
  try dsimp only at h
  refine SCode.region (show SOps _ _ _ [0, 1] _ _ from ?_)
  refine SOps.q rfl (.plain rfl) rfl (q_call (chargenetlaw39_exampleHolds_ok F  c_23 g24) [] rfl fn11 trivial (.inl rfl)) ?_
  refine SOps.q rfl (.plain rfl) rfl (q_assign rfl rfl) ?_
  refine SOps.sub (st' := ⟨[(6, .c (.bool c_23))], []⟩) (sub_gen [] rfl rfl ⟨zc rfl rfl, trivial⟩ trivial) ?_
  refine SOps.nil ?_
  refine SCode.ret ?_
  obtain rfl := Option.some.inj h
  exact ⟨⟨[(6, .c (.bool c_23))], []⟩, _, sub_gen [] rfl rfl ⟨zc rfl rfl, trivial⟩ trivial, resA1 (v := .c (.bool c_23)) rfl rfl, rfl⟩
end Go.Proofs.Ytggfgdohbeoabaa.W
