/- Written by a program of ours (wip/eng/gen.py): the functions compute their models. -/
import Derived.Test.YtggfgdohbeoabaaFacts
import Derived.Test.YtggfgdohbeoabaaV4x5
namespace Go.Proofs.Ytggfgdohbeoabaa.W
open Go Go.Proofs Go.Proofs.Ytggfgdohbeoabaa.E Go.Proofs.Ytggfgdohbeoabaa.M
set_option linter.unusedVariables false
set_option maxRecDepth 100000 in
set_option maxHeartbeats 8000000 in
theorem chargenetref39_holds_ok (F : Nat) (a0_g : SGrant) (a1_now : Int) (r : Bool) (h : chargenetref39_holds F a0_g a1_now = some r) :
    SFun Try.prog 31 [] [.a [.str a0_g.User, .str a0_g.Role, .int .i64 a0_g.Span_From, .int .i64 a0_g.Span_To], .c (.int .i64 a1_now)] (fun x _ => x = .c (.bool r)) := by
  refine SFun.of (n := 23) Try.func31 rfl rfl rfl ?_
  unfold chargenetref39_holds at h
  show SCode _ _ _ ⟨[(0, .a [.str a0_g.User, .str a0_g.Role, .int .i64 a0_g.Span_From, .int .i64 a0_g.Span_To]), (1, .c (.int .i64 a1_now))], []⟩ _
  refine SCode.seq ?_
  refine SCode.region (show SOps _ _ _ [0, 1] _ _ from ?_)
  refine SOps.e rfl (.plain rfl) (e_box rfl rfl rfl rfl rfl rfl) ?_
  refine SOps.q rfl (.plain rfl) rfl (q_assign rfl rfl) ?_
  refine SOps.sub (st' := ⟨[(1, .c (.int .i64 a1_now)), (2, .c (.ptr 0 0))], [.box [.str a0_g.User, .str a0_g.Role, .int .i64 a0_g.Span_From, .int .i64 a0_g.Span_To]]⟩) (sub_gen [0] rfl rfl ⟨zc rfl rfl, zc rfl rfl, trivial⟩ ⟨⟨_, rfl, ⟨ii rfl rfl, ii rfl rfl, ii rfl rfl, ii rfl rfl, trivial⟩⟩, trivial⟩) ?_
  refine SOps.nil ?_
  refine SCode.seq ?_
  rcases cond_out h with ⟨g1, h⟩ | ⟨g1, h⟩
  · rcases cond_out h with ⟨g2, h⟩ | ⟨g2, h⟩
    · refine SCode.region (show SOps _ _ _ [0, 1, 2, 3, 4, 5, 6, 7, 8, 9, 10, 11, 12, 13, 14, 15, 16, 17, 18] _ _ from ?_)
      refine SOps.q rfl (.plain rfl) rfl (q_field_ptr rfl rfl fd37_2) ?_
      refine SOps.q rfl (.plain rfl) rfl (q_field_ptr rfl rfl fd35_0) ?_
      refine SOps.q rfl (.plain rfl) rfl (q_load_ptr rfl rfl rfl rfl ty3) ?_
      refine SOps.q rfl (.plain rfl) rfl (q_move rfl rfl) ?_
      refine SOps.q rfl (.plain rfl) rfl (q_leq rfl rfl rfl) ?_
      refine SOps.q rfl (.plain rfl) rfl (q_move rfl rfl) ?_
      refine SOps.q rfl (.guard 5 10 true rfl rfl (gT g1)) rfl (q_field_ptr rfl rfl fd37_2) ?_
      refine SOps.q rfl (.guard 5 10 true rfl rfl (gT g1)) rfl (q_field_ptr rfl rfl fd35_1) ?_
      refine SOps.q rfl (.guard 5 10 true rfl rfl (gT g1)) rfl (q_load_ptr rfl rfl rfl rfl ty3) ?_
      refine SOps.q rfl (.guard 5 10 true rfl rfl (gT g1)) rfl (q_eql rfl rfl rfl) ?_
      refine SOps.q rfl (.guard 5 10 true rfl rfl (gT g1)) rfl (q_move rfl rfl) ?_
      refine SOps.skip rfl 10 15 false rfl rfl (.inl (gT g2)) rfl ?_
      refine SOps.skip rfl 10 15 false rfl rfl (.inl (gT g2)) rfl ?_
      refine SOps.skip rfl 10 15 false rfl rfl (.inl (gT g2)) rfl ?_
      refine SOps.skip rfl 10 15 false rfl rfl (.inl (gT g2)) rfl ?_
      refine SOps.skip rfl 10 15 false rfl rfl (.inl (gT g2)) rfl ?_
      refine SOps.q rfl (.guard 5 10 true rfl rfl (gT g1)) rfl (q_pick_t rfl rfl g2 rfl) ?_
      refine SOps.q rfl (.plain rfl) rfl (q_pick_t rfl rfl g1 rfl) ?_
      refine SOps.q rfl (.plain rfl) rfl (q_assign rfl rfl) ?_
      refine SOps.sub (st' := ⟨[(4, .c (.bool true))], []⟩) (sub_gen [] rfl rfl ⟨zc rfl rfl, trivial⟩ trivial) ?_
      refine SOps.nil ?_
      refine SCode.ret ?_
      obtain rfl := Option.some.inj h
      exact ⟨⟨[(4, .c (.bool true))], []⟩, _, sub_gen [] rfl rfl ⟨zc rfl rfl, trivial⟩ trivial, resA1 (v := .c (.bool true)) rfl rfl, rfl⟩
    refine SCode.region (show SOps _ _ _ [0, 1, 2, 3, 4, 5, 6, 7, 8, 9, 10, 11, 12, 13, 14, 15, 16, 17, 18] _ _ from ?_)
    refine SOps.q rfl (.plain rfl) rfl (q_field_ptr rfl rfl fd37_2) ?_
    refine SOps.q rfl (.plain rfl) rfl (q_field_ptr rfl rfl fd35_0) ?_
    refine SOps.q rfl (.plain rfl) rfl (q_load_ptr rfl rfl rfl rfl ty3) ?_
    refine SOps.q rfl (.plain rfl) rfl (q_move rfl rfl) ?_
    refine SOps.q rfl (.plain rfl) rfl (q_leq rfl rfl rfl) ?_
    refine SOps.q rfl (.plain rfl) rfl (q_move rfl rfl) ?_
    refine SOps.q rfl (.guard 5 10 true rfl rfl (gT g1)) rfl (q_field_ptr rfl rfl fd37_2) ?_
    refine SOps.q rfl (.guard 5 10 true rfl rfl (gT g1)) rfl (q_field_ptr rfl rfl fd35_1) ?_
    refine SOps.q rfl (.guard 5 10 true rfl rfl (gT g1)) rfl (q_load_ptr rfl rfl rfl rfl ty3) ?_
    refine SOps.q rfl (.guard 5 10 true rfl rfl (gT g1)) rfl (q_eql rfl rfl rfl) ?_
    refine SOps.q rfl (.guard 5 10 true rfl rfl (gT g1)) rfl (q_move rfl rfl) ?_
    refine SOps.q rfl (.guard 10 15 false rfl rfl (gF g2)) rfl (q_move rfl rfl) ?_
    refine SOps.q rfl (.guard 10 15 false rfl rfl (gF g2)) rfl (q_field_ptr rfl rfl fd37_2) ?_
    refine SOps.q rfl (.guard 10 15 false rfl rfl (gF g2)) rfl (q_field_ptr rfl rfl fd35_1) ?_
    refine SOps.q rfl (.guard 10 15 false rfl rfl (gF g2)) rfl (q_load_ptr rfl rfl rfl rfl ty3) ?_
    refine SOps.q rfl (.guard 10 15 false rfl rfl (gF g2)) rfl (q_lss rfl rfl rfl) ?_
    refine SOps.q rfl (.guard 5 10 true rfl rfl (gT g1)) rfl (q_pick_f rfl rfl g2 rfl) ?_
    refine SOps.q rfl (.plain rfl) rfl (q_pick_t rfl rfl g1 rfl) ?_
    refine SOps.q rfl (.plain rfl) rfl (q_assign rfl rfl) ?_
    refine SOps.sub (st' := ⟨[(4, .c (.bool (decide (a1_now < a0_g.Span_To))))], []⟩) (sub_gen [] rfl rfl ⟨zc rfl rfl, trivial⟩ trivial) ?_
    refine SOps.nil ?_
    refine SCode.ret ?_
    obtain rfl := Option.some.inj h
    exact ⟨⟨[(4, .c (.bool (decide (a1_now < a0_g.Span_To))))], []⟩, _, sub_gen [] rfl rfl ⟨zc rfl rfl, trivial⟩ trivial, resA1 (v := .c (.bool (decide (a1_now < a0_g.Span_To)))) rfl rfl, rfl⟩
  refine SCode.region (show SOps _ _ _ [0, 1, 2, 3, 4, 5, 6, 7, 8, 9, 10, 11, 12, 13, 14, 15, 16, 17, 18] _ _ from ?_)
  refine SOps.q rfl (.plain rfl) rfl (q_field_ptr rfl rfl fd37_2) ?_
  refine SOps.q rfl (.plain rfl) rfl (q_field_ptr rfl rfl fd35_0) ?_
  refine SOps.q rfl (.plain rfl) rfl (q_load_ptr rfl rfl rfl rfl ty3) ?_
  refine SOps.q rfl (.plain rfl) rfl (q_move rfl rfl) ?_
  refine SOps.q rfl (.plain rfl) rfl (q_leq rfl rfl rfl) ?_
  refine SOps.q rfl (.plain rfl) rfl (q_move rfl rfl) ?_
  refine SOps.skip rfl 5 10 true rfl rfl (.inl (gF g1)) rfl ?_
  refine SOps.skip rfl 5 10 true rfl rfl (.inl (gF g1)) rfl ?_
  refine SOps.skip rfl 5 10 true rfl rfl (.inl (gF g1)) rfl ?_
  refine SOps.skip rfl 5 10 true rfl rfl (.inl (gF g1)) rfl ?_
  refine SOps.skip rfl 5 10 true rfl rfl (.inl (gF g1)) rfl ?_
  refine SOps.skip rfl 10 15 false rfl rfl (.inr rfl) rfl ?_
  refine SOps.skip rfl 10 15 false rfl rfl (.inr rfl) rfl ?_
  refine SOps.skip rfl 10 15 false rfl rfl (.inr rfl) rfl ?_
  refine SOps.skip rfl 10 15 false rfl rfl (.inr rfl) rfl ?_
  refine SOps.skip rfl 10 15 false rfl rfl (.inr rfl) rfl ?_
  refine SOps.skip rfl 5 10 true rfl rfl (.inl (gF g1)) rfl ?_
  refine SOps.q rfl (.plain rfl) rfl (q_pick_f rfl rfl g1 rfl) ?_
  refine SOps.q rfl (.plain rfl) rfl (q_assign rfl rfl) ?_
  refine SOps.sub (st' := ⟨[(4, .c (.bool false))], []⟩) (sub_gen [] rfl rfl ⟨zc rfl rfl, trivial⟩ trivial) ?_
  refine SOps.nil ?_
  refine SCode.ret ?_
  obtain rfl := Option.some.inj h
  exact ⟨⟨[(4, .c (.bool false))], []⟩, _, sub_gen [] rfl rfl ⟨zc rfl rfl, trivial⟩ trivial, resA1 (v := .c (.bool false)) rfl rfl, rfl⟩
set_option maxRecDepth 100000 in
set_option maxHeartbeats 8000000 in
theorem chargenetref39_covers_ok (F : Nat) (a0_r : SRole) (a1_action : Int) (a2_object : ByteArray) (r : Bool) (h : chargenetref39_covers F a0_r a1_action a2_object = some r) :
    SFun Try.prog 33 [] [.a [.str a0_r.Name, .vec a0_r.Actions.length 1 (gL (cInt .i64) 0 a0_r.Actions), .str a0_r.Prefix, .bool a0_r.Deny], .c (.int .i64 a1_action), .c (.str a2_object)] (fun x _ => x = .c (.bool r)) := by
  refine SFun.of (n := 38) Try.func33 rfl rfl rfl ?_
  unfold chargenetref39_covers at h
  show SCode _ _ _ ⟨[(0, .a [.str a0_r.Name, .vec a0_r.Actions.length 1 (gL (cInt .i64) 0 a0_r.Actions), .str a0_r.Prefix, .bool a0_r.Deny]), (1, .c (.int .i64 a1_action)), (2, .c (.str a2_object))], []⟩ _
  refine SCode.seq ?_
  refine SCode.region (show SOps _ _ _ [0, 1] _ _ from ?_)
  refine SOps.e rfl (.plain rfl) (e_box rfl rfl rfl rfl rfl rfl) ?_
  refine SOps.q rfl (.plain rfl) rfl (q_assign rfl rfl) ?_
  refine SOps.sub (st' := ⟨[(1, .c (.int .i64 a1_action)), (2, .c (.str a2_object)), (3, .c (.ptr 0 0))], [.box [.str a0_r.Name, .vec a0_r.Actions.length 1 (gL (cInt .i64) 0 a0_r.Actions), .str a0_r.Prefix, .bool a0_r.Deny]]⟩) (sub_gen [0] rfl rfl ⟨zc rfl rfl, zc rfl rfl, zc rfl rfl, trivial⟩ ⟨⟨_, rfl, ⟨ii rfl rfl, ii rfl rfl, ii rfl rfl, ii rfl rfl, trivial⟩⟩, trivial⟩) ?_
  refine SOps.nil ?_
  refine SCode.seq ?_
  refine SCode.seq ?_
  rcases cond_out h with ⟨g1, h⟩ | ⟨g1, h⟩
  · refine SCode.draw (s' := [(23, .c (.bool true)), (22, .c (.raw (.tuple #[]))), (21, .c (.raw (.tuple #[]))), (20, .c (.raw (.tuple #[]))), (19, .c (.raw (.tuple #[]))), (18, .c (.raw (.tuple #[]))), (17, .c (.raw (.tuple #[]))), (16, .c (.raw (.tuple #[]))), (15, .c (.raw (.tuple #[]))), (14, .c (.bool (decide ((a2_object.size : Int) < (a0_r.Prefix.size : Int))))), (13, .c (.bool (decide ((a2_object.size : Int) < (a0_r.Prefix.size : Int))))), (12, .c (.int .i64 ((a0_r.Prefix.size : Int)))), (11, .c (.str a0_r.Prefix)), (10, .c (.ptr 0 2)), (9, .c (.int .i64 ((a2_object.size : Int)))), (8, .c (.str a2_object)), (1, .c (.int .i64 a1_action)), (2, .c (.str a2_object)), (3, .c (.ptr 0 0))]) mixed [[], [0], [], [2], [2, 3], [0, 1, 2, 3, 4], [0, 1, 2, 3, 4, 5], [0, 1, 2, 3, 4, 5, 6], [0, 1, 2, 3, 4, 5, 6], [0, 1, 2, 3, 4, 5, 6, 8], [0, 1, 2, 3, 4, 5, 6, 8, 9], [0, 1, 2, 3, 4, 5, 6, 7, 8, 9, 10], [0, 1, 2, 3, 4, 5, 6], [0, 1, 2, 3, 4, 5, 6, 12], [0, 1, 2, 3, 4, 5, 6, 7, 8, 9, 10, 11, 12, 13], [0, 1, 2, 3, 4, 5, 6, 7, 8, 9, 10, 11, 12, 13, 14]] 16 0 rfl rfl ?_ ?_
    · refine QChain.run rfl (.plain rfl) rfl (q_move rfl rfl) ?_
      refine QChain.run rfl (.plain rfl) rfl (q_len_str rfl rfl un9) ?_
      refine QChain.run rfl (.plain rfl) rfl (q_field_ptr rfl rfl fd51_2) ?_
      refine QChain.run rfl (.plain rfl) rfl (q_load_ptr rfl rfl rfl rfl ty9) ?_
      refine QChain.run rfl (.plain rfl) rfl (q_len_str rfl rfl un9) ?_
      refine QChain.run rfl (.plain rfl) rfl (q_lss rfl rfl rfl) ?_
      refine QChain.run rfl (.plain rfl) rfl (q_move rfl rfl) ?_
      refine QChain.skip rfl ⟨6, 14, false, rfl, rfl, (.inl (gT g1))⟩ rfl ?_
      refine QChain.skip rfl ⟨6, 14, false, rfl, rfl, (.inl (gT g1))⟩ rfl ?_
      refine QChain.skip rfl ⟨6, 14, false, rfl, rfl, (.inl (gT g1))⟩ rfl ?_
      refine QChain.skip rfl ⟨6, 14, false, rfl, rfl, (.inl (gT g1))⟩ rfl ?_
      refine QChain.skip rfl ⟨6, 14, false, rfl, rfl, (.inl (gT g1))⟩ rfl ?_
      refine QChain.skip rfl ⟨6, 14, false, rfl, rfl, (.inl (gT g1))⟩ rfl ?_
      refine QChain.skip rfl ⟨6, 14, false, rfl, rfl, (.inl (gT g1))⟩ rfl ?_
      refine QChain.skip rfl ⟨6, 14, false, rfl, rfl, (.inl (gT g1))⟩ rfl ?_
      refine QChain.run rfl (.plain rfl) rfl (q_pick_t rfl rfl g1 rfl) ?_
      exact QChain.nil _ _
    refine (show SOps _ _ _ [] _ _ from ?_)
    refine SOps.sub (st' := ⟨[(1, .c (.int .i64 a1_action)), (3, .c (.ptr 0 0)), (23, .c (.bool true))], [.box [.str a0_r.Name, .vec a0_r.Actions.length 1 (gL (cInt .i64) 0 a0_r.Actions), .str a0_r.Prefix, .bool a0_r.Deny]]⟩) (sub_gen [0] rfl rfl ⟨zc rfl rfl, zc rfl rfl, zc rfl rfl, trivial⟩ ⟨⟨_, rfl, ⟨ii rfl rfl, ii rfl rfl, ii rfl rfl, ii rfl rfl, trivial⟩⟩, trivial⟩) ?_
    refine SOps.nil ?_
    refine SCode.cond_t rfl rfl ?_
    refine SCode.seq ?_
    refine SCode.region (show SOps _ _ _ [0] _ _ from ?_)
    refine SOps.q rfl (.plain rfl) rfl (q_assign rfl rfl) ?_
    refine SOps.sub (st' := ⟨[(6, .c (.bool false))], []⟩) (sub_gen [] rfl rfl ⟨zc rfl rfl, trivial⟩ trivial) ?_
    refine SOps.nil ?_
    refine SCode.ret ?_
    obtain rfl := Option.some.inj h
    exact ⟨⟨[(6, .c (.bool false))], []⟩, _, sub_gen [] rfl rfl ⟨zc rfl rfl, trivial⟩ trivial, resA1 (v := .c (.bool false)) rfl rfl, rfl⟩
  obtain ⟨g2, h⟩ := guard_out h
  refine SCode.draw (s' := [(23, .c (.bool ((!(sEq (sSub a2_object 0 ((a0_r.Prefix.size : Int)).toNat) a0_r.Prefix))))), (22, .c (.bool ((!(sEq (sSub a2_object 0 ((a0_r.Prefix.size : Int)).toNat) a0_r.Prefix))))), (21, .c (.str a0_r.Prefix)), (20, .c (.ptr 0 2)), (19, .c (.str (sSub a2_object 0 ((a0_r.Prefix.size : Int)).toNat))), (18, .c (.int .i64 ((a0_r.Prefix.size : Int)))), (17, .c (.str a0_r.Prefix)), (16, .c (.ptr 0 2)), (15, .c (.str a2_object)), (14, .c (.bool (decide ((a2_object.size : Int) < (a0_r.Prefix.size : Int))))), (13, .c (.bool (decide ((a2_object.size : Int) < (a0_r.Prefix.size : Int))))), (12, .c (.int .i64 ((a0_r.Prefix.size : Int)))), (11, .c (.str a0_r.Prefix)), (10, .c (.ptr 0 2)), (9, .c (.int .i64 ((a2_object.size : Int)))), (8, .c (.str a2_object)), (1, .c (.int .i64 a1_action)), (2, .c (.str a2_object)), (3, .c (.ptr 0 0))]) mixed [[], [0], [], [2], [2, 3], [0, 1, 2, 3, 4], [0, 1, 2, 3, 4, 5], [0, 1, 2, 3, 4, 5, 6], [0, 1, 2, 3, 4, 5, 6], [0, 1, 2, 3, 4, 5, 6, 8], [0, 1, 2, 3, 4, 5, 6, 8, 9], [0, 1, 2, 3, 4, 5, 6, 7, 8, 9, 10], [0, 1, 2, 3, 4, 5, 6], [0, 1, 2, 3, 4, 5, 6, 12], [0, 1, 2, 3, 4, 5, 6, 7, 8, 9, 10, 11, 12, 13], [0, 1, 2, 3, 4, 5, 6, 7, 8, 9, 10, 11, 12, 13, 14]] 16 0 rfl rfl ?_ ?_
  · refine QChain.run rfl (.plain rfl) rfl (q_move rfl rfl) ?_
    refine QChain.run rfl (.plain rfl) rfl (q_len_str rfl rfl un9) ?_
    refine QChain.run rfl (.plain rfl) rfl (q_field_ptr rfl rfl fd51_2) ?_
    refine QChain.run rfl (.plain rfl) rfl (q_load_ptr rfl rfl rfl rfl ty9) ?_
    refine QChain.run rfl (.plain rfl) rfl (q_len_str rfl rfl un9) ?_
    refine QChain.run rfl (.plain rfl) rfl (q_lss rfl rfl rfl) ?_
    refine QChain.run rfl (.plain rfl) rfl (q_move rfl rfl) ?_
    refine QChain.run rfl (.guard 6 14 false rfl rfl (gF g1)) rfl (q_move rfl rfl) ?_
    refine QChain.run rfl (.guard 6 14 false rfl rfl (gF g1)) rfl (q_field_ptr rfl rfl fd51_2) ?_
    refine QChain.run rfl (.guard 6 14 false rfl rfl (gF g1)) rfl (q_load_ptr rfl rfl rfl rfl ty9) ?_
    refine QChain.run rfl (.guard 6 14 false rfl rfl (gF g1)) rfl (q_len_str rfl rfl un9) ?_
    refine QChain.run rfl (.guard 6 14 false rfl rfl (gF g1)) rfl (q_sslice_h rfl rfl rfl un9 g2.1 g2.2) ?_
    refine QChain.run rfl (.guard 6 14 false rfl rfl (gF g1)) rfl (q_field_ptr rfl rfl fd51_2) ?_
    refine QChain.run rfl (.guard 6 14 false rfl rfl (gF g1)) rfl (q_load_ptr rfl rfl rfl rfl ty9) ?_
    refine QChain.run rfl (.guard 6 14 false rfl rfl (gF g1)) rfl (q_neqS rfl rfl rfl) ?_
    refine QChain.run rfl (.plain rfl) rfl (q_pick_f rfl rfl g1 rfl) ?_
    exact QChain.nil _ _
  refine (show SOps _ _ _ [] _ _ from ?_)
  refine SOps.sub (st' := ⟨[(1, .c (.int .i64 a1_action)), (3, .c (.ptr 0 0)), (23, .c (.bool ((!(sEq (sSub a2_object 0 ((a0_r.Prefix.size : Int)).toNat) a0_r.Prefix)))))], [.box [.str a0_r.Name, .vec a0_r.Actions.length 1 (gL (cInt .i64) 0 a0_r.Actions), .str a0_r.Prefix, .bool a0_r.Deny]]⟩) (sub_gen [0] rfl rfl ⟨zc rfl rfl, zc rfl rfl, zc rfl rfl, trivial⟩ ⟨⟨_, rfl, ⟨ii rfl rfl, ii rfl rfl, ii rfl rfl, ii rfl rfl, trivial⟩⟩, trivial⟩) ?_
  refine SOps.nil ?_
  rcases cond_out h with ⟨g3, h⟩ | ⟨g3, h⟩
  · refine SCode.cond_t rfl g3 ?_
    refine SCode.seq ?_
    refine SCode.region (show SOps _ _ _ [0] _ _ from ?_)
    refine SOps.q rfl (.plain rfl) rfl (q_assign rfl rfl) ?_
    refine SOps.sub (st' := ⟨[(6, .c (.bool false))], []⟩) (sub_gen [] rfl rfl ⟨zc rfl rfl, trivial⟩ trivial) ?_
    refine SOps.nil ?_
    refine SCode.ret ?_
    obtain rfl := Option.some.inj h
    exact ⟨⟨[(6, .c (.bool false))], []⟩, _, sub_gen [] rfl rfl ⟨zc rfl rfl, trivial⟩ trivial, resA1 (v := .c (.bool false)) rfl rfl, rfl⟩
  refine SCode.cond_f rfl g3 ?_
  refine SCode.skip ?_
  refine SCode.join (σ := Unit) (S := fun s => ⟨[], []⟩) (g := fun s => chargenetref39_covers_p4 = some r) ?_ ?_
  rotate_left
  · refine SCode.seq ?_
    refine SCode.region (show SOps _ _ _ [0] _ _ from ?_)
    refine SOps.q rfl (.plain rfl) rfl (q_assign rfl rfl) ?_
    refine SOps.sub (st' := ⟨[(1, .c (.int .i64 a1_action)), (3, .c (.ptr 0 0)), (7, .c (.int .i64 0))], [.box [.str a0_r.Name, .vec a0_r.Actions.length 1 (gL (cInt .i64) 0 a0_r.Actions), .str a0_r.Prefix, .bool a0_r.Deny]]⟩) (sub_gen [0] rfl rfl ⟨zc rfl rfl, zc rfl rfl, zc rfl rfl, trivial⟩ ⟨⟨_, rfl, ⟨ii rfl rfl, ii rfl rfl, ii rfl rfl, ii rfl rfl, trivial⟩⟩, trivial⟩) ?_
    refine SOps.nil ?_
    refine SCode.block ?_
    refine SCode.sub (st' := ⟨[(1, .c (.int .i64 a1_action)), (3, .c (.ptr 0 0)), (7, .c (.int .i64 0))], [.box [.str a0_r.Name, .vec a0_r.Actions.length 1 (gL (cInt .i64) 0 a0_r.Actions), .str a0_r.Prefix, .bool a0_r.Deny]]⟩) (sub_gen [0] rfl rfl ⟨zc rfl rfl, zc rfl rfl, zc rfl rfl, trivial⟩ ⟨⟨_, rfl, ⟨ii rfl rfl, ii rfl rfl, ii rfl rfl, ii rfl rfl, trivial⟩⟩, trivial⟩) ?_
    refine (SCode.loop (σ := Nat × Int) (S := fun s => ⟨[(1, .c (.int .i64 a1_action)), (3, .c (.ptr 0 0)), (7, .c (.int .i64 s.2))], [.box [.str a0_r.Name, .vec a0_r.Actions.length 1 (gL (cInt .i64) 0 a0_r.Actions), .str a0_r.Prefix, .bool a0_r.Deny]]⟩) (g := fun s => chargenetref39_covers_l12 a0_r a1_action s.1 s.2 = some r) (μ := fun s => s.1) (F, 0) h ?_)
    rintro ⟨n_12, i_8⟩ h
    replace h : chargenetref39_covers_l12 a0_r a1_action n_12 i_8 = some r := h
    show SCode _ _ _ ⟨[(1, .c (.int .i64 a1_action)), (3, .c (.ptr 0 0)), (7, .c (.int .i64 i_8))], [.box [.str a0_r.Name, .vec a0_r.Actions.length 1 (gL (cInt .i64) 0 a0_r.Actions), .str a0_r.Prefix, .bool a0_r.Deny]]⟩ _
    cases n_12 with
    | zero => cases h
    | succ n_12 =>
      replace h : chargenetref39_covers_b12 a0_r a1_action (fun i_8 => chargenetref39_covers_l12 a0_r a1_action n_12 i_8) i_8 = some r := h
      unfold chargenetref39_covers_b12 at h
      refine SCode.seq ?_
      refine SCode.seq ?_
      refine SCode.region (show SOps _ _ _ [0, 1, 2, 3, 4] _ _ from ?_)
      refine SOps.q rfl (.plain rfl) rfl (q_move rfl rfl) ?_
      refine SOps.q rfl (.plain rfl) rfl (q_field_ptr rfl rfl fd51_1) ?_
      refine SOps.q rfl (.plain rfl) rfl (q_load_ptr rfl rfl rfl rfl ty48) ?_
      refine SOps.q rfl (.plain rfl) rfl (q_len_vec rfl rfl sl48) ?_
      refine SOps.q rfl (.plain rfl) rfl (q_lss rfl rfl rfl) ?_
      refine SOps.sub (st' := ⟨[(1, .c (.int .i64 a1_action)), (3, .c (.ptr 0 0)), (7, .c (.int .i64 i_8)), (28, .c (.bool (decide (i_8 < ((a0_r.Actions).length : Int)))))], [.box [.str a0_r.Name, .vec a0_r.Actions.length 1 (gL (cInt .i64) 0 a0_r.Actions), .str a0_r.Prefix, .bool a0_r.Deny]]⟩) (sub_gen [0] rfl rfl ⟨zc rfl rfl, zc rfl rfl, zc rfl rfl, zc rfl rfl, trivial⟩ ⟨⟨_, rfl, ⟨ii rfl rfl, ii rfl rfl, ii rfl rfl, ii rfl rfl, trivial⟩⟩, trivial⟩) ?_
      refine SOps.nil ?_
      rcases cond_out h with ⟨g13, h⟩ | ⟨g13, h⟩
      · refine SCode.cond_t rfl g13 ?_
        refine SCode.skip ?_
        refine SCode.seq ?_
        refine SCode.block ?_
        refine SCode.seq ?_
        obtain ⟨g14, h⟩ := guard_out h
        refine SCode.region (show SOps _ _ _ [0, 1, 2, 3, 4, 5, 6] _ _ from ?_)
        refine SOps.q rfl (.plain rfl) rfl (q_field_ptr rfl rfl fd51_1) ?_
        refine SOps.q rfl (.plain rfl) rfl (q_load_ptr rfl rfl rfl rfl ty48) ?_
        refine SOps.q rfl (.plain rfl) rfl (q_move rfl rfl) ?_
        refine SOps.q rfl (.plain rfl) rfl (q_index_vec rfl rfl rfl sl48 rfl g14.1 g14.2) ?_
        refine SOps.q rfl (.plain rfl) rfl (q_load_eptr rfl rfl ty3) ?_
        refine SOps.q rfl (.plain rfl) rfl (q_move rfl rfl) ?_
        refine SOps.q rfl (.plain rfl) rfl (q_eql rfl rfl rfl) ?_
        refine SOps.sub (st' := ⟨[(1, .c (.int .i64 a1_action)), (3, .c (.ptr 0 0)), (7, .c (.int .i64 i_8)), (37, .c (.bool (decide (a0_r.Actions.getD i_8.toNat 0 = a1_action))))], [.box [.str a0_r.Name, .vec a0_r.Actions.length 1 (gL (cInt .i64) 0 a0_r.Actions), .str a0_r.Prefix, .bool a0_r.Deny]]⟩) (sub_gen [0] rfl rfl ⟨zc rfl rfl, zc rfl rfl, zc rfl rfl, zc rfl rfl, trivial⟩ ⟨⟨_, rfl, ⟨ii rfl rfl, ii rfl rfl, ii rfl rfl, ii rfl rfl, trivial⟩⟩, trivial⟩) ?_
        refine SOps.nil ?_
        rcases cond_out h with ⟨g15, h⟩ | ⟨g15, h⟩
        · refine SCode.cond_t rfl g15 ?_
          refine SCode.seq ?_
          refine SCode.region (show SOps _ _ _ [0] _ _ from ?_)
          refine SOps.q rfl (.plain rfl) rfl (q_assign rfl rfl) ?_
          refine SOps.sub (st' := ⟨[(6, .c (.bool true))], []⟩) (sub_gen [] rfl rfl ⟨zc rfl rfl, trivial⟩ trivial) ?_
          refine SOps.nil ?_
          refine SCode.ret ?_
          obtain rfl := Option.some.inj h
          exact ⟨⟨[(6, .c (.bool true))], []⟩, _, sub_gen [] rfl rfl ⟨zc rfl rfl, trivial⟩ trivial, resA1 (v := .c (.bool true)) rfl rfl, rfl⟩
        refine SCode.cond_f rfl g15 ?_
        refine SCode.skip ?_
        refine SCode.region (show SOps _ _ _ [0, 1, 2] _ _ from ?_)
        refine SOps.q rfl (.plain rfl) rfl (q_move rfl rfl) ?_
        refine SOps.q rfl (.plain rfl) rfl (q_add rfl rfl rfl) ?_
        refine SOps.q rfl (.plain rfl) rfl (q_assign rfl rfl) ?_
        refine SOps.sub (st' := ⟨[(1, .c (.int .i64 a1_action)), (3, .c (.ptr 0 0)), (7, .c (.int .i64 (IntKind.wrap .i64 (i_8 + 1))))], [.box [.str a0_r.Name, .vec a0_r.Actions.length 1 (gL (cInt .i64) 0 a0_r.Actions), .str a0_r.Prefix, .bool a0_r.Deny]]⟩) (sub_gen [0] rfl rfl ⟨zc rfl rfl, zc rfl rfl, zc rfl rfl, trivial⟩ ⟨⟨_, rfl, ⟨ii rfl rfl, ii rfl rfl, ii rfl rfl, ii rfl rfl, trivial⟩⟩, trivial⟩) ?_
        refine SOps.nil ?_
        exact ⟨(n_12, IntKind.wrap .i64 (i_8 + 1)), h, Nat.lt_succ_self n_12, sub_gen [0] rfl rfl ⟨zc rfl rfl, zc rfl rfl, zc rfl rfl, trivial⟩ ⟨⟨_, rfl, ⟨ii rfl rfl, ii rfl rfl, ii rfl rfl, ii rfl rfl, trivial⟩⟩, trivial⟩⟩
      refine SCode.cond_f rfl g13 ?_
      refine SCode.exit ?_
      exact ⟨(), h, sub_gen [] rfl rfl trivial trivial⟩
  rintro ⟨⟩ h
  show SCode _ _ _ ⟨[], []⟩ _
  replace h : chargenetref39_covers_p4 = some r := h
  unfold chargenetref39_covers_p4 at h
  refine SCode.seq ?_
  refine SCode.region (show SOps _ _ _ [0] _ _ from ?_)
  refine SOps.q rfl (.plain rfl) rfl (q_assign rfl rfl) ?_
  refine SOps.sub (st' := ⟨[(6, .c (.bool false))], []⟩) (sub_gen [] rfl rfl ⟨zc rfl rfl, trivial⟩ trivial) ?_
  refine SOps.nil ?_
  refine SCode.ret ?_
  obtain rfl := Option.some.inj h
  exact ⟨⟨[(6, .c (.bool false))], []⟩, _, sub_gen [] rfl rfl ⟨zc rfl rfl, trivial⟩ trivial, resA1 (v := .c (.bool false)) rfl rfl, rfl⟩
set_option maxRecDepth 100000 in
set_option maxHeartbeats 8000000 in
theorem chargenetref39_Allowed_ok (F : Nat) (a0_roles : List SRole) (a1_grants : List SGrant) (a2_user : ByteArray) (a3_action : Int) (a4_object : ByteArray) (a5_now : Int) (r : Bool) (h : chargenetref39_Allowed F a0_roles a1_grants a2_user a3_action a4_object a5_now = some r) :
    SFun Try.prog 15 [] [.c (.vec a0_roles.length 4 (gL cSRole dSRole a0_roles)), .c (.vec a1_grants.length 4 (gL cSGrant dSGrant a1_grants)), .c (.str a2_user), .c (.int .i64 a3_action), .c (.str a4_object), .c (.int .i64 a5_now)] (fun x _ => x = .c (.bool r)) := by
  refine SFun.of (n := 60) Try.func15 rfl rfl rfl ?_
  unfold chargenetref39_Allowed at h
  show SCode _ _ _ ⟨[(0, .c (.vec a0_roles.length 4 (gL cSRole dSRole a0_roles))), (1, .c (.vec a1_grants.length 4 (gL cSGrant dSGrant a1_grants))), (2, .c (.str a2_user)), (3, .c (.int .i64 a3_action)), (4, .c (.str a4_object)), (5, .c (.int .i64 a5_now))], []⟩ _
  refine SCode.seq ?_
  refine SCode.region (show SOps _ _ _ [0] _ _ from ?_)
  refine SOps.q rfl (.plain rfl) rfl (q_assign rfl rfl) ?_
  refine SOps.sub (st' := ⟨[(0, .c (.vec a0_roles.length 4 (gL cSRole dSRole a0_roles))), (1, .c (.vec a1_grants.length 4 (gL cSGrant dSGrant a1_grants))), (2, .c (.str a2_user)), (3, .c (.int .i64 a3_action)), (4, .c (.str a4_object)), (5, .c (.int .i64 a5_now))], []⟩) (sub_gen [] rfl rfl ⟨zc rfl rfl, zc rfl rfl, zc rfl rfl, zc rfl rfl, zc rfl rfl, zc rfl rfl, trivial⟩ trivial) ?_
  refine SOps.nil ?_
  refine SCode.seq ?_
  refine SCode.seq ?_
  obtain ⟨c_1, g2, h⟩ := bind_out h
  try dsimp only at h
  refine SCode.region (show SOps _ _ _ [0, 1, 2, 3] _ _ from ?_)
  refine SOps.q rfl (.plain rfl) rfl (q_move rfl rfl) ?_
  refine SOps.q rfl (.plain rfl) rfl (q_move rfl rfl) ?_
  refine SOps.q rfl (.plain rfl) rfl (q_call (chargenetref39_Valid_ok F a0_roles a1_grants c_1 g2) [] rfl fn13 ⟨⟨_, rfl, .inl ⟨rfl, rfl⟩⟩, ⟨_, rfl, .inl ⟨rfl, rfl⟩⟩, trivial⟩ (.inl rfl)) ?_
  refine SOps.q rfl (.plain rfl) rfl (q_neq rfl rfl rfl) ?_
  refine SOps.sub (st' := ⟨[(0, .c (.vec a0_roles.length 4 (gL cSRole dSRole a0_roles))), (1, .c (.vec a1_grants.length 4 (gL cSGrant dSGrant a1_grants))), (2, .c (.str a2_user)), (3, .c (.int .i64 a3_action)), (4, .c (.str a4_object)), (5, .c (.int .i64 a5_now)), (19, .c (.bool ((!decide (c_1 = 0)))))], []⟩) (sub_gen [] rfl rfl ⟨zc rfl rfl, zc rfl rfl, zc rfl rfl, zc rfl rfl, zc rfl rfl, zc rfl rfl, zc rfl rfl, trivial⟩ trivial) ?_
  refine SOps.nil ?_
  rcases cond_out h with ⟨g3, h⟩ | ⟨g3, h⟩
  · refine SCode.cond_t rfl g3 ?_
    refine SCode.seq ?_
    refine SCode.region (show SOps _ _ _ [0] _ _ from ?_)
    refine SOps.q rfl (.plain rfl) rfl (q_assign rfl rfl) ?_
    refine SOps.sub (st' := ⟨[(12, .c (.bool false))], []⟩) (sub_gen [] rfl rfl ⟨zc rfl rfl, trivial⟩ trivial) ?_
    refine SOps.nil ?_
    refine SCode.ret ?_
    obtain rfl := Option.some.inj h
    exact ⟨⟨[(12, .c (.bool false))], []⟩, _, sub_gen [] rfl rfl ⟨zc rfl rfl, trivial⟩ trivial, resA1 (v := .c (.bool false)) rfl rfl, rfl⟩
  refine SCode.cond_f rfl g3 ?_
  refine SCode.skip ?_
  refine SCode.seq ?_
  refine SCode.region (show SOps _ _ _ [0] _ _ from ?_)
  refine SOps.q rfl (.plain rfl) rfl (q_assign rfl rfl) ?_
  refine SOps.sub (st' := ⟨[(0, .c (.vec a0_roles.length 4 (gL cSRole dSRole a0_roles))), (1, .c (.vec a1_grants.length 4 (gL cSGrant dSGrant a1_grants))), (2, .c (.str a2_user)), (3, .c (.int .i64 a3_action)), (4, .c (.str a4_object)), (5, .c (.int .i64 a5_now)), (13, .c (.bool false))], []⟩) (sub_gen [] rfl rfl ⟨zc rfl rfl, zc rfl rfl, zc rfl rfl, zc rfl rfl, zc rfl rfl, zc rfl rfl, zc rfl rfl, trivial⟩ trivial) ?_
  refine SOps.nil ?_
  refine SCode.join (σ := Bool) (S := fun s => ⟨[(13, .c (.bool s))], []⟩) (g := fun s => chargenetref39_Allowed_p5 s = some r) ?_ ?_
  rotate_left
  · refine SCode.seq ?_
    refine SCode.region (show SOps _ _ _ [0] _ _ from ?_)
    refine SOps.q rfl (.plain rfl) rfl (q_assign rfl rfl) ?_
    refine SOps.sub (st' := ⟨[(0, .c (.vec a0_roles.length 4 (gL cSRole dSRole a0_roles))), (1, .c (.vec a1_grants.length 4 (gL cSGrant dSGrant a1_grants))), (2, .c (.str a2_user)), (3, .c (.int .i64 a3_action)), (4, .c (.str a4_object)), (5, .c (.int .i64 a5_now)), (13, .c (.bool false)), (14, .c (.int .i64 0))], []⟩) (sub_gen [] rfl rfl ⟨zc rfl rfl, zc rfl rfl, zc rfl rfl, zc rfl rfl, zc rfl rfl, zc rfl rfl, zc rfl rfl, zc rfl rfl, trivial⟩ trivial) ?_
    refine SOps.nil ?_
    refine SCode.block ?_
    refine SCode.sub (st' := ⟨[(0, .c (.vec a0_roles.length 4 (gL cSRole dSRole a0_roles))), (1, .c (.vec a1_grants.length 4 (gL cSGrant dSGrant a1_grants))), (2, .c (.str a2_user)), (3, .c (.int .i64 a3_action)), (4, .c (.str a4_object)), (5, .c (.int .i64 a5_now)), (13, .c (.bool false)), (14, .c (.int .i64 0))], []⟩) (sub_gen [] rfl rfl ⟨zc rfl rfl, zc rfl rfl, zc rfl rfl, zc rfl rfl, zc rfl rfl, zc rfl rfl, zc rfl rfl, zc rfl rfl, trivial⟩ trivial) ?_
    refine (SCode.loop (σ := Nat × (Bool × Int)) (S := fun s => ⟨[(0, .c (.vec a0_roles.length 4 (gL cSRole dSRole a0_roles))), (1, .c (.vec a1_grants.length 4 (gL cSGrant dSGrant a1_grants))), (2, .c (.str a2_user)), (3, .c (.int .i64 a3_action)), (4, .c (.str a4_object)), (5, .c (.int .i64 a5_now)), (13, .c (.bool s.2.1)), (14, .c (.int .i64 s.2.2))], []⟩) (g := fun s => chargenetref39_Allowed_l42 F a0_roles a1_grants a2_user a3_action a4_object a5_now s.1 s.2.1 s.2.2 = some r) (μ := fun s => s.1) (F, (false, 0)) h ?_)
    rintro ⟨n_42, ⟨allowed_23, i_24⟩⟩ h
    replace h : chargenetref39_Allowed_l42 F a0_roles a1_grants a2_user a3_action a4_object a5_now n_42 allowed_23 i_24 = some r := h
    show SCode _ _ _ ⟨[(0, .c (.vec a0_roles.length 4 (gL cSRole dSRole a0_roles))), (1, .c (.vec a1_grants.length 4 (gL cSGrant dSGrant a1_grants))), (2, .c (.str a2_user)), (3, .c (.int .i64 a3_action)), (4, .c (.str a4_object)), (5, .c (.int .i64 a5_now)), (13, .c (.bool allowed_23)), (14, .c (.int .i64 i_24))], []⟩ _
    cases n_42 with
    | zero => cases h
    | succ n_42 =>
      replace h : chargenetref39_Allowed_b42 F a0_roles a1_grants a2_user a3_action a4_object a5_now (fun allowed_23 i_24 => chargenetref39_Allowed_l42 F a0_roles a1_grants a2_user a3_action a4_object a5_now n_42 allowed_23 i_24) allowed_23 i_24 = some r := h
      unfold chargenetref39_Allowed_b42 at h
      refine SCode.seq ?_
      refine SCode.seq ?_
      refine SCode.region (show SOps _ _ _ [0, 1, 2, 3] _ _ from ?_)
      refine SOps.q rfl (.plain rfl) rfl (q_move rfl rfl) ?_
      refine SOps.q rfl (.plain rfl) rfl (q_move rfl rfl) ?_
      refine SOps.q rfl (.plain rfl) rfl (q_len_vec rfl rfl sl23) ?_
      refine SOps.q rfl (.plain rfl) rfl (q_lss rfl rfl rfl) ?_
      refine SOps.sub (st' := ⟨[(0, .c (.vec a0_roles.length 4 (gL cSRole dSRole a0_roles))), (1, .c (.vec a1_grants.length 4 (gL cSGrant dSGrant a1_grants))), (2, .c (.str a2_user)), (3, .c (.int .i64 a3_action)), (4, .c (.str a4_object)), (5, .c (.int .i64 a5_now)), (13, .c (.bool allowed_23)), (14, .c (.int .i64 i_24)), (23, .c (.bool (decide (i_24 < ((a1_grants).length : Int)))))], []⟩) (sub_gen [] rfl rfl ⟨zc rfl rfl, zc rfl rfl, zc rfl rfl, zc rfl rfl, zc rfl rfl, zc rfl rfl, zc rfl rfl, zc rfl rfl, zc rfl rfl, trivial⟩ trivial) ?_
      refine SOps.nil ?_
      rcases cond_out h with ⟨g43, h⟩ | ⟨g43, h⟩
      · refine SCode.cond_t rfl g43 ?_
        refine SCode.skip ?_
        refine SCode.join (σ := Bool) (S := fun s => ⟨[(0, .c (.vec a0_roles.length 4 (gL cSRole dSRole a0_roles))), (1, .c (.vec a1_grants.length 4 (gL cSGrant dSGrant a1_grants))), (2, .c (.str a2_user)), (3, .c (.int .i64 a3_action)), (4, .c (.str a4_object)), (5, .c (.int .i64 a5_now)), (13, .c (.bool s)), (14, .c (.int .i64 i_24))], []⟩) (g := fun s => chargenetref39_Allowed_p45 i_24 (fun allowed_23 i_24 => chargenetref39_Allowed_l42 F a0_roles a1_grants a2_user a3_action a4_object a5_now n_42 allowed_23 i_24) s = some r) ?_ ?_
        rotate_left
        · refine SCode.block ?_
          refine SCode.seq ?_
          refine SCode.seq ?_
          obtain ⟨g46, h⟩ := guard_out h
          rcases cond_out h with ⟨g47, h⟩ | ⟨g47, h⟩
          · refine SCode.region (show SOps _ _ _ [0, 1, 2, 3, 4, 5, 6, 7, 8, 9, 10, 11, 12, 13, 14, 15] _ _ from ?_)
            refine SOps.q rfl (.plain rfl) rfl (q_move rfl rfl) ?_
            refine SOps.q rfl (.plain rfl) rfl (q_move rfl rfl) ?_
            refine SOps.q rfl (.plain rfl) rfl (q_index_vec rfl rfl rfl sl23 rfl g46.1 g46.2) ?_
            refine SOps.q rfl (.plain rfl) rfl (q_field_eptr rfl rfl fd37_0 rfl) ?_
            refine SOps.q rfl (.plain rfl) rfl (q_load_eptr rfl rfl ty9) ?_
            refine SOps.q rfl (.plain rfl) rfl (q_move rfl rfl) ?_
            refine SOps.q rfl (.plain rfl) rfl (q_neqS rfl rfl rfl) ?_
            refine SOps.q rfl (.plain rfl) rfl (q_move rfl rfl) ?_
            refine SOps.skip rfl 7 33 false rfl rfl (.inl (gT g47)) rfl ?_
            refine SOps.skip rfl 7 33 false rfl rfl (.inl (gT g47)) rfl ?_
            refine SOps.skip rfl 7 33 false rfl rfl (.inl (gT g47)) rfl ?_
            refine SOps.skip rfl 7 33 false rfl rfl (.inl (gT g47)) rfl ?_
            refine SOps.skip rfl 7 33 false rfl rfl (.inl (gT g47)) rfl ?_
            refine SOps.skip rfl 7 33 false rfl rfl (.inl (gT g47)) rfl ?_
            refine SOps.skip rfl 7 33 false rfl rfl (.inl (gT g47)) rfl ?_
            refine SOps.q rfl (.plain rfl) rfl (q_pick_t rfl rfl g47 rfl) ?_
            refine SOps.sub (st' := ⟨[(0, .c (.vec a0_roles.length 4 (gL cSRole dSRole a0_roles))), (1, .c (.vec a1_grants.length 4 (gL cSGrant dSGrant a1_grants))), (2, .c (.str a2_user)), (3, .c (.int .i64 a3_action)), (4, .c (.str a4_object)), (5, .c (.int .i64 a5_now)), (13, .c (.bool allowed_23)), (14, .c (.int .i64 i_24)), (41, .c (.bool true))], []⟩) (sub_gen [] rfl rfl ⟨zc rfl rfl, zc rfl rfl, zc rfl rfl, zc rfl rfl, zc rfl rfl, zc rfl rfl, zc rfl rfl, zc rfl rfl, zc rfl rfl, trivial⟩ trivial) ?_
            refine SOps.nil ?_
            refine SCode.cond_t rfl rfl ?_
            refine SCode.exit ?_
            exact ⟨allowed_23, h, sub_gen [] rfl rfl ⟨zc rfl rfl, zc rfl rfl, zc rfl rfl, zc rfl rfl, zc rfl rfl, zc rfl rfl, zc rfl rfl, zc rfl rfl, trivial⟩ trivial⟩
          obtain ⟨g48, h⟩ := guard_out h
          obtain ⟨c_49, g50, h⟩ := bind_out h
          try dsimp only at h
          refine SCode.region (show SOps _ _ _ [0, 1, 2, 3, 4, 5, 6, 7, 8, 9, 10, 11, 12, 13, 14, 15] _ _ from ?_)
          refine SOps.q rfl (.plain rfl) rfl (q_move rfl rfl) ?_
          refine SOps.q rfl (.plain rfl) rfl (q_move rfl rfl) ?_
          refine SOps.q rfl (.plain rfl) rfl (q_index_vec rfl rfl rfl sl23 rfl g46.1 g46.2) ?_
          refine SOps.q rfl (.plain rfl) rfl (q_field_eptr rfl rfl fd37_0 rfl) ?_
          refine SOps.q rfl (.plain rfl) rfl (q_load_eptr rfl rfl ty9) ?_
          refine SOps.q rfl (.plain rfl) rfl (q_move rfl rfl) ?_
          refine SOps.q rfl (.plain rfl) rfl (q_neqS rfl rfl rfl) ?_
          refine SOps.q rfl (.plain rfl) rfl (q_move rfl rfl) ?_
          refine SOps.q rfl (.guard 7 33 false rfl rfl (gF g47)) rfl (q_move rfl rfl) ?_
          refine SOps.q rfl (.guard 7 33 false rfl rfl (gF g47)) rfl (q_move rfl rfl) ?_
          refine SOps.q rfl (.guard 7 33 false rfl rfl (gF g47)) rfl (q_index_vec rfl rfl rfl sl23 rfl g48.1 g48.2) ?_
          refine SOps.q rfl (.guard 7 33 false rfl rfl (gF g47)) rfl (q_load_eptr_all rfl rfl rfl ty37) ?_
          refine SOps.q rfl (.guard 7 33 false rfl rfl (gF g47)) rfl (q_move rfl rfl) ?_
          refine SOps.q rfl (.guard 7 33 false rfl rfl (gF g47)) rfl (q_call (chargenetref39_holds_ok F (a1_grants.getD i_24.toNat dSGrant) a5_now c_49 g50) [] rfl fn31 ⟨⟨rfl, rfl⟩, ⟨_, rfl, .inl ⟨rfl, rfl⟩⟩, trivial⟩ (.inl rfl)) ?_
          refine SOps.q rfl (.guard 7 33 false rfl rfl (gF g47)) rfl (q_not rfl rfl) ?_
          refine SOps.q rfl (.plain rfl) rfl (q_pick_f rfl rfl g47 rfl) ?_
          refine SOps.sub (st' := ⟨[(0, .c (.vec a0_roles.length 4 (gL cSRole dSRole a0_roles))), (1, .c (.vec a1_grants.length 4 (gL cSGrant dSGrant a1_grants))), (2, .c (.str a2_user)), (3, .c (.int .i64 a3_action)), (4, .c (.str a4_object)), (5, .c (.int .i64 a5_now)), (13, .c (.bool allowed_23)), (14, .c (.int .i64 i_24)), (41, .c (.bool ((!c_49))))], []⟩) (sub_gen [] rfl rfl ⟨zc rfl rfl, zc rfl rfl, zc rfl rfl, zc rfl rfl, zc rfl rfl, zc rfl rfl, zc rfl rfl, zc rfl rfl, zc rfl rfl, trivial⟩ trivial) ?_
          refine SOps.nil ?_
          rcases cond_out h with ⟨g51, h⟩ | ⟨g51, h⟩
          · refine SCode.cond_t rfl g51 ?_
            refine SCode.exit ?_
            exact ⟨allowed_23, h, sub_gen [] rfl rfl ⟨zc rfl rfl, zc rfl rfl, zc rfl rfl, zc rfl rfl, zc rfl rfl, zc rfl rfl, zc rfl rfl, zc rfl rfl, trivial⟩ trivial⟩
          refine SCode.cond_f rfl g51 ?_
          refine SCode.skip ?_
          refine SCode.seq ?_
          obtain ⟨g52, h⟩ := guard_out h
          obtain ⟨c_53, g54, h⟩ := bind_out h
          try dsimp only at h
          obtain ⟨g55, h⟩ := guard_out h
          refine SCode.region (show SOps _ _ _ [0, 1, 2, 3, 4, 5, 6, 7, 8, 9, 10, 11] _ _ from ?_)
          refine SOps.q rfl (.plain rfl) rfl (q_move rfl rfl) ?_
          refine SOps.q rfl (.plain rfl) rfl (q_move rfl rfl) ?_
          refine SOps.q rfl (.plain rfl) rfl (q_move rfl rfl) ?_
          refine SOps.q rfl (.plain rfl) rfl (q_move rfl rfl) ?_
          refine SOps.q rfl (.plain rfl) rfl (q_index_vec rfl rfl rfl sl23 rfl g52.1 g52.2) ?_
          refine SOps.q rfl (.plain rfl) rfl (q_field_eptr rfl rfl fd37_1 rfl) ?_
          refine SOps.q rfl (.plain rfl) rfl (q_load_eptr rfl rfl ty9) ?_
          refine SOps.q rfl (.plain rfl) rfl (q_call (chargenetref39_named_ok F a0_roles ((a1_grants.getD i_24.toNat dSGrant).Role) c_53 g54) [] rfl fn32 ⟨⟨_, rfl, .inl ⟨rfl, rfl⟩⟩, ⟨_, rfl, .inl ⟨rfl, rfl⟩⟩, trivial⟩ (.inl rfl)) ?_
          refine SOps.q rfl (.plain rfl) rfl (q_index_vec rfl rfl rfl sl22 rfl g55.1 g55.2) ?_
          refine SOps.q rfl (.plain rfl) rfl (q_load_eptr_all rfl rfl rfl ty51) ?_
          refine SOps.e rfl (.plain rfl) (e_alloc rfl rfl rfl z51) ?_
          refine SOps.e rfl (.plain rfl) (e_store_box rfl rfl rfl rfl rfl ty51 rfl rfl rfl rfl) ?_
          refine SOps.sub (st' := ⟨[(0, .c (.vec a0_roles.length 4 (gL cSRole dSRole a0_roles))), (1, .c (.vec a1_grants.length 4 (gL cSGrant dSGrant a1_grants))), (2, .c (.str a2_user)), (3, .c (.int .i64 a3_action)), (4, .c (.str a4_object)), (5, .c (.int .i64 a5_now)), (13, .c (.bool allowed_23)), (14, .c (.int .i64 i_24)), (15, .c (.ptr 0 0))], [.box [.str ((a0_roles.getD c_53.toNat dSRole).Name), .vec ((a0_roles.getD c_53.toNat dSRole).Actions).length 1 (gL (cInt .i64) 0 ((a0_roles.getD c_53.toNat dSRole).Actions)), .str ((a0_roles.getD c_53.toNat dSRole).Prefix), .bool ((a0_roles.getD c_53.toNat dSRole).Deny)]]⟩) (sub_gen [0] rfl rfl ⟨zc rfl rfl, zc rfl rfl, zc rfl rfl, zc rfl rfl, zc rfl rfl, zc rfl rfl, zc rfl rfl, zc rfl rfl, zc rfl rfl, trivial⟩ ⟨⟨_, rfl, ⟨ii rfl rfl, ii rfl rfl, ii rfl rfl, ii rfl rfl, trivial⟩⟩, trivial⟩) ?_
          refine SOps.nil ?_
          refine SCode.seq ?_
          refine SCode.seq ?_
          obtain ⟨c_56, g57, h⟩ := bind_out h
          try dsimp only at h
          refine SCode.region (show SOps _ _ _ [0, 1, 2, 3, 4] _ _ from ?_)
          refine SOps.q rfl (.plain rfl) rfl (q_load_ptr_all rfl rfl rfl rfl rfl ty51) ?_
          refine SOps.q rfl (.plain rfl) rfl (q_move rfl rfl) ?_
          refine SOps.q rfl (.plain rfl) rfl (q_move rfl rfl) ?_
          refine SOps.q rfl (.plain rfl) rfl (q_call (chargenetref39_covers_ok F (a0_roles.getD c_53.toNat dSRole) a3_action a4_object c_56 g57) [] rfl fn33 ⟨⟨rfl, rfl⟩, ⟨_, rfl, .inl ⟨rfl, rfl⟩⟩, ⟨_, rfl, .inl ⟨rfl, rfl⟩⟩, trivial⟩ (.inl rfl)) ?_
          refine SOps.q rfl (.plain rfl) rfl (q_not rfl rfl) ?_
          refine SOps.sub (st' := ⟨[(0, .c (.vec a0_roles.length 4 (gL cSRole dSRole a0_roles))), (1, .c (.vec a1_grants.length 4 (gL cSGrant dSGrant a1_grants))), (2, .c (.str a2_user)), (3, .c (.int .i64 a3_action)), (4, .c (.str a4_object)), (5, .c (.int .i64 a5_now)), (13, .c (.bool allowed_23)), (14, .c (.int .i64 i_24)), (15, .c (.ptr 0 0)), (56, .c (.bool ((!c_56))))], [.box [.str ((a0_roles.getD c_53.toNat dSRole).Name), .vec ((a0_roles.getD c_53.toNat dSRole).Actions).length 1 (gL (cInt .i64) 0 ((a0_roles.getD c_53.toNat dSRole).Actions)), .str ((a0_roles.getD c_53.toNat dSRole).Prefix), .bool ((a0_roles.getD c_53.toNat dSRole).Deny)]]⟩) (sub_gen [0] rfl rfl ⟨zc rfl rfl, zc rfl rfl, zc rfl rfl, zc rfl rfl, zc rfl rfl, zc rfl rfl, zc rfl rfl, zc rfl rfl, zc rfl rfl, zc rfl rfl, trivial⟩ ⟨⟨_, rfl, ⟨ii rfl rfl, ii rfl rfl, ii rfl rfl, ii rfl rfl, trivial⟩⟩, trivial⟩) ?_
          refine SOps.nil ?_
          rcases cond_out h with ⟨g58, h⟩ | ⟨g58, h⟩
          · refine SCode.cond_t rfl g58 ?_
            refine SCode.exit ?_
            exact ⟨allowed_23, h, sub_gen [] rfl rfl ⟨zc rfl rfl, zc rfl rfl, zc rfl rfl, zc rfl rfl, zc rfl rfl, zc rfl rfl, zc rfl rfl, zc rfl rfl, trivial⟩ trivial⟩
          refine SCode.cond_f rfl g58 ?_
          refine SCode.skip ?_
          refine SCode.seq ?_
          refine SCode.seq ?_
          refine SCode.region (show SOps _ _ _ [0, 1] _ _ from ?_)
          refine SOps.q rfl (.plain rfl) rfl (q_field_ptr rfl rfl fd51_3) ?_
          refine SOps.q rfl (.plain rfl) rfl (q_load_ptr rfl rfl rfl rfl ty4) ?_
          refine SOps.sub (st' := ⟨[(0, .c (.vec a0_roles.length 4 (gL cSRole dSRole a0_roles))), (1, .c (.vec a1_grants.length 4 (gL cSGrant dSGrant a1_grants))), (2, .c (.str a2_user)), (3, .c (.int .i64 a3_action)), (4, .c (.str a4_object)), (5, .c (.int .i64 a5_now)), (14, .c (.int .i64 i_24)), (58, .c (.bool ((a0_roles.getD c_53.toNat dSRole).Deny)))], []⟩) (sub_gen [] rfl rfl ⟨zc rfl rfl, zc rfl rfl, zc rfl rfl, zc rfl rfl, zc rfl rfl, zc rfl rfl, zc rfl rfl, zc rfl rfl, trivial⟩ trivial) ?_
          refine SOps.nil ?_
          rcases cond_out h with ⟨g59, h⟩ | ⟨g59, h⟩
          · refine SCode.cond_t rfl g59 ?_
            refine SCode.seq ?_
            refine SCode.region (show SOps _ _ _ [0] _ _ from ?_)
            refine SOps.q rfl (.plain rfl) rfl (q_assign rfl rfl) ?_
            refine SOps.sub (st' := ⟨[(12, .c (.bool false))], []⟩) (sub_gen [] rfl rfl ⟨zc rfl rfl, trivial⟩ trivial) ?_
            refine SOps.nil ?_
            refine SCode.ret ?_
            obtain rfl := Option.some.inj h
            exact ⟨⟨[(12, .c (.bool false))], []⟩, _, sub_gen [] rfl rfl ⟨zc rfl rfl, trivial⟩ trivial, resA1 (v := .c (.bool false)) rfl rfl, rfl⟩
          refine SCode.cond_f rfl g59 ?_
          refine SCode.skip ?_
          refine SCode.region (show SOps _ _ _ [0] _ _ from ?_)
          refine SOps.q rfl (.plain rfl) rfl (q_assign rfl rfl) ?_
          refine SOps.sub (st' := ⟨[(0, .c (.vec a0_roles.length 4 (gL cSRole dSRole a0_roles))), (1, .c (.vec a1_grants.length 4 (gL cSGrant dSGrant a1_grants))), (2, .c (.str a2_user)), (3, .c (.int .i64 a3_action)), (4, .c (.str a4_object)), (5, .c (.int .i64 a5_now)), (13, .c (.bool true)), (14, .c (.int .i64 i_24))], []⟩) (sub_gen [] rfl rfl ⟨zc rfl rfl, zc rfl rfl, zc rfl rfl, zc rfl rfl, zc rfl rfl, zc rfl rfl, zc rfl rfl, zc rfl rfl, trivial⟩ trivial) ?_
          refine SOps.nil ?_
          exact ⟨true, h, sub_gen [] rfl rfl ⟨zc rfl rfl, zc rfl rfl, zc rfl rfl, zc rfl rfl, zc rfl rfl, zc rfl rfl, zc rfl rfl, zc rfl rfl, trivial⟩ trivial⟩
        rintro allowed_44 h
        show SCode _ _ _ ⟨[(0, .c (.vec a0_roles.length 4 (gL cSRole dSRole a0_roles))), (1, .c (.vec a1_grants.length 4 (gL cSGrant dSGrant a1_grants))), (2, .c (.str a2_user)), (3, .c (.int .i64 a3_action)), (4, .c (.str a4_object)), (5, .c (.int .i64 a5_now)), (13, .c (.bool allowed_44)), (14, .c (.int .i64 i_24))], []⟩ _
        replace h : chargenetref39_Allowed_p45 i_24 (fun allowed_23 i_24 => chargenetref39_Allowed_l42 F a0_roles a1_grants a2_user a3_action a4_object a5_now n_42 allowed_23 i_24) allowed_44 = some r := h
        unfold chargenetref39_Allowed_p45 at h
        refine SCode.region (show SOps _ _ _ [0, 1, 2] _ _ from ?_)
        refine SOps.q rfl (.plain rfl) rfl (q_move rfl rfl) ?_
        refine SOps.q rfl (.plain rfl) rfl (q_add rfl rfl rfl) ?_
        refine SOps.q rfl (.plain rfl) rfl (q_assign rfl rfl) ?_
        refine SOps.sub (st' := ⟨[(0, .c (.vec a0_roles.length 4 (gL cSRole dSRole a0_roles))), (1, .c (.vec a1_grants.length 4 (gL cSGrant dSGrant a1_grants))), (2, .c (.str a2_user)), (3, .c (.int .i64 a3_action)), (4, .c (.str a4_object)), (5, .c (.int .i64 a5_now)), (13, .c (.bool allowed_44)), (14, .c (.int .i64 (IntKind.wrap .i64 (i_24 + 1))))], []⟩) (sub_gen [] rfl rfl ⟨zc rfl rfl, zc rfl rfl, zc rfl rfl, zc rfl rfl, zc rfl rfl, zc rfl rfl, zc rfl rfl, zc rfl rfl, trivial⟩ trivial) ?_
        refine SOps.nil ?_
        exact ⟨(n_42, (allowed_44, IntKind.wrap .i64 (i_24 + 1))), h, Nat.lt_succ_self n_42, sub_gen [] rfl rfl ⟨zc rfl rfl, zc rfl rfl, zc rfl rfl, zc rfl rfl, zc rfl rfl, zc rfl rfl, zc rfl rfl, zc rfl rfl, trivial⟩ trivial⟩
      refine SCode.cond_f rfl g43 ?_
      refine SCode.exit ?_
      exact ⟨allowed_23, h, sub_gen [] rfl rfl ⟨zc rfl rfl, trivial⟩ trivial⟩
  rintro allowed_4 h
  show SCode _ _ _ ⟨[(13, .c (.bool allowed_4))], []⟩ _
  replace h : chargenetref39_Allowed_p5 allowed_4 = some r := h
  unfold chargenetref39_Allowed_p5 at h
  refine SCode.seq ?_
  refine SCode.region (show SOps _ _ _ [0, 1] _ _ from ?_)
  refine SOps.q rfl (.plain rfl) rfl (q_move rfl rfl) ?_
  refine SOps.q rfl (.plain rfl) rfl (q_assign rfl rfl) ?_
  refine SOps.sub (st' := ⟨[(12, .c (.bool allowed_4))], []⟩) (sub_gen [] rfl rfl ⟨zc rfl rfl, trivial⟩ trivial) ?_
  refine SOps.nil ?_
  refine SCode.ret ?_
  obtain rfl := Option.some.inj h
  exact ⟨⟨[(12, .c (.bool allowed_4))], []⟩, _, sub_gen [] rfl rfl ⟨zc rfl rfl, trivial⟩ trivial, resA1 (v := .c (.bool allowed_4)) rfl rfl, rfl⟩
set_option maxRecDepth 100000 in
set_option maxHeartbeats 8000000 in
theorem chargenetlaw39_AccessAllowed_ok (F : Nat) (a0_x : SCase) (a1_q : SAsk) (r : Bool) (h : chargenetlaw39_AccessAllowed F a0_x a1_q = some r) :
    SFun Try.prog 4 [] [.a [.vec a0_x.Roles.length 4 (gL cSRole dSRole a0_x.Roles), .vec a0_x.Grants.length 4 (gL cSGrant dSGrant a0_x.Grants)], .a [.str a1_q.User, .int .i64 a1_q.Action, .str a1_q.Object, .int .i64 a1_q.Now]] (fun x _ => x = .c (.bool r)) := by
  refine SFun.of (n := 39) Try.func4 rfl rfl rfl ?_
  unfold chargenetlaw39_AccessAllowed at h
  show SCode _ _ _ ⟨[(0, .a [.vec a0_x.Roles.length 4 (gL cSRole dSRole a0_x.Roles), .vec a0_x.Grants.length 4 (gL cSGrant dSGrant a0_x.Grants)]), (1, .a [.str a1_q.User, .int .i64 a1_q.Action, .str a1_q.Object, .int .i64 a1_q.Now])], []⟩ _
  refine SCode.seq ?_
  refine SCode.region (show SOps _ _ _ [0, 1, 2] _ _ from ?_)
  refine SOps.e rfl (.plain rfl) (e_box rfl rfl rfl rfl rfl rfl) ?_
  refine SOps.e rfl (.plain rfl) (e_box rfl rfl rfl rfl rfl rfl) ?_
  refine SOps.q rfl (.plain rfl) rfl (q_assign rfl rfl) ?_
  refine SOps.sub (st' := ⟨[(2, .c (.ptr 0 0)), (3, .c (.ptr 1 0))], [.box [.vec a0_x.Roles.length 4 (gL cSRole dSRole a0_x.Roles), .vec a0_x.Grants.length 4 (gL cSGrant dSGrant a0_x.Grants)], .box [.str a1_q.User, .int .i64 a1_q.Action, .str a1_q.Object, .int .i64 a1_q.Now]]⟩) (sub_gen [0, 1] rfl rfl ⟨zc rfl rfl, zc rfl rfl, trivial⟩ ⟨⟨_, rfl, ⟨ii rfl rfl, ii rfl rfl, trivial⟩⟩, ⟨_, rfl, ⟨ii rfl rfl, ii rfl rfl, ii rfl rfl, ii rfl rfl, trivial⟩⟩, trivial⟩) ?_
  refine SOps.nil ?_
  refine SCode.seq ?_
  refine SCode.seq ?_
  obtain ⟨c_1, g2, h⟩ := bind_out h
  try dsimp only at h
  refine SCode.region (show SOps _ _ _ [0, 1, 2] _ _ from ?_)
  refine SOps.q rfl (.plain rfl) rfl (q_load_ptr_all rfl rfl rfl rfl rfl ty25) ?_
  refine SOps.q rfl (.plain rfl) rfl (q_call (chargenetlaw39_small_ok F a0_x c_1 g2) [] rfl fn10 ⟨⟨rfl, rfl⟩, trivial⟩ (.inl rfl)) ?_
  refine SOps.q rfl (.plain rfl) rfl (q_not rfl rfl) ?_
  refine SOps.sub (st' := ⟨[(2, .c (.ptr 0 0)), (3, .c (.ptr 1 0)), (7, .c (.bool ((!c_1))))], [.box [.vec a0_x.Roles.length 4 (gL cSRole dSRole a0_x.Roles), .vec a0_x.Grants.length 4 (gL cSGrant dSGrant a0_x.Grants)], .box [.str a1_q.User, .int .i64 a1_q.Action, .str a1_q.Object, .int .i64 a1_q.Now]]⟩) (sub_gen [0, 1] rfl rfl ⟨zc rfl rfl, zc rfl rfl, zc rfl rfl, trivial⟩ ⟨⟨_, rfl, ⟨ii rfl rfl, ii rfl rfl, trivial⟩⟩, ⟨_, rfl, ⟨ii rfl rfl, ii rfl rfl, ii rfl rfl, ii rfl rfl, trivial⟩⟩, trivial⟩) ?_
  refine SOps.nil ?_
  rcases cond_out h with ⟨g3, h⟩ | ⟨g3, h⟩
  · refine SCode.cond_t rfl g3 ?_
    refine SCode.seq ?_
    obtain ⟨c_4, g5, h⟩ := bind_out h
    try dsimp only at h
    refine SCode.region (show SOps _ _ _ [0, 1] _ _ from ?_)
    refine SOps.q rfl (.plain rfl) rfl (q_call (chargenetlaw39_exampleHolds_ok F  c_4 g5) [] rfl fn11 trivial (.inl rfl)) ?_
    refine SOps.q rfl (.plain rfl) rfl (q_assign rfl rfl) ?_
    refine SOps.sub (st' := ⟨[(4, .c (.bool c_4))], []⟩) (sub_gen [] rfl rfl ⟨zc rfl rfl, trivial⟩ trivial) ?_
    refine SOps.nil ?_
    refine SCode.ret ?_
    obtain rfl := Option.some.inj h
    exact ⟨⟨[(4, .c (.bool c_4))], []⟩, _, sub_gen [] rfl rfl ⟨zc rfl rfl, trivial⟩ trivial, resA1 (v := .c (.bool c_4)) rfl rfl, rfl⟩
  refine SCode.cond_f rfl g3 ?_
  refine SCode.skip ?_
  refine SCode.seq ?_
  obtain ⟨c_6, g7, h⟩ := bind_out h
  try dsimp only at h
  obtain ⟨c_8, g9, h⟩ := bind_out h
  try dsimp only at h
  rcases cond_out h with ⟨g10, h⟩ | ⟨g10, h⟩
  · obtain ⟨c_11, g12, h⟩ := bind_out h
    try dsimp only at h
    refine SCode.draw (s' := [(4, .c (.bool c_11)), (38, .c (.bool c_11)), (37, .c (.bool c_11)), (36, .c (.bool ((c_6 == c_8)))), (35, .c (.bool ((c_6 == c_8)))), (34, .c (.bool c_8)), (33, .c (.int .i64 a1_q.Now)), (32, .c (.ptr 1 3)), (31, .c (.str a1_q.Object)), (30, .c (.ptr 1 2)), (29, .c (.int .i64 a1_q.Action)), (28, .c (.ptr 1 1)), (27, .c (.str a1_q.User)), (26, .c (.ptr 1 0)), (25, .c (.vec a0_x.Grants.length 4 (gL cSGrant dSGrant a0_x.Grants))), (24, .c (.ptr 0 1)), (23, .c (.vec a0_x.Roles.length 4 (gL cSRole dSRole a0_x.Roles))), (22, .c (.ptr 0 0)), (21, .c (.bool c_6)), (20, .c (.int .i64 a1_q.Now)), (19, .c (.ptr 1 3)), (18, .c (.str a1_q.Object)), (17, .c (.ptr 1 2)), (16, .c (.int .i64 a1_q.Action)), (15, .c (.ptr 1 1)), (14, .c (.str a1_q.User)), (13, .c (.ptr 1 0)), (12, .c (.vec a0_x.Grants.length 4 (gL cSGrant dSGrant a0_x.Grants))), (11, .c (.ptr 0 1)), (10, .c (.vec a0_x.Roles.length 4 (gL cSRole dSRole a0_x.Roles))), (9, .c (.ptr 0 0)), (2, .c (.ptr 0 0)), (3, .c (.ptr 1 0)), (7, .c (.bool ((!c_1))))]) mixed [[], [0], [], [2], [], [4], [], [6], [], [8], [], [10], [0, 1, 2, 3, 4, 5, 6, 7, 8, 9, 10, 11], [], [13], [], [15], [], [17], [], [19], [], [21], [], [23], [0, 1, 2, 3, 4, 5, 6, 7, 8, 9, 10, 11, 12, 13, 14, 15, 16, 17, 18, 19, 20, 21, 22, 23, 24], [0, 1, 2, 3, 4, 5, 6, 7, 8, 9, 10, 11, 12, 13, 14, 15, 16, 17, 18, 19, 20, 21, 22, 23, 24, 25], [0, 1, 2, 3, 4, 5, 6, 7, 8, 9, 10, 11, 12, 13, 14, 15, 16, 17, 18, 19, 20, 21, 22, 23, 24, 25, 26], [0, 1, 2, 3, 4, 5, 6, 7, 8, 9, 10, 11, 12, 13, 14, 15, 16, 17, 18, 19, 20, 21, 22, 23, 24, 25, 26, 27], [0, 1, 2, 3, 4, 5, 6, 7, 8, 9, 10, 11, 12, 13, 14, 15, 16, 17, 18, 19, 20, 21, 22, 23, 24, 25, 26, 27, 28], [0, 1, 2, 3, 4, 5, 6, 7, 8, 9, 10, 11, 12, 13, 14, 15, 16, 17, 18, 19, 20, 21, 22, 23, 24, 25, 26, 27, 28, 29]] 31 0 rfl rfl ?_ ?_
    · refine QChain.run rfl (.plain rfl) rfl (q_field_ptr rfl rfl fd25_0) ?_
      refine QChain.run rfl (.plain rfl) rfl (q_load_ptr rfl rfl rfl rfl ty22) ?_
      refine QChain.run rfl (.plain rfl) rfl (q_field_ptr rfl rfl fd25_1) ?_
      refine QChain.run rfl (.plain rfl) rfl (q_load_ptr rfl rfl rfl rfl ty23) ?_
      refine QChain.run rfl (.plain rfl) rfl (q_field_ptr rfl rfl fd31_0) ?_
      refine QChain.run rfl (.plain rfl) rfl (q_load_ptr rfl rfl rfl rfl ty9) ?_
      refine QChain.run rfl (.plain rfl) rfl (q_field_ptr rfl rfl fd31_1) ?_
      refine QChain.run rfl (.plain rfl) rfl (q_load_ptr rfl rfl rfl rfl ty3) ?_
      refine QChain.run rfl (.plain rfl) rfl (q_field_ptr rfl rfl fd31_2) ?_
      refine QChain.run rfl (.plain rfl) rfl (q_load_ptr rfl rfl rfl rfl ty9) ?_
      refine QChain.run rfl (.plain rfl) rfl (q_field_ptr rfl rfl fd31_3) ?_
      refine QChain.run rfl (.plain rfl) rfl (q_load_ptr rfl rfl rfl rfl ty3) ?_
      refine QChain.run rfl (.plain rfl) rfl (q_call (access_Allowed_ok F a0_x.Roles a0_x.Grants a1_q.User a1_q.Action a1_q.Object a1_q.Now c_6 g7) [] rfl fn14 ⟨⟨_, rfl, .inl ⟨rfl, rfl⟩⟩, ⟨_, rfl, .inl ⟨rfl, rfl⟩⟩, ⟨_, rfl, .inl ⟨rfl, rfl⟩⟩, ⟨_, rfl, .inl ⟨rfl, rfl⟩⟩, ⟨_, rfl, .inl ⟨rfl, rfl⟩⟩, ⟨_, rfl, .inl ⟨rfl, rfl⟩⟩, trivial⟩ (.inl rfl)) ?_
      refine QChain.run rfl (.plain rfl) rfl (q_field_ptr rfl rfl fd25_0) ?_
      refine QChain.run rfl (.plain rfl) rfl (q_load_ptr rfl rfl rfl rfl ty22) ?_
      refine QChain.run rfl (.plain rfl) rfl (q_field_ptr rfl rfl fd25_1) ?_
      refine QChain.run rfl (.plain rfl) rfl (q_load_ptr rfl rfl rfl rfl ty23) ?_
      refine QChain.run rfl (.plain rfl) rfl (q_field_ptr rfl rfl fd31_0) ?_
      refine QChain.run rfl (.plain rfl) rfl (q_load_ptr rfl rfl rfl rfl ty9) ?_
      refine QChain.run rfl (.plain rfl) rfl (q_field_ptr rfl rfl fd31_1) ?_
      refine QChain.run rfl (.plain rfl) rfl (q_load_ptr rfl rfl rfl rfl ty3) ?_
      refine QChain.run rfl (.plain rfl) rfl (q_field_ptr rfl rfl fd31_2) ?_
      refine QChain.run rfl (.plain rfl) rfl (q_load_ptr rfl rfl rfl rfl ty9) ?_
      refine QChain.run rfl (.plain rfl) rfl (q_field_ptr rfl rfl fd31_3) ?_
      refine QChain.run rfl (.plain rfl) rfl (q_load_ptr rfl rfl rfl rfl ty3) ?_
      refine QChain.run rfl (.plain rfl) rfl (q_call (chargenetref39_Allowed_ok F a0_x.Roles a0_x.Grants a1_q.User a1_q.Action a1_q.Object a1_q.Now c_8 g9) [] rfl fn15 ⟨⟨_, rfl, .inl ⟨rfl, rfl⟩⟩, ⟨_, rfl, .inl ⟨rfl, rfl⟩⟩, ⟨_, rfl, .inl ⟨rfl, rfl⟩⟩, ⟨_, rfl, .inl ⟨rfl, rfl⟩⟩, ⟨_, rfl, .inl ⟨rfl, rfl⟩⟩, ⟨_, rfl, .inl ⟨rfl, rfl⟩⟩, trivial⟩ (.inl rfl)) ?_
      refine QChain.run rfl (.plain rfl) rfl (q_eqlB rfl rfl rfl un4) ?_
      refine QChain.run rfl (.plain rfl) rfl (q_move rfl rfl) ?_
      refine QChain.run rfl (.guard 27 36 true rfl rfl (gT g10)) rfl (q_call (chargenetlaw39_exampleHolds_ok F  c_11 g12) [] rfl fn11 trivial (.inl rfl)) ?_
      refine QChain.run rfl (.plain rfl) rfl (q_pick_t rfl rfl g10 rfl) ?_
      refine QChain.run rfl (.plain rfl) rfl (q_assign rfl rfl) ?_
      exact QChain.nil _ _
    refine (show SOps _ _ _ [] _ _ from ?_)
    refine SOps.sub (st' := ⟨[(4, .c (.bool c_11))], []⟩) (sub_gen [] rfl rfl ⟨zc rfl rfl, trivial⟩ trivial) ?_
    refine SOps.nil ?_
    refine SCode.ret ?_
    obtain rfl := Option.some.inj h
    exact ⟨⟨[(4, .c (.bool c_11))], []⟩, _, sub_gen [] rfl rfl ⟨zc rfl rfl, trivial⟩ trivial, resA1 (v := .c (.bool c_11)) rfl rfl, rfl⟩
  refine SCode.draw (s' := [(4, .c (.bool false)), (38, .c (.bool false)), (37, .c (.raw (.tuple #[]))), (36, .c (.bool ((c_6 == c_8)))), (35, .c (.bool ((c_6 == c_8)))), (34, .c (.bool c_8)), (33, .c (.int .i64 a1_q.Now)), (32, .c (.ptr 1 3)), (31, .c (.str a1_q.Object)), (30, .c (.ptr 1 2)), (29, .c (.int .i64 a1_q.Action)), (28, .c (.ptr 1 1)), (27, .c (.str a1_q.User)), (26, .c (.ptr 1 0)), (25, .c (.vec a0_x.Grants.length 4 (gL cSGrant dSGrant a0_x.Grants))), (24, .c (.ptr 0 1)), (23, .c (.vec a0_x.Roles.length 4 (gL cSRole dSRole a0_x.Roles))), (22, .c (.ptr 0 0)), (21, .c (.bool c_6)), (20, .c (.int .i64 a1_q.Now)), (19, .c (.ptr 1 3)), (18, .c (.str a1_q.Object)), (17, .c (.ptr 1 2)), (16, .c (.int .i64 a1_q.Action)), (15, .c (.ptr 1 1)), (14, .c (.str a1_q.User)), (13, .c (.ptr 1 0)), (12, .c (.vec a0_x.Grants.length 4 (gL cSGrant dSGrant a0_x.Grants))), (11, .c (.ptr 0 1)), (10, .c (.vec a0_x.Roles.length 4 (gL cSRole dSRole a0_x.Roles))), (9, .c (.ptr 0 0)), (2, .c (.ptr 0 0)), (3, .c (.ptr 1 0)), (7, .c (.bool ((!c_1))))]) mixed [[], [0], [], [2], [], [4], [], [6], [], [8], [], [10], [0, 1, 2, 3, 4, 5, 6, 7, 8, 9, 10, 11], [], [13], [], [15], [], [17], [], [19], [], [21], [], [23], [0, 1, 2, 3, 4, 5, 6, 7, 8, 9, 10, 11, 12, 13, 14, 15, 16, 17, 18, 19, 20, 21, 22, 23, 24], [0, 1, 2, 3, 4, 5, 6, 7, 8, 9, 10, 11, 12, 13, 14, 15, 16, 17, 18, 19, 20, 21, 22, 23, 24, 25], [0, 1, 2, 3, 4, 5, 6, 7, 8, 9, 10, 11, 12, 13, 14, 15, 16, 17, 18, 19, 20, 21, 22, 23, 24, 25, 26], [0, 1, 2, 3, 4, 5, 6, 7, 8, 9, 10, 11, 12, 13, 14, 15, 16, 17, 18, 19, 20, 21, 22, 23, 24, 25, 26, 27], [0, 1, 2, 3, 4, 5, 6, 7, 8, 9, 10, 11, 12, 13, 14, 15, 16, 17, 18, 19, 20, 21, 22, 23, 24, 25, 26, 27, 28], [0, 1, 2, 3, 4, 5, 6, 7, 8, 9, 10, 11, 12, 13, 14, 15, 16, 17, 18, 19, 20, 21, 22, 23, 24, 25, 26, 27, 28, 29]] 31 0 rfl rfl ?_ ?_
  · refine QChain.run rfl (.plain rfl) rfl (q_field_ptr rfl rfl fd25_0) ?_
    refine QChain.run rfl (.plain rfl) rfl (q_load_ptr rfl rfl rfl rfl ty22) ?_
    refine QChain.run rfl (.plain rfl) rfl (q_field_ptr rfl rfl fd25_1) ?_
    refine QChain.run rfl (.plain rfl) rfl (q_load_ptr rfl rfl rfl rfl ty23) ?_
    refine QChain.run rfl (.plain rfl) rfl (q_field_ptr rfl rfl fd31_0) ?_
    refine QChain.run rfl (.plain rfl) rfl (q_load_ptr rfl rfl rfl rfl ty9) ?_
    refine QChain.run rfl (.plain rfl) rfl (q_field_ptr rfl rfl fd31_1) ?_
    refine QChain.run rfl (.plain rfl) rfl (q_load_ptr rfl rfl rfl rfl ty3) ?_
    refine QChain.run rfl (.plain rfl) rfl (q_field_ptr rfl rfl fd31_2) ?_
    refine QChain.run rfl (.plain rfl) rfl (q_load_ptr rfl rfl rfl rfl ty9) ?_
    refine QChain.run rfl (.plain rfl) rfl (q_field_ptr rfl rfl fd31_3) ?_
    refine QChain.run rfl (.plain rfl) rfl (q_load_ptr rfl rfl rfl rfl ty3) ?_
    refine QChain.run rfl (.plain rfl) rfl (q_call (access_Allowed_ok F a0_x.Roles a0_x.Grants a1_q.User a1_q.Action a1_q.Object a1_q.Now c_6 g7) [] rfl fn14 ⟨⟨_, rfl, .inl ⟨rfl, rfl⟩⟩, ⟨_, rfl, .inl ⟨rfl, rfl⟩⟩, ⟨_, rfl, .inl ⟨rfl, rfl⟩⟩, ⟨_, rfl, .inl ⟨rfl, rfl⟩⟩, ⟨_, rfl, .inl ⟨rfl, rfl⟩⟩, ⟨_, rfl, .inl ⟨rfl, rfl⟩⟩, trivial⟩ (.inl rfl)) ?_
    refine QChain.run rfl (.plain rfl) rfl (q_field_ptr rfl rfl fd25_0) ?_
    refine QChain.run rfl (.plain rfl) rfl (q_load_ptr rfl rfl rfl rfl ty22) ?_
    refine QChain.run rfl (.plain rfl) rfl (q_field_ptr rfl rfl fd25_1) ?_
    refine QChain.run rfl (.plain rfl) rfl (q_load_ptr rfl rfl rfl rfl ty23) ?_
    refine QChain.run rfl (.plain rfl) rfl (q_field_ptr rfl rfl fd31_0) ?_
    refine QChain.run rfl (.plain rfl) rfl (q_load_ptr rfl rfl rfl rfl ty9) ?_
    refine QChain.run rfl (.plain rfl) rfl (q_field_ptr rfl rfl fd31_1) ?_
    refine QChain.run rfl (.plain rfl) rfl (q_load_ptr rfl rfl rfl rfl ty3) ?_
    refine QChain.run rfl (.plain rfl) rfl (q_field_ptr rfl rfl fd31_2) ?_
    refine QChain.run rfl (.plain rfl) rfl (q_load_ptr rfl rfl rfl rfl ty9) ?_
    refine QChain.run rfl (.plain rfl) rfl (q_field_ptr rfl rfl fd31_3) ?_
    refine QChain.run rfl (.plain rfl) rfl (q_load_ptr rfl rfl rfl rfl ty3) ?_
    refine QChain.run rfl (.plain rfl) rfl (q_call (chargenetref39_Allowed_ok F a0_x.Roles a0_x.Grants a1_q.User a1_q.Action a1_q.Object a1_q.Now c_8 g9) [] rfl fn15 ⟨⟨_, rfl, .inl ⟨rfl, rfl⟩⟩, ⟨_, rfl, .inl ⟨rfl, rfl⟩⟩, ⟨_, rfl, .inl ⟨rfl, rfl⟩⟩, ⟨_, rfl, .inl ⟨rfl, rfl⟩⟩, ⟨_, rfl, .inl ⟨rfl, rfl⟩⟩, ⟨_, rfl, .inl ⟨rfl, rfl⟩⟩, trivial⟩ (.inl rfl)) ?_
    refine QChain.run rfl (.plain rfl) rfl (q_eqlB rfl rfl rfl un4) ?_
    refine QChain.run rfl (.plain rfl) rfl (q_move rfl rfl) ?_
    refine QChain.skip rfl ⟨27, 36, true, rfl, rfl, (.inl (gF g10))⟩ rfl ?_
    refine QChain.run rfl (.plain rfl) rfl (q_pick_f rfl rfl g10 rfl) ?_
    refine QChain.run rfl (.plain rfl) rfl (q_assign rfl rfl) ?_
    exact QChain.nil _ _
  refine (show SOps _ _ _ [] _ _ from ?_)
  refine SOps.sub (st' := ⟨[(4, .c (.bool false))], []⟩) (sub_gen [] rfl rfl ⟨zc rfl rfl, trivial⟩ trivial) ?_
  refine SOps.nil ?_
  refine SCode.ret ?_
  obtain rfl := Option.some.inj h
  exact ⟨⟨[(4, .c (.bool false))], []⟩, _, sub_gen [] rfl rfl ⟨zc rfl rfl, trivial⟩ trivial, resA1 (v := .c (.bool false)) rfl rfl, rfl⟩
end Go.Proofs.Ytggfgdohbeoabaa.W
