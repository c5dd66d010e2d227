/- Written by a program of ours (wip/eng/gen.py): the functions compute their models. -/
import Derived.Test.YtggfgdohbeoabaaFacts
import Derived.Test.YtggfgdohbeoabaaV7x5
namespace Go.Proofs.Ytggfgdohbeoabaa.W
open Go Go.Proofs Go.Proofs.Ytggfgdohbeoabaa.E Go.Proofs.Ytggfgdohbeoabaa.M
set_option linter.unusedVariables false
set_option maxRecDepth 100000 in
set_option maxHeartbeats 8000000 in
theorem chargenetref39_holds_ok (F : Nat) (a0_g : SGrant) (a1_now : Int) (r : Bool) (h : chargenetref39_holds F a0_g a1_now = some r) :
    SFun Try.prog 31 [] [.a [.str a0_g.User, .str a0_g.Role, .int .i64 a0_g.Span_From, .int .i64 a0_g.Span_To], .c (.int .i64 a1_now)] (fun x _ => x = .c (.bool r)) := by
  refine SFun.of (n := 23) Try.func31 rfl rfl rfl ?_
  unfold chargenetref39_holds at h
  show SCode _ _ _ ⟨[(0, .a [.str a0_g.User, .str a0_g.Role, .int .i64 a0_g.Span_From, .int .i64 a0_g.Span_To]), (1, .c (.int .i64 a1_now))], []⟩ _
  refine SCode.seq ?_
  refine SCode.region (show SOps _ _ _ [0, 1] _ _ from ?_)
  refine SOps.e rfl (.plain rfl) (e_box rfl rfl rfl rfl rfl rfl) ?_
  refine SOps.q rfl (.plain rfl) rfl (q_assign rfl rfl) ?_
  refine SOps.sub (st' := ⟨[(1, .c (.int .i64 a1_now)), (2, .c (.ptr 0 0))], [.box [.str a0_g.User, .str a0_g.Role, .int .i64 a0_g.Span_From, .int .i64 a0_g.Span_To]]⟩) (sub_gen [0] rfl rfl ⟨zc rfl rfl, zc rfl rfl, trivial⟩ ⟨⟨_, rfl, ⟨ii rfl rfl, ii rfl rfl, ii rfl rfl, ii rfl rfl, trivial⟩⟩, trivial⟩) ?_
  refine SOps.nil ?_
  refine SCode.seq ?_
  rcases cond_out h with ⟨g1, h⟩ | ⟨g1, h⟩
  · rcases cond_out h with ⟨g2, h⟩ | ⟨g2, h⟩
    · refine SCode.region (show SOps _ _ _ [0, 1, 2, 3, 4, 5, 6, 7, 8, 9, 10, 11, 12, 13, 14, 15, 16, 17, 18] _ _ from ?_)
      refine SOps.q rfl (.plain rfl) rfl (q_field_ptr rfl rfl fd37_2) ?_
      refine SOps.q rfl (.plain rfl) rfl (q_field_ptr rfl rfl fd35_0) ?_
      refine SOps.q rfl (.plain rfl) rfl (q_load_ptr rfl rfl rfl rfl ty3) ?_
      refine SOps.q rfl (.plain rfl) rfl (q_move rfl rfl) ?_
      refine SOps.q rfl (.plain rfl) rfl (q_leq rfl rfl rfl) ?_
      refine SOps.q rfl (.plain rfl) rfl (q_move rfl rfl) ?_
      refine SOps.q rfl (.guard 5 10 true rfl rfl (gT g1)) rfl (q_field_ptr rfl rfl fd37_2) ?_
      refine SOps.q rfl (.guard 5 10 true rfl rfl (gT g1)) rfl (q_field_ptr rfl rfl fd35_1) ?_
      refine SOps.q rfl (.guard 5 10 true rfl rfl (gT g1)) rfl (q_load_ptr rfl rfl rfl rfl ty3) ?_
      refine SOps.q rfl (.guard 5 10 true rfl rfl (gT g1)) rfl (q_eql rfl rfl rfl) ?_
      refine SOps.q rfl (.guard 5 10 true rfl rfl (gT g1)) rfl (q_move rfl rfl) ?_
      refine SOps.skip rfl 10 15 false rfl rfl (.inl (gT g2)) rfl ?_
      refine SOps.skip rfl 10 15 false rfl rfl (.inl (gT g2)) rfl ?_
      refine SOps.skip rfl 10 15 false rfl rfl (.inl (gT g2)) rfl ?_
      refine SOps.skip rfl 10 15 false rfl rfl (.inl (gT g2)) rfl ?_
      refine SOps.skip rfl 10 15 false rfl rfl (.inl (gT g2)) rfl ?_
      refine SOps.q rfl (.guard 5 10 true rfl rfl (gT g1)) rfl (q_pick_t rfl rfl g2 rfl) ?_
      refine SOps.q rfl (.plain rfl) rfl (q_pick_t rfl rfl g1 rfl) ?_
      refine SOps.q rfl (.plain rfl) rfl (q_assign rfl rfl) ?_
      refine SOps.sub (st' := ⟨[(4, .c (.bool true))], []⟩) (sub_gen [] rfl rfl ⟨zc rfl rfl, trivial⟩ trivial) ?_
      refine SOps.nil ?_
      refine SCode.ret ?_
      obtain rfl := Option.some.inj h
      exact ⟨⟨[(4, .c (.bool true))], []⟩, _, sub_gen [] rfl rfl ⟨zc rfl rfl, trivial⟩ trivial, resA1 (v := .c (.bool true)) rfl rfl, rfl⟩
    refine SCode.region (show SOps _ _ _ [0, 1, 2, 3, 4, 5, 6, 7, 8, 9, 10, 11, 12, 13, 14, 15, 16, 17, 18] _ _ from ?_)
    refine SOps.q rfl (.plain rfl) rfl (q_field_ptr rfl rfl fd37_2) ?_
    refine SOps.q rfl (.plain rfl) rfl (q_field_ptr rfl rfl fd35_0) ?_
    refine SOps.q rfl (.plain rfl) rfl (q_load_ptr rfl rfl rfl rfl ty3) ?_
    refine SOps.q rfl (.plain rfl) rfl (q_move rfl rfl) ?_
    refine SOps.q rfl (.plain rfl) rfl (q_leq rfl rfl rfl) ?_
    refine SOps.q rfl (.plain rfl) rfl (q_move rfl rfl) ?_
    refine SOps.q rfl (.guard 5 10 true rfl rfl (gT g1)) rfl (q_field_ptr rfl rfl fd37_2) ?_
    refine SOps.q rfl (.guard 5 10 true rfl rfl (gT g1)) rfl (q_field_ptr rfl rfl fd35_1) ?_
    refine SOps.q rfl (.guard 5 10 true rfl rfl (gT g1)) rfl (q_load_ptr rfl rfl rfl rfl ty3) ?_
    refine SOps.q rfl (.guard 5 10 true rfl rfl (gT g1)) rfl (q_eql rfl rfl rfl) ?_
    refine SOps.q rfl (.guard 5 10 true rfl rfl (gT g1)) rfl (q_move rfl rfl) ?_
    refine SOps.q rfl (.guard 10 15 false rfl rfl (gF g2)) rfl (q_move rfl rfl) ?_
    refine SOps.q rfl (.guard 10 15 false rfl rfl (gF g2)) rfl (q_field_ptr rfl rfl fd37_2) ?_
    refine SOps.q rfl (.guard 10 15 false rfl rfl (gF g2)) rfl (q_field_ptr rfl rfl fd35_1) ?_
    refine SOps.q rfl (.guard 10 15 false rfl rfl (gF g2)) rfl (q_load_ptr rfl rfl rfl rfl ty3) ?_
    refine SOps.q rfl (.guard 10 15 false rfl rfl (gF g2)) rfl (q_lss rfl rfl rfl) ?_
    refine SOps.q rfl (.guard 5 10 true rfl rfl (gT g1)) rfl (q_pick_f rfl rfl g2 rfl) ?_
    refine SOps.q rfl (.plain rfl) rfl (q_pick_t rfl rfl g1 rfl) ?_
    refine SOps.q rfl (.plain rfl) rfl (q_assign rfl rfl) ?_
    refine SOps.sub (st' := ⟨[(4, .c (.bool (decide (a1_now < a0_g.Span_To))))], []⟩) (sub_gen [] rfl rfl ⟨zc rfl rfl, trivial⟩ trivial) ?_
    refine SOps.nil ?_
    refine SCode.ret ?_
    obtain rfl := Option.some.inj h
    exact ⟨⟨[(4, .c (.bool (decide (a1_now < a0_g.Span_To))))], []⟩, _, sub_gen [] rfl rfl ⟨zc rfl rfl, trivial⟩ trivial, resA1 (v := .c (.bool (decide (a1_now < a0_g.Span_To)))) rfl rfl, rfl⟩
  refine SCode.region (show SOps _ _ _ [0, 1, 2, 3, 4, 5, 6, 7, 8, 9, 10, 11, 12, 13, 14, 15, 16, 17, 18] _ _ from ?_)
  refine SOps.q rfl (.plain rfl) rfl (q_field_ptr rfl rfl fd37_2) ?_
  refine SOps.q rfl (.plain rfl) rfl (q_field_ptr rfl rfl fd35_0) ?_
  refine SOps.q rfl (.plain rfl) rfl (q_load_ptr rfl rfl rfl rfl ty3) ?_
  refine SOps.q rfl (.plain rfl) rfl (q_move rfl rfl) ?_
  refine SOps.q rfl (.plain rfl) rfl (q_leq rfl rfl rfl) ?_
  refine SOps.q rfl (.plain rfl) rfl (q_move rfl rfl) ?_
  refine SOps.skip rfl 5 10 true rfl rfl (.inl (gF g1)) rfl ?_
  refine SOps.skip rfl 5 10 true rfl rfl (.inl (gF g1)) rfl ?_
  refine SOps.skip rfl 5 10 true rfl rfl (.inl (gF g1)) rfl ?_
  refine SOps.skip rfl 5 10 true rfl rfl (.inl (gF g1)) rfl ?_
  refine SOps.skip rfl 5 10 true rfl rfl (.inl (gF g1)) rfl ?_
  refine SOps.skip rfl 10 15 false rfl rfl (.inr rfl) rfl ?_
  refine SOps.skip rfl 10 15 false rfl rfl (.inr rfl) rfl ?_
  refine SOps.skip rfl 10 15 false rfl rfl (.inr rfl) rfl ?_
  refine SOps.skip rfl 10 15 false rfl rfl (.inr rfl) rfl ?_
  refine SOps.skip rfl 10 15 false rfl rfl (.inr rfl) rfl ?_
  refine SOps.skip rfl 5 10 true rfl rfl (.inl (gF g1)) rfl ?_
  refine SOps.q rfl (.plain rfl) rfl (q_pick_f rfl rfl g1 rfl) ?_
  refine SOps.q rfl (.plain rfl) rfl (q_assign rfl rfl) ?_
  refine SOps.sub (st' := ⟨[(4, .c (.bool false))], []⟩) (sub_gen [] rfl rfl ⟨zc rfl rfl, trivial⟩ trivial) ?_
  refine SOps.nil ?_
  refine SCode.ret ?_
  obtain rfl := Option.some.inj h
  exact ⟨⟨[(4, .c (.bool false))], []⟩, _, sub_gen [] rfl rfl ⟨zc rfl rfl, trivial⟩ trivial, resA1 (v := .c (.bool false)) rfl rfl, rfl⟩
set_option maxRecDepth 100000 in
set_option maxHeartbeats 8000000 in
theorem chargenetref39_covers_ok (F : Nat) (a0_r : SRole) (a1_action : Int) (a2_object : ByteArray) (r : Bool) (h : chargenetref39_covers F a0_r a1_action a2_object = some r) :
    SFun Try.prog 33 [] [.a [.str a0_r.Name, .vec a0_r.Actions.length 1 (gL (cInt .i64) 0 a0_r.Actions), .str a0_r.Prefix, .bool a0_r.Deny], .c (.int .i64 a1_action), .c (.str a2_object)] (fun x _ => x = .c (.bool r)) := by
  refine SFun.of (n := 38) Try.func33 rfl rfl rfl ?_
  unfold chargenetref39_covers at h
  show SCode _ _ _ ⟨[(0, .a [.str a0_r.Name, .vec a0_r.Actions.length 1 (gL (cInt .i64) 0 a0_r.Actions), .str a0_r.Prefix, .bool a0_r.Deny]), (1, .c (.int .i64 a1_action)), (2, .c (.str a2_object))], []⟩ _
  refine SCode.seq ?_
  refine SCode.region (show SOps _ _ _ [0, 1] _ _ from ?_)
  refine SOps.e rfl (.plain rfl) (e_box rfl rfl rfl rfl rfl rfl) ?_
  refine SOps.q rfl (.plain rfl) rfl (q_assign rfl rfl) ?_
  refine SOps.sub (st' := ⟨[(1, .c (.int .i64 a1_action)), (2, .c (.str a2_object)), (3, .c (.ptr 0 0))], [.box [.str a0_r.Name, .vec a0_r.Actions.length 1 (gL (cInt .i64) 0 a0_r.Actions), .str a0_r.Prefix, .bool a0_r.Deny]]⟩) (sub_gen [0] rfl rfl ⟨zc rfl rfl, zc rfl rfl, zc rfl rfl, trivial⟩ ⟨⟨_, rfl, ⟨ii rfl rfl, ii rfl rfl, ii rfl rfl, ii rfl rfl, trivial⟩⟩, trivial⟩) ?_
  refine SOps.nil ?_
  refine SCode.seq ?_
  refine SCode.seq ?_
  rcases cond_out h with ⟨g1, h⟩ | ⟨g1, h⟩
  · refine SCode.draw (s' := [(23, .c (.bool true)), (22, .c (.raw (.tuple #[]))), (21, .c (.raw (.tuple #[]))), (20, .c (.raw (.tuple #[]))), (19, .c (.raw (.tuple #[]))), (18, .c (.raw (.tuple #[]))), (17, .c (.raw (.tuple #[]))), (16, .c (.raw (.tuple #[]))), (15, .c (.raw (.tuple #[]))), (14, .c (.bool (decide ((a2_object.size : Int) < (a0_r.Prefix.size : Int))))), (13, .c (.bool (decide ((a2_object.size : Int) < (a0_r.Prefix.size : Int))))), (12, .c (.int .i64 ((a0_r.Prefix.size : Int)))), (11, .c (.str a0_r.Prefix)), (10, .c (.ptr 0 2)), (9, .c (.int .i64 ((a2_object.size : Int)))), (8, .c (.str a2_object)), (1, .c (.int .i64 a1_action)), (2, .c (.str a2_object)), (3, .c (.ptr 0 0))]) mixed [[], [0], [], [2], [2, 3], [0, 1, 2, 3, 4], [0, 1, 2, 3, 4, 5], [0, 1, 2, 3, 4, 5, 6], [0, 1, 2, 3, 4, 5, 6], [0, 1, 2, 3, 4, 5, 6, 8], [0, 1, 2, 3, 4, 5, 6, 8, 9], [0, 1, 2, 3, 4, 5, 6, 7, 8, 9, 10], [0, 1, 2, 3, 4, 5, 6], [0, 1, 2, 3, 4, 5, 6, 12], [0, 1, 2, 3, 4, 5, 6, 7, 8, 9, 10, 11, 12, 13], [0, 1, 2, 3, 4, 5, 6, 7, 8, 9, 10, 11, 12, 13, 14]] 16 0 rfl rfl ?_ ?_
    · refine QChain.run rfl (.plain rfl) rfl (q_move rfl rfl) ?_
      refine QChain.run rfl (.plain rfl) rfl (q_len_str rfl rfl un9) ?_
      refine QChain.run rfl (.plain rfl) rfl (q_field_ptr rfl rfl fd51_2) ?_
      refine QChain.run rfl (.plain rfl) rfl (q_load_ptr rfl rfl rfl rfl ty9) ?_
      refine QChain.run rfl (.plain rfl) rfl (q_len_str rfl rfl un9) ?_
      refine QChain.run rfl (.plain rfl) rfl (q_lss rfl rfl rfl) ?_
      refine QChain.run rfl (.plain rfl) rfl (q_move rfl rfl) ?_
      refine QChain.skip rfl ⟨6, 14, false, rfl, rfl, (.inl (gT g1))⟩ rfl ?_
      refine QChain.skip rfl ⟨6, 14, false, rfl, rfl, (.inl (gT g1))⟩ rfl ?_
      refine QChain.skip rfl ⟨6, 14, false, rfl, rfl, (.inl (gT g1))⟩ rfl ?_
      refine QChain.skip rfl ⟨6, 14, false, rfl, rfl, (.inl (gT g1))⟩ rfl ?_
      refine QChain.skip rfl ⟨6, 14, false, rfl, rfl, (.inl (gT g1))⟩ rfl ?_
      refine QChain.skip rfl ⟨6, 14, false, rfl, rfl, (.inl (gT g1))⟩ rfl ?_
      refine QChain.skip rfl ⟨6, 14, false, rfl, rfl, (.inl (gT g1))⟩ rfl ?_
      refine QChain.skip rfl ⟨6, 14, false, rfl, rfl, (.inl (gT g1))⟩ rfl ?_
      refine QChain.run rfl (.plain rfl) rfl (q_pick_t rfl rfl g1 rfl) ?_
      exact QChain.nil _ _
    refine (show SOps _ _ _ [] _ _ from ?_)
    refine SOps.sub (st' := ⟨[(1, .c (.int .i64 a1_action)), (3, .c (.ptr 0 0)), (23, .c (.bool true))], [.box [.str a0_r.Name, .vec a0_r.Actions.length 1 (gL (cInt .i64) 0 a0_r.Actions), .str a0_r.Prefix, .bool a0_r.Deny]]⟩) (sub_gen [0] rfl rfl ⟨zc rfl rfl, zc rfl rfl, zc rfl rfl, trivial⟩ ⟨⟨_, rfl, ⟨ii rfl rfl, ii rfl rfl, ii rfl rfl, ii rfl rfl, trivial⟩⟩, trivial⟩) ?_
    refine SOps.nil ?_
    refine SCode.cond_t rfl rfl ?_
    refine SCode.seq ?_
    refine SCode.region (show SOps _ _ _ [0] _ _ from ?_)
    refine SOps.q rfl (.plain rfl) rfl (q_assign rfl rfl) ?_
    refine SOps.sub (st' := ⟨[(6, .c (.bool false))], []⟩) (sub_gen [] rfl rfl ⟨zc rfl rfl, trivial⟩ trivial) ?_
    refine SOps.nil ?_
    refine SCode.ret ?_
    obtain rfl := Option.some.inj h
    exact ⟨⟨[(6, .c (.bool false))], []⟩, _, sub_gen [] rfl rfl ⟨zc rfl rfl, trivial⟩ trivial, resA1 (v := .c (.bool false)) rfl rfl, rfl⟩
  obtain ⟨g2, h⟩ := guard_out h
  refine SCode.draw (s' := [(23, .c (.bool ((!(sEq (sSub a2_object 0 ((a0_r.Prefix.size : Int)).toNat) a0_r.Prefix))))), (22, .c (.bool ((!(sEq (sSub a2_object 0 ((a0_r.Prefix.size : Int)).toNat) a0_r.Prefix))))), (21, .c (.str a0_r.Prefix)), (20, .c (.ptr 0 2)), (19, .c (.str (sSub a2_object 0 ((a0_r.Prefix.size : Int)).toNat))), (18, .c (.int .i64 ((a0_r.Prefix.size : Int)))), (17, .c (.str a0_r.Prefix)), (16, .c (.ptr 0 2)), (15, .c (.str a2_object)), (14, .c (.bool (decide ((a2_object.size : Int) < (a0_r.Prefix.size : Int))))), (13, .c (.bool (decide ((a2_object.size : Int) < (a0_r.Prefix.size : Int))))), (12, .c (.int .i64 ((a0_r.Prefix.size : Int)))), (11, .c (.str a0_r.Prefix)), (10, .c (.ptr 0 2)), (9, .c (.int .i64 ((a2_object.size : Int)))), (8, .c (.str a2_object)), (1, .c (.int .i64 a1_action)), (2, .c (.str a2_object)), (3, .c (.ptr 0 0))]) mixed [[], [0], [], [2], [2, 3], [0, 1, 2, 3, 4], [0, 1, 2, 3, 4, 5], [0, 1, 2, 3, 4, 5, 6], [0, 1, 2, 3, 4, 5, 6], [0, 1, 2, 3, 4, 5, 6, 8], [0, 1, 2, 3, 4, 5, 6, 8, 9], [0, 1, 2, 3, 4, 5, 6, 7, 8, 9, 10], [0, 1, 2, 3, 4, 5, 6], [0, 1, 2, 3, 4, 5, 6, 12], [0, 1, 2, 3, 4, 5, 6, 7, 8, 9, 10, 11, 12, 13], [0, 1, 2, 3, 4, 5, 6, 7, 8, 9, 10, 11, 12, 13, 14]] 16 0 rfl rfl ?_ ?_
  · refine QChain.run rfl (.plain rfl) rfl (q_move rfl rfl) ?_
    refine QChain.run rfl (.plain rfl) rfl (q_len_str rfl rfl un9) ?_
    refine QChain.run rfl (.plain rfl) rfl (q_field_ptr rfl rfl fd51_2) ?_
    refine QChain.run rfl (.plain rfl) rfl (q_load_ptr rfl rfl rfl rfl ty9) ?_
    refine QChain.run rfl (.plain rfl) rfl (q_len_str rfl rfl un9) ?_
    refine QChain.run rfl (.plain rfl) rfl (q_lss rfl rfl rfl) ?_
    refine QChain.run rfl (.plain rfl) rfl (q_move rfl rfl) ?_
    refine QChain.run rfl (.guard 6 14 false rfl rfl (gF g1)) rfl (q_move rfl rfl) ?_
    refine QChain.run rfl (.guard 6 14 false rfl rfl (gF g1)) rfl (q_field_ptr rfl rfl fd51_2) ?_
    refine QChain.run rfl (.guard 6 14 false rfl rfl (gF g1)) rfl (q_load_ptr rfl rfl rfl rfl ty9) ?_
    refine QChain.run rfl (.guard 6 14 false rfl rfl (gF g1)) rfl (q_len_str rfl rfl un9) ?_
    refine QChain.run rfl (.guard 6 14 false rfl rfl (gF g1)) rfl (q_sslice_h rfl rfl rfl un9 g2.1 g2.2) ?_
    refine QChain.run rfl (.guard 6 14 false rfl rfl (gF g1)) rfl (q_field_ptr rfl rfl fd51_2) ?_
    refine QChain.run rfl (.guard 6 14 false rfl rfl (gF g1)) rfl (q_load_ptr rfl rfl rfl rfl ty9) ?_
    refine QChain.run rfl (.guard 6 14 false rfl rfl (gF g1)) rfl (q_neqS rfl rfl rfl) ?_
    refine QChain.run rfl (.plain rfl) rfl (q_pick_f rfl rfl g1 rfl) ?_
    exact QChain.nil _ _
  refine (show SOps _ _ _ [] _ _ from ?_)
  refine SOps.sub (st' := ⟨[(1, .c (.int .i64 a1_action)), (3, .c (.ptr 0 0)), (23, .c (.bool ((!(sEq (sSub a2_object 0 ((a0_r.Prefix.size : Int)).toNat) a0_r.Prefix)))))], [.box [.str a0_r.Name, .vec a0_r.Actions.length 1 (gL (cInt .i64) 0 a0_r.Actions), .str a0_r.Prefix, .bool a0_r.Deny]]⟩) (sub_gen [0] rfl rfl ⟨zc rfl rfl, zc rfl rfl, zc rfl rfl, trivial⟩ ⟨⟨_, rfl, ⟨ii rfl rfl, ii rfl rfl, ii rfl rfl, ii rfl rfl, trivial⟩⟩, trivial⟩) ?_
  refine SOps.nil ?_
  rcases cond_out h with ⟨g3, h⟩ | ⟨g3, h⟩
  · refine SCode.cond_t rfl g3 ?_
    refine SCode.seq ?_
    refine SCode.region (show SOps _ _ _ [0] _ _ from ?_)
    refine SOps.q rfl (.plain rfl) rfl (q_assign rfl rfl) ?_
    refine SOps.sub (st' := ⟨[(6, .c (.bool false))], []⟩) (sub_gen [] rfl rfl ⟨zc rfl rfl, trivial⟩ trivial) ?_
    refine SOps.nil ?_
    refine SCode.ret ?_
    obtain rfl := Option.some.inj h
    exact ⟨⟨[(6, .c (.bool false))], []⟩, _, sub_gen [] rfl rfl ⟨zc rfl rfl, trivial⟩ trivial, resA1 (v := .c (.bool false)) rfl rfl, rfl⟩
  refine SCode.cond_f rfl g3 ?_
  refine SCode.skip ?_
  refine SCode.join (σ := Unit) (S := fun s => ⟨[], []⟩) (g := fun s => chargenetref39_covers_p4 = some r) ?_ ?_
  rotate_left
  · refine SCode.seq ?_
    refine SCode.region (show SOps _ _ _ [0] _ _ from ?_)
    refine SOps.q rfl (.plain rfl) rfl (q_assign rfl rfl) ?_
    refine SOps.sub (st' := ⟨[(1, .c (.int .i64 a1_action)), (3, .c (.ptr 0 0)), (7, .c (.int .i64 0))], [.box [.str a0_r.Name, .vec a0_r.Actions.length 1 (gL (cInt .i64) 0 a0_r.Actions), .str a0_r.Prefix, .bool a0_r.Deny]]⟩) (sub_gen [0] rfl rfl ⟨zc rfl rfl, zc rfl rfl, zc rfl rfl, trivial⟩ ⟨⟨_, rfl, ⟨ii rfl rfl, ii rfl rfl, ii rfl rfl, ii rfl rfl, trivial⟩⟩, trivial⟩) ?_
    refine SOps.nil ?_
    refine SCode.block ?_
    refine SCode.sub (st' := ⟨[(1, .c (.int .i64 a1_action)), (3, .c (.ptr 0 0)), (7, .c (.int .i64 0))], [.box [.str a0_r.Name, .vec a0_r.Actions.length 1 (gL (cInt .i64) 0 a0_r.Actions), .str a0_r.Prefix, .bool a0_r.Deny]]⟩) (sub_gen [0] rfl rfl ⟨zc rfl rfl, zc rfl rfl, zc rfl rfl, trivial⟩ ⟨⟨_, rfl, ⟨ii rfl rfl, ii rfl rfl, ii rfl rfl, ii rfl rfl, trivial⟩⟩, trivial⟩) ?_
    refine (SCode.loop (σ := Nat × Int) (S := fun s => ⟨[(1, .c (.int .i64 a1_action)), (3, .c (.ptr 0 0)), (7, .c (.int .i64 s.2))], [.box [.str a0_r.Name, .vec a0_r.Actions.length 1 (gL (cInt .i64) 0 a0_r.Actions), .str a0_r.Prefix, .bool a0_r.Deny]]⟩) (g := fun s => chargenetref39_covers_l12 a0_r a1_action s.1 s.2 = some r) (μ := fun s => s.1) (F, 0) h ?_)
    rintro ⟨n_12, i_8⟩ h
    replace h : chargenetref39_covers_l12 a0_r a1_action n_12 i_8 = some r := h
    show SCode _ _ _ ⟨[(1, .c (.int .i64 a1_action)), (3, .c (.ptr 0 0)), (7, .c (.int .i64 i_8))], [.box [.str a0_r.Name, .vec a0_r.Actions.length 1 (gL (cInt .i64) 0 a0_r.Actions), .str a0_r.Prefix, .bool a0_r.Deny]]⟩ _
    cases n_12 with
    | zero => cases h
    | succ n_12 =>
      replace h : chargenetref39_covers_b12 a0_r a1_action (fun i_8 => chargenetref39_covers_l12 a0_r a1_action n_12 i_8) i_8 = some r := h
      unfold chargenetref39_covers_b12 at h
      refine SCode.seq ?_
      refine SCode.seq ?_
      refine SCode.region (show SOps _ _ _ [0, 1, 2, 3, 4] _ _ from ?_)
      refine SOps.q rfl (.plain rfl) rfl (q_move rfl rfl) ?_
      refine SOps.q rfl (.plain rfl) rfl (q_field_ptr rfl rfl fd51_1) ?_
      refine SOps.q rfl (.plain rfl) rfl (q_load_ptr rfl rfl rfl rfl ty48) ?_
      refine SOps.q rfl (.plain rfl) rfl (q_len_vec rfl rfl sl48) ?_
      refine SOps.q rfl (.plain rfl) rfl (q_lss rfl rfl rfl) ?_
      refine SOps.sub (st' := ⟨[(1, .c (.int .i64 a1_action)), (3, .c (.ptr 0 0)), (7, .c (.int .i64 i_8)), (28, .c (.bool (decide (i_8 < ((a0_r.Actions).length : Int)))))], [.box [.str a0_r.Name, .vec a0_r.Actions.length 1 (gL (cInt .i64) 0 a0_r.Actions), .str a0_r.Prefix, .bool a0_r.Deny]]⟩) (sub_gen [0] rfl rfl ⟨zc rfl rfl, zc rfl rfl, zc rfl rfl, zc rfl rfl, trivial⟩ ⟨⟨_, rfl, ⟨ii rfl rfl, ii rfl rfl, ii rfl rfl, ii rfl rfl, trivial⟩⟩, trivial⟩) ?_
      refine SOps.nil ?_
      rcases cond_out h with ⟨g13, h⟩ | ⟨g13, h⟩
      · refine SCode.cond_t rfl g13 ?_
        refine SCode.skip ?_
        refine SCode.seq ?_
        refine SCode.block ?_
        refine SCode.seq ?_
        obtain ⟨g14, h⟩ := guard_out h
        refine SCode.region (show SOps _ _ _ [0, 1, 2, 3, 4, 5, 6] _ _ from ?_)
        refine SOps.q rfl (.plain rfl) rfl (q_field_ptr rfl rfl fd51_1) ?_
        refine SOps.q rfl (.plain rfl) rfl (q_load_ptr rfl rfl rfl rfl ty48) ?_
        refine SOps.q rfl (.plain rfl) rfl (q_move rfl rfl) ?_
        refine SOps.q rfl (.plain rfl) rfl (q_index_vec rfl rfl rfl sl48 rfl g14.1 g14.2) ?_
        refine SOps.q rfl (.plain rfl) rfl (q_load_eptr rfl rfl ty3) ?_
        refine SOps.q rfl (.plain rfl) rfl (q_move rfl rfl) ?_
        refine SOps.q rfl (.plain rfl) rfl (q_eql rfl rfl rfl) ?_
        refine SOps.sub (st' := ⟨[(1, .c (.int .i64 a1_action)), (3, .c (.ptr 0 0)), (7, .c (.int .i64 i_8)), (37, .c (.bool (decide (a0_r.Actions.getD i_8.toNat 0 = a1_action))))], [.box [.str a0_r.Name, .vec a0_r.Actions.length 1 (gL (cInt .i64) 0 a0_r.Actions), .str a0_r.Prefix, .bool a0_r.Deny]]⟩) (sub_gen [0] rfl rfl ⟨zc rfl rfl, zc rfl rfl, zc rfl rfl, zc rfl rfl, trivial⟩ ⟨⟨_, rfl, ⟨ii rfl rfl, ii rfl rfl, ii rfl rfl, ii rfl rfl, trivial⟩⟩, trivial⟩) ?_
        refine SOps.nil ?_
        rcases cond_out h with ⟨g15, h⟩ | ⟨g15, h⟩
        · refine SCode.cond_t rfl g15 ?_
          refine SCode.seq ?_
          refine SCode.region (show SOps _ _ _ [0] _ _ from ?_)
          refine SOps.q rfl (.plain rfl) rfl (q_assign rfl rfl) ?_
          refine SOps.sub (st' := ⟨[(6, .c (.bool true))], []⟩) (sub_gen [] rfl rfl ⟨zc rfl rfl, trivial⟩ trivial) ?_
          refine SOps.nil ?_
          refine SCode.ret ?_
          obtain rfl := Option.some.inj h
          exact ⟨⟨[(6, .c (.bool true))], []⟩, _, sub_gen [] rfl rfl ⟨zc rfl rfl, trivial⟩ trivial, resA1 (v := .c (.bool true)) rfl rfl, rfl⟩
        refine SCode.cond_f rfl g15 ?_
        refine SCode.skip ?_
        refine SCode.region (show SOps _ _ _ [0, 1, 2] _ _ from ?_)
        refine SOps.q rfl (.plain rfl) rfl (q_move rfl rfl) ?_
        refine SOps.q rfl (.plain rfl) rfl (q_add rfl rfl rfl) ?_
        refine SOps.q rfl (.plain rfl) rfl (q_assign rfl rfl) ?_
        refine SOps.sub (st' := ⟨[(1, .c (.int .i64 a1_action)), (3, .c (.ptr 0 0)), (7, .c (.int .i64 (IntKind.wrap .i64 (i_8 + 1))))], [.box [.str a0_r.Name, .vec a0_r.Actions.length 1 (gL (cInt .i64) 0 a0_r.Actions), .str a0_r.Prefix, .bool a0_r.Deny]]⟩) (sub_gen [0] rfl rfl ⟨zc rfl rfl, zc rfl rfl, zc rfl rfl, trivial⟩ ⟨⟨_, rfl, ⟨ii rfl rfl, ii rfl rfl, ii rfl rfl, ii rfl rfl, trivial⟩⟩, trivial⟩) ?_
        refine SOps.nil ?_
        exact ⟨(n_12, IntKind.wrap .i64 (i_8 + 1)), h, Nat.lt_succ_self n_12, sub_gen [0] rfl rfl ⟨zc rfl rfl, zc rfl rfl, zc rfl rfl, trivial⟩ ⟨⟨_, rfl, ⟨ii rfl rfl, ii rfl rfl, ii rfl rfl, ii rfl rfl, trivial⟩⟩, trivial⟩⟩
      refine SCode.cond_f rfl g13 ?_
      refine SCode.exit ?_
      exact ⟨(), h, sub_gen [] rfl rfl trivial trivial⟩
  rintro ⟨⟩ h
  show SCode _ _ _ ⟨[], []⟩ _
  replace h : chargenetref39_covers_p4 = some r := h
  unfold chargenetref39_covers_p4 at h
  refine SCode.seq ?_
  refine SCode.region (show SOps _ _ _ [0] _ _ from ?_)
  refine SOps.q rfl (.plain rfl) rfl (q_assign rfl rfl) ?_
  refine SOps.sub (st' := ⟨[(6, .c (.bool false))], []⟩) (sub_gen [] rfl rfl ⟨zc rfl rfl, trivial⟩ trivial) ?_
  refine SOps.nil ?_
  refine SCode.ret ?_
  obtain rfl := Option.some.inj h
  exact ⟨⟨[(6, .c (.bool false))], []⟩, _, sub_gen [] rfl rfl ⟨zc rfl rfl, trivial⟩ trivial, resA1 (v := .c (.bool false)) rfl rfl, rfl⟩
set_option maxRecDepth 100000 in
set_option maxHeartbeats 8000000 in
theorem chargenetref39_Allowed_ok (F : Nat) (a0_roles : List SRole) (a1_grants : List SGrant) (a2_user : ByteArray) (a3_action : Int) (a4_object : ByteArray) (a5_now : Int) (r : Bool) (h : chargenetref39_Allowed F a0_roles a1_grants a2_user a3_action a4_object a5_now = some r) :
    SFun Try.prog 15 [] [.c (.vec a0_roles.length 4 (gL cSRole dSRole a0_roles)), .c (.vec a1_grants.length 4 (gL cSGrant dSGrant a1_grants)), .c (.str a2_user), .c (.int .i64 a3_action), .c (.str a4_object), .c (.int .i64 a5_now)] (fun x _ => x = .c (.bool r)) := by
  refine SFun.of (n := 60) Try.func15 rfl rfl rfl ?_
  unfold chargenetref39_Allowed at h
  show SCode _ _ _ ⟨[(0, .c (.vec a0_roles.length 4 (gL cSRole dSRole a0_roles))), (1, .c (.vec a1_grants.length 4 (gL cSGrant dSGrant a1_grants))), (2, .c (.str a2_user)), (3, .c (.int .i64 a3_action)), (4, .c (.str a4_object)), (5, .c (.int .i64 a5_now))], []⟩ _
  refine SCode.seq ?_
  refine SCode.region (show SOps _ _ _ [0] _ _ from ?_)
  refine SOps.q rfl (.plain rfl) rfl (q_assign rfl rfl) ?_
  refine SOps.sub (st' := ⟨[(0, .c (.vec a0_roles.length 4 (gL cSRole dSRole a0_roles))), (1, .c (.vec a1_grants.length 4 (gL cSGrant dSGrant a1_grants))), (2, .c (.str a2_user)), (3, .c (.int .i64 a3_action)), (4, .c (.str a4_object)), (5, .c (.int .i64 a5_now))], []⟩) (sub_gen [] rfl rfl ⟨zc rfl rfl, zc rfl rfl, zc rfl rfl, zc rfl rfl, zc rfl rfl, zc rfl rfl, trivial⟩ trivial) ?_
  refine SOps.nil ?_
  refine SCode.seq ?_
  refine SCode.seq ?_
  obtain ⟨c_1, g2, h⟩ := bind_out h
  try dsimp only at h
  refine SCode.region (show SOps _ _ _ [0, 1, 2, 3] _ _ from ?_)
  refine SOps.q rfl (.plain rfl) rfl (q_move rfl rfl) ?_
  refine SOps.q rfl (.plain rfl) rfl (q_move rfl rfl) ?_
  refine SOps.q rfl (.plain rfl) rfl (q_call (chargenetref39_Valid_ok F a0_roles a1_grants c_1 g2) [] rfl fn13 ⟨⟨_, rfl, .inl ⟨rfl, rfl⟩⟩, ⟨_, rfl, .inl ⟨rfl, rfl⟩⟩, trivial⟩ (.inl rfl)) ?_
  refine SOps.q rfl (.plain rfl) rfl (q_neq rfl rfl rfl) ?_
  refine SOps.sub (st' := ⟨[(0, .c (.vec a0_roles.length 4 (gL cSRole dSRole a0_roles))), (1, .c (.vec a1_grants.length 4 (gL cSGrant dSGrant a1_grants))), (2, .c (.str a2_user)), (3, .c (.int .i64 a3_action)), (4, .c (.str a4_object)), (5, .c (.int .i64 a5_now)), (19, .c (.bool ((!decide (c_1 = 0)))))], []⟩) (sub_gen [] rfl rfl ⟨zc rfl rfl, zc rfl rfl, zc rfl rfl, zc rfl rfl, zc rfl rfl, zc rfl rfl, zc rfl rfl, trivial⟩ trivial) ?_
  refine SOps.nil ?_
  rcases cond_out h with ⟨g3, h⟩ | ⟨g3, h⟩
  · refine SCode.cond_t rfl g3 ?_
    refine SCode.seq ?_
    refine SCode.region (show SOps _ _ _ [0] _ _ from ?_)
    refine SOps.q rfl (.plain rfl) rfl (q_assign rfl rfl) ?_
    refine SOps.sub (st' := ⟨[(12, .c (.bool false))], []⟩) (sub_gen [] rfl rfl ⟨zc rfl rfl, trivial⟩ trivial) ?_
    refine SOps.nil ?_
    refine SCode.ret ?_
    obtain rfl := Option.some.inj h
    exact ⟨⟨[(12, .c (.bool false))], []⟩, _, sub_gen [] rfl rfl ⟨zc rfl rfl, trivial⟩ trivial, resA1 (v := .c (.bool false)) rfl rfl, rfl⟩
  refine SCode.cond_f rfl g3 ?_
  refine SCode.skip ?_
  refine SCode.seq ?_
  refine SCode.region (show SOps _ _ _ [0] _ _ from ?_)
  refine SOps.q rfl (.plain rfl) rfl (q_assign rfl rfl) ?_
  refine SOps.sub (st' := ⟨[(0, .c (.vec a0_roles.length 4 (gL cSRole dSRole a0_roles))), (1, .c (.vec a1_grants.length 4 (gL cSGrant dSGrant a1_grants))), (2, .c (.str a2_user)), (3, .c (.int .i64 a3_action)), (4, .c (.str a4_object)), (5, .c (.int .i64 a5_now)), (13, .c (.bool false))], []⟩) (sub_gen [] rfl rfl ⟨zc rfl rfl, zc rfl rfl, zc rfl rfl, zc rfl rfl, zc rfl rfl, zc rfl rfl, zc rfl rfl, trivial⟩ trivial) ?_
  refine SOps.nil ?_
  refine SCode.join (σ := Bool) (S := fun s => ⟨[(13, .c (.bool s))], []⟩) (g := fun s => chargenetref39_Allowed_p5 s = some r) ?_ ?_
  rotate_left
  · refine SCode.seq ?_
    refine SCode.region (show SOps _ _ _ [0] _ _ from ?_)
    refine SOps.q rfl (.plain rfl) rfl (q_assign rfl rfl) ?_
    refine SOps.sub (st' := ⟨[(0, .c (.vec a0_roles.length 4 (gL cSRole dSRole a0_roles))), (1, .c (.vec a1_grants.length 4 (gL cSGrant dSGrant a1_grants))), (2, .c (.str a2_user)), (3, .c (.int .i64 a3_action)), (4, .c (.str a4_object)), (5, .c (.int .i64 a5_now)), (13, .c (.bool false)), (14, .c (.int .i64 0))], []⟩) (sub_gen [] rfl rfl ⟨zc rfl rfl, zc rfl rfl, zc rfl rfl, zc rfl rfl, zc rfl rfl, zc rfl rfl, zc rfl rfl, zc rfl rfl, trivial⟩ trivial) ?_
    refine SOps.nil ?_
    refine SCode.block ?_
    refine SCode.sub (st' := ⟨[(0, .c (.vec a0_roles.length 4 (gL cSRole dSRole a0_roles))), (1, .c (.vec a1_grants.length 4 (gL cSGrant dSGrant a1_grants))), (2, .c (.str a2_user)), (3, .c (.int .i64 a3_action)), (4, .c (.str a4_object)), (5, .c (.int .i64 a5_now)), (13, .c (.bool false)), (14, .c (.int .i64 0))], []⟩) (sub_gen [] rfl rfl ⟨zc rfl rfl, zc rfl rfl, zc rfl rfl, zc rfl rfl, zc rfl rfl, zc rfl rfl, zc rfl rfl, zc rfl rfl, trivial⟩ trivial) ?_
    refine (SCode.loop (σ := Nat × (Bool × Int)) (S := fun s => ⟨[(0, .c (.vec a0_roles.length 4 (gL cSRole dSRole a0_roles))), (1, .c (.vec a1_grants.length 4 (gL cSGrant dSGrant a1_grants))), (2, .c (.str a2_user)), (3, .c (.int .i64 a3_action)), (4, .c (.str a4_object)), (5, .c (.int .i64 a5_now)), (13, .c (.bool s.2.1)), (14, .c (.int .i64 s.2.2))], []⟩) (g := fun s => chargenetref39_Allowed_l42 F a0_roles a1_grants a2_user a3_action a4_object a5_now s.1 s.2.1 s.2.2 = some r) (μ := fun s => s.1) (F, (false, 0)) h ?_)
    rintro ⟨n_42, ⟨allowed_23, i_24⟩⟩ h
    replace h : chargenetref39_Allowed_l42 F a0_roles a1_grants a2_user a3_action a4_object a5_now n_42 allowed_23 i_24 = some r := h
    show SCode _ _ _ ⟨[(0, .c (.vec a0_roles.length 4 (gL cSRole dSRole a0_roles))), (1, .c (.vec a1_grants.length 4 (gL cSGrant dSGrant a1_grants))), (2, .c (.str a2_user)), (3, .c (.int .i64 a3_action)), (4, .c (.str a4_object)), (5, .c (.int .i64 a5_now)), (13, .c (.bool allowed_23)), (14, .c (.int .i64 i_24))], []⟩ _
    cases n_42 with
    | zero => cases h
    | succ n_42 =>
      replace h : chargenetref39_Allowed_b42 F a0_roles a1_grants a2_user a3_action a4_object a5_now (fun allowed_23 i_24 => chargenetref39_Allowed_l42 F a0_roles a1_grants a2_user a3_action a4_object a5_now n_42 allowed_23 i_24) allowed_23 i_24 = some r := h
      unfold chargenetref39_Allowed_b42 at h
      refine SCode.seq ?_
      refine SCode.seq ?_
      refine SCode.region (show SOps _ _ _ [0, 1, 2, 3] _ _ from ?_)
      refine SOps.q rfl (.plain rfl) rfl (q_move rfl rfl) ?_
      refine SOps.q rfl (.plain rfl) rfl (q_move rfl rfl) ?_
      refine SOps.q rfl (.plain rfl) rfl (q_len_vec rfl rfl sl23) ?_
      refine SOps.q rfl (.plain rfl) rfl (q_lss rfl rfl rfl) ?_
      refine SOps.sub (st' := ⟨[(0, .c (.vec a0_roles.length 4 (gL cSRole dSRole a0_roles))), (1, .c (.vec a1_grants.length 4 (gL cSGrant dSGrant a1_grants))), (2, .c (.str a2_user)), (3, .c (.int .i64 a3_action)), (4, .c (.str a4_object)), (5, .c (.int .i64 a5_now)), (13, .c (.bool allowed_23)), (14, .c (.int .i64 i_24)), (23, .c (.bool (decide (i_24 < ((a1_grants).length : Int)))))], []⟩) (sub_gen [] rfl rfl ⟨zc rfl rfl, zc rfl rfl, zc rfl rfl, zc rfl rfl, zc rfl rfl, zc rfl rfl, zc rfl rfl, zc rfl rfl, zc rfl rfl, trivial⟩ trivial) ?_
      refine SOps.nil ?_
      rcases cond_out h with ⟨g43, h⟩ | ⟨g43, h⟩
      · refine SCode.cond_t rfl g43 ?_
        refine SCode.skip ?_
        refine SCode.join (σ := Bool) (S := fun s => ⟨[(0, .c (.vec a0_roles.length 4 (gL cSRole dSRole a0_roles))), (1, .c (.vec a1_grants.length 4 (gL cSGrant dSGrant a1_grants))), (2, .c (.str a2_user)), (3, .c (.int .i64 a3_action)), (4, .c (.str a4_object)), (5, .c (.int .i64 a5_now)), (13, .c (.bool s)), (14, .c (.int .i64 i_24))], []⟩) (g := fun s => chargenetref39_Allowed_p45 i_24 (fun allowed_23 i_24 => chargenetref39_Allowed_l42 F a0_roles a1_grants a2_user a3_action a4_object a5_now n_42 allowed_23 i_24) s = some r) ?_ ?_
        rotate_left
        · refine SCode.block ?_
          refine SCode.seq ?_
          refine SCode.seq ?_
          obtain ⟨g46, h⟩ := guard_out h
          rcases cond_out h with ⟨g47, h⟩ | ⟨g47, h⟩
          · refine SCode.region (show SOps _ _ _ [0, 1, 2, 3, 4, 5, 6, 7, 8, 9, 10, 11, 12, 13, 14, 15] _ _ from ?_)
            refine SOps.q rfl (.plain rfl) rfl (q_move rfl rfl) ?_
            refine SOps.q rfl (.plain rfl) rfl (q_move rfl rfl) ?_
            refine SOps.q rfl (.plain rfl) rfl (q_index_vec rfl rfl rfl sl23 rfl g46.1 g46.2) ?_
            refine SOps.q rfl (.plain rfl) rfl (q_field_eptr rfl rfl fd37_0 rfl) ?_
            refine SOps.q rfl (.plain rfl) rfl (q_load_eptr rfl rfl ty9) ?_
            refine SOps.q rfl (.plain rfl) rfl (q_move rfl rfl) ?_
            refine SOps.q rfl (.plain rfl) rfl (q_neqS rfl rfl rfl) ?_
            refine SOps.q rfl (.plain rfl) rfl (q_move rfl rfl) ?_
            refine SOps.skip rfl 7 33 false rfl rfl (.inl (gT g47)) rfl ?_
            refine SOps.skip rfl 7 33 false rfl rfl (.inl (gT g47)) rfl ?_
            refine SOps.skip rfl 7 33 false rfl rfl (.inl (gT g47)) rfl ?_
            refine SOps.skip rfl 7 33 false rfl rfl (.inl (gT g47)) rfl ?_
            refine SOps.skip rfl 7 33 false rfl rfl (.inl (gT g47)) rfl ?_
            refine SOps.skip rfl 7 33 false rfl rfl (.inl (gT g47)) rfl ?_
            refine SOps.skip rfl 7 33 false rfl rfl (.inl (gT g47)) rfl ?_
            refine SOps.q rfl (.plain rfl) rfl (q_pick_t rfl rfl g47 rfl) ?_
            refine SOps.sub (st' := ⟨[(0, .c (.vec a0_roles.length 4 (gL cSRole dSRole a0_roles))), (1, .c (.vec a1_grants.length 4 (gL cSGrant dSGrant a1_grants))), (2, .c (.str a2_user)), (3, .c (.int .i64 a3_action)), (4, .c (.str a4_object)), (5, .c (.int .i64 a5_now)), (13, .c (.bool allowed_23)), (14, .c (.int .i64 i_24)), (41, .c (.bool true))], []⟩) (sub_gen [] rfl rfl ⟨zc rfl rfl, zc rfl rfl, zc rfl rfl, zc rfl rfl, zc rfl rfl, zc rfl rfl, zc rfl rfl, zc rfl rfl, zc rfl rfl, trivial⟩ trivial) ?_
            refine SOps.nil ?_
            refine SCode.cond_t rfl rfl ?_
            refine SCode.exit ?_
            exact ⟨allowed_23, h, sub_gen [] rfl rfl ⟨zc rfl rfl, zc rfl rfl, zc rfl rfl, zc rfl rfl, zc rfl rfl, zc rfl rfl, zc rfl rfl, zc rfl rfl, trivial⟩ trivial⟩
          obtain ⟨g48, h⟩ := guard_out h
          obtain ⟨c_49, g50, h⟩ := bind_out h
          try dsimp only at h
          refine SCode.region (show SOps _ _ _ [0, 1, 2, 3, 4, 5, 6, 7, 8, 9, 10, 11, 12, 13, 14, 15] _ _ from ?_)
          refine SOps.q rfl (.plain rfl) rfl (q_move rfl rfl) ?_
          refine SOps.q rfl (.plain rfl) rfl (q_move rfl rfl) ?_
          refine SOps.q rfl (.plain rfl) rfl (q_index_vec rfl rfl rfl sl23 rfl g46.1 g46.2) ?_
          refine SOps.q rfl (.plain rfl) rfl (q_field_eptr rfl rfl fd37_0 rfl) ?_
          refine SOps.q rfl (.plain rfl) rfl (q_load_eptr rfl rfl ty9) ?_
          refine SOps.q rfl (.plain rfl) rfl (q_move rfl rfl) ?_
          refine SOps.q rfl (.plain rfl) rfl (q_neqS rfl rfl rfl) ?_
          refine SOps.q rfl (.plain rfl) rfl (q_move rfl rfl) ?_
          refine SOps.q rfl (.guard 7 33 false rfl rfl (gF g47)) rfl (q_move rfl rfl) ?_
          refine SOps.q rfl (.guard 7 33 false rfl rfl (gF g47)) rfl (q_move rfl rfl) ?_
          refine SOps.q rfl (.guard 7 33 false rfl rfl (gF g47)) rfl (q_index_vec rfl rfl rfl sl23 rfl g48.1 g48.2) ?_
          refine SOps.q rfl (.guard 7 33 false rfl rfl (gF g47)) rfl (q_load_eptr_all rfl rfl rfl ty37) ?_
          refine SOps.q rfl (.guard 7 33 false rfl rfl (gF g47)) rfl (q_move rfl rfl) ?_
          refine SOps.q rfl (.guard 7 33 false rfl rfl (gF g47)) rfl (q_call (chargenetref39_holds_ok F (a1_grants.getD i_24.toNat dSGrant) a5_now c_49 g50) [] rfl fn31 ⟨⟨rfl, rfl⟩, ⟨_, rfl, .inl ⟨rfl, rfl⟩⟩, trivial⟩ (.inl rfl)) ?_
          refine SOps.q rfl (.guard 7 33 false rfl rfl (gF g47)) rfl (q_not rfl rfl) ?_
          refine SOps.q rfl (.plain rfl) rfl (q_pick_f rfl rfl g47 rfl) ?_
          refine SOps.sub (st' := ⟨[(0, .c (.vec a0_roles.length 4 (gL cSRole dSRole a0_roles))), (1, .c (.vec a1_grants.length 4 (gL cSGrant dSGrant a1_grants))), (2, .c (.str a2_user)), (3, .c (.int .i64 a3_action)), (4, .c (.str a4_object)), (5, .c (.int .i64 a5_now)), (13, .c (.bool allowed_23)), (14, .c (.int .i64 i_24)), (41, .c (.bool ((!c_49))))], []⟩) (sub_gen [] rfl rfl ⟨zc rfl rfl, zc rfl rfl, zc rfl rfl, zc rfl rfl, zc rfl rfl, zc rfl rfl, zc rfl rfl, zc rfl rfl, zc rfl rfl, trivial⟩ trivial) ?_
          refine SOps.nil ?_
          rcases cond_out h with ⟨g51, h⟩ | ⟨g51, h⟩
          · refine SCode.cond_t rfl g51 ?_
            refine SCode.exit ?_
            exact ⟨allowed_23, h, sub_gen [] rfl rfl ⟨zc rfl rfl, zc rfl rfl, zc rfl rfl, zc rfl rfl, zc rfl rfl, zc rfl rfl, zc rfl rfl, zc rfl rfl, trivial⟩ trivial⟩
          refine SCode.cond_f rfl g51 ?_
          refine SCode.skip ?_
          refine SCode.seq ?_
          obtain ⟨g52, h⟩ := guard_out h
          obtain ⟨c_53, g54, h⟩ := bind_out h
          try dsimp only at h
          obtain ⟨g55, h⟩ := guard_out h
          refine SCode.region (show SOps _ _ _ [0, 1, 2, 3, 4, 5, 6, 7, 8, 9, 10, 11] _ _ from ?_)
          refine SOps.q rfl (.plain rfl) rfl (q_move rfl rfl) ?_
          refine SOps.q rfl (.plain rfl) rfl (q_move rfl rfl) ?_
          refine SOps.q rfl (.plain rfl) rfl (q_move rfl rfl) ?_
          refine SOps.q rfl (.plain rfl) rfl (q_move rfl rfl) ?_
          refine SOps.q rfl (.plain rfl) rfl (q_index_vec rfl rfl rfl sl23 rfl g52.1 g52.2) ?_
          refine SOps.q rfl (.plain rfl) rfl (q_field_eptr rfl rfl fd37_1 rfl) ?_
          refine SOps.q rfl (.plain rfl) rfl (q_load_eptr rfl rfl ty9) ?_
          refine SOps.q rfl (.plain rfl) rfl (q_call (chargenetref39_named_ok F a0_roles ((a1_grants.getD i_24.toNat dSGrant).Role) c_53 g54) [] rfl fn32 ⟨⟨_, rfl, .inl ⟨rfl, rfl⟩⟩, ⟨_, rfl, .inl ⟨rfl, rfl⟩⟩, trivial⟩ (.inl rfl)) ?_
          refine SOps.q rfl (.plain rfl) rfl (q_index_vec rfl rfl rfl sl22 rfl g55.1 g55.2) ?_
          refine SOps.q rfl (.plain rfl) rfl (q_load_eptr_all rfl rfl rfl ty51) ?_
          refine SOps.e rfl (.plain rfl) (e_alloc rfl rfl rfl z51) ?_
          refine SOps.e rfl (.plain rfl) (e_store_box rfl rfl rfl rfl rfl ty51 rfl rfl rfl rfl) ?_
          refine SOps.sub (st' := ⟨[(0, .c (.vec a0_roles.length 4 (gL cSRole dSRole a0_roles))), (1, .c (.vec a1_grants.length 4 (gL cSGrant dSGrant a1_grants))), (2, .c (.str a2_user)), (3, .c (.int .i64 a3_action)), (4, .c (.str a4_object)), (5, .c (.int .i64 a5_now)), (13, .c (.bool allowed_23)), (14, .c (.int .i64 i_24)), (15, .c (.ptr 0 0))], [.box [.str ((a0_roles.getD c_53.toNat dSRole).Name), .vec ((a0_roles.getD c_53.toNat dSRole).Actions).length 1 (gL (cInt .i64) 0 ((a0_roles.getD c_53.toNat dSRole).Actions)), .str ((a0_roles.getD c_53.toNat dSRole).Prefix), .bool ((a0_roles.getD c_53.toNat dSRole).Deny)]]⟩) (sub_gen [0] rfl rfl ⟨zc rfl rfl, zc rfl rfl, zc rfl rfl, zc rfl rfl, zc rfl rfl, zc rfl rfl, zc rfl rfl, zc rfl rfl, zc rfl rfl, trivial⟩ ⟨⟨_, rfl, ⟨ii rfl rfl, ii rfl rfl, ii rfl rfl, ii rfl rfl, trivial⟩⟩, trivial⟩) ?_
          refine SOps.nil ?_
          refine SCode.seq ?_
          refine SCode.seq ?_
          obtain ⟨c_56, g57, h⟩ := bind_out h
          try dsimp only at h
          refine SCode.region (show SOps _ _ _ [0, 1, 2, 3, 4] _ _ from ?_)
          refine SOps.q rfl (.plain rfl) rfl (q_load_ptr_all rfl rfl rfl rfl rfl ty51) ?_
          refine SOps.q rfl (.plain rfl) rfl (q_move rfl rfl) ?_
          refine SOps.q rfl (.plain rfl) rfl (q_move rfl rfl) ?_
          refine SOps.q rfl (.plain rfl) rfl (q_call (chargenetref39_covers_ok F (a0_roles.getD c_53.toNat dSRole) a3_action a4_object c_56 g57) [] rfl fn33 ⟨⟨rfl, rfl⟩, ⟨_, rfl, .inl ⟨rfl, rfl⟩⟩, ⟨_, rfl, .inl ⟨rfl, rfl⟩⟩, trivial⟩ (.inl rfl)) ?_
          refine SOps.q rfl (.plain rfl) rfl (q_not rfl rfl) ?_
          refine SOps.sub (st' := ⟨[(0, .c (.vec a0_roles.length 4 (gL cSRole dSRole a0_roles))), (1, .c (.vec a1_grants.length 4 (gL cSGrant dSGrant a1_grants))), (2, .c (.str a2_user)), (3, .c (.int .i64 a3_action)), (4, .c (.str a4_object)), (5, .c (.int .i64 a5_now)), (13, .c (.bool allowed_23)), (14, .c (.int .i64 i_24)), (15, .c (.ptr 0 0)), (56, .c (.bool ((!c_56))))], [.box [.str ((a0_roles.getD c_53.toNat dSRole).Name), .vec ((a0_roles.getD c_53.toNat dSRole).Actions).length 1 (gL (cInt .i64) 0 ((a0_roles.getD c_53.toNat dSRole).Actions)), .str ((a0_roles.getD c_53.toNat dSRole).Prefix), .bool ((a0_roles.getD c_53.toNat dSRole).Deny)]]⟩) (sub_gen [0] rfl rfl ⟨zc rfl rfl, zc rfl rfl, zc rfl rfl, zc rfl rfl, zc rfl rfl, zc rfl rfl, zc rfl rfl, zc rfl rfl, zc rfl rfl, zc rfl rfl, trivial⟩ ⟨⟨_, rfl, ⟨ii rfl rfl, ii rfl rfl, ii rfl rfl, ii rfl rfl, trivial⟩⟩, trivial⟩) ?_
          refine SOps.nil ?_
          rcases cond_out h with ⟨g58, h⟩ | ⟨g58, h⟩
          · refine SCode.cond_t rfl g58 ?_
            refine SCode.exit ?_
            exact ⟨allowed_23, h, sub_gen [] rfl rfl ⟨zc rfl rfl, zc rfl rfl, zc rfl rfl, zc rfl rfl, zc rfl rfl, zc rfl rfl, zc rfl rfl, zc rfl rfl, trivial⟩ trivial⟩
          refine SCode.cond_f rfl g58 ?_
          refine SCode.skip ?_
          refine SCode.seq ?_
          refine SCode.seq ?_
          refine SCode.region (show SOps _ _ _ [0, 1] _ _ from ?_)
          refine SOps.q rfl (.plain rfl) rfl (q_field_ptr rfl rfl fd51_3) ?_
          refine SOps.q rfl (.plain rfl) rfl (q_load_ptr rfl rfl rfl rfl ty4) ?_
          refine SOps.sub (st' := ⟨[(0, .c (.vec a0_roles.length 4 (gL cSRole dSRole a0_roles))), (1, .c (.vec a1_grants.length 4 (gL cSGrant dSGrant a1_grants))), (2, .c (.str a2_user)), (3, .c (.int .i64 a3_action)), (4, .c (.str a4_object)), (5, .c (.int .i64 a5_now)), (14, .c (.int .i64 i_24)), (58, .c (.bool ((a0_roles.getD c_53.toNat dSRole).Deny)))], []⟩) (sub_gen [] rfl rfl ⟨zc rfl rfl, zc rfl rfl, zc rfl rfl, zc rfl rfl, zc rfl rfl, zc rfl rfl, zc rfl rfl, zc rfl rfl, trivial⟩ trivial) ?_
          refine SOps.nil ?_
          rcases cond_out h with ⟨g59, h⟩ | ⟨g59, h⟩
          · refine SCode.cond_t rfl g59 ?_
            refine SCode.seq ?_
            refine SCode.region (show SOps _ _ _ [0] _ _ from ?_)
            refine SOps.q rfl (.plain rfl) rfl (q_assign rfl rfl) ?_
            refine SOps.sub (st' := ⟨[(12, .c (.bool false))], []⟩) (sub_gen [] rfl rfl ⟨zc rfl rfl, trivial⟩ trivial) ?_
            refine SOps.nil ?_
            refine SCode.ret ?_
            obtain rfl := Option.some.inj h
            exact ⟨⟨[(12, .c (.bool false))], []⟩, _, sub_gen [] rfl rfl ⟨zc rfl rfl, trivial⟩ trivial, resA1 (v := .c (.bool false)) rfl rfl, rfl⟩
          refine SCode.cond_f rfl g59 ?_
          refine SCode.skip ?_
          refine SCode.region (show SOps _ _ _ [0] _ _ from ?_)
          refine SOps.q rfl (.plain rfl) rfl (q_assign rfl rfl) ?_
          refine SOps.sub (st' := ⟨[(0, .c (.vec a0_roles.length 4 (gL cSRole dSRole a0_roles))), (1, .c (.vec a1_grants.length 4 (gL cSGrant dSGrant a1_grants))), (2, .c (.str a2_user)), (3, .c (.int .i64 a3_action)), (4, .c (.str a4_object)), (5, .c (.int .i64 a5_now)), (13, .c (.bool true)), (14, .c (.int .i64 i_24))], []⟩) (sub_gen [] rfl rfl ⟨zc rfl rfl, zc rfl rfl, zc rfl rfl, zc rfl rfl, zc rfl rfl, zc rfl rfl, zc rfl rfl, zc rfl rfl, trivial⟩ trivial) ?_
          refine SOps.nil ?_
          exact ⟨true, h, sub_gen [] rfl rfl ⟨zc rfl rfl, zc rfl rfl, zc rfl rfl, zc rfl rfl, zc rfl rfl, zc rfl rfl, zc rfl rfl, zc rfl rfl, trivial⟩ trivial⟩
        rintro allowed_44 h
        show SCode _ _ _ ⟨[(0, .c (.vec a0_roles.length 4 (gL cSRole dSRole a0_roles))), (1, .c (.vec a1_grants.length 4 (gL cSGrant dSGrant a1_grants))), (2, .c (.str a2_user)), (3, .c (.int .i64 a3_action)), (4, .c (.str a4_object)), (5, .c (.int .i64 a5_now)), (13, .c (.bool allowed_44)), (14, .c (.int .i64 i_24))], []⟩ _
        replace h : chargenetref39_Allowed_p45 i_24 (fun allowed_23 i_24 => chargenetref39_Allowed_l42 F a0_roles a1_grants a2_user a3_action a4_object a5_now n_42 allowed_23 i_24) allowed_44 = some r := h
        unfold chargenetref39_Allowed_p45 at h
        refine SCode.region (show SOps _ _ _ [0, 1, 2] _ _ from ?_)
        refine SOps.q rfl (.plain rfl) rfl (q_move rfl rfl) ?_
        refine SOps.q rfl (.plain rfl) rfl (q_add rfl rfl rfl) ?_
        refine SOps.q rfl (.plain rfl) rfl (q_assign rfl rfl) ?_
        refine SOps.sub (st' := ⟨[(0, .c (.vec a0_roles.length 4 (gL cSRole dSRole a0_roles))), (1, .c (.vec a1_grants.length 4 (gL cSGrant dSGrant a1_grants))), (2, .c (.str a2_user)), (3, .c (.int .i64 a3_action)), (4, .c (.str a4_object)), (5, .c (.int .i64 a5_now)), (13, .c (.bool allowed_44)), (14, .c (.int .i64 (IntKind.wrap .i64 (i_24 + 1))))], []⟩) (sub_gen [] rfl rfl ⟨zc rfl rfl, zc rfl rfl, zc rfl rfl, zc rfl rfl, zc rfl rfl, zc rfl rfl, zc rfl rfl, zc rfl rfl, trivial⟩ trivial) ?_
        refine SOps.nil ?_
        exact ⟨(n_42, (allowed_44, IntKind.wrap .i64 (i_24 + 1))), h, Nat.lt_succ_self n_42, sub_gen [] rfl rfl ⟨zc rfl rfl, zc rfl rfl, zc rfl rfl, zc rfl rfl, zc rfl rfl, zc rfl rfl, zc rfl rfl, zc rfl rfl, trivial⟩ trivial⟩
      refine SCode.cond_f rfl g43 ?_
      refine SCode.exit ?_
      exact ⟨allowed_23, h, sub_gen [] rfl rfl ⟨zc rfl rfl, trivial⟩ trivial⟩
  rintro allowed_4 h
  show SCode _ _ _ ⟨[(13, .c (.bool allowed_4))], []⟩ _
  replace h : chargenetref39_Allowed_p5 allowed_4 = some r := h
  unfold chargenetref39_Allowed_p5 at h
  refine SCode.seq ?_
  refine SCode.region (show SOps _ _ _ [0, 1] _ _ from ?_)
  refine SOps.q rfl (.plain rfl) rfl (q_move rfl rfl) ?_
  refine SOps.q rfl (.plain rfl) rfl (q_assign rfl rfl) ?_
  refine SOps.sub (st' := ⟨[(12, .c (.bool allowed_4))], []⟩) (sub_gen [] rfl rfl ⟨zc rfl rfl, trivial⟩ trivial) ?_
  refine SOps.nil ?_
  refine SCode.ret ?_
  obtain rfl := Option.some.inj h
  exact ⟨⟨[(12, .c (.bool allowed_4))], []⟩, _, sub_gen [] rfl rfl ⟨zc rfl rfl, trivial⟩ trivial, resA1 (v := .c (.bool allowed_4)) rfl rfl, rfl⟩
set_option maxRecDepth 100000 in
set_option maxHeartbeats 8000000 in
theorem chargenetref39_Users_ok (F : Nat) (a0_roles : List SRole) (a1_grants : List SGrant) (a2_action : Int) (a3_object : ByteArray) (a4_now : Int) (r : List ByteArray) (h : chargenetref39_Users F a0_roles a1_grants a2_action a3_object a4_now = some r) :
    SFun Try.prog 22 [] [.c (.vec a0_roles.length 4 (gL cSRole dSRole a0_roles)), .c (.vec a1_grants.length 4 (gL cSGrant dSGrant a1_grants)), .c (.int .i64 a2_action), .c (.str a3_object), .c (.int .i64 a4_now)] (fun x _ => x = .c (.vec r.length 1 (gL cStr ByteArray.empty r))) := by
  refine SFun.of (n := 65) Try.func22 rfl rfl rfl ?_
  unfold chargenetref39_Users at h
  show SCode _ _ _ ⟨[(0, .c (.vec a0_roles.length 4 (gL cSRole dSRole a0_roles))), (1, .c (.vec a1_grants.length 4 (gL cSGrant dSGrant a1_grants))), (2, .c (.int .i64 a2_action)), (3, .c (.str a3_object)), (4, .c (.int .i64 a4_now))], []⟩ _
  refine SCode.seq ?_
  refine SCode.region (show SOps _ _ _ [0] _ _ from ?_)
  refine SOps.q rfl (.plain rfl) rfl (q_assign rfl rfl) ?_
  refine SOps.sub (st' := ⟨[(0, .c (.vec a0_roles.length 4 (gL cSRole dSRole a0_roles))), (1, .c (.vec a1_grants.length 4 (gL cSGrant dSGrant a1_grants))), (2, .c (.int .i64 a2_action)), (3, .c (.str a3_object)), (4, .c (.int .i64 a4_now))], []⟩) (sub_gen [] rfl rfl ⟨zc rfl rfl, zc rfl rfl, zc rfl rfl, zc rfl rfl, zc rfl rfl, trivial⟩ trivial) ?_
  refine SOps.nil ?_
  refine SCode.seq ?_
  refine SCode.region (show SOps _ _ _ [0] _ _ from ?_)
  refine SOps.q rfl (.plain rfl) rfl (q_assign rfl rfl) ?_
  refine SOps.nilArrL (T := 9) (k := 1) cStr ByteArray.empty (s := 11) rfl rfl ?_
  refine SOps.sub (st' := ⟨[(0, .c (.vec a0_roles.length 4 (gL cSRole dSRole a0_roles))), (1, .c (.vec a1_grants.length 4 (gL cSGrant dSGrant a1_grants))), (2, .c (.int .i64 a2_action)), (3, .c (.str a3_object)), (4, .c (.int .i64 a4_now)), (11, .c (.own 0 (([] : List ByteArray)).length))], [.arr 9 1 (([] : List ByteArray)).length (gL cStr ByteArray.empty (([] : List ByteArray)))]⟩) (sub_gen [0] rfl rfl ⟨zc rfl rfl, zc rfl rfl, zc rfl rfl, zc rfl rfl, zc rfl rfl, zc rfl rfl, trivial⟩ ⟨oa rfl, trivial⟩) ?_
  refine SOps.nil ?_
  refine SCode.block ?_
  refine SCode.sub (st' := ⟨[(0, .c (.vec a0_roles.length 4 (gL cSRole dSRole a0_roles))), (1, .c (.vec a1_grants.length 4 (gL cSGrant dSGrant a1_grants))), (2, .c (.int .i64 a2_action)), (3, .c (.str a3_object)), (4, .c (.int .i64 a4_now)), (11, .c (.own 0 ([] : List ByteArray).length))], [.arr 9 1 ([] : List ByteArray).length (gL cStr ByteArray.empty ([] : List ByteArray))]⟩) (sub_gen [0] rfl rfl ⟨zc rfl rfl, zc rfl rfl, zc rfl rfl, zc rfl rfl, zc rfl rfl, zc rfl rfl, trivial⟩ ⟨oa rfl, trivial⟩) ?_
  refine (SCode.loop (σ := Nat × ((List ByteArray))) (S := fun s => ⟨[(0, .c (.vec a0_roles.length 4 (gL cSRole dSRole a0_roles))), (1, .c (.vec a1_grants.length 4 (gL cSGrant dSGrant a1_grants))), (2, .c (.int .i64 a2_action)), (3, .c (.str a3_object)), (4, .c (.int .i64 a4_now)), (11, .c (.own 0 s.2.length))], [.arr 9 1 s.2.length (gL cStr ByteArray.empty s.2)]⟩) (g := fun s => chargenetref39_Users_l154 F a0_roles a1_grants a2_action a3_object a4_now s.1 s.2 = some r) (μ := fun s => s.1) (F, ([] : List ByteArray)) h ?_)
  rintro ⟨n_154, o0_77⟩ h
  replace h : chargenetref39_Users_l154 F a0_roles a1_grants a2_action a3_object a4_now n_154 o0_77 = some r := h
  show SCode _ _ _ ⟨[(0, .c (.vec a0_roles.length 4 (gL cSRole dSRole a0_roles))), (1, .c (.vec a1_grants.length 4 (gL cSGrant dSGrant a1_grants))), (2, .c (.int .i64 a2_action)), (3, .c (.str a3_object)), (4, .c (.int .i64 a4_now)), (11, .c (.own 0 o0_77.length))], [.arr 9 1 o0_77.length (gL cStr ByteArray.empty o0_77)]⟩ _
  cases n_154 with
  | zero => cases h
  | succ n_154 =>
    replace h : chargenetref39_Users_b154 F a0_roles a1_grants a2_action a3_object a4_now (fun o0_77 => chargenetref39_Users_l154 F a0_roles a1_grants a2_action a3_object a4_now n_154 o0_77) o0_77 = some r := h
    unfold chargenetref39_Users_b154 at h
    refine SCode.block ?_
    refine SCode.seq ?_
    refine SCode.region (show SOps _ _ _ [0] _ _ from ?_)
    refine SOps.q rfl (.plain rfl) rfl (q_assign rfl rfl) ?_
    refine SOps.sub (st' := ⟨[(0, .c (.vec a0_roles.length 4 (gL cSRole dSRole a0_roles))), (1, .c (.vec a1_grants.length 4 (gL cSGrant dSGrant a1_grants))), (2, .c (.int .i64 a2_action)), (3, .c (.str a3_object)), (4, .c (.int .i64 a4_now)), (11, .c (.own 0 o0_77.length)), (12, .c (.str ByteArray.empty))], [.arr 9 1 o0_77.length (gL cStr ByteArray.empty o0_77)]⟩) (sub_gen [0] rfl rfl ⟨zc rfl rfl, zc rfl rfl, zc rfl rfl, zc rfl rfl, zc rfl rfl, zc rfl rfl, zc rfl rfl, trivial⟩ ⟨oa rfl, trivial⟩) ?_
    refine SOps.nil ?_
    refine SCode.join (σ := ByteArray) (S := fun s => ⟨[(0, .c (.vec a0_roles.length 4 (gL cSRole dSRole a0_roles))), (1, .c (.vec a1_grants.length 4 (gL cSGrant dSGrant a1_grants))), (2, .c (.int .i64 a2_action)), (3, .c (.str a3_object)), (4, .c (.int .i64 a4_now)), (11, .c (.own 0 o0_77.length)), (12, .c (.str s))], [.arr 9 1 o0_77.length (gL cStr ByteArray.empty o0_77)]⟩) (g := fun s => chargenetref39_Users_p158 o0_77 (fun o0_77 => chargenetref39_Users_l154 F a0_roles a1_grants a2_action a3_object a4_now n_154 o0_77) s = some r) ?_ ?_
    rotate_left
    · refine SCode.seq ?_
      refine SCode.region (show SOps _ _ _ [0] _ _ from ?_)
      refine SOps.q rfl (.plain rfl) rfl (q_assign rfl rfl) ?_
      refine SOps.sub (st' := ⟨[(0, .c (.vec a0_roles.length 4 (gL cSRole dSRole a0_roles))), (1, .c (.vec a1_grants.length 4 (gL cSGrant dSGrant a1_grants))), (2, .c (.int .i64 a2_action)), (3, .c (.str a3_object)), (4, .c (.int .i64 a4_now)), (11, .c (.own 0 o0_77.length)), (12, .c (.str ByteArray.empty)), (13, .c (.int .i64 0))], [.arr 9 1 o0_77.length (gL cStr ByteArray.empty o0_77)]⟩) (sub_gen [0] rfl rfl ⟨zc rfl rfl, zc rfl rfl, zc rfl rfl, zc rfl rfl, zc rfl rfl, zc rfl rfl, zc rfl rfl, zc rfl rfl, trivial⟩ ⟨oa rfl, trivial⟩) ?_
      refine SOps.nil ?_
      refine SCode.block ?_
      refine SCode.sub (st' := ⟨[(0, .c (.vec a0_roles.length 4 (gL cSRole dSRole a0_roles))), (1, .c (.vec a1_grants.length 4 (gL cSGrant dSGrant a1_grants))), (2, .c (.int .i64 a2_action)), (3, .c (.str a3_object)), (4, .c (.int .i64 a4_now)), (11, .c (.own 0 o0_77.length)), (12, .c (.str ByteArray.empty)), (13, .c (.int .i64 0))], [.arr 9 1 o0_77.length (gL cStr ByteArray.empty o0_77)]⟩) (sub_gen [0] rfl rfl ⟨zc rfl rfl, zc rfl rfl, zc rfl rfl, zc rfl rfl, zc rfl rfl, zc rfl rfl, zc rfl rfl, zc rfl rfl, trivial⟩ ⟨oa rfl, trivial⟩) ?_
      refine (SCode.loop (σ := Nat × (ByteArray × Int)) (S := fun s => ⟨[(0, .c (.vec a0_roles.length 4 (gL cSRole dSRole a0_roles))), (1, .c (.vec a1_grants.length 4 (gL cSGrant dSGrant a1_grants))), (2, .c (.int .i64 a2_action)), (3, .c (.str a3_object)), (4, .c (.int .i64 a4_now)), (11, .c (.own 0 o0_77.length)), (12, .c (.str s.2.1)), (13, .c (.int .i64 s.2.2))], [.arr 9 1 o0_77.length (gL cStr ByteArray.empty o0_77)]⟩) (g := fun s => chargenetref39_Users_l207 F a0_roles a1_grants a2_action a3_object a4_now o0_77 (fun o0_77 => chargenetref39_Users_l154 F a0_roles a1_grants a2_action a3_object a4_now n_154 o0_77) s.1 s.2.1 s.2.2 = some r) (μ := fun s => s.1) (F, (ByteArray.empty, 0)) h ?_)
      rintro ⟨n_207, ⟨next_182, i_183⟩⟩ h
      replace h : chargenetref39_Users_l207 F a0_roles a1_grants a2_action a3_object a4_now o0_77 (fun o0_77 => chargenetref39_Users_l154 F a0_roles a1_grants a2_action a3_object a4_now n_154 o0_77) n_207 next_182 i_183 = some r := h
      show SCode _ _ _ ⟨[(0, .c (.vec a0_roles.length 4 (gL cSRole dSRole a0_roles))), (1, .c (.vec a1_grants.length 4 (gL cSGrant dSGrant a1_grants))), (2, .c (.int .i64 a2_action)), (3, .c (.str a3_object)), (4, .c (.int .i64 a4_now)), (11, .c (.own 0 o0_77.length)), (12, .c (.str next_182)), (13, .c (.int .i64 i_183))], [.arr 9 1 o0_77.length (gL cStr ByteArray.empty o0_77)]⟩ _
      cases n_207 with
      | zero => cases h
      | succ n_207 =>
        replace h : chargenetref39_Users_b207 F a0_roles a1_grants a2_action a3_object a4_now o0_77 (fun o0_77 => chargenetref39_Users_l154 F a0_roles a1_grants a2_action a3_object a4_now n_154 o0_77) (fun next_182 i_183 => chargenetref39_Users_l207 F a0_roles a1_grants a2_action a3_object a4_now o0_77 (fun o0_77 => chargenetref39_Users_l154 F a0_roles a1_grants a2_action a3_object a4_now n_154 o0_77) n_207 next_182 i_183) next_182 i_183 = some r := h
        unfold chargenetref39_Users_b207 at h
        refine SCode.seq ?_
        refine SCode.seq ?_
        refine SCode.region (show SOps _ _ _ [0, 1, 2, 3] _ _ from ?_)
        refine SOps.q rfl (.plain rfl) rfl (q_move rfl rfl) ?_
        refine SOps.q rfl (.plain rfl) rfl (q_move rfl rfl) ?_
        refine SOps.q rfl (.plain rfl) rfl (q_len_vec rfl rfl sl23) ?_
        refine SOps.q rfl (.plain rfl) rfl (q_lss rfl rfl rfl) ?_
        refine SOps.sub (st' := ⟨[(0, .c (.vec a0_roles.length 4 (gL cSRole dSRole a0_roles))), (1, .c (.vec a1_grants.length 4 (gL cSGrant dSGrant a1_grants))), (2, .c (.int .i64 a2_action)), (3, .c (.str a3_object)), (4, .c (.int .i64 a4_now)), (11, .c (.own 0 o0_77.length)), (12, .c (.str next_182)), (13, .c (.int .i64 i_183)), (18, .c (.bool (decide (i_183 < ((a1_grants).length : Int)))))], [.arr 9 1 o0_77.length (gL cStr ByteArray.empty o0_77)]⟩) (sub_gen [0] rfl rfl ⟨zc rfl rfl, zc rfl rfl, zc rfl rfl, zc rfl rfl, zc rfl rfl, zc rfl rfl, zc rfl rfl, zc rfl rfl, zc rfl rfl, trivial⟩ ⟨oa rfl, trivial⟩) ?_
        refine SOps.nil ?_
        rcases cond_out h with ⟨g208, h⟩ | ⟨g208, h⟩
        · refine SCode.cond_t rfl g208 ?_
          refine SCode.skip ?_
          refine SCode.join (σ := ByteArray) (S := fun s => ⟨[(0, .c (.vec a0_roles.length 4 (gL cSRole dSRole a0_roles))), (1, .c (.vec a1_grants.length 4 (gL cSGrant dSGrant a1_grants))), (2, .c (.int .i64 a2_action)), (3, .c (.str a3_object)), (4, .c (.int .i64 a4_now)), (11, .c (.own 0 o0_77.length)), (12, .c (.str s)), (13, .c (.int .i64 i_183))], [.arr 9 1 o0_77.length (gL cStr ByteArray.empty o0_77)]⟩) (g := fun s => chargenetref39_Users_p210 i_183 (fun next_182 i_183 => chargenetref39_Users_l207 F a0_roles a1_grants a2_action a3_object a4_now o0_77 (fun o0_77 => chargenetref39_Users_l154 F a0_roles a1_grants a2_action a3_object a4_now n_154 o0_77) n_207 next_182 i_183) s = some r) ?_ ?_
          rotate_left
          · refine SCode.block ?_
            refine SCode.seq ?_
            obtain ⟨g211, h⟩ := guard_out h
            refine SCode.region (show SOps _ _ _ [0, 1, 2, 3, 4, 5] _ _ from ?_)
            refine SOps.q rfl (.plain rfl) rfl (q_move rfl rfl) ?_
            refine SOps.q rfl (.plain rfl) rfl (q_move rfl rfl) ?_
            refine SOps.q rfl (.plain rfl) rfl (q_index_vec rfl rfl rfl sl23 rfl g211.1 g211.2) ?_
            refine SOps.q rfl (.plain rfl) rfl (q_field_eptr rfl rfl fd37_0 rfl) ?_
            refine SOps.q rfl (.plain rfl) rfl (q_load_eptr rfl rfl ty9) ?_
            refine SOps.q rfl (.plain rfl) rfl (q_assign rfl rfl) ?_
            refine SOps.sub (st' := ⟨[(0, .c (.vec a0_roles.length 4 (gL cSRole dSRole a0_roles))), (1, .c (.vec a1_grants.length 4 (gL cSGrant dSGrant a1_grants))), (2, .c (.int .i64 a2_action)), (3, .c (.str a3_object)), (4, .c (.int .i64 a4_now)), (11, .c (.own 0 o0_77.length)), (12, .c (.str next_182)), (13, .c (.int .i64 i_183)), (14, .c (.str ((a1_grants.getD i_183.toNat dSGrant).User)))], [.arr 9 1 o0_77.length (gL cStr ByteArray.empty o0_77)]⟩) (sub_gen [0] rfl rfl ⟨zc rfl rfl, zc rfl rfl, zc rfl rfl, zc rfl rfl, zc rfl rfl, zc rfl rfl, zc rfl rfl, zc rfl rfl, zc rfl rfl, trivial⟩ ⟨oa rfl, trivial⟩) ?_
            refine SOps.nil ?_
            refine SCode.seq ?_
            rcases cond_out h with ⟨g212, h⟩ | ⟨g212, h⟩
            · rcases cond_out h with ⟨g213, h⟩ | ⟨g213, h⟩
              · obtain ⟨c_214, g215, h⟩ := bind_out h
                try dsimp only at h
                refine SCode.region (show SOps _ _ _ [0, 1, 2, 3, 4, 5, 6, 7, 8, 9, 10, 11, 12, 13, 14, 15, 16, 17, 18, 19, 20, 21, 22, 23, 24, 25, 26, 27, 28, 29, 30] _ _ from ?_)
                refine SOps.q rfl (.plain rfl) rfl (q_move rfl rfl) ?_
                refine SOps.q rfl (.plain rfl) rfl (q_len_own rfl rfl sl44) ?_
                refine SOps.q rfl (.plain rfl) rfl (q_eql rfl rfl rfl) ?_
                refine SOps.q rfl (.plain rfl) rfl (q_move rfl rfl) ?_
                refine SOps.skip rfl 3 29 false rfl rfl (.inl (gT g212)) rfl ?_
                refine SOps.skip rfl 3 29 false rfl rfl (.inl (gT g212)) rfl ?_
                refine SOps.skip rfl 3 29 false rfl rfl (.inl (gT g212)) rfl ?_
                refine SOps.skip rfl 3 29 false rfl rfl (.inl (gT g212)) rfl ?_
                refine SOps.skip rfl 3 29 false rfl rfl (.inl (gT g212)) rfl ?_
                refine SOps.skip rfl 3 29 false rfl rfl (.inl (gT g212)) rfl ?_
                refine SOps.skip rfl 3 29 false rfl rfl (.inl (gT g212)) rfl ?_
                refine SOps.skip rfl 3 29 false rfl rfl (.inl (gT g212)) rfl ?_
                refine SOps.q rfl (.plain rfl) rfl (q_pick_t rfl rfl g212 rfl) ?_
                refine SOps.q rfl (.plain rfl) rfl (q_move rfl rfl) ?_
                refine SOps.q rfl (.guard 13 39 true rfl rfl rfl) rfl (q_move rfl rfl) ?_
                refine SOps.q rfl (.guard 13 39 true rfl rfl rfl) rfl (q_eqlS rfl rfl rfl) ?_
                refine SOps.q rfl (.guard 13 39 true rfl rfl rfl) rfl (q_move rfl rfl) ?_
                refine SOps.skip rfl 16 42 false rfl rfl (.inl (gT g213)) rfl ?_
                refine SOps.skip rfl 16 42 false rfl rfl (.inl (gT g213)) rfl ?_
                refine SOps.skip rfl 16 42 false rfl rfl (.inl (gT g213)) rfl ?_
                refine SOps.q rfl (.guard 13 39 true rfl rfl rfl) rfl (q_pick_t rfl rfl g213 rfl) ?_
                refine SOps.q rfl (.plain rfl) rfl (q_pick_t rfl rfl rfl rfl) ?_
                refine SOps.q rfl (.plain rfl) rfl (q_move rfl rfl) ?_
                refine SOps.q rfl (.guard 22 48 true rfl rfl rfl) rfl (q_move rfl rfl) ?_
                refine SOps.q rfl (.guard 22 48 true rfl rfl rfl) rfl (q_move rfl rfl) ?_
                refine SOps.q rfl (.guard 22 48 true rfl rfl rfl) rfl (q_move rfl rfl) ?_
                refine SOps.q rfl (.guard 22 48 true rfl rfl rfl) rfl (q_move rfl rfl) ?_
                refine SOps.q rfl (.guard 22 48 true rfl rfl rfl) rfl (q_move rfl rfl) ?_
                refine SOps.q rfl (.guard 22 48 true rfl rfl rfl) rfl (q_move rfl rfl) ?_
                refine SOps.q rfl (.guard 22 48 true rfl rfl rfl) rfl (q_call (chargenetref39_Allowed_ok F a0_roles a1_grants ((a1_grants.getD i_183.toNat dSGrant).User) a2_action a3_object a4_now c_214 g215) [] rfl fn15 ⟨⟨_, rfl, .inl ⟨rfl, rfl⟩⟩, ⟨_, rfl, .inl ⟨rfl, rfl⟩⟩, ⟨_, rfl, .inl ⟨rfl, rfl⟩⟩, ⟨_, rfl, .inl ⟨rfl, rfl⟩⟩, ⟨_, rfl, .inl ⟨rfl, rfl⟩⟩, ⟨_, rfl, .inl ⟨rfl, rfl⟩⟩, trivial⟩ (.inl rfl)) ?_
                refine SOps.q rfl (.plain rfl) rfl (q_pick_t rfl rfl rfl rfl) ?_
                refine SOps.sub (st' := ⟨[(0, .c (.vec a0_roles.length 4 (gL cSRole dSRole a0_roles))), (1, .c (.vec a1_grants.length 4 (gL cSGrant dSGrant a1_grants))), (2, .c (.int .i64 a2_action)), (3, .c (.str a3_object)), (4, .c (.int .i64 a4_now)), (11, .c (.own 0 o0_77.length)), (12, .c (.str next_182)), (13, .c (.int .i64 i_183)), (14, .c (.str ((a1_grants.getD i_183.toNat dSGrant).User))), (56, .c (.bool c_214))], [.arr 9 1 o0_77.length (gL cStr ByteArray.empty o0_77)]⟩) (sub_gen [0] rfl rfl ⟨zc rfl rfl, zc rfl rfl, zc rfl rfl, zc rfl rfl, zc rfl rfl, zc rfl rfl, zc rfl rfl, zc rfl rfl, zc rfl rfl, zc rfl rfl, trivial⟩ ⟨oa rfl, trivial⟩) ?_
                refine SOps.nil ?_
                rcases cond_out h with ⟨g216, h⟩ | ⟨g216, h⟩
                · refine SCode.cond_t rfl g216 ?_
                  refine SCode.region (show SOps _ _ _ [0, 1] _ _ from ?_)
                  refine SOps.q rfl (.plain rfl) rfl (q_move rfl rfl) ?_
                  refine SOps.q rfl (.plain rfl) rfl (q_assign rfl rfl) ?_
                  refine SOps.sub (st' := ⟨[(0, .c (.vec a0_roles.length 4 (gL cSRole dSRole a0_roles))), (1, .c (.vec a1_grants.length 4 (gL cSGrant dSGrant a1_grants))), (2, .c (.int .i64 a2_action)), (3, .c (.str a3_object)), (4, .c (.int .i64 a4_now)), (11, .c (.own 0 o0_77.length)), (12, .c (.str ((a1_grants.getD i_183.toNat dSGrant).User))), (13, .c (.int .i64 i_183))], [.arr 9 1 o0_77.length (gL cStr ByteArray.empty o0_77)]⟩) (sub_gen [0] rfl rfl ⟨zc rfl rfl, zc rfl rfl, zc rfl rfl, zc rfl rfl, zc rfl rfl, zc rfl rfl, zc rfl rfl, zc rfl rfl, trivial⟩ ⟨oa rfl, trivial⟩) ?_
                  refine SOps.nil ?_
                  exact ⟨(a1_grants.getD i_183.toNat dSGrant).User, h, sub_gen [0] rfl rfl ⟨zc rfl rfl, zc rfl rfl, zc rfl rfl, zc rfl rfl, zc rfl rfl, zc rfl rfl, zc rfl rfl, zc rfl rfl, trivial⟩ ⟨oa rfl, trivial⟩⟩
                refine SCode.cond_f rfl g216 ?_
                refine SCode.skip ?_
                exact ⟨next_182, h, sub_gen [0] rfl rfl ⟨zc rfl rfl, zc rfl rfl, zc rfl rfl, zc rfl rfl, zc rfl rfl, zc rfl rfl, zc rfl rfl, zc rfl rfl, trivial⟩ ⟨oa rfl, trivial⟩⟩
              rcases cond_out h with ⟨g217, h⟩ | ⟨g217, h⟩
              · obtain ⟨c_218, g219, h⟩ := bind_out h
                try dsimp only at h
                refine SCode.region (show SOps _ _ _ [0, 1, 2, 3, 4, 5, 6, 7, 8, 9, 10, 11, 12, 13, 14, 15, 16, 17, 18, 19, 20, 21, 22, 23, 24, 25, 26, 27, 28, 29, 30] _ _ from ?_)
                refine SOps.q rfl (.plain rfl) rfl (q_move rfl rfl) ?_
                refine SOps.q rfl (.plain rfl) rfl (q_len_own rfl rfl sl44) ?_
                refine SOps.q rfl (.plain rfl) rfl (q_eql rfl rfl rfl) ?_
                refine SOps.q rfl (.plain rfl) rfl (q_move rfl rfl) ?_
                refine SOps.skip rfl 3 29 false rfl rfl (.inl (gT g212)) rfl ?_
                refine SOps.skip rfl 3 29 false rfl rfl (.inl (gT g212)) rfl ?_
                refine SOps.skip rfl 3 29 false rfl rfl (.inl (gT g212)) rfl ?_
                refine SOps.skip rfl 3 29 false rfl rfl (.inl (gT g212)) rfl ?_
                refine SOps.skip rfl 3 29 false rfl rfl (.inl (gT g212)) rfl ?_
                refine SOps.skip rfl 3 29 false rfl rfl (.inl (gT g212)) rfl ?_
                refine SOps.skip rfl 3 29 false rfl rfl (.inl (gT g212)) rfl ?_
                refine SOps.skip rfl 3 29 false rfl rfl (.inl (gT g212)) rfl ?_
                refine SOps.q rfl (.plain rfl) rfl (q_pick_t rfl rfl g212 rfl) ?_
                refine SOps.q rfl (.plain rfl) rfl (q_move rfl rfl) ?_
                refine SOps.q rfl (.guard 13 39 true rfl rfl rfl) rfl (q_move rfl rfl) ?_
                refine SOps.q rfl (.guard 13 39 true rfl rfl rfl) rfl (q_eqlS rfl rfl rfl) ?_
                refine SOps.q rfl (.guard 13 39 true rfl rfl rfl) rfl (q_move rfl rfl) ?_
                refine SOps.q rfl (.guard 16 42 false rfl rfl (gF g213)) rfl (q_move rfl rfl) ?_
                refine SOps.q rfl (.guard 16 42 false rfl rfl (gF g213)) rfl (q_move rfl rfl) ?_
                refine SOps.q rfl (.guard 16 42 false rfl rfl (gF g213)) rfl (q_lssS rfl rfl rfl) ?_
                refine SOps.q rfl (.guard 13 39 true rfl rfl rfl) rfl (q_pick_f rfl rfl g213 rfl) ?_
                refine SOps.q rfl (.plain rfl) rfl (q_pick_t rfl rfl rfl rfl) ?_
                refine SOps.q rfl (.plain rfl) rfl (q_move rfl rfl) ?_
                refine SOps.q rfl (.guard 22 48 true rfl rfl (gT g217)) rfl (q_move rfl rfl) ?_
                refine SOps.q rfl (.guard 22 48 true rfl rfl (gT g217)) rfl (q_move rfl rfl) ?_
                refine SOps.q rfl (.guard 22 48 true rfl rfl (gT g217)) rfl (q_move rfl rfl) ?_
                refine SOps.q rfl (.guard 22 48 true rfl rfl (gT g217)) rfl (q_move rfl rfl) ?_
                refine SOps.q rfl (.guard 22 48 true rfl rfl (gT g217)) rfl (q_move rfl rfl) ?_
                refine SOps.q rfl (.guard 22 48 true rfl rfl (gT g217)) rfl (q_move rfl rfl) ?_
                refine SOps.q rfl (.guard 22 48 true rfl rfl (gT g217)) rfl (q_call (chargenetref39_Allowed_ok F a0_roles a1_grants ((a1_grants.getD i_183.toNat dSGrant).User) a2_action a3_object a4_now c_218 g219) [] rfl fn15 ⟨⟨_, rfl, .inl ⟨rfl, rfl⟩⟩, ⟨_, rfl, .inl ⟨rfl, rfl⟩⟩, ⟨_, rfl, .inl ⟨rfl, rfl⟩⟩, ⟨_, rfl, .inl ⟨rfl, rfl⟩⟩, ⟨_, rfl, .inl ⟨rfl, rfl⟩⟩, ⟨_, rfl, .inl ⟨rfl, rfl⟩⟩, trivial⟩ (.inl rfl)) ?_
                refine SOps.q rfl (.plain rfl) rfl (q_pick_t rfl rfl g217 rfl) ?_
                refine SOps.sub (st' := ⟨[(0, .c (.vec a0_roles.length 4 (gL cSRole dSRole a0_roles))), (1, .c (.vec a1_grants.length 4 (gL cSGrant dSGrant a1_grants))), (2, .c (.int .i64 a2_action)), (3, .c (.str a3_object)), (4, .c (.int .i64 a4_now)), (11, .c (.own 0 o0_77.length)), (12, .c (.str next_182)), (13, .c (.int .i64 i_183)), (14, .c (.str ((a1_grants.getD i_183.toNat dSGrant).User))), (56, .c (.bool c_218))], [.arr 9 1 o0_77.length (gL cStr ByteArray.empty o0_77)]⟩) (sub_gen [0] rfl rfl ⟨zc rfl rfl, zc rfl rfl, zc rfl rfl, zc rfl rfl, zc rfl rfl, zc rfl rfl, zc rfl rfl, zc rfl rfl, zc rfl rfl, zc rfl rfl, trivial⟩ ⟨oa rfl, trivial⟩) ?_
                refine SOps.nil ?_
                rcases cond_out h with ⟨g220, h⟩ | ⟨g220, h⟩
                · refine SCode.cond_t rfl g220 ?_
                  refine SCode.region (show SOps _ _ _ [0, 1] _ _ from ?_)
                  refine SOps.q rfl (.plain rfl) rfl (q_move rfl rfl) ?_
                  refine SOps.q rfl (.plain rfl) rfl (q_assign rfl rfl) ?_
                  refine SOps.sub (st' := ⟨[(0, .c (.vec a0_roles.length 4 (gL cSRole dSRole a0_roles))), (1, .c (.vec a1_grants.length 4 (gL cSGrant dSGrant a1_grants))), (2, .c (.int .i64 a2_action)), (3, .c (.str a3_object)), (4, .c (.int .i64 a4_now)), (11, .c (.own 0 o0_77.length)), (12, .c (.str ((a1_grants.getD i_183.toNat dSGrant).User))), (13, .c (.int .i64 i_183))], [.arr 9 1 o0_77.length (gL cStr ByteArray.empty o0_77)]⟩) (sub_gen [0] rfl rfl ⟨zc rfl rfl, zc rfl rfl, zc rfl rfl, zc rfl rfl, zc rfl rfl, zc rfl rfl, zc rfl rfl, zc rfl rfl, trivial⟩ ⟨oa rfl, trivial⟩) ?_
                  refine SOps.nil ?_
                  exact ⟨(a1_grants.getD i_183.toNat dSGrant).User, h, sub_gen [0] rfl rfl ⟨zc rfl rfl, zc rfl rfl, zc rfl rfl, zc rfl rfl, zc rfl rfl, zc rfl rfl, zc rfl rfl, zc rfl rfl, trivial⟩ ⟨oa rfl, trivial⟩⟩
                refine SCode.cond_f rfl g220 ?_
                refine SCode.skip ?_
                exact ⟨next_182, h, sub_gen [0] rfl rfl ⟨zc rfl rfl, zc rfl rfl, zc rfl rfl, zc rfl rfl, zc rfl rfl, zc rfl rfl, zc rfl rfl, zc rfl rfl, trivial⟩ ⟨oa rfl, trivial⟩⟩
              refine SCode.region (show SOps _ _ _ [0, 1, 2, 3, 4, 5, 6, 7, 8, 9, 10, 11, 12, 13, 14, 15, 16, 17, 18, 19, 20, 21, 22, 23, 24, 25, 26, 27, 28, 29, 30] _ _ from ?_)
              refine SOps.q rfl (.plain rfl) rfl (q_move rfl rfl) ?_
              refine SOps.q rfl (.plain rfl) rfl (q_len_own rfl rfl sl44) ?_
              refine SOps.q rfl (.plain rfl) rfl (q_eql rfl rfl rfl) ?_
              refine SOps.q rfl (.plain rfl) rfl (q_move rfl rfl) ?_
              refine SOps.skip rfl 3 29 false rfl rfl (.inl (gT g212)) rfl ?_
              refine SOps.skip rfl 3 29 false rfl rfl (.inl (gT g212)) rfl ?_
              refine SOps.skip rfl 3 29 false rfl rfl (.inl (gT g212)) rfl ?_
              refine SOps.skip rfl 3 29 false rfl rfl (.inl (gT g212)) rfl ?_
              refine SOps.skip rfl 3 29 false rfl rfl (.inl (gT g212)) rfl ?_
              refine SOps.skip rfl 3 29 false rfl rfl (.inl (gT g212)) rfl ?_
              refine SOps.skip rfl 3 29 false rfl rfl (.inl (gT g212)) rfl ?_
              refine SOps.skip rfl 3 29 false rfl rfl (.inl (gT g212)) rfl ?_
              refine SOps.q rfl (.plain rfl) rfl (q_pick_t rfl rfl g212 rfl) ?_
              refine SOps.q rfl (.plain rfl) rfl (q_move rfl rfl) ?_
              refine SOps.q rfl (.guard 13 39 true rfl rfl rfl) rfl (q_move rfl rfl) ?_
              refine SOps.q rfl (.guard 13 39 true rfl rfl rfl) rfl (q_eqlS rfl rfl rfl) ?_
              refine SOps.q rfl (.guard 13 39 true rfl rfl rfl) rfl (q_move rfl rfl) ?_
              refine SOps.q rfl (.guard 16 42 false rfl rfl (gF g213)) rfl (q_move rfl rfl) ?_
              refine SOps.q rfl (.guard 16 42 false rfl rfl (gF g213)) rfl (q_move rfl rfl) ?_
              refine SOps.q rfl (.guard 16 42 false rfl rfl (gF g213)) rfl (q_lssS rfl rfl rfl) ?_
              refine SOps.q rfl (.guard 13 39 true rfl rfl rfl) rfl (q_pick_f rfl rfl g213 rfl) ?_
              refine SOps.q rfl (.plain rfl) rfl (q_pick_t rfl rfl rfl rfl) ?_
              refine SOps.q rfl (.plain rfl) rfl (q_move rfl rfl) ?_
              refine SOps.skip rfl 22 48 true rfl rfl (.inl (gF g217)) rfl ?_
              refine SOps.skip rfl 22 48 true rfl rfl (.inl (gF g217)) rfl ?_
              refine SOps.skip rfl 22 48 true rfl rfl (.inl (gF g217)) rfl ?_
              refine SOps.skip rfl 22 48 true rfl rfl (.inl (gF g217)) rfl ?_
              refine SOps.skip rfl 22 48 true rfl rfl (.inl (gF g217)) rfl ?_
              refine SOps.skip rfl 22 48 true rfl rfl (.inl (gF g217)) rfl ?_
              refine SOps.skip rfl 22 48 true rfl rfl (.inl (gF g217)) rfl ?_
              refine SOps.q rfl (.plain rfl) rfl (q_pick_f rfl rfl g217 rfl) ?_
              refine SOps.sub (st' := ⟨[(0, .c (.vec a0_roles.length 4 (gL cSRole dSRole a0_roles))), (1, .c (.vec a1_grants.length 4 (gL cSGrant dSGrant a1_grants))), (2, .c (.int .i64 a2_action)), (3, .c (.str a3_object)), (4, .c (.int .i64 a4_now)), (11, .c (.own 0 o0_77.length)), (12, .c (.str next_182)), (13, .c (.int .i64 i_183)), (14, .c (.str ((a1_grants.getD i_183.toNat dSGrant).User))), (56, .c (.bool false))], [.arr 9 1 o0_77.length (gL cStr ByteArray.empty o0_77)]⟩) (sub_gen [0] rfl rfl ⟨zc rfl rfl, zc rfl rfl, zc rfl rfl, zc rfl rfl, zc rfl rfl, zc rfl rfl, zc rfl rfl, zc rfl rfl, zc rfl rfl, zc rfl rfl, trivial⟩ ⟨oa rfl, trivial⟩) ?_
              refine SOps.nil ?_
              refine SCode.cond_f rfl rfl ?_
              refine SCode.skip ?_
              exact ⟨next_182, h, sub_gen [0] rfl rfl ⟨zc rfl rfl, zc rfl rfl, zc rfl rfl, zc rfl rfl, zc rfl rfl, zc rfl rfl, zc rfl rfl, zc rfl rfl, trivial⟩ ⟨oa rfl, trivial⟩⟩
            obtain ⟨g221, h⟩ := guard_out h
            rcases cond_out h with ⟨g222, h⟩ | ⟨g222, h⟩
            · rcases cond_out h with ⟨g223, h⟩ | ⟨g223, h⟩
              · obtain ⟨c_224, g225, h⟩ := bind_out h
                try dsimp only at h
                refine SCode.region (show SOps _ _ _ [0, 1, 2, 3, 4, 5, 6, 7, 8, 9, 10, 11, 12, 13, 14, 15, 16, 17, 18, 19, 20, 21, 22, 23, 24, 25, 26, 27, 28, 29, 30] _ _ from ?_)
                refine SOps.q rfl (.plain rfl) rfl (q_move rfl rfl) ?_
                refine SOps.q rfl (.plain rfl) rfl (q_len_own rfl rfl sl44) ?_
                refine SOps.q rfl (.plain rfl) rfl (q_eql rfl rfl rfl) ?_
                refine SOps.q rfl (.plain rfl) rfl (q_move rfl rfl) ?_
                refine SOps.q rfl (.guard 3 29 false rfl rfl (gF g212)) rfl (q_move rfl rfl) ?_
                refine SOps.q rfl (.guard 3 29 false rfl rfl (gF g212)) rfl (q_move rfl rfl) ?_
                refine SOps.q rfl (.guard 3 29 false rfl rfl (gF g212)) rfl (q_move rfl rfl) ?_
                refine SOps.q rfl (.guard 3 29 false rfl rfl (gF g212)) rfl (q_len_own rfl rfl sl44) ?_
                refine SOps.q rfl (.guard 3 29 false rfl rfl (gF g212)) rfl (q_sub rfl rfl rfl) ?_
                refine SOps.q rfl (.guard 3 29 false rfl rfl (gF g212)) rfl (q_index_own rfl rfl rfl sl44 g221.1 g221.2) ?_
                refine SOps.q rfl (.guard 3 29 false rfl rfl (gF g212)) rfl (q_load_aptr rfl rfl rfl (toNat_lt g221) rfl ty9) ?_
                refine SOps.q rfl (.guard 3 29 false rfl rfl (gF g212)) rfl (q_gtrS rfl rfl rfl) ?_
                refine SOps.q rfl (.plain rfl) rfl (q_pick_f rfl rfl g212 rfl) ?_
                refine SOps.q rfl (.plain rfl) rfl (q_move rfl rfl) ?_
                refine SOps.q rfl (.guard 13 39 true rfl rfl (gT g222)) rfl (q_move rfl rfl) ?_
                refine SOps.q rfl (.guard 13 39 true rfl rfl (gT g222)) rfl (q_eqlS rfl rfl rfl) ?_
                refine SOps.q rfl (.guard 13 39 true rfl rfl (gT g222)) rfl (q_move rfl rfl) ?_
                refine SOps.skip rfl 16 42 false rfl rfl (.inl (gT g223)) rfl ?_
                refine SOps.skip rfl 16 42 false rfl rfl (.inl (gT g223)) rfl ?_
                refine SOps.skip rfl 16 42 false rfl rfl (.inl (gT g223)) rfl ?_
                refine SOps.q rfl (.guard 13 39 true rfl rfl (gT g222)) rfl (q_pick_t rfl rfl g223 rfl) ?_
                refine SOps.q rfl (.plain rfl) rfl (q_pick_t rfl rfl g222 rfl) ?_
                refine SOps.q rfl (.plain rfl) rfl (q_move rfl rfl) ?_
                refine SOps.q rfl (.guard 22 48 true rfl rfl rfl) rfl (q_move rfl rfl) ?_
                refine SOps.q rfl (.guard 22 48 true rfl rfl rfl) rfl (q_move rfl rfl) ?_
                refine SOps.q rfl (.guard 22 48 true rfl rfl rfl) rfl (q_move rfl rfl) ?_
                refine SOps.q rfl (.guard 22 48 true rfl rfl rfl) rfl (q_move rfl rfl) ?_
                refine SOps.q rfl (.guard 22 48 true rfl rfl rfl) rfl (q_move rfl rfl) ?_
                refine SOps.q rfl (.guard 22 48 true rfl rfl rfl) rfl (q_move rfl rfl) ?_
                refine SOps.q rfl (.guard 22 48 true rfl rfl rfl) rfl (q_call (chargenetref39_Allowed_ok F a0_roles a1_grants ((a1_grants.getD i_183.toNat dSGrant).User) a2_action a3_object a4_now c_224 g225) [] rfl fn15 ⟨⟨_, rfl, .inl ⟨rfl, rfl⟩⟩, ⟨_, rfl, .inl ⟨rfl, rfl⟩⟩, ⟨_, rfl, .inl ⟨rfl, rfl⟩⟩, ⟨_, rfl, .inl ⟨rfl, rfl⟩⟩, ⟨_, rfl, .inl ⟨rfl, rfl⟩⟩, ⟨_, rfl, .inl ⟨rfl, rfl⟩⟩, trivial⟩ (.inl rfl)) ?_
                refine SOps.q rfl (.plain rfl) rfl (q_pick_t rfl rfl rfl rfl) ?_
                refine SOps.sub (st' := ⟨[(0, .c (.vec a0_roles.length 4 (gL cSRole dSRole a0_roles))), (1, .c (.vec a1_grants.length 4 (gL cSGrant dSGrant a1_grants))), (2, .c (.int .i64 a2_action)), (3, .c (.str a3_object)), (4, .c (.int .i64 a4_now)), (11, .c (.own 0 o0_77.length)), (12, .c (.str next_182)), (13, .c (.int .i64 i_183)), (14, .c (.str ((a1_grants.getD i_183.toNat dSGrant).User))), (56, .c (.bool c_224))], [.arr 9 1 o0_77.length (gL cStr ByteArray.empty o0_77)]⟩) (sub_gen [0] rfl rfl ⟨zc rfl rfl, zc rfl rfl, zc rfl rfl, zc rfl rfl, zc rfl rfl, zc rfl rfl, zc rfl rfl, zc rfl rfl, zc rfl rfl, zc rfl rfl, trivial⟩ ⟨oa rfl, trivial⟩) ?_
                refine SOps.nil ?_
                rcases cond_out h with ⟨g226, h⟩ | ⟨g226, h⟩
                · refine SCode.cond_t rfl g226 ?_
                  refine SCode.region (show SOps _ _ _ [0, 1] _ _ from ?_)
                  refine SOps.q rfl (.plain rfl) rfl (q_move rfl rfl) ?_
                  refine SOps.q rfl (.plain rfl) rfl (q_assign rfl rfl) ?_
                  refine SOps.sub (st' := ⟨[(0, .c (.vec a0_roles.length 4 (gL cSRole dSRole a0_roles))), (1, .c (.vec a1_grants.length 4 (gL cSGrant dSGrant a1_grants))), (2, .c (.int .i64 a2_action)), (3, .c (.str a3_object)), (4, .c (.int .i64 a4_now)), (11, .c (.own 0 o0_77.length)), (12, .c (.str ((a1_grants.getD i_183.toNat dSGrant).User))), (13, .c (.int .i64 i_183))], [.arr 9 1 o0_77.length (gL cStr ByteArray.empty o0_77)]⟩) (sub_gen [0] rfl rfl ⟨zc rfl rfl, zc rfl rfl, zc rfl rfl, zc rfl rfl, zc rfl rfl, zc rfl rfl, zc rfl rfl, zc rfl rfl, trivial⟩ ⟨oa rfl, trivial⟩) ?_
                  refine SOps.nil ?_
                  exact ⟨(a1_grants.getD i_183.toNat dSGrant).User, h, sub_gen [0] rfl rfl ⟨zc rfl rfl, zc rfl rfl, zc rfl rfl, zc rfl rfl, zc rfl rfl, zc rfl rfl, zc rfl rfl, zc rfl rfl, trivial⟩ ⟨oa rfl, trivial⟩⟩
                refine SCode.cond_f rfl g226 ?_
                refine SCode.skip ?_
                exact ⟨next_182, h, sub_gen [0] rfl rfl ⟨zc rfl rfl, zc rfl rfl, zc rfl rfl, zc rfl rfl, zc rfl rfl, zc rfl rfl, zc rfl rfl, zc rfl rfl, trivial⟩ ⟨oa rfl, trivial⟩⟩
              rcases cond_out h with ⟨g227, h⟩ | ⟨g227, h⟩
              · obtain ⟨c_228, g229, h⟩ := bind_out h
                try dsimp only at h
                refine SCode.region (show SOps _ _ _ [0, 1, 2, 3, 4, 5, 6, 7, 8, 9, 10, 11, 12, 13, 14, 15, 16, 17, 18, 19, 20, 21, 22, 23, 24, 25, 26, 27, 28, 29, 30] _ _ from ?_)
                refine SOps.q rfl (.plain rfl) rfl (q_move rfl rfl) ?_
                refine SOps.q rfl (.plain rfl) rfl (q_len_own rfl rfl sl44) ?_
                refine SOps.q rfl (.plain rfl) rfl (q_eql rfl rfl rfl) ?_
                refine SOps.q rfl (.plain rfl) rfl (q_move rfl rfl) ?_
                refine SOps.q rfl (.guard 3 29 false rfl rfl (gF g212)) rfl (q_move rfl rfl) ?_
                refine SOps.q rfl (.guard 3 29 false rfl rfl (gF g212)) rfl (q_move rfl rfl) ?_
                refine SOps.q rfl (.guard 3 29 false rfl rfl (gF g212)) rfl (q_move rfl rfl) ?_
                refine SOps.q rfl (.guard 3 29 false rfl rfl (gF g212)) rfl (q_len_own rfl rfl sl44) ?_
                refine SOps.q rfl (.guard 3 29 false rfl rfl (gF g212)) rfl (q_sub rfl rfl rfl) ?_
                refine SOps.q rfl (.guard 3 29 false rfl rfl (gF g212)) rfl (q_index_own rfl rfl rfl sl44 g221.1 g221.2) ?_
                refine SOps.q rfl (.guard 3 29 false rfl rfl (gF g212)) rfl (q_load_aptr rfl rfl rfl (toNat_lt g221) rfl ty9) ?_
                refine SOps.q rfl (.guard 3 29 false rfl rfl (gF g212)) rfl (q_gtrS rfl rfl rfl) ?_
                refine SOps.q rfl (.plain rfl) rfl (q_pick_f rfl rfl g212 rfl) ?_
                refine SOps.q rfl (.plain rfl) rfl (q_move rfl rfl) ?_
                refine SOps.q rfl (.guard 13 39 true rfl rfl (gT g222)) rfl (q_move rfl rfl) ?_
                refine SOps.q rfl (.guard 13 39 true rfl rfl (gT g222)) rfl (q_eqlS rfl rfl rfl) ?_
                refine SOps.q rfl (.guard 13 39 true rfl rfl (gT g222)) rfl (q_move rfl rfl) ?_
                refine SOps.q rfl (.guard 16 42 false rfl rfl (gF g223)) rfl (q_move rfl rfl) ?_
                refine SOps.q rfl (.guard 16 42 false rfl rfl (gF g223)) rfl (q_move rfl rfl) ?_
                refine SOps.q rfl (.guard 16 42 false rfl rfl (gF g223)) rfl (q_lssS rfl rfl rfl) ?_
                refine SOps.q rfl (.guard 13 39 true rfl rfl (gT g222)) rfl (q_pick_f rfl rfl g223 rfl) ?_
                refine SOps.q rfl (.plain rfl) rfl (q_pick_t rfl rfl g222 rfl) ?_
                refine SOps.q rfl (.plain rfl) rfl (q_move rfl rfl) ?_
                refine SOps.q rfl (.guard 22 48 true rfl rfl (gT g227)) rfl (q_move rfl rfl) ?_
                refine SOps.q rfl (.guard 22 48 true rfl rfl (gT g227)) rfl (q_move rfl rfl) ?_
                refine SOps.q rfl (.guard 22 48 true rfl rfl (gT g227)) rfl (q_move rfl rfl) ?_
                refine SOps.q rfl (.guard 22 48 true rfl rfl (gT g227)) rfl (q_move rfl rfl) ?_
                refine SOps.q rfl (.guard 22 48 true rfl rfl (gT g227)) rfl (q_move rfl rfl) ?_
                refine SOps.q rfl (.guard 22 48 true rfl rfl (gT g227)) rfl (q_move rfl rfl) ?_
                refine SOps.q rfl (.guard 22 48 true rfl rfl (gT g227)) rfl (q_call (chargenetref39_Allowed_ok F a0_roles a1_grants ((a1_grants.getD i_183.toNat dSGrant).User) a2_action a3_object a4_now c_228 g229) [] rfl fn15 ⟨⟨_, rfl, .inl ⟨rfl, rfl⟩⟩, ⟨_, rfl, .inl ⟨rfl, rfl⟩⟩, ⟨_, rfl, .inl ⟨rfl, rfl⟩⟩, ⟨_, rfl, .inl ⟨rfl, rfl⟩⟩, ⟨_, rfl, .inl ⟨rfl, rfl⟩⟩, ⟨_, rfl, .inl ⟨rfl, rfl⟩⟩, trivial⟩ (.inl rfl)) ?_
                refine SOps.q rfl (.plain rfl) rfl (q_pick_t rfl rfl g227 rfl) ?_
                refine SOps.sub (st' := ⟨[(0, .c (.vec a0_roles.length 4 (gL cSRole dSRole a0_roles))), (1, .c (.vec a1_grants.length 4 (gL cSGrant dSGrant a1_grants))), (2, .c (.int .i64 a2_action)), (3, .c (.str a3_object)), (4, .c (.int .i64 a4_now)), (11, .c (.own 0 o0_77.length)), (12, .c (.str next_182)), (13, .c (.int .i64 i_183)), (14, .c (.str ((a1_grants.getD i_183.toNat dSGrant).User))), (56, .c (.bool c_228))], [.arr 9 1 o0_77.length (gL cStr ByteArray.empty o0_77)]⟩) (sub_gen [0] rfl rfl ⟨zc rfl rfl, zc rfl rfl, zc rfl rfl, zc rfl rfl, zc rfl rfl, zc rfl rfl, zc rfl rfl, zc rfl rfl, zc rfl rfl, zc rfl rfl, trivial⟩ ⟨oa rfl, trivial⟩) ?_
                refine SOps.nil ?_
                rcases cond_out h with ⟨g230, h⟩ | ⟨g230, h⟩
                · refine SCode.cond_t rfl g230 ?_
                  refine SCode.region (show SOps _ _ _ [0, 1] _ _ from ?_)
                  refine SOps.q rfl (.plain rfl) rfl (q_move rfl rfl) ?_
                  refine SOps.q rfl (.plain rfl) rfl (q_assign rfl rfl) ?_
                  refine SOps.sub (st' := ⟨[(0, .c (.vec a0_roles.length 4 (gL cSRole dSRole a0_roles))), (1, .c (.vec a1_grants.length 4 (gL cSGrant dSGrant a1_grants))), (2, .c (.int .i64 a2_action)), (3, .c (.str a3_object)), (4, .c (.int .i64 a4_now)), (11, .c (.own 0 o0_77.length)), (12, .c (.str ((a1_grants.getD i_183.toNat dSGrant).User))), (13, .c (.int .i64 i_183))], [.arr 9 1 o0_77.length (gL cStr ByteArray.empty o0_77)]⟩) (sub_gen [0] rfl rfl ⟨zc rfl rfl, zc rfl rfl, zc rfl rfl, zc rfl rfl, zc rfl rfl, zc rfl rfl, zc rfl rfl, zc rfl rfl, trivial⟩ ⟨oa rfl, trivial⟩) ?_
                  refine SOps.nil ?_
                  exact ⟨(a1_grants.getD i_183.toNat dSGrant).User, h, sub_gen [0] rfl rfl ⟨zc rfl rfl, zc rfl rfl, zc rfl rfl, zc rfl rfl, zc rfl rfl, zc rfl rfl, zc rfl rfl, zc rfl rfl, trivial⟩ ⟨oa rfl, trivial⟩⟩
                refine SCode.cond_f rfl g230 ?_
                refine SCode.skip ?_
                exact ⟨next_182, h, sub_gen [0] rfl rfl ⟨zc rfl rfl, zc rfl rfl, zc rfl rfl, zc rfl rfl, zc rfl rfl, zc rfl rfl, zc rfl rfl, zc rfl rfl, trivial⟩ ⟨oa rfl, trivial⟩⟩
              refine SCode.region (show SOps _ _ _ [0, 1, 2, 3, 4, 5, 6, 7, 8, 9, 10, 11, 12, 13, 14, 15, 16, 17, 18, 19, 20, 21, 22, 23, 24, 25, 26, 27, 28, 29, 30] _ _ from ?_)
              refine SOps.q rfl (.plain rfl) rfl (q_move rfl rfl) ?_
              refine SOps.q rfl (.plain rfl) rfl (q_len_own rfl rfl sl44) ?_
              refine SOps.q rfl (.plain rfl) rfl (q_eql rfl rfl rfl) ?_
              refine SOps.q rfl (.plain rfl) rfl (q_move rfl rfl) ?_
              refine SOps.q rfl (.guard 3 29 false rfl rfl (gF g212)) rfl (q_move rfl rfl) ?_
              refine SOps.q rfl (.guard 3 29 false rfl rfl (gF g212)) rfl (q_move rfl rfl) ?_
              refine SOps.q rfl (.guard 3 29 false rfl rfl (gF g212)) rfl (q_move rfl rfl) ?_
              refine SOps.q rfl (.guard 3 29 false rfl rfl (gF g212)) rfl (q_len_own rfl rfl sl44) ?_
              refine SOps.q rfl (.guard 3 29 false rfl rfl (gF g212)) rfl (q_sub rfl rfl rfl) ?_
              refine SOps.q rfl (.guard 3 29 false rfl rfl (gF g212)) rfl (q_index_own rfl rfl rfl sl44 g221.1 g221.2) ?_
              refine SOps.q rfl (.guard 3 29 false rfl rfl (gF g212)) rfl (q_load_aptr rfl rfl rfl (toNat_lt g221) rfl ty9) ?_
              refine SOps.q rfl (.guard 3 29 false rfl rfl (gF g212)) rfl (q_gtrS rfl rfl rfl) ?_
              refine SOps.q rfl (.plain rfl) rfl (q_pick_f rfl rfl g212 rfl) ?_
              refine SOps.q rfl (.plain rfl) rfl (q_move rfl rfl) ?_
              refine SOps.q rfl (.guard 13 39 true rfl rfl (gT g222)) rfl (q_move rfl rfl) ?_
              refine SOps.q rfl (.guard 13 39 true rfl rfl (gT g222)) rfl (q_eqlS rfl rfl rfl) ?_
              refine SOps.q rfl (.guard 13 39 true rfl rfl (gT g222)) rfl (q_move rfl rfl) ?_
              refine SOps.q rfl (.guard 16 42 false rfl rfl (gF g223)) rfl (q_move rfl rfl) ?_
              refine SOps.q rfl (.guard 16 42 false rfl rfl (gF g223)) rfl (q_move rfl rfl) ?_
              refine SOps.q rfl (.guard 16 42 false rfl rfl (gF g223)) rfl (q_lssS rfl rfl rfl) ?_
              refine SOps.q rfl (.guard 13 39 true rfl rfl (gT g222)) rfl (q_pick_f rfl rfl g223 rfl) ?_
              refine SOps.q rfl (.plain rfl) rfl (q_pick_t rfl rfl g222 rfl) ?_
              refine SOps.q rfl (.plain rfl) rfl (q_move rfl rfl) ?_
              refine SOps.skip rfl 22 48 true rfl rfl (.inl (gF g227)) rfl ?_
              refine SOps.skip rfl 22 48 true rfl rfl (.inl (gF g227)) rfl ?_
              refine SOps.skip rfl 22 48 true rfl rfl (.inl (gF g227)) rfl ?_
              refine SOps.skip rfl 22 48 true rfl rfl (.inl (gF g227)) rfl ?_
              refine SOps.skip rfl 22 48 true rfl rfl (.inl (gF g227)) rfl ?_
              refine SOps.skip rfl 22 48 true rfl rfl (.inl (gF g227)) rfl ?_
              refine SOps.skip rfl 22 48 true rfl rfl (.inl (gF g227)) rfl ?_
              refine SOps.q rfl (.plain rfl) rfl (q_pick_f rfl rfl g227 rfl) ?_
              refine SOps.sub (st' := ⟨[(0, .c (.vec a0_roles.length 4 (gL cSRole dSRole a0_roles))), (1, .c (.vec a1_grants.length 4 (gL cSGrant dSGrant a1_grants))), (2, .c (.int .i64 a2_action)), (3, .c (.str a3_object)), (4, .c (.int .i64 a4_now)), (11, .c (.own 0 o0_77.length)), (12, .c (.str next_182)), (13, .c (.int .i64 i_183)), (14, .c (.str ((a1_grants.getD i_183.toNat dSGrant).User))), (56, .c (.bool false))], [.arr 9 1 o0_77.length (gL cStr ByteArray.empty o0_77)]⟩) (sub_gen [0] rfl rfl ⟨zc rfl rfl, zc rfl rfl, zc rfl rfl, zc rfl rfl, zc rfl rfl, zc rfl rfl, zc rfl rfl, zc rfl rfl, zc rfl rfl, zc rfl rfl, trivial⟩ ⟨oa rfl, trivial⟩) ?_
              refine SOps.nil ?_
              refine SCode.cond_f rfl rfl ?_
              refine SCode.skip ?_
              exact ⟨next_182, h, sub_gen [0] rfl rfl ⟨zc rfl rfl, zc rfl rfl, zc rfl rfl, zc rfl rfl, zc rfl rfl, zc rfl rfl, zc rfl rfl, zc rfl rfl, trivial⟩ ⟨oa rfl, trivial⟩⟩
            refine SCode.region (show SOps _ _ _ [0, 1, 2, 3, 4, 5, 6, 7, 8, 9, 10, 11, 12, 13, 14, 15, 16, 17, 18, 19, 20, 21, 22, 23, 24, 25, 26, 27, 28, 29, 30] _ _ from ?_)
            refine SOps.q rfl (.plain rfl) rfl (q_move rfl rfl) ?_
            refine SOps.q rfl (.plain rfl) rfl (q_len_own rfl rfl sl44) ?_
            refine SOps.q rfl (.plain rfl) rfl (q_eql rfl rfl rfl) ?_
            refine SOps.q rfl (.plain rfl) rfl (q_move rfl rfl) ?_
            refine SOps.q rfl (.guard 3 29 false rfl rfl (gF g212)) rfl (q_move rfl rfl) ?_
            refine SOps.q rfl (.guard 3 29 false rfl rfl (gF g212)) rfl (q_move rfl rfl) ?_
            refine SOps.q rfl (.guard 3 29 false rfl rfl (gF g212)) rfl (q_move rfl rfl) ?_
            refine SOps.q rfl (.guard 3 29 false rfl rfl (gF g212)) rfl (q_len_own rfl rfl sl44) ?_
            refine SOps.q rfl (.guard 3 29 false rfl rfl (gF g212)) rfl (q_sub rfl rfl rfl) ?_
            refine SOps.q rfl (.guard 3 29 false rfl rfl (gF g212)) rfl (q_index_own rfl rfl rfl sl44 g221.1 g221.2) ?_
            refine SOps.q rfl (.guard 3 29 false rfl rfl (gF g212)) rfl (q_load_aptr rfl rfl rfl (toNat_lt g221) rfl ty9) ?_
            refine SOps.q rfl (.guard 3 29 false rfl rfl (gF g212)) rfl (q_gtrS rfl rfl rfl) ?_
            refine SOps.q rfl (.plain rfl) rfl (q_pick_f rfl rfl g212 rfl) ?_
            refine SOps.q rfl (.plain rfl) rfl (q_move rfl rfl) ?_
            refine SOps.skip rfl 13 39 true rfl rfl (.inl (gF g222)) rfl ?_
            refine SOps.skip rfl 13 39 true rfl rfl (.inl (gF g222)) rfl ?_
            refine SOps.skip rfl 13 39 true rfl rfl (.inl (gF g222)) rfl ?_
            refine SOps.skip rfl 16 42 false rfl rfl (.inr rfl) rfl ?_
            refine SOps.skip rfl 16 42 false rfl rfl (.inr rfl) rfl ?_
            refine SOps.skip rfl 16 42 false rfl rfl (.inr rfl) rfl ?_
            refine SOps.skip rfl 13 39 true rfl rfl (.inl (gF g222)) rfl ?_
            refine SOps.q rfl (.plain rfl) rfl (q_pick_f rfl rfl g222 rfl) ?_
            refine SOps.q rfl (.plain rfl) rfl (q_move rfl rfl) ?_
            refine SOps.skip rfl 22 48 true rfl rfl (.inl rfl) rfl ?_
            refine SOps.skip rfl 22 48 true rfl rfl (.inl rfl) rfl ?_
            refine SOps.skip rfl 22 48 true rfl rfl (.inl rfl) rfl ?_
            refine SOps.skip rfl 22 48 true rfl rfl (.inl rfl) rfl ?_
            refine SOps.skip rfl 22 48 true rfl rfl (.inl rfl) rfl ?_
            refine SOps.skip rfl 22 48 true rfl rfl (.inl rfl) rfl ?_
            refine SOps.skip rfl 22 48 true rfl rfl (.inl rfl) rfl ?_
            refine SOps.q rfl (.plain rfl) rfl (q_pick_f rfl rfl rfl rfl) ?_
            refine SOps.sub (st' := ⟨[(0, .c (.vec a0_roles.length 4 (gL cSRole dSRole a0_roles))), (1, .c (.vec a1_grants.length 4 (gL cSGrant dSGrant a1_grants))), (2, .c (.int .i64 a2_action)), (3, .c (.str a3_object)), (4, .c (.int .i64 a4_now)), (11, .c (.own 0 o0_77.length)), (12, .c (.str next_182)), (13, .c (.int .i64 i_183)), (14, .c (.str ((a1_grants.getD i_183.toNat dSGrant).User))), (56, .c (.bool false))], [.arr 9 1 o0_77.length (gL cStr ByteArray.empty o0_77)]⟩) (sub_gen [0] rfl rfl ⟨zc rfl rfl, zc rfl rfl, zc rfl rfl, zc rfl rfl, zc rfl rfl, zc rfl rfl, zc rfl rfl, zc rfl rfl, zc rfl rfl, zc rfl rfl, trivial⟩ ⟨oa rfl, trivial⟩) ?_
            refine SOps.nil ?_
            refine SCode.cond_f rfl rfl ?_
            refine SCode.skip ?_
            exact ⟨next_182, h, sub_gen [0] rfl rfl ⟨zc rfl rfl, zc rfl rfl, zc rfl rfl, zc rfl rfl, zc rfl rfl, zc rfl rfl, zc rfl rfl, zc rfl rfl, trivial⟩ ⟨oa rfl, trivial⟩⟩
          rintro next_209 h
          show SCode _ _ _ ⟨[(0, .c (.vec a0_roles.length 4 (gL cSRole dSRole a0_roles))), (1, .c (.vec a1_grants.length 4 (gL cSGrant dSGrant a1_grants))), (2, .c (.int .i64 a2_action)), (3, .c (.str a3_object)), (4, .c (.int .i64 a4_now)), (11, .c (.own 0 o0_77.length)), (12, .c (.str next_209)), (13, .c (.int .i64 i_183))], [.arr 9 1 o0_77.length (gL cStr ByteArray.empty o0_77)]⟩ _
          replace h : chargenetref39_Users_p210 i_183 (fun next_182 i_183 => chargenetref39_Users_l207 F a0_roles a1_grants a2_action a3_object a4_now o0_77 (fun o0_77 => chargenetref39_Users_l154 F a0_roles a1_grants a2_action a3_object a4_now n_154 o0_77) n_207 next_182 i_183) next_209 = some r := h
          unfold chargenetref39_Users_p210 at h
          refine SCode.region (show SOps _ _ _ [0, 1, 2] _ _ from ?_)
          refine SOps.q rfl (.plain rfl) rfl (q_move rfl rfl) ?_
          refine SOps.q rfl (.plain rfl) rfl (q_add rfl rfl rfl) ?_
          refine SOps.q rfl (.plain rfl) rfl (q_assign rfl rfl) ?_
          refine SOps.sub (st' := ⟨[(0, .c (.vec a0_roles.length 4 (gL cSRole dSRole a0_roles))), (1, .c (.vec a1_grants.length 4 (gL cSGrant dSGrant a1_grants))), (2, .c (.int .i64 a2_action)), (3, .c (.str a3_object)), (4, .c (.int .i64 a4_now)), (11, .c (.own 0 o0_77.length)), (12, .c (.str next_209)), (13, .c (.int .i64 (IntKind.wrap .i64 (i_183 + 1))))], [.arr 9 1 o0_77.length (gL cStr ByteArray.empty o0_77)]⟩) (sub_gen [0] rfl rfl ⟨zc rfl rfl, zc rfl rfl, zc rfl rfl, zc rfl rfl, zc rfl rfl, zc rfl rfl, zc rfl rfl, zc rfl rfl, trivial⟩ ⟨oa rfl, trivial⟩) ?_
          refine SOps.nil ?_
          exact ⟨(n_207, (next_209, IntKind.wrap .i64 (i_183 + 1))), h, Nat.lt_succ_self n_207, sub_gen [0] rfl rfl ⟨zc rfl rfl, zc rfl rfl, zc rfl rfl, zc rfl rfl, zc rfl rfl, zc rfl rfl, zc rfl rfl, zc rfl rfl, trivial⟩ ⟨oa rfl, trivial⟩⟩
        refine SCode.cond_f rfl g208 ?_
        refine SCode.exit ?_
        exact ⟨next_182, h, sub_gen [0] rfl rfl ⟨zc rfl rfl, zc rfl rfl, zc rfl rfl, zc rfl rfl, zc rfl rfl, zc rfl rfl, zc rfl rfl, trivial⟩ ⟨oa rfl, trivial⟩⟩
    rintro next_155 h
    show SCode _ _ _ ⟨[(0, .c (.vec a0_roles.length 4 (gL cSRole dSRole a0_roles))), (1, .c (.vec a1_grants.length 4 (gL cSGrant dSGrant a1_grants))), (2, .c (.int .i64 a2_action)), (3, .c (.str a3_object)), (4, .c (.int .i64 a4_now)), (11, .c (.own 0 o0_77.length)), (12, .c (.str next_155))], [.arr 9 1 o0_77.length (gL cStr ByteArray.empty o0_77)]⟩ _
    replace h : chargenetref39_Users_p158 o0_77 (fun o0_77 => chargenetref39_Users_l154 F a0_roles a1_grants a2_action a3_object a4_now n_154 o0_77) next_155 = some r := h
    unfold chargenetref39_Users_p158 at h
    refine SCode.seq ?_
    refine SCode.seq ?_
    refine SCode.region (show SOps _ _ _ [0, 1] _ _ from ?_)
    refine SOps.q rfl (.plain rfl) rfl (q_move rfl rfl) ?_
    refine SOps.q rfl (.plain rfl) rfl (q_eqlS rfl rfl rfl) ?_
    refine SOps.sub (st' := ⟨[(0, .c (.vec a0_roles.length 4 (gL cSRole dSRole a0_roles))), (1, .c (.vec a1_grants.length 4 (gL cSGrant dSGrant a1_grants))), (2, .c (.int .i64 a2_action)), (3, .c (.str a3_object)), (4, .c (.int .i64 a4_now)), (11, .c (.own 0 o0_77.length)), (12, .c (.str next_155)), (59, .c (.bool (sEq next_155 ByteArray.empty)))], [.arr 9 1 o0_77.length (gL cStr ByteArray.empty o0_77)]⟩) (sub_gen [0] rfl rfl ⟨zc rfl rfl, zc rfl rfl, zc rfl rfl, zc rfl rfl, zc rfl rfl, zc rfl rfl, zc rfl rfl, zc rfl rfl, trivial⟩ ⟨oa rfl, trivial⟩) ?_
    refine SOps.nil ?_
    rcases cond_out h with ⟨g156, h⟩ | ⟨g156, h⟩
    · refine SCode.cond_t rfl g156 ?_
      refine SCode.seq ?_
      refine SCode.region (show SOps _ _ _ [0, 1] _ _ from ?_)
      refine SOps.q rfl (.plain rfl) rfl (q_move rfl rfl) ?_
      refine SOps.q rfl (.plain rfl) rfl (q_assign rfl rfl) ?_
      refine SOps.sub (st' := ⟨[(10, .c (.own 0 o0_77.length))], [.arr 9 1 o0_77.length (gL cStr ByteArray.empty o0_77)]⟩) (sub_gen [0] rfl rfl ⟨zc rfl rfl, trivial⟩ ⟨oa rfl, trivial⟩) ?_
      refine SOps.nil ?_
      refine SCode.ret ?_
      obtain rfl := Option.some.inj h
      exact ⟨⟨[(10, .c (.vec o0_77.length 1 (gL cStr ByteArray.empty o0_77)))], []⟩, _, sub_gen [] rfl rfl ⟨⟨_, rfl, .inr (.inl ⟨_, _, _, _, _, _, _, rfl, rfl, rfl, Nat.le_refl _, fun _ _ _ _ => rfl, by decide⟩)⟩, trivial⟩ trivial, resA1 (v := .c (.vec o0_77.length 1 (gL cStr ByteArray.empty o0_77))) rfl rfl, rfl⟩
    refine SCode.cond_f rfl g156 ?_
    refine SCode.skip ?_
    obtain ⟨g157, h⟩ := guard_out h
    refine SCode.region (show SOps _ _ _ [0, 1, 2, 3, 4] _ _ from ?_)
    refine SOps.q rfl (.plain rfl) rfl (q_move rfl rfl) ?_
    refine SOps.q rfl (.plain rfl) rfl (q_move rfl rfl) ?_
    refine SOps.q rfl (.plain rfl) rfl (q_bsliceL (c := cStr) (d0 := ByteArray.empty) [next_155] rfl rfl sl44 z9 rfl rfl rfl rfl rfl rfl rfl) ?_
    refine SOps.e rfl (.plain rfl) (e_appendL (c := cStr) (d0 := ByteArray.empty) (l := o0_77) (l2 := [next_155]) rfl rfl rfl rfl rfl rfl (.inl rfl) sl44 z9 rfl rfl oneStr g157.1 g157.2) ?_
    refine SOps.q rfl (.plain rfl) rfl (q_assign rfl rfl) ?_
    refine SOps.sub (st' := ⟨[(0, .c (.vec a0_roles.length 4 (gL cSRole dSRole a0_roles))), (1, .c (.vec a1_grants.length 4 (gL cSGrant dSGrant a1_grants))), (2, .c (.int .i64 a2_action)), (3, .c (.str a3_object)), (4, .c (.int .i64 a4_now)), (11, .c (.own 0 (o0_77 ++ ([next_155])).length))], [.arr 9 1 (o0_77 ++ ([next_155])).length (gL cStr ByteArray.empty (o0_77 ++ ([next_155])))]⟩) (sub_gen [1] rfl rfl ⟨zc rfl rfl, zc rfl rfl, zc rfl rfl, zc rfl rfl, zc rfl rfl, zc rfl rfl, trivial⟩ ⟨oa rfl, trivial⟩) ?_
    refine SOps.nil ?_
    exact ⟨(n_154, o0_77 ++ ([next_155])), h, Nat.lt_succ_self n_154, sub_gen [0] rfl rfl ⟨zc rfl rfl, zc rfl rfl, zc rfl rfl, zc rfl rfl, zc rfl rfl, zc rfl rfl, trivial⟩ ⟨oa rfl, trivial⟩⟩
end Go.Proofs.Ytggfgdohbeoabaa.W
