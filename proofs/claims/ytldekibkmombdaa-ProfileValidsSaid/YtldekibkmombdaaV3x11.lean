/- Written by a program of ours (wip/eng/gen.py): the functions compute their models. -/
import Derived.Test.YtldekibkmombdaaFacts
import Derived.Test.YtldekibkmombdaaV3x10
namespace Go.Proofs.Ytldekibkmombdaa.W
open Go Go.Proofs Go.Proofs.Ytldekibkmombdaa.E Go.Proofs.Ytldekibkmombdaa.M
set_option linter.unusedVariables false
set_option maxHeartbeats 8000000 in
theorem chargenetlaw15_ProfileValids_ok (F : Nat) (a0_p : SProfile) (r : Bool) (h : chargenetlaw15_ProfileValids F a0_p = some r) :
    SFun Try.prog 3 [] [.a [.int .i64 a0_p.ID, .int .i64 a0_p.Level, .int .i64 a0_p.Purpose, .int .i64 a0_p.Kind, .int .i64 a0_p.Conn, .str a0_p.Txn, .int .i64 a0_p.Span_From, .int .i64 a0_p.Span_To, .int .i64 a0_p.Start, .int .i64 a0_p.Duration, .vec a0_p.Periods.length 2 (gL cSPeriod dSPeriod a0_p.Periods)]] (fun x _ => x = .c (.bool r)) := by
  refine SFun.of (n := 22) Try.func3 rfl rfl rfl ?_
  unfold chargenetlaw15_ProfileValids at h
  show SCode _ _ _ ⟨[(0, .a [.int .i64 a0_p.ID, .int .i64 a0_p.Level, .int .i64 a0_p.Purpose, .int .i64 a0_p.Kind, .int .i64 a0_p.Conn, .str a0_p.Txn, .int .i64 a0_p.Span_From, .int .i64 a0_p.Span_To, .int .i64 a0_p.Start, .int .i64 a0_p.Duration, .vec a0_p.Periods.length 2 (gL cSPeriod dSPeriod a0_p.Periods)])], []⟩ _
  refine SCode.seq ?_
  refine SCode.region (show SOps _ _ _ [0, 1] _ _ from ?_)
  refine SOps.e rfl (.plain rfl) (e_box rfl rfl rfl rfl rfl rfl) ?_
  refine SOps.q rfl (.plain rfl) rfl (q_assign rfl rfl) ?_
  refine SOps.sub (st' := ⟨[(1, .c (.ptr 0 0))], [.box [.int .i64 a0_p.ID, .int .i64 a0_p.Level, .int .i64 a0_p.Purpose, .int .i64 a0_p.Kind, .int .i64 a0_p.Conn, .str a0_p.Txn, .int .i64 a0_p.Span_From, .int .i64 a0_p.Span_To, .int .i64 a0_p.Start, .int .i64 a0_p.Duration, .vec a0_p.Periods.length 2 (gL cSPeriod dSPeriod a0_p.Periods)]]⟩) (sub_gen [0] rfl rfl ⟨⟨_, rfl, .inl ⟨rfl, rfl⟩⟩, trivial⟩ ⟨⟨_, rfl, ⟨.inl ⟨rfl, rfl⟩, .inl ⟨rfl, rfl⟩, .inl ⟨rfl, rfl⟩, .inl ⟨rfl, rfl⟩, .inl ⟨rfl, rfl⟩, .inl ⟨rfl, rfl⟩, .inl ⟨rfl, rfl⟩, .inl ⟨rfl, rfl⟩, .inl ⟨rfl, rfl⟩, .inl ⟨rfl, rfl⟩, .inl ⟨rfl, rfl⟩, trivial⟩⟩, trivial⟩) ?_
  refine SOps.nil ?_
  refine SCode.seq ?_
  refine SCode.seq ?_
  rcases cond_out h with ⟨g1, h⟩ | ⟨g1, h⟩
  · refine SCode.region (show SOps _ _ _ [0, 1, 2, 3, 4, 5, 6, 7, 8, 9] _ _ from ?_)
    refine SOps.q rfl (.plain rfl) rfl (q_field_ptr rfl rfl fd26_5) ?_
    refine SOps.q rfl (.plain rfl) rfl (q_load_ptr rfl rfl rfl rfl ty9) ?_
    refine SOps.q rfl (.plain rfl) rfl (q_len_str rfl rfl un9) ?_
    refine SOps.q rfl (.plain rfl) rfl (q_gtr rfl rfl rfl) ?_
    refine SOps.q rfl (.plain rfl) rfl (q_move rfl rfl) ?_
    refine SOps.skip rfl 4 7 false rfl rfl (.inl (gT g1)) rfl ?_
    refine SOps.skip rfl 4 7 false rfl rfl (.inl (gT g1)) rfl ?_
    refine SOps.skip rfl 4 7 false rfl rfl (.inl (gT g1)) rfl ?_
    refine SOps.skip rfl 4 7 false rfl rfl (.inl (gT g1)) rfl ?_
    refine SOps.q rfl (.plain rfl) rfl (q_pick_t rfl rfl g1 rfl) ?_
    refine SOps.sub (st' := ⟨[(1, .c (.ptr 0 0)), (12, .c (.bool true))], [.box [.int .i64 a0_p.ID, .int .i64 a0_p.Level, .int .i64 a0_p.Purpose, .int .i64 a0_p.Kind, .int .i64 a0_p.Conn, .str a0_p.Txn, .int .i64 a0_p.Span_From, .int .i64 a0_p.Span_To, .int .i64 a0_p.Start, .int .i64 a0_p.Duration, .vec a0_p.Periods.length 2 (gL cSPeriod dSPeriod a0_p.Periods)]]⟩) (sub_gen [0] rfl rfl ⟨⟨_, rfl, .inl ⟨rfl, rfl⟩⟩, ⟨_, rfl, .inl ⟨rfl, rfl⟩⟩, trivial⟩ ⟨⟨_, rfl, ⟨.inl ⟨rfl, rfl⟩, .inl ⟨rfl, rfl⟩, .inl ⟨rfl, rfl⟩, .inl ⟨rfl, rfl⟩, .inl ⟨rfl, rfl⟩, .inl ⟨rfl, rfl⟩, .inl ⟨rfl, rfl⟩, .inl ⟨rfl, rfl⟩, .inl ⟨rfl, rfl⟩, .inl ⟨rfl, rfl⟩, .inl ⟨rfl, rfl⟩, trivial⟩⟩, trivial⟩) ?_
    refine SOps.nil ?_
    refine SCode.cond_t rfl rfl ?_
    refine SCode.seq ?_
    obtain ⟨c_2, g3, h⟩ := bind_out h
    try dsimp only at h
    refine SCode.region (show SOps _ _ _ [0, 1] _ _ from ?_)
    refine SOps.q rfl (.plain rfl) rfl (q_call (chargenetlaw15_awake_ok F  c_2 g3) [] rfl fn11 trivial (.inl rfl)) ?_
    refine SOps.q rfl (.plain rfl) rfl (q_assign rfl rfl) ?_
    refine SOps.sub (st' := ⟨[(2, .c (.bool c_2))], []⟩) (sub_gen [] rfl rfl ⟨⟨_, rfl, .inl ⟨rfl, rfl⟩⟩, trivial⟩ trivial) ?_
    refine SOps.nil ?_
    refine SCode.ret ?_
    obtain rfl := Option.some.inj h
    exact ⟨⟨[(2, .c (.bool c_2))], []⟩, _, sub_gen [] rfl rfl ⟨⟨_, rfl, .inl ⟨rfl, rfl⟩⟩, trivial⟩ trivial, resA1 (v := .c (.bool c_2)) rfl rfl, rfl⟩
  · refine SCode.region (show SOps _ _ _ [0, 1, 2, 3, 4, 5, 6, 7, 8, 9] _ _ from ?_)
    refine SOps.q rfl (.plain rfl) rfl (q_field_ptr rfl rfl fd26_5) ?_
    refine SOps.q rfl (.plain rfl) rfl (q_load_ptr rfl rfl rfl rfl ty9) ?_
    refine SOps.q rfl (.plain rfl) rfl (q_len_str rfl rfl un9) ?_
    refine SOps.q rfl (.plain rfl) rfl (q_gtr rfl rfl rfl) ?_
    refine SOps.q rfl (.plain rfl) rfl (q_move rfl rfl) ?_
    refine SOps.q rfl (.guard 4 7 false rfl rfl (gF g1)) rfl (q_field_ptr rfl rfl fd26_9) ?_
    refine SOps.q rfl (.guard 4 7 false rfl rfl (gF g1)) rfl (q_load_ptr rfl rfl rfl rfl ty24) ?_
    refine SOps.q rfl (.guard 4 7 false rfl rfl (gF g1)) rfl (q_len_vec rfl rfl sl24) ?_
    refine SOps.q rfl (.guard 4 7 false rfl rfl (gF g1)) rfl (q_gtr rfl rfl rfl) ?_
    refine SOps.q rfl (.plain rfl) rfl (q_pick_f rfl rfl g1 rfl) ?_
    refine SOps.sub (st' := ⟨[(1, .c (.ptr 0 0)), (12, .c (.bool (decide (30 < ((a0_p.Periods).length : Int)))))], [.box [.int .i64 a0_p.ID, .int .i64 a0_p.Level, .int .i64 a0_p.Purpose, .int .i64 a0_p.Kind, .int .i64 a0_p.Conn, .str a0_p.Txn, .int .i64 a0_p.Span_From, .int .i64 a0_p.Span_To, .int .i64 a0_p.Start, .int .i64 a0_p.Duration, .vec a0_p.Periods.length 2 (gL cSPeriod dSPeriod a0_p.Periods)]]⟩) (sub_gen [0] rfl rfl ⟨⟨_, rfl, .inl ⟨rfl, rfl⟩⟩, ⟨_, rfl, .inl ⟨rfl, rfl⟩⟩, trivial⟩ ⟨⟨_, rfl, ⟨.inl ⟨rfl, rfl⟩, .inl ⟨rfl, rfl⟩, .inl ⟨rfl, rfl⟩, .inl ⟨rfl, rfl⟩, .inl ⟨rfl, rfl⟩, .inl ⟨rfl, rfl⟩, .inl ⟨rfl, rfl⟩, .inl ⟨rfl, rfl⟩, .inl ⟨rfl, rfl⟩, .inl ⟨rfl, rfl⟩, .inl ⟨rfl, rfl⟩, trivial⟩⟩, trivial⟩) ?_
    refine SOps.nil ?_
    rcases cond_out h with ⟨g4, h⟩ | ⟨g4, h⟩
    · refine SCode.cond_t rfl g4 ?_
      refine SCode.seq ?_
      obtain ⟨c_5, g6, h⟩ := bind_out h
      try dsimp only at h
      refine SCode.region (show SOps _ _ _ [0, 1] _ _ from ?_)
      refine SOps.q rfl (.plain rfl) rfl (q_call (chargenetlaw15_awake_ok F  c_5 g6) [] rfl fn11 trivial (.inl rfl)) ?_
      refine SOps.q rfl (.plain rfl) rfl (q_assign rfl rfl) ?_
      refine SOps.sub (st' := ⟨[(2, .c (.bool c_5))], []⟩) (sub_gen [] rfl rfl ⟨⟨_, rfl, .inl ⟨rfl, rfl⟩⟩, trivial⟩ trivial) ?_
      refine SOps.nil ?_
      refine SCode.ret ?_
      obtain rfl := Option.some.inj h
      exact ⟨⟨[(2, .c (.bool c_5))], []⟩, _, sub_gen [] rfl rfl ⟨⟨_, rfl, .inl ⟨rfl, rfl⟩⟩, trivial⟩ trivial, resA1 (v := .c (.bool c_5)) rfl rfl, rfl⟩
    · refine SCode.cond_f rfl g4 ?_
      refine SCode.skip ?_
      refine SCode.seq ?_
      obtain ⟨c_7, g8, h⟩ := bind_out h
      try dsimp only at h
      obtain ⟨c_9, g10, h⟩ := bind_out h
      try dsimp only at h
      rcases cond_out h with ⟨g11, h⟩ | ⟨g11, h⟩
      · obtain ⟨c_12, g13, h⟩ := bind_out h
        try dsimp only at h
        refine SCode.draw (s' := [(2, .c (.bool c_12)), (21, .c (.bool c_12)), (20, .c (.bool c_12)), (19, .c (.bool (decide (c_7 = c_9)))), (18, .c (.bool (decide (c_7 = c_9)))), (17, .c (.int .i64 c_9)), (16, .a [.int .i64 a0_p.ID, .int .i64 a0_p.Level, .int .i64 a0_p.Purpose, .int .i64 a0_p.Kind, .int .i64 a0_p.Conn, .str a0_p.Txn, .int .i64 a0_p.Span_From, .int .i64 a0_p.Span_To, .int .i64 a0_p.Start, .int .i64 a0_p.Duration, .vec a0_p.Periods.length 2 (gL cSPeriod dSPeriod a0_p.Periods)]), (15, .c (.int .i64 c_7)), (14, .a [.int .i64 a0_p.ID, .int .i64 a0_p.Level, .int .i64 a0_p.Purpose, .int .i64 a0_p.Kind, .int .i64 a0_p.Conn, .str a0_p.Txn, .int .i64 a0_p.Span_From, .int .i64 a0_p.Span_To, .int .i64 a0_p.Start, .int .i64 a0_p.Duration, .vec a0_p.Periods.length 2 (gL cSPeriod dSPeriod a0_p.Periods)]), (1, .c (.ptr 0 0)), (12, .c (.bool (decide (30 < ((a0_p.Periods).length : Int)))))]) mixed [[], [0], [], [0, 1, 2], [0, 1, 2, 3], [0, 1, 2, 3, 4], [0, 1, 2, 3, 4, 5], [0, 1, 2, 3, 4, 5, 6], [0, 1, 2, 3, 4, 5, 6, 7]] 9 0 rfl rfl ?_ ?_
        · refine QChain.run rfl (.plain rfl) rfl (q_load_ptr_all rfl rfl rfl rfl rfl ty26) ?_
          refine QChain.run rfl (.plain rfl) rfl (q_call (profile_Valid_ok F a0_p c_7 g8) [] rfl fn12 ⟨⟨rfl, rfl⟩, trivial⟩ (.inl rfl)) ?_
          refine QChain.run rfl (.plain rfl) rfl (q_load_ptr_all rfl rfl rfl rfl rfl ty26) ?_
          refine QChain.run rfl (.plain rfl) rfl (q_call (chargenetref15_Valid_ok F a0_p c_9 g10) [] rfl fn13 ⟨⟨rfl, rfl⟩, trivial⟩ (.inl rfl)) ?_
          refine QChain.run rfl (.plain rfl) rfl (q_eql rfl rfl rfl) ?_
          refine QChain.run rfl (.plain rfl) rfl (q_move rfl rfl) ?_
          refine QChain.run rfl (.guard 5 19 true rfl rfl (gT g11)) rfl (q_call (chargenetlaw15_awake_ok F  c_12 g13) [] rfl fn11 trivial (.inl rfl)) ?_
          refine QChain.run rfl (.plain rfl) rfl (q_pick_t rfl rfl g11 rfl) ?_
          refine QChain.run rfl (.plain rfl) rfl (q_assign rfl rfl) ?_
          exact QChain.nil _ _
        refine (show SOps _ _ _ [] _ _ from ?_)
        refine SOps.sub (st' := ⟨[(2, .c (.bool c_12))], []⟩) (sub_gen [] rfl rfl ⟨⟨_, rfl, .inl ⟨rfl, rfl⟩⟩, trivial⟩ trivial) ?_
        refine SOps.nil ?_
        refine SCode.ret ?_
        obtain rfl := Option.some.inj h
        exact ⟨⟨[(2, .c (.bool c_12))], []⟩, _, sub_gen [] rfl rfl ⟨⟨_, rfl, .inl ⟨rfl, rfl⟩⟩, trivial⟩ trivial, resA1 (v := .c (.bool c_12)) rfl rfl, rfl⟩
      · refine SCode.draw (s' := [(2, .c (.bool false)), (21, .c (.bool false)), (20, .c (.raw (.tuple #[]))), (19, .c (.bool (decide (c_7 = c_9)))), (18, .c (.bool (decide (c_7 = c_9)))), (17, .c (.int .i64 c_9)), (16, .a [.int .i64 a0_p.ID, .int .i64 a0_p.Level, .int .i64 a0_p.Purpose, .int .i64 a0_p.Kind, .int .i64 a0_p.Conn, .str a0_p.Txn, .int .i64 a0_p.Span_From, .int .i64 a0_p.Span_To, .int .i64 a0_p.Start, .int .i64 a0_p.Duration, .vec a0_p.Periods.length 2 (gL cSPeriod dSPeriod a0_p.Periods)]), (15, .c (.int .i64 c_7)), (14, .a [.int .i64 a0_p.ID, .int .i64 a0_p.Level, .int .i64 a0_p.Purpose, .int .i64 a0_p.Kind, .int .i64 a0_p.Conn, .str a0_p.Txn, .int .i64 a0_p.Span_From, .int .i64 a0_p.Span_To, .int .i64 a0_p.Start, .int .i64 a0_p.Duration, .vec a0_p.Periods.length 2 (gL cSPeriod dSPeriod a0_p.Periods)]), (1, .c (.ptr 0 0)), (12, .c (.bool (decide (30 < ((a0_p.Periods).length : Int)))))]) mixed [[], [0], [], [0, 1, 2], [0, 1, 2, 3], [0, 1, 2, 3, 4], [0, 1, 2, 3, 4, 5], [0, 1, 2, 3, 4, 5, 6], [0, 1, 2, 3, 4, 5, 6, 7]] 9 0 rfl rfl ?_ ?_
        · refine QChain.run rfl (.plain rfl) rfl (q_load_ptr_all rfl rfl rfl rfl rfl ty26) ?_
          refine QChain.run rfl (.plain rfl) rfl (q_call (profile_Valid_ok F a0_p c_7 g8) [] rfl fn12 ⟨⟨rfl, rfl⟩, trivial⟩ (.inl rfl)) ?_
          refine QChain.run rfl (.plain rfl) rfl (q_load_ptr_all rfl rfl rfl rfl rfl ty26) ?_
          refine QChain.run rfl (.plain rfl) rfl (q_call (chargenetref15_Valid_ok F a0_p c_9 g10) [] rfl fn13 ⟨⟨rfl, rfl⟩, trivial⟩ (.inl rfl)) ?_
          refine QChain.run rfl (.plain rfl) rfl (q_eql rfl rfl rfl) ?_
          refine QChain.run rfl (.plain rfl) rfl (q_move rfl rfl) ?_
          refine QChain.skip rfl ⟨5, 19, true, rfl, rfl, (.inl (gF g11))⟩ rfl ?_
          refine QChain.run rfl (.plain rfl) rfl (q_pick_f rfl rfl g11 rfl) ?_
          refine QChain.run rfl (.plain rfl) rfl (q_assign rfl rfl) ?_
          exact QChain.nil _ _
        refine (show SOps _ _ _ [] _ _ from ?_)
        refine SOps.sub (st' := ⟨[(2, .c (.bool false))], []⟩) (sub_gen [] rfl rfl ⟨⟨_, rfl, .inl ⟨rfl, rfl⟩⟩, trivial⟩ trivial) ?_
        refine SOps.nil ?_
        refine SCode.ret ?_
        obtain rfl := Option.some.inj h
        exact ⟨⟨[(2, .c (.bool false))], []⟩, _, sub_gen [] rfl rfl ⟨⟨_, rfl, .inl ⟨rfl, rfl⟩⟩, trivial⟩ trivial, resA1 (v := .c (.bool false)) rfl rfl, rfl⟩
end Go.Proofs.Ytldekibkmombdaa.W
