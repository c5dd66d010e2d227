/- Written by a program of ours (wip/eng/gen.py): the functions compute their models. -/
import Derived.Test.YtldekibkmombdaaFacts
import Derived.Test.YtldekibkmombdaaV6x3
namespace Go.Proofs.Ytldekibkmombdaa.W
open Go Go.Proofs Go.Proofs.Ytldekibkmombdaa.E Go.Proofs.Ytldekibkmombdaa.M
set_option linter.unusedVariables false
set_option maxRecDepth 100000 in
set_option maxHeartbeats 8000000 in
theorem chargenetref15_Same_ok (F : Nat) (a0_a : SProfile) (a1_b : SProfile) (r : Bool) (h : chargenetref15_Same F a0_a a1_b = some r) :
    SFun Try.prog 20 [] [.a [.int .i64 a0_a.ID, .int .i64 a0_a.Level, .int .i64 a0_a.Purpose, .int .i64 a0_a.Kind, .int .i64 a0_a.Conn, .str a0_a.Txn, .int .i64 a0_a.Span_From, .int .i64 a0_a.Span_To, .int .i64 a0_a.Start, .int .i64 a0_a.Duration, .vec a0_a.Periods.length 2 (gL cSPeriod dSPeriod a0_a.Periods)], .a [.int .i64 a1_b.ID, .int .i64 a1_b.Level, .int .i64 a1_b.Purpose, .int .i64 a1_b.Kind, .int .i64 a1_b.Conn, .str a1_b.Txn, .int .i64 a1_b.Span_From, .int .i64 a1_b.Span_To, .int .i64 a1_b.Start, .int .i64 a1_b.Duration, .vec a1_b.Periods.length 2 (gL cSPeriod dSPeriod a1_b.Periods)]] (fun x _ => x = .c (.bool r)) := by
  refine SFun.of (n := 72) Try.func20 rfl rfl rfl ?_
  unfold chargenetref15_Same at h
  show SCode _ _ _ ⟨[(0, .a [.int .i64 a0_a.ID, .int .i64 a0_a.Level, .int .i64 a0_a.Purpose, .int .i64 a0_a.Kind, .int .i64 a0_a.Conn, .str a0_a.Txn, .int .i64 a0_a.Span_From, .int .i64 a0_a.Span_To, .int .i64 a0_a.Start, .int .i64 a0_a.Duration, .vec a0_a.Periods.length 2 (gL cSPeriod dSPeriod a0_a.Periods)]), (1, .a [.int .i64 a1_b.ID, .int .i64 a1_b.Level, .int .i64 a1_b.Purpose, .int .i64 a1_b.Kind, .int .i64 a1_b.Conn, .str a1_b.Txn, .int .i64 a1_b.Span_From, .int .i64 a1_b.Span_To, .int .i64 a1_b.Start, .int .i64 a1_b.Duration, .vec a1_b.Periods.length 2 (gL cSPeriod dSPeriod a1_b.Periods)])], []⟩ _
  refine SCode.seq ?_
  refine SCode.region (show SOps _ _ _ [0, 1, 2] _ _ from ?_)
  refine SOps.e rfl (.plain rfl) (e_box rfl rfl rfl rfl rfl rfl) ?_
  refine SOps.e rfl (.plain rfl) (e_box rfl rfl rfl rfl rfl rfl) ?_
  refine SOps.q rfl (.plain rfl) rfl (q_assign rfl rfl) ?_
  refine SOps.sub (st' := ⟨[(2, .c (.ptr 0 0)), (3, .c (.ptr 1 0))], [.box [.int .i64 a0_a.ID, .int .i64 a0_a.Level, .int .i64 a0_a.Purpose, .int .i64 a0_a.Kind, .int .i64 a0_a.Conn, .str a0_a.Txn, .int .i64 a0_a.Span_From, .int .i64 a0_a.Span_To, .int .i64 a0_a.Start, .int .i64 a0_a.Duration, .vec a0_a.Periods.length 2 (gL cSPeriod dSPeriod a0_a.Periods)], .box [.int .i64 a1_b.ID, .int .i64 a1_b.Level, .int .i64 a1_b.Purpose, .int .i64 a1_b.Kind, .int .i64 a1_b.Conn, .str a1_b.Txn, .int .i64 a1_b.Span_From, .int .i64 a1_b.Span_To, .int .i64 a1_b.Start, .int .i64 a1_b.Duration, .vec a1_b.Periods.length 2 (gL cSPeriod dSPeriod a1_b.Periods)]]⟩) (sub_gen [0, 1] rfl rfl ⟨zc rfl rfl, zc rfl rfl, trivial⟩ ⟨⟨_, rfl, ⟨ii rfl rfl, ii rfl rfl, ii rfl rfl, ii rfl rfl, ii rfl rfl, ii rfl rfl, ii rfl rfl, ii rfl rfl, ii rfl rfl, ii rfl rfl, ii rfl rfl, trivial⟩⟩, ⟨_, rfl, ⟨ii rfl rfl, ii rfl rfl, ii rfl rfl, ii rfl rfl, ii rfl rfl, ii rfl rfl, ii rfl rfl, ii rfl rfl, ii rfl rfl, ii rfl rfl, ii rfl rfl, trivial⟩⟩, trivial⟩) ?_
  refine SOps.nil ?_
  refine SCode.seq ?_
  refine SCode.seq ?_
  rcases cond_out h with ⟨g1, h⟩ | ⟨g1, h⟩
  · refine SCode.region (show SOps _ _ _ [0, 1, 2, 3, 4, 5, 6, 7, 8, 9, 10, 11, 12, 13, 14, 15, 16, 17, 18, 19, 20, 21, 22, 23, 24, 25, 26, 27, 28, 29, 30, 31, 32, 33, 34, 35, 36, 37, 38, 39, 40, 41, 42, 43, 44, 45, 46, 47] _ _ from ?_)
    refine SOps.q rfl (.plain rfl) rfl (q_field_ptr rfl rfl fd26_0) ?_
    refine SOps.q rfl (.plain rfl) rfl (q_load_ptr rfl rfl rfl rfl ty3) ?_
    refine SOps.q rfl (.plain rfl) rfl (q_field_ptr rfl rfl fd26_0) ?_
    refine SOps.q rfl (.plain rfl) rfl (q_load_ptr rfl rfl rfl rfl ty3) ?_
    refine SOps.q rfl (.plain rfl) rfl (q_neq rfl rfl rfl) ?_
    refine SOps.q rfl (.plain rfl) rfl (q_move rfl rfl) ?_
    refine SOps.skip rfl 5 11 false rfl rfl (.inl (gT g1)) rfl ?_
    refine SOps.skip rfl 5 11 false rfl rfl (.inl (gT g1)) rfl ?_
    refine SOps.skip rfl 5 11 false rfl rfl (.inl (gT g1)) rfl ?_
    refine SOps.skip rfl 5 11 false rfl rfl (.inl (gT g1)) rfl ?_
    refine SOps.skip rfl 5 11 false rfl rfl (.inl (gT g1)) rfl ?_
    refine SOps.q rfl (.plain rfl) rfl (q_pick_t rfl rfl g1 rfl) ?_
    refine SOps.q rfl (.plain rfl) rfl (q_move rfl rfl) ?_
    refine SOps.skip rfl 12 18 false rfl rfl (.inl rfl) rfl ?_
    refine SOps.skip rfl 12 18 false rfl rfl (.inl rfl) rfl ?_
    refine SOps.skip rfl 12 18 false rfl rfl (.inl rfl) rfl ?_
    refine SOps.skip rfl 12 18 false rfl rfl (.inl rfl) rfl ?_
    refine SOps.q rfl (.plain rfl) rfl (q_pick_t rfl rfl rfl rfl) ?_
    refine SOps.q rfl (.plain rfl) rfl (q_move rfl rfl) ?_
    refine SOps.skip rfl 18 24 false rfl rfl (.inl rfl) rfl ?_
    refine SOps.skip rfl 18 24 false rfl rfl (.inl rfl) rfl ?_
    refine SOps.skip rfl 18 24 false rfl rfl (.inl rfl) rfl ?_
    refine SOps.skip rfl 18 24 false rfl rfl (.inl rfl) rfl ?_
    refine SOps.skip rfl 18 24 false rfl rfl (.inl rfl) rfl ?_
    refine SOps.q rfl (.plain rfl) rfl (q_pick_t rfl rfl rfl rfl) ?_
    refine SOps.q rfl (.plain rfl) rfl (q_move rfl rfl) ?_
    refine SOps.skip rfl 25 31 false rfl rfl (.inl rfl) rfl ?_
    refine SOps.skip rfl 25 31 false rfl rfl (.inl rfl) rfl ?_
    refine SOps.skip rfl 25 31 false rfl rfl (.inl rfl) rfl ?_
    refine SOps.skip rfl 25 31 false rfl rfl (.inl rfl) rfl ?_
    refine SOps.skip rfl 25 31 false rfl rfl (.inl rfl) rfl ?_
    refine SOps.q rfl (.plain rfl) rfl (q_pick_t rfl rfl rfl rfl) ?_
    refine SOps.q rfl (.plain rfl) rfl (q_move rfl rfl) ?_
    refine SOps.skip rfl 32 38 false rfl rfl (.inl rfl) rfl ?_
    refine SOps.skip rfl 32 38 false rfl rfl (.inl rfl) rfl ?_
    refine SOps.skip rfl 32 38 false rfl rfl (.inl rfl) rfl ?_
    refine SOps.skip rfl 32 38 false rfl rfl (.inl rfl) rfl ?_
    refine SOps.skip rfl 32 38 false rfl rfl (.inl rfl) rfl ?_
    refine SOps.q rfl (.plain rfl) rfl (q_pick_t rfl rfl rfl rfl) ?_
    refine SOps.q rfl (.plain rfl) rfl (q_move rfl rfl) ?_
    refine SOps.skip rfl 39 45 false rfl rfl (.inl rfl) rfl ?_
    refine SOps.skip rfl 39 45 false rfl rfl (.inl rfl) rfl ?_
    refine SOps.skip rfl 39 45 false rfl rfl (.inl rfl) rfl ?_
    refine SOps.skip rfl 39 45 false rfl rfl (.inl rfl) rfl ?_
    refine SOps.skip rfl 39 45 false rfl rfl (.inl rfl) rfl ?_
    refine SOps.skip rfl 39 45 false rfl rfl (.inl rfl) rfl ?_
    refine SOps.skip rfl 39 45 false rfl rfl (.inl rfl) rfl ?_
    refine SOps.q rfl (.plain rfl) rfl (q_pick_t rfl rfl rfl rfl) ?_
    refine SOps.sub (st' := ⟨[(2, .c (.ptr 0 0)), (3, .c (.ptr 1 0)), (53, .c (.bool true))], [.box [.int .i64 a0_a.ID, .int .i64 a0_a.Level, .int .i64 a0_a.Purpose, .int .i64 a0_a.Kind, .int .i64 a0_a.Conn, .str a0_a.Txn, .int .i64 a0_a.Span_From, .int .i64 a0_a.Span_To, .int .i64 a0_a.Start, .int .i64 a0_a.Duration, .vec a0_a.Periods.length 2 (gL cSPeriod dSPeriod a0_a.Periods)], .box [.int .i64 a1_b.ID, .int .i64 a1_b.Level, .int .i64 a1_b.Purpose, .int .i64 a1_b.Kind, .int .i64 a1_b.Conn, .str a1_b.Txn, .int .i64 a1_b.Span_From, .int .i64 a1_b.Span_To, .int .i64 a1_b.Start, .int .i64 a1_b.Duration, .vec a1_b.Periods.length 2 (gL cSPeriod dSPeriod a1_b.Periods)]]⟩) (sub_gen [0, 1] rfl rfl ⟨zc rfl rfl, zc rfl rfl, zc rfl rfl, trivial⟩ ⟨⟨_, rfl, ⟨ii rfl rfl, ii rfl rfl, ii rfl rfl, ii rfl rfl, ii rfl rfl, ii rfl rfl, ii rfl rfl, ii rfl rfl, ii rfl rfl, ii rfl rfl, ii rfl rfl, trivial⟩⟩, ⟨_, rfl, ⟨ii rfl rfl, ii rfl rfl, ii rfl rfl, ii rfl rfl, ii rfl rfl, ii rfl rfl, ii rfl rfl, ii rfl rfl, ii rfl rfl, ii rfl rfl, ii rfl rfl, trivial⟩⟩, trivial⟩) ?_
    refine SOps.nil ?_
    refine SCode.cond_t rfl rfl ?_
    refine SCode.seq ?_
    refine SCode.region (show SOps _ _ _ [0] _ _ from ?_)
    refine SOps.q rfl (.plain rfl) rfl (q_assign rfl rfl) ?_
    refine SOps.sub (st' := ⟨[(4, .c (.bool false))], []⟩) (sub_gen [] rfl rfl ⟨zc rfl rfl, trivial⟩ trivial) ?_
    refine SOps.nil ?_
    refine SCode.ret ?_
    obtain rfl := Option.some.inj h
    exact ⟨⟨[(4, .c (.bool false))], []⟩, _, sub_gen [] rfl rfl ⟨zc rfl rfl, trivial⟩ trivial, resA1 (v := .c (.bool false)) rfl rfl, rfl⟩
  rcases cond_out h with ⟨g2, h⟩ | ⟨g2, h⟩
  · refine SCode.region (show SOps _ _ _ [0, 1, 2, 3, 4, 5, 6, 7, 8, 9, 10, 11, 12, 13, 14, 15, 16, 17, 18, 19, 20, 21, 22, 23, 24, 25, 26, 27, 28, 29, 30, 31, 32, 33, 34, 35, 36, 37, 38, 39, 40, 41, 42, 43, 44, 45, 46, 47] _ _ from ?_)
    refine SOps.q rfl (.plain rfl) rfl (q_field_ptr rfl rfl fd26_0) ?_
    refine SOps.q rfl (.plain rfl) rfl (q_load_ptr rfl rfl rfl rfl ty3) ?_
    refine SOps.q rfl (.plain rfl) rfl (q_field_ptr rfl rfl fd26_0) ?_
    refine SOps.q rfl (.plain rfl) rfl (q_load_ptr rfl rfl rfl rfl ty3) ?_
    refine SOps.q rfl (.plain rfl) rfl (q_neq rfl rfl rfl) ?_
    refine SOps.q rfl (.plain rfl) rfl (q_move rfl rfl) ?_
    refine SOps.q rfl (.guard 5 11 false rfl rfl (gF g1)) rfl (q_field_ptr rfl rfl fd26_3) ?_
    refine SOps.q rfl (.guard 5 11 false rfl rfl (gF g1)) rfl (q_load_ptr rfl rfl rfl rfl ty3) ?_
    refine SOps.q rfl (.guard 5 11 false rfl rfl (gF g1)) rfl (q_field_ptr rfl rfl fd26_3) ?_
    refine SOps.q rfl (.guard 5 11 false rfl rfl (gF g1)) rfl (q_load_ptr rfl rfl rfl rfl ty3) ?_
    refine SOps.q rfl (.guard 5 11 false rfl rfl (gF g1)) rfl (q_neq rfl rfl rfl) ?_
    refine SOps.q rfl (.plain rfl) rfl (q_pick_f rfl rfl g1 rfl) ?_
    refine SOps.q rfl (.plain rfl) rfl (q_move rfl rfl) ?_
    refine SOps.skip rfl 12 18 false rfl rfl (.inl (gT g2)) rfl ?_
    refine SOps.skip rfl 12 18 false rfl rfl (.inl (gT g2)) rfl ?_
    refine SOps.skip rfl 12 18 false rfl rfl (.inl (gT g2)) rfl ?_
    refine SOps.skip rfl 12 18 false rfl rfl (.inl (gT g2)) rfl ?_
    refine SOps.q rfl (.plain rfl) rfl (q_pick_t rfl rfl g2 rfl) ?_
    refine SOps.q rfl (.plain rfl) rfl (q_move rfl rfl) ?_
    refine SOps.skip rfl 18 24 false rfl rfl (.inl rfl) rfl ?_
    refine SOps.skip rfl 18 24 false rfl rfl (.inl rfl) rfl ?_
    refine SOps.skip rfl 18 24 false rfl rfl (.inl rfl) rfl ?_
    refine SOps.skip rfl 18 24 false rfl rfl (.inl rfl) rfl ?_
    refine SOps.skip rfl 18 24 false rfl rfl (.inl rfl) rfl ?_
    refine SOps.q rfl (.plain rfl) rfl (q_pick_t rfl rfl rfl rfl) ?_
    refine SOps.q rfl (.plain rfl) rfl (q_move rfl rfl) ?_
    refine SOps.skip rfl 25 31 false rfl rfl (.inl rfl) rfl ?_
    refine SOps.skip rfl 25 31 false rfl rfl (.inl rfl) rfl ?_
    refine SOps.skip rfl 25 31 false rfl rfl (.inl rfl) rfl ?_
    refine SOps.skip rfl 25 31 false rfl rfl (.inl rfl) rfl ?_
    refine SOps.skip rfl 25 31 false rfl rfl (.inl rfl) rfl ?_
    refine SOps.q rfl (.plain rfl) rfl (q_pick_t rfl rfl rfl rfl) ?_
    refine SOps.q rfl (.plain rfl) rfl (q_move rfl rfl) ?_
    refine SOps.skip rfl 32 38 false rfl rfl (.inl rfl) rfl ?_
    refine SOps.skip rfl 32 38 false rfl rfl (.inl rfl) rfl ?_
    refine SOps.skip rfl 32 38 false rfl rfl (.inl rfl) rfl ?_
    refine SOps.skip rfl 32 38 false rfl rfl (.inl rfl) rfl ?_
    refine SOps.skip rfl 32 38 false rfl rfl (.inl rfl) rfl ?_
    refine SOps.q rfl (.plain rfl) rfl (q_pick_t rfl rfl rfl rfl) ?_
    refine SOps.q rfl (.plain rfl) rfl (q_move rfl rfl) ?_
    refine SOps.skip rfl 39 45 false rfl rfl (.inl rfl) rfl ?_
    refine SOps.skip rfl 39 45 false rfl rfl (.inl rfl) rfl ?_
    refine SOps.skip rfl 39 45 false rfl rfl (.inl rfl) rfl ?_
    refine SOps.skip rfl 39 45 false rfl rfl (.inl rfl) rfl ?_
    refine SOps.skip rfl 39 45 false rfl rfl (.inl rfl) rfl ?_
    refine SOps.skip rfl 39 45 false rfl rfl (.inl rfl) rfl ?_
    refine SOps.skip rfl 39 45 false rfl rfl (.inl rfl) rfl ?_
    refine SOps.q rfl (.plain rfl) rfl (q_pick_t rfl rfl rfl rfl) ?_
    refine SOps.sub (st' := ⟨[(2, .c (.ptr 0 0)), (3, .c (.ptr 1 0)), (53, .c (.bool true))], [.box [.int .i64 a0_a.ID, .int .i64 a0_a.Level, .int .i64 a0_a.Purpose, .int .i64 a0_a.Kind, .int .i64 a0_a.Conn, .str a0_a.Txn, .int .i64 a0_a.Span_From, .int .i64 a0_a.Span_To, .int .i64 a0_a.Start, .int .i64 a0_a.Duration, .vec a0_a.Periods.length 2 (gL cSPeriod dSPeriod a0_a.Periods)], .box [.int .i64 a1_b.ID, .int .i64 a1_b.Level, .int .i64 a1_b.Purpose, .int .i64 a1_b.Kind, .int .i64 a1_b.Conn, .str a1_b.Txn, .int .i64 a1_b.Span_From, .int .i64 a1_b.Span_To, .int .i64 a1_b.Start, .int .i64 a1_b.Duration, .vec a1_b.Periods.length 2 (gL cSPeriod dSPeriod a1_b.Periods)]]⟩) (sub_gen [0, 1] rfl rfl ⟨zc rfl rfl, zc rfl rfl, zc rfl rfl, trivial⟩ ⟨⟨_, rfl, ⟨ii rfl rfl, ii rfl rfl, ii rfl rfl, ii rfl rfl, ii rfl rfl, ii rfl rfl, ii rfl rfl, ii rfl rfl, ii rfl rfl, ii rfl rfl, ii rfl rfl, trivial⟩⟩, ⟨_, rfl, ⟨ii rfl rfl, ii rfl rfl, ii rfl rfl, ii rfl rfl, ii rfl rfl, ii rfl rfl, ii rfl rfl, ii rfl rfl, ii rfl rfl, ii rfl rfl, ii rfl rfl, trivial⟩⟩, trivial⟩) ?_
    refine SOps.nil ?_
    refine SCode.cond_t rfl rfl ?_
    refine SCode.seq ?_
    refine SCode.region (show SOps _ _ _ [0] _ _ from ?_)
    refine SOps.q rfl (.plain rfl) rfl (q_assign rfl rfl) ?_
    refine SOps.sub (st' := ⟨[(4, .c (.bool false))], []⟩) (sub_gen [] rfl rfl ⟨zc rfl rfl, trivial⟩ trivial) ?_
    refine SOps.nil ?_
    refine SCode.ret ?_
    obtain rfl := Option.some.inj h
    exact ⟨⟨[(4, .c (.bool false))], []⟩, _, sub_gen [] rfl rfl ⟨zc rfl rfl, trivial⟩ trivial, resA1 (v := .c (.bool false)) rfl rfl, rfl⟩
  obtain ⟨c_3, g4, h⟩ := bind_out h
  try dsimp only at h
  rcases cond_out h with ⟨g5, h⟩ | ⟨g5, h⟩
  · refine SCode.region (show SOps _ _ _ [0, 1, 2, 3, 4, 5, 6, 7, 8, 9, 10, 11, 12, 13, 14, 15, 16, 17, 18, 19, 20, 21, 22, 23, 24, 25, 26, 27, 28, 29, 30, 31, 32, 33, 34, 35, 36, 37, 38, 39, 40, 41, 42, 43, 44, 45, 46, 47] _ _ from ?_)
    refine SOps.q rfl (.plain rfl) rfl (q_field_ptr rfl rfl fd26_0) ?_
    refine SOps.q rfl (.plain rfl) rfl (q_load_ptr rfl rfl rfl rfl ty3) ?_
    refine SOps.q rfl (.plain rfl) rfl (q_field_ptr rfl rfl fd26_0) ?_
    refine SOps.q rfl (.plain rfl) rfl (q_load_ptr rfl rfl rfl rfl ty3) ?_
    refine SOps.q rfl (.plain rfl) rfl (q_neq rfl rfl rfl) ?_
    refine SOps.q rfl (.plain rfl) rfl (q_move rfl rfl) ?_
    refine SOps.q rfl (.guard 5 11 false rfl rfl (gF g1)) rfl (q_field_ptr rfl rfl fd26_3) ?_
    refine SOps.q rfl (.guard 5 11 false rfl rfl (gF g1)) rfl (q_load_ptr rfl rfl rfl rfl ty3) ?_
    refine SOps.q rfl (.guard 5 11 false rfl rfl (gF g1)) rfl (q_field_ptr rfl rfl fd26_3) ?_
    refine SOps.q rfl (.guard 5 11 false rfl rfl (gF g1)) rfl (q_load_ptr rfl rfl rfl rfl ty3) ?_
    refine SOps.q rfl (.guard 5 11 false rfl rfl (gF g1)) rfl (q_neq rfl rfl rfl) ?_
    refine SOps.q rfl (.plain rfl) rfl (q_pick_f rfl rfl g1 rfl) ?_
    refine SOps.q rfl (.plain rfl) rfl (q_move rfl rfl) ?_
    refine SOps.q rfl (.guard 12 18 false rfl rfl (gF g2)) rfl (q_load_ptr_all rfl rfl rfl rfl rfl ty26) ?_
    refine SOps.q rfl (.guard 12 18 false rfl rfl (gF g2)) rfl (q_load_ptr_all rfl rfl rfl rfl rfl ty26) ?_
    refine SOps.q rfl (.guard 12 18 false rfl rfl (gF g2)) rfl (q_call (chargenetref15_slot_ok F a0_a a1_b c_3 g4) [] rfl fn36 ⟨⟨rfl, rfl⟩, ⟨rfl, rfl⟩, trivial⟩ (.inl rfl)) ?_
    refine SOps.q rfl (.guard 12 18 false rfl rfl (gF g2)) rfl (q_not rfl rfl) ?_
    refine SOps.q rfl (.plain rfl) rfl (q_pick_f rfl rfl g2 rfl) ?_
    refine SOps.q rfl (.plain rfl) rfl (q_move rfl rfl) ?_
    refine SOps.skip rfl 18 24 false rfl rfl (.inl (gT g5)) rfl ?_
    refine SOps.skip rfl 18 24 false rfl rfl (.inl (gT g5)) rfl ?_
    refine SOps.skip rfl 18 24 false rfl rfl (.inl (gT g5)) rfl ?_
    refine SOps.skip rfl 18 24 false rfl rfl (.inl (gT g5)) rfl ?_
    refine SOps.skip rfl 18 24 false rfl rfl (.inl (gT g5)) rfl ?_
    refine SOps.q rfl (.plain rfl) rfl (q_pick_t rfl rfl g5 rfl) ?_
    refine SOps.q rfl (.plain rfl) rfl (q_move rfl rfl) ?_
    refine SOps.skip rfl 25 31 false rfl rfl (.inl rfl) rfl ?_
    refine SOps.skip rfl 25 31 false rfl rfl (.inl rfl) rfl ?_
    refine SOps.skip rfl 25 31 false rfl rfl (.inl rfl) rfl ?_
    refine SOps.skip rfl 25 31 false rfl rfl (.inl rfl) rfl ?_
    refine SOps.skip rfl 25 31 false rfl rfl (.inl rfl) rfl ?_
    refine SOps.q rfl (.plain rfl) rfl (q_pick_t rfl rfl rfl rfl) ?_
    refine SOps.q rfl (.plain rfl) rfl (q_move rfl rfl) ?_
    refine SOps.skip rfl 32 38 false rfl rfl (.inl rfl) rfl ?_
    refine SOps.skip rfl 32 38 false rfl rfl (.inl rfl) rfl ?_
    refine SOps.skip rfl 32 38 false rfl rfl (.inl rfl) rfl ?_
    refine SOps.skip rfl 32 38 false rfl rfl (.inl rfl) rfl ?_
    refine SOps.skip rfl 32 38 false rfl rfl (.inl rfl) rfl ?_
    refine SOps.q rfl (.plain rfl) rfl (q_pick_t rfl rfl rfl rfl) ?_
    refine SOps.q rfl (.plain rfl) rfl (q_move rfl rfl) ?_
    refine SOps.skip rfl 39 45 false rfl rfl (.inl rfl) rfl ?_
    refine SOps.skip rfl 39 45 false rfl rfl (.inl rfl) rfl ?_
    refine SOps.skip rfl 39 45 false rfl rfl (.inl rfl) rfl ?_
    refine SOps.skip rfl 39 45 false rfl rfl (.inl rfl) rfl ?_
    refine SOps.skip rfl 39 45 false rfl rfl (.inl rfl) rfl ?_
    refine SOps.skip rfl 39 45 false rfl rfl (.inl rfl) rfl ?_
    refine SOps.skip rfl 39 45 false rfl rfl (.inl rfl) rfl ?_
    refine SOps.q rfl (.plain rfl) rfl (q_pick_t rfl rfl rfl rfl) ?_
    refine SOps.sub (st' := ⟨[(2, .c (.ptr 0 0)), (3, .c (.ptr 1 0)), (53, .c (.bool true))], [.box [.int .i64 a0_a.ID, .int .i64 a0_a.Level, .int .i64 a0_a.Purpose, .int .i64 a0_a.Kind, .int .i64 a0_a.Conn, .str a0_a.Txn, .int .i64 a0_a.Span_From, .int .i64 a0_a.Span_To, .int .i64 a0_a.Start, .int .i64 a0_a.Duration, .vec a0_a.Periods.length 2 (gL cSPeriod dSPeriod a0_a.Periods)], .box [.int .i64 a1_b.ID, .int .i64 a1_b.Level, .int .i64 a1_b.Purpose, .int .i64 a1_b.Kind, .int .i64 a1_b.Conn, .str a1_b.Txn, .int .i64 a1_b.Span_From, .int .i64 a1_b.Span_To, .int .i64 a1_b.Start, .int .i64 a1_b.Duration, .vec a1_b.Periods.length 2 (gL cSPeriod dSPeriod a1_b.Periods)]]⟩) (sub_gen [0, 1] rfl rfl ⟨zc rfl rfl, zc rfl rfl, zc rfl rfl, trivial⟩ ⟨⟨_, rfl, ⟨ii rfl rfl, ii rfl rfl, ii rfl rfl, ii rfl rfl, ii rfl rfl, ii rfl rfl, ii rfl rfl, ii rfl rfl, ii rfl rfl, ii rfl rfl, ii rfl rfl, trivial⟩⟩, ⟨_, rfl, ⟨ii rfl rfl, ii rfl rfl, ii rfl rfl, ii rfl rfl, ii rfl rfl, ii rfl rfl, ii rfl rfl, ii rfl rfl, ii rfl rfl, ii rfl rfl, ii rfl rfl, trivial⟩⟩, trivial⟩) ?_
    refine SOps.nil ?_
    refine SCode.cond_t rfl rfl ?_
    refine SCode.seq ?_
    refine SCode.region (show SOps _ _ _ [0] _ _ from ?_)
    refine SOps.q rfl (.plain rfl) rfl (q_assign rfl rfl) ?_
    refine SOps.sub (st' := ⟨[(4, .c (.bool false))], []⟩) (sub_gen [] rfl rfl ⟨zc rfl rfl, trivial⟩ trivial) ?_
    refine SOps.nil ?_
    refine SCode.ret ?_
    obtain rfl := Option.some.inj h
    exact ⟨⟨[(4, .c (.bool false))], []⟩, _, sub_gen [] rfl rfl ⟨zc rfl rfl, trivial⟩ trivial, resA1 (v := .c (.bool false)) rfl rfl, rfl⟩
  rcases cond_out h with ⟨g6, h⟩ | ⟨g6, h⟩
  · refine SCode.region (show SOps _ _ _ [0, 1, 2, 3, 4, 5, 6, 7, 8, 9, 10, 11, 12, 13, 14, 15, 16, 17, 18, 19, 20, 21, 22, 23, 24, 25, 26, 27, 28, 29, 30, 31, 32, 33, 34, 35, 36, 37, 38, 39, 40, 41, 42, 43, 44, 45, 46, 47] _ _ from ?_)
    refine SOps.q rfl (.plain rfl) rfl (q_field_ptr rfl rfl fd26_0) ?_
    refine SOps.q rfl (.plain rfl) rfl (q_load_ptr rfl rfl rfl rfl ty3) ?_
    refine SOps.q rfl (.plain rfl) rfl (q_field_ptr rfl rfl fd26_0) ?_
    refine SOps.q rfl (.plain rfl) rfl (q_load_ptr rfl rfl rfl rfl ty3) ?_
    refine SOps.q rfl (.plain rfl) rfl (q_neq rfl rfl rfl) ?_
    refine SOps.q rfl (.plain rfl) rfl (q_move rfl rfl) ?_
    refine SOps.q rfl (.guard 5 11 false rfl rfl (gF g1)) rfl (q_field_ptr rfl rfl fd26_3) ?_
    refine SOps.q rfl (.guard 5 11 false rfl rfl (gF g1)) rfl (q_load_ptr rfl rfl rfl rfl ty3) ?_
    refine SOps.q rfl (.guard 5 11 false rfl rfl (gF g1)) rfl (q_field_ptr rfl rfl fd26_3) ?_
    refine SOps.q rfl (.guard 5 11 false rfl rfl (gF g1)) rfl (q_load_ptr rfl rfl rfl rfl ty3) ?_
    refine SOps.q rfl (.guard 5 11 false rfl rfl (gF g1)) rfl (q_neq rfl rfl rfl) ?_
    refine SOps.q rfl (.plain rfl) rfl (q_pick_f rfl rfl g1 rfl) ?_
    refine SOps.q rfl (.plain rfl) rfl (q_move rfl rfl) ?_
    refine SOps.q rfl (.guard 12 18 false rfl rfl (gF g2)) rfl (q_load_ptr_all rfl rfl rfl rfl rfl ty26) ?_
    refine SOps.q rfl (.guard 12 18 false rfl rfl (gF g2)) rfl (q_load_ptr_all rfl rfl rfl rfl rfl ty26) ?_
    refine SOps.q rfl (.guard 12 18 false rfl rfl (gF g2)) rfl (q_call (chargenetref15_slot_ok F a0_a a1_b c_3 g4) [] rfl fn36 ⟨⟨rfl, rfl⟩, ⟨rfl, rfl⟩, trivial⟩ (.inl rfl)) ?_
    refine SOps.q rfl (.guard 12 18 false rfl rfl (gF g2)) rfl (q_not rfl rfl) ?_
    refine SOps.q rfl (.plain rfl) rfl (q_pick_f rfl rfl g2 rfl) ?_
    refine SOps.q rfl (.plain rfl) rfl (q_move rfl rfl) ?_
    refine SOps.q rfl (.guard 18 24 false rfl rfl (gF g5)) rfl (q_field_ptr rfl rfl fd26_6) ?_
    refine SOps.q rfl (.guard 18 24 false rfl rfl (gF g5)) rfl (q_load_ptr_all rfl rfl rfl rfl rfl ty23) ?_
    refine SOps.q rfl (.guard 18 24 false rfl rfl (gF g5)) rfl (q_field_ptr rfl rfl fd26_6) ?_
    refine SOps.q rfl (.guard 18 24 false rfl rfl (gF g5)) rfl (q_load_ptr_all rfl rfl rfl rfl rfl ty23) ?_
    refine SOps.q rfl (.guard 18 24 false rfl rfl (gF g5)) rfl (q_eqAgg (neg := true) rfl (.inr rfl) rfl rfl eqt23 rfl) ?_
    refine SOps.q rfl (.plain rfl) rfl (q_pick_f rfl rfl g5 rfl) ?_
    refine SOps.q rfl (.plain rfl) rfl (q_move rfl rfl) ?_
    refine SOps.skip rfl 25 31 false rfl rfl (.inl (gT g6)) rfl ?_
    refine SOps.skip rfl 25 31 false rfl rfl (.inl (gT g6)) rfl ?_
    refine SOps.skip rfl 25 31 false rfl rfl (.inl (gT g6)) rfl ?_
    refine SOps.skip rfl 25 31 false rfl rfl (.inl (gT g6)) rfl ?_
    refine SOps.skip rfl 25 31 false rfl rfl (.inl (gT g6)) rfl ?_
    refine SOps.q rfl (.plain rfl) rfl (q_pick_t rfl rfl g6 rfl) ?_
    refine SOps.q rfl (.plain rfl) rfl (q_move rfl rfl) ?_
    refine SOps.skip rfl 32 38 false rfl rfl (.inl rfl) rfl ?_
    refine SOps.skip rfl 32 38 false rfl rfl (.inl rfl) rfl ?_
    refine SOps.skip rfl 32 38 false rfl rfl (.inl rfl) rfl ?_
    refine SOps.skip rfl 32 38 false rfl rfl (.inl rfl) rfl ?_
    refine SOps.skip rfl 32 38 false rfl rfl (.inl rfl) rfl ?_
    refine SOps.q rfl (.plain rfl) rfl (q_pick_t rfl rfl rfl rfl) ?_
    refine SOps.q rfl (.plain rfl) rfl (q_move rfl rfl) ?_
    refine SOps.skip rfl 39 45 false rfl rfl (.inl rfl) rfl ?_
    refine SOps.skip rfl 39 45 false rfl rfl (.inl rfl) rfl ?_
    refine SOps.skip rfl 39 45 false rfl rfl (.inl rfl) rfl ?_
    refine SOps.skip rfl 39 45 false rfl rfl (.inl rfl) rfl ?_
    refine SOps.skip rfl 39 45 false rfl rfl (.inl rfl) rfl ?_
    refine SOps.skip rfl 39 45 false rfl rfl (.inl rfl) rfl ?_
    refine SOps.skip rfl 39 45 false rfl rfl (.inl rfl) rfl ?_
    refine SOps.q rfl (.plain rfl) rfl (q_pick_t rfl rfl rfl rfl) ?_
    refine SOps.sub (st' := ⟨[(2, .c (.ptr 0 0)), (3, .c (.ptr 1 0)), (53, .c (.bool true))], [.box [.int .i64 a0_a.ID, .int .i64 a0_a.Level, .int .i64 a0_a.Purpose, .int .i64 a0_a.Kind, .int .i64 a0_a.Conn, .str a0_a.Txn, .int .i64 a0_a.Span_From, .int .i64 a0_a.Span_To, .int .i64 a0_a.Start, .int .i64 a0_a.Duration, .vec a0_a.Periods.length 2 (gL cSPeriod dSPeriod a0_a.Periods)], .box [.int .i64 a1_b.ID, .int .i64 a1_b.Level, .int .i64 a1_b.Purpose, .int .i64 a1_b.Kind, .int .i64 a1_b.Conn, .str a1_b.Txn, .int .i64 a1_b.Span_From, .int .i64 a1_b.Span_To, .int .i64 a1_b.Start, .int .i64 a1_b.Duration, .vec a1_b.Periods.length 2 (gL cSPeriod dSPeriod a1_b.Periods)]]⟩) (sub_gen [0, 1] rfl rfl ⟨zc rfl rfl, zc rfl rfl, zc rfl rfl, trivial⟩ ⟨⟨_, rfl, ⟨ii rfl rfl, ii rfl rfl, ii rfl rfl, ii rfl rfl, ii rfl rfl, ii rfl rfl, ii rfl rfl, ii rfl rfl, ii rfl rfl, ii rfl rfl, ii rfl rfl, trivial⟩⟩, ⟨_, rfl, ⟨ii rfl rfl, ii rfl rfl, ii rfl rfl, ii rfl rfl, ii rfl rfl, ii rfl rfl, ii rfl rfl, ii rfl rfl, ii rfl rfl, ii rfl rfl, ii rfl rfl, trivial⟩⟩, trivial⟩) ?_
    refine SOps.nil ?_
    refine SCode.cond_t rfl rfl ?_
    refine SCode.seq ?_
    refine SCode.region (show SOps _ _ _ [0] _ _ from ?_)
    refine SOps.q rfl (.plain rfl) rfl (q_assign rfl rfl) ?_
    refine SOps.sub (st' := ⟨[(4, .c (.bool false))], []⟩) (sub_gen [] rfl rfl ⟨zc rfl rfl, trivial⟩ trivial) ?_
    refine SOps.nil ?_
    refine SCode.ret ?_
    obtain rfl := Option.some.inj h
    exact ⟨⟨[(4, .c (.bool false))], []⟩, _, sub_gen [] rfl rfl ⟨zc rfl rfl, trivial⟩ trivial, resA1 (v := .c (.bool false)) rfl rfl, rfl⟩
  rcases cond_out h with ⟨g7, h⟩ | ⟨g7, h⟩
  · refine SCode.region (show SOps _ _ _ [0, 1, 2, 3, 4, 5, 6, 7, 8, 9, 10, 11, 12, 13, 14, 15, 16, 17, 18, 19, 20, 21, 22, 23, 24, 25, 26, 27, 28, 29, 30, 31, 32, 33, 34, 35, 36, 37, 38, 39, 40, 41, 42, 43, 44, 45, 46, 47] _ _ from ?_)
    refine SOps.q rfl (.plain rfl) rfl (q_field_ptr rfl rfl fd26_0) ?_
    refine SOps.q rfl (.plain rfl) rfl (q_load_ptr rfl rfl rfl rfl ty3) ?_
    refine SOps.q rfl (.plain rfl) rfl (q_field_ptr rfl rfl fd26_0) ?_
    refine SOps.q rfl (.plain rfl) rfl (q_load_ptr rfl rfl rfl rfl ty3) ?_
    refine SOps.q rfl (.plain rfl) rfl (q_neq rfl rfl rfl) ?_
    refine SOps.q rfl (.plain rfl) rfl (q_move rfl rfl) ?_
    refine SOps.q rfl (.guard 5 11 false rfl rfl (gF g1)) rfl (q_field_ptr rfl rfl fd26_3) ?_
    refine SOps.q rfl (.guard 5 11 false rfl rfl (gF g1)) rfl (q_load_ptr rfl rfl rfl rfl ty3) ?_
    refine SOps.q rfl (.guard 5 11 false rfl rfl (gF g1)) rfl (q_field_ptr rfl rfl fd26_3) ?_
    refine SOps.q rfl (.guard 5 11 false rfl rfl (gF g1)) rfl (q_load_ptr rfl rfl rfl rfl ty3) ?_
    refine SOps.q rfl (.guard 5 11 false rfl rfl (gF g1)) rfl (q_neq rfl rfl rfl) ?_
    refine SOps.q rfl (.plain rfl) rfl (q_pick_f rfl rfl g1 rfl) ?_
    refine SOps.q rfl (.plain rfl) rfl (q_move rfl rfl) ?_
    refine SOps.q rfl (.guard 12 18 false rfl rfl (gF g2)) rfl (q_load_ptr_all rfl rfl rfl rfl rfl ty26) ?_
    refine SOps.q rfl (.guard 12 18 false rfl rfl (gF g2)) rfl (q_load_ptr_all rfl rfl rfl rfl rfl ty26) ?_
    refine SOps.q rfl (.guard 12 18 false rfl rfl (gF g2)) rfl (q_call (chargenetref15_slot_ok F a0_a a1_b c_3 g4) [] rfl fn36 ⟨⟨rfl, rfl⟩, ⟨rfl, rfl⟩, trivial⟩ (.inl rfl)) ?_
    refine SOps.q rfl (.guard 12 18 false rfl rfl (gF g2)) rfl (q_not rfl rfl) ?_
    refine SOps.q rfl (.plain rfl) rfl (q_pick_f rfl rfl g2 rfl) ?_
    refine SOps.q rfl (.plain rfl) rfl (q_move rfl rfl) ?_
    refine SOps.q rfl (.guard 18 24 false rfl rfl (gF g5)) rfl (q_field_ptr rfl rfl fd26_6) ?_
    refine SOps.q rfl (.guard 18 24 false rfl rfl (gF g5)) rfl (q_load_ptr_all rfl rfl rfl rfl rfl ty23) ?_
    refine SOps.q rfl (.guard 18 24 false rfl rfl (gF g5)) rfl (q_field_ptr rfl rfl fd26_6) ?_
    refine SOps.q rfl (.guard 18 24 false rfl rfl (gF g5)) rfl (q_load_ptr_all rfl rfl rfl rfl rfl ty23) ?_
    refine SOps.q rfl (.guard 18 24 false rfl rfl (gF g5)) rfl (q_eqAgg (neg := true) rfl (.inr rfl) rfl rfl eqt23 rfl) ?_
    refine SOps.q rfl (.plain rfl) rfl (q_pick_f rfl rfl g5 rfl) ?_
    refine SOps.q rfl (.plain rfl) rfl (q_move rfl rfl) ?_
    refine SOps.q rfl (.guard 25 31 false rfl rfl (gF g6)) rfl (q_field_ptr rfl rfl fd26_7) ?_
    refine SOps.q rfl (.guard 25 31 false rfl rfl (gF g6)) rfl (q_load_ptr rfl rfl rfl rfl ty3) ?_
    refine SOps.q rfl (.guard 25 31 false rfl rfl (gF g6)) rfl (q_field_ptr rfl rfl fd26_7) ?_
    refine SOps.q rfl (.guard 25 31 false rfl rfl (gF g6)) rfl (q_load_ptr rfl rfl rfl rfl ty3) ?_
    refine SOps.q rfl (.guard 25 31 false rfl rfl (gF g6)) rfl (q_neq rfl rfl rfl) ?_
    refine SOps.q rfl (.plain rfl) rfl (q_pick_f rfl rfl g6 rfl) ?_
    refine SOps.q rfl (.plain rfl) rfl (q_move rfl rfl) ?_
    refine SOps.skip rfl 32 38 false rfl rfl (.inl (gT g7)) rfl ?_
    refine SOps.skip rfl 32 38 false rfl rfl (.inl (gT g7)) rfl ?_
    refine SOps.skip rfl 32 38 false rfl rfl (.inl (gT g7)) rfl ?_
    refine SOps.skip rfl 32 38 false rfl rfl (.inl (gT g7)) rfl ?_
    refine SOps.skip rfl 32 38 false rfl rfl (.inl (gT g7)) rfl ?_
    refine SOps.q rfl (.plain rfl) rfl (q_pick_t rfl rfl g7 rfl) ?_
    refine SOps.q rfl (.plain rfl) rfl (q_move rfl rfl) ?_
    refine SOps.skip rfl 39 45 false rfl rfl (.inl rfl) rfl ?_
    refine SOps.skip rfl 39 45 false rfl rfl (.inl rfl) rfl ?_
    refine SOps.skip rfl 39 45 false rfl rfl (.inl rfl) rfl ?_
    refine SOps.skip rfl 39 45 false rfl rfl (.inl rfl) rfl ?_
    refine SOps.skip rfl 39 45 false rfl rfl (.inl rfl) rfl ?_
    refine SOps.skip rfl 39 45 false rfl rfl (.inl rfl) rfl ?_
    refine SOps.skip rfl 39 45 false rfl rfl (.inl rfl) rfl ?_
    refine SOps.q rfl (.plain rfl) rfl (q_pick_t rfl rfl rfl rfl) ?_
    refine SOps.sub (st' := ⟨[(2, .c (.ptr 0 0)), (3, .c (.ptr 1 0)), (53, .c (.bool true))], [.box [.int .i64 a0_a.ID, .int .i64 a0_a.Level, .int .i64 a0_a.Purpose, .int .i64 a0_a.Kind, .int .i64 a0_a.Conn, .str a0_a.Txn, .int .i64 a0_a.Span_From, .int .i64 a0_a.Span_To, .int .i64 a0_a.Start, .int .i64 a0_a.Duration, .vec a0_a.Periods.length 2 (gL cSPeriod dSPeriod a0_a.Periods)], .box [.int .i64 a1_b.ID, .int .i64 a1_b.Level, .int .i64 a1_b.Purpose, .int .i64 a1_b.Kind, .int .i64 a1_b.Conn, .str a1_b.Txn, .int .i64 a1_b.Span_From, .int .i64 a1_b.Span_To, .int .i64 a1_b.Start, .int .i64 a1_b.Duration, .vec a1_b.Periods.length 2 (gL cSPeriod dSPeriod a1_b.Periods)]]⟩) (sub_gen [0, 1] rfl rfl ⟨zc rfl rfl, zc rfl rfl, zc rfl rfl, trivial⟩ ⟨⟨_, rfl, ⟨ii rfl rfl, ii rfl rfl, ii rfl rfl, ii rfl rfl, ii rfl rfl, ii rfl rfl, ii rfl rfl, ii rfl rfl, ii rfl rfl, ii rfl rfl, ii rfl rfl, trivial⟩⟩, ⟨_, rfl, ⟨ii rfl rfl, ii rfl rfl, ii rfl rfl, ii rfl rfl, ii rfl rfl, ii rfl rfl, ii rfl rfl, ii rfl rfl, ii rfl rfl, ii rfl rfl, ii rfl rfl, trivial⟩⟩, trivial⟩) ?_
    refine SOps.nil ?_
    refine SCode.cond_t rfl rfl ?_
    refine SCode.seq ?_
    refine SCode.region (show SOps _ _ _ [0] _ _ from ?_)
    refine SOps.q rfl (.plain rfl) rfl (q_assign rfl rfl) ?_
    refine SOps.sub (st' := ⟨[(4, .c (.bool false))], []⟩) (sub_gen [] rfl rfl ⟨zc rfl rfl, trivial⟩ trivial) ?_
    refine SOps.nil ?_
    refine SCode.ret ?_
    obtain rfl := Option.some.inj h
    exact ⟨⟨[(4, .c (.bool false))], []⟩, _, sub_gen [] rfl rfl ⟨zc rfl rfl, trivial⟩ trivial, resA1 (v := .c (.bool false)) rfl rfl, rfl⟩
  rcases cond_out h with ⟨g8, h⟩ | ⟨g8, h⟩
  · refine SCode.region (show SOps _ _ _ [0, 1, 2, 3, 4, 5, 6, 7, 8, 9, 10, 11, 12, 13, 14, 15, 16, 17, 18, 19, 20, 21, 22, 23, 24, 25, 26, 27, 28, 29, 30, 31, 32, 33, 34, 35, 36, 37, 38, 39, 40, 41, 42, 43, 44, 45, 46, 47] _ _ from ?_)
    refine SOps.q rfl (.plain rfl) rfl (q_field_ptr rfl rfl fd26_0) ?_
    refine SOps.q rfl (.plain rfl) rfl (q_load_ptr rfl rfl rfl rfl ty3) ?_
    refine SOps.q rfl (.plain rfl) rfl (q_field_ptr rfl rfl fd26_0) ?_
    refine SOps.q rfl (.plain rfl) rfl (q_load_ptr rfl rfl rfl rfl ty3) ?_
    refine SOps.q rfl (.plain rfl) rfl (q_neq rfl rfl rfl) ?_
    refine SOps.q rfl (.plain rfl) rfl (q_move rfl rfl) ?_
    refine SOps.q rfl (.guard 5 11 false rfl rfl (gF g1)) rfl (q_field_ptr rfl rfl fd26_3) ?_
    refine SOps.q rfl (.guard 5 11 false rfl rfl (gF g1)) rfl (q_load_ptr rfl rfl rfl rfl ty3) ?_
    refine SOps.q rfl (.guard 5 11 false rfl rfl (gF g1)) rfl (q_field_ptr rfl rfl fd26_3) ?_
    refine SOps.q rfl (.guard 5 11 false rfl rfl (gF g1)) rfl (q_load_ptr rfl rfl rfl rfl ty3) ?_
    refine SOps.q rfl (.guard 5 11 false rfl rfl (gF g1)) rfl (q_neq rfl rfl rfl) ?_
    refine SOps.q rfl (.plain rfl) rfl (q_pick_f rfl rfl g1 rfl) ?_
    refine SOps.q rfl (.plain rfl) rfl (q_move rfl rfl) ?_
    refine SOps.q rfl (.guard 12 18 false rfl rfl (gF g2)) rfl (q_load_ptr_all rfl rfl rfl rfl rfl ty26) ?_
    refine SOps.q rfl (.guard 12 18 false rfl rfl (gF g2)) rfl (q_load_ptr_all rfl rfl rfl rfl rfl ty26) ?_
    refine SOps.q rfl (.guard 12 18 false rfl rfl (gF g2)) rfl (q_call (chargenetref15_slot_ok F a0_a a1_b c_3 g4) [] rfl fn36 ⟨⟨rfl, rfl⟩, ⟨rfl, rfl⟩, trivial⟩ (.inl rfl)) ?_
    refine SOps.q rfl (.guard 12 18 false rfl rfl (gF g2)) rfl (q_not rfl rfl) ?_
    refine SOps.q rfl (.plain rfl) rfl (q_pick_f rfl rfl g2 rfl) ?_
    refine SOps.q rfl (.plain rfl) rfl (q_move rfl rfl) ?_
    refine SOps.q rfl (.guard 18 24 false rfl rfl (gF g5)) rfl (q_field_ptr rfl rfl fd26_6) ?_
    refine SOps.q rfl (.guard 18 24 false rfl rfl (gF g5)) rfl (q_load_ptr_all rfl rfl rfl rfl rfl ty23) ?_
    refine SOps.q rfl (.guard 18 24 false rfl rfl (gF g5)) rfl (q_field_ptr rfl rfl fd26_6) ?_
    refine SOps.q rfl (.guard 18 24 false rfl rfl (gF g5)) rfl (q_load_ptr_all rfl rfl rfl rfl rfl ty23) ?_
    refine SOps.q rfl (.guard 18 24 false rfl rfl (gF g5)) rfl (q_eqAgg (neg := true) rfl (.inr rfl) rfl rfl eqt23 rfl) ?_
    refine SOps.q rfl (.plain rfl) rfl (q_pick_f rfl rfl g5 rfl) ?_
    refine SOps.q rfl (.plain rfl) rfl (q_move rfl rfl) ?_
    refine SOps.q rfl (.guard 25 31 false rfl rfl (gF g6)) rfl (q_field_ptr rfl rfl fd26_7) ?_
    refine SOps.q rfl (.guard 25 31 false rfl rfl (gF g6)) rfl (q_load_ptr rfl rfl rfl rfl ty3) ?_
    refine SOps.q rfl (.guard 25 31 false rfl rfl (gF g6)) rfl (q_field_ptr rfl rfl fd26_7) ?_
    refine SOps.q rfl (.guard 25 31 false rfl rfl (gF g6)) rfl (q_load_ptr rfl rfl rfl rfl ty3) ?_
    refine SOps.q rfl (.guard 25 31 false rfl rfl (gF g6)) rfl (q_neq rfl rfl rfl) ?_
    refine SOps.q rfl (.plain rfl) rfl (q_pick_f rfl rfl g6 rfl) ?_
    refine SOps.q rfl (.plain rfl) rfl (q_move rfl rfl) ?_
    refine SOps.q rfl (.guard 32 38 false rfl rfl (gF g7)) rfl (q_field_ptr rfl rfl fd26_8) ?_
    refine SOps.q rfl (.guard 32 38 false rfl rfl (gF g7)) rfl (q_load_ptr rfl rfl rfl rfl ty3) ?_
    refine SOps.q rfl (.guard 32 38 false rfl rfl (gF g7)) rfl (q_field_ptr rfl rfl fd26_8) ?_
    refine SOps.q rfl (.guard 32 38 false rfl rfl (gF g7)) rfl (q_load_ptr rfl rfl rfl rfl ty3) ?_
    refine SOps.q rfl (.guard 32 38 false rfl rfl (gF g7)) rfl (q_neq rfl rfl rfl) ?_
    refine SOps.q rfl (.plain rfl) rfl (q_pick_f rfl rfl g7 rfl) ?_
    refine SOps.q rfl (.plain rfl) rfl (q_move rfl rfl) ?_
    refine SOps.skip rfl 39 45 false rfl rfl (.inl (gT g8)) rfl ?_
    refine SOps.skip rfl 39 45 false rfl rfl (.inl (gT g8)) rfl ?_
    refine SOps.skip rfl 39 45 false rfl rfl (.inl (gT g8)) rfl ?_
    refine SOps.skip rfl 39 45 false rfl rfl (.inl (gT g8)) rfl ?_
    refine SOps.skip rfl 39 45 false rfl rfl (.inl (gT g8)) rfl ?_
    refine SOps.skip rfl 39 45 false rfl rfl (.inl (gT g8)) rfl ?_
    refine SOps.skip rfl 39 45 false rfl rfl (.inl (gT g8)) rfl ?_
    refine SOps.q rfl (.plain rfl) rfl (q_pick_t rfl rfl g8 rfl) ?_
    refine SOps.sub (st' := ⟨[(2, .c (.ptr 0 0)), (3, .c (.ptr 1 0)), (53, .c (.bool true))], [.box [.int .i64 a0_a.ID, .int .i64 a0_a.Level, .int .i64 a0_a.Purpose, .int .i64 a0_a.Kind, .int .i64 a0_a.Conn, .str a0_a.Txn, .int .i64 a0_a.Span_From, .int .i64 a0_a.Span_To, .int .i64 a0_a.Start, .int .i64 a0_a.Duration, .vec a0_a.Periods.length 2 (gL cSPeriod dSPeriod a0_a.Periods)], .box [.int .i64 a1_b.ID, .int .i64 a1_b.Level, .int .i64 a1_b.Purpose, .int .i64 a1_b.Kind, .int .i64 a1_b.Conn, .str a1_b.Txn, .int .i64 a1_b.Span_From, .int .i64 a1_b.Span_To, .int .i64 a1_b.Start, .int .i64 a1_b.Duration, .vec a1_b.Periods.length 2 (gL cSPeriod dSPeriod a1_b.Periods)]]⟩) (sub_gen [0, 1] rfl rfl ⟨zc rfl rfl, zc rfl rfl, zc rfl rfl, trivial⟩ ⟨⟨_, rfl, ⟨ii rfl rfl, ii rfl rfl, ii rfl rfl, ii rfl rfl, ii rfl rfl, ii rfl rfl, ii rfl rfl, ii rfl rfl, ii rfl rfl, ii rfl rfl, ii rfl rfl, trivial⟩⟩, ⟨_, rfl, ⟨ii rfl rfl, ii rfl rfl, ii rfl rfl, ii rfl rfl, ii rfl rfl, ii rfl rfl, ii rfl rfl, ii rfl rfl, ii rfl rfl, ii rfl rfl, ii rfl rfl, trivial⟩⟩, trivial⟩) ?_
    refine SOps.nil ?_
    refine SCode.cond_t rfl rfl ?_
    refine SCode.seq ?_
    refine SCode.region (show SOps _ _ _ [0] _ _ from ?_)
    refine SOps.q rfl (.plain rfl) rfl (q_assign rfl rfl) ?_
    refine SOps.sub (st' := ⟨[(4, .c (.bool false))], []⟩) (sub_gen [] rfl rfl ⟨zc rfl rfl, trivial⟩ trivial) ?_
    refine SOps.nil ?_
    refine SCode.ret ?_
    obtain rfl := Option.some.inj h
    exact ⟨⟨[(4, .c (.bool false))], []⟩, _, sub_gen [] rfl rfl ⟨zc rfl rfl, trivial⟩ trivial, resA1 (v := .c (.bool false)) rfl rfl, rfl⟩
  refine SCode.region (show SOps _ _ _ [0, 1, 2, 3, 4, 5, 6, 7, 8, 9, 10, 11, 12, 13, 14, 15, 16, 17, 18, 19, 20, 21, 22, 23, 24, 25, 26, 27, 28, 29, 30, 31, 32, 33, 34, 35, 36, 37, 38, 39, 40, 41, 42, 43, 44, 45, 46, 47] _ _ from ?_)
  refine SOps.q rfl (.plain rfl) rfl (q_field_ptr rfl rfl fd26_0) ?_
  refine SOps.q rfl (.plain rfl) rfl (q_load_ptr rfl rfl rfl rfl ty3) ?_
  refine SOps.q rfl (.plain rfl) rfl (q_field_ptr rfl rfl fd26_0) ?_
  refine SOps.q rfl (.plain rfl) rfl (q_load_ptr rfl rfl rfl rfl ty3) ?_
  refine SOps.q rfl (.plain rfl) rfl (q_neq rfl rfl rfl) ?_
  refine SOps.q rfl (.plain rfl) rfl (q_move rfl rfl) ?_
  refine SOps.q rfl (.guard 5 11 false rfl rfl (gF g1)) rfl (q_field_ptr rfl rfl fd26_3) ?_
  refine SOps.q rfl (.guard 5 11 false rfl rfl (gF g1)) rfl (q_load_ptr rfl rfl rfl rfl ty3) ?_
  refine SOps.q rfl (.guard 5 11 false rfl rfl (gF g1)) rfl (q_field_ptr rfl rfl fd26_3) ?_
  refine SOps.q rfl (.guard 5 11 false rfl rfl (gF g1)) rfl (q_load_ptr rfl rfl rfl rfl ty3) ?_
  refine SOps.q rfl (.guard 5 11 false rfl rfl (gF g1)) rfl (q_neq rfl rfl rfl) ?_
  refine SOps.q rfl (.plain rfl) rfl (q_pick_f rfl rfl g1 rfl) ?_
  refine SOps.q rfl (.plain rfl) rfl (q_move rfl rfl) ?_
  refine SOps.q rfl (.guard 12 18 false rfl rfl (gF g2)) rfl (q_load_ptr_all rfl rfl rfl rfl rfl ty26) ?_
  refine SOps.q rfl (.guard 12 18 false rfl rfl (gF g2)) rfl (q_load_ptr_all rfl rfl rfl rfl rfl ty26) ?_
  refine SOps.q rfl (.guard 12 18 false rfl rfl (gF g2)) rfl (q_call (chargenetref15_slot_ok F a0_a a1_b c_3 g4) [] rfl fn36 ⟨⟨rfl, rfl⟩, ⟨rfl, rfl⟩, trivial⟩ (.inl rfl)) ?_
  refine SOps.q rfl (.guard 12 18 false rfl rfl (gF g2)) rfl (q_not rfl rfl) ?_
  refine SOps.q rfl (.plain rfl) rfl (q_pick_f rfl rfl g2 rfl) ?_
  refine SOps.q rfl (.plain rfl) rfl (q_move rfl rfl) ?_
  refine SOps.q rfl (.guard 18 24 false rfl rfl (gF g5)) rfl (q_field_ptr rfl rfl fd26_6) ?_
  refine SOps.q rfl (.guard 18 24 false rfl rfl (gF g5)) rfl (q_load_ptr_all rfl rfl rfl rfl rfl ty23) ?_
  refine SOps.q rfl (.guard 18 24 false rfl rfl (gF g5)) rfl (q_field_ptr rfl rfl fd26_6) ?_
  refine SOps.q rfl (.guard 18 24 false rfl rfl (gF g5)) rfl (q_load_ptr_all rfl rfl rfl rfl rfl ty23) ?_
  refine SOps.q rfl (.guard 18 24 false rfl rfl (gF g5)) rfl (q_eqAgg (neg := true) rfl (.inr rfl) rfl rfl eqt23 rfl) ?_
  refine SOps.q rfl (.plain rfl) rfl (q_pick_f rfl rfl g5 rfl) ?_
  refine SOps.q rfl (.plain rfl) rfl (q_move rfl rfl) ?_
  refine SOps.q rfl (.guard 25 31 false rfl rfl (gF g6)) rfl (q_field_ptr rfl rfl fd26_7) ?_
  refine SOps.q rfl (.guard 25 31 false rfl rfl (gF g6)) rfl (q_load_ptr rfl rfl rfl rfl ty3) ?_
  refine SOps.q rfl (.guard 25 31 false rfl rfl (gF g6)) rfl (q_field_ptr rfl rfl fd26_7) ?_
  refine SOps.q rfl (.guard 25 31 false rfl rfl (gF g6)) rfl (q_load_ptr rfl rfl rfl rfl ty3) ?_
  refine SOps.q rfl (.guard 25 31 false rfl rfl (gF g6)) rfl (q_neq rfl rfl rfl) ?_
  refine SOps.q rfl (.plain rfl) rfl (q_pick_f rfl rfl g6 rfl) ?_
  refine SOps.q rfl (.plain rfl) rfl (q_move rfl rfl) ?_
  refine SOps.q rfl (.guard 32 38 false rfl rfl (gF g7)) rfl (q_field_ptr rfl rfl fd26_8) ?_
  refine SOps.q rfl (.guard 32 38 false rfl rfl (gF g7)) rfl (q_load_ptr rfl rfl rfl rfl ty3) ?_
  refine SOps.q rfl (.guard 32 38 false rfl rfl (gF g7)) rfl (q_field_ptr rfl rfl fd26_8) ?_
  refine SOps.q rfl (.guard 32 38 false rfl rfl (gF g7)) rfl (q_load_ptr rfl rfl rfl rfl ty3) ?_
  refine SOps.q rfl (.guard 32 38 false rfl rfl (gF g7)) rfl (q_neq rfl rfl rfl) ?_
  refine SOps.q rfl (.plain rfl) rfl (q_pick_f rfl rfl g7 rfl) ?_
  refine SOps.q rfl (.plain rfl) rfl (q_move rfl rfl) ?_
  refine SOps.q rfl (.guard 39 45 false rfl rfl (gF g8)) rfl (q_field_ptr rfl rfl fd26_9) ?_
  refine SOps.q rfl (.guard 39 45 false rfl rfl (gF g8)) rfl (q_load_ptr rfl rfl rfl rfl ty24) ?_
  refine SOps.q rfl (.guard 39 45 false rfl rfl (gF g8)) rfl (q_len_vec rfl rfl sl24) ?_
  refine SOps.q rfl (.guard 39 45 false rfl rfl (gF g8)) rfl (q_field_ptr rfl rfl fd26_9) ?_
  refine SOps.q rfl (.guard 39 45 false rfl rfl (gF g8)) rfl (q_load_ptr rfl rfl rfl rfl ty24) ?_
  refine SOps.q rfl (.guard 39 45 false rfl rfl (gF g8)) rfl (q_len_vec rfl rfl sl24) ?_
  refine SOps.q rfl (.guard 39 45 false rfl rfl (gF g8)) rfl (q_neq rfl rfl rfl) ?_
  refine SOps.q rfl (.plain rfl) rfl (q_pick_f rfl rfl g8 rfl) ?_
  refine SOps.sub (st' := ⟨[(2, .c (.ptr 0 0)), (3, .c (.ptr 1 0)), (53, .c (.bool ((!decide (((a0_a.Periods).length : Int) = ((a1_b.Periods).length : Int))))))], [.box [.int .i64 a0_a.ID, .int .i64 a0_a.Level, .int .i64 a0_a.Purpose, .int .i64 a0_a.Kind, .int .i64 a0_a.Conn, .str a0_a.Txn, .int .i64 a0_a.Span_From, .int .i64 a0_a.Span_To, .int .i64 a0_a.Start, .int .i64 a0_a.Duration, .vec a0_a.Periods.length 2 (gL cSPeriod dSPeriod a0_a.Periods)], .box [.int .i64 a1_b.ID, .int .i64 a1_b.Level, .int .i64 a1_b.Purpose, .int .i64 a1_b.Kind, .int .i64 a1_b.Conn, .str a1_b.Txn, .int .i64 a1_b.Span_From, .int .i64 a1_b.Span_To, .int .i64 a1_b.Start, .int .i64 a1_b.Duration, .vec a1_b.Periods.length 2 (gL cSPeriod dSPeriod a1_b.Periods)]]⟩) (sub_gen [0, 1] rfl rfl ⟨zc rfl rfl, zc rfl rfl, zc rfl rfl, trivial⟩ ⟨⟨_, rfl, ⟨ii rfl rfl, ii rfl rfl, ii rfl rfl, ii rfl rfl, ii rfl rfl, ii rfl rfl, ii rfl rfl, ii rfl rfl, ii rfl rfl, ii rfl rfl, ii rfl rfl, trivial⟩⟩, ⟨_, rfl, ⟨ii rfl rfl, ii rfl rfl, ii rfl rfl, ii rfl rfl, ii rfl rfl, ii rfl rfl, ii rfl rfl, ii rfl rfl, ii rfl rfl, ii rfl rfl, ii rfl rfl, trivial⟩⟩, trivial⟩) ?_
  refine SOps.nil ?_
  rcases cond_out h with ⟨g9, h⟩ | ⟨g9, h⟩
  · refine SCode.cond_t rfl g9 ?_
    refine SCode.seq ?_
    refine SCode.region (show SOps _ _ _ [0] _ _ from ?_)
    refine SOps.q rfl (.plain rfl) rfl (q_assign rfl rfl) ?_
    refine SOps.sub (st' := ⟨[(4, .c (.bool false))], []⟩) (sub_gen [] rfl rfl ⟨zc rfl rfl, trivial⟩ trivial) ?_
    refine SOps.nil ?_
    refine SCode.ret ?_
    obtain rfl := Option.some.inj h
    exact ⟨⟨[(4, .c (.bool false))], []⟩, _, sub_gen [] rfl rfl ⟨zc rfl rfl, trivial⟩ trivial, resA1 (v := .c (.bool false)) rfl rfl, rfl⟩
  refine SCode.cond_f rfl g9 ?_
  refine SCode.skip ?_
  refine SCode.join (σ := Unit) (S := fun s => ⟨[], []⟩) (g := fun s => chargenetref15_Same_p10 = some r) ?_ ?_
  rotate_left
  · refine SCode.seq ?_
    refine SCode.region (show SOps _ _ _ [0] _ _ from ?_)
    refine SOps.q rfl (.plain rfl) rfl (q_assign rfl rfl) ?_
    refine SOps.sub (st' := ⟨[(2, .c (.ptr 0 0)), (3, .c (.ptr 1 0)), (5, .c (.int .i64 0))], [.box [.int .i64 a0_a.ID, .int .i64 a0_a.Level, .int .i64 a0_a.Purpose, .int .i64 a0_a.Kind, .int .i64 a0_a.Conn, .str a0_a.Txn, .int .i64 a0_a.Span_From, .int .i64 a0_a.Span_To, .int .i64 a0_a.Start, .int .i64 a0_a.Duration, .vec a0_a.Periods.length 2 (gL cSPeriod dSPeriod a0_a.Periods)], .box [.int .i64 a1_b.ID, .int .i64 a1_b.Level, .int .i64 a1_b.Purpose, .int .i64 a1_b.Kind, .int .i64 a1_b.Conn, .str a1_b.Txn, .int .i64 a1_b.Span_From, .int .i64 a1_b.Span_To, .int .i64 a1_b.Start, .int .i64 a1_b.Duration, .vec a1_b.Periods.length 2 (gL cSPeriod dSPeriod a1_b.Periods)]]⟩) (sub_gen [0, 1] rfl rfl ⟨zc rfl rfl, zc rfl rfl, zc rfl rfl, trivial⟩ ⟨⟨_, rfl, ⟨ii rfl rfl, ii rfl rfl, ii rfl rfl, ii rfl rfl, ii rfl rfl, ii rfl rfl, ii rfl rfl, ii rfl rfl, ii rfl rfl, ii rfl rfl, ii rfl rfl, trivial⟩⟩, ⟨_, rfl, ⟨ii rfl rfl, ii rfl rfl, ii rfl rfl, ii rfl rfl, ii rfl rfl, ii rfl rfl, ii rfl rfl, ii rfl rfl, ii rfl rfl, ii rfl rfl, ii rfl rfl, trivial⟩⟩, trivial⟩) ?_
    refine SOps.nil ?_
    refine SCode.block ?_
    refine SCode.sub (st' := ⟨[(2, .c (.ptr 0 0)), (3, .c (.ptr 1 0)), (5, .c (.int .i64 0))], [.box [.int .i64 a0_a.ID, .int .i64 a0_a.Level, .int .i64 a0_a.Purpose, .int .i64 a0_a.Kind, .int .i64 a0_a.Conn, .str a0_a.Txn, .int .i64 a0_a.Span_From, .int .i64 a0_a.Span_To, .int .i64 a0_a.Start, .int .i64 a0_a.Duration, .vec a0_a.Periods.length 2 (gL cSPeriod dSPeriod a0_a.Periods)], .box [.int .i64 a1_b.ID, .int .i64 a1_b.Level, .int .i64 a1_b.Purpose, .int .i64 a1_b.Kind, .int .i64 a1_b.Conn, .str a1_b.Txn, .int .i64 a1_b.Span_From, .int .i64 a1_b.Span_To, .int .i64 a1_b.Start, .int .i64 a1_b.Duration, .vec a1_b.Periods.length 2 (gL cSPeriod dSPeriod a1_b.Periods)]]⟩) (sub_gen [0, 1] rfl rfl ⟨zc rfl rfl, zc rfl rfl, zc rfl rfl, trivial⟩ ⟨⟨_, rfl, ⟨ii rfl rfl, ii rfl rfl, ii rfl rfl, ii rfl rfl, ii rfl rfl, ii rfl rfl, ii rfl rfl, ii rfl rfl, ii rfl rfl, ii rfl rfl, ii rfl rfl, trivial⟩⟩, ⟨_, rfl, ⟨ii rfl rfl, ii rfl rfl, ii rfl rfl, ii rfl rfl, ii rfl rfl, ii rfl rfl, ii rfl rfl, ii rfl rfl, ii rfl rfl, ii rfl rfl, ii rfl rfl, trivial⟩⟩, trivial⟩) ?_
    refine (SCode.loop (σ := Nat × Int) (S := fun s => ⟨[(2, .c (.ptr 0 0)), (3, .c (.ptr 1 0)), (5, .c (.int .i64 s.2))], [.box [.int .i64 a0_a.ID, .int .i64 a0_a.Level, .int .i64 a0_a.Purpose, .int .i64 a0_a.Kind, .int .i64 a0_a.Conn, .str a0_a.Txn, .int .i64 a0_a.Span_From, .int .i64 a0_a.Span_To, .int .i64 a0_a.Start, .int .i64 a0_a.Duration, .vec a0_a.Periods.length 2 (gL cSPeriod dSPeriod a0_a.Periods)], .box [.int .i64 a1_b.ID, .int .i64 a1_b.Level, .int .i64 a1_b.Purpose, .int .i64 a1_b.Kind, .int .i64 a1_b.Conn, .str a1_b.Txn, .int .i64 a1_b.Span_From, .int .i64 a1_b.Span_To, .int .i64 a1_b.Start, .int .i64 a1_b.Duration, .vec a1_b.Periods.length 2 (gL cSPeriod dSPeriod a1_b.Periods)]]⟩) (g := fun s => chargenetref15_Same_l20 a0_a a1_b s.1 s.2 = some r) (μ := fun s => s.1) (F, 0) h ?_)
    rintro ⟨n_20, i_15⟩ h
    replace h : chargenetref15_Same_l20 a0_a a1_b n_20 i_15 = some r := h
    show SCode _ _ _ ⟨[(2, .c (.ptr 0 0)), (3, .c (.ptr 1 0)), (5, .c (.int .i64 i_15))], [.box [.int .i64 a0_a.ID, .int .i64 a0_a.Level, .int .i64 a0_a.Purpose, .int .i64 a0_a.Kind, .int .i64 a0_a.Conn, .str a0_a.Txn, .int .i64 a0_a.Span_From, .int .i64 a0_a.Span_To, .int .i64 a0_a.Start, .int .i64 a0_a.Duration, .vec a0_a.Periods.length 2 (gL cSPeriod dSPeriod a0_a.Periods)], .box [.int .i64 a1_b.ID, .int .i64 a1_b.Level, .int .i64 a1_b.Purpose, .int .i64 a1_b.Kind, .int .i64 a1_b.Conn, .str a1_b.Txn, .int .i64 a1_b.Span_From, .int .i64 a1_b.Span_To, .int .i64 a1_b.Start, .int .i64 a1_b.Duration, .vec a1_b.Periods.length 2 (gL cSPeriod dSPeriod a1_b.Periods)]]⟩ _
    cases n_20 with
    | zero => cases h
    | succ n_20 =>
      replace h : chargenetref15_Same_b20 a0_a a1_b (fun i_15 => chargenetref15_Same_l20 a0_a a1_b n_20 i_15) i_15 = some r := h
      unfold chargenetref15_Same_b20 at h
      refine SCode.seq ?_
      refine SCode.seq ?_
      refine SCode.region (show SOps _ _ _ [0, 1, 2, 3, 4] _ _ from ?_)
      refine SOps.q rfl (.plain rfl) rfl (q_move rfl rfl) ?_
      refine SOps.q rfl (.plain rfl) rfl (q_field_ptr rfl rfl fd26_9) ?_
      refine SOps.q rfl (.plain rfl) rfl (q_load_ptr rfl rfl rfl rfl ty24) ?_
      refine SOps.q rfl (.plain rfl) rfl (q_len_vec rfl rfl sl24) ?_
      refine SOps.q rfl (.plain rfl) rfl (q_lss rfl rfl rfl) ?_
      refine SOps.sub (st' := ⟨[(2, .c (.ptr 0 0)), (3, .c (.ptr 1 0)), (5, .c (.int .i64 i_15)), (58, .c (.bool (decide (i_15 < ((a0_a.Periods).length : Int)))))], [.box [.int .i64 a0_a.ID, .int .i64 a0_a.Level, .int .i64 a0_a.Purpose, .int .i64 a0_a.Kind, .int .i64 a0_a.Conn, .str a0_a.Txn, .int .i64 a0_a.Span_From, .int .i64 a0_a.Span_To, .int .i64 a0_a.Start, .int .i64 a0_a.Duration, .vec a0_a.Periods.length 2 (gL cSPeriod dSPeriod a0_a.Periods)], .box [.int .i64 a1_b.ID, .int .i64 a1_b.Level, .int .i64 a1_b.Purpose, .int .i64 a1_b.Kind, .int .i64 a1_b.Conn, .str a1_b.Txn, .int .i64 a1_b.Span_From, .int .i64 a1_b.Span_To, .int .i64 a1_b.Start, .int .i64 a1_b.Duration, .vec a1_b.Periods.length 2 (gL cSPeriod dSPeriod a1_b.Periods)]]⟩) (sub_gen [0, 1] rfl rfl ⟨zc rfl rfl, zc rfl rfl, zc rfl rfl, zc rfl rfl, trivial⟩ ⟨⟨_, rfl, ⟨ii rfl rfl, ii rfl rfl, ii rfl rfl, ii rfl rfl, ii rfl rfl, ii rfl rfl, ii rfl rfl, ii rfl rfl, ii rfl rfl, ii rfl rfl, ii rfl rfl, trivial⟩⟩, ⟨_, rfl, ⟨ii rfl rfl, ii rfl rfl, ii rfl rfl, ii rfl rfl, ii rfl rfl, ii rfl rfl, ii rfl rfl, ii rfl rfl, ii rfl rfl, ii rfl rfl, ii rfl rfl, trivial⟩⟩, trivial⟩) ?_
      refine SOps.nil ?_
      rcases cond_out h with ⟨g21, h⟩ | ⟨g21, h⟩
      · refine SCode.cond_t rfl g21 ?_
        refine SCode.skip ?_
        refine SCode.seq ?_
        refine SCode.block ?_
        refine SCode.seq ?_
        obtain ⟨g22, h⟩ := guard_out h
        obtain ⟨g23, h⟩ := guard_out h
        refine SCode.draw (s' := [(71, .c (.bool ((xor true (decide ((a0_a.Periods.getD i_15.toNat dSPeriod).At = (a1_b.Periods.getD i_15.toNat dSPeriod).At) && (decide ((a0_a.Periods.getD i_15.toNat dSPeriod).Limit = (a1_b.Periods.getD i_15.toNat dSPeriod).Limit) && true)))))), (70, .a [.int .i64 ((a1_b.Periods.getD i_15.toNat dSPeriod).At), .int .i64 ((a1_b.Periods.getD i_15.toNat dSPeriod).Limit)]), (69, .c (.eptr 2 (cSPeriod (a1_b.Periods.getD i_15.toNat dSPeriod)) 0)), (68, .c (.int .i64 i_15)), (67, .c (.vec a1_b.Periods.length 2 (gL cSPeriod dSPeriod a1_b.Periods))), (66, .c (.ptr 1 10)), (65, .a [.int .i64 ((a0_a.Periods.getD i_15.toNat dSPeriod).At), .int .i64 ((a0_a.Periods.getD i_15.toNat dSPeriod).Limit)]), (64, .c (.eptr 2 (cSPeriod (a0_a.Periods.getD i_15.toNat dSPeriod)) 0)), (63, .c (.int .i64 i_15)), (62, .c (.vec a0_a.Periods.length 2 (gL cSPeriod dSPeriod a0_a.Periods))), (61, .c (.ptr 0 10)), (2, .c (.ptr 0 0)), (3, .c (.ptr 1 0)), (5, .c (.int .i64 i_15)), (58, .c (.bool (decide (i_15 < ((a0_a.Periods).length : Int)))))]) mixed [[], [0], [], [0, 1, 2], [0, 1, 2, 3], [], [5], [], [5, 6, 7], [5, 6, 7, 8], [0, 1, 2, 3, 4, 5, 6, 7, 8, 9]] 11 0 rfl rfl ?_ ?_
        · refine QChain.run rfl (.plain rfl) rfl (q_field_ptr rfl rfl fd26_9) ?_
          refine QChain.run rfl (.plain rfl) rfl (q_load_ptr rfl rfl rfl rfl ty24) ?_
          refine QChain.run rfl (.plain rfl) rfl (q_move rfl rfl) ?_
          refine QChain.run rfl (.plain rfl) rfl (q_index_vec rfl rfl rfl sl24 rfl g22.1 g22.2) ?_
          refine QChain.run rfl (.plain rfl) rfl (q_load_eptr_all rfl rfl rfl ty47) ?_
          refine QChain.run rfl (.plain rfl) rfl (q_field_ptr rfl rfl fd26_9) ?_
          refine QChain.run rfl (.plain rfl) rfl (q_load_ptr rfl rfl rfl rfl ty24) ?_
          refine QChain.run rfl (.plain rfl) rfl (q_move rfl rfl) ?_
          refine QChain.run rfl (.plain rfl) rfl (q_index_vec rfl rfl rfl sl24 rfl g23.1 g23.2) ?_
          refine QChain.run rfl (.plain rfl) rfl (q_load_eptr_all rfl rfl rfl ty47) ?_
          refine QChain.run rfl (.plain rfl) rfl (q_eqAgg (neg := true) rfl (.inr rfl) rfl rfl eqt47 rfl) ?_
          exact QChain.nil _ _
        refine (show SOps _ _ _ [] _ _ from ?_)
        refine SOps.sub (st' := ⟨[(2, .c (.ptr 0 0)), (3, .c (.ptr 1 0)), (5, .c (.int .i64 i_15)), (71, .c (.bool ((xor true (decide ((a0_a.Periods.getD i_15.toNat dSPeriod).At = (a1_b.Periods.getD i_15.toNat dSPeriod).At) && (decide ((a0_a.Periods.getD i_15.toNat dSPeriod).Limit = (a1_b.Periods.getD i_15.toNat dSPeriod).Limit) && true))))))], [.box [.int .i64 a0_a.ID, .int .i64 a0_a.Level, .int .i64 a0_a.Purpose, .int .i64 a0_a.Kind, .int .i64 a0_a.Conn, .str a0_a.Txn, .int .i64 a0_a.Span_From, .int .i64 a0_a.Span_To, .int .i64 a0_a.Start, .int .i64 a0_a.Duration, .vec a0_a.Periods.length 2 (gL cSPeriod dSPeriod a0_a.Periods)], .box [.int .i64 a1_b.ID, .int .i64 a1_b.Level, .int .i64 a1_b.Purpose, .int .i64 a1_b.Kind, .int .i64 a1_b.Conn, .str a1_b.Txn, .int .i64 a1_b.Span_From, .int .i64 a1_b.Span_To, .int .i64 a1_b.Start, .int .i64 a1_b.Duration, .vec a1_b.Periods.length 2 (gL cSPeriod dSPeriod a1_b.Periods)]]⟩) (sub_gen [0, 1] rfl rfl ⟨zc rfl rfl, zc rfl rfl, zc rfl rfl, zc rfl rfl, trivial⟩ ⟨⟨_, rfl, ⟨ii rfl rfl, ii rfl rfl, ii rfl rfl, ii rfl rfl, ii rfl rfl, ii rfl rfl, ii rfl rfl, ii rfl rfl, ii rfl rfl, ii rfl rfl, ii rfl rfl, trivial⟩⟩, ⟨_, rfl, ⟨ii rfl rfl, ii rfl rfl, ii rfl rfl, ii rfl rfl, ii rfl rfl, ii rfl rfl, ii rfl rfl, ii rfl rfl, ii rfl rfl, ii rfl rfl, ii rfl rfl, trivial⟩⟩, trivial⟩) ?_
        refine SOps.nil ?_
        rcases cond_out h with ⟨g24, h⟩ | ⟨g24, h⟩
        · refine SCode.cond_t rfl g24 ?_
          refine SCode.seq ?_
          refine SCode.region (show SOps _ _ _ [0] _ _ from ?_)
          refine SOps.q rfl (.plain rfl) rfl (q_assign rfl rfl) ?_
          refine SOps.sub (st' := ⟨[(4, .c (.bool false))], []⟩) (sub_gen [] rfl rfl ⟨zc rfl rfl, trivial⟩ trivial) ?_
          refine SOps.nil ?_
          refine SCode.ret ?_
          obtain rfl := Option.some.inj h
          exact ⟨⟨[(4, .c (.bool false))], []⟩, _, sub_gen [] rfl rfl ⟨zc rfl rfl, trivial⟩ trivial, resA1 (v := .c (.bool false)) rfl rfl, rfl⟩
        refine SCode.cond_f rfl g24 ?_
        refine SCode.skip ?_
        refine SCode.region (show SOps _ _ _ [0, 1, 2] _ _ from ?_)
        refine SOps.q rfl (.plain rfl) rfl (q_move rfl rfl) ?_
        refine SOps.q rfl (.plain rfl) rfl (q_add rfl rfl rfl) ?_
        refine SOps.q rfl (.plain rfl) rfl (q_assign rfl rfl) ?_
        refine SOps.sub (st' := ⟨[(2, .c (.ptr 0 0)), (3, .c (.ptr 1 0)), (5, .c (.int .i64 (IntKind.wrap .i64 (i_15 + 1))))], [.box [.int .i64 a0_a.ID, .int .i64 a0_a.Level, .int .i64 a0_a.Purpose, .int .i64 a0_a.Kind, .int .i64 a0_a.Conn, .str a0_a.Txn, .int .i64 a0_a.Span_From, .int .i64 a0_a.Span_To, .int .i64 a0_a.Start, .int .i64 a0_a.Duration, .vec a0_a.Periods.length 2 (gL cSPeriod dSPeriod a0_a.Periods)], .box [.int .i64 a1_b.ID, .int .i64 a1_b.Level, .int .i64 a1_b.Purpose, .int .i64 a1_b.Kind, .int .i64 a1_b.Conn, .str a1_b.Txn, .int .i64 a1_b.Span_From, .int .i64 a1_b.Span_To, .int .i64 a1_b.Start, .int .i64 a1_b.Duration, .vec a1_b.Periods.length 2 (gL cSPeriod dSPeriod a1_b.Periods)]]⟩) (sub_gen [0, 1] rfl rfl ⟨zc rfl rfl, zc rfl rfl, zc rfl rfl, trivial⟩ ⟨⟨_, rfl, ⟨ii rfl rfl, ii rfl rfl, ii rfl rfl, ii rfl rfl, ii rfl rfl, ii rfl rfl, ii rfl rfl, ii rfl rfl, ii rfl rfl, ii rfl rfl, ii rfl rfl, trivial⟩⟩, ⟨_, rfl, ⟨ii rfl rfl, ii rfl rfl, ii rfl rfl, ii rfl rfl, ii rfl rfl, ii rfl rfl, ii rfl rfl, ii rfl rfl, ii rfl rfl, ii rfl rfl, ii rfl rfl, trivial⟩⟩, trivial⟩) ?_
        refine SOps.nil ?_
        exact ⟨(n_20, IntKind.wrap .i64 (i_15 + 1)), h, Nat.lt_succ_self n_20, sub_gen [0, 1] rfl rfl ⟨zc rfl rfl, zc rfl rfl, zc rfl rfl, trivial⟩ ⟨⟨_, rfl, ⟨ii rfl rfl, ii rfl rfl, ii rfl rfl, ii rfl rfl, ii rfl rfl, ii rfl rfl, ii rfl rfl, ii rfl rfl, ii rfl rfl, ii rfl rfl, ii rfl rfl, trivial⟩⟩, ⟨_, rfl, ⟨ii rfl rfl, ii rfl rfl, ii rfl rfl, ii rfl rfl, ii rfl rfl, ii rfl rfl, ii rfl rfl, ii rfl rfl, ii rfl rfl, ii rfl rfl, ii rfl rfl, trivial⟩⟩, trivial⟩⟩
      refine SCode.cond_f rfl g21 ?_
      refine SCode.exit ?_
      exact ⟨(), h, sub_gen [] rfl rfl trivial trivial⟩
  rintro ⟨⟩ h
  show SCode _ _ _ ⟨[], []⟩ _
  replace h : chargenetref15_Same_p10 = some r := h
  unfold chargenetref15_Same_p10 at h
  refine SCode.seq ?_
  refine SCode.region (show SOps _ _ _ [0] _ _ from ?_)
  refine SOps.q rfl (.plain rfl) rfl (q_assign rfl rfl) ?_
  refine SOps.sub (st' := ⟨[(4, .c (.bool true))], []⟩) (sub_gen [] rfl rfl ⟨zc rfl rfl, trivial⟩ trivial) ?_
  refine SOps.nil ?_
  refine SCode.ret ?_
  obtain rfl := Option.some.inj h
  exact ⟨⟨[(4, .c (.bool true))], []⟩, _, sub_gen [] rfl rfl ⟨zc rfl rfl, trivial⟩ trivial, resA1 (v := .c (.bool true)) rfl rfl, rfl⟩
set_option maxRecDepth 100000 in
set_option maxHeartbeats 8000000 in
theorem chargenetref15_SameAll_ok (F : Nat) (a0_a : List SProfile) (a1_b : List SProfile) (r : Bool) (h : chargenetref15_SameAll F a0_a a1_b = some r) :
    SFun Try.prog 17 [] [.c (.vec a0_a.length 11 (gL cSProfile dSProfile a0_a)), .c (.vec a1_b.length 11 (gL cSProfile dSProfile a1_b))] (fun x _ => x = .c (.bool r)) := by
  refine SFun.of (n := 27) Try.func17 rfl rfl rfl ?_
  unfold chargenetref15_SameAll at h
  show SCode _ _ _ ⟨[(0, .c (.vec a0_a.length 11 (gL cSProfile dSProfile a0_a))), (1, .c (.vec a1_b.length 11 (gL cSProfile dSProfile a1_b)))], []⟩ _
  refine SCode.seq ?_
  refine SCode.region (show SOps _ _ _ [0] _ _ from ?_)
  refine SOps.q rfl (.plain rfl) rfl (q_assign rfl rfl) ?_
  refine SOps.sub (st' := ⟨[(0, .c (.vec a0_a.length 11 (gL cSProfile dSProfile a0_a))), (1, .c (.vec a1_b.length 11 (gL cSProfile dSProfile a1_b)))], []⟩) (sub_gen [] rfl rfl ⟨zc rfl rfl, zc rfl rfl, trivial⟩ trivial) ?_
  refine SOps.nil ?_
  refine SCode.seq ?_
  refine SCode.seq ?_
  refine SCode.region (show SOps _ _ _ [0, 1, 2, 3, 4] _ _ from ?_)
  refine SOps.q rfl (.plain rfl) rfl (q_move rfl rfl) ?_
  refine SOps.q rfl (.plain rfl) rfl (q_len_vec rfl rfl sl31) ?_
  refine SOps.q rfl (.plain rfl) rfl (q_move rfl rfl) ?_
  refine SOps.q rfl (.plain rfl) rfl (q_len_vec rfl rfl sl31) ?_
  refine SOps.q rfl (.plain rfl) rfl (q_neq rfl rfl rfl) ?_
  refine SOps.sub (st' := ⟨[(0, .c (.vec a0_a.length 11 (gL cSProfile dSProfile a0_a))), (1, .c (.vec a1_b.length 11 (gL cSProfile dSProfile a1_b))), (10, .c (.bool ((!decide (((a0_a).length : Int) = ((a1_b).length : Int))))))], []⟩) (sub_gen [] rfl rfl ⟨zc rfl rfl, zc rfl rfl, zc rfl rfl, trivial⟩ trivial) ?_
  refine SOps.nil ?_
  rcases cond_out h with ⟨g1, h⟩ | ⟨g1, h⟩
  · refine SCode.cond_t rfl g1 ?_
    refine SCode.seq ?_
    refine SCode.region (show SOps _ _ _ [0] _ _ from ?_)
    refine SOps.q rfl (.plain rfl) rfl (q_assign rfl rfl) ?_
    refine SOps.sub (st' := ⟨[(4, .c (.bool false))], []⟩) (sub_gen [] rfl rfl ⟨zc rfl rfl, trivial⟩ trivial) ?_
    refine SOps.nil ?_
    refine SCode.ret ?_
    obtain rfl := Option.some.inj h
    exact ⟨⟨[(4, .c (.bool false))], []⟩, _, sub_gen [] rfl rfl ⟨zc rfl rfl, trivial⟩ trivial, resA1 (v := .c (.bool false)) rfl rfl, rfl⟩
  refine SCode.cond_f rfl g1 ?_
  refine SCode.skip ?_
  refine SCode.join (σ := Unit) (S := fun s => ⟨[], []⟩) (g := fun s => chargenetref15_SameAll_p2 = some r) ?_ ?_
  rotate_left
  · refine SCode.seq ?_
    refine SCode.region (show SOps _ _ _ [0] _ _ from ?_)
    refine SOps.q rfl (.plain rfl) rfl (q_assign rfl rfl) ?_
    refine SOps.sub (st' := ⟨[(0, .c (.vec a0_a.length 11 (gL cSProfile dSProfile a0_a))), (1, .c (.vec a1_b.length 11 (gL cSProfile dSProfile a1_b))), (5, .c (.int .i64 0))], []⟩) (sub_gen [] rfl rfl ⟨zc rfl rfl, zc rfl rfl, zc rfl rfl, trivial⟩ trivial) ?_
    refine SOps.nil ?_
    refine SCode.block ?_
    refine SCode.sub (st' := ⟨[(0, .c (.vec a0_a.length 11 (gL cSProfile dSProfile a0_a))), (1, .c (.vec a1_b.length 11 (gL cSProfile dSProfile a1_b))), (5, .c (.int .i64 0))], []⟩) (sub_gen [] rfl rfl ⟨zc rfl rfl, zc rfl rfl, zc rfl rfl, trivial⟩ trivial) ?_
    refine (SCode.loop (σ := Nat × Int) (S := fun s => ⟨[(0, .c (.vec a0_a.length 11 (gL cSProfile dSProfile a0_a))), (1, .c (.vec a1_b.length 11 (gL cSProfile dSProfile a1_b))), (5, .c (.int .i64 s.2))], []⟩) (g := fun s => chargenetref15_SameAll_l16 F a0_a a1_b s.1 s.2 = some r) (μ := fun s => s.1) (F, 0) h ?_)
    rintro ⟨n_16, i_9⟩ h
    replace h : chargenetref15_SameAll_l16 F a0_a a1_b n_16 i_9 = some r := h
    show SCode _ _ _ ⟨[(0, .c (.vec a0_a.length 11 (gL cSProfile dSProfile a0_a))), (1, .c (.vec a1_b.length 11 (gL cSProfile dSProfile a1_b))), (5, .c (.int .i64 i_9))], []⟩ _
    cases n_16 with
    | zero => cases h
    | succ n_16 =>
      replace h : chargenetref15_SameAll_b16 F a0_a a1_b (fun i_9 => chargenetref15_SameAll_l16 F a0_a a1_b n_16 i_9) i_9 = some r := h
      unfold chargenetref15_SameAll_b16 at h
      refine SCode.seq ?_
      refine SCode.seq ?_
      refine SCode.region (show SOps _ _ _ [0, 1, 2, 3] _ _ from ?_)
      refine SOps.q rfl (.plain rfl) rfl (q_move rfl rfl) ?_
      refine SOps.q rfl (.plain rfl) rfl (q_move rfl rfl) ?_
      refine SOps.q rfl (.plain rfl) rfl (q_len_vec rfl rfl sl31) ?_
      refine SOps.q rfl (.plain rfl) rfl (q_lss rfl rfl rfl) ?_
      refine SOps.sub (st' := ⟨[(0, .c (.vec a0_a.length 11 (gL cSProfile dSProfile a0_a))), (1, .c (.vec a1_b.length 11 (gL cSProfile dSProfile a1_b))), (5, .c (.int .i64 i_9)), (14, .c (.bool (decide (i_9 < ((a0_a).length : Int)))))], []⟩) (sub_gen [] rfl rfl ⟨zc rfl rfl, zc rfl rfl, zc rfl rfl, zc rfl rfl, trivial⟩ trivial) ?_
      refine SOps.nil ?_
      rcases cond_out h with ⟨g17, h⟩ | ⟨g17, h⟩
      · refine SCode.cond_t rfl g17 ?_
        refine SCode.skip ?_
        refine SCode.seq ?_
        refine SCode.block ?_
        refine SCode.seq ?_
        obtain ⟨g18, h⟩ := guard_out h
        obtain ⟨g19, h⟩ := guard_out h
        obtain ⟨c_20, g21, h⟩ := bind_out h
        try dsimp only at h
        refine SCode.draw (s' := [(26, .c (.bool ((!c_20)))), (25, .c (.bool c_20)), (24, .a [.int .i64 ((a1_b.getD i_9.toNat dSProfile).ID), .int .i64 ((a1_b.getD i_9.toNat dSProfile).Level), .int .i64 ((a1_b.getD i_9.toNat dSProfile).Purpose), .int .i64 ((a1_b.getD i_9.toNat dSProfile).Kind), .int .i64 ((a1_b.getD i_9.toNat dSProfile).Conn), .str ((a1_b.getD i_9.toNat dSProfile).Txn), .int .i64 ((a1_b.getD i_9.toNat dSProfile).Span_From), .int .i64 ((a1_b.getD i_9.toNat dSProfile).Span_To), .int .i64 ((a1_b.getD i_9.toNat dSProfile).Start), .int .i64 ((a1_b.getD i_9.toNat dSProfile).Duration), .vec ((a1_b.getD i_9.toNat dSProfile).Periods).length 2 (gL cSPeriod dSPeriod ((a1_b.getD i_9.toNat dSProfile).Periods))]), (23, .c (.eptr 11 (cSProfile (a1_b.getD i_9.toNat dSProfile)) 0)), (22, .c (.int .i64 i_9)), (21, .c (.vec a1_b.length 11 (gL cSProfile dSProfile a1_b))), (20, .a [.int .i64 ((a0_a.getD i_9.toNat dSProfile).ID), .int .i64 ((a0_a.getD i_9.toNat dSProfile).Level), .int .i64 ((a0_a.getD i_9.toNat dSProfile).Purpose), .int .i64 ((a0_a.getD i_9.toNat dSProfile).Kind), .int .i64 ((a0_a.getD i_9.toNat dSProfile).Conn), .str ((a0_a.getD i_9.toNat dSProfile).Txn), .int .i64 ((a0_a.getD i_9.toNat dSProfile).Span_From), .int .i64 ((a0_a.getD i_9.toNat dSProfile).Span_To), .int .i64 ((a0_a.getD i_9.toNat dSProfile).Start), .int .i64 ((a0_a.getD i_9.toNat dSProfile).Duration), .vec ((a0_a.getD i_9.toNat dSProfile).Periods).length 2 (gL cSPeriod dSPeriod ((a0_a.getD i_9.toNat dSProfile).Periods))]), (19, .c (.eptr 11 (cSProfile (a0_a.getD i_9.toNat dSProfile)) 0)), (18, .c (.int .i64 i_9)), (17, .c (.vec a0_a.length 11 (gL cSProfile dSProfile a0_a))), (0, .c (.vec a0_a.length 11 (gL cSProfile dSProfile a0_a))), (1, .c (.vec a1_b.length 11 (gL cSProfile dSProfile a1_b))), (5, .c (.int .i64 i_9)), (14, .c (.bool (decide (i_9 < ((a0_a).length : Int)))))]) mixed [[], [], [0, 1], [0, 1, 2], [], [], [4, 5], [4, 5, 6], [0, 1, 2, 3, 4, 5, 6, 7], [0, 1, 2, 3, 4, 5, 6, 7, 8]] 10 0 rfl rfl ?_ ?_
        · refine QChain.run rfl (.plain rfl) rfl (q_move rfl rfl) ?_
          refine QChain.run rfl (.plain rfl) rfl (q_move rfl rfl) ?_
          refine QChain.run rfl (.plain rfl) rfl (q_index_vec rfl rfl rfl sl31 rfl g18.1 g18.2) ?_
          refine QChain.run rfl (.plain rfl) rfl (q_load_eptr_all rfl rfl rfl ty26) ?_
          refine QChain.run rfl (.plain rfl) rfl (q_move rfl rfl) ?_
          refine QChain.run rfl (.plain rfl) rfl (q_move rfl rfl) ?_
          refine QChain.run rfl (.plain rfl) rfl (q_index_vec rfl rfl rfl sl31 rfl g19.1 g19.2) ?_
          refine QChain.run rfl (.plain rfl) rfl (q_load_eptr_all rfl rfl rfl ty26) ?_
          refine QChain.run rfl (.plain rfl) rfl (q_call (chargenetref15_Same_ok F (a0_a.getD i_9.toNat dSProfile) (a1_b.getD i_9.toNat dSProfile) c_20 g21) [] rfl fn20 ⟨⟨rfl, rfl⟩, ⟨rfl, rfl⟩, trivial⟩ (.inl rfl)) ?_
          refine QChain.run rfl (.plain rfl) rfl (q_not rfl rfl) ?_
          exact QChain.nil _ _
        refine (show SOps _ _ _ [] _ _ from ?_)
        refine SOps.sub (st' := ⟨[(0, .c (.vec a0_a.length 11 (gL cSProfile dSProfile a0_a))), (1, .c (.vec a1_b.length 11 (gL cSProfile dSProfile a1_b))), (5, .c (.int .i64 i_9)), (26, .c (.bool ((!c_20))))], []⟩) (sub_gen [] rfl rfl ⟨zc rfl rfl, zc rfl rfl, zc rfl rfl, zc rfl rfl, trivial⟩ trivial) ?_
        refine SOps.nil ?_
        rcases cond_out h with ⟨g22, h⟩ | ⟨g22, h⟩
        · refine SCode.cond_t rfl g22 ?_
          refine SCode.seq ?_
          refine SCode.region (show SOps _ _ _ [0] _ _ from ?_)
          refine SOps.q rfl (.plain rfl) rfl (q_assign rfl rfl) ?_
          refine SOps.sub (st' := ⟨[(4, .c (.bool false))], []⟩) (sub_gen [] rfl rfl ⟨zc rfl rfl, trivial⟩ trivial) ?_
          refine SOps.nil ?_
          refine SCode.ret ?_
          obtain rfl := Option.some.inj h
          exact ⟨⟨[(4, .c (.bool false))], []⟩, _, sub_gen [] rfl rfl ⟨zc rfl rfl, trivial⟩ trivial, resA1 (v := .c (.bool false)) rfl rfl, rfl⟩
        refine SCode.cond_f rfl g22 ?_
        refine SCode.skip ?_
        refine SCode.region (show SOps _ _ _ [0, 1, 2] _ _ from ?_)
        refine SOps.q rfl (.plain rfl) rfl (q_move rfl rfl) ?_
        refine SOps.q rfl (.plain rfl) rfl (q_add rfl rfl rfl) ?_
        refine SOps.q rfl (.plain rfl) rfl (q_assign rfl rfl) ?_
        refine SOps.sub (st' := ⟨[(0, .c (.vec a0_a.length 11 (gL cSProfile dSProfile a0_a))), (1, .c (.vec a1_b.length 11 (gL cSProfile dSProfile a1_b))), (5, .c (.int .i64 (IntKind.wrap .i64 (i_9 + 1))))], []⟩) (sub_gen [] rfl rfl ⟨zc rfl rfl, zc rfl rfl, zc rfl rfl, trivial⟩ trivial) ?_
        refine SOps.nil ?_
        exact ⟨(n_16, IntKind.wrap .i64 (i_9 + 1)), h, Nat.lt_succ_self n_16, sub_gen [] rfl rfl ⟨zc rfl rfl, zc rfl rfl, zc rfl rfl, trivial⟩ trivial⟩
      refine SCode.cond_f rfl g17 ?_
      refine SCode.exit ?_
      exact ⟨(), h, sub_gen [] rfl rfl trivial trivial⟩
  rintro ⟨⟩ h
  show SCode _ _ _ ⟨[], []⟩ _
  replace h : chargenetref15_SameAll_p2 = some r := h
  unfold chargenetref15_SameAll_p2 at h
  refine SCode.seq ?_
  refine SCode.region (show SOps _ _ _ [0] _ _ from ?_)
  refine SOps.q rfl (.plain rfl) rfl (q_assign rfl rfl) ?_
  refine SOps.sub (st' := ⟨[(4, .c (.bool true))], []⟩) (sub_gen [] rfl rfl ⟨zc rfl rfl, trivial⟩ trivial) ?_
  refine SOps.nil ?_
  refine SCode.ret ?_
  obtain rfl := Option.some.inj h
  exact ⟨⟨[(4, .c (.bool true))], []⟩, _, sub_gen [] rfl rfl ⟨zc rfl rfl, trivial⟩ trivial, resA1 (v := .c (.bool true)) rfl rfl, rfl⟩
set_option maxRecDepth 100000 in
set_option maxHeartbeats 8000000 in
theorem profile_Clear_ok (F : Nat) (a0_l : List SProfile) (a1_id : Int) (r : (List SProfile) × Int) (h : profile_Clear F a0_l a1_id = some r) :
    SFun Try.prog 18 [] [.c (.vec a0_l.length 11 (gL cSProfile dSProfile a0_l)), .c (.int .i64 a1_id)] (fun x _ => x = .t [.c (.vec r.1.length 11 (gL cSProfile dSProfile r.1)), .c (.int .i64 r.2)]) := by
  refine SFun.of (n := 32) Try.func18 rfl rfl rfl ?_
  unfold profile_Clear at h
  show SCode _ _ _ ⟨[(0, .c (.vec a0_l.length 11 (gL cSProfile dSProfile a0_l))), (1, .c (.int .i64 a1_id))], []⟩ _
  refine SCode.seq ?_
  refine SCode.region (show SOps _ _ _ [0, 1] _ _ from ?_)
  refine SOps.q rfl (.plain rfl) rfl (q_assign rfl rfl) ?_
  refine SOps.q rfl (.plain rfl) rfl (q_assign rfl rfl) ?_
  refine SOps.sub (st' := ⟨[(0, .c (.vec a0_l.length 11 (gL cSProfile dSProfile a0_l))), (1, .c (.int .i64 a1_id))], []⟩) (sub_gen [] rfl rfl ⟨zc rfl rfl, zc rfl rfl, trivial⟩ trivial) ?_
  refine SOps.nil ?_
  refine SCode.seq ?_
  refine SCode.region (show SOps _ _ _ [0] _ _ from ?_)
  refine SOps.q rfl (.plain rfl) rfl (q_assign rfl rfl) ?_
  refine SOps.nilArrL (T := 26) (k := 11) cSProfile dSProfile (s := 6) rfl rfl ?_
  refine SOps.sub (st' := ⟨[(0, .c (.vec a0_l.length 11 (gL cSProfile dSProfile a0_l))), (1, .c (.int .i64 a1_id)), (6, .c (.own 0 (([] : List SProfile)).length))], [.arr 26 11 (([] : List SProfile)).length (gL cSProfile dSProfile (([] : List SProfile)))]⟩) (sub_gen [0] rfl rfl ⟨zc rfl rfl, zc rfl rfl, zc rfl rfl, trivial⟩ ⟨oa rfl, trivial⟩) ?_
  refine SOps.nil ?_
  refine SCode.join (σ := (List SProfile)) (S := fun s => ⟨[(0, .c (.vec a0_l.length 11 (gL cSProfile dSProfile a0_l))), (6, .c (.own 0 s.length))], [.arr 26 11 s.length (gL cSProfile dSProfile s)]⟩) (g := fun s => profile_Clear_p3 a0_l s = some r) ?_ ?_
  rotate_left
  · refine SCode.seq ?_
    refine SCode.region (show SOps _ _ _ [0, 1, 2] _ _ from ?_)
    refine SOps.q rfl (.plain rfl) rfl (q_move rfl rfl) ?_
    refine SOps.q rfl (.plain rfl) rfl (q_len_vec rfl rfl sl31) ?_
    refine SOps.q rfl (.plain rfl) rfl (q_move rfl rfl) ?_
    refine SOps.sub (st' := ⟨[(0, .c (.vec a0_l.length 11 (gL cSProfile dSProfile a0_l))), (1, .c (.int .i64 a1_id)), (6, .c (.own 0 (([] : List SProfile)).length)), (9, .c (.vec a0_l.length 11 (gL cSProfile dSProfile a0_l))), (10, .c (.int .i64 (((a0_l).length : Int)))), (11, .c (.int .i64 0))], [.arr 26 11 (([] : List SProfile)).length (gL cSProfile dSProfile (([] : List SProfile)))]⟩) (sub_gen [0] rfl rfl ⟨zc rfl rfl, zc rfl rfl, zc rfl rfl, zc rfl rfl, zc rfl rfl, zc rfl rfl, trivial⟩ ⟨oa rfl, trivial⟩) ?_
    refine SOps.nil ?_
    refine SCode.block ?_
    refine SCode.sub (st' := ⟨[(0, .c (.vec a0_l.length 11 (gL cSProfile dSProfile a0_l))), (1, .c (.int .i64 a1_id)), (6, .c (.own 0 ([] : List SProfile).length)), (9, .c (.vec a0_l.length 11 (gL cSProfile dSProfile a0_l))), (10, .c (.int .i64 (((a0_l).length : Int)))), (11, .c (.int .i64 0))], [.arr 26 11 ([] : List SProfile).length (gL cSProfile dSProfile ([] : List SProfile))]⟩) (sub_gen [0] rfl rfl ⟨zc rfl rfl, zc rfl rfl, zc rfl rfl, zc rfl rfl, zc rfl rfl, zc rfl rfl, trivial⟩ ⟨oa rfl, trivial⟩) ?_
    refine (SCode.loop (σ := Nat × (Int × (List SProfile))) (S := fun s => ⟨[(0, .c (.vec a0_l.length 11 (gL cSProfile dSProfile a0_l))), (1, .c (.int .i64 a1_id)), (6, .c (.own 0 s.2.2.length)), (9, .c (.vec a0_l.length 11 (gL cSProfile dSProfile a0_l))), (10, .c (.int .i64 (((a0_l).length : Int)))), (11, .c (.int .i64 s.2.1))], [.arr 26 11 s.2.2.length (gL cSProfile dSProfile s.2.2)]⟩) (g := fun s => profile_Clear_l22 F a0_l a1_id s.1 s.2.1 s.2.2 = some r) (μ := fun s => s.1) (F, (0, ([] : List SProfile))) h ?_)
    rintro ⟨n_22, ⟨t11_12, o0_13⟩⟩ h
    replace h : profile_Clear_l22 F a0_l a1_id n_22 t11_12 o0_13 = some r := h
    show SCode _ _ _ ⟨[(0, .c (.vec a0_l.length 11 (gL cSProfile dSProfile a0_l))), (1, .c (.int .i64 a1_id)), (6, .c (.own 0 o0_13.length)), (9, .c (.vec a0_l.length 11 (gL cSProfile dSProfile a0_l))), (10, .c (.int .i64 (((a0_l).length : Int)))), (11, .c (.int .i64 t11_12))], [.arr 26 11 o0_13.length (gL cSProfile dSProfile o0_13)]⟩ _
    cases n_22 with
    | zero => cases h
    | succ n_22 =>
      replace h : profile_Clear_b22 F a0_l a1_id (fun t11_12 o0_13 => profile_Clear_l22 F a0_l a1_id n_22 t11_12 o0_13) t11_12 o0_13 = some r := h
      unfold profile_Clear_b22 at h
      refine SCode.seq ?_
      refine SCode.region (show SOps _ _ _ [0] _ _ from ?_)
      refine SOps.q rfl (.plain rfl) rfl (q_lss rfl rfl rfl) ?_
      refine SOps.sub (st' := ⟨[(0, .c (.vec a0_l.length 11 (gL cSProfile dSProfile a0_l))), (1, .c (.int .i64 a1_id)), (6, .c (.own 0 o0_13.length)), (9, .c (.vec a0_l.length 11 (gL cSProfile dSProfile a0_l))), (10, .c (.int .i64 (((a0_l).length : Int)))), (11, .c (.int .i64 t11_12)), (12, .c (.bool (decide (t11_12 < ((a0_l).length : Int)))))], [.arr 26 11 o0_13.length (gL cSProfile dSProfile o0_13)]⟩) (sub_gen [0] rfl rfl ⟨zc rfl rfl, zc rfl rfl, zc rfl rfl, zc rfl rfl, zc rfl rfl, zc rfl rfl, zc rfl rfl, trivial⟩ ⟨oa rfl, trivial⟩) ?_
      refine SOps.nil ?_
      refine SCode.seq ?_
      rcases cond_out h with ⟨g23, h⟩ | ⟨g23, h⟩
      · refine SCode.cond_t rfl g23 ?_
        refine SCode.skip ?_
        refine SCode.join (σ := (List SProfile)) (S := fun s => ⟨[(0, .c (.vec a0_l.length 11 (gL cSProfile dSProfile a0_l))), (1, .c (.int .i64 a1_id)), (6, .c (.own 0 s.length)), (9, .c (.vec a0_l.length 11 (gL cSProfile dSProfile a0_l))), (10, .c (.int .i64 (((a0_l).length : Int)))), (11, .c (.int .i64 t11_12))], [.arr 26 11 s.length (gL cSProfile dSProfile s)]⟩) (g := fun s => profile_Clear_p25 t11_12 (fun t11_12 o0_13 => profile_Clear_l22 F a0_l a1_id n_22 t11_12 o0_13) s = some r) ?_ ?_
        rotate_left
        · refine SCode.block ?_
          refine SCode.seq ?_
          obtain ⟨g26, h⟩ := guard_out h
          refine SCode.region (show SOps _ _ _ [0, 1, 2, 3] _ _ from ?_)
          refine SOps.q rfl (.plain rfl) rfl (q_index_vec rfl rfl rfl sl31 rfl g26.1 g26.2) ?_
          refine SOps.q rfl (.plain rfl) rfl (q_load_eptr_all rfl rfl rfl ty26) ?_
          refine SOps.e rfl (.plain rfl) (e_alloc rfl rfl rfl z26) ?_
          refine SOps.e rfl (.plain rfl) (e_store_box rfl rfl rfl rfl rfl ty26 rfl rfl rfl rfl) ?_
          refine SOps.sub (st' := ⟨[(0, .c (.vec a0_l.length 11 (gL cSProfile dSProfile a0_l))), (1, .c (.int .i64 a1_id)), (6, .c (.own 0 o0_13.length)), (8, .c (.ptr 1 0)), (9, .c (.vec a0_l.length 11 (gL cSProfile dSProfile a0_l))), (10, .c (.int .i64 (((a0_l).length : Int)))), (11, .c (.int .i64 t11_12))], [.arr 26 11 o0_13.length (gL cSProfile dSProfile o0_13), .box [.int .i64 ((a0_l.getD t11_12.toNat dSProfile).ID), .int .i64 ((a0_l.getD t11_12.toNat dSProfile).Level), .int .i64 ((a0_l.getD t11_12.toNat dSProfile).Purpose), .int .i64 ((a0_l.getD t11_12.toNat dSProfile).Kind), .int .i64 ((a0_l.getD t11_12.toNat dSProfile).Conn), .str ((a0_l.getD t11_12.toNat dSProfile).Txn), .int .i64 ((a0_l.getD t11_12.toNat dSProfile).Span_From), .int .i64 ((a0_l.getD t11_12.toNat dSProfile).Span_To), .int .i64 ((a0_l.getD t11_12.toNat dSProfile).Start), .int .i64 ((a0_l.getD t11_12.toNat dSProfile).Duration), .vec ((a0_l.getD t11_12.toNat dSProfile).Periods).length 2 (gL cSPeriod dSPeriod ((a0_l.getD t11_12.toNat dSProfile).Periods))]]⟩) (sub_gen [0, 1] rfl rfl ⟨zc rfl rfl, zc rfl rfl, zc rfl rfl, zc rfl rfl, zc rfl rfl, zc rfl rfl, zc rfl rfl, trivial⟩ ⟨oa rfl, ⟨_, rfl, ⟨ii rfl rfl, ii rfl rfl, ii rfl rfl, ii rfl rfl, ii rfl rfl, ii rfl rfl, ii rfl rfl, ii rfl rfl, ii rfl rfl, ii rfl rfl, ii rfl rfl, trivial⟩⟩, trivial⟩) ?_
          refine SOps.nil ?_
          refine SCode.seq ?_
          refine SCode.region (show SOps _ _ _ [0, 1, 2, 3] _ _ from ?_)
          refine SOps.q rfl (.plain rfl) rfl (q_field_ptr rfl rfl fd26_0) ?_
          refine SOps.q rfl (.plain rfl) rfl (q_load_ptr rfl rfl rfl rfl ty3) ?_
          refine SOps.q rfl (.plain rfl) rfl (q_move rfl rfl) ?_
          refine SOps.q rfl (.plain rfl) rfl (q_neq rfl rfl rfl) ?_
          refine SOps.sub (st' := ⟨[(0, .c (.vec a0_l.length 11 (gL cSProfile dSProfile a0_l))), (1, .c (.int .i64 a1_id)), (6, .c (.own 0 o0_13.length)), (8, .c (.ptr 1 0)), (9, .c (.vec a0_l.length 11 (gL cSProfile dSProfile a0_l))), (10, .c (.int .i64 (((a0_l).length : Int)))), (11, .c (.int .i64 t11_12)), (18, .c (.bool ((!decide ((a0_l.getD t11_12.toNat dSProfile).ID = a1_id)))))], [.arr 26 11 o0_13.length (gL cSProfile dSProfile o0_13), .box [.int .i64 ((a0_l.getD t11_12.toNat dSProfile).ID), .int .i64 ((a0_l.getD t11_12.toNat dSProfile).Level), .int .i64 ((a0_l.getD t11_12.toNat dSProfile).Purpose), .int .i64 ((a0_l.getD t11_12.toNat dSProfile).Kind), .int .i64 ((a0_l.getD t11_12.toNat dSProfile).Conn), .str ((a0_l.getD t11_12.toNat dSProfile).Txn), .int .i64 ((a0_l.getD t11_12.toNat dSProfile).Span_From), .int .i64 ((a0_l.getD t11_12.toNat dSProfile).Span_To), .int .i64 ((a0_l.getD t11_12.toNat dSProfile).Start), .int .i64 ((a0_l.getD t11_12.toNat dSProfile).Duration), .vec ((a0_l.getD t11_12.toNat dSProfile).Periods).length 2 (gL cSPeriod dSPeriod ((a0_l.getD t11_12.toNat dSProfile).Periods))]]⟩) (sub_gen [0, 1] rfl rfl ⟨zc rfl rfl, zc rfl rfl, zc rfl rfl, zc rfl rfl, zc rfl rfl, zc rfl rfl, zc rfl rfl, zc rfl rfl, trivial⟩ ⟨oa rfl, ⟨_, rfl, ⟨ii rfl rfl, ii rfl rfl, ii rfl rfl, ii rfl rfl, ii rfl rfl, ii rfl rfl, ii rfl rfl, ii rfl rfl, ii rfl rfl, ii rfl rfl, ii rfl rfl, trivial⟩⟩, trivial⟩) ?_
          refine SOps.nil ?_
          rcases cond_out h with ⟨g27, h⟩ | ⟨g27, h⟩
          · refine SCode.cond_t rfl g27 ?_
            obtain ⟨c_28, g29, h⟩ := bind_out h
            try dsimp only at h
            obtain ⟨g30, h⟩ := guard_out h
            refine SCode.region (show SOps _ _ _ [0, 1, 2, 3, 4, 5] _ _ from ?_)
            refine SOps.q rfl (.plain rfl) rfl (q_move rfl rfl) ?_
            refine SOps.q rfl (.plain rfl) rfl (q_load_ptr_all rfl rfl rfl rfl rfl ty26) ?_
            refine SOps.q rfl (.plain rfl) rfl (q_call (profile_clone_ok F (a0_l.getD t11_12.toNat dSProfile) c_28 g29) [] rfl fn35 ⟨⟨rfl, rfl⟩, trivial⟩ (.inl rfl)) ?_
            refine SOps.q rfl (.plain rfl) rfl (q_bsliceL (c := cSProfile) (d0 := dSProfile) [c_28] rfl rfl sl31 z26 rfl rfl rfl rfl rfl rfl rfl) ?_
            refine SOps.e rfl (.plain rfl) (e_appendL (c := cSProfile) (d0 := dSProfile) (l := o0_13) (l2 := [c_28]) rfl rfl rfl rfl rfl rfl (.inl rfl) sl31 z26 rfl rfl oneSProfile g30.1 g30.2) ?_
            refine SOps.q rfl (.plain rfl) rfl (q_assign rfl rfl) ?_
            refine SOps.sub (st' := ⟨[(0, .c (.vec a0_l.length 11 (gL cSProfile dSProfile a0_l))), (1, .c (.int .i64 a1_id)), (6, .c (.own 0 (o0_13 ++ ([c_28])).length)), (9, .c (.vec a0_l.length 11 (gL cSProfile dSProfile a0_l))), (10, .c (.int .i64 (((a0_l).length : Int)))), (11, .c (.int .i64 t11_12))], [.arr 26 11 (o0_13 ++ ([c_28])).length (gL cSProfile dSProfile (o0_13 ++ ([c_28])))]⟩) (sub_gen [2] rfl rfl ⟨zc rfl rfl, zc rfl rfl, zc rfl rfl, zc rfl rfl, zc rfl rfl, zc rfl rfl, trivial⟩ ⟨oa rfl, trivial⟩) ?_
            refine SOps.nil ?_
            exact ⟨o0_13 ++ ([c_28]), h, sub_gen [0] rfl rfl ⟨zc rfl rfl, zc rfl rfl, zc rfl rfl, zc rfl rfl, zc rfl rfl, zc rfl rfl, trivial⟩ ⟨oa rfl, trivial⟩⟩
          refine SCode.cond_f rfl g27 ?_
          refine SCode.skip ?_
          exact ⟨o0_13, h, sub_gen [0] rfl rfl ⟨zc rfl rfl, zc rfl rfl, zc rfl rfl, zc rfl rfl, zc rfl rfl, zc rfl rfl, trivial⟩ ⟨oa rfl, trivial⟩⟩
        rintro o0_24 h
        show SCode _ _ _ ⟨[(0, .c (.vec a0_l.length 11 (gL cSProfile dSProfile a0_l))), (1, .c (.int .i64 a1_id)), (6, .c (.own 0 o0_24.length)), (9, .c (.vec a0_l.length 11 (gL cSProfile dSProfile a0_l))), (10, .c (.int .i64 (((a0_l).length : Int)))), (11, .c (.int .i64 t11_12))], [.arr 26 11 o0_24.length (gL cSProfile dSProfile o0_24)]⟩ _
        replace h : profile_Clear_p25 t11_12 (fun t11_12 o0_13 => profile_Clear_l22 F a0_l a1_id n_22 t11_12 o0_13) o0_24 = some r := h
        unfold profile_Clear_p25 at h
        refine SCode.region (show SOps _ _ _ [0, 1] _ _ from ?_)
        refine SOps.q rfl (.plain rfl) rfl (q_add rfl rfl rfl) ?_
        refine SOps.q rfl (.plain rfl) rfl (q_move rfl rfl) ?_
        refine SOps.sub (st' := ⟨[(0, .c (.vec a0_l.length 11 (gL cSProfile dSProfile a0_l))), (1, .c (.int .i64 a1_id)), (6, .c (.own 0 o0_24.length)), (9, .c (.vec a0_l.length 11 (gL cSProfile dSProfile a0_l))), (10, .c (.int .i64 (((a0_l).length : Int)))), (11, .c (.int .i64 (IntKind.wrap .i64 (t11_12 + 1))))], [.arr 26 11 o0_24.length (gL cSProfile dSProfile o0_24)]⟩) (sub_gen [0] rfl rfl ⟨zc rfl rfl, zc rfl rfl, zc rfl rfl, zc rfl rfl, zc rfl rfl, zc rfl rfl, trivial⟩ ⟨oa rfl, trivial⟩) ?_
        refine SOps.nil ?_
        exact ⟨(n_22, (IntKind.wrap .i64 (t11_12 + 1), o0_24)), h, Nat.lt_succ_self n_22, sub_gen [0] rfl rfl ⟨zc rfl rfl, zc rfl rfl, zc rfl rfl, zc rfl rfl, zc rfl rfl, zc rfl rfl, trivial⟩ ⟨oa rfl, trivial⟩⟩
      refine SCode.cond_f rfl g23 ?_
      refine SCode.exit ?_
      exact ⟨o0_13, h, sub_gen [0] rfl rfl ⟨zc rfl rfl, zc rfl rfl, trivial⟩ ⟨oa rfl, trivial⟩⟩
  rintro o0_1 h
  show SCode _ _ _ ⟨[(0, .c (.vec a0_l.length 11 (gL cSProfile dSProfile a0_l))), (6, .c (.own 0 o0_1.length))], [.arr 26 11 o0_1.length (gL cSProfile dSProfile o0_1)]⟩ _
  replace h : profile_Clear_p3 a0_l o0_1 = some r := h
  unfold profile_Clear_p3 at h
  refine SCode.seq ?_
  refine SCode.seq ?_
  refine SCode.region (show SOps _ _ _ [0, 1, 2, 3, 4] _ _ from ?_)
  refine SOps.q rfl (.plain rfl) rfl (q_move rfl rfl) ?_
  refine SOps.q rfl (.plain rfl) rfl (q_len_own rfl rfl sl31) ?_
  refine SOps.q rfl (.plain rfl) rfl (q_move rfl rfl) ?_
  refine SOps.q rfl (.plain rfl) rfl (q_len_vec rfl rfl sl31) ?_
  refine SOps.q rfl (.plain rfl) rfl (q_eql rfl rfl rfl) ?_
  refine SOps.sub (st' := ⟨[(0, .c (.vec a0_l.length 11 (gL cSProfile dSProfile a0_l))), (6, .c (.own 0 o0_1.length)), (29, .c (.bool (decide (((o0_1).length : Int) = ((a0_l).length : Int)))))], [.arr 26 11 o0_1.length (gL cSProfile dSProfile o0_1)]⟩) (sub_gen [0] rfl rfl ⟨zc rfl rfl, zc rfl rfl, zc rfl rfl, trivial⟩ ⟨oa rfl, trivial⟩) ?_
  refine SOps.nil ?_
  rcases cond_out h with ⟨g2, h⟩ | ⟨g2, h⟩
  · refine SCode.cond_t rfl g2 ?_
    refine SCode.seq ?_
    refine SCode.region (show SOps _ _ _ [0, 1, 2] _ _ from ?_)
    refine SOps.q rfl (.plain rfl) rfl (q_move rfl rfl) ?_
    refine SOps.q rfl (.plain rfl) rfl (q_assign rfl rfl) ?_
    refine SOps.q rfl (.plain rfl) rfl (q_assign rfl rfl) ?_
    refine SOps.sub (st' := ⟨[(4, .c (.vec a0_l.length 11 (gL cSProfile dSProfile a0_l))), (5, .c (.int .i64 8))], []⟩) (sub_gen [] rfl rfl ⟨zc rfl rfl, zc rfl rfl, trivial⟩ trivial) ?_
    refine SOps.nil ?_
    refine SCode.ret ?_
    obtain rfl := Option.some.inj h
    exact ⟨⟨[(4, .c (.vec a0_l.length 11 (gL cSProfile dSProfile a0_l))), (5, .c (.int .i64 8))], []⟩, _, sub_gen [] rfl rfl ⟨zc rfl rfl, zc rfl rfl, trivial⟩ trivial, resA2 (v1 := .c (.vec a0_l.length 11 (gL cSProfile dSProfile a0_l))) (v2 := .c (.int .i64 8)) rfl rfl rfl, rfl⟩
  refine SCode.cond_f rfl g2 ?_
  refine SCode.skip ?_
  refine SCode.seq ?_
  refine SCode.region (show SOps _ _ _ [0, 1, 2] _ _ from ?_)
  refine SOps.q rfl (.plain rfl) rfl (q_move rfl rfl) ?_
  refine SOps.q rfl (.plain rfl) rfl (q_assign rfl rfl) ?_
  refine SOps.q rfl (.plain rfl) rfl (q_assign rfl rfl) ?_
  refine SOps.sub (st' := ⟨[(4, .c (.own 0 o0_1.length)), (5, .c (.int .i64 0))], [.arr 26 11 o0_1.length (gL cSProfile dSProfile o0_1)]⟩) (sub_gen [0] rfl rfl ⟨zc rfl rfl, zc rfl rfl, trivial⟩ ⟨oa rfl, trivial⟩) ?_
  refine SOps.nil ?_
  refine SCode.ret ?_
  obtain rfl := Option.some.inj h
  exact ⟨⟨[(4, .c (.vec o0_1.length 11 (gL cSProfile dSProfile o0_1))), (5, .c (.int .i64 0))], []⟩, _, sub_gen [] rfl rfl ⟨⟨_, rfl, .inr (.inl ⟨_, _, _, _, _, _, _, rfl, rfl, rfl, Nat.le_refl _, fun _ _ _ _ => rfl, by decide⟩)⟩, zc rfl rfl, trivial⟩ trivial, resA2 (v1 := .c (.vec o0_1.length 11 (gL cSProfile dSProfile o0_1))) (v2 := .c (.int .i64 0)) rfl rfl rfl, rfl⟩
set_option maxRecDepth 100000 in
set_option maxHeartbeats 8000000 in
theorem profile_gap_ok (F : Nat) (a0_from : Int) (a1_to : Int) (r : Int) (h : profile_gap F a0_from a1_to = some r) :
    SFun Try.prog 38 [] [.c (.int .i64 a0_from), .c (.int .i64 a1_to)] (fun x _ => x = .c (.int .u64 r)) := by
  refine SFun.of (n := 10) Try.func38 rfl rfl rfl ?_
  unfold profile_gap at h
  show SCode _ _ _ ⟨[(0, .c (.int .i64 a0_from)), (1, .c (.int .i64 a1_to))], []⟩ _
  refine SCode.seq ?_
  refine SCode.region (show SOps _ _ _ [0] _ _ from ?_)
  refine SOps.q rfl (.plain rfl) rfl (q_assign rfl rfl) ?_
  refine SOps.sub (st' := ⟨[(0, .c (.int .i64 a0_from)), (1, .c (.int .i64 a1_to))], []⟩) (sub_gen [] rfl rfl ⟨zc rfl rfl, zc rfl rfl, trivial⟩ trivial) ?_
  refine SOps.nil ?_
  refine SCode.seq ?_
  refine SCode.region (show SOps _ _ _ [0, 1, 2, 3, 4, 5] _ _ from ?_)
  refine SOps.q rfl (.plain rfl) rfl (q_move rfl rfl) ?_
  refine SOps.q rfl (.plain rfl) rfl (q_convert rfl rfl un3 un52) ?_
  refine SOps.q rfl (.plain rfl) rfl (q_move rfl rfl) ?_
  refine SOps.q rfl (.plain rfl) rfl (q_convert rfl rfl un3 un52) ?_
  refine SOps.q rfl (.plain rfl) rfl (q_sub rfl rfl rfl) ?_
  refine SOps.q rfl (.plain rfl) rfl (q_assign rfl rfl) ?_
  refine SOps.sub (st' := ⟨[(4, .c (.int .u64 (IntKind.wrap .u64 (IntKind.wrap .u64 a1_to - IntKind.wrap .u64 a0_from))))], []⟩) (sub_gen [] rfl rfl ⟨zc rfl rfl, trivial⟩ trivial) ?_
  refine SOps.nil ?_
  refine SCode.ret ?_
  obtain rfl := Option.some.inj h
  exact ⟨⟨[(4, .c (.int .u64 (IntKind.wrap .u64 (IntKind.wrap .u64 a1_to - IntKind.wrap .u64 a0_from))))], []⟩, _, sub_gen [] rfl rfl ⟨zc rfl rfl, trivial⟩ trivial, resA1 (v := .c (.int .u64 (IntKind.wrap .u64 (IntKind.wrap .u64 a1_to - IntKind.wrap .u64 a0_from)))) rfl rfl, rfl⟩
set_option maxRecDepth 100000 in
set_option maxHeartbeats 8000000 in
theorem profile_first_ok (F : Nat) (a0_p : SProfile) (a1_start : Int) (r : Int) (h : profile_first F a0_p a1_start = some r) :
    SFun Try.prog 49 [] [.a [.int .i64 a0_p.ID, .int .i64 a0_p.Level, .int .i64 a0_p.Purpose, .int .i64 a0_p.Kind, .int .i64 a0_p.Conn, .str a0_p.Txn, .int .i64 a0_p.Span_From, .int .i64 a0_p.Span_To, .int .i64 a0_p.Start, .int .i64 a0_p.Duration, .vec a0_p.Periods.length 2 (gL cSPeriod dSPeriod a0_p.Periods)], .c (.int .i64 a1_start)] (fun x _ => x = .c (.int .i64 r)) := by
  refine SFun.of (n := 11) Try.func49 rfl rfl rfl ?_
  unfold profile_first at h
  show SCode _ _ _ ⟨[(0, .a [.int .i64 a0_p.ID, .int .i64 a0_p.Level, .int .i64 a0_p.Purpose, .int .i64 a0_p.Kind, .int .i64 a0_p.Conn, .str a0_p.Txn, .int .i64 a0_p.Span_From, .int .i64 a0_p.Span_To, .int .i64 a0_p.Start, .int .i64 a0_p.Duration, .vec a0_p.Periods.length 2 (gL cSPeriod dSPeriod a0_p.Periods)]), (1, .c (.int .i64 a1_start))], []⟩ _
  refine SCode.seq ?_
  refine SCode.region (show SOps _ _ _ [0, 1] _ _ from ?_)
  refine SOps.e rfl (.plain rfl) (e_box rfl rfl rfl rfl rfl rfl) ?_
  refine SOps.q rfl (.plain rfl) rfl (q_assign rfl rfl) ?_
  refine SOps.sub (st' := ⟨[(1, .c (.int .i64 a1_start)), (2, .c (.ptr 0 0))], [.box [.int .i64 a0_p.ID, .int .i64 a0_p.Level, .int .i64 a0_p.Purpose, .int .i64 a0_p.Kind, .int .i64 a0_p.Conn, .str a0_p.Txn, .int .i64 a0_p.Span_From, .int .i64 a0_p.Span_To, .int .i64 a0_p.Start, .int .i64 a0_p.Duration, .vec a0_p.Periods.length 2 (gL cSPeriod dSPeriod a0_p.Periods)]]⟩) (sub_gen [0] rfl rfl ⟨zc rfl rfl, zc rfl rfl, trivial⟩ ⟨⟨_, rfl, ⟨ii rfl rfl, ii rfl rfl, ii rfl rfl, ii rfl rfl, ii rfl rfl, ii rfl rfl, ii rfl rfl, ii rfl rfl, ii rfl rfl, ii rfl rfl, ii rfl rfl, trivial⟩⟩, trivial⟩) ?_
  refine SOps.nil ?_
  refine SCode.seq ?_
  refine SCode.seq ?_
  refine SCode.region (show SOps _ _ _ [0, 1, 2] _ _ from ?_)
  refine SOps.q rfl (.plain rfl) rfl (q_field_ptr rfl rfl fd26_3) ?_
  refine SOps.q rfl (.plain rfl) rfl (q_load_ptr rfl rfl rfl rfl ty3) ?_
  refine SOps.q rfl (.plain rfl) rfl (q_eql rfl rfl rfl) ?_
  refine SOps.sub (st' := ⟨[(1, .c (.int .i64 a1_start)), (2, .c (.ptr 0 0)), (7, .c (.bool (decide (a0_p.Kind = 4))))], [.box [.int .i64 a0_p.ID, .int .i64 a0_p.Level, .int .i64 a0_p.Purpose, .int .i64 a0_p.Kind, .int .i64 a0_p.Conn, .str a0_p.Txn, .int .i64 a0_p.Span_From, .int .i64 a0_p.Span_To, .int .i64 a0_p.Start, .int .i64 a0_p.Duration, .vec a0_p.Periods.length 2 (gL cSPeriod dSPeriod a0_p.Periods)]]⟩) (sub_gen [0] rfl rfl ⟨zc rfl rfl, zc rfl rfl, zc rfl rfl, trivial⟩ ⟨⟨_, rfl, ⟨ii rfl rfl, ii rfl rfl, ii rfl rfl, ii rfl rfl, ii rfl rfl, ii rfl rfl, ii rfl rfl, ii rfl rfl, ii rfl rfl, ii rfl rfl, ii rfl rfl, trivial⟩⟩, trivial⟩) ?_
  refine SOps.nil ?_
  rcases cond_out h with ⟨g1, h⟩ | ⟨g1, h⟩
  · refine SCode.cond_t rfl g1 ?_
    refine SCode.seq ?_
    refine SCode.region (show SOps _ _ _ [0, 1] _ _ from ?_)
    refine SOps.q rfl (.plain rfl) rfl (q_move rfl rfl) ?_
    refine SOps.q rfl (.plain rfl) rfl (q_assign rfl rfl) ?_
    refine SOps.sub (st' := ⟨[(4, .c (.int .i64 a1_start))], []⟩) (sub_gen [] rfl rfl ⟨zc rfl rfl, trivial⟩ trivial) ?_
    refine SOps.nil ?_
    refine SCode.ret ?_
    obtain rfl := Option.some.inj h
    exact ⟨⟨[(4, .c (.int .i64 a1_start))], []⟩, _, sub_gen [] rfl rfl ⟨zc rfl rfl, trivial⟩ trivial, resA1 (v := .c (.int .i64 a1_start)) rfl rfl, rfl⟩
  refine SCode.cond_f rfl g1 ?_
  refine SCode.skip ?_
  refine SCode.seq ?_
  refine SCode.region (show SOps _ _ _ [0, 1, 2] _ _ from ?_)
  refine SOps.q rfl (.plain rfl) rfl (q_field_ptr rfl rfl fd26_7) ?_
  refine SOps.q rfl (.plain rfl) rfl (q_load_ptr rfl rfl rfl rfl ty3) ?_
  refine SOps.q rfl (.plain rfl) rfl (q_assign rfl rfl) ?_
  refine SOps.sub (st' := ⟨[(4, .c (.int .i64 a0_p.Start))], []⟩) (sub_gen [] rfl rfl ⟨zc rfl rfl, trivial⟩ trivial) ?_
  refine SOps.nil ?_
  refine SCode.ret ?_
  obtain rfl := Option.some.inj h
  exact ⟨⟨[(4, .c (.int .i64 a0_p.Start))], []⟩, _, sub_gen [] rfl rfl ⟨zc rfl rfl, trivial⟩ trivial, resA1 (v := .c (.int .i64 a0_p.Start)) rfl rfl, rfl⟩
set_option maxRecDepth 100000 in
set_option maxHeartbeats 8000000 in
theorem profile_origin_ok (F : Nat) (a0_p : SProfile) (a1_start : Int) (a2_t : Int) (r : Int × Bool) (h : profile_origin F a0_p a1_start a2_t = some r) :
    SFun Try.prog 37 [] [.a [.int .i64 a0_p.ID, .int .i64 a0_p.Level, .int .i64 a0_p.Purpose, .int .i64 a0_p.Kind, .int .i64 a0_p.Conn, .str a0_p.Txn, .int .i64 a0_p.Span_From, .int .i64 a0_p.Span_To, .int .i64 a0_p.Start, .int .i64 a0_p.Duration, .vec a0_p.Periods.length 2 (gL cSPeriod dSPeriod a0_p.Periods)], .c (.int .i64 a1_start), .c (.int .i64 a2_t)] (fun x _ => x = .t [.c (.int .i64 r.1), .c (.bool r.2)]) := by
  refine SFun.of (n := 31) Try.func37 rfl rfl rfl ?_
  unfold profile_origin at h
  show SCode _ _ _ ⟨[(0, .a [.int .i64 a0_p.ID, .int .i64 a0_p.Level, .int .i64 a0_p.Purpose, .int .i64 a0_p.Kind, .int .i64 a0_p.Conn, .str a0_p.Txn, .int .i64 a0_p.Span_From, .int .i64 a0_p.Span_To, .int .i64 a0_p.Start, .int .i64 a0_p.Duration, .vec a0_p.Periods.length 2 (gL cSPeriod dSPeriod a0_p.Periods)]), (1, .c (.int .i64 a1_start)), (2, .c (.int .i64 a2_t))], []⟩ _
  refine SCode.seq ?_
  refine SCode.region (show SOps _ _ _ [0, 1, 2] _ _ from ?_)
  refine SOps.e rfl (.plain rfl) (e_box rfl rfl rfl rfl rfl rfl) ?_
  refine SOps.q rfl (.plain rfl) rfl (q_assign rfl rfl) ?_
  refine SOps.q rfl (.plain rfl) rfl (q_assign rfl rfl) ?_
  refine SOps.sub (st' := ⟨[(1, .c (.int .i64 a1_start)), (2, .c (.int .i64 a2_t)), (3, .c (.ptr 0 0))], [.box [.int .i64 a0_p.ID, .int .i64 a0_p.Level, .int .i64 a0_p.Purpose, .int .i64 a0_p.Kind, .int .i64 a0_p.Conn, .str a0_p.Txn, .int .i64 a0_p.Span_From, .int .i64 a0_p.Span_To, .int .i64 a0_p.Start, .int .i64 a0_p.Duration, .vec a0_p.Periods.length 2 (gL cSPeriod dSPeriod a0_p.Periods)]]⟩) (sub_gen [0] rfl rfl ⟨zc rfl rfl, zc rfl rfl, zc rfl rfl, trivial⟩ ⟨⟨_, rfl, ⟨ii rfl rfl, ii rfl rfl, ii rfl rfl, ii rfl rfl, ii rfl rfl, ii rfl rfl, ii rfl rfl, ii rfl rfl, ii rfl rfl, ii rfl rfl, ii rfl rfl, trivial⟩⟩, trivial⟩) ?_
  refine SOps.nil ?_
  refine SCode.seq ?_
  obtain ⟨c_1, g2, h⟩ := bind_out h
  try dsimp only at h
  refine SCode.region (show SOps _ _ _ [0, 1, 2, 3] _ _ from ?_)
  refine SOps.q rfl (.plain rfl) rfl (q_load_ptr_all rfl rfl rfl rfl rfl ty26) ?_
  refine SOps.q rfl (.plain rfl) rfl (q_move rfl rfl) ?_
  refine SOps.q rfl (.plain rfl) rfl (q_call (profile_first_ok F a0_p a1_start c_1 g2) [] rfl fn49 ⟨⟨rfl, rfl⟩, ⟨_, rfl, .inl ⟨rfl, rfl⟩⟩, trivial⟩ (.inl rfl)) ?_
  refine SOps.q rfl (.plain rfl) rfl (q_assign rfl rfl) ?_
  refine SOps.sub (st' := ⟨[(2, .c (.int .i64 a2_t)), (3, .c (.ptr 0 0)), (8, .c (.int .i64 c_1))], [.box [.int .i64 a0_p.ID, .int .i64 a0_p.Level, .int .i64 a0_p.Purpose, .int .i64 a0_p.Kind, .int .i64 a0_p.Conn, .str a0_p.Txn, .int .i64 a0_p.Span_From, .int .i64 a0_p.Span_To, .int .i64 a0_p.Start, .int .i64 a0_p.Duration, .vec a0_p.Periods.length 2 (gL cSPeriod dSPeriod a0_p.Periods)]]⟩) (sub_gen [0] rfl rfl ⟨zc rfl rfl, zc rfl rfl, zc rfl rfl, trivial⟩ ⟨⟨_, rfl, ⟨ii rfl rfl, ii rfl rfl, ii rfl rfl, ii rfl rfl, ii rfl rfl, ii rfl rfl, ii rfl rfl, ii rfl rfl, ii rfl rfl, ii rfl rfl, ii rfl rfl, trivial⟩⟩, trivial⟩) ?_
  refine SOps.nil ?_
  refine SCode.seq ?_
  refine SCode.seq ?_
  refine SCode.region (show SOps _ _ _ [0, 1, 2] _ _ from ?_)
  refine SOps.q rfl (.plain rfl) rfl (q_move rfl rfl) ?_
  refine SOps.q rfl (.plain rfl) rfl (q_move rfl rfl) ?_
  refine SOps.q rfl (.plain rfl) rfl (q_gtr rfl rfl rfl) ?_
  refine SOps.sub (st' := ⟨[(2, .c (.int .i64 a2_t)), (3, .c (.ptr 0 0)), (8, .c (.int .i64 c_1)), (15, .c (.bool (decide (a2_t < c_1))))], [.box [.int .i64 a0_p.ID, .int .i64 a0_p.Level, .int .i64 a0_p.Purpose, .int .i64 a0_p.Kind, .int .i64 a0_p.Conn, .str a0_p.Txn, .int .i64 a0_p.Span_From, .int .i64 a0_p.Span_To, .int .i64 a0_p.Start, .int .i64 a0_p.Duration, .vec a0_p.Periods.length 2 (gL cSPeriod dSPeriod a0_p.Periods)]]⟩) (sub_gen [0] rfl rfl ⟨zc rfl rfl, zc rfl rfl, zc rfl rfl, zc rfl rfl, trivial⟩ ⟨⟨_, rfl, ⟨ii rfl rfl, ii rfl rfl, ii rfl rfl, ii rfl rfl, ii rfl rfl, ii rfl rfl, ii rfl rfl, ii rfl rfl, ii rfl rfl, ii rfl rfl, ii rfl rfl, trivial⟩⟩, trivial⟩) ?_
  refine SOps.nil ?_
  rcases cond_out h with ⟨g3, h⟩ | ⟨g3, h⟩
  · refine SCode.cond_t rfl g3 ?_
    refine SCode.seq ?_
    refine SCode.region (show SOps _ _ _ [0, 1] _ _ from ?_)
    refine SOps.q rfl (.plain rfl) rfl (q_assign rfl rfl) ?_
    refine SOps.q rfl (.plain rfl) rfl (q_assign rfl rfl) ?_
    refine SOps.sub (st' := ⟨[(6, .c (.int .i64 0)), (7, .c (.bool false))], []⟩) (sub_gen [] rfl rfl ⟨zc rfl rfl, zc rfl rfl, trivial⟩ trivial) ?_
    refine SOps.nil ?_
    refine SCode.ret ?_
    obtain rfl := Option.some.inj h
    exact ⟨⟨[(6, .c (.int .i64 0)), (7, .c (.bool false))], []⟩, _, sub_gen [] rfl rfl ⟨zc rfl rfl, zc rfl rfl, trivial⟩ trivial, resA2 (v1 := .c (.int .i64 0)) (v2 := .c (.bool false)) rfl rfl rfl, rfl⟩
  refine SCode.cond_f rfl g3 ?_
  refine SCode.skip ?_
  refine SCode.join (σ := Int) (S := fun s => ⟨[(8, .c (.int .i64 s))], []⟩) (g := fun s => profile_origin_p5 s = some r) ?_ ?_
  rotate_left
  · refine SCode.seq ?_
    obtain ⟨c_6, g7, h⟩ := bind_out h
    try dsimp only at h
    refine SCode.region (show SOps _ _ _ [0, 1, 2, 3] _ _ from ?_)
    refine SOps.q rfl (.plain rfl) rfl (q_field_ptr rfl rfl fd26_3) ?_
    refine SOps.q rfl (.plain rfl) rfl (q_load_ptr rfl rfl rfl rfl ty3) ?_
    refine SOps.q rfl (.plain rfl) rfl (q_call (profile_cycle_ok F a0_p.Kind c_6 g7) [] rfl fn46 ⟨⟨_, rfl, .inl ⟨rfl, rfl⟩⟩, trivial⟩ (.inl rfl)) ?_
    refine SOps.q rfl (.plain rfl) rfl (q_assign rfl rfl) ?_
    refine SOps.sub (st' := ⟨[(2, .c (.int .i64 a2_t)), (8, .c (.int .i64 c_1)), (9, .c (.int .i64 c_6))], []⟩) (sub_gen [] rfl rfl ⟨zc rfl rfl, zc rfl rfl, zc rfl rfl, trivial⟩ trivial) ?_
    refine SOps.nil ?_
    refine SCode.seq ?_
    refine SCode.region (show SOps _ _ _ [0, 1] _ _ from ?_)
    refine SOps.q rfl (.plain rfl) rfl (q_move rfl rfl) ?_
    refine SOps.q rfl (.plain rfl) rfl (q_gtr rfl rfl rfl) ?_
    refine SOps.sub (st' := ⟨[(2, .c (.int .i64 a2_t)), (8, .c (.int .i64 c_1)), (9, .c (.int .i64 c_6)), (20, .c (.bool (decide (0 < c_6))))], []⟩) (sub_gen [] rfl rfl ⟨zc rfl rfl, zc rfl rfl, zc rfl rfl, zc rfl rfl, trivial⟩ trivial) ?_
    refine SOps.nil ?_
    rcases cond_out h with ⟨g8, h⟩ | ⟨g8, h⟩
    · refine SCode.cond_t rfl g8 ?_
      obtain ⟨c_9, g10, h⟩ := bind_out h
      try dsimp only at h
      obtain ⟨g11, h⟩ := guard_out h
      refine SCode.region (show SOps _ _ _ [0, 1, 2, 3, 4, 5, 6, 7, 8, 9] _ _ from ?_)
      refine SOps.q rfl (.plain rfl) rfl (q_move rfl rfl) ?_
      refine SOps.q rfl (.plain rfl) rfl (q_move rfl rfl) ?_
      refine SOps.q rfl (.plain rfl) rfl (q_move rfl rfl) ?_
      refine SOps.q rfl (.plain rfl) rfl (q_call (profile_gap_ok F c_1 a2_t c_9 g10) [] rfl fn38 ⟨⟨_, rfl, .inl ⟨rfl, rfl⟩⟩, ⟨_, rfl, .inl ⟨rfl, rfl⟩⟩, trivial⟩ (.inl rfl)) ?_
      refine SOps.q rfl (.plain rfl) rfl (q_move rfl rfl) ?_
      refine SOps.q rfl (.plain rfl) rfl (q_convert rfl rfl un3 un52) ?_
      refine SOps.q rfl (.plain rfl) rfl (q_rem rfl rfl rfl g11) ?_
      refine SOps.q rfl (.plain rfl) rfl (q_convert rfl rfl un52 un3) ?_
      refine SOps.q rfl (.plain rfl) rfl (q_sub rfl rfl rfl) ?_
      refine SOps.q rfl (.plain rfl) rfl (q_assign rfl rfl) ?_
      refine SOps.sub (st' := ⟨[(8, .c (.int .i64 (IntKind.wrap .i64 (a2_t - IntKind.wrap .i64 (Int.tmod c_9 (IntKind.wrap .u64 c_6))))))], []⟩) (sub_gen [] rfl rfl ⟨zc rfl rfl, trivial⟩ trivial) ?_
      refine SOps.nil ?_
      exact ⟨IntKind.wrap .i64 (a2_t - IntKind.wrap .i64 (Int.tmod c_9 (IntKind.wrap .u64 c_6))), h, sub_gen [] rfl rfl ⟨zc rfl rfl, trivial⟩ trivial⟩
    refine SCode.cond_f rfl g8 ?_
    refine SCode.skip ?_
    exact ⟨c_1, h, sub_gen [] rfl rfl ⟨zc rfl rfl, trivial⟩ trivial⟩
  rintro o_4 h
  show SCode _ _ _ ⟨[(8, .c (.int .i64 o_4))], []⟩ _
  replace h : profile_origin_p5 o_4 = some r := h
  unfold profile_origin_p5 at h
  refine SCode.seq ?_
  refine SCode.region (show SOps _ _ _ [0, 1, 2] _ _ from ?_)
  refine SOps.q rfl (.plain rfl) rfl (q_move rfl rfl) ?_
  refine SOps.q rfl (.plain rfl) rfl (q_assign rfl rfl) ?_
  refine SOps.q rfl (.plain rfl) rfl (q_assign rfl rfl) ?_
  refine SOps.sub (st' := ⟨[(6, .c (.int .i64 o_4)), (7, .c (.bool true))], []⟩) (sub_gen [] rfl rfl ⟨zc rfl rfl, zc rfl rfl, trivial⟩ trivial) ?_
  refine SOps.nil ?_
  refine SCode.ret ?_
  obtain rfl := Option.some.inj h
  exact ⟨⟨[(6, .c (.int .i64 o_4)), (7, .c (.bool true))], []⟩, _, sub_gen [] rfl rfl ⟨zc rfl rfl, zc rfl rfl, trivial⟩ trivial, resA2 (v1 := .c (.int .i64 o_4)) (v2 := .c (.bool true)) rfl rfl rfl, rfl⟩
end Go.Proofs.Ytldekibkmombdaa.W
