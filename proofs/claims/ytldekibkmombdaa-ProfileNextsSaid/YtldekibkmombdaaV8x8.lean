/- Written by a program of ours (wip/eng/gen.py): the functions compute their models. -/
import Derived.Test.YtldekibkmombdaaFacts
import Derived.Test.YtldekibkmombdaaV8x7
import Derived.Test.YtldekibkmombdaaShelf
namespace Go.Proofs.Ytldekibkmombdaa.W
open Go Go.Proofs Go.Proofs.Ytldekibkmombdaa.E Go.Proofs.Ytldekibkmombdaa.M
set_option linter.unusedVariables false
set_option maxHeartbeats 8000000 in
theorem chargenetref15_Same_ok (F : Nat) (a0_a : SProfile) (a1_b : SProfile) (r : Bool) (h : chargenetref15_Same F a0_a a1_b = some r) :
    SFun Try.prog 20 [] [.a [.int .i64 a0_a.ID, .int .i64 a0_a.Level, .int .i64 a0_a.Purpose, .int .i64 a0_a.Kind, .int .i64 a0_a.Conn, .str a0_a.Txn, .int .i64 a0_a.Span_From, .int .i64 a0_a.Span_To, .int .i64 a0_a.Start, .int .i64 a0_a.Duration, .vec a0_a.Periods.length 2 (gL cSPeriod dSPeriod a0_a.Periods)], .a [.int .i64 a1_b.ID, .int .i64 a1_b.Level, .int .i64 a1_b.Purpose, .int .i64 a1_b.Kind, .int .i64 a1_b.Conn, .str a1_b.Txn, .int .i64 a1_b.Span_From, .int .i64 a1_b.Span_To, .int .i64 a1_b.Start, .int .i64 a1_b.Duration, .vec a1_b.Periods.length 2 (gL cSPeriod dSPeriod a1_b.Periods)]] (fun x _ => x = .c (.bool r)) := by
  refine SFun.of (n := 72) Try.func20 rfl rfl rfl ?_
  unfold chargenetref15_Same at h
  show SCode _ _ _ ⟨[(0, .a [.int .i64 a0_a.ID, .int .i64 a0_a.Level, .int .i64 a0_a.Purpose, .int .i64 a0_a.Kind, .int .i64 a0_a.Conn, .str a0_a.Txn, .int .i64 a0_a.Span_From, .int .i64 a0_a.Span_To, .int .i64 a0_a.Start, .int .i64 a0_a.Duration, .vec a0_a.Periods.length 2 (gL cSPeriod dSPeriod a0_a.Periods)]), (1, .a [.int .i64 a1_b.ID, .int .i64 a1_b.Level, .int .i64 a1_b.Purpose, .int .i64 a1_b.Kind, .int .i64 a1_b.Conn, .str a1_b.Txn, .int .i64 a1_b.Span_From, .int .i64 a1_b.Span_To, .int .i64 a1_b.Start, .int .i64 a1_b.Duration, .vec a1_b.Periods.length 2 (gL cSPeriod dSPeriod a1_b.Periods)])], []⟩ _
  refine SCode.seq ?_
  refine SCode.region (show SOps _ _ _ [0, 1, 2] _ _ from ?_)
  refine SOps.e rfl (.plain rfl) (e_box rfl rfl rfl rfl rfl rfl) ?_
  refine SOps.e rfl (.plain rfl) (e_box rfl rfl rfl rfl rfl rfl) ?_
  refine SOps.q rfl (.plain rfl) rfl (q_assign rfl rfl) ?_
  refine SOps.sub (st' := ⟨[(2, .c (.ptr 0 0)), (3, .c (.ptr 1 0))], [.box [.int .i64 a0_a.ID, .int .i64 a0_a.Level, .int .i64 a0_a.Purpose, .int .i64 a0_a.Kind, .int .i64 a0_a.Conn, .str a0_a.Txn, .int .i64 a0_a.Span_From, .int .i64 a0_a.Span_To, .int .i64 a0_a.Start, .int .i64 a0_a.Duration, .vec a0_a.Periods.length 2 (gL cSPeriod dSPeriod a0_a.Periods)], .box [.int .i64 a1_b.ID, .int .i64 a1_b.Level, .int .i64 a1_b.Purpose, .int .i64 a1_b.Kind, .int .i64 a1_b.Conn, .str a1_b.Txn, .int .i64 a1_b.Span_From, .int .i64 a1_b.Span_To, .int .i64 a1_b.Start, .int .i64 a1_b.Duration, .vec a1_b.Periods.length 2 (gL cSPeriod dSPeriod a1_b.Periods)]]⟩) (sub_gen [0, 1] rfl rfl ⟨zc rfl rfl, zc rfl rfl, trivial⟩ ⟨⟨_, rfl, ⟨ii rfl rfl, ii rfl rfl, ii rfl rfl, ii rfl rfl, ii rfl rfl, ii rfl rfl, ii rfl rfl, ii rfl rfl, ii rfl rfl, ii rfl rfl, ii rfl rfl, trivial⟩⟩, ⟨_, rfl, ⟨ii rfl rfl, ii rfl rfl, ii rfl rfl, ii rfl rfl, ii rfl rfl, ii rfl rfl, ii rfl rfl, ii rfl rfl, ii rfl rfl, ii rfl rfl, ii rfl rfl, trivial⟩⟩, trivial⟩) ?_
  refine SOps.nil ?_
  refine SCode.seq ?_
  refine SCode.seq ?_
  rcases cond_out h with ⟨g1, h⟩ | ⟨g1, h⟩
  · refine SCode.region (show SOps _ _ _ [0, 1, 2, 3, 4, 5, 6, 7, 8, 9, 10, 11, 12, 13, 14, 15, 16, 17, 18, 19, 20, 21, 22, 23, 24, 25, 26, 27, 28, 29, 30, 31, 32, 33, 34, 35, 36, 37, 38, 39, 40, 41, 42, 43, 44, 45, 46, 47] _ _ from ?_)
    refine SOps.q rfl (.plain rfl) rfl (q_field_ptr rfl rfl fd26_0) ?_
    refine SOps.q rfl (.plain rfl) rfl (q_load_ptr rfl rfl rfl rfl ty3) ?_
    refine SOps.q rfl (.plain rfl) rfl (q_field_ptr rfl rfl fd26_0) ?_
    refine SOps.q rfl (.plain rfl) rfl (q_load_ptr rfl rfl rfl rfl ty3) ?_
    refine SOps.q rfl (.plain rfl) rfl (q_neq rfl rfl rfl) ?_
    refine SOps.q rfl (.plain rfl) rfl (q_move rfl rfl) ?_
    refine SOps.skip rfl 5 11 false rfl rfl (.inl (gT g1)) rfl ?_
    refine SOps.skip rfl 5 11 false rfl rfl (.inl (gT g1)) rfl ?_
    refine SOps.skip rfl 5 11 false rfl rfl (.inl (gT g1)) rfl ?_
    refine SOps.skip rfl 5 11 false rfl rfl (.inl (gT g1)) rfl ?_
    refine SOps.skip rfl 5 11 false rfl rfl (.inl (gT g1)) rfl ?_
    refine SOps.q rfl (.plain rfl) rfl (q_pick_t rfl rfl g1 rfl) ?_
    refine SOps.q rfl (.plain rfl) rfl (q_move rfl rfl) ?_
    refine SOps.skip rfl 12 18 false rfl rfl (.inl rfl) rfl ?_
    refine SOps.skip rfl 12 18 false rfl rfl (.inl rfl) rfl ?_
    refine SOps.skip rfl 12 18 false rfl rfl (.inl rfl) rfl ?_
    refine SOps.skip rfl 12 18 false rfl rfl (.inl rfl) rfl ?_
    refine SOps.q rfl (.plain rfl) rfl (q_pick_t rfl rfl rfl rfl) ?_
    refine SOps.q rfl (.plain rfl) rfl (q_move rfl rfl) ?_
    refine SOps.skip rfl 18 24 false rfl rfl (.inl rfl) rfl ?_
    refine SOps.skip rfl 18 24 false rfl rfl (.inl rfl) rfl ?_
    refine SOps.skip rfl 18 24 false rfl rfl (.inl rfl) rfl ?_
    refine SOps.skip rfl 18 24 false rfl rfl (.inl rfl) rfl ?_
    refine SOps.skip rfl 18 24 false rfl rfl (.inl rfl) rfl ?_
    refine SOps.q rfl (.plain rfl) rfl (q_pick_t rfl rfl rfl rfl) ?_
    refine SOps.q rfl (.plain rfl) rfl (q_move rfl rfl) ?_
    refine SOps.skip rfl 25 31 false rfl rfl (.inl rfl) rfl ?_
    refine SOps.skip rfl 25 31 false rfl rfl (.inl rfl) rfl ?_
    refine SOps.skip rfl 25 31 false rfl rfl (.inl rfl) rfl ?_
    refine SOps.skip rfl 25 31 false rfl rfl (.inl rfl) rfl ?_
    refine SOps.skip rfl 25 31 false rfl rfl (.inl rfl) rfl ?_
    refine SOps.q rfl (.plain rfl) rfl (q_pick_t rfl rfl rfl rfl) ?_
    refine SOps.q rfl (.plain rfl) rfl (q_move rfl rfl) ?_
    refine SOps.skip rfl 32 38 false rfl rfl (.inl rfl) rfl ?_
    refine SOps.skip rfl 32 38 false rfl rfl (.inl rfl) rfl ?_
    refine SOps.skip rfl 32 38 false rfl rfl (.inl rfl) rfl ?_
    refine SOps.skip rfl 32 38 false rfl rfl (.inl rfl) rfl ?_
    refine SOps.skip rfl 32 38 false rfl rfl (.inl rfl) rfl ?_
    refine SOps.q rfl (.plain rfl) rfl (q_pick_t rfl rfl rfl rfl) ?_
    refine SOps.q rfl (.plain rfl) rfl (q_move rfl rfl) ?_
    refine SOps.skip rfl 39 45 false rfl rfl (.inl rfl) rfl ?_
    refine SOps.skip rfl 39 45 false rfl rfl (.inl rfl) rfl ?_
    refine SOps.skip rfl 39 45 false rfl rfl (.inl rfl) rfl ?_
    refine SOps.skip rfl 39 45 false rfl rfl (.inl rfl) rfl ?_
    refine SOps.skip rfl 39 45 false rfl rfl (.inl rfl) rfl ?_
    refine SOps.skip rfl 39 45 false rfl rfl (.inl rfl) rfl ?_
    refine SOps.skip rfl 39 45 false rfl rfl (.inl rfl) rfl ?_
    refine SOps.q rfl (.plain rfl) rfl (q_pick_t rfl rfl rfl rfl) ?_
    refine SOps.sub (st' := ⟨[(2, .c (.ptr 0 0)), (3, .c (.ptr 1 0)), (53, .c (.bool true))], [.box [.int .i64 a0_a.ID, .int .i64 a0_a.Level, .int .i64 a0_a.Purpose, .int .i64 a0_a.Kind, .int .i64 a0_a.Conn, .str a0_a.Txn, .int .i64 a0_a.Span_From, .int .i64 a0_a.Span_To, .int .i64 a0_a.Start, .int .i64 a0_a.Duration, .vec a0_a.Periods.length 2 (gL cSPeriod dSPeriod a0_a.Periods)], .box [.int .i64 a1_b.ID, .int .i64 a1_b.Level, .int .i64 a1_b.Purpose, .int .i64 a1_b.Kind, .int .i64 a1_b.Conn, .str a1_b.Txn, .int .i64 a1_b.Span_From, .int .i64 a1_b.Span_To, .int .i64 a1_b.Start, .int .i64 a1_b.Duration, .vec a1_b.Periods.length 2 (gL cSPeriod dSPeriod a1_b.Periods)]]⟩) (sub_gen [0, 1] rfl rfl ⟨zc rfl rfl, zc rfl rfl, zc rfl rfl, trivial⟩ ⟨⟨_, rfl, ⟨ii rfl rfl, ii rfl rfl, ii rfl rfl, ii rfl rfl, ii rfl rfl, ii rfl rfl, ii rfl rfl, ii rfl rfl, ii rfl rfl, ii rfl rfl, ii rfl rfl, trivial⟩⟩, ⟨_, rfl, ⟨ii rfl rfl, ii rfl rfl, ii rfl rfl, ii rfl rfl, ii rfl rfl, ii rfl rfl, ii rfl rfl, ii rfl rfl, ii rfl rfl, ii rfl rfl, ii rfl rfl, trivial⟩⟩, trivial⟩) ?_
    refine SOps.nil ?_
    refine SCode.cond_t rfl rfl ?_
    refine SCode.seq ?_
    refine SCode.region (show SOps _ _ _ [0] _ _ from ?_)
    refine SOps.q rfl (.plain rfl) rfl (q_assign rfl rfl) ?_
    refine SOps.sub (st' := ⟨[(4, .c (.bool false))], []⟩) (sub_gen [] rfl rfl ⟨zc rfl rfl, trivial⟩ trivial) ?_
    refine SOps.nil ?_
    refine SCode.ret ?_
    obtain rfl := Option.some.inj h
    exact ⟨⟨[(4, .c (.bool false))], []⟩, _, sub_gen [] rfl rfl ⟨zc rfl rfl, trivial⟩ trivial, resA1 (v := .c (.bool false)) rfl rfl, rfl⟩
  rcases cond_out h with ⟨g2, h⟩ | ⟨g2, h⟩
  · refine SCode.region (show SOps _ _ _ [0, 1, 2, 3, 4, 5, 6, 7, 8, 9, 10, 11, 12, 13, 14, 15, 16, 17, 18, 19, 20, 21, 22, 23, 24, 25, 26, 27, 28, 29, 30, 31, 32, 33, 34, 35, 36, 37, 38, 39, 40, 41, 42, 43, 44, 45, 46, 47] _ _ from ?_)
    refine SOps.q rfl (.plain rfl) rfl (q_field_ptr rfl rfl fd26_0) ?_
    refine SOps.q rfl (.plain rfl) rfl (q_load_ptr rfl rfl rfl rfl ty3) ?_
    refine SOps.q rfl (.plain rfl) rfl (q_field_ptr rfl rfl fd26_0) ?_
    refine SOps.q rfl (.plain rfl) rfl (q_load_ptr rfl rfl rfl rfl ty3) ?_
    refine SOps.q rfl (.plain rfl) rfl (q_neq rfl rfl rfl) ?_
    refine SOps.q rfl (.plain rfl) rfl (q_move rfl rfl) ?_
    refine SOps.q rfl (.guard 5 11 false rfl rfl (gF g1)) rfl (q_field_ptr rfl rfl fd26_3) ?_
    refine SOps.q rfl (.guard 5 11 false rfl rfl (gF g1)) rfl (q_load_ptr rfl rfl rfl rfl ty3) ?_
    refine SOps.q rfl (.guard 5 11 false rfl rfl (gF g1)) rfl (q_field_ptr rfl rfl fd26_3) ?_
    refine SOps.q rfl (.guard 5 11 false rfl rfl (gF g1)) rfl (q_load_ptr rfl rfl rfl rfl ty3) ?_
    refine SOps.q rfl (.guard 5 11 false rfl rfl (gF g1)) rfl (q_neq rfl rfl rfl) ?_
    refine SOps.q rfl (.plain rfl) rfl (q_pick_f rfl rfl g1 rfl) ?_
    refine SOps.q rfl (.plain rfl) rfl (q_move rfl rfl) ?_
    refine SOps.skip rfl 12 18 false rfl rfl (.inl (gT g2)) rfl ?_
    refine SOps.skip rfl 12 18 false rfl rfl (.inl (gT g2)) rfl ?_
    refine SOps.skip rfl 12 18 false rfl rfl (.inl (gT g2)) rfl ?_
    refine SOps.skip rfl 12 18 false rfl rfl (.inl (gT g2)) rfl ?_
    refine SOps.q rfl (.plain rfl) rfl (q_pick_t rfl rfl g2 rfl) ?_
    refine SOps.q rfl (.plain rfl) rfl (q_move rfl rfl) ?_
    refine SOps.skip rfl 18 24 false rfl rfl (.inl rfl) rfl ?_
    refine SOps.skip rfl 18 24 false rfl rfl (.inl rfl) rfl ?_
    refine SOps.skip rfl 18 24 false rfl rfl (.inl rfl) rfl ?_
    refine SOps.skip rfl 18 24 false rfl rfl (.inl rfl) rfl ?_
    refine SOps.skip rfl 18 24 false rfl rfl (.inl rfl) rfl ?_
    refine SOps.q rfl (.plain rfl) rfl (q_pick_t rfl rfl rfl rfl) ?_
    refine SOps.q rfl (.plain rfl) rfl (q_move rfl rfl) ?_
    refine SOps.skip rfl 25 31 false rfl rfl (.inl rfl) rfl ?_
    refine SOps.skip rfl 25 31 false rfl rfl (.inl rfl) rfl ?_
    refine SOps.skip rfl 25 31 false rfl rfl (.inl rfl) rfl ?_
    refine SOps.skip rfl 25 31 false rfl rfl (.inl rfl) rfl ?_
    refine SOps.skip rfl 25 31 false rfl rfl (.inl rfl) rfl ?_
    refine SOps.q rfl (.plain rfl) rfl (q_pick_t rfl rfl rfl rfl) ?_
    refine SOps.q rfl (.plain rfl) rfl (q_move rfl rfl) ?_
    refine SOps.skip rfl 32 38 false rfl rfl (.inl rfl) rfl ?_
    refine SOps.skip rfl 32 38 false rfl rfl (.inl rfl) rfl ?_
    refine SOps.skip rfl 32 38 false rfl rfl (.inl rfl) rfl ?_
    refine SOps.skip rfl 32 38 false rfl rfl (.inl rfl) rfl ?_
    refine SOps.skip rfl 32 38 false rfl rfl (.inl rfl) rfl ?_
    refine SOps.q rfl (.plain rfl) rfl (q_pick_t rfl rfl rfl rfl) ?_
    refine SOps.q rfl (.plain rfl) rfl (q_move rfl rfl) ?_
    refine SOps.skip rfl 39 45 false rfl rfl (.inl rfl) rfl ?_
    refine SOps.skip rfl 39 45 false rfl rfl (.inl rfl) rfl ?_
    refine SOps.skip rfl 39 45 false rfl rfl (.inl rfl) rfl ?_
    refine SOps.skip rfl 39 45 false rfl rfl (.inl rfl) rfl ?_
    refine SOps.skip rfl 39 45 false rfl rfl (.inl rfl) rfl ?_
    refine SOps.skip rfl 39 45 false rfl rfl (.inl rfl) rfl ?_
    refine SOps.skip rfl 39 45 false rfl rfl (.inl rfl) rfl ?_
    refine SOps.q rfl (.plain rfl) rfl (q_pick_t rfl rfl rfl rfl) ?_
    refine SOps.sub (st' := ⟨[(2, .c (.ptr 0 0)), (3, .c (.ptr 1 0)), (53, .c (.bool true))], [.box [.int .i64 a0_a.ID, .int .i64 a0_a.Level, .int .i64 a0_a.Purpose, .int .i64 a0_a.Kind, .int .i64 a0_a.Conn, .str a0_a.Txn, .int .i64 a0_a.Span_From, .int .i64 a0_a.Span_To, .int .i64 a0_a.Start, .int .i64 a0_a.Duration, .vec a0_a.Periods.length 2 (gL cSPeriod dSPeriod a0_a.Periods)], .box [.int .i64 a1_b.ID, .int .i64 a1_b.Level, .int .i64 a1_b.Purpose, .int .i64 a1_b.Kind, .int .i64 a1_b.Conn, .str a1_b.Txn, .int .i64 a1_b.Span_From, .int .i64 a1_b.Span_To, .int .i64 a1_b.Start, .int .i64 a1_b.Duration, .vec a1_b.Periods.length 2 (gL cSPeriod dSPeriod a1_b.Periods)]]⟩) (sub_gen [0, 1] rfl rfl ⟨zc rfl rfl, zc rfl rfl, zc rfl rfl, trivial⟩ ⟨⟨_, rfl, ⟨ii rfl rfl, ii rfl rfl, ii rfl rfl, ii rfl rfl, ii rfl rfl, ii rfl rfl, ii rfl rfl, ii rfl rfl, ii rfl rfl, ii rfl rfl, ii rfl rfl, trivial⟩⟩, ⟨_, rfl, ⟨ii rfl rfl, ii rfl rfl, ii rfl rfl, ii rfl rfl, ii rfl rfl, ii rfl rfl, ii rfl rfl, ii rfl rfl, ii rfl rfl, ii rfl rfl, ii rfl rfl, trivial⟩⟩, trivial⟩) ?_
    refine SOps.nil ?_
    refine SCode.cond_t rfl rfl ?_
    refine SCode.seq ?_
    refine SCode.region (show SOps _ _ _ [0] _ _ from ?_)
    refine SOps.q rfl (.plain rfl) rfl (q_assign rfl rfl) ?_
    refine SOps.sub (st' := ⟨[(4, .c (.bool false))], []⟩) (sub_gen [] rfl rfl ⟨zc rfl rfl, trivial⟩ trivial) ?_
    refine SOps.nil ?_
    refine SCode.ret ?_
    obtain rfl := Option.some.inj h
    exact ⟨⟨[(4, .c (.bool false))], []⟩, _, sub_gen [] rfl rfl ⟨zc rfl rfl, trivial⟩ trivial, resA1 (v := .c (.bool false)) rfl rfl, rfl⟩
  obtain ⟨c_3, g4, h⟩ := bind_out h
  try dsimp only at h
  rcases cond_out h with ⟨g5, h⟩ | ⟨g5, h⟩
  · refine SCode.region (show SOps _ _ _ [0, 1, 2, 3, 4, 5, 6, 7, 8, 9, 10, 11, 12, 13, 14, 15, 16, 17, 18, 19, 20, 21, 22, 23, 24, 25, 26, 27, 28, 29, 30, 31, 32, 33, 34, 35, 36, 37, 38, 39, 40, 41, 42, 43, 44, 45, 46, 47] _ _ from ?_)
    refine SOps.q rfl (.plain rfl) rfl (q_field_ptr rfl rfl fd26_0) ?_
    refine SOps.q rfl (.plain rfl) rfl (q_load_ptr rfl rfl rfl rfl ty3) ?_
    refine SOps.q rfl (.plain rfl) rfl (q_field_ptr rfl rfl fd26_0) ?_
    refine SOps.q rfl (.plain rfl) rfl (q_load_ptr rfl rfl rfl rfl ty3) ?_
    refine SOps.q rfl (.plain rfl) rfl (q_neq rfl rfl rfl) ?_
    refine SOps.q rfl (.plain rfl) rfl (q_move rfl rfl) ?_
    refine SOps.q rfl (.guard 5 11 false rfl rfl (gF g1)) rfl (q_field_ptr rfl rfl fd26_3) ?_
    refine SOps.q rfl (.guard 5 11 false rfl rfl (gF g1)) rfl (q_load_ptr rfl rfl rfl rfl ty3) ?_
    refine SOps.q rfl (.guard 5 11 false rfl rfl (gF g1)) rfl (q_field_ptr rfl rfl fd26_3) ?_
    refine SOps.q rfl (.guard 5 11 false rfl rfl (gF g1)) rfl (q_load_ptr rfl rfl rfl rfl ty3) ?_
    refine SOps.q rfl (.guard 5 11 false rfl rfl (gF g1)) rfl (q_neq rfl rfl rfl) ?_
    refine SOps.q rfl (.plain rfl) rfl (q_pick_f rfl rfl g1 rfl) ?_
    refine SOps.q rfl (.plain rfl) rfl (q_move rfl rfl) ?_
    refine SOps.q rfl (.guard 12 18 false rfl rfl (gF g2)) rfl (q_load_ptr_all rfl rfl rfl rfl rfl ty26) ?_
    refine SOps.q rfl (.guard 12 18 false rfl rfl (gF g2)) rfl (q_load_ptr_all rfl rfl rfl rfl rfl ty26) ?_
    refine SOps.q rfl (.guard 12 18 false rfl rfl (gF g2)) rfl (q_call (chargenetref15_slot_ok F a0_a a1_b c_3 g4) [] rfl fn36 ⟨⟨rfl, rfl⟩, ⟨rfl, rfl⟩, trivial⟩ (.inl rfl)) ?_
    refine SOps.q rfl (.guard 12 18 false rfl rfl (gF g2)) rfl (q_not rfl rfl) ?_
    refine SOps.q rfl (.plain rfl) rfl (q_pick_f rfl rfl g2 rfl) ?_
    refine SOps.q rfl (.plain rfl) rfl (q_move rfl rfl) ?_
    refine SOps.skip rfl 18 24 false rfl rfl (.inl (gT g5)) rfl ?_
    refine SOps.skip rfl 18 24 false rfl rfl (.inl (gT g5)) rfl ?_
    refine SOps.skip rfl 18 24 false rfl rfl (.inl (gT g5)) rfl ?_
    refine SOps.skip rfl 18 24 false rfl rfl (.inl (gT g5)) rfl ?_
    refine SOps.skip rfl 18 24 false rfl rfl (.inl (gT g5)) rfl ?_
    refine SOps.q rfl (.plain rfl) rfl (q_pick_t rfl rfl g5 rfl) ?_
    refine SOps.q rfl (.plain rfl) rfl (q_move rfl rfl) ?_
    refine SOps.skip rfl 25 31 false rfl rfl (.inl rfl) rfl ?_
    refine SOps.skip rfl 25 31 false rfl rfl (.inl rfl) rfl ?_
    refine SOps.skip rfl 25 31 false rfl rfl (.inl rfl) rfl ?_
    refine SOps.skip rfl 25 31 false rfl rfl (.inl rfl) rfl ?_
    refine SOps.skip rfl 25 31 false rfl rfl (.inl rfl) rfl ?_
    refine SOps.q rfl (.plain rfl) rfl (q_pick_t rfl rfl rfl rfl) ?_
    refine SOps.q rfl (.plain rfl) rfl (q_move rfl rfl) ?_
    refine SOps.skip rfl 32 38 false rfl rfl (.inl rfl) rfl ?_
    refine SOps.skip rfl 32 38 false rfl rfl (.inl rfl) rfl ?_
    refine SOps.skip rfl 32 38 false rfl rfl (.inl rfl) rfl ?_
    refine SOps.skip rfl 32 38 false rfl rfl (.inl rfl) rfl ?_
    refine SOps.skip rfl 32 38 false rfl rfl (.inl rfl) rfl ?_
    refine SOps.q rfl (.plain rfl) rfl (q_pick_t rfl rfl rfl rfl) ?_
    refine SOps.q rfl (.plain rfl) rfl (q_move rfl rfl) ?_
    refine SOps.skip rfl 39 45 false rfl rfl (.inl rfl) rfl ?_
    refine SOps.skip rfl 39 45 false rfl rfl (.inl rfl) rfl ?_
    refine SOps.skip rfl 39 45 false rfl rfl (.inl rfl) rfl ?_
    refine SOps.skip rfl 39 45 false rfl rfl (.inl rfl) rfl ?_
    refine SOps.skip rfl 39 45 false rfl rfl (.inl rfl) rfl ?_
    refine SOps.skip rfl 39 45 false rfl rfl (.inl rfl) rfl ?_
    refine SOps.skip rfl 39 45 false rfl rfl (.inl rfl) rfl ?_
    refine SOps.q rfl (.plain rfl) rfl (q_pick_t rfl rfl rfl rfl) ?_
    refine SOps.sub (st' := ⟨[(2, .c (.ptr 0 0)), (3, .c (.ptr 1 0)), (53, .c (.bool true))], [.box [.int .i64 a0_a.ID, .int .i64 a0_a.Level, .int .i64 a0_a.Purpose, .int .i64 a0_a.Kind, .int .i64 a0_a.Conn, .str a0_a.Txn, .int .i64 a0_a.Span_From, .int .i64 a0_a.Span_To, .int .i64 a0_a.Start, .int .i64 a0_a.Duration, .vec a0_a.Periods.length 2 (gL cSPeriod dSPeriod a0_a.Periods)], .box [.int .i64 a1_b.ID, .int .i64 a1_b.Level, .int .i64 a1_b.Purpose, .int .i64 a1_b.Kind, .int .i64 a1_b.Conn, .str a1_b.Txn, .int .i64 a1_b.Span_From, .int .i64 a1_b.Span_To, .int .i64 a1_b.Start, .int .i64 a1_b.Duration, .vec a1_b.Periods.length 2 (gL cSPeriod dSPeriod a1_b.Periods)]]⟩) (sub_gen [0, 1] rfl rfl ⟨zc rfl rfl, zc rfl rfl, zc rfl rfl, trivial⟩ ⟨⟨_, rfl, ⟨ii rfl rfl, ii rfl rfl, ii rfl rfl, ii rfl rfl, ii rfl rfl, ii rfl rfl, ii rfl rfl, ii rfl rfl, ii rfl rfl, ii rfl rfl, ii rfl rfl, trivial⟩⟩, ⟨_, rfl, ⟨ii rfl rfl, ii rfl rfl, ii rfl rfl, ii rfl rfl, ii rfl rfl, ii rfl rfl, ii rfl rfl, ii rfl rfl, ii rfl rfl, ii rfl rfl, ii rfl rfl, trivial⟩⟩, trivial⟩) ?_
    refine SOps.nil ?_
    refine SCode.cond_t rfl rfl ?_
    refine SCode.seq ?_
    refine SCode.region (show SOps _ _ _ [0] _ _ from ?_)
    refine SOps.q rfl (.plain rfl) rfl (q_assign rfl rfl) ?_
    refine SOps.sub (st' := ⟨[(4, .c (.bool false))], []⟩) (sub_gen [] rfl rfl ⟨zc rfl rfl, trivial⟩ trivial) ?_
    refine SOps.nil ?_
    refine SCode.ret ?_
    obtain rfl := Option.some.inj h
    exact ⟨⟨[(4, .c (.bool false))], []⟩, _, sub_gen [] rfl rfl ⟨zc rfl rfl, trivial⟩ trivial, resA1 (v := .c (.bool false)) rfl rfl, rfl⟩
  rcases cond_out h with ⟨g6, h⟩ | ⟨g6, h⟩
  · refine SCode.region (show SOps _ _ _ [0, 1, 2, 3, 4, 5, 6, 7, 8, 9, 10, 11, 12, 13, 14, 15, 16, 17, 18, 19, 20, 21, 22, 23, 24, 25, 26, 27, 28, 29, 30, 31, 32, 33, 34, 35, 36, 37, 38, 39, 40, 41, 42, 43, 44, 45, 46, 47] _ _ from ?_)
    refine SOps.q rfl (.plain rfl) rfl (q_field_ptr rfl rfl fd26_0) ?_
    refine SOps.q rfl (.plain rfl) rfl (q_load_ptr rfl rfl rfl rfl ty3) ?_
    refine SOps.q rfl (.plain rfl) rfl (q_field_ptr rfl rfl fd26_0) ?_
    refine SOps.q rfl (.plain rfl) rfl (q_load_ptr rfl rfl rfl rfl ty3) ?_
    refine SOps.q rfl (.plain rfl) rfl (q_neq rfl rfl rfl) ?_
    refine SOps.q rfl (.plain rfl) rfl (q_move rfl rfl) ?_
    refine SOps.q rfl (.guard 5 11 false rfl rfl (gF g1)) rfl (q_field_ptr rfl rfl fd26_3) ?_
    refine SOps.q rfl (.guard 5 11 false rfl rfl (gF g1)) rfl (q_load_ptr rfl rfl rfl rfl ty3) ?_
    refine SOps.q rfl (.guard 5 11 false rfl rfl (gF g1)) rfl (q_field_ptr rfl rfl fd26_3) ?_
    refine SOps.q rfl (.guard 5 11 false rfl rfl (gF g1)) rfl (q_load_ptr rfl rfl rfl rfl ty3) ?_
    refine SOps.q rfl (.guard 5 11 false rfl rfl (gF g1)) rfl (q_neq rfl rfl rfl) ?_
    refine SOps.q rfl (.plain rfl) rfl (q_pick_f rfl rfl g1 rfl) ?_
    refine SOps.q rfl (.plain rfl) rfl (q_move rfl rfl) ?_
    refine SOps.q rfl (.guard 12 18 false rfl rfl (gF g2)) rfl (q_load_ptr_all rfl rfl rfl rfl rfl ty26) ?_
    refine SOps.q rfl (.guard 12 18 false rfl rfl (gF g2)) rfl (q_load_ptr_all rfl rfl rfl rfl rfl ty26) ?_
    refine SOps.q rfl (.guard 12 18 false rfl rfl (gF g2)) rfl (q_call (chargenetref15_slot_ok F a0_a a1_b c_3 g4) [] rfl fn36 ⟨⟨rfl, rfl⟩, ⟨rfl, rfl⟩, trivial⟩ (.inl rfl)) ?_
    refine SOps.q rfl (.guard 12 18 false rfl rfl (gF g2)) rfl (q_not rfl rfl) ?_
    refine SOps.q rfl (.plain rfl) rfl (q_pick_f rfl rfl g2 rfl) ?_
    refine SOps.q rfl (.plain rfl) rfl (q_move rfl rfl) ?_
    refine SOps.q rfl (.guard 18 24 false rfl rfl (gF g5)) rfl (q_field_ptr rfl rfl fd26_6) ?_
    refine SOps.q rfl (.guard 18 24 false rfl rfl (gF g5)) rfl (q_load_ptr_all rfl rfl rfl rfl rfl ty23) ?_
    refine SOps.q rfl (.guard 18 24 false rfl rfl (gF g5)) rfl (q_field_ptr rfl rfl fd26_6) ?_
    refine SOps.q rfl (.guard 18 24 false rfl rfl (gF g5)) rfl (q_load_ptr_all rfl rfl rfl rfl rfl ty23) ?_
    refine SOps.q rfl (.guard 18 24 false rfl rfl (gF g5)) rfl (q_eqAgg (neg := true) rfl (.inr rfl) rfl rfl eqt23 rfl) ?_
    refine SOps.q rfl (.plain rfl) rfl (q_pick_f rfl rfl g5 rfl) ?_
    refine SOps.q rfl (.plain rfl) rfl (q_move rfl rfl) ?_
    refine SOps.skip rfl 25 31 false rfl rfl (.inl (gT g6)) rfl ?_
    refine SOps.skip rfl 25 31 false rfl rfl (.inl (gT g6)) rfl ?_
    refine SOps.skip rfl 25 31 false rfl rfl (.inl (gT g6)) rfl ?_
    refine SOps.skip rfl 25 31 false rfl rfl (.inl (gT g6)) rfl ?_
    refine SOps.skip rfl 25 31 false rfl rfl (.inl (gT g6)) rfl ?_
    refine SOps.q rfl (.plain rfl) rfl (q_pick_t rfl rfl g6 rfl) ?_
    refine SOps.q rfl (.plain rfl) rfl (q_move rfl rfl) ?_
    refine SOps.skip rfl 32 38 false rfl rfl (.inl rfl) rfl ?_
    refine SOps.skip rfl 32 38 false rfl rfl (.inl rfl) rfl ?_
    refine SOps.skip rfl 32 38 false rfl rfl (.inl rfl) rfl ?_
    refine SOps.skip rfl 32 38 false rfl rfl (.inl rfl) rfl ?_
    refine SOps.skip rfl 32 38 false rfl rfl (.inl rfl) rfl ?_
    refine SOps.q rfl (.plain rfl) rfl (q_pick_t rfl rfl rfl rfl) ?_
    refine SOps.q rfl (.plain rfl) rfl (q_move rfl rfl) ?_
    refine SOps.skip rfl 39 45 false rfl rfl (.inl rfl) rfl ?_
    refine SOps.skip rfl 39 45 false rfl rfl (.inl rfl) rfl ?_
    refine SOps.skip rfl 39 45 false rfl rfl (.inl rfl) rfl ?_
    refine SOps.skip rfl 39 45 false rfl rfl (.inl rfl) rfl ?_
    refine SOps.skip rfl 39 45 false rfl rfl (.inl rfl) rfl ?_
    refine SOps.skip rfl 39 45 false rfl rfl (.inl rfl) rfl ?_
    refine SOps.skip rfl 39 45 false rfl rfl (.inl rfl) rfl ?_
    refine SOps.q rfl (.plain rfl) rfl (q_pick_t rfl rfl rfl rfl) ?_
    refine SOps.sub (st' := ⟨[(2, .c (.ptr 0 0)), (3, .c (.ptr 1 0)), (53, .c (.bool true))], [.box [.int .i64 a0_a.ID, .int .i64 a0_a.Level, .int .i64 a0_a.Purpose, .int .i64 a0_a.Kind, .int .i64 a0_a.Conn, .str a0_a.Txn, .int .i64 a0_a.Span_From, .int .i64 a0_a.Span_To, .int .i64 a0_a.Start, .int .i64 a0_a.Duration, .vec a0_a.Periods.length 2 (gL cSPeriod dSPeriod a0_a.Periods)], .box [.int .i64 a1_b.ID, .int .i64 a1_b.Level, .int .i64 a1_b.Purpose, .int .i64 a1_b.Kind, .int .i64 a1_b.Conn, .str a1_b.Txn, .int .i64 a1_b.Span_From, .int .i64 a1_b.Span_To, .int .i64 a1_b.Start, .int .i64 a1_b.Duration, .vec a1_b.Periods.length 2 (gL cSPeriod dSPeriod a1_b.Periods)]]⟩) (sub_gen [0, 1] rfl rfl ⟨zc rfl rfl, zc rfl rfl, zc rfl rfl, trivial⟩ ⟨⟨_, rfl, ⟨ii rfl rfl, ii rfl rfl, ii rfl rfl, ii rfl rfl, ii rfl rfl, ii rfl rfl, ii rfl rfl, ii rfl rfl, ii rfl rfl, ii rfl rfl, ii rfl rfl, trivial⟩⟩, ⟨_, rfl, ⟨ii rfl rfl, ii rfl rfl, ii rfl rfl, ii rfl rfl, ii rfl rfl, ii rfl rfl, ii rfl rfl, ii rfl rfl, ii rfl rfl, ii rfl rfl, ii rfl rfl, trivial⟩⟩, trivial⟩) ?_
    refine SOps.nil ?_
    refine SCode.cond_t rfl rfl ?_
    refine SCode.seq ?_
    refine SCode.region (show SOps _ _ _ [0] _ _ from ?_)
    refine SOps.q rfl (.plain rfl) rfl (q_assign rfl rfl) ?_
    refine SOps.sub (st' := ⟨[(4, .c (.bool false))], []⟩) (sub_gen [] rfl rfl ⟨zc rfl rfl, trivial⟩ trivial) ?_
    refine SOps.nil ?_
    refine SCode.ret ?_
    obtain rfl := Option.some.inj h
    exact ⟨⟨[(4, .c (.bool false))], []⟩, _, sub_gen [] rfl rfl ⟨zc rfl rfl, trivial⟩ trivial, resA1 (v := .c (.bool false)) rfl rfl, rfl⟩
  rcases cond_out h with ⟨g7, h⟩ | ⟨g7, h⟩
  · refine SCode.region (show SOps _ _ _ [0, 1, 2, 3, 4, 5, 6, 7, 8, 9, 10, 11, 12, 13, 14, 15, 16, 17, 18, 19, 20, 21, 22, 23, 24, 25, 26, 27, 28, 29, 30, 31, 32, 33, 34, 35, 36, 37, 38, 39, 40, 41, 42, 43, 44, 45, 46, 47] _ _ from ?_)
    refine SOps.q rfl (.plain rfl) rfl (q_field_ptr rfl rfl fd26_0) ?_
    refine SOps.q rfl (.plain rfl) rfl (q_load_ptr rfl rfl rfl rfl ty3) ?_
    refine SOps.q rfl (.plain rfl) rfl (q_field_ptr rfl rfl fd26_0) ?_
    refine SOps.q rfl (.plain rfl) rfl (q_load_ptr rfl rfl rfl rfl ty3) ?_
    refine SOps.q rfl (.plain rfl) rfl (q_neq rfl rfl rfl) ?_
    refine SOps.q rfl (.plain rfl) rfl (q_move rfl rfl) ?_
    refine SOps.q rfl (.guard 5 11 false rfl rfl (gF g1)) rfl (q_field_ptr rfl rfl fd26_3) ?_
    refine SOps.q rfl (.guard 5 11 false rfl rfl (gF g1)) rfl (q_load_ptr rfl rfl rfl rfl ty3) ?_
    refine SOps.q rfl (.guard 5 11 false rfl rfl (gF g1)) rfl (q_field_ptr rfl rfl fd26_3) ?_
    refine SOps.q rfl (.guard 5 11 false rfl rfl (gF g1)) rfl (q_load_ptr rfl rfl rfl rfl ty3) ?_
    refine SOps.q rfl (.guard 5 11 false rfl rfl (gF g1)) rfl (q_neq rfl rfl rfl) ?_
    refine SOps.q rfl (.plain rfl) rfl (q_pick_f rfl rfl g1 rfl) ?_
    refine SOps.q rfl (.plain rfl) rfl (q_move rfl rfl) ?_
    refine SOps.q rfl (.guard 12 18 false rfl rfl (gF g2)) rfl (q_load_ptr_all rfl rfl rfl rfl rfl ty26) ?_
    refine SOps.q rfl (.guard 12 18 false rfl rfl (gF g2)) rfl (q_load_ptr_all rfl rfl rfl rfl rfl ty26) ?_
    refine SOps.q rfl (.guard 12 18 false rfl rfl (gF g2)) rfl (q_call (chargenetref15_slot_ok F a0_a a1_b c_3 g4) [] rfl fn36 ⟨⟨rfl, rfl⟩, ⟨rfl, rfl⟩, trivial⟩ (.inl rfl)) ?_
    refine SOps.q rfl (.guard 12 18 false rfl rfl (gF g2)) rfl (q_not rfl rfl) ?_
    refine SOps.q rfl (.plain rfl) rfl (q_pick_f rfl rfl g2 rfl) ?_
    refine SOps.q rfl (.plain rfl) rfl (q_move rfl rfl) ?_
    refine SOps.q rfl (.guard 18 24 false rfl rfl (gF g5)) rfl (q_field_ptr rfl rfl fd26_6) ?_
    refine SOps.q rfl (.guard 18 24 false rfl rfl (gF g5)) rfl (q_load_ptr_all rfl rfl rfl rfl rfl ty23) ?_
    refine SOps.q rfl (.guard 18 24 false rfl rfl (gF g5)) rfl (q_field_ptr rfl rfl fd26_6) ?_
    refine SOps.q rfl (.guard 18 24 false rfl rfl (gF g5)) rfl (q_load_ptr_all rfl rfl rfl rfl rfl ty23) ?_
    refine SOps.q rfl (.guard 18 24 false rfl rfl (gF g5)) rfl (q_eqAgg (neg := true) rfl (.inr rfl) rfl rfl eqt23 rfl) ?_
    refine SOps.q rfl (.plain rfl) rfl (q_pick_f rfl rfl g5 rfl) ?_
    refine SOps.q rfl (.plain rfl) rfl (q_move rfl rfl) ?_
    refine SOps.q rfl (.guard 25 31 false rfl rfl (gF g6)) rfl (q_field_ptr rfl rfl fd26_7) ?_
    refine SOps.q rfl (.guard 25 31 false rfl rfl (gF g6)) rfl (q_load_ptr rfl rfl rfl rfl ty3) ?_
    refine SOps.q rfl (.guard 25 31 false rfl rfl (gF g6)) rfl (q_field_ptr rfl rfl fd26_7) ?_
    refine SOps.q rfl (.guard 25 31 false rfl rfl (gF g6)) rfl (q_load_ptr rfl rfl rfl rfl ty3) ?_
    refine SOps.q rfl (.guard 25 31 false rfl rfl (gF g6)) rfl (q_neq rfl rfl rfl) ?_
    refine SOps.q rfl (.plain rfl) rfl (q_pick_f rfl rfl g6 rfl) ?_
    refine SOps.q rfl (.plain rfl) rfl (q_move rfl rfl) ?_
    refine SOps.skip rfl 32 38 false rfl rfl (.inl (gT g7)) rfl ?_
    refine SOps.skip rfl 32 38 false rfl rfl (.inl (gT g7)) rfl ?_
    refine SOps.skip rfl 32 38 false rfl rfl (.inl (gT g7)) rfl ?_
    refine SOps.skip rfl 32 38 false rfl rfl (.inl (gT g7)) rfl ?_
    refine SOps.skip rfl 32 38 false rfl rfl (.inl (gT g7)) rfl ?_
    refine SOps.q rfl (.plain rfl) rfl (q_pick_t rfl rfl g7 rfl) ?_
    refine SOps.q rfl (.plain rfl) rfl (q_move rfl rfl) ?_
    refine SOps.skip rfl 39 45 false rfl rfl (.inl rfl) rfl ?_
    refine SOps.skip rfl 39 45 false rfl rfl (.inl rfl) rfl ?_
    refine SOps.skip rfl 39 45 false rfl rfl (.inl rfl) rfl ?_
    refine SOps.skip rfl 39 45 false rfl rfl (.inl rfl) rfl ?_
    refine SOps.skip rfl 39 45 false rfl rfl (.inl rfl) rfl ?_
    refine SOps.skip rfl 39 45 false rfl rfl (.inl rfl) rfl ?_
    refine SOps.skip rfl 39 45 false rfl rfl (.inl rfl) rfl ?_
    refine SOps.q rfl (.plain rfl) rfl (q_pick_t rfl rfl rfl rfl) ?_
    refine SOps.sub (st' := ⟨[(2, .c (.ptr 0 0)), (3, .c (.ptr 1 0)), (53, .c (.bool true))], [.box [.int .i64 a0_a.ID, .int .i64 a0_a.Level, .int .i64 a0_a.Purpose, .int .i64 a0_a.Kind, .int .i64 a0_a.Conn, .str a0_a.Txn, .int .i64 a0_a.Span_From, .int .i64 a0_a.Span_To, .int .i64 a0_a.Start, .int .i64 a0_a.Duration, .vec a0_a.Periods.length 2 (gL cSPeriod dSPeriod a0_a.Periods)], .box [.int .i64 a1_b.ID, .int .i64 a1_b.Level, .int .i64 a1_b.Purpose, .int .i64 a1_b.Kind, .int .i64 a1_b.Conn, .str a1_b.Txn, .int .i64 a1_b.Span_From, .int .i64 a1_b.Span_To, .int .i64 a1_b.Start, .int .i64 a1_b.Duration, .vec a1_b.Periods.length 2 (gL cSPeriod dSPeriod a1_b.Periods)]]⟩) (sub_gen [0, 1] rfl rfl ⟨zc rfl rfl, zc rfl rfl, zc rfl rfl, trivial⟩ ⟨⟨_, rfl, ⟨ii rfl rfl, ii rfl rfl, ii rfl rfl, ii rfl rfl, ii rfl rfl, ii rfl rfl, ii rfl rfl, ii rfl rfl, ii rfl rfl, ii rfl rfl, ii rfl rfl, trivial⟩⟩, ⟨_, rfl, ⟨ii rfl rfl, ii rfl rfl, ii rfl rfl, ii rfl rfl, ii rfl rfl, ii rfl rfl, ii rfl rfl, ii rfl rfl, ii rfl rfl, ii rfl rfl, ii rfl rfl, trivial⟩⟩, trivial⟩) ?_
    refine SOps.nil ?_
    refine SCode.cond_t rfl rfl ?_
    refine SCode.seq ?_
    refine SCode.region (show SOps _ _ _ [0] _ _ from ?_)
    refine SOps.q rfl (.plain rfl) rfl (q_assign rfl rfl) ?_
    refine SOps.sub (st' := ⟨[(4, .c (.bool false))], []⟩) (sub_gen [] rfl rfl ⟨zc rfl rfl, trivial⟩ trivial) ?_
    refine SOps.nil ?_
    refine SCode.ret ?_
    obtain rfl := Option.some.inj h
    exact ⟨⟨[(4, .c (.bool false))], []⟩, _, sub_gen [] rfl rfl ⟨zc rfl rfl, trivial⟩ trivial, resA1 (v := .c (.bool false)) rfl rfl, rfl⟩
  rcases cond_out h with ⟨g8, h⟩ | ⟨g8, h⟩
  · refine SCode.region (show SOps _ _ _ [0, 1, 2, 3, 4, 5, 6, 7, 8, 9, 10, 11, 12, 13, 14, 15, 16, 17, 18, 19, 20, 21, 22, 23, 24, 25, 26, 27, 28, 29, 30, 31, 32, 33, 34, 35, 36, 37, 38, 39, 40, 41, 42, 43, 44, 45, 46, 47] _ _ from ?_)
    refine SOps.q rfl (.plain rfl) rfl (q_field_ptr rfl rfl fd26_0) ?_
    refine SOps.q rfl (.plain rfl) rfl (q_load_ptr rfl rfl rfl rfl ty3) ?_
    refine SOps.q rfl (.plain rfl) rfl (q_field_ptr rfl rfl fd26_0) ?_
    refine SOps.q rfl (.plain rfl) rfl (q_load_ptr rfl rfl rfl rfl ty3) ?_
    refine SOps.q rfl (.plain rfl) rfl (q_neq rfl rfl rfl) ?_
    refine SOps.q rfl (.plain rfl) rfl (q_move rfl rfl) ?_
    refine SOps.q rfl (.guard 5 11 false rfl rfl (gF g1)) rfl (q_field_ptr rfl rfl fd26_3) ?_
    refine SOps.q rfl (.guard 5 11 false rfl rfl (gF g1)) rfl (q_load_ptr rfl rfl rfl rfl ty3) ?_
    refine SOps.q rfl (.guard 5 11 false rfl rfl (gF g1)) rfl (q_field_ptr rfl rfl fd26_3) ?_
    refine SOps.q rfl (.guard 5 11 false rfl rfl (gF g1)) rfl (q_load_ptr rfl rfl rfl rfl ty3) ?_
    refine SOps.q rfl (.guard 5 11 false rfl rfl (gF g1)) rfl (q_neq rfl rfl rfl) ?_
    refine SOps.q rfl (.plain rfl) rfl (q_pick_f rfl rfl g1 rfl) ?_
    refine SOps.q rfl (.plain rfl) rfl (q_move rfl rfl) ?_
    refine SOps.q rfl (.guard 12 18 false rfl rfl (gF g2)) rfl (q_load_ptr_all rfl rfl rfl rfl rfl ty26) ?_
    refine SOps.q rfl (.guard 12 18 false rfl rfl (gF g2)) rfl (q_load_ptr_all rfl rfl rfl rfl rfl ty26) ?_
    refine SOps.q rfl (.guard 12 18 false rfl rfl (gF g2)) rfl (q_call (chargenetref15_slot_ok F a0_a a1_b c_3 g4) [] rfl fn36 ⟨⟨rfl, rfl⟩, ⟨rfl, rfl⟩, trivial⟩ (.inl rfl)) ?_
    refine SOps.q rfl (.guard 12 18 false rfl rfl (gF g2)) rfl (q_not rfl rfl) ?_
    refine SOps.q rfl (.plain rfl) rfl (q_pick_f rfl rfl g2 rfl) ?_
    refine SOps.q rfl (.plain rfl) rfl (q_move rfl rfl) ?_
    refine SOps.q rfl (.guard 18 24 false rfl rfl (gF g5)) rfl (q_field_ptr rfl rfl fd26_6) ?_
    refine SOps.q rfl (.guard 18 24 false rfl rfl (gF g5)) rfl (q_load_ptr_all rfl rfl rfl rfl rfl ty23) ?_
    refine SOps.q rfl (.guard 18 24 false rfl rfl (gF g5)) rfl (q_field_ptr rfl rfl fd26_6) ?_
    refine SOps.q rfl (.guard 18 24 false rfl rfl (gF g5)) rfl (q_load_ptr_all rfl rfl rfl rfl rfl ty23) ?_
    refine SOps.q rfl (.guard 18 24 false rfl rfl (gF g5)) rfl (q_eqAgg (neg := true) rfl (.inr rfl) rfl rfl eqt23 rfl) ?_
    refine SOps.q rfl (.plain rfl) rfl (q_pick_f rfl rfl g5 rfl) ?_
    refine SOps.q rfl (.plain rfl) rfl (q_move rfl rfl) ?_
    refine SOps.q rfl (.guard 25 31 false rfl rfl (gF g6)) rfl (q_field_ptr rfl rfl fd26_7) ?_
    refine SOps.q rfl (.guard 25 31 false rfl rfl (gF g6)) rfl (q_load_ptr rfl rfl rfl rfl ty3) ?_
    refine SOps.q rfl (.guard 25 31 false rfl rfl (gF g6)) rfl (q_field_ptr rfl rfl fd26_7) ?_
    refine SOps.q rfl (.guard 25 31 false rfl rfl (gF g6)) rfl (q_load_ptr rfl rfl rfl rfl ty3) ?_
    refine SOps.q rfl (.guard 25 31 false rfl rfl (gF g6)) rfl (q_neq rfl rfl rfl) ?_
    refine SOps.q rfl (.plain rfl) rfl (q_pick_f rfl rfl g6 rfl) ?_
    refine SOps.q rfl (.plain rfl) rfl (q_move rfl rfl) ?_
    refine SOps.q rfl (.guard 32 38 false rfl rfl (gF g7)) rfl (q_field_ptr rfl rfl fd26_8) ?_
    refine SOps.q rfl (.guard 32 38 false rfl rfl (gF g7)) rfl (q_load_ptr rfl rfl rfl rfl ty3) ?_
    refine SOps.q rfl (.guard 32 38 false rfl rfl (gF g7)) rfl (q_field_ptr rfl rfl fd26_8) ?_
    refine SOps.q rfl (.guard 32 38 false rfl rfl (gF g7)) rfl (q_load_ptr rfl rfl rfl rfl ty3) ?_
    refine SOps.q rfl (.guard 32 38 false rfl rfl (gF g7)) rfl (q_neq rfl rfl rfl) ?_
    refine SOps.q rfl (.plain rfl) rfl (q_pick_f rfl rfl g7 rfl) ?_
    refine SOps.q rfl (.plain rfl) rfl (q_move rfl rfl) ?_
    refine SOps.skip rfl 39 45 false rfl rfl (.inl (gT g8)) rfl ?_
    refine SOps.skip rfl 39 45 false rfl rfl (.inl (gT g8)) rfl ?_
    refine SOps.skip rfl 39 45 false rfl rfl (.inl (gT g8)) rfl ?_
    refine SOps.skip rfl 39 45 false rfl rfl (.inl (gT g8)) rfl ?_
    refine SOps.skip rfl 39 45 false rfl rfl (.inl (gT g8)) rfl ?_
    refine SOps.skip rfl 39 45 false rfl rfl (.inl (gT g8)) rfl ?_
    refine SOps.skip rfl 39 45 false rfl rfl (.inl (gT g8)) rfl ?_
    refine SOps.q rfl (.plain rfl) rfl (q_pick_t rfl rfl g8 rfl) ?_
    refine SOps.sub (st' := ⟨[(2, .c (.ptr 0 0)), (3, .c (.ptr 1 0)), (53, .c (.bool true))], [.box [.int .i64 a0_a.ID, .int .i64 a0_a.Level, .int .i64 a0_a.Purpose, .int .i64 a0_a.Kind, .int .i64 a0_a.Conn, .str a0_a.Txn, .int .i64 a0_a.Span_From, .int .i64 a0_a.Span_To, .int .i64 a0_a.Start, .int .i64 a0_a.Duration, .vec a0_a.Periods.length 2 (gL cSPeriod dSPeriod a0_a.Periods)], .box [.int .i64 a1_b.ID, .int .i64 a1_b.Level, .int .i64 a1_b.Purpose, .int .i64 a1_b.Kind, .int .i64 a1_b.Conn, .str a1_b.Txn, .int .i64 a1_b.Span_From, .int .i64 a1_b.Span_To, .int .i64 a1_b.Start, .int .i64 a1_b.Duration, .vec a1_b.Periods.length 2 (gL cSPeriod dSPeriod a1_b.Periods)]]⟩) (sub_gen [0, 1] rfl rfl ⟨zc rfl rfl, zc rfl rfl, zc rfl rfl, trivial⟩ ⟨⟨_, rfl, ⟨ii rfl rfl, ii rfl rfl, ii rfl rfl, ii rfl rfl, ii rfl rfl, ii rfl rfl, ii rfl rfl, ii rfl rfl, ii rfl rfl, ii rfl rfl, ii rfl rfl, trivial⟩⟩, ⟨_, rfl, ⟨ii rfl rfl, ii rfl rfl, ii rfl rfl, ii rfl rfl, ii rfl rfl, ii rfl rfl, ii rfl rfl, ii rfl rfl, ii rfl rfl, ii rfl rfl, ii rfl rfl, trivial⟩⟩, trivial⟩) ?_
    refine SOps.nil ?_
    refine SCode.cond_t rfl rfl ?_
    refine SCode.seq ?_
    refine SCode.region (show SOps _ _ _ [0] _ _ from ?_)
    refine SOps.q rfl (.plain rfl) rfl (q_assign rfl rfl) ?_
    refine SOps.sub (st' := ⟨[(4, .c (.bool false))], []⟩) (sub_gen [] rfl rfl ⟨zc rfl rfl, trivial⟩ trivial) ?_
    refine SOps.nil ?_
    refine SCode.ret ?_
    obtain rfl := Option.some.inj h
    exact ⟨⟨[(4, .c (.bool false))], []⟩, _, sub_gen [] rfl rfl ⟨zc rfl rfl, trivial⟩ trivial, resA1 (v := .c (.bool false)) rfl rfl, rfl⟩
  refine SCode.region (show SOps _ _ _ [0, 1, 2, 3, 4, 5, 6, 7, 8, 9, 10, 11, 12, 13, 14, 15, 16, 17, 18, 19, 20, 21, 22, 23, 24, 25, 26, 27, 28, 29, 30, 31, 32, 33, 34, 35, 36, 37, 38, 39, 40, 41, 42, 43, 44, 45, 46, 47] _ _ from ?_)
  refine SOps.q rfl (.plain rfl) rfl (q_field_ptr rfl rfl fd26_0) ?_
  refine SOps.q rfl (.plain rfl) rfl (q_load_ptr rfl rfl rfl rfl ty3) ?_
  refine SOps.q rfl (.plain rfl) rfl (q_field_ptr rfl rfl fd26_0) ?_
  refine SOps.q rfl (.plain rfl) rfl (q_load_ptr rfl rfl rfl rfl ty3) ?_
  refine SOps.q rfl (.plain rfl) rfl (q_neq rfl rfl rfl) ?_
  refine SOps.q rfl (.plain rfl) rfl (q_move rfl rfl) ?_
  refine SOps.q rfl (.guard 5 11 false rfl rfl (gF g1)) rfl (q_field_ptr rfl rfl fd26_3) ?_
  refine SOps.q rfl (.guard 5 11 false rfl rfl (gF g1)) rfl (q_load_ptr rfl rfl rfl rfl ty3) ?_
  refine SOps.q rfl (.guard 5 11 false rfl rfl (gF g1)) rfl (q_field_ptr rfl rfl fd26_3) ?_
  refine SOps.q rfl (.guard 5 11 false rfl rfl (gF g1)) rfl (q_load_ptr rfl rfl rfl rfl ty3) ?_
  refine SOps.q rfl (.guard 5 11 false rfl rfl (gF g1)) rfl (q_neq rfl rfl rfl) ?_
  refine SOps.q rfl (.plain rfl) rfl (q_pick_f rfl rfl g1 rfl) ?_
  refine SOps.q rfl (.plain rfl) rfl (q_move rfl rfl) ?_
  refine SOps.q rfl (.guard 12 18 false rfl rfl (gF g2)) rfl (q_load_ptr_all rfl rfl rfl rfl rfl ty26) ?_
  refine SOps.q rfl (.guard 12 18 false rfl rfl (gF g2)) rfl (q_load_ptr_all rfl rfl rfl rfl rfl ty26) ?_
  refine SOps.q rfl (.guard 12 18 false rfl rfl (gF g2)) rfl (q_call (chargenetref15_slot_ok F a0_a a1_b c_3 g4) [] rfl fn36 ⟨⟨rfl, rfl⟩, ⟨rfl, rfl⟩, trivial⟩ (.inl rfl)) ?_
  refine SOps.q rfl (.guard 12 18 false rfl rfl (gF g2)) rfl (q_not rfl rfl) ?_
  refine SOps.q rfl (.plain rfl) rfl (q_pick_f rfl rfl g2 rfl) ?_
  refine SOps.q rfl (.plain rfl) rfl (q_move rfl rfl) ?_
  refine SOps.q rfl (.guard 18 24 false rfl rfl (gF g5)) rfl (q_field_ptr rfl rfl fd26_6) ?_
  refine SOps.q rfl (.guard 18 24 false rfl rfl (gF g5)) rfl (q_load_ptr_all rfl rfl rfl rfl rfl ty23) ?_
  refine SOps.q rfl (.guard 18 24 false rfl rfl (gF g5)) rfl (q_field_ptr rfl rfl fd26_6) ?_
  refine SOps.q rfl (.guard 18 24 false rfl rfl (gF g5)) rfl (q_load_ptr_all rfl rfl rfl rfl rfl ty23) ?_
  refine SOps.q rfl (.guard 18 24 false rfl rfl (gF g5)) rfl (q_eqAgg (neg := true) rfl (.inr rfl) rfl rfl eqt23 rfl) ?_
  refine SOps.q rfl (.plain rfl) rfl (q_pick_f rfl rfl g5 rfl) ?_
  refine SOps.q rfl (.plain rfl) rfl (q_move rfl rfl) ?_
  refine SOps.q rfl (.guard 25 31 false rfl rfl (gF g6)) rfl (q_field_ptr rfl rfl fd26_7) ?_
  refine SOps.q rfl (.guard 25 31 false rfl rfl (gF g6)) rfl (q_load_ptr rfl rfl rfl rfl ty3) ?_
  refine SOps.q rfl (.guard 25 31 false rfl rfl (gF g6)) rfl (q_field_ptr rfl rfl fd26_7) ?_
  refine SOps.q rfl (.guard 25 31 false rfl rfl (gF g6)) rfl (q_load_ptr rfl rfl rfl rfl ty3) ?_
  refine SOps.q rfl (.guard 25 31 false rfl rfl (gF g6)) rfl (q_neq rfl rfl rfl) ?_
  refine SOps.q rfl (.plain rfl) rfl (q_pick_f rfl rfl g6 rfl) ?_
  refine SOps.q rfl (.plain rfl) rfl (q_move rfl rfl) ?_
  refine SOps.q rfl (.guard 32 38 false rfl rfl (gF g7)) rfl (q_field_ptr rfl rfl fd26_8) ?_
  refine SOps.q rfl (.guard 32 38 false rfl rfl (gF g7)) rfl (q_load_ptr rfl rfl rfl rfl ty3) ?_
  refine SOps.q rfl (.guard 32 38 false rfl rfl (gF g7)) rfl (q_field_ptr rfl rfl fd26_8) ?_
  refine SOps.q rfl (.guard 32 38 false rfl rfl (gF g7)) rfl (q_load_ptr rfl rfl rfl rfl ty3) ?_
  refine SOps.q rfl (.guard 32 38 false rfl rfl (gF g7)) rfl (q_neq rfl rfl rfl) ?_
  refine SOps.q rfl (.plain rfl) rfl (q_pick_f rfl rfl g7 rfl) ?_
  refine SOps.q rfl (.plain rfl) rfl (q_move rfl rfl) ?_
  refine SOps.q rfl (.guard 39 45 false rfl rfl (gF g8)) rfl (q_field_ptr rfl rfl fd26_9) ?_
  refine SOps.q rfl (.guard 39 45 false rfl rfl (gF g8)) rfl (q_load_ptr rfl rfl rfl rfl ty24) ?_
  refine SOps.q rfl (.guard 39 45 false rfl rfl (gF g8)) rfl (q_len_vec rfl rfl sl24) ?_
  refine SOps.q rfl (.guard 39 45 false rfl rfl (gF g8)) rfl (q_field_ptr rfl rfl fd26_9) ?_
  refine SOps.q rfl (.guard 39 45 false rfl rfl (gF g8)) rfl (q_load_ptr rfl rfl rfl rfl ty24) ?_
  refine SOps.q rfl (.guard 39 45 false rfl rfl (gF g8)) rfl (q_len_vec rfl rfl sl24) ?_
  refine SOps.q rfl (.guard 39 45 false rfl rfl (gF g8)) rfl (q_neq rfl rfl rfl) ?_
  refine SOps.q rfl (.plain rfl) rfl (q_pick_f rfl rfl g8 rfl) ?_
  refine SOps.sub (st' := ⟨[(2, .c (.ptr 0 0)), (3, .c (.ptr 1 0)), (53, .c (.bool ((!decide (((a0_a.Periods).length : Int) = ((a1_b.Periods).length : Int))))))], [.box [.int .i64 a0_a.ID, .int .i64 a0_a.Level, .int .i64 a0_a.Purpose, .int .i64 a0_a.Kind, .int .i64 a0_a.Conn, .str a0_a.Txn, .int .i64 a0_a.Span_From, .int .i64 a0_a.Span_To, .int .i64 a0_a.Start, .int .i64 a0_a.Duration, .vec a0_a.Periods.length 2 (gL cSPeriod dSPeriod a0_a.Periods)], .box [.int .i64 a1_b.ID, .int .i64 a1_b.Level, .int .i64 a1_b.Purpose, .int .i64 a1_b.Kind, .int .i64 a1_b.Conn, .str a1_b.Txn, .int .i64 a1_b.Span_From, .int .i64 a1_b.Span_To, .int .i64 a1_b.Start, .int .i64 a1_b.Duration, .vec a1_b.Periods.length 2 (gL cSPeriod dSPeriod a1_b.Periods)]]⟩) (sub_gen [0, 1] rfl rfl ⟨zc rfl rfl, zc rfl rfl, zc rfl rfl, trivial⟩ ⟨⟨_, rfl, ⟨ii rfl rfl, ii rfl rfl, ii rfl rfl, ii rfl rfl, ii rfl rfl, ii rfl rfl, ii rfl rfl, ii rfl rfl, ii rfl rfl, ii rfl rfl, ii rfl rfl, trivial⟩⟩, ⟨_, rfl, ⟨ii rfl rfl, ii rfl rfl, ii rfl rfl, ii rfl rfl, ii rfl rfl, ii rfl rfl, ii rfl rfl, ii rfl rfl, ii rfl rfl, ii rfl rfl, ii rfl rfl, trivial⟩⟩, trivial⟩) ?_
  refine SOps.nil ?_
  rcases cond_out h with ⟨g9, h⟩ | ⟨g9, h⟩
  · refine SCode.cond_t rfl g9 ?_
    refine SCode.seq ?_
    refine SCode.region (show SOps _ _ _ [0] _ _ from ?_)
    refine SOps.q rfl (.plain rfl) rfl (q_assign rfl rfl) ?_
    refine SOps.sub (st' := ⟨[(4, .c (.bool false))], []⟩) (sub_gen [] rfl rfl ⟨zc rfl rfl, trivial⟩ trivial) ?_
    refine SOps.nil ?_
    refine SCode.ret ?_
    obtain rfl := Option.some.inj h
    exact ⟨⟨[(4, .c (.bool false))], []⟩, _, sub_gen [] rfl rfl ⟨zc rfl rfl, trivial⟩ trivial, resA1 (v := .c (.bool false)) rfl rfl, rfl⟩
  refine SCode.cond_f rfl g9 ?_
  refine SCode.skip ?_
  refine SCode.join (σ := Unit) (S := fun s => ⟨[], []⟩) (g := fun s => chargenetref15_Same_p10 = some r) ?_ ?_
  rotate_left
  · refine SCode.seq ?_
    refine SCode.region (show SOps _ _ _ [0] _ _ from ?_)
    refine SOps.q rfl (.plain rfl) rfl (q_assign rfl rfl) ?_
    refine SOps.sub (st' := ⟨[(2, .c (.ptr 0 0)), (3, .c (.ptr 1 0)), (5, .c (.int .i64 0))], [.box [.int .i64 a0_a.ID, .int .i64 a0_a.Level, .int .i64 a0_a.Purpose, .int .i64 a0_a.Kind, .int .i64 a0_a.Conn, .str a0_a.Txn, .int .i64 a0_a.Span_From, .int .i64 a0_a.Span_To, .int .i64 a0_a.Start, .int .i64 a0_a.Duration, .vec a0_a.Periods.length 2 (gL cSPeriod dSPeriod a0_a.Periods)], .box [.int .i64 a1_b.ID, .int .i64 a1_b.Level, .int .i64 a1_b.Purpose, .int .i64 a1_b.Kind, .int .i64 a1_b.Conn, .str a1_b.Txn, .int .i64 a1_b.Span_From, .int .i64 a1_b.Span_To, .int .i64 a1_b.Start, .int .i64 a1_b.Duration, .vec a1_b.Periods.length 2 (gL cSPeriod dSPeriod a1_b.Periods)]]⟩) (sub_gen [0, 1] rfl rfl ⟨zc rfl rfl, zc rfl rfl, zc rfl rfl, trivial⟩ ⟨⟨_, rfl, ⟨ii rfl rfl, ii rfl rfl, ii rfl rfl, ii rfl rfl, ii rfl rfl, ii rfl rfl, ii rfl rfl, ii rfl rfl, ii rfl rfl, ii rfl rfl, ii rfl rfl, trivial⟩⟩, ⟨_, rfl, ⟨ii rfl rfl, ii rfl rfl, ii rfl rfl, ii rfl rfl, ii rfl rfl, ii rfl rfl, ii rfl rfl, ii rfl rfl, ii rfl rfl, ii rfl rfl, ii rfl rfl, trivial⟩⟩, trivial⟩) ?_
    refine SOps.nil ?_
    refine SCode.block ?_
    refine SCode.sub (st' := ⟨[(2, .c (.ptr 0 0)), (3, .c (.ptr 1 0)), (5, .c (.int .i64 0))], [.box [.int .i64 a0_a.ID, .int .i64 a0_a.Level, .int .i64 a0_a.Purpose, .int .i64 a0_a.Kind, .int .i64 a0_a.Conn, .str a0_a.Txn, .int .i64 a0_a.Span_From, .int .i64 a0_a.Span_To, .int .i64 a0_a.Start, .int .i64 a0_a.Duration, .vec a0_a.Periods.length 2 (gL cSPeriod dSPeriod a0_a.Periods)], .box [.int .i64 a1_b.ID, .int .i64 a1_b.Level, .int .i64 a1_b.Purpose, .int .i64 a1_b.Kind, .int .i64 a1_b.Conn, .str a1_b.Txn, .int .i64 a1_b.Span_From, .int .i64 a1_b.Span_To, .int .i64 a1_b.Start, .int .i64 a1_b.Duration, .vec a1_b.Periods.length 2 (gL cSPeriod dSPeriod a1_b.Periods)]]⟩) (sub_gen [0, 1] rfl rfl ⟨zc rfl rfl, zc rfl rfl, zc rfl rfl, trivial⟩ ⟨⟨_, rfl, ⟨ii rfl rfl, ii rfl rfl, ii rfl rfl, ii rfl rfl, ii rfl rfl, ii rfl rfl, ii rfl rfl, ii rfl rfl, ii rfl rfl, ii rfl rfl, ii rfl rfl, trivial⟩⟩, ⟨_, rfl, ⟨ii rfl rfl, ii rfl rfl, ii rfl rfl, ii rfl rfl, ii rfl rfl, ii rfl rfl, ii rfl rfl, ii rfl rfl, ii rfl rfl, ii rfl rfl, ii rfl rfl, trivial⟩⟩, trivial⟩) ?_
    refine (SCode.loop (σ := Nat × Int) (S := fun s => ⟨[(2, .c (.ptr 0 0)), (3, .c (.ptr 1 0)), (5, .c (.int .i64 s.2))], [.box [.int .i64 a0_a.ID, .int .i64 a0_a.Level, .int .i64 a0_a.Purpose, .int .i64 a0_a.Kind, .int .i64 a0_a.Conn, .str a0_a.Txn, .int .i64 a0_a.Span_From, .int .i64 a0_a.Span_To, .int .i64 a0_a.Start, .int .i64 a0_a.Duration, .vec a0_a.Periods.length 2 (gL cSPeriod dSPeriod a0_a.Periods)], .box [.int .i64 a1_b.ID, .int .i64 a1_b.Level, .int .i64 a1_b.Purpose, .int .i64 a1_b.Kind, .int .i64 a1_b.Conn, .str a1_b.Txn, .int .i64 a1_b.Span_From, .int .i64 a1_b.Span_To, .int .i64 a1_b.Start, .int .i64 a1_b.Duration, .vec a1_b.Periods.length 2 (gL cSPeriod dSPeriod a1_b.Periods)]]⟩) (g := fun s => chargenetref15_Same_l20 a0_a a1_b s.1 s.2 = some r) (μ := fun s => s.1) (F, 0) h ?_)
    rintro ⟨n_20, i_15⟩ h
    replace h : chargenetref15_Same_l20 a0_a a1_b n_20 i_15 = some r := h
    show SCode _ _ _ ⟨[(2, .c (.ptr 0 0)), (3, .c (.ptr 1 0)), (5, .c (.int .i64 i_15))], [.box [.int .i64 a0_a.ID, .int .i64 a0_a.Level, .int .i64 a0_a.Purpose, .int .i64 a0_a.Kind, .int .i64 a0_a.Conn, .str a0_a.Txn, .int .i64 a0_a.Span_From, .int .i64 a0_a.Span_To, .int .i64 a0_a.Start, .int .i64 a0_a.Duration, .vec a0_a.Periods.length 2 (gL cSPeriod dSPeriod a0_a.Periods)], .box [.int .i64 a1_b.ID, .int .i64 a1_b.Level, .int .i64 a1_b.Purpose, .int .i64 a1_b.Kind, .int .i64 a1_b.Conn, .str a1_b.Txn, .int .i64 a1_b.Span_From, .int .i64 a1_b.Span_To, .int .i64 a1_b.Start, .int .i64 a1_b.Duration, .vec a1_b.Periods.length 2 (gL cSPeriod dSPeriod a1_b.Periods)]]⟩ _
    cases n_20 with
    | zero => cases h
    | succ n_20 =>
      replace h : chargenetref15_Same_b20 a0_a a1_b (fun i_15 => chargenetref15_Same_l20 a0_a a1_b n_20 i_15) i_15 = some r := h
      unfold chargenetref15_Same_b20 at h
      refine SCode.seq ?_
      refine SCode.seq ?_
      refine SCode.region (show SOps _ _ _ [0, 1, 2, 3, 4] _ _ from ?_)
      refine SOps.q rfl (.plain rfl) rfl (q_move rfl rfl) ?_
      refine SOps.q rfl (.plain rfl) rfl (q_field_ptr rfl rfl fd26_9) ?_
      refine SOps.q rfl (.plain rfl) rfl (q_load_ptr rfl rfl rfl rfl ty24) ?_
      refine SOps.q rfl (.plain rfl) rfl (q_len_vec rfl rfl sl24) ?_
      refine SOps.q rfl (.plain rfl) rfl (q_lss rfl rfl rfl) ?_
      refine SOps.sub (st' := ⟨[(2, .c (.ptr 0 0)), (3, .c (.ptr 1 0)), (5, .c (.int .i64 i_15)), (58, .c (.bool (decide (i_15 < ((a0_a.Periods).length : Int)))))], [.box [.int .i64 a0_a.ID, .int .i64 a0_a.Level, .int .i64 a0_a.Purpose, .int .i64 a0_a.Kind, .int .i64 a0_a.Conn, .str a0_a.Txn, .int .i64 a0_a.Span_From, .int .i64 a0_a.Span_To, .int .i64 a0_a.Start, .int .i64 a0_a.Duration, .vec a0_a.Periods.length 2 (gL cSPeriod dSPeriod a0_a.Periods)], .box [.int .i64 a1_b.ID, .int .i64 a1_b.Level, .int .i64 a1_b.Purpose, .int .i64 a1_b.Kind, .int .i64 a1_b.Conn, .str a1_b.Txn, .int .i64 a1_b.Span_From, .int .i64 a1_b.Span_To, .int .i64 a1_b.Start, .int .i64 a1_b.Duration, .vec a1_b.Periods.length 2 (gL cSPeriod dSPeriod a1_b.Periods)]]⟩) (sub_gen [0, 1] rfl rfl ⟨zc rfl rfl, zc rfl rfl, zc rfl rfl, zc rfl rfl, trivial⟩ ⟨⟨_, rfl, ⟨ii rfl rfl, ii rfl rfl, ii rfl rfl, ii rfl rfl, ii rfl rfl, ii rfl rfl, ii rfl rfl, ii rfl rfl, ii rfl rfl, ii rfl rfl, ii rfl rfl, trivial⟩⟩, ⟨_, rfl, ⟨ii rfl rfl, ii rfl rfl, ii rfl rfl, ii rfl rfl, ii rfl rfl, ii rfl rfl, ii rfl rfl, ii rfl rfl, ii rfl rfl, ii rfl rfl, ii rfl rfl, trivial⟩⟩, trivial⟩) ?_
      refine SOps.nil ?_
      rcases cond_out h with ⟨g21, h⟩ | ⟨g21, h⟩
      · refine SCode.cond_t rfl g21 ?_
        refine SCode.skip ?_
        refine SCode.seq ?_
        refine SCode.block ?_
        refine SCode.seq ?_
        obtain ⟨g22, h⟩ := guard_out h
        obtain ⟨g23, h⟩ := guard_out h
        refine SCode.draw (s' := [(71, .c (.bool ((xor true (decide ((a0_a.Periods.getD i_15.toNat dSPeriod).At = (a1_b.Periods.getD i_15.toNat dSPeriod).At) && (decide ((a0_a.Periods.getD i_15.toNat dSPeriod).Limit = (a1_b.Periods.getD i_15.toNat dSPeriod).Limit) && true)))))), (70, .a [.int .i64 ((a1_b.Periods.getD i_15.toNat dSPeriod).At), .int .i64 ((a1_b.Periods.getD i_15.toNat dSPeriod).Limit)]), (69, .c (.eptr 2 (cSPeriod (a1_b.Periods.getD i_15.toNat dSPeriod)) 0)), (68, .c (.int .i64 i_15)), (67, .c (.vec a1_b.Periods.length 2 (gL cSPeriod dSPeriod a1_b.Periods))), (66, .c (.ptr 1 10)), (65, .a [.int .i64 ((a0_a.Periods.getD i_15.toNat dSPeriod).At), .int .i64 ((a0_a.Periods.getD i_15.toNat dSPeriod).Limit)]), (64, .c (.eptr 2 (cSPeriod (a0_a.Periods.getD i_15.toNat dSPeriod)) 0)), (63, .c (.int .i64 i_15)), (62, .c (.vec a0_a.Periods.length 2 (gL cSPeriod dSPeriod a0_a.Periods))), (61, .c (.ptr 0 10)), (2, .c (.ptr 0 0)), (3, .c (.ptr 1 0)), (5, .c (.int .i64 i_15)), (58, .c (.bool (decide (i_15 < ((a0_a.Periods).length : Int)))))]) mixed [[], [0], [], [0, 1, 2], [0, 1, 2, 3], [], [5], [], [5, 6, 7], [5, 6, 7, 8], [0, 1, 2, 3, 4, 5, 6, 7, 8, 9]] 11 0 rfl rfl ?_ ?_
        · refine QChain.run rfl (.plain rfl) rfl (q_field_ptr rfl rfl fd26_9) ?_
          refine QChain.run rfl (.plain rfl) rfl (q_load_ptr rfl rfl rfl rfl ty24) ?_
          refine QChain.run rfl (.plain rfl) rfl (q_move rfl rfl) ?_
          refine QChain.run rfl (.plain rfl) rfl (q_index_vec rfl rfl rfl sl24 rfl g22.1 g22.2) ?_
          refine QChain.run rfl (.plain rfl) rfl (q_load_eptr_all rfl rfl rfl ty47) ?_
          refine QChain.run rfl (.plain rfl) rfl (q_field_ptr rfl rfl fd26_9) ?_
          refine QChain.run rfl (.plain rfl) rfl (q_load_ptr rfl rfl rfl rfl ty24) ?_
          refine QChain.run rfl (.plain rfl) rfl (q_move rfl rfl) ?_
          refine QChain.run rfl (.plain rfl) rfl (q_index_vec rfl rfl rfl sl24 rfl g23.1 g23.2) ?_
          refine QChain.run rfl (.plain rfl) rfl (q_load_eptr_all rfl rfl rfl ty47) ?_
          refine QChain.run rfl (.plain rfl) rfl (q_eqAgg (neg := true) rfl (.inr rfl) rfl rfl eqt47 rfl) ?_
          exact QChain.nil _ _
        refine (show SOps _ _ _ [] _ _ from ?_)
        refine SOps.sub (st' := ⟨[(2, .c (.ptr 0 0)), (3, .c (.ptr 1 0)), (5, .c (.int .i64 i_15)), (71, .c (.bool ((xor true (decide ((a0_a.Periods.getD i_15.toNat dSPeriod).At = (a1_b.Periods.getD i_15.toNat dSPeriod).At) && (decide ((a0_a.Periods.getD i_15.toNat dSPeriod).Limit = (a1_b.Periods.getD i_15.toNat dSPeriod).Limit) && true))))))], [.box [.int .i64 a0_a.ID, .int .i64 a0_a.Level, .int .i64 a0_a.Purpose, .int .i64 a0_a.Kind, .int .i64 a0_a.Conn, .str a0_a.Txn, .int .i64 a0_a.Span_From, .int .i64 a0_a.Span_To, .int .i64 a0_a.Start, .int .i64 a0_a.Duration, .vec a0_a.Periods.length 2 (gL cSPeriod dSPeriod a0_a.Periods)], .box [.int .i64 a1_b.ID, .int .i64 a1_b.Level, .int .i64 a1_b.Purpose, .int .i64 a1_b.Kind, .int .i64 a1_b.Conn, .str a1_b.Txn, .int .i64 a1_b.Span_From, .int .i64 a1_b.Span_To, .int .i64 a1_b.Start, .int .i64 a1_b.Duration, .vec a1_b.Periods.length 2 (gL cSPeriod dSPeriod a1_b.Periods)]]⟩) (sub_gen [0, 1] rfl rfl ⟨zc rfl rfl, zc rfl rfl, zc rfl rfl, zc rfl rfl, trivial⟩ ⟨⟨_, rfl, ⟨ii rfl rfl, ii rfl rfl, ii rfl rfl, ii rfl rfl, ii rfl rfl, ii rfl rfl, ii rfl rfl, ii rfl rfl, ii rfl rfl, ii rfl rfl, ii rfl rfl, trivial⟩⟩, ⟨_, rfl, ⟨ii rfl rfl, ii rfl rfl, ii rfl rfl, ii rfl rfl, ii rfl rfl, ii rfl rfl, ii rfl rfl, ii rfl rfl, ii rfl rfl, ii rfl rfl, ii rfl rfl, trivial⟩⟩, trivial⟩) ?_
        refine SOps.nil ?_
        rcases cond_out h with ⟨g24, h⟩ | ⟨g24, h⟩
        · refine SCode.cond_t rfl g24 ?_
          refine SCode.seq ?_
          refine SCode.region (show SOps _ _ _ [0] _ _ from ?_)
          refine SOps.q rfl (.plain rfl) rfl (q_assign rfl rfl) ?_
          refine SOps.sub (st' := ⟨[(4, .c (.bool false))], []⟩) (sub_gen [] rfl rfl ⟨zc rfl rfl, trivial⟩ trivial) ?_
          refine SOps.nil ?_
          refine SCode.ret ?_
          obtain rfl := Option.some.inj h
          exact ⟨⟨[(4, .c (.bool false))], []⟩, _, sub_gen [] rfl rfl ⟨zc rfl rfl, trivial⟩ trivial, resA1 (v := .c (.bool false)) rfl rfl, rfl⟩
        refine SCode.cond_f rfl g24 ?_
        refine SCode.skip ?_
        refine SCode.region (show SOps _ _ _ [0, 1, 2] _ _ from ?_)
        refine SOps.q rfl (.plain rfl) rfl (q_move rfl rfl) ?_
        refine SOps.q rfl (.plain rfl) rfl (q_add rfl rfl rfl) ?_
        refine SOps.q rfl (.plain rfl) rfl (q_assign rfl rfl) ?_
        refine SOps.sub (st' := ⟨[(2, .c (.ptr 0 0)), (3, .c (.ptr 1 0)), (5, .c (.int .i64 (IntKind.wrap .i64 (i_15 + 1))))], [.box [.int .i64 a0_a.ID, .int .i64 a0_a.Level, .int .i64 a0_a.Purpose, .int .i64 a0_a.Kind, .int .i64 a0_a.Conn, .str a0_a.Txn, .int .i64 a0_a.Span_From, .int .i64 a0_a.Span_To, .int .i64 a0_a.Start, .int .i64 a0_a.Duration, .vec a0_a.Periods.length 2 (gL cSPeriod dSPeriod a0_a.Periods)], .box [.int .i64 a1_b.ID, .int .i64 a1_b.Level, .int .i64 a1_b.Purpose, .int .i64 a1_b.Kind, .int .i64 a1_b.Conn, .str a1_b.Txn, .int .i64 a1_b.Span_From, .int .i64 a1_b.Span_To, .int .i64 a1_b.Start, .int .i64 a1_b.Duration, .vec a1_b.Periods.length 2 (gL cSPeriod dSPeriod a1_b.Periods)]]⟩) (sub_gen [0, 1] rfl rfl ⟨zc rfl rfl, zc rfl rfl, zc rfl rfl, trivial⟩ ⟨⟨_, rfl, ⟨ii rfl rfl, ii rfl rfl, ii rfl rfl, ii rfl rfl, ii rfl rfl, ii rfl rfl, ii rfl rfl, ii rfl rfl, ii rfl rfl, ii rfl rfl, ii rfl rfl, trivial⟩⟩, ⟨_, rfl, ⟨ii rfl rfl, ii rfl rfl, ii rfl rfl, ii rfl rfl, ii rfl rfl, ii rfl rfl, ii rfl rfl, ii rfl rfl, ii rfl rfl, ii rfl rfl, ii rfl rfl, trivial⟩⟩, trivial⟩) ?_
        refine SOps.nil ?_
        exact ⟨(n_20, IntKind.wrap .i64 (i_15 + 1)), h, Nat.lt_succ_self n_20, sub_gen [0, 1] rfl rfl ⟨zc rfl rfl, zc rfl rfl, zc rfl rfl, trivial⟩ ⟨⟨_, rfl, ⟨ii rfl rfl, ii rfl rfl, ii rfl rfl, ii rfl rfl, ii rfl rfl, ii rfl rfl, ii rfl rfl, ii rfl rfl, ii rfl rfl, ii rfl rfl, ii rfl rfl, trivial⟩⟩, ⟨_, rfl, ⟨ii rfl rfl, ii rfl rfl, ii rfl rfl, ii rfl rfl, ii rfl rfl, ii rfl rfl, ii rfl rfl, ii rfl rfl, ii rfl rfl, ii rfl rfl, ii rfl rfl, trivial⟩⟩, trivial⟩⟩
      refine SCode.cond_f rfl g21 ?_
      refine SCode.exit ?_
      exact ⟨(), h, sub_gen [] rfl rfl trivial trivial⟩
  rintro ⟨⟩ h
  show SCode _ _ _ ⟨[], []⟩ _
  replace h : chargenetref15_Same_p10 = some r := h
  unfold chargenetref15_Same_p10 at h
  refine SCode.seq ?_
  refine SCode.region (show SOps _ _ _ [0] _ _ from ?_)
  refine SOps.q rfl (.plain rfl) rfl (q_assign rfl rfl) ?_
  refine SOps.sub (st' := ⟨[(4, .c (.bool true))], []⟩) (sub_gen [] rfl rfl ⟨zc rfl rfl, trivial⟩ trivial) ?_
  refine SOps.nil ?_
  refine SCode.ret ?_
  obtain rfl := Option.some.inj h
  exact ⟨⟨[(4, .c (.bool true))], []⟩, _, sub_gen [] rfl rfl ⟨zc rfl rfl, trivial⟩ trivial, resA1 (v := .c (.bool true)) rfl rfl, rfl⟩
set_option maxHeartbeats 8000000 in
theorem chargenetref15_SameAll_ok (F : Nat) (a0_a : List SProfile) (a1_b : List SProfile) (r : Bool) (h : chargenetref15_SameAll F a0_a a1_b = some r) :
    SFun Try.prog 17 [] [.c (.vec a0_a.length 11 (gL cSProfile dSProfile a0_a)), .c (.vec a1_b.length 11 (gL cSProfile dSProfile a1_b))] (fun x _ => x = .c (.bool r)) := by
  refine SFun.of (n := 27) Try.func17 rfl rfl rfl ?_
  unfold chargenetref15_SameAll at h
  show SCode _ _ _ ⟨[(0, .c (.vec a0_a.length 11 (gL cSProfile dSProfile a0_a))), (1, .c (.vec a1_b.length 11 (gL cSProfile dSProfile a1_b)))], []⟩ _
  refine SCode.seq ?_
  refine SCode.region (show SOps _ _ _ [0] _ _ from ?_)
  refine SOps.q rfl (.plain rfl) rfl (q_assign rfl rfl) ?_
  refine SOps.sub (st' := ⟨[(0, .c (.vec a0_a.length 11 (gL cSProfile dSProfile a0_a))), (1, .c (.vec a1_b.length 11 (gL cSProfile dSProfile a1_b)))], []⟩) (sub_gen [] rfl rfl ⟨zc rfl rfl, zc rfl rfl, trivial⟩ trivial) ?_
  refine SOps.nil ?_
  refine SCode.seq ?_
  refine SCode.seq ?_
  refine SCode.region (show SOps _ _ _ [0, 1, 2, 3, 4] _ _ from ?_)
  refine SOps.q rfl (.plain rfl) rfl (q_move rfl rfl) ?_
  refine SOps.q rfl (.plain rfl) rfl (q_len_vec rfl rfl sl31) ?_
  refine SOps.q rfl (.plain rfl) rfl (q_move rfl rfl) ?_
  refine SOps.q rfl (.plain rfl) rfl (q_len_vec rfl rfl sl31) ?_
  refine SOps.q rfl (.plain rfl) rfl (q_neq rfl rfl rfl) ?_
  refine SOps.sub (st' := ⟨[(0, .c (.vec a0_a.length 11 (gL cSProfile dSProfile a0_a))), (1, .c (.vec a1_b.length 11 (gL cSProfile dSProfile a1_b))), (10, .c (.bool ((!decide (((a0_a).length : Int) = ((a1_b).length : Int))))))], []⟩) (sub_gen [] rfl rfl ⟨zc rfl rfl, zc rfl rfl, zc rfl rfl, trivial⟩ trivial) ?_
  refine SOps.nil ?_
  rcases cond_out h with ⟨g1, h⟩ | ⟨g1, h⟩
  · refine SCode.cond_t rfl g1 ?_
    refine SCode.seq ?_
    refine SCode.region (show SOps _ _ _ [0] _ _ from ?_)
    refine SOps.q rfl (.plain rfl) rfl (q_assign rfl rfl) ?_
    refine SOps.sub (st' := ⟨[(4, .c (.bool false))], []⟩) (sub_gen [] rfl rfl ⟨zc rfl rfl, trivial⟩ trivial) ?_
    refine SOps.nil ?_
    refine SCode.ret ?_
    obtain rfl := Option.some.inj h
    exact ⟨⟨[(4, .c (.bool false))], []⟩, _, sub_gen [] rfl rfl ⟨zc rfl rfl, trivial⟩ trivial, resA1 (v := .c (.bool false)) rfl rfl, rfl⟩
  refine SCode.cond_f rfl g1 ?_
  refine SCode.skip ?_
  refine SCode.join (σ := Unit) (S := fun s => ⟨[], []⟩) (g := fun s => chargenetref15_SameAll_p2 = some r) ?_ ?_
  rotate_left
  · refine SCode.seq ?_
    refine SCode.region (show SOps _ _ _ [0] _ _ from ?_)
    refine SOps.q rfl (.plain rfl) rfl (q_assign rfl rfl) ?_
    refine SOps.sub (st' := ⟨[(0, .c (.vec a0_a.length 11 (gL cSProfile dSProfile a0_a))), (1, .c (.vec a1_b.length 11 (gL cSProfile dSProfile a1_b))), (5, .c (.int .i64 0))], []⟩) (sub_gen [] rfl rfl ⟨zc rfl rfl, zc rfl rfl, zc rfl rfl, trivial⟩ trivial) ?_
    refine SOps.nil ?_
    refine SCode.block ?_
    refine SCode.sub (st' := ⟨[(0, .c (.vec a0_a.length 11 (gL cSProfile dSProfile a0_a))), (1, .c (.vec a1_b.length 11 (gL cSProfile dSProfile a1_b))), (5, .c (.int .i64 0))], []⟩) (sub_gen [] rfl rfl ⟨zc rfl rfl, zc rfl rfl, zc rfl rfl, trivial⟩ trivial) ?_
    refine (SCode.loop (σ := Nat × Int) (S := fun s => ⟨[(0, .c (.vec a0_a.length 11 (gL cSProfile dSProfile a0_a))), (1, .c (.vec a1_b.length 11 (gL cSProfile dSProfile a1_b))), (5, .c (.int .i64 s.2))], []⟩) (g := fun s => chargenetref15_SameAll_l16 F a0_a a1_b s.1 s.2 = some r) (μ := fun s => s.1) (F, 0) h ?_)
    rintro ⟨n_16, i_9⟩ h
    replace h : chargenetref15_SameAll_l16 F a0_a a1_b n_16 i_9 = some r := h
    show SCode _ _ _ ⟨[(0, .c (.vec a0_a.length 11 (gL cSProfile dSProfile a0_a))), (1, .c (.vec a1_b.length 11 (gL cSProfile dSProfile a1_b))), (5, .c (.int .i64 i_9))], []⟩ _
    cases n_16 with
    | zero => cases h
    | succ n_16 =>
      replace h : chargenetref15_SameAll_b16 F a0_a a1_b (fun i_9 => chargenetref15_SameAll_l16 F a0_a a1_b n_16 i_9) i_9 = some r := h
      unfold chargenetref15_SameAll_b16 at h
      refine SCode.seq ?_
      refine SCode.seq ?_
      refine SCode.region (show SOps _ _ _ [0, 1, 2, 3] _ _ from ?_)
      refine SOps.q rfl (.plain rfl) rfl (q_move rfl rfl) ?_
      refine SOps.q rfl (.plain rfl) rfl (q_move rfl rfl) ?_
      refine SOps.q rfl (.plain rfl) rfl (q_len_vec rfl rfl sl31) ?_
      refine SOps.q rfl (.plain rfl) rfl (q_lss rfl rfl rfl) ?_
      refine SOps.sub (st' := ⟨[(0, .c (.vec a0_a.length 11 (gL cSProfile dSProfile a0_a))), (1, .c (.vec a1_b.length 11 (gL cSProfile dSProfile a1_b))), (5, .c (.int .i64 i_9)), (14, .c (.bool (decide (i_9 < ((a0_a).length : Int)))))], []⟩) (sub_gen [] rfl rfl ⟨zc rfl rfl, zc rfl rfl, zc rfl rfl, zc rfl rfl, trivial⟩ trivial) ?_
      refine SOps.nil ?_
      rcases cond_out h with ⟨g17, h⟩ | ⟨g17, h⟩
      · refine SCode.cond_t rfl g17 ?_
        refine SCode.skip ?_
        refine SCode.seq ?_
        refine SCode.block ?_
        refine SCode.seq ?_
        obtain ⟨g18, h⟩ := guard_out h
        obtain ⟨g19, h⟩ := guard_out h
        obtain ⟨c_20, g21, h⟩ := bind_out h
        try dsimp only at h
        refine SCode.draw (s' := [(26, .c (.bool ((!c_20)))), (25, .c (.bool c_20)), (24, .a [.int .i64 ((a1_b.getD i_9.toNat dSProfile).ID), .int .i64 ((a1_b.getD i_9.toNat dSProfile).Level), .int .i64 ((a1_b.getD i_9.toNat dSProfile).Purpose), .int .i64 ((a1_b.getD i_9.toNat dSProfile).Kind), .int .i64 ((a1_b.getD i_9.toNat dSProfile).Conn), .str ((a1_b.getD i_9.toNat dSProfile).Txn), .int .i64 ((a1_b.getD i_9.toNat dSProfile).Span_From), .int .i64 ((a1_b.getD i_9.toNat dSProfile).Span_To), .int .i64 ((a1_b.getD i_9.toNat dSProfile).Start), .int .i64 ((a1_b.getD i_9.toNat dSProfile).Duration), .vec ((a1_b.getD i_9.toNat dSProfile).Periods).length 2 (gL cSPeriod dSPeriod ((a1_b.getD i_9.toNat dSProfile).Periods))]), (23, .c (.eptr 11 (cSProfile (a1_b.getD i_9.toNat dSProfile)) 0)), (22, .c (.int .i64 i_9)), (21, .c (.vec a1_b.length 11 (gL cSProfile dSProfile a1_b))), (20, .a [.int .i64 ((a0_a.getD i_9.toNat dSProfile).ID), .int .i64 ((a0_a.getD i_9.toNat dSProfile).Level), .int .i64 ((a0_a.getD i_9.toNat dSProfile).Purpose), .int .i64 ((a0_a.getD i_9.toNat dSProfile).Kind), .int .i64 ((a0_a.getD i_9.toNat dSProfile).Conn), .str ((a0_a.getD i_9.toNat dSProfile).Txn), .int .i64 ((a0_a.getD i_9.toNat dSProfile).Span_From), .int .i64 ((a0_a.getD i_9.toNat dSProfile).Span_To), .int .i64 ((a0_a.getD i_9.toNat dSProfile).Start), .int .i64 ((a0_a.getD i_9.toNat dSProfile).Duration), .vec ((a0_a.getD i_9.toNat dSProfile).Periods).length 2 (gL cSPeriod dSPeriod ((a0_a.getD i_9.toNat dSProfile).Periods))]), (19, .c (.eptr 11 (cSProfile (a0_a.getD i_9.toNat dSProfile)) 0)), (18, .c (.int .i64 i_9)), (17, .c (.vec a0_a.length 11 (gL cSProfile dSProfile a0_a))), (0, .c (.vec a0_a.length 11 (gL cSProfile dSProfile a0_a))), (1, .c (.vec a1_b.length 11 (gL cSProfile dSProfile a1_b))), (5, .c (.int .i64 i_9)), (14, .c (.bool (decide (i_9 < ((a0_a).length : Int)))))]) mixed [[], [], [0, 1], [0, 1, 2], [], [], [4, 5], [4, 5, 6], [0, 1, 2, 3, 4, 5, 6, 7], [0, 1, 2, 3, 4, 5, 6, 7, 8]] 10 0 rfl rfl ?_ ?_
        · refine QChain.run rfl (.plain rfl) rfl (q_move rfl rfl) ?_
          refine QChain.run rfl (.plain rfl) rfl (q_move rfl rfl) ?_
          refine QChain.run rfl (.plain rfl) rfl (q_index_vec rfl rfl rfl sl31 rfl g18.1 g18.2) ?_
          refine QChain.run rfl (.plain rfl) rfl (q_load_eptr_all rfl rfl rfl ty26) ?_
          refine QChain.run rfl (.plain rfl) rfl (q_move rfl rfl) ?_
          refine QChain.run rfl (.plain rfl) rfl (q_move rfl rfl) ?_
          refine QChain.run rfl (.plain rfl) rfl (q_index_vec rfl rfl rfl sl31 rfl g19.1 g19.2) ?_
          refine QChain.run rfl (.plain rfl) rfl (q_load_eptr_all rfl rfl rfl ty26) ?_
          refine QChain.run rfl (.plain rfl) rfl (q_call (chargenetref15_Same_ok F (a0_a.getD i_9.toNat dSProfile) (a1_b.getD i_9.toNat dSProfile) c_20 g21) [] rfl fn20 ⟨⟨rfl, rfl⟩, ⟨rfl, rfl⟩, trivial⟩ (.inl rfl)) ?_
          refine QChain.run rfl (.plain rfl) rfl (q_not rfl rfl) ?_
          exact QChain.nil _ _
        refine (show SOps _ _ _ [] _ _ from ?_)
        refine SOps.sub (st' := ⟨[(0, .c (.vec a0_a.length 11 (gL cSProfile dSProfile a0_a))), (1, .c (.vec a1_b.length 11 (gL cSProfile dSProfile a1_b))), (5, .c (.int .i64 i_9)), (26, .c (.bool ((!c_20))))], []⟩) (sub_gen [] rfl rfl ⟨zc rfl rfl, zc rfl rfl, zc rfl rfl, zc rfl rfl, trivial⟩ trivial) ?_
        refine SOps.nil ?_
        rcases cond_out h with ⟨g22, h⟩ | ⟨g22, h⟩
        · refine SCode.cond_t rfl g22 ?_
          refine SCode.seq ?_
          refine SCode.region (show SOps _ _ _ [0] _ _ from ?_)
          refine SOps.q rfl (.plain rfl) rfl (q_assign rfl rfl) ?_
          refine SOps.sub (st' := ⟨[(4, .c (.bool false))], []⟩) (sub_gen [] rfl rfl ⟨zc rfl rfl, trivial⟩ trivial) ?_
          refine SOps.nil ?_
          refine SCode.ret ?_
          obtain rfl := Option.some.inj h
          exact ⟨⟨[(4, .c (.bool false))], []⟩, _, sub_gen [] rfl rfl ⟨zc rfl rfl, trivial⟩ trivial, resA1 (v := .c (.bool false)) rfl rfl, rfl⟩
        refine SCode.cond_f rfl g22 ?_
        refine SCode.skip ?_
        refine SCode.region (show SOps _ _ _ [0, 1, 2] _ _ from ?_)
        refine SOps.q rfl (.plain rfl) rfl (q_move rfl rfl) ?_
        refine SOps.q rfl (.plain rfl) rfl (q_add rfl rfl rfl) ?_
        refine SOps.q rfl (.plain rfl) rfl (q_assign rfl rfl) ?_
        refine SOps.sub (st' := ⟨[(0, .c (.vec a0_a.length 11 (gL cSProfile dSProfile a0_a))), (1, .c (.vec a1_b.length 11 (gL cSProfile dSProfile a1_b))), (5, .c (.int .i64 (IntKind.wrap .i64 (i_9 + 1))))], []⟩) (sub_gen [] rfl rfl ⟨zc rfl rfl, zc rfl rfl, zc rfl rfl, trivial⟩ trivial) ?_
        refine SOps.nil ?_
        exact ⟨(n_16, IntKind.wrap .i64 (i_9 + 1)), h, Nat.lt_succ_self n_16, sub_gen [] rfl rfl ⟨zc rfl rfl, zc rfl rfl, zc rfl rfl, trivial⟩ trivial⟩
      refine SCode.cond_f rfl g17 ?_
      refine SCode.exit ?_
      exact ⟨(), h, sub_gen [] rfl rfl trivial trivial⟩
  rintro ⟨⟩ h
  show SCode _ _ _ ⟨[], []⟩ _
  replace h : chargenetref15_SameAll_p2 = some r := h
  unfold chargenetref15_SameAll_p2 at h
  refine SCode.seq ?_
  refine SCode.region (show SOps _ _ _ [0] _ _ from ?_)
  refine SOps.q rfl (.plain rfl) rfl (q_assign rfl rfl) ?_
  refine SOps.sub (st' := ⟨[(4, .c (.bool true))], []⟩) (sub_gen [] rfl rfl ⟨zc rfl rfl, trivial⟩ trivial) ?_
  refine SOps.nil ?_
  refine SCode.ret ?_
  obtain rfl := Option.some.inj h
  exact ⟨⟨[(4, .c (.bool true))], []⟩, _, sub_gen [] rfl rfl ⟨zc rfl rfl, trivial⟩ trivial, resA1 (v := .c (.bool true)) rfl rfl, rfl⟩
theorem slices_Sort_int_int_ok (F : Nat) (a0_x : List Int) (r : List Int) (h : slices_Sort_int_int F a0_x = some r) :
    SFun Try.prog 50 [.arr 3 1 a0_x.length (gL (cInt .i64) 0 a0_x)] [.c (.own 0 a0_x.length)] (fun x os => x = .t [] ∧ os = [.arr 3 1 r.length (gL (cInt .i64) 0 r)]) := by
  obtain ⟨hg, h⟩ := guard_out h
  obtain rfl := Option.some.inj h
  exact sfun_sort (fun blk off cap zs w => Try.slices_Sort_int blk off cap zs w) (fun p cap w => Try.slices_Sort_int_none p cap w) a0_x hg
end Go.Proofs.Ytldekibkmombdaa.W
