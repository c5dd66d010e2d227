/- Written by a program of ours (wip/eng/gen.py): the functions compute their models. -/
import Derived.Test.YtjpooimkhkhgkaaFacts
import Derived.Test.YtjpooimkhkhgkaaV7x1
namespace Go.Proofs.Ytjpooimkhkhgkaa.W
open Go Go.Proofs Go.Proofs.Ytjpooimkhkhgkaa.E Go.Proofs.Ytjpooimkhkhgkaa.M
set_option linter.unusedVariables false
set_option maxRecDepth 100000 in
set_option maxHeartbeats 8000000 in
theorem chargenetref15_times_ok (F : Nat) (a0_p : SProfile) (r : Bool) (h : chargenetref15_times F a0_p = some r) :
    SFun Try.prog 29 [] [.a [.int .i64 a0_p.ID, .int .i64 a0_p.Level, .int .i64 a0_p.Purpose, .int .i64 a0_p.Kind, .int .i64 a0_p.Conn, .str a0_p.Txn, .int .i64 a0_p.Span_From, .int .i64 a0_p.Span_To, .int .i64 a0_p.Start, .int .i64 a0_p.Duration, .vec a0_p.Periods.length 2 (gL cSPeriod dSPeriod a0_p.Periods)]] (fun x _ => x = .c (.bool r)) := by
  refine SFun.of (n := 65) Try.func29 rfl rfl rfl ?_
  unfold chargenetref15_times at h
  show SCode _ _ _ ⟨[(0, .a [.int .i64 a0_p.ID, .int .i64 a0_p.Level, .int .i64 a0_p.Purpose, .int .i64 a0_p.Kind, .int .i64 a0_p.Conn, .str a0_p.Txn, .int .i64 a0_p.Span_From, .int .i64 a0_p.Span_To, .int .i64 a0_p.Start, .int .i64 a0_p.Duration, .vec a0_p.Periods.length 2 (gL cSPeriod dSPeriod a0_p.Periods)])], []⟩ _
  refine SCode.seq ?_
  refine SCode.region (show SOps _ _ _ [0, 1] _ _ from ?_)
  refine SOps.e rfl (.plain rfl) (e_box rfl rfl rfl rfl rfl rfl) ?_
  refine SOps.q rfl (.plain rfl) rfl (q_assign rfl rfl) ?_
  refine SOps.sub (st' := ⟨[(1, .c (.ptr 0 0))], [.box [.int .i64 a0_p.ID, .int .i64 a0_p.Level, .int .i64 a0_p.Purpose, .int .i64 a0_p.Kind, .int .i64 a0_p.Conn, .str a0_p.Txn, .int .i64 a0_p.Span_From, .int .i64 a0_p.Span_To, .int .i64 a0_p.Start, .int .i64 a0_p.Duration, .vec a0_p.Periods.length 2 (gL cSPeriod dSPeriod a0_p.Periods)]]⟩) (sub_gen [0] rfl rfl ⟨zc rfl rfl, trivial⟩ ⟨⟨_, rfl, ⟨ii rfl rfl, ii rfl rfl, ii rfl rfl, ii rfl rfl, ii rfl rfl, ii rfl rfl, ii rfl rfl, ii rfl rfl, ii rfl rfl, ii rfl rfl, ii rfl rfl, trivial⟩⟩, trivial⟩) ?_
  refine SOps.nil ?_
  refine SCode.join (σ := Unit) (S := fun s => ⟨[(1, .c (.ptr 0 0))], [.box [.int .i64 a0_p.ID, .int .i64 a0_p.Level, .int .i64 a0_p.Purpose, .int .i64 a0_p.Kind, .int .i64 a0_p.Conn, .str a0_p.Txn, .int .i64 a0_p.Span_From, .int .i64 a0_p.Span_To, .int .i64 a0_p.Start, .int .i64 a0_p.Duration, .vec a0_p.Periods.length 2 (gL cSPeriod dSPeriod a0_p.Periods)]]⟩) (g := fun s => chargenetref15_times_p8 a0_p = some r) ?_ ?_
  rotate_left
  · refine SCode.seq ?_
    rcases cond_out h with ⟨g9, h⟩ | ⟨g9, h⟩
    · refine SCode.region (show SOps _ _ _ [0, 1, 2, 3, 4, 5, 6, 7, 8, 9, 10, 11, 12, 13, 14, 15, 16, 17, 18, 19, 20, 21, 22, 23, 24, 25, 26, 27, 28, 29, 30] _ _ from ?_)
      refine SOps.q rfl (.plain rfl) rfl (q_field_ptr rfl rfl fd31_6) ?_
      refine SOps.q rfl (.plain rfl) rfl (q_field_ptr rfl rfl fd28_0) ?_
      refine SOps.q rfl (.plain rfl) rfl (q_load_ptr rfl rfl rfl rfl ty3) ?_
      refine SOps.q rfl (.plain rfl) rfl (q_lss rfl rfl rfl) ?_
      refine SOps.q rfl (.plain rfl) rfl (q_move rfl rfl) ?_
      refine SOps.skip rfl 4 7 false rfl rfl (.inl (gT g9)) rfl ?_
      refine SOps.skip rfl 4 7 false rfl rfl (.inl (gT g9)) rfl ?_
      refine SOps.skip rfl 4 7 false rfl rfl (.inl (gT g9)) rfl ?_
      refine SOps.skip rfl 4 7 false rfl rfl (.inl (gT g9)) rfl ?_
      refine SOps.q rfl (.plain rfl) rfl (q_pick_t rfl rfl g9 rfl) ?_
      refine SOps.q rfl (.plain rfl) rfl (q_move rfl rfl) ?_
      refine SOps.skip rfl 10 13 false rfl rfl (.inl rfl) rfl ?_
      refine SOps.skip rfl 10 13 false rfl rfl (.inl rfl) rfl ?_
      refine SOps.skip rfl 10 13 false rfl rfl (.inl rfl) rfl ?_
      refine SOps.skip rfl 10 13 false rfl rfl (.inl rfl) rfl ?_
      refine SOps.skip rfl 10 13 false rfl rfl (.inl rfl) rfl ?_
      refine SOps.skip rfl 15 18 true rfl rfl (.inr rfl) rfl ?_
      refine SOps.skip rfl 15 18 true rfl rfl (.inr rfl) rfl ?_
      refine SOps.skip rfl 15 18 true rfl rfl (.inr rfl) rfl ?_
      refine SOps.skip rfl 15 18 true rfl rfl (.inr rfl) rfl ?_
      refine SOps.skip rfl 15 18 true rfl rfl (.inr rfl) rfl ?_
      refine SOps.skip rfl 15 18 true rfl rfl (.inr rfl) rfl ?_
      refine SOps.skip rfl 15 18 true rfl rfl (.inr rfl) rfl ?_
      refine SOps.skip rfl 15 18 true rfl rfl (.inr rfl) rfl ?_
      refine SOps.skip rfl 23 26 false rfl rfl (.inr rfl) rfl ?_
      refine SOps.skip rfl 23 26 false rfl rfl (.inr rfl) rfl ?_
      refine SOps.skip rfl 23 26 false rfl rfl (.inr rfl) rfl ?_
      refine SOps.skip rfl 23 26 false rfl rfl (.inr rfl) rfl ?_
      refine SOps.skip rfl 15 18 true rfl rfl (.inr rfl) rfl ?_
      refine SOps.skip rfl 10 13 false rfl rfl (.inl rfl) rfl ?_
      refine SOps.q rfl (.plain rfl) rfl (q_pick_t rfl rfl rfl rfl) ?_
      refine SOps.sub (st' := ⟨[(1, .c (.ptr 0 0)), (33, .c (.bool true))], [.box [.int .i64 a0_p.ID, .int .i64 a0_p.Level, .int .i64 a0_p.Purpose, .int .i64 a0_p.Kind, .int .i64 a0_p.Conn, .str a0_p.Txn, .int .i64 a0_p.Span_From, .int .i64 a0_p.Span_To, .int .i64 a0_p.Start, .int .i64 a0_p.Duration, .vec a0_p.Periods.length 2 (gL cSPeriod dSPeriod a0_p.Periods)]]⟩) (sub_gen [0] rfl rfl ⟨zc rfl rfl, zc rfl rfl, trivial⟩ ⟨⟨_, rfl, ⟨ii rfl rfl, ii rfl rfl, ii rfl rfl, ii rfl rfl, ii rfl rfl, ii rfl rfl, ii rfl rfl, ii rfl rfl, ii rfl rfl, ii rfl rfl, ii rfl rfl, trivial⟩⟩, trivial⟩) ?_
      refine SOps.nil ?_
      refine SCode.cond_t rfl rfl ?_
      refine SCode.seq ?_
      refine SCode.region (show SOps _ _ _ [0] _ _ from ?_)
      refine SOps.q rfl (.plain rfl) rfl (q_assign rfl rfl) ?_
      refine SOps.sub (st' := ⟨[(2, .c (.bool false))], []⟩) (sub_gen [] rfl rfl ⟨zc rfl rfl, trivial⟩ trivial) ?_
      refine SOps.nil ?_
      refine SCode.ret ?_
      obtain rfl := Option.some.inj h
      exact ⟨⟨[(2, .c (.bool false))], []⟩, _, sub_gen [] rfl rfl ⟨zc rfl rfl, trivial⟩ trivial, resA1 (v := .c (.bool false)) rfl rfl, rfl⟩
    rcases cond_out h with ⟨g10, h⟩ | ⟨g10, h⟩
    · refine SCode.region (show SOps _ _ _ [0, 1, 2, 3, 4, 5, 6, 7, 8, 9, 10, 11, 12, 13, 14, 15, 16, 17, 18, 19, 20, 21, 22, 23, 24, 25, 26, 27, 28, 29, 30] _ _ from ?_)
      refine SOps.q rfl (.plain rfl) rfl (q_field_ptr rfl rfl fd31_6) ?_
      refine SOps.q rfl (.plain rfl) rfl (q_field_ptr rfl rfl fd28_0) ?_
      refine SOps.q rfl (.plain rfl) rfl (q_load_ptr rfl rfl rfl rfl ty3) ?_
      refine SOps.q rfl (.plain rfl) rfl (q_lss rfl rfl rfl) ?_
      refine SOps.q rfl (.plain rfl) rfl (q_move rfl rfl) ?_
      refine SOps.q rfl (.guard 4 7 false rfl rfl (gF g9)) rfl (q_field_ptr rfl rfl fd31_6) ?_
      refine SOps.q rfl (.guard 4 7 false rfl rfl (gF g9)) rfl (q_field_ptr rfl rfl fd28_0) ?_
      refine SOps.q rfl (.guard 4 7 false rfl rfl (gF g9)) rfl (q_load_ptr rfl rfl rfl rfl ty3) ?_
      refine SOps.q rfl (.guard 4 7 false rfl rfl (gF g9)) rfl (q_gtr rfl rfl rfl) ?_
      refine SOps.q rfl (.plain rfl) rfl (q_pick_f rfl rfl g9 rfl) ?_
      refine SOps.q rfl (.plain rfl) rfl (q_move rfl rfl) ?_
      refine SOps.skip rfl 10 13 false rfl rfl (.inl (gT g10)) rfl ?_
      refine SOps.skip rfl 10 13 false rfl rfl (.inl (gT g10)) rfl ?_
      refine SOps.skip rfl 10 13 false rfl rfl (.inl (gT g10)) rfl ?_
      refine SOps.skip rfl 10 13 false rfl rfl (.inl (gT g10)) rfl ?_
      refine SOps.skip rfl 10 13 false rfl rfl (.inl (gT g10)) rfl ?_
      refine SOps.skip rfl 15 18 true rfl rfl (.inr rfl) rfl ?_
      refine SOps.skip rfl 15 18 true rfl rfl (.inr rfl) rfl ?_
      refine SOps.skip rfl 15 18 true rfl rfl (.inr rfl) rfl ?_
      refine SOps.skip rfl 15 18 true rfl rfl (.inr rfl) rfl ?_
      refine SOps.skip rfl 15 18 true rfl rfl (.inr rfl) rfl ?_
      refine SOps.skip rfl 15 18 true rfl rfl (.inr rfl) rfl ?_
      refine SOps.skip rfl 15 18 true rfl rfl (.inr rfl) rfl ?_
      refine SOps.skip rfl 15 18 true rfl rfl (.inr rfl) rfl ?_
      refine SOps.skip rfl 23 26 false rfl rfl (.inr rfl) rfl ?_
      refine SOps.skip rfl 23 26 false rfl rfl (.inr rfl) rfl ?_
      refine SOps.skip rfl 23 26 false rfl rfl (.inr rfl) rfl ?_
      refine SOps.skip rfl 23 26 false rfl rfl (.inr rfl) rfl ?_
      refine SOps.skip rfl 15 18 true rfl rfl (.inr rfl) rfl ?_
      refine SOps.skip rfl 10 13 false rfl rfl (.inl (gT g10)) rfl ?_
      refine SOps.q rfl (.plain rfl) rfl (q_pick_t rfl rfl g10 rfl) ?_
      refine SOps.sub (st' := ⟨[(1, .c (.ptr 0 0)), (33, .c (.bool true))], [.box [.int .i64 a0_p.ID, .int .i64 a0_p.Level, .int .i64 a0_p.Purpose, .int .i64 a0_p.Kind, .int .i64 a0_p.Conn, .str a0_p.Txn, .int .i64 a0_p.Span_From, .int .i64 a0_p.Span_To, .int .i64 a0_p.Start, .int .i64 a0_p.Duration, .vec a0_p.Periods.length 2 (gL cSPeriod dSPeriod a0_p.Periods)]]⟩) (sub_gen [0] rfl rfl ⟨zc rfl rfl, zc rfl rfl, trivial⟩ ⟨⟨_, rfl, ⟨ii rfl rfl, ii rfl rfl, ii rfl rfl, ii rfl rfl, ii rfl rfl, ii rfl rfl, ii rfl rfl, ii rfl rfl, ii rfl rfl, ii rfl rfl, ii rfl rfl, trivial⟩⟩, trivial⟩) ?_
      refine SOps.nil ?_
      refine SCode.cond_t rfl rfl ?_
      refine SCode.seq ?_
      refine SCode.region (show SOps _ _ _ [0] _ _ from ?_)
      refine SOps.q rfl (.plain rfl) rfl (q_assign rfl rfl) ?_
      refine SOps.sub (st' := ⟨[(2, .c (.bool false))], []⟩) (sub_gen [] rfl rfl ⟨zc rfl rfl, trivial⟩ trivial) ?_
      refine SOps.nil ?_
      refine SCode.ret ?_
      obtain rfl := Option.some.inj h
      exact ⟨⟨[(2, .c (.bool false))], []⟩, _, sub_gen [] rfl rfl ⟨zc rfl rfl, trivial⟩ trivial, resA1 (v := .c (.bool false)) rfl rfl, rfl⟩
    rcases cond_out h with ⟨g11, h⟩ | ⟨g11, h⟩
    · rcases cond_out h with ⟨g12, h⟩ | ⟨g12, h⟩
      · refine SCode.region (show SOps _ _ _ [0, 1, 2, 3, 4, 5, 6, 7, 8, 9, 10, 11, 12, 13, 14, 15, 16, 17, 18, 19, 20, 21, 22, 23, 24, 25, 26, 27, 28, 29, 30] _ _ from ?_)
        refine SOps.q rfl (.plain rfl) rfl (q_field_ptr rfl rfl fd31_6) ?_
        refine SOps.q rfl (.plain rfl) rfl (q_field_ptr rfl rfl fd28_0) ?_
        refine SOps.q rfl (.plain rfl) rfl (q_load_ptr rfl rfl rfl rfl ty3) ?_
        refine SOps.q rfl (.plain rfl) rfl (q_lss rfl rfl rfl) ?_
        refine SOps.q rfl (.plain rfl) rfl (q_move rfl rfl) ?_
        refine SOps.q rfl (.guard 4 7 false rfl rfl (gF g9)) rfl (q_field_ptr rfl rfl fd31_6) ?_
        refine SOps.q rfl (.guard 4 7 false rfl rfl (gF g9)) rfl (q_field_ptr rfl rfl fd28_0) ?_
        refine SOps.q rfl (.guard 4 7 false rfl rfl (gF g9)) rfl (q_load_ptr rfl rfl rfl rfl ty3) ?_
        refine SOps.q rfl (.guard 4 7 false rfl rfl (gF g9)) rfl (q_gtr rfl rfl rfl) ?_
        refine SOps.q rfl (.plain rfl) rfl (q_pick_f rfl rfl g9 rfl) ?_
        refine SOps.q rfl (.plain rfl) rfl (q_move rfl rfl) ?_
        refine SOps.q rfl (.guard 10 13 false rfl rfl (gF g10)) rfl (q_field_ptr rfl rfl fd31_6) ?_
        refine SOps.q rfl (.guard 10 13 false rfl rfl (gF g10)) rfl (q_field_ptr rfl rfl fd28_1) ?_
        refine SOps.q rfl (.guard 10 13 false rfl rfl (gF g10)) rfl (q_load_ptr rfl rfl rfl rfl ty3) ?_
        refine SOps.q rfl (.guard 10 13 false rfl rfl (gF g10)) rfl (q_neq rfl rfl rfl) ?_
        refine SOps.q rfl (.guard 10 13 false rfl rfl (gF g10)) rfl (q_move rfl rfl) ?_
        refine SOps.q rfl (.guard 15 18 true rfl rfl (gT g11)) rfl (q_field_ptr rfl rfl fd31_6) ?_
        refine SOps.q rfl (.guard 15 18 true rfl rfl (gT g11)) rfl (q_field_ptr rfl rfl fd28_1) ?_
        refine SOps.q rfl (.guard 15 18 true rfl rfl (gT g11)) rfl (q_load_ptr rfl rfl rfl rfl ty3) ?_
        refine SOps.q rfl (.guard 15 18 true rfl rfl (gT g11)) rfl (q_field_ptr rfl rfl fd31_6) ?_
        refine SOps.q rfl (.guard 15 18 true rfl rfl (gT g11)) rfl (q_field_ptr rfl rfl fd28_0) ?_
        refine SOps.q rfl (.guard 15 18 true rfl rfl (gT g11)) rfl (q_load_ptr rfl rfl rfl rfl ty3) ?_
        refine SOps.q rfl (.guard 15 18 true rfl rfl (gT g11)) rfl (q_lss rfl rfl rfl) ?_
        refine SOps.q rfl (.guard 15 18 true rfl rfl (gT g11)) rfl (q_move rfl rfl) ?_
        refine SOps.skip rfl 23 26 false rfl rfl (.inl (gT g12)) rfl ?_
        refine SOps.skip rfl 23 26 false rfl rfl (.inl (gT g12)) rfl ?_
        refine SOps.skip rfl 23 26 false rfl rfl (.inl (gT g12)) rfl ?_
        refine SOps.skip rfl 23 26 false rfl rfl (.inl (gT g12)) rfl ?_
        refine SOps.q rfl (.guard 15 18 true rfl rfl (gT g11)) rfl (q_pick_t rfl rfl g12 rfl) ?_
        refine SOps.q rfl (.guard 10 13 false rfl rfl (gF g10)) rfl (q_pick_t rfl rfl g11 rfl) ?_
        refine SOps.q rfl (.plain rfl) rfl (q_pick_f rfl rfl g10 rfl) ?_
        refine SOps.sub (st' := ⟨[(1, .c (.ptr 0 0)), (33, .c (.bool true))], [.box [.int .i64 a0_p.ID, .int .i64 a0_p.Level, .int .i64 a0_p.Purpose, .int .i64 a0_p.Kind, .int .i64 a0_p.Conn, .str a0_p.Txn, .int .i64 a0_p.Span_From, .int .i64 a0_p.Span_To, .int .i64 a0_p.Start, .int .i64 a0_p.Duration, .vec a0_p.Periods.length 2 (gL cSPeriod dSPeriod a0_p.Periods)]]⟩) (sub_gen [0] rfl rfl ⟨zc rfl rfl, zc rfl rfl, trivial⟩ ⟨⟨_, rfl, ⟨ii rfl rfl, ii rfl rfl, ii rfl rfl, ii rfl rfl, ii rfl rfl, ii rfl rfl, ii rfl rfl, ii rfl rfl, ii rfl rfl, ii rfl rfl, ii rfl rfl, trivial⟩⟩, trivial⟩) ?_
        refine SOps.nil ?_
        refine SCode.cond_t rfl rfl ?_
        refine SCode.seq ?_
        refine SCode.region (show SOps _ _ _ [0] _ _ from ?_)
        refine SOps.q rfl (.plain rfl) rfl (q_assign rfl rfl) ?_
        refine SOps.sub (st' := ⟨[(2, .c (.bool false))], []⟩) (sub_gen [] rfl rfl ⟨zc rfl rfl, trivial⟩ trivial) ?_
        refine SOps.nil ?_
        refine SCode.ret ?_
        obtain rfl := Option.some.inj h
        exact ⟨⟨[(2, .c (.bool false))], []⟩, _, sub_gen [] rfl rfl ⟨zc rfl rfl, trivial⟩ trivial, resA1 (v := .c (.bool false)) rfl rfl, rfl⟩
      refine SCode.region (show SOps _ _ _ [0, 1, 2, 3, 4, 5, 6, 7, 8, 9, 10, 11, 12, 13, 14, 15, 16, 17, 18, 19, 20, 21, 22, 23, 24, 25, 26, 27, 28, 29, 30] _ _ from ?_)
      refine SOps.q rfl (.plain rfl) rfl (q_field_ptr rfl rfl fd31_6) ?_
      refine SOps.q rfl (.plain rfl) rfl (q_field_ptr rfl rfl fd28_0) ?_
      refine SOps.q rfl (.plain rfl) rfl (q_load_ptr rfl rfl rfl rfl ty3) ?_
      refine SOps.q rfl (.plain rfl) rfl (q_lss rfl rfl rfl) ?_
      refine SOps.q rfl (.plain rfl) rfl (q_move rfl rfl) ?_
      refine SOps.q rfl (.guard 4 7 false rfl rfl (gF g9)) rfl (q_field_ptr rfl rfl fd31_6) ?_
      refine SOps.q rfl (.guard 4 7 false rfl rfl (gF g9)) rfl (q_field_ptr rfl rfl fd28_0) ?_
      refine SOps.q rfl (.guard 4 7 false rfl rfl (gF g9)) rfl (q_load_ptr rfl rfl rfl rfl ty3) ?_
      refine SOps.q rfl (.guard 4 7 false rfl rfl (gF g9)) rfl (q_gtr rfl rfl rfl) ?_
      refine SOps.q rfl (.plain rfl) rfl (q_pick_f rfl rfl g9 rfl) ?_
      refine SOps.q rfl (.plain rfl) rfl (q_move rfl rfl) ?_
      refine SOps.q rfl (.guard 10 13 false rfl rfl (gF g10)) rfl (q_field_ptr rfl rfl fd31_6) ?_
      refine SOps.q rfl (.guard 10 13 false rfl rfl (gF g10)) rfl (q_field_ptr rfl rfl fd28_1) ?_
      refine SOps.q rfl (.guard 10 13 false rfl rfl (gF g10)) rfl (q_load_ptr rfl rfl rfl rfl ty3) ?_
      refine SOps.q rfl (.guard 10 13 false rfl rfl (gF g10)) rfl (q_neq rfl rfl rfl) ?_
      refine SOps.q rfl (.guard 10 13 false rfl rfl (gF g10)) rfl (q_move rfl rfl) ?_
      refine SOps.q rfl (.guard 15 18 true rfl rfl (gT g11)) rfl (q_field_ptr rfl rfl fd31_6) ?_
      refine SOps.q rfl (.guard 15 18 true rfl rfl (gT g11)) rfl (q_field_ptr rfl rfl fd28_1) ?_
      refine SOps.q rfl (.guard 15 18 true rfl rfl (gT g11)) rfl (q_load_ptr rfl rfl rfl rfl ty3) ?_
      refine SOps.q rfl (.guard 15 18 true rfl rfl (gT g11)) rfl (q_field_ptr rfl rfl fd31_6) ?_
      refine SOps.q rfl (.guard 15 18 true rfl rfl (gT g11)) rfl (q_field_ptr rfl rfl fd28_0) ?_
      refine SOps.q rfl (.guard 15 18 true rfl rfl (gT g11)) rfl (q_load_ptr rfl rfl rfl rfl ty3) ?_
      refine SOps.q rfl (.guard 15 18 true rfl rfl (gT g11)) rfl (q_lss rfl rfl rfl) ?_
      refine SOps.q rfl (.guard 15 18 true rfl rfl (gT g11)) rfl (q_move rfl rfl) ?_
      refine SOps.q rfl (.guard 23 26 false rfl rfl (gF g12)) rfl (q_field_ptr rfl rfl fd31_6) ?_
      refine SOps.q rfl (.guard 23 26 false rfl rfl (gF g12)) rfl (q_field_ptr rfl rfl fd28_1) ?_
      refine SOps.q rfl (.guard 23 26 false rfl rfl (gF g12)) rfl (q_load_ptr rfl rfl rfl rfl ty3) ?_
      refine SOps.q rfl (.guard 23 26 false rfl rfl (gF g12)) rfl (q_gtr rfl rfl rfl) ?_
      refine SOps.q rfl (.guard 15 18 true rfl rfl (gT g11)) rfl (q_pick_f rfl rfl g12 rfl) ?_
      refine SOps.q rfl (.guard 10 13 false rfl rfl (gF g10)) rfl (q_pick_t rfl rfl g11 rfl) ?_
      refine SOps.q rfl (.plain rfl) rfl (q_pick_f rfl rfl g10 rfl) ?_
      refine SOps.sub (st' := ⟨[(1, .c (.ptr 0 0)), (33, .c (.bool (decide (268435456 < a0_p.Span_To))))], [.box [.int .i64 a0_p.ID, .int .i64 a0_p.Level, .int .i64 a0_p.Purpose, .int .i64 a0_p.Kind, .int .i64 a0_p.Conn, .str a0_p.Txn, .int .i64 a0_p.Span_From, .int .i64 a0_p.Span_To, .int .i64 a0_p.Start, .int .i64 a0_p.Duration, .vec a0_p.Periods.length 2 (gL cSPeriod dSPeriod a0_p.Periods)]]⟩) (sub_gen [0] rfl rfl ⟨zc rfl rfl, zc rfl rfl, trivial⟩ ⟨⟨_, rfl, ⟨ii rfl rfl, ii rfl rfl, ii rfl rfl, ii rfl rfl, ii rfl rfl, ii rfl rfl, ii rfl rfl, ii rfl rfl, ii rfl rfl, ii rfl rfl, ii rfl rfl, trivial⟩⟩, trivial⟩) ?_
      refine SOps.nil ?_
      rcases cond_out h with ⟨g13, h⟩ | ⟨g13, h⟩
      · refine SCode.cond_t rfl g13 ?_
        refine SCode.seq ?_
        refine SCode.region (show SOps _ _ _ [0] _ _ from ?_)
        refine SOps.q rfl (.plain rfl) rfl (q_assign rfl rfl) ?_
        refine SOps.sub (st' := ⟨[(2, .c (.bool false))], []⟩) (sub_gen [] rfl rfl ⟨zc rfl rfl, trivial⟩ trivial) ?_
        refine SOps.nil ?_
        refine SCode.ret ?_
        obtain rfl := Option.some.inj h
        exact ⟨⟨[(2, .c (.bool false))], []⟩, _, sub_gen [] rfl rfl ⟨zc rfl rfl, trivial⟩ trivial, resA1 (v := .c (.bool false)) rfl rfl, rfl⟩
      refine SCode.cond_f rfl g13 ?_
      refine SCode.skip ?_
      exact ⟨(), h, sub_gen [0] rfl rfl ⟨zc rfl rfl, trivial⟩ ⟨⟨_, rfl, ⟨ii rfl rfl, ii rfl rfl, ii rfl rfl, ii rfl rfl, ii rfl rfl, ii rfl rfl, ii rfl rfl, ii rfl rfl, ii rfl rfl, ii rfl rfl, ii rfl rfl, trivial⟩⟩, trivial⟩⟩
    refine SCode.region (show SOps _ _ _ [0, 1, 2, 3, 4, 5, 6, 7, 8, 9, 10, 11, 12, 13, 14, 15, 16, 17, 18, 19, 20, 21, 22, 23, 24, 25, 26, 27, 28, 29, 30] _ _ from ?_)
    refine SOps.q rfl (.plain rfl) rfl (q_field_ptr rfl rfl fd31_6) ?_
    refine SOps.q rfl (.plain rfl) rfl (q_field_ptr rfl rfl fd28_0) ?_
    refine SOps.q rfl (.plain rfl) rfl (q_load_ptr rfl rfl rfl rfl ty3) ?_
    refine SOps.q rfl (.plain rfl) rfl (q_lss rfl rfl rfl) ?_
    refine SOps.q rfl (.plain rfl) rfl (q_move rfl rfl) ?_
    refine SOps.q rfl (.guard 4 7 false rfl rfl (gF g9)) rfl (q_field_ptr rfl rfl fd31_6) ?_
    refine SOps.q rfl (.guard 4 7 false rfl rfl (gF g9)) rfl (q_field_ptr rfl rfl fd28_0) ?_
    refine SOps.q rfl (.guard 4 7 false rfl rfl (gF g9)) rfl (q_load_ptr rfl rfl rfl rfl ty3) ?_
    refine SOps.q rfl (.guard 4 7 false rfl rfl (gF g9)) rfl (q_gtr rfl rfl rfl) ?_
    refine SOps.q rfl (.plain rfl) rfl (q_pick_f rfl rfl g9 rfl) ?_
    refine SOps.q rfl (.plain rfl) rfl (q_move rfl rfl) ?_
    refine SOps.q rfl (.guard 10 13 false rfl rfl (gF g10)) rfl (q_field_ptr rfl rfl fd31_6) ?_
    refine SOps.q rfl (.guard 10 13 false rfl rfl (gF g10)) rfl (q_field_ptr rfl rfl fd28_1) ?_
    refine SOps.q rfl (.guard 10 13 false rfl rfl (gF g10)) rfl (q_load_ptr rfl rfl rfl rfl ty3) ?_
    refine SOps.q rfl (.guard 10 13 false rfl rfl (gF g10)) rfl (q_neq rfl rfl rfl) ?_
    refine SOps.q rfl (.guard 10 13 false rfl rfl (gF g10)) rfl (q_move rfl rfl) ?_
    refine SOps.skip rfl 15 18 true rfl rfl (.inl (gF g11)) rfl ?_
    refine SOps.skip rfl 15 18 true rfl rfl (.inl (gF g11)) rfl ?_
    refine SOps.skip rfl 15 18 true rfl rfl (.inl (gF g11)) rfl ?_
    refine SOps.skip rfl 15 18 true rfl rfl (.inl (gF g11)) rfl ?_
    refine SOps.skip rfl 15 18 true rfl rfl (.inl (gF g11)) rfl ?_
    refine SOps.skip rfl 15 18 true rfl rfl (.inl (gF g11)) rfl ?_
    refine SOps.skip rfl 15 18 true rfl rfl (.inl (gF g11)) rfl ?_
    refine SOps.skip rfl 15 18 true rfl rfl (.inl (gF g11)) rfl ?_
    refine SOps.skip rfl 23 26 false rfl rfl (.inr rfl) rfl ?_
    refine SOps.skip rfl 23 26 false rfl rfl (.inr rfl) rfl ?_
    refine SOps.skip rfl 23 26 false rfl rfl (.inr rfl) rfl ?_
    refine SOps.skip rfl 23 26 false rfl rfl (.inr rfl) rfl ?_
    refine SOps.skip rfl 15 18 true rfl rfl (.inl (gF g11)) rfl ?_
    refine SOps.q rfl (.guard 10 13 false rfl rfl (gF g10)) rfl (q_pick_f rfl rfl g11 rfl) ?_
    refine SOps.q rfl (.plain rfl) rfl (q_pick_f rfl rfl g10 rfl) ?_
    refine SOps.sub (st' := ⟨[(1, .c (.ptr 0 0)), (33, .c (.bool false))], [.box [.int .i64 a0_p.ID, .int .i64 a0_p.Level, .int .i64 a0_p.Purpose, .int .i64 a0_p.Kind, .int .i64 a0_p.Conn, .str a0_p.Txn, .int .i64 a0_p.Span_From, .int .i64 a0_p.Span_To, .int .i64 a0_p.Start, .int .i64 a0_p.Duration, .vec a0_p.Periods.length 2 (gL cSPeriod dSPeriod a0_p.Periods)]]⟩) (sub_gen [0] rfl rfl ⟨zc rfl rfl, zc rfl rfl, trivial⟩ ⟨⟨_, rfl, ⟨ii rfl rfl, ii rfl rfl, ii rfl rfl, ii rfl rfl, ii rfl rfl, ii rfl rfl, ii rfl rfl, ii rfl rfl, ii rfl rfl, ii rfl rfl, ii rfl rfl, trivial⟩⟩, trivial⟩) ?_
    refine SOps.nil ?_
    refine SCode.cond_f rfl rfl ?_
    refine SCode.skip ?_
    exact ⟨(), h, sub_gen [0] rfl rfl ⟨zc rfl rfl, trivial⟩ ⟨⟨_, rfl, ⟨ii rfl rfl, ii rfl rfl, ii rfl rfl, ii rfl rfl, ii rfl rfl, ii rfl rfl, ii rfl rfl, ii rfl rfl, ii rfl rfl, ii rfl rfl, ii rfl rfl, trivial⟩⟩, trivial⟩⟩
  rintro ⟨⟩ h
  show SCode _ _ _ ⟨[(1, .c (.ptr 0 0))], [.box [.int .i64 a0_p.ID, .int .i64 a0_p.Level, .int .i64 a0_p.Purpose, .int .i64 a0_p.Kind, .int .i64 a0_p.Conn, .str a0_p.Txn, .int .i64 a0_p.Span_From, .int .i64 a0_p.Span_To, .int .i64 a0_p.Start, .int .i64 a0_p.Duration, .vec a0_p.Periods.length 2 (gL cSPeriod dSPeriod a0_p.Periods)]]⟩ _
  replace h : chargenetref15_times_p8 a0_p = some r := h
  unfold chargenetref15_times_p8 at h
  refine SCode.join (σ := Unit) (S := fun s => ⟨[(1, .c (.ptr 0 0))], [.box [.int .i64 a0_p.ID, .int .i64 a0_p.Level, .int .i64 a0_p.Purpose, .int .i64 a0_p.Kind, .int .i64 a0_p.Conn, .str a0_p.Txn, .int .i64 a0_p.Span_From, .int .i64 a0_p.Span_To, .int .i64 a0_p.Start, .int .i64 a0_p.Duration, .vec a0_p.Periods.length 2 (gL cSPeriod dSPeriod a0_p.Periods)]]⟩) (g := fun s => chargenetref15_times_p3 a0_p = some r) ?_ ?_
  rotate_left
  · refine SCode.seq ?_
    rcases cond_out h with ⟨g4, h⟩ | ⟨g4, h⟩
    · refine SCode.region (show SOps _ _ _ [0, 1, 2, 3, 4, 5, 6, 7, 8, 9, 10, 11, 12, 13, 14, 15, 16, 17] _ _ from ?_)
      refine SOps.q rfl (.plain rfl) rfl (q_field_ptr rfl rfl fd31_7) ?_
      refine SOps.q rfl (.plain rfl) rfl (q_load_ptr rfl rfl rfl rfl ty3) ?_
      refine SOps.q rfl (.plain rfl) rfl (q_lss rfl rfl rfl) ?_
      refine SOps.q rfl (.plain rfl) rfl (q_move rfl rfl) ?_
      refine SOps.skip rfl 3 37 false rfl rfl (.inl (gT g4)) rfl ?_
      refine SOps.skip rfl 3 37 false rfl rfl (.inl (gT g4)) rfl ?_
      refine SOps.skip rfl 3 37 false rfl rfl (.inl (gT g4)) rfl ?_
      refine SOps.q rfl (.plain rfl) rfl (q_pick_t rfl rfl g4 rfl) ?_
      refine SOps.q rfl (.plain rfl) rfl (q_move rfl rfl) ?_
      refine SOps.skip rfl 8 42 false rfl rfl (.inl rfl) rfl ?_
      refine SOps.skip rfl 8 42 false rfl rfl (.inl rfl) rfl ?_
      refine SOps.skip rfl 8 42 false rfl rfl (.inl rfl) rfl ?_
      refine SOps.skip rfl 8 42 false rfl rfl (.inl rfl) rfl ?_
      refine SOps.skip rfl 12 46 true rfl rfl (.inr rfl) rfl ?_
      refine SOps.skip rfl 12 46 true rfl rfl (.inr rfl) rfl ?_
      refine SOps.skip rfl 12 46 true rfl rfl (.inr rfl) rfl ?_
      refine SOps.skip rfl 8 42 false rfl rfl (.inl rfl) rfl ?_
      refine SOps.q rfl (.plain rfl) rfl (q_pick_t rfl rfl rfl rfl) ?_
      refine SOps.sub (st' := ⟨[(1, .c (.ptr 0 0)), (51, .c (.bool true))], [.box [.int .i64 a0_p.ID, .int .i64 a0_p.Level, .int .i64 a0_p.Purpose, .int .i64 a0_p.Kind, .int .i64 a0_p.Conn, .str a0_p.Txn, .int .i64 a0_p.Span_From, .int .i64 a0_p.Span_To, .int .i64 a0_p.Start, .int .i64 a0_p.Duration, .vec a0_p.Periods.length 2 (gL cSPeriod dSPeriod a0_p.Periods)]]⟩) (sub_gen [0] rfl rfl ⟨zc rfl rfl, zc rfl rfl, trivial⟩ ⟨⟨_, rfl, ⟨ii rfl rfl, ii rfl rfl, ii rfl rfl, ii rfl rfl, ii rfl rfl, ii rfl rfl, ii rfl rfl, ii rfl rfl, ii rfl rfl, ii rfl rfl, ii rfl rfl, trivial⟩⟩, trivial⟩) ?_
      refine SOps.nil ?_
      refine SCode.cond_t rfl rfl ?_
      refine SCode.seq ?_
      refine SCode.region (show SOps _ _ _ [0] _ _ from ?_)
      refine SOps.q rfl (.plain rfl) rfl (q_assign rfl rfl) ?_
      refine SOps.sub (st' := ⟨[(2, .c (.bool false))], []⟩) (sub_gen [] rfl rfl ⟨zc rfl rfl, trivial⟩ trivial) ?_
      refine SOps.nil ?_
      refine SCode.ret ?_
      obtain rfl := Option.some.inj h
      exact ⟨⟨[(2, .c (.bool false))], []⟩, _, sub_gen [] rfl rfl ⟨zc rfl rfl, trivial⟩ trivial, resA1 (v := .c (.bool false)) rfl rfl, rfl⟩
    rcases cond_out h with ⟨g5, h⟩ | ⟨g5, h⟩
    · refine SCode.region (show SOps _ _ _ [0, 1, 2, 3, 4, 5, 6, 7, 8, 9, 10, 11, 12, 13, 14, 15, 16, 17] _ _ from ?_)
      refine SOps.q rfl (.plain rfl) rfl (q_field_ptr rfl rfl fd31_7) ?_
      refine SOps.q rfl (.plain rfl) rfl (q_load_ptr rfl rfl rfl rfl ty3) ?_
      refine SOps.q rfl (.plain rfl) rfl (q_lss rfl rfl rfl) ?_
      refine SOps.q rfl (.plain rfl) rfl (q_move rfl rfl) ?_
      refine SOps.q rfl (.guard 3 37 false rfl rfl (gF g4)) rfl (q_field_ptr rfl rfl fd31_7) ?_
      refine SOps.q rfl (.guard 3 37 false rfl rfl (gF g4)) rfl (q_load_ptr rfl rfl rfl rfl ty3) ?_
      refine SOps.q rfl (.guard 3 37 false rfl rfl (gF g4)) rfl (q_gtr rfl rfl rfl) ?_
      refine SOps.q rfl (.plain rfl) rfl (q_pick_f rfl rfl g4 rfl) ?_
      refine SOps.q rfl (.plain rfl) rfl (q_move rfl rfl) ?_
      refine SOps.skip rfl 8 42 false rfl rfl (.inl (gT g5)) rfl ?_
      refine SOps.skip rfl 8 42 false rfl rfl (.inl (gT g5)) rfl ?_
      refine SOps.skip rfl 8 42 false rfl rfl (.inl (gT g5)) rfl ?_
      refine SOps.skip rfl 8 42 false rfl rfl (.inl (gT g5)) rfl ?_
      refine SOps.skip rfl 12 46 true rfl rfl (.inr rfl) rfl ?_
      refine SOps.skip rfl 12 46 true rfl rfl (.inr rfl) rfl ?_
      refine SOps.skip rfl 12 46 true rfl rfl (.inr rfl) rfl ?_
      refine SOps.skip rfl 8 42 false rfl rfl (.inl (gT g5)) rfl ?_
      refine SOps.q rfl (.plain rfl) rfl (q_pick_t rfl rfl g5 rfl) ?_
      refine SOps.sub (st' := ⟨[(1, .c (.ptr 0 0)), (51, .c (.bool true))], [.box [.int .i64 a0_p.ID, .int .i64 a0_p.Level, .int .i64 a0_p.Purpose, .int .i64 a0_p.Kind, .int .i64 a0_p.Conn, .str a0_p.Txn, .int .i64 a0_p.Span_From, .int .i64 a0_p.Span_To, .int .i64 a0_p.Start, .int .i64 a0_p.Duration, .vec a0_p.Periods.length 2 (gL cSPeriod dSPeriod a0_p.Periods)]]⟩) (sub_gen [0] rfl rfl ⟨zc rfl rfl, zc rfl rfl, trivial⟩ ⟨⟨_, rfl, ⟨ii rfl rfl, ii rfl rfl, ii rfl rfl, ii rfl rfl, ii rfl rfl, ii rfl rfl, ii rfl rfl, ii rfl rfl, ii rfl rfl, ii rfl rfl, ii rfl rfl, trivial⟩⟩, trivial⟩) ?_
      refine SOps.nil ?_
      refine SCode.cond_t rfl rfl ?_
      refine SCode.seq ?_
      refine SCode.region (show SOps _ _ _ [0] _ _ from ?_)
      refine SOps.q rfl (.plain rfl) rfl (q_assign rfl rfl) ?_
      refine SOps.sub (st' := ⟨[(2, .c (.bool false))], []⟩) (sub_gen [] rfl rfl ⟨zc rfl rfl, trivial⟩ trivial) ?_
      refine SOps.nil ?_
      refine SCode.ret ?_
      obtain rfl := Option.some.inj h
      exact ⟨⟨[(2, .c (.bool false))], []⟩, _, sub_gen [] rfl rfl ⟨zc rfl rfl, trivial⟩ trivial, resA1 (v := .c (.bool false)) rfl rfl, rfl⟩
    rcases cond_out h with ⟨g6, h⟩ | ⟨g6, h⟩
    · refine SCode.region (show SOps _ _ _ [0, 1, 2, 3, 4, 5, 6, 7, 8, 9, 10, 11, 12, 13, 14, 15, 16, 17] _ _ from ?_)
      refine SOps.q rfl (.plain rfl) rfl (q_field_ptr rfl rfl fd31_7) ?_
      refine SOps.q rfl (.plain rfl) rfl (q_load_ptr rfl rfl rfl rfl ty3) ?_
      refine SOps.q rfl (.plain rfl) rfl (q_lss rfl rfl rfl) ?_
      refine SOps.q rfl (.plain rfl) rfl (q_move rfl rfl) ?_
      refine SOps.q rfl (.guard 3 37 false rfl rfl (gF g4)) rfl (q_field_ptr rfl rfl fd31_7) ?_
      refine SOps.q rfl (.guard 3 37 false rfl rfl (gF g4)) rfl (q_load_ptr rfl rfl rfl rfl ty3) ?_
      refine SOps.q rfl (.guard 3 37 false rfl rfl (gF g4)) rfl (q_gtr rfl rfl rfl) ?_
      refine SOps.q rfl (.plain rfl) rfl (q_pick_f rfl rfl g4 rfl) ?_
      refine SOps.q rfl (.plain rfl) rfl (q_move rfl rfl) ?_
      refine SOps.q rfl (.guard 8 42 false rfl rfl (gF g5)) rfl (q_field_ptr rfl rfl fd31_3) ?_
      refine SOps.q rfl (.guard 8 42 false rfl rfl (gF g5)) rfl (q_load_ptr rfl rfl rfl rfl ty3) ?_
      refine SOps.q rfl (.guard 8 42 false rfl rfl (gF g5)) rfl (q_eql rfl rfl rfl) ?_
      refine SOps.q rfl (.guard 8 42 false rfl rfl (gF g5)) rfl (q_move rfl rfl) ?_
      refine SOps.q rfl (.guard 12 46 true rfl rfl (gT g6)) rfl (q_field_ptr rfl rfl fd31_7) ?_
      refine SOps.q rfl (.guard 12 46 true rfl rfl (gT g6)) rfl (q_load_ptr rfl rfl rfl rfl ty3) ?_
      refine SOps.q rfl (.guard 12 46 true rfl rfl (gT g6)) rfl (q_neq rfl rfl rfl) ?_
      refine SOps.q rfl (.guard 8 42 false rfl rfl (gF g5)) rfl (q_pick_t rfl rfl g6 rfl) ?_
      refine SOps.q rfl (.plain rfl) rfl (q_pick_f rfl rfl g5 rfl) ?_
      refine SOps.sub (st' := ⟨[(1, .c (.ptr 0 0)), (51, .c (.bool ((!decide (a0_p.Start = 0)))))], [.box [.int .i64 a0_p.ID, .int .i64 a0_p.Level, .int .i64 a0_p.Purpose, .int .i64 a0_p.Kind, .int .i64 a0_p.Conn, .str a0_p.Txn, .int .i64 a0_p.Span_From, .int .i64 a0_p.Span_To, .int .i64 a0_p.Start, .int .i64 a0_p.Duration, .vec a0_p.Periods.length 2 (gL cSPeriod dSPeriod a0_p.Periods)]]⟩) (sub_gen [0] rfl rfl ⟨zc rfl rfl, zc rfl rfl, trivial⟩ ⟨⟨_, rfl, ⟨ii rfl rfl, ii rfl rfl, ii rfl rfl, ii rfl rfl, ii rfl rfl, ii rfl rfl, ii rfl rfl, ii rfl rfl, ii rfl rfl, ii rfl rfl, ii rfl rfl, trivial⟩⟩, trivial⟩) ?_
      refine SOps.nil ?_
      rcases cond_out h with ⟨g7, h⟩ | ⟨g7, h⟩
      · refine SCode.cond_t rfl g7 ?_
        refine SCode.seq ?_
        refine SCode.region (show SOps _ _ _ [0] _ _ from ?_)
        refine SOps.q rfl (.plain rfl) rfl (q_assign rfl rfl) ?_
        refine SOps.sub (st' := ⟨[(2, .c (.bool false))], []⟩) (sub_gen [] rfl rfl ⟨zc rfl rfl, trivial⟩ trivial) ?_
        refine SOps.nil ?_
        refine SCode.ret ?_
        obtain rfl := Option.some.inj h
        exact ⟨⟨[(2, .c (.bool false))], []⟩, _, sub_gen [] rfl rfl ⟨zc rfl rfl, trivial⟩ trivial, resA1 (v := .c (.bool false)) rfl rfl, rfl⟩
      refine SCode.cond_f rfl g7 ?_
      refine SCode.skip ?_
      exact ⟨(), h, sub_gen [0] rfl rfl ⟨zc rfl rfl, trivial⟩ ⟨⟨_, rfl, ⟨ii rfl rfl, ii rfl rfl, ii rfl rfl, ii rfl rfl, ii rfl rfl, ii rfl rfl, ii rfl rfl, ii rfl rfl, ii rfl rfl, ii rfl rfl, ii rfl rfl, trivial⟩⟩, trivial⟩⟩
    refine SCode.region (show SOps _ _ _ [0, 1, 2, 3, 4, 5, 6, 7, 8, 9, 10, 11, 12, 13, 14, 15, 16, 17] _ _ from ?_)
    refine SOps.q rfl (.plain rfl) rfl (q_field_ptr rfl rfl fd31_7) ?_
    refine SOps.q rfl (.plain rfl) rfl (q_load_ptr rfl rfl rfl rfl ty3) ?_
    refine SOps.q rfl (.plain rfl) rfl (q_lss rfl rfl rfl) ?_
    refine SOps.q rfl (.plain rfl) rfl (q_move rfl rfl) ?_
    refine SOps.q rfl (.guard 3 37 false rfl rfl (gF g4)) rfl (q_field_ptr rfl rfl fd31_7) ?_
    refine SOps.q rfl (.guard 3 37 false rfl rfl (gF g4)) rfl (q_load_ptr rfl rfl rfl rfl ty3) ?_
    refine SOps.q rfl (.guard 3 37 false rfl rfl (gF g4)) rfl (q_gtr rfl rfl rfl) ?_
    refine SOps.q rfl (.plain rfl) rfl (q_pick_f rfl rfl g4 rfl) ?_
    refine SOps.q rfl (.plain rfl) rfl (q_move rfl rfl) ?_
    refine SOps.q rfl (.guard 8 42 false rfl rfl (gF g5)) rfl (q_field_ptr rfl rfl fd31_3) ?_
    refine SOps.q rfl (.guard 8 42 false rfl rfl (gF g5)) rfl (q_load_ptr rfl rfl rfl rfl ty3) ?_
    refine SOps.q rfl (.guard 8 42 false rfl rfl (gF g5)) rfl (q_eql rfl rfl rfl) ?_
    refine SOps.q rfl (.guard 8 42 false rfl rfl (gF g5)) rfl (q_move rfl rfl) ?_
    refine SOps.skip rfl 12 46 true rfl rfl (.inl (gF g6)) rfl ?_
    refine SOps.skip rfl 12 46 true rfl rfl (.inl (gF g6)) rfl ?_
    refine SOps.skip rfl 12 46 true rfl rfl (.inl (gF g6)) rfl ?_
    refine SOps.q rfl (.guard 8 42 false rfl rfl (gF g5)) rfl (q_pick_f rfl rfl g6 rfl) ?_
    refine SOps.q rfl (.plain rfl) rfl (q_pick_f rfl rfl g5 rfl) ?_
    refine SOps.sub (st' := ⟨[(1, .c (.ptr 0 0)), (51, .c (.bool false))], [.box [.int .i64 a0_p.ID, .int .i64 a0_p.Level, .int .i64 a0_p.Purpose, .int .i64 a0_p.Kind, .int .i64 a0_p.Conn, .str a0_p.Txn, .int .i64 a0_p.Span_From, .int .i64 a0_p.Span_To, .int .i64 a0_p.Start, .int .i64 a0_p.Duration, .vec a0_p.Periods.length 2 (gL cSPeriod dSPeriod a0_p.Periods)]]⟩) (sub_gen [0] rfl rfl ⟨zc rfl rfl, zc rfl rfl, trivial⟩ ⟨⟨_, rfl, ⟨ii rfl rfl, ii rfl rfl, ii rfl rfl, ii rfl rfl, ii rfl rfl, ii rfl rfl, ii rfl rfl, ii rfl rfl, ii rfl rfl, ii rfl rfl, ii rfl rfl, trivial⟩⟩, trivial⟩) ?_
    refine SOps.nil ?_
    refine SCode.cond_f rfl rfl ?_
    refine SCode.skip ?_
    exact ⟨(), h, sub_gen [0] rfl rfl ⟨zc rfl rfl, trivial⟩ ⟨⟨_, rfl, ⟨ii rfl rfl, ii rfl rfl, ii rfl rfl, ii rfl rfl, ii rfl rfl, ii rfl rfl, ii rfl rfl, ii rfl rfl, ii rfl rfl, ii rfl rfl, ii rfl rfl, trivial⟩⟩, trivial⟩⟩
  rintro ⟨⟩ h
  show SCode _ _ _ ⟨[(1, .c (.ptr 0 0))], [.box [.int .i64 a0_p.ID, .int .i64 a0_p.Level, .int .i64 a0_p.Purpose, .int .i64 a0_p.Kind, .int .i64 a0_p.Conn, .str a0_p.Txn, .int .i64 a0_p.Span_From, .int .i64 a0_p.Span_To, .int .i64 a0_p.Start, .int .i64 a0_p.Duration, .vec a0_p.Periods.length 2 (gL cSPeriod dSPeriod a0_p.Periods)]]⟩ _
  replace h : chargenetref15_times_p3 a0_p = some r := h
  unfold chargenetref15_times_p3 at h
  refine SCode.seq ?_
  rcases cond_out h with ⟨g1, h⟩ | ⟨g1, h⟩
  · refine SCode.region (show SOps _ _ _ [0, 1, 2, 3, 4, 5, 6, 7, 8, 9, 10, 11, 12, 13] _ _ from ?_)
    refine SOps.q rfl (.plain rfl) rfl (q_field_ptr rfl rfl fd31_8) ?_
    refine SOps.q rfl (.plain rfl) rfl (q_load_ptr rfl rfl rfl rfl ty3) ?_
    refine SOps.q rfl (.plain rfl) rfl (q_eql rfl rfl rfl) ?_
    refine SOps.q rfl (.plain rfl) rfl (q_move rfl rfl) ?_
    refine SOps.skip rfl 3 55 false rfl rfl (.inl (gT g1)) rfl ?_
    refine SOps.skip rfl 3 55 false rfl rfl (.inl (gT g1)) rfl ?_
    refine SOps.skip rfl 3 55 false rfl rfl (.inl (gT g1)) rfl ?_
    refine SOps.skip rfl 3 55 false rfl rfl (.inl (gT g1)) rfl ?_
    refine SOps.skip rfl 7 59 true rfl rfl (.inr rfl) rfl ?_
    refine SOps.skip rfl 7 59 true rfl rfl (.inr rfl) rfl ?_
    refine SOps.skip rfl 7 59 true rfl rfl (.inr rfl) rfl ?_
    refine SOps.skip rfl 3 55 false rfl rfl (.inl (gT g1)) rfl ?_
    refine SOps.q rfl (.plain rfl) rfl (q_pick_t rfl rfl g1 rfl) ?_
    refine SOps.q rfl (.plain rfl) rfl (q_assign rfl rfl) ?_
    refine SOps.sub (st' := ⟨[(2, .c (.bool true))], []⟩) (sub_gen [] rfl rfl ⟨zc rfl rfl, trivial⟩ trivial) ?_
    refine SOps.nil ?_
    refine SCode.ret ?_
    obtain rfl := Option.some.inj h
    exact ⟨⟨[(2, .c (.bool true))], []⟩, _, sub_gen [] rfl rfl ⟨zc rfl rfl, trivial⟩ trivial, resA1 (v := .c (.bool true)) rfl rfl, rfl⟩
  rcases cond_out h with ⟨g2, h⟩ | ⟨g2, h⟩
  · refine SCode.region (show SOps _ _ _ [0, 1, 2, 3, 4, 5, 6, 7, 8, 9, 10, 11, 12, 13] _ _ from ?_)
    refine SOps.q rfl (.plain rfl) rfl (q_field_ptr rfl rfl fd31_8) ?_
    refine SOps.q rfl (.plain rfl) rfl (q_load_ptr rfl rfl rfl rfl ty3) ?_
    refine SOps.q rfl (.plain rfl) rfl (q_eql rfl rfl rfl) ?_
    refine SOps.q rfl (.plain rfl) rfl (q_move rfl rfl) ?_
    refine SOps.q rfl (.guard 3 55 false rfl rfl (gF g1)) rfl (q_field_ptr rfl rfl fd31_8) ?_
    refine SOps.q rfl (.guard 3 55 false rfl rfl (gF g1)) rfl (q_load_ptr rfl rfl rfl rfl ty3) ?_
    refine SOps.q rfl (.guard 3 55 false rfl rfl (gF g1)) rfl (q_geq rfl rfl rfl) ?_
    refine SOps.q rfl (.guard 3 55 false rfl rfl (gF g1)) rfl (q_move rfl rfl) ?_
    refine SOps.q rfl (.guard 7 59 true rfl rfl (gT g2)) rfl (q_field_ptr rfl rfl fd31_8) ?_
    refine SOps.q rfl (.guard 7 59 true rfl rfl (gT g2)) rfl (q_load_ptr rfl rfl rfl rfl ty3) ?_
    refine SOps.q rfl (.guard 7 59 true rfl rfl (gT g2)) rfl (q_leq rfl rfl rfl) ?_
    refine SOps.q rfl (.guard 3 55 false rfl rfl (gF g1)) rfl (q_pick_t rfl rfl g2 rfl) ?_
    refine SOps.q rfl (.plain rfl) rfl (q_pick_f rfl rfl g1 rfl) ?_
    refine SOps.q rfl (.plain rfl) rfl (q_assign rfl rfl) ?_
    refine SOps.sub (st' := ⟨[(2, .c (.bool (decide (a0_p.Duration ≤ 268435456))))], []⟩) (sub_gen [] rfl rfl ⟨zc rfl rfl, trivial⟩ trivial) ?_
    refine SOps.nil ?_
    refine SCode.ret ?_
    obtain rfl := Option.some.inj h
    exact ⟨⟨[(2, .c (.bool (decide (a0_p.Duration ≤ 268435456))))], []⟩, _, sub_gen [] rfl rfl ⟨zc rfl rfl, trivial⟩ trivial, resA1 (v := .c (.bool (decide (a0_p.Duration ≤ 268435456)))) rfl rfl, rfl⟩
  refine SCode.region (show SOps _ _ _ [0, 1, 2, 3, 4, 5, 6, 7, 8, 9, 10, 11, 12, 13] _ _ from ?_)
  refine SOps.q rfl (.plain rfl) rfl (q_field_ptr rfl rfl fd31_8) ?_
  refine SOps.q rfl (.plain rfl) rfl (q_load_ptr rfl rfl rfl rfl ty3) ?_
  refine SOps.q rfl (.plain rfl) rfl (q_eql rfl rfl rfl) ?_
  refine SOps.q rfl (.plain rfl) rfl (q_move rfl rfl) ?_
  refine SOps.q rfl (.guard 3 55 false rfl rfl (gF g1)) rfl (q_field_ptr rfl rfl fd31_8) ?_
  refine SOps.q rfl (.guard 3 55 false rfl rfl (gF g1)) rfl (q_load_ptr rfl rfl rfl rfl ty3) ?_
  refine SOps.q rfl (.guard 3 55 false rfl rfl (gF g1)) rfl (q_geq rfl rfl rfl) ?_
  refine SOps.q rfl (.guard 3 55 false rfl rfl (gF g1)) rfl (q_move rfl rfl) ?_
  refine SOps.skip rfl 7 59 true rfl rfl (.inl (gF g2)) rfl ?_
  refine SOps.skip rfl 7 59 true rfl rfl (.inl (gF g2)) rfl ?_
  refine SOps.skip rfl 7 59 true rfl rfl (.inl (gF g2)) rfl ?_
  refine SOps.q rfl (.guard 3 55 false rfl rfl (gF g1)) rfl (q_pick_f rfl rfl g2 rfl) ?_
  refine SOps.q rfl (.plain rfl) rfl (q_pick_f rfl rfl g1 rfl) ?_
  refine SOps.q rfl (.plain rfl) rfl (q_assign rfl rfl) ?_
  refine SOps.sub (st' := ⟨[(2, .c (.bool false))], []⟩) (sub_gen [] rfl rfl ⟨zc rfl rfl, trivial⟩ trivial) ?_
  refine SOps.nil ?_
  refine SCode.ret ?_
  obtain rfl := Option.some.inj h
  exact ⟨⟨[(2, .c (.bool false))], []⟩, _, sub_gen [] rfl rfl ⟨zc rfl rfl, trivial⟩ trivial, resA1 (v := .c (.bool false)) rfl rfl, rfl⟩
set_option maxRecDepth 100000 in
set_option maxHeartbeats 8000000 in
theorem chargenetref15_last_ok (F : Nat) (a0_kind : Int) (r : Int) (h : chargenetref15_last F a0_kind = some r) :
    SFun Try.prog 30 [] [.c (.int .i64 a0_kind)] (fun x _ => x = .c (.int .i64 r)) := by
  refine SFun.of (n := 8) Try.func30 rfl rfl rfl ?_
  unfold chargenetref15_last at h
  show SCode _ _ _ ⟨[(0, .c (.int .i64 a0_kind))], []⟩ _
  refine SCode.seq ?_
  refine SCode.region (show SOps _ _ _ [0] _ _ from ?_)
  refine SOps.q rfl (.plain rfl) rfl (q_assign rfl rfl) ?_
  refine SOps.sub (st' := ⟨[(0, .c (.int .i64 a0_kind))], []⟩) (sub_gen [] rfl rfl ⟨zc rfl rfl, trivial⟩ trivial) ?_
  refine SOps.nil ?_
  refine SCode.seq ?_
  refine SCode.seq ?_
  refine SCode.region (show SOps _ _ _ [0] _ _ from ?_)
  refine SOps.q rfl (.plain rfl) rfl (q_move rfl rfl) ?_
  refine SOps.sub (st' := ⟨[(3, .c (.int .i64 a0_kind))], []⟩) (sub_gen [] rfl rfl ⟨zc rfl rfl, trivial⟩ trivial) ?_
  refine SOps.nil ?_
  refine SCode.block ?_
  refine SCode.seq ?_
  refine SCode.region (show SOps _ _ _ [0, 1] _ _ from ?_)
  refine SOps.q rfl (.plain rfl) rfl (q_eql rfl rfl rfl) ?_
  refine SOps.q rfl (.plain rfl) rfl (q_assign rfl rfl) ?_
  refine SOps.sub (st' := ⟨[(3, .c (.int .i64 a0_kind)), (4, .c (.bool (decide (a0_kind = 2))))], []⟩) (sub_gen [] rfl rfl ⟨zc rfl rfl, zc rfl rfl, trivial⟩ trivial) ?_
  refine SOps.nil ?_
  rcases cond_out h with ⟨g1, h⟩ | ⟨g1, h⟩
  · refine SCode.cond_t rfl g1 ?_
    refine SCode.seq ?_
    refine SCode.region (show SOps _ _ _ [0] _ _ from ?_)
    refine SOps.q rfl (.plain rfl) rfl (q_assign rfl rfl) ?_
    refine SOps.sub (st' := ⟨[(2, .c (.int .i64 1439))], []⟩) (sub_gen [] rfl rfl ⟨zc rfl rfl, trivial⟩ trivial) ?_
    refine SOps.nil ?_
    refine SCode.ret ?_
    obtain rfl := Option.some.inj h
    exact ⟨⟨[(2, .c (.int .i64 1439))], []⟩, _, sub_gen [] rfl rfl ⟨zc rfl rfl, trivial⟩ trivial, resA1 (v := .c (.int .i64 1439)) rfl rfl, rfl⟩
  refine SCode.cond_f rfl g1 ?_
  refine SCode.seq ?_
  refine SCode.region (show SOps _ _ _ [0, 1] _ _ from ?_)
  refine SOps.q rfl (.plain rfl) rfl (q_eql rfl rfl rfl) ?_
  refine SOps.q rfl (.plain rfl) rfl (q_assign rfl rfl) ?_
  refine SOps.sub (st' := ⟨[(6, .c (.bool (decide (a0_kind = 3))))], []⟩) (sub_gen [] rfl rfl ⟨zc rfl rfl, trivial⟩ trivial) ?_
  refine SOps.nil ?_
  rcases cond_out h with ⟨g2, h⟩ | ⟨g2, h⟩
  · refine SCode.cond_t rfl g2 ?_
    refine SCode.seq ?_
    refine SCode.region (show SOps _ _ _ [0] _ _ from ?_)
    refine SOps.q rfl (.plain rfl) rfl (q_assign rfl rfl) ?_
    refine SOps.sub (st' := ⟨[(2, .c (.int .i64 10079))], []⟩) (sub_gen [] rfl rfl ⟨zc rfl rfl, trivial⟩ trivial) ?_
    refine SOps.nil ?_
    refine SCode.ret ?_
    obtain rfl := Option.some.inj h
    exact ⟨⟨[(2, .c (.int .i64 10079))], []⟩, _, sub_gen [] rfl rfl ⟨zc rfl rfl, trivial⟩ trivial, resA1 (v := .c (.int .i64 10079)) rfl rfl, rfl⟩
  refine SCode.cond_f rfl g2 ?_
  refine SCode.skip ?_
  refine SCode.seq ?_
  refine SCode.region (show SOps _ _ _ [0] _ _ from ?_)
  refine SOps.q rfl (.plain rfl) rfl (q_assign rfl rfl) ?_
  refine SOps.sub (st' := ⟨[(2, .c (.int .i64 268435456))], []⟩) (sub_gen [] rfl rfl ⟨zc rfl rfl, trivial⟩ trivial) ?_
  refine SOps.nil ?_
  refine SCode.ret ?_
  obtain rfl := Option.some.inj h
  exact ⟨⟨[(2, .c (.int .i64 268435456))], []⟩, _, sub_gen [] rfl rfl ⟨zc rfl rfl, trivial⟩ trivial, resA1 (v := .c (.int .i64 268435456)) rfl rfl, rfl⟩
end Go.Proofs.Ytjpooimkhkhgkaa.W
