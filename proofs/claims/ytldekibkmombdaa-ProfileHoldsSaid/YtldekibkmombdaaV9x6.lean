/- Written by a program of ours (wip/eng/gen.py): the functions compute their models. -/
import Derived.Test.YtldekibkmombdaaFacts
import Derived.Test.YtldekibkmombdaaV9x5
namespace Go.Proofs.Ytldekibkmombdaa.W
open Go Go.Proofs Go.Proofs.Ytldekibkmombdaa.E Go.Proofs.Ytldekibkmombdaa.M
set_option linter.unusedVariables false
set_option maxHeartbeats 8000000 in
theorem profile_times_ok (F : Nat) (a0_p : SProfile) (r : Bool) (h : profile_times F a0_p = some r) :
    SFun Try.prog 29 [] [.a [.int .i64 a0_p.ID, .int .i64 a0_p.Level, .int .i64 a0_p.Purpose, .int .i64 a0_p.Kind, .int .i64 a0_p.Conn, .str a0_p.Txn, .int .i64 a0_p.Span_From, .int .i64 a0_p.Span_To, .int .i64 a0_p.Start, .int .i64 a0_p.Duration, .vec a0_p.Periods.length 2 (gL cSPeriod dSPeriod a0_p.Periods)]] (fun x _ => x = .c (.bool r)) := by
  refine SFun.of (n := 63) Try.func29 rfl rfl rfl ?_
  unfold profile_times at h
  show SCode _ _ _ ⟨[(0, .a [.int .i64 a0_p.ID, .int .i64 a0_p.Level, .int .i64 a0_p.Purpose, .int .i64 a0_p.Kind, .int .i64 a0_p.Conn, .str a0_p.Txn, .int .i64 a0_p.Span_From, .int .i64 a0_p.Span_To, .int .i64 a0_p.Start, .int .i64 a0_p.Duration, .vec a0_p.Periods.length 2 (gL cSPeriod dSPeriod a0_p.Periods)])], []⟩ _
  refine SCode.seq ?_
  refine SCode.region (show SOps _ _ _ [0, 1] _ _ from ?_)
  refine SOps.e rfl (.plain rfl) (e_box rfl rfl rfl rfl rfl rfl) ?_
  refine SOps.q rfl (.plain rfl) rfl (q_assign rfl rfl) ?_
  refine SOps.sub (st' := ⟨[(1, .c (.ptr 0 0))], [.box [.int .i64 a0_p.ID, .int .i64 a0_p.Level, .int .i64 a0_p.Purpose, .int .i64 a0_p.Kind, .int .i64 a0_p.Conn, .str a0_p.Txn, .int .i64 a0_p.Span_From, .int .i64 a0_p.Span_To, .int .i64 a0_p.Start, .int .i64 a0_p.Duration, .vec a0_p.Periods.length 2 (gL cSPeriod dSPeriod a0_p.Periods)]]⟩) (sub_gen [0] rfl rfl ⟨⟨_, rfl, .inl ⟨rfl, rfl⟩⟩, trivial⟩ ⟨⟨_, rfl, ⟨.inl ⟨rfl, rfl⟩, .inl ⟨rfl, rfl⟩, .inl ⟨rfl, rfl⟩, .inl ⟨rfl, rfl⟩, .inl ⟨rfl, rfl⟩, .inl ⟨rfl, rfl⟩, .inl ⟨rfl, rfl⟩, .inl ⟨rfl, rfl⟩, .inl ⟨rfl, rfl⟩, .inl ⟨rfl, rfl⟩, .inl ⟨rfl, rfl⟩, trivial⟩⟩, trivial⟩) ?_
  refine SOps.nil ?_
  refine SCode.seq ?_
  refine SCode.seq ?_
  rcases cond_out h with ⟨g1, h⟩ | ⟨g1, h⟩
  · refine SCode.region (show SOps _ _ _ [0, 1, 2, 3, 4, 5, 6, 7, 8, 9] _ _ from ?_)
    refine SOps.q rfl (.plain rfl) rfl (q_field_ptr rfl rfl fd26_6) ?_
    refine SOps.q rfl (.plain rfl) rfl (q_field_ptr rfl rfl fd23_0) ?_
    refine SOps.q rfl (.plain rfl) rfl (q_load_ptr rfl rfl rfl rfl ty3) ?_
    refine SOps.q rfl (.plain rfl) rfl (q_lss rfl rfl rfl) ?_
    refine SOps.q rfl (.plain rfl) rfl (q_move rfl rfl) ?_
    refine SOps.skip rfl 4 7 false rfl rfl (.inl (gT g1)) rfl ?_
    refine SOps.skip rfl 4 7 false rfl rfl (.inl (gT g1)) rfl ?_
    refine SOps.skip rfl 4 7 false rfl rfl (.inl (gT g1)) rfl ?_
    refine SOps.skip rfl 4 7 false rfl rfl (.inl (gT g1)) rfl ?_
    refine SOps.q rfl (.plain rfl) rfl (q_pick_t rfl rfl g1 rfl) ?_
    refine SOps.sub (st' := ⟨[(1, .c (.ptr 0 0)), (12, .c (.bool true))], [.box [.int .i64 a0_p.ID, .int .i64 a0_p.Level, .int .i64 a0_p.Purpose, .int .i64 a0_p.Kind, .int .i64 a0_p.Conn, .str a0_p.Txn, .int .i64 a0_p.Span_From, .int .i64 a0_p.Span_To, .int .i64 a0_p.Start, .int .i64 a0_p.Duration, .vec a0_p.Periods.length 2 (gL cSPeriod dSPeriod a0_p.Periods)]]⟩) (sub_gen [0] rfl rfl ⟨⟨_, rfl, .inl ⟨rfl, rfl⟩⟩, ⟨_, rfl, .inl ⟨rfl, rfl⟩⟩, trivial⟩ ⟨⟨_, rfl, ⟨.inl ⟨rfl, rfl⟩, .inl ⟨rfl, rfl⟩, .inl ⟨rfl, rfl⟩, .inl ⟨rfl, rfl⟩, .inl ⟨rfl, rfl⟩, .inl ⟨rfl, rfl⟩, .inl ⟨rfl, rfl⟩, .inl ⟨rfl, rfl⟩, .inl ⟨rfl, rfl⟩, .inl ⟨rfl, rfl⟩, .inl ⟨rfl, rfl⟩, trivial⟩⟩, trivial⟩) ?_
    refine SOps.nil ?_
    refine SCode.cond_t rfl rfl ?_
    refine SCode.seq ?_
    refine SCode.region (show SOps _ _ _ [0] _ _ from ?_)
    refine SOps.q rfl (.plain rfl) rfl (q_assign rfl rfl) ?_
    refine SOps.sub (st' := ⟨[(2, .c (.bool false))], []⟩) (sub_gen [] rfl rfl ⟨⟨_, rfl, .inl ⟨rfl, rfl⟩⟩, trivial⟩ trivial) ?_
    refine SOps.nil ?_
    refine SCode.ret ?_
    obtain rfl := Option.some.inj h
    exact ⟨⟨[(2, .c (.bool false))], []⟩, _, sub_gen [] rfl rfl ⟨⟨_, rfl, .inl ⟨rfl, rfl⟩⟩, trivial⟩ trivial, resA1 (v := .c (.bool false)) rfl rfl, rfl⟩
  · refine SCode.region (show SOps _ _ _ [0, 1, 2, 3, 4, 5, 6, 7, 8, 9] _ _ from ?_)
    refine SOps.q rfl (.plain rfl) rfl (q_field_ptr rfl rfl fd26_6) ?_
    refine SOps.q rfl (.plain rfl) rfl (q_field_ptr rfl rfl fd23_0) ?_
    refine SOps.q rfl (.plain rfl) rfl (q_load_ptr rfl rfl rfl rfl ty3) ?_
    refine SOps.q rfl (.plain rfl) rfl (q_lss rfl rfl rfl) ?_
    refine SOps.q rfl (.plain rfl) rfl (q_move rfl rfl) ?_
    refine SOps.q rfl (.guard 4 7 false rfl rfl (gF g1)) rfl (q_field_ptr rfl rfl fd26_6) ?_
    refine SOps.q rfl (.guard 4 7 false rfl rfl (gF g1)) rfl (q_field_ptr rfl rfl fd23_0) ?_
    refine SOps.q rfl (.guard 4 7 false rfl rfl (gF g1)) rfl (q_load_ptr rfl rfl rfl rfl ty3) ?_
    refine SOps.q rfl (.guard 4 7 false rfl rfl (gF g1)) rfl (q_gtr rfl rfl rfl) ?_
    refine SOps.q rfl (.plain rfl) rfl (q_pick_f rfl rfl g1 rfl) ?_
    refine SOps.sub (st' := ⟨[(1, .c (.ptr 0 0)), (12, .c (.bool (decide (268435456 < a0_p.Span_From))))], [.box [.int .i64 a0_p.ID, .int .i64 a0_p.Level, .int .i64 a0_p.Purpose, .int .i64 a0_p.Kind, .int .i64 a0_p.Conn, .str a0_p.Txn, .int .i64 a0_p.Span_From, .int .i64 a0_p.Span_To, .int .i64 a0_p.Start, .int .i64 a0_p.Duration, .vec a0_p.Periods.length 2 (gL cSPeriod dSPeriod a0_p.Periods)]]⟩) (sub_gen [0] rfl rfl ⟨⟨_, rfl, .inl ⟨rfl, rfl⟩⟩, ⟨_, rfl, .inl ⟨rfl, rfl⟩⟩, trivial⟩ ⟨⟨_, rfl, ⟨.inl ⟨rfl, rfl⟩, .inl ⟨rfl, rfl⟩, .inl ⟨rfl, rfl⟩, .inl ⟨rfl, rfl⟩, .inl ⟨rfl, rfl⟩, .inl ⟨rfl, rfl⟩, .inl ⟨rfl, rfl⟩, .inl ⟨rfl, rfl⟩, .inl ⟨rfl, rfl⟩, .inl ⟨rfl, rfl⟩, .inl ⟨rfl, rfl⟩, trivial⟩⟩, trivial⟩) ?_
    refine SOps.nil ?_
    rcases cond_out h with ⟨g2, h⟩ | ⟨g2, h⟩
    · refine SCode.cond_t rfl g2 ?_
      refine SCode.seq ?_
      refine SCode.region (show SOps _ _ _ [0] _ _ from ?_)
      refine SOps.q rfl (.plain rfl) rfl (q_assign rfl rfl) ?_
      refine SOps.sub (st' := ⟨[(2, .c (.bool false))], []⟩) (sub_gen [] rfl rfl ⟨⟨_, rfl, .inl ⟨rfl, rfl⟩⟩, trivial⟩ trivial) ?_
      refine SOps.nil ?_
      refine SCode.ret ?_
      obtain rfl := Option.some.inj h
      exact ⟨⟨[(2, .c (.bool false))], []⟩, _, sub_gen [] rfl rfl ⟨⟨_, rfl, .inl ⟨rfl, rfl⟩⟩, trivial⟩ trivial, resA1 (v := .c (.bool false)) rfl rfl, rfl⟩
    · refine SCode.cond_f rfl g2 ?_
      refine SCode.skip ?_
      refine SCode.join (σ := Unit) (S := fun s => ⟨[(1, .c (.ptr 0 0))], [.box [.int .i64 a0_p.ID, .int .i64 a0_p.Level, .int .i64 a0_p.Purpose, .int .i64 a0_p.Kind, .int .i64 a0_p.Conn, .str a0_p.Txn, .int .i64 a0_p.Span_From, .int .i64 a0_p.Span_To, .int .i64 a0_p.Start, .int .i64 a0_p.Duration, .vec a0_p.Periods.length 2 (gL cSPeriod dSPeriod a0_p.Periods)]]⟩) (g := fun s => profile_times_p10 a0_p = some r) ?_ ?_
      · rintro ⟨⟩ h
        show SCode _ _ _ ⟨[(1, .c (.ptr 0 0))], [.box [.int .i64 a0_p.ID, .int .i64 a0_p.Level, .int .i64 a0_p.Purpose, .int .i64 a0_p.Kind, .int .i64 a0_p.Conn, .str a0_p.Txn, .int .i64 a0_p.Span_From, .int .i64 a0_p.Span_To, .int .i64 a0_p.Start, .int .i64 a0_p.Duration, .vec a0_p.Periods.length 2 (gL cSPeriod dSPeriod a0_p.Periods)]]⟩ _
        replace h : profile_times_p10 a0_p = some r := h
        unfold profile_times_p10 at h
        refine SCode.join (σ := Unit) (S := fun s => ⟨[(1, .c (.ptr 0 0))], [.box [.int .i64 a0_p.ID, .int .i64 a0_p.Level, .int .i64 a0_p.Purpose, .int .i64 a0_p.Kind, .int .i64 a0_p.Conn, .str a0_p.Txn, .int .i64 a0_p.Span_From, .int .i64 a0_p.Span_To, .int .i64 a0_p.Start, .int .i64 a0_p.Duration, .vec a0_p.Periods.length 2 (gL cSPeriod dSPeriod a0_p.Periods)]]⟩) (g := fun s => profile_times_p5 a0_p = some r) ?_ ?_
        · rintro ⟨⟩ h
          show SCode _ _ _ ⟨[(1, .c (.ptr 0 0))], [.box [.int .i64 a0_p.ID, .int .i64 a0_p.Level, .int .i64 a0_p.Purpose, .int .i64 a0_p.Kind, .int .i64 a0_p.Conn, .str a0_p.Txn, .int .i64 a0_p.Span_From, .int .i64 a0_p.Span_To, .int .i64 a0_p.Start, .int .i64 a0_p.Duration, .vec a0_p.Periods.length 2 (gL cSPeriod dSPeriod a0_p.Periods)]]⟩ _
          replace h : profile_times_p5 a0_p = some r := h
          unfold profile_times_p5 at h
          refine SCode.seq ?_
          rcases cond_out h with ⟨g3, h⟩ | ⟨g3, h⟩
          · refine SCode.region (show SOps _ _ _ [0, 1, 2, 3, 4, 5, 6, 7, 8, 9, 10, 11, 12, 13] _ _ from ?_)
            refine SOps.q rfl (.plain rfl) rfl (q_field_ptr rfl rfl fd26_8) ?_
            refine SOps.q rfl (.plain rfl) rfl (q_load_ptr rfl rfl rfl rfl ty3) ?_
            refine SOps.q rfl (.plain rfl) rfl (q_eql rfl rfl rfl) ?_
            refine SOps.q rfl (.plain rfl) rfl (q_move rfl rfl) ?_
            refine SOps.skip rfl 3 53 false rfl rfl (.inl (gT g3)) rfl ?_
            refine SOps.skip rfl 3 53 false rfl rfl (.inl (gT g3)) rfl ?_
            refine SOps.skip rfl 3 53 false rfl rfl (.inl (gT g3)) rfl ?_
            refine SOps.skip rfl 3 53 false rfl rfl (.inl (gT g3)) rfl ?_
            refine SOps.skip rfl 7 57 true rfl rfl (.inr rfl) rfl ?_
            refine SOps.skip rfl 7 57 true rfl rfl (.inr rfl) rfl ?_
            refine SOps.skip rfl 7 57 true rfl rfl (.inr rfl) rfl ?_
            refine SOps.skip rfl 3 53 false rfl rfl (.inl (gT g3)) rfl ?_
            refine SOps.q rfl (.plain rfl) rfl (q_pick_t rfl rfl g3 rfl) ?_
            refine SOps.q rfl (.plain rfl) rfl (q_assign rfl rfl) ?_
            refine SOps.sub (st' := ⟨[(2, .c (.bool true))], []⟩) (sub_gen [] rfl rfl ⟨⟨_, rfl, .inl ⟨rfl, rfl⟩⟩, trivial⟩ trivial) ?_
            refine SOps.nil ?_
            refine SCode.ret ?_
            obtain rfl := Option.some.inj h
            exact ⟨⟨[(2, .c (.bool true))], []⟩, _, sub_gen [] rfl rfl ⟨⟨_, rfl, .inl ⟨rfl, rfl⟩⟩, trivial⟩ trivial, resA1 (v := .c (.bool true)) rfl rfl, rfl⟩
          · rcases cond_out h with ⟨g4, h⟩ | ⟨g4, h⟩
            · refine SCode.region (show SOps _ _ _ [0, 1, 2, 3, 4, 5, 6, 7, 8, 9, 10, 11, 12, 13] _ _ from ?_)
              refine SOps.q rfl (.plain rfl) rfl (q_field_ptr rfl rfl fd26_8) ?_
              refine SOps.q rfl (.plain rfl) rfl (q_load_ptr rfl rfl rfl rfl ty3) ?_
              refine SOps.q rfl (.plain rfl) rfl (q_eql rfl rfl rfl) ?_
              refine SOps.q rfl (.plain rfl) rfl (q_move rfl rfl) ?_
              refine SOps.q rfl (.guard 3 53 false rfl rfl (gF g3)) rfl (q_field_ptr rfl rfl fd26_8) ?_
              refine SOps.q rfl (.guard 3 53 false rfl rfl (gF g3)) rfl (q_load_ptr rfl rfl rfl rfl ty3) ?_
              refine SOps.q rfl (.guard 3 53 false rfl rfl (gF g3)) rfl (q_geq rfl rfl rfl) ?_
              refine SOps.q rfl (.guard 3 53 false rfl rfl (gF g3)) rfl (q_move rfl rfl) ?_
              refine SOps.q rfl (.guard 7 57 true rfl rfl (gT g4)) rfl (q_field_ptr rfl rfl fd26_8) ?_
              refine SOps.q rfl (.guard 7 57 true rfl rfl (gT g4)) rfl (q_load_ptr rfl rfl rfl rfl ty3) ?_
              refine SOps.q rfl (.guard 7 57 true rfl rfl (gT g4)) rfl (q_leq rfl rfl rfl) ?_
              refine SOps.q rfl (.guard 3 53 false rfl rfl (gF g3)) rfl (q_pick_t rfl rfl g4 rfl) ?_
              refine SOps.q rfl (.plain rfl) rfl (q_pick_f rfl rfl g3 rfl) ?_
              refine SOps.q rfl (.plain rfl) rfl (q_assign rfl rfl) ?_
              refine SOps.sub (st' := ⟨[(2, .c (.bool (decide (a0_p.Duration ≤ 268435456))))], []⟩) (sub_gen [] rfl rfl ⟨⟨_, rfl, .inl ⟨rfl, rfl⟩⟩, trivial⟩ trivial) ?_
              refine SOps.nil ?_
              refine SCode.ret ?_
              obtain rfl := Option.some.inj h
              exact ⟨⟨[(2, .c (.bool (decide (a0_p.Duration ≤ 268435456))))], []⟩, _, sub_gen [] rfl rfl ⟨⟨_, rfl, .inl ⟨rfl, rfl⟩⟩, trivial⟩ trivial, resA1 (v := .c (.bool (decide (a0_p.Duration ≤ 268435456)))) rfl rfl, rfl⟩
            · refine SCode.region (show SOps _ _ _ [0, 1, 2, 3, 4, 5, 6, 7, 8, 9, 10, 11, 12, 13] _ _ from ?_)
              refine SOps.q rfl (.plain rfl) rfl (q_field_ptr rfl rfl fd26_8) ?_
              refine SOps.q rfl (.plain rfl) rfl (q_load_ptr rfl rfl rfl rfl ty3) ?_
              refine SOps.q rfl (.plain rfl) rfl (q_eql rfl rfl rfl) ?_
              refine SOps.q rfl (.plain rfl) rfl (q_move rfl rfl) ?_
              refine SOps.q rfl (.guard 3 53 false rfl rfl (gF g3)) rfl (q_field_ptr rfl rfl fd26_8) ?_
              refine SOps.q rfl (.guard 3 53 false rfl rfl (gF g3)) rfl (q_load_ptr rfl rfl rfl rfl ty3) ?_
              refine SOps.q rfl (.guard 3 53 false rfl rfl (gF g3)) rfl (q_geq rfl rfl rfl) ?_
              refine SOps.q rfl (.guard 3 53 false rfl rfl (gF g3)) rfl (q_move rfl rfl) ?_
              refine SOps.skip rfl 7 57 true rfl rfl (.inl (gF g4)) rfl ?_
              refine SOps.skip rfl 7 57 true rfl rfl (.inl (gF g4)) rfl ?_
              refine SOps.skip rfl 7 57 true rfl rfl (.inl (gF g4)) rfl ?_
              refine SOps.q rfl (.guard 3 53 false rfl rfl (gF g3)) rfl (q_pick_f rfl rfl g4 rfl) ?_
              refine SOps.q rfl (.plain rfl) rfl (q_pick_f rfl rfl g3 rfl) ?_
              refine SOps.q rfl (.plain rfl) rfl (q_assign rfl rfl) ?_
              refine SOps.sub (st' := ⟨[(2, .c (.bool false))], []⟩) (sub_gen [] rfl rfl ⟨⟨_, rfl, .inl ⟨rfl, rfl⟩⟩, trivial⟩ trivial) ?_
              refine SOps.nil ?_
              refine SCode.ret ?_
              obtain rfl := Option.some.inj h
              exact ⟨⟨[(2, .c (.bool false))], []⟩, _, sub_gen [] rfl rfl ⟨⟨_, rfl, .inl ⟨rfl, rfl⟩⟩, trivial⟩ trivial, resA1 (v := .c (.bool false)) rfl rfl, rfl⟩
        · refine SCode.seq ?_
          rcases cond_out h with ⟨g6, h⟩ | ⟨g6, h⟩
          · refine SCode.region (show SOps _ _ _ [0, 1, 2, 3, 4, 5, 6, 7, 8, 9, 10, 11, 12, 13, 14, 15, 16, 17] _ _ from ?_)
            refine SOps.q rfl (.plain rfl) rfl (q_field_ptr rfl rfl fd26_7) ?_
            refine SOps.q rfl (.plain rfl) rfl (q_load_ptr rfl rfl rfl rfl ty3) ?_
            refine SOps.q rfl (.plain rfl) rfl (q_lss rfl rfl rfl) ?_
            refine SOps.q rfl (.plain rfl) rfl (q_move rfl rfl) ?_
            refine SOps.skip rfl 3 35 false rfl rfl (.inl (gT g6)) rfl ?_
            refine SOps.skip rfl 3 35 false rfl rfl (.inl (gT g6)) rfl ?_
            refine SOps.skip rfl 3 35 false rfl rfl (.inl (gT g6)) rfl ?_
            refine SOps.q rfl (.plain rfl) rfl (q_pick_t rfl rfl g6 rfl) ?_
            refine SOps.q rfl (.plain rfl) rfl (q_move rfl rfl) ?_
            refine SOps.skip rfl 8 40 false rfl rfl (.inl rfl) rfl ?_
            refine SOps.skip rfl 8 40 false rfl rfl (.inl rfl) rfl ?_
            refine SOps.skip rfl 8 40 false rfl rfl (.inl rfl) rfl ?_
            refine SOps.skip rfl 8 40 false rfl rfl (.inl rfl) rfl ?_
            refine SOps.skip rfl 12 44 true rfl rfl (.inr rfl) rfl ?_
            refine SOps.skip rfl 12 44 true rfl rfl (.inr rfl) rfl ?_
            refine SOps.skip rfl 12 44 true rfl rfl (.inr rfl) rfl ?_
            refine SOps.skip rfl 8 40 false rfl rfl (.inl rfl) rfl ?_
            refine SOps.q rfl (.plain rfl) rfl (q_pick_t rfl rfl rfl rfl) ?_
            refine SOps.sub (st' := ⟨[(1, .c (.ptr 0 0)), (49, .c (.bool true))], [.box [.int .i64 a0_p.ID, .int .i64 a0_p.Level, .int .i64 a0_p.Purpose, .int .i64 a0_p.Kind, .int .i64 a0_p.Conn, .str a0_p.Txn, .int .i64 a0_p.Span_From, .int .i64 a0_p.Span_To, .int .i64 a0_p.Start, .int .i64 a0_p.Duration, .vec a0_p.Periods.length 2 (gL cSPeriod dSPeriod a0_p.Periods)]]⟩) (sub_gen [0] rfl rfl ⟨⟨_, rfl, .inl ⟨rfl, rfl⟩⟩, ⟨_, rfl, .inl ⟨rfl, rfl⟩⟩, trivial⟩ ⟨⟨_, rfl, ⟨.inl ⟨rfl, rfl⟩, .inl ⟨rfl, rfl⟩, .inl ⟨rfl, rfl⟩, .inl ⟨rfl, rfl⟩, .inl ⟨rfl, rfl⟩, .inl ⟨rfl, rfl⟩, .inl ⟨rfl, rfl⟩, .inl ⟨rfl, rfl⟩, .inl ⟨rfl, rfl⟩, .inl ⟨rfl, rfl⟩, .inl ⟨rfl, rfl⟩, trivial⟩⟩, trivial⟩) ?_
            refine SOps.nil ?_
            refine SCode.cond_t rfl rfl ?_
            refine SCode.seq ?_
            refine SCode.region (show SOps _ _ _ [0] _ _ from ?_)
            refine SOps.q rfl (.plain rfl) rfl (q_assign rfl rfl) ?_
            refine SOps.sub (st' := ⟨[(2, .c (.bool false))], []⟩) (sub_gen [] rfl rfl ⟨⟨_, rfl, .inl ⟨rfl, rfl⟩⟩, trivial⟩ trivial) ?_
            refine SOps.nil ?_
            refine SCode.ret ?_
            obtain rfl := Option.some.inj h
            exact ⟨⟨[(2, .c (.bool false))], []⟩, _, sub_gen [] rfl rfl ⟨⟨_, rfl, .inl ⟨rfl, rfl⟩⟩, trivial⟩ trivial, resA1 (v := .c (.bool false)) rfl rfl, rfl⟩
          · rcases cond_out h with ⟨g7, h⟩ | ⟨g7, h⟩
            · refine SCode.region (show SOps _ _ _ [0, 1, 2, 3, 4, 5, 6, 7, 8, 9, 10, 11, 12, 13, 14, 15, 16, 17] _ _ from ?_)
              refine SOps.q rfl (.plain rfl) rfl (q_field_ptr rfl rfl fd26_7) ?_
              refine SOps.q rfl (.plain rfl) rfl (q_load_ptr rfl rfl rfl rfl ty3) ?_
              refine SOps.q rfl (.plain rfl) rfl (q_lss rfl rfl rfl) ?_
              refine SOps.q rfl (.plain rfl) rfl (q_move rfl rfl) ?_
              refine SOps.q rfl (.guard 3 35 false rfl rfl (gF g6)) rfl (q_field_ptr rfl rfl fd26_7) ?_
              refine SOps.q rfl (.guard 3 35 false rfl rfl (gF g6)) rfl (q_load_ptr rfl rfl rfl rfl ty3) ?_
              refine SOps.q rfl (.guard 3 35 false rfl rfl (gF g6)) rfl (q_gtr rfl rfl rfl) ?_
              refine SOps.q rfl (.plain rfl) rfl (q_pick_f rfl rfl g6 rfl) ?_
              refine SOps.q rfl (.plain rfl) rfl (q_move rfl rfl) ?_
              refine SOps.skip rfl 8 40 false rfl rfl (.inl (gT g7)) rfl ?_
              refine SOps.skip rfl 8 40 false rfl rfl (.inl (gT g7)) rfl ?_
              refine SOps.skip rfl 8 40 false rfl rfl (.inl (gT g7)) rfl ?_
              refine SOps.skip rfl 8 40 false rfl rfl (.inl (gT g7)) rfl ?_
              refine SOps.skip rfl 12 44 true rfl rfl (.inr rfl) rfl ?_
              refine SOps.skip rfl 12 44 true rfl rfl (.inr rfl) rfl ?_
              refine SOps.skip rfl 12 44 true rfl rfl (.inr rfl) rfl ?_
              refine SOps.skip rfl 8 40 false rfl rfl (.inl (gT g7)) rfl ?_
              refine SOps.q rfl (.plain rfl) rfl (q_pick_t rfl rfl g7 rfl) ?_
              refine SOps.sub (st' := ⟨[(1, .c (.ptr 0 0)), (49, .c (.bool true))], [.box [.int .i64 a0_p.ID, .int .i64 a0_p.Level, .int .i64 a0_p.Purpose, .int .i64 a0_p.Kind, .int .i64 a0_p.Conn, .str a0_p.Txn, .int .i64 a0_p.Span_From, .int .i64 a0_p.Span_To, .int .i64 a0_p.Start, .int .i64 a0_p.Duration, .vec a0_p.Periods.length 2 (gL cSPeriod dSPeriod a0_p.Periods)]]⟩) (sub_gen [0] rfl rfl ⟨⟨_, rfl, .inl ⟨rfl, rfl⟩⟩, ⟨_, rfl, .inl ⟨rfl, rfl⟩⟩, trivial⟩ ⟨⟨_, rfl, ⟨.inl ⟨rfl, rfl⟩, .inl ⟨rfl, rfl⟩, .inl ⟨rfl, rfl⟩, .inl ⟨rfl, rfl⟩, .inl ⟨rfl, rfl⟩, .inl ⟨rfl, rfl⟩, .inl ⟨rfl, rfl⟩, .inl ⟨rfl, rfl⟩, .inl ⟨rfl, rfl⟩, .inl ⟨rfl, rfl⟩, .inl ⟨rfl, rfl⟩, trivial⟩⟩, trivial⟩) ?_
              refine SOps.nil ?_
              refine SCode.cond_t rfl rfl ?_
              refine SCode.seq ?_
              refine SCode.region (show SOps _ _ _ [0] _ _ from ?_)
              refine SOps.q rfl (.plain rfl) rfl (q_assign rfl rfl) ?_
              refine SOps.sub (st' := ⟨[(2, .c (.bool false))], []⟩) (sub_gen [] rfl rfl ⟨⟨_, rfl, .inl ⟨rfl, rfl⟩⟩, trivial⟩ trivial) ?_
              refine SOps.nil ?_
              refine SCode.ret ?_
              obtain rfl := Option.some.inj h
              exact ⟨⟨[(2, .c (.bool false))], []⟩, _, sub_gen [] rfl rfl ⟨⟨_, rfl, .inl ⟨rfl, rfl⟩⟩, trivial⟩ trivial, resA1 (v := .c (.bool false)) rfl rfl, rfl⟩
            · rcases cond_out h with ⟨g8, h⟩ | ⟨g8, h⟩
              · refine SCode.region (show SOps _ _ _ [0, 1, 2, 3, 4, 5, 6, 7, 8, 9, 10, 11, 12, 13, 14, 15, 16, 17] _ _ from ?_)
                refine SOps.q rfl (.plain rfl) rfl (q_field_ptr rfl rfl fd26_7) ?_
                refine SOps.q rfl (.plain rfl) rfl (q_load_ptr rfl rfl rfl rfl ty3) ?_
                refine SOps.q rfl (.plain rfl) rfl (q_lss rfl rfl rfl) ?_
                refine SOps.q rfl (.plain rfl) rfl (q_move rfl rfl) ?_
                refine SOps.q rfl (.guard 3 35 false rfl rfl (gF g6)) rfl (q_field_ptr rfl rfl fd26_7) ?_
                refine SOps.q rfl (.guard 3 35 false rfl rfl (gF g6)) rfl (q_load_ptr rfl rfl rfl rfl ty3) ?_
                refine SOps.q rfl (.guard 3 35 false rfl rfl (gF g6)) rfl (q_gtr rfl rfl rfl) ?_
                refine SOps.q rfl (.plain rfl) rfl (q_pick_f rfl rfl g6 rfl) ?_
                refine SOps.q rfl (.plain rfl) rfl (q_move rfl rfl) ?_
                refine SOps.q rfl (.guard 8 40 false rfl rfl (gF g7)) rfl (q_field_ptr rfl rfl fd26_3) ?_
                refine SOps.q rfl (.guard 8 40 false rfl rfl (gF g7)) rfl (q_load_ptr rfl rfl rfl rfl ty3) ?_
                refine SOps.q rfl (.guard 8 40 false rfl rfl (gF g7)) rfl (q_eql rfl rfl rfl) ?_
                refine SOps.q rfl (.guard 8 40 false rfl rfl (gF g7)) rfl (q_move rfl rfl) ?_
                refine SOps.q rfl (.guard 12 44 true rfl rfl (gT g8)) rfl (q_field_ptr rfl rfl fd26_7) ?_
                refine SOps.q rfl (.guard 12 44 true rfl rfl (gT g8)) rfl (q_load_ptr rfl rfl rfl rfl ty3) ?_
                refine SOps.q rfl (.guard 12 44 true rfl rfl (gT g8)) rfl (q_neq rfl rfl rfl) ?_
                refine SOps.q rfl (.guard 8 40 false rfl rfl (gF g7)) rfl (q_pick_t rfl rfl g8 rfl) ?_
                refine SOps.q rfl (.plain rfl) rfl (q_pick_f rfl rfl g7 rfl) ?_
                refine SOps.sub (st' := ⟨[(1, .c (.ptr 0 0)), (49, .c (.bool ((!decide (a0_p.Start = 0)))))], [.box [.int .i64 a0_p.ID, .int .i64 a0_p.Level, .int .i64 a0_p.Purpose, .int .i64 a0_p.Kind, .int .i64 a0_p.Conn, .str a0_p.Txn, .int .i64 a0_p.Span_From, .int .i64 a0_p.Span_To, .int .i64 a0_p.Start, .int .i64 a0_p.Duration, .vec a0_p.Periods.length 2 (gL cSPeriod dSPeriod a0_p.Periods)]]⟩) (sub_gen [0] rfl rfl ⟨⟨_, rfl, .inl ⟨rfl, rfl⟩⟩, ⟨_, rfl, .inl ⟨rfl, rfl⟩⟩, trivial⟩ ⟨⟨_, rfl, ⟨.inl ⟨rfl, rfl⟩, .inl ⟨rfl, rfl⟩, .inl ⟨rfl, rfl⟩, .inl ⟨rfl, rfl⟩, .inl ⟨rfl, rfl⟩, .inl ⟨rfl, rfl⟩, .inl ⟨rfl, rfl⟩, .inl ⟨rfl, rfl⟩, .inl ⟨rfl, rfl⟩, .inl ⟨rfl, rfl⟩, .inl ⟨rfl, rfl⟩, trivial⟩⟩, trivial⟩) ?_
                refine SOps.nil ?_
                rcases cond_out h with ⟨g9, h⟩ | ⟨g9, h⟩
                · refine SCode.cond_t rfl g9 ?_
                  refine SCode.seq ?_
                  refine SCode.region (show SOps _ _ _ [0] _ _ from ?_)
                  refine SOps.q rfl (.plain rfl) rfl (q_assign rfl rfl) ?_
                  refine SOps.sub (st' := ⟨[(2, .c (.bool false))], []⟩) (sub_gen [] rfl rfl ⟨⟨_, rfl, .inl ⟨rfl, rfl⟩⟩, trivial⟩ trivial) ?_
                  refine SOps.nil ?_
                  refine SCode.ret ?_
                  obtain rfl := Option.some.inj h
                  exact ⟨⟨[(2, .c (.bool false))], []⟩, _, sub_gen [] rfl rfl ⟨⟨_, rfl, .inl ⟨rfl, rfl⟩⟩, trivial⟩ trivial, resA1 (v := .c (.bool false)) rfl rfl, rfl⟩
                · refine SCode.cond_f rfl g9 ?_
                  refine SCode.skip ?_
                  exact ⟨(), h, sub_gen [0] rfl rfl ⟨⟨_, rfl, .inl ⟨rfl, rfl⟩⟩, trivial⟩ ⟨⟨_, rfl, ⟨.inl ⟨rfl, rfl⟩, .inl ⟨rfl, rfl⟩, .inl ⟨rfl, rfl⟩, .inl ⟨rfl, rfl⟩, .inl ⟨rfl, rfl⟩, .inl ⟨rfl, rfl⟩, .inl ⟨rfl, rfl⟩, .inl ⟨rfl, rfl⟩, .inl ⟨rfl, rfl⟩, .inl ⟨rfl, rfl⟩, .inl ⟨rfl, rfl⟩, trivial⟩⟩, trivial⟩⟩
              · refine SCode.region (show SOps _ _ _ [0, 1, 2, 3, 4, 5, 6, 7, 8, 9, 10, 11, 12, 13, 14, 15, 16, 17] _ _ from ?_)
                refine SOps.q rfl (.plain rfl) rfl (q_field_ptr rfl rfl fd26_7) ?_
                refine SOps.q rfl (.plain rfl) rfl (q_load_ptr rfl rfl rfl rfl ty3) ?_
                refine SOps.q rfl (.plain rfl) rfl (q_lss rfl rfl rfl) ?_
                refine SOps.q rfl (.plain rfl) rfl (q_move rfl rfl) ?_
                refine SOps.q rfl (.guard 3 35 false rfl rfl (gF g6)) rfl (q_field_ptr rfl rfl fd26_7) ?_
                refine SOps.q rfl (.guard 3 35 false rfl rfl (gF g6)) rfl (q_load_ptr rfl rfl rfl rfl ty3) ?_
                refine SOps.q rfl (.guard 3 35 false rfl rfl (gF g6)) rfl (q_gtr rfl rfl rfl) ?_
                refine SOps.q rfl (.plain rfl) rfl (q_pick_f rfl rfl g6 rfl) ?_
                refine SOps.q rfl (.plain rfl) rfl (q_move rfl rfl) ?_
                refine SOps.q rfl (.guard 8 40 false rfl rfl (gF g7)) rfl (q_field_ptr rfl rfl fd26_3) ?_
                refine SOps.q rfl (.guard 8 40 false rfl rfl (gF g7)) rfl (q_load_ptr rfl rfl rfl rfl ty3) ?_
                refine SOps.q rfl (.guard 8 40 false rfl rfl (gF g7)) rfl (q_eql rfl rfl rfl) ?_
                refine SOps.q rfl (.guard 8 40 false rfl rfl (gF g7)) rfl (q_move rfl rfl) ?_
                refine SOps.skip rfl 12 44 true rfl rfl (.inl (gF g8)) rfl ?_
                refine SOps.skip rfl 12 44 true rfl rfl (.inl (gF g8)) rfl ?_
                refine SOps.skip rfl 12 44 true rfl rfl (.inl (gF g8)) rfl ?_
                refine SOps.q rfl (.guard 8 40 false rfl rfl (gF g7)) rfl (q_pick_f rfl rfl g8 rfl) ?_
                refine SOps.q rfl (.plain rfl) rfl (q_pick_f rfl rfl g7 rfl) ?_
                refine SOps.sub (st' := ⟨[(1, .c (.ptr 0 0)), (49, .c (.bool false))], [.box [.int .i64 a0_p.ID, .int .i64 a0_p.Level, .int .i64 a0_p.Purpose, .int .i64 a0_p.Kind, .int .i64 a0_p.Conn, .str a0_p.Txn, .int .i64 a0_p.Span_From, .int .i64 a0_p.Span_To, .int .i64 a0_p.Start, .int .i64 a0_p.Duration, .vec a0_p.Periods.length 2 (gL cSPeriod dSPeriod a0_p.Periods)]]⟩) (sub_gen [0] rfl rfl ⟨⟨_, rfl, .inl ⟨rfl, rfl⟩⟩, ⟨_, rfl, .inl ⟨rfl, rfl⟩⟩, trivial⟩ ⟨⟨_, rfl, ⟨.inl ⟨rfl, rfl⟩, .inl ⟨rfl, rfl⟩, .inl ⟨rfl, rfl⟩, .inl ⟨rfl, rfl⟩, .inl ⟨rfl, rfl⟩, .inl ⟨rfl, rfl⟩, .inl ⟨rfl, rfl⟩, .inl ⟨rfl, rfl⟩, .inl ⟨rfl, rfl⟩, .inl ⟨rfl, rfl⟩, .inl ⟨rfl, rfl⟩, trivial⟩⟩, trivial⟩) ?_
                refine SOps.nil ?_
                refine SCode.cond_f rfl rfl ?_
                refine SCode.skip ?_
                exact ⟨(), h, sub_gen [0] rfl rfl ⟨⟨_, rfl, .inl ⟨rfl, rfl⟩⟩, trivial⟩ ⟨⟨_, rfl, ⟨.inl ⟨rfl, rfl⟩, .inl ⟨rfl, rfl⟩, .inl ⟨rfl, rfl⟩, .inl ⟨rfl, rfl⟩, .inl ⟨rfl, rfl⟩, .inl ⟨rfl, rfl⟩, .inl ⟨rfl, rfl⟩, .inl ⟨rfl, rfl⟩, .inl ⟨rfl, rfl⟩, .inl ⟨rfl, rfl⟩, .inl ⟨rfl, rfl⟩, trivial⟩⟩, trivial⟩⟩
      · refine SCode.seq ?_
        rcases cond_out h with ⟨g11, h⟩ | ⟨g11, h⟩
        · rcases cond_out h with ⟨g12, h⟩ | ⟨g12, h⟩
          · refine SCode.region (show SOps _ _ _ [0, 1, 2, 3, 4, 5, 6, 7, 8, 9, 10, 11, 12, 13, 14, 15, 16, 17, 18] _ _ from ?_)
            refine SOps.q rfl (.plain rfl) rfl (q_field_ptr rfl rfl fd26_6) ?_
            refine SOps.q rfl (.plain rfl) rfl (q_field_ptr rfl rfl fd23_1) ?_
            refine SOps.q rfl (.plain rfl) rfl (q_load_ptr rfl rfl rfl rfl ty3) ?_
            refine SOps.q rfl (.plain rfl) rfl (q_neq rfl rfl rfl) ?_
            refine SOps.q rfl (.plain rfl) rfl (q_move rfl rfl) ?_
            refine SOps.q rfl (.guard 4 17 true rfl rfl (gT g11)) rfl (q_field_ptr rfl rfl fd26_6) ?_
            refine SOps.q rfl (.guard 4 17 true rfl rfl (gT g11)) rfl (q_field_ptr rfl rfl fd23_1) ?_
            refine SOps.q rfl (.guard 4 17 true rfl rfl (gT g11)) rfl (q_load_ptr rfl rfl rfl rfl ty3) ?_
            refine SOps.q rfl (.guard 4 17 true rfl rfl (gT g11)) rfl (q_field_ptr rfl rfl fd26_6) ?_
            refine SOps.q rfl (.guard 4 17 true rfl rfl (gT g11)) rfl (q_field_ptr rfl rfl fd23_0) ?_
            refine SOps.q rfl (.guard 4 17 true rfl rfl (gT g11)) rfl (q_load_ptr rfl rfl rfl rfl ty3) ?_
            refine SOps.q rfl (.guard 4 17 true rfl rfl (gT g11)) rfl (q_lss rfl rfl rfl) ?_
            refine SOps.q rfl (.guard 4 17 true rfl rfl (gT g11)) rfl (q_move rfl rfl) ?_
            refine SOps.skip rfl 12 25 false rfl rfl (.inl (gT g12)) rfl ?_
            refine SOps.skip rfl 12 25 false rfl rfl (.inl (gT g12)) rfl ?_
            refine SOps.skip rfl 12 25 false rfl rfl (.inl (gT g12)) rfl ?_
            refine SOps.skip rfl 12 25 false rfl rfl (.inl (gT g12)) rfl ?_
            refine SOps.q rfl (.guard 4 17 true rfl rfl (gT g11)) rfl (q_pick_t rfl rfl g12 rfl) ?_
            refine SOps.q rfl (.plain rfl) rfl (q_pick_t rfl rfl g11 rfl) ?_
            refine SOps.sub (st' := ⟨[(1, .c (.ptr 0 0)), (31, .c (.bool true))], [.box [.int .i64 a0_p.ID, .int .i64 a0_p.Level, .int .i64 a0_p.Purpose, .int .i64 a0_p.Kind, .int .i64 a0_p.Conn, .str a0_p.Txn, .int .i64 a0_p.Span_From, .int .i64 a0_p.Span_To, .int .i64 a0_p.Start, .int .i64 a0_p.Duration, .vec a0_p.Periods.length 2 (gL cSPeriod dSPeriod a0_p.Periods)]]⟩) (sub_gen [0] rfl rfl ⟨⟨_, rfl, .inl ⟨rfl, rfl⟩⟩, ⟨_, rfl, .inl ⟨rfl, rfl⟩⟩, trivial⟩ ⟨⟨_, rfl, ⟨.inl ⟨rfl, rfl⟩, .inl ⟨rfl, rfl⟩, .inl ⟨rfl, rfl⟩, .inl ⟨rfl, rfl⟩, .inl ⟨rfl, rfl⟩, .inl ⟨rfl, rfl⟩, .inl ⟨rfl, rfl⟩, .inl ⟨rfl, rfl⟩, .inl ⟨rfl, rfl⟩, .inl ⟨rfl, rfl⟩, .inl ⟨rfl, rfl⟩, trivial⟩⟩, trivial⟩) ?_
            refine SOps.nil ?_
            refine SCode.cond_t rfl rfl ?_
            refine SCode.seq ?_
            refine SCode.region (show SOps _ _ _ [0] _ _ from ?_)
            refine SOps.q rfl (.plain rfl) rfl (q_assign rfl rfl) ?_
            refine SOps.sub (st' := ⟨[(2, .c (.bool false))], []⟩) (sub_gen [] rfl rfl ⟨⟨_, rfl, .inl ⟨rfl, rfl⟩⟩, trivial⟩ trivial) ?_
            refine SOps.nil ?_
            refine SCode.ret ?_
            obtain rfl := Option.some.inj h
            exact ⟨⟨[(2, .c (.bool false))], []⟩, _, sub_gen [] rfl rfl ⟨⟨_, rfl, .inl ⟨rfl, rfl⟩⟩, trivial⟩ trivial, resA1 (v := .c (.bool false)) rfl rfl, rfl⟩
          · refine SCode.region (show SOps _ _ _ [0, 1, 2, 3, 4, 5, 6, 7, 8, 9, 10, 11, 12, 13, 14, 15, 16, 17, 18] _ _ from ?_)
            refine SOps.q rfl (.plain rfl) rfl (q_field_ptr rfl rfl fd26_6) ?_
            refine SOps.q rfl (.plain rfl) rfl (q_field_ptr rfl rfl fd23_1) ?_
            refine SOps.q rfl (.plain rfl) rfl (q_load_ptr rfl rfl rfl rfl ty3) ?_
            refine SOps.q rfl (.plain rfl) rfl (q_neq rfl rfl rfl) ?_
            refine SOps.q rfl (.plain rfl) rfl (q_move rfl rfl) ?_
            refine SOps.q rfl (.guard 4 17 true rfl rfl (gT g11)) rfl (q_field_ptr rfl rfl fd26_6) ?_
            refine SOps.q rfl (.guard 4 17 true rfl rfl (gT g11)) rfl (q_field_ptr rfl rfl fd23_1) ?_
            refine SOps.q rfl (.guard 4 17 true rfl rfl (gT g11)) rfl (q_load_ptr rfl rfl rfl rfl ty3) ?_
            refine SOps.q rfl (.guard 4 17 true rfl rfl (gT g11)) rfl (q_field_ptr rfl rfl fd26_6) ?_
            refine SOps.q rfl (.guard 4 17 true rfl rfl (gT g11)) rfl (q_field_ptr rfl rfl fd23_0) ?_
            refine SOps.q rfl (.guard 4 17 true rfl rfl (gT g11)) rfl (q_load_ptr rfl rfl rfl rfl ty3) ?_
            refine SOps.q rfl (.guard 4 17 true rfl rfl (gT g11)) rfl (q_lss rfl rfl rfl) ?_
            refine SOps.q rfl (.guard 4 17 true rfl rfl (gT g11)) rfl (q_move rfl rfl) ?_
            refine SOps.q rfl (.guard 12 25 false rfl rfl (gF g12)) rfl (q_field_ptr rfl rfl fd26_6) ?_
            refine SOps.q rfl (.guard 12 25 false rfl rfl (gF g12)) rfl (q_field_ptr rfl rfl fd23_1) ?_
            refine SOps.q rfl (.guard 12 25 false rfl rfl (gF g12)) rfl (q_load_ptr rfl rfl rfl rfl ty3) ?_
            refine SOps.q rfl (.guard 12 25 false rfl rfl (gF g12)) rfl (q_gtr rfl rfl rfl) ?_
            refine SOps.q rfl (.guard 4 17 true rfl rfl (gT g11)) rfl (q_pick_f rfl rfl g12 rfl) ?_
            refine SOps.q rfl (.plain rfl) rfl (q_pick_t rfl rfl g11 rfl) ?_
            refine SOps.sub (st' := ⟨[(1, .c (.ptr 0 0)), (31, .c (.bool (decide (268435456 < a0_p.Span_To))))], [.box [.int .i64 a0_p.ID, .int .i64 a0_p.Level, .int .i64 a0_p.Purpose, .int .i64 a0_p.Kind, .int .i64 a0_p.Conn, .str a0_p.Txn, .int .i64 a0_p.Span_From, .int .i64 a0_p.Span_To, .int .i64 a0_p.Start, .int .i64 a0_p.Duration, .vec a0_p.Periods.length 2 (gL cSPeriod dSPeriod a0_p.Periods)]]⟩) (sub_gen [0] rfl rfl ⟨⟨_, rfl, .inl ⟨rfl, rfl⟩⟩, ⟨_, rfl, .inl ⟨rfl, rfl⟩⟩, trivial⟩ ⟨⟨_, rfl, ⟨.inl ⟨rfl, rfl⟩, .inl ⟨rfl, rfl⟩, .inl ⟨rfl, rfl⟩, .inl ⟨rfl, rfl⟩, .inl ⟨rfl, rfl⟩, .inl ⟨rfl, rfl⟩, .inl ⟨rfl, rfl⟩, .inl ⟨rfl, rfl⟩, .inl ⟨rfl, rfl⟩, .inl ⟨rfl, rfl⟩, .inl ⟨rfl, rfl⟩, trivial⟩⟩, trivial⟩) ?_
            refine SOps.nil ?_
            rcases cond_out h with ⟨g13, h⟩ | ⟨g13, h⟩
            · refine SCode.cond_t rfl g13 ?_
              refine SCode.seq ?_
              refine SCode.region (show SOps _ _ _ [0] _ _ from ?_)
              refine SOps.q rfl (.plain rfl) rfl (q_assign rfl rfl) ?_
              refine SOps.sub (st' := ⟨[(2, .c (.bool false))], []⟩) (sub_gen [] rfl rfl ⟨⟨_, rfl, .inl ⟨rfl, rfl⟩⟩, trivial⟩ trivial) ?_
              refine SOps.nil ?_
              refine SCode.ret ?_
              obtain rfl := Option.some.inj h
              exact ⟨⟨[(2, .c (.bool false))], []⟩, _, sub_gen [] rfl rfl ⟨⟨_, rfl, .inl ⟨rfl, rfl⟩⟩, trivial⟩ trivial, resA1 (v := .c (.bool false)) rfl rfl, rfl⟩
            · refine SCode.cond_f rfl g13 ?_
              refine SCode.skip ?_
              exact ⟨(), h, sub_gen [0] rfl rfl ⟨⟨_, rfl, .inl ⟨rfl, rfl⟩⟩, trivial⟩ ⟨⟨_, rfl, ⟨.inl ⟨rfl, rfl⟩, .inl ⟨rfl, rfl⟩, .inl ⟨rfl, rfl⟩, .inl ⟨rfl, rfl⟩, .inl ⟨rfl, rfl⟩, .inl ⟨rfl, rfl⟩, .inl ⟨rfl, rfl⟩, .inl ⟨rfl, rfl⟩, .inl ⟨rfl, rfl⟩, .inl ⟨rfl, rfl⟩, .inl ⟨rfl, rfl⟩, trivial⟩⟩, trivial⟩⟩
        · refine SCode.region (show SOps _ _ _ [0, 1, 2, 3, 4, 5, 6, 7, 8, 9, 10, 11, 12, 13, 14, 15, 16, 17, 18] _ _ from ?_)
          refine SOps.q rfl (.plain rfl) rfl (q_field_ptr rfl rfl fd26_6) ?_
          refine SOps.q rfl (.plain rfl) rfl (q_field_ptr rfl rfl fd23_1) ?_
          refine SOps.q rfl (.plain rfl) rfl (q_load_ptr rfl rfl rfl rfl ty3) ?_
          refine SOps.q rfl (.plain rfl) rfl (q_neq rfl rfl rfl) ?_
          refine SOps.q rfl (.plain rfl) rfl (q_move rfl rfl) ?_
          refine SOps.skip rfl 4 17 true rfl rfl (.inl (gF g11)) rfl ?_
          refine SOps.skip rfl 4 17 true rfl rfl (.inl (gF g11)) rfl ?_
          refine SOps.skip rfl 4 17 true rfl rfl (.inl (gF g11)) rfl ?_
          refine SOps.skip rfl 4 17 true rfl rfl (.inl (gF g11)) rfl ?_
          refine SOps.skip rfl 4 17 true rfl rfl (.inl (gF g11)) rfl ?_
          refine SOps.skip rfl 4 17 true rfl rfl (.inl (gF g11)) rfl ?_
          refine SOps.skip rfl 4 17 true rfl rfl (.inl (gF g11)) rfl ?_
          refine SOps.skip rfl 4 17 true rfl rfl (.inl (gF g11)) rfl ?_
          refine SOps.skip rfl 12 25 false rfl rfl (.inr rfl) rfl ?_
          refine SOps.skip rfl 12 25 false rfl rfl (.inr rfl) rfl ?_
          refine SOps.skip rfl 12 25 false rfl rfl (.inr rfl) rfl ?_
          refine SOps.skip rfl 12 25 false rfl rfl (.inr rfl) rfl ?_
          refine SOps.skip rfl 4 17 true rfl rfl (.inl (gF g11)) rfl ?_
          refine SOps.q rfl (.plain rfl) rfl (q_pick_f rfl rfl g11 rfl) ?_
          refine SOps.sub (st' := ⟨[(1, .c (.ptr 0 0)), (31, .c (.bool false))], [.box [.int .i64 a0_p.ID, .int .i64 a0_p.Level, .int .i64 a0_p.Purpose, .int .i64 a0_p.Kind, .int .i64 a0_p.Conn, .str a0_p.Txn, .int .i64 a0_p.Span_From, .int .i64 a0_p.Span_To, .int .i64 a0_p.Start, .int .i64 a0_p.Duration, .vec a0_p.Periods.length 2 (gL cSPeriod dSPeriod a0_p.Periods)]]⟩) (sub_gen [0] rfl rfl ⟨⟨_, rfl, .inl ⟨rfl, rfl⟩⟩, ⟨_, rfl, .inl ⟨rfl, rfl⟩⟩, trivial⟩ ⟨⟨_, rfl, ⟨.inl ⟨rfl, rfl⟩, .inl ⟨rfl, rfl⟩, .inl ⟨rfl, rfl⟩, .inl ⟨rfl, rfl⟩, .inl ⟨rfl, rfl⟩, .inl ⟨rfl, rfl⟩, .inl ⟨rfl, rfl⟩, .inl ⟨rfl, rfl⟩, .inl ⟨rfl, rfl⟩, .inl ⟨rfl, rfl⟩, .inl ⟨rfl, rfl⟩, trivial⟩⟩, trivial⟩) ?_
          refine SOps.nil ?_
          refine SCode.cond_f rfl rfl ?_
          refine SCode.skip ?_
          exact ⟨(), h, sub_gen [0] rfl rfl ⟨⟨_, rfl, .inl ⟨rfl, rfl⟩⟩, trivial⟩ ⟨⟨_, rfl, ⟨.inl ⟨rfl, rfl⟩, .inl ⟨rfl, rfl⟩, .inl ⟨rfl, rfl⟩, .inl ⟨rfl, rfl⟩, .inl ⟨rfl, rfl⟩, .inl ⟨rfl, rfl⟩, .inl ⟨rfl, rfl⟩, .inl ⟨rfl, rfl⟩, .inl ⟨rfl, rfl⟩, .inl ⟨rfl, rfl⟩, .inl ⟨rfl, rfl⟩, trivial⟩⟩, trivial⟩⟩
set_option maxHeartbeats 8000000 in
theorem profile_periods_ok (F : Nat) (a0_p : SProfile) (r : Int) (h : profile_periods F a0_p = some r) :
    SFun Try.prog 30 [] [.a [.int .i64 a0_p.ID, .int .i64 a0_p.Level, .int .i64 a0_p.Purpose, .int .i64 a0_p.Kind, .int .i64 a0_p.Conn, .str a0_p.Txn, .int .i64 a0_p.Span_From, .int .i64 a0_p.Span_To, .int .i64 a0_p.Start, .int .i64 a0_p.Duration, .vec a0_p.Periods.length 2 (gL cSPeriod dSPeriod a0_p.Periods)]] (fun x _ => x = .c (.int .i64 r)) := by
  refine SFun.of (n := 58) Try.func30 rfl rfl rfl ?_
  unfold profile_periods at h
  show SCode _ _ _ ⟨[(0, .a [.int .i64 a0_p.ID, .int .i64 a0_p.Level, .int .i64 a0_p.Purpose, .int .i64 a0_p.Kind, .int .i64 a0_p.Conn, .str a0_p.Txn, .int .i64 a0_p.Span_From, .int .i64 a0_p.Span_To, .int .i64 a0_p.Start, .int .i64 a0_p.Duration, .vec a0_p.Periods.length 2 (gL cSPeriod dSPeriod a0_p.Periods)])], []⟩ _
  refine SCode.seq ?_
  refine SCode.region (show SOps _ _ _ [0, 1] _ _ from ?_)
  refine SOps.e rfl (.plain rfl) (e_box rfl rfl rfl rfl rfl rfl) ?_
  refine SOps.q rfl (.plain rfl) rfl (q_assign rfl rfl) ?_
  refine SOps.sub (st' := ⟨[(1, .c (.ptr 0 0))], [.box [.int .i64 a0_p.ID, .int .i64 a0_p.Level, .int .i64 a0_p.Purpose, .int .i64 a0_p.Kind, .int .i64 a0_p.Conn, .str a0_p.Txn, .int .i64 a0_p.Span_From, .int .i64 a0_p.Span_To, .int .i64 a0_p.Start, .int .i64 a0_p.Duration, .vec a0_p.Periods.length 2 (gL cSPeriod dSPeriod a0_p.Periods)]]⟩) (sub_gen [0] rfl rfl ⟨⟨_, rfl, .inl ⟨rfl, rfl⟩⟩, trivial⟩ ⟨⟨_, rfl, ⟨.inl ⟨rfl, rfl⟩, .inl ⟨rfl, rfl⟩, .inl ⟨rfl, rfl⟩, .inl ⟨rfl, rfl⟩, .inl ⟨rfl, rfl⟩, .inl ⟨rfl, rfl⟩, .inl ⟨rfl, rfl⟩, .inl ⟨rfl, rfl⟩, .inl ⟨rfl, rfl⟩, .inl ⟨rfl, rfl⟩, .inl ⟨rfl, rfl⟩, trivial⟩⟩, trivial⟩) ?_
  refine SOps.nil ?_
  refine SCode.seq ?_
  refine SCode.region (show SOps _ _ _ [0] _ _ from ?_)
  refine SOps.q rfl (.plain rfl) rfl (q_assign rfl rfl) ?_
  refine SOps.sub (st' := ⟨[(1, .c (.ptr 0 0)), (3, .c (.int .i64 268435456))], [.box [.int .i64 a0_p.ID, .int .i64 a0_p.Level, .int .i64 a0_p.Purpose, .int .i64 a0_p.Kind, .int .i64 a0_p.Conn, .str a0_p.Txn, .int .i64 a0_p.Span_From, .int .i64 a0_p.Span_To, .int .i64 a0_p.Start, .int .i64 a0_p.Duration, .vec a0_p.Periods.length 2 (gL cSPeriod dSPeriod a0_p.Periods)]]⟩) (sub_gen [0] rfl rfl ⟨⟨_, rfl, .inl ⟨rfl, rfl⟩⟩, ⟨_, rfl, .inl ⟨rfl, rfl⟩⟩, trivial⟩ ⟨⟨_, rfl, ⟨.inl ⟨rfl, rfl⟩, .inl ⟨rfl, rfl⟩, .inl ⟨rfl, rfl⟩, .inl ⟨rfl, rfl⟩, .inl ⟨rfl, rfl⟩, .inl ⟨rfl, rfl⟩, .inl ⟨rfl, rfl⟩, .inl ⟨rfl, rfl⟩, .inl ⟨rfl, rfl⟩, .inl ⟨rfl, rfl⟩, .inl ⟨rfl, rfl⟩, trivial⟩⟩, trivial⟩) ?_
  refine SOps.nil ?_
  refine SCode.join (σ := Int) (S := fun s => ⟨[(1, .c (.ptr 0 0)), (3, .c (.int .i64 s))], [.box [.int .i64 a0_p.ID, .int .i64 a0_p.Level, .int .i64 a0_p.Purpose, .int .i64 a0_p.Kind, .int .i64 a0_p.Conn, .str a0_p.Txn, .int .i64 a0_p.Span_From, .int .i64 a0_p.Span_To, .int .i64 a0_p.Start, .int .i64 a0_p.Duration, .vec a0_p.Periods.length 2 (gL cSPeriod dSPeriod a0_p.Periods)]]⟩) (g := fun s => profile_periods_p41 F a0_p s = some r) ?_ ?_
  · rintro greatest_1 h
    show SCode _ _ _ ⟨[(1, .c (.ptr 0 0)), (3, .c (.int .i64 greatest_1))], [.box [.int .i64 a0_p.ID, .int .i64 a0_p.Level, .int .i64 a0_p.Purpose, .int .i64 a0_p.Kind, .int .i64 a0_p.Conn, .str a0_p.Txn, .int .i64 a0_p.Span_From, .int .i64 a0_p.Span_To, .int .i64 a0_p.Start, .int .i64 a0_p.Duration, .vec a0_p.Periods.length 2 (gL cSPeriod dSPeriod a0_p.Periods)]]⟩ _
    replace h : profile_periods_p41 F a0_p greatest_1 = some r := h
    unfold profile_periods_p41 at h
    refine SCode.join (σ := Unit) (S := fun s => ⟨[], []⟩) (g := fun s => profile_periods_p2 = some r) ?_ ?_
    · rintro ⟨⟩ h
      show SCode _ _ _ ⟨[], []⟩ _
      replace h : profile_periods_p2 = some r := h
      unfold profile_periods_p2 at h
      refine SCode.seq ?_
      refine SCode.region (show SOps _ _ _ [0] _ _ from ?_)
      refine SOps.q rfl (.plain rfl) rfl (q_assign rfl rfl) ?_
      refine SOps.sub (st' := ⟨[(2, .c (.int .i64 0))], []⟩) (sub_gen [] rfl rfl ⟨⟨_, rfl, .inl ⟨rfl, rfl⟩⟩, trivial⟩ trivial) ?_
      refine SOps.nil ?_
      refine SCode.ret ?_
      obtain rfl := Option.some.inj h
      exact ⟨⟨[(2, .c (.int .i64 0))], []⟩, _, sub_gen [] rfl rfl ⟨⟨_, rfl, .inl ⟨rfl, rfl⟩⟩, trivial⟩ trivial, resA1 (v := .c (.int .i64 0)) rfl rfl, rfl⟩
    · refine SCode.seq ?_
      refine SCode.region (show SOps _ _ _ [0, 1, 2, 3] _ _ from ?_)
      refine SOps.q rfl (.plain rfl) rfl (q_field_ptr rfl rfl fd26_9) ?_
      refine SOps.q rfl (.plain rfl) rfl (q_load_ptr rfl rfl rfl rfl ty24) ?_
      refine SOps.q rfl (.plain rfl) rfl (q_len_vec rfl rfl sl24) ?_
      refine SOps.q rfl (.plain rfl) rfl (q_move rfl rfl) ?_
      refine SOps.sub (st' := ⟨[(1, .c (.ptr 0 0)), (3, .c (.int .i64 greatest_1)), (15, .c (.vec a0_p.Periods.length 2 (gL cSPeriod dSPeriod a0_p.Periods))), (16, .c (.int .i64 (((a0_p.Periods).length : Int)))), (17, .c (.int .i64 0))], [.box [.int .i64 a0_p.ID, .int .i64 a0_p.Level, .int .i64 a0_p.Purpose, .int .i64 a0_p.Kind, .int .i64 a0_p.Conn, .str a0_p.Txn, .int .i64 a0_p.Span_From, .int .i64 a0_p.Span_To, .int .i64 a0_p.Start, .int .i64 a0_p.Duration, .vec a0_p.Periods.length 2 (gL cSPeriod dSPeriod a0_p.Periods)]]⟩) (sub_gen [0] rfl rfl ⟨⟨_, rfl, .inl ⟨rfl, rfl⟩⟩, ⟨_, rfl, .inl ⟨rfl, rfl⟩⟩, ⟨_, rfl, .inl ⟨rfl, rfl⟩⟩, ⟨_, rfl, .inl ⟨rfl, rfl⟩⟩, ⟨_, rfl, .inl ⟨rfl, rfl⟩⟩, trivial⟩ ⟨⟨_, rfl, ⟨.inl ⟨rfl, rfl⟩, .inl ⟨rfl, rfl⟩, .inl ⟨rfl, rfl⟩, .inl ⟨rfl, rfl⟩, .inl ⟨rfl, rfl⟩, .inl ⟨rfl, rfl⟩, .inl ⟨rfl, rfl⟩, .inl ⟨rfl, rfl⟩, .inl ⟨rfl, rfl⟩, .inl ⟨rfl, rfl⟩, .inl ⟨rfl, rfl⟩, trivial⟩⟩, trivial⟩) ?_
      refine SOps.nil ?_
      refine SCode.block ?_
      refine SCode.sub (st' := ⟨[(1, .c (.ptr 0 0)), (3, .c (.int .i64 greatest_1)), (15, .c (.vec a0_p.Periods.length 2 (gL cSPeriod dSPeriod a0_p.Periods))), (16, .c (.int .i64 (((a0_p.Periods).length : Int)))), (17, .c (.int .i64 0))], [.box [.int .i64 a0_p.ID, .int .i64 a0_p.Level, .int .i64 a0_p.Purpose, .int .i64 a0_p.Kind, .int .i64 a0_p.Conn, .str a0_p.Txn, .int .i64 a0_p.Span_From, .int .i64 a0_p.Span_To, .int .i64 a0_p.Start, .int .i64 a0_p.Duration, .vec a0_p.Periods.length 2 (gL cSPeriod dSPeriod a0_p.Periods)]]⟩) (sub_gen [0] rfl rfl ⟨⟨_, rfl, .inl ⟨rfl, rfl⟩⟩, ⟨_, rfl, .inl ⟨rfl, rfl⟩⟩, ⟨_, rfl, .inl ⟨rfl, rfl⟩⟩, ⟨_, rfl, .inl ⟨rfl, rfl⟩⟩, ⟨_, rfl, .inl ⟨rfl, rfl⟩⟩, trivial⟩ ⟨⟨_, rfl, ⟨.inl ⟨rfl, rfl⟩, .inl ⟨rfl, rfl⟩, .inl ⟨rfl, rfl⟩, .inl ⟨rfl, rfl⟩, .inl ⟨rfl, rfl⟩, .inl ⟨rfl, rfl⟩, .inl ⟨rfl, rfl⟩, .inl ⟨rfl, rfl⟩, .inl ⟨rfl, rfl⟩, .inl ⟨rfl, rfl⟩, .inl ⟨rfl, rfl⟩, trivial⟩⟩, trivial⟩) ?_
      refine (SCode.loop (σ := Nat × Int) (S := fun s => ⟨[(1, .c (.ptr 0 0)), (3, .c (.int .i64 greatest_1)), (15, .c (.vec a0_p.Periods.length 2 (gL cSPeriod dSPeriod a0_p.Periods))), (16, .c (.int .i64 (((a0_p.Periods).length : Int)))), (17, .c (.int .i64 s.2))], [.box [.int .i64 a0_p.ID, .int .i64 a0_p.Level, .int .i64 a0_p.Purpose, .int .i64 a0_p.Kind, .int .i64 a0_p.Conn, .str a0_p.Txn, .int .i64 a0_p.Span_From, .int .i64 a0_p.Span_To, .int .i64 a0_p.Start, .int .i64 a0_p.Duration, .vec a0_p.Periods.length 2 (gL cSPeriod dSPeriod a0_p.Periods)]]⟩) (g := fun s => profile_periods_l28 a0_p greatest_1 s.1 s.2 = some r) (μ := fun s => s.1) (F, 0) h ?_)
      rintro ⟨n_28, t17_15⟩ h
      replace h : profile_periods_l28 a0_p greatest_1 n_28 t17_15 = some r := h
      show SCode _ _ _ ⟨[(1, .c (.ptr 0 0)), (3, .c (.int .i64 greatest_1)), (15, .c (.vec a0_p.Periods.length 2 (gL cSPeriod dSPeriod a0_p.Periods))), (16, .c (.int .i64 (((a0_p.Periods).length : Int)))), (17, .c (.int .i64 t17_15))], [.box [.int .i64 a0_p.ID, .int .i64 a0_p.Level, .int .i64 a0_p.Purpose, .int .i64 a0_p.Kind, .int .i64 a0_p.Conn, .str a0_p.Txn, .int .i64 a0_p.Span_From, .int .i64 a0_p.Span_To, .int .i64 a0_p.Start, .int .i64 a0_p.Duration, .vec a0_p.Periods.length 2 (gL cSPeriod dSPeriod a0_p.Periods)]]⟩ _
      cases n_28 with
      | zero => cases h
      | succ n_28 =>
        replace h : profile_periods_b28 a0_p greatest_1 (fun t17_15 => profile_periods_l28 a0_p greatest_1 n_28 t17_15) t17_15 = some r := h
        unfold profile_periods_b28 at h
        refine SCode.seq ?_
        refine SCode.region (show SOps _ _ _ [0] _ _ from ?_)
        refine SOps.q rfl (.plain rfl) rfl (q_lss rfl rfl rfl) ?_
        refine SOps.sub (st' := ⟨[(1, .c (.ptr 0 0)), (3, .c (.int .i64 greatest_1)), (15, .c (.vec a0_p.Periods.length 2 (gL cSPeriod dSPeriod a0_p.Periods))), (16, .c (.int .i64 (((a0_p.Periods).length : Int)))), (17, .c (.int .i64 t17_15)), (18, .c (.bool (decide (t17_15 < ((a0_p.Periods).length : Int)))))], [.box [.int .i64 a0_p.ID, .int .i64 a0_p.Level, .int .i64 a0_p.Purpose, .int .i64 a0_p.Kind, .int .i64 a0_p.Conn, .str a0_p.Txn, .int .i64 a0_p.Span_From, .int .i64 a0_p.Span_To, .int .i64 a0_p.Start, .int .i64 a0_p.Duration, .vec a0_p.Periods.length 2 (gL cSPeriod dSPeriod a0_p.Periods)]]⟩) (sub_gen [0] rfl rfl ⟨⟨_, rfl, .inl ⟨rfl, rfl⟩⟩, ⟨_, rfl, .inl ⟨rfl, rfl⟩⟩, ⟨_, rfl, .inl ⟨rfl, rfl⟩⟩, ⟨_, rfl, .inl ⟨rfl, rfl⟩⟩, ⟨_, rfl, .inl ⟨rfl, rfl⟩⟩, ⟨_, rfl, .inl ⟨rfl, rfl⟩⟩, trivial⟩ ⟨⟨_, rfl, ⟨.inl ⟨rfl, rfl⟩, .inl ⟨rfl, rfl⟩, .inl ⟨rfl, rfl⟩, .inl ⟨rfl, rfl⟩, .inl ⟨rfl, rfl⟩, .inl ⟨rfl, rfl⟩, .inl ⟨rfl, rfl⟩, .inl ⟨rfl, rfl⟩, .inl ⟨rfl, rfl⟩, .inl ⟨rfl, rfl⟩, .inl ⟨rfl, rfl⟩, trivial⟩⟩, trivial⟩) ?_
        refine SOps.nil ?_
        refine SCode.seq ?_
        rcases cond_out h with ⟨g29, h⟩ | ⟨g29, h⟩
        · refine SCode.cond_t rfl g29 ?_
          refine SCode.skip ?_
          refine SCode.seq ?_
          refine SCode.block ?_
          refine SCode.seq ?_
          obtain ⟨g30, h⟩ := guard_out h
          refine SCode.region (show SOps _ _ _ [0, 1, 2, 3, 4, 5] _ _ from ?_)
          refine SOps.q rfl (.plain rfl) rfl (q_move rfl rfl) ?_
          refine SOps.q rfl (.plain rfl) rfl (q_index_vec rfl rfl rfl sl24 rfl g30.1 g30.2) ?_
          refine SOps.q rfl (.plain rfl) rfl (q_load_eptr_all rfl rfl rfl ty47) ?_
          refine SOps.e rfl (.plain rfl) (e_alloc rfl rfl rfl z47) ?_
          refine SOps.q rfl (.plain rfl) rfl (q_assign rfl rfl) ?_
          refine SOps.e rfl (.plain rfl) (e_store_box rfl rfl rfl rfl rfl ty47 rfl rfl rfl rfl) ?_
          refine SOps.sub (st' := ⟨[(1, .c (.ptr 0 0)), (3, .c (.int .i64 greatest_1)), (5, .c (.int .i64 t17_15)), (6, .c (.ptr 1 0)), (15, .c (.vec a0_p.Periods.length 2 (gL cSPeriod dSPeriod a0_p.Periods))), (16, .c (.int .i64 (((a0_p.Periods).length : Int)))), (17, .c (.int .i64 t17_15))], [.box [.int .i64 a0_p.ID, .int .i64 a0_p.Level, .int .i64 a0_p.Purpose, .int .i64 a0_p.Kind, .int .i64 a0_p.Conn, .str a0_p.Txn, .int .i64 a0_p.Span_From, .int .i64 a0_p.Span_To, .int .i64 a0_p.Start, .int .i64 a0_p.Duration, .vec a0_p.Periods.length 2 (gL cSPeriod dSPeriod a0_p.Periods)], .box [.int .i64 ((a0_p.Periods.getD t17_15.toNat dSPeriod).At), .int .i64 ((a0_p.Periods.getD t17_15.toNat dSPeriod).Limit)]]⟩) (sub_gen [0, 1] rfl rfl ⟨⟨_, rfl, .inl ⟨rfl, rfl⟩⟩, ⟨_, rfl, .inl ⟨rfl, rfl⟩⟩, ⟨_, rfl, .inl ⟨rfl, rfl⟩⟩, ⟨_, rfl, .inl ⟨rfl, rfl⟩⟩, ⟨_, rfl, .inl ⟨rfl, rfl⟩⟩, ⟨_, rfl, .inl ⟨rfl, rfl⟩⟩, ⟨_, rfl, .inl ⟨rfl, rfl⟩⟩, trivial⟩ ⟨⟨_, rfl, ⟨.inl ⟨rfl, rfl⟩, .inl ⟨rfl, rfl⟩, .inl ⟨rfl, rfl⟩, .inl ⟨rfl, rfl⟩, .inl ⟨rfl, rfl⟩, .inl ⟨rfl, rfl⟩, .inl ⟨rfl, rfl⟩, .inl ⟨rfl, rfl⟩, .inl ⟨rfl, rfl⟩, .inl ⟨rfl, rfl⟩, .inl ⟨rfl, rfl⟩, trivial⟩⟩, ⟨_, rfl, ⟨.inl ⟨rfl, rfl⟩, .inl ⟨rfl, rfl⟩, trivial⟩⟩, trivial⟩) ?_
          refine SOps.nil ?_
          refine SCode.join (σ := Unit) (S := fun s => ⟨[(1, .c (.ptr 0 0)), (3, .c (.int .i64 greatest_1)), (5, .c (.int .i64 t17_15)), (6, .c (.ptr 1 0)), (15, .c (.vec a0_p.Periods.length 2 (gL cSPeriod dSPeriod a0_p.Periods))), (16, .c (.int .i64 (((a0_p.Periods).length : Int)))), (17, .c (.int .i64 t17_15))], [.box [.int .i64 a0_p.ID, .int .i64 a0_p.Level, .int .i64 a0_p.Purpose, .int .i64 a0_p.Kind, .int .i64 a0_p.Conn, .str a0_p.Txn, .int .i64 a0_p.Span_From, .int .i64 a0_p.Span_To, .int .i64 a0_p.Start, .int .i64 a0_p.Duration, .vec a0_p.Periods.length 2 (gL cSPeriod dSPeriod a0_p.Periods)], .box [.int .i64 ((a0_p.Periods.getD t17_15.toNat dSPeriod).At), .int .i64 ((a0_p.Periods.getD t17_15.toNat dSPeriod).Limit)]]⟩) (g := fun s => profile_periods_p38 a0_p greatest_1 t17_15 (fun t17_15 => profile_periods_l28 a0_p greatest_1 n_28 t17_15) = some r) ?_ ?_
          · rintro ⟨⟩ h
            show SCode _ _ _ ⟨[(1, .c (.ptr 0 0)), (3, .c (.int .i64 greatest_1)), (5, .c (.int .i64 t17_15)), (6, .c (.ptr 1 0)), (15, .c (.vec a0_p.Periods.length 2 (gL cSPeriod dSPeriod a0_p.Periods))), (16, .c (.int .i64 (((a0_p.Periods).length : Int)))), (17, .c (.int .i64 t17_15))], [.box [.int .i64 a0_p.ID, .int .i64 a0_p.Level, .int .i64 a0_p.Purpose, .int .i64 a0_p.Kind, .int .i64 a0_p.Conn, .str a0_p.Txn, .int .i64 a0_p.Span_From, .int .i64 a0_p.Span_To, .int .i64 a0_p.Start, .int .i64 a0_p.Duration, .vec a0_p.Periods.length 2 (gL cSPeriod dSPeriod a0_p.Periods)], .box [.int .i64 ((a0_p.Periods.getD t17_15.toNat dSPeriod).At), .int .i64 ((a0_p.Periods.getD t17_15.toNat dSPeriod).Limit)]]⟩ _
            replace h : profile_periods_p38 a0_p greatest_1 t17_15 (fun t17_15 => profile_periods_l28 a0_p greatest_1 n_28 t17_15) = some r := h
            unfold profile_periods_p38 at h
            refine SCode.join (σ := Unit) (S := fun s => ⟨[(1, .c (.ptr 0 0)), (3, .c (.int .i64 greatest_1)), (6, .c (.ptr 1 0)), (15, .c (.vec a0_p.Periods.length 2 (gL cSPeriod dSPeriod a0_p.Periods))), (16, .c (.int .i64 (((a0_p.Periods).length : Int)))), (17, .c (.int .i64 t17_15))], [.box [.int .i64 a0_p.ID, .int .i64 a0_p.Level, .int .i64 a0_p.Purpose, .int .i64 a0_p.Kind, .int .i64 a0_p.Conn, .str a0_p.Txn, .int .i64 a0_p.Span_From, .int .i64 a0_p.Span_To, .int .i64 a0_p.Start, .int .i64 a0_p.Duration, .vec a0_p.Periods.length 2 (gL cSPeriod dSPeriod a0_p.Periods)], .box [.int .i64 ((a0_p.Periods.getD t17_15.toNat dSPeriod).At), .int .i64 ((a0_p.Periods.getD t17_15.toNat dSPeriod).Limit)]]⟩) (g := fun s => profile_periods_p33 a0_p t17_15 (fun t17_15 => profile_periods_l28 a0_p greatest_1 n_28 t17_15) = some r) ?_ ?_
            · rintro ⟨⟩ h
              show SCode _ _ _ ⟨[(1, .c (.ptr 0 0)), (3, .c (.int .i64 greatest_1)), (6, .c (.ptr 1 0)), (15, .c (.vec a0_p.Periods.length 2 (gL cSPeriod dSPeriod a0_p.Periods))), (16, .c (.int .i64 (((a0_p.Periods).length : Int)))), (17, .c (.int .i64 t17_15))], [.box [.int .i64 a0_p.ID, .int .i64 a0_p.Level, .int .i64 a0_p.Purpose, .int .i64 a0_p.Kind, .int .i64 a0_p.Conn, .str a0_p.Txn, .int .i64 a0_p.Span_From, .int .i64 a0_p.Span_To, .int .i64 a0_p.Start, .int .i64 a0_p.Duration, .vec a0_p.Periods.length 2 (gL cSPeriod dSPeriod a0_p.Periods)], .box [.int .i64 ((a0_p.Periods.getD t17_15.toNat dSPeriod).At), .int .i64 ((a0_p.Periods.getD t17_15.toNat dSPeriod).Limit)]]⟩ _
              replace h : profile_periods_p33 a0_p t17_15 (fun t17_15 => profile_periods_l28 a0_p greatest_1 n_28 t17_15) = some r := h
              unfold profile_periods_p33 at h
              refine SCode.seq ?_
              rcases cond_out h with ⟨g31, h⟩ | ⟨g31, h⟩
              · refine SCode.region (show SOps _ _ _ [0, 1, 2, 3, 4, 5, 6, 7] _ _ from ?_)
                refine SOps.q rfl (.plain rfl) rfl (q_field_ptr rfl rfl fd47_1) ?_
                refine SOps.q rfl (.plain rfl) rfl (q_load_ptr rfl rfl rfl rfl ty3) ?_
                refine SOps.q rfl (.plain rfl) rfl (q_lss rfl rfl rfl) ?_
                refine SOps.q rfl (.plain rfl) rfl (q_move rfl rfl) ?_
                refine SOps.skip rfl 3 52 false rfl rfl (.inl (gT g31)) rfl ?_
                refine SOps.skip rfl 3 52 false rfl rfl (.inl (gT g31)) rfl ?_
                refine SOps.skip rfl 3 52 false rfl rfl (.inl (gT g31)) rfl ?_
                refine SOps.q rfl (.plain rfl) rfl (q_pick_t rfl rfl g31 rfl) ?_
                refine SOps.sub (st' := ⟨[(1, .c (.ptr 0 0)), (3, .c (.int .i64 greatest_1)), (15, .c (.vec a0_p.Periods.length 2 (gL cSPeriod dSPeriod a0_p.Periods))), (16, .c (.int .i64 (((a0_p.Periods).length : Int)))), (17, .c (.int .i64 t17_15)), (56, .c (.bool true))], [.box [.int .i64 a0_p.ID, .int .i64 a0_p.Level, .int .i64 a0_p.Purpose, .int .i64 a0_p.Kind, .int .i64 a0_p.Conn, .str a0_p.Txn, .int .i64 a0_p.Span_From, .int .i64 a0_p.Span_To, .int .i64 a0_p.Start, .int .i64 a0_p.Duration, .vec a0_p.Periods.length 2 (gL cSPeriod dSPeriod a0_p.Periods)]]⟩) (sub_gen [0] rfl rfl ⟨⟨_, rfl, .inl ⟨rfl, rfl⟩⟩, ⟨_, rfl, .inl ⟨rfl, rfl⟩⟩, ⟨_, rfl, .inl ⟨rfl, rfl⟩⟩, ⟨_, rfl, .inl ⟨rfl, rfl⟩⟩, ⟨_, rfl, .inl ⟨rfl, rfl⟩⟩, ⟨_, rfl, .inl ⟨rfl, rfl⟩⟩, trivial⟩ ⟨⟨_, rfl, ⟨.inl ⟨rfl, rfl⟩, .inl ⟨rfl, rfl⟩, .inl ⟨rfl, rfl⟩, .inl ⟨rfl, rfl⟩, .inl ⟨rfl, rfl⟩, .inl ⟨rfl, rfl⟩, .inl ⟨rfl, rfl⟩, .inl ⟨rfl, rfl⟩, .inl ⟨rfl, rfl⟩, .inl ⟨rfl, rfl⟩, .inl ⟨rfl, rfl⟩, trivial⟩⟩, trivial⟩) ?_
                refine SOps.nil ?_
                refine SCode.cond_t rfl rfl ?_
                refine SCode.seq ?_
                refine SCode.region (show SOps _ _ _ [0] _ _ from ?_)
                refine SOps.q rfl (.plain rfl) rfl (q_assign rfl rfl) ?_
                refine SOps.sub (st' := ⟨[(2, .c (.int .i64 2))], []⟩) (sub_gen [] rfl rfl ⟨⟨_, rfl, .inl ⟨rfl, rfl⟩⟩, trivial⟩ trivial) ?_
                refine SOps.nil ?_
                refine SCode.ret ?_
                obtain rfl := Option.some.inj h
                exact ⟨⟨[(2, .c (.int .i64 2))], []⟩, _, sub_gen [] rfl rfl ⟨⟨_, rfl, .inl ⟨rfl, rfl⟩⟩, trivial⟩ trivial, resA1 (v := .c (.int .i64 2)) rfl rfl, rfl⟩
              · refine SCode.region (show SOps _ _ _ [0, 1, 2, 3, 4, 5, 6, 7] _ _ from ?_)
                refine SOps.q rfl (.plain rfl) rfl (q_field_ptr rfl rfl fd47_1) ?_
                refine SOps.q rfl (.plain rfl) rfl (q_load_ptr rfl rfl rfl rfl ty3) ?_
                refine SOps.q rfl (.plain rfl) rfl (q_lss rfl rfl rfl) ?_
                refine SOps.q rfl (.plain rfl) rfl (q_move rfl rfl) ?_
                refine SOps.q rfl (.guard 3 52 false rfl rfl (gF g31)) rfl (q_field_ptr rfl rfl fd47_1) ?_
                refine SOps.q rfl (.guard 3 52 false rfl rfl (gF g31)) rfl (q_load_ptr rfl rfl rfl rfl ty3) ?_
                refine SOps.q rfl (.guard 3 52 false rfl rfl (gF g31)) rfl (q_gtr rfl rfl rfl) ?_
                refine SOps.q rfl (.plain rfl) rfl (q_pick_f rfl rfl g31 rfl) ?_
                refine SOps.sub (st' := ⟨[(1, .c (.ptr 0 0)), (3, .c (.int .i64 greatest_1)), (15, .c (.vec a0_p.Periods.length 2 (gL cSPeriod dSPeriod a0_p.Periods))), (16, .c (.int .i64 (((a0_p.Periods).length : Int)))), (17, .c (.int .i64 t17_15)), (56, .c (.bool (decide (1048576 < (a0_p.Periods.getD t17_15.toNat dSPeriod).Limit))))], [.box [.int .i64 a0_p.ID, .int .i64 a0_p.Level, .int .i64 a0_p.Purpose, .int .i64 a0_p.Kind, .int .i64 a0_p.Conn, .str a0_p.Txn, .int .i64 a0_p.Span_From, .int .i64 a0_p.Span_To, .int .i64 a0_p.Start, .int .i64 a0_p.Duration, .vec a0_p.Periods.length 2 (gL cSPeriod dSPeriod a0_p.Periods)]]⟩) (sub_gen [0] rfl rfl ⟨⟨_, rfl, .inl ⟨rfl, rfl⟩⟩, ⟨_, rfl, .inl ⟨rfl, rfl⟩⟩, ⟨_, rfl, .inl ⟨rfl, rfl⟩⟩, ⟨_, rfl, .inl ⟨rfl, rfl⟩⟩, ⟨_, rfl, .inl ⟨rfl, rfl⟩⟩, ⟨_, rfl, .inl ⟨rfl, rfl⟩⟩, trivial⟩ ⟨⟨_, rfl, ⟨.inl ⟨rfl, rfl⟩, .inl ⟨rfl, rfl⟩, .inl ⟨rfl, rfl⟩, .inl ⟨rfl, rfl⟩, .inl ⟨rfl, rfl⟩, .inl ⟨rfl, rfl⟩, .inl ⟨rfl, rfl⟩, .inl ⟨rfl, rfl⟩, .inl ⟨rfl, rfl⟩, .inl ⟨rfl, rfl⟩, .inl ⟨rfl, rfl⟩, trivial⟩⟩, trivial⟩) ?_
                refine SOps.nil ?_
                rcases cond_out h with ⟨g32, h⟩ | ⟨g32, h⟩
                · refine SCode.cond_t rfl g32 ?_
                  refine SCode.seq ?_
                  refine SCode.region (show SOps _ _ _ [0] _ _ from ?_)
                  refine SOps.q rfl (.plain rfl) rfl (q_assign rfl rfl) ?_
                  refine SOps.sub (st' := ⟨[(2, .c (.int .i64 2))], []⟩) (sub_gen [] rfl rfl ⟨⟨_, rfl, .inl ⟨rfl, rfl⟩⟩, trivial⟩ trivial) ?_
                  refine SOps.nil ?_
                  refine SCode.ret ?_
                  obtain rfl := Option.some.inj h
                  exact ⟨⟨[(2, .c (.int .i64 2))], []⟩, _, sub_gen [] rfl rfl ⟨⟨_, rfl, .inl ⟨rfl, rfl⟩⟩, trivial⟩ trivial, resA1 (v := .c (.int .i64 2)) rfl rfl, rfl⟩
                · refine SCode.cond_f rfl g32 ?_
                  refine SCode.skip ?_
                  refine SCode.region (show SOps _ _ _ [0, 1] _ _ from ?_)
                  refine SOps.q rfl (.plain rfl) rfl (q_add rfl rfl rfl) ?_
                  refine SOps.q rfl (.plain rfl) rfl (q_move rfl rfl) ?_
                  refine SOps.sub (st' := ⟨[(1, .c (.ptr 0 0)), (3, .c (.int .i64 greatest_1)), (15, .c (.vec a0_p.Periods.length 2 (gL cSPeriod dSPeriod a0_p.Periods))), (16, .c (.int .i64 (((a0_p.Periods).length : Int)))), (17, .c (.int .i64 (IntKind.wrap .i64 (t17_15 + 1))))], [.box [.int .i64 a0_p.ID, .int .i64 a0_p.Level, .int .i64 a0_p.Purpose, .int .i64 a0_p.Kind, .int .i64 a0_p.Conn, .str a0_p.Txn, .int .i64 a0_p.Span_From, .int .i64 a0_p.Span_To, .int .i64 a0_p.Start, .int .i64 a0_p.Duration, .vec a0_p.Periods.length 2 (gL cSPeriod dSPeriod a0_p.Periods)]]⟩) (sub_gen [0] rfl rfl ⟨⟨_, rfl, .inl ⟨rfl, rfl⟩⟩, ⟨_, rfl, .inl ⟨rfl, rfl⟩⟩, ⟨_, rfl, .inl ⟨rfl, rfl⟩⟩, ⟨_, rfl, .inl ⟨rfl, rfl⟩⟩, ⟨_, rfl, .inl ⟨rfl, rfl⟩⟩, trivial⟩ ⟨⟨_, rfl, ⟨.inl ⟨rfl, rfl⟩, .inl ⟨rfl, rfl⟩, .inl ⟨rfl, rfl⟩, .inl ⟨rfl, rfl⟩, .inl ⟨rfl, rfl⟩, .inl ⟨rfl, rfl⟩, .inl ⟨rfl, rfl⟩, .inl ⟨rfl, rfl⟩, .inl ⟨rfl, rfl⟩, .inl ⟨rfl, rfl⟩, .inl ⟨rfl, rfl⟩, trivial⟩⟩, trivial⟩) ?_
                  refine SOps.nil ?_
                  exact ⟨(n_28, IntKind.wrap .i64 (t17_15 + 1)), h, Nat.lt_succ_self n_28, sub_gen [0] rfl rfl ⟨⟨_, rfl, .inl ⟨rfl, rfl⟩⟩, ⟨_, rfl, .inl ⟨rfl, rfl⟩⟩, ⟨_, rfl, .inl ⟨rfl, rfl⟩⟩, ⟨_, rfl, .inl ⟨rfl, rfl⟩⟩, ⟨_, rfl, .inl ⟨rfl, rfl⟩⟩, trivial⟩ ⟨⟨_, rfl, ⟨.inl ⟨rfl, rfl⟩, .inl ⟨rfl, rfl⟩, .inl ⟨rfl, rfl⟩, .inl ⟨rfl, rfl⟩, .inl ⟨rfl, rfl⟩, .inl ⟨rfl, rfl⟩, .inl ⟨rfl, rfl⟩, .inl ⟨rfl, rfl⟩, .inl ⟨rfl, rfl⟩, .inl ⟨rfl, rfl⟩, .inl ⟨rfl, rfl⟩, trivial⟩⟩, trivial⟩⟩
            · refine SCode.seq ?_
              rcases cond_out h with ⟨g34, h⟩ | ⟨g34, h⟩
              · obtain ⟨g35, h⟩ := guard_out h
                rcases cond_out h with ⟨g36, h⟩ | ⟨g36, h⟩
                · refine SCode.draw (s' := [(48, .c (.bool true)), (47, .c (.bool true)), (46, .c (.raw (.tuple #[]))), (45, .c (.raw (.tuple #[]))), (44, .c (.raw (.tuple #[]))), (43, .c (.raw (.tuple #[]))), (42, .c (.bool (decide ((a0_p.Periods.getD t17_15.toNat dSPeriod).At ≤ (a0_p.Periods.getD (IntKind.wrap .i64 (t17_15 - 1)).toNat dSPeriod).At)))), (41, .c (.bool (decide ((a0_p.Periods.getD t17_15.toNat dSPeriod).At ≤ (a0_p.Periods.getD (IntKind.wrap .i64 (t17_15 - 1)).toNat dSPeriod).At)))), (40, .c (.int .i64 ((a0_p.Periods.getD (IntKind.wrap .i64 (t17_15 - 1)).toNat dSPeriod).At))), (39, .c (.eptr 2 (cSPeriod (a0_p.Periods.getD (IntKind.wrap .i64 (t17_15 - 1)).toNat dSPeriod)) 0)), (38, .c (.eptr 2 (cSPeriod (a0_p.Periods.getD (IntKind.wrap .i64 (t17_15 - 1)).toNat dSPeriod)) 0)), (37, .c (.int .i64 (IntKind.wrap .i64 (t17_15 - 1)))), (36, .c (.int .i64 t17_15)), (35, .c (.vec a0_p.Periods.length 2 (gL cSPeriod dSPeriod a0_p.Periods))), (34, .c (.ptr 0 10)), (33, .c (.int .i64 ((a0_p.Periods.getD t17_15.toNat dSPeriod).At))), (32, .c (.ptr 1 0)), (31, .c (.bool (decide (0 < t17_15)))), (30, .c (.bool (decide (0 < t17_15)))), (29, .c (.int .i64 t17_15)), (1, .c (.ptr 0 0)), (3, .c (.int .i64 greatest_1)), (5, .c (.int .i64 t17_15)), (6, .c (.ptr 1 0)), (15, .c (.vec a0_p.Periods.length 2 (gL cSPeriod dSPeriod a0_p.Periods))), (16, .c (.int .i64 (((a0_p.Periods).length : Int)))), (17, .c (.int .i64 t17_15))]) mixed [[], [0], [0, 1], [0, 1, 2], [0, 1, 2, 3], [0, 1, 2], [0, 1, 2, 5], [0, 1, 2], [0, 1, 2, 7], [0, 1, 2, 5, 6, 7, 8], [0, 1, 2, 5, 6, 7, 8, 9], [0, 1, 2, 5, 6, 7, 8, 9, 10], [0, 1, 2, 3, 4, 5, 6, 7, 8, 9, 10, 11], [0, 1, 2, 3, 4, 5, 6, 7, 8, 9, 10, 11, 12], [0, 1, 2, 3, 4, 5, 6, 7, 8, 9, 10, 11, 12, 13], [0, 1, 2, 3, 4, 5, 6, 7, 8, 9, 10, 11, 12, 13, 14], [0, 1, 2, 3, 4, 5, 6, 7, 8, 9, 10, 11, 12, 13], [0, 1, 2, 3, 4, 5, 6, 7, 8, 9, 10, 11, 12, 13, 14, 15, 16], [0, 1, 2, 3, 4, 5, 6, 7, 8, 9, 10, 11, 12, 13, 14, 15, 16, 17], [0, 1, 2, 3, 4, 5, 6, 7, 8, 9, 10, 11, 12, 13, 14, 15, 16, 17, 18]] 20 0 rfl rfl ?_ ?_
                  · refine QChain.run rfl (.plain rfl) rfl (q_move rfl rfl) ?_
                    refine QChain.run rfl (.plain rfl) rfl (q_gtr rfl rfl rfl) ?_
                    refine QChain.run rfl (.plain rfl) rfl (q_move rfl rfl) ?_
                    refine QChain.run rfl (.guard 2 31 true rfl rfl (gT g34)) rfl (q_field_ptr rfl rfl fd47_0) ?_
                    refine QChain.run rfl (.guard 2 31 true rfl rfl (gT g34)) rfl (q_load_ptr rfl rfl rfl rfl ty3) ?_
                    refine QChain.run rfl (.guard 2 31 true rfl rfl (gT g34)) rfl (q_field_ptr rfl rfl fd26_9) ?_
                    refine QChain.run rfl (.guard 2 31 true rfl rfl (gT g34)) rfl (q_load_ptr rfl rfl rfl rfl ty24) ?_
                    refine QChain.run rfl (.guard 2 31 true rfl rfl (gT g34)) rfl (q_move rfl rfl) ?_
                    refine QChain.run rfl (.guard 2 31 true rfl rfl (gT g34)) rfl (q_sub rfl rfl rfl) ?_
                    refine QChain.run rfl (.guard 2 31 true rfl rfl (gT g34)) rfl (q_index_vec rfl rfl rfl sl24 rfl g35.1 g35.2) ?_
                    refine QChain.run rfl (.guard 2 31 true rfl rfl (gT g34)) rfl (q_field_eptr rfl rfl fd47_0 rfl) ?_
                    refine QChain.run rfl (.guard 2 31 true rfl rfl (gT g34)) rfl (q_load_eptr rfl rfl ty3) ?_
                    refine QChain.run rfl (.guard 2 31 true rfl rfl (gT g34)) rfl (q_leq rfl rfl rfl) ?_
                    refine QChain.run rfl (.guard 2 31 true rfl rfl (gT g34)) rfl (q_move rfl rfl) ?_
                    refine QChain.skip rfl ⟨13, 42, false, rfl, rfl, (.inl (gT g36))⟩ rfl ?_
                    refine QChain.skip rfl ⟨13, 42, false, rfl, rfl, (.inl (gT g36))⟩ rfl ?_
                    refine QChain.skip rfl ⟨13, 42, false, rfl, rfl, (.inl (gT g36))⟩ rfl ?_
                    refine QChain.skip rfl ⟨13, 42, false, rfl, rfl, (.inl (gT g36))⟩ rfl ?_
                    refine QChain.run rfl (.guard 2 31 true rfl rfl (gT g34)) rfl (q_pick_t rfl rfl g36 rfl) ?_
                    refine QChain.run rfl (.plain rfl) rfl (q_pick_t rfl rfl g34 rfl) ?_
                    exact QChain.nil _ _
                  refine (show SOps _ _ _ [] _ _ from ?_)
                  refine SOps.sub (st' := ⟨[(1, .c (.ptr 0 0)), (3, .c (.int .i64 greatest_1)), (6, .c (.ptr 1 0)), (15, .c (.vec a0_p.Periods.length 2 (gL cSPeriod dSPeriod a0_p.Periods))), (16, .c (.int .i64 (((a0_p.Periods).length : Int)))), (17, .c (.int .i64 t17_15)), (48, .c (.bool true))], [.box [.int .i64 a0_p.ID, .int .i64 a0_p.Level, .int .i64 a0_p.Purpose, .int .i64 a0_p.Kind, .int .i64 a0_p.Conn, .str a0_p.Txn, .int .i64 a0_p.Span_From, .int .i64 a0_p.Span_To, .int .i64 a0_p.Start, .int .i64 a0_p.Duration, .vec a0_p.Periods.length 2 (gL cSPeriod dSPeriod a0_p.Periods)], .box [.int .i64 ((a0_p.Periods.getD t17_15.toNat dSPeriod).At), .int .i64 ((a0_p.Periods.getD t17_15.toNat dSPeriod).Limit)]]⟩) (sub_gen [0, 1] rfl rfl ⟨⟨_, rfl, .inl ⟨rfl, rfl⟩⟩, ⟨_, rfl, .inl ⟨rfl, rfl⟩⟩, ⟨_, rfl, .inl ⟨rfl, rfl⟩⟩, ⟨_, rfl, .inl ⟨rfl, rfl⟩⟩, ⟨_, rfl, .inl ⟨rfl, rfl⟩⟩, ⟨_, rfl, .inl ⟨rfl, rfl⟩⟩, ⟨_, rfl, .inl ⟨rfl, rfl⟩⟩, trivial⟩ ⟨⟨_, rfl, ⟨.inl ⟨rfl, rfl⟩, .inl ⟨rfl, rfl⟩, .inl ⟨rfl, rfl⟩, .inl ⟨rfl, rfl⟩, .inl ⟨rfl, rfl⟩, .inl ⟨rfl, rfl⟩, .inl ⟨rfl, rfl⟩, .inl ⟨rfl, rfl⟩, .inl ⟨rfl, rfl⟩, .inl ⟨rfl, rfl⟩, .inl ⟨rfl, rfl⟩, trivial⟩⟩, ⟨_, rfl, ⟨.inl ⟨rfl, rfl⟩, .inl ⟨rfl, rfl⟩, trivial⟩⟩, trivial⟩) ?_
                  refine SOps.nil ?_
                  refine SCode.cond_t rfl rfl ?_
                  refine SCode.seq ?_
                  refine SCode.region (show SOps _ _ _ [0] _ _ from ?_)
                  refine SOps.q rfl (.plain rfl) rfl (q_assign rfl rfl) ?_
                  refine SOps.sub (st' := ⟨[(2, .c (.int .i64 1))], []⟩) (sub_gen [] rfl rfl ⟨⟨_, rfl, .inl ⟨rfl, rfl⟩⟩, trivial⟩ trivial) ?_
                  refine SOps.nil ?_
                  refine SCode.ret ?_
                  obtain rfl := Option.some.inj h
                  exact ⟨⟨[(2, .c (.int .i64 1))], []⟩, _, sub_gen [] rfl rfl ⟨⟨_, rfl, .inl ⟨rfl, rfl⟩⟩, trivial⟩ trivial, resA1 (v := .c (.int .i64 1)) rfl rfl, rfl⟩
                · refine SCode.draw (s' := [(48, .c (.bool (decide (greatest_1 < (a0_p.Periods.getD t17_15.toNat dSPeriod).At)))), (47, .c (.bool (decide (greatest_1 < (a0_p.Periods.getD t17_15.toNat dSPeriod).At)))), (46, .c (.bool (decide (greatest_1 < (a0_p.Periods.getD t17_15.toNat dSPeriod).At)))), (45, .c (.int .i64 greatest_1)), (44, .c (.int .i64 ((a0_p.Periods.getD t17_15.toNat dSPeriod).At))), (43, .c (.ptr 1 0)), (42, .c (.bool (decide ((a0_p.Periods.getD t17_15.toNat dSPeriod).At ≤ (a0_p.Periods.getD (IntKind.wrap .i64 (t17_15 - 1)).toNat dSPeriod).At)))), (41, .c (.bool (decide ((a0_p.Periods.getD t17_15.toNat dSPeriod).At ≤ (a0_p.Periods.getD (IntKind.wrap .i64 (t17_15 - 1)).toNat dSPeriod).At)))), (40, .c (.int .i64 ((a0_p.Periods.getD (IntKind.wrap .i64 (t17_15 - 1)).toNat dSPeriod).At))), (39, .c (.eptr 2 (cSPeriod (a0_p.Periods.getD (IntKind.wrap .i64 (t17_15 - 1)).toNat dSPeriod)) 0)), (38, .c (.eptr 2 (cSPeriod (a0_p.Periods.getD (IntKind.wrap .i64 (t17_15 - 1)).toNat dSPeriod)) 0)), (37, .c (.int .i64 (IntKind.wrap .i64 (t17_15 - 1)))), (36, .c (.int .i64 t17_15)), (35, .c (.vec a0_p.Periods.length 2 (gL cSPeriod dSPeriod a0_p.Periods))), (34, .c (.ptr 0 10)), (33, .c (.int .i64 ((a0_p.Periods.getD t17_15.toNat dSPeriod).At))), (32, .c (.ptr 1 0)), (31, .c (.bool (decide (0 < t17_15)))), (30, .c (.bool (decide (0 < t17_15)))), (29, .c (.int .i64 t17_15)), (1, .c (.ptr 0 0)), (3, .c (.int .i64 greatest_1)), (5, .c (.int .i64 t17_15)), (6, .c (.ptr 1 0)), (15, .c (.vec a0_p.Periods.length 2 (gL cSPeriod dSPeriod a0_p.Periods))), (16, .c (.int .i64 (((a0_p.Periods).length : Int)))), (17, .c (.int .i64 t17_15))]) mixed [[], [0], [0, 1], [0, 1, 2], [0, 1, 2, 3], [0, 1, 2], [0, 1, 2, 5], [0, 1, 2], [0, 1, 2, 7], [0, 1, 2, 5, 6, 7, 8], [0, 1, 2, 5, 6, 7, 8, 9], [0, 1, 2, 5, 6, 7, 8, 9, 10], [0, 1, 2, 3, 4, 5, 6, 7, 8, 9, 10, 11], [0, 1, 2, 3, 4, 5, 6, 7, 8, 9, 10, 11, 12], [0, 1, 2, 3, 4, 5, 6, 7, 8, 9, 10, 11, 12, 13], [0, 1, 2, 3, 4, 5, 6, 7, 8, 9, 10, 11, 12, 13, 14], [0, 1, 2, 3, 4, 5, 6, 7, 8, 9, 10, 11, 12, 13], [0, 1, 2, 3, 4, 5, 6, 7, 8, 9, 10, 11, 12, 13, 14, 15, 16], [0, 1, 2, 3, 4, 5, 6, 7, 8, 9, 10, 11, 12, 13, 14, 15, 16, 17], [0, 1, 2, 3, 4, 5, 6, 7, 8, 9, 10, 11, 12, 13, 14, 15, 16, 17, 18]] 20 0 rfl rfl ?_ ?_
                  · refine QChain.run rfl (.plain rfl) rfl (q_move rfl rfl) ?_
                    refine QChain.run rfl (.plain rfl) rfl (q_gtr rfl rfl rfl) ?_
                    refine QChain.run rfl (.plain rfl) rfl (q_move rfl rfl) ?_
                    refine QChain.run rfl (.guard 2 31 true rfl rfl (gT g34)) rfl (q_field_ptr rfl rfl fd47_0) ?_
                    refine QChain.run rfl (.guard 2 31 true rfl rfl (gT g34)) rfl (q_load_ptr rfl rfl rfl rfl ty3) ?_
                    refine QChain.run rfl (.guard 2 31 true rfl rfl (gT g34)) rfl (q_field_ptr rfl rfl fd26_9) ?_
                    refine QChain.run rfl (.guard 2 31 true rfl rfl (gT g34)) rfl (q_load_ptr rfl rfl rfl rfl ty24) ?_
                    refine QChain.run rfl (.guard 2 31 true rfl rfl (gT g34)) rfl (q_move rfl rfl) ?_
                    refine QChain.run rfl (.guard 2 31 true rfl rfl (gT g34)) rfl (q_sub rfl rfl rfl) ?_
                    refine QChain.run rfl (.guard 2 31 true rfl rfl (gT g34)) rfl (q_index_vec rfl rfl rfl sl24 rfl g35.1 g35.2) ?_
                    refine QChain.run rfl (.guard 2 31 true rfl rfl (gT g34)) rfl (q_field_eptr rfl rfl fd47_0 rfl) ?_
                    refine QChain.run rfl (.guard 2 31 true rfl rfl (gT g34)) rfl (q_load_eptr rfl rfl ty3) ?_
                    refine QChain.run rfl (.guard 2 31 true rfl rfl (gT g34)) rfl (q_leq rfl rfl rfl) ?_
                    refine QChain.run rfl (.guard 2 31 true rfl rfl (gT g34)) rfl (q_move rfl rfl) ?_
                    refine QChain.run rfl (.guard 13 42 false rfl rfl (gF g36)) rfl (q_field_ptr rfl rfl fd47_0) ?_
                    refine QChain.run rfl (.guard 13 42 false rfl rfl (gF g36)) rfl (q_load_ptr rfl rfl rfl rfl ty3) ?_
                    refine QChain.run rfl (.guard 13 42 false rfl rfl (gF g36)) rfl (q_move rfl rfl) ?_
                    refine QChain.run rfl (.guard 13 42 false rfl rfl (gF g36)) rfl (q_gtr rfl rfl rfl) ?_
                    refine QChain.run rfl (.guard 2 31 true rfl rfl (gT g34)) rfl (q_pick_f rfl rfl g36 rfl) ?_
                    refine QChain.run rfl (.plain rfl) rfl (q_pick_t rfl rfl g34 rfl) ?_
                    exact QChain.nil _ _
                  refine (show SOps _ _ _ [] _ _ from ?_)
                  refine SOps.sub (st' := ⟨[(1, .c (.ptr 0 0)), (3, .c (.int .i64 greatest_1)), (6, .c (.ptr 1 0)), (15, .c (.vec a0_p.Periods.length 2 (gL cSPeriod dSPeriod a0_p.Periods))), (16, .c (.int .i64 (((a0_p.Periods).length : Int)))), (17, .c (.int .i64 t17_15)), (48, .c (.bool (decide (greatest_1 < (a0_p.Periods.getD t17_15.toNat dSPeriod).At))))], [.box [.int .i64 a0_p.ID, .int .i64 a0_p.Level, .int .i64 a0_p.Purpose, .int .i64 a0_p.Kind, .int .i64 a0_p.Conn, .str a0_p.Txn, .int .i64 a0_p.Span_From, .int .i64 a0_p.Span_To, .int .i64 a0_p.Start, .int .i64 a0_p.Duration, .vec a0_p.Periods.length 2 (gL cSPeriod dSPeriod a0_p.Periods)], .box [.int .i64 ((a0_p.Periods.getD t17_15.toNat dSPeriod).At), .int .i64 ((a0_p.Periods.getD t17_15.toNat dSPeriod).Limit)]]⟩) (sub_gen [0, 1] rfl rfl ⟨⟨_, rfl, .inl ⟨rfl, rfl⟩⟩, ⟨_, rfl, .inl ⟨rfl, rfl⟩⟩, ⟨_, rfl, .inl ⟨rfl, rfl⟩⟩, ⟨_, rfl, .inl ⟨rfl, rfl⟩⟩, ⟨_, rfl, .inl ⟨rfl, rfl⟩⟩, ⟨_, rfl, .inl ⟨rfl, rfl⟩⟩, ⟨_, rfl, .inl ⟨rfl, rfl⟩⟩, trivial⟩ ⟨⟨_, rfl, ⟨.inl ⟨rfl, rfl⟩, .inl ⟨rfl, rfl⟩, .inl ⟨rfl, rfl⟩, .inl ⟨rfl, rfl⟩, .inl ⟨rfl, rfl⟩, .inl ⟨rfl, rfl⟩, .inl ⟨rfl, rfl⟩, .inl ⟨rfl, rfl⟩, .inl ⟨rfl, rfl⟩, .inl ⟨rfl, rfl⟩, .inl ⟨rfl, rfl⟩, trivial⟩⟩, ⟨_, rfl, ⟨.inl ⟨rfl, rfl⟩, .inl ⟨rfl, rfl⟩, trivial⟩⟩, trivial⟩) ?_
                  refine SOps.nil ?_
                  rcases cond_out h with ⟨g37, h⟩ | ⟨g37, h⟩
                  · refine SCode.cond_t rfl g37 ?_
                    refine SCode.seq ?_
                    refine SCode.region (show SOps _ _ _ [0] _ _ from ?_)
                    refine SOps.q rfl (.plain rfl) rfl (q_assign rfl rfl) ?_
                    refine SOps.sub (st' := ⟨[(2, .c (.int .i64 1))], []⟩) (sub_gen [] rfl rfl ⟨⟨_, rfl, .inl ⟨rfl, rfl⟩⟩, trivial⟩ trivial) ?_
                    refine SOps.nil ?_
                    refine SCode.ret ?_
                    obtain rfl := Option.some.inj h
                    exact ⟨⟨[(2, .c (.int .i64 1))], []⟩, _, sub_gen [] rfl rfl ⟨⟨_, rfl, .inl ⟨rfl, rfl⟩⟩, trivial⟩ trivial, resA1 (v := .c (.int .i64 1)) rfl rfl, rfl⟩
                  · refine SCode.cond_f rfl g37 ?_
                    refine SCode.skip ?_
                    exact ⟨(), h, sub_gen [0, 1] rfl rfl ⟨⟨_, rfl, .inl ⟨rfl, rfl⟩⟩, ⟨_, rfl, .inl ⟨rfl, rfl⟩⟩, ⟨_, rfl, .inl ⟨rfl, rfl⟩⟩, ⟨_, rfl, .inl ⟨rfl, rfl⟩⟩, ⟨_, rfl, .inl ⟨rfl, rfl⟩⟩, ⟨_, rfl, .inl ⟨rfl, rfl⟩⟩, trivial⟩ ⟨⟨_, rfl, ⟨.inl ⟨rfl, rfl⟩, .inl ⟨rfl, rfl⟩, .inl ⟨rfl, rfl⟩, .inl ⟨rfl, rfl⟩, .inl ⟨rfl, rfl⟩, .inl ⟨rfl, rfl⟩, .inl ⟨rfl, rfl⟩, .inl ⟨rfl, rfl⟩, .inl ⟨rfl, rfl⟩, .inl ⟨rfl, rfl⟩, .inl ⟨rfl, rfl⟩, trivial⟩⟩, ⟨_, rfl, ⟨.inl ⟨rfl, rfl⟩, .inl ⟨rfl, rfl⟩, trivial⟩⟩, trivial⟩⟩
              · refine SCode.draw (s' := [(48, .c (.bool false)), (47, .c (.raw (.tuple #[]))), (46, .c (.raw (.tuple #[]))), (45, .c (.raw (.tuple #[]))), (44, .c (.raw (.tuple #[]))), (43, .c (.raw (.tuple #[]))), (42, .c (.raw (.tuple #[]))), (41, .c (.raw (.tuple #[]))), (40, .c (.raw (.tuple #[]))), (39, .c (.raw (.tuple #[]))), (38, .c (.raw (.tuple #[]))), (37, .c (.raw (.tuple #[]))), (36, .c (.raw (.tuple #[]))), (35, .c (.raw (.tuple #[]))), (34, .c (.raw (.tuple #[]))), (33, .c (.raw (.tuple #[]))), (32, .c (.raw (.tuple #[]))), (31, .c (.bool (decide (0 < t17_15)))), (30, .c (.bool (decide (0 < t17_15)))), (29, .c (.int .i64 t17_15)), (1, .c (.ptr 0 0)), (3, .c (.int .i64 greatest_1)), (5, .c (.int .i64 t17_15)), (6, .c (.ptr 1 0)), (15, .c (.vec a0_p.Periods.length 2 (gL cSPeriod dSPeriod a0_p.Periods))), (16, .c (.int .i64 (((a0_p.Periods).length : Int)))), (17, .c (.int .i64 t17_15))]) mixed [[], [0], [0, 1], [0, 1, 2], [0, 1, 2, 3], [0, 1, 2], [0, 1, 2, 5], [0, 1, 2], [0, 1, 2, 7], [0, 1, 2, 5, 6, 7, 8], [0, 1, 2, 5, 6, 7, 8, 9], [0, 1, 2, 5, 6, 7, 8, 9, 10], [0, 1, 2, 3, 4, 5, 6, 7, 8, 9, 10, 11], [0, 1, 2, 3, 4, 5, 6, 7, 8, 9, 10, 11, 12], [0, 1, 2, 3, 4, 5, 6, 7, 8, 9, 10, 11, 12, 13], [0, 1, 2, 3, 4, 5, 6, 7, 8, 9, 10, 11, 12, 13, 14], [0, 1, 2, 3, 4, 5, 6, 7, 8, 9, 10, 11, 12, 13], [0, 1, 2, 3, 4, 5, 6, 7, 8, 9, 10, 11, 12, 13, 14, 15, 16], [0, 1, 2, 3, 4, 5, 6, 7, 8, 9, 10, 11, 12, 13, 14, 15, 16, 17], [0, 1, 2, 3, 4, 5, 6, 7, 8, 9, 10, 11, 12, 13, 14, 15, 16, 17, 18]] 20 0 rfl rfl ?_ ?_
                · refine QChain.run rfl (.plain rfl) rfl (q_move rfl rfl) ?_
                  refine QChain.run rfl (.plain rfl) rfl (q_gtr rfl rfl rfl) ?_
                  refine QChain.run rfl (.plain rfl) rfl (q_move rfl rfl) ?_
                  refine QChain.skip rfl ⟨2, 31, true, rfl, rfl, (.inl (gF g34))⟩ rfl ?_
                  refine QChain.skip rfl ⟨2, 31, true, rfl, rfl, (.inl (gF g34))⟩ rfl ?_
                  refine QChain.skip rfl ⟨2, 31, true, rfl, rfl, (.inl (gF g34))⟩ rfl ?_
                  refine QChain.skip rfl ⟨2, 31, true, rfl, rfl, (.inl (gF g34))⟩ rfl ?_
                  refine QChain.skip rfl ⟨2, 31, true, rfl, rfl, (.inl (gF g34))⟩ rfl ?_
                  refine QChain.skip rfl ⟨2, 31, true, rfl, rfl, (.inl (gF g34))⟩ rfl ?_
                  refine QChain.skip rfl ⟨2, 31, true, rfl, rfl, (.inl (gF g34))⟩ rfl ?_
                  refine QChain.skip rfl ⟨2, 31, true, rfl, rfl, (.inl (gF g34))⟩ rfl ?_
                  refine QChain.skip rfl ⟨2, 31, true, rfl, rfl, (.inl (gF g34))⟩ rfl ?_
                  refine QChain.skip rfl ⟨2, 31, true, rfl, rfl, (.inl (gF g34))⟩ rfl ?_
                  refine QChain.skip rfl ⟨2, 31, true, rfl, rfl, (.inl (gF g34))⟩ rfl ?_
                  refine QChain.skip rfl ⟨13, 42, false, rfl, rfl, (.inr rfl)⟩ rfl ?_
                  refine QChain.skip rfl ⟨13, 42, false, rfl, rfl, (.inr rfl)⟩ rfl ?_
                  refine QChain.skip rfl ⟨13, 42, false, rfl, rfl, (.inr rfl)⟩ rfl ?_
                  refine QChain.skip rfl ⟨13, 42, false, rfl, rfl, (.inr rfl)⟩ rfl ?_
                  refine QChain.skip rfl ⟨2, 31, true, rfl, rfl, (.inl (gF g34))⟩ rfl ?_
                  refine QChain.run rfl (.plain rfl) rfl (q_pick_f rfl rfl g34 rfl) ?_
                  exact QChain.nil _ _
                refine (show SOps _ _ _ [] _ _ from ?_)
                refine SOps.sub (st' := ⟨[(1, .c (.ptr 0 0)), (3, .c (.int .i64 greatest_1)), (6, .c (.ptr 1 0)), (15, .c (.vec a0_p.Periods.length 2 (gL cSPeriod dSPeriod a0_p.Periods))), (16, .c (.int .i64 (((a0_p.Periods).length : Int)))), (17, .c (.int .i64 t17_15)), (48, .c (.bool false))], [.box [.int .i64 a0_p.ID, .int .i64 a0_p.Level, .int .i64 a0_p.Purpose, .int .i64 a0_p.Kind, .int .i64 a0_p.Conn, .str a0_p.Txn, .int .i64 a0_p.Span_From, .int .i64 a0_p.Span_To, .int .i64 a0_p.Start, .int .i64 a0_p.Duration, .vec a0_p.Periods.length 2 (gL cSPeriod dSPeriod a0_p.Periods)], .box [.int .i64 ((a0_p.Periods.getD t17_15.toNat dSPeriod).At), .int .i64 ((a0_p.Periods.getD t17_15.toNat dSPeriod).Limit)]]⟩) (sub_gen [0, 1] rfl rfl ⟨⟨_, rfl, .inl ⟨rfl, rfl⟩⟩, ⟨_, rfl, .inl ⟨rfl, rfl⟩⟩, ⟨_, rfl, .inl ⟨rfl, rfl⟩⟩, ⟨_, rfl, .inl ⟨rfl, rfl⟩⟩, ⟨_, rfl, .inl ⟨rfl, rfl⟩⟩, ⟨_, rfl, .inl ⟨rfl, rfl⟩⟩, ⟨_, rfl, .inl ⟨rfl, rfl⟩⟩, trivial⟩ ⟨⟨_, rfl, ⟨.inl ⟨rfl, rfl⟩, .inl ⟨rfl, rfl⟩, .inl ⟨rfl, rfl⟩, .inl ⟨rfl, rfl⟩, .inl ⟨rfl, rfl⟩, .inl ⟨rfl, rfl⟩, .inl ⟨rfl, rfl⟩, .inl ⟨rfl, rfl⟩, .inl ⟨rfl, rfl⟩, .inl ⟨rfl, rfl⟩, .inl ⟨rfl, rfl⟩, trivial⟩⟩, ⟨_, rfl, ⟨.inl ⟨rfl, rfl⟩, .inl ⟨rfl, rfl⟩, trivial⟩⟩, trivial⟩) ?_
                refine SOps.nil ?_
                refine SCode.cond_f rfl rfl ?_
                refine SCode.skip ?_
                exact ⟨(), h, sub_gen [0, 1] rfl rfl ⟨⟨_, rfl, .inl ⟨rfl, rfl⟩⟩, ⟨_, rfl, .inl ⟨rfl, rfl⟩⟩, ⟨_, rfl, .inl ⟨rfl, rfl⟩⟩, ⟨_, rfl, .inl ⟨rfl, rfl⟩⟩, ⟨_, rfl, .inl ⟨rfl, rfl⟩⟩, ⟨_, rfl, .inl ⟨rfl, rfl⟩⟩, trivial⟩ ⟨⟨_, rfl, ⟨.inl ⟨rfl, rfl⟩, .inl ⟨rfl, rfl⟩, .inl ⟨rfl, rfl⟩, .inl ⟨rfl, rfl⟩, .inl ⟨rfl, rfl⟩, .inl ⟨rfl, rfl⟩, .inl ⟨rfl, rfl⟩, .inl ⟨rfl, rfl⟩, .inl ⟨rfl, rfl⟩, .inl ⟨rfl, rfl⟩, .inl ⟨rfl, rfl⟩, trivial⟩⟩, ⟨_, rfl, ⟨.inl ⟨rfl, rfl⟩, .inl ⟨rfl, rfl⟩, trivial⟩⟩, trivial⟩⟩
          · refine SCode.seq ?_
            rcases cond_out h with ⟨g39, h⟩ | ⟨g39, h⟩
            · refine SCode.region (show SOps _ _ _ [0, 1, 2, 3, 4, 5, 6] _ _ from ?_)
              refine SOps.q rfl (.plain rfl) rfl (q_move rfl rfl) ?_
              refine SOps.q rfl (.plain rfl) rfl (q_eql rfl rfl rfl) ?_
              refine SOps.q rfl (.plain rfl) rfl (q_move rfl rfl) ?_
              refine SOps.q rfl (.guard 2 24 true rfl rfl (gT g39)) rfl (q_field_ptr rfl rfl fd47_0) ?_
              refine SOps.q rfl (.guard 2 24 true rfl rfl (gT g39)) rfl (q_load_ptr rfl rfl rfl rfl ty3) ?_
              refine SOps.q rfl (.guard 2 24 true rfl rfl (gT g39)) rfl (q_neq rfl rfl rfl) ?_
              refine SOps.q rfl (.plain rfl) rfl (q_pick_t rfl rfl g39 rfl) ?_
              refine SOps.sub (st' := ⟨[(1, .c (.ptr 0 0)), (3, .c (.int .i64 greatest_1)), (5, .c (.int .i64 t17_15)), (6, .c (.ptr 1 0)), (15, .c (.vec a0_p.Periods.length 2 (gL cSPeriod dSPeriod a0_p.Periods))), (16, .c (.int .i64 (((a0_p.Periods).length : Int)))), (17, .c (.int .i64 t17_15)), (28, .c (.bool ((!decide ((a0_p.Periods.getD t17_15.toNat dSPeriod).At = 0)))))], [.box [.int .i64 a0_p.ID, .int .i64 a0_p.Level, .int .i64 a0_p.Purpose, .int .i64 a0_p.Kind, .int .i64 a0_p.Conn, .str a0_p.Txn, .int .i64 a0_p.Span_From, .int .i64 a0_p.Span_To, .int .i64 a0_p.Start, .int .i64 a0_p.Duration, .vec a0_p.Periods.length 2 (gL cSPeriod dSPeriod a0_p.Periods)], .box [.int .i64 ((a0_p.Periods.getD t17_15.toNat dSPeriod).At), .int .i64 ((a0_p.Periods.getD t17_15.toNat dSPeriod).Limit)]]⟩) (sub_gen [0, 1] rfl rfl ⟨⟨_, rfl, .inl ⟨rfl, rfl⟩⟩, ⟨_, rfl, .inl ⟨rfl, rfl⟩⟩, ⟨_, rfl, .inl ⟨rfl, rfl⟩⟩, ⟨_, rfl, .inl ⟨rfl, rfl⟩⟩, ⟨_, rfl, .inl ⟨rfl, rfl⟩⟩, ⟨_, rfl, .inl ⟨rfl, rfl⟩⟩, ⟨_, rfl, .inl ⟨rfl, rfl⟩⟩, ⟨_, rfl, .inl ⟨rfl, rfl⟩⟩, trivial⟩ ⟨⟨_, rfl, ⟨.inl ⟨rfl, rfl⟩, .inl ⟨rfl, rfl⟩, .inl ⟨rfl, rfl⟩, .inl ⟨rfl, rfl⟩, .inl ⟨rfl, rfl⟩, .inl ⟨rfl, rfl⟩, .inl ⟨rfl, rfl⟩, .inl ⟨rfl, rfl⟩, .inl ⟨rfl, rfl⟩, .inl ⟨rfl, rfl⟩, .inl ⟨rfl, rfl⟩, trivial⟩⟩, ⟨_, rfl, ⟨.inl ⟨rfl, rfl⟩, .inl ⟨rfl, rfl⟩, trivial⟩⟩, trivial⟩) ?_
              refine SOps.nil ?_
              rcases cond_out h with ⟨g40, h⟩ | ⟨g40, h⟩
              · refine SCode.cond_t rfl g40 ?_
                refine SCode.seq ?_
                refine SCode.region (show SOps _ _ _ [0] _ _ from ?_)
                refine SOps.q rfl (.plain rfl) rfl (q_assign rfl rfl) ?_
                refine SOps.sub (st' := ⟨[(2, .c (.int .i64 1))], []⟩) (sub_gen [] rfl rfl ⟨⟨_, rfl, .inl ⟨rfl, rfl⟩⟩, trivial⟩ trivial) ?_
                refine SOps.nil ?_
                refine SCode.ret ?_
                obtain rfl := Option.some.inj h
                exact ⟨⟨[(2, .c (.int .i64 1))], []⟩, _, sub_gen [] rfl rfl ⟨⟨_, rfl, .inl ⟨rfl, rfl⟩⟩, trivial⟩ trivial, resA1 (v := .c (.int .i64 1)) rfl rfl, rfl⟩
              · refine SCode.cond_f rfl g40 ?_
                refine SCode.skip ?_
                exact ⟨(), h, sub_gen [0, 1] rfl rfl ⟨⟨_, rfl, .inl ⟨rfl, rfl⟩⟩, ⟨_, rfl, .inl ⟨rfl, rfl⟩⟩, ⟨_, rfl, .inl ⟨rfl, rfl⟩⟩, ⟨_, rfl, .inl ⟨rfl, rfl⟩⟩, ⟨_, rfl, .inl ⟨rfl, rfl⟩⟩, ⟨_, rfl, .inl ⟨rfl, rfl⟩⟩, ⟨_, rfl, .inl ⟨rfl, rfl⟩⟩, trivial⟩ ⟨⟨_, rfl, ⟨.inl ⟨rfl, rfl⟩, .inl ⟨rfl, rfl⟩, .inl ⟨rfl, rfl⟩, .inl ⟨rfl, rfl⟩, .inl ⟨rfl, rfl⟩, .inl ⟨rfl, rfl⟩, .inl ⟨rfl, rfl⟩, .inl ⟨rfl, rfl⟩, .inl ⟨rfl, rfl⟩, .inl ⟨rfl, rfl⟩, .inl ⟨rfl, rfl⟩, trivial⟩⟩, ⟨_, rfl, ⟨.inl ⟨rfl, rfl⟩, .inl ⟨rfl, rfl⟩, trivial⟩⟩, trivial⟩⟩
            · refine SCode.region (show SOps _ _ _ [0, 1, 2, 3, 4, 5, 6] _ _ from ?_)
              refine SOps.q rfl (.plain rfl) rfl (q_move rfl rfl) ?_
              refine SOps.q rfl (.plain rfl) rfl (q_eql rfl rfl rfl) ?_
              refine SOps.q rfl (.plain rfl) rfl (q_move rfl rfl) ?_
              refine SOps.skip rfl 2 24 true rfl rfl (.inl (gF g39)) rfl ?_
              refine SOps.skip rfl 2 24 true rfl rfl (.inl (gF g39)) rfl ?_
              refine SOps.skip rfl 2 24 true rfl rfl (.inl (gF g39)) rfl ?_
              refine SOps.q rfl (.plain rfl) rfl (q_pick_f rfl rfl g39 rfl) ?_
              refine SOps.sub (st' := ⟨[(1, .c (.ptr 0 0)), (3, .c (.int .i64 greatest_1)), (5, .c (.int .i64 t17_15)), (6, .c (.ptr 1 0)), (15, .c (.vec a0_p.Periods.length 2 (gL cSPeriod dSPeriod a0_p.Periods))), (16, .c (.int .i64 (((a0_p.Periods).length : Int)))), (17, .c (.int .i64 t17_15)), (28, .c (.bool false))], [.box [.int .i64 a0_p.ID, .int .i64 a0_p.Level, .int .i64 a0_p.Purpose, .int .i64 a0_p.Kind, .int .i64 a0_p.Conn, .str a0_p.Txn, .int .i64 a0_p.Span_From, .int .i64 a0_p.Span_To, .int .i64 a0_p.Start, .int .i64 a0_p.Duration, .vec a0_p.Periods.length 2 (gL cSPeriod dSPeriod a0_p.Periods)], .box [.int .i64 ((a0_p.Periods.getD t17_15.toNat dSPeriod).At), .int .i64 ((a0_p.Periods.getD t17_15.toNat dSPeriod).Limit)]]⟩) (sub_gen [0, 1] rfl rfl ⟨⟨_, rfl, .inl ⟨rfl, rfl⟩⟩, ⟨_, rfl, .inl ⟨rfl, rfl⟩⟩, ⟨_, rfl, .inl ⟨rfl, rfl⟩⟩, ⟨_, rfl, .inl ⟨rfl, rfl⟩⟩, ⟨_, rfl, .inl ⟨rfl, rfl⟩⟩, ⟨_, rfl, .inl ⟨rfl, rfl⟩⟩, ⟨_, rfl, .inl ⟨rfl, rfl⟩⟩, ⟨_, rfl, .inl ⟨rfl, rfl⟩⟩, trivial⟩ ⟨⟨_, rfl, ⟨.inl ⟨rfl, rfl⟩, .inl ⟨rfl, rfl⟩, .inl ⟨rfl, rfl⟩, .inl ⟨rfl, rfl⟩, .inl ⟨rfl, rfl⟩, .inl ⟨rfl, rfl⟩, .inl ⟨rfl, rfl⟩, .inl ⟨rfl, rfl⟩, .inl ⟨rfl, rfl⟩, .inl ⟨rfl, rfl⟩, .inl ⟨rfl, rfl⟩, trivial⟩⟩, ⟨_, rfl, ⟨.inl ⟨rfl, rfl⟩, .inl ⟨rfl, rfl⟩, trivial⟩⟩, trivial⟩) ?_
              refine SOps.nil ?_
              refine SCode.cond_f rfl rfl ?_
              refine SCode.skip ?_
              exact ⟨(), h, sub_gen [0, 1] rfl rfl ⟨⟨_, rfl, .inl ⟨rfl, rfl⟩⟩, ⟨_, rfl, .inl ⟨rfl, rfl⟩⟩, ⟨_, rfl, .inl ⟨rfl, rfl⟩⟩, ⟨_, rfl, .inl ⟨rfl, rfl⟩⟩, ⟨_, rfl, .inl ⟨rfl, rfl⟩⟩, ⟨_, rfl, .inl ⟨rfl, rfl⟩⟩, ⟨_, rfl, .inl ⟨rfl, rfl⟩⟩, trivial⟩ ⟨⟨_, rfl, ⟨.inl ⟨rfl, rfl⟩, .inl ⟨rfl, rfl⟩, .inl ⟨rfl, rfl⟩, .inl ⟨rfl, rfl⟩, .inl ⟨rfl, rfl⟩, .inl ⟨rfl, rfl⟩, .inl ⟨rfl, rfl⟩, .inl ⟨rfl, rfl⟩, .inl ⟨rfl, rfl⟩, .inl ⟨rfl, rfl⟩, .inl ⟨rfl, rfl⟩, trivial⟩⟩, ⟨_, rfl, ⟨.inl ⟨rfl, rfl⟩, .inl ⟨rfl, rfl⟩, trivial⟩⟩, trivial⟩⟩
        · refine SCode.cond_f rfl g29 ?_
          refine SCode.exit ?_
          exact ⟨(), h, sub_gen [] rfl rfl trivial trivial⟩
  · refine SCode.seq ?_
    obtain ⟨c_42, g43, h⟩ := bind_out h
    try dsimp only at h
    refine SCode.region (show SOps _ _ _ [0, 1, 2, 3] _ _ from ?_)
    refine SOps.q rfl (.plain rfl) rfl (q_field_ptr rfl rfl fd26_3) ?_
    refine SOps.q rfl (.plain rfl) rfl (q_load_ptr rfl rfl rfl rfl ty3) ?_
    refine SOps.q rfl (.plain rfl) rfl (q_call (profile_cycle_ok F a0_p.Kind c_42 g43) [] rfl fn46 ⟨⟨_, rfl, .inl ⟨rfl, rfl⟩⟩, trivial⟩ (.inl rfl)) ?_
    refine SOps.q rfl (.plain rfl) rfl (q_assign rfl rfl) ?_
    refine SOps.sub (st' := ⟨[(1, .c (.ptr 0 0)), (3, .c (.int .i64 268435456)), (4, .c (.int .i64 c_42))], [.box [.int .i64 a0_p.ID, .int .i64 a0_p.Level, .int .i64 a0_p.Purpose, .int .i64 a0_p.Kind, .int .i64 a0_p.Conn, .str a0_p.Txn, .int .i64 a0_p.Span_From, .int .i64 a0_p.Span_To, .int .i64 a0_p.Start, .int .i64 a0_p.Duration, .vec a0_p.Periods.length 2 (gL cSPeriod dSPeriod a0_p.Periods)]]⟩) (sub_gen [0] rfl rfl ⟨⟨_, rfl, .inl ⟨rfl, rfl⟩⟩, ⟨_, rfl, .inl ⟨rfl, rfl⟩⟩, ⟨_, rfl, .inl ⟨rfl, rfl⟩⟩, trivial⟩ ⟨⟨_, rfl, ⟨.inl ⟨rfl, rfl⟩, .inl ⟨rfl, rfl⟩, .inl ⟨rfl, rfl⟩, .inl ⟨rfl, rfl⟩, .inl ⟨rfl, rfl⟩, .inl ⟨rfl, rfl⟩, .inl ⟨rfl, rfl⟩, .inl ⟨rfl, rfl⟩, .inl ⟨rfl, rfl⟩, .inl ⟨rfl, rfl⟩, .inl ⟨rfl, rfl⟩, trivial⟩⟩, trivial⟩) ?_
    refine SOps.nil ?_
    refine SCode.seq ?_
    refine SCode.region (show SOps _ _ _ [0, 1] _ _ from ?_)
    refine SOps.q rfl (.plain rfl) rfl (q_move rfl rfl) ?_
    refine SOps.q rfl (.plain rfl) rfl (q_gtr rfl rfl rfl) ?_
    refine SOps.sub (st' := ⟨[(1, .c (.ptr 0 0)), (3, .c (.int .i64 268435456)), (4, .c (.int .i64 c_42)), (11, .c (.bool (decide (0 < c_42))))], [.box [.int .i64 a0_p.ID, .int .i64 a0_p.Level, .int .i64 a0_p.Purpose, .int .i64 a0_p.Kind, .int .i64 a0_p.Conn, .str a0_p.Txn, .int .i64 a0_p.Span_From, .int .i64 a0_p.Span_To, .int .i64 a0_p.Start, .int .i64 a0_p.Duration, .vec a0_p.Periods.length 2 (gL cSPeriod dSPeriod a0_p.Periods)]]⟩) (sub_gen [0] rfl rfl ⟨⟨_, rfl, .inl ⟨rfl, rfl⟩⟩, ⟨_, rfl, .inl ⟨rfl, rfl⟩⟩, ⟨_, rfl, .inl ⟨rfl, rfl⟩⟩, ⟨_, rfl, .inl ⟨rfl, rfl⟩⟩, trivial⟩ ⟨⟨_, rfl, ⟨.inl ⟨rfl, rfl⟩, .inl ⟨rfl, rfl⟩, .inl ⟨rfl, rfl⟩, .inl ⟨rfl, rfl⟩, .inl ⟨rfl, rfl⟩, .inl ⟨rfl, rfl⟩, .inl ⟨rfl, rfl⟩, .inl ⟨rfl, rfl⟩, .inl ⟨rfl, rfl⟩, .inl ⟨rfl, rfl⟩, .inl ⟨rfl, rfl⟩, trivial⟩⟩, trivial⟩) ?_
    refine SOps.nil ?_
    rcases cond_out h with ⟨g44, h⟩ | ⟨g44, h⟩
    · refine SCode.cond_t rfl g44 ?_
      refine SCode.region (show SOps _ _ _ [0, 1, 2] _ _ from ?_)
      refine SOps.q rfl (.plain rfl) rfl (q_move rfl rfl) ?_
      refine SOps.q rfl (.plain rfl) rfl (q_sub rfl rfl rfl) ?_
      refine SOps.q rfl (.plain rfl) rfl (q_assign rfl rfl) ?_
      refine SOps.sub (st' := ⟨[(1, .c (.ptr 0 0)), (3, .c (.int .i64 (IntKind.wrap .i64 (c_42 - 1))))], [.box [.int .i64 a0_p.ID, .int .i64 a0_p.Level, .int .i64 a0_p.Purpose, .int .i64 a0_p.Kind, .int .i64 a0_p.Conn, .str a0_p.Txn, .int .i64 a0_p.Span_From, .int .i64 a0_p.Span_To, .int .i64 a0_p.Start, .int .i64 a0_p.Duration, .vec a0_p.Periods.length 2 (gL cSPeriod dSPeriod a0_p.Periods)]]⟩) (sub_gen [0] rfl rfl ⟨⟨_, rfl, .inl ⟨rfl, rfl⟩⟩, ⟨_, rfl, .inl ⟨rfl, rfl⟩⟩, trivial⟩ ⟨⟨_, rfl, ⟨.inl ⟨rfl, rfl⟩, .inl ⟨rfl, rfl⟩, .inl ⟨rfl, rfl⟩, .inl ⟨rfl, rfl⟩, .inl ⟨rfl, rfl⟩, .inl ⟨rfl, rfl⟩, .inl ⟨rfl, rfl⟩, .inl ⟨rfl, rfl⟩, .inl ⟨rfl, rfl⟩, .inl ⟨rfl, rfl⟩, .inl ⟨rfl, rfl⟩, trivial⟩⟩, trivial⟩) ?_
      refine SOps.nil ?_
      exact ⟨IntKind.wrap .i64 (c_42 - 1), h, sub_gen [0] rfl rfl ⟨⟨_, rfl, .inl ⟨rfl, rfl⟩⟩, ⟨_, rfl, .inl ⟨rfl, rfl⟩⟩, trivial⟩ ⟨⟨_, rfl, ⟨.inl ⟨rfl, rfl⟩, .inl ⟨rfl, rfl⟩, .inl ⟨rfl, rfl⟩, .inl ⟨rfl, rfl⟩, .inl ⟨rfl, rfl⟩, .inl ⟨rfl, rfl⟩, .inl ⟨rfl, rfl⟩, .inl ⟨rfl, rfl⟩, .inl ⟨rfl, rfl⟩, .inl ⟨rfl, rfl⟩, .inl ⟨rfl, rfl⟩, trivial⟩⟩, trivial⟩⟩
    · refine SCode.cond_f rfl g44 ?_
      refine SCode.skip ?_
      exact ⟨268435456, h, sub_gen [0] rfl rfl ⟨⟨_, rfl, .inl ⟨rfl, rfl⟩⟩, ⟨_, rfl, .inl ⟨rfl, rfl⟩⟩, trivial⟩ ⟨⟨_, rfl, ⟨.inl ⟨rfl, rfl⟩, .inl ⟨rfl, rfl⟩, .inl ⟨rfl, rfl⟩, .inl ⟨rfl, rfl⟩, .inl ⟨rfl, rfl⟩, .inl ⟨rfl, rfl⟩, .inl ⟨rfl, rfl⟩, .inl ⟨rfl, rfl⟩, .inl ⟨rfl, rfl⟩, .inl ⟨rfl, rfl⟩, .inl ⟨rfl, rfl⟩, trivial⟩⟩, trivial⟩⟩
end Go.Proofs.Ytldekibkmombdaa.W
