/- Written by a program of ours (wip/eng/gen.py): the functions compute their models. -/
import Derived.Test.YtldekibkmombdaaFacts
import Derived.Test.YtldekibkmombdaaV4x10
namespace Go.Proofs.Ytldekibkmombdaa.W
open Go Go.Proofs Go.Proofs.Ytldekibkmombdaa.E Go.Proofs.Ytldekibkmombdaa.M
set_option linter.unusedVariables false
set_option maxHeartbeats 8000000 in
theorem chargenetref15_Put_ok (F : Nat) (a0_l : List SProfile) (a1_p : SProfile) (r : (List SProfile) × Int) (h : chargenetref15_Put F a0_l a1_p = some r) :
    SFun Try.prog 16 [] [.c (.vec a0_l.length 11 (gL cSProfile dSProfile a0_l)), .a [.int .i64 a1_p.ID, .int .i64 a1_p.Level, .int .i64 a1_p.Purpose, .int .i64 a1_p.Kind, .int .i64 a1_p.Conn, .str a1_p.Txn, .int .i64 a1_p.Span_From, .int .i64 a1_p.Span_To, .int .i64 a1_p.Start, .int .i64 a1_p.Duration, .vec a1_p.Periods.length 2 (gL cSPeriod dSPeriod a1_p.Periods)]] (fun x _ => x = .t [.c (.vec r.1.length 11 (gL cSProfile dSProfile r.1)), .c (.int .i64 r.2)]) := by
  refine SFun.of (n := 53) Try.func16 rfl rfl rfl ?_
  unfold chargenetref15_Put at h
  show SCode _ _ _ ⟨[(0, .c (.vec a0_l.length 11 (gL cSProfile dSProfile a0_l))), (1, .a [.int .i64 a1_p.ID, .int .i64 a1_p.Level, .int .i64 a1_p.Purpose, .int .i64 a1_p.Kind, .int .i64 a1_p.Conn, .str a1_p.Txn, .int .i64 a1_p.Span_From, .int .i64 a1_p.Span_To, .int .i64 a1_p.Start, .int .i64 a1_p.Duration, .vec a1_p.Periods.length 2 (gL cSPeriod dSPeriod a1_p.Periods)])], []⟩ _
  refine SCode.seq ?_
  refine SCode.region (show SOps _ _ _ [0, 1, 2] _ _ from ?_)
  refine SOps.e rfl (.plain rfl) (e_box rfl rfl rfl rfl rfl rfl) ?_
  refine SOps.q rfl (.plain rfl) rfl (q_assign rfl rfl) ?_
  refine SOps.q rfl (.plain rfl) rfl (q_assign rfl rfl) ?_
  refine SOps.sub (st' := ⟨[(0, .c (.vec a0_l.length 11 (gL cSProfile dSProfile a0_l))), (3, .c (.ptr 0 0))], [.box [.int .i64 a1_p.ID, .int .i64 a1_p.Level, .int .i64 a1_p.Purpose, .int .i64 a1_p.Kind, .int .i64 a1_p.Conn, .str a1_p.Txn, .int .i64 a1_p.Span_From, .int .i64 a1_p.Span_To, .int .i64 a1_p.Start, .int .i64 a1_p.Duration, .vec a1_p.Periods.length 2 (gL cSPeriod dSPeriod a1_p.Periods)]]⟩) (sub_gen [0] rfl rfl ⟨⟨_, rfl, .inl ⟨rfl, rfl⟩⟩, ⟨_, rfl, .inl ⟨rfl, rfl⟩⟩, trivial⟩ ⟨⟨_, rfl, ⟨.inl ⟨rfl, rfl⟩, .inl ⟨rfl, rfl⟩, .inl ⟨rfl, rfl⟩, .inl ⟨rfl, rfl⟩, .inl ⟨rfl, rfl⟩, .inl ⟨rfl, rfl⟩, .inl ⟨rfl, rfl⟩, .inl ⟨rfl, rfl⟩, .inl ⟨rfl, rfl⟩, .inl ⟨rfl, rfl⟩, .inl ⟨rfl, rfl⟩, trivial⟩⟩, trivial⟩) ?_
  refine SOps.nil ?_
  refine SCode.seq ?_
  refine SCode.seq ?_
  obtain ⟨c_1, g2, h⟩ := bind_out h
  try dsimp only at h
  refine SCode.region (show SOps _ _ _ [0, 1, 2] _ _ from ?_)
  refine SOps.q rfl (.plain rfl) rfl (q_load_ptr_all rfl rfl rfl rfl rfl ty26) ?_
  refine SOps.q rfl (.plain rfl) rfl (q_call (chargenetref15_Valid_ok F a1_p c_1 g2) [] rfl fn13 ⟨⟨rfl, rfl⟩, trivial⟩ (.inl rfl)) ?_
  refine SOps.q rfl (.plain rfl) rfl (q_assign rfl rfl) ?_
  refine SOps.sub (st' := ⟨[(0, .c (.vec a0_l.length 11 (gL cSProfile dSProfile a0_l))), (3, .c (.ptr 0 0)), (6, .c (.int .i64 c_1))], [.box [.int .i64 a1_p.ID, .int .i64 a1_p.Level, .int .i64 a1_p.Purpose, .int .i64 a1_p.Kind, .int .i64 a1_p.Conn, .str a1_p.Txn, .int .i64 a1_p.Span_From, .int .i64 a1_p.Span_To, .int .i64 a1_p.Start, .int .i64 a1_p.Duration, .vec a1_p.Periods.length 2 (gL cSPeriod dSPeriod a1_p.Periods)]]⟩) (sub_gen [0] rfl rfl ⟨⟨_, rfl, .inl ⟨rfl, rfl⟩⟩, ⟨_, rfl, .inl ⟨rfl, rfl⟩⟩, ⟨_, rfl, .inl ⟨rfl, rfl⟩⟩, trivial⟩ ⟨⟨_, rfl, ⟨.inl ⟨rfl, rfl⟩, .inl ⟨rfl, rfl⟩, .inl ⟨rfl, rfl⟩, .inl ⟨rfl, rfl⟩, .inl ⟨rfl, rfl⟩, .inl ⟨rfl, rfl⟩, .inl ⟨rfl, rfl⟩, .inl ⟨rfl, rfl⟩, .inl ⟨rfl, rfl⟩, .inl ⟨rfl, rfl⟩, .inl ⟨rfl, rfl⟩, trivial⟩⟩, trivial⟩) ?_
  refine SOps.nil ?_
  refine SCode.seq ?_
  refine SCode.region (show SOps _ _ _ [0, 1] _ _ from ?_)
  refine SOps.q rfl (.plain rfl) rfl (q_move rfl rfl) ?_
  refine SOps.q rfl (.plain rfl) rfl (q_neq rfl rfl rfl) ?_
  refine SOps.sub (st' := ⟨[(0, .c (.vec a0_l.length 11 (gL cSProfile dSProfile a0_l))), (3, .c (.ptr 0 0)), (6, .c (.int .i64 c_1)), (12, .c (.bool ((!decide (c_1 = 0)))))], [.box [.int .i64 a1_p.ID, .int .i64 a1_p.Level, .int .i64 a1_p.Purpose, .int .i64 a1_p.Kind, .int .i64 a1_p.Conn, .str a1_p.Txn, .int .i64 a1_p.Span_From, .int .i64 a1_p.Span_To, .int .i64 a1_p.Start, .int .i64 a1_p.Duration, .vec a1_p.Periods.length 2 (gL cSPeriod dSPeriod a1_p.Periods)]]⟩) (sub_gen [0] rfl rfl ⟨⟨_, rfl, .inl ⟨rfl, rfl⟩⟩, ⟨_, rfl, .inl ⟨rfl, rfl⟩⟩, ⟨_, rfl, .inl ⟨rfl, rfl⟩⟩, ⟨_, rfl, .inl ⟨rfl, rfl⟩⟩, trivial⟩ ⟨⟨_, rfl, ⟨.inl ⟨rfl, rfl⟩, .inl ⟨rfl, rfl⟩, .inl ⟨rfl, rfl⟩, .inl ⟨rfl, rfl⟩, .inl ⟨rfl, rfl⟩, .inl ⟨rfl, rfl⟩, .inl ⟨rfl, rfl⟩, .inl ⟨rfl, rfl⟩, .inl ⟨rfl, rfl⟩, .inl ⟨rfl, rfl⟩, .inl ⟨rfl, rfl⟩, trivial⟩⟩, trivial⟩) ?_
  refine SOps.nil ?_
  rcases cond_out h with ⟨g3, h⟩ | ⟨g3, h⟩
  · refine SCode.cond_t rfl g3 ?_
    refine SCode.seq ?_
    refine SCode.region (show SOps _ _ _ [0, 1, 2, 3] _ _ from ?_)
    refine SOps.q rfl (.plain rfl) rfl (q_move rfl rfl) ?_
    refine SOps.q rfl (.plain rfl) rfl (q_move rfl rfl) ?_
    refine SOps.q rfl (.plain rfl) rfl (q_assign rfl rfl) ?_
    refine SOps.q rfl (.plain rfl) rfl (q_assign rfl rfl) ?_
    refine SOps.sub (st' := ⟨[(4, .c (.vec a0_l.length 11 (gL cSProfile dSProfile a0_l))), (5, .c (.int .i64 c_1))], []⟩) (sub_gen [] rfl rfl ⟨⟨_, rfl, .inl ⟨rfl, rfl⟩⟩, ⟨_, rfl, .inl ⟨rfl, rfl⟩⟩, trivial⟩ trivial) ?_
    refine SOps.nil ?_
    refine SCode.ret ?_
    obtain rfl := Option.some.inj h
    exact ⟨⟨[(4, .c (.vec a0_l.length 11 (gL cSProfile dSProfile a0_l))), (5, .c (.int .i64 c_1))], []⟩, _, sub_gen [] rfl rfl ⟨⟨_, rfl, .inl ⟨rfl, rfl⟩⟩, ⟨_, rfl, .inl ⟨rfl, rfl⟩⟩, trivial⟩ trivial, resA2 (v1 := .c (.vec a0_l.length 11 (gL cSProfile dSProfile a0_l))) (v2 := .c (.int .i64 c_1)) rfl rfl rfl, rfl⟩
  · refine SCode.cond_f rfl g3 ?_
    refine SCode.skip ?_
    refine SCode.seq ?_
    refine SCode.region (show SOps _ _ _ [0] _ _ from ?_)
    refine SOps.q rfl (.plain rfl) rfl (q_assign rfl rfl) ?_
    refine SOps.nilArrL (T := 26) (k := 11) cSProfile dSProfile (s := 7) rfl rfl ?_
    refine SOps.sub (st' := ⟨[(0, .c (.vec a0_l.length 11 (gL cSProfile dSProfile a0_l))), (3, .c (.ptr 0 0)), (7, .c (.own 1 (([] : List SProfile)).length))], [.box [.int .i64 a1_p.ID, .int .i64 a1_p.Level, .int .i64 a1_p.Purpose, .int .i64 a1_p.Kind, .int .i64 a1_p.Conn, .str a1_p.Txn, .int .i64 a1_p.Span_From, .int .i64 a1_p.Span_To, .int .i64 a1_p.Start, .int .i64 a1_p.Duration, .vec a1_p.Periods.length 2 (gL cSPeriod dSPeriod a1_p.Periods)], .arr 26 11 (([] : List SProfile)).length (gL cSProfile dSProfile (([] : List SProfile)))]⟩) (sub_gen [0, 1] rfl rfl ⟨⟨_, rfl, .inl ⟨rfl, rfl⟩⟩, ⟨_, rfl, .inl ⟨rfl, rfl⟩⟩, ⟨_, rfl, .inl ⟨rfl, rfl⟩⟩, trivial⟩ ⟨⟨_, rfl, ⟨.inl ⟨rfl, rfl⟩, .inl ⟨rfl, rfl⟩, .inl ⟨rfl, rfl⟩, .inl ⟨rfl, rfl⟩, .inl ⟨rfl, rfl⟩, .inl ⟨rfl, rfl⟩, .inl ⟨rfl, rfl⟩, .inl ⟨rfl, rfl⟩, .inl ⟨rfl, rfl⟩, .inl ⟨rfl, rfl⟩, .inl ⟨rfl, rfl⟩, trivial⟩⟩, ⟨_, _, rfl, rfl, fun _ _ _ _ => rfl⟩, trivial⟩) ?_
    refine SOps.nil ?_
    refine SCode.join (σ := (List SProfile)) (S := fun s => ⟨[(0, .c (.vec a0_l.length 11 (gL cSProfile dSProfile a0_l))), (3, .c (.ptr 0 0)), (7, .c (.own 1 s.length))], [.box [.int .i64 a1_p.ID, .int .i64 a1_p.Level, .int .i64 a1_p.Purpose, .int .i64 a1_p.Kind, .int .i64 a1_p.Conn, .str a1_p.Txn, .int .i64 a1_p.Span_From, .int .i64 a1_p.Span_To, .int .i64 a1_p.Start, .int .i64 a1_p.Duration, .vec a1_p.Periods.length 2 (gL cSPeriod dSPeriod a1_p.Periods)], .arr 26 11 s.length (gL cSProfile dSProfile s)]⟩) (g := fun s => chargenetref15_Put_p7 a0_l a1_p s = some r) ?_ ?_
    · rintro o1_4 h
      show SCode _ _ _ ⟨[(0, .c (.vec a0_l.length 11 (gL cSProfile dSProfile a0_l))), (3, .c (.ptr 0 0)), (7, .c (.own 1 o1_4.length))], [.box [.int .i64 a1_p.ID, .int .i64 a1_p.Level, .int .i64 a1_p.Purpose, .int .i64 a1_p.Kind, .int .i64 a1_p.Conn, .str a1_p.Txn, .int .i64 a1_p.Span_From, .int .i64 a1_p.Span_To, .int .i64 a1_p.Start, .int .i64 a1_p.Duration, .vec a1_p.Periods.length 2 (gL cSPeriod dSPeriod a1_p.Periods)], .arr 26 11 o1_4.length (gL cSProfile dSProfile o1_4)]⟩ _
      replace h : chargenetref15_Put_p7 a0_l a1_p o1_4 = some r := h
      unfold chargenetref15_Put_p7 at h
      refine SCode.seq ?_
      refine SCode.seq ?_
      refine SCode.region (show SOps _ _ _ [0, 1, 2] _ _ from ?_)
      refine SOps.q rfl (.plain rfl) rfl (q_move rfl rfl) ?_
      refine SOps.q rfl (.plain rfl) rfl (q_len_own rfl rfl sl31) ?_
      refine SOps.q rfl (.plain rfl) rfl (q_geq rfl rfl rfl) ?_
      refine SOps.sub (st' := ⟨[(0, .c (.vec a0_l.length 11 (gL cSProfile dSProfile a0_l))), (3, .c (.ptr 0 0)), (7, .c (.own 1 o1_4.length)), (47, .c (.bool (decide (16 ≤ ((o1_4).length : Int)))))], [.box [.int .i64 a1_p.ID, .int .i64 a1_p.Level, .int .i64 a1_p.Purpose, .int .i64 a1_p.Kind, .int .i64 a1_p.Conn, .str a1_p.Txn, .int .i64 a1_p.Span_From, .int .i64 a1_p.Span_To, .int .i64 a1_p.Start, .int .i64 a1_p.Duration, .vec a1_p.Periods.length 2 (gL cSPeriod dSPeriod a1_p.Periods)], .arr 26 11 o1_4.length (gL cSProfile dSProfile o1_4)]⟩) (sub_gen [0, 1] rfl rfl ⟨⟨_, rfl, .inl ⟨rfl, rfl⟩⟩, ⟨_, rfl, .inl ⟨rfl, rfl⟩⟩, ⟨_, rfl, .inl ⟨rfl, rfl⟩⟩, ⟨_, rfl, .inl ⟨rfl, rfl⟩⟩, trivial⟩ ⟨⟨_, rfl, ⟨.inl ⟨rfl, rfl⟩, .inl ⟨rfl, rfl⟩, .inl ⟨rfl, rfl⟩, .inl ⟨rfl, rfl⟩, .inl ⟨rfl, rfl⟩, .inl ⟨rfl, rfl⟩, .inl ⟨rfl, rfl⟩, .inl ⟨rfl, rfl⟩, .inl ⟨rfl, rfl⟩, .inl ⟨rfl, rfl⟩, .inl ⟨rfl, rfl⟩, trivial⟩⟩, ⟨_, _, rfl, rfl, fun _ _ _ _ => rfl⟩, trivial⟩) ?_
      refine SOps.nil ?_
      rcases cond_out h with ⟨g5, h⟩ | ⟨g5, h⟩
      · refine SCode.cond_t rfl g5 ?_
        refine SCode.seq ?_
        refine SCode.region (show SOps _ _ _ [0, 1, 2] _ _ from ?_)
        refine SOps.q rfl (.plain rfl) rfl (q_move rfl rfl) ?_
        refine SOps.q rfl (.plain rfl) rfl (q_assign rfl rfl) ?_
        refine SOps.q rfl (.plain rfl) rfl (q_assign rfl rfl) ?_
        refine SOps.sub (st' := ⟨[(4, .c (.vec a0_l.length 11 (gL cSProfile dSProfile a0_l))), (5, .c (.int .i64 3))], []⟩) (sub_gen [] rfl rfl ⟨⟨_, rfl, .inl ⟨rfl, rfl⟩⟩, ⟨_, rfl, .inl ⟨rfl, rfl⟩⟩, trivial⟩ trivial) ?_
        refine SOps.nil ?_
        refine SCode.ret ?_
        obtain rfl := Option.some.inj h
        exact ⟨⟨[(4, .c (.vec a0_l.length 11 (gL cSProfile dSProfile a0_l))), (5, .c (.int .i64 3))], []⟩, _, sub_gen [] rfl rfl ⟨⟨_, rfl, .inl ⟨rfl, rfl⟩⟩, ⟨_, rfl, .inl ⟨rfl, rfl⟩⟩, trivial⟩ trivial, resA2 (v1 := .c (.vec a0_l.length 11 (gL cSProfile dSProfile a0_l))) (v2 := .c (.int .i64 3)) rfl rfl rfl, rfl⟩
      · refine SCode.cond_f rfl g5 ?_
        refine SCode.skip ?_
        refine SCode.seq ?_
        obtain ⟨g6, h⟩ := guard_out h
        refine SCode.region (show SOps _ _ _ [0, 1, 2, 3, 4, 5] _ _ from ?_)
        refine SOps.q rfl (.plain rfl) rfl (q_move rfl rfl) ?_
        refine SOps.q rfl (.plain rfl) rfl (q_load_ptr_all rfl rfl rfl rfl rfl ty26) ?_
        refine SOps.q rfl (.plain rfl) rfl (q_bsliceL (c := cSProfile) (d0 := dSProfile) [a1_p] rfl rfl sl31 z26 rfl rfl rfl rfl rfl rfl rfl) ?_
        refine SOps.e rfl (.plain rfl) (e_appendL (c := cSProfile) (d0 := dSProfile) (l := o1_4) (l2 := [a1_p]) rfl rfl rfl rfl rfl rfl (.inl rfl) sl31 z26 rfl rfl oneSProfile g6.1 g6.2) ?_
        refine SOps.q rfl (.plain rfl) rfl (q_assign rfl rfl) ?_
        refine SOps.q rfl (.plain rfl) rfl (q_assign rfl rfl) ?_
        refine SOps.sub (st' := ⟨[(4, .c (.own 0 (o1_4 ++ ([a1_p])).length)), (5, .c (.int .i64 0))], [.arr 26 11 (o1_4 ++ ([a1_p])).length (gL cSProfile dSProfile (o1_4 ++ ([a1_p])))]⟩) (sub_gen [2] rfl rfl ⟨⟨_, rfl, .inl ⟨rfl, rfl⟩⟩, ⟨_, rfl, .inl ⟨rfl, rfl⟩⟩, trivial⟩ ⟨⟨_, _, rfl, rfl, fun _ _ _ _ => rfl⟩, trivial⟩) ?_
        refine SOps.nil ?_
        refine SCode.ret ?_
        obtain rfl := Option.some.inj h
        exact ⟨⟨[(4, .c (.vec (o1_4 ++ ([a1_p])).length 11 (gL cSProfile dSProfile (o1_4 ++ ([a1_p]))))), (5, .c (.int .i64 0))], []⟩, _, sub_gen [] rfl rfl ⟨⟨_, rfl, .inr (.inl ⟨_, _, _, _, _, _, _, rfl, rfl, rfl, Nat.le_refl _, fun _ _ _ _ => rfl, by decide⟩)⟩, ⟨_, rfl, .inl ⟨rfl, rfl⟩⟩, trivial⟩ trivial, resA2 (v1 := .c (.vec (o1_4 ++ ([a1_p])).length 11 (gL cSProfile dSProfile (o1_4 ++ ([a1_p]))))) (v2 := .c (.int .i64 0)) rfl rfl rfl, rfl⟩
    · refine SCode.seq ?_
      refine SCode.region (show SOps _ _ _ [0] _ _ from ?_)
      refine SOps.q rfl (.plain rfl) rfl (q_assign rfl rfl) ?_
      refine SOps.sub (st' := ⟨[(0, .c (.vec a0_l.length 11 (gL cSProfile dSProfile a0_l))), (3, .c (.ptr 0 0)), (7, .c (.own 1 (([] : List SProfile)).length)), (8, .c (.int .i64 0))], [.box [.int .i64 a1_p.ID, .int .i64 a1_p.Level, .int .i64 a1_p.Purpose, .int .i64 a1_p.Kind, .int .i64 a1_p.Conn, .str a1_p.Txn, .int .i64 a1_p.Span_From, .int .i64 a1_p.Span_To, .int .i64 a1_p.Start, .int .i64 a1_p.Duration, .vec a1_p.Periods.length 2 (gL cSPeriod dSPeriod a1_p.Periods)], .arr 26 11 (([] : List SProfile)).length (gL cSProfile dSProfile (([] : List SProfile)))]⟩) (sub_gen [0, 1] rfl rfl ⟨⟨_, rfl, .inl ⟨rfl, rfl⟩⟩, ⟨_, rfl, .inl ⟨rfl, rfl⟩⟩, ⟨_, rfl, .inl ⟨rfl, rfl⟩⟩, ⟨_, rfl, .inl ⟨rfl, rfl⟩⟩, trivial⟩ ⟨⟨_, rfl, ⟨.inl ⟨rfl, rfl⟩, .inl ⟨rfl, rfl⟩, .inl ⟨rfl, rfl⟩, .inl ⟨rfl, rfl⟩, .inl ⟨rfl, rfl⟩, .inl ⟨rfl, rfl⟩, .inl ⟨rfl, rfl⟩, .inl ⟨rfl, rfl⟩, .inl ⟨rfl, rfl⟩, .inl ⟨rfl, rfl⟩, .inl ⟨rfl, rfl⟩, trivial⟩⟩, ⟨_, _, rfl, rfl, fun _ _ _ _ => rfl⟩, trivial⟩) ?_
      refine SOps.nil ?_
      refine SCode.block ?_
      refine SCode.sub (st' := ⟨[(0, .c (.vec a0_l.length 11 (gL cSProfile dSProfile a0_l))), (3, .c (.ptr 0 0)), (7, .c (.own 1 (([] : List SProfile)).length)), (8, .c (.int .i64 0))], [.box [.int .i64 a1_p.ID, .int .i64 a1_p.Level, .int .i64 a1_p.Purpose, .int .i64 a1_p.Kind, .int .i64 a1_p.Conn, .str a1_p.Txn, .int .i64 a1_p.Span_From, .int .i64 a1_p.Span_To, .int .i64 a1_p.Start, .int .i64 a1_p.Duration, .vec a1_p.Periods.length 2 (gL cSPeriod dSPeriod a1_p.Periods)], .arr 26 11 (([] : List SProfile)).length (gL cSProfile dSProfile (([] : List SProfile)))]⟩) (sub_gen [0, 1] rfl rfl ⟨⟨_, rfl, .inl ⟨rfl, rfl⟩⟩, ⟨_, rfl, .inl ⟨rfl, rfl⟩⟩, ⟨_, rfl, .inl ⟨rfl, rfl⟩⟩, ⟨_, rfl, .inl ⟨rfl, rfl⟩⟩, trivial⟩ ⟨⟨_, rfl, ⟨.inl ⟨rfl, rfl⟩, .inl ⟨rfl, rfl⟩, .inl ⟨rfl, rfl⟩, .inl ⟨rfl, rfl⟩, .inl ⟨rfl, rfl⟩, .inl ⟨rfl, rfl⟩, .inl ⟨rfl, rfl⟩, .inl ⟨rfl, rfl⟩, .inl ⟨rfl, rfl⟩, .inl ⟨rfl, rfl⟩, .inl ⟨rfl, rfl⟩, trivial⟩⟩, ⟨_, _, rfl, rfl, fun _ _ _ _ => rfl⟩, trivial⟩) ?_
      refine (SCode.loop (σ := Nat × (Int × (List SProfile))) (S := fun s => ⟨[(0, .c (.vec a0_l.length 11 (gL cSProfile dSProfile a0_l))), (3, .c (.ptr 0 0)), (7, .c (.own 1 s.2.2.length)), (8, .c (.int .i64 s.2.1))], [.box [.int .i64 a1_p.ID, .int .i64 a1_p.Level, .int .i64 a1_p.Purpose, .int .i64 a1_p.Kind, .int .i64 a1_p.Conn, .str a1_p.Txn, .int .i64 a1_p.Span_From, .int .i64 a1_p.Span_To, .int .i64 a1_p.Start, .int .i64 a1_p.Duration, .vec a1_p.Periods.length 2 (gL cSPeriod dSPeriod a1_p.Periods)], .arr 26 11 s.2.2.length (gL cSProfile dSProfile s.2.2)]⟩) (g := fun s => chargenetref15_Put_l32 F a0_l a1_p s.1 s.2.1 s.2.2 = some r) (μ := fun s => s.1) (F, (0, ([] : List SProfile))) h ?_)
      rintro ⟨n_32, ⟨i_19, o1_20⟩⟩ h
      replace h : chargenetref15_Put_l32 F a0_l a1_p n_32 i_19 o1_20 = some r := h
      show SCode _ _ _ ⟨[(0, .c (.vec a0_l.length 11 (gL cSProfile dSProfile a0_l))), (3, .c (.ptr 0 0)), (7, .c (.own 1 o1_20.length)), (8, .c (.int .i64 i_19))], [.box [.int .i64 a1_p.ID, .int .i64 a1_p.Level, .int .i64 a1_p.Purpose, .int .i64 a1_p.Kind, .int .i64 a1_p.Conn, .str a1_p.Txn, .int .i64 a1_p.Span_From, .int .i64 a1_p.Span_To, .int .i64 a1_p.Start, .int .i64 a1_p.Duration, .vec a1_p.Periods.length 2 (gL cSPeriod dSPeriod a1_p.Periods)], .arr 26 11 o1_20.length (gL cSProfile dSProfile o1_20)]⟩ _
      cases n_32 with
      | zero => cases h
      | succ n_32 =>
        replace h : chargenetref15_Put_b32 F a0_l a1_p (fun i_19 o1_20 => chargenetref15_Put_l32 F a0_l a1_p n_32 i_19 o1_20) i_19 o1_20 = some r := h
        unfold chargenetref15_Put_b32 at h
        refine SCode.seq ?_
        refine SCode.seq ?_
        refine SCode.region (show SOps _ _ _ [0, 1, 2, 3] _ _ from ?_)
        refine SOps.q rfl (.plain rfl) rfl (q_move rfl rfl) ?_
        refine SOps.q rfl (.plain rfl) rfl (q_move rfl rfl) ?_
        refine SOps.q rfl (.plain rfl) rfl (q_len_vec rfl rfl sl31) ?_
        refine SOps.q rfl (.plain rfl) rfl (q_lss rfl rfl rfl) ?_
        refine SOps.sub (st' := ⟨[(0, .c (.vec a0_l.length 11 (gL cSProfile dSProfile a0_l))), (3, .c (.ptr 0 0)), (7, .c (.own 1 o1_20.length)), (8, .c (.int .i64 i_19)), (18, .c (.bool (decide (i_19 < ((a0_l).length : Int)))))], [.box [.int .i64 a1_p.ID, .int .i64 a1_p.Level, .int .i64 a1_p.Purpose, .int .i64 a1_p.Kind, .int .i64 a1_p.Conn, .str a1_p.Txn, .int .i64 a1_p.Span_From, .int .i64 a1_p.Span_To, .int .i64 a1_p.Start, .int .i64 a1_p.Duration, .vec a1_p.Periods.length 2 (gL cSPeriod dSPeriod a1_p.Periods)], .arr 26 11 o1_20.length (gL cSProfile dSProfile o1_20)]⟩) (sub_gen [0, 1] rfl rfl ⟨⟨_, rfl, .inl ⟨rfl, rfl⟩⟩, ⟨_, rfl, .inl ⟨rfl, rfl⟩⟩, ⟨_, rfl, .inl ⟨rfl, rfl⟩⟩, ⟨_, rfl, .inl ⟨rfl, rfl⟩⟩, ⟨_, rfl, .inl ⟨rfl, rfl⟩⟩, trivial⟩ ⟨⟨_, rfl, ⟨.inl ⟨rfl, rfl⟩, .inl ⟨rfl, rfl⟩, .inl ⟨rfl, rfl⟩, .inl ⟨rfl, rfl⟩, .inl ⟨rfl, rfl⟩, .inl ⟨rfl, rfl⟩, .inl ⟨rfl, rfl⟩, .inl ⟨rfl, rfl⟩, .inl ⟨rfl, rfl⟩, .inl ⟨rfl, rfl⟩, .inl ⟨rfl, rfl⟩, trivial⟩⟩, ⟨_, _, rfl, rfl, fun _ _ _ _ => rfl⟩, trivial⟩) ?_
        refine SOps.nil ?_
        rcases cond_out h with ⟨g33, h⟩ | ⟨g33, h⟩
        · refine SCode.cond_t rfl g33 ?_
          refine SCode.skip ?_
          refine SCode.join (σ := (List SProfile)) (S := fun s => ⟨[(0, .c (.vec a0_l.length 11 (gL cSProfile dSProfile a0_l))), (3, .c (.ptr 0 0)), (7, .c (.own 1 s.length)), (8, .c (.int .i64 i_19))], [.box [.int .i64 a1_p.ID, .int .i64 a1_p.Level, .int .i64 a1_p.Purpose, .int .i64 a1_p.Kind, .int .i64 a1_p.Conn, .str a1_p.Txn, .int .i64 a1_p.Span_From, .int .i64 a1_p.Span_To, .int .i64 a1_p.Start, .int .i64 a1_p.Duration, .vec a1_p.Periods.length 2 (gL cSPeriod dSPeriod a1_p.Periods)], .arr 26 11 s.length (gL cSProfile dSProfile s)]⟩) (g := fun s => chargenetref15_Put_p35 i_19 (fun i_19 o1_20 => chargenetref15_Put_l32 F a0_l a1_p n_32 i_19 o1_20) s = some r) ?_ ?_
          · rintro o1_34 h
            show SCode _ _ _ ⟨[(0, .c (.vec a0_l.length 11 (gL cSProfile dSProfile a0_l))), (3, .c (.ptr 0 0)), (7, .c (.own 1 o1_34.length)), (8, .c (.int .i64 i_19))], [.box [.int .i64 a1_p.ID, .int .i64 a1_p.Level, .int .i64 a1_p.Purpose, .int .i64 a1_p.Kind, .int .i64 a1_p.Conn, .str a1_p.Txn, .int .i64 a1_p.Span_From, .int .i64 a1_p.Span_To, .int .i64 a1_p.Start, .int .i64 a1_p.Duration, .vec a1_p.Periods.length 2 (gL cSPeriod dSPeriod a1_p.Periods)], .arr 26 11 o1_34.length (gL cSProfile dSProfile o1_34)]⟩ _
            replace h : chargenetref15_Put_p35 i_19 (fun i_19 o1_20 => chargenetref15_Put_l32 F a0_l a1_p n_32 i_19 o1_20) o1_34 = some r := h
            unfold chargenetref15_Put_p35 at h
            refine SCode.region (show SOps _ _ _ [0, 1, 2] _ _ from ?_)
            refine SOps.q rfl (.plain rfl) rfl (q_move rfl rfl) ?_
            refine SOps.q rfl (.plain rfl) rfl (q_add rfl rfl rfl) ?_
            refine SOps.q rfl (.plain rfl) rfl (q_assign rfl rfl) ?_
            refine SOps.sub (st' := ⟨[(0, .c (.vec a0_l.length 11 (gL cSProfile dSProfile a0_l))), (3, .c (.ptr 0 0)), (7, .c (.own 1 o1_34.length)), (8, .c (.int .i64 (IntKind.wrap .i64 (i_19 + 1))))], [.box [.int .i64 a1_p.ID, .int .i64 a1_p.Level, .int .i64 a1_p.Purpose, .int .i64 a1_p.Kind, .int .i64 a1_p.Conn, .str a1_p.Txn, .int .i64 a1_p.Span_From, .int .i64 a1_p.Span_To, .int .i64 a1_p.Start, .int .i64 a1_p.Duration, .vec a1_p.Periods.length 2 (gL cSPeriod dSPeriod a1_p.Periods)], .arr 26 11 o1_34.length (gL cSProfile dSProfile o1_34)]⟩) (sub_gen [0, 1] rfl rfl ⟨⟨_, rfl, .inl ⟨rfl, rfl⟩⟩, ⟨_, rfl, .inl ⟨rfl, rfl⟩⟩, ⟨_, rfl, .inl ⟨rfl, rfl⟩⟩, ⟨_, rfl, .inl ⟨rfl, rfl⟩⟩, trivial⟩ ⟨⟨_, rfl, ⟨.inl ⟨rfl, rfl⟩, .inl ⟨rfl, rfl⟩, .inl ⟨rfl, rfl⟩, .inl ⟨rfl, rfl⟩, .inl ⟨rfl, rfl⟩, .inl ⟨rfl, rfl⟩, .inl ⟨rfl, rfl⟩, .inl ⟨rfl, rfl⟩, .inl ⟨rfl, rfl⟩, .inl ⟨rfl, rfl⟩, .inl ⟨rfl, rfl⟩, trivial⟩⟩, ⟨_, _, rfl, rfl, fun _ _ _ _ => rfl⟩, trivial⟩) ?_
            refine SOps.nil ?_
            exact ⟨(n_32, (IntKind.wrap .i64 (i_19 + 1), o1_34)), h, Nat.lt_succ_self n_32, sub_gen [0, 1] rfl rfl ⟨⟨_, rfl, .inl ⟨rfl, rfl⟩⟩, ⟨_, rfl, .inl ⟨rfl, rfl⟩⟩, ⟨_, rfl, .inl ⟨rfl, rfl⟩⟩, ⟨_, rfl, .inl ⟨rfl, rfl⟩⟩, trivial⟩ ⟨⟨_, rfl, ⟨.inl ⟨rfl, rfl⟩, .inl ⟨rfl, rfl⟩, .inl ⟨rfl, rfl⟩, .inl ⟨rfl, rfl⟩, .inl ⟨rfl, rfl⟩, .inl ⟨rfl, rfl⟩, .inl ⟨rfl, rfl⟩, .inl ⟨rfl, rfl⟩, .inl ⟨rfl, rfl⟩, .inl ⟨rfl, rfl⟩, .inl ⟨rfl, rfl⟩, trivial⟩⟩, ⟨_, _, rfl, rfl, fun _ _ _ _ => rfl⟩, trivial⟩⟩
          · refine SCode.block ?_
            refine SCode.seq ?_
            obtain ⟨g36, h⟩ := guard_out h
            rcases cond_out h with ⟨g37, h⟩ | ⟨g37, h⟩
            · obtain ⟨g38, h⟩ := guard_out h
              obtain ⟨c_39, g40, h⟩ := bind_out h
              try dsimp only at h
              refine SCode.draw (s' := [(37, .c (.bool ((!c_39)))), (36, .c (.bool ((!c_39)))), (35, .c (.bool c_39)), (34, .a [.int .i64 a1_p.ID, .int .i64 a1_p.Level, .int .i64 a1_p.Purpose, .int .i64 a1_p.Kind, .int .i64 a1_p.Conn, .str a1_p.Txn, .int .i64 a1_p.Span_From, .int .i64 a1_p.Span_To, .int .i64 a1_p.Start, .int .i64 a1_p.Duration, .vec a1_p.Periods.length 2 (gL cSPeriod dSPeriod a1_p.Periods)]), (33, .a [.int .i64 ((a0_l.getD i_19.toNat dSProfile).ID), .int .i64 ((a0_l.getD i_19.toNat dSProfile).Level), .int .i64 ((a0_l.getD i_19.toNat dSProfile).Purpose), .int .i64 ((a0_l.getD i_19.toNat dSProfile).Kind), .int .i64 ((a0_l.getD i_19.toNat dSProfile).Conn), .str ((a0_l.getD i_19.toNat dSProfile).Txn), .int .i64 ((a0_l.getD i_19.toNat dSProfile).Span_From), .int .i64 ((a0_l.getD i_19.toNat dSProfile).Span_To), .int .i64 ((a0_l.getD i_19.toNat dSProfile).Start), .int .i64 ((a0_l.getD i_19.toNat dSProfile).Duration), .vec ((a0_l.getD i_19.toNat dSProfile).Periods).length 2 (gL cSPeriod dSPeriod ((a0_l.getD i_19.toNat dSProfile).Periods))]), (32, .c (.eptr 11 (cSProfile (a0_l.getD i_19.toNat dSProfile)) 0)), (31, .c (.int .i64 i_19)), (30, .c (.vec a0_l.length 11 (gL cSProfile dSProfile a0_l))), (29, .c (.bool ((!decide ((a0_l.getD i_19.toNat dSProfile).ID = a1_p.ID))))), (28, .c (.bool ((!decide ((a0_l.getD i_19.toNat dSProfile).ID = a1_p.ID))))), (27, .c (.int .i64 a1_p.ID)), (26, .c (.ptr 0 0)), (25, .c (.int .i64 ((a0_l.getD i_19.toNat dSProfile).ID))), (24, .c (.eptr 11 (cSProfile (a0_l.getD i_19.toNat dSProfile)) 0)), (23, .c (.eptr 11 (cSProfile (a0_l.getD i_19.toNat dSProfile)) 0)), (22, .c (.int .i64 i_19)), (21, .c (.vec a0_l.length 11 (gL cSProfile dSProfile a0_l))), (0, .c (.vec a0_l.length 11 (gL cSProfile dSProfile a0_l))), (3, .c (.ptr 0 0)), (7, .c (.own 1 o1_20.length)), (8, .c (.int .i64 i_19)), (18, .c (.bool (decide (i_19 < ((a0_l).length : Int)))))]) mixed [[], [], [0, 1], [0, 1, 2], [0, 1, 2, 3], [], [5], [0, 1, 2, 3, 4, 5, 6], [0, 1, 2, 3, 4, 5, 6, 7], [0, 1, 2, 3, 4, 5, 6, 7, 8], [0, 1, 2, 3, 4, 5, 6, 7, 8], [0, 1, 2, 3, 4, 5, 6, 7, 8, 9, 10], [0, 1, 2, 3, 4, 5, 6, 7, 8, 9, 10, 11], [0, 1, 2, 3, 4, 5, 6, 7, 8], [0, 1, 2, 3, 4, 5, 6, 7, 8, 9, 10, 11, 12, 13], [0, 1, 2, 3, 4, 5, 6, 7, 8, 9, 10, 11, 12, 13, 14], [0, 1, 2, 3, 4, 5, 6, 7, 8, 9, 10, 11, 12, 13, 14, 15]] 17 0 rfl rfl ?_ ?_
              · refine QChain.run rfl (.plain rfl) rfl (q_move rfl rfl) ?_
                refine QChain.run rfl (.plain rfl) rfl (q_move rfl rfl) ?_
                refine QChain.run rfl (.plain rfl) rfl (q_index_vec rfl rfl rfl sl31 rfl g36.1 g36.2) ?_
                refine QChain.run rfl (.plain rfl) rfl (q_field_eptr rfl rfl fd26_0 rfl) ?_
                refine QChain.run rfl (.plain rfl) rfl (q_load_eptr rfl rfl ty3) ?_
                refine QChain.run rfl (.plain rfl) rfl (q_field_ptr rfl rfl fd26_0) ?_
                refine QChain.run rfl (.plain rfl) rfl (q_load_ptr rfl rfl rfl rfl ty3) ?_
                refine QChain.run rfl (.plain rfl) rfl (q_neq rfl rfl rfl) ?_
                refine QChain.run rfl (.plain rfl) rfl (q_move rfl rfl) ?_
                refine QChain.run rfl (.guard 8 29 true rfl rfl (gT g37)) rfl (q_move rfl rfl) ?_
                refine QChain.run rfl (.guard 8 29 true rfl rfl (gT g37)) rfl (q_move rfl rfl) ?_
                refine QChain.run rfl (.guard 8 29 true rfl rfl (gT g37)) rfl (q_index_vec rfl rfl rfl sl31 rfl g38.1 g38.2) ?_
                refine QChain.run rfl (.guard 8 29 true rfl rfl (gT g37)) rfl (q_load_eptr_all rfl rfl rfl ty26) ?_
                refine QChain.run rfl (.guard 8 29 true rfl rfl (gT g37)) rfl (q_load_ptr_all rfl rfl rfl rfl rfl ty26) ?_
                refine QChain.run rfl (.guard 8 29 true rfl rfl (gT g37)) rfl (q_call (chargenetref15_slot_ok F (a0_l.getD i_19.toNat dSProfile) a1_p c_39 g40) [] rfl fn36 ⟨⟨rfl, rfl⟩, ⟨rfl, rfl⟩, trivial⟩ (.inl rfl)) ?_
                refine QChain.run rfl (.guard 8 29 true rfl rfl (gT g37)) rfl (q_not rfl rfl) ?_
                refine QChain.run rfl (.plain rfl) rfl (q_pick_t rfl rfl g37 rfl) ?_
                exact QChain.nil _ _
              refine (show SOps _ _ _ [] _ _ from ?_)
              refine SOps.sub (st' := ⟨[(0, .c (.vec a0_l.length 11 (gL cSProfile dSProfile a0_l))), (3, .c (.ptr 0 0)), (7, .c (.own 1 o1_20.length)), (8, .c (.int .i64 i_19)), (37, .c (.bool ((!c_39))))], [.box [.int .i64 a1_p.ID, .int .i64 a1_p.Level, .int .i64 a1_p.Purpose, .int .i64 a1_p.Kind, .int .i64 a1_p.Conn, .str a1_p.Txn, .int .i64 a1_p.Span_From, .int .i64 a1_p.Span_To, .int .i64 a1_p.Start, .int .i64 a1_p.Duration, .vec a1_p.Periods.length 2 (gL cSPeriod dSPeriod a1_p.Periods)], .arr 26 11 o1_20.length (gL cSProfile dSProfile o1_20)]⟩) (sub_gen [0, 1] rfl rfl ⟨⟨_, rfl, .inl ⟨rfl, rfl⟩⟩, ⟨_, rfl, .inl ⟨rfl, rfl⟩⟩, ⟨_, rfl, .inl ⟨rfl, rfl⟩⟩, ⟨_, rfl, .inl ⟨rfl, rfl⟩⟩, ⟨_, rfl, .inl ⟨rfl, rfl⟩⟩, trivial⟩ ⟨⟨_, rfl, ⟨.inl ⟨rfl, rfl⟩, .inl ⟨rfl, rfl⟩, .inl ⟨rfl, rfl⟩, .inl ⟨rfl, rfl⟩, .inl ⟨rfl, rfl⟩, .inl ⟨rfl, rfl⟩, .inl ⟨rfl, rfl⟩, .inl ⟨rfl, rfl⟩, .inl ⟨rfl, rfl⟩, .inl ⟨rfl, rfl⟩, .inl ⟨rfl, rfl⟩, trivial⟩⟩, ⟨_, _, rfl, rfl, fun _ _ _ _ => rfl⟩, trivial⟩) ?_
              refine SOps.nil ?_
              rcases cond_out h with ⟨g41, h⟩ | ⟨g41, h⟩
              · refine SCode.cond_t rfl g41 ?_
                obtain ⟨g42, h⟩ := guard_out h
                obtain ⟨g43, h⟩ := guard_out h
                refine SCode.region (show SOps _ _ _ [0, 1, 2, 3, 4, 5, 6, 7] _ _ from ?_)
                refine SOps.q rfl (.plain rfl) rfl (q_move rfl rfl) ?_
                refine SOps.q rfl (.plain rfl) rfl (q_move rfl rfl) ?_
                refine SOps.q rfl (.plain rfl) rfl (q_move rfl rfl) ?_
                refine SOps.q rfl (.plain rfl) rfl (q_index_vec rfl rfl rfl sl31 rfl g42.1 g42.2) ?_
                refine SOps.q rfl (.plain rfl) rfl (q_load_eptr_all rfl rfl rfl ty26) ?_
                refine SOps.q rfl (.plain rfl) rfl (q_bsliceL (c := cSProfile) (d0 := dSProfile) [a0_l.getD i_19.toNat dSProfile] rfl rfl sl31 z26 rfl rfl rfl rfl rfl rfl rfl) ?_
                refine SOps.e rfl (.plain rfl) (e_appendL (c := cSProfile) (d0 := dSProfile) (l := o1_20) (l2 := [a0_l.getD i_19.toNat dSProfile]) rfl rfl rfl rfl rfl rfl (.inl rfl) sl31 z26 rfl rfl oneSProfile g43.1 g43.2) ?_
                refine SOps.q rfl (.plain rfl) rfl (q_assign rfl rfl) ?_
                refine SOps.sub (st' := ⟨[(0, .c (.vec a0_l.length 11 (gL cSProfile dSProfile a0_l))), (3, .c (.ptr 0 0)), (7, .c (.own 1 (o1_20 ++ ([a0_l.getD i_19.toNat dSProfile])).length)), (8, .c (.int .i64 i_19))], [.box [.int .i64 a1_p.ID, .int .i64 a1_p.Level, .int .i64 a1_p.Purpose, .int .i64 a1_p.Kind, .int .i64 a1_p.Conn, .str a1_p.Txn, .int .i64 a1_p.Span_From, .int .i64 a1_p.Span_To, .int .i64 a1_p.Start, .int .i64 a1_p.Duration, .vec a1_p.Periods.length 2 (gL cSPeriod dSPeriod a1_p.Periods)], .arr 26 11 (o1_20 ++ ([a0_l.getD i_19.toNat dSProfile])).length (gL cSProfile dSProfile (o1_20 ++ ([a0_l.getD i_19.toNat dSProfile])))]⟩) (sub_gen [0, 2] rfl rfl ⟨⟨_, rfl, .inl ⟨rfl, rfl⟩⟩, ⟨_, rfl, .inl ⟨rfl, rfl⟩⟩, ⟨_, rfl, .inl ⟨rfl, rfl⟩⟩, ⟨_, rfl, .inl ⟨rfl, rfl⟩⟩, trivial⟩ ⟨⟨_, rfl, ⟨.inl ⟨rfl, rfl⟩, .inl ⟨rfl, rfl⟩, .inl ⟨rfl, rfl⟩, .inl ⟨rfl, rfl⟩, .inl ⟨rfl, rfl⟩, .inl ⟨rfl, rfl⟩, .inl ⟨rfl, rfl⟩, .inl ⟨rfl, rfl⟩, .inl ⟨rfl, rfl⟩, .inl ⟨rfl, rfl⟩, .inl ⟨rfl, rfl⟩, trivial⟩⟩, ⟨_, _, rfl, rfl, fun _ _ _ _ => rfl⟩, trivial⟩) ?_
                refine SOps.nil ?_
                exact ⟨o1_20 ++ ([a0_l.getD i_19.toNat dSProfile]), h, sub_gen [0, 1] rfl rfl ⟨⟨_, rfl, .inl ⟨rfl, rfl⟩⟩, ⟨_, rfl, .inl ⟨rfl, rfl⟩⟩, ⟨_, rfl, .inl ⟨rfl, rfl⟩⟩, ⟨_, rfl, .inl ⟨rfl, rfl⟩⟩, trivial⟩ ⟨⟨_, rfl, ⟨.inl ⟨rfl, rfl⟩, .inl ⟨rfl, rfl⟩, .inl ⟨rfl, rfl⟩, .inl ⟨rfl, rfl⟩, .inl ⟨rfl, rfl⟩, .inl ⟨rfl, rfl⟩, .inl ⟨rfl, rfl⟩, .inl ⟨rfl, rfl⟩, .inl ⟨rfl, rfl⟩, .inl ⟨rfl, rfl⟩, .inl ⟨rfl, rfl⟩, trivial⟩⟩, ⟨_, _, rfl, rfl, fun _ _ _ _ => rfl⟩, trivial⟩⟩
              · refine SCode.cond_f rfl g41 ?_
                refine SCode.skip ?_
                exact ⟨o1_20, h, sub_gen [0, 1] rfl rfl ⟨⟨_, rfl, .inl ⟨rfl, rfl⟩⟩, ⟨_, rfl, .inl ⟨rfl, rfl⟩⟩, ⟨_, rfl, .inl ⟨rfl, rfl⟩⟩, ⟨_, rfl, .inl ⟨rfl, rfl⟩⟩, trivial⟩ ⟨⟨_, rfl, ⟨.inl ⟨rfl, rfl⟩, .inl ⟨rfl, rfl⟩, .inl ⟨rfl, rfl⟩, .inl ⟨rfl, rfl⟩, .inl ⟨rfl, rfl⟩, .inl ⟨rfl, rfl⟩, .inl ⟨rfl, rfl⟩, .inl ⟨rfl, rfl⟩, .inl ⟨rfl, rfl⟩, .inl ⟨rfl, rfl⟩, .inl ⟨rfl, rfl⟩, trivial⟩⟩, ⟨_, _, rfl, rfl, fun _ _ _ _ => rfl⟩, trivial⟩⟩
            · refine SCode.draw (s' := [(37, .c (.bool false)), (36, .c (.raw (.tuple #[]))), (35, .c (.raw (.tuple #[]))), (34, .c (.raw (.tuple #[]))), (33, .c (.raw (.tuple #[]))), (32, .c (.raw (.tuple #[]))), (31, .c (.raw (.tuple #[]))), (30, .c (.raw (.tuple #[]))), (29, .c (.bool ((!decide ((a0_l.getD i_19.toNat dSProfile).ID = a1_p.ID))))), (28, .c (.bool ((!decide ((a0_l.getD i_19.toNat dSProfile).ID = a1_p.ID))))), (27, .c (.int .i64 a1_p.ID)), (26, .c (.ptr 0 0)), (25, .c (.int .i64 ((a0_l.getD i_19.toNat dSProfile).ID))), (24, .c (.eptr 11 (cSProfile (a0_l.getD i_19.toNat dSProfile)) 0)), (23, .c (.eptr 11 (cSProfile (a0_l.getD i_19.toNat dSProfile)) 0)), (22, .c (.int .i64 i_19)), (21, .c (.vec a0_l.length 11 (gL cSProfile dSProfile a0_l))), (0, .c (.vec a0_l.length 11 (gL cSProfile dSProfile a0_l))), (3, .c (.ptr 0 0)), (7, .c (.own 1 o1_20.length)), (8, .c (.int .i64 i_19)), (18, .c (.bool (decide (i_19 < ((a0_l).length : Int)))))]) mixed [[], [], [0, 1], [0, 1, 2], [0, 1, 2, 3], [], [5], [0, 1, 2, 3, 4, 5, 6], [0, 1, 2, 3, 4, 5, 6, 7], [0, 1, 2, 3, 4, 5, 6, 7, 8], [0, 1, 2, 3, 4, 5, 6, 7, 8], [0, 1, 2, 3, 4, 5, 6, 7, 8, 9, 10], [0, 1, 2, 3, 4, 5, 6, 7, 8, 9, 10, 11], [0, 1, 2, 3, 4, 5, 6, 7, 8], [0, 1, 2, 3, 4, 5, 6, 7, 8, 9, 10, 11, 12, 13], [0, 1, 2, 3, 4, 5, 6, 7, 8, 9, 10, 11, 12, 13, 14], [0, 1, 2, 3, 4, 5, 6, 7, 8, 9, 10, 11, 12, 13, 14, 15]] 17 0 rfl rfl ?_ ?_
              · refine QChain.run rfl (.plain rfl) rfl (q_move rfl rfl) ?_
                refine QChain.run rfl (.plain rfl) rfl (q_move rfl rfl) ?_
                refine QChain.run rfl (.plain rfl) rfl (q_index_vec rfl rfl rfl sl31 rfl g36.1 g36.2) ?_
                refine QChain.run rfl (.plain rfl) rfl (q_field_eptr rfl rfl fd26_0 rfl) ?_
                refine QChain.run rfl (.plain rfl) rfl (q_load_eptr rfl rfl ty3) ?_
                refine QChain.run rfl (.plain rfl) rfl (q_field_ptr rfl rfl fd26_0) ?_
                refine QChain.run rfl (.plain rfl) rfl (q_load_ptr rfl rfl rfl rfl ty3) ?_
                refine QChain.run rfl (.plain rfl) rfl (q_neq rfl rfl rfl) ?_
                refine QChain.run rfl (.plain rfl) rfl (q_move rfl rfl) ?_
                refine QChain.skip rfl ⟨8, 29, true, rfl, rfl, (.inl (gF g37))⟩ rfl ?_
                refine QChain.skip rfl ⟨8, 29, true, rfl, rfl, (.inl (gF g37))⟩ rfl ?_
                refine QChain.skip rfl ⟨8, 29, true, rfl, rfl, (.inl (gF g37))⟩ rfl ?_
                refine QChain.skip rfl ⟨8, 29, true, rfl, rfl, (.inl (gF g37))⟩ rfl ?_
                refine QChain.skip rfl ⟨8, 29, true, rfl, rfl, (.inl (gF g37))⟩ rfl ?_
                refine QChain.skip rfl ⟨8, 29, true, rfl, rfl, (.inl (gF g37))⟩ rfl ?_
                refine QChain.skip rfl ⟨8, 29, true, rfl, rfl, (.inl (gF g37))⟩ rfl ?_
                refine QChain.run rfl (.plain rfl) rfl (q_pick_f rfl rfl g37 rfl) ?_
                exact QChain.nil _ _
              refine (show SOps _ _ _ [] _ _ from ?_)
              refine SOps.sub (st' := ⟨[(0, .c (.vec a0_l.length 11 (gL cSProfile dSProfile a0_l))), (3, .c (.ptr 0 0)), (7, .c (.own 1 o1_20.length)), (8, .c (.int .i64 i_19)), (37, .c (.bool false))], [.box [.int .i64 a1_p.ID, .int .i64 a1_p.Level, .int .i64 a1_p.Purpose, .int .i64 a1_p.Kind, .int .i64 a1_p.Conn, .str a1_p.Txn, .int .i64 a1_p.Span_From, .int .i64 a1_p.Span_To, .int .i64 a1_p.Start, .int .i64 a1_p.Duration, .vec a1_p.Periods.length 2 (gL cSPeriod dSPeriod a1_p.Periods)], .arr 26 11 o1_20.length (gL cSProfile dSProfile o1_20)]⟩) (sub_gen [0, 1] rfl rfl ⟨⟨_, rfl, .inl ⟨rfl, rfl⟩⟩, ⟨_, rfl, .inl ⟨rfl, rfl⟩⟩, ⟨_, rfl, .inl ⟨rfl, rfl⟩⟩, ⟨_, rfl, .inl ⟨rfl, rfl⟩⟩, ⟨_, rfl, .inl ⟨rfl, rfl⟩⟩, trivial⟩ ⟨⟨_, rfl, ⟨.inl ⟨rfl, rfl⟩, .inl ⟨rfl, rfl⟩, .inl ⟨rfl, rfl⟩, .inl ⟨rfl, rfl⟩, .inl ⟨rfl, rfl⟩, .inl ⟨rfl, rfl⟩, .inl ⟨rfl, rfl⟩, .inl ⟨rfl, rfl⟩, .inl ⟨rfl, rfl⟩, .inl ⟨rfl, rfl⟩, .inl ⟨rfl, rfl⟩, trivial⟩⟩, ⟨_, _, rfl, rfl, fun _ _ _ _ => rfl⟩, trivial⟩) ?_
              refine SOps.nil ?_
              refine SCode.cond_f rfl rfl ?_
              refine SCode.skip ?_
              exact ⟨o1_20, h, sub_gen [0, 1] rfl rfl ⟨⟨_, rfl, .inl ⟨rfl, rfl⟩⟩, ⟨_, rfl, .inl ⟨rfl, rfl⟩⟩, ⟨_, rfl, .inl ⟨rfl, rfl⟩⟩, ⟨_, rfl, .inl ⟨rfl, rfl⟩⟩, trivial⟩ ⟨⟨_, rfl, ⟨.inl ⟨rfl, rfl⟩, .inl ⟨rfl, rfl⟩, .inl ⟨rfl, rfl⟩, .inl ⟨rfl, rfl⟩, .inl ⟨rfl, rfl⟩, .inl ⟨rfl, rfl⟩, .inl ⟨rfl, rfl⟩, .inl ⟨rfl, rfl⟩, .inl ⟨rfl, rfl⟩, .inl ⟨rfl, rfl⟩, .inl ⟨rfl, rfl⟩, trivial⟩⟩, ⟨_, _, rfl, rfl, fun _ _ _ _ => rfl⟩, trivial⟩⟩
        · refine SCode.cond_f rfl g33 ?_
          refine SCode.exit ?_
          exact ⟨o1_20, h, sub_gen [0, 1] rfl rfl ⟨⟨_, rfl, .inl ⟨rfl, rfl⟩⟩, ⟨_, rfl, .inl ⟨rfl, rfl⟩⟩, ⟨_, rfl, .inl ⟨rfl, rfl⟩⟩, trivial⟩ ⟨⟨_, rfl, ⟨.inl ⟨rfl, rfl⟩, .inl ⟨rfl, rfl⟩, .inl ⟨rfl, rfl⟩, .inl ⟨rfl, rfl⟩, .inl ⟨rfl, rfl⟩, .inl ⟨rfl, rfl⟩, .inl ⟨rfl, rfl⟩, .inl ⟨rfl, rfl⟩, .inl ⟨rfl, rfl⟩, .inl ⟨rfl, rfl⟩, .inl ⟨rfl, rfl⟩, trivial⟩⟩, ⟨_, _, rfl, rfl, fun _ _ _ _ => rfl⟩, trivial⟩⟩
set_option maxHeartbeats 8000000 in
theorem chargenetlaw15_ProfilePuts_ok (F : Nat) (a0_l : List SProfile) (a1_p : SProfile) (r : Bool) (h : chargenetlaw15_ProfilePuts F a0_l a1_p = some r) :
    SFun Try.prog 4 [] [.c (.vec a0_l.length 11 (gL cSProfile dSProfile a0_l)), .a [.int .i64 a1_p.ID, .int .i64 a1_p.Level, .int .i64 a1_p.Purpose, .int .i64 a1_p.Kind, .int .i64 a1_p.Conn, .str a1_p.Txn, .int .i64 a1_p.Span_From, .int .i64 a1_p.Span_To, .int .i64 a1_p.Start, .int .i64 a1_p.Duration, .vec a1_p.Periods.length 2 (gL cSPeriod dSPeriod a1_p.Periods)]] (fun x _ => x = .c (.bool r)) := by
  refine SFun.of (n := 72) Try.func4 rfl rfl rfl ?_
  unfold chargenetlaw15_ProfilePuts at h
  show SCode _ _ _ ⟨[(0, .c (.vec a0_l.length 11 (gL cSProfile dSProfile a0_l))), (1, .a [.int .i64 a1_p.ID, .int .i64 a1_p.Level, .int .i64 a1_p.Purpose, .int .i64 a1_p.Kind, .int .i64 a1_p.Conn, .str a1_p.Txn, .int .i64 a1_p.Span_From, .int .i64 a1_p.Span_To, .int .i64 a1_p.Start, .int .i64 a1_p.Duration, .vec a1_p.Periods.length 2 (gL cSPeriod dSPeriod a1_p.Periods)])], []⟩ _
  refine SCode.seq ?_
  refine SCode.region (show SOps _ _ _ [0, 1] _ _ from ?_)
  refine SOps.e rfl (.plain rfl) (e_box rfl rfl rfl rfl rfl rfl) ?_
  refine SOps.q rfl (.plain rfl) rfl (q_assign rfl rfl) ?_
  refine SOps.sub (st' := ⟨[(0, .c (.vec a0_l.length 11 (gL cSProfile dSProfile a0_l))), (3, .c (.ptr 0 0))], [.box [.int .i64 a1_p.ID, .int .i64 a1_p.Level, .int .i64 a1_p.Purpose, .int .i64 a1_p.Kind, .int .i64 a1_p.Conn, .str a1_p.Txn, .int .i64 a1_p.Span_From, .int .i64 a1_p.Span_To, .int .i64 a1_p.Start, .int .i64 a1_p.Duration, .vec a1_p.Periods.length 2 (gL cSPeriod dSPeriod a1_p.Periods)]]⟩) (sub_gen [0] rfl rfl ⟨⟨_, rfl, .inl ⟨rfl, rfl⟩⟩, ⟨_, rfl, .inl ⟨rfl, rfl⟩⟩, trivial⟩ ⟨⟨_, rfl, ⟨.inl ⟨rfl, rfl⟩, .inl ⟨rfl, rfl⟩, .inl ⟨rfl, rfl⟩, .inl ⟨rfl, rfl⟩, .inl ⟨rfl, rfl⟩, .inl ⟨rfl, rfl⟩, .inl ⟨rfl, rfl⟩, .inl ⟨rfl, rfl⟩, .inl ⟨rfl, rfl⟩, .inl ⟨rfl, rfl⟩, .inl ⟨rfl, rfl⟩, trivial⟩⟩, trivial⟩) ?_
  refine SOps.nil ?_
  refine SCode.seq ?_
  refine SCode.seq ?_
  obtain ⟨c_1, g2, h⟩ := bind_out h
  try dsimp only at h
  rcases cond_out h with ⟨g3, h⟩ | ⟨g3, h⟩
  · refine SCode.region (show SOps _ _ _ [0, 1, 2, 3, 4, 5, 6, 7, 8, 9, 10, 11, 12, 13, 14] _ _ from ?_)
    refine SOps.q rfl (.plain rfl) rfl (q_move rfl rfl) ?_
    refine SOps.q rfl (.plain rfl) rfl (q_call (chargenetlaw15_few_ok F a0_l c_1 g2) [] rfl fn14 ⟨⟨_, rfl, .inl ⟨rfl, rfl⟩⟩, trivial⟩ (.inl rfl)) ?_
    refine SOps.q rfl (.plain rfl) rfl (q_not rfl rfl) ?_
    refine SOps.q rfl (.plain rfl) rfl (q_move rfl rfl) ?_
    refine SOps.skip rfl 3 14 false rfl rfl (.inl (gT g3)) rfl ?_
    refine SOps.skip rfl 3 14 false rfl rfl (.inl (gT g3)) rfl ?_
    refine SOps.skip rfl 3 14 false rfl rfl (.inl (gT g3)) rfl ?_
    refine SOps.skip rfl 3 14 false rfl rfl (.inl (gT g3)) rfl ?_
    refine SOps.q rfl (.plain rfl) rfl (q_pick_t rfl rfl g3 rfl) ?_
    refine SOps.q rfl (.plain rfl) rfl (q_move rfl rfl) ?_
    refine SOps.skip rfl 9 20 false rfl rfl (.inl rfl) rfl ?_
    refine SOps.skip rfl 9 20 false rfl rfl (.inl rfl) rfl ?_
    refine SOps.skip rfl 9 20 false rfl rfl (.inl rfl) rfl ?_
    refine SOps.skip rfl 9 20 false rfl rfl (.inl rfl) rfl ?_
    refine SOps.q rfl (.plain rfl) rfl (q_pick_t rfl rfl rfl rfl) ?_
    refine SOps.sub (st' := ⟨[(0, .c (.vec a0_l.length 11 (gL cSProfile dSProfile a0_l))), (3, .c (.ptr 0 0)), (25, .c (.bool true))], [.box [.int .i64 a1_p.ID, .int .i64 a1_p.Level, .int .i64 a1_p.Purpose, .int .i64 a1_p.Kind, .int .i64 a1_p.Conn, .str a1_p.Txn, .int .i64 a1_p.Span_From, .int .i64 a1_p.Span_To, .int .i64 a1_p.Start, .int .i64 a1_p.Duration, .vec a1_p.Periods.length 2 (gL cSPeriod dSPeriod a1_p.Periods)]]⟩) (sub_gen [0] rfl rfl ⟨⟨_, rfl, .inl ⟨rfl, rfl⟩⟩, ⟨_, rfl, .inl ⟨rfl, rfl⟩⟩, ⟨_, rfl, .inl ⟨rfl, rfl⟩⟩, trivial⟩ ⟨⟨_, rfl, ⟨.inl ⟨rfl, rfl⟩, .inl ⟨rfl, rfl⟩, .inl ⟨rfl, rfl⟩, .inl ⟨rfl, rfl⟩, .inl ⟨rfl, rfl⟩, .inl ⟨rfl, rfl⟩, .inl ⟨rfl, rfl⟩, .inl ⟨rfl, rfl⟩, .inl ⟨rfl, rfl⟩, .inl ⟨rfl, rfl⟩, .inl ⟨rfl, rfl⟩, trivial⟩⟩, trivial⟩) ?_
    refine SOps.nil ?_
    refine SCode.cond_t rfl rfl ?_
    refine SCode.seq ?_
    obtain ⟨c_4, g5, h⟩ := bind_out h
    try dsimp only at h
    refine SCode.region (show SOps _ _ _ [0, 1] _ _ from ?_)
    refine SOps.q rfl (.plain rfl) rfl (q_call (chargenetlaw15_awake_ok F  c_4 g5) [] rfl fn11 trivial (.inl rfl)) ?_
    refine SOps.q rfl (.plain rfl) rfl (q_assign rfl rfl) ?_
    refine SOps.sub (st' := ⟨[(4, .c (.bool c_4))], []⟩) (sub_gen [] rfl rfl ⟨⟨_, rfl, .inl ⟨rfl, rfl⟩⟩, trivial⟩ trivial) ?_
    refine SOps.nil ?_
    refine SCode.ret ?_
    obtain rfl := Option.some.inj h
    exact ⟨⟨[(4, .c (.bool c_4))], []⟩, _, sub_gen [] rfl rfl ⟨⟨_, rfl, .inl ⟨rfl, rfl⟩⟩, trivial⟩ trivial, resA1 (v := .c (.bool c_4)) rfl rfl, rfl⟩
  · rcases cond_out h with ⟨g6, h⟩ | ⟨g6, h⟩
    · refine SCode.region (show SOps _ _ _ [0, 1, 2, 3, 4, 5, 6, 7, 8, 9, 10, 11, 12, 13, 14] _ _ from ?_)
      refine SOps.q rfl (.plain rfl) rfl (q_move rfl rfl) ?_
      refine SOps.q rfl (.plain rfl) rfl (q_call (chargenetlaw15_few_ok F a0_l c_1 g2) [] rfl fn14 ⟨⟨_, rfl, .inl ⟨rfl, rfl⟩⟩, trivial⟩ (.inl rfl)) ?_
      refine SOps.q rfl (.plain rfl) rfl (q_not rfl rfl) ?_
      refine SOps.q rfl (.plain rfl) rfl (q_move rfl rfl) ?_
      refine SOps.q rfl (.guard 3 14 false rfl rfl (gF g3)) rfl (q_field_ptr rfl rfl fd26_5) ?_
      refine SOps.q rfl (.guard 3 14 false rfl rfl (gF g3)) rfl (q_load_ptr rfl rfl rfl rfl ty9) ?_
      refine SOps.q rfl (.guard 3 14 false rfl rfl (gF g3)) rfl (q_len_str rfl rfl un9) ?_
      refine SOps.q rfl (.guard 3 14 false rfl rfl (gF g3)) rfl (q_gtr rfl rfl rfl) ?_
      refine SOps.q rfl (.plain rfl) rfl (q_pick_f rfl rfl g3 rfl) ?_
      refine SOps.q rfl (.plain rfl) rfl (q_move rfl rfl) ?_
      refine SOps.skip rfl 9 20 false rfl rfl (.inl (gT g6)) rfl ?_
      refine SOps.skip rfl 9 20 false rfl rfl (.inl (gT g6)) rfl ?_
      refine SOps.skip rfl 9 20 false rfl rfl (.inl (gT g6)) rfl ?_
      refine SOps.skip rfl 9 20 false rfl rfl (.inl (gT g6)) rfl ?_
      refine SOps.q rfl (.plain rfl) rfl (q_pick_t rfl rfl g6 rfl) ?_
      refine SOps.sub (st' := ⟨[(0, .c (.vec a0_l.length 11 (gL cSProfile dSProfile a0_l))), (3, .c (.ptr 0 0)), (25, .c (.bool true))], [.box [.int .i64 a1_p.ID, .int .i64 a1_p.Level, .int .i64 a1_p.Purpose, .int .i64 a1_p.Kind, .int .i64 a1_p.Conn, .str a1_p.Txn, .int .i64 a1_p.Span_From, .int .i64 a1_p.Span_To, .int .i64 a1_p.Start, .int .i64 a1_p.Duration, .vec a1_p.Periods.length 2 (gL cSPeriod dSPeriod a1_p.Periods)]]⟩) (sub_gen [0] rfl rfl ⟨⟨_, rfl, .inl ⟨rfl, rfl⟩⟩, ⟨_, rfl, .inl ⟨rfl, rfl⟩⟩, ⟨_, rfl, .inl ⟨rfl, rfl⟩⟩, trivial⟩ ⟨⟨_, rfl, ⟨.inl ⟨rfl, rfl⟩, .inl ⟨rfl, rfl⟩, .inl ⟨rfl, rfl⟩, .inl ⟨rfl, rfl⟩, .inl ⟨rfl, rfl⟩, .inl ⟨rfl, rfl⟩, .inl ⟨rfl, rfl⟩, .inl ⟨rfl, rfl⟩, .inl ⟨rfl, rfl⟩, .inl ⟨rfl, rfl⟩, .inl ⟨rfl, rfl⟩, trivial⟩⟩, trivial⟩) ?_
      refine SOps.nil ?_
      refine SCode.cond_t rfl rfl ?_
      refine SCode.seq ?_
      obtain ⟨c_7, g8, h⟩ := bind_out h
      try dsimp only at h
      refine SCode.region (show SOps _ _ _ [0, 1] _ _ from ?_)
      refine SOps.q rfl (.plain rfl) rfl (q_call (chargenetlaw15_awake_ok F  c_7 g8) [] rfl fn11 trivial (.inl rfl)) ?_
      refine SOps.q rfl (.plain rfl) rfl (q_assign rfl rfl) ?_
      refine SOps.sub (st' := ⟨[(4, .c (.bool c_7))], []⟩) (sub_gen [] rfl rfl ⟨⟨_, rfl, .inl ⟨rfl, rfl⟩⟩, trivial⟩ trivial) ?_
      refine SOps.nil ?_
      refine SCode.ret ?_
      obtain rfl := Option.some.inj h
      exact ⟨⟨[(4, .c (.bool c_7))], []⟩, _, sub_gen [] rfl rfl ⟨⟨_, rfl, .inl ⟨rfl, rfl⟩⟩, trivial⟩ trivial, resA1 (v := .c (.bool c_7)) rfl rfl, rfl⟩
    · refine SCode.region (show SOps _ _ _ [0, 1, 2, 3, 4, 5, 6, 7, 8, 9, 10, 11, 12, 13, 14] _ _ from ?_)
      refine SOps.q rfl (.plain rfl) rfl (q_move rfl rfl) ?_
      refine SOps.q rfl (.plain rfl) rfl (q_call (chargenetlaw15_few_ok F a0_l c_1 g2) [] rfl fn14 ⟨⟨_, rfl, .inl ⟨rfl, rfl⟩⟩, trivial⟩ (.inl rfl)) ?_
      refine SOps.q rfl (.plain rfl) rfl (q_not rfl rfl) ?_
      refine SOps.q rfl (.plain rfl) rfl (q_move rfl rfl) ?_
      refine SOps.q rfl (.guard 3 14 false rfl rfl (gF g3)) rfl (q_field_ptr rfl rfl fd26_5) ?_
      refine SOps.q rfl (.guard 3 14 false rfl rfl (gF g3)) rfl (q_load_ptr rfl rfl rfl rfl ty9) ?_
      refine SOps.q rfl (.guard 3 14 false rfl rfl (gF g3)) rfl (q_len_str rfl rfl un9) ?_
      refine SOps.q rfl (.guard 3 14 false rfl rfl (gF g3)) rfl (q_gtr rfl rfl rfl) ?_
      refine SOps.q rfl (.plain rfl) rfl (q_pick_f rfl rfl g3 rfl) ?_
      refine SOps.q rfl (.plain rfl) rfl (q_move rfl rfl) ?_
      refine SOps.q rfl (.guard 9 20 false rfl rfl (gF g6)) rfl (q_field_ptr rfl rfl fd26_9) ?_
      refine SOps.q rfl (.guard 9 20 false rfl rfl (gF g6)) rfl (q_load_ptr rfl rfl rfl rfl ty24) ?_
      refine SOps.q rfl (.guard 9 20 false rfl rfl (gF g6)) rfl (q_len_vec rfl rfl sl24) ?_
      refine SOps.q rfl (.guard 9 20 false rfl rfl (gF g6)) rfl (q_gtr rfl rfl rfl) ?_
      refine SOps.q rfl (.plain rfl) rfl (q_pick_f rfl rfl g6 rfl) ?_
      refine SOps.sub (st' := ⟨[(0, .c (.vec a0_l.length 11 (gL cSProfile dSProfile a0_l))), (3, .c (.ptr 0 0)), (25, .c (.bool (decide (30 < ((a1_p.Periods).length : Int)))))], [.box [.int .i64 a1_p.ID, .int .i64 a1_p.Level, .int .i64 a1_p.Purpose, .int .i64 a1_p.Kind, .int .i64 a1_p.Conn, .str a1_p.Txn, .int .i64 a1_p.Span_From, .int .i64 a1_p.Span_To, .int .i64 a1_p.Start, .int .i64 a1_p.Duration, .vec a1_p.Periods.length 2 (gL cSPeriod dSPeriod a1_p.Periods)]]⟩) (sub_gen [0] rfl rfl ⟨⟨_, rfl, .inl ⟨rfl, rfl⟩⟩, ⟨_, rfl, .inl ⟨rfl, rfl⟩⟩, ⟨_, rfl, .inl ⟨rfl, rfl⟩⟩, trivial⟩ ⟨⟨_, rfl, ⟨.inl ⟨rfl, rfl⟩, .inl ⟨rfl, rfl⟩, .inl ⟨rfl, rfl⟩, .inl ⟨rfl, rfl⟩, .inl ⟨rfl, rfl⟩, .inl ⟨rfl, rfl⟩, .inl ⟨rfl, rfl⟩, .inl ⟨rfl, rfl⟩, .inl ⟨rfl, rfl⟩, .inl ⟨rfl, rfl⟩, .inl ⟨rfl, rfl⟩, trivial⟩⟩, trivial⟩) ?_
      refine SOps.nil ?_
      rcases cond_out h with ⟨g9, h⟩ | ⟨g9, h⟩
      · refine SCode.cond_t rfl g9 ?_
        refine SCode.seq ?_
        obtain ⟨c_10, g11, h⟩ := bind_out h
        try dsimp only at h
        refine SCode.region (show SOps _ _ _ [0, 1] _ _ from ?_)
        refine SOps.q rfl (.plain rfl) rfl (q_call (chargenetlaw15_awake_ok F  c_10 g11) [] rfl fn11 trivial (.inl rfl)) ?_
        refine SOps.q rfl (.plain rfl) rfl (q_assign rfl rfl) ?_
        refine SOps.sub (st' := ⟨[(4, .c (.bool c_10))], []⟩) (sub_gen [] rfl rfl ⟨⟨_, rfl, .inl ⟨rfl, rfl⟩⟩, trivial⟩ trivial) ?_
        refine SOps.nil ?_
        refine SCode.ret ?_
        obtain rfl := Option.some.inj h
        exact ⟨⟨[(4, .c (.bool c_10))], []⟩, _, sub_gen [] rfl rfl ⟨⟨_, rfl, .inl ⟨rfl, rfl⟩⟩, trivial⟩ trivial, resA1 (v := .c (.bool c_10)) rfl rfl, rfl⟩
      · refine SCode.cond_f rfl g9 ?_
        refine SCode.skip ?_
        refine SCode.seq ?_
        obtain ⟨c_12, g13, h⟩ := bind_out h
        try dsimp only at h
        refine SCode.region (show SOps _ _ _ [0, 1, 2, 3, 4, 5, 6, 7] _ _ from ?_)
        refine SOps.q rfl (.plain rfl) rfl (q_move rfl rfl) ?_
        refine SOps.q rfl (.plain rfl) rfl (q_load_ptr_all rfl rfl rfl rfl rfl ty26) ?_
        refine SOps.q rfl (.plain rfl) rfl (q_call (profile_Put_ok F a0_l a1_p c_12 g13) [] rfl fn15 ⟨⟨_, rfl, .inl ⟨rfl, rfl⟩⟩, ⟨rfl, rfl⟩, trivial⟩ (.inl rfl)) ?_
        refine SOps.q rfl (.plain rfl) rfl (q_move rfl rfl) ?_
        refine SOps.q rfl (.plain rfl) rfl (q_extract rfl rfl rfl) ?_
        refine SOps.q rfl (.plain rfl) rfl (q_extract rfl rfl rfl) ?_
        refine SOps.q rfl (.plain rfl) rfl (q_assign rfl rfl) ?_
        refine SOps.q rfl (.plain rfl) rfl (q_assign rfl rfl) ?_
        refine SOps.sub (st' := ⟨[(0, .c (.vec a0_l.length 11 (gL cSProfile dSProfile a0_l))), (3, .c (.ptr 0 0)), (5, .c (.vec c_12.1.length 11 (gL cSProfile dSProfile c_12.1))), (6, .c (.int .i64 c_12.2))], [.box [.int .i64 a1_p.ID, .int .i64 a1_p.Level, .int .i64 a1_p.Purpose, .int .i64 a1_p.Kind, .int .i64 a1_p.Conn, .str a1_p.Txn, .int .i64 a1_p.Span_From, .int .i64 a1_p.Span_To, .int .i64 a1_p.Start, .int .i64 a1_p.Duration, .vec a1_p.Periods.length 2 (gL cSPeriod dSPeriod a1_p.Periods)]]⟩) (sub_gen [0] rfl rfl ⟨⟨_, rfl, .inl ⟨rfl, rfl⟩⟩, ⟨_, rfl, .inl ⟨rfl, rfl⟩⟩, ⟨_, rfl, .inl ⟨rfl, rfl⟩⟩, ⟨_, rfl, .inl ⟨rfl, rfl⟩⟩, trivial⟩ ⟨⟨_, rfl, ⟨.inl ⟨rfl, rfl⟩, .inl ⟨rfl, rfl⟩, .inl ⟨rfl, rfl⟩, .inl ⟨rfl, rfl⟩, .inl ⟨rfl, rfl⟩, .inl ⟨rfl, rfl⟩, .inl ⟨rfl, rfl⟩, .inl ⟨rfl, rfl⟩, .inl ⟨rfl, rfl⟩, .inl ⟨rfl, rfl⟩, .inl ⟨rfl, rfl⟩, trivial⟩⟩, trivial⟩) ?_
        refine SOps.nil ?_
        refine SCode.seq ?_
        obtain ⟨c_14, g15, h⟩ := bind_out h
        try dsimp only at h
        refine SCode.region (show SOps _ _ _ [0, 1, 2, 3, 4, 5, 6, 7] _ _ from ?_)
        refine SOps.q rfl (.plain rfl) rfl (q_move rfl rfl) ?_
        refine SOps.q rfl (.plain rfl) rfl (q_load_ptr_all rfl rfl rfl rfl rfl ty26) ?_
        refine SOps.q rfl (.plain rfl) rfl (q_call (chargenetref15_Put_ok F a0_l a1_p c_14 g15) [] rfl fn16 ⟨⟨_, rfl, .inl ⟨rfl, rfl⟩⟩, ⟨rfl, rfl⟩, trivial⟩ (.inl rfl)) ?_
        refine SOps.q rfl (.plain rfl) rfl (q_move rfl rfl) ?_
        refine SOps.q rfl (.plain rfl) rfl (q_extract rfl rfl rfl) ?_
        refine SOps.q rfl (.plain rfl) rfl (q_extract rfl rfl rfl) ?_
        refine SOps.q rfl (.plain rfl) rfl (q_assign rfl rfl) ?_
        refine SOps.q rfl (.plain rfl) rfl (q_assign rfl rfl) ?_
        refine SOps.sub (st' := ⟨[(3, .c (.ptr 0 0)), (5, .c (.vec c_12.1.length 11 (gL cSProfile dSProfile c_12.1))), (6, .c (.int .i64 c_12.2)), (7, .c (.vec c_14.1.length 11 (gL cSProfile dSProfile c_14.1))), (8, .c (.int .i64 c_14.2))], [.box [.int .i64 a1_p.ID, .int .i64 a1_p.Level, .int .i64 a1_p.Purpose, .int .i64 a1_p.Kind, .int .i64 a1_p.Conn, .str a1_p.Txn, .int .i64 a1_p.Span_From, .int .i64 a1_p.Span_To, .int .i64 a1_p.Start, .int .i64 a1_p.Duration, .vec a1_p.Periods.length 2 (gL cSPeriod dSPeriod a1_p.Periods)]]⟩) (sub_gen [0] rfl rfl ⟨⟨_, rfl, .inl ⟨rfl, rfl⟩⟩, ⟨_, rfl, .inl ⟨rfl, rfl⟩⟩, ⟨_, rfl, .inl ⟨rfl, rfl⟩⟩, ⟨_, rfl, .inl ⟨rfl, rfl⟩⟩, ⟨_, rfl, .inl ⟨rfl, rfl⟩⟩, trivial⟩ ⟨⟨_, rfl, ⟨.inl ⟨rfl, rfl⟩, .inl ⟨rfl, rfl⟩, .inl ⟨rfl, rfl⟩, .inl ⟨rfl, rfl⟩, .inl ⟨rfl, rfl⟩, .inl ⟨rfl, rfl⟩, .inl ⟨rfl, rfl⟩, .inl ⟨rfl, rfl⟩, .inl ⟨rfl, rfl⟩, .inl ⟨rfl, rfl⟩, .inl ⟨rfl, rfl⟩, trivial⟩⟩, trivial⟩) ?_
        refine SOps.nil ?_
        refine SCode.seq ?_
        refine SCode.seq ?_
        obtain ⟨c_16, g17, h⟩ := bind_out h
        try dsimp only at h
        rcases cond_out h with ⟨g18, h⟩ | ⟨g18, h⟩
        · refine SCode.region (show SOps _ _ _ [0, 1, 2, 3, 4, 5, 6, 7, 8] _ _ from ?_)
          refine SOps.q rfl (.plain rfl) rfl (q_move rfl rfl) ?_
          refine SOps.q rfl (.plain rfl) rfl (q_move rfl rfl) ?_
          refine SOps.q rfl (.plain rfl) rfl (q_call (chargenetref15_SameAll_ok F c_12.1 c_14.1 c_16 g17) [] rfl fn17 ⟨⟨_, rfl, .inl ⟨rfl, rfl⟩⟩, ⟨_, rfl, .inl ⟨rfl, rfl⟩⟩, trivial⟩ (.inl rfl)) ?_
          refine SOps.q rfl (.plain rfl) rfl (q_not rfl rfl) ?_
          refine SOps.q rfl (.plain rfl) rfl (q_move rfl rfl) ?_
          refine SOps.skip rfl 4 43 false rfl rfl (.inl (gT g18)) rfl ?_
          refine SOps.skip rfl 4 43 false rfl rfl (.inl (gT g18)) rfl ?_
          refine SOps.skip rfl 4 43 false rfl rfl (.inl (gT g18)) rfl ?_
          refine SOps.q rfl (.plain rfl) rfl (q_pick_t rfl rfl g18 rfl) ?_
          refine SOps.sub (st' := ⟨[(3, .c (.ptr 0 0)), (5, .c (.vec c_12.1.length 11 (gL cSProfile dSProfile c_12.1))), (6, .c (.int .i64 c_12.2)), (7, .c (.vec c_14.1.length 11 (gL cSProfile dSProfile c_14.1))), (47, .c (.bool true))], [.box [.int .i64 a1_p.ID, .int .i64 a1_p.Level, .int .i64 a1_p.Purpose, .int .i64 a1_p.Kind, .int .i64 a1_p.Conn, .str a1_p.Txn, .int .i64 a1_p.Span_From, .int .i64 a1_p.Span_To, .int .i64 a1_p.Start, .int .i64 a1_p.Duration, .vec a1_p.Periods.length 2 (gL cSPeriod dSPeriod a1_p.Periods)]]⟩) (sub_gen [0] rfl rfl ⟨⟨_, rfl, .inl ⟨rfl, rfl⟩⟩, ⟨_, rfl, .inl ⟨rfl, rfl⟩⟩, ⟨_, rfl, .inl ⟨rfl, rfl⟩⟩, ⟨_, rfl, .inl ⟨rfl, rfl⟩⟩, ⟨_, rfl, .inl ⟨rfl, rfl⟩⟩, trivial⟩ ⟨⟨_, rfl, ⟨.inl ⟨rfl, rfl⟩, .inl ⟨rfl, rfl⟩, .inl ⟨rfl, rfl⟩, .inl ⟨rfl, rfl⟩, .inl ⟨rfl, rfl⟩, .inl ⟨rfl, rfl⟩, .inl ⟨rfl, rfl⟩, .inl ⟨rfl, rfl⟩, .inl ⟨rfl, rfl⟩, .inl ⟨rfl, rfl⟩, .inl ⟨rfl, rfl⟩, trivial⟩⟩, trivial⟩) ?_
          refine SOps.nil ?_
          refine SCode.cond_t rfl rfl ?_
          refine SCode.seq ?_
          refine SCode.region (show SOps _ _ _ [0] _ _ from ?_)
          refine SOps.q rfl (.plain rfl) rfl (q_assign rfl rfl) ?_
          refine SOps.sub (st' := ⟨[(4, .c (.bool false))], []⟩) (sub_gen [] rfl rfl ⟨⟨_, rfl, .inl ⟨rfl, rfl⟩⟩, trivial⟩ trivial) ?_
          refine SOps.nil ?_
          refine SCode.ret ?_
          obtain rfl := Option.some.inj h
          exact ⟨⟨[(4, .c (.bool false))], []⟩, _, sub_gen [] rfl rfl ⟨⟨_, rfl, .inl ⟨rfl, rfl⟩⟩, trivial⟩ trivial, resA1 (v := .c (.bool false)) rfl rfl, rfl⟩
        · refine SCode.region (show SOps _ _ _ [0, 1, 2, 3, 4, 5, 6, 7, 8] _ _ from ?_)
          refine SOps.q rfl (.plain rfl) rfl (q_move rfl rfl) ?_
          refine SOps.q rfl (.plain rfl) rfl (q_move rfl rfl) ?_
          refine SOps.q rfl (.plain rfl) rfl (q_call (chargenetref15_SameAll_ok F c_12.1 c_14.1 c_16 g17) [] rfl fn17 ⟨⟨_, rfl, .inl ⟨rfl, rfl⟩⟩, ⟨_, rfl, .inl ⟨rfl, rfl⟩⟩, trivial⟩ (.inl rfl)) ?_
          refine SOps.q rfl (.plain rfl) rfl (q_not rfl rfl) ?_
          refine SOps.q rfl (.plain rfl) rfl (q_move rfl rfl) ?_
          refine SOps.q rfl (.guard 4 43 false rfl rfl (gF g18)) rfl (q_move rfl rfl) ?_
          refine SOps.q rfl (.guard 4 43 false rfl rfl (gF g18)) rfl (q_move rfl rfl) ?_
          refine SOps.q rfl (.guard 4 43 false rfl rfl (gF g18)) rfl (q_neq rfl rfl rfl) ?_
          refine SOps.q rfl (.plain rfl) rfl (q_pick_f rfl rfl g18 rfl) ?_
          refine SOps.sub (st' := ⟨[(3, .c (.ptr 0 0)), (5, .c (.vec c_12.1.length 11 (gL cSProfile dSProfile c_12.1))), (6, .c (.int .i64 c_12.2)), (7, .c (.vec c_14.1.length 11 (gL cSProfile dSProfile c_14.1))), (47, .c (.bool ((!decide (c_12.2 = c_14.2)))))], [.box [.int .i64 a1_p.ID, .int .i64 a1_p.Level, .int .i64 a1_p.Purpose, .int .i64 a1_p.Kind, .int .i64 a1_p.Conn, .str a1_p.Txn, .int .i64 a1_p.Span_From, .int .i64 a1_p.Span_To, .int .i64 a1_p.Start, .int .i64 a1_p.Duration, .vec a1_p.Periods.length 2 (gL cSPeriod dSPeriod a1_p.Periods)]]⟩) (sub_gen [0] rfl rfl ⟨⟨_, rfl, .inl ⟨rfl, rfl⟩⟩, ⟨_, rfl, .inl ⟨rfl, rfl⟩⟩, ⟨_, rfl, .inl ⟨rfl, rfl⟩⟩, ⟨_, rfl, .inl ⟨rfl, rfl⟩⟩, ⟨_, rfl, .inl ⟨rfl, rfl⟩⟩, trivial⟩ ⟨⟨_, rfl, ⟨.inl ⟨rfl, rfl⟩, .inl ⟨rfl, rfl⟩, .inl ⟨rfl, rfl⟩, .inl ⟨rfl, rfl⟩, .inl ⟨rfl, rfl⟩, .inl ⟨rfl, rfl⟩, .inl ⟨rfl, rfl⟩, .inl ⟨rfl, rfl⟩, .inl ⟨rfl, rfl⟩, .inl ⟨rfl, rfl⟩, .inl ⟨rfl, rfl⟩, trivial⟩⟩, trivial⟩) ?_
          refine SOps.nil ?_
          rcases cond_out h with ⟨g19, h⟩ | ⟨g19, h⟩
          · refine SCode.cond_t rfl g19 ?_
            refine SCode.seq ?_
            refine SCode.region (show SOps _ _ _ [0] _ _ from ?_)
            refine SOps.q rfl (.plain rfl) rfl (q_assign rfl rfl) ?_
            refine SOps.sub (st' := ⟨[(4, .c (.bool false))], []⟩) (sub_gen [] rfl rfl ⟨⟨_, rfl, .inl ⟨rfl, rfl⟩⟩, trivial⟩ trivial) ?_
            refine SOps.nil ?_
            refine SCode.ret ?_
            obtain rfl := Option.some.inj h
            exact ⟨⟨[(4, .c (.bool false))], []⟩, _, sub_gen [] rfl rfl ⟨⟨_, rfl, .inl ⟨rfl, rfl⟩⟩, trivial⟩ trivial, resA1 (v := .c (.bool false)) rfl rfl, rfl⟩
          · refine SCode.cond_f rfl g19 ?_
            refine SCode.skip ?_
            refine SCode.seq ?_
            refine SCode.seq ?_
            refine SCode.region (show SOps _ _ _ [0, 1] _ _ from ?_)
            refine SOps.q rfl (.plain rfl) rfl (q_move rfl rfl) ?_
            refine SOps.q rfl (.plain rfl) rfl (q_neq rfl rfl rfl) ?_
            refine SOps.sub (st' := ⟨[(3, .c (.ptr 0 0)), (5, .c (.vec c_12.1.length 11 (gL cSProfile dSProfile c_12.1))), (7, .c (.vec c_14.1.length 11 (gL cSProfile dSProfile c_14.1))), (49, .c (.bool ((!decide (c_12.2 = 0)))))], [.box [.int .i64 a1_p.ID, .int .i64 a1_p.Level, .int .i64 a1_p.Purpose, .int .i64 a1_p.Kind, .int .i64 a1_p.Conn, .str a1_p.Txn, .int .i64 a1_p.Span_From, .int .i64 a1_p.Span_To, .int .i64 a1_p.Start, .int .i64 a1_p.Duration, .vec a1_p.Periods.length 2 (gL cSPeriod dSPeriod a1_p.Periods)]]⟩) (sub_gen [0] rfl rfl ⟨⟨_, rfl, .inl ⟨rfl, rfl⟩⟩, ⟨_, rfl, .inl ⟨rfl, rfl⟩⟩, ⟨_, rfl, .inl ⟨rfl, rfl⟩⟩, ⟨_, rfl, .inl ⟨rfl, rfl⟩⟩, trivial⟩ ⟨⟨_, rfl, ⟨.inl ⟨rfl, rfl⟩, .inl ⟨rfl, rfl⟩, .inl ⟨rfl, rfl⟩, .inl ⟨rfl, rfl⟩, .inl ⟨rfl, rfl⟩, .inl ⟨rfl, rfl⟩, .inl ⟨rfl, rfl⟩, .inl ⟨rfl, rfl⟩, .inl ⟨rfl, rfl⟩, .inl ⟨rfl, rfl⟩, .inl ⟨rfl, rfl⟩, trivial⟩⟩, trivial⟩) ?_
            refine SOps.nil ?_
            rcases cond_out h with ⟨g20, h⟩ | ⟨g20, h⟩
            · refine SCode.cond_t rfl g20 ?_
              refine SCode.seq ?_
              obtain ⟨c_21, g22, h⟩ := bind_out h
              try dsimp only at h
              refine SCode.region (show SOps _ _ _ [0, 1] _ _ from ?_)
              refine SOps.q rfl (.plain rfl) rfl (q_call (chargenetlaw15_awake_ok F  c_21 g22) [] rfl fn11 trivial (.inl rfl)) ?_
              refine SOps.q rfl (.plain rfl) rfl (q_assign rfl rfl) ?_
              refine SOps.sub (st' := ⟨[(4, .c (.bool c_21))], []⟩) (sub_gen [] rfl rfl ⟨⟨_, rfl, .inl ⟨rfl, rfl⟩⟩, trivial⟩ trivial) ?_
              refine SOps.nil ?_
              refine SCode.ret ?_
              obtain rfl := Option.some.inj h
              exact ⟨⟨[(4, .c (.bool c_21))], []⟩, _, sub_gen [] rfl rfl ⟨⟨_, rfl, .inl ⟨rfl, rfl⟩⟩, trivial⟩ trivial, resA1 (v := .c (.bool c_21)) rfl rfl, rfl⟩
            · refine SCode.cond_f rfl g20 ?_
              refine SCode.skip ?_
              refine SCode.seq ?_
              obtain ⟨c_23, g24, h⟩ := bind_out h
              try dsimp only at h
              refine SCode.region (show SOps _ _ _ [0, 1, 2, 3, 4, 5, 6, 7, 8] _ _ from ?_)
              refine SOps.q rfl (.plain rfl) rfl (q_move rfl rfl) ?_
              refine SOps.q rfl (.plain rfl) rfl (q_field_ptr rfl rfl fd26_0) ?_
              refine SOps.q rfl (.plain rfl) rfl (q_load_ptr rfl rfl rfl rfl ty3) ?_
              refine SOps.q rfl (.plain rfl) rfl (q_call (profile_Clear_ok F c_12.1 a1_p.ID c_23 g24) [] rfl fn18 ⟨⟨_, rfl, .inl ⟨rfl, rfl⟩⟩, ⟨_, rfl, .inl ⟨rfl, rfl⟩⟩, trivial⟩ (.inl rfl)) ?_
              refine SOps.q rfl (.plain rfl) rfl (q_move rfl rfl) ?_
              refine SOps.q rfl (.plain rfl) rfl (q_extract rfl rfl rfl) ?_
              refine SOps.q rfl (.plain rfl) rfl (q_extract rfl rfl rfl) ?_
              refine SOps.q rfl (.plain rfl) rfl (q_assign rfl rfl) ?_
              refine SOps.q rfl (.plain rfl) rfl (q_assign rfl rfl) ?_
              refine SOps.sub (st' := ⟨[(7, .c (.vec c_14.1.length 11 (gL cSProfile dSProfile c_14.1))), (9, .c (.vec c_23.1.length 11 (gL cSProfile dSProfile c_23.1))), (10, .c (.int .i64 c_23.2))], []⟩) (sub_gen [] rfl rfl ⟨⟨_, rfl, .inl ⟨rfl, rfl⟩⟩, ⟨_, rfl, .inl ⟨rfl, rfl⟩⟩, ⟨_, rfl, .inl ⟨rfl, rfl⟩⟩, trivial⟩ trivial) ?_
              refine SOps.nil ?_
              refine SCode.seq ?_
              obtain ⟨g25, h⟩ := guard_out h
              obtain ⟨c_26, g27, h⟩ := bind_out h
              try dsimp only at h
              rcases cond_out h with ⟨g28, h⟩ | ⟨g28, h⟩
              · rcases cond_out h with ⟨g29, h⟩ | ⟨g29, h⟩
                · obtain ⟨c_30, g31, h⟩ := bind_out h
                  try dsimp only at h
                  refine SCode.region (show SOps _ _ _ [0, 1, 2, 3, 4, 5, 6, 7, 8, 9, 10, 11, 12, 13, 14] _ _ from ?_)
                  refine SOps.q rfl (.plain rfl) rfl (q_move rfl rfl) ?_
                  refine SOps.q rfl (.plain rfl) rfl (q_move rfl rfl) ?_
                  refine SOps.q rfl (.plain rfl) rfl (q_move rfl rfl) ?_
                  refine SOps.q rfl (.plain rfl) rfl (q_len_vec rfl rfl sl31) ?_
                  refine SOps.q rfl (.plain rfl) rfl (q_sub rfl rfl rfl) ?_
                  refine SOps.q rfl (.plain rfl) rfl (q_slice_h rfl rfl rfl sl31 g25.1 g25.2) ?_
                  refine SOps.q rfl (.plain rfl) rfl (q_call (chargenetref15_SameAll_ok F c_23.1 (subL c_14.1 0 (IntKind.wrap .i64 (((c_14.1).length : Int) - 1) : Int).toNat) c_26 g27) [] rfl fn17 ⟨⟨_, rfl, .inl ⟨rfl, rfl⟩⟩, ⟨_, rfl, .inl ⟨rfl, rfl⟩⟩, trivial⟩ (.inl rfl)) ?_
                  refine SOps.q rfl (.plain rfl) rfl (q_move rfl rfl) ?_
                  refine SOps.q rfl (.guard 7 65 true rfl rfl (gT g28)) rfl (q_move rfl rfl) ?_
                  refine SOps.q rfl (.guard 7 65 true rfl rfl (gT g28)) rfl (q_eql rfl rfl rfl) ?_
                  refine SOps.q rfl (.plain rfl) rfl (q_pick_t rfl rfl g28 rfl) ?_
                  refine SOps.q rfl (.plain rfl) rfl (q_move rfl rfl) ?_
                  refine SOps.q rfl (.guard 11 69 true rfl rfl (gT g29)) rfl (q_call (chargenetlaw15_awake_ok F  c_30 g31) [] rfl fn11 trivial (.inl rfl)) ?_
                  refine SOps.q rfl (.plain rfl) rfl (q_pick_t rfl rfl g29 rfl) ?_
                  refine SOps.q rfl (.plain rfl) rfl (q_assign rfl rfl) ?_
                  refine SOps.sub (st' := ⟨[(4, .c (.bool c_30))], []⟩) (sub_gen [] rfl rfl ⟨⟨_, rfl, .inl ⟨rfl, rfl⟩⟩, trivial⟩ trivial) ?_
                  refine SOps.nil ?_
                  refine SCode.ret ?_
                  obtain rfl := Option.some.inj h
                  exact ⟨⟨[(4, .c (.bool c_30))], []⟩, _, sub_gen [] rfl rfl ⟨⟨_, rfl, .inl ⟨rfl, rfl⟩⟩, trivial⟩ trivial, resA1 (v := .c (.bool c_30)) rfl rfl, rfl⟩
                · refine SCode.region (show SOps _ _ _ [0, 1, 2, 3, 4, 5, 6, 7, 8, 9, 10, 11, 12, 13, 14] _ _ from ?_)
                  refine SOps.q rfl (.plain rfl) rfl (q_move rfl rfl) ?_
                  refine SOps.q rfl (.plain rfl) rfl (q_move rfl rfl) ?_
                  refine SOps.q rfl (.plain rfl) rfl (q_move rfl rfl) ?_
                  refine SOps.q rfl (.plain rfl) rfl (q_len_vec rfl rfl sl31) ?_
                  refine SOps.q rfl (.plain rfl) rfl (q_sub rfl rfl rfl) ?_
                  refine SOps.q rfl (.plain rfl) rfl (q_slice_h rfl rfl rfl sl31 g25.1 g25.2) ?_
                  refine SOps.q rfl (.plain rfl) rfl (q_call (chargenetref15_SameAll_ok F c_23.1 (subL c_14.1 0 (IntKind.wrap .i64 (((c_14.1).length : Int) - 1) : Int).toNat) c_26 g27) [] rfl fn17 ⟨⟨_, rfl, .inl ⟨rfl, rfl⟩⟩, ⟨_, rfl, .inl ⟨rfl, rfl⟩⟩, trivial⟩ (.inl rfl)) ?_
                  refine SOps.q rfl (.plain rfl) rfl (q_move rfl rfl) ?_
                  refine SOps.q rfl (.guard 7 65 true rfl rfl (gT g28)) rfl (q_move rfl rfl) ?_
                  refine SOps.q rfl (.guard 7 65 true rfl rfl (gT g28)) rfl (q_eql rfl rfl rfl) ?_
                  refine SOps.q rfl (.plain rfl) rfl (q_pick_t rfl rfl g28 rfl) ?_
                  refine SOps.q rfl (.plain rfl) rfl (q_move rfl rfl) ?_
                  refine SOps.skip rfl 11 69 true rfl rfl (.inl (gF g29)) rfl ?_
                  refine SOps.q rfl (.plain rfl) rfl (q_pick_f rfl rfl g29 rfl) ?_
                  refine SOps.q rfl (.plain rfl) rfl (q_assign rfl rfl) ?_
                  refine SOps.sub (st' := ⟨[(4, .c (.bool false))], []⟩) (sub_gen [] rfl rfl ⟨⟨_, rfl, .inl ⟨rfl, rfl⟩⟩, trivial⟩ trivial) ?_
                  refine SOps.nil ?_
                  refine SCode.ret ?_
                  obtain rfl := Option.some.inj h
                  exact ⟨⟨[(4, .c (.bool false))], []⟩, _, sub_gen [] rfl rfl ⟨⟨_, rfl, .inl ⟨rfl, rfl⟩⟩, trivial⟩ trivial, resA1 (v := .c (.bool false)) rfl rfl, rfl⟩
              · refine SCode.region (show SOps _ _ _ [0, 1, 2, 3, 4, 5, 6, 7, 8, 9, 10, 11, 12, 13, 14] _ _ from ?_)
                refine SOps.q rfl (.plain rfl) rfl (q_move rfl rfl) ?_
                refine SOps.q rfl (.plain rfl) rfl (q_move rfl rfl) ?_
                refine SOps.q rfl (.plain rfl) rfl (q_move rfl rfl) ?_
                refine SOps.q rfl (.plain rfl) rfl (q_len_vec rfl rfl sl31) ?_
                refine SOps.q rfl (.plain rfl) rfl (q_sub rfl rfl rfl) ?_
                refine SOps.q rfl (.plain rfl) rfl (q_slice_h rfl rfl rfl sl31 g25.1 g25.2) ?_
                refine SOps.q rfl (.plain rfl) rfl (q_call (chargenetref15_SameAll_ok F c_23.1 (subL c_14.1 0 (IntKind.wrap .i64 (((c_14.1).length : Int) - 1) : Int).toNat) c_26 g27) [] rfl fn17 ⟨⟨_, rfl, .inl ⟨rfl, rfl⟩⟩, ⟨_, rfl, .inl ⟨rfl, rfl⟩⟩, trivial⟩ (.inl rfl)) ?_
                refine SOps.q rfl (.plain rfl) rfl (q_move rfl rfl) ?_
                refine SOps.skip rfl 7 65 true rfl rfl (.inl (gF g28)) rfl ?_
                refine SOps.skip rfl 7 65 true rfl rfl (.inl (gF g28)) rfl ?_
                refine SOps.q rfl (.plain rfl) rfl (q_pick_f rfl rfl g28 rfl) ?_
                refine SOps.q rfl (.plain rfl) rfl (q_move rfl rfl) ?_
                refine SOps.skip rfl 11 69 true rfl rfl (.inl rfl) rfl ?_
                refine SOps.q rfl (.plain rfl) rfl (q_pick_f rfl rfl rfl rfl) ?_
                refine SOps.q rfl (.plain rfl) rfl (q_assign rfl rfl) ?_
                refine SOps.sub (st' := ⟨[(4, .c (.bool false))], []⟩) (sub_gen [] rfl rfl ⟨⟨_, rfl, .inl ⟨rfl, rfl⟩⟩, trivial⟩ trivial) ?_
                refine SOps.nil ?_
                refine SCode.ret ?_
                obtain rfl := Option.some.inj h
                exact ⟨⟨[(4, .c (.bool false))], []⟩, _, sub_gen [] rfl rfl ⟨⟨_, rfl, .inl ⟨rfl, rfl⟩⟩, trivial⟩ trivial, resA1 (v := .c (.bool false)) rfl rfl, rfl⟩
end Go.Proofs.Ytldekibkmombdaa.W
