/- Written by a program of ours (wip/eng/gen.py): the functions compute their models. -/
import Derived.Test.YtldekibkmombdaaFacts
import Derived.Test.YtldekibkmombdaaV6x5
namespace Go.Proofs.Ytldekibkmombdaa.W
open Go Go.Proofs Go.Proofs.Ytldekibkmombdaa.E Go.Proofs.Ytldekibkmombdaa.M
set_option linter.unusedVariables false
set_option maxRecDepth 100000 in
set_option maxHeartbeats 8000000 in
theorem profile_Next_ok (F : Nat) (a0_p : SProfile) (a1_start : Int) (a2_t : Int) (r : Int) (h : profile_Next F a0_p a1_start a2_t = some r) :
    SFun Try.prog 24 [] [.a [.int .i64 a0_p.ID, .int .i64 a0_p.Level, .int .i64 a0_p.Purpose, .int .i64 a0_p.Kind, .int .i64 a0_p.Conn, .str a0_p.Txn, .int .i64 a0_p.Span_From, .int .i64 a0_p.Span_To, .int .i64 a0_p.Start, .int .i64 a0_p.Duration, .vec a0_p.Periods.length 2 (gL cSPeriod dSPeriod a0_p.Periods)], .c (.int .i64 a1_start), .c (.int .i64 a2_t)] (fun x _ => x = .c (.int .i64 r)) := by
  refine SFun.of (n := 66) Try.func24 rfl rfl rfl ?_
  unfold profile_Next at h
  show SCode _ _ _ ⟨[(0, .a [.int .i64 a0_p.ID, .int .i64 a0_p.Level, .int .i64 a0_p.Purpose, .int .i64 a0_p.Kind, .int .i64 a0_p.Conn, .str a0_p.Txn, .int .i64 a0_p.Span_From, .int .i64 a0_p.Span_To, .int .i64 a0_p.Start, .int .i64 a0_p.Duration, .vec a0_p.Periods.length 2 (gL cSPeriod dSPeriod a0_p.Periods)]), (1, .c (.int .i64 a1_start)), (2, .c (.int .i64 a2_t))], []⟩ _
  refine SCode.seq ?_
  refine SCode.region (show SOps _ _ _ [0, 1] _ _ from ?_)
  refine SOps.e rfl (.plain rfl) (e_box rfl rfl rfl rfl rfl rfl) ?_
  refine SOps.q rfl (.plain rfl) rfl (q_assign rfl rfl) ?_
  refine SOps.sub (st' := ⟨[(1, .c (.int .i64 a1_start)), (2, .c (.int .i64 a2_t)), (3, .c (.ptr 0 0))], [.box [.int .i64 a0_p.ID, .int .i64 a0_p.Level, .int .i64 a0_p.Purpose, .int .i64 a0_p.Kind, .int .i64 a0_p.Conn, .str a0_p.Txn, .int .i64 a0_p.Span_From, .int .i64 a0_p.Span_To, .int .i64 a0_p.Start, .int .i64 a0_p.Duration, .vec a0_p.Periods.length 2 (gL cSPeriod dSPeriod a0_p.Periods)]]⟩) (sub_gen [0] rfl rfl ⟨zc rfl rfl, zc rfl rfl, zc rfl rfl, trivial⟩ ⟨⟨_, rfl, ⟨ii rfl rfl, ii rfl rfl, ii rfl rfl, ii rfl rfl, ii rfl rfl, ii rfl rfl, ii rfl rfl, ii rfl rfl, ii rfl rfl, ii rfl rfl, ii rfl rfl, trivial⟩⟩, trivial⟩) ?_
  refine SOps.nil ?_
  refine SCode.seq ?_
  refine SCode.seq ?_
  rcases cond_out h with ⟨g1, h⟩ | ⟨g1, h⟩
  · refine SCode.region (show SOps _ _ _ [0, 1, 2, 3, 4, 5, 6, 7, 8, 9, 10, 11] _ _ from ?_)
    refine SOps.q rfl (.plain rfl) rfl (q_move rfl rfl) ?_
    refine SOps.q rfl (.plain rfl) rfl (q_lss rfl rfl rfl) ?_
    refine SOps.q rfl (.plain rfl) rfl (q_move rfl rfl) ?_
    refine SOps.skip rfl 2 15 false rfl rfl (.inl (gT g1)) rfl ?_
    refine SOps.skip rfl 2 15 false rfl rfl (.inl (gT g1)) rfl ?_
    refine SOps.q rfl (.plain rfl) rfl (q_pick_t rfl rfl g1 rfl) ?_
    refine SOps.q rfl (.plain rfl) rfl (q_move rfl rfl) ?_
    refine SOps.skip rfl 6 19 false rfl rfl (.inl rfl) rfl ?_
    refine SOps.skip rfl 6 19 false rfl rfl (.inl rfl) rfl ?_
    refine SOps.skip rfl 6 19 false rfl rfl (.inl rfl) rfl ?_
    refine SOps.skip rfl 6 19 false rfl rfl (.inl rfl) rfl ?_
    refine SOps.q rfl (.plain rfl) rfl (q_pick_t rfl rfl rfl rfl) ?_
    refine SOps.sub (st' := ⟨[(1, .c (.int .i64 a1_start)), (2, .c (.int .i64 a2_t)), (3, .c (.ptr 0 0)), (24, .c (.bool true))], [.box [.int .i64 a0_p.ID, .int .i64 a0_p.Level, .int .i64 a0_p.Purpose, .int .i64 a0_p.Kind, .int .i64 a0_p.Conn, .str a0_p.Txn, .int .i64 a0_p.Span_From, .int .i64 a0_p.Span_To, .int .i64 a0_p.Start, .int .i64 a0_p.Duration, .vec a0_p.Periods.length 2 (gL cSPeriod dSPeriod a0_p.Periods)]]⟩) (sub_gen [0] rfl rfl ⟨zc rfl rfl, zc rfl rfl, zc rfl rfl, zc rfl rfl, trivial⟩ ⟨⟨_, rfl, ⟨ii rfl rfl, ii rfl rfl, ii rfl rfl, ii rfl rfl, ii rfl rfl, ii rfl rfl, ii rfl rfl, ii rfl rfl, ii rfl rfl, ii rfl rfl, ii rfl rfl, trivial⟩⟩, trivial⟩) ?_
    refine SOps.nil ?_
    refine SCode.cond_t rfl rfl ?_
    refine SCode.seq ?_
    refine SCode.region (show SOps _ _ _ [0] _ _ from ?_)
    refine SOps.q rfl (.plain rfl) rfl (q_assign rfl rfl) ?_
    refine SOps.sub (st' := ⟨[(6, .c (.int .i64 ((-1))))], []⟩) (sub_gen [] rfl rfl ⟨zc rfl rfl, trivial⟩ trivial) ?_
    refine SOps.nil ?_
    refine SCode.ret ?_
    obtain rfl := Option.some.inj h
    exact ⟨⟨[(6, .c (.int .i64 ((-1))))], []⟩, _, sub_gen [] rfl rfl ⟨zc rfl rfl, trivial⟩ trivial, resA1 (v := .c (.int .i64 ((-1)))) rfl rfl, rfl⟩
  rcases cond_out h with ⟨g2, h⟩ | ⟨g2, h⟩
  · refine SCode.region (show SOps _ _ _ [0, 1, 2, 3, 4, 5, 6, 7, 8, 9, 10, 11] _ _ from ?_)
    refine SOps.q rfl (.plain rfl) rfl (q_move rfl rfl) ?_
    refine SOps.q rfl (.plain rfl) rfl (q_lss rfl rfl rfl) ?_
    refine SOps.q rfl (.plain rfl) rfl (q_move rfl rfl) ?_
    refine SOps.q rfl (.guard 2 15 false rfl rfl (gF g1)) rfl (q_move rfl rfl) ?_
    refine SOps.q rfl (.guard 2 15 false rfl rfl (gF g1)) rfl (q_gtr rfl rfl rfl) ?_
    refine SOps.q rfl (.plain rfl) rfl (q_pick_f rfl rfl g1 rfl) ?_
    refine SOps.q rfl (.plain rfl) rfl (q_move rfl rfl) ?_
    refine SOps.skip rfl 6 19 false rfl rfl (.inl (gT g2)) rfl ?_
    refine SOps.skip rfl 6 19 false rfl rfl (.inl (gT g2)) rfl ?_
    refine SOps.skip rfl 6 19 false rfl rfl (.inl (gT g2)) rfl ?_
    refine SOps.skip rfl 6 19 false rfl rfl (.inl (gT g2)) rfl ?_
    refine SOps.q rfl (.plain rfl) rfl (q_pick_t rfl rfl g2 rfl) ?_
    refine SOps.sub (st' := ⟨[(1, .c (.int .i64 a1_start)), (2, .c (.int .i64 a2_t)), (3, .c (.ptr 0 0)), (24, .c (.bool true))], [.box [.int .i64 a0_p.ID, .int .i64 a0_p.Level, .int .i64 a0_p.Purpose, .int .i64 a0_p.Kind, .int .i64 a0_p.Conn, .str a0_p.Txn, .int .i64 a0_p.Span_From, .int .i64 a0_p.Span_To, .int .i64 a0_p.Start, .int .i64 a0_p.Duration, .vec a0_p.Periods.length 2 (gL cSPeriod dSPeriod a0_p.Periods)]]⟩) (sub_gen [0] rfl rfl ⟨zc rfl rfl, zc rfl rfl, zc rfl rfl, zc rfl rfl, trivial⟩ ⟨⟨_, rfl, ⟨ii rfl rfl, ii rfl rfl, ii rfl rfl, ii rfl rfl, ii rfl rfl, ii rfl rfl, ii rfl rfl, ii rfl rfl, ii rfl rfl, ii rfl rfl, ii rfl rfl, trivial⟩⟩, trivial⟩) ?_
    refine SOps.nil ?_
    refine SCode.cond_t rfl rfl ?_
    refine SCode.seq ?_
    refine SCode.region (show SOps _ _ _ [0] _ _ from ?_)
    refine SOps.q rfl (.plain rfl) rfl (q_assign rfl rfl) ?_
    refine SOps.sub (st' := ⟨[(6, .c (.int .i64 ((-1))))], []⟩) (sub_gen [] rfl rfl ⟨zc rfl rfl, trivial⟩ trivial) ?_
    refine SOps.nil ?_
    refine SCode.ret ?_
    obtain rfl := Option.some.inj h
    exact ⟨⟨[(6, .c (.int .i64 ((-1))))], []⟩, _, sub_gen [] rfl rfl ⟨zc rfl rfl, trivial⟩ trivial, resA1 (v := .c (.int .i64 ((-1)))) rfl rfl, rfl⟩
  refine SCode.region (show SOps _ _ _ [0, 1, 2, 3, 4, 5, 6, 7, 8, 9, 10, 11] _ _ from ?_)
  refine SOps.q rfl (.plain rfl) rfl (q_move rfl rfl) ?_
  refine SOps.q rfl (.plain rfl) rfl (q_lss rfl rfl rfl) ?_
  refine SOps.q rfl (.plain rfl) rfl (q_move rfl rfl) ?_
  refine SOps.q rfl (.guard 2 15 false rfl rfl (gF g1)) rfl (q_move rfl rfl) ?_
  refine SOps.q rfl (.guard 2 15 false rfl rfl (gF g1)) rfl (q_gtr rfl rfl rfl) ?_
  refine SOps.q rfl (.plain rfl) rfl (q_pick_f rfl rfl g1 rfl) ?_
  refine SOps.q rfl (.plain rfl) rfl (q_move rfl rfl) ?_
  refine SOps.q rfl (.guard 6 19 false rfl rfl (gF g2)) rfl (q_field_ptr rfl rfl fd26_9) ?_
  refine SOps.q rfl (.guard 6 19 false rfl rfl (gF g2)) rfl (q_load_ptr rfl rfl rfl rfl ty24) ?_
  refine SOps.q rfl (.guard 6 19 false rfl rfl (gF g2)) rfl (q_len_vec rfl rfl sl24) ?_
  refine SOps.q rfl (.guard 6 19 false rfl rfl (gF g2)) rfl (q_gtr rfl rfl rfl) ?_
  refine SOps.q rfl (.plain rfl) rfl (q_pick_f rfl rfl g2 rfl) ?_
  refine SOps.sub (st' := ⟨[(1, .c (.int .i64 a1_start)), (2, .c (.int .i64 a2_t)), (3, .c (.ptr 0 0)), (24, .c (.bool (decide (24 < ((a0_p.Periods).length : Int)))))], [.box [.int .i64 a0_p.ID, .int .i64 a0_p.Level, .int .i64 a0_p.Purpose, .int .i64 a0_p.Kind, .int .i64 a0_p.Conn, .str a0_p.Txn, .int .i64 a0_p.Span_From, .int .i64 a0_p.Span_To, .int .i64 a0_p.Start, .int .i64 a0_p.Duration, .vec a0_p.Periods.length 2 (gL cSPeriod dSPeriod a0_p.Periods)]]⟩) (sub_gen [0] rfl rfl ⟨zc rfl rfl, zc rfl rfl, zc rfl rfl, zc rfl rfl, trivial⟩ ⟨⟨_, rfl, ⟨ii rfl rfl, ii rfl rfl, ii rfl rfl, ii rfl rfl, ii rfl rfl, ii rfl rfl, ii rfl rfl, ii rfl rfl, ii rfl rfl, ii rfl rfl, ii rfl rfl, trivial⟩⟩, trivial⟩) ?_
  refine SOps.nil ?_
  rcases cond_out h with ⟨g3, h⟩ | ⟨g3, h⟩
  · refine SCode.cond_t rfl g3 ?_
    refine SCode.seq ?_
    refine SCode.region (show SOps _ _ _ [0] _ _ from ?_)
    refine SOps.q rfl (.plain rfl) rfl (q_assign rfl rfl) ?_
    refine SOps.sub (st' := ⟨[(6, .c (.int .i64 ((-1))))], []⟩) (sub_gen [] rfl rfl ⟨zc rfl rfl, trivial⟩ trivial) ?_
    refine SOps.nil ?_
    refine SCode.ret ?_
    obtain rfl := Option.some.inj h
    exact ⟨⟨[(6, .c (.int .i64 ((-1))))], []⟩, _, sub_gen [] rfl rfl ⟨zc rfl rfl, trivial⟩ trivial, resA1 (v := .c (.int .i64 ((-1)))) rfl rfl, rfl⟩
  refine SCode.cond_f rfl g3 ?_
  refine SCode.skip ?_
  refine SCode.join (σ := Unit) (S := fun s => ⟨[], []⟩) (g := fun s => profile_Next_p4 = some r) ?_ ?_
  rotate_left
  · refine SCode.seq ?_
    obtain ⟨c_5, g6, h⟩ := bind_out h
    try dsimp only at h
    refine SCode.region (show SOps _ _ _ [0, 1, 2, 3, 4, 5] _ _ from ?_)
    refine SOps.q rfl (.plain rfl) rfl (q_load_ptr_all rfl rfl rfl rfl rfl ty26) ?_
    refine SOps.q rfl (.plain rfl) rfl (q_move rfl rfl) ?_
    refine SOps.q rfl (.plain rfl) rfl (q_move rfl rfl) ?_
    refine SOps.q rfl (.plain rfl) rfl (q_call (profile_changes_ok F a0_p a1_start a2_t c_5 g6) [] rfl fn40 ⟨⟨rfl, rfl⟩, ⟨_, rfl, .inl ⟨rfl, rfl⟩⟩, ⟨_, rfl, .inl ⟨rfl, rfl⟩⟩, trivial⟩ (.inl rfl)) ?_
    refine SOps.q rfl (.plain rfl) rfl (q_len_vec rfl rfl sl54) ?_
    refine SOps.q rfl (.plain rfl) rfl (q_move rfl rfl) ?_
    refine SOps.sub (st' := ⟨[(1, .c (.int .i64 a1_start)), (2, .c (.int .i64 a2_t)), (3, .c (.ptr 0 0)), (28, .c (.vec c_5.length 1 (gL (cInt .i64) 0 c_5))), (29, .c (.int .i64 (((c_5).length : Int)))), (30, .c (.int .i64 0))], [.box [.int .i64 a0_p.ID, .int .i64 a0_p.Level, .int .i64 a0_p.Purpose, .int .i64 a0_p.Kind, .int .i64 a0_p.Conn, .str a0_p.Txn, .int .i64 a0_p.Span_From, .int .i64 a0_p.Span_To, .int .i64 a0_p.Start, .int .i64 a0_p.Duration, .vec a0_p.Periods.length 2 (gL cSPeriod dSPeriod a0_p.Periods)]]⟩) (sub_gen [0] rfl rfl ⟨zc rfl rfl, zc rfl rfl, zc rfl rfl, zc rfl rfl, zc rfl rfl, zc rfl rfl, trivial⟩ ⟨⟨_, rfl, ⟨ii rfl rfl, ii rfl rfl, ii rfl rfl, ii rfl rfl, ii rfl rfl, ii rfl rfl, ii rfl rfl, ii rfl rfl, ii rfl rfl, ii rfl rfl, ii rfl rfl, trivial⟩⟩, trivial⟩) ?_
    refine SOps.nil ?_
    refine SCode.block ?_
    refine SCode.sub (st' := ⟨[(1, .c (.int .i64 a1_start)), (2, .c (.int .i64 a2_t)), (3, .c (.ptr 0 0)), (28, .c (.vec c_5.length 1 (gL (cInt .i64) 0 c_5))), (29, .c (.int .i64 (((c_5).length : Int)))), (30, .c (.int .i64 0))], [.box [.int .i64 a0_p.ID, .int .i64 a0_p.Level, .int .i64 a0_p.Purpose, .int .i64 a0_p.Kind, .int .i64 a0_p.Conn, .str a0_p.Txn, .int .i64 a0_p.Span_From, .int .i64 a0_p.Span_To, .int .i64 a0_p.Start, .int .i64 a0_p.Duration, .vec a0_p.Periods.length 2 (gL cSPeriod dSPeriod a0_p.Periods)]]⟩) (sub_gen [0] rfl rfl ⟨zc rfl rfl, zc rfl rfl, zc rfl rfl, zc rfl rfl, zc rfl rfl, zc rfl rfl, trivial⟩ ⟨⟨_, rfl, ⟨ii rfl rfl, ii rfl rfl, ii rfl rfl, ii rfl rfl, ii rfl rfl, ii rfl rfl, ii rfl rfl, ii rfl rfl, ii rfl rfl, ii rfl rfl, ii rfl rfl, trivial⟩⟩, trivial⟩) ?_
    refine (SCode.loop (σ := Nat × Int) (S := fun s => ⟨[(1, .c (.int .i64 a1_start)), (2, .c (.int .i64 a2_t)), (3, .c (.ptr 0 0)), (28, .c (.vec c_5.length 1 (gL (cInt .i64) 0 c_5))), (29, .c (.int .i64 (((c_5).length : Int)))), (30, .c (.int .i64 s.2))], [.box [.int .i64 a0_p.ID, .int .i64 a0_p.Level, .int .i64 a0_p.Purpose, .int .i64 a0_p.Kind, .int .i64 a0_p.Conn, .str a0_p.Txn, .int .i64 a0_p.Span_From, .int .i64 a0_p.Span_To, .int .i64 a0_p.Start, .int .i64 a0_p.Duration, .vec a0_p.Periods.length 2 (gL cSPeriod dSPeriod a0_p.Periods)]]⟩) (g := fun s => profile_Next_l30 F a0_p a1_start a2_t c_5 s.1 s.2 = some r) (μ := fun s => s.1) (F, 0) h ?_)
    rintro ⟨n_30, t30_18⟩ h
    replace h : profile_Next_l30 F a0_p a1_start a2_t c_5 n_30 t30_18 = some r := h
    show SCode _ _ _ ⟨[(1, .c (.int .i64 a1_start)), (2, .c (.int .i64 a2_t)), (3, .c (.ptr 0 0)), (28, .c (.vec c_5.length 1 (gL (cInt .i64) 0 c_5))), (29, .c (.int .i64 (((c_5).length : Int)))), (30, .c (.int .i64 t30_18))], [.box [.int .i64 a0_p.ID, .int .i64 a0_p.Level, .int .i64 a0_p.Purpose, .int .i64 a0_p.Kind, .int .i64 a0_p.Conn, .str a0_p.Txn, .int .i64 a0_p.Span_From, .int .i64 a0_p.Span_To, .int .i64 a0_p.Start, .int .i64 a0_p.Duration, .vec a0_p.Periods.length 2 (gL cSPeriod dSPeriod a0_p.Periods)]]⟩ _
    cases n_30 with
    | zero => cases h
    | succ n_30 =>
      replace h : profile_Next_b30 F a0_p a1_start a2_t c_5 (fun t30_18 => profile_Next_l30 F a0_p a1_start a2_t c_5 n_30 t30_18) t30_18 = some r := h
      unfold profile_Next_b30 at h
      refine SCode.seq ?_
      refine SCode.region (show SOps _ _ _ [0] _ _ from ?_)
      refine SOps.q rfl (.plain rfl) rfl (q_lss rfl rfl rfl) ?_
      refine SOps.sub (st' := ⟨[(1, .c (.int .i64 a1_start)), (2, .c (.int .i64 a2_t)), (3, .c (.ptr 0 0)), (28, .c (.vec c_5.length 1 (gL (cInt .i64) 0 c_5))), (29, .c (.int .i64 (((c_5).length : Int)))), (30, .c (.int .i64 t30_18)), (31, .c (.bool (decide (t30_18 < ((c_5).length : Int)))))], [.box [.int .i64 a0_p.ID, .int .i64 a0_p.Level, .int .i64 a0_p.Purpose, .int .i64 a0_p.Kind, .int .i64 a0_p.Conn, .str a0_p.Txn, .int .i64 a0_p.Span_From, .int .i64 a0_p.Span_To, .int .i64 a0_p.Start, .int .i64 a0_p.Duration, .vec a0_p.Periods.length 2 (gL cSPeriod dSPeriod a0_p.Periods)]]⟩) (sub_gen [0] rfl rfl ⟨zc rfl rfl, zc rfl rfl, zc rfl rfl, zc rfl rfl, zc rfl rfl, zc rfl rfl, zc rfl rfl, trivial⟩ ⟨⟨_, rfl, ⟨ii rfl rfl, ii rfl rfl, ii rfl rfl, ii rfl rfl, ii rfl rfl, ii rfl rfl, ii rfl rfl, ii rfl rfl, ii rfl rfl, ii rfl rfl, ii rfl rfl, trivial⟩⟩, trivial⟩) ?_
      refine SOps.nil ?_
      refine SCode.seq ?_
      rcases cond_out h with ⟨g31, h⟩ | ⟨g31, h⟩
      · refine SCode.cond_t rfl g31 ?_
        refine SCode.skip ?_
        refine SCode.join (σ := Unit) (S := fun s => ⟨[(1, .c (.int .i64 a1_start)), (2, .c (.int .i64 a2_t)), (3, .c (.ptr 0 0)), (28, .c (.vec c_5.length 1 (gL (cInt .i64) 0 c_5))), (29, .c (.int .i64 (((c_5).length : Int)))), (30, .c (.int .i64 t30_18))], [.box [.int .i64 a0_p.ID, .int .i64 a0_p.Level, .int .i64 a0_p.Purpose, .int .i64 a0_p.Kind, .int .i64 a0_p.Conn, .str a0_p.Txn, .int .i64 a0_p.Span_From, .int .i64 a0_p.Span_To, .int .i64 a0_p.Start, .int .i64 a0_p.Duration, .vec a0_p.Periods.length 2 (gL cSPeriod dSPeriod a0_p.Periods)]]⟩) (g := fun s => profile_Next_p32 t30_18 (fun t30_18 => profile_Next_l30 F a0_p a1_start a2_t c_5 n_30 t30_18) = some r) ?_ ?_
        rotate_left
        · refine SCode.block ?_
          refine SCode.seq ?_
          obtain ⟨g33, h⟩ := guard_out h
          refine SCode.region (show SOps _ _ _ [0, 1, 2] _ _ from ?_)
          refine SOps.q rfl (.plain rfl) rfl (q_index_vec rfl rfl rfl sl54 rfl g33.1 g33.2) ?_
          refine SOps.q rfl (.plain rfl) rfl (q_load_eptr rfl rfl ty3) ?_
          refine SOps.q rfl (.plain rfl) rfl (q_assign rfl rfl) ?_
          refine SOps.sub (st' := ⟨[(1, .c (.int .i64 a1_start)), (2, .c (.int .i64 a2_t)), (3, .c (.ptr 0 0)), (8, .c (.int .i64 (c_5.getD t30_18.toNat 0))), (28, .c (.vec c_5.length 1 (gL (cInt .i64) 0 c_5))), (29, .c (.int .i64 (((c_5).length : Int)))), (30, .c (.int .i64 t30_18))], [.box [.int .i64 a0_p.ID, .int .i64 a0_p.Level, .int .i64 a0_p.Purpose, .int .i64 a0_p.Kind, .int .i64 a0_p.Conn, .str a0_p.Txn, .int .i64 a0_p.Span_From, .int .i64 a0_p.Span_To, .int .i64 a0_p.Start, .int .i64 a0_p.Duration, .vec a0_p.Periods.length 2 (gL cSPeriod dSPeriod a0_p.Periods)]]⟩) (sub_gen [0] rfl rfl ⟨zc rfl rfl, zc rfl rfl, zc rfl rfl, zc rfl rfl, zc rfl rfl, zc rfl rfl, zc rfl rfl, trivial⟩ ⟨⟨_, rfl, ⟨ii rfl rfl, ii rfl rfl, ii rfl rfl, ii rfl rfl, ii rfl rfl, ii rfl rfl, ii rfl rfl, ii rfl rfl, ii rfl rfl, ii rfl rfl, ii rfl rfl, trivial⟩⟩, trivial⟩) ?_
          refine SOps.nil ?_
          refine SCode.seq ?_
          refine SCode.seq ?_
          rcases cond_out h with ⟨g34, h⟩ | ⟨g34, h⟩
          · refine SCode.region (show SOps _ _ _ [0, 1, 2, 3, 4, 5, 6] _ _ from ?_)
            refine SOps.q rfl (.plain rfl) rfl (q_move rfl rfl) ?_
            refine SOps.q rfl (.plain rfl) rfl (q_move rfl rfl) ?_
            refine SOps.q rfl (.plain rfl) rfl (q_leq rfl rfl rfl) ?_
            refine SOps.q rfl (.plain rfl) rfl (q_move rfl rfl) ?_
            refine SOps.skip rfl 3 37 false rfl rfl (.inl (gT g34)) rfl ?_
            refine SOps.skip rfl 3 37 false rfl rfl (.inl (gT g34)) rfl ?_
            refine SOps.q rfl (.plain rfl) rfl (q_pick_t rfl rfl g34 rfl) ?_
            refine SOps.sub (st' := ⟨[(1, .c (.int .i64 a1_start)), (2, .c (.int .i64 a2_t)), (3, .c (.ptr 0 0)), (8, .c (.int .i64 (c_5.getD t30_18.toNat 0))), (28, .c (.vec c_5.length 1 (gL (cInt .i64) 0 c_5))), (29, .c (.int .i64 (((c_5).length : Int)))), (30, .c (.int .i64 t30_18)), (40, .c (.bool true))], [.box [.int .i64 a0_p.ID, .int .i64 a0_p.Level, .int .i64 a0_p.Purpose, .int .i64 a0_p.Kind, .int .i64 a0_p.Conn, .str a0_p.Txn, .int .i64 a0_p.Span_From, .int .i64 a0_p.Span_To, .int .i64 a0_p.Start, .int .i64 a0_p.Duration, .vec a0_p.Periods.length 2 (gL cSPeriod dSPeriod a0_p.Periods)]]⟩) (sub_gen [0] rfl rfl ⟨zc rfl rfl, zc rfl rfl, zc rfl rfl, zc rfl rfl, zc rfl rfl, zc rfl rfl, zc rfl rfl, zc rfl rfl, trivial⟩ ⟨⟨_, rfl, ⟨ii rfl rfl, ii rfl rfl, ii rfl rfl, ii rfl rfl, ii rfl rfl, ii rfl rfl, ii rfl rfl, ii rfl rfl, ii rfl rfl, ii rfl rfl, ii rfl rfl, trivial⟩⟩, trivial⟩) ?_
            refine SOps.nil ?_
            refine SCode.cond_t rfl rfl ?_
            refine SCode.exit ?_
            exact ⟨(), h, sub_gen [0] rfl rfl ⟨zc rfl rfl, zc rfl rfl, zc rfl rfl, zc rfl rfl, zc rfl rfl, zc rfl rfl, trivial⟩ ⟨⟨_, rfl, ⟨ii rfl rfl, ii rfl rfl, ii rfl rfl, ii rfl rfl, ii rfl rfl, ii rfl rfl, ii rfl rfl, ii rfl rfl, ii rfl rfl, ii rfl rfl, ii rfl rfl, trivial⟩⟩, trivial⟩⟩
          refine SCode.region (show SOps _ _ _ [0, 1, 2, 3, 4, 5, 6] _ _ from ?_)
          refine SOps.q rfl (.plain rfl) rfl (q_move rfl rfl) ?_
          refine SOps.q rfl (.plain rfl) rfl (q_move rfl rfl) ?_
          refine SOps.q rfl (.plain rfl) rfl (q_leq rfl rfl rfl) ?_
          refine SOps.q rfl (.plain rfl) rfl (q_move rfl rfl) ?_
          refine SOps.q rfl (.guard 3 37 false rfl rfl (gF g34)) rfl (q_move rfl rfl) ?_
          refine SOps.q rfl (.guard 3 37 false rfl rfl (gF g34)) rfl (q_gtr rfl rfl rfl) ?_
          refine SOps.q rfl (.plain rfl) rfl (q_pick_f rfl rfl g34 rfl) ?_
          refine SOps.sub (st' := ⟨[(1, .c (.int .i64 a1_start)), (2, .c (.int .i64 a2_t)), (3, .c (.ptr 0 0)), (8, .c (.int .i64 (c_5.getD t30_18.toNat 0))), (28, .c (.vec c_5.length 1 (gL (cInt .i64) 0 c_5))), (29, .c (.int .i64 (((c_5).length : Int)))), (30, .c (.int .i64 t30_18)), (40, .c (.bool (decide (268435456 < c_5.getD t30_18.toNat 0))))], [.box [.int .i64 a0_p.ID, .int .i64 a0_p.Level, .int .i64 a0_p.Purpose, .int .i64 a0_p.Kind, .int .i64 a0_p.Conn, .str a0_p.Txn, .int .i64 a0_p.Span_From, .int .i64 a0_p.Span_To, .int .i64 a0_p.Start, .int .i64 a0_p.Duration, .vec a0_p.Periods.length 2 (gL cSPeriod dSPeriod a0_p.Periods)]]⟩) (sub_gen [0] rfl rfl ⟨zc rfl rfl, zc rfl rfl, zc rfl rfl, zc rfl rfl, zc rfl rfl, zc rfl rfl, zc rfl rfl, zc rfl rfl, trivial⟩ ⟨⟨_, rfl, ⟨ii rfl rfl, ii rfl rfl, ii rfl rfl, ii rfl rfl, ii rfl rfl, ii rfl rfl, ii rfl rfl, ii rfl rfl, ii rfl rfl, ii rfl rfl, ii rfl rfl, trivial⟩⟩, trivial⟩) ?_
          refine SOps.nil ?_
          rcases cond_out h with ⟨g35, h⟩ | ⟨g35, h⟩
          · refine SCode.cond_t rfl g35 ?_
            refine SCode.exit ?_
            exact ⟨(), h, sub_gen [0] rfl rfl ⟨zc rfl rfl, zc rfl rfl, zc rfl rfl, zc rfl rfl, zc rfl rfl, zc rfl rfl, trivial⟩ ⟨⟨_, rfl, ⟨ii rfl rfl, ii rfl rfl, ii rfl rfl, ii rfl rfl, ii rfl rfl, ii rfl rfl, ii rfl rfl, ii rfl rfl, ii rfl rfl, ii rfl rfl, ii rfl rfl, trivial⟩⟩, trivial⟩⟩
          refine SCode.cond_f rfl g35 ?_
          refine SCode.skip ?_
          refine SCode.seq ?_
          obtain ⟨c_36, g37, h⟩ := bind_out h
          try dsimp only at h
          refine SCode.region (show SOps _ _ _ [0, 1, 2, 3, 4, 5, 6, 7, 8, 9] _ _ from ?_)
          refine SOps.q rfl (.plain rfl) rfl (q_load_ptr_all rfl rfl rfl rfl rfl ty26) ?_
          refine SOps.q rfl (.plain rfl) rfl (q_move rfl rfl) ?_
          refine SOps.q rfl (.plain rfl) rfl (q_move rfl rfl) ?_
          refine SOps.q rfl (.plain rfl) rfl (q_sub rfl rfl rfl) ?_
          refine SOps.q rfl (.plain rfl) rfl (q_call (profile_Limit_ok F a0_p a1_start (IntKind.wrap .i64 (c_5.getD t30_18.toNat 0 - 1)) c_36 g37) [] rfl fn22 ⟨⟨rfl, rfl⟩, ⟨_, rfl, .inl ⟨rfl, rfl⟩⟩, ⟨_, rfl, .inl ⟨rfl, rfl⟩⟩, trivial⟩ (.inl rfl)) ?_
          refine SOps.q rfl (.plain rfl) rfl (q_move rfl rfl) ?_
          refine SOps.q rfl (.plain rfl) rfl (q_extract rfl rfl rfl) ?_
          refine SOps.q rfl (.plain rfl) rfl (q_extract rfl rfl rfl) ?_
          refine SOps.q rfl (.plain rfl) rfl (q_assign rfl rfl) ?_
          refine SOps.q rfl (.plain rfl) rfl (q_assign rfl rfl) ?_
          refine SOps.sub (st' := ⟨[(1, .c (.int .i64 a1_start)), (2, .c (.int .i64 a2_t)), (3, .c (.ptr 0 0)), (8, .c (.int .i64 (c_5.getD t30_18.toNat 0))), (9, .c (.int .i64 c_36.1)), (10, .c (.bool c_36.2)), (28, .c (.vec c_5.length 1 (gL (cInt .i64) 0 c_5))), (29, .c (.int .i64 (((c_5).length : Int)))), (30, .c (.int .i64 t30_18))], [.box [.int .i64 a0_p.ID, .int .i64 a0_p.Level, .int .i64 a0_p.Purpose, .int .i64 a0_p.Kind, .int .i64 a0_p.Conn, .str a0_p.Txn, .int .i64 a0_p.Span_From, .int .i64 a0_p.Span_To, .int .i64 a0_p.Start, .int .i64 a0_p.Duration, .vec a0_p.Periods.length 2 (gL cSPeriod dSPeriod a0_p.Periods)]]⟩) (sub_gen [0] rfl rfl ⟨zc rfl rfl, zc rfl rfl, zc rfl rfl, zc rfl rfl, zc rfl rfl, zc rfl rfl, zc rfl rfl, zc rfl rfl, zc rfl rfl, trivial⟩ ⟨⟨_, rfl, ⟨ii rfl rfl, ii rfl rfl, ii rfl rfl, ii rfl rfl, ii rfl rfl, ii rfl rfl, ii rfl rfl, ii rfl rfl, ii rfl rfl, ii rfl rfl, ii rfl rfl, trivial⟩⟩, trivial⟩) ?_
          refine SOps.nil ?_
          refine SCode.seq ?_
          obtain ⟨c_38, g39, h⟩ := bind_out h
          try dsimp only at h
          refine SCode.region (show SOps _ _ _ [0, 1, 2, 3, 4, 5, 6, 7, 8] _ _ from ?_)
          refine SOps.q rfl (.plain rfl) rfl (q_load_ptr_all rfl rfl rfl rfl rfl ty26) ?_
          refine SOps.q rfl (.plain rfl) rfl (q_move rfl rfl) ?_
          refine SOps.q rfl (.plain rfl) rfl (q_move rfl rfl) ?_
          refine SOps.q rfl (.plain rfl) rfl (q_call (profile_Limit_ok F a0_p a1_start (c_5.getD t30_18.toNat 0) c_38 g39) [] rfl fn22 ⟨⟨rfl, rfl⟩, ⟨_, rfl, .inl ⟨rfl, rfl⟩⟩, ⟨_, rfl, .inl ⟨rfl, rfl⟩⟩, trivial⟩ (.inl rfl)) ?_
          refine SOps.q rfl (.plain rfl) rfl (q_move rfl rfl) ?_
          refine SOps.q rfl (.plain rfl) rfl (q_extract rfl rfl rfl) ?_
          refine SOps.q rfl (.plain rfl) rfl (q_extract rfl rfl rfl) ?_
          refine SOps.q rfl (.plain rfl) rfl (q_assign rfl rfl) ?_
          refine SOps.q rfl (.plain rfl) rfl (q_assign rfl rfl) ?_
          refine SOps.sub (st' := ⟨[(1, .c (.int .i64 a1_start)), (2, .c (.int .i64 a2_t)), (3, .c (.ptr 0 0)), (8, .c (.int .i64 (c_5.getD t30_18.toNat 0))), (9, .c (.int .i64 c_36.1)), (10, .c (.bool c_36.2)), (11, .c (.int .i64 c_38.1)), (12, .c (.bool c_38.2)), (28, .c (.vec c_5.length 1 (gL (cInt .i64) 0 c_5))), (29, .c (.int .i64 (((c_5).length : Int)))), (30, .c (.int .i64 t30_18))], [.box [.int .i64 a0_p.ID, .int .i64 a0_p.Level, .int .i64 a0_p.Purpose, .int .i64 a0_p.Kind, .int .i64 a0_p.Conn, .str a0_p.Txn, .int .i64 a0_p.Span_From, .int .i64 a0_p.Span_To, .int .i64 a0_p.Start, .int .i64 a0_p.Duration, .vec a0_p.Periods.length 2 (gL cSPeriod dSPeriod a0_p.Periods)]]⟩) (sub_gen [0] rfl rfl ⟨zc rfl rfl, zc rfl rfl, zc rfl rfl, zc rfl rfl, zc rfl rfl, zc rfl rfl, zc rfl rfl, zc rfl rfl, zc rfl rfl, zc rfl rfl, zc rfl rfl, trivial⟩ ⟨⟨_, rfl, ⟨ii rfl rfl, ii rfl rfl, ii rfl rfl, ii rfl rfl, ii rfl rfl, ii rfl rfl, ii rfl rfl, ii rfl rfl, ii rfl rfl, ii rfl rfl, ii rfl rfl, trivial⟩⟩, trivial⟩) ?_
          refine SOps.nil ?_
          refine SCode.seq ?_
          rcases cond_out h with ⟨g40, h⟩ | ⟨g40, h⟩
          · refine SCode.region (show SOps _ _ _ [0, 1, 2, 3, 4, 5, 6, 7] _ _ from ?_)
            refine SOps.q rfl (.plain rfl) rfl (q_move rfl rfl) ?_
            refine SOps.q rfl (.plain rfl) rfl (q_move rfl rfl) ?_
            refine SOps.q rfl (.plain rfl) rfl (q_neq rfl rfl rfl) ?_
            refine SOps.q rfl (.plain rfl) rfl (q_move rfl rfl) ?_
            refine SOps.skip rfl 3 59 false rfl rfl (.inl (gT g40)) rfl ?_
            refine SOps.skip rfl 3 59 false rfl rfl (.inl (gT g40)) rfl ?_
            refine SOps.skip rfl 3 59 false rfl rfl (.inl (gT g40)) rfl ?_
            refine SOps.q rfl (.plain rfl) rfl (q_pick_t rfl rfl g40 rfl) ?_
            refine SOps.sub (st' := ⟨[(1, .c (.int .i64 a1_start)), (2, .c (.int .i64 a2_t)), (3, .c (.ptr 0 0)), (8, .c (.int .i64 (c_5.getD t30_18.toNat 0))), (28, .c (.vec c_5.length 1 (gL (cInt .i64) 0 c_5))), (29, .c (.int .i64 (((c_5).length : Int)))), (30, .c (.int .i64 t30_18)), (63, .c (.bool true))], [.box [.int .i64 a0_p.ID, .int .i64 a0_p.Level, .int .i64 a0_p.Purpose, .int .i64 a0_p.Kind, .int .i64 a0_p.Conn, .str a0_p.Txn, .int .i64 a0_p.Span_From, .int .i64 a0_p.Span_To, .int .i64 a0_p.Start, .int .i64 a0_p.Duration, .vec a0_p.Periods.length 2 (gL cSPeriod dSPeriod a0_p.Periods)]]⟩) (sub_gen [0] rfl rfl ⟨zc rfl rfl, zc rfl rfl, zc rfl rfl, zc rfl rfl, zc rfl rfl, zc rfl rfl, zc rfl rfl, zc rfl rfl, trivial⟩ ⟨⟨_, rfl, ⟨ii rfl rfl, ii rfl rfl, ii rfl rfl, ii rfl rfl, ii rfl rfl, ii rfl rfl, ii rfl rfl, ii rfl rfl, ii rfl rfl, ii rfl rfl, ii rfl rfl, trivial⟩⟩, trivial⟩) ?_
            refine SOps.nil ?_
            refine SCode.cond_t rfl rfl ?_
            refine SCode.seq ?_
            refine SCode.region (show SOps _ _ _ [0, 1] _ _ from ?_)
            refine SOps.q rfl (.plain rfl) rfl (q_move rfl rfl) ?_
            refine SOps.q rfl (.plain rfl) rfl (q_assign rfl rfl) ?_
            refine SOps.sub (st' := ⟨[(6, .c (.int .i64 (c_5.getD t30_18.toNat 0)))], []⟩) (sub_gen [] rfl rfl ⟨zc rfl rfl, trivial⟩ trivial) ?_
            refine SOps.nil ?_
            refine SCode.ret ?_
            obtain rfl := Option.some.inj h
            exact ⟨⟨[(6, .c (.int .i64 (c_5.getD t30_18.toNat 0)))], []⟩, _, sub_gen [] rfl rfl ⟨zc rfl rfl, trivial⟩ trivial, resA1 (v := .c (.int .i64 (c_5.getD t30_18.toNat 0))) rfl rfl, rfl⟩
          refine SCode.region (show SOps _ _ _ [0, 1, 2, 3, 4, 5, 6, 7] _ _ from ?_)
          refine SOps.q rfl (.plain rfl) rfl (q_move rfl rfl) ?_
          refine SOps.q rfl (.plain rfl) rfl (q_move rfl rfl) ?_
          refine SOps.q rfl (.plain rfl) rfl (q_neq rfl rfl rfl) ?_
          refine SOps.q rfl (.plain rfl) rfl (q_move rfl rfl) ?_
          refine SOps.q rfl (.guard 3 59 false rfl rfl (gF g40)) rfl (q_move rfl rfl) ?_
          refine SOps.q rfl (.guard 3 59 false rfl rfl (gF g40)) rfl (q_move rfl rfl) ?_
          refine SOps.q rfl (.guard 3 59 false rfl rfl (gF g40)) rfl (q_neqB rfl rfl rfl un4) ?_
          refine SOps.q rfl (.plain rfl) rfl (q_pick_f rfl rfl g40 rfl) ?_
          refine SOps.sub (st' := ⟨[(1, .c (.int .i64 a1_start)), (2, .c (.int .i64 a2_t)), (3, .c (.ptr 0 0)), (8, .c (.int .i64 (c_5.getD t30_18.toNat 0))), (28, .c (.vec c_5.length 1 (gL (cInt .i64) 0 c_5))), (29, .c (.int .i64 (((c_5).length : Int)))), (30, .c (.int .i64 t30_18)), (63, .c (.bool ((!(c_36.2 == c_38.2)))))], [.box [.int .i64 a0_p.ID, .int .i64 a0_p.Level, .int .i64 a0_p.Purpose, .int .i64 a0_p.Kind, .int .i64 a0_p.Conn, .str a0_p.Txn, .int .i64 a0_p.Span_From, .int .i64 a0_p.Span_To, .int .i64 a0_p.Start, .int .i64 a0_p.Duration, .vec a0_p.Periods.length 2 (gL cSPeriod dSPeriod a0_p.Periods)]]⟩) (sub_gen [0] rfl rfl ⟨zc rfl rfl, zc rfl rfl, zc rfl rfl, zc rfl rfl, zc rfl rfl, zc rfl rfl, zc rfl rfl, zc rfl rfl, trivial⟩ ⟨⟨_, rfl, ⟨ii rfl rfl, ii rfl rfl, ii rfl rfl, ii rfl rfl, ii rfl rfl, ii rfl rfl, ii rfl rfl, ii rfl rfl, ii rfl rfl, ii rfl rfl, ii rfl rfl, trivial⟩⟩, trivial⟩) ?_
          refine SOps.nil ?_
          rcases cond_out h with ⟨g41, h⟩ | ⟨g41, h⟩
          · refine SCode.cond_t rfl g41 ?_
            refine SCode.seq ?_
            refine SCode.region (show SOps _ _ _ [0, 1] _ _ from ?_)
            refine SOps.q rfl (.plain rfl) rfl (q_move rfl rfl) ?_
            refine SOps.q rfl (.plain rfl) rfl (q_assign rfl rfl) ?_
            refine SOps.sub (st' := ⟨[(6, .c (.int .i64 (c_5.getD t30_18.toNat 0)))], []⟩) (sub_gen [] rfl rfl ⟨zc rfl rfl, trivial⟩ trivial) ?_
            refine SOps.nil ?_
            refine SCode.ret ?_
            obtain rfl := Option.some.inj h
            exact ⟨⟨[(6, .c (.int .i64 (c_5.getD t30_18.toNat 0)))], []⟩, _, sub_gen [] rfl rfl ⟨zc rfl rfl, trivial⟩ trivial, resA1 (v := .c (.int .i64 (c_5.getD t30_18.toNat 0))) rfl rfl, rfl⟩
          refine SCode.cond_f rfl g41 ?_
          refine SCode.skip ?_
          exact ⟨(), h, sub_gen [0] rfl rfl ⟨zc rfl rfl, zc rfl rfl, zc rfl rfl, zc rfl rfl, zc rfl rfl, zc rfl rfl, trivial⟩ ⟨⟨_, rfl, ⟨ii rfl rfl, ii rfl rfl, ii rfl rfl, ii rfl rfl, ii rfl rfl, ii rfl rfl, ii rfl rfl, ii rfl rfl, ii rfl rfl, ii rfl rfl, ii rfl rfl, trivial⟩⟩, trivial⟩⟩
        rintro ⟨⟩ h
        show SCode _ _ _ ⟨[(1, .c (.int .i64 a1_start)), (2, .c (.int .i64 a2_t)), (3, .c (.ptr 0 0)), (28, .c (.vec c_5.length 1 (gL (cInt .i64) 0 c_5))), (29, .c (.int .i64 (((c_5).length : Int)))), (30, .c (.int .i64 t30_18))], [.box [.int .i64 a0_p.ID, .int .i64 a0_p.Level, .int .i64 a0_p.Purpose, .int .i64 a0_p.Kind, .int .i64 a0_p.Conn, .str a0_p.Txn, .int .i64 a0_p.Span_From, .int .i64 a0_p.Span_To, .int .i64 a0_p.Start, .int .i64 a0_p.Duration, .vec a0_p.Periods.length 2 (gL cSPeriod dSPeriod a0_p.Periods)]]⟩ _
        replace h : profile_Next_p32 t30_18 (fun t30_18 => profile_Next_l30 F a0_p a1_start a2_t c_5 n_30 t30_18) = some r := h
        unfold profile_Next_p32 at h
        refine SCode.region (show SOps _ _ _ [0, 1] _ _ from ?_)
        refine SOps.q rfl (.plain rfl) rfl (q_add rfl rfl rfl) ?_
        refine SOps.q rfl (.plain rfl) rfl (q_move rfl rfl) ?_
        refine SOps.sub (st' := ⟨[(1, .c (.int .i64 a1_start)), (2, .c (.int .i64 a2_t)), (3, .c (.ptr 0 0)), (28, .c (.vec c_5.length 1 (gL (cInt .i64) 0 c_5))), (29, .c (.int .i64 (((c_5).length : Int)))), (30, .c (.int .i64 (IntKind.wrap .i64 (t30_18 + 1))))], [.box [.int .i64 a0_p.ID, .int .i64 a0_p.Level, .int .i64 a0_p.Purpose, .int .i64 a0_p.Kind, .int .i64 a0_p.Conn, .str a0_p.Txn, .int .i64 a0_p.Span_From, .int .i64 a0_p.Span_To, .int .i64 a0_p.Start, .int .i64 a0_p.Duration, .vec a0_p.Periods.length 2 (gL cSPeriod dSPeriod a0_p.Periods)]]⟩) (sub_gen [0] rfl rfl ⟨zc rfl rfl, zc rfl rfl, zc rfl rfl, zc rfl rfl, zc rfl rfl, zc rfl rfl, trivial⟩ ⟨⟨_, rfl, ⟨ii rfl rfl, ii rfl rfl, ii rfl rfl, ii rfl rfl, ii rfl rfl, ii rfl rfl, ii rfl rfl, ii rfl rfl, ii rfl rfl, ii rfl rfl, ii rfl rfl, trivial⟩⟩, trivial⟩) ?_
        refine SOps.nil ?_
        exact ⟨(n_30, IntKind.wrap .i64 (t30_18 + 1)), h, Nat.lt_succ_self n_30, sub_gen [0] rfl rfl ⟨zc rfl rfl, zc rfl rfl, zc rfl rfl, zc rfl rfl, zc rfl rfl, zc rfl rfl, trivial⟩ ⟨⟨_, rfl, ⟨ii rfl rfl, ii rfl rfl, ii rfl rfl, ii rfl rfl, ii rfl rfl, ii rfl rfl, ii rfl rfl, ii rfl rfl, ii rfl rfl, ii rfl rfl, ii rfl rfl, trivial⟩⟩, trivial⟩⟩
      refine SCode.cond_f rfl g31 ?_
      refine SCode.exit ?_
      exact ⟨(), h, sub_gen [] rfl rfl trivial trivial⟩
  rintro ⟨⟩ h
  show SCode _ _ _ ⟨[], []⟩ _
  replace h : profile_Next_p4 = some r := h
  unfold profile_Next_p4 at h
  refine SCode.seq ?_
  refine SCode.region (show SOps _ _ _ [0] _ _ from ?_)
  refine SOps.q rfl (.plain rfl) rfl (q_assign rfl rfl) ?_
  refine SOps.sub (st' := ⟨[(6, .c (.int .i64 ((-1))))], []⟩) (sub_gen [] rfl rfl ⟨zc rfl rfl, trivial⟩ trivial) ?_
  refine SOps.nil ?_
  refine SCode.ret ?_
  obtain rfl := Option.some.inj h
  exact ⟨⟨[(6, .c (.int .i64 ((-1))))], []⟩, _, sub_gen [] rfl rfl ⟨zc rfl rfl, trivial⟩ trivial, resA1 (v := .c (.int .i64 ((-1)))) rfl rfl, rfl⟩
set_option maxRecDepth 100000 in
set_option maxHeartbeats 8000000 in
theorem chargenetlaw15_example_ok (F : Nat)  (r : SProfile) (h : chargenetlaw15_example F  = some r) :
    SFun Try.prog 26 [] [] (fun x _ => x = .a [.int .i64 r.ID, .int .i64 r.Level, .int .i64 r.Purpose, .int .i64 r.Kind, .int .i64 r.Conn, .str r.Txn, .int .i64 r.Span_From, .int .i64 r.Span_To, .int .i64 r.Start, .int .i64 r.Duration, .vec r.Periods.length 2 (gL cSPeriod dSPeriod r.Periods)]) := by
  refine SFun.of (n := 6) Try.func26 rfl rfl rfl ?_
  unfold chargenetlaw15_example at h
  show SCode _ _ _ ⟨[], []⟩ _
  refine SCode.seq ?_
  refine SCode.region (show SOps _ _ _ [0] _ _ from ?_)
  refine SOps.e rfl (.plain rfl) (e_alloc rfl rfl rfl z26) ?_
  refine SOps.sub (st' := ⟨[(0, .c (.ptr 0 0))], [.box [.int .i64 0, .int .i64 0, .int .i64 0, .int .i64 0, .int .i64 0, .str ByteArray.empty, .int .i64 0, .int .i64 0, .int .i64 0, .int .i64 0, .raw (.slice none 0 0)]]⟩) (sub_gen [0] rfl rfl ⟨zc rfl rfl, trivial⟩ ⟨⟨_, rfl, ⟨ii rfl rfl, ii rfl rfl, ii rfl rfl, ii rfl rfl, ii rfl rfl, ii rfl rfl, ii rfl rfl, ii rfl rfl, ii rfl rfl, ii rfl rfl, ii rfl rfl, trivial⟩⟩, trivial⟩) ?_
  refine SOps.nil ?_
  refine SCode.seq ?_
  refine SCode.region (show SOps _ _ _ [0, 1, 2, 3, 4, 5] _ _ from ?_)
  refine SOps.q rfl (.plain rfl) rfl (q_build2 rfl rfl pl23 rfl) ?_
  refine SOps.q rfl (.plain rfl) rfl (q_build2 rfl rfl pl47 rfl) ?_
  refine SOps.q rfl (.plain rfl) rfl (q_build2 rfl rfl pl47 rfl) ?_
  refine SOps.q rfl (.plain rfl) rfl (q_bsliceL (c := cSPeriod) (d0 := dSPeriod) [SPeriod.mk 0 4000, SPeriod.mk 60 2000] rfl rfl sl24 z47 rfl rfl rfl rfl rfl rfl rfl) ?_
  refine SOps.q rfl (.plain rfl) rfl (q_build2 rfl rfl pl26 rfl) ?_
  refine SOps.e rfl (.plain rfl) (e_store_box rfl rfl rfl rfl rfl ty26 rfl rfl rfl rfl) ?_
  refine SOps.sub (st' := ⟨[(0, .c (.ptr 0 0))], [.box [.int .i64 1, .int .i64 0, .int .i64 2, .int .i64 1, .int .i64 0, .str ByteArray.empty, .int .i64 0, .int .i64 ((-1)), .int .i64 100, .int .i64 ((-1)), .vec ([SPeriod.mk 0 4000, SPeriod.mk 60 2000]).length 2 (gL cSPeriod dSPeriod ([SPeriod.mk 0 4000, SPeriod.mk 60 2000]))]]⟩) (sub_gen [0] rfl rfl ⟨zc rfl rfl, trivial⟩ ⟨⟨_, rfl, ⟨ii rfl rfl, ii rfl rfl, ii rfl rfl, ii rfl rfl, ii rfl rfl, ii rfl rfl, ii rfl rfl, ii rfl rfl, ii rfl rfl, ii rfl rfl, ii rfl rfl, trivial⟩⟩, trivial⟩) ?_
  refine SOps.nil ?_
  refine SCode.ret ?_
  obtain rfl := Option.some.inj h
  exact ⟨⟨[(0, .c (.ptr 0 0))], [.box [.int .i64 1, .int .i64 0, .int .i64 2, .int .i64 1, .int .i64 0, .str ByteArray.empty, .int .i64 0, .int .i64 ((-1)), .int .i64 100, .int .i64 ((-1)), .vec ([SPeriod.mk 0 4000, SPeriod.mk 60 2000]).length 2 (gL cSPeriod dSPeriod ([SPeriod.mk 0 4000, SPeriod.mk 60 2000]))]]⟩, _, sub_gen [0] rfl rfl ⟨zc rfl rfl, trivial⟩ ⟨⟨_, rfl, ⟨ii rfl rfl, ii rfl rfl, ii rfl rfl, ii rfl rfl, ii rfl rfl, ii rfl rfl, ii rfl rfl, ii rfl rfl, ii rfl rfl, ii rfl rfl, ii rfl rfl, trivial⟩⟩, trivial⟩, resA1 (v := .a [.int .i64 1, .int .i64 0, .int .i64 2, .int .i64 1, .int .i64 0, .str ByteArray.empty, .int .i64 0, .int .i64 ((-1)), .int .i64 100, .int .i64 ((-1)), .vec ([SPeriod.mk 0 4000, SPeriod.mk 60 2000]).length 2 (gL cSPeriod dSPeriod ([SPeriod.mk 0 4000, SPeriod.mk 60 2000]))]) rfl ⟨_, rfl, rfl, ty26⟩, rfl⟩
set_option maxRecDepth 100000 in
set_option maxHeartbeats 8000000 in
theorem chargenetlaw15_awake_ok (F : Nat)  (r : Bool) (h : chargenetlaw15_awake F  = some r) :
    SFun Try.prog 11 [] [] (fun x _ => x = .c (.bool r)) := by
  refine SFun.of (n := 94) Try.func11 rfl rfl rfl ?_
  unfold chargenetlaw15_awake at h
  show SCode _ _ _ ⟨[], []⟩ _
  refine SCode.seq ?_
  refine SCode.region (show SOps _ _ _ [0] _ _ from ?_)
  refine SOps.q rfl (.plain rfl) rfl (q_assign rfl rfl) ?_
  refine SOps.sub (st' := ⟨[], []⟩) (sub_gen [] rfl rfl trivial trivial) ?_
  refine SOps.nil ?_
  refine SCode.seq ?_
  obtain ⟨c_1, g2, h⟩ := bind_out h
  try dsimp only at h
  refine SCode.region (show SOps _ _ _ [0, 1, 2] _ _ from ?_)
  refine SOps.q rfl (.plain rfl) rfl (q_call (chargenetlaw15_example_ok F  c_1 g2) [] rfl fn26 trivial (.inl rfl)) ?_
  refine SOps.e rfl (.plain rfl) (e_alloc rfl rfl rfl z26) ?_
  refine SOps.e rfl (.plain rfl) (e_store_box rfl rfl rfl rfl rfl ty26 rfl rfl rfl rfl) ?_
  refine SOps.sub (st' := ⟨[(1, .c (.ptr 0 0))], [.box [.int .i64 c_1.ID, .int .i64 c_1.Level, .int .i64 c_1.Purpose, .int .i64 c_1.Kind, .int .i64 c_1.Conn, .str c_1.Txn, .int .i64 c_1.Span_From, .int .i64 c_1.Span_To, .int .i64 c_1.Start, .int .i64 c_1.Duration, .vec c_1.Periods.length 2 (gL cSPeriod dSPeriod c_1.Periods)]]⟩) (sub_gen [0] rfl rfl ⟨zc rfl rfl, trivial⟩ ⟨⟨_, rfl, ⟨ii rfl rfl, ii rfl rfl, ii rfl rfl, ii rfl rfl, ii rfl rfl, ii rfl rfl, ii rfl rfl, ii rfl rfl, ii rfl rfl, ii rfl rfl, ii rfl rfl, trivial⟩⟩, trivial⟩) ?_
  refine SOps.nil ?_
  refine SCode.seq ?_
  obtain ⟨c_3, g4, h⟩ := bind_out h
  try dsimp only at h
  refine SCode.region (show SOps _ _ _ [0, 1, 2, 3, 4, 5, 6] _ _ from ?_)
  refine SOps.q rfl (.plain rfl) rfl (q_load_ptr_all rfl rfl rfl rfl rfl ty26) ?_
  refine SOps.q rfl (.plain rfl) rfl (q_call (profile_Limit_ok F (SProfile.mk c_1.ID c_1.Level c_1.Purpose c_1.Kind c_1.Conn c_1.Txn c_1.Span_From c_1.Span_To c_1.Start c_1.Duration c_1.Periods) 0 99 c_3 g4) [] rfl fn22 ⟨⟨rfl, rfl⟩, ⟨_, rfl, .inl ⟨rfl, rfl⟩⟩, ⟨_, rfl, .inl ⟨rfl, rfl⟩⟩, trivial⟩ (.inl rfl)) ?_
  refine SOps.q rfl (.plain rfl) rfl (q_move rfl rfl) ?_
  refine SOps.q rfl (.plain rfl) rfl (q_extract rfl rfl rfl) ?_
  refine SOps.q rfl (.plain rfl) rfl (q_extract rfl rfl rfl) ?_
  refine SOps.q rfl (.plain rfl) rfl (q_assign rfl rfl) ?_
  refine SOps.q rfl (.plain rfl) rfl (q_assign rfl rfl) ?_
  refine SOps.sub (st' := ⟨[(1, .c (.ptr 0 0)), (2, .c (.int .i64 c_3.1)), (3, .c (.bool c_3.2))], [.box [.int .i64 c_1.ID, .int .i64 c_1.Level, .int .i64 c_1.Purpose, .int .i64 c_1.Kind, .int .i64 c_1.Conn, .str c_1.Txn, .int .i64 c_1.Span_From, .int .i64 c_1.Span_To, .int .i64 c_1.Start, .int .i64 c_1.Duration, .vec c_1.Periods.length 2 (gL cSPeriod dSPeriod c_1.Periods)]]⟩) (sub_gen [0] rfl rfl ⟨zc rfl rfl, zc rfl rfl, zc rfl rfl, trivial⟩ ⟨⟨_, rfl, ⟨ii rfl rfl, ii rfl rfl, ii rfl rfl, ii rfl rfl, ii rfl rfl, ii rfl rfl, ii rfl rfl, ii rfl rfl, ii rfl rfl, ii rfl rfl, ii rfl rfl, trivial⟩⟩, trivial⟩) ?_
  refine SOps.nil ?_
  refine SCode.seq ?_
  obtain ⟨c_5, g6, h⟩ := bind_out h
  try dsimp only at h
  refine SCode.region (show SOps _ _ _ [0, 1, 2, 3, 4, 5, 6] _ _ from ?_)
  refine SOps.q rfl (.plain rfl) rfl (q_load_ptr_all rfl rfl rfl rfl rfl ty26) ?_
  refine SOps.q rfl (.plain rfl) rfl (q_call (profile_Limit_ok F (SProfile.mk c_1.ID c_1.Level c_1.Purpose c_1.Kind c_1.Conn c_1.Txn c_1.Span_From c_1.Span_To c_1.Start c_1.Duration c_1.Periods) 0 160 c_5 g6) [] rfl fn22 ⟨⟨rfl, rfl⟩, ⟨_, rfl, .inl ⟨rfl, rfl⟩⟩, ⟨_, rfl, .inl ⟨rfl, rfl⟩⟩, trivial⟩ (.inl rfl)) ?_
  refine SOps.q rfl (.plain rfl) rfl (q_move rfl rfl) ?_
  refine SOps.q rfl (.plain rfl) rfl (q_extract rfl rfl rfl) ?_
  refine SOps.q rfl (.plain rfl) rfl (q_extract rfl rfl rfl) ?_
  refine SOps.q rfl (.plain rfl) rfl (q_assign rfl rfl) ?_
  refine SOps.q rfl (.plain rfl) rfl (q_assign rfl rfl) ?_
  refine SOps.sub (st' := ⟨[(1, .c (.ptr 0 0)), (2, .c (.int .i64 c_3.1)), (3, .c (.bool c_3.2)), (4, .c (.int .i64 c_5.1)), (5, .c (.bool c_5.2))], [.box [.int .i64 c_1.ID, .int .i64 c_1.Level, .int .i64 c_1.Purpose, .int .i64 c_1.Kind, .int .i64 c_1.Conn, .str c_1.Txn, .int .i64 c_1.Span_From, .int .i64 c_1.Span_To, .int .i64 c_1.Start, .int .i64 c_1.Duration, .vec c_1.Periods.length 2 (gL cSPeriod dSPeriod c_1.Periods)]]⟩) (sub_gen [0] rfl rfl ⟨zc rfl rfl, zc rfl rfl, zc rfl rfl, zc rfl rfl, zc rfl rfl, trivial⟩ ⟨⟨_, rfl, ⟨ii rfl rfl, ii rfl rfl, ii rfl rfl, ii rfl rfl, ii rfl rfl, ii rfl rfl, ii rfl rfl, ii rfl rfl, ii rfl rfl, ii rfl rfl, ii rfl rfl, trivial⟩⟩, trivial⟩) ?_
  refine SOps.nil ?_
  refine SCode.seq ?_
  obtain ⟨c_7, g8, h⟩ := bind_out h
  try dsimp only at h
  refine SCode.region (show SOps _ _ _ [0, 1, 2, 3, 4, 5, 6, 7, 8] _ _ from ?_)
  refine SOps.q rfl (.plain rfl) rfl (q_build2 rfl rfl pl26 rfl) ?_
  refine SOps.sub (st' := ⟨[(1, .c (.ptr 0 0)), (2, .c (.int .i64 c_3.1)), (3, .c (.bool c_3.2)), (4, .c (.int .i64 c_5.1)), (5, .c (.bool c_5.2)), (24, .a [.int .i64 2, .int .i64 0, .int .i64 2, .int .i64 0, .int .i64 0, .str ByteArray.empty, .int .i64 0, .int .i64 0, .int .i64 0, .int .i64 0, .vec (([] : List SPeriod)).length 2 (gL cSPeriod dSPeriod (([] : List SPeriod)))])], [.box [.int .i64 c_1.ID, .int .i64 c_1.Level, .int .i64 c_1.Purpose, .int .i64 c_1.Kind, .int .i64 c_1.Conn, .str c_1.Txn, .int .i64 c_1.Span_From, .int .i64 c_1.Span_To, .int .i64 c_1.Start, .int .i64 c_1.Duration, .vec c_1.Periods.length 2 (gL cSPeriod dSPeriod c_1.Periods)]]⟩) (sub_gen [0] rfl rfl ⟨zc rfl rfl, zc rfl rfl, zc rfl rfl, zc rfl rfl, zc rfl rfl, ⟨_, rfl, ⟨ii rfl rfl, ii rfl rfl, ii rfl rfl, ii rfl rfl, ii rfl rfl, ii rfl rfl, ii rfl rfl, ii rfl rfl, ii rfl rfl, ii rfl rfl, .inr (.inr (.inr (.inl ⟨_, _, rfl, rfl⟩))), trivial⟩⟩, trivial⟩ ⟨⟨_, rfl, ⟨ii rfl rfl, ii rfl rfl, ii rfl rfl, ii rfl rfl, ii rfl rfl, ii rfl rfl, ii rfl rfl, ii rfl rfl, ii rfl rfl, ii rfl rfl, ii rfl rfl, trivial⟩⟩, trivial⟩) ?_
  refine SOps.q rfl (.plain rfl) rfl (q_bsliceL (c := cSProfile) (d0 := dSProfile) [SProfile.mk 2 0 2 0 0 ByteArray.empty 0 0 0 0 (([] : List SPeriod))] rfl rfl sl31 z26 rfl rfl rfl rfl rfl rfl rfl) ?_
  refine SOps.q rfl (.plain rfl) rfl (q_load_ptr_all rfl rfl rfl rfl rfl ty26) ?_
  refine SOps.q rfl (.plain rfl) rfl (q_call (profile_Put_ok F ([SProfile.mk 2 0 2 0 0 ByteArray.empty 0 0 0 0 (([] : List SPeriod))]) (SProfile.mk c_1.ID c_1.Level c_1.Purpose c_1.Kind c_1.Conn c_1.Txn c_1.Span_From c_1.Span_To c_1.Start c_1.Duration c_1.Periods) c_7 g8) [] rfl fn15 ⟨⟨_, rfl, .inl ⟨rfl, rfl⟩⟩, ⟨rfl, rfl⟩, trivial⟩ (.inl rfl)) ?_
  refine SOps.q rfl (.plain rfl) rfl (q_move rfl rfl) ?_
  refine SOps.q rfl (.plain rfl) rfl (q_extract rfl rfl rfl) ?_
  refine SOps.q rfl (.plain rfl) rfl (q_extract rfl rfl rfl) ?_
  refine SOps.q rfl (.plain rfl) rfl (q_assign rfl rfl) ?_
  refine SOps.q rfl (.plain rfl) rfl (q_assign rfl rfl) ?_
  refine SOps.sub (st' := ⟨[(1, .c (.ptr 0 0)), (2, .c (.int .i64 c_3.1)), (3, .c (.bool c_3.2)), (4, .c (.int .i64 c_5.1)), (5, .c (.bool c_5.2)), (6, .c (.vec c_7.1.length 11 (gL cSProfile dSProfile c_7.1))), (7, .c (.int .i64 c_7.2))], [.box [.int .i64 c_1.ID, .int .i64 c_1.Level, .int .i64 c_1.Purpose, .int .i64 c_1.Kind, .int .i64 c_1.Conn, .str c_1.Txn, .int .i64 c_1.Span_From, .int .i64 c_1.Span_To, .int .i64 c_1.Start, .int .i64 c_1.Duration, .vec c_1.Periods.length 2 (gL cSPeriod dSPeriod c_1.Periods)]]⟩) (sub_gen [0] rfl rfl ⟨zc rfl rfl, zc rfl rfl, zc rfl rfl, zc rfl rfl, zc rfl rfl, zc rfl rfl, zc rfl rfl, trivial⟩ ⟨⟨_, rfl, ⟨ii rfl rfl, ii rfl rfl, ii rfl rfl, ii rfl rfl, ii rfl rfl, ii rfl rfl, ii rfl rfl, ii rfl rfl, ii rfl rfl, ii rfl rfl, ii rfl rfl, trivial⟩⟩, trivial⟩) ?_
  refine SOps.nil ?_
  refine SCode.seq ?_
  refine SCode.seq ?_
  rcases cond_out h with ⟨g9, h⟩ | ⟨g9, h⟩
  · refine SCode.region (show SOps _ _ _ [0, 1, 2, 3, 4, 5, 6, 7, 8, 9, 10, 11, 12, 13, 14, 15, 16, 17, 18, 19, 20, 21, 22, 23, 24, 25, 26, 27, 28] _ _ from ?_)
    refine SOps.q rfl (.plain rfl) rfl (q_move rfl rfl) ?_
    refine SOps.q rfl (.plain rfl) rfl (q_neq rfl rfl rfl) ?_
    refine SOps.q rfl (.plain rfl) rfl (q_move rfl rfl) ?_
    refine SOps.skip rfl 2 32 false rfl rfl (.inl (gT g9)) rfl ?_
    refine SOps.q rfl (.plain rfl) rfl (q_pick_t rfl rfl g9 rfl) ?_
    refine SOps.q rfl (.plain rfl) rfl (q_move rfl rfl) ?_
    refine SOps.skip rfl 5 35 false rfl rfl (.inl rfl) rfl ?_
    refine SOps.skip rfl 5 35 false rfl rfl (.inl rfl) rfl ?_
    refine SOps.q rfl (.plain rfl) rfl (q_pick_t rfl rfl rfl rfl) ?_
    refine SOps.q rfl (.plain rfl) rfl (q_move rfl rfl) ?_
    refine SOps.skip rfl 9 39 false rfl rfl (.inl rfl) rfl ?_
    refine SOps.skip rfl 9 39 false rfl rfl (.inl rfl) rfl ?_
    refine SOps.q rfl (.plain rfl) rfl (q_pick_t rfl rfl rfl rfl) ?_
    refine SOps.q rfl (.plain rfl) rfl (q_move rfl rfl) ?_
    refine SOps.skip rfl 13 43 false rfl rfl (.inl rfl) rfl ?_
    refine SOps.skip rfl 13 43 false rfl rfl (.inl rfl) rfl ?_
    refine SOps.skip rfl 13 43 false rfl rfl (.inl rfl) rfl ?_
    refine SOps.skip rfl 13 43 false rfl rfl (.inl rfl) rfl ?_
    refine SOps.skip rfl 13 43 false rfl rfl (.inl rfl) rfl ?_
    refine SOps.q rfl (.plain rfl) rfl (q_pick_t rfl rfl rfl rfl) ?_
    refine SOps.q rfl (.plain rfl) rfl (q_move rfl rfl) ?_
    refine SOps.skip rfl 20 50 false rfl rfl (.inl rfl) rfl ?_
    refine SOps.skip rfl 20 50 false rfl rfl (.inl rfl) rfl ?_
    refine SOps.q rfl (.plain rfl) rfl (q_pick_t rfl rfl rfl rfl) ?_
    refine SOps.q rfl (.plain rfl) rfl (q_move rfl rfl) ?_
    refine SOps.skip rfl 24 54 false rfl rfl (.inl rfl) rfl ?_
    refine SOps.skip rfl 24 54 false rfl rfl (.inl rfl) rfl ?_
    refine SOps.skip rfl 24 54 false rfl rfl (.inl rfl) rfl ?_
    refine SOps.q rfl (.plain rfl) rfl (q_pick_t rfl rfl rfl rfl) ?_
    refine SOps.sub (st' := ⟨[(1, .c (.ptr 0 0)), (6, .c (.vec c_7.1.length 11 (gL cSProfile dSProfile c_7.1))), (58, .c (.bool true))], [.box [.int .i64 c_1.ID, .int .i64 c_1.Level, .int .i64 c_1.Purpose, .int .i64 c_1.Kind, .int .i64 c_1.Conn, .str c_1.Txn, .int .i64 c_1.Span_From, .int .i64 c_1.Span_To, .int .i64 c_1.Start, .int .i64 c_1.Duration, .vec c_1.Periods.length 2 (gL cSPeriod dSPeriod c_1.Periods)]]⟩) (sub_gen [0] rfl rfl ⟨zc rfl rfl, zc rfl rfl, zc rfl rfl, trivial⟩ ⟨⟨_, rfl, ⟨ii rfl rfl, ii rfl rfl, ii rfl rfl, ii rfl rfl, ii rfl rfl, ii rfl rfl, ii rfl rfl, ii rfl rfl, ii rfl rfl, ii rfl rfl, ii rfl rfl, trivial⟩⟩, trivial⟩) ?_
    refine SOps.nil ?_
    refine SCode.cond_t rfl rfl ?_
    refine SCode.seq ?_
    refine SCode.region (show SOps _ _ _ [0] _ _ from ?_)
    refine SOps.q rfl (.plain rfl) rfl (q_assign rfl rfl) ?_
    refine SOps.sub (st' := ⟨[(0, .c (.bool false))], []⟩) (sub_gen [] rfl rfl ⟨zc rfl rfl, trivial⟩ trivial) ?_
    refine SOps.nil ?_
    refine SCode.ret ?_
    obtain rfl := Option.some.inj h
    exact ⟨⟨[(0, .c (.bool false))], []⟩, _, sub_gen [] rfl rfl ⟨zc rfl rfl, trivial⟩ trivial, resA1 (v := .c (.bool false)) rfl rfl, rfl⟩
  rcases cond_out h with ⟨g10, h⟩ | ⟨g10, h⟩
  · refine SCode.region (show SOps _ _ _ [0, 1, 2, 3, 4, 5, 6, 7, 8, 9, 10, 11, 12, 13, 14, 15, 16, 17, 18, 19, 20, 21, 22, 23, 24, 25, 26, 27, 28] _ _ from ?_)
    refine SOps.q rfl (.plain rfl) rfl (q_move rfl rfl) ?_
    refine SOps.q rfl (.plain rfl) rfl (q_neq rfl rfl rfl) ?_
    refine SOps.q rfl (.plain rfl) rfl (q_move rfl rfl) ?_
    refine SOps.q rfl (.guard 2 32 false rfl rfl (gF g9)) rfl (q_move rfl rfl) ?_
    refine SOps.q rfl (.plain rfl) rfl (q_pick_f rfl rfl g9 rfl) ?_
    refine SOps.q rfl (.plain rfl) rfl (q_move rfl rfl) ?_
    refine SOps.skip rfl 5 35 false rfl rfl (.inl (gT g10)) rfl ?_
    refine SOps.skip rfl 5 35 false rfl rfl (.inl (gT g10)) rfl ?_
    refine SOps.q rfl (.plain rfl) rfl (q_pick_t rfl rfl g10 rfl) ?_
    refine SOps.q rfl (.plain rfl) rfl (q_move rfl rfl) ?_
    refine SOps.skip rfl 9 39 false rfl rfl (.inl rfl) rfl ?_
    refine SOps.skip rfl 9 39 false rfl rfl (.inl rfl) rfl ?_
    refine SOps.q rfl (.plain rfl) rfl (q_pick_t rfl rfl rfl rfl) ?_
    refine SOps.q rfl (.plain rfl) rfl (q_move rfl rfl) ?_
    refine SOps.skip rfl 13 43 false rfl rfl (.inl rfl) rfl ?_
    refine SOps.skip rfl 13 43 false rfl rfl (.inl rfl) rfl ?_
    refine SOps.skip rfl 13 43 false rfl rfl (.inl rfl) rfl ?_
    refine SOps.skip rfl 13 43 false rfl rfl (.inl rfl) rfl ?_
    refine SOps.skip rfl 13 43 false rfl rfl (.inl rfl) rfl ?_
    refine SOps.q rfl (.plain rfl) rfl (q_pick_t rfl rfl rfl rfl) ?_
    refine SOps.q rfl (.plain rfl) rfl (q_move rfl rfl) ?_
    refine SOps.skip rfl 20 50 false rfl rfl (.inl rfl) rfl ?_
    refine SOps.skip rfl 20 50 false rfl rfl (.inl rfl) rfl ?_
    refine SOps.q rfl (.plain rfl) rfl (q_pick_t rfl rfl rfl rfl) ?_
    refine SOps.q rfl (.plain rfl) rfl (q_move rfl rfl) ?_
    refine SOps.skip rfl 24 54 false rfl rfl (.inl rfl) rfl ?_
    refine SOps.skip rfl 24 54 false rfl rfl (.inl rfl) rfl ?_
    refine SOps.skip rfl 24 54 false rfl rfl (.inl rfl) rfl ?_
    refine SOps.q rfl (.plain rfl) rfl (q_pick_t rfl rfl rfl rfl) ?_
    refine SOps.sub (st' := ⟨[(1, .c (.ptr 0 0)), (6, .c (.vec c_7.1.length 11 (gL cSProfile dSProfile c_7.1))), (58, .c (.bool true))], [.box [.int .i64 c_1.ID, .int .i64 c_1.Level, .int .i64 c_1.Purpose, .int .i64 c_1.Kind, .int .i64 c_1.Conn, .str c_1.Txn, .int .i64 c_1.Span_From, .int .i64 c_1.Span_To, .int .i64 c_1.Start, .int .i64 c_1.Duration, .vec c_1.Periods.length 2 (gL cSPeriod dSPeriod c_1.Periods)]]⟩) (sub_gen [0] rfl rfl ⟨zc rfl rfl, zc rfl rfl, zc rfl rfl, trivial⟩ ⟨⟨_, rfl, ⟨ii rfl rfl, ii rfl rfl, ii rfl rfl, ii rfl rfl, ii rfl rfl, ii rfl rfl, ii rfl rfl, ii rfl rfl, ii rfl rfl, ii rfl rfl, ii rfl rfl, trivial⟩⟩, trivial⟩) ?_
    refine SOps.nil ?_
    refine SCode.cond_t rfl rfl ?_
    refine SCode.seq ?_
    refine SCode.region (show SOps _ _ _ [0] _ _ from ?_)
    refine SOps.q rfl (.plain rfl) rfl (q_assign rfl rfl) ?_
    refine SOps.sub (st' := ⟨[(0, .c (.bool false))], []⟩) (sub_gen [] rfl rfl ⟨zc rfl rfl, trivial⟩ trivial) ?_
    refine SOps.nil ?_
    refine SCode.ret ?_
    obtain rfl := Option.some.inj h
    exact ⟨⟨[(0, .c (.bool false))], []⟩, _, sub_gen [] rfl rfl ⟨zc rfl rfl, trivial⟩ trivial, resA1 (v := .c (.bool false)) rfl rfl, rfl⟩
  rcases cond_out h with ⟨g11, h⟩ | ⟨g11, h⟩
  · refine SCode.region (show SOps _ _ _ [0, 1, 2, 3, 4, 5, 6, 7, 8, 9, 10, 11, 12, 13, 14, 15, 16, 17, 18, 19, 20, 21, 22, 23, 24, 25, 26, 27, 28] _ _ from ?_)
    refine SOps.q rfl (.plain rfl) rfl (q_move rfl rfl) ?_
    refine SOps.q rfl (.plain rfl) rfl (q_neq rfl rfl rfl) ?_
    refine SOps.q rfl (.plain rfl) rfl (q_move rfl rfl) ?_
    refine SOps.q rfl (.guard 2 32 false rfl rfl (gF g9)) rfl (q_move rfl rfl) ?_
    refine SOps.q rfl (.plain rfl) rfl (q_pick_f rfl rfl g9 rfl) ?_
    refine SOps.q rfl (.plain rfl) rfl (q_move rfl rfl) ?_
    refine SOps.q rfl (.guard 5 35 false rfl rfl (gF g10)) rfl (q_move rfl rfl) ?_
    refine SOps.q rfl (.guard 5 35 false rfl rfl (gF g10)) rfl (q_neq rfl rfl rfl) ?_
    refine SOps.q rfl (.plain rfl) rfl (q_pick_f rfl rfl g10 rfl) ?_
    refine SOps.q rfl (.plain rfl) rfl (q_move rfl rfl) ?_
    refine SOps.skip rfl 9 39 false rfl rfl (.inl (gT g11)) rfl ?_
    refine SOps.skip rfl 9 39 false rfl rfl (.inl (gT g11)) rfl ?_
    refine SOps.q rfl (.plain rfl) rfl (q_pick_t rfl rfl g11 rfl) ?_
    refine SOps.q rfl (.plain rfl) rfl (q_move rfl rfl) ?_
    refine SOps.skip rfl 13 43 false rfl rfl (.inl rfl) rfl ?_
    refine SOps.skip rfl 13 43 false rfl rfl (.inl rfl) rfl ?_
    refine SOps.skip rfl 13 43 false rfl rfl (.inl rfl) rfl ?_
    refine SOps.skip rfl 13 43 false rfl rfl (.inl rfl) rfl ?_
    refine SOps.skip rfl 13 43 false rfl rfl (.inl rfl) rfl ?_
    refine SOps.q rfl (.plain rfl) rfl (q_pick_t rfl rfl rfl rfl) ?_
    refine SOps.q rfl (.plain rfl) rfl (q_move rfl rfl) ?_
    refine SOps.skip rfl 20 50 false rfl rfl (.inl rfl) rfl ?_
    refine SOps.skip rfl 20 50 false rfl rfl (.inl rfl) rfl ?_
    refine SOps.q rfl (.plain rfl) rfl (q_pick_t rfl rfl rfl rfl) ?_
    refine SOps.q rfl (.plain rfl) rfl (q_move rfl rfl) ?_
    refine SOps.skip rfl 24 54 false rfl rfl (.inl rfl) rfl ?_
    refine SOps.skip rfl 24 54 false rfl rfl (.inl rfl) rfl ?_
    refine SOps.skip rfl 24 54 false rfl rfl (.inl rfl) rfl ?_
    refine SOps.q rfl (.plain rfl) rfl (q_pick_t rfl rfl rfl rfl) ?_
    refine SOps.sub (st' := ⟨[(1, .c (.ptr 0 0)), (6, .c (.vec c_7.1.length 11 (gL cSProfile dSProfile c_7.1))), (58, .c (.bool true))], [.box [.int .i64 c_1.ID, .int .i64 c_1.Level, .int .i64 c_1.Purpose, .int .i64 c_1.Kind, .int .i64 c_1.Conn, .str c_1.Txn, .int .i64 c_1.Span_From, .int .i64 c_1.Span_To, .int .i64 c_1.Start, .int .i64 c_1.Duration, .vec c_1.Periods.length 2 (gL cSPeriod dSPeriod c_1.Periods)]]⟩) (sub_gen [0] rfl rfl ⟨zc rfl rfl, zc rfl rfl, zc rfl rfl, trivial⟩ ⟨⟨_, rfl, ⟨ii rfl rfl, ii rfl rfl, ii rfl rfl, ii rfl rfl, ii rfl rfl, ii rfl rfl, ii rfl rfl, ii rfl rfl, ii rfl rfl, ii rfl rfl, ii rfl rfl, trivial⟩⟩, trivial⟩) ?_
    refine SOps.nil ?_
    refine SCode.cond_t rfl rfl ?_
    refine SCode.seq ?_
    refine SCode.region (show SOps _ _ _ [0] _ _ from ?_)
    refine SOps.q rfl (.plain rfl) rfl (q_assign rfl rfl) ?_
    refine SOps.sub (st' := ⟨[(0, .c (.bool false))], []⟩) (sub_gen [] rfl rfl ⟨zc rfl rfl, trivial⟩ trivial) ?_
    refine SOps.nil ?_
    refine SCode.ret ?_
    obtain rfl := Option.some.inj h
    exact ⟨⟨[(0, .c (.bool false))], []⟩, _, sub_gen [] rfl rfl ⟨zc rfl rfl, trivial⟩ trivial, resA1 (v := .c (.bool false)) rfl rfl, rfl⟩
  rcases cond_out h with ⟨g12, h⟩ | ⟨g12, h⟩
  · refine SCode.region (show SOps _ _ _ [0, 1, 2, 3, 4, 5, 6, 7, 8, 9, 10, 11, 12, 13, 14, 15, 16, 17, 18, 19, 20, 21, 22, 23, 24, 25, 26, 27, 28] _ _ from ?_)
    refine SOps.q rfl (.plain rfl) rfl (q_move rfl rfl) ?_
    refine SOps.q rfl (.plain rfl) rfl (q_neq rfl rfl rfl) ?_
    refine SOps.q rfl (.plain rfl) rfl (q_move rfl rfl) ?_
    refine SOps.q rfl (.guard 2 32 false rfl rfl (gF g9)) rfl (q_move rfl rfl) ?_
    refine SOps.q rfl (.plain rfl) rfl (q_pick_f rfl rfl g9 rfl) ?_
    refine SOps.q rfl (.plain rfl) rfl (q_move rfl rfl) ?_
    refine SOps.q rfl (.guard 5 35 false rfl rfl (gF g10)) rfl (q_move rfl rfl) ?_
    refine SOps.q rfl (.guard 5 35 false rfl rfl (gF g10)) rfl (q_neq rfl rfl rfl) ?_
    refine SOps.q rfl (.plain rfl) rfl (q_pick_f rfl rfl g10 rfl) ?_
    refine SOps.q rfl (.plain rfl) rfl (q_move rfl rfl) ?_
    refine SOps.q rfl (.guard 9 39 false rfl rfl (gF g11)) rfl (q_move rfl rfl) ?_
    refine SOps.q rfl (.guard 9 39 false rfl rfl (gF g11)) rfl (q_not rfl rfl) ?_
    refine SOps.q rfl (.plain rfl) rfl (q_pick_f rfl rfl g11 rfl) ?_
    refine SOps.q rfl (.plain rfl) rfl (q_move rfl rfl) ?_
    refine SOps.skip rfl 13 43 false rfl rfl (.inl (gT g12)) rfl ?_
    refine SOps.skip rfl 13 43 false rfl rfl (.inl (gT g12)) rfl ?_
    refine SOps.skip rfl 13 43 false rfl rfl (.inl (gT g12)) rfl ?_
    refine SOps.skip rfl 13 43 false rfl rfl (.inl (gT g12)) rfl ?_
    refine SOps.skip rfl 13 43 false rfl rfl (.inl (gT g12)) rfl ?_
    refine SOps.q rfl (.plain rfl) rfl (q_pick_t rfl rfl g12 rfl) ?_
    refine SOps.q rfl (.plain rfl) rfl (q_move rfl rfl) ?_
    refine SOps.skip rfl 20 50 false rfl rfl (.inl rfl) rfl ?_
    refine SOps.skip rfl 20 50 false rfl rfl (.inl rfl) rfl ?_
    refine SOps.q rfl (.plain rfl) rfl (q_pick_t rfl rfl rfl rfl) ?_
    refine SOps.q rfl (.plain rfl) rfl (q_move rfl rfl) ?_
    refine SOps.skip rfl 24 54 false rfl rfl (.inl rfl) rfl ?_
    refine SOps.skip rfl 24 54 false rfl rfl (.inl rfl) rfl ?_
    refine SOps.skip rfl 24 54 false rfl rfl (.inl rfl) rfl ?_
    refine SOps.q rfl (.plain rfl) rfl (q_pick_t rfl rfl rfl rfl) ?_
    refine SOps.sub (st' := ⟨[(1, .c (.ptr 0 0)), (6, .c (.vec c_7.1.length 11 (gL cSProfile dSProfile c_7.1))), (58, .c (.bool true))], [.box [.int .i64 c_1.ID, .int .i64 c_1.Level, .int .i64 c_1.Purpose, .int .i64 c_1.Kind, .int .i64 c_1.Conn, .str c_1.Txn, .int .i64 c_1.Span_From, .int .i64 c_1.Span_To, .int .i64 c_1.Start, .int .i64 c_1.Duration, .vec c_1.Periods.length 2 (gL cSPeriod dSPeriod c_1.Periods)]]⟩) (sub_gen [0] rfl rfl ⟨zc rfl rfl, zc rfl rfl, zc rfl rfl, trivial⟩ ⟨⟨_, rfl, ⟨ii rfl rfl, ii rfl rfl, ii rfl rfl, ii rfl rfl, ii rfl rfl, ii rfl rfl, ii rfl rfl, ii rfl rfl, ii rfl rfl, ii rfl rfl, ii rfl rfl, trivial⟩⟩, trivial⟩) ?_
    refine SOps.nil ?_
    refine SCode.cond_t rfl rfl ?_
    refine SCode.seq ?_
    refine SCode.region (show SOps _ _ _ [0] _ _ from ?_)
    refine SOps.q rfl (.plain rfl) rfl (q_assign rfl rfl) ?_
    refine SOps.sub (st' := ⟨[(0, .c (.bool false))], []⟩) (sub_gen [] rfl rfl ⟨zc rfl rfl, trivial⟩ trivial) ?_
    refine SOps.nil ?_
    refine SCode.ret ?_
    obtain rfl := Option.some.inj h
    exact ⟨⟨[(0, .c (.bool false))], []⟩, _, sub_gen [] rfl rfl ⟨zc rfl rfl, trivial⟩ trivial, resA1 (v := .c (.bool false)) rfl rfl, rfl⟩
  obtain ⟨c_13, g14, h⟩ := bind_out h
  try dsimp only at h
  rcases cond_out h with ⟨g15, h⟩ | ⟨g15, h⟩
  · refine SCode.region (show SOps _ _ _ [0, 1, 2, 3, 4, 5, 6, 7, 8, 9, 10, 11, 12, 13, 14, 15, 16, 17, 18, 19, 20, 21, 22, 23, 24, 25, 26, 27, 28] _ _ from ?_)
    refine SOps.q rfl (.plain rfl) rfl (q_move rfl rfl) ?_
    refine SOps.q rfl (.plain rfl) rfl (q_neq rfl rfl rfl) ?_
    refine SOps.q rfl (.plain rfl) rfl (q_move rfl rfl) ?_
    refine SOps.q rfl (.guard 2 32 false rfl rfl (gF g9)) rfl (q_move rfl rfl) ?_
    refine SOps.q rfl (.plain rfl) rfl (q_pick_f rfl rfl g9 rfl) ?_
    refine SOps.q rfl (.plain rfl) rfl (q_move rfl rfl) ?_
    refine SOps.q rfl (.guard 5 35 false rfl rfl (gF g10)) rfl (q_move rfl rfl) ?_
    refine SOps.q rfl (.guard 5 35 false rfl rfl (gF g10)) rfl (q_neq rfl rfl rfl) ?_
    refine SOps.q rfl (.plain rfl) rfl (q_pick_f rfl rfl g10 rfl) ?_
    refine SOps.q rfl (.plain rfl) rfl (q_move rfl rfl) ?_
    refine SOps.q rfl (.guard 9 39 false rfl rfl (gF g11)) rfl (q_move rfl rfl) ?_
    refine SOps.q rfl (.guard 9 39 false rfl rfl (gF g11)) rfl (q_not rfl rfl) ?_
    refine SOps.q rfl (.plain rfl) rfl (q_pick_f rfl rfl g11 rfl) ?_
    refine SOps.q rfl (.plain rfl) rfl (q_move rfl rfl) ?_
    refine SOps.q rfl (.guard 13 43 false rfl rfl (gF g12)) rfl (q_move rfl rfl) ?_
    refine SOps.q rfl (.guard 13 43 false rfl rfl (gF g12)) rfl (q_load_ptr_all rfl rfl rfl rfl rfl ty26) ?_
    refine SOps.q rfl (.guard 13 43 false rfl rfl (gF g12)) rfl (q_bsliceL (c := cSProfile) (d0 := dSProfile) [SProfile.mk c_1.ID c_1.Level c_1.Purpose c_1.Kind c_1.Conn c_1.Txn c_1.Span_From c_1.Span_To c_1.Start c_1.Duration c_1.Periods] rfl rfl sl31 z26 rfl rfl rfl rfl rfl rfl rfl) ?_
    refine SOps.q rfl (.guard 13 43 false rfl rfl (gF g12)) rfl (q_call (chargenetref15_SameAll_ok F c_7.1 ([SProfile.mk c_1.ID c_1.Level c_1.Purpose c_1.Kind c_1.Conn c_1.Txn c_1.Span_From c_1.Span_To c_1.Start c_1.Duration c_1.Periods]) c_13 g14) [] rfl fn17 ⟨⟨_, rfl, .inl ⟨rfl, rfl⟩⟩, ⟨_, rfl, .inl ⟨rfl, rfl⟩⟩, trivial⟩ (.inl rfl)) ?_
    refine SOps.q rfl (.guard 13 43 false rfl rfl (gF g12)) rfl (q_not rfl rfl) ?_
    refine SOps.q rfl (.plain rfl) rfl (q_pick_f rfl rfl g12 rfl) ?_
    refine SOps.q rfl (.plain rfl) rfl (q_move rfl rfl) ?_
    refine SOps.skip rfl 20 50 false rfl rfl (.inl (gT g15)) rfl ?_
    refine SOps.skip rfl 20 50 false rfl rfl (.inl (gT g15)) rfl ?_
    refine SOps.q rfl (.plain rfl) rfl (q_pick_t rfl rfl g15 rfl) ?_
    refine SOps.q rfl (.plain rfl) rfl (q_move rfl rfl) ?_
    refine SOps.skip rfl 24 54 false rfl rfl (.inl rfl) rfl ?_
    refine SOps.skip rfl 24 54 false rfl rfl (.inl rfl) rfl ?_
    refine SOps.skip rfl 24 54 false rfl rfl (.inl rfl) rfl ?_
    refine SOps.q rfl (.plain rfl) rfl (q_pick_t rfl rfl rfl rfl) ?_
    refine SOps.sub (st' := ⟨[(1, .c (.ptr 0 0)), (6, .c (.vec c_7.1.length 11 (gL cSProfile dSProfile c_7.1))), (58, .c (.bool true))], [.box [.int .i64 c_1.ID, .int .i64 c_1.Level, .int .i64 c_1.Purpose, .int .i64 c_1.Kind, .int .i64 c_1.Conn, .str c_1.Txn, .int .i64 c_1.Span_From, .int .i64 c_1.Span_To, .int .i64 c_1.Start, .int .i64 c_1.Duration, .vec c_1.Periods.length 2 (gL cSPeriod dSPeriod c_1.Periods)]]⟩) (sub_gen [0] rfl rfl ⟨zc rfl rfl, zc rfl rfl, zc rfl rfl, trivial⟩ ⟨⟨_, rfl, ⟨ii rfl rfl, ii rfl rfl, ii rfl rfl, ii rfl rfl, ii rfl rfl, ii rfl rfl, ii rfl rfl, ii rfl rfl, ii rfl rfl, ii rfl rfl, ii rfl rfl, trivial⟩⟩, trivial⟩) ?_
    refine SOps.nil ?_
    refine SCode.cond_t rfl rfl ?_
    refine SCode.seq ?_
    refine SCode.region (show SOps _ _ _ [0] _ _ from ?_)
    refine SOps.q rfl (.plain rfl) rfl (q_assign rfl rfl) ?_
    refine SOps.sub (st' := ⟨[(0, .c (.bool false))], []⟩) (sub_gen [] rfl rfl ⟨zc rfl rfl, trivial⟩ trivial) ?_
    refine SOps.nil ?_
    refine SCode.ret ?_
    obtain rfl := Option.some.inj h
    exact ⟨⟨[(0, .c (.bool false))], []⟩, _, sub_gen [] rfl rfl ⟨zc rfl rfl, trivial⟩ trivial, resA1 (v := .c (.bool false)) rfl rfl, rfl⟩
  rcases cond_out h with ⟨g16, h⟩ | ⟨g16, h⟩
  · refine SCode.region (show SOps _ _ _ [0, 1, 2, 3, 4, 5, 6, 7, 8, 9, 10, 11, 12, 13, 14, 15, 16, 17, 18, 19, 20, 21, 22, 23, 24, 25, 26, 27, 28] _ _ from ?_)
    refine SOps.q rfl (.plain rfl) rfl (q_move rfl rfl) ?_
    refine SOps.q rfl (.plain rfl) rfl (q_neq rfl rfl rfl) ?_
    refine SOps.q rfl (.plain rfl) rfl (q_move rfl rfl) ?_
    refine SOps.q rfl (.guard 2 32 false rfl rfl (gF g9)) rfl (q_move rfl rfl) ?_
    refine SOps.q rfl (.plain rfl) rfl (q_pick_f rfl rfl g9 rfl) ?_
    refine SOps.q rfl (.plain rfl) rfl (q_move rfl rfl) ?_
    refine SOps.q rfl (.guard 5 35 false rfl rfl (gF g10)) rfl (q_move rfl rfl) ?_
    refine SOps.q rfl (.guard 5 35 false rfl rfl (gF g10)) rfl (q_neq rfl rfl rfl) ?_
    refine SOps.q rfl (.plain rfl) rfl (q_pick_f rfl rfl g10 rfl) ?_
    refine SOps.q rfl (.plain rfl) rfl (q_move rfl rfl) ?_
    refine SOps.q rfl (.guard 9 39 false rfl rfl (gF g11)) rfl (q_move rfl rfl) ?_
    refine SOps.q rfl (.guard 9 39 false rfl rfl (gF g11)) rfl (q_not rfl rfl) ?_
    refine SOps.q rfl (.plain rfl) rfl (q_pick_f rfl rfl g11 rfl) ?_
    refine SOps.q rfl (.plain rfl) rfl (q_move rfl rfl) ?_
    refine SOps.q rfl (.guard 13 43 false rfl rfl (gF g12)) rfl (q_move rfl rfl) ?_
    refine SOps.q rfl (.guard 13 43 false rfl rfl (gF g12)) rfl (q_load_ptr_all rfl rfl rfl rfl rfl ty26) ?_
    refine SOps.q rfl (.guard 13 43 false rfl rfl (gF g12)) rfl (q_bsliceL (c := cSProfile) (d0 := dSProfile) [SProfile.mk c_1.ID c_1.Level c_1.Purpose c_1.Kind c_1.Conn c_1.Txn c_1.Span_From c_1.Span_To c_1.Start c_1.Duration c_1.Periods] rfl rfl sl31 z26 rfl rfl rfl rfl rfl rfl rfl) ?_
    refine SOps.q rfl (.guard 13 43 false rfl rfl (gF g12)) rfl (q_call (chargenetref15_SameAll_ok F c_7.1 ([SProfile.mk c_1.ID c_1.Level c_1.Purpose c_1.Kind c_1.Conn c_1.Txn c_1.Span_From c_1.Span_To c_1.Start c_1.Duration c_1.Periods]) c_13 g14) [] rfl fn17 ⟨⟨_, rfl, .inl ⟨rfl, rfl⟩⟩, ⟨_, rfl, .inl ⟨rfl, rfl⟩⟩, trivial⟩ (.inl rfl)) ?_
    refine SOps.q rfl (.guard 13 43 false rfl rfl (gF g12)) rfl (q_not rfl rfl) ?_
    refine SOps.q rfl (.plain rfl) rfl (q_pick_f rfl rfl g12 rfl) ?_
    refine SOps.q rfl (.plain rfl) rfl (q_move rfl rfl) ?_
    refine SOps.q rfl (.guard 20 50 false rfl rfl (gF g15)) rfl (q_move rfl rfl) ?_
    refine SOps.q rfl (.guard 20 50 false rfl rfl (gF g15)) rfl (q_neq rfl rfl rfl) ?_
    refine SOps.q rfl (.plain rfl) rfl (q_pick_f rfl rfl g15 rfl) ?_
    refine SOps.q rfl (.plain rfl) rfl (q_move rfl rfl) ?_
    refine SOps.skip rfl 24 54 false rfl rfl (.inl (gT g16)) rfl ?_
    refine SOps.skip rfl 24 54 false rfl rfl (.inl (gT g16)) rfl ?_
    refine SOps.skip rfl 24 54 false rfl rfl (.inl (gT g16)) rfl ?_
    refine SOps.q rfl (.plain rfl) rfl (q_pick_t rfl rfl g16 rfl) ?_
    refine SOps.sub (st' := ⟨[(1, .c (.ptr 0 0)), (6, .c (.vec c_7.1.length 11 (gL cSProfile dSProfile c_7.1))), (58, .c (.bool true))], [.box [.int .i64 c_1.ID, .int .i64 c_1.Level, .int .i64 c_1.Purpose, .int .i64 c_1.Kind, .int .i64 c_1.Conn, .str c_1.Txn, .int .i64 c_1.Span_From, .int .i64 c_1.Span_To, .int .i64 c_1.Start, .int .i64 c_1.Duration, .vec c_1.Periods.length 2 (gL cSPeriod dSPeriod c_1.Periods)]]⟩) (sub_gen [0] rfl rfl ⟨zc rfl rfl, zc rfl rfl, zc rfl rfl, trivial⟩ ⟨⟨_, rfl, ⟨ii rfl rfl, ii rfl rfl, ii rfl rfl, ii rfl rfl, ii rfl rfl, ii rfl rfl, ii rfl rfl, ii rfl rfl, ii rfl rfl, ii rfl rfl, ii rfl rfl, trivial⟩⟩, trivial⟩) ?_
    refine SOps.nil ?_
    refine SCode.cond_t rfl rfl ?_
    refine SCode.seq ?_
    refine SCode.region (show SOps _ _ _ [0] _ _ from ?_)
    refine SOps.q rfl (.plain rfl) rfl (q_assign rfl rfl) ?_
    refine SOps.sub (st' := ⟨[(0, .c (.bool false))], []⟩) (sub_gen [] rfl rfl ⟨zc rfl rfl, trivial⟩ trivial) ?_
    refine SOps.nil ?_
    refine SCode.ret ?_
    obtain rfl := Option.some.inj h
    exact ⟨⟨[(0, .c (.bool false))], []⟩, _, sub_gen [] rfl rfl ⟨zc rfl rfl, trivial⟩ trivial, resA1 (v := .c (.bool false)) rfl rfl, rfl⟩
  obtain ⟨c_17, g18, h⟩ := bind_out h
  try dsimp only at h
  refine SCode.region (show SOps _ _ _ [0, 1, 2, 3, 4, 5, 6, 7, 8, 9, 10, 11, 12, 13, 14, 15, 16, 17, 18, 19, 20, 21, 22, 23, 24, 25, 26, 27, 28] _ _ from ?_)
  refine SOps.q rfl (.plain rfl) rfl (q_move rfl rfl) ?_
  refine SOps.q rfl (.plain rfl) rfl (q_neq rfl rfl rfl) ?_
  refine SOps.q rfl (.plain rfl) rfl (q_move rfl rfl) ?_
  refine SOps.q rfl (.guard 2 32 false rfl rfl (gF g9)) rfl (q_move rfl rfl) ?_
  refine SOps.q rfl (.plain rfl) rfl (q_pick_f rfl rfl g9 rfl) ?_
  refine SOps.q rfl (.plain rfl) rfl (q_move rfl rfl) ?_
  refine SOps.q rfl (.guard 5 35 false rfl rfl (gF g10)) rfl (q_move rfl rfl) ?_
  refine SOps.q rfl (.guard 5 35 false rfl rfl (gF g10)) rfl (q_neq rfl rfl rfl) ?_
  refine SOps.q rfl (.plain rfl) rfl (q_pick_f rfl rfl g10 rfl) ?_
  refine SOps.q rfl (.plain rfl) rfl (q_move rfl rfl) ?_
  refine SOps.q rfl (.guard 9 39 false rfl rfl (gF g11)) rfl (q_move rfl rfl) ?_
  refine SOps.q rfl (.guard 9 39 false rfl rfl (gF g11)) rfl (q_not rfl rfl) ?_
  refine SOps.q rfl (.plain rfl) rfl (q_pick_f rfl rfl g11 rfl) ?_
  refine SOps.q rfl (.plain rfl) rfl (q_move rfl rfl) ?_
  refine SOps.q rfl (.guard 13 43 false rfl rfl (gF g12)) rfl (q_move rfl rfl) ?_
  refine SOps.q rfl (.guard 13 43 false rfl rfl (gF g12)) rfl (q_load_ptr_all rfl rfl rfl rfl rfl ty26) ?_
  refine SOps.q rfl (.guard 13 43 false rfl rfl (gF g12)) rfl (q_bsliceL (c := cSProfile) (d0 := dSProfile) [SProfile.mk c_1.ID c_1.Level c_1.Purpose c_1.Kind c_1.Conn c_1.Txn c_1.Span_From c_1.Span_To c_1.Start c_1.Duration c_1.Periods] rfl rfl sl31 z26 rfl rfl rfl rfl rfl rfl rfl) ?_
  refine SOps.q rfl (.guard 13 43 false rfl rfl (gF g12)) rfl (q_call (chargenetref15_SameAll_ok F c_7.1 ([SProfile.mk c_1.ID c_1.Level c_1.Purpose c_1.Kind c_1.Conn c_1.Txn c_1.Span_From c_1.Span_To c_1.Start c_1.Duration c_1.Periods]) c_13 g14) [] rfl fn17 ⟨⟨_, rfl, .inl ⟨rfl, rfl⟩⟩, ⟨_, rfl, .inl ⟨rfl, rfl⟩⟩, trivial⟩ (.inl rfl)) ?_
  refine SOps.q rfl (.guard 13 43 false rfl rfl (gF g12)) rfl (q_not rfl rfl) ?_
  refine SOps.q rfl (.plain rfl) rfl (q_pick_f rfl rfl g12 rfl) ?_
  refine SOps.q rfl (.plain rfl) rfl (q_move rfl rfl) ?_
  refine SOps.q rfl (.guard 20 50 false rfl rfl (gF g15)) rfl (q_move rfl rfl) ?_
  refine SOps.q rfl (.guard 20 50 false rfl rfl (gF g15)) rfl (q_neq rfl rfl rfl) ?_
  refine SOps.q rfl (.plain rfl) rfl (q_pick_f rfl rfl g15 rfl) ?_
  refine SOps.q rfl (.plain rfl) rfl (q_move rfl rfl) ?_
  refine SOps.q rfl (.guard 24 54 false rfl rfl (gF g16)) rfl (q_load_ptr_all rfl rfl rfl rfl rfl ty26) ?_
  refine SOps.q rfl (.guard 24 54 false rfl rfl (gF g16)) rfl (q_call (profile_Next_ok F (SProfile.mk c_1.ID c_1.Level c_1.Purpose c_1.Kind c_1.Conn c_1.Txn c_1.Span_From c_1.Span_To c_1.Start c_1.Duration c_1.Periods) 0 100 c_17 g18) [] rfl fn24 ⟨⟨rfl, rfl⟩, ⟨_, rfl, .inl ⟨rfl, rfl⟩⟩, ⟨_, rfl, .inl ⟨rfl, rfl⟩⟩, trivial⟩ (.inl rfl)) ?_
  refine SOps.q rfl (.guard 24 54 false rfl rfl (gF g16)) rfl (q_neq rfl rfl rfl) ?_
  refine SOps.q rfl (.plain rfl) rfl (q_pick_f rfl rfl g16 rfl) ?_
  refine SOps.sub (st' := ⟨[(1, .c (.ptr 0 0)), (6, .c (.vec c_7.1.length 11 (gL cSProfile dSProfile c_7.1))), (58, .c (.bool ((!decide (c_17 = 160)))))], [.box [.int .i64 c_1.ID, .int .i64 c_1.Level, .int .i64 c_1.Purpose, .int .i64 c_1.Kind, .int .i64 c_1.Conn, .str c_1.Txn, .int .i64 c_1.Span_From, .int .i64 c_1.Span_To, .int .i64 c_1.Start, .int .i64 c_1.Duration, .vec c_1.Periods.length 2 (gL cSPeriod dSPeriod c_1.Periods)]]⟩) (sub_gen [0] rfl rfl ⟨zc rfl rfl, zc rfl rfl, zc rfl rfl, trivial⟩ ⟨⟨_, rfl, ⟨ii rfl rfl, ii rfl rfl, ii rfl rfl, ii rfl rfl, ii rfl rfl, ii rfl rfl, ii rfl rfl, ii rfl rfl, ii rfl rfl, ii rfl rfl, ii rfl rfl, trivial⟩⟩, trivial⟩) ?_
  refine SOps.nil ?_
  rcases cond_out h with ⟨g19, h⟩ | ⟨g19, h⟩
  · refine SCode.cond_t rfl g19 ?_
    refine SCode.seq ?_
    refine SCode.region (show SOps _ _ _ [0] _ _ from ?_)
    refine SOps.q rfl (.plain rfl) rfl (q_assign rfl rfl) ?_
    refine SOps.sub (st' := ⟨[(0, .c (.bool false))], []⟩) (sub_gen [] rfl rfl ⟨zc rfl rfl, trivial⟩ trivial) ?_
    refine SOps.nil ?_
    refine SCode.ret ?_
    obtain rfl := Option.some.inj h
    exact ⟨⟨[(0, .c (.bool false))], []⟩, _, sub_gen [] rfl rfl ⟨zc rfl rfl, trivial⟩ trivial, resA1 (v := .c (.bool false)) rfl rfl, rfl⟩
  refine SCode.cond_f rfl g19 ?_
  refine SCode.skip ?_
  refine SCode.seq ?_
  refine SCode.region (show SOps _ _ _ [0, 1] _ _ from ?_)
  refine SOps.q rfl (.plain rfl) rfl (q_field_ptr rfl rfl fd26_3) ?_
  refine SOps.e rfl (.plain rfl) (e_store_box rfl rfl rfl rfl rfl ty3 rfl rfl rfl rfl) ?_
  refine SOps.sub (st' := ⟨[(1, .c (.ptr 0 0)), (6, .c (.vec c_7.1.length 11 (gL cSProfile dSProfile c_7.1)))], [.box [.int .i64 c_1.ID, .int .i64 c_1.Level, .int .i64 c_1.Purpose, .int .i64 2, .int .i64 c_1.Conn, .str c_1.Txn, .int .i64 c_1.Span_From, .int .i64 c_1.Span_To, .int .i64 c_1.Start, .int .i64 c_1.Duration, .vec c_1.Periods.length 2 (gL cSPeriod dSPeriod c_1.Periods)]]⟩) (sub_gen [0] rfl rfl ⟨zc rfl rfl, zc rfl rfl, trivial⟩ ⟨⟨_, rfl, ⟨ii rfl rfl, ii rfl rfl, ii rfl rfl, ii rfl rfl, ii rfl rfl, ii rfl rfl, ii rfl rfl, ii rfl rfl, ii rfl rfl, ii rfl rfl, ii rfl rfl, trivial⟩⟩, trivial⟩) ?_
  refine SOps.nil ?_
  refine SCode.seq ?_
  obtain ⟨c_20, g21, h⟩ := bind_out h
  try dsimp only at h
  refine SCode.region (show SOps _ _ _ [0, 1, 2, 3, 4, 5, 6] _ _ from ?_)
  refine SOps.q rfl (.plain rfl) rfl (q_load_ptr_all rfl rfl rfl rfl rfl ty26) ?_
  refine SOps.q rfl (.plain rfl) rfl (q_call (profile_Limit_ok F (SProfile.mk c_1.ID c_1.Level c_1.Purpose 2 c_1.Conn c_1.Txn c_1.Span_From c_1.Span_To c_1.Start c_1.Duration c_1.Periods) 0 1540 c_20 g21) [] rfl fn22 ⟨⟨rfl, rfl⟩, ⟨_, rfl, .inl ⟨rfl, rfl⟩⟩, ⟨_, rfl, .inl ⟨rfl, rfl⟩⟩, trivial⟩ (.inl rfl)) ?_
  refine SOps.q rfl (.plain rfl) rfl (q_move rfl rfl) ?_
  refine SOps.q rfl (.plain rfl) rfl (q_extract rfl rfl rfl) ?_
  refine SOps.q rfl (.plain rfl) rfl (q_extract rfl rfl rfl) ?_
  refine SOps.q rfl (.plain rfl) rfl (q_assign rfl rfl) ?_
  refine SOps.q rfl (.plain rfl) rfl (q_assign rfl rfl) ?_
  refine SOps.sub (st' := ⟨[(1, .c (.ptr 0 0)), (6, .c (.vec c_7.1.length 11 (gL cSProfile dSProfile c_7.1))), (8, .c (.int .i64 c_20.1)), (9, .c (.bool c_20.2))], [.box [.int .i64 c_1.ID, .int .i64 c_1.Level, .int .i64 c_1.Purpose, .int .i64 2, .int .i64 c_1.Conn, .str c_1.Txn, .int .i64 c_1.Span_From, .int .i64 c_1.Span_To, .int .i64 c_1.Start, .int .i64 c_1.Duration, .vec c_1.Periods.length 2 (gL cSPeriod dSPeriod c_1.Periods)]]⟩) (sub_gen [0] rfl rfl ⟨zc rfl rfl, zc rfl rfl, zc rfl rfl, zc rfl rfl, trivial⟩ ⟨⟨_, rfl, ⟨ii rfl rfl, ii rfl rfl, ii rfl rfl, ii rfl rfl, ii rfl rfl, ii rfl rfl, ii rfl rfl, ii rfl rfl, ii rfl rfl, ii rfl rfl, ii rfl rfl, trivial⟩⟩, trivial⟩) ?_
  refine SOps.nil ?_
  refine SCode.seq ?_
  obtain ⟨c_22, g23, h⟩ := bind_out h
  try dsimp only at h
  refine SCode.region (show SOps _ _ _ [0, 1, 2, 3, 4, 5, 6] _ _ from ?_)
  refine SOps.q rfl (.plain rfl) rfl (q_move rfl rfl) ?_
  refine SOps.q rfl (.plain rfl) rfl (q_call (profile_Clear_ok F c_7.1 7 c_22 g23) [] rfl fn18 ⟨⟨_, rfl, .inl ⟨rfl, rfl⟩⟩, ⟨_, rfl, .inl ⟨rfl, rfl⟩⟩, trivial⟩ (.inl rfl)) ?_
  refine SOps.q rfl (.plain rfl) rfl (q_move rfl rfl) ?_
  refine SOps.q rfl (.plain rfl) rfl (q_extract rfl rfl rfl) ?_
  refine SOps.q rfl (.plain rfl) rfl (q_extract rfl rfl rfl) ?_
  refine SOps.q rfl (.plain rfl) rfl (q_assign rfl rfl) ?_
  refine SOps.q rfl (.plain rfl) rfl (q_assign rfl rfl) ?_
  refine SOps.sub (st' := ⟨[(1, .c (.ptr 0 0)), (8, .c (.int .i64 c_20.1)), (9, .c (.bool c_20.2)), (11, .c (.int .i64 c_22.2))], [.box [.int .i64 c_1.ID, .int .i64 c_1.Level, .int .i64 c_1.Purpose, .int .i64 2, .int .i64 c_1.Conn, .str c_1.Txn, .int .i64 c_1.Span_From, .int .i64 c_1.Span_To, .int .i64 c_1.Start, .int .i64 c_1.Duration, .vec c_1.Periods.length 2 (gL cSPeriod dSPeriod c_1.Periods)]]⟩) (sub_gen [0] rfl rfl ⟨zc rfl rfl, zc rfl rfl, zc rfl rfl, zc rfl rfl, trivial⟩ ⟨⟨_, rfl, ⟨ii rfl rfl, ii rfl rfl, ii rfl rfl, ii rfl rfl, ii rfl rfl, ii rfl rfl, ii rfl rfl, ii rfl rfl, ii rfl rfl, ii rfl rfl, ii rfl rfl, trivial⟩⟩, trivial⟩) ?_
  refine SOps.nil ?_
  refine SCode.seq ?_
  rcases cond_out h with ⟨g24, h⟩ | ⟨g24, h⟩
  · rcases cond_out h with ⟨g25, h⟩ | ⟨g25, h⟩
    · obtain ⟨c_26, g27, h⟩ := bind_out h
      try dsimp only at h
      rcases cond_out h with ⟨g28, h⟩ | ⟨g28, h⟩
      · rcases cond_out h with ⟨g29, h⟩ | ⟨g29, h⟩
        · obtain ⟨c_30, g31, h⟩ := bind_out h
          try dsimp only at h
          rcases cond_out h with ⟨g32, h⟩ | ⟨g32, h⟩
          · obtain ⟨c_33, g34, h⟩ := bind_out h
            try dsimp only at h
            refine SCode.region (show SOps _ _ _ [0, 1, 2, 3, 4, 5, 6, 7, 8, 9, 10, 11, 12, 13, 14, 15, 16, 17, 18, 19, 20, 21, 22, 23, 24] _ _ from ?_)
            refine SOps.q rfl (.plain rfl) rfl (q_move rfl rfl) ?_
            refine SOps.q rfl (.plain rfl) rfl (q_eql rfl rfl rfl) ?_
            refine SOps.q rfl (.plain rfl) rfl (q_move rfl rfl) ?_
            refine SOps.q rfl (.guard 2 72 true rfl rfl (gT g24)) rfl (q_move rfl rfl) ?_
            refine SOps.q rfl (.plain rfl) rfl (q_pick_t rfl rfl g24 rfl) ?_
            refine SOps.q rfl (.plain rfl) rfl (q_move rfl rfl) ?_
            refine SOps.q rfl (.guard 5 75 true rfl rfl (gT g25)) rfl (q_load_ptr_all rfl rfl rfl rfl rfl ty26) ?_
            refine SOps.q rfl (.guard 5 75 true rfl rfl (gT g25)) rfl (q_call (profile_Next_ok F (SProfile.mk c_1.ID c_1.Level c_1.Purpose 2 c_1.Conn c_1.Txn c_1.Span_From c_1.Span_To c_1.Start c_1.Duration c_1.Periods) 0 160 c_26 g27) [] rfl fn24 ⟨⟨rfl, rfl⟩, ⟨_, rfl, .inl ⟨rfl, rfl⟩⟩, ⟨_, rfl, .inl ⟨rfl, rfl⟩⟩, trivial⟩ (.inl rfl)) ?_
            refine SOps.q rfl (.guard 5 75 true rfl rfl (gT g25)) rfl (q_eql rfl rfl rfl) ?_
            refine SOps.q rfl (.plain rfl) rfl (q_pick_t rfl rfl g25 rfl) ?_
            refine SOps.q rfl (.plain rfl) rfl (q_move rfl rfl) ?_
            refine SOps.q rfl (.guard 10 80 true rfl rfl (gT g28)) rfl (q_move rfl rfl) ?_
            refine SOps.q rfl (.guard 10 80 true rfl rfl (gT g28)) rfl (q_eql rfl rfl rfl) ?_
            refine SOps.q rfl (.plain rfl) rfl (q_pick_t rfl rfl g28 rfl) ?_
            refine SOps.q rfl (.plain rfl) rfl (q_move rfl rfl) ?_
            refine SOps.q rfl (.guard 14 84 true rfl rfl (gT g29)) rfl (q_build2 rfl rfl pl26 rfl) ?_
            refine SOps.sub (st' := ⟨[(1, .c (.ptr 0 0)), (8, .c (.int .i64 c_20.1)), (9, .c (.bool c_20.2)), (11, .c (.int .i64 c_22.2)), (70, .c (.int .i64 c_20.1)), (71, .c (.bool (decide (c_20.1 = 4000)))), (72, .c (.bool (decide (c_20.1 = 4000)))), (73, .c (.bool c_20.2)), (74, .c (.bool c_20.2)), (75, .c (.bool c_20.2)), (76, .a [.int .i64 c_1.ID, .int .i64 c_1.Level, .int .i64 c_1.Purpose, .int .i64 2, .int .i64 c_1.Conn, .str c_1.Txn, .int .i64 c_1.Span_From, .int .i64 c_1.Span_To, .int .i64 c_1.Start, .int .i64 c_1.Duration, .vec c_1.Periods.length 2 (gL cSPeriod dSPeriod c_1.Periods)]), (77, .c (.int .i64 c_26)), (78, .c (.bool (decide (c_26 = 1540)))), (79, .c (.bool (decide (c_26 = 1540)))), (80, .c (.bool (decide (c_26 = 1540)))), (81, .c (.int .i64 c_22.2)), (82, .c (.bool (decide (c_22.2 = 8)))), (83, .c (.bool (decide (c_22.2 = 8)))), (84, .c (.bool (decide (c_22.2 = 8)))), (85, .a [.int .i64 0, .int .i64 0, .int .i64 0, .int .i64 0, .int .i64 0, .str ByteArray.empty, .int .i64 0, .int .i64 0, .int .i64 0, .int .i64 0, .vec (([] : List SPeriod)).length 2 (gL cSPeriod dSPeriod (([] : List SPeriod)))])], [.box [.int .i64 c_1.ID, .int .i64 c_1.Level, .int .i64 c_1.Purpose, .int .i64 2, .int .i64 c_1.Conn, .str c_1.Txn, .int .i64 c_1.Span_From, .int .i64 c_1.Span_To, .int .i64 c_1.Start, .int .i64 c_1.Duration, .vec c_1.Periods.length 2 (gL cSPeriod dSPeriod c_1.Periods)]]⟩) (sub_gen [0] rfl rfl ⟨zc rfl rfl, zc rfl rfl, zc rfl rfl, zc rfl rfl, zc rfl rfl, zc rfl rfl, zc rfl rfl, zc rfl rfl, zc rfl rfl, zc rfl rfl, ⟨_, rfl, ⟨ii rfl rfl, ii rfl rfl, ii rfl rfl, ii rfl rfl, ii rfl rfl, ii rfl rfl, ii rfl rfl, ii rfl rfl, ii rfl rfl, ii rfl rfl, ii rfl rfl, trivial⟩⟩, zc rfl rfl, zc rfl rfl, zc rfl rfl, zc rfl rfl, zc rfl rfl, zc rfl rfl, zc rfl rfl, zc rfl rfl, ⟨_, rfl, ⟨ii rfl rfl, ii rfl rfl, ii rfl rfl, ii rfl rfl, ii rfl rfl, ii rfl rfl, ii rfl rfl, ii rfl rfl, ii rfl rfl, ii rfl rfl, .inr (.inr (.inr (.inl ⟨_, _, rfl, rfl⟩))), trivial⟩⟩, trivial⟩ ⟨⟨_, rfl, ⟨ii rfl rfl, ii rfl rfl, ii rfl rfl, ii rfl rfl, ii rfl rfl, ii rfl rfl, ii rfl rfl, ii rfl rfl, ii rfl rfl, ii rfl rfl, ii rfl rfl, trivial⟩⟩, trivial⟩) ?_
            refine SOps.q rfl (.guard 14 84 true rfl rfl (gT g29)) rfl (q_call (profile_Valid_ok F (SProfile.mk 0 0 0 0 0 ByteArray.empty 0 0 0 0 (([] : List SPeriod))) c_30 g31) [] rfl fn12 ⟨⟨rfl, rfl⟩, trivial⟩ (.inl rfl)) ?_
            refine SOps.q rfl (.guard 14 84 true rfl rfl (gT g29)) rfl (q_eql rfl rfl rfl) ?_
            refine SOps.q rfl (.plain rfl) rfl (q_pick_t rfl rfl g29 rfl) ?_
            refine SOps.q rfl (.plain rfl) rfl (q_move rfl rfl) ?_
            refine SOps.q rfl (.guard 19 89 true rfl rfl (gT g32)) rfl (q_load_ptr_all rfl rfl rfl rfl rfl ty26) ?_
            refine SOps.q rfl (.guard 19 89 true rfl rfl (gT g32)) rfl (q_call (profile_Valid_ok F (SProfile.mk c_1.ID c_1.Level c_1.Purpose 2 c_1.Conn c_1.Txn c_1.Span_From c_1.Span_To c_1.Start c_1.Duration c_1.Periods) c_33 g34) [] rfl fn12 ⟨⟨rfl, rfl⟩, trivial⟩ (.inl rfl)) ?_
            refine SOps.q rfl (.guard 19 89 true rfl rfl (gT g32)) rfl (q_eql rfl rfl rfl) ?_
            refine SOps.q rfl (.plain rfl) rfl (q_pick_t rfl rfl g32 rfl) ?_
            refine SOps.q rfl (.plain rfl) rfl (q_assign rfl rfl) ?_
            refine SOps.sub (st' := ⟨[(0, .c (.bool (decide (c_33 = 0))))], []⟩) (sub_gen [] rfl rfl ⟨zc rfl rfl, trivial⟩ trivial) ?_
            refine SOps.nil ?_
            refine SCode.ret ?_
            obtain rfl := Option.some.inj h
            exact ⟨⟨[(0, .c (.bool (decide (c_33 = 0))))], []⟩, _, sub_gen [] rfl rfl ⟨zc rfl rfl, trivial⟩ trivial, resA1 (v := .c (.bool (decide (c_33 = 0)))) rfl rfl, rfl⟩
          refine SCode.region (show SOps _ _ _ [0, 1, 2, 3, 4, 5, 6, 7, 8, 9, 10, 11, 12, 13, 14, 15, 16, 17, 18, 19, 20, 21, 22, 23, 24] _ _ from ?_)
          refine SOps.q rfl (.plain rfl) rfl (q_move rfl rfl) ?_
          refine SOps.q rfl (.plain rfl) rfl (q_eql rfl rfl rfl) ?_
          refine SOps.q rfl (.plain rfl) rfl (q_move rfl rfl) ?_
          refine SOps.q rfl (.guard 2 72 true rfl rfl (gT g24)) rfl (q_move rfl rfl) ?_
          refine SOps.q rfl (.plain rfl) rfl (q_pick_t rfl rfl g24 rfl) ?_
          refine SOps.q rfl (.plain rfl) rfl (q_move rfl rfl) ?_
          refine SOps.q rfl (.guard 5 75 true rfl rfl (gT g25)) rfl (q_load_ptr_all rfl rfl rfl rfl rfl ty26) ?_
          refine SOps.q rfl (.guard 5 75 true rfl rfl (gT g25)) rfl (q_call (profile_Next_ok F (SProfile.mk c_1.ID c_1.Level c_1.Purpose 2 c_1.Conn c_1.Txn c_1.Span_From c_1.Span_To c_1.Start c_1.Duration c_1.Periods) 0 160 c_26 g27) [] rfl fn24 ⟨⟨rfl, rfl⟩, ⟨_, rfl, .inl ⟨rfl, rfl⟩⟩, ⟨_, rfl, .inl ⟨rfl, rfl⟩⟩, trivial⟩ (.inl rfl)) ?_
          refine SOps.q rfl (.guard 5 75 true rfl rfl (gT g25)) rfl (q_eql rfl rfl rfl) ?_
          refine SOps.q rfl (.plain rfl) rfl (q_pick_t rfl rfl g25 rfl) ?_
          refine SOps.q rfl (.plain rfl) rfl (q_move rfl rfl) ?_
          refine SOps.q rfl (.guard 10 80 true rfl rfl (gT g28)) rfl (q_move rfl rfl) ?_
          refine SOps.q rfl (.guard 10 80 true rfl rfl (gT g28)) rfl (q_eql rfl rfl rfl) ?_
          refine SOps.q rfl (.plain rfl) rfl (q_pick_t rfl rfl g28 rfl) ?_
          refine SOps.q rfl (.plain rfl) rfl (q_move rfl rfl) ?_
          refine SOps.q rfl (.guard 14 84 true rfl rfl (gT g29)) rfl (q_build2 rfl rfl pl26 rfl) ?_
          refine SOps.sub (st' := ⟨[(1, .c (.ptr 0 0)), (8, .c (.int .i64 c_20.1)), (9, .c (.bool c_20.2)), (11, .c (.int .i64 c_22.2)), (70, .c (.int .i64 c_20.1)), (71, .c (.bool (decide (c_20.1 = 4000)))), (72, .c (.bool (decide (c_20.1 = 4000)))), (73, .c (.bool c_20.2)), (74, .c (.bool c_20.2)), (75, .c (.bool c_20.2)), (76, .a [.int .i64 c_1.ID, .int .i64 c_1.Level, .int .i64 c_1.Purpose, .int .i64 2, .int .i64 c_1.Conn, .str c_1.Txn, .int .i64 c_1.Span_From, .int .i64 c_1.Span_To, .int .i64 c_1.Start, .int .i64 c_1.Duration, .vec c_1.Periods.length 2 (gL cSPeriod dSPeriod c_1.Periods)]), (77, .c (.int .i64 c_26)), (78, .c (.bool (decide (c_26 = 1540)))), (79, .c (.bool (decide (c_26 = 1540)))), (80, .c (.bool (decide (c_26 = 1540)))), (81, .c (.int .i64 c_22.2)), (82, .c (.bool (decide (c_22.2 = 8)))), (83, .c (.bool (decide (c_22.2 = 8)))), (84, .c (.bool (decide (c_22.2 = 8)))), (85, .a [.int .i64 0, .int .i64 0, .int .i64 0, .int .i64 0, .int .i64 0, .str ByteArray.empty, .int .i64 0, .int .i64 0, .int .i64 0, .int .i64 0, .vec (([] : List SPeriod)).length 2 (gL cSPeriod dSPeriod (([] : List SPeriod)))])], [.box [.int .i64 c_1.ID, .int .i64 c_1.Level, .int .i64 c_1.Purpose, .int .i64 2, .int .i64 c_1.Conn, .str c_1.Txn, .int .i64 c_1.Span_From, .int .i64 c_1.Span_To, .int .i64 c_1.Start, .int .i64 c_1.Duration, .vec c_1.Periods.length 2 (gL cSPeriod dSPeriod c_1.Periods)]]⟩) (sub_gen [0] rfl rfl ⟨zc rfl rfl, zc rfl rfl, zc rfl rfl, zc rfl rfl, zc rfl rfl, zc rfl rfl, zc rfl rfl, zc rfl rfl, zc rfl rfl, zc rfl rfl, ⟨_, rfl, ⟨ii rfl rfl, ii rfl rfl, ii rfl rfl, ii rfl rfl, ii rfl rfl, ii rfl rfl, ii rfl rfl, ii rfl rfl, ii rfl rfl, ii rfl rfl, ii rfl rfl, trivial⟩⟩, zc rfl rfl, zc rfl rfl, zc rfl rfl, zc rfl rfl, zc rfl rfl, zc rfl rfl, zc rfl rfl, zc rfl rfl, ⟨_, rfl, ⟨ii rfl rfl, ii rfl rfl, ii rfl rfl, ii rfl rfl, ii rfl rfl, ii rfl rfl, ii rfl rfl, ii rfl rfl, ii rfl rfl, ii rfl rfl, .inr (.inr (.inr (.inl ⟨_, _, rfl, rfl⟩))), trivial⟩⟩, trivial⟩ ⟨⟨_, rfl, ⟨ii rfl rfl, ii rfl rfl, ii rfl rfl, ii rfl rfl, ii rfl rfl, ii rfl rfl, ii rfl rfl, ii rfl rfl, ii rfl rfl, ii rfl rfl, ii rfl rfl, trivial⟩⟩, trivial⟩) ?_
          refine SOps.q rfl (.guard 14 84 true rfl rfl (gT g29)) rfl (q_call (profile_Valid_ok F (SProfile.mk 0 0 0 0 0 ByteArray.empty 0 0 0 0 (([] : List SPeriod))) c_30 g31) [] rfl fn12 ⟨⟨rfl, rfl⟩, trivial⟩ (.inl rfl)) ?_
          refine SOps.q rfl (.guard 14 84 true rfl rfl (gT g29)) rfl (q_eql rfl rfl rfl) ?_
          refine SOps.q rfl (.plain rfl) rfl (q_pick_t rfl rfl g29 rfl) ?_
          refine SOps.q rfl (.plain rfl) rfl (q_move rfl rfl) ?_
          refine SOps.skip rfl 19 89 true rfl rfl (.inl (gF g32)) rfl ?_
          refine SOps.skip rfl 19 89 true rfl rfl (.inl (gF g32)) rfl ?_
          refine SOps.skip rfl 19 89 true rfl rfl (.inl (gF g32)) rfl ?_
          refine SOps.q rfl (.plain rfl) rfl (q_pick_f rfl rfl g32 rfl) ?_
          refine SOps.q rfl (.plain rfl) rfl (q_assign rfl rfl) ?_
          refine SOps.sub (st' := ⟨[(0, .c (.bool false))], []⟩) (sub_gen [] rfl rfl ⟨zc rfl rfl, trivial⟩ trivial) ?_
          refine SOps.nil ?_
          refine SCode.ret ?_
          obtain rfl := Option.some.inj h
          exact ⟨⟨[(0, .c (.bool false))], []⟩, _, sub_gen [] rfl rfl ⟨zc rfl rfl, trivial⟩ trivial, resA1 (v := .c (.bool false)) rfl rfl, rfl⟩
        refine SCode.region (show SOps _ _ _ [0, 1, 2, 3, 4, 5, 6, 7, 8, 9, 10, 11, 12, 13, 14, 15, 16, 17, 18, 19, 20, 21, 22, 23, 24] _ _ from ?_)
        refine SOps.q rfl (.plain rfl) rfl (q_move rfl rfl) ?_
        refine SOps.q rfl (.plain rfl) rfl (q_eql rfl rfl rfl) ?_
        refine SOps.q rfl (.plain rfl) rfl (q_move rfl rfl) ?_
        refine SOps.q rfl (.guard 2 72 true rfl rfl (gT g24)) rfl (q_move rfl rfl) ?_
        refine SOps.q rfl (.plain rfl) rfl (q_pick_t rfl rfl g24 rfl) ?_
        refine SOps.q rfl (.plain rfl) rfl (q_move rfl rfl) ?_
        refine SOps.q rfl (.guard 5 75 true rfl rfl (gT g25)) rfl (q_load_ptr_all rfl rfl rfl rfl rfl ty26) ?_
        refine SOps.q rfl (.guard 5 75 true rfl rfl (gT g25)) rfl (q_call (profile_Next_ok F (SProfile.mk c_1.ID c_1.Level c_1.Purpose 2 c_1.Conn c_1.Txn c_1.Span_From c_1.Span_To c_1.Start c_1.Duration c_1.Periods) 0 160 c_26 g27) [] rfl fn24 ⟨⟨rfl, rfl⟩, ⟨_, rfl, .inl ⟨rfl, rfl⟩⟩, ⟨_, rfl, .inl ⟨rfl, rfl⟩⟩, trivial⟩ (.inl rfl)) ?_
        refine SOps.q rfl (.guard 5 75 true rfl rfl (gT g25)) rfl (q_eql rfl rfl rfl) ?_
        refine SOps.q rfl (.plain rfl) rfl (q_pick_t rfl rfl g25 rfl) ?_
        refine SOps.q rfl (.plain rfl) rfl (q_move rfl rfl) ?_
        refine SOps.q rfl (.guard 10 80 true rfl rfl (gT g28)) rfl (q_move rfl rfl) ?_
        refine SOps.q rfl (.guard 10 80 true rfl rfl (gT g28)) rfl (q_eql rfl rfl rfl) ?_
        refine SOps.q rfl (.plain rfl) rfl (q_pick_t rfl rfl g28 rfl) ?_
        refine SOps.q rfl (.plain rfl) rfl (q_move rfl rfl) ?_
        refine SOps.skip rfl 14 84 true rfl rfl (.inl (gF g29)) rfl ?_
        refine SOps.skip rfl 14 84 true rfl rfl (.inl (gF g29)) rfl ?_
        refine SOps.skip rfl 14 84 true rfl rfl (.inl (gF g29)) rfl ?_
        refine SOps.q rfl (.plain rfl) rfl (q_pick_f rfl rfl g29 rfl) ?_
        refine SOps.q rfl (.plain rfl) rfl (q_move rfl rfl) ?_
        refine SOps.skip rfl 19 89 true rfl rfl (.inl rfl) rfl ?_
        refine SOps.skip rfl 19 89 true rfl rfl (.inl rfl) rfl ?_
        refine SOps.skip rfl 19 89 true rfl rfl (.inl rfl) rfl ?_
        refine SOps.q rfl (.plain rfl) rfl (q_pick_f rfl rfl rfl rfl) ?_
        refine SOps.q rfl (.plain rfl) rfl (q_assign rfl rfl) ?_
        refine SOps.sub (st' := ⟨[(0, .c (.bool false))], []⟩) (sub_gen [] rfl rfl ⟨zc rfl rfl, trivial⟩ trivial) ?_
        refine SOps.nil ?_
        refine SCode.ret ?_
        obtain rfl := Option.some.inj h
        exact ⟨⟨[(0, .c (.bool false))], []⟩, _, sub_gen [] rfl rfl ⟨zc rfl rfl, trivial⟩ trivial, resA1 (v := .c (.bool false)) rfl rfl, rfl⟩
      refine SCode.region (show SOps _ _ _ [0, 1, 2, 3, 4, 5, 6, 7, 8, 9, 10, 11, 12, 13, 14, 15, 16, 17, 18, 19, 20, 21, 22, 23, 24] _ _ from ?_)
      refine SOps.q rfl (.plain rfl) rfl (q_move rfl rfl) ?_
      refine SOps.q rfl (.plain rfl) rfl (q_eql rfl rfl rfl) ?_
      refine SOps.q rfl (.plain rfl) rfl (q_move rfl rfl) ?_
      refine SOps.q rfl (.guard 2 72 true rfl rfl (gT g24)) rfl (q_move rfl rfl) ?_
      refine SOps.q rfl (.plain rfl) rfl (q_pick_t rfl rfl g24 rfl) ?_
      refine SOps.q rfl (.plain rfl) rfl (q_move rfl rfl) ?_
      refine SOps.q rfl (.guard 5 75 true rfl rfl (gT g25)) rfl (q_load_ptr_all rfl rfl rfl rfl rfl ty26) ?_
      refine SOps.q rfl (.guard 5 75 true rfl rfl (gT g25)) rfl (q_call (profile_Next_ok F (SProfile.mk c_1.ID c_1.Level c_1.Purpose 2 c_1.Conn c_1.Txn c_1.Span_From c_1.Span_To c_1.Start c_1.Duration c_1.Periods) 0 160 c_26 g27) [] rfl fn24 ⟨⟨rfl, rfl⟩, ⟨_, rfl, .inl ⟨rfl, rfl⟩⟩, ⟨_, rfl, .inl ⟨rfl, rfl⟩⟩, trivial⟩ (.inl rfl)) ?_
      refine SOps.q rfl (.guard 5 75 true rfl rfl (gT g25)) rfl (q_eql rfl rfl rfl) ?_
      refine SOps.q rfl (.plain rfl) rfl (q_pick_t rfl rfl g25 rfl) ?_
      refine SOps.q rfl (.plain rfl) rfl (q_move rfl rfl) ?_
      refine SOps.skip rfl 10 80 true rfl rfl (.inl (gF g28)) rfl ?_
      refine SOps.skip rfl 10 80 true rfl rfl (.inl (gF g28)) rfl ?_
      refine SOps.q rfl (.plain rfl) rfl (q_pick_f rfl rfl g28 rfl) ?_
      refine SOps.q rfl (.plain rfl) rfl (q_move rfl rfl) ?_
      refine SOps.skip rfl 14 84 true rfl rfl (.inl rfl) rfl ?_
      refine SOps.skip rfl 14 84 true rfl rfl (.inl rfl) rfl ?_
      refine SOps.skip rfl 14 84 true rfl rfl (.inl rfl) rfl ?_
      refine SOps.q rfl (.plain rfl) rfl (q_pick_f rfl rfl rfl rfl) ?_
      refine SOps.q rfl (.plain rfl) rfl (q_move rfl rfl) ?_
      refine SOps.skip rfl 19 89 true rfl rfl (.inl rfl) rfl ?_
      refine SOps.skip rfl 19 89 true rfl rfl (.inl rfl) rfl ?_
      refine SOps.skip rfl 19 89 true rfl rfl (.inl rfl) rfl ?_
      refine SOps.q rfl (.plain rfl) rfl (q_pick_f rfl rfl rfl rfl) ?_
      refine SOps.q rfl (.plain rfl) rfl (q_assign rfl rfl) ?_
      refine SOps.sub (st' := ⟨[(0, .c (.bool false))], []⟩) (sub_gen [] rfl rfl ⟨zc rfl rfl, trivial⟩ trivial) ?_
      refine SOps.nil ?_
      refine SCode.ret ?_
      obtain rfl := Option.some.inj h
      exact ⟨⟨[(0, .c (.bool false))], []⟩, _, sub_gen [] rfl rfl ⟨zc rfl rfl, trivial⟩ trivial, resA1 (v := .c (.bool false)) rfl rfl, rfl⟩
    refine SCode.region (show SOps _ _ _ [0, 1, 2, 3, 4, 5, 6, 7, 8, 9, 10, 11, 12, 13, 14, 15, 16, 17, 18, 19, 20, 21, 22, 23, 24] _ _ from ?_)
    refine SOps.q rfl (.plain rfl) rfl (q_move rfl rfl) ?_
    refine SOps.q rfl (.plain rfl) rfl (q_eql rfl rfl rfl) ?_
    refine SOps.q rfl (.plain rfl) rfl (q_move rfl rfl) ?_
    refine SOps.q rfl (.guard 2 72 true rfl rfl (gT g24)) rfl (q_move rfl rfl) ?_
    refine SOps.q rfl (.plain rfl) rfl (q_pick_t rfl rfl g24 rfl) ?_
    refine SOps.q rfl (.plain rfl) rfl (q_move rfl rfl) ?_
    refine SOps.skip rfl 5 75 true rfl rfl (.inl (gF g25)) rfl ?_
    refine SOps.skip rfl 5 75 true rfl rfl (.inl (gF g25)) rfl ?_
    refine SOps.skip rfl 5 75 true rfl rfl (.inl (gF g25)) rfl ?_
    refine SOps.q rfl (.plain rfl) rfl (q_pick_f rfl rfl g25 rfl) ?_
    refine SOps.q rfl (.plain rfl) rfl (q_move rfl rfl) ?_
    refine SOps.skip rfl 10 80 true rfl rfl (.inl rfl) rfl ?_
    refine SOps.skip rfl 10 80 true rfl rfl (.inl rfl) rfl ?_
    refine SOps.q rfl (.plain rfl) rfl (q_pick_f rfl rfl rfl rfl) ?_
    refine SOps.q rfl (.plain rfl) rfl (q_move rfl rfl) ?_
    refine SOps.skip rfl 14 84 true rfl rfl (.inl rfl) rfl ?_
    refine SOps.skip rfl 14 84 true rfl rfl (.inl rfl) rfl ?_
    refine SOps.skip rfl 14 84 true rfl rfl (.inl rfl) rfl ?_
    refine SOps.q rfl (.plain rfl) rfl (q_pick_f rfl rfl rfl rfl) ?_
    refine SOps.q rfl (.plain rfl) rfl (q_move rfl rfl) ?_
    refine SOps.skip rfl 19 89 true rfl rfl (.inl rfl) rfl ?_
    refine SOps.skip rfl 19 89 true rfl rfl (.inl rfl) rfl ?_
    refine SOps.skip rfl 19 89 true rfl rfl (.inl rfl) rfl ?_
    refine SOps.q rfl (.plain rfl) rfl (q_pick_f rfl rfl rfl rfl) ?_
    refine SOps.q rfl (.plain rfl) rfl (q_assign rfl rfl) ?_
    refine SOps.sub (st' := ⟨[(0, .c (.bool false))], []⟩) (sub_gen [] rfl rfl ⟨zc rfl rfl, trivial⟩ trivial) ?_
    refine SOps.nil ?_
    refine SCode.ret ?_
    obtain rfl := Option.some.inj h
    exact ⟨⟨[(0, .c (.bool false))], []⟩, _, sub_gen [] rfl rfl ⟨zc rfl rfl, trivial⟩ trivial, resA1 (v := .c (.bool false)) rfl rfl, rfl⟩
  refine SCode.region (show SOps _ _ _ [0, 1, 2, 3, 4, 5, 6, 7, 8, 9, 10, 11, 12, 13, 14, 15, 16, 17, 18, 19, 20, 21, 22, 23, 24] _ _ from ?_)
  refine SOps.q rfl (.plain rfl) rfl (q_move rfl rfl) ?_
  refine SOps.q rfl (.plain rfl) rfl (q_eql rfl rfl rfl) ?_
  refine SOps.q rfl (.plain rfl) rfl (q_move rfl rfl) ?_
  refine SOps.skip rfl 2 72 true rfl rfl (.inl (gF g24)) rfl ?_
  refine SOps.q rfl (.plain rfl) rfl (q_pick_f rfl rfl g24 rfl) ?_
  refine SOps.q rfl (.plain rfl) rfl (q_move rfl rfl) ?_
  refine SOps.skip rfl 5 75 true rfl rfl (.inl rfl) rfl ?_
  refine SOps.skip rfl 5 75 true rfl rfl (.inl rfl) rfl ?_
  refine SOps.skip rfl 5 75 true rfl rfl (.inl rfl) rfl ?_
  refine SOps.q rfl (.plain rfl) rfl (q_pick_f rfl rfl rfl rfl) ?_
  refine SOps.q rfl (.plain rfl) rfl (q_move rfl rfl) ?_
  refine SOps.skip rfl 10 80 true rfl rfl (.inl rfl) rfl ?_
  refine SOps.skip rfl 10 80 true rfl rfl (.inl rfl) rfl ?_
  refine SOps.q rfl (.plain rfl) rfl (q_pick_f rfl rfl rfl rfl) ?_
  refine SOps.q rfl (.plain rfl) rfl (q_move rfl rfl) ?_
  refine SOps.skip rfl 14 84 true rfl rfl (.inl rfl) rfl ?_
  refine SOps.skip rfl 14 84 true rfl rfl (.inl rfl) rfl ?_
  refine SOps.skip rfl 14 84 true rfl rfl (.inl rfl) rfl ?_
  refine SOps.q rfl (.plain rfl) rfl (q_pick_f rfl rfl rfl rfl) ?_
  refine SOps.q rfl (.plain rfl) rfl (q_move rfl rfl) ?_
  refine SOps.skip rfl 19 89 true rfl rfl (.inl rfl) rfl ?_
  refine SOps.skip rfl 19 89 true rfl rfl (.inl rfl) rfl ?_
  refine SOps.skip rfl 19 89 true rfl rfl (.inl rfl) rfl ?_
  refine SOps.q rfl (.plain rfl) rfl (q_pick_f rfl rfl rfl rfl) ?_
  refine SOps.q rfl (.plain rfl) rfl (q_assign rfl rfl) ?_
  refine SOps.sub (st' := ⟨[(0, .c (.bool false))], []⟩) (sub_gen [] rfl rfl ⟨zc rfl rfl, trivial⟩ trivial) ?_
  refine SOps.nil ?_
  refine SCode.ret ?_
  obtain rfl := Option.some.inj h
  exact ⟨⟨[(0, .c (.bool false))], []⟩, _, sub_gen [] rfl rfl ⟨zc rfl rfl, trivial⟩ trivial, resA1 (v := .c (.bool false)) rfl rfl, rfl⟩
set_option maxRecDepth 100000 in
set_option maxHeartbeats 8000000 in
theorem chargenetlaw15_few_ok (F : Nat) (a0_l : List SProfile) (r : Bool) (h : chargenetlaw15_few F a0_l = some r) :
    SFun Try.prog 14 [] [.c (.vec a0_l.length 11 (gL cSProfile dSProfile a0_l))] (fun x _ => x = .c (.bool r)) := by
  refine SFun.of (n := 29) Try.func14 rfl rfl rfl ?_
  unfold chargenetlaw15_few at h
  show SCode _ _ _ ⟨[(0, .c (.vec a0_l.length 11 (gL cSProfile dSProfile a0_l)))], []⟩ _
  refine SCode.seq ?_
  refine SCode.region (show SOps _ _ _ [0] _ _ from ?_)
  refine SOps.q rfl (.plain rfl) rfl (q_assign rfl rfl) ?_
  refine SOps.sub (st' := ⟨[(0, .c (.vec a0_l.length 11 (gL cSProfile dSProfile a0_l)))], []⟩) (sub_gen [] rfl rfl ⟨zc rfl rfl, trivial⟩ trivial) ?_
  refine SOps.nil ?_
  refine SCode.seq ?_
  refine SCode.seq ?_
  refine SCode.region (show SOps _ _ _ [0, 1, 2] _ _ from ?_)
  refine SOps.q rfl (.plain rfl) rfl (q_move rfl rfl) ?_
  refine SOps.q rfl (.plain rfl) rfl (q_len_vec rfl rfl sl31) ?_
  refine SOps.q rfl (.plain rfl) rfl (q_gtr rfl rfl rfl) ?_
  refine SOps.sub (st' := ⟨[(0, .c (.vec a0_l.length 11 (gL cSProfile dSProfile a0_l))), (6, .c (.bool (decide (20 < ((a0_l).length : Int)))))], []⟩) (sub_gen [] rfl rfl ⟨zc rfl rfl, zc rfl rfl, trivial⟩ trivial) ?_
  refine SOps.nil ?_
  rcases cond_out h with ⟨g1, h⟩ | ⟨g1, h⟩
  · refine SCode.cond_t rfl g1 ?_
    refine SCode.seq ?_
    refine SCode.region (show SOps _ _ _ [0] _ _ from ?_)
    refine SOps.q rfl (.plain rfl) rfl (q_assign rfl rfl) ?_
    refine SOps.sub (st' := ⟨[(2, .c (.bool false))], []⟩) (sub_gen [] rfl rfl ⟨zc rfl rfl, trivial⟩ trivial) ?_
    refine SOps.nil ?_
    refine SCode.ret ?_
    obtain rfl := Option.some.inj h
    exact ⟨⟨[(2, .c (.bool false))], []⟩, _, sub_gen [] rfl rfl ⟨zc rfl rfl, trivial⟩ trivial, resA1 (v := .c (.bool false)) rfl rfl, rfl⟩
  refine SCode.cond_f rfl g1 ?_
  refine SCode.skip ?_
  refine SCode.join (σ := Unit) (S := fun s => ⟨[], []⟩) (g := fun s => chargenetlaw15_few_p2 = some r) ?_ ?_
  rotate_left
  · refine SCode.seq ?_
    refine SCode.region (show SOps _ _ _ [0] _ _ from ?_)
    refine SOps.q rfl (.plain rfl) rfl (q_assign rfl rfl) ?_
    refine SOps.sub (st' := ⟨[(0, .c (.vec a0_l.length 11 (gL cSProfile dSProfile a0_l))), (3, .c (.int .i64 0))], []⟩) (sub_gen [] rfl rfl ⟨zc rfl rfl, zc rfl rfl, trivial⟩ trivial) ?_
    refine SOps.nil ?_
    refine SCode.block ?_
    refine SCode.sub (st' := ⟨[(0, .c (.vec a0_l.length 11 (gL cSProfile dSProfile a0_l))), (3, .c (.int .i64 0))], []⟩) (sub_gen [] rfl rfl ⟨zc rfl rfl, zc rfl rfl, trivial⟩ trivial) ?_
    refine (SCode.loop (σ := Nat × Int) (S := fun s => ⟨[(0, .c (.vec a0_l.length 11 (gL cSProfile dSProfile a0_l))), (3, .c (.int .i64 s.2))], []⟩) (g := fun s => chargenetlaw15_few_l14 a0_l s.1 s.2 = some r) (μ := fun s => s.1) (F, 0) h ?_)
    rintro ⟨n_14, i_8⟩ h
    replace h : chargenetlaw15_few_l14 a0_l n_14 i_8 = some r := h
    show SCode _ _ _ ⟨[(0, .c (.vec a0_l.length 11 (gL cSProfile dSProfile a0_l))), (3, .c (.int .i64 i_8))], []⟩ _
    cases n_14 with
    | zero => cases h
    | succ n_14 =>
      replace h : chargenetlaw15_few_b14 a0_l (fun i_8 => chargenetlaw15_few_l14 a0_l n_14 i_8) i_8 = some r := h
      unfold chargenetlaw15_few_b14 at h
      refine SCode.seq ?_
      refine SCode.seq ?_
      refine SCode.region (show SOps _ _ _ [0, 1, 2, 3] _ _ from ?_)
      refine SOps.q rfl (.plain rfl) rfl (q_move rfl rfl) ?_
      refine SOps.q rfl (.plain rfl) rfl (q_move rfl rfl) ?_
      refine SOps.q rfl (.plain rfl) rfl (q_len_vec rfl rfl sl31) ?_
      refine SOps.q rfl (.plain rfl) rfl (q_lss rfl rfl rfl) ?_
      refine SOps.sub (st' := ⟨[(0, .c (.vec a0_l.length 11 (gL cSProfile dSProfile a0_l))), (3, .c (.int .i64 i_8)), (10, .c (.bool (decide (i_8 < ((a0_l).length : Int)))))], []⟩) (sub_gen [] rfl rfl ⟨zc rfl rfl, zc rfl rfl, zc rfl rfl, trivial⟩ trivial) ?_
      refine SOps.nil ?_
      rcases cond_out h with ⟨g15, h⟩ | ⟨g15, h⟩
      · refine SCode.cond_t rfl g15 ?_
        refine SCode.skip ?_
        refine SCode.seq ?_
        refine SCode.block ?_
        refine SCode.seq ?_
        obtain ⟨g16, h⟩ := guard_out h
        rcases cond_out h with ⟨g17, h⟩ | ⟨g17, h⟩
        · refine SCode.region (show SOps _ _ _ [0, 1, 2, 3, 4, 5, 6, 7, 8, 9, 10, 11, 12, 13, 14, 15] _ _ from ?_)
          refine SOps.q rfl (.plain rfl) rfl (q_move rfl rfl) ?_
          refine SOps.q rfl (.plain rfl) rfl (q_move rfl rfl) ?_
          refine SOps.q rfl (.plain rfl) rfl (q_index_vec rfl rfl rfl sl31 rfl g16.1 g16.2) ?_
          refine SOps.q rfl (.plain rfl) rfl (q_field_eptr rfl rfl fd26_9 rfl) ?_
          refine SOps.q rfl (.plain rfl) rfl (q_load_eptr rfl rfl ty24) ?_
          refine SOps.q rfl (.plain rfl) rfl (q_len_vec rfl rfl sl24) ?_
          refine SOps.q rfl (.plain rfl) rfl (q_gtr rfl rfl rfl) ?_
          refine SOps.q rfl (.plain rfl) rfl (q_move rfl rfl) ?_
          refine SOps.skip rfl 7 20 false rfl rfl (.inl (gT g17)) rfl ?_
          refine SOps.skip rfl 7 20 false rfl rfl (.inl (gT g17)) rfl ?_
          refine SOps.skip rfl 7 20 false rfl rfl (.inl (gT g17)) rfl ?_
          refine SOps.skip rfl 7 20 false rfl rfl (.inl (gT g17)) rfl ?_
          refine SOps.skip rfl 7 20 false rfl rfl (.inl (gT g17)) rfl ?_
          refine SOps.skip rfl 7 20 false rfl rfl (.inl (gT g17)) rfl ?_
          refine SOps.skip rfl 7 20 false rfl rfl (.inl (gT g17)) rfl ?_
          refine SOps.q rfl (.plain rfl) rfl (q_pick_t rfl rfl g17 rfl) ?_
          refine SOps.sub (st' := ⟨[(0, .c (.vec a0_l.length 11 (gL cSProfile dSProfile a0_l))), (3, .c (.int .i64 i_8)), (28, .c (.bool true))], []⟩) (sub_gen [] rfl rfl ⟨zc rfl rfl, zc rfl rfl, zc rfl rfl, trivial⟩ trivial) ?_
          refine SOps.nil ?_
          refine SCode.cond_t rfl rfl ?_
          refine SCode.seq ?_
          refine SCode.region (show SOps _ _ _ [0] _ _ from ?_)
          refine SOps.q rfl (.plain rfl) rfl (q_assign rfl rfl) ?_
          refine SOps.sub (st' := ⟨[(2, .c (.bool false))], []⟩) (sub_gen [] rfl rfl ⟨zc rfl rfl, trivial⟩ trivial) ?_
          refine SOps.nil ?_
          refine SCode.ret ?_
          obtain rfl := Option.some.inj h
          exact ⟨⟨[(2, .c (.bool false))], []⟩, _, sub_gen [] rfl rfl ⟨zc rfl rfl, trivial⟩ trivial, resA1 (v := .c (.bool false)) rfl rfl, rfl⟩
        obtain ⟨g18, h⟩ := guard_out h
        refine SCode.region (show SOps _ _ _ [0, 1, 2, 3, 4, 5, 6, 7, 8, 9, 10, 11, 12, 13, 14, 15] _ _ from ?_)
        refine SOps.q rfl (.plain rfl) rfl (q_move rfl rfl) ?_
        refine SOps.q rfl (.plain rfl) rfl (q_move rfl rfl) ?_
        refine SOps.q rfl (.plain rfl) rfl (q_index_vec rfl rfl rfl sl31 rfl g16.1 g16.2) ?_
        refine SOps.q rfl (.plain rfl) rfl (q_field_eptr rfl rfl fd26_9 rfl) ?_
        refine SOps.q rfl (.plain rfl) rfl (q_load_eptr rfl rfl ty24) ?_
        refine SOps.q rfl (.plain rfl) rfl (q_len_vec rfl rfl sl24) ?_
        refine SOps.q rfl (.plain rfl) rfl (q_gtr rfl rfl rfl) ?_
        refine SOps.q rfl (.plain rfl) rfl (q_move rfl rfl) ?_
        refine SOps.q rfl (.guard 7 20 false rfl rfl (gF g17)) rfl (q_move rfl rfl) ?_
        refine SOps.q rfl (.guard 7 20 false rfl rfl (gF g17)) rfl (q_move rfl rfl) ?_
        refine SOps.q rfl (.guard 7 20 false rfl rfl (gF g17)) rfl (q_index_vec rfl rfl rfl sl31 rfl g18.1 g18.2) ?_
        refine SOps.q rfl (.guard 7 20 false rfl rfl (gF g17)) rfl (q_field_eptr rfl rfl fd26_5 rfl) ?_
        refine SOps.q rfl (.guard 7 20 false rfl rfl (gF g17)) rfl (q_load_eptr rfl rfl ty9) ?_
        refine SOps.q rfl (.guard 7 20 false rfl rfl (gF g17)) rfl (q_len_str rfl rfl un9) ?_
        refine SOps.q rfl (.guard 7 20 false rfl rfl (gF g17)) rfl (q_gtr rfl rfl rfl) ?_
        refine SOps.q rfl (.plain rfl) rfl (q_pick_f rfl rfl g17 rfl) ?_
        refine SOps.sub (st' := ⟨[(0, .c (.vec a0_l.length 11 (gL cSProfile dSProfile a0_l))), (3, .c (.int .i64 i_8)), (28, .c (.bool (decide (50 < (((a0_l.getD i_8.toNat dSProfile).Txn).size : Int)))))], []⟩) (sub_gen [] rfl rfl ⟨zc rfl rfl, zc rfl rfl, zc rfl rfl, trivial⟩ trivial) ?_
        refine SOps.nil ?_
        rcases cond_out h with ⟨g19, h⟩ | ⟨g19, h⟩
        · refine SCode.cond_t rfl g19 ?_
          refine SCode.seq ?_
          refine SCode.region (show SOps _ _ _ [0] _ _ from ?_)
          refine SOps.q rfl (.plain rfl) rfl (q_assign rfl rfl) ?_
          refine SOps.sub (st' := ⟨[(2, .c (.bool false))], []⟩) (sub_gen [] rfl rfl ⟨zc rfl rfl, trivial⟩ trivial) ?_
          refine SOps.nil ?_
          refine SCode.ret ?_
          obtain rfl := Option.some.inj h
          exact ⟨⟨[(2, .c (.bool false))], []⟩, _, sub_gen [] rfl rfl ⟨zc rfl rfl, trivial⟩ trivial, resA1 (v := .c (.bool false)) rfl rfl, rfl⟩
        refine SCode.cond_f rfl g19 ?_
        refine SCode.skip ?_
        refine SCode.region (show SOps _ _ _ [0, 1, 2] _ _ from ?_)
        refine SOps.q rfl (.plain rfl) rfl (q_move rfl rfl) ?_
        refine SOps.q rfl (.plain rfl) rfl (q_add rfl rfl rfl) ?_
        refine SOps.q rfl (.plain rfl) rfl (q_assign rfl rfl) ?_
        refine SOps.sub (st' := ⟨[(0, .c (.vec a0_l.length 11 (gL cSProfile dSProfile a0_l))), (3, .c (.int .i64 (IntKind.wrap .i64 (i_8 + 1))))], []⟩) (sub_gen [] rfl rfl ⟨zc rfl rfl, zc rfl rfl, trivial⟩ trivial) ?_
        refine SOps.nil ?_
        exact ⟨(n_14, IntKind.wrap .i64 (i_8 + 1)), h, Nat.lt_succ_self n_14, sub_gen [] rfl rfl ⟨zc rfl rfl, zc rfl rfl, trivial⟩ trivial⟩
      refine SCode.cond_f rfl g15 ?_
      refine SCode.exit ?_
      exact ⟨(), h, sub_gen [] rfl rfl trivial trivial⟩
  rintro ⟨⟩ h
  show SCode _ _ _ ⟨[], []⟩ _
  replace h : chargenetlaw15_few_p2 = some r := h
  unfold chargenetlaw15_few_p2 at h
  refine SCode.seq ?_
  refine SCode.region (show SOps _ _ _ [0] _ _ from ?_)
  refine SOps.q rfl (.plain rfl) rfl (q_assign rfl rfl) ?_
  refine SOps.sub (st' := ⟨[(2, .c (.bool true))], []⟩) (sub_gen [] rfl rfl ⟨zc rfl rfl, trivial⟩ trivial) ?_
  refine SOps.nil ?_
  refine SCode.ret ?_
  obtain rfl := Option.some.inj h
  exact ⟨⟨[(2, .c (.bool true))], []⟩, _, sub_gen [] rfl rfl ⟨zc rfl rfl, trivial⟩ trivial, resA1 (v := .c (.bool true)) rfl rfl, rfl⟩
end Go.Proofs.Ytldekibkmombdaa.W
