/- Written by a program of ours (wip/eng/gen.py): the functions compute their models. -/
import Derived.Test.YtjpooimkhkhgkaaFacts
import Derived.Test.YtjpooimkhkhgkaaV7x6
namespace Go.Proofs.Ytjpooimkhkhgkaa.W
open Go Go.Proofs Go.Proofs.Ytjpooimkhkhgkaa.E Go.Proofs.Ytjpooimkhkhgkaa.M
set_option linter.unusedVariables false
set_option maxRecDepth 100000 in
set_option maxHeartbeats 8000000 in
theorem profile_Next_ok (F : Nat) (a0_p : SProfile) (a1_start : Int) (a2_t : Int) (r : Int) (h : profile_Next F a0_p a1_start a2_t = some r) :
    SFun Try.prog 43 [] [.a [.int .i64 a0_p.ID, .int .i64 a0_p.Level, .int .i64 a0_p.Purpose, .int .i64 a0_p.Kind, .int .i64 a0_p.Conn, .str a0_p.Txn, .int .i64 a0_p.Span_From, .int .i64 a0_p.Span_To, .int .i64 a0_p.Start, .int .i64 a0_p.Duration, .vec a0_p.Periods.length 2 (gL cSPeriod dSPeriod a0_p.Periods)], .c (.int .i64 a1_start), .c (.int .i64 a2_t)] (fun x _ => x = .c (.int .i64 r)) := by
  refine SFun.of (n := 66) Try.func43 rfl rfl rfl ?_
  unfold profile_Next at h
  show SCode _ _ _ ⟨[(0, .a [.int .i64 a0_p.ID, .int .i64 a0_p.Level, .int .i64 a0_p.Purpose, .int .i64 a0_p.Kind, .int .i64 a0_p.Conn, .str a0_p.Txn, .int .i64 a0_p.Span_From, .int .i64 a0_p.Span_To, .int .i64 a0_p.Start, .int .i64 a0_p.Duration, .vec a0_p.Periods.length 2 (gL cSPeriod dSPeriod a0_p.Periods)]), (1, .c (.int .i64 a1_start)), (2, .c (.int .i64 a2_t))], []⟩ _
  refine SCode.seq ?_
  refine SCode.region (show SOps _ _ _ [0, 1] _ _ from ?_)
  refine SOps.e rfl (.plain rfl) (e_box rfl rfl rfl rfl rfl rfl) ?_
  refine SOps.q rfl (.plain rfl) rfl (q_assign rfl rfl) ?_
  refine SOps.sub (st' := ⟨[(1, .c (.int .i64 a1_start)), (2, .c (.int .i64 a2_t)), (3, .c (.ptr 0 0))], [.box [.int .i64 a0_p.ID, .int .i64 a0_p.Level, .int .i64 a0_p.Purpose, .int .i64 a0_p.Kind, .int .i64 a0_p.Conn, .str a0_p.Txn, .int .i64 a0_p.Span_From, .int .i64 a0_p.Span_To, .int .i64 a0_p.Start, .int .i64 a0_p.Duration, .vec a0_p.Periods.length 2 (gL cSPeriod dSPeriod a0_p.Periods)]]⟩) (sub_gen [0] rfl rfl ⟨zc rfl rfl, zc rfl rfl, zc rfl rfl, trivial⟩ ⟨⟨_, rfl, ⟨ii rfl rfl, ii rfl rfl, ii rfl rfl, ii rfl rfl, ii rfl rfl, ii rfl rfl, ii rfl rfl, ii rfl rfl, ii rfl rfl, ii rfl rfl, ii rfl rfl, trivial⟩⟩, trivial⟩) ?_
  refine SOps.nil ?_
  refine SCode.seq ?_
  refine SCode.seq ?_
  rcases cond_out h with ⟨g1, h⟩ | ⟨g1, h⟩
  · refine SCode.region (show SOps _ _ _ [0, 1, 2, 3, 4, 5, 6, 7, 8, 9, 10, 11] _ _ from ?_)
    refine SOps.q rfl (.plain rfl) rfl (q_move rfl rfl) ?_
    refine SOps.q rfl (.plain rfl) rfl (q_lss rfl rfl rfl) ?_
    refine SOps.q rfl (.plain rfl) rfl (q_move rfl rfl) ?_
    refine SOps.skip rfl 2 15 false rfl rfl (.inl (gT g1)) rfl ?_
    refine SOps.skip rfl 2 15 false rfl rfl (.inl (gT g1)) rfl ?_
    refine SOps.q rfl (.plain rfl) rfl (q_pick_t rfl rfl g1 rfl) ?_
    refine SOps.q rfl (.plain rfl) rfl (q_move rfl rfl) ?_
    refine SOps.skip rfl 6 19 false rfl rfl (.inl rfl) rfl ?_
    refine SOps.skip rfl 6 19 false rfl rfl (.inl rfl) rfl ?_
    refine SOps.skip rfl 6 19 false rfl rfl (.inl rfl) rfl ?_
    refine SOps.skip rfl 6 19 false rfl rfl (.inl rfl) rfl ?_
    refine SOps.q rfl (.plain rfl) rfl (q_pick_t rfl rfl rfl rfl) ?_
    refine SOps.sub (st' := ⟨[(1, .c (.int .i64 a1_start)), (2, .c (.int .i64 a2_t)), (3, .c (.ptr 0 0)), (24, .c (.bool true))], [.box [.int .i64 a0_p.ID, .int .i64 a0_p.Level, .int .i64 a0_p.Purpose, .int .i64 a0_p.Kind, .int .i64 a0_p.Conn, .str a0_p.Txn, .int .i64 a0_p.Span_From, .int .i64 a0_p.Span_To, .int .i64 a0_p.Start, .int .i64 a0_p.Duration, .vec a0_p.Periods.length 2 (gL cSPeriod dSPeriod a0_p.Periods)]]⟩) (sub_gen [0] rfl rfl ⟨zc rfl rfl, zc rfl rfl, zc rfl rfl, zc rfl rfl, trivial⟩ ⟨⟨_, rfl, ⟨ii rfl rfl, ii rfl rfl, ii rfl rfl, ii rfl rfl, ii rfl rfl, ii rfl rfl, ii rfl rfl, ii rfl rfl, ii rfl rfl, ii rfl rfl, ii rfl rfl, trivial⟩⟩, trivial⟩) ?_
    refine SOps.nil ?_
    refine SCode.cond_t rfl rfl ?_
    refine SCode.seq ?_
    refine SCode.region (show SOps _ _ _ [0] _ _ from ?_)
    refine SOps.q rfl (.plain rfl) rfl (q_assign rfl rfl) ?_
    refine SOps.sub (st' := ⟨[(6, .c (.int .i64 ((-1))))], []⟩) (sub_gen [] rfl rfl ⟨zc rfl rfl, trivial⟩ trivial) ?_
    refine SOps.nil ?_
    refine SCode.ret ?_
    obtain rfl := Option.some.inj h
    exact ⟨⟨[(6, .c (.int .i64 ((-1))))], []⟩, _, sub_gen [] rfl rfl ⟨zc rfl rfl, trivial⟩ trivial, resA1 (v := .c (.int .i64 ((-1)))) rfl rfl, rfl⟩
  rcases cond_out h with ⟨g2, h⟩ | ⟨g2, h⟩
  · refine SCode.region (show SOps _ _ _ [0, 1, 2, 3, 4, 5, 6, 7, 8, 9, 10, 11] _ _ from ?_)
    refine SOps.q rfl (.plain rfl) rfl (q_move rfl rfl) ?_
    refine SOps.q rfl (.plain rfl) rfl (q_lss rfl rfl rfl) ?_
    refine SOps.q rfl (.plain rfl) rfl (q_move rfl rfl) ?_
    refine SOps.q rfl (.guard 2 15 false rfl rfl (gF g1)) rfl (q_move rfl rfl) ?_
    refine SOps.q rfl (.guard 2 15 false rfl rfl (gF g1)) rfl (q_gtr rfl rfl rfl) ?_
    refine SOps.q rfl (.plain rfl) rfl (q_pick_f rfl rfl g1 rfl) ?_
    refine SOps.q rfl (.plain rfl) rfl (q_move rfl rfl) ?_
    refine SOps.skip rfl 6 19 false rfl rfl (.inl (gT g2)) rfl ?_
    refine SOps.skip rfl 6 19 false rfl rfl (.inl (gT g2)) rfl ?_
    refine SOps.skip rfl 6 19 false rfl rfl (.inl (gT g2)) rfl ?_
    refine SOps.skip rfl 6 19 false rfl rfl (.inl (gT g2)) rfl ?_
    refine SOps.q rfl (.plain rfl) rfl (q_pick_t rfl rfl g2 rfl) ?_
    refine SOps.sub (st' := ⟨[(1, .c (.int .i64 a1_start)), (2, .c (.int .i64 a2_t)), (3, .c (.ptr 0 0)), (24, .c (.bool true))], [.box [.int .i64 a0_p.ID, .int .i64 a0_p.Level, .int .i64 a0_p.Purpose, .int .i64 a0_p.Kind, .int .i64 a0_p.Conn, .str a0_p.Txn, .int .i64 a0_p.Span_From, .int .i64 a0_p.Span_To, .int .i64 a0_p.Start, .int .i64 a0_p.Duration, .vec a0_p.Periods.length 2 (gL cSPeriod dSPeriod a0_p.Periods)]]⟩) (sub_gen [0] rfl rfl ⟨zc rfl rfl, zc rfl rfl, zc rfl rfl, zc rfl rfl, trivial⟩ ⟨⟨_, rfl, ⟨ii rfl rfl, ii rfl rfl, ii rfl rfl, ii rfl rfl, ii rfl rfl, ii rfl rfl, ii rfl rfl, ii rfl rfl, ii rfl rfl, ii rfl rfl, ii rfl rfl, trivial⟩⟩, trivial⟩) ?_
    refine SOps.nil ?_
    refine SCode.cond_t rfl rfl ?_
    refine SCode.seq ?_
    refine SCode.region (show SOps _ _ _ [0] _ _ from ?_)
    refine SOps.q rfl (.plain rfl) rfl (q_assign rfl rfl) ?_
    refine SOps.sub (st' := ⟨[(6, .c (.int .i64 ((-1))))], []⟩) (sub_gen [] rfl rfl ⟨zc rfl rfl, trivial⟩ trivial) ?_
    refine SOps.nil ?_
    refine SCode.ret ?_
    obtain rfl := Option.some.inj h
    exact ⟨⟨[(6, .c (.int .i64 ((-1))))], []⟩, _, sub_gen [] rfl rfl ⟨zc rfl rfl, trivial⟩ trivial, resA1 (v := .c (.int .i64 ((-1)))) rfl rfl, rfl⟩
  refine SCode.region (show SOps _ _ _ [0, 1, 2, 3, 4, 5, 6, 7, 8, 9, 10, 11] _ _ from ?_)
  refine SOps.q rfl (.plain rfl) rfl (q_move rfl rfl) ?_
  refine SOps.q rfl (.plain rfl) rfl (q_lss rfl rfl rfl) ?_
  refine SOps.q rfl (.plain rfl) rfl (q_move rfl rfl) ?_
  refine SOps.q rfl (.guard 2 15 false rfl rfl (gF g1)) rfl (q_move rfl rfl) ?_
  refine SOps.q rfl (.guard 2 15 false rfl rfl (gF g1)) rfl (q_gtr rfl rfl rfl) ?_
  refine SOps.q rfl (.plain rfl) rfl (q_pick_f rfl rfl g1 rfl) ?_
  refine SOps.q rfl (.plain rfl) rfl (q_move rfl rfl) ?_
  refine SOps.q rfl (.guard 6 19 false rfl rfl (gF g2)) rfl (q_field_ptr rfl rfl fd31_9) ?_
  refine SOps.q rfl (.guard 6 19 false rfl rfl (gF g2)) rfl (q_load_ptr rfl rfl rfl rfl ty29) ?_
  refine SOps.q rfl (.guard 6 19 false rfl rfl (gF g2)) rfl (q_len_vec rfl rfl sl29) ?_
  refine SOps.q rfl (.guard 6 19 false rfl rfl (gF g2)) rfl (q_gtr rfl rfl rfl) ?_
  refine SOps.q rfl (.plain rfl) rfl (q_pick_f rfl rfl g2 rfl) ?_
  refine SOps.sub (st' := ⟨[(1, .c (.int .i64 a1_start)), (2, .c (.int .i64 a2_t)), (3, .c (.ptr 0 0)), (24, .c (.bool (decide (24 < ((a0_p.Periods).length : Int)))))], [.box [.int .i64 a0_p.ID, .int .i64 a0_p.Level, .int .i64 a0_p.Purpose, .int .i64 a0_p.Kind, .int .i64 a0_p.Conn, .str a0_p.Txn, .int .i64 a0_p.Span_From, .int .i64 a0_p.Span_To, .int .i64 a0_p.Start, .int .i64 a0_p.Duration, .vec a0_p.Periods.length 2 (gL cSPeriod dSPeriod a0_p.Periods)]]⟩) (sub_gen [0] rfl rfl ⟨zc rfl rfl, zc rfl rfl, zc rfl rfl, zc rfl rfl, trivial⟩ ⟨⟨_, rfl, ⟨ii rfl rfl, ii rfl rfl, ii rfl rfl, ii rfl rfl, ii rfl rfl, ii rfl rfl, ii rfl rfl, ii rfl rfl, ii rfl rfl, ii rfl rfl, ii rfl rfl, trivial⟩⟩, trivial⟩) ?_
  refine SOps.nil ?_
  rcases cond_out h with ⟨g3, h⟩ | ⟨g3, h⟩
  · refine SCode.cond_t rfl g3 ?_
    refine SCode.seq ?_
    refine SCode.region (show SOps _ _ _ [0] _ _ from ?_)
    refine SOps.q rfl (.plain rfl) rfl (q_assign rfl rfl) ?_
    refine SOps.sub (st' := ⟨[(6, .c (.int .i64 ((-1))))], []⟩) (sub_gen [] rfl rfl ⟨zc rfl rfl, trivial⟩ trivial) ?_
    refine SOps.nil ?_
    refine SCode.ret ?_
    obtain rfl := Option.some.inj h
    exact ⟨⟨[(6, .c (.int .i64 ((-1))))], []⟩, _, sub_gen [] rfl rfl ⟨zc rfl rfl, trivial⟩ trivial, resA1 (v := .c (.int .i64 ((-1)))) rfl rfl, rfl⟩
  refine SCode.cond_f rfl g3 ?_
  refine SCode.skip ?_
  refine SCode.join (σ := Unit) (S := fun s => ⟨[], []⟩) (g := fun s => profile_Next_p4 = some r) ?_ ?_
  rotate_left
  · refine SCode.seq ?_
    obtain ⟨c_5, g6, h⟩ := bind_out h
    try dsimp only at h
    refine SCode.region (show SOps _ _ _ [0, 1, 2, 3, 4, 5] _ _ from ?_)
    refine SOps.q rfl (.plain rfl) rfl (q_load_ptr_all rfl rfl rfl rfl rfl ty31) ?_
    refine SOps.q rfl (.plain rfl) rfl (q_move rfl rfl) ?_
    refine SOps.q rfl (.plain rfl) rfl (q_move rfl rfl) ?_
    refine SOps.q rfl (.plain rfl) rfl (q_call (profile_changes_ok F a0_p a1_start a2_t c_5 g6) [] rfl fn47 ⟨⟨rfl, rfl⟩, ⟨_, rfl, .inl ⟨rfl, rfl⟩⟩, ⟨_, rfl, .inl ⟨rfl, rfl⟩⟩, trivial⟩ (.inl rfl)) ?_
    refine SOps.q rfl (.plain rfl) rfl (q_len_vec rfl rfl sl69) ?_
    refine SOps.q rfl (.plain rfl) rfl (q_move rfl rfl) ?_
    refine SOps.sub (st' := ⟨[(1, .c (.int .i64 a1_start)), (2, .c (.int .i64 a2_t)), (3, .c (.ptr 0 0)), (28, .c (.vec c_5.length 1 (gL (cInt .i64) 0 c_5))), (29, .c (.int .i64 (((c_5).length : Int)))), (30, .c (.int .i64 0))], [.box [.int .i64 a0_p.ID, .int .i64 a0_p.Level, .int .i64 a0_p.Purpose, .int .i64 a0_p.Kind, .int .i64 a0_p.Conn, .str a0_p.Txn, .int .i64 a0_p.Span_From, .int .i64 a0_p.Span_To, .int .i64 a0_p.Start, .int .i64 a0_p.Duration, .vec a0_p.Periods.length 2 (gL cSPeriod dSPeriod a0_p.Periods)]]⟩) (sub_gen [0] rfl rfl ⟨zc rfl rfl, zc rfl rfl, zc rfl rfl, zc rfl rfl, zc rfl rfl, zc rfl rfl, trivial⟩ ⟨⟨_, rfl, ⟨ii rfl rfl, ii rfl rfl, ii rfl rfl, ii rfl rfl, ii rfl rfl, ii rfl rfl, ii rfl rfl, ii rfl rfl, ii rfl rfl, ii rfl rfl, ii rfl rfl, trivial⟩⟩, trivial⟩) ?_
    refine SOps.nil ?_
    refine SCode.block ?_
    refine SCode.sub (st' := ⟨[(1, .c (.int .i64 a1_start)), (2, .c (.int .i64 a2_t)), (3, .c (.ptr 0 0)), (28, .c (.vec c_5.length 1 (gL (cInt .i64) 0 c_5))), (29, .c (.int .i64 (((c_5).length : Int)))), (30, .c (.int .i64 0))], [.box [.int .i64 a0_p.ID, .int .i64 a0_p.Level, .int .i64 a0_p.Purpose, .int .i64 a0_p.Kind, .int .i64 a0_p.Conn, .str a0_p.Txn, .int .i64 a0_p.Span_From, .int .i64 a0_p.Span_To, .int .i64 a0_p.Start, .int .i64 a0_p.Duration, .vec a0_p.Periods.length 2 (gL cSPeriod dSPeriod a0_p.Periods)]]⟩) (sub_gen [0] rfl rfl ⟨zc rfl rfl, zc rfl rfl, zc rfl rfl, zc rfl rfl, zc rfl rfl, zc rfl rfl, trivial⟩ ⟨⟨_, rfl, ⟨ii rfl rfl, ii rfl rfl, ii rfl rfl, ii rfl rfl, ii rfl rfl, ii rfl rfl, ii rfl rfl, ii rfl rfl, ii rfl rfl, ii rfl rfl, ii rfl rfl, trivial⟩⟩, trivial⟩) ?_
    refine (SCode.loop (σ := Nat × Int) (S := fun s => ⟨[(1, .c (.int .i64 a1_start)), (2, .c (.int .i64 a2_t)), (3, .c (.ptr 0 0)), (28, .c (.vec c_5.length 1 (gL (cInt .i64) 0 c_5))), (29, .c (.int .i64 (((c_5).length : Int)))), (30, .c (.int .i64 s.2))], [.box [.int .i64 a0_p.ID, .int .i64 a0_p.Level, .int .i64 a0_p.Purpose, .int .i64 a0_p.Kind, .int .i64 a0_p.Conn, .str a0_p.Txn, .int .i64 a0_p.Span_From, .int .i64 a0_p.Span_To, .int .i64 a0_p.Start, .int .i64 a0_p.Duration, .vec a0_p.Periods.length 2 (gL cSPeriod dSPeriod a0_p.Periods)]]⟩) (g := fun s => profile_Next_l30 F a0_p a1_start a2_t c_5 s.1 s.2 = some r) (μ := fun s => s.1) (F, 0) h ?_)
    rintro ⟨n_30, t30_18⟩ h
    replace h : profile_Next_l30 F a0_p a1_start a2_t c_5 n_30 t30_18 = some r := h
    show SCode _ _ _ ⟨[(1, .c (.int .i64 a1_start)), (2, .c (.int .i64 a2_t)), (3, .c (.ptr 0 0)), (28, .c (.vec c_5.length 1 (gL (cInt .i64) 0 c_5))), (29, .c (.int .i64 (((c_5).length : Int)))), (30, .c (.int .i64 t30_18))], [.box [.int .i64 a0_p.ID, .int .i64 a0_p.Level, .int .i64 a0_p.Purpose, .int .i64 a0_p.Kind, .int .i64 a0_p.Conn, .str a0_p.Txn, .int .i64 a0_p.Span_From, .int .i64 a0_p.Span_To, .int .i64 a0_p.Start, .int .i64 a0_p.Duration, .vec a0_p.Periods.length 2 (gL cSPeriod dSPeriod a0_p.Periods)]]⟩ _
    cases n_30 with
    | zero => cases h
    | succ n_30 =>
      replace h : profile_Next_b30 F a0_p a1_start a2_t c_5 (fun t30_18 => profile_Next_l30 F a0_p a1_start a2_t c_5 n_30 t30_18) t30_18 = some r := h
      unfold profile_Next_b30 at h
      refine SCode.seq ?_
      refine SCode.region (show SOps _ _ _ [0] _ _ from ?_)
      refine SOps.q rfl (.plain rfl) rfl (q_lss rfl rfl rfl) ?_
      refine SOps.sub (st' := ⟨[(1, .c (.int .i64 a1_start)), (2, .c (.int .i64 a2_t)), (3, .c (.ptr 0 0)), (28, .c (.vec c_5.length 1 (gL (cInt .i64) 0 c_5))), (29, .c (.int .i64 (((c_5).length : Int)))), (30, .c (.int .i64 t30_18)), (31, .c (.bool (decide (t30_18 < ((c_5).length : Int)))))], [.box [.int .i64 a0_p.ID, .int .i64 a0_p.Level, .int .i64 a0_p.Purpose, .int .i64 a0_p.Kind, .int .i64 a0_p.Conn, .str a0_p.Txn, .int .i64 a0_p.Span_From, .int .i64 a0_p.Span_To, .int .i64 a0_p.Start, .int .i64 a0_p.Duration, .vec a0_p.Periods.length 2 (gL cSPeriod dSPeriod a0_p.Periods)]]⟩) (sub_gen [0] rfl rfl ⟨zc rfl rfl, zc rfl rfl, zc rfl rfl, zc rfl rfl, zc rfl rfl, zc rfl rfl, zc rfl rfl, trivial⟩ ⟨⟨_, rfl, ⟨ii rfl rfl, ii rfl rfl, ii rfl rfl, ii rfl rfl, ii rfl rfl, ii rfl rfl, ii rfl rfl, ii rfl rfl, ii rfl rfl, ii rfl rfl, ii rfl rfl, trivial⟩⟩, trivial⟩) ?_
      refine SOps.nil ?_
      refine SCode.seq ?_
      rcases cond_out h with ⟨g31, h⟩ | ⟨g31, h⟩
      · refine SCode.cond_t rfl g31 ?_
        refine SCode.skip ?_
        refine SCode.join (σ := Unit) (S := fun s => ⟨[(1, .c (.int .i64 a1_start)), (2, .c (.int .i64 a2_t)), (3, .c (.ptr 0 0)), (28, .c (.vec c_5.length 1 (gL (cInt .i64) 0 c_5))), (29, .c (.int .i64 (((c_5).length : Int)))), (30, .c (.int .i64 t30_18))], [.box [.int .i64 a0_p.ID, .int .i64 a0_p.Level, .int .i64 a0_p.Purpose, .int .i64 a0_p.Kind, .int .i64 a0_p.Conn, .str a0_p.Txn, .int .i64 a0_p.Span_From, .int .i64 a0_p.Span_To, .int .i64 a0_p.Start, .int .i64 a0_p.Duration, .vec a0_p.Periods.length 2 (gL cSPeriod dSPeriod a0_p.Periods)]]⟩) (g := fun s => profile_Next_p32 t30_18 (fun t30_18 => profile_Next_l30 F a0_p a1_start a2_t c_5 n_30 t30_18) = some r) ?_ ?_
        rotate_left
        · refine SCode.block ?_
          refine SCode.seq ?_
          obtain ⟨g33, h⟩ := guard_out h
          refine SCode.region (show SOps _ _ _ [0, 1, 2] _ _ from ?_)
          refine SOps.q rfl (.plain rfl) rfl (q_index_vec rfl rfl rfl sl69 rfl g33.1 g33.2) ?_
          refine SOps.q rfl (.plain rfl) rfl (q_load_eptr rfl rfl ty3) ?_
          refine SOps.q rfl (.plain rfl) rfl (q_assign rfl rfl) ?_
          refine SOps.sub (st' := ⟨[(1, .c (.int .i64 a1_start)), (2, .c (.int .i64 a2_t)), (3, .c (.ptr 0 0)), (8, .c (.int .i64 (c_5.getD t30_18.toNat 0))), (28, .c (.vec c_5.length 1 (gL (cInt .i64) 0 c_5))), (29, .c (.int .i64 (((c_5).length : Int)))), (30, .c (.int .i64 t30_18))], [.box [.int .i64 a0_p.ID, .int .i64 a0_p.Level, .int .i64 a0_p.Purpose, .int .i64 a0_p.Kind, .int .i64 a0_p.Conn, .str a0_p.Txn, .int .i64 a0_p.Span_From, .int .i64 a0_p.Span_To, .int .i64 a0_p.Start, .int .i64 a0_p.Duration, .vec a0_p.Periods.length 2 (gL cSPeriod dSPeriod a0_p.Periods)]]⟩) (sub_gen [0] rfl rfl ⟨zc rfl rfl, zc rfl rfl, zc rfl rfl, zc rfl rfl, zc rfl rfl, zc rfl rfl, zc rfl rfl, trivial⟩ ⟨⟨_, rfl, ⟨ii rfl rfl, ii rfl rfl, ii rfl rfl, ii rfl rfl, ii rfl rfl, ii rfl rfl, ii rfl rfl, ii rfl rfl, ii rfl rfl, ii rfl rfl, ii rfl rfl, trivial⟩⟩, trivial⟩) ?_
          refine SOps.nil ?_
          refine SCode.seq ?_
          refine SCode.seq ?_
          rcases cond_out h with ⟨g34, h⟩ | ⟨g34, h⟩
          · refine SCode.region (show SOps _ _ _ [0, 1, 2, 3, 4, 5, 6] _ _ from ?_)
            refine SOps.q rfl (.plain rfl) rfl (q_move rfl rfl) ?_
            refine SOps.q rfl (.plain rfl) rfl (q_move rfl rfl) ?_
            refine SOps.q rfl (.plain rfl) rfl (q_leq rfl rfl rfl) ?_
            refine SOps.q rfl (.plain rfl) rfl (q_move rfl rfl) ?_
            refine SOps.skip rfl 3 37 false rfl rfl (.inl (gT g34)) rfl ?_
            refine SOps.skip rfl 3 37 false rfl rfl (.inl (gT g34)) rfl ?_
            refine SOps.q rfl (.plain rfl) rfl (q_pick_t rfl rfl g34 rfl) ?_
            refine SOps.sub (st' := ⟨[(1, .c (.int .i64 a1_start)), (2, .c (.int .i64 a2_t)), (3, .c (.ptr 0 0)), (8, .c (.int .i64 (c_5.getD t30_18.toNat 0))), (28, .c (.vec c_5.length 1 (gL (cInt .i64) 0 c_5))), (29, .c (.int .i64 (((c_5).length : Int)))), (30, .c (.int .i64 t30_18)), (40, .c (.bool true))], [.box [.int .i64 a0_p.ID, .int .i64 a0_p.Level, .int .i64 a0_p.Purpose, .int .i64 a0_p.Kind, .int .i64 a0_p.Conn, .str a0_p.Txn, .int .i64 a0_p.Span_From, .int .i64 a0_p.Span_To, .int .i64 a0_p.Start, .int .i64 a0_p.Duration, .vec a0_p.Periods.length 2 (gL cSPeriod dSPeriod a0_p.Periods)]]⟩) (sub_gen [0] rfl rfl ⟨zc rfl rfl, zc rfl rfl, zc rfl rfl, zc rfl rfl, zc rfl rfl, zc rfl rfl, zc rfl rfl, zc rfl rfl, trivial⟩ ⟨⟨_, rfl, ⟨ii rfl rfl, ii rfl rfl, ii rfl rfl, ii rfl rfl, ii rfl rfl, ii rfl rfl, ii rfl rfl, ii rfl rfl, ii rfl rfl, ii rfl rfl, ii rfl rfl, trivial⟩⟩, trivial⟩) ?_
            refine SOps.nil ?_
            refine SCode.cond_t rfl rfl ?_
            refine SCode.exit ?_
            exact ⟨(), h, sub_gen [0] rfl rfl ⟨zc rfl rfl, zc rfl rfl, zc rfl rfl, zc rfl rfl, zc rfl rfl, zc rfl rfl, trivial⟩ ⟨⟨_, rfl, ⟨ii rfl rfl, ii rfl rfl, ii rfl rfl, ii rfl rfl, ii rfl rfl, ii rfl rfl, ii rfl rfl, ii rfl rfl, ii rfl rfl, ii rfl rfl, ii rfl rfl, trivial⟩⟩, trivial⟩⟩
          refine SCode.region (show SOps _ _ _ [0, 1, 2, 3, 4, 5, 6] _ _ from ?_)
          refine SOps.q rfl (.plain rfl) rfl (q_move rfl rfl) ?_
          refine SOps.q rfl (.plain rfl) rfl (q_move rfl rfl) ?_
          refine SOps.q rfl (.plain rfl) rfl (q_leq rfl rfl rfl) ?_
          refine SOps.q rfl (.plain rfl) rfl (q_move rfl rfl) ?_
          refine SOps.q rfl (.guard 3 37 false rfl rfl (gF g34)) rfl (q_move rfl rfl) ?_
          refine SOps.q rfl (.guard 3 37 false rfl rfl (gF g34)) rfl (q_gtr rfl rfl rfl) ?_
          refine SOps.q rfl (.plain rfl) rfl (q_pick_f rfl rfl g34 rfl) ?_
          refine SOps.sub (st' := ⟨[(1, .c (.int .i64 a1_start)), (2, .c (.int .i64 a2_t)), (3, .c (.ptr 0 0)), (8, .c (.int .i64 (c_5.getD t30_18.toNat 0))), (28, .c (.vec c_5.length 1 (gL (cInt .i64) 0 c_5))), (29, .c (.int .i64 (((c_5).length : Int)))), (30, .c (.int .i64 t30_18)), (40, .c (.bool (decide (268435456 < c_5.getD t30_18.toNat 0))))], [.box [.int .i64 a0_p.ID, .int .i64 a0_p.Level, .int .i64 a0_p.Purpose, .int .i64 a0_p.Kind, .int .i64 a0_p.Conn, .str a0_p.Txn, .int .i64 a0_p.Span_From, .int .i64 a0_p.Span_To, .int .i64 a0_p.Start, .int .i64 a0_p.Duration, .vec a0_p.Periods.length 2 (gL cSPeriod dSPeriod a0_p.Periods)]]⟩) (sub_gen [0] rfl rfl ⟨zc rfl rfl, zc rfl rfl, zc rfl rfl, zc rfl rfl, zc rfl rfl, zc rfl rfl, zc rfl rfl, zc rfl rfl, trivial⟩ ⟨⟨_, rfl, ⟨ii rfl rfl, ii rfl rfl, ii rfl rfl, ii rfl rfl, ii rfl rfl, ii rfl rfl, ii rfl rfl, ii rfl rfl, ii rfl rfl, ii rfl rfl, ii rfl rfl, trivial⟩⟩, trivial⟩) ?_
          refine SOps.nil ?_
          rcases cond_out h with ⟨g35, h⟩ | ⟨g35, h⟩
          · refine SCode.cond_t rfl g35 ?_
            refine SCode.exit ?_
            exact ⟨(), h, sub_gen [0] rfl rfl ⟨zc rfl rfl, zc rfl rfl, zc rfl rfl, zc rfl rfl, zc rfl rfl, zc rfl rfl, trivial⟩ ⟨⟨_, rfl, ⟨ii rfl rfl, ii rfl rfl, ii rfl rfl, ii rfl rfl, ii rfl rfl, ii rfl rfl, ii rfl rfl, ii rfl rfl, ii rfl rfl, ii rfl rfl, ii rfl rfl, trivial⟩⟩, trivial⟩⟩
          refine SCode.cond_f rfl g35 ?_
          refine SCode.skip ?_
          refine SCode.seq ?_
          obtain ⟨c_36, g37, h⟩ := bind_out h
          try dsimp only at h
          refine SCode.region (show SOps _ _ _ [0, 1, 2, 3, 4, 5, 6, 7, 8, 9] _ _ from ?_)
          refine SOps.q rfl (.plain rfl) rfl (q_load_ptr_all rfl rfl rfl rfl rfl ty31) ?_
          refine SOps.q rfl (.plain rfl) rfl (q_move rfl rfl) ?_
          refine SOps.q rfl (.plain rfl) rfl (q_move rfl rfl) ?_
          refine SOps.q rfl (.plain rfl) rfl (q_sub rfl rfl rfl) ?_
          refine SOps.q rfl (.plain rfl) rfl (q_call (profile_Limit_ok F a0_p a1_start (IntKind.wrap .i64 (c_5.getD t30_18.toNat 0 - 1)) c_36 g37) [] rfl fn35 ⟨⟨rfl, rfl⟩, ⟨_, rfl, .inl ⟨rfl, rfl⟩⟩, ⟨_, rfl, .inl ⟨rfl, rfl⟩⟩, trivial⟩ (.inl rfl)) ?_
          refine SOps.q rfl (.plain rfl) rfl (q_move rfl rfl) ?_
          refine SOps.q rfl (.plain rfl) rfl (q_extract rfl rfl rfl) ?_
          refine SOps.q rfl (.plain rfl) rfl (q_extract rfl rfl rfl) ?_
          refine SOps.q rfl (.plain rfl) rfl (q_assign rfl rfl) ?_
          refine SOps.q rfl (.plain rfl) rfl (q_assign rfl rfl) ?_
          refine SOps.sub (st' := ⟨[(1, .c (.int .i64 a1_start)), (2, .c (.int .i64 a2_t)), (3, .c (.ptr 0 0)), (8, .c (.int .i64 (c_5.getD t30_18.toNat 0))), (9, .c (.int .i64 c_36.1)), (10, .c (.bool c_36.2)), (28, .c (.vec c_5.length 1 (gL (cInt .i64) 0 c_5))), (29, .c (.int .i64 (((c_5).length : Int)))), (30, .c (.int .i64 t30_18))], [.box [.int .i64 a0_p.ID, .int .i64 a0_p.Level, .int .i64 a0_p.Purpose, .int .i64 a0_p.Kind, .int .i64 a0_p.Conn, .str a0_p.Txn, .int .i64 a0_p.Span_From, .int .i64 a0_p.Span_To, .int .i64 a0_p.Start, .int .i64 a0_p.Duration, .vec a0_p.Periods.length 2 (gL cSPeriod dSPeriod a0_p.Periods)]]⟩) (sub_gen [0] rfl rfl ⟨zc rfl rfl, zc rfl rfl, zc rfl rfl, zc rfl rfl, zc rfl rfl, zc rfl rfl, zc rfl rfl, zc rfl rfl, zc rfl rfl, trivial⟩ ⟨⟨_, rfl, ⟨ii rfl rfl, ii rfl rfl, ii rfl rfl, ii rfl rfl, ii rfl rfl, ii rfl rfl, ii rfl rfl, ii rfl rfl, ii rfl rfl, ii rfl rfl, ii rfl rfl, trivial⟩⟩, trivial⟩) ?_
          refine SOps.nil ?_
          refine SCode.seq ?_
          obtain ⟨c_38, g39, h⟩ := bind_out h
          try dsimp only at h
          refine SCode.region (show SOps _ _ _ [0, 1, 2, 3, 4, 5, 6, 7, 8] _ _ from ?_)
          refine SOps.q rfl (.plain rfl) rfl (q_load_ptr_all rfl rfl rfl rfl rfl ty31) ?_
          refine SOps.q rfl (.plain rfl) rfl (q_move rfl rfl) ?_
          refine SOps.q rfl (.plain rfl) rfl (q_move rfl rfl) ?_
          refine SOps.q rfl (.plain rfl) rfl (q_call (profile_Limit_ok F a0_p a1_start (c_5.getD t30_18.toNat 0) c_38 g39) [] rfl fn35 ⟨⟨rfl, rfl⟩, ⟨_, rfl, .inl ⟨rfl, rfl⟩⟩, ⟨_, rfl, .inl ⟨rfl, rfl⟩⟩, trivial⟩ (.inl rfl)) ?_
          refine SOps.q rfl (.plain rfl) rfl (q_move rfl rfl) ?_
          refine SOps.q rfl (.plain rfl) rfl (q_extract rfl rfl rfl) ?_
          refine SOps.q rfl (.plain rfl) rfl (q_extract rfl rfl rfl) ?_
          refine SOps.q rfl (.plain rfl) rfl (q_assign rfl rfl) ?_
          refine SOps.q rfl (.plain rfl) rfl (q_assign rfl rfl) ?_
          refine SOps.sub (st' := ⟨[(1, .c (.int .i64 a1_start)), (2, .c (.int .i64 a2_t)), (3, .c (.ptr 0 0)), (8, .c (.int .i64 (c_5.getD t30_18.toNat 0))), (9, .c (.int .i64 c_36.1)), (10, .c (.bool c_36.2)), (11, .c (.int .i64 c_38.1)), (12, .c (.bool c_38.2)), (28, .c (.vec c_5.length 1 (gL (cInt .i64) 0 c_5))), (29, .c (.int .i64 (((c_5).length : Int)))), (30, .c (.int .i64 t30_18))], [.box [.int .i64 a0_p.ID, .int .i64 a0_p.Level, .int .i64 a0_p.Purpose, .int .i64 a0_p.Kind, .int .i64 a0_p.Conn, .str a0_p.Txn, .int .i64 a0_p.Span_From, .int .i64 a0_p.Span_To, .int .i64 a0_p.Start, .int .i64 a0_p.Duration, .vec a0_p.Periods.length 2 (gL cSPeriod dSPeriod a0_p.Periods)]]⟩) (sub_gen [0] rfl rfl ⟨zc rfl rfl, zc rfl rfl, zc rfl rfl, zc rfl rfl, zc rfl rfl, zc rfl rfl, zc rfl rfl, zc rfl rfl, zc rfl rfl, zc rfl rfl, zc rfl rfl, trivial⟩ ⟨⟨_, rfl, ⟨ii rfl rfl, ii rfl rfl, ii rfl rfl, ii rfl rfl, ii rfl rfl, ii rfl rfl, ii rfl rfl, ii rfl rfl, ii rfl rfl, ii rfl rfl, ii rfl rfl, trivial⟩⟩, trivial⟩) ?_
          refine SOps.nil ?_
          refine SCode.seq ?_
          rcases cond_out h with ⟨g40, h⟩ | ⟨g40, h⟩
          · refine SCode.region (show SOps _ _ _ [0, 1, 2, 3, 4, 5, 6, 7] _ _ from ?_)
            refine SOps.q rfl (.plain rfl) rfl (q_move rfl rfl) ?_
            refine SOps.q rfl (.plain rfl) rfl (q_move rfl rfl) ?_
            refine SOps.q rfl (.plain rfl) rfl (q_neq rfl rfl rfl) ?_
            refine SOps.q rfl (.plain rfl) rfl (q_move rfl rfl) ?_
            refine SOps.skip rfl 3 59 false rfl rfl (.inl (gT g40)) rfl ?_
            refine SOps.skip rfl 3 59 false rfl rfl (.inl (gT g40)) rfl ?_
            refine SOps.skip rfl 3 59 false rfl rfl (.inl (gT g40)) rfl ?_
            refine SOps.q rfl (.plain rfl) rfl (q_pick_t rfl rfl g40 rfl) ?_
            refine SOps.sub (st' := ⟨[(1, .c (.int .i64 a1_start)), (2, .c (.int .i64 a2_t)), (3, .c (.ptr 0 0)), (8, .c (.int .i64 (c_5.getD t30_18.toNat 0))), (28, .c (.vec c_5.length 1 (gL (cInt .i64) 0 c_5))), (29, .c (.int .i64 (((c_5).length : Int)))), (30, .c (.int .i64 t30_18)), (63, .c (.bool true))], [.box [.int .i64 a0_p.ID, .int .i64 a0_p.Level, .int .i64 a0_p.Purpose, .int .i64 a0_p.Kind, .int .i64 a0_p.Conn, .str a0_p.Txn, .int .i64 a0_p.Span_From, .int .i64 a0_p.Span_To, .int .i64 a0_p.Start, .int .i64 a0_p.Duration, .vec a0_p.Periods.length 2 (gL cSPeriod dSPeriod a0_p.Periods)]]⟩) (sub_gen [0] rfl rfl ⟨zc rfl rfl, zc rfl rfl, zc rfl rfl, zc rfl rfl, zc rfl rfl, zc rfl rfl, zc rfl rfl, zc rfl rfl, trivial⟩ ⟨⟨_, rfl, ⟨ii rfl rfl, ii rfl rfl, ii rfl rfl, ii rfl rfl, ii rfl rfl, ii rfl rfl, ii rfl rfl, ii rfl rfl, ii rfl rfl, ii rfl rfl, ii rfl rfl, trivial⟩⟩, trivial⟩) ?_
            refine SOps.nil ?_
            refine SCode.cond_t rfl rfl ?_
            refine SCode.seq ?_
            refine SCode.region (show SOps _ _ _ [0, 1] _ _ from ?_)
            refine SOps.q rfl (.plain rfl) rfl (q_move rfl rfl) ?_
            refine SOps.q rfl (.plain rfl) rfl (q_assign rfl rfl) ?_
            refine SOps.sub (st' := ⟨[(6, .c (.int .i64 (c_5.getD t30_18.toNat 0)))], []⟩) (sub_gen [] rfl rfl ⟨zc rfl rfl, trivial⟩ trivial) ?_
            refine SOps.nil ?_
            refine SCode.ret ?_
            obtain rfl := Option.some.inj h
            exact ⟨⟨[(6, .c (.int .i64 (c_5.getD t30_18.toNat 0)))], []⟩, _, sub_gen [] rfl rfl ⟨zc rfl rfl, trivial⟩ trivial, resA1 (v := .c (.int .i64 (c_5.getD t30_18.toNat 0))) rfl rfl, rfl⟩
          refine SCode.region (show SOps _ _ _ [0, 1, 2, 3, 4, 5, 6, 7] _ _ from ?_)
          refine SOps.q rfl (.plain rfl) rfl (q_move rfl rfl) ?_
          refine SOps.q rfl (.plain rfl) rfl (q_move rfl rfl) ?_
          refine SOps.q rfl (.plain rfl) rfl (q_neq rfl rfl rfl) ?_
          refine SOps.q rfl (.plain rfl) rfl (q_move rfl rfl) ?_
          refine SOps.q rfl (.guard 3 59 false rfl rfl (gF g40)) rfl (q_move rfl rfl) ?_
          refine SOps.q rfl (.guard 3 59 false rfl rfl (gF g40)) rfl (q_move rfl rfl) ?_
          refine SOps.q rfl (.guard 3 59 false rfl rfl (gF g40)) rfl (q_neqB rfl rfl rfl un4) ?_
          refine SOps.q rfl (.plain rfl) rfl (q_pick_f rfl rfl g40 rfl) ?_
          refine SOps.sub (st' := ⟨[(1, .c (.int .i64 a1_start)), (2, .c (.int .i64 a2_t)), (3, .c (.ptr 0 0)), (8, .c (.int .i64 (c_5.getD t30_18.toNat 0))), (28, .c (.vec c_5.length 1 (gL (cInt .i64) 0 c_5))), (29, .c (.int .i64 (((c_5).length : Int)))), (30, .c (.int .i64 t30_18)), (63, .c (.bool ((!(c_36.2 == c_38.2)))))], [.box [.int .i64 a0_p.ID, .int .i64 a0_p.Level, .int .i64 a0_p.Purpose, .int .i64 a0_p.Kind, .int .i64 a0_p.Conn, .str a0_p.Txn, .int .i64 a0_p.Span_From, .int .i64 a0_p.Span_To, .int .i64 a0_p.Start, .int .i64 a0_p.Duration, .vec a0_p.Periods.length 2 (gL cSPeriod dSPeriod a0_p.Periods)]]⟩) (sub_gen [0] rfl rfl ⟨zc rfl rfl, zc rfl rfl, zc rfl rfl, zc rfl rfl, zc rfl rfl, zc rfl rfl, zc rfl rfl, zc rfl rfl, trivial⟩ ⟨⟨_, rfl, ⟨ii rfl rfl, ii rfl rfl, ii rfl rfl, ii rfl rfl, ii rfl rfl, ii rfl rfl, ii rfl rfl, ii rfl rfl, ii rfl rfl, ii rfl rfl, ii rfl rfl, trivial⟩⟩, trivial⟩) ?_
          refine SOps.nil ?_
          rcases cond_out h with ⟨g41, h⟩ | ⟨g41, h⟩
          · refine SCode.cond_t rfl g41 ?_
            refine SCode.seq ?_
            refine SCode.region (show SOps _ _ _ [0, 1] _ _ from ?_)
            refine SOps.q rfl (.plain rfl) rfl (q_move rfl rfl) ?_
            refine SOps.q rfl (.plain rfl) rfl (q_assign rfl rfl) ?_
            refine SOps.sub (st' := ⟨[(6, .c (.int .i64 (c_5.getD t30_18.toNat 0)))], []⟩) (sub_gen [] rfl rfl ⟨zc rfl rfl, trivial⟩ trivial) ?_
            refine SOps.nil ?_
            refine SCode.ret ?_
            obtain rfl := Option.some.inj h
            exact ⟨⟨[(6, .c (.int .i64 (c_5.getD t30_18.toNat 0)))], []⟩, _, sub_gen [] rfl rfl ⟨zc rfl rfl, trivial⟩ trivial, resA1 (v := .c (.int .i64 (c_5.getD t30_18.toNat 0))) rfl rfl, rfl⟩
          refine SCode.cond_f rfl g41 ?_
          refine SCode.skip ?_
          exact ⟨(), h, sub_gen [0] rfl rfl ⟨zc rfl rfl, zc rfl rfl, zc rfl rfl, zc rfl rfl, zc rfl rfl, zc rfl rfl, trivial⟩ ⟨⟨_, rfl, ⟨ii rfl rfl, ii rfl rfl, ii rfl rfl, ii rfl rfl, ii rfl rfl, ii rfl rfl, ii rfl rfl, ii rfl rfl, ii rfl rfl, ii rfl rfl, ii rfl rfl, trivial⟩⟩, trivial⟩⟩
        rintro ⟨⟩ h
        show SCode _ _ _ ⟨[(1, .c (.int .i64 a1_start)), (2, .c (.int .i64 a2_t)), (3, .c (.ptr 0 0)), (28, .c (.vec c_5.length 1 (gL (cInt .i64) 0 c_5))), (29, .c (.int .i64 (((c_5).length : Int)))), (30, .c (.int .i64 t30_18))], [.box [.int .i64 a0_p.ID, .int .i64 a0_p.Level, .int .i64 a0_p.Purpose, .int .i64 a0_p.Kind, .int .i64 a0_p.Conn, .str a0_p.Txn, .int .i64 a0_p.Span_From, .int .i64 a0_p.Span_To, .int .i64 a0_p.Start, .int .i64 a0_p.Duration, .vec a0_p.Periods.length 2 (gL cSPeriod dSPeriod a0_p.Periods)]]⟩ _
        replace h : profile_Next_p32 t30_18 (fun t30_18 => profile_Next_l30 F a0_p a1_start a2_t c_5 n_30 t30_18) = some r := h
        unfold profile_Next_p32 at h
        refine SCode.region (show SOps _ _ _ [0, 1] _ _ from ?_)
        refine SOps.q rfl (.plain rfl) rfl (q_add rfl rfl rfl) ?_
        refine SOps.q rfl (.plain rfl) rfl (q_move rfl rfl) ?_
        refine SOps.sub (st' := ⟨[(1, .c (.int .i64 a1_start)), (2, .c (.int .i64 a2_t)), (3, .c (.ptr 0 0)), (28, .c (.vec c_5.length 1 (gL (cInt .i64) 0 c_5))), (29, .c (.int .i64 (((c_5).length : Int)))), (30, .c (.int .i64 (IntKind.wrap .i64 (t30_18 + 1))))], [.box [.int .i64 a0_p.ID, .int .i64 a0_p.Level, .int .i64 a0_p.Purpose, .int .i64 a0_p.Kind, .int .i64 a0_p.Conn, .str a0_p.Txn, .int .i64 a0_p.Span_From, .int .i64 a0_p.Span_To, .int .i64 a0_p.Start, .int .i64 a0_p.Duration, .vec a0_p.Periods.length 2 (gL cSPeriod dSPeriod a0_p.Periods)]]⟩) (sub_gen [0] rfl rfl ⟨zc rfl rfl, zc rfl rfl, zc rfl rfl, zc rfl rfl, zc rfl rfl, zc rfl rfl, trivial⟩ ⟨⟨_, rfl, ⟨ii rfl rfl, ii rfl rfl, ii rfl rfl, ii rfl rfl, ii rfl rfl, ii rfl rfl, ii rfl rfl, ii rfl rfl, ii rfl rfl, ii rfl rfl, ii rfl rfl, trivial⟩⟩, trivial⟩) ?_
        refine SOps.nil ?_
        exact ⟨(n_30, IntKind.wrap .i64 (t30_18 + 1)), h, Nat.lt_succ_self n_30, sub_gen [0] rfl rfl ⟨zc rfl rfl, zc rfl rfl, zc rfl rfl, zc rfl rfl, zc rfl rfl, zc rfl rfl, trivial⟩ ⟨⟨_, rfl, ⟨ii rfl rfl, ii rfl rfl, ii rfl rfl, ii rfl rfl, ii rfl rfl, ii rfl rfl, ii rfl rfl, ii rfl rfl, ii rfl rfl, ii rfl rfl, ii rfl rfl, trivial⟩⟩, trivial⟩⟩
      refine SCode.cond_f rfl g31 ?_
      refine SCode.exit ?_
      exact ⟨(), h, sub_gen [] rfl rfl trivial trivial⟩
  rintro ⟨⟩ h
  show SCode _ _ _ ⟨[], []⟩ _
  replace h : profile_Next_p4 = some r := h
  unfold profile_Next_p4 at h
  refine SCode.seq ?_
  refine SCode.region (show SOps _ _ _ [0] _ _ from ?_)
  refine SOps.q rfl (.plain rfl) rfl (q_assign rfl rfl) ?_
  refine SOps.sub (st' := ⟨[(6, .c (.int .i64 ((-1))))], []⟩) (sub_gen [] rfl rfl ⟨zc rfl rfl, trivial⟩ trivial) ?_
  refine SOps.nil ?_
  refine SCode.ret ?_
  obtain rfl := Option.some.inj h
  exact ⟨⟨[(6, .c (.int .i64 ((-1))))], []⟩, _, sub_gen [] rfl rfl ⟨zc rfl rfl, trivial⟩ trivial, resA1 (v := .c (.int .i64 ((-1)))) rfl rfl, rfl⟩
set_option maxRecDepth 100000 in
set_option maxHeartbeats 8000000 in
theorem compose_pause_ok (F : Nat) (a0_l : List SProfile) (a1_start : Int) (a2_t : Int) (r : Int) (h : compose_pause F a0_l a1_start a2_t = some r) :
    SFun Try.prog 37 [] [.c (.vec a0_l.length 11 (gL cSProfile dSProfile a0_l)), .c (.int .i64 a1_start), .c (.int .i64 a2_t)] (fun x _ => x = .c (.int .i64 r)) := by
  refine SFun.of (n := 57) Try.func37 rfl rfl rfl ?_
  unfold compose_pause at h
  show SCode _ _ _ ⟨[(0, .c (.vec a0_l.length 11 (gL cSProfile dSProfile a0_l))), (1, .c (.int .i64 a1_start)), (2, .c (.int .i64 a2_t))], []⟩ _
  refine SCode.seq ?_
  refine SCode.region (show SOps _ _ _ [0] _ _ from ?_)
  refine SOps.q rfl (.plain rfl) rfl (q_assign rfl rfl) ?_
  refine SOps.sub (st' := ⟨[(0, .c (.vec a0_l.length 11 (gL cSProfile dSProfile a0_l))), (1, .c (.int .i64 a1_start)), (2, .c (.int .i64 a2_t))], []⟩) (sub_gen [] rfl rfl ⟨zc rfl rfl, zc rfl rfl, zc rfl rfl, trivial⟩ trivial) ?_
  refine SOps.nil ?_
  refine SCode.seq ?_
  refine SCode.region (show SOps _ _ _ [0] _ _ from ?_)
  refine SOps.q rfl (.plain rfl) rfl (q_assign rfl rfl) ?_
  refine SOps.sub (st' := ⟨[(0, .c (.vec a0_l.length 11 (gL cSProfile dSProfile a0_l))), (1, .c (.int .i64 a1_start)), (2, .c (.int .i64 a2_t)), (7, .c (.int .i64 268435457))], []⟩) (sub_gen [] rfl rfl ⟨zc rfl rfl, zc rfl rfl, zc rfl rfl, zc rfl rfl, trivial⟩ trivial) ?_
  refine SOps.nil ?_
  refine SCode.join (σ := Int) (S := fun s => ⟨[(7, .c (.int .i64 s))], []⟩) (g := fun s => compose_pause_p2 s = some r) ?_ ?_
  rotate_left
  · refine SCode.seq ?_
    refine SCode.region (show SOps _ _ _ [0, 1, 2] _ _ from ?_)
    refine SOps.q rfl (.plain rfl) rfl (q_move rfl rfl) ?_
    refine SOps.q rfl (.plain rfl) rfl (q_len_vec rfl rfl sl22) ?_
    refine SOps.q rfl (.plain rfl) rfl (q_move rfl rfl) ?_
    refine SOps.sub (st' := ⟨[(1, .c (.int .i64 a1_start)), (2, .c (.int .i64 a2_t)), (7, .c (.int .i64 268435457)), (13, .c (.vec a0_l.length 11 (gL cSProfile dSProfile a0_l))), (14, .c (.int .i64 (((a0_l).length : Int)))), (15, .c (.int .i64 0))], []⟩) (sub_gen [] rfl rfl ⟨zc rfl rfl, zc rfl rfl, zc rfl rfl, zc rfl rfl, zc rfl rfl, zc rfl rfl, trivial⟩ trivial) ?_
    refine SOps.nil ?_
    refine SCode.block ?_
    refine SCode.sub (st' := ⟨[(1, .c (.int .i64 a1_start)), (2, .c (.int .i64 a2_t)), (7, .c (.int .i64 268435457)), (13, .c (.vec a0_l.length 11 (gL cSProfile dSProfile a0_l))), (14, .c (.int .i64 (((a0_l).length : Int)))), (15, .c (.int .i64 0))], []⟩) (sub_gen [] rfl rfl ⟨zc rfl rfl, zc rfl rfl, zc rfl rfl, zc rfl rfl, zc rfl rfl, zc rfl rfl, trivial⟩ trivial) ?_
    refine (SCode.loop (σ := Nat × (Int × Int)) (S := fun s => ⟨[(1, .c (.int .i64 a1_start)), (2, .c (.int .i64 a2_t)), (7, .c (.int .i64 s.2.1)), (13, .c (.vec a0_l.length 11 (gL cSProfile dSProfile a0_l))), (14, .c (.int .i64 (((a0_l).length : Int)))), (15, .c (.int .i64 s.2.2))], []⟩) (g := fun s => compose_pause_l67 F a0_l a1_start a2_t s.1 s.2.1 s.2.2 = some r) (μ := fun s => s.1) (F, (268435457, 0)) h ?_)
    rintro ⟨n_67, ⟨best_34, t15_35⟩⟩ h
    replace h : compose_pause_l67 F a0_l a1_start a2_t n_67 best_34 t15_35 = some r := h
    show SCode _ _ _ ⟨[(1, .c (.int .i64 a1_start)), (2, .c (.int .i64 a2_t)), (7, .c (.int .i64 best_34)), (13, .c (.vec a0_l.length 11 (gL cSProfile dSProfile a0_l))), (14, .c (.int .i64 (((a0_l).length : Int)))), (15, .c (.int .i64 t15_35))], []⟩ _
    cases n_67 with
    | zero => cases h
    | succ n_67 =>
      replace h : compose_pause_b67 F a0_l a1_start a2_t (fun best_34 t15_35 => compose_pause_l67 F a0_l a1_start a2_t n_67 best_34 t15_35) best_34 t15_35 = some r := h
      unfold compose_pause_b67 at h
      refine SCode.seq ?_
      refine SCode.region (show SOps _ _ _ [0] _ _ from ?_)
      refine SOps.q rfl (.plain rfl) rfl (q_lss rfl rfl rfl) ?_
      refine SOps.sub (st' := ⟨[(1, .c (.int .i64 a1_start)), (2, .c (.int .i64 a2_t)), (7, .c (.int .i64 best_34)), (13, .c (.vec a0_l.length 11 (gL cSProfile dSProfile a0_l))), (14, .c (.int .i64 (((a0_l).length : Int)))), (15, .c (.int .i64 t15_35)), (16, .c (.bool (decide (t15_35 < ((a0_l).length : Int)))))], []⟩) (sub_gen [] rfl rfl ⟨zc rfl rfl, zc rfl rfl, zc rfl rfl, zc rfl rfl, zc rfl rfl, zc rfl rfl, zc rfl rfl, trivial⟩ trivial) ?_
      refine SOps.nil ?_
      refine SCode.seq ?_
      rcases cond_out h with ⟨g68, h⟩ | ⟨g68, h⟩
      · refine SCode.cond_t rfl g68 ?_
        refine SCode.skip ?_
        refine SCode.join (σ := Int) (S := fun s => ⟨[(1, .c (.int .i64 a1_start)), (2, .c (.int .i64 a2_t)), (7, .c (.int .i64 s)), (13, .c (.vec a0_l.length 11 (gL cSProfile dSProfile a0_l))), (14, .c (.int .i64 (((a0_l).length : Int)))), (15, .c (.int .i64 t15_35))], []⟩) (g := fun s => compose_pause_p70 t15_35 (fun best_34 t15_35 => compose_pause_l67 F a0_l a1_start a2_t n_67 best_34 t15_35) s = some r) ?_ ?_
        rotate_left
        · refine SCode.block ?_
          refine SCode.seq ?_
          obtain ⟨g71, h⟩ := guard_out h
          refine SCode.region (show SOps _ _ _ [0, 1, 2, 3] _ _ from ?_)
          refine SOps.q rfl (.plain rfl) rfl (q_index_vec rfl rfl rfl sl22 rfl g71.1 g71.2) ?_
          refine SOps.q rfl (.plain rfl) rfl (q_load_eptr_all rfl rfl rfl ty31) ?_
          refine SOps.e rfl (.plain rfl) (e_alloc rfl rfl rfl z31) ?_
          refine SOps.e rfl (.plain rfl) (e_store_box rfl rfl rfl rfl rfl ty31 rfl rfl rfl rfl) ?_
          refine SOps.sub (st' := ⟨[(1, .c (.int .i64 a1_start)), (2, .c (.int .i64 a2_t)), (7, .c (.int .i64 best_34)), (9, .c (.ptr 0 0)), (13, .c (.vec a0_l.length 11 (gL cSProfile dSProfile a0_l))), (14, .c (.int .i64 (((a0_l).length : Int)))), (15, .c (.int .i64 t15_35))], [.box [.int .i64 ((a0_l.getD t15_35.toNat dSProfile).ID), .int .i64 ((a0_l.getD t15_35.toNat dSProfile).Level), .int .i64 ((a0_l.getD t15_35.toNat dSProfile).Purpose), .int .i64 ((a0_l.getD t15_35.toNat dSProfile).Kind), .int .i64 ((a0_l.getD t15_35.toNat dSProfile).Conn), .str ((a0_l.getD t15_35.toNat dSProfile).Txn), .int .i64 ((a0_l.getD t15_35.toNat dSProfile).Span_From), .int .i64 ((a0_l.getD t15_35.toNat dSProfile).Span_To), .int .i64 ((a0_l.getD t15_35.toNat dSProfile).Start), .int .i64 ((a0_l.getD t15_35.toNat dSProfile).Duration), .vec ((a0_l.getD t15_35.toNat dSProfile).Periods).length 2 (gL cSPeriod dSPeriod ((a0_l.getD t15_35.toNat dSProfile).Periods))]]⟩) (sub_gen [0] rfl rfl ⟨zc rfl rfl, zc rfl rfl, zc rfl rfl, zc rfl rfl, zc rfl rfl, zc rfl rfl, zc rfl rfl, trivial⟩ ⟨⟨_, rfl, ⟨ii rfl rfl, ii rfl rfl, ii rfl rfl, ii rfl rfl, ii rfl rfl, ii rfl rfl, ii rfl rfl, ii rfl rfl, ii rfl rfl, ii rfl rfl, ii rfl rfl, trivial⟩⟩, trivial⟩) ?_
          refine SOps.nil ?_
          refine SCode.seq ?_
          refine SCode.region (show SOps _ _ _ [0, 1, 2, 3, 4, 5, 6, 7, 8, 9, 10] _ _ from ?_)
          refine SOps.q rfl (.plain rfl) rfl (q_field_ptr rfl rfl fd31_6) ?_
          refine SOps.q rfl (.plain rfl) rfl (q_field_ptr rfl rfl fd28_0) ?_
          refine SOps.q rfl (.plain rfl) rfl (q_load_ptr rfl rfl rfl rfl ty3) ?_
          refine SOps.q rfl (.plain rfl) rfl (q_field_ptr rfl rfl fd31_6) ?_
          refine SOps.q rfl (.plain rfl) rfl (q_field_ptr rfl rfl fd28_1) ?_
          refine SOps.q rfl (.plain rfl) rfl (q_load_ptr rfl rfl rfl rfl ty3) ?_
          refine SOps.q rfl (.plain rfl) rfl (q_field_ptr rfl rfl fd31_7) ?_
          refine SOps.q rfl (.plain rfl) rfl (q_load_ptr rfl rfl rfl rfl ty3) ?_
          refine SOps.q rfl (.plain rfl) rfl (q_buildArr rfl rfl ar74 z74 rfl) ?_
          refine SOps.e rfl (.plain rfl) (e_alloc rfl rfl rfl z74) ?_
          refine SOps.e rfl (.plain rfl) (e_store_box rfl rfl rfl rfl rfl ty74 rfl rfl rfl rfl) ?_
          refine SOps.sub (st' := ⟨[(1, .c (.int .i64 a1_start)), (2, .c (.int .i64 a2_t)), (7, .c (.int .i64 best_34)), (9, .c (.ptr 0 0)), (10, .c (.ptr 1 0)), (13, .c (.vec a0_l.length 11 (gL cSProfile dSProfile a0_l))), (14, .c (.int .i64 (((a0_l).length : Int)))), (15, .c (.int .i64 t15_35))], [.box [.int .i64 ((a0_l.getD t15_35.toNat dSProfile).ID), .int .i64 ((a0_l.getD t15_35.toNat dSProfile).Level), .int .i64 ((a0_l.getD t15_35.toNat dSProfile).Purpose), .int .i64 ((a0_l.getD t15_35.toNat dSProfile).Kind), .int .i64 ((a0_l.getD t15_35.toNat dSProfile).Conn), .str ((a0_l.getD t15_35.toNat dSProfile).Txn), .int .i64 ((a0_l.getD t15_35.toNat dSProfile).Span_From), .int .i64 ((a0_l.getD t15_35.toNat dSProfile).Span_To), .int .i64 ((a0_l.getD t15_35.toNat dSProfile).Start), .int .i64 ((a0_l.getD t15_35.toNat dSProfile).Duration), .vec ((a0_l.getD t15_35.toNat dSProfile).Periods).length 2 (gL cSPeriod dSPeriod ((a0_l.getD t15_35.toNat dSProfile).Periods))], .box [.int .i64 ((a0_l.getD t15_35.toNat dSProfile).Span_From), .int .i64 ((a0_l.getD t15_35.toNat dSProfile).Span_To), .int .i64 ((a0_l.getD t15_35.toNat dSProfile).Start)]]⟩) (sub_gen [0, 1] rfl rfl ⟨zc rfl rfl, zc rfl rfl, zc rfl rfl, zc rfl rfl, zc rfl rfl, zc rfl rfl, zc rfl rfl, zc rfl rfl, trivial⟩ ⟨⟨_, rfl, ⟨ii rfl rfl, ii rfl rfl, ii rfl rfl, ii rfl rfl, ii rfl rfl, ii rfl rfl, ii rfl rfl, ii rfl rfl, ii rfl rfl, ii rfl rfl, ii rfl rfl, trivial⟩⟩, ⟨_, rfl, ⟨ii rfl rfl, ii rfl rfl, ii rfl rfl, trivial⟩⟩, trivial⟩) ?_
          refine SOps.nil ?_
          refine SCode.join (σ := Int) (S := fun s => ⟨[(1, .c (.int .i64 a1_start)), (2, .c (.int .i64 a2_t)), (7, .c (.int .i64 best_34)), (10, .c (.ptr 0 0)), (13, .c (.vec a0_l.length 11 (gL cSProfile dSProfile a0_l))), (14, .c (.int .i64 (((a0_l).length : Int)))), (15, .c (.int .i64 t15_35))], [.box [.int .i64 s, .int .i64 ((a0_l.getD t15_35.toNat dSProfile).Span_To), .int .i64 ((a0_l.getD t15_35.toNat dSProfile).Start)]]⟩) (g := fun s => compose_pause_p94 F a0_l a2_t best_34 t15_35 (fun best_34 t15_35 => compose_pause_l67 F a0_l a1_start a2_t n_67 best_34 t15_35) s = some r) ?_ ?_
          rotate_left
          · refine SCode.seq ?_
            rcases cond_out h with ⟨g95, h⟩ | ⟨g95, h⟩
            · refine SCode.region (show SOps _ _ _ [0, 1, 2, 3, 4, 5, 6, 7] _ _ from ?_)
              refine SOps.q rfl (.plain rfl) rfl (q_field_ptr rfl rfl fd31_3) ?_
              refine SOps.q rfl (.plain rfl) rfl (q_load_ptr rfl rfl rfl rfl ty3) ?_
              refine SOps.q rfl (.plain rfl) rfl (q_neq rfl rfl rfl) ?_
              refine SOps.q rfl (.plain rfl) rfl (q_move rfl rfl) ?_
              refine SOps.q rfl (.guard 3 31 true rfl rfl (gT g95)) rfl (q_field_ptr rfl rfl fd31_3) ?_
              refine SOps.q rfl (.guard 3 31 true rfl rfl (gT g95)) rfl (q_load_ptr rfl rfl rfl rfl ty3) ?_
              refine SOps.q rfl (.guard 3 31 true rfl rfl (gT g95)) rfl (q_neq rfl rfl rfl) ?_
              refine SOps.q rfl (.plain rfl) rfl (q_pick_t rfl rfl g95 rfl) ?_
              refine SOps.sub (st' := ⟨[(1, .c (.int .i64 a1_start)), (2, .c (.int .i64 a2_t)), (7, .c (.int .i64 best_34)), (9, .c (.ptr 0 0)), (10, .c (.ptr 1 0)), (13, .c (.vec a0_l.length 11 (gL cSProfile dSProfile a0_l))), (14, .c (.int .i64 (((a0_l).length : Int)))), (15, .c (.int .i64 t15_35)), (35, .c (.bool ((!decide ((a0_l.getD t15_35.toNat dSProfile).Kind = 3)))))], [.box [.int .i64 ((a0_l.getD t15_35.toNat dSProfile).ID), .int .i64 ((a0_l.getD t15_35.toNat dSProfile).Level), .int .i64 ((a0_l.getD t15_35.toNat dSProfile).Purpose), .int .i64 ((a0_l.getD t15_35.toNat dSProfile).Kind), .int .i64 ((a0_l.getD t15_35.toNat dSProfile).Conn), .str ((a0_l.getD t15_35.toNat dSProfile).Txn), .int .i64 ((a0_l.getD t15_35.toNat dSProfile).Span_From), .int .i64 ((a0_l.getD t15_35.toNat dSProfile).Span_To), .int .i64 ((a0_l.getD t15_35.toNat dSProfile).Start), .int .i64 ((a0_l.getD t15_35.toNat dSProfile).Duration), .vec ((a0_l.getD t15_35.toNat dSProfile).Periods).length 2 (gL cSPeriod dSPeriod ((a0_l.getD t15_35.toNat dSProfile).Periods))], .box [.int .i64 ((a0_l.getD t15_35.toNat dSProfile).Span_From), .int .i64 ((a0_l.getD t15_35.toNat dSProfile).Span_To), .int .i64 ((a0_l.getD t15_35.toNat dSProfile).Start)]]⟩) (sub_gen [0, 1] rfl rfl ⟨zc rfl rfl, zc rfl rfl, zc rfl rfl, zc rfl rfl, zc rfl rfl, zc rfl rfl, zc rfl rfl, zc rfl rfl, zc rfl rfl, trivial⟩ ⟨⟨_, rfl, ⟨ii rfl rfl, ii rfl rfl, ii rfl rfl, ii rfl rfl, ii rfl rfl, ii rfl rfl, ii rfl rfl, ii rfl rfl, ii rfl rfl, ii rfl rfl, ii rfl rfl, trivial⟩⟩, ⟨_, rfl, ⟨ii rfl rfl, ii rfl rfl, ii rfl rfl, trivial⟩⟩, trivial⟩) ?_
              refine SOps.nil ?_
              rcases cond_out h with ⟨g96, h⟩ | ⟨g96, h⟩
              · refine SCode.cond_t rfl g96 ?_
                obtain ⟨c_97, g98, h⟩ := bind_out h
                try dsimp only at h
                refine SCode.region (show SOps _ _ _ [0, 1, 2, 3, 4, 5] _ _ from ?_)
                refine SOps.q rfl (.plain rfl) rfl (q_load_ptr_all rfl rfl rfl rfl rfl ty31) ?_
                refine SOps.q rfl (.plain rfl) rfl (q_move rfl rfl) ?_
                refine SOps.q rfl (.plain rfl) rfl (q_move rfl rfl) ?_
                refine SOps.q rfl (.plain rfl) rfl (q_call (profile_Next_ok F (a0_l.getD t15_35.toNat dSProfile) a1_start a2_t c_97 g98) [] rfl fn43 ⟨⟨rfl, rfl⟩, ⟨_, rfl, .inl ⟨rfl, rfl⟩⟩, ⟨_, rfl, .inl ⟨rfl, rfl⟩⟩, trivial⟩ (.inl rfl)) ?_
                refine SOps.q rfl (.plain rfl) rfl (q_indexAddr_ptr rfl rfl rfl ar74 (by decide) (by decide)) ?_
                refine SOps.e rfl (.plain rfl) (e_store_box rfl rfl rfl rfl rfl ty3 rfl rfl rfl rfl) ?_
                refine SOps.sub (st' := ⟨[(1, .c (.int .i64 a1_start)), (2, .c (.int .i64 a2_t)), (7, .c (.int .i64 best_34)), (10, .c (.ptr 0 0)), (13, .c (.vec a0_l.length 11 (gL cSProfile dSProfile a0_l))), (14, .c (.int .i64 (((a0_l).length : Int)))), (15, .c (.int .i64 t15_35))], [.box [.int .i64 c_97, .int .i64 ((a0_l.getD t15_35.toNat dSProfile).Span_To), .int .i64 ((a0_l.getD t15_35.toNat dSProfile).Start)]]⟩) (sub_gen [1] rfl rfl ⟨zc rfl rfl, zc rfl rfl, zc rfl rfl, zc rfl rfl, zc rfl rfl, zc rfl rfl, zc rfl rfl, trivial⟩ ⟨⟨_, rfl, ⟨ii rfl rfl, ii rfl rfl, ii rfl rfl, trivial⟩⟩, trivial⟩) ?_
                refine SOps.nil ?_
                exact ⟨c_97, h, sub_gen [0] rfl rfl ⟨zc rfl rfl, zc rfl rfl, zc rfl rfl, zc rfl rfl, zc rfl rfl, zc rfl rfl, zc rfl rfl, trivial⟩ ⟨⟨_, rfl, ⟨ii rfl rfl, ii rfl rfl, ii rfl rfl, trivial⟩⟩, trivial⟩⟩
              refine SCode.cond_f rfl g96 ?_
              refine SCode.skip ?_
              exact ⟨(a0_l.getD t15_35.toNat dSProfile).Span_From, h, sub_gen [1] rfl rfl ⟨zc rfl rfl, zc rfl rfl, zc rfl rfl, zc rfl rfl, zc rfl rfl, zc rfl rfl, zc rfl rfl, trivial⟩ ⟨⟨_, rfl, ⟨ii rfl rfl, ii rfl rfl, ii rfl rfl, trivial⟩⟩, trivial⟩⟩
            refine SCode.region (show SOps _ _ _ [0, 1, 2, 3, 4, 5, 6, 7] _ _ from ?_)
            refine SOps.q rfl (.plain rfl) rfl (q_field_ptr rfl rfl fd31_3) ?_
            refine SOps.q rfl (.plain rfl) rfl (q_load_ptr rfl rfl rfl rfl ty3) ?_
            refine SOps.q rfl (.plain rfl) rfl (q_neq rfl rfl rfl) ?_
            refine SOps.q rfl (.plain rfl) rfl (q_move rfl rfl) ?_
            refine SOps.skip rfl 3 31 true rfl rfl (.inl (gF g95)) rfl ?_
            refine SOps.skip rfl 3 31 true rfl rfl (.inl (gF g95)) rfl ?_
            refine SOps.skip rfl 3 31 true rfl rfl (.inl (gF g95)) rfl ?_
            refine SOps.q rfl (.plain rfl) rfl (q_pick_f rfl rfl g95 rfl) ?_
            refine SOps.sub (st' := ⟨[(1, .c (.int .i64 a1_start)), (2, .c (.int .i64 a2_t)), (7, .c (.int .i64 best_34)), (9, .c (.ptr 0 0)), (10, .c (.ptr 1 0)), (13, .c (.vec a0_l.length 11 (gL cSProfile dSProfile a0_l))), (14, .c (.int .i64 (((a0_l).length : Int)))), (15, .c (.int .i64 t15_35)), (35, .c (.bool false))], [.box [.int .i64 ((a0_l.getD t15_35.toNat dSProfile).ID), .int .i64 ((a0_l.getD t15_35.toNat dSProfile).Level), .int .i64 ((a0_l.getD t15_35.toNat dSProfile).Purpose), .int .i64 ((a0_l.getD t15_35.toNat dSProfile).Kind), .int .i64 ((a0_l.getD t15_35.toNat dSProfile).Conn), .str ((a0_l.getD t15_35.toNat dSProfile).Txn), .int .i64 ((a0_l.getD t15_35.toNat dSProfile).Span_From), .int .i64 ((a0_l.getD t15_35.toNat dSProfile).Span_To), .int .i64 ((a0_l.getD t15_35.toNat dSProfile).Start), .int .i64 ((a0_l.getD t15_35.toNat dSProfile).Duration), .vec ((a0_l.getD t15_35.toNat dSProfile).Periods).length 2 (gL cSPeriod dSPeriod ((a0_l.getD t15_35.toNat dSProfile).Periods))], .box [.int .i64 ((a0_l.getD t15_35.toNat dSProfile).Span_From), .int .i64 ((a0_l.getD t15_35.toNat dSProfile).Span_To), .int .i64 ((a0_l.getD t15_35.toNat dSProfile).Start)]]⟩) (sub_gen [0, 1] rfl rfl ⟨zc rfl rfl, zc rfl rfl, zc rfl rfl, zc rfl rfl, zc rfl rfl, zc rfl rfl, zc rfl rfl, zc rfl rfl, zc rfl rfl, trivial⟩ ⟨⟨_, rfl, ⟨ii rfl rfl, ii rfl rfl, ii rfl rfl, ii rfl rfl, ii rfl rfl, ii rfl rfl, ii rfl rfl, ii rfl rfl, ii rfl rfl, ii rfl rfl, ii rfl rfl, trivial⟩⟩, ⟨_, rfl, ⟨ii rfl rfl, ii rfl rfl, ii rfl rfl, trivial⟩⟩, trivial⟩) ?_
            refine SOps.nil ?_
            refine SCode.cond_f rfl rfl ?_
            refine SCode.skip ?_
            exact ⟨(a0_l.getD t15_35.toNat dSProfile).Span_From, h, sub_gen [1] rfl rfl ⟨zc rfl rfl, zc rfl rfl, zc rfl rfl, zc rfl rfl, zc rfl rfl, zc rfl rfl, zc rfl rfl, trivial⟩ ⟨⟨_, rfl, ⟨ii rfl rfl, ii rfl rfl, ii rfl rfl, trivial⟩⟩, trivial⟩⟩
          rintro b0_72 h
          show SCode _ _ _ ⟨[(1, .c (.int .i64 a1_start)), (2, .c (.int .i64 a2_t)), (7, .c (.int .i64 best_34)), (10, .c (.ptr 0 0)), (13, .c (.vec a0_l.length 11 (gL cSProfile dSProfile a0_l))), (14, .c (.int .i64 (((a0_l).length : Int)))), (15, .c (.int .i64 t15_35))], [.box [.int .i64 b0_72, .int .i64 ((a0_l.getD t15_35.toNat dSProfile).Span_To), .int .i64 ((a0_l.getD t15_35.toNat dSProfile).Start)]]⟩ _
          replace h : compose_pause_p94 F a0_l a2_t best_34 t15_35 (fun best_34 t15_35 => compose_pause_l67 F a0_l a1_start a2_t n_67 best_34 t15_35) b0_72 = some r := h
          unfold compose_pause_p94 at h
          refine SCode.seq ?_
          refine SCode.region (show SOps _ _ _ [0, 1] _ _ from ?_)
          refine SOps.q rfl (.plain rfl) rfl (q_load_ptr_all rfl rfl rfl rfl rfl ty74) ?_
          refine SOps.q rfl (.plain rfl) rfl (q_move rfl rfl) ?_
          refine SOps.sub (st' := ⟨[(1, .c (.int .i64 a1_start)), (2, .c (.int .i64 a2_t)), (7, .c (.int .i64 best_34)), (13, .c (.vec a0_l.length 11 (gL cSProfile dSProfile a0_l))), (14, .c (.int .i64 (((a0_l).length : Int)))), (15, .c (.int .i64 t15_35)), (41, .a [.int .i64 b0_72, .int .i64 ((a0_l.getD t15_35.toNat dSProfile).Span_To), .int .i64 ((a0_l.getD t15_35.toNat dSProfile).Start)]), (42, .c (.int .i64 0))], []⟩) (sub_gen [] rfl rfl ⟨zc rfl rfl, zc rfl rfl, zc rfl rfl, zc rfl rfl, zc rfl rfl, zc rfl rfl, ⟨_, rfl, ⟨ii rfl rfl, ii rfl rfl, ii rfl rfl, trivial⟩⟩, zc rfl rfl, trivial⟩ trivial) ?_
          refine SOps.nil ?_
          refine SCode.block ?_
          refine SCode.sub (st' := ⟨[(1, .c (.int .i64 a1_start)), (2, .c (.int .i64 a2_t)), (7, .c (.int .i64 best_34)), (13, .c (.vec a0_l.length 11 (gL cSProfile dSProfile a0_l))), (14, .c (.int .i64 (((a0_l).length : Int)))), (15, .c (.int .i64 t15_35)), (41, .a [.int .i64 b0_72, .int .i64 ((a0_l.getD t15_35.toNat dSProfile).Span_To), .int .i64 ((a0_l.getD t15_35.toNat dSProfile).Start)]), (42, .c (.int .i64 0))], []⟩) (sub_gen [] rfl rfl ⟨zc rfl rfl, zc rfl rfl, zc rfl rfl, zc rfl rfl, zc rfl rfl, zc rfl rfl, ⟨_, rfl, ⟨ii rfl rfl, ii rfl rfl, ii rfl rfl, trivial⟩⟩, zc rfl rfl, trivial⟩ trivial) ?_
          refine (SCode.loop (σ := Nat × (Int × Int)) (S := fun s => ⟨[(1, .c (.int .i64 a1_start)), (2, .c (.int .i64 a2_t)), (7, .c (.int .i64 s.2.1)), (13, .c (.vec a0_l.length 11 (gL cSProfile dSProfile a0_l))), (14, .c (.int .i64 (((a0_l).length : Int)))), (15, .c (.int .i64 t15_35)), (41, .a [.int .i64 b0_72, .int .i64 ((a0_l.getD t15_35.toNat dSProfile).Span_To), .int .i64 ((a0_l.getD t15_35.toNat dSProfile).Start)]), (42, .c (.int .i64 s.2.2))], []⟩) (g := fun s => compose_pause_l87 a0_l a2_t t15_35 (fun best_34 t15_35 => compose_pause_l67 F a0_l a1_start a2_t n_67 best_34 t15_35) b0_72 s.1 s.2.1 s.2.2 = some r) (μ := fun s => s.1) (F, (best_34, 0)) h ?_)
          rintro ⟨n_87, ⟨best_79, t42_80⟩⟩ h
          replace h : compose_pause_l87 a0_l a2_t t15_35 (fun best_34 t15_35 => compose_pause_l67 F a0_l a1_start a2_t n_67 best_34 t15_35) b0_72 n_87 best_79 t42_80 = some r := h
          show SCode _ _ _ ⟨[(1, .c (.int .i64 a1_start)), (2, .c (.int .i64 a2_t)), (7, .c (.int .i64 best_79)), (13, .c (.vec a0_l.length 11 (gL cSProfile dSProfile a0_l))), (14, .c (.int .i64 (((a0_l).length : Int)))), (15, .c (.int .i64 t15_35)), (41, .a [.int .i64 b0_72, .int .i64 ((a0_l.getD t15_35.toNat dSProfile).Span_To), .int .i64 ((a0_l.getD t15_35.toNat dSProfile).Start)]), (42, .c (.int .i64 t42_80))], []⟩ _
          cases n_87 with
          | zero => cases h
          | succ n_87 =>
            replace h : compose_pause_b87 a0_l a2_t t15_35 (fun best_34 t15_35 => compose_pause_l67 F a0_l a1_start a2_t n_67 best_34 t15_35) b0_72 (fun best_79 t42_80 => compose_pause_l87 a0_l a2_t t15_35 (fun best_34 t15_35 => compose_pause_l67 F a0_l a1_start a2_t n_67 best_34 t15_35) b0_72 n_87 best_79 t42_80) best_79 t42_80 = some r := h
            unfold compose_pause_b87 at h
            refine SCode.seq ?_
            refine SCode.region (show SOps _ _ _ [0] _ _ from ?_)
            refine SOps.q rfl (.plain rfl) rfl (q_lss rfl rfl rfl) ?_
            refine SOps.sub (st' := ⟨[(1, .c (.int .i64 a1_start)), (2, .c (.int .i64 a2_t)), (7, .c (.int .i64 best_79)), (13, .c (.vec a0_l.length 11 (gL cSProfile dSProfile a0_l))), (14, .c (.int .i64 (((a0_l).length : Int)))), (15, .c (.int .i64 t15_35)), (41, .a [.int .i64 b0_72, .int .i64 ((a0_l.getD t15_35.toNat dSProfile).Span_To), .int .i64 ((a0_l.getD t15_35.toNat dSProfile).Start)]), (42, .c (.int .i64 t42_80)), (43, .c (.bool (decide (t42_80 < 3))))], []⟩) (sub_gen [] rfl rfl ⟨zc rfl rfl, zc rfl rfl, zc rfl rfl, zc rfl rfl, zc rfl rfl, zc rfl rfl, ⟨_, rfl, ⟨ii rfl rfl, ii rfl rfl, ii rfl rfl, trivial⟩⟩, zc rfl rfl, zc rfl rfl, trivial⟩ trivial) ?_
            refine SOps.nil ?_
            refine SCode.seq ?_
            rcases cond_out h with ⟨g88, h⟩ | ⟨g88, h⟩
            · refine SCode.cond_t rfl g88 ?_
              refine SCode.skip ?_
              refine SCode.join (σ := Int) (S := fun s => ⟨[(1, .c (.int .i64 a1_start)), (2, .c (.int .i64 a2_t)), (7, .c (.int .i64 s)), (13, .c (.vec a0_l.length 11 (gL cSProfile dSProfile a0_l))), (14, .c (.int .i64 (((a0_l).length : Int)))), (15, .c (.int .i64 t15_35)), (41, .a [.int .i64 b0_72, .int .i64 ((a0_l.getD t15_35.toNat dSProfile).Span_To), .int .i64 ((a0_l.getD t15_35.toNat dSProfile).Start)]), (42, .c (.int .i64 t42_80))], []⟩) (g := fun s => compose_pause_p90 t42_80 (fun best_79 t42_80 => compose_pause_l87 a0_l a2_t t15_35 (fun best_34 t15_35 => compose_pause_l67 F a0_l a1_start a2_t n_67 best_34 t15_35) b0_72 n_87 best_79 t42_80) s = some r) ?_ ?_
              rotate_left
              · refine SCode.block ?_
                refine SCode.seq ?_
                obtain ⟨g91, h⟩ := guard_out h
                refine SCode.region (show SOps _ _ _ [0, 1] _ _ from ?_)
                refine SOps.q rfl (.plain rfl) rfl (q_index_agg (c := (cInt .i64)) (d0 := 0) (l := [b0_72, (a0_l.getD t15_35.toNat dSProfile).Span_To, (a0_l.getD t15_35.toNat dSProfile).Start]) rfl rfl rfl ar74 ty3 rfl g91.1 g91.2) ?_
                refine SOps.q rfl (.plain rfl) rfl (q_assign rfl rfl) ?_
                refine SOps.sub (st' := ⟨[(1, .c (.int .i64 a1_start)), (2, .c (.int .i64 a2_t)), (7, .c (.int .i64 best_79)), (12, .c (.int .i64 (([b0_72, (a0_l.getD t15_35.toNat dSProfile).Span_To, (a0_l.getD t15_35.toNat dSProfile).Start] : List Int).getD t42_80.toNat 0))), (13, .c (.vec a0_l.length 11 (gL cSProfile dSProfile a0_l))), (14, .c (.int .i64 (((a0_l).length : Int)))), (15, .c (.int .i64 t15_35)), (41, .a [.int .i64 b0_72, .int .i64 ((a0_l.getD t15_35.toNat dSProfile).Span_To), .int .i64 ((a0_l.getD t15_35.toNat dSProfile).Start)]), (42, .c (.int .i64 t42_80))], []⟩) (sub_gen [] rfl rfl ⟨zc rfl rfl, zc rfl rfl, zc rfl rfl, zc rfl rfl, zc rfl rfl, zc rfl rfl, zc rfl rfl, ⟨_, rfl, ⟨ii rfl rfl, ii rfl rfl, ii rfl rfl, trivial⟩⟩, zc rfl rfl, trivial⟩ trivial) ?_
                refine SOps.nil ?_
                refine SCode.seq ?_
                rcases cond_out h with ⟨g92, h⟩ | ⟨g92, h⟩
                · refine SCode.region (show SOps _ _ _ [0, 1, 2, 3, 4, 5, 6, 7] _ _ from ?_)
                  refine SOps.q rfl (.plain rfl) rfl (q_move rfl rfl) ?_
                  refine SOps.q rfl (.plain rfl) rfl (q_move rfl rfl) ?_
                  refine SOps.q rfl (.plain rfl) rfl (q_gtr rfl rfl rfl) ?_
                  refine SOps.q rfl (.plain rfl) rfl (q_move rfl rfl) ?_
                  refine SOps.q rfl (.guard 3 48 true rfl rfl (gT g92)) rfl (q_move rfl rfl) ?_
                  refine SOps.q rfl (.guard 3 48 true rfl rfl (gT g92)) rfl (q_move rfl rfl) ?_
                  refine SOps.q rfl (.guard 3 48 true rfl rfl (gT g92)) rfl (q_lss rfl rfl rfl) ?_
                  refine SOps.q rfl (.plain rfl) rfl (q_pick_t rfl rfl g92 rfl) ?_
                  refine SOps.sub (st' := ⟨[(1, .c (.int .i64 a1_start)), (2, .c (.int .i64 a2_t)), (7, .c (.int .i64 best_79)), (12, .c (.int .i64 (([b0_72, (a0_l.getD t15_35.toNat dSProfile).Span_To, (a0_l.getD t15_35.toNat dSProfile).Start] : List Int).getD t42_80.toNat 0))), (13, .c (.vec a0_l.length 11 (gL cSProfile dSProfile a0_l))), (14, .c (.int .i64 (((a0_l).length : Int)))), (15, .c (.int .i64 t15_35)), (41, .a [.int .i64 b0_72, .int .i64 ((a0_l.getD t15_35.toNat dSProfile).Span_To), .int .i64 ((a0_l.getD t15_35.toNat dSProfile).Start)]), (42, .c (.int .i64 t42_80)), (52, .c (.bool (decide (([b0_72, (a0_l.getD t15_35.toNat dSProfile).Span_To, (a0_l.getD t15_35.toNat dSProfile).Start] : List Int).getD t42_80.toNat 0 < best_79))))], []⟩) (sub_gen [] rfl rfl ⟨zc rfl rfl, zc rfl rfl, zc rfl rfl, zc rfl rfl, zc rfl rfl, zc rfl rfl, zc rfl rfl, ⟨_, rfl, ⟨ii rfl rfl, ii rfl rfl, ii rfl rfl, trivial⟩⟩, zc rfl rfl, zc rfl rfl, trivial⟩ trivial) ?_
                  refine SOps.nil ?_
                  rcases cond_out h with ⟨g93, h⟩ | ⟨g93, h⟩
                  · refine SCode.cond_t rfl g93 ?_
                    refine SCode.region (show SOps _ _ _ [0, 1] _ _ from ?_)
                    refine SOps.q rfl (.plain rfl) rfl (q_move rfl rfl) ?_
                    refine SOps.q rfl (.plain rfl) rfl (q_assign rfl rfl) ?_
                    refine SOps.sub (st' := ⟨[(1, .c (.int .i64 a1_start)), (2, .c (.int .i64 a2_t)), (7, .c (.int .i64 (([b0_72, (a0_l.getD t15_35.toNat dSProfile).Span_To, (a0_l.getD t15_35.toNat dSProfile).Start] : List Int).getD t42_80.toNat 0))), (13, .c (.vec a0_l.length 11 (gL cSProfile dSProfile a0_l))), (14, .c (.int .i64 (((a0_l).length : Int)))), (15, .c (.int .i64 t15_35)), (41, .a [.int .i64 b0_72, .int .i64 ((a0_l.getD t15_35.toNat dSProfile).Span_To), .int .i64 ((a0_l.getD t15_35.toNat dSProfile).Start)]), (42, .c (.int .i64 t42_80))], []⟩) (sub_gen [] rfl rfl ⟨zc rfl rfl, zc rfl rfl, zc rfl rfl, zc rfl rfl, zc rfl rfl, zc rfl rfl, ⟨_, rfl, ⟨ii rfl rfl, ii rfl rfl, ii rfl rfl, trivial⟩⟩, zc rfl rfl, trivial⟩ trivial) ?_
                    refine SOps.nil ?_
                    exact ⟨([b0_72, (a0_l.getD t15_35.toNat dSProfile).Span_To, (a0_l.getD t15_35.toNat dSProfile).Start] : List Int).getD t42_80.toNat 0, h, sub_gen [] rfl rfl ⟨zc rfl rfl, zc rfl rfl, zc rfl rfl, zc rfl rfl, zc rfl rfl, zc rfl rfl, ⟨_, rfl, ⟨ii rfl rfl, ii rfl rfl, ii rfl rfl, trivial⟩⟩, zc rfl rfl, trivial⟩ trivial⟩
                  refine SCode.cond_f rfl g93 ?_
                  refine SCode.skip ?_
                  exact ⟨best_79, h, sub_gen [] rfl rfl ⟨zc rfl rfl, zc rfl rfl, zc rfl rfl, zc rfl rfl, zc rfl rfl, zc rfl rfl, ⟨_, rfl, ⟨ii rfl rfl, ii rfl rfl, ii rfl rfl, trivial⟩⟩, zc rfl rfl, trivial⟩ trivial⟩
                refine SCode.region (show SOps _ _ _ [0, 1, 2, 3, 4, 5, 6, 7] _ _ from ?_)
                refine SOps.q rfl (.plain rfl) rfl (q_move rfl rfl) ?_
                refine SOps.q rfl (.plain rfl) rfl (q_move rfl rfl) ?_
                refine SOps.q rfl (.plain rfl) rfl (q_gtr rfl rfl rfl) ?_
                refine SOps.q rfl (.plain rfl) rfl (q_move rfl rfl) ?_
                refine SOps.skip rfl 3 48 true rfl rfl (.inl (gF g92)) rfl ?_
                refine SOps.skip rfl 3 48 true rfl rfl (.inl (gF g92)) rfl ?_
                refine SOps.skip rfl 3 48 true rfl rfl (.inl (gF g92)) rfl ?_
                refine SOps.q rfl (.plain rfl) rfl (q_pick_f rfl rfl g92 rfl) ?_
                refine SOps.sub (st' := ⟨[(1, .c (.int .i64 a1_start)), (2, .c (.int .i64 a2_t)), (7, .c (.int .i64 best_79)), (12, .c (.int .i64 (([b0_72, (a0_l.getD t15_35.toNat dSProfile).Span_To, (a0_l.getD t15_35.toNat dSProfile).Start] : List Int).getD t42_80.toNat 0))), (13, .c (.vec a0_l.length 11 (gL cSProfile dSProfile a0_l))), (14, .c (.int .i64 (((a0_l).length : Int)))), (15, .c (.int .i64 t15_35)), (41, .a [.int .i64 b0_72, .int .i64 ((a0_l.getD t15_35.toNat dSProfile).Span_To), .int .i64 ((a0_l.getD t15_35.toNat dSProfile).Start)]), (42, .c (.int .i64 t42_80)), (52, .c (.bool false))], []⟩) (sub_gen [] rfl rfl ⟨zc rfl rfl, zc rfl rfl, zc rfl rfl, zc rfl rfl, zc rfl rfl, zc rfl rfl, zc rfl rfl, ⟨_, rfl, ⟨ii rfl rfl, ii rfl rfl, ii rfl rfl, trivial⟩⟩, zc rfl rfl, zc rfl rfl, trivial⟩ trivial) ?_
                refine SOps.nil ?_
                refine SCode.cond_f rfl rfl ?_
                refine SCode.skip ?_
                exact ⟨best_79, h, sub_gen [] rfl rfl ⟨zc rfl rfl, zc rfl rfl, zc rfl rfl, zc rfl rfl, zc rfl rfl, zc rfl rfl, ⟨_, rfl, ⟨ii rfl rfl, ii rfl rfl, ii rfl rfl, trivial⟩⟩, zc rfl rfl, trivial⟩ trivial⟩
              rintro best_89 h
              show SCode _ _ _ ⟨[(1, .c (.int .i64 a1_start)), (2, .c (.int .i64 a2_t)), (7, .c (.int .i64 best_89)), (13, .c (.vec a0_l.length 11 (gL cSProfile dSProfile a0_l))), (14, .c (.int .i64 (((a0_l).length : Int)))), (15, .c (.int .i64 t15_35)), (41, .a [.int .i64 b0_72, .int .i64 ((a0_l.getD t15_35.toNat dSProfile).Span_To), .int .i64 ((a0_l.getD t15_35.toNat dSProfile).Start)]), (42, .c (.int .i64 t42_80))], []⟩ _
              replace h : compose_pause_p90 t42_80 (fun best_79 t42_80 => compose_pause_l87 a0_l a2_t t15_35 (fun best_34 t15_35 => compose_pause_l67 F a0_l a1_start a2_t n_67 best_34 t15_35) b0_72 n_87 best_79 t42_80) best_89 = some r := h
              unfold compose_pause_p90 at h
              refine SCode.region (show SOps _ _ _ [0, 1] _ _ from ?_)
              refine SOps.q rfl (.plain rfl) rfl (q_add rfl rfl rfl) ?_
              refine SOps.q rfl (.plain rfl) rfl (q_move rfl rfl) ?_
              refine SOps.sub (st' := ⟨[(1, .c (.int .i64 a1_start)), (2, .c (.int .i64 a2_t)), (7, .c (.int .i64 best_89)), (13, .c (.vec a0_l.length 11 (gL cSProfile dSProfile a0_l))), (14, .c (.int .i64 (((a0_l).length : Int)))), (15, .c (.int .i64 t15_35)), (41, .a [.int .i64 b0_72, .int .i64 ((a0_l.getD t15_35.toNat dSProfile).Span_To), .int .i64 ((a0_l.getD t15_35.toNat dSProfile).Start)]), (42, .c (.int .i64 (IntKind.wrap .i64 (t42_80 + 1))))], []⟩) (sub_gen [] rfl rfl ⟨zc rfl rfl, zc rfl rfl, zc rfl rfl, zc rfl rfl, zc rfl rfl, zc rfl rfl, ⟨_, rfl, ⟨ii rfl rfl, ii rfl rfl, ii rfl rfl, trivial⟩⟩, zc rfl rfl, trivial⟩ trivial) ?_
              refine SOps.nil ?_
              exact ⟨(n_87, (best_89, IntKind.wrap .i64 (t42_80 + 1))), h, Nat.lt_succ_self n_87, sub_gen [] rfl rfl ⟨zc rfl rfl, zc rfl rfl, zc rfl rfl, zc rfl rfl, zc rfl rfl, zc rfl rfl, ⟨_, rfl, ⟨ii rfl rfl, ii rfl rfl, ii rfl rfl, trivial⟩⟩, zc rfl rfl, trivial⟩ trivial⟩
            refine SCode.cond_f rfl g88 ?_
            refine SCode.exit ?_
            exact ⟨best_79, h, sub_gen [] rfl rfl ⟨zc rfl rfl, zc rfl rfl, zc rfl rfl, zc rfl rfl, zc rfl rfl, zc rfl rfl, trivial⟩ trivial⟩
        rintro best_69 h
        show SCode _ _ _ ⟨[(1, .c (.int .i64 a1_start)), (2, .c (.int .i64 a2_t)), (7, .c (.int .i64 best_69)), (13, .c (.vec a0_l.length 11 (gL cSProfile dSProfile a0_l))), (14, .c (.int .i64 (((a0_l).length : Int)))), (15, .c (.int .i64 t15_35))], []⟩ _
        replace h : compose_pause_p70 t15_35 (fun best_34 t15_35 => compose_pause_l67 F a0_l a1_start a2_t n_67 best_34 t15_35) best_69 = some r := h
        unfold compose_pause_p70 at h
        refine SCode.region (show SOps _ _ _ [0, 1] _ _ from ?_)
        refine SOps.q rfl (.plain rfl) rfl (q_add rfl rfl rfl) ?_
        refine SOps.q rfl (.plain rfl) rfl (q_move rfl rfl) ?_
        refine SOps.sub (st' := ⟨[(1, .c (.int .i64 a1_start)), (2, .c (.int .i64 a2_t)), (7, .c (.int .i64 best_69)), (13, .c (.vec a0_l.length 11 (gL cSProfile dSProfile a0_l))), (14, .c (.int .i64 (((a0_l).length : Int)))), (15, .c (.int .i64 (IntKind.wrap .i64 (t15_35 + 1))))], []⟩) (sub_gen [] rfl rfl ⟨zc rfl rfl, zc rfl rfl, zc rfl rfl, zc rfl rfl, zc rfl rfl, zc rfl rfl, trivial⟩ trivial) ?_
        refine SOps.nil ?_
        exact ⟨(n_67, (best_69, IntKind.wrap .i64 (t15_35 + 1))), h, Nat.lt_succ_self n_67, sub_gen [] rfl rfl ⟨zc rfl rfl, zc rfl rfl, zc rfl rfl, zc rfl rfl, zc rfl rfl, zc rfl rfl, trivial⟩ trivial⟩
      refine SCode.cond_f rfl g68 ?_
      refine SCode.exit ?_
      exact ⟨best_34, h, sub_gen [] rfl rfl ⟨zc rfl rfl, trivial⟩ trivial⟩
  rintro best_1 h
  show SCode _ _ _ ⟨[(7, .c (.int .i64 best_1))], []⟩ _
  replace h : compose_pause_p2 best_1 = some r := h
  unfold compose_pause_p2 at h
  refine SCode.seq ?_
  refine SCode.region (show SOps _ _ _ [0, 1] _ _ from ?_)
  refine SOps.q rfl (.plain rfl) rfl (q_move rfl rfl) ?_
  refine SOps.q rfl (.plain rfl) rfl (q_assign rfl rfl) ?_
  refine SOps.sub (st' := ⟨[(6, .c (.int .i64 best_1))], []⟩) (sub_gen [] rfl rfl ⟨zc rfl rfl, trivial⟩ trivial) ?_
  refine SOps.nil ?_
  refine SCode.ret ?_
  obtain rfl := Option.some.inj h
  exact ⟨⟨[(6, .c (.int .i64 best_1))], []⟩, _, sub_gen [] rfl rfl ⟨zc rfl rfl, trivial⟩ trivial, resA1 (v := .c (.int .i64 best_1)) rfl rfl, rfl⟩
set_option maxRecDepth 100000 in
set_option maxHeartbeats 8000000 in
theorem compose_earliest_ok (F : Nat) (a0_l : List SProfile) (a1_start : Int) (a2_t : Int) (a3_ahead : List Int) (r : Int × (List Int)) (h : compose_earliest F a0_l a1_start a2_t a3_ahead = some r) :
    SFun Try.prog 38 [.arr 3 1 a3_ahead.length (gL (cInt .i64) 0 a3_ahead)] [.c (.vec a0_l.length 11 (gL cSProfile dSProfile a0_l)), .c (.int .i64 a1_start), .c (.int .i64 a2_t), .c (.own 0 a3_ahead.length)] (fun x os => x = .c (.int .i64 r.1) ∧ os = [.arr 3 1 r.2.length (gL (cInt .i64) 0 r.2)]) := by
  refine SFun.of (n := 48) Try.func38 rfl rfl rfl ?_
  unfold compose_earliest at h
  show SCode _ _ _ ⟨[(0, .c (.vec a0_l.length 11 (gL cSProfile dSProfile a0_l))), (1, .c (.int .i64 a1_start)), (2, .c (.int .i64 a2_t)), (3, .c (.own 0 a3_ahead.length))], [.arr 3 1 a3_ahead.length (gL (cInt .i64) 0 a3_ahead)]⟩ _
  refine SCode.seq ?_
  refine SCode.region (show SOps _ _ _ [0] _ _ from ?_)
  refine SOps.q rfl (.plain rfl) rfl (q_assign rfl rfl) ?_
  refine SOps.sub (st' := ⟨[(0, .c (.vec a0_l.length 11 (gL cSProfile dSProfile a0_l))), (1, .c (.int .i64 a1_start)), (2, .c (.int .i64 a2_t)), (3, .c (.own 0 a3_ahead.length))], [.arr 3 1 a3_ahead.length (gL (cInt .i64) 0 a3_ahead)]⟩) (sub_gen [0] rfl rfl ⟨zc rfl rfl, zc rfl rfl, zc rfl rfl, zc rfl rfl, trivial⟩ ⟨oa rfl, trivial⟩) ?_
  refine SOps.nil ?_
  refine SCode.seq ?_
  refine SCode.region (show SOps _ _ _ [0] _ _ from ?_)
  refine SOps.q rfl (.plain rfl) rfl (q_assign rfl rfl) ?_
  refine SOps.sub (st' := ⟨[(0, .c (.vec a0_l.length 11 (gL cSProfile dSProfile a0_l))), (1, .c (.int .i64 a1_start)), (2, .c (.int .i64 a2_t)), (3, .c (.own 0 a3_ahead.length)), (9, .c (.int .i64 268435457))], [.arr 3 1 a3_ahead.length (gL (cInt .i64) 0 a3_ahead)]⟩) (sub_gen [0] rfl rfl ⟨zc rfl rfl, zc rfl rfl, zc rfl rfl, zc rfl rfl, zc rfl rfl, trivial⟩ ⟨oa rfl, trivial⟩) ?_
  refine SOps.nil ?_
  refine SCode.join (σ := Int × (List Int)) (S := fun s => ⟨[(9, .c (.int .i64 s.1))], [.arr 3 1 s.2.length (gL (cInt .i64) 0 s.2)]⟩) (g := fun s => compose_earliest_p3 s.1 s.2 = some r) ?_ ?_
  rotate_left
  · refine SCode.seq ?_
    refine SCode.region (show SOps _ _ _ [0, 1, 2] _ _ from ?_)
    refine SOps.q rfl (.plain rfl) rfl (q_move rfl rfl) ?_
    refine SOps.q rfl (.plain rfl) rfl (q_len_vec rfl rfl sl22) ?_
    refine SOps.q rfl (.plain rfl) rfl (q_move rfl rfl) ?_
    refine SOps.sub (st' := ⟨[(1, .c (.int .i64 a1_start)), (2, .c (.int .i64 a2_t)), (3, .c (.own 0 a3_ahead.length)), (9, .c (.int .i64 268435457)), (12, .c (.vec a0_l.length 11 (gL cSProfile dSProfile a0_l))), (13, .c (.int .i64 (((a0_l).length : Int)))), (14, .c (.int .i64 0))], [.arr 3 1 a3_ahead.length (gL (cInt .i64) 0 a3_ahead)]⟩) (sub_gen [0] rfl rfl ⟨zc rfl rfl, zc rfl rfl, zc rfl rfl, zc rfl rfl, zc rfl rfl, zc rfl rfl, zc rfl rfl, trivial⟩ ⟨oa rfl, trivial⟩) ?_
    refine SOps.nil ?_
    refine SCode.block ?_
    refine SCode.sub (st' := ⟨[(1, .c (.int .i64 a1_start)), (2, .c (.int .i64 a2_t)), (3, .c (.own 0 a3_ahead.length)), (9, .c (.int .i64 268435457)), (12, .c (.vec a0_l.length 11 (gL cSProfile dSProfile a0_l))), (13, .c (.int .i64 (((a0_l).length : Int)))), (14, .c (.int .i64 0))], [.arr 3 1 a3_ahead.length (gL (cInt .i64) 0 a3_ahead)]⟩) (sub_gen [0] rfl rfl ⟨zc rfl rfl, zc rfl rfl, zc rfl rfl, zc rfl rfl, zc rfl rfl, zc rfl rfl, zc rfl rfl, trivial⟩ ⟨oa rfl, trivial⟩) ?_
    refine (SCode.loop (σ := Nat × (Int × Int × (List Int))) (S := fun s => ⟨[(1, .c (.int .i64 a1_start)), (2, .c (.int .i64 a2_t)), (3, .c (.own 0 s.2.2.2.length)), (9, .c (.int .i64 s.2.1)), (12, .c (.vec a0_l.length 11 (gL cSProfile dSProfile a0_l))), (13, .c (.int .i64 (((a0_l).length : Int)))), (14, .c (.int .i64 s.2.2.1))], [.arr 3 1 s.2.2.2.length (gL (cInt .i64) 0 s.2.2.2)]⟩) (g := fun s => compose_earliest_l33 F a0_l a1_start a2_t s.1 s.2.1 s.2.2.1 s.2.2.2 = some r) (μ := fun s => s.1) (F, (268435457, 0, a3_ahead)) h ?_)
    rintro ⟨n_33, ⟨best_17, t14_18, o0_19⟩⟩ h
    replace h : compose_earliest_l33 F a0_l a1_start a2_t n_33 best_17 t14_18 o0_19 = some r := h
    show SCode _ _ _ ⟨[(1, .c (.int .i64 a1_start)), (2, .c (.int .i64 a2_t)), (3, .c (.own 0 o0_19.length)), (9, .c (.int .i64 best_17)), (12, .c (.vec a0_l.length 11 (gL cSProfile dSProfile a0_l))), (13, .c (.int .i64 (((a0_l).length : Int)))), (14, .c (.int .i64 t14_18))], [.arr 3 1 o0_19.length (gL (cInt .i64) 0 o0_19)]⟩ _
    cases n_33 with
    | zero => cases h
    | succ n_33 =>
      replace h : compose_earliest_b33 F a0_l a1_start a2_t (fun best_17 t14_18 o0_19 => compose_earliest_l33 F a0_l a1_start a2_t n_33 best_17 t14_18 o0_19) best_17 t14_18 o0_19 = some r := h
      unfold compose_earliest_b33 at h
      refine SCode.seq ?_
      refine SCode.region (show SOps _ _ _ [0] _ _ from ?_)
      refine SOps.q rfl (.plain rfl) rfl (q_lss rfl rfl rfl) ?_
      refine SOps.sub (st' := ⟨[(1, .c (.int .i64 a1_start)), (2, .c (.int .i64 a2_t)), (3, .c (.own 0 o0_19.length)), (9, .c (.int .i64 best_17)), (12, .c (.vec a0_l.length 11 (gL cSProfile dSProfile a0_l))), (13, .c (.int .i64 (((a0_l).length : Int)))), (14, .c (.int .i64 t14_18)), (15, .c (.bool (decide (t14_18 < ((a0_l).length : Int)))))], [.arr 3 1 o0_19.length (gL (cInt .i64) 0 o0_19)]⟩) (sub_gen [0] rfl rfl ⟨zc rfl rfl, zc rfl rfl, zc rfl rfl, zc rfl rfl, zc rfl rfl, zc rfl rfl, zc rfl rfl, zc rfl rfl, trivial⟩ ⟨oa rfl, trivial⟩) ?_
      refine SOps.nil ?_
      refine SCode.seq ?_
      rcases cond_out h with ⟨g34, h⟩ | ⟨g34, h⟩
      · refine SCode.cond_t rfl g34 ?_
        refine SCode.skip ?_
        refine SCode.seq ?_
        refine SCode.block ?_
        refine SCode.seq ?_
        obtain ⟨g35, h⟩ := guard_out h
        refine SCode.region (show SOps _ _ _ [0, 1, 2, 3, 4, 5] _ _ from ?_)
        refine SOps.q rfl (.plain rfl) rfl (q_move rfl rfl) ?_
        refine SOps.q rfl (.plain rfl) rfl (q_index_vec rfl rfl rfl sl22 rfl g35.1 g35.2) ?_
        refine SOps.q rfl (.plain rfl) rfl (q_load_eptr_all rfl rfl rfl ty31) ?_
        refine SOps.e rfl (.plain rfl) (e_alloc rfl rfl rfl z31) ?_
        refine SOps.q rfl (.plain rfl) rfl (q_assign rfl rfl) ?_
        refine SOps.e rfl (.plain rfl) (e_store_box rfl rfl rfl rfl rfl ty31 rfl rfl rfl rfl) ?_
        refine SOps.sub (st' := ⟨[(1, .c (.int .i64 a1_start)), (2, .c (.int .i64 a2_t)), (3, .c (.own 0 o0_19.length)), (9, .c (.int .i64 best_17)), (10, .c (.int .i64 t14_18)), (11, .c (.ptr 1 0)), (12, .c (.vec a0_l.length 11 (gL cSProfile dSProfile a0_l))), (13, .c (.int .i64 (((a0_l).length : Int)))), (14, .c (.int .i64 t14_18))], [.arr 3 1 o0_19.length (gL (cInt .i64) 0 o0_19), .box [.int .i64 ((a0_l.getD t14_18.toNat dSProfile).ID), .int .i64 ((a0_l.getD t14_18.toNat dSProfile).Level), .int .i64 ((a0_l.getD t14_18.toNat dSProfile).Purpose), .int .i64 ((a0_l.getD t14_18.toNat dSProfile).Kind), .int .i64 ((a0_l.getD t14_18.toNat dSProfile).Conn), .str ((a0_l.getD t14_18.toNat dSProfile).Txn), .int .i64 ((a0_l.getD t14_18.toNat dSProfile).Span_From), .int .i64 ((a0_l.getD t14_18.toNat dSProfile).Span_To), .int .i64 ((a0_l.getD t14_18.toNat dSProfile).Start), .int .i64 ((a0_l.getD t14_18.toNat dSProfile).Duration), .vec ((a0_l.getD t14_18.toNat dSProfile).Periods).length 2 (gL cSPeriod dSPeriod ((a0_l.getD t14_18.toNat dSProfile).Periods))]]⟩) (sub_gen [0, 1] rfl rfl ⟨zc rfl rfl, zc rfl rfl, zc rfl rfl, zc rfl rfl, zc rfl rfl, zc rfl rfl, zc rfl rfl, zc rfl rfl, zc rfl rfl, trivial⟩ ⟨oa rfl, ⟨_, rfl, ⟨ii rfl rfl, ii rfl rfl, ii rfl rfl, ii rfl rfl, ii rfl rfl, ii rfl rfl, ii rfl rfl, ii rfl rfl, ii rfl rfl, ii rfl rfl, ii rfl rfl, trivial⟩⟩, trivial⟩) ?_
        refine SOps.nil ?_
        refine SCode.join (σ := (List Int)) (S := fun s => ⟨[(1, .c (.int .i64 a1_start)), (2, .c (.int .i64 a2_t)), (3, .c (.own 0 s.length)), (9, .c (.int .i64 best_17)), (10, .c (.int .i64 t14_18)), (12, .c (.vec a0_l.length 11 (gL cSProfile dSProfile a0_l))), (13, .c (.int .i64 (((a0_l).length : Int)))), (14, .c (.int .i64 t14_18))], [.arr 3 1 s.length (gL (cInt .i64) 0 s)]⟩) (g := fun s => compose_earliest_p38 best_17 t14_18 (fun best_17 t14_18 o0_19 => compose_earliest_l33 F a0_l a1_start a2_t n_33 best_17 t14_18 o0_19) s = some r) ?_ ?_
        rotate_left
        · refine SCode.seq ?_
          obtain ⟨g39, h⟩ := guard_out h
          refine SCode.region (show SOps _ _ _ [0, 1, 2, 3, 4, 5] _ _ from ?_)
          refine SOps.q rfl (.plain rfl) rfl (q_move rfl rfl) ?_
          refine SOps.q rfl (.plain rfl) rfl (q_move rfl rfl) ?_
          refine SOps.q rfl (.plain rfl) rfl (q_index_own rfl rfl rfl sl69 g39.1 g39.2) ?_
          refine SOps.q rfl (.plain rfl) rfl (q_load_aptr rfl rfl rfl (toNat_lt g39) rfl ty3) ?_
          refine SOps.q rfl (.plain rfl) rfl (q_move rfl rfl) ?_
          refine SOps.q rfl (.plain rfl) rfl (q_leq rfl rfl rfl) ?_
          refine SOps.sub (st' := ⟨[(1, .c (.int .i64 a1_start)), (2, .c (.int .i64 a2_t)), (3, .c (.own 0 o0_19.length)), (9, .c (.int .i64 best_17)), (10, .c (.int .i64 t14_18)), (11, .c (.ptr 1 0)), (12, .c (.vec a0_l.length 11 (gL cSProfile dSProfile a0_l))), (13, .c (.int .i64 (((a0_l).length : Int)))), (14, .c (.int .i64 t14_18)), (24, .c (.bool (decide (o0_19.getD t14_18.toNat 0 ≤ a2_t))))], [.arr 3 1 o0_19.length (gL (cInt .i64) 0 o0_19), .box [.int .i64 ((a0_l.getD t14_18.toNat dSProfile).ID), .int .i64 ((a0_l.getD t14_18.toNat dSProfile).Level), .int .i64 ((a0_l.getD t14_18.toNat dSProfile).Purpose), .int .i64 ((a0_l.getD t14_18.toNat dSProfile).Kind), .int .i64 ((a0_l.getD t14_18.toNat dSProfile).Conn), .str ((a0_l.getD t14_18.toNat dSProfile).Txn), .int .i64 ((a0_l.getD t14_18.toNat dSProfile).Span_From), .int .i64 ((a0_l.getD t14_18.toNat dSProfile).Span_To), .int .i64 ((a0_l.getD t14_18.toNat dSProfile).Start), .int .i64 ((a0_l.getD t14_18.toNat dSProfile).Duration), .vec ((a0_l.getD t14_18.toNat dSProfile).Periods).length 2 (gL cSPeriod dSPeriod ((a0_l.getD t14_18.toNat dSProfile).Periods))]]⟩) (sub_gen [0, 1] rfl rfl ⟨zc rfl rfl, zc rfl rfl, zc rfl rfl, zc rfl rfl, zc rfl rfl, zc rfl rfl, zc rfl rfl, zc rfl rfl, zc rfl rfl, zc rfl rfl, trivial⟩ ⟨oa rfl, ⟨_, rfl, ⟨ii rfl rfl, ii rfl rfl, ii rfl rfl, ii rfl rfl, ii rfl rfl, ii rfl rfl, ii rfl rfl, ii rfl rfl, ii rfl rfl, ii rfl rfl, ii rfl rfl, trivial⟩⟩, trivial⟩) ?_
          refine SOps.nil ?_
          rcases cond_out h with ⟨g40, h⟩ | ⟨g40, h⟩
          · refine SCode.cond_t rfl g40 ?_
            refine SCode.seq ?_
            obtain ⟨c_41, g42, h⟩ := bind_out h
            try dsimp only at h
            obtain ⟨g43, h⟩ := guard_out h
            refine SCode.region (show SOps _ _ _ [0, 1, 2, 3, 4, 5, 6, 7] _ _ from ?_)
            refine SOps.q rfl (.plain rfl) rfl (q_move rfl rfl) ?_
            refine SOps.q rfl (.plain rfl) rfl (q_move rfl rfl) ?_
            refine SOps.q rfl (.plain rfl) rfl (q_load_ptr_all rfl rfl rfl rfl rfl ty31) ?_
            refine SOps.q rfl (.plain rfl) rfl (q_move rfl rfl) ?_
            refine SOps.q rfl (.plain rfl) rfl (q_move rfl rfl) ?_
            refine SOps.q rfl (.plain rfl) rfl (q_call (profile_Next_ok F (a0_l.getD t14_18.toNat dSProfile) a1_start a2_t c_41 g42) [] rfl fn43 ⟨⟨rfl, rfl⟩, ⟨_, rfl, .inl ⟨rfl, rfl⟩⟩, ⟨_, rfl, .inl ⟨rfl, rfl⟩⟩, trivial⟩ (.inl rfl)) ?_
            refine SOps.q rfl (.plain rfl) rfl (q_index_own rfl rfl rfl sl69 g43.1 g43.2) ?_
            refine SOps.e rfl (.plain rfl) (e_storeL c_41 rfl rfl rfl rfl rfl (toNat_lt g43) ty3 rfl rfl rfl rfl rfl rfl) ?_
            refine SOps.sub (st' := ⟨[(1, .c (.int .i64 a1_start)), (2, .c (.int .i64 a2_t)), (3, .c (.own 0 (o0_19.set t14_18.toNat c_41).length)), (9, .c (.int .i64 best_17)), (10, .c (.int .i64 t14_18)), (12, .c (.vec a0_l.length 11 (gL cSProfile dSProfile a0_l))), (13, .c (.int .i64 (((a0_l).length : Int)))), (14, .c (.int .i64 t14_18))], [.arr 3 1 (o0_19.set t14_18.toNat c_41).length (gL (cInt .i64) 0 (o0_19.set t14_18.toNat c_41))]⟩) (sub_gen [0] rfl rfl ⟨zc rfl rfl, zc rfl rfl, ⟨_, rfl, .inl ⟨rfl, congrArg (Cell.own 0) (List.length_set : (o0_19.set t14_18.toNat c_41).length = o0_19.length).symm⟩⟩, zc rfl rfl, zc rfl rfl, zc rfl rfl, zc rfl rfl, zc rfl rfl, trivial⟩ ⟨oa rfl, trivial⟩) ?_
            refine SOps.nil ?_
            refine SCode.seq ?_
            obtain ⟨g44, h⟩ := guard_out h
            refine SCode.region (show SOps _ _ _ [0, 1, 2, 3, 4] _ _ from ?_)
            refine SOps.q rfl (.plain rfl) rfl (q_move rfl rfl) ?_
            refine SOps.q rfl (.plain rfl) rfl (q_move rfl rfl) ?_
            refine SOps.q rfl (.plain rfl) rfl (q_index_own rfl rfl rfl sl69 g44.1 g44.2) ?_
            refine SOps.q rfl (.plain rfl) rfl (q_load_aptr rfl rfl rfl (toNat_lt g44) rfl ty3) ?_
            refine SOps.q rfl (.plain rfl) rfl (q_lss rfl rfl rfl) ?_
            refine SOps.sub (st' := ⟨[(1, .c (.int .i64 a1_start)), (2, .c (.int .i64 a2_t)), (3, .c (.own 0 (o0_19.set t14_18.toNat c_41).length)), (9, .c (.int .i64 best_17)), (10, .c (.int .i64 t14_18)), (12, .c (.vec a0_l.length 11 (gL cSProfile dSProfile a0_l))), (13, .c (.int .i64 (((a0_l).length : Int)))), (14, .c (.int .i64 t14_18)), (36, .c (.bool (decide ((o0_19.set t14_18.toNat c_41).getD t14_18.toNat 0 < 0))))], [.arr 3 1 (o0_19.set t14_18.toNat c_41).length (gL (cInt .i64) 0 (o0_19.set t14_18.toNat c_41))]⟩) (sub_gen [0] rfl rfl ⟨zc rfl rfl, zc rfl rfl, zc rfl rfl, zc rfl rfl, zc rfl rfl, zc rfl rfl, zc rfl rfl, zc rfl rfl, zc rfl rfl, trivial⟩ ⟨oa rfl, trivial⟩) ?_
            refine SOps.nil ?_
            rcases cond_out h with ⟨g45, h⟩ | ⟨g45, h⟩
            · refine SCode.cond_t rfl g45 ?_
              obtain ⟨g46, h⟩ := guard_out h
              refine SCode.region (show SOps _ _ _ [0, 1, 2, 3] _ _ from ?_)
              refine SOps.q rfl (.plain rfl) rfl (q_move rfl rfl) ?_
              refine SOps.q rfl (.plain rfl) rfl (q_move rfl rfl) ?_
              refine SOps.q rfl (.plain rfl) rfl (q_index_own rfl rfl rfl sl69 g46.1 g46.2) ?_
              refine SOps.e rfl (.plain rfl) (e_storeL 268435457 rfl rfl rfl rfl rfl (toNat_lt g46) ty3 rfl rfl rfl rfl rfl rfl) ?_
              refine SOps.sub (st' := ⟨[(1, .c (.int .i64 a1_start)), (2, .c (.int .i64 a2_t)), (3, .c (.own 0 ((o0_19.set t14_18.toNat c_41).set t14_18.toNat 268435457).length)), (9, .c (.int .i64 best_17)), (10, .c (.int .i64 t14_18)), (12, .c (.vec a0_l.length 11 (gL cSProfile dSProfile a0_l))), (13, .c (.int .i64 (((a0_l).length : Int)))), (14, .c (.int .i64 t14_18))], [.arr 3 1 ((o0_19.set t14_18.toNat c_41).set t14_18.toNat 268435457).length (gL (cInt .i64) 0 ((o0_19.set t14_18.toNat c_41).set t14_18.toNat 268435457))]⟩) (sub_gen [0] rfl rfl ⟨zc rfl rfl, zc rfl rfl, ⟨_, rfl, .inl ⟨rfl, congrArg (Cell.own 0) (List.length_set : ((o0_19.set t14_18.toNat c_41).set t14_18.toNat 268435457).length = (o0_19.set t14_18.toNat c_41).length).symm⟩⟩, zc rfl rfl, zc rfl rfl, zc rfl rfl, zc rfl rfl, zc rfl rfl, trivial⟩ ⟨oa rfl, trivial⟩) ?_
              refine SOps.nil ?_
              exact ⟨(o0_19.set t14_18.toNat c_41).set t14_18.toNat 268435457, h, sub_gen [0] rfl rfl ⟨zc rfl rfl, zc rfl rfl, zc rfl rfl, zc rfl rfl, zc rfl rfl, zc rfl rfl, zc rfl rfl, zc rfl rfl, trivial⟩ ⟨oa rfl, trivial⟩⟩
            refine SCode.cond_f rfl g45 ?_
            refine SCode.skip ?_
            exact ⟨o0_19.set t14_18.toNat c_41, h, sub_gen [0] rfl rfl ⟨zc rfl rfl, zc rfl rfl, zc rfl rfl, zc rfl rfl, zc rfl rfl, zc rfl rfl, zc rfl rfl, zc rfl rfl, trivial⟩ ⟨oa rfl, trivial⟩⟩
          refine SCode.cond_f rfl g40 ?_
          refine SCode.skip ?_
          exact ⟨o0_19, h, sub_gen [0] rfl rfl ⟨zc rfl rfl, zc rfl rfl, zc rfl rfl, zc rfl rfl, zc rfl rfl, zc rfl rfl, zc rfl rfl, zc rfl rfl, trivial⟩ ⟨oa rfl, trivial⟩⟩
        rintro o0_36 h
        show SCode _ _ _ ⟨[(1, .c (.int .i64 a1_start)), (2, .c (.int .i64 a2_t)), (3, .c (.own 0 o0_36.length)), (9, .c (.int .i64 best_17)), (10, .c (.int .i64 t14_18)), (12, .c (.vec a0_l.length 11 (gL cSProfile dSProfile a0_l))), (13, .c (.int .i64 (((a0_l).length : Int)))), (14, .c (.int .i64 t14_18))], [.arr 3 1 o0_36.length (gL (cInt .i64) 0 o0_36)]⟩ _
        replace h : compose_earliest_p38 best_17 t14_18 (fun best_17 t14_18 o0_19 => compose_earliest_l33 F a0_l a1_start a2_t n_33 best_17 t14_18 o0_19) o0_36 = some r := h
        unfold compose_earliest_p38 at h
        obtain ⟨g37, h⟩ := guard_out h
        refine SCode.region (show SOps _ _ _ [0, 1, 2, 3, 4, 5, 6] _ _ from ?_)
        refine SOps.q rfl (.plain rfl) rfl (q_move rfl rfl) ?_
        refine SOps.q rfl (.plain rfl) rfl (q_move rfl rfl) ?_
        refine SOps.q rfl (.plain rfl) rfl (q_move rfl rfl) ?_
        refine SOps.q rfl (.plain rfl) rfl (q_index_own rfl rfl rfl sl69 g37.1 g37.2) ?_
        refine SOps.q rfl (.plain rfl) rfl (q_load_aptr rfl rfl rfl (toNat_lt g37) rfl ty3) ?_
        refine SOps.q rfl (.plain rfl) rfl (q_min rfl rfl rfl) ?_
        refine SOps.q rfl (.plain rfl) rfl (q_assign rfl rfl) ?_
        refine SOps.sub (st' := ⟨[(1, .c (.int .i64 a1_start)), (2, .c (.int .i64 a2_t)), (3, .c (.own 0 o0_36.length)), (9, .c (.int .i64 ((if o0_36.getD t14_18.toNat 0 < best_17 then o0_36.getD t14_18.toNat 0 else best_17)))), (12, .c (.vec a0_l.length 11 (gL cSProfile dSProfile a0_l))), (13, .c (.int .i64 (((a0_l).length : Int)))), (14, .c (.int .i64 t14_18))], [.arr 3 1 o0_36.length (gL (cInt .i64) 0 o0_36)]⟩) (sub_gen [0] rfl rfl ⟨zc rfl rfl, zc rfl rfl, zc rfl rfl, zc rfl rfl, zc rfl rfl, zc rfl rfl, zc rfl rfl, trivial⟩ ⟨oa rfl, trivial⟩) ?_
        refine SOps.nil ?_
        refine SCode.region (show SOps _ _ _ [0, 1] _ _ from ?_)
        refine SOps.q rfl (.plain rfl) rfl (q_add rfl rfl rfl) ?_
        refine SOps.q rfl (.plain rfl) rfl (q_move rfl rfl) ?_
        refine SOps.sub (st' := ⟨[(1, .c (.int .i64 a1_start)), (2, .c (.int .i64 a2_t)), (3, .c (.own 0 o0_36.length)), (9, .c (.int .i64 ((if o0_36.getD t14_18.toNat 0 < best_17 then o0_36.getD t14_18.toNat 0 else best_17)))), (12, .c (.vec a0_l.length 11 (gL cSProfile dSProfile a0_l))), (13, .c (.int .i64 (((a0_l).length : Int)))), (14, .c (.int .i64 (IntKind.wrap .i64 (t14_18 + 1))))], [.arr 3 1 o0_36.length (gL (cInt .i64) 0 o0_36)]⟩) (sub_gen [0] rfl rfl ⟨zc rfl rfl, zc rfl rfl, zc rfl rfl, zc rfl rfl, zc rfl rfl, zc rfl rfl, zc rfl rfl, trivial⟩ ⟨oa rfl, trivial⟩) ?_
        refine SOps.nil ?_
        exact ⟨(n_33, ((if o0_36.getD t14_18.toNat 0 < best_17 then o0_36.getD t14_18.toNat 0 else best_17), IntKind.wrap .i64 (t14_18 + 1), o0_36)), h, Nat.lt_succ_self n_33, sub_gen [0] rfl rfl ⟨zc rfl rfl, zc rfl rfl, zc rfl rfl, zc rfl rfl, zc rfl rfl, zc rfl rfl, zc rfl rfl, trivial⟩ ⟨oa rfl, trivial⟩⟩
      refine SCode.cond_f rfl g34 ?_
      refine SCode.exit ?_
      exact ⟨(best_17, o0_19), h, sub_gen [0] rfl rfl ⟨zc rfl rfl, trivial⟩ ⟨oa rfl, trivial⟩⟩
  rintro ⟨best_1, o0_2⟩ h
  show SCode _ _ _ ⟨[(9, .c (.int .i64 best_1))], [.arr 3 1 o0_2.length (gL (cInt .i64) 0 o0_2)]⟩ _
  replace h : compose_earliest_p3 best_1 o0_2 = some r := h
  unfold compose_earliest_p3 at h
  refine SCode.seq ?_
  refine SCode.region (show SOps _ _ _ [0, 1] _ _ from ?_)
  refine SOps.q rfl (.plain rfl) rfl (q_move rfl rfl) ?_
  refine SOps.q rfl (.plain rfl) rfl (q_assign rfl rfl) ?_
  refine SOps.sub (st' := ⟨[(8, .c (.int .i64 best_1))], [.arr 3 1 o0_2.length (gL (cInt .i64) 0 o0_2)]⟩) (sub_gen [0] rfl rfl ⟨zc rfl rfl, trivial⟩ ⟨oa rfl, trivial⟩) ?_
  refine SOps.nil ?_
  refine SCode.ret ?_
  obtain rfl := Option.some.inj h
  exact ⟨⟨[(8, .c (.int .i64 best_1))], [.arr 3 1 o0_2.length (gL (cInt .i64) 0 o0_2)]⟩, _, sub_gen [0] rfl rfl ⟨zc rfl rfl, trivial⟩ ⟨oa rfl, trivial⟩, resA1 (v := .c (.int .i64 best_1)) rfl rfl, ⟨rfl, rfl⟩⟩
end Go.Proofs.Ytjpooimkhkhgkaa.W
