/- Written by a program of ours (wip/eng/gen.py): the functions compute their models. -/
import Derived.Test.YtfbkimhoncfnmaaFacts
import Derived.Test.YtfbkimhoncfnmaaV3x3
namespace Go.Proofs.Ytfbkimhoncfnmaa.W
open Go Go.Proofs Go.Proofs.Ytfbkimhoncfnmaa.E Go.Proofs.Ytfbkimhoncfnmaa.M
set_option linter.unusedVariables false
set_option maxRecDepth 100000 in
set_option maxHeartbeats 8000000 in
theorem profile_Limit_ok (F : Nat) (a0_p : SProfile) (a1_start : Int) (a2_t : Int) (r : Int × Bool) (h : profile_Limit F a0_p a1_start a2_t = some r) :
    SFun Try.prog 32 [] [.a [.int .i64 a0_p.ID, .int .i64 a0_p.Level, .int .i64 a0_p.Purpose, .int .i64 a0_p.Kind, .int .i64 a0_p.Conn, .str a0_p.Txn, .int .i64 a0_p.Span_From, .int .i64 a0_p.Span_To, .int .i64 a0_p.Start, .int .i64 a0_p.Duration, .vec a0_p.Periods.length 2 (gL cSPeriod dSPeriod a0_p.Periods)], .c (.int .i64 a1_start), .c (.int .i64 a2_t)] (fun x _ => x = .t [.c (.int .i64 r.1), .c (.bool r.2)]) := by
  refine SFun.of (n := 77) Try.func32 rfl rfl rfl ?_
  unfold profile_Limit at h
  show SCode _ _ _ ⟨[(0, .a [.int .i64 a0_p.ID, .int .i64 a0_p.Level, .int .i64 a0_p.Purpose, .int .i64 a0_p.Kind, .int .i64 a0_p.Conn, .str a0_p.Txn, .int .i64 a0_p.Span_From, .int .i64 a0_p.Span_To, .int .i64 a0_p.Start, .int .i64 a0_p.Duration, .vec a0_p.Periods.length 2 (gL cSPeriod dSPeriod a0_p.Periods)]), (1, .c (.int .i64 a1_start)), (2, .c (.int .i64 a2_t))], []⟩ _
  refine SCode.seq ?_
  refine SCode.region (show SOps _ _ _ [0, 1, 2] _ _ from ?_)
  refine SOps.e rfl (.plain rfl) (e_box rfl rfl rfl rfl rfl rfl) ?_
  refine SOps.q rfl (.plain rfl) rfl (q_assign rfl rfl) ?_
  refine SOps.q rfl (.plain rfl) rfl (q_assign rfl rfl) ?_
  refine SOps.sub (st' := ⟨[(1, .c (.int .i64 a1_start)), (2, .c (.int .i64 a2_t)), (3, .c (.ptr 0 0))], [.box [.int .i64 a0_p.ID, .int .i64 a0_p.Level, .int .i64 a0_p.Purpose, .int .i64 a0_p.Kind, .int .i64 a0_p.Conn, .str a0_p.Txn, .int .i64 a0_p.Span_From, .int .i64 a0_p.Span_To, .int .i64 a0_p.Start, .int .i64 a0_p.Duration, .vec a0_p.Periods.length 2 (gL cSPeriod dSPeriod a0_p.Periods)]]⟩) (sub_gen [0] rfl rfl ⟨zc rfl rfl, zc rfl rfl, zc rfl rfl, trivial⟩ ⟨⟨_, rfl, ⟨ii rfl rfl, ii rfl rfl, ii rfl rfl, ii rfl rfl, ii rfl rfl, ii rfl rfl, ii rfl rfl, ii rfl rfl, ii rfl rfl, ii rfl rfl, ii rfl rfl, trivial⟩⟩, trivial⟩) ?_
  refine SOps.nil ?_
  refine SCode.join (σ := Unit) (S := fun s => ⟨[(1, .c (.int .i64 a1_start)), (2, .c (.int .i64 a2_t)), (3, .c (.ptr 0 0))], [.box [.int .i64 a0_p.ID, .int .i64 a0_p.Level, .int .i64 a0_p.Purpose, .int .i64 a0_p.Kind, .int .i64 a0_p.Conn, .str a0_p.Txn, .int .i64 a0_p.Span_From, .int .i64 a0_p.Span_To, .int .i64 a0_p.Start, .int .i64 a0_p.Duration, .vec a0_p.Periods.length 2 (gL cSPeriod dSPeriod a0_p.Periods)]]⟩) (g := fun s => profile_Limit_p37 F a0_p a1_start a2_t = some r) ?_ ?_
  rotate_left
  · refine SCode.seq ?_
    rcases cond_out h with ⟨g38, h⟩ | ⟨g38, h⟩
    · refine SCode.region (show SOps _ _ _ [0, 1, 2, 3, 4, 5, 6, 7, 8, 9, 10, 11, 12, 13, 14, 15, 16, 17] _ _ from ?_)
      refine SOps.q rfl (.plain rfl) rfl (q_move rfl rfl) ?_
      refine SOps.q rfl (.plain rfl) rfl (q_field_ptr rfl rfl fd29_6) ?_
      refine SOps.q rfl (.plain rfl) rfl (q_field_ptr rfl rfl fd26_0) ?_
      refine SOps.q rfl (.plain rfl) rfl (q_load_ptr rfl rfl rfl rfl ty3) ?_
      refine SOps.q rfl (.plain rfl) rfl (q_lss rfl rfl rfl) ?_
      refine SOps.q rfl (.plain rfl) rfl (q_move rfl rfl) ?_
      refine SOps.skip rfl 5 20 false rfl rfl (.inl (gT g38)) rfl ?_
      refine SOps.skip rfl 5 20 false rfl rfl (.inl (gT g38)) rfl ?_
      refine SOps.skip rfl 5 20 false rfl rfl (.inl (gT g38)) rfl ?_
      refine SOps.skip rfl 5 20 false rfl rfl (.inl (gT g38)) rfl ?_
      refine SOps.skip rfl 5 20 false rfl rfl (.inl (gT g38)) rfl ?_
      refine SOps.skip rfl 10 25 true rfl rfl (.inr rfl) rfl ?_
      refine SOps.skip rfl 10 25 true rfl rfl (.inr rfl) rfl ?_
      refine SOps.skip rfl 10 25 true rfl rfl (.inr rfl) rfl ?_
      refine SOps.skip rfl 10 25 true rfl rfl (.inr rfl) rfl ?_
      refine SOps.skip rfl 10 25 true rfl rfl (.inr rfl) rfl ?_
      refine SOps.skip rfl 5 20 false rfl rfl (.inl (gT g38)) rfl ?_
      refine SOps.q rfl (.plain rfl) rfl (q_pick_t rfl rfl g38 rfl) ?_
      refine SOps.sub (st' := ⟨[(1, .c (.int .i64 a1_start)), (2, .c (.int .i64 a2_t)), (3, .c (.ptr 0 0)), (32, .c (.bool true))], [.box [.int .i64 a0_p.ID, .int .i64 a0_p.Level, .int .i64 a0_p.Purpose, .int .i64 a0_p.Kind, .int .i64 a0_p.Conn, .str a0_p.Txn, .int .i64 a0_p.Span_From, .int .i64 a0_p.Span_To, .int .i64 a0_p.Start, .int .i64 a0_p.Duration, .vec a0_p.Periods.length 2 (gL cSPeriod dSPeriod a0_p.Periods)]]⟩) (sub_gen [0] rfl rfl ⟨zc rfl rfl, zc rfl rfl, zc rfl rfl, zc rfl rfl, trivial⟩ ⟨⟨_, rfl, ⟨ii rfl rfl, ii rfl rfl, ii rfl rfl, ii rfl rfl, ii rfl rfl, ii rfl rfl, ii rfl rfl, ii rfl rfl, ii rfl rfl, ii rfl rfl, ii rfl rfl, trivial⟩⟩, trivial⟩) ?_
      refine SOps.nil ?_
      refine SCode.cond_t rfl rfl ?_
      refine SCode.seq ?_
      refine SCode.region (show SOps _ _ _ [0, 1] _ _ from ?_)
      refine SOps.q rfl (.plain rfl) rfl (q_assign rfl rfl) ?_
      refine SOps.q rfl (.plain rfl) rfl (q_assign rfl rfl) ?_
      refine SOps.sub (st' := ⟨[(6, .c (.int .i64 0)), (7, .c (.bool false))], []⟩) (sub_gen [] rfl rfl ⟨zc rfl rfl, zc rfl rfl, trivial⟩ trivial) ?_
      refine SOps.nil ?_
      refine SCode.ret ?_
      obtain rfl := Option.some.inj h
      exact ⟨⟨[(6, .c (.int .i64 0)), (7, .c (.bool false))], []⟩, _, sub_gen [] rfl rfl ⟨zc rfl rfl, zc rfl rfl, trivial⟩ trivial, resA2 (v1 := .c (.int .i64 0)) (v2 := .c (.bool false)) rfl rfl rfl, rfl⟩
    rcases cond_out h with ⟨g39, h⟩ | ⟨g39, h⟩
    · refine SCode.region (show SOps _ _ _ [0, 1, 2, 3, 4, 5, 6, 7, 8, 9, 10, 11, 12, 13, 14, 15, 16, 17] _ _ from ?_)
      refine SOps.q rfl (.plain rfl) rfl (q_move rfl rfl) ?_
      refine SOps.q rfl (.plain rfl) rfl (q_field_ptr rfl rfl fd29_6) ?_
      refine SOps.q rfl (.plain rfl) rfl (q_field_ptr rfl rfl fd26_0) ?_
      refine SOps.q rfl (.plain rfl) rfl (q_load_ptr rfl rfl rfl rfl ty3) ?_
      refine SOps.q rfl (.plain rfl) rfl (q_lss rfl rfl rfl) ?_
      refine SOps.q rfl (.plain rfl) rfl (q_move rfl rfl) ?_
      refine SOps.q rfl (.guard 5 20 false rfl rfl (gF g38)) rfl (q_field_ptr rfl rfl fd29_6) ?_
      refine SOps.q rfl (.guard 5 20 false rfl rfl (gF g38)) rfl (q_field_ptr rfl rfl fd26_1) ?_
      refine SOps.q rfl (.guard 5 20 false rfl rfl (gF g38)) rfl (q_load_ptr rfl rfl rfl rfl ty3) ?_
      refine SOps.q rfl (.guard 5 20 false rfl rfl (gF g38)) rfl (q_neq rfl rfl rfl) ?_
      refine SOps.q rfl (.guard 5 20 false rfl rfl (gF g38)) rfl (q_move rfl rfl) ?_
      refine SOps.q rfl (.guard 10 25 true rfl rfl (gT g39)) rfl (q_move rfl rfl) ?_
      refine SOps.q rfl (.guard 10 25 true rfl rfl (gT g39)) rfl (q_field_ptr rfl rfl fd29_6) ?_
      refine SOps.q rfl (.guard 10 25 true rfl rfl (gT g39)) rfl (q_field_ptr rfl rfl fd26_1) ?_
      refine SOps.q rfl (.guard 10 25 true rfl rfl (gT g39)) rfl (q_load_ptr rfl rfl rfl rfl ty3) ?_
      refine SOps.q rfl (.guard 10 25 true rfl rfl (gT g39)) rfl (q_geq rfl rfl rfl) ?_
      refine SOps.q rfl (.guard 5 20 false rfl rfl (gF g38)) rfl (q_pick_t rfl rfl g39 rfl) ?_
      refine SOps.q rfl (.plain rfl) rfl (q_pick_f rfl rfl g38 rfl) ?_
      refine SOps.sub (st' := ⟨[(1, .c (.int .i64 a1_start)), (2, .c (.int .i64 a2_t)), (3, .c (.ptr 0 0)), (32, .c (.bool (decide (a0_p.Span_To ≤ a2_t))))], [.box [.int .i64 a0_p.ID, .int .i64 a0_p.Level, .int .i64 a0_p.Purpose, .int .i64 a0_p.Kind, .int .i64 a0_p.Conn, .str a0_p.Txn, .int .i64 a0_p.Span_From, .int .i64 a0_p.Span_To, .int .i64 a0_p.Start, .int .i64 a0_p.Duration, .vec a0_p.Periods.length 2 (gL cSPeriod dSPeriod a0_p.Periods)]]⟩) (sub_gen [0] rfl rfl ⟨zc rfl rfl, zc rfl rfl, zc rfl rfl, zc rfl rfl, trivial⟩ ⟨⟨_, rfl, ⟨ii rfl rfl, ii rfl rfl, ii rfl rfl, ii rfl rfl, ii rfl rfl, ii rfl rfl, ii rfl rfl, ii rfl rfl, ii rfl rfl, ii rfl rfl, ii rfl rfl, trivial⟩⟩, trivial⟩) ?_
      refine SOps.nil ?_
      rcases cond_out h with ⟨g40, h⟩ | ⟨g40, h⟩
      · refine SCode.cond_t rfl g40 ?_
        refine SCode.seq ?_
        refine SCode.region (show SOps _ _ _ [0, 1] _ _ from ?_)
        refine SOps.q rfl (.plain rfl) rfl (q_assign rfl rfl) ?_
        refine SOps.q rfl (.plain rfl) rfl (q_assign rfl rfl) ?_
        refine SOps.sub (st' := ⟨[(6, .c (.int .i64 0)), (7, .c (.bool false))], []⟩) (sub_gen [] rfl rfl ⟨zc rfl rfl, zc rfl rfl, trivial⟩ trivial) ?_
        refine SOps.nil ?_
        refine SCode.ret ?_
        obtain rfl := Option.some.inj h
        exact ⟨⟨[(6, .c (.int .i64 0)), (7, .c (.bool false))], []⟩, _, sub_gen [] rfl rfl ⟨zc rfl rfl, zc rfl rfl, trivial⟩ trivial, resA2 (v1 := .c (.int .i64 0)) (v2 := .c (.bool false)) rfl rfl rfl, rfl⟩
      refine SCode.cond_f rfl g40 ?_
      refine SCode.skip ?_
      exact ⟨(), h, sub_gen [0] rfl rfl ⟨zc rfl rfl, zc rfl rfl, zc rfl rfl, trivial⟩ ⟨⟨_, rfl, ⟨ii rfl rfl, ii rfl rfl, ii rfl rfl, ii rfl rfl, ii rfl rfl, ii rfl rfl, ii rfl rfl, ii rfl rfl, ii rfl rfl, ii rfl rfl, ii rfl rfl, trivial⟩⟩, trivial⟩⟩
    refine SCode.region (show SOps _ _ _ [0, 1, 2, 3, 4, 5, 6, 7, 8, 9, 10, 11, 12, 13, 14, 15, 16, 17] _ _ from ?_)
    refine SOps.q rfl (.plain rfl) rfl (q_move rfl rfl) ?_
    refine SOps.q rfl (.plain rfl) rfl (q_field_ptr rfl rfl fd29_6) ?_
    refine SOps.q rfl (.plain rfl) rfl (q_field_ptr rfl rfl fd26_0) ?_
    refine SOps.q rfl (.plain rfl) rfl (q_load_ptr rfl rfl rfl rfl ty3) ?_
    refine SOps.q rfl (.plain rfl) rfl (q_lss rfl rfl rfl) ?_
    refine SOps.q rfl (.plain rfl) rfl (q_move rfl rfl) ?_
    refine SOps.q rfl (.guard 5 20 false rfl rfl (gF g38)) rfl (q_field_ptr rfl rfl fd29_6) ?_
    refine SOps.q rfl (.guard 5 20 false rfl rfl (gF g38)) rfl (q_field_ptr rfl rfl fd26_1) ?_
    refine SOps.q rfl (.guard 5 20 false rfl rfl (gF g38)) rfl (q_load_ptr rfl rfl rfl rfl ty3) ?_
    refine SOps.q rfl (.guard 5 20 false rfl rfl (gF g38)) rfl (q_neq rfl rfl rfl) ?_
    refine SOps.q rfl (.guard 5 20 false rfl rfl (gF g38)) rfl (q_move rfl rfl) ?_
    refine SOps.skip rfl 10 25 true rfl rfl (.inl (gF g39)) rfl ?_
    refine SOps.skip rfl 10 25 true rfl rfl (.inl (gF g39)) rfl ?_
    refine SOps.skip rfl 10 25 true rfl rfl (.inl (gF g39)) rfl ?_
    refine SOps.skip rfl 10 25 true rfl rfl (.inl (gF g39)) rfl ?_
    refine SOps.skip rfl 10 25 true rfl rfl (.inl (gF g39)) rfl ?_
    refine SOps.q rfl (.guard 5 20 false rfl rfl (gF g38)) rfl (q_pick_f rfl rfl g39 rfl) ?_
    refine SOps.q rfl (.plain rfl) rfl (q_pick_f rfl rfl g38 rfl) ?_
    refine SOps.sub (st' := ⟨[(1, .c (.int .i64 a1_start)), (2, .c (.int .i64 a2_t)), (3, .c (.ptr 0 0)), (32, .c (.bool false))], [.box [.int .i64 a0_p.ID, .int .i64 a0_p.Level, .int .i64 a0_p.Purpose, .int .i64 a0_p.Kind, .int .i64 a0_p.Conn, .str a0_p.Txn, .int .i64 a0_p.Span_From, .int .i64 a0_p.Span_To, .int .i64 a0_p.Start, .int .i64 a0_p.Duration, .vec a0_p.Periods.length 2 (gL cSPeriod dSPeriod a0_p.Periods)]]⟩) (sub_gen [0] rfl rfl ⟨zc rfl rfl, zc rfl rfl, zc rfl rfl, zc rfl rfl, trivial⟩ ⟨⟨_, rfl, ⟨ii rfl rfl, ii rfl rfl, ii rfl rfl, ii rfl rfl, ii rfl rfl, ii rfl rfl, ii rfl rfl, ii rfl rfl, ii rfl rfl, ii rfl rfl, ii rfl rfl, trivial⟩⟩, trivial⟩) ?_
    refine SOps.nil ?_
    refine SCode.cond_f rfl rfl ?_
    refine SCode.skip ?_
    exact ⟨(), h, sub_gen [0] rfl rfl ⟨zc rfl rfl, zc rfl rfl, zc rfl rfl, trivial⟩ ⟨⟨_, rfl, ⟨ii rfl rfl, ii rfl rfl, ii rfl rfl, ii rfl rfl, ii rfl rfl, ii rfl rfl, ii rfl rfl, ii rfl rfl, ii rfl rfl, ii rfl rfl, ii rfl rfl, trivial⟩⟩, trivial⟩⟩
  rintro ⟨⟩ h
  show SCode _ _ _ ⟨[(1, .c (.int .i64 a1_start)), (2, .c (.int .i64 a2_t)), (3, .c (.ptr 0 0))], [.box [.int .i64 a0_p.ID, .int .i64 a0_p.Level, .int .i64 a0_p.Purpose, .int .i64 a0_p.Kind, .int .i64 a0_p.Conn, .str a0_p.Txn, .int .i64 a0_p.Span_From, .int .i64 a0_p.Span_To, .int .i64 a0_p.Start, .int .i64 a0_p.Duration, .vec a0_p.Periods.length 2 (gL cSPeriod dSPeriod a0_p.Periods)]]⟩ _
  replace h : profile_Limit_p37 F a0_p a1_start a2_t = some r := h
  unfold profile_Limit_p37 at h
  refine SCode.seq ?_
  obtain ⟨c_1, g2, h⟩ := bind_out h
  try dsimp only at h
  refine SCode.region (show SOps _ _ _ [0, 1, 2, 3, 4, 5, 6, 7, 8] _ _ from ?_)
  refine SOps.q rfl (.plain rfl) rfl (q_load_ptr_all rfl rfl rfl rfl rfl ty29) ?_
  refine SOps.q rfl (.plain rfl) rfl (q_move rfl rfl) ?_
  refine SOps.q rfl (.plain rfl) rfl (q_move rfl rfl) ?_
  refine SOps.q rfl (.plain rfl) rfl (q_call (profile_origin_ok F a0_p a1_start a2_t c_1 g2) [] rfl fn34 ⟨⟨rfl, rfl⟩, ⟨_, rfl, .inl ⟨rfl, rfl⟩⟩, ⟨_, rfl, .inl ⟨rfl, rfl⟩⟩, trivial⟩ (.inl rfl)) ?_
  refine SOps.q rfl (.plain rfl) rfl (q_move rfl rfl) ?_
  refine SOps.q rfl (.plain rfl) rfl (q_extract rfl rfl rfl) ?_
  refine SOps.q rfl (.plain rfl) rfl (q_extract rfl rfl rfl) ?_
  refine SOps.q rfl (.plain rfl) rfl (q_assign rfl rfl) ?_
  refine SOps.q rfl (.plain rfl) rfl (q_assign rfl rfl) ?_
  refine SOps.sub (st' := ⟨[(2, .c (.int .i64 a2_t)), (3, .c (.ptr 0 0)), (8, .c (.int .i64 c_1.1)), (9, .c (.bool c_1.2))], [.box [.int .i64 a0_p.ID, .int .i64 a0_p.Level, .int .i64 a0_p.Purpose, .int .i64 a0_p.Kind, .int .i64 a0_p.Conn, .str a0_p.Txn, .int .i64 a0_p.Span_From, .int .i64 a0_p.Span_To, .int .i64 a0_p.Start, .int .i64 a0_p.Duration, .vec a0_p.Periods.length 2 (gL cSPeriod dSPeriod a0_p.Periods)]]⟩) (sub_gen [0] rfl rfl ⟨zc rfl rfl, zc rfl rfl, zc rfl rfl, zc rfl rfl, trivial⟩ ⟨⟨_, rfl, ⟨ii rfl rfl, ii rfl rfl, ii rfl rfl, ii rfl rfl, ii rfl rfl, ii rfl rfl, ii rfl rfl, ii rfl rfl, ii rfl rfl, ii rfl rfl, ii rfl rfl, trivial⟩⟩, trivial⟩) ?_
  refine SOps.nil ?_
  refine SCode.seq ?_
  refine SCode.seq ?_
  refine SCode.region (show SOps _ _ _ [0, 1] _ _ from ?_)
  refine SOps.q rfl (.plain rfl) rfl (q_move rfl rfl) ?_
  refine SOps.q rfl (.plain rfl) rfl (q_not rfl rfl) ?_
  refine SOps.sub (st' := ⟨[(2, .c (.int .i64 a2_t)), (3, .c (.ptr 0 0)), (8, .c (.int .i64 c_1.1)), (41, .c (.bool ((!c_1.2))))], [.box [.int .i64 a0_p.ID, .int .i64 a0_p.Level, .int .i64 a0_p.Purpose, .int .i64 a0_p.Kind, .int .i64 a0_p.Conn, .str a0_p.Txn, .int .i64 a0_p.Span_From, .int .i64 a0_p.Span_To, .int .i64 a0_p.Start, .int .i64 a0_p.Duration, .vec a0_p.Periods.length 2 (gL cSPeriod dSPeriod a0_p.Periods)]]⟩) (sub_gen [0] rfl rfl ⟨zc rfl rfl, zc rfl rfl, zc rfl rfl, zc rfl rfl, trivial⟩ ⟨⟨_, rfl, ⟨ii rfl rfl, ii rfl rfl, ii rfl rfl, ii rfl rfl, ii rfl rfl, ii rfl rfl, ii rfl rfl, ii rfl rfl, ii rfl rfl, ii rfl rfl, ii rfl rfl, trivial⟩⟩, trivial⟩) ?_
  refine SOps.nil ?_
  rcases cond_out h with ⟨g3, h⟩ | ⟨g3, h⟩
  · refine SCode.cond_t rfl g3 ?_
    refine SCode.seq ?_
    refine SCode.region (show SOps _ _ _ [0, 1] _ _ from ?_)
    refine SOps.q rfl (.plain rfl) rfl (q_assign rfl rfl) ?_
    refine SOps.q rfl (.plain rfl) rfl (q_assign rfl rfl) ?_
    refine SOps.sub (st' := ⟨[(6, .c (.int .i64 0)), (7, .c (.bool false))], []⟩) (sub_gen [] rfl rfl ⟨zc rfl rfl, zc rfl rfl, trivial⟩ trivial) ?_
    refine SOps.nil ?_
    refine SCode.ret ?_
    obtain rfl := Option.some.inj h
    exact ⟨⟨[(6, .c (.int .i64 0)), (7, .c (.bool false))], []⟩, _, sub_gen [] rfl rfl ⟨zc rfl rfl, zc rfl rfl, trivial⟩ trivial, resA2 (v1 := .c (.int .i64 0)) (v2 := .c (.bool false)) rfl rfl rfl, rfl⟩
  refine SCode.cond_f rfl g3 ?_
  refine SCode.skip ?_
  refine SCode.seq ?_
  obtain ⟨c_4, g5, h⟩ := bind_out h
  try dsimp only at h
  refine SCode.region (show SOps _ _ _ [0, 1, 2, 3] _ _ from ?_)
  refine SOps.q rfl (.plain rfl) rfl (q_move rfl rfl) ?_
  refine SOps.q rfl (.plain rfl) rfl (q_move rfl rfl) ?_
  refine SOps.q rfl (.plain rfl) rfl (q_call (profile_gap_ok F c_1.1 a2_t c_4 g5) [] rfl fn35 ⟨⟨_, rfl, .inl ⟨rfl, rfl⟩⟩, ⟨_, rfl, .inl ⟨rfl, rfl⟩⟩, trivial⟩ (.inl rfl)) ?_
  refine SOps.q rfl (.plain rfl) rfl (q_assign rfl rfl) ?_
  refine SOps.sub (st' := ⟨[(3, .c (.ptr 0 0)), (10, .c (.int .u64 c_4))], [.box [.int .i64 a0_p.ID, .int .i64 a0_p.Level, .int .i64 a0_p.Purpose, .int .i64 a0_p.Kind, .int .i64 a0_p.Conn, .str a0_p.Txn, .int .i64 a0_p.Span_From, .int .i64 a0_p.Span_To, .int .i64 a0_p.Start, .int .i64 a0_p.Duration, .vec a0_p.Periods.length 2 (gL cSPeriod dSPeriod a0_p.Periods)]]⟩) (sub_gen [0] rfl rfl ⟨zc rfl rfl, zc rfl rfl, trivial⟩ ⟨⟨_, rfl, ⟨ii rfl rfl, ii rfl rfl, ii rfl rfl, ii rfl rfl, ii rfl rfl, ii rfl rfl, ii rfl rfl, ii rfl rfl, ii rfl rfl, ii rfl rfl, ii rfl rfl, trivial⟩⟩, trivial⟩) ?_
  refine SOps.nil ?_
  refine SCode.join (σ := Unit) (S := fun s => ⟨[(3, .c (.ptr 0 0)), (10, .c (.int .u64 c_4))], [.box [.int .i64 a0_p.ID, .int .i64 a0_p.Level, .int .i64 a0_p.Purpose, .int .i64 a0_p.Kind, .int .i64 a0_p.Conn, .str a0_p.Txn, .int .i64 a0_p.Span_From, .int .i64 a0_p.Span_To, .int .i64 a0_p.Start, .int .i64 a0_p.Duration, .vec a0_p.Periods.length 2 (gL cSPeriod dSPeriod a0_p.Periods)]]⟩) (g := fun s => profile_Limit_p34 F a0_p c_4 = some r) ?_ ?_
  rotate_left
  · refine SCode.seq ?_
    rcases cond_out h with ⟨g35, h⟩ | ⟨g35, h⟩
    · refine SCode.region (show SOps _ _ _ [0, 1, 2, 3, 4, 5, 6, 7, 8, 9] _ _ from ?_)
      refine SOps.q rfl (.plain rfl) rfl (q_field_ptr rfl rfl fd29_8) ?_
      refine SOps.q rfl (.plain rfl) rfl (q_load_ptr rfl rfl rfl rfl ty3) ?_
      refine SOps.q rfl (.plain rfl) rfl (q_neq rfl rfl rfl) ?_
      refine SOps.q rfl (.plain rfl) rfl (q_move rfl rfl) ?_
      refine SOps.q rfl (.guard 3 48 true rfl rfl (gT g35)) rfl (q_move rfl rfl) ?_
      refine SOps.q rfl (.guard 3 48 true rfl rfl (gT g35)) rfl (q_field_ptr rfl rfl fd29_8) ?_
      refine SOps.q rfl (.guard 3 48 true rfl rfl (gT g35)) rfl (q_load_ptr rfl rfl rfl rfl ty3) ?_
      refine SOps.q rfl (.guard 3 48 true rfl rfl (gT g35)) rfl (q_convert rfl rfl un3 un73) ?_
      refine SOps.q rfl (.guard 3 48 true rfl rfl (gT g35)) rfl (q_geq rfl rfl rfl) ?_
      refine SOps.q rfl (.plain rfl) rfl (q_pick_t rfl rfl g35 rfl) ?_
      refine SOps.sub (st' := ⟨[(3, .c (.ptr 0 0)), (10, .c (.int .u64 c_4)), (54, .c (.bool (decide (IntKind.wrap .u64 a0_p.Duration ≤ c_4))))], [.box [.int .i64 a0_p.ID, .int .i64 a0_p.Level, .int .i64 a0_p.Purpose, .int .i64 a0_p.Kind, .int .i64 a0_p.Conn, .str a0_p.Txn, .int .i64 a0_p.Span_From, .int .i64 a0_p.Span_To, .int .i64 a0_p.Start, .int .i64 a0_p.Duration, .vec a0_p.Periods.length 2 (gL cSPeriod dSPeriod a0_p.Periods)]]⟩) (sub_gen [0] rfl rfl ⟨zc rfl rfl, zc rfl rfl, zc rfl rfl, trivial⟩ ⟨⟨_, rfl, ⟨ii rfl rfl, ii rfl rfl, ii rfl rfl, ii rfl rfl, ii rfl rfl, ii rfl rfl, ii rfl rfl, ii rfl rfl, ii rfl rfl, ii rfl rfl, ii rfl rfl, trivial⟩⟩, trivial⟩) ?_
      refine SOps.nil ?_
      rcases cond_out h with ⟨g36, h⟩ | ⟨g36, h⟩
      · refine SCode.cond_t rfl g36 ?_
        refine SCode.seq ?_
        refine SCode.region (show SOps _ _ _ [0, 1] _ _ from ?_)
        refine SOps.q rfl (.plain rfl) rfl (q_assign rfl rfl) ?_
        refine SOps.q rfl (.plain rfl) rfl (q_assign rfl rfl) ?_
        refine SOps.sub (st' := ⟨[(6, .c (.int .i64 0)), (7, .c (.bool false))], []⟩) (sub_gen [] rfl rfl ⟨zc rfl rfl, zc rfl rfl, trivial⟩ trivial) ?_
        refine SOps.nil ?_
        refine SCode.ret ?_
        obtain rfl := Option.some.inj h
        exact ⟨⟨[(6, .c (.int .i64 0)), (7, .c (.bool false))], []⟩, _, sub_gen [] rfl rfl ⟨zc rfl rfl, zc rfl rfl, trivial⟩ trivial, resA2 (v1 := .c (.int .i64 0)) (v2 := .c (.bool false)) rfl rfl rfl, rfl⟩
      refine SCode.cond_f rfl g36 ?_
      refine SCode.skip ?_
      exact ⟨(), h, sub_gen [0] rfl rfl ⟨zc rfl rfl, zc rfl rfl, trivial⟩ ⟨⟨_, rfl, ⟨ii rfl rfl, ii rfl rfl, ii rfl rfl, ii rfl rfl, ii rfl rfl, ii rfl rfl, ii rfl rfl, ii rfl rfl, ii rfl rfl, ii rfl rfl, ii rfl rfl, trivial⟩⟩, trivial⟩⟩
    refine SCode.region (show SOps _ _ _ [0, 1, 2, 3, 4, 5, 6, 7, 8, 9] _ _ from ?_)
    refine SOps.q rfl (.plain rfl) rfl (q_field_ptr rfl rfl fd29_8) ?_
    refine SOps.q rfl (.plain rfl) rfl (q_load_ptr rfl rfl rfl rfl ty3) ?_
    refine SOps.q rfl (.plain rfl) rfl (q_neq rfl rfl rfl) ?_
    refine SOps.q rfl (.plain rfl) rfl (q_move rfl rfl) ?_
    refine SOps.skip rfl 3 48 true rfl rfl (.inl (gF g35)) rfl ?_
    refine SOps.skip rfl 3 48 true rfl rfl (.inl (gF g35)) rfl ?_
    refine SOps.skip rfl 3 48 true rfl rfl (.inl (gF g35)) rfl ?_
    refine SOps.skip rfl 3 48 true rfl rfl (.inl (gF g35)) rfl ?_
    refine SOps.skip rfl 3 48 true rfl rfl (.inl (gF g35)) rfl ?_
    refine SOps.q rfl (.plain rfl) rfl (q_pick_f rfl rfl g35 rfl) ?_
    refine SOps.sub (st' := ⟨[(3, .c (.ptr 0 0)), (10, .c (.int .u64 c_4)), (54, .c (.bool false))], [.box [.int .i64 a0_p.ID, .int .i64 a0_p.Level, .int .i64 a0_p.Purpose, .int .i64 a0_p.Kind, .int .i64 a0_p.Conn, .str a0_p.Txn, .int .i64 a0_p.Span_From, .int .i64 a0_p.Span_To, .int .i64 a0_p.Start, .int .i64 a0_p.Duration, .vec a0_p.Periods.length 2 (gL cSPeriod dSPeriod a0_p.Periods)]]⟩) (sub_gen [0] rfl rfl ⟨zc rfl rfl, zc rfl rfl, zc rfl rfl, trivial⟩ ⟨⟨_, rfl, ⟨ii rfl rfl, ii rfl rfl, ii rfl rfl, ii rfl rfl, ii rfl rfl, ii rfl rfl, ii rfl rfl, ii rfl rfl, ii rfl rfl, ii rfl rfl, ii rfl rfl, trivial⟩⟩, trivial⟩) ?_
    refine SOps.nil ?_
    refine SCode.cond_f rfl rfl ?_
    refine SCode.skip ?_
    exact ⟨(), h, sub_gen [0] rfl rfl ⟨zc rfl rfl, zc rfl rfl, trivial⟩ ⟨⟨_, rfl, ⟨ii rfl rfl, ii rfl rfl, ii rfl rfl, ii rfl rfl, ii rfl rfl, ii rfl rfl, ii rfl rfl, ii rfl rfl, ii rfl rfl, ii rfl rfl, ii rfl rfl, trivial⟩⟩, trivial⟩⟩
  rintro ⟨⟩ h
  show SCode _ _ _ ⟨[(3, .c (.ptr 0 0)), (10, .c (.int .u64 c_4))], [.box [.int .i64 a0_p.ID, .int .i64 a0_p.Level, .int .i64 a0_p.Purpose, .int .i64 a0_p.Kind, .int .i64 a0_p.Conn, .str a0_p.Txn, .int .i64 a0_p.Span_From, .int .i64 a0_p.Span_To, .int .i64 a0_p.Start, .int .i64 a0_p.Duration, .vec a0_p.Periods.length 2 (gL cSPeriod dSPeriod a0_p.Periods)]]⟩ _
  replace h : profile_Limit_p34 F a0_p c_4 = some r := h
  unfold profile_Limit_p34 at h
  refine SCode.seq ?_
  refine SCode.region (show SOps _ _ _ [0, 1] _ _ from ?_)
  refine SOps.q rfl (.plain rfl) rfl (q_assign rfl rfl) ?_
  refine SOps.q rfl (.plain rfl) rfl (q_assign rfl rfl) ?_
  refine SOps.sub (st' := ⟨[(3, .c (.ptr 0 0)), (10, .c (.int .u64 c_4)), (11, .c (.int .i64 0)), (12, .c (.bool false))], [.box [.int .i64 a0_p.ID, .int .i64 a0_p.Level, .int .i64 a0_p.Purpose, .int .i64 a0_p.Kind, .int .i64 a0_p.Conn, .str a0_p.Txn, .int .i64 a0_p.Span_From, .int .i64 a0_p.Span_To, .int .i64 a0_p.Start, .int .i64 a0_p.Duration, .vec a0_p.Periods.length 2 (gL cSPeriod dSPeriod a0_p.Periods)]]⟩) (sub_gen [0] rfl rfl ⟨zc rfl rfl, zc rfl rfl, zc rfl rfl, zc rfl rfl, trivial⟩ ⟨⟨_, rfl, ⟨ii rfl rfl, ii rfl rfl, ii rfl rfl, ii rfl rfl, ii rfl rfl, ii rfl rfl, ii rfl rfl, ii rfl rfl, ii rfl rfl, ii rfl rfl, ii rfl rfl, trivial⟩⟩, trivial⟩) ?_
  refine SOps.nil ?_
  refine SCode.join (σ := Int × Bool) (S := fun s => ⟨[(11, .c (.int .i64 s.1)), (12, .c (.bool s.2))], []⟩) (g := fun s => profile_Limit_p8 s.1 s.2 = some r) ?_ ?_
  rotate_left
  · refine SCode.seq ?_
    refine SCode.region (show SOps _ _ _ [0, 1, 2, 3] _ _ from ?_)
    refine SOps.q rfl (.plain rfl) rfl (q_field_ptr rfl rfl fd29_9) ?_
    refine SOps.q rfl (.plain rfl) rfl (q_load_ptr rfl rfl rfl rfl ty27) ?_
    refine SOps.q rfl (.plain rfl) rfl (q_len_vec rfl rfl sl27) ?_
    refine SOps.q rfl (.plain rfl) rfl (q_move rfl rfl) ?_
    refine SOps.sub (st' := ⟨[(10, .c (.int .u64 c_4)), (11, .c (.int .i64 0)), (12, .c (.bool false)), (56, .c (.vec a0_p.Periods.length 2 (gL cSPeriod dSPeriod a0_p.Periods))), (57, .c (.int .i64 (((a0_p.Periods).length : Int)))), (58, .c (.int .i64 0))], []⟩) (sub_gen [] rfl rfl ⟨zc rfl rfl, zc rfl rfl, zc rfl rfl, zc rfl rfl, zc rfl rfl, zc rfl rfl, trivial⟩ trivial) ?_
    refine SOps.nil ?_
    refine SCode.block ?_
    refine SCode.sub (st' := ⟨[(10, .c (.int .u64 c_4)), (11, .c (.int .i64 0)), (12, .c (.bool false)), (56, .c (.vec a0_p.Periods.length 2 (gL cSPeriod dSPeriod a0_p.Periods))), (57, .c (.int .i64 (((a0_p.Periods).length : Int)))), (58, .c (.int .i64 0))], []⟩) (sub_gen [] rfl rfl ⟨zc rfl rfl, zc rfl rfl, zc rfl rfl, zc rfl rfl, zc rfl rfl, zc rfl rfl, trivial⟩ trivial) ?_
    refine (SCode.loop (σ := Nat × (Int × Bool × Int)) (S := fun s => ⟨[(10, .c (.int .u64 c_4)), (11, .c (.int .i64 s.2.1)), (12, .c (.bool s.2.2.1)), (56, .c (.vec a0_p.Periods.length 2 (gL cSPeriod dSPeriod a0_p.Periods))), (57, .c (.int .i64 (((a0_p.Periods).length : Int)))), (58, .c (.int .i64 s.2.2.2))], []⟩) (g := fun s => profile_Limit_l26 a0_p c_4 s.1 s.2.1 s.2.2.1 s.2.2.2 = some r) (μ := fun s => s.1) (F, (0, false, 0)) h ?_)
    rintro ⟨n_26, ⟨limit_16, found_17, t58_18⟩⟩ h
    replace h : profile_Limit_l26 a0_p c_4 n_26 limit_16 found_17 t58_18 = some r := h
    show SCode _ _ _ ⟨[(10, .c (.int .u64 c_4)), (11, .c (.int .i64 limit_16)), (12, .c (.bool found_17)), (56, .c (.vec a0_p.Periods.length 2 (gL cSPeriod dSPeriod a0_p.Periods))), (57, .c (.int .i64 (((a0_p.Periods).length : Int)))), (58, .c (.int .i64 t58_18))], []⟩ _
    cases n_26 with
    | zero => cases h
    | succ n_26 =>
      replace h : profile_Limit_b26 a0_p c_4 (fun limit_16 found_17 t58_18 => profile_Limit_l26 a0_p c_4 n_26 limit_16 found_17 t58_18) limit_16 found_17 t58_18 = some r := h
      unfold profile_Limit_b26 at h
      refine SCode.seq ?_
      refine SCode.region (show SOps _ _ _ [0] _ _ from ?_)
      refine SOps.q rfl (.plain rfl) rfl (q_lss rfl rfl rfl) ?_
      refine SOps.sub (st' := ⟨[(10, .c (.int .u64 c_4)), (11, .c (.int .i64 limit_16)), (12, .c (.bool found_17)), (56, .c (.vec a0_p.Periods.length 2 (gL cSPeriod dSPeriod a0_p.Periods))), (57, .c (.int .i64 (((a0_p.Periods).length : Int)))), (58, .c (.int .i64 t58_18)), (59, .c (.bool (decide (t58_18 < ((a0_p.Periods).length : Int)))))], []⟩) (sub_gen [] rfl rfl ⟨zc rfl rfl, zc rfl rfl, zc rfl rfl, zc rfl rfl, zc rfl rfl, zc rfl rfl, zc rfl rfl, trivial⟩ trivial) ?_
      refine SOps.nil ?_
      refine SCode.seq ?_
      rcases cond_out h with ⟨g27, h⟩ | ⟨g27, h⟩
      · refine SCode.cond_t rfl g27 ?_
        refine SCode.skip ?_
        refine SCode.join (σ := Int × Bool) (S := fun s => ⟨[(10, .c (.int .u64 c_4)), (11, .c (.int .i64 s.1)), (12, .c (.bool s.2)), (56, .c (.vec a0_p.Periods.length 2 (gL cSPeriod dSPeriod a0_p.Periods))), (57, .c (.int .i64 (((a0_p.Periods).length : Int)))), (58, .c (.int .i64 t58_18))], []⟩) (g := fun s => profile_Limit_p30 t58_18 (fun limit_16 found_17 t58_18 => profile_Limit_l26 a0_p c_4 n_26 limit_16 found_17 t58_18) s.1 s.2 = some r) ?_ ?_
        rotate_left
        · refine SCode.block ?_
          refine SCode.seq ?_
          obtain ⟨g31, h⟩ := guard_out h
          refine SCode.region (show SOps _ _ _ [0, 1, 2, 3] _ _ from ?_)
          refine SOps.q rfl (.plain rfl) rfl (q_index_vec rfl rfl rfl sl27 rfl g31.1 g31.2) ?_
          refine SOps.q rfl (.plain rfl) rfl (q_load_eptr_all rfl rfl rfl ty62) ?_
          refine SOps.e rfl (.plain rfl) (e_alloc rfl rfl rfl z62) ?_
          refine SOps.e rfl (.plain rfl) (e_store_box rfl rfl rfl rfl rfl ty62 rfl rfl rfl rfl) ?_
          refine SOps.sub (st' := ⟨[(10, .c (.int .u64 c_4)), (11, .c (.int .i64 limit_16)), (12, .c (.bool found_17)), (14, .c (.ptr 0 0)), (56, .c (.vec a0_p.Periods.length 2 (gL cSPeriod dSPeriod a0_p.Periods))), (57, .c (.int .i64 (((a0_p.Periods).length : Int)))), (58, .c (.int .i64 t58_18))], [.box [.int .i64 ((a0_p.Periods.getD t58_18.toNat dSPeriod).At), .int .i64 ((a0_p.Periods.getD t58_18.toNat dSPeriod).Limit)]]⟩) (sub_gen [0] rfl rfl ⟨zc rfl rfl, zc rfl rfl, zc rfl rfl, zc rfl rfl, zc rfl rfl, zc rfl rfl, zc rfl rfl, trivial⟩ ⟨⟨_, rfl, ⟨ii rfl rfl, ii rfl rfl, trivial⟩⟩, trivial⟩) ?_
          refine SOps.nil ?_
          refine SCode.seq ?_
          rcases cond_out h with ⟨g32, h⟩ | ⟨g32, h⟩
          · refine SCode.region (show SOps _ _ _ [0, 1, 2, 3, 4, 5, 6, 7, 8, 9] _ _ from ?_)
            refine SOps.q rfl (.plain rfl) rfl (q_field_ptr rfl rfl fd62_0) ?_
            refine SOps.q rfl (.plain rfl) rfl (q_load_ptr rfl rfl rfl rfl ty3) ?_
            refine SOps.q rfl (.plain rfl) rfl (q_geq rfl rfl rfl) ?_
            refine SOps.q rfl (.plain rfl) rfl (q_move rfl rfl) ?_
            refine SOps.q rfl (.guard 3 65 true rfl rfl (gT g32)) rfl (q_field_ptr rfl rfl fd62_0) ?_
            refine SOps.q rfl (.guard 3 65 true rfl rfl (gT g32)) rfl (q_load_ptr rfl rfl rfl rfl ty3) ?_
            refine SOps.q rfl (.guard 3 65 true rfl rfl (gT g32)) rfl (q_convert rfl rfl un3 un73) ?_
            refine SOps.q rfl (.guard 3 65 true rfl rfl (gT g32)) rfl (q_move rfl rfl) ?_
            refine SOps.q rfl (.guard 3 65 true rfl rfl (gT g32)) rfl (q_leq rfl rfl rfl) ?_
            refine SOps.q rfl (.plain rfl) rfl (q_pick_t rfl rfl g32 rfl) ?_
            refine SOps.sub (st' := ⟨[(10, .c (.int .u64 c_4)), (11, .c (.int .i64 limit_16)), (12, .c (.bool found_17)), (14, .c (.ptr 0 0)), (56, .c (.vec a0_p.Periods.length 2 (gL cSPeriod dSPeriod a0_p.Periods))), (57, .c (.int .i64 (((a0_p.Periods).length : Int)))), (58, .c (.int .i64 t58_18)), (71, .c (.bool (decide (IntKind.wrap .u64 ((a0_p.Periods.getD t58_18.toNat dSPeriod).At) ≤ c_4))))], [.box [.int .i64 ((a0_p.Periods.getD t58_18.toNat dSPeriod).At), .int .i64 ((a0_p.Periods.getD t58_18.toNat dSPeriod).Limit)]]⟩) (sub_gen [0] rfl rfl ⟨zc rfl rfl, zc rfl rfl, zc rfl rfl, zc rfl rfl, zc rfl rfl, zc rfl rfl, zc rfl rfl, zc rfl rfl, trivial⟩ ⟨⟨_, rfl, ⟨ii rfl rfl, ii rfl rfl, trivial⟩⟩, trivial⟩) ?_
            refine SOps.nil ?_
            rcases cond_out h with ⟨g33, h⟩ | ⟨g33, h⟩
            · refine SCode.cond_t rfl g33 ?_
              refine SCode.region (show SOps _ _ _ [0, 1, 2, 3] _ _ from ?_)
              refine SOps.q rfl (.plain rfl) rfl (q_field_ptr rfl rfl fd62_1) ?_
              refine SOps.q rfl (.plain rfl) rfl (q_load_ptr rfl rfl rfl rfl ty3) ?_
              refine SOps.q rfl (.plain rfl) rfl (q_assign rfl rfl) ?_
              refine SOps.q rfl (.plain rfl) rfl (q_assign rfl rfl) ?_
              refine SOps.sub (st' := ⟨[(10, .c (.int .u64 c_4)), (11, .c (.int .i64 ((a0_p.Periods.getD t58_18.toNat dSPeriod).Limit))), (12, .c (.bool true)), (56, .c (.vec a0_p.Periods.length 2 (gL cSPeriod dSPeriod a0_p.Periods))), (57, .c (.int .i64 (((a0_p.Periods).length : Int)))), (58, .c (.int .i64 t58_18))], []⟩) (sub_gen [] rfl rfl ⟨zc rfl rfl, zc rfl rfl, zc rfl rfl, zc rfl rfl, zc rfl rfl, zc rfl rfl, trivial⟩ trivial) ?_
              refine SOps.nil ?_
              exact ⟨((a0_p.Periods.getD t58_18.toNat dSPeriod).Limit, true), h, sub_gen [] rfl rfl ⟨zc rfl rfl, zc rfl rfl, zc rfl rfl, zc rfl rfl, zc rfl rfl, zc rfl rfl, trivial⟩ trivial⟩
            refine SCode.cond_f rfl g33 ?_
            refine SCode.skip ?_
            exact ⟨(limit_16, found_17), h, sub_gen [] rfl rfl ⟨zc rfl rfl, zc rfl rfl, zc rfl rfl, zc rfl rfl, zc rfl rfl, zc rfl rfl, trivial⟩ trivial⟩
          refine SCode.region (show SOps _ _ _ [0, 1, 2, 3, 4, 5, 6, 7, 8, 9] _ _ from ?_)
          refine SOps.q rfl (.plain rfl) rfl (q_field_ptr rfl rfl fd62_0) ?_
          refine SOps.q rfl (.plain rfl) rfl (q_load_ptr rfl rfl rfl rfl ty3) ?_
          refine SOps.q rfl (.plain rfl) rfl (q_geq rfl rfl rfl) ?_
          refine SOps.q rfl (.plain rfl) rfl (q_move rfl rfl) ?_
          refine SOps.skip rfl 3 65 true rfl rfl (.inl (gF g32)) rfl ?_
          refine SOps.skip rfl 3 65 true rfl rfl (.inl (gF g32)) rfl ?_
          refine SOps.skip rfl 3 65 true rfl rfl (.inl (gF g32)) rfl ?_
          refine SOps.skip rfl 3 65 true rfl rfl (.inl (gF g32)) rfl ?_
          refine SOps.skip rfl 3 65 true rfl rfl (.inl (gF g32)) rfl ?_
          refine SOps.q rfl (.plain rfl) rfl (q_pick_f rfl rfl g32 rfl) ?_
          refine SOps.sub (st' := ⟨[(10, .c (.int .u64 c_4)), (11, .c (.int .i64 limit_16)), (12, .c (.bool found_17)), (14, .c (.ptr 0 0)), (56, .c (.vec a0_p.Periods.length 2 (gL cSPeriod dSPeriod a0_p.Periods))), (57, .c (.int .i64 (((a0_p.Periods).length : Int)))), (58, .c (.int .i64 t58_18)), (71, .c (.bool false))], [.box [.int .i64 ((a0_p.Periods.getD t58_18.toNat dSPeriod).At), .int .i64 ((a0_p.Periods.getD t58_18.toNat dSPeriod).Limit)]]⟩) (sub_gen [0] rfl rfl ⟨zc rfl rfl, zc rfl rfl, zc rfl rfl, zc rfl rfl, zc rfl rfl, zc rfl rfl, zc rfl rfl, zc rfl rfl, trivial⟩ ⟨⟨_, rfl, ⟨ii rfl rfl, ii rfl rfl, trivial⟩⟩, trivial⟩) ?_
          refine SOps.nil ?_
          refine SCode.cond_f rfl rfl ?_
          refine SCode.skip ?_
          exact ⟨(limit_16, found_17), h, sub_gen [] rfl rfl ⟨zc rfl rfl, zc rfl rfl, zc rfl rfl, zc rfl rfl, zc rfl rfl, zc rfl rfl, trivial⟩ trivial⟩
        rintro ⟨limit_28, found_29⟩ h
        show SCode _ _ _ ⟨[(10, .c (.int .u64 c_4)), (11, .c (.int .i64 limit_28)), (12, .c (.bool found_29)), (56, .c (.vec a0_p.Periods.length 2 (gL cSPeriod dSPeriod a0_p.Periods))), (57, .c (.int .i64 (((a0_p.Periods).length : Int)))), (58, .c (.int .i64 t58_18))], []⟩ _
        replace h : profile_Limit_p30 t58_18 (fun limit_16 found_17 t58_18 => profile_Limit_l26 a0_p c_4 n_26 limit_16 found_17 t58_18) limit_28 found_29 = some r := h
        unfold profile_Limit_p30 at h
        refine SCode.region (show SOps _ _ _ [0, 1] _ _ from ?_)
        refine SOps.q rfl (.plain rfl) rfl (q_add rfl rfl rfl) ?_
        refine SOps.q rfl (.plain rfl) rfl (q_move rfl rfl) ?_
        refine SOps.sub (st' := ⟨[(10, .c (.int .u64 c_4)), (11, .c (.int .i64 limit_28)), (12, .c (.bool found_29)), (56, .c (.vec a0_p.Periods.length 2 (gL cSPeriod dSPeriod a0_p.Periods))), (57, .c (.int .i64 (((a0_p.Periods).length : Int)))), (58, .c (.int .i64 (IntKind.wrap .i64 (t58_18 + 1))))], []⟩) (sub_gen [] rfl rfl ⟨zc rfl rfl, zc rfl rfl, zc rfl rfl, zc rfl rfl, zc rfl rfl, zc rfl rfl, trivial⟩ trivial) ?_
        refine SOps.nil ?_
        exact ⟨(n_26, (limit_28, found_29, IntKind.wrap .i64 (t58_18 + 1))), h, Nat.lt_succ_self n_26, sub_gen [] rfl rfl ⟨zc rfl rfl, zc rfl rfl, zc rfl rfl, zc rfl rfl, zc rfl rfl, zc rfl rfl, trivial⟩ trivial⟩
      refine SCode.cond_f rfl g27 ?_
      refine SCode.exit ?_
      exact ⟨(limit_16, found_17), h, sub_gen [] rfl rfl ⟨zc rfl rfl, zc rfl rfl, trivial⟩ trivial⟩
  rintro ⟨limit_6, found_7⟩ h
  show SCode _ _ _ ⟨[(11, .c (.int .i64 limit_6)), (12, .c (.bool found_7))], []⟩ _
  replace h : profile_Limit_p8 limit_6 found_7 = some r := h
  unfold profile_Limit_p8 at h
  refine SCode.seq ?_
  refine SCode.region (show SOps _ _ _ [0, 1, 2, 3] _ _ from ?_)
  refine SOps.q rfl (.plain rfl) rfl (q_move rfl rfl) ?_
  refine SOps.q rfl (.plain rfl) rfl (q_move rfl rfl) ?_
  refine SOps.q rfl (.plain rfl) rfl (q_assign rfl rfl) ?_
  refine SOps.q rfl (.plain rfl) rfl (q_assign rfl rfl) ?_
  refine SOps.sub (st' := ⟨[(6, .c (.int .i64 limit_6)), (7, .c (.bool found_7))], []⟩) (sub_gen [] rfl rfl ⟨zc rfl rfl, zc rfl rfl, trivial⟩ trivial) ?_
  refine SOps.nil ?_
  refine SCode.ret ?_
  obtain rfl := Option.some.inj h
  exact ⟨⟨[(6, .c (.int .i64 limit_6)), (7, .c (.bool found_7))], []⟩, _, sub_gen [] rfl rfl ⟨zc rfl rfl, zc rfl rfl, trivial⟩ trivial, resA2 (v1 := .c (.int .i64 limit_6)) (v2 := .c (.bool found_7)) rfl rfl rfl, rfl⟩
set_option maxRecDepth 100000 in
set_option maxHeartbeats 8000000 in
theorem compose_determining_1_1_ok (F : Nat) (a0_p : SProfile) (a1f0 : Int) (a2f0 : Int) (a3f0 : Int) (r : Int × Bool) (h : compose_determining_1_1 F a0_p a1f0 a2f0 a3f0 = some r) :
    SFun Try.prog 31 [] [.a [.int .i64 a0_p.ID, .int .i64 a0_p.Level, .int .i64 a0_p.Purpose, .int .i64 a0_p.Kind, .int .i64 a0_p.Conn, .str a0_p.Txn, .int .i64 a0_p.Span_From, .int .i64 a0_p.Span_To, .int .i64 a0_p.Start, .int .i64 a0_p.Duration, .vec a0_p.Periods.length 2 (gL cSPeriod dSPeriod a0_p.Periods)], .c (.eptr 1 ((cInt .i64) a1f0) 0), .c (.eptr 1 ((cInt .i64) a2f0) 0), .c (.eptr 1 ((cInt .i64) a3f0) 0)] (fun x _ => x = .t [.c (.int .i64 r.1), .c (.bool r.2)]) := by
  refine SFun.of (n := 17) Try.func31 rfl rfl rfl ?_
  unfold compose_determining_1_1 at h
  show SCode _ _ _ ⟨[(0, .a [.int .i64 a0_p.ID, .int .i64 a0_p.Level, .int .i64 a0_p.Purpose, .int .i64 a0_p.Kind, .int .i64 a0_p.Conn, .str a0_p.Txn, .int .i64 a0_p.Span_From, .int .i64 a0_p.Span_To, .int .i64 a0_p.Start, .int .i64 a0_p.Duration, .vec a0_p.Periods.length 2 (gL cSPeriod dSPeriod a0_p.Periods)]), (1, .c (.eptr 1 ((cInt .i64) a1f0) 0)), (2, .c (.eptr 1 ((cInt .i64) a2f0) 0)), (3, .c (.eptr 1 ((cInt .i64) a3f0) 0))], []⟩ _
  refine SCode.seq ?_
  refine SCode.region (show SOps _ _ _ [0, 1, 2] _ _ from ?_)
  refine SOps.e rfl (.plain rfl) (e_box rfl rfl rfl rfl rfl rfl) ?_
  refine SOps.q rfl (.plain rfl) rfl (q_assign rfl rfl) ?_
  refine SOps.q rfl (.plain rfl) rfl (q_assign rfl rfl) ?_
  refine SOps.sub (st' := ⟨[(1, .c (.eptr 1 ((cInt .i64) a1f0) 0)), (2, .c (.eptr 1 ((cInt .i64) a2f0) 0)), (3, .c (.eptr 1 ((cInt .i64) a3f0) 0)), (4, .c (.ptr 0 0))], [.box [.int .i64 a0_p.ID, .int .i64 a0_p.Level, .int .i64 a0_p.Purpose, .int .i64 a0_p.Kind, .int .i64 a0_p.Conn, .str a0_p.Txn, .int .i64 a0_p.Span_From, .int .i64 a0_p.Span_To, .int .i64 a0_p.Start, .int .i64 a0_p.Duration, .vec a0_p.Periods.length 2 (gL cSPeriod dSPeriod a0_p.Periods)]]⟩) (sub_gen [0] rfl rfl ⟨zc rfl rfl, zc rfl rfl, zc rfl rfl, zc rfl rfl, trivial⟩ ⟨⟨_, rfl, ⟨ii rfl rfl, ii rfl rfl, ii rfl rfl, ii rfl rfl, ii rfl rfl, ii rfl rfl, ii rfl rfl, ii rfl rfl, ii rfl rfl, ii rfl rfl, ii rfl rfl, trivial⟩⟩, trivial⟩) ?_
  refine SOps.nil ?_
  refine SCode.seq ?_
  refine SCode.seq ?_
  refine SCode.region (show SOps _ _ _ [0, 1, 2, 3] _ _ from ?_)
  refine SOps.q rfl (.plain rfl) rfl (q_field_ptr rfl rfl fd29_2) ?_
  refine SOps.q rfl (.plain rfl) rfl (q_load_ptr rfl rfl rfl rfl ty3) ?_
  refine SOps.q rfl (.plain rfl) rfl (q_load_eptr rfl rfl ty3) ?_
  refine SOps.q rfl (.plain rfl) rfl (q_neq rfl rfl rfl) ?_
  refine SOps.sub (st' := ⟨[(2, .c (.eptr 1 ((cInt .i64) a2f0) 0)), (3, .c (.eptr 1 ((cInt .i64) a3f0) 0)), (4, .c (.ptr 0 0)), (10, .c (.bool ((!decide (a0_p.Purpose = a1f0)))))], [.box [.int .i64 a0_p.ID, .int .i64 a0_p.Level, .int .i64 a0_p.Purpose, .int .i64 a0_p.Kind, .int .i64 a0_p.Conn, .str a0_p.Txn, .int .i64 a0_p.Span_From, .int .i64 a0_p.Span_To, .int .i64 a0_p.Start, .int .i64 a0_p.Duration, .vec a0_p.Periods.length 2 (gL cSPeriod dSPeriod a0_p.Periods)]]⟩) (sub_gen [0] rfl rfl ⟨zc rfl rfl, zc rfl rfl, zc rfl rfl, zc rfl rfl, trivial⟩ ⟨⟨_, rfl, ⟨ii rfl rfl, ii rfl rfl, ii rfl rfl, ii rfl rfl, ii rfl rfl, ii rfl rfl, ii rfl rfl, ii rfl rfl, ii rfl rfl, ii rfl rfl, ii rfl rfl, trivial⟩⟩, trivial⟩) ?_
  refine SOps.nil ?_
  rcases cond_out h with ⟨g1, h⟩ | ⟨g1, h⟩
  · refine SCode.cond_t rfl g1 ?_
    refine SCode.seq ?_
    refine SCode.region (show SOps _ _ _ [0, 1] _ _ from ?_)
    refine SOps.q rfl (.plain rfl) rfl (q_assign rfl rfl) ?_
    refine SOps.q rfl (.plain rfl) rfl (q_assign rfl rfl) ?_
    refine SOps.sub (st' := ⟨[(5, .c (.int .i64 0)), (6, .c (.bool false))], []⟩) (sub_gen [] rfl rfl ⟨zc rfl rfl, zc rfl rfl, trivial⟩ trivial) ?_
    refine SOps.nil ?_
    refine SCode.ret ?_
    obtain rfl := Option.some.inj h
    exact ⟨⟨[(5, .c (.int .i64 0)), (6, .c (.bool false))], []⟩, _, sub_gen [] rfl rfl ⟨zc rfl rfl, zc rfl rfl, trivial⟩ trivial, resA2 (v1 := .c (.int .i64 0)) (v2 := .c (.bool false)) rfl rfl rfl, rfl⟩
  refine SCode.cond_f rfl g1 ?_
  refine SCode.skip ?_
  refine SCode.seq ?_
  obtain ⟨c_2, g3, h⟩ := bind_out h
  try dsimp only at h
  refine SCode.region (show SOps _ _ _ [0, 1, 2, 3, 4, 5, 6, 7] _ _ from ?_)
  refine SOps.q rfl (.plain rfl) rfl (q_load_ptr_all rfl rfl rfl rfl rfl ty29) ?_
  refine SOps.q rfl (.plain rfl) rfl (q_load_eptr rfl rfl ty3) ?_
  refine SOps.q rfl (.plain rfl) rfl (q_load_eptr rfl rfl ty3) ?_
  refine SOps.q rfl (.plain rfl) rfl (q_call (profile_Limit_ok F a0_p a2f0 a3f0 c_2 g3) [] rfl fn32 ⟨⟨rfl, rfl⟩, ⟨_, rfl, .inl ⟨rfl, rfl⟩⟩, ⟨_, rfl, .inl ⟨rfl, rfl⟩⟩, trivial⟩ (.inl rfl)) ?_
  refine SOps.q rfl (.plain rfl) rfl (q_extract rfl rfl rfl) ?_
  refine SOps.q rfl (.plain rfl) rfl (q_extract rfl rfl rfl) ?_
  refine SOps.q rfl (.plain rfl) rfl (q_assign rfl rfl) ?_
  refine SOps.q rfl (.plain rfl) rfl (q_assign rfl rfl) ?_
  refine SOps.sub (st' := ⟨[(5, .c (.int .i64 c_2.1)), (6, .c (.bool c_2.2))], []⟩) (sub_gen [] rfl rfl ⟨zc rfl rfl, zc rfl rfl, trivial⟩ trivial) ?_
  refine SOps.nil ?_
  refine SCode.ret ?_
  obtain rfl := Option.some.inj h
  exact ⟨⟨[(5, .c (.int .i64 c_2.1)), (6, .c (.bool c_2.2))], []⟩, _, sub_gen [] rfl rfl ⟨zc rfl rfl, zc rfl rfl, trivial⟩ trivial, resA2 (v1 := .c (.int .i64 c_2.1)) (v2 := .c (.bool c_2.2)) rfl rfl rfl, rfl⟩
set_option maxRecDepth 100000 in
set_option maxHeartbeats 8000000 in
theorem compose_leading_f1_31_ok (F : Nat) (a0_l : List SProfile) (a1f0 : Int) (a1f1 : Int) (a1f2 : Int) (r : SLead × Bool) (h : compose_leading_f1_31 F a0_l a1f0 a1f1 a1f2 = some r) :
    SFun Try.prog 30 [] [.c (.vec a0_l.length 11 (gL cSProfile dSProfile a0_l)), .c (.fn 31 3 (cellsG [.eptr 1 ((cInt .i64) a1f0) 0, .eptr 1 ((cInt .i64) a1f1) 0, .eptr 1 ((cInt .i64) a1f2) 0]))] (fun x _ => x = .t [.a [.int .i64 r.1.id, .int .i64 r.1.level, .int .i64 r.1.limit], .c (.bool r.2)]) := by
  refine SFun.of (n := 58) Try.func30 rfl rfl rfl ?_
  unfold compose_leading_f1_31 at h
  show SCode _ _ _ ⟨[(0, .c (.vec a0_l.length 11 (gL cSProfile dSProfile a0_l))), (1, .c (.fn 31 3 (cellsG [.eptr 1 ((cInt .i64) a1f0) 0, .eptr 1 ((cInt .i64) a1f1) 0, .eptr 1 ((cInt .i64) a1f2) 0])))], []⟩ _
  refine SCode.seq ?_
  refine SCode.region (show SOps _ _ _ [0, 1] _ _ from ?_)
  refine SOps.e rfl (.plain rfl) (e_alloc rfl rfl rfl z56) ?_
  refine SOps.q rfl (.plain rfl) rfl (q_assign rfl rfl) ?_
  refine SOps.sub (st' := ⟨[(0, .c (.vec a0_l.length 11 (gL cSProfile dSProfile a0_l))), (1, .c (.fn 31 3 (cellsG [.eptr 1 ((cInt .i64) a1f0) 0, .eptr 1 ((cInt .i64) a1f1) 0, .eptr 1 ((cInt .i64) a1f2) 0]))), (4, .c (.ptr 0 0))], [.box [.int .i64 0, .int .i64 0, .int .i64 0]]⟩) (sub_gen [0] rfl rfl ⟨zc rfl rfl, zc rfl rfl, zc rfl rfl, trivial⟩ ⟨⟨_, rfl, ⟨ii rfl rfl, ii rfl rfl, ii rfl rfl, trivial⟩⟩, trivial⟩) ?_
  refine SOps.nil ?_
  refine SCode.seq ?_
  refine SCode.region (show SOps _ _ _ [0] _ _ from ?_)
  refine SOps.e rfl (.plain rfl) (e_alloc rfl rfl rfl z56) ?_
  refine SOps.sub (st' := ⟨[(0, .c (.vec a0_l.length 11 (gL cSProfile dSProfile a0_l))), (1, .c (.fn 31 3 (cellsG [.eptr 1 ((cInt .i64) a1f0) 0, .eptr 1 ((cInt .i64) a1f1) 0, .eptr 1 ((cInt .i64) a1f2) 0]))), (4, .c (.ptr 0 0)), (6, .c (.ptr 1 0))], [.box [.int .i64 0, .int .i64 0, .int .i64 0], .box [.int .i64 0, .int .i64 0, .int .i64 0]]⟩) (sub_gen [0, 1] rfl rfl ⟨zc rfl rfl, zc rfl rfl, zc rfl rfl, zc rfl rfl, trivial⟩ ⟨⟨_, rfl, ⟨ii rfl rfl, ii rfl rfl, ii rfl rfl, trivial⟩⟩, ⟨_, rfl, ⟨ii rfl rfl, ii rfl rfl, ii rfl rfl, trivial⟩⟩, trivial⟩) ?_
  refine SOps.nil ?_
  refine SCode.seq ?_
  refine SCode.region (show SOps _ _ _ [0] _ _ from ?_)
  refine SOps.q rfl (.plain rfl) rfl (q_assign rfl rfl) ?_
  refine SOps.sub (st' := ⟨[(0, .c (.vec a0_l.length 11 (gL cSProfile dSProfile a0_l))), (1, .c (.fn 31 3 (cellsG [.eptr 1 ((cInt .i64) a1f0) 0, .eptr 1 ((cInt .i64) a1f1) 0, .eptr 1 ((cInt .i64) a1f2) 0]))), (4, .c (.ptr 0 0)), (6, .c (.ptr 1 0)), (7, .c (.bool false))], [.box [.int .i64 0, .int .i64 0, .int .i64 0], .box [.int .i64 0, .int .i64 0, .int .i64 0]]⟩) (sub_gen [0, 1] rfl rfl ⟨zc rfl rfl, zc rfl rfl, zc rfl rfl, zc rfl rfl, zc rfl rfl, trivial⟩ ⟨⟨_, rfl, ⟨ii rfl rfl, ii rfl rfl, ii rfl rfl, trivial⟩⟩, ⟨_, rfl, ⟨ii rfl rfl, ii rfl rfl, ii rfl rfl, trivial⟩⟩, trivial⟩) ?_
  refine SOps.nil ?_
  refine SCode.join (σ := Bool × Int × Int × Int) (S := fun s => ⟨[(4, .c (.ptr 0 0)), (6, .c (.ptr 1 0)), (7, .c (.bool s.1))], [.box [.int .i64 0, .int .i64 0, .int .i64 0], .box [.int .i64 s.2.1, .int .i64 s.2.2.1, .int .i64 s.2.2.2]]⟩) (g := fun s => compose_leading_f1_31_p5 s.1 s.2.1 s.2.2.1 s.2.2.2 = some r) ?_ ?_
  rotate_left
  · refine SCode.seq ?_
    refine SCode.region (show SOps _ _ _ [0, 1, 2] _ _ from ?_)
    refine SOps.q rfl (.plain rfl) rfl (q_move rfl rfl) ?_
    refine SOps.q rfl (.plain rfl) rfl (q_len_vec rfl rfl sl22) ?_
    refine SOps.q rfl (.plain rfl) rfl (q_move rfl rfl) ?_
    refine SOps.sub (st' := ⟨[(1, .c (.fn 31 3 (cellsG [.eptr 1 ((cInt .i64) a1f0) 0, .eptr 1 ((cInt .i64) a1f1) 0, .eptr 1 ((cInt .i64) a1f2) 0]))), (4, .c (.ptr 0 0)), (6, .c (.ptr 1 0)), (7, .c (.bool false)), (12, .c (.vec a0_l.length 11 (gL cSProfile dSProfile a0_l))), (13, .c (.int .i64 (((a0_l).length : Int)))), (14, .c (.int .i64 0))], [.box [.int .i64 0, .int .i64 0, .int .i64 0], .box [.int .i64 0, .int .i64 0, .int .i64 0]]⟩) (sub_gen [0, 1] rfl rfl ⟨zc rfl rfl, zc rfl rfl, zc rfl rfl, zc rfl rfl, zc rfl rfl, zc rfl rfl, zc rfl rfl, trivial⟩ ⟨⟨_, rfl, ⟨ii rfl rfl, ii rfl rfl, ii rfl rfl, trivial⟩⟩, ⟨_, rfl, ⟨ii rfl rfl, ii rfl rfl, ii rfl rfl, trivial⟩⟩, trivial⟩) ?_
    refine SOps.nil ?_
    refine SCode.block ?_
    refine SCode.sub (st' := ⟨[(1, .c (.fn 31 3 (cellsG [.eptr 1 ((cInt .i64) a1f0) 0, .eptr 1 ((cInt .i64) a1f1) 0, .eptr 1 ((cInt .i64) a1f2) 0]))), (4, .c (.ptr 0 0)), (6, .c (.ptr 1 0)), (7, .c (.bool false)), (12, .c (.vec a0_l.length 11 (gL cSProfile dSProfile a0_l))), (13, .c (.int .i64 (((a0_l).length : Int)))), (14, .c (.int .i64 0))], [.box [.int .i64 0, .int .i64 0, .int .i64 0], .box [.int .i64 0, .int .i64 0, .int .i64 0]]⟩) (sub_gen [0, 1] rfl rfl ⟨zc rfl rfl, zc rfl rfl, zc rfl rfl, zc rfl rfl, zc rfl rfl, zc rfl rfl, zc rfl rfl, trivial⟩ ⟨⟨_, rfl, ⟨ii rfl rfl, ii rfl rfl, ii rfl rfl, trivial⟩⟩, ⟨_, rfl, ⟨ii rfl rfl, ii rfl rfl, ii rfl rfl, trivial⟩⟩, trivial⟩) ?_
    refine (SCode.loop (σ := Nat × (Bool × Int × Int × Int × Int)) (S := fun s => ⟨[(1, .c (.fn 31 3 (cellsG [.eptr 1 ((cInt .i64) a1f0) 0, .eptr 1 ((cInt .i64) a1f1) 0, .eptr 1 ((cInt .i64) a1f2) 0]))), (4, .c (.ptr 0 0)), (6, .c (.ptr 1 0)), (7, .c (.bool s.2.1)), (12, .c (.vec a0_l.length 11 (gL cSProfile dSProfile a0_l))), (13, .c (.int .i64 (((a0_l).length : Int)))), (14, .c (.int .i64 s.2.2.1))], [.box [.int .i64 0, .int .i64 0, .int .i64 0], .box [.int .i64 s.2.2.2.1, .int .i64 s.2.2.2.2.1, .int .i64 s.2.2.2.2.2]]⟩) (g := fun s => compose_leading_f1_31_l35 F a0_l a1f0 a1f1 a1f2 s.1 s.2.1 s.2.2.1 s.2.2.2.1 s.2.2.2.2.1 s.2.2.2.2.2 = some r) (μ := fun s => s.1) (F, (false, 0, 0, 0, 0)) h ?_)
    rintro ⟨n_35, ⟨found_16, t14_17, b1_18, b1_19, b1_20⟩⟩ h
    replace h : compose_leading_f1_31_l35 F a0_l a1f0 a1f1 a1f2 n_35 found_16 t14_17 b1_18 b1_19 b1_20 = some r := h
    show SCode _ _ _ ⟨[(1, .c (.fn 31 3 (cellsG [.eptr 1 ((cInt .i64) a1f0) 0, .eptr 1 ((cInt .i64) a1f1) 0, .eptr 1 ((cInt .i64) a1f2) 0]))), (4, .c (.ptr 0 0)), (6, .c (.ptr 1 0)), (7, .c (.bool found_16)), (12, .c (.vec a0_l.length 11 (gL cSProfile dSProfile a0_l))), (13, .c (.int .i64 (((a0_l).length : Int)))), (14, .c (.int .i64 t14_17))], [.box [.int .i64 0, .int .i64 0, .int .i64 0], .box [.int .i64 b1_18, .int .i64 b1_19, .int .i64 b1_20]]⟩ _
    cases n_35 with
    | zero => cases h
    | succ n_35 =>
      replace h : compose_leading_f1_31_b35 F a0_l a1f0 a1f1 a1f2 (fun found_16 t14_17 b1_18 b1_19 b1_20 => compose_leading_f1_31_l35 F a0_l a1f0 a1f1 a1f2 n_35 found_16 t14_17 b1_18 b1_19 b1_20) found_16 t14_17 b1_18 b1_19 b1_20 = some r := h
      unfold compose_leading_f1_31_b35 at h
      refine SCode.seq ?_
      refine SCode.region (show SOps _ _ _ [0] _ _ from ?_)
      refine SOps.q rfl (.plain rfl) rfl (q_lss rfl rfl rfl) ?_
      refine SOps.sub (st' := ⟨[(1, .c (.fn 31 3 (cellsG [.eptr 1 ((cInt .i64) a1f0) 0, .eptr 1 ((cInt .i64) a1f1) 0, .eptr 1 ((cInt .i64) a1f2) 0]))), (4, .c (.ptr 0 0)), (6, .c (.ptr 1 0)), (7, .c (.bool found_16)), (12, .c (.vec a0_l.length 11 (gL cSProfile dSProfile a0_l))), (13, .c (.int .i64 (((a0_l).length : Int)))), (14, .c (.int .i64 t14_17)), (15, .c (.bool (decide (t14_17 < ((a0_l).length : Int)))))], [.box [.int .i64 0, .int .i64 0, .int .i64 0], .box [.int .i64 b1_18, .int .i64 b1_19, .int .i64 b1_20]]⟩) (sub_gen [0, 1] rfl rfl ⟨zc rfl rfl, zc rfl rfl, zc rfl rfl, zc rfl rfl, zc rfl rfl, zc rfl rfl, zc rfl rfl, zc rfl rfl, trivial⟩ ⟨⟨_, rfl, ⟨ii rfl rfl, ii rfl rfl, ii rfl rfl, trivial⟩⟩, ⟨_, rfl, ⟨ii rfl rfl, ii rfl rfl, ii rfl rfl, trivial⟩⟩, trivial⟩) ?_
      refine SOps.nil ?_
      refine SCode.seq ?_
      rcases cond_out h with ⟨g36, h⟩ | ⟨g36, h⟩
      · refine SCode.cond_t rfl g36 ?_
        refine SCode.skip ?_
        refine SCode.join (σ := Bool × Int × Int × Int) (S := fun s => ⟨[(1, .c (.fn 31 3 (cellsG [.eptr 1 ((cInt .i64) a1f0) 0, .eptr 1 ((cInt .i64) a1f1) 0, .eptr 1 ((cInt .i64) a1f2) 0]))), (4, .c (.ptr 0 0)), (6, .c (.ptr 1 0)), (7, .c (.bool s.1)), (12, .c (.vec a0_l.length 11 (gL cSProfile dSProfile a0_l))), (13, .c (.int .i64 (((a0_l).length : Int)))), (14, .c (.int .i64 t14_17))], [.box [.int .i64 0, .int .i64 0, .int .i64 0], .box [.int .i64 s.2.1, .int .i64 s.2.2.1, .int .i64 s.2.2.2]]⟩) (g := fun s => compose_leading_f1_31_p41 t14_17 (fun found_16 t14_17 b1_18 b1_19 b1_20 => compose_leading_f1_31_l35 F a0_l a1f0 a1f1 a1f2 n_35 found_16 t14_17 b1_18 b1_19 b1_20) s.1 s.2.1 s.2.2.1 s.2.2.2 = some r) ?_ ?_
        rotate_left
        · refine SCode.block ?_
          refine SCode.seq ?_
          obtain ⟨g42, h⟩ := guard_out h
          refine SCode.region (show SOps _ _ _ [0, 1, 2, 3] _ _ from ?_)
          refine SOps.q rfl (.plain rfl) rfl (q_index_vec rfl rfl rfl sl22 rfl g42.1 g42.2) ?_
          refine SOps.q rfl (.plain rfl) rfl (q_load_eptr_all rfl rfl rfl ty29) ?_
          refine SOps.e rfl (.plain rfl) (e_alloc rfl rfl rfl z29) ?_
          refine SOps.e rfl (.plain rfl) (e_store_box rfl rfl rfl rfl rfl ty29 rfl rfl rfl rfl) ?_
          refine SOps.sub (st' := ⟨[(1, .c (.fn 31 3 (cellsG [.eptr 1 ((cInt .i64) a1f0) 0, .eptr 1 ((cInt .i64) a1f1) 0, .eptr 1 ((cInt .i64) a1f2) 0]))), (4, .c (.ptr 0 0)), (6, .c (.ptr 1 0)), (7, .c (.bool found_16)), (9, .c (.ptr 2 0)), (12, .c (.vec a0_l.length 11 (gL cSProfile dSProfile a0_l))), (13, .c (.int .i64 (((a0_l).length : Int)))), (14, .c (.int .i64 t14_17))], [.box [.int .i64 0, .int .i64 0, .int .i64 0], .box [.int .i64 b1_18, .int .i64 b1_19, .int .i64 b1_20], .box [.int .i64 ((a0_l.getD t14_17.toNat dSProfile).ID), .int .i64 ((a0_l.getD t14_17.toNat dSProfile).Level), .int .i64 ((a0_l.getD t14_17.toNat dSProfile).Purpose), .int .i64 ((a0_l.getD t14_17.toNat dSProfile).Kind), .int .i64 ((a0_l.getD t14_17.toNat dSProfile).Conn), .str ((a0_l.getD t14_17.toNat dSProfile).Txn), .int .i64 ((a0_l.getD t14_17.toNat dSProfile).Span_From), .int .i64 ((a0_l.getD t14_17.toNat dSProfile).Span_To), .int .i64 ((a0_l.getD t14_17.toNat dSProfile).Start), .int .i64 ((a0_l.getD t14_17.toNat dSProfile).Duration), .vec ((a0_l.getD t14_17.toNat dSProfile).Periods).length 2 (gL cSPeriod dSPeriod ((a0_l.getD t14_17.toNat dSProfile).Periods))]]⟩) (sub_gen [0, 1, 2] rfl rfl ⟨zc rfl rfl, zc rfl rfl, zc rfl rfl, zc rfl rfl, zc rfl rfl, zc rfl rfl, zc rfl rfl, zc rfl rfl, trivial⟩ ⟨⟨_, rfl, ⟨ii rfl rfl, ii rfl rfl, ii rfl rfl, trivial⟩⟩, ⟨_, rfl, ⟨ii rfl rfl, ii rfl rfl, ii rfl rfl, trivial⟩⟩, ⟨_, rfl, ⟨ii rfl rfl, ii rfl rfl, ii rfl rfl, ii rfl rfl, ii rfl rfl, ii rfl rfl, ii rfl rfl, ii rfl rfl, ii rfl rfl, ii rfl rfl, ii rfl rfl, trivial⟩⟩, trivial⟩) ?_
          refine SOps.nil ?_
          refine SCode.seq ?_
          obtain ⟨c_43, g44, h⟩ := bind_out h
          try dsimp only at h
          refine SCode.region (show SOps _ _ _ [0, 1, 2, 3, 4, 5, 6, 7] _ _ from ?_)
          refine SOps.q rfl (.plain rfl) rfl (q_move rfl rfl) ?_
          refine SOps.q rfl (.plain rfl) rfl (q_load_ptr_all rfl rfl rfl rfl rfl ty29) ?_
          refine SOps.q rfl (.plain rfl) rfl (q_callv (cs := [.eptr 1 ((cInt .i64) a1f0) 0, .eptr 1 ((cInt .i64) a1f1) 0, .eptr 1 ((cInt .i64) a1f2) 0]) (compose_determining_1_1_ok F (a0_l.getD t14_17.toNat dSProfile) a1f0 a1f1 a1f2 c_43 g44) [] rfl rfl fn31 ⟨⟨rfl, rfl⟩, ⟨_, rfl, .inl ⟨rfl, rfl⟩⟩, ⟨_, rfl, .inl ⟨rfl, rfl⟩⟩, ⟨_, rfl, .inl ⟨rfl, rfl⟩⟩, trivial⟩ (.inl rfl)) ?_
          refine SOps.q rfl (.plain rfl) rfl (q_move rfl rfl) ?_
          refine SOps.q rfl (.plain rfl) rfl (q_extract rfl rfl rfl) ?_
          refine SOps.q rfl (.plain rfl) rfl (q_extract rfl rfl rfl) ?_
          refine SOps.q rfl (.plain rfl) rfl (q_assign rfl rfl) ?_
          refine SOps.q rfl (.plain rfl) rfl (q_assign rfl rfl) ?_
          refine SOps.sub (st' := ⟨[(1, .c (.fn 31 3 (cellsG [.eptr 1 ((cInt .i64) a1f0) 0, .eptr 1 ((cInt .i64) a1f1) 0, .eptr 1 ((cInt .i64) a1f2) 0]))), (4, .c (.ptr 0 0)), (6, .c (.ptr 1 0)), (7, .c (.bool found_16)), (9, .c (.ptr 2 0)), (10, .c (.int .i64 c_43.1)), (11, .c (.bool c_43.2)), (12, .c (.vec a0_l.length 11 (gL cSProfile dSProfile a0_l))), (13, .c (.int .i64 (((a0_l).length : Int)))), (14, .c (.int .i64 t14_17))], [.box [.int .i64 0, .int .i64 0, .int .i64 0], .box [.int .i64 b1_18, .int .i64 b1_19, .int .i64 b1_20], .box [.int .i64 ((a0_l.getD t14_17.toNat dSProfile).ID), .int .i64 ((a0_l.getD t14_17.toNat dSProfile).Level), .int .i64 ((a0_l.getD t14_17.toNat dSProfile).Purpose), .int .i64 ((a0_l.getD t14_17.toNat dSProfile).Kind), .int .i64 ((a0_l.getD t14_17.toNat dSProfile).Conn), .str ((a0_l.getD t14_17.toNat dSProfile).Txn), .int .i64 ((a0_l.getD t14_17.toNat dSProfile).Span_From), .int .i64 ((a0_l.getD t14_17.toNat dSProfile).Span_To), .int .i64 ((a0_l.getD t14_17.toNat dSProfile).Start), .int .i64 ((a0_l.getD t14_17.toNat dSProfile).Duration), .vec ((a0_l.getD t14_17.toNat dSProfile).Periods).length 2 (gL cSPeriod dSPeriod ((a0_l.getD t14_17.toNat dSProfile).Periods))]]⟩) (sub_gen [0, 1, 2] rfl rfl ⟨zc rfl rfl, zc rfl rfl, zc rfl rfl, zc rfl rfl, zc rfl rfl, zc rfl rfl, zc rfl rfl, zc rfl rfl, zc rfl rfl, zc rfl rfl, trivial⟩ ⟨⟨_, rfl, ⟨ii rfl rfl, ii rfl rfl, ii rfl rfl, trivial⟩⟩, ⟨_, rfl, ⟨ii rfl rfl, ii rfl rfl, ii rfl rfl, trivial⟩⟩, ⟨_, rfl, ⟨ii rfl rfl, ii rfl rfl, ii rfl rfl, ii rfl rfl, ii rfl rfl, ii rfl rfl, ii rfl rfl, ii rfl rfl, ii rfl rfl, ii rfl rfl, ii rfl rfl, trivial⟩⟩, trivial⟩) ?_
          refine SOps.nil ?_
          refine SCode.seq ?_
          refine SCode.seq ?_
          refine SCode.region (show SOps _ _ _ [0, 1] _ _ from ?_)
          refine SOps.q rfl (.plain rfl) rfl (q_move rfl rfl) ?_
          refine SOps.q rfl (.plain rfl) rfl (q_not rfl rfl) ?_
          refine SOps.sub (st' := ⟨[(1, .c (.fn 31 3 (cellsG [.eptr 1 ((cInt .i64) a1f0) 0, .eptr 1 ((cInt .i64) a1f1) 0, .eptr 1 ((cInt .i64) a1f2) 0]))), (4, .c (.ptr 0 0)), (6, .c (.ptr 1 0)), (7, .c (.bool found_16)), (9, .c (.ptr 2 0)), (10, .c (.int .i64 c_43.1)), (12, .c (.vec a0_l.length 11 (gL cSProfile dSProfile a0_l))), (13, .c (.int .i64 (((a0_l).length : Int)))), (14, .c (.int .i64 t14_17)), (25, .c (.bool ((!c_43.2))))], [.box [.int .i64 0, .int .i64 0, .int .i64 0], .box [.int .i64 b1_18, .int .i64 b1_19, .int .i64 b1_20], .box [.int .i64 ((a0_l.getD t14_17.toNat dSProfile).ID), .int .i64 ((a0_l.getD t14_17.toNat dSProfile).Level), .int .i64 ((a0_l.getD t14_17.toNat dSProfile).Purpose), .int .i64 ((a0_l.getD t14_17.toNat dSProfile).Kind), .int .i64 ((a0_l.getD t14_17.toNat dSProfile).Conn), .str ((a0_l.getD t14_17.toNat dSProfile).Txn), .int .i64 ((a0_l.getD t14_17.toNat dSProfile).Span_From), .int .i64 ((a0_l.getD t14_17.toNat dSProfile).Span_To), .int .i64 ((a0_l.getD t14_17.toNat dSProfile).Start), .int .i64 ((a0_l.getD t14_17.toNat dSProfile).Duration), .vec ((a0_l.getD t14_17.toNat dSProfile).Periods).length 2 (gL cSPeriod dSPeriod ((a0_l.getD t14_17.toNat dSProfile).Periods))]]⟩) (sub_gen [0, 1, 2] rfl rfl ⟨zc rfl rfl, zc rfl rfl, zc rfl rfl, zc rfl rfl, zc rfl rfl, zc rfl rfl, zc rfl rfl, zc rfl rfl, zc rfl rfl, zc rfl rfl, trivial⟩ ⟨⟨_, rfl, ⟨ii rfl rfl, ii rfl rfl, ii rfl rfl, trivial⟩⟩, ⟨_, rfl, ⟨ii rfl rfl, ii rfl rfl, ii rfl rfl, trivial⟩⟩, ⟨_, rfl, ⟨ii rfl rfl, ii rfl rfl, ii rfl rfl, ii rfl rfl, ii rfl rfl, ii rfl rfl, ii rfl rfl, ii rfl rfl, ii rfl rfl, ii rfl rfl, ii rfl rfl, trivial⟩⟩, trivial⟩) ?_
          refine SOps.nil ?_
          rcases cond_out h with ⟨g45, h⟩ | ⟨g45, h⟩
          · refine SCode.cond_t rfl g45 ?_
            refine SCode.exit ?_
            exact ⟨(found_16, b1_18, b1_19, b1_20), h, sub_gen [0, 1] rfl rfl ⟨zc rfl rfl, zc rfl rfl, zc rfl rfl, zc rfl rfl, zc rfl rfl, zc rfl rfl, zc rfl rfl, trivial⟩ ⟨⟨_, rfl, ⟨ii rfl rfl, ii rfl rfl, ii rfl rfl, trivial⟩⟩, ⟨_, rfl, ⟨ii rfl rfl, ii rfl rfl, ii rfl rfl, trivial⟩⟩, trivial⟩⟩
          refine SCode.cond_f rfl g45 ?_
          refine SCode.skip ?_
          refine SCode.seq ?_
          rcases cond_out h with ⟨g46, h⟩ | ⟨g46, h⟩
          · refine SCode.region (show SOps _ _ _ [0, 1, 2, 3, 4, 5, 6, 7, 8, 9, 10, 11, 12, 13, 14, 15, 16, 17, 18, 19, 20, 21, 22] _ _ from ?_)
            refine SOps.q rfl (.plain rfl) rfl (q_move rfl rfl) ?_
            refine SOps.q rfl (.plain rfl) rfl (q_not rfl rfl) ?_
            refine SOps.q rfl (.plain rfl) rfl (q_move rfl rfl) ?_
            refine SOps.skip rfl 2 28 false rfl rfl (.inl (gT g46)) rfl ?_
            refine SOps.skip rfl 2 28 false rfl rfl (.inl (gT g46)) rfl ?_
            refine SOps.skip rfl 2 28 false rfl rfl (.inl (gT g46)) rfl ?_
            refine SOps.skip rfl 2 28 false rfl rfl (.inl (gT g46)) rfl ?_
            refine SOps.skip rfl 2 28 false rfl rfl (.inl (gT g46)) rfl ?_
            refine SOps.q rfl (.plain rfl) rfl (q_pick_t rfl rfl g46 rfl) ?_
            refine SOps.q rfl (.plain rfl) rfl (q_move rfl rfl) ?_
            refine SOps.skip rfl 9 35 false rfl rfl (.inl rfl) rfl ?_
            refine SOps.skip rfl 9 35 false rfl rfl (.inl rfl) rfl ?_
            refine SOps.skip rfl 9 35 false rfl rfl (.inl rfl) rfl ?_
            refine SOps.skip rfl 9 35 false rfl rfl (.inl rfl) rfl ?_
            refine SOps.skip rfl 9 35 false rfl rfl (.inl rfl) rfl ?_
            refine SOps.skip rfl 9 35 false rfl rfl (.inl rfl) rfl ?_
            refine SOps.skip rfl 15 41 true rfl rfl (.inr rfl) rfl ?_
            refine SOps.skip rfl 15 41 true rfl rfl (.inr rfl) rfl ?_
            refine SOps.skip rfl 15 41 true rfl rfl (.inr rfl) rfl ?_
            refine SOps.skip rfl 15 41 true rfl rfl (.inr rfl) rfl ?_
            refine SOps.skip rfl 15 41 true rfl rfl (.inr rfl) rfl ?_
            refine SOps.skip rfl 9 35 false rfl rfl (.inl rfl) rfl ?_
            refine SOps.q rfl (.plain rfl) rfl (q_pick_t rfl rfl rfl rfl) ?_
            refine SOps.sub (st' := ⟨[(1, .c (.fn 31 3 (cellsG [.eptr 1 ((cInt .i64) a1f0) 0, .eptr 1 ((cInt .i64) a1f1) 0, .eptr 1 ((cInt .i64) a1f2) 0]))), (4, .c (.ptr 0 0)), (6, .c (.ptr 1 0)), (7, .c (.bool found_16)), (9, .c (.ptr 2 0)), (10, .c (.int .i64 c_43.1)), (12, .c (.vec a0_l.length 11 (gL cSProfile dSProfile a0_l))), (13, .c (.int .i64 (((a0_l).length : Int)))), (14, .c (.int .i64 t14_17)), (48, .c (.bool true))], [.box [.int .i64 0, .int .i64 0, .int .i64 0], .box [.int .i64 b1_18, .int .i64 b1_19, .int .i64 b1_20], .box [.int .i64 ((a0_l.getD t14_17.toNat dSProfile).ID), .int .i64 ((a0_l.getD t14_17.toNat dSProfile).Level), .int .i64 ((a0_l.getD t14_17.toNat dSProfile).Purpose), .int .i64 ((a0_l.getD t14_17.toNat dSProfile).Kind), .int .i64 ((a0_l.getD t14_17.toNat dSProfile).Conn), .str ((a0_l.getD t14_17.toNat dSProfile).Txn), .int .i64 ((a0_l.getD t14_17.toNat dSProfile).Span_From), .int .i64 ((a0_l.getD t14_17.toNat dSProfile).Span_To), .int .i64 ((a0_l.getD t14_17.toNat dSProfile).Start), .int .i64 ((a0_l.getD t14_17.toNat dSProfile).Duration), .vec ((a0_l.getD t14_17.toNat dSProfile).Periods).length 2 (gL cSPeriod dSPeriod ((a0_l.getD t14_17.toNat dSProfile).Periods))]]⟩) (sub_gen [0, 1, 2] rfl rfl ⟨zc rfl rfl, zc rfl rfl, zc rfl rfl, zc rfl rfl, zc rfl rfl, zc rfl rfl, zc rfl rfl, zc rfl rfl, zc rfl rfl, zc rfl rfl, trivial⟩ ⟨⟨_, rfl, ⟨ii rfl rfl, ii rfl rfl, ii rfl rfl, trivial⟩⟩, ⟨_, rfl, ⟨ii rfl rfl, ii rfl rfl, ii rfl rfl, trivial⟩⟩, ⟨_, rfl, ⟨ii rfl rfl, ii rfl rfl, ii rfl rfl, ii rfl rfl, ii rfl rfl, ii rfl rfl, ii rfl rfl, ii rfl rfl, ii rfl rfl, ii rfl rfl, ii rfl rfl, trivial⟩⟩, trivial⟩) ?_
            refine SOps.nil ?_
            refine SCode.cond_t rfl rfl ?_
            refine SCode.region (show SOps _ _ _ [0, 1, 2, 3, 4, 5, 6, 7] _ _ from ?_)
            refine SOps.q rfl (.plain rfl) rfl (q_field_ptr rfl rfl fd29_0) ?_
            refine SOps.q rfl (.plain rfl) rfl (q_load_ptr rfl rfl rfl rfl ty3) ?_
            refine SOps.q rfl (.plain rfl) rfl (q_field_ptr rfl rfl fd29_1) ?_
            refine SOps.q rfl (.plain rfl) rfl (q_load_ptr rfl rfl rfl rfl ty3) ?_
            refine SOps.q rfl (.plain rfl) rfl (q_move rfl rfl) ?_
            refine SOps.q rfl (.plain rfl) rfl (q_build2 rfl rfl pl56 rfl) ?_
            refine SOps.e rfl (.plain rfl) (e_store_box rfl rfl rfl rfl rfl ty56 rfl rfl rfl rfl) ?_
            refine SOps.q rfl (.plain rfl) rfl (q_assign rfl rfl) ?_
            refine SOps.sub (st' := ⟨[(1, .c (.fn 31 3 (cellsG [.eptr 1 ((cInt .i64) a1f0) 0, .eptr 1 ((cInt .i64) a1f1) 0, .eptr 1 ((cInt .i64) a1f2) 0]))), (4, .c (.ptr 0 0)), (6, .c (.ptr 1 0)), (7, .c (.bool true)), (12, .c (.vec a0_l.length 11 (gL cSProfile dSProfile a0_l))), (13, .c (.int .i64 (((a0_l).length : Int)))), (14, .c (.int .i64 t14_17))], [.box [.int .i64 0, .int .i64 0, .int .i64 0], .box [.int .i64 ((a0_l.getD t14_17.toNat dSProfile).ID), .int .i64 ((a0_l.getD t14_17.toNat dSProfile).Level), .int .i64 c_43.1]]⟩) (sub_gen [0, 1] rfl rfl ⟨zc rfl rfl, zc rfl rfl, zc rfl rfl, zc rfl rfl, zc rfl rfl, zc rfl rfl, zc rfl rfl, trivial⟩ ⟨⟨_, rfl, ⟨ii rfl rfl, ii rfl rfl, ii rfl rfl, trivial⟩⟩, ⟨_, rfl, ⟨ii rfl rfl, ii rfl rfl, ii rfl rfl, trivial⟩⟩, trivial⟩) ?_
            refine SOps.nil ?_
            exact ⟨(true, (a0_l.getD t14_17.toNat dSProfile).ID, (a0_l.getD t14_17.toNat dSProfile).Level, c_43.1), h, sub_gen [0, 1] rfl rfl ⟨zc rfl rfl, zc rfl rfl, zc rfl rfl, zc rfl rfl, zc rfl rfl, zc rfl rfl, zc rfl rfl, trivial⟩ ⟨⟨_, rfl, ⟨ii rfl rfl, ii rfl rfl, ii rfl rfl, trivial⟩⟩, ⟨_, rfl, ⟨ii rfl rfl, ii rfl rfl, ii rfl rfl, trivial⟩⟩, trivial⟩⟩
          rcases cond_out h with ⟨g47, h⟩ | ⟨g47, h⟩
          · refine SCode.region (show SOps _ _ _ [0, 1, 2, 3, 4, 5, 6, 7, 8, 9, 10, 11, 12, 13, 14, 15, 16, 17, 18, 19, 20, 21, 22] _ _ from ?_)
            refine SOps.q rfl (.plain rfl) rfl (q_move rfl rfl) ?_
            refine SOps.q rfl (.plain rfl) rfl (q_not rfl rfl) ?_
            refine SOps.q rfl (.plain rfl) rfl (q_move rfl rfl) ?_
            refine SOps.q rfl (.guard 2 28 false rfl rfl (gF g46)) rfl (q_field_ptr rfl rfl fd29_1) ?_
            refine SOps.q rfl (.guard 2 28 false rfl rfl (gF g46)) rfl (q_load_ptr rfl rfl rfl rfl ty3) ?_
            refine SOps.q rfl (.guard 2 28 false rfl rfl (gF g46)) rfl (q_field_ptr rfl rfl fd56_1) ?_
            refine SOps.q rfl (.guard 2 28 false rfl rfl (gF g46)) rfl (q_load_ptr rfl rfl rfl rfl ty3) ?_
            refine SOps.q rfl (.guard 2 28 false rfl rfl (gF g46)) rfl (q_gtr rfl rfl rfl) ?_
            refine SOps.q rfl (.plain rfl) rfl (q_pick_f rfl rfl g46 rfl) ?_
            refine SOps.q rfl (.plain rfl) rfl (q_move rfl rfl) ?_
            refine SOps.skip rfl 9 35 false rfl rfl (.inl (gT g47)) rfl ?_
            refine SOps.skip rfl 9 35 false rfl rfl (.inl (gT g47)) rfl ?_
            refine SOps.skip rfl 9 35 false rfl rfl (.inl (gT g47)) rfl ?_
            refine SOps.skip rfl 9 35 false rfl rfl (.inl (gT g47)) rfl ?_
            refine SOps.skip rfl 9 35 false rfl rfl (.inl (gT g47)) rfl ?_
            refine SOps.skip rfl 9 35 false rfl rfl (.inl (gT g47)) rfl ?_
            refine SOps.skip rfl 15 41 true rfl rfl (.inr rfl) rfl ?_
            refine SOps.skip rfl 15 41 true rfl rfl (.inr rfl) rfl ?_
            refine SOps.skip rfl 15 41 true rfl rfl (.inr rfl) rfl ?_
            refine SOps.skip rfl 15 41 true rfl rfl (.inr rfl) rfl ?_
            refine SOps.skip rfl 15 41 true rfl rfl (.inr rfl) rfl ?_
            refine SOps.skip rfl 9 35 false rfl rfl (.inl (gT g47)) rfl ?_
            refine SOps.q rfl (.plain rfl) rfl (q_pick_t rfl rfl g47 rfl) ?_
            refine SOps.sub (st' := ⟨[(1, .c (.fn 31 3 (cellsG [.eptr 1 ((cInt .i64) a1f0) 0, .eptr 1 ((cInt .i64) a1f1) 0, .eptr 1 ((cInt .i64) a1f2) 0]))), (4, .c (.ptr 0 0)), (6, .c (.ptr 1 0)), (7, .c (.bool found_16)), (9, .c (.ptr 2 0)), (10, .c (.int .i64 c_43.1)), (12, .c (.vec a0_l.length 11 (gL cSProfile dSProfile a0_l))), (13, .c (.int .i64 (((a0_l).length : Int)))), (14, .c (.int .i64 t14_17)), (48, .c (.bool true))], [.box [.int .i64 0, .int .i64 0, .int .i64 0], .box [.int .i64 b1_18, .int .i64 b1_19, .int .i64 b1_20], .box [.int .i64 ((a0_l.getD t14_17.toNat dSProfile).ID), .int .i64 ((a0_l.getD t14_17.toNat dSProfile).Level), .int .i64 ((a0_l.getD t14_17.toNat dSProfile).Purpose), .int .i64 ((a0_l.getD t14_17.toNat dSProfile).Kind), .int .i64 ((a0_l.getD t14_17.toNat dSProfile).Conn), .str ((a0_l.getD t14_17.toNat dSProfile).Txn), .int .i64 ((a0_l.getD t14_17.toNat dSProfile).Span_From), .int .i64 ((a0_l.getD t14_17.toNat dSProfile).Span_To), .int .i64 ((a0_l.getD t14_17.toNat dSProfile).Start), .int .i64 ((a0_l.getD t14_17.toNat dSProfile).Duration), .vec ((a0_l.getD t14_17.toNat dSProfile).Periods).length 2 (gL cSPeriod dSPeriod ((a0_l.getD t14_17.toNat dSProfile).Periods))]]⟩) (sub_gen [0, 1, 2] rfl rfl ⟨zc rfl rfl, zc rfl rfl, zc rfl rfl, zc rfl rfl, zc rfl rfl, zc rfl rfl, zc rfl rfl, zc rfl rfl, zc rfl rfl, zc rfl rfl, trivial⟩ ⟨⟨_, rfl, ⟨ii rfl rfl, ii rfl rfl, ii rfl rfl, trivial⟩⟩, ⟨_, rfl, ⟨ii rfl rfl, ii rfl rfl, ii rfl rfl, trivial⟩⟩, ⟨_, rfl, ⟨ii rfl rfl, ii rfl rfl, ii rfl rfl, ii rfl rfl, ii rfl rfl, ii rfl rfl, ii rfl rfl, ii rfl rfl, ii rfl rfl, ii rfl rfl, ii rfl rfl, trivial⟩⟩, trivial⟩) ?_
            refine SOps.nil ?_
            refine SCode.cond_t rfl rfl ?_
            refine SCode.region (show SOps _ _ _ [0, 1, 2, 3, 4, 5, 6, 7] _ _ from ?_)
            refine SOps.q rfl (.plain rfl) rfl (q_field_ptr rfl rfl fd29_0) ?_
            refine SOps.q rfl (.plain rfl) rfl (q_load_ptr rfl rfl rfl rfl ty3) ?_
            refine SOps.q rfl (.plain rfl) rfl (q_field_ptr rfl rfl fd29_1) ?_
            refine SOps.q rfl (.plain rfl) rfl (q_load_ptr rfl rfl rfl rfl ty3) ?_
            refine SOps.q rfl (.plain rfl) rfl (q_move rfl rfl) ?_
            refine SOps.q rfl (.plain rfl) rfl (q_build2 rfl rfl pl56 rfl) ?_
            refine SOps.e rfl (.plain rfl) (e_store_box rfl rfl rfl rfl rfl ty56 rfl rfl rfl rfl) ?_
            refine SOps.q rfl (.plain rfl) rfl (q_assign rfl rfl) ?_
            refine SOps.sub (st' := ⟨[(1, .c (.fn 31 3 (cellsG [.eptr 1 ((cInt .i64) a1f0) 0, .eptr 1 ((cInt .i64) a1f1) 0, .eptr 1 ((cInt .i64) a1f2) 0]))), (4, .c (.ptr 0 0)), (6, .c (.ptr 1 0)), (7, .c (.bool true)), (12, .c (.vec a0_l.length 11 (gL cSProfile dSProfile a0_l))), (13, .c (.int .i64 (((a0_l).length : Int)))), (14, .c (.int .i64 t14_17))], [.box [.int .i64 0, .int .i64 0, .int .i64 0], .box [.int .i64 ((a0_l.getD t14_17.toNat dSProfile).ID), .int .i64 ((a0_l.getD t14_17.toNat dSProfile).Level), .int .i64 c_43.1]]⟩) (sub_gen [0, 1] rfl rfl ⟨zc rfl rfl, zc rfl rfl, zc rfl rfl, zc rfl rfl, zc rfl rfl, zc rfl rfl, zc rfl rfl, trivial⟩ ⟨⟨_, rfl, ⟨ii rfl rfl, ii rfl rfl, ii rfl rfl, trivial⟩⟩, ⟨_, rfl, ⟨ii rfl rfl, ii rfl rfl, ii rfl rfl, trivial⟩⟩, trivial⟩) ?_
            refine SOps.nil ?_
            exact ⟨(true, (a0_l.getD t14_17.toNat dSProfile).ID, (a0_l.getD t14_17.toNat dSProfile).Level, c_43.1), h, sub_gen [0, 1] rfl rfl ⟨zc rfl rfl, zc rfl rfl, zc rfl rfl, zc rfl rfl, zc rfl rfl, zc rfl rfl, zc rfl rfl, trivial⟩ ⟨⟨_, rfl, ⟨ii rfl rfl, ii rfl rfl, ii rfl rfl, trivial⟩⟩, ⟨_, rfl, ⟨ii rfl rfl, ii rfl rfl, ii rfl rfl, trivial⟩⟩, trivial⟩⟩
          rcases cond_out h with ⟨g48, h⟩ | ⟨g48, h⟩
          · refine SCode.region (show SOps _ _ _ [0, 1, 2, 3, 4, 5, 6, 7, 8, 9, 10, 11, 12, 13, 14, 15, 16, 17, 18, 19, 20, 21, 22] _ _ from ?_)
            refine SOps.q rfl (.plain rfl) rfl (q_move rfl rfl) ?_
            refine SOps.q rfl (.plain rfl) rfl (q_not rfl rfl) ?_
            refine SOps.q rfl (.plain rfl) rfl (q_move rfl rfl) ?_
            refine SOps.q rfl (.guard 2 28 false rfl rfl (gF g46)) rfl (q_field_ptr rfl rfl fd29_1) ?_
            refine SOps.q rfl (.guard 2 28 false rfl rfl (gF g46)) rfl (q_load_ptr rfl rfl rfl rfl ty3) ?_
            refine SOps.q rfl (.guard 2 28 false rfl rfl (gF g46)) rfl (q_field_ptr rfl rfl fd56_1) ?_
            refine SOps.q rfl (.guard 2 28 false rfl rfl (gF g46)) rfl (q_load_ptr rfl rfl rfl rfl ty3) ?_
            refine SOps.q rfl (.guard 2 28 false rfl rfl (gF g46)) rfl (q_gtr rfl rfl rfl) ?_
            refine SOps.q rfl (.plain rfl) rfl (q_pick_f rfl rfl g46 rfl) ?_
            refine SOps.q rfl (.plain rfl) rfl (q_move rfl rfl) ?_
            refine SOps.q rfl (.guard 9 35 false rfl rfl (gF g47)) rfl (q_field_ptr rfl rfl fd29_1) ?_
            refine SOps.q rfl (.guard 9 35 false rfl rfl (gF g47)) rfl (q_load_ptr rfl rfl rfl rfl ty3) ?_
            refine SOps.q rfl (.guard 9 35 false rfl rfl (gF g47)) rfl (q_field_ptr rfl rfl fd56_1) ?_
            refine SOps.q rfl (.guard 9 35 false rfl rfl (gF g47)) rfl (q_load_ptr rfl rfl rfl rfl ty3) ?_
            refine SOps.q rfl (.guard 9 35 false rfl rfl (gF g47)) rfl (q_eql rfl rfl rfl) ?_
            refine SOps.q rfl (.guard 9 35 false rfl rfl (gF g47)) rfl (q_move rfl rfl) ?_
            refine SOps.q rfl (.guard 15 41 true rfl rfl (gT g48)) rfl (q_field_ptr rfl rfl fd29_0) ?_
            refine SOps.q rfl (.guard 15 41 true rfl rfl (gT g48)) rfl (q_load_ptr rfl rfl rfl rfl ty3) ?_
            refine SOps.q rfl (.guard 15 41 true rfl rfl (gT g48)) rfl (q_field_ptr rfl rfl fd56_0) ?_
            refine SOps.q rfl (.guard 15 41 true rfl rfl (gT g48)) rfl (q_load_ptr rfl rfl rfl rfl ty3) ?_
            refine SOps.q rfl (.guard 15 41 true rfl rfl (gT g48)) rfl (q_gtr rfl rfl rfl) ?_
            refine SOps.q rfl (.guard 9 35 false rfl rfl (gF g47)) rfl (q_pick_t rfl rfl g48 rfl) ?_
            refine SOps.q rfl (.plain rfl) rfl (q_pick_f rfl rfl g47 rfl) ?_
            refine SOps.sub (st' := ⟨[(1, .c (.fn 31 3 (cellsG [.eptr 1 ((cInt .i64) a1f0) 0, .eptr 1 ((cInt .i64) a1f1) 0, .eptr 1 ((cInt .i64) a1f2) 0]))), (4, .c (.ptr 0 0)), (6, .c (.ptr 1 0)), (7, .c (.bool found_16)), (9, .c (.ptr 2 0)), (10, .c (.int .i64 c_43.1)), (12, .c (.vec a0_l.length 11 (gL cSProfile dSProfile a0_l))), (13, .c (.int .i64 (((a0_l).length : Int)))), (14, .c (.int .i64 t14_17)), (48, .c (.bool (decide (b1_18 < (a0_l.getD t14_17.toNat dSProfile).ID))))], [.box [.int .i64 0, .int .i64 0, .int .i64 0], .box [.int .i64 b1_18, .int .i64 b1_19, .int .i64 b1_20], .box [.int .i64 ((a0_l.getD t14_17.toNat dSProfile).ID), .int .i64 ((a0_l.getD t14_17.toNat dSProfile).Level), .int .i64 ((a0_l.getD t14_17.toNat dSProfile).Purpose), .int .i64 ((a0_l.getD t14_17.toNat dSProfile).Kind), .int .i64 ((a0_l.getD t14_17.toNat dSProfile).Conn), .str ((a0_l.getD t14_17.toNat dSProfile).Txn), .int .i64 ((a0_l.getD t14_17.toNat dSProfile).Span_From), .int .i64 ((a0_l.getD t14_17.toNat dSProfile).Span_To), .int .i64 ((a0_l.getD t14_17.toNat dSProfile).Start), .int .i64 ((a0_l.getD t14_17.toNat dSProfile).Duration), .vec ((a0_l.getD t14_17.toNat dSProfile).Periods).length 2 (gL cSPeriod dSPeriod ((a0_l.getD t14_17.toNat dSProfile).Periods))]]⟩) (sub_gen [0, 1, 2] rfl rfl ⟨zc rfl rfl, zc rfl rfl, zc rfl rfl, zc rfl rfl, zc rfl rfl, zc rfl rfl, zc rfl rfl, zc rfl rfl, zc rfl rfl, zc rfl rfl, trivial⟩ ⟨⟨_, rfl, ⟨ii rfl rfl, ii rfl rfl, ii rfl rfl, trivial⟩⟩, ⟨_, rfl, ⟨ii rfl rfl, ii rfl rfl, ii rfl rfl, trivial⟩⟩, ⟨_, rfl, ⟨ii rfl rfl, ii rfl rfl, ii rfl rfl, ii rfl rfl, ii rfl rfl, ii rfl rfl, ii rfl rfl, ii rfl rfl, ii rfl rfl, ii rfl rfl, ii rfl rfl, trivial⟩⟩, trivial⟩) ?_
            refine SOps.nil ?_
            rcases cond_out h with ⟨g49, h⟩ | ⟨g49, h⟩
            · refine SCode.cond_t rfl g49 ?_
              refine SCode.region (show SOps _ _ _ [0, 1, 2, 3, 4, 5, 6, 7] _ _ from ?_)
              refine SOps.q rfl (.plain rfl) rfl (q_field_ptr rfl rfl fd29_0) ?_
              refine SOps.q rfl (.plain rfl) rfl (q_load_ptr rfl rfl rfl rfl ty3) ?_
              refine SOps.q rfl (.plain rfl) rfl (q_field_ptr rfl rfl fd29_1) ?_
              refine SOps.q rfl (.plain rfl) rfl (q_load_ptr rfl rfl rfl rfl ty3) ?_
              refine SOps.q rfl (.plain rfl) rfl (q_move rfl rfl) ?_
              refine SOps.q rfl (.plain rfl) rfl (q_build2 rfl rfl pl56 rfl) ?_
              refine SOps.e rfl (.plain rfl) (e_store_box rfl rfl rfl rfl rfl ty56 rfl rfl rfl rfl) ?_
              refine SOps.q rfl (.plain rfl) rfl (q_assign rfl rfl) ?_
              refine SOps.sub (st' := ⟨[(1, .c (.fn 31 3 (cellsG [.eptr 1 ((cInt .i64) a1f0) 0, .eptr 1 ((cInt .i64) a1f1) 0, .eptr 1 ((cInt .i64) a1f2) 0]))), (4, .c (.ptr 0 0)), (6, .c (.ptr 1 0)), (7, .c (.bool true)), (12, .c (.vec a0_l.length 11 (gL cSProfile dSProfile a0_l))), (13, .c (.int .i64 (((a0_l).length : Int)))), (14, .c (.int .i64 t14_17))], [.box [.int .i64 0, .int .i64 0, .int .i64 0], .box [.int .i64 ((a0_l.getD t14_17.toNat dSProfile).ID), .int .i64 ((a0_l.getD t14_17.toNat dSProfile).Level), .int .i64 c_43.1]]⟩) (sub_gen [0, 1] rfl rfl ⟨zc rfl rfl, zc rfl rfl, zc rfl rfl, zc rfl rfl, zc rfl rfl, zc rfl rfl, zc rfl rfl, trivial⟩ ⟨⟨_, rfl, ⟨ii rfl rfl, ii rfl rfl, ii rfl rfl, trivial⟩⟩, ⟨_, rfl, ⟨ii rfl rfl, ii rfl rfl, ii rfl rfl, trivial⟩⟩, trivial⟩) ?_
              refine SOps.nil ?_
              exact ⟨(true, (a0_l.getD t14_17.toNat dSProfile).ID, (a0_l.getD t14_17.toNat dSProfile).Level, c_43.1), h, sub_gen [0, 1] rfl rfl ⟨zc rfl rfl, zc rfl rfl, zc rfl rfl, zc rfl rfl, zc rfl rfl, zc rfl rfl, zc rfl rfl, trivial⟩ ⟨⟨_, rfl, ⟨ii rfl rfl, ii rfl rfl, ii rfl rfl, trivial⟩⟩, ⟨_, rfl, ⟨ii rfl rfl, ii rfl rfl, ii rfl rfl, trivial⟩⟩, trivial⟩⟩
            refine SCode.cond_f rfl g49 ?_
            refine SCode.skip ?_
            exact ⟨(found_16, b1_18, b1_19, b1_20), h, sub_gen [0, 1] rfl rfl ⟨zc rfl rfl, zc rfl rfl, zc rfl rfl, zc rfl rfl, zc rfl rfl, zc rfl rfl, zc rfl rfl, trivial⟩ ⟨⟨_, rfl, ⟨ii rfl rfl, ii rfl rfl, ii rfl rfl, trivial⟩⟩, ⟨_, rfl, ⟨ii rfl rfl, ii rfl rfl, ii rfl rfl, trivial⟩⟩, trivial⟩⟩
          refine SCode.region (show SOps _ _ _ [0, 1, 2, 3, 4, 5, 6, 7, 8, 9, 10, 11, 12, 13, 14, 15, 16, 17, 18, 19, 20, 21, 22] _ _ from ?_)
          refine SOps.q rfl (.plain rfl) rfl (q_move rfl rfl) ?_
          refine SOps.q rfl (.plain rfl) rfl (q_not rfl rfl) ?_
          refine SOps.q rfl (.plain rfl) rfl (q_move rfl rfl) ?_
          refine SOps.q rfl (.guard 2 28 false rfl rfl (gF g46)) rfl (q_field_ptr rfl rfl fd29_1) ?_
          refine SOps.q rfl (.guard 2 28 false rfl rfl (gF g46)) rfl (q_load_ptr rfl rfl rfl rfl ty3) ?_
          refine SOps.q rfl (.guard 2 28 false rfl rfl (gF g46)) rfl (q_field_ptr rfl rfl fd56_1) ?_
          refine SOps.q rfl (.guard 2 28 false rfl rfl (gF g46)) rfl (q_load_ptr rfl rfl rfl rfl ty3) ?_
          refine SOps.q rfl (.guard 2 28 false rfl rfl (gF g46)) rfl (q_gtr rfl rfl rfl) ?_
          refine SOps.q rfl (.plain rfl) rfl (q_pick_f rfl rfl g46 rfl) ?_
          refine SOps.q rfl (.plain rfl) rfl (q_move rfl rfl) ?_
          refine SOps.q rfl (.guard 9 35 false rfl rfl (gF g47)) rfl (q_field_ptr rfl rfl fd29_1) ?_
          refine SOps.q rfl (.guard 9 35 false rfl rfl (gF g47)) rfl (q_load_ptr rfl rfl rfl rfl ty3) ?_
          refine SOps.q rfl (.guard 9 35 false rfl rfl (gF g47)) rfl (q_field_ptr rfl rfl fd56_1) ?_
          refine SOps.q rfl (.guard 9 35 false rfl rfl (gF g47)) rfl (q_load_ptr rfl rfl rfl rfl ty3) ?_
          refine SOps.q rfl (.guard 9 35 false rfl rfl (gF g47)) rfl (q_eql rfl rfl rfl) ?_
          refine SOps.q rfl (.guard 9 35 false rfl rfl (gF g47)) rfl (q_move rfl rfl) ?_
          refine SOps.skip rfl 15 41 true rfl rfl (.inl (gF g48)) rfl ?_
          refine SOps.skip rfl 15 41 true rfl rfl (.inl (gF g48)) rfl ?_
          refine SOps.skip rfl 15 41 true rfl rfl (.inl (gF g48)) rfl ?_
          refine SOps.skip rfl 15 41 true rfl rfl (.inl (gF g48)) rfl ?_
          refine SOps.skip rfl 15 41 true rfl rfl (.inl (gF g48)) rfl ?_
          refine SOps.q rfl (.guard 9 35 false rfl rfl (gF g47)) rfl (q_pick_f rfl rfl g48 rfl) ?_
          refine SOps.q rfl (.plain rfl) rfl (q_pick_f rfl rfl g47 rfl) ?_
          refine SOps.sub (st' := ⟨[(1, .c (.fn 31 3 (cellsG [.eptr 1 ((cInt .i64) a1f0) 0, .eptr 1 ((cInt .i64) a1f1) 0, .eptr 1 ((cInt .i64) a1f2) 0]))), (4, .c (.ptr 0 0)), (6, .c (.ptr 1 0)), (7, .c (.bool found_16)), (9, .c (.ptr 2 0)), (10, .c (.int .i64 c_43.1)), (12, .c (.vec a0_l.length 11 (gL cSProfile dSProfile a0_l))), (13, .c (.int .i64 (((a0_l).length : Int)))), (14, .c (.int .i64 t14_17)), (48, .c (.bool false))], [.box [.int .i64 0, .int .i64 0, .int .i64 0], .box [.int .i64 b1_18, .int .i64 b1_19, .int .i64 b1_20], .box [.int .i64 ((a0_l.getD t14_17.toNat dSProfile).ID), .int .i64 ((a0_l.getD t14_17.toNat dSProfile).Level), .int .i64 ((a0_l.getD t14_17.toNat dSProfile).Purpose), .int .i64 ((a0_l.getD t14_17.toNat dSProfile).Kind), .int .i64 ((a0_l.getD t14_17.toNat dSProfile).Conn), .str ((a0_l.getD t14_17.toNat dSProfile).Txn), .int .i64 ((a0_l.getD t14_17.toNat dSProfile).Span_From), .int .i64 ((a0_l.getD t14_17.toNat dSProfile).Span_To), .int .i64 ((a0_l.getD t14_17.toNat dSProfile).Start), .int .i64 ((a0_l.getD t14_17.toNat dSProfile).Duration), .vec ((a0_l.getD t14_17.toNat dSProfile).Periods).length 2 (gL cSPeriod dSPeriod ((a0_l.getD t14_17.toNat dSProfile).Periods))]]⟩) (sub_gen [0, 1, 2] rfl rfl ⟨zc rfl rfl, zc rfl rfl, zc rfl rfl, zc rfl rfl, zc rfl rfl, zc rfl rfl, zc rfl rfl, zc rfl rfl, zc rfl rfl, zc rfl rfl, trivial⟩ ⟨⟨_, rfl, ⟨ii rfl rfl, ii rfl rfl, ii rfl rfl, trivial⟩⟩, ⟨_, rfl, ⟨ii rfl rfl, ii rfl rfl, ii rfl rfl, trivial⟩⟩, ⟨_, rfl, ⟨ii rfl rfl, ii rfl rfl, ii rfl rfl, ii rfl rfl, ii rfl rfl, ii rfl rfl, ii rfl rfl, ii rfl rfl, ii rfl rfl, ii rfl rfl, ii rfl rfl, trivial⟩⟩, trivial⟩) ?_
          refine SOps.nil ?_
          refine SCode.cond_f rfl rfl ?_
          refine SCode.skip ?_
          exact ⟨(found_16, b1_18, b1_19, b1_20), h, sub_gen [0, 1] rfl rfl ⟨zc rfl rfl, zc rfl rfl, zc rfl rfl, zc rfl rfl, zc rfl rfl, zc rfl rfl, zc rfl rfl, trivial⟩ ⟨⟨_, rfl, ⟨ii rfl rfl, ii rfl rfl, ii rfl rfl, trivial⟩⟩, ⟨_, rfl, ⟨ii rfl rfl, ii rfl rfl, ii rfl rfl, trivial⟩⟩, trivial⟩⟩
        rintro ⟨found_37, b1_38, b1_39, b1_40⟩ h
        show SCode _ _ _ ⟨[(1, .c (.fn 31 3 (cellsG [.eptr 1 ((cInt .i64) a1f0) 0, .eptr 1 ((cInt .i64) a1f1) 0, .eptr 1 ((cInt .i64) a1f2) 0]))), (4, .c (.ptr 0 0)), (6, .c (.ptr 1 0)), (7, .c (.bool found_37)), (12, .c (.vec a0_l.length 11 (gL cSProfile dSProfile a0_l))), (13, .c (.int .i64 (((a0_l).length : Int)))), (14, .c (.int .i64 t14_17))], [.box [.int .i64 0, .int .i64 0, .int .i64 0], .box [.int .i64 b1_38, .int .i64 b1_39, .int .i64 b1_40]]⟩ _
        replace h : compose_leading_f1_31_p41 t14_17 (fun found_16 t14_17 b1_18 b1_19 b1_20 => compose_leading_f1_31_l35 F a0_l a1f0 a1f1 a1f2 n_35 found_16 t14_17 b1_18 b1_19 b1_20) found_37 b1_38 b1_39 b1_40 = some r := h
        unfold compose_leading_f1_31_p41 at h
        refine SCode.region (show SOps _ _ _ [0, 1] _ _ from ?_)
        refine SOps.q rfl (.plain rfl) rfl (q_add rfl rfl rfl) ?_
        refine SOps.q rfl (.plain rfl) rfl (q_move rfl rfl) ?_
        refine SOps.sub (st' := ⟨[(1, .c (.fn 31 3 (cellsG [.eptr 1 ((cInt .i64) a1f0) 0, .eptr 1 ((cInt .i64) a1f1) 0, .eptr 1 ((cInt .i64) a1f2) 0]))), (4, .c (.ptr 0 0)), (6, .c (.ptr 1 0)), (7, .c (.bool found_37)), (12, .c (.vec a0_l.length 11 (gL cSProfile dSProfile a0_l))), (13, .c (.int .i64 (((a0_l).length : Int)))), (14, .c (.int .i64 (IntKind.wrap .i64 (t14_17 + 1))))], [.box [.int .i64 0, .int .i64 0, .int .i64 0], .box [.int .i64 b1_38, .int .i64 b1_39, .int .i64 b1_40]]⟩) (sub_gen [0, 1] rfl rfl ⟨zc rfl rfl, zc rfl rfl, zc rfl rfl, zc rfl rfl, zc rfl rfl, zc rfl rfl, zc rfl rfl, trivial⟩ ⟨⟨_, rfl, ⟨ii rfl rfl, ii rfl rfl, ii rfl rfl, trivial⟩⟩, ⟨_, rfl, ⟨ii rfl rfl, ii rfl rfl, ii rfl rfl, trivial⟩⟩, trivial⟩) ?_
        refine SOps.nil ?_
        exact ⟨(n_35, (found_37, IntKind.wrap .i64 (t14_17 + 1), b1_38, b1_39, b1_40)), h, Nat.lt_succ_self n_35, sub_gen [0, 1] rfl rfl ⟨zc rfl rfl, zc rfl rfl, zc rfl rfl, zc rfl rfl, zc rfl rfl, zc rfl rfl, zc rfl rfl, trivial⟩ ⟨⟨_, rfl, ⟨ii rfl rfl, ii rfl rfl, ii rfl rfl, trivial⟩⟩, ⟨_, rfl, ⟨ii rfl rfl, ii rfl rfl, ii rfl rfl, trivial⟩⟩, trivial⟩⟩
      refine SCode.cond_f rfl g36 ?_
      refine SCode.exit ?_
      exact ⟨(found_16, b1_18, b1_19, b1_20), h, sub_gen [0, 1] rfl rfl ⟨zc rfl rfl, zc rfl rfl, zc rfl rfl, trivial⟩ ⟨⟨_, rfl, ⟨ii rfl rfl, ii rfl rfl, ii rfl rfl, trivial⟩⟩, ⟨_, rfl, ⟨ii rfl rfl, ii rfl rfl, ii rfl rfl, trivial⟩⟩, trivial⟩⟩
  rintro ⟨found_1, b1_2, b1_3, b1_4⟩ h
  show SCode _ _ _ ⟨[(4, .c (.ptr 0 0)), (6, .c (.ptr 1 0)), (7, .c (.bool found_1))], [.box [.int .i64 0, .int .i64 0, .int .i64 0], .box [.int .i64 b1_2, .int .i64 b1_3, .int .i64 b1_4]]⟩ _
  replace h : compose_leading_f1_31_p5 found_1 b1_2 b1_3 b1_4 = some r := h
  unfold compose_leading_f1_31_p5 at h
  refine SCode.seq ?_
  refine SCode.region (show SOps _ _ _ [0, 1, 2, 3] _ _ from ?_)
  refine SOps.q rfl (.plain rfl) rfl (q_load_ptr_all rfl rfl rfl rfl rfl ty56) ?_
  refine SOps.q rfl (.plain rfl) rfl (q_move rfl rfl) ?_
  refine SOps.e rfl (.plain rfl) (e_store_box rfl rfl rfl rfl rfl ty56 rfl rfl rfl rfl) ?_
  refine SOps.q rfl (.plain rfl) rfl (q_assign rfl rfl) ?_
  refine SOps.sub (st' := ⟨[(4, .c (.ptr 0 0)), (5, .c (.bool found_1))], [.box [.int .i64 b1_2, .int .i64 b1_3, .int .i64 b1_4]]⟩) (sub_gen [0] rfl rfl ⟨zc rfl rfl, zc rfl rfl, trivial⟩ ⟨⟨_, rfl, ⟨ii rfl rfl, ii rfl rfl, ii rfl rfl, trivial⟩⟩, trivial⟩) ?_
  refine SOps.nil ?_
  refine SCode.ret ?_
  obtain rfl := Option.some.inj h
  exact ⟨⟨[(4, .c (.ptr 0 0)), (5, .c (.bool found_1))], [.box [.int .i64 b1_2, .int .i64 b1_3, .int .i64 b1_4]]⟩, _, sub_gen [0] rfl rfl ⟨zc rfl rfl, zc rfl rfl, trivial⟩ ⟨⟨_, rfl, ⟨ii rfl rfl, ii rfl rfl, ii rfl rfl, trivial⟩⟩, trivial⟩, resA2 (v1 := .a [.int .i64 b1_2, .int .i64 b1_3, .int .i64 b1_4]) (v2 := .c (.bool found_1)) rfl ⟨_, rfl, rfl, ty56⟩ rfl, rfl⟩
set_option maxRecDepth 100000 in
set_option maxHeartbeats 8000000 in
theorem compose_determining_1_ok (F : Nat) (a0_purpose : Int) (a1f0 : List SProfile) (a2f0 : Int) (a3f0 : Int) (r : SLead × Bool) (h : compose_determining_1 F a0_purpose a1f0 a2f0 a3f0 = some r) :
    SFun Try.prog 29 [] [.c (.int .i64 a0_purpose), .c (.eptr 1 ((cVec 11 cSProfile dSProfile) a1f0) 0), .c (.eptr 1 ((cInt .i64) a2f0) 0), .c (.eptr 1 ((cInt .i64) a3f0) 0)] (fun x _ => x = .t [.a [.int .i64 r.1.id, .int .i64 r.1.level, .int .i64 r.1.limit], .c (.bool r.2)]) := by
  refine SFun.of (n := 12) Try.func29 rfl rfl rfl ?_
  unfold compose_determining_1 at h
  show SCode _ _ _ ⟨[(0, .c (.int .i64 a0_purpose)), (1, .c (.eptr 1 ((cVec 11 cSProfile dSProfile) a1f0) 0)), (2, .c (.eptr 1 ((cInt .i64) a2f0) 0)), (3, .c (.eptr 1 ((cInt .i64) a3f0) 0))], []⟩ _
  refine SCode.seq ?_
  refine SCode.region (show SOps _ _ _ [0, 1, 2] _ _ from ?_)
  refine SOps.e rfl (.plain rfl) (e_box rfl rfl rfl rfl rfl rfl) ?_
  refine SOps.e rfl (.plain rfl) (e_alloc rfl rfl rfl z56) ?_
  refine SOps.q rfl (.plain rfl) rfl (q_assign rfl rfl) ?_
  refine SOps.sub (st' := ⟨[(1, .c (.eptr 1 ((cVec 11 cSProfile dSProfile) a1f0) 0)), (2, .c (.eptr 1 ((cInt .i64) a2f0) 0)), (3, .c (.eptr 1 ((cInt .i64) a3f0) 0)), (4, .c (.ptr 0 0)), (5, .c (.ptr 1 0))], [.box [.int .i64 a0_purpose], .box [.int .i64 0, .int .i64 0, .int .i64 0]]⟩) (sub_gen [0, 1] rfl rfl ⟨zc rfl rfl, zc rfl rfl, zc rfl rfl, zc rfl rfl, zc rfl rfl, trivial⟩ ⟨⟨_, rfl, ⟨ii rfl rfl, trivial⟩⟩, ⟨_, rfl, ⟨ii rfl rfl, ii rfl rfl, ii rfl rfl, trivial⟩⟩, trivial⟩) ?_
  refine SOps.nil ?_
  refine SCode.seq ?_
  obtain ⟨c_1, g2, h⟩ := bind_out h
  try dsimp only at h
  refine SCode.region (show SOps _ _ _ [0, 1, 2, 3, 4, 5, 6] _ _ from ?_)
  refine SOps.q rfl (.plain rfl) rfl (q_load_eptr rfl rfl ty22) ?_
  refine SOps.sub (st' := ⟨[(1, .c (.eptr 1 ((cVec 11 cSProfile dSProfile) a1f0) 0)), (2, .c (.eptr 1 ((cInt .i64) a2f0) 0)), (3, .c (.eptr 1 ((cInt .i64) a3f0) 0)), (4, .c (.eptr 1 ((cInt .i64) a0_purpose) 0)), (5, .c (.ptr 0 0)), (7, .c (.vec a1f0.length 11 (gL cSProfile dSProfile a1f0)))], [.box [.int .i64 0, .int .i64 0, .int .i64 0]]⟩) (sub_gen [1] rfl rfl ⟨zc rfl rfl, zc rfl rfl, zc rfl rfl, ⟨_, rfl, .inr (.inr (.inr (.inr (.inl ⟨_, _, _, _, _, rfl, rfl, rfl, by decide, by decide, boxG [.int .i64 a0_purpose] rfl rfl rfl⟩))))⟩, zc rfl rfl, zc rfl rfl, trivial⟩ ⟨⟨_, rfl, ⟨ii rfl rfl, ii rfl rfl, ii rfl rfl, trivial⟩⟩, trivial⟩) ?_
  refine SOps.q rfl (.plain rfl) rfl (q_makeFunc (cs := [.eptr 1 ((cInt .i64) a0_purpose) 0, .eptr 1 ((cInt .i64) a2f0) 0, .eptr 1 ((cInt .i64) a3f0) 0]) rfl rfl rfl) ?_
  refine SOps.q rfl (.plain rfl) rfl (q_call (compose_leading_f1_31_ok F a1f0 a0_purpose a2f0 a3f0 c_1 g2) [] rfl fn30 ⟨⟨_, rfl, .inl ⟨rfl, rfl⟩⟩, ⟨_, rfl, .inl ⟨rfl, rfl⟩⟩, trivial⟩ (.inl rfl)) ?_
  refine SOps.q rfl (.plain rfl) rfl (q_extract rfl rfl rfl) ?_
  refine SOps.q rfl (.plain rfl) rfl (q_extract rfl rfl rfl) ?_
  refine SOps.e rfl (.plain rfl) (e_store_box rfl rfl rfl rfl rfl ty56 rfl rfl rfl rfl) ?_
  refine SOps.q rfl (.plain rfl) rfl (q_assign rfl rfl) ?_
  refine SOps.sub (st' := ⟨[(5, .c (.ptr 0 0)), (6, .c (.bool c_1.2))], [.box [.int .i64 c_1.1.id, .int .i64 c_1.1.level, .int .i64 c_1.1.limit]]⟩) (sub_gen [0] rfl rfl ⟨zc rfl rfl, zc rfl rfl, trivial⟩ ⟨⟨_, rfl, ⟨ii rfl rfl, ii rfl rfl, ii rfl rfl, trivial⟩⟩, trivial⟩) ?_
  refine SOps.nil ?_
  refine SCode.ret ?_
  obtain rfl := Option.some.inj h
  exact ⟨⟨[(5, .c (.ptr 0 0)), (6, .c (.bool c_1.2))], [.box [.int .i64 c_1.1.id, .int .i64 c_1.1.level, .int .i64 c_1.1.limit]]⟩, _, sub_gen [0] rfl rfl ⟨zc rfl rfl, zc rfl rfl, trivial⟩ ⟨⟨_, rfl, ⟨ii rfl rfl, ii rfl rfl, ii rfl rfl, trivial⟩⟩, trivial⟩, resA2 (v1 := .a [.int .i64 c_1.1.id, .int .i64 c_1.1.level, .int .i64 c_1.1.limit]) (v2 := .c (.bool c_1.2)) rfl ⟨_, rfl, rfl, ty56⟩ rfl, rfl⟩
end Go.Proofs.Ytfbkimhoncfnmaa.W
