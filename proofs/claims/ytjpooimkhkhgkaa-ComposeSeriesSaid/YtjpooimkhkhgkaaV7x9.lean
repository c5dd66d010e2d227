/- Written by a program of ours (wip/eng/gen.py): the functions compute their models. -/
import Derived.Test.YtjpooimkhkhgkaaFacts
import Derived.Test.YtjpooimkhkhgkaaV7x8
namespace Go.Proofs.Ytjpooimkhkhgkaa.W
open Go Go.Proofs Go.Proofs.Ytjpooimkhkhgkaa.E Go.Proofs.Ytjpooimkhkhgkaa.M
set_option linter.unusedVariables false
set_option maxRecDepth 100000 in
set_option maxHeartbeats 8000000 in
theorem chargenetref15_Limit_ok (F : Nat) (a0_p : SProfile) (a1_start : Int) (a2_t : Int) (r : Int × Bool) (h : chargenetref15_Limit F a0_p a1_start a2_t = some r) :
    SFun Try.prog 10 [] [.a [.int .i64 a0_p.ID, .int .i64 a0_p.Level, .int .i64 a0_p.Purpose, .int .i64 a0_p.Kind, .int .i64 a0_p.Conn, .str a0_p.Txn, .int .i64 a0_p.Span_From, .int .i64 a0_p.Span_To, .int .i64 a0_p.Start, .int .i64 a0_p.Duration, .vec a0_p.Periods.length 2 (gL cSPeriod dSPeriod a0_p.Periods)], .c (.int .i64 a1_start), .c (.int .i64 a2_t)] (fun x _ => x = .t [.c (.int .i64 r.1), .c (.bool r.2)]) := by
  refine SFun.of (n := 82) Try.func10 rfl rfl rfl ?_
  unfold chargenetref15_Limit at h
  show SCode _ _ _ ⟨[(0, .a [.int .i64 a0_p.ID, .int .i64 a0_p.Level, .int .i64 a0_p.Purpose, .int .i64 a0_p.Kind, .int .i64 a0_p.Conn, .str a0_p.Txn, .int .i64 a0_p.Span_From, .int .i64 a0_p.Span_To, .int .i64 a0_p.Start, .int .i64 a0_p.Duration, .vec a0_p.Periods.length 2 (gL cSPeriod dSPeriod a0_p.Periods)]), (1, .c (.int .i64 a1_start)), (2, .c (.int .i64 a2_t))], []⟩ _
  refine SCode.seq ?_
  refine SCode.region (show SOps _ _ _ [0, 1, 2] _ _ from ?_)
  refine SOps.e rfl (.plain rfl) (e_box rfl rfl rfl rfl rfl rfl) ?_
  refine SOps.q rfl (.plain rfl) rfl (q_assign rfl rfl) ?_
  refine SOps.q rfl (.plain rfl) rfl (q_assign rfl rfl) ?_
  refine SOps.sub (st' := ⟨[(1, .c (.int .i64 a1_start)), (2, .c (.int .i64 a2_t)), (3, .c (.ptr 0 0))], [.box [.int .i64 a0_p.ID, .int .i64 a0_p.Level, .int .i64 a0_p.Purpose, .int .i64 a0_p.Kind, .int .i64 a0_p.Conn, .str a0_p.Txn, .int .i64 a0_p.Span_From, .int .i64 a0_p.Span_To, .int .i64 a0_p.Start, .int .i64 a0_p.Duration, .vec a0_p.Periods.length 2 (gL cSPeriod dSPeriod a0_p.Periods)]]⟩) (sub_gen [0] rfl rfl ⟨zc rfl rfl, zc rfl rfl, zc rfl rfl, trivial⟩ ⟨⟨_, rfl, ⟨ii rfl rfl, ii rfl rfl, ii rfl rfl, ii rfl rfl, ii rfl rfl, ii rfl rfl, ii rfl rfl, ii rfl rfl, ii rfl rfl, ii rfl rfl, ii rfl rfl, trivial⟩⟩, trivial⟩) ?_
  refine SOps.nil ?_
  refine SCode.join (σ := Unit) (S := fun s => ⟨[(1, .c (.int .i64 a1_start)), (2, .c (.int .i64 a2_t)), (3, .c (.ptr 0 0))], [.box [.int .i64 a0_p.ID, .int .i64 a0_p.Level, .int .i64 a0_p.Purpose, .int .i64 a0_p.Kind, .int .i64 a0_p.Conn, .str a0_p.Txn, .int .i64 a0_p.Span_From, .int .i64 a0_p.Span_To, .int .i64 a0_p.Start, .int .i64 a0_p.Duration, .vec a0_p.Periods.length 2 (gL cSPeriod dSPeriod a0_p.Periods)]]⟩) (g := fun s => chargenetref15_Limit_p30 F a0_p a1_start a2_t = some r) ?_ ?_
  rotate_left
  · refine SCode.seq ?_
    rcases cond_out h with ⟨g31, h⟩ | ⟨g31, h⟩
    · refine SCode.region (show SOps _ _ _ [0, 1, 2, 3, 4, 5, 6, 7, 8, 9, 10, 11, 12, 13, 14, 15, 16, 17] _ _ from ?_)
      refine SOps.q rfl (.plain rfl) rfl (q_move rfl rfl) ?_
      refine SOps.q rfl (.plain rfl) rfl (q_field_ptr rfl rfl fd31_6) ?_
      refine SOps.q rfl (.plain rfl) rfl (q_field_ptr rfl rfl fd28_0) ?_
      refine SOps.q rfl (.plain rfl) rfl (q_load_ptr rfl rfl rfl rfl ty3) ?_
      refine SOps.q rfl (.plain rfl) rfl (q_lss rfl rfl rfl) ?_
      refine SOps.q rfl (.plain rfl) rfl (q_move rfl rfl) ?_
      refine SOps.skip rfl 5 17 false rfl rfl (.inl (gT g31)) rfl ?_
      refine SOps.skip rfl 5 17 false rfl rfl (.inl (gT g31)) rfl ?_
      refine SOps.skip rfl 5 17 false rfl rfl (.inl (gT g31)) rfl ?_
      refine SOps.skip rfl 5 17 false rfl rfl (.inl (gT g31)) rfl ?_
      refine SOps.skip rfl 5 17 false rfl rfl (.inl (gT g31)) rfl ?_
      refine SOps.skip rfl 10 22 true rfl rfl (.inr rfl) rfl ?_
      refine SOps.skip rfl 10 22 true rfl rfl (.inr rfl) rfl ?_
      refine SOps.skip rfl 10 22 true rfl rfl (.inr rfl) rfl ?_
      refine SOps.skip rfl 10 22 true rfl rfl (.inr rfl) rfl ?_
      refine SOps.skip rfl 10 22 true rfl rfl (.inr rfl) rfl ?_
      refine SOps.skip rfl 5 17 false rfl rfl (.inl (gT g31)) rfl ?_
      refine SOps.q rfl (.plain rfl) rfl (q_pick_t rfl rfl g31 rfl) ?_
      refine SOps.sub (st' := ⟨[(1, .c (.int .i64 a1_start)), (2, .c (.int .i64 a2_t)), (3, .c (.ptr 0 0)), (29, .c (.bool true))], [.box [.int .i64 a0_p.ID, .int .i64 a0_p.Level, .int .i64 a0_p.Purpose, .int .i64 a0_p.Kind, .int .i64 a0_p.Conn, .str a0_p.Txn, .int .i64 a0_p.Span_From, .int .i64 a0_p.Span_To, .int .i64 a0_p.Start, .int .i64 a0_p.Duration, .vec a0_p.Periods.length 2 (gL cSPeriod dSPeriod a0_p.Periods)]]⟩) (sub_gen [0] rfl rfl ⟨zc rfl rfl, zc rfl rfl, zc rfl rfl, zc rfl rfl, trivial⟩ ⟨⟨_, rfl, ⟨ii rfl rfl, ii rfl rfl, ii rfl rfl, ii rfl rfl, ii rfl rfl, ii rfl rfl, ii rfl rfl, ii rfl rfl, ii rfl rfl, ii rfl rfl, ii rfl rfl, trivial⟩⟩, trivial⟩) ?_
      refine SOps.nil ?_
      refine SCode.cond_t rfl rfl ?_
      refine SCode.seq ?_
      refine SCode.region (show SOps _ _ _ [0, 1] _ _ from ?_)
      refine SOps.q rfl (.plain rfl) rfl (q_assign rfl rfl) ?_
      refine SOps.q rfl (.plain rfl) rfl (q_assign rfl rfl) ?_
      refine SOps.sub (st' := ⟨[(6, .c (.int .i64 0)), (7, .c (.bool false))], []⟩) (sub_gen [] rfl rfl ⟨zc rfl rfl, zc rfl rfl, trivial⟩ trivial) ?_
      refine SOps.nil ?_
      refine SCode.ret ?_
      obtain rfl := Option.some.inj h
      exact ⟨⟨[(6, .c (.int .i64 0)), (7, .c (.bool false))], []⟩, _, sub_gen [] rfl rfl ⟨zc rfl rfl, zc rfl rfl, trivial⟩ trivial, resA2 (v1 := .c (.int .i64 0)) (v2 := .c (.bool false)) rfl rfl rfl, rfl⟩
    rcases cond_out h with ⟨g32, h⟩ | ⟨g32, h⟩
    · refine SCode.region (show SOps _ _ _ [0, 1, 2, 3, 4, 5, 6, 7, 8, 9, 10, 11, 12, 13, 14, 15, 16, 17] _ _ from ?_)
      refine SOps.q rfl (.plain rfl) rfl (q_move rfl rfl) ?_
      refine SOps.q rfl (.plain rfl) rfl (q_field_ptr rfl rfl fd31_6) ?_
      refine SOps.q rfl (.plain rfl) rfl (q_field_ptr rfl rfl fd28_0) ?_
      refine SOps.q rfl (.plain rfl) rfl (q_load_ptr rfl rfl rfl rfl ty3) ?_
      refine SOps.q rfl (.plain rfl) rfl (q_lss rfl rfl rfl) ?_
      refine SOps.q rfl (.plain rfl) rfl (q_move rfl rfl) ?_
      refine SOps.q rfl (.guard 5 17 false rfl rfl (gF g31)) rfl (q_field_ptr rfl rfl fd31_6) ?_
      refine SOps.q rfl (.guard 5 17 false rfl rfl (gF g31)) rfl (q_field_ptr rfl rfl fd28_1) ?_
      refine SOps.q rfl (.guard 5 17 false rfl rfl (gF g31)) rfl (q_load_ptr rfl rfl rfl rfl ty3) ?_
      refine SOps.q rfl (.guard 5 17 false rfl rfl (gF g31)) rfl (q_neq rfl rfl rfl) ?_
      refine SOps.q rfl (.guard 5 17 false rfl rfl (gF g31)) rfl (q_move rfl rfl) ?_
      refine SOps.q rfl (.guard 10 22 true rfl rfl (gT g32)) rfl (q_move rfl rfl) ?_
      refine SOps.q rfl (.guard 10 22 true rfl rfl (gT g32)) rfl (q_field_ptr rfl rfl fd31_6) ?_
      refine SOps.q rfl (.guard 10 22 true rfl rfl (gT g32)) rfl (q_field_ptr rfl rfl fd28_1) ?_
      refine SOps.q rfl (.guard 10 22 true rfl rfl (gT g32)) rfl (q_load_ptr rfl rfl rfl rfl ty3) ?_
      refine SOps.q rfl (.guard 10 22 true rfl rfl (gT g32)) rfl (q_geq rfl rfl rfl) ?_
      refine SOps.q rfl (.guard 5 17 false rfl rfl (gF g31)) rfl (q_pick_t rfl rfl g32 rfl) ?_
      refine SOps.q rfl (.plain rfl) rfl (q_pick_f rfl rfl g31 rfl) ?_
      refine SOps.sub (st' := ⟨[(1, .c (.int .i64 a1_start)), (2, .c (.int .i64 a2_t)), (3, .c (.ptr 0 0)), (29, .c (.bool (decide (a0_p.Span_To ≤ a2_t))))], [.box [.int .i64 a0_p.ID, .int .i64 a0_p.Level, .int .i64 a0_p.Purpose, .int .i64 a0_p.Kind, .int .i64 a0_p.Conn, .str a0_p.Txn, .int .i64 a0_p.Span_From, .int .i64 a0_p.Span_To, .int .i64 a0_p.Start, .int .i64 a0_p.Duration, .vec a0_p.Periods.length 2 (gL cSPeriod dSPeriod a0_p.Periods)]]⟩) (sub_gen [0] rfl rfl ⟨zc rfl rfl, zc rfl rfl, zc rfl rfl, zc rfl rfl, trivial⟩ ⟨⟨_, rfl, ⟨ii rfl rfl, ii rfl rfl, ii rfl rfl, ii rfl rfl, ii rfl rfl, ii rfl rfl, ii rfl rfl, ii rfl rfl, ii rfl rfl, ii rfl rfl, ii rfl rfl, trivial⟩⟩, trivial⟩) ?_
      refine SOps.nil ?_
      rcases cond_out h with ⟨g33, h⟩ | ⟨g33, h⟩
      · refine SCode.cond_t rfl g33 ?_
        refine SCode.seq ?_
        refine SCode.region (show SOps _ _ _ [0, 1] _ _ from ?_)
        refine SOps.q rfl (.plain rfl) rfl (q_assign rfl rfl) ?_
        refine SOps.q rfl (.plain rfl) rfl (q_assign rfl rfl) ?_
        refine SOps.sub (st' := ⟨[(6, .c (.int .i64 0)), (7, .c (.bool false))], []⟩) (sub_gen [] rfl rfl ⟨zc rfl rfl, zc rfl rfl, trivial⟩ trivial) ?_
        refine SOps.nil ?_
        refine SCode.ret ?_
        obtain rfl := Option.some.inj h
        exact ⟨⟨[(6, .c (.int .i64 0)), (7, .c (.bool false))], []⟩, _, sub_gen [] rfl rfl ⟨zc rfl rfl, zc rfl rfl, trivial⟩ trivial, resA2 (v1 := .c (.int .i64 0)) (v2 := .c (.bool false)) rfl rfl rfl, rfl⟩
      refine SCode.cond_f rfl g33 ?_
      refine SCode.skip ?_
      exact ⟨(), h, sub_gen [0] rfl rfl ⟨zc rfl rfl, zc rfl rfl, zc rfl rfl, trivial⟩ ⟨⟨_, rfl, ⟨ii rfl rfl, ii rfl rfl, ii rfl rfl, ii rfl rfl, ii rfl rfl, ii rfl rfl, ii rfl rfl, ii rfl rfl, ii rfl rfl, ii rfl rfl, ii rfl rfl, trivial⟩⟩, trivial⟩⟩
    refine SCode.region (show SOps _ _ _ [0, 1, 2, 3, 4, 5, 6, 7, 8, 9, 10, 11, 12, 13, 14, 15, 16, 17] _ _ from ?_)
    refine SOps.q rfl (.plain rfl) rfl (q_move rfl rfl) ?_
    refine SOps.q rfl (.plain rfl) rfl (q_field_ptr rfl rfl fd31_6) ?_
    refine SOps.q rfl (.plain rfl) rfl (q_field_ptr rfl rfl fd28_0) ?_
    refine SOps.q rfl (.plain rfl) rfl (q_load_ptr rfl rfl rfl rfl ty3) ?_
    refine SOps.q rfl (.plain rfl) rfl (q_lss rfl rfl rfl) ?_
    refine SOps.q rfl (.plain rfl) rfl (q_move rfl rfl) ?_
    refine SOps.q rfl (.guard 5 17 false rfl rfl (gF g31)) rfl (q_field_ptr rfl rfl fd31_6) ?_
    refine SOps.q rfl (.guard 5 17 false rfl rfl (gF g31)) rfl (q_field_ptr rfl rfl fd28_1) ?_
    refine SOps.q rfl (.guard 5 17 false rfl rfl (gF g31)) rfl (q_load_ptr rfl rfl rfl rfl ty3) ?_
    refine SOps.q rfl (.guard 5 17 false rfl rfl (gF g31)) rfl (q_neq rfl rfl rfl) ?_
    refine SOps.q rfl (.guard 5 17 false rfl rfl (gF g31)) rfl (q_move rfl rfl) ?_
    refine SOps.skip rfl 10 22 true rfl rfl (.inl (gF g32)) rfl ?_
    refine SOps.skip rfl 10 22 true rfl rfl (.inl (gF g32)) rfl ?_
    refine SOps.skip rfl 10 22 true rfl rfl (.inl (gF g32)) rfl ?_
    refine SOps.skip rfl 10 22 true rfl rfl (.inl (gF g32)) rfl ?_
    refine SOps.skip rfl 10 22 true rfl rfl (.inl (gF g32)) rfl ?_
    refine SOps.q rfl (.guard 5 17 false rfl rfl (gF g31)) rfl (q_pick_f rfl rfl g32 rfl) ?_
    refine SOps.q rfl (.plain rfl) rfl (q_pick_f rfl rfl g31 rfl) ?_
    refine SOps.sub (st' := ⟨[(1, .c (.int .i64 a1_start)), (2, .c (.int .i64 a2_t)), (3, .c (.ptr 0 0)), (29, .c (.bool false))], [.box [.int .i64 a0_p.ID, .int .i64 a0_p.Level, .int .i64 a0_p.Purpose, .int .i64 a0_p.Kind, .int .i64 a0_p.Conn, .str a0_p.Txn, .int .i64 a0_p.Span_From, .int .i64 a0_p.Span_To, .int .i64 a0_p.Start, .int .i64 a0_p.Duration, .vec a0_p.Periods.length 2 (gL cSPeriod dSPeriod a0_p.Periods)]]⟩) (sub_gen [0] rfl rfl ⟨zc rfl rfl, zc rfl rfl, zc rfl rfl, zc rfl rfl, trivial⟩ ⟨⟨_, rfl, ⟨ii rfl rfl, ii rfl rfl, ii rfl rfl, ii rfl rfl, ii rfl rfl, ii rfl rfl, ii rfl rfl, ii rfl rfl, ii rfl rfl, ii rfl rfl, ii rfl rfl, trivial⟩⟩, trivial⟩) ?_
    refine SOps.nil ?_
    refine SCode.cond_f rfl rfl ?_
    refine SCode.skip ?_
    exact ⟨(), h, sub_gen [0] rfl rfl ⟨zc rfl rfl, zc rfl rfl, zc rfl rfl, trivial⟩ ⟨⟨_, rfl, ⟨ii rfl rfl, ii rfl rfl, ii rfl rfl, ii rfl rfl, ii rfl rfl, ii rfl rfl, ii rfl rfl, ii rfl rfl, ii rfl rfl, ii rfl rfl, ii rfl rfl, trivial⟩⟩, trivial⟩⟩
  rintro ⟨⟩ h
  show SCode _ _ _ ⟨[(1, .c (.int .i64 a1_start)), (2, .c (.int .i64 a2_t)), (3, .c (.ptr 0 0))], [.box [.int .i64 a0_p.ID, .int .i64 a0_p.Level, .int .i64 a0_p.Purpose, .int .i64 a0_p.Kind, .int .i64 a0_p.Conn, .str a0_p.Txn, .int .i64 a0_p.Span_From, .int .i64 a0_p.Span_To, .int .i64 a0_p.Start, .int .i64 a0_p.Duration, .vec a0_p.Periods.length 2 (gL cSPeriod dSPeriod a0_p.Periods)]]⟩ _
  replace h : chargenetref15_Limit_p30 F a0_p a1_start a2_t = some r := h
  unfold chargenetref15_Limit_p30 at h
  refine SCode.seq ?_
  obtain ⟨c_1, g2, h⟩ := bind_out h
  try dsimp only at h
  refine SCode.region (show SOps _ _ _ [0, 1, 2, 3, 4, 5, 6, 7, 8] _ _ from ?_)
  refine SOps.q rfl (.plain rfl) rfl (q_load_ptr_all rfl rfl rfl rfl rfl ty31) ?_
  refine SOps.q rfl (.plain rfl) rfl (q_move rfl rfl) ?_
  refine SOps.q rfl (.plain rfl) rfl (q_move rfl rfl) ?_
  refine SOps.q rfl (.plain rfl) rfl (q_call (chargenetref15_origin_ok F a0_p a1_start a2_t c_1 g2) [] rfl fn21 ⟨⟨rfl, rfl⟩, ⟨_, rfl, .inl ⟨rfl, rfl⟩⟩, ⟨_, rfl, .inl ⟨rfl, rfl⟩⟩, trivial⟩ (.inl rfl)) ?_
  refine SOps.q rfl (.plain rfl) rfl (q_move rfl rfl) ?_
  refine SOps.q rfl (.plain rfl) rfl (q_extract rfl rfl rfl) ?_
  refine SOps.q rfl (.plain rfl) rfl (q_extract rfl rfl rfl) ?_
  refine SOps.q rfl (.plain rfl) rfl (q_assign rfl rfl) ?_
  refine SOps.q rfl (.plain rfl) rfl (q_assign rfl rfl) ?_
  refine SOps.sub (st' := ⟨[(2, .c (.int .i64 a2_t)), (3, .c (.ptr 0 0)), (8, .c (.int .i64 c_1.1)), (9, .c (.bool c_1.2))], [.box [.int .i64 a0_p.ID, .int .i64 a0_p.Level, .int .i64 a0_p.Purpose, .int .i64 a0_p.Kind, .int .i64 a0_p.Conn, .str a0_p.Txn, .int .i64 a0_p.Span_From, .int .i64 a0_p.Span_To, .int .i64 a0_p.Start, .int .i64 a0_p.Duration, .vec a0_p.Periods.length 2 (gL cSPeriod dSPeriod a0_p.Periods)]]⟩) (sub_gen [0] rfl rfl ⟨zc rfl rfl, zc rfl rfl, zc rfl rfl, zc rfl rfl, trivial⟩ ⟨⟨_, rfl, ⟨ii rfl rfl, ii rfl rfl, ii rfl rfl, ii rfl rfl, ii rfl rfl, ii rfl rfl, ii rfl rfl, ii rfl rfl, ii rfl rfl, ii rfl rfl, ii rfl rfl, trivial⟩⟩, trivial⟩) ?_
  refine SOps.nil ?_
  refine SCode.join (σ := Unit) (S := fun s => ⟨[(2, .c (.int .i64 a2_t)), (3, .c (.ptr 0 0)), (8, .c (.int .i64 c_1.1))], [.box [.int .i64 a0_p.ID, .int .i64 a0_p.Level, .int .i64 a0_p.Purpose, .int .i64 a0_p.Kind, .int .i64 a0_p.Conn, .str a0_p.Txn, .int .i64 a0_p.Span_From, .int .i64 a0_p.Span_To, .int .i64 a0_p.Start, .int .i64 a0_p.Duration, .vec a0_p.Periods.length 2 (gL cSPeriod dSPeriod a0_p.Periods)]]⟩) (g := fun s => chargenetref15_Limit_p26 F a0_p a2_t c_1 = some r) ?_ ?_
  rotate_left
  · refine SCode.seq ?_
    rcases cond_out h with ⟨g27, h⟩ | ⟨g27, h⟩
    · refine SCode.region (show SOps _ _ _ [0, 1, 2, 3, 4, 5, 6, 7, 8, 9, 10, 11, 12, 13, 14, 15, 16, 17] _ _ from ?_)
      refine SOps.q rfl (.plain rfl) rfl (q_move rfl rfl) ?_
      refine SOps.q rfl (.plain rfl) rfl (q_not rfl rfl) ?_
      refine SOps.q rfl (.plain rfl) rfl (q_move rfl rfl) ?_
      refine SOps.skip rfl 2 39 false rfl rfl (.inl (gT g27)) rfl ?_
      refine SOps.skip rfl 2 39 false rfl rfl (.inl (gT g27)) rfl ?_
      refine SOps.skip rfl 2 39 false rfl rfl (.inl (gT g27)) rfl ?_
      refine SOps.skip rfl 2 39 false rfl rfl (.inl (gT g27)) rfl ?_
      refine SOps.skip rfl 6 43 true rfl rfl (.inr rfl) rfl ?_
      refine SOps.skip rfl 6 43 true rfl rfl (.inr rfl) rfl ?_
      refine SOps.skip rfl 6 43 true rfl rfl (.inr rfl) rfl ?_
      refine SOps.skip rfl 6 43 true rfl rfl (.inr rfl) rfl ?_
      refine SOps.skip rfl 6 43 true rfl rfl (.inr rfl) rfl ?_
      refine SOps.skip rfl 6 43 true rfl rfl (.inr rfl) rfl ?_
      refine SOps.skip rfl 6 43 true rfl rfl (.inr rfl) rfl ?_
      refine SOps.skip rfl 6 43 true rfl rfl (.inr rfl) rfl ?_
      refine SOps.skip rfl 6 43 true rfl rfl (.inr rfl) rfl ?_
      refine SOps.skip rfl 2 39 false rfl rfl (.inl (gT g27)) rfl ?_
      refine SOps.q rfl (.plain rfl) rfl (q_pick_t rfl rfl g27 rfl) ?_
      refine SOps.sub (st' := ⟨[(2, .c (.int .i64 a2_t)), (3, .c (.ptr 0 0)), (8, .c (.int .i64 c_1.1)), (54, .c (.bool true))], [.box [.int .i64 a0_p.ID, .int .i64 a0_p.Level, .int .i64 a0_p.Purpose, .int .i64 a0_p.Kind, .int .i64 a0_p.Conn, .str a0_p.Txn, .int .i64 a0_p.Span_From, .int .i64 a0_p.Span_To, .int .i64 a0_p.Start, .int .i64 a0_p.Duration, .vec a0_p.Periods.length 2 (gL cSPeriod dSPeriod a0_p.Periods)]]⟩) (sub_gen [0] rfl rfl ⟨zc rfl rfl, zc rfl rfl, zc rfl rfl, zc rfl rfl, trivial⟩ ⟨⟨_, rfl, ⟨ii rfl rfl, ii rfl rfl, ii rfl rfl, ii rfl rfl, ii rfl rfl, ii rfl rfl, ii rfl rfl, ii rfl rfl, ii rfl rfl, ii rfl rfl, ii rfl rfl, trivial⟩⟩, trivial⟩) ?_
      refine SOps.nil ?_
      refine SCode.cond_t rfl rfl ?_
      refine SCode.seq ?_
      refine SCode.region (show SOps _ _ _ [0, 1] _ _ from ?_)
      refine SOps.q rfl (.plain rfl) rfl (q_assign rfl rfl) ?_
      refine SOps.q rfl (.plain rfl) rfl (q_assign rfl rfl) ?_
      refine SOps.sub (st' := ⟨[(6, .c (.int .i64 0)), (7, .c (.bool false))], []⟩) (sub_gen [] rfl rfl ⟨zc rfl rfl, zc rfl rfl, trivial⟩ trivial) ?_
      refine SOps.nil ?_
      refine SCode.ret ?_
      obtain rfl := Option.some.inj h
      exact ⟨⟨[(6, .c (.int .i64 0)), (7, .c (.bool false))], []⟩, _, sub_gen [] rfl rfl ⟨zc rfl rfl, zc rfl rfl, trivial⟩ trivial, resA2 (v1 := .c (.int .i64 0)) (v2 := .c (.bool false)) rfl rfl rfl, rfl⟩
    rcases cond_out h with ⟨g28, h⟩ | ⟨g28, h⟩
    · refine SCode.region (show SOps _ _ _ [0, 1, 2, 3, 4, 5, 6, 7, 8, 9, 10, 11, 12, 13, 14, 15, 16, 17] _ _ from ?_)
      refine SOps.q rfl (.plain rfl) rfl (q_move rfl rfl) ?_
      refine SOps.q rfl (.plain rfl) rfl (q_not rfl rfl) ?_
      refine SOps.q rfl (.plain rfl) rfl (q_move rfl rfl) ?_
      refine SOps.q rfl (.guard 2 39 false rfl rfl (gF g27)) rfl (q_field_ptr rfl rfl fd31_8) ?_
      refine SOps.q rfl (.guard 2 39 false rfl rfl (gF g27)) rfl (q_load_ptr rfl rfl rfl rfl ty3) ?_
      refine SOps.q rfl (.guard 2 39 false rfl rfl (gF g27)) rfl (q_neq rfl rfl rfl) ?_
      refine SOps.q rfl (.guard 2 39 false rfl rfl (gF g27)) rfl (q_move rfl rfl) ?_
      refine SOps.q rfl (.guard 6 43 true rfl rfl (gT g28)) rfl (q_move rfl rfl) ?_
      refine SOps.q rfl (.guard 6 43 true rfl rfl (gT g28)) rfl (q_convert rfl rfl un3 un51) ?_
      refine SOps.q rfl (.guard 6 43 true rfl rfl (gT g28)) rfl (q_move rfl rfl) ?_
      refine SOps.q rfl (.guard 6 43 true rfl rfl (gT g28)) rfl (q_convert rfl rfl un3 un51) ?_
      refine SOps.q rfl (.guard 6 43 true rfl rfl (gT g28)) rfl (q_sub rfl rfl rfl) ?_
      refine SOps.q rfl (.guard 6 43 true rfl rfl (gT g28)) rfl (q_field_ptr rfl rfl fd31_8) ?_
      refine SOps.q rfl (.guard 6 43 true rfl rfl (gT g28)) rfl (q_load_ptr rfl rfl rfl rfl ty3) ?_
      refine SOps.q rfl (.guard 6 43 true rfl rfl (gT g28)) rfl (q_convert rfl rfl un3 un51) ?_
      refine SOps.q rfl (.guard 6 43 true rfl rfl (gT g28)) rfl (q_geq rfl rfl rfl) ?_
      refine SOps.q rfl (.guard 2 39 false rfl rfl (gF g27)) rfl (q_pick_t rfl rfl g28 rfl) ?_
      refine SOps.q rfl (.plain rfl) rfl (q_pick_f rfl rfl g27 rfl) ?_
      refine SOps.sub (st' := ⟨[(2, .c (.int .i64 a2_t)), (3, .c (.ptr 0 0)), (8, .c (.int .i64 c_1.1)), (54, .c (.bool (decide (IntKind.wrap .u64 a0_p.Duration ≤ IntKind.wrap .u64 (IntKind.wrap .u64 a2_t - IntKind.wrap .u64 c_1.1)))))], [.box [.int .i64 a0_p.ID, .int .i64 a0_p.Level, .int .i64 a0_p.Purpose, .int .i64 a0_p.Kind, .int .i64 a0_p.Conn, .str a0_p.Txn, .int .i64 a0_p.Span_From, .int .i64 a0_p.Span_To, .int .i64 a0_p.Start, .int .i64 a0_p.Duration, .vec a0_p.Periods.length 2 (gL cSPeriod dSPeriod a0_p.Periods)]]⟩) (sub_gen [0] rfl rfl ⟨zc rfl rfl, zc rfl rfl, zc rfl rfl, zc rfl rfl, trivial⟩ ⟨⟨_, rfl, ⟨ii rfl rfl, ii rfl rfl, ii rfl rfl, ii rfl rfl, ii rfl rfl, ii rfl rfl, ii rfl rfl, ii rfl rfl, ii rfl rfl, ii rfl rfl, ii rfl rfl, trivial⟩⟩, trivial⟩) ?_
      refine SOps.nil ?_
      rcases cond_out h with ⟨g29, h⟩ | ⟨g29, h⟩
      · refine SCode.cond_t rfl g29 ?_
        refine SCode.seq ?_
        refine SCode.region (show SOps _ _ _ [0, 1] _ _ from ?_)
        refine SOps.q rfl (.plain rfl) rfl (q_assign rfl rfl) ?_
        refine SOps.q rfl (.plain rfl) rfl (q_assign rfl rfl) ?_
        refine SOps.sub (st' := ⟨[(6, .c (.int .i64 0)), (7, .c (.bool false))], []⟩) (sub_gen [] rfl rfl ⟨zc rfl rfl, zc rfl rfl, trivial⟩ trivial) ?_
        refine SOps.nil ?_
        refine SCode.ret ?_
        obtain rfl := Option.some.inj h
        exact ⟨⟨[(6, .c (.int .i64 0)), (7, .c (.bool false))], []⟩, _, sub_gen [] rfl rfl ⟨zc rfl rfl, zc rfl rfl, trivial⟩ trivial, resA2 (v1 := .c (.int .i64 0)) (v2 := .c (.bool false)) rfl rfl rfl, rfl⟩
      refine SCode.cond_f rfl g29 ?_
      refine SCode.skip ?_
      exact ⟨(), h, sub_gen [0] rfl rfl ⟨zc rfl rfl, zc rfl rfl, zc rfl rfl, trivial⟩ ⟨⟨_, rfl, ⟨ii rfl rfl, ii rfl rfl, ii rfl rfl, ii rfl rfl, ii rfl rfl, ii rfl rfl, ii rfl rfl, ii rfl rfl, ii rfl rfl, ii rfl rfl, ii rfl rfl, trivial⟩⟩, trivial⟩⟩
    refine SCode.region (show SOps _ _ _ [0, 1, 2, 3, 4, 5, 6, 7, 8, 9, 10, 11, 12, 13, 14, 15, 16, 17] _ _ from ?_)
    refine SOps.q rfl (.plain rfl) rfl (q_move rfl rfl) ?_
    refine SOps.q rfl (.plain rfl) rfl (q_not rfl rfl) ?_
    refine SOps.q rfl (.plain rfl) rfl (q_move rfl rfl) ?_
    refine SOps.q rfl (.guard 2 39 false rfl rfl (gF g27)) rfl (q_field_ptr rfl rfl fd31_8) ?_
    refine SOps.q rfl (.guard 2 39 false rfl rfl (gF g27)) rfl (q_load_ptr rfl rfl rfl rfl ty3) ?_
    refine SOps.q rfl (.guard 2 39 false rfl rfl (gF g27)) rfl (q_neq rfl rfl rfl) ?_
    refine SOps.q rfl (.guard 2 39 false rfl rfl (gF g27)) rfl (q_move rfl rfl) ?_
    refine SOps.skip rfl 6 43 true rfl rfl (.inl (gF g28)) rfl ?_
    refine SOps.skip rfl 6 43 true rfl rfl (.inl (gF g28)) rfl ?_
    refine SOps.skip rfl 6 43 true rfl rfl (.inl (gF g28)) rfl ?_
    refine SOps.skip rfl 6 43 true rfl rfl (.inl (gF g28)) rfl ?_
    refine SOps.skip rfl 6 43 true rfl rfl (.inl (gF g28)) rfl ?_
    refine SOps.skip rfl 6 43 true rfl rfl (.inl (gF g28)) rfl ?_
    refine SOps.skip rfl 6 43 true rfl rfl (.inl (gF g28)) rfl ?_
    refine SOps.skip rfl 6 43 true rfl rfl (.inl (gF g28)) rfl ?_
    refine SOps.skip rfl 6 43 true rfl rfl (.inl (gF g28)) rfl ?_
    refine SOps.q rfl (.guard 2 39 false rfl rfl (gF g27)) rfl (q_pick_f rfl rfl g28 rfl) ?_
    refine SOps.q rfl (.plain rfl) rfl (q_pick_f rfl rfl g27 rfl) ?_
    refine SOps.sub (st' := ⟨[(2, .c (.int .i64 a2_t)), (3, .c (.ptr 0 0)), (8, .c (.int .i64 c_1.1)), (54, .c (.bool false))], [.box [.int .i64 a0_p.ID, .int .i64 a0_p.Level, .int .i64 a0_p.Purpose, .int .i64 a0_p.Kind, .int .i64 a0_p.Conn, .str a0_p.Txn, .int .i64 a0_p.Span_From, .int .i64 a0_p.Span_To, .int .i64 a0_p.Start, .int .i64 a0_p.Duration, .vec a0_p.Periods.length 2 (gL cSPeriod dSPeriod a0_p.Periods)]]⟩) (sub_gen [0] rfl rfl ⟨zc rfl rfl, zc rfl rfl, zc rfl rfl, zc rfl rfl, trivial⟩ ⟨⟨_, rfl, ⟨ii rfl rfl, ii rfl rfl, ii rfl rfl, ii rfl rfl, ii rfl rfl, ii rfl rfl, ii rfl rfl, ii rfl rfl, ii rfl rfl, ii rfl rfl, ii rfl rfl, trivial⟩⟩, trivial⟩) ?_
    refine SOps.nil ?_
    refine SCode.cond_f rfl rfl ?_
    refine SCode.skip ?_
    exact ⟨(), h, sub_gen [0] rfl rfl ⟨zc rfl rfl, zc rfl rfl, zc rfl rfl, trivial⟩ ⟨⟨_, rfl, ⟨ii rfl rfl, ii rfl rfl, ii rfl rfl, ii rfl rfl, ii rfl rfl, ii rfl rfl, ii rfl rfl, ii rfl rfl, ii rfl rfl, ii rfl rfl, ii rfl rfl, trivial⟩⟩, trivial⟩⟩
  rintro ⟨⟩ h
  show SCode _ _ _ ⟨[(2, .c (.int .i64 a2_t)), (3, .c (.ptr 0 0)), (8, .c (.int .i64 c_1.1))], [.box [.int .i64 a0_p.ID, .int .i64 a0_p.Level, .int .i64 a0_p.Purpose, .int .i64 a0_p.Kind, .int .i64 a0_p.Conn, .str a0_p.Txn, .int .i64 a0_p.Span_From, .int .i64 a0_p.Span_To, .int .i64 a0_p.Start, .int .i64 a0_p.Duration, .vec a0_p.Periods.length 2 (gL cSPeriod dSPeriod a0_p.Periods)]]⟩ _
  replace h : chargenetref15_Limit_p26 F a0_p a2_t c_1 = some r := h
  unfold chargenetref15_Limit_p26 at h
  refine SCode.seq ?_
  refine SCode.region (show SOps _ _ _ [0] _ _ from ?_)
  refine SOps.q rfl (.plain rfl) rfl (q_assign rfl rfl) ?_
  refine SOps.sub (st' := ⟨[(2, .c (.int .i64 a2_t)), (3, .c (.ptr 0 0)), (8, .c (.int .i64 c_1.1)), (10, .c (.int .i64 0))], [.box [.int .i64 a0_p.ID, .int .i64 a0_p.Level, .int .i64 a0_p.Purpose, .int .i64 a0_p.Kind, .int .i64 a0_p.Conn, .str a0_p.Txn, .int .i64 a0_p.Span_From, .int .i64 a0_p.Span_To, .int .i64 a0_p.Start, .int .i64 a0_p.Duration, .vec a0_p.Periods.length 2 (gL cSPeriod dSPeriod a0_p.Periods)]]⟩) (sub_gen [0] rfl rfl ⟨zc rfl rfl, zc rfl rfl, zc rfl rfl, zc rfl rfl, trivial⟩ ⟨⟨_, rfl, ⟨ii rfl rfl, ii rfl rfl, ii rfl rfl, ii rfl rfl, ii rfl rfl, ii rfl rfl, ii rfl rfl, ii rfl rfl, ii rfl rfl, ii rfl rfl, ii rfl rfl, trivial⟩⟩, trivial⟩) ?_
  refine SOps.nil ?_
  refine SCode.join (σ := Int) (S := fun s => ⟨[(10, .c (.int .i64 s))], []⟩) (g := fun s => chargenetref15_Limit_p4 s = some r) ?_ ?_
  rotate_left
  · refine SCode.seq ?_
    refine SCode.region (show SOps _ _ _ [0] _ _ from ?_)
    refine SOps.q rfl (.plain rfl) rfl (q_assign rfl rfl) ?_
    refine SOps.sub (st' := ⟨[(2, .c (.int .i64 a2_t)), (3, .c (.ptr 0 0)), (8, .c (.int .i64 c_1.1)), (10, .c (.int .i64 0)), (11, .c (.int .i64 0))], [.box [.int .i64 a0_p.ID, .int .i64 a0_p.Level, .int .i64 a0_p.Purpose, .int .i64 a0_p.Kind, .int .i64 a0_p.Conn, .str a0_p.Txn, .int .i64 a0_p.Span_From, .int .i64 a0_p.Span_To, .int .i64 a0_p.Start, .int .i64 a0_p.Duration, .vec a0_p.Periods.length 2 (gL cSPeriod dSPeriod a0_p.Periods)]]⟩) (sub_gen [0] rfl rfl ⟨zc rfl rfl, zc rfl rfl, zc rfl rfl, zc rfl rfl, zc rfl rfl, trivial⟩ ⟨⟨_, rfl, ⟨ii rfl rfl, ii rfl rfl, ii rfl rfl, ii rfl rfl, ii rfl rfl, ii rfl rfl, ii rfl rfl, ii rfl rfl, ii rfl rfl, ii rfl rfl, ii rfl rfl, trivial⟩⟩, trivial⟩) ?_
    refine SOps.nil ?_
    refine SCode.block ?_
    refine SCode.sub (st' := ⟨[(2, .c (.int .i64 a2_t)), (3, .c (.ptr 0 0)), (8, .c (.int .i64 c_1.1)), (10, .c (.int .i64 0)), (11, .c (.int .i64 0))], [.box [.int .i64 a0_p.ID, .int .i64 a0_p.Level, .int .i64 a0_p.Purpose, .int .i64 a0_p.Kind, .int .i64 a0_p.Conn, .str a0_p.Txn, .int .i64 a0_p.Span_From, .int .i64 a0_p.Span_To, .int .i64 a0_p.Start, .int .i64 a0_p.Duration, .vec a0_p.Periods.length 2 (gL cSPeriod dSPeriod a0_p.Periods)]]⟩) (sub_gen [0] rfl rfl ⟨zc rfl rfl, zc rfl rfl, zc rfl rfl, zc rfl rfl, zc rfl rfl, trivial⟩ ⟨⟨_, rfl, ⟨ii rfl rfl, ii rfl rfl, ii rfl rfl, ii rfl rfl, ii rfl rfl, ii rfl rfl, ii rfl rfl, ii rfl rfl, ii rfl rfl, ii rfl rfl, ii rfl rfl, trivial⟩⟩, trivial⟩) ?_
    refine (SCode.loop (σ := Nat × (Int × Int)) (S := fun s => ⟨[(2, .c (.int .i64 a2_t)), (3, .c (.ptr 0 0)), (8, .c (.int .i64 c_1.1)), (10, .c (.int .i64 s.2.1)), (11, .c (.int .i64 s.2.2))], [.box [.int .i64 a0_p.ID, .int .i64 a0_p.Level, .int .i64 a0_p.Purpose, .int .i64 a0_p.Kind, .int .i64 a0_p.Conn, .str a0_p.Txn, .int .i64 a0_p.Span_From, .int .i64 a0_p.Span_To, .int .i64 a0_p.Start, .int .i64 a0_p.Duration, .vec a0_p.Periods.length 2 (gL cSPeriod dSPeriod a0_p.Periods)]]⟩) (g := fun s => chargenetref15_Limit_l19 a0_p a2_t c_1 s.1 s.2.1 s.2.2 = some r) (μ := fun s => s.1) (F, (0, 0)) h ?_)
    rintro ⟨n_19, ⟨n_11, i_12⟩⟩ h
    replace h : chargenetref15_Limit_l19 a0_p a2_t c_1 n_19 n_11 i_12 = some r := h
    show SCode _ _ _ ⟨[(2, .c (.int .i64 a2_t)), (3, .c (.ptr 0 0)), (8, .c (.int .i64 c_1.1)), (10, .c (.int .i64 n_11)), (11, .c (.int .i64 i_12))], [.box [.int .i64 a0_p.ID, .int .i64 a0_p.Level, .int .i64 a0_p.Purpose, .int .i64 a0_p.Kind, .int .i64 a0_p.Conn, .str a0_p.Txn, .int .i64 a0_p.Span_From, .int .i64 a0_p.Span_To, .int .i64 a0_p.Start, .int .i64 a0_p.Duration, .vec a0_p.Periods.length 2 (gL cSPeriod dSPeriod a0_p.Periods)]]⟩ _
    cases n_19 with
    | zero => cases h
    | succ n_19 =>
      replace h : chargenetref15_Limit_b19 a0_p a2_t c_1 (fun n_11 i_12 => chargenetref15_Limit_l19 a0_p a2_t c_1 n_19 n_11 i_12) n_11 i_12 = some r := h
      unfold chargenetref15_Limit_b19 at h
      refine SCode.seq ?_
      refine SCode.seq ?_
      refine SCode.region (show SOps _ _ _ [0, 1, 2, 3, 4] _ _ from ?_)
      refine SOps.q rfl (.plain rfl) rfl (q_move rfl rfl) ?_
      refine SOps.q rfl (.plain rfl) rfl (q_field_ptr rfl rfl fd31_9) ?_
      refine SOps.q rfl (.plain rfl) rfl (q_load_ptr rfl rfl rfl rfl ty29) ?_
      refine SOps.q rfl (.plain rfl) rfl (q_len_vec rfl rfl sl29) ?_
      refine SOps.q rfl (.plain rfl) rfl (q_lss rfl rfl rfl) ?_
      refine SOps.sub (st' := ⟨[(2, .c (.int .i64 a2_t)), (3, .c (.ptr 0 0)), (8, .c (.int .i64 c_1.1)), (10, .c (.int .i64 n_11)), (11, .c (.int .i64 i_12)), (59, .c (.bool (decide (i_12 < ((a0_p.Periods).length : Int)))))], [.box [.int .i64 a0_p.ID, .int .i64 a0_p.Level, .int .i64 a0_p.Purpose, .int .i64 a0_p.Kind, .int .i64 a0_p.Conn, .str a0_p.Txn, .int .i64 a0_p.Span_From, .int .i64 a0_p.Span_To, .int .i64 a0_p.Start, .int .i64 a0_p.Duration, .vec a0_p.Periods.length 2 (gL cSPeriod dSPeriod a0_p.Periods)]]⟩) (sub_gen [0] rfl rfl ⟨zc rfl rfl, zc rfl rfl, zc rfl rfl, zc rfl rfl, zc rfl rfl, zc rfl rfl, trivial⟩ ⟨⟨_, rfl, ⟨ii rfl rfl, ii rfl rfl, ii rfl rfl, ii rfl rfl, ii rfl rfl, ii rfl rfl, ii rfl rfl, ii rfl rfl, ii rfl rfl, ii rfl rfl, ii rfl rfl, trivial⟩⟩, trivial⟩) ?_
      refine SOps.nil ?_
      rcases cond_out h with ⟨g20, h⟩ | ⟨g20, h⟩
      · refine SCode.cond_t rfl g20 ?_
        refine SCode.skip ?_
        refine SCode.join (σ := Int) (S := fun s => ⟨[(2, .c (.int .i64 a2_t)), (3, .c (.ptr 0 0)), (8, .c (.int .i64 c_1.1)), (10, .c (.int .i64 s)), (11, .c (.int .i64 i_12))], [.box [.int .i64 a0_p.ID, .int .i64 a0_p.Level, .int .i64 a0_p.Purpose, .int .i64 a0_p.Kind, .int .i64 a0_p.Conn, .str a0_p.Txn, .int .i64 a0_p.Span_From, .int .i64 a0_p.Span_To, .int .i64 a0_p.Start, .int .i64 a0_p.Duration, .vec a0_p.Periods.length 2 (gL cSPeriod dSPeriod a0_p.Periods)]]⟩) (g := fun s => chargenetref15_Limit_p22 i_12 (fun n_11 i_12 => chargenetref15_Limit_l19 a0_p a2_t c_1 n_19 n_11 i_12) s = some r) ?_ ?_
        rotate_left
        · refine SCode.block ?_
          refine SCode.seq ?_
          obtain ⟨g23, h⟩ := guard_out h
          refine SCode.region (show SOps _ _ _ [0, 1, 2, 3, 4, 5, 6, 7, 8, 9, 10, 11, 12] _ _ from ?_)
          refine SOps.q rfl (.plain rfl) rfl (q_field_ptr rfl rfl fd31_9) ?_
          refine SOps.q rfl (.plain rfl) rfl (q_load_ptr rfl rfl rfl rfl ty29) ?_
          refine SOps.q rfl (.plain rfl) rfl (q_move rfl rfl) ?_
          refine SOps.q rfl (.plain rfl) rfl (q_index_vec rfl rfl rfl sl29 rfl g23.1 g23.2) ?_
          refine SOps.q rfl (.plain rfl) rfl (q_field_eptr rfl rfl fd38_0 rfl) ?_
          refine SOps.q rfl (.plain rfl) rfl (q_load_eptr rfl rfl ty3) ?_
          refine SOps.q rfl (.plain rfl) rfl (q_convert rfl rfl un3 un51) ?_
          refine SOps.q rfl (.plain rfl) rfl (q_move rfl rfl) ?_
          refine SOps.q rfl (.plain rfl) rfl (q_convert rfl rfl un3 un51) ?_
          refine SOps.q rfl (.plain rfl) rfl (q_move rfl rfl) ?_
          refine SOps.q rfl (.plain rfl) rfl (q_convert rfl rfl un3 un51) ?_
          refine SOps.q rfl (.plain rfl) rfl (q_sub rfl rfl rfl) ?_
          refine SOps.q rfl (.plain rfl) rfl (q_leq rfl rfl rfl) ?_
          refine SOps.sub (st' := ⟨[(2, .c (.int .i64 a2_t)), (3, .c (.ptr 0 0)), (8, .c (.int .i64 c_1.1)), (10, .c (.int .i64 n_11)), (11, .c (.int .i64 i_12)), (74, .c (.bool (decide (IntKind.wrap .u64 ((a0_p.Periods.getD i_12.toNat dSPeriod).At) ≤ IntKind.wrap .u64 (IntKind.wrap .u64 a2_t - IntKind.wrap .u64 c_1.1)))))], [.box [.int .i64 a0_p.ID, .int .i64 a0_p.Level, .int .i64 a0_p.Purpose, .int .i64 a0_p.Kind, .int .i64 a0_p.Conn, .str a0_p.Txn, .int .i64 a0_p.Span_From, .int .i64 a0_p.Span_To, .int .i64 a0_p.Start, .int .i64 a0_p.Duration, .vec a0_p.Periods.length 2 (gL cSPeriod dSPeriod a0_p.Periods)]]⟩) (sub_gen [0] rfl rfl ⟨zc rfl rfl, zc rfl rfl, zc rfl rfl, zc rfl rfl, zc rfl rfl, zc rfl rfl, trivial⟩ ⟨⟨_, rfl, ⟨ii rfl rfl, ii rfl rfl, ii rfl rfl, ii rfl rfl, ii rfl rfl, ii rfl rfl, ii rfl rfl, ii rfl rfl, ii rfl rfl, ii rfl rfl, ii rfl rfl, trivial⟩⟩, trivial⟩) ?_
          refine SOps.nil ?_
          rcases cond_out h with ⟨g24, h⟩ | ⟨g24, h⟩
          · refine SCode.cond_t rfl g24 ?_
            obtain ⟨g25, h⟩ := guard_out h
            refine SCode.region (show SOps _ _ _ [0, 1, 2, 3, 4, 5, 6] _ _ from ?_)
            refine SOps.q rfl (.plain rfl) rfl (q_field_ptr rfl rfl fd31_9) ?_
            refine SOps.q rfl (.plain rfl) rfl (q_load_ptr rfl rfl rfl rfl ty29) ?_
            refine SOps.q rfl (.plain rfl) rfl (q_move rfl rfl) ?_
            refine SOps.q rfl (.plain rfl) rfl (q_index_vec rfl rfl rfl sl29 rfl g25.1 g25.2) ?_
            refine SOps.q rfl (.plain rfl) rfl (q_field_eptr rfl rfl fd38_1 rfl) ?_
            refine SOps.q rfl (.plain rfl) rfl (q_load_eptr rfl rfl ty3) ?_
            refine SOps.q rfl (.plain rfl) rfl (q_assign rfl rfl) ?_
            refine SOps.sub (st' := ⟨[(2, .c (.int .i64 a2_t)), (3, .c (.ptr 0 0)), (8, .c (.int .i64 c_1.1)), (10, .c (.int .i64 ((a0_p.Periods.getD i_12.toNat dSPeriod).Limit))), (11, .c (.int .i64 i_12))], [.box [.int .i64 a0_p.ID, .int .i64 a0_p.Level, .int .i64 a0_p.Purpose, .int .i64 a0_p.Kind, .int .i64 a0_p.Conn, .str a0_p.Txn, .int .i64 a0_p.Span_From, .int .i64 a0_p.Span_To, .int .i64 a0_p.Start, .int .i64 a0_p.Duration, .vec a0_p.Periods.length 2 (gL cSPeriod dSPeriod a0_p.Periods)]]⟩) (sub_gen [0] rfl rfl ⟨zc rfl rfl, zc rfl rfl, zc rfl rfl, zc rfl rfl, zc rfl rfl, trivial⟩ ⟨⟨_, rfl, ⟨ii rfl rfl, ii rfl rfl, ii rfl rfl, ii rfl rfl, ii rfl rfl, ii rfl rfl, ii rfl rfl, ii rfl rfl, ii rfl rfl, ii rfl rfl, ii rfl rfl, trivial⟩⟩, trivial⟩) ?_
            refine SOps.nil ?_
            exact ⟨(a0_p.Periods.getD i_12.toNat dSPeriod).Limit, h, sub_gen [0] rfl rfl ⟨zc rfl rfl, zc rfl rfl, zc rfl rfl, zc rfl rfl, zc rfl rfl, trivial⟩ ⟨⟨_, rfl, ⟨ii rfl rfl, ii rfl rfl, ii rfl rfl, ii rfl rfl, ii rfl rfl, ii rfl rfl, ii rfl rfl, ii rfl rfl, ii rfl rfl, ii rfl rfl, ii rfl rfl, trivial⟩⟩, trivial⟩⟩
          refine SCode.cond_f rfl g24 ?_
          refine SCode.skip ?_
          exact ⟨n_11, h, sub_gen [0] rfl rfl ⟨zc rfl rfl, zc rfl rfl, zc rfl rfl, zc rfl rfl, zc rfl rfl, trivial⟩ ⟨⟨_, rfl, ⟨ii rfl rfl, ii rfl rfl, ii rfl rfl, ii rfl rfl, ii rfl rfl, ii rfl rfl, ii rfl rfl, ii rfl rfl, ii rfl rfl, ii rfl rfl, ii rfl rfl, trivial⟩⟩, trivial⟩⟩
        rintro n_21 h
        show SCode _ _ _ ⟨[(2, .c (.int .i64 a2_t)), (3, .c (.ptr 0 0)), (8, .c (.int .i64 c_1.1)), (10, .c (.int .i64 n_21)), (11, .c (.int .i64 i_12))], [.box [.int .i64 a0_p.ID, .int .i64 a0_p.Level, .int .i64 a0_p.Purpose, .int .i64 a0_p.Kind, .int .i64 a0_p.Conn, .str a0_p.Txn, .int .i64 a0_p.Span_From, .int .i64 a0_p.Span_To, .int .i64 a0_p.Start, .int .i64 a0_p.Duration, .vec a0_p.Periods.length 2 (gL cSPeriod dSPeriod a0_p.Periods)]]⟩ _
        replace h : chargenetref15_Limit_p22 i_12 (fun n_11 i_12 => chargenetref15_Limit_l19 a0_p a2_t c_1 n_19 n_11 i_12) n_21 = some r := h
        unfold chargenetref15_Limit_p22 at h
        refine SCode.region (show SOps _ _ _ [0, 1, 2] _ _ from ?_)
        refine SOps.q rfl (.plain rfl) rfl (q_move rfl rfl) ?_
        refine SOps.q rfl (.plain rfl) rfl (q_add rfl rfl rfl) ?_
        refine SOps.q rfl (.plain rfl) rfl (q_assign rfl rfl) ?_
        refine SOps.sub (st' := ⟨[(2, .c (.int .i64 a2_t)), (3, .c (.ptr 0 0)), (8, .c (.int .i64 c_1.1)), (10, .c (.int .i64 n_21)), (11, .c (.int .i64 (IntKind.wrap .i64 (i_12 + 1))))], [.box [.int .i64 a0_p.ID, .int .i64 a0_p.Level, .int .i64 a0_p.Purpose, .int .i64 a0_p.Kind, .int .i64 a0_p.Conn, .str a0_p.Txn, .int .i64 a0_p.Span_From, .int .i64 a0_p.Span_To, .int .i64 a0_p.Start, .int .i64 a0_p.Duration, .vec a0_p.Periods.length 2 (gL cSPeriod dSPeriod a0_p.Periods)]]⟩) (sub_gen [0] rfl rfl ⟨zc rfl rfl, zc rfl rfl, zc rfl rfl, zc rfl rfl, zc rfl rfl, trivial⟩ ⟨⟨_, rfl, ⟨ii rfl rfl, ii rfl rfl, ii rfl rfl, ii rfl rfl, ii rfl rfl, ii rfl rfl, ii rfl rfl, ii rfl rfl, ii rfl rfl, ii rfl rfl, ii rfl rfl, trivial⟩⟩, trivial⟩) ?_
        refine SOps.nil ?_
        exact ⟨(n_19, (n_21, IntKind.wrap .i64 (i_12 + 1))), h, Nat.lt_succ_self n_19, sub_gen [0] rfl rfl ⟨zc rfl rfl, zc rfl rfl, zc rfl rfl, zc rfl rfl, zc rfl rfl, trivial⟩ ⟨⟨_, rfl, ⟨ii rfl rfl, ii rfl rfl, ii rfl rfl, ii rfl rfl, ii rfl rfl, ii rfl rfl, ii rfl rfl, ii rfl rfl, ii rfl rfl, ii rfl rfl, ii rfl rfl, trivial⟩⟩, trivial⟩⟩
      refine SCode.cond_f rfl g20 ?_
      refine SCode.exit ?_
      exact ⟨n_11, h, sub_gen [] rfl rfl ⟨zc rfl rfl, trivial⟩ trivial⟩
  rintro n_3 h
  show SCode _ _ _ ⟨[(10, .c (.int .i64 n_3))], []⟩ _
  replace h : chargenetref15_Limit_p4 n_3 = some r := h
  unfold chargenetref15_Limit_p4 at h
  refine SCode.seq ?_
  refine SCode.region (show SOps _ _ _ [0, 1, 2] _ _ from ?_)
  refine SOps.q rfl (.plain rfl) rfl (q_move rfl rfl) ?_
  refine SOps.q rfl (.plain rfl) rfl (q_assign rfl rfl) ?_
  refine SOps.q rfl (.plain rfl) rfl (q_assign rfl rfl) ?_
  refine SOps.sub (st' := ⟨[(6, .c (.int .i64 n_3)), (7, .c (.bool true))], []⟩) (sub_gen [] rfl rfl ⟨zc rfl rfl, zc rfl rfl, trivial⟩ trivial) ?_
  refine SOps.nil ?_
  refine SCode.ret ?_
  obtain rfl := Option.some.inj h
  exact ⟨⟨[(6, .c (.int .i64 n_3)), (7, .c (.bool true))], []⟩, _, sub_gen [] rfl rfl ⟨zc rfl rfl, zc rfl rfl, trivial⟩ trivial, resA2 (v1 := .c (.int .i64 n_3)) (v2 := .c (.bool true)) rfl rfl rfl, rfl⟩
set_option maxRecDepth 100000 in
set_option maxHeartbeats 8000000 in
theorem chargenetref16_candidate_ok (F : Nat) (a0_p : SProfile) (a1_conn : Int) (a2_txn : ByteArray) (r : Bool) (h : chargenetref16_candidate F a0_p a1_conn a2_txn = some r) :
    SFun Try.prog 42 [] [.a [.int .i64 a0_p.ID, .int .i64 a0_p.Level, .int .i64 a0_p.Purpose, .int .i64 a0_p.Kind, .int .i64 a0_p.Conn, .str a0_p.Txn, .int .i64 a0_p.Span_From, .int .i64 a0_p.Span_To, .int .i64 a0_p.Start, .int .i64 a0_p.Duration, .vec a0_p.Periods.length 2 (gL cSPeriod dSPeriod a0_p.Periods)], .c (.int .i64 a1_conn), .c (.str a2_txn)] (fun x _ => x = .c (.bool r)) := by
  refine SFun.of (n := 35) Try.func42 rfl rfl rfl ?_
  unfold chargenetref16_candidate at h
  show SCode _ _ _ ⟨[(0, .a [.int .i64 a0_p.ID, .int .i64 a0_p.Level, .int .i64 a0_p.Purpose, .int .i64 a0_p.Kind, .int .i64 a0_p.Conn, .str a0_p.Txn, .int .i64 a0_p.Span_From, .int .i64 a0_p.Span_To, .int .i64 a0_p.Start, .int .i64 a0_p.Duration, .vec a0_p.Periods.length 2 (gL cSPeriod dSPeriod a0_p.Periods)]), (1, .c (.int .i64 a1_conn)), (2, .c (.str a2_txn))], []⟩ _
  refine SCode.seq ?_
  refine SCode.region (show SOps _ _ _ [0, 1] _ _ from ?_)
  refine SOps.e rfl (.plain rfl) (e_box rfl rfl rfl rfl rfl rfl) ?_
  refine SOps.q rfl (.plain rfl) rfl (q_assign rfl rfl) ?_
  refine SOps.sub (st' := ⟨[(1, .c (.int .i64 a1_conn)), (2, .c (.str a2_txn)), (3, .c (.ptr 0 0))], [.box [.int .i64 a0_p.ID, .int .i64 a0_p.Level, .int .i64 a0_p.Purpose, .int .i64 a0_p.Kind, .int .i64 a0_p.Conn, .str a0_p.Txn, .int .i64 a0_p.Span_From, .int .i64 a0_p.Span_To, .int .i64 a0_p.Start, .int .i64 a0_p.Duration, .vec a0_p.Periods.length 2 (gL cSPeriod dSPeriod a0_p.Periods)]]⟩) (sub_gen [0] rfl rfl ⟨zc rfl rfl, zc rfl rfl, zc rfl rfl, trivial⟩ ⟨⟨_, rfl, ⟨ii rfl rfl, ii rfl rfl, ii rfl rfl, ii rfl rfl, ii rfl rfl, ii rfl rfl, ii rfl rfl, ii rfl rfl, ii rfl rfl, ii rfl rfl, ii rfl rfl, trivial⟩⟩, trivial⟩) ?_
  refine SOps.nil ?_
  refine SCode.join (σ := Unit) (S := fun s => ⟨[(2, .c (.str a2_txn)), (3, .c (.ptr 0 0))], [.box [.int .i64 a0_p.ID, .int .i64 a0_p.Level, .int .i64 a0_p.Purpose, .int .i64 a0_p.Kind, .int .i64 a0_p.Conn, .str a0_p.Txn, .int .i64 a0_p.Span_From, .int .i64 a0_p.Span_To, .int .i64 a0_p.Start, .int .i64 a0_p.Duration, .vec a0_p.Periods.length 2 (gL cSPeriod dSPeriod a0_p.Periods)]]⟩) (g := fun s => chargenetref16_candidate_p4 a0_p a2_txn = some r) ?_ ?_
  rotate_left
  · refine SCode.seq ?_
    rcases cond_out h with ⟨g5, h⟩ | ⟨g5, h⟩
    · refine SCode.region (show SOps _ _ _ [0, 1, 2, 3, 4, 5, 6, 7, 8] _ _ from ?_)
      refine SOps.q rfl (.plain rfl) rfl (q_field_ptr rfl rfl fd31_4) ?_
      refine SOps.q rfl (.plain rfl) rfl (q_load_ptr rfl rfl rfl rfl ty3) ?_
      refine SOps.q rfl (.plain rfl) rfl (q_neq rfl rfl rfl) ?_
      refine SOps.q rfl (.plain rfl) rfl (q_move rfl rfl) ?_
      refine SOps.q rfl (.guard 3 10 true rfl rfl (gT g5)) rfl (q_field_ptr rfl rfl fd31_4) ?_
      refine SOps.q rfl (.guard 3 10 true rfl rfl (gT g5)) rfl (q_load_ptr rfl rfl rfl rfl ty3) ?_
      refine SOps.q rfl (.guard 3 10 true rfl rfl (gT g5)) rfl (q_move rfl rfl) ?_
      refine SOps.q rfl (.guard 3 10 true rfl rfl (gT g5)) rfl (q_neq rfl rfl rfl) ?_
      refine SOps.q rfl (.plain rfl) rfl (q_pick_t rfl rfl g5 rfl) ?_
      refine SOps.sub (st' := ⟨[(2, .c (.str a2_txn)), (3, .c (.ptr 0 0)), (15, .c (.bool ((!decide (a0_p.Conn = a1_conn)))))], [.box [.int .i64 a0_p.ID, .int .i64 a0_p.Level, .int .i64 a0_p.Purpose, .int .i64 a0_p.Kind, .int .i64 a0_p.Conn, .str a0_p.Txn, .int .i64 a0_p.Span_From, .int .i64 a0_p.Span_To, .int .i64 a0_p.Start, .int .i64 a0_p.Duration, .vec a0_p.Periods.length 2 (gL cSPeriod dSPeriod a0_p.Periods)]]⟩) (sub_gen [0] rfl rfl ⟨zc rfl rfl, zc rfl rfl, zc rfl rfl, trivial⟩ ⟨⟨_, rfl, ⟨ii rfl rfl, ii rfl rfl, ii rfl rfl, ii rfl rfl, ii rfl rfl, ii rfl rfl, ii rfl rfl, ii rfl rfl, ii rfl rfl, ii rfl rfl, ii rfl rfl, trivial⟩⟩, trivial⟩) ?_
      refine SOps.nil ?_
      rcases cond_out h with ⟨g6, h⟩ | ⟨g6, h⟩
      · refine SCode.cond_t rfl g6 ?_
        refine SCode.seq ?_
        refine SCode.region (show SOps _ _ _ [0] _ _ from ?_)
        refine SOps.q rfl (.plain rfl) rfl (q_assign rfl rfl) ?_
        refine SOps.sub (st' := ⟨[(6, .c (.bool false))], []⟩) (sub_gen [] rfl rfl ⟨zc rfl rfl, trivial⟩ trivial) ?_
        refine SOps.nil ?_
        refine SCode.ret ?_
        obtain rfl := Option.some.inj h
        exact ⟨⟨[(6, .c (.bool false))], []⟩, _, sub_gen [] rfl rfl ⟨zc rfl rfl, trivial⟩ trivial, resA1 (v := .c (.bool false)) rfl rfl, rfl⟩
      refine SCode.cond_f rfl g6 ?_
      refine SCode.skip ?_
      exact ⟨(), h, sub_gen [0] rfl rfl ⟨zc rfl rfl, zc rfl rfl, trivial⟩ ⟨⟨_, rfl, ⟨ii rfl rfl, ii rfl rfl, ii rfl rfl, ii rfl rfl, ii rfl rfl, ii rfl rfl, ii rfl rfl, ii rfl rfl, ii rfl rfl, ii rfl rfl, ii rfl rfl, trivial⟩⟩, trivial⟩⟩
    refine SCode.region (show SOps _ _ _ [0, 1, 2, 3, 4, 5, 6, 7, 8] _ _ from ?_)
    refine SOps.q rfl (.plain rfl) rfl (q_field_ptr rfl rfl fd31_4) ?_
    refine SOps.q rfl (.plain rfl) rfl (q_load_ptr rfl rfl rfl rfl ty3) ?_
    refine SOps.q rfl (.plain rfl) rfl (q_neq rfl rfl rfl) ?_
    refine SOps.q rfl (.plain rfl) rfl (q_move rfl rfl) ?_
    refine SOps.skip rfl 3 10 true rfl rfl (.inl (gF g5)) rfl ?_
    refine SOps.skip rfl 3 10 true rfl rfl (.inl (gF g5)) rfl ?_
    refine SOps.skip rfl 3 10 true rfl rfl (.inl (gF g5)) rfl ?_
    refine SOps.skip rfl 3 10 true rfl rfl (.inl (gF g5)) rfl ?_
    refine SOps.q rfl (.plain rfl) rfl (q_pick_f rfl rfl g5 rfl) ?_
    refine SOps.sub (st' := ⟨[(2, .c (.str a2_txn)), (3, .c (.ptr 0 0)), (15, .c (.bool false))], [.box [.int .i64 a0_p.ID, .int .i64 a0_p.Level, .int .i64 a0_p.Purpose, .int .i64 a0_p.Kind, .int .i64 a0_p.Conn, .str a0_p.Txn, .int .i64 a0_p.Span_From, .int .i64 a0_p.Span_To, .int .i64 a0_p.Start, .int .i64 a0_p.Duration, .vec a0_p.Periods.length 2 (gL cSPeriod dSPeriod a0_p.Periods)]]⟩) (sub_gen [0] rfl rfl ⟨zc rfl rfl, zc rfl rfl, zc rfl rfl, trivial⟩ ⟨⟨_, rfl, ⟨ii rfl rfl, ii rfl rfl, ii rfl rfl, ii rfl rfl, ii rfl rfl, ii rfl rfl, ii rfl rfl, ii rfl rfl, ii rfl rfl, ii rfl rfl, ii rfl rfl, trivial⟩⟩, trivial⟩) ?_
    refine SOps.nil ?_
    refine SCode.cond_f rfl rfl ?_
    refine SCode.skip ?_
    exact ⟨(), h, sub_gen [0] rfl rfl ⟨zc rfl rfl, zc rfl rfl, trivial⟩ ⟨⟨_, rfl, ⟨ii rfl rfl, ii rfl rfl, ii rfl rfl, ii rfl rfl, ii rfl rfl, ii rfl rfl, ii rfl rfl, ii rfl rfl, ii rfl rfl, ii rfl rfl, ii rfl rfl, trivial⟩⟩, trivial⟩⟩
  rintro ⟨⟩ h
  show SCode _ _ _ ⟨[(2, .c (.str a2_txn)), (3, .c (.ptr 0 0))], [.box [.int .i64 a0_p.ID, .int .i64 a0_p.Level, .int .i64 a0_p.Purpose, .int .i64 a0_p.Kind, .int .i64 a0_p.Conn, .str a0_p.Txn, .int .i64 a0_p.Span_From, .int .i64 a0_p.Span_To, .int .i64 a0_p.Start, .int .i64 a0_p.Duration, .vec a0_p.Periods.length 2 (gL cSPeriod dSPeriod a0_p.Periods)]]⟩ _
  replace h : chargenetref16_candidate_p4 a0_p a2_txn = some r := h
  unfold chargenetref16_candidate_p4 at h
  refine SCode.seq ?_
  refine SCode.seq ?_
  refine SCode.region (show SOps _ _ _ [0, 1] _ _ from ?_)
  refine SOps.q rfl (.plain rfl) rfl (q_move rfl rfl) ?_
  refine SOps.q rfl (.plain rfl) rfl (q_eqlS rfl rfl rfl) ?_
  refine SOps.sub (st' := ⟨[(2, .c (.str a2_txn)), (3, .c (.ptr 0 0)), (17, .c (.bool (sEq a2_txn ByteArray.empty)))], [.box [.int .i64 a0_p.ID, .int .i64 a0_p.Level, .int .i64 a0_p.Purpose, .int .i64 a0_p.Kind, .int .i64 a0_p.Conn, .str a0_p.Txn, .int .i64 a0_p.Span_From, .int .i64 a0_p.Span_To, .int .i64 a0_p.Start, .int .i64 a0_p.Duration, .vec a0_p.Periods.length 2 (gL cSPeriod dSPeriod a0_p.Periods)]]⟩) (sub_gen [0] rfl rfl ⟨zc rfl rfl, zc rfl rfl, zc rfl rfl, trivial⟩ ⟨⟨_, rfl, ⟨ii rfl rfl, ii rfl rfl, ii rfl rfl, ii rfl rfl, ii rfl rfl, ii rfl rfl, ii rfl rfl, ii rfl rfl, ii rfl rfl, ii rfl rfl, ii rfl rfl, trivial⟩⟩, trivial⟩) ?_
  refine SOps.nil ?_
  rcases cond_out h with ⟨g1, h⟩ | ⟨g1, h⟩
  · refine SCode.cond_t rfl g1 ?_
    refine SCode.seq ?_
    rcases cond_out h with ⟨g2, h⟩ | ⟨g2, h⟩
    · refine SCode.region (show SOps _ _ _ [0, 1, 2, 3, 4, 5, 6, 7, 8] _ _ from ?_)
      refine SOps.q rfl (.plain rfl) rfl (q_field_ptr rfl rfl fd31_2) ?_
      refine SOps.q rfl (.plain rfl) rfl (q_load_ptr rfl rfl rfl rfl ty3) ?_
      refine SOps.q rfl (.plain rfl) rfl (q_neq rfl rfl rfl) ?_
      refine SOps.q rfl (.plain rfl) rfl (q_move rfl rfl) ?_
      refine SOps.q rfl (.guard 3 21 true rfl rfl (gT g2)) rfl (q_field_ptr rfl rfl fd31_3) ?_
      refine SOps.q rfl (.guard 3 21 true rfl rfl (gT g2)) rfl (q_load_ptr rfl rfl rfl rfl ty3) ?_
      refine SOps.q rfl (.guard 3 21 true rfl rfl (gT g2)) rfl (q_neq rfl rfl rfl) ?_
      refine SOps.q rfl (.plain rfl) rfl (q_pick_t rfl rfl g2 rfl) ?_
      refine SOps.q rfl (.plain rfl) rfl (q_assign rfl rfl) ?_
      refine SOps.sub (st' := ⟨[(6, .c (.bool ((!decide (a0_p.Kind = 4)))))], []⟩) (sub_gen [] rfl rfl ⟨zc rfl rfl, trivial⟩ trivial) ?_
      refine SOps.nil ?_
      refine SCode.ret ?_
      obtain rfl := Option.some.inj h
      exact ⟨⟨[(6, .c (.bool ((!decide (a0_p.Kind = 4)))))], []⟩, _, sub_gen [] rfl rfl ⟨zc rfl rfl, trivial⟩ trivial, resA1 (v := .c (.bool ((!decide (a0_p.Kind = 4))))) rfl rfl, rfl⟩
    refine SCode.region (show SOps _ _ _ [0, 1, 2, 3, 4, 5, 6, 7, 8] _ _ from ?_)
    refine SOps.q rfl (.plain rfl) rfl (q_field_ptr rfl rfl fd31_2) ?_
    refine SOps.q rfl (.plain rfl) rfl (q_load_ptr rfl rfl rfl rfl ty3) ?_
    refine SOps.q rfl (.plain rfl) rfl (q_neq rfl rfl rfl) ?_
    refine SOps.q rfl (.plain rfl) rfl (q_move rfl rfl) ?_
    refine SOps.skip rfl 3 21 true rfl rfl (.inl (gF g2)) rfl ?_
    refine SOps.skip rfl 3 21 true rfl rfl (.inl (gF g2)) rfl ?_
    refine SOps.skip rfl 3 21 true rfl rfl (.inl (gF g2)) rfl ?_
    refine SOps.q rfl (.plain rfl) rfl (q_pick_f rfl rfl g2 rfl) ?_
    refine SOps.q rfl (.plain rfl) rfl (q_assign rfl rfl) ?_
    refine SOps.sub (st' := ⟨[(6, .c (.bool false))], []⟩) (sub_gen [] rfl rfl ⟨zc rfl rfl, trivial⟩ trivial) ?_
    refine SOps.nil ?_
    refine SCode.ret ?_
    obtain rfl := Option.some.inj h
    exact ⟨⟨[(6, .c (.bool false))], []⟩, _, sub_gen [] rfl rfl ⟨zc rfl rfl, trivial⟩ trivial, resA1 (v := .c (.bool false)) rfl rfl, rfl⟩
  refine SCode.cond_f rfl g1 ?_
  refine SCode.skip ?_
  refine SCode.seq ?_
  rcases cond_out h with ⟨g3, h⟩ | ⟨g3, h⟩
  · refine SCode.region (show SOps _ _ _ [0, 1, 2, 3, 4, 5, 6, 7, 8, 9] _ _ from ?_)
    refine SOps.q rfl (.plain rfl) rfl (q_field_ptr rfl rfl fd31_2) ?_
    refine SOps.q rfl (.plain rfl) rfl (q_load_ptr rfl rfl rfl rfl ty3) ?_
    refine SOps.q rfl (.plain rfl) rfl (q_neq rfl rfl rfl) ?_
    refine SOps.q rfl (.plain rfl) rfl (q_move rfl rfl) ?_
    refine SOps.skip rfl 3 29 false rfl rfl (.inl (gT g3)) rfl ?_
    refine SOps.skip rfl 3 29 false rfl rfl (.inl (gT g3)) rfl ?_
    refine SOps.skip rfl 3 29 false rfl rfl (.inl (gT g3)) rfl ?_
    refine SOps.skip rfl 3 29 false rfl rfl (.inl (gT g3)) rfl ?_
    refine SOps.q rfl (.plain rfl) rfl (q_pick_t rfl rfl g3 rfl) ?_
    refine SOps.q rfl (.plain rfl) rfl (q_assign rfl rfl) ?_
    refine SOps.sub (st' := ⟨[(6, .c (.bool true))], []⟩) (sub_gen [] rfl rfl ⟨zc rfl rfl, trivial⟩ trivial) ?_
    refine SOps.nil ?_
    refine SCode.ret ?_
    obtain rfl := Option.some.inj h
    exact ⟨⟨[(6, .c (.bool true))], []⟩, _, sub_gen [] rfl rfl ⟨zc rfl rfl, trivial⟩ trivial, resA1 (v := .c (.bool true)) rfl rfl, rfl⟩
  refine SCode.region (show SOps _ _ _ [0, 1, 2, 3, 4, 5, 6, 7, 8, 9] _ _ from ?_)
  refine SOps.q rfl (.plain rfl) rfl (q_field_ptr rfl rfl fd31_2) ?_
  refine SOps.q rfl (.plain rfl) rfl (q_load_ptr rfl rfl rfl rfl ty3) ?_
  refine SOps.q rfl (.plain rfl) rfl (q_neq rfl rfl rfl) ?_
  refine SOps.q rfl (.plain rfl) rfl (q_move rfl rfl) ?_
  refine SOps.q rfl (.guard 3 29 false rfl rfl (gF g3)) rfl (q_field_ptr rfl rfl fd31_5) ?_
  refine SOps.q rfl (.guard 3 29 false rfl rfl (gF g3)) rfl (q_load_ptr rfl rfl rfl rfl ty9) ?_
  refine SOps.q rfl (.guard 3 29 false rfl rfl (gF g3)) rfl (q_move rfl rfl) ?_
  refine SOps.q rfl (.guard 3 29 false rfl rfl (gF g3)) rfl (q_eqlS rfl rfl rfl) ?_
  refine SOps.q rfl (.plain rfl) rfl (q_pick_f rfl rfl g3 rfl) ?_
  refine SOps.q rfl (.plain rfl) rfl (q_assign rfl rfl) ?_
  refine SOps.sub (st' := ⟨[(6, .c (.bool (sEq a0_p.Txn a2_txn)))], []⟩) (sub_gen [] rfl rfl ⟨zc rfl rfl, trivial⟩ trivial) ?_
  refine SOps.nil ?_
  refine SCode.ret ?_
  obtain rfl := Option.some.inj h
  exact ⟨⟨[(6, .c (.bool (sEq a0_p.Txn a2_txn)))], []⟩, _, sub_gen [] rfl rfl ⟨zc rfl rfl, trivial⟩ trivial, resA1 (v := .c (.bool (sEq a0_p.Txn a2_txn))) rfl rfl, rfl⟩
end Go.Proofs.Ytjpooimkhkhgkaa.W
