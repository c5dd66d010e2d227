/- Written by a program of ours (wip/eng/gen.py): the functions compute their models. -/
import Derived.Test.YtjpooimkhkhgkaaFacts
import Derived.Test.YtjpooimkhkhgkaaV7x2
namespace Go.Proofs.Ytjpooimkhkhgkaa.W
open Go Go.Proofs Go.Proofs.Ytjpooimkhkhgkaa.E Go.Proofs.Ytjpooimkhkhgkaa.M
set_option linter.unusedVariables false
set_option maxRecDepth 100000 in
set_option maxHeartbeats 8000000 in
theorem chargenetref15_Valid_ok (F : Nat) (a0_p : SProfile) (r : Int) (h : chargenetref15_Valid F a0_p = some r) :
    SFun Try.prog 18 [] [.a [.int .i64 a0_p.ID, .int .i64 a0_p.Level, .int .i64 a0_p.Purpose, .int .i64 a0_p.Kind, .int .i64 a0_p.Conn, .str a0_p.Txn, .int .i64 a0_p.Span_From, .int .i64 a0_p.Span_To, .int .i64 a0_p.Start, .int .i64 a0_p.Duration, .vec a0_p.Periods.length 2 (gL cSPeriod dSPeriod a0_p.Periods)]] (fun x _ => x = .c (.int .i64 r)) := by
  refine SFun.of (n := 107) Try.func18 rfl rfl rfl ?_
  unfold chargenetref15_Valid at h
  show SCode _ _ _ ⟨[(0, .a [.int .i64 a0_p.ID, .int .i64 a0_p.Level, .int .i64 a0_p.Purpose, .int .i64 a0_p.Kind, .int .i64 a0_p.Conn, .str a0_p.Txn, .int .i64 a0_p.Span_From, .int .i64 a0_p.Span_To, .int .i64 a0_p.Start, .int .i64 a0_p.Duration, .vec a0_p.Periods.length 2 (gL cSPeriod dSPeriod a0_p.Periods)])], []⟩ _
  refine SCode.seq ?_
  refine SCode.region (show SOps _ _ _ [0, 1] _ _ from ?_)
  refine SOps.e rfl (.plain rfl) (e_box rfl rfl rfl rfl rfl rfl) ?_
  refine SOps.q rfl (.plain rfl) rfl (q_assign rfl rfl) ?_
  refine SOps.sub (st' := ⟨[(1, .c (.ptr 0 0))], [.box [.int .i64 a0_p.ID, .int .i64 a0_p.Level, .int .i64 a0_p.Purpose, .int .i64 a0_p.Kind, .int .i64 a0_p.Conn, .str a0_p.Txn, .int .i64 a0_p.Span_From, .int .i64 a0_p.Span_To, .int .i64 a0_p.Start, .int .i64 a0_p.Duration, .vec a0_p.Periods.length 2 (gL cSPeriod dSPeriod a0_p.Periods)]]⟩) (sub_gen [0] rfl rfl ⟨zc rfl rfl, trivial⟩ ⟨⟨_, rfl, ⟨ii rfl rfl, ii rfl rfl, ii rfl rfl, ii rfl rfl, ii rfl rfl, ii rfl rfl, ii rfl rfl, ii rfl rfl, ii rfl rfl, ii rfl rfl, ii rfl rfl, trivial⟩⟩, trivial⟩) ?_
  refine SOps.nil ?_
  refine SCode.seq ?_
  refine SCode.seq ?_
  obtain ⟨c_1, g2, h⟩ := bind_out h
  try dsimp only at h
  refine SCode.region (show SOps _ _ _ [0, 1, 2] _ _ from ?_)
  refine SOps.q rfl (.plain rfl) rfl (q_load_ptr_all rfl rfl rfl rfl rfl ty31) ?_
  refine SOps.q rfl (.plain rfl) rfl (q_call (chargenetref15_first_ok F a0_p c_1 g2) [] rfl fn27 ⟨⟨rfl, rfl⟩, trivial⟩ (.inl rfl)) ?_
  refine SOps.q rfl (.plain rfl) rfl (q_not rfl rfl) ?_
  refine SOps.sub (st' := ⟨[(1, .c (.ptr 0 0)), (7, .c (.bool ((!c_1))))], [.box [.int .i64 a0_p.ID, .int .i64 a0_p.Level, .int .i64 a0_p.Purpose, .int .i64 a0_p.Kind, .int .i64 a0_p.Conn, .str a0_p.Txn, .int .i64 a0_p.Span_From, .int .i64 a0_p.Span_To, .int .i64 a0_p.Start, .int .i64 a0_p.Duration, .vec a0_p.Periods.length 2 (gL cSPeriod dSPeriod a0_p.Periods)]]⟩) (sub_gen [0] rfl rfl ⟨zc rfl rfl, zc rfl rfl, trivial⟩ ⟨⟨_, rfl, ⟨ii rfl rfl, ii rfl rfl, ii rfl rfl, ii rfl rfl, ii rfl rfl, ii rfl rfl, ii rfl rfl, ii rfl rfl, ii rfl rfl, ii rfl rfl, ii rfl rfl, trivial⟩⟩, trivial⟩) ?_
  refine SOps.nil ?_
  rcases cond_out h with ⟨g3, h⟩ | ⟨g3, h⟩
  · refine SCode.cond_t rfl g3 ?_
    refine SCode.seq ?_
    refine SCode.region (show SOps _ _ _ [0] _ _ from ?_)
    refine SOps.q rfl (.plain rfl) rfl (q_assign rfl rfl) ?_
    refine SOps.sub (st' := ⟨[(2, .c (.int .i64 2))], []⟩) (sub_gen [] rfl rfl ⟨zc rfl rfl, trivial⟩ trivial) ?_
    refine SOps.nil ?_
    refine SCode.ret ?_
    obtain rfl := Option.some.inj h
    exact ⟨⟨[(2, .c (.int .i64 2))], []⟩, _, sub_gen [] rfl rfl ⟨zc rfl rfl, trivial⟩ trivial, resA1 (v := .c (.int .i64 2)) rfl rfl, rfl⟩
  refine SCode.cond_f rfl g3 ?_
  refine SCode.skip ?_
  refine SCode.join (σ := Unit) (S := fun s => ⟨[(1, .c (.ptr 0 0))], [.box [.int .i64 a0_p.ID, .int .i64 a0_p.Level, .int .i64 a0_p.Purpose, .int .i64 a0_p.Kind, .int .i64 a0_p.Conn, .str a0_p.Txn, .int .i64 a0_p.Span_From, .int .i64 a0_p.Span_To, .int .i64 a0_p.Start, .int .i64 a0_p.Duration, .vec a0_p.Periods.length 2 (gL cSPeriod dSPeriod a0_p.Periods)]]⟩) (g := fun s => chargenetref15_Valid_p76 F a0_p = some r) ?_ ?_
  rotate_left
  · refine SCode.seq ?_
    rcases cond_out h with ⟨g77, h⟩ | ⟨g77, h⟩
    · obtain ⟨c_78, g79, h⟩ := bind_out h
      try dsimp only at h
      rcases cond_out h with ⟨g80, h⟩ | ⟨g80, h⟩
      · refine SCode.region (show SOps _ _ _ [0, 1, 2, 3, 4, 5, 6, 7, 8, 9, 10, 11, 12, 13, 14, 15, 16, 17, 18] _ _ from ?_)
        refine SOps.q rfl (.plain rfl) rfl (q_field_ptr rfl rfl fd31_2) ?_
        refine SOps.q rfl (.plain rfl) rfl (q_load_ptr rfl rfl rfl rfl ty3) ?_
        refine SOps.q rfl (.plain rfl) rfl (q_eql rfl rfl rfl) ?_
        refine SOps.q rfl (.plain rfl) rfl (q_move rfl rfl) ?_
        refine SOps.q rfl (.guard 3 11 true rfl rfl (gT g77)) rfl (q_field_ptr rfl rfl fd31_5) ?_
        refine SOps.q rfl (.guard 3 11 true rfl rfl (gT g77)) rfl (q_load_ptr rfl rfl rfl rfl ty9) ?_
        refine SOps.q rfl (.guard 3 11 true rfl rfl (gT g77)) rfl (q_call (chargenetref01_Valid_ok F a0_p.Txn c_78 g79) [] rfl fn28 ⟨⟨_, rfl, .inl ⟨rfl, rfl⟩⟩, trivial⟩ (.inl rfl)) ?_
        refine SOps.q rfl (.guard 3 11 true rfl rfl (gT g77)) rfl (q_not rfl rfl) ?_
        refine SOps.q rfl (.plain rfl) rfl (q_pick_t rfl rfl g77 rfl) ?_
        refine SOps.q rfl (.plain rfl) rfl (q_move rfl rfl) ?_
        refine SOps.skip rfl 9 17 false rfl rfl (.inl (gT g80)) rfl ?_
        refine SOps.skip rfl 9 17 false rfl rfl (.inl (gT g80)) rfl ?_
        refine SOps.skip rfl 9 17 false rfl rfl (.inl (gT g80)) rfl ?_
        refine SOps.skip rfl 9 17 false rfl rfl (.inl (gT g80)) rfl ?_
        refine SOps.skip rfl 13 21 true rfl rfl (.inr rfl) rfl ?_
        refine SOps.skip rfl 13 21 true rfl rfl (.inr rfl) rfl ?_
        refine SOps.skip rfl 13 21 true rfl rfl (.inr rfl) rfl ?_
        refine SOps.skip rfl 9 17 false rfl rfl (.inl (gT g80)) rfl ?_
        refine SOps.q rfl (.plain rfl) rfl (q_pick_t rfl rfl g80 rfl) ?_
        refine SOps.sub (st' := ⟨[(1, .c (.ptr 0 0)), (26, .c (.bool true))], [.box [.int .i64 a0_p.ID, .int .i64 a0_p.Level, .int .i64 a0_p.Purpose, .int .i64 a0_p.Kind, .int .i64 a0_p.Conn, .str a0_p.Txn, .int .i64 a0_p.Span_From, .int .i64 a0_p.Span_To, .int .i64 a0_p.Start, .int .i64 a0_p.Duration, .vec a0_p.Periods.length 2 (gL cSPeriod dSPeriod a0_p.Periods)]]⟩) (sub_gen [0] rfl rfl ⟨zc rfl rfl, zc rfl rfl, trivial⟩ ⟨⟨_, rfl, ⟨ii rfl rfl, ii rfl rfl, ii rfl rfl, ii rfl rfl, ii rfl rfl, ii rfl rfl, ii rfl rfl, ii rfl rfl, ii rfl rfl, ii rfl rfl, ii rfl rfl, trivial⟩⟩, trivial⟩) ?_
        refine SOps.nil ?_
        refine SCode.cond_t rfl rfl ?_
        refine SCode.seq ?_
        refine SCode.region (show SOps _ _ _ [0] _ _ from ?_)
        refine SOps.q rfl (.plain rfl) rfl (q_assign rfl rfl) ?_
        refine SOps.sub (st' := ⟨[(2, .c (.int .i64 4))], []⟩) (sub_gen [] rfl rfl ⟨zc rfl rfl, trivial⟩ trivial) ?_
        refine SOps.nil ?_
        refine SCode.ret ?_
        obtain rfl := Option.some.inj h
        exact ⟨⟨[(2, .c (.int .i64 4))], []⟩, _, sub_gen [] rfl rfl ⟨zc rfl rfl, trivial⟩ trivial, resA1 (v := .c (.int .i64 4)) rfl rfl, rfl⟩
      rcases cond_out h with ⟨g81, h⟩ | ⟨g81, h⟩
      · refine SCode.region (show SOps _ _ _ [0, 1, 2, 3, 4, 5, 6, 7, 8, 9, 10, 11, 12, 13, 14, 15, 16, 17, 18] _ _ from ?_)
        refine SOps.q rfl (.plain rfl) rfl (q_field_ptr rfl rfl fd31_2) ?_
        refine SOps.q rfl (.plain rfl) rfl (q_load_ptr rfl rfl rfl rfl ty3) ?_
        refine SOps.q rfl (.plain rfl) rfl (q_eql rfl rfl rfl) ?_
        refine SOps.q rfl (.plain rfl) rfl (q_move rfl rfl) ?_
        refine SOps.q rfl (.guard 3 11 true rfl rfl (gT g77)) rfl (q_field_ptr rfl rfl fd31_5) ?_
        refine SOps.q rfl (.guard 3 11 true rfl rfl (gT g77)) rfl (q_load_ptr rfl rfl rfl rfl ty9) ?_
        refine SOps.q rfl (.guard 3 11 true rfl rfl (gT g77)) rfl (q_call (chargenetref01_Valid_ok F a0_p.Txn c_78 g79) [] rfl fn28 ⟨⟨_, rfl, .inl ⟨rfl, rfl⟩⟩, trivial⟩ (.inl rfl)) ?_
        refine SOps.q rfl (.guard 3 11 true rfl rfl (gT g77)) rfl (q_not rfl rfl) ?_
        refine SOps.q rfl (.plain rfl) rfl (q_pick_t rfl rfl g77 rfl) ?_
        refine SOps.q rfl (.plain rfl) rfl (q_move rfl rfl) ?_
        refine SOps.q rfl (.guard 9 17 false rfl rfl (gF g80)) rfl (q_field_ptr rfl rfl fd31_2) ?_
        refine SOps.q rfl (.guard 9 17 false rfl rfl (gF g80)) rfl (q_load_ptr rfl rfl rfl rfl ty3) ?_
        refine SOps.q rfl (.guard 9 17 false rfl rfl (gF g80)) rfl (q_neq rfl rfl rfl) ?_
        refine SOps.q rfl (.guard 9 17 false rfl rfl (gF g80)) rfl (q_move rfl rfl) ?_
        refine SOps.q rfl (.guard 13 21 true rfl rfl (gT g81)) rfl (q_field_ptr rfl rfl fd31_5) ?_
        refine SOps.q rfl (.guard 13 21 true rfl rfl (gT g81)) rfl (q_load_ptr rfl rfl rfl rfl ty9) ?_
        refine SOps.q rfl (.guard 13 21 true rfl rfl (gT g81)) rfl (q_neqS rfl rfl rfl) ?_
        refine SOps.q rfl (.guard 9 17 false rfl rfl (gF g80)) rfl (q_pick_t rfl rfl g81 rfl) ?_
        refine SOps.q rfl (.plain rfl) rfl (q_pick_f rfl rfl g80 rfl) ?_
        refine SOps.sub (st' := ⟨[(1, .c (.ptr 0 0)), (26, .c (.bool ((!(sEq a0_p.Txn ByteArray.empty)))))], [.box [.int .i64 a0_p.ID, .int .i64 a0_p.Level, .int .i64 a0_p.Purpose, .int .i64 a0_p.Kind, .int .i64 a0_p.Conn, .str a0_p.Txn, .int .i64 a0_p.Span_From, .int .i64 a0_p.Span_To, .int .i64 a0_p.Start, .int .i64 a0_p.Duration, .vec a0_p.Periods.length 2 (gL cSPeriod dSPeriod a0_p.Periods)]]⟩) (sub_gen [0] rfl rfl ⟨zc rfl rfl, zc rfl rfl, trivial⟩ ⟨⟨_, rfl, ⟨ii rfl rfl, ii rfl rfl, ii rfl rfl, ii rfl rfl, ii rfl rfl, ii rfl rfl, ii rfl rfl, ii rfl rfl, ii rfl rfl, ii rfl rfl, ii rfl rfl, trivial⟩⟩, trivial⟩) ?_
        refine SOps.nil ?_
        rcases cond_out h with ⟨g82, h⟩ | ⟨g82, h⟩
        · refine SCode.cond_t rfl g82 ?_
          refine SCode.seq ?_
          refine SCode.region (show SOps _ _ _ [0] _ _ from ?_)
          refine SOps.q rfl (.plain rfl) rfl (q_assign rfl rfl) ?_
          refine SOps.sub (st' := ⟨[(2, .c (.int .i64 4))], []⟩) (sub_gen [] rfl rfl ⟨zc rfl rfl, trivial⟩ trivial) ?_
          refine SOps.nil ?_
          refine SCode.ret ?_
          obtain rfl := Option.some.inj h
          exact ⟨⟨[(2, .c (.int .i64 4))], []⟩, _, sub_gen [] rfl rfl ⟨zc rfl rfl, trivial⟩ trivial, resA1 (v := .c (.int .i64 4)) rfl rfl, rfl⟩
        refine SCode.cond_f rfl g82 ?_
        refine SCode.skip ?_
        exact ⟨(), h, sub_gen [0] rfl rfl ⟨zc rfl rfl, trivial⟩ ⟨⟨_, rfl, ⟨ii rfl rfl, ii rfl rfl, ii rfl rfl, ii rfl rfl, ii rfl rfl, ii rfl rfl, ii rfl rfl, ii rfl rfl, ii rfl rfl, ii rfl rfl, ii rfl rfl, trivial⟩⟩, trivial⟩⟩
      refine SCode.region (show SOps _ _ _ [0, 1, 2, 3, 4, 5, 6, 7, 8, 9, 10, 11, 12, 13, 14, 15, 16, 17, 18] _ _ from ?_)
      refine SOps.q rfl (.plain rfl) rfl (q_field_ptr rfl rfl fd31_2) ?_
      refine SOps.q rfl (.plain rfl) rfl (q_load_ptr rfl rfl rfl rfl ty3) ?_
      refine SOps.q rfl (.plain rfl) rfl (q_eql rfl rfl rfl) ?_
      refine SOps.q rfl (.plain rfl) rfl (q_move rfl rfl) ?_
      refine SOps.q rfl (.guard 3 11 true rfl rfl (gT g77)) rfl (q_field_ptr rfl rfl fd31_5) ?_
      refine SOps.q rfl (.guard 3 11 true rfl rfl (gT g77)) rfl (q_load_ptr rfl rfl rfl rfl ty9) ?_
      refine SOps.q rfl (.guard 3 11 true rfl rfl (gT g77)) rfl (q_call (chargenetref01_Valid_ok F a0_p.Txn c_78 g79) [] rfl fn28 ⟨⟨_, rfl, .inl ⟨rfl, rfl⟩⟩, trivial⟩ (.inl rfl)) ?_
      refine SOps.q rfl (.guard 3 11 true rfl rfl (gT g77)) rfl (q_not rfl rfl) ?_
      refine SOps.q rfl (.plain rfl) rfl (q_pick_t rfl rfl g77 rfl) ?_
      refine SOps.q rfl (.plain rfl) rfl (q_move rfl rfl) ?_
      refine SOps.q rfl (.guard 9 17 false rfl rfl (gF g80)) rfl (q_field_ptr rfl rfl fd31_2) ?_
      refine SOps.q rfl (.guard 9 17 false rfl rfl (gF g80)) rfl (q_load_ptr rfl rfl rfl rfl ty3) ?_
      refine SOps.q rfl (.guard 9 17 false rfl rfl (gF g80)) rfl (q_neq rfl rfl rfl) ?_
      refine SOps.q rfl (.guard 9 17 false rfl rfl (gF g80)) rfl (q_move rfl rfl) ?_
      refine SOps.skip rfl 13 21 true rfl rfl (.inl (gF g81)) rfl ?_
      refine SOps.skip rfl 13 21 true rfl rfl (.inl (gF g81)) rfl ?_
      refine SOps.skip rfl 13 21 true rfl rfl (.inl (gF g81)) rfl ?_
      refine SOps.q rfl (.guard 9 17 false rfl rfl (gF g80)) rfl (q_pick_f rfl rfl g81 rfl) ?_
      refine SOps.q rfl (.plain rfl) rfl (q_pick_f rfl rfl g80 rfl) ?_
      refine SOps.sub (st' := ⟨[(1, .c (.ptr 0 0)), (26, .c (.bool false))], [.box [.int .i64 a0_p.ID, .int .i64 a0_p.Level, .int .i64 a0_p.Purpose, .int .i64 a0_p.Kind, .int .i64 a0_p.Conn, .str a0_p.Txn, .int .i64 a0_p.Span_From, .int .i64 a0_p.Span_To, .int .i64 a0_p.Start, .int .i64 a0_p.Duration, .vec a0_p.Periods.length 2 (gL cSPeriod dSPeriod a0_p.Periods)]]⟩) (sub_gen [0] rfl rfl ⟨zc rfl rfl, zc rfl rfl, trivial⟩ ⟨⟨_, rfl, ⟨ii rfl rfl, ii rfl rfl, ii rfl rfl, ii rfl rfl, ii rfl rfl, ii rfl rfl, ii rfl rfl, ii rfl rfl, ii rfl rfl, ii rfl rfl, ii rfl rfl, trivial⟩⟩, trivial⟩) ?_
      refine SOps.nil ?_
      refine SCode.cond_f rfl rfl ?_
      refine SCode.skip ?_
      exact ⟨(), h, sub_gen [0] rfl rfl ⟨zc rfl rfl, trivial⟩ ⟨⟨_, rfl, ⟨ii rfl rfl, ii rfl rfl, ii rfl rfl, ii rfl rfl, ii rfl rfl, ii rfl rfl, ii rfl rfl, ii rfl rfl, ii rfl rfl, ii rfl rfl, ii rfl rfl, trivial⟩⟩, trivial⟩⟩
    rcases cond_out h with ⟨g83, h⟩ | ⟨g83, h⟩
    · refine SCode.region (show SOps _ _ _ [0, 1, 2, 3, 4, 5, 6, 7, 8, 9, 10, 11, 12, 13, 14, 15, 16, 17, 18] _ _ from ?_)
      refine SOps.q rfl (.plain rfl) rfl (q_field_ptr rfl rfl fd31_2) ?_
      refine SOps.q rfl (.plain rfl) rfl (q_load_ptr rfl rfl rfl rfl ty3) ?_
      refine SOps.q rfl (.plain rfl) rfl (q_eql rfl rfl rfl) ?_
      refine SOps.q rfl (.plain rfl) rfl (q_move rfl rfl) ?_
      refine SOps.skip rfl 3 11 true rfl rfl (.inl (gF g77)) rfl ?_
      refine SOps.skip rfl 3 11 true rfl rfl (.inl (gF g77)) rfl ?_
      refine SOps.skip rfl 3 11 true rfl rfl (.inl (gF g77)) rfl ?_
      refine SOps.skip rfl 3 11 true rfl rfl (.inl (gF g77)) rfl ?_
      refine SOps.q rfl (.plain rfl) rfl (q_pick_f rfl rfl g77 rfl) ?_
      refine SOps.q rfl (.plain rfl) rfl (q_move rfl rfl) ?_
      refine SOps.q rfl (.guard 9 17 false rfl rfl rfl) rfl (q_field_ptr rfl rfl fd31_2) ?_
      refine SOps.q rfl (.guard 9 17 false rfl rfl rfl) rfl (q_load_ptr rfl rfl rfl rfl ty3) ?_
      refine SOps.q rfl (.guard 9 17 false rfl rfl rfl) rfl (q_neq rfl rfl rfl) ?_
      refine SOps.q rfl (.guard 9 17 false rfl rfl rfl) rfl (q_move rfl rfl) ?_
      refine SOps.q rfl (.guard 13 21 true rfl rfl (gT g83)) rfl (q_field_ptr rfl rfl fd31_5) ?_
      refine SOps.q rfl (.guard 13 21 true rfl rfl (gT g83)) rfl (q_load_ptr rfl rfl rfl rfl ty9) ?_
      refine SOps.q rfl (.guard 13 21 true rfl rfl (gT g83)) rfl (q_neqS rfl rfl rfl) ?_
      refine SOps.q rfl (.guard 9 17 false rfl rfl rfl) rfl (q_pick_t rfl rfl g83 rfl) ?_
      refine SOps.q rfl (.plain rfl) rfl (q_pick_f rfl rfl rfl rfl) ?_
      refine SOps.sub (st' := ⟨[(1, .c (.ptr 0 0)), (26, .c (.bool ((!(sEq a0_p.Txn ByteArray.empty)))))], [.box [.int .i64 a0_p.ID, .int .i64 a0_p.Level, .int .i64 a0_p.Purpose, .int .i64 a0_p.Kind, .int .i64 a0_p.Conn, .str a0_p.Txn, .int .i64 a0_p.Span_From, .int .i64 a0_p.Span_To, .int .i64 a0_p.Start, .int .i64 a0_p.Duration, .vec a0_p.Periods.length 2 (gL cSPeriod dSPeriod a0_p.Periods)]]⟩) (sub_gen [0] rfl rfl ⟨zc rfl rfl, zc rfl rfl, trivial⟩ ⟨⟨_, rfl, ⟨ii rfl rfl, ii rfl rfl, ii rfl rfl, ii rfl rfl, ii rfl rfl, ii rfl rfl, ii rfl rfl, ii rfl rfl, ii rfl rfl, ii rfl rfl, ii rfl rfl, trivial⟩⟩, trivial⟩) ?_
      refine SOps.nil ?_
      rcases cond_out h with ⟨g84, h⟩ | ⟨g84, h⟩
      · refine SCode.cond_t rfl g84 ?_
        refine SCode.seq ?_
        refine SCode.region (show SOps _ _ _ [0] _ _ from ?_)
        refine SOps.q rfl (.plain rfl) rfl (q_assign rfl rfl) ?_
        refine SOps.sub (st' := ⟨[(2, .c (.int .i64 4))], []⟩) (sub_gen [] rfl rfl ⟨zc rfl rfl, trivial⟩ trivial) ?_
        refine SOps.nil ?_
        refine SCode.ret ?_
        obtain rfl := Option.some.inj h
        exact ⟨⟨[(2, .c (.int .i64 4))], []⟩, _, sub_gen [] rfl rfl ⟨zc rfl rfl, trivial⟩ trivial, resA1 (v := .c (.int .i64 4)) rfl rfl, rfl⟩
      refine SCode.cond_f rfl g84 ?_
      refine SCode.skip ?_
      exact ⟨(), h, sub_gen [0] rfl rfl ⟨zc rfl rfl, trivial⟩ ⟨⟨_, rfl, ⟨ii rfl rfl, ii rfl rfl, ii rfl rfl, ii rfl rfl, ii rfl rfl, ii rfl rfl, ii rfl rfl, ii rfl rfl, ii rfl rfl, ii rfl rfl, ii rfl rfl, trivial⟩⟩, trivial⟩⟩
    refine SCode.region (show SOps _ _ _ [0, 1, 2, 3, 4, 5, 6, 7, 8, 9, 10, 11, 12, 13, 14, 15, 16, 17, 18] _ _ from ?_)
    refine SOps.q rfl (.plain rfl) rfl (q_field_ptr rfl rfl fd31_2) ?_
    refine SOps.q rfl (.plain rfl) rfl (q_load_ptr rfl rfl rfl rfl ty3) ?_
    refine SOps.q rfl (.plain rfl) rfl (q_eql rfl rfl rfl) ?_
    refine SOps.q rfl (.plain rfl) rfl (q_move rfl rfl) ?_
    refine SOps.skip rfl 3 11 true rfl rfl (.inl (gF g77)) rfl ?_
    refine SOps.skip rfl 3 11 true rfl rfl (.inl (gF g77)) rfl ?_
    refine SOps.skip rfl 3 11 true rfl rfl (.inl (gF g77)) rfl ?_
    refine SOps.skip rfl 3 11 true rfl rfl (.inl (gF g77)) rfl ?_
    refine SOps.q rfl (.plain rfl) rfl (q_pick_f rfl rfl g77 rfl) ?_
    refine SOps.q rfl (.plain rfl) rfl (q_move rfl rfl) ?_
    refine SOps.q rfl (.guard 9 17 false rfl rfl rfl) rfl (q_field_ptr rfl rfl fd31_2) ?_
    refine SOps.q rfl (.guard 9 17 false rfl rfl rfl) rfl (q_load_ptr rfl rfl rfl rfl ty3) ?_
    refine SOps.q rfl (.guard 9 17 false rfl rfl rfl) rfl (q_neq rfl rfl rfl) ?_
    refine SOps.q rfl (.guard 9 17 false rfl rfl rfl) rfl (q_move rfl rfl) ?_
    refine SOps.skip rfl 13 21 true rfl rfl (.inl (gF g83)) rfl ?_
    refine SOps.skip rfl 13 21 true rfl rfl (.inl (gF g83)) rfl ?_
    refine SOps.skip rfl 13 21 true rfl rfl (.inl (gF g83)) rfl ?_
    refine SOps.q rfl (.guard 9 17 false rfl rfl rfl) rfl (q_pick_f rfl rfl g83 rfl) ?_
    refine SOps.q rfl (.plain rfl) rfl (q_pick_f rfl rfl rfl rfl) ?_
    refine SOps.sub (st' := ⟨[(1, .c (.ptr 0 0)), (26, .c (.bool false))], [.box [.int .i64 a0_p.ID, .int .i64 a0_p.Level, .int .i64 a0_p.Purpose, .int .i64 a0_p.Kind, .int .i64 a0_p.Conn, .str a0_p.Txn, .int .i64 a0_p.Span_From, .int .i64 a0_p.Span_To, .int .i64 a0_p.Start, .int .i64 a0_p.Duration, .vec a0_p.Periods.length 2 (gL cSPeriod dSPeriod a0_p.Periods)]]⟩) (sub_gen [0] rfl rfl ⟨zc rfl rfl, zc rfl rfl, trivial⟩ ⟨⟨_, rfl, ⟨ii rfl rfl, ii rfl rfl, ii rfl rfl, ii rfl rfl, ii rfl rfl, ii rfl rfl, ii rfl rfl, ii rfl rfl, ii rfl rfl, ii rfl rfl, ii rfl rfl, trivial⟩⟩, trivial⟩) ?_
    refine SOps.nil ?_
    refine SCode.cond_f rfl rfl ?_
    refine SCode.skip ?_
    exact ⟨(), h, sub_gen [0] rfl rfl ⟨zc rfl rfl, trivial⟩ ⟨⟨_, rfl, ⟨ii rfl rfl, ii rfl rfl, ii rfl rfl, ii rfl rfl, ii rfl rfl, ii rfl rfl, ii rfl rfl, ii rfl rfl, ii rfl rfl, ii rfl rfl, ii rfl rfl, trivial⟩⟩, trivial⟩⟩
  rintro ⟨⟩ h
  show SCode _ _ _ ⟨[(1, .c (.ptr 0 0))], [.box [.int .i64 a0_p.ID, .int .i64 a0_p.Level, .int .i64 a0_p.Purpose, .int .i64 a0_p.Kind, .int .i64 a0_p.Conn, .str a0_p.Txn, .int .i64 a0_p.Span_From, .int .i64 a0_p.Span_To, .int .i64 a0_p.Start, .int .i64 a0_p.Duration, .vec a0_p.Periods.length 2 (gL cSPeriod dSPeriod a0_p.Periods)]]⟩ _
  replace h : chargenetref15_Valid_p76 F a0_p = some r := h
  unfold chargenetref15_Valid_p76 at h
  refine SCode.join (σ := Unit) (S := fun s => ⟨[(1, .c (.ptr 0 0))], [.box [.int .i64 a0_p.ID, .int .i64 a0_p.Level, .int .i64 a0_p.Purpose, .int .i64 a0_p.Kind, .int .i64 a0_p.Conn, .str a0_p.Txn, .int .i64 a0_p.Span_From, .int .i64 a0_p.Span_To, .int .i64 a0_p.Start, .int .i64 a0_p.Duration, .vec a0_p.Periods.length 2 (gL cSPeriod dSPeriod a0_p.Periods)]]⟩) (g := fun s => chargenetref15_Valid_p69 F a0_p = some r) ?_ ?_
  rotate_left
  · refine SCode.seq ?_
    rcases cond_out h with ⟨g70, h⟩ | ⟨g70, h⟩
    · rcases cond_out h with ⟨g71, h⟩ | ⟨g71, h⟩
      · refine SCode.region (show SOps _ _ _ [0, 1, 2, 3, 4, 5, 6, 7, 8, 9, 10, 11, 12, 13, 14, 15, 16, 17] _ _ from ?_)
        refine SOps.q rfl (.plain rfl) rfl (q_field_ptr rfl rfl fd31_2) ?_
        refine SOps.q rfl (.plain rfl) rfl (q_load_ptr rfl rfl rfl rfl ty3) ?_
        refine SOps.q rfl (.plain rfl) rfl (q_eql rfl rfl rfl) ?_
        refine SOps.q rfl (.plain rfl) rfl (q_move rfl rfl) ?_
        refine SOps.q rfl (.guard 3 30 true rfl rfl (gT g70)) rfl (q_field_ptr rfl rfl fd31_4) ?_
        refine SOps.q rfl (.guard 3 30 true rfl rfl (gT g70)) rfl (q_load_ptr rfl rfl rfl rfl ty3) ?_
        refine SOps.q rfl (.guard 3 30 true rfl rfl (gT g70)) rfl (q_eql rfl rfl rfl) ?_
        refine SOps.q rfl (.plain rfl) rfl (q_pick_t rfl rfl g70 rfl) ?_
        refine SOps.q rfl (.plain rfl) rfl (q_move rfl rfl) ?_
        refine SOps.skip rfl 8 35 false rfl rfl (.inl (gT g71)) rfl ?_
        refine SOps.skip rfl 8 35 false rfl rfl (.inl (gT g71)) rfl ?_
        refine SOps.skip rfl 8 35 false rfl rfl (.inl (gT g71)) rfl ?_
        refine SOps.skip rfl 8 35 false rfl rfl (.inl (gT g71)) rfl ?_
        refine SOps.skip rfl 12 39 true rfl rfl (.inr rfl) rfl ?_
        refine SOps.skip rfl 12 39 true rfl rfl (.inr rfl) rfl ?_
        refine SOps.skip rfl 12 39 true rfl rfl (.inr rfl) rfl ?_
        refine SOps.skip rfl 8 35 false rfl rfl (.inl (gT g71)) rfl ?_
        refine SOps.q rfl (.plain rfl) rfl (q_pick_t rfl rfl g71 rfl) ?_
        refine SOps.sub (st' := ⟨[(1, .c (.ptr 0 0)), (44, .c (.bool true))], [.box [.int .i64 a0_p.ID, .int .i64 a0_p.Level, .int .i64 a0_p.Purpose, .int .i64 a0_p.Kind, .int .i64 a0_p.Conn, .str a0_p.Txn, .int .i64 a0_p.Span_From, .int .i64 a0_p.Span_To, .int .i64 a0_p.Start, .int .i64 a0_p.Duration, .vec a0_p.Periods.length 2 (gL cSPeriod dSPeriod a0_p.Periods)]]⟩) (sub_gen [0] rfl rfl ⟨zc rfl rfl, zc rfl rfl, trivial⟩ ⟨⟨_, rfl, ⟨ii rfl rfl, ii rfl rfl, ii rfl rfl, ii rfl rfl, ii rfl rfl, ii rfl rfl, ii rfl rfl, ii rfl rfl, ii rfl rfl, ii rfl rfl, ii rfl rfl, trivial⟩⟩, trivial⟩) ?_
        refine SOps.nil ?_
        refine SCode.cond_t rfl rfl ?_
        refine SCode.seq ?_
        refine SCode.region (show SOps _ _ _ [0] _ _ from ?_)
        refine SOps.q rfl (.plain rfl) rfl (q_assign rfl rfl) ?_
        refine SOps.sub (st' := ⟨[(2, .c (.int .i64 1))], []⟩) (sub_gen [] rfl rfl ⟨zc rfl rfl, trivial⟩ trivial) ?_
        refine SOps.nil ?_
        refine SCode.ret ?_
        obtain rfl := Option.some.inj h
        exact ⟨⟨[(2, .c (.int .i64 1))], []⟩, _, sub_gen [] rfl rfl ⟨zc rfl rfl, trivial⟩ trivial, resA1 (v := .c (.int .i64 1)) rfl rfl, rfl⟩
      rcases cond_out h with ⟨g72, h⟩ | ⟨g72, h⟩
      · refine SCode.region (show SOps _ _ _ [0, 1, 2, 3, 4, 5, 6, 7, 8, 9, 10, 11, 12, 13, 14, 15, 16, 17] _ _ from ?_)
        refine SOps.q rfl (.plain rfl) rfl (q_field_ptr rfl rfl fd31_2) ?_
        refine SOps.q rfl (.plain rfl) rfl (q_load_ptr rfl rfl rfl rfl ty3) ?_
        refine SOps.q rfl (.plain rfl) rfl (q_eql rfl rfl rfl) ?_
        refine SOps.q rfl (.plain rfl) rfl (q_move rfl rfl) ?_
        refine SOps.q rfl (.guard 3 30 true rfl rfl (gT g70)) rfl (q_field_ptr rfl rfl fd31_4) ?_
        refine SOps.q rfl (.guard 3 30 true rfl rfl (gT g70)) rfl (q_load_ptr rfl rfl rfl rfl ty3) ?_
        refine SOps.q rfl (.guard 3 30 true rfl rfl (gT g70)) rfl (q_eql rfl rfl rfl) ?_
        refine SOps.q rfl (.plain rfl) rfl (q_pick_t rfl rfl g70 rfl) ?_
        refine SOps.q rfl (.plain rfl) rfl (q_move rfl rfl) ?_
        refine SOps.q rfl (.guard 8 35 false rfl rfl (gF g71)) rfl (q_field_ptr rfl rfl fd31_2) ?_
        refine SOps.q rfl (.guard 8 35 false rfl rfl (gF g71)) rfl (q_load_ptr rfl rfl rfl rfl ty3) ?_
        refine SOps.q rfl (.guard 8 35 false rfl rfl (gF g71)) rfl (q_eql rfl rfl rfl) ?_
        refine SOps.q rfl (.guard 8 35 false rfl rfl (gF g71)) rfl (q_move rfl rfl) ?_
        refine SOps.q rfl (.guard 12 39 true rfl rfl (gT g72)) rfl (q_field_ptr rfl rfl fd31_3) ?_
        refine SOps.q rfl (.guard 12 39 true rfl rfl (gT g72)) rfl (q_load_ptr rfl rfl rfl rfl ty3) ?_
        refine SOps.q rfl (.guard 12 39 true rfl rfl (gT g72)) rfl (q_eql rfl rfl rfl) ?_
        refine SOps.q rfl (.guard 8 35 false rfl rfl (gF g71)) rfl (q_pick_t rfl rfl g72 rfl) ?_
        refine SOps.q rfl (.plain rfl) rfl (q_pick_f rfl rfl g71 rfl) ?_
        refine SOps.sub (st' := ⟨[(1, .c (.ptr 0 0)), (44, .c (.bool (decide (a0_p.Kind = 4))))], [.box [.int .i64 a0_p.ID, .int .i64 a0_p.Level, .int .i64 a0_p.Purpose, .int .i64 a0_p.Kind, .int .i64 a0_p.Conn, .str a0_p.Txn, .int .i64 a0_p.Span_From, .int .i64 a0_p.Span_To, .int .i64 a0_p.Start, .int .i64 a0_p.Duration, .vec a0_p.Periods.length 2 (gL cSPeriod dSPeriod a0_p.Periods)]]⟩) (sub_gen [0] rfl rfl ⟨zc rfl rfl, zc rfl rfl, trivial⟩ ⟨⟨_, rfl, ⟨ii rfl rfl, ii rfl rfl, ii rfl rfl, ii rfl rfl, ii rfl rfl, ii rfl rfl, ii rfl rfl, ii rfl rfl, ii rfl rfl, ii rfl rfl, ii rfl rfl, trivial⟩⟩, trivial⟩) ?_
        refine SOps.nil ?_
        rcases cond_out h with ⟨g73, h⟩ | ⟨g73, h⟩
        · refine SCode.cond_t rfl g73 ?_
          refine SCode.seq ?_
          refine SCode.region (show SOps _ _ _ [0] _ _ from ?_)
          refine SOps.q rfl (.plain rfl) rfl (q_assign rfl rfl) ?_
          refine SOps.sub (st' := ⟨[(2, .c (.int .i64 1))], []⟩) (sub_gen [] rfl rfl ⟨zc rfl rfl, trivial⟩ trivial) ?_
          refine SOps.nil ?_
          refine SCode.ret ?_
          obtain rfl := Option.some.inj h
          exact ⟨⟨[(2, .c (.int .i64 1))], []⟩, _, sub_gen [] rfl rfl ⟨zc rfl rfl, trivial⟩ trivial, resA1 (v := .c (.int .i64 1)) rfl rfl, rfl⟩
        refine SCode.cond_f rfl g73 ?_
        refine SCode.skip ?_
        exact ⟨(), h, sub_gen [0] rfl rfl ⟨zc rfl rfl, trivial⟩ ⟨⟨_, rfl, ⟨ii rfl rfl, ii rfl rfl, ii rfl rfl, ii rfl rfl, ii rfl rfl, ii rfl rfl, ii rfl rfl, ii rfl rfl, ii rfl rfl, ii rfl rfl, ii rfl rfl, trivial⟩⟩, trivial⟩⟩
      refine SCode.region (show SOps _ _ _ [0, 1, 2, 3, 4, 5, 6, 7, 8, 9, 10, 11, 12, 13, 14, 15, 16, 17] _ _ from ?_)
      refine SOps.q rfl (.plain rfl) rfl (q_field_ptr rfl rfl fd31_2) ?_
      refine SOps.q rfl (.plain rfl) rfl (q_load_ptr rfl rfl rfl rfl ty3) ?_
      refine SOps.q rfl (.plain rfl) rfl (q_eql rfl rfl rfl) ?_
      refine SOps.q rfl (.plain rfl) rfl (q_move rfl rfl) ?_
      refine SOps.q rfl (.guard 3 30 true rfl rfl (gT g70)) rfl (q_field_ptr rfl rfl fd31_4) ?_
      refine SOps.q rfl (.guard 3 30 true rfl rfl (gT g70)) rfl (q_load_ptr rfl rfl rfl rfl ty3) ?_
      refine SOps.q rfl (.guard 3 30 true rfl rfl (gT g70)) rfl (q_eql rfl rfl rfl) ?_
      refine SOps.q rfl (.plain rfl) rfl (q_pick_t rfl rfl g70 rfl) ?_
      refine SOps.q rfl (.plain rfl) rfl (q_move rfl rfl) ?_
      refine SOps.q rfl (.guard 8 35 false rfl rfl (gF g71)) rfl (q_field_ptr rfl rfl fd31_2) ?_
      refine SOps.q rfl (.guard 8 35 false rfl rfl (gF g71)) rfl (q_load_ptr rfl rfl rfl rfl ty3) ?_
      refine SOps.q rfl (.guard 8 35 false rfl rfl (gF g71)) rfl (q_eql rfl rfl rfl) ?_
      refine SOps.q rfl (.guard 8 35 false rfl rfl (gF g71)) rfl (q_move rfl rfl) ?_
      refine SOps.skip rfl 12 39 true rfl rfl (.inl (gF g72)) rfl ?_
      refine SOps.skip rfl 12 39 true rfl rfl (.inl (gF g72)) rfl ?_
      refine SOps.skip rfl 12 39 true rfl rfl (.inl (gF g72)) rfl ?_
      refine SOps.q rfl (.guard 8 35 false rfl rfl (gF g71)) rfl (q_pick_f rfl rfl g72 rfl) ?_
      refine SOps.q rfl (.plain rfl) rfl (q_pick_f rfl rfl g71 rfl) ?_
      refine SOps.sub (st' := ⟨[(1, .c (.ptr 0 0)), (44, .c (.bool false))], [.box [.int .i64 a0_p.ID, .int .i64 a0_p.Level, .int .i64 a0_p.Purpose, .int .i64 a0_p.Kind, .int .i64 a0_p.Conn, .str a0_p.Txn, .int .i64 a0_p.Span_From, .int .i64 a0_p.Span_To, .int .i64 a0_p.Start, .int .i64 a0_p.Duration, .vec a0_p.Periods.length 2 (gL cSPeriod dSPeriod a0_p.Periods)]]⟩) (sub_gen [0] rfl rfl ⟨zc rfl rfl, zc rfl rfl, trivial⟩ ⟨⟨_, rfl, ⟨ii rfl rfl, ii rfl rfl, ii rfl rfl, ii rfl rfl, ii rfl rfl, ii rfl rfl, ii rfl rfl, ii rfl rfl, ii rfl rfl, ii rfl rfl, ii rfl rfl, trivial⟩⟩, trivial⟩) ?_
      refine SOps.nil ?_
      refine SCode.cond_f rfl rfl ?_
      refine SCode.skip ?_
      exact ⟨(), h, sub_gen [0] rfl rfl ⟨zc rfl rfl, trivial⟩ ⟨⟨_, rfl, ⟨ii rfl rfl, ii rfl rfl, ii rfl rfl, ii rfl rfl, ii rfl rfl, ii rfl rfl, ii rfl rfl, ii rfl rfl, ii rfl rfl, ii rfl rfl, ii rfl rfl, trivial⟩⟩, trivial⟩⟩
    rcases cond_out h with ⟨g74, h⟩ | ⟨g74, h⟩
    · refine SCode.region (show SOps _ _ _ [0, 1, 2, 3, 4, 5, 6, 7, 8, 9, 10, 11, 12, 13, 14, 15, 16, 17] _ _ from ?_)
      refine SOps.q rfl (.plain rfl) rfl (q_field_ptr rfl rfl fd31_2) ?_
      refine SOps.q rfl (.plain rfl) rfl (q_load_ptr rfl rfl rfl rfl ty3) ?_
      refine SOps.q rfl (.plain rfl) rfl (q_eql rfl rfl rfl) ?_
      refine SOps.q rfl (.plain rfl) rfl (q_move rfl rfl) ?_
      refine SOps.skip rfl 3 30 true rfl rfl (.inl (gF g70)) rfl ?_
      refine SOps.skip rfl 3 30 true rfl rfl (.inl (gF g70)) rfl ?_
      refine SOps.skip rfl 3 30 true rfl rfl (.inl (gF g70)) rfl ?_
      refine SOps.q rfl (.plain rfl) rfl (q_pick_f rfl rfl g70 rfl) ?_
      refine SOps.q rfl (.plain rfl) rfl (q_move rfl rfl) ?_
      refine SOps.q rfl (.guard 8 35 false rfl rfl rfl) rfl (q_field_ptr rfl rfl fd31_2) ?_
      refine SOps.q rfl (.guard 8 35 false rfl rfl rfl) rfl (q_load_ptr rfl rfl rfl rfl ty3) ?_
      refine SOps.q rfl (.guard 8 35 false rfl rfl rfl) rfl (q_eql rfl rfl rfl) ?_
      refine SOps.q rfl (.guard 8 35 false rfl rfl rfl) rfl (q_move rfl rfl) ?_
      refine SOps.q rfl (.guard 12 39 true rfl rfl (gT g74)) rfl (q_field_ptr rfl rfl fd31_3) ?_
      refine SOps.q rfl (.guard 12 39 true rfl rfl (gT g74)) rfl (q_load_ptr rfl rfl rfl rfl ty3) ?_
      refine SOps.q rfl (.guard 12 39 true rfl rfl (gT g74)) rfl (q_eql rfl rfl rfl) ?_
      refine SOps.q rfl (.guard 8 35 false rfl rfl rfl) rfl (q_pick_t rfl rfl g74 rfl) ?_
      refine SOps.q rfl (.plain rfl) rfl (q_pick_f rfl rfl rfl rfl) ?_
      refine SOps.sub (st' := ⟨[(1, .c (.ptr 0 0)), (44, .c (.bool (decide (a0_p.Kind = 4))))], [.box [.int .i64 a0_p.ID, .int .i64 a0_p.Level, .int .i64 a0_p.Purpose, .int .i64 a0_p.Kind, .int .i64 a0_p.Conn, .str a0_p.Txn, .int .i64 a0_p.Span_From, .int .i64 a0_p.Span_To, .int .i64 a0_p.Start, .int .i64 a0_p.Duration, .vec a0_p.Periods.length 2 (gL cSPeriod dSPeriod a0_p.Periods)]]⟩) (sub_gen [0] rfl rfl ⟨zc rfl rfl, zc rfl rfl, trivial⟩ ⟨⟨_, rfl, ⟨ii rfl rfl, ii rfl rfl, ii rfl rfl, ii rfl rfl, ii rfl rfl, ii rfl rfl, ii rfl rfl, ii rfl rfl, ii rfl rfl, ii rfl rfl, ii rfl rfl, trivial⟩⟩, trivial⟩) ?_
      refine SOps.nil ?_
      rcases cond_out h with ⟨g75, h⟩ | ⟨g75, h⟩
      · refine SCode.cond_t rfl g75 ?_
        refine SCode.seq ?_
        refine SCode.region (show SOps _ _ _ [0] _ _ from ?_)
        refine SOps.q rfl (.plain rfl) rfl (q_assign rfl rfl) ?_
        refine SOps.sub (st' := ⟨[(2, .c (.int .i64 1))], []⟩) (sub_gen [] rfl rfl ⟨zc rfl rfl, trivial⟩ trivial) ?_
        refine SOps.nil ?_
        refine SCode.ret ?_
        obtain rfl := Option.some.inj h
        exact ⟨⟨[(2, .c (.int .i64 1))], []⟩, _, sub_gen [] rfl rfl ⟨zc rfl rfl, trivial⟩ trivial, resA1 (v := .c (.int .i64 1)) rfl rfl, rfl⟩
      refine SCode.cond_f rfl g75 ?_
      refine SCode.skip ?_
      exact ⟨(), h, sub_gen [0] rfl rfl ⟨zc rfl rfl, trivial⟩ ⟨⟨_, rfl, ⟨ii rfl rfl, ii rfl rfl, ii rfl rfl, ii rfl rfl, ii rfl rfl, ii rfl rfl, ii rfl rfl, ii rfl rfl, ii rfl rfl, ii rfl rfl, ii rfl rfl, trivial⟩⟩, trivial⟩⟩
    refine SCode.region (show SOps _ _ _ [0, 1, 2, 3, 4, 5, 6, 7, 8, 9, 10, 11, 12, 13, 14, 15, 16, 17] _ _ from ?_)
    refine SOps.q rfl (.plain rfl) rfl (q_field_ptr rfl rfl fd31_2) ?_
    refine SOps.q rfl (.plain rfl) rfl (q_load_ptr rfl rfl rfl rfl ty3) ?_
    refine SOps.q rfl (.plain rfl) rfl (q_eql rfl rfl rfl) ?_
    refine SOps.q rfl (.plain rfl) rfl (q_move rfl rfl) ?_
    refine SOps.skip rfl 3 30 true rfl rfl (.inl (gF g70)) rfl ?_
    refine SOps.skip rfl 3 30 true rfl rfl (.inl (gF g70)) rfl ?_
    refine SOps.skip rfl 3 30 true rfl rfl (.inl (gF g70)) rfl ?_
    refine SOps.q rfl (.plain rfl) rfl (q_pick_f rfl rfl g70 rfl) ?_
    refine SOps.q rfl (.plain rfl) rfl (q_move rfl rfl) ?_
    refine SOps.q rfl (.guard 8 35 false rfl rfl rfl) rfl (q_field_ptr rfl rfl fd31_2) ?_
    refine SOps.q rfl (.guard 8 35 false rfl rfl rfl) rfl (q_load_ptr rfl rfl rfl rfl ty3) ?_
    refine SOps.q rfl (.guard 8 35 false rfl rfl rfl) rfl (q_eql rfl rfl rfl) ?_
    refine SOps.q rfl (.guard 8 35 false rfl rfl rfl) rfl (q_move rfl rfl) ?_
    refine SOps.skip rfl 12 39 true rfl rfl (.inl (gF g74)) rfl ?_
    refine SOps.skip rfl 12 39 true rfl rfl (.inl (gF g74)) rfl ?_
    refine SOps.skip rfl 12 39 true rfl rfl (.inl (gF g74)) rfl ?_
    refine SOps.q rfl (.guard 8 35 false rfl rfl rfl) rfl (q_pick_f rfl rfl g74 rfl) ?_
    refine SOps.q rfl (.plain rfl) rfl (q_pick_f rfl rfl rfl rfl) ?_
    refine SOps.sub (st' := ⟨[(1, .c (.ptr 0 0)), (44, .c (.bool false))], [.box [.int .i64 a0_p.ID, .int .i64 a0_p.Level, .int .i64 a0_p.Purpose, .int .i64 a0_p.Kind, .int .i64 a0_p.Conn, .str a0_p.Txn, .int .i64 a0_p.Span_From, .int .i64 a0_p.Span_To, .int .i64 a0_p.Start, .int .i64 a0_p.Duration, .vec a0_p.Periods.length 2 (gL cSPeriod dSPeriod a0_p.Periods)]]⟩) (sub_gen [0] rfl rfl ⟨zc rfl rfl, zc rfl rfl, trivial⟩ ⟨⟨_, rfl, ⟨ii rfl rfl, ii rfl rfl, ii rfl rfl, ii rfl rfl, ii rfl rfl, ii rfl rfl, ii rfl rfl, ii rfl rfl, ii rfl rfl, ii rfl rfl, ii rfl rfl, trivial⟩⟩, trivial⟩) ?_
    refine SOps.nil ?_
    refine SCode.cond_f rfl rfl ?_
    refine SCode.skip ?_
    exact ⟨(), h, sub_gen [0] rfl rfl ⟨zc rfl rfl, trivial⟩ ⟨⟨_, rfl, ⟨ii rfl rfl, ii rfl rfl, ii rfl rfl, ii rfl rfl, ii rfl rfl, ii rfl rfl, ii rfl rfl, ii rfl rfl, ii rfl rfl, ii rfl rfl, ii rfl rfl, trivial⟩⟩, trivial⟩⟩
  rintro ⟨⟩ h
  show SCode _ _ _ ⟨[(1, .c (.ptr 0 0))], [.box [.int .i64 a0_p.ID, .int .i64 a0_p.Level, .int .i64 a0_p.Purpose, .int .i64 a0_p.Kind, .int .i64 a0_p.Conn, .str a0_p.Txn, .int .i64 a0_p.Span_From, .int .i64 a0_p.Span_To, .int .i64 a0_p.Start, .int .i64 a0_p.Duration, .vec a0_p.Periods.length 2 (gL cSPeriod dSPeriod a0_p.Periods)]]⟩ _
  replace h : chargenetref15_Valid_p69 F a0_p = some r := h
  unfold chargenetref15_Valid_p69 at h
  refine SCode.seq ?_
  refine SCode.seq ?_
  obtain ⟨c_4, g5, h⟩ := bind_out h
  try dsimp only at h
  refine SCode.region (show SOps _ _ _ [0, 1, 2] _ _ from ?_)
  refine SOps.q rfl (.plain rfl) rfl (q_load_ptr_all rfl rfl rfl rfl rfl ty31) ?_
  refine SOps.q rfl (.plain rfl) rfl (q_call (chargenetref15_times_ok F a0_p c_4 g5) [] rfl fn29 ⟨⟨rfl, rfl⟩, trivial⟩ (.inl rfl)) ?_
  refine SOps.q rfl (.plain rfl) rfl (q_not rfl rfl) ?_
  refine SOps.sub (st' := ⟨[(1, .c (.ptr 0 0)), (47, .c (.bool ((!c_4))))], [.box [.int .i64 a0_p.ID, .int .i64 a0_p.Level, .int .i64 a0_p.Purpose, .int .i64 a0_p.Kind, .int .i64 a0_p.Conn, .str a0_p.Txn, .int .i64 a0_p.Span_From, .int .i64 a0_p.Span_To, .int .i64 a0_p.Start, .int .i64 a0_p.Duration, .vec a0_p.Periods.length 2 (gL cSPeriod dSPeriod a0_p.Periods)]]⟩) (sub_gen [0] rfl rfl ⟨zc rfl rfl, zc rfl rfl, trivial⟩ ⟨⟨_, rfl, ⟨ii rfl rfl, ii rfl rfl, ii rfl rfl, ii rfl rfl, ii rfl rfl, ii rfl rfl, ii rfl rfl, ii rfl rfl, ii rfl rfl, ii rfl rfl, ii rfl rfl, trivial⟩⟩, trivial⟩) ?_
  refine SOps.nil ?_
  rcases cond_out h with ⟨g6, h⟩ | ⟨g6, h⟩
  · refine SCode.cond_t rfl g6 ?_
    refine SCode.seq ?_
    refine SCode.region (show SOps _ _ _ [0] _ _ from ?_)
    refine SOps.q rfl (.plain rfl) rfl (q_assign rfl rfl) ?_
    refine SOps.sub (st' := ⟨[(2, .c (.int .i64 2))], []⟩) (sub_gen [] rfl rfl ⟨zc rfl rfl, trivial⟩ trivial) ?_
    refine SOps.nil ?_
    refine SCode.ret ?_
    obtain rfl := Option.some.inj h
    exact ⟨⟨[(2, .c (.int .i64 2))], []⟩, _, sub_gen [] rfl rfl ⟨zc rfl rfl, trivial⟩ trivial, resA1 (v := .c (.int .i64 2)) rfl rfl, rfl⟩
  refine SCode.cond_f rfl g6 ?_
  refine SCode.skip ?_
  refine SCode.seq ?_
  refine SCode.seq ?_
  refine SCode.region (show SOps _ _ _ [0, 1, 2, 3] _ _ from ?_)
  refine SOps.q rfl (.plain rfl) rfl (q_field_ptr rfl rfl fd31_9) ?_
  refine SOps.q rfl (.plain rfl) rfl (q_load_ptr rfl rfl rfl rfl ty29) ?_
  refine SOps.q rfl (.plain rfl) rfl (q_len_vec rfl rfl sl29) ?_
  refine SOps.q rfl (.plain rfl) rfl (q_gtr rfl rfl rfl) ?_
  refine SOps.sub (st' := ⟨[(1, .c (.ptr 0 0)), (51, .c (.bool (decide (24 < ((a0_p.Periods).length : Int)))))], [.box [.int .i64 a0_p.ID, .int .i64 a0_p.Level, .int .i64 a0_p.Purpose, .int .i64 a0_p.Kind, .int .i64 a0_p.Conn, .str a0_p.Txn, .int .i64 a0_p.Span_From, .int .i64 a0_p.Span_To, .int .i64 a0_p.Start, .int .i64 a0_p.Duration, .vec a0_p.Periods.length 2 (gL cSPeriod dSPeriod a0_p.Periods)]]⟩) (sub_gen [0] rfl rfl ⟨zc rfl rfl, zc rfl rfl, trivial⟩ ⟨⟨_, rfl, ⟨ii rfl rfl, ii rfl rfl, ii rfl rfl, ii rfl rfl, ii rfl rfl, ii rfl rfl, ii rfl rfl, ii rfl rfl, ii rfl rfl, ii rfl rfl, ii rfl rfl, trivial⟩⟩, trivial⟩) ?_
  refine SOps.nil ?_
  rcases cond_out h with ⟨g7, h⟩ | ⟨g7, h⟩
  · refine SCode.cond_t rfl g7 ?_
    refine SCode.seq ?_
    refine SCode.region (show SOps _ _ _ [0] _ _ from ?_)
    refine SOps.q rfl (.plain rfl) rfl (q_assign rfl rfl) ?_
    refine SOps.sub (st' := ⟨[(2, .c (.int .i64 3))], []⟩) (sub_gen [] rfl rfl ⟨zc rfl rfl, trivial⟩ trivial) ?_
    refine SOps.nil ?_
    refine SCode.ret ?_
    obtain rfl := Option.some.inj h
    exact ⟨⟨[(2, .c (.int .i64 3))], []⟩, _, sub_gen [] rfl rfl ⟨zc rfl rfl, trivial⟩ trivial, resA1 (v := .c (.int .i64 3)) rfl rfl, rfl⟩
  refine SCode.cond_f rfl g7 ?_
  refine SCode.skip ?_
  refine SCode.seq ?_
  refine SCode.seq ?_
  refine SCode.region (show SOps _ _ _ [0, 1, 2, 3] _ _ from ?_)
  refine SOps.q rfl (.plain rfl) rfl (q_field_ptr rfl rfl fd31_9) ?_
  refine SOps.q rfl (.plain rfl) rfl (q_load_ptr rfl rfl rfl rfl ty29) ?_
  refine SOps.q rfl (.plain rfl) rfl (q_len_vec rfl rfl sl29) ?_
  refine SOps.q rfl (.plain rfl) rfl (q_eql rfl rfl rfl) ?_
  refine SOps.sub (st' := ⟨[(1, .c (.ptr 0 0)), (55, .c (.bool (decide (((a0_p.Periods).length : Int) = 0))))], [.box [.int .i64 a0_p.ID, .int .i64 a0_p.Level, .int .i64 a0_p.Purpose, .int .i64 a0_p.Kind, .int .i64 a0_p.Conn, .str a0_p.Txn, .int .i64 a0_p.Span_From, .int .i64 a0_p.Span_To, .int .i64 a0_p.Start, .int .i64 a0_p.Duration, .vec a0_p.Periods.length 2 (gL cSPeriod dSPeriod a0_p.Periods)]]⟩) (sub_gen [0] rfl rfl ⟨zc rfl rfl, zc rfl rfl, trivial⟩ ⟨⟨_, rfl, ⟨ii rfl rfl, ii rfl rfl, ii rfl rfl, ii rfl rfl, ii rfl rfl, ii rfl rfl, ii rfl rfl, ii rfl rfl, ii rfl rfl, ii rfl rfl, ii rfl rfl, trivial⟩⟩, trivial⟩) ?_
  refine SOps.nil ?_
  rcases cond_out h with ⟨g8, h⟩ | ⟨g8, h⟩
  · refine SCode.cond_t rfl g8 ?_
    refine SCode.seq ?_
    refine SCode.region (show SOps _ _ _ [0] _ _ from ?_)
    refine SOps.q rfl (.plain rfl) rfl (q_assign rfl rfl) ?_
    refine SOps.sub (st' := ⟨[(2, .c (.int .i64 1))], []⟩) (sub_gen [] rfl rfl ⟨zc rfl rfl, trivial⟩ trivial) ?_
    refine SOps.nil ?_
    refine SCode.ret ?_
    obtain rfl := Option.some.inj h
    exact ⟨⟨[(2, .c (.int .i64 1))], []⟩, _, sub_gen [] rfl rfl ⟨zc rfl rfl, trivial⟩ trivial, resA1 (v := .c (.int .i64 1)) rfl rfl, rfl⟩
  refine SCode.cond_f rfl g8 ?_
  refine SCode.skip ?_
  refine SCode.join (σ := Unit) (S := fun s => ⟨[], []⟩) (g := fun s => chargenetref15_Valid_p9 = some r) ?_ ?_
  rotate_left
  · refine SCode.seq ?_
    refine SCode.region (show SOps _ _ _ [0] _ _ from ?_)
    refine SOps.q rfl (.plain rfl) rfl (q_assign rfl rfl) ?_
    refine SOps.sub (st' := ⟨[(1, .c (.ptr 0 0)), (3, .c (.int .i64 0))], [.box [.int .i64 a0_p.ID, .int .i64 a0_p.Level, .int .i64 a0_p.Purpose, .int .i64 a0_p.Kind, .int .i64 a0_p.Conn, .str a0_p.Txn, .int .i64 a0_p.Span_From, .int .i64 a0_p.Span_To, .int .i64 a0_p.Start, .int .i64 a0_p.Duration, .vec a0_p.Periods.length 2 (gL cSPeriod dSPeriod a0_p.Periods)]]⟩) (sub_gen [0] rfl rfl ⟨zc rfl rfl, zc rfl rfl, trivial⟩ ⟨⟨_, rfl, ⟨ii rfl rfl, ii rfl rfl, ii rfl rfl, ii rfl rfl, ii rfl rfl, ii rfl rfl, ii rfl rfl, ii rfl rfl, ii rfl rfl, ii rfl rfl, ii rfl rfl, trivial⟩⟩, trivial⟩) ?_
    refine SOps.nil ?_
    refine SCode.block ?_
    refine SCode.sub (st' := ⟨[(1, .c (.ptr 0 0)), (3, .c (.int .i64 0))], [.box [.int .i64 a0_p.ID, .int .i64 a0_p.Level, .int .i64 a0_p.Purpose, .int .i64 a0_p.Kind, .int .i64 a0_p.Conn, .str a0_p.Txn, .int .i64 a0_p.Span_From, .int .i64 a0_p.Span_To, .int .i64 a0_p.Start, .int .i64 a0_p.Duration, .vec a0_p.Periods.length 2 (gL cSPeriod dSPeriod a0_p.Periods)]]⟩) (sub_gen [0] rfl rfl ⟨zc rfl rfl, zc rfl rfl, trivial⟩ ⟨⟨_, rfl, ⟨ii rfl rfl, ii rfl rfl, ii rfl rfl, ii rfl rfl, ii rfl rfl, ii rfl rfl, ii rfl rfl, ii rfl rfl, ii rfl rfl, ii rfl rfl, ii rfl rfl, trivial⟩⟩, trivial⟩) ?_
    refine (SCode.loop (σ := Nat × Int) (S := fun s => ⟨[(1, .c (.ptr 0 0)), (3, .c (.int .i64 s.2))], [.box [.int .i64 a0_p.ID, .int .i64 a0_p.Level, .int .i64 a0_p.Purpose, .int .i64 a0_p.Kind, .int .i64 a0_p.Conn, .str a0_p.Txn, .int .i64 a0_p.Span_From, .int .i64 a0_p.Span_To, .int .i64 a0_p.Start, .int .i64 a0_p.Duration, .vec a0_p.Periods.length 2 (gL cSPeriod dSPeriod a0_p.Periods)]]⟩) (g := fun s => chargenetref15_Valid_l49 F a0_p s.1 s.2 = some r) (μ := fun s => s.1) (F, 0) h ?_)
    rintro ⟨n_49, i_29⟩ h
    replace h : chargenetref15_Valid_l49 F a0_p n_49 i_29 = some r := h
    show SCode _ _ _ ⟨[(1, .c (.ptr 0 0)), (3, .c (.int .i64 i_29))], [.box [.int .i64 a0_p.ID, .int .i64 a0_p.Level, .int .i64 a0_p.Purpose, .int .i64 a0_p.Kind, .int .i64 a0_p.Conn, .str a0_p.Txn, .int .i64 a0_p.Span_From, .int .i64 a0_p.Span_To, .int .i64 a0_p.Start, .int .i64 a0_p.Duration, .vec a0_p.Periods.length 2 (gL cSPeriod dSPeriod a0_p.Periods)]]⟩ _
    cases n_49 with
    | zero => cases h
    | succ n_49 =>
      replace h : chargenetref15_Valid_b49 F a0_p (fun i_29 => chargenetref15_Valid_l49 F a0_p n_49 i_29) i_29 = some r := h
      unfold chargenetref15_Valid_b49 at h
      refine SCode.seq ?_
      refine SCode.seq ?_
      refine SCode.region (show SOps _ _ _ [0, 1, 2, 3, 4] _ _ from ?_)
      refine SOps.q rfl (.plain rfl) rfl (q_move rfl rfl) ?_
      refine SOps.q rfl (.plain rfl) rfl (q_field_ptr rfl rfl fd31_9) ?_
      refine SOps.q rfl (.plain rfl) rfl (q_load_ptr rfl rfl rfl rfl ty29) ?_
      refine SOps.q rfl (.plain rfl) rfl (q_len_vec rfl rfl sl29) ?_
      refine SOps.q rfl (.plain rfl) rfl (q_lss rfl rfl rfl) ?_
      refine SOps.sub (st' := ⟨[(1, .c (.ptr 0 0)), (3, .c (.int .i64 i_29)), (60, .c (.bool (decide (i_29 < ((a0_p.Periods).length : Int)))))], [.box [.int .i64 a0_p.ID, .int .i64 a0_p.Level, .int .i64 a0_p.Purpose, .int .i64 a0_p.Kind, .int .i64 a0_p.Conn, .str a0_p.Txn, .int .i64 a0_p.Span_From, .int .i64 a0_p.Span_To, .int .i64 a0_p.Start, .int .i64 a0_p.Duration, .vec a0_p.Periods.length 2 (gL cSPeriod dSPeriod a0_p.Periods)]]⟩) (sub_gen [0] rfl rfl ⟨zc rfl rfl, zc rfl rfl, zc rfl rfl, trivial⟩ ⟨⟨_, rfl, ⟨ii rfl rfl, ii rfl rfl, ii rfl rfl, ii rfl rfl, ii rfl rfl, ii rfl rfl, ii rfl rfl, ii rfl rfl, ii rfl rfl, ii rfl rfl, ii rfl rfl, trivial⟩⟩, trivial⟩) ?_
      refine SOps.nil ?_
      rcases cond_out h with ⟨g50, h⟩ | ⟨g50, h⟩
      · refine SCode.cond_t rfl g50 ?_
        refine SCode.skip ?_
        refine SCode.seq ?_
        refine SCode.block ?_
        refine SCode.seq ?_
        obtain ⟨g51, h⟩ := guard_out h
        refine SCode.region (show SOps _ _ _ [0, 1, 2, 3, 4, 5, 6] _ _ from ?_)
        refine SOps.q rfl (.plain rfl) rfl (q_field_ptr rfl rfl fd31_9) ?_
        refine SOps.q rfl (.plain rfl) rfl (q_load_ptr rfl rfl rfl rfl ty29) ?_
        refine SOps.q rfl (.plain rfl) rfl (q_move rfl rfl) ?_
        refine SOps.q rfl (.plain rfl) rfl (q_index_vec rfl rfl rfl sl29 rfl g51.1 g51.2) ?_
        refine SOps.q rfl (.plain rfl) rfl (q_load_eptr_all rfl rfl rfl ty38) ?_
        refine SOps.e rfl (.plain rfl) (e_alloc rfl rfl rfl z38) ?_
        refine SOps.e rfl (.plain rfl) (e_store_box rfl rfl rfl rfl rfl ty38 rfl rfl rfl rfl) ?_
        refine SOps.sub (st' := ⟨[(1, .c (.ptr 0 0)), (3, .c (.int .i64 i_29)), (4, .c (.ptr 1 0))], [.box [.int .i64 a0_p.ID, .int .i64 a0_p.Level, .int .i64 a0_p.Purpose, .int .i64 a0_p.Kind, .int .i64 a0_p.Conn, .str a0_p.Txn, .int .i64 a0_p.Span_From, .int .i64 a0_p.Span_To, .int .i64 a0_p.Start, .int .i64 a0_p.Duration, .vec a0_p.Periods.length 2 (gL cSPeriod dSPeriod a0_p.Periods)], .box [.int .i64 ((a0_p.Periods.getD i_29.toNat dSPeriod).At), .int .i64 ((a0_p.Periods.getD i_29.toNat dSPeriod).Limit)]]⟩) (sub_gen [0, 1] rfl rfl ⟨zc rfl rfl, zc rfl rfl, zc rfl rfl, trivial⟩ ⟨⟨_, rfl, ⟨ii rfl rfl, ii rfl rfl, ii rfl rfl, ii rfl rfl, ii rfl rfl, ii rfl rfl, ii rfl rfl, ii rfl rfl, ii rfl rfl, ii rfl rfl, ii rfl rfl, trivial⟩⟩, ⟨_, rfl, ⟨ii rfl rfl, ii rfl rfl, trivial⟩⟩, trivial⟩) ?_
        refine SOps.nil ?_
        refine SCode.join (σ := Unit) (S := fun s => ⟨[(1, .c (.ptr 0 0)), (3, .c (.int .i64 i_29)), (4, .c (.ptr 1 0))], [.box [.int .i64 a0_p.ID, .int .i64 a0_p.Level, .int .i64 a0_p.Purpose, .int .i64 a0_p.Kind, .int .i64 a0_p.Conn, .str a0_p.Txn, .int .i64 a0_p.Span_From, .int .i64 a0_p.Span_To, .int .i64 a0_p.Start, .int .i64 a0_p.Duration, .vec a0_p.Periods.length 2 (gL cSPeriod dSPeriod a0_p.Periods)], .box [.int .i64 ((a0_p.Periods.getD i_29.toNat dSPeriod).At), .int .i64 ((a0_p.Periods.getD i_29.toNat dSPeriod).Limit)]]⟩) (g := fun s => chargenetref15_Valid_p54 a0_p i_29 (fun i_29 => chargenetref15_Valid_l49 F a0_p n_49 i_29) = some r) ?_ ?_
        rotate_left
        · refine SCode.seq ?_
          rcases cond_out h with ⟨g55, h⟩ | ⟨g55, h⟩
          · rcases cond_out h with ⟨g56, h⟩ | ⟨g56, h⟩
            · refine SCode.draw (s' := [(98, .c (.bool true)), (97, .c (.raw (.tuple #[]))), (96, .c (.raw (.tuple #[]))), (95, .c (.raw (.tuple #[]))), (94, .c (.raw (.tuple #[]))), (93, .c (.raw (.tuple #[]))), (92, .c (.raw (.tuple #[]))), (91, .c (.raw (.tuple #[]))), (90, .c (.raw (.tuple #[]))), (89, .c (.raw (.tuple #[]))), (88, .c (.raw (.tuple #[]))), (87, .c (.raw (.tuple #[]))), (86, .c (.raw (.tuple #[]))), (85, .c (.raw (.tuple #[]))), (84, .c (.raw (.tuple #[]))), (83, .c (.raw (.tuple #[]))), (82, .c (.raw (.tuple #[]))), (81, .c (.raw (.tuple #[]))), (80, .c (.raw (.tuple #[]))), (79, .c (.raw (.tuple #[]))), (78, .c (.raw (.tuple #[]))), (77, .c (.raw (.tuple #[]))), (76, .c (.raw (.tuple #[]))), (75, .c (.bool ((!decide ((a0_p.Periods.getD i_29.toNat dSPeriod).At = 0))))), (74, .c (.bool ((!decide ((a0_p.Periods.getD i_29.toNat dSPeriod).At = 0))))), (73, .c (.bool ((!decide ((a0_p.Periods.getD i_29.toNat dSPeriod).At = 0))))), (72, .c (.int .i64 ((a0_p.Periods.getD i_29.toNat dSPeriod).At))), (71, .c (.ptr 1 0)), (70, .c (.bool (decide (i_29 = 0)))), (69, .c (.bool (decide (i_29 = 0)))), (68, .c (.int .i64 i_29)), (1, .c (.ptr 0 0)), (3, .c (.int .i64 i_29)), (4, .c (.ptr 1 0))]) mixed [[], [0], [0, 1], [0, 1, 2], [0, 1, 2, 3], [0, 1, 2, 3, 4], [0, 1, 2, 3, 4, 5], [0, 1, 2, 3, 4, 5, 6], [0, 1, 2, 3, 4, 5, 6, 7], [0, 1, 2, 3, 4, 5, 6, 7, 8], [0, 1, 2, 3, 4, 5, 6, 7, 8, 9], [0, 1, 2, 3, 4, 5, 6, 7, 8, 9, 10], [0, 1, 2, 3, 4, 5, 6, 7, 8, 9, 10, 11], [0, 1, 2, 3, 4, 5, 6, 7, 8, 9, 10], [0, 1, 2, 3, 4, 5, 6, 7, 8, 9, 10, 13], [0, 1, 2, 3, 4, 5, 6, 7, 8, 9, 10], [0, 1, 2, 3, 4, 5, 6, 7, 8, 9, 10, 15], [0, 1, 2, 3, 4, 5, 6, 7, 8, 9, 10, 13, 14, 15, 16], [0, 1, 2, 3, 4, 5, 6, 7, 8, 9, 10, 13, 14, 15, 16, 17], [0, 1, 2, 3, 4, 5, 6, 7, 8, 9, 10, 13, 14, 15, 16, 17, 18], [0, 1, 2, 3, 4, 5, 6, 7, 8, 9, 10, 11, 12, 13, 14, 15, 16, 17, 18, 19], [0, 1, 2, 3, 4, 5, 6, 7, 8, 9, 10, 11, 12, 13, 14, 15, 16, 17, 18, 19, 20], [0, 1, 2, 3, 4, 5, 6, 7, 8, 9, 10, 11, 12, 13, 14, 15, 16, 17, 18, 19, 20, 21], [0, 1, 2, 3, 4, 5, 6, 7, 8, 9, 10, 11, 12, 13, 14, 15, 16, 17, 18, 19, 20, 21, 22], [0, 1, 2, 3, 4, 5, 6, 7, 8, 9, 10, 11, 12, 13, 14, 15, 16, 17, 18, 19, 20, 21], [0, 1, 2, 3, 4, 5, 6, 7, 8, 9, 10, 11, 12, 13, 14, 15, 16, 17, 18, 19, 20, 21, 24], [0, 1, 2, 3, 4, 5, 6, 7, 8, 9, 10, 11, 12, 13, 14, 15, 16, 17, 18, 19, 20, 21, 24, 25], [0, 1, 2, 3, 4, 5, 6, 7, 8, 9, 10, 11, 12, 13, 14, 15, 16, 17, 18, 19, 20, 21, 22, 23, 24, 25, 26], [0, 1, 2, 3, 4, 5, 6, 7, 8, 9, 10, 11, 12, 13, 14, 15, 16, 17, 18, 19, 20, 21, 22, 23, 24, 25, 26, 27], [0, 1, 2, 3, 4, 5, 6, 7, 8, 9, 10, 11, 12, 13, 14, 15, 16, 17, 18, 19, 20, 21, 22, 23, 24, 25, 26, 27, 28], [0, 1, 2, 3, 4, 5, 6, 7, 8, 9, 10, 11, 12, 13, 14, 15, 16, 17, 18, 19, 20, 21, 22, 23, 24, 25, 26, 27, 28, 29]] 31 0 rfl rfl ?_ ?_
              · refine QChain.run rfl (.plain rfl) rfl (q_move rfl rfl) ?_
                refine QChain.run rfl (.plain rfl) rfl (q_eql rfl rfl rfl) ?_
                refine QChain.run rfl (.plain rfl) rfl (q_move rfl rfl) ?_
                refine QChain.run rfl (.guard 2 70 true rfl rfl (gT g55)) rfl (q_field_ptr rfl rfl fd38_0) ?_
                refine QChain.run rfl (.guard 2 70 true rfl rfl (gT g55)) rfl (q_load_ptr rfl rfl rfl rfl ty3) ?_
                refine QChain.run rfl (.guard 2 70 true rfl rfl (gT g55)) rfl (q_neq rfl rfl rfl) ?_
                refine QChain.run rfl (.plain rfl) rfl (q_pick_t rfl rfl g55 rfl) ?_
                refine QChain.run rfl (.plain rfl) rfl (q_move rfl rfl) ?_
                refine QChain.skip rfl ⟨7, 75, false, rfl, rfl, (.inl (gT g56))⟩ rfl ?_
                refine QChain.skip rfl ⟨7, 75, false, rfl, rfl, (.inl (gT g56))⟩ rfl ?_
                refine QChain.skip rfl ⟨7, 75, false, rfl, rfl, (.inl (gT g56))⟩ rfl ?_
                refine QChain.skip rfl ⟨10, 78, true, rfl, rfl, (.inr rfl)⟩ rfl ?_
                refine QChain.skip rfl ⟨10, 78, true, rfl, rfl, (.inr rfl)⟩ rfl ?_
                refine QChain.skip rfl ⟨10, 78, true, rfl, rfl, (.inr rfl)⟩ rfl ?_
                refine QChain.skip rfl ⟨10, 78, true, rfl, rfl, (.inr rfl)⟩ rfl ?_
                refine QChain.skip rfl ⟨10, 78, true, rfl, rfl, (.inr rfl)⟩ rfl ?_
                refine QChain.skip rfl ⟨10, 78, true, rfl, rfl, (.inr rfl)⟩ rfl ?_
                refine QChain.skip rfl ⟨10, 78, true, rfl, rfl, (.inr rfl)⟩ rfl ?_
                refine QChain.skip rfl ⟨10, 78, true, rfl, rfl, (.inr rfl)⟩ rfl ?_
                refine QChain.skip rfl ⟨10, 78, true, rfl, rfl, (.inr rfl)⟩ rfl ?_
                refine QChain.skip rfl ⟨10, 78, true, rfl, rfl, (.inr rfl)⟩ rfl ?_
                refine QChain.skip rfl ⟨10, 78, true, rfl, rfl, (.inr rfl)⟩ rfl ?_
                refine QChain.skip rfl ⟨21, 89, false, rfl, rfl, (.inr rfl)⟩ rfl ?_
                refine QChain.skip rfl ⟨21, 89, false, rfl, rfl, (.inr rfl)⟩ rfl ?_
                refine QChain.skip rfl ⟨21, 89, false, rfl, rfl, (.inr rfl)⟩ rfl ?_
                refine QChain.skip rfl ⟨21, 89, false, rfl, rfl, (.inr rfl)⟩ rfl ?_
                refine QChain.skip rfl ⟨21, 89, false, rfl, rfl, (.inr rfl)⟩ rfl ?_
                refine QChain.skip rfl ⟨21, 89, false, rfl, rfl, (.inr rfl)⟩ rfl ?_
                refine QChain.skip rfl ⟨10, 78, true, rfl, rfl, (.inr rfl)⟩ rfl ?_
                refine QChain.skip rfl ⟨7, 75, false, rfl, rfl, (.inl (gT g56))⟩ rfl ?_
                refine QChain.run rfl (.plain rfl) rfl (q_pick_t rfl rfl g56 rfl) ?_
                exact QChain.nil _ _
              refine (show SOps _ _ _ [] _ _ from ?_)
              refine SOps.sub (st' := ⟨[(1, .c (.ptr 0 0)), (3, .c (.int .i64 i_29)), (4, .c (.ptr 1 0)), (98, .c (.bool true))], [.box [.int .i64 a0_p.ID, .int .i64 a0_p.Level, .int .i64 a0_p.Purpose, .int .i64 a0_p.Kind, .int .i64 a0_p.Conn, .str a0_p.Txn, .int .i64 a0_p.Span_From, .int .i64 a0_p.Span_To, .int .i64 a0_p.Start, .int .i64 a0_p.Duration, .vec a0_p.Periods.length 2 (gL cSPeriod dSPeriod a0_p.Periods)], .box [.int .i64 ((a0_p.Periods.getD i_29.toNat dSPeriod).At), .int .i64 ((a0_p.Periods.getD i_29.toNat dSPeriod).Limit)]]⟩) (sub_gen [0, 1] rfl rfl ⟨zc rfl rfl, zc rfl rfl, zc rfl rfl, zc rfl rfl, trivial⟩ ⟨⟨_, rfl, ⟨ii rfl rfl, ii rfl rfl, ii rfl rfl, ii rfl rfl, ii rfl rfl, ii rfl rfl, ii rfl rfl, ii rfl rfl, ii rfl rfl, ii rfl rfl, ii rfl rfl, trivial⟩⟩, ⟨_, rfl, ⟨ii rfl rfl, ii rfl rfl, trivial⟩⟩, trivial⟩) ?_
              refine SOps.nil ?_
              refine SCode.cond_t rfl rfl ?_
              refine SCode.seq ?_
              refine SCode.region (show SOps _ _ _ [0] _ _ from ?_)
              refine SOps.q rfl (.plain rfl) rfl (q_assign rfl rfl) ?_
              refine SOps.sub (st' := ⟨[(2, .c (.int .i64 1))], []⟩) (sub_gen [] rfl rfl ⟨zc rfl rfl, trivial⟩ trivial) ?_
              refine SOps.nil ?_
              refine SCode.ret ?_
              obtain rfl := Option.some.inj h
              exact ⟨⟨[(2, .c (.int .i64 1))], []⟩, _, sub_gen [] rfl rfl ⟨zc rfl rfl, trivial⟩ trivial, resA1 (v := .c (.int .i64 1)) rfl rfl, rfl⟩
            rcases cond_out h with ⟨g57, h⟩ | ⟨g57, h⟩
            · obtain ⟨g58, h⟩ := guard_out h
              rcases cond_out h with ⟨g59, h⟩ | ⟨g59, h⟩
              · refine SCode.draw (s' := [(98, .c (.bool true)), (97, .c (.bool true)), (96, .c (.bool true)), (95, .c (.raw (.tuple #[]))), (94, .c (.raw (.tuple #[]))), (93, .c (.raw (.tuple #[]))), (92, .c (.raw (.tuple #[]))), (91, .c (.raw (.tuple #[]))), (90, .c (.raw (.tuple #[]))), (89, .c (.bool (decide ((a0_p.Periods.getD i_29.toNat dSPeriod).At ≤ (a0_p.Periods.getD (IntKind.wrap .i64 (i_29 - 1)).toNat dSPeriod).At)))), (88, .c (.bool (decide ((a0_p.Periods.getD i_29.toNat dSPeriod).At ≤ (a0_p.Periods.getD (IntKind.wrap .i64 (i_29 - 1)).toNat dSPeriod).At)))), (87, .c (.int .i64 ((a0_p.Periods.getD (IntKind.wrap .i64 (i_29 - 1)).toNat dSPeriod).At))), (86, .c (.eptr 2 (cSPeriod (a0_p.Periods.getD (IntKind.wrap .i64 (i_29 - 1)).toNat dSPeriod)) 0)), (85, .c (.eptr 2 (cSPeriod (a0_p.Periods.getD (IntKind.wrap .i64 (i_29 - 1)).toNat dSPeriod)) 0)), (84, .c (.int .i64 (IntKind.wrap .i64 (i_29 - 1)))), (83, .c (.int .i64 i_29)), (82, .c (.vec a0_p.Periods.length 2 (gL cSPeriod dSPeriod a0_p.Periods))), (81, .c (.ptr 0 10)), (80, .c (.int .i64 ((a0_p.Periods.getD i_29.toNat dSPeriod).At))), (79, .c (.ptr 1 0)), (78, .c (.bool (decide (0 < i_29)))), (77, .c (.bool (decide (0 < i_29)))), (76, .c (.int .i64 i_29)), (75, .c (.bool ((!decide ((a0_p.Periods.getD i_29.toNat dSPeriod).At = 0))))), (74, .c (.bool ((!decide ((a0_p.Periods.getD i_29.toNat dSPeriod).At = 0))))), (73, .c (.bool ((!decide ((a0_p.Periods.getD i_29.toNat dSPeriod).At = 0))))), (72, .c (.int .i64 ((a0_p.Periods.getD i_29.toNat dSPeriod).At))), (71, .c (.ptr 1 0)), (70, .c (.bool (decide (i_29 = 0)))), (69, .c (.bool (decide (i_29 = 0)))), (68, .c (.int .i64 i_29)), (1, .c (.ptr 0 0)), (3, .c (.int .i64 i_29)), (4, .c (.ptr 1 0))]) mixed [[], [0], [0, 1], [0, 1, 2], [0, 1, 2, 3], [0, 1, 2, 3, 4], [0, 1, 2, 3, 4, 5], [0, 1, 2, 3, 4, 5, 6], [0, 1, 2, 3, 4, 5, 6, 7], [0, 1, 2, 3, 4, 5, 6, 7, 8], [0, 1, 2, 3, 4, 5, 6, 7, 8, 9], [0, 1, 2, 3, 4, 5, 6, 7, 8, 9, 10], [0, 1, 2, 3, 4, 5, 6, 7, 8, 9, 10, 11], [0, 1, 2, 3, 4, 5, 6, 7, 8, 9, 10], [0, 1, 2, 3, 4, 5, 6, 7, 8, 9, 10, 13], [0, 1, 2, 3, 4, 5, 6, 7, 8, 9, 10], [0, 1, 2, 3, 4, 5, 6, 7, 8, 9, 10, 15], [0, 1, 2, 3, 4, 5, 6, 7, 8, 9, 10, 13, 14, 15, 16], [0, 1, 2, 3, 4, 5, 6, 7, 8, 9, 10, 13, 14, 15, 16, 17], [0, 1, 2, 3, 4, 5, 6, 7, 8, 9, 10, 13, 14, 15, 16, 17, 18], [0, 1, 2, 3, 4, 5, 6, 7, 8, 9, 10, 11, 12, 13, 14, 15, 16, 17, 18, 19], [0, 1, 2, 3, 4, 5, 6, 7, 8, 9, 10, 11, 12, 13, 14, 15, 16, 17, 18, 19, 20], [0, 1, 2, 3, 4, 5, 6, 7, 8, 9, 10, 11, 12, 13, 14, 15, 16, 17, 18, 19, 20, 21], [0, 1, 2, 3, 4, 5, 6, 7, 8, 9, 10, 11, 12, 13, 14, 15, 16, 17, 18, 19, 20, 21, 22], [0, 1, 2, 3, 4, 5, 6, 7, 8, 9, 10, 11, 12, 13, 14, 15, 16, 17, 18, 19, 20, 21], [0, 1, 2, 3, 4, 5, 6, 7, 8, 9, 10, 11, 12, 13, 14, 15, 16, 17, 18, 19, 20, 21, 24], [0, 1, 2, 3, 4, 5, 6, 7, 8, 9, 10, 11, 12, 13, 14, 15, 16, 17, 18, 19, 20, 21, 24, 25], [0, 1, 2, 3, 4, 5, 6, 7, 8, 9, 10, 11, 12, 13, 14, 15, 16, 17, 18, 19, 20, 21, 22, 23, 24, 25, 26], [0, 1, 2, 3, 4, 5, 6, 7, 8, 9, 10, 11, 12, 13, 14, 15, 16, 17, 18, 19, 20, 21, 22, 23, 24, 25, 26, 27], [0, 1, 2, 3, 4, 5, 6, 7, 8, 9, 10, 11, 12, 13, 14, 15, 16, 17, 18, 19, 20, 21, 22, 23, 24, 25, 26, 27, 28], [0, 1, 2, 3, 4, 5, 6, 7, 8, 9, 10, 11, 12, 13, 14, 15, 16, 17, 18, 19, 20, 21, 22, 23, 24, 25, 26, 27, 28, 29]] 31 0 rfl rfl ?_ ?_
                · refine QChain.run rfl (.plain rfl) rfl (q_move rfl rfl) ?_
                  refine QChain.run rfl (.plain rfl) rfl (q_eql rfl rfl rfl) ?_
                  refine QChain.run rfl (.plain rfl) rfl (q_move rfl rfl) ?_
                  refine QChain.run rfl (.guard 2 70 true rfl rfl (gT g55)) rfl (q_field_ptr rfl rfl fd38_0) ?_
                  refine QChain.run rfl (.guard 2 70 true rfl rfl (gT g55)) rfl (q_load_ptr rfl rfl rfl rfl ty3) ?_
                  refine QChain.run rfl (.guard 2 70 true rfl rfl (gT g55)) rfl (q_neq rfl rfl rfl) ?_
                  refine QChain.run rfl (.plain rfl) rfl (q_pick_t rfl rfl g55 rfl) ?_
                  refine QChain.run rfl (.plain rfl) rfl (q_move rfl rfl) ?_
                  refine QChain.run rfl (.guard 7 75 false rfl rfl (gF g56)) rfl (q_move rfl rfl) ?_
                  refine QChain.run rfl (.guard 7 75 false rfl rfl (gF g56)) rfl (q_gtr rfl rfl rfl) ?_
                  refine QChain.run rfl (.guard 7 75 false rfl rfl (gF g56)) rfl (q_move rfl rfl) ?_
                  refine QChain.run rfl (.guard 10 78 true rfl rfl (gT g57)) rfl (q_field_ptr rfl rfl fd38_0) ?_
                  refine QChain.run rfl (.guard 10 78 true rfl rfl (gT g57)) rfl (q_load_ptr rfl rfl rfl rfl ty3) ?_
                  refine QChain.run rfl (.guard 10 78 true rfl rfl (gT g57)) rfl (q_field_ptr rfl rfl fd31_9) ?_
                  refine QChain.run rfl (.guard 10 78 true rfl rfl (gT g57)) rfl (q_load_ptr rfl rfl rfl rfl ty29) ?_
                  refine QChain.run rfl (.guard 10 78 true rfl rfl (gT g57)) rfl (q_move rfl rfl) ?_
                  refine QChain.run rfl (.guard 10 78 true rfl rfl (gT g57)) rfl (q_sub rfl rfl rfl) ?_
                  refine QChain.run rfl (.guard 10 78 true rfl rfl (gT g57)) rfl (q_index_vec rfl rfl rfl sl29 rfl g58.1 g58.2) ?_
                  refine QChain.run rfl (.guard 10 78 true rfl rfl (gT g57)) rfl (q_field_eptr rfl rfl fd38_0 rfl) ?_
                  refine QChain.run rfl (.guard 10 78 true rfl rfl (gT g57)) rfl (q_load_eptr rfl rfl ty3) ?_
                  refine QChain.run rfl (.guard 10 78 true rfl rfl (gT g57)) rfl (q_leq rfl rfl rfl) ?_
                  refine QChain.run rfl (.guard 10 78 true rfl rfl (gT g57)) rfl (q_move rfl rfl) ?_
                  refine QChain.skip rfl ⟨21, 89, false, rfl, rfl, (.inl (gT g59))⟩ rfl ?_
                  refine QChain.skip rfl ⟨21, 89, false, rfl, rfl, (.inl (gT g59))⟩ rfl ?_
                  refine QChain.skip rfl ⟨21, 89, false, rfl, rfl, (.inl (gT g59))⟩ rfl ?_
                  refine QChain.skip rfl ⟨21, 89, false, rfl, rfl, (.inl (gT g59))⟩ rfl ?_
                  refine QChain.skip rfl ⟨21, 89, false, rfl, rfl, (.inl (gT g59))⟩ rfl ?_
                  refine QChain.skip rfl ⟨21, 89, false, rfl, rfl, (.inl (gT g59))⟩ rfl ?_
                  refine QChain.run rfl (.guard 10 78 true rfl rfl (gT g57)) rfl (q_pick_t rfl rfl g59 rfl) ?_
                  refine QChain.run rfl (.guard 7 75 false rfl rfl (gF g56)) rfl (q_pick_t rfl rfl g57 rfl) ?_
                  refine QChain.run rfl (.plain rfl) rfl (q_pick_f rfl rfl g56 rfl) ?_
                  exact QChain.nil _ _
                refine (show SOps _ _ _ [] _ _ from ?_)
                refine SOps.sub (st' := ⟨[(1, .c (.ptr 0 0)), (3, .c (.int .i64 i_29)), (4, .c (.ptr 1 0)), (98, .c (.bool true))], [.box [.int .i64 a0_p.ID, .int .i64 a0_p.Level, .int .i64 a0_p.Purpose, .int .i64 a0_p.Kind, .int .i64 a0_p.Conn, .str a0_p.Txn, .int .i64 a0_p.Span_From, .int .i64 a0_p.Span_To, .int .i64 a0_p.Start, .int .i64 a0_p.Duration, .vec a0_p.Periods.length 2 (gL cSPeriod dSPeriod a0_p.Periods)], .box [.int .i64 ((a0_p.Periods.getD i_29.toNat dSPeriod).At), .int .i64 ((a0_p.Periods.getD i_29.toNat dSPeriod).Limit)]]⟩) (sub_gen [0, 1] rfl rfl ⟨zc rfl rfl, zc rfl rfl, zc rfl rfl, zc rfl rfl, trivial⟩ ⟨⟨_, rfl, ⟨ii rfl rfl, ii rfl rfl, ii rfl rfl, ii rfl rfl, ii rfl rfl, ii rfl rfl, ii rfl rfl, ii rfl rfl, ii rfl rfl, ii rfl rfl, ii rfl rfl, trivial⟩⟩, ⟨_, rfl, ⟨ii rfl rfl, ii rfl rfl, trivial⟩⟩, trivial⟩) ?_
                refine SOps.nil ?_
                refine SCode.cond_t rfl rfl ?_
                refine SCode.seq ?_
                refine SCode.region (show SOps _ _ _ [0] _ _ from ?_)
                refine SOps.q rfl (.plain rfl) rfl (q_assign rfl rfl) ?_
                refine SOps.sub (st' := ⟨[(2, .c (.int .i64 1))], []⟩) (sub_gen [] rfl rfl ⟨zc rfl rfl, trivial⟩ trivial) ?_
                refine SOps.nil ?_
                refine SCode.ret ?_
                obtain rfl := Option.some.inj h
                exact ⟨⟨[(2, .c (.int .i64 1))], []⟩, _, sub_gen [] rfl rfl ⟨zc rfl rfl, trivial⟩ trivial, resA1 (v := .c (.int .i64 1)) rfl rfl, rfl⟩
              obtain ⟨c_60, g61, h⟩ := bind_out h
              try dsimp only at h
              refine SCode.draw (s' := [(98, .c (.bool (decide (c_60 < (a0_p.Periods.getD i_29.toNat dSPeriod).At)))), (97, .c (.bool (decide (c_60 < (a0_p.Periods.getD i_29.toNat dSPeriod).At)))), (96, .c (.bool (decide (c_60 < (a0_p.Periods.getD i_29.toNat dSPeriod).At)))), (95, .c (.bool (decide (c_60 < (a0_p.Periods.getD i_29.toNat dSPeriod).At)))), (94, .c (.int .i64 c_60)), (93, .c (.int .i64 a0_p.Kind)), (92, .c (.ptr 0 3)), (91, .c (.int .i64 ((a0_p.Periods.getD i_29.toNat dSPeriod).At))), (90, .c (.ptr 1 0)), (89, .c (.bool (decide ((a0_p.Periods.getD i_29.toNat dSPeriod).At ≤ (a0_p.Periods.getD (IntKind.wrap .i64 (i_29 - 1)).toNat dSPeriod).At)))), (88, .c (.bool (decide ((a0_p.Periods.getD i_29.toNat dSPeriod).At ≤ (a0_p.Periods.getD (IntKind.wrap .i64 (i_29 - 1)).toNat dSPeriod).At)))), (87, .c (.int .i64 ((a0_p.Periods.getD (IntKind.wrap .i64 (i_29 - 1)).toNat dSPeriod).At))), (86, .c (.eptr 2 (cSPeriod (a0_p.Periods.getD (IntKind.wrap .i64 (i_29 - 1)).toNat dSPeriod)) 0)), (85, .c (.eptr 2 (cSPeriod (a0_p.Periods.getD (IntKind.wrap .i64 (i_29 - 1)).toNat dSPeriod)) 0)), (84, .c (.int .i64 (IntKind.wrap .i64 (i_29 - 1)))), (83, .c (.int .i64 i_29)), (82, .c (.vec a0_p.Periods.length 2 (gL cSPeriod dSPeriod a0_p.Periods))), (81, .c (.ptr 0 10)), (80, .c (.int .i64 ((a0_p.Periods.getD i_29.toNat dSPeriod).At))), (79, .c (.ptr 1 0)), (78, .c (.bool (decide (0 < i_29)))), (77, .c (.bool (decide (0 < i_29)))), (76, .c (.int .i64 i_29)), (75, .c (.bool ((!decide ((a0_p.Periods.getD i_29.toNat dSPeriod).At = 0))))), (74, .c (.bool ((!decide ((a0_p.Periods.getD i_29.toNat dSPeriod).At = 0))))), (73, .c (.bool ((!decide ((a0_p.Periods.getD i_29.toNat dSPeriod).At = 0))))), (72, .c (.int .i64 ((a0_p.Periods.getD i_29.toNat dSPeriod).At))), (71, .c (.ptr 1 0)), (70, .c (.bool (decide (i_29 = 0)))), (69, .c (.bool (decide (i_29 = 0)))), (68, .c (.int .i64 i_29)), (1, .c (.ptr 0 0)), (3, .c (.int .i64 i_29)), (4, .c (.ptr 1 0))]) mixed [[], [0], [0, 1], [0, 1, 2], [0, 1, 2, 3], [0, 1, 2, 3, 4], [0, 1, 2, 3, 4, 5], [0, 1, 2, 3, 4, 5, 6], [0, 1, 2, 3, 4, 5, 6, 7], [0, 1, 2, 3, 4, 5, 6, 7, 8], [0, 1, 2, 3, 4, 5, 6, 7, 8, 9], [0, 1, 2, 3, 4, 5, 6, 7, 8, 9, 10], [0, 1, 2, 3, 4, 5, 6, 7, 8, 9, 10, 11], [0, 1, 2, 3, 4, 5, 6, 7, 8, 9, 10], [0, 1, 2, 3, 4, 5, 6, 7, 8, 9, 10, 13], [0, 1, 2, 3, 4, 5, 6, 7, 8, 9, 10], [0, 1, 2, 3, 4, 5, 6, 7, 8, 9, 10, 15], [0, 1, 2, 3, 4, 5, 6, 7, 8, 9, 10, 13, 14, 15, 16], [0, 1, 2, 3, 4, 5, 6, 7, 8, 9, 10, 13, 14, 15, 16, 17], [0, 1, 2, 3, 4, 5, 6, 7, 8, 9, 10, 13, 14, 15, 16, 17, 18], [0, 1, 2, 3, 4, 5, 6, 7, 8, 9, 10, 11, 12, 13, 14, 15, 16, 17, 18, 19], [0, 1, 2, 3, 4, 5, 6, 7, 8, 9, 10, 11, 12, 13, 14, 15, 16, 17, 18, 19, 20], [0, 1, 2, 3, 4, 5, 6, 7, 8, 9, 10, 11, 12, 13, 14, 15, 16, 17, 18, 19, 20, 21], [0, 1, 2, 3, 4, 5, 6, 7, 8, 9, 10, 11, 12, 13, 14, 15, 16, 17, 18, 19, 20, 21, 22], [0, 1, 2, 3, 4, 5, 6, 7, 8, 9, 10, 11, 12, 13, 14, 15, 16, 17, 18, 19, 20, 21], [0, 1, 2, 3, 4, 5, 6, 7, 8, 9, 10, 11, 12, 13, 14, 15, 16, 17, 18, 19, 20, 21, 24], [0, 1, 2, 3, 4, 5, 6, 7, 8, 9, 10, 11, 12, 13, 14, 15, 16, 17, 18, 19, 20, 21, 24, 25], [0, 1, 2, 3, 4, 5, 6, 7, 8, 9, 10, 11, 12, 13, 14, 15, 16, 17, 18, 19, 20, 21, 22, 23, 24, 25, 26], [0, 1, 2, 3, 4, 5, 6, 7, 8, 9, 10, 11, 12, 13, 14, 15, 16, 17, 18, 19, 20, 21, 22, 23, 24, 25, 26, 27], [0, 1, 2, 3, 4, 5, 6, 7, 8, 9, 10, 11, 12, 13, 14, 15, 16, 17, 18, 19, 20, 21, 22, 23, 24, 25, 26, 27, 28], [0, 1, 2, 3, 4, 5, 6, 7, 8, 9, 10, 11, 12, 13, 14, 15, 16, 17, 18, 19, 20, 21, 22, 23, 24, 25, 26, 27, 28, 29]] 31 0 rfl rfl ?_ ?_
              · refine QChain.run rfl (.plain rfl) rfl (q_move rfl rfl) ?_
                refine QChain.run rfl (.plain rfl) rfl (q_eql rfl rfl rfl) ?_
                refine QChain.run rfl (.plain rfl) rfl (q_move rfl rfl) ?_
                refine QChain.run rfl (.guard 2 70 true rfl rfl (gT g55)) rfl (q_field_ptr rfl rfl fd38_0) ?_
                refine QChain.run rfl (.guard 2 70 true rfl rfl (gT g55)) rfl (q_load_ptr rfl rfl rfl rfl ty3) ?_
                refine QChain.run rfl (.guard 2 70 true rfl rfl (gT g55)) rfl (q_neq rfl rfl rfl) ?_
                refine QChain.run rfl (.plain rfl) rfl (q_pick_t rfl rfl g55 rfl) ?_
                refine QChain.run rfl (.plain rfl) rfl (q_move rfl rfl) ?_
                refine QChain.run rfl (.guard 7 75 false rfl rfl (gF g56)) rfl (q_move rfl rfl) ?_
                refine QChain.run rfl (.guard 7 75 false rfl rfl (gF g56)) rfl (q_gtr rfl rfl rfl) ?_
                refine QChain.run rfl (.guard 7 75 false rfl rfl (gF g56)) rfl (q_move rfl rfl) ?_
                refine QChain.run rfl (.guard 10 78 true rfl rfl (gT g57)) rfl (q_field_ptr rfl rfl fd38_0) ?_
                refine QChain.run rfl (.guard 10 78 true rfl rfl (gT g57)) rfl (q_load_ptr rfl rfl rfl rfl ty3) ?_
                refine QChain.run rfl (.guard 10 78 true rfl rfl (gT g57)) rfl (q_field_ptr rfl rfl fd31_9) ?_
                refine QChain.run rfl (.guard 10 78 true rfl rfl (gT g57)) rfl (q_load_ptr rfl rfl rfl rfl ty29) ?_
                refine QChain.run rfl (.guard 10 78 true rfl rfl (gT g57)) rfl (q_move rfl rfl) ?_
                refine QChain.run rfl (.guard 10 78 true rfl rfl (gT g57)) rfl (q_sub rfl rfl rfl) ?_
                refine QChain.run rfl (.guard 10 78 true rfl rfl (gT g57)) rfl (q_index_vec rfl rfl rfl sl29 rfl g58.1 g58.2) ?_
                refine QChain.run rfl (.guard 10 78 true rfl rfl (gT g57)) rfl (q_field_eptr rfl rfl fd38_0 rfl) ?_
                refine QChain.run rfl (.guard 10 78 true rfl rfl (gT g57)) rfl (q_load_eptr rfl rfl ty3) ?_
                refine QChain.run rfl (.guard 10 78 true rfl rfl (gT g57)) rfl (q_leq rfl rfl rfl) ?_
                refine QChain.run rfl (.guard 10 78 true rfl rfl (gT g57)) rfl (q_move rfl rfl) ?_
                refine QChain.run rfl (.guard 21 89 false rfl rfl (gF g59)) rfl (q_field_ptr rfl rfl fd38_0) ?_
                refine QChain.run rfl (.guard 21 89 false rfl rfl (gF g59)) rfl (q_load_ptr rfl rfl rfl rfl ty3) ?_
                refine QChain.run rfl (.guard 21 89 false rfl rfl (gF g59)) rfl (q_field_ptr rfl rfl fd31_3) ?_
                refine QChain.run rfl (.guard 21 89 false rfl rfl (gF g59)) rfl (q_load_ptr rfl rfl rfl rfl ty3) ?_
                refine QChain.run rfl (.guard 21 89 false rfl rfl (gF g59)) rfl (q_call (chargenetref15_last_ok F a0_p.Kind c_60 g61) [] rfl fn30 ⟨⟨_, rfl, .inl ⟨rfl, rfl⟩⟩, trivial⟩ (.inl rfl)) ?_
                refine QChain.run rfl (.guard 21 89 false rfl rfl (gF g59)) rfl (q_gtr rfl rfl rfl) ?_
                refine QChain.run rfl (.guard 10 78 true rfl rfl (gT g57)) rfl (q_pick_f rfl rfl g59 rfl) ?_
                refine QChain.run rfl (.guard 7 75 false rfl rfl (gF g56)) rfl (q_pick_t rfl rfl g57 rfl) ?_
                refine QChain.run rfl (.plain rfl) rfl (q_pick_f rfl rfl g56 rfl) ?_
                exact QChain.nil _ _
              refine (show SOps _ _ _ [] _ _ from ?_)
              refine SOps.sub (st' := ⟨[(1, .c (.ptr 0 0)), (3, .c (.int .i64 i_29)), (4, .c (.ptr 1 0)), (98, .c (.bool (decide (c_60 < (a0_p.Periods.getD i_29.toNat dSPeriod).At))))], [.box [.int .i64 a0_p.ID, .int .i64 a0_p.Level, .int .i64 a0_p.Purpose, .int .i64 a0_p.Kind, .int .i64 a0_p.Conn, .str a0_p.Txn, .int .i64 a0_p.Span_From, .int .i64 a0_p.Span_To, .int .i64 a0_p.Start, .int .i64 a0_p.Duration, .vec a0_p.Periods.length 2 (gL cSPeriod dSPeriod a0_p.Periods)], .box [.int .i64 ((a0_p.Periods.getD i_29.toNat dSPeriod).At), .int .i64 ((a0_p.Periods.getD i_29.toNat dSPeriod).Limit)]]⟩) (sub_gen [0, 1] rfl rfl ⟨zc rfl rfl, zc rfl rfl, zc rfl rfl, zc rfl rfl, trivial⟩ ⟨⟨_, rfl, ⟨ii rfl rfl, ii rfl rfl, ii rfl rfl, ii rfl rfl, ii rfl rfl, ii rfl rfl, ii rfl rfl, ii rfl rfl, ii rfl rfl, ii rfl rfl, ii rfl rfl, trivial⟩⟩, ⟨_, rfl, ⟨ii rfl rfl, ii rfl rfl, trivial⟩⟩, trivial⟩) ?_
              refine SOps.nil ?_
              rcases cond_out h with ⟨g62, h⟩ | ⟨g62, h⟩
              · refine SCode.cond_t rfl g62 ?_
                refine SCode.seq ?_
                refine SCode.region (show SOps _ _ _ [0] _ _ from ?_)
                refine SOps.q rfl (.plain rfl) rfl (q_assign rfl rfl) ?_
                refine SOps.sub (st' := ⟨[(2, .c (.int .i64 1))], []⟩) (sub_gen [] rfl rfl ⟨zc rfl rfl, trivial⟩ trivial) ?_
                refine SOps.nil ?_
                refine SCode.ret ?_
                obtain rfl := Option.some.inj h
                exact ⟨⟨[(2, .c (.int .i64 1))], []⟩, _, sub_gen [] rfl rfl ⟨zc rfl rfl, trivial⟩ trivial, resA1 (v := .c (.int .i64 1)) rfl rfl, rfl⟩
              refine SCode.cond_f rfl g62 ?_
              refine SCode.skip ?_
              exact ⟨(), h, sub_gen [0, 1] rfl rfl ⟨zc rfl rfl, zc rfl rfl, zc rfl rfl, trivial⟩ ⟨⟨_, rfl, ⟨ii rfl rfl, ii rfl rfl, ii rfl rfl, ii rfl rfl, ii rfl rfl, ii rfl rfl, ii rfl rfl, ii rfl rfl, ii rfl rfl, ii rfl rfl, ii rfl rfl, trivial⟩⟩, ⟨_, rfl, ⟨ii rfl rfl, ii rfl rfl, trivial⟩⟩, trivial⟩⟩
            refine SCode.draw (s' := [(98, .c (.bool false)), (97, .c (.bool false)), (96, .c (.raw (.tuple #[]))), (95, .c (.raw (.tuple #[]))), (94, .c (.raw (.tuple #[]))), (93, .c (.raw (.tuple #[]))), (92, .c (.raw (.tuple #[]))), (91, .c (.raw (.tuple #[]))), (90, .c (.raw (.tuple #[]))), (89, .c (.raw (.tuple #[]))), (88, .c (.raw (.tuple #[]))), (87, .c (.raw (.tuple #[]))), (86, .c (.raw (.tuple #[]))), (85, .c (.raw (.tuple #[]))), (84, .c (.raw (.tuple #[]))), (83, .c (.raw (.tuple #[]))), (82, .c (.raw (.tuple #[]))), (81, .c (.raw (.tuple #[]))), (80, .c (.raw (.tuple #[]))), (79, .c (.raw (.tuple #[]))), (78, .c (.bool (decide (0 < i_29)))), (77, .c (.bool (decide (0 < i_29)))), (76, .c (.int .i64 i_29)), (75, .c (.bool ((!decide ((a0_p.Periods.getD i_29.toNat dSPeriod).At = 0))))), (74, .c (.bool ((!decide ((a0_p.Periods.getD i_29.toNat dSPeriod).At = 0))))), (73, .c (.bool ((!decide ((a0_p.Periods.getD i_29.toNat dSPeriod).At = 0))))), (72, .c (.int .i64 ((a0_p.Periods.getD i_29.toNat dSPeriod).At))), (71, .c (.ptr 1 0)), (70, .c (.bool (decide (i_29 = 0)))), (69, .c (.bool (decide (i_29 = 0)))), (68, .c (.int .i64 i_29)), (1, .c (.ptr 0 0)), (3, .c (.int .i64 i_29)), (4, .c (.ptr 1 0))]) mixed [[], [0], [0, 1], [0, 1, 2], [0, 1, 2, 3], [0, 1, 2, 3, 4], [0, 1, 2, 3, 4, 5], [0, 1, 2, 3, 4, 5, 6], [0, 1, 2, 3, 4, 5, 6, 7], [0, 1, 2, 3, 4, 5, 6, 7, 8], [0, 1, 2, 3, 4, 5, 6, 7, 8, 9], [0, 1, 2, 3, 4, 5, 6, 7, 8, 9, 10], [0, 1, 2, 3, 4, 5, 6, 7, 8, 9, 10, 11], [0, 1, 2, 3, 4, 5, 6, 7, 8, 9, 10], [0, 1, 2, 3, 4, 5, 6, 7, 8, 9, 10, 13], [0, 1, 2, 3, 4, 5, 6, 7, 8, 9, 10], [0, 1, 2, 3, 4, 5, 6, 7, 8, 9, 10, 15], [0, 1, 2, 3, 4, 5, 6, 7, 8, 9, 10, 13, 14, 15, 16], [0, 1, 2, 3, 4, 5, 6, 7, 8, 9, 10, 13, 14, 15, 16, 17], [0, 1, 2, 3, 4, 5, 6, 7, 8, 9, 10, 13, 14, 15, 16, 17, 18], [0, 1, 2, 3, 4, 5, 6, 7, 8, 9, 10, 11, 12, 13, 14, 15, 16, 17, 18, 19], [0, 1, 2, 3, 4, 5, 6, 7, 8, 9, 10, 11, 12, 13, 14, 15, 16, 17, 18, 19, 20], [0, 1, 2, 3, 4, 5, 6, 7, 8, 9, 10, 11, 12, 13, 14, 15, 16, 17, 18, 19, 20, 21], [0, 1, 2, 3, 4, 5, 6, 7, 8, 9, 10, 11, 12, 13, 14, 15, 16, 17, 18, 19, 20, 21, 22], [0, 1, 2, 3, 4, 5, 6, 7, 8, 9, 10, 11, 12, 13, 14, 15, 16, 17, 18, 19, 20, 21], [0, 1, 2, 3, 4, 5, 6, 7, 8, 9, 10, 11, 12, 13, 14, 15, 16, 17, 18, 19, 20, 21, 24], [0, 1, 2, 3, 4, 5, 6, 7, 8, 9, 10, 11, 12, 13, 14, 15, 16, 17, 18, 19, 20, 21, 24, 25], [0, 1, 2, 3, 4, 5, 6, 7, 8, 9, 10, 11, 12, 13, 14, 15, 16, 17, 18, 19, 20, 21, 22, 23, 24, 25, 26], [0, 1, 2, 3, 4, 5, 6, 7, 8, 9, 10, 11, 12, 13, 14, 15, 16, 17, 18, 19, 20, 21, 22, 23, 24, 25, 26, 27], [0, 1, 2, 3, 4, 5, 6, 7, 8, 9, 10, 11, 12, 13, 14, 15, 16, 17, 18, 19, 20, 21, 22, 23, 24, 25, 26, 27, 28], [0, 1, 2, 3, 4, 5, 6, 7, 8, 9, 10, 11, 12, 13, 14, 15, 16, 17, 18, 19, 20, 21, 22, 23, 24, 25, 26, 27, 28, 29]] 31 0 rfl rfl ?_ ?_
            · refine QChain.run rfl (.plain rfl) rfl (q_move rfl rfl) ?_
              refine QChain.run rfl (.plain rfl) rfl (q_eql rfl rfl rfl) ?_
              refine QChain.run rfl (.plain rfl) rfl (q_move rfl rfl) ?_
              refine QChain.run rfl (.guard 2 70 true rfl rfl (gT g55)) rfl (q_field_ptr rfl rfl fd38_0) ?_
              refine QChain.run rfl (.guard 2 70 true rfl rfl (gT g55)) rfl (q_load_ptr rfl rfl rfl rfl ty3) ?_
              refine QChain.run rfl (.guard 2 70 true rfl rfl (gT g55)) rfl (q_neq rfl rfl rfl) ?_
              refine QChain.run rfl (.plain rfl) rfl (q_pick_t rfl rfl g55 rfl) ?_
              refine QChain.run rfl (.plain rfl) rfl (q_move rfl rfl) ?_
              refine QChain.run rfl (.guard 7 75 false rfl rfl (gF g56)) rfl (q_move rfl rfl) ?_
              refine QChain.run rfl (.guard 7 75 false rfl rfl (gF g56)) rfl (q_gtr rfl rfl rfl) ?_
              refine QChain.run rfl (.guard 7 75 false rfl rfl (gF g56)) rfl (q_move rfl rfl) ?_
              refine QChain.skip rfl ⟨10, 78, true, rfl, rfl, (.inl (gF g57))⟩ rfl ?_
              refine QChain.skip rfl ⟨10, 78, true, rfl, rfl, (.inl (gF g57))⟩ rfl ?_
              refine QChain.skip rfl ⟨10, 78, true, rfl, rfl, (.inl (gF g57))⟩ rfl ?_
              refine QChain.skip rfl ⟨10, 78, true, rfl, rfl, (.inl (gF g57))⟩ rfl ?_
              refine QChain.skip rfl ⟨10, 78, true, rfl, rfl, (.inl (gF g57))⟩ rfl ?_
              refine QChain.skip rfl ⟨10, 78, true, rfl, rfl, (.inl (gF g57))⟩ rfl ?_
              refine QChain.skip rfl ⟨10, 78, true, rfl, rfl, (.inl (gF g57))⟩ rfl ?_
              refine QChain.skip rfl ⟨10, 78, true, rfl, rfl, (.inl (gF g57))⟩ rfl ?_
              refine QChain.skip rfl ⟨10, 78, true, rfl, rfl, (.inl (gF g57))⟩ rfl ?_
              refine QChain.skip rfl ⟨10, 78, true, rfl, rfl, (.inl (gF g57))⟩ rfl ?_
              refine QChain.skip rfl ⟨10, 78, true, rfl, rfl, (.inl (gF g57))⟩ rfl ?_
              refine QChain.skip rfl ⟨21, 89, false, rfl, rfl, (.inr rfl)⟩ rfl ?_
              refine QChain.skip rfl ⟨21, 89, false, rfl, rfl, (.inr rfl)⟩ rfl ?_
              refine QChain.skip rfl ⟨21, 89, false, rfl, rfl, (.inr rfl)⟩ rfl ?_
              refine QChain.skip rfl ⟨21, 89, false, rfl, rfl, (.inr rfl)⟩ rfl ?_
              refine QChain.skip rfl ⟨21, 89, false, rfl, rfl, (.inr rfl)⟩ rfl ?_
              refine QChain.skip rfl ⟨21, 89, false, rfl, rfl, (.inr rfl)⟩ rfl ?_
              refine QChain.skip rfl ⟨10, 78, true, rfl, rfl, (.inl (gF g57))⟩ rfl ?_
              refine QChain.run rfl (.guard 7 75 false rfl rfl (gF g56)) rfl (q_pick_f rfl rfl g57 rfl) ?_
              refine QChain.run rfl (.plain rfl) rfl (q_pick_f rfl rfl g56 rfl) ?_
              exact QChain.nil _ _
            refine (show SOps _ _ _ [] _ _ from ?_)
            refine SOps.sub (st' := ⟨[(1, .c (.ptr 0 0)), (3, .c (.int .i64 i_29)), (4, .c (.ptr 1 0)), (98, .c (.bool false))], [.box [.int .i64 a0_p.ID, .int .i64 a0_p.Level, .int .i64 a0_p.Purpose, .int .i64 a0_p.Kind, .int .i64 a0_p.Conn, .str a0_p.Txn, .int .i64 a0_p.Span_From, .int .i64 a0_p.Span_To, .int .i64 a0_p.Start, .int .i64 a0_p.Duration, .vec a0_p.Periods.length 2 (gL cSPeriod dSPeriod a0_p.Periods)], .box [.int .i64 ((a0_p.Periods.getD i_29.toNat dSPeriod).At), .int .i64 ((a0_p.Periods.getD i_29.toNat dSPeriod).Limit)]]⟩) (sub_gen [0, 1] rfl rfl ⟨zc rfl rfl, zc rfl rfl, zc rfl rfl, zc rfl rfl, trivial⟩ ⟨⟨_, rfl, ⟨ii rfl rfl, ii rfl rfl, ii rfl rfl, ii rfl rfl, ii rfl rfl, ii rfl rfl, ii rfl rfl, ii rfl rfl, ii rfl rfl, ii rfl rfl, ii rfl rfl, trivial⟩⟩, ⟨_, rfl, ⟨ii rfl rfl, ii rfl rfl, trivial⟩⟩, trivial⟩) ?_
            refine SOps.nil ?_
            refine SCode.cond_f rfl rfl ?_
            refine SCode.skip ?_
            exact ⟨(), h, sub_gen [0, 1] rfl rfl ⟨zc rfl rfl, zc rfl rfl, zc rfl rfl, trivial⟩ ⟨⟨_, rfl, ⟨ii rfl rfl, ii rfl rfl, ii rfl rfl, ii rfl rfl, ii rfl rfl, ii rfl rfl, ii rfl rfl, ii rfl rfl, ii rfl rfl, ii rfl rfl, ii rfl rfl, trivial⟩⟩, ⟨_, rfl, ⟨ii rfl rfl, ii rfl rfl, trivial⟩⟩, trivial⟩⟩
          rcases cond_out h with ⟨g63, h⟩ | ⟨g63, h⟩
          · obtain ⟨g64, h⟩ := guard_out h
            rcases cond_out h with ⟨g65, h⟩ | ⟨g65, h⟩
            · refine SCode.draw (s' := [(98, .c (.bool true)), (97, .c (.bool true)), (96, .c (.bool true)), (95, .c (.raw (.tuple #[]))), (94, .c (.raw (.tuple #[]))), (93, .c (.raw (.tuple #[]))), (92, .c (.raw (.tuple #[]))), (91, .c (.raw (.tuple #[]))), (90, .c (.raw (.tuple #[]))), (89, .c (.bool (decide ((a0_p.Periods.getD i_29.toNat dSPeriod).At ≤ (a0_p.Periods.getD (IntKind.wrap .i64 (i_29 - 1)).toNat dSPeriod).At)))), (88, .c (.bool (decide ((a0_p.Periods.getD i_29.toNat dSPeriod).At ≤ (a0_p.Periods.getD (IntKind.wrap .i64 (i_29 - 1)).toNat dSPeriod).At)))), (87, .c (.int .i64 ((a0_p.Periods.getD (IntKind.wrap .i64 (i_29 - 1)).toNat dSPeriod).At))), (86, .c (.eptr 2 (cSPeriod (a0_p.Periods.getD (IntKind.wrap .i64 (i_29 - 1)).toNat dSPeriod)) 0)), (85, .c (.eptr 2 (cSPeriod (a0_p.Periods.getD (IntKind.wrap .i64 (i_29 - 1)).toNat dSPeriod)) 0)), (84, .c (.int .i64 (IntKind.wrap .i64 (i_29 - 1)))), (83, .c (.int .i64 i_29)), (82, .c (.vec a0_p.Periods.length 2 (gL cSPeriod dSPeriod a0_p.Periods))), (81, .c (.ptr 0 10)), (80, .c (.int .i64 ((a0_p.Periods.getD i_29.toNat dSPeriod).At))), (79, .c (.ptr 1 0)), (78, .c (.bool (decide (0 < i_29)))), (77, .c (.bool (decide (0 < i_29)))), (76, .c (.int .i64 i_29)), (75, .c (.bool false)), (74, .c (.bool false)), (73, .c (.raw (.tuple #[]))), (72, .c (.raw (.tuple #[]))), (71, .c (.raw (.tuple #[]))), (70, .c (.bool (decide (i_29 = 0)))), (69, .c (.bool (decide (i_29 = 0)))), (68, .c (.int .i64 i_29)), (1, .c (.ptr 0 0)), (3, .c (.int .i64 i_29)), (4, .c (.ptr 1 0))]) mixed [[], [0], [0, 1], [0, 1, 2], [0, 1, 2, 3], [0, 1, 2, 3, 4], [0, 1, 2, 3, 4, 5], [0, 1, 2, 3, 4, 5, 6], [0, 1, 2, 3, 4, 5, 6, 7], [0, 1, 2, 3, 4, 5, 6, 7, 8], [0, 1, 2, 3, 4, 5, 6, 7, 8, 9], [0, 1, 2, 3, 4, 5, 6, 7, 8, 9, 10], [0, 1, 2, 3, 4, 5, 6, 7, 8, 9, 10, 11], [0, 1, 2, 3, 4, 5, 6, 7, 8, 9, 10], [0, 1, 2, 3, 4, 5, 6, 7, 8, 9, 10, 13], [0, 1, 2, 3, 4, 5, 6, 7, 8, 9, 10], [0, 1, 2, 3, 4, 5, 6, 7, 8, 9, 10, 15], [0, 1, 2, 3, 4, 5, 6, 7, 8, 9, 10, 13, 14, 15, 16], [0, 1, 2, 3, 4, 5, 6, 7, 8, 9, 10, 13, 14, 15, 16, 17], [0, 1, 2, 3, 4, 5, 6, 7, 8, 9, 10, 13, 14, 15, 16, 17, 18], [0, 1, 2, 3, 4, 5, 6, 7, 8, 9, 10, 11, 12, 13, 14, 15, 16, 17, 18, 19], [0, 1, 2, 3, 4, 5, 6, 7, 8, 9, 10, 11, 12, 13, 14, 15, 16, 17, 18, 19, 20], [0, 1, 2, 3, 4, 5, 6, 7, 8, 9, 10, 11, 12, 13, 14, 15, 16, 17, 18, 19, 20, 21], [0, 1, 2, 3, 4, 5, 6, 7, 8, 9, 10, 11, 12, 13, 14, 15, 16, 17, 18, 19, 20, 21, 22], [0, 1, 2, 3, 4, 5, 6, 7, 8, 9, 10, 11, 12, 13, 14, 15, 16, 17, 18, 19, 20, 21], [0, 1, 2, 3, 4, 5, 6, 7, 8, 9, 10, 11, 12, 13, 14, 15, 16, 17, 18, 19, 20, 21, 24], [0, 1, 2, 3, 4, 5, 6, 7, 8, 9, 10, 11, 12, 13, 14, 15, 16, 17, 18, 19, 20, 21, 24, 25], [0, 1, 2, 3, 4, 5, 6, 7, 8, 9, 10, 11, 12, 13, 14, 15, 16, 17, 18, 19, 20, 21, 22, 23, 24, 25, 26], [0, 1, 2, 3, 4, 5, 6, 7, 8, 9, 10, 11, 12, 13, 14, 15, 16, 17, 18, 19, 20, 21, 22, 23, 24, 25, 26, 27], [0, 1, 2, 3, 4, 5, 6, 7, 8, 9, 10, 11, 12, 13, 14, 15, 16, 17, 18, 19, 20, 21, 22, 23, 24, 25, 26, 27, 28], [0, 1, 2, 3, 4, 5, 6, 7, 8, 9, 10, 11, 12, 13, 14, 15, 16, 17, 18, 19, 20, 21, 22, 23, 24, 25, 26, 27, 28, 29]] 31 0 rfl rfl ?_ ?_
              · refine QChain.run rfl (.plain rfl) rfl (q_move rfl rfl) ?_
                refine QChain.run rfl (.plain rfl) rfl (q_eql rfl rfl rfl) ?_
                refine QChain.run rfl (.plain rfl) rfl (q_move rfl rfl) ?_
                refine QChain.skip rfl ⟨2, 70, true, rfl, rfl, (.inl (gF g55))⟩ rfl ?_
                refine QChain.skip rfl ⟨2, 70, true, rfl, rfl, (.inl (gF g55))⟩ rfl ?_
                refine QChain.skip rfl ⟨2, 70, true, rfl, rfl, (.inl (gF g55))⟩ rfl ?_
                refine QChain.run rfl (.plain rfl) rfl (q_pick_f rfl rfl g55 rfl) ?_
                refine QChain.run rfl (.plain rfl) rfl (q_move rfl rfl) ?_
                refine QChain.run rfl (.guard 7 75 false rfl rfl rfl) rfl (q_move rfl rfl) ?_
                refine QChain.run rfl (.guard 7 75 false rfl rfl rfl) rfl (q_gtr rfl rfl rfl) ?_
                refine QChain.run rfl (.guard 7 75 false rfl rfl rfl) rfl (q_move rfl rfl) ?_
                refine QChain.run rfl (.guard 10 78 true rfl rfl (gT g63)) rfl (q_field_ptr rfl rfl fd38_0) ?_
                refine QChain.run rfl (.guard 10 78 true rfl rfl (gT g63)) rfl (q_load_ptr rfl rfl rfl rfl ty3) ?_
                refine QChain.run rfl (.guard 10 78 true rfl rfl (gT g63)) rfl (q_field_ptr rfl rfl fd31_9) ?_
                refine QChain.run rfl (.guard 10 78 true rfl rfl (gT g63)) rfl (q_load_ptr rfl rfl rfl rfl ty29) ?_
                refine QChain.run rfl (.guard 10 78 true rfl rfl (gT g63)) rfl (q_move rfl rfl) ?_
                refine QChain.run rfl (.guard 10 78 true rfl rfl (gT g63)) rfl (q_sub rfl rfl rfl) ?_
                refine QChain.run rfl (.guard 10 78 true rfl rfl (gT g63)) rfl (q_index_vec rfl rfl rfl sl29 rfl g64.1 g64.2) ?_
                refine QChain.run rfl (.guard 10 78 true rfl rfl (gT g63)) rfl (q_field_eptr rfl rfl fd38_0 rfl) ?_
                refine QChain.run rfl (.guard 10 78 true rfl rfl (gT g63)) rfl (q_load_eptr rfl rfl ty3) ?_
                refine QChain.run rfl (.guard 10 78 true rfl rfl (gT g63)) rfl (q_leq rfl rfl rfl) ?_
                refine QChain.run rfl (.guard 10 78 true rfl rfl (gT g63)) rfl (q_move rfl rfl) ?_
                refine QChain.skip rfl ⟨21, 89, false, rfl, rfl, (.inl (gT g65))⟩ rfl ?_
                refine QChain.skip rfl ⟨21, 89, false, rfl, rfl, (.inl (gT g65))⟩ rfl ?_
                refine QChain.skip rfl ⟨21, 89, false, rfl, rfl, (.inl (gT g65))⟩ rfl ?_
                refine QChain.skip rfl ⟨21, 89, false, rfl, rfl, (.inl (gT g65))⟩ rfl ?_
                refine QChain.skip rfl ⟨21, 89, false, rfl, rfl, (.inl (gT g65))⟩ rfl ?_
                refine QChain.skip rfl ⟨21, 89, false, rfl, rfl, (.inl (gT g65))⟩ rfl ?_
                refine QChain.run rfl (.guard 10 78 true rfl rfl (gT g63)) rfl (q_pick_t rfl rfl g65 rfl) ?_
                refine QChain.run rfl (.guard 7 75 false rfl rfl rfl) rfl (q_pick_t rfl rfl g63 rfl) ?_
                refine QChain.run rfl (.plain rfl) rfl (q_pick_f rfl rfl rfl rfl) ?_
                exact QChain.nil _ _
              refine (show SOps _ _ _ [] _ _ from ?_)
              refine SOps.sub (st' := ⟨[(1, .c (.ptr 0 0)), (3, .c (.int .i64 i_29)), (4, .c (.ptr 1 0)), (98, .c (.bool true))], [.box [.int .i64 a0_p.ID, .int .i64 a0_p.Level, .int .i64 a0_p.Purpose, .int .i64 a0_p.Kind, .int .i64 a0_p.Conn, .str a0_p.Txn, .int .i64 a0_p.Span_From, .int .i64 a0_p.Span_To, .int .i64 a0_p.Start, .int .i64 a0_p.Duration, .vec a0_p.Periods.length 2 (gL cSPeriod dSPeriod a0_p.Periods)], .box [.int .i64 ((a0_p.Periods.getD i_29.toNat dSPeriod).At), .int .i64 ((a0_p.Periods.getD i_29.toNat dSPeriod).Limit)]]⟩) (sub_gen [0, 1] rfl rfl ⟨zc rfl rfl, zc rfl rfl, zc rfl rfl, zc rfl rfl, trivial⟩ ⟨⟨_, rfl, ⟨ii rfl rfl, ii rfl rfl, ii rfl rfl, ii rfl rfl, ii rfl rfl, ii rfl rfl, ii rfl rfl, ii rfl rfl, ii rfl rfl, ii rfl rfl, ii rfl rfl, trivial⟩⟩, ⟨_, rfl, ⟨ii rfl rfl, ii rfl rfl, trivial⟩⟩, trivial⟩) ?_
              refine SOps.nil ?_
              refine SCode.cond_t rfl rfl ?_
              refine SCode.seq ?_
              refine SCode.region (show SOps _ _ _ [0] _ _ from ?_)
              refine SOps.q rfl (.plain rfl) rfl (q_assign rfl rfl) ?_
              refine SOps.sub (st' := ⟨[(2, .c (.int .i64 1))], []⟩) (sub_gen [] rfl rfl ⟨zc rfl rfl, trivial⟩ trivial) ?_
              refine SOps.nil ?_
              refine SCode.ret ?_
              obtain rfl := Option.some.inj h
              exact ⟨⟨[(2, .c (.int .i64 1))], []⟩, _, sub_gen [] rfl rfl ⟨zc rfl rfl, trivial⟩ trivial, resA1 (v := .c (.int .i64 1)) rfl rfl, rfl⟩
            obtain ⟨c_66, g67, h⟩ := bind_out h
            try dsimp only at h
            refine SCode.draw (s' := [(98, .c (.bool (decide (c_66 < (a0_p.Periods.getD i_29.toNat dSPeriod).At)))), (97, .c (.bool (decide (c_66 < (a0_p.Periods.getD i_29.toNat dSPeriod).At)))), (96, .c (.bool (decide (c_66 < (a0_p.Periods.getD i_29.toNat dSPeriod).At)))), (95, .c (.bool (decide (c_66 < (a0_p.Periods.getD i_29.toNat dSPeriod).At)))), (94, .c (.int .i64 c_66)), (93, .c (.int .i64 a0_p.Kind)), (92, .c (.ptr 0 3)), (91, .c (.int .i64 ((a0_p.Periods.getD i_29.toNat dSPeriod).At))), (90, .c (.ptr 1 0)), (89, .c (.bool (decide ((a0_p.Periods.getD i_29.toNat dSPeriod).At ≤ (a0_p.Periods.getD (IntKind.wrap .i64 (i_29 - 1)).toNat dSPeriod).At)))), (88, .c (.bool (decide ((a0_p.Periods.getD i_29.toNat dSPeriod).At ≤ (a0_p.Periods.getD (IntKind.wrap .i64 (i_29 - 1)).toNat dSPeriod).At)))), (87, .c (.int .i64 ((a0_p.Periods.getD (IntKind.wrap .i64 (i_29 - 1)).toNat dSPeriod).At))), (86, .c (.eptr 2 (cSPeriod (a0_p.Periods.getD (IntKind.wrap .i64 (i_29 - 1)).toNat dSPeriod)) 0)), (85, .c (.eptr 2 (cSPeriod (a0_p.Periods.getD (IntKind.wrap .i64 (i_29 - 1)).toNat dSPeriod)) 0)), (84, .c (.int .i64 (IntKind.wrap .i64 (i_29 - 1)))), (83, .c (.int .i64 i_29)), (82, .c (.vec a0_p.Periods.length 2 (gL cSPeriod dSPeriod a0_p.Periods))), (81, .c (.ptr 0 10)), (80, .c (.int .i64 ((a0_p.Periods.getD i_29.toNat dSPeriod).At))), (79, .c (.ptr 1 0)), (78, .c (.bool (decide (0 < i_29)))), (77, .c (.bool (decide (0 < i_29)))), (76, .c (.int .i64 i_29)), (75, .c (.bool false)), (74, .c (.bool false)), (73, .c (.raw (.tuple #[]))), (72, .c (.raw (.tuple #[]))), (71, .c (.raw (.tuple #[]))), (70, .c (.bool (decide (i_29 = 0)))), (69, .c (.bool (decide (i_29 = 0)))), (68, .c (.int .i64 i_29)), (1, .c (.ptr 0 0)), (3, .c (.int .i64 i_29)), (4, .c (.ptr 1 0))]) mixed [[], [0], [0, 1], [0, 1, 2], [0, 1, 2, 3], [0, 1, 2, 3, 4], [0, 1, 2, 3, 4, 5], [0, 1, 2, 3, 4, 5, 6], [0, 1, 2, 3, 4, 5, 6, 7], [0, 1, 2, 3, 4, 5, 6, 7, 8], [0, 1, 2, 3, 4, 5, 6, 7, 8, 9], [0, 1, 2, 3, 4, 5, 6, 7, 8, 9, 10], [0, 1, 2, 3, 4, 5, 6, 7, 8, 9, 10, 11], [0, 1, 2, 3, 4, 5, 6, 7, 8, 9, 10], [0, 1, 2, 3, 4, 5, 6, 7, 8, 9, 10, 13], [0, 1, 2, 3, 4, 5, 6, 7, 8, 9, 10], [0, 1, 2, 3, 4, 5, 6, 7, 8, 9, 10, 15], [0, 1, 2, 3, 4, 5, 6, 7, 8, 9, 10, 13, 14, 15, 16], [0, 1, 2, 3, 4, 5, 6, 7, 8, 9, 10, 13, 14, 15, 16, 17], [0, 1, 2, 3, 4, 5, 6, 7, 8, 9, 10, 13, 14, 15, 16, 17, 18], [0, 1, 2, 3, 4, 5, 6, 7, 8, 9, 10, 11, 12, 13, 14, 15, 16, 17, 18, 19], [0, 1, 2, 3, 4, 5, 6, 7, 8, 9, 10, 11, 12, 13, 14, 15, 16, 17, 18, 19, 20], [0, 1, 2, 3, 4, 5, 6, 7, 8, 9, 10, 11, 12, 13, 14, 15, 16, 17, 18, 19, 20, 21], [0, 1, 2, 3, 4, 5, 6, 7, 8, 9, 10, 11, 12, 13, 14, 15, 16, 17, 18, 19, 20, 21, 22], [0, 1, 2, 3, 4, 5, 6, 7, 8, 9, 10, 11, 12, 13, 14, 15, 16, 17, 18, 19, 20, 21], [0, 1, 2, 3, 4, 5, 6, 7, 8, 9, 10, 11, 12, 13, 14, 15, 16, 17, 18, 19, 20, 21, 24], [0, 1, 2, 3, 4, 5, 6, 7, 8, 9, 10, 11, 12, 13, 14, 15, 16, 17, 18, 19, 20, 21, 24, 25], [0, 1, 2, 3, 4, 5, 6, 7, 8, 9, 10, 11, 12, 13, 14, 15, 16, 17, 18, 19, 20, 21, 22, 23, 24, 25, 26], [0, 1, 2, 3, 4, 5, 6, 7, 8, 9, 10, 11, 12, 13, 14, 15, 16, 17, 18, 19, 20, 21, 22, 23, 24, 25, 26, 27], [0, 1, 2, 3, 4, 5, 6, 7, 8, 9, 10, 11, 12, 13, 14, 15, 16, 17, 18, 19, 20, 21, 22, 23, 24, 25, 26, 27, 28], [0, 1, 2, 3, 4, 5, 6, 7, 8, 9, 10, 11, 12, 13, 14, 15, 16, 17, 18, 19, 20, 21, 22, 23, 24, 25, 26, 27, 28, 29]] 31 0 rfl rfl ?_ ?_
            · refine QChain.run rfl (.plain rfl) rfl (q_move rfl rfl) ?_
              refine QChain.run rfl (.plain rfl) rfl (q_eql rfl rfl rfl) ?_
              refine QChain.run rfl (.plain rfl) rfl (q_move rfl rfl) ?_
              refine QChain.skip rfl ⟨2, 70, true, rfl, rfl, (.inl (gF g55))⟩ rfl ?_
              refine QChain.skip rfl ⟨2, 70, true, rfl, rfl, (.inl (gF g55))⟩ rfl ?_
              refine QChain.skip rfl ⟨2, 70, true, rfl, rfl, (.inl (gF g55))⟩ rfl ?_
              refine QChain.run rfl (.plain rfl) rfl (q_pick_f rfl rfl g55 rfl) ?_
              refine QChain.run rfl (.plain rfl) rfl (q_move rfl rfl) ?_
              refine QChain.run rfl (.guard 7 75 false rfl rfl rfl) rfl (q_move rfl rfl) ?_
              refine QChain.run rfl (.guard 7 75 false rfl rfl rfl) rfl (q_gtr rfl rfl rfl) ?_
              refine QChain.run rfl (.guard 7 75 false rfl rfl rfl) rfl (q_move rfl rfl) ?_
              refine QChain.run rfl (.guard 10 78 true rfl rfl (gT g63)) rfl (q_field_ptr rfl rfl fd38_0) ?_
              refine QChain.run rfl (.guard 10 78 true rfl rfl (gT g63)) rfl (q_load_ptr rfl rfl rfl rfl ty3) ?_
              refine QChain.run rfl (.guard 10 78 true rfl rfl (gT g63)) rfl (q_field_ptr rfl rfl fd31_9) ?_
              refine QChain.run rfl (.guard 10 78 true rfl rfl (gT g63)) rfl (q_load_ptr rfl rfl rfl rfl ty29) ?_
              refine QChain.run rfl (.guard 10 78 true rfl rfl (gT g63)) rfl (q_move rfl rfl) ?_
              refine QChain.run rfl (.guard 10 78 true rfl rfl (gT g63)) rfl (q_sub rfl rfl rfl) ?_
              refine QChain.run rfl (.guard 10 78 true rfl rfl (gT g63)) rfl (q_index_vec rfl rfl rfl sl29 rfl g64.1 g64.2) ?_
              refine QChain.run rfl (.guard 10 78 true rfl rfl (gT g63)) rfl (q_field_eptr rfl rfl fd38_0 rfl) ?_
              refine QChain.run rfl (.guard 10 78 true rfl rfl (gT g63)) rfl (q_load_eptr rfl rfl ty3) ?_
              refine QChain.run rfl (.guard 10 78 true rfl rfl (gT g63)) rfl (q_leq rfl rfl rfl) ?_
              refine QChain.run rfl (.guard 10 78 true rfl rfl (gT g63)) rfl (q_move rfl rfl) ?_
              refine QChain.run rfl (.guard 21 89 false rfl rfl (gF g65)) rfl (q_field_ptr rfl rfl fd38_0) ?_
              refine QChain.run rfl (.guard 21 89 false rfl rfl (gF g65)) rfl (q_load_ptr rfl rfl rfl rfl ty3) ?_
              refine QChain.run rfl (.guard 21 89 false rfl rfl (gF g65)) rfl (q_field_ptr rfl rfl fd31_3) ?_
              refine QChain.run rfl (.guard 21 89 false rfl rfl (gF g65)) rfl (q_load_ptr rfl rfl rfl rfl ty3) ?_
              refine QChain.run rfl (.guard 21 89 false rfl rfl (gF g65)) rfl (q_call (chargenetref15_last_ok F a0_p.Kind c_66 g67) [] rfl fn30 ⟨⟨_, rfl, .inl ⟨rfl, rfl⟩⟩, trivial⟩ (.inl rfl)) ?_
              refine QChain.run rfl (.guard 21 89 false rfl rfl (gF g65)) rfl (q_gtr rfl rfl rfl) ?_
              refine QChain.run rfl (.guard 10 78 true rfl rfl (gT g63)) rfl (q_pick_f rfl rfl g65 rfl) ?_
              refine QChain.run rfl (.guard 7 75 false rfl rfl rfl) rfl (q_pick_t rfl rfl g63 rfl) ?_
              refine QChain.run rfl (.plain rfl) rfl (q_pick_f rfl rfl rfl rfl) ?_
              exact QChain.nil _ _
            refine (show SOps _ _ _ [] _ _ from ?_)
            refine SOps.sub (st' := ⟨[(1, .c (.ptr 0 0)), (3, .c (.int .i64 i_29)), (4, .c (.ptr 1 0)), (98, .c (.bool (decide (c_66 < (a0_p.Periods.getD i_29.toNat dSPeriod).At))))], [.box [.int .i64 a0_p.ID, .int .i64 a0_p.Level, .int .i64 a0_p.Purpose, .int .i64 a0_p.Kind, .int .i64 a0_p.Conn, .str a0_p.Txn, .int .i64 a0_p.Span_From, .int .i64 a0_p.Span_To, .int .i64 a0_p.Start, .int .i64 a0_p.Duration, .vec a0_p.Periods.length 2 (gL cSPeriod dSPeriod a0_p.Periods)], .box [.int .i64 ((a0_p.Periods.getD i_29.toNat dSPeriod).At), .int .i64 ((a0_p.Periods.getD i_29.toNat dSPeriod).Limit)]]⟩) (sub_gen [0, 1] rfl rfl ⟨zc rfl rfl, zc rfl rfl, zc rfl rfl, zc rfl rfl, trivial⟩ ⟨⟨_, rfl, ⟨ii rfl rfl, ii rfl rfl, ii rfl rfl, ii rfl rfl, ii rfl rfl, ii rfl rfl, ii rfl rfl, ii rfl rfl, ii rfl rfl, ii rfl rfl, ii rfl rfl, trivial⟩⟩, ⟨_, rfl, ⟨ii rfl rfl, ii rfl rfl, trivial⟩⟩, trivial⟩) ?_
            refine SOps.nil ?_
            rcases cond_out h with ⟨g68, h⟩ | ⟨g68, h⟩
            · refine SCode.cond_t rfl g68 ?_
              refine SCode.seq ?_
              refine SCode.region (show SOps _ _ _ [0] _ _ from ?_)
              refine SOps.q rfl (.plain rfl) rfl (q_assign rfl rfl) ?_
              refine SOps.sub (st' := ⟨[(2, .c (.int .i64 1))], []⟩) (sub_gen [] rfl rfl ⟨zc rfl rfl, trivial⟩ trivial) ?_
              refine SOps.nil ?_
              refine SCode.ret ?_
              obtain rfl := Option.some.inj h
              exact ⟨⟨[(2, .c (.int .i64 1))], []⟩, _, sub_gen [] rfl rfl ⟨zc rfl rfl, trivial⟩ trivial, resA1 (v := .c (.int .i64 1)) rfl rfl, rfl⟩
            refine SCode.cond_f rfl g68 ?_
            refine SCode.skip ?_
            exact ⟨(), h, sub_gen [0, 1] rfl rfl ⟨zc rfl rfl, zc rfl rfl, zc rfl rfl, trivial⟩ ⟨⟨_, rfl, ⟨ii rfl rfl, ii rfl rfl, ii rfl rfl, ii rfl rfl, ii rfl rfl, ii rfl rfl, ii rfl rfl, ii rfl rfl, ii rfl rfl, ii rfl rfl, ii rfl rfl, trivial⟩⟩, ⟨_, rfl, ⟨ii rfl rfl, ii rfl rfl, trivial⟩⟩, trivial⟩⟩
          refine SCode.draw (s' := [(98, .c (.bool false)), (97, .c (.bool false)), (96, .c (.raw (.tuple #[]))), (95, .c (.raw (.tuple #[]))), (94, .c (.raw (.tuple #[]))), (93, .c (.raw (.tuple #[]))), (92, .c (.raw (.tuple #[]))), (91, .c (.raw (.tuple #[]))), (90, .c (.raw (.tuple #[]))), (89, .c (.raw (.tuple #[]))), (88, .c (.raw (.tuple #[]))), (87, .c (.raw (.tuple #[]))), (86, .c (.raw (.tuple #[]))), (85, .c (.raw (.tuple #[]))), (84, .c (.raw (.tuple #[]))), (83, .c (.raw (.tuple #[]))), (82, .c (.raw (.tuple #[]))), (81, .c (.raw (.tuple #[]))), (80, .c (.raw (.tuple #[]))), (79, .c (.raw (.tuple #[]))), (78, .c (.bool (decide (0 < i_29)))), (77, .c (.bool (decide (0 < i_29)))), (76, .c (.int .i64 i_29)), (75, .c (.bool false)), (74, .c (.bool false)), (73, .c (.raw (.tuple #[]))), (72, .c (.raw (.tuple #[]))), (71, .c (.raw (.tuple #[]))), (70, .c (.bool (decide (i_29 = 0)))), (69, .c (.bool (decide (i_29 = 0)))), (68, .c (.int .i64 i_29)), (1, .c (.ptr 0 0)), (3, .c (.int .i64 i_29)), (4, .c (.ptr 1 0))]) mixed [[], [0], [0, 1], [0, 1, 2], [0, 1, 2, 3], [0, 1, 2, 3, 4], [0, 1, 2, 3, 4, 5], [0, 1, 2, 3, 4, 5, 6], [0, 1, 2, 3, 4, 5, 6, 7], [0, 1, 2, 3, 4, 5, 6, 7, 8], [0, 1, 2, 3, 4, 5, 6, 7, 8, 9], [0, 1, 2, 3, 4, 5, 6, 7, 8, 9, 10], [0, 1, 2, 3, 4, 5, 6, 7, 8, 9, 10, 11], [0, 1, 2, 3, 4, 5, 6, 7, 8, 9, 10], [0, 1, 2, 3, 4, 5, 6, 7, 8, 9, 10, 13], [0, 1, 2, 3, 4, 5, 6, 7, 8, 9, 10], [0, 1, 2, 3, 4, 5, 6, 7, 8, 9, 10, 15], [0, 1, 2, 3, 4, 5, 6, 7, 8, 9, 10, 13, 14, 15, 16], [0, 1, 2, 3, 4, 5, 6, 7, 8, 9, 10, 13, 14, 15, 16, 17], [0, 1, 2, 3, 4, 5, 6, 7, 8, 9, 10, 13, 14, 15, 16, 17, 18], [0, 1, 2, 3, 4, 5, 6, 7, 8, 9, 10, 11, 12, 13, 14, 15, 16, 17, 18, 19], [0, 1, 2, 3, 4, 5, 6, 7, 8, 9, 10, 11, 12, 13, 14, 15, 16, 17, 18, 19, 20], [0, 1, 2, 3, 4, 5, 6, 7, 8, 9, 10, 11, 12, 13, 14, 15, 16, 17, 18, 19, 20, 21], [0, 1, 2, 3, 4, 5, 6, 7, 8, 9, 10, 11, 12, 13, 14, 15, 16, 17, 18, 19, 20, 21, 22], [0, 1, 2, 3, 4, 5, 6, 7, 8, 9, 10, 11, 12, 13, 14, 15, 16, 17, 18, 19, 20, 21], [0, 1, 2, 3, 4, 5, 6, 7, 8, 9, 10, 11, 12, 13, 14, 15, 16, 17, 18, 19, 20, 21, 24], [0, 1, 2, 3, 4, 5, 6, 7, 8, 9, 10, 11, 12, 13, 14, 15, 16, 17, 18, 19, 20, 21, 24, 25], [0, 1, 2, 3, 4, 5, 6, 7, 8, 9, 10, 11, 12, 13, 14, 15, 16, 17, 18, 19, 20, 21, 22, 23, 24, 25, 26], [0, 1, 2, 3, 4, 5, 6, 7, 8, 9, 10, 11, 12, 13, 14, 15, 16, 17, 18, 19, 20, 21, 22, 23, 24, 25, 26, 27], [0, 1, 2, 3, 4, 5, 6, 7, 8, 9, 10, 11, 12, 13, 14, 15, 16, 17, 18, 19, 20, 21, 22, 23, 24, 25, 26, 27, 28], [0, 1, 2, 3, 4, 5, 6, 7, 8, 9, 10, 11, 12, 13, 14, 15, 16, 17, 18, 19, 20, 21, 22, 23, 24, 25, 26, 27, 28, 29]] 31 0 rfl rfl ?_ ?_
          · refine QChain.run rfl (.plain rfl) rfl (q_move rfl rfl) ?_
            refine QChain.run rfl (.plain rfl) rfl (q_eql rfl rfl rfl) ?_
            refine QChain.run rfl (.plain rfl) rfl (q_move rfl rfl) ?_
            refine QChain.skip rfl ⟨2, 70, true, rfl, rfl, (.inl (gF g55))⟩ rfl ?_
            refine QChain.skip rfl ⟨2, 70, true, rfl, rfl, (.inl (gF g55))⟩ rfl ?_
            refine QChain.skip rfl ⟨2, 70, true, rfl, rfl, (.inl (gF g55))⟩ rfl ?_
            refine QChain.run rfl (.plain rfl) rfl (q_pick_f rfl rfl g55 rfl) ?_
            refine QChain.run rfl (.plain rfl) rfl (q_move rfl rfl) ?_
            refine QChain.run rfl (.guard 7 75 false rfl rfl rfl) rfl (q_move rfl rfl) ?_
            refine QChain.run rfl (.guard 7 75 false rfl rfl rfl) rfl (q_gtr rfl rfl rfl) ?_
            refine QChain.run rfl (.guard 7 75 false rfl rfl rfl) rfl (q_move rfl rfl) ?_
            refine QChain.skip rfl ⟨10, 78, true, rfl, rfl, (.inl (gF g63))⟩ rfl ?_
            refine QChain.skip rfl ⟨10, 78, true, rfl, rfl, (.inl (gF g63))⟩ rfl ?_
            refine QChain.skip rfl ⟨10, 78, true, rfl, rfl, (.inl (gF g63))⟩ rfl ?_
            refine QChain.skip rfl ⟨10, 78, true, rfl, rfl, (.inl (gF g63))⟩ rfl ?_
            refine QChain.skip rfl ⟨10, 78, true, rfl, rfl, (.inl (gF g63))⟩ rfl ?_
            refine QChain.skip rfl ⟨10, 78, true, rfl, rfl, (.inl (gF g63))⟩ rfl ?_
            refine QChain.skip rfl ⟨10, 78, true, rfl, rfl, (.inl (gF g63))⟩ rfl ?_
            refine QChain.skip rfl ⟨10, 78, true, rfl, rfl, (.inl (gF g63))⟩ rfl ?_
            refine QChain.skip rfl ⟨10, 78, true, rfl, rfl, (.inl (gF g63))⟩ rfl ?_
            refine QChain.skip rfl ⟨10, 78, true, rfl, rfl, (.inl (gF g63))⟩ rfl ?_
            refine QChain.skip rfl ⟨10, 78, true, rfl, rfl, (.inl (gF g63))⟩ rfl ?_
            refine QChain.skip rfl ⟨21, 89, false, rfl, rfl, (.inr rfl)⟩ rfl ?_
            refine QChain.skip rfl ⟨21, 89, false, rfl, rfl, (.inr rfl)⟩ rfl ?_
            refine QChain.skip rfl ⟨21, 89, false, rfl, rfl, (.inr rfl)⟩ rfl ?_
            refine QChain.skip rfl ⟨21, 89, false, rfl, rfl, (.inr rfl)⟩ rfl ?_
            refine QChain.skip rfl ⟨21, 89, false, rfl, rfl, (.inr rfl)⟩ rfl ?_
            refine QChain.skip rfl ⟨21, 89, false, rfl, rfl, (.inr rfl)⟩ rfl ?_
            refine QChain.skip rfl ⟨10, 78, true, rfl, rfl, (.inl (gF g63))⟩ rfl ?_
            refine QChain.run rfl (.guard 7 75 false rfl rfl rfl) rfl (q_pick_f rfl rfl g63 rfl) ?_
            refine QChain.run rfl (.plain rfl) rfl (q_pick_f rfl rfl rfl rfl) ?_
            exact QChain.nil _ _
          refine (show SOps _ _ _ [] _ _ from ?_)
          refine SOps.sub (st' := ⟨[(1, .c (.ptr 0 0)), (3, .c (.int .i64 i_29)), (4, .c (.ptr 1 0)), (98, .c (.bool false))], [.box [.int .i64 a0_p.ID, .int .i64 a0_p.Level, .int .i64 a0_p.Purpose, .int .i64 a0_p.Kind, .int .i64 a0_p.Conn, .str a0_p.Txn, .int .i64 a0_p.Span_From, .int .i64 a0_p.Span_To, .int .i64 a0_p.Start, .int .i64 a0_p.Duration, .vec a0_p.Periods.length 2 (gL cSPeriod dSPeriod a0_p.Periods)], .box [.int .i64 ((a0_p.Periods.getD i_29.toNat dSPeriod).At), .int .i64 ((a0_p.Periods.getD i_29.toNat dSPeriod).Limit)]]⟩) (sub_gen [0, 1] rfl rfl ⟨zc rfl rfl, zc rfl rfl, zc rfl rfl, zc rfl rfl, trivial⟩ ⟨⟨_, rfl, ⟨ii rfl rfl, ii rfl rfl, ii rfl rfl, ii rfl rfl, ii rfl rfl, ii rfl rfl, ii rfl rfl, ii rfl rfl, ii rfl rfl, ii rfl rfl, ii rfl rfl, trivial⟩⟩, ⟨_, rfl, ⟨ii rfl rfl, ii rfl rfl, trivial⟩⟩, trivial⟩) ?_
          refine SOps.nil ?_
          refine SCode.cond_f rfl rfl ?_
          refine SCode.skip ?_
          exact ⟨(), h, sub_gen [0, 1] rfl rfl ⟨zc rfl rfl, zc rfl rfl, zc rfl rfl, trivial⟩ ⟨⟨_, rfl, ⟨ii rfl rfl, ii rfl rfl, ii rfl rfl, ii rfl rfl, ii rfl rfl, ii rfl rfl, ii rfl rfl, ii rfl rfl, ii rfl rfl, ii rfl rfl, ii rfl rfl, trivial⟩⟩, ⟨_, rfl, ⟨ii rfl rfl, ii rfl rfl, trivial⟩⟩, trivial⟩⟩
        rintro ⟨⟩ h
        show SCode _ _ _ ⟨[(1, .c (.ptr 0 0)), (3, .c (.int .i64 i_29)), (4, .c (.ptr 1 0))], [.box [.int .i64 a0_p.ID, .int .i64 a0_p.Level, .int .i64 a0_p.Purpose, .int .i64 a0_p.Kind, .int .i64 a0_p.Conn, .str a0_p.Txn, .int .i64 a0_p.Span_From, .int .i64 a0_p.Span_To, .int .i64 a0_p.Start, .int .i64 a0_p.Duration, .vec a0_p.Periods.length 2 (gL cSPeriod dSPeriod a0_p.Periods)], .box [.int .i64 ((a0_p.Periods.getD i_29.toNat dSPeriod).At), .int .i64 ((a0_p.Periods.getD i_29.toNat dSPeriod).Limit)]]⟩ _
        replace h : chargenetref15_Valid_p54 a0_p i_29 (fun i_29 => chargenetref15_Valid_l49 F a0_p n_49 i_29) = some r := h
        unfold chargenetref15_Valid_p54 at h
        refine SCode.seq ?_
        rcases cond_out h with ⟨g52, h⟩ | ⟨g52, h⟩
        · refine SCode.region (show SOps _ _ _ [0, 1, 2, 3, 4, 5, 6, 7] _ _ from ?_)
          refine SOps.q rfl (.plain rfl) rfl (q_field_ptr rfl rfl fd38_1) ?_
          refine SOps.q rfl (.plain rfl) rfl (q_load_ptr rfl rfl rfl rfl ty3) ?_
          refine SOps.q rfl (.plain rfl) rfl (q_lss rfl rfl rfl) ?_
          refine SOps.q rfl (.plain rfl) rfl (q_move rfl rfl) ?_
          refine SOps.skip rfl 3 102 false rfl rfl (.inl (gT g52)) rfl ?_
          refine SOps.skip rfl 3 102 false rfl rfl (.inl (gT g52)) rfl ?_
          refine SOps.skip rfl 3 102 false rfl rfl (.inl (gT g52)) rfl ?_
          refine SOps.q rfl (.plain rfl) rfl (q_pick_t rfl rfl g52 rfl) ?_
          refine SOps.sub (st' := ⟨[(1, .c (.ptr 0 0)), (3, .c (.int .i64 i_29)), (106, .c (.bool true))], [.box [.int .i64 a0_p.ID, .int .i64 a0_p.Level, .int .i64 a0_p.Purpose, .int .i64 a0_p.Kind, .int .i64 a0_p.Conn, .str a0_p.Txn, .int .i64 a0_p.Span_From, .int .i64 a0_p.Span_To, .int .i64 a0_p.Start, .int .i64 a0_p.Duration, .vec a0_p.Periods.length 2 (gL cSPeriod dSPeriod a0_p.Periods)]]⟩) (sub_gen [0] rfl rfl ⟨zc rfl rfl, zc rfl rfl, zc rfl rfl, trivial⟩ ⟨⟨_, rfl, ⟨ii rfl rfl, ii rfl rfl, ii rfl rfl, ii rfl rfl, ii rfl rfl, ii rfl rfl, ii rfl rfl, ii rfl rfl, ii rfl rfl, ii rfl rfl, ii rfl rfl, trivial⟩⟩, trivial⟩) ?_
          refine SOps.nil ?_
          refine SCode.cond_t rfl rfl ?_
          refine SCode.seq ?_
          refine SCode.region (show SOps _ _ _ [0] _ _ from ?_)
          refine SOps.q rfl (.plain rfl) rfl (q_assign rfl rfl) ?_
          refine SOps.sub (st' := ⟨[(2, .c (.int .i64 2))], []⟩) (sub_gen [] rfl rfl ⟨zc rfl rfl, trivial⟩ trivial) ?_
          refine SOps.nil ?_
          refine SCode.ret ?_
          obtain rfl := Option.some.inj h
          exact ⟨⟨[(2, .c (.int .i64 2))], []⟩, _, sub_gen [] rfl rfl ⟨zc rfl rfl, trivial⟩ trivial, resA1 (v := .c (.int .i64 2)) rfl rfl, rfl⟩
        refine SCode.region (show SOps _ _ _ [0, 1, 2, 3, 4, 5, 6, 7] _ _ from ?_)
        refine SOps.q rfl (.plain rfl) rfl (q_field_ptr rfl rfl fd38_1) ?_
        refine SOps.q rfl (.plain rfl) rfl (q_load_ptr rfl rfl rfl rfl ty3) ?_
        refine SOps.q rfl (.plain rfl) rfl (q_lss rfl rfl rfl) ?_
        refine SOps.q rfl (.plain rfl) rfl (q_move rfl rfl) ?_
        refine SOps.q rfl (.guard 3 102 false rfl rfl (gF g52)) rfl (q_field_ptr rfl rfl fd38_1) ?_
        refine SOps.q rfl (.guard 3 102 false rfl rfl (gF g52)) rfl (q_load_ptr rfl rfl rfl rfl ty3) ?_
        refine SOps.q rfl (.guard 3 102 false rfl rfl (gF g52)) rfl (q_gtr rfl rfl rfl) ?_
        refine SOps.q rfl (.plain rfl) rfl (q_pick_f rfl rfl g52 rfl) ?_
        refine SOps.sub (st' := ⟨[(1, .c (.ptr 0 0)), (3, .c (.int .i64 i_29)), (106, .c (.bool (decide (1048576 < (a0_p.Periods.getD i_29.toNat dSPeriod).Limit))))], [.box [.int .i64 a0_p.ID, .int .i64 a0_p.Level, .int .i64 a0_p.Purpose, .int .i64 a0_p.Kind, .int .i64 a0_p.Conn, .str a0_p.Txn, .int .i64 a0_p.Span_From, .int .i64 a0_p.Span_To, .int .i64 a0_p.Start, .int .i64 a0_p.Duration, .vec a0_p.Periods.length 2 (gL cSPeriod dSPeriod a0_p.Periods)]]⟩) (sub_gen [0] rfl rfl ⟨zc rfl rfl, zc rfl rfl, zc rfl rfl, trivial⟩ ⟨⟨_, rfl, ⟨ii rfl rfl, ii rfl rfl, ii rfl rfl, ii rfl rfl, ii rfl rfl, ii rfl rfl, ii rfl rfl, ii rfl rfl, ii rfl rfl, ii rfl rfl, ii rfl rfl, trivial⟩⟩, trivial⟩) ?_
        refine SOps.nil ?_
        rcases cond_out h with ⟨g53, h⟩ | ⟨g53, h⟩
        · refine SCode.cond_t rfl g53 ?_
          refine SCode.seq ?_
          refine SCode.region (show SOps _ _ _ [0] _ _ from ?_)
          refine SOps.q rfl (.plain rfl) rfl (q_assign rfl rfl) ?_
          refine SOps.sub (st' := ⟨[(2, .c (.int .i64 2))], []⟩) (sub_gen [] rfl rfl ⟨zc rfl rfl, trivial⟩ trivial) ?_
          refine SOps.nil ?_
          refine SCode.ret ?_
          obtain rfl := Option.some.inj h
          exact ⟨⟨[(2, .c (.int .i64 2))], []⟩, _, sub_gen [] rfl rfl ⟨zc rfl rfl, trivial⟩ trivial, resA1 (v := .c (.int .i64 2)) rfl rfl, rfl⟩
        refine SCode.cond_f rfl g53 ?_
        refine SCode.skip ?_
        refine SCode.region (show SOps _ _ _ [0, 1, 2] _ _ from ?_)
        refine SOps.q rfl (.plain rfl) rfl (q_move rfl rfl) ?_
        refine SOps.q rfl (.plain rfl) rfl (q_add rfl rfl rfl) ?_
        refine SOps.q rfl (.plain rfl) rfl (q_assign rfl rfl) ?_
        refine SOps.sub (st' := ⟨[(1, .c (.ptr 0 0)), (3, .c (.int .i64 (IntKind.wrap .i64 (i_29 + 1))))], [.box [.int .i64 a0_p.ID, .int .i64 a0_p.Level, .int .i64 a0_p.Purpose, .int .i64 a0_p.Kind, .int .i64 a0_p.Conn, .str a0_p.Txn, .int .i64 a0_p.Span_From, .int .i64 a0_p.Span_To, .int .i64 a0_p.Start, .int .i64 a0_p.Duration, .vec a0_p.Periods.length 2 (gL cSPeriod dSPeriod a0_p.Periods)]]⟩) (sub_gen [0] rfl rfl ⟨zc rfl rfl, zc rfl rfl, trivial⟩ ⟨⟨_, rfl, ⟨ii rfl rfl, ii rfl rfl, ii rfl rfl, ii rfl rfl, ii rfl rfl, ii rfl rfl, ii rfl rfl, ii rfl rfl, ii rfl rfl, ii rfl rfl, ii rfl rfl, trivial⟩⟩, trivial⟩) ?_
        refine SOps.nil ?_
        exact ⟨(n_49, IntKind.wrap .i64 (i_29 + 1)), h, Nat.lt_succ_self n_49, sub_gen [0] rfl rfl ⟨zc rfl rfl, zc rfl rfl, trivial⟩ ⟨⟨_, rfl, ⟨ii rfl rfl, ii rfl rfl, ii rfl rfl, ii rfl rfl, ii rfl rfl, ii rfl rfl, ii rfl rfl, ii rfl rfl, ii rfl rfl, ii rfl rfl, ii rfl rfl, trivial⟩⟩, trivial⟩⟩
      refine SCode.cond_f rfl g50 ?_
      refine SCode.exit ?_
      exact ⟨(), h, sub_gen [] rfl rfl trivial trivial⟩
  rintro ⟨⟩ h
  show SCode _ _ _ ⟨[], []⟩ _
  replace h : chargenetref15_Valid_p9 = some r := h
  unfold chargenetref15_Valid_p9 at h
  refine SCode.seq ?_
  refine SCode.region (show SOps _ _ _ [0] _ _ from ?_)
  refine SOps.q rfl (.plain rfl) rfl (q_assign rfl rfl) ?_
  refine SOps.sub (st' := ⟨[(2, .c (.int .i64 0))], []⟩) (sub_gen [] rfl rfl ⟨zc rfl rfl, trivial⟩ trivial) ?_
  refine SOps.nil ?_
  refine SCode.ret ?_
  obtain rfl := Option.some.inj h
  exact ⟨⟨[(2, .c (.int .i64 0))], []⟩, _, sub_gen [] rfl rfl ⟨zc rfl rfl, trivial⟩ trivial, resA1 (v := .c (.int .i64 0)) rfl rfl, rfl⟩
end Go.Proofs.Ytjpooimkhkhgkaa.W
