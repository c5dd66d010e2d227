/- Written by a program of ours (wip/eng/gen.py): the functions compute their models. -/
import Derived.Test.YtjpooimkhkhgkaaFacts
import Derived.Test.YtjpooimkhkhgkaaV5x8
namespace Go.Proofs.Ytjpooimkhkhgkaa.W
open Go Go.Proofs Go.Proofs.Ytjpooimkhkhgkaa.E Go.Proofs.Ytjpooimkhkhgkaa.M
set_option linter.unusedVariables false
set_option maxRecDepth 100000 in
set_option maxHeartbeats 8000000 in
theorem chargenetref16_candidate_ok (F : Nat) (a0_p : SProfile) (a1_conn : Int) (a2_txn : ByteArray) (r : Bool) (h : chargenetref16_candidate F a0_p a1_conn a2_txn = some r) :
    SFun Try.prog 42 [] [.a [.int .i64 a0_p.ID, .int .i64 a0_p.Level, .int .i64 a0_p.Purpose, .int .i64 a0_p.Kind, .int .i64 a0_p.Conn, .str a0_p.Txn, .int .i64 a0_p.Span_From, .int .i64 a0_p.Span_To, .int .i64 a0_p.Start, .int .i64 a0_p.Duration, .vec a0_p.Periods.length 2 (gL cSPeriod dSPeriod a0_p.Periods)], .c (.int .i64 a1_conn), .c (.str a2_txn)] (fun x _ => x = .c (.bool r)) := by
  refine SFun.of (n := 35) Try.func42 rfl rfl rfl ?_
  unfold chargenetref16_candidate at h
  show SCode _ _ _ ⟨[(0, .a [.int .i64 a0_p.ID, .int .i64 a0_p.Level, .int .i64 a0_p.Purpose, .int .i64 a0_p.Kind, .int .i64 a0_p.Conn, .str a0_p.Txn, .int .i64 a0_p.Span_From, .int .i64 a0_p.Span_To, .int .i64 a0_p.Start, .int .i64 a0_p.Duration, .vec a0_p.Periods.length 2 (gL cSPeriod dSPeriod a0_p.Periods)]), (1, .c (.int .i64 a1_conn)), (2, .c (.str a2_txn))], []⟩ _
  refine SCode.seq ?_
  refine SCode.region (show SOps _ _ _ [0, 1] _ _ from ?_)
  refine SOps.e rfl (.plain rfl) (e_box rfl rfl rfl rfl rfl rfl) ?_
  refine SOps.q rfl (.plain rfl) rfl (q_assign rfl rfl) ?_
  refine SOps.sub (st' := ⟨[(1, .c (.int .i64 a1_conn)), (2, .c (.str a2_txn)), (3, .c (.ptr 0 0))], [.box [.int .i64 a0_p.ID, .int .i64 a0_p.Level, .int .i64 a0_p.Purpose, .int .i64 a0_p.Kind, .int .i64 a0_p.Conn, .str a0_p.Txn, .int .i64 a0_p.Span_From, .int .i64 a0_p.Span_To, .int .i64 a0_p.Start, .int .i64 a0_p.Duration, .vec a0_p.Periods.length 2 (gL cSPeriod dSPeriod a0_p.Periods)]]⟩) (sub_gen [0] rfl rfl ⟨zc rfl rfl, zc rfl rfl, zc rfl rfl, trivial⟩ ⟨⟨_, rfl, ⟨ii rfl rfl, ii rfl rfl, ii rfl rfl, ii rfl rfl, ii rfl rfl, ii rfl rfl, ii rfl rfl, ii rfl rfl, ii rfl rfl, ii rfl rfl, ii rfl rfl, trivial⟩⟩, trivial⟩) ?_
  refine SOps.nil ?_
  refine SCode.join (σ := Unit) (S := fun s => ⟨[(2, .c (.str a2_txn)), (3, .c (.ptr 0 0))], [.box [.int .i64 a0_p.ID, .int .i64 a0_p.Level, .int .i64 a0_p.Purpose, .int .i64 a0_p.Kind, .int .i64 a0_p.Conn, .str a0_p.Txn, .int .i64 a0_p.Span_From, .int .i64 a0_p.Span_To, .int .i64 a0_p.Start, .int .i64 a0_p.Duration, .vec a0_p.Periods.length 2 (gL cSPeriod dSPeriod a0_p.Periods)]]⟩) (g := fun s => chargenetref16_candidate_p4 a0_p a2_txn = some r) ?_ ?_
  rotate_left
  · refine SCode.seq ?_
    rcases cond_out h with ⟨g5, h⟩ | ⟨g5, h⟩
    · refine SCode.region (show SOps _ _ _ [0, 1, 2, 3, 4, 5, 6, 7, 8] _ _ from ?_)
      refine SOps.q rfl (.plain rfl) rfl (q_field_ptr rfl rfl fd31_4) ?_
      refine SOps.q rfl (.plain rfl) rfl (q_load_ptr rfl rfl rfl rfl ty3) ?_
      refine SOps.q rfl (.plain rfl) rfl (q_neq rfl rfl rfl) ?_
      refine SOps.q rfl (.plain rfl) rfl (q_move rfl rfl) ?_
      refine SOps.q rfl (.guard 3 10 true rfl rfl (gT g5)) rfl (q_field_ptr rfl rfl fd31_4) ?_
      refine SOps.q rfl (.guard 3 10 true rfl rfl (gT g5)) rfl (q_load_ptr rfl rfl rfl rfl ty3) ?_
      refine SOps.q rfl (.guard 3 10 true rfl rfl (gT g5)) rfl (q_move rfl rfl) ?_
      refine SOps.q rfl (.guard 3 10 true rfl rfl (gT g5)) rfl (q_neq rfl rfl rfl) ?_
      refine SOps.q rfl (.plain rfl) rfl (q_pick_t rfl rfl g5 rfl) ?_
      refine SOps.sub (st' := ⟨[(2, .c (.str a2_txn)), (3, .c (.ptr 0 0)), (15, .c (.bool ((!decide (a0_p.Conn = a1_conn)))))], [.box [.int .i64 a0_p.ID, .int .i64 a0_p.Level, .int .i64 a0_p.Purpose, .int .i64 a0_p.Kind, .int .i64 a0_p.Conn, .str a0_p.Txn, .int .i64 a0_p.Span_From, .int .i64 a0_p.Span_To, .int .i64 a0_p.Start, .int .i64 a0_p.Duration, .vec a0_p.Periods.length 2 (gL cSPeriod dSPeriod a0_p.Periods)]]⟩) (sub_gen [0] rfl rfl ⟨zc rfl rfl, zc rfl rfl, zc rfl rfl, trivial⟩ ⟨⟨_, rfl, ⟨ii rfl rfl, ii rfl rfl, ii rfl rfl, ii rfl rfl, ii rfl rfl, ii rfl rfl, ii rfl rfl, ii rfl rfl, ii rfl rfl, ii rfl rfl, ii rfl rfl, trivial⟩⟩, trivial⟩) ?_
      refine SOps.nil ?_
      rcases cond_out h with ⟨g6, h⟩ | ⟨g6, h⟩
      · refine SCode.cond_t rfl g6 ?_
        refine SCode.seq ?_
        refine SCode.region (show SOps _ _ _ [0] _ _ from ?_)
        refine SOps.q rfl (.plain rfl) rfl (q_assign rfl rfl) ?_
        refine SOps.sub (st' := ⟨[(6, .c (.bool false))], []⟩) (sub_gen [] rfl rfl ⟨zc rfl rfl, trivial⟩ trivial) ?_
        refine SOps.nil ?_
        refine SCode.ret ?_
        obtain rfl := Option.some.inj h
        exact ⟨⟨[(6, .c (.bool false))], []⟩, _, sub_gen [] rfl rfl ⟨zc rfl rfl, trivial⟩ trivial, resA1 (v := .c (.bool false)) rfl rfl, rfl⟩
      refine SCode.cond_f rfl g6 ?_
      refine SCode.skip ?_
      exact ⟨(), h, sub_gen [0] rfl rfl ⟨zc rfl rfl, zc rfl rfl, trivial⟩ ⟨⟨_, rfl, ⟨ii rfl rfl, ii rfl rfl, ii rfl rfl, ii rfl rfl, ii rfl rfl, ii rfl rfl, ii rfl rfl, ii rfl rfl, ii rfl rfl, ii rfl rfl, ii rfl rfl, trivial⟩⟩, trivial⟩⟩
    refine SCode.region (show SOps _ _ _ [0, 1, 2, 3, 4, 5, 6, 7, 8] _ _ from ?_)
    refine SOps.q rfl (.plain rfl) rfl (q_field_ptr rfl rfl fd31_4) ?_
    refine SOps.q rfl (.plain rfl) rfl (q_load_ptr rfl rfl rfl rfl ty3) ?_
    refine SOps.q rfl (.plain rfl) rfl (q_neq rfl rfl rfl) ?_
    refine SOps.q rfl (.plain rfl) rfl (q_move rfl rfl) ?_
    refine SOps.skip rfl 3 10 true rfl rfl (.inl (gF g5)) rfl ?_
    refine SOps.skip rfl 3 10 true rfl rfl (.inl (gF g5)) rfl ?_
    refine SOps.skip rfl 3 10 true rfl rfl (.inl (gF g5)) rfl ?_
    refine SOps.skip rfl 3 10 true rfl rfl (.inl (gF g5)) rfl ?_
    refine SOps.q rfl (.plain rfl) rfl (q_pick_f rfl rfl g5 rfl) ?_
    refine SOps.sub (st' := ⟨[(2, .c (.str a2_txn)), (3, .c (.ptr 0 0)), (15, .c (.bool false))], [.box [.int .i64 a0_p.ID, .int .i64 a0_p.Level, .int .i64 a0_p.Purpose, .int .i64 a0_p.Kind, .int .i64 a0_p.Conn, .str a0_p.Txn, .int .i64 a0_p.Span_From, .int .i64 a0_p.Span_To, .int .i64 a0_p.Start, .int .i64 a0_p.Duration, .vec a0_p.Periods.length 2 (gL cSPeriod dSPeriod a0_p.Periods)]]⟩) (sub_gen [0] rfl rfl ⟨zc rfl rfl, zc rfl rfl, zc rfl rfl, trivial⟩ ⟨⟨_, rfl, ⟨ii rfl rfl, ii rfl rfl, ii rfl rfl, ii rfl rfl, ii rfl rfl, ii rfl rfl, ii rfl rfl, ii rfl rfl, ii rfl rfl, ii rfl rfl, ii rfl rfl, trivial⟩⟩, trivial⟩) ?_
    refine SOps.nil ?_
    refine SCode.cond_f rfl rfl ?_
    refine SCode.skip ?_
    exact ⟨(), h, sub_gen [0] rfl rfl ⟨zc rfl rfl, zc rfl rfl, trivial⟩ ⟨⟨_, rfl, ⟨ii rfl rfl, ii rfl rfl, ii rfl rfl, ii rfl rfl, ii rfl rfl, ii rfl rfl, ii rfl rfl, ii rfl rfl, ii rfl rfl, ii rfl rfl, ii rfl rfl, trivial⟩⟩, trivial⟩⟩
  rintro ⟨⟩ h
  show SCode _ _ _ ⟨[(2, .c (.str a2_txn)), (3, .c (.ptr 0 0))], [.box [.int .i64 a0_p.ID, .int .i64 a0_p.Level, .int .i64 a0_p.Purpose, .int .i64 a0_p.Kind, .int .i64 a0_p.Conn, .str a0_p.Txn, .int .i64 a0_p.Span_From, .int .i64 a0_p.Span_To, .int .i64 a0_p.Start, .int .i64 a0_p.Duration, .vec a0_p.Periods.length 2 (gL cSPeriod dSPeriod a0_p.Periods)]]⟩ _
  replace h : chargenetref16_candidate_p4 a0_p a2_txn = some r := h
  unfold chargenetref16_candidate_p4 at h
  refine SCode.seq ?_
  refine SCode.seq ?_
  refine SCode.region (show SOps _ _ _ [0, 1] _ _ from ?_)
  refine SOps.q rfl (.plain rfl) rfl (q_move rfl rfl) ?_
  refine SOps.q rfl (.plain rfl) rfl (q_eqlS rfl rfl rfl) ?_
  refine SOps.sub (st' := ⟨[(2, .c (.str a2_txn)), (3, .c (.ptr 0 0)), (17, .c (.bool (sEq a2_txn ByteArray.empty)))], [.box [.int .i64 a0_p.ID, .int .i64 a0_p.Level, .int .i64 a0_p.Purpose, .int .i64 a0_p.Kind, .int .i64 a0_p.Conn, .str a0_p.Txn, .int .i64 a0_p.Span_From, .int .i64 a0_p.Span_To, .int .i64 a0_p.Start, .int .i64 a0_p.Duration, .vec a0_p.Periods.length 2 (gL cSPeriod dSPeriod a0_p.Periods)]]⟩) (sub_gen [0] rfl rfl ⟨zc rfl rfl, zc rfl rfl, zc rfl rfl, trivial⟩ ⟨⟨_, rfl, ⟨ii rfl rfl, ii rfl rfl, ii rfl rfl, ii rfl rfl, ii rfl rfl, ii rfl rfl, ii rfl rfl, ii rfl rfl, ii rfl rfl, ii rfl rfl, ii rfl rfl, trivial⟩⟩, trivial⟩) ?_
  refine SOps.nil ?_
  rcases cond_out h with ⟨g1, h⟩ | ⟨g1, h⟩
  · refine SCode.cond_t rfl g1 ?_
    refine SCode.seq ?_
    rcases cond_out h with ⟨g2, h⟩ | ⟨g2, h⟩
    · refine SCode.region (show SOps _ _ _ [0, 1, 2, 3, 4, 5, 6, 7, 8] _ _ from ?_)
      refine SOps.q rfl (.plain rfl) rfl (q_field_ptr rfl rfl fd31_2) ?_
      refine SOps.q rfl (.plain rfl) rfl (q_load_ptr rfl rfl rfl rfl ty3) ?_
      refine SOps.q rfl (.plain rfl) rfl (q_neq rfl rfl rfl) ?_
      refine SOps.q rfl (.plain rfl) rfl (q_move rfl rfl) ?_
      refine SOps.q rfl (.guard 3 21 true rfl rfl (gT g2)) rfl (q_field_ptr rfl rfl fd31_3) ?_
      refine SOps.q rfl (.guard 3 21 true rfl rfl (gT g2)) rfl (q_load_ptr rfl rfl rfl rfl ty3) ?_
      refine SOps.q rfl (.guard 3 21 true rfl rfl (gT g2)) rfl (q_neq rfl rfl rfl) ?_
      refine SOps.q rfl (.plain rfl) rfl (q_pick_t rfl rfl g2 rfl) ?_
      refine SOps.q rfl (.plain rfl) rfl (q_assign rfl rfl) ?_
      refine SOps.sub (st' := ⟨[(6, .c (.bool ((!decide (a0_p.Kind = 4)))))], []⟩) (sub_gen [] rfl rfl ⟨zc rfl rfl, trivial⟩ trivial) ?_
      refine SOps.nil ?_
      refine SCode.ret ?_
      obtain rfl := Option.some.inj h
      exact ⟨⟨[(6, .c (.bool ((!decide (a0_p.Kind = 4)))))], []⟩, _, sub_gen [] rfl rfl ⟨zc rfl rfl, trivial⟩ trivial, resA1 (v := .c (.bool ((!decide (a0_p.Kind = 4))))) rfl rfl, rfl⟩
    refine SCode.region (show SOps _ _ _ [0, 1, 2, 3, 4, 5, 6, 7, 8] _ _ from ?_)
    refine SOps.q rfl (.plain rfl) rfl (q_field_ptr rfl rfl fd31_2) ?_
    refine SOps.q rfl (.plain rfl) rfl (q_load_ptr rfl rfl rfl rfl ty3) ?_
    refine SOps.q rfl (.plain rfl) rfl (q_neq rfl rfl rfl) ?_
    refine SOps.q rfl (.plain rfl) rfl (q_move rfl rfl) ?_
    refine SOps.skip rfl 3 21 true rfl rfl (.inl (gF g2)) rfl ?_
    refine SOps.skip rfl 3 21 true rfl rfl (.inl (gF g2)) rfl ?_
    refine SOps.skip rfl 3 21 true rfl rfl (.inl (gF g2)) rfl ?_
    refine SOps.q rfl (.plain rfl) rfl (q_pick_f rfl rfl g2 rfl) ?_
    refine SOps.q rfl (.plain rfl) rfl (q_assign rfl rfl) ?_
    refine SOps.sub (st' := ⟨[(6, .c (.bool false))], []⟩) (sub_gen [] rfl rfl ⟨zc rfl rfl, trivial⟩ trivial) ?_
    refine SOps.nil ?_
    refine SCode.ret ?_
    obtain rfl := Option.some.inj h
    exact ⟨⟨[(6, .c (.bool false))], []⟩, _, sub_gen [] rfl rfl ⟨zc rfl rfl, trivial⟩ trivial, resA1 (v := .c (.bool false)) rfl rfl, rfl⟩
  refine SCode.cond_f rfl g1 ?_
  refine SCode.skip ?_
  refine SCode.seq ?_
  rcases cond_out h with ⟨g3, h⟩ | ⟨g3, h⟩
  · refine SCode.region (show SOps _ _ _ [0, 1, 2, 3, 4, 5, 6, 7, 8, 9] _ _ from ?_)
    refine SOps.q rfl (.plain rfl) rfl (q_field_ptr rfl rfl fd31_2) ?_
    refine SOps.q rfl (.plain rfl) rfl (q_load_ptr rfl rfl rfl rfl ty3) ?_
    refine SOps.q rfl (.plain rfl) rfl (q_neq rfl rfl rfl) ?_
    refine SOps.q rfl (.plain rfl) rfl (q_move rfl rfl) ?_
    refine SOps.skip rfl 3 29 false rfl rfl (.inl (gT g3)) rfl ?_
    refine SOps.skip rfl 3 29 false rfl rfl (.inl (gT g3)) rfl ?_
    refine SOps.skip rfl 3 29 false rfl rfl (.inl (gT g3)) rfl ?_
    refine SOps.skip rfl 3 29 false rfl rfl (.inl (gT g3)) rfl ?_
    refine SOps.q rfl (.plain rfl) rfl (q_pick_t rfl rfl g3 rfl) ?_
    refine SOps.q rfl (.plain rfl) rfl (q_assign rfl rfl) ?_
    refine SOps.sub (st' := ⟨[(6, .c (.bool true))], []⟩) (sub_gen [] rfl rfl ⟨zc rfl rfl, trivial⟩ trivial) ?_
    refine SOps.nil ?_
    refine SCode.ret ?_
    obtain rfl := Option.some.inj h
    exact ⟨⟨[(6, .c (.bool true))], []⟩, _, sub_gen [] rfl rfl ⟨zc rfl rfl, trivial⟩ trivial, resA1 (v := .c (.bool true)) rfl rfl, rfl⟩
  refine SCode.region (show SOps _ _ _ [0, 1, 2, 3, 4, 5, 6, 7, 8, 9] _ _ from ?_)
  refine SOps.q rfl (.plain rfl) rfl (q_field_ptr rfl rfl fd31_2) ?_
  refine SOps.q rfl (.plain rfl) rfl (q_load_ptr rfl rfl rfl rfl ty3) ?_
  refine SOps.q rfl (.plain rfl) rfl (q_neq rfl rfl rfl) ?_
  refine SOps.q rfl (.plain rfl) rfl (q_move rfl rfl) ?_
  refine SOps.q rfl (.guard 3 29 false rfl rfl (gF g3)) rfl (q_field_ptr rfl rfl fd31_5) ?_
  refine SOps.q rfl (.guard 3 29 false rfl rfl (gF g3)) rfl (q_load_ptr rfl rfl rfl rfl ty9) ?_
  refine SOps.q rfl (.guard 3 29 false rfl rfl (gF g3)) rfl (q_move rfl rfl) ?_
  refine SOps.q rfl (.guard 3 29 false rfl rfl (gF g3)) rfl (q_eqlS rfl rfl rfl) ?_
  refine SOps.q rfl (.plain rfl) rfl (q_pick_f rfl rfl g3 rfl) ?_
  refine SOps.q rfl (.plain rfl) rfl (q_assign rfl rfl) ?_
  refine SOps.sub (st' := ⟨[(6, .c (.bool (sEq a0_p.Txn a2_txn)))], []⟩) (sub_gen [] rfl rfl ⟨zc rfl rfl, trivial⟩ trivial) ?_
  refine SOps.nil ?_
  refine SCode.ret ?_
  obtain rfl := Option.some.inj h
  exact ⟨⟨[(6, .c (.bool (sEq a0_p.Txn a2_txn)))], []⟩, _, sub_gen [] rfl rfl ⟨zc rfl rfl, trivial⟩ trivial, resA1 (v := .c (.bool (sEq a0_p.Txn a2_txn))) rfl rfl, rfl⟩
set_option maxRecDepth 100000 in
set_option maxHeartbeats 8000000 in
theorem chargenetref16_leading_ok (F : Nat) (a0_l : List SProfile) (a1_purpose : Int) (a2_conn : Int) (a3_txn : ByteArray) (a4_start : Int) (a5_t : Int) (r : SProfile × Int × Bool) (h : chargenetref16_leading F a0_l a1_purpose a2_conn a3_txn a4_start a5_t = some r) :
    SFun Try.prog 36 [] [.c (.vec a0_l.length 11 (gL cSProfile dSProfile a0_l)), .c (.int .i64 a1_purpose), .c (.int .i64 a2_conn), .c (.str a3_txn), .c (.int .i64 a4_start), .c (.int .i64 a5_t)] (fun x _ => x = .t [.a [.int .i64 r.1.ID, .int .i64 r.1.Level, .int .i64 r.1.Purpose, .int .i64 r.1.Kind, .int .i64 r.1.Conn, .str r.1.Txn, .int .i64 r.1.Span_From, .int .i64 r.1.Span_To, .int .i64 r.1.Start, .int .i64 r.1.Duration, .vec r.1.Periods.length 2 (gL cSPeriod dSPeriod r.1.Periods)], .c (.int .i64 r.2.1), .c (.bool r.2.2)]) := by
  refine SFun.of (n := 77) Try.func36 rfl rfl rfl ?_
  unfold chargenetref16_leading at h
  show SCode _ _ _ ⟨[(0, .c (.vec a0_l.length 11 (gL cSProfile dSProfile a0_l))), (1, .c (.int .i64 a1_purpose)), (2, .c (.int .i64 a2_conn)), (3, .c (.str a3_txn)), (4, .c (.int .i64 a4_start)), (5, .c (.int .i64 a5_t))], []⟩ _
  refine SCode.seq ?_
  refine SCode.region (show SOps _ _ _ [0, 1, 2] _ _ from ?_)
  refine SOps.e rfl (.plain rfl) (e_alloc rfl rfl rfl z31) ?_
  refine SOps.q rfl (.plain rfl) rfl (q_assign rfl rfl) ?_
  refine SOps.q rfl (.plain rfl) rfl (q_assign rfl rfl) ?_
  refine SOps.sub (st' := ⟨[(0, .c (.vec a0_l.length 11 (gL cSProfile dSProfile a0_l))), (1, .c (.int .i64 a1_purpose)), (2, .c (.int .i64 a2_conn)), (3, .c (.str a3_txn)), (4, .c (.int .i64 a4_start)), (5, .c (.int .i64 a5_t)), (12, .c (.ptr 0 0))], [.box [.int .i64 0, .int .i64 0, .int .i64 0, .int .i64 0, .int .i64 0, .str ByteArray.empty, .int .i64 0, .int .i64 0, .int .i64 0, .int .i64 0, .raw (.slice none 0 0)]]⟩) (sub_gen [0] rfl rfl ⟨zc rfl rfl, zc rfl rfl, zc rfl rfl, zc rfl rfl, zc rfl rfl, zc rfl rfl, zc rfl rfl, trivial⟩ ⟨⟨_, rfl, ⟨ii rfl rfl, ii rfl rfl, ii rfl rfl, ii rfl rfl, ii rfl rfl, ii rfl rfl, ii rfl rfl, ii rfl rfl, ii rfl rfl, ii rfl rfl, ii rfl rfl, trivial⟩⟩, trivial⟩) ?_
  refine SOps.nil ?_
  refine SCode.seq ?_
  refine SCode.region (show SOps _ _ _ [0] _ _ from ?_)
  refine SOps.e rfl (.plain rfl) (e_alloc rfl rfl rfl z31) ?_
  refine SOps.sub (st' := ⟨[(0, .c (.vec a0_l.length 11 (gL cSProfile dSProfile a0_l))), (1, .c (.int .i64 a1_purpose)), (2, .c (.int .i64 a2_conn)), (3, .c (.str a3_txn)), (4, .c (.int .i64 a4_start)), (5, .c (.int .i64 a5_t)), (12, .c (.ptr 0 0)), (15, .c (.ptr 1 0))], [.box [.int .i64 0, .int .i64 0, .int .i64 0, .int .i64 0, .int .i64 0, .str ByteArray.empty, .int .i64 0, .int .i64 0, .int .i64 0, .int .i64 0, .raw (.slice none 0 0)], .box [.int .i64 0, .int .i64 0, .int .i64 0, .int .i64 0, .int .i64 0, .str ByteArray.empty, .int .i64 0, .int .i64 0, .int .i64 0, .int .i64 0, .raw (.slice none 0 0)]]⟩) (sub_gen [0, 1] rfl rfl ⟨zc rfl rfl, zc rfl rfl, zc rfl rfl, zc rfl rfl, zc rfl rfl, zc rfl rfl, zc rfl rfl, zc rfl rfl, trivial⟩ ⟨⟨_, rfl, ⟨ii rfl rfl, ii rfl rfl, ii rfl rfl, ii rfl rfl, ii rfl rfl, ii rfl rfl, ii rfl rfl, ii rfl rfl, ii rfl rfl, ii rfl rfl, ii rfl rfl, trivial⟩⟩, ⟨_, rfl, ⟨ii rfl rfl, ii rfl rfl, ii rfl rfl, ii rfl rfl, ii rfl rfl, ii rfl rfl, ii rfl rfl, ii rfl rfl, ii rfl rfl, ii rfl rfl, ii rfl rfl, trivial⟩⟩, trivial⟩) ?_
  refine SOps.nil ?_
  refine SCode.seq ?_
  refine SCode.region (show SOps _ _ _ [0, 1] _ _ from ?_)
  refine SOps.q rfl (.plain rfl) rfl (q_assign rfl rfl) ?_
  refine SOps.q rfl (.plain rfl) rfl (q_assign rfl rfl) ?_
  refine SOps.sub (st' := ⟨[(0, .c (.vec a0_l.length 11 (gL cSProfile dSProfile a0_l))), (1, .c (.int .i64 a1_purpose)), (2, .c (.int .i64 a2_conn)), (3, .c (.str a3_txn)), (4, .c (.int .i64 a4_start)), (5, .c (.int .i64 a5_t)), (12, .c (.ptr 0 0)), (15, .c (.ptr 1 0)), (16, .c (.int .i64 0)), (17, .c (.bool false))], [.box [.int .i64 0, .int .i64 0, .int .i64 0, .int .i64 0, .int .i64 0, .str ByteArray.empty, .int .i64 0, .int .i64 0, .int .i64 0, .int .i64 0, .raw (.slice none 0 0)], .box [.int .i64 0, .int .i64 0, .int .i64 0, .int .i64 0, .int .i64 0, .str ByteArray.empty, .int .i64 0, .int .i64 0, .int .i64 0, .int .i64 0, .raw (.slice none 0 0)]]⟩) (sub_gen [0, 1] rfl rfl ⟨zc rfl rfl, zc rfl rfl, zc rfl rfl, zc rfl rfl, zc rfl rfl, zc rfl rfl, zc rfl rfl, zc rfl rfl, zc rfl rfl, zc rfl rfl, trivial⟩ ⟨⟨_, rfl, ⟨ii rfl rfl, ii rfl rfl, ii rfl rfl, ii rfl rfl, ii rfl rfl, ii rfl rfl, ii rfl rfl, ii rfl rfl, ii rfl rfl, ii rfl rfl, ii rfl rfl, trivial⟩⟩, ⟨_, rfl, ⟨ii rfl rfl, ii rfl rfl, ii rfl rfl, ii rfl rfl, ii rfl rfl, ii rfl rfl, ii rfl rfl, ii rfl rfl, ii rfl rfl, ii rfl rfl, ii rfl rfl, trivial⟩⟩, trivial⟩) ?_
  refine SOps.nil ?_
  refine SCode.join (σ := Int × Bool × Int × Int × Int × Int × Int × ByteArray × Int × Int × Int × Int × (List SPeriod)) (S := fun s => ⟨[(12, .c (.ptr 0 0)), (15, .c (.ptr 1 0)), (16, .c (.int .i64 s.1)), (17, .c (.bool s.2.1))], [.box [.int .i64 0, .int .i64 0, .int .i64 0, .int .i64 0, .int .i64 0, .str ByteArray.empty, .int .i64 0, .int .i64 0, .int .i64 0, .int .i64 0, .raw (.slice none 0 0)], .box [.int .i64 s.2.2.1, .int .i64 s.2.2.2.1, .int .i64 s.2.2.2.2.1, .int .i64 s.2.2.2.2.2.1, .int .i64 s.2.2.2.2.2.2.1, .str s.2.2.2.2.2.2.2.1, .int .i64 s.2.2.2.2.2.2.2.2.1, .int .i64 s.2.2.2.2.2.2.2.2.2.1, .int .i64 s.2.2.2.2.2.2.2.2.2.2.1, .int .i64 s.2.2.2.2.2.2.2.2.2.2.2.1, .vec s.2.2.2.2.2.2.2.2.2.2.2.2.length 2 (gL cSPeriod dSPeriod s.2.2.2.2.2.2.2.2.2.2.2.2)]]⟩) (g := fun s => chargenetref16_leading_p14 s.1 s.2.1 s.2.2.1 s.2.2.2.1 s.2.2.2.2.1 s.2.2.2.2.2.1 s.2.2.2.2.2.2.1 s.2.2.2.2.2.2.2.1 s.2.2.2.2.2.2.2.2.1 s.2.2.2.2.2.2.2.2.2.1 s.2.2.2.2.2.2.2.2.2.2.1 s.2.2.2.2.2.2.2.2.2.2.2.1 s.2.2.2.2.2.2.2.2.2.2.2.2 = some r) ?_ ?_
  rotate_left
  · refine SCode.seq ?_
    refine SCode.region (show SOps _ _ _ [0, 1, 2] _ _ from ?_)
    refine SOps.q rfl (.plain rfl) rfl (q_move rfl rfl) ?_
    refine SOps.q rfl (.plain rfl) rfl (q_len_vec rfl rfl sl22) ?_
    refine SOps.q rfl (.plain rfl) rfl (q_move rfl rfl) ?_
    refine SOps.sub (st' := ⟨[(1, .c (.int .i64 a1_purpose)), (2, .c (.int .i64 a2_conn)), (3, .c (.str a3_txn)), (4, .c (.int .i64 a4_start)), (5, .c (.int .i64 a5_t)), (12, .c (.ptr 0 0)), (15, .c (.ptr 1 0)), (16, .c (.int .i64 0)), (17, .c (.bool false)), (22, .c (.vec a0_l.length 11 (gL cSProfile dSProfile a0_l))), (23, .c (.int .i64 (((a0_l).length : Int)))), (24, .c (.int .i64 0))], [.box [.int .i64 0, .int .i64 0, .int .i64 0, .int .i64 0, .int .i64 0, .str ByteArray.empty, .int .i64 0, .int .i64 0, .int .i64 0, .int .i64 0, .raw (.slice none 0 0)], .box [.int .i64 0, .int .i64 0, .int .i64 0, .int .i64 0, .int .i64 0, .str ByteArray.empty, .int .i64 0, .int .i64 0, .int .i64 0, .int .i64 0, .raw (.slice none 0 0)]]⟩) (sub_gen [0, 1] rfl rfl ⟨zc rfl rfl, zc rfl rfl, zc rfl rfl, zc rfl rfl, zc rfl rfl, zc rfl rfl, zc rfl rfl, zc rfl rfl, zc rfl rfl, zc rfl rfl, zc rfl rfl, zc rfl rfl, trivial⟩ ⟨⟨_, rfl, ⟨ii rfl rfl, ii rfl rfl, ii rfl rfl, ii rfl rfl, ii rfl rfl, ii rfl rfl, ii rfl rfl, ii rfl rfl, ii rfl rfl, ii rfl rfl, ii rfl rfl, trivial⟩⟩, ⟨_, rfl, ⟨ii rfl rfl, ii rfl rfl, ii rfl rfl, ii rfl rfl, ii rfl rfl, ii rfl rfl, ii rfl rfl, ii rfl rfl, ii rfl rfl, ii rfl rfl, ii rfl rfl, trivial⟩⟩, trivial⟩) ?_
    refine SOps.nil ?_
    refine SCode.block ?_
    refine SCode.sub (st' := ⟨[(1, .c (.int .i64 a1_purpose)), (2, .c (.int .i64 a2_conn)), (3, .c (.str a3_txn)), (4, .c (.int .i64 a4_start)), (5, .c (.int .i64 a5_t)), (12, .c (.ptr 0 0)), (15, .c (.ptr 1 0)), (16, .c (.int .i64 0)), (17, .c (.bool false)), (22, .c (.vec a0_l.length 11 (gL cSProfile dSProfile a0_l))), (23, .c (.int .i64 (((a0_l).length : Int)))), (24, .c (.int .i64 0))], [.box [.int .i64 0, .int .i64 0, .int .i64 0, .int .i64 0, .int .i64 0, .str ByteArray.empty, .int .i64 0, .int .i64 0, .int .i64 0, .int .i64 0, .raw (.slice none 0 0)], .box [.int .i64 0, .int .i64 0, .int .i64 0, .int .i64 0, .int .i64 0, .str ByteArray.empty, .int .i64 0, .int .i64 0, .int .i64 0, .int .i64 0, .vec ([] : List SPeriod).length 2 (gL cSPeriod dSPeriod ([] : List SPeriod))]]⟩) (sub_gen [0, 1] rfl rfl ⟨zc rfl rfl, zc rfl rfl, zc rfl rfl, zc rfl rfl, zc rfl rfl, zc rfl rfl, zc rfl rfl, zc rfl rfl, zc rfl rfl, zc rfl rfl, zc rfl rfl, zc rfl rfl, trivial⟩ ⟨⟨_, rfl, ⟨ii rfl rfl, ii rfl rfl, ii rfl rfl, ii rfl rfl, ii rfl rfl, ii rfl rfl, ii rfl rfl, ii rfl rfl, ii rfl rfl, ii rfl rfl, ii rfl rfl, trivial⟩⟩, ⟨_, rfl, ⟨ii rfl rfl, ii rfl rfl, ii rfl rfl, ii rfl rfl, ii rfl rfl, ii rfl rfl, ii rfl rfl, ii rfl rfl, ii rfl rfl, ii rfl rfl, .inr (.inr (.inr (.inl ⟨_, _, rfl, rfl⟩))), trivial⟩⟩, trivial⟩) ?_
    refine (SCode.loop (σ := Nat × (Int × Bool × Int × Int × Int × Int × Int × Int × ByteArray × Int × Int × Int × Int × (List SPeriod))) (S := fun s => ⟨[(1, .c (.int .i64 a1_purpose)), (2, .c (.int .i64 a2_conn)), (3, .c (.str a3_txn)), (4, .c (.int .i64 a4_start)), (5, .c (.int .i64 a5_t)), (12, .c (.ptr 0 0)), (15, .c (.ptr 1 0)), (16, .c (.int .i64 s.2.1)), (17, .c (.bool s.2.2.1)), (22, .c (.vec a0_l.length 11 (gL cSProfile dSProfile a0_l))), (23, .c (.int .i64 (((a0_l).length : Int)))), (24, .c (.int .i64 s.2.2.2.1))], [.box [.int .i64 0, .int .i64 0, .int .i64 0, .int .i64 0, .int .i64 0, .str ByteArray.empty, .int .i64 0, .int .i64 0, .int .i64 0, .int .i64 0, .raw (.slice none 0 0)], .box [.int .i64 s.2.2.2.2.1, .int .i64 s.2.2.2.2.2.1, .int .i64 s.2.2.2.2.2.2.1, .int .i64 s.2.2.2.2.2.2.2.1, .int .i64 s.2.2.2.2.2.2.2.2.1, .str s.2.2.2.2.2.2.2.2.2.1, .int .i64 s.2.2.2.2.2.2.2.2.2.2.1, .int .i64 s.2.2.2.2.2.2.2.2.2.2.2.1, .int .i64 s.2.2.2.2.2.2.2.2.2.2.2.2.1, .int .i64 s.2.2.2.2.2.2.2.2.2.2.2.2.2.1, .vec s.2.2.2.2.2.2.2.2.2.2.2.2.2.2.length 2 (gL cSPeriod dSPeriod s.2.2.2.2.2.2.2.2.2.2.2.2.2.2)]]⟩) (g := fun s => chargenetref16_leading_l79 F a0_l a1_purpose a2_conn a3_txn a4_start a5_t s.1 s.2.1 s.2.2.1 s.2.2.2.1 s.2.2.2.2.1 s.2.2.2.2.2.1 s.2.2.2.2.2.2.1 s.2.2.2.2.2.2.2.1 s.2.2.2.2.2.2.2.2.1 s.2.2.2.2.2.2.2.2.2.1 s.2.2.2.2.2.2.2.2.2.2.1 s.2.2.2.2.2.2.2.2.2.2.2.1 s.2.2.2.2.2.2.2.2.2.2.2.2.1 s.2.2.2.2.2.2.2.2.2.2.2.2.2.1 s.2.2.2.2.2.2.2.2.2.2.2.2.2.2 = some r) (μ := fun s => s.1) (F, (0, false, 0, 0, 0, 0, 0, 0, ByteArray.empty, 0, 0, 0, 0, [])) h ?_)
    rintro ⟨n_79, ⟨limit_38, found_39, t24_40, b1_41, b1_42, b1_43, b1_44, b1_45, b1_46, b1_47, b1_48, b1_49, b1_50, b1_51⟩⟩ h
    replace h : chargenetref16_leading_l79 F a0_l a1_purpose a2_conn a3_txn a4_start a5_t n_79 limit_38 found_39 t24_40 b1_41 b1_42 b1_43 b1_44 b1_45 b1_46 b1_47 b1_48 b1_49 b1_50 b1_51 = some r := h
    show SCode _ _ _ ⟨[(1, .c (.int .i64 a1_purpose)), (2, .c (.int .i64 a2_conn)), (3, .c (.str a3_txn)), (4, .c (.int .i64 a4_start)), (5, .c (.int .i64 a5_t)), (12, .c (.ptr 0 0)), (15, .c (.ptr 1 0)), (16, .c (.int .i64 limit_38)), (17, .c (.bool found_39)), (22, .c (.vec a0_l.length 11 (gL cSProfile dSProfile a0_l))), (23, .c (.int .i64 (((a0_l).length : Int)))), (24, .c (.int .i64 t24_40))], [.box [.int .i64 0, .int .i64 0, .int .i64 0, .int .i64 0, .int .i64 0, .str ByteArray.empty, .int .i64 0, .int .i64 0, .int .i64 0, .int .i64 0, .raw (.slice none 0 0)], .box [.int .i64 b1_41, .int .i64 b1_42, .int .i64 b1_43, .int .i64 b1_44, .int .i64 b1_45, .str b1_46, .int .i64 b1_47, .int .i64 b1_48, .int .i64 b1_49, .int .i64 b1_50, .vec b1_51.length 2 (gL cSPeriod dSPeriod b1_51)]]⟩ _
    cases n_79 with
    | zero => cases h
    | succ n_79 =>
      replace h : chargenetref16_leading_b79 F a0_l a1_purpose a2_conn a3_txn a4_start a5_t (fun limit_38 found_39 t24_40 b1_41 b1_42 b1_43 b1_44 b1_45 b1_46 b1_47 b1_48 b1_49 b1_50 b1_51 => chargenetref16_leading_l79 F a0_l a1_purpose a2_conn a3_txn a4_start a5_t n_79 limit_38 found_39 t24_40 b1_41 b1_42 b1_43 b1_44 b1_45 b1_46 b1_47 b1_48 b1_49 b1_50 b1_51) limit_38 found_39 t24_40 b1_41 b1_42 b1_43 b1_44 b1_45 b1_46 b1_47 b1_48 b1_49 b1_50 b1_51 = some r := h
      unfold chargenetref16_leading_b79 at h
      refine SCode.seq ?_
      refine SCode.region (show SOps _ _ _ [0] _ _ from ?_)
      refine SOps.q rfl (.plain rfl) rfl (q_lss rfl rfl rfl) ?_
      refine SOps.sub (st' := ⟨[(1, .c (.int .i64 a1_purpose)), (2, .c (.int .i64 a2_conn)), (3, .c (.str a3_txn)), (4, .c (.int .i64 a4_start)), (5, .c (.int .i64 a5_t)), (12, .c (.ptr 0 0)), (15, .c (.ptr 1 0)), (16, .c (.int .i64 limit_38)), (17, .c (.bool found_39)), (22, .c (.vec a0_l.length 11 (gL cSProfile dSProfile a0_l))), (23, .c (.int .i64 (((a0_l).length : Int)))), (24, .c (.int .i64 t24_40)), (25, .c (.bool (decide (t24_40 < ((a0_l).length : Int)))))], [.box [.int .i64 0, .int .i64 0, .int .i64 0, .int .i64 0, .int .i64 0, .str ByteArray.empty, .int .i64 0, .int .i64 0, .int .i64 0, .int .i64 0, .raw (.slice none 0 0)], .box [.int .i64 b1_41, .int .i64 b1_42, .int .i64 b1_43, .int .i64 b1_44, .int .i64 b1_45, .str b1_46, .int .i64 b1_47, .int .i64 b1_48, .int .i64 b1_49, .int .i64 b1_50, .vec b1_51.length 2 (gL cSPeriod dSPeriod b1_51)]]⟩) (sub_gen [0, 1] rfl rfl ⟨zc rfl rfl, zc rfl rfl, zc rfl rfl, zc rfl rfl, zc rfl rfl, zc rfl rfl, zc rfl rfl, zc rfl rfl, zc rfl rfl, zc rfl rfl, zc rfl rfl, zc rfl rfl, zc rfl rfl, trivial⟩ ⟨⟨_, rfl, ⟨ii rfl rfl, ii rfl rfl, ii rfl rfl, ii rfl rfl, ii rfl rfl, ii rfl rfl, ii rfl rfl, ii rfl rfl, ii rfl rfl, ii rfl rfl, ii rfl rfl, trivial⟩⟩, ⟨_, rfl, ⟨ii rfl rfl, ii rfl rfl, ii rfl rfl, ii rfl rfl, ii rfl rfl, ii rfl rfl, ii rfl rfl, ii rfl rfl, ii rfl rfl, ii rfl rfl, ii rfl rfl, trivial⟩⟩, trivial⟩) ?_
      refine SOps.nil ?_
      refine SCode.seq ?_
      rcases cond_out h with ⟨g80, h⟩ | ⟨g80, h⟩
      · refine SCode.cond_t rfl g80 ?_
        refine SCode.skip ?_
        refine SCode.join (σ := Int × Bool × Int × Int × Int × Int × Int × ByteArray × Int × Int × Int × Int × (List SPeriod)) (S := fun s => ⟨[(1, .c (.int .i64 a1_purpose)), (2, .c (.int .i64 a2_conn)), (3, .c (.str a3_txn)), (4, .c (.int .i64 a4_start)), (5, .c (.int .i64 a5_t)), (12, .c (.ptr 0 0)), (15, .c (.ptr 1 0)), (16, .c (.int .i64 s.1)), (17, .c (.bool s.2.1)), (22, .c (.vec a0_l.length 11 (gL cSProfile dSProfile a0_l))), (23, .c (.int .i64 (((a0_l).length : Int)))), (24, .c (.int .i64 t24_40))], [.box [.int .i64 0, .int .i64 0, .int .i64 0, .int .i64 0, .int .i64 0, .str ByteArray.empty, .int .i64 0, .int .i64 0, .int .i64 0, .int .i64 0, .raw (.slice none 0 0)], .box [.int .i64 s.2.2.1, .int .i64 s.2.2.2.1, .int .i64 s.2.2.2.2.1, .int .i64 s.2.2.2.2.2.1, .int .i64 s.2.2.2.2.2.2.1, .str s.2.2.2.2.2.2.2.1, .int .i64 s.2.2.2.2.2.2.2.2.1, .int .i64 s.2.2.2.2.2.2.2.2.2.1, .int .i64 s.2.2.2.2.2.2.2.2.2.2.1, .int .i64 s.2.2.2.2.2.2.2.2.2.2.2.1, .vec s.2.2.2.2.2.2.2.2.2.2.2.2.length 2 (gL cSPeriod dSPeriod s.2.2.2.2.2.2.2.2.2.2.2.2)]]⟩) (g := fun s => chargenetref16_leading_p94 t24_40 (fun limit_38 found_39 t24_40 b1_41 b1_42 b1_43 b1_44 b1_45 b1_46 b1_47 b1_48 b1_49 b1_50 b1_51 => chargenetref16_leading_l79 F a0_l a1_purpose a2_conn a3_txn a4_start a5_t n_79 limit_38 found_39 t24_40 b1_41 b1_42 b1_43 b1_44 b1_45 b1_46 b1_47 b1_48 b1_49 b1_50 b1_51) s.1 s.2.1 s.2.2.1 s.2.2.2.1 s.2.2.2.2.1 s.2.2.2.2.2.1 s.2.2.2.2.2.2.1 s.2.2.2.2.2.2.2.1 s.2.2.2.2.2.2.2.2.1 s.2.2.2.2.2.2.2.2.2.1 s.2.2.2.2.2.2.2.2.2.2.1 s.2.2.2.2.2.2.2.2.2.2.2.1 s.2.2.2.2.2.2.2.2.2.2.2.2 = some r) ?_ ?_
        rotate_left
        · refine SCode.block ?_
          refine SCode.seq ?_
          obtain ⟨g95, h⟩ := guard_out h
          refine SCode.region (show SOps _ _ _ [0, 1, 2, 3] _ _ from ?_)
          refine SOps.q rfl (.plain rfl) rfl (q_index_vec rfl rfl rfl sl22 rfl g95.1 g95.2) ?_
          refine SOps.q rfl (.plain rfl) rfl (q_load_eptr_all rfl rfl rfl ty31) ?_
          refine SOps.e rfl (.plain rfl) (e_alloc rfl rfl rfl z31) ?_
          refine SOps.e rfl (.plain rfl) (e_store_box rfl rfl rfl rfl rfl ty31 rfl rfl rfl rfl) ?_
          refine SOps.sub (st' := ⟨[(1, .c (.int .i64 a1_purpose)), (2, .c (.int .i64 a2_conn)), (3, .c (.str a3_txn)), (4, .c (.int .i64 a4_start)), (5, .c (.int .i64 a5_t)), (12, .c (.ptr 0 0)), (15, .c (.ptr 1 0)), (16, .c (.int .i64 limit_38)), (17, .c (.bool found_39)), (19, .c (.ptr 2 0)), (22, .c (.vec a0_l.length 11 (gL cSProfile dSProfile a0_l))), (23, .c (.int .i64 (((a0_l).length : Int)))), (24, .c (.int .i64 t24_40))], [.box [.int .i64 0, .int .i64 0, .int .i64 0, .int .i64 0, .int .i64 0, .str ByteArray.empty, .int .i64 0, .int .i64 0, .int .i64 0, .int .i64 0, .raw (.slice none 0 0)], .box [.int .i64 b1_41, .int .i64 b1_42, .int .i64 b1_43, .int .i64 b1_44, .int .i64 b1_45, .str b1_46, .int .i64 b1_47, .int .i64 b1_48, .int .i64 b1_49, .int .i64 b1_50, .vec b1_51.length 2 (gL cSPeriod dSPeriod b1_51)], .box [.int .i64 ((a0_l.getD t24_40.toNat dSProfile).ID), .int .i64 ((a0_l.getD t24_40.toNat dSProfile).Level), .int .i64 ((a0_l.getD t24_40.toNat dSProfile).Purpose), .int .i64 ((a0_l.getD t24_40.toNat dSProfile).Kind), .int .i64 ((a0_l.getD t24_40.toNat dSProfile).Conn), .str ((a0_l.getD t24_40.toNat dSProfile).Txn), .int .i64 ((a0_l.getD t24_40.toNat dSProfile).Span_From), .int .i64 ((a0_l.getD t24_40.toNat dSProfile).Span_To), .int .i64 ((a0_l.getD t24_40.toNat dSProfile).Start), .int .i64 ((a0_l.getD t24_40.toNat dSProfile).Duration), .vec ((a0_l.getD t24_40.toNat dSProfile).Periods).length 2 (gL cSPeriod dSPeriod ((a0_l.getD t24_40.toNat dSProfile).Periods))]]⟩) (sub_gen [0, 1, 2] rfl rfl ⟨zc rfl rfl, zc rfl rfl, zc rfl rfl, zc rfl rfl, zc rfl rfl, zc rfl rfl, zc rfl rfl, zc rfl rfl, zc rfl rfl, zc rfl rfl, zc rfl rfl, zc rfl rfl, zc rfl rfl, trivial⟩ ⟨⟨_, rfl, ⟨ii rfl rfl, ii rfl rfl, ii rfl rfl, ii rfl rfl, ii rfl rfl, ii rfl rfl, ii rfl rfl, ii rfl rfl, ii rfl rfl, ii rfl rfl, ii rfl rfl, trivial⟩⟩, ⟨_, rfl, ⟨ii rfl rfl, ii rfl rfl, ii rfl rfl, ii rfl rfl, ii rfl rfl, ii rfl rfl, ii rfl rfl, ii rfl rfl, ii rfl rfl, ii rfl rfl, ii rfl rfl, trivial⟩⟩, ⟨_, rfl, ⟨ii rfl rfl, ii rfl rfl, ii rfl rfl, ii rfl rfl, ii rfl rfl, ii rfl rfl, ii rfl rfl, ii rfl rfl, ii rfl rfl, ii rfl rfl, ii rfl rfl, trivial⟩⟩, trivial⟩) ?_
          refine SOps.nil ?_
          refine SCode.seq ?_
          refine SCode.seq ?_
          rcases cond_out h with ⟨g96, h⟩ | ⟨g96, h⟩
          · refine SCode.region (show SOps _ _ _ [0, 1, 2, 3, 4, 5, 6, 7, 8, 9, 10] _ _ from ?_)
            refine SOps.q rfl (.plain rfl) rfl (q_field_ptr rfl rfl fd31_2) ?_
            refine SOps.q rfl (.plain rfl) rfl (q_load_ptr rfl rfl rfl rfl ty3) ?_
            refine SOps.q rfl (.plain rfl) rfl (q_move rfl rfl) ?_
            refine SOps.q rfl (.plain rfl) rfl (q_neq rfl rfl rfl) ?_
            refine SOps.q rfl (.plain rfl) rfl (q_move rfl rfl) ?_
            refine SOps.skip rfl 4 32 false rfl rfl (.inl (gT g96)) rfl ?_
            refine SOps.skip rfl 4 32 false rfl rfl (.inl (gT g96)) rfl ?_
            refine SOps.skip rfl 4 32 false rfl rfl (.inl (gT g96)) rfl ?_
            refine SOps.skip rfl 4 32 false rfl rfl (.inl (gT g96)) rfl ?_
            refine SOps.skip rfl 4 32 false rfl rfl (.inl (gT g96)) rfl ?_
            refine SOps.q rfl (.plain rfl) rfl (q_pick_t rfl rfl g96 rfl) ?_
            refine SOps.sub (st' := ⟨[(1, .c (.int .i64 a1_purpose)), (2, .c (.int .i64 a2_conn)), (3, .c (.str a3_txn)), (4, .c (.int .i64 a4_start)), (5, .c (.int .i64 a5_t)), (12, .c (.ptr 0 0)), (15, .c (.ptr 1 0)), (16, .c (.int .i64 limit_38)), (17, .c (.bool found_39)), (19, .c (.ptr 2 0)), (22, .c (.vec a0_l.length 11 (gL cSProfile dSProfile a0_l))), (23, .c (.int .i64 (((a0_l).length : Int)))), (24, .c (.int .i64 t24_40)), (38, .c (.bool true))], [.box [.int .i64 0, .int .i64 0, .int .i64 0, .int .i64 0, .int .i64 0, .str ByteArray.empty, .int .i64 0, .int .i64 0, .int .i64 0, .int .i64 0, .raw (.slice none 0 0)], .box [.int .i64 b1_41, .int .i64 b1_42, .int .i64 b1_43, .int .i64 b1_44, .int .i64 b1_45, .str b1_46, .int .i64 b1_47, .int .i64 b1_48, .int .i64 b1_49, .int .i64 b1_50, .vec b1_51.length 2 (gL cSPeriod dSPeriod b1_51)], .box [.int .i64 ((a0_l.getD t24_40.toNat dSProfile).ID), .int .i64 ((a0_l.getD t24_40.toNat dSProfile).Level), .int .i64 ((a0_l.getD t24_40.toNat dSProfile).Purpose), .int .i64 ((a0_l.getD t24_40.toNat dSProfile).Kind), .int .i64 ((a0_l.getD t24_40.toNat dSProfile).Conn), .str ((a0_l.getD t24_40.toNat dSProfile).Txn), .int .i64 ((a0_l.getD t24_40.toNat dSProfile).Span_From), .int .i64 ((a0_l.getD t24_40.toNat dSProfile).Span_To), .int .i64 ((a0_l.getD t24_40.toNat dSProfile).Start), .int .i64 ((a0_l.getD t24_40.toNat dSProfile).Duration), .vec ((a0_l.getD t24_40.toNat dSProfile).Periods).length 2 (gL cSPeriod dSPeriod ((a0_l.getD t24_40.toNat dSProfile).Periods))]]⟩) (sub_gen [0, 1, 2] rfl rfl ⟨zc rfl rfl, zc rfl rfl, zc rfl rfl, zc rfl rfl, zc rfl rfl, zc rfl rfl, zc rfl rfl, zc rfl rfl, zc rfl rfl, zc rfl rfl, zc rfl rfl, zc rfl rfl, zc rfl rfl, zc rfl rfl, trivial⟩ ⟨⟨_, rfl, ⟨ii rfl rfl, ii rfl rfl, ii rfl rfl, ii rfl rfl, ii rfl rfl, ii rfl rfl, ii rfl rfl, ii rfl rfl, ii rfl rfl, ii rfl rfl, ii rfl rfl, trivial⟩⟩, ⟨_, rfl, ⟨ii rfl rfl, ii rfl rfl, ii rfl rfl, ii rfl rfl, ii rfl rfl, ii rfl rfl, ii rfl rfl, ii rfl rfl, ii rfl rfl, ii rfl rfl, ii rfl rfl, trivial⟩⟩, ⟨_, rfl, ⟨ii rfl rfl, ii rfl rfl, ii rfl rfl, ii rfl rfl, ii rfl rfl, ii rfl rfl, ii rfl rfl, ii rfl rfl, ii rfl rfl, ii rfl rfl, ii rfl rfl, trivial⟩⟩, trivial⟩) ?_
            refine SOps.nil ?_
            refine SCode.cond_t rfl rfl ?_
            refine SCode.exit ?_
            exact ⟨(limit_38, found_39, b1_41, b1_42, b1_43, b1_44, b1_45, b1_46, b1_47, b1_48, b1_49, b1_50, b1_51), h, sub_gen [0, 1] rfl rfl ⟨zc rfl rfl, zc rfl rfl, zc rfl rfl, zc rfl rfl, zc rfl rfl, zc rfl rfl, zc rfl rfl, zc rfl rfl, zc rfl rfl, zc rfl rfl, zc rfl rfl, zc rfl rfl, trivial⟩ ⟨⟨_, rfl, ⟨ii rfl rfl, ii rfl rfl, ii rfl rfl, ii rfl rfl, ii rfl rfl, ii rfl rfl, ii rfl rfl, ii rfl rfl, ii rfl rfl, ii rfl rfl, ii rfl rfl, trivial⟩⟩, ⟨_, rfl, ⟨ii rfl rfl, ii rfl rfl, ii rfl rfl, ii rfl rfl, ii rfl rfl, ii rfl rfl, ii rfl rfl, ii rfl rfl, ii rfl rfl, ii rfl rfl, ii rfl rfl, trivial⟩⟩, trivial⟩⟩
          obtain ⟨c_97, g98, h⟩ := bind_out h
          try dsimp only at h
          refine SCode.region (show SOps _ _ _ [0, 1, 2, 3, 4, 5, 6, 7, 8, 9, 10] _ _ from ?_)
          refine SOps.q rfl (.plain rfl) rfl (q_field_ptr rfl rfl fd31_2) ?_
          refine SOps.q rfl (.plain rfl) rfl (q_load_ptr rfl rfl rfl rfl ty3) ?_
          refine SOps.q rfl (.plain rfl) rfl (q_move rfl rfl) ?_
          refine SOps.q rfl (.plain rfl) rfl (q_neq rfl rfl rfl) ?_
          refine SOps.q rfl (.plain rfl) rfl (q_move rfl rfl) ?_
          refine SOps.q rfl (.guard 4 32 false rfl rfl (gF g96)) rfl (q_load_ptr_all rfl rfl rfl rfl rfl ty31) ?_
          refine SOps.q rfl (.guard 4 32 false rfl rfl (gF g96)) rfl (q_move rfl rfl) ?_
          refine SOps.q rfl (.guard 4 32 false rfl rfl (gF g96)) rfl (q_move rfl rfl) ?_
          refine SOps.q rfl (.guard 4 32 false rfl rfl (gF g96)) rfl (q_call (chargenetref16_candidate_ok F (a0_l.getD t24_40.toNat dSProfile) a2_conn a3_txn c_97 g98) [] rfl fn42 ⟨⟨rfl, rfl⟩, ⟨_, rfl, .inl ⟨rfl, rfl⟩⟩, ⟨_, rfl, .inl ⟨rfl, rfl⟩⟩, trivial⟩ (.inl rfl)) ?_
          refine SOps.q rfl (.guard 4 32 false rfl rfl (gF g96)) rfl (q_not rfl rfl) ?_
          refine SOps.q rfl (.plain rfl) rfl (q_pick_f rfl rfl g96 rfl) ?_
          refine SOps.sub (st' := ⟨[(1, .c (.int .i64 a1_purpose)), (2, .c (.int .i64 a2_conn)), (3, .c (.str a3_txn)), (4, .c (.int .i64 a4_start)), (5, .c (.int .i64 a5_t)), (12, .c (.ptr 0 0)), (15, .c (.ptr 1 0)), (16, .c (.int .i64 limit_38)), (17, .c (.bool found_39)), (19, .c (.ptr 2 0)), (22, .c (.vec a0_l.length 11 (gL cSProfile dSProfile a0_l))), (23, .c (.int .i64 (((a0_l).length : Int)))), (24, .c (.int .i64 t24_40)), (38, .c (.bool ((!c_97))))], [.box [.int .i64 0, .int .i64 0, .int .i64 0, .int .i64 0, .int .i64 0, .str ByteArray.empty, .int .i64 0, .int .i64 0, .int .i64 0, .int .i64 0, .raw (.slice none 0 0)], .box [.int .i64 b1_41, .int .i64 b1_42, .int .i64 b1_43, .int .i64 b1_44, .int .i64 b1_45, .str b1_46, .int .i64 b1_47, .int .i64 b1_48, .int .i64 b1_49, .int .i64 b1_50, .vec b1_51.length 2 (gL cSPeriod dSPeriod b1_51)], .box [.int .i64 ((a0_l.getD t24_40.toNat dSProfile).ID), .int .i64 ((a0_l.getD t24_40.toNat dSProfile).Level), .int .i64 ((a0_l.getD t24_40.toNat dSProfile).Purpose), .int .i64 ((a0_l.getD t24_40.toNat dSProfile).Kind), .int .i64 ((a0_l.getD t24_40.toNat dSProfile).Conn), .str ((a0_l.getD t24_40.toNat dSProfile).Txn), .int .i64 ((a0_l.getD t24_40.toNat dSProfile).Span_From), .int .i64 ((a0_l.getD t24_40.toNat dSProfile).Span_To), .int .i64 ((a0_l.getD t24_40.toNat dSProfile).Start), .int .i64 ((a0_l.getD t24_40.toNat dSProfile).Duration), .vec ((a0_l.getD t24_40.toNat dSProfile).Periods).length 2 (gL cSPeriod dSPeriod ((a0_l.getD t24_40.toNat dSProfile).Periods))]]⟩) (sub_gen [0, 1, 2] rfl rfl ⟨zc rfl rfl, zc rfl rfl, zc rfl rfl, zc rfl rfl, zc rfl rfl, zc rfl rfl, zc rfl rfl, zc rfl rfl, zc rfl rfl, zc rfl rfl, zc rfl rfl, zc rfl rfl, zc rfl rfl, zc rfl rfl, trivial⟩ ⟨⟨_, rfl, ⟨ii rfl rfl, ii rfl rfl, ii rfl rfl, ii rfl rfl, ii rfl rfl, ii rfl rfl, ii rfl rfl, ii rfl rfl, ii rfl rfl, ii rfl rfl, ii rfl rfl, trivial⟩⟩, ⟨_, rfl, ⟨ii rfl rfl, ii rfl rfl, ii rfl rfl, ii rfl rfl, ii rfl rfl, ii rfl rfl, ii rfl rfl, ii rfl rfl, ii rfl rfl, ii rfl rfl, ii rfl rfl, trivial⟩⟩, ⟨_, rfl, ⟨ii rfl rfl, ii rfl rfl, ii rfl rfl, ii rfl rfl, ii rfl rfl, ii rfl rfl, ii rfl rfl, ii rfl rfl, ii rfl rfl, ii rfl rfl, ii rfl rfl, trivial⟩⟩, trivial⟩) ?_
          refine SOps.nil ?_
          rcases cond_out h with ⟨g99, h⟩ | ⟨g99, h⟩
          · refine SCode.cond_t rfl g99 ?_
            refine SCode.exit ?_
            exact ⟨(limit_38, found_39, b1_41, b1_42, b1_43, b1_44, b1_45, b1_46, b1_47, b1_48, b1_49, b1_50, b1_51), h, sub_gen [0, 1] rfl rfl ⟨zc rfl rfl, zc rfl rfl, zc rfl rfl, zc rfl rfl, zc rfl rfl, zc rfl rfl, zc rfl rfl, zc rfl rfl, zc rfl rfl, zc rfl rfl, zc rfl rfl, zc rfl rfl, trivial⟩ ⟨⟨_, rfl, ⟨ii rfl rfl, ii rfl rfl, ii rfl rfl, ii rfl rfl, ii rfl rfl, ii rfl rfl, ii rfl rfl, ii rfl rfl, ii rfl rfl, ii rfl rfl, ii rfl rfl, trivial⟩⟩, ⟨_, rfl, ⟨ii rfl rfl, ii rfl rfl, ii rfl rfl, ii rfl rfl, ii rfl rfl, ii rfl rfl, ii rfl rfl, ii rfl rfl, ii rfl rfl, ii rfl rfl, ii rfl rfl, trivial⟩⟩, trivial⟩⟩
          refine SCode.cond_f rfl g99 ?_
          refine SCode.skip ?_
          refine SCode.seq ?_
          obtain ⟨c_100, g101, h⟩ := bind_out h
          try dsimp only at h
          refine SCode.region (show SOps _ _ _ [0, 1, 2, 3, 4, 5, 6, 7, 8] _ _ from ?_)
          refine SOps.q rfl (.plain rfl) rfl (q_load_ptr_all rfl rfl rfl rfl rfl ty31) ?_
          refine SOps.q rfl (.plain rfl) rfl (q_move rfl rfl) ?_
          refine SOps.q rfl (.plain rfl) rfl (q_move rfl rfl) ?_
          refine SOps.q rfl (.plain rfl) rfl (q_call (chargenetref15_Limit_ok F (a0_l.getD t24_40.toNat dSProfile) a4_start a5_t c_100 g101) [] rfl fn10 ⟨⟨rfl, rfl⟩, ⟨_, rfl, .inl ⟨rfl, rfl⟩⟩, ⟨_, rfl, .inl ⟨rfl, rfl⟩⟩, trivial⟩ (.inl rfl)) ?_
          refine SOps.q rfl (.plain rfl) rfl (q_move rfl rfl) ?_
          refine SOps.q rfl (.plain rfl) rfl (q_extract rfl rfl rfl) ?_
          refine SOps.q rfl (.plain rfl) rfl (q_extract rfl rfl rfl) ?_
          refine SOps.q rfl (.plain rfl) rfl (q_assign rfl rfl) ?_
          refine SOps.q rfl (.plain rfl) rfl (q_assign rfl rfl) ?_
          refine SOps.sub (st' := ⟨[(1, .c (.int .i64 a1_purpose)), (2, .c (.int .i64 a2_conn)), (3, .c (.str a3_txn)), (4, .c (.int .i64 a4_start)), (5, .c (.int .i64 a5_t)), (12, .c (.ptr 0 0)), (15, .c (.ptr 1 0)), (16, .c (.int .i64 limit_38)), (17, .c (.bool found_39)), (19, .c (.ptr 2 0)), (20, .c (.int .i64 c_100.1)), (21, .c (.bool c_100.2)), (22, .c (.vec a0_l.length 11 (gL cSProfile dSProfile a0_l))), (23, .c (.int .i64 (((a0_l).length : Int)))), (24, .c (.int .i64 t24_40))], [.box [.int .i64 0, .int .i64 0, .int .i64 0, .int .i64 0, .int .i64 0, .str ByteArray.empty, .int .i64 0, .int .i64 0, .int .i64 0, .int .i64 0, .raw (.slice none 0 0)], .box [.int .i64 b1_41, .int .i64 b1_42, .int .i64 b1_43, .int .i64 b1_44, .int .i64 b1_45, .str b1_46, .int .i64 b1_47, .int .i64 b1_48, .int .i64 b1_49, .int .i64 b1_50, .vec b1_51.length 2 (gL cSPeriod dSPeriod b1_51)], .box [.int .i64 ((a0_l.getD t24_40.toNat dSProfile).ID), .int .i64 ((a0_l.getD t24_40.toNat dSProfile).Level), .int .i64 ((a0_l.getD t24_40.toNat dSProfile).Purpose), .int .i64 ((a0_l.getD t24_40.toNat dSProfile).Kind), .int .i64 ((a0_l.getD t24_40.toNat dSProfile).Conn), .str ((a0_l.getD t24_40.toNat dSProfile).Txn), .int .i64 ((a0_l.getD t24_40.toNat dSProfile).Span_From), .int .i64 ((a0_l.getD t24_40.toNat dSProfile).Span_To), .int .i64 ((a0_l.getD t24_40.toNat dSProfile).Start), .int .i64 ((a0_l.getD t24_40.toNat dSProfile).Duration), .vec ((a0_l.getD t24_40.toNat dSProfile).Periods).length 2 (gL cSPeriod dSPeriod ((a0_l.getD t24_40.toNat dSProfile).Periods))]]⟩) (sub_gen [0, 1, 2] rfl rfl ⟨zc rfl rfl, zc rfl rfl, zc rfl rfl, zc rfl rfl, zc rfl rfl, zc rfl rfl, zc rfl rfl, zc rfl rfl, zc rfl rfl, zc rfl rfl, zc rfl rfl, zc rfl rfl, zc rfl rfl, zc rfl rfl, zc rfl rfl, trivial⟩ ⟨⟨_, rfl, ⟨ii rfl rfl, ii rfl rfl, ii rfl rfl, ii rfl rfl, ii rfl rfl, ii rfl rfl, ii rfl rfl, ii rfl rfl, ii rfl rfl, ii rfl rfl, ii rfl rfl, trivial⟩⟩, ⟨_, rfl, ⟨ii rfl rfl, ii rfl rfl, ii rfl rfl, ii rfl rfl, ii rfl rfl, ii rfl rfl, ii rfl rfl, ii rfl rfl, ii rfl rfl, ii rfl rfl, ii rfl rfl, trivial⟩⟩, ⟨_, rfl, ⟨ii rfl rfl, ii rfl rfl, ii rfl rfl, ii rfl rfl, ii rfl rfl, ii rfl rfl, ii rfl rfl, ii rfl rfl, ii rfl rfl, ii rfl rfl, ii rfl rfl, trivial⟩⟩, trivial⟩) ?_
          refine SOps.nil ?_
          refine SCode.seq ?_
          refine SCode.seq ?_
          refine SCode.region (show SOps _ _ _ [0, 1] _ _ from ?_)
          refine SOps.q rfl (.plain rfl) rfl (q_move rfl rfl) ?_
          refine SOps.q rfl (.plain rfl) rfl (q_not rfl rfl) ?_
          refine SOps.sub (st' := ⟨[(1, .c (.int .i64 a1_purpose)), (2, .c (.int .i64 a2_conn)), (3, .c (.str a3_txn)), (4, .c (.int .i64 a4_start)), (5, .c (.int .i64 a5_t)), (12, .c (.ptr 0 0)), (15, .c (.ptr 1 0)), (16, .c (.int .i64 limit_38)), (17, .c (.bool found_39)), (19, .c (.ptr 2 0)), (20, .c (.int .i64 c_100.1)), (22, .c (.vec a0_l.length 11 (gL cSProfile dSProfile a0_l))), (23, .c (.int .i64 (((a0_l).length : Int)))), (24, .c (.int .i64 t24_40)), (47, .c (.bool ((!c_100.2))))], [.box [.int .i64 0, .int .i64 0, .int .i64 0, .int .i64 0, .int .i64 0, .str ByteArray.empty, .int .i64 0, .int .i64 0, .int .i64 0, .int .i64 0, .raw (.slice none 0 0)], .box [.int .i64 b1_41, .int .i64 b1_42, .int .i64 b1_43, .int .i64 b1_44, .int .i64 b1_45, .str b1_46, .int .i64 b1_47, .int .i64 b1_48, .int .i64 b1_49, .int .i64 b1_50, .vec b1_51.length 2 (gL cSPeriod dSPeriod b1_51)], .box [.int .i64 ((a0_l.getD t24_40.toNat dSProfile).ID), .int .i64 ((a0_l.getD t24_40.toNat dSProfile).Level), .int .i64 ((a0_l.getD t24_40.toNat dSProfile).Purpose), .int .i64 ((a0_l.getD t24_40.toNat dSProfile).Kind), .int .i64 ((a0_l.getD t24_40.toNat dSProfile).Conn), .str ((a0_l.getD t24_40.toNat dSProfile).Txn), .int .i64 ((a0_l.getD t24_40.toNat dSProfile).Span_From), .int .i64 ((a0_l.getD t24_40.toNat dSProfile).Span_To), .int .i64 ((a0_l.getD t24_40.toNat dSProfile).Start), .int .i64 ((a0_l.getD t24_40.toNat dSProfile).Duration), .vec ((a0_l.getD t24_40.toNat dSProfile).Periods).length 2 (gL cSPeriod dSPeriod ((a0_l.getD t24_40.toNat dSProfile).Periods))]]⟩) (sub_gen [0, 1, 2] rfl rfl ⟨zc rfl rfl, zc rfl rfl, zc rfl rfl, zc rfl rfl, zc rfl rfl, zc rfl rfl, zc rfl rfl, zc rfl rfl, zc rfl rfl, zc rfl rfl, zc rfl rfl, zc rfl rfl, zc rfl rfl, zc rfl rfl, zc rfl rfl, trivial⟩ ⟨⟨_, rfl, ⟨ii rfl rfl, ii rfl rfl, ii rfl rfl, ii rfl rfl, ii rfl rfl, ii rfl rfl, ii rfl rfl, ii rfl rfl, ii rfl rfl, ii rfl rfl, ii rfl rfl, trivial⟩⟩, ⟨_, rfl, ⟨ii rfl rfl, ii rfl rfl, ii rfl rfl, ii rfl rfl, ii rfl rfl, ii rfl rfl, ii rfl rfl, ii rfl rfl, ii rfl rfl, ii rfl rfl, ii rfl rfl, trivial⟩⟩, ⟨_, rfl, ⟨ii rfl rfl, ii rfl rfl, ii rfl rfl, ii rfl rfl, ii rfl rfl, ii rfl rfl, ii rfl rfl, ii rfl rfl, ii rfl rfl, ii rfl rfl, ii rfl rfl, trivial⟩⟩, trivial⟩) ?_
          refine SOps.nil ?_
          rcases cond_out h with ⟨g102, h⟩ | ⟨g102, h⟩
          · refine SCode.cond_t rfl g102 ?_
            refine SCode.exit ?_
            exact ⟨(limit_38, found_39, b1_41, b1_42, b1_43, b1_44, b1_45, b1_46, b1_47, b1_48, b1_49, b1_50, b1_51), h, sub_gen [0, 1] rfl rfl ⟨zc rfl rfl, zc rfl rfl, zc rfl rfl, zc rfl rfl, zc rfl rfl, zc rfl rfl, zc rfl rfl, zc rfl rfl, zc rfl rfl, zc rfl rfl, zc rfl rfl, zc rfl rfl, trivial⟩ ⟨⟨_, rfl, ⟨ii rfl rfl, ii rfl rfl, ii rfl rfl, ii rfl rfl, ii rfl rfl, ii rfl rfl, ii rfl rfl, ii rfl rfl, ii rfl rfl, ii rfl rfl, ii rfl rfl, trivial⟩⟩, ⟨_, rfl, ⟨ii rfl rfl, ii rfl rfl, ii rfl rfl, ii rfl rfl, ii rfl rfl, ii rfl rfl, ii rfl rfl, ii rfl rfl, ii rfl rfl, ii rfl rfl, ii rfl rfl, trivial⟩⟩, trivial⟩⟩
          refine SCode.cond_f rfl g102 ?_
          refine SCode.skip ?_
          refine SCode.seq ?_
          rcases cond_out h with ⟨g103, h⟩ | ⟨g103, h⟩
          · refine SCode.region (show SOps _ _ _ [0, 1, 2, 3, 4, 5, 6, 7, 8, 9, 10, 11, 12, 13, 14, 15, 16, 17, 18, 19, 20, 21, 22] _ _ from ?_)
            refine SOps.q rfl (.plain rfl) rfl (q_move rfl rfl) ?_
            refine SOps.q rfl (.plain rfl) rfl (q_not rfl rfl) ?_
            refine SOps.q rfl (.plain rfl) rfl (q_move rfl rfl) ?_
            refine SOps.skip rfl 2 50 false rfl rfl (.inl (gT g103)) rfl ?_
            refine SOps.skip rfl 2 50 false rfl rfl (.inl (gT g103)) rfl ?_
            refine SOps.skip rfl 2 50 false rfl rfl (.inl (gT g103)) rfl ?_
            refine SOps.skip rfl 2 50 false rfl rfl (.inl (gT g103)) rfl ?_
            refine SOps.skip rfl 2 50 false rfl rfl (.inl (gT g103)) rfl ?_
            refine SOps.q rfl (.plain rfl) rfl (q_pick_t rfl rfl g103 rfl) ?_
            refine SOps.q rfl (.plain rfl) rfl (q_move rfl rfl) ?_
            refine SOps.skip rfl 9 57 false rfl rfl (.inl rfl) rfl ?_
            refine SOps.skip rfl 9 57 false rfl rfl (.inl rfl) rfl ?_
            refine SOps.skip rfl 9 57 false rfl rfl (.inl rfl) rfl ?_
            refine SOps.skip rfl 9 57 false rfl rfl (.inl rfl) rfl ?_
            refine SOps.skip rfl 9 57 false rfl rfl (.inl rfl) rfl ?_
            refine SOps.skip rfl 9 57 false rfl rfl (.inl rfl) rfl ?_
            refine SOps.skip rfl 15 63 true rfl rfl (.inr rfl) rfl ?_
            refine SOps.skip rfl 15 63 true rfl rfl (.inr rfl) rfl ?_
            refine SOps.skip rfl 15 63 true rfl rfl (.inr rfl) rfl ?_
            refine SOps.skip rfl 15 63 true rfl rfl (.inr rfl) rfl ?_
            refine SOps.skip rfl 15 63 true rfl rfl (.inr rfl) rfl ?_
            refine SOps.skip rfl 9 57 false rfl rfl (.inl rfl) rfl ?_
            refine SOps.q rfl (.plain rfl) rfl (q_pick_t rfl rfl rfl rfl) ?_
            refine SOps.sub (st' := ⟨[(1, .c (.int .i64 a1_purpose)), (2, .c (.int .i64 a2_conn)), (3, .c (.str a3_txn)), (4, .c (.int .i64 a4_start)), (5, .c (.int .i64 a5_t)), (12, .c (.ptr 0 0)), (15, .c (.ptr 1 0)), (16, .c (.int .i64 limit_38)), (17, .c (.bool found_39)), (19, .c (.ptr 2 0)), (20, .c (.int .i64 c_100.1)), (22, .c (.vec a0_l.length 11 (gL cSProfile dSProfile a0_l))), (23, .c (.int .i64 (((a0_l).length : Int)))), (24, .c (.int .i64 t24_40)), (70, .c (.bool true))], [.box [.int .i64 0, .int .i64 0, .int .i64 0, .int .i64 0, .int .i64 0, .str ByteArray.empty, .int .i64 0, .int .i64 0, .int .i64 0, .int .i64 0, .raw (.slice none 0 0)], .box [.int .i64 b1_41, .int .i64 b1_42, .int .i64 b1_43, .int .i64 b1_44, .int .i64 b1_45, .str b1_46, .int .i64 b1_47, .int .i64 b1_48, .int .i64 b1_49, .int .i64 b1_50, .vec b1_51.length 2 (gL cSPeriod dSPeriod b1_51)], .box [.int .i64 ((a0_l.getD t24_40.toNat dSProfile).ID), .int .i64 ((a0_l.getD t24_40.toNat dSProfile).Level), .int .i64 ((a0_l.getD t24_40.toNat dSProfile).Purpose), .int .i64 ((a0_l.getD t24_40.toNat dSProfile).Kind), .int .i64 ((a0_l.getD t24_40.toNat dSProfile).Conn), .str ((a0_l.getD t24_40.toNat dSProfile).Txn), .int .i64 ((a0_l.getD t24_40.toNat dSProfile).Span_From), .int .i64 ((a0_l.getD t24_40.toNat dSProfile).Span_To), .int .i64 ((a0_l.getD t24_40.toNat dSProfile).Start), .int .i64 ((a0_l.getD t24_40.toNat dSProfile).Duration), .vec ((a0_l.getD t24_40.toNat dSProfile).Periods).length 2 (gL cSPeriod dSPeriod ((a0_l.getD t24_40.toNat dSProfile).Periods))]]⟩) (sub_gen [0, 1, 2] rfl rfl ⟨zc rfl rfl, zc rfl rfl, zc rfl rfl, zc rfl rfl, zc rfl rfl, zc rfl rfl, zc rfl rfl, zc rfl rfl, zc rfl rfl, zc rfl rfl, zc rfl rfl, zc rfl rfl, zc rfl rfl, zc rfl rfl, zc rfl rfl, trivial⟩ ⟨⟨_, rfl, ⟨ii rfl rfl, ii rfl rfl, ii rfl rfl, ii rfl rfl, ii rfl rfl, ii rfl rfl, ii rfl rfl, ii rfl rfl, ii rfl rfl, ii rfl rfl, ii rfl rfl, trivial⟩⟩, ⟨_, rfl, ⟨ii rfl rfl, ii rfl rfl, ii rfl rfl, ii rfl rfl, ii rfl rfl, ii rfl rfl, ii rfl rfl, ii rfl rfl, ii rfl rfl, ii rfl rfl, ii rfl rfl, trivial⟩⟩, ⟨_, rfl, ⟨ii rfl rfl, ii rfl rfl, ii rfl rfl, ii rfl rfl, ii rfl rfl, ii rfl rfl, ii rfl rfl, ii rfl rfl, ii rfl rfl, ii rfl rfl, ii rfl rfl, trivial⟩⟩, trivial⟩) ?_
            refine SOps.nil ?_
            refine SCode.cond_t rfl rfl ?_
            refine SCode.region (show SOps _ _ _ [0, 1, 2, 3, 4] _ _ from ?_)
            refine SOps.q rfl (.plain rfl) rfl (q_load_ptr_all rfl rfl rfl rfl rfl ty31) ?_
            refine SOps.q rfl (.plain rfl) rfl (q_move rfl rfl) ?_
            refine SOps.e rfl (.plain rfl) (e_store_box rfl rfl rfl rfl rfl ty31 rfl rfl rfl rfl) ?_
            refine SOps.q rfl (.plain rfl) rfl (q_assign rfl rfl) ?_
            refine SOps.q rfl (.plain rfl) rfl (q_assign rfl rfl) ?_
            refine SOps.sub (st' := ⟨[(1, .c (.int .i64 a1_purpose)), (2, .c (.int .i64 a2_conn)), (3, .c (.str a3_txn)), (4, .c (.int .i64 a4_start)), (5, .c (.int .i64 a5_t)), (12, .c (.ptr 0 0)), (15, .c (.ptr 1 0)), (16, .c (.int .i64 c_100.1)), (17, .c (.bool true)), (22, .c (.vec a0_l.length 11 (gL cSProfile dSProfile a0_l))), (23, .c (.int .i64 (((a0_l).length : Int)))), (24, .c (.int .i64 t24_40))], [.box [.int .i64 0, .int .i64 0, .int .i64 0, .int .i64 0, .int .i64 0, .str ByteArray.empty, .int .i64 0, .int .i64 0, .int .i64 0, .int .i64 0, .raw (.slice none 0 0)], .box [.int .i64 ((a0_l.getD t24_40.toNat dSProfile).ID), .int .i64 ((a0_l.getD t24_40.toNat dSProfile).Level), .int .i64 ((a0_l.getD t24_40.toNat dSProfile).Purpose), .int .i64 ((a0_l.getD t24_40.toNat dSProfile).Kind), .int .i64 ((a0_l.getD t24_40.toNat dSProfile).Conn), .str ((a0_l.getD t24_40.toNat dSProfile).Txn), .int .i64 ((a0_l.getD t24_40.toNat dSProfile).Span_From), .int .i64 ((a0_l.getD t24_40.toNat dSProfile).Span_To), .int .i64 ((a0_l.getD t24_40.toNat dSProfile).Start), .int .i64 ((a0_l.getD t24_40.toNat dSProfile).Duration), .vec ((a0_l.getD t24_40.toNat dSProfile).Periods).length 2 (gL cSPeriod dSPeriod ((a0_l.getD t24_40.toNat dSProfile).Periods))]]⟩) (sub_gen [0, 1] rfl rfl ⟨zc rfl rfl, zc rfl rfl, zc rfl rfl, zc rfl rfl, zc rfl rfl, zc rfl rfl, zc rfl rfl, zc rfl rfl, zc rfl rfl, zc rfl rfl, zc rfl rfl, zc rfl rfl, trivial⟩ ⟨⟨_, rfl, ⟨ii rfl rfl, ii rfl rfl, ii rfl rfl, ii rfl rfl, ii rfl rfl, ii rfl rfl, ii rfl rfl, ii rfl rfl, ii rfl rfl, ii rfl rfl, ii rfl rfl, trivial⟩⟩, ⟨_, rfl, ⟨ii rfl rfl, ii rfl rfl, ii rfl rfl, ii rfl rfl, ii rfl rfl, ii rfl rfl, ii rfl rfl, ii rfl rfl, ii rfl rfl, ii rfl rfl, ii rfl rfl, trivial⟩⟩, trivial⟩) ?_
            refine SOps.nil ?_
            exact ⟨(c_100.1, true, (a0_l.getD t24_40.toNat dSProfile).ID, (a0_l.getD t24_40.toNat dSProfile).Level, (a0_l.getD t24_40.toNat dSProfile).Purpose, (a0_l.getD t24_40.toNat dSProfile).Kind, (a0_l.getD t24_40.toNat dSProfile).Conn, (a0_l.getD t24_40.toNat dSProfile).Txn, (a0_l.getD t24_40.toNat dSProfile).Span_From, (a0_l.getD t24_40.toNat dSProfile).Span_To, (a0_l.getD t24_40.toNat dSProfile).Start, (a0_l.getD t24_40.toNat dSProfile).Duration, (a0_l.getD t24_40.toNat dSProfile).Periods), h, sub_gen [0, 1] rfl rfl ⟨zc rfl rfl, zc rfl rfl, zc rfl rfl, zc rfl rfl, zc rfl rfl, zc rfl rfl, zc rfl rfl, zc rfl rfl, zc rfl rfl, zc rfl rfl, zc rfl rfl, zc rfl rfl, trivial⟩ ⟨⟨_, rfl, ⟨ii rfl rfl, ii rfl rfl, ii rfl rfl, ii rfl rfl, ii rfl rfl, ii rfl rfl, ii rfl rfl, ii rfl rfl, ii rfl rfl, ii rfl rfl, ii rfl rfl, trivial⟩⟩, ⟨_, rfl, ⟨ii rfl rfl, ii rfl rfl, ii rfl rfl, ii rfl rfl, ii rfl rfl, ii rfl rfl, ii rfl rfl, ii rfl rfl, ii rfl rfl, ii rfl rfl, ii rfl rfl, trivial⟩⟩, trivial⟩⟩
          rcases cond_out h with ⟨g104, h⟩ | ⟨g104, h⟩
          · refine SCode.region (show SOps _ _ _ [0, 1, 2, 3, 4, 5, 6, 7, 8, 9, 10, 11, 12, 13, 14, 15, 16, 17, 18, 19, 20, 21, 22] _ _ from ?_)
            refine SOps.q rfl (.plain rfl) rfl (q_move rfl rfl) ?_
            refine SOps.q rfl (.plain rfl) rfl (q_not rfl rfl) ?_
            refine SOps.q rfl (.plain rfl) rfl (q_move rfl rfl) ?_
            refine SOps.q rfl (.guard 2 50 false rfl rfl (gF g103)) rfl (q_field_ptr rfl rfl fd31_1) ?_
            refine SOps.q rfl (.guard 2 50 false rfl rfl (gF g103)) rfl (q_load_ptr rfl rfl rfl rfl ty3) ?_
            refine SOps.q rfl (.guard 2 50 false rfl rfl (gF g103)) rfl (q_field_ptr rfl rfl fd31_1) ?_
            refine SOps.q rfl (.guard 2 50 false rfl rfl (gF g103)) rfl (q_load_ptr rfl rfl rfl rfl ty3) ?_
            refine SOps.q rfl (.guard 2 50 false rfl rfl (gF g103)) rfl (q_gtr rfl rfl rfl) ?_
            refine SOps.q rfl (.plain rfl) rfl (q_pick_f rfl rfl g103 rfl) ?_
            refine SOps.q rfl (.plain rfl) rfl (q_move rfl rfl) ?_
            refine SOps.skip rfl 9 57 false rfl rfl (.inl (gT g104)) rfl ?_
            refine SOps.skip rfl 9 57 false rfl rfl (.inl (gT g104)) rfl ?_
            refine SOps.skip rfl 9 57 false rfl rfl (.inl (gT g104)) rfl ?_
            refine SOps.skip rfl 9 57 false rfl rfl (.inl (gT g104)) rfl ?_
            refine SOps.skip rfl 9 57 false rfl rfl (.inl (gT g104)) rfl ?_
            refine SOps.skip rfl 9 57 false rfl rfl (.inl (gT g104)) rfl ?_
            refine SOps.skip rfl 15 63 true rfl rfl (.inr rfl) rfl ?_
            refine SOps.skip rfl 15 63 true rfl rfl (.inr rfl) rfl ?_
            refine SOps.skip rfl 15 63 true rfl rfl (.inr rfl) rfl ?_
            refine SOps.skip rfl 15 63 true rfl rfl (.inr rfl) rfl ?_
            refine SOps.skip rfl 15 63 true rfl rfl (.inr rfl) rfl ?_
            refine SOps.skip rfl 9 57 false rfl rfl (.inl (gT g104)) rfl ?_
            refine SOps.q rfl (.plain rfl) rfl (q_pick_t rfl rfl g104 rfl) ?_
            refine SOps.sub (st' := ⟨[(1, .c (.int .i64 a1_purpose)), (2, .c (.int .i64 a2_conn)), (3, .c (.str a3_txn)), (4, .c (.int .i64 a4_start)), (5, .c (.int .i64 a5_t)), (12, .c (.ptr 0 0)), (15, .c (.ptr 1 0)), (16, .c (.int .i64 limit_38)), (17, .c (.bool found_39)), (19, .c (.ptr 2 0)), (20, .c (.int .i64 c_100.1)), (22, .c (.vec a0_l.length 11 (gL cSProfile dSProfile a0_l))), (23, .c (.int .i64 (((a0_l).length : Int)))), (24, .c (.int .i64 t24_40)), (70, .c (.bool true))], [.box [.int .i64 0, .int .i64 0, .int .i64 0, .int .i64 0, .int .i64 0, .str ByteArray.empty, .int .i64 0, .int .i64 0, .int .i64 0, .int .i64 0, .raw (.slice none 0 0)], .box [.int .i64 b1_41, .int .i64 b1_42, .int .i64 b1_43, .int .i64 b1_44, .int .i64 b1_45, .str b1_46, .int .i64 b1_47, .int .i64 b1_48, .int .i64 b1_49, .int .i64 b1_50, .vec b1_51.length 2 (gL cSPeriod dSPeriod b1_51)], .box [.int .i64 ((a0_l.getD t24_40.toNat dSProfile).ID), .int .i64 ((a0_l.getD t24_40.toNat dSProfile).Level), .int .i64 ((a0_l.getD t24_40.toNat dSProfile).Purpose), .int .i64 ((a0_l.getD t24_40.toNat dSProfile).Kind), .int .i64 ((a0_l.getD t24_40.toNat dSProfile).Conn), .str ((a0_l.getD t24_40.toNat dSProfile).Txn), .int .i64 ((a0_l.getD t24_40.toNat dSProfile).Span_From), .int .i64 ((a0_l.getD t24_40.toNat dSProfile).Span_To), .int .i64 ((a0_l.getD t24_40.toNat dSProfile).Start), .int .i64 ((a0_l.getD t24_40.toNat dSProfile).Duration), .vec ((a0_l.getD t24_40.toNat dSProfile).Periods).length 2 (gL cSPeriod dSPeriod ((a0_l.getD t24_40.toNat dSProfile).Periods))]]⟩) (sub_gen [0, 1, 2] rfl rfl ⟨zc rfl rfl, zc rfl rfl, zc rfl rfl, zc rfl rfl, zc rfl rfl, zc rfl rfl, zc rfl rfl, zc rfl rfl, zc rfl rfl, zc rfl rfl, zc rfl rfl, zc rfl rfl, zc rfl rfl, zc rfl rfl, zc rfl rfl, trivial⟩ ⟨⟨_, rfl, ⟨ii rfl rfl, ii rfl rfl, ii rfl rfl, ii rfl rfl, ii rfl rfl, ii rfl rfl, ii rfl rfl, ii rfl rfl, ii rfl rfl, ii rfl rfl, ii rfl rfl, trivial⟩⟩, ⟨_, rfl, ⟨ii rfl rfl, ii rfl rfl, ii rfl rfl, ii rfl rfl, ii rfl rfl, ii rfl rfl, ii rfl rfl, ii rfl rfl, ii rfl rfl, ii rfl rfl, ii rfl rfl, trivial⟩⟩, ⟨_, rfl, ⟨ii rfl rfl, ii rfl rfl, ii rfl rfl, ii rfl rfl, ii rfl rfl, ii rfl rfl, ii rfl rfl, ii rfl rfl, ii rfl rfl, ii rfl rfl, ii rfl rfl, trivial⟩⟩, trivial⟩) ?_
            refine SOps.nil ?_
            refine SCode.cond_t rfl rfl ?_
            refine SCode.region (show SOps _ _ _ [0, 1, 2, 3, 4] _ _ from ?_)
            refine SOps.q rfl (.plain rfl) rfl (q_load_ptr_all rfl rfl rfl rfl rfl ty31) ?_
            refine SOps.q rfl (.plain rfl) rfl (q_move rfl rfl) ?_
            refine SOps.e rfl (.plain rfl) (e_store_box rfl rfl rfl rfl rfl ty31 rfl rfl rfl rfl) ?_
            refine SOps.q rfl (.plain rfl) rfl (q_assign rfl rfl) ?_
            refine SOps.q rfl (.plain rfl) rfl (q_assign rfl rfl) ?_
            refine SOps.sub (st' := ⟨[(1, .c (.int .i64 a1_purpose)), (2, .c (.int .i64 a2_conn)), (3, .c (.str a3_txn)), (4, .c (.int .i64 a4_start)), (5, .c (.int .i64 a5_t)), (12, .c (.ptr 0 0)), (15, .c (.ptr 1 0)), (16, .c (.int .i64 c_100.1)), (17, .c (.bool true)), (22, .c (.vec a0_l.length 11 (gL cSProfile dSProfile a0_l))), (23, .c (.int .i64 (((a0_l).length : Int)))), (24, .c (.int .i64 t24_40))], [.box [.int .i64 0, .int .i64 0, .int .i64 0, .int .i64 0, .int .i64 0, .str ByteArray.empty, .int .i64 0, .int .i64 0, .int .i64 0, .int .i64 0, .raw (.slice none 0 0)], .box [.int .i64 ((a0_l.getD t24_40.toNat dSProfile).ID), .int .i64 ((a0_l.getD t24_40.toNat dSProfile).Level), .int .i64 ((a0_l.getD t24_40.toNat dSProfile).Purpose), .int .i64 ((a0_l.getD t24_40.toNat dSProfile).Kind), .int .i64 ((a0_l.getD t24_40.toNat dSProfile).Conn), .str ((a0_l.getD t24_40.toNat dSProfile).Txn), .int .i64 ((a0_l.getD t24_40.toNat dSProfile).Span_From), .int .i64 ((a0_l.getD t24_40.toNat dSProfile).Span_To), .int .i64 ((a0_l.getD t24_40.toNat dSProfile).Start), .int .i64 ((a0_l.getD t24_40.toNat dSProfile).Duration), .vec ((a0_l.getD t24_40.toNat dSProfile).Periods).length 2 (gL cSPeriod dSPeriod ((a0_l.getD t24_40.toNat dSProfile).Periods))]]⟩) (sub_gen [0, 1] rfl rfl ⟨zc rfl rfl, zc rfl rfl, zc rfl rfl, zc rfl rfl, zc rfl rfl, zc rfl rfl, zc rfl rfl, zc rfl rfl, zc rfl rfl, zc rfl rfl, zc rfl rfl, zc rfl rfl, trivial⟩ ⟨⟨_, rfl, ⟨ii rfl rfl, ii rfl rfl, ii rfl rfl, ii rfl rfl, ii rfl rfl, ii rfl rfl, ii rfl rfl, ii rfl rfl, ii rfl rfl, ii rfl rfl, ii rfl rfl, trivial⟩⟩, ⟨_, rfl, ⟨ii rfl rfl, ii rfl rfl, ii rfl rfl, ii rfl rfl, ii rfl rfl, ii rfl rfl, ii rfl rfl, ii rfl rfl, ii rfl rfl, ii rfl rfl, ii rfl rfl, trivial⟩⟩, trivial⟩) ?_
            refine SOps.nil ?_
            exact ⟨(c_100.1, true, (a0_l.getD t24_40.toNat dSProfile).ID, (a0_l.getD t24_40.toNat dSProfile).Level, (a0_l.getD t24_40.toNat dSProfile).Purpose, (a0_l.getD t24_40.toNat dSProfile).Kind, (a0_l.getD t24_40.toNat dSProfile).Conn, (a0_l.getD t24_40.toNat dSProfile).Txn, (a0_l.getD t24_40.toNat dSProfile).Span_From, (a0_l.getD t24_40.toNat dSProfile).Span_To, (a0_l.getD t24_40.toNat dSProfile).Start, (a0_l.getD t24_40.toNat dSProfile).Duration, (a0_l.getD t24_40.toNat dSProfile).Periods), h, sub_gen [0, 1] rfl rfl ⟨zc rfl rfl, zc rfl rfl, zc rfl rfl, zc rfl rfl, zc rfl rfl, zc rfl rfl, zc rfl rfl, zc rfl rfl, zc rfl rfl, zc rfl rfl, zc rfl rfl, zc rfl rfl, trivial⟩ ⟨⟨_, rfl, ⟨ii rfl rfl, ii rfl rfl, ii rfl rfl, ii rfl rfl, ii rfl rfl, ii rfl rfl, ii rfl rfl, ii rfl rfl, ii rfl rfl, ii rfl rfl, ii rfl rfl, trivial⟩⟩, ⟨_, rfl, ⟨ii rfl rfl, ii rfl rfl, ii rfl rfl, ii rfl rfl, ii rfl rfl, ii rfl rfl, ii rfl rfl, ii rfl rfl, ii rfl rfl, ii rfl rfl, ii rfl rfl, trivial⟩⟩, trivial⟩⟩
          rcases cond_out h with ⟨g105, h⟩ | ⟨g105, h⟩
          · refine SCode.region (show SOps _ _ _ [0, 1, 2, 3, 4, 5, 6, 7, 8, 9, 10, 11, 12, 13, 14, 15, 16, 17, 18, 19, 20, 21, 22] _ _ from ?_)
            refine SOps.q rfl (.plain rfl) rfl (q_move rfl rfl) ?_
            refine SOps.q rfl (.plain rfl) rfl (q_not rfl rfl) ?_
            refine SOps.q rfl (.plain rfl) rfl (q_move rfl rfl) ?_
            refine SOps.q rfl (.guard 2 50 false rfl rfl (gF g103)) rfl (q_field_ptr rfl rfl fd31_1) ?_
            refine SOps.q rfl (.guard 2 50 false rfl rfl (gF g103)) rfl (q_load_ptr rfl rfl rfl rfl ty3) ?_
            refine SOps.q rfl (.guard 2 50 false rfl rfl (gF g103)) rfl (q_field_ptr rfl rfl fd31_1) ?_
            refine SOps.q rfl (.guard 2 50 false rfl rfl (gF g103)) rfl (q_load_ptr rfl rfl rfl rfl ty3) ?_
            refine SOps.q rfl (.guard 2 50 false rfl rfl (gF g103)) rfl (q_gtr rfl rfl rfl) ?_
            refine SOps.q rfl (.plain rfl) rfl (q_pick_f rfl rfl g103 rfl) ?_
            refine SOps.q rfl (.plain rfl) rfl (q_move rfl rfl) ?_
            refine SOps.q rfl (.guard 9 57 false rfl rfl (gF g104)) rfl (q_field_ptr rfl rfl fd31_1) ?_
            refine SOps.q rfl (.guard 9 57 false rfl rfl (gF g104)) rfl (q_load_ptr rfl rfl rfl rfl ty3) ?_
            refine SOps.q rfl (.guard 9 57 false rfl rfl (gF g104)) rfl (q_field_ptr rfl rfl fd31_1) ?_
            refine SOps.q rfl (.guard 9 57 false rfl rfl (gF g104)) rfl (q_load_ptr rfl rfl rfl rfl ty3) ?_
            refine SOps.q rfl (.guard 9 57 false rfl rfl (gF g104)) rfl (q_eql rfl rfl rfl) ?_
            refine SOps.q rfl (.guard 9 57 false rfl rfl (gF g104)) rfl (q_move rfl rfl) ?_
            refine SOps.q rfl (.guard 15 63 true rfl rfl (gT g105)) rfl (q_field_ptr rfl rfl fd31_0) ?_
            refine SOps.q rfl (.guard 15 63 true rfl rfl (gT g105)) rfl (q_load_ptr rfl rfl rfl rfl ty3) ?_
            refine SOps.q rfl (.guard 15 63 true rfl rfl (gT g105)) rfl (q_field_ptr rfl rfl fd31_0) ?_
            refine SOps.q rfl (.guard 15 63 true rfl rfl (gT g105)) rfl (q_load_ptr rfl rfl rfl rfl ty3) ?_
            refine SOps.q rfl (.guard 15 63 true rfl rfl (gT g105)) rfl (q_gtr rfl rfl rfl) ?_
            refine SOps.q rfl (.guard 9 57 false rfl rfl (gF g104)) rfl (q_pick_t rfl rfl g105 rfl) ?_
            refine SOps.q rfl (.plain rfl) rfl (q_pick_f rfl rfl g104 rfl) ?_
            refine SOps.sub (st' := ⟨[(1, .c (.int .i64 a1_purpose)), (2, .c (.int .i64 a2_conn)), (3, .c (.str a3_txn)), (4, .c (.int .i64 a4_start)), (5, .c (.int .i64 a5_t)), (12, .c (.ptr 0 0)), (15, .c (.ptr 1 0)), (16, .c (.int .i64 limit_38)), (17, .c (.bool found_39)), (19, .c (.ptr 2 0)), (20, .c (.int .i64 c_100.1)), (22, .c (.vec a0_l.length 11 (gL cSProfile dSProfile a0_l))), (23, .c (.int .i64 (((a0_l).length : Int)))), (24, .c (.int .i64 t24_40)), (70, .c (.bool (decide (b1_41 < (a0_l.getD t24_40.toNat dSProfile).ID))))], [.box [.int .i64 0, .int .i64 0, .int .i64 0, .int .i64 0, .int .i64 0, .str ByteArray.empty, .int .i64 0, .int .i64 0, .int .i64 0, .int .i64 0, .raw (.slice none 0 0)], .box [.int .i64 b1_41, .int .i64 b1_42, .int .i64 b1_43, .int .i64 b1_44, .int .i64 b1_45, .str b1_46, .int .i64 b1_47, .int .i64 b1_48, .int .i64 b1_49, .int .i64 b1_50, .vec b1_51.length 2 (gL cSPeriod dSPeriod b1_51)], .box [.int .i64 ((a0_l.getD t24_40.toNat dSProfile).ID), .int .i64 ((a0_l.getD t24_40.toNat dSProfile).Level), .int .i64 ((a0_l.getD t24_40.toNat dSProfile).Purpose), .int .i64 ((a0_l.getD t24_40.toNat dSProfile).Kind), .int .i64 ((a0_l.getD t24_40.toNat dSProfile).Conn), .str ((a0_l.getD t24_40.toNat dSProfile).Txn), .int .i64 ((a0_l.getD t24_40.toNat dSProfile).Span_From), .int .i64 ((a0_l.getD t24_40.toNat dSProfile).Span_To), .int .i64 ((a0_l.getD t24_40.toNat dSProfile).Start), .int .i64 ((a0_l.getD t24_40.toNat dSProfile).Duration), .vec ((a0_l.getD t24_40.toNat dSProfile).Periods).length 2 (gL cSPeriod dSPeriod ((a0_l.getD t24_40.toNat dSProfile).Periods))]]⟩) (sub_gen [0, 1, 2] rfl rfl ⟨zc rfl rfl, zc rfl rfl, zc rfl rfl, zc rfl rfl, zc rfl rfl, zc rfl rfl, zc rfl rfl, zc rfl rfl, zc rfl rfl, zc rfl rfl, zc rfl rfl, zc rfl rfl, zc rfl rfl, zc rfl rfl, zc rfl rfl, trivial⟩ ⟨⟨_, rfl, ⟨ii rfl rfl, ii rfl rfl, ii rfl rfl, ii rfl rfl, ii rfl rfl, ii rfl rfl, ii rfl rfl, ii rfl rfl, ii rfl rfl, ii rfl rfl, ii rfl rfl, trivial⟩⟩, ⟨_, rfl, ⟨ii rfl rfl, ii rfl rfl, ii rfl rfl, ii rfl rfl, ii rfl rfl, ii rfl rfl, ii rfl rfl, ii rfl rfl, ii rfl rfl, ii rfl rfl, ii rfl rfl, trivial⟩⟩, ⟨_, rfl, ⟨ii rfl rfl, ii rfl rfl, ii rfl rfl, ii rfl rfl, ii rfl rfl, ii rfl rfl, ii rfl rfl, ii rfl rfl, ii rfl rfl, ii rfl rfl, ii rfl rfl, trivial⟩⟩, trivial⟩) ?_
            refine SOps.nil ?_
            rcases cond_out h with ⟨g106, h⟩ | ⟨g106, h⟩
            · refine SCode.cond_t rfl g106 ?_
              refine SCode.region (show SOps _ _ _ [0, 1, 2, 3, 4] _ _ from ?_)
              refine SOps.q rfl (.plain rfl) rfl (q_load_ptr_all rfl rfl rfl rfl rfl ty31) ?_
              refine SOps.q rfl (.plain rfl) rfl (q_move rfl rfl) ?_
              refine SOps.e rfl (.plain rfl) (e_store_box rfl rfl rfl rfl rfl ty31 rfl rfl rfl rfl) ?_
              refine SOps.q rfl (.plain rfl) rfl (q_assign rfl rfl) ?_
              refine SOps.q rfl (.plain rfl) rfl (q_assign rfl rfl) ?_
              refine SOps.sub (st' := ⟨[(1, .c (.int .i64 a1_purpose)), (2, .c (.int .i64 a2_conn)), (3, .c (.str a3_txn)), (4, .c (.int .i64 a4_start)), (5, .c (.int .i64 a5_t)), (12, .c (.ptr 0 0)), (15, .c (.ptr 1 0)), (16, .c (.int .i64 c_100.1)), (17, .c (.bool true)), (22, .c (.vec a0_l.length 11 (gL cSProfile dSProfile a0_l))), (23, .c (.int .i64 (((a0_l).length : Int)))), (24, .c (.int .i64 t24_40))], [.box [.int .i64 0, .int .i64 0, .int .i64 0, .int .i64 0, .int .i64 0, .str ByteArray.empty, .int .i64 0, .int .i64 0, .int .i64 0, .int .i64 0, .raw (.slice none 0 0)], .box [.int .i64 ((a0_l.getD t24_40.toNat dSProfile).ID), .int .i64 ((a0_l.getD t24_40.toNat dSProfile).Level), .int .i64 ((a0_l.getD t24_40.toNat dSProfile).Purpose), .int .i64 ((a0_l.getD t24_40.toNat dSProfile).Kind), .int .i64 ((a0_l.getD t24_40.toNat dSProfile).Conn), .str ((a0_l.getD t24_40.toNat dSProfile).Txn), .int .i64 ((a0_l.getD t24_40.toNat dSProfile).Span_From), .int .i64 ((a0_l.getD t24_40.toNat dSProfile).Span_To), .int .i64 ((a0_l.getD t24_40.toNat dSProfile).Start), .int .i64 ((a0_l.getD t24_40.toNat dSProfile).Duration), .vec ((a0_l.getD t24_40.toNat dSProfile).Periods).length 2 (gL cSPeriod dSPeriod ((a0_l.getD t24_40.toNat dSProfile).Periods))]]⟩) (sub_gen [0, 1] rfl rfl ⟨zc rfl rfl, zc rfl rfl, zc rfl rfl, zc rfl rfl, zc rfl rfl, zc rfl rfl, zc rfl rfl, zc rfl rfl, zc rfl rfl, zc rfl rfl, zc rfl rfl, zc rfl rfl, trivial⟩ ⟨⟨_, rfl, ⟨ii rfl rfl, ii rfl rfl, ii rfl rfl, ii rfl rfl, ii rfl rfl, ii rfl rfl, ii rfl rfl, ii rfl rfl, ii rfl rfl, ii rfl rfl, ii rfl rfl, trivial⟩⟩, ⟨_, rfl, ⟨ii rfl rfl, ii rfl rfl, ii rfl rfl, ii rfl rfl, ii rfl rfl, ii rfl rfl, ii rfl rfl, ii rfl rfl, ii rfl rfl, ii rfl rfl, ii rfl rfl, trivial⟩⟩, trivial⟩) ?_
              refine SOps.nil ?_
              exact ⟨(c_100.1, true, (a0_l.getD t24_40.toNat dSProfile).ID, (a0_l.getD t24_40.toNat dSProfile).Level, (a0_l.getD t24_40.toNat dSProfile).Purpose, (a0_l.getD t24_40.toNat dSProfile).Kind, (a0_l.getD t24_40.toNat dSProfile).Conn, (a0_l.getD t24_40.toNat dSProfile).Txn, (a0_l.getD t24_40.toNat dSProfile).Span_From, (a0_l.getD t24_40.toNat dSProfile).Span_To, (a0_l.getD t24_40.toNat dSProfile).Start, (a0_l.getD t24_40.toNat dSProfile).Duration, (a0_l.getD t24_40.toNat dSProfile).Periods), h, sub_gen [0, 1] rfl rfl ⟨zc rfl rfl, zc rfl rfl, zc rfl rfl, zc rfl rfl, zc rfl rfl, zc rfl rfl, zc rfl rfl, zc rfl rfl, zc rfl rfl, zc rfl rfl, zc rfl rfl, zc rfl rfl, trivial⟩ ⟨⟨_, rfl, ⟨ii rfl rfl, ii rfl rfl, ii rfl rfl, ii rfl rfl, ii rfl rfl, ii rfl rfl, ii rfl rfl, ii rfl rfl, ii rfl rfl, ii rfl rfl, ii rfl rfl, trivial⟩⟩, ⟨_, rfl, ⟨ii rfl rfl, ii rfl rfl, ii rfl rfl, ii rfl rfl, ii rfl rfl, ii rfl rfl, ii rfl rfl, ii rfl rfl, ii rfl rfl, ii rfl rfl, ii rfl rfl, trivial⟩⟩, trivial⟩⟩
            refine SCode.cond_f rfl g106 ?_
            refine SCode.skip ?_
            exact ⟨(limit_38, found_39, b1_41, b1_42, b1_43, b1_44, b1_45, b1_46, b1_47, b1_48, b1_49, b1_50, b1_51), h, sub_gen [0, 1] rfl rfl ⟨zc rfl rfl, zc rfl rfl, zc rfl rfl, zc rfl rfl, zc rfl rfl, zc rfl rfl, zc rfl rfl, zc rfl rfl, zc rfl rfl, zc rfl rfl, zc rfl rfl, zc rfl rfl, trivial⟩ ⟨⟨_, rfl, ⟨ii rfl rfl, ii rfl rfl, ii rfl rfl, ii rfl rfl, ii rfl rfl, ii rfl rfl, ii rfl rfl, ii rfl rfl, ii rfl rfl, ii rfl rfl, ii rfl rfl, trivial⟩⟩, ⟨_, rfl, ⟨ii rfl rfl, ii rfl rfl, ii rfl rfl, ii rfl rfl, ii rfl rfl, ii rfl rfl, ii rfl rfl, ii rfl rfl, ii rfl rfl, ii rfl rfl, ii rfl rfl, trivial⟩⟩, trivial⟩⟩
          refine SCode.region (show SOps _ _ _ [0, 1, 2, 3, 4, 5, 6, 7, 8, 9, 10, 11, 12, 13, 14, 15, 16, 17, 18, 19, 20, 21, 22] _ _ from ?_)
          refine SOps.q rfl (.plain rfl) rfl (q_move rfl rfl) ?_
          refine SOps.q rfl (.plain rfl) rfl (q_not rfl rfl) ?_
          refine SOps.q rfl (.plain rfl) rfl (q_move rfl rfl) ?_
          refine SOps.q rfl (.guard 2 50 false rfl rfl (gF g103)) rfl (q_field_ptr rfl rfl fd31_1) ?_
          refine SOps.q rfl (.guard 2 50 false rfl rfl (gF g103)) rfl (q_load_ptr rfl rfl rfl rfl ty3) ?_
          refine SOps.q rfl (.guard 2 50 false rfl rfl (gF g103)) rfl (q_field_ptr rfl rfl fd31_1) ?_
          refine SOps.q rfl (.guard 2 50 false rfl rfl (gF g103)) rfl (q_load_ptr rfl rfl rfl rfl ty3) ?_
          refine SOps.q rfl (.guard 2 50 false rfl rfl (gF g103)) rfl (q_gtr rfl rfl rfl) ?_
          refine SOps.q rfl (.plain rfl) rfl (q_pick_f rfl rfl g103 rfl) ?_
          refine SOps.q rfl (.plain rfl) rfl (q_move rfl rfl) ?_
          refine SOps.q rfl (.guard 9 57 false rfl rfl (gF g104)) rfl (q_field_ptr rfl rfl fd31_1) ?_
          refine SOps.q rfl (.guard 9 57 false rfl rfl (gF g104)) rfl (q_load_ptr rfl rfl rfl rfl ty3) ?_
          refine SOps.q rfl (.guard 9 57 false rfl rfl (gF g104)) rfl (q_field_ptr rfl rfl fd31_1) ?_
          refine SOps.q rfl (.guard 9 57 false rfl rfl (gF g104)) rfl (q_load_ptr rfl rfl rfl rfl ty3) ?_
          refine SOps.q rfl (.guard 9 57 false rfl rfl (gF g104)) rfl (q_eql rfl rfl rfl) ?_
          refine SOps.q rfl (.guard 9 57 false rfl rfl (gF g104)) rfl (q_move rfl rfl) ?_
          refine SOps.skip rfl 15 63 true rfl rfl (.inl (gF g105)) rfl ?_
          refine SOps.skip rfl 15 63 true rfl rfl (.inl (gF g105)) rfl ?_
          refine SOps.skip rfl 15 63 true rfl rfl (.inl (gF g105)) rfl ?_
          refine SOps.skip rfl 15 63 true rfl rfl (.inl (gF g105)) rfl ?_
          refine SOps.skip rfl 15 63 true rfl rfl (.inl (gF g105)) rfl ?_
          refine SOps.q rfl (.guard 9 57 false rfl rfl (gF g104)) rfl (q_pick_f rfl rfl g105 rfl) ?_
          refine SOps.q rfl (.plain rfl) rfl (q_pick_f rfl rfl g104 rfl) ?_
          refine SOps.sub (st' := ⟨[(1, .c (.int .i64 a1_purpose)), (2, .c (.int .i64 a2_conn)), (3, .c (.str a3_txn)), (4, .c (.int .i64 a4_start)), (5, .c (.int .i64 a5_t)), (12, .c (.ptr 0 0)), (15, .c (.ptr 1 0)), (16, .c (.int .i64 limit_38)), (17, .c (.bool found_39)), (19, .c (.ptr 2 0)), (20, .c (.int .i64 c_100.1)), (22, .c (.vec a0_l.length 11 (gL cSProfile dSProfile a0_l))), (23, .c (.int .i64 (((a0_l).length : Int)))), (24, .c (.int .i64 t24_40)), (70, .c (.bool false))], [.box [.int .i64 0, .int .i64 0, .int .i64 0, .int .i64 0, .int .i64 0, .str ByteArray.empty, .int .i64 0, .int .i64 0, .int .i64 0, .int .i64 0, .raw (.slice none 0 0)], .box [.int .i64 b1_41, .int .i64 b1_42, .int .i64 b1_43, .int .i64 b1_44, .int .i64 b1_45, .str b1_46, .int .i64 b1_47, .int .i64 b1_48, .int .i64 b1_49, .int .i64 b1_50, .vec b1_51.length 2 (gL cSPeriod dSPeriod b1_51)], .box [.int .i64 ((a0_l.getD t24_40.toNat dSProfile).ID), .int .i64 ((a0_l.getD t24_40.toNat dSProfile).Level), .int .i64 ((a0_l.getD t24_40.toNat dSProfile).Purpose), .int .i64 ((a0_l.getD t24_40.toNat dSProfile).Kind), .int .i64 ((a0_l.getD t24_40.toNat dSProfile).Conn), .str ((a0_l.getD t24_40.toNat dSProfile).Txn), .int .i64 ((a0_l.getD t24_40.toNat dSProfile).Span_From), .int .i64 ((a0_l.getD t24_40.toNat dSProfile).Span_To), .int .i64 ((a0_l.getD t24_40.toNat dSProfile).Start), .int .i64 ((a0_l.getD t24_40.toNat dSProfile).Duration), .vec ((a0_l.getD t24_40.toNat dSProfile).Periods).length 2 (gL cSPeriod dSPeriod ((a0_l.getD t24_40.toNat dSProfile).Periods))]]⟩) (sub_gen [0, 1, 2] rfl rfl ⟨zc rfl rfl, zc rfl rfl, zc rfl rfl, zc rfl rfl, zc rfl rfl, zc rfl rfl, zc rfl rfl, zc rfl rfl, zc rfl rfl, zc rfl rfl, zc rfl rfl, zc rfl rfl, zc rfl rfl, zc rfl rfl, zc rfl rfl, trivial⟩ ⟨⟨_, rfl, ⟨ii rfl rfl, ii rfl rfl, ii rfl rfl, ii rfl rfl, ii rfl rfl, ii rfl rfl, ii rfl rfl, ii rfl rfl, ii rfl rfl, ii rfl rfl, ii rfl rfl, trivial⟩⟩, ⟨_, rfl, ⟨ii rfl rfl, ii rfl rfl, ii rfl rfl, ii rfl rfl, ii rfl rfl, ii rfl rfl, ii rfl rfl, ii rfl rfl, ii rfl rfl, ii rfl rfl, ii rfl rfl, trivial⟩⟩, ⟨_, rfl, ⟨ii rfl rfl, ii rfl rfl, ii rfl rfl, ii rfl rfl, ii rfl rfl, ii rfl rfl, ii rfl rfl, ii rfl rfl, ii rfl rfl, ii rfl rfl, ii rfl rfl, trivial⟩⟩, trivial⟩) ?_
          refine SOps.nil ?_
          refine SCode.cond_f rfl rfl ?_
          refine SCode.skip ?_
          exact ⟨(limit_38, found_39, b1_41, b1_42, b1_43, b1_44, b1_45, b1_46, b1_47, b1_48, b1_49, b1_50, b1_51), h, sub_gen [0, 1] rfl rfl ⟨zc rfl rfl, zc rfl rfl, zc rfl rfl, zc rfl rfl, zc rfl rfl, zc rfl rfl, zc rfl rfl, zc rfl rfl, zc rfl rfl, zc rfl rfl, zc rfl rfl, zc rfl rfl, trivial⟩ ⟨⟨_, rfl, ⟨ii rfl rfl, ii rfl rfl, ii rfl rfl, ii rfl rfl, ii rfl rfl, ii rfl rfl, ii rfl rfl, ii rfl rfl, ii rfl rfl, ii rfl rfl, ii rfl rfl, trivial⟩⟩, ⟨_, rfl, ⟨ii rfl rfl, ii rfl rfl, ii rfl rfl, ii rfl rfl, ii rfl rfl, ii rfl rfl, ii rfl rfl, ii rfl rfl, ii rfl rfl, ii rfl rfl, ii rfl rfl, trivial⟩⟩, trivial⟩⟩
        rintro ⟨limit_81, found_82, b1_83, b1_84, b1_85, b1_86, b1_87, b1_88, b1_89, b1_90, b1_91, b1_92, b1_93⟩ h
        show SCode _ _ _ ⟨[(1, .c (.int .i64 a1_purpose)), (2, .c (.int .i64 a2_conn)), (3, .c (.str a3_txn)), (4, .c (.int .i64 a4_start)), (5, .c (.int .i64 a5_t)), (12, .c (.ptr 0 0)), (15, .c (.ptr 1 0)), (16, .c (.int .i64 limit_81)), (17, .c (.bool found_82)), (22, .c (.vec a0_l.length 11 (gL cSProfile dSProfile a0_l))), (23, .c (.int .i64 (((a0_l).length : Int)))), (24, .c (.int .i64 t24_40))], [.box [.int .i64 0, .int .i64 0, .int .i64 0, .int .i64 0, .int .i64 0, .str ByteArray.empty, .int .i64 0, .int .i64 0, .int .i64 0, .int .i64 0, .raw (.slice none 0 0)], .box [.int .i64 b1_83, .int .i64 b1_84, .int .i64 b1_85, .int .i64 b1_86, .int .i64 b1_87, .str b1_88, .int .i64 b1_89, .int .i64 b1_90, .int .i64 b1_91, .int .i64 b1_92, .vec b1_93.length 2 (gL cSPeriod dSPeriod b1_93)]]⟩ _
        replace h : chargenetref16_leading_p94 t24_40 (fun limit_38 found_39 t24_40 b1_41 b1_42 b1_43 b1_44 b1_45 b1_46 b1_47 b1_48 b1_49 b1_50 b1_51 => chargenetref16_leading_l79 F a0_l a1_purpose a2_conn a3_txn a4_start a5_t n_79 limit_38 found_39 t24_40 b1_41 b1_42 b1_43 b1_44 b1_45 b1_46 b1_47 b1_48 b1_49 b1_50 b1_51) limit_81 found_82 b1_83 b1_84 b1_85 b1_86 b1_87 b1_88 b1_89 b1_90 b1_91 b1_92 b1_93 = some r := h
        unfold chargenetref16_leading_p94 at h
        refine SCode.region (show SOps _ _ _ [0, 1] _ _ from ?_)
        refine SOps.q rfl (.plain rfl) rfl (q_add rfl rfl rfl) ?_
        refine SOps.q rfl (.plain rfl) rfl (q_move rfl rfl) ?_
        refine SOps.sub (st' := ⟨[(1, .c (.int .i64 a1_purpose)), (2, .c (.int .i64 a2_conn)), (3, .c (.str a3_txn)), (4, .c (.int .i64 a4_start)), (5, .c (.int .i64 a5_t)), (12, .c (.ptr 0 0)), (15, .c (.ptr 1 0)), (16, .c (.int .i64 limit_81)), (17, .c (.bool found_82)), (22, .c (.vec a0_l.length 11 (gL cSProfile dSProfile a0_l))), (23, .c (.int .i64 (((a0_l).length : Int)))), (24, .c (.int .i64 (IntKind.wrap .i64 (t24_40 + 1))))], [.box [.int .i64 0, .int .i64 0, .int .i64 0, .int .i64 0, .int .i64 0, .str ByteArray.empty, .int .i64 0, .int .i64 0, .int .i64 0, .int .i64 0, .raw (.slice none 0 0)], .box [.int .i64 b1_83, .int .i64 b1_84, .int .i64 b1_85, .int .i64 b1_86, .int .i64 b1_87, .str b1_88, .int .i64 b1_89, .int .i64 b1_90, .int .i64 b1_91, .int .i64 b1_92, .vec b1_93.length 2 (gL cSPeriod dSPeriod b1_93)]]⟩) (sub_gen [0, 1] rfl rfl ⟨zc rfl rfl, zc rfl rfl, zc rfl rfl, zc rfl rfl, zc rfl rfl, zc rfl rfl, zc rfl rfl, zc rfl rfl, zc rfl rfl, zc rfl rfl, zc rfl rfl, zc rfl rfl, trivial⟩ ⟨⟨_, rfl, ⟨ii rfl rfl, ii rfl rfl, ii rfl rfl, ii rfl rfl, ii rfl rfl, ii rfl rfl, ii rfl rfl, ii rfl rfl, ii rfl rfl, ii rfl rfl, ii rfl rfl, trivial⟩⟩, ⟨_, rfl, ⟨ii rfl rfl, ii rfl rfl, ii rfl rfl, ii rfl rfl, ii rfl rfl, ii rfl rfl, ii rfl rfl, ii rfl rfl, ii rfl rfl, ii rfl rfl, ii rfl rfl, trivial⟩⟩, trivial⟩) ?_
        refine SOps.nil ?_
        exact ⟨(n_79, (limit_81, found_82, IntKind.wrap .i64 (t24_40 + 1), b1_83, b1_84, b1_85, b1_86, b1_87, b1_88, b1_89, b1_90, b1_91, b1_92, b1_93)), h, Nat.lt_succ_self n_79, sub_gen [0, 1] rfl rfl ⟨zc rfl rfl, zc rfl rfl, zc rfl rfl, zc rfl rfl, zc rfl rfl, zc rfl rfl, zc rfl rfl, zc rfl rfl, zc rfl rfl, zc rfl rfl, zc rfl rfl, zc rfl rfl, trivial⟩ ⟨⟨_, rfl, ⟨ii rfl rfl, ii rfl rfl, ii rfl rfl, ii rfl rfl, ii rfl rfl, ii rfl rfl, ii rfl rfl, ii rfl rfl, ii rfl rfl, ii rfl rfl, ii rfl rfl, trivial⟩⟩, ⟨_, rfl, ⟨ii rfl rfl, ii rfl rfl, ii rfl rfl, ii rfl rfl, ii rfl rfl, ii rfl rfl, ii rfl rfl, ii rfl rfl, ii rfl rfl, ii rfl rfl, ii rfl rfl, trivial⟩⟩, trivial⟩⟩
      refine SCode.cond_f rfl g80 ?_
      refine SCode.exit ?_
      exact ⟨(limit_38, found_39, b1_41, b1_42, b1_43, b1_44, b1_45, b1_46, b1_47, b1_48, b1_49, b1_50, b1_51), h, sub_gen [0, 1] rfl rfl ⟨zc rfl rfl, zc rfl rfl, zc rfl rfl, zc rfl rfl, trivial⟩ ⟨⟨_, rfl, ⟨ii rfl rfl, ii rfl rfl, ii rfl rfl, ii rfl rfl, ii rfl rfl, ii rfl rfl, ii rfl rfl, ii rfl rfl, ii rfl rfl, ii rfl rfl, ii rfl rfl, trivial⟩⟩, ⟨_, rfl, ⟨ii rfl rfl, ii rfl rfl, ii rfl rfl, ii rfl rfl, ii rfl rfl, ii rfl rfl, ii rfl rfl, ii rfl rfl, ii rfl rfl, ii rfl rfl, ii rfl rfl, trivial⟩⟩, trivial⟩⟩
  rintro ⟨limit_1, found_2, b1_3, b1_4, b1_5, b1_6, b1_7, b1_8, b1_9, b1_10, b1_11, b1_12, b1_13⟩ h
  show SCode _ _ _ ⟨[(12, .c (.ptr 0 0)), (15, .c (.ptr 1 0)), (16, .c (.int .i64 limit_1)), (17, .c (.bool found_2))], [.box [.int .i64 0, .int .i64 0, .int .i64 0, .int .i64 0, .int .i64 0, .str ByteArray.empty, .int .i64 0, .int .i64 0, .int .i64 0, .int .i64 0, .raw (.slice none 0 0)], .box [.int .i64 b1_3, .int .i64 b1_4, .int .i64 b1_5, .int .i64 b1_6, .int .i64 b1_7, .str b1_8, .int .i64 b1_9, .int .i64 b1_10, .int .i64 b1_11, .int .i64 b1_12, .vec b1_13.length 2 (gL cSPeriod dSPeriod b1_13)]]⟩ _
  replace h : chargenetref16_leading_p14 limit_1 found_2 b1_3 b1_4 b1_5 b1_6 b1_7 b1_8 b1_9 b1_10 b1_11 b1_12 b1_13 = some r := h
  unfold chargenetref16_leading_p14 at h
  refine SCode.seq ?_
  refine SCode.region (show SOps _ _ _ [0, 1, 2, 3, 4, 5] _ _ from ?_)
  refine SOps.q rfl (.plain rfl) rfl (q_load_ptr_all rfl rfl rfl rfl rfl ty31) ?_
  refine SOps.q rfl (.plain rfl) rfl (q_move rfl rfl) ?_
  refine SOps.q rfl (.plain rfl) rfl (q_move rfl rfl) ?_
  refine SOps.e rfl (.plain rfl) (e_store_box rfl rfl rfl rfl rfl ty31 rfl rfl rfl rfl) ?_
  refine SOps.q rfl (.plain rfl) rfl (q_assign rfl rfl) ?_
  refine SOps.q rfl (.plain rfl) rfl (q_assign rfl rfl) ?_
  refine SOps.sub (st' := ⟨[(12, .c (.ptr 0 0)), (13, .c (.int .i64 limit_1)), (14, .c (.bool found_2))], [.box [.int .i64 b1_3, .int .i64 b1_4, .int .i64 b1_5, .int .i64 b1_6, .int .i64 b1_7, .str b1_8, .int .i64 b1_9, .int .i64 b1_10, .int .i64 b1_11, .int .i64 b1_12, .vec b1_13.length 2 (gL cSPeriod dSPeriod b1_13)]]⟩) (sub_gen [0] rfl rfl ⟨zc rfl rfl, zc rfl rfl, zc rfl rfl, trivial⟩ ⟨⟨_, rfl, ⟨ii rfl rfl, ii rfl rfl, ii rfl rfl, ii rfl rfl, ii rfl rfl, ii rfl rfl, ii rfl rfl, ii rfl rfl, ii rfl rfl, ii rfl rfl, ii rfl rfl, trivial⟩⟩, trivial⟩) ?_
  refine SOps.nil ?_
  refine SCode.ret ?_
  obtain rfl := Option.some.inj h
  exact ⟨⟨[(12, .c (.ptr 0 0)), (13, .c (.int .i64 limit_1)), (14, .c (.bool found_2))], [.box [.int .i64 b1_3, .int .i64 b1_4, .int .i64 b1_5, .int .i64 b1_6, .int .i64 b1_7, .str b1_8, .int .i64 b1_9, .int .i64 b1_10, .int .i64 b1_11, .int .i64 b1_12, .vec b1_13.length 2 (gL cSPeriod dSPeriod b1_13)]]⟩, _, sub_gen [0] rfl rfl ⟨zc rfl rfl, zc rfl rfl, zc rfl rfl, trivial⟩ ⟨⟨_, rfl, ⟨ii rfl rfl, ii rfl rfl, ii rfl rfl, ii rfl rfl, ii rfl rfl, ii rfl rfl, ii rfl rfl, ii rfl rfl, ii rfl rfl, ii rfl rfl, ii rfl rfl, trivial⟩⟩, trivial⟩, resA3 (v1 := .a [.int .i64 b1_3, .int .i64 b1_4, .int .i64 b1_5, .int .i64 b1_6, .int .i64 b1_7, .str b1_8, .int .i64 b1_9, .int .i64 b1_10, .int .i64 b1_11, .int .i64 b1_12, .vec b1_13.length 2 (gL cSPeriod dSPeriod b1_13)]) (v2 := .c (.int .i64 limit_1)) (v3 := .c (.bool found_2)) rfl ⟨_, rfl, rfl, ty31⟩ rfl rfl, rfl⟩
end Go.Proofs.Ytjpooimkhkhgkaa.W
