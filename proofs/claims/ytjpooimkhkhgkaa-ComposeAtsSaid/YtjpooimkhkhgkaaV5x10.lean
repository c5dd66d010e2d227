/- Written by a program of ours (wip/eng/gen.py): the functions compute their models. -/
import Derived.Test.YtjpooimkhkhgkaaFacts
import Derived.Test.YtjpooimkhkhgkaaV5x9
namespace Go.Proofs.Ytjpooimkhkhgkaa.W
open Go Go.Proofs Go.Proofs.Ytjpooimkhkhgkaa.E Go.Proofs.Ytjpooimkhkhgkaa.M
set_option linter.unusedVariables false
set_option maxRecDepth 100000 in
set_option maxHeartbeats 8000000 in
theorem chargenetref16_decide_ok (F : Nat) (a0_l : List SProfile) (a1_conn : Int) (a2_txn : ByteArray) (a3_start : Int) (a4_t : Int) (r : Int × Int × Bool) (h : chargenetref16_decide F a0_l a1_conn a2_txn a3_start a4_t = some r) :
    SFun Try.prog 25 [] [.c (.vec a0_l.length 11 (gL cSProfile dSProfile a0_l)), .c (.int .i64 a1_conn), .c (.str a2_txn), .c (.int .i64 a3_start), .c (.int .i64 a4_t)] (fun x _ => x = .t [.c (.int .i64 r.1), .c (.int .i64 r.2.1), .c (.bool r.2.2)]) := by
  refine SFun.of (n := 70) Try.func25 rfl rfl rfl ?_
  unfold chargenetref16_decide at h
  show SCode _ _ _ ⟨[(0, .c (.vec a0_l.length 11 (gL cSProfile dSProfile a0_l))), (1, .c (.int .i64 a1_conn)), (2, .c (.str a2_txn)), (3, .c (.int .i64 a3_start)), (4, .c (.int .i64 a4_t))], []⟩ _
  refine SCode.seq ?_
  refine SCode.region (show SOps _ _ _ [0, 1, 2] _ _ from ?_)
  refine SOps.q rfl (.plain rfl) rfl (q_assign rfl rfl) ?_
  refine SOps.q rfl (.plain rfl) rfl (q_assign rfl rfl) ?_
  refine SOps.q rfl (.plain rfl) rfl (q_assign rfl rfl) ?_
  refine SOps.sub (st' := ⟨[(0, .c (.vec a0_l.length 11 (gL cSProfile dSProfile a0_l))), (1, .c (.int .i64 a1_conn)), (2, .c (.str a2_txn)), (3, .c (.int .i64 a3_start)), (4, .c (.int .i64 a4_t))], []⟩) (sub_gen [] rfl rfl ⟨zc rfl rfl, zc rfl rfl, zc rfl rfl, zc rfl rfl, zc rfl rfl, trivial⟩ trivial) ?_
  refine SOps.nil ?_
  refine SCode.seq ?_
  obtain ⟨c_1, g2, h⟩ := bind_out h
  try dsimp only at h
  refine SCode.region (show SOps _ _ _ [0, 1, 2, 3, 4, 5, 6, 7, 8, 9, 10, 11, 12, 13] _ _ from ?_)
  refine SOps.q rfl (.plain rfl) rfl (q_move rfl rfl) ?_
  refine SOps.q rfl (.plain rfl) rfl (q_move rfl rfl) ?_
  refine SOps.q rfl (.plain rfl) rfl (q_move rfl rfl) ?_
  refine SOps.q rfl (.plain rfl) rfl (q_move rfl rfl) ?_
  refine SOps.q rfl (.plain rfl) rfl (q_move rfl rfl) ?_
  refine SOps.q rfl (.plain rfl) rfl (q_call (chargenetref16_leading_ok F a0_l 3 a1_conn a2_txn a3_start a4_t c_1 g2) [] rfl fn36 ⟨⟨_, rfl, .inl ⟨rfl, rfl⟩⟩, ⟨_, rfl, .inl ⟨rfl, rfl⟩⟩, ⟨_, rfl, .inl ⟨rfl, rfl⟩⟩, ⟨_, rfl, .inl ⟨rfl, rfl⟩⟩, ⟨_, rfl, .inl ⟨rfl, rfl⟩⟩, ⟨_, rfl, .inl ⟨rfl, rfl⟩⟩, trivial⟩ (.inl rfl)) ?_
  refine SOps.q rfl (.plain rfl) rfl (q_move rfl rfl) ?_
  refine SOps.q rfl (.plain rfl) rfl (q_extract rfl rfl rfl) ?_
  refine SOps.q rfl (.plain rfl) rfl (q_extract rfl rfl rfl) ?_
  refine SOps.q rfl (.plain rfl) rfl (q_extract rfl rfl rfl) ?_
  refine SOps.e rfl (.plain rfl) (e_alloc rfl rfl rfl z31) ?_
  refine SOps.e rfl (.plain rfl) (e_store_box rfl rfl rfl rfl rfl ty31 rfl rfl rfl rfl) ?_
  refine SOps.q rfl (.plain rfl) rfl (q_assign rfl rfl) ?_
  refine SOps.q rfl (.plain rfl) rfl (q_assign rfl rfl) ?_
  refine SOps.sub (st' := ⟨[(0, .c (.vec a0_l.length 11 (gL cSProfile dSProfile a0_l))), (1, .c (.int .i64 a1_conn)), (2, .c (.str a2_txn)), (3, .c (.int .i64 a3_start)), (4, .c (.int .i64 a4_t)), (13, .c (.ptr 0 0)), (14, .c (.int .i64 c_1.2.1)), (15, .c (.bool c_1.2.2))], [.box [.int .i64 c_1.1.ID, .int .i64 c_1.1.Level, .int .i64 c_1.1.Purpose, .int .i64 c_1.1.Kind, .int .i64 c_1.1.Conn, .str c_1.1.Txn, .int .i64 c_1.1.Span_From, .int .i64 c_1.1.Span_To, .int .i64 c_1.1.Start, .int .i64 c_1.1.Duration, .vec c_1.1.Periods.length 2 (gL cSPeriod dSPeriod c_1.1.Periods)]]⟩) (sub_gen [0] rfl rfl ⟨zc rfl rfl, zc rfl rfl, zc rfl rfl, zc rfl rfl, zc rfl rfl, zc rfl rfl, zc rfl rfl, zc rfl rfl, trivial⟩ ⟨⟨_, rfl, ⟨ii rfl rfl, ii rfl rfl, ii rfl rfl, ii rfl rfl, ii rfl rfl, ii rfl rfl, ii rfl rfl, ii rfl rfl, ii rfl rfl, ii rfl rfl, ii rfl rfl, trivial⟩⟩, trivial⟩) ?_
  refine SOps.nil ?_
  refine SCode.join (σ := Int × Bool × Int × Int × Int × Int × Int × ByteArray × Int × Int × Int × Int × (List SPeriod)) (S := fun s => ⟨[(0, .c (.vec a0_l.length 11 (gL cSProfile dSProfile a0_l))), (1, .c (.int .i64 a1_conn)), (2, .c (.str a2_txn)), (3, .c (.int .i64 a3_start)), (4, .c (.int .i64 a4_t)), (13, .c (.ptr 0 0)), (14, .c (.int .i64 s.1)), (15, .c (.bool s.2.1))], [.box [.int .i64 s.2.2.1, .int .i64 s.2.2.2.1, .int .i64 s.2.2.2.2.1, .int .i64 s.2.2.2.2.2.1, .int .i64 s.2.2.2.2.2.2.1, .str s.2.2.2.2.2.2.2.1, .int .i64 s.2.2.2.2.2.2.2.2.1, .int .i64 s.2.2.2.2.2.2.2.2.2.1, .int .i64 s.2.2.2.2.2.2.2.2.2.2.1, .int .i64 s.2.2.2.2.2.2.2.2.2.2.2.1, .vec s.2.2.2.2.2.2.2.2.2.2.2.2.length 2 (gL cSPeriod dSPeriod s.2.2.2.2.2.2.2.2.2.2.2.2)]]⟩) (g := fun s => chargenetref16_decide_p24 F a0_l a1_conn a2_txn a3_start a4_t s.1 s.2.1 s.2.2.1 s.2.2.2.1 s.2.2.2.2.1 s.2.2.2.2.2.1 s.2.2.2.2.2.2.1 s.2.2.2.2.2.2.2.1 s.2.2.2.2.2.2.2.2.1 s.2.2.2.2.2.2.2.2.2.1 s.2.2.2.2.2.2.2.2.2.2.1 s.2.2.2.2.2.2.2.2.2.2.2.1 s.2.2.2.2.2.2.2.2.2.2.2.2 = some r) ?_ ?_
  rotate_left
  · refine SCode.seq ?_
    refine SCode.region (show SOps _ _ _ [0, 1] _ _ from ?_)
    refine SOps.q rfl (.plain rfl) rfl (q_move rfl rfl) ?_
    refine SOps.q rfl (.plain rfl) rfl (q_not rfl rfl) ?_
    refine SOps.sub (st' := ⟨[(0, .c (.vec a0_l.length 11 (gL cSProfile dSProfile a0_l))), (1, .c (.int .i64 a1_conn)), (2, .c (.str a2_txn)), (3, .c (.int .i64 a3_start)), (4, .c (.int .i64 a4_t)), (13, .c (.ptr 0 0)), (14, .c (.int .i64 c_1.2.1)), (15, .c (.bool c_1.2.2)), (30, .c (.bool ((!c_1.2.2))))], [.box [.int .i64 c_1.1.ID, .int .i64 c_1.1.Level, .int .i64 c_1.1.Purpose, .int .i64 c_1.1.Kind, .int .i64 c_1.1.Conn, .str c_1.1.Txn, .int .i64 c_1.1.Span_From, .int .i64 c_1.1.Span_To, .int .i64 c_1.1.Start, .int .i64 c_1.1.Duration, .vec c_1.1.Periods.length 2 (gL cSPeriod dSPeriod c_1.1.Periods)]]⟩) (sub_gen [0] rfl rfl ⟨zc rfl rfl, zc rfl rfl, zc rfl rfl, zc rfl rfl, zc rfl rfl, zc rfl rfl, zc rfl rfl, zc rfl rfl, zc rfl rfl, trivial⟩ ⟨⟨_, rfl, ⟨ii rfl rfl, ii rfl rfl, ii rfl rfl, ii rfl rfl, ii rfl rfl, ii rfl rfl, ii rfl rfl, ii rfl rfl, ii rfl rfl, ii rfl rfl, ii rfl rfl, trivial⟩⟩, trivial⟩) ?_
    refine SOps.nil ?_
    rcases cond_out h with ⟨g25, h⟩ | ⟨g25, h⟩
    · refine SCode.cond_t rfl g25 ?_
      obtain ⟨c_26, g27, h⟩ := bind_out h
      try dsimp only at h
      refine SCode.region (show SOps _ _ _ [0, 1, 2, 3, 4, 5, 6, 7, 8, 9, 10, 11, 12] _ _ from ?_)
      refine SOps.q rfl (.plain rfl) rfl (q_move rfl rfl) ?_
      refine SOps.q rfl (.plain rfl) rfl (q_move rfl rfl) ?_
      refine SOps.q rfl (.plain rfl) rfl (q_move rfl rfl) ?_
      refine SOps.q rfl (.plain rfl) rfl (q_move rfl rfl) ?_
      refine SOps.q rfl (.plain rfl) rfl (q_move rfl rfl) ?_
      refine SOps.q rfl (.plain rfl) rfl (q_call (chargenetref16_leading_ok F a0_l 2 a1_conn a2_txn a3_start a4_t c_26 g27) [] rfl fn36 ⟨⟨_, rfl, .inl ⟨rfl, rfl⟩⟩, ⟨_, rfl, .inl ⟨rfl, rfl⟩⟩, ⟨_, rfl, .inl ⟨rfl, rfl⟩⟩, ⟨_, rfl, .inl ⟨rfl, rfl⟩⟩, ⟨_, rfl, .inl ⟨rfl, rfl⟩⟩, ⟨_, rfl, .inl ⟨rfl, rfl⟩⟩, trivial⟩ (.inl rfl)) ?_
      refine SOps.q rfl (.plain rfl) rfl (q_move rfl rfl) ?_
      refine SOps.q rfl (.plain rfl) rfl (q_extract rfl rfl rfl) ?_
      refine SOps.q rfl (.plain rfl) rfl (q_extract rfl rfl rfl) ?_
      refine SOps.q rfl (.plain rfl) rfl (q_extract rfl rfl rfl) ?_
      refine SOps.e rfl (.plain rfl) (e_store_box rfl rfl rfl rfl rfl ty31 rfl rfl rfl rfl) ?_
      refine SOps.q rfl (.plain rfl) rfl (q_assign rfl rfl) ?_
      refine SOps.q rfl (.plain rfl) rfl (q_assign rfl rfl) ?_
      refine SOps.sub (st' := ⟨[(0, .c (.vec a0_l.length 11 (gL cSProfile dSProfile a0_l))), (1, .c (.int .i64 a1_conn)), (2, .c (.str a2_txn)), (3, .c (.int .i64 a3_start)), (4, .c (.int .i64 a4_t)), (13, .c (.ptr 0 0)), (14, .c (.int .i64 c_26.2.1)), (15, .c (.bool c_26.2.2))], [.box [.int .i64 c_26.1.ID, .int .i64 c_26.1.Level, .int .i64 c_26.1.Purpose, .int .i64 c_26.1.Kind, .int .i64 c_26.1.Conn, .str c_26.1.Txn, .int .i64 c_26.1.Span_From, .int .i64 c_26.1.Span_To, .int .i64 c_26.1.Start, .int .i64 c_26.1.Duration, .vec c_26.1.Periods.length 2 (gL cSPeriod dSPeriod c_26.1.Periods)]]⟩) (sub_gen [0] rfl rfl ⟨zc rfl rfl, zc rfl rfl, zc rfl rfl, zc rfl rfl, zc rfl rfl, zc rfl rfl, zc rfl rfl, zc rfl rfl, trivial⟩ ⟨⟨_, rfl, ⟨ii rfl rfl, ii rfl rfl, ii rfl rfl, ii rfl rfl, ii rfl rfl, ii rfl rfl, ii rfl rfl, ii rfl rfl, ii rfl rfl, ii rfl rfl, ii rfl rfl, trivial⟩⟩, trivial⟩) ?_
      refine SOps.nil ?_
      exact ⟨(c_26.2.1, c_26.2.2, c_26.1.ID, c_26.1.Level, c_26.1.Purpose, c_26.1.Kind, c_26.1.Conn, c_26.1.Txn, c_26.1.Span_From, c_26.1.Span_To, c_26.1.Start, c_26.1.Duration, c_26.1.Periods), h, sub_gen [0] rfl rfl ⟨zc rfl rfl, zc rfl rfl, zc rfl rfl, zc rfl rfl, zc rfl rfl, zc rfl rfl, zc rfl rfl, zc rfl rfl, trivial⟩ ⟨⟨_, rfl, ⟨ii rfl rfl, ii rfl rfl, ii rfl rfl, ii rfl rfl, ii rfl rfl, ii rfl rfl, ii rfl rfl, ii rfl rfl, ii rfl rfl, ii rfl rfl, ii rfl rfl, trivial⟩⟩, trivial⟩⟩
    refine SCode.cond_f rfl g25 ?_
    refine SCode.skip ?_
    exact ⟨(c_1.2.1, c_1.2.2, c_1.1.ID, c_1.1.Level, c_1.1.Purpose, c_1.1.Kind, c_1.1.Conn, c_1.1.Txn, c_1.1.Span_From, c_1.1.Span_To, c_1.1.Start, c_1.1.Duration, c_1.1.Periods), h, sub_gen [0] rfl rfl ⟨zc rfl rfl, zc rfl rfl, zc rfl rfl, zc rfl rfl, zc rfl rfl, zc rfl rfl, zc rfl rfl, zc rfl rfl, trivial⟩ ⟨⟨_, rfl, ⟨ii rfl rfl, ii rfl rfl, ii rfl rfl, ii rfl rfl, ii rfl rfl, ii rfl rfl, ii rfl rfl, ii rfl rfl, ii rfl rfl, ii rfl rfl, ii rfl rfl, trivial⟩⟩, trivial⟩⟩
  rintro ⟨sl_3, sok_4, b0_5, b0_6, b0_7, b0_8, b0_9, b0_10, b0_11, b0_12, b0_13, b0_14, b0_15⟩ h
  show SCode _ _ _ ⟨[(0, .c (.vec a0_l.length 11 (gL cSProfile dSProfile a0_l))), (1, .c (.int .i64 a1_conn)), (2, .c (.str a2_txn)), (3, .c (.int .i64 a3_start)), (4, .c (.int .i64 a4_t)), (13, .c (.ptr 0 0)), (14, .c (.int .i64 sl_3)), (15, .c (.bool sok_4))], [.box [.int .i64 b0_5, .int .i64 b0_6, .int .i64 b0_7, .int .i64 b0_8, .int .i64 b0_9, .str b0_10, .int .i64 b0_11, .int .i64 b0_12, .int .i64 b0_13, .int .i64 b0_14, .vec b0_15.length 2 (gL cSPeriod dSPeriod b0_15)]]⟩ _
  replace h : chargenetref16_decide_p24 F a0_l a1_conn a2_txn a3_start a4_t sl_3 sok_4 b0_5 b0_6 b0_7 b0_8 b0_9 b0_10 b0_11 b0_12 b0_13 b0_14 b0_15 = some r := h
  unfold chargenetref16_decide_p24 at h
  refine SCode.seq ?_
  obtain ⟨c_16, g17, h⟩ := bind_out h
  try dsimp only at h
  refine SCode.region (show SOps _ _ _ [0, 1, 2, 3, 4, 5, 6, 7, 8, 9, 10, 11, 12, 13] _ _ from ?_)
  refine SOps.q rfl (.plain rfl) rfl (q_move rfl rfl) ?_
  refine SOps.q rfl (.plain rfl) rfl (q_move rfl rfl) ?_
  refine SOps.q rfl (.plain rfl) rfl (q_move rfl rfl) ?_
  refine SOps.q rfl (.plain rfl) rfl (q_move rfl rfl) ?_
  refine SOps.q rfl (.plain rfl) rfl (q_move rfl rfl) ?_
  refine SOps.q rfl (.plain rfl) rfl (q_call (chargenetref16_leading_ok F a0_l 1 a1_conn a2_txn a3_start a4_t c_16 g17) [] rfl fn36 ⟨⟨_, rfl, .inl ⟨rfl, rfl⟩⟩, ⟨_, rfl, .inl ⟨rfl, rfl⟩⟩, ⟨_, rfl, .inl ⟨rfl, rfl⟩⟩, ⟨_, rfl, .inl ⟨rfl, rfl⟩⟩, ⟨_, rfl, .inl ⟨rfl, rfl⟩⟩, ⟨_, rfl, .inl ⟨rfl, rfl⟩⟩, trivial⟩ (.inl rfl)) ?_
  refine SOps.q rfl (.plain rfl) rfl (q_move rfl rfl) ?_
  refine SOps.q rfl (.plain rfl) rfl (q_extract rfl rfl rfl) ?_
  refine SOps.q rfl (.plain rfl) rfl (q_extract rfl rfl rfl) ?_
  refine SOps.q rfl (.plain rfl) rfl (q_extract rfl rfl rfl) ?_
  refine SOps.e rfl (.plain rfl) (e_alloc rfl rfl rfl z31) ?_
  refine SOps.e rfl (.plain rfl) (e_store_box rfl rfl rfl rfl rfl ty31 rfl rfl rfl rfl) ?_
  refine SOps.q rfl (.plain rfl) rfl (q_assign rfl rfl) ?_
  refine SOps.q rfl (.plain rfl) rfl (q_assign rfl rfl) ?_
  refine SOps.sub (st' := ⟨[(13, .c (.ptr 0 0)), (14, .c (.int .i64 sl_3)), (15, .c (.bool sok_4)), (16, .c (.ptr 1 0)), (17, .c (.int .i64 c_16.2.1)), (18, .c (.bool c_16.2.2))], [.box [.int .i64 b0_5, .int .i64 b0_6, .int .i64 b0_7, .int .i64 b0_8, .int .i64 b0_9, .str b0_10, .int .i64 b0_11, .int .i64 b0_12, .int .i64 b0_13, .int .i64 b0_14, .vec b0_15.length 2 (gL cSPeriod dSPeriod b0_15)], .box [.int .i64 c_16.1.ID, .int .i64 c_16.1.Level, .int .i64 c_16.1.Purpose, .int .i64 c_16.1.Kind, .int .i64 c_16.1.Conn, .str c_16.1.Txn, .int .i64 c_16.1.Span_From, .int .i64 c_16.1.Span_To, .int .i64 c_16.1.Start, .int .i64 c_16.1.Duration, .vec c_16.1.Periods.length 2 (gL cSPeriod dSPeriod c_16.1.Periods)]]⟩) (sub_gen [0, 1] rfl rfl ⟨zc rfl rfl, zc rfl rfl, zc rfl rfl, zc rfl rfl, zc rfl rfl, zc rfl rfl, trivial⟩ ⟨⟨_, rfl, ⟨ii rfl rfl, ii rfl rfl, ii rfl rfl, ii rfl rfl, ii rfl rfl, ii rfl rfl, ii rfl rfl, ii rfl rfl, ii rfl rfl, ii rfl rfl, ii rfl rfl, trivial⟩⟩, ⟨_, rfl, ⟨ii rfl rfl, ii rfl rfl, ii rfl rfl, ii rfl rfl, ii rfl rfl, ii rfl rfl, ii rfl rfl, ii rfl rfl, ii rfl rfl, ii rfl rfl, ii rfl rfl, trivial⟩⟩, trivial⟩) ?_
  refine SOps.nil ?_
  refine SCode.seq ?_
  refine SCode.block ?_
  refine SCode.join (σ := Bool) (S := fun s => ⟨[(13, .c (.ptr 0 0)), (14, .c (.int .i64 sl_3)), (15, .c (.bool sok_4)), (16, .c (.ptr 1 0)), (17, .c (.int .i64 c_16.2.1)), (51, .c (.bool s))], [.box [.int .i64 b0_5, .int .i64 b0_6, .int .i64 b0_7, .int .i64 b0_8, .int .i64 b0_9, .str b0_10, .int .i64 b0_11, .int .i64 b0_12, .int .i64 b0_13, .int .i64 b0_14, .vec b0_15.length 2 (gL cSPeriod dSPeriod b0_15)], .box [.int .i64 c_16.1.ID, .int .i64 c_16.1.Level, .int .i64 c_16.1.Purpose, .int .i64 c_16.1.Kind, .int .i64 c_16.1.Conn, .str c_16.1.Txn, .int .i64 c_16.1.Span_From, .int .i64 c_16.1.Span_To, .int .i64 c_16.1.Start, .int .i64 c_16.1.Duration, .vec c_16.1.Periods.length 2 (gL cSPeriod dSPeriod c_16.1.Periods)]]⟩) (g := fun s => chargenetref16_decide_p21 sl_3 sok_4 b0_5 c_16 s = some r) ?_ ?_
  rotate_left
  · rcases cond_out h with ⟨g22, h⟩ | ⟨g22, h⟩
    · rcases cond_out h with ⟨g23, h⟩ | ⟨g23, h⟩
      · refine SCode.region (show SOps _ _ _ [0, 1, 2, 3, 4, 5, 6, 7, 8, 9, 10] _ _ from ?_)
        refine SOps.q rfl (.plain rfl) rfl (q_move rfl rfl) ?_
        refine SOps.q rfl (.plain rfl) rfl (q_move rfl rfl) ?_
        refine SOps.q rfl (.guard 1 53 true rfl rfl (gT g22)) rfl (q_move rfl rfl) ?_
        refine SOps.q rfl (.guard 1 53 true rfl rfl (gT g22)) rfl (q_not rfl rfl) ?_
        refine SOps.q rfl (.guard 1 53 true rfl rfl (gT g22)) rfl (q_move rfl rfl) ?_
        refine SOps.skip rfl 4 56 false rfl rfl (.inl (gT g23)) rfl ?_
        refine SOps.skip rfl 4 56 false rfl rfl (.inl (gT g23)) rfl ?_
        refine SOps.skip rfl 4 56 false rfl rfl (.inl (gT g23)) rfl ?_
        refine SOps.q rfl (.guard 1 53 true rfl rfl (gT g22)) rfl (q_pick_t rfl rfl g23 rfl) ?_
        refine SOps.q rfl (.plain rfl) rfl (q_pick_t rfl rfl g22 rfl) ?_
        refine SOps.q rfl (.plain rfl) rfl (q_assign rfl rfl) ?_
        refine SOps.sub (st' := ⟨[(13, .c (.ptr 0 0)), (14, .c (.int .i64 sl_3)), (15, .c (.bool sok_4)), (16, .c (.ptr 1 0)), (17, .c (.int .i64 c_16.2.1)), (51, .c (.bool true))], [.box [.int .i64 b0_5, .int .i64 b0_6, .int .i64 b0_7, .int .i64 b0_8, .int .i64 b0_9, .str b0_10, .int .i64 b0_11, .int .i64 b0_12, .int .i64 b0_13, .int .i64 b0_14, .vec b0_15.length 2 (gL cSPeriod dSPeriod b0_15)], .box [.int .i64 c_16.1.ID, .int .i64 c_16.1.Level, .int .i64 c_16.1.Purpose, .int .i64 c_16.1.Kind, .int .i64 c_16.1.Conn, .str c_16.1.Txn, .int .i64 c_16.1.Span_From, .int .i64 c_16.1.Span_To, .int .i64 c_16.1.Start, .int .i64 c_16.1.Duration, .vec c_16.1.Periods.length 2 (gL cSPeriod dSPeriod c_16.1.Periods)]]⟩) (sub_gen [0, 1] rfl rfl ⟨zc rfl rfl, zc rfl rfl, zc rfl rfl, zc rfl rfl, zc rfl rfl, zc rfl rfl, trivial⟩ ⟨⟨_, rfl, ⟨ii rfl rfl, ii rfl rfl, ii rfl rfl, ii rfl rfl, ii rfl rfl, ii rfl rfl, ii rfl rfl, ii rfl rfl, ii rfl rfl, ii rfl rfl, ii rfl rfl, trivial⟩⟩, ⟨_, rfl, ⟨ii rfl rfl, ii rfl rfl, ii rfl rfl, ii rfl rfl, ii rfl rfl, ii rfl rfl, ii rfl rfl, ii rfl rfl, ii rfl rfl, ii rfl rfl, ii rfl rfl, trivial⟩⟩, trivial⟩) ?_
        refine SOps.nil ?_
        exact ⟨true, h, sub_gen [0, 1] rfl rfl ⟨zc rfl rfl, zc rfl rfl, zc rfl rfl, zc rfl rfl, zc rfl rfl, zc rfl rfl, trivial⟩ ⟨⟨_, rfl, ⟨ii rfl rfl, ii rfl rfl, ii rfl rfl, ii rfl rfl, ii rfl rfl, ii rfl rfl, ii rfl rfl, ii rfl rfl, ii rfl rfl, ii rfl rfl, ii rfl rfl, trivial⟩⟩, ⟨_, rfl, ⟨ii rfl rfl, ii rfl rfl, ii rfl rfl, ii rfl rfl, ii rfl rfl, ii rfl rfl, ii rfl rfl, ii rfl rfl, ii rfl rfl, ii rfl rfl, ii rfl rfl, trivial⟩⟩, trivial⟩⟩
      refine SCode.region (show SOps _ _ _ [0, 1, 2, 3, 4, 5, 6, 7, 8, 9, 10] _ _ from ?_)
      refine SOps.q rfl (.plain rfl) rfl (q_move rfl rfl) ?_
      refine SOps.q rfl (.plain rfl) rfl (q_move rfl rfl) ?_
      refine SOps.q rfl (.guard 1 53 true rfl rfl (gT g22)) rfl (q_move rfl rfl) ?_
      refine SOps.q rfl (.guard 1 53 true rfl rfl (gT g22)) rfl (q_not rfl rfl) ?_
      refine SOps.q rfl (.guard 1 53 true rfl rfl (gT g22)) rfl (q_move rfl rfl) ?_
      refine SOps.q rfl (.guard 4 56 false rfl rfl (gF g23)) rfl (q_move rfl rfl) ?_
      refine SOps.q rfl (.guard 4 56 false rfl rfl (gF g23)) rfl (q_move rfl rfl) ?_
      refine SOps.q rfl (.guard 4 56 false rfl rfl (gF g23)) rfl (q_leq rfl rfl rfl) ?_
      refine SOps.q rfl (.guard 1 53 true rfl rfl (gT g22)) rfl (q_pick_f rfl rfl g23 rfl) ?_
      refine SOps.q rfl (.plain rfl) rfl (q_pick_t rfl rfl g22 rfl) ?_
      refine SOps.q rfl (.plain rfl) rfl (q_assign rfl rfl) ?_
      refine SOps.sub (st' := ⟨[(13, .c (.ptr 0 0)), (14, .c (.int .i64 sl_3)), (15, .c (.bool sok_4)), (16, .c (.ptr 1 0)), (17, .c (.int .i64 c_16.2.1)), (51, .c (.bool (decide (c_16.2.1 ≤ sl_3))))], [.box [.int .i64 b0_5, .int .i64 b0_6, .int .i64 b0_7, .int .i64 b0_8, .int .i64 b0_9, .str b0_10, .int .i64 b0_11, .int .i64 b0_12, .int .i64 b0_13, .int .i64 b0_14, .vec b0_15.length 2 (gL cSPeriod dSPeriod b0_15)], .box [.int .i64 c_16.1.ID, .int .i64 c_16.1.Level, .int .i64 c_16.1.Purpose, .int .i64 c_16.1.Kind, .int .i64 c_16.1.Conn, .str c_16.1.Txn, .int .i64 c_16.1.Span_From, .int .i64 c_16.1.Span_To, .int .i64 c_16.1.Start, .int .i64 c_16.1.Duration, .vec c_16.1.Periods.length 2 (gL cSPeriod dSPeriod c_16.1.Periods)]]⟩) (sub_gen [0, 1] rfl rfl ⟨zc rfl rfl, zc rfl rfl, zc rfl rfl, zc rfl rfl, zc rfl rfl, zc rfl rfl, trivial⟩ ⟨⟨_, rfl, ⟨ii rfl rfl, ii rfl rfl, ii rfl rfl, ii rfl rfl, ii rfl rfl, ii rfl rfl, ii rfl rfl, ii rfl rfl, ii rfl rfl, ii rfl rfl, ii rfl rfl, trivial⟩⟩, ⟨_, rfl, ⟨ii rfl rfl, ii rfl rfl, ii rfl rfl, ii rfl rfl, ii rfl rfl, ii rfl rfl, ii rfl rfl, ii rfl rfl, ii rfl rfl, ii rfl rfl, ii rfl rfl, trivial⟩⟩, trivial⟩) ?_
      refine SOps.nil ?_
      exact ⟨decide (c_16.2.1 ≤ sl_3), h, sub_gen [0, 1] rfl rfl ⟨zc rfl rfl, zc rfl rfl, zc rfl rfl, zc rfl rfl, zc rfl rfl, zc rfl rfl, trivial⟩ ⟨⟨_, rfl, ⟨ii rfl rfl, ii rfl rfl, ii rfl rfl, ii rfl rfl, ii rfl rfl, ii rfl rfl, ii rfl rfl, ii rfl rfl, ii rfl rfl, ii rfl rfl, ii rfl rfl, trivial⟩⟩, ⟨_, rfl, ⟨ii rfl rfl, ii rfl rfl, ii rfl rfl, ii rfl rfl, ii rfl rfl, ii rfl rfl, ii rfl rfl, ii rfl rfl, ii rfl rfl, ii rfl rfl, ii rfl rfl, trivial⟩⟩, trivial⟩⟩
    refine SCode.region (show SOps _ _ _ [0, 1, 2, 3, 4, 5, 6, 7, 8, 9, 10] _ _ from ?_)
    refine SOps.q rfl (.plain rfl) rfl (q_move rfl rfl) ?_
    refine SOps.q rfl (.plain rfl) rfl (q_move rfl rfl) ?_
    refine SOps.skip rfl 1 53 true rfl rfl (.inl (gF g22)) rfl ?_
    refine SOps.skip rfl 1 53 true rfl rfl (.inl (gF g22)) rfl ?_
    refine SOps.skip rfl 1 53 true rfl rfl (.inl (gF g22)) rfl ?_
    refine SOps.skip rfl 4 56 false rfl rfl (.inr rfl) rfl ?_
    refine SOps.skip rfl 4 56 false rfl rfl (.inr rfl) rfl ?_
    refine SOps.skip rfl 4 56 false rfl rfl (.inr rfl) rfl ?_
    refine SOps.skip rfl 1 53 true rfl rfl (.inl (gF g22)) rfl ?_
    refine SOps.q rfl (.plain rfl) rfl (q_pick_f rfl rfl g22 rfl) ?_
    refine SOps.q rfl (.plain rfl) rfl (q_assign rfl rfl) ?_
    refine SOps.sub (st' := ⟨[(13, .c (.ptr 0 0)), (14, .c (.int .i64 sl_3)), (15, .c (.bool sok_4)), (16, .c (.ptr 1 0)), (17, .c (.int .i64 c_16.2.1)), (51, .c (.bool false))], [.box [.int .i64 b0_5, .int .i64 b0_6, .int .i64 b0_7, .int .i64 b0_8, .int .i64 b0_9, .str b0_10, .int .i64 b0_11, .int .i64 b0_12, .int .i64 b0_13, .int .i64 b0_14, .vec b0_15.length 2 (gL cSPeriod dSPeriod b0_15)], .box [.int .i64 c_16.1.ID, .int .i64 c_16.1.Level, .int .i64 c_16.1.Purpose, .int .i64 c_16.1.Kind, .int .i64 c_16.1.Conn, .str c_16.1.Txn, .int .i64 c_16.1.Span_From, .int .i64 c_16.1.Span_To, .int .i64 c_16.1.Start, .int .i64 c_16.1.Duration, .vec c_16.1.Periods.length 2 (gL cSPeriod dSPeriod c_16.1.Periods)]]⟩) (sub_gen [0, 1] rfl rfl ⟨zc rfl rfl, zc rfl rfl, zc rfl rfl, zc rfl rfl, zc rfl rfl, zc rfl rfl, trivial⟩ ⟨⟨_, rfl, ⟨ii rfl rfl, ii rfl rfl, ii rfl rfl, ii rfl rfl, ii rfl rfl, ii rfl rfl, ii rfl rfl, ii rfl rfl, ii rfl rfl, ii rfl rfl, ii rfl rfl, trivial⟩⟩, ⟨_, rfl, ⟨ii rfl rfl, ii rfl rfl, ii rfl rfl, ii rfl rfl, ii rfl rfl, ii rfl rfl, ii rfl rfl, ii rfl rfl, ii rfl rfl, ii rfl rfl, ii rfl rfl, trivial⟩⟩, trivial⟩) ?_
    refine SOps.nil ?_
    exact ⟨false, h, sub_gen [0, 1] rfl rfl ⟨zc rfl rfl, zc rfl rfl, zc rfl rfl, zc rfl rfl, zc rfl rfl, zc rfl rfl, trivial⟩ ⟨⟨_, rfl, ⟨ii rfl rfl, ii rfl rfl, ii rfl rfl, ii rfl rfl, ii rfl rfl, ii rfl rfl, ii rfl rfl, ii rfl rfl, ii rfl rfl, ii rfl rfl, ii rfl rfl, trivial⟩⟩, ⟨_, rfl, ⟨ii rfl rfl, ii rfl rfl, ii rfl rfl, ii rfl rfl, ii rfl rfl, ii rfl rfl, ii rfl rfl, ii rfl rfl, ii rfl rfl, ii rfl rfl, ii rfl rfl, trivial⟩⟩, trivial⟩⟩
  rintro t51_18 h
  show SCode _ _ _ ⟨[(13, .c (.ptr 0 0)), (14, .c (.int .i64 sl_3)), (15, .c (.bool sok_4)), (16, .c (.ptr 1 0)), (17, .c (.int .i64 c_16.2.1)), (51, .c (.bool t51_18))], [.box [.int .i64 b0_5, .int .i64 b0_6, .int .i64 b0_7, .int .i64 b0_8, .int .i64 b0_9, .str b0_10, .int .i64 b0_11, .int .i64 b0_12, .int .i64 b0_13, .int .i64 b0_14, .vec b0_15.length 2 (gL cSPeriod dSPeriod b0_15)], .box [.int .i64 c_16.1.ID, .int .i64 c_16.1.Level, .int .i64 c_16.1.Purpose, .int .i64 c_16.1.Kind, .int .i64 c_16.1.Conn, .str c_16.1.Txn, .int .i64 c_16.1.Span_From, .int .i64 c_16.1.Span_To, .int .i64 c_16.1.Start, .int .i64 c_16.1.Duration, .vec c_16.1.Periods.length 2 (gL cSPeriod dSPeriod c_16.1.Periods)]]⟩ _
  replace h : chargenetref16_decide_p21 sl_3 sok_4 b0_5 c_16 t51_18 = some r := h
  unfold chargenetref16_decide_p21 at h
  rcases cond_out h with ⟨g19, h⟩ | ⟨g19, h⟩
  · refine SCode.cond_t rfl g19 ?_
    refine SCode.seq ?_
    refine SCode.draw (s' := [(12, .c (.bool true)), (11, .c (.int .i64 c_16.1.ID)), (10, .c (.int .i64 c_16.2.1)), (64, .c (.int .i64 c_16.1.ID)), (63, .c (.ptr 1 0)), (62, .c (.int .i64 c_16.2.1)), (13, .c (.ptr 0 0)), (14, .c (.int .i64 sl_3)), (15, .c (.bool sok_4)), (16, .c (.ptr 1 0)), (17, .c (.int .i64 c_16.2.1)), (51, .c (.bool t51_18))]) mixed [[], [], [1], [0], [0, 1, 2, 3], [0, 1, 2, 3, 4]] 6 0 rfl rfl ?_ ?_
    · refine QChain.run rfl (.plain rfl) rfl (q_move rfl rfl) ?_
      refine QChain.run rfl (.plain rfl) rfl (q_field_ptr rfl rfl fd31_0) ?_
      refine QChain.run rfl (.plain rfl) rfl (q_load_ptr rfl rfl rfl rfl ty3) ?_
      refine QChain.run rfl (.plain rfl) rfl (q_assign rfl rfl) ?_
      refine QChain.run rfl (.plain rfl) rfl (q_assign rfl rfl) ?_
      refine QChain.run rfl (.plain rfl) rfl (q_assign rfl rfl) ?_
      exact QChain.nil _ _
    refine (show SOps _ _ _ [] _ _ from ?_)
    refine SOps.sub (st' := ⟨[(10, .c (.int .i64 c_16.2.1)), (11, .c (.int .i64 c_16.1.ID)), (12, .c (.bool true))], []⟩) (sub_gen [] rfl rfl ⟨zc rfl rfl, zc rfl rfl, zc rfl rfl, trivial⟩ trivial) ?_
    refine SOps.nil ?_
    refine SCode.ret ?_
    obtain rfl := Option.some.inj h
    exact ⟨⟨[(10, .c (.int .i64 c_16.2.1)), (11, .c (.int .i64 c_16.1.ID)), (12, .c (.bool true))], []⟩, _, sub_gen [] rfl rfl ⟨zc rfl rfl, zc rfl rfl, zc rfl rfl, trivial⟩ trivial, resA3 (v1 := .c (.int .i64 c_16.2.1)) (v2 := .c (.int .i64 c_16.1.ID)) (v3 := .c (.bool true)) rfl rfl rfl rfl, rfl⟩
  refine SCode.cond_f rfl g19 ?_
  refine SCode.seq ?_
  refine SCode.region (show SOps _ _ _ [0, 1] _ _ from ?_)
  refine SOps.q rfl (.plain rfl) rfl (q_move rfl rfl) ?_
  refine SOps.q rfl (.plain rfl) rfl (q_assign rfl rfl) ?_
  refine SOps.sub (st' := ⟨[(13, .c (.ptr 0 0)), (14, .c (.int .i64 sl_3)), (65, .c (.bool sok_4))], [.box [.int .i64 b0_5, .int .i64 b0_6, .int .i64 b0_7, .int .i64 b0_8, .int .i64 b0_9, .str b0_10, .int .i64 b0_11, .int .i64 b0_12, .int .i64 b0_13, .int .i64 b0_14, .vec b0_15.length 2 (gL cSPeriod dSPeriod b0_15)]]⟩) (sub_gen [0] rfl rfl ⟨zc rfl rfl, zc rfl rfl, zc rfl rfl, trivial⟩ ⟨⟨_, rfl, ⟨ii rfl rfl, ii rfl rfl, ii rfl rfl, ii rfl rfl, ii rfl rfl, ii rfl rfl, ii rfl rfl, ii rfl rfl, ii rfl rfl, ii rfl rfl, ii rfl rfl, trivial⟩⟩, trivial⟩) ?_
  refine SOps.nil ?_
  rcases cond_out h with ⟨g20, h⟩ | ⟨g20, h⟩
  · refine SCode.cond_t rfl g20 ?_
    refine SCode.seq ?_
    refine SCode.draw (s' := [(12, .c (.bool true)), (11, .c (.int .i64 b0_5)), (10, .c (.int .i64 sl_3)), (69, .c (.int .i64 b0_5)), (68, .c (.ptr 0 0)), (67, .c (.int .i64 sl_3)), (13, .c (.ptr 0 0)), (14, .c (.int .i64 sl_3)), (65, .c (.bool sok_4))]) mixed [[], [], [1], [0], [0, 1, 2, 3], [0, 1, 2, 3, 4]] 6 0 rfl rfl ?_ ?_
    · refine QChain.run rfl (.plain rfl) rfl (q_move rfl rfl) ?_
      refine QChain.run rfl (.plain rfl) rfl (q_field_ptr rfl rfl fd31_0) ?_
      refine QChain.run rfl (.plain rfl) rfl (q_load_ptr rfl rfl rfl rfl ty3) ?_
      refine QChain.run rfl (.plain rfl) rfl (q_assign rfl rfl) ?_
      refine QChain.run rfl (.plain rfl) rfl (q_assign rfl rfl) ?_
      refine QChain.run rfl (.plain rfl) rfl (q_assign rfl rfl) ?_
      exact QChain.nil _ _
    refine (show SOps _ _ _ [] _ _ from ?_)
    refine SOps.sub (st' := ⟨[(10, .c (.int .i64 sl_3)), (11, .c (.int .i64 b0_5)), (12, .c (.bool true))], []⟩) (sub_gen [] rfl rfl ⟨zc rfl rfl, zc rfl rfl, zc rfl rfl, trivial⟩ trivial) ?_
    refine SOps.nil ?_
    refine SCode.ret ?_
    obtain rfl := Option.some.inj h
    exact ⟨⟨[(10, .c (.int .i64 sl_3)), (11, .c (.int .i64 b0_5)), (12, .c (.bool true))], []⟩, _, sub_gen [] rfl rfl ⟨zc rfl rfl, zc rfl rfl, zc rfl rfl, trivial⟩ trivial, resA3 (v1 := .c (.int .i64 sl_3)) (v2 := .c (.int .i64 b0_5)) (v3 := .c (.bool true)) rfl rfl rfl rfl, rfl⟩
  refine SCode.cond_f rfl g20 ?_
  refine SCode.skip ?_
  refine SCode.seq ?_
  refine SCode.region (show SOps _ _ _ [0, 1, 2] _ _ from ?_)
  refine SOps.q rfl (.plain rfl) rfl (q_assign rfl rfl) ?_
  refine SOps.q rfl (.plain rfl) rfl (q_assign rfl rfl) ?_
  refine SOps.q rfl (.plain rfl) rfl (q_assign rfl rfl) ?_
  refine SOps.sub (st' := ⟨[(10, .c (.int .i64 1073741824)), (11, .c (.int .i64 0)), (12, .c (.bool false))], []⟩) (sub_gen [] rfl rfl ⟨zc rfl rfl, zc rfl rfl, zc rfl rfl, trivial⟩ trivial) ?_
  refine SOps.nil ?_
  refine SCode.ret ?_
  obtain rfl := Option.some.inj h
  exact ⟨⟨[(10, .c (.int .i64 1073741824)), (11, .c (.int .i64 0)), (12, .c (.bool false))], []⟩, _, sub_gen [] rfl rfl ⟨zc rfl rfl, zc rfl rfl, zc rfl rfl, trivial⟩ trivial, resA3 (v1 := .c (.int .i64 1073741824)) (v2 := .c (.int .i64 0)) (v3 := .c (.bool false)) rfl rfl rfl rfl, rfl⟩
set_option maxRecDepth 100000 in
set_option maxHeartbeats 8000000 in
theorem chargenetref16_Why_ok (F : Nat) (a0_l : List SProfile) (a1_conn : Int) (a2_txn : ByteArray) (a3_start : Int) (a4_t : Int) (r : Int × Bool) (h : chargenetref16_Why F a0_l a1_conn a2_txn a3_start a4_t = some r) :
    SFun Try.prog 13 [] [.c (.vec a0_l.length 11 (gL cSProfile dSProfile a0_l)), .c (.int .i64 a1_conn), .c (.str a2_txn), .c (.int .i64 a3_start), .c (.int .i64 a4_t)] (fun x _ => x = .t [.c (.int .i64 r.1), .c (.bool r.2)]) := by
  refine SFun.of (n := 27) Try.func13 rfl rfl rfl ?_
  unfold chargenetref16_Why at h
  show SCode _ _ _ ⟨[(0, .c (.vec a0_l.length 11 (gL cSProfile dSProfile a0_l))), (1, .c (.int .i64 a1_conn)), (2, .c (.str a2_txn)), (3, .c (.int .i64 a3_start)), (4, .c (.int .i64 a4_t))], []⟩ _
  refine SCode.seq ?_
  refine SCode.region (show SOps _ _ _ [0, 1] _ _ from ?_)
  refine SOps.q rfl (.plain rfl) rfl (q_assign rfl rfl) ?_
  refine SOps.q rfl (.plain rfl) rfl (q_assign rfl rfl) ?_
  refine SOps.sub (st' := ⟨[(0, .c (.vec a0_l.length 11 (gL cSProfile dSProfile a0_l))), (1, .c (.int .i64 a1_conn)), (2, .c (.str a2_txn)), (3, .c (.int .i64 a3_start)), (4, .c (.int .i64 a4_t))], []⟩) (sub_gen [] rfl rfl ⟨zc rfl rfl, zc rfl rfl, zc rfl rfl, zc rfl rfl, zc rfl rfl, trivial⟩ trivial) ?_
  refine SOps.nil ?_
  refine SCode.seq ?_
  obtain ⟨c_1, g2, h⟩ := bind_out h
  try dsimp only at h
  refine SCode.region (show SOps _ _ _ [0, 1, 2, 3, 4, 5, 6, 7, 8, 9, 10, 11, 12] _ _ from ?_)
  refine SOps.q rfl (.plain rfl) rfl (q_move rfl rfl) ?_
  refine SOps.q rfl (.plain rfl) rfl (q_move rfl rfl) ?_
  refine SOps.q rfl (.plain rfl) rfl (q_move rfl rfl) ?_
  refine SOps.q rfl (.plain rfl) rfl (q_move rfl rfl) ?_
  refine SOps.q rfl (.plain rfl) rfl (q_move rfl rfl) ?_
  refine SOps.q rfl (.plain rfl) rfl (q_call (chargenetref16_decide_ok F a0_l a1_conn a2_txn a3_start a4_t c_1 g2) [] rfl fn25 ⟨⟨_, rfl, .inl ⟨rfl, rfl⟩⟩, ⟨_, rfl, .inl ⟨rfl, rfl⟩⟩, ⟨_, rfl, .inl ⟨rfl, rfl⟩⟩, ⟨_, rfl, .inl ⟨rfl, rfl⟩⟩, ⟨_, rfl, .inl ⟨rfl, rfl⟩⟩, trivial⟩ (.inl rfl)) ?_
  refine SOps.q rfl (.plain rfl) rfl (q_move rfl rfl) ?_
  refine SOps.q rfl (.plain rfl) rfl (q_extract rfl rfl rfl) ?_
  refine SOps.q rfl (.plain rfl) rfl (q_extract rfl rfl rfl) ?_
  refine SOps.q rfl (.plain rfl) rfl (q_extract rfl rfl rfl) ?_
  refine SOps.q rfl (.plain rfl) rfl (q_assign rfl rfl) ?_
  refine SOps.q rfl (.plain rfl) rfl (q_assign rfl rfl) ?_
  refine SOps.q rfl (.plain rfl) rfl (q_assign rfl rfl) ?_
  refine SOps.sub (st' := ⟨[(13, .c (.int .i64 c_1.2.1)), (14, .c (.bool c_1.2.2))], []⟩) (sub_gen [] rfl rfl ⟨zc rfl rfl, zc rfl rfl, trivial⟩ trivial) ?_
  refine SOps.nil ?_
  refine SCode.seq ?_
  refine SCode.region (show SOps _ _ _ [0, 1, 2, 3] _ _ from ?_)
  refine SOps.q rfl (.plain rfl) rfl (q_move rfl rfl) ?_
  refine SOps.q rfl (.plain rfl) rfl (q_move rfl rfl) ?_
  refine SOps.q rfl (.plain rfl) rfl (q_assign rfl rfl) ?_
  refine SOps.q rfl (.plain rfl) rfl (q_assign rfl rfl) ?_
  refine SOps.sub (st' := ⟨[(10, .c (.int .i64 c_1.2.1)), (11, .c (.bool c_1.2.2))], []⟩) (sub_gen [] rfl rfl ⟨zc rfl rfl, zc rfl rfl, trivial⟩ trivial) ?_
  refine SOps.nil ?_
  refine SCode.ret ?_
  obtain rfl := Option.some.inj h
  exact ⟨⟨[(10, .c (.int .i64 c_1.2.1)), (11, .c (.bool c_1.2.2))], []⟩, _, sub_gen [] rfl rfl ⟨zc rfl rfl, zc rfl rfl, trivial⟩ trivial, resA2 (v1 := .c (.int .i64 c_1.2.1)) (v2 := .c (.bool c_1.2.2)) rfl rfl rfl, rfl⟩
set_option maxRecDepth 100000 in
set_option maxHeartbeats 8000000 in
theorem chargenetref16_At_ok (F : Nat) (a0_l : List SProfile) (a1_conn : Int) (a2_txn : ByteArray) (a3_start : Int) (a4_t : Int) (r : Int) (h : chargenetref16_At F a0_l a1_conn a2_txn a3_start a4_t = some r) :
    SFun Try.prog 14 [] [.c (.vec a0_l.length 11 (gL cSProfile dSProfile a0_l)), .c (.int .i64 a1_conn), .c (.str a2_txn), .c (.int .i64 a3_start), .c (.int .i64 a4_t)] (fun x _ => x = .c (.int .i64 r)) := by
  refine SFun.of (n := 25) Try.func14 rfl rfl rfl ?_
  unfold chargenetref16_At at h
  show SCode _ _ _ ⟨[(0, .c (.vec a0_l.length 11 (gL cSProfile dSProfile a0_l))), (1, .c (.int .i64 a1_conn)), (2, .c (.str a2_txn)), (3, .c (.int .i64 a3_start)), (4, .c (.int .i64 a4_t))], []⟩ _
  refine SCode.seq ?_
  refine SCode.region (show SOps _ _ _ [0] _ _ from ?_)
  refine SOps.q rfl (.plain rfl) rfl (q_assign rfl rfl) ?_
  refine SOps.sub (st' := ⟨[(0, .c (.vec a0_l.length 11 (gL cSProfile dSProfile a0_l))), (1, .c (.int .i64 a1_conn)), (2, .c (.str a2_txn)), (3, .c (.int .i64 a3_start)), (4, .c (.int .i64 a4_t))], []⟩) (sub_gen [] rfl rfl ⟨zc rfl rfl, zc rfl rfl, zc rfl rfl, zc rfl rfl, zc rfl rfl, trivial⟩ trivial) ?_
  refine SOps.nil ?_
  refine SCode.seq ?_
  obtain ⟨c_1, g2, h⟩ := bind_out h
  try dsimp only at h
  refine SCode.region (show SOps _ _ _ [0, 1, 2, 3, 4, 5, 6, 7, 8, 9, 10, 11, 12] _ _ from ?_)
  refine SOps.q rfl (.plain rfl) rfl (q_move rfl rfl) ?_
  refine SOps.q rfl (.plain rfl) rfl (q_move rfl rfl) ?_
  refine SOps.q rfl (.plain rfl) rfl (q_move rfl rfl) ?_
  refine SOps.q rfl (.plain rfl) rfl (q_move rfl rfl) ?_
  refine SOps.q rfl (.plain rfl) rfl (q_move rfl rfl) ?_
  refine SOps.q rfl (.plain rfl) rfl (q_call (chargenetref16_decide_ok F a0_l a1_conn a2_txn a3_start a4_t c_1 g2) [] rfl fn25 ⟨⟨_, rfl, .inl ⟨rfl, rfl⟩⟩, ⟨_, rfl, .inl ⟨rfl, rfl⟩⟩, ⟨_, rfl, .inl ⟨rfl, rfl⟩⟩, ⟨_, rfl, .inl ⟨rfl, rfl⟩⟩, ⟨_, rfl, .inl ⟨rfl, rfl⟩⟩, trivial⟩ (.inl rfl)) ?_
  refine SOps.q rfl (.plain rfl) rfl (q_move rfl rfl) ?_
  refine SOps.q rfl (.plain rfl) rfl (q_extract rfl rfl rfl) ?_
  refine SOps.q rfl (.plain rfl) rfl (q_extract rfl rfl rfl) ?_
  refine SOps.q rfl (.plain rfl) rfl (q_extract rfl rfl rfl) ?_
  refine SOps.q rfl (.plain rfl) rfl (q_assign rfl rfl) ?_
  refine SOps.q rfl (.plain rfl) rfl (q_assign rfl rfl) ?_
  refine SOps.q rfl (.plain rfl) rfl (q_assign rfl rfl) ?_
  refine SOps.sub (st' := ⟨[(11, .c (.int .i64 c_1.1))], []⟩) (sub_gen [] rfl rfl ⟨zc rfl rfl, trivial⟩ trivial) ?_
  refine SOps.nil ?_
  refine SCode.seq ?_
  refine SCode.region (show SOps _ _ _ [0, 1] _ _ from ?_)
  refine SOps.q rfl (.plain rfl) rfl (q_move rfl rfl) ?_
  refine SOps.q rfl (.plain rfl) rfl (q_assign rfl rfl) ?_
  refine SOps.sub (st' := ⟨[(10, .c (.int .i64 c_1.1))], []⟩) (sub_gen [] rfl rfl ⟨zc rfl rfl, trivial⟩ trivial) ?_
  refine SOps.nil ?_
  refine SCode.ret ?_
  obtain rfl := Option.some.inj h
  exact ⟨⟨[(10, .c (.int .i64 c_1.1))], []⟩, _, sub_gen [] rfl rfl ⟨zc rfl rfl, trivial⟩ trivial, resA1 (v := .c (.int .i64 c_1.1)) rfl rfl, rfl⟩
set_option maxRecDepth 100000 in
set_option maxHeartbeats 8000000 in
theorem chargenetlaw16_ComposeAts_ok (F : Nat) (a0_q : SQuery) (r : Bool) (h : chargenetlaw16_ComposeAts F a0_q = some r) :
    SFun Try.prog 5 [] [.a [.vec a0_q.L.length 11 (gL cSProfile dSProfile a0_q.L), .int .i64 a0_q.Conn, .str a0_q.Txn, .int .i64 a0_q.Start, .int .i64 a0_q.T, .int .i64 a0_q.Length]] (fun x _ => x = .c (.bool r)) := by
  refine SFun.of (n := 72) Try.func5 rfl rfl rfl ?_
  unfold chargenetlaw16_ComposeAts at h
  show SCode _ _ _ ⟨[(0, .a [.vec a0_q.L.length 11 (gL cSProfile dSProfile a0_q.L), .int .i64 a0_q.Conn, .str a0_q.Txn, .int .i64 a0_q.Start, .int .i64 a0_q.T, .int .i64 a0_q.Length])], []⟩ _
  refine SCode.seq ?_
  refine SCode.region (show SOps _ _ _ [0, 1] _ _ from ?_)
  refine SOps.e rfl (.plain rfl) (e_box rfl rfl rfl rfl rfl rfl) ?_
  refine SOps.q rfl (.plain rfl) rfl (q_assign rfl rfl) ?_
  refine SOps.sub (st' := ⟨[(1, .c (.ptr 0 0))], [.box [.vec a0_q.L.length 11 (gL cSProfile dSProfile a0_q.L), .int .i64 a0_q.Conn, .str a0_q.Txn, .int .i64 a0_q.Start, .int .i64 a0_q.T, .int .i64 a0_q.Length]]⟩) (sub_gen [0] rfl rfl ⟨zc rfl rfl, trivial⟩ ⟨⟨_, rfl, ⟨ii rfl rfl, ii rfl rfl, ii rfl rfl, ii rfl rfl, ii rfl rfl, ii rfl rfl, trivial⟩⟩, trivial⟩) ?_
  refine SOps.nil ?_
  refine SCode.seq ?_
  refine SCode.seq ?_
  obtain ⟨c_1, g2, h⟩ := bind_out h
  try dsimp only at h
  refine SCode.region (show SOps _ _ _ [0, 1, 2] _ _ from ?_)
  refine SOps.q rfl (.plain rfl) rfl (q_load_ptr_all rfl rfl rfl rfl rfl ty24) ?_
  refine SOps.q rfl (.plain rfl) rfl (q_call (chargenetlaw16_Good_ok F a0_q c_1 g2) [] rfl fn8 ⟨⟨rfl, rfl⟩, trivial⟩ (.inl rfl)) ?_
  refine SOps.q rfl (.plain rfl) rfl (q_not rfl rfl) ?_
  refine SOps.sub (st' := ⟨[(1, .c (.ptr 0 0)), (9, .c (.bool ((!c_1))))], [.box [.vec a0_q.L.length 11 (gL cSProfile dSProfile a0_q.L), .int .i64 a0_q.Conn, .str a0_q.Txn, .int .i64 a0_q.Start, .int .i64 a0_q.T, .int .i64 a0_q.Length]]⟩) (sub_gen [0] rfl rfl ⟨zc rfl rfl, zc rfl rfl, trivial⟩ ⟨⟨_, rfl, ⟨ii rfl rfl, ii rfl rfl, ii rfl rfl, ii rfl rfl, ii rfl rfl, ii rfl rfl, trivial⟩⟩, trivial⟩) ?_
  refine SOps.nil ?_
  rcases cond_out h with ⟨g3, h⟩ | ⟨g3, h⟩
  · refine SCode.cond_t rfl g3 ?_
    refine SCode.seq ?_
    obtain ⟨c_4, g5, h⟩ := bind_out h
    try dsimp only at h
    refine SCode.region (show SOps _ _ _ [0, 1] _ _ from ?_)
    refine SOps.q rfl (.plain rfl) rfl (q_call (chargenetlaw16_exampleHolds_ok F  c_4 g5) [] rfl fn9 trivial (.inl rfl)) ?_
    refine SOps.q rfl (.plain rfl) rfl (q_assign rfl rfl) ?_
    refine SOps.sub (st' := ⟨[(2, .c (.bool c_4))], []⟩) (sub_gen [] rfl rfl ⟨zc rfl rfl, trivial⟩ trivial) ?_
    refine SOps.nil ?_
    refine SCode.ret ?_
    obtain rfl := Option.some.inj h
    exact ⟨⟨[(2, .c (.bool c_4))], []⟩, _, sub_gen [] rfl rfl ⟨zc rfl rfl, trivial⟩ trivial, resA1 (v := .c (.bool c_4)) rfl rfl, rfl⟩
  refine SCode.cond_f rfl g3 ?_
  refine SCode.skip ?_
  refine SCode.seq ?_
  obtain ⟨c_6, g7, h⟩ := bind_out h
  try dsimp only at h
  refine SCode.region (show SOps _ _ _ [0, 1, 2, 3, 4, 5, 6, 7, 8, 9, 10, 11, 12, 13, 14, 15] _ _ from ?_)
  refine SOps.q rfl (.plain rfl) rfl (q_field_ptr rfl rfl fd24_0) ?_
  refine SOps.q rfl (.plain rfl) rfl (q_load_ptr rfl rfl rfl rfl ty22) ?_
  refine SOps.q rfl (.plain rfl) rfl (q_field_ptr rfl rfl fd24_1) ?_
  refine SOps.q rfl (.plain rfl) rfl (q_load_ptr rfl rfl rfl rfl ty3) ?_
  refine SOps.q rfl (.plain rfl) rfl (q_field_ptr rfl rfl fd24_2) ?_
  refine SOps.q rfl (.plain rfl) rfl (q_load_ptr rfl rfl rfl rfl ty9) ?_
  refine SOps.q rfl (.plain rfl) rfl (q_field_ptr rfl rfl fd24_3) ?_
  refine SOps.q rfl (.plain rfl) rfl (q_load_ptr rfl rfl rfl rfl ty3) ?_
  refine SOps.q rfl (.plain rfl) rfl (q_field_ptr rfl rfl fd24_4) ?_
  refine SOps.q rfl (.plain rfl) rfl (q_load_ptr rfl rfl rfl rfl ty3) ?_
  refine SOps.q rfl (.plain rfl) rfl (q_call (compose_Why_ok F a0_q.L a0_q.Conn a0_q.Txn a0_q.Start a0_q.T c_6 g7) [] rfl fn12 ⟨⟨_, rfl, .inl ⟨rfl, rfl⟩⟩, ⟨_, rfl, .inl ⟨rfl, rfl⟩⟩, ⟨_, rfl, .inl ⟨rfl, rfl⟩⟩, ⟨_, rfl, .inl ⟨rfl, rfl⟩⟩, ⟨_, rfl, .inl ⟨rfl, rfl⟩⟩, trivial⟩ (.inl rfl)) ?_
  refine SOps.q rfl (.plain rfl) rfl (q_move rfl rfl) ?_
  refine SOps.q rfl (.plain rfl) rfl (q_extract rfl rfl rfl) ?_
  refine SOps.q rfl (.plain rfl) rfl (q_extract rfl rfl rfl) ?_
  refine SOps.q rfl (.plain rfl) rfl (q_assign rfl rfl) ?_
  refine SOps.q rfl (.plain rfl) rfl (q_assign rfl rfl) ?_
  refine SOps.sub (st' := ⟨[(1, .c (.ptr 0 0)), (3, .c (.int .i64 c_6.1)), (4, .c (.bool c_6.2))], [.box [.vec a0_q.L.length 11 (gL cSProfile dSProfile a0_q.L), .int .i64 a0_q.Conn, .str a0_q.Txn, .int .i64 a0_q.Start, .int .i64 a0_q.T, .int .i64 a0_q.Length]]⟩) (sub_gen [0] rfl rfl ⟨zc rfl rfl, zc rfl rfl, zc rfl rfl, trivial⟩ ⟨⟨_, rfl, ⟨ii rfl rfl, ii rfl rfl, ii rfl rfl, ii rfl rfl, ii rfl rfl, ii rfl rfl, trivial⟩⟩, trivial⟩) ?_
  refine SOps.nil ?_
  refine SCode.seq ?_
  obtain ⟨c_8, g9, h⟩ := bind_out h
  try dsimp only at h
  refine SCode.region (show SOps _ _ _ [0, 1, 2, 3, 4, 5, 6, 7, 8, 9, 10, 11, 12, 13, 14, 15] _ _ from ?_)
  refine SOps.q rfl (.plain rfl) rfl (q_field_ptr rfl rfl fd24_0) ?_
  refine SOps.q rfl (.plain rfl) rfl (q_load_ptr rfl rfl rfl rfl ty22) ?_
  refine SOps.q rfl (.plain rfl) rfl (q_field_ptr rfl rfl fd24_1) ?_
  refine SOps.q rfl (.plain rfl) rfl (q_load_ptr rfl rfl rfl rfl ty3) ?_
  refine SOps.q rfl (.plain rfl) rfl (q_field_ptr rfl rfl fd24_2) ?_
  refine SOps.q rfl (.plain rfl) rfl (q_load_ptr rfl rfl rfl rfl ty9) ?_
  refine SOps.q rfl (.plain rfl) rfl (q_field_ptr rfl rfl fd24_3) ?_
  refine SOps.q rfl (.plain rfl) rfl (q_load_ptr rfl rfl rfl rfl ty3) ?_
  refine SOps.q rfl (.plain rfl) rfl (q_field_ptr rfl rfl fd24_4) ?_
  refine SOps.q rfl (.plain rfl) rfl (q_load_ptr rfl rfl rfl rfl ty3) ?_
  refine SOps.q rfl (.plain rfl) rfl (q_call (chargenetref16_Why_ok F a0_q.L a0_q.Conn a0_q.Txn a0_q.Start a0_q.T c_8 g9) [] rfl fn13 ⟨⟨_, rfl, .inl ⟨rfl, rfl⟩⟩, ⟨_, rfl, .inl ⟨rfl, rfl⟩⟩, ⟨_, rfl, .inl ⟨rfl, rfl⟩⟩, ⟨_, rfl, .inl ⟨rfl, rfl⟩⟩, ⟨_, rfl, .inl ⟨rfl, rfl⟩⟩, trivial⟩ (.inl rfl)) ?_
  refine SOps.q rfl (.plain rfl) rfl (q_move rfl rfl) ?_
  refine SOps.q rfl (.plain rfl) rfl (q_extract rfl rfl rfl) ?_
  refine SOps.q rfl (.plain rfl) rfl (q_extract rfl rfl rfl) ?_
  refine SOps.q rfl (.plain rfl) rfl (q_assign rfl rfl) ?_
  refine SOps.q rfl (.plain rfl) rfl (q_assign rfl rfl) ?_
  refine SOps.sub (st' := ⟨[(1, .c (.ptr 0 0)), (3, .c (.int .i64 c_6.1)), (4, .c (.bool c_6.2)), (5, .c (.int .i64 c_8.1)), (6, .c (.bool c_8.2))], [.box [.vec a0_q.L.length 11 (gL cSProfile dSProfile a0_q.L), .int .i64 a0_q.Conn, .str a0_q.Txn, .int .i64 a0_q.Start, .int .i64 a0_q.T, .int .i64 a0_q.Length]]⟩) (sub_gen [0] rfl rfl ⟨zc rfl rfl, zc rfl rfl, zc rfl rfl, zc rfl rfl, zc rfl rfl, trivial⟩ ⟨⟨_, rfl, ⟨ii rfl rfl, ii rfl rfl, ii rfl rfl, ii rfl rfl, ii rfl rfl, ii rfl rfl, trivial⟩⟩, trivial⟩) ?_
  refine SOps.nil ?_
  refine SCode.seq ?_
  rcases cond_out h with ⟨g10, h⟩ | ⟨g10, h⟩
  · rcases cond_out h with ⟨g11, h⟩ | ⟨g11, h⟩
    · obtain ⟨c_12, g13, h⟩ := bind_out h
      try dsimp only at h
      obtain ⟨c_14, g15, h⟩ := bind_out h
      try dsimp only at h
      refine SCode.draw (s' := [(2, .c (.bool (decide (c_12 = c_14)))), (71, .c (.bool (decide (c_12 = c_14)))), (70, .c (.bool (decide (c_12 = c_14)))), (69, .c (.int .i64 c_14)), (68, .c (.int .i64 a0_q.T)), (67, .c (.ptr 0 4)), (66, .c (.int .i64 a0_q.Start)), (65, .c (.ptr 0 3)), (64, .c (.str a0_q.Txn)), (63, .c (.ptr 0 2)), (62, .c (.int .i64 a0_q.Conn)), (61, .c (.ptr 0 1)), (60, .c (.vec a0_q.L.length 11 (gL cSProfile dSProfile a0_q.L))), (59, .c (.ptr 0 0)), (58, .c (.int .i64 c_12)), (57, .c (.int .i64 a0_q.T)), (56, .c (.ptr 0 4)), (55, .c (.int .i64 a0_q.Start)), (54, .c (.ptr 0 3)), (53, .c (.str a0_q.Txn)), (52, .c (.ptr 0 2)), (51, .c (.int .i64 a0_q.Conn)), (50, .c (.ptr 0 1)), (49, .c (.vec a0_q.L.length 11 (gL cSProfile dSProfile a0_q.L))), (48, .c (.ptr 0 0)), (47, .c (.bool ((c_6.2 == c_8.2)))), (46, .c (.bool ((c_6.2 == c_8.2)))), (45, .c (.bool ((c_6.2 == c_8.2)))), (44, .c (.bool c_8.2)), (43, .c (.bool c_6.2)), (42, .c (.bool (decide (c_6.1 = c_8.1)))), (41, .c (.bool (decide (c_6.1 = c_8.1)))), (40, .c (.int .i64 c_8.1)), (39, .c (.int .i64 c_6.1)), (1, .c (.ptr 0 0)), (3, .c (.int .i64 c_6.1)), (4, .c (.bool c_6.2)), (5, .c (.int .i64 c_8.1)), (6, .c (.bool c_8.2))]) mixed [[], [], [0, 1], [0, 1, 2], [0, 1, 2, 3], [0, 1, 2, 3], [0, 1, 2, 3, 4, 5], [0, 1, 2, 3, 4, 5, 6], [0, 1, 2, 3, 4, 5, 6, 7], [0, 1, 2, 3, 4, 5, 6, 7, 8], [0, 1, 2, 3, 4, 5, 6, 7, 8, 9], [0, 1, 2, 3, 4, 5, 6, 7, 8], [0, 1, 2, 3, 4, 5, 6, 7, 8, 11], [0, 1, 2, 3, 4, 5, 6, 7, 8], [0, 1, 2, 3, 4, 5, 6, 7, 8, 13], [0, 1, 2, 3, 4, 5, 6, 7, 8], [0, 1, 2, 3, 4, 5, 6, 7, 8, 15], [0, 1, 2, 3, 4, 5, 6, 7, 8], [0, 1, 2, 3, 4, 5, 6, 7, 8, 17], [0, 1, 2, 3, 4, 5, 6, 7, 8, 9, 10, 11, 12, 13, 14, 15, 16, 17, 18], [0, 1, 2, 3, 4, 5, 6, 7, 8], [0, 1, 2, 3, 4, 5, 6, 7, 8, 20], [0, 1, 2, 3, 4, 5, 6, 7, 8], [0, 1, 2, 3, 4, 5, 6, 7, 8, 22], [0, 1, 2, 3, 4, 5, 6, 7, 8], [0, 1, 2, 3, 4, 5, 6, 7, 8, 24], [0, 1, 2, 3, 4, 5, 6, 7, 8], [0, 1, 2, 3, 4, 5, 6, 7, 8, 26], [0, 1, 2, 3, 4, 5, 6, 7, 8], [0, 1, 2, 3, 4, 5, 6, 7, 8, 28], [0, 1, 2, 3, 4, 5, 6, 7, 8, 9, 10, 11, 12, 13, 14, 15, 16, 17, 18, 19, 20, 21, 22, 23, 24, 25, 26, 27, 28, 29], [0, 1, 2, 3, 4, 5, 6, 7, 8, 9, 10, 11, 12, 13, 14, 15, 16, 17, 18, 19, 20, 21, 22, 23, 24, 25, 26, 27, 28, 29, 30], [0, 1, 2, 3, 4, 5, 6, 7, 8, 9, 10, 11, 12, 13, 14, 15, 16, 17, 18, 19, 20, 21, 22, 23, 24, 25, 26, 27, 28, 29, 30, 31], [0, 1, 2, 3, 4, 5, 6, 7, 8, 9, 10, 11, 12, 13, 14, 15, 16, 17, 18, 19, 20, 21, 22, 23, 24, 25, 26, 27, 28, 29, 30, 31, 32]] 34 0 rfl rfl ?_ ?_
      · refine QChain.run rfl (.plain rfl) rfl (q_move rfl rfl) ?_
        refine QChain.run rfl (.plain rfl) rfl (q_move rfl rfl) ?_
        refine QChain.run rfl (.plain rfl) rfl (q_eql rfl rfl rfl) ?_
        refine QChain.run rfl (.plain rfl) rfl (q_move rfl rfl) ?_
        refine QChain.run rfl (.guard 3 42 true rfl rfl (gT g10)) rfl (q_move rfl rfl) ?_
        refine QChain.run rfl (.guard 3 42 true rfl rfl (gT g10)) rfl (q_move rfl rfl) ?_
        refine QChain.run rfl (.guard 3 42 true rfl rfl (gT g10)) rfl (q_eqlB rfl rfl rfl un4) ?_
        refine QChain.run rfl (.plain rfl) rfl (q_pick_t rfl rfl g10 rfl) ?_
        refine QChain.run rfl (.plain rfl) rfl (q_move rfl rfl) ?_
        refine QChain.run rfl (.guard 8 47 true rfl rfl (gT g11)) rfl (q_field_ptr rfl rfl fd24_0) ?_
        refine QChain.run rfl (.guard 8 47 true rfl rfl (gT g11)) rfl (q_load_ptr rfl rfl rfl rfl ty22) ?_
        refine QChain.run rfl (.guard 8 47 true rfl rfl (gT g11)) rfl (q_field_ptr rfl rfl fd24_1) ?_
        refine QChain.run rfl (.guard 8 47 true rfl rfl (gT g11)) rfl (q_load_ptr rfl rfl rfl rfl ty3) ?_
        refine QChain.run rfl (.guard 8 47 true rfl rfl (gT g11)) rfl (q_field_ptr rfl rfl fd24_2) ?_
        refine QChain.run rfl (.guard 8 47 true rfl rfl (gT g11)) rfl (q_load_ptr rfl rfl rfl rfl ty9) ?_
        refine QChain.run rfl (.guard 8 47 true rfl rfl (gT g11)) rfl (q_field_ptr rfl rfl fd24_3) ?_
        refine QChain.run rfl (.guard 8 47 true rfl rfl (gT g11)) rfl (q_load_ptr rfl rfl rfl rfl ty3) ?_
        refine QChain.run rfl (.guard 8 47 true rfl rfl (gT g11)) rfl (q_field_ptr rfl rfl fd24_4) ?_
        refine QChain.run rfl (.guard 8 47 true rfl rfl (gT g11)) rfl (q_load_ptr rfl rfl rfl rfl ty3) ?_
        refine QChain.run rfl (.guard 8 47 true rfl rfl (gT g11)) rfl (q_call (compose_At_ok F a0_q.L a0_q.Conn a0_q.Txn a0_q.Start a0_q.T c_12 g13) [] rfl fn11 ⟨⟨_, rfl, .inl ⟨rfl, rfl⟩⟩, ⟨_, rfl, .inl ⟨rfl, rfl⟩⟩, ⟨_, rfl, .inl ⟨rfl, rfl⟩⟩, ⟨_, rfl, .inl ⟨rfl, rfl⟩⟩, ⟨_, rfl, .inl ⟨rfl, rfl⟩⟩, trivial⟩ (.inl rfl)) ?_
        refine QChain.run rfl (.guard 8 47 true rfl rfl (gT g11)) rfl (q_field_ptr rfl rfl fd24_0) ?_
        refine QChain.run rfl (.guard 8 47 true rfl rfl (gT g11)) rfl (q_load_ptr rfl rfl rfl rfl ty22) ?_
        refine QChain.run rfl (.guard 8 47 true rfl rfl (gT g11)) rfl (q_field_ptr rfl rfl fd24_1) ?_
        refine QChain.run rfl (.guard 8 47 true rfl rfl (gT g11)) rfl (q_load_ptr rfl rfl rfl rfl ty3) ?_
        refine QChain.run rfl (.guard 8 47 true rfl rfl (gT g11)) rfl (q_field_ptr rfl rfl fd24_2) ?_
        refine QChain.run rfl (.guard 8 47 true rfl rfl (gT g11)) rfl (q_load_ptr rfl rfl rfl rfl ty9) ?_
        refine QChain.run rfl (.guard 8 47 true rfl rfl (gT g11)) rfl (q_field_ptr rfl rfl fd24_3) ?_
        refine QChain.run rfl (.guard 8 47 true rfl rfl (gT g11)) rfl (q_load_ptr rfl rfl rfl rfl ty3) ?_
        refine QChain.run rfl (.guard 8 47 true rfl rfl (gT g11)) rfl (q_field_ptr rfl rfl fd24_4) ?_
        refine QChain.run rfl (.guard 8 47 true rfl rfl (gT g11)) rfl (q_load_ptr rfl rfl rfl rfl ty3) ?_
        refine QChain.run rfl (.guard 8 47 true rfl rfl (gT g11)) rfl (q_call (chargenetref16_At_ok F a0_q.L a0_q.Conn a0_q.Txn a0_q.Start a0_q.T c_14 g15) [] rfl fn14 ⟨⟨_, rfl, .inl ⟨rfl, rfl⟩⟩, ⟨_, rfl, .inl ⟨rfl, rfl⟩⟩, ⟨_, rfl, .inl ⟨rfl, rfl⟩⟩, ⟨_, rfl, .inl ⟨rfl, rfl⟩⟩, ⟨_, rfl, .inl ⟨rfl, rfl⟩⟩, trivial⟩ (.inl rfl)) ?_
        refine QChain.run rfl (.guard 8 47 true rfl rfl (gT g11)) rfl (q_eql rfl rfl rfl) ?_
        refine QChain.run rfl (.plain rfl) rfl (q_pick_t rfl rfl g11 rfl) ?_
        refine QChain.run rfl (.plain rfl) rfl (q_assign rfl rfl) ?_
        exact QChain.nil _ _
      refine (show SOps _ _ _ [] _ _ from ?_)
      refine SOps.sub (st' := ⟨[(2, .c (.bool (decide (c_12 = c_14))))], []⟩) (sub_gen [] rfl rfl ⟨zc rfl rfl, trivial⟩ trivial) ?_
      refine SOps.nil ?_
      refine SCode.ret ?_
      obtain rfl := Option.some.inj h
      exact ⟨⟨[(2, .c (.bool (decide (c_12 = c_14))))], []⟩, _, sub_gen [] rfl rfl ⟨zc rfl rfl, trivial⟩ trivial, resA1 (v := .c (.bool (decide (c_12 = c_14)))) rfl rfl, rfl⟩
    refine SCode.draw (s' := [(2, .c (.bool false)), (71, .c (.bool false)), (70, .c (.raw (.tuple #[]))), (69, .c (.raw (.tuple #[]))), (68, .c (.raw (.tuple #[]))), (67, .c (.raw (.tuple #[]))), (66, .c (.raw (.tuple #[]))), (65, .c (.raw (.tuple #[]))), (64, .c (.raw (.tuple #[]))), (63, .c (.raw (.tuple #[]))), (62, .c (.raw (.tuple #[]))), (61, .c (.raw (.tuple #[]))), (60, .c (.raw (.tuple #[]))), (59, .c (.raw (.tuple #[]))), (58, .c (.raw (.tuple #[]))), (57, .c (.raw (.tuple #[]))), (56, .c (.raw (.tuple #[]))), (55, .c (.raw (.tuple #[]))), (54, .c (.raw (.tuple #[]))), (53, .c (.raw (.tuple #[]))), (52, .c (.raw (.tuple #[]))), (51, .c (.raw (.tuple #[]))), (50, .c (.raw (.tuple #[]))), (49, .c (.raw (.tuple #[]))), (48, .c (.raw (.tuple #[]))), (47, .c (.bool ((c_6.2 == c_8.2)))), (46, .c (.bool ((c_6.2 == c_8.2)))), (45, .c (.bool ((c_6.2 == c_8.2)))), (44, .c (.bool c_8.2)), (43, .c (.bool c_6.2)), (42, .c (.bool (decide (c_6.1 = c_8.1)))), (41, .c (.bool (decide (c_6.1 = c_8.1)))), (40, .c (.int .i64 c_8.1)), (39, .c (.int .i64 c_6.1)), (1, .c (.ptr 0 0)), (3, .c (.int .i64 c_6.1)), (4, .c (.bool c_6.2)), (5, .c (.int .i64 c_8.1)), (6, .c (.bool c_8.2))]) mixed [[], [], [0, 1], [0, 1, 2], [0, 1, 2, 3], [0, 1, 2, 3], [0, 1, 2, 3, 4, 5], [0, 1, 2, 3, 4, 5, 6], [0, 1, 2, 3, 4, 5, 6, 7], [0, 1, 2, 3, 4, 5, 6, 7, 8], [0, 1, 2, 3, 4, 5, 6, 7, 8, 9], [0, 1, 2, 3, 4, 5, 6, 7, 8], [0, 1, 2, 3, 4, 5, 6, 7, 8, 11], [0, 1, 2, 3, 4, 5, 6, 7, 8], [0, 1, 2, 3, 4, 5, 6, 7, 8, 13], [0, 1, 2, 3, 4, 5, 6, 7, 8], [0, 1, 2, 3, 4, 5, 6, 7, 8, 15], [0, 1, 2, 3, 4, 5, 6, 7, 8], [0, 1, 2, 3, 4, 5, 6, 7, 8, 17], [0, 1, 2, 3, 4, 5, 6, 7, 8, 9, 10, 11, 12, 13, 14, 15, 16, 17, 18], [0, 1, 2, 3, 4, 5, 6, 7, 8], [0, 1, 2, 3, 4, 5, 6, 7, 8, 20], [0, 1, 2, 3, 4, 5, 6, 7, 8], [0, 1, 2, 3, 4, 5, 6, 7, 8, 22], [0, 1, 2, 3, 4, 5, 6, 7, 8], [0, 1, 2, 3, 4, 5, 6, 7, 8, 24], [0, 1, 2, 3, 4, 5, 6, 7, 8], [0, 1, 2, 3, 4, 5, 6, 7, 8, 26], [0, 1, 2, 3, 4, 5, 6, 7, 8], [0, 1, 2, 3, 4, 5, 6, 7, 8, 28], [0, 1, 2, 3, 4, 5, 6, 7, 8, 9, 10, 11, 12, 13, 14, 15, 16, 17, 18, 19, 20, 21, 22, 23, 24, 25, 26, 27, 28, 29], [0, 1, 2, 3, 4, 5, 6, 7, 8, 9, 10, 11, 12, 13, 14, 15, 16, 17, 18, 19, 20, 21, 22, 23, 24, 25, 26, 27, 28, 29, 30], [0, 1, 2, 3, 4, 5, 6, 7, 8, 9, 10, 11, 12, 13, 14, 15, 16, 17, 18, 19, 20, 21, 22, 23, 24, 25, 26, 27, 28, 29, 30, 31], [0, 1, 2, 3, 4, 5, 6, 7, 8, 9, 10, 11, 12, 13, 14, 15, 16, 17, 18, 19, 20, 21, 22, 23, 24, 25, 26, 27, 28, 29, 30, 31, 32]] 34 0 rfl rfl ?_ ?_
    · refine QChain.run rfl (.plain rfl) rfl (q_move rfl rfl) ?_
      refine QChain.run rfl (.plain rfl) rfl (q_move rfl rfl) ?_
      refine QChain.run rfl (.plain rfl) rfl (q_eql rfl rfl rfl) ?_
      refine QChain.run rfl (.plain rfl) rfl (q_move rfl rfl) ?_
      refine QChain.run rfl (.guard 3 42 true rfl rfl (gT g10)) rfl (q_move rfl rfl) ?_
      refine QChain.run rfl (.guard 3 42 true rfl rfl (gT g10)) rfl (q_move rfl rfl) ?_
      refine QChain.run rfl (.guard 3 42 true rfl rfl (gT g10)) rfl (q_eqlB rfl rfl rfl un4) ?_
      refine QChain.run rfl (.plain rfl) rfl (q_pick_t rfl rfl g10 rfl) ?_
      refine QChain.run rfl (.plain rfl) rfl (q_move rfl rfl) ?_
      refine QChain.skip rfl ⟨8, 47, true, rfl, rfl, (.inl (gF g11))⟩ rfl ?_
      refine QChain.skip rfl ⟨8, 47, true, rfl, rfl, (.inl (gF g11))⟩ rfl ?_
      refine QChain.skip rfl ⟨8, 47, true, rfl, rfl, (.inl (gF g11))⟩ rfl ?_
      refine QChain.skip rfl ⟨8, 47, true, rfl, rfl, (.inl (gF g11))⟩ rfl ?_
      refine QChain.skip rfl ⟨8, 47, true, rfl, rfl, (.inl (gF g11))⟩ rfl ?_
      refine QChain.skip rfl ⟨8, 47, true, rfl, rfl, (.inl (gF g11))⟩ rfl ?_
      refine QChain.skip rfl ⟨8, 47, true, rfl, rfl, (.inl (gF g11))⟩ rfl ?_
      refine QChain.skip rfl ⟨8, 47, true, rfl, rfl, (.inl (gF g11))⟩ rfl ?_
      refine QChain.skip rfl ⟨8, 47, true, rfl, rfl, (.inl (gF g11))⟩ rfl ?_
      refine QChain.skip rfl ⟨8, 47, true, rfl, rfl, (.inl (gF g11))⟩ rfl ?_
      refine QChain.skip rfl ⟨8, 47, true, rfl, rfl, (.inl (gF g11))⟩ rfl ?_
      refine QChain.skip rfl ⟨8, 47, true, rfl, rfl, (.inl (gF g11))⟩ rfl ?_
      refine QChain.skip rfl ⟨8, 47, true, rfl, rfl, (.inl (gF g11))⟩ rfl ?_
      refine QChain.skip rfl ⟨8, 47, true, rfl, rfl, (.inl (gF g11))⟩ rfl ?_
      refine QChain.skip rfl ⟨8, 47, true, rfl, rfl, (.inl (gF g11))⟩ rfl ?_
      refine QChain.skip rfl ⟨8, 47, true, rfl, rfl, (.inl (gF g11))⟩ rfl ?_
      refine QChain.skip rfl ⟨8, 47, true, rfl, rfl, (.inl (gF g11))⟩ rfl ?_
      refine QChain.skip rfl ⟨8, 47, true, rfl, rfl, (.inl (gF g11))⟩ rfl ?_
      refine QChain.skip rfl ⟨8, 47, true, rfl, rfl, (.inl (gF g11))⟩ rfl ?_
      refine QChain.skip rfl ⟨8, 47, true, rfl, rfl, (.inl (gF g11))⟩ rfl ?_
      refine QChain.skip rfl ⟨8, 47, true, rfl, rfl, (.inl (gF g11))⟩ rfl ?_
      refine QChain.skip rfl ⟨8, 47, true, rfl, rfl, (.inl (gF g11))⟩ rfl ?_
      refine QChain.skip rfl ⟨8, 47, true, rfl, rfl, (.inl (gF g11))⟩ rfl ?_
      refine QChain.run rfl (.plain rfl) rfl (q_pick_f rfl rfl g11 rfl) ?_
      refine QChain.run rfl (.plain rfl) rfl (q_assign rfl rfl) ?_
      exact QChain.nil _ _
    refine (show SOps _ _ _ [] _ _ from ?_)
    refine SOps.sub (st' := ⟨[(2, .c (.bool false))], []⟩) (sub_gen [] rfl rfl ⟨zc rfl rfl, trivial⟩ trivial) ?_
    refine SOps.nil ?_
    refine SCode.ret ?_
    obtain rfl := Option.some.inj h
    exact ⟨⟨[(2, .c (.bool false))], []⟩, _, sub_gen [] rfl rfl ⟨zc rfl rfl, trivial⟩ trivial, resA1 (v := .c (.bool false)) rfl rfl, rfl⟩
  refine SCode.draw (s' := [(2, .c (.bool false)), (71, .c (.bool false)), (70, .c (.raw (.tuple #[]))), (69, .c (.raw (.tuple #[]))), (68, .c (.raw (.tuple #[]))), (67, .c (.raw (.tuple #[]))), (66, .c (.raw (.tuple #[]))), (65, .c (.raw (.tuple #[]))), (64, .c (.raw (.tuple #[]))), (63, .c (.raw (.tuple #[]))), (62, .c (.raw (.tuple #[]))), (61, .c (.raw (.tuple #[]))), (60, .c (.raw (.tuple #[]))), (59, .c (.raw (.tuple #[]))), (58, .c (.raw (.tuple #[]))), (57, .c (.raw (.tuple #[]))), (56, .c (.raw (.tuple #[]))), (55, .c (.raw (.tuple #[]))), (54, .c (.raw (.tuple #[]))), (53, .c (.raw (.tuple #[]))), (52, .c (.raw (.tuple #[]))), (51, .c (.raw (.tuple #[]))), (50, .c (.raw (.tuple #[]))), (49, .c (.raw (.tuple #[]))), (48, .c (.raw (.tuple #[]))), (47, .c (.bool false)), (46, .c (.bool false)), (45, .c (.raw (.tuple #[]))), (44, .c (.raw (.tuple #[]))), (43, .c (.raw (.tuple #[]))), (42, .c (.bool (decide (c_6.1 = c_8.1)))), (41, .c (.bool (decide (c_6.1 = c_8.1)))), (40, .c (.int .i64 c_8.1)), (39, .c (.int .i64 c_6.1)), (1, .c (.ptr 0 0)), (3, .c (.int .i64 c_6.1)), (4, .c (.bool c_6.2)), (5, .c (.int .i64 c_8.1)), (6, .c (.bool c_8.2))]) mixed [[], [], [0, 1], [0, 1, 2], [0, 1, 2, 3], [0, 1, 2, 3], [0, 1, 2, 3, 4, 5], [0, 1, 2, 3, 4, 5, 6], [0, 1, 2, 3, 4, 5, 6, 7], [0, 1, 2, 3, 4, 5, 6, 7, 8], [0, 1, 2, 3, 4, 5, 6, 7, 8, 9], [0, 1, 2, 3, 4, 5, 6, 7, 8], [0, 1, 2, 3, 4, 5, 6, 7, 8, 11], [0, 1, 2, 3, 4, 5, 6, 7, 8], [0, 1, 2, 3, 4, 5, 6, 7, 8, 13], [0, 1, 2, 3, 4, 5, 6, 7, 8], [0, 1, 2, 3, 4, 5, 6, 7, 8, 15], [0, 1, 2, 3, 4, 5, 6, 7, 8], [0, 1, 2, 3, 4, 5, 6, 7, 8, 17], [0, 1, 2, 3, 4, 5, 6, 7, 8, 9, 10, 11, 12, 13, 14, 15, 16, 17, 18], [0, 1, 2, 3, 4, 5, 6, 7, 8], [0, 1, 2, 3, 4, 5, 6, 7, 8, 20], [0, 1, 2, 3, 4, 5, 6, 7, 8], [0, 1, 2, 3, 4, 5, 6, 7, 8, 22], [0, 1, 2, 3, 4, 5, 6, 7, 8], [0, 1, 2, 3, 4, 5, 6, 7, 8, 24], [0, 1, 2, 3, 4, 5, 6, 7, 8], [0, 1, 2, 3, 4, 5, 6, 7, 8, 26], [0, 1, 2, 3, 4, 5, 6, 7, 8], [0, 1, 2, 3, 4, 5, 6, 7, 8, 28], [0, 1, 2, 3, 4, 5, 6, 7, 8, 9, 10, 11, 12, 13, 14, 15, 16, 17, 18, 19, 20, 21, 22, 23, 24, 25, 26, 27, 28, 29], [0, 1, 2, 3, 4, 5, 6, 7, 8, 9, 10, 11, 12, 13, 14, 15, 16, 17, 18, 19, 20, 21, 22, 23, 24, 25, 26, 27, 28, 29, 30], [0, 1, 2, 3, 4, 5, 6, 7, 8, 9, 10, 11, 12, 13, 14, 15, 16, 17, 18, 19, 20, 21, 22, 23, 24, 25, 26, 27, 28, 29, 30, 31], [0, 1, 2, 3, 4, 5, 6, 7, 8, 9, 10, 11, 12, 13, 14, 15, 16, 17, 18, 19, 20, 21, 22, 23, 24, 25, 26, 27, 28, 29, 30, 31, 32]] 34 0 rfl rfl ?_ ?_
  · refine QChain.run rfl (.plain rfl) rfl (q_move rfl rfl) ?_
    refine QChain.run rfl (.plain rfl) rfl (q_move rfl rfl) ?_
    refine QChain.run rfl (.plain rfl) rfl (q_eql rfl rfl rfl) ?_
    refine QChain.run rfl (.plain rfl) rfl (q_move rfl rfl) ?_
    refine QChain.skip rfl ⟨3, 42, true, rfl, rfl, (.inl (gF g10))⟩ rfl ?_
    refine QChain.skip rfl ⟨3, 42, true, rfl, rfl, (.inl (gF g10))⟩ rfl ?_
    refine QChain.skip rfl ⟨3, 42, true, rfl, rfl, (.inl (gF g10))⟩ rfl ?_
    refine QChain.run rfl (.plain rfl) rfl (q_pick_f rfl rfl g10 rfl) ?_
    refine QChain.run rfl (.plain rfl) rfl (q_move rfl rfl) ?_
    refine QChain.skip rfl ⟨8, 47, true, rfl, rfl, (.inl rfl)⟩ rfl ?_
    refine QChain.skip rfl ⟨8, 47, true, rfl, rfl, (.inl rfl)⟩ rfl ?_
    refine QChain.skip rfl ⟨8, 47, true, rfl, rfl, (.inl rfl)⟩ rfl ?_
    refine QChain.skip rfl ⟨8, 47, true, rfl, rfl, (.inl rfl)⟩ rfl ?_
    refine QChain.skip rfl ⟨8, 47, true, rfl, rfl, (.inl rfl)⟩ rfl ?_
    refine QChain.skip rfl ⟨8, 47, true, rfl, rfl, (.inl rfl)⟩ rfl ?_
    refine QChain.skip rfl ⟨8, 47, true, rfl, rfl, (.inl rfl)⟩ rfl ?_
    refine QChain.skip rfl ⟨8, 47, true, rfl, rfl, (.inl rfl)⟩ rfl ?_
    refine QChain.skip rfl ⟨8, 47, true, rfl, rfl, (.inl rfl)⟩ rfl ?_
    refine QChain.skip rfl ⟨8, 47, true, rfl, rfl, (.inl rfl)⟩ rfl ?_
    refine QChain.skip rfl ⟨8, 47, true, rfl, rfl, (.inl rfl)⟩ rfl ?_
    refine QChain.skip rfl ⟨8, 47, true, rfl, rfl, (.inl rfl)⟩ rfl ?_
    refine QChain.skip rfl ⟨8, 47, true, rfl, rfl, (.inl rfl)⟩ rfl ?_
    refine QChain.skip rfl ⟨8, 47, true, rfl, rfl, (.inl rfl)⟩ rfl ?_
    refine QChain.skip rfl ⟨8, 47, true, rfl, rfl, (.inl rfl)⟩ rfl ?_
    refine QChain.skip rfl ⟨8, 47, true, rfl, rfl, (.inl rfl)⟩ rfl ?_
    refine QChain.skip rfl ⟨8, 47, true, rfl, rfl, (.inl rfl)⟩ rfl ?_
    refine QChain.skip rfl ⟨8, 47, true, rfl, rfl, (.inl rfl)⟩ rfl ?_
    refine QChain.skip rfl ⟨8, 47, true, rfl, rfl, (.inl rfl)⟩ rfl ?_
    refine QChain.skip rfl ⟨8, 47, true, rfl, rfl, (.inl rfl)⟩ rfl ?_
    refine QChain.skip rfl ⟨8, 47, true, rfl, rfl, (.inl rfl)⟩ rfl ?_
    refine QChain.skip rfl ⟨8, 47, true, rfl, rfl, (.inl rfl)⟩ rfl ?_
    refine QChain.skip rfl ⟨8, 47, true, rfl, rfl, (.inl rfl)⟩ rfl ?_
    refine QChain.run rfl (.plain rfl) rfl (q_pick_f rfl rfl rfl rfl) ?_
    refine QChain.run rfl (.plain rfl) rfl (q_assign rfl rfl) ?_
    exact QChain.nil _ _
  refine (show SOps _ _ _ [] _ _ from ?_)
  refine SOps.sub (st' := ⟨[(2, .c (.bool false))], []⟩) (sub_gen [] rfl rfl ⟨zc rfl rfl, trivial⟩ trivial) ?_
  refine SOps.nil ?_
  refine SCode.ret ?_
  obtain rfl := Option.some.inj h
  exact ⟨⟨[(2, .c (.bool false))], []⟩, _, sub_gen [] rfl rfl ⟨zc rfl rfl, trivial⟩ trivial, resA1 (v := .c (.bool false)) rfl rfl, rfl⟩
end Go.Proofs.Ytjpooimkhkhgkaa.W
