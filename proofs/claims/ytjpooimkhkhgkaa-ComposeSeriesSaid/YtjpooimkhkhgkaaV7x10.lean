/- Written by a program of ours (wip/eng/gen.py): the functions compute their models. -/
import Derived.Test.YtjpooimkhkhgkaaFacts
import Derived.Test.YtjpooimkhkhgkaaV7x9
namespace Go.Proofs.Ytjpooimkhkhgkaa.W
open Go Go.Proofs Go.Proofs.Ytjpooimkhkhgkaa.E Go.Proofs.Ytjpooimkhkhgkaa.M
set_option linter.unusedVariables false
set_option maxRecDepth 100000 in
set_option maxHeartbeats 8000000 in
theorem chargenetref16_leading_ok (F : Nat) (a0_l : List SProfile) (a1_purpose : Int) (a2_conn : Int) (a3_txn : ByteArray) (a4_start : Int) (a5_t : Int) (r : SProfile × Int × Bool) (h : chargenetref16_leading F a0_l a1_purpose a2_conn a3_txn a4_start a5_t = some r) :
    SFun Try.prog 36 [] [.c (.vec a0_l.length 11 (gL cSProfile dSProfile a0_l)), .c (.int .i64 a1_purpose), .c (.int .i64 a2_conn), .c (.str a3_txn), .c (.int .i64 a4_start), .c (.int .i64 a5_t)] (fun x _ => x = .t [.a [.int .i64 r.1.ID, .int .i64 r.1.Level, .int .i64 r.1.Purpose, .int .i64 r.1.Kind, .int .i64 r.1.Conn, .str r.1.Txn, .int .i64 r.1.Span_From, .int .i64 r.1.Span_To, .int .i64 r.1.Start, .int .i64 r.1.Duration, .vec r.1.Periods.length 2 (gL cSPeriod dSPeriod r.1.Periods)], .c (.int .i64 r.2.1), .c (.bool r.2.2)]) := by
  refine SFun.of (n := 77) Try.func36 rfl rfl rfl ?_
  unfold chargenetref16_leading at h
  show SCode _ _ _ ⟨[(0, .c (.vec a0_l.length 11 (gL cSProfile dSProfile a0_l))), (1, .c (.int .i64 a1_purpose)), (2, .c (.int .i64 a2_conn)), (3, .c (.str a3_txn)), (4, .c (.int .i64 a4_start)), (5, .c (.int .i64 a5_t))], []⟩ _
  refine SCode.seq ?_
  refine SCode.region (show SOps _ _ _ [0, 1, 2] _ _ from ?_)
  refine SOps.e rfl (.plain rfl) (e_alloc rfl rfl rfl z31) ?_
  refine SOps.q rfl (.plain rfl) rfl (q_assign rfl rfl) ?_
  refine SOps.q rfl (.plain rfl) rfl (q_assign rfl rfl) ?_
  refine SOps.sub (st' := ⟨[(0, .c (.vec a0_l.length 11 (gL cSProfile dSProfile a0_l))), (1, .c (.int .i64 a1_purpose)), (2, .c (.int .i64 a2_conn)), (3, .c (.str a3_txn)), (4, .c (.int .i64 a4_start)), (5, .c (.int .i64 a5_t)), (12, .c (.ptr 0 0))], [.box [.int .i64 0, .int .i64 0, .int .i64 0, .int .i64 0, .int .i64 0, .str ByteArray.empty, .int .i64 0, .int .i64 0, .int .i64 0, .int .i64 0, .raw (.slice none 0 0)]]⟩) (sub_gen [0] rfl rfl ⟨zc rfl rfl, zc rfl rfl, zc rfl rfl, zc rfl rfl, zc rfl rfl, zc rfl rfl, zc rfl rfl, trivial⟩ ⟨⟨_, rfl, ⟨ii rfl rfl, ii rfl rfl, ii rfl rfl, ii rfl rfl, ii rfl rfl, ii rfl rfl, ii rfl rfl, ii rfl rfl, ii rfl rfl, ii rfl rfl, ii rfl rfl, trivial⟩⟩, trivial⟩) ?_
  refine SOps.nil ?_
  refine SCode.seq ?_
  refine SCode.region (show SOps _ _ _ [0] _ _ from ?_)
  refine SOps.e rfl (.plain rfl) (e_alloc rfl rfl rfl z31) ?_
  refine SOps.sub (st' := ⟨[(0, .c (.vec a0_l.length 11 (gL cSProfile dSProfile a0_l))), (1, .c (.int .i64 a1_purpose)), (2, .c (.int .i64 a2_conn)), (3, .c (.str a3_txn)), (4, .c (.int .i64 a4_start)), (5, .c (.int .i64 a5_t)), (12, .c (.ptr 0 0)), (15, .c (.ptr 1 0))], [.box [.int .i64 0, .int .i64 0, .int .i64 0, .int .i64 0, .int .i64 0, .str ByteArray.empty, .int .i64 0, .int .i64 0, .int .i64 0, .int .i64 0, .raw (.slice none 0 0)], .box [.int .i64 0, .int .i64 0, .int .i64 0, .int .i64 0, .int .i64 0, .str ByteArray.empty, .int .i64 0, .int .i64 0, .int .i64 0, .int .i64 0, .raw (.slice none 0 0)]]⟩) (sub_gen [0, 1] rfl rfl ⟨zc rfl rfl, zc rfl rfl, zc rfl rfl, zc rfl rfl, zc rfl rfl, zc rfl rfl, zc rfl rfl, zc rfl rfl, trivial⟩ ⟨⟨_, rfl, ⟨ii rfl rfl, ii rfl rfl, ii rfl rfl, ii rfl rfl, ii rfl rfl, ii rfl rfl, ii rfl rfl, ii rfl rfl, ii rfl rfl, ii rfl rfl, ii rfl rfl, trivial⟩⟩, ⟨_, rfl, ⟨ii rfl rfl, ii rfl rfl, ii rfl rfl, ii rfl rfl, ii rfl rfl, ii rfl rfl, ii rfl rfl, ii rfl rfl, ii rfl rfl, ii rfl rfl, ii rfl rfl, trivial⟩⟩, trivial⟩) ?_
  refine SOps.nil ?_
  refine SCode.seq ?_
  refine SCode.region (show SOps _ _ _ [0, 1] _ _ from ?_)
  refine SOps.q rfl (.plain rfl) rfl (q_assign rfl rfl) ?_
  refine SOps.q rfl (.plain rfl) rfl (q_assign rfl rfl) ?_
  refine SOps.sub (st' := ⟨[(0, .c (.vec a0_l.length 11 (gL cSProfile dSProfile a0_l))), (1, .c (.int .i64 a1_purpose)), (2, .c (.int .i64 a2_conn)), (3, .c (.str a3_txn)), (4, .c (.int .i64 a4_start)), (5, .c (.int .i64 a5_t)), (12, .c (.ptr 0 0)), (15, .c (.ptr 1 0)), (16, .c (.int .i64 0)), (17, .c (.bool false))], [.box [.int .i64 0, .int .i64 0, .int .i64 0, .int .i64 0, .int .i64 0, .str ByteArray.empty, .int .i64 0, .int .i64 0, .int .i64 0, .int .i64 0, .raw (.slice none 0 0)], .box [.int .i64 0, .int .i64 0, .int .i64 0, .int .i64 0, .int .i64 0, .str ByteArray.empty, .int .i64 0, .int .i64 0, .int .i64 0, .int .i64 0, .raw (.slice none 0 0)]]⟩) (sub_gen [0, 1] rfl rfl ⟨zc rfl rfl, zc rfl rfl, zc rfl rfl, zc rfl rfl, zc rfl rfl, zc rfl rfl, zc rfl rfl, zc rfl rfl, zc rfl rfl, zc rfl rfl, trivial⟩ ⟨⟨_, rfl, ⟨ii rfl rfl, ii rfl rfl, ii rfl rfl, ii rfl rfl, ii rfl rfl, ii rfl rfl, ii rfl rfl, ii rfl rfl, ii rfl rfl, ii rfl rfl, ii rfl rfl, trivial⟩⟩, ⟨_, rfl, ⟨ii rfl rfl, ii rfl rfl, ii rfl rfl, ii rfl rfl, ii rfl rfl, ii rfl rfl, ii rfl rfl, ii rfl rfl, ii rfl rfl, ii rfl rfl, ii rfl rfl, trivial⟩⟩, trivial⟩) ?_
  refine SOps.nil ?_
  refine SCode.join (σ := Int × Bool × Int × Int × Int × Int × Int × ByteArray × Int × Int × Int × Int × (List SPeriod)) (S := fun s => ⟨[(12, .c (.ptr 0 0)), (15, .c (.ptr 1 0)), (16, .c (.int .i64 s.1)), (17, .c (.bool s.2.1))], [.box [.int .i64 0, .int .i64 0, .int .i64 0, .int .i64 0, .int .i64 0, .str ByteArray.empty, .int .i64 0, .int .i64 0, .int .i64 0, .int .i64 0, .raw (.slice none 0 0)], .box [.int .i64 s.2.2.1, .int .i64 s.2.2.2.1, .int .i64 s.2.2.2.2.1, .int .i64 s.2.2.2.2.2.1, .int .i64 s.2.2.2.2.2.2.1, .str s.2.2.2.2.2.2.2.1, .int .i64 s.2.2.2.2.2.2.2.2.1, .int .i64 s.2.2.2.2.2.2.2.2.2.1, .int .i64 s.2.2.2.2.2.2.2.2.2.2.1, .int .i64 s.2.2.2.2.2.2.2.2.2.2.2.1, .vec s.2.2.2.2.2.2.2.2.2.2.2.2.length 2 (gL cSPeriod dSPeriod s.2.2.2.2.2.2.2.2.2.2.2.2)]]⟩) (g := fun s => chargenetref16_leading_p14 s.1 s.2.1 s.2.2.1 s.2.2.2.1 s.2.2.2.2.1 s.2.2.2.2.2.1 s.2.2.2.2.2.2.1 s.2.2.2.2.2.2.2.1 s.2.2.2.2.2.2.2.2.1 s.2.2.2.2.2.2.2.2.2.1 s.2.2.2.2.2.2.2.2.2.2.1 s.2.2.2.2.2.2.2.2.2.2.2.1 s.2.2.2.2.2.2.2.2.2.2.2.2 = some r) ?_ ?_
  rotate_left
  · refine SCode.seq ?_
    refine SCode.region (show SOps _ _ _ [0, 1, 2] _ _ from ?_)
    refine SOps.q rfl (.plain rfl) rfl (q_move rfl rfl) ?_
    refine SOps.q rfl (.plain rfl) rfl (q_len_vec rfl rfl sl22) ?_
    refine SOps.q rfl (.plain rfl) rfl (q_move rfl rfl) ?_
    refine SOps.sub (st' := ⟨[(1, .c (.int .i64 a1_purpose)), (2, .c (.int .i64 a2_conn)), (3, .c (.str a3_txn)), (4, .c (.int .i64 a4_start)), (5, .c (.int .i64 a5_t)), (12, .c (.ptr 0 0)), (15, .c (.ptr 1 0)), (16, .c (.int .i64 0)), (17, .c (.bool false)), (22, .c (.vec a0_l.length 11 (gL cSProfile dSProfile a0_l))), (23, .c (.int .i64 (((a0_l).length : Int)))), (24, .c (.int .i64 0))], [.box [.int .i64 0, .int .i64 0, .int .i64 0, .int .i64 0, .int .i64 0, .str ByteArray.empty, .int .i64 0, .int .i64 0, .int .i64 0, .int .i64 0, .raw (.slice none 0 0)], .box [.int .i64 0, .int .i64 0, .int .i64 0, .int .i64 0, .int .i64 0, .str ByteArray.empty, .int .i64 0, .int .i64 0, .int .i64 0, .int .i64 0, .raw (.slice none 0 0)]]⟩) (sub_gen [0, 1] rfl rfl ⟨zc rfl rfl, zc rfl rfl, zc rfl rfl, zc rfl rfl, zc rfl rfl, zc rfl rfl, zc rfl rfl, zc rfl rfl, zc rfl rfl, zc rfl rfl, zc rfl rfl, zc rfl rfl, trivial⟩ ⟨⟨_, rfl, ⟨ii rfl rfl, ii rfl rfl, ii rfl rfl, ii rfl rfl, ii rfl rfl, ii rfl rfl, ii rfl rfl, ii rfl rfl, ii rfl rfl, ii rfl rfl, ii rfl rfl, trivial⟩⟩, ⟨_, rfl, ⟨ii rfl rfl, ii rfl rfl, ii rfl rfl, ii rfl rfl, ii rfl rfl, ii rfl rfl, ii rfl rfl, ii rfl rfl, ii rfl rfl, ii rfl rfl, ii rfl rfl, trivial⟩⟩, trivial⟩) ?_
    refine SOps.nil ?_
    refine SCode.block ?_
    refine SCode.sub (st' := ⟨[(1, .c (.int .i64 a1_purpose)), (2, .c (.int .i64 a2_conn)), (3, .c (.str a3_txn)), (4, .c (.int .i64 a4_start)), (5, .c (.int .i64 a5_t)), (12, .c (.ptr 0 0)), (15, .c (.ptr 1 0)), (16, .c (.int .i64 0)), (17, .c (.bool false)), (22, .c (.vec a0_l.length 11 (gL cSProfile dSProfile a0_l))), (23, .c (.int .i64 (((a0_l).length : Int)))), (24, .c (.int .i64 0))], [.box [.int .i64 0, .int .i64 0, .int .i64 0, .int .i64 0, .int .i64 0, .str ByteArray.empty, .int .i64 0, .int .i64 0, .int .i64 0, .int .i64 0, .raw (.slice none 0 0)], .box [.int .i64 0, .int .i64 0, .int .i64 0, .int .i64 0, .int .i64 0, .str ByteArray.empty, .int .i64 0, .int .i64 0, .int .i64 0, .int .i64 0, .vec ([] : List SPeriod).length 2 (gL cSPeriod dSPeriod ([] : List SPeriod))]]⟩) (sub_gen [0, 1] rfl rfl ⟨zc rfl rfl, zc rfl rfl, zc rfl rfl, zc rfl rfl, zc rfl rfl, zc rfl rfl, zc rfl rfl, zc rfl rfl, zc rfl rfl, zc rfl rfl, zc rfl rfl, zc rfl rfl, trivial⟩ ⟨⟨_, rfl, ⟨ii rfl rfl, ii rfl rfl, ii rfl rfl, ii rfl rfl, ii rfl rfl, ii rfl rfl, ii rfl rfl, ii rfl rfl, ii rfl rfl, ii rfl rfl, ii rfl rfl, trivial⟩⟩, ⟨_, rfl, ⟨ii rfl rfl, ii rfl rfl, ii rfl rfl, ii rfl rfl, ii rfl rfl, ii rfl rfl, ii rfl rfl, ii rfl rfl, ii rfl rfl, ii rfl rfl, .inr (.inr (.inr (.inl ⟨_, _, rfl, rfl⟩))), trivial⟩⟩, trivial⟩) ?_
    refine (SCode.loop (σ := Nat × (Int × Bool × Int × Int × Int × Int × Int × Int × ByteArray × Int × Int × Int × Int × (List SPeriod))) (S := fun s => ⟨[(1, .c (.int .i64 a1_purpose)), (2, .c (.int .i64 a2_conn)), (3, .c (.str a3_txn)), (4, .c (.int .i64 a4_start)), (5, .c (.int .i64 a5_t)), (12, .c (.ptr 0 0)), (15, .c (.ptr 1 0)), (16, .c (.int .i64 s.2.1)), (17, .c (.bool s.2.2.1)), (22, .c (.vec a0_l.length 11 (gL cSProfile dSProfile a0_l))), (23, .c (.int .i64 (((a0_l).length : Int)))), (24, .c (.int .i64 s.2.2.2.1))], [.box [.int .i64 0, .int .i64 0, .int .i64 0, .int .i64 0, .int .i64 0, .str ByteArray.empty, .int .i64 0, .int .i64 0, .int .i64 0, .int .i64 0, .raw (.slice none 0 0)], .box [.int .i64 s.2.2.2.2.1, .int .i64 s.2.2.2.2.2.1, .int .i64 s.2.2.2.2.2.2.1, .int .i64 s.2.2.2.2.2.2.2.1, .int .i64 s.2.2.2.2.2.2.2.2.1, .str s.2.2.2.2.2.2.2.2.2.1, .int .i64 s.2.2.2.2.2.2.2.2.2.2.1, .int .i64 s.2.2.2.2.2.2.2.2.2.2.2.1, .int .i64 s.2.2.2.2.2.2.2.2.2.2.2.2.1, .int .i64 s.2.2.2.2.2.2.2.2.2.2.2.2.2.1, .vec s.2.2.2.2.2.2.2.2.2.2.2.2.2.2.length 2 (gL cSPeriod dSPeriod s.2.2.2.2.2.2.2.2.2.2.2.2.2.2)]]⟩) (g := fun s => chargenetref16_leading_l79 F a0_l a1_purpose a2_conn a3_txn a4_start a5_t s.1 s.2.1 s.2.2.1 s.2.2.2.1 s.2.2.2.2.1 s.2.2.2.2.2.1 s.2.2.2.2.2.2.1 s.2.2.2.2.2.2.2.1 s.2.2.2.2.2.2.2.2.1 s.2.2.2.2.2.2.2.2.2.1 s.2.2.2.2.2.2.2.2.2.2.1 s.2.2.2.2.2.2.2.2.2.2.2.1 s.2.2.2.2.2.2.2.2.2.2.2.2.1 s.2.2.2.2.2.2.2.2.2.2.2.2.2.1 s.2.2.2.2.2.2.2.2.2.2.2.2.2.2 = some r) (μ := fun s => s.1) (F, (0, false, 0, 0, 0, 0, 0, 0, ByteArray.empty, 0, 0, 0, 0, [])) h ?_)
    rintro ⟨n_79, ⟨limit_38, found_39, t24_40, b1_41, b1_42, b1_43, b1_44, b1_45, b1_46, b1_47, b1_48, b1_49, b1_50, b1_51⟩⟩ h
    replace h : chargenetref16_leading_l79 F a0_l a1_purpose a2_conn a3_txn a4_start a5_t n_79 limit_38 found_39 t24_40 b1_41 b1_42 b1_43 b1_44 b1_45 b1_46 b1_47 b1_48 b1_49 b1_50 b1_51 = some r := h
    show SCode _ _ _ ⟨[(1, .c (.int .i64 a1_purpose)), (2, .c (.int .i64 a2_conn)), (3, .c (.str a3_txn)), (4, .c (.int .i64 a4_start)), (5, .c (.int .i64 a5_t)), (12, .c (.ptr 0 0)), (15, .c (.ptr 1 0)), (16, .c (.int .i64 limit_38)), (17, .c (.bool found_39)), (22, .c (.vec a0_l.length 11 (gL cSProfile dSProfile a0_l))), (23, .c (.int .i64 (((a0_l).length : Int)))), (24, .c (.int .i64 t24_40))], [.box [.int .i64 0, .int .i64 0, .int .i64 0, .int .i64 0, .int .i64 0, .str ByteArray.empty, .int .i64 0, .int .i64 0, .int .i64 0, .int .i64 0, .raw (.slice none 0 0)], .box [.int .i64 b1_41, .int .i64 b1_42, .int .i64 b1_43, .int .i64 b1_44, .int .i64 b1_45, .str b1_46, .int .i64 b1_47, .int .i64 b1_48, .int .i64 b1_49, .int .i64 b1_50, .vec b1_51.length 2 (gL cSPeriod dSPeriod b1_51)]]⟩ _
    cases n_79 with
    | zero => cases h
    | succ n_79 =>
      replace h : chargenetref16_leading_b79 F a0_l a1_purpose a2_conn a3_txn a4_start a5_t (fun limit_38 found_39 t24_40 b1_41 b1_42 b1_43 b1_44 b1_45 b1_46 b1_47 b1_48 b1_49 b1_50 b1_51 => chargenetref16_leading_l79 F a0_l a1_purpose a2_conn a3_txn a4_start a5_t n_79 limit_38 found_39 t24_40 b1_41 b1_42 b1_43 b1_44 b1_45 b1_46 b1_47 b1_48 b1_49 b1_50 b1_51) limit_38 found_39 t24_40 b1_41 b1_42 b1_43 b1_44 b1_45 b1_46 b1_47 b1_48 b1_49 b1_50 b1_51 = some r := h
      unfold chargenetref16_leading_b79 at h
      refine SCode.seq ?_
      refine SCode.region (show SOps _ _ _ [0] _ _ from ?_)
      refine SOps.q rfl (.plain rfl) rfl (q_lss rfl rfl rfl) ?_
      refine SOps.sub (st' := ⟨[(1, .c (.int .i64 a1_purpose)), (2, .c (.int .i64 a2_conn)), (3, .c (.str a3_txn)), (4, .c (.int .i64 a4_start)), (5, .c (.int .i64 a5_t)), (12, .c (.ptr 0 0)), (15, .c (.ptr 1 0)), (16, .c (.int .i64 limit_38)), (17, .c (.bool found_39)), (22, .c (.vec a0_l.length 11 (gL cSProfile dSProfile a0_l))), (23, .c (.int .i64 (((a0_l).length : Int)))), (24, .c (.int .i64 t24_40)), (25, .c (.bool (decide (t24_40 < ((a0_l).length : Int)))))], [.box [.int .i64 0, .int .i64 0, .int .i64 0, .int .i64 0, .int .i64 0, .str ByteArray.empty, .int .i64 0, .int .i64 0, .int .i64 0, .int .i64 0, .raw (.slice none 0 0)], .box [.int .i64 b1_41, .int .i64 b1_42, .int .i64 b1_43, .int .i64 b1_44, .int .i64 b1_45, .str b1_46, .int .i64 b1_47, .int .i64 b1_48, .int .i64 b1_49, .int .i64 b1_50, .vec b1_51.length 2 (gL cSPeriod dSPeriod b1_51)]]⟩) (sub_gen [0, 1] rfl rfl ⟨zc rfl rfl, zc rfl rfl, zc rfl rfl, zc rfl rfl, zc rfl rfl, zc rfl rfl, zc rfl rfl, zc rfl rfl, zc rfl rfl, zc rfl rfl, zc rfl rfl, zc rfl rfl, zc rfl rfl, trivial⟩ ⟨⟨_, rfl, ⟨ii rfl rfl, ii rfl rfl, ii rfl rfl, ii rfl rfl, ii rfl rfl, ii rfl rfl, ii rfl rfl, ii rfl rfl, ii rfl rfl, ii rfl rfl, ii rfl rfl, trivial⟩⟩, ⟨_, rfl, ⟨ii rfl rfl, ii rfl rfl, ii rfl rfl, ii rfl rfl, ii rfl rfl, ii rfl rfl, ii rfl rfl, ii rfl rfl, ii rfl rfl, ii rfl rfl, ii rfl rfl, trivial⟩⟩, trivial⟩) ?_
      refine SOps.nil ?_
      refine SCode.seq ?_
      rcases cond_out h with ⟨g80, h⟩ | ⟨g80, h⟩
      · refine SCode.cond_t rfl g80 ?_
        refine SCode.skip ?_
        refine SCode.join (σ := Int × Bool × Int × Int × Int × Int × Int × ByteArray × Int × Int × Int × Int × (List SPeriod)) (S := fun s => ⟨[(1, .c (.int .i64 a1_purpose)), (2, .c (.int .i64 a2_conn)), (3, .c (.str a3_txn)), (4, .c (.int .i64 a4_start)), (5, .c (.int .i64 a5_t)), (12, .c (.ptr 0 0)), (15, .c (.ptr 1 0)), (16, .c (.int .i64 s.1)), (17, .c (.bool s.2.1)), (22, .c (.vec a0_l.length 11 (gL cSProfile dSProfile a0_l))), (23, .c (.int .i64 (((a0_l).length : Int)))), (24, .c (.int .i64 t24_40))], [.box [.int .i64 0, .int .i64 0, .int .i64 0, .int .i64 0, .int .i64 0, .str ByteArray.empty, .int .i64 0, .int .i64 0, .int .i64 0, .int .i64 0, .raw (.slice none 0 0)], .box [.int .i64 s.2.2.1, .int .i64 s.2.2.2.1, .int .i64 s.2.2.2.2.1, .int .i64 s.2.2.2.2.2.1, .int .i64 s.2.2.2.2.2.2.1, .str s.2.2.2.2.2.2.2.1, .int .i64 s.2.2.2.2.2.2.2.2.1, .int .i64 s.2.2.2.2.2.2.2.2.2.1, .int .i64 s.2.2.2.2.2.2.2.2.2.2.1, .int .i64 s.2.2.2.2.2.2.2.2.2.2.2.1, .vec s.2.2.2.2.2.2.2.2.2.2.2.2.length 2 (gL cSPeriod dSPeriod s.2.2.2.2.2.2.2.2.2.2.2.2)]]⟩) (g := fun s => chargenetref16_leading_p94 t24_40 (fun limit_38 found_39 t24_40 b1_41 b1_42 b1_43 b1_44 b1_45 b1_46 b1_47 b1_48 b1_49 b1_50 b1_51 => chargenetref16_leading_l79 F a0_l a1_purpose a2_conn a3_txn a4_start a5_t n_79 limit_38 found_39 t24_40 b1_41 b1_42 b1_43 b1_44 b1_45 b1_46 b1_47 b1_48 b1_49 b1_50 b1_51) s.1 s.2.1 s.2.2.1 s.2.2.2.1 s.2.2.2.2.1 s.2.2.2.2.2.1 s.2.2.2.2.2.2.1 s.2.2.2.2.2.2.2.1 s.2.2.2.2.2.2.2.2.1 s.2.2.2.2.2.2.2.2.2.1 s.2.2.2.2.2.2.2.2.2.2.1 s.2.2.2.2.2.2.2.2.2.2.2.1 s.2.2.2.2.2.2.2.2.2.2.2.2 = some r) ?_ ?_
        rotate_left
        · refine SCode.block ?_
          refine SCode.seq ?_
          obtain ⟨g95, h⟩ := guard_out h
          refine SCode.region (show SOps _ _ _ [0, 1, 2, 3] _ _ from ?_)
          refine SOps.q rfl (.plain rfl) rfl (q_index_vec rfl rfl rfl sl22 rfl g95.1 g95.2) ?_
          refine SOps.q rfl (.plain rfl) rfl (q_load_eptr_all rfl rfl rfl ty31) ?_
          refine SOps.e rfl (.plain rfl) (e_alloc rfl rfl rfl z31) ?_
          refine SOps.e rfl (.plain rfl) (e_store_box rfl rfl rfl rfl rfl ty31 rfl rfl rfl rfl) ?_
          refine SOps.sub (st' := ⟨[(1, .c (.int .i64 a1_purpose)), (2, .c (.int .i64 a2_conn)), (3, .c (.str a3_txn)), (4, .c (.int .i64 a4_start)), (5, .c (.int .i64 a5_t)), (12, .c (.ptr 0 0)), (15, .c (.ptr 1 0)), (16, .c (.int .i64 limit_38)), (17, .c (.bool found_39)), (19, .c (.ptr 2 0)), (22, .c (.vec a0_l.length 11 (gL cSProfile dSProfile a0_l))), (23, .c (.int .i64 (((a0_l).length : Int)))), (24, .c (.int .i64 t24_40))], [.box [.int .i64 0, .int .i64 0, .int .i64 0, .int .i64 0, .int .i64 0, .str ByteArray.empty, .int .i64 0, .int .i64 0, .int .i64 0, .int .i64 0, .raw (.slice none 0 0)], .box [.int .i64 b1_41, .int .i64 b1_42, .int .i64 b1_43, .int .i64 b1_44, .int .i64 b1_45, .str b1_46, .int .i64 b1_47, .int .i64 b1_48, .int .i64 b1_49, .int .i64 b1_50, .vec b1_51.length 2 (gL cSPeriod dSPeriod b1_51)], .box [.int .i64 ((a0_l.getD t24_40.toNat dSProfile).ID), .int .i64 ((a0_l.getD t24_40.toNat dSProfile).Level), .int .i64 ((a0_l.getD t24_40.toNat dSProfile).Purpose), .int .i64 ((a0_l.getD t24_40.toNat dSProfile).Kind), .int .i64 ((a0_l.getD t24_40.toNat dSProfile).Conn), .str ((a0_l.getD t24_40.toNat dSProfile).Txn), .int .i64 ((a0_l.getD t24_40.toNat dSProfile).Span_From), .int .i64 ((a0_l.getD t24_40.toNat dSProfile).Span_To), .int .i64 ((a0_l.getD t24_40.toNat dSProfile).Start), .int .i64 ((a0_l.getD t24_40.toNat dSProfile).Duration), .vec ((a0_l.getD t24_40.toNat dSProfile).Periods).length 2 (gL cSPeriod dSPeriod ((a0_l.getD t24_40.toNat dSProfile).Periods))]]⟩) (sub_gen [0, 1, 2] rfl rfl ⟨zc rfl rfl, zc rfl rfl, zc rfl rfl, zc rfl rfl, zc rfl rfl, zc rfl rfl, zc rfl rfl, zc rfl rfl, zc rfl rfl, zc rfl rfl, zc rfl rfl, zc rfl rfl, zc rfl rfl, trivial⟩ ⟨⟨_, rfl, ⟨ii rfl rfl, ii rfl rfl, ii rfl rfl, ii rfl rfl, ii rfl rfl, ii rfl rfl, ii rfl rfl, ii rfl rfl, ii rfl rfl, ii rfl rfl, ii rfl rfl, trivial⟩⟩, ⟨_, rfl, ⟨ii rfl rfl, ii rfl rfl, ii rfl rfl, ii rfl rfl, ii rfl rfl, ii rfl rfl, ii rfl rfl, ii rfl rfl, ii rfl rfl, ii rfl rfl, ii rfl rfl, trivial⟩⟩, ⟨_, rfl, ⟨ii rfl rfl, ii rfl rfl, ii rfl rfl, ii rfl rfl, ii rfl rfl, ii rfl rfl, ii rfl rfl, ii rfl rfl, ii rfl rfl, ii rfl rfl, ii rfl rfl, trivial⟩⟩, trivial⟩) ?_
          refine SOps.nil ?_
          refine SCode.seq ?_
          refine SCode.seq ?_
          rcases cond_out h with ⟨g96, h⟩ | ⟨g96, h⟩
          · refine SCode.region (show SOps _ _ _ [0, 1, 2, 3, 4, 5, 6, 7, 8, 9, 10] _ _ from ?_)
            refine SOps.q rfl (.plain rfl) rfl (q_field_ptr rfl rfl fd31_2) ?_
            refine SOps.q rfl (.plain rfl) rfl (q_load_ptr rfl rfl rfl rfl ty3) ?_
            refine SOps.q rfl (.plain rfl) rfl (q_move rfl rfl) ?_
            refine SOps.q rfl (.plain rfl) rfl (q_neq rfl rfl rfl) ?_
            refine SOps.q rfl (.plain rfl) rfl (q_move rfl rfl) ?_
            refine SOps.skip rfl 4 32 false rfl rfl (.inl (gT g96)) rfl ?_
            refine SOps.skip rfl 4 32 false rfl rfl (.inl (gT g96)) rfl ?_
            refine SOps.skip rfl 4 32 false rfl rfl (.inl (gT g96)) rfl ?_
            refine SOps.skip rfl 4 32 false rfl rfl (.inl (gT g96)) rfl ?_
            refine SOps.skip rfl 4 32 false rfl rfl (.inl (gT g96)) rfl ?_
            refine SOps.q rfl (.plain rfl) rfl (q_pick_t rfl rfl g96 rfl) ?_
            refine SOps.sub (st' := ⟨[(1, .c (.int .i64 a1_purpose)), (2, .c (.int .i64 a2_conn)), (3, .c (.str a3_txn)), (4, .c (.int .i64 a4_start)), (5, .c (.int .i64 a5_t)), (12, .c (.ptr 0 0)), (15, .c (.ptr 1 0)), (16, .c (.int .i64 limit_38)), (17, .c (.bool found_39)), (19, .c (.ptr 2 0)), (22, .c (.vec a0_l.length 11 (gL cSProfile dSProfile a0_l))), (23, .c (.int .i64 (((a0_l).length : Int)))), (24, .c (.int .i64 t24_40)), (38, .c (.bool true))], [.box [.int .i64 0, .int .i64 0, .int .i64 0, .int .i64 0, .int .i64 0, .str ByteArray.empty, .int .i64 0, .int .i64 0, .int .i64 0, .int .i64 0, .raw (.slice none 0 0)], .box [.int .i64 b1_41, .int .i64 b1_42, .int .i64 b1_43, .int .i64 b1_44, .int .i64 b1_45, .str b1_46, .int .i64 b1_47, .int .i64 b1_48, .int .i64 b1_49, .int .i64 b1_50, .vec b1_51.length 2 (gL cSPeriod dSPeriod b1_51)], .box [.int .i64 ((a0_l.getD t24_40.toNat dSProfile).ID), .int .i64 ((a0_l.getD t24_40.toNat dSProfile).Level), .int .i64 ((a0_l.getD t24_40.toNat dSProfile).Purpose), .int .i64 ((a0_l.getD t24_40.toNat dSProfile).Kind), .int .i64 ((a0_l.getD t24_40.toNat dSProfile).Conn), .str ((a0_l.getD t24_40.toNat dSProfile).Txn), .int .i64 ((a0_l.getD t24_40.toNat dSProfile).Span_From), .int .i64 ((a0_l.getD t24_40.toNat dSProfile).Span_To), .int .i64 ((a0_l.getD t24_40.toNat dSProfile).Start), .int .i64 ((a0_l.getD t24_40.toNat dSProfile).Duration), .vec ((a0_l.getD t24_40.toNat dSProfile).Periods).length 2 (gL cSPeriod dSPeriod ((a0_l.getD t24_40.toNat dSProfile).Periods))]]⟩) (sub_gen [0, 1, 2] rfl rfl ⟨zc rfl rfl, zc rfl rfl, zc rfl rfl, zc rfl rfl, zc rfl rfl, zc rfl rfl, zc rfl rfl, zc rfl rfl, zc rfl rfl, zc rfl rfl, zc rfl rfl, zc rfl rfl, zc rfl rfl, zc rfl rfl, trivial⟩ ⟨⟨_, rfl, ⟨ii rfl rfl, ii rfl rfl, ii rfl rfl, ii rfl rfl, ii rfl rfl, ii rfl rfl, ii rfl rfl, ii rfl rfl, ii rfl rfl, ii rfl rfl, ii rfl rfl, trivial⟩⟩, ⟨_, rfl, ⟨ii rfl rfl, ii rfl rfl, ii rfl rfl, ii rfl rfl, ii rfl rfl, ii rfl rfl, ii rfl rfl, ii rfl rfl, ii rfl rfl, ii rfl rfl, ii rfl rfl, trivial⟩⟩, ⟨_, rfl, ⟨ii rfl rfl, ii rfl rfl, ii rfl rfl, ii rfl rfl, ii rfl rfl, ii rfl rfl, ii rfl rfl, ii rfl rfl, ii rfl rfl, ii rfl rfl, ii rfl rfl, trivial⟩⟩, trivial⟩) ?_
            refine SOps.nil ?_
            refine SCode.cond_t rfl rfl ?_
            refine SCode.exit ?_
            exact ⟨(limit_38, found_39, b1_41, b1_42, b1_43, b1_44, b1_45, b1_46, b1_47, b1_48, b1_49, b1_50, b1_51), h, sub_gen [0, 1] rfl rfl ⟨zc rfl rfl, zc rfl rfl, zc rfl rfl, zc rfl rfl, zc rfl rfl, zc rfl rfl, zc rfl rfl, zc rfl rfl, zc rfl rfl, zc rfl rfl, zc rfl rfl, zc rfl rfl, trivial⟩ ⟨⟨_, rfl, ⟨ii rfl rfl, ii rfl rfl, ii rfl rfl, ii rfl rfl, ii rfl rfl, ii rfl rfl, ii rfl rfl, ii rfl rfl, ii rfl rfl, ii rfl rfl, ii rfl rfl, trivial⟩⟩, ⟨_, rfl, ⟨ii rfl rfl, ii rfl rfl, ii rfl rfl, ii rfl rfl, ii rfl rfl, ii rfl rfl, ii rfl rfl, ii rfl rfl, ii rfl rfl, ii rfl rfl, ii rfl rfl, trivial⟩⟩, trivial⟩⟩
          obtain ⟨c_97, g98, h⟩ := bind_out h
          try dsimp only at h
          refine SCode.region (show SOps _ _ _ [0, 1, 2, 3, 4, 5, 6, 7, 8, 9, 10] _ _ from ?_)
          refine SOps.q rfl (.plain rfl) rfl (q_field_ptr rfl rfl fd31_2) ?_
          refine SOps.q rfl (.plain rfl) rfl (q_load_ptr rfl rfl rfl rfl ty3) ?_
          refine SOps.q rfl (.plain rfl) rfl (q_move rfl rfl) ?_
          refine SOps.q rfl (.plain rfl) rfl (q_neq rfl rfl rfl) ?_
          refine SOps.q rfl (.plain rfl) rfl (q_move rfl rfl) ?_
          refine SOps.q rfl (.guard 4 32 false rfl rfl (gF g96)) rfl (q_load_ptr_all rfl rfl rfl rfl rfl ty31) ?_
          refine SOps.q rfl (.guard 4 32 false rfl rfl (gF g96)) rfl (q_move rfl rfl) ?_
          refine SOps.q rfl (.guard 4 32 false rfl rfl (gF g96)) rfl (q_move rfl rfl) ?_
          refine SOps.q rfl (.guard 4 32 false rfl rfl (gF g96)) rfl (q_call (chargenetref16_candidate_ok F (a0_l.getD t24_40.toNat dSProfile) a2_conn a3_txn c_97 g98) [] rfl fn42 ⟨⟨rfl, rfl⟩, ⟨_, rfl, .inl ⟨rfl, rfl⟩⟩, ⟨_, rfl, .inl ⟨rfl, rfl⟩⟩, trivial⟩ (.inl rfl)) ?_
          refine SOps.q rfl (.guard 4 32 false rfl rfl (gF g96)) rfl (q_not rfl rfl) ?_
          refine SOps.q rfl (.plain rfl) rfl (q_pick_f rfl rfl g96 rfl) ?_
          refine SOps.sub (st' := ⟨[(1, .c (.int .i64 a1_purpose)), (2, .c (.int .i64 a2_conn)), (3, .c (.str a3_txn)), (4, .c (.int .i64 a4_start)), (5, .c (.int .i64 a5_t)), (12, .c (.ptr 0 0)), (15, .c (.ptr 1 0)), (16, .c (.int .i64 limit_38)), (17, .c (.bool found_39)), (19, .c (.ptr 2 0)), (22, .c (.vec a0_l.length 11 (gL cSProfile dSProfile a0_l))), (23, .c (.int .i64 (((a0_l).length : Int)))), (24, .c (.int .i64 t24_40)), (38, .c (.bool ((!c_97))))], [.box [.int .i64 0, .int .i64 0, .int .i64 0, .int .i64 0, .int .i64 0, .str ByteArray.empty, .int .i64 0, .int .i64 0, .int .i64 0, .int .i64 0, .raw (.slice none 0 0)], .box [.int .i64 b1_41, .int .i64 b1_42, .int .i64 b1_43, .int .i64 b1_44, .int .i64 b1_45, .str b1_46, .int .i64 b1_47, .int .i64 b1_48, .int .i64 b1_49, .int .i64 b1_50, .vec b1_51.length 2 (gL cSPeriod dSPeriod b1_51)], .box [.int .i64 ((a0_l.getD t24_40.toNat dSProfile).ID), .int .i64 ((a0_l.getD t24_40.toNat dSProfile).Level), .int .i64 ((a0_l.getD t24_40.toNat dSProfile).Purpose), .int .i64 ((a0_l.getD t24_40.toNat dSProfile).Kind), .int .i64 ((a0_l.getD t24_40.toNat dSProfile).Conn), .str ((a0_l.getD t24_40.toNat dSProfile).Txn), .int .i64 ((a0_l.getD t24_40.toNat dSProfile).Span_From), .int .i64 ((a0_l.getD t24_40.toNat dSProfile).Span_To), .int .i64 ((a0_l.getD t24_40.toNat dSProfile).Start), .int .i64 ((a0_l.getD t24_40.toNat dSProfile).Duration), .vec ((a0_l.getD t24_40.toNat dSProfile).Periods).length 2 (gL cSPeriod dSPeriod ((a0_l.getD t24_40.toNat dSProfile).Periods))]]⟩) (sub_gen [0, 1, 2] rfl rfl ⟨zc rfl rfl, zc rfl rfl, zc rfl rfl, zc rfl rfl, zc rfl rfl, zc rfl rfl, zc rfl rfl, zc rfl rfl, zc rfl rfl, zc rfl rfl, zc rfl rfl, zc rfl rfl, zc rfl rfl, zc rfl rfl, trivial⟩ ⟨⟨_, rfl, ⟨ii rfl rfl, ii rfl rfl, ii rfl rfl, ii rfl rfl, ii rfl rfl, ii rfl rfl, ii rfl rfl, ii rfl rfl, ii rfl rfl, ii rfl rfl, ii rfl rfl, trivial⟩⟩, ⟨_, rfl, ⟨ii rfl rfl, ii rfl rfl, ii rfl rfl, ii rfl rfl, ii rfl rfl, ii rfl rfl, ii rfl rfl, ii rfl rfl, ii rfl rfl, ii rfl rfl, ii rfl rfl, trivial⟩⟩, ⟨_, rfl, ⟨ii rfl rfl, ii rfl rfl, ii rfl rfl, ii rfl rfl, ii rfl rfl, ii rfl rfl, ii rfl rfl, ii rfl rfl, ii rfl rfl, ii rfl rfl, ii rfl rfl, trivial⟩⟩, trivial⟩) ?_
          refine SOps.nil ?_
          rcases cond_out h with ⟨g99, h⟩ | ⟨g99, h⟩
          · refine SCode.cond_t rfl g99 ?_
            refine SCode.exit ?_
            exact ⟨(limit_38, found_39, b1_41, b1_42, b1_43, b1_44, b1_45, b1_46, b1_47, b1_48, b1_49, b1_50, b1_51), h, sub_gen [0, 1] rfl rfl ⟨zc rfl rfl, zc rfl rfl, zc rfl rfl, zc rfl rfl, zc rfl rfl, zc rfl rfl, zc rfl rfl, zc rfl rfl, zc rfl rfl, zc rfl rfl, zc rfl rfl, zc rfl rfl, trivial⟩ ⟨⟨_, rfl, ⟨ii rfl rfl, ii rfl rfl, ii rfl rfl, ii rfl rfl, ii rfl rfl, ii rfl rfl, ii rfl rfl, ii rfl rfl, ii rfl rfl, ii rfl rfl, ii rfl rfl, trivial⟩⟩, ⟨_, rfl, ⟨ii rfl rfl, ii rfl rfl, ii rfl rfl, ii rfl rfl, ii rfl rfl, ii rfl rfl, ii rfl rfl, ii rfl rfl, ii rfl rfl, ii rfl rfl, ii rfl rfl, trivial⟩⟩, trivial⟩⟩
          refine SCode.cond_f rfl g99 ?_
          refine SCode.skip ?_
          refine SCode.seq ?_
          obtain ⟨c_100, g101, h⟩ := bind_out h
          try dsimp only at h
          refine SCode.region (show SOps _ _ _ [0, 1, 2, 3, 4, 5, 6, 7, 8] _ _ from ?_)
          refine SOps.q rfl (.plain rfl) rfl (q_load_ptr_all rfl rfl rfl rfl rfl ty31) ?_
          refine SOps.q rfl (.plain rfl) rfl (q_move rfl rfl) ?_
          refine SOps.q rfl (.plain rfl) rfl (q_move rfl rfl) ?_
          refine SOps.q rfl (.plain rfl) rfl (q_call (chargenetref15_Limit_ok F (a0_l.getD t24_40.toNat dSProfile) a4_start a5_t c_100 g101) [] rfl fn10 ⟨⟨rfl, rfl⟩, ⟨_, rfl, .inl ⟨rfl, rfl⟩⟩, ⟨_, rfl, .inl ⟨rfl, rfl⟩⟩, trivial⟩ (.inl rfl)) ?_
          refine SOps.q rfl (.plain rfl) rfl (q_move rfl rfl) ?_
          refine SOps.q rfl (.plain rfl) rfl (q_extract rfl rfl rfl) ?_
          refine SOps.q rfl (.plain rfl) rfl (q_extract rfl rfl rfl) ?_
          refine SOps.q rfl (.plain rfl) rfl (q_assign rfl rfl) ?_
          refine SOps.q rfl (.plain rfl) rfl (q_assign rfl rfl) ?_
          refine SOps.sub (st' := ⟨[(1, .c (.int .i64 a1_purpose)), (2, .c (.int .i64 a2_conn)), (3, .c (.str a3_txn)), (4, .c (.int .i64 a4_start)), (5, .c (.int .i64 a5_t)), (12, .c (.ptr 0 0)), (15, .c (.ptr 1 0)), (16, .c (.int .i64 limit_38)), (17, .c (.bool found_39)), (19, .c (.ptr 2 0)), (20, .c (.int .i64 c_100.1)), (21, .c (.bool c_100.2)), (22, .c (.vec a0_l.length 11 (gL cSProfile dSProfile a0_l))), (23, .c (.int .i64 (((a0_l).length : Int)))), (24, .c (.int .i64 t24_40))], [.box [.int .i64 0, .int .i64 0, .int .i64 0, .int .i64 0, .int .i64 0, .str ByteArray.empty, .int .i64 0, .int .i64 0, .int .i64 0, .int .i64 0, .raw (.slice none 0 0)], .box [.int .i64 b1_41, .int .i64 b1_42, .int .i64 b1_43, .int .i64 b1_44, .int .i64 b1_45, .str b1_46, .int .i64 b1_47, .int .i64 b1_48, .int .i64 b1_49, .int .i64 b1_50, .vec b1_51.length 2 (gL cSPeriod dSPeriod b1_51)], .box [.int .i64 ((a0_l.getD t24_40.toNat dSProfile).ID), .int .i64 ((a0_l.getD t24_40.toNat dSProfile).Level), .int .i64 ((a0_l.getD t24_40.toNat dSProfile).Purpose), .int .i64 ((a0_l.getD t24_40.toNat dSProfile).Kind), .int .i64 ((a0_l.getD t24_40.toNat dSProfile).Conn), .str ((a0_l.getD t24_40.toNat dSProfile).Txn), .int .i64 ((a0_l.getD t24_40.toNat dSProfile).Span_From), .int .i64 ((a0_l.getD t24_40.toNat dSProfile).Span_To), .int .i64 ((a0_l.getD t24_40.toNat dSProfile).Start), .int .i64 ((a0_l.getD t24_40.toNat dSProfile).Duration), .vec ((a0_l.getD t24_40.toNat dSProfile).Periods).length 2 (gL cSPeriod dSPeriod ((a0_l.getD t24_40.toNat dSProfile).Periods))]]⟩) (sub_gen [0, 1, 2] rfl rfl ⟨zc rfl rfl, zc rfl rfl, zc rfl rfl, zc rfl rfl, zc rfl rfl, zc rfl rfl, zc rfl rfl, zc rfl rfl, zc rfl rfl, zc rfl rfl, zc rfl rfl, zc rfl rfl, zc rfl rfl, zc rfl rfl, zc rfl rfl, trivial⟩ ⟨⟨_, rfl, ⟨ii rfl rfl, ii rfl rfl, ii rfl rfl, ii rfl rfl, ii rfl rfl, ii rfl rfl, ii rfl rfl, ii rfl rfl, ii rfl rfl, ii rfl rfl, ii rfl rfl, trivial⟩⟩, ⟨_, rfl, ⟨ii rfl rfl, ii rfl rfl, ii rfl rfl, ii rfl rfl, ii rfl rfl, ii rfl rfl, ii rfl rfl, ii rfl rfl, ii rfl rfl, ii rfl rfl, ii rfl rfl, trivial⟩⟩, ⟨_, rfl, ⟨ii rfl rfl, ii rfl rfl, ii rfl rfl, ii rfl rfl, ii rfl rfl, ii rfl rfl, ii rfl rfl, ii rfl rfl, ii rfl rfl, ii rfl rfl, ii rfl rfl, trivial⟩⟩, trivial⟩) ?_
          refine SOps.nil ?_
          refine SCode.seq ?_
          refine SCode.seq ?_
          refine SCode.region (show SOps _ _ _ [0, 1] _ _ from ?_)
          refine SOps.q rfl (.plain rfl) rfl (q_move rfl rfl) ?_
          refine SOps.q rfl (.plain rfl) rfl (q_not rfl rfl) ?_
          refine SOps.sub (st' := ⟨[(1, .c (.int .i64 a1_purpose)), (2, .c (.int .i64 a2_conn)), (3, .c (.str a3_txn)), (4, .c (.int .i64 a4_start)), (5, .c (.int .i64 a5_t)), (12, .c (.ptr 0 0)), (15, .c (.ptr 1 0)), (16, .c (.int .i64 limit_38)), (17, .c (.bool found_39)), (19, .c (.ptr 2 0)), (20, .c (.int .i64 c_100.1)), (22, .c (.vec a0_l.length 11 (gL cSProfile dSProfile a0_l))), (23, .c (.int .i64 (((a0_l).length : Int)))), (24, .c (.int .i64 t24_40)), (47, .c (.bool ((!c_100.2))))], [.box [.int .i64 0, .int .i64 0, .int .i64 0, .int .i64 0, .int .i64 0, .str ByteArray.empty, .int .i64 0, .int .i64 0, .int .i64 0, .int .i64 0, .raw (.slice none 0 0)], .box [.int .i64 b1_41, .int .i64 b1_42, .int .i64 b1_43, .int .i64 b1_44, .int .i64 b1_45, .str b1_46, .int .i64 b1_47, .int .i64 b1_48, .int .i64 b1_49, .int .i64 b1_50, .vec b1_51.length 2 (gL cSPeriod dSPeriod b1_51)], .box [.int .i64 ((a0_l.getD t24_40.toNat dSProfile).ID), .int .i64 ((a0_l.getD t24_40.toNat dSProfile).Level), .int .i64 ((a0_l.getD t24_40.toNat dSProfile).Purpose), .int .i64 ((a0_l.getD t24_40.toNat dSProfile).Kind), .int .i64 ((a0_l.getD t24_40.toNat dSProfile).Conn), .str ((a0_l.getD t24_40.toNat dSProfile).Txn), .int .i64 ((a0_l.getD t24_40.toNat dSProfile).Span_From), .int .i64 ((a0_l.getD t24_40.toNat dSProfile).Span_To), .int .i64 ((a0_l.getD t24_40.toNat dSProfile).Start), .int .i64 ((a0_l.getD t24_40.toNat dSProfile).Duration), .vec ((a0_l.getD t24_40.toNat dSProfile).Periods).length 2 (gL cSPeriod dSPeriod ((a0_l.getD t24_40.toNat dSProfile).Periods))]]⟩) (sub_gen [0, 1, 2] rfl rfl ⟨zc rfl rfl, zc rfl rfl, zc rfl rfl, zc rfl rfl, zc rfl rfl, zc rfl rfl, zc rfl rfl, zc rfl rfl, zc rfl rfl, zc rfl rfl, zc rfl rfl, zc rfl rfl, zc rfl rfl, zc rfl rfl, zc rfl rfl, trivial⟩ ⟨⟨_, rfl, ⟨ii rfl rfl, ii rfl rfl, ii rfl rfl, ii rfl rfl, ii rfl rfl, ii rfl rfl, ii rfl rfl, ii rfl rfl, ii rfl rfl, ii rfl rfl, ii rfl rfl, trivial⟩⟩, ⟨_, rfl, ⟨ii rfl rfl, ii rfl rfl, ii rfl rfl, ii rfl rfl, ii rfl rfl, ii rfl rfl, ii rfl rfl, ii rfl rfl, ii rfl rfl, ii rfl rfl, ii rfl rfl, trivial⟩⟩, ⟨_, rfl, ⟨ii rfl rfl, ii rfl rfl, ii rfl rfl, ii rfl rfl, ii rfl rfl, ii rfl rfl, ii rfl rfl, ii rfl rfl, ii rfl rfl, ii rfl rfl, ii rfl rfl, trivial⟩⟩, trivial⟩) ?_
          refine SOps.nil ?_
          rcases cond_out h with ⟨g102, h⟩ | ⟨g102, h⟩
          · refine SCode.cond_t rfl g102 ?_
            refine SCode.exit ?_
            exact ⟨(limit_38, found_39, b1_41, b1_42, b1_43, b1_44, b1_45, b1_46, b1_47, b1_48, b1_49, b1_50, b1_51), h, sub_gen [0, 1] rfl rfl ⟨zc rfl rfl, zc rfl rfl, zc rfl rfl, zc rfl rfl, zc rfl rfl, zc rfl rfl, zc rfl rfl, zc rfl rfl, zc rfl rfl, zc rfl rfl, zc rfl rfl, zc rfl rfl, trivial⟩ ⟨⟨_, rfl, ⟨ii rfl rfl, ii rfl rfl, ii rfl rfl, ii rfl rfl, ii rfl rfl, ii rfl rfl, ii rfl rfl, ii rfl rfl, ii rfl rfl, ii rfl rfl, ii rfl rfl, trivial⟩⟩, ⟨_, rfl, ⟨ii rfl rfl, ii rfl rfl, ii rfl rfl, ii rfl rfl, ii rfl rfl, ii rfl rfl, ii rfl rfl, ii rfl rfl, ii rfl rfl, ii rfl rfl, ii rfl rfl, trivial⟩⟩, trivial⟩⟩
          refine SCode.cond_f rfl g102 ?_
          refine SCode.skip ?_
          refine SCode.seq ?_
          rcases cond_out h with ⟨g103, h⟩ | ⟨g103, h⟩
          · refine SCode.region (show SOps _ _ _ [0, 1, 2, 3, 4, 5, 6, 7, 8, 9, 10, 11, 12, 13, 14, 15, 16, 17, 18, 19, 20, 21, 22] _ _ from ?_)
            refine SOps.q rfl (.plain rfl) rfl (q_move rfl rfl) ?_
            refine SOps.q rfl (.plain rfl) rfl (q_not rfl rfl) ?_
            refine SOps.q rfl (.plain rfl) rfl (q_move rfl rfl) ?_
            refine SOps.skip rfl 2 50 false rfl rfl (.inl (gT g103)) rfl ?_
            refine SOps.skip rfl 2 50 false rfl rfl (.inl (gT g103)) rfl ?_
            refine SOps.skip rfl 2 50 false rfl rfl (.inl (gT g103)) rfl ?_
            refine SOps.skip rfl 2 50 false rfl rfl (.inl (gT g103)) rfl ?_
            refine SOps.skip rfl 2 50 false rfl rfl (.inl (gT g103)) rfl ?_
            refine SOps.q rfl (.plain rfl) rfl (q_pick_t rfl rfl g103 rfl) ?_
            refine SOps.q rfl (.plain rfl) rfl (q_move rfl rfl) ?_
            refine SOps.skip rfl 9 57 false rfl rfl (.inl rfl) rfl ?_
            refine SOps.skip rfl 9 57 false rfl rfl (.inl rfl) rfl ?_
            refine SOps.skip rfl 9 57 false rfl rfl (.inl rfl) rfl ?_
            refine SOps.skip rfl 9 57 false rfl rfl (.inl rfl) rfl ?_
            refine SOps.skip rfl 9 57 false rfl rfl (.inl rfl) rfl ?_
            refine SOps.skip rfl 9 57 false rfl rfl (.inl rfl) rfl ?_
            refine SOps.skip rfl 15 63 true rfl rfl (.inr rfl) rfl ?_
            refine SOps.skip rfl 15 63 true rfl rfl (.inr rfl) rfl ?_
            refine SOps.skip rfl 15 63 true rfl rfl (.inr rfl) rfl ?_
            refine SOps.skip rfl 15 63 true rfl rfl (.inr rfl) rfl ?_
            refine SOps.skip rfl 15 63 true rfl rfl (.inr rfl) rfl ?_
            refine SOps.skip rfl 9 57 false rfl rfl (.inl rfl) rfl ?_
            refine SOps.q rfl (.plain rfl) rfl (q_pick_t rfl rfl rfl rfl) ?_
            refine SOps.sub (st' := ⟨[(1, .c (.int .i64 a1_purpose)), (2, .c (.int .i64 a2_conn)), (3, .c (.str a3_txn)), (4, .c (.int .i64 a4_start)), (5, .c (.int .i64 a5_t)), (12, .c (.ptr 0 0)), (15, .c (.ptr 1 0)), (16, .c (.int .i64 limit_38)), (17, .c (.bool found_39)), (19, .c (.ptr 2 0)), (20, .c (.int .i64 c_100.1)), (22, .c (.vec a0_l.length 11 (gL cSProfile dSProfile a0_l))), (23, .c (.int .i64 (((a0_l).length : Int)))), (24, .c (.int .i64 t24_40)), (70, .c (.bool true))], [.box [.int .i64 0, .int .i64 0, .int .i64 0, .int .i64 0, .int .i64 0, .str ByteArray.empty, .int .i64 0, .int .i64 0, .int .i64 0, .int .i64 0, .raw (.slice none 0 0)], .box [.int .i64 b1_41, .int .i64 b1_42, .int .i64 b1_43, .int .i64 b1_44, .int .i64 b1_45, .str b1_46, .int .i64 b1_47, .int .i64 b1_48, .int .i64 b1_49, .int .i64 b1_50, .vec b1_51.length 2 (gL cSPeriod dSPeriod b1_51)], .box [.int .i64 ((a0_l.getD t24_40.toNat dSProfile).ID), .int .i64 ((a0_l.getD t24_40.toNat dSProfile).Level), .int .i64 ((a0_l.getD t24_40.toNat dSProfile).Purpose), .int .i64 ((a0_l.getD t24_40.toNat dSProfile).Kind), .int .i64 ((a0_l.getD t24_40.toNat dSProfile).Conn), .str ((a0_l.getD t24_40.toNat dSProfile).Txn), .int .i64 ((a0_l.getD t24_40.toNat dSProfile).Span_From), .int .i64 ((a0_l.getD t24_40.toNat dSProfile).Span_To), .int .i64 ((a0_l.getD t24_40.toNat dSProfile).Start), .int .i64 ((a0_l.getD t24_40.toNat dSProfile).Duration), .vec ((a0_l.getD t24_40.toNat dSProfile).Periods).length 2 (gL cSPeriod dSPeriod ((a0_l.getD t24_40.toNat dSProfile).Periods))]]⟩) (sub_gen [0, 1, 2] rfl rfl ⟨zc rfl rfl, zc rfl rfl, zc rfl rfl, zc rfl rfl, zc rfl rfl, zc rfl rfl, zc rfl rfl, zc rfl rfl, zc rfl rfl, zc rfl rfl, zc rfl rfl, zc rfl rfl, zc rfl rfl, zc rfl rfl, zc rfl rfl, trivial⟩ ⟨⟨_, rfl, ⟨ii rfl rfl, ii rfl rfl, ii rfl rfl, ii rfl rfl, ii rfl rfl, ii rfl rfl, ii rfl rfl, ii rfl rfl, ii rfl rfl, ii rfl rfl, ii rfl rfl, trivial⟩⟩, ⟨_, rfl, ⟨ii rfl rfl, ii rfl rfl, ii rfl rfl, ii rfl rfl, ii rfl rfl, ii rfl rfl, ii rfl rfl, ii rfl rfl, ii rfl rfl, ii rfl rfl, ii rfl rfl, trivial⟩⟩, ⟨_, rfl, ⟨ii rfl rfl, ii rfl rfl, ii rfl rfl, ii rfl rfl, ii rfl rfl, ii rfl rfl, ii rfl rfl, ii rfl rfl, ii rfl rfl, ii rfl rfl, ii rfl rfl, trivial⟩⟩, trivial⟩) ?_
            refine SOps.nil ?_
            refine SCode.cond_t rfl rfl ?_
            refine SCode.region (show SOps _ _ _ [0, 1, 2, 3, 4] _ _ from ?_)
            refine SOps.q rfl (.plain rfl) rfl (q_load_ptr_all rfl rfl rfl rfl rfl ty31) ?_
            refine SOps.q rfl (.plain rfl) rfl (q_move rfl rfl) ?_
            refine SOps.e rfl (.plain rfl) (e_store_box rfl rfl rfl rfl rfl ty31 rfl rfl rfl rfl) ?_
            refine SOps.q rfl (.plain rfl) rfl (q_assign rfl rfl) ?_
            refine SOps.q rfl (.plain rfl) rfl (q_assign rfl rfl) ?_
            refine SOps.sub (st' := ⟨[(1, .c (.int .i64 a1_purpose)), (2, .c (.int .i64 a2_conn)), (3, .c (.str a3_txn)), (4, .c (.int .i64 a4_start)), (5, .c (.int .i64 a5_t)), (12, .c (.ptr 0 0)), (15, .c (.ptr 1 0)), (16, .c (.int .i64 c_100.1)), (17, .c (.bool true)), (22, .c (.vec a0_l.length 11 (gL cSProfile dSProfile a0_l))), (23, .c (.int .i64 (((a0_l).length : Int)))), (24, .c (.int .i64 t24_40))], [.box [.int .i64 0, .int .i64 0, .int .i64 0, .int .i64 0, .int .i64 0, .str ByteArray.empty, .int .i64 0, .int .i64 0, .int .i64 0, .int .i64 0, .raw (.slice none 0 0)], .box [.int .i64 ((a0_l.getD t24_40.toNat dSProfile).ID), .int .i64 ((a0_l.getD t24_40.toNat dSProfile).Level), .int .i64 ((a0_l.getD t24_40.toNat dSProfile).Purpose), .int .i64 ((a0_l.getD t24_40.toNat dSProfile).Kind), .int .i64 ((a0_l.getD t24_40.toNat dSProfile).Conn), .str ((a0_l.getD t24_40.toNat dSProfile).Txn), .int .i64 ((a0_l.getD t24_40.toNat dSProfile).Span_From), .int .i64 ((a0_l.getD t24_40.toNat dSProfile).Span_To), .int .i64 ((a0_l.getD t24_40.toNat dSProfile).Start), .int .i64 ((a0_l.getD t24_40.toNat dSProfile).Duration), .vec ((a0_l.getD t24_40.toNat dSProfile).Periods).length 2 (gL cSPeriod dSPeriod ((a0_l.getD t24_40.toNat dSProfile).Periods))]]⟩) (sub_gen [0, 1] rfl rfl ⟨zc rfl rfl, zc rfl rfl, zc rfl rfl, zc rfl rfl, zc rfl rfl, zc rfl rfl, zc rfl rfl, zc rfl rfl, zc rfl rfl, zc rfl rfl, zc rfl rfl, zc rfl rfl, trivial⟩ ⟨⟨_, rfl, ⟨ii rfl rfl, ii rfl rfl, ii rfl rfl, ii rfl rfl, ii rfl rfl, ii rfl rfl, ii rfl rfl, ii rfl rfl, ii rfl rfl, ii rfl rfl, ii rfl rfl, trivial⟩⟩, ⟨_, rfl, ⟨ii rfl rfl, ii rfl rfl, ii rfl rfl, ii rfl rfl, ii rfl rfl, ii rfl rfl, ii rfl rfl, ii rfl rfl, ii rfl rfl, ii rfl rfl, ii rfl rfl, trivial⟩⟩, trivial⟩) ?_
            refine SOps.nil ?_
            exact ⟨(c_100.1, true, (a0_l.getD t24_40.toNat dSProfile).ID, (a0_l.getD t24_40.toNat dSProfile).Level, (a0_l.getD t24_40.toNat dSProfile).Purpose, (a0_l.getD t24_40.toNat dSProfile).Kind, (a0_l.getD t24_40.toNat dSProfile).Conn, (a0_l.getD t24_40.toNat dSProfile).Txn, (a0_l.getD t24_40.toNat dSProfile).Span_From, (a0_l.getD t24_40.toNat dSProfile).Span_To, (a0_l.getD t24_40.toNat dSProfile).Start, (a0_l.getD t24_40.toNat dSProfile).Duration, (a0_l.getD t24_40.toNat dSProfile).Periods), h, sub_gen [0, 1] rfl rfl ⟨zc rfl rfl, zc rfl rfl, zc rfl rfl, zc rfl rfl, zc rfl rfl, zc rfl rfl, zc rfl rfl, zc rfl rfl, zc rfl rfl, zc rfl rfl, zc rfl rfl, zc rfl rfl, trivial⟩ ⟨⟨_, rfl, ⟨ii rfl rfl, ii rfl rfl, ii rfl rfl, ii rfl rfl, ii rfl rfl, ii rfl rfl, ii rfl rfl, ii rfl rfl, ii rfl rfl, ii rfl rfl, ii rfl rfl, trivial⟩⟩, ⟨_, rfl, ⟨ii rfl rfl, ii rfl rfl, ii rfl rfl, ii rfl rfl, ii rfl rfl, ii rfl rfl, ii rfl rfl, ii rfl rfl, ii rfl rfl, ii rfl rfl, ii rfl rfl, trivial⟩⟩, trivial⟩⟩
          rcases cond_out h with ⟨g104, h⟩ | ⟨g104, h⟩
          · refine SCode.region (show SOps _ _ _ [0, 1, 2, 3, 4, 5, 6, 7, 8, 9, 10, 11, 12, 13, 14, 15, 16, 17, 18, 19, 20, 21, 22] _ _ from ?_)
            refine SOps.q rfl (.plain rfl) rfl (q_move rfl rfl) ?_
            refine SOps.q rfl (.plain rfl) rfl (q_not rfl rfl) ?_
            refine SOps.q rfl (.plain rfl) rfl (q_move rfl rfl) ?_
            refine SOps.q rfl (.guard 2 50 false rfl rfl (gF g103)) rfl (q_field_ptr rfl rfl fd31_1) ?_
            refine SOps.q rfl (.guard 2 50 false rfl rfl (gF g103)) rfl (q_load_ptr rfl rfl rfl rfl ty3) ?_
            refine SOps.q rfl (.guard 2 50 false rfl rfl (gF g103)) rfl (q_field_ptr rfl rfl fd31_1) ?_
            refine SOps.q rfl (.guard 2 50 false rfl rfl (gF g103)) rfl (q_load_ptr rfl rfl rfl rfl ty3) ?_
            refine SOps.q rfl (.guard 2 50 false rfl rfl (gF g103)) rfl (q_gtr rfl rfl rfl) ?_
            refine SOps.q rfl (.plain rfl) rfl (q_pick_f rfl rfl g103 rfl) ?_
            refine SOps.q rfl (.plain rfl) rfl (q_move rfl rfl) ?_
            refine SOps.skip rfl 9 57 false rfl rfl (.inl (gT g104)) rfl ?_
            refine SOps.skip rfl 9 57 false rfl rfl (.inl (gT g104)) rfl ?_
            refine SOps.skip rfl 9 57 false rfl rfl (.inl (gT g104)) rfl ?_
            refine SOps.skip rfl 9 57 false rfl rfl (.inl (gT g104)) rfl ?_
            refine SOps.skip rfl 9 57 false rfl rfl (.inl (gT g104)) rfl ?_
            refine SOps.skip rfl 9 57 false rfl rfl (.inl (gT g104)) rfl ?_
            refine SOps.skip rfl 15 63 true rfl rfl (.inr rfl) rfl ?_
            refine SOps.skip rfl 15 63 true rfl rfl (.inr rfl) rfl ?_
            refine SOps.skip rfl 15 63 true rfl rfl (.inr rfl) rfl ?_
            refine SOps.skip rfl 15 63 true rfl rfl (.inr rfl) rfl ?_
            refine SOps.skip rfl 15 63 true rfl rfl (.inr rfl) rfl ?_
            refine SOps.skip rfl 9 57 false rfl rfl (.inl (gT g104)) rfl ?_
            refine SOps.q rfl (.plain rfl) rfl (q_pick_t rfl rfl g104 rfl) ?_
            refine SOps.sub (st' := ⟨[(1, .c (.int .i64 a1_purpose)), (2, .c (.int .i64 a2_conn)), (3, .c (.str a3_txn)), (4, .c (.int .i64 a4_start)), (5, .c (.int .i64 a5_t)), (12, .c (.ptr 0 0)), (15, .c (.ptr 1 0)), (16, .c (.int .i64 limit_38)), (17, .c (.bool found_39)), (19, .c (.ptr 2 0)), (20, .c (.int .i64 c_100.1)), (22, .c (.vec a0_l.length 11 (gL cSProfile dSProfile a0_l))), (23, .c (.int .i64 (((a0_l).length : Int)))), (24, .c (.int .i64 t24_40)), (70, .c (.bool true))], [.box [.int .i64 0, .int .i64 0, .int .i64 0, .int .i64 0, .int .i64 0, .str ByteArray.empty, .int .i64 0, .int .i64 0, .int .i64 0, .int .i64 0, .raw (.slice none 0 0)], .box [.int .i64 b1_41, .int .i64 b1_42, .int .i64 b1_43, .int .i64 b1_44, .int .i64 b1_45, .str b1_46, .int .i64 b1_47, .int .i64 b1_48, .int .i64 b1_49, .int .i64 b1_50, .vec b1_51.length 2 (gL cSPeriod dSPeriod b1_51)], .box [.int .i64 ((a0_l.getD t24_40.toNat dSProfile).ID), .int .i64 ((a0_l.getD t24_40.toNat dSProfile).Level), .int .i64 ((a0_l.getD t24_40.toNat dSProfile).Purpose), .int .i64 ((a0_l.getD t24_40.toNat dSProfile).Kind), .int .i64 ((a0_l.getD t24_40.toNat dSProfile).Conn), .str ((a0_l.getD t24_40.toNat dSProfile).Txn), .int .i64 ((a0_l.getD t24_40.toNat dSProfile).Span_From), .int .i64 ((a0_l.getD t24_40.toNat dSProfile).Span_To), .int .i64 ((a0_l.getD t24_40.toNat dSProfile).Start), .int .i64 ((a0_l.getD t24_40.toNat dSProfile).Duration), .vec ((a0_l.getD t24_40.toNat dSProfile).Periods).length 2 (gL cSPeriod dSPeriod ((a0_l.getD t24_40.toNat dSProfile).Periods))]]⟩) (sub_gen [0, 1, 2] rfl rfl ⟨zc rfl rfl, zc rfl rfl, zc rfl rfl, zc rfl rfl, zc rfl rfl, zc rfl rfl, zc rfl rfl, zc rfl rfl, zc rfl rfl, zc rfl rfl, zc rfl rfl, zc rfl rfl, zc rfl rfl, zc rfl rfl, zc rfl rfl, trivial⟩ ⟨⟨_, rfl, ⟨ii rfl rfl, ii rfl rfl, ii rfl rfl, ii rfl rfl, ii rfl rfl, ii rfl rfl, ii rfl rfl, ii rfl rfl, ii rfl rfl, ii rfl rfl, ii rfl rfl, trivial⟩⟩, ⟨_, rfl, ⟨ii rfl rfl, ii rfl rfl, ii rfl rfl, ii rfl rfl, ii rfl rfl, ii rfl rfl, ii rfl rfl, ii rfl rfl, ii rfl rfl, ii rfl rfl, ii rfl rfl, trivial⟩⟩, ⟨_, rfl, ⟨ii rfl rfl, ii rfl rfl, ii rfl rfl, ii rfl rfl, ii rfl rfl, ii rfl rfl, ii rfl rfl, ii rfl rfl, ii rfl rfl, ii rfl rfl, ii rfl rfl, trivial⟩⟩, trivial⟩) ?_
            refine SOps.nil ?_
            refine SCode.cond_t rfl rfl ?_
            refine SCode.region (show SOps _ _ _ [0, 1, 2, 3, 4] _ _ from ?_)
            refine SOps.q rfl (.plain rfl) rfl (q_load_ptr_all rfl rfl rfl rfl rfl ty31) ?_
            refine SOps.q rfl (.plain rfl) rfl (q_move rfl rfl) ?_
            refine SOps.e rfl (.plain rfl) (e_store_box rfl rfl rfl rfl rfl ty31 rfl rfl rfl rfl) ?_
            refine SOps.q rfl (.plain rfl) rfl (q_assign rfl rfl) ?_
            refine SOps.q rfl (.plain rfl) rfl (q_assign rfl rfl) ?_
            refine SOps.sub (st' := ⟨[(1, .c (.int .i64 a1_purpose)), (2, .c (.int .i64 a2_conn)), (3, .c (.str a3_txn)), (4, .c (.int .i64 a4_start)), (5, .c (.int .i64 a5_t)), (12, .c (.ptr 0 0)), (15, .c (.ptr 1 0)), (16, .c (.int .i64 c_100.1)), (17, .c (.bool true)), (22, .c (.vec a0_l.length 11 (gL cSProfile dSProfile a0_l))), (23, .c (.int .i64 (((a0_l).length : Int)))), (24, .c (.int .i64 t24_40))], [.box [.int .i64 0, .int .i64 0, .int .i64 0, .int .i64 0, .int .i64 0, .str ByteArray.empty, .int .i64 0, .int .i64 0, .int .i64 0, .int .i64 0, .raw (.slice none 0 0)], .box [.int .i64 ((a0_l.getD t24_40.toNat dSProfile).ID), .int .i64 ((a0_l.getD t24_40.toNat dSProfile).Level), .int .i64 ((a0_l.getD t24_40.toNat dSProfile).Purpose), .int .i64 ((a0_l.getD t24_40.toNat dSProfile).Kind), .int .i64 ((a0_l.getD t24_40.toNat dSProfile).Conn), .str ((a0_l.getD t24_40.toNat dSProfile).Txn), .int .i64 ((a0_l.getD t24_40.toNat dSProfile).Span_From), .int .i64 ((a0_l.getD t24_40.toNat dSProfile).Span_To), .int .i64 ((a0_l.getD t24_40.toNat dSProfile).Start), .int .i64 ((a0_l.getD t24_40.toNat dSProfile).Duration), .vec ((a0_l.getD t24_40.toNat dSProfile).Periods).length 2 (gL cSPeriod dSPeriod ((a0_l.getD t24_40.toNat dSProfile).Periods))]]⟩) (sub_gen [0, 1] rfl rfl ⟨zc rfl rfl, zc rfl rfl, zc rfl rfl, zc rfl rfl, zc rfl rfl, zc rfl rfl, zc rfl rfl, zc rfl rfl, zc rfl rfl, zc rfl rfl, zc rfl rfl, zc rfl rfl, trivial⟩ ⟨⟨_, rfl, ⟨ii rfl rfl, ii rfl rfl, ii rfl rfl, ii rfl rfl, ii rfl rfl, ii rfl rfl, ii rfl rfl, ii rfl rfl, ii rfl rfl, ii rfl rfl, ii rfl rfl, trivial⟩⟩, ⟨_, rfl, ⟨ii rfl rfl, ii rfl rfl, ii rfl rfl, ii rfl rfl, ii rfl rfl, ii rfl rfl, ii rfl rfl, ii rfl rfl, ii rfl rfl, ii rfl rfl, ii rfl rfl, trivial⟩⟩, trivial⟩) ?_
            refine SOps.nil ?_
            exact ⟨(c_100.1, true, (a0_l.getD t24_40.toNat dSProfile).ID, (a0_l.getD t24_40.toNat dSProfile).Level, (a0_l.getD t24_40.toNat dSProfile).Purpose, (a0_l.getD t24_40.toNat dSProfile).Kind, (a0_l.getD t24_40.toNat dSProfile).Conn, (a0_l.getD t24_40.toNat dSProfile).Txn, (a0_l.getD t24_40.toNat dSProfile).Span_From, (a0_l.getD t24_40.toNat dSProfile).Span_To, (a0_l.getD t24_40.toNat dSProfile).Start, (a0_l.getD t24_40.toNat dSProfile).Duration, (a0_l.getD t24_40.toNat dSProfile).Periods), h, sub_gen [0, 1] rfl rfl ⟨zc rfl rfl, zc rfl rfl, zc rfl rfl, zc rfl rfl, zc rfl rfl, zc rfl rfl, zc rfl rfl, zc rfl rfl, zc rfl rfl, zc rfl rfl, zc rfl rfl, zc rfl rfl, trivial⟩ ⟨⟨_, rfl, ⟨ii rfl rfl, ii rfl rfl, ii rfl rfl, ii rfl rfl, ii rfl rfl, ii rfl rfl, ii rfl rfl, ii rfl rfl, ii rfl rfl, ii rfl rfl, ii rfl rfl, trivial⟩⟩, ⟨_, rfl, ⟨ii rfl rfl, ii rfl rfl, ii rfl rfl, ii rfl rfl, ii rfl rfl, ii rfl rfl, ii rfl rfl, ii rfl rfl, ii rfl rfl, ii rfl rfl, ii rfl rfl, trivial⟩⟩, trivial⟩⟩
          rcases cond_out h with ⟨g105, h⟩ | ⟨g105, h⟩
          · refine SCode.region (show SOps _ _ _ [0, 1, 2, 3, 4, 5, 6, 7, 8, 9, 10, 11, 12, 13, 14, 15, 16, 17, 18, 19, 20, 21, 22] _ _ from ?_)
            refine SOps.q rfl (.plain rfl) rfl (q_move rfl rfl) ?_
            refine SOps.q rfl (.plain rfl) rfl (q_not rfl rfl) ?_
            refine SOps.q rfl (.plain rfl) rfl (q_move rfl rfl) ?_
            refine SOps.q rfl (.guard 2 50 false rfl rfl (gF g103)) rfl (q_field_ptr rfl rfl fd31_1) ?_
            refine SOps.q rfl (.guard 2 50 false rfl rfl (gF g103)) rfl (q_load_ptr rfl rfl rfl rfl ty3) ?_
            refine SOps.q rfl (.guard 2 50 false rfl rfl (gF g103)) rfl (q_field_ptr rfl rfl fd31_1) ?_
            refine SOps.q rfl (.guard 2 50 false rfl rfl (gF g103)) rfl (q_load_ptr rfl rfl rfl rfl ty3) ?_
            refine SOps.q rfl (.guard 2 50 false rfl rfl (gF g103)) rfl (q_gtr rfl rfl rfl) ?_
            refine SOps.q rfl (.plain rfl) rfl (q_pick_f rfl rfl g103 rfl) ?_
            refine SOps.q rfl (.plain rfl) rfl (q_move rfl rfl) ?_
            refine SOps.q rfl (.guard 9 57 false rfl rfl (gF g104)) rfl (q_field_ptr rfl rfl fd31_1) ?_
            refine SOps.q rfl (.guard 9 57 false rfl rfl (gF g104)) rfl (q_load_ptr rfl rfl rfl rfl ty3) ?_
            refine SOps.q rfl (.guard 9 57 false rfl rfl (gF g104)) rfl (q_field_ptr rfl rfl fd31_1) ?_
            refine SOps.q rfl (.guard 9 57 false rfl rfl (gF g104)) rfl (q_load_ptr rfl rfl rfl rfl ty3) ?_
            refine SOps.q rfl (.guard 9 57 false rfl rfl (gF g104)) rfl (q_eql rfl rfl rfl) ?_
            refine SOps.q rfl (.guard 9 57 false rfl rfl (gF g104)) rfl (q_move rfl rfl) ?_
            refine SOps.q rfl (.guard 15 63 true rfl rfl (gT g105)) rfl (q_field_ptr rfl rfl fd31_0) ?_
            refine SOps.q rfl (.guard 15 63 true rfl rfl (gT g105)) rfl (q_load_ptr rfl rfl rfl rfl ty3) ?_
            refine SOps.q rfl (.guard 15 63 true rfl rfl (gT g105)) rfl (q_field_ptr rfl rfl fd31_0) ?_
            refine SOps.q rfl (.guard 15 63 true rfl rfl (gT g105)) rfl (q_load_ptr rfl rfl rfl rfl ty3) ?_
            refine SOps.q rfl (.guard 15 63 true rfl rfl (gT g105)) rfl (q_gtr rfl rfl rfl) ?_
            refine SOps.q rfl (.guard 9 57 false rfl rfl (gF g104)) rfl (q_pick_t rfl rfl g105 rfl) ?_
            refine SOps.q rfl (.plain rfl) rfl (q_pick_f rfl rfl g104 rfl) ?_
            refine SOps.sub (st' := ⟨[(1, .c (.int .i64 a1_purpose)), (2, .c (.int .i64 a2_conn)), (3, .c (.str a3_txn)), (4, .c (.int .i64 a4_start)), (5, .c (.int .i64 a5_t)), (12, .c (.ptr 0 0)), (15, .c (.ptr 1 0)), (16, .c (.int .i64 limit_38)), (17, .c (.bool found_39)), (19, .c (.ptr 2 0)), (20, .c (.int .i64 c_100.1)), (22, .c (.vec a0_l.length 11 (gL cSProfile dSProfile a0_l))), (23, .c (.int .i64 (((a0_l).length : Int)))), (24, .c (.int .i64 t24_40)), (70, .c (.bool (decide (b1_41 < (a0_l.getD t24_40.toNat dSProfile).ID))))], [.box [.int .i64 0, .int .i64 0, .int .i64 0, .int .i64 0, .int .i64 0, .str ByteArray.empty, .int .i64 0, .int .i64 0, .int .i64 0, .int .i64 0, .raw (.slice none 0 0)], .box [.int .i64 b1_41, .int .i64 b1_42, .int .i64 b1_43, .int .i64 b1_44, .int .i64 b1_45, .str b1_46, .int .i64 b1_47, .int .i64 b1_48, .int .i64 b1_49, .int .i64 b1_50, .vec b1_51.length 2 (gL cSPeriod dSPeriod b1_51)], .box [.int .i64 ((a0_l.getD t24_40.toNat dSProfile).ID), .int .i64 ((a0_l.getD t24_40.toNat dSProfile).Level), .int .i64 ((a0_l.getD t24_40.toNat dSProfile).Purpose), .int .i64 ((a0_l.getD t24_40.toNat dSProfile).Kind), .int .i64 ((a0_l.getD t24_40.toNat dSProfile).Conn), .str ((a0_l.getD t24_40.toNat dSProfile).Txn), .int .i64 ((a0_l.getD t24_40.toNat dSProfile).Span_From), .int .i64 ((a0_l.getD t24_40.toNat dSProfile).Span_To), .int .i64 ((a0_l.getD t24_40.toNat dSProfile).Start), .int .i64 ((a0_l.getD t24_40.toNat dSProfile).Duration), .vec ((a0_l.getD t24_40.toNat dSProfile).Periods).length 2 (gL cSPeriod dSPeriod ((a0_l.getD t24_40.toNat dSProfile).Periods))]]⟩) (sub_gen [0, 1, 2] rfl rfl ⟨zc rfl rfl, zc rfl rfl, zc rfl rfl, zc rfl rfl, zc rfl rfl, zc rfl rfl, zc rfl rfl, zc rfl rfl, zc rfl rfl, zc rfl rfl, zc rfl rfl, zc rfl rfl, zc rfl rfl, zc rfl rfl, zc rfl rfl, trivial⟩ ⟨⟨_, rfl, ⟨ii rfl rfl, ii rfl rfl, ii rfl rfl, ii rfl rfl, ii rfl rfl, ii rfl rfl, ii rfl rfl, ii rfl rfl, ii rfl rfl, ii rfl rfl, ii rfl rfl, trivial⟩⟩, ⟨_, rfl, ⟨ii rfl rfl, ii rfl rfl, ii rfl rfl, ii rfl rfl, ii rfl rfl, ii rfl rfl, ii rfl rfl, ii rfl rfl, ii rfl rfl, ii rfl rfl, ii rfl rfl, trivial⟩⟩, ⟨_, rfl, ⟨ii rfl rfl, ii rfl rfl, ii rfl rfl, ii rfl rfl, ii rfl rfl, ii rfl rfl, ii rfl rfl, ii rfl rfl, ii rfl rfl, ii rfl rfl, ii rfl rfl, trivial⟩⟩, trivial⟩) ?_
            refine SOps.nil ?_
            rcases cond_out h with ⟨g106, h⟩ | ⟨g106, h⟩
            · refine SCode.cond_t rfl g106 ?_
              refine SCode.region (show SOps _ _ _ [0, 1, 2, 3, 4] _ _ from ?_)
              refine SOps.q rfl (.plain rfl) rfl (q_load_ptr_all rfl rfl rfl rfl rfl ty31) ?_
              refine SOps.q rfl (.plain rfl) rfl (q_move rfl rfl) ?_
              refine SOps.e rfl (.plain rfl) (e_store_box rfl rfl rfl rfl rfl ty31 rfl rfl rfl rfl) ?_
              refine SOps.q rfl (.plain rfl) rfl (q_assign rfl rfl) ?_
              refine SOps.q rfl (.plain rfl) rfl (q_assign rfl rfl) ?_
              refine SOps.sub (st' := ⟨[(1, .c (.int .i64 a1_purpose)), (2, .c (.int .i64 a2_conn)), (3, .c (.str a3_txn)), (4, .c (.int .i64 a4_start)), (5, .c (.int .i64 a5_t)), (12, .c (.ptr 0 0)), (15, .c (.ptr 1 0)), (16, .c (.int .i64 c_100.1)), (17, .c (.bool true)), (22, .c (.vec a0_l.length 11 (gL cSProfile dSProfile a0_l))), (23, .c (.int .i64 (((a0_l).length : Int)))), (24, .c (.int .i64 t24_40))], [.box [.int .i64 0, .int .i64 0, .int .i64 0, .int .i64 0, .int .i64 0, .str ByteArray.empty, .int .i64 0, .int .i64 0, .int .i64 0, .int .i64 0, .raw (.slice none 0 0)], .box [.int .i64 ((a0_l.getD t24_40.toNat dSProfile).ID), .int .i64 ((a0_l.getD t24_40.toNat dSProfile).Level), .int .i64 ((a0_l.getD t24_40.toNat dSProfile).Purpose), .int .i64 ((a0_l.getD t24_40.toNat dSProfile).Kind), .int .i64 ((a0_l.getD t24_40.toNat dSProfile).Conn), .str ((a0_l.getD t24_40.toNat dSProfile).Txn), .int .i64 ((a0_l.getD t24_40.toNat dSProfile).Span_From), .int .i64 ((a0_l.getD t24_40.toNat dSProfile).Span_To), .int .i64 ((a0_l.getD t24_40.toNat dSProfile).Start), .int .i64 ((a0_l.getD t24_40.toNat dSProfile).Duration), .vec ((a0_l.getD t24_40.toNat dSProfile).Periods).length 2 (gL cSPeriod dSPeriod ((a0_l.getD t24_40.toNat dSProfile).Periods))]]⟩) (sub_gen [0, 1] rfl rfl ⟨zc rfl rfl, zc rfl rfl, zc rfl rfl, zc rfl rfl, zc rfl rfl, zc rfl rfl, zc rfl rfl, zc rfl rfl, zc rfl rfl, zc rfl rfl, zc rfl rfl, zc rfl rfl, trivial⟩ ⟨⟨_, rfl, ⟨ii rfl rfl, ii rfl rfl, ii rfl rfl, ii rfl rfl, ii rfl rfl, ii rfl rfl, ii rfl rfl, ii rfl rfl, ii rfl rfl, ii rfl rfl, ii rfl rfl, trivial⟩⟩, ⟨_, rfl, ⟨ii rfl rfl, ii rfl rfl, ii rfl rfl, ii rfl rfl, ii rfl rfl, ii rfl rfl, ii rfl rfl, ii rfl rfl, ii rfl rfl, ii rfl rfl, ii rfl rfl, trivial⟩⟩, trivial⟩) ?_
              refine SOps.nil ?_
              exact ⟨(c_100.1, true, (a0_l.getD t24_40.toNat dSProfile).ID, (a0_l.getD t24_40.toNat dSProfile).Level, (a0_l.getD t24_40.toNat dSProfile).Purpose, (a0_l.getD t24_40.toNat dSProfile).Kind, (a0_l.getD t24_40.toNat dSProfile).Conn, (a0_l.getD t24_40.toNat dSProfile).Txn, (a0_l.getD t24_40.toNat dSProfile).Span_From, (a0_l.getD t24_40.toNat dSProfile).Span_To, (a0_l.getD t24_40.toNat dSProfile).Start, (a0_l.getD t24_40.toNat dSProfile).Duration, (a0_l.getD t24_40.toNat dSProfile).Periods), h, sub_gen [0, 1] rfl rfl ⟨zc rfl rfl, zc rfl rfl, zc rfl rfl, zc rfl rfl, zc rfl rfl, zc rfl rfl, zc rfl rfl, zc rfl rfl, zc rfl rfl, zc rfl rfl, zc rfl rfl, zc rfl rfl, trivial⟩ ⟨⟨_, rfl, ⟨ii rfl rfl, ii rfl rfl, ii rfl rfl, ii rfl rfl, ii rfl rfl, ii rfl rfl, ii rfl rfl, ii rfl rfl, ii rfl rfl, ii rfl rfl, ii rfl rfl, trivial⟩⟩, ⟨_, rfl, ⟨ii rfl rfl, ii rfl rfl, ii rfl rfl, ii rfl rfl, ii rfl rfl, ii rfl rfl, ii rfl rfl, ii rfl rfl, ii rfl rfl, ii rfl rfl, ii rfl rfl, trivial⟩⟩, trivial⟩⟩
            refine SCode.cond_f rfl g106 ?_
            refine SCode.skip ?_
            exact ⟨(limit_38, found_39, b1_41, b1_42, b1_43, b1_44, b1_45, b1_46, b1_47, b1_48, b1_49, b1_50, b1_51), h, sub_gen [0, 1] rfl rfl ⟨zc rfl rfl, zc rfl rfl, zc rfl rfl, zc rfl rfl, zc rfl rfl, zc rfl rfl, zc rfl rfl, zc rfl rfl, zc rfl rfl, zc rfl rfl, zc rfl rfl, zc rfl rfl, trivial⟩ ⟨⟨_, rfl, ⟨ii rfl rfl, ii rfl rfl, ii rfl rfl, ii rfl rfl, ii rfl rfl, ii rfl rfl, ii rfl rfl, ii rfl rfl, ii rfl rfl, ii rfl rfl, ii rfl rfl, trivial⟩⟩, ⟨_, rfl, ⟨ii rfl rfl, ii rfl rfl, ii rfl rfl, ii rfl rfl, ii rfl rfl, ii rfl rfl, ii rfl rfl, ii rfl rfl, ii rfl rfl, ii rfl rfl, ii rfl rfl, trivial⟩⟩, trivial⟩⟩
          refine SCode.region (show SOps _ _ _ [0, 1, 2, 3, 4, 5, 6, 7, 8, 9, 10, 11, 12, 13, 14, 15, 16, 17, 18, 19, 20, 21, 22] _ _ from ?_)
          refine SOps.q rfl (.plain rfl) rfl (q_move rfl rfl) ?_
          refine SOps.q rfl (.plain rfl) rfl (q_not rfl rfl) ?_
          refine SOps.q rfl (.plain rfl) rfl (q_move rfl rfl) ?_
          refine SOps.q rfl (.guard 2 50 false rfl rfl (gF g103)) rfl (q_field_ptr rfl rfl fd31_1) ?_
          refine SOps.q rfl (.guard 2 50 false rfl rfl (gF g103)) rfl (q_load_ptr rfl rfl rfl rfl ty3) ?_
          refine SOps.q rfl (.guard 2 50 false rfl rfl (gF g103)) rfl (q_field_ptr rfl rfl fd31_1) ?_
          refine SOps.q rfl (.guard 2 50 false rfl rfl (gF g103)) rfl (q_load_ptr rfl rfl rfl rfl ty3) ?_
          refine SOps.q rfl (.guard 2 50 false rfl rfl (gF g103)) rfl (q_gtr rfl rfl rfl) ?_
          refine SOps.q rfl (.plain rfl) rfl (q_pick_f rfl rfl g103 rfl) ?_
          refine SOps.q rfl (.plain rfl) rfl (q_move rfl rfl) ?_
          refine SOps.q rfl (.guard 9 57 false rfl rfl (gF g104)) rfl (q_field_ptr rfl rfl fd31_1) ?_
          refine SOps.q rfl (.guard 9 57 false rfl rfl (gF g104)) rfl (q_load_ptr rfl rfl rfl rfl ty3) ?_
          refine SOps.q rfl (.guard 9 57 false rfl rfl (gF g104)) rfl (q_field_ptr rfl rfl fd31_1) ?_
          refine SOps.q rfl (.guard 9 57 false rfl rfl (gF g104)) rfl (q_load_ptr rfl rfl rfl rfl ty3) ?_
          refine SOps.q rfl (.guard 9 57 false rfl rfl (gF g104)) rfl (q_eql rfl rfl rfl) ?_
          refine SOps.q rfl (.guard 9 57 false rfl rfl (gF g104)) rfl (q_move rfl rfl) ?_
          refine SOps.skip rfl 15 63 true rfl rfl (.inl (gF g105)) rfl ?_
          refine SOps.skip rfl 15 63 true rfl rfl (.inl (gF g105)) rfl ?_
          refine SOps.skip rfl 15 63 true rfl rfl (.inl (gF g105)) rfl ?_
          refine SOps.skip rfl 15 63 true rfl rfl (.inl (gF g105)) rfl ?_
          refine SOps.skip rfl 15 63 true rfl rfl (.inl (gF g105)) rfl ?_
          refine SOps.q rfl (.guard 9 57 false rfl rfl (gF g104)) rfl (q_pick_f rfl rfl g105 rfl) ?_
          refine SOps.q rfl (.plain rfl) rfl (q_pick_f rfl rfl g104 rfl) ?_
          refine SOps.sub (st' := ⟨[(1, .c (.int .i64 a1_purpose)), (2, .c (.int .i64 a2_conn)), (3, .c (.str a3_txn)), (4, .c (.int .i64 a4_start)), (5, .c (.int .i64 a5_t)), (12, .c (.ptr 0 0)), (15, .c (.ptr 1 0)), (16, .c (.int .i64 limit_38)), (17, .c (.bool found_39)), (19, .c (.ptr 2 0)), (20, .c (.int .i64 c_100.1)), (22, .c (.vec a0_l.length 11 (gL cSProfile dSProfile a0_l))), (23, .c (.int .i64 (((a0_l).length : Int)))), (24, .c (.int .i64 t24_40)), (70, .c (.bool false))], [.box [.int .i64 0, .int .i64 0, .int .i64 0, .int .i64 0, .int .i64 0, .str ByteArray.empty, .int .i64 0, .int .i64 0, .int .i64 0, .int .i64 0, .raw (.slice none 0 0)], .box [.int .i64 b1_41, .int .i64 b1_42, .int .i64 b1_43, .int .i64 b1_44, .int .i64 b1_45, .str b1_46, .int .i64 b1_47, .int .i64 b1_48, .int .i64 b1_49, .int .i64 b1_50, .vec b1_51.length 2 (gL cSPeriod dSPeriod b1_51)], .box [.int .i64 ((a0_l.getD t24_40.toNat dSProfile).ID), .int .i64 ((a0_l.getD t24_40.toNat dSProfile).Level), .int .i64 ((a0_l.getD t24_40.toNat dSProfile).Purpose), .int .i64 ((a0_l.getD t24_40.toNat dSProfile).Kind), .int .i64 ((a0_l.getD t24_40.toNat dSProfile).Conn), .str ((a0_l.getD t24_40.toNat dSProfile).Txn), .int .i64 ((a0_l.getD t24_40.toNat dSProfile).Span_From), .int .i64 ((a0_l.getD t24_40.toNat dSProfile).Span_To), .int .i64 ((a0_l.getD t24_40.toNat dSProfile).Start), .int .i64 ((a0_l.getD t24_40.toNat dSProfile).Duration), .vec ((a0_l.getD t24_40.toNat dSProfile).Periods).length 2 (gL cSPeriod dSPeriod ((a0_l.getD t24_40.toNat dSProfile).Periods))]]⟩) (sub_gen [0, 1, 2] rfl rfl ⟨zc rfl rfl, zc rfl rfl, zc rfl rfl, zc rfl rfl, zc rfl rfl, zc rfl rfl, zc rfl rfl, zc rfl rfl, zc rfl rfl, zc rfl rfl, zc rfl rfl, zc rfl rfl, zc rfl rfl, zc rfl rfl, zc rfl rfl, trivial⟩ ⟨⟨_, rfl, ⟨ii rfl rfl, ii rfl rfl, ii rfl rfl, ii rfl rfl, ii rfl rfl, ii rfl rfl, ii rfl rfl, ii rfl rfl, ii rfl rfl, ii rfl rfl, ii rfl rfl, trivial⟩⟩, ⟨_, rfl, ⟨ii rfl rfl, ii rfl rfl, ii rfl rfl, ii rfl rfl, ii rfl rfl, ii rfl rfl, ii rfl rfl, ii rfl rfl, ii rfl rfl, ii rfl rfl, ii rfl rfl, trivial⟩⟩, ⟨_, rfl, ⟨ii rfl rfl, ii rfl rfl, ii rfl rfl, ii rfl rfl, ii rfl rfl, ii rfl rfl, ii rfl rfl, ii rfl rfl, ii rfl rfl, ii rfl rfl, ii rfl rfl, trivial⟩⟩, trivial⟩) ?_
          refine SOps.nil ?_
          refine SCode.cond_f rfl rfl ?_
          refine SCode.skip ?_
          exact ⟨(limit_38, found_39, b1_41, b1_42, b1_43, b1_44, b1_45, b1_46, b1_47, b1_48, b1_49, b1_50, b1_51), h, sub_gen [0, 1] rfl rfl ⟨zc rfl rfl, zc rfl rfl, zc rfl rfl, zc rfl rfl, zc rfl rfl, zc rfl rfl, zc rfl rfl, zc rfl rfl, zc rfl rfl, zc rfl rfl, zc rfl rfl, zc rfl rfl, trivial⟩ ⟨⟨_, rfl, ⟨ii rfl rfl, ii rfl rfl, ii rfl rfl, ii rfl rfl, ii rfl rfl, ii rfl rfl, ii rfl rfl, ii rfl rfl, ii rfl rfl, ii rfl rfl, ii rfl rfl, trivial⟩⟩, ⟨_, rfl, ⟨ii rfl rfl, ii rfl rfl, ii rfl rfl, ii rfl rfl, ii rfl rfl, ii rfl rfl, ii rfl rfl, ii rfl rfl, ii rfl rfl, ii rfl rfl, ii rfl rfl, trivial⟩⟩, trivial⟩⟩
        rintro ⟨limit_81, found_82, b1_83, b1_84, b1_85, b1_86, b1_87, b1_88, b1_89, b1_90, b1_91, b1_92, b1_93⟩ h
        show SCode _ _ _ ⟨[(1, .c (.int .i64 a1_purpose)), (2, .c (.int .i64 a2_conn)), (3, .c (.str a3_txn)), (4, .c (.int .i64 a4_start)), (5, .c (.int .i64 a5_t)), (12, .c (.ptr 0 0)), (15, .c (.ptr 1 0)), (16, .c (.int .i64 limit_81)), (17, .c (.bool found_82)), (22, .c (.vec a0_l.length 11 (gL cSProfile dSProfile a0_l))), (23, .c (.int .i64 (((a0_l).length : Int)))), (24, .c (.int .i64 t24_40))], [.box [.int .i64 0, .int .i64 0, .int .i64 0, .int .i64 0, .int .i64 0, .str ByteArray.empty, .int .i64 0, .int .i64 0, .int .i64 0, .int .i64 0, .raw (.slice none 0 0)], .box [.int .i64 b1_83, .int .i64 b1_84, .int .i64 b1_85, .int .i64 b1_86, .int .i64 b1_87, .str b1_88, .int .i64 b1_89, .int .i64 b1_90, .int .i64 b1_91, .int .i64 b1_92, .vec b1_93.length 2 (gL cSPeriod dSPeriod b1_93)]]⟩ _
        replace h : chargenetref16_leading_p94 t24_40 (fun limit_38 found_39 t24_40 b1_41 b1_42 b1_43 b1_44 b1_45 b1_46 b1_47 b1_48 b1_49 b1_50 b1_51 => chargenetref16_leading_l79 F a0_l a1_purpose a2_conn a3_txn a4_start a5_t n_79 limit_38 found_39 t24_40 b1_41 b1_42 b1_43 b1_44 b1_45 b1_46 b1_47 b1_48 b1_49 b1_50 b1_51) limit_81 found_82 b1_83 b1_84 b1_85 b1_86 b1_87 b1_88 b1_89 b1_90 b1_91 b1_92 b1_93 = some r := h
        unfold chargenetref16_leading_p94 at h
        refine SCode.region (show SOps _ _ _ [0, 1] _ _ from ?_)
        refine SOps.q rfl (.plain rfl) rfl (q_add rfl rfl rfl) ?_
        refine SOps.q rfl (.plain rfl) rfl (q_move rfl rfl) ?_
        refine SOps.sub (st' := ⟨[(1, .c (.int .i64 a1_purpose)), (2, .c (.int .i64 a2_conn)), (3, .c (.str a3_txn)), (4, .c (.int .i64 a4_start)), (5, .c (.int .i64 a5_t)), (12, .c (.ptr 0 0)), (15, .c (.ptr 1 0)), (16, .c (.int .i64 limit_81)), (17, .c (.bool found_82)), (22, .c (.vec a0_l.length 11 (gL cSProfile dSProfile a0_l))), (23, .c (.int .i64 (((a0_l).length : Int)))), (24, .c (.int .i64 (IntKind.wrap .i64 (t24_40 + 1))))], [.box [.int .i64 0, .int .i64 0, .int .i64 0, .int .i64 0, .int .i64 0, .str ByteArray.empty, .int .i64 0, .int .i64 0, .int .i64 0, .int .i64 0, .raw (.slice none 0 0)], .box [.int .i64 b1_83, .int .i64 b1_84, .int .i64 b1_85, .int .i64 b1_86, .int .i64 b1_87, .str b1_88, .int .i64 b1_89, .int .i64 b1_90, .int .i64 b1_91, .int .i64 b1_92, .vec b1_93.length 2 (gL cSPeriod dSPeriod b1_93)]]⟩) (sub_gen [0, 1] rfl rfl ⟨zc rfl rfl, zc rfl rfl, zc rfl rfl, zc rfl rfl, zc rfl rfl, zc rfl rfl, zc rfl rfl, zc rfl rfl, zc rfl rfl, zc rfl rfl, zc rfl rfl, zc rfl rfl, trivial⟩ ⟨⟨_, rfl, ⟨ii rfl rfl, ii rfl rfl, ii rfl rfl, ii rfl rfl, ii rfl rfl, ii rfl rfl, ii rfl rfl, ii rfl rfl, ii rfl rfl, ii rfl rfl, ii rfl rfl, trivial⟩⟩, ⟨_, rfl, ⟨ii rfl rfl, ii rfl rfl, ii rfl rfl, ii rfl rfl, ii rfl rfl, ii rfl rfl, ii rfl rfl, ii rfl rfl, ii rfl rfl, ii rfl rfl, ii rfl rfl, trivial⟩⟩, trivial⟩) ?_
        refine SOps.nil ?_
        exact ⟨(n_79, (limit_81, found_82, IntKind.wrap .i64 (t24_40 + 1), b1_83, b1_84, b1_85, b1_86, b1_87, b1_88, b1_89, b1_90, b1_91, b1_92, b1_93)), h, Nat.lt_succ_self n_79, sub_gen [0, 1] rfl rfl ⟨zc rfl rfl, zc rfl rfl, zc rfl rfl, zc rfl rfl, zc rfl rfl, zc rfl rfl, zc rfl rfl, zc rfl rfl, zc rfl rfl, zc rfl rfl, zc rfl rfl, zc rfl rfl, trivial⟩ ⟨⟨_, rfl, ⟨ii rfl rfl, ii rfl rfl, ii rfl rfl, ii rfl rfl, ii rfl rfl, ii rfl rfl, ii rfl rfl, ii rfl rfl, ii rfl rfl, ii rfl rfl, ii rfl rfl, trivial⟩⟩, ⟨_, rfl, ⟨ii rfl rfl, ii rfl rfl, ii rfl rfl, ii rfl rfl, ii rfl rfl, ii rfl rfl, ii rfl rfl, ii rfl rfl, ii rfl rfl, ii rfl rfl, ii rfl rfl, trivial⟩⟩, trivial⟩⟩
      refine SCode.cond_f rfl g80 ?_
      refine SCode.exit ?_
      exact ⟨(limit_38, found_39, b1_41, b1_42, b1_43, b1_44, b1_45, b1_46, b1_47, b1_48, b1_49, b1_50, b1_51), h, sub_gen [0, 1] rfl rfl ⟨zc rfl rfl, zc rfl rfl, zc rfl rfl, zc rfl rfl, trivial⟩ ⟨⟨_, rfl, ⟨ii rfl rfl, ii rfl rfl, ii rfl rfl, ii rfl rfl, ii rfl rfl, ii rfl rfl, ii rfl rfl, ii rfl rfl, ii rfl rfl, ii rfl rfl, ii rfl rfl, trivial⟩⟩, ⟨_, rfl, ⟨ii rfl rfl, ii rfl rfl, ii rfl rfl, ii rfl rfl, ii rfl rfl, ii rfl rfl, ii rfl rfl, ii rfl rfl, ii rfl rfl, ii rfl rfl, ii rfl rfl, trivial⟩⟩, trivial⟩⟩
  rintro ⟨limit_1, found_2, b1_3, b1_4, b1_5, b1_6, b1_7, b1_8, b1_9, b1_10, b1_11, b1_12, b1_13⟩ h
  show SCode _ _ _ ⟨[(12, .c (.ptr 0 0)), (15, .c (.ptr 1 0)), (16, .c (.int .i64 limit_1)), (17, .c (.bool found_2))], [.box [.int .i64 0, .int .i64 0, .int .i64 0, .int .i64 0, .int .i64 0, .str ByteArray.empty, .int .i64 0, .int .i64 0, .int .i64 0, .int .i64 0, .raw (.slice none 0 0)], .box [.int .i64 b1_3, .int .i64 b1_4, .int .i64 b1_5, .int .i64 b1_6, .int .i64 b1_7, .str b1_8, .int .i64 b1_9, .int .i64 b1_10, .int .i64 b1_11, .int .i64 b1_12, .vec b1_13.length 2 (gL cSPeriod dSPeriod b1_13)]]⟩ _
  replace h : chargenetref16_leading_p14 limit_1 found_2 b1_3 b1_4 b1_5 b1_6 b1_7 b1_8 b1_9 b1_10 b1_11 b1_12 b1_13 = some r := h
  unfold chargenetref16_leading_p14 at h
  refine SCode.seq ?_
  refine SCode.region (show SOps _ _ _ [0, 1, 2, 3, 4, 5] _ _ from ?_)
  refine SOps.q rfl (.plain rfl) rfl (q_load_ptr_all rfl rfl rfl rfl rfl ty31) ?_
  refine SOps.q rfl (.plain rfl) rfl (q_move rfl rfl) ?_
  refine SOps.q rfl (.plain rfl) rfl (q_move rfl rfl) ?_
  refine SOps.e rfl (.plain rfl) (e_store_box rfl rfl rfl rfl rfl ty31 rfl rfl rfl rfl) ?_
  refine SOps.q rfl (.plain rfl) rfl (q_assign rfl rfl) ?_
  refine SOps.q rfl (.plain rfl) rfl (q_assign rfl rfl) ?_
  refine SOps.sub (st' := ⟨[(12, .c (.ptr 0 0)), (13, .c (.int .i64 limit_1)), (14, .c (.bool found_2))], [.box [.int .i64 b1_3, .int .i64 b1_4, .int .i64 b1_5, .int .i64 b1_6, .int .i64 b1_7, .str b1_8, .int .i64 b1_9, .int .i64 b1_10, .int .i64 b1_11, .int .i64 b1_12, .vec b1_13.length 2 (gL cSPeriod dSPeriod b1_13)]]⟩) (sub_gen [0] rfl rfl ⟨zc rfl rfl, zc rfl rfl, zc rfl rfl, trivial⟩ ⟨⟨_, rfl, ⟨ii rfl rfl, ii rfl rfl, ii rfl rfl, ii rfl rfl, ii rfl rfl, ii rfl rfl, ii rfl rfl, ii rfl rfl, ii rfl rfl, ii rfl rfl, ii rfl rfl, trivial⟩⟩, trivial⟩) ?_
  refine SOps.nil ?_
  refine SCode.ret ?_
  obtain rfl := Option.some.inj h
  exact ⟨⟨[(12, .c (.ptr 0 0)), (13, .c (.int .i64 limit_1)), (14, .c (.bool found_2))], [.box [.int .i64 b1_3, .int .i64 b1_4, .int .i64 b1_5, .int .i64 b1_6, .int .i64 b1_7, .str b1_8, .int .i64 b1_9, .int .i64 b1_10, .int .i64 b1_11, .int .i64 b1_12, .vec b1_13.length 2 (gL cSPeriod dSPeriod b1_13)]]⟩, _, sub_gen [0] rfl rfl ⟨zc rfl rfl, zc rfl rfl, zc rfl rfl, trivial⟩ ⟨⟨_, rfl, ⟨ii rfl rfl, ii rfl rfl, ii rfl rfl, ii rfl rfl, ii rfl rfl, ii rfl rfl, ii rfl rfl, ii rfl rfl, ii rfl rfl, ii rfl rfl, ii rfl rfl, trivial⟩⟩, trivial⟩, resA3 (v1 := .a [.int .i64 b1_3, .int .i64 b1_4, .int .i64 b1_5, .int .i64 b1_6, .int .i64 b1_7, .str b1_8, .int .i64 b1_9, .int .i64 b1_10, .int .i64 b1_11, .int .i64 b1_12, .vec b1_13.length 2 (gL cSPeriod dSPeriod b1_13)]) (v2 := .c (.int .i64 limit_1)) (v3 := .c (.bool found_2)) rfl ⟨_, rfl, rfl, ty31⟩ rfl rfl, rfl⟩
set_option maxRecDepth 100000 in
set_option maxHeartbeats 8000000 in
theorem chargenetref16_decide_ok (F : Nat) (a0_l : List SProfile) (a1_conn : Int) (a2_txn : ByteArray) (a3_start : Int) (a4_t : Int) (r : Int × Int × Bool) (h : chargenetref16_decide F a0_l a1_conn a2_txn a3_start a4_t = some r) :
    SFun Try.prog 25 [] [.c (.vec a0_l.length 11 (gL cSProfile dSProfile a0_l)), .c (.int .i64 a1_conn), .c (.str a2_txn), .c (.int .i64 a3_start), .c (.int .i64 a4_t)] (fun x _ => x = .t [.c (.int .i64 r.1), .c (.int .i64 r.2.1), .c (.bool r.2.2)]) := by
  refine SFun.of (n := 70) Try.func25 rfl rfl rfl ?_
  unfold chargenetref16_decide at h
  show SCode _ _ _ ⟨[(0, .c (.vec a0_l.length 11 (gL cSProfile dSProfile a0_l))), (1, .c (.int .i64 a1_conn)), (2, .c (.str a2_txn)), (3, .c (.int .i64 a3_start)), (4, .c (.int .i64 a4_t))], []⟩ _
  refine SCode.seq ?_
  refine SCode.region (show SOps _ _ _ [0, 1, 2] _ _ from ?_)
  refine SOps.q rfl (.plain rfl) rfl (q_assign rfl rfl) ?_
  refine SOps.q rfl (.plain rfl) rfl (q_assign rfl rfl) ?_
  refine SOps.q rfl (.plain rfl) rfl (q_assign rfl rfl) ?_
  refine SOps.sub (st' := ⟨[(0, .c (.vec a0_l.length 11 (gL cSProfile dSProfile a0_l))), (1, .c (.int .i64 a1_conn)), (2, .c (.str a2_txn)), (3, .c (.int .i64 a3_start)), (4, .c (.int .i64 a4_t))], []⟩) (sub_gen [] rfl rfl ⟨zc rfl rfl, zc rfl rfl, zc rfl rfl, zc rfl rfl, zc rfl rfl, trivial⟩ trivial) ?_
  refine SOps.nil ?_
  refine SCode.seq ?_
  obtain ⟨c_1, g2, h⟩ := bind_out h
  try dsimp only at h
  refine SCode.region (show SOps _ _ _ [0, 1, 2, 3, 4, 5, 6, 7, 8, 9, 10, 11, 12, 13] _ _ from ?_)
  refine SOps.q rfl (.plain rfl) rfl (q_move rfl rfl) ?_
  refine SOps.q rfl (.plain rfl) rfl (q_move rfl rfl) ?_
  refine SOps.q rfl (.plain rfl) rfl (q_move rfl rfl) ?_
  refine SOps.q rfl (.plain rfl) rfl (q_move rfl rfl) ?_
  refine SOps.q rfl (.plain rfl) rfl (q_move rfl rfl) ?_
  refine SOps.q rfl (.plain rfl) rfl (q_call (chargenetref16_leading_ok F a0_l 3 a1_conn a2_txn a3_start a4_t c_1 g2) [] rfl fn36 ⟨⟨_, rfl, .inl ⟨rfl, rfl⟩⟩, ⟨_, rfl, .inl ⟨rfl, rfl⟩⟩, ⟨_, rfl, .inl ⟨rfl, rfl⟩⟩, ⟨_, rfl, .inl ⟨rfl, rfl⟩⟩, ⟨_, rfl, .inl ⟨rfl, rfl⟩⟩, ⟨_, rfl, .inl ⟨rfl, rfl⟩⟩, trivial⟩ (.inl rfl)) ?_
  refine SOps.q rfl (.plain rfl) rfl (q_move rfl rfl) ?_
  refine SOps.q rfl (.plain rfl) rfl (q_extract rfl rfl rfl) ?_
  refine SOps.q rfl (.plain rfl) rfl (q_extract rfl rfl rfl) ?_
  refine SOps.q rfl (.plain rfl) rfl (q_extract rfl rfl rfl) ?_
  refine SOps.e rfl (.plain rfl) (e_alloc rfl rfl rfl z31) ?_
  refine SOps.e rfl (.plain rfl) (e_store_box rfl rfl rfl rfl rfl ty31 rfl rfl rfl rfl) ?_
  refine SOps.q rfl (.plain rfl) rfl (q_assign rfl rfl) ?_
  refine SOps.q rfl (.plain rfl) rfl (q_assign rfl rfl) ?_
  refine SOps.sub (st' := ⟨[(0, .c (.vec a0_l.length 11 (gL cSProfile dSProfile a0_l))), (1, .c (.int .i64 a1_conn)), (2, .c (.str a2_txn)), (3, .c (.int .i64 a3_start)), (4, .c (.int .i64 a4_t)), (13, .c (.ptr 0 0)), (14, .c (.int .i64 c_1.2.1)), (15, .c (.bool c_1.2.2))], [.box [.int .i64 c_1.1.ID, .int .i64 c_1.1.Level, .int .i64 c_1.1.Purpose, .int .i64 c_1.1.Kind, .int .i64 c_1.1.Conn, .str c_1.1.Txn, .int .i64 c_1.1.Span_From, .int .i64 c_1.1.Span_To, .int .i64 c_1.1.Start, .int .i64 c_1.1.Duration, .vec c_1.1.Periods.length 2 (gL cSPeriod dSPeriod c_1.1.Periods)]]⟩) (sub_gen [0] rfl rfl ⟨zc rfl rfl, zc rfl rfl, zc rfl rfl, zc rfl rfl, zc rfl rfl, zc rfl rfl, zc rfl rfl, zc rfl rfl, trivial⟩ ⟨⟨_, rfl, ⟨ii rfl rfl, ii rfl rfl, ii rfl rfl, ii rfl rfl, ii rfl rfl, ii rfl rfl, ii rfl rfl, ii rfl rfl, ii rfl rfl, ii rfl rfl, ii rfl rfl, trivial⟩⟩, trivial⟩) ?_
  refine SOps.nil ?_
  refine SCode.join (σ := Int × Bool × Int × Int × Int × Int × Int × ByteArray × Int × Int × Int × Int × (List SPeriod)) (S := fun s => ⟨[(0, .c (.vec a0_l.length 11 (gL cSProfile dSProfile a0_l))), (1, .c (.int .i64 a1_conn)), (2, .c (.str a2_txn)), (3, .c (.int .i64 a3_start)), (4, .c (.int .i64 a4_t)), (13, .c (.ptr 0 0)), (14, .c (.int .i64 s.1)), (15, .c (.bool s.2.1))], [.box [.int .i64 s.2.2.1, .int .i64 s.2.2.2.1, .int .i64 s.2.2.2.2.1, .int .i64 s.2.2.2.2.2.1, .int .i64 s.2.2.2.2.2.2.1, .str s.2.2.2.2.2.2.2.1, .int .i64 s.2.2.2.2.2.2.2.2.1, .int .i64 s.2.2.2.2.2.2.2.2.2.1, .int .i64 s.2.2.2.2.2.2.2.2.2.2.1, .int .i64 s.2.2.2.2.2.2.2.2.2.2.2.1, .vec s.2.2.2.2.2.2.2.2.2.2.2.2.length 2 (gL cSPeriod dSPeriod s.2.2.2.2.2.2.2.2.2.2.2.2)]]⟩) (g := fun s => chargenetref16_decide_p24 F a0_l a1_conn a2_txn a3_start a4_t s.1 s.2.1 s.2.2.1 s.2.2.2.1 s.2.2.2.2.1 s.2.2.2.2.2.1 s.2.2.2.2.2.2.1 s.2.2.2.2.2.2.2.1 s.2.2.2.2.2.2.2.2.1 s.2.2.2.2.2.2.2.2.2.1 s.2.2.2.2.2.2.2.2.2.2.1 s.2.2.2.2.2.2.2.2.2.2.2.1 s.2.2.2.2.2.2.2.2.2.2.2.2 = some r) ?_ ?_
  rotate_left
  · refine SCode.seq ?_
    refine SCode.region (show SOps _ _ _ [0, 1] _ _ from ?_)
    refine SOps.q rfl (.plain rfl) rfl (q_move rfl rfl) ?_
    refine SOps.q rfl (.plain rfl) rfl (q_not rfl rfl) ?_
    refine SOps.sub (st' := ⟨[(0, .c (.vec a0_l.length 11 (gL cSProfile dSProfile a0_l))), (1, .c (.int .i64 a1_conn)), (2, .c (.str a2_txn)), (3, .c (.int .i64 a3_start)), (4, .c (.int .i64 a4_t)), (13, .c (.ptr 0 0)), (14, .c (.int .i64 c_1.2.1)), (15, .c (.bool c_1.2.2)), (30, .c (.bool ((!c_1.2.2))))], [.box [.int .i64 c_1.1.ID, .int .i64 c_1.1.Level, .int .i64 c_1.1.Purpose, .int .i64 c_1.1.Kind, .int .i64 c_1.1.Conn, .str c_1.1.Txn, .int .i64 c_1.1.Span_From, .int .i64 c_1.1.Span_To, .int .i64 c_1.1.Start, .int .i64 c_1.1.Duration, .vec c_1.1.Periods.length 2 (gL cSPeriod dSPeriod c_1.1.Periods)]]⟩) (sub_gen [0] rfl rfl ⟨zc rfl rfl, zc rfl rfl, zc rfl rfl, zc rfl rfl, zc rfl rfl, zc rfl rfl, zc rfl rfl, zc rfl rfl, zc rfl rfl, trivial⟩ ⟨⟨_, rfl, ⟨ii rfl rfl, ii rfl rfl, ii rfl rfl, ii rfl rfl, ii rfl rfl, ii rfl rfl, ii rfl rfl, ii rfl rfl, ii rfl rfl, ii rfl rfl, ii rfl rfl, trivial⟩⟩, trivial⟩) ?_
    refine SOps.nil ?_
    rcases cond_out h with ⟨g25, h⟩ | ⟨g25, h⟩
    · refine SCode.cond_t rfl g25 ?_
      obtain ⟨c_26, g27, h⟩ := bind_out h
      try dsimp only at h
      refine SCode.region (show SOps _ _ _ [0, 1, 2, 3, 4, 5, 6, 7, 8, 9, 10, 11, 12] _ _ from ?_)
      refine SOps.q rfl (.plain rfl) rfl (q_move rfl rfl) ?_
      refine SOps.q rfl (.plain rfl) rfl (q_move rfl rfl) ?_
      refine SOps.q rfl (.plain rfl) rfl (q_move rfl rfl) ?_
      refine SOps.q rfl (.plain rfl) rfl (q_move rfl rfl) ?_
      refine SOps.q rfl (.plain rfl) rfl (q_move rfl rfl) ?_
      refine SOps.q rfl (.plain rfl) rfl (q_call (chargenetref16_leading_ok F a0_l 2 a1_conn a2_txn a3_start a4_t c_26 g27) [] rfl fn36 ⟨⟨_, rfl, .inl ⟨rfl, rfl⟩⟩, ⟨_, rfl, .inl ⟨rfl, rfl⟩⟩, ⟨_, rfl, .inl ⟨rfl, rfl⟩⟩, ⟨_, rfl, .inl ⟨rfl, rfl⟩⟩, ⟨_, rfl, .inl ⟨rfl, rfl⟩⟩, ⟨_, rfl, .inl ⟨rfl, rfl⟩⟩, trivial⟩ (.inl rfl)) ?_
      refine SOps.q rfl (.plain rfl) rfl (q_move rfl rfl) ?_
      refine SOps.q rfl (.plain rfl) rfl (q_extract rfl rfl rfl) ?_
      refine SOps.q rfl (.plain rfl) rfl (q_extract rfl rfl rfl) ?_
      refine SOps.q rfl (.plain rfl) rfl (q_extract rfl rfl rfl) ?_
      refine SOps.e rfl (.plain rfl) (e_store_box rfl rfl rfl rfl rfl ty31 rfl rfl rfl rfl) ?_
      refine SOps.q rfl (.plain rfl) rfl (q_assign rfl rfl) ?_
      refine SOps.q rfl (.plain rfl) rfl (q_assign rfl rfl) ?_
      refine SOps.sub (st' := ⟨[(0, .c (.vec a0_l.length 11 (gL cSProfile dSProfile a0_l))), (1, .c (.int .i64 a1_conn)), (2, .c (.str a2_txn)), (3, .c (.int .i64 a3_start)), (4, .c (.int .i64 a4_t)), (13, .c (.ptr 0 0)), (14, .c (.int .i64 c_26.2.1)), (15, .c (.bool c_26.2.2))], [.box [.int .i64 c_26.1.ID, .int .i64 c_26.1.Level, .int .i64 c_26.1.Purpose, .int .i64 c_26.1.Kind, .int .i64 c_26.1.Conn, .str c_26.1.Txn, .int .i64 c_26.1.Span_From, .int .i64 c_26.1.Span_To, .int .i64 c_26.1.Start, .int .i64 c_26.1.Duration, .vec c_26.1.Periods.length 2 (gL cSPeriod dSPeriod c_26.1.Periods)]]⟩) (sub_gen [0] rfl rfl ⟨zc rfl rfl, zc rfl rfl, zc rfl rfl, zc rfl rfl, zc rfl rfl, zc rfl rfl, zc rfl rfl, zc rfl rfl, trivial⟩ ⟨⟨_, rfl, ⟨ii rfl rfl, ii rfl rfl, ii rfl rfl, ii rfl rfl, ii rfl rfl, ii rfl rfl, ii rfl rfl, ii rfl rfl, ii rfl rfl, ii rfl rfl, ii rfl rfl, trivial⟩⟩, trivial⟩) ?_
      refine SOps.nil ?_
      exact ⟨(c_26.2.1, c_26.2.2, c_26.1.ID, c_26.1.Level, c_26.1.Purpose, c_26.1.Kind, c_26.1.Conn, c_26.1.Txn, c_26.1.Span_From, c_26.1.Span_To, c_26.1.Start, c_26.1.Duration, c_26.1.Periods), h, sub_gen [0] rfl rfl ⟨zc rfl rfl, zc rfl rfl, zc rfl rfl, zc rfl rfl, zc rfl rfl, zc rfl rfl, zc rfl rfl, zc rfl rfl, trivial⟩ ⟨⟨_, rfl, ⟨ii rfl rfl, ii rfl rfl, ii rfl rfl, ii rfl rfl, ii rfl rfl, ii rfl rfl, ii rfl rfl, ii rfl rfl, ii rfl rfl, ii rfl rfl, ii rfl rfl, trivial⟩⟩, trivial⟩⟩
    refine SCode.cond_f rfl g25 ?_
    refine SCode.skip ?_
    exact ⟨(c_1.2.1, c_1.2.2, c_1.1.ID, c_1.1.Level, c_1.1.Purpose, c_1.1.Kind, c_1.1.Conn, c_1.1.Txn, c_1.1.Span_From, c_1.1.Span_To, c_1.1.Start, c_1.1.Duration, c_1.1.Periods), h, sub_gen [0] rfl rfl ⟨zc rfl rfl, zc rfl rfl, zc rfl rfl, zc rfl rfl, zc rfl rfl, zc rfl rfl, zc rfl rfl, zc rfl rfl, trivial⟩ ⟨⟨_, rfl, ⟨ii rfl rfl, ii rfl rfl, ii rfl rfl, ii rfl rfl, ii rfl rfl, ii rfl rfl, ii rfl rfl, ii rfl rfl, ii rfl rfl, ii rfl rfl, ii rfl rfl, trivial⟩⟩, trivial⟩⟩
  rintro ⟨sl_3, sok_4, b0_5, b0_6, b0_7, b0_8, b0_9, b0_10, b0_11, b0_12, b0_13, b0_14, b0_15⟩ h
  show SCode _ _ _ ⟨[(0, .c (.vec a0_l.length 11 (gL cSProfile dSProfile a0_l))), (1, .c (.int .i64 a1_conn)), (2, .c (.str a2_txn)), (3, .c (.int .i64 a3_start)), (4, .c (.int .i64 a4_t)), (13, .c (.ptr 0 0)), (14, .c (.int .i64 sl_3)), (15, .c (.bool sok_4))], [.box [.int .i64 b0_5, .int .i64 b0_6, .int .i64 b0_7, .int .i64 b0_8, .int .i64 b0_9, .str b0_10, .int .i64 b0_11, .int .i64 b0_12, .int .i64 b0_13, .int .i64 b0_14, .vec b0_15.length 2 (gL cSPeriod dSPeriod b0_15)]]⟩ _
  replace h : chargenetref16_decide_p24 F a0_l a1_conn a2_txn a3_start a4_t sl_3 sok_4 b0_5 b0_6 b0_7 b0_8 b0_9 b0_10 b0_11 b0_12 b0_13 b0_14 b0_15 = some r := h
  unfold chargenetref16_decide_p24 at h
  refine SCode.seq ?_
  obtain ⟨c_16, g17, h⟩ := bind_out h
  try dsimp only at h
  refine SCode.region (show SOps _ _ _ [0, 1, 2, 3, 4, 5, 6, 7, 8, 9, 10, 11, 12, 13] _ _ from ?_)
  refine SOps.q rfl (.plain rfl) rfl (q_move rfl rfl) ?_
  refine SOps.q rfl (.plain rfl) rfl (q_move rfl rfl) ?_
  refine SOps.q rfl (.plain rfl) rfl (q_move rfl rfl) ?_
  refine SOps.q rfl (.plain rfl) rfl (q_move rfl rfl) ?_
  refine SOps.q rfl (.plain rfl) rfl (q_move rfl rfl) ?_
  refine SOps.q rfl (.plain rfl) rfl (q_call (chargenetref16_leading_ok F a0_l 1 a1_conn a2_txn a3_start a4_t c_16 g17) [] rfl fn36 ⟨⟨_, rfl, .inl ⟨rfl, rfl⟩⟩, ⟨_, rfl, .inl ⟨rfl, rfl⟩⟩, ⟨_, rfl, .inl ⟨rfl, rfl⟩⟩, ⟨_, rfl, .inl ⟨rfl, rfl⟩⟩, ⟨_, rfl, .inl ⟨rfl, rfl⟩⟩, ⟨_, rfl, .inl ⟨rfl, rfl⟩⟩, trivial⟩ (.inl rfl)) ?_
  refine SOps.q rfl (.plain rfl) rfl (q_move rfl rfl) ?_
  refine SOps.q rfl (.plain rfl) rfl (q_extract rfl rfl rfl) ?_
  refine SOps.q rfl (.plain rfl) rfl (q_extract rfl rfl rfl) ?_
  refine SOps.q rfl (.plain rfl) rfl (q_extract rfl rfl rfl) ?_
  refine SOps.e rfl (.plain rfl) (e_alloc rfl rfl rfl z31) ?_
  refine SOps.e rfl (.plain rfl) (e_store_box rfl rfl rfl rfl rfl ty31 rfl rfl rfl rfl) ?_
  refine SOps.q rfl (.plain rfl) rfl (q_assign rfl rfl) ?_
  refine SOps.q rfl (.plain rfl) rfl (q_assign rfl rfl) ?_
  refine SOps.sub (st' := ⟨[(13, .c (.ptr 0 0)), (14, .c (.int .i64 sl_3)), (15, .c (.bool sok_4)), (16, .c (.ptr 1 0)), (17, .c (.int .i64 c_16.2.1)), (18, .c (.bool c_16.2.2))], [.box [.int .i64 b0_5, .int .i64 b0_6, .int .i64 b0_7, .int .i64 b0_8, .int .i64 b0_9, .str b0_10, .int .i64 b0_11, .int .i64 b0_12, .int .i64 b0_13, .int .i64 b0_14, .vec b0_15.length 2 (gL cSPeriod dSPeriod b0_15)], .box [.int .i64 c_16.1.ID, .int .i64 c_16.1.Level, .int .i64 c_16.1.Purpose, .int .i64 c_16.1.Kind, .int .i64 c_16.1.Conn, .str c_16.1.Txn, .int .i64 c_16.1.Span_From, .int .i64 c_16.1.Span_To, .int .i64 c_16.1.Start, .int .i64 c_16.1.Duration, .vec c_16.1.Periods.length 2 (gL cSPeriod dSPeriod c_16.1.Periods)]]⟩) (sub_gen [0, 1] rfl rfl ⟨zc rfl rfl, zc rfl rfl, zc rfl rfl, zc rfl rfl, zc rfl rfl, zc rfl rfl, trivial⟩ ⟨⟨_, rfl, ⟨ii rfl rfl, ii rfl rfl, ii rfl rfl, ii rfl rfl, ii rfl rfl, ii rfl rfl, ii rfl rfl, ii rfl rfl, ii rfl rfl, ii rfl rfl, ii rfl rfl, trivial⟩⟩, ⟨_, rfl, ⟨ii rfl rfl, ii rfl rfl, ii rfl rfl, ii rfl rfl, ii rfl rfl, ii rfl rfl, ii rfl rfl, ii rfl rfl, ii rfl rfl, ii rfl rfl, ii rfl rfl, trivial⟩⟩, trivial⟩) ?_
  refine SOps.nil ?_
  refine SCode.seq ?_
  refine SCode.block ?_
  refine SCode.join (σ := Bool) (S := fun s => ⟨[(13, .c (.ptr 0 0)), (14, .c (.int .i64 sl_3)), (15, .c (.bool sok_4)), (16, .c (.ptr 1 0)), (17, .c (.int .i64 c_16.2.1)), (51, .c (.bool s))], [.box [.int .i64 b0_5, .int .i64 b0_6, .int .i64 b0_7, .int .i64 b0_8, .int .i64 b0_9, .str b0_10, .int .i64 b0_11, .int .i64 b0_12, .int .i64 b0_13, .int .i64 b0_14, .vec b0_15.length 2 (gL cSPeriod dSPeriod b0_15)], .box [.int .i64 c_16.1.ID, .int .i64 c_16.1.Level, .int .i64 c_16.1.Purpose, .int .i64 c_16.1.Kind, .int .i64 c_16.1.Conn, .str c_16.1.Txn, .int .i64 c_16.1.Span_From, .int .i64 c_16.1.Span_To, .int .i64 c_16.1.Start, .int .i64 c_16.1.Duration, .vec c_16.1.Periods.length 2 (gL cSPeriod dSPeriod c_16.1.Periods)]]⟩) (g := fun s => chargenetref16_decide_p21 sl_3 sok_4 b0_5 c_16 s = some r) ?_ ?_
  rotate_left
  · rcases cond_out h with ⟨g22, h⟩ | ⟨g22, h⟩
    · rcases cond_out h with ⟨g23, h⟩ | ⟨g23, h⟩
      · refine SCode.region (show SOps _ _ _ [0, 1, 2, 3, 4, 5, 6, 7, 8, 9, 10] _ _ from ?_)
        refine SOps.q rfl (.plain rfl) rfl (q_move rfl rfl) ?_
        refine SOps.q rfl (.plain rfl) rfl (q_move rfl rfl) ?_
        refine SOps.q rfl (.guard 1 53 true rfl rfl (gT g22)) rfl (q_move rfl rfl) ?_
        refine SOps.q rfl (.guard 1 53 true rfl rfl (gT g22)) rfl (q_not rfl rfl) ?_
        refine SOps.q rfl (.guard 1 53 true rfl rfl (gT g22)) rfl (q_move rfl rfl) ?_
        refine SOps.skip rfl 4 56 false rfl rfl (.inl (gT g23)) rfl ?_
        refine SOps.skip rfl 4 56 false rfl rfl (.inl (gT g23)) rfl ?_
        refine SOps.skip rfl 4 56 false rfl rfl (.inl (gT g23)) rfl ?_
        refine SOps.q rfl (.guard 1 53 true rfl rfl (gT g22)) rfl (q_pick_t rfl rfl g23 rfl) ?_
        refine SOps.q rfl (.plain rfl) rfl (q_pick_t rfl rfl g22 rfl) ?_
        refine SOps.q rfl (.plain rfl) rfl (q_assign rfl rfl) ?_
        refine SOps.sub (st' := ⟨[(13, .c (.ptr 0 0)), (14, .c (.int .i64 sl_3)), (15, .c (.bool sok_4)), (16, .c (.ptr 1 0)), (17, .c (.int .i64 c_16.2.1)), (51, .c (.bool true))], [.box [.int .i64 b0_5, .int .i64 b0_6, .int .i64 b0_7, .int .i64 b0_8, .int .i64 b0_9, .str b0_10, .int .i64 b0_11, .int .i64 b0_12, .int .i64 b0_13, .int .i64 b0_14, .vec b0_15.length 2 (gL cSPeriod dSPeriod b0_15)], .box [.int .i64 c_16.1.ID, .int .i64 c_16.1.Level, .int .i64 c_16.1.Purpose, .int .i64 c_16.1.Kind, .int .i64 c_16.1.Conn, .str c_16.1.Txn, .int .i64 c_16.1.Span_From, .int .i64 c_16.1.Span_To, .int .i64 c_16.1.Start, .int .i64 c_16.1.Duration, .vec c_16.1.Periods.length 2 (gL cSPeriod dSPeriod c_16.1.Periods)]]⟩) (sub_gen [0, 1] rfl rfl ⟨zc rfl rfl, zc rfl rfl, zc rfl rfl, zc rfl rfl, zc rfl rfl, zc rfl rfl, trivial⟩ ⟨⟨_, rfl, ⟨ii rfl rfl, ii rfl rfl, ii rfl rfl, ii rfl rfl, ii rfl rfl, ii rfl rfl, ii rfl rfl, ii rfl rfl, ii rfl rfl, ii rfl rfl, ii rfl rfl, trivial⟩⟩, ⟨_, rfl, ⟨ii rfl rfl, ii rfl rfl, ii rfl rfl, ii rfl rfl, ii rfl rfl, ii rfl rfl, ii rfl rfl, ii rfl rfl, ii rfl rfl, ii rfl rfl, ii rfl rfl, trivial⟩⟩, trivial⟩) ?_
        refine SOps.nil ?_
        exact ⟨true, h, sub_gen [0, 1] rfl rfl ⟨zc rfl rfl, zc rfl rfl, zc rfl rfl, zc rfl rfl, zc rfl rfl, zc rfl rfl, trivial⟩ ⟨⟨_, rfl, ⟨ii rfl rfl, ii rfl rfl, ii rfl rfl, ii rfl rfl, ii rfl rfl, ii rfl rfl, ii rfl rfl, ii rfl rfl, ii rfl rfl, ii rfl rfl, ii rfl rfl, trivial⟩⟩, ⟨_, rfl, ⟨ii rfl rfl, ii rfl rfl, ii rfl rfl, ii rfl rfl, ii rfl rfl, ii rfl rfl, ii rfl rfl, ii rfl rfl, ii rfl rfl, ii rfl rfl, ii rfl rfl, trivial⟩⟩, trivial⟩⟩
      refine SCode.region (show SOps _ _ _ [0, 1, 2, 3, 4, 5, 6, 7, 8, 9, 10] _ _ from ?_)
      refine SOps.q rfl (.plain rfl) rfl (q_move rfl rfl) ?_
      refine SOps.q rfl (.plain rfl) rfl (q_move rfl rfl) ?_
      refine SOps.q rfl (.guard 1 53 true rfl rfl (gT g22)) rfl (q_move rfl rfl) ?_
      refine SOps.q rfl (.guard 1 53 true rfl rfl (gT g22)) rfl (q_not rfl rfl) ?_
      refine SOps.q rfl (.guard 1 53 true rfl rfl (gT g22)) rfl (q_move rfl rfl) ?_
      refine SOps.q rfl (.guard 4 56 false rfl rfl (gF g23)) rfl (q_move rfl rfl) ?_
      refine SOps.q rfl (.guard 4 56 false rfl rfl (gF g23)) rfl (q_move rfl rfl) ?_
      refine SOps.q rfl (.guard 4 56 false rfl rfl (gF g23)) rfl (q_leq rfl rfl rfl) ?_
      refine SOps.q rfl (.guard 1 53 true rfl rfl (gT g22)) rfl (q_pick_f rfl rfl g23 rfl) ?_
      refine SOps.q rfl (.plain rfl) rfl (q_pick_t rfl rfl g22 rfl) ?_
      refine SOps.q rfl (.plain rfl) rfl (q_assign rfl rfl) ?_
      refine SOps.sub (st' := ⟨[(13, .c (.ptr 0 0)), (14, .c (.int .i64 sl_3)), (15, .c (.bool sok_4)), (16, .c (.ptr 1 0)), (17, .c (.int .i64 c_16.2.1)), (51, .c (.bool (decide (c_16.2.1 ≤ sl_3))))], [.box [.int .i64 b0_5, .int .i64 b0_6, .int .i64 b0_7, .int .i64 b0_8, .int .i64 b0_9, .str b0_10, .int .i64 b0_11, .int .i64 b0_12, .int .i64 b0_13, .int .i64 b0_14, .vec b0_15.length 2 (gL cSPeriod dSPeriod b0_15)], .box [.int .i64 c_16.1.ID, .int .i64 c_16.1.Level, .int .i64 c_16.1.Purpose, .int .i64 c_16.1.Kind, .int .i64 c_16.1.Conn, .str c_16.1.Txn, .int .i64 c_16.1.Span_From, .int .i64 c_16.1.Span_To, .int .i64 c_16.1.Start, .int .i64 c_16.1.Duration, .vec c_16.1.Periods.length 2 (gL cSPeriod dSPeriod c_16.1.Periods)]]⟩) (sub_gen [0, 1] rfl rfl ⟨zc rfl rfl, zc rfl rfl, zc rfl rfl, zc rfl rfl, zc rfl rfl, zc rfl rfl, trivial⟩ ⟨⟨_, rfl, ⟨ii rfl rfl, ii rfl rfl, ii rfl rfl, ii rfl rfl, ii rfl rfl, ii rfl rfl, ii rfl rfl, ii rfl rfl, ii rfl rfl, ii rfl rfl, ii rfl rfl, trivial⟩⟩, ⟨_, rfl, ⟨ii rfl rfl, ii rfl rfl, ii rfl rfl, ii rfl rfl, ii rfl rfl, ii rfl rfl, ii rfl rfl, ii rfl rfl, ii rfl rfl, ii rfl rfl, ii rfl rfl, trivial⟩⟩, trivial⟩) ?_
      refine SOps.nil ?_
      exact ⟨decide (c_16.2.1 ≤ sl_3), h, sub_gen [0, 1] rfl rfl ⟨zc rfl rfl, zc rfl rfl, zc rfl rfl, zc rfl rfl, zc rfl rfl, zc rfl rfl, trivial⟩ ⟨⟨_, rfl, ⟨ii rfl rfl, ii rfl rfl, ii rfl rfl, ii rfl rfl, ii rfl rfl, ii rfl rfl, ii rfl rfl, ii rfl rfl, ii rfl rfl, ii rfl rfl, ii rfl rfl, trivial⟩⟩, ⟨_, rfl, ⟨ii rfl rfl, ii rfl rfl, ii rfl rfl, ii rfl rfl, ii rfl rfl, ii rfl rfl, ii rfl rfl, ii rfl rfl, ii rfl rfl, ii rfl rfl, ii rfl rfl, trivial⟩⟩, trivial⟩⟩
    refine SCode.region (show SOps _ _ _ [0, 1, 2, 3, 4, 5, 6, 7, 8, 9, 10] _ _ from ?_)
    refine SOps.q rfl (.plain rfl) rfl (q_move rfl rfl) ?_
    refine SOps.q rfl (.plain rfl) rfl (q_move rfl rfl) ?_
    refine SOps.skip rfl 1 53 true rfl rfl (.inl (gF g22)) rfl ?_
    refine SOps.skip rfl 1 53 true rfl rfl (.inl (gF g22)) rfl ?_
    refine SOps.skip rfl 1 53 true rfl rfl (.inl (gF g22)) rfl ?_
    refine SOps.skip rfl 4 56 false rfl rfl (.inr rfl) rfl ?_
    refine SOps.skip rfl 4 56 false rfl rfl (.inr rfl) rfl ?_
    refine SOps.skip rfl 4 56 false rfl rfl (.inr rfl) rfl ?_
    refine SOps.skip rfl 1 53 true rfl rfl (.inl (gF g22)) rfl ?_
    refine SOps.q rfl (.plain rfl) rfl (q_pick_f rfl rfl g22 rfl) ?_
    refine SOps.q rfl (.plain rfl) rfl (q_assign rfl rfl) ?_
    refine SOps.sub (st' := ⟨[(13, .c (.ptr 0 0)), (14, .c (.int .i64 sl_3)), (15, .c (.bool sok_4)), (16, .c (.ptr 1 0)), (17, .c (.int .i64 c_16.2.1)), (51, .c (.bool false))], [.box [.int .i64 b0_5, .int .i64 b0_6, .int .i64 b0_7, .int .i64 b0_8, .int .i64 b0_9, .str b0_10, .int .i64 b0_11, .int .i64 b0_12, .int .i64 b0_13, .int .i64 b0_14, .vec b0_15.length 2 (gL cSPeriod dSPeriod b0_15)], .box [.int .i64 c_16.1.ID, .int .i64 c_16.1.Level, .int .i64 c_16.1.Purpose, .int .i64 c_16.1.Kind, .int .i64 c_16.1.Conn, .str c_16.1.Txn, .int .i64 c_16.1.Span_From, .int .i64 c_16.1.Span_To, .int .i64 c_16.1.Start, .int .i64 c_16.1.Duration, .vec c_16.1.Periods.length 2 (gL cSPeriod dSPeriod c_16.1.Periods)]]⟩) (sub_gen [0, 1] rfl rfl ⟨zc rfl rfl, zc rfl rfl, zc rfl rfl, zc rfl rfl, zc rfl rfl, zc rfl rfl, trivial⟩ ⟨⟨_, rfl, ⟨ii rfl rfl, ii rfl rfl, ii rfl rfl, ii rfl rfl, ii rfl rfl, ii rfl rfl, ii rfl rfl, ii rfl rfl, ii rfl rfl, ii rfl rfl, ii rfl rfl, trivial⟩⟩, ⟨_, rfl, ⟨ii rfl rfl, ii rfl rfl, ii rfl rfl, ii rfl rfl, ii rfl rfl, ii rfl rfl, ii rfl rfl, ii rfl rfl, ii rfl rfl, ii rfl rfl, ii rfl rfl, trivial⟩⟩, trivial⟩) ?_
    refine SOps.nil ?_
    exact ⟨false, h, sub_gen [0, 1] rfl rfl ⟨zc rfl rfl, zc rfl rfl, zc rfl rfl, zc rfl rfl, zc rfl rfl, zc rfl rfl, trivial⟩ ⟨⟨_, rfl, ⟨ii rfl rfl, ii rfl rfl, ii rfl rfl, ii rfl rfl, ii rfl rfl, ii rfl rfl, ii rfl rfl, ii rfl rfl, ii rfl rfl, ii rfl rfl, ii rfl rfl, trivial⟩⟩, ⟨_, rfl, ⟨ii rfl rfl, ii rfl rfl, ii rfl rfl, ii rfl rfl, ii rfl rfl, ii rfl rfl, ii rfl rfl, ii rfl rfl, ii rfl rfl, ii rfl rfl, ii rfl rfl, trivial⟩⟩, trivial⟩⟩
  rintro t51_18 h
  show SCode _ _ _ ⟨[(13, .c (.ptr 0 0)), (14, .c (.int .i64 sl_3)), (15, .c (.bool sok_4)), (16, .c (.ptr 1 0)), (17, .c (.int .i64 c_16.2.1)), (51, .c (.bool t51_18))], [.box [.int .i64 b0_5, .int .i64 b0_6, .int .i64 b0_7, .int .i64 b0_8, .int .i64 b0_9, .str b0_10, .int .i64 b0_11, .int .i64 b0_12, .int .i64 b0_13, .int .i64 b0_14, .vec b0_15.length 2 (gL cSPeriod dSPeriod b0_15)], .box [.int .i64 c_16.1.ID, .int .i64 c_16.1.Level, .int .i64 c_16.1.Purpose, .int .i64 c_16.1.Kind, .int .i64 c_16.1.Conn, .str c_16.1.Txn, .int .i64 c_16.1.Span_From, .int .i64 c_16.1.Span_To, .int .i64 c_16.1.Start, .int .i64 c_16.1.Duration, .vec c_16.1.Periods.length 2 (gL cSPeriod dSPeriod c_16.1.Periods)]]⟩ _
  replace h : chargenetref16_decide_p21 sl_3 sok_4 b0_5 c_16 t51_18 = some r := h
  unfold chargenetref16_decide_p21 at h
  rcases cond_out h with ⟨g19, h⟩ | ⟨g19, h⟩
  · refine SCode.cond_t rfl g19 ?_
    refine SCode.seq ?_
    refine SCode.draw (s' := [(12, .c (.bool true)), (11, .c (.int .i64 c_16.1.ID)), (10, .c (.int .i64 c_16.2.1)), (64, .c (.int .i64 c_16.1.ID)), (63, .c (.ptr 1 0)), (62, .c (.int .i64 c_16.2.1)), (13, .c (.ptr 0 0)), (14, .c (.int .i64 sl_3)), (15, .c (.bool sok_4)), (16, .c (.ptr 1 0)), (17, .c (.int .i64 c_16.2.1)), (51, .c (.bool t51_18))]) mixed [[], [], [1], [0], [0, 1, 2, 3], [0, 1, 2, 3, 4]] 6 0 rfl rfl ?_ ?_
    · refine QChain.run rfl (.plain rfl) rfl (q_move rfl rfl) ?_
      refine QChain.run rfl (.plain rfl) rfl (q_field_ptr rfl rfl fd31_0) ?_
      refine QChain.run rfl (.plain rfl) rfl (q_load_ptr rfl rfl rfl rfl ty3) ?_
      refine QChain.run rfl (.plain rfl) rfl (q_assign rfl rfl) ?_
      refine QChain.run rfl (.plain rfl) rfl (q_assign rfl rfl) ?_
      refine QChain.run rfl (.plain rfl) rfl (q_assign rfl rfl) ?_
      exact QChain.nil _ _
    refine (show SOps _ _ _ [] _ _ from ?_)
    refine SOps.sub (st' := ⟨[(10, .c (.int .i64 c_16.2.1)), (11, .c (.int .i64 c_16.1.ID)), (12, .c (.bool true))], []⟩) (sub_gen [] rfl rfl ⟨zc rfl rfl, zc rfl rfl, zc rfl rfl, trivial⟩ trivial) ?_
    refine SOps.nil ?_
    refine SCode.ret ?_
    obtain rfl := Option.some.inj h
    exact ⟨⟨[(10, .c (.int .i64 c_16.2.1)), (11, .c (.int .i64 c_16.1.ID)), (12, .c (.bool true))], []⟩, _, sub_gen [] rfl rfl ⟨zc rfl rfl, zc rfl rfl, zc rfl rfl, trivial⟩ trivial, resA3 (v1 := .c (.int .i64 c_16.2.1)) (v2 := .c (.int .i64 c_16.1.ID)) (v3 := .c (.bool true)) rfl rfl rfl rfl, rfl⟩
  refine SCode.cond_f rfl g19 ?_
  refine SCode.seq ?_
  refine SCode.region (show SOps _ _ _ [0, 1] _ _ from ?_)
  refine SOps.q rfl (.plain rfl) rfl (q_move rfl rfl) ?_
  refine SOps.q rfl (.plain rfl) rfl (q_assign rfl rfl) ?_
  refine SOps.sub (st' := ⟨[(13, .c (.ptr 0 0)), (14, .c (.int .i64 sl_3)), (65, .c (.bool sok_4))], [.box [.int .i64 b0_5, .int .i64 b0_6, .int .i64 b0_7, .int .i64 b0_8, .int .i64 b0_9, .str b0_10, .int .i64 b0_11, .int .i64 b0_12, .int .i64 b0_13, .int .i64 b0_14, .vec b0_15.length 2 (gL cSPeriod dSPeriod b0_15)]]⟩) (sub_gen [0] rfl rfl ⟨zc rfl rfl, zc rfl rfl, zc rfl rfl, trivial⟩ ⟨⟨_, rfl, ⟨ii rfl rfl, ii rfl rfl, ii rfl rfl, ii rfl rfl, ii rfl rfl, ii rfl rfl, ii rfl rfl, ii rfl rfl, ii rfl rfl, ii rfl rfl, ii rfl rfl, trivial⟩⟩, trivial⟩) ?_
  refine SOps.nil ?_
  rcases cond_out h with ⟨g20, h⟩ | ⟨g20, h⟩
  · refine SCode.cond_t rfl g20 ?_
    refine SCode.seq ?_
    refine SCode.draw (s' := [(12, .c (.bool true)), (11, .c (.int .i64 b0_5)), (10, .c (.int .i64 sl_3)), (69, .c (.int .i64 b0_5)), (68, .c (.ptr 0 0)), (67, .c (.int .i64 sl_3)), (13, .c (.ptr 0 0)), (14, .c (.int .i64 sl_3)), (65, .c (.bool sok_4))]) mixed [[], [], [1], [0], [0, 1, 2, 3], [0, 1, 2, 3, 4]] 6 0 rfl rfl ?_ ?_
    · refine QChain.run rfl (.plain rfl) rfl (q_move rfl rfl) ?_
      refine QChain.run rfl (.plain rfl) rfl (q_field_ptr rfl rfl fd31_0) ?_
      refine QChain.run rfl (.plain rfl) rfl (q_load_ptr rfl rfl rfl rfl ty3) ?_
      refine QChain.run rfl (.plain rfl) rfl (q_assign rfl rfl) ?_
      refine QChain.run rfl (.plain rfl) rfl (q_assign rfl rfl) ?_
      refine QChain.run rfl (.plain rfl) rfl (q_assign rfl rfl) ?_
      exact QChain.nil _ _
    refine (show SOps _ _ _ [] _ _ from ?_)
    refine SOps.sub (st' := ⟨[(10, .c (.int .i64 sl_3)), (11, .c (.int .i64 b0_5)), (12, .c (.bool true))], []⟩) (sub_gen [] rfl rfl ⟨zc rfl rfl, zc rfl rfl, zc rfl rfl, trivial⟩ trivial) ?_
    refine SOps.nil ?_
    refine SCode.ret ?_
    obtain rfl := Option.some.inj h
    exact ⟨⟨[(10, .c (.int .i64 sl_3)), (11, .c (.int .i64 b0_5)), (12, .c (.bool true))], []⟩, _, sub_gen [] rfl rfl ⟨zc rfl rfl, zc rfl rfl, zc rfl rfl, trivial⟩ trivial, resA3 (v1 := .c (.int .i64 sl_3)) (v2 := .c (.int .i64 b0_5)) (v3 := .c (.bool true)) rfl rfl rfl rfl, rfl⟩
  refine SCode.cond_f rfl g20 ?_
  refine SCode.skip ?_
  refine SCode.seq ?_
  refine SCode.region (show SOps _ _ _ [0, 1, 2] _ _ from ?_)
  refine SOps.q rfl (.plain rfl) rfl (q_assign rfl rfl) ?_
  refine SOps.q rfl (.plain rfl) rfl (q_assign rfl rfl) ?_
  refine SOps.q rfl (.plain rfl) rfl (q_assign rfl rfl) ?_
  refine SOps.sub (st' := ⟨[(10, .c (.int .i64 1073741824)), (11, .c (.int .i64 0)), (12, .c (.bool false))], []⟩) (sub_gen [] rfl rfl ⟨zc rfl rfl, zc rfl rfl, zc rfl rfl, trivial⟩ trivial) ?_
  refine SOps.nil ?_
  refine SCode.ret ?_
  obtain rfl := Option.some.inj h
  exact ⟨⟨[(10, .c (.int .i64 1073741824)), (11, .c (.int .i64 0)), (12, .c (.bool false))], []⟩, _, sub_gen [] rfl rfl ⟨zc rfl rfl, zc rfl rfl, zc rfl rfl, trivial⟩ trivial, resA3 (v1 := .c (.int .i64 1073741824)) (v2 := .c (.int .i64 0)) (v3 := .c (.bool false)) rfl rfl rfl rfl, rfl⟩
set_option maxRecDepth 100000 in
set_option maxHeartbeats 8000000 in
theorem chargenetref16_At_ok (F : Nat) (a0_l : List SProfile) (a1_conn : Int) (a2_txn : ByteArray) (a3_start : Int) (a4_t : Int) (r : Int) (h : chargenetref16_At F a0_l a1_conn a2_txn a3_start a4_t = some r) :
    SFun Try.prog 14 [] [.c (.vec a0_l.length 11 (gL cSProfile dSProfile a0_l)), .c (.int .i64 a1_conn), .c (.str a2_txn), .c (.int .i64 a3_start), .c (.int .i64 a4_t)] (fun x _ => x = .c (.int .i64 r)) := by
  refine SFun.of (n := 25) Try.func14 rfl rfl rfl ?_
  unfold chargenetref16_At at h
  show SCode _ _ _ ⟨[(0, .c (.vec a0_l.length 11 (gL cSProfile dSProfile a0_l))), (1, .c (.int .i64 a1_conn)), (2, .c (.str a2_txn)), (3, .c (.int .i64 a3_start)), (4, .c (.int .i64 a4_t))], []⟩ _
  refine SCode.seq ?_
  refine SCode.region (show SOps _ _ _ [0] _ _ from ?_)
  refine SOps.q rfl (.plain rfl) rfl (q_assign rfl rfl) ?_
  refine SOps.sub (st' := ⟨[(0, .c (.vec a0_l.length 11 (gL cSProfile dSProfile a0_l))), (1, .c (.int .i64 a1_conn)), (2, .c (.str a2_txn)), (3, .c (.int .i64 a3_start)), (4, .c (.int .i64 a4_t))], []⟩) (sub_gen [] rfl rfl ⟨zc rfl rfl, zc rfl rfl, zc rfl rfl, zc rfl rfl, zc rfl rfl, trivial⟩ trivial) ?_
  refine SOps.nil ?_
  refine SCode.seq ?_
  obtain ⟨c_1, g2, h⟩ := bind_out h
  try dsimp only at h
  refine SCode.region (show SOps _ _ _ [0, 1, 2, 3, 4, 5, 6, 7, 8, 9, 10, 11, 12] _ _ from ?_)
  refine SOps.q rfl (.plain rfl) rfl (q_move rfl rfl) ?_
  refine SOps.q rfl (.plain rfl) rfl (q_move rfl rfl) ?_
  refine SOps.q rfl (.plain rfl) rfl (q_move rfl rfl) ?_
  refine SOps.q rfl (.plain rfl) rfl (q_move rfl rfl) ?_
  refine SOps.q rfl (.plain rfl) rfl (q_move rfl rfl) ?_
  refine SOps.q rfl (.plain rfl) rfl (q_call (chargenetref16_decide_ok F a0_l a1_conn a2_txn a3_start a4_t c_1 g2) [] rfl fn25 ⟨⟨_, rfl, .inl ⟨rfl, rfl⟩⟩, ⟨_, rfl, .inl ⟨rfl, rfl⟩⟩, ⟨_, rfl, .inl ⟨rfl, rfl⟩⟩, ⟨_, rfl, .inl ⟨rfl, rfl⟩⟩, ⟨_, rfl, .inl ⟨rfl, rfl⟩⟩, trivial⟩ (.inl rfl)) ?_
  refine SOps.q rfl (.plain rfl) rfl (q_move rfl rfl) ?_
  refine SOps.q rfl (.plain rfl) rfl (q_extract rfl rfl rfl) ?_
  refine SOps.q rfl (.plain rfl) rfl (q_extract rfl rfl rfl) ?_
  refine SOps.q rfl (.plain rfl) rfl (q_extract rfl rfl rfl) ?_
  refine SOps.q rfl (.plain rfl) rfl (q_assign rfl rfl) ?_
  refine SOps.q rfl (.plain rfl) rfl (q_assign rfl rfl) ?_
  refine SOps.q rfl (.plain rfl) rfl (q_assign rfl rfl) ?_
  refine SOps.sub (st' := ⟨[(11, .c (.int .i64 c_1.1))], []⟩) (sub_gen [] rfl rfl ⟨zc rfl rfl, trivial⟩ trivial) ?_
  refine SOps.nil ?_
  refine SCode.seq ?_
  refine SCode.region (show SOps _ _ _ [0, 1] _ _ from ?_)
  refine SOps.q rfl (.plain rfl) rfl (q_move rfl rfl) ?_
  refine SOps.q rfl (.plain rfl) rfl (q_assign rfl rfl) ?_
  refine SOps.sub (st' := ⟨[(10, .c (.int .i64 c_1.1))], []⟩) (sub_gen [] rfl rfl ⟨zc rfl rfl, trivial⟩ trivial) ?_
  refine SOps.nil ?_
  refine SCode.ret ?_
  obtain rfl := Option.some.inj h
  exact ⟨⟨[(10, .c (.int .i64 c_1.1))], []⟩, _, sub_gen [] rfl rfl ⟨zc rfl rfl, trivial⟩ trivial, resA1 (v := .c (.int .i64 c_1.1)) rfl rfl, rfl⟩
end Go.Proofs.Ytjpooimkhkhgkaa.W
