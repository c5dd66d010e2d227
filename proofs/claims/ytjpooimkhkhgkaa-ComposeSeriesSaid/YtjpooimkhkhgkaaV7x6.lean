/- Written by a program of ours (wip/eng/gen.py): the functions compute their models. -/
import Derived.Test.YtjpooimkhkhgkaaFacts
import Derived.Test.YtjpooimkhkhgkaaV7x5
import Derived.Test.YtjpooimkhkhgkaaShelf
namespace Go.Proofs.Ytjpooimkhkhgkaa.W
open Go Go.Proofs Go.Proofs.Ytjpooimkhkhgkaa.E Go.Proofs.Ytjpooimkhkhgkaa.M
set_option linter.unusedVariables false
set_option maxRecDepth 100000 in
set_option maxHeartbeats 8000000 in
theorem compose_limit_ok (F : Nat) (a0_l : List SProfile) (a1_start : Int) (a2_t : Int) (r : Int) (h : compose_limit F a0_l a1_start a2_t = some r) :
    SFun Try.prog 22 [] [.c (.vec a0_l.length 11 (gL cSProfile dSProfile a0_l)), .c (.int .i64 a1_start), .c (.int .i64 a2_t)] (fun x _ => x = .c (.int .i64 r)) := by
  refine SFun.of (n := 19) Try.func22 rfl rfl rfl ?_
  unfold compose_limit at h
  show SCode _ _ _ ⟨[(0, .c (.vec a0_l.length 11 (gL cSProfile dSProfile a0_l))), (1, .c (.int .i64 a1_start)), (2, .c (.int .i64 a2_t))], []⟩ _
  refine SCode.seq ?_
  refine SCode.region (show SOps _ _ _ [0] _ _ from ?_)
  refine SOps.q rfl (.plain rfl) rfl (q_assign rfl rfl) ?_
  refine SOps.sub (st' := ⟨[(0, .c (.vec a0_l.length 11 (gL cSProfile dSProfile a0_l))), (1, .c (.int .i64 a1_start)), (2, .c (.int .i64 a2_t))], []⟩) (sub_gen [] rfl rfl ⟨zc rfl rfl, zc rfl rfl, zc rfl rfl, trivial⟩ trivial) ?_
  refine SOps.nil ?_
  refine SCode.seq ?_
  refine SCode.seq ?_
  obtain ⟨c_1, g2, h⟩ := bind_out h
  try dsimp only at h
  refine SCode.region (show SOps _ _ _ [0, 1, 2, 3, 4, 5, 6, 7, 8, 9] _ _ from ?_)
  refine SOps.q rfl (.plain rfl) rfl (q_move rfl rfl) ?_
  refine SOps.q rfl (.plain rfl) rfl (q_move rfl rfl) ?_
  refine SOps.q rfl (.plain rfl) rfl (q_move rfl rfl) ?_
  refine SOps.q rfl (.plain rfl) rfl (q_call (compose_determining_ok F a0_l a1_start a2_t c_1 g2) [] rfl fn24 ⟨⟨_, rfl, .inl ⟨rfl, rfl⟩⟩, ⟨_, rfl, .inl ⟨rfl, rfl⟩⟩, ⟨_, rfl, .inl ⟨rfl, rfl⟩⟩, trivial⟩ (.inl rfl)) ?_
  refine SOps.q rfl (.plain rfl) rfl (q_move rfl rfl) ?_
  refine SOps.q rfl (.plain rfl) rfl (q_extract rfl rfl rfl) ?_
  refine SOps.q rfl (.plain rfl) rfl (q_extract rfl rfl rfl) ?_
  refine SOps.e rfl (.plain rfl) (e_alloc rfl rfl rfl z55) ?_
  refine SOps.e rfl (.plain rfl) (e_store_box rfl rfl rfl rfl rfl ty55 rfl rfl rfl rfl) ?_
  refine SOps.q rfl (.plain rfl) rfl (q_assign rfl rfl) ?_
  refine SOps.sub (st' := ⟨[(7, .c (.ptr 0 0)), (8, .c (.bool c_1.2))], [.box [.int .i64 c_1.1.id, .int .i64 c_1.1.level, .int .i64 c_1.1.limit]]⟩) (sub_gen [0] rfl rfl ⟨zc rfl rfl, zc rfl rfl, trivial⟩ ⟨⟨_, rfl, ⟨ii rfl rfl, ii rfl rfl, ii rfl rfl, trivial⟩⟩, trivial⟩) ?_
  refine SOps.nil ?_
  refine SCode.seq ?_
  refine SCode.region (show SOps _ _ _ [0] _ _ from ?_)
  refine SOps.q rfl (.plain rfl) rfl (q_move rfl rfl) ?_
  refine SOps.sub (st' := ⟨[(7, .c (.ptr 0 0)), (16, .c (.bool c_1.2))], [.box [.int .i64 c_1.1.id, .int .i64 c_1.1.level, .int .i64 c_1.1.limit]]⟩) (sub_gen [0] rfl rfl ⟨zc rfl rfl, zc rfl rfl, trivial⟩ ⟨⟨_, rfl, ⟨ii rfl rfl, ii rfl rfl, ii rfl rfl, trivial⟩⟩, trivial⟩) ?_
  refine SOps.nil ?_
  rcases cond_out h with ⟨g3, h⟩ | ⟨g3, h⟩
  · refine SCode.cond_t rfl g3 ?_
    refine SCode.seq ?_
    refine SCode.region (show SOps _ _ _ [0, 1, 2] _ _ from ?_)
    refine SOps.q rfl (.plain rfl) rfl (q_field_ptr rfl rfl fd55_2) ?_
    refine SOps.q rfl (.plain rfl) rfl (q_load_ptr rfl rfl rfl rfl ty3) ?_
    refine SOps.q rfl (.plain rfl) rfl (q_assign rfl rfl) ?_
    refine SOps.sub (st' := ⟨[(6, .c (.int .i64 c_1.1.limit))], []⟩) (sub_gen [] rfl rfl ⟨zc rfl rfl, trivial⟩ trivial) ?_
    refine SOps.nil ?_
    refine SCode.ret ?_
    obtain rfl := Option.some.inj h
    exact ⟨⟨[(6, .c (.int .i64 c_1.1.limit))], []⟩, _, sub_gen [] rfl rfl ⟨zc rfl rfl, trivial⟩ trivial, resA1 (v := .c (.int .i64 c_1.1.limit)) rfl rfl, rfl⟩
  refine SCode.cond_f rfl g3 ?_
  refine SCode.skip ?_
  refine SCode.seq ?_
  refine SCode.region (show SOps _ _ _ [0] _ _ from ?_)
  refine SOps.q rfl (.plain rfl) rfl (q_assign rfl rfl) ?_
  refine SOps.sub (st' := ⟨[(6, .c (.int .i64 1073741824))], []⟩) (sub_gen [] rfl rfl ⟨zc rfl rfl, trivial⟩ trivial) ?_
  refine SOps.nil ?_
  refine SCode.ret ?_
  obtain rfl := Option.some.inj h
  exact ⟨⟨[(6, .c (.int .i64 1073741824))], []⟩, _, sub_gen [] rfl rfl ⟨zc rfl rfl, trivial⟩ trivial, resA1 (v := .c (.int .i64 1073741824)) rfl rfl, rfl⟩
set_option maxRecDepth 100000 in
set_option maxHeartbeats 8000000 in
theorem compose_candidates_ok (F : Nat) (a0_l : List SProfile) (a1_conn : Int) (a2_txn : ByteArray) (r : List SProfile) (h : compose_candidates F a0_l a1_conn a2_txn = some r) :
    SFun Try.prog 23 [] [.c (.vec a0_l.length 11 (gL cSProfile dSProfile a0_l)), .c (.int .i64 a1_conn), .c (.str a2_txn)] (fun x _ => x = .c (.vec r.length 11 (gL cSProfile dSProfile r))) := by
  refine SFun.of (n := 52) Try.func23 rfl rfl rfl ?_
  unfold compose_candidates at h
  show SCode _ _ _ ⟨[(0, .c (.vec a0_l.length 11 (gL cSProfile dSProfile a0_l))), (1, .c (.int .i64 a1_conn)), (2, .c (.str a2_txn))], []⟩ _
  refine SCode.seq ?_
  refine SCode.region (show SOps _ _ _ [0] _ _ from ?_)
  refine SOps.q rfl (.plain rfl) rfl (q_assign rfl rfl) ?_
  refine SOps.sub (st' := ⟨[(0, .c (.vec a0_l.length 11 (gL cSProfile dSProfile a0_l))), (1, .c (.int .i64 a1_conn)), (2, .c (.str a2_txn))], []⟩) (sub_gen [] rfl rfl ⟨zc rfl rfl, zc rfl rfl, zc rfl rfl, trivial⟩ trivial) ?_
  refine SOps.nil ?_
  refine SCode.seq ?_
  refine SCode.region (show SOps _ _ _ [0] _ _ from ?_)
  refine SOps.q rfl (.plain rfl) rfl (q_assign rfl rfl) ?_
  refine SOps.nilArrL (T := 31) (k := 11) cSProfile dSProfile (s := 7) rfl rfl ?_
  refine SOps.sub (st' := ⟨[(0, .c (.vec a0_l.length 11 (gL cSProfile dSProfile a0_l))), (1, .c (.int .i64 a1_conn)), (2, .c (.str a2_txn)), (7, .c (.own 0 (([] : List SProfile)).length))], [.arr 31 11 (([] : List SProfile)).length (gL cSProfile dSProfile (([] : List SProfile)))]⟩) (sub_gen [0] rfl rfl ⟨zc rfl rfl, zc rfl rfl, zc rfl rfl, zc rfl rfl, trivial⟩ ⟨oa rfl, trivial⟩) ?_
  refine SOps.nil ?_
  refine SCode.join (σ := (List SProfile)) (S := fun s => ⟨[(7, .c (.own 0 s.length))], [.arr 31 11 s.length (gL cSProfile dSProfile s)]⟩) (g := fun s => compose_candidates_p2 s = some r) ?_ ?_
  rotate_left
  · refine SCode.seq ?_
    refine SCode.region (show SOps _ _ _ [0, 1, 2] _ _ from ?_)
    refine SOps.q rfl (.plain rfl) rfl (q_move rfl rfl) ?_
    refine SOps.q rfl (.plain rfl) rfl (q_len_vec rfl rfl sl22) ?_
    refine SOps.q rfl (.plain rfl) rfl (q_move rfl rfl) ?_
    refine SOps.sub (st' := ⟨[(1, .c (.int .i64 a1_conn)), (2, .c (.str a2_txn)), (7, .c (.own 0 (([] : List SProfile)).length)), (10, .c (.vec a0_l.length 11 (gL cSProfile dSProfile a0_l))), (11, .c (.int .i64 (((a0_l).length : Int)))), (12, .c (.int .i64 0))], [.arr 31 11 (([] : List SProfile)).length (gL cSProfile dSProfile (([] : List SProfile)))]⟩) (sub_gen [0] rfl rfl ⟨zc rfl rfl, zc rfl rfl, zc rfl rfl, zc rfl rfl, zc rfl rfl, zc rfl rfl, trivial⟩ ⟨oa rfl, trivial⟩) ?_
    refine SOps.nil ?_
    refine SCode.block ?_
    refine SCode.sub (st' := ⟨[(1, .c (.int .i64 a1_conn)), (2, .c (.str a2_txn)), (7, .c (.own 0 ([] : List SProfile).length)), (10, .c (.vec a0_l.length 11 (gL cSProfile dSProfile a0_l))), (11, .c (.int .i64 (((a0_l).length : Int)))), (12, .c (.int .i64 0))], [.arr 31 11 ([] : List SProfile).length (gL cSProfile dSProfile ([] : List SProfile))]⟩) (sub_gen [0] rfl rfl ⟨zc rfl rfl, zc rfl rfl, zc rfl rfl, zc rfl rfl, zc rfl rfl, zc rfl rfl, trivial⟩ ⟨oa rfl, trivial⟩) ?_
    refine (SCode.loop (σ := Nat × (Int × (List SProfile))) (S := fun s => ⟨[(1, .c (.int .i64 a1_conn)), (2, .c (.str a2_txn)), (7, .c (.own 0 s.2.2.length)), (10, .c (.vec a0_l.length 11 (gL cSProfile dSProfile a0_l))), (11, .c (.int .i64 (((a0_l).length : Int)))), (12, .c (.int .i64 s.2.1))], [.arr 31 11 s.2.2.length (gL cSProfile dSProfile s.2.2)]⟩) (g := fun s => compose_candidates_l35 a0_l a1_conn a2_txn s.1 s.2.1 s.2.2 = some r) (μ := fun s => s.1) (F, (0, ([] : List SProfile))) h ?_)
    rintro ⟨n_35, ⟨t12_18, o0_19⟩⟩ h
    replace h : compose_candidates_l35 a0_l a1_conn a2_txn n_35 t12_18 o0_19 = some r := h
    show SCode _ _ _ ⟨[(1, .c (.int .i64 a1_conn)), (2, .c (.str a2_txn)), (7, .c (.own 0 o0_19.length)), (10, .c (.vec a0_l.length 11 (gL cSProfile dSProfile a0_l))), (11, .c (.int .i64 (((a0_l).length : Int)))), (12, .c (.int .i64 t12_18))], [.arr 31 11 o0_19.length (gL cSProfile dSProfile o0_19)]⟩ _
    cases n_35 with
    | zero => cases h
    | succ n_35 =>
      replace h : compose_candidates_b35 a0_l a1_conn a2_txn (fun t12_18 o0_19 => compose_candidates_l35 a0_l a1_conn a2_txn n_35 t12_18 o0_19) t12_18 o0_19 = some r := h
      unfold compose_candidates_b35 at h
      refine SCode.seq ?_
      refine SCode.region (show SOps _ _ _ [0] _ _ from ?_)
      refine SOps.q rfl (.plain rfl) rfl (q_lss rfl rfl rfl) ?_
      refine SOps.sub (st' := ⟨[(1, .c (.int .i64 a1_conn)), (2, .c (.str a2_txn)), (7, .c (.own 0 o0_19.length)), (10, .c (.vec a0_l.length 11 (gL cSProfile dSProfile a0_l))), (11, .c (.int .i64 (((a0_l).length : Int)))), (12, .c (.int .i64 t12_18)), (13, .c (.bool (decide (t12_18 < ((a0_l).length : Int)))))], [.arr 31 11 o0_19.length (gL cSProfile dSProfile o0_19)]⟩) (sub_gen [0] rfl rfl ⟨zc rfl rfl, zc rfl rfl, zc rfl rfl, zc rfl rfl, zc rfl rfl, zc rfl rfl, zc rfl rfl, trivial⟩ ⟨oa rfl, trivial⟩) ?_
      refine SOps.nil ?_
      refine SCode.seq ?_
      rcases cond_out h with ⟨g36, h⟩ | ⟨g36, h⟩
      · refine SCode.cond_t rfl g36 ?_
        refine SCode.skip ?_
        refine SCode.join (σ := (List SProfile)) (S := fun s => ⟨[(1, .c (.int .i64 a1_conn)), (2, .c (.str a2_txn)), (7, .c (.own 0 s.length)), (10, .c (.vec a0_l.length 11 (gL cSProfile dSProfile a0_l))), (11, .c (.int .i64 (((a0_l).length : Int)))), (12, .c (.int .i64 t12_18))], [.arr 31 11 s.length (gL cSProfile dSProfile s)]⟩) (g := fun s => compose_candidates_p38 t12_18 (fun t12_18 o0_19 => compose_candidates_l35 a0_l a1_conn a2_txn n_35 t12_18 o0_19) s = some r) ?_ ?_
        rotate_left
        · refine SCode.block ?_
          refine SCode.seq ?_
          obtain ⟨g39, h⟩ := guard_out h
          refine SCode.region (show SOps _ _ _ [0, 1, 2, 3] _ _ from ?_)
          refine SOps.q rfl (.plain rfl) rfl (q_index_vec rfl rfl rfl sl22 rfl g39.1 g39.2) ?_
          refine SOps.q rfl (.plain rfl) rfl (q_load_eptr_all rfl rfl rfl ty31) ?_
          refine SOps.e rfl (.plain rfl) (e_alloc rfl rfl rfl z31) ?_
          refine SOps.e rfl (.plain rfl) (e_store_box rfl rfl rfl rfl rfl ty31 rfl rfl rfl rfl) ?_
          refine SOps.sub (st' := ⟨[(1, .c (.int .i64 a1_conn)), (2, .c (.str a2_txn)), (7, .c (.own 0 o0_19.length)), (9, .c (.ptr 1 0)), (10, .c (.vec a0_l.length 11 (gL cSProfile dSProfile a0_l))), (11, .c (.int .i64 (((a0_l).length : Int)))), (12, .c (.int .i64 t12_18))], [.arr 31 11 o0_19.length (gL cSProfile dSProfile o0_19), .box [.int .i64 ((a0_l.getD t12_18.toNat dSProfile).ID), .int .i64 ((a0_l.getD t12_18.toNat dSProfile).Level), .int .i64 ((a0_l.getD t12_18.toNat dSProfile).Purpose), .int .i64 ((a0_l.getD t12_18.toNat dSProfile).Kind), .int .i64 ((a0_l.getD t12_18.toNat dSProfile).Conn), .str ((a0_l.getD t12_18.toNat dSProfile).Txn), .int .i64 ((a0_l.getD t12_18.toNat dSProfile).Span_From), .int .i64 ((a0_l.getD t12_18.toNat dSProfile).Span_To), .int .i64 ((a0_l.getD t12_18.toNat dSProfile).Start), .int .i64 ((a0_l.getD t12_18.toNat dSProfile).Duration), .vec ((a0_l.getD t12_18.toNat dSProfile).Periods).length 2 (gL cSPeriod dSPeriod ((a0_l.getD t12_18.toNat dSProfile).Periods))]]⟩) (sub_gen [0, 1] rfl rfl ⟨zc rfl rfl, zc rfl rfl, zc rfl rfl, zc rfl rfl, zc rfl rfl, zc rfl rfl, zc rfl rfl, trivial⟩ ⟨oa rfl, ⟨_, rfl, ⟨ii rfl rfl, ii rfl rfl, ii rfl rfl, ii rfl rfl, ii rfl rfl, ii rfl rfl, ii rfl rfl, ii rfl rfl, ii rfl rfl, ii rfl rfl, ii rfl rfl, trivial⟩⟩, trivial⟩) ?_
          refine SOps.nil ?_
          refine SCode.join (σ := Unit) (S := fun s => ⟨[(1, .c (.int .i64 a1_conn)), (2, .c (.str a2_txn)), (7, .c (.own 0 o0_19.length)), (9, .c (.ptr 1 0)), (10, .c (.vec a0_l.length 11 (gL cSProfile dSProfile a0_l))), (11, .c (.int .i64 (((a0_l).length : Int)))), (12, .c (.int .i64 t12_18))], [.arr 31 11 o0_19.length (gL cSProfile dSProfile o0_19), .box [.int .i64 ((a0_l.getD t12_18.toNat dSProfile).ID), .int .i64 ((a0_l.getD t12_18.toNat dSProfile).Level), .int .i64 ((a0_l.getD t12_18.toNat dSProfile).Purpose), .int .i64 ((a0_l.getD t12_18.toNat dSProfile).Kind), .int .i64 ((a0_l.getD t12_18.toNat dSProfile).Conn), .str ((a0_l.getD t12_18.toNat dSProfile).Txn), .int .i64 ((a0_l.getD t12_18.toNat dSProfile).Span_From), .int .i64 ((a0_l.getD t12_18.toNat dSProfile).Span_To), .int .i64 ((a0_l.getD t12_18.toNat dSProfile).Start), .int .i64 ((a0_l.getD t12_18.toNat dSProfile).Duration), .vec ((a0_l.getD t12_18.toNat dSProfile).Periods).length 2 (gL cSPeriod dSPeriod ((a0_l.getD t12_18.toNat dSProfile).Periods))]]⟩) (g := fun s => compose_candidates_p48 a0_l a2_txn t12_18 o0_19 (fun t12_18 o0_19 => compose_candidates_l35 a0_l a1_conn a2_txn n_35 t12_18 o0_19) = some r) ?_ ?_
          rotate_left
          · refine SCode.seq ?_
            rcases cond_out h with ⟨g49, h⟩ | ⟨g49, h⟩
            · refine SCode.region (show SOps _ _ _ [0, 1, 2, 3, 4, 5, 6, 7, 8] _ _ from ?_)
              refine SOps.q rfl (.plain rfl) rfl (q_field_ptr rfl rfl fd31_4) ?_
              refine SOps.q rfl (.plain rfl) rfl (q_load_ptr rfl rfl rfl rfl ty3) ?_
              refine SOps.q rfl (.plain rfl) rfl (q_neq rfl rfl rfl) ?_
              refine SOps.q rfl (.plain rfl) rfl (q_move rfl rfl) ?_
              refine SOps.q rfl (.guard 3 19 true rfl rfl (gT g49)) rfl (q_field_ptr rfl rfl fd31_4) ?_
              refine SOps.q rfl (.guard 3 19 true rfl rfl (gT g49)) rfl (q_load_ptr rfl rfl rfl rfl ty3) ?_
              refine SOps.q rfl (.guard 3 19 true rfl rfl (gT g49)) rfl (q_move rfl rfl) ?_
              refine SOps.q rfl (.guard 3 19 true rfl rfl (gT g49)) rfl (q_neq rfl rfl rfl) ?_
              refine SOps.q rfl (.plain rfl) rfl (q_pick_t rfl rfl g49 rfl) ?_
              refine SOps.sub (st' := ⟨[(1, .c (.int .i64 a1_conn)), (2, .c (.str a2_txn)), (7, .c (.own 0 o0_19.length)), (9, .c (.ptr 1 0)), (10, .c (.vec a0_l.length 11 (gL cSProfile dSProfile a0_l))), (11, .c (.int .i64 (((a0_l).length : Int)))), (12, .c (.int .i64 t12_18)), (24, .c (.bool ((!decide ((a0_l.getD t12_18.toNat dSProfile).Conn = a1_conn)))))], [.arr 31 11 o0_19.length (gL cSProfile dSProfile o0_19), .box [.int .i64 ((a0_l.getD t12_18.toNat dSProfile).ID), .int .i64 ((a0_l.getD t12_18.toNat dSProfile).Level), .int .i64 ((a0_l.getD t12_18.toNat dSProfile).Purpose), .int .i64 ((a0_l.getD t12_18.toNat dSProfile).Kind), .int .i64 ((a0_l.getD t12_18.toNat dSProfile).Conn), .str ((a0_l.getD t12_18.toNat dSProfile).Txn), .int .i64 ((a0_l.getD t12_18.toNat dSProfile).Span_From), .int .i64 ((a0_l.getD t12_18.toNat dSProfile).Span_To), .int .i64 ((a0_l.getD t12_18.toNat dSProfile).Start), .int .i64 ((a0_l.getD t12_18.toNat dSProfile).Duration), .vec ((a0_l.getD t12_18.toNat dSProfile).Periods).length 2 (gL cSPeriod dSPeriod ((a0_l.getD t12_18.toNat dSProfile).Periods))]]⟩) (sub_gen [0, 1] rfl rfl ⟨zc rfl rfl, zc rfl rfl, zc rfl rfl, zc rfl rfl, zc rfl rfl, zc rfl rfl, zc rfl rfl, zc rfl rfl, trivial⟩ ⟨oa rfl, ⟨_, rfl, ⟨ii rfl rfl, ii rfl rfl, ii rfl rfl, ii rfl rfl, ii rfl rfl, ii rfl rfl, ii rfl rfl, ii rfl rfl, ii rfl rfl, ii rfl rfl, ii rfl rfl, trivial⟩⟩, trivial⟩) ?_
              refine SOps.nil ?_
              rcases cond_out h with ⟨g50, h⟩ | ⟨g50, h⟩
              · refine SCode.cond_t rfl g50 ?_
                refine SCode.exit ?_
                exact ⟨o0_19, h, sub_gen [0] rfl rfl ⟨zc rfl rfl, zc rfl rfl, zc rfl rfl, zc rfl rfl, zc rfl rfl, zc rfl rfl, trivial⟩ ⟨oa rfl, trivial⟩⟩
              refine SCode.cond_f rfl g50 ?_
              refine SCode.skip ?_
              exact ⟨(), h, sub_gen [0, 1] rfl rfl ⟨zc rfl rfl, zc rfl rfl, zc rfl rfl, zc rfl rfl, zc rfl rfl, zc rfl rfl, zc rfl rfl, trivial⟩ ⟨oa rfl, ⟨_, rfl, ⟨ii rfl rfl, ii rfl rfl, ii rfl rfl, ii rfl rfl, ii rfl rfl, ii rfl rfl, ii rfl rfl, ii rfl rfl, ii rfl rfl, ii rfl rfl, ii rfl rfl, trivial⟩⟩, trivial⟩⟩
            refine SCode.region (show SOps _ _ _ [0, 1, 2, 3, 4, 5, 6, 7, 8] _ _ from ?_)
            refine SOps.q rfl (.plain rfl) rfl (q_field_ptr rfl rfl fd31_4) ?_
            refine SOps.q rfl (.plain rfl) rfl (q_load_ptr rfl rfl rfl rfl ty3) ?_
            refine SOps.q rfl (.plain rfl) rfl (q_neq rfl rfl rfl) ?_
            refine SOps.q rfl (.plain rfl) rfl (q_move rfl rfl) ?_
            refine SOps.skip rfl 3 19 true rfl rfl (.inl (gF g49)) rfl ?_
            refine SOps.skip rfl 3 19 true rfl rfl (.inl (gF g49)) rfl ?_
            refine SOps.skip rfl 3 19 true rfl rfl (.inl (gF g49)) rfl ?_
            refine SOps.skip rfl 3 19 true rfl rfl (.inl (gF g49)) rfl ?_
            refine SOps.q rfl (.plain rfl) rfl (q_pick_f rfl rfl g49 rfl) ?_
            refine SOps.sub (st' := ⟨[(1, .c (.int .i64 a1_conn)), (2, .c (.str a2_txn)), (7, .c (.own 0 o0_19.length)), (9, .c (.ptr 1 0)), (10, .c (.vec a0_l.length 11 (gL cSProfile dSProfile a0_l))), (11, .c (.int .i64 (((a0_l).length : Int)))), (12, .c (.int .i64 t12_18)), (24, .c (.bool false))], [.arr 31 11 o0_19.length (gL cSProfile dSProfile o0_19), .box [.int .i64 ((a0_l.getD t12_18.toNat dSProfile).ID), .int .i64 ((a0_l.getD t12_18.toNat dSProfile).Level), .int .i64 ((a0_l.getD t12_18.toNat dSProfile).Purpose), .int .i64 ((a0_l.getD t12_18.toNat dSProfile).Kind), .int .i64 ((a0_l.getD t12_18.toNat dSProfile).Conn), .str ((a0_l.getD t12_18.toNat dSProfile).Txn), .int .i64 ((a0_l.getD t12_18.toNat dSProfile).Span_From), .int .i64 ((a0_l.getD t12_18.toNat dSProfile).Span_To), .int .i64 ((a0_l.getD t12_18.toNat dSProfile).Start), .int .i64 ((a0_l.getD t12_18.toNat dSProfile).Duration), .vec ((a0_l.getD t12_18.toNat dSProfile).Periods).length 2 (gL cSPeriod dSPeriod ((a0_l.getD t12_18.toNat dSProfile).Periods))]]⟩) (sub_gen [0, 1] rfl rfl ⟨zc rfl rfl, zc rfl rfl, zc rfl rfl, zc rfl rfl, zc rfl rfl, zc rfl rfl, zc rfl rfl, zc rfl rfl, trivial⟩ ⟨oa rfl, ⟨_, rfl, ⟨ii rfl rfl, ii rfl rfl, ii rfl rfl, ii rfl rfl, ii rfl rfl, ii rfl rfl, ii rfl rfl, ii rfl rfl, ii rfl rfl, ii rfl rfl, ii rfl rfl, trivial⟩⟩, trivial⟩) ?_
            refine SOps.nil ?_
            refine SCode.cond_f rfl rfl ?_
            refine SCode.skip ?_
            exact ⟨(), h, sub_gen [0, 1] rfl rfl ⟨zc rfl rfl, zc rfl rfl, zc rfl rfl, zc rfl rfl, zc rfl rfl, zc rfl rfl, zc rfl rfl, trivial⟩ ⟨oa rfl, ⟨_, rfl, ⟨ii rfl rfl, ii rfl rfl, ii rfl rfl, ii rfl rfl, ii rfl rfl, ii rfl rfl, ii rfl rfl, ii rfl rfl, ii rfl rfl, ii rfl rfl, ii rfl rfl, trivial⟩⟩, trivial⟩⟩
          rintro ⟨⟩ h
          show SCode _ _ _ ⟨[(1, .c (.int .i64 a1_conn)), (2, .c (.str a2_txn)), (7, .c (.own 0 o0_19.length)), (9, .c (.ptr 1 0)), (10, .c (.vec a0_l.length 11 (gL cSProfile dSProfile a0_l))), (11, .c (.int .i64 (((a0_l).length : Int)))), (12, .c (.int .i64 t12_18))], [.arr 31 11 o0_19.length (gL cSProfile dSProfile o0_19), .box [.int .i64 ((a0_l.getD t12_18.toNat dSProfile).ID), .int .i64 ((a0_l.getD t12_18.toNat dSProfile).Level), .int .i64 ((a0_l.getD t12_18.toNat dSProfile).Purpose), .int .i64 ((a0_l.getD t12_18.toNat dSProfile).Kind), .int .i64 ((a0_l.getD t12_18.toNat dSProfile).Conn), .str ((a0_l.getD t12_18.toNat dSProfile).Txn), .int .i64 ((a0_l.getD t12_18.toNat dSProfile).Span_From), .int .i64 ((a0_l.getD t12_18.toNat dSProfile).Span_To), .int .i64 ((a0_l.getD t12_18.toNat dSProfile).Start), .int .i64 ((a0_l.getD t12_18.toNat dSProfile).Duration), .vec ((a0_l.getD t12_18.toNat dSProfile).Periods).length 2 (gL cSPeriod dSPeriod ((a0_l.getD t12_18.toNat dSProfile).Periods))]]⟩ _
          replace h : compose_candidates_p48 a0_l a2_txn t12_18 o0_19 (fun t12_18 o0_19 => compose_candidates_l35 a0_l a1_conn a2_txn n_35 t12_18 o0_19) = some r := h
          unfold compose_candidates_p48 at h
          refine SCode.join (σ := Unit) (S := fun s => ⟨[(1, .c (.int .i64 a1_conn)), (2, .c (.str a2_txn)), (7, .c (.own 0 o0_19.length)), (9, .c (.ptr 1 0)), (10, .c (.vec a0_l.length 11 (gL cSProfile dSProfile a0_l))), (11, .c (.int .i64 (((a0_l).length : Int)))), (12, .c (.int .i64 t12_18))], [.arr 31 11 o0_19.length (gL cSProfile dSProfile o0_19), .box [.int .i64 ((a0_l.getD t12_18.toNat dSProfile).ID), .int .i64 ((a0_l.getD t12_18.toNat dSProfile).Level), .int .i64 ((a0_l.getD t12_18.toNat dSProfile).Purpose), .int .i64 ((a0_l.getD t12_18.toNat dSProfile).Kind), .int .i64 ((a0_l.getD t12_18.toNat dSProfile).Conn), .str ((a0_l.getD t12_18.toNat dSProfile).Txn), .int .i64 ((a0_l.getD t12_18.toNat dSProfile).Span_From), .int .i64 ((a0_l.getD t12_18.toNat dSProfile).Span_To), .int .i64 ((a0_l.getD t12_18.toNat dSProfile).Start), .int .i64 ((a0_l.getD t12_18.toNat dSProfile).Duration), .vec ((a0_l.getD t12_18.toNat dSProfile).Periods).length 2 (gL cSPeriod dSPeriod ((a0_l.getD t12_18.toNat dSProfile).Periods))]]⟩) (g := fun s => compose_candidates_p45 a0_l a2_txn t12_18 o0_19 (fun t12_18 o0_19 => compose_candidates_l35 a0_l a1_conn a2_txn n_35 t12_18 o0_19) = some r) ?_ ?_
          rotate_left
          · refine SCode.seq ?_
            rcases cond_out h with ⟨g46, h⟩ | ⟨g46, h⟩
            · refine SCode.region (show SOps _ _ _ [0, 1, 2, 3, 4, 5, 6, 7, 8] _ _ from ?_)
              refine SOps.q rfl (.plain rfl) rfl (q_field_ptr rfl rfl fd31_2) ?_
              refine SOps.q rfl (.plain rfl) rfl (q_load_ptr rfl rfl rfl rfl ty3) ?_
              refine SOps.q rfl (.plain rfl) rfl (q_eql rfl rfl rfl) ?_
              refine SOps.q rfl (.plain rfl) rfl (q_move rfl rfl) ?_
              refine SOps.q rfl (.guard 3 28 true rfl rfl (gT g46)) rfl (q_field_ptr rfl rfl fd31_5) ?_
              refine SOps.q rfl (.guard 3 28 true rfl rfl (gT g46)) rfl (q_load_ptr rfl rfl rfl rfl ty9) ?_
              refine SOps.q rfl (.guard 3 28 true rfl rfl (gT g46)) rfl (q_move rfl rfl) ?_
              refine SOps.q rfl (.guard 3 28 true rfl rfl (gT g46)) rfl (q_neqS rfl rfl rfl) ?_
              refine SOps.q rfl (.plain rfl) rfl (q_pick_t rfl rfl g46 rfl) ?_
              refine SOps.sub (st' := ⟨[(1, .c (.int .i64 a1_conn)), (2, .c (.str a2_txn)), (7, .c (.own 0 o0_19.length)), (9, .c (.ptr 1 0)), (10, .c (.vec a0_l.length 11 (gL cSProfile dSProfile a0_l))), (11, .c (.int .i64 (((a0_l).length : Int)))), (12, .c (.int .i64 t12_18)), (33, .c (.bool ((!(sEq ((a0_l.getD t12_18.toNat dSProfile).Txn) a2_txn)))))], [.arr 31 11 o0_19.length (gL cSProfile dSProfile o0_19), .box [.int .i64 ((a0_l.getD t12_18.toNat dSProfile).ID), .int .i64 ((a0_l.getD t12_18.toNat dSProfile).Level), .int .i64 ((a0_l.getD t12_18.toNat dSProfile).Purpose), .int .i64 ((a0_l.getD t12_18.toNat dSProfile).Kind), .int .i64 ((a0_l.getD t12_18.toNat dSProfile).Conn), .str ((a0_l.getD t12_18.toNat dSProfile).Txn), .int .i64 ((a0_l.getD t12_18.toNat dSProfile).Span_From), .int .i64 ((a0_l.getD t12_18.toNat dSProfile).Span_To), .int .i64 ((a0_l.getD t12_18.toNat dSProfile).Start), .int .i64 ((a0_l.getD t12_18.toNat dSProfile).Duration), .vec ((a0_l.getD t12_18.toNat dSProfile).Periods).length 2 (gL cSPeriod dSPeriod ((a0_l.getD t12_18.toNat dSProfile).Periods))]]⟩) (sub_gen [0, 1] rfl rfl ⟨zc rfl rfl, zc rfl rfl, zc rfl rfl, zc rfl rfl, zc rfl rfl, zc rfl rfl, zc rfl rfl, zc rfl rfl, trivial⟩ ⟨oa rfl, ⟨_, rfl, ⟨ii rfl rfl, ii rfl rfl, ii rfl rfl, ii rfl rfl, ii rfl rfl, ii rfl rfl, ii rfl rfl, ii rfl rfl, ii rfl rfl, ii rfl rfl, ii rfl rfl, trivial⟩⟩, trivial⟩) ?_
              refine SOps.nil ?_
              rcases cond_out h with ⟨g47, h⟩ | ⟨g47, h⟩
              · refine SCode.cond_t rfl g47 ?_
                refine SCode.exit ?_
                exact ⟨o0_19, h, sub_gen [0] rfl rfl ⟨zc rfl rfl, zc rfl rfl, zc rfl rfl, zc rfl rfl, zc rfl rfl, zc rfl rfl, trivial⟩ ⟨oa rfl, trivial⟩⟩
              refine SCode.cond_f rfl g47 ?_
              refine SCode.skip ?_
              exact ⟨(), h, sub_gen [0, 1] rfl rfl ⟨zc rfl rfl, zc rfl rfl, zc rfl rfl, zc rfl rfl, zc rfl rfl, zc rfl rfl, zc rfl rfl, trivial⟩ ⟨oa rfl, ⟨_, rfl, ⟨ii rfl rfl, ii rfl rfl, ii rfl rfl, ii rfl rfl, ii rfl rfl, ii rfl rfl, ii rfl rfl, ii rfl rfl, ii rfl rfl, ii rfl rfl, ii rfl rfl, trivial⟩⟩, trivial⟩⟩
            refine SCode.region (show SOps _ _ _ [0, 1, 2, 3, 4, 5, 6, 7, 8] _ _ from ?_)
            refine SOps.q rfl (.plain rfl) rfl (q_field_ptr rfl rfl fd31_2) ?_
            refine SOps.q rfl (.plain rfl) rfl (q_load_ptr rfl rfl rfl rfl ty3) ?_
            refine SOps.q rfl (.plain rfl) rfl (q_eql rfl rfl rfl) ?_
            refine SOps.q rfl (.plain rfl) rfl (q_move rfl rfl) ?_
            refine SOps.skip rfl 3 28 true rfl rfl (.inl (gF g46)) rfl ?_
            refine SOps.skip rfl 3 28 true rfl rfl (.inl (gF g46)) rfl ?_
            refine SOps.skip rfl 3 28 true rfl rfl (.inl (gF g46)) rfl ?_
            refine SOps.skip rfl 3 28 true rfl rfl (.inl (gF g46)) rfl ?_
            refine SOps.q rfl (.plain rfl) rfl (q_pick_f rfl rfl g46 rfl) ?_
            refine SOps.sub (st' := ⟨[(1, .c (.int .i64 a1_conn)), (2, .c (.str a2_txn)), (7, .c (.own 0 o0_19.length)), (9, .c (.ptr 1 0)), (10, .c (.vec a0_l.length 11 (gL cSProfile dSProfile a0_l))), (11, .c (.int .i64 (((a0_l).length : Int)))), (12, .c (.int .i64 t12_18)), (33, .c (.bool false))], [.arr 31 11 o0_19.length (gL cSProfile dSProfile o0_19), .box [.int .i64 ((a0_l.getD t12_18.toNat dSProfile).ID), .int .i64 ((a0_l.getD t12_18.toNat dSProfile).Level), .int .i64 ((a0_l.getD t12_18.toNat dSProfile).Purpose), .int .i64 ((a0_l.getD t12_18.toNat dSProfile).Kind), .int .i64 ((a0_l.getD t12_18.toNat dSProfile).Conn), .str ((a0_l.getD t12_18.toNat dSProfile).Txn), .int .i64 ((a0_l.getD t12_18.toNat dSProfile).Span_From), .int .i64 ((a0_l.getD t12_18.toNat dSProfile).Span_To), .int .i64 ((a0_l.getD t12_18.toNat dSProfile).Start), .int .i64 ((a0_l.getD t12_18.toNat dSProfile).Duration), .vec ((a0_l.getD t12_18.toNat dSProfile).Periods).length 2 (gL cSPeriod dSPeriod ((a0_l.getD t12_18.toNat dSProfile).Periods))]]⟩) (sub_gen [0, 1] rfl rfl ⟨zc rfl rfl, zc rfl rfl, zc rfl rfl, zc rfl rfl, zc rfl rfl, zc rfl rfl, zc rfl rfl, zc rfl rfl, trivial⟩ ⟨oa rfl, ⟨_, rfl, ⟨ii rfl rfl, ii rfl rfl, ii rfl rfl, ii rfl rfl, ii rfl rfl, ii rfl rfl, ii rfl rfl, ii rfl rfl, ii rfl rfl, ii rfl rfl, ii rfl rfl, trivial⟩⟩, trivial⟩) ?_
            refine SOps.nil ?_
            refine SCode.cond_f rfl rfl ?_
            refine SCode.skip ?_
            exact ⟨(), h, sub_gen [0, 1] rfl rfl ⟨zc rfl rfl, zc rfl rfl, zc rfl rfl, zc rfl rfl, zc rfl rfl, zc rfl rfl, zc rfl rfl, trivial⟩ ⟨oa rfl, ⟨_, rfl, ⟨ii rfl rfl, ii rfl rfl, ii rfl rfl, ii rfl rfl, ii rfl rfl, ii rfl rfl, ii rfl rfl, ii rfl rfl, ii rfl rfl, ii rfl rfl, ii rfl rfl, trivial⟩⟩, trivial⟩⟩
          rintro ⟨⟩ h
          show SCode _ _ _ ⟨[(1, .c (.int .i64 a1_conn)), (2, .c (.str a2_txn)), (7, .c (.own 0 o0_19.length)), (9, .c (.ptr 1 0)), (10, .c (.vec a0_l.length 11 (gL cSProfile dSProfile a0_l))), (11, .c (.int .i64 (((a0_l).length : Int)))), (12, .c (.int .i64 t12_18))], [.arr 31 11 o0_19.length (gL cSProfile dSProfile o0_19), .box [.int .i64 ((a0_l.getD t12_18.toNat dSProfile).ID), .int .i64 ((a0_l.getD t12_18.toNat dSProfile).Level), .int .i64 ((a0_l.getD t12_18.toNat dSProfile).Purpose), .int .i64 ((a0_l.getD t12_18.toNat dSProfile).Kind), .int .i64 ((a0_l.getD t12_18.toNat dSProfile).Conn), .str ((a0_l.getD t12_18.toNat dSProfile).Txn), .int .i64 ((a0_l.getD t12_18.toNat dSProfile).Span_From), .int .i64 ((a0_l.getD t12_18.toNat dSProfile).Span_To), .int .i64 ((a0_l.getD t12_18.toNat dSProfile).Start), .int .i64 ((a0_l.getD t12_18.toNat dSProfile).Duration), .vec ((a0_l.getD t12_18.toNat dSProfile).Periods).length 2 (gL cSPeriod dSPeriod ((a0_l.getD t12_18.toNat dSProfile).Periods))]]⟩ _
          replace h : compose_candidates_p45 a0_l a2_txn t12_18 o0_19 (fun t12_18 o0_19 => compose_candidates_l35 a0_l a1_conn a2_txn n_35 t12_18 o0_19) = some r := h
          unfold compose_candidates_p45 at h
          refine SCode.join (σ := Unit) (S := fun s => ⟨[(1, .c (.int .i64 a1_conn)), (2, .c (.str a2_txn)), (7, .c (.own 0 o0_19.length)), (9, .c (.ptr 1 0)), (10, .c (.vec a0_l.length 11 (gL cSProfile dSProfile a0_l))), (11, .c (.int .i64 (((a0_l).length : Int)))), (12, .c (.int .i64 t12_18))], [.arr 31 11 o0_19.length (gL cSProfile dSProfile o0_19), .box [.int .i64 ((a0_l.getD t12_18.toNat dSProfile).ID), .int .i64 ((a0_l.getD t12_18.toNat dSProfile).Level), .int .i64 ((a0_l.getD t12_18.toNat dSProfile).Purpose), .int .i64 ((a0_l.getD t12_18.toNat dSProfile).Kind), .int .i64 ((a0_l.getD t12_18.toNat dSProfile).Conn), .str ((a0_l.getD t12_18.toNat dSProfile).Txn), .int .i64 ((a0_l.getD t12_18.toNat dSProfile).Span_From), .int .i64 ((a0_l.getD t12_18.toNat dSProfile).Span_To), .int .i64 ((a0_l.getD t12_18.toNat dSProfile).Start), .int .i64 ((a0_l.getD t12_18.toNat dSProfile).Duration), .vec ((a0_l.getD t12_18.toNat dSProfile).Periods).length 2 (gL cSPeriod dSPeriod ((a0_l.getD t12_18.toNat dSProfile).Periods))]]⟩) (g := fun s => compose_candidates_p41 a0_l t12_18 o0_19 (fun t12_18 o0_19 => compose_candidates_l35 a0_l a1_conn a2_txn n_35 t12_18 o0_19) = some r) ?_ ?_
          rotate_left
          · refine SCode.seq ?_
            rcases cond_out h with ⟨g42, h⟩ | ⟨g42, h⟩
            · rcases cond_out h with ⟨g43, h⟩ | ⟨g43, h⟩
              · refine SCode.region (show SOps _ _ _ [0, 1, 2, 3, 4, 5, 6, 7, 8, 9, 10, 11] _ _ from ?_)
                refine SOps.q rfl (.plain rfl) rfl (q_move rfl rfl) ?_
                refine SOps.q rfl (.plain rfl) rfl (q_eqlS rfl rfl rfl) ?_
                refine SOps.q rfl (.plain rfl) rfl (q_move rfl rfl) ?_
                refine SOps.q rfl (.guard 2 36 true rfl rfl (gT g42)) rfl (q_field_ptr rfl rfl fd31_2) ?_
                refine SOps.q rfl (.guard 2 36 true rfl rfl (gT g42)) rfl (q_load_ptr rfl rfl rfl rfl ty3) ?_
                refine SOps.q rfl (.guard 2 36 true rfl rfl (gT g42)) rfl (q_eql rfl rfl rfl) ?_
                refine SOps.q rfl (.guard 2 36 true rfl rfl (gT g42)) rfl (q_move rfl rfl) ?_
                refine SOps.skip rfl 6 40 false rfl rfl (.inl (gT g43)) rfl ?_
                refine SOps.skip rfl 6 40 false rfl rfl (.inl (gT g43)) rfl ?_
                refine SOps.skip rfl 6 40 false rfl rfl (.inl (gT g43)) rfl ?_
                refine SOps.q rfl (.guard 2 36 true rfl rfl (gT g42)) rfl (q_pick_t rfl rfl g43 rfl) ?_
                refine SOps.q rfl (.plain rfl) rfl (q_pick_t rfl rfl g42 rfl) ?_
                refine SOps.sub (st' := ⟨[(1, .c (.int .i64 a1_conn)), (2, .c (.str a2_txn)), (7, .c (.own 0 o0_19.length)), (9, .c (.ptr 1 0)), (10, .c (.vec a0_l.length 11 (gL cSProfile dSProfile a0_l))), (11, .c (.int .i64 (((a0_l).length : Int)))), (12, .c (.int .i64 t12_18)), (45, .c (.bool true))], [.arr 31 11 o0_19.length (gL cSProfile dSProfile o0_19), .box [.int .i64 ((a0_l.getD t12_18.toNat dSProfile).ID), .int .i64 ((a0_l.getD t12_18.toNat dSProfile).Level), .int .i64 ((a0_l.getD t12_18.toNat dSProfile).Purpose), .int .i64 ((a0_l.getD t12_18.toNat dSProfile).Kind), .int .i64 ((a0_l.getD t12_18.toNat dSProfile).Conn), .str ((a0_l.getD t12_18.toNat dSProfile).Txn), .int .i64 ((a0_l.getD t12_18.toNat dSProfile).Span_From), .int .i64 ((a0_l.getD t12_18.toNat dSProfile).Span_To), .int .i64 ((a0_l.getD t12_18.toNat dSProfile).Start), .int .i64 ((a0_l.getD t12_18.toNat dSProfile).Duration), .vec ((a0_l.getD t12_18.toNat dSProfile).Periods).length 2 (gL cSPeriod dSPeriod ((a0_l.getD t12_18.toNat dSProfile).Periods))]]⟩) (sub_gen [0, 1] rfl rfl ⟨zc rfl rfl, zc rfl rfl, zc rfl rfl, zc rfl rfl, zc rfl rfl, zc rfl rfl, zc rfl rfl, zc rfl rfl, trivial⟩ ⟨oa rfl, ⟨_, rfl, ⟨ii rfl rfl, ii rfl rfl, ii rfl rfl, ii rfl rfl, ii rfl rfl, ii rfl rfl, ii rfl rfl, ii rfl rfl, ii rfl rfl, ii rfl rfl, ii rfl rfl, trivial⟩⟩, trivial⟩) ?_
                refine SOps.nil ?_
                refine SCode.cond_t rfl rfl ?_
                refine SCode.exit ?_
                exact ⟨o0_19, h, sub_gen [0] rfl rfl ⟨zc rfl rfl, zc rfl rfl, zc rfl rfl, zc rfl rfl, zc rfl rfl, zc rfl rfl, trivial⟩ ⟨oa rfl, trivial⟩⟩
              refine SCode.region (show SOps _ _ _ [0, 1, 2, 3, 4, 5, 6, 7, 8, 9, 10, 11] _ _ from ?_)
              refine SOps.q rfl (.plain rfl) rfl (q_move rfl rfl) ?_
              refine SOps.q rfl (.plain rfl) rfl (q_eqlS rfl rfl rfl) ?_
              refine SOps.q rfl (.plain rfl) rfl (q_move rfl rfl) ?_
              refine SOps.q rfl (.guard 2 36 true rfl rfl (gT g42)) rfl (q_field_ptr rfl rfl fd31_2) ?_
              refine SOps.q rfl (.guard 2 36 true rfl rfl (gT g42)) rfl (q_load_ptr rfl rfl rfl rfl ty3) ?_
              refine SOps.q rfl (.guard 2 36 true rfl rfl (gT g42)) rfl (q_eql rfl rfl rfl) ?_
              refine SOps.q rfl (.guard 2 36 true rfl rfl (gT g42)) rfl (q_move rfl rfl) ?_
              refine SOps.q rfl (.guard 6 40 false rfl rfl (gF g43)) rfl (q_field_ptr rfl rfl fd31_3) ?_
              refine SOps.q rfl (.guard 6 40 false rfl rfl (gF g43)) rfl (q_load_ptr rfl rfl rfl rfl ty3) ?_
              refine SOps.q rfl (.guard 6 40 false rfl rfl (gF g43)) rfl (q_eql rfl rfl rfl) ?_
              refine SOps.q rfl (.guard 2 36 true rfl rfl (gT g42)) rfl (q_pick_f rfl rfl g43 rfl) ?_
              refine SOps.q rfl (.plain rfl) rfl (q_pick_t rfl rfl g42 rfl) ?_
              refine SOps.sub (st' := ⟨[(1, .c (.int .i64 a1_conn)), (2, .c (.str a2_txn)), (7, .c (.own 0 o0_19.length)), (9, .c (.ptr 1 0)), (10, .c (.vec a0_l.length 11 (gL cSProfile dSProfile a0_l))), (11, .c (.int .i64 (((a0_l).length : Int)))), (12, .c (.int .i64 t12_18)), (45, .c (.bool (decide ((a0_l.getD t12_18.toNat dSProfile).Kind = 4))))], [.arr 31 11 o0_19.length (gL cSProfile dSProfile o0_19), .box [.int .i64 ((a0_l.getD t12_18.toNat dSProfile).ID), .int .i64 ((a0_l.getD t12_18.toNat dSProfile).Level), .int .i64 ((a0_l.getD t12_18.toNat dSProfile).Purpose), .int .i64 ((a0_l.getD t12_18.toNat dSProfile).Kind), .int .i64 ((a0_l.getD t12_18.toNat dSProfile).Conn), .str ((a0_l.getD t12_18.toNat dSProfile).Txn), .int .i64 ((a0_l.getD t12_18.toNat dSProfile).Span_From), .int .i64 ((a0_l.getD t12_18.toNat dSProfile).Span_To), .int .i64 ((a0_l.getD t12_18.toNat dSProfile).Start), .int .i64 ((a0_l.getD t12_18.toNat dSProfile).Duration), .vec ((a0_l.getD t12_18.toNat dSProfile).Periods).length 2 (gL cSPeriod dSPeriod ((a0_l.getD t12_18.toNat dSProfile).Periods))]]⟩) (sub_gen [0, 1] rfl rfl ⟨zc rfl rfl, zc rfl rfl, zc rfl rfl, zc rfl rfl, zc rfl rfl, zc rfl rfl, zc rfl rfl, zc rfl rfl, trivial⟩ ⟨oa rfl, ⟨_, rfl, ⟨ii rfl rfl, ii rfl rfl, ii rfl rfl, ii rfl rfl, ii rfl rfl, ii rfl rfl, ii rfl rfl, ii rfl rfl, ii rfl rfl, ii rfl rfl, ii rfl rfl, trivial⟩⟩, trivial⟩) ?_
              refine SOps.nil ?_
              rcases cond_out h with ⟨g44, h⟩ | ⟨g44, h⟩
              · refine SCode.cond_t rfl g44 ?_
                refine SCode.exit ?_
                exact ⟨o0_19, h, sub_gen [0] rfl rfl ⟨zc rfl rfl, zc rfl rfl, zc rfl rfl, zc rfl rfl, zc rfl rfl, zc rfl rfl, trivial⟩ ⟨oa rfl, trivial⟩⟩
              refine SCode.cond_f rfl g44 ?_
              refine SCode.skip ?_
              exact ⟨(), h, sub_gen [0, 1] rfl rfl ⟨zc rfl rfl, zc rfl rfl, zc rfl rfl, zc rfl rfl, zc rfl rfl, zc rfl rfl, zc rfl rfl, trivial⟩ ⟨oa rfl, ⟨_, rfl, ⟨ii rfl rfl, ii rfl rfl, ii rfl rfl, ii rfl rfl, ii rfl rfl, ii rfl rfl, ii rfl rfl, ii rfl rfl, ii rfl rfl, ii rfl rfl, ii rfl rfl, trivial⟩⟩, trivial⟩⟩
            refine SCode.region (show SOps _ _ _ [0, 1, 2, 3, 4, 5, 6, 7, 8, 9, 10, 11] _ _ from ?_)
            refine SOps.q rfl (.plain rfl) rfl (q_move rfl rfl) ?_
            refine SOps.q rfl (.plain rfl) rfl (q_eqlS rfl rfl rfl) ?_
            refine SOps.q rfl (.plain rfl) rfl (q_move rfl rfl) ?_
            refine SOps.skip rfl 2 36 true rfl rfl (.inl (gF g42)) rfl ?_
            refine SOps.skip rfl 2 36 true rfl rfl (.inl (gF g42)) rfl ?_
            refine SOps.skip rfl 2 36 true rfl rfl (.inl (gF g42)) rfl ?_
            refine SOps.skip rfl 2 36 true rfl rfl (.inl (gF g42)) rfl ?_
            refine SOps.skip rfl 6 40 false rfl rfl (.inr rfl) rfl ?_
            refine SOps.skip rfl 6 40 false rfl rfl (.inr rfl) rfl ?_
            refine SOps.skip rfl 6 40 false rfl rfl (.inr rfl) rfl ?_
            refine SOps.skip rfl 2 36 true rfl rfl (.inl (gF g42)) rfl ?_
            refine SOps.q rfl (.plain rfl) rfl (q_pick_f rfl rfl g42 rfl) ?_
            refine SOps.sub (st' := ⟨[(1, .c (.int .i64 a1_conn)), (2, .c (.str a2_txn)), (7, .c (.own 0 o0_19.length)), (9, .c (.ptr 1 0)), (10, .c (.vec a0_l.length 11 (gL cSProfile dSProfile a0_l))), (11, .c (.int .i64 (((a0_l).length : Int)))), (12, .c (.int .i64 t12_18)), (45, .c (.bool false))], [.arr 31 11 o0_19.length (gL cSProfile dSProfile o0_19), .box [.int .i64 ((a0_l.getD t12_18.toNat dSProfile).ID), .int .i64 ((a0_l.getD t12_18.toNat dSProfile).Level), .int .i64 ((a0_l.getD t12_18.toNat dSProfile).Purpose), .int .i64 ((a0_l.getD t12_18.toNat dSProfile).Kind), .int .i64 ((a0_l.getD t12_18.toNat dSProfile).Conn), .str ((a0_l.getD t12_18.toNat dSProfile).Txn), .int .i64 ((a0_l.getD t12_18.toNat dSProfile).Span_From), .int .i64 ((a0_l.getD t12_18.toNat dSProfile).Span_To), .int .i64 ((a0_l.getD t12_18.toNat dSProfile).Start), .int .i64 ((a0_l.getD t12_18.toNat dSProfile).Duration), .vec ((a0_l.getD t12_18.toNat dSProfile).Periods).length 2 (gL cSPeriod dSPeriod ((a0_l.getD t12_18.toNat dSProfile).Periods))]]⟩) (sub_gen [0, 1] rfl rfl ⟨zc rfl rfl, zc rfl rfl, zc rfl rfl, zc rfl rfl, zc rfl rfl, zc rfl rfl, zc rfl rfl, zc rfl rfl, trivial⟩ ⟨oa rfl, ⟨_, rfl, ⟨ii rfl rfl, ii rfl rfl, ii rfl rfl, ii rfl rfl, ii rfl rfl, ii rfl rfl, ii rfl rfl, ii rfl rfl, ii rfl rfl, ii rfl rfl, ii rfl rfl, trivial⟩⟩, trivial⟩) ?_
            refine SOps.nil ?_
            refine SCode.cond_f rfl rfl ?_
            refine SCode.skip ?_
            exact ⟨(), h, sub_gen [0, 1] rfl rfl ⟨zc rfl rfl, zc rfl rfl, zc rfl rfl, zc rfl rfl, zc rfl rfl, zc rfl rfl, zc rfl rfl, trivial⟩ ⟨oa rfl, ⟨_, rfl, ⟨ii rfl rfl, ii rfl rfl, ii rfl rfl, ii rfl rfl, ii rfl rfl, ii rfl rfl, ii rfl rfl, ii rfl rfl, ii rfl rfl, ii rfl rfl, ii rfl rfl, trivial⟩⟩, trivial⟩⟩
          rintro ⟨⟩ h
          show SCode _ _ _ ⟨[(1, .c (.int .i64 a1_conn)), (2, .c (.str a2_txn)), (7, .c (.own 0 o0_19.length)), (9, .c (.ptr 1 0)), (10, .c (.vec a0_l.length 11 (gL cSProfile dSProfile a0_l))), (11, .c (.int .i64 (((a0_l).length : Int)))), (12, .c (.int .i64 t12_18))], [.arr 31 11 o0_19.length (gL cSProfile dSProfile o0_19), .box [.int .i64 ((a0_l.getD t12_18.toNat dSProfile).ID), .int .i64 ((a0_l.getD t12_18.toNat dSProfile).Level), .int .i64 ((a0_l.getD t12_18.toNat dSProfile).Purpose), .int .i64 ((a0_l.getD t12_18.toNat dSProfile).Kind), .int .i64 ((a0_l.getD t12_18.toNat dSProfile).Conn), .str ((a0_l.getD t12_18.toNat dSProfile).Txn), .int .i64 ((a0_l.getD t12_18.toNat dSProfile).Span_From), .int .i64 ((a0_l.getD t12_18.toNat dSProfile).Span_To), .int .i64 ((a0_l.getD t12_18.toNat dSProfile).Start), .int .i64 ((a0_l.getD t12_18.toNat dSProfile).Duration), .vec ((a0_l.getD t12_18.toNat dSProfile).Periods).length 2 (gL cSPeriod dSPeriod ((a0_l.getD t12_18.toNat dSProfile).Periods))]]⟩ _
          replace h : compose_candidates_p41 a0_l t12_18 o0_19 (fun t12_18 o0_19 => compose_candidates_l35 a0_l a1_conn a2_txn n_35 t12_18 o0_19) = some r := h
          unfold compose_candidates_p41 at h
          obtain ⟨g40, h⟩ := guard_out h
          refine SCode.region (show SOps _ _ _ [0, 1, 2, 3, 4] _ _ from ?_)
          refine SOps.q rfl (.plain rfl) rfl (q_move rfl rfl) ?_
          refine SOps.q rfl (.plain rfl) rfl (q_load_ptr_all rfl rfl rfl rfl rfl ty31) ?_
          refine SOps.q rfl (.plain rfl) rfl (q_bsliceL (c := cSProfile) (d0 := dSProfile) [a0_l.getD t12_18.toNat dSProfile] rfl rfl sl22 z31 rfl rfl rfl rfl rfl rfl rfl) ?_
          refine SOps.e rfl (.plain rfl) (e_appendL (c := cSProfile) (d0 := dSProfile) (l := o0_19) (l2 := [a0_l.getD t12_18.toNat dSProfile]) rfl rfl rfl rfl rfl rfl (.inl rfl) sl22 z31 rfl rfl oneSProfile g40.1 g40.2) ?_
          refine SOps.q rfl (.plain rfl) rfl (q_assign rfl rfl) ?_
          refine SOps.sub (st' := ⟨[(1, .c (.int .i64 a1_conn)), (2, .c (.str a2_txn)), (7, .c (.own 0 (o0_19 ++ ([a0_l.getD t12_18.toNat dSProfile])).length)), (10, .c (.vec a0_l.length 11 (gL cSProfile dSProfile a0_l))), (11, .c (.int .i64 (((a0_l).length : Int)))), (12, .c (.int .i64 t12_18))], [.arr 31 11 (o0_19 ++ ([a0_l.getD t12_18.toNat dSProfile])).length (gL cSProfile dSProfile (o0_19 ++ ([a0_l.getD t12_18.toNat dSProfile])))]⟩) (sub_gen [2] rfl rfl ⟨zc rfl rfl, zc rfl rfl, zc rfl rfl, zc rfl rfl, zc rfl rfl, zc rfl rfl, trivial⟩ ⟨oa rfl, trivial⟩) ?_
          refine SOps.nil ?_
          exact ⟨o0_19 ++ ([a0_l.getD t12_18.toNat dSProfile]), h, sub_gen [0] rfl rfl ⟨zc rfl rfl, zc rfl rfl, zc rfl rfl, zc rfl rfl, zc rfl rfl, zc rfl rfl, trivial⟩ ⟨oa rfl, trivial⟩⟩
        rintro o0_37 h
        show SCode _ _ _ ⟨[(1, .c (.int .i64 a1_conn)), (2, .c (.str a2_txn)), (7, .c (.own 0 o0_37.length)), (10, .c (.vec a0_l.length 11 (gL cSProfile dSProfile a0_l))), (11, .c (.int .i64 (((a0_l).length : Int)))), (12, .c (.int .i64 t12_18))], [.arr 31 11 o0_37.length (gL cSProfile dSProfile o0_37)]⟩ _
        replace h : compose_candidates_p38 t12_18 (fun t12_18 o0_19 => compose_candidates_l35 a0_l a1_conn a2_txn n_35 t12_18 o0_19) o0_37 = some r := h
        unfold compose_candidates_p38 at h
        refine SCode.region (show SOps _ _ _ [0, 1] _ _ from ?_)
        refine SOps.q rfl (.plain rfl) rfl (q_add rfl rfl rfl) ?_
        refine SOps.q rfl (.plain rfl) rfl (q_move rfl rfl) ?_
        refine SOps.sub (st' := ⟨[(1, .c (.int .i64 a1_conn)), (2, .c (.str a2_txn)), (7, .c (.own 0 o0_37.length)), (10, .c (.vec a0_l.length 11 (gL cSProfile dSProfile a0_l))), (11, .c (.int .i64 (((a0_l).length : Int)))), (12, .c (.int .i64 (IntKind.wrap .i64 (t12_18 + 1))))], [.arr 31 11 o0_37.length (gL cSProfile dSProfile o0_37)]⟩) (sub_gen [0] rfl rfl ⟨zc rfl rfl, zc rfl rfl, zc rfl rfl, zc rfl rfl, zc rfl rfl, zc rfl rfl, trivial⟩ ⟨oa rfl, trivial⟩) ?_
        refine SOps.nil ?_
        exact ⟨(n_35, (IntKind.wrap .i64 (t12_18 + 1), o0_37)), h, Nat.lt_succ_self n_35, sub_gen [0] rfl rfl ⟨zc rfl rfl, zc rfl rfl, zc rfl rfl, zc rfl rfl, zc rfl rfl, zc rfl rfl, trivial⟩ ⟨oa rfl, trivial⟩⟩
      refine SCode.cond_f rfl g36 ?_
      refine SCode.exit ?_
      exact ⟨o0_19, h, sub_gen [0] rfl rfl ⟨zc rfl rfl, trivial⟩ ⟨oa rfl, trivial⟩⟩
  rintro o0_1 h
  show SCode _ _ _ ⟨[(7, .c (.own 0 o0_1.length))], [.arr 31 11 o0_1.length (gL cSProfile dSProfile o0_1)]⟩ _
  replace h : compose_candidates_p2 o0_1 = some r := h
  unfold compose_candidates_p2 at h
  refine SCode.seq ?_
  refine SCode.region (show SOps _ _ _ [0, 1] _ _ from ?_)
  refine SOps.q rfl (.plain rfl) rfl (q_move rfl rfl) ?_
  refine SOps.q rfl (.plain rfl) rfl (q_assign rfl rfl) ?_
  refine SOps.sub (st' := ⟨[(6, .c (.own 0 o0_1.length))], [.arr 31 11 o0_1.length (gL cSProfile dSProfile o0_1)]⟩) (sub_gen [0] rfl rfl ⟨zc rfl rfl, trivial⟩ ⟨oa rfl, trivial⟩) ?_
  refine SOps.nil ?_
  refine SCode.ret ?_
  obtain rfl := Option.some.inj h
  exact ⟨⟨[(6, .c (.vec o0_1.length 11 (gL cSProfile dSProfile o0_1)))], []⟩, _, sub_gen [] rfl rfl ⟨⟨_, rfl, .inr (.inl ⟨_, _, _, _, _, _, _, rfl, rfl, rfl, Nat.le_refl _, fun _ _ _ _ => rfl, by decide⟩)⟩, trivial⟩ trivial, resA1 (v := .c (.vec o0_1.length 11 (gL cSProfile dSProfile o0_1))) rfl rfl, rfl⟩
set_option maxRecDepth 100000 in
set_option maxHeartbeats 8000000 in
theorem compose_At_ok (F : Nat) (a0_l : List SProfile) (a1_conn : Int) (a2_txn : ByteArray) (a3_start : Int) (a4_t : Int) (r : Int) (h : compose_At F a0_l a1_conn a2_txn a3_start a4_t = some r) :
    SFun Try.prog 11 [] [.c (.vec a0_l.length 11 (gL cSProfile dSProfile a0_l)), .c (.int .i64 a1_conn), .c (.str a2_txn), .c (.int .i64 a3_start), .c (.int .i64 a4_t)] (fun x _ => x = .c (.int .i64 r)) := by
  refine SFun.of (n := 18) Try.func11 rfl rfl rfl ?_
  unfold compose_At at h
  show SCode _ _ _ ⟨[(0, .c (.vec a0_l.length 11 (gL cSProfile dSProfile a0_l))), (1, .c (.int .i64 a1_conn)), (2, .c (.str a2_txn)), (3, .c (.int .i64 a3_start)), (4, .c (.int .i64 a4_t))], []⟩ _
  refine SCode.seq ?_
  refine SCode.region (show SOps _ _ _ [0] _ _ from ?_)
  refine SOps.q rfl (.plain rfl) rfl (q_assign rfl rfl) ?_
  refine SOps.sub (st' := ⟨[(0, .c (.vec a0_l.length 11 (gL cSProfile dSProfile a0_l))), (1, .c (.int .i64 a1_conn)), (2, .c (.str a2_txn)), (3, .c (.int .i64 a3_start)), (4, .c (.int .i64 a4_t))], []⟩) (sub_gen [] rfl rfl ⟨zc rfl rfl, zc rfl rfl, zc rfl rfl, zc rfl rfl, zc rfl rfl, trivial⟩ trivial) ?_
  refine SOps.nil ?_
  refine SCode.seq ?_
  obtain ⟨c_1, g2, h⟩ := bind_out h
  try dsimp only at h
  obtain ⟨c_3, g4, h⟩ := bind_out h
  try dsimp only at h
  refine SCode.region (show SOps _ _ _ [0, 1, 2, 3, 4, 5, 6, 7] _ _ from ?_)
  refine SOps.q rfl (.plain rfl) rfl (q_move rfl rfl) ?_
  refine SOps.q rfl (.plain rfl) rfl (q_move rfl rfl) ?_
  refine SOps.q rfl (.plain rfl) rfl (q_move rfl rfl) ?_
  refine SOps.q rfl (.plain rfl) rfl (q_call (compose_candidates_ok F a0_l a1_conn a2_txn c_1 g2) [] rfl fn23 ⟨⟨_, rfl, .inl ⟨rfl, rfl⟩⟩, ⟨_, rfl, .inl ⟨rfl, rfl⟩⟩, ⟨_, rfl, .inl ⟨rfl, rfl⟩⟩, trivial⟩ (.inl rfl)) ?_
  refine SOps.q rfl (.plain rfl) rfl (q_move rfl rfl) ?_
  refine SOps.q rfl (.plain rfl) rfl (q_move rfl rfl) ?_
  refine SOps.q rfl (.plain rfl) rfl (q_call (compose_limit_ok F c_1 a3_start a4_t c_3 g4) [] rfl fn22 ⟨⟨_, rfl, .inl ⟨rfl, rfl⟩⟩, ⟨_, rfl, .inl ⟨rfl, rfl⟩⟩, ⟨_, rfl, .inl ⟨rfl, rfl⟩⟩, trivial⟩ (.inl rfl)) ?_
  refine SOps.q rfl (.plain rfl) rfl (q_assign rfl rfl) ?_
  refine SOps.sub (st' := ⟨[(10, .c (.int .i64 c_3))], []⟩) (sub_gen [] rfl rfl ⟨zc rfl rfl, trivial⟩ trivial) ?_
  refine SOps.nil ?_
  refine SCode.ret ?_
  obtain rfl := Option.some.inj h
  exact ⟨⟨[(10, .c (.int .i64 c_3))], []⟩, _, sub_gen [] rfl rfl ⟨zc rfl rfl, trivial⟩ trivial, resA1 (v := .c (.int .i64 c_3)) rfl rfl, rfl⟩
set_option maxRecDepth 100000 in
set_option maxHeartbeats 8000000 in
theorem chargenetlaw16_exampleHolds_1_ok (F : Nat) (a0_id : Int) (a1_purpose : Int) (a2_limit : Int) (a3_txn : ByteArray) (a4_conn : Int) (r : SProfile) (h : chargenetlaw16_exampleHolds_1 F a0_id a1_purpose a2_limit a3_txn a4_conn = some r) :
    SFun Try.prog 19 [] [.c (.int .i64 a0_id), .c (.int .i64 a1_purpose), .c (.int .i64 a2_limit), .c (.str a3_txn), .c (.int .i64 a4_conn)] (fun x _ => x = .a [.int .i64 r.ID, .int .i64 r.Level, .int .i64 r.Purpose, .int .i64 r.Kind, .int .i64 r.Conn, .str r.Txn, .int .i64 r.Span_From, .int .i64 r.Span_To, .int .i64 r.Start, .int .i64 r.Duration, .vec r.Periods.length 2 (gL cSPeriod dSPeriod r.Periods)]) := by
  refine SFun.of (n := 20) Try.func19 rfl rfl rfl ?_
  unfold chargenetlaw16_exampleHolds_1 at h
  show SCode _ _ _ ⟨[(0, .c (.int .i64 a0_id)), (1, .c (.int .i64 a1_purpose)), (2, .c (.int .i64 a2_limit)), (3, .c (.str a3_txn)), (4, .c (.int .i64 a4_conn))], []⟩ _
  refine SCode.seq ?_
  refine SCode.region (show SOps _ _ _ [0] _ _ from ?_)
  refine SOps.e rfl (.plain rfl) (e_alloc rfl rfl rfl z31) ?_
  refine SOps.sub (st' := ⟨[(0, .c (.int .i64 a0_id)), (1, .c (.int .i64 a1_purpose)), (2, .c (.int .i64 a2_limit)), (3, .c (.str a3_txn)), (4, .c (.int .i64 a4_conn)), (10, .c (.ptr 0 0))], [.box [.int .i64 0, .int .i64 0, .int .i64 0, .int .i64 0, .int .i64 0, .str ByteArray.empty, .int .i64 0, .int .i64 0, .int .i64 0, .int .i64 0, .raw (.slice none 0 0)]]⟩) (sub_gen [0] rfl rfl ⟨zc rfl rfl, zc rfl rfl, zc rfl rfl, zc rfl rfl, zc rfl rfl, zc rfl rfl, trivial⟩ ⟨⟨_, rfl, ⟨ii rfl rfl, ii rfl rfl, ii rfl rfl, ii rfl rfl, ii rfl rfl, ii rfl rfl, ii rfl rfl, ii rfl rfl, ii rfl rfl, ii rfl rfl, ii rfl rfl, trivial⟩⟩, trivial⟩) ?_
  refine SOps.nil ?_
  refine SCode.seq ?_
  refine SCode.region (show SOps _ _ _ [0, 1, 2, 3, 4, 5, 6, 7, 8, 9] _ _ from ?_)
  refine SOps.q rfl (.plain rfl) rfl (q_move rfl rfl) ?_
  refine SOps.q rfl (.plain rfl) rfl (q_move rfl rfl) ?_
  refine SOps.q rfl (.plain rfl) rfl (q_move rfl rfl) ?_
  refine SOps.q rfl (.plain rfl) rfl (q_move rfl rfl) ?_
  refine SOps.q rfl (.plain rfl) rfl (q_build2 rfl rfl pl28 rfl) ?_
  refine SOps.q rfl (.plain rfl) rfl (q_move rfl rfl) ?_
  refine SOps.q rfl (.plain rfl) rfl (q_build2 rfl rfl pl38 rfl) ?_
  refine SOps.q rfl (.plain rfl) rfl (q_bsliceL (c := cSPeriod) (d0 := dSPeriod) [SPeriod.mk 0 a2_limit] rfl rfl sl29 z38 rfl rfl rfl rfl rfl rfl rfl) ?_
  refine SOps.q rfl (.plain rfl) rfl (q_build2 rfl rfl pl31 rfl) ?_
  refine SOps.e rfl (.plain rfl) (e_store_box rfl rfl rfl rfl rfl ty31 rfl rfl rfl rfl) ?_
  refine SOps.sub (st' := ⟨[(10, .c (.ptr 0 0))], [.box [.int .i64 a0_id, .int .i64 0, .int .i64 a1_purpose, .int .i64 1, .int .i64 a4_conn, .str a3_txn, .int .i64 0, .int .i64 ((-1)), .int .i64 0, .int .i64 ((-1)), .vec ([SPeriod.mk 0 a2_limit]).length 2 (gL cSPeriod dSPeriod ([SPeriod.mk 0 a2_limit]))]]⟩) (sub_gen [0] rfl rfl ⟨zc rfl rfl, trivial⟩ ⟨⟨_, rfl, ⟨ii rfl rfl, ii rfl rfl, ii rfl rfl, ii rfl rfl, ii rfl rfl, ii rfl rfl, ii rfl rfl, ii rfl rfl, ii rfl rfl, ii rfl rfl, ii rfl rfl, trivial⟩⟩, trivial⟩) ?_
  refine SOps.nil ?_
  refine SCode.ret ?_
  obtain rfl := Option.some.inj h
  exact ⟨⟨[(10, .c (.ptr 0 0))], [.box [.int .i64 a0_id, .int .i64 0, .int .i64 a1_purpose, .int .i64 1, .int .i64 a4_conn, .str a3_txn, .int .i64 0, .int .i64 ((-1)), .int .i64 0, .int .i64 ((-1)), .vec ([SPeriod.mk 0 a2_limit]).length 2 (gL cSPeriod dSPeriod ([SPeriod.mk 0 a2_limit]))]]⟩, _, sub_gen [0] rfl rfl ⟨zc rfl rfl, trivial⟩ ⟨⟨_, rfl, ⟨ii rfl rfl, ii rfl rfl, ii rfl rfl, ii rfl rfl, ii rfl rfl, ii rfl rfl, ii rfl rfl, ii rfl rfl, ii rfl rfl, ii rfl rfl, ii rfl rfl, trivial⟩⟩, trivial⟩, resA1 (v := .a [.int .i64 a0_id, .int .i64 0, .int .i64 a1_purpose, .int .i64 1, .int .i64 a4_conn, .str a3_txn, .int .i64 0, .int .i64 ((-1)), .int .i64 0, .int .i64 ((-1)), .vec ([SPeriod.mk 0 a2_limit]).length 2 (gL cSPeriod dSPeriod ([SPeriod.mk 0 a2_limit]))]) rfl ⟨_, rfl, rfl, ty31⟩, rfl⟩
theorem slices_Sort_int_int_ok (F : Nat) (a0_x : List Int) (r : List Int) (h : slices_Sort_int_int F a0_x = some r) :
    SFun Try.prog 48 [.arr 3 1 a0_x.length (gL (cInt .i64) 0 a0_x)] [.c (.own 0 a0_x.length)] (fun x os => x = .t [] ∧ os = [.arr 3 1 r.length (gL (cInt .i64) 0 r)]) := by
  obtain ⟨hg, h⟩ := guard_out h
  obtain rfl := Option.some.inj h
  exact sfun_sort (fun blk off cap zs w => Try.slices_Sort_int blk off cap zs w) (fun p cap w => Try.slices_Sort_int_none p cap w) a0_x hg
set_option maxRecDepth 100000 in
set_option maxHeartbeats 8000000 in
theorem profile_changes_ok (F : Nat) (a0_p : SProfile) (a1_start : Int) (a2_t : Int) (r : List Int) (h : profile_changes F a0_p a1_start a2_t = some r) :
    SFun Try.prog 47 [] [.a [.int .i64 a0_p.ID, .int .i64 a0_p.Level, .int .i64 a0_p.Purpose, .int .i64 a0_p.Kind, .int .i64 a0_p.Conn, .str a0_p.Txn, .int .i64 a0_p.Span_From, .int .i64 a0_p.Span_To, .int .i64 a0_p.Start, .int .i64 a0_p.Duration, .vec a0_p.Periods.length 2 (gL cSPeriod dSPeriod a0_p.Periods)], .c (.int .i64 a1_start), .c (.int .i64 a2_t)] (fun x _ => x = .c (.vec r.length 1 (gL (cInt .i64) 0 r))) := by
  refine SFun.of (n := 77) Try.func47 rfl rfl rfl ?_
  unfold profile_changes at h
  show SCode _ _ _ ⟨[(0, .a [.int .i64 a0_p.ID, .int .i64 a0_p.Level, .int .i64 a0_p.Purpose, .int .i64 a0_p.Kind, .int .i64 a0_p.Conn, .str a0_p.Txn, .int .i64 a0_p.Span_From, .int .i64 a0_p.Span_To, .int .i64 a0_p.Start, .int .i64 a0_p.Duration, .vec a0_p.Periods.length 2 (gL cSPeriod dSPeriod a0_p.Periods)]), (1, .c (.int .i64 a1_start)), (2, .c (.int .i64 a2_t))], []⟩ _
  refine SCode.seq ?_
  refine SCode.region (show SOps _ _ _ [0, 1] _ _ from ?_)
  refine SOps.e rfl (.plain rfl) (e_box rfl rfl rfl rfl rfl rfl) ?_
  refine SOps.q rfl (.plain rfl) rfl (q_assign rfl rfl) ?_
  refine SOps.sub (st' := ⟨[(1, .c (.int .i64 a1_start)), (2, .c (.int .i64 a2_t)), (3, .c (.ptr 0 0))], [.box [.int .i64 a0_p.ID, .int .i64 a0_p.Level, .int .i64 a0_p.Purpose, .int .i64 a0_p.Kind, .int .i64 a0_p.Conn, .str a0_p.Txn, .int .i64 a0_p.Span_From, .int .i64 a0_p.Span_To, .int .i64 a0_p.Start, .int .i64 a0_p.Duration, .vec a0_p.Periods.length 2 (gL cSPeriod dSPeriod a0_p.Periods)]]⟩) (sub_gen [0] rfl rfl ⟨zc rfl rfl, zc rfl rfl, zc rfl rfl, trivial⟩ ⟨⟨_, rfl, ⟨ii rfl rfl, ii rfl rfl, ii rfl rfl, ii rfl rfl, ii rfl rfl, ii rfl rfl, ii rfl rfl, ii rfl rfl, ii rfl rfl, ii rfl rfl, ii rfl rfl, trivial⟩⟩, trivial⟩) ?_
  refine SOps.nil ?_
  refine SCode.seq ?_
  refine SCode.region (show SOps _ _ _ [0, 1, 2, 3, 4, 5, 6, 7] _ _ from ?_)
  refine SOps.q rfl (.plain rfl) rfl (q_field_ptr rfl rfl fd31_6) ?_
  refine SOps.q rfl (.plain rfl) rfl (q_field_ptr rfl rfl fd28_0) ?_
  refine SOps.q rfl (.plain rfl) rfl (q_load_ptr rfl rfl rfl rfl ty3) ?_
  refine SOps.q rfl (.plain rfl) rfl (q_field_ptr rfl rfl fd31_6) ?_
  refine SOps.q rfl (.plain rfl) rfl (q_field_ptr rfl rfl fd28_1) ?_
  refine SOps.q rfl (.plain rfl) rfl (q_load_ptr rfl rfl rfl rfl ty3) ?_
  refine SOps.e rfl (.plain rfl) (e_bsliceL (c := (cInt .i64)) (d0 := 0) [a0_p.Span_From, a0_p.Span_To] rfl rfl rfl rfl sl69 z3 rfl rfl rfl rfl rfl rfl rfl) ?_
  refine SOps.q rfl (.plain rfl) rfl (q_assign rfl rfl) ?_
  refine SOps.sub (st' := ⟨[(1, .c (.int .i64 a1_start)), (2, .c (.int .i64 a2_t)), (3, .c (.ptr 0 0)), (7, .c (.own 1 ([a0_p.Span_From, a0_p.Span_To]).length))], [.box [.int .i64 a0_p.ID, .int .i64 a0_p.Level, .int .i64 a0_p.Purpose, .int .i64 a0_p.Kind, .int .i64 a0_p.Conn, .str a0_p.Txn, .int .i64 a0_p.Span_From, .int .i64 a0_p.Span_To, .int .i64 a0_p.Start, .int .i64 a0_p.Duration, .vec a0_p.Periods.length 2 (gL cSPeriod dSPeriod a0_p.Periods)], .arr 3 1 ([a0_p.Span_From, a0_p.Span_To]).length (gL (cInt .i64) 0 ([a0_p.Span_From, a0_p.Span_To]))]⟩) (sub_gen [0, 1] rfl rfl ⟨zc rfl rfl, zc rfl rfl, zc rfl rfl, zc rfl rfl, trivial⟩ ⟨⟨_, rfl, ⟨ii rfl rfl, ii rfl rfl, ii rfl rfl, ii rfl rfl, ii rfl rfl, ii rfl rfl, ii rfl rfl, ii rfl rfl, ii rfl rfl, ii rfl rfl, ii rfl rfl, trivial⟩⟩, oa rfl, trivial⟩) ?_
  refine SOps.nil ?_
  refine SCode.seq ?_
  obtain ⟨c_1, g2, h⟩ := bind_out h
  try dsimp only at h
  refine SCode.region (show SOps _ _ _ [0, 1, 2, 3] _ _ from ?_)
  refine SOps.q rfl (.plain rfl) rfl (q_load_ptr_all rfl rfl rfl rfl rfl ty31) ?_
  refine SOps.q rfl (.plain rfl) rfl (q_move rfl rfl) ?_
  refine SOps.q rfl (.plain rfl) rfl (q_call (profile_first_ok F a0_p a1_start c_1 g2) [] rfl fn45 ⟨⟨rfl, rfl⟩, ⟨_, rfl, .inl ⟨rfl, rfl⟩⟩, trivial⟩ (.inl rfl)) ?_
  refine SOps.q rfl (.plain rfl) rfl (q_assign rfl rfl) ?_
  refine SOps.sub (st' := ⟨[(1, .c (.int .i64 a1_start)), (2, .c (.int .i64 a2_t)), (3, .c (.ptr 0 0)), (7, .c (.own 1 ([a0_p.Span_From, a0_p.Span_To]).length)), (8, .c (.int .i64 c_1))], [.box [.int .i64 a0_p.ID, .int .i64 a0_p.Level, .int .i64 a0_p.Purpose, .int .i64 a0_p.Kind, .int .i64 a0_p.Conn, .str a0_p.Txn, .int .i64 a0_p.Span_From, .int .i64 a0_p.Span_To, .int .i64 a0_p.Start, .int .i64 a0_p.Duration, .vec a0_p.Periods.length 2 (gL cSPeriod dSPeriod a0_p.Periods)], .arr 3 1 ([a0_p.Span_From, a0_p.Span_To]).length (gL (cInt .i64) 0 ([a0_p.Span_From, a0_p.Span_To]))]⟩) (sub_gen [0, 1] rfl rfl ⟨zc rfl rfl, zc rfl rfl, zc rfl rfl, zc rfl rfl, zc rfl rfl, trivial⟩ ⟨⟨_, rfl, ⟨ii rfl rfl, ii rfl rfl, ii rfl rfl, ii rfl rfl, ii rfl rfl, ii rfl rfl, ii rfl rfl, ii rfl rfl, ii rfl rfl, ii rfl rfl, ii rfl rfl, trivial⟩⟩, oa rfl, trivial⟩) ?_
  refine SOps.nil ?_
  refine SCode.join (σ := (List Int)) (S := fun s => ⟨[(7, .c (.own 0 s.length))], [.arr 3 1 s.length (gL (cInt .i64) 0 s)]⟩) (g := fun s => profile_changes_p7 F s = some r) ?_ ?_
  rotate_left
  · refine SCode.seq ?_
    refine SCode.region (show SOps _ _ _ [0, 1] _ _ from ?_)
    refine SOps.q rfl (.plain rfl) rfl (q_move rfl rfl) ?_
    refine SOps.q rfl (.plain rfl) rfl (q_leq rfl rfl rfl) ?_
    refine SOps.sub (st' := ⟨[(1, .c (.int .i64 a1_start)), (2, .c (.int .i64 a2_t)), (3, .c (.ptr 0 0)), (7, .c (.own 1 ([a0_p.Span_From, a0_p.Span_To]).length)), (8, .c (.int .i64 c_1)), (24, .c (.bool (decide (c_1 ≤ 268435456))))], [.box [.int .i64 a0_p.ID, .int .i64 a0_p.Level, .int .i64 a0_p.Purpose, .int .i64 a0_p.Kind, .int .i64 a0_p.Conn, .str a0_p.Txn, .int .i64 a0_p.Span_From, .int .i64 a0_p.Span_To, .int .i64 a0_p.Start, .int .i64 a0_p.Duration, .vec a0_p.Periods.length 2 (gL cSPeriod dSPeriod a0_p.Periods)], .arr 3 1 ([a0_p.Span_From, a0_p.Span_To]).length (gL (cInt .i64) 0 ([a0_p.Span_From, a0_p.Span_To]))]⟩) (sub_gen [0, 1] rfl rfl ⟨zc rfl rfl, zc rfl rfl, zc rfl rfl, zc rfl rfl, zc rfl rfl, zc rfl rfl, trivial⟩ ⟨⟨_, rfl, ⟨ii rfl rfl, ii rfl rfl, ii rfl rfl, ii rfl rfl, ii rfl rfl, ii rfl rfl, ii rfl rfl, ii rfl rfl, ii rfl rfl, ii rfl rfl, ii rfl rfl, trivial⟩⟩, oa rfl, trivial⟩) ?_
    refine SOps.nil ?_
    rcases cond_out h with ⟨g8, h⟩ | ⟨g8, h⟩
    · refine SCode.cond_t rfl g8 ?_
      refine SCode.seq ?_
      obtain ⟨c_9, g10, h⟩ := bind_out h
      try dsimp only at h
      refine SCode.region (show SOps _ _ _ [0, 1, 2, 3, 4, 5, 6, 7, 8, 9, 10, 11, 12, 13] _ _ from ?_)
      refine SOps.q rfl (.plain rfl) rfl (q_load_ptr_all rfl rfl rfl rfl rfl ty31) ?_
      refine SOps.q rfl (.plain rfl) rfl (q_move rfl rfl) ?_
      refine SOps.q rfl (.plain rfl) rfl (q_move rfl rfl) ?_
      refine SOps.q rfl (.plain rfl) rfl (q_field_ptr rfl rfl fd31_6) ?_
      refine SOps.q rfl (.plain rfl) rfl (q_field_ptr rfl rfl fd28_0) ?_
      refine SOps.q rfl (.plain rfl) rfl (q_load_ptr rfl rfl rfl rfl ty3) ?_
      refine SOps.q rfl (.plain rfl) rfl (q_move rfl rfl) ?_
      refine SOps.q rfl (.plain rfl) rfl (q_max3 rfl rfl rfl rfl) ?_
      refine SOps.q rfl (.plain rfl) rfl (q_call (profile_origin_ok F a0_p a1_start ((if (if a2_t < a0_p.Span_From then a0_p.Span_From else a2_t) < c_1 then c_1 else (if a2_t < a0_p.Span_From then a0_p.Span_From else a2_t))) c_9 g10) [] rfl fn40 ⟨⟨rfl, rfl⟩, ⟨_, rfl, .inl ⟨rfl, rfl⟩⟩, ⟨_, rfl, .inl ⟨rfl, rfl⟩⟩, trivial⟩ (.inl rfl)) ?_
      refine SOps.q rfl (.plain rfl) rfl (q_move rfl rfl) ?_
      refine SOps.q rfl (.plain rfl) rfl (q_extract rfl rfl rfl) ?_
      refine SOps.q rfl (.plain rfl) rfl (q_extract rfl rfl rfl) ?_
      refine SOps.q rfl (.plain rfl) rfl (q_assign rfl rfl) ?_
      refine SOps.q rfl (.plain rfl) rfl (q_assign rfl rfl) ?_
      refine SOps.sub (st' := ⟨[(3, .c (.ptr 0 0)), (7, .c (.own 1 ([a0_p.Span_From, a0_p.Span_To]).length)), (9, .c (.int .i64 c_9.1))], [.box [.int .i64 a0_p.ID, .int .i64 a0_p.Level, .int .i64 a0_p.Purpose, .int .i64 a0_p.Kind, .int .i64 a0_p.Conn, .str a0_p.Txn, .int .i64 a0_p.Span_From, .int .i64 a0_p.Span_To, .int .i64 a0_p.Start, .int .i64 a0_p.Duration, .vec a0_p.Periods.length 2 (gL cSPeriod dSPeriod a0_p.Periods)], .arr 3 1 ([a0_p.Span_From, a0_p.Span_To]).length (gL (cInt .i64) 0 ([a0_p.Span_From, a0_p.Span_To]))]⟩) (sub_gen [0, 1] rfl rfl ⟨zc rfl rfl, zc rfl rfl, zc rfl rfl, trivial⟩ ⟨⟨_, rfl, ⟨ii rfl rfl, ii rfl rfl, ii rfl rfl, ii rfl rfl, ii rfl rfl, ii rfl rfl, ii rfl rfl, ii rfl rfl, ii rfl rfl, ii rfl rfl, ii rfl rfl, trivial⟩⟩, oa rfl, trivial⟩) ?_
      refine SOps.nil ?_
      refine SCode.seq ?_
      refine SCode.region (show SOps _ _ _ [0] _ _ from ?_)
      refine SOps.q rfl (.plain rfl) rfl (q_move rfl rfl) ?_
      refine SOps.sub (st' := ⟨[(3, .c (.ptr 0 0)), (7, .c (.own 1 ([a0_p.Span_From, a0_p.Span_To]).length)), (9, .c (.int .i64 c_9.1)), (37, .c (.int .i64 0))], [.box [.int .i64 a0_p.ID, .int .i64 a0_p.Level, .int .i64 a0_p.Purpose, .int .i64 a0_p.Kind, .int .i64 a0_p.Conn, .str a0_p.Txn, .int .i64 a0_p.Span_From, .int .i64 a0_p.Span_To, .int .i64 a0_p.Start, .int .i64 a0_p.Duration, .vec a0_p.Periods.length 2 (gL cSPeriod dSPeriod a0_p.Periods)], .arr 3 1 ([a0_p.Span_From, a0_p.Span_To]).length (gL (cInt .i64) 0 ([a0_p.Span_From, a0_p.Span_To]))]⟩) (sub_gen [0, 1] rfl rfl ⟨zc rfl rfl, zc rfl rfl, zc rfl rfl, zc rfl rfl, trivial⟩ ⟨⟨_, rfl, ⟨ii rfl rfl, ii rfl rfl, ii rfl rfl, ii rfl rfl, ii rfl rfl, ii rfl rfl, ii rfl rfl, ii rfl rfl, ii rfl rfl, ii rfl rfl, ii rfl rfl, trivial⟩⟩, oa rfl, trivial⟩) ?_
      refine SOps.nil ?_
      refine SCode.block ?_
      refine SCode.sub (st' := ⟨[(3, .c (.ptr 0 0)), (7, .c (.own 1 ([a0_p.Span_From, a0_p.Span_To]).length)), (9, .c (.int .i64 c_9.1)), (37, .c (.int .i64 0))], [.box [.int .i64 a0_p.ID, .int .i64 a0_p.Level, .int .i64 a0_p.Purpose, .int .i64 a0_p.Kind, .int .i64 a0_p.Conn, .str a0_p.Txn, .int .i64 a0_p.Span_From, .int .i64 a0_p.Span_To, .int .i64 a0_p.Start, .int .i64 a0_p.Duration, .vec a0_p.Periods.length 2 (gL cSPeriod dSPeriod a0_p.Periods)], .arr 3 1 ([a0_p.Span_From, a0_p.Span_To]).length (gL (cInt .i64) 0 ([a0_p.Span_From, a0_p.Span_To]))]⟩) (sub_gen [0, 1] rfl rfl ⟨zc rfl rfl, zc rfl rfl, zc rfl rfl, zc rfl rfl, trivial⟩ ⟨⟨_, rfl, ⟨ii rfl rfl, ii rfl rfl, ii rfl rfl, ii rfl rfl, ii rfl rfl, ii rfl rfl, ii rfl rfl, ii rfl rfl, ii rfl rfl, ii rfl rfl, ii rfl rfl, trivial⟩⟩, oa rfl, trivial⟩) ?_
      refine (SCode.loop (σ := Nat × (Int × Int × (List Int))) (S := fun s => ⟨[(3, .c (.ptr 0 0)), (7, .c (.own 1 s.2.2.2.length)), (9, .c (.int .i64 s.2.1)), (37, .c (.int .i64 s.2.2.1))], [.box [.int .i64 a0_p.ID, .int .i64 a0_p.Level, .int .i64 a0_p.Purpose, .int .i64 a0_p.Kind, .int .i64 a0_p.Conn, .str a0_p.Txn, .int .i64 a0_p.Span_From, .int .i64 a0_p.Span_To, .int .i64 a0_p.Start, .int .i64 a0_p.Duration, .vec a0_p.Periods.length 2 (gL cSPeriod dSPeriod a0_p.Periods)], .arr 3 1 s.2.2.2.length (gL (cInt .i64) 0 s.2.2.2)]⟩) (g := fun s => profile_changes_l64 F a0_p s.1 s.2.1 s.2.2.1 s.2.2.2 = some r) (μ := fun s => s.1) (F, (c_9.1, 0, [a0_p.Span_From, a0_p.Span_To])) h ?_)
      rintro ⟨n_64, ⟨o_36, t37_37, o1_38⟩⟩ h
      replace h : profile_changes_l64 F a0_p n_64 o_36 t37_37 o1_38 = some r := h
      show SCode _ _ _ ⟨[(3, .c (.ptr 0 0)), (7, .c (.own 1 o1_38.length)), (9, .c (.int .i64 o_36)), (37, .c (.int .i64 t37_37))], [.box [.int .i64 a0_p.ID, .int .i64 a0_p.Level, .int .i64 a0_p.Purpose, .int .i64 a0_p.Kind, .int .i64 a0_p.Conn, .str a0_p.Txn, .int .i64 a0_p.Span_From, .int .i64 a0_p.Span_To, .int .i64 a0_p.Start, .int .i64 a0_p.Duration, .vec a0_p.Periods.length 2 (gL cSPeriod dSPeriod a0_p.Periods)], .arr 3 1 o1_38.length (gL (cInt .i64) 0 o1_38)]⟩ _
      cases n_64 with
      | zero => cases h
      | succ n_64 =>
        replace h : profile_changes_b64 F a0_p (fun o_36 t37_37 o1_38 => profile_changes_l64 F a0_p n_64 o_36 t37_37 o1_38) o_36 t37_37 o1_38 = some r := h
        unfold profile_changes_b64 at h
        refine SCode.seq ?_
        refine SCode.region (show SOps _ _ _ [0] _ _ from ?_)
        refine SOps.q rfl (.plain rfl) rfl (q_lss rfl rfl rfl) ?_
        refine SOps.sub (st' := ⟨[(3, .c (.ptr 0 0)), (7, .c (.own 1 o1_38.length)), (9, .c (.int .i64 o_36)), (37, .c (.int .i64 t37_37)), (38, .c (.bool (decide (t37_37 < 2))))], [.box [.int .i64 a0_p.ID, .int .i64 a0_p.Level, .int .i64 a0_p.Purpose, .int .i64 a0_p.Kind, .int .i64 a0_p.Conn, .str a0_p.Txn, .int .i64 a0_p.Span_From, .int .i64 a0_p.Span_To, .int .i64 a0_p.Start, .int .i64 a0_p.Duration, .vec a0_p.Periods.length 2 (gL cSPeriod dSPeriod a0_p.Periods)], .arr 3 1 o1_38.length (gL (cInt .i64) 0 o1_38)]⟩) (sub_gen [0, 1] rfl rfl ⟨zc rfl rfl, zc rfl rfl, zc rfl rfl, zc rfl rfl, zc rfl rfl, trivial⟩ ⟨⟨_, rfl, ⟨ii rfl rfl, ii rfl rfl, ii rfl rfl, ii rfl rfl, ii rfl rfl, ii rfl rfl, ii rfl rfl, ii rfl rfl, ii rfl rfl, ii rfl rfl, ii rfl rfl, trivial⟩⟩, oa rfl, trivial⟩) ?_
        refine SOps.nil ?_
        refine SCode.seq ?_
        rcases cond_out h with ⟨g65, h⟩ | ⟨g65, h⟩
        · refine SCode.cond_t rfl g65 ?_
          refine SCode.skip ?_
          refine SCode.join (σ := Int × (List Int)) (S := fun s => ⟨[(3, .c (.ptr 0 0)), (7, .c (.own 1 s.2.length)), (9, .c (.int .i64 s.1)), (37, .c (.int .i64 t37_37))], [.box [.int .i64 a0_p.ID, .int .i64 a0_p.Level, .int .i64 a0_p.Purpose, .int .i64 a0_p.Kind, .int .i64 a0_p.Conn, .str a0_p.Txn, .int .i64 a0_p.Span_From, .int .i64 a0_p.Span_To, .int .i64 a0_p.Start, .int .i64 a0_p.Duration, .vec a0_p.Periods.length 2 (gL cSPeriod dSPeriod a0_p.Periods)], .arr 3 1 s.2.length (gL (cInt .i64) 0 s.2)]⟩) (g := fun s => profile_changes_p68 t37_37 (fun o_36 t37_37 o1_38 => profile_changes_l64 F a0_p n_64 o_36 t37_37 o1_38) s.1 s.2 = some r) ?_ ?_
          rotate_left
          · refine SCode.block ?_
            refine SCode.seq ?_
            obtain ⟨g69, h⟩ := guard_out h
            refine SCode.region (show SOps _ _ _ [0, 1, 2, 3, 4] _ _ from ?_)
            refine SOps.q rfl (.plain rfl) rfl (q_move rfl rfl) ?_
            refine SOps.q rfl (.plain rfl) rfl (q_move rfl rfl) ?_
            refine SOps.q rfl (.plain rfl) rfl (q_bsliceL (c := (cInt .i64)) (d0 := 0) [o_36] rfl rfl sl69 z3 rfl rfl rfl rfl rfl rfl rfl) ?_
            refine SOps.e rfl (.plain rfl) (e_appendL (c := (cInt .i64)) (d0 := 0) (l := o1_38) (l2 := [o_36]) rfl rfl rfl rfl rfl rfl (.inl rfl) sl69 z3 rfl rfl oneInt g69.1 g69.2) ?_
            refine SOps.q rfl (.plain rfl) rfl (q_assign rfl rfl) ?_
            refine SOps.sub (st' := ⟨[(3, .c (.ptr 0 0)), (7, .c (.own 1 (o1_38 ++ ([o_36])).length)), (9, .c (.int .i64 o_36)), (37, .c (.int .i64 t37_37))], [.box [.int .i64 a0_p.ID, .int .i64 a0_p.Level, .int .i64 a0_p.Purpose, .int .i64 a0_p.Kind, .int .i64 a0_p.Conn, .str a0_p.Txn, .int .i64 a0_p.Span_From, .int .i64 a0_p.Span_To, .int .i64 a0_p.Start, .int .i64 a0_p.Duration, .vec a0_p.Periods.length 2 (gL cSPeriod dSPeriod a0_p.Periods)], .arr 3 1 (o1_38 ++ ([o_36])).length (gL (cInt .i64) 0 (o1_38 ++ ([o_36])))]⟩) (sub_gen [0, 2] rfl rfl ⟨zc rfl rfl, zc rfl rfl, zc rfl rfl, zc rfl rfl, trivial⟩ ⟨⟨_, rfl, ⟨ii rfl rfl, ii rfl rfl, ii rfl rfl, ii rfl rfl, ii rfl rfl, ii rfl rfl, ii rfl rfl, ii rfl rfl, ii rfl rfl, ii rfl rfl, ii rfl rfl, trivial⟩⟩, oa rfl, trivial⟩) ?_
            refine SOps.nil ?_
            refine SCode.join (σ := (List Int)) (S := fun s => ⟨[(3, .c (.ptr 0 0)), (7, .c (.own 1 s.length)), (9, .c (.int .i64 o_36)), (37, .c (.int .i64 t37_37))], [.box [.int .i64 a0_p.ID, .int .i64 a0_p.Level, .int .i64 a0_p.Purpose, .int .i64 a0_p.Kind, .int .i64 a0_p.Conn, .str a0_p.Txn, .int .i64 a0_p.Span_From, .int .i64 a0_p.Span_To, .int .i64 a0_p.Start, .int .i64 a0_p.Duration, .vec a0_p.Periods.length 2 (gL cSPeriod dSPeriod a0_p.Periods)], .arr 3 1 s.length (gL (cInt .i64) 0 s)]⟩) (g := fun s => profile_changes_p87 F a0_p o_36 t37_37 (fun o_36 t37_37 o1_38 => profile_changes_l64 F a0_p n_64 o_36 t37_37 o1_38) s = some r) ?_ ?_
            rotate_left
            · refine SCode.seq ?_
              refine SCode.region (show SOps _ _ _ [0, 1, 2] _ _ from ?_)
              refine SOps.q rfl (.plain rfl) rfl (q_field_ptr rfl rfl fd31_8) ?_
              refine SOps.q rfl (.plain rfl) rfl (q_load_ptr rfl rfl rfl rfl ty3) ?_
              refine SOps.q rfl (.plain rfl) rfl (q_gtr rfl rfl rfl) ?_
              refine SOps.sub (st' := ⟨[(3, .c (.ptr 0 0)), (7, .c (.own 1 (o1_38 ++ ([o_36])).length)), (9, .c (.int .i64 o_36)), (37, .c (.int .i64 t37_37)), (45, .c (.bool (decide (0 < a0_p.Duration))))], [.box [.int .i64 a0_p.ID, .int .i64 a0_p.Level, .int .i64 a0_p.Purpose, .int .i64 a0_p.Kind, .int .i64 a0_p.Conn, .str a0_p.Txn, .int .i64 a0_p.Span_From, .int .i64 a0_p.Span_To, .int .i64 a0_p.Start, .int .i64 a0_p.Duration, .vec a0_p.Periods.length 2 (gL cSPeriod dSPeriod a0_p.Periods)], .arr 3 1 (o1_38 ++ ([o_36])).length (gL (cInt .i64) 0 (o1_38 ++ ([o_36])))]⟩) (sub_gen [0, 1] rfl rfl ⟨zc rfl rfl, zc rfl rfl, zc rfl rfl, zc rfl rfl, zc rfl rfl, trivial⟩ ⟨⟨_, rfl, ⟨ii rfl rfl, ii rfl rfl, ii rfl rfl, ii rfl rfl, ii rfl rfl, ii rfl rfl, ii rfl rfl, ii rfl rfl, ii rfl rfl, ii rfl rfl, ii rfl rfl, trivial⟩⟩, oa rfl, trivial⟩) ?_
              refine SOps.nil ?_
              rcases cond_out h with ⟨g88, h⟩ | ⟨g88, h⟩
              · refine SCode.cond_t rfl g88 ?_
                obtain ⟨g89, h⟩ := guard_out h
                refine SCode.region (show SOps _ _ _ [0, 1, 2, 3, 4, 5, 6, 7] _ _ from ?_)
                refine SOps.q rfl (.plain rfl) rfl (q_move rfl rfl) ?_
                refine SOps.q rfl (.plain rfl) rfl (q_move rfl rfl) ?_
                refine SOps.q rfl (.plain rfl) rfl (q_field_ptr rfl rfl fd31_8) ?_
                refine SOps.q rfl (.plain rfl) rfl (q_load_ptr rfl rfl rfl rfl ty3) ?_
                refine SOps.q rfl (.plain rfl) rfl (q_add rfl rfl rfl) ?_
                refine SOps.q rfl (.plain rfl) rfl (q_bsliceL (c := (cInt .i64)) (d0 := 0) [IntKind.wrap .i64 (o_36 + a0_p.Duration)] rfl rfl sl69 z3 rfl rfl rfl rfl rfl rfl rfl) ?_
                refine SOps.e rfl (.plain rfl) (e_appendL (c := (cInt .i64)) (d0 := 0) (l := o1_38 ++ ([o_36])) (l2 := [IntKind.wrap .i64 (o_36 + a0_p.Duration)]) rfl rfl rfl rfl rfl rfl (.inl rfl) sl69 z3 rfl rfl oneInt g89.1 g89.2) ?_
                refine SOps.q rfl (.plain rfl) rfl (q_assign rfl rfl) ?_
                refine SOps.sub (st' := ⟨[(3, .c (.ptr 0 0)), (7, .c (.own 1 ((o1_38 ++ ([o_36])) ++ ([IntKind.wrap .i64 (o_36 + a0_p.Duration)])).length)), (9, .c (.int .i64 o_36)), (37, .c (.int .i64 t37_37))], [.box [.int .i64 a0_p.ID, .int .i64 a0_p.Level, .int .i64 a0_p.Purpose, .int .i64 a0_p.Kind, .int .i64 a0_p.Conn, .str a0_p.Txn, .int .i64 a0_p.Span_From, .int .i64 a0_p.Span_To, .int .i64 a0_p.Start, .int .i64 a0_p.Duration, .vec a0_p.Periods.length 2 (gL cSPeriod dSPeriod a0_p.Periods)], .arr 3 1 ((o1_38 ++ ([o_36])) ++ ([IntKind.wrap .i64 (o_36 + a0_p.Duration)])).length (gL (cInt .i64) 0 ((o1_38 ++ ([o_36])) ++ ([IntKind.wrap .i64 (o_36 + a0_p.Duration)])))]⟩) (sub_gen [0, 2] rfl rfl ⟨zc rfl rfl, zc rfl rfl, zc rfl rfl, zc rfl rfl, trivial⟩ ⟨⟨_, rfl, ⟨ii rfl rfl, ii rfl rfl, ii rfl rfl, ii rfl rfl, ii rfl rfl, ii rfl rfl, ii rfl rfl, ii rfl rfl, ii rfl rfl, ii rfl rfl, ii rfl rfl, trivial⟩⟩, oa rfl, trivial⟩) ?_
                refine SOps.nil ?_
                exact ⟨(o1_38 ++ ([o_36])) ++ ([IntKind.wrap .i64 (o_36 + a0_p.Duration)]), h, sub_gen [0, 1] rfl rfl ⟨zc rfl rfl, zc rfl rfl, zc rfl rfl, zc rfl rfl, trivial⟩ ⟨⟨_, rfl, ⟨ii rfl rfl, ii rfl rfl, ii rfl rfl, ii rfl rfl, ii rfl rfl, ii rfl rfl, ii rfl rfl, ii rfl rfl, ii rfl rfl, ii rfl rfl, ii rfl rfl, trivial⟩⟩, oa rfl, trivial⟩⟩
              refine SCode.cond_f rfl g88 ?_
              refine SCode.skip ?_
              exact ⟨o1_38 ++ ([o_36]), h, sub_gen [0, 1] rfl rfl ⟨zc rfl rfl, zc rfl rfl, zc rfl rfl, zc rfl rfl, trivial⟩ ⟨⟨_, rfl, ⟨ii rfl rfl, ii rfl rfl, ii rfl rfl, ii rfl rfl, ii rfl rfl, ii rfl rfl, ii rfl rfl, ii rfl rfl, ii rfl rfl, ii rfl rfl, ii rfl rfl, trivial⟩⟩, oa rfl, trivial⟩⟩
            rintro o1_70 h
            show SCode _ _ _ ⟨[(3, .c (.ptr 0 0)), (7, .c (.own 1 o1_70.length)), (9, .c (.int .i64 o_36)), (37, .c (.int .i64 t37_37))], [.box [.int .i64 a0_p.ID, .int .i64 a0_p.Level, .int .i64 a0_p.Purpose, .int .i64 a0_p.Kind, .int .i64 a0_p.Conn, .str a0_p.Txn, .int .i64 a0_p.Span_From, .int .i64 a0_p.Span_To, .int .i64 a0_p.Start, .int .i64 a0_p.Duration, .vec a0_p.Periods.length 2 (gL cSPeriod dSPeriod a0_p.Periods)], .arr 3 1 o1_70.length (gL (cInt .i64) 0 o1_70)]⟩ _
            replace h : profile_changes_p87 F a0_p o_36 t37_37 (fun o_36 t37_37 o1_38 => profile_changes_l64 F a0_p n_64 o_36 t37_37 o1_38) o1_70 = some r := h
            unfold profile_changes_p87 at h
            refine SCode.join (σ := (List Int)) (S := fun s => ⟨[(3, .c (.ptr 0 0)), (7, .c (.own 1 s.length)), (9, .c (.int .i64 o_36)), (37, .c (.int .i64 t37_37))], [.box [.int .i64 a0_p.ID, .int .i64 a0_p.Level, .int .i64 a0_p.Purpose, .int .i64 a0_p.Kind, .int .i64 a0_p.Conn, .str a0_p.Txn, .int .i64 a0_p.Span_From, .int .i64 a0_p.Span_To, .int .i64 a0_p.Start, .int .i64 a0_p.Duration, .vec a0_p.Periods.length 2 (gL cSPeriod dSPeriod a0_p.Periods)], .arr 3 1 s.length (gL (cInt .i64) 0 s)]⟩) (g := fun s => profile_changes_p74 F a0_p o_36 t37_37 (fun o_36 t37_37 o1_38 => profile_changes_l64 F a0_p n_64 o_36 t37_37 o1_38) s = some r) ?_ ?_
            rotate_left
            · refine SCode.seq ?_
              refine SCode.region (show SOps _ _ _ [0, 1, 2, 3] _ _ from ?_)
              refine SOps.q rfl (.plain rfl) rfl (q_field_ptr rfl rfl fd31_9) ?_
              refine SOps.q rfl (.plain rfl) rfl (q_load_ptr rfl rfl rfl rfl ty29) ?_
              refine SOps.q rfl (.plain rfl) rfl (q_len_vec rfl rfl sl29) ?_
              refine SOps.q rfl (.plain rfl) rfl (q_move rfl rfl) ?_
              refine SOps.sub (st' := ⟨[(3, .c (.ptr 0 0)), (7, .c (.own 1 o1_70.length)), (9, .c (.int .i64 o_36)), (37, .c (.int .i64 t37_37)), (54, .c (.vec a0_p.Periods.length 2 (gL cSPeriod dSPeriod a0_p.Periods))), (55, .c (.int .i64 (((a0_p.Periods).length : Int)))), (56, .c (.int .i64 0))], [.box [.int .i64 a0_p.ID, .int .i64 a0_p.Level, .int .i64 a0_p.Purpose, .int .i64 a0_p.Kind, .int .i64 a0_p.Conn, .str a0_p.Txn, .int .i64 a0_p.Span_From, .int .i64 a0_p.Span_To, .int .i64 a0_p.Start, .int .i64 a0_p.Duration, .vec a0_p.Periods.length 2 (gL cSPeriod dSPeriod a0_p.Periods)], .arr 3 1 o1_70.length (gL (cInt .i64) 0 o1_70)]⟩) (sub_gen [0, 1] rfl rfl ⟨zc rfl rfl, zc rfl rfl, zc rfl rfl, zc rfl rfl, zc rfl rfl, zc rfl rfl, zc rfl rfl, trivial⟩ ⟨⟨_, rfl, ⟨ii rfl rfl, ii rfl rfl, ii rfl rfl, ii rfl rfl, ii rfl rfl, ii rfl rfl, ii rfl rfl, ii rfl rfl, ii rfl rfl, ii rfl rfl, ii rfl rfl, trivial⟩⟩, oa rfl, trivial⟩) ?_
              refine SOps.nil ?_
              refine SCode.block ?_
              refine SCode.sub (st' := ⟨[(3, .c (.ptr 0 0)), (7, .c (.own 1 o1_70.length)), (9, .c (.int .i64 o_36)), (37, .c (.int .i64 t37_37)), (54, .c (.vec a0_p.Periods.length 2 (gL cSPeriod dSPeriod a0_p.Periods))), (55, .c (.int .i64 (((a0_p.Periods).length : Int)))), (56, .c (.int .i64 0))], [.box [.int .i64 a0_p.ID, .int .i64 a0_p.Level, .int .i64 a0_p.Purpose, .int .i64 a0_p.Kind, .int .i64 a0_p.Conn, .str a0_p.Txn, .int .i64 a0_p.Span_From, .int .i64 a0_p.Span_To, .int .i64 a0_p.Start, .int .i64 a0_p.Duration, .vec a0_p.Periods.length 2 (gL cSPeriod dSPeriod a0_p.Periods)], .arr 3 1 o1_70.length (gL (cInt .i64) 0 o1_70)]⟩) (sub_gen [0, 1] rfl rfl ⟨zc rfl rfl, zc rfl rfl, zc rfl rfl, zc rfl rfl, zc rfl rfl, zc rfl rfl, zc rfl rfl, trivial⟩ ⟨⟨_, rfl, ⟨ii rfl rfl, ii rfl rfl, ii rfl rfl, ii rfl rfl, ii rfl rfl, ii rfl rfl, ii rfl rfl, ii rfl rfl, ii rfl rfl, ii rfl rfl, ii rfl rfl, trivial⟩⟩, oa rfl, trivial⟩) ?_
              refine (SCode.loop (σ := Nat × (Int × (List Int))) (S := fun s => ⟨[(3, .c (.ptr 0 0)), (7, .c (.own 1 s.2.2.length)), (9, .c (.int .i64 o_36)), (37, .c (.int .i64 t37_37)), (54, .c (.vec a0_p.Periods.length 2 (gL cSPeriod dSPeriod a0_p.Periods))), (55, .c (.int .i64 (((a0_p.Periods).length : Int)))), (56, .c (.int .i64 s.2.1))], [.box [.int .i64 a0_p.ID, .int .i64 a0_p.Level, .int .i64 a0_p.Purpose, .int .i64 a0_p.Kind, .int .i64 a0_p.Conn, .str a0_p.Txn, .int .i64 a0_p.Span_From, .int .i64 a0_p.Span_To, .int .i64 a0_p.Start, .int .i64 a0_p.Duration, .vec a0_p.Periods.length 2 (gL cSPeriod dSPeriod a0_p.Periods)], .arr 3 1 s.2.2.length (gL (cInt .i64) 0 s.2.2)]⟩) (g := fun s => profile_changes_l83 F a0_p o_36 t37_37 (fun o_36 t37_37 o1_38 => profile_changes_l64 F a0_p n_64 o_36 t37_37 o1_38) s.1 s.2.1 s.2.2 = some r) (μ := fun s => s.1) (F, (0, o1_70)) h ?_)
              rintro ⟨n_83, ⟨t56_78, o1_79⟩⟩ h
              replace h : profile_changes_l83 F a0_p o_36 t37_37 (fun o_36 t37_37 o1_38 => profile_changes_l64 F a0_p n_64 o_36 t37_37 o1_38) n_83 t56_78 o1_79 = some r := h
              show SCode _ _ _ ⟨[(3, .c (.ptr 0 0)), (7, .c (.own 1 o1_79.length)), (9, .c (.int .i64 o_36)), (37, .c (.int .i64 t37_37)), (54, .c (.vec a0_p.Periods.length 2 (gL cSPeriod dSPeriod a0_p.Periods))), (55, .c (.int .i64 (((a0_p.Periods).length : Int)))), (56, .c (.int .i64 t56_78))], [.box [.int .i64 a0_p.ID, .int .i64 a0_p.Level, .int .i64 a0_p.Purpose, .int .i64 a0_p.Kind, .int .i64 a0_p.Conn, .str a0_p.Txn, .int .i64 a0_p.Span_From, .int .i64 a0_p.Span_To, .int .i64 a0_p.Start, .int .i64 a0_p.Duration, .vec a0_p.Periods.length 2 (gL cSPeriod dSPeriod a0_p.Periods)], .arr 3 1 o1_79.length (gL (cInt .i64) 0 o1_79)]⟩ _
              cases n_83 with
              | zero => cases h
              | succ n_83 =>
                replace h : profile_changes_b83 F a0_p o_36 t37_37 (fun o_36 t37_37 o1_38 => profile_changes_l64 F a0_p n_64 o_36 t37_37 o1_38) (fun t56_78 o1_79 => profile_changes_l83 F a0_p o_36 t37_37 (fun o_36 t37_37 o1_38 => profile_changes_l64 F a0_p n_64 o_36 t37_37 o1_38) n_83 t56_78 o1_79) t56_78 o1_79 = some r := h
                unfold profile_changes_b83 at h
                refine SCode.seq ?_
                refine SCode.region (show SOps _ _ _ [0] _ _ from ?_)
                refine SOps.q rfl (.plain rfl) rfl (q_lss rfl rfl rfl) ?_
                refine SOps.sub (st' := ⟨[(3, .c (.ptr 0 0)), (7, .c (.own 1 o1_79.length)), (9, .c (.int .i64 o_36)), (37, .c (.int .i64 t37_37)), (54, .c (.vec a0_p.Periods.length 2 (gL cSPeriod dSPeriod a0_p.Periods))), (55, .c (.int .i64 (((a0_p.Periods).length : Int)))), (56, .c (.int .i64 t56_78)), (57, .c (.bool (decide (t56_78 < ((a0_p.Periods).length : Int)))))], [.box [.int .i64 a0_p.ID, .int .i64 a0_p.Level, .int .i64 a0_p.Purpose, .int .i64 a0_p.Kind, .int .i64 a0_p.Conn, .str a0_p.Txn, .int .i64 a0_p.Span_From, .int .i64 a0_p.Span_To, .int .i64 a0_p.Start, .int .i64 a0_p.Duration, .vec a0_p.Periods.length 2 (gL cSPeriod dSPeriod a0_p.Periods)], .arr 3 1 o1_79.length (gL (cInt .i64) 0 o1_79)]⟩) (sub_gen [0, 1] rfl rfl ⟨zc rfl rfl, zc rfl rfl, zc rfl rfl, zc rfl rfl, zc rfl rfl, zc rfl rfl, zc rfl rfl, zc rfl rfl, trivial⟩ ⟨⟨_, rfl, ⟨ii rfl rfl, ii rfl rfl, ii rfl rfl, ii rfl rfl, ii rfl rfl, ii rfl rfl, ii rfl rfl, ii rfl rfl, ii rfl rfl, ii rfl rfl, ii rfl rfl, trivial⟩⟩, oa rfl, trivial⟩) ?_
                refine SOps.nil ?_
                refine SCode.seq ?_
                rcases cond_out h with ⟨g84, h⟩ | ⟨g84, h⟩
                · refine SCode.cond_t rfl g84 ?_
                  refine SCode.skip ?_
                  refine SCode.seq ?_
                  refine SCode.block ?_
                  refine SCode.seq ?_
                  obtain ⟨g85, h⟩ := guard_out h
                  refine SCode.region (show SOps _ _ _ [0, 1, 2, 3] _ _ from ?_)
                  refine SOps.q rfl (.plain rfl) rfl (q_index_vec rfl rfl rfl sl29 rfl g85.1 g85.2) ?_
                  refine SOps.q rfl (.plain rfl) rfl (q_load_eptr_all rfl rfl rfl ty38) ?_
                  refine SOps.e rfl (.plain rfl) (e_alloc rfl rfl rfl z38) ?_
                  refine SOps.e rfl (.plain rfl) (e_store_box rfl rfl rfl rfl rfl ty38 rfl rfl rfl rfl) ?_
                  refine SOps.sub (st' := ⟨[(3, .c (.ptr 0 0)), (7, .c (.own 1 o1_79.length)), (9, .c (.int .i64 o_36)), (12, .c (.ptr 2 0)), (37, .c (.int .i64 t37_37)), (54, .c (.vec a0_p.Periods.length 2 (gL cSPeriod dSPeriod a0_p.Periods))), (55, .c (.int .i64 (((a0_p.Periods).length : Int)))), (56, .c (.int .i64 t56_78))], [.box [.int .i64 a0_p.ID, .int .i64 a0_p.Level, .int .i64 a0_p.Purpose, .int .i64 a0_p.Kind, .int .i64 a0_p.Conn, .str a0_p.Txn, .int .i64 a0_p.Span_From, .int .i64 a0_p.Span_To, .int .i64 a0_p.Start, .int .i64 a0_p.Duration, .vec a0_p.Periods.length 2 (gL cSPeriod dSPeriod a0_p.Periods)], .arr 3 1 o1_79.length (gL (cInt .i64) 0 o1_79), .box [.int .i64 ((a0_p.Periods.getD t56_78.toNat dSPeriod).At), .int .i64 ((a0_p.Periods.getD t56_78.toNat dSPeriod).Limit)]]⟩) (sub_gen [0, 1, 2] rfl rfl ⟨zc rfl rfl, zc rfl rfl, zc rfl rfl, zc rfl rfl, zc rfl rfl, zc rfl rfl, zc rfl rfl, zc rfl rfl, trivial⟩ ⟨⟨_, rfl, ⟨ii rfl rfl, ii rfl rfl, ii rfl rfl, ii rfl rfl, ii rfl rfl, ii rfl rfl, ii rfl rfl, ii rfl rfl, ii rfl rfl, ii rfl rfl, ii rfl rfl, trivial⟩⟩, oa rfl, ⟨_, rfl, ⟨ii rfl rfl, ii rfl rfl, trivial⟩⟩, trivial⟩) ?_
                  refine SOps.nil ?_
                  obtain ⟨g86, h⟩ := guard_out h
                  refine SCode.region (show SOps _ _ _ [0, 1, 2, 3, 4, 5, 6, 7] _ _ from ?_)
                  refine SOps.q rfl (.plain rfl) rfl (q_move rfl rfl) ?_
                  refine SOps.q rfl (.plain rfl) rfl (q_move rfl rfl) ?_
                  refine SOps.q rfl (.plain rfl) rfl (q_field_ptr rfl rfl fd38_0) ?_
                  refine SOps.q rfl (.plain rfl) rfl (q_load_ptr rfl rfl rfl rfl ty3) ?_
                  refine SOps.q rfl (.plain rfl) rfl (q_add rfl rfl rfl) ?_
                  refine SOps.q rfl (.plain rfl) rfl (q_bsliceL (c := (cInt .i64)) (d0 := 0) [IntKind.wrap .i64 (o_36 + (a0_p.Periods.getD t56_78.toNat dSPeriod).At)] rfl rfl sl69 z3 rfl rfl rfl rfl rfl rfl rfl) ?_
                  refine SOps.e rfl (.plain rfl) (e_appendL (c := (cInt .i64)) (d0 := 0) (l := o1_79) (l2 := [IntKind.wrap .i64 (o_36 + (a0_p.Periods.getD t56_78.toNat dSPeriod).At)]) rfl rfl rfl rfl rfl rfl (.inl rfl) sl69 z3 rfl rfl oneInt g86.1 g86.2) ?_
                  refine SOps.q rfl (.plain rfl) rfl (q_assign rfl rfl) ?_
                  refine SOps.sub (st' := ⟨[(3, .c (.ptr 0 0)), (7, .c (.own 1 (o1_79 ++ ([IntKind.wrap .i64 (o_36 + (a0_p.Periods.getD t56_78.toNat dSPeriod).At)])).length)), (9, .c (.int .i64 o_36)), (37, .c (.int .i64 t37_37)), (54, .c (.vec a0_p.Periods.length 2 (gL cSPeriod dSPeriod a0_p.Periods))), (55, .c (.int .i64 (((a0_p.Periods).length : Int)))), (56, .c (.int .i64 t56_78))], [.box [.int .i64 a0_p.ID, .int .i64 a0_p.Level, .int .i64 a0_p.Purpose, .int .i64 a0_p.Kind, .int .i64 a0_p.Conn, .str a0_p.Txn, .int .i64 a0_p.Span_From, .int .i64 a0_p.Span_To, .int .i64 a0_p.Start, .int .i64 a0_p.Duration, .vec a0_p.Periods.length 2 (gL cSPeriod dSPeriod a0_p.Periods)], .arr 3 1 (o1_79 ++ ([IntKind.wrap .i64 (o_36 + (a0_p.Periods.getD t56_78.toNat dSPeriod).At)])).length (gL (cInt .i64) 0 (o1_79 ++ ([IntKind.wrap .i64 (o_36 + (a0_p.Periods.getD t56_78.toNat dSPeriod).At)])))]⟩) (sub_gen [0, 3] rfl rfl ⟨zc rfl rfl, zc rfl rfl, zc rfl rfl, zc rfl rfl, zc rfl rfl, zc rfl rfl, zc rfl rfl, trivial⟩ ⟨⟨_, rfl, ⟨ii rfl rfl, ii rfl rfl, ii rfl rfl, ii rfl rfl, ii rfl rfl, ii rfl rfl, ii rfl rfl, ii rfl rfl, ii rfl rfl, ii rfl rfl, ii rfl rfl, trivial⟩⟩, oa rfl, trivial⟩) ?_
                  refine SOps.nil ?_
                  refine SCode.region (show SOps _ _ _ [0, 1] _ _ from ?_)
                  refine SOps.q rfl (.plain rfl) rfl (q_add rfl rfl rfl) ?_
                  refine SOps.q rfl (.plain rfl) rfl (q_move rfl rfl) ?_
                  refine SOps.sub (st' := ⟨[(3, .c (.ptr 0 0)), (7, .c (.own 1 (o1_79 ++ ([IntKind.wrap .i64 (o_36 + (a0_p.Periods.getD t56_78.toNat dSPeriod).At)])).length)), (9, .c (.int .i64 o_36)), (37, .c (.int .i64 t37_37)), (54, .c (.vec a0_p.Periods.length 2 (gL cSPeriod dSPeriod a0_p.Periods))), (55, .c (.int .i64 (((a0_p.Periods).length : Int)))), (56, .c (.int .i64 (IntKind.wrap .i64 (t56_78 + 1))))], [.box [.int .i64 a0_p.ID, .int .i64 a0_p.Level, .int .i64 a0_p.Purpose, .int .i64 a0_p.Kind, .int .i64 a0_p.Conn, .str a0_p.Txn, .int .i64 a0_p.Span_From, .int .i64 a0_p.Span_To, .int .i64 a0_p.Start, .int .i64 a0_p.Duration, .vec a0_p.Periods.length 2 (gL cSPeriod dSPeriod a0_p.Periods)], .arr 3 1 (o1_79 ++ ([IntKind.wrap .i64 (o_36 + (a0_p.Periods.getD t56_78.toNat dSPeriod).At)])).length (gL (cInt .i64) 0 (o1_79 ++ ([IntKind.wrap .i64 (o_36 + (a0_p.Periods.getD t56_78.toNat dSPeriod).At)])))]⟩) (sub_gen [0, 1] rfl rfl ⟨zc rfl rfl, zc rfl rfl, zc rfl rfl, zc rfl rfl, zc rfl rfl, zc rfl rfl, zc rfl rfl, trivial⟩ ⟨⟨_, rfl, ⟨ii rfl rfl, ii rfl rfl, ii rfl rfl, ii rfl rfl, ii rfl rfl, ii rfl rfl, ii rfl rfl, ii rfl rfl, ii rfl rfl, ii rfl rfl, ii rfl rfl, trivial⟩⟩, oa rfl, trivial⟩) ?_
                  refine SOps.nil ?_
                  exact ⟨(n_83, (IntKind.wrap .i64 (t56_78 + 1), o1_79 ++ ([IntKind.wrap .i64 (o_36 + (a0_p.Periods.getD t56_78.toNat dSPeriod).At)]))), h, Nat.lt_succ_self n_83, sub_gen [0, 1] rfl rfl ⟨zc rfl rfl, zc rfl rfl, zc rfl rfl, zc rfl rfl, zc rfl rfl, zc rfl rfl, zc rfl rfl, trivial⟩ ⟨⟨_, rfl, ⟨ii rfl rfl, ii rfl rfl, ii rfl rfl, ii rfl rfl, ii rfl rfl, ii rfl rfl, ii rfl rfl, ii rfl rfl, ii rfl rfl, ii rfl rfl, ii rfl rfl, trivial⟩⟩, oa rfl, trivial⟩⟩
                refine SCode.cond_f rfl g84 ?_
                refine SCode.exit ?_
                exact ⟨o1_79, h, sub_gen [0, 1] rfl rfl ⟨zc rfl rfl, zc rfl rfl, zc rfl rfl, zc rfl rfl, trivial⟩ ⟨⟨_, rfl, ⟨ii rfl rfl, ii rfl rfl, ii rfl rfl, ii rfl rfl, ii rfl rfl, ii rfl rfl, ii rfl rfl, ii rfl rfl, ii rfl rfl, ii rfl rfl, ii rfl rfl, trivial⟩⟩, oa rfl, trivial⟩⟩
            rintro o1_71 h
            show SCode _ _ _ ⟨[(3, .c (.ptr 0 0)), (7, .c (.own 1 o1_71.length)), (9, .c (.int .i64 o_36)), (37, .c (.int .i64 t37_37))], [.box [.int .i64 a0_p.ID, .int .i64 a0_p.Level, .int .i64 a0_p.Purpose, .int .i64 a0_p.Kind, .int .i64 a0_p.Conn, .str a0_p.Txn, .int .i64 a0_p.Span_From, .int .i64 a0_p.Span_To, .int .i64 a0_p.Start, .int .i64 a0_p.Duration, .vec a0_p.Periods.length 2 (gL cSPeriod dSPeriod a0_p.Periods)], .arr 3 1 o1_71.length (gL (cInt .i64) 0 o1_71)]⟩ _
            replace h : profile_changes_p74 F a0_p o_36 t37_37 (fun o_36 t37_37 o1_38 => profile_changes_l64 F a0_p n_64 o_36 t37_37 o1_38) o1_71 = some r := h
            unfold profile_changes_p74 at h
            obtain ⟨c_72, g73, h⟩ := bind_out h
            try dsimp only at h
            refine SCode.region (show SOps _ _ _ [0, 1, 2, 3, 4, 5] _ _ from ?_)
            refine SOps.q rfl (.plain rfl) rfl (q_move rfl rfl) ?_
            refine SOps.q rfl (.plain rfl) rfl (q_field_ptr rfl rfl fd31_3) ?_
            refine SOps.q rfl (.plain rfl) rfl (q_load_ptr rfl rfl rfl rfl ty3) ?_
            refine SOps.q rfl (.plain rfl) rfl (q_call (profile_cycle_ok F a0_p.Kind c_72 g73) [] rfl fn46 ⟨⟨_, rfl, .inl ⟨rfl, rfl⟩⟩, trivial⟩ (.inl rfl)) ?_
            refine SOps.q rfl (.plain rfl) rfl (q_add rfl rfl rfl) ?_
            refine SOps.q rfl (.plain rfl) rfl (q_assign rfl rfl) ?_
            refine SOps.sub (st' := ⟨[(3, .c (.ptr 0 0)), (7, .c (.own 1 o1_71.length)), (9, .c (.int .i64 (IntKind.wrap .i64 (o_36 + c_72)))), (37, .c (.int .i64 t37_37))], [.box [.int .i64 a0_p.ID, .int .i64 a0_p.Level, .int .i64 a0_p.Purpose, .int .i64 a0_p.Kind, .int .i64 a0_p.Conn, .str a0_p.Txn, .int .i64 a0_p.Span_From, .int .i64 a0_p.Span_To, .int .i64 a0_p.Start, .int .i64 a0_p.Duration, .vec a0_p.Periods.length 2 (gL cSPeriod dSPeriod a0_p.Periods)], .arr 3 1 o1_71.length (gL (cInt .i64) 0 o1_71)]⟩) (sub_gen [0, 1] rfl rfl ⟨zc rfl rfl, zc rfl rfl, zc rfl rfl, zc rfl rfl, trivial⟩ ⟨⟨_, rfl, ⟨ii rfl rfl, ii rfl rfl, ii rfl rfl, ii rfl rfl, ii rfl rfl, ii rfl rfl, ii rfl rfl, ii rfl rfl, ii rfl rfl, ii rfl rfl, ii rfl rfl, trivial⟩⟩, oa rfl, trivial⟩) ?_
            refine SOps.nil ?_
            exact ⟨(IntKind.wrap .i64 (o_36 + c_72), o1_71), h, sub_gen [0, 1] rfl rfl ⟨zc rfl rfl, zc rfl rfl, zc rfl rfl, zc rfl rfl, trivial⟩ ⟨⟨_, rfl, ⟨ii rfl rfl, ii rfl rfl, ii rfl rfl, ii rfl rfl, ii rfl rfl, ii rfl rfl, ii rfl rfl, ii rfl rfl, ii rfl rfl, ii rfl rfl, ii rfl rfl, trivial⟩⟩, oa rfl, trivial⟩⟩
          rintro ⟨o_66, o1_67⟩ h
          show SCode _ _ _ ⟨[(3, .c (.ptr 0 0)), (7, .c (.own 1 o1_67.length)), (9, .c (.int .i64 o_66)), (37, .c (.int .i64 t37_37))], [.box [.int .i64 a0_p.ID, .int .i64 a0_p.Level, .int .i64 a0_p.Purpose, .int .i64 a0_p.Kind, .int .i64 a0_p.Conn, .str a0_p.Txn, .int .i64 a0_p.Span_From, .int .i64 a0_p.Span_To, .int .i64 a0_p.Start, .int .i64 a0_p.Duration, .vec a0_p.Periods.length 2 (gL cSPeriod dSPeriod a0_p.Periods)], .arr 3 1 o1_67.length (gL (cInt .i64) 0 o1_67)]⟩ _
          replace h : profile_changes_p68 t37_37 (fun o_36 t37_37 o1_38 => profile_changes_l64 F a0_p n_64 o_36 t37_37 o1_38) o_66 o1_67 = some r := h
          unfold profile_changes_p68 at h
          refine SCode.region (show SOps _ _ _ [0, 1] _ _ from ?_)
          refine SOps.q rfl (.plain rfl) rfl (q_add rfl rfl rfl) ?_
          refine SOps.q rfl (.plain rfl) rfl (q_move rfl rfl) ?_
          refine SOps.sub (st' := ⟨[(3, .c (.ptr 0 0)), (7, .c (.own 1 o1_67.length)), (9, .c (.int .i64 o_66)), (37, .c (.int .i64 (IntKind.wrap .i64 (t37_37 + 1))))], [.box [.int .i64 a0_p.ID, .int .i64 a0_p.Level, .int .i64 a0_p.Purpose, .int .i64 a0_p.Kind, .int .i64 a0_p.Conn, .str a0_p.Txn, .int .i64 a0_p.Span_From, .int .i64 a0_p.Span_To, .int .i64 a0_p.Start, .int .i64 a0_p.Duration, .vec a0_p.Periods.length 2 (gL cSPeriod dSPeriod a0_p.Periods)], .arr 3 1 o1_67.length (gL (cInt .i64) 0 o1_67)]⟩) (sub_gen [0, 1] rfl rfl ⟨zc rfl rfl, zc rfl rfl, zc rfl rfl, zc rfl rfl, trivial⟩ ⟨⟨_, rfl, ⟨ii rfl rfl, ii rfl rfl, ii rfl rfl, ii rfl rfl, ii rfl rfl, ii rfl rfl, ii rfl rfl, ii rfl rfl, ii rfl rfl, ii rfl rfl, ii rfl rfl, trivial⟩⟩, oa rfl, trivial⟩) ?_
          refine SOps.nil ?_
          exact ⟨(n_64, (o_66, IntKind.wrap .i64 (t37_37 + 1), o1_67)), h, Nat.lt_succ_self n_64, sub_gen [0, 1] rfl rfl ⟨zc rfl rfl, zc rfl rfl, zc rfl rfl, zc rfl rfl, trivial⟩ ⟨⟨_, rfl, ⟨ii rfl rfl, ii rfl rfl, ii rfl rfl, ii rfl rfl, ii rfl rfl, ii rfl rfl, ii rfl rfl, ii rfl rfl, ii rfl rfl, ii rfl rfl, ii rfl rfl, trivial⟩⟩, oa rfl, trivial⟩⟩
        refine SCode.cond_f rfl g65 ?_
        refine SCode.exit ?_
        exact ⟨o1_38, h, sub_gen [1] rfl rfl ⟨zc rfl rfl, trivial⟩ ⟨oa rfl, trivial⟩⟩
    refine SCode.cond_f rfl g8 ?_
    refine SCode.skip ?_
    exact ⟨[a0_p.Span_From, a0_p.Span_To], h, sub_gen [1] rfl rfl ⟨zc rfl rfl, trivial⟩ ⟨oa rfl, trivial⟩⟩
  rintro o0_3 h
  show SCode _ _ _ ⟨[(7, .c (.own 0 o0_3.length))], [.arr 3 1 o0_3.length (gL (cInt .i64) 0 o0_3)]⟩ _
  replace h : profile_changes_p7 F o0_3 = some r := h
  unfold profile_changes_p7 at h
  refine SCode.seq ?_
  obtain ⟨c_4, g5, h⟩ := bind_out h
  try dsimp only at h
  obtain ⟨g6, h⟩ := guard_out h
  refine SCode.region (show SOps _ _ _ [0, 1] _ _ from ?_)
  refine SOps.q rfl (.plain rfl) rfl (q_move rfl rfl) ?_
  refine SOps.e rfl (.plain rfl) (e_call (slices_Sort_int_int_ok F o0_3 c_4 g5) [0] rfl fn48 rfl rfl rfl rfl rfl rfl rfl rfl) ?_
  refine SOps.sub (st' := ⟨[(7, .c (.own 0 c_4.length))], [.arr 3 1 c_4.length (gL (cInt .i64) 0 c_4)]⟩) (sub_gen [0] rfl rfl ⟨⟨_, rfl, .inl ⟨rfl, congrArg (Cell.own 0) g6.symm⟩⟩, trivial⟩ ⟨oa rfl, trivial⟩) ?_
  refine SOps.nil ?_
  refine SCode.seq ?_
  refine SCode.region (show SOps _ _ _ [0, 1] _ _ from ?_)
  refine SOps.q rfl (.plain rfl) rfl (q_move rfl rfl) ?_
  refine SOps.q rfl (.plain rfl) rfl (q_assign rfl rfl) ?_
  refine SOps.sub (st' := ⟨[(6, .c (.own 0 c_4.length))], [.arr 3 1 c_4.length (gL (cInt .i64) 0 c_4)]⟩) (sub_gen [0] rfl rfl ⟨zc rfl rfl, trivial⟩ ⟨oa rfl, trivial⟩) ?_
  refine SOps.nil ?_
  refine SCode.ret ?_
  obtain rfl := Option.some.inj h
  exact ⟨⟨[(6, .c (.vec c_4.length 1 (gL (cInt .i64) 0 c_4)))], []⟩, _, sub_gen [] rfl rfl ⟨⟨_, rfl, .inr (.inl ⟨_, _, _, _, _, _, _, rfl, rfl, rfl, Nat.le_refl _, fun _ _ _ _ => rfl, by decide⟩)⟩, trivial⟩ trivial, resA1 (v := .c (.vec c_4.length 1 (gL (cInt .i64) 0 c_4))) rfl rfl, rfl⟩
end Go.Proofs.Ytjpooimkhkhgkaa.W
