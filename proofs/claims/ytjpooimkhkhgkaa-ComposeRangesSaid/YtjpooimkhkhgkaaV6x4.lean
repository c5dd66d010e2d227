/- Written by a program of ours (wip/eng/gen.py): the functions compute their models. -/
import Derived.Test.YtjpooimkhkhgkaaFacts
import Derived.Test.YtjpooimkhkhgkaaV6x3
namespace Go.Proofs.Ytjpooimkhkhgkaa.W
open Go Go.Proofs Go.Proofs.Ytjpooimkhkhgkaa.E Go.Proofs.Ytjpooimkhkhgkaa.M
set_option linter.unusedVariables false
set_option maxRecDepth 100000 in
set_option maxHeartbeats 8000000 in
theorem compose_earliest_ok (F : Nat) (a0_l : List SProfile) (a1_start : Int) (a2_t : Int) (a3_ahead : List Int) (r : Int × (List Int)) (h : compose_earliest F a0_l a1_start a2_t a3_ahead = some r) :
    SFun Try.prog 38 [.arr 3 1 a3_ahead.length (gL (cInt .i64) 0 a3_ahead)] [.c (.vec a0_l.length 11 (gL cSProfile dSProfile a0_l)), .c (.int .i64 a1_start), .c (.int .i64 a2_t), .c (.own 0 a3_ahead.length)] (fun x os => x = .c (.int .i64 r.1) ∧ os = [.arr 3 1 r.2.length (gL (cInt .i64) 0 r.2)]) := by
  refine SFun.of (n := 48) Try.func38 rfl rfl rfl ?_
  unfold compose_earliest at h
  show SCode _ _ _ ⟨[(0, .c (.vec a0_l.length 11 (gL cSProfile dSProfile a0_l))), (1, .c (.int .i64 a1_start)), (2, .c (.int .i64 a2_t)), (3, .c (.own 0 a3_ahead.length))], [.arr 3 1 a3_ahead.length (gL (cInt .i64) 0 a3_ahead)]⟩ _
  refine SCode.seq ?_
  refine SCode.region (show SOps _ _ _ [0] _ _ from ?_)
  refine SOps.q rfl (.plain rfl) rfl (q_assign rfl rfl) ?_
  refine SOps.sub (st' := ⟨[(0, .c (.vec a0_l.length 11 (gL cSProfile dSProfile a0_l))), (1, .c (.int .i64 a1_start)), (2, .c (.int .i64 a2_t)), (3, .c (.own 0 a3_ahead.length))], [.arr 3 1 a3_ahead.length (gL (cInt .i64) 0 a3_ahead)]⟩) (sub_gen [0] rfl rfl ⟨zc rfl rfl, zc rfl rfl, zc rfl rfl, zc rfl rfl, trivial⟩ ⟨oa rfl, trivial⟩) ?_
  refine SOps.nil ?_
  refine SCode.seq ?_
  refine SCode.region (show SOps _ _ _ [0] _ _ from ?_)
  refine SOps.q rfl (.plain rfl) rfl (q_assign rfl rfl) ?_
  refine SOps.sub (st' := ⟨[(0, .c (.vec a0_l.length 11 (gL cSProfile dSProfile a0_l))), (1, .c (.int .i64 a1_start)), (2, .c (.int .i64 a2_t)), (3, .c (.own 0 a3_ahead.length)), (9, .c (.int .i64 268435457))], [.arr 3 1 a3_ahead.length (gL (cInt .i64) 0 a3_ahead)]⟩) (sub_gen [0] rfl rfl ⟨zc rfl rfl, zc rfl rfl, zc rfl rfl, zc rfl rfl, zc rfl rfl, trivial⟩ ⟨oa rfl, trivial⟩) ?_
  refine SOps.nil ?_
  refine SCode.join (σ := Int × (List Int)) (S := fun s => ⟨[(9, .c (.int .i64 s.1))], [.arr 3 1 s.2.length (gL (cInt .i64) 0 s.2)]⟩) (g := fun s => compose_earliest_p3 s.1 s.2 = some r) ?_ ?_
  rotate_left
  · refine SCode.seq ?_
    refine SCode.region (show SOps _ _ _ [0, 1, 2] _ _ from ?_)
    refine SOps.q rfl (.plain rfl) rfl (q_move rfl rfl) ?_
    refine SOps.q rfl (.plain rfl) rfl (q_len_vec rfl rfl sl22) ?_
    refine SOps.q rfl (.plain rfl) rfl (q_move rfl rfl) ?_
    refine SOps.sub (st' := ⟨[(1, .c (.int .i64 a1_start)), (2, .c (.int .i64 a2_t)), (3, .c (.own 0 a3_ahead.length)), (9, .c (.int .i64 268435457)), (12, .c (.vec a0_l.length 11 (gL cSProfile dSProfile a0_l))), (13, .c (.int .i64 (((a0_l).length : Int)))), (14, .c (.int .i64 0))], [.arr 3 1 a3_ahead.length (gL (cInt .i64) 0 a3_ahead)]⟩) (sub_gen [0] rfl rfl ⟨zc rfl rfl, zc rfl rfl, zc rfl rfl, zc rfl rfl, zc rfl rfl, zc rfl rfl, zc rfl rfl, trivial⟩ ⟨oa rfl, trivial⟩) ?_
    refine SOps.nil ?_
    refine SCode.block ?_
    refine SCode.sub (st' := ⟨[(1, .c (.int .i64 a1_start)), (2, .c (.int .i64 a2_t)), (3, .c (.own 0 a3_ahead.length)), (9, .c (.int .i64 268435457)), (12, .c (.vec a0_l.length 11 (gL cSProfile dSProfile a0_l))), (13, .c (.int .i64 (((a0_l).length : Int)))), (14, .c (.int .i64 0))], [.arr 3 1 a3_ahead.length (gL (cInt .i64) 0 a3_ahead)]⟩) (sub_gen [0] rfl rfl ⟨zc rfl rfl, zc rfl rfl, zc rfl rfl, zc rfl rfl, zc rfl rfl, zc rfl rfl, zc rfl rfl, trivial⟩ ⟨oa rfl, trivial⟩) ?_
    refine (SCode.loop (σ := Nat × (Int × Int × (List Int))) (S := fun s => ⟨[(1, .c (.int .i64 a1_start)), (2, .c (.int .i64 a2_t)), (3, .c (.own 0 s.2.2.2.length)), (9, .c (.int .i64 s.2.1)), (12, .c (.vec a0_l.length 11 (gL cSProfile dSProfile a0_l))), (13, .c (.int .i64 (((a0_l).length : Int)))), (14, .c (.int .i64 s.2.2.1))], [.arr 3 1 s.2.2.2.length (gL (cInt .i64) 0 s.2.2.2)]⟩) (g := fun s => compose_earliest_l33 F a0_l a1_start a2_t s.1 s.2.1 s.2.2.1 s.2.2.2 = some r) (μ := fun s => s.1) (F, (268435457, 0, a3_ahead)) h ?_)
    rintro ⟨n_33, ⟨best_17, t14_18, o0_19⟩⟩ h
    replace h : compose_earliest_l33 F a0_l a1_start a2_t n_33 best_17 t14_18 o0_19 = some r := h
    show SCode _ _ _ ⟨[(1, .c (.int .i64 a1_start)), (2, .c (.int .i64 a2_t)), (3, .c (.own 0 o0_19.length)), (9, .c (.int .i64 best_17)), (12, .c (.vec a0_l.length 11 (gL cSProfile dSProfile a0_l))), (13, .c (.int .i64 (((a0_l).length : Int)))), (14, .c (.int .i64 t14_18))], [.arr 3 1 o0_19.length (gL (cInt .i64) 0 o0_19)]⟩ _
    cases n_33 with
    | zero => cases h
    | succ n_33 =>
      replace h : compose_earliest_b33 F a0_l a1_start a2_t (fun best_17 t14_18 o0_19 => compose_earliest_l33 F a0_l a1_start a2_t n_33 best_17 t14_18 o0_19) best_17 t14_18 o0_19 = some r := h
      unfold compose_earliest_b33 at h
      refine SCode.seq ?_
      refine SCode.region (show SOps _ _ _ [0] _ _ from ?_)
      refine SOps.q rfl (.plain rfl) rfl (q_lss rfl rfl rfl) ?_
      refine SOps.sub (st' := ⟨[(1, .c (.int .i64 a1_start)), (2, .c (.int .i64 a2_t)), (3, .c (.own 0 o0_19.length)), (9, .c (.int .i64 best_17)), (12, .c (.vec a0_l.length 11 (gL cSProfile dSProfile a0_l))), (13, .c (.int .i64 (((a0_l).length : Int)))), (14, .c (.int .i64 t14_18)), (15, .c (.bool (decide (t14_18 < ((a0_l).length : Int)))))], [.arr 3 1 o0_19.length (gL (cInt .i64) 0 o0_19)]⟩) (sub_gen [0] rfl rfl ⟨zc rfl rfl, zc rfl rfl, zc rfl rfl, zc rfl rfl, zc rfl rfl, zc rfl rfl, zc rfl rfl, zc rfl rfl, trivial⟩ ⟨oa rfl, trivial⟩) ?_
      refine SOps.nil ?_
      refine SCode.seq ?_
      rcases cond_out h with ⟨g34, h⟩ | ⟨g34, h⟩
      · refine SCode.cond_t rfl g34 ?_
        refine SCode.skip ?_
        refine SCode.seq ?_
        refine SCode.block ?_
        refine SCode.seq ?_
        obtain ⟨g35, h⟩ := guard_out h
        refine SCode.region (show SOps _ _ _ [0, 1, 2, 3, 4, 5] _ _ from ?_)
        refine SOps.q rfl (.plain rfl) rfl (q_move rfl rfl) ?_
        refine SOps.q rfl (.plain rfl) rfl (q_index_vec rfl rfl rfl sl22 rfl g35.1 g35.2) ?_
        refine SOps.q rfl (.plain rfl) rfl (q_load_eptr_all rfl rfl rfl ty31) ?_
        refine SOps.e rfl (.plain rfl) (e_alloc rfl rfl rfl z31) ?_
        refine SOps.q rfl (.plain rfl) rfl (q_assign rfl rfl) ?_
        refine SOps.e rfl (.plain rfl) (e_store_box rfl rfl rfl rfl rfl ty31 rfl rfl rfl rfl) ?_
        refine SOps.sub (st' := ⟨[(1, .c (.int .i64 a1_start)), (2, .c (.int .i64 a2_t)), (3, .c (.own 0 o0_19.length)), (9, .c (.int .i64 best_17)), (10, .c (.int .i64 t14_18)), (11, .c (.ptr 1 0)), (12, .c (.vec a0_l.length 11 (gL cSProfile dSProfile a0_l))), (13, .c (.int .i64 (((a0_l).length : Int)))), (14, .c (.int .i64 t14_18))], [.arr 3 1 o0_19.length (gL (cInt .i64) 0 o0_19), .box [.int .i64 ((a0_l.getD t14_18.toNat dSProfile).ID), .int .i64 ((a0_l.getD t14_18.toNat dSProfile).Level), .int .i64 ((a0_l.getD t14_18.toNat dSProfile).Purpose), .int .i64 ((a0_l.getD t14_18.toNat dSProfile).Kind), .int .i64 ((a0_l.getD t14_18.toNat dSProfile).Conn), .str ((a0_l.getD t14_18.toNat dSProfile).Txn), .int .i64 ((a0_l.getD t14_18.toNat dSProfile).Span_From), .int .i64 ((a0_l.getD t14_18.toNat dSProfile).Span_To), .int .i64 ((a0_l.getD t14_18.toNat dSProfile).Start), .int .i64 ((a0_l.getD t14_18.toNat dSProfile).Duration), .vec ((a0_l.getD t14_18.toNat dSProfile).Periods).length 2 (gL cSPeriod dSPeriod ((a0_l.getD t14_18.toNat dSProfile).Periods))]]⟩) (sub_gen [0, 1] rfl rfl ⟨zc rfl rfl, zc rfl rfl, zc rfl rfl, zc rfl rfl, zc rfl rfl, zc rfl rfl, zc rfl rfl, zc rfl rfl, zc rfl rfl, trivial⟩ ⟨oa rfl, ⟨_, rfl, ⟨ii rfl rfl, ii rfl rfl, ii rfl rfl, ii rfl rfl, ii rfl rfl, ii rfl rfl, ii rfl rfl, ii rfl rfl, ii rfl rfl, ii rfl rfl, ii rfl rfl, trivial⟩⟩, trivial⟩) ?_
        refine SOps.nil ?_
        refine SCode.join (σ := (List Int)) (S := fun s => ⟨[(1, .c (.int .i64 a1_start)), (2, .c (.int .i64 a2_t)), (3, .c (.own 0 s.length)), (9, .c (.int .i64 best_17)), (10, .c (.int .i64 t14_18)), (12, .c (.vec a0_l.length 11 (gL cSProfile dSProfile a0_l))), (13, .c (.int .i64 (((a0_l).length : Int)))), (14, .c (.int .i64 t14_18))], [.arr 3 1 s.length (gL (cInt .i64) 0 s)]⟩) (g := fun s => compose_earliest_p38 best_17 t14_18 (fun best_17 t14_18 o0_19 => compose_earliest_l33 F a0_l a1_start a2_t n_33 best_17 t14_18 o0_19) s = some r) ?_ ?_
        rotate_left
        · refine SCode.seq ?_
          obtain ⟨g39, h⟩ := guard_out h
          refine SCode.region (show SOps _ _ _ [0, 1, 2, 3, 4, 5] _ _ from ?_)
          refine SOps.q rfl (.plain rfl) rfl (q_move rfl rfl) ?_
          refine SOps.q rfl (.plain rfl) rfl (q_move rfl rfl) ?_
          refine SOps.q rfl (.plain rfl) rfl (q_index_own rfl rfl rfl sl69 g39.1 g39.2) ?_
          refine SOps.q rfl (.plain rfl) rfl (q_load_aptr rfl rfl rfl (toNat_lt g39) rfl ty3) ?_
          refine SOps.q rfl (.plain rfl) rfl (q_move rfl rfl) ?_
          refine SOps.q rfl (.plain rfl) rfl (q_leq rfl rfl rfl) ?_
          refine SOps.sub (st' := ⟨[(1, .c (.int .i64 a1_start)), (2, .c (.int .i64 a2_t)), (3, .c (.own 0 o0_19.length)), (9, .c (.int .i64 best_17)), (10, .c (.int .i64 t14_18)), (11, .c (.ptr 1 0)), (12, .c (.vec a0_l.length 11 (gL cSProfile dSProfile a0_l))), (13, .c (.int .i64 (((a0_l).length : Int)))), (14, .c (.int .i64 t14_18)), (24, .c (.bool (decide (o0_19.getD t14_18.toNat 0 ≤ a2_t))))], [.arr 3 1 o0_19.length (gL (cInt .i64) 0 o0_19), .box [.int .i64 ((a0_l.getD t14_18.toNat dSProfile).ID), .int .i64 ((a0_l.getD t14_18.toNat dSProfile).Level), .int .i64 ((a0_l.getD t14_18.toNat dSProfile).Purpose), .int .i64 ((a0_l.getD t14_18.toNat dSProfile).Kind), .int .i64 ((a0_l.getD t14_18.toNat dSProfile).Conn), .str ((a0_l.getD t14_18.toNat dSProfile).Txn), .int .i64 ((a0_l.getD t14_18.toNat dSProfile).Span_From), .int .i64 ((a0_l.getD t14_18.toNat dSProfile).Span_To), .int .i64 ((a0_l.getD t14_18.toNat dSProfile).Start), .int .i64 ((a0_l.getD t14_18.toNat dSProfile).Duration), .vec ((a0_l.getD t14_18.toNat dSProfile).Periods).length 2 (gL cSPeriod dSPeriod ((a0_l.getD t14_18.toNat dSProfile).Periods))]]⟩) (sub_gen [0, 1] rfl rfl ⟨zc rfl rfl, zc rfl rfl, zc rfl rfl, zc rfl rfl, zc rfl rfl, zc rfl rfl, zc rfl rfl, zc rfl rfl, zc rfl rfl, zc rfl rfl, trivial⟩ ⟨oa rfl, ⟨_, rfl, ⟨ii rfl rfl, ii rfl rfl, ii rfl rfl, ii rfl rfl, ii rfl rfl, ii rfl rfl, ii rfl rfl, ii rfl rfl, ii rfl rfl, ii rfl rfl, ii rfl rfl, trivial⟩⟩, trivial⟩) ?_
          refine SOps.nil ?_
          rcases cond_out h with ⟨g40, h⟩ | ⟨g40, h⟩
          · refine SCode.cond_t rfl g40 ?_
            refine SCode.seq ?_
            obtain ⟨c_41, g42, h⟩ := bind_out h
            try dsimp only at h
            obtain ⟨g43, h⟩ := guard_out h
            refine SCode.region (show SOps _ _ _ [0, 1, 2, 3, 4, 5, 6, 7] _ _ from ?_)
            refine SOps.q rfl (.plain rfl) rfl (q_move rfl rfl) ?_
            refine SOps.q rfl (.plain rfl) rfl (q_move rfl rfl) ?_
            refine SOps.q rfl (.plain rfl) rfl (q_load_ptr_all rfl rfl rfl rfl rfl ty31) ?_
            refine SOps.q rfl (.plain rfl) rfl (q_move rfl rfl) ?_
            refine SOps.q rfl (.plain rfl) rfl (q_move rfl rfl) ?_
            refine SOps.q rfl (.plain rfl) rfl (q_call (profile_Next_ok F (a0_l.getD t14_18.toNat dSProfile) a1_start a2_t c_41 g42) [] rfl fn43 ⟨⟨rfl, rfl⟩, ⟨_, rfl, .inl ⟨rfl, rfl⟩⟩, ⟨_, rfl, .inl ⟨rfl, rfl⟩⟩, trivial⟩ (.inl rfl)) ?_
            refine SOps.q rfl (.plain rfl) rfl (q_index_own rfl rfl rfl sl69 g43.1 g43.2) ?_
            refine SOps.e rfl (.plain rfl) (e_storeL c_41 rfl rfl rfl rfl rfl (toNat_lt g43) ty3 rfl rfl rfl rfl rfl rfl) ?_
            refine SOps.sub (st' := ⟨[(1, .c (.int .i64 a1_start)), (2, .c (.int .i64 a2_t)), (3, .c (.own 0 (o0_19.set t14_18.toNat c_41).length)), (9, .c (.int .i64 best_17)), (10, .c (.int .i64 t14_18)), (12, .c (.vec a0_l.length 11 (gL cSProfile dSProfile a0_l))), (13, .c (.int .i64 (((a0_l).length : Int)))), (14, .c (.int .i64 t14_18))], [.arr 3 1 (o0_19.set t14_18.toNat c_41).length (gL (cInt .i64) 0 (o0_19.set t14_18.toNat c_41))]⟩) (sub_gen [0] rfl rfl ⟨zc rfl rfl, zc rfl rfl, ⟨_, rfl, .inl ⟨rfl, congrArg (Cell.own 0) (List.length_set : (o0_19.set t14_18.toNat c_41).length = o0_19.length).symm⟩⟩, zc rfl rfl, zc rfl rfl, zc rfl rfl, zc rfl rfl, zc rfl rfl, trivial⟩ ⟨oa rfl, trivial⟩) ?_
            refine SOps.nil ?_
            refine SCode.seq ?_
            obtain ⟨g44, h⟩ := guard_out h
            refine SCode.region (show SOps _ _ _ [0, 1, 2, 3, 4] _ _ from ?_)
            refine SOps.q rfl (.plain rfl) rfl (q_move rfl rfl) ?_
            refine SOps.q rfl (.plain rfl) rfl (q_move rfl rfl) ?_
            refine SOps.q rfl (.plain rfl) rfl (q_index_own rfl rfl rfl sl69 g44.1 g44.2) ?_
            refine SOps.q rfl (.plain rfl) rfl (q_load_aptr rfl rfl rfl (toNat_lt g44) rfl ty3) ?_
            refine SOps.q rfl (.plain rfl) rfl (q_lss rfl rfl rfl) ?_
            refine SOps.sub (st' := ⟨[(1, .c (.int .i64 a1_start)), (2, .c (.int .i64 a2_t)), (3, .c (.own 0 (o0_19.set t14_18.toNat c_41).length)), (9, .c (.int .i64 best_17)), (10, .c (.int .i64 t14_18)), (12, .c (.vec a0_l.length 11 (gL cSProfile dSProfile a0_l))), (13, .c (.int .i64 (((a0_l).length : Int)))), (14, .c (.int .i64 t14_18)), (36, .c (.bool (decide ((o0_19.set t14_18.toNat c_41).getD t14_18.toNat 0 < 0))))], [.arr 3 1 (o0_19.set t14_18.toNat c_41).length (gL (cInt .i64) 0 (o0_19.set t14_18.toNat c_41))]⟩) (sub_gen [0] rfl rfl ⟨zc rfl rfl, zc rfl rfl, zc rfl rfl, zc rfl rfl, zc rfl rfl, zc rfl rfl, zc rfl rfl, zc rfl rfl, zc rfl rfl, trivial⟩ ⟨oa rfl, trivial⟩) ?_
            refine SOps.nil ?_
            rcases cond_out h with ⟨g45, h⟩ | ⟨g45, h⟩
            · refine SCode.cond_t rfl g45 ?_
              obtain ⟨g46, h⟩ := guard_out h
              refine SCode.region (show SOps _ _ _ [0, 1, 2, 3] _ _ from ?_)
              refine SOps.q rfl (.plain rfl) rfl (q_move rfl rfl) ?_
              refine SOps.q rfl (.plain rfl) rfl (q_move rfl rfl) ?_
              refine SOps.q rfl (.plain rfl) rfl (q_index_own rfl rfl rfl sl69 g46.1 g46.2) ?_
              refine SOps.e rfl (.plain rfl) (e_storeL 268435457 rfl rfl rfl rfl rfl (toNat_lt g46) ty3 rfl rfl rfl rfl rfl rfl) ?_
              refine SOps.sub (st' := ⟨[(1, .c (.int .i64 a1_start)), (2, .c (.int .i64 a2_t)), (3, .c (.own 0 ((o0_19.set t14_18.toNat c_41).set t14_18.toNat 268435457).length)), (9, .c (.int .i64 best_17)), (10, .c (.int .i64 t14_18)), (12, .c (.vec a0_l.length 11 (gL cSProfile dSProfile a0_l))), (13, .c (.int .i64 (((a0_l).length : Int)))), (14, .c (.int .i64 t14_18))], [.arr 3 1 ((o0_19.set t14_18.toNat c_41).set t14_18.toNat 268435457).length (gL (cInt .i64) 0 ((o0_19.set t14_18.toNat c_41).set t14_18.toNat 268435457))]⟩) (sub_gen [0] rfl rfl ⟨zc rfl rfl, zc rfl rfl, ⟨_, rfl, .inl ⟨rfl, congrArg (Cell.own 0) (List.length_set : ((o0_19.set t14_18.toNat c_41).set t14_18.toNat 268435457).length = (o0_19.set t14_18.toNat c_41).length).symm⟩⟩, zc rfl rfl, zc rfl rfl, zc rfl rfl, zc rfl rfl, zc rfl rfl, trivial⟩ ⟨oa rfl, trivial⟩) ?_
              refine SOps.nil ?_
              exact ⟨(o0_19.set t14_18.toNat c_41).set t14_18.toNat 268435457, h, sub_gen [0] rfl rfl ⟨zc rfl rfl, zc rfl rfl, zc rfl rfl, zc rfl rfl, zc rfl rfl, zc rfl rfl, zc rfl rfl, zc rfl rfl, trivial⟩ ⟨oa rfl, trivial⟩⟩
            refine SCode.cond_f rfl g45 ?_
            refine SCode.skip ?_
            exact ⟨o0_19.set t14_18.toNat c_41, h, sub_gen [0] rfl rfl ⟨zc rfl rfl, zc rfl rfl, zc rfl rfl, zc rfl rfl, zc rfl rfl, zc rfl rfl, zc rfl rfl, zc rfl rfl, trivial⟩ ⟨oa rfl, trivial⟩⟩
          refine SCode.cond_f rfl g40 ?_
          refine SCode.skip ?_
          exact ⟨o0_19, h, sub_gen [0] rfl rfl ⟨zc rfl rfl, zc rfl rfl, zc rfl rfl, zc rfl rfl, zc rfl rfl, zc rfl rfl, zc rfl rfl, zc rfl rfl, trivial⟩ ⟨oa rfl, trivial⟩⟩
        rintro o0_36 h
        show SCode _ _ _ ⟨[(1, .c (.int .i64 a1_start)), (2, .c (.int .i64 a2_t)), (3, .c (.own 0 o0_36.length)), (9, .c (.int .i64 best_17)), (10, .c (.int .i64 t14_18)), (12, .c (.vec a0_l.length 11 (gL cSProfile dSProfile a0_l))), (13, .c (.int .i64 (((a0_l).length : Int)))), (14, .c (.int .i64 t14_18))], [.arr 3 1 o0_36.length (gL (cInt .i64) 0 o0_36)]⟩ _
        replace h : compose_earliest_p38 best_17 t14_18 (fun best_17 t14_18 o0_19 => compose_earliest_l33 F a0_l a1_start a2_t n_33 best_17 t14_18 o0_19) o0_36 = some r := h
        unfold compose_earliest_p38 at h
        obtain ⟨g37, h⟩ := guard_out h
        refine SCode.region (show SOps _ _ _ [0, 1, 2, 3, 4, 5, 6] _ _ from ?_)
        refine SOps.q rfl (.plain rfl) rfl (q_move rfl rfl) ?_
        refine SOps.q rfl (.plain rfl) rfl (q_move rfl rfl) ?_
        refine SOps.q rfl (.plain rfl) rfl (q_move rfl rfl) ?_
        refine SOps.q rfl (.plain rfl) rfl (q_index_own rfl rfl rfl sl69 g37.1 g37.2) ?_
        refine SOps.q rfl (.plain rfl) rfl (q_load_aptr rfl rfl rfl (toNat_lt g37) rfl ty3) ?_
        refine SOps.q rfl (.plain rfl) rfl (q_min rfl rfl rfl) ?_
        refine SOps.q rfl (.plain rfl) rfl (q_assign rfl rfl) ?_
        refine SOps.sub (st' := ⟨[(1, .c (.int .i64 a1_start)), (2, .c (.int .i64 a2_t)), (3, .c (.own 0 o0_36.length)), (9, .c (.int .i64 ((if o0_36.getD t14_18.toNat 0 < best_17 then o0_36.getD t14_18.toNat 0 else best_17)))), (12, .c (.vec a0_l.length 11 (gL cSProfile dSProfile a0_l))), (13, .c (.int .i64 (((a0_l).length : Int)))), (14, .c (.int .i64 t14_18))], [.arr 3 1 o0_36.length (gL (cInt .i64) 0 o0_36)]⟩) (sub_gen [0] rfl rfl ⟨zc rfl rfl, zc rfl rfl, zc rfl rfl, zc rfl rfl, zc rfl rfl, zc rfl rfl, zc rfl rfl, trivial⟩ ⟨oa rfl, trivial⟩) ?_
        refine SOps.nil ?_
        refine SCode.region (show SOps _ _ _ [0, 1] _ _ from ?_)
        refine SOps.q rfl (.plain rfl) rfl (q_add rfl rfl rfl) ?_
        refine SOps.q rfl (.plain rfl) rfl (q_move rfl rfl) ?_
        refine SOps.sub (st' := ⟨[(1, .c (.int .i64 a1_start)), (2, .c (.int .i64 a2_t)), (3, .c (.own 0 o0_36.length)), (9, .c (.int .i64 ((if o0_36.getD t14_18.toNat 0 < best_17 then o0_36.getD t14_18.toNat 0 else best_17)))), (12, .c (.vec a0_l.length 11 (gL cSProfile dSProfile a0_l))), (13, .c (.int .i64 (((a0_l).length : Int)))), (14, .c (.int .i64 (IntKind.wrap .i64 (t14_18 + 1))))], [.arr 3 1 o0_36.length (gL (cInt .i64) 0 o0_36)]⟩) (sub_gen [0] rfl rfl ⟨zc rfl rfl, zc rfl rfl, zc rfl rfl, zc rfl rfl, zc rfl rfl, zc rfl rfl, zc rfl rfl, trivial⟩ ⟨oa rfl, trivial⟩) ?_
        refine SOps.nil ?_
        exact ⟨(n_33, ((if o0_36.getD t14_18.toNat 0 < best_17 then o0_36.getD t14_18.toNat 0 else best_17), IntKind.wrap .i64 (t14_18 + 1), o0_36)), h, Nat.lt_succ_self n_33, sub_gen [0] rfl rfl ⟨zc rfl rfl, zc rfl rfl, zc rfl rfl, zc rfl rfl, zc rfl rfl, zc rfl rfl, zc rfl rfl, trivial⟩ ⟨oa rfl, trivial⟩⟩
      refine SCode.cond_f rfl g34 ?_
      refine SCode.exit ?_
      exact ⟨(best_17, o0_19), h, sub_gen [0] rfl rfl ⟨zc rfl rfl, trivial⟩ ⟨oa rfl, trivial⟩⟩
  rintro ⟨best_1, o0_2⟩ h
  show SCode _ _ _ ⟨[(9, .c (.int .i64 best_1))], [.arr 3 1 o0_2.length (gL (cInt .i64) 0 o0_2)]⟩ _
  replace h : compose_earliest_p3 best_1 o0_2 = some r := h
  unfold compose_earliest_p3 at h
  refine SCode.seq ?_
  refine SCode.region (show SOps _ _ _ [0, 1] _ _ from ?_)
  refine SOps.q rfl (.plain rfl) rfl (q_move rfl rfl) ?_
  refine SOps.q rfl (.plain rfl) rfl (q_assign rfl rfl) ?_
  refine SOps.sub (st' := ⟨[(8, .c (.int .i64 best_1))], [.arr 3 1 o0_2.length (gL (cInt .i64) 0 o0_2)]⟩) (sub_gen [0] rfl rfl ⟨zc rfl rfl, trivial⟩ ⟨oa rfl, trivial⟩) ?_
  refine SOps.nil ?_
  refine SCode.ret ?_
  obtain rfl := Option.some.inj h
  exact ⟨⟨[(8, .c (.int .i64 best_1))], [.arr 3 1 o0_2.length (gL (cInt .i64) 0 o0_2)]⟩, _, sub_gen [0] rfl rfl ⟨zc rfl rfl, trivial⟩ ⟨oa rfl, trivial⟩, resA1 (v := .c (.int .i64 best_1)) rfl rfl, ⟨rfl, rfl⟩⟩
set_option maxRecDepth 100000 in
set_option maxHeartbeats 8000000 in
theorem compose_next_ok (F : Nat) (a0_l : List SProfile) (a1_start : Int) (a2_t : Int) (a3_last : Int) (r : Int) (h : compose_next F a0_l a1_start a2_t a3_last = some r) :
    SFun Try.prog 26 [] [.c (.vec a0_l.length 11 (gL cSProfile dSProfile a0_l)), .c (.int .i64 a1_start), .c (.int .i64 a2_t), .c (.int .i64 a3_last)] (fun x _ => x = .c (.int .i64 r)) := by
  refine SFun.of (n := 75) Try.func26 rfl rfl rfl ?_
  unfold compose_next at h
  show SCode _ _ _ ⟨[(0, .c (.vec a0_l.length 11 (gL cSProfile dSProfile a0_l))), (1, .c (.int .i64 a1_start)), (2, .c (.int .i64 a2_t)), (3, .c (.int .i64 a3_last))], []⟩ _
  refine SCode.seq ?_
  refine SCode.region (show SOps _ _ _ [0] _ _ from ?_)
  refine SOps.q rfl (.plain rfl) rfl (q_assign rfl rfl) ?_
  refine SOps.sub (st' := ⟨[(0, .c (.vec a0_l.length 11 (gL cSProfile dSProfile a0_l))), (1, .c (.int .i64 a1_start)), (2, .c (.int .i64 a2_t)), (3, .c (.int .i64 a3_last))], []⟩) (sub_gen [] rfl rfl ⟨zc rfl rfl, zc rfl rfl, zc rfl rfl, zc rfl rfl, trivial⟩ trivial) ?_
  refine SOps.nil ?_
  refine SCode.join (σ := Int) (S := fun s => ⟨[(0, .c (.vec a0_l.length 11 (gL cSProfile dSProfile a0_l))), (1, .c (.int .i64 a1_start)), (2, .c (.int .i64 s)), (3, .c (.int .i64 a3_last))], []⟩) (g := fun s => compose_next_p66 F a0_l a1_start a3_last s = some r) ?_ ?_
  rotate_left
  · refine SCode.seq ?_
    refine SCode.region (show SOps _ _ _ [0, 1] _ _ from ?_)
    refine SOps.q rfl (.plain rfl) rfl (q_move rfl rfl) ?_
    refine SOps.q rfl (.plain rfl) rfl (q_lss rfl rfl rfl) ?_
    refine SOps.sub (st' := ⟨[(0, .c (.vec a0_l.length 11 (gL cSProfile dSProfile a0_l))), (1, .c (.int .i64 a1_start)), (2, .c (.int .i64 a2_t)), (3, .c (.int .i64 a3_last)), (14, .c (.bool (decide (a2_t < 0))))], []⟩) (sub_gen [] rfl rfl ⟨zc rfl rfl, zc rfl rfl, zc rfl rfl, zc rfl rfl, zc rfl rfl, trivial⟩ trivial) ?_
    refine SOps.nil ?_
    rcases cond_out h with ⟨g67, h⟩ | ⟨g67, h⟩
    · refine SCode.cond_t rfl g67 ?_
      refine SCode.join (σ := Unit) (S := fun s => ⟨[(0, .c (.vec a0_l.length 11 (gL cSProfile dSProfile a0_l))), (1, .c (.int .i64 a1_start)), (3, .c (.int .i64 a3_last))], []⟩) (g := fun s => compose_next_p68 F a0_l a1_start a3_last = some r) ?_ ?_
      rotate_left
      · refine SCode.seq ?_
        rcases cond_out h with ⟨g69, h⟩ | ⟨g69, h⟩
        · obtain ⟨c_70, g71, h⟩ := bind_out h
          try dsimp only at h
          obtain ⟨c_72, g73, h⟩ := bind_out h
          try dsimp only at h
          refine SCode.region (show SOps _ _ _ [0, 1, 2, 3, 4, 5, 6, 7, 8, 9, 10] _ _ from ?_)
          refine SOps.q rfl (.plain rfl) rfl (q_move rfl rfl) ?_
          refine SOps.q rfl (.plain rfl) rfl (q_geq rfl rfl rfl) ?_
          refine SOps.q rfl (.plain rfl) rfl (q_move rfl rfl) ?_
          refine SOps.q rfl (.guard 2 17 true rfl rfl (gT g69)) rfl (q_move rfl rfl) ?_
          refine SOps.q rfl (.guard 2 17 true rfl rfl (gT g69)) rfl (q_move rfl rfl) ?_
          refine SOps.q rfl (.guard 2 17 true rfl rfl (gT g69)) rfl (q_call (compose_limit_ok F a0_l a1_start 0 c_70 g71) [] rfl fn22 ⟨⟨_, rfl, .inl ⟨rfl, rfl⟩⟩, ⟨_, rfl, .inl ⟨rfl, rfl⟩⟩, ⟨_, rfl, .inl ⟨rfl, rfl⟩⟩, trivial⟩ (.inl rfl)) ?_
          refine SOps.q rfl (.guard 2 17 true rfl rfl (gT g69)) rfl (q_move rfl rfl) ?_
          refine SOps.q rfl (.guard 2 17 true rfl rfl (gT g69)) rfl (q_move rfl rfl) ?_
          refine SOps.q rfl (.guard 2 17 true rfl rfl (gT g69)) rfl (q_call (compose_limit_ok F a0_l a1_start ((-1)) c_72 g73) [] rfl fn22 ⟨⟨_, rfl, .inl ⟨rfl, rfl⟩⟩, ⟨_, rfl, .inl ⟨rfl, rfl⟩⟩, ⟨_, rfl, .inl ⟨rfl, rfl⟩⟩, trivial⟩ (.inl rfl)) ?_
          refine SOps.q rfl (.guard 2 17 true rfl rfl (gT g69)) rfl (q_neq rfl rfl rfl) ?_
          refine SOps.q rfl (.plain rfl) rfl (q_pick_t rfl rfl g69 rfl) ?_
          refine SOps.sub (st' := ⟨[(0, .c (.vec a0_l.length 11 (gL cSProfile dSProfile a0_l))), (1, .c (.int .i64 a1_start)), (3, .c (.int .i64 a3_last)), (25, .c (.bool ((!decide (c_70 = c_72)))))], []⟩) (sub_gen [] rfl rfl ⟨zc rfl rfl, zc rfl rfl, zc rfl rfl, zc rfl rfl, trivial⟩ trivial) ?_
          refine SOps.nil ?_
          rcases cond_out h with ⟨g74, h⟩ | ⟨g74, h⟩
          · refine SCode.cond_t rfl g74 ?_
            refine SCode.seq ?_
            refine SCode.region (show SOps _ _ _ [0] _ _ from ?_)
            refine SOps.q rfl (.plain rfl) rfl (q_assign rfl rfl) ?_
            refine SOps.sub (st' := ⟨[(8, .c (.int .i64 0))], []⟩) (sub_gen [] rfl rfl ⟨zc rfl rfl, trivial⟩ trivial) ?_
            refine SOps.nil ?_
            refine SCode.ret ?_
            obtain rfl := Option.some.inj h
            exact ⟨⟨[(8, .c (.int .i64 0))], []⟩, _, sub_gen [] rfl rfl ⟨zc rfl rfl, trivial⟩ trivial, resA1 (v := .c (.int .i64 0)) rfl rfl, rfl⟩
          refine SCode.cond_f rfl g74 ?_
          refine SCode.skip ?_
          exact ⟨(), h, sub_gen [] rfl rfl ⟨zc rfl rfl, zc rfl rfl, zc rfl rfl, trivial⟩ trivial⟩
        refine SCode.region (show SOps _ _ _ [0, 1, 2, 3, 4, 5, 6, 7, 8, 9, 10] _ _ from ?_)
        refine SOps.q rfl (.plain rfl) rfl (q_move rfl rfl) ?_
        refine SOps.q rfl (.plain rfl) rfl (q_geq rfl rfl rfl) ?_
        refine SOps.q rfl (.plain rfl) rfl (q_move rfl rfl) ?_
        refine SOps.skip rfl 2 17 true rfl rfl (.inl (gF g69)) rfl ?_
        refine SOps.skip rfl 2 17 true rfl rfl (.inl (gF g69)) rfl ?_
        refine SOps.skip rfl 2 17 true rfl rfl (.inl (gF g69)) rfl ?_
        refine SOps.skip rfl 2 17 true rfl rfl (.inl (gF g69)) rfl ?_
        refine SOps.skip rfl 2 17 true rfl rfl (.inl (gF g69)) rfl ?_
        refine SOps.skip rfl 2 17 true rfl rfl (.inl (gF g69)) rfl ?_
        refine SOps.skip rfl 2 17 true rfl rfl (.inl (gF g69)) rfl ?_
        refine SOps.q rfl (.plain rfl) rfl (q_pick_f rfl rfl g69 rfl) ?_
        refine SOps.sub (st' := ⟨[(0, .c (.vec a0_l.length 11 (gL cSProfile dSProfile a0_l))), (1, .c (.int .i64 a1_start)), (3, .c (.int .i64 a3_last)), (25, .c (.bool false))], []⟩) (sub_gen [] rfl rfl ⟨zc rfl rfl, zc rfl rfl, zc rfl rfl, zc rfl rfl, trivial⟩ trivial) ?_
        refine SOps.nil ?_
        refine SCode.cond_f rfl rfl ?_
        refine SCode.skip ?_
        exact ⟨(), h, sub_gen [] rfl rfl ⟨zc rfl rfl, zc rfl rfl, zc rfl rfl, trivial⟩ trivial⟩
      rintro ⟨⟩ h
      show SCode _ _ _ ⟨[(0, .c (.vec a0_l.length 11 (gL cSProfile dSProfile a0_l))), (1, .c (.int .i64 a1_start)), (3, .c (.int .i64 a3_last))], []⟩ _
      replace h : compose_next_p68 F a0_l a1_start a3_last = some r := h
      unfold compose_next_p68 at h
      refine SCode.region (show SOps _ _ _ [0] _ _ from ?_)
      refine SOps.q rfl (.plain rfl) rfl (q_assign rfl rfl) ?_
      refine SOps.sub (st' := ⟨[(0, .c (.vec a0_l.length 11 (gL cSProfile dSProfile a0_l))), (1, .c (.int .i64 a1_start)), (2, .c (.int .i64 0)), (3, .c (.int .i64 a3_last))], []⟩) (sub_gen [] rfl rfl ⟨zc rfl rfl, zc rfl rfl, zc rfl rfl, zc rfl rfl, trivial⟩ trivial) ?_
      refine SOps.nil ?_
      exact ⟨0, h, sub_gen [] rfl rfl ⟨zc rfl rfl, zc rfl rfl, zc rfl rfl, zc rfl rfl, trivial⟩ trivial⟩
    refine SCode.cond_f rfl g67 ?_
    refine SCode.skip ?_
    exact ⟨a2_t, h, sub_gen [] rfl rfl ⟨zc rfl rfl, zc rfl rfl, zc rfl rfl, zc rfl rfl, trivial⟩ trivial⟩
  rintro t_1 h
  show SCode _ _ _ ⟨[(0, .c (.vec a0_l.length 11 (gL cSProfile dSProfile a0_l))), (1, .c (.int .i64 a1_start)), (2, .c (.int .i64 t_1)), (3, .c (.int .i64 a3_last))], []⟩ _
  replace h : compose_next_p66 F a0_l a1_start a3_last t_1 = some r := h
  unfold compose_next_p66 at h
  refine SCode.seq ?_
  obtain ⟨c_2, g3, h⟩ := bind_out h
  try dsimp only at h
  refine SCode.region (show SOps _ _ _ [0, 1, 2, 3, 4, 5, 6] _ _ from ?_)
  refine SOps.q rfl (.plain rfl) rfl (q_move rfl rfl) ?_
  refine SOps.q rfl (.plain rfl) rfl (q_move rfl rfl) ?_
  refine SOps.q rfl (.plain rfl) rfl (q_move rfl rfl) ?_
  refine SOps.q rfl (.plain rfl) rfl (q_move rfl rfl) ?_
  refine SOps.q rfl (.plain rfl) rfl (q_call (compose_pause_ok F a0_l a1_start t_1 c_2 g3) [] rfl fn37 ⟨⟨_, rfl, .inl ⟨rfl, rfl⟩⟩, ⟨_, rfl, .inl ⟨rfl, rfl⟩⟩, ⟨_, rfl, .inl ⟨rfl, rfl⟩⟩, trivial⟩ (.inl rfl)) ?_
  refine SOps.q rfl (.plain rfl) rfl (q_assign rfl rfl) ?_
  refine SOps.q rfl (.plain rfl) rfl (q_assign rfl rfl) ?_
  refine SOps.sub (st' := ⟨[(0, .c (.vec a0_l.length 11 (gL cSProfile dSProfile a0_l))), (1, .c (.int .i64 a1_start)), (2, .c (.int .i64 t_1)), (3, .c (.int .i64 a3_last)), (9, .c (.int .i64 t_1)), (10, .c (.int .i64 c_2))], []⟩) (sub_gen [] rfl rfl ⟨zc rfl rfl, zc rfl rfl, zc rfl rfl, zc rfl rfl, zc rfl rfl, zc rfl rfl, trivial⟩ trivial) ?_
  refine SOps.nil ?_
  refine SCode.seq ?_
  obtain ⟨g4, h⟩ := guard_out h
  refine SCode.region (show SOps _ _ _ [0, 1, 2, 3] _ _ from ?_)
  refine SOps.q rfl (.plain rfl) rfl (q_move rfl rfl) ?_
  refine SOps.q rfl (.plain rfl) rfl (q_len_vec rfl rfl sl22) ?_
  refine SOps.e rfl (.plain rfl) (e_makeL (c := (cInt .i64)) (d0 := 0) rfl rfl rfl rfl rfl sl69 z3 rfl rfl rfl g4.1 (Int.le_refl _) g4.2.1 g4.2.2) ?_
  refine SOps.q rfl (.plain rfl) rfl (q_assign rfl rfl) ?_
  refine SOps.sub (st' := ⟨[(0, .c (.vec a0_l.length 11 (gL cSProfile dSProfile a0_l))), (1, .c (.int .i64 a1_start)), (2, .c (.int .i64 t_1)), (3, .c (.int .i64 a3_last)), (9, .c (.int .i64 t_1)), (10, .c (.int .i64 c_2)), (11, .c (.own 0 (List.replicate (((a0_l).length : Int)).toNat 0).length))], [.arr 3 1 (List.replicate (((a0_l).length : Int)).toNat 0).length (gL (cInt .i64) 0 (List.replicate (((a0_l).length : Int)).toNat 0))]⟩) (sub_gen [0] rfl rfl ⟨zc rfl rfl, zc rfl rfl, zc rfl rfl, zc rfl rfl, zc rfl rfl, zc rfl rfl, zc rfl rfl, trivial⟩ ⟨oa rfl, trivial⟩) ?_
  refine SOps.nil ?_
  refine SCode.join (σ := Unit) (S := fun s => ⟨[], []⟩) (g := fun s => compose_next_p5 = some r) ?_ ?_
  rotate_left
  · refine SCode.block ?_
    refine SCode.sub (st' := ⟨[(0, .c (.vec a0_l.length 11 (gL cSProfile dSProfile a0_l))), (1, .c (.int .i64 a1_start)), (2, .c (.int .i64 t_1)), (3, .c (.int .i64 a3_last)), (9, .c (.int .i64 t_1)), (10, .c (.int .i64 c_2)), (11, .c (.own 0 (List.replicate (((a0_l).length : Int)).toNat 0).length))], [.arr 3 1 (List.replicate (((a0_l).length : Int)).toNat 0).length (gL (cInt .i64) 0 (List.replicate (((a0_l).length : Int)).toNat 0))]⟩) (sub_gen [0] rfl rfl ⟨zc rfl rfl, zc rfl rfl, zc rfl rfl, zc rfl rfl, zc rfl rfl, zc rfl rfl, zc rfl rfl, trivial⟩ ⟨oa rfl, trivial⟩) ?_
    refine (SCode.loop (σ := Nat × (Int × Int × Int × (List Int))) (S := fun s => ⟨[(0, .c (.vec a0_l.length 11 (gL cSProfile dSProfile a0_l))), (1, .c (.int .i64 a1_start)), (2, .c (.int .i64 s.2.1)), (3, .c (.int .i64 a3_last)), (9, .c (.int .i64 s.2.2.1)), (10, .c (.int .i64 s.2.2.2.1)), (11, .c (.own 0 s.2.2.2.2.length))], [.arr 3 1 s.2.2.2.2.length (gL (cInt .i64) 0 s.2.2.2.2)]⟩) (g := fun s => compose_next_l48 F a0_l a1_start a3_last s.1 s.2.1 s.2.2.1 s.2.2.2.1 s.2.2.2.2 = some r) (μ := fun s => s.1) (F, (t_1, t_1, c_2, List.replicate (((a0_l).length : Int)).toNat 0)) h ?_)
    rintro ⟨n_48, ⟨t_27, begin_28, end_29, o0_30⟩⟩ h
    replace h : compose_next_l48 F a0_l a1_start a3_last n_48 t_27 begin_28 end_29 o0_30 = some r := h
    show SCode _ _ _ ⟨[(0, .c (.vec a0_l.length 11 (gL cSProfile dSProfile a0_l))), (1, .c (.int .i64 a1_start)), (2, .c (.int .i64 t_27)), (3, .c (.int .i64 a3_last)), (9, .c (.int .i64 begin_28)), (10, .c (.int .i64 end_29)), (11, .c (.own 0 o0_30.length))], [.arr 3 1 o0_30.length (gL (cInt .i64) 0 o0_30)]⟩ _
    cases n_48 with
    | zero => cases h
    | succ n_48 =>
      replace h : compose_next_b48 F a0_l a1_start a3_last (fun t_27 begin_28 end_29 o0_30 => compose_next_l48 F a0_l a1_start a3_last n_48 t_27 begin_28 end_29 o0_30) t_27 begin_28 end_29 o0_30 = some r := h
      unfold compose_next_b48 at h
      refine SCode.seq ?_
      refine SCode.seq ?_
      refine SCode.region (show SOps _ _ _ [0, 1, 2] _ _ from ?_)
      refine SOps.q rfl (.plain rfl) rfl (q_move rfl rfl) ?_
      refine SOps.q rfl (.plain rfl) rfl (q_move rfl rfl) ?_
      refine SOps.q rfl (.plain rfl) rfl (q_lss rfl rfl rfl) ?_
      refine SOps.sub (st' := ⟨[(0, .c (.vec a0_l.length 11 (gL cSProfile dSProfile a0_l))), (1, .c (.int .i64 a1_start)), (2, .c (.int .i64 t_27)), (3, .c (.int .i64 a3_last)), (9, .c (.int .i64 begin_28)), (10, .c (.int .i64 end_29)), (11, .c (.own 0 o0_30.length)), (36, .c (.bool (decide (t_27 < a3_last))))], [.arr 3 1 o0_30.length (gL (cInt .i64) 0 o0_30)]⟩) (sub_gen [0] rfl rfl ⟨zc rfl rfl, zc rfl rfl, zc rfl rfl, zc rfl rfl, zc rfl rfl, zc rfl rfl, zc rfl rfl, zc rfl rfl, trivial⟩ ⟨oa rfl, trivial⟩) ?_
      refine SOps.nil ?_
      rcases cond_out h with ⟨g49, h⟩ | ⟨g49, h⟩
      · refine SCode.cond_t rfl g49 ?_
        refine SCode.skip ?_
        refine SCode.block ?_
        refine SCode.seq ?_
        obtain ⟨c_50, g51, h⟩ := bind_out h
        try dsimp only at h
        obtain ⟨g52, h⟩ := guard_out h
        refine SCode.region (show SOps _ _ _ [0, 1, 2, 3, 4, 5] _ _ from ?_)
        refine SOps.q rfl (.plain rfl) rfl (q_move rfl rfl) ?_
        refine SOps.q rfl (.plain rfl) rfl (q_move rfl rfl) ?_
        refine SOps.q rfl (.plain rfl) rfl (q_move rfl rfl) ?_
        refine SOps.q rfl (.plain rfl) rfl (q_move rfl rfl) ?_
        refine SOps.e rfl (.plain rfl) (e_call (compose_earliest_ok F a0_l a1_start t_27 o0_30 c_50 g51) [0] rfl fn38 rfl rfl rfl rfl rfl rfl rfl rfl) ?_
        refine SOps.q rfl (.plain rfl) rfl (q_assign rfl rfl) ?_
        refine SOps.sub (st' := ⟨[(0, .c (.vec a0_l.length 11 (gL cSProfile dSProfile a0_l))), (1, .c (.int .i64 a1_start)), (3, .c (.int .i64 a3_last)), (9, .c (.int .i64 begin_28)), (10, .c (.int .i64 end_29)), (11, .c (.own 0 c_50.2.length)), (12, .c (.int .i64 c_50.1))], [.arr 3 1 c_50.2.length (gL (cInt .i64) 0 c_50.2)]⟩) (sub_gen [0] rfl rfl ⟨zc rfl rfl, zc rfl rfl, zc rfl rfl, zc rfl rfl, zc rfl rfl, ⟨_, rfl, .inl ⟨rfl, congrArg (Cell.own 0) g52.symm⟩⟩, zc rfl rfl, trivial⟩ ⟨oa rfl, trivial⟩) ?_
        refine SOps.nil ?_
        refine SCode.join (σ := Int) (S := fun s => ⟨[(0, .c (.vec a0_l.length 11 (gL cSProfile dSProfile a0_l))), (1, .c (.int .i64 a1_start)), (3, .c (.int .i64 a3_last)), (9, .c (.int .i64 begin_28)), (10, .c (.int .i64 end_29)), (11, .c (.own 0 c_50.2.length)), (12, .c (.int .i64 s))], [.arr 3 1 c_50.2.length (gL (cInt .i64) 0 c_50.2)]⟩) (g := fun s => compose_next_p63 F a0_l a1_start a3_last begin_28 end_29 (fun t_27 begin_28 end_29 o0_30 => compose_next_l48 F a0_l a1_start a3_last n_48 t_27 begin_28 end_29 o0_30) c_50 s = some r) ?_ ?_
        rotate_left
        · refine SCode.seq ?_
          rcases cond_out h with ⟨g64, h⟩ | ⟨g64, h⟩
          · refine SCode.region (show SOps _ _ _ [0, 1, 2, 3, 4, 5, 6, 7, 8] _ _ from ?_)
            refine SOps.q rfl (.plain rfl) rfl (q_move rfl rfl) ?_
            refine SOps.q rfl (.plain rfl) rfl (q_move rfl rfl) ?_
            refine SOps.q rfl (.plain rfl) rfl (q_gtr rfl rfl rfl) ?_
            refine SOps.q rfl (.plain rfl) rfl (q_move rfl rfl) ?_
            refine SOps.skip rfl 3 45 false rfl rfl (.inl (gT g64)) rfl ?_
            refine SOps.skip rfl 3 45 false rfl rfl (.inl (gT g64)) rfl ?_
            refine SOps.skip rfl 3 45 false rfl rfl (.inl (gT g64)) rfl ?_
            refine SOps.skip rfl 3 45 false rfl rfl (.inl (gT g64)) rfl ?_
            refine SOps.q rfl (.plain rfl) rfl (q_pick_t rfl rfl g64 rfl) ?_
            refine SOps.sub (st' := ⟨[(0, .c (.vec a0_l.length 11 (gL cSProfile dSProfile a0_l))), (1, .c (.int .i64 a1_start)), (3, .c (.int .i64 a3_last)), (9, .c (.int .i64 begin_28)), (10, .c (.int .i64 end_29)), (11, .c (.own 0 c_50.2.length)), (12, .c (.int .i64 c_50.1)), (50, .c (.bool true))], [.arr 3 1 c_50.2.length (gL (cInt .i64) 0 c_50.2)]⟩) (sub_gen [0] rfl rfl ⟨zc rfl rfl, zc rfl rfl, zc rfl rfl, zc rfl rfl, zc rfl rfl, zc rfl rfl, zc rfl rfl, zc rfl rfl, trivial⟩ ⟨oa rfl, trivial⟩) ?_
            refine SOps.nil ?_
            refine SCode.cond_t rfl rfl ?_
            refine SCode.region (show SOps _ _ _ [0, 1] _ _ from ?_)
            refine SOps.q rfl (.plain rfl) rfl (q_move rfl rfl) ?_
            refine SOps.q rfl (.plain rfl) rfl (q_assign rfl rfl) ?_
            refine SOps.sub (st' := ⟨[(0, .c (.vec a0_l.length 11 (gL cSProfile dSProfile a0_l))), (1, .c (.int .i64 a1_start)), (3, .c (.int .i64 a3_last)), (9, .c (.int .i64 begin_28)), (10, .c (.int .i64 end_29)), (11, .c (.own 0 c_50.2.length)), (12, .c (.int .i64 end_29))], [.arr 3 1 c_50.2.length (gL (cInt .i64) 0 c_50.2)]⟩) (sub_gen [0] rfl rfl ⟨zc rfl rfl, zc rfl rfl, zc rfl rfl, zc rfl rfl, zc rfl rfl, zc rfl rfl, zc rfl rfl, trivial⟩ ⟨oa rfl, trivial⟩) ?_
            refine SOps.nil ?_
            exact ⟨end_29, h, sub_gen [0] rfl rfl ⟨zc rfl rfl, zc rfl rfl, zc rfl rfl, zc rfl rfl, zc rfl rfl, zc rfl rfl, zc rfl rfl, trivial⟩ ⟨oa rfl, trivial⟩⟩
          refine SCode.region (show SOps _ _ _ [0, 1, 2, 3, 4, 5, 6, 7, 8] _ _ from ?_)
          refine SOps.q rfl (.plain rfl) rfl (q_move rfl rfl) ?_
          refine SOps.q rfl (.plain rfl) rfl (q_move rfl rfl) ?_
          refine SOps.q rfl (.plain rfl) rfl (q_gtr rfl rfl rfl) ?_
          refine SOps.q rfl (.plain rfl) rfl (q_move rfl rfl) ?_
          refine SOps.q rfl (.guard 3 45 false rfl rfl (gF g64)) rfl (q_move rfl rfl) ?_
          refine SOps.q rfl (.guard 3 45 false rfl rfl (gF g64)) rfl (q_move rfl rfl) ?_
          refine SOps.q rfl (.guard 3 45 false rfl rfl (gF g64)) rfl (q_sub rfl rfl rfl) ?_
          refine SOps.q rfl (.guard 3 45 false rfl rfl (gF g64)) rfl (q_gtr rfl rfl rfl) ?_
          refine SOps.q rfl (.plain rfl) rfl (q_pick_f rfl rfl g64 rfl) ?_
          refine SOps.sub (st' := ⟨[(0, .c (.vec a0_l.length 11 (gL cSProfile dSProfile a0_l))), (1, .c (.int .i64 a1_start)), (3, .c (.int .i64 a3_last)), (9, .c (.int .i64 begin_28)), (10, .c (.int .i64 end_29)), (11, .c (.own 0 c_50.2.length)), (12, .c (.int .i64 c_50.1)), (50, .c (.bool (decide (10080 < IntKind.wrap .i64 (c_50.1 - begin_28)))))], [.arr 3 1 c_50.2.length (gL (cInt .i64) 0 c_50.2)]⟩) (sub_gen [0] rfl rfl ⟨zc rfl rfl, zc rfl rfl, zc rfl rfl, zc rfl rfl, zc rfl rfl, zc rfl rfl, zc rfl rfl, zc rfl rfl, trivial⟩ ⟨oa rfl, trivial⟩) ?_
          refine SOps.nil ?_
          rcases cond_out h with ⟨g65, h⟩ | ⟨g65, h⟩
          · refine SCode.cond_t rfl g65 ?_
            refine SCode.region (show SOps _ _ _ [0, 1] _ _ from ?_)
            refine SOps.q rfl (.plain rfl) rfl (q_move rfl rfl) ?_
            refine SOps.q rfl (.plain rfl) rfl (q_assign rfl rfl) ?_
            refine SOps.sub (st' := ⟨[(0, .c (.vec a0_l.length 11 (gL cSProfile dSProfile a0_l))), (1, .c (.int .i64 a1_start)), (3, .c (.int .i64 a3_last)), (9, .c (.int .i64 begin_28)), (10, .c (.int .i64 end_29)), (11, .c (.own 0 c_50.2.length)), (12, .c (.int .i64 end_29))], [.arr 3 1 c_50.2.length (gL (cInt .i64) 0 c_50.2)]⟩) (sub_gen [0] rfl rfl ⟨zc rfl rfl, zc rfl rfl, zc rfl rfl, zc rfl rfl, zc rfl rfl, zc rfl rfl, zc rfl rfl, trivial⟩ ⟨oa rfl, trivial⟩) ?_
            refine SOps.nil ?_
            exact ⟨end_29, h, sub_gen [0] rfl rfl ⟨zc rfl rfl, zc rfl rfl, zc rfl rfl, zc rfl rfl, zc rfl rfl, zc rfl rfl, zc rfl rfl, trivial⟩ ⟨oa rfl, trivial⟩⟩
          refine SCode.cond_f rfl g65 ?_
          refine SCode.skip ?_
          exact ⟨c_50.1, h, sub_gen [0] rfl rfl ⟨zc rfl rfl, zc rfl rfl, zc rfl rfl, zc rfl rfl, zc rfl rfl, zc rfl rfl, zc rfl rfl, trivial⟩ ⟨oa rfl, trivial⟩⟩
        rintro c_53 h
        show SCode _ _ _ ⟨[(0, .c (.vec a0_l.length 11 (gL cSProfile dSProfile a0_l))), (1, .c (.int .i64 a1_start)), (3, .c (.int .i64 a3_last)), (9, .c (.int .i64 begin_28)), (10, .c (.int .i64 end_29)), (11, .c (.own 0 c_50.2.length)), (12, .c (.int .i64 c_53))], [.arr 3 1 c_50.2.length (gL (cInt .i64) 0 c_50.2)]⟩ _
        replace h : compose_next_p63 F a0_l a1_start a3_last begin_28 end_29 (fun t_27 begin_28 end_29 o0_30 => compose_next_l48 F a0_l a1_start a3_last n_48 t_27 begin_28 end_29 o0_30) c_50 c_53 = some r := h
        unfold compose_next_p63 at h
        refine SCode.seq ?_
        refine SCode.seq ?_
        refine SCode.region (show SOps _ _ _ [0, 1, 2] _ _ from ?_)
        refine SOps.q rfl (.plain rfl) rfl (q_move rfl rfl) ?_
        refine SOps.q rfl (.plain rfl) rfl (q_move rfl rfl) ?_
        refine SOps.q rfl (.plain rfl) rfl (q_gtr rfl rfl rfl) ?_
        refine SOps.sub (st' := ⟨[(0, .c (.vec a0_l.length 11 (gL cSProfile dSProfile a0_l))), (1, .c (.int .i64 a1_start)), (3, .c (.int .i64 a3_last)), (9, .c (.int .i64 begin_28)), (10, .c (.int .i64 end_29)), (11, .c (.own 0 c_50.2.length)), (12, .c (.int .i64 c_53)), (54, .c (.bool (decide (a3_last < c_53))))], [.arr 3 1 c_50.2.length (gL (cInt .i64) 0 c_50.2)]⟩) (sub_gen [0] rfl rfl ⟨zc rfl rfl, zc rfl rfl, zc rfl rfl, zc rfl rfl, zc rfl rfl, zc rfl rfl, zc rfl rfl, zc rfl rfl, trivial⟩ ⟨oa rfl, trivial⟩) ?_
        refine SOps.nil ?_
        rcases cond_out h with ⟨g54, h⟩ | ⟨g54, h⟩
        · refine SCode.cond_t rfl g54 ?_
          refine SCode.seq ?_
          refine SCode.region (show SOps _ _ _ [0] _ _ from ?_)
          refine SOps.q rfl (.plain rfl) rfl (q_assign rfl rfl) ?_
          refine SOps.sub (st' := ⟨[(8, .c (.int .i64 ((-1))))], []⟩) (sub_gen [] rfl rfl ⟨zc rfl rfl, trivial⟩ trivial) ?_
          refine SOps.nil ?_
          refine SCode.ret ?_
          obtain rfl := Option.some.inj h
          exact ⟨⟨[(8, .c (.int .i64 ((-1))))], []⟩, _, sub_gen [] rfl rfl ⟨zc rfl rfl, trivial⟩ trivial, resA1 (v := .c (.int .i64 ((-1)))) rfl rfl, rfl⟩
        refine SCode.cond_f rfl g54 ?_
        refine SCode.skip ?_
        refine SCode.seq ?_
        refine SCode.seq ?_
        obtain ⟨c_55, g56, h⟩ := bind_out h
        try dsimp only at h
        obtain ⟨c_57, g58, h⟩ := bind_out h
        try dsimp only at h
        refine SCode.region (show SOps _ _ _ [0, 1, 2, 3, 4, 5, 6, 7, 8, 9] _ _ from ?_)
        refine SOps.q rfl (.plain rfl) rfl (q_move rfl rfl) ?_
        refine SOps.q rfl (.plain rfl) rfl (q_move rfl rfl) ?_
        refine SOps.q rfl (.plain rfl) rfl (q_move rfl rfl) ?_
        refine SOps.q rfl (.plain rfl) rfl (q_call (compose_limit_ok F a0_l a1_start c_53 c_55 g56) [] rfl fn22 ⟨⟨_, rfl, .inl ⟨rfl, rfl⟩⟩, ⟨_, rfl, .inl ⟨rfl, rfl⟩⟩, ⟨_, rfl, .inl ⟨rfl, rfl⟩⟩, trivial⟩ (.inl rfl)) ?_
        refine SOps.q rfl (.plain rfl) rfl (q_move rfl rfl) ?_
        refine SOps.q rfl (.plain rfl) rfl (q_move rfl rfl) ?_
        refine SOps.q rfl (.plain rfl) rfl (q_move rfl rfl) ?_
        refine SOps.q rfl (.plain rfl) rfl (q_sub rfl rfl rfl) ?_
        refine SOps.q rfl (.plain rfl) rfl (q_call (compose_limit_ok F a0_l a1_start (IntKind.wrap .i64 (c_53 - 1)) c_57 g58) [] rfl fn22 ⟨⟨_, rfl, .inl ⟨rfl, rfl⟩⟩, ⟨_, rfl, .inl ⟨rfl, rfl⟩⟩, ⟨_, rfl, .inl ⟨rfl, rfl⟩⟩, trivial⟩ (.inl rfl)) ?_
        refine SOps.q rfl (.plain rfl) rfl (q_neq rfl rfl rfl) ?_
        refine SOps.sub (st' := ⟨[(0, .c (.vec a0_l.length 11 (gL cSProfile dSProfile a0_l))), (1, .c (.int .i64 a1_start)), (3, .c (.int .i64 a3_last)), (9, .c (.int .i64 begin_28)), (10, .c (.int .i64 end_29)), (11, .c (.own 0 c_50.2.length)), (12, .c (.int .i64 c_53)), (64, .c (.bool ((!decide (c_55 = c_57)))))], [.arr 3 1 c_50.2.length (gL (cInt .i64) 0 c_50.2)]⟩) (sub_gen [0] rfl rfl ⟨zc rfl rfl, zc rfl rfl, zc rfl rfl, zc rfl rfl, zc rfl rfl, zc rfl rfl, zc rfl rfl, zc rfl rfl, trivial⟩ ⟨oa rfl, trivial⟩) ?_
        refine SOps.nil ?_
        rcases cond_out h with ⟨g59, h⟩ | ⟨g59, h⟩
        · refine SCode.cond_t rfl g59 ?_
          refine SCode.seq ?_
          refine SCode.region (show SOps _ _ _ [0, 1] _ _ from ?_)
          refine SOps.q rfl (.plain rfl) rfl (q_move rfl rfl) ?_
          refine SOps.q rfl (.plain rfl) rfl (q_assign rfl rfl) ?_
          refine SOps.sub (st' := ⟨[(8, .c (.int .i64 c_53))], []⟩) (sub_gen [] rfl rfl ⟨zc rfl rfl, trivial⟩ trivial) ?_
          refine SOps.nil ?_
          refine SCode.ret ?_
          obtain rfl := Option.some.inj h
          exact ⟨⟨[(8, .c (.int .i64 c_53))], []⟩, _, sub_gen [] rfl rfl ⟨zc rfl rfl, trivial⟩ trivial, resA1 (v := .c (.int .i64 c_53)) rfl rfl, rfl⟩
        refine SCode.cond_f rfl g59 ?_
        refine SCode.skip ?_
        refine SCode.seq ?_
        refine SCode.region (show SOps _ _ _ [0, 1] _ _ from ?_)
        refine SOps.q rfl (.plain rfl) rfl (q_move rfl rfl) ?_
        refine SOps.q rfl (.plain rfl) rfl (q_assign rfl rfl) ?_
        refine SOps.sub (st' := ⟨[(0, .c (.vec a0_l.length 11 (gL cSProfile dSProfile a0_l))), (1, .c (.int .i64 a1_start)), (2, .c (.int .i64 c_53)), (3, .c (.int .i64 a3_last)), (9, .c (.int .i64 begin_28)), (10, .c (.int .i64 end_29)), (11, .c (.own 0 c_50.2.length)), (12, .c (.int .i64 c_53))], [.arr 3 1 c_50.2.length (gL (cInt .i64) 0 c_50.2)]⟩) (sub_gen [0] rfl rfl ⟨zc rfl rfl, zc rfl rfl, zc rfl rfl, zc rfl rfl, zc rfl rfl, zc rfl rfl, zc rfl rfl, zc rfl rfl, trivial⟩ ⟨oa rfl, trivial⟩) ?_
        refine SOps.nil ?_
        refine SCode.seq ?_
        refine SCode.region (show SOps _ _ _ [0, 1, 2] _ _ from ?_)
        refine SOps.q rfl (.plain rfl) rfl (q_move rfl rfl) ?_
        refine SOps.q rfl (.plain rfl) rfl (q_move rfl rfl) ?_
        refine SOps.q rfl (.plain rfl) rfl (q_eql rfl rfl rfl) ?_
        refine SOps.sub (st' := ⟨[(0, .c (.vec a0_l.length 11 (gL cSProfile dSProfile a0_l))), (1, .c (.int .i64 a1_start)), (2, .c (.int .i64 c_53)), (3, .c (.int .i64 a3_last)), (9, .c (.int .i64 begin_28)), (10, .c (.int .i64 end_29)), (11, .c (.own 0 c_50.2.length)), (12, .c (.int .i64 c_53)), (69, .c (.bool (decide (c_53 = end_29))))], [.arr 3 1 c_50.2.length (gL (cInt .i64) 0 c_50.2)]⟩) (sub_gen [0] rfl rfl ⟨zc rfl rfl, zc rfl rfl, zc rfl rfl, zc rfl rfl, zc rfl rfl, zc rfl rfl, zc rfl rfl, zc rfl rfl, zc rfl rfl, trivial⟩ ⟨oa rfl, trivial⟩) ?_
        refine SOps.nil ?_
        rcases cond_out h with ⟨g60, h⟩ | ⟨g60, h⟩
        · refine SCode.cond_t rfl g60 ?_
          obtain ⟨c_61, g62, h⟩ := bind_out h
          try dsimp only at h
          refine SCode.region (show SOps _ _ _ [0, 1, 2, 3, 4, 5, 6] _ _ from ?_)
          refine SOps.q rfl (.plain rfl) rfl (q_move rfl rfl) ?_
          refine SOps.q rfl (.plain rfl) rfl (q_move rfl rfl) ?_
          refine SOps.q rfl (.plain rfl) rfl (q_move rfl rfl) ?_
          refine SOps.q rfl (.plain rfl) rfl (q_move rfl rfl) ?_
          refine SOps.q rfl (.plain rfl) rfl (q_call (compose_pause_ok F a0_l a1_start c_53 c_61 g62) [] rfl fn37 ⟨⟨_, rfl, .inl ⟨rfl, rfl⟩⟩, ⟨_, rfl, .inl ⟨rfl, rfl⟩⟩, ⟨_, rfl, .inl ⟨rfl, rfl⟩⟩, trivial⟩ (.inl rfl)) ?_
          refine SOps.q rfl (.plain rfl) rfl (q_assign rfl rfl) ?_
          refine SOps.q rfl (.plain rfl) rfl (q_assign rfl rfl) ?_
          refine SOps.sub (st' := ⟨[(0, .c (.vec a0_l.length 11 (gL cSProfile dSProfile a0_l))), (1, .c (.int .i64 a1_start)), (2, .c (.int .i64 c_53)), (3, .c (.int .i64 a3_last)), (9, .c (.int .i64 c_53)), (10, .c (.int .i64 c_61)), (11, .c (.own 0 c_50.2.length))], [.arr 3 1 c_50.2.length (gL (cInt .i64) 0 c_50.2)]⟩) (sub_gen [0] rfl rfl ⟨zc rfl rfl, zc rfl rfl, zc rfl rfl, zc rfl rfl, zc rfl rfl, zc rfl rfl, zc rfl rfl, trivial⟩ ⟨oa rfl, trivial⟩) ?_
          refine SOps.nil ?_
          exact ⟨(n_48, (c_53, c_53, c_61, c_50.2)), h, Nat.lt_succ_self n_48, sub_gen [0] rfl rfl ⟨zc rfl rfl, zc rfl rfl, zc rfl rfl, zc rfl rfl, zc rfl rfl, zc rfl rfl, zc rfl rfl, trivial⟩ ⟨oa rfl, trivial⟩⟩
        refine SCode.cond_f rfl g60 ?_
        refine SCode.skip ?_
        exact ⟨(n_48, (c_53, begin_28, end_29, c_50.2)), h, Nat.lt_succ_self n_48, sub_gen [0] rfl rfl ⟨zc rfl rfl, zc rfl rfl, zc rfl rfl, zc rfl rfl, zc rfl rfl, zc rfl rfl, zc rfl rfl, trivial⟩ ⟨oa rfl, trivial⟩⟩
      refine SCode.cond_f rfl g49 ?_
      refine SCode.exit ?_
      exact ⟨(), h, sub_gen [] rfl rfl trivial trivial⟩
  rintro ⟨⟩ h
  show SCode _ _ _ ⟨[], []⟩ _
  replace h : compose_next_p5 = some r := h
  unfold compose_next_p5 at h
  refine SCode.seq ?_
  refine SCode.region (show SOps _ _ _ [0] _ _ from ?_)
  refine SOps.q rfl (.plain rfl) rfl (q_assign rfl rfl) ?_
  refine SOps.sub (st' := ⟨[(8, .c (.int .i64 ((-1))))], []⟩) (sub_gen [] rfl rfl ⟨zc rfl rfl, trivial⟩ trivial) ?_
  refine SOps.nil ?_
  refine SCode.ret ?_
  obtain rfl := Option.some.inj h
  exact ⟨⟨[(8, .c (.int .i64 ((-1))))], []⟩, _, sub_gen [] rfl rfl ⟨zc rfl rfl, trivial⟩ trivial, resA1 (v := .c (.int .i64 ((-1)))) rfl rfl, rfl⟩
set_option maxRecDepth 100000 in
set_option maxHeartbeats 8000000 in
theorem compose_Series_ok (F : Nat) (a0_l : List SProfile) (a1_conn : Int) (a2_txn : ByteArray) (a3_start : Int) (a4_s : SSpan) (r : (List SStep) × Int) (h : compose_Series F a0_l a1_conn a2_txn a3_start a4_s = some r) :
    SFun Try.prog 15 [] [.c (.vec a0_l.length 11 (gL cSProfile dSProfile a0_l)), .c (.int .i64 a1_conn), .c (.str a2_txn), .c (.int .i64 a3_start), .a [.int .i64 a4_s.From, .int .i64 a4_s.To]] (fun x _ => x = .t [.c (.vec r.1.length 2 (gL cSStep dSStep r.1)), .c (.int .i64 r.2)]) := by
  refine SFun.of (n := 72) Try.func15 rfl rfl rfl ?_
  unfold compose_Series at h
  show SCode _ _ _ ⟨[(0, .c (.vec a0_l.length 11 (gL cSProfile dSProfile a0_l))), (1, .c (.int .i64 a1_conn)), (2, .c (.str a2_txn)), (3, .c (.int .i64 a3_start)), (4, .a [.int .i64 a4_s.From, .int .i64 a4_s.To])], []⟩ _
  refine SCode.seq ?_
  refine SCode.region (show SOps _ _ _ [0, 1, 2] _ _ from ?_)
  refine SOps.e rfl (.plain rfl) (e_box rfl rfl rfl rfl rfl rfl) ?_
  refine SOps.q rfl (.plain rfl) rfl (q_assign rfl rfl) ?_
  refine SOps.q rfl (.plain rfl) rfl (q_assign rfl rfl) ?_
  refine SOps.sub (st' := ⟨[(0, .c (.vec a0_l.length 11 (gL cSProfile dSProfile a0_l))), (1, .c (.int .i64 a1_conn)), (2, .c (.str a2_txn)), (3, .c (.int .i64 a3_start)), (9, .c (.ptr 0 0))], [.box [.int .i64 a4_s.From, .int .i64 a4_s.To]]⟩) (sub_gen [0] rfl rfl ⟨zc rfl rfl, zc rfl rfl, zc rfl rfl, zc rfl rfl, zc rfl rfl, trivial⟩ ⟨⟨_, rfl, ⟨ii rfl rfl, ii rfl rfl, trivial⟩⟩, trivial⟩) ?_
  refine SOps.nil ?_
  refine SCode.seq ?_
  refine SCode.seq ?_
  rcases cond_out h with ⟨g1, h⟩ | ⟨g1, h⟩
  · refine SCode.region (show SOps _ _ _ [0, 1, 2, 3, 4, 5, 6, 7, 8, 9, 10, 11, 12, 13, 14, 15, 16, 17, 18, 19, 20, 21, 22] _ _ from ?_)
    refine SOps.q rfl (.plain rfl) rfl (q_field_ptr rfl rfl fd28_0) ?_
    refine SOps.q rfl (.plain rfl) rfl (q_load_ptr rfl rfl rfl rfl ty3) ?_
    refine SOps.q rfl (.plain rfl) rfl (q_lss rfl rfl rfl) ?_
    refine SOps.q rfl (.plain rfl) rfl (q_move rfl rfl) ?_
    refine SOps.skip rfl 3 18 false rfl rfl (.inl (gT g1)) rfl ?_
    refine SOps.skip rfl 3 18 false rfl rfl (.inl (gT g1)) rfl ?_
    refine SOps.skip rfl 3 18 false rfl rfl (.inl (gT g1)) rfl ?_
    refine SOps.skip rfl 3 18 false rfl rfl (.inl (gT g1)) rfl ?_
    refine SOps.skip rfl 3 18 false rfl rfl (.inl (gT g1)) rfl ?_
    refine SOps.q rfl (.plain rfl) rfl (q_pick_t rfl rfl g1 rfl) ?_
    refine SOps.q rfl (.plain rfl) rfl (q_move rfl rfl) ?_
    refine SOps.skip rfl 10 25 false rfl rfl (.inl rfl) rfl ?_
    refine SOps.skip rfl 10 25 false rfl rfl (.inl rfl) rfl ?_
    refine SOps.skip rfl 10 25 false rfl rfl (.inl rfl) rfl ?_
    refine SOps.q rfl (.plain rfl) rfl (q_pick_t rfl rfl rfl rfl) ?_
    refine SOps.q rfl (.plain rfl) rfl (q_move rfl rfl) ?_
    refine SOps.skip rfl 15 30 false rfl rfl (.inl rfl) rfl ?_
    refine SOps.skip rfl 15 30 false rfl rfl (.inl rfl) rfl ?_
    refine SOps.skip rfl 15 30 false rfl rfl (.inl rfl) rfl ?_
    refine SOps.skip rfl 15 30 false rfl rfl (.inl rfl) rfl ?_
    refine SOps.skip rfl 15 30 false rfl rfl (.inl rfl) rfl ?_
    refine SOps.skip rfl 15 30 false rfl rfl (.inl rfl) rfl ?_
    refine SOps.q rfl (.plain rfl) rfl (q_pick_t rfl rfl rfl rfl) ?_
    refine SOps.sub (st' := ⟨[(0, .c (.vec a0_l.length 11 (gL cSProfile dSProfile a0_l))), (1, .c (.int .i64 a1_conn)), (2, .c (.str a2_txn)), (3, .c (.int .i64 a3_start)), (9, .c (.ptr 0 0)), (37, .c (.bool true))], [.box [.int .i64 a4_s.From, .int .i64 a4_s.To]]⟩) (sub_gen [0] rfl rfl ⟨zc rfl rfl, zc rfl rfl, zc rfl rfl, zc rfl rfl, zc rfl rfl, zc rfl rfl, trivial⟩ ⟨⟨_, rfl, ⟨ii rfl rfl, ii rfl rfl, trivial⟩⟩, trivial⟩) ?_
    refine SOps.nil ?_
    refine SCode.cond_t rfl rfl ?_
    refine SCode.seq ?_
    refine SCode.region (show SOps _ _ _ [0, 1] _ _ from ?_)
    refine SOps.q rfl (.plain rfl) rfl (q_assign rfl rfl) ?_
    refine SOps.q rfl (.plain rfl) rfl (q_assign rfl rfl) ?_
    refine SOps.sub (st' := ⟨[(10, .c (.raw (.slice none 0 0))), (11, .c (.int .i64 2))], []⟩) (sub_gen [] rfl rfl ⟨zc rfl rfl, zc rfl rfl, trivial⟩ trivial) ?_
    refine SOps.nil ?_
    refine SCode.ret ?_
    obtain rfl := Option.some.inj h
    exact ⟨⟨[(10, .c (.vec (([] : List SStep)).length 2 (gL cSStep dSStep (([] : List SStep))))), (11, .c (.int .i64 2))], []⟩, _, sub_gen [] rfl rfl ⟨⟨_, rfl, .inr (.inr (.inr (.inl ⟨_, _, rfl, rfl⟩)))⟩, zc rfl rfl, trivial⟩ trivial, resA2 (v1 := .c (.vec (([] : List SStep)).length 2 (gL cSStep dSStep (([] : List SStep))))) (v2 := .c (.int .i64 2)) rfl rfl rfl, rfl⟩
  rcases cond_out h with ⟨g2, h⟩ | ⟨g2, h⟩
  · refine SCode.region (show SOps _ _ _ [0, 1, 2, 3, 4, 5, 6, 7, 8, 9, 10, 11, 12, 13, 14, 15, 16, 17, 18, 19, 20, 21, 22] _ _ from ?_)
    refine SOps.q rfl (.plain rfl) rfl (q_field_ptr rfl rfl fd28_0) ?_
    refine SOps.q rfl (.plain rfl) rfl (q_load_ptr rfl rfl rfl rfl ty3) ?_
    refine SOps.q rfl (.plain rfl) rfl (q_lss rfl rfl rfl) ?_
    refine SOps.q rfl (.plain rfl) rfl (q_move rfl rfl) ?_
    refine SOps.q rfl (.guard 3 18 false rfl rfl (gF g1)) rfl (q_field_ptr rfl rfl fd28_1) ?_
    refine SOps.q rfl (.guard 3 18 false rfl rfl (gF g1)) rfl (q_load_ptr rfl rfl rfl rfl ty3) ?_
    refine SOps.q rfl (.guard 3 18 false rfl rfl (gF g1)) rfl (q_field_ptr rfl rfl fd28_0) ?_
    refine SOps.q rfl (.guard 3 18 false rfl rfl (gF g1)) rfl (q_load_ptr rfl rfl rfl rfl ty3) ?_
    refine SOps.q rfl (.guard 3 18 false rfl rfl (gF g1)) rfl (q_lss rfl rfl rfl) ?_
    refine SOps.q rfl (.plain rfl) rfl (q_pick_f rfl rfl g1 rfl) ?_
    refine SOps.q rfl (.plain rfl) rfl (q_move rfl rfl) ?_
    refine SOps.skip rfl 10 25 false rfl rfl (.inl (gT g2)) rfl ?_
    refine SOps.skip rfl 10 25 false rfl rfl (.inl (gT g2)) rfl ?_
    refine SOps.skip rfl 10 25 false rfl rfl (.inl (gT g2)) rfl ?_
    refine SOps.q rfl (.plain rfl) rfl (q_pick_t rfl rfl g2 rfl) ?_
    refine SOps.q rfl (.plain rfl) rfl (q_move rfl rfl) ?_
    refine SOps.skip rfl 15 30 false rfl rfl (.inl rfl) rfl ?_
    refine SOps.skip rfl 15 30 false rfl rfl (.inl rfl) rfl ?_
    refine SOps.skip rfl 15 30 false rfl rfl (.inl rfl) rfl ?_
    refine SOps.skip rfl 15 30 false rfl rfl (.inl rfl) rfl ?_
    refine SOps.skip rfl 15 30 false rfl rfl (.inl rfl) rfl ?_
    refine SOps.skip rfl 15 30 false rfl rfl (.inl rfl) rfl ?_
    refine SOps.q rfl (.plain rfl) rfl (q_pick_t rfl rfl rfl rfl) ?_
    refine SOps.sub (st' := ⟨[(0, .c (.vec a0_l.length 11 (gL cSProfile dSProfile a0_l))), (1, .c (.int .i64 a1_conn)), (2, .c (.str a2_txn)), (3, .c (.int .i64 a3_start)), (9, .c (.ptr 0 0)), (37, .c (.bool true))], [.box [.int .i64 a4_s.From, .int .i64 a4_s.To]]⟩) (sub_gen [0] rfl rfl ⟨zc rfl rfl, zc rfl rfl, zc rfl rfl, zc rfl rfl, zc rfl rfl, zc rfl rfl, trivial⟩ ⟨⟨_, rfl, ⟨ii rfl rfl, ii rfl rfl, trivial⟩⟩, trivial⟩) ?_
    refine SOps.nil ?_
    refine SCode.cond_t rfl rfl ?_
    refine SCode.seq ?_
    refine SCode.region (show SOps _ _ _ [0, 1] _ _ from ?_)
    refine SOps.q rfl (.plain rfl) rfl (q_assign rfl rfl) ?_
    refine SOps.q rfl (.plain rfl) rfl (q_assign rfl rfl) ?_
    refine SOps.sub (st' := ⟨[(10, .c (.raw (.slice none 0 0))), (11, .c (.int .i64 2))], []⟩) (sub_gen [] rfl rfl ⟨zc rfl rfl, zc rfl rfl, trivial⟩ trivial) ?_
    refine SOps.nil ?_
    refine SCode.ret ?_
    obtain rfl := Option.some.inj h
    exact ⟨⟨[(10, .c (.vec (([] : List SStep)).length 2 (gL cSStep dSStep (([] : List SStep))))), (11, .c (.int .i64 2))], []⟩, _, sub_gen [] rfl rfl ⟨⟨_, rfl, .inr (.inr (.inr (.inl ⟨_, _, rfl, rfl⟩)))⟩, zc rfl rfl, trivial⟩ trivial, resA2 (v1 := .c (.vec (([] : List SStep)).length 2 (gL cSStep dSStep (([] : List SStep))))) (v2 := .c (.int .i64 2)) rfl rfl rfl, rfl⟩
  rcases cond_out h with ⟨g3, h⟩ | ⟨g3, h⟩
  · refine SCode.region (show SOps _ _ _ [0, 1, 2, 3, 4, 5, 6, 7, 8, 9, 10, 11, 12, 13, 14, 15, 16, 17, 18, 19, 20, 21, 22] _ _ from ?_)
    refine SOps.q rfl (.plain rfl) rfl (q_field_ptr rfl rfl fd28_0) ?_
    refine SOps.q rfl (.plain rfl) rfl (q_load_ptr rfl rfl rfl rfl ty3) ?_
    refine SOps.q rfl (.plain rfl) rfl (q_lss rfl rfl rfl) ?_
    refine SOps.q rfl (.plain rfl) rfl (q_move rfl rfl) ?_
    refine SOps.q rfl (.guard 3 18 false rfl rfl (gF g1)) rfl (q_field_ptr rfl rfl fd28_1) ?_
    refine SOps.q rfl (.guard 3 18 false rfl rfl (gF g1)) rfl (q_load_ptr rfl rfl rfl rfl ty3) ?_
    refine SOps.q rfl (.guard 3 18 false rfl rfl (gF g1)) rfl (q_field_ptr rfl rfl fd28_0) ?_
    refine SOps.q rfl (.guard 3 18 false rfl rfl (gF g1)) rfl (q_load_ptr rfl rfl rfl rfl ty3) ?_
    refine SOps.q rfl (.guard 3 18 false rfl rfl (gF g1)) rfl (q_lss rfl rfl rfl) ?_
    refine SOps.q rfl (.plain rfl) rfl (q_pick_f rfl rfl g1 rfl) ?_
    refine SOps.q rfl (.plain rfl) rfl (q_move rfl rfl) ?_
    refine SOps.q rfl (.guard 10 25 false rfl rfl (gF g2)) rfl (q_field_ptr rfl rfl fd28_1) ?_
    refine SOps.q rfl (.guard 10 25 false rfl rfl (gF g2)) rfl (q_load_ptr rfl rfl rfl rfl ty3) ?_
    refine SOps.q rfl (.guard 10 25 false rfl rfl (gF g2)) rfl (q_gtr rfl rfl rfl) ?_
    refine SOps.q rfl (.plain rfl) rfl (q_pick_f rfl rfl g2 rfl) ?_
    refine SOps.q rfl (.plain rfl) rfl (q_move rfl rfl) ?_
    refine SOps.skip rfl 15 30 false rfl rfl (.inl (gT g3)) rfl ?_
    refine SOps.skip rfl 15 30 false rfl rfl (.inl (gT g3)) rfl ?_
    refine SOps.skip rfl 15 30 false rfl rfl (.inl (gT g3)) rfl ?_
    refine SOps.skip rfl 15 30 false rfl rfl (.inl (gT g3)) rfl ?_
    refine SOps.skip rfl 15 30 false rfl rfl (.inl (gT g3)) rfl ?_
    refine SOps.skip rfl 15 30 false rfl rfl (.inl (gT g3)) rfl ?_
    refine SOps.q rfl (.plain rfl) rfl (q_pick_t rfl rfl g3 rfl) ?_
    refine SOps.sub (st' := ⟨[(0, .c (.vec a0_l.length 11 (gL cSProfile dSProfile a0_l))), (1, .c (.int .i64 a1_conn)), (2, .c (.str a2_txn)), (3, .c (.int .i64 a3_start)), (9, .c (.ptr 0 0)), (37, .c (.bool true))], [.box [.int .i64 a4_s.From, .int .i64 a4_s.To]]⟩) (sub_gen [0] rfl rfl ⟨zc rfl rfl, zc rfl rfl, zc rfl rfl, zc rfl rfl, zc rfl rfl, zc rfl rfl, trivial⟩ ⟨⟨_, rfl, ⟨ii rfl rfl, ii rfl rfl, trivial⟩⟩, trivial⟩) ?_
    refine SOps.nil ?_
    refine SCode.cond_t rfl rfl ?_
    refine SCode.seq ?_
    refine SCode.region (show SOps _ _ _ [0, 1] _ _ from ?_)
    refine SOps.q rfl (.plain rfl) rfl (q_assign rfl rfl) ?_
    refine SOps.q rfl (.plain rfl) rfl (q_assign rfl rfl) ?_
    refine SOps.sub (st' := ⟨[(10, .c (.raw (.slice none 0 0))), (11, .c (.int .i64 2))], []⟩) (sub_gen [] rfl rfl ⟨zc rfl rfl, zc rfl rfl, trivial⟩ trivial) ?_
    refine SOps.nil ?_
    refine SCode.ret ?_
    obtain rfl := Option.some.inj h
    exact ⟨⟨[(10, .c (.vec (([] : List SStep)).length 2 (gL cSStep dSStep (([] : List SStep))))), (11, .c (.int .i64 2))], []⟩, _, sub_gen [] rfl rfl ⟨⟨_, rfl, .inr (.inr (.inr (.inl ⟨_, _, rfl, rfl⟩)))⟩, zc rfl rfl, trivial⟩ trivial, resA2 (v1 := .c (.vec (([] : List SStep)).length 2 (gL cSStep dSStep (([] : List SStep))))) (v2 := .c (.int .i64 2)) rfl rfl rfl, rfl⟩
  refine SCode.region (show SOps _ _ _ [0, 1, 2, 3, 4, 5, 6, 7, 8, 9, 10, 11, 12, 13, 14, 15, 16, 17, 18, 19, 20, 21, 22] _ _ from ?_)
  refine SOps.q rfl (.plain rfl) rfl (q_field_ptr rfl rfl fd28_0) ?_
  refine SOps.q rfl (.plain rfl) rfl (q_load_ptr rfl rfl rfl rfl ty3) ?_
  refine SOps.q rfl (.plain rfl) rfl (q_lss rfl rfl rfl) ?_
  refine SOps.q rfl (.plain rfl) rfl (q_move rfl rfl) ?_
  refine SOps.q rfl (.guard 3 18 false rfl rfl (gF g1)) rfl (q_field_ptr rfl rfl fd28_1) ?_
  refine SOps.q rfl (.guard 3 18 false rfl rfl (gF g1)) rfl (q_load_ptr rfl rfl rfl rfl ty3) ?_
  refine SOps.q rfl (.guard 3 18 false rfl rfl (gF g1)) rfl (q_field_ptr rfl rfl fd28_0) ?_
  refine SOps.q rfl (.guard 3 18 false rfl rfl (gF g1)) rfl (q_load_ptr rfl rfl rfl rfl ty3) ?_
  refine SOps.q rfl (.guard 3 18 false rfl rfl (gF g1)) rfl (q_lss rfl rfl rfl) ?_
  refine SOps.q rfl (.plain rfl) rfl (q_pick_f rfl rfl g1 rfl) ?_
  refine SOps.q rfl (.plain rfl) rfl (q_move rfl rfl) ?_
  refine SOps.q rfl (.guard 10 25 false rfl rfl (gF g2)) rfl (q_field_ptr rfl rfl fd28_1) ?_
  refine SOps.q rfl (.guard 10 25 false rfl rfl (gF g2)) rfl (q_load_ptr rfl rfl rfl rfl ty3) ?_
  refine SOps.q rfl (.guard 10 25 false rfl rfl (gF g2)) rfl (q_gtr rfl rfl rfl) ?_
  refine SOps.q rfl (.plain rfl) rfl (q_pick_f rfl rfl g2 rfl) ?_
  refine SOps.q rfl (.plain rfl) rfl (q_move rfl rfl) ?_
  refine SOps.q rfl (.guard 15 30 false rfl rfl (gF g3)) rfl (q_field_ptr rfl rfl fd28_1) ?_
  refine SOps.q rfl (.guard 15 30 false rfl rfl (gF g3)) rfl (q_load_ptr rfl rfl rfl rfl ty3) ?_
  refine SOps.q rfl (.guard 15 30 false rfl rfl (gF g3)) rfl (q_field_ptr rfl rfl fd28_0) ?_
  refine SOps.q rfl (.guard 15 30 false rfl rfl (gF g3)) rfl (q_load_ptr rfl rfl rfl rfl ty3) ?_
  refine SOps.q rfl (.guard 15 30 false rfl rfl (gF g3)) rfl (q_sub rfl rfl rfl) ?_
  refine SOps.q rfl (.guard 15 30 false rfl rfl (gF g3)) rfl (q_gtr rfl rfl rfl) ?_
  refine SOps.q rfl (.plain rfl) rfl (q_pick_f rfl rfl g3 rfl) ?_
  refine SOps.sub (st' := ⟨[(0, .c (.vec a0_l.length 11 (gL cSProfile dSProfile a0_l))), (1, .c (.int .i64 a1_conn)), (2, .c (.str a2_txn)), (3, .c (.int .i64 a3_start)), (9, .c (.ptr 0 0)), (37, .c (.bool (decide (20160 < IntKind.wrap .i64 (a4_s.To - a4_s.From)))))], [.box [.int .i64 a4_s.From, .int .i64 a4_s.To]]⟩) (sub_gen [0] rfl rfl ⟨zc rfl rfl, zc rfl rfl, zc rfl rfl, zc rfl rfl, zc rfl rfl, zc rfl rfl, trivial⟩ ⟨⟨_, rfl, ⟨ii rfl rfl, ii rfl rfl, trivial⟩⟩, trivial⟩) ?_
  refine SOps.nil ?_
  rcases cond_out h with ⟨g4, h⟩ | ⟨g4, h⟩
  · refine SCode.cond_t rfl g4 ?_
    refine SCode.seq ?_
    refine SCode.region (show SOps _ _ _ [0, 1] _ _ from ?_)
    refine SOps.q rfl (.plain rfl) rfl (q_assign rfl rfl) ?_
    refine SOps.q rfl (.plain rfl) rfl (q_assign rfl rfl) ?_
    refine SOps.sub (st' := ⟨[(10, .c (.raw (.slice none 0 0))), (11, .c (.int .i64 2))], []⟩) (sub_gen [] rfl rfl ⟨zc rfl rfl, zc rfl rfl, trivial⟩ trivial) ?_
    refine SOps.nil ?_
    refine SCode.ret ?_
    obtain rfl := Option.some.inj h
    exact ⟨⟨[(10, .c (.vec (([] : List SStep)).length 2 (gL cSStep dSStep (([] : List SStep))))), (11, .c (.int .i64 2))], []⟩, _, sub_gen [] rfl rfl ⟨⟨_, rfl, .inr (.inr (.inr (.inl ⟨_, _, rfl, rfl⟩)))⟩, zc rfl rfl, trivial⟩ trivial, resA2 (v1 := .c (.vec (([] : List SStep)).length 2 (gL cSStep dSStep (([] : List SStep))))) (v2 := .c (.int .i64 2)) rfl rfl rfl, rfl⟩
  refine SCode.cond_f rfl g4 ?_
  refine SCode.skip ?_
  refine SCode.seq ?_
  obtain ⟨c_5, g6, h⟩ := bind_out h
  try dsimp only at h
  refine SCode.region (show SOps _ _ _ [0, 1, 2, 3, 4] _ _ from ?_)
  refine SOps.q rfl (.plain rfl) rfl (q_move rfl rfl) ?_
  refine SOps.q rfl (.plain rfl) rfl (q_move rfl rfl) ?_
  refine SOps.q rfl (.plain rfl) rfl (q_move rfl rfl) ?_
  refine SOps.q rfl (.plain rfl) rfl (q_call (compose_candidates_ok F a0_l a1_conn a2_txn c_5 g6) [] rfl fn23 ⟨⟨_, rfl, .inl ⟨rfl, rfl⟩⟩, ⟨_, rfl, .inl ⟨rfl, rfl⟩⟩, ⟨_, rfl, .inl ⟨rfl, rfl⟩⟩, trivial⟩ (.inl rfl)) ?_
  refine SOps.q rfl (.plain rfl) rfl (q_assign rfl rfl) ?_
  refine SOps.sub (st' := ⟨[(3, .c (.int .i64 a3_start)), (9, .c (.ptr 0 0)), (12, .c (.vec c_5.length 11 (gL cSProfile dSProfile c_5)))], [.box [.int .i64 a4_s.From, .int .i64 a4_s.To]]⟩) (sub_gen [0] rfl rfl ⟨zc rfl rfl, zc rfl rfl, zc rfl rfl, trivial⟩ ⟨⟨_, rfl, ⟨ii rfl rfl, ii rfl rfl, trivial⟩⟩, trivial⟩) ?_
  refine SOps.nil ?_
  refine SCode.seq ?_
  refine SCode.region (show SOps _ _ _ [0] _ _ from ?_)
  refine SOps.q rfl (.plain rfl) rfl (q_assign rfl rfl) ?_
  refine SOps.nilArrL (T := 46) (k := 2) cSStep dSStep (s := 13) rfl rfl ?_
  refine SOps.sub (st' := ⟨[(3, .c (.int .i64 a3_start)), (9, .c (.ptr 0 0)), (12, .c (.vec c_5.length 11 (gL cSProfile dSProfile c_5))), (13, .c (.own 1 (([] : List SStep)).length))], [.box [.int .i64 a4_s.From, .int .i64 a4_s.To], .arr 46 2 (([] : List SStep)).length (gL cSStep dSStep (([] : List SStep)))]⟩) (sub_gen [0, 1] rfl rfl ⟨zc rfl rfl, zc rfl rfl, zc rfl rfl, zc rfl rfl, trivial⟩ ⟨⟨_, rfl, ⟨ii rfl rfl, ii rfl rfl, trivial⟩⟩, oa rfl, trivial⟩) ?_
  refine SOps.nil ?_
  refine SCode.join (σ := (List SStep)) (S := fun s => ⟨[(13, .c (.own 0 s.length))], [.arr 46 2 s.length (gL cSStep dSStep s)]⟩) (g := fun s => compose_Series_p8 s = some r) ?_ ?_
  rotate_left
  · refine SCode.seq ?_
    refine SCode.region (show SOps _ _ _ [0, 1, 2] _ _ from ?_)
    refine SOps.q rfl (.plain rfl) rfl (q_field_ptr rfl rfl fd28_0) ?_
    refine SOps.q rfl (.plain rfl) rfl (q_load_ptr rfl rfl rfl rfl ty3) ?_
    refine SOps.q rfl (.plain rfl) rfl (q_assign rfl rfl) ?_
    refine SOps.sub (st' := ⟨[(3, .c (.int .i64 a3_start)), (9, .c (.ptr 0 0)), (12, .c (.vec c_5.length 11 (gL cSProfile dSProfile c_5))), (13, .c (.own 1 (([] : List SStep)).length)), (14, .c (.int .i64 a4_s.From))], [.box [.int .i64 a4_s.From, .int .i64 a4_s.To], .arr 46 2 (([] : List SStep)).length (gL cSStep dSStep (([] : List SStep)))]⟩) (sub_gen [0, 1] rfl rfl ⟨zc rfl rfl, zc rfl rfl, zc rfl rfl, zc rfl rfl, zc rfl rfl, trivial⟩ ⟨⟨_, rfl, ⟨ii rfl rfl, ii rfl rfl, trivial⟩⟩, oa rfl, trivial⟩) ?_
    refine SOps.nil ?_
    refine SCode.block ?_
    refine SCode.sub (st' := ⟨[(3, .c (.int .i64 a3_start)), (9, .c (.ptr 0 0)), (12, .c (.vec c_5.length 11 (gL cSProfile dSProfile c_5))), (13, .c (.own 1 ([] : List SStep).length)), (14, .c (.int .i64 a4_s.From))], [.box [.int .i64 a4_s.From, .int .i64 a4_s.To], .arr 46 2 ([] : List SStep).length (gL cSStep dSStep ([] : List SStep))]⟩) (sub_gen [0, 1] rfl rfl ⟨zc rfl rfl, zc rfl rfl, zc rfl rfl, zc rfl rfl, zc rfl rfl, trivial⟩ ⟨⟨_, rfl, ⟨ii rfl rfl, ii rfl rfl, trivial⟩⟩, oa rfl, trivial⟩) ?_
    refine (SCode.loop (σ := Nat × (Int × (List SStep))) (S := fun s => ⟨[(3, .c (.int .i64 a3_start)), (9, .c (.ptr 0 0)), (12, .c (.vec c_5.length 11 (gL cSProfile dSProfile c_5))), (13, .c (.own 1 s.2.2.length)), (14, .c (.int .i64 s.2.1))], [.box [.int .i64 a4_s.From, .int .i64 a4_s.To], .arr 46 2 s.2.2.length (gL cSStep dSStep s.2.2)]⟩) (g := fun s => compose_Series_l27 F a3_start a4_s c_5 s.1 s.2.1 s.2.2 = some r) (μ := fun s => s.1) (F, (a4_s.From, ([] : List SStep))) h ?_)
    rintro ⟨n_27, ⟨t_17, o1_18⟩⟩ h
    replace h : compose_Series_l27 F a3_start a4_s c_5 n_27 t_17 o1_18 = some r := h
    show SCode _ _ _ ⟨[(3, .c (.int .i64 a3_start)), (9, .c (.ptr 0 0)), (12, .c (.vec c_5.length 11 (gL cSProfile dSProfile c_5))), (13, .c (.own 1 o1_18.length)), (14, .c (.int .i64 t_17))], [.box [.int .i64 a4_s.From, .int .i64 a4_s.To], .arr 46 2 o1_18.length (gL cSStep dSStep o1_18)]⟩ _
    cases n_27 with
    | zero => cases h
    | succ n_27 =>
      replace h : compose_Series_b27 F a3_start a4_s c_5 (fun t_17 o1_18 => compose_Series_l27 F a3_start a4_s c_5 n_27 t_17 o1_18) t_17 o1_18 = some r := h
      unfold compose_Series_b27 at h
      refine SCode.seq ?_
      refine SCode.seq ?_
      rcases cond_out h with ⟨g28, h⟩ | ⟨g28, h⟩
      · refine SCode.region (show SOps _ _ _ [0, 1, 2, 3, 4, 5, 6, 7] _ _ from ?_)
        refine SOps.q rfl (.plain rfl) rfl (q_move rfl rfl) ?_
        refine SOps.q rfl (.plain rfl) rfl (q_geq rfl rfl rfl) ?_
        refine SOps.q rfl (.plain rfl) rfl (q_move rfl rfl) ?_
        refine SOps.q rfl (.guard 2 46 true rfl rfl (gT g28)) rfl (q_move rfl rfl) ?_
        refine SOps.q rfl (.guard 2 46 true rfl rfl (gT g28)) rfl (q_field_ptr rfl rfl fd28_1) ?_
        refine SOps.q rfl (.guard 2 46 true rfl rfl (gT g28)) rfl (q_load_ptr rfl rfl rfl rfl ty3) ?_
        refine SOps.q rfl (.guard 2 46 true rfl rfl (gT g28)) rfl (q_lss rfl rfl rfl) ?_
        refine SOps.q rfl (.plain rfl) rfl (q_pick_t rfl rfl g28 rfl) ?_
        refine SOps.sub (st' := ⟨[(3, .c (.int .i64 a3_start)), (9, .c (.ptr 0 0)), (12, .c (.vec c_5.length 11 (gL cSProfile dSProfile c_5))), (13, .c (.own 1 o1_18.length)), (14, .c (.int .i64 t_17)), (51, .c (.bool (decide (t_17 < a4_s.To))))], [.box [.int .i64 a4_s.From, .int .i64 a4_s.To], .arr 46 2 o1_18.length (gL cSStep dSStep o1_18)]⟩) (sub_gen [0, 1] rfl rfl ⟨zc rfl rfl, zc rfl rfl, zc rfl rfl, zc rfl rfl, zc rfl rfl, zc rfl rfl, trivial⟩ ⟨⟨_, rfl, ⟨ii rfl rfl, ii rfl rfl, trivial⟩⟩, oa rfl, trivial⟩) ?_
        refine SOps.nil ?_
        rcases cond_out h with ⟨g29, h⟩ | ⟨g29, h⟩
        · refine SCode.cond_t rfl g29 ?_
          refine SCode.skip ?_
          refine SCode.seq ?_
          refine SCode.block ?_
          refine SCode.seq ?_
          refine SCode.seq ?_
          refine SCode.region (show SOps _ _ _ [0, 1, 2] _ _ from ?_)
          refine SOps.q rfl (.plain rfl) rfl (q_move rfl rfl) ?_
          refine SOps.q rfl (.plain rfl) rfl (q_len_own rfl rfl sl41) ?_
          refine SOps.q rfl (.plain rfl) rfl (q_eql rfl rfl rfl) ?_
          refine SOps.sub (st' := ⟨[(3, .c (.int .i64 a3_start)), (9, .c (.ptr 0 0)), (12, .c (.vec c_5.length 11 (gL cSProfile dSProfile c_5))), (13, .c (.own 1 o1_18.length)), (14, .c (.int .i64 t_17)), (61, .c (.bool (decide (((o1_18).length : Int) = 512))))], [.box [.int .i64 a4_s.From, .int .i64 a4_s.To], .arr 46 2 o1_18.length (gL cSStep dSStep o1_18)]⟩) (sub_gen [0, 1] rfl rfl ⟨zc rfl rfl, zc rfl rfl, zc rfl rfl, zc rfl rfl, zc rfl rfl, zc rfl rfl, trivial⟩ ⟨⟨_, rfl, ⟨ii rfl rfl, ii rfl rfl, trivial⟩⟩, oa rfl, trivial⟩) ?_
          refine SOps.nil ?_
          rcases cond_out h with ⟨g30, h⟩ | ⟨g30, h⟩
          · refine SCode.cond_t rfl g30 ?_
            refine SCode.seq ?_
            refine SCode.region (show SOps _ _ _ [0, 1] _ _ from ?_)
            refine SOps.q rfl (.plain rfl) rfl (q_assign rfl rfl) ?_
            refine SOps.q rfl (.plain rfl) rfl (q_assign rfl rfl) ?_
            refine SOps.sub (st' := ⟨[(10, .c (.raw (.slice none 0 0))), (11, .c (.int .i64 3))], []⟩) (sub_gen [] rfl rfl ⟨zc rfl rfl, zc rfl rfl, trivial⟩ trivial) ?_
            refine SOps.nil ?_
            refine SCode.ret ?_
            obtain rfl := Option.some.inj h
            exact ⟨⟨[(10, .c (.vec (([] : List SStep)).length 2 (gL cSStep dSStep (([] : List SStep))))), (11, .c (.int .i64 3))], []⟩, _, sub_gen [] rfl rfl ⟨⟨_, rfl, .inr (.inr (.inr (.inl ⟨_, _, rfl, rfl⟩)))⟩, zc rfl rfl, trivial⟩ trivial, resA2 (v1 := .c (.vec (([] : List SStep)).length 2 (gL cSStep dSStep (([] : List SStep))))) (v2 := .c (.int .i64 3)) rfl rfl rfl, rfl⟩
          refine SCode.cond_f rfl g30 ?_
          refine SCode.skip ?_
          obtain ⟨c_31, g32, h⟩ := bind_out h
          try dsimp only at h
          obtain ⟨g33, h⟩ := guard_out h
          refine SCode.region (show SOps _ _ _ [0, 1, 2, 3, 4, 5, 6, 7, 8, 9] _ _ from ?_)
          refine SOps.q rfl (.plain rfl) rfl (q_move rfl rfl) ?_
          refine SOps.q rfl (.plain rfl) rfl (q_move rfl rfl) ?_
          refine SOps.q rfl (.plain rfl) rfl (q_move rfl rfl) ?_
          refine SOps.q rfl (.plain rfl) rfl (q_move rfl rfl) ?_
          refine SOps.q rfl (.plain rfl) rfl (q_move rfl rfl) ?_
          refine SOps.q rfl (.plain rfl) rfl (q_call (compose_limit_ok F c_5 a3_start t_17 c_31 g32) [] rfl fn22 ⟨⟨_, rfl, .inl ⟨rfl, rfl⟩⟩, ⟨_, rfl, .inl ⟨rfl, rfl⟩⟩, ⟨_, rfl, .inl ⟨rfl, rfl⟩⟩, trivial⟩ (.inl rfl)) ?_
          refine SOps.q rfl (.plain rfl) rfl (q_build2 rfl rfl pl46 rfl) ?_
          refine SOps.q rfl (.plain rfl) rfl (q_bsliceL (c := cSStep) (d0 := dSStep) [SStep.mk t_17 c_31] rfl rfl sl41 z46 rfl rfl rfl rfl rfl rfl rfl) ?_
          refine SOps.e rfl (.plain rfl) (e_appendL (c := cSStep) (d0 := dSStep) (l := o1_18) (l2 := [SStep.mk t_17 c_31]) rfl rfl rfl rfl rfl rfl (.inl rfl) sl41 z46 rfl rfl oneSStep g33.1 g33.2) ?_
          refine SOps.q rfl (.plain rfl) rfl (q_assign rfl rfl) ?_
          refine SOps.sub (st' := ⟨[(3, .c (.int .i64 a3_start)), (9, .c (.ptr 0 0)), (12, .c (.vec c_5.length 11 (gL cSProfile dSProfile c_5))), (13, .c (.own 1 (o1_18 ++ ([SStep.mk t_17 c_31])).length)), (14, .c (.int .i64 t_17))], [.box [.int .i64 a4_s.From, .int .i64 a4_s.To], .arr 46 2 (o1_18 ++ ([SStep.mk t_17 c_31])).length (gL cSStep dSStep (o1_18 ++ ([SStep.mk t_17 c_31])))]⟩) (sub_gen [0, 2] rfl rfl ⟨zc rfl rfl, zc rfl rfl, zc rfl rfl, zc rfl rfl, zc rfl rfl, trivial⟩ ⟨⟨_, rfl, ⟨ii rfl rfl, ii rfl rfl, trivial⟩⟩, oa rfl, trivial⟩) ?_
          refine SOps.nil ?_
          obtain ⟨c_34, g35, h⟩ := bind_out h
          try dsimp only at h
          refine SCode.region (show SOps _ _ _ [0, 1, 2, 3, 4, 5, 6, 7] _ _ from ?_)
          refine SOps.q rfl (.plain rfl) rfl (q_move rfl rfl) ?_
          refine SOps.q rfl (.plain rfl) rfl (q_move rfl rfl) ?_
          refine SOps.q rfl (.plain rfl) rfl (q_move rfl rfl) ?_
          refine SOps.q rfl (.plain rfl) rfl (q_field_ptr rfl rfl fd28_1) ?_
          refine SOps.q rfl (.plain rfl) rfl (q_load_ptr rfl rfl rfl rfl ty3) ?_
          refine SOps.q rfl (.plain rfl) rfl (q_sub rfl rfl rfl) ?_
          refine SOps.q rfl (.plain rfl) rfl (q_call (compose_next_ok F c_5 a3_start t_17 (IntKind.wrap .i64 (a4_s.To - 1)) c_34 g35) [] rfl fn26 ⟨⟨_, rfl, .inl ⟨rfl, rfl⟩⟩, ⟨_, rfl, .inl ⟨rfl, rfl⟩⟩, ⟨_, rfl, .inl ⟨rfl, rfl⟩⟩, ⟨_, rfl, .inl ⟨rfl, rfl⟩⟩, trivial⟩ (.inl rfl)) ?_
          refine SOps.q rfl (.plain rfl) rfl (q_assign rfl rfl) ?_
          refine SOps.sub (st' := ⟨[(3, .c (.int .i64 a3_start)), (9, .c (.ptr 0 0)), (12, .c (.vec c_5.length 11 (gL cSProfile dSProfile c_5))), (13, .c (.own 1 (o1_18 ++ ([SStep.mk t_17 c_31])).length)), (14, .c (.int .i64 c_34))], [.box [.int .i64 a4_s.From, .int .i64 a4_s.To], .arr 46 2 (o1_18 ++ ([SStep.mk t_17 c_31])).length (gL cSStep dSStep (o1_18 ++ ([SStep.mk t_17 c_31])))]⟩) (sub_gen [0, 1] rfl rfl ⟨zc rfl rfl, zc rfl rfl, zc rfl rfl, zc rfl rfl, zc rfl rfl, trivial⟩ ⟨⟨_, rfl, ⟨ii rfl rfl, ii rfl rfl, trivial⟩⟩, oa rfl, trivial⟩) ?_
          refine SOps.nil ?_
          exact ⟨(n_27, (c_34, o1_18 ++ ([SStep.mk t_17 c_31]))), h, Nat.lt_succ_self n_27, sub_gen [0, 1] rfl rfl ⟨zc rfl rfl, zc rfl rfl, zc rfl rfl, zc rfl rfl, zc rfl rfl, trivial⟩ ⟨⟨_, rfl, ⟨ii rfl rfl, ii rfl rfl, trivial⟩⟩, oa rfl, trivial⟩⟩
        refine SCode.cond_f rfl g29 ?_
        refine SCode.exit ?_
        exact ⟨o1_18, h, sub_gen [1] rfl rfl ⟨zc rfl rfl, trivial⟩ ⟨oa rfl, trivial⟩⟩
      refine SCode.region (show SOps _ _ _ [0, 1, 2, 3, 4, 5, 6, 7] _ _ from ?_)
      refine SOps.q rfl (.plain rfl) rfl (q_move rfl rfl) ?_
      refine SOps.q rfl (.plain rfl) rfl (q_geq rfl rfl rfl) ?_
      refine SOps.q rfl (.plain rfl) rfl (q_move rfl rfl) ?_
      refine SOps.skip rfl 2 46 true rfl rfl (.inl (gF g28)) rfl ?_
      refine SOps.skip rfl 2 46 true rfl rfl (.inl (gF g28)) rfl ?_
      refine SOps.skip rfl 2 46 true rfl rfl (.inl (gF g28)) rfl ?_
      refine SOps.skip rfl 2 46 true rfl rfl (.inl (gF g28)) rfl ?_
      refine SOps.q rfl (.plain rfl) rfl (q_pick_f rfl rfl g28 rfl) ?_
      refine SOps.sub (st' := ⟨[(3, .c (.int .i64 a3_start)), (9, .c (.ptr 0 0)), (12, .c (.vec c_5.length 11 (gL cSProfile dSProfile c_5))), (13, .c (.own 1 o1_18.length)), (14, .c (.int .i64 t_17)), (51, .c (.bool false))], [.box [.int .i64 a4_s.From, .int .i64 a4_s.To], .arr 46 2 o1_18.length (gL cSStep dSStep o1_18)]⟩) (sub_gen [0, 1] rfl rfl ⟨zc rfl rfl, zc rfl rfl, zc rfl rfl, zc rfl rfl, zc rfl rfl, zc rfl rfl, trivial⟩ ⟨⟨_, rfl, ⟨ii rfl rfl, ii rfl rfl, trivial⟩⟩, oa rfl, trivial⟩) ?_
      refine SOps.nil ?_
      refine SCode.cond_f rfl rfl ?_
      refine SCode.exit ?_
      exact ⟨o1_18, h, sub_gen [1] rfl rfl ⟨zc rfl rfl, trivial⟩ ⟨oa rfl, trivial⟩⟩
  rintro o0_7 h
  show SCode _ _ _ ⟨[(13, .c (.own 0 o0_7.length))], [.arr 46 2 o0_7.length (gL cSStep dSStep o0_7)]⟩ _
  replace h : compose_Series_p8 o0_7 = some r := h
  unfold compose_Series_p8 at h
  refine SCode.seq ?_
  refine SCode.region (show SOps _ _ _ [0, 1, 2] _ _ from ?_)
  refine SOps.q rfl (.plain rfl) rfl (q_move rfl rfl) ?_
  refine SOps.q rfl (.plain rfl) rfl (q_assign rfl rfl) ?_
  refine SOps.q rfl (.plain rfl) rfl (q_assign rfl rfl) ?_
  refine SOps.sub (st' := ⟨[(10, .c (.own 0 o0_7.length)), (11, .c (.int .i64 0))], [.arr 46 2 o0_7.length (gL cSStep dSStep o0_7)]⟩) (sub_gen [0] rfl rfl ⟨zc rfl rfl, zc rfl rfl, trivial⟩ ⟨oa rfl, trivial⟩) ?_
  refine SOps.nil ?_
  refine SCode.ret ?_
  obtain rfl := Option.some.inj h
  exact ⟨⟨[(10, .c (.vec o0_7.length 2 (gL cSStep dSStep o0_7))), (11, .c (.int .i64 0))], []⟩, _, sub_gen [] rfl rfl ⟨⟨_, rfl, .inr (.inl ⟨_, _, _, _, _, _, _, rfl, rfl, rfl, Nat.le_refl _, fun _ _ _ _ => rfl, by decide⟩)⟩, zc rfl rfl, trivial⟩ trivial, resA2 (v1 := .c (.vec o0_7.length 2 (gL cSStep dSStep o0_7))) (v2 := .c (.int .i64 0)) rfl rfl rfl, rfl⟩
set_option maxRecDepth 100000 in
set_option maxHeartbeats 8000000 in
theorem chargenetlaw16_ComposeRanges_ok (F : Nat) (a0_from : Int) (a1_to : Int) (r : Bool) (h : chargenetlaw16_ComposeRanges F a0_from a1_to = some r) :
    SFun Try.prog 6 [] [.c (.int .i64 a0_from), .c (.int .i64 a1_to)] (fun x _ => x = .c (.bool r)) := by
  refine SFun.of (n := 63) Try.func6 rfl rfl rfl ?_
  unfold chargenetlaw16_ComposeRanges at h
  show SCode _ _ _ ⟨[(0, .c (.int .i64 a0_from)), (1, .c (.int .i64 a1_to))], []⟩ _
  refine SCode.seq ?_
  refine SCode.region (show SOps _ _ _ [0] _ _ from ?_)
  refine SOps.q rfl (.plain rfl) rfl (q_assign rfl rfl) ?_
  refine SOps.sub (st' := ⟨[(0, .c (.int .i64 a0_from)), (1, .c (.int .i64 a1_to))], []⟩) (sub_gen [] rfl rfl ⟨zc rfl rfl, zc rfl rfl, trivial⟩ trivial) ?_
  refine SOps.nil ?_
  refine SCode.seq ?_
  obtain ⟨c_1, g2, h⟩ := bind_out h
  try dsimp only at h
  refine SCode.region (show SOps _ _ _ [0, 1, 2, 3, 4, 5, 6, 7, 8] _ _ from ?_)
  refine SOps.q rfl (.plain rfl) rfl (q_move rfl rfl) ?_
  refine SOps.q rfl (.plain rfl) rfl (q_move rfl rfl) ?_
  refine SOps.q rfl (.plain rfl) rfl (q_build2 rfl rfl pl28 rfl) ?_
  refine SOps.q rfl (.plain rfl) rfl (q_call (compose_Series_ok F (([] : List SProfile)) 1 ByteArray.empty 0 (SSpan.mk a0_from a1_to) c_1 g2) [] rfl fn15 ⟨⟨_, rfl, .inr (.inr ⟨_, _, rfl, rfl⟩)⟩, ⟨_, rfl, .inl ⟨rfl, rfl⟩⟩, ⟨_, rfl, .inl ⟨rfl, rfl⟩⟩, ⟨_, rfl, .inl ⟨rfl, rfl⟩⟩, ⟨rfl, rfl⟩, trivial⟩ (.inl rfl)) ?_
  refine SOps.q rfl (.plain rfl) rfl (q_move rfl rfl) ?_
  refine SOps.q rfl (.plain rfl) rfl (q_extract rfl rfl rfl) ?_
  refine SOps.q rfl (.plain rfl) rfl (q_extract rfl rfl rfl) ?_
  refine SOps.q rfl (.plain rfl) rfl (q_assign rfl rfl) ?_
  refine SOps.q rfl (.plain rfl) rfl (q_assign rfl rfl) ?_
  refine SOps.sub (st' := ⟨[(0, .c (.int .i64 a0_from)), (1, .c (.int .i64 a1_to)), (5, .c (.vec c_1.1.length 2 (gL cSStep dSStep c_1.1))), (6, .c (.int .i64 c_1.2))], []⟩) (sub_gen [] rfl rfl ⟨zc rfl rfl, zc rfl rfl, zc rfl rfl, zc rfl rfl, trivial⟩ trivial) ?_
  refine SOps.nil ?_
  refine SCode.seq ?_
  refine SCode.seq ?_
  rcases cond_out h with ⟨g3, h⟩ | ⟨g3, h⟩
  · refine SCode.region (show SOps _ _ _ [0, 1, 2, 3, 4, 5, 6, 7, 8, 9, 10, 11, 12, 13, 14, 15, 16] _ _ from ?_)
    refine SOps.q rfl (.plain rfl) rfl (q_move rfl rfl) ?_
    refine SOps.q rfl (.plain rfl) rfl (q_lss rfl rfl rfl) ?_
    refine SOps.q rfl (.plain rfl) rfl (q_move rfl rfl) ?_
    refine SOps.skip rfl 2 16 false rfl rfl (.inl (gT g3)) rfl ?_
    refine SOps.skip rfl 2 16 false rfl rfl (.inl (gT g3)) rfl ?_
    refine SOps.skip rfl 2 16 false rfl rfl (.inl (gT g3)) rfl ?_
    refine SOps.q rfl (.plain rfl) rfl (q_pick_t rfl rfl g3 rfl) ?_
    refine SOps.q rfl (.plain rfl) rfl (q_move rfl rfl) ?_
    refine SOps.skip rfl 7 21 false rfl rfl (.inl rfl) rfl ?_
    refine SOps.skip rfl 7 21 false rfl rfl (.inl rfl) rfl ?_
    refine SOps.q rfl (.plain rfl) rfl (q_pick_t rfl rfl rfl rfl) ?_
    refine SOps.q rfl (.plain rfl) rfl (q_move rfl rfl) ?_
    refine SOps.skip rfl 11 25 false rfl rfl (.inl rfl) rfl ?_
    refine SOps.skip rfl 11 25 false rfl rfl (.inl rfl) rfl ?_
    refine SOps.skip rfl 11 25 false rfl rfl (.inl rfl) rfl ?_
    refine SOps.skip rfl 11 25 false rfl rfl (.inl rfl) rfl ?_
    refine SOps.q rfl (.plain rfl) rfl (q_pick_t rfl rfl rfl rfl) ?_
    refine SOps.sub (st' := ⟨[(0, .c (.int .i64 a0_from)), (1, .c (.int .i64 a1_to)), (5, .c (.vec c_1.1.length 2 (gL cSStep dSStep c_1.1))), (6, .c (.int .i64 c_1.2)), (30, .c (.bool true))], []⟩) (sub_gen [] rfl rfl ⟨zc rfl rfl, zc rfl rfl, zc rfl rfl, zc rfl rfl, zc rfl rfl, trivial⟩ trivial) ?_
    refine SOps.nil ?_
    refine SCode.cond_t rfl rfl ?_
    refine SCode.seq ?_
    rcases cond_out h with ⟨g4, h⟩ | ⟨g4, h⟩
    · refine SCode.region (show SOps _ _ _ [0, 1, 2, 3, 4, 5, 6, 7] _ _ from ?_)
      refine SOps.q rfl (.plain rfl) rfl (q_move rfl rfl) ?_
      refine SOps.q rfl (.plain rfl) rfl (q_eql rfl rfl rfl) ?_
      refine SOps.q rfl (.plain rfl) rfl (q_move rfl rfl) ?_
      refine SOps.q rfl (.guard 2 33 true rfl rfl (gT g4)) rfl (q_move rfl rfl) ?_
      refine SOps.q rfl (.guard 2 33 true rfl rfl (gT g4)) rfl (q_len_vec rfl rfl sl41) ?_
      refine SOps.q rfl (.guard 2 33 true rfl rfl (gT g4)) rfl (q_eql rfl rfl rfl) ?_
      refine SOps.q rfl (.plain rfl) rfl (q_pick_t rfl rfl g4 rfl) ?_
      refine SOps.q rfl (.plain rfl) rfl (q_assign rfl rfl) ?_
      refine SOps.sub (st' := ⟨[(4, .c (.bool (decide (((c_1.1).length : Int) = 0))))], []⟩) (sub_gen [] rfl rfl ⟨zc rfl rfl, trivial⟩ trivial) ?_
      refine SOps.nil ?_
      refine SCode.ret ?_
      obtain rfl := Option.some.inj h
      exact ⟨⟨[(4, .c (.bool (decide (((c_1.1).length : Int) = 0))))], []⟩, _, sub_gen [] rfl rfl ⟨zc rfl rfl, trivial⟩ trivial, resA1 (v := .c (.bool (decide (((c_1.1).length : Int) = 0)))) rfl rfl, rfl⟩
    refine SCode.region (show SOps _ _ _ [0, 1, 2, 3, 4, 5, 6, 7] _ _ from ?_)
    refine SOps.q rfl (.plain rfl) rfl (q_move rfl rfl) ?_
    refine SOps.q rfl (.plain rfl) rfl (q_eql rfl rfl rfl) ?_
    refine SOps.q rfl (.plain rfl) rfl (q_move rfl rfl) ?_
    refine SOps.skip rfl 2 33 true rfl rfl (.inl (gF g4)) rfl ?_
    refine SOps.skip rfl 2 33 true rfl rfl (.inl (gF g4)) rfl ?_
    refine SOps.skip rfl 2 33 true rfl rfl (.inl (gF g4)) rfl ?_
    refine SOps.q rfl (.plain rfl) rfl (q_pick_f rfl rfl g4 rfl) ?_
    refine SOps.q rfl (.plain rfl) rfl (q_assign rfl rfl) ?_
    refine SOps.sub (st' := ⟨[(4, .c (.bool false))], []⟩) (sub_gen [] rfl rfl ⟨zc rfl rfl, trivial⟩ trivial) ?_
    refine SOps.nil ?_
    refine SCode.ret ?_
    obtain rfl := Option.some.inj h
    exact ⟨⟨[(4, .c (.bool false))], []⟩, _, sub_gen [] rfl rfl ⟨zc rfl rfl, trivial⟩ trivial, resA1 (v := .c (.bool false)) rfl rfl, rfl⟩
  rcases cond_out h with ⟨g5, h⟩ | ⟨g5, h⟩
  · refine SCode.region (show SOps _ _ _ [0, 1, 2, 3, 4, 5, 6, 7, 8, 9, 10, 11, 12, 13, 14, 15, 16] _ _ from ?_)
    refine SOps.q rfl (.plain rfl) rfl (q_move rfl rfl) ?_
    refine SOps.q rfl (.plain rfl) rfl (q_lss rfl rfl rfl) ?_
    refine SOps.q rfl (.plain rfl) rfl (q_move rfl rfl) ?_
    refine SOps.q rfl (.guard 2 16 false rfl rfl (gF g3)) rfl (q_move rfl rfl) ?_
    refine SOps.q rfl (.guard 2 16 false rfl rfl (gF g3)) rfl (q_move rfl rfl) ?_
    refine SOps.q rfl (.guard 2 16 false rfl rfl (gF g3)) rfl (q_lss rfl rfl rfl) ?_
    refine SOps.q rfl (.plain rfl) rfl (q_pick_f rfl rfl g3 rfl) ?_
    refine SOps.q rfl (.plain rfl) rfl (q_move rfl rfl) ?_
    refine SOps.skip rfl 7 21 false rfl rfl (.inl (gT g5)) rfl ?_
    refine SOps.skip rfl 7 21 false rfl rfl (.inl (gT g5)) rfl ?_
    refine SOps.q rfl (.plain rfl) rfl (q_pick_t rfl rfl g5 rfl) ?_
    refine SOps.q rfl (.plain rfl) rfl (q_move rfl rfl) ?_
    refine SOps.skip rfl 11 25 false rfl rfl (.inl rfl) rfl ?_
    refine SOps.skip rfl 11 25 false rfl rfl (.inl rfl) rfl ?_
    refine SOps.skip rfl 11 25 false rfl rfl (.inl rfl) rfl ?_
    refine SOps.skip rfl 11 25 false rfl rfl (.inl rfl) rfl ?_
    refine SOps.q rfl (.plain rfl) rfl (q_pick_t rfl rfl rfl rfl) ?_
    refine SOps.sub (st' := ⟨[(0, .c (.int .i64 a0_from)), (1, .c (.int .i64 a1_to)), (5, .c (.vec c_1.1.length 2 (gL cSStep dSStep c_1.1))), (6, .c (.int .i64 c_1.2)), (30, .c (.bool true))], []⟩) (sub_gen [] rfl rfl ⟨zc rfl rfl, zc rfl rfl, zc rfl rfl, zc rfl rfl, zc rfl rfl, trivial⟩ trivial) ?_
    refine SOps.nil ?_
    refine SCode.cond_t rfl rfl ?_
    refine SCode.seq ?_
    rcases cond_out h with ⟨g6, h⟩ | ⟨g6, h⟩
    · refine SCode.region (show SOps _ _ _ [0, 1, 2, 3, 4, 5, 6, 7] _ _ from ?_)
      refine SOps.q rfl (.plain rfl) rfl (q_move rfl rfl) ?_
      refine SOps.q rfl (.plain rfl) rfl (q_eql rfl rfl rfl) ?_
      refine SOps.q rfl (.plain rfl) rfl (q_move rfl rfl) ?_
      refine SOps.q rfl (.guard 2 33 true rfl rfl (gT g6)) rfl (q_move rfl rfl) ?_
      refine SOps.q rfl (.guard 2 33 true rfl rfl (gT g6)) rfl (q_len_vec rfl rfl sl41) ?_
      refine SOps.q rfl (.guard 2 33 true rfl rfl (gT g6)) rfl (q_eql rfl rfl rfl) ?_
      refine SOps.q rfl (.plain rfl) rfl (q_pick_t rfl rfl g6 rfl) ?_
      refine SOps.q rfl (.plain rfl) rfl (q_assign rfl rfl) ?_
      refine SOps.sub (st' := ⟨[(4, .c (.bool (decide (((c_1.1).length : Int) = 0))))], []⟩) (sub_gen [] rfl rfl ⟨zc rfl rfl, trivial⟩ trivial) ?_
      refine SOps.nil ?_
      refine SCode.ret ?_
      obtain rfl := Option.some.inj h
      exact ⟨⟨[(4, .c (.bool (decide (((c_1.1).length : Int) = 0))))], []⟩, _, sub_gen [] rfl rfl ⟨zc rfl rfl, trivial⟩ trivial, resA1 (v := .c (.bool (decide (((c_1.1).length : Int) = 0)))) rfl rfl, rfl⟩
    refine SCode.region (show SOps _ _ _ [0, 1, 2, 3, 4, 5, 6, 7] _ _ from ?_)
    refine SOps.q rfl (.plain rfl) rfl (q_move rfl rfl) ?_
    refine SOps.q rfl (.plain rfl) rfl (q_eql rfl rfl rfl) ?_
    refine SOps.q rfl (.plain rfl) rfl (q_move rfl rfl) ?_
    refine SOps.skip rfl 2 33 true rfl rfl (.inl (gF g6)) rfl ?_
    refine SOps.skip rfl 2 33 true rfl rfl (.inl (gF g6)) rfl ?_
    refine SOps.skip rfl 2 33 true rfl rfl (.inl (gF g6)) rfl ?_
    refine SOps.q rfl (.plain rfl) rfl (q_pick_f rfl rfl g6 rfl) ?_
    refine SOps.q rfl (.plain rfl) rfl (q_assign rfl rfl) ?_
    refine SOps.sub (st' := ⟨[(4, .c (.bool false))], []⟩) (sub_gen [] rfl rfl ⟨zc rfl rfl, trivial⟩ trivial) ?_
    refine SOps.nil ?_
    refine SCode.ret ?_
    obtain rfl := Option.some.inj h
    exact ⟨⟨[(4, .c (.bool false))], []⟩, _, sub_gen [] rfl rfl ⟨zc rfl rfl, trivial⟩ trivial, resA1 (v := .c (.bool false)) rfl rfl, rfl⟩
  rcases cond_out h with ⟨g7, h⟩ | ⟨g7, h⟩
  · refine SCode.region (show SOps _ _ _ [0, 1, 2, 3, 4, 5, 6, 7, 8, 9, 10, 11, 12, 13, 14, 15, 16] _ _ from ?_)
    refine SOps.q rfl (.plain rfl) rfl (q_move rfl rfl) ?_
    refine SOps.q rfl (.plain rfl) rfl (q_lss rfl rfl rfl) ?_
    refine SOps.q rfl (.plain rfl) rfl (q_move rfl rfl) ?_
    refine SOps.q rfl (.guard 2 16 false rfl rfl (gF g3)) rfl (q_move rfl rfl) ?_
    refine SOps.q rfl (.guard 2 16 false rfl rfl (gF g3)) rfl (q_move rfl rfl) ?_
    refine SOps.q rfl (.guard 2 16 false rfl rfl (gF g3)) rfl (q_lss rfl rfl rfl) ?_
    refine SOps.q rfl (.plain rfl) rfl (q_pick_f rfl rfl g3 rfl) ?_
    refine SOps.q rfl (.plain rfl) rfl (q_move rfl rfl) ?_
    refine SOps.q rfl (.guard 7 21 false rfl rfl (gF g5)) rfl (q_move rfl rfl) ?_
    refine SOps.q rfl (.guard 7 21 false rfl rfl (gF g5)) rfl (q_gtr rfl rfl rfl) ?_
    refine SOps.q rfl (.plain rfl) rfl (q_pick_f rfl rfl g5 rfl) ?_
    refine SOps.q rfl (.plain rfl) rfl (q_move rfl rfl) ?_
    refine SOps.skip rfl 11 25 false rfl rfl (.inl (gT g7)) rfl ?_
    refine SOps.skip rfl 11 25 false rfl rfl (.inl (gT g7)) rfl ?_
    refine SOps.skip rfl 11 25 false rfl rfl (.inl (gT g7)) rfl ?_
    refine SOps.skip rfl 11 25 false rfl rfl (.inl (gT g7)) rfl ?_
    refine SOps.q rfl (.plain rfl) rfl (q_pick_t rfl rfl g7 rfl) ?_
    refine SOps.sub (st' := ⟨[(0, .c (.int .i64 a0_from)), (1, .c (.int .i64 a1_to)), (5, .c (.vec c_1.1.length 2 (gL cSStep dSStep c_1.1))), (6, .c (.int .i64 c_1.2)), (30, .c (.bool true))], []⟩) (sub_gen [] rfl rfl ⟨zc rfl rfl, zc rfl rfl, zc rfl rfl, zc rfl rfl, zc rfl rfl, trivial⟩ trivial) ?_
    refine SOps.nil ?_
    refine SCode.cond_t rfl rfl ?_
    refine SCode.seq ?_
    rcases cond_out h with ⟨g8, h⟩ | ⟨g8, h⟩
    · refine SCode.region (show SOps _ _ _ [0, 1, 2, 3, 4, 5, 6, 7] _ _ from ?_)
      refine SOps.q rfl (.plain rfl) rfl (q_move rfl rfl) ?_
      refine SOps.q rfl (.plain rfl) rfl (q_eql rfl rfl rfl) ?_
      refine SOps.q rfl (.plain rfl) rfl (q_move rfl rfl) ?_
      refine SOps.q rfl (.guard 2 33 true rfl rfl (gT g8)) rfl (q_move rfl rfl) ?_
      refine SOps.q rfl (.guard 2 33 true rfl rfl (gT g8)) rfl (q_len_vec rfl rfl sl41) ?_
      refine SOps.q rfl (.guard 2 33 true rfl rfl (gT g8)) rfl (q_eql rfl rfl rfl) ?_
      refine SOps.q rfl (.plain rfl) rfl (q_pick_t rfl rfl g8 rfl) ?_
      refine SOps.q rfl (.plain rfl) rfl (q_assign rfl rfl) ?_
      refine SOps.sub (st' := ⟨[(4, .c (.bool (decide (((c_1.1).length : Int) = 0))))], []⟩) (sub_gen [] rfl rfl ⟨zc rfl rfl, trivial⟩ trivial) ?_
      refine SOps.nil ?_
      refine SCode.ret ?_
      obtain rfl := Option.some.inj h
      exact ⟨⟨[(4, .c (.bool (decide (((c_1.1).length : Int) = 0))))], []⟩, _, sub_gen [] rfl rfl ⟨zc rfl rfl, trivial⟩ trivial, resA1 (v := .c (.bool (decide (((c_1.1).length : Int) = 0)))) rfl rfl, rfl⟩
    refine SCode.region (show SOps _ _ _ [0, 1, 2, 3, 4, 5, 6, 7] _ _ from ?_)
    refine SOps.q rfl (.plain rfl) rfl (q_move rfl rfl) ?_
    refine SOps.q rfl (.plain rfl) rfl (q_eql rfl rfl rfl) ?_
    refine SOps.q rfl (.plain rfl) rfl (q_move rfl rfl) ?_
    refine SOps.skip rfl 2 33 true rfl rfl (.inl (gF g8)) rfl ?_
    refine SOps.skip rfl 2 33 true rfl rfl (.inl (gF g8)) rfl ?_
    refine SOps.skip rfl 2 33 true rfl rfl (.inl (gF g8)) rfl ?_
    refine SOps.q rfl (.plain rfl) rfl (q_pick_f rfl rfl g8 rfl) ?_
    refine SOps.q rfl (.plain rfl) rfl (q_assign rfl rfl) ?_
    refine SOps.sub (st' := ⟨[(4, .c (.bool false))], []⟩) (sub_gen [] rfl rfl ⟨zc rfl rfl, trivial⟩ trivial) ?_
    refine SOps.nil ?_
    refine SCode.ret ?_
    obtain rfl := Option.some.inj h
    exact ⟨⟨[(4, .c (.bool false))], []⟩, _, sub_gen [] rfl rfl ⟨zc rfl rfl, trivial⟩ trivial, resA1 (v := .c (.bool false)) rfl rfl, rfl⟩
  refine SCode.region (show SOps _ _ _ [0, 1, 2, 3, 4, 5, 6, 7, 8, 9, 10, 11, 12, 13, 14, 15, 16] _ _ from ?_)
  refine SOps.q rfl (.plain rfl) rfl (q_move rfl rfl) ?_
  refine SOps.q rfl (.plain rfl) rfl (q_lss rfl rfl rfl) ?_
  refine SOps.q rfl (.plain rfl) rfl (q_move rfl rfl) ?_
  refine SOps.q rfl (.guard 2 16 false rfl rfl (gF g3)) rfl (q_move rfl rfl) ?_
  refine SOps.q rfl (.guard 2 16 false rfl rfl (gF g3)) rfl (q_move rfl rfl) ?_
  refine SOps.q rfl (.guard 2 16 false rfl rfl (gF g3)) rfl (q_lss rfl rfl rfl) ?_
  refine SOps.q rfl (.plain rfl) rfl (q_pick_f rfl rfl g3 rfl) ?_
  refine SOps.q rfl (.plain rfl) rfl (q_move rfl rfl) ?_
  refine SOps.q rfl (.guard 7 21 false rfl rfl (gF g5)) rfl (q_move rfl rfl) ?_
  refine SOps.q rfl (.guard 7 21 false rfl rfl (gF g5)) rfl (q_gtr rfl rfl rfl) ?_
  refine SOps.q rfl (.plain rfl) rfl (q_pick_f rfl rfl g5 rfl) ?_
  refine SOps.q rfl (.plain rfl) rfl (q_move rfl rfl) ?_
  refine SOps.q rfl (.guard 11 25 false rfl rfl (gF g7)) rfl (q_move rfl rfl) ?_
  refine SOps.q rfl (.guard 11 25 false rfl rfl (gF g7)) rfl (q_move rfl rfl) ?_
  refine SOps.q rfl (.guard 11 25 false rfl rfl (gF g7)) rfl (q_sub rfl rfl rfl) ?_
  refine SOps.q rfl (.guard 11 25 false rfl rfl (gF g7)) rfl (q_gtr rfl rfl rfl) ?_
  refine SOps.q rfl (.plain rfl) rfl (q_pick_f rfl rfl g7 rfl) ?_
  refine SOps.sub (st' := ⟨[(0, .c (.int .i64 a0_from)), (1, .c (.int .i64 a1_to)), (5, .c (.vec c_1.1.length 2 (gL cSStep dSStep c_1.1))), (6, .c (.int .i64 c_1.2)), (30, .c (.bool (decide (20160 < IntKind.wrap .i64 (a1_to - a0_from)))))], []⟩) (sub_gen [] rfl rfl ⟨zc rfl rfl, zc rfl rfl, zc rfl rfl, zc rfl rfl, zc rfl rfl, trivial⟩ trivial) ?_
  refine SOps.nil ?_
  rcases cond_out h with ⟨g9, h⟩ | ⟨g9, h⟩
  · refine SCode.cond_t rfl g9 ?_
    refine SCode.seq ?_
    rcases cond_out h with ⟨g10, h⟩ | ⟨g10, h⟩
    · refine SCode.region (show SOps _ _ _ [0, 1, 2, 3, 4, 5, 6, 7] _ _ from ?_)
      refine SOps.q rfl (.plain rfl) rfl (q_move rfl rfl) ?_
      refine SOps.q rfl (.plain rfl) rfl (q_eql rfl rfl rfl) ?_
      refine SOps.q rfl (.plain rfl) rfl (q_move rfl rfl) ?_
      refine SOps.q rfl (.guard 2 33 true rfl rfl (gT g10)) rfl (q_move rfl rfl) ?_
      refine SOps.q rfl (.guard 2 33 true rfl rfl (gT g10)) rfl (q_len_vec rfl rfl sl41) ?_
      refine SOps.q rfl (.guard 2 33 true rfl rfl (gT g10)) rfl (q_eql rfl rfl rfl) ?_
      refine SOps.q rfl (.plain rfl) rfl (q_pick_t rfl rfl g10 rfl) ?_
      refine SOps.q rfl (.plain rfl) rfl (q_assign rfl rfl) ?_
      refine SOps.sub (st' := ⟨[(4, .c (.bool (decide (((c_1.1).length : Int) = 0))))], []⟩) (sub_gen [] rfl rfl ⟨zc rfl rfl, trivial⟩ trivial) ?_
      refine SOps.nil ?_
      refine SCode.ret ?_
      obtain rfl := Option.some.inj h
      exact ⟨⟨[(4, .c (.bool (decide (((c_1.1).length : Int) = 0))))], []⟩, _, sub_gen [] rfl rfl ⟨zc rfl rfl, trivial⟩ trivial, resA1 (v := .c (.bool (decide (((c_1.1).length : Int) = 0)))) rfl rfl, rfl⟩
    refine SCode.region (show SOps _ _ _ [0, 1, 2, 3, 4, 5, 6, 7] _ _ from ?_)
    refine SOps.q rfl (.plain rfl) rfl (q_move rfl rfl) ?_
    refine SOps.q rfl (.plain rfl) rfl (q_eql rfl rfl rfl) ?_
    refine SOps.q rfl (.plain rfl) rfl (q_move rfl rfl) ?_
    refine SOps.skip rfl 2 33 true rfl rfl (.inl (gF g10)) rfl ?_
    refine SOps.skip rfl 2 33 true rfl rfl (.inl (gF g10)) rfl ?_
    refine SOps.skip rfl 2 33 true rfl rfl (.inl (gF g10)) rfl ?_
    refine SOps.q rfl (.plain rfl) rfl (q_pick_f rfl rfl g10 rfl) ?_
    refine SOps.q rfl (.plain rfl) rfl (q_assign rfl rfl) ?_
    refine SOps.sub (st' := ⟨[(4, .c (.bool false))], []⟩) (sub_gen [] rfl rfl ⟨zc rfl rfl, trivial⟩ trivial) ?_
    refine SOps.nil ?_
    refine SCode.ret ?_
    obtain rfl := Option.some.inj h
    exact ⟨⟨[(4, .c (.bool false))], []⟩, _, sub_gen [] rfl rfl ⟨zc rfl rfl, trivial⟩ trivial, resA1 (v := .c (.bool false)) rfl rfl, rfl⟩
  refine SCode.cond_f rfl g9 ?_
  refine SCode.skip ?_
  refine SCode.seq ?_
  refine SCode.seq ?_
  refine SCode.region (show SOps _ _ _ [0, 1, 2] _ _ from ?_)
  refine SOps.q rfl (.plain rfl) rfl (q_move rfl rfl) ?_
  refine SOps.q rfl (.plain rfl) rfl (q_move rfl rfl) ?_
  refine SOps.q rfl (.plain rfl) rfl (q_eql rfl rfl rfl) ?_
  refine SOps.sub (st' := ⟨[(0, .c (.int .i64 a0_from)), (5, .c (.vec c_1.1.length 2 (gL cSStep dSStep c_1.1))), (6, .c (.int .i64 c_1.2)), (40, .c (.bool (decide (a0_from = a1_to))))], []⟩) (sub_gen [] rfl rfl ⟨zc rfl rfl, zc rfl rfl, zc rfl rfl, zc rfl rfl, trivial⟩ trivial) ?_
  refine SOps.nil ?_
  rcases cond_out h with ⟨g11, h⟩ | ⟨g11, h⟩
  · refine SCode.cond_t rfl g11 ?_
    refine SCode.seq ?_
    rcases cond_out h with ⟨g12, h⟩ | ⟨g12, h⟩
    · refine SCode.region (show SOps _ _ _ [0, 1, 2, 3, 4, 5, 6, 7] _ _ from ?_)
      refine SOps.q rfl (.plain rfl) rfl (q_move rfl rfl) ?_
      refine SOps.q rfl (.plain rfl) rfl (q_eql rfl rfl rfl) ?_
      refine SOps.q rfl (.plain rfl) rfl (q_move rfl rfl) ?_
      refine SOps.q rfl (.guard 2 43 true rfl rfl (gT g12)) rfl (q_move rfl rfl) ?_
      refine SOps.q rfl (.guard 2 43 true rfl rfl (gT g12)) rfl (q_len_vec rfl rfl sl41) ?_
      refine SOps.q rfl (.guard 2 43 true rfl rfl (gT g12)) rfl (q_eql rfl rfl rfl) ?_
      refine SOps.q rfl (.plain rfl) rfl (q_pick_t rfl rfl g12 rfl) ?_
      refine SOps.q rfl (.plain rfl) rfl (q_assign rfl rfl) ?_
      refine SOps.sub (st' := ⟨[(4, .c (.bool (decide (((c_1.1).length : Int) = 0))))], []⟩) (sub_gen [] rfl rfl ⟨zc rfl rfl, trivial⟩ trivial) ?_
      refine SOps.nil ?_
      refine SCode.ret ?_
      obtain rfl := Option.some.inj h
      exact ⟨⟨[(4, .c (.bool (decide (((c_1.1).length : Int) = 0))))], []⟩, _, sub_gen [] rfl rfl ⟨zc rfl rfl, trivial⟩ trivial, resA1 (v := .c (.bool (decide (((c_1.1).length : Int) = 0)))) rfl rfl, rfl⟩
    refine SCode.region (show SOps _ _ _ [0, 1, 2, 3, 4, 5, 6, 7] _ _ from ?_)
    refine SOps.q rfl (.plain rfl) rfl (q_move rfl rfl) ?_
    refine SOps.q rfl (.plain rfl) rfl (q_eql rfl rfl rfl) ?_
    refine SOps.q rfl (.plain rfl) rfl (q_move rfl rfl) ?_
    refine SOps.skip rfl 2 43 true rfl rfl (.inl (gF g12)) rfl ?_
    refine SOps.skip rfl 2 43 true rfl rfl (.inl (gF g12)) rfl ?_
    refine SOps.skip rfl 2 43 true rfl rfl (.inl (gF g12)) rfl ?_
    refine SOps.q rfl (.plain rfl) rfl (q_pick_f rfl rfl g12 rfl) ?_
    refine SOps.q rfl (.plain rfl) rfl (q_assign rfl rfl) ?_
    refine SOps.sub (st' := ⟨[(4, .c (.bool false))], []⟩) (sub_gen [] rfl rfl ⟨zc rfl rfl, trivial⟩ trivial) ?_
    refine SOps.nil ?_
    refine SCode.ret ?_
    obtain rfl := Option.some.inj h
    exact ⟨⟨[(4, .c (.bool false))], []⟩, _, sub_gen [] rfl rfl ⟨zc rfl rfl, trivial⟩ trivial, resA1 (v := .c (.bool false)) rfl rfl, rfl⟩
  refine SCode.cond_f rfl g11 ?_
  refine SCode.skip ?_
  refine SCode.seq ?_
  rcases cond_out h with ⟨g13, h⟩ | ⟨g13, h⟩
  · rcases cond_out h with ⟨g14, h⟩ | ⟨g14, h⟩
    · obtain ⟨g15, h⟩ := guard_out h
      refine SCode.region (show SOps _ _ _ [0, 1, 2, 3, 4, 5, 6, 7, 8, 9, 10, 11, 12, 13, 14, 15] _ _ from ?_)
      refine SOps.q rfl (.plain rfl) rfl (q_move rfl rfl) ?_
      refine SOps.q rfl (.plain rfl) rfl (q_eql rfl rfl rfl) ?_
      refine SOps.q rfl (.plain rfl) rfl (q_move rfl rfl) ?_
      refine SOps.q rfl (.guard 2 50 true rfl rfl (gT g13)) rfl (q_move rfl rfl) ?_
      refine SOps.q rfl (.guard 2 50 true rfl rfl (gT g13)) rfl (q_len_vec rfl rfl sl41) ?_
      refine SOps.q rfl (.guard 2 50 true rfl rfl (gT g13)) rfl (q_eql rfl rfl rfl) ?_
      refine SOps.q rfl (.plain rfl) rfl (q_pick_t rfl rfl g13 rfl) ?_
      refine SOps.q rfl (.plain rfl) rfl (q_move rfl rfl) ?_
      refine SOps.q rfl (.guard 7 55 true rfl rfl (gT g14)) rfl (q_move rfl rfl) ?_
      refine SOps.q rfl (.guard 7 55 true rfl rfl (gT g14)) rfl (q_index_vec rfl rfl rfl sl41 rfl g15.1 g15.2) ?_
      refine SOps.q rfl (.guard 7 55 true rfl rfl (gT g14)) rfl (q_load_eptr_all rfl rfl rfl ty46) ?_
      refine SOps.q rfl (.guard 7 55 true rfl rfl (gT g14)) rfl (q_move rfl rfl) ?_
      refine SOps.q rfl (.guard 7 55 true rfl rfl (gT g14)) rfl (q_build2 rfl rfl pl46 rfl) ?_
      refine SOps.q rfl (.guard 7 55 true rfl rfl (gT g14)) rfl (q_eqAgg (neg := false) rfl (.inl rfl) rfl rfl eqt46 rfl) ?_
      refine SOps.q rfl (.plain rfl) rfl (q_pick_t rfl rfl g14 rfl) ?_
      refine SOps.q rfl (.plain rfl) rfl (q_assign rfl rfl) ?_
      refine SOps.sub (st' := ⟨[(4, .c (.bool ((xor false (decide ((c_1.1.getD (0 : Int).toNat dSStep).At = a0_from) && (decide ((c_1.1.getD (0 : Int).toNat dSStep).Value = 1073741824) && true))))))], []⟩) (sub_gen [] rfl rfl ⟨zc rfl rfl, trivial⟩ trivial) ?_
      refine SOps.nil ?_
      refine SCode.ret ?_
      obtain rfl := Option.some.inj h
      exact ⟨⟨[(4, .c (.bool ((xor false (decide ((c_1.1.getD (0 : Int).toNat dSStep).At = a0_from) && (decide ((c_1.1.getD (0 : Int).toNat dSStep).Value = 1073741824) && true))))))], []⟩, _, sub_gen [] rfl rfl ⟨zc rfl rfl, trivial⟩ trivial, resA1 (v := .c (.bool ((xor false (decide ((c_1.1.getD (0 : Int).toNat dSStep).At = a0_from) && (decide ((c_1.1.getD (0 : Int).toNat dSStep).Value = 1073741824) && true)))))) rfl rfl, rfl⟩
    refine SCode.region (show SOps _ _ _ [0, 1, 2, 3, 4, 5, 6, 7, 8, 9, 10, 11, 12, 13, 14, 15] _ _ from ?_)
    refine SOps.q rfl (.plain rfl) rfl (q_move rfl rfl) ?_
    refine SOps.q rfl (.plain rfl) rfl (q_eql rfl rfl rfl) ?_
    refine SOps.q rfl (.plain rfl) rfl (q_move rfl rfl) ?_
    refine SOps.q rfl (.guard 2 50 true rfl rfl (gT g13)) rfl (q_move rfl rfl) ?_
    refine SOps.q rfl (.guard 2 50 true rfl rfl (gT g13)) rfl (q_len_vec rfl rfl sl41) ?_
    refine SOps.q rfl (.guard 2 50 true rfl rfl (gT g13)) rfl (q_eql rfl rfl rfl) ?_
    refine SOps.q rfl (.plain rfl) rfl (q_pick_t rfl rfl g13 rfl) ?_
    refine SOps.q rfl (.plain rfl) rfl (q_move rfl rfl) ?_
    refine SOps.skip rfl 7 55 true rfl rfl (.inl (gF g14)) rfl ?_
    refine SOps.skip rfl 7 55 true rfl rfl (.inl (gF g14)) rfl ?_
    refine SOps.skip rfl 7 55 true rfl rfl (.inl (gF g14)) rfl ?_
    refine SOps.skip rfl 7 55 true rfl rfl (.inl (gF g14)) rfl ?_
    refine SOps.skip rfl 7 55 true rfl rfl (.inl (gF g14)) rfl ?_
    refine SOps.skip rfl 7 55 true rfl rfl (.inl (gF g14)) rfl ?_
    refine SOps.q rfl (.plain rfl) rfl (q_pick_f rfl rfl g14 rfl) ?_
    refine SOps.q rfl (.plain rfl) rfl (q_assign rfl rfl) ?_
    refine SOps.sub (st' := ⟨[(4, .c (.bool false))], []⟩) (sub_gen [] rfl rfl ⟨zc rfl rfl, trivial⟩ trivial) ?_
    refine SOps.nil ?_
    refine SCode.ret ?_
    obtain rfl := Option.some.inj h
    exact ⟨⟨[(4, .c (.bool false))], []⟩, _, sub_gen [] rfl rfl ⟨zc rfl rfl, trivial⟩ trivial, resA1 (v := .c (.bool false)) rfl rfl, rfl⟩
  refine SCode.region (show SOps _ _ _ [0, 1, 2, 3, 4, 5, 6, 7, 8, 9, 10, 11, 12, 13, 14, 15] _ _ from ?_)
  refine SOps.q rfl (.plain rfl) rfl (q_move rfl rfl) ?_
  refine SOps.q rfl (.plain rfl) rfl (q_eql rfl rfl rfl) ?_
  refine SOps.q rfl (.plain rfl) rfl (q_move rfl rfl) ?_
  refine SOps.skip rfl 2 50 true rfl rfl (.inl (gF g13)) rfl ?_
  refine SOps.skip rfl 2 50 true rfl rfl (.inl (gF g13)) rfl ?_
  refine SOps.skip rfl 2 50 true rfl rfl (.inl (gF g13)) rfl ?_
  refine SOps.q rfl (.plain rfl) rfl (q_pick_f rfl rfl g13 rfl) ?_
  refine SOps.q rfl (.plain rfl) rfl (q_move rfl rfl) ?_
  refine SOps.skip rfl 7 55 true rfl rfl (.inl rfl) rfl ?_
  refine SOps.skip rfl 7 55 true rfl rfl (.inl rfl) rfl ?_
  refine SOps.skip rfl 7 55 true rfl rfl (.inl rfl) rfl ?_
  refine SOps.skip rfl 7 55 true rfl rfl (.inl rfl) rfl ?_
  refine SOps.skip rfl 7 55 true rfl rfl (.inl rfl) rfl ?_
  refine SOps.skip rfl 7 55 true rfl rfl (.inl rfl) rfl ?_
  refine SOps.q rfl (.plain rfl) rfl (q_pick_f rfl rfl rfl rfl) ?_
  refine SOps.q rfl (.plain rfl) rfl (q_assign rfl rfl) ?_
  refine SOps.sub (st' := ⟨[(4, .c (.bool false))], []⟩) (sub_gen [] rfl rfl ⟨zc rfl rfl, trivial⟩ trivial) ?_
  refine SOps.nil ?_
  refine SCode.ret ?_
  obtain rfl := Option.some.inj h
  exact ⟨⟨[(4, .c (.bool false))], []⟩, _, sub_gen [] rfl rfl ⟨zc rfl rfl, trivial⟩ trivial, resA1 (v := .c (.bool false)) rfl rfl, rfl⟩
end Go.Proofs.Ytjpooimkhkhgkaa.W
