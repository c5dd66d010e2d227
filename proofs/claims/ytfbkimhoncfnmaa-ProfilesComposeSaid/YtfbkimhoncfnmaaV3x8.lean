/- Written by a program of ours (wip/eng/gen.py): the functions compute their models. -/
import Derived.Test.YtfbkimhoncfnmaaFacts
import Derived.Test.YtfbkimhoncfnmaaV3x7
namespace Go.Proofs.Ytfbkimhoncfnmaa.W
open Go Go.Proofs Go.Proofs.Ytfbkimhoncfnmaa.E Go.Proofs.Ytfbkimhoncfnmaa.M
set_option linter.unusedVariables false
set_option maxRecDepth 100000 in
set_option maxHeartbeats 8000000 in
theorem profile_Clear_ok (F : Nat) (a0_l : List SProfile) (a1_id : Int) (r : (List SProfile) × Int) (h : profile_Clear F a0_l a1_id = some r) :
    SFun Try.prog 9 [] [.c (.vec a0_l.length 11 (gL cSProfile dSProfile a0_l)), .c (.int .i64 a1_id)] (fun x _ => x = .t [.c (.vec r.1.length 11 (gL cSProfile dSProfile r.1)), .c (.int .i64 r.2)]) := by
  refine SFun.of (n := 32) Try.func9 rfl rfl rfl ?_
  unfold profile_Clear at h
  show SCode _ _ _ ⟨[(0, .c (.vec a0_l.length 11 (gL cSProfile dSProfile a0_l))), (1, .c (.int .i64 a1_id))], []⟩ _
  refine SCode.seq ?_
  refine SCode.region (show SOps _ _ _ [0, 1] _ _ from ?_)
  refine SOps.q rfl (.plain rfl) rfl (q_assign rfl rfl) ?_
  refine SOps.q rfl (.plain rfl) rfl (q_assign rfl rfl) ?_
  refine SOps.sub (st' := ⟨[(0, .c (.vec a0_l.length 11 (gL cSProfile dSProfile a0_l))), (1, .c (.int .i64 a1_id))], []⟩) (sub_gen [] rfl rfl ⟨zc rfl rfl, zc rfl rfl, trivial⟩ trivial) ?_
  refine SOps.nil ?_
  refine SCode.seq ?_
  refine SCode.region (show SOps _ _ _ [0] _ _ from ?_)
  refine SOps.q rfl (.plain rfl) rfl (q_assign rfl rfl) ?_
  refine SOps.nilArrL (T := 29) (k := 11) cSProfile dSProfile (s := 6) rfl rfl ?_
  refine SOps.sub (st' := ⟨[(0, .c (.vec a0_l.length 11 (gL cSProfile dSProfile a0_l))), (1, .c (.int .i64 a1_id)), (6, .c (.own 0 (([] : List SProfile)).length))], [.arr 29 11 (([] : List SProfile)).length (gL cSProfile dSProfile (([] : List SProfile)))]⟩) (sub_gen [0] rfl rfl ⟨zc rfl rfl, zc rfl rfl, zc rfl rfl, trivial⟩ ⟨oa rfl, trivial⟩) ?_
  refine SOps.nil ?_
  refine SCode.join (σ := (List SProfile)) (S := fun s => ⟨[(0, .c (.vec a0_l.length 11 (gL cSProfile dSProfile a0_l))), (6, .c (.own 0 s.length))], [.arr 29 11 s.length (gL cSProfile dSProfile s)]⟩) (g := fun s => profile_Clear_p3 a0_l s = some r) ?_ ?_
  rotate_left
  · refine SCode.seq ?_
    refine SCode.region (show SOps _ _ _ [0, 1, 2] _ _ from ?_)
    refine SOps.q rfl (.plain rfl) rfl (q_move rfl rfl) ?_
    refine SOps.q rfl (.plain rfl) rfl (q_len_vec rfl rfl sl22) ?_
    refine SOps.q rfl (.plain rfl) rfl (q_move rfl rfl) ?_
    refine SOps.sub (st' := ⟨[(0, .c (.vec a0_l.length 11 (gL cSProfile dSProfile a0_l))), (1, .c (.int .i64 a1_id)), (6, .c (.own 0 (([] : List SProfile)).length)), (9, .c (.vec a0_l.length 11 (gL cSProfile dSProfile a0_l))), (10, .c (.int .i64 (((a0_l).length : Int)))), (11, .c (.int .i64 0))], [.arr 29 11 (([] : List SProfile)).length (gL cSProfile dSProfile (([] : List SProfile)))]⟩) (sub_gen [0] rfl rfl ⟨zc rfl rfl, zc rfl rfl, zc rfl rfl, zc rfl rfl, zc rfl rfl, zc rfl rfl, trivial⟩ ⟨oa rfl, trivial⟩) ?_
    refine SOps.nil ?_
    refine SCode.block ?_
    refine SCode.sub (st' := ⟨[(0, .c (.vec a0_l.length 11 (gL cSProfile dSProfile a0_l))), (1, .c (.int .i64 a1_id)), (6, .c (.own 0 ([] : List SProfile).length)), (9, .c (.vec a0_l.length 11 (gL cSProfile dSProfile a0_l))), (10, .c (.int .i64 (((a0_l).length : Int)))), (11, .c (.int .i64 0))], [.arr 29 11 ([] : List SProfile).length (gL cSProfile dSProfile ([] : List SProfile))]⟩) (sub_gen [0] rfl rfl ⟨zc rfl rfl, zc rfl rfl, zc rfl rfl, zc rfl rfl, zc rfl rfl, zc rfl rfl, trivial⟩ ⟨oa rfl, trivial⟩) ?_
    refine (SCode.loop (σ := Nat × (Int × (List SProfile))) (S := fun s => ⟨[(0, .c (.vec a0_l.length 11 (gL cSProfile dSProfile a0_l))), (1, .c (.int .i64 a1_id)), (6, .c (.own 0 s.2.2.length)), (9, .c (.vec a0_l.length 11 (gL cSProfile dSProfile a0_l))), (10, .c (.int .i64 (((a0_l).length : Int)))), (11, .c (.int .i64 s.2.1))], [.arr 29 11 s.2.2.length (gL cSProfile dSProfile s.2.2)]⟩) (g := fun s => profile_Clear_l22 F a0_l a1_id s.1 s.2.1 s.2.2 = some r) (μ := fun s => s.1) (F, (0, ([] : List SProfile))) h ?_)
    rintro ⟨n_22, ⟨t11_12, o0_13⟩⟩ h
    replace h : profile_Clear_l22 F a0_l a1_id n_22 t11_12 o0_13 = some r := h
    show SCode _ _ _ ⟨[(0, .c (.vec a0_l.length 11 (gL cSProfile dSProfile a0_l))), (1, .c (.int .i64 a1_id)), (6, .c (.own 0 o0_13.length)), (9, .c (.vec a0_l.length 11 (gL cSProfile dSProfile a0_l))), (10, .c (.int .i64 (((a0_l).length : Int)))), (11, .c (.int .i64 t11_12))], [.arr 29 11 o0_13.length (gL cSProfile dSProfile o0_13)]⟩ _
    cases n_22 with
    | zero => cases h
    | succ n_22 =>
      replace h : profile_Clear_b22 F a0_l a1_id (fun t11_12 o0_13 => profile_Clear_l22 F a0_l a1_id n_22 t11_12 o0_13) t11_12 o0_13 = some r := h
      unfold profile_Clear_b22 at h
      refine SCode.seq ?_
      refine SCode.region (show SOps _ _ _ [0] _ _ from ?_)
      refine SOps.q rfl (.plain rfl) rfl (q_lss rfl rfl rfl) ?_
      refine SOps.sub (st' := ⟨[(0, .c (.vec a0_l.length 11 (gL cSProfile dSProfile a0_l))), (1, .c (.int .i64 a1_id)), (6, .c (.own 0 o0_13.length)), (9, .c (.vec a0_l.length 11 (gL cSProfile dSProfile a0_l))), (10, .c (.int .i64 (((a0_l).length : Int)))), (11, .c (.int .i64 t11_12)), (12, .c (.bool (decide (t11_12 < ((a0_l).length : Int)))))], [.arr 29 11 o0_13.length (gL cSProfile dSProfile o0_13)]⟩) (sub_gen [0] rfl rfl ⟨zc rfl rfl, zc rfl rfl, zc rfl rfl, zc rfl rfl, zc rfl rfl, zc rfl rfl, zc rfl rfl, trivial⟩ ⟨oa rfl, trivial⟩) ?_
      refine SOps.nil ?_
      refine SCode.seq ?_
      rcases cond_out h with ⟨g23, h⟩ | ⟨g23, h⟩
      · refine SCode.cond_t rfl g23 ?_
        refine SCode.skip ?_
        refine SCode.join (σ := (List SProfile)) (S := fun s => ⟨[(0, .c (.vec a0_l.length 11 (gL cSProfile dSProfile a0_l))), (1, .c (.int .i64 a1_id)), (6, .c (.own 0 s.length)), (9, .c (.vec a0_l.length 11 (gL cSProfile dSProfile a0_l))), (10, .c (.int .i64 (((a0_l).length : Int)))), (11, .c (.int .i64 t11_12))], [.arr 29 11 s.length (gL cSProfile dSProfile s)]⟩) (g := fun s => profile_Clear_p25 t11_12 (fun t11_12 o0_13 => profile_Clear_l22 F a0_l a1_id n_22 t11_12 o0_13) s = some r) ?_ ?_
        rotate_left
        · refine SCode.block ?_
          refine SCode.seq ?_
          obtain ⟨g26, h⟩ := guard_out h
          refine SCode.region (show SOps _ _ _ [0, 1, 2, 3] _ _ from ?_)
          refine SOps.q rfl (.plain rfl) rfl (q_index_vec rfl rfl rfl sl22 rfl g26.1 g26.2) ?_
          refine SOps.q rfl (.plain rfl) rfl (q_load_eptr_all rfl rfl rfl ty29) ?_
          refine SOps.e rfl (.plain rfl) (e_alloc rfl rfl rfl z29) ?_
          refine SOps.e rfl (.plain rfl) (e_store_box rfl rfl rfl rfl rfl ty29 rfl rfl rfl rfl) ?_
          refine SOps.sub (st' := ⟨[(0, .c (.vec a0_l.length 11 (gL cSProfile dSProfile a0_l))), (1, .c (.int .i64 a1_id)), (6, .c (.own 0 o0_13.length)), (8, .c (.ptr 1 0)), (9, .c (.vec a0_l.length 11 (gL cSProfile dSProfile a0_l))), (10, .c (.int .i64 (((a0_l).length : Int)))), (11, .c (.int .i64 t11_12))], [.arr 29 11 o0_13.length (gL cSProfile dSProfile o0_13), .box [.int .i64 ((a0_l.getD t11_12.toNat dSProfile).ID), .int .i64 ((a0_l.getD t11_12.toNat dSProfile).Level), .int .i64 ((a0_l.getD t11_12.toNat dSProfile).Purpose), .int .i64 ((a0_l.getD t11_12.toNat dSProfile).Kind), .int .i64 ((a0_l.getD t11_12.toNat dSProfile).Conn), .str ((a0_l.getD t11_12.toNat dSProfile).Txn), .int .i64 ((a0_l.getD t11_12.toNat dSProfile).Span_From), .int .i64 ((a0_l.getD t11_12.toNat dSProfile).Span_To), .int .i64 ((a0_l.getD t11_12.toNat dSProfile).Start), .int .i64 ((a0_l.getD t11_12.toNat dSProfile).Duration), .vec ((a0_l.getD t11_12.toNat dSProfile).Periods).length 2 (gL cSPeriod dSPeriod ((a0_l.getD t11_12.toNat dSProfile).Periods))]]⟩) (sub_gen [0, 1] rfl rfl ⟨zc rfl rfl, zc rfl rfl, zc rfl rfl, zc rfl rfl, zc rfl rfl, zc rfl rfl, zc rfl rfl, trivial⟩ ⟨oa rfl, ⟨_, rfl, ⟨ii rfl rfl, ii rfl rfl, ii rfl rfl, ii rfl rfl, ii rfl rfl, ii rfl rfl, ii rfl rfl, ii rfl rfl, ii rfl rfl, ii rfl rfl, ii rfl rfl, trivial⟩⟩, trivial⟩) ?_
          refine SOps.nil ?_
          refine SCode.seq ?_
          refine SCode.region (show SOps _ _ _ [0, 1, 2, 3] _ _ from ?_)
          refine SOps.q rfl (.plain rfl) rfl (q_field_ptr rfl rfl fd29_0) ?_
          refine SOps.q rfl (.plain rfl) rfl (q_load_ptr rfl rfl rfl rfl ty3) ?_
          refine SOps.q rfl (.plain rfl) rfl (q_move rfl rfl) ?_
          refine SOps.q rfl (.plain rfl) rfl (q_neq rfl rfl rfl) ?_
          refine SOps.sub (st' := ⟨[(0, .c (.vec a0_l.length 11 (gL cSProfile dSProfile a0_l))), (1, .c (.int .i64 a1_id)), (6, .c (.own 0 o0_13.length)), (8, .c (.ptr 1 0)), (9, .c (.vec a0_l.length 11 (gL cSProfile dSProfile a0_l))), (10, .c (.int .i64 (((a0_l).length : Int)))), (11, .c (.int .i64 t11_12)), (18, .c (.bool ((!decide ((a0_l.getD t11_12.toNat dSProfile).ID = a1_id)))))], [.arr 29 11 o0_13.length (gL cSProfile dSProfile o0_13), .box [.int .i64 ((a0_l.getD t11_12.toNat dSProfile).ID), .int .i64 ((a0_l.getD t11_12.toNat dSProfile).Level), .int .i64 ((a0_l.getD t11_12.toNat dSProfile).Purpose), .int .i64 ((a0_l.getD t11_12.toNat dSProfile).Kind), .int .i64 ((a0_l.getD t11_12.toNat dSProfile).Conn), .str ((a0_l.getD t11_12.toNat dSProfile).Txn), .int .i64 ((a0_l.getD t11_12.toNat dSProfile).Span_From), .int .i64 ((a0_l.getD t11_12.toNat dSProfile).Span_To), .int .i64 ((a0_l.getD t11_12.toNat dSProfile).Start), .int .i64 ((a0_l.getD t11_12.toNat dSProfile).Duration), .vec ((a0_l.getD t11_12.toNat dSProfile).Periods).length 2 (gL cSPeriod dSPeriod ((a0_l.getD t11_12.toNat dSProfile).Periods))]]⟩) (sub_gen [0, 1] rfl rfl ⟨zc rfl rfl, zc rfl rfl, zc rfl rfl, zc rfl rfl, zc rfl rfl, zc rfl rfl, zc rfl rfl, zc rfl rfl, trivial⟩ ⟨oa rfl, ⟨_, rfl, ⟨ii rfl rfl, ii rfl rfl, ii rfl rfl, ii rfl rfl, ii rfl rfl, ii rfl rfl, ii rfl rfl, ii rfl rfl, ii rfl rfl, ii rfl rfl, ii rfl rfl, trivial⟩⟩, trivial⟩) ?_
          refine SOps.nil ?_
          rcases cond_out h with ⟨g27, h⟩ | ⟨g27, h⟩
          · refine SCode.cond_t rfl g27 ?_
            obtain ⟨c_28, g29, h⟩ := bind_out h
            try dsimp only at h
            obtain ⟨g30, h⟩ := guard_out h
            refine SCode.region (show SOps _ _ _ [0, 1, 2, 3, 4, 5] _ _ from ?_)
            refine SOps.q rfl (.plain rfl) rfl (q_move rfl rfl) ?_
            refine SOps.q rfl (.plain rfl) rfl (q_load_ptr_all rfl rfl rfl rfl rfl ty29) ?_
            refine SOps.q rfl (.plain rfl) rfl (q_call (profile_clone_ok F (a0_l.getD t11_12.toNat dSProfile) c_28 g29) [] rfl fn15 ⟨⟨rfl, rfl⟩, trivial⟩ (.inl rfl)) ?_
            refine SOps.q rfl (.plain rfl) rfl (q_bsliceL (c := cSProfile) (d0 := dSProfile) [c_28] rfl rfl sl22 z29 rfl rfl rfl rfl rfl rfl rfl) ?_
            refine SOps.e rfl (.plain rfl) (e_appendL (c := cSProfile) (d0 := dSProfile) (l := o0_13) (l2 := [c_28]) rfl rfl rfl rfl rfl rfl (.inl rfl) sl22 z29 rfl rfl oneSProfile g30.1 g30.2) ?_
            refine SOps.q rfl (.plain rfl) rfl (q_assign rfl rfl) ?_
            refine SOps.sub (st' := ⟨[(0, .c (.vec a0_l.length 11 (gL cSProfile dSProfile a0_l))), (1, .c (.int .i64 a1_id)), (6, .c (.own 0 (o0_13 ++ ([c_28])).length)), (9, .c (.vec a0_l.length 11 (gL cSProfile dSProfile a0_l))), (10, .c (.int .i64 (((a0_l).length : Int)))), (11, .c (.int .i64 t11_12))], [.arr 29 11 (o0_13 ++ ([c_28])).length (gL cSProfile dSProfile (o0_13 ++ ([c_28])))]⟩) (sub_gen [2] rfl rfl ⟨zc rfl rfl, zc rfl rfl, zc rfl rfl, zc rfl rfl, zc rfl rfl, zc rfl rfl, trivial⟩ ⟨oa rfl, trivial⟩) ?_
            refine SOps.nil ?_
            exact ⟨o0_13 ++ ([c_28]), h, sub_gen [0] rfl rfl ⟨zc rfl rfl, zc rfl rfl, zc rfl rfl, zc rfl rfl, zc rfl rfl, zc rfl rfl, trivial⟩ ⟨oa rfl, trivial⟩⟩
          refine SCode.cond_f rfl g27 ?_
          refine SCode.skip ?_
          exact ⟨o0_13, h, sub_gen [0] rfl rfl ⟨zc rfl rfl, zc rfl rfl, zc rfl rfl, zc rfl rfl, zc rfl rfl, zc rfl rfl, trivial⟩ ⟨oa rfl, trivial⟩⟩
        rintro o0_24 h
        show SCode _ _ _ ⟨[(0, .c (.vec a0_l.length 11 (gL cSProfile dSProfile a0_l))), (1, .c (.int .i64 a1_id)), (6, .c (.own 0 o0_24.length)), (9, .c (.vec a0_l.length 11 (gL cSProfile dSProfile a0_l))), (10, .c (.int .i64 (((a0_l).length : Int)))), (11, .c (.int .i64 t11_12))], [.arr 29 11 o0_24.length (gL cSProfile dSProfile o0_24)]⟩ _
        replace h : profile_Clear_p25 t11_12 (fun t11_12 o0_13 => profile_Clear_l22 F a0_l a1_id n_22 t11_12 o0_13) o0_24 = some r := h
        unfold profile_Clear_p25 at h
        refine SCode.region (show SOps _ _ _ [0, 1] _ _ from ?_)
        refine SOps.q rfl (.plain rfl) rfl (q_add rfl rfl rfl) ?_
        refine SOps.q rfl (.plain rfl) rfl (q_move rfl rfl) ?_
        refine SOps.sub (st' := ⟨[(0, .c (.vec a0_l.length 11 (gL cSProfile dSProfile a0_l))), (1, .c (.int .i64 a1_id)), (6, .c (.own 0 o0_24.length)), (9, .c (.vec a0_l.length 11 (gL cSProfile dSProfile a0_l))), (10, .c (.int .i64 (((a0_l).length : Int)))), (11, .c (.int .i64 (IntKind.wrap .i64 (t11_12 + 1))))], [.arr 29 11 o0_24.length (gL cSProfile dSProfile o0_24)]⟩) (sub_gen [0] rfl rfl ⟨zc rfl rfl, zc rfl rfl, zc rfl rfl, zc rfl rfl, zc rfl rfl, zc rfl rfl, trivial⟩ ⟨oa rfl, trivial⟩) ?_
        refine SOps.nil ?_
        exact ⟨(n_22, (IntKind.wrap .i64 (t11_12 + 1), o0_24)), h, Nat.lt_succ_self n_22, sub_gen [0] rfl rfl ⟨zc rfl rfl, zc rfl rfl, zc rfl rfl, zc rfl rfl, zc rfl rfl, zc rfl rfl, trivial⟩ ⟨oa rfl, trivial⟩⟩
      refine SCode.cond_f rfl g23 ?_
      refine SCode.exit ?_
      exact ⟨o0_13, h, sub_gen [0] rfl rfl ⟨zc rfl rfl, zc rfl rfl, trivial⟩ ⟨oa rfl, trivial⟩⟩
  rintro o0_1 h
  show SCode _ _ _ ⟨[(0, .c (.vec a0_l.length 11 (gL cSProfile dSProfile a0_l))), (6, .c (.own 0 o0_1.length))], [.arr 29 11 o0_1.length (gL cSProfile dSProfile o0_1)]⟩ _
  replace h : profile_Clear_p3 a0_l o0_1 = some r := h
  unfold profile_Clear_p3 at h
  refine SCode.seq ?_
  refine SCode.seq ?_
  refine SCode.region (show SOps _ _ _ [0, 1, 2, 3, 4] _ _ from ?_)
  refine SOps.q rfl (.plain rfl) rfl (q_move rfl rfl) ?_
  refine SOps.q rfl (.plain rfl) rfl (q_len_own rfl rfl sl22) ?_
  refine SOps.q rfl (.plain rfl) rfl (q_move rfl rfl) ?_
  refine SOps.q rfl (.plain rfl) rfl (q_len_vec rfl rfl sl22) ?_
  refine SOps.q rfl (.plain rfl) rfl (q_eql rfl rfl rfl) ?_
  refine SOps.sub (st' := ⟨[(0, .c (.vec a0_l.length 11 (gL cSProfile dSProfile a0_l))), (6, .c (.own 0 o0_1.length)), (29, .c (.bool (decide (((o0_1).length : Int) = ((a0_l).length : Int)))))], [.arr 29 11 o0_1.length (gL cSProfile dSProfile o0_1)]⟩) (sub_gen [0] rfl rfl ⟨zc rfl rfl, zc rfl rfl, zc rfl rfl, trivial⟩ ⟨oa rfl, trivial⟩) ?_
  refine SOps.nil ?_
  rcases cond_out h with ⟨g2, h⟩ | ⟨g2, h⟩
  · refine SCode.cond_t rfl g2 ?_
    refine SCode.seq ?_
    refine SCode.region (show SOps _ _ _ [0, 1, 2] _ _ from ?_)
    refine SOps.q rfl (.plain rfl) rfl (q_move rfl rfl) ?_
    refine SOps.q rfl (.plain rfl) rfl (q_assign rfl rfl) ?_
    refine SOps.q rfl (.plain rfl) rfl (q_assign rfl rfl) ?_
    refine SOps.sub (st' := ⟨[(4, .c (.vec a0_l.length 11 (gL cSProfile dSProfile a0_l))), (5, .c (.int .i64 8))], []⟩) (sub_gen [] rfl rfl ⟨zc rfl rfl, zc rfl rfl, trivial⟩ trivial) ?_
    refine SOps.nil ?_
    refine SCode.ret ?_
    obtain rfl := Option.some.inj h
    exact ⟨⟨[(4, .c (.vec a0_l.length 11 (gL cSProfile dSProfile a0_l))), (5, .c (.int .i64 8))], []⟩, _, sub_gen [] rfl rfl ⟨zc rfl rfl, zc rfl rfl, trivial⟩ trivial, resA2 (v1 := .c (.vec a0_l.length 11 (gL cSProfile dSProfile a0_l))) (v2 := .c (.int .i64 8)) rfl rfl rfl, rfl⟩
  refine SCode.cond_f rfl g2 ?_
  refine SCode.skip ?_
  refine SCode.seq ?_
  refine SCode.region (show SOps _ _ _ [0, 1, 2] _ _ from ?_)
  refine SOps.q rfl (.plain rfl) rfl (q_move rfl rfl) ?_
  refine SOps.q rfl (.plain rfl) rfl (q_assign rfl rfl) ?_
  refine SOps.q rfl (.plain rfl) rfl (q_assign rfl rfl) ?_
  refine SOps.sub (st' := ⟨[(4, .c (.own 0 o0_1.length)), (5, .c (.int .i64 0))], [.arr 29 11 o0_1.length (gL cSProfile dSProfile o0_1)]⟩) (sub_gen [0] rfl rfl ⟨zc rfl rfl, zc rfl rfl, trivial⟩ ⟨oa rfl, trivial⟩) ?_
  refine SOps.nil ?_
  refine SCode.ret ?_
  obtain rfl := Option.some.inj h
  exact ⟨⟨[(4, .c (.vec o0_1.length 11 (gL cSProfile dSProfile o0_1))), (5, .c (.int .i64 0))], []⟩, _, sub_gen [] rfl rfl ⟨⟨_, rfl, .inr (.inl ⟨_, _, _, _, _, _, _, rfl, rfl, rfl, Nat.le_refl _, fun _ _ _ _ => rfl, by decide⟩)⟩, zc rfl rfl, trivial⟩ trivial, resA2 (v1 := .c (.vec o0_1.length 11 (gL cSProfile dSProfile o0_1))) (v2 := .c (.int .i64 0)) rfl rfl rfl, rfl⟩
set_option maxRecDepth 100000 in
set_option maxHeartbeats 8000000 in
theorem compose_Why_ok (F : Nat) (a0_l : List SProfile) (a1_conn : Int) (a2_txn : ByteArray) (a3_start : Int) (a4_t : Int) (r : Int × Bool) (h : compose_Why F a0_l a1_conn a2_txn a3_start a4_t = some r) :
    SFun Try.prog 10 [] [.c (.vec a0_l.length 11 (gL cSProfile dSProfile a0_l)), .c (.int .i64 a1_conn), .c (.str a2_txn), .c (.int .i64 a3_start), .c (.int .i64 a4_t)] (fun x _ => x = .t [.c (.int .i64 r.1), .c (.bool r.2)]) := by
  refine SFun.of (n := 27) Try.func10 rfl rfl rfl ?_
  unfold compose_Why at h
  show SCode _ _ _ ⟨[(0, .c (.vec a0_l.length 11 (gL cSProfile dSProfile a0_l))), (1, .c (.int .i64 a1_conn)), (2, .c (.str a2_txn)), (3, .c (.int .i64 a3_start)), (4, .c (.int .i64 a4_t))], []⟩ _
  refine SCode.seq ?_
  refine SCode.region (show SOps _ _ _ [0, 1] _ _ from ?_)
  refine SOps.q rfl (.plain rfl) rfl (q_assign rfl rfl) ?_
  refine SOps.q rfl (.plain rfl) rfl (q_assign rfl rfl) ?_
  refine SOps.sub (st' := ⟨[(0, .c (.vec a0_l.length 11 (gL cSProfile dSProfile a0_l))), (1, .c (.int .i64 a1_conn)), (2, .c (.str a2_txn)), (3, .c (.int .i64 a3_start)), (4, .c (.int .i64 a4_t))], []⟩) (sub_gen [] rfl rfl ⟨zc rfl rfl, zc rfl rfl, zc rfl rfl, zc rfl rfl, zc rfl rfl, trivial⟩ trivial) ?_
  refine SOps.nil ?_
  refine SCode.seq ?_
  obtain ⟨c_1, g2, h⟩ := bind_out h
  try dsimp only at h
  obtain ⟨c_3, g4, h⟩ := bind_out h
  try dsimp only at h
  refine SCode.region (show SOps _ _ _ [0, 1, 2, 3, 4, 5, 6, 7, 8, 9, 10, 11, 12] _ _ from ?_)
  refine SOps.q rfl (.plain rfl) rfl (q_move rfl rfl) ?_
  refine SOps.q rfl (.plain rfl) rfl (q_move rfl rfl) ?_
  refine SOps.q rfl (.plain rfl) rfl (q_move rfl rfl) ?_
  refine SOps.q rfl (.plain rfl) rfl (q_call (compose_candidates_ok F a0_l a1_conn a2_txn c_1 g2) [] rfl fn16 ⟨⟨_, rfl, .inl ⟨rfl, rfl⟩⟩, ⟨_, rfl, .inl ⟨rfl, rfl⟩⟩, ⟨_, rfl, .inl ⟨rfl, rfl⟩⟩, trivial⟩ (.inl rfl)) ?_
  refine SOps.q rfl (.plain rfl) rfl (q_move rfl rfl) ?_
  refine SOps.q rfl (.plain rfl) rfl (q_move rfl rfl) ?_
  refine SOps.q rfl (.plain rfl) rfl (q_call (compose_determining_ok F c_1 a3_start a4_t c_3 g4) [] rfl fn21 ⟨⟨_, rfl, .inl ⟨rfl, rfl⟩⟩, ⟨_, rfl, .inl ⟨rfl, rfl⟩⟩, ⟨_, rfl, .inl ⟨rfl, rfl⟩⟩, trivial⟩ (.inl rfl)) ?_
  refine SOps.q rfl (.plain rfl) rfl (q_move rfl rfl) ?_
  refine SOps.q rfl (.plain rfl) rfl (q_extract rfl rfl rfl) ?_
  refine SOps.q rfl (.plain rfl) rfl (q_extract rfl rfl rfl) ?_
  refine SOps.e rfl (.plain rfl) (e_alloc rfl rfl rfl z56) ?_
  refine SOps.e rfl (.plain rfl) (e_store_box rfl rfl rfl rfl rfl ty56 rfl rfl rfl rfl) ?_
  refine SOps.q rfl (.plain rfl) rfl (q_assign rfl rfl) ?_
  refine SOps.sub (st' := ⟨[(12, .c (.ptr 0 0)), (13, .c (.bool c_3.2))], [.box [.int .i64 c_3.1.id, .int .i64 c_3.1.level, .int .i64 c_3.1.limit]]⟩) (sub_gen [0] rfl rfl ⟨zc rfl rfl, zc rfl rfl, trivial⟩ ⟨⟨_, rfl, ⟨ii rfl rfl, ii rfl rfl, ii rfl rfl, trivial⟩⟩, trivial⟩) ?_
  refine SOps.nil ?_
  refine SCode.seq ?_
  refine SCode.region (show SOps _ _ _ [0, 1, 2, 3, 4] _ _ from ?_)
  refine SOps.q rfl (.plain rfl) rfl (q_field_ptr rfl rfl fd56_0) ?_
  refine SOps.q rfl (.plain rfl) rfl (q_load_ptr rfl rfl rfl rfl ty3) ?_
  refine SOps.q rfl (.plain rfl) rfl (q_move rfl rfl) ?_
  refine SOps.q rfl (.plain rfl) rfl (q_assign rfl rfl) ?_
  refine SOps.q rfl (.plain rfl) rfl (q_assign rfl rfl) ?_
  refine SOps.sub (st' := ⟨[(10, .c (.int .i64 c_3.1.id)), (11, .c (.bool c_3.2))], []⟩) (sub_gen [] rfl rfl ⟨zc rfl rfl, zc rfl rfl, trivial⟩ trivial) ?_
  refine SOps.nil ?_
  refine SCode.ret ?_
  obtain rfl := Option.some.inj h
  exact ⟨⟨[(10, .c (.int .i64 c_3.1.id)), (11, .c (.bool c_3.2))], []⟩, _, sub_gen [] rfl rfl ⟨zc rfl rfl, zc rfl rfl, trivial⟩ trivial, resA2 (v1 := .c (.int .i64 c_3.1.id)) (v2 := .c (.bool c_3.2)) rfl rfl rfl, rfl⟩
end Go.Proofs.Ytfbkimhoncfnmaa.W
