/- Written by a program of ours (wip/eng/gen.py): the functions compute their models. -/
import Derived.Test.YtoncfkdgddfnlaaFacts
import Derived.Test.YtoncfkdgddfnlaaV5x2
namespace Go.Proofs.Ytoncfkdgddfnlaa.W
open Go Go.Proofs Go.Proofs.Ytoncfkdgddfnlaa.E Go.Proofs.Ytoncfkdgddfnlaa.M
set_option linter.unusedVariables false
set_option maxRecDepth 100000
set_option maxHeartbeats 8000000
theorem settle_Owed_ok (F : Nat) (a0_l : List SCDR) (a1_ds : List SDispute) (a2_creditor : ByteArray) (a3_debtor : ByteArray) (a4_currency : ByteArray) (a5_s : SSpan) (r : Int × Int) (h : settle_Owed F a0_l a1_ds a2_creditor a3_debtor a4_currency a5_s = some r) :
  SFun Try.prog 15 [] [.c (vSCDR a0_l), .c (vSDispute a1_ds), .c (.str a2_creditor), .c (.str a3_debtor), .c (.str a4_currency), .a (bSSpan a5_s)] (fun x _ => x = .t [.c (.int .i64 r.1), .c (.int .i64 r.2)]) := by
 refine SFun.of (n := 100) Try.func15 rfl rfl rfl ?_
 unfold settle_Owed at h
 show SCode _ _ _ ⟨[(0, .c (vSCDR a0_l)), (1, .c (vSDispute a1_ds)), (2, .c (.str a2_creditor)), (3, .c (.str a3_debtor)), (4, .c (.str a4_currency)), (5, .a (bSSpan a5_s))], []⟩ _
 refine SCode.seq (SCode.region (se rfl rfl (e_box rfl rfl rfl rfl rfl rfl) (sa rfl rfl (sa rfl rfl (SOps.nil (SCode.seq (SCode.seq ?_)))))))
 obtain ⟨c_1, g2, h⟩ := bind_out h
 try dsimp only at h
 refine SCode.region (sm rfl rfl (sm rfl rfl (sm rfl rfl (sm rfl rfl (sm rfl rfl (sq rfl rfl (q_load_ptr_all rfl rfl rfl rfl rfl ty39) (sq rfl rfl (q_call (settle_check_ok F a0_l a1_ds a2_creditor a3_debtor a4_currency a5_s c_1 g2) [] rfl fn28 ⟨⟨_, rfl, .inl ⟨rfl, rfl⟩⟩, ⟨_, rfl, .inl ⟨rfl, rfl⟩⟩, ⟨_, rfl, .inl ⟨rfl, rfl⟩⟩, ⟨_, rfl, .inl ⟨rfl, rfl⟩⟩, ⟨_, rfl, .inl ⟨rfl, rfl⟩⟩, ⟨rfl, rfl⟩, trivial⟩ (.inl rfl)) (sa rfl rfl (SOps.nil (SCode.seq (SCode.region (sm rfl rfl (sq rfl rfl (q_neq rfl rfl rfl) (SOps.nil ?_))))))))))))))
 rcases cond_out h with ⟨g3, h⟩ | ⟨g3, h⟩
 ·refine SCode.cond_t rfl g3 (SCode.seq (SCode.region (sm rfl rfl (sa rfl rfl (sa rfl rfl (SOps.nil (SCode.ret ?_)))))))
  obtain rfl := Option.some.inj h
  exact ⟨⟨[(12, ci 0), (13, ci c_1)], []⟩, _, sub_gen [] rfl rfl (zall rfl rfl) trivial, resA2 (v1 := .c (.int .i64 0)) (v2 := .c (.int .i64 c_1)) rfl rfl rfl, rfl⟩
 refine SCode.cond_f rfl g3 (SCode.skip (SCode.seq ?_))
 obtain ⟨c_4, g5, h⟩ := bind_out h
 try dsimp only at h
 refine SCode.region (sm rfl rfl (se rfl rfl (e_call (settle_grants_own_ok F a1_ds c_4 g5) [] rfl fn29 rfl rfl rfl rfl rfl rfl rfl rfl) (sa rfl rfl (SOps.nil (SCode.seq (SCode.region (sa rfl rfl (SOps.nilArrL (T := 3) (k := 1) (cInt .i64) 0 (s := 16) rfl rfl (SOps.nil ?_)))))))))
 let S21 := fun (o0_6 : List Int) => (⟨[(16, .c (.own 0 o0_6.length))], [aI 3 o0_6]⟩ : St)
 refine SCode.join (σ := (List Int)) (S := fun s => (S21 s)) (g := fun s => settle_Owed_p10 F s = some r) ?_ ?_
 rotate_left
 ·refine SCode.seq (SCode.region (sm rfl rfl (sq rfl rfl (q_len_vec rfl rfl sl36) (sm rfl rfl (SOps.sub (st' := ⟨[(2, .c (.str a2_creditor)), (3, .c (.str a3_debtor)), (4, .c (.str a4_currency)), (11, .c (.ptr 0 0)), (15, .c (.mp 1)), (16, .c (.own 2 (([] : List Int)).length)), (36, .c (vSCDR a0_l)), (37, ci (((a0_l).length : Int))), (38, ci 0)], [.box (bSSpan a5_s), .map c_4.length (kG c_4) (vG (mA 6 cSDispute) dSDispute c_4), aI 3 (([] : List Int))]⟩) (sub_gen [0, 1, 2] rfl rfl (zall rfl rfl) ⟨bx rfl rfl rfl, rfl, oa rfl, trivial⟩) (SOps.nil (SCode.block ?_)))))))
  let S20 := fun (t38_27 : Int) => fun (o2_28 : List Int) => (⟨[(2, .c (.str a2_creditor)), (3, .c (.str a3_debtor)), (4, .c (.str a4_currency)), (11, .c (.ptr 0 0)), (15, .c (.mp 1)), (16, .c (.own 2 o2_28.length)), (36, .c (vSCDR a0_l)), (37, ci (((a0_l).length : Int))), (38, ci t38_27)], [.box (bSSpan a5_s), .map c_4.length (kG c_4) (vG (mA 6 cSDispute) dSDispute c_4), aI 3 o2_28]⟩ : St)
  refine SCode.sub (st' := (S20 0 (([] : List Int)))) (sub_gen [0, 1, 2] rfl rfl (zall rfl rfl) ⟨bx rfl rfl rfl, rfl, oa rfl, trivial⟩) ?_
  refine (SCode.loop (σ := Nat × (Int × (List Int))) (S := fun s => (S20 s.2.1 s.2.2)) (g := fun s => settle_Owed_l45 F a0_l a2_creditor a3_debtor a4_currency a5_s c_4 s.1 s.2.1 s.2.2 = some r) (μ := fun s => s.1) (F, (0, ([] : List Int))) h ?_)
  rintro ⟨n_45, ⟨t38_27, o2_28⟩⟩ h
  try dsimp only at h
  show SCode _ _ _ (S20 t38_27 o2_28) _
  cases n_45 with
  | zero => cases h
  | succ n_45 =>
   rw [settle_Owed_l45] at h
   unfold settle_Owed_b45 at h
   refine SCode.seq (SCode.region (sq rfl rfl (q_lss rfl rfl rfl) (SOps.nil (SCode.seq ?_))))
   rcases cond_out h with ⟨g46, h⟩ | ⟨g46, h⟩
   ·refine SCode.cond_t rfl g46 (SCode.skip ?_)
    let S19 := fun (o2_47 : List Int) => (⟨[(2, .c (.str a2_creditor)), (3, .c (.str a3_debtor)), (4, .c (.str a4_currency)), (11, .c (.ptr 0 0)), (15, .c (.mp 1)), (16, .c (.own 2 o2_47.length)), (36, .c (vSCDR a0_l)), (37, ci (((a0_l).length : Int))), (38, ci t38_27)], [.box (bSSpan a5_s), .map c_4.length (kG c_4) (vG (mA 6 cSDispute) dSDispute c_4), aI 3 o2_47]⟩ : St)
    refine SCode.join (σ := (List Int)) (S := fun s => (S19 s)) (g := fun s => settle_Owed_p48 t38_27 (fun t38_27 o2_28 => settle_Owed_l45 F a0_l a2_creditor a3_debtor a4_currency a5_s c_4 n_45 t38_27 o2_28) s = some r) ?_ ?_
    rotate_left
    ·refine SCode.block (SCode.seq ?_)
     obtain ⟨g49, h⟩ := guard_out h
     refine SCode.region (sq rfl rfl (q_index_vec rfl rfl rfl sl36 rfl g49.1 g49.2) (sq rfl rfl (q_load_eptr_all rfl rfl rfl ty47) (se rfl rfl (e_alloc rfl rfl rfl z47) (se rfl rfl (e_store_box rfl rfl rfl rfl rfl ty47 rfl rfl rfl rfl) (SOps.nil (SCode.seq (SCode.seq ?_)))))))
     rcases cond_out h with ⟨g50, h⟩ | ⟨g50, h⟩
     ·refine SCode.region (sq rfl rfl (q_field_ptr rfl rfl fd47_1) (sq rfl rfl (q_load_ptr rfl rfl rfl rfl ty9) (sm rfl rfl (sq rfl rfl (q_neqS rfl rfl rfl) (sm rfl rfl (SOps.skip rfl 4 46 false rfl rfl (.inl (gT g50)) rfl (SOps.skip rfl 4 46 false rfl rfl (.inl (gT g50)) rfl (SOps.skip rfl 4 46 false rfl rfl (.inl (gT g50)) rfl (SOps.skip rfl 4 46 false rfl rfl (.inl (gT g50)) rfl (sq rfl rfl (q_pick_t rfl rfl g50 rfl) (sm rfl rfl (SOps.skip rfl 10 52 false rfl rfl (.inl rfl) rfl (SOps.skip rfl 10 52 false rfl rfl (.inl rfl) rfl (SOps.skip rfl 10 52 false rfl rfl (.inl rfl) rfl (SOps.skip rfl 10 52 false rfl rfl (.inl rfl) rfl ?_)))))))))))))))
      refine sq rfl rfl (q_pick_t rfl rfl rfl rfl) (sm rfl rfl (SOps.skip rfl 16 58 false rfl rfl (.inl rfl) rfl (SOps.skip rfl 16 58 false rfl rfl (.inl rfl) rfl (SOps.skip rfl 16 58 false rfl rfl (.inl rfl) rfl (SOps.skip rfl 16 58 false rfl rfl (.inl rfl) rfl (SOps.skip rfl 16 58 false rfl rfl (.inl rfl) rfl (sq rfl rfl (q_pick_t rfl rfl rfl rfl) (sm rfl rfl (SOps.skip rfl 23 65 false rfl rfl (.inl rfl) rfl (SOps.skip rfl 23 65 false rfl rfl (.inl rfl) rfl (SOps.skip rfl 23 65 false rfl rfl (.inl rfl) rfl (SOps.skip rfl 23 65 false rfl rfl (.inl rfl) rfl (SOps.skip rfl 23 65 false rfl rfl (.inl rfl) rfl (sq rfl rfl (q_pick_t rfl rfl rfl rfl) (SOps.sub (st' := ⟨[(2, .c (.str a2_creditor)), (3, .c (.str a3_debtor)), (4, .c (.str a4_currency)), (11, .c (.ptr 0 0)), (15, .c (.mp 1)), (16, .c (.own 2 o2_28.length)), (18, .c (.ptr 3 0)), (36, .c (vSCDR a0_l)), (37, ci (((a0_l).length : Int))), (38, ci t38_27), (71, .c (.bool true))], [.box (bSSpan a5_s), .map c_4.length (kG c_4) (vG (mA 6 cSDispute) dSDispute c_4), aI 3 o2_28, .box (bSCDR (a0_l.getD t38_27.toNat dSCDR))]⟩) (sub_gen [0, 1, 2, 3] rfl rfl (zall rfl rfl) ⟨bx rfl rfl rfl, rfl, oa rfl, bx rfl rfl rfl, trivial⟩) ?_)))))))))))))))
      refine SOps.nil (SCode.cond_t rfl rfl (SCode.exit ?_))
      exact ⟨o2_28, h, sub_gen [0, 1, 2] rfl rfl (zall rfl rfl) ⟨bx rfl rfl rfl, rfl, oa rfl, trivial⟩⟩
     rcases cond_out h with ⟨g51, h⟩ | ⟨g51, h⟩
     ·refine SCode.region (sq rfl rfl (q_field_ptr rfl rfl fd47_1) (sq rfl rfl (q_load_ptr rfl rfl rfl rfl ty9) (sm rfl rfl (sq rfl rfl (q_neqS rfl rfl rfl) (sm rfl rfl (SOps.q rfl (.guard 4 46 false rfl rfl (gF g50)) rfl (q_field_ptr rfl rfl fd47_2) (SOps.q rfl (.guard 4 46 false rfl rfl (gF g50)) rfl (q_load_ptr rfl rfl rfl rfl ty9) (SOps.q rfl (.guard 4 46 false rfl rfl (gF g50)) rfl (q_move rfl rfl) (SOps.q rfl (.guard 4 46 false rfl rfl (gF g50)) rfl (q_neqS rfl rfl rfl) (sq rfl rfl (q_pick_f rfl rfl g50 rfl) (sm rfl rfl (SOps.skip rfl 10 52 false rfl rfl (.inl (gT g51)) rfl (SOps.skip rfl 10 52 false rfl rfl (.inl (gT g51)) rfl (SOps.skip rfl 10 52 false rfl rfl (.inl (gT g51)) rfl (SOps.skip rfl 10 52 false rfl rfl (.inl (gT g51)) rfl ?_)))))))))))))))
      refine sq rfl rfl (q_pick_t rfl rfl g51 rfl) (sm rfl rfl (SOps.skip rfl 16 58 false rfl rfl (.inl rfl) rfl (SOps.skip rfl 16 58 false rfl rfl (.inl rfl) rfl (SOps.skip rfl 16 58 false rfl rfl (.inl rfl) rfl (SOps.skip rfl 16 58 false rfl rfl (.inl rfl) rfl (SOps.skip rfl 16 58 false rfl rfl (.inl rfl) rfl (sq rfl rfl (q_pick_t rfl rfl rfl rfl) (sm rfl rfl (SOps.skip rfl 23 65 false rfl rfl (.inl rfl) rfl (SOps.skip rfl 23 65 false rfl rfl (.inl rfl) rfl (SOps.skip rfl 23 65 false rfl rfl (.inl rfl) rfl (SOps.skip rfl 23 65 false rfl rfl (.inl rfl) rfl (SOps.skip rfl 23 65 false rfl rfl (.inl rfl) rfl (sq rfl rfl (q_pick_t rfl rfl rfl rfl) (SOps.sub (st' := ⟨[(2, .c (.str a2_creditor)), (3, .c (.str a3_debtor)), (4, .c (.str a4_currency)), (11, .c (.ptr 0 0)), (15, .c (.mp 1)), (16, .c (.own 2 o2_28.length)), (18, .c (.ptr 3 0)), (36, .c (vSCDR a0_l)), (37, ci (((a0_l).length : Int))), (38, ci t38_27), (71, .c (.bool true))], [.box (bSSpan a5_s), .map c_4.length (kG c_4) (vG (mA 6 cSDispute) dSDispute c_4), aI 3 o2_28, .box (bSCDR (a0_l.getD t38_27.toNat dSCDR))]⟩) (sub_gen [0, 1, 2, 3] rfl rfl (zall rfl rfl) ⟨bx rfl rfl rfl, rfl, oa rfl, bx rfl rfl rfl, trivial⟩) ?_)))))))))))))))
      refine SOps.nil (SCode.cond_t rfl rfl (SCode.exit ?_))
      exact ⟨o2_28, h, sub_gen [0, 1, 2] rfl rfl (zall rfl rfl) ⟨bx rfl rfl rfl, rfl, oa rfl, trivial⟩⟩
     rcases cond_out h with ⟨g52, h⟩ | ⟨g52, h⟩
     ·refine SCode.region (sq rfl rfl (q_field_ptr rfl rfl fd47_1) (sq rfl rfl (q_load_ptr rfl rfl rfl rfl ty9) (sm rfl rfl (sq rfl rfl (q_neqS rfl rfl rfl) (sm rfl rfl (SOps.q rfl (.guard 4 46 false rfl rfl (gF g50)) rfl (q_field_ptr rfl rfl fd47_2) (SOps.q rfl (.guard 4 46 false rfl rfl (gF g50)) rfl (q_load_ptr rfl rfl rfl rfl ty9) (SOps.q rfl (.guard 4 46 false rfl rfl (gF g50)) rfl (q_move rfl rfl) (SOps.q rfl (.guard 4 46 false rfl rfl (gF g50)) rfl (q_neqS rfl rfl rfl) (sq rfl rfl (q_pick_f rfl rfl g50 rfl) (sm rfl rfl (SOps.q rfl (.guard 10 52 false rfl rfl (gF g51)) rfl (q_field_ptr rfl rfl fd47_9) (SOps.q rfl (.guard 10 52 false rfl rfl (gF g51)) rfl (q_load_ptr rfl rfl rfl rfl ty9) (SOps.q rfl (.guard 10 52 false rfl rfl (gF g51)) rfl (q_move rfl rfl) (SOps.q rfl (.guard 10 52 false rfl rfl (gF g51)) rfl (q_neqS rfl rfl rfl) ?_)))))))))))))))
      refine sq rfl rfl (q_pick_f rfl rfl g51 rfl) (sm rfl rfl (SOps.skip rfl 16 58 false rfl rfl (.inl (gT g52)) rfl (SOps.skip rfl 16 58 false rfl rfl (.inl (gT g52)) rfl (SOps.skip rfl 16 58 false rfl rfl (.inl (gT g52)) rfl (SOps.skip rfl 16 58 false rfl rfl (.inl (gT g52)) rfl (SOps.skip rfl 16 58 false rfl rfl (.inl (gT g52)) rfl (sq rfl rfl (q_pick_t rfl rfl g52 rfl) (sm rfl rfl (SOps.skip rfl 23 65 false rfl rfl (.inl rfl) rfl (SOps.skip rfl 23 65 false rfl rfl (.inl rfl) rfl (SOps.skip rfl 23 65 false rfl rfl (.inl rfl) rfl (SOps.skip rfl 23 65 false rfl rfl (.inl rfl) rfl (SOps.skip rfl 23 65 false rfl rfl (.inl rfl) rfl (sq rfl rfl (q_pick_t rfl rfl rfl rfl) (SOps.sub (st' := ⟨[(2, .c (.str a2_creditor)), (3, .c (.str a3_debtor)), (4, .c (.str a4_currency)), (11, .c (.ptr 0 0)), (15, .c (.mp 1)), (16, .c (.own 2 o2_28.length)), (18, .c (.ptr 3 0)), (36, .c (vSCDR a0_l)), (37, ci (((a0_l).length : Int))), (38, ci t38_27), (71, .c (.bool true))], [.box (bSSpan a5_s), .map c_4.length (kG c_4) (vG (mA 6 cSDispute) dSDispute c_4), aI 3 o2_28, .box (bSCDR (a0_l.getD t38_27.toNat dSCDR))]⟩) (sub_gen [0, 1, 2, 3] rfl rfl (zall rfl rfl) ⟨bx rfl rfl rfl, rfl, oa rfl, bx rfl rfl rfl, trivial⟩) ?_)))))))))))))))
      refine SOps.nil (SCode.cond_t rfl rfl (SCode.exit ?_))
      exact ⟨o2_28, h, sub_gen [0, 1, 2] rfl rfl (zall rfl rfl) ⟨bx rfl rfl rfl, rfl, oa rfl, trivial⟩⟩
     rcases cond_out h with ⟨g53, h⟩ | ⟨g53, h⟩
     ·refine SCode.region (sq rfl rfl (q_field_ptr rfl rfl fd47_1) (sq rfl rfl (q_load_ptr rfl rfl rfl rfl ty9) (sm rfl rfl (sq rfl rfl (q_neqS rfl rfl rfl) (sm rfl rfl (SOps.q rfl (.guard 4 46 false rfl rfl (gF g50)) rfl (q_field_ptr rfl rfl fd47_2) (SOps.q rfl (.guard 4 46 false rfl rfl (gF g50)) rfl (q_load_ptr rfl rfl rfl rfl ty9) (SOps.q rfl (.guard 4 46 false rfl rfl (gF g50)) rfl (q_move rfl rfl) (SOps.q rfl (.guard 4 46 false rfl rfl (gF g50)) rfl (q_neqS rfl rfl rfl) (sq rfl rfl (q_pick_f rfl rfl g50 rfl) (sm rfl rfl (SOps.q rfl (.guard 10 52 false rfl rfl (gF g51)) rfl (q_field_ptr rfl rfl fd47_9) (SOps.q rfl (.guard 10 52 false rfl rfl (gF g51)) rfl (q_load_ptr rfl rfl rfl rfl ty9) (SOps.q rfl (.guard 10 52 false rfl rfl (gF g51)) rfl (q_move rfl rfl) (SOps.q rfl (.guard 10 52 false rfl rfl (gF g51)) rfl (q_neqS rfl rfl rfl) ?_)))))))))))))))
      refine sq rfl rfl (q_pick_f rfl rfl g51 rfl) (sm rfl rfl (SOps.q rfl (.guard 16 58 false rfl rfl (gF g52)) rfl (q_field_ptr rfl rfl fd47_6) (SOps.q rfl (.guard 16 58 false rfl rfl (gF g52)) rfl (q_load_ptr rfl rfl rfl rfl ty3) (SOps.q rfl (.guard 16 58 false rfl rfl (gF g52)) rfl (q_field_ptr rfl rfl fd39_0) (SOps.q rfl (.guard 16 58 false rfl rfl (gF g52)) rfl (q_load_ptr rfl rfl rfl rfl ty3) (SOps.q rfl (.guard 16 58 false rfl rfl (gF g52)) rfl (q_lss rfl rfl rfl) (sq rfl rfl (q_pick_f rfl rfl g52 rfl) (sm rfl rfl (SOps.skip rfl 23 65 false rfl rfl (.inl (gT g53)) rfl (SOps.skip rfl 23 65 false rfl rfl (.inl (gT g53)) rfl (SOps.skip rfl 23 65 false rfl rfl (.inl (gT g53)) rfl (SOps.skip rfl 23 65 false rfl rfl (.inl (gT g53)) rfl (SOps.skip rfl 23 65 false rfl rfl (.inl (gT g53)) rfl (sq rfl rfl (q_pick_t rfl rfl g53 rfl) (SOps.sub (st' := ⟨[(2, .c (.str a2_creditor)), (3, .c (.str a3_debtor)), (4, .c (.str a4_currency)), (11, .c (.ptr 0 0)), (15, .c (.mp 1)), (16, .c (.own 2 o2_28.length)), (18, .c (.ptr 3 0)), (36, .c (vSCDR a0_l)), (37, ci (((a0_l).length : Int))), (38, ci t38_27), (71, .c (.bool true))], [.box (bSSpan a5_s), .map c_4.length (kG c_4) (vG (mA 6 cSDispute) dSDispute c_4), aI 3 o2_28, .box (bSCDR (a0_l.getD t38_27.toNat dSCDR))]⟩) (sub_gen [0, 1, 2, 3] rfl rfl (zall rfl rfl) ⟨bx rfl rfl rfl, rfl, oa rfl, bx rfl rfl rfl, trivial⟩) ?_)))))))))))))))
      refine SOps.nil (SCode.cond_t rfl rfl (SCode.exit ?_))
      exact ⟨o2_28, h, sub_gen [0, 1, 2] rfl rfl (zall rfl rfl) ⟨bx rfl rfl rfl, rfl, oa rfl, trivial⟩⟩
     refine SCode.region (sq rfl rfl (q_field_ptr rfl rfl fd47_1) (sq rfl rfl (q_load_ptr rfl rfl rfl rfl ty9) (sm rfl rfl (sq rfl rfl (q_neqS rfl rfl rfl) (sm rfl rfl (SOps.q rfl (.guard 4 46 false rfl rfl (gF g50)) rfl (q_field_ptr rfl rfl fd47_2) (SOps.q rfl (.guard 4 46 false rfl rfl (gF g50)) rfl (q_load_ptr rfl rfl rfl rfl ty9) (SOps.q rfl (.guard 4 46 false rfl rfl (gF g50)) rfl (q_move rfl rfl) (SOps.q rfl (.guard 4 46 false rfl rfl (gF g50)) rfl (q_neqS rfl rfl rfl) (sq rfl rfl (q_pick_f rfl rfl g50 rfl) (sm rfl rfl (SOps.q rfl (.guard 10 52 false rfl rfl (gF g51)) rfl (q_field_ptr rfl rfl fd47_9) (SOps.q rfl (.guard 10 52 false rfl rfl (gF g51)) rfl (q_load_ptr rfl rfl rfl rfl ty9) (SOps.q rfl (.guard 10 52 false rfl rfl (gF g51)) rfl (q_move rfl rfl) (SOps.q rfl (.guard 10 52 false rfl rfl (gF g51)) rfl (q_neqS rfl rfl rfl) ?_)))))))))))))))
     refine sq rfl rfl (q_pick_f rfl rfl g51 rfl) (sm rfl rfl (SOps.q rfl (.guard 16 58 false rfl rfl (gF g52)) rfl (q_field_ptr rfl rfl fd47_6) (SOps.q rfl (.guard 16 58 false rfl rfl (gF g52)) rfl (q_load_ptr rfl rfl rfl rfl ty3) (SOps.q rfl (.guard 16 58 false rfl rfl (gF g52)) rfl (q_field_ptr rfl rfl fd39_0) (SOps.q rfl (.guard 16 58 false rfl rfl (gF g52)) rfl (q_load_ptr rfl rfl rfl rfl ty3) (SOps.q rfl (.guard 16 58 false rfl rfl (gF g52)) rfl (q_lss rfl rfl rfl) (sq rfl rfl (q_pick_f rfl rfl g52 rfl) (sm rfl rfl (SOps.q rfl (.guard 23 65 false rfl rfl (gF g53)) rfl (q_field_ptr rfl rfl fd47_6) (SOps.q rfl (.guard 23 65 false rfl rfl (gF g53)) rfl (q_load_ptr rfl rfl rfl rfl ty3) (SOps.q rfl (.guard 23 65 false rfl rfl (gF g53)) rfl (q_field_ptr rfl rfl fd39_1) (SOps.q rfl (.guard 23 65 false rfl rfl (gF g53)) rfl (q_load_ptr rfl rfl rfl rfl ty3) (SOps.q rfl (.guard 23 65 false rfl rfl (gF g53)) rfl (q_geq rfl rfl rfl) (sq rfl rfl (q_pick_f rfl rfl g53 rfl) (SOps.sub (st' := ⟨[(2, .c (.str a2_creditor)), (3, .c (.str a3_debtor)), (4, .c (.str a4_currency)), (11, .c (.ptr 0 0)), (15, .c (.mp 1)), (16, .c (.own 2 o2_28.length)), (18, .c (.ptr 3 0)), (36, .c (vSCDR a0_l)), (37, ci (((a0_l).length : Int))), (38, ci t38_27), (71, .c (.bool (decide (a5_s.To ≤ (a0_l.getD t38_27.toNat dSCDR).End))))], [.box (bSSpan a5_s), .map c_4.length (kG c_4) (vG (mA 6 cSDispute) dSDispute c_4), aI 3 o2_28, .box (bSCDR (a0_l.getD t38_27.toNat dSCDR))]⟩) (sub_gen [0, 1, 2, 3] rfl rfl (zall rfl rfl) ⟨bx rfl rfl rfl, rfl, oa rfl, bx rfl rfl rfl, trivial⟩) ?_)))))))))))))))
     refine SOps.nil ?_
     rcases cond_out h with ⟨g54, h⟩ | ⟨g54, h⟩
     ·refine SCode.cond_t rfl g54 (SCode.exit ?_)
      exact ⟨o2_28, h, sub_gen [0, 1, 2] rfl rfl (zall rfl rfl) ⟨bx rfl rfl rfl, rfl, oa rfl, trivial⟩⟩
     refine SCode.cond_f rfl g54 (SCode.skip (SCode.seq (SCode.region (sa rfl rfl (SOps.nilArrL (T := 72) (k := 6) cSDispute dSDispute (s := 19) rfl rfl (SOps.nil ?_))))))
     let S18 := fun (o4_55 : List SDispute) => (⟨[(2, .c (.str a2_creditor)), (3, .c (.str a3_debtor)), (4, .c (.str a4_currency)), (11, .c (.ptr 0 0)), (15, .c (.mp 1)), (16, .c (.own 2 o2_28.length)), (18, .c (.ptr 3 0)), (19, .c (.own 4 o4_55.length)), (36, .c (vSCDR a0_l)), (37, ci (((a0_l).length : Int))), (38, ci t38_27)], [.box (bSSpan a5_s), .map c_4.length (kG c_4) (vG (mA 6 cSDispute) dSDispute c_4), aI 3 o2_28, .box (bSCDR (a0_l.getD t38_27.toNat dSCDR)), aSDispute 72 o4_55]⟩ : St)
     refine SCode.join (σ := (List SDispute)) (S := fun s => (S18 s)) (g := fun s => settle_Owed_p59 F a0_l t38_27 o2_28 (fun t38_27 o2_28 => settle_Owed_l45 F a0_l a2_creditor a3_debtor a4_currency a5_s c_4 n_45 t38_27 o2_28) s = some r) ?_ ?_
     rotate_left
     ·refine SCode.seq (SCode.region (sm rfl rfl (sq rfl rfl (q_field_ptr rfl rfl fd47_0) (sq rfl rfl (q_load_ptr rfl rfl rfl rfl ty9) (sq rfl rfl (q_lookup_ok (mv := (mA 6 cSDispute)) (d0 := dSDispute) (l := c_4) (s := (a0_l.getD t38_27.toNat dSCDR).ID) rfl rfl rfl rfl mp68 z72 rfl) (sm rfl rfl (sq rfl rfl (q_extract rfl rfl rfl) (sq rfl rfl (q_extract rfl rfl rfl) (se rfl rfl (e_alloc rfl rfl rfl z72) (se rfl rfl (e_store_box rfl rfl rfl rfl rfl ty72 rfl rfl rfl rfl) (sa rfl rfl (SOps.nil (SCode.seq (SCode.region (sm rfl rfl ?_)))))))))))))))
      refine SOps.nil ?_
      rcases cond_out h with ⟨g60, h⟩ | ⟨g60, h⟩
      ·refine SCode.cond_t rfl g60 ?_
       obtain ⟨g61, h⟩ := guard_out h
       refine SCode.region (sm rfl rfl (sq rfl rfl (q_load_ptr_all rfl rfl rfl rfl rfl ty72) (sq rfl rfl (q_bsliceL (c := cSDispute) (d0 := dSDispute) [(alook c_4 ((a0_l.getD t38_27.toNat dSCDR).ID)).getD dSDispute] rfl rfl sl37 z72 rfl rfl rfl rfl rfl rfl rfl) (se rfl rfl (e_appendL (c := cSDispute) (d0 := dSDispute) (l := ([] : List SDispute)) (l2 := [(alook c_4 ((a0_l.getD t38_27.toNat dSCDR).ID)).getD dSDispute]) rfl rfl rfl rfl rfl rfl (.inl rfl) sl37 z72 rfl rfl oneSDispute g61.1 g61.2) (sa rfl rfl ?_)))))
       let y1 := (([] : List SDispute)) ++ ([(alook c_4 ((a0_l.getD t38_27.toNat dSCDR).ID)).getD dSDispute])
       refine SOps.sub (st' := ⟨[(2, .c (.str a2_creditor)), (3, .c (.str a3_debtor)), (4, .c (.str a4_currency)), (11, .c (.ptr 0 0)), (15, .c (.mp 1)), (16, .c (.own 2 o2_28.length)), (18, .c (.ptr 3 0)), (19, .c (.own 4 y1.length)), (36, .c (vSCDR a0_l)), (37, ci (((a0_l).length : Int))), (38, ci t38_27)], [.box (bSSpan a5_s), .map c_4.length (kG c_4) (vG (mA 6 cSDispute) dSDispute c_4), aI 3 o2_28, .box (bSCDR (a0_l.getD t38_27.toNat dSCDR)), aSDispute 72 y1]⟩) (sub_gen [0, 1, 2, 3, 6] rfl rfl (zall rfl rfl) ⟨bx rfl rfl rfl, rfl, oa rfl, bx rfl rfl rfl, oa rfl, trivial⟩) (SOps.nil ?_)
       exact ⟨(([] : List SDispute)) ++ ([(alook c_4 ((a0_l.getD t38_27.toNat dSCDR).ID)).getD dSDispute]), h, sub_gen [0, 1, 2, 3, 4] rfl rfl (zall rfl rfl) ⟨bx rfl rfl rfl, rfl, oa rfl, bx rfl rfl rfl, oa rfl, trivial⟩⟩
      refine SCode.cond_f rfl g60 (SCode.skip ?_)
      exact ⟨([] : List SDispute), h, sub_gen [0, 1, 2, 3, 4] rfl rfl (zall rfl rfl) ⟨bx rfl rfl rfl, rfl, oa rfl, bx rfl rfl rfl, oa rfl, trivial⟩⟩
     rintro o4_55 h
     show SCode _ _ _ (S18 o4_55) _
     try dsimp only at h
     unfold settle_Owed_p59 at h
     obtain ⟨c_56, g57, h⟩ := bind_out h
     try dsimp only at h
     obtain ⟨g58, h⟩ := guard_out h
     refine SCode.region (sm rfl rfl (sq rfl rfl (q_load_ptr_all rfl rfl rfl rfl rfl ty47) (sm rfl rfl (sq rfl rfl (q_call (dispute_Amount_ok F (a0_l.getD t38_27.toNat dSCDR) o4_55 c_56 g57) [4] rfl fn30 ⟨⟨rfl, rfl⟩, ⟨_, rfl, .inr (.inl ⟨_, _, _, _, _, _, _, rfl, rfl, rfl, Nat.le_refl _, fun _ _ _ _ => rfl, (.head _)⟩)⟩, trivial⟩ (.inr rfl)) (sq rfl rfl (q_bsliceL (c := (cInt .i64)) (d0 := 0) [c_56] rfl rfl sl70 z3 rfl rfl rfl rfl rfl rfl rfl) (se rfl rfl (e_appendL (c := (cInt .i64)) (d0 := 0) (l := o2_28) (l2 := [c_56]) rfl rfl rfl rfl rfl rfl (.inl rfl) sl70 z3 rfl rfl oneInt g58.1 g58.2) (sa rfl rfl (SOps.sub (st' := ⟨[(2, .c (.str a2_creditor)), (3, .c (.str a3_debtor)), (4, .c (.str a4_currency)), (11, .c (.ptr 0 0)), (15, .c (.mp 1)), (16, .c (.own 2 (o2_28 ++ ([c_56])).length)), (36, .c (vSCDR a0_l)), (37, ci (((a0_l).length : Int))), (38, ci t38_27)], [.box (bSSpan a5_s), .map c_4.length (kG c_4) (vG (mA 6 cSDispute) dSDispute c_4), aI 3 (o2_28 ++ ([c_56]))]⟩) (sub_gen [0, 1, 5] rfl rfl (zall rfl rfl) ⟨bx rfl rfl rfl, rfl, oa rfl, trivial⟩) (SOps.nil ?_)))))))))
     exact ⟨o2_28 ++ ([c_56]), h, sub_gen [0, 1, 2] rfl rfl (zall rfl rfl) ⟨bx rfl rfl rfl, rfl, oa rfl, trivial⟩⟩
    rintro o2_47 h
    show SCode _ _ _ (S19 o2_47) _
    try dsimp only at h
    unfold settle_Owed_p48 at h
    refine SCode.region (sq rfl rfl (q_add rfl rfl rfl) (sm rfl rfl (SOps.nil ?_)))
    exact ⟨(n_45, (IntKind.wrap .i64 (t38_27 + 1), o2_47)), h, Nat.lt_succ_self n_45, sub_gen [0, 1, 2] rfl rfl (zall rfl rfl) ⟨bx rfl rfl rfl, rfl, oa rfl, trivial⟩⟩
   refine SCode.cond_f rfl g46 (SCode.exit ?_)
   exact ⟨o2_28, h, sub_gen [2] rfl rfl (zall rfl rfl) ⟨oa rfl, trivial⟩⟩
 rintro o0_6 h
 show SCode _ _ _ (S21 o0_6) _
 try dsimp only at h
 unfold settle_Owed_p10 at h
 refine SCode.seq ?_
 obtain ⟨c_7, g8, h⟩ := bind_out h
 try dsimp only at h
 refine SCode.region (sm rfl rfl (sq rfl rfl (q_call (money_Sum_ok F o0_6 c_7 g8) [0] rfl fn31 ⟨⟨_, rfl, .inr (.inl ⟨_, _, _, _, _, _, _, rfl, rfl, rfl, Nat.le_refl _, fun _ _ _ _ => rfl, (.head _)⟩)⟩, trivial⟩ (.inr rfl)) (sm rfl rfl (sq rfl rfl (q_extract rfl rfl rfl) (sq rfl rfl (q_extract rfl rfl rfl) (sa rfl rfl (sa rfl rfl (SOps.nil (SCode.seq (SCode.seq (SCode.region (sm rfl rfl (sq rfl rfl (q_neq rfl rfl rfl) (SOps.nil ?_))))))))))))))
 rcases cond_out h with ⟨g9, h⟩ | ⟨g9, h⟩
 ·refine SCode.cond_t rfl g9 (SCode.seq (SCode.region (sm rfl rfl (sa rfl rfl (sa rfl rfl (SOps.nil (SCode.ret ?_)))))))
  obtain rfl := Option.some.inj h
  exact ⟨⟨[(12, ci 0), (13, ci c_7.2)], []⟩, _, sub_gen [] rfl rfl (zall rfl rfl) trivial, resA2 (v1 := .c (.int .i64 0)) (v2 := .c (.int .i64 c_7.2)) rfl rfl rfl, rfl⟩
 refine SCode.cond_f rfl g9 (SCode.skip (SCode.seq (SCode.region (sm rfl rfl (sa rfl rfl (sa rfl rfl (SOps.nil (SCode.ret ?_))))))))
 obtain rfl := Option.some.inj h
 exact ⟨⟨[(12, ci c_7.1), (13, ci 0)], []⟩, _, sub_gen [] rfl rfl (zall rfl rfl) trivial, resA2 (v1 := .c (.int .i64 c_7.1)) (v2 := .c (.int .i64 0)) rfl rfl rfl, rfl⟩
theorem chargenetref01_Capital_ok (F : Nat) (a0_c : Int) (r : Int) (h : chargenetref01_Capital F a0_c = some r) :
  SFun Try.prog 53 [] [.c (.int .u8 a0_c)] (fun x _ => x = .c (.int .u8 r)) := by
 refine SFun.of (n := 12) Try.func53 rfl rfl rfl ?_
 unfold chargenetref01_Capital at h
 show SCode _ _ _ ⟨[(0, .c (.int .u8 a0_c))], []⟩ _
 refine SCode.seq (SCode.region (sa rfl rfl (SOps.nil ?_)))
 let S1 := (⟨[(0, .c (.int .u8 a0_c))], []⟩ : St)
 refine SCode.join (σ := Unit) (S := fun s => S1) (g := fun s => chargenetref01_Capital_p1 a0_c = some r) ?_ ?_
 rotate_left
 ·refine SCode.seq ?_
  rcases cond_out h with ⟨g2, h⟩ | ⟨g2, h⟩
  ·refine SCode.region (sm rfl rfl (sq rfl rfl (q_geq rfl rfl rfl) (sm rfl rfl (SOps.q rfl (.guard 2 5 true rfl rfl (gT g2)) rfl (q_move rfl rfl) (SOps.q rfl (.guard 2 5 true rfl rfl (gT g2)) rfl (q_leq rfl rfl rfl) (sq rfl rfl (q_pick_t rfl rfl g2 rfl) (SOps.nil ?_)))))))
   rcases cond_out h with ⟨g3, h⟩ | ⟨g3, h⟩
   ·refine SCode.cond_t rfl g3 (SCode.seq (SCode.region (sm rfl rfl (sq rfl rfl (q_sub rfl rfl rfl) (sa rfl rfl (SOps.nil (SCode.ret ?_)))))))
    obtain rfl := Option.some.inj h
    exact ⟨⟨[(2, .c (.int .u8 (IntKind.wrap .u8 (a0_c - 32))))], []⟩, _, sub_gen [] rfl rfl (zall rfl rfl) trivial, resA1 (v := .c (.int .u8 (IntKind.wrap .u8 (a0_c - 32)))) rfl rfl, rfl⟩
   refine SCode.cond_f rfl g3 (SCode.skip ?_)
   exact ⟨(), h, sub_gen [] rfl rfl (zall rfl rfl) trivial⟩
  refine SCode.region (sm rfl rfl (sq rfl rfl (q_geq rfl rfl rfl) (sm rfl rfl (SOps.skip rfl 2 5 true rfl rfl (.inl (gF g2)) rfl (SOps.skip rfl 2 5 true rfl rfl (.inl (gF g2)) rfl (sq rfl rfl (q_pick_f rfl rfl g2 rfl) (SOps.nil (SCode.cond_f rfl rfl (SCode.skip ?_)))))))))
  exact ⟨(), h, sub_gen [] rfl rfl (zall rfl rfl) trivial⟩
 rintro ⟨⟩ h
 show SCode _ _ _ S1 _
 try dsimp only at h
 unfold chargenetref01_Capital_p1 at h
 refine SCode.seq (SCode.region (sm rfl rfl (sa rfl rfl (SOps.nil (SCode.ret ?_)))))
 obtain rfl := Option.some.inj h
 exact ⟨⟨[(2, .c (.int .u8 a0_c))], []⟩, _, sub_gen [] rfl rfl (zall rfl rfl) trivial, resA1 (v := .c (.int .u8 a0_c)) rfl rfl, rfl⟩
theorem chargenetref01_Value_ok (F : Nat) (a0_c : Int) (r : Int) (h : chargenetref01_Value F a0_c = some r) :
  SFun Try.prog 44 [] [.c (.int .u8 a0_c)] (fun x _ => x = ci r) := by
 refine SFun.of (n := 14) Try.func44 rfl rfl rfl ?_
 unfold chargenetref01_Value at h
 show SCode _ _ _ ⟨[(0, .c (.int .u8 a0_c))], []⟩ _
 refine SCode.seq (SCode.region (sa rfl rfl (SOps.nil ?_)))
 let S3 := (⟨[], []⟩ : St)
 refine SCode.join (σ := Unit) (S := fun s => S3) (g := fun s => chargenetref01_Value_p1 = some r) ?_ ?_
 rotate_left
 ·refine SCode.seq (SCode.region (sa rfl rfl (SOps.nil (SCode.block ?_))))
  let S2 := fun (v_7 : Int) => (⟨[(0, .c (.int .u8 a0_c)), (3, ci v_7)], []⟩ : St)
  refine SCode.sub (st' := (S2 0)) (sub_gen [] rfl rfl (zall rfl rfl) trivial) ?_
  refine (SCode.loop (σ := Nat × Int) (S := fun s => (S2 s.2)) (g := fun s => chargenetref01_Value_l13 F a0_c s.1 s.2 = some r) (μ := fun s => s.1) (F, 0) h ?_)
  rintro ⟨n_13, v_7⟩ h
  try dsimp only at h
  show SCode _ _ _ (S2 v_7) _
  cases n_13 with
  | zero => cases h
  | succ n_13 =>
   rw [chargenetref01_Value_l13] at h
   unfold chargenetref01_Value_b13 at h
   refine SCode.seq (SCode.seq (SCode.region (sm rfl rfl (sq rfl rfl (q_lss rfl rfl rfl) (SOps.nil ?_)))))
   rcases cond_out h with ⟨g14, h⟩ | ⟨g14, h⟩
   ·refine SCode.cond_t rfl g14 (SCode.skip (SCode.seq (SCode.block (SCode.seq (SCode.sub (st' := ⟨[(0, .c (.int .u8 a0_c)), (3, ci v_7)], []⟩) (sub_gen [] rfl rfl (zall rfl rfl) trivial) ?_)))))
    obtain ⟨g15, h⟩ := guard_out h
    obtain ⟨c_16, g17, h⟩ := bind_out h
    try dsimp only at h
    refine SCode.drawK mixed [[], [0], [], [2], [0, 1, 2, 3]] 5 0 rfl rfl (qm rfl rfl (qr rfl rfl (q_index_str rfl rfl rfl un9 g15.1 g15.2) (qm rfl rfl (qr rfl rfl (q_call (chargenetref01_Capital_ok F a0_c c_16 g17) [] rfl fn53 ⟨⟨_, rfl, .inl ⟨rfl, rfl⟩⟩, trivial⟩ (.inl rfl)) (qr rfl rfl (q_eql rfl rfl rfl) (QK.nil (SOps.sub (st' := ⟨[(0, .c (.int .u8 a0_c)), (3, ci v_7), (12, .c (.bool (decide (sGet (ByteArray.mk #[48, 49, 50, 51, 52, 53, 54, 55, 56, 57, 65, 66, 67, 68, 69, 70, 71, 72, 73, 74, 75, 76, 77, 78, 79, 80, 81, 82, 83, 84, 85, 86, 87, 88, 89, 90]) v_7.toNat = c_16))))], []⟩) (sub_gen [] rfl rfl (zall rfl rfl) trivial) (SOps.nil ?_))))))))
    rcases cond_out h with ⟨g18, h⟩ | ⟨g18, h⟩
    ·refine SCode.cond_t rfl g18 (SCode.seq (SCode.region (sm rfl rfl (sa rfl rfl (SOps.nil (SCode.ret ?_))))))
     obtain rfl := Option.some.inj h
     exact ⟨⟨[(2, ci v_7)], []⟩, _, sub_gen [] rfl rfl (zall rfl rfl) trivial, resA1 (v := .c (.int .i64 v_7)) rfl rfl, rfl⟩
    refine SCode.cond_f rfl g18 (SCode.skip (SCode.region (sm rfl rfl (sq rfl rfl (q_add rfl rfl rfl) (sa rfl rfl (SOps.nil ?_))))))
    exact ⟨(n_13, IntKind.wrap .i64 (v_7 + 1)), h, Nat.lt_succ_self n_13, sub_gen [] rfl rfl (zall rfl rfl) trivial⟩
   refine SCode.cond_f rfl g14 (SCode.exit ?_)
   exact ⟨(), h, sub_gen [] rfl rfl trivial trivial⟩
 rintro ⟨⟩ h
 show SCode _ _ _ S3 _
 try dsimp only at h
 unfold chargenetref01_Value_p1 at h
 refine SCode.seq (SCode.region (sa rfl rfl (SOps.nil (SCode.ret ?_))))
 obtain rfl := Option.some.inj h
 exact ⟨⟨[(2, ci ((-1)))], []⟩, _, sub_gen [] rfl rfl (zall rfl rfl) trivial, resA1 (v := .c (.int .i64 ((-1)))) rfl rfl, rfl⟩
theorem chargenetref01_Valid_ok (F : Nat) (a0_s : ByteArray) (r : Bool) (h : chargenetref01_Valid F a0_s = some r) :
  SFun Try.prog 24 [] [.c (.str a0_s)] (fun x _ => x = .c (.bool r)) := by
 refine SFun.of (n := 45) Try.func24 rfl rfl rfl ?_
 unfold chargenetref01_Valid at h
 show SCode _ _ _ ⟨[(0, .c (.str a0_s))], []⟩ _
 refine SCode.seq (SCode.region (sa rfl rfl (SOps.nil (SCode.seq (SCode.seq ?_)))))
 rcases cond_out h with ⟨g1, h⟩ | ⟨g1, h⟩
 ·refine SCode.region (sm rfl rfl (sq rfl rfl (q_len_str rfl rfl un9) (sq rfl rfl (q_lss rfl rfl rfl) (sm rfl rfl (SOps.skip rfl 3 8 false rfl rfl (.inl (gT g1)) rfl (SOps.skip rfl 3 8 false rfl rfl (.inl (gT g1)) rfl (SOps.skip rfl 3 8 false rfl rfl (.inl (gT g1)) rfl (sq rfl rfl (q_pick_t rfl rfl g1 rfl) (SOps.nil (SCode.cond_t rfl rfl (SCode.seq (SCode.region (sa rfl rfl (SOps.nil (SCode.ret ?_)))))))))))))))
  obtain rfl := Option.some.inj h
  exact ⟨⟨[(2, .c (.bool false))], []⟩, _, sub_gen [] rfl rfl (zall rfl rfl) trivial, resA1 (v := .c (.bool false)) rfl rfl, rfl⟩
 refine SCode.region (sm rfl rfl (sq rfl rfl (q_len_str rfl rfl un9) (sq rfl rfl (q_lss rfl rfl rfl) (sm rfl rfl (SOps.q rfl (.guard 3 8 false rfl rfl (gF g1)) rfl (q_move rfl rfl) (SOps.q rfl (.guard 3 8 false rfl rfl (gF g1)) rfl (q_len_str rfl rfl un9) (SOps.q rfl (.guard 3 8 false rfl rfl (gF g1)) rfl (q_gtr rfl rfl rfl) (sq rfl rfl (q_pick_f rfl rfl g1 rfl) (SOps.nil ?_)))))))))
 rcases cond_out h with ⟨g2, h⟩ | ⟨g2, h⟩
 ·refine SCode.cond_t rfl g2 (SCode.seq (SCode.region (sa rfl rfl (SOps.nil (SCode.ret ?_)))))
  obtain rfl := Option.some.inj h
  exact ⟨⟨[(2, .c (.bool false))], []⟩, _, sub_gen [] rfl rfl (zall rfl rfl) trivial, resA1 (v := .c (.bool false)) rfl rfl, rfl⟩
 refine SCode.cond_f rfl g2 (SCode.skip ?_)
 let S9 := (⟨[], []⟩ : St)
 refine SCode.join (σ := Unit) (S := fun s => S9) (g := fun s => chargenetref01_Valid_p3 = some r) ?_ ?_
 rotate_left
 ·refine SCode.seq (SCode.region (sa rfl rfl (SOps.nil (SCode.block ?_))))
  let S8 := fun (i_15 : Int) => (⟨[(0, .c (.str a0_s)), (3, ci i_15)], []⟩ : St)
  refine SCode.sub (st' := (S8 0)) (sub_gen [] rfl rfl (zall rfl rfl) trivial) ?_
  refine (SCode.loop (σ := Nat × Int) (S := fun s => (S8 s.2)) (g := fun s => chargenetref01_Valid_l27 F a0_s s.1 s.2 = some r) (μ := fun s => s.1) (F, 0) h ?_)
  rintro ⟨n_27, i_15⟩ h
  try dsimp only at h
  show SCode _ _ _ (S8 i_15) _
  cases n_27 with
  | zero => cases h
  | succ n_27 =>
   rw [chargenetref01_Valid_l27] at h
   unfold chargenetref01_Valid_b27 at h
   refine SCode.seq (SCode.seq (SCode.region (sm rfl rfl (sm rfl rfl (sq rfl rfl (q_len_str rfl rfl un9) (sq rfl rfl (q_lss rfl rfl rfl) (SOps.nil ?_)))))))
   rcases cond_out h with ⟨g28, h⟩ | ⟨g28, h⟩
   ·refine SCode.cond_t rfl g28 (SCode.skip ?_)
    let S7 := (⟨[(0, .c (.str a0_s)), (3, ci i_15)], []⟩ : St)
    refine SCode.join (σ := Unit) (S := fun s => S7) (g := fun s => chargenetref01_Valid_p29 i_15 (fun i_15 => chargenetref01_Valid_l27 F a0_s n_27 i_15) = some r) ?_ ?_
    rotate_left
    ·refine SCode.block (SCode.seq ?_)
     obtain ⟨g30, h⟩ := guard_out h
     refine SCode.region (sm rfl rfl (sm rfl rfl (sq rfl rfl (q_index_str rfl rfl rfl un9 g30.1 g30.2) (sa rfl rfl (SOps.nil (SCode.seq ?_))))))
     obtain ⟨c_31, g32, h⟩ := bind_out h
     try dsimp only at h
     rcases cond_out h with ⟨g33, h⟩ | ⟨g33, h⟩
     ·rcases cond_out h with ⟨g34, h⟩ | ⟨g34, h⟩
      ·rcases cond_out h with ⟨g35, h⟩ | ⟨g35, h⟩
       ·rcases cond_out h with ⟨g36, h⟩ | ⟨g36, h⟩
        ·rcases cond_out h with ⟨g37, h⟩ | ⟨g37, h⟩
         ·refine SCode.region (sm rfl rfl (sq rfl rfl (q_call (chargenetref01_Value_ok F (sGet a0_s i_15.toNat) c_31 g32) [] rfl fn44 ⟨⟨_, rfl, .inl ⟨rfl, rfl⟩⟩, trivial⟩ (.inl rfl)) (sq rfl rfl (q_lss rfl rfl rfl) (sm rfl rfl (SOps.q rfl (.guard 3 25 true rfl rfl (gT g33)) rfl (q_move rfl rfl) (SOps.q rfl (.guard 3 25 true rfl rfl (gT g33)) rfl (q_neq rfl rfl rfl) (sq rfl rfl (q_pick_t rfl rfl g33 rfl) (sm rfl rfl (SOps.q rfl (.guard 7 29 true rfl rfl (gT g34)) rfl (q_move rfl rfl) (SOps.q rfl (.guard 7 29 true rfl rfl (gT g34)) rfl (q_neq rfl rfl rfl) (sq rfl rfl (q_pick_t rfl rfl g34 rfl) (sm rfl rfl (SOps.q rfl (.guard 11 33 true rfl rfl (gT g35)) rfl (q_move rfl rfl) (SOps.q rfl (.guard 11 33 true rfl rfl (gT g35)) rfl (q_neq rfl rfl rfl) (sq rfl rfl (q_pick_t rfl rfl g35 rfl) ?_)))))))))))))))
          refine sm rfl rfl (SOps.q rfl (.guard 15 37 true rfl rfl (gT g36)) rfl (q_move rfl rfl) (SOps.q rfl (.guard 15 37 true rfl rfl (gT g36)) rfl (q_neq rfl rfl rfl) (sq rfl rfl (q_pick_t rfl rfl g36 rfl) (sm rfl rfl (SOps.q rfl (.guard 19 41 true rfl rfl (gT g37)) rfl (q_move rfl rfl) (SOps.q rfl (.guard 19 41 true rfl rfl (gT g37)) rfl (q_neq rfl rfl rfl) (sq rfl rfl (q_pick_t rfl rfl g37 rfl) (SOps.sub (st' := ⟨[(0, .c (.str a0_s)), (3, ci i_15), (44, .c (.bool ((!decide (sGet a0_s i_15.toNat = 42)))))], []⟩) (sub_gen [] rfl rfl (zall rfl rfl) trivial) (SOps.nil ?_)))))))))
          rcases cond_out h with ⟨g38, h⟩ | ⟨g38, h⟩
          ·refine SCode.cond_t rfl g38 (SCode.seq (SCode.region (sa rfl rfl (SOps.nil (SCode.ret ?_)))))
           obtain rfl := Option.some.inj h
           exact ⟨⟨[(2, .c (.bool false))], []⟩, _, sub_gen [] rfl rfl (zall rfl rfl) trivial, resA1 (v := .c (.bool false)) rfl rfl, rfl⟩
          refine SCode.cond_f rfl g38 (SCode.skip ?_)
          exact ⟨(), h, sub_gen [] rfl rfl (zall rfl rfl) trivial⟩
         refine SCode.region (sm rfl rfl (sq rfl rfl (q_call (chargenetref01_Value_ok F (sGet a0_s i_15.toNat) c_31 g32) [] rfl fn44 ⟨⟨_, rfl, .inl ⟨rfl, rfl⟩⟩, trivial⟩ (.inl rfl)) (sq rfl rfl (q_lss rfl rfl rfl) (sm rfl rfl (SOps.q rfl (.guard 3 25 true rfl rfl (gT g33)) rfl (q_move rfl rfl) (SOps.q rfl (.guard 3 25 true rfl rfl (gT g33)) rfl (q_neq rfl rfl rfl) (sq rfl rfl (q_pick_t rfl rfl g33 rfl) (sm rfl rfl (SOps.q rfl (.guard 7 29 true rfl rfl (gT g34)) rfl (q_move rfl rfl) (SOps.q rfl (.guard 7 29 true rfl rfl (gT g34)) rfl (q_neq rfl rfl rfl) (sq rfl rfl (q_pick_t rfl rfl g34 rfl) (sm rfl rfl (SOps.q rfl (.guard 11 33 true rfl rfl (gT g35)) rfl (q_move rfl rfl) (SOps.q rfl (.guard 11 33 true rfl rfl (gT g35)) rfl (q_neq rfl rfl rfl) (sq rfl rfl (q_pick_t rfl rfl g35 rfl) ?_)))))))))))))))
         refine sm rfl rfl (SOps.q rfl (.guard 15 37 true rfl rfl (gT g36)) rfl (q_move rfl rfl) (SOps.q rfl (.guard 15 37 true rfl rfl (gT g36)) rfl (q_neq rfl rfl rfl) (sq rfl rfl (q_pick_t rfl rfl g36 rfl) (sm rfl rfl (SOps.skip rfl 19 41 true rfl rfl (.inl (gF g37)) rfl (SOps.skip rfl 19 41 true rfl rfl (.inl (gF g37)) rfl (sq rfl rfl (q_pick_f rfl rfl g37 rfl) (SOps.sub (st' := ⟨[(0, .c (.str a0_s)), (3, ci i_15), (44, .c (.bool false))], []⟩) (sub_gen [] rfl rfl (zall rfl rfl) trivial) (SOps.nil (SCode.cond_f rfl rfl (SCode.skip ?_)))))))))))
         exact ⟨(), h, sub_gen [] rfl rfl (zall rfl rfl) trivial⟩
        refine SCode.region (sm rfl rfl (sq rfl rfl (q_call (chargenetref01_Value_ok F (sGet a0_s i_15.toNat) c_31 g32) [] rfl fn44 ⟨⟨_, rfl, .inl ⟨rfl, rfl⟩⟩, trivial⟩ (.inl rfl)) (sq rfl rfl (q_lss rfl rfl rfl) (sm rfl rfl (SOps.q rfl (.guard 3 25 true rfl rfl (gT g33)) rfl (q_move rfl rfl) (SOps.q rfl (.guard 3 25 true rfl rfl (gT g33)) rfl (q_neq rfl rfl rfl) (sq rfl rfl (q_pick_t rfl rfl g33 rfl) (sm rfl rfl (SOps.q rfl (.guard 7 29 true rfl rfl (gT g34)) rfl (q_move rfl rfl) (SOps.q rfl (.guard 7 29 true rfl rfl (gT g34)) rfl (q_neq rfl rfl rfl) (sq rfl rfl (q_pick_t rfl rfl g34 rfl) (sm rfl rfl (SOps.q rfl (.guard 11 33 true rfl rfl (gT g35)) rfl (q_move rfl rfl) (SOps.q rfl (.guard 11 33 true rfl rfl (gT g35)) rfl (q_neq rfl rfl rfl) (sq rfl rfl (q_pick_t rfl rfl g35 rfl) ?_)))))))))))))))
        refine sm rfl rfl (SOps.skip rfl 15 37 true rfl rfl (.inl (gF g36)) rfl (SOps.skip rfl 15 37 true rfl rfl (.inl (gF g36)) rfl (sq rfl rfl (q_pick_f rfl rfl g36 rfl) (sm rfl rfl (SOps.skip rfl 19 41 true rfl rfl (.inl rfl) rfl (SOps.skip rfl 19 41 true rfl rfl (.inl rfl) rfl (sq rfl rfl (q_pick_f rfl rfl rfl rfl) (SOps.sub (st' := ⟨[(0, .c (.str a0_s)), (3, ci i_15), (44, .c (.bool false))], []⟩) (sub_gen [] rfl rfl (zall rfl rfl) trivial) (SOps.nil (SCode.cond_f rfl rfl (SCode.skip ?_)))))))))))
        exact ⟨(), h, sub_gen [] rfl rfl (zall rfl rfl) trivial⟩
       refine SCode.region (sm rfl rfl (sq rfl rfl (q_call (chargenetref01_Value_ok F (sGet a0_s i_15.toNat) c_31 g32) [] rfl fn44 ⟨⟨_, rfl, .inl ⟨rfl, rfl⟩⟩, trivial⟩ (.inl rfl)) (sq rfl rfl (q_lss rfl rfl rfl) (sm rfl rfl (SOps.q rfl (.guard 3 25 true rfl rfl (gT g33)) rfl (q_move rfl rfl) (SOps.q rfl (.guard 3 25 true rfl rfl (gT g33)) rfl (q_neq rfl rfl rfl) (sq rfl rfl (q_pick_t rfl rfl g33 rfl) (sm rfl rfl (SOps.q rfl (.guard 7 29 true rfl rfl (gT g34)) rfl (q_move rfl rfl) (SOps.q rfl (.guard 7 29 true rfl rfl (gT g34)) rfl (q_neq rfl rfl rfl) (sq rfl rfl (q_pick_t rfl rfl g34 rfl) (sm rfl rfl (SOps.skip rfl 11 33 true rfl rfl (.inl (gF g35)) rfl (SOps.skip rfl 11 33 true rfl rfl (.inl (gF g35)) rfl (sq rfl rfl (q_pick_f rfl rfl g35 rfl) ?_)))))))))))))))
       refine sm rfl rfl (SOps.skip rfl 15 37 true rfl rfl (.inl rfl) rfl (SOps.skip rfl 15 37 true rfl rfl (.inl rfl) rfl (sq rfl rfl (q_pick_f rfl rfl rfl rfl) (sm rfl rfl (SOps.skip rfl 19 41 true rfl rfl (.inl rfl) rfl (SOps.skip rfl 19 41 true rfl rfl (.inl rfl) rfl (sq rfl rfl (q_pick_f rfl rfl rfl rfl) (SOps.sub (st' := ⟨[(0, .c (.str a0_s)), (3, ci i_15), (44, .c (.bool false))], []⟩) (sub_gen [] rfl rfl (zall rfl rfl) trivial) (SOps.nil (SCode.cond_f rfl rfl (SCode.skip ?_)))))))))))
       exact ⟨(), h, sub_gen [] rfl rfl (zall rfl rfl) trivial⟩
      refine SCode.region (sm rfl rfl (sq rfl rfl (q_call (chargenetref01_Value_ok F (sGet a0_s i_15.toNat) c_31 g32) [] rfl fn44 ⟨⟨_, rfl, .inl ⟨rfl, rfl⟩⟩, trivial⟩ (.inl rfl)) (sq rfl rfl (q_lss rfl rfl rfl) (sm rfl rfl (SOps.q rfl (.guard 3 25 true rfl rfl (gT g33)) rfl (q_move rfl rfl) (SOps.q rfl (.guard 3 25 true rfl rfl (gT g33)) rfl (q_neq rfl rfl rfl) (sq rfl rfl (q_pick_t rfl rfl g33 rfl) (sm rfl rfl (SOps.skip rfl 7 29 true rfl rfl (.inl (gF g34)) rfl (SOps.skip rfl 7 29 true rfl rfl (.inl (gF g34)) rfl (sq rfl rfl (q_pick_f rfl rfl g34 rfl) (sm rfl rfl (SOps.skip rfl 11 33 true rfl rfl (.inl rfl) rfl (SOps.skip rfl 11 33 true rfl rfl (.inl rfl) rfl (sq rfl rfl (q_pick_f rfl rfl rfl rfl) ?_)))))))))))))))
      refine sm rfl rfl (SOps.skip rfl 15 37 true rfl rfl (.inl rfl) rfl (SOps.skip rfl 15 37 true rfl rfl (.inl rfl) rfl (sq rfl rfl (q_pick_f rfl rfl rfl rfl) (sm rfl rfl (SOps.skip rfl 19 41 true rfl rfl (.inl rfl) rfl (SOps.skip rfl 19 41 true rfl rfl (.inl rfl) rfl (sq rfl rfl (q_pick_f rfl rfl rfl rfl) (SOps.sub (st' := ⟨[(0, .c (.str a0_s)), (3, ci i_15), (44, .c (.bool false))], []⟩) (sub_gen [] rfl rfl (zall rfl rfl) trivial) (SOps.nil (SCode.cond_f rfl rfl (SCode.skip ?_)))))))))))
      exact ⟨(), h, sub_gen [] rfl rfl (zall rfl rfl) trivial⟩
     refine SCode.region (sm rfl rfl (sq rfl rfl (q_call (chargenetref01_Value_ok F (sGet a0_s i_15.toNat) c_31 g32) [] rfl fn44 ⟨⟨_, rfl, .inl ⟨rfl, rfl⟩⟩, trivial⟩ (.inl rfl)) (sq rfl rfl (q_lss rfl rfl rfl) (sm rfl rfl (SOps.skip rfl 3 25 true rfl rfl (.inl (gF g33)) rfl (SOps.skip rfl 3 25 true rfl rfl (.inl (gF g33)) rfl (sq rfl rfl (q_pick_f rfl rfl g33 rfl) (sm rfl rfl (SOps.skip rfl 7 29 true rfl rfl (.inl rfl) rfl (SOps.skip rfl 7 29 true rfl rfl (.inl rfl) rfl (sq rfl rfl (q_pick_f rfl rfl rfl rfl) (sm rfl rfl (SOps.skip rfl 11 33 true rfl rfl (.inl rfl) rfl (SOps.skip rfl 11 33 true rfl rfl (.inl rfl) rfl (sq rfl rfl (q_pick_f rfl rfl rfl rfl) ?_)))))))))))))))
     refine sm rfl rfl (SOps.skip rfl 15 37 true rfl rfl (.inl rfl) rfl (SOps.skip rfl 15 37 true rfl rfl (.inl rfl) rfl (sq rfl rfl (q_pick_f rfl rfl rfl rfl) (sm rfl rfl (SOps.skip rfl 19 41 true rfl rfl (.inl rfl) rfl (SOps.skip rfl 19 41 true rfl rfl (.inl rfl) rfl (sq rfl rfl (q_pick_f rfl rfl rfl rfl) (SOps.sub (st' := ⟨[(0, .c (.str a0_s)), (3, ci i_15), (44, .c (.bool false))], []⟩) (sub_gen [] rfl rfl (zall rfl rfl) trivial) (SOps.nil (SCode.cond_f rfl rfl (SCode.skip ?_)))))))))))
     exact ⟨(), h, sub_gen [] rfl rfl (zall rfl rfl) trivial⟩
    rintro ⟨⟩ h
    show SCode _ _ _ S7 _
    try dsimp only at h
    unfold chargenetref01_Valid_p29 at h
    refine SCode.region (sm rfl rfl (sq rfl rfl (q_add rfl rfl rfl) (sa rfl rfl (SOps.nil ?_))))
    exact ⟨(n_27, IntKind.wrap .i64 (i_15 + 1)), h, Nat.lt_succ_self n_27, sub_gen [] rfl rfl (zall rfl rfl) trivial⟩
   refine SCode.cond_f rfl g28 (SCode.exit ?_)
   exact ⟨(), h, sub_gen [] rfl rfl trivial trivial⟩
 rintro ⟨⟩ h
 show SCode _ _ _ S9 _
 try dsimp only at h
 unfold chargenetref01_Valid_p3 at h
 refine SCode.seq (SCode.region (sa rfl rfl (SOps.nil (SCode.ret ?_))))
 obtain rfl := Option.some.inj h
 exact ⟨⟨[(2, .c (.bool true))], []⟩, _, sub_gen [] rfl rfl (zall rfl rfl) trivial, resA1 (v := .c (.bool true)) rfl rfl, rfl⟩
theorem chargenetref46_in_ok (F : Nat) (a0_x : Int) (a1_low : Int) (a2_high : Int) (r : Bool) (h : chargenetref46_in F a0_x a1_low a2_high = some r) :
  SFun Try.prog 34 [] [ci a0_x, ci a1_low, ci a2_high] (fun x _ => x = .c (.bool r)) := by
 refine SFun.of (n := 15) Try.func34 rfl rfl rfl ?_
 unfold chargenetref46_in at h
 show SCode _ _ _ ⟨[(0, ci a0_x), (1, ci a1_low), (2, ci a2_high)], []⟩ _
 refine SCode.seq (SCode.region (sa rfl rfl (SOps.nil (SCode.seq ?_))))
 rcases cond_out h with ⟨g1, h⟩ | ⟨g1, h⟩
 ·refine SCode.region (sm rfl rfl (sm rfl rfl (sq rfl rfl (q_geq rfl rfl rfl) (sm rfl rfl (SOps.q rfl (.guard 3 10 true rfl rfl (gT g1)) rfl (q_move rfl rfl) (SOps.q rfl (.guard 3 10 true rfl rfl (gT g1)) rfl (q_move rfl rfl) (SOps.q rfl (.guard 3 10 true rfl rfl (gT g1)) rfl (q_leq rfl rfl rfl) (sq rfl rfl (q_pick_t rfl rfl g1 rfl) (sa rfl rfl (SOps.nil (SCode.ret ?_)))))))))))
  obtain rfl := Option.some.inj h
  exact ⟨⟨[(6, .c (.bool (decide (a0_x ≤ a2_high))))], []⟩, _, sub_gen [] rfl rfl (zall rfl rfl) trivial, resA1 (v := .c (.bool (decide (a0_x ≤ a2_high)))) rfl rfl, rfl⟩
 refine SCode.region (sm rfl rfl (sm rfl rfl (sq rfl rfl (q_geq rfl rfl rfl) (sm rfl rfl (SOps.skip rfl 3 10 true rfl rfl (.inl (gF g1)) rfl (SOps.skip rfl 3 10 true rfl rfl (.inl (gF g1)) rfl (SOps.skip rfl 3 10 true rfl rfl (.inl (gF g1)) rfl (sq rfl rfl (q_pick_f rfl rfl g1 rfl) (sa rfl rfl (SOps.nil (SCode.ret ?_)))))))))))
 obtain rfl := Option.some.inj h
 exact ⟨⟨[(6, .c (.bool false))], []⟩, _, sub_gen [] rfl rfl (zall rfl rfl) trivial, resA1 (v := .c (.bool false)) rfl rfl, rfl⟩
theorem chargenetref46_currency_ok (F : Nat) (a0_s : ByteArray) (r : Bool) (h : chargenetref46_currency F a0_s = some r) :
  SFun Try.prog 35 [] [.c (.str a0_s)] (fun x _ => x = .c (.bool r)) := by
 refine SFun.of (n := 23) Try.func35 rfl rfl rfl ?_
 unfold chargenetref46_currency at h
 show SCode _ _ _ ⟨[(0, .c (.str a0_s))], []⟩ _
 refine SCode.seq (SCode.region (sa rfl rfl (SOps.nil ?_)))
 let S3 := (⟨[(0, .c (.str a0_s))], []⟩ : St)
 refine SCode.join (σ := Unit) (S := fun s => S3) (g := fun s => chargenetref46_currency_p1 a0_s = some r) ?_ ?_
 rotate_left
 ·refine SCode.seq (SCode.region (sa rfl rfl (SOps.nil (SCode.block ?_))))
  let S2 := fun (i_7 : Int) => (⟨[(0, .c (.str a0_s)), (3, ci i_7)], []⟩ : St)
  refine SCode.sub (st' := (S2 0)) (sub_gen [] rfl rfl (zall rfl rfl) trivial) ?_
  refine (SCode.loop (σ := Nat × Int) (S := fun s => (S2 s.2)) (g := fun s => chargenetref46_currency_l13 a0_s s.1 s.2 = some r) (μ := fun s => s.1) (F, 0) h ?_)
  rintro ⟨n_13, i_7⟩ h
  try dsimp only at h
  show SCode _ _ _ (S2 i_7) _
  cases n_13 with
  | zero => cases h
  | succ n_13 =>
   rw [chargenetref46_currency_l13] at h
   unfold chargenetref46_currency_b13 at h
   refine SCode.seq (SCode.seq (SCode.region (sm rfl rfl (sm rfl rfl (sq rfl rfl (q_len_str rfl rfl un9) (sq rfl rfl (q_lss rfl rfl rfl) (SOps.nil ?_)))))))
   rcases cond_out h with ⟨g14, h⟩ | ⟨g14, h⟩
   ·refine SCode.cond_t rfl g14 (SCode.skip (SCode.seq (SCode.block (SCode.seq ?_))))
    obtain ⟨g15, h⟩ := guard_out h
    rcases cond_out h with ⟨g16, h⟩ | ⟨g16, h⟩
    ·refine SCode.region (sm rfl rfl (sm rfl rfl (sq rfl rfl (q_index_str rfl rfl rfl un9 g15.1 g15.2) (sq rfl rfl (q_lss rfl rfl rfl) (sm rfl rfl (SOps.skip rfl 4 14 false rfl rfl (.inl (gT g16)) rfl (SOps.skip rfl 4 14 false rfl rfl (.inl (gT g16)) rfl (SOps.skip rfl 4 14 false rfl rfl (.inl (gT g16)) rfl (SOps.skip rfl 4 14 false rfl rfl (.inl (gT g16)) rfl (sq rfl rfl (q_pick_t rfl rfl g16 rfl) (SOps.nil (SCode.cond_t rfl rfl (SCode.seq (SCode.region (sa rfl rfl ?_)))))))))))))))
     refine SOps.nil (SCode.ret ?_)
     obtain rfl := Option.some.inj h
     exact ⟨⟨[(2, .c (.bool false))], []⟩, _, sub_gen [] rfl rfl (zall rfl rfl) trivial, resA1 (v := .c (.bool false)) rfl rfl, rfl⟩
    obtain ⟨g17, h⟩ := guard_out h
    refine SCode.region (sm rfl rfl (sm rfl rfl (sq rfl rfl (q_index_str rfl rfl rfl un9 g15.1 g15.2) (sq rfl rfl (q_lss rfl rfl rfl) (sm rfl rfl (SOps.q rfl (.guard 4 14 false rfl rfl (gF g16)) rfl (q_move rfl rfl) (SOps.q rfl (.guard 4 14 false rfl rfl (gF g16)) rfl (q_move rfl rfl) (SOps.q rfl (.guard 4 14 false rfl rfl (gF g16)) rfl (q_index_str rfl rfl rfl un9 g17.1 g17.2) (SOps.q rfl (.guard 4 14 false rfl rfl (gF g16)) rfl (q_gtr rfl rfl rfl) (sq rfl rfl (q_pick_f rfl rfl g16 rfl) (SOps.nil ?_)))))))))))
    rcases cond_out h with ⟨g18, h⟩ | ⟨g18, h⟩
    ·refine SCode.cond_t rfl g18 (SCode.seq (SCode.region (sa rfl rfl (SOps.nil (SCode.ret ?_)))))
     obtain rfl := Option.some.inj h
     exact ⟨⟨[(2, .c (.bool false))], []⟩, _, sub_gen [] rfl rfl (zall rfl rfl) trivial, resA1 (v := .c (.bool false)) rfl rfl, rfl⟩
    refine SCode.cond_f rfl g18 (SCode.skip (SCode.region (sm rfl rfl (sq rfl rfl (q_add rfl rfl rfl) (sa rfl rfl (SOps.nil ?_))))))
    exact ⟨(n_13, IntKind.wrap .i64 (i_7 + 1)), h, Nat.lt_succ_self n_13, sub_gen [] rfl rfl (zall rfl rfl) trivial⟩
   refine SCode.cond_f rfl g14 (SCode.exit ?_)
   exact ⟨(), h, sub_gen [] rfl rfl (zall rfl rfl) trivial⟩
 rintro ⟨⟩ h
 show SCode _ _ _ S3 _
 try dsimp only at h
 unfold chargenetref46_currency_p1 at h
 refine SCode.seq (SCode.region (sm rfl rfl (sq rfl rfl (q_len_str rfl rfl un9) (sq rfl rfl (q_eql rfl rfl rfl) (sa rfl rfl (SOps.nil (SCode.ret ?_)))))))
 obtain rfl := Option.some.inj h
 exact ⟨⟨[(2, .c (.bool (decide ((a0_s.size : Int) = 3))))], []⟩, _, sub_gen [] rfl rfl (zall rfl rfl) trivial, resA1 (v := .c (.bool (decide ((a0_s.size : Int) = 3)))) rfl rfl, rfl⟩
theorem chargenetref46_item_ok (F : Nat) (a0_x : SItem) (r : Bool) (h : chargenetref46_item F a0_x = some r) :
  SFun Try.prog 36 [] [.a (bSItem a0_x)] (fun x _ => x = .c (.bool r)) := by
 refine SFun.of (n := 41) Try.func36 rfl rfl rfl ?_
 unfold chargenetref46_item at h
 show SCode _ _ _ ⟨[(0, .a (bSItem a0_x))], []⟩ _
 refine SCode.seq (SCode.region (se rfl rfl (e_box rfl rfl rfl rfl rfl rfl) (sa rfl rfl (SOps.nil (SCode.seq ?_)))))
 obtain ⟨c_1, g2, h⟩ := bind_out h
 try dsimp only at h
 rcases cond_out h with ⟨g3, h⟩ | ⟨g3, h⟩
 ·obtain ⟨c_4, g5, h⟩ := bind_out h
  try dsimp only at h
  rcases cond_out h with ⟨g6, h⟩ | ⟨g6, h⟩
  ·obtain ⟨c_7, g8, h⟩ := bind_out h
   try dsimp only at h
   rcases cond_out h with ⟨g9, h⟩ | ⟨g9, h⟩
   ·obtain ⟨c_10, g11, h⟩ := bind_out h
    try dsimp only at h
    rcases cond_out h with ⟨g12, h⟩ | ⟨g12, h⟩
    ·obtain ⟨c_13, g14, h⟩ := bind_out h
     try dsimp only at h
     rcases cond_out h with ⟨g15, h⟩ | ⟨g15, h⟩
     ·obtain ⟨c_16, g17, h⟩ := bind_out h
      try dsimp only at h
      rcases cond_out h with ⟨g18, h⟩ | ⟨g18, h⟩
      ·refine SCode.region (sq rfl rfl (q_field_ptr rfl rfl fd81_0) (sq rfl rfl (q_load_ptr rfl rfl rfl rfl ty3) (sq rfl rfl (q_call (chargenetref46_in_ok F a0_x.Kind 1 4 c_1 g2) [] rfl fn34 ⟨⟨_, rfl, .inl ⟨rfl, rfl⟩⟩, ⟨_, rfl, .inl ⟨rfl, rfl⟩⟩, ⟨_, rfl, .inl ⟨rfl, rfl⟩⟩, trivial⟩ (.inl rfl)) (sm rfl rfl (SOps.q rfl (.guard 3 6 true rfl rfl (gT g3)) rfl (q_field_ptr rfl rfl fd81_2) (SOps.q rfl (.guard 3 6 true rfl rfl (gT g3)) rfl (q_load_ptr rfl rfl rfl rfl ty3) (SOps.q rfl (.guard 3 6 true rfl rfl (gT g3)) rfl (q_call (chargenetref46_in_ok F a0_x.Tax 0 10000 c_4 g5) [] rfl fn34 ⟨⟨_, rfl, .inl ⟨rfl, rfl⟩⟩, ⟨_, rfl, .inl ⟨rfl, rfl⟩⟩, ⟨_, rfl, .inl ⟨rfl, rfl⟩⟩, trivial⟩ (.inl rfl)) (sq rfl rfl (q_pick_t rfl rfl g3 rfl) (sm rfl rfl (SOps.q rfl (.guard 8 11 true rfl rfl (gT g6)) rfl (q_field_ptr rfl rfl fd81_4) (SOps.q rfl (.guard 8 11 true rfl rfl (gT g6)) rfl (q_load_ptr rfl rfl rfl rfl ty3) (SOps.q rfl (.guard 8 11 true rfl rfl (gT g6)) rfl (q_call (chargenetref46_in_ok F a0_x.Net ((-36028797018963968)) 36028797018963968 c_7 g8) [] rfl fn34 ⟨⟨_, rfl, .inl ⟨rfl, rfl⟩⟩, ⟨_, rfl, .inl ⟨rfl, rfl⟩⟩, ⟨_, rfl, .inl ⟨rfl, rfl⟩⟩, trivial⟩ (.inl rfl)) (sq rfl rfl (q_pick_t rfl rfl g6 rfl) (sm rfl rfl (SOps.q rfl (.guard 13 16 true rfl rfl (gT g9)) rfl (q_field_ptr rfl rfl fd81_5) ?_)))))))))))))))
       refine SOps.q rfl (.guard 13 16 true rfl rfl (gT g9)) rfl (q_load_ptr rfl rfl rfl rfl ty3) (SOps.q rfl (.guard 13 16 true rfl rfl (gT g9)) rfl (q_call (chargenetref46_in_ok F a0_x.Vat ((-36028797018963968)) 36028797018963968 c_10 g11) [] rfl fn34 ⟨⟨_, rfl, .inl ⟨rfl, rfl⟩⟩, ⟨_, rfl, .inl ⟨rfl, rfl⟩⟩, ⟨_, rfl, .inl ⟨rfl, rfl⟩⟩, trivial⟩ (.inl rfl)) (sq rfl rfl (q_pick_t rfl rfl g9 rfl) (sm rfl rfl (SOps.q rfl (.guard 18 21 true rfl rfl (gT g12)) rfl (q_field_ptr rfl rfl fd81_1) (SOps.q rfl (.guard 18 21 true rfl rfl (gT g12)) rfl (q_load_ptr rfl rfl rfl rfl ty3) (SOps.q rfl (.guard 18 21 true rfl rfl (gT g12)) rfl (q_call (chargenetref46_in_ok F a0_x.Price ((-36028797018963968)) 36028797018963968 c_13 g14) [] rfl fn34 ⟨⟨_, rfl, .inl ⟨rfl, rfl⟩⟩, ⟨_, rfl, .inl ⟨rfl, rfl⟩⟩, ⟨_, rfl, .inl ⟨rfl, rfl⟩⟩, trivial⟩ (.inl rfl)) (sq rfl rfl (q_pick_t rfl rfl g12 rfl) (sm rfl rfl (SOps.q rfl (.guard 23 26 true rfl rfl (gT g15)) rfl (q_field_ptr rfl rfl fd81_3) (SOps.q rfl (.guard 23 26 true rfl rfl (gT g15)) rfl (q_load_ptr rfl rfl rfl rfl ty3) (SOps.q rfl (.guard 23 26 true rfl rfl (gT g15)) rfl (q_call (chargenetref46_in_ok F a0_x.Quantity 0 36028797018963968 c_16 g17) [] rfl fn34 ⟨⟨_, rfl, .inl ⟨rfl, rfl⟩⟩, ⟨_, rfl, .inl ⟨rfl, rfl⟩⟩, ⟨_, rfl, .inl ⟨rfl, rfl⟩⟩, trivial⟩ (.inl rfl)) (sq rfl rfl (q_pick_t rfl rfl g15 rfl) (sm rfl rfl (SOps.q rfl (.guard 28 31 true rfl rfl (gT g18)) rfl (q_field_ptr rfl rfl fd81_6) (SOps.q rfl (.guard 28 31 true rfl rfl (gT g18)) rfl (q_load_ptr rfl rfl rfl rfl ty3) ?_)))))))))))))))
       refine SOps.q rfl (.guard 28 31 true rfl rfl (gT g18)) rfl (q_field_ptr rfl rfl fd81_4) (SOps.q rfl (.guard 28 31 true rfl rfl (gT g18)) rfl (q_load_ptr rfl rfl rfl rfl ty3) (SOps.q rfl (.guard 28 31 true rfl rfl (gT g18)) rfl (q_field_ptr rfl rfl fd81_5) (SOps.q rfl (.guard 28 31 true rfl rfl (gT g18)) rfl (q_load_ptr rfl rfl rfl rfl ty3) (SOps.q rfl (.guard 28 31 true rfl rfl (gT g18)) rfl (q_add rfl rfl rfl) (SOps.q rfl (.guard 28 31 true rfl rfl (gT g18)) rfl (q_eql rfl rfl rfl) (sq rfl rfl (q_pick_t rfl rfl g18 rfl) (sa rfl rfl (SOps.sub (st' := ⟨[(2, .c (.bool (decide (a0_x.Gross = IntKind.wrap .i64 (a0_x.Net + a0_x.Vat)))))], []⟩) (sub_gen [] rfl rfl (zall rfl rfl) trivial) (SOps.nil (SCode.ret ?_))))))))))
       obtain rfl := Option.some.inj h
       exact ⟨⟨[(2, .c (.bool (decide (a0_x.Gross = IntKind.wrap .i64 (a0_x.Net + a0_x.Vat)))))], []⟩, _, sub_gen [] rfl rfl (zall rfl rfl) trivial, resA1 (v := .c (.bool (decide (a0_x.Gross = IntKind.wrap .i64 (a0_x.Net + a0_x.Vat))))) rfl rfl, rfl⟩
      refine SCode.region (sq rfl rfl (q_field_ptr rfl rfl fd81_0) (sq rfl rfl (q_load_ptr rfl rfl rfl rfl ty3) (sq rfl rfl (q_call (chargenetref46_in_ok F a0_x.Kind 1 4 c_1 g2) [] rfl fn34 ⟨⟨_, rfl, .inl ⟨rfl, rfl⟩⟩, ⟨_, rfl, .inl ⟨rfl, rfl⟩⟩, ⟨_, rfl, .inl ⟨rfl, rfl⟩⟩, trivial⟩ (.inl rfl)) (sm rfl rfl (SOps.q rfl (.guard 3 6 true rfl rfl (gT g3)) rfl (q_field_ptr rfl rfl fd81_2) (SOps.q rfl (.guard 3 6 true rfl rfl (gT g3)) rfl (q_load_ptr rfl rfl rfl rfl ty3) (SOps.q rfl (.guard 3 6 true rfl rfl (gT g3)) rfl (q_call (chargenetref46_in_ok F a0_x.Tax 0 10000 c_4 g5) [] rfl fn34 ⟨⟨_, rfl, .inl ⟨rfl, rfl⟩⟩, ⟨_, rfl, .inl ⟨rfl, rfl⟩⟩, ⟨_, rfl, .inl ⟨rfl, rfl⟩⟩, trivial⟩ (.inl rfl)) (sq rfl rfl (q_pick_t rfl rfl g3 rfl) (sm rfl rfl (SOps.q rfl (.guard 8 11 true rfl rfl (gT g6)) rfl (q_field_ptr rfl rfl fd81_4) (SOps.q rfl (.guard 8 11 true rfl rfl (gT g6)) rfl (q_load_ptr rfl rfl rfl rfl ty3) (SOps.q rfl (.guard 8 11 true rfl rfl (gT g6)) rfl (q_call (chargenetref46_in_ok F a0_x.Net ((-36028797018963968)) 36028797018963968 c_7 g8) [] rfl fn34 ⟨⟨_, rfl, .inl ⟨rfl, rfl⟩⟩, ⟨_, rfl, .inl ⟨rfl, rfl⟩⟩, ⟨_, rfl, .inl ⟨rfl, rfl⟩⟩, trivial⟩ (.inl rfl)) (sq rfl rfl (q_pick_t rfl rfl g6 rfl) (sm rfl rfl (SOps.q rfl (.guard 13 16 true rfl rfl (gT g9)) rfl (q_field_ptr rfl rfl fd81_5) ?_)))))))))))))))
      refine SOps.q rfl (.guard 13 16 true rfl rfl (gT g9)) rfl (q_load_ptr rfl rfl rfl rfl ty3) (SOps.q rfl (.guard 13 16 true rfl rfl (gT g9)) rfl (q_call (chargenetref46_in_ok F a0_x.Vat ((-36028797018963968)) 36028797018963968 c_10 g11) [] rfl fn34 ⟨⟨_, rfl, .inl ⟨rfl, rfl⟩⟩, ⟨_, rfl, .inl ⟨rfl, rfl⟩⟩, ⟨_, rfl, .inl ⟨rfl, rfl⟩⟩, trivial⟩ (.inl rfl)) (sq rfl rfl (q_pick_t rfl rfl g9 rfl) (sm rfl rfl (SOps.q rfl (.guard 18 21 true rfl rfl (gT g12)) rfl (q_field_ptr rfl rfl fd81_1) (SOps.q rfl (.guard 18 21 true rfl rfl (gT g12)) rfl (q_load_ptr rfl rfl rfl rfl ty3) (SOps.q rfl (.guard 18 21 true rfl rfl (gT g12)) rfl (q_call (chargenetref46_in_ok F a0_x.Price ((-36028797018963968)) 36028797018963968 c_13 g14) [] rfl fn34 ⟨⟨_, rfl, .inl ⟨rfl, rfl⟩⟩, ⟨_, rfl, .inl ⟨rfl, rfl⟩⟩, ⟨_, rfl, .inl ⟨rfl, rfl⟩⟩, trivial⟩ (.inl rfl)) (sq rfl rfl (q_pick_t rfl rfl g12 rfl) (sm rfl rfl (SOps.q rfl (.guard 23 26 true rfl rfl (gT g15)) rfl (q_field_ptr rfl rfl fd81_3) (SOps.q rfl (.guard 23 26 true rfl rfl (gT g15)) rfl (q_load_ptr rfl rfl rfl rfl ty3) (SOps.q rfl (.guard 23 26 true rfl rfl (gT g15)) rfl (q_call (chargenetref46_in_ok F a0_x.Quantity 0 36028797018963968 c_16 g17) [] rfl fn34 ⟨⟨_, rfl, .inl ⟨rfl, rfl⟩⟩, ⟨_, rfl, .inl ⟨rfl, rfl⟩⟩, ⟨_, rfl, .inl ⟨rfl, rfl⟩⟩, trivial⟩ (.inl rfl)) (sq rfl rfl (q_pick_t rfl rfl g15 rfl) (sm rfl rfl (SOps.skip rfl 28 31 true rfl rfl (.inl (gF g18)) rfl (SOps.skip rfl 28 31 true rfl rfl (.inl (gF g18)) rfl ?_)))))))))))))))
      refine SOps.skip rfl 28 31 true rfl rfl (.inl (gF g18)) rfl (SOps.skip rfl 28 31 true rfl rfl (.inl (gF g18)) rfl (SOps.skip rfl 28 31 true rfl rfl (.inl (gF g18)) rfl (SOps.skip rfl 28 31 true rfl rfl (.inl (gF g18)) rfl (SOps.skip rfl 28 31 true rfl rfl (.inl (gF g18)) rfl (SOps.skip rfl 28 31 true rfl rfl (.inl (gF g18)) rfl (sq rfl rfl (q_pick_f rfl rfl g18 rfl) (sa rfl rfl (SOps.sub (st' := ⟨[(2, .c (.bool false))], []⟩) (sub_gen [] rfl rfl (zall rfl rfl) trivial) (SOps.nil (SCode.ret ?_))))))))))
      obtain rfl := Option.some.inj h
      exact ⟨⟨[(2, .c (.bool false))], []⟩, _, sub_gen [] rfl rfl (zall rfl rfl) trivial, resA1 (v := .c (.bool false)) rfl rfl, rfl⟩
     refine SCode.region (sq rfl rfl (q_field_ptr rfl rfl fd81_0) (sq rfl rfl (q_load_ptr rfl rfl rfl rfl ty3) (sq rfl rfl (q_call (chargenetref46_in_ok F a0_x.Kind 1 4 c_1 g2) [] rfl fn34 ⟨⟨_, rfl, .inl ⟨rfl, rfl⟩⟩, ⟨_, rfl, .inl ⟨rfl, rfl⟩⟩, ⟨_, rfl, .inl ⟨rfl, rfl⟩⟩, trivial⟩ (.inl rfl)) (sm rfl rfl (SOps.q rfl (.guard 3 6 true rfl rfl (gT g3)) rfl (q_field_ptr rfl rfl fd81_2) (SOps.q rfl (.guard 3 6 true rfl rfl (gT g3)) rfl (q_load_ptr rfl rfl rfl rfl ty3) (SOps.q rfl (.guard 3 6 true rfl rfl (gT g3)) rfl (q_call (chargenetref46_in_ok F a0_x.Tax 0 10000 c_4 g5) [] rfl fn34 ⟨⟨_, rfl, .inl ⟨rfl, rfl⟩⟩, ⟨_, rfl, .inl ⟨rfl, rfl⟩⟩, ⟨_, rfl, .inl ⟨rfl, rfl⟩⟩, trivial⟩ (.inl rfl)) (sq rfl rfl (q_pick_t rfl rfl g3 rfl) (sm rfl rfl (SOps.q rfl (.guard 8 11 true rfl rfl (gT g6)) rfl (q_field_ptr rfl rfl fd81_4) (SOps.q rfl (.guard 8 11 true rfl rfl (gT g6)) rfl (q_load_ptr rfl rfl rfl rfl ty3) (SOps.q rfl (.guard 8 11 true rfl rfl (gT g6)) rfl (q_call (chargenetref46_in_ok F a0_x.Net ((-36028797018963968)) 36028797018963968 c_7 g8) [] rfl fn34 ⟨⟨_, rfl, .inl ⟨rfl, rfl⟩⟩, ⟨_, rfl, .inl ⟨rfl, rfl⟩⟩, ⟨_, rfl, .inl ⟨rfl, rfl⟩⟩, trivial⟩ (.inl rfl)) (sq rfl rfl (q_pick_t rfl rfl g6 rfl) (sm rfl rfl (SOps.q rfl (.guard 13 16 true rfl rfl (gT g9)) rfl (q_field_ptr rfl rfl fd81_5) ?_)))))))))))))))
     refine SOps.q rfl (.guard 13 16 true rfl rfl (gT g9)) rfl (q_load_ptr rfl rfl rfl rfl ty3) (SOps.q rfl (.guard 13 16 true rfl rfl (gT g9)) rfl (q_call (chargenetref46_in_ok F a0_x.Vat ((-36028797018963968)) 36028797018963968 c_10 g11) [] rfl fn34 ⟨⟨_, rfl, .inl ⟨rfl, rfl⟩⟩, ⟨_, rfl, .inl ⟨rfl, rfl⟩⟩, ⟨_, rfl, .inl ⟨rfl, rfl⟩⟩, trivial⟩ (.inl rfl)) (sq rfl rfl (q_pick_t rfl rfl g9 rfl) (sm rfl rfl (SOps.q rfl (.guard 18 21 true rfl rfl (gT g12)) rfl (q_field_ptr rfl rfl fd81_1) (SOps.q rfl (.guard 18 21 true rfl rfl (gT g12)) rfl (q_load_ptr rfl rfl rfl rfl ty3) (SOps.q rfl (.guard 18 21 true rfl rfl (gT g12)) rfl (q_call (chargenetref46_in_ok F a0_x.Price ((-36028797018963968)) 36028797018963968 c_13 g14) [] rfl fn34 ⟨⟨_, rfl, .inl ⟨rfl, rfl⟩⟩, ⟨_, rfl, .inl ⟨rfl, rfl⟩⟩, ⟨_, rfl, .inl ⟨rfl, rfl⟩⟩, trivial⟩ (.inl rfl)) (sq rfl rfl (q_pick_t rfl rfl g12 rfl) (sm rfl rfl (SOps.skip rfl 23 26 true rfl rfl (.inl (gF g15)) rfl (SOps.skip rfl 23 26 true rfl rfl (.inl (gF g15)) rfl (SOps.skip rfl 23 26 true rfl rfl (.inl (gF g15)) rfl (sq rfl rfl (q_pick_f rfl rfl g15 rfl) (sm rfl rfl (SOps.skip rfl 28 31 true rfl rfl (.inl rfl) rfl (SOps.skip rfl 28 31 true rfl rfl (.inl rfl) rfl ?_)))))))))))))))
     refine SOps.skip rfl 28 31 true rfl rfl (.inl rfl) rfl (SOps.skip rfl 28 31 true rfl rfl (.inl rfl) rfl (SOps.skip rfl 28 31 true rfl rfl (.inl rfl) rfl (SOps.skip rfl 28 31 true rfl rfl (.inl rfl) rfl (SOps.skip rfl 28 31 true rfl rfl (.inl rfl) rfl (SOps.skip rfl 28 31 true rfl rfl (.inl rfl) rfl (sq rfl rfl (q_pick_f rfl rfl rfl rfl) (sa rfl rfl (SOps.sub (st' := ⟨[(2, .c (.bool false))], []⟩) (sub_gen [] rfl rfl (zall rfl rfl) trivial) (SOps.nil (SCode.ret ?_))))))))))
     obtain rfl := Option.some.inj h
     exact ⟨⟨[(2, .c (.bool false))], []⟩, _, sub_gen [] rfl rfl (zall rfl rfl) trivial, resA1 (v := .c (.bool false)) rfl rfl, rfl⟩
    refine SCode.region (sq rfl rfl (q_field_ptr rfl rfl fd81_0) (sq rfl rfl (q_load_ptr rfl rfl rfl rfl ty3) (sq rfl rfl (q_call (chargenetref46_in_ok F a0_x.Kind 1 4 c_1 g2) [] rfl fn34 ⟨⟨_, rfl, .inl ⟨rfl, rfl⟩⟩, ⟨_, rfl, .inl ⟨rfl, rfl⟩⟩, ⟨_, rfl, .inl ⟨rfl, rfl⟩⟩, trivial⟩ (.inl rfl)) (sm rfl rfl (SOps.q rfl (.guard 3 6 true rfl rfl (gT g3)) rfl (q_field_ptr rfl rfl fd81_2) (SOps.q rfl (.guard 3 6 true rfl rfl (gT g3)) rfl (q_load_ptr rfl rfl rfl rfl ty3) (SOps.q rfl (.guard 3 6 true rfl rfl (gT g3)) rfl (q_call (chargenetref46_in_ok F a0_x.Tax 0 10000 c_4 g5) [] rfl fn34 ⟨⟨_, rfl, .inl ⟨rfl, rfl⟩⟩, ⟨_, rfl, .inl ⟨rfl, rfl⟩⟩, ⟨_, rfl, .inl ⟨rfl, rfl⟩⟩, trivial⟩ (.inl rfl)) (sq rfl rfl (q_pick_t rfl rfl g3 rfl) (sm rfl rfl (SOps.q rfl (.guard 8 11 true rfl rfl (gT g6)) rfl (q_field_ptr rfl rfl fd81_4) (SOps.q rfl (.guard 8 11 true rfl rfl (gT g6)) rfl (q_load_ptr rfl rfl rfl rfl ty3) (SOps.q rfl (.guard 8 11 true rfl rfl (gT g6)) rfl (q_call (chargenetref46_in_ok F a0_x.Net ((-36028797018963968)) 36028797018963968 c_7 g8) [] rfl fn34 ⟨⟨_, rfl, .inl ⟨rfl, rfl⟩⟩, ⟨_, rfl, .inl ⟨rfl, rfl⟩⟩, ⟨_, rfl, .inl ⟨rfl, rfl⟩⟩, trivial⟩ (.inl rfl)) (sq rfl rfl (q_pick_t rfl rfl g6 rfl) (sm rfl rfl (SOps.q rfl (.guard 13 16 true rfl rfl (gT g9)) rfl (q_field_ptr rfl rfl fd81_5) ?_)))))))))))))))
    refine SOps.q rfl (.guard 13 16 true rfl rfl (gT g9)) rfl (q_load_ptr rfl rfl rfl rfl ty3) (SOps.q rfl (.guard 13 16 true rfl rfl (gT g9)) rfl (q_call (chargenetref46_in_ok F a0_x.Vat ((-36028797018963968)) 36028797018963968 c_10 g11) [] rfl fn34 ⟨⟨_, rfl, .inl ⟨rfl, rfl⟩⟩, ⟨_, rfl, .inl ⟨rfl, rfl⟩⟩, ⟨_, rfl, .inl ⟨rfl, rfl⟩⟩, trivial⟩ (.inl rfl)) (sq rfl rfl (q_pick_t rfl rfl g9 rfl) (sm rfl rfl (SOps.skip rfl 18 21 true rfl rfl (.inl (gF g12)) rfl (SOps.skip rfl 18 21 true rfl rfl (.inl (gF g12)) rfl (SOps.skip rfl 18 21 true rfl rfl (.inl (gF g12)) rfl (sq rfl rfl (q_pick_f rfl rfl g12 rfl) (sm rfl rfl (SOps.skip rfl 23 26 true rfl rfl (.inl rfl) rfl (SOps.skip rfl 23 26 true rfl rfl (.inl rfl) rfl (SOps.skip rfl 23 26 true rfl rfl (.inl rfl) rfl (sq rfl rfl (q_pick_f rfl rfl rfl rfl) (sm rfl rfl (SOps.skip rfl 28 31 true rfl rfl (.inl rfl) rfl (SOps.skip rfl 28 31 true rfl rfl (.inl rfl) rfl ?_)))))))))))))))
    refine SOps.skip rfl 28 31 true rfl rfl (.inl rfl) rfl (SOps.skip rfl 28 31 true rfl rfl (.inl rfl) rfl (SOps.skip rfl 28 31 true rfl rfl (.inl rfl) rfl (SOps.skip rfl 28 31 true rfl rfl (.inl rfl) rfl (SOps.skip rfl 28 31 true rfl rfl (.inl rfl) rfl (SOps.skip rfl 28 31 true rfl rfl (.inl rfl) rfl (sq rfl rfl (q_pick_f rfl rfl rfl rfl) (sa rfl rfl (SOps.sub (st' := ⟨[(2, .c (.bool false))], []⟩) (sub_gen [] rfl rfl (zall rfl rfl) trivial) (SOps.nil (SCode.ret ?_))))))))))
    obtain rfl := Option.some.inj h
    exact ⟨⟨[(2, .c (.bool false))], []⟩, _, sub_gen [] rfl rfl (zall rfl rfl) trivial, resA1 (v := .c (.bool false)) rfl rfl, rfl⟩
   refine SCode.region (sq rfl rfl (q_field_ptr rfl rfl fd81_0) (sq rfl rfl (q_load_ptr rfl rfl rfl rfl ty3) (sq rfl rfl (q_call (chargenetref46_in_ok F a0_x.Kind 1 4 c_1 g2) [] rfl fn34 ⟨⟨_, rfl, .inl ⟨rfl, rfl⟩⟩, ⟨_, rfl, .inl ⟨rfl, rfl⟩⟩, ⟨_, rfl, .inl ⟨rfl, rfl⟩⟩, trivial⟩ (.inl rfl)) (sm rfl rfl (SOps.q rfl (.guard 3 6 true rfl rfl (gT g3)) rfl (q_field_ptr rfl rfl fd81_2) (SOps.q rfl (.guard 3 6 true rfl rfl (gT g3)) rfl (q_load_ptr rfl rfl rfl rfl ty3) (SOps.q rfl (.guard 3 6 true rfl rfl (gT g3)) rfl (q_call (chargenetref46_in_ok F a0_x.Tax 0 10000 c_4 g5) [] rfl fn34 ⟨⟨_, rfl, .inl ⟨rfl, rfl⟩⟩, ⟨_, rfl, .inl ⟨rfl, rfl⟩⟩, ⟨_, rfl, .inl ⟨rfl, rfl⟩⟩, trivial⟩ (.inl rfl)) (sq rfl rfl (q_pick_t rfl rfl g3 rfl) (sm rfl rfl (SOps.q rfl (.guard 8 11 true rfl rfl (gT g6)) rfl (q_field_ptr rfl rfl fd81_4) (SOps.q rfl (.guard 8 11 true rfl rfl (gT g6)) rfl (q_load_ptr rfl rfl rfl rfl ty3) (SOps.q rfl (.guard 8 11 true rfl rfl (gT g6)) rfl (q_call (chargenetref46_in_ok F a0_x.Net ((-36028797018963968)) 36028797018963968 c_7 g8) [] rfl fn34 ⟨⟨_, rfl, .inl ⟨rfl, rfl⟩⟩, ⟨_, rfl, .inl ⟨rfl, rfl⟩⟩, ⟨_, rfl, .inl ⟨rfl, rfl⟩⟩, trivial⟩ (.inl rfl)) (sq rfl rfl (q_pick_t rfl rfl g6 rfl) (sm rfl rfl (SOps.skip rfl 13 16 true rfl rfl (.inl (gF g9)) rfl ?_)))))))))))))))
   refine SOps.skip rfl 13 16 true rfl rfl (.inl (gF g9)) rfl (SOps.skip rfl 13 16 true rfl rfl (.inl (gF g9)) rfl (sq rfl rfl (q_pick_f rfl rfl g9 rfl) (sm rfl rfl (SOps.skip rfl 18 21 true rfl rfl (.inl rfl) rfl (SOps.skip rfl 18 21 true rfl rfl (.inl rfl) rfl (SOps.skip rfl 18 21 true rfl rfl (.inl rfl) rfl (sq rfl rfl (q_pick_f rfl rfl rfl rfl) (sm rfl rfl (SOps.skip rfl 23 26 true rfl rfl (.inl rfl) rfl (SOps.skip rfl 23 26 true rfl rfl (.inl rfl) rfl (SOps.skip rfl 23 26 true rfl rfl (.inl rfl) rfl (sq rfl rfl (q_pick_f rfl rfl rfl rfl) (sm rfl rfl (SOps.skip rfl 28 31 true rfl rfl (.inl rfl) rfl (SOps.skip rfl 28 31 true rfl rfl (.inl rfl) rfl ?_)))))))))))))))
   refine SOps.skip rfl 28 31 true rfl rfl (.inl rfl) rfl (SOps.skip rfl 28 31 true rfl rfl (.inl rfl) rfl (SOps.skip rfl 28 31 true rfl rfl (.inl rfl) rfl (SOps.skip rfl 28 31 true rfl rfl (.inl rfl) rfl (SOps.skip rfl 28 31 true rfl rfl (.inl rfl) rfl (SOps.skip rfl 28 31 true rfl rfl (.inl rfl) rfl (sq rfl rfl (q_pick_f rfl rfl rfl rfl) (sa rfl rfl (SOps.sub (st' := ⟨[(2, .c (.bool false))], []⟩) (sub_gen [] rfl rfl (zall rfl rfl) trivial) (SOps.nil (SCode.ret ?_))))))))))
   obtain rfl := Option.some.inj h
   exact ⟨⟨[(2, .c (.bool false))], []⟩, _, sub_gen [] rfl rfl (zall rfl rfl) trivial, resA1 (v := .c (.bool false)) rfl rfl, rfl⟩
  refine SCode.region (sq rfl rfl (q_field_ptr rfl rfl fd81_0) (sq rfl rfl (q_load_ptr rfl rfl rfl rfl ty3) (sq rfl rfl (q_call (chargenetref46_in_ok F a0_x.Kind 1 4 c_1 g2) [] rfl fn34 ⟨⟨_, rfl, .inl ⟨rfl, rfl⟩⟩, ⟨_, rfl, .inl ⟨rfl, rfl⟩⟩, ⟨_, rfl, .inl ⟨rfl, rfl⟩⟩, trivial⟩ (.inl rfl)) (sm rfl rfl (SOps.q rfl (.guard 3 6 true rfl rfl (gT g3)) rfl (q_field_ptr rfl rfl fd81_2) (SOps.q rfl (.guard 3 6 true rfl rfl (gT g3)) rfl (q_load_ptr rfl rfl rfl rfl ty3) (SOps.q rfl (.guard 3 6 true rfl rfl (gT g3)) rfl (q_call (chargenetref46_in_ok F a0_x.Tax 0 10000 c_4 g5) [] rfl fn34 ⟨⟨_, rfl, .inl ⟨rfl, rfl⟩⟩, ⟨_, rfl, .inl ⟨rfl, rfl⟩⟩, ⟨_, rfl, .inl ⟨rfl, rfl⟩⟩, trivial⟩ (.inl rfl)) (sq rfl rfl (q_pick_t rfl rfl g3 rfl) (sm rfl rfl (SOps.skip rfl 8 11 true rfl rfl (.inl (gF g6)) rfl (SOps.skip rfl 8 11 true rfl rfl (.inl (gF g6)) rfl (SOps.skip rfl 8 11 true rfl rfl (.inl (gF g6)) rfl (sq rfl rfl (q_pick_f rfl rfl g6 rfl) (sm rfl rfl (SOps.skip rfl 13 16 true rfl rfl (.inl rfl) rfl ?_)))))))))))))))
  refine SOps.skip rfl 13 16 true rfl rfl (.inl rfl) rfl (SOps.skip rfl 13 16 true rfl rfl (.inl rfl) rfl (sq rfl rfl (q_pick_f rfl rfl rfl rfl) (sm rfl rfl (SOps.skip rfl 18 21 true rfl rfl (.inl rfl) rfl (SOps.skip rfl 18 21 true rfl rfl (.inl rfl) rfl (SOps.skip rfl 18 21 true rfl rfl (.inl rfl) rfl (sq rfl rfl (q_pick_f rfl rfl rfl rfl) (sm rfl rfl (SOps.skip rfl 23 26 true rfl rfl (.inl rfl) rfl (SOps.skip rfl 23 26 true rfl rfl (.inl rfl) rfl (SOps.skip rfl 23 26 true rfl rfl (.inl rfl) rfl (sq rfl rfl (q_pick_f rfl rfl rfl rfl) (sm rfl rfl (SOps.skip rfl 28 31 true rfl rfl (.inl rfl) rfl (SOps.skip rfl 28 31 true rfl rfl (.inl rfl) rfl ?_)))))))))))))))
  refine SOps.skip rfl 28 31 true rfl rfl (.inl rfl) rfl (SOps.skip rfl 28 31 true rfl rfl (.inl rfl) rfl (SOps.skip rfl 28 31 true rfl rfl (.inl rfl) rfl (SOps.skip rfl 28 31 true rfl rfl (.inl rfl) rfl (SOps.skip rfl 28 31 true rfl rfl (.inl rfl) rfl (SOps.skip rfl 28 31 true rfl rfl (.inl rfl) rfl (sq rfl rfl (q_pick_f rfl rfl rfl rfl) (sa rfl rfl (SOps.sub (st' := ⟨[(2, .c (.bool false))], []⟩) (sub_gen [] rfl rfl (zall rfl rfl) trivial) (SOps.nil (SCode.ret ?_))))))))))
  obtain rfl := Option.some.inj h
  exact ⟨⟨[(2, .c (.bool false))], []⟩, _, sub_gen [] rfl rfl (zall rfl rfl) trivial, resA1 (v := .c (.bool false)) rfl rfl, rfl⟩
 refine SCode.region (sq rfl rfl (q_field_ptr rfl rfl fd81_0) (sq rfl rfl (q_load_ptr rfl rfl rfl rfl ty3) (sq rfl rfl (q_call (chargenetref46_in_ok F a0_x.Kind 1 4 c_1 g2) [] rfl fn34 ⟨⟨_, rfl, .inl ⟨rfl, rfl⟩⟩, ⟨_, rfl, .inl ⟨rfl, rfl⟩⟩, ⟨_, rfl, .inl ⟨rfl, rfl⟩⟩, trivial⟩ (.inl rfl)) (sm rfl rfl (SOps.skip rfl 3 6 true rfl rfl (.inl (gF g3)) rfl (SOps.skip rfl 3 6 true rfl rfl (.inl (gF g3)) rfl (SOps.skip rfl 3 6 true rfl rfl (.inl (gF g3)) rfl (sq rfl rfl (q_pick_f rfl rfl g3 rfl) (sm rfl rfl (SOps.skip rfl 8 11 true rfl rfl (.inl rfl) rfl (SOps.skip rfl 8 11 true rfl rfl (.inl rfl) rfl (SOps.skip rfl 8 11 true rfl rfl (.inl rfl) rfl (sq rfl rfl (q_pick_f rfl rfl rfl rfl) (sm rfl rfl (SOps.skip rfl 13 16 true rfl rfl (.inl rfl) rfl ?_)))))))))))))))
 refine SOps.skip rfl 13 16 true rfl rfl (.inl rfl) rfl (SOps.skip rfl 13 16 true rfl rfl (.inl rfl) rfl (sq rfl rfl (q_pick_f rfl rfl rfl rfl) (sm rfl rfl (SOps.skip rfl 18 21 true rfl rfl (.inl rfl) rfl (SOps.skip rfl 18 21 true rfl rfl (.inl rfl) rfl (SOps.skip rfl 18 21 true rfl rfl (.inl rfl) rfl (sq rfl rfl (q_pick_f rfl rfl rfl rfl) (sm rfl rfl (SOps.skip rfl 23 26 true rfl rfl (.inl rfl) rfl (SOps.skip rfl 23 26 true rfl rfl (.inl rfl) rfl (SOps.skip rfl 23 26 true rfl rfl (.inl rfl) rfl (sq rfl rfl (q_pick_f rfl rfl rfl rfl) (sm rfl rfl (SOps.skip rfl 28 31 true rfl rfl (.inl rfl) rfl (SOps.skip rfl 28 31 true rfl rfl (.inl rfl) rfl ?_)))))))))))))))
 refine SOps.skip rfl 28 31 true rfl rfl (.inl rfl) rfl (SOps.skip rfl 28 31 true rfl rfl (.inl rfl) rfl (SOps.skip rfl 28 31 true rfl rfl (.inl rfl) rfl (SOps.skip rfl 28 31 true rfl rfl (.inl rfl) rfl (SOps.skip rfl 28 31 true rfl rfl (.inl rfl) rfl (SOps.skip rfl 28 31 true rfl rfl (.inl rfl) rfl (sq rfl rfl (q_pick_f rfl rfl rfl rfl) (sa rfl rfl (SOps.sub (st' := ⟨[(2, .c (.bool false))], []⟩) (sub_gen [] rfl rfl (zall rfl rfl) trivial) (SOps.nil (SCode.ret ?_))))))))))
 obtain rfl := Option.some.inj h
 exact ⟨⟨[(2, .c (.bool false))], []⟩, _, sub_gen [] rfl rfl (zall rfl rfl) trivial, resA1 (v := .c (.bool false)) rfl rfl, rfl⟩
end Go.Proofs.Ytoncfkdgddfnlaa.W
