/- Written by a program of ours (wip/eng/gen.py): the functions compute their models. -/
import Derived.Test.YtoncfkdgddfnlaaFacts
import Derived.Test.YtoncfkdgddfnlaaV6x2
namespace Go.Proofs.Ytoncfkdgddfnlaa.W
open Go Go.Proofs Go.Proofs.Ytoncfkdgddfnlaa.E Go.Proofs.Ytoncfkdgddfnlaa.M
set_option linter.unusedVariables false
set_option maxRecDepth 100000
set_option maxHeartbeats 8000000
theorem settle_Owed_ok (F : Nat) (a0_l : List SCDR) (a1_ds : List SDispute) (a2_creditor : ByteArray) (a3_debtor : ByteArray) (a4_currency : ByteArray) (a5_s : SSpan) (r : Int × Int) (h : settle_Owed F a0_l a1_ds a2_creditor a3_debtor a4_currency a5_s = some r) :
  SFun Try.prog 15 [] [.c (vSCDR a0_l), .c (vSDispute a1_ds), .c (.str a2_creditor), .c (.str a3_debtor), .c (.str a4_currency), .a (bSSpan a5_s)] (fun x _ => x = .t [.c (.int .i64 r.1), .c (.int .i64 r.2)]) := by
 refine SFun.of (n := 100) Try.func15 rfl rfl rfl ?_
 unfold settle_Owed at h
 show SCode _ _ _ ⟨[(0, .c (vSCDR a0_l)), (1, .c (vSDispute a1_ds)), (2, .c (.str a2_creditor)), (3, .c (.str a3_debtor)), (4, .c (.str a4_currency)), (5, .a (bSSpan a5_s))], []⟩ _
 refine SCode.seq (SCode.region (se rfl rfl (e_box rfl rfl rfl rfl rfl rfl) (sa rfl rfl (sa rfl rfl (SOps.nil (SCode.seq (SCode.seq ?_)))))))
 obtain ⟨c_1, g2, h⟩ := bind_out h
 try dsimp only at h
 refine SCode.region (sm rfl rfl (sm rfl rfl (sm rfl rfl (sm rfl rfl (sm rfl rfl (sq rfl rfl (q_load_ptr_all rfl rfl rfl rfl rfl ty39) (sq rfl rfl (q_call (settle_check_ok F a0_l a1_ds a2_creditor a3_debtor a4_currency a5_s c_1 g2) [] rfl fn28 ⟨⟨_, rfl, .inl ⟨rfl, rfl⟩⟩, ⟨_, rfl, .inl ⟨rfl, rfl⟩⟩, ⟨_, rfl, .inl ⟨rfl, rfl⟩⟩, ⟨_, rfl, .inl ⟨rfl, rfl⟩⟩, ⟨_, rfl, .inl ⟨rfl, rfl⟩⟩, ⟨rfl, rfl⟩, trivial⟩ (.inl rfl)) (sa rfl rfl (SOps.nil (SCode.seq (SCode.region (sm rfl rfl (sq rfl rfl (q_neq rfl rfl rfl) (SOps.nil ?_))))))))))))))
 rcases cond_out h with ⟨g3, h⟩ | ⟨g3, h⟩
 ·refine SCode.cond_t rfl g3 (SCode.seq (SCode.region (sm rfl rfl (sa rfl rfl (sa rfl rfl (SOps.nil (SCode.ret ?_)))))))
  obtain rfl := Option.some.inj h
  exact ⟨⟨[(12, ci 0), (13, ci c_1)], []⟩, _, sub_gen [] rfl rfl (zall rfl rfl) trivial, resA2 (v1 := .c (.int .i64 0)) (v2 := .c (.int .i64 c_1)) rfl rfl rfl, rfl⟩
 refine SCode.cond_f rfl g3 (SCode.skip (SCode.seq ?_))
 obtain ⟨c_4, g5, h⟩ := bind_out h
 try dsimp only at h
 refine SCode.region (sm rfl rfl (se rfl rfl (e_call (settle_grants_own_ok F a1_ds c_4 g5) [] rfl fn29 rfl rfl rfl rfl rfl rfl rfl rfl) (sa rfl rfl (SOps.nil (SCode.seq (SCode.region (sa rfl rfl (SOps.nilArrL (T := 3) (k := 1) (cInt .i64) 0 (s := 16) rfl rfl (SOps.nil ?_)))))))))
 let S21 := fun (o0_6 : List Int) => (⟨[(16, .c (.own 0 o0_6.length))], [aI 3 o0_6]⟩ : St)
 refine SCode.join (σ := (List Int)) (S := fun s => (S21 s)) (g := fun s => settle_Owed_p10 F s = some r) ?_ ?_
 rotate_left
 ·refine SCode.seq (SCode.region (sm rfl rfl (sq rfl rfl (q_len_vec rfl rfl sl36) (sm rfl rfl (SOps.sub (st' := ⟨[(2, .c (.str a2_creditor)), (3, .c (.str a3_debtor)), (4, .c (.str a4_currency)), (11, .c (.ptr 0 0)), (15, .c (.mp 1)), (16, .c (.own 2 (([] : List Int)).length)), (36, .c (vSCDR a0_l)), (37, ci (((a0_l).length : Int))), (38, ci 0)], [.box (bSSpan a5_s), .map c_4.length (kG c_4) (vG (mA 6 cSDispute) dSDispute c_4), aI 3 (([] : List Int))]⟩) (sub_gen [0, 1, 2] rfl rfl (zall rfl rfl) ⟨bx rfl rfl rfl, rfl, oa rfl, trivial⟩) (SOps.nil (SCode.block ?_)))))))
  let S20 := fun (t38_27 : Int) => fun (o2_28 : List Int) => (⟨[(2, .c (.str a2_creditor)), (3, .c (.str a3_debtor)), (4, .c (.str a4_currency)), (11, .c (.ptr 0 0)), (15, .c (.mp 1)), (16, .c (.own 2 o2_28.length)), (36, .c (vSCDR a0_l)), (37, ci (((a0_l).length : Int))), (38, ci t38_27)], [.box (bSSpan a5_s), .map c_4.length (kG c_4) (vG (mA 6 cSDispute) dSDispute c_4), aI 3 o2_28]⟩ : St)
  refine SCode.sub (st' := (S20 0 (([] : List Int)))) (sub_gen [0, 1, 2] rfl rfl (zall rfl rfl) ⟨bx rfl rfl rfl, rfl, oa rfl, trivial⟩) ?_
  refine (SCode.loop (σ := Nat × (Int × (List Int))) (S := fun s => (S20 s.2.1 s.2.2)) (g := fun s => settle_Owed_l45 F a0_l a2_creditor a3_debtor a4_currency a5_s c_4 s.1 s.2.1 s.2.2 = some r) (μ := fun s => s.1) (F, (0, ([] : List Int))) h ?_)
  rintro ⟨n_45, ⟨t38_27, o2_28⟩⟩ h
  try dsimp only at h
  show SCode _ _ _ (S20 t38_27 o2_28) _
  cases n_45 with
  | zero => cases h
  | succ n_45 =>
   rw [settle_Owed_l45] at h
   unfold settle_Owed_b45 at h
   refine SCode.seq (SCode.region (sq rfl rfl (q_lss rfl rfl rfl) (SOps.nil (SCode.seq ?_))))
   rcases cond_out h with ⟨g46, h⟩ | ⟨g46, h⟩
   ·refine SCode.cond_t rfl g46 (SCode.skip ?_)
    let S19 := fun (o2_47 : List Int) => (⟨[(2, .c (.str a2_creditor)), (3, .c (.str a3_debtor)), (4, .c (.str a4_currency)), (11, .c (.ptr 0 0)), (15, .c (.mp 1)), (16, .c (.own 2 o2_47.length)), (36, .c (vSCDR a0_l)), (37, ci (((a0_l).length : Int))), (38, ci t38_27)], [.box (bSSpan a5_s), .map c_4.length (kG c_4) (vG (mA 6 cSDispute) dSDispute c_4), aI 3 o2_47]⟩ : St)
    refine SCode.join (σ := (List Int)) (S := fun s => (S19 s)) (g := fun s => settle_Owed_p48 t38_27 (fun t38_27 o2_28 => settle_Owed_l45 F a0_l a2_creditor a3_debtor a4_currency a5_s c_4 n_45 t38_27 o2_28) s = some r) ?_ ?_
    rotate_left
    ·refine SCode.block (SCode.seq ?_)
     obtain ⟨g49, h⟩ := guard_out h
     refine SCode.region (sq rfl rfl (q_index_vec rfl rfl rfl sl36 rfl g49.1 g49.2) (sq rfl rfl (q_load_eptr_all rfl rfl rfl ty47) (se rfl rfl (e_alloc rfl rfl rfl z47) (se rfl rfl (e_store_box rfl rfl rfl rfl rfl ty47 rfl rfl rfl rfl) (SOps.nil (SCode.seq (SCode.seq ?_)))))))
     rcases cond_out h with ⟨g50, h⟩ | ⟨g50, h⟩
     ·refine SCode.region (sq rfl rfl (q_field_ptr rfl rfl fd47_1) (sq rfl rfl (q_load_ptr rfl rfl rfl rfl ty9) (sm rfl rfl (sq rfl rfl (q_neqS rfl rfl rfl) (sm rfl rfl (SOps.skip rfl 4 46 false rfl rfl (.inl (gT g50)) rfl (SOps.skip rfl 4 46 false rfl rfl (.inl (gT g50)) rfl (SOps.skip rfl 4 46 false rfl rfl (.inl (gT g50)) rfl (SOps.skip rfl 4 46 false rfl rfl (.inl (gT g50)) rfl (sq rfl rfl (q_pick_t rfl rfl g50 rfl) (sm rfl rfl (SOps.skip rfl 10 52 false rfl rfl (.inl rfl) rfl (SOps.skip rfl 10 52 false rfl rfl (.inl rfl) rfl (SOps.skip rfl 10 52 false rfl rfl (.inl rfl) rfl (SOps.skip rfl 10 52 false rfl rfl (.inl rfl) rfl ?_)))))))))))))))
      refine sq rfl rfl (q_pick_t rfl rfl rfl rfl) (sm rfl rfl (SOps.skip rfl 16 58 false rfl rfl (.inl rfl) rfl (SOps.skip rfl 16 58 false rfl rfl (.inl rfl) rfl (SOps.skip rfl 16 58 false rfl rfl (.inl rfl) rfl (SOps.skip rfl 16 58 false rfl rfl (.inl rfl) rfl (SOps.skip rfl 16 58 false rfl rfl (.inl rfl) rfl (sq rfl rfl (q_pick_t rfl rfl rfl rfl) (sm rfl rfl (SOps.skip rfl 23 65 false rfl rfl (.inl rfl) rfl (SOps.skip rfl 23 65 false rfl rfl (.inl rfl) rfl (SOps.skip rfl 23 65 false rfl rfl (.inl rfl) rfl (SOps.skip rfl 23 65 false rfl rfl (.inl rfl) rfl (SOps.skip rfl 23 65 false rfl rfl (.inl rfl) rfl (sq rfl rfl (q_pick_t rfl rfl rfl rfl) (SOps.sub (st' := ⟨[(2, .c (.str a2_creditor)), (3, .c (.str a3_debtor)), (4, .c (.str a4_currency)), (11, .c (.ptr 0 0)), (15, .c (.mp 1)), (16, .c (.own 2 o2_28.length)), (18, .c (.ptr 3 0)), (36, .c (vSCDR a0_l)), (37, ci (((a0_l).length : Int))), (38, ci t38_27), (71, .c (.bool true))], [.box (bSSpan a5_s), .map c_4.length (kG c_4) (vG (mA 6 cSDispute) dSDispute c_4), aI 3 o2_28, .box (bSCDR (a0_l.getD t38_27.toNat dSCDR))]⟩) (sub_gen [0, 1, 2, 3] rfl rfl (zall rfl rfl) ⟨bx rfl rfl rfl, rfl, oa rfl, bx rfl rfl rfl, trivial⟩) ?_)))))))))))))))
      refine SOps.nil (SCode.cond_t rfl rfl (SCode.exit ?_))
      exact ⟨o2_28, h, sub_gen [0, 1, 2] rfl rfl (zall rfl rfl) ⟨bx rfl rfl rfl, rfl, oa rfl, trivial⟩⟩
     rcases cond_out h with ⟨g51, h⟩ | ⟨g51, h⟩
     ·refine SCode.region (sq rfl rfl (q_field_ptr rfl rfl fd47_1) (sq rfl rfl (q_load_ptr rfl rfl rfl rfl ty9) (sm rfl rfl (sq rfl rfl (q_neqS rfl rfl rfl) (sm rfl rfl (SOps.q rfl (.guard 4 46 false rfl rfl (gF g50)) rfl (q_field_ptr rfl rfl fd47_2) (SOps.q rfl (.guard 4 46 false rfl rfl (gF g50)) rfl (q_load_ptr rfl rfl rfl rfl ty9) (SOps.q rfl (.guard 4 46 false rfl rfl (gF g50)) rfl (q_move rfl rfl) (SOps.q rfl (.guard 4 46 false rfl rfl (gF g50)) rfl (q_neqS rfl rfl rfl) (sq rfl rfl (q_pick_f rfl rfl g50 rfl) (sm rfl rfl (SOps.skip rfl 10 52 false rfl rfl (.inl (gT g51)) rfl (SOps.skip rfl 10 52 false rfl rfl (.inl (gT g51)) rfl (SOps.skip rfl 10 52 false rfl rfl (.inl (gT g51)) rfl (SOps.skip rfl 10 52 false rfl rfl (.inl (gT g51)) rfl ?_)))))))))))))))
      refine sq rfl rfl (q_pick_t rfl rfl g51 rfl) (sm rfl rfl (SOps.skip rfl 16 58 false rfl rfl (.inl rfl) rfl (SOps.skip rfl 16 58 false rfl rfl (.inl rfl) rfl (SOps.skip rfl 16 58 false rfl rfl (.inl rfl) rfl (SOps.skip rfl 16 58 false rfl rfl (.inl rfl) rfl (SOps.skip rfl 16 58 false rfl rfl (.inl rfl) rfl (sq rfl rfl (q_pick_t rfl rfl rfl rfl) (sm rfl rfl (SOps.skip rfl 23 65 false rfl rfl (.inl rfl) rfl (SOps.skip rfl 23 65 false rfl rfl (.inl rfl) rfl (SOps.skip rfl 23 65 false rfl rfl (.inl rfl) rfl (SOps.skip rfl 23 65 false rfl rfl (.inl rfl) rfl (SOps.skip rfl 23 65 false rfl rfl (.inl rfl) rfl (sq rfl rfl (q_pick_t rfl rfl rfl rfl) (SOps.sub (st' := ⟨[(2, .c (.str a2_creditor)), (3, .c (.str a3_debtor)), (4, .c (.str a4_currency)), (11, .c (.ptr 0 0)), (15, .c (.mp 1)), (16, .c (.own 2 o2_28.length)), (18, .c (.ptr 3 0)), (36, .c (vSCDR a0_l)), (37, ci (((a0_l).length : Int))), (38, ci t38_27), (71, .c (.bool true))], [.box (bSSpan a5_s), .map c_4.length (kG c_4) (vG (mA 6 cSDispute) dSDispute c_4), aI 3 o2_28, .box (bSCDR (a0_l.getD t38_27.toNat dSCDR))]⟩) (sub_gen [0, 1, 2, 3] rfl rfl (zall rfl rfl) ⟨bx rfl rfl rfl, rfl, oa rfl, bx rfl rfl rfl, trivial⟩) ?_)))))))))))))))
      refine SOps.nil (SCode.cond_t rfl rfl (SCode.exit ?_))
      exact ⟨o2_28, h, sub_gen [0, 1, 2] rfl rfl (zall rfl rfl) ⟨bx rfl rfl rfl, rfl, oa rfl, trivial⟩⟩
     rcases cond_out h with ⟨g52, h⟩ | ⟨g52, h⟩
     ·refine SCode.region (sq rfl rfl (q_field_ptr rfl rfl fd47_1) (sq rfl rfl (q_load_ptr rfl rfl rfl rfl ty9) (sm rfl rfl (sq rfl rfl (q_neqS rfl rfl rfl) (sm rfl rfl (SOps.q rfl (.guard 4 46 false rfl rfl (gF g50)) rfl (q_field_ptr rfl rfl fd47_2) (SOps.q rfl (.guard 4 46 false rfl rfl (gF g50)) rfl (q_load_ptr rfl rfl rfl rfl ty9) (SOps.q rfl (.guard 4 46 false rfl rfl (gF g50)) rfl (q_move rfl rfl) (SOps.q rfl (.guard 4 46 false rfl rfl (gF g50)) rfl (q_neqS rfl rfl rfl) (sq rfl rfl (q_pick_f rfl rfl g50 rfl) (sm rfl rfl (SOps.q rfl (.guard 10 52 false rfl rfl (gF g51)) rfl (q_field_ptr rfl rfl fd47_9) (SOps.q rfl (.guard 10 52 false rfl rfl (gF g51)) rfl (q_load_ptr rfl rfl rfl rfl ty9) (SOps.q rfl (.guard 10 52 false rfl rfl (gF g51)) rfl (q_move rfl rfl) (SOps.q rfl (.guard 10 52 false rfl rfl (gF g51)) rfl (q_neqS rfl rfl rfl) ?_)))))))))))))))
      refine sq rfl rfl (q_pick_f rfl rfl g51 rfl) (sm rfl rfl (SOps.skip rfl 16 58 false rfl rfl (.inl (gT g52)) rfl (SOps.skip rfl 16 58 false rfl rfl (.inl (gT g52)) rfl (SOps.skip rfl 16 58 false rfl rfl (.inl (gT g52)) rfl (SOps.skip rfl 16 58 false rfl rfl (.inl (gT g52)) rfl (SOps.skip rfl 16 58 false rfl rfl (.inl (gT g52)) rfl (sq rfl rfl (q_pick_t rfl rfl g52 rfl) (sm rfl rfl (SOps.skip rfl 23 65 false rfl rfl (.inl rfl) rfl (SOps.skip rfl 23 65 false rfl rfl (.inl rfl) rfl (SOps.skip rfl 23 65 false rfl rfl (.inl rfl) rfl (SOps.skip rfl 23 65 false rfl rfl (.inl rfl) rfl (SOps.skip rfl 23 65 false rfl rfl (.inl rfl) rfl (sq rfl rfl (q_pick_t rfl rfl rfl rfl) (SOps.sub (st' := ⟨[(2, .c (.str a2_creditor)), (3, .c (.str a3_debtor)), (4, .c (.str a4_currency)), (11, .c (.ptr 0 0)), (15, .c (.mp 1)), (16, .c (.own 2 o2_28.length)), (18, .c (.ptr 3 0)), (36, .c (vSCDR a0_l)), (37, ci (((a0_l).length : Int))), (38, ci t38_27), (71, .c (.bool true))], [.box (bSSpan a5_s), .map c_4.length (kG c_4) (vG (mA 6 cSDispute) dSDispute c_4), aI 3 o2_28, .box (bSCDR (a0_l.getD t38_27.toNat dSCDR))]⟩) (sub_gen [0, 1, 2, 3] rfl rfl (zall rfl rfl) ⟨bx rfl rfl rfl, rfl, oa rfl, bx rfl rfl rfl, trivial⟩) ?_)))))))))))))))
      refine SOps.nil (SCode.cond_t rfl rfl (SCode.exit ?_))
      exact ⟨o2_28, h, sub_gen [0, 1, 2] rfl rfl (zall rfl rfl) ⟨bx rfl rfl rfl, rfl, oa rfl, trivial⟩⟩
     rcases cond_out h with ⟨g53, h⟩ | ⟨g53, h⟩
     ·refine SCode.region (sq rfl rfl (q_field_ptr rfl rfl fd47_1) (sq rfl rfl (q_load_ptr rfl rfl rfl rfl ty9) (sm rfl rfl (sq rfl rfl (q_neqS rfl rfl rfl) (sm rfl rfl (SOps.q rfl (.guard 4 46 false rfl rfl (gF g50)) rfl (q_field_ptr rfl rfl fd47_2) (SOps.q rfl (.guard 4 46 false rfl rfl (gF g50)) rfl (q_load_ptr rfl rfl rfl rfl ty9) (SOps.q rfl (.guard 4 46 false rfl rfl (gF g50)) rfl (q_move rfl rfl) (SOps.q rfl (.guard 4 46 false rfl rfl (gF g50)) rfl (q_neqS rfl rfl rfl) (sq rfl rfl (q_pick_f rfl rfl g50 rfl) (sm rfl rfl (SOps.q rfl (.guard 10 52 false rfl rfl (gF g51)) rfl (q_field_ptr rfl rfl fd47_9) (SOps.q rfl (.guard 10 52 false rfl rfl (gF g51)) rfl (q_load_ptr rfl rfl rfl rfl ty9) (SOps.q rfl (.guard 10 52 false rfl rfl (gF g51)) rfl (q_move rfl rfl) (SOps.q rfl (.guard 10 52 false rfl rfl (gF g51)) rfl (q_neqS rfl rfl rfl) ?_)))))))))))))))
      refine sq rfl rfl (q_pick_f rfl rfl g51 rfl) (sm rfl rfl (SOps.q rfl (.guard 16 58 false rfl rfl (gF g52)) rfl (q_field_ptr rfl rfl fd47_6) (SOps.q rfl (.guard 16 58 false rfl rfl (gF g52)) rfl (q_load_ptr rfl rfl rfl rfl ty3) (SOps.q rfl (.guard 16 58 false rfl rfl (gF g52)) rfl (q_field_ptr rfl rfl fd39_0) (SOps.q rfl (.guard 16 58 false rfl rfl (gF g52)) rfl (q_load_ptr rfl rfl rfl rfl ty3) (SOps.q rfl (.guard 16 58 false rfl rfl (gF g52)) rfl (q_lss rfl rfl rfl) (sq rfl rfl (q_pick_f rfl rfl g52 rfl) (sm rfl rfl (SOps.skip rfl 23 65 false rfl rfl (.inl (gT g53)) rfl (SOps.skip rfl 23 65 false rfl rfl (.inl (gT g53)) rfl (SOps.skip rfl 23 65 false rfl rfl (.inl (gT g53)) rfl (SOps.skip rfl 23 65 false rfl rfl (.inl (gT g53)) rfl (SOps.skip rfl 23 65 false rfl rfl (.inl (gT g53)) rfl (sq rfl rfl (q_pick_t rfl rfl g53 rfl) (SOps.sub (st' := ⟨[(2, .c (.str a2_creditor)), (3, .c (.str a3_debtor)), (4, .c (.str a4_currency)), (11, .c (.ptr 0 0)), (15, .c (.mp 1)), (16, .c (.own 2 o2_28.length)), (18, .c (.ptr 3 0)), (36, .c (vSCDR a0_l)), (37, ci (((a0_l).length : Int))), (38, ci t38_27), (71, .c (.bool true))], [.box (bSSpan a5_s), .map c_4.length (kG c_4) (vG (mA 6 cSDispute) dSDispute c_4), aI 3 o2_28, .box (bSCDR (a0_l.getD t38_27.toNat dSCDR))]⟩) (sub_gen [0, 1, 2, 3] rfl rfl (zall rfl rfl) ⟨bx rfl rfl rfl, rfl, oa rfl, bx rfl rfl rfl, trivial⟩) ?_)))))))))))))))
      refine SOps.nil (SCode.cond_t rfl rfl (SCode.exit ?_))
      exact ⟨o2_28, h, sub_gen [0, 1, 2] rfl rfl (zall rfl rfl) ⟨bx rfl rfl rfl, rfl, oa rfl, trivial⟩⟩
     refine SCode.region (sq rfl rfl (q_field_ptr rfl rfl fd47_1) (sq rfl rfl (q_load_ptr rfl rfl rfl rfl ty9) (sm rfl rfl (sq rfl rfl (q_neqS rfl rfl rfl) (sm rfl rfl (SOps.q rfl (.guard 4 46 false rfl rfl (gF g50)) rfl (q_field_ptr rfl rfl fd47_2) (SOps.q rfl (.guard 4 46 false rfl rfl (gF g50)) rfl (q_load_ptr rfl rfl rfl rfl ty9) (SOps.q rfl (.guard 4 46 false rfl rfl (gF g50)) rfl (q_move rfl rfl) (SOps.q rfl (.guard 4 46 false rfl rfl (gF g50)) rfl (q_neqS rfl rfl rfl) (sq rfl rfl (q_pick_f rfl rfl g50 rfl) (sm rfl rfl (SOps.q rfl (.guard 10 52 false rfl rfl (gF g51)) rfl (q_field_ptr rfl rfl fd47_9) (SOps.q rfl (.guard 10 52 false rfl rfl (gF g51)) rfl (q_load_ptr rfl rfl rfl rfl ty9) (SOps.q rfl (.guard 10 52 false rfl rfl (gF g51)) rfl (q_move rfl rfl) (SOps.q rfl (.guard 10 52 false rfl rfl (gF g51)) rfl (q_neqS rfl rfl rfl) ?_)))))))))))))))
     refine sq rfl rfl (q_pick_f rfl rfl g51 rfl) (sm rfl rfl (SOps.q rfl (.guard 16 58 false rfl rfl (gF g52)) rfl (q_field_ptr rfl rfl fd47_6) (SOps.q rfl (.guard 16 58 false rfl rfl (gF g52)) rfl (q_load_ptr rfl rfl rfl rfl ty3) (SOps.q rfl (.guard 16 58 false rfl rfl (gF g52)) rfl (q_field_ptr rfl rfl fd39_0) (SOps.q rfl (.guard 16 58 false rfl rfl (gF g52)) rfl (q_load_ptr rfl rfl rfl rfl ty3) (SOps.q rfl (.guard 16 58 false rfl rfl (gF g52)) rfl (q_lss rfl rfl rfl) (sq rfl rfl (q_pick_f rfl rfl g52 rfl) (sm rfl rfl (SOps.q rfl (.guard 23 65 false rfl rfl (gF g53)) rfl (q_field_ptr rfl rfl fd47_6) (SOps.q rfl (.guard 23 65 false rfl rfl (gF g53)) rfl (q_load_ptr rfl rfl rfl rfl ty3) (SOps.q rfl (.guard 23 65 false rfl rfl (gF g53)) rfl (q_field_ptr rfl rfl fd39_1) (SOps.q rfl (.guard 23 65 false rfl rfl (gF g53)) rfl (q_load_ptr rfl rfl rfl rfl ty3) (SOps.q rfl (.guard 23 65 false rfl rfl (gF g53)) rfl (q_geq rfl rfl rfl) (sq rfl rfl (q_pick_f rfl rfl g53 rfl) (SOps.sub (st' := ⟨[(2, .c (.str a2_creditor)), (3, .c (.str a3_debtor)), (4, .c (.str a4_currency)), (11, .c (.ptr 0 0)), (15, .c (.mp 1)), (16, .c (.own 2 o2_28.length)), (18, .c (.ptr 3 0)), (36, .c (vSCDR a0_l)), (37, ci (((a0_l).length : Int))), (38, ci t38_27), (71, .c (.bool (decide (a5_s.To ≤ (a0_l.getD t38_27.toNat dSCDR).End))))], [.box (bSSpan a5_s), .map c_4.length (kG c_4) (vG (mA 6 cSDispute) dSDispute c_4), aI 3 o2_28, .box (bSCDR (a0_l.getD t38_27.toNat dSCDR))]⟩) (sub_gen [0, 1, 2, 3] rfl rfl (zall rfl rfl) ⟨bx rfl rfl rfl, rfl, oa rfl, bx rfl rfl rfl, trivial⟩) ?_)))))))))))))))
     refine SOps.nil ?_
     rcases cond_out h with ⟨g54, h⟩ | ⟨g54, h⟩
     ·refine SCode.cond_t rfl g54 (SCode.exit ?_)
      exact ⟨o2_28, h, sub_gen [0, 1, 2] rfl rfl (zall rfl rfl) ⟨bx rfl rfl rfl, rfl, oa rfl, trivial⟩⟩
     refine SCode.cond_f rfl g54 (SCode.skip (SCode.seq (SCode.region (sa rfl rfl (SOps.nilArrL (T := 72) (k := 6) cSDispute dSDispute (s := 19) rfl rfl (SOps.nil ?_))))))
     let S18 := fun (o4_55 : List SDispute) => (⟨[(2, .c (.str a2_creditor)), (3, .c (.str a3_debtor)), (4, .c (.str a4_currency)), (11, .c (.ptr 0 0)), (15, .c (.mp 1)), (16, .c (.own 2 o2_28.length)), (18, .c (.ptr 3 0)), (19, .c (.own 4 o4_55.length)), (36, .c (vSCDR a0_l)), (37, ci (((a0_l).length : Int))), (38, ci t38_27)], [.box (bSSpan a5_s), .map c_4.length (kG c_4) (vG (mA 6 cSDispute) dSDispute c_4), aI 3 o2_28, .box (bSCDR (a0_l.getD t38_27.toNat dSCDR)), aSDispute 72 o4_55]⟩ : St)
     refine SCode.join (σ := (List SDispute)) (S := fun s => (S18 s)) (g := fun s => settle_Owed_p59 F a0_l t38_27 o2_28 (fun t38_27 o2_28 => settle_Owed_l45 F a0_l a2_creditor a3_debtor a4_currency a5_s c_4 n_45 t38_27 o2_28) s = some r) ?_ ?_
     rotate_left
     ·refine SCode.seq (SCode.region (sm rfl rfl (sq rfl rfl (q_field_ptr rfl rfl fd47_0) (sq rfl rfl (q_load_ptr rfl rfl rfl rfl ty9) (sq rfl rfl (q_lookup_ok (mv := (mA 6 cSDispute)) (d0 := dSDispute) (l := c_4) (s := (a0_l.getD t38_27.toNat dSCDR).ID) rfl rfl rfl rfl mp68 z72 rfl) (sm rfl rfl (sq rfl rfl (q_extract rfl rfl rfl) (sq rfl rfl (q_extract rfl rfl rfl) (se rfl rfl (e_alloc rfl rfl rfl z72) (se rfl rfl (e_store_box rfl rfl rfl rfl rfl ty72 rfl rfl rfl rfl) (sa rfl rfl (SOps.nil (SCode.seq (SCode.region (sm rfl rfl ?_)))))))))))))))
      refine SOps.nil ?_
      rcases cond_out h with ⟨g60, h⟩ | ⟨g60, h⟩
      ·refine SCode.cond_t rfl g60 ?_
       obtain ⟨g61, h⟩ := guard_out h
       refine SCode.region (sm rfl rfl (sq rfl rfl (q_load_ptr_all rfl rfl rfl rfl rfl ty72) (sq rfl rfl (q_bsliceL (c := cSDispute) (d0 := dSDispute) [(alook c_4 ((a0_l.getD t38_27.toNat dSCDR).ID)).getD dSDispute] rfl rfl sl37 z72 rfl rfl rfl rfl rfl rfl rfl) (se rfl rfl (e_appendL (c := cSDispute) (d0 := dSDispute) (l := ([] : List SDispute)) (l2 := [(alook c_4 ((a0_l.getD t38_27.toNat dSCDR).ID)).getD dSDispute]) rfl rfl rfl rfl rfl rfl (.inl rfl) sl37 z72 rfl rfl oneSDispute g61.1 g61.2) (sa rfl rfl ?_)))))
       let y1 := (([] : List SDispute)) ++ ([(alook c_4 ((a0_l.getD t38_27.toNat dSCDR).ID)).getD dSDispute])
       refine SOps.sub (st' := ⟨[(2, .c (.str a2_creditor)), (3, .c (.str a3_debtor)), (4, .c (.str a4_currency)), (11, .c (.ptr 0 0)), (15, .c (.mp 1)), (16, .c (.own 2 o2_28.length)), (18, .c (.ptr 3 0)), (19, .c (.own 4 y1.length)), (36, .c (vSCDR a0_l)), (37, ci (((a0_l).length : Int))), (38, ci t38_27)], [.box (bSSpan a5_s), .map c_4.length (kG c_4) (vG (mA 6 cSDispute) dSDispute c_4), aI 3 o2_28, .box (bSCDR (a0_l.getD t38_27.toNat dSCDR)), aSDispute 72 y1]⟩) (sub_gen [0, 1, 2, 3, 6] rfl rfl (zall rfl rfl) ⟨bx rfl rfl rfl, rfl, oa rfl, bx rfl rfl rfl, oa rfl, trivial⟩) (SOps.nil ?_)
       exact ⟨(([] : List SDispute)) ++ ([(alook c_4 ((a0_l.getD t38_27.toNat dSCDR).ID)).getD dSDispute]), h, sub_gen [0, 1, 2, 3, 4] rfl rfl (zall rfl rfl) ⟨bx rfl rfl rfl, rfl, oa rfl, bx rfl rfl rfl, oa rfl, trivial⟩⟩
      refine SCode.cond_f rfl g60 (SCode.skip ?_)
      exact ⟨([] : List SDispute), h, sub_gen [0, 1, 2, 3, 4] rfl rfl (zall rfl rfl) ⟨bx rfl rfl rfl, rfl, oa rfl, bx rfl rfl rfl, oa rfl, trivial⟩⟩
     rintro o4_55 h
     show SCode _ _ _ (S18 o4_55) _
     try dsimp only at h
     unfold settle_Owed_p59 at h
     obtain ⟨c_56, g57, h⟩ := bind_out h
     try dsimp only at h
     obtain ⟨g58, h⟩ := guard_out h
     refine SCode.region (sm rfl rfl (sq rfl rfl (q_load_ptr_all rfl rfl rfl rfl rfl ty47) (sm rfl rfl (sq rfl rfl (q_call (dispute_Amount_ok F (a0_l.getD t38_27.toNat dSCDR) o4_55 c_56 g57) [4] rfl fn30 ⟨⟨rfl, rfl⟩, ⟨_, rfl, .inr (.inl ⟨_, _, _, _, _, _, _, rfl, rfl, rfl, Nat.le_refl _, fun _ _ _ _ => rfl, (.head _)⟩)⟩, trivial⟩ (.inr rfl)) (sq rfl rfl (q_bsliceL (c := (cInt .i64)) (d0 := 0) [c_56] rfl rfl sl70 z3 rfl rfl rfl rfl rfl rfl rfl) (se rfl rfl (e_appendL (c := (cInt .i64)) (d0 := 0) (l := o2_28) (l2 := [c_56]) rfl rfl rfl rfl rfl rfl (.inl rfl) sl70 z3 rfl rfl oneInt g58.1 g58.2) (sa rfl rfl (SOps.sub (st' := ⟨[(2, .c (.str a2_creditor)), (3, .c (.str a3_debtor)), (4, .c (.str a4_currency)), (11, .c (.ptr 0 0)), (15, .c (.mp 1)), (16, .c (.own 2 (o2_28 ++ ([c_56])).length)), (36, .c (vSCDR a0_l)), (37, ci (((a0_l).length : Int))), (38, ci t38_27)], [.box (bSSpan a5_s), .map c_4.length (kG c_4) (vG (mA 6 cSDispute) dSDispute c_4), aI 3 (o2_28 ++ ([c_56]))]⟩) (sub_gen [0, 1, 5] rfl rfl (zall rfl rfl) ⟨bx rfl rfl rfl, rfl, oa rfl, trivial⟩) (SOps.nil ?_)))))))))
     exact ⟨o2_28 ++ ([c_56]), h, sub_gen [0, 1, 2] rfl rfl (zall rfl rfl) ⟨bx rfl rfl rfl, rfl, oa rfl, trivial⟩⟩
    rintro o2_47 h
    show SCode _ _ _ (S19 o2_47) _
    try dsimp only at h
    unfold settle_Owed_p48 at h
    refine SCode.region (sq rfl rfl (q_add rfl rfl rfl) (sm rfl rfl (SOps.nil ?_)))
    exact ⟨(n_45, (IntKind.wrap .i64 (t38_27 + 1), o2_47)), h, Nat.lt_succ_self n_45, sub_gen [0, 1, 2] rfl rfl (zall rfl rfl) ⟨bx rfl rfl rfl, rfl, oa rfl, trivial⟩⟩
   refine SCode.cond_f rfl g46 (SCode.exit ?_)
   exact ⟨o2_28, h, sub_gen [2] rfl rfl (zall rfl rfl) ⟨oa rfl, trivial⟩⟩
 rintro o0_6 h
 show SCode _ _ _ (S21 o0_6) _
 try dsimp only at h
 unfold settle_Owed_p10 at h
 refine SCode.seq ?_
 obtain ⟨c_7, g8, h⟩ := bind_out h
 try dsimp only at h
 refine SCode.region (sm rfl rfl (sq rfl rfl (q_call (money_Sum_ok F o0_6 c_7 g8) [0] rfl fn31 ⟨⟨_, rfl, .inr (.inl ⟨_, _, _, _, _, _, _, rfl, rfl, rfl, Nat.le_refl _, fun _ _ _ _ => rfl, (.head _)⟩)⟩, trivial⟩ (.inr rfl)) (sm rfl rfl (sq rfl rfl (q_extract rfl rfl rfl) (sq rfl rfl (q_extract rfl rfl rfl) (sa rfl rfl (sa rfl rfl (SOps.nil (SCode.seq (SCode.seq (SCode.region (sm rfl rfl (sq rfl rfl (q_neq rfl rfl rfl) (SOps.nil ?_))))))))))))))
 rcases cond_out h with ⟨g9, h⟩ | ⟨g9, h⟩
 ·refine SCode.cond_t rfl g9 (SCode.seq (SCode.region (sm rfl rfl (sa rfl rfl (sa rfl rfl (SOps.nil (SCode.ret ?_)))))))
  obtain rfl := Option.some.inj h
  exact ⟨⟨[(12, ci 0), (13, ci c_7.2)], []⟩, _, sub_gen [] rfl rfl (zall rfl rfl) trivial, resA2 (v1 := .c (.int .i64 0)) (v2 := .c (.int .i64 c_7.2)) rfl rfl rfl, rfl⟩
 refine SCode.cond_f rfl g9 (SCode.skip (SCode.seq (SCode.region (sm rfl rfl (sa rfl rfl (sa rfl rfl (SOps.nil (SCode.ret ?_))))))))
 obtain rfl := Option.some.inj h
 exact ⟨⟨[(12, ci c_7.1), (13, ci 0)], []⟩, _, sub_gen [] rfl rfl (zall rfl rfl) trivial, resA2 (v1 := .c (.int .i64 c_7.1)) (v2 := .c (.int .i64 0)) rfl rfl rfl, rfl⟩
theorem chargenetlaw49_SettleSpans_ok (F : Nat) (a0_c : SCase) (a1_at : Int) (r : Bool) (h : chargenetlaw49_SettleSpans F a0_c a1_at = some r) :
  SFun Try.prog 6 [] [.a (bSCase a0_c), ci a1_at] (fun x _ => x = .c (.bool r)) := by
 refine SFun.of (n := 119) Try.func6 rfl rfl rfl ?_
 unfold chargenetlaw49_SettleSpans at h
 show SCode _ _ _ ⟨[(0, .a (bSCase a0_c)), (1, ci a1_at)], []⟩ _
 refine SCode.seq (SCode.region (se rfl rfl (e_box rfl rfl rfl rfl rfl rfl) (sa rfl rfl (SOps.nil (SCode.seq (SCode.seq ?_))))))
 obtain ⟨c_1, g2, h⟩ := bind_out h
 try dsimp only at h
 refine SCode.region (sq rfl rfl (q_load_ptr_all rfl rfl rfl rfl rfl ty41) (sq rfl rfl (q_call (chargenetlaw49_Small_ok F a0_c c_1 g2) [] rfl fn14 ⟨⟨rfl, rfl⟩, trivial⟩ (.inl rfl)) (sq rfl rfl (q_not rfl rfl) (SOps.nil ?_))))
 rcases cond_out h with ⟨g3, h⟩ | ⟨g3, h⟩
 ·refine SCode.cond_t rfl g3 (SCode.seq ?_)
  obtain ⟨c_4, g5, h⟩ := bind_out h
  try dsimp only at h
  refine SCode.region (sq rfl rfl (q_call (chargenetlaw49_exampleHolds_ok F  c_4 g5) [] rfl fn8 trivial (.inl rfl)) (sa rfl rfl (SOps.nil (SCode.ret ?_))))
  obtain rfl := Option.some.inj h
  exact ⟨⟨[(4, .c (.bool c_4))], []⟩, _, sub_gen [] rfl rfl (zall rfl rfl) trivial, resA1 (v := .c (.bool c_4)) rfl rfl, rfl⟩
 refine SCode.cond_f rfl g3 (SCode.skip ?_)
 let S3 := (⟨[(1, ci a1_at), (2, .c (.ptr 0 0))], [.box (bSCase a0_c)]⟩ : St)
 refine SCode.join (σ := Unit) (S := fun s => S3) (g := fun s => chargenetlaw49_SettleSpans_p22 F a0_c a1_at = some r) ?_ ?_
 rotate_left
 ·refine SCode.seq (SCode.region (sq rfl rfl (q_field_ptr rfl rfl fd41_0) (sq rfl rfl (q_load_ptr rfl rfl rfl rfl ty36) (sq rfl rfl (q_len_vec rfl rfl sl36) (sm rfl rfl (SOps.nil (SCode.block ?_)))))))
  let S2 := fun (t20_27 : Int) => (⟨[(1, ci a1_at), (2, .c (.ptr 0 0)), (18, .c (vSCDR a0_c.CDRs)), (19, ci (((a0_c.CDRs).length : Int))), (20, ci t20_27)], [.box (bSCase a0_c)]⟩ : St)
  refine SCode.sub (st' := (S2 0)) (sub_gen [0] rfl rfl (zall rfl rfl) ⟨bx rfl rfl rfl, trivial⟩) ?_
  refine (SCode.loop (σ := Nat × Int) (S := fun s => (S2 s.2)) (g := fun s => chargenetlaw49_SettleSpans_l32 F a0_c a1_at s.1 s.2 = some r) (μ := fun s => s.1) (F, 0) h ?_)
  rintro ⟨n_32, t20_27⟩ h
  try dsimp only at h
  show SCode _ _ _ (S2 t20_27) _
  cases n_32 with
  | zero => cases h
  | succ n_32 =>
   rw [chargenetlaw49_SettleSpans_l32] at h
   unfold chargenetlaw49_SettleSpans_b32 at h
   refine SCode.seq (SCode.region (sq rfl rfl (q_lss rfl rfl rfl) (SOps.nil (SCode.seq ?_))))
   rcases cond_out h with ⟨g33, h⟩ | ⟨g33, h⟩
   ·refine SCode.cond_t rfl g33 (SCode.skip (SCode.seq (SCode.block (SCode.seq ?_))))
    obtain ⟨g34, h⟩ := guard_out h
    refine SCode.region (sq rfl rfl (q_index_vec rfl rfl rfl sl36 rfl g34.1 g34.2) (sq rfl rfl (q_load_eptr_all rfl rfl rfl ty47) (se rfl rfl (e_alloc rfl rfl rfl z47) (se rfl rfl (e_store_box rfl rfl rfl rfl rfl ty47 rfl rfl rfl rfl) (SOps.nil (SCode.seq ?_))))))
    rcases cond_out h with ⟨g35, h⟩ | ⟨g35, h⟩
    ·refine SCode.region (sq rfl rfl (q_field_ptr rfl rfl fd47_11) (sq rfl rfl (q_load_ptr rfl rfl rfl rfl ty3) (sq rfl rfl (q_gtr rfl rfl rfl) (sm rfl rfl (SOps.skip rfl 3 27 false rfl rfl (.inl (gT g35)) rfl (SOps.skip rfl 3 27 false rfl rfl (.inl (gT g35)) rfl (SOps.skip rfl 3 27 false rfl rfl (.inl (gT g35)) rfl (sq rfl rfl (q_pick_t rfl rfl g35 rfl) (SOps.nil (SCode.cond_t rfl rfl (SCode.seq (SCode.region (sa rfl rfl (SOps.nil (SCode.ret ?_)))))))))))))))
     obtain rfl := Option.some.inj h
     exact ⟨⟨[(4, .c (.bool true))], []⟩, _, sub_gen [] rfl rfl (zall rfl rfl) trivial, resA1 (v := .c (.bool true)) rfl rfl, rfl⟩
    refine SCode.region (sq rfl rfl (q_field_ptr rfl rfl fd47_11) (sq rfl rfl (q_load_ptr rfl rfl rfl rfl ty3) (sq rfl rfl (q_gtr rfl rfl rfl) (sm rfl rfl (SOps.q rfl (.guard 3 27 false rfl rfl (gF g35)) rfl (q_field_ptr rfl rfl fd47_11) (SOps.q rfl (.guard 3 27 false rfl rfl (gF g35)) rfl (q_load_ptr rfl rfl rfl rfl ty3) (SOps.q rfl (.guard 3 27 false rfl rfl (gF g35)) rfl (q_lss rfl rfl rfl) (sq rfl rfl (q_pick_f rfl rfl g35 rfl) (SOps.nil ?_)))))))))
    rcases cond_out h with ⟨g36, h⟩ | ⟨g36, h⟩
    ·refine SCode.cond_t rfl g36 (SCode.seq (SCode.region (sa rfl rfl (SOps.nil (SCode.ret ?_)))))
     obtain rfl := Option.some.inj h
     exact ⟨⟨[(4, .c (.bool true))], []⟩, _, sub_gen [] rfl rfl (zall rfl rfl) trivial, resA1 (v := .c (.bool true)) rfl rfl, rfl⟩
    refine SCode.cond_f rfl g36 (SCode.skip (SCode.region (sq rfl rfl (q_add rfl rfl rfl) (sm rfl rfl (SOps.nil ?_)))))
    exact ⟨(n_32, IntKind.wrap .i64 (t20_27 + 1)), h, Nat.lt_succ_self n_32, sub_gen [0] rfl rfl (zall rfl rfl) ⟨bx rfl rfl rfl, trivial⟩⟩
   refine SCode.cond_f rfl g33 (SCode.exit ?_)
   exact ⟨(), h, sub_gen [0] rfl rfl (zall rfl rfl) ⟨bx rfl rfl rfl, trivial⟩⟩
 rintro ⟨⟩ h
 show SCode _ _ _ S3 _
 try dsimp only at h
 unfold chargenetlaw49_SettleSpans_p22 at h
 refine SCode.seq (SCode.seq ?_)
 rcases cond_out h with ⟨g6, h⟩ | ⟨g6, h⟩
 ·refine SCode.region (sm rfl rfl (sq rfl rfl (q_field_ptr rfl rfl fd41_5) (sq rfl rfl (q_field_ptr rfl rfl fd39_0) (sq rfl rfl (q_load_ptr rfl rfl rfl rfl ty3) (sq rfl rfl (q_lss rfl rfl rfl) (sm rfl rfl (SOps.skip rfl 5 38 false rfl rfl (.inl (gT g6)) rfl (SOps.skip rfl 5 38 false rfl rfl (.inl (gT g6)) rfl (SOps.skip rfl 5 38 false rfl rfl (.inl (gT g6)) rfl (SOps.skip rfl 5 38 false rfl rfl (.inl (gT g6)) rfl (SOps.skip rfl 5 38 false rfl rfl (.inl (gT g6)) rfl (sq rfl rfl (q_pick_t rfl rfl g6 rfl) (SOps.nil (SCode.cond_t rfl rfl (SCode.seq ?_)))))))))))))))
  refine SCode.region (sa rfl rfl (SOps.nil (SCode.ret ?_)))
  obtain rfl := Option.some.inj h
  exact ⟨⟨[(4, .c (.bool true))], []⟩, _, sub_gen [] rfl rfl (zall rfl rfl) trivial, resA1 (v := .c (.bool true)) rfl rfl, rfl⟩
 refine SCode.region (sm rfl rfl (sq rfl rfl (q_field_ptr rfl rfl fd41_5) (sq rfl rfl (q_field_ptr rfl rfl fd39_0) (sq rfl rfl (q_load_ptr rfl rfl rfl rfl ty3) (sq rfl rfl (q_lss rfl rfl rfl) (sm rfl rfl (SOps.q rfl (.guard 5 38 false rfl rfl (gF g6)) rfl (q_move rfl rfl) (SOps.q rfl (.guard 5 38 false rfl rfl (gF g6)) rfl (q_field_ptr rfl rfl fd41_5) (SOps.q rfl (.guard 5 38 false rfl rfl (gF g6)) rfl (q_field_ptr rfl rfl fd39_1) (SOps.q rfl (.guard 5 38 false rfl rfl (gF g6)) rfl (q_load_ptr rfl rfl rfl rfl ty3) (SOps.q rfl (.guard 5 38 false rfl rfl (gF g6)) rfl (q_gtr rfl rfl rfl) (sq rfl rfl (q_pick_f rfl rfl g6 rfl) (SOps.nil ?_)))))))))))))
 rcases cond_out h with ⟨g7, h⟩ | ⟨g7, h⟩
 ·refine SCode.cond_t rfl g7 (SCode.seq (SCode.region (sa rfl rfl (SOps.nil (SCode.ret ?_)))))
  obtain rfl := Option.some.inj h
  exact ⟨⟨[(4, .c (.bool true))], []⟩, _, sub_gen [] rfl rfl (zall rfl rfl) trivial, resA1 (v := .c (.bool true)) rfl rfl, rfl⟩
 refine SCode.cond_f rfl g7 (SCode.skip (SCode.seq ?_))
 obtain ⟨c_8, g9, h⟩ := bind_out h
 try dsimp only at h
 refine SCode.region (sq rfl rfl (q_field_ptr rfl rfl fd41_0) (sq rfl rfl (q_load_ptr rfl rfl rfl rfl ty36) (sq rfl rfl (q_field_ptr rfl rfl fd41_1) (sq rfl rfl (q_load_ptr rfl rfl rfl rfl ty37) (sq rfl rfl (q_field_ptr rfl rfl fd41_2) (sq rfl rfl (q_load_ptr rfl rfl rfl rfl ty9) (sq rfl rfl (q_field_ptr rfl rfl fd41_3) (sq rfl rfl (q_load_ptr rfl rfl rfl rfl ty9) (sq rfl rfl (q_field_ptr rfl rfl fd41_4) (sq rfl rfl (q_load_ptr rfl rfl rfl rfl ty9) (sq rfl rfl (q_field_ptr rfl rfl fd41_5) (sq rfl rfl (q_load_ptr_all rfl rfl rfl rfl rfl ty39) (sq rfl rfl (q_call (settle_Owed_ok F a0_c.CDRs a0_c.Disputes a0_c.A a0_c.B a0_c.Currency (SSpan.mk a0_c.Span_From a0_c.Span_To) c_8 g9) [] rfl fn15 ⟨⟨_, rfl, .inl ⟨rfl, rfl⟩⟩, ⟨_, rfl, .inl ⟨rfl, rfl⟩⟩, ⟨_, rfl, .inl ⟨rfl, rfl⟩⟩, ⟨_, rfl, .inl ⟨rfl, rfl⟩⟩, ⟨_, rfl, .inl ⟨rfl, rfl⟩⟩, ⟨rfl, rfl⟩, trivial⟩ (.inl rfl)) (sm rfl rfl (sq rfl rfl (q_extract rfl rfl rfl) ?_)))))))))))))))
 refine sq rfl rfl (q_extract rfl rfl rfl) (sa rfl rfl (sa rfl rfl (SOps.sub (st' := ⟨[(1, ci a1_at), (2, .c (.ptr 0 0)), (7, ci c_8.1), (8, ci c_8.2)], [.box (bSCase a0_c)]⟩) (sub_gen [0] rfl rfl (zall rfl rfl) ⟨bx rfl rfl rfl, trivial⟩) (SOps.nil (SCode.seq ?_)))))
 obtain ⟨c_10, g11, h⟩ := bind_out h
 try dsimp only at h
 refine SCode.region (sq rfl rfl (q_field_ptr rfl rfl fd41_0) (sq rfl rfl (q_load_ptr rfl rfl rfl rfl ty36) (sq rfl rfl (q_field_ptr rfl rfl fd41_1) (sq rfl rfl (q_load_ptr rfl rfl rfl rfl ty37) (sq rfl rfl (q_field_ptr rfl rfl fd41_2) (sq rfl rfl (q_load_ptr rfl rfl rfl rfl ty9) (sq rfl rfl (q_field_ptr rfl rfl fd41_3) (sq rfl rfl (q_load_ptr rfl rfl rfl rfl ty9) (sq rfl rfl (q_field_ptr rfl rfl fd41_4) (sq rfl rfl (q_load_ptr rfl rfl rfl rfl ty9) (sq rfl rfl (q_field_ptr rfl rfl fd41_5) (sq rfl rfl (q_field_ptr rfl rfl fd39_0) (sq rfl rfl (q_load_ptr rfl rfl rfl rfl ty3) (sm rfl rfl (sq rfl rfl (q_build2 rfl rfl pl39 rfl) ?_)))))))))))))))
 refine sq rfl rfl (q_call (settle_Owed_ok F a0_c.CDRs a0_c.Disputes a0_c.A a0_c.B a0_c.Currency (SSpan.mk a0_c.Span_From a1_at) c_10 g11) [] rfl fn15 ⟨⟨_, rfl, .inl ⟨rfl, rfl⟩⟩, ⟨_, rfl, .inl ⟨rfl, rfl⟩⟩, ⟨_, rfl, .inl ⟨rfl, rfl⟩⟩, ⟨_, rfl, .inl ⟨rfl, rfl⟩⟩, ⟨_, rfl, .inl ⟨rfl, rfl⟩⟩, ⟨rfl, rfl⟩, trivial⟩ (.inl rfl)) (sm rfl rfl (sq rfl rfl (q_extract rfl rfl rfl) (sq rfl rfl (q_extract rfl rfl rfl) (sa rfl rfl (sa rfl rfl (SOps.sub (st' := ⟨[(1, ci a1_at), (2, .c (.ptr 0 0)), (7, ci c_8.1), (8, ci c_8.2), (9, ci c_10.1), (10, ci c_10.2)], [.box (bSCase a0_c)]⟩) (sub_gen [0] rfl rfl (zall rfl rfl) ⟨bx rfl rfl rfl, trivial⟩) (SOps.nil (SCode.seq ?_))))))))
 obtain ⟨c_12, g13, h⟩ := bind_out h
 try dsimp only at h
 refine SCode.region (sq rfl rfl (q_field_ptr rfl rfl fd41_0) (sq rfl rfl (q_load_ptr rfl rfl rfl rfl ty36) (sq rfl rfl (q_field_ptr rfl rfl fd41_1) (sq rfl rfl (q_load_ptr rfl rfl rfl rfl ty37) (sq rfl rfl (q_field_ptr rfl rfl fd41_2) (sq rfl rfl (q_load_ptr rfl rfl rfl rfl ty9) (sq rfl rfl (q_field_ptr rfl rfl fd41_3) (sq rfl rfl (q_load_ptr rfl rfl rfl rfl ty9) (sq rfl rfl (q_field_ptr rfl rfl fd41_4) (sq rfl rfl (q_load_ptr rfl rfl rfl rfl ty9) (sm rfl rfl (sq rfl rfl (q_field_ptr rfl rfl fd41_5) (sq rfl rfl (q_field_ptr rfl rfl fd39_1) (sq rfl rfl (q_load_ptr rfl rfl rfl rfl ty3) (sq rfl rfl (q_build2 rfl rfl pl39 rfl) ?_)))))))))))))))
 refine sq rfl rfl (q_call (settle_Owed_ok F a0_c.CDRs a0_c.Disputes a0_c.A a0_c.B a0_c.Currency (SSpan.mk a1_at a0_c.Span_To) c_12 g13) [] rfl fn15 ⟨⟨_, rfl, .inl ⟨rfl, rfl⟩⟩, ⟨_, rfl, .inl ⟨rfl, rfl⟩⟩, ⟨_, rfl, .inl ⟨rfl, rfl⟩⟩, ⟨_, rfl, .inl ⟨rfl, rfl⟩⟩, ⟨_, rfl, .inl ⟨rfl, rfl⟩⟩, ⟨rfl, rfl⟩, trivial⟩ (.inl rfl)) (sm rfl rfl (sq rfl rfl (q_extract rfl rfl rfl) (sq rfl rfl (q_extract rfl rfl rfl) (sa rfl rfl (sa rfl rfl (SOps.sub (st' := ⟨[(7, ci c_8.1), (8, ci c_8.2), (9, ci c_10.1), (10, ci c_10.2), (11, ci c_12.1), (12, ci c_12.2)], []⟩) (sub_gen [] rfl rfl (zall rfl rfl) trivial) (SOps.nil (SCode.seq ?_))))))))
 rcases cond_out h with ⟨g14, h⟩ | ⟨g14, h⟩
 ·obtain ⟨c_15, g16, h⟩ := bind_out h
  try dsimp only at h
  refine SCode.region (sm rfl rfl (sq rfl rfl (q_neq rfl rfl rfl) (sm rfl rfl (SOps.skip rfl 2 101 false rfl rfl (.inl (gT g14)) rfl (SOps.skip rfl 2 101 false rfl rfl (.inl (gT g14)) rfl (SOps.skip rfl 2 101 false rfl rfl (.inl (gT g14)) rfl (SOps.skip rfl 5 104 true rfl rfl (.inr rfl) rfl (SOps.skip rfl 5 104 true rfl rfl (.inr rfl) rfl (SOps.skip rfl 2 101 false rfl rfl (.inl (gT g14)) rfl (SOps.skip rfl 2 101 false rfl rfl (.inl (gT g14)) rfl (SOps.skip rfl 9 108 true rfl rfl (.inr rfl) rfl (SOps.skip rfl 9 108 true rfl rfl (.inr rfl) rfl (SOps.skip rfl 9 108 true rfl rfl (.inr rfl) rfl (SOps.skip rfl 9 108 true rfl rfl (.inr rfl) rfl (SOps.skip rfl 9 108 true rfl rfl (.inr rfl) rfl ?_)))))))))))))))
  refine SOps.skip rfl 2 101 false rfl rfl (.inl (gT g14)) rfl (sq rfl rfl (q_pick_t rfl rfl g14 rfl) (sm rfl rfl (SOps.q rfl (.guard 17 116 true rfl rfl rfl) rfl (q_call (chargenetlaw49_exampleHolds_ok F  c_15 g16) [] rfl fn8 trivial (.inl rfl)) (sq rfl rfl (q_pick_t rfl rfl rfl rfl) (sa rfl rfl (SOps.sub (st' := ⟨[(4, .c (.bool c_15))], []⟩) (sub_gen [] rfl rfl (zall rfl rfl) trivial) (SOps.nil (SCode.ret ?_))))))))
  obtain rfl := Option.some.inj h
  exact ⟨⟨[(4, .c (.bool c_15))], []⟩, _, sub_gen [] rfl rfl (zall rfl rfl) trivial, resA1 (v := .c (.bool c_15)) rfl rfl, rfl⟩
 rcases cond_out h with ⟨g17, h⟩ | ⟨g17, h⟩
 ·rcases cond_out h with ⟨g18, h⟩ | ⟨g18, h⟩
  ·rcases cond_out h with ⟨g19, h⟩ | ⟨g19, h⟩
   ·obtain ⟨c_20, g21, h⟩ := bind_out h
    try dsimp only at h
    refine SCode.region (sm rfl rfl (sq rfl rfl (q_neq rfl rfl rfl) (sm rfl rfl (SOps.q rfl (.guard 2 101 false rfl rfl (gF g14)) rfl (q_move rfl rfl) (SOps.q rfl (.guard 2 101 false rfl rfl (gF g14)) rfl (q_eql rfl rfl rfl) (SOps.q rfl (.guard 2 101 false rfl rfl (gF g14)) rfl (q_move rfl rfl) (SOps.q rfl (.guard 5 104 true rfl rfl (gT g17)) rfl (q_move rfl rfl) (SOps.q rfl (.guard 5 104 true rfl rfl (gT g17)) rfl (q_eql rfl rfl rfl) (SOps.q rfl (.guard 2 101 false rfl rfl (gF g14)) rfl (q_pick_t rfl rfl g17 rfl) (SOps.q rfl (.guard 2 101 false rfl rfl (gF g14)) rfl (q_move rfl rfl) (SOps.q rfl (.guard 9 108 true rfl rfl (gT g18)) rfl (q_move rfl rfl) (SOps.q rfl (.guard 9 108 true rfl rfl (gT g18)) rfl (q_move rfl rfl) (SOps.q rfl (.guard 9 108 true rfl rfl (gT g18)) rfl (q_move rfl rfl) (SOps.q rfl (.guard 9 108 true rfl rfl (gT g18)) rfl (q_add rfl rfl rfl) (SOps.q rfl (.guard 9 108 true rfl rfl (gT g18)) rfl (q_eql rfl rfl rfl) ?_)))))))))))))))
    refine SOps.q rfl (.guard 2 101 false rfl rfl (gF g14)) rfl (q_pick_t rfl rfl g18 rfl) (sq rfl rfl (q_pick_f rfl rfl g14 rfl) (sm rfl rfl (SOps.q rfl (.guard 17 116 true rfl rfl (gT g19)) rfl (q_call (chargenetlaw49_exampleHolds_ok F  c_20 g21) [] rfl fn8 trivial (.inl rfl)) (sq rfl rfl (q_pick_t rfl rfl g19 rfl) (sa rfl rfl (SOps.sub (st' := ⟨[(4, .c (.bool c_20))], []⟩) (sub_gen [] rfl rfl (zall rfl rfl) trivial) (SOps.nil (SCode.ret ?_))))))))
    obtain rfl := Option.some.inj h
    exact ⟨⟨[(4, .c (.bool c_20))], []⟩, _, sub_gen [] rfl rfl (zall rfl rfl) trivial, resA1 (v := .c (.bool c_20)) rfl rfl, rfl⟩
   refine SCode.region (sm rfl rfl (sq rfl rfl (q_neq rfl rfl rfl) (sm rfl rfl (SOps.q rfl (.guard 2 101 false rfl rfl (gF g14)) rfl (q_move rfl rfl) (SOps.q rfl (.guard 2 101 false rfl rfl (gF g14)) rfl (q_eql rfl rfl rfl) (SOps.q rfl (.guard 2 101 false rfl rfl (gF g14)) rfl (q_move rfl rfl) (SOps.q rfl (.guard 5 104 true rfl rfl (gT g17)) rfl (q_move rfl rfl) (SOps.q rfl (.guard 5 104 true rfl rfl (gT g17)) rfl (q_eql rfl rfl rfl) (SOps.q rfl (.guard 2 101 false rfl rfl (gF g14)) rfl (q_pick_t rfl rfl g17 rfl) (SOps.q rfl (.guard 2 101 false rfl rfl (gF g14)) rfl (q_move rfl rfl) (SOps.q rfl (.guard 9 108 true rfl rfl (gT g18)) rfl (q_move rfl rfl) (SOps.q rfl (.guard 9 108 true rfl rfl (gT g18)) rfl (q_move rfl rfl) (SOps.q rfl (.guard 9 108 true rfl rfl (gT g18)) rfl (q_move rfl rfl) (SOps.q rfl (.guard 9 108 true rfl rfl (gT g18)) rfl (q_add rfl rfl rfl) (SOps.q rfl (.guard 9 108 true rfl rfl (gT g18)) rfl (q_eql rfl rfl rfl) ?_)))))))))))))))
   refine SOps.q rfl (.guard 2 101 false rfl rfl (gF g14)) rfl (q_pick_t rfl rfl g18 rfl) (sq rfl rfl (q_pick_f rfl rfl g14 rfl) (sm rfl rfl (SOps.skip rfl 17 116 true rfl rfl (.inl (gF g19)) rfl (sq rfl rfl (q_pick_f rfl rfl g19 rfl) (sa rfl rfl (SOps.sub (st' := ⟨[(4, .c (.bool false))], []⟩) (sub_gen [] rfl rfl (zall rfl rfl) trivial) (SOps.nil (SCode.ret ?_))))))))
   obtain rfl := Option.some.inj h
   exact ⟨⟨[(4, .c (.bool false))], []⟩, _, sub_gen [] rfl rfl (zall rfl rfl) trivial, resA1 (v := .c (.bool false)) rfl rfl, rfl⟩
  refine SCode.region (sm rfl rfl (sq rfl rfl (q_neq rfl rfl rfl) (sm rfl rfl (SOps.q rfl (.guard 2 101 false rfl rfl (gF g14)) rfl (q_move rfl rfl) (SOps.q rfl (.guard 2 101 false rfl rfl (gF g14)) rfl (q_eql rfl rfl rfl) (SOps.q rfl (.guard 2 101 false rfl rfl (gF g14)) rfl (q_move rfl rfl) (SOps.q rfl (.guard 5 104 true rfl rfl (gT g17)) rfl (q_move rfl rfl) (SOps.q rfl (.guard 5 104 true rfl rfl (gT g17)) rfl (q_eql rfl rfl rfl) (SOps.q rfl (.guard 2 101 false rfl rfl (gF g14)) rfl (q_pick_t rfl rfl g17 rfl) (SOps.q rfl (.guard 2 101 false rfl rfl (gF g14)) rfl (q_move rfl rfl) (SOps.skip rfl 9 108 true rfl rfl (.inl (gF g18)) rfl (SOps.skip rfl 9 108 true rfl rfl (.inl (gF g18)) rfl (SOps.skip rfl 9 108 true rfl rfl (.inl (gF g18)) rfl (SOps.skip rfl 9 108 true rfl rfl (.inl (gF g18)) rfl (SOps.skip rfl 9 108 true rfl rfl (.inl (gF g18)) rfl ?_)))))))))))))))
  refine SOps.q rfl (.guard 2 101 false rfl rfl (gF g14)) rfl (q_pick_f rfl rfl g18 rfl) (sq rfl rfl (q_pick_f rfl rfl g14 rfl) (sm rfl rfl (SOps.skip rfl 17 116 true rfl rfl (.inl rfl) rfl (sq rfl rfl (q_pick_f rfl rfl rfl rfl) (sa rfl rfl (SOps.sub (st' := ⟨[(4, .c (.bool false))], []⟩) (sub_gen [] rfl rfl (zall rfl rfl) trivial) (SOps.nil (SCode.ret ?_))))))))
  obtain rfl := Option.some.inj h
  exact ⟨⟨[(4, .c (.bool false))], []⟩, _, sub_gen [] rfl rfl (zall rfl rfl) trivial, resA1 (v := .c (.bool false)) rfl rfl, rfl⟩
 refine SCode.region (sm rfl rfl (sq rfl rfl (q_neq rfl rfl rfl) (sm rfl rfl (SOps.q rfl (.guard 2 101 false rfl rfl (gF g14)) rfl (q_move rfl rfl) (SOps.q rfl (.guard 2 101 false rfl rfl (gF g14)) rfl (q_eql rfl rfl rfl) (SOps.q rfl (.guard 2 101 false rfl rfl (gF g14)) rfl (q_move rfl rfl) (SOps.skip rfl 5 104 true rfl rfl (.inl (gF g17)) rfl (SOps.skip rfl 5 104 true rfl rfl (.inl (gF g17)) rfl (SOps.q rfl (.guard 2 101 false rfl rfl (gF g14)) rfl (q_pick_f rfl rfl g17 rfl) (SOps.q rfl (.guard 2 101 false rfl rfl (gF g14)) rfl (q_move rfl rfl) (SOps.skip rfl 9 108 true rfl rfl (.inl rfl) rfl (SOps.skip rfl 9 108 true rfl rfl (.inl rfl) rfl (SOps.skip rfl 9 108 true rfl rfl (.inl rfl) rfl (SOps.skip rfl 9 108 true rfl rfl (.inl rfl) rfl (SOps.skip rfl 9 108 true rfl rfl (.inl rfl) rfl ?_)))))))))))))))
 refine SOps.q rfl (.guard 2 101 false rfl rfl (gF g14)) rfl (q_pick_f rfl rfl rfl rfl) (sq rfl rfl (q_pick_f rfl rfl g14 rfl) (sm rfl rfl (SOps.skip rfl 17 116 true rfl rfl (.inl rfl) rfl (sq rfl rfl (q_pick_f rfl rfl rfl rfl) (sa rfl rfl (SOps.sub (st' := ⟨[(4, .c (.bool false))], []⟩) (sub_gen [] rfl rfl (zall rfl rfl) trivial) (SOps.nil (SCode.ret ?_))))))))
 obtain rfl := Option.some.inj h
 exact ⟨⟨[(4, .c (.bool false))], []⟩, _, sub_gen [] rfl rfl (zall rfl rfl) trivial, resA1 (v := .c (.bool false)) rfl rfl, rfl⟩
end Go.Proofs.Ytoncfkdgddfnlaa.W
