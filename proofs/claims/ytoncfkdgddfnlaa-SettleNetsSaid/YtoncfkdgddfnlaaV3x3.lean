/- Written by a program of ours (wip/eng/gen.py): the functions compute their models. -/
import Derived.Test.YtoncfkdgddfnlaaFacts
import Derived.Test.YtoncfkdgddfnlaaV3x2
namespace Go.Proofs.Ytoncfkdgddfnlaa.W
open Go Go.Proofs Go.Proofs.Ytoncfkdgddfnlaa.E Go.Proofs.Ytoncfkdgddfnlaa.M
set_option linter.unusedVariables false
set_option maxRecDepth 100000
set_option maxHeartbeats 8000000
theorem chargenetref49_Net_ok (F : Nat) (a0_l : List SBalance) (r : (List SBalance) × Int) (h : chargenetref49_Net F a0_l = some r) :
  SFun Try.prog 10 [] [.c (vSBalance a0_l)] (fun x _ => x = .t [.c (vSBalance r.1), .c (.int .i64 r.2)]) := by
 refine SFun.of (n := 114) Try.func10 rfl rfl rfl ?_
 unfold chargenetref49_Net at h
 show SCode _ _ _ ⟨[(0, .c (vSBalance a0_l))], []⟩ _
 refine SCode.seq (SCode.region (sa rfl rfl (sa rfl rfl (SOps.nil (SCode.seq (SCode.seq (SCode.region (sm rfl rfl (sq rfl rfl (q_len_vec rfl rfl sl22) (sq rfl rfl (q_gtr rfl rfl rfl) (SOps.nil ?_)))))))))))
 rcases cond_out h with ⟨g1, h⟩ | ⟨g1, h⟩
 ·refine SCode.cond_t rfl g1 (SCode.seq (SCode.region (sa rfl rfl (sa rfl rfl (SOps.nil (SCode.ret ?_))))))
  obtain rfl := Option.some.inj h
  exact ⟨⟨[(2, .c (vSBalance (([] : List SBalance)))), (3, ci 3)], []⟩, _, sub_gen [] rfl rfl ⟨⟨_, rfl, .inr (.inr (.inr (.inl ⟨_, _, rfl, rfl⟩)))⟩, zc rfl rfl, trivial⟩ trivial, resA2 (v1 := .c (vSBalance (([] : List SBalance)))) (v2 := .c (.int .i64 3)) rfl rfl rfl, rfl⟩
 refine SCode.cond_f rfl g1 (SCode.skip ?_)
 let S16 := (⟨[(0, .c (vSBalance a0_l))], []⟩ : St)
 refine SCode.join (σ := Unit) (S := fun s => S16) (g := fun s => chargenetref49_Net_p46 F a0_l = some r) ?_ ?_
 rotate_left
 ·refine SCode.seq (SCode.region (sm rfl rfl (sq rfl rfl (q_len_vec rfl rfl sl22) (sm rfl rfl (SOps.nil (SCode.block ?_))))))
  let S15 := fun (t17_63 : Int) => (⟨[(0, .c (vSBalance a0_l)), (15, .c (vSBalance a0_l)), (16, ci (((a0_l).length : Int))), (17, ci t17_63)], []⟩ : St)
  refine SCode.sub (st' := (S15 0)) (sub_gen [] rfl rfl (zall rfl rfl) trivial) ?_
  refine (SCode.loop (σ := Nat × Int) (S := fun s => (S15 s.2)) (g := fun s => chargenetref49_Net_l80 F a0_l s.1 s.2 = some r) (μ := fun s => s.1) (F, 0) h ?_)
  rintro ⟨n_80, t17_63⟩ h
  try dsimp only at h
  show SCode _ _ _ (S15 t17_63) _
  cases n_80 with
  | zero => cases h
  | succ n_80 =>
   rw [chargenetref49_Net_l80] at h
   unfold chargenetref49_Net_b80 at h
   refine SCode.seq (SCode.region (sq rfl rfl (q_lss rfl rfl rfl) (SOps.nil (SCode.seq ?_))))
   rcases cond_out h with ⟨g81, h⟩ | ⟨g81, h⟩
   ·refine SCode.cond_t rfl g81 (SCode.skip (SCode.seq (SCode.block (SCode.seq ?_))))
    obtain ⟨g82, h⟩ := guard_out h
    refine SCode.region (sq rfl rfl (q_index_vec rfl rfl rfl sl22 rfl g82.1 g82.2) (sq rfl rfl (q_load_eptr_all rfl rfl rfl ty35) (se rfl rfl (e_alloc rfl rfl rfl z35) (se rfl rfl (e_store_box rfl rfl rfl rfl rfl ty35 rfl rfl rfl rfl) (SOps.nil (SCode.block ?_))))))
    let S14 := fun (t21_83 : Bool) => (⟨[(0, .c (vSBalance a0_l)), (5, .c (.ptr 0 0)), (15, .c (vSBalance a0_l)), (16, ci (((a0_l).length : Int))), (17, ci t17_63), (21, .c (.bool t21_83))], [.box (bSBalance (a0_l.getD t17_63.toNat dSBalance))]⟩ : St)
    refine SCode.join (σ := Bool) (S := fun s => (S14 s)) (g := fun s => chargenetref49_Net_p91 F a0_l t17_63 (fun t17_63 => chargenetref49_Net_l80 F a0_l n_80 t17_63) s = some r) ?_ ?_
    rotate_left
    ·obtain ⟨c_92, g93, h⟩ := bind_out h
     try dsimp only at h
     rcases cond_out h with ⟨g94, h⟩ | ⟨g94, h⟩
     ·refine SCode.region (sq rfl rfl (q_field_ptr rfl rfl fd35_0) (sq rfl rfl (q_load_ptr rfl rfl rfl rfl ty9) (sq rfl rfl (q_call (chargenetref01_Valid_ok F ((a0_l.getD t17_63.toNat dSBalance).Creditor) c_92 g93) [] rfl fn24 ⟨⟨_, rfl, .inl ⟨rfl, rfl⟩⟩, trivial⟩ (.inl rfl)) (sq rfl rfl (q_not rfl rfl) (sm rfl rfl (SOps.skip rfl 4 26 false rfl rfl (.inl (gT g94)) rfl (SOps.skip rfl 4 26 false rfl rfl (.inl (gT g94)) rfl (SOps.skip rfl 4 26 false rfl rfl (.inl (gT g94)) rfl (SOps.skip rfl 4 26 false rfl rfl (.inl (gT g94)) rfl (sq rfl rfl (q_pick_t rfl rfl g94 rfl) (sa rfl rfl (SOps.nil ?_))))))))))))
      exact ⟨true, h, sub_gen [0] rfl rfl (zall rfl rfl) ⟨bx rfl rfl rfl, trivial⟩⟩
     obtain ⟨c_95, g96, h⟩ := bind_out h
     try dsimp only at h
     refine SCode.region (sq rfl rfl (q_field_ptr rfl rfl fd35_0) (sq rfl rfl (q_load_ptr rfl rfl rfl rfl ty9) (sq rfl rfl (q_call (chargenetref01_Valid_ok F ((a0_l.getD t17_63.toNat dSBalance).Creditor) c_92 g93) [] rfl fn24 ⟨⟨_, rfl, .inl ⟨rfl, rfl⟩⟩, trivial⟩ (.inl rfl)) (sq rfl rfl (q_not rfl rfl) (sm rfl rfl (SOps.q rfl (.guard 4 26 false rfl rfl (gF g94)) rfl (q_field_ptr rfl rfl fd35_1) (SOps.q rfl (.guard 4 26 false rfl rfl (gF g94)) rfl (q_load_ptr rfl rfl rfl rfl ty9) (SOps.q rfl (.guard 4 26 false rfl rfl (gF g94)) rfl (q_call (chargenetref01_Valid_ok F ((a0_l.getD t17_63.toNat dSBalance).Debtor) c_95 g96) [] rfl fn24 ⟨⟨_, rfl, .inl ⟨rfl, rfl⟩⟩, trivial⟩ (.inl rfl)) (SOps.q rfl (.guard 4 26 false rfl rfl (gF g94)) rfl (q_not rfl rfl) (sq rfl rfl (q_pick_f rfl rfl g94 rfl) (sa rfl rfl (SOps.nil ?_))))))))))))
     exact ⟨(!c_95), h, sub_gen [0] rfl rfl (zall rfl rfl) ⟨bx rfl rfl rfl, trivial⟩⟩
    rintro t21_83 h
    show SCode _ _ _ (S14 t21_83) _
    try dsimp only at h
    unfold chargenetref49_Net_p91 at h
    rcases cond_out h with ⟨g84, h⟩ | ⟨g84, h⟩
    ·refine SCode.cond_t rfl g84 (SCode.seq (SCode.region (sa rfl rfl (sa rfl rfl (SOps.nil (SCode.ret ?_))))))
     obtain rfl := Option.some.inj h
     exact ⟨⟨[(2, .c (vSBalance (([] : List SBalance)))), (3, ci 4)], []⟩, _, sub_gen [] rfl rfl ⟨⟨_, rfl, .inr (.inr (.inr (.inl ⟨_, _, rfl, rfl⟩)))⟩, zc rfl rfl, trivial⟩ trivial, resA2 (v1 := .c (vSBalance (([] : List SBalance)))) (v2 := .c (.int .i64 4)) rfl rfl rfl, rfl⟩
    refine SCode.cond_f rfl g84 (SCode.seq (SCode.region (sq rfl rfl (q_field_ptr rfl rfl fd35_0) (sq rfl rfl (q_load_ptr rfl rfl rfl rfl ty9) (sq rfl rfl (q_field_ptr rfl rfl fd35_1) (sq rfl rfl (q_load_ptr rfl rfl rfl rfl ty9) (sq rfl rfl (q_eqlS rfl rfl rfl) (sa rfl rfl (SOps.nil ?_)))))))))
    rcases cond_out h with ⟨g85, h⟩ | ⟨g85, h⟩
    ·refine SCode.cond_t rfl g85 (SCode.seq (SCode.region (sa rfl rfl (sa rfl rfl (SOps.nil (SCode.ret ?_))))))
     obtain rfl := Option.some.inj h
     exact ⟨⟨[(2, .c (vSBalance (([] : List SBalance)))), (3, ci 1)], []⟩, _, sub_gen [] rfl rfl ⟨⟨_, rfl, .inr (.inr (.inr (.inl ⟨_, _, rfl, rfl⟩)))⟩, zc rfl rfl, trivial⟩ trivial, resA2 (v1 := .c (vSBalance (([] : List SBalance)))) (v2 := .c (.int .i64 1)) rfl rfl rfl, rfl⟩
    refine SCode.cond_f rfl g85 (SCode.seq ?_)
    obtain ⟨c_86, g87, h⟩ := bind_out h
    try dsimp only at h
    refine SCode.region (sq rfl rfl (q_field_ptr rfl rfl fd35_2) (sq rfl rfl (q_load_ptr rfl rfl rfl rfl ty9) (sq rfl rfl (q_call (chargenetref49_currency_ok F ((a0_l.getD t17_63.toNat dSBalance).Currency) c_86 g87) [] rfl fn25 ⟨⟨_, rfl, .inl ⟨rfl, rfl⟩⟩, trivial⟩ (.inl rfl)) (sq rfl rfl (q_not rfl rfl) (sa rfl rfl (SOps.nil ?_))))))
    rcases cond_out h with ⟨g88, h⟩ | ⟨g88, h⟩
    ·refine SCode.cond_t rfl g88 (SCode.seq (SCode.region (sa rfl rfl (sa rfl rfl (SOps.nil (SCode.ret ?_))))))
     obtain rfl := Option.some.inj h
     exact ⟨⟨[(2, .c (vSBalance (([] : List SBalance)))), (3, ci 21)], []⟩, _, sub_gen [] rfl rfl ⟨⟨_, rfl, .inr (.inr (.inr (.inl ⟨_, _, rfl, rfl⟩)))⟩, zc rfl rfl, trivial⟩ trivial, resA2 (v1 := .c (vSBalance (([] : List SBalance)))) (v2 := .c (.int .i64 21)) rfl rfl rfl, rfl⟩
    refine SCode.cond_f rfl g88 (SCode.seq ?_)
    rcases cond_out h with ⟨g89, h⟩ | ⟨g89, h⟩
    ·refine SCode.region (sq rfl rfl (q_field_ptr rfl rfl fd35_3) (sq rfl rfl (q_load_ptr rfl rfl rfl rfl ty3) (sq rfl rfl (q_lss rfl rfl rfl) (sm rfl rfl (SOps.skip rfl 3 47 false rfl rfl (.inl (gT g89)) rfl (SOps.skip rfl 3 47 false rfl rfl (.inl (gT g89)) rfl (SOps.skip rfl 3 47 false rfl rfl (.inl (gT g89)) rfl (sq rfl rfl (q_pick_t rfl rfl g89 rfl) (sa rfl rfl (SOps.sub (st' := ⟨[(0, .c (vSBalance a0_l)), (15, .c (vSBalance a0_l)), (16, ci (((a0_l).length : Int))), (17, ci t17_63), (43, .c (.bool true))], []⟩) (sub_gen [] rfl rfl (zall rfl rfl) trivial) (SOps.nil (SCode.cond_t rfl rfl (SCode.seq (SCode.region (sa rfl rfl ?_)))))))))))))))
     refine sa rfl rfl (SOps.nil (SCode.ret ?_))
     obtain rfl := Option.some.inj h
     exact ⟨⟨[(2, .c (vSBalance (([] : List SBalance)))), (3, ci 2)], []⟩, _, sub_gen [] rfl rfl ⟨⟨_, rfl, .inr (.inr (.inr (.inl ⟨_, _, rfl, rfl⟩)))⟩, zc rfl rfl, trivial⟩ trivial, resA2 (v1 := .c (vSBalance (([] : List SBalance)))) (v2 := .c (.int .i64 2)) rfl rfl rfl, rfl⟩
    refine SCode.region (sq rfl rfl (q_field_ptr rfl rfl fd35_3) (sq rfl rfl (q_load_ptr rfl rfl rfl rfl ty3) (sq rfl rfl (q_lss rfl rfl rfl) (sm rfl rfl (SOps.q rfl (.guard 3 47 false rfl rfl (gF g89)) rfl (q_field_ptr rfl rfl fd35_3) (SOps.q rfl (.guard 3 47 false rfl rfl (gF g89)) rfl (q_load_ptr rfl rfl rfl rfl ty3) (SOps.q rfl (.guard 3 47 false rfl rfl (gF g89)) rfl (q_gtr rfl rfl rfl) (sq rfl rfl (q_pick_f rfl rfl g89 rfl) (sa rfl rfl (SOps.sub (st' := ⟨[(0, .c (vSBalance a0_l)), (15, .c (vSBalance a0_l)), (16, ci (((a0_l).length : Int))), (17, ci t17_63), (43, .c (.bool (decide (1099511627776 < (a0_l.getD t17_63.toNat dSBalance).Amount))))], []⟩) (sub_gen [] rfl rfl (zall rfl rfl) trivial) (SOps.nil ?_)))))))))))
    rcases cond_out h with ⟨g90, h⟩ | ⟨g90, h⟩
    ·refine SCode.cond_t rfl g90 (SCode.seq (SCode.region (sa rfl rfl (sa rfl rfl (SOps.nil (SCode.ret ?_))))))
     obtain rfl := Option.some.inj h
     exact ⟨⟨[(2, .c (vSBalance (([] : List SBalance)))), (3, ci 2)], []⟩, _, sub_gen [] rfl rfl ⟨⟨_, rfl, .inr (.inr (.inr (.inl ⟨_, _, rfl, rfl⟩)))⟩, zc rfl rfl, trivial⟩ trivial, resA2 (v1 := .c (vSBalance (([] : List SBalance)))) (v2 := .c (.int .i64 2)) rfl rfl rfl, rfl⟩
    refine SCode.cond_f rfl g90 (SCode.skip (SCode.region (sq rfl rfl (q_add rfl rfl rfl) (sm rfl rfl (SOps.nil ?_)))))
    exact ⟨(n_80, IntKind.wrap .i64 (t17_63 + 1)), h, Nat.lt_succ_self n_80, sub_gen [] rfl rfl (zall rfl rfl) trivial⟩
   refine SCode.cond_f rfl g81 (SCode.exit ?_)
   exact ⟨(), h, sub_gen [] rfl rfl (zall rfl rfl) trivial⟩
 rintro ⟨⟩ h
 show SCode _ _ _ S16 _
 try dsimp only at h
 unfold chargenetref49_Net_p46 at h
 refine SCode.seq ?_
 obtain ⟨c_2, g3, h⟩ := bind_out h
 try dsimp only at h
 refine SCode.region (sm rfl rfl (se rfl rfl (e_call (chargenetref49_Positions_own_ok F a0_l c_2 g3) [] rfl fn12 rfl rfl rfl rfl rfl rfl rfl rfl) (sa rfl rfl (SOps.nil (SCode.seq (SCode.region (sa rfl rfl (SOps.nilArrL (T := 35) (k := 4) cSBalance dSBalance (s := 7) rfl rfl (SOps.nil (SCode.block ?_))))))))))
 let S8 := fun (o0_17 : List SPosition) => fun (o1_18 : List SBalance) => (⟨[(6, .c (.own 0 o0_17.length)), (7, .c (.own 1 o1_18.length))], [aSPosition 32 o0_17, aSBalance 35 o1_18]⟩ : St)
 refine SCode.sub (st' := (S8 c_2 (([] : List SBalance)))) (sub_gen [0, 1] rfl rfl (zall rfl rfl) ⟨oa rfl, oa rfl, trivial⟩) ?_
 refine (SCode.loop (σ := Nat × ((List SPosition) × (List SBalance))) (S := fun s => (S8 s.2.1 s.2.2)) (g := fun s => chargenetref49_Net_l32 F s.1 s.2.1 s.2.2 = some r) (μ := fun s => s.1) (F, (c_2, ([] : List SBalance))) h ?_)
 rintro ⟨n_32, ⟨o0_17, o1_18⟩⟩ h
 try dsimp only at h
 show SCode _ _ _ (S8 o0_17 o1_18) _
 cases n_32 with
 | zero => cases h
 | succ n_32 =>
  rw [chargenetref49_Net_l32] at h
  unfold chargenetref49_Net_b32 at h
  refine SCode.block (SCode.seq ?_)
  obtain ⟨c_33, g34, h⟩ := bind_out h
  try dsimp only at h
  refine SCode.region (sm rfl rfl (sq rfl rfl (q_call (chargenetref49_extremes_ok F o0_17 c_33 g34) [0] rfl fn26 ⟨⟨_, rfl, .inr (.inl ⟨_, _, _, _, _, _, _, rfl, rfl, rfl, Nat.le_refl _, fun _ _ _ _ => rfl, (.head _)⟩)⟩, trivial⟩ (.inr rfl)) (sm rfl rfl (sq rfl rfl (q_extract rfl rfl rfl) (sq rfl rfl (q_extract rfl rfl rfl) (sq rfl rfl (q_extract rfl rfl rfl) (sa rfl rfl (sa rfl rfl (sa rfl rfl (SOps.nil (SCode.seq (SCode.seq (SCode.region (sm rfl rfl (sq rfl rfl (q_not rfl rfl) ?_)))))))))))))))
  refine SOps.nil ?_
  rcases cond_out h with ⟨g35, h⟩ | ⟨g35, h⟩
  ·refine SCode.cond_t rfl g35 (SCode.seq (SCode.region (sm rfl rfl (sa rfl rfl (sa rfl rfl (SOps.nil (SCode.ret ?_)))))))
   obtain rfl := Option.some.inj h
   exact ⟨⟨[(2, .c (vSBalance o1_18)), (3, ci 0)], []⟩, _, sub_gen [] rfl rfl ⟨⟨_, rfl, .inr (.inl ⟨_, _, _, _, _, _, _, rfl, rfl, rfl, Nat.le_refl _, fun _ _ _ _ => rfl, nm rfl⟩)⟩, zc rfl rfl, trivial⟩ trivial, resA2 (v1 := .c (vSBalance o1_18)) (v2 := .c (.int .i64 0)) rfl rfl rfl, rfl⟩
  refine SCode.cond_f rfl g35 (SCode.skip (SCode.seq (SCode.sub (st' := ⟨[(6, .c (.own 0 o0_17.length)), (7, .c (.own 1 o1_18.length)), (8, ci c_33.1), (9, ci c_33.2.1)], [aSPosition 32 o0_17, aSBalance 35 o1_18]⟩) (sub_gen [0, 1] rfl rfl (zall rfl rfl) ⟨oa rfl, oa rfl, trivial⟩) ?_)))
  obtain ⟨g36, h⟩ := guard_out h
  obtain ⟨g37, h⟩ := guard_out h
  refine SCode.drawK mixed [[], [], [0, 1], [0, 1, 2], [0, 1, 2, 3], [], [], [5, 6], [5, 6, 7], [5, 6, 7, 8], [5, 6, 7, 8, 9], [0, 1, 2, 3, 4, 5, 6, 7, 8, 9, 10], [0, 1, 2, 3, 4, 5, 6, 7, 8, 9, 10, 11]] 13 0 rfl rfl (qm rfl rfl (qm rfl rfl (qr rfl rfl (q_index_own rfl rfl rfl sl29 g36.1 g36.2) (qr rfl rfl (q_field_aptr rfl rfl fd32_2) (qr rfl rfl (q_load_aptr rfl rfl rfl (toNat_lt g36) rfl ty3) (qm rfl rfl (qm rfl rfl (qr rfl rfl (q_index_own rfl rfl rfl sl29 g37.1 g37.2) (qr rfl rfl (q_field_aptr rfl rfl fd32_2) (qr rfl rfl (q_load_aptr rfl rfl rfl (toNat_lt g37) rfl ty3) (qr rfl rfl (q_neg rfl rfl) (qr rfl rfl (q_min rfl rfl rfl) (qr rfl rfl (q_assign rfl rfl) (QK.nil (SOps.sub (st' := ⟨[(6, .c (.own 0 o0_17.length)), (7, .c (.own 1 o1_18.length)), (8, ci c_33.1), (9, ci c_33.2.1), (11, ci ((if IntKind.wrap .i64 (0 - (o0_17.getD c_33.2.1.toNat dSPosition).Amount) < (o0_17.getD c_33.1.toNat dSPosition).Amount then IntKind.wrap .i64 (0 - (o0_17.getD c_33.2.1.toNat dSPosition).Amount) else (o0_17.getD c_33.1.toNat dSPosition).Amount)))], [aSPosition 32 o0_17, aSBalance 35 o1_18]⟩) (sub_gen [0, 1] rfl rfl (zall rfl rfl) ⟨oa rfl, oa rfl, trivial⟩) ?_)))))))))))))))
  refine SOps.nil (SCode.seq ?_)
  obtain ⟨g38, h⟩ := guard_out h
  obtain ⟨g39, h⟩ := guard_out h
  obtain ⟨g40, h⟩ := guard_out h
  obtain ⟨g41, h⟩ := guard_out h
  refine SCode.drawK mixed [[], [], [], [1, 2], [1, 2, 3], [1, 2, 3, 4], [], [], [6, 7], [6, 7, 8], [6, 7, 8, 9], [], [], [11, 12], [11, 12, 13], [11, 12, 13, 14], [], [1, 2, 3, 4, 5, 6, 7, 8, 9, 10, 11, 12, 13, 14, 15, 16], [1, 2, 3, 4, 5, 6, 7, 8, 9, 10, 11, 12, 13, 14, 15, 16, 17], [0, 1, 2, 3, 4, 5, 6, 7, 8, 9, 10, 11, 12, 13, 14, 15, 16, 17, 18], [0, 1, 2, 3, 4, 5, 6, 7, 8, 9, 10, 11, 12, 13, 14, 15, 16, 17, 18, 19]] 19 2 rfl rfl (qm rfl rfl (qm rfl rfl (qm rfl rfl (qr rfl rfl (q_index_own rfl rfl rfl sl29 g38.1 g38.2) (qr rfl rfl (q_field_aptr rfl rfl fd32_1) (qr rfl rfl (q_load_aptr rfl rfl rfl (toNat_lt g38) rfl ty9) (qm rfl rfl (qm rfl rfl (qr rfl rfl (q_index_own rfl rfl rfl sl29 g39.1 g39.2) (qr rfl rfl (q_field_aptr rfl rfl fd32_1) (qr rfl rfl (q_load_aptr rfl rfl rfl (toNat_lt g39) rfl ty9) (qm rfl rfl (qm rfl rfl (qr rfl rfl (q_index_own rfl rfl rfl sl29 g40.1 g40.2) (qr rfl rfl (q_field_aptr rfl rfl fd32_0) ?_)))))))))))))))
  refine qr rfl rfl (q_load_aptr rfl rfl rfl (toNat_lt g40) rfl ty9) (qm rfl rfl (qr rfl rfl (q_build2 rfl rfl pl35 rfl) ?_))
  let y1 := o0_17.getD c_33.1.toNat dSPosition
  refine qr rfl rfl (q_bsliceL (c := cSBalance) (d0 := dSBalance) [SBalance.mk (y1.Party) ((o0_17.getD c_33.2.1.toNat dSPosition).Party) (y1.Currency) ((if IntKind.wrap .i64 (0 - (o0_17.getD c_33.2.1.toNat dSPosition).Amount) < y1.Amount then IntKind.wrap .i64 (0 - (o0_17.getD c_33.2.1.toNat dSPosition).Amount) else y1.Amount))] rfl rfl sl22 z35 rfl rfl rfl rfl rfl rfl rfl) (QK.nil ?_)
  let y2 := o0_17.getD c_33.1.toNat dSPosition
  refine se rfl rfl (e_appendL (c := cSBalance) (d0 := dSBalance) (l := o1_18) (l2 := [SBalance.mk (y2.Party) ((o0_17.getD c_33.2.1.toNat dSPosition).Party) (y2.Currency) ((if IntKind.wrap .i64 (0 - (o0_17.getD c_33.2.1.toNat dSPosition).Amount) < y2.Amount then IntKind.wrap .i64 (0 - (o0_17.getD c_33.2.1.toNat dSPosition).Amount) else y2.Amount))]) rfl rfl rfl rfl rfl rfl (.inl rfl) sl22 z35 rfl rfl oneSBalance g41.1 g41.2) (sa rfl rfl ?_)
  let y3 := o0_17.getD c_33.1.toNat dSPosition
  let y4 := o0_17.getD c_33.2.1.toNat dSPosition
  refine SOps.sub (st' := ⟨[(6, .c (.own 0 o0_17.length)), (7, .c (.own 1 (o1_18 ++ ([SBalance.mk (y3.Party) (y4.Party) (y3.Currency) ((if IntKind.wrap .i64 (0 - y4.Amount) < y3.Amount then IntKind.wrap .i64 (0 - y4.Amount) else y3.Amount))])).length)), (8, ci c_33.1), (9, ci c_33.2.1), (11, ci ((if IntKind.wrap .i64 (0 - y4.Amount) < y3.Amount then IntKind.wrap .i64 (0 - y4.Amount) else y3.Amount)))], [aSPosition 32 o0_17, aSBalance 35 (o1_18 ++ ([SBalance.mk (y3.Party) (y4.Party) (y3.Currency) ((if IntKind.wrap .i64 (0 - y4.Amount) < y3.Amount then IntKind.wrap .i64 (0 - y4.Amount) else y3.Amount))]))]⟩) (sub_gen [0, 2] rfl rfl (zall rfl rfl) ⟨oa rfl, oa rfl, trivial⟩) (SOps.nil (SCode.seq ?_))
  obtain ⟨g42, h⟩ := guard_out h
  obtain ⟨g43, h⟩ := guard_out h
  refine SCode.region (sm rfl rfl (sm rfl rfl (sq rfl rfl (q_index_own rfl rfl rfl sl29 g42.1 g42.2) (sq rfl rfl (q_field_aptr rfl rfl fd32_2) (sq rfl rfl (q_load_aptr rfl rfl rfl (toNat_lt g42) rfl ty3) (sm rfl rfl (sq rfl rfl (q_sub rfl rfl rfl) (sq rfl rfl (q_index_own rfl rfl rfl sl29 g43.1 g43.2) (sq rfl rfl (q_field_aptr rfl rfl fd32_2) ?_)))))))))
  let y5 := o0_17.getD c_33.1.toNat dSPosition
  refine se rfl rfl (e_storeL (SPosition.mk (y5.Currency) (y5.Party) (IntKind.wrap .i64 (y5.Amount - (if IntKind.wrap .i64 (0 - (o0_17.getD c_33.2.1.toNat dSPosition).Amount) < y5.Amount then IntKind.wrap .i64 (0 - (o0_17.getD c_33.2.1.toNat dSPosition).Amount) else y5.Amount)))) rfl rfl rfl rfl rfl (toNat_lt g43) ty3 rfl rfl rfl rfl rfl rfl) ?_
  let y6 := o0_17.getD c_33.1.toNat dSPosition
  let y7 := 0 - (o0_17.getD c_33.2.1.toNat dSPosition).Amount
  refine SOps.sub (st' := ⟨[(6, .c (.own 0 (o0_17.set c_33.1.toNat (SPosition.mk (y6.Currency) (y6.Party) (IntKind.wrap .i64 (y6.Amount - (if IntKind.wrap .i64 y7 < y6.Amount then IntKind.wrap .i64 y7 else y6.Amount))))).length)), (7, .c (.own 1 (o1_18 ++ ([SBalance.mk (y6.Party) ((o0_17.getD c_33.2.1.toNat dSPosition).Party) (y6.Currency) ((if IntKind.wrap .i64 y7 < y6.Amount then IntKind.wrap .i64 y7 else y6.Amount))])).length)), (9, ci c_33.2.1), (11, ci ((if IntKind.wrap .i64 y7 < y6.Amount then IntKind.wrap .i64 y7 else y6.Amount)))], [aSPosition 32 (o0_17.set c_33.1.toNat (SPosition.mk (y6.Currency) (y6.Party) (IntKind.wrap .i64 (y6.Amount - (if IntKind.wrap .i64 y7 < y6.Amount then IntKind.wrap .i64 y7 else y6.Amount))))), aSBalance 35 (o1_18 ++ ([SBalance.mk (y6.Party) ((o0_17.getD c_33.2.1.toNat dSPosition).Party) (y6.Currency) ((if IntKind.wrap .i64 y7 < y6.Amount then IntKind.wrap .i64 y7 else y6.Amount))]))]⟩) (sub_gen [0, 1] rfl rfl ⟨⟨_, rfl, .inl ⟨rfl, congrArg (Cell.own 0) (List.length_set : (o0_17.set c_33.1.toNat (SPosition.mk (y6.Currency) (y6.Party) (IntKind.wrap .i64 (y6.Amount - (if IntKind.wrap .i64 y7 < y6.Amount then IntKind.wrap .i64 y7 else y6.Amount))))).length = o0_17.length).symm⟩⟩, zc rfl rfl, zc rfl rfl, zc rfl rfl, trivial⟩ ⟨oa rfl, oa rfl, trivial⟩) (SOps.nil ?_)
  obtain ⟨g44, h⟩ := guard_out h
  obtain ⟨g45, h⟩ := guard_out h
  refine SCode.region (sm rfl rfl (sm rfl rfl (sq rfl rfl (q_index_own rfl rfl rfl sl29 g44.1 g44.2) (sq rfl rfl (q_field_aptr rfl rfl fd32_2) (sq rfl rfl (q_load_aptr rfl rfl rfl (toNat_lt g44) rfl ty3) (sm rfl rfl (sq rfl rfl (q_add rfl rfl rfl) (sq rfl rfl (q_index_own rfl rfl rfl sl29 g45.1 g45.2) (sq rfl rfl (q_field_aptr rfl rfl fd32_2) ?_)))))))))
  let y8 := o0_17.getD c_33.1.toNat dSPosition
  let y9 := 0 - (o0_17.getD c_33.2.1.toNat dSPosition).Amount
  refine se rfl rfl (e_storeL (SPosition.mk (((o0_17.set c_33.1.toNat (SPosition.mk (y8.Currency) (y8.Party) (IntKind.wrap .i64 (y8.Amount - (if IntKind.wrap .i64 y9 < y8.Amount then IntKind.wrap .i64 y9 else y8.Amount))))).getD c_33.2.1.toNat dSPosition).Currency) (((o0_17.set c_33.1.toNat (SPosition.mk (y8.Currency) (y8.Party) (IntKind.wrap .i64 (y8.Amount - (if IntKind.wrap .i64 y9 < y8.Amount then IntKind.wrap .i64 y9 else y8.Amount))))).getD c_33.2.1.toNat dSPosition).Party) (IntKind.wrap .i64 (((o0_17.set c_33.1.toNat (SPosition.mk (y8.Currency) (y8.Party) (IntKind.wrap .i64 (y8.Amount - (if IntKind.wrap .i64 y9 < y8.Amount then IntKind.wrap .i64 y9 else y8.Amount))))).getD c_33.2.1.toNat dSPosition).Amount + (if IntKind.wrap .i64 y9 < y8.Amount then IntKind.wrap .i64 y9 else y8.Amount)))) rfl rfl rfl rfl rfl (toNat_lt g45) ty3 rfl rfl rfl rfl rfl rfl) ?_
  let y10 := o0_17.getD c_33.1.toNat dSPosition
  let y11 := 0 - (o0_17.getD c_33.2.1.toNat dSPosition).Amount
  refine SOps.sub (st' := ⟨[(6, .c (.own 0 ((o0_17.set c_33.1.toNat (SPosition.mk (y10.Currency) (y10.Party) (IntKind.wrap .i64 (y10.Amount - (if IntKind.wrap .i64 y11 < y10.Amount then IntKind.wrap .i64 y11 else y10.Amount))))).set c_33.2.1.toNat (SPosition.mk (((o0_17.set c_33.1.toNat (SPosition.mk (y10.Currency) (y10.Party) (IntKind.wrap .i64 (y10.Amount - (if IntKind.wrap .i64 y11 < y10.Amount then IntKind.wrap .i64 y11 else y10.Amount))))).getD c_33.2.1.toNat dSPosition).Currency) (((o0_17.set c_33.1.toNat (SPosition.mk (y10.Currency) (y10.Party) (IntKind.wrap .i64 (y10.Amount - (if IntKind.wrap .i64 y11 < y10.Amount then IntKind.wrap .i64 y11 else y10.Amount))))).getD c_33.2.1.toNat dSPosition).Party) (IntKind.wrap .i64 (((o0_17.set c_33.1.toNat (SPosition.mk (y10.Currency) (y10.Party) (IntKind.wrap .i64 (y10.Amount - (if IntKind.wrap .i64 y11 < y10.Amount then IntKind.wrap .i64 y11 else y10.Amount))))).getD c_33.2.1.toNat dSPosition).Amount + (if IntKind.wrap .i64 y11 < y10.Amount then IntKind.wrap .i64 y11 else y10.Amount))))).length)), (7, .c (.own 1 (o1_18 ++ ([SBalance.mk (y10.Party) ((o0_17.getD c_33.2.1.toNat dSPosition).Party) (y10.Currency) ((if IntKind.wrap .i64 y11 < y10.Amount then IntKind.wrap .i64 y11 else y10.Amount))])).length))], [aSPosition 32 ((o0_17.set c_33.1.toNat (SPosition.mk (y10.Currency) (y10.Party) (IntKind.wrap .i64 (y10.Amount - (if IntKind.wrap .i64 y11 < y10.Amount then IntKind.wrap .i64 y11 else y10.Amount))))).set c_33.2.1.toNat (SPosition.mk (((o0_17.set c_33.1.toNat (SPosition.mk (y10.Currency) (y10.Party) (IntKind.wrap .i64 (y10.Amount - (if IntKind.wrap .i64 y11 < y10.Amount then IntKind.wrap .i64 y11 else y10.Amount))))).getD c_33.2.1.toNat dSPosition).Currency) (((o0_17.set c_33.1.toNat (SPosition.mk (y10.Currency) (y10.Party) (IntKind.wrap .i64 (y10.Amount - (if IntKind.wrap .i64 y11 < y10.Amount then IntKind.wrap .i64 y11 else y10.Amount))))).getD c_33.2.1.toNat dSPosition).Party) (IntKind.wrap .i64 (((o0_17.set c_33.1.toNat (SPosition.mk (y10.Currency) (y10.Party) (IntKind.wrap .i64 (y10.Amount - (if IntKind.wrap .i64 y11 < y10.Amount then IntKind.wrap .i64 y11 else y10.Amount))))).getD c_33.2.1.toNat dSPosition).Amount + (if IntKind.wrap .i64 y11 < y10.Amount then IntKind.wrap .i64 y11 else y10.Amount))))), aSBalance 35 (o1_18 ++ ([SBalance.mk (y10.Party) ((o0_17.getD c_33.2.1.toNat dSPosition).Party) (y10.Currency) ((if IntKind.wrap .i64 y11 < y10.Amount then IntKind.wrap .i64 y11 else y10.Amount))]))]⟩) (sub_gen [0, 1] rfl rfl ⟨⟨_, rfl, .inl ⟨rfl, congrArg (Cell.own 0) (List.length_set : ((o0_17.set c_33.1.toNat (SPosition.mk (y10.Currency) (y10.Party) (IntKind.wrap .i64 (y10.Amount - (if IntKind.wrap .i64 y11 < y10.Amount then IntKind.wrap .i64 y11 else y10.Amount))))).set c_33.2.1.toNat (SPosition.mk (((o0_17.set c_33.1.toNat (SPosition.mk (y10.Currency) (y10.Party) (IntKind.wrap .i64 (y10.Amount - (if IntKind.wrap .i64 y11 < y10.Amount then IntKind.wrap .i64 y11 else y10.Amount))))).getD c_33.2.1.toNat dSPosition).Currency) (((o0_17.set c_33.1.toNat (SPosition.mk (y10.Currency) (y10.Party) (IntKind.wrap .i64 (y10.Amount - (if IntKind.wrap .i64 y11 < y10.Amount then IntKind.wrap .i64 y11 else y10.Amount))))).getD c_33.2.1.toNat dSPosition).Party) (IntKind.wrap .i64 (((o0_17.set c_33.1.toNat (SPosition.mk (y10.Currency) (y10.Party) (IntKind.wrap .i64 (y10.Amount - (if IntKind.wrap .i64 y11 < y10.Amount then IntKind.wrap .i64 y11 else y10.Amount))))).getD c_33.2.1.toNat dSPosition).Amount + (if IntKind.wrap .i64 y11 < y10.Amount then IntKind.wrap .i64 y11 else y10.Amount))))).length = (o0_17.set c_33.1.toNat (SPosition.mk (y10.Currency) (y10.Party) (IntKind.wrap .i64 (y10.Amount - (if IntKind.wrap .i64 y11 < y10.Amount then IntKind.wrap .i64 y11 else y10.Amount))))).length).symm⟩⟩, zc rfl rfl, trivial⟩ ⟨oa rfl, oa rfl, trivial⟩) (SOps.nil ?_)
  let y12 := o0_17.getD c_33.1.toNat dSPosition
  let y13 := 0 - (o0_17.getD c_33.2.1.toNat dSPosition).Amount
  exact ⟨(n_32, ((o0_17.set c_33.1.toNat (SPosition.mk (y12.Currency) (y12.Party) (IntKind.wrap .i64 (y12.Amount - (if IntKind.wrap .i64 y13 < y12.Amount then IntKind.wrap .i64 y13 else y12.Amount))))).set c_33.2.1.toNat (SPosition.mk (((o0_17.set c_33.1.toNat (SPosition.mk (y12.Currency) (y12.Party) (IntKind.wrap .i64 (y12.Amount - (if IntKind.wrap .i64 y13 < y12.Amount then IntKind.wrap .i64 y13 else y12.Amount))))).getD c_33.2.1.toNat dSPosition).Currency) (((o0_17.set c_33.1.toNat (SPosition.mk (y12.Currency) (y12.Party) (IntKind.wrap .i64 (y12.Amount - (if IntKind.wrap .i64 y13 < y12.Amount then IntKind.wrap .i64 y13 else y12.Amount))))).getD c_33.2.1.toNat dSPosition).Party) (IntKind.wrap .i64 (((o0_17.set c_33.1.toNat (SPosition.mk (y12.Currency) (y12.Party) (IntKind.wrap .i64 (y12.Amount - (if IntKind.wrap .i64 y13 < y12.Amount then IntKind.wrap .i64 y13 else y12.Amount))))).getD c_33.2.1.toNat dSPosition).Amount + (if IntKind.wrap .i64 y13 < y12.Amount then IntKind.wrap .i64 y13 else y12.Amount)))), o1_18 ++ ([SBalance.mk (y12.Party) ((o0_17.getD c_33.2.1.toNat dSPosition).Party) (y12.Currency) ((if IntKind.wrap .i64 y13 < y12.Amount then IntKind.wrap .i64 y13 else y12.Amount))]))), h, Nat.lt_succ_self n_32, sub_gen [0, 1] rfl rfl (zall rfl rfl) ⟨oa rfl, oa rfl, trivial⟩⟩
theorem chargenetlaw49_same_ok (F : Nat) (a0_a : List SBalance) (a1_b : List SBalance) (r : Bool) (h : chargenetlaw49_same F a0_a a1_b = some r) :
  SFun Try.prog 11 [] [.c (vSBalance a0_a), .c (vSBalance a1_b)] (fun x _ => x = .c (.bool r)) := by
 refine SFun.of (n := 26) Try.func11 rfl rfl rfl ?_
 unfold chargenetlaw49_same at h
 show SCode _ _ _ ⟨[(0, .c (vSBalance a0_a)), (1, .c (vSBalance a1_b))], []⟩ _
 refine SCode.seq (SCode.region (sa rfl rfl (SOps.nil (SCode.seq (SCode.seq (SCode.region (sm rfl rfl (sq rfl rfl (q_len_vec rfl rfl sl22) (sm rfl rfl (sq rfl rfl (q_len_vec rfl rfl sl22) (sq rfl rfl (q_neq rfl rfl rfl) (SOps.nil ?_))))))))))))
 rcases cond_out h with ⟨g1, h⟩ | ⟨g1, h⟩
 ·refine SCode.cond_t rfl g1 (SCode.seq (SCode.region (sa rfl rfl (SOps.nil (SCode.ret ?_)))))
  obtain rfl := Option.some.inj h
  exact ⟨⟨[(4, .c (.bool false))], []⟩, _, sub_gen [] rfl rfl (zall rfl rfl) trivial, resA1 (v := .c (.bool false)) rfl rfl, rfl⟩
 refine SCode.cond_f rfl g1 (SCode.skip ?_)
 let S3 := (⟨[], []⟩ : St)
 refine SCode.join (σ := Unit) (S := fun s => S3) (g := fun s => chargenetlaw49_same_p2 = some r) ?_ ?_
 rotate_left
 ·refine SCode.seq (SCode.region (sm rfl rfl (sq rfl rfl (q_len_vec rfl rfl sl22) (sm rfl rfl (SOps.nil (SCode.block ?_))))))
  let S2 := fun (t13_7 : Int) => (⟨[(0, .c (vSBalance a0_a)), (1, .c (vSBalance a1_b)), (12, ci (((a0_a).length : Int))), (13, ci t13_7)], []⟩ : St)
  refine SCode.sub (st' := (S2 0)) (sub_gen [] rfl rfl (zall rfl rfl) trivial) ?_
  refine (SCode.loop (σ := Nat × Int) (S := fun s => (S2 s.2)) (g := fun s => chargenetlaw49_same_l12 a0_a a1_b s.1 s.2 = some r) (μ := fun s => s.1) (F, 0) h ?_)
  rintro ⟨n_12, t13_7⟩ h
  try dsimp only at h
  show SCode _ _ _ (S2 t13_7) _
  cases n_12 with
  | zero => cases h
  | succ n_12 =>
   rw [chargenetlaw49_same_l12] at h
   unfold chargenetlaw49_same_b12 at h
   refine SCode.seq (SCode.region (sq rfl rfl (q_lss rfl rfl rfl) (SOps.nil (SCode.seq ?_))))
   rcases cond_out h with ⟨g13, h⟩ | ⟨g13, h⟩
   ·refine SCode.cond_t rfl g13 (SCode.skip (SCode.seq (SCode.block (SCode.seq (SCode.region (sm rfl rfl (sa rfl rfl (SOps.nil (SCode.seq (SCode.sub (st' := ⟨[(0, .c (vSBalance a0_a)), (1, .c (vSBalance a1_b)), (5, ci t13_7), (12, ci (((a0_a).length : Int))), (13, ci t13_7)], []⟩) (sub_gen [] rfl rfl (zall rfl rfl) trivial) ?_))))))))))
    obtain ⟨g14, h⟩ := guard_out h
    obtain ⟨g15, h⟩ := guard_out h
    refine SCode.drawK mixed [[], [], [0, 1], [0, 1, 2], [], [], [4, 5], [4, 5, 6], [0, 1, 2, 3, 4, 5, 6, 7]] 9 0 rfl rfl (qm rfl rfl (qm rfl rfl (qr rfl rfl (q_index_vec rfl rfl rfl sl22 rfl g14.1 g14.2) (qr rfl rfl (q_load_eptr_all rfl rfl rfl ty35) (qm rfl rfl (qm rfl rfl (qr rfl rfl (q_index_vec rfl rfl rfl sl22 rfl g15.1 g15.2) (qr rfl rfl (q_load_eptr_all rfl rfl rfl ty35) (qr rfl rfl (q_eqAgg (neg := true) rfl (.inr rfl) rfl rfl eqt35 rfl) (QK.nil ?_))))))))))
    let y1 := a1_b.getD t13_7.toNat dSBalance
    let y2 := a0_a.getD t13_7.toNat dSBalance
    refine SOps.sub (st' := ⟨[(0, .c (vSBalance a0_a)), (1, .c (vSBalance a1_b)), (12, ci (((a0_a).length : Int))), (13, ci t13_7), (24, .c (.bool ((xor true (sEq (y2.Creditor) (y1.Creditor) && (sEq (y2.Debtor) (y1.Debtor) && (sEq (y2.Currency) (y1.Currency) && (decide (y2.Amount = y1.Amount) && true))))))))], []⟩) (sub_gen [] rfl rfl (zall rfl rfl) trivial) (SOps.nil ?_)
    rcases cond_out h with ⟨g16, h⟩ | ⟨g16, h⟩
    ·refine SCode.cond_t rfl g16 (SCode.seq (SCode.region (sa rfl rfl (SOps.nil (SCode.ret ?_)))))
     obtain rfl := Option.some.inj h
     exact ⟨⟨[(4, .c (.bool false))], []⟩, _, sub_gen [] rfl rfl (zall rfl rfl) trivial, resA1 (v := .c (.bool false)) rfl rfl, rfl⟩
    refine SCode.cond_f rfl g16 (SCode.skip (SCode.region (sq rfl rfl (q_add rfl rfl rfl) (sm rfl rfl (SOps.nil ?_)))))
    exact ⟨(n_12, IntKind.wrap .i64 (t13_7 + 1)), h, Nat.lt_succ_self n_12, sub_gen [] rfl rfl (zall rfl rfl) trivial⟩
   refine SCode.cond_f rfl g13 (SCode.exit ?_)
   exact ⟨(), h, sub_gen [] rfl rfl trivial trivial⟩
 rintro ⟨⟩ h
 show SCode _ _ _ S3 _
 try dsimp only at h
 unfold chargenetlaw49_same_p2 at h
 refine SCode.seq (SCode.region (sa rfl rfl (SOps.nil (SCode.ret ?_))))
 obtain rfl := Option.some.inj h
 exact ⟨⟨[(4, .c (.bool true))], []⟩, _, sub_gen [] rfl rfl (zall rfl rfl) trivial, resA1 (v := .c (.bool true)) rfl rfl, rfl⟩
theorem chargenetlaw49_SettleNets_ok (F : Nat) (a0_l : List SBalance) (r : Bool) (h : chargenetlaw49_SettleNets F a0_l = some r) :
  SFun Try.prog 3 [] [.c (vSBalance a0_l)] (fun x _ => x = .c (.bool r)) := by
 refine SFun.of (n := 29) Try.func3 rfl rfl rfl ?_
 unfold chargenetlaw49_SettleNets at h
 show SCode _ _ _ ⟨[(0, .c (vSBalance a0_l))], []⟩ _
 refine SCode.seq (SCode.region (sa rfl rfl (SOps.nil (SCode.seq (SCode.seq (SCode.region (sm rfl rfl (sq rfl rfl (q_len_vec rfl rfl sl22) (sq rfl rfl (q_gtr rfl rfl rfl) (SOps.nil ?_))))))))))
 rcases cond_out h with ⟨g1, h⟩ | ⟨g1, h⟩
 ·refine SCode.cond_t rfl g1 (SCode.seq ?_)
  obtain ⟨c_2, g3, h⟩ := bind_out h
  try dsimp only at h
  refine SCode.region (sq rfl rfl (q_call (chargenetlaw49_exampleHolds_ok F  c_2 g3) [] rfl fn8 trivial (.inl rfl)) (sa rfl rfl (SOps.nil (SCode.ret ?_))))
  obtain rfl := Option.some.inj h
  exact ⟨⟨[(2, .c (.bool c_2))], []⟩, _, sub_gen [] rfl rfl (zall rfl rfl) trivial, resA1 (v := .c (.bool c_2)) rfl rfl, rfl⟩
 refine SCode.cond_f rfl g1 (SCode.skip (SCode.seq ?_))
 obtain ⟨c_4, g5, h⟩ := bind_out h
 try dsimp only at h
 refine SCode.region (sm rfl rfl (sq rfl rfl (q_call (settle_Net_ok F a0_l c_4 g5) [] rfl fn9 ⟨⟨_, rfl, .inl ⟨rfl, rfl⟩⟩, trivial⟩ (.inl rfl)) (sm rfl rfl (sq rfl rfl (q_extract rfl rfl rfl) (sq rfl rfl (q_extract rfl rfl rfl) (sa rfl rfl (sa rfl rfl (SOps.nil (SCode.seq ?_)))))))))
 obtain ⟨c_6, g7, h⟩ := bind_out h
 try dsimp only at h
 refine SCode.region (sm rfl rfl (sq rfl rfl (q_call (chargenetref49_Net_ok F a0_l c_6 g7) [] rfl fn10 ⟨⟨_, rfl, .inl ⟨rfl, rfl⟩⟩, trivial⟩ (.inl rfl)) (sm rfl rfl (sq rfl rfl (q_extract rfl rfl rfl) (sq rfl rfl (q_extract rfl rfl rfl) (sa rfl rfl (sa rfl rfl (SOps.sub (st' := ⟨[(3, .c (vSBalance c_4.1)), (4, ci c_4.2), (5, .c (vSBalance c_6.1)), (6, ci c_6.2)], []⟩) (sub_gen [] rfl rfl (zall rfl rfl) trivial) (SOps.nil (SCode.seq ?_))))))))))
 rcases cond_out h with ⟨g8, h⟩ | ⟨g8, h⟩
 ·obtain ⟨c_9, g10, h⟩ := bind_out h
  try dsimp only at h
  refine SCode.region (sm rfl rfl (sm rfl rfl (sq rfl rfl (q_eql rfl rfl rfl) (sm rfl rfl (SOps.q rfl (.guard 3 24 true rfl rfl (gT g8)) rfl (q_move rfl rfl) (SOps.q rfl (.guard 3 24 true rfl rfl (gT g8)) rfl (q_move rfl rfl) (SOps.q rfl (.guard 3 24 true rfl rfl (gT g8)) rfl (q_call (chargenetlaw49_same_ok F c_4.1 c_6.1 c_9 g10) [] rfl fn11 ⟨⟨_, rfl, .inl ⟨rfl, rfl⟩⟩, ⟨_, rfl, .inl ⟨rfl, rfl⟩⟩, trivial⟩ (.inl rfl)) (sq rfl rfl (q_pick_t rfl rfl g8 rfl) (sa rfl rfl (SOps.nil (SCode.ret ?_)))))))))))
  obtain rfl := Option.some.inj h
  exact ⟨⟨[(2, .c (.bool c_9))], []⟩, _, sub_gen [] rfl rfl (zall rfl rfl) trivial, resA1 (v := .c (.bool c_9)) rfl rfl, rfl⟩
 refine SCode.region (sm rfl rfl (sm rfl rfl (sq rfl rfl (q_eql rfl rfl rfl) (sm rfl rfl (SOps.skip rfl 3 24 true rfl rfl (.inl (gF g8)) rfl (SOps.skip rfl 3 24 true rfl rfl (.inl (gF g8)) rfl (SOps.skip rfl 3 24 true rfl rfl (.inl (gF g8)) rfl (sq rfl rfl (q_pick_f rfl rfl g8 rfl) (sa rfl rfl (SOps.nil (SCode.ret ?_)))))))))))
 obtain rfl := Option.some.inj h
 exact ⟨⟨[(2, .c (.bool false))], []⟩, _, sub_gen [] rfl rfl (zall rfl rfl) trivial, resA1 (v := .c (.bool false)) rfl rfl, rfl⟩
end Go.Proofs.Ytoncfkdgddfnlaa.W
