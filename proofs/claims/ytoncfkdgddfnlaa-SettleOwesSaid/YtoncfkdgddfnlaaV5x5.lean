/- Written by a program of ours (wip/eng/gen.py): the functions compute their models. -/
import Derived.Test.YtoncfkdgddfnlaaFacts
import Derived.Test.YtoncfkdgddfnlaaV5x4
namespace Go.Proofs.Ytoncfkdgddfnlaa.W
open Go Go.Proofs Go.Proofs.Ytoncfkdgddfnlaa.E Go.Proofs.Ytoncfkdgddfnlaa.M
set_option linter.unusedVariables false
set_option maxRecDepth 100000
set_option maxHeartbeats 8000000
theorem chargenetref49_Owed_ok (F : Nat) (a0_l : List SCDR) (a1_ds : List SDispute) (a2_creditor : ByteArray) (a3_debtor : ByteArray) (a4_cur : ByteArray) (a5_s : SSpan) (r : Int × Int) (h : chargenetref49_Owed F a0_l a1_ds a2_creditor a3_debtor a4_cur a5_s = some r) :
  SFun Try.prog 16 [] [.c (vSCDR a0_l), .c (vSDispute a1_ds), .c (.str a2_creditor), .c (.str a3_debtor), .c (.str a4_cur), .a (bSSpan a5_s)] (fun x _ => x = .t [.c (.int .i64 r.1), .c (.int .i64 r.2)]) := by
 refine SFun.of (n := 146) Try.func16 rfl rfl rfl ?_
 unfold chargenetref49_Owed at h
 show SCode _ _ _ ⟨[(0, .c (vSCDR a0_l)), (1, .c (vSDispute a1_ds)), (2, .c (.str a2_creditor)), (3, .c (.str a3_debtor)), (4, .c (.str a4_cur)), (5, .a (bSSpan a5_s))], []⟩ _
 refine SCode.seq (SCode.region (se rfl rfl (e_box rfl rfl rfl rfl rfl rfl) (sa rfl rfl (sa rfl rfl (SOps.nil ?_)))))
 let S17 := (⟨[(0, .c (vSCDR a0_l)), (1, .c (vSDispute a1_ds)), (2, .c (.str a2_creditor)), (3, .c (.str a3_debtor)), (4, .c (.str a4_cur)), (11, .c (.ptr 0 0))], [.box (bSSpan a5_s)]⟩ : St)
 refine SCode.join (σ := Unit) (S := fun s => S17) (g := fun s => chargenetref49_Owed_p79 F a0_l a1_ds a2_creditor a3_debtor a4_cur a5_s = some r) ?_ ?_
 rotate_left
 ·refine SCode.seq (SCode.region (sm rfl rfl (sq rfl rfl (q_len_vec rfl rfl sl36) (sm rfl rfl (SOps.nil (SCode.block ?_))))))
  let S16 := fun (t27_85 : Int) => (⟨[(0, .c (vSCDR a0_l)), (1, .c (vSDispute a1_ds)), (2, .c (.str a2_creditor)), (3, .c (.str a3_debtor)), (4, .c (.str a4_cur)), (11, .c (.ptr 0 0)), (25, .c (vSCDR a0_l)), (26, ci (((a0_l).length : Int))), (27, ci t27_85)], [.box (bSSpan a5_s)]⟩ : St)
  refine SCode.sub (st' := (S16 0)) (sub_gen [0] rfl rfl (zall rfl rfl) ⟨bx rfl rfl rfl, trivial⟩) ?_
  refine (SCode.loop (σ := Nat × Int) (S := fun s => (S16 s.2)) (g := fun s => chargenetref49_Owed_l91 F a0_l a1_ds a2_creditor a3_debtor a4_cur a5_s s.1 s.2 = some r) (μ := fun s => s.1) (F, 0) h ?_)
  rintro ⟨n_91, t27_85⟩ h
  try dsimp only at h
  show SCode _ _ _ (S16 t27_85) _
  cases n_91 with
  | zero => cases h
  | succ n_91 =>
   rw [chargenetref49_Owed_l91] at h
   unfold chargenetref49_Owed_b91 at h
   refine SCode.seq (SCode.region (sq rfl rfl (q_lss rfl rfl rfl) (SOps.nil (SCode.seq ?_))))
   rcases cond_out h with ⟨g92, h⟩ | ⟨g92, h⟩
   ·refine SCode.cond_t rfl g92 (SCode.skip (SCode.seq (SCode.block (SCode.seq ?_))))
    obtain ⟨g93, h⟩ := guard_out h
    refine SCode.region (sq rfl rfl (q_index_vec rfl rfl rfl sl36 rfl g93.1 g93.2) (sq rfl rfl (q_load_eptr_all rfl rfl rfl ty47) (se rfl rfl (e_alloc rfl rfl rfl z47) (se rfl rfl (e_store_box rfl rfl rfl rfl rfl ty47 rfl rfl rfl rfl) (SOps.nil (SCode.seq ?_))))))
    obtain ⟨c_94, g95, h⟩ := bind_out h
    try dsimp only at h
    refine SCode.region (sq rfl rfl (q_load_ptr_all rfl rfl rfl rfl rfl ty47) (sq rfl rfl (q_call (chargenetref46_Valid_ok F (a0_l.getD t27_85.toNat dSCDR) c_94 g95) [] rfl fn17 ⟨⟨rfl, rfl⟩, trivial⟩ (.inl rfl)) (sa rfl rfl (SOps.nil (SCode.seq (SCode.region (sm rfl rfl (sq rfl rfl (q_neq rfl rfl rfl) (SOps.nil ?_)))))))))
    rcases cond_out h with ⟨g96, h⟩ | ⟨g96, h⟩
    ·refine SCode.cond_t rfl g96 (SCode.seq (SCode.region (sm rfl rfl (sa rfl rfl (sa rfl rfl (SOps.nil (SCode.ret ?_)))))))
     obtain rfl := Option.some.inj h
     exact ⟨⟨[(12, ci 0), (13, ci c_94)], []⟩, _, sub_gen [] rfl rfl (zall rfl rfl) trivial, resA2 (v1 := .c (.int .i64 0)) (v2 := .c (.int .i64 c_94)) rfl rfl rfl, rfl⟩
    refine SCode.cond_f rfl g96 (SCode.skip (SCode.region (sq rfl rfl (q_add rfl rfl rfl) (sm rfl rfl (SOps.nil ?_)))))
    exact ⟨(n_91, IntKind.wrap .i64 (t27_85 + 1)), h, Nat.lt_succ_self n_91, sub_gen [0] rfl rfl (zall rfl rfl) ⟨bx rfl rfl rfl, trivial⟩⟩
   refine SCode.cond_f rfl g92 (SCode.exit ?_)
   exact ⟨(), h, sub_gen [0] rfl rfl (zall rfl rfl) ⟨bx rfl rfl rfl, trivial⟩⟩
 rintro ⟨⟩ h
 show SCode _ _ _ S17 _
 try dsimp only at h
 unfold chargenetref49_Owed_p79 at h
 let S15 := (⟨[(0, .c (vSCDR a0_l)), (1, .c (vSDispute a1_ds)), (2, .c (.str a2_creditor)), (3, .c (.str a3_debtor)), (4, .c (.str a4_cur)), (11, .c (.ptr 0 0))], [.box (bSSpan a5_s)]⟩ : St)
 refine SCode.join (σ := Unit) (S := fun s => S15) (g := fun s => chargenetref49_Owed_p61 F a0_l a1_ds a2_creditor a3_debtor a4_cur a5_s = some r) ?_ ?_
 rotate_left
 ·refine SCode.seq (SCode.region (sm rfl rfl (sq rfl rfl (q_len_vec rfl rfl sl37) (sm rfl rfl (SOps.nil (SCode.block ?_))))))
  let S14 := fun (t39_67 : Int) => (⟨[(0, .c (vSCDR a0_l)), (1, .c (vSDispute a1_ds)), (2, .c (.str a2_creditor)), (3, .c (.str a3_debtor)), (4, .c (.str a4_cur)), (11, .c (.ptr 0 0)), (37, .c (vSDispute a1_ds)), (38, ci (((a1_ds).length : Int))), (39, ci t39_67)], [.box (bSSpan a5_s)]⟩ : St)
  refine SCode.sub (st' := (S14 0)) (sub_gen [0] rfl rfl (zall rfl rfl) ⟨bx rfl rfl rfl, trivial⟩) ?_
  refine (SCode.loop (σ := Nat × Int) (S := fun s => (S14 s.2)) (g := fun s => chargenetref49_Owed_l73 F a0_l a1_ds a2_creditor a3_debtor a4_cur a5_s s.1 s.2 = some r) (μ := fun s => s.1) (F, 0) h ?_)
  rintro ⟨n_73, t39_67⟩ h
  try dsimp only at h
  show SCode _ _ _ (S14 t39_67) _
  cases n_73 with
  | zero => cases h
  | succ n_73 =>
   rw [chargenetref49_Owed_l73] at h
   unfold chargenetref49_Owed_b73 at h
   refine SCode.seq (SCode.region (sq rfl rfl (q_lss rfl rfl rfl) (SOps.nil (SCode.seq ?_))))
   rcases cond_out h with ⟨g74, h⟩ | ⟨g74, h⟩
   ·refine SCode.cond_t rfl g74 (SCode.skip (SCode.seq (SCode.block (SCode.seq ?_))))
    obtain ⟨g75, h⟩ := guard_out h
    refine SCode.region (sq rfl rfl (q_index_vec rfl rfl rfl sl37 rfl g75.1 g75.2) (sq rfl rfl (q_load_eptr_all rfl rfl rfl ty72) (se rfl rfl (e_alloc rfl rfl rfl z72) (se rfl rfl (e_store_box rfl rfl rfl rfl rfl ty72 rfl rfl rfl rfl) (SOps.nil (SCode.seq ?_))))))
    obtain ⟨c_76, g77, h⟩ := bind_out h
    try dsimp only at h
    refine SCode.region (sq rfl rfl (q_load_ptr_all rfl rfl rfl rfl rfl ty72) (sq rfl rfl (q_call (chargenetref47_Valid_ok F (a1_ds.getD t39_67.toNat dSDispute) c_76 g77) [] rfl fn32 ⟨⟨rfl, rfl⟩, trivial⟩ (.inl rfl)) (sa rfl rfl (SOps.nil (SCode.seq (SCode.region (sm rfl rfl (sq rfl rfl (q_neq rfl rfl rfl) (SOps.nil ?_)))))))))
    rcases cond_out h with ⟨g78, h⟩ | ⟨g78, h⟩
    ·refine SCode.cond_t rfl g78 (SCode.seq (SCode.region (sm rfl rfl (sa rfl rfl (sa rfl rfl (SOps.nil (SCode.ret ?_)))))))
     obtain rfl := Option.some.inj h
     exact ⟨⟨[(12, ci 0), (13, ci c_76)], []⟩, _, sub_gen [] rfl rfl (zall rfl rfl) trivial, resA2 (v1 := .c (.int .i64 0)) (v2 := .c (.int .i64 c_76)) rfl rfl rfl, rfl⟩
    refine SCode.cond_f rfl g78 (SCode.skip (SCode.region (sq rfl rfl (q_add rfl rfl rfl) (sm rfl rfl (SOps.nil ?_)))))
    exact ⟨(n_73, IntKind.wrap .i64 (t39_67 + 1)), h, Nat.lt_succ_self n_73, sub_gen [0] rfl rfl (zall rfl rfl) ⟨bx rfl rfl rfl, trivial⟩⟩
   refine SCode.cond_f rfl g74 (SCode.exit ?_)
   exact ⟨(), h, sub_gen [0] rfl rfl (zall rfl rfl) ⟨bx rfl rfl rfl, trivial⟩⟩
 rintro ⟨⟩ h
 show SCode _ _ _ S15 _
 try dsimp only at h
 unfold chargenetref49_Owed_p61 at h
 refine SCode.seq (SCode.block ?_)
 let S13 := fun (t49_1 : Bool) => (⟨[(0, .c (vSCDR a0_l)), (1, .c (vSDispute a1_ds)), (2, .c (.str a2_creditor)), (3, .c (.str a3_debtor)), (4, .c (.str a4_cur)), (11, .c (.ptr 0 0)), (49, .c (.bool t49_1))], [.box (bSSpan a5_s)]⟩ : St)
 refine SCode.join (σ := Bool) (S := fun s => (S13 s)) (g := fun s => chargenetref49_Owed_p55 F a0_l a1_ds a2_creditor a3_debtor a4_cur a5_s s = some r) ?_ ?_
 rotate_left
 ·obtain ⟨c_56, g57, h⟩ := bind_out h
  try dsimp only at h
  rcases cond_out h with ⟨g58, h⟩ | ⟨g58, h⟩
  ·refine SCode.region (sm rfl rfl (sq rfl rfl (q_call (chargenetref01_Valid_ok F a2_creditor c_56 g57) [] rfl fn24 ⟨⟨_, rfl, .inl ⟨rfl, rfl⟩⟩, trivial⟩ (.inl rfl)) (sq rfl rfl (q_not rfl rfl) (sm rfl rfl (SOps.skip rfl 3 53 false rfl rfl (.inl (gT g58)) rfl (SOps.skip rfl 3 53 false rfl rfl (.inl (gT g58)) rfl (SOps.skip rfl 3 53 false rfl rfl (.inl (gT g58)) rfl (sq rfl rfl (q_pick_t rfl rfl g58 rfl) (sa rfl rfl (SOps.nil ?_))))))))))
   exact ⟨true, h, sub_gen [0] rfl rfl (zall rfl rfl) ⟨bx rfl rfl rfl, trivial⟩⟩
  obtain ⟨c_59, g60, h⟩ := bind_out h
  try dsimp only at h
  refine SCode.region (sm rfl rfl (sq rfl rfl (q_call (chargenetref01_Valid_ok F a2_creditor c_56 g57) [] rfl fn24 ⟨⟨_, rfl, .inl ⟨rfl, rfl⟩⟩, trivial⟩ (.inl rfl)) (sq rfl rfl (q_not rfl rfl) (sm rfl rfl (SOps.q rfl (.guard 3 53 false rfl rfl (gF g58)) rfl (q_move rfl rfl) (SOps.q rfl (.guard 3 53 false rfl rfl (gF g58)) rfl (q_call (chargenetref01_Valid_ok F a3_debtor c_59 g60) [] rfl fn24 ⟨⟨_, rfl, .inl ⟨rfl, rfl⟩⟩, trivial⟩ (.inl rfl)) (SOps.q rfl (.guard 3 53 false rfl rfl (gF g58)) rfl (q_not rfl rfl) (sq rfl rfl (q_pick_f rfl rfl g58 rfl) (sa rfl rfl (SOps.nil ?_))))))))))
  exact ⟨(!c_59), h, sub_gen [0] rfl rfl (zall rfl rfl) ⟨bx rfl rfl rfl, trivial⟩⟩
 rintro t49_1 h
 show SCode _ _ _ (S13 t49_1) _
 try dsimp only at h
 unfold chargenetref49_Owed_p55 at h
 rcases cond_out h with ⟨g2, h⟩ | ⟨g2, h⟩
 ·refine SCode.cond_t rfl g2 (SCode.seq (SCode.region (sa rfl rfl (sa rfl rfl (SOps.nil (SCode.ret ?_))))))
  obtain rfl := Option.some.inj h
  exact ⟨⟨[(12, ci 0), (13, ci 4)], []⟩, _, sub_gen [] rfl rfl (zall rfl rfl) trivial, resA2 (v1 := .c (.int .i64 0)) (v2 := .c (.int .i64 4)) rfl rfl rfl, rfl⟩
 refine SCode.cond_f rfl g2 (SCode.seq (SCode.region (sm rfl rfl (sm rfl rfl (sq rfl rfl (q_eqlS rfl rfl rfl) (sa rfl rfl (SOps.nil ?_)))))))
 rcases cond_out h with ⟨g3, h⟩ | ⟨g3, h⟩
 ·refine SCode.cond_t rfl g3 (SCode.seq (SCode.region (sa rfl rfl (sa rfl rfl (SOps.nil (SCode.ret ?_))))))
  obtain rfl := Option.some.inj h
  exact ⟨⟨[(12, ci 0), (13, ci 1)], []⟩, _, sub_gen [] rfl rfl (zall rfl rfl) trivial, resA2 (v1 := .c (.int .i64 0)) (v2 := .c (.int .i64 1)) rfl rfl rfl, rfl⟩
 refine SCode.cond_f rfl g3 (SCode.seq ?_)
 obtain ⟨c_4, g5, h⟩ := bind_out h
 try dsimp only at h
 refine SCode.region (sm rfl rfl (sq rfl rfl (q_call (chargenetref49_currency_ok F a4_cur c_4 g5) [] rfl fn25 ⟨⟨_, rfl, .inl ⟨rfl, rfl⟩⟩, trivial⟩ (.inl rfl)) (sq rfl rfl (q_not rfl rfl) (sa rfl rfl (SOps.nil ?_)))))
 rcases cond_out h with ⟨g6, h⟩ | ⟨g6, h⟩
 ·refine SCode.cond_t rfl g6 (SCode.seq (SCode.region (sa rfl rfl (sa rfl rfl (SOps.nil (SCode.ret ?_))))))
  obtain rfl := Option.some.inj h
  exact ⟨⟨[(12, ci 0), (13, ci 21)], []⟩, _, sub_gen [] rfl rfl (zall rfl rfl) trivial, resA2 (v1 := .c (.int .i64 0)) (v2 := .c (.int .i64 21)) rfl rfl rfl, rfl⟩
 refine SCode.cond_f rfl g6 (SCode.seq ?_)
 rcases cond_out h with ⟨g7, h⟩ | ⟨g7, h⟩
 ·refine SCode.region (sq rfl rfl (q_field_ptr rfl rfl fd39_0) (sq rfl rfl (q_load_ptr rfl rfl rfl rfl ty3) (sq rfl rfl (q_lss rfl rfl rfl) (sm rfl rfl (SOps.skip rfl 3 70 false rfl rfl (.inl (gT g7)) rfl (SOps.skip rfl 3 70 false rfl rfl (.inl (gT g7)) rfl (SOps.skip rfl 3 70 false rfl rfl (.inl (gT g7)) rfl (SOps.skip rfl 3 70 false rfl rfl (.inl (gT g7)) rfl (SOps.skip rfl 3 70 false rfl rfl (.inl (gT g7)) rfl (sq rfl rfl (q_pick_t rfl rfl g7 rfl) (sm rfl rfl (SOps.skip rfl 10 77 false rfl rfl (.inl rfl) rfl (SOps.skip rfl 10 77 false rfl rfl (.inl rfl) rfl (SOps.skip rfl 10 77 false rfl rfl (.inl rfl) rfl (sq rfl rfl (q_pick_t rfl rfl rfl rfl) ?_)))))))))))))))
  refine sa rfl rfl (SOps.sub (st' := ⟨[(0, .c (vSCDR a0_l)), (1, .c (vSDispute a1_ds)), (2, .c (.str a2_creditor)), (3, .c (.str a3_debtor)), (4, .c (.str a4_cur)), (11, .c (.ptr 0 0)), (66, .c (.bool true))], [.box (bSSpan a5_s)]⟩) (sub_gen [0] rfl rfl (zall rfl rfl) ⟨bx rfl rfl rfl, trivial⟩) (SOps.nil (SCode.cond_t rfl rfl (SCode.seq (SCode.region (sa rfl rfl (sa rfl rfl (SOps.nil (SCode.ret ?_)))))))))
  obtain rfl := Option.some.inj h
  exact ⟨⟨[(12, ci 0), (13, ci 2)], []⟩, _, sub_gen [] rfl rfl (zall rfl rfl) trivial, resA2 (v1 := .c (.int .i64 0)) (v2 := .c (.int .i64 2)) rfl rfl rfl, rfl⟩
 rcases cond_out h with ⟨g8, h⟩ | ⟨g8, h⟩
 ·refine SCode.region (sq rfl rfl (q_field_ptr rfl rfl fd39_0) (sq rfl rfl (q_load_ptr rfl rfl rfl rfl ty3) (sq rfl rfl (q_lss rfl rfl rfl) (sm rfl rfl (SOps.q rfl (.guard 3 70 false rfl rfl (gF g7)) rfl (q_field_ptr rfl rfl fd39_1) (SOps.q rfl (.guard 3 70 false rfl rfl (gF g7)) rfl (q_load_ptr rfl rfl rfl rfl ty3) (SOps.q rfl (.guard 3 70 false rfl rfl (gF g7)) rfl (q_field_ptr rfl rfl fd39_0) (SOps.q rfl (.guard 3 70 false rfl rfl (gF g7)) rfl (q_load_ptr rfl rfl rfl rfl ty3) (SOps.q rfl (.guard 3 70 false rfl rfl (gF g7)) rfl (q_lss rfl rfl rfl) (sq rfl rfl (q_pick_f rfl rfl g7 rfl) (sm rfl rfl (SOps.skip rfl 10 77 false rfl rfl (.inl (gT g8)) rfl (SOps.skip rfl 10 77 false rfl rfl (.inl (gT g8)) rfl (SOps.skip rfl 10 77 false rfl rfl (.inl (gT g8)) rfl (sq rfl rfl (q_pick_t rfl rfl g8 rfl) ?_)))))))))))))))
  refine sa rfl rfl (SOps.sub (st' := ⟨[(0, .c (vSCDR a0_l)), (1, .c (vSDispute a1_ds)), (2, .c (.str a2_creditor)), (3, .c (.str a3_debtor)), (4, .c (.str a4_cur)), (11, .c (.ptr 0 0)), (66, .c (.bool true))], [.box (bSSpan a5_s)]⟩) (sub_gen [0] rfl rfl (zall rfl rfl) ⟨bx rfl rfl rfl, trivial⟩) (SOps.nil (SCode.cond_t rfl rfl (SCode.seq (SCode.region (sa rfl rfl (sa rfl rfl (SOps.nil (SCode.ret ?_)))))))))
  obtain rfl := Option.some.inj h
  exact ⟨⟨[(12, ci 0), (13, ci 2)], []⟩, _, sub_gen [] rfl rfl (zall rfl rfl) trivial, resA2 (v1 := .c (.int .i64 0)) (v2 := .c (.int .i64 2)) rfl rfl rfl, rfl⟩
 refine SCode.region (sq rfl rfl (q_field_ptr rfl rfl fd39_0) (sq rfl rfl (q_load_ptr rfl rfl rfl rfl ty3) (sq rfl rfl (q_lss rfl rfl rfl) (sm rfl rfl (SOps.q rfl (.guard 3 70 false rfl rfl (gF g7)) rfl (q_field_ptr rfl rfl fd39_1) (SOps.q rfl (.guard 3 70 false rfl rfl (gF g7)) rfl (q_load_ptr rfl rfl rfl rfl ty3) (SOps.q rfl (.guard 3 70 false rfl rfl (gF g7)) rfl (q_field_ptr rfl rfl fd39_0) (SOps.q rfl (.guard 3 70 false rfl rfl (gF g7)) rfl (q_load_ptr rfl rfl rfl rfl ty3) (SOps.q rfl (.guard 3 70 false rfl rfl (gF g7)) rfl (q_lss rfl rfl rfl) (sq rfl rfl (q_pick_f rfl rfl g7 rfl) (sm rfl rfl (SOps.q rfl (.guard 10 77 false rfl rfl (gF g8)) rfl (q_field_ptr rfl rfl fd39_1) (SOps.q rfl (.guard 10 77 false rfl rfl (gF g8)) rfl (q_load_ptr rfl rfl rfl rfl ty3) (SOps.q rfl (.guard 10 77 false rfl rfl (gF g8)) rfl (q_gtr rfl rfl rfl) (sq rfl rfl (q_pick_f rfl rfl g8 rfl) ?_)))))))))))))))
 refine sa rfl rfl (SOps.sub (st' := ⟨[(0, .c (vSCDR a0_l)), (1, .c (vSDispute a1_ds)), (2, .c (.str a2_creditor)), (3, .c (.str a3_debtor)), (4, .c (.str a4_cur)), (11, .c (.ptr 0 0)), (66, .c (.bool (decide (268435456 < a5_s.To))))], [.box (bSSpan a5_s)]⟩) (sub_gen [0] rfl rfl (zall rfl rfl) ⟨bx rfl rfl rfl, trivial⟩) (SOps.nil ?_))
 rcases cond_out h with ⟨g9, h⟩ | ⟨g9, h⟩
 ·refine SCode.cond_t rfl g9 (SCode.seq (SCode.region (sa rfl rfl (sa rfl rfl (SOps.nil (SCode.ret ?_))))))
  obtain rfl := Option.some.inj h
  exact ⟨⟨[(12, ci 0), (13, ci 2)], []⟩, _, sub_gen [] rfl rfl (zall rfl rfl) trivial, resA2 (v1 := .c (.int .i64 0)) (v2 := .c (.int .i64 2)) rfl rfl rfl, rfl⟩
 refine SCode.cond_f rfl g9 (SCode.skip (SCode.seq (SCode.region (sa rfl rfl (sa rfl rfl (SOps.nil ?_))))))
 let S12 := fun (high_10 : Int) => fun (low_11 : Int) => (⟨[(20, ci high_10), (21, ci low_11)], []⟩ : St)
 refine SCode.join (σ := Int × Int) (S := fun s => (S12 s.1 s.2)) (g := fun s => chargenetref49_Owed_p14 s.1 s.2 = some r) ?_ ?_
 rotate_left
 ·refine SCode.seq (SCode.region (sm rfl rfl (sq rfl rfl (q_len_vec rfl rfl sl36) (sm rfl rfl (SOps.nil (SCode.block ?_))))))
  let S11 := fun (high_27 : Int) => fun (low_28 : Int) => fun (t84_29 : Int) => (⟨[(1, .c (vSDispute a1_ds)), (2, .c (.str a2_creditor)), (3, .c (.str a3_debtor)), (4, .c (.str a4_cur)), (11, .c (.ptr 0 0)), (20, ci high_27), (21, ci low_28), (82, .c (vSCDR a0_l)), (83, ci (((a0_l).length : Int))), (84, ci t84_29)], [.box (bSSpan a5_s)]⟩ : St)
  refine SCode.sub (st' := (S11 0 0 0)) (sub_gen [0] rfl rfl (zall rfl rfl) ⟨bx rfl rfl rfl, trivial⟩) ?_
  refine (SCode.loop (σ := Nat × (Int × Int × Int)) (S := fun s => (S11 s.2.1 s.2.2.1 s.2.2.2)) (g := fun s => chargenetref49_Owed_l42 F a0_l a1_ds a2_creditor a3_debtor a4_cur a5_s s.1 s.2.1 s.2.2.1 s.2.2.2 = some r) (μ := fun s => s.1) (F, (0, 0, 0)) h ?_)
  rintro ⟨n_42, ⟨high_27, low_28, t84_29⟩⟩ h
  try dsimp only at h
  show SCode _ _ _ (S11 high_27 low_28 t84_29) _
  cases n_42 with
  | zero => cases h
  | succ n_42 =>
   rw [chargenetref49_Owed_l42] at h
   unfold chargenetref49_Owed_b42 at h
   refine SCode.seq (SCode.region (sq rfl rfl (q_lss rfl rfl rfl) (SOps.nil (SCode.seq ?_))))
   rcases cond_out h with ⟨g43, h⟩ | ⟨g43, h⟩
   ·refine SCode.cond_t rfl g43 (SCode.skip ?_)
    let S10 := fun (high_44 : Int) => fun (low_45 : Int) => (⟨[(1, .c (vSDispute a1_ds)), (2, .c (.str a2_creditor)), (3, .c (.str a3_debtor)), (4, .c (.str a4_cur)), (11, .c (.ptr 0 0)), (20, ci high_44), (21, ci low_45), (82, .c (vSCDR a0_l)), (83, ci (((a0_l).length : Int))), (84, ci t84_29)], [.box (bSSpan a5_s)]⟩ : St)
    refine SCode.join (σ := Int × Int) (S := fun s => (S10 s.1 s.2)) (g := fun s => chargenetref49_Owed_p46 t84_29 (fun high_27 low_28 t84_29 => chargenetref49_Owed_l42 F a0_l a1_ds a2_creditor a3_debtor a4_cur a5_s n_42 high_27 low_28 t84_29) s.1 s.2 = some r) ?_ ?_
    rotate_left
    ·refine SCode.block (SCode.seq ?_)
     obtain ⟨g47, h⟩ := guard_out h
     refine SCode.region (sq rfl rfl (q_index_vec rfl rfl rfl sl36 rfl g47.1 g47.2) (sq rfl rfl (q_load_eptr_all rfl rfl rfl ty47) (se rfl rfl (e_alloc rfl rfl rfl z47) (se rfl rfl (e_store_box rfl rfl rfl rfl rfl ty47 rfl rfl rfl rfl) (SOps.nil (SCode.seq (SCode.seq ?_)))))))
     rcases cond_out h with ⟨g48, h⟩ | ⟨g48, h⟩
     ·refine SCode.region (sq rfl rfl (q_field_ptr rfl rfl fd47_1) (sq rfl rfl (q_load_ptr rfl rfl rfl rfl ty9) (sm rfl rfl (sq rfl rfl (q_neqS rfl rfl rfl) (sm rfl rfl (SOps.skip rfl 4 92 false rfl rfl (.inl (gT g48)) rfl (SOps.skip rfl 4 92 false rfl rfl (.inl (gT g48)) rfl (SOps.skip rfl 4 92 false rfl rfl (.inl (gT g48)) rfl (SOps.skip rfl 4 92 false rfl rfl (.inl (gT g48)) rfl (sq rfl rfl (q_pick_t rfl rfl g48 rfl) (sm rfl rfl (SOps.skip rfl 10 98 false rfl rfl (.inl rfl) rfl (SOps.skip rfl 10 98 false rfl rfl (.inl rfl) rfl (SOps.skip rfl 10 98 false rfl rfl (.inl rfl) rfl (SOps.skip rfl 10 98 false rfl rfl (.inl rfl) rfl ?_)))))))))))))))
      refine sq rfl rfl (q_pick_t rfl rfl rfl rfl) (sm rfl rfl (SOps.skip rfl 16 104 false rfl rfl (.inl rfl) rfl (SOps.skip rfl 16 104 false rfl rfl (.inl rfl) rfl (SOps.skip rfl 16 104 false rfl rfl (.inl rfl) rfl (SOps.skip rfl 16 104 false rfl rfl (.inl rfl) rfl (SOps.skip rfl 16 104 false rfl rfl (.inl rfl) rfl (sq rfl rfl (q_pick_t rfl rfl rfl rfl) (sm rfl rfl (SOps.skip rfl 23 111 false rfl rfl (.inl rfl) rfl (SOps.skip rfl 23 111 false rfl rfl (.inl rfl) rfl (SOps.skip rfl 23 111 false rfl rfl (.inl rfl) rfl (SOps.skip rfl 23 111 false rfl rfl (.inl rfl) rfl (SOps.skip rfl 23 111 false rfl rfl (.inl rfl) rfl (sq rfl rfl (q_pick_t rfl rfl rfl rfl) (SOps.sub (st' := ⟨[(1, .c (vSDispute a1_ds)), (2, .c (.str a2_creditor)), (3, .c (.str a3_debtor)), (4, .c (.str a4_cur)), (11, .c (.ptr 0 0)), (20, ci high_27), (21, ci low_28), (23, .c (.ptr 1 0)), (82, .c (vSCDR a0_l)), (83, ci (((a0_l).length : Int))), (84, ci t84_29), (117, .c (.bool true))], [.box (bSSpan a5_s), .box (bSCDR (a0_l.getD t84_29.toNat dSCDR))]⟩) (sub_gen [0, 1] rfl rfl (zall rfl rfl) ⟨bx rfl rfl rfl, bx rfl rfl rfl, trivial⟩) ?_)))))))))))))))
      refine SOps.nil (SCode.cond_t rfl rfl (SCode.exit ?_))
      exact ⟨(high_27, low_28), h, sub_gen [0] rfl rfl (zall rfl rfl) ⟨bx rfl rfl rfl, trivial⟩⟩
     rcases cond_out h with ⟨g49, h⟩ | ⟨g49, h⟩
     ·refine SCode.region (sq rfl rfl (q_field_ptr rfl rfl fd47_1) (sq rfl rfl (q_load_ptr rfl rfl rfl rfl ty9) (sm rfl rfl (sq rfl rfl (q_neqS rfl rfl rfl) (sm rfl rfl (SOps.q rfl (.guard 4 92 false rfl rfl (gF g48)) rfl (q_field_ptr rfl rfl fd47_2) (SOps.q rfl (.guard 4 92 false rfl rfl (gF g48)) rfl (q_load_ptr rfl rfl rfl rfl ty9) (SOps.q rfl (.guard 4 92 false rfl rfl (gF g48)) rfl (q_move rfl rfl) (SOps.q rfl (.guard 4 92 false rfl rfl (gF g48)) rfl (q_neqS rfl rfl rfl) (sq rfl rfl (q_pick_f rfl rfl g48 rfl) (sm rfl rfl (SOps.skip rfl 10 98 false rfl rfl (.inl (gT g49)) rfl (SOps.skip rfl 10 98 false rfl rfl (.inl (gT g49)) rfl (SOps.skip rfl 10 98 false rfl rfl (.inl (gT g49)) rfl (SOps.skip rfl 10 98 false rfl rfl (.inl (gT g49)) rfl ?_)))))))))))))))
      refine sq rfl rfl (q_pick_t rfl rfl g49 rfl) (sm rfl rfl (SOps.skip rfl 16 104 false rfl rfl (.inl rfl) rfl (SOps.skip rfl 16 104 false rfl rfl (.inl rfl) rfl (SOps.skip rfl 16 104 false rfl rfl (.inl rfl) rfl (SOps.skip rfl 16 104 false rfl rfl (.inl rfl) rfl (SOps.skip rfl 16 104 false rfl rfl (.inl rfl) rfl (sq rfl rfl (q_pick_t rfl rfl rfl rfl) (sm rfl rfl (SOps.skip rfl 23 111 false rfl rfl (.inl rfl) rfl (SOps.skip rfl 23 111 false rfl rfl (.inl rfl) rfl (SOps.skip rfl 23 111 false rfl rfl (.inl rfl) rfl (SOps.skip rfl 23 111 false rfl rfl (.inl rfl) rfl (SOps.skip rfl 23 111 false rfl rfl (.inl rfl) rfl (sq rfl rfl (q_pick_t rfl rfl rfl rfl) (SOps.sub (st' := ⟨[(1, .c (vSDispute a1_ds)), (2, .c (.str a2_creditor)), (3, .c (.str a3_debtor)), (4, .c (.str a4_cur)), (11, .c (.ptr 0 0)), (20, ci high_27), (21, ci low_28), (23, .c (.ptr 1 0)), (82, .c (vSCDR a0_l)), (83, ci (((a0_l).length : Int))), (84, ci t84_29), (117, .c (.bool true))], [.box (bSSpan a5_s), .box (bSCDR (a0_l.getD t84_29.toNat dSCDR))]⟩) (sub_gen [0, 1] rfl rfl (zall rfl rfl) ⟨bx rfl rfl rfl, bx rfl rfl rfl, trivial⟩) ?_)))))))))))))))
      refine SOps.nil (SCode.cond_t rfl rfl (SCode.exit ?_))
      exact ⟨(high_27, low_28), h, sub_gen [0] rfl rfl (zall rfl rfl) ⟨bx rfl rfl rfl, trivial⟩⟩
     rcases cond_out h with ⟨g50, h⟩ | ⟨g50, h⟩
     ·refine SCode.region (sq rfl rfl (q_field_ptr rfl rfl fd47_1) (sq rfl rfl (q_load_ptr rfl rfl rfl rfl ty9) (sm rfl rfl (sq rfl rfl (q_neqS rfl rfl rfl) (sm rfl rfl (SOps.q rfl (.guard 4 92 false rfl rfl (gF g48)) rfl (q_field_ptr rfl rfl fd47_2) (SOps.q rfl (.guard 4 92 false rfl rfl (gF g48)) rfl (q_load_ptr rfl rfl rfl rfl ty9) (SOps.q rfl (.guard 4 92 false rfl rfl (gF g48)) rfl (q_move rfl rfl) (SOps.q rfl (.guard 4 92 false rfl rfl (gF g48)) rfl (q_neqS rfl rfl rfl) (sq rfl rfl (q_pick_f rfl rfl g48 rfl) (sm rfl rfl (SOps.q rfl (.guard 10 98 false rfl rfl (gF g49)) rfl (q_field_ptr rfl rfl fd47_9) (SOps.q rfl (.guard 10 98 false rfl rfl (gF g49)) rfl (q_load_ptr rfl rfl rfl rfl ty9) (SOps.q rfl (.guard 10 98 false rfl rfl (gF g49)) rfl (q_move rfl rfl) (SOps.q rfl (.guard 10 98 false rfl rfl (gF g49)) rfl (q_neqS rfl rfl rfl) ?_)))))))))))))))
      refine sq rfl rfl (q_pick_f rfl rfl g49 rfl) (sm rfl rfl (SOps.skip rfl 16 104 false rfl rfl (.inl (gT g50)) rfl (SOps.skip rfl 16 104 false rfl rfl (.inl (gT g50)) rfl (SOps.skip rfl 16 104 false rfl rfl (.inl (gT g50)) rfl (SOps.skip rfl 16 104 false rfl rfl (.inl (gT g50)) rfl (SOps.skip rfl 16 104 false rfl rfl (.inl (gT g50)) rfl (sq rfl rfl (q_pick_t rfl rfl g50 rfl) (sm rfl rfl (SOps.skip rfl 23 111 false rfl rfl (.inl rfl) rfl (SOps.skip rfl 23 111 false rfl rfl (.inl rfl) rfl (SOps.skip rfl 23 111 false rfl rfl (.inl rfl) rfl (SOps.skip rfl 23 111 false rfl rfl (.inl rfl) rfl (SOps.skip rfl 23 111 false rfl rfl (.inl rfl) rfl (sq rfl rfl (q_pick_t rfl rfl rfl rfl) (SOps.sub (st' := ⟨[(1, .c (vSDispute a1_ds)), (2, .c (.str a2_creditor)), (3, .c (.str a3_debtor)), (4, .c (.str a4_cur)), (11, .c (.ptr 0 0)), (20, ci high_27), (21, ci low_28), (23, .c (.ptr 1 0)), (82, .c (vSCDR a0_l)), (83, ci (((a0_l).length : Int))), (84, ci t84_29), (117, .c (.bool true))], [.box (bSSpan a5_s), .box (bSCDR (a0_l.getD t84_29.toNat dSCDR))]⟩) (sub_gen [0, 1] rfl rfl (zall rfl rfl) ⟨bx rfl rfl rfl, bx rfl rfl rfl, trivial⟩) ?_)))))))))))))))
      refine SOps.nil (SCode.cond_t rfl rfl (SCode.exit ?_))
      exact ⟨(high_27, low_28), h, sub_gen [0] rfl rfl (zall rfl rfl) ⟨bx rfl rfl rfl, trivial⟩⟩
     rcases cond_out h with ⟨g51, h⟩ | ⟨g51, h⟩
     ·refine SCode.region (sq rfl rfl (q_field_ptr rfl rfl fd47_1) (sq rfl rfl (q_load_ptr rfl rfl rfl rfl ty9) (sm rfl rfl (sq rfl rfl (q_neqS rfl rfl rfl) (sm rfl rfl (SOps.q rfl (.guard 4 92 false rfl rfl (gF g48)) rfl (q_field_ptr rfl rfl fd47_2) (SOps.q rfl (.guard 4 92 false rfl rfl (gF g48)) rfl (q_load_ptr rfl rfl rfl rfl ty9) (SOps.q rfl (.guard 4 92 false rfl rfl (gF g48)) rfl (q_move rfl rfl) (SOps.q rfl (.guard 4 92 false rfl rfl (gF g48)) rfl (q_neqS rfl rfl rfl) (sq rfl rfl (q_pick_f rfl rfl g48 rfl) (sm rfl rfl (SOps.q rfl (.guard 10 98 false rfl rfl (gF g49)) rfl (q_field_ptr rfl rfl fd47_9) (SOps.q rfl (.guard 10 98 false rfl rfl (gF g49)) rfl (q_load_ptr rfl rfl rfl rfl ty9) (SOps.q rfl (.guard 10 98 false rfl rfl (gF g49)) rfl (q_move rfl rfl) (SOps.q rfl (.guard 10 98 false rfl rfl (gF g49)) rfl (q_neqS rfl rfl rfl) ?_)))))))))))))))
      refine sq rfl rfl (q_pick_f rfl rfl g49 rfl) (sm rfl rfl (SOps.q rfl (.guard 16 104 false rfl rfl (gF g50)) rfl (q_field_ptr rfl rfl fd47_6) (SOps.q rfl (.guard 16 104 false rfl rfl (gF g50)) rfl (q_load_ptr rfl rfl rfl rfl ty3) (SOps.q rfl (.guard 16 104 false rfl rfl (gF g50)) rfl (q_field_ptr rfl rfl fd39_0) (SOps.q rfl (.guard 16 104 false rfl rfl (gF g50)) rfl (q_load_ptr rfl rfl rfl rfl ty3) (SOps.q rfl (.guard 16 104 false rfl rfl (gF g50)) rfl (q_lss rfl rfl rfl) (sq rfl rfl (q_pick_f rfl rfl g50 rfl) (sm rfl rfl (SOps.skip rfl 23 111 false rfl rfl (.inl (gT g51)) rfl (SOps.skip rfl 23 111 false rfl rfl (.inl (gT g51)) rfl (SOps.skip rfl 23 111 false rfl rfl (.inl (gT g51)) rfl (SOps.skip rfl 23 111 false rfl rfl (.inl (gT g51)) rfl (SOps.skip rfl 23 111 false rfl rfl (.inl (gT g51)) rfl (sq rfl rfl (q_pick_t rfl rfl g51 rfl) (SOps.sub (st' := ⟨[(1, .c (vSDispute a1_ds)), (2, .c (.str a2_creditor)), (3, .c (.str a3_debtor)), (4, .c (.str a4_cur)), (11, .c (.ptr 0 0)), (20, ci high_27), (21, ci low_28), (23, .c (.ptr 1 0)), (82, .c (vSCDR a0_l)), (83, ci (((a0_l).length : Int))), (84, ci t84_29), (117, .c (.bool true))], [.box (bSSpan a5_s), .box (bSCDR (a0_l.getD t84_29.toNat dSCDR))]⟩) (sub_gen [0, 1] rfl rfl (zall rfl rfl) ⟨bx rfl rfl rfl, bx rfl rfl rfl, trivial⟩) ?_)))))))))))))))
      refine SOps.nil (SCode.cond_t rfl rfl (SCode.exit ?_))
      exact ⟨(high_27, low_28), h, sub_gen [0] rfl rfl (zall rfl rfl) ⟨bx rfl rfl rfl, trivial⟩⟩
     refine SCode.region (sq rfl rfl (q_field_ptr rfl rfl fd47_1) (sq rfl rfl (q_load_ptr rfl rfl rfl rfl ty9) (sm rfl rfl (sq rfl rfl (q_neqS rfl rfl rfl) (sm rfl rfl (SOps.q rfl (.guard 4 92 false rfl rfl (gF g48)) rfl (q_field_ptr rfl rfl fd47_2) (SOps.q rfl (.guard 4 92 false rfl rfl (gF g48)) rfl (q_load_ptr rfl rfl rfl rfl ty9) (SOps.q rfl (.guard 4 92 false rfl rfl (gF g48)) rfl (q_move rfl rfl) (SOps.q rfl (.guard 4 92 false rfl rfl (gF g48)) rfl (q_neqS rfl rfl rfl) (sq rfl rfl (q_pick_f rfl rfl g48 rfl) (sm rfl rfl (SOps.q rfl (.guard 10 98 false rfl rfl (gF g49)) rfl (q_field_ptr rfl rfl fd47_9) (SOps.q rfl (.guard 10 98 false rfl rfl (gF g49)) rfl (q_load_ptr rfl rfl rfl rfl ty9) (SOps.q rfl (.guard 10 98 false rfl rfl (gF g49)) rfl (q_move rfl rfl) (SOps.q rfl (.guard 10 98 false rfl rfl (gF g49)) rfl (q_neqS rfl rfl rfl) ?_)))))))))))))))
     refine sq rfl rfl (q_pick_f rfl rfl g49 rfl) (sm rfl rfl (SOps.q rfl (.guard 16 104 false rfl rfl (gF g50)) rfl (q_field_ptr rfl rfl fd47_6) (SOps.q rfl (.guard 16 104 false rfl rfl (gF g50)) rfl (q_load_ptr rfl rfl rfl rfl ty3) (SOps.q rfl (.guard 16 104 false rfl rfl (gF g50)) rfl (q_field_ptr rfl rfl fd39_0) (SOps.q rfl (.guard 16 104 false rfl rfl (gF g50)) rfl (q_load_ptr rfl rfl rfl rfl ty3) (SOps.q rfl (.guard 16 104 false rfl rfl (gF g50)) rfl (q_lss rfl rfl rfl) (sq rfl rfl (q_pick_f rfl rfl g50 rfl) (sm rfl rfl (SOps.q rfl (.guard 23 111 false rfl rfl (gF g51)) rfl (q_field_ptr rfl rfl fd47_6) (SOps.q rfl (.guard 23 111 false rfl rfl (gF g51)) rfl (q_load_ptr rfl rfl rfl rfl ty3) (SOps.q rfl (.guard 23 111 false rfl rfl (gF g51)) rfl (q_field_ptr rfl rfl fd39_1) (SOps.q rfl (.guard 23 111 false rfl rfl (gF g51)) rfl (q_load_ptr rfl rfl rfl rfl ty3) (SOps.q rfl (.guard 23 111 false rfl rfl (gF g51)) rfl (q_geq rfl rfl rfl) (sq rfl rfl (q_pick_f rfl rfl g51 rfl) (SOps.sub (st' := ⟨[(1, .c (vSDispute a1_ds)), (2, .c (.str a2_creditor)), (3, .c (.str a3_debtor)), (4, .c (.str a4_cur)), (11, .c (.ptr 0 0)), (20, ci high_27), (21, ci low_28), (23, .c (.ptr 1 0)), (82, .c (vSCDR a0_l)), (83, ci (((a0_l).length : Int))), (84, ci t84_29), (117, .c (.bool (decide (a5_s.To ≤ (a0_l.getD t84_29.toNat dSCDR).End))))], [.box (bSSpan a5_s), .box (bSCDR (a0_l.getD t84_29.toNat dSCDR))]⟩) (sub_gen [0, 1] rfl rfl (zall rfl rfl) ⟨bx rfl rfl rfl, bx rfl rfl rfl, trivial⟩) ?_)))))))))))))))
     refine SOps.nil ?_
     rcases cond_out h with ⟨g52, h⟩ | ⟨g52, h⟩
     ·refine SCode.cond_t rfl g52 (SCode.exit ?_)
      exact ⟨(high_27, low_28), h, sub_gen [0] rfl rfl (zall rfl rfl) ⟨bx rfl rfl rfl, trivial⟩⟩
     refine SCode.cond_f rfl g52 (SCode.skip (SCode.seq ?_))
     obtain ⟨c_53, g54, h⟩ := bind_out h
     try dsimp only at h
     refine SCode.region (sq rfl rfl (q_load_ptr_all rfl rfl rfl rfl rfl ty47) (sm rfl rfl (sq rfl rfl (q_call (chargenetref47_Amount_ok F (a0_l.getD t84_29.toNat dSCDR) a1_ds c_53 g54) [] rfl fn33 ⟨⟨rfl, rfl⟩, ⟨_, rfl, .inl ⟨rfl, rfl⟩⟩, trivial⟩ (.inl rfl)) (sa rfl rfl (SOps.nil (SCode.seq (SCode.region (sm rfl rfl (sm rfl rfl (sq rfl rfl (q_shr rfl rfl rfl (by decide)) (sq rfl rfl (q_add rfl rfl rfl) (sa rfl rfl (SOps.nil (SCode.region (sm rfl rfl ?_)))))))))))))))
     refine sm rfl rfl (sq rfl rfl (q_and rfl rfl rfl) (sq rfl rfl (q_add rfl rfl rfl) (sa rfl rfl (SOps.nil ?_))))
     exact ⟨(IntKind.wrap .i64 (high_27 + (c_53 / 2 ^ min (32 : Int).toNat (IntKind.bits .i64))), IntKind.wrap .i64 (low_28 + iAnd .i64 c_53 4294967295)), h, sub_gen [0] rfl rfl (zall rfl rfl) ⟨bx rfl rfl rfl, trivial⟩⟩
    rintro ⟨high_44, low_45⟩ h
    show SCode _ _ _ (S10 high_44 low_45) _
    try dsimp only at h
    unfold chargenetref49_Owed_p46 at h
    refine SCode.region (sq rfl rfl (q_add rfl rfl rfl) (sm rfl rfl (SOps.nil ?_)))
    exact ⟨(n_42, (high_44, low_45, IntKind.wrap .i64 (t84_29 + 1))), h, Nat.lt_succ_self n_42, sub_gen [0] rfl rfl (zall rfl rfl) ⟨bx rfl rfl rfl, trivial⟩⟩
   refine SCode.cond_f rfl g43 (SCode.exit ?_)
   exact ⟨(high_27, low_28), h, sub_gen [] rfl rfl (zall rfl rfl) trivial⟩
 rintro ⟨high_10, low_11⟩ h
 show SCode _ _ _ (S12 high_10 low_11) _
 try dsimp only at h
 unfold chargenetref49_Owed_p14 at h
 refine SCode.seq (SCode.region (sm rfl rfl (sm rfl rfl (sq rfl rfl (q_shr rfl rfl rfl (by decide)) (sq rfl rfl (q_add rfl rfl rfl) (sa rfl rfl (SOps.nil (SCode.seq (SCode.region (sm rfl rfl (sq rfl rfl (q_and rfl rfl rfl) (sa rfl rfl (SOps.nil (SCode.seq (SCode.seq ?_)))))))))))))))
 rcases cond_out h with ⟨g12, h⟩ | ⟨g12, h⟩
 ·refine SCode.region (sm rfl rfl (sq rfl rfl (q_lss rfl rfl rfl) (sm rfl rfl (SOps.skip rfl 2 138 false rfl rfl (.inl (gT g12)) rfl (SOps.skip rfl 2 138 false rfl rfl (.inl (gT g12)) rfl (sq rfl rfl (q_pick_t rfl rfl g12 rfl) (SOps.nil (SCode.cond_t rfl rfl (SCode.seq (SCode.region (sa rfl rfl (sa rfl rfl (SOps.nil (SCode.ret ?_))))))))))))))
  obtain rfl := Option.some.inj h
  exact ⟨⟨[(12, ci 0), (13, ci 20)], []⟩, _, sub_gen [] rfl rfl (zall rfl rfl) trivial, resA2 (v1 := .c (.int .i64 0)) (v2 := .c (.int .i64 20)) rfl rfl rfl, rfl⟩
 refine SCode.region (sm rfl rfl (sq rfl rfl (q_lss rfl rfl rfl) (sm rfl rfl (SOps.q rfl (.guard 2 138 false rfl rfl (gF g12)) rfl (q_move rfl rfl) (SOps.q rfl (.guard 2 138 false rfl rfl (gF g12)) rfl (q_geq rfl rfl rfl) (sq rfl rfl (q_pick_f rfl rfl g12 rfl) (SOps.nil ?_)))))))
 rcases cond_out h with ⟨g13, h⟩ | ⟨g13, h⟩
 ·refine SCode.cond_t rfl g13 (SCode.seq (SCode.region (sa rfl rfl (sa rfl rfl (SOps.nil (SCode.ret ?_))))))
  obtain rfl := Option.some.inj h
  exact ⟨⟨[(12, ci 0), (13, ci 20)], []⟩, _, sub_gen [] rfl rfl (zall rfl rfl) trivial, resA2 (v1 := .c (.int .i64 0)) (v2 := .c (.int .i64 20)) rfl rfl rfl, rfl⟩
 refine SCode.cond_f rfl g13 (SCode.skip (SCode.seq (SCode.region (sm rfl rfl (sq rfl rfl (q_shl rfl rfl rfl (by decide)) (sm rfl rfl (sq rfl rfl (q_add rfl rfl rfl) (sa rfl rfl (sa rfl rfl (SOps.sub (st' := ⟨[(12, ci (IntKind.wrap .i64 (IntKind.wrap .i64 (IntKind.wrap .i64 (high_10 + (low_11 / 2 ^ min (32 : Int).toNat (IntKind.bits .i64))) * 2 ^ min (32 : Int).toNat (IntKind.bits .i64)) + iAnd .i64 low_11 4294967295))), (13, ci 0)], []⟩) (sub_gen [] rfl rfl (zall rfl rfl) trivial) (SOps.nil (SCode.ret ?_))))))))))))
 obtain rfl := Option.some.inj h
 exact ⟨⟨[(12, ci (IntKind.wrap .i64 (IntKind.wrap .i64 (IntKind.wrap .i64 (high_10 + (low_11 / 2 ^ min (32 : Int).toNat (IntKind.bits .i64))) * 2 ^ min (32 : Int).toNat (IntKind.bits .i64)) + iAnd .i64 low_11 4294967295))), (13, ci 0)], []⟩, _, sub_gen [] rfl rfl (zall rfl rfl) trivial, resA2 (v1 := .c (.int .i64 (IntKind.wrap .i64 (IntKind.wrap .i64 (IntKind.wrap .i64 (high_10 + (low_11 / 2 ^ min (32 : Int).toNat (IntKind.bits .i64))) * 2 ^ min (32 : Int).toNat (IntKind.bits .i64)) + iAnd .i64 low_11 4294967295)))) (v2 := .c (.int .i64 0)) rfl rfl rfl, rfl⟩
theorem chargenetlaw49_SettleOwes_ok (F : Nat) (a0_c : SCase) (r : Bool) (h : chargenetlaw49_SettleOwes F a0_c = some r) :
  SFun Try.prog 5 [] [.a (bSCase a0_c)] (fun x _ => x = .c (.bool r)) := by
 refine SFun.of (n := 51) Try.func5 rfl rfl rfl ?_
 unfold chargenetlaw49_SettleOwes at h
 show SCode _ _ _ ⟨[(0, .a (bSCase a0_c))], []⟩ _
 refine SCode.seq (SCode.region (se rfl rfl (e_box rfl rfl rfl rfl rfl rfl) (sa rfl rfl (SOps.nil (SCode.seq (SCode.seq ?_))))))
 obtain ⟨c_1, g2, h⟩ := bind_out h
 try dsimp only at h
 refine SCode.region (sq rfl rfl (q_load_ptr_all rfl rfl rfl rfl rfl ty41) (sq rfl rfl (q_call (chargenetlaw49_Small_ok F a0_c c_1 g2) [] rfl fn14 ⟨⟨rfl, rfl⟩, trivial⟩ (.inl rfl)) (sq rfl rfl (q_not rfl rfl) (SOps.nil ?_))))
 rcases cond_out h with ⟨g3, h⟩ | ⟨g3, h⟩
 ·refine SCode.cond_t rfl g3 (SCode.seq ?_)
  obtain ⟨c_4, g5, h⟩ := bind_out h
  try dsimp only at h
  refine SCode.region (sq rfl rfl (q_call (chargenetlaw49_exampleHolds_ok F  c_4 g5) [] rfl fn8 trivial (.inl rfl)) (sa rfl rfl (SOps.nil (SCode.ret ?_))))
  obtain rfl := Option.some.inj h
  exact ⟨⟨[(2, .c (.bool c_4))], []⟩, _, sub_gen [] rfl rfl (zall rfl rfl) trivial, resA1 (v := .c (.bool c_4)) rfl rfl, rfl⟩
 refine SCode.cond_f rfl g3 (SCode.skip (SCode.seq ?_))
 obtain ⟨c_6, g7, h⟩ := bind_out h
 try dsimp only at h
 refine SCode.region (sq rfl rfl (q_field_ptr rfl rfl fd41_0) (sq rfl rfl (q_load_ptr rfl rfl rfl rfl ty36) (sq rfl rfl (q_field_ptr rfl rfl fd41_1) (sq rfl rfl (q_load_ptr rfl rfl rfl rfl ty37) (sq rfl rfl (q_field_ptr rfl rfl fd41_2) (sq rfl rfl (q_load_ptr rfl rfl rfl rfl ty9) (sq rfl rfl (q_field_ptr rfl rfl fd41_3) (sq rfl rfl (q_load_ptr rfl rfl rfl rfl ty9) (sq rfl rfl (q_field_ptr rfl rfl fd41_4) (sq rfl rfl (q_load_ptr rfl rfl rfl rfl ty9) (sq rfl rfl (q_field_ptr rfl rfl fd41_5) (sq rfl rfl (q_load_ptr_all rfl rfl rfl rfl rfl ty39) (sq rfl rfl (q_call (settle_Owed_ok F a0_c.CDRs a0_c.Disputes a0_c.A a0_c.B a0_c.Currency (SSpan.mk a0_c.Span_From a0_c.Span_To) c_6 g7) [] rfl fn15 ⟨⟨_, rfl, .inl ⟨rfl, rfl⟩⟩, ⟨_, rfl, .inl ⟨rfl, rfl⟩⟩, ⟨_, rfl, .inl ⟨rfl, rfl⟩⟩, ⟨_, rfl, .inl ⟨rfl, rfl⟩⟩, ⟨_, rfl, .inl ⟨rfl, rfl⟩⟩, ⟨rfl, rfl⟩, trivial⟩ (.inl rfl)) (sm rfl rfl (sq rfl rfl (q_extract rfl rfl rfl) ?_)))))))))))))))
 refine sq rfl rfl (q_extract rfl rfl rfl) (sa rfl rfl (sa rfl rfl (SOps.sub (st' := ⟨[(1, .c (.ptr 0 0)), (3, ci c_6.1), (4, ci c_6.2)], [.box (bSCase a0_c)]⟩) (sub_gen [0] rfl rfl (zall rfl rfl) ⟨bx rfl rfl rfl, trivial⟩) (SOps.nil (SCode.seq ?_)))))
 obtain ⟨c_8, g9, h⟩ := bind_out h
 try dsimp only at h
 refine SCode.region (sq rfl rfl (q_field_ptr rfl rfl fd41_0) (sq rfl rfl (q_load_ptr rfl rfl rfl rfl ty36) (sq rfl rfl (q_field_ptr rfl rfl fd41_1) (sq rfl rfl (q_load_ptr rfl rfl rfl rfl ty37) (sq rfl rfl (q_field_ptr rfl rfl fd41_2) (sq rfl rfl (q_load_ptr rfl rfl rfl rfl ty9) (sq rfl rfl (q_field_ptr rfl rfl fd41_3) (sq rfl rfl (q_load_ptr rfl rfl rfl rfl ty9) (sq rfl rfl (q_field_ptr rfl rfl fd41_4) (sq rfl rfl (q_load_ptr rfl rfl rfl rfl ty9) (sq rfl rfl (q_field_ptr rfl rfl fd41_5) (sq rfl rfl (q_load_ptr_all rfl rfl rfl rfl rfl ty39) (sq rfl rfl (q_call (chargenetref49_Owed_ok F a0_c.CDRs a0_c.Disputes a0_c.A a0_c.B a0_c.Currency (SSpan.mk a0_c.Span_From a0_c.Span_To) c_8 g9) [] rfl fn16 ⟨⟨_, rfl, .inl ⟨rfl, rfl⟩⟩, ⟨_, rfl, .inl ⟨rfl, rfl⟩⟩, ⟨_, rfl, .inl ⟨rfl, rfl⟩⟩, ⟨_, rfl, .inl ⟨rfl, rfl⟩⟩, ⟨_, rfl, .inl ⟨rfl, rfl⟩⟩, ⟨rfl, rfl⟩, trivial⟩ (.inl rfl)) (sm rfl rfl (sq rfl rfl (q_extract rfl rfl rfl) ?_)))))))))))))))
 refine sq rfl rfl (q_extract rfl rfl rfl) (sa rfl rfl (sa rfl rfl (SOps.sub (st' := ⟨[(3, ci c_6.1), (4, ci c_6.2), (5, ci c_8.1), (6, ci c_8.2)], []⟩) (sub_gen [] rfl rfl (zall rfl rfl) trivial) (SOps.nil (SCode.seq ?_)))))
 rcases cond_out h with ⟨g10, h⟩ | ⟨g10, h⟩
 ·refine SCode.region (sm rfl rfl (sm rfl rfl (sq rfl rfl (q_eql rfl rfl rfl) (sm rfl rfl (SOps.q rfl (.guard 3 46 true rfl rfl (gT g10)) rfl (q_move rfl rfl) (SOps.q rfl (.guard 3 46 true rfl rfl (gT g10)) rfl (q_move rfl rfl) (SOps.q rfl (.guard 3 46 true rfl rfl (gT g10)) rfl (q_eql rfl rfl rfl) (sq rfl rfl (q_pick_t rfl rfl g10 rfl) (sa rfl rfl (SOps.nil (SCode.ret ?_)))))))))))
  obtain rfl := Option.some.inj h
  exact ⟨⟨[(2, .c (.bool (decide (c_6.2 = c_8.2))))], []⟩, _, sub_gen [] rfl rfl (zall rfl rfl) trivial, resA1 (v := .c (.bool (decide (c_6.2 = c_8.2)))) rfl rfl, rfl⟩
 refine SCode.region (sm rfl rfl (sm rfl rfl (sq rfl rfl (q_eql rfl rfl rfl) (sm rfl rfl (SOps.skip rfl 3 46 true rfl rfl (.inl (gF g10)) rfl (SOps.skip rfl 3 46 true rfl rfl (.inl (gF g10)) rfl (SOps.skip rfl 3 46 true rfl rfl (.inl (gF g10)) rfl (sq rfl rfl (q_pick_f rfl rfl g10 rfl) (sa rfl rfl (SOps.nil (SCode.ret ?_)))))))))))
 obtain rfl := Option.some.inj h
 exact ⟨⟨[(2, .c (.bool false))], []⟩, _, sub_gen [] rfl rfl (zall rfl rfl) trivial, resA1 (v := .c (.bool false)) rfl rfl, rfl⟩
end Go.Proofs.Ytoncfkdgddfnlaa.W
