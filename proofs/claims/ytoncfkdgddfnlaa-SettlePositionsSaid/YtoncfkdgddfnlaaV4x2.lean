/- Written by a program of ours (wip/eng/gen.py): the functions compute their models. -/
import Derived.Test.YtoncfkdgddfnlaaFacts
import Derived.Test.YtoncfkdgddfnlaaV4x1
namespace Go.Proofs.Ytoncfkdgddfnlaa.W
open Go Go.Proofs Go.Proofs.Ytoncfkdgddfnlaa.E Go.Proofs.Ytoncfkdgddfnlaa.M
set_option linter.unusedVariables false
set_option maxRecDepth 100000
set_option maxHeartbeats 8000000
theorem chargenetref49_Positions_ok (F : Nat) (a0_l : List SBalance) (r : List SPosition) (h : chargenetref49_Positions F a0_l = some r) :
  SFun Try.prog 12 [] [.c (vSBalance a0_l)] (fun x _ => x = .c (vSPosition r)) := by
 refine SFun.of (n := 102) Try.func12 rfl rfl rfl ?_
 unfold chargenetref49_Positions at h
 show SCode _ _ _ ⟨[(0, .c (vSBalance a0_l))], []⟩ _
 refine SCode.seq (SCode.region (sa rfl rfl (SOps.nil (SCode.seq (SCode.region (sa rfl rfl (SOps.nilArrL (T := 32) (k := 3) cSPosition dSPosition (s := 3) rfl rfl (SOps.nil ?_))))))))
 let S60 := fun (o0_1 : List SPosition) => (⟨[(3, .c (.own 0 o0_1.length))], [aSPosition 32 o0_1]⟩ : St)
 refine SCode.join (σ := (List SPosition)) (S := fun s => (S60 s)) (g := fun s => chargenetref49_Positions_p160 F s = some r) ?_ ?_
 rotate_left
 ·refine SCode.seq (SCode.region (sm rfl rfl (sq rfl rfl (q_len_vec rfl rfl sl22) (sm rfl rfl (SOps.nil (SCode.block ?_))))))
  let S59 := fun (t10_167 : Int) => fun (o0_168 : List SPosition) => (⟨[(3, .c (.own 0 o0_168.length)), (8, .c (vSBalance a0_l)), (9, ci (((a0_l).length : Int))), (10, ci t10_167)], [aSPosition 32 o0_168]⟩ : St)
  refine SCode.sub (st' := (S59 0 (([] : List SPosition)))) (sub_gen [0] rfl rfl (zall rfl rfl) ⟨oa rfl, trivial⟩) ?_
  refine (SCode.loop (σ := Nat × (Int × (List SPosition))) (S := fun s => (S59 s.2.1 s.2.2)) (g := fun s => chargenetref49_Positions_l175 F a0_l s.1 s.2.1 s.2.2 = some r) (μ := fun s => s.1) (F, (0, ([] : List SPosition))) h ?_)
  rintro ⟨n_175, ⟨t10_167, o0_168⟩⟩ h
  try dsimp only at h
  show SCode _ _ _ (S59 t10_167 o0_168) _
  cases n_175 with
  | zero => cases h
  | succ n_175 =>
   rw [chargenetref49_Positions_l175] at h
   unfold chargenetref49_Positions_b175 at h
   refine SCode.seq (SCode.region (sq rfl rfl (q_lss rfl rfl rfl) (SOps.nil (SCode.seq ?_))))
   rcases cond_out h with ⟨g176, h⟩ | ⟨g176, h⟩
   ·refine SCode.cond_t rfl g176 (SCode.skip (SCode.seq (SCode.block (SCode.seq ?_))))
    obtain ⟨g177, h⟩ := guard_out h
    refine SCode.region (sq rfl rfl (q_index_vec rfl rfl rfl sl22 rfl g177.1 g177.2) (sq rfl rfl (q_load_eptr_all rfl rfl rfl ty35) (se rfl rfl (e_alloc rfl rfl rfl z35) (se rfl rfl (e_store_box rfl rfl rfl rfl rfl ty35 rfl rfl rfl rfl) (SOps.nil (SCode.seq ?_))))))
    obtain ⟨c_178, g179, h⟩ := bind_out h
    try dsimp only at h
    refine SCode.region (sm rfl rfl (sq rfl rfl (q_field_ptr rfl rfl fd35_2) (sq rfl rfl (q_load_ptr rfl rfl rfl rfl ty9) (sq rfl rfl (q_field_ptr rfl rfl fd35_0) (sq rfl rfl (q_load_ptr rfl rfl rfl rfl ty9) (sq rfl rfl (q_field_ptr rfl rfl fd35_3) (sq rfl rfl (q_load_ptr rfl rfl rfl rfl ty3) (se rfl rfl (e_call (chargenetref49_add_ok F o0_168 ((a0_l.getD t10_167.toNat dSBalance).Currency) ((a0_l.getD t10_167.toNat dSBalance).Creditor) ((a0_l.getD t10_167.toNat dSBalance).Amount) c_178 g179) [0] rfl fn27 rfl rfl rfl rfl rfl rfl rfl rfl) (sa rfl rfl (SOps.sub (st' := ⟨[(3, .c (.own 0 c_178.length)), (5, .c (.ptr 1 0)), (8, .c (vSBalance a0_l)), (9, ci (((a0_l).length : Int))), (10, ci t10_167)], [aSPosition 32 c_178, .box (bSBalance (a0_l.getD t10_167.toNat dSBalance))]⟩) (sub_gen [2, 1] rfl rfl (zall rfl rfl) ⟨oa rfl, bx rfl rfl rfl, trivial⟩) (SOps.nil ?_)))))))))))
    obtain ⟨c_180, g181, h⟩ := bind_out h
    try dsimp only at h
    refine SCode.region (sm rfl rfl (sq rfl rfl (q_field_ptr rfl rfl fd35_2) (sq rfl rfl (q_load_ptr rfl rfl rfl rfl ty9) (sq rfl rfl (q_field_ptr rfl rfl fd35_1) (sq rfl rfl (q_load_ptr rfl rfl rfl rfl ty9) (sq rfl rfl (q_field_ptr rfl rfl fd35_3) (sq rfl rfl (q_load_ptr rfl rfl rfl rfl ty3) (sq rfl rfl (q_neg rfl rfl) (se rfl rfl (e_call (chargenetref49_add_ok F c_178 ((a0_l.getD t10_167.toNat dSBalance).Currency) ((a0_l.getD t10_167.toNat dSBalance).Debtor) (IntKind.wrap .i64 (0 - (a0_l.getD t10_167.toNat dSBalance).Amount)) c_180 g181) [0] rfl fn27 rfl rfl rfl rfl rfl rfl rfl rfl) (sa rfl rfl (SOps.sub (st' := ⟨[(3, .c (.own 0 c_180.length)), (8, .c (vSBalance a0_l)), (9, ci (((a0_l).length : Int))), (10, ci t10_167)], [aSPosition 32 c_180]⟩) (sub_gen [2] rfl rfl (zall rfl rfl) ⟨oa rfl, trivial⟩) (SOps.nil (SCode.region (sq rfl rfl (q_add rfl rfl rfl) (sm rfl rfl ?_)))))))))))))))
    refine SOps.nil ?_
    exact ⟨(n_175, (IntKind.wrap .i64 (t10_167 + 1), c_180)), h, Nat.lt_succ_self n_175, sub_gen [0] rfl rfl (zall rfl rfl) ⟨oa rfl, trivial⟩⟩
   refine SCode.cond_f rfl g176 (SCode.exit ?_)
   exact ⟨o0_168, h, sub_gen [0] rfl rfl (zall rfl rfl) ⟨oa rfl, trivial⟩⟩
 rintro o0_1 h
 show SCode _ _ _ (S60 o0_1) _
 try dsimp only at h
 unfold chargenetref49_Positions_p160 at h
 let S58 := fun (o0_2 : List SPosition) => (⟨[(3, .c (.own 0 o0_2.length))], [aSPosition 32 o0_2]⟩ : St)
 refine SCode.join (σ := (List SPosition)) (S := fun s => (S58 s)) (g := fun s => chargenetref49_Positions_p3 s = some r) ?_ ?_
 rotate_left
 ·refine SCode.seq (SCode.region (sm rfl rfl (sq rfl rfl (q_len_own rfl rfl sl29) (sm rfl rfl (SOps.nil (SCode.block ?_))))))
  let S57 := fun (t34_55 : Int) => fun (o0_56 : List SPosition) => (⟨[(3, .c (.own 0 o0_56.length)), (33, ci (((o0_1).length : Int))), (34, ci t34_55)], [aSPosition 32 o0_56]⟩ : St)
  refine SCode.sub (st' := (S57 0 o0_1)) (sub_gen [0] rfl rfl (zall rfl rfl) ⟨oa rfl, trivial⟩) ?_
  refine (SCode.loop (σ := Nat × (Int × (List SPosition))) (S := fun s => (S57 s.2.1 s.2.2)) (g := fun s => chargenetref49_Positions_l108 F o0_1 s.1 s.2.1 s.2.2 = some r) (μ := fun s => s.1) (F, (0, o0_1)) h ?_)
  rintro ⟨n_108, ⟨t34_55, o0_56⟩⟩ h
  try dsimp only at h
  show SCode _ _ _ (S57 t34_55 o0_56) _
  cases n_108 with
  | zero => cases h
  | succ n_108 =>
   rw [chargenetref49_Positions_l108] at h
   unfold chargenetref49_Positions_b108 at h
   refine SCode.seq (SCode.region (sq rfl rfl (q_lss rfl rfl rfl) (SOps.nil (SCode.seq ?_))))
   rcases cond_out h with ⟨g109, h⟩ | ⟨g109, h⟩
   ·refine SCode.cond_t rfl g109 (SCode.skip ?_)
    let S56 := fun (o0_110 : List SPosition) => (⟨[(3, .c (.own 0 o0_110.length)), (33, ci (((o0_1).length : Int))), (34, ci t34_55)], [aSPosition 32 o0_110]⟩ : St)
    refine SCode.join (σ := (List SPosition)) (S := fun s => (S56 s)) (g := fun s => chargenetref49_Positions_p111 t34_55 (fun t34_55 o0_56 => chargenetref49_Positions_l108 F o0_1 n_108 t34_55 o0_56) s = some r) ?_ ?_
    rotate_left
    ·refine SCode.block (SCode.seq (SCode.region (sm rfl rfl (sa rfl rfl (SOps.nil (SCode.seq (SCode.region (sm rfl rfl (sa rfl rfl (SOps.nil (SCode.block ?_)))))))))))
     let S55 := fun (j_127 : Int) => fun (o0_128 : List SPosition) => (⟨[(3, .c (.own 0 o0_128.length)), (7, ci j_127), (33, ci (((o0_1).length : Int))), (34, ci t34_55)], [aSPosition 32 o0_128]⟩ : St)
     refine SCode.sub (st' := (S55 t34_55 o0_56)) (sub_gen [0] rfl rfl (zall rfl rfl) ⟨oa rfl, trivial⟩) ?_
     refine (SCode.loop (σ := Nat × (Int × (List SPosition))) (S := fun s => (S55 s.2.1 s.2.2)) (g := fun s => chargenetref49_Positions_l144 t34_55 (fun t34_55 o0_56 => chargenetref49_Positions_l108 F o0_1 n_108 t34_55 o0_56) s.1 s.2.1 s.2.2 = some r) (μ := fun s => s.1) (F, (t34_55, o0_56)) h ?_)
     rintro ⟨n_144, ⟨j_127, o0_128⟩⟩ h
     try dsimp only at h
     show SCode _ _ _ (S55 j_127 o0_128) _
     cases n_144 with
     | zero => cases h
     | succ n_144 =>
      rw [chargenetref49_Positions_l144] at h
      unfold chargenetref49_Positions_b144 at h
      let S54 := (⟨[(3, .c (.own 0 o0_128.length)), (7, ci j_127), (33, ci (((o0_1).length : Int))), (34, ci t34_55)], [aSPosition 32 o0_128]⟩ : St)
      refine SCode.join (σ := Unit) (S := fun s => S54) (g := fun s => chargenetref49_Positions_p149 j_127 o0_128 (fun j_127 o0_128 => chargenetref49_Positions_l144 t34_55 (fun t34_55 o0_56 => chargenetref49_Positions_l108 F o0_1 n_108 t34_55 o0_56) n_144 j_127 o0_128) = some r) ?_ ?_
      rotate_left
      ·refine SCode.seq ?_
       rcases cond_out h with ⟨g150, h⟩ | ⟨g150, h⟩
       ·obtain ⟨g151, h⟩ := guard_out h
        obtain ⟨g152, h⟩ := guard_out h
        rcases cond_out h with ⟨g153, h⟩ | ⟨g153, h⟩
        ·refine SCode.drawK mixed [[], [0], [0, 1], [0, 1, 2], [0, 1, 2], [0, 1, 2, 4], [0, 1, 2, 3, 4, 5], [0, 1, 2, 3, 4, 5, 6], [0, 1, 2, 3, 4, 5, 6, 7], [0, 1, 2], [0, 1, 2], [0, 1, 2, 9, 10], [0, 1, 2, 9, 10, 11], [0, 1, 2, 9, 10, 11, 12], [0, 1, 2, 3, 4, 5, 6, 7, 8, 9, 10, 11, 12, 13], [0, 1, 2, 3, 4, 5, 6, 7, 8, 9, 10, 11, 12, 13, 14], [0, 1, 2, 3, 4, 5, 6, 7, 8, 9, 10, 11, 12, 13, 14, 15], [0, 1, 2, 3, 4, 5, 6, 7, 8, 9, 10, 11, 12, 13, 14, 15], [0, 1, 2, 3, 4, 5, 6, 7, 8, 9, 10, 11, 12, 13, 14, 15, 17], [0, 1, 2, 3, 4, 5, 6, 7, 8, 9, 10, 11, 12, 13, 14, 15, 16, 17, 18], [0, 1, 2, 3, 4, 5, 6, 7, 8, 9, 10, 11, 12, 13, 14, 15, 16, 17, 18, 19], [0, 1, 2, 3, 4, 5, 6, 7, 8, 9, 10, 11, 12, 13, 14, 15, 16, 17, 18, 19, 20], [0, 1, 2, 3, 4, 5, 6, 7, 8, 9, 10, 11, 12, 13, 14, 15], [0, 1, 2, 3, 4, 5, 6, 7, 8, 9, 10, 11, 12, 13, 14, 15], [0, 1, 2, 3, 4, 5, 6, 7, 8, 9, 10, 11, 12, 13, 14, 15, 22, 23], [0, 1, 2, 3, 4, 5, 6, 7, 8, 9, 10, 11, 12, 13, 14, 15, 22, 23, 24], [0, 1, 2, 3, 4, 5, 6, 7, 8, 9, 10, 11, 12, 13, 14, 15, 22, 23, 24, 25], [0, 1, 2, 3, 4, 5, 6, 7, 8, 9, 10, 11, 12, 13, 14, 15, 16, 17, 18, 19, 20, 21, 22, 23, 24, 25, 26], [0, 1, 2, 3, 4, 5, 6, 7, 8, 9, 10, 11, 12, 13, 14, 15, 16, 17, 18, 19, 20, 21, 22, 23, 24, 25, 26, 27], [0, 1, 2, 3, 4, 5, 6, 7, 8, 9, 10, 11, 12, 13, 14, 15, 16, 17, 18, 19, 20, 21, 22, 23, 24, 25, 26, 27, 28], [0, 1, 2, 3, 4, 5, 6, 7, 8, 9, 10, 11, 12, 13, 14, 15, 16, 17, 18, 19, 20, 21, 22, 23, 24, 25, 26, 27, 28], [0, 1, 2, 3, 4, 5, 6, 7, 8, 9, 10, 11, 12, 13, 14, 15, 16, 17, 18, 19, 20, 21, 22, 23, 24, 25, 26, 27, 28, 30], [0, 1, 2, 3, 4, 5, 6, 7, 8, 9, 10, 11, 12, 13, 14, 15, 16, 17, 18, 19, 20, 21, 22, 23, 24, 25, 26, 27, 28, 29, 30, 31], [0, 1, 2, 3, 4, 5, 6, 7, 8, 9, 10, 11, 12, 13, 14, 15, 16, 17, 18, 19, 20, 21, 22, 23, 24, 25, 26, 27, 28, 29, 30, 31, 32], [0, 1, 2, 3, 4, 5, 6, 7, 8, 9, 10, 11, 12, 13, 14, 15, 16, 17, 18, 19, 20, 21, 22, 23, 24, 25, 26, 27, 28, 29, 30, 31, 32, 33], [0, 1, 2, 3, 4, 5, 6, 7, 8, 9, 10, 11, 12, 13, 14, 15, 16, 17, 18, 19, 20, 21, 22, 23, 24, 25, 26, 27, 28], [0, 1, 2, 3, 4, 5, 6, 7, 8, 9, 10, 11, 12, 13, 14, 15, 16, 17, 18, 19, 20, 21, 22, 23, 24, 25, 26, 27, 28], [0, 1, 2, 3, 4, 5, 6, 7, 8, 9, 10, 11, 12, 13, 14, 15, 16, 17, 18, 19, 20, 21, 22, 23, 24, 25, 26, 27, 28, 35, 36], [0, 1, 2, 3, 4, 5, 6, 7, 8, 9, 10, 11, 12, 13, 14, 15, 16, 17, 18, 19, 20, 21, 22, 23, 24, 25, 26, 27, 28, 35, 36, 37], [0, 1, 2, 3, 4, 5, 6, 7, 8, 9, 10, 11, 12, 13, 14, 15, 16, 17, 18, 19, 20, 21, 22, 23, 24, 25, 26, 27, 28, 35, 36, 37, 38], [0, 1, 2, 3, 4, 5, 6, 7, 8, 9, 10, 11, 12, 13, 14, 15, 16, 17, 18, 19, 20, 21, 22, 23, 24, 25, 26, 27, 28, 29, 30, 31, 32, 33, 34, 35, 36, 37, 38, 39], [0, 1, 2, 3, 4, 5, 6, 7, 8, 9, 10, 11, 12, 13, 14, 15, 16, 17, 18, 19, 20, 21, 22, 23, 24, 25, 26, 27, 28, 29, 30, 31, 32, 33, 34, 35, 36, 37, 38, 39, 40], [0, 1, 2, 3, 4, 5, 6, 7, 8, 9, 10, 11, 12, 13, 14, 15, 16, 17, 18, 19, 20, 21, 22, 23, 24, 25, 26, 27, 28, 29, 30, 31, 32, 33, 34, 35, 36, 37, 38, 39, 40, 41], [0, 1, 2, 3, 4, 5, 6, 7, 8, 9, 10, 11, 12, 13, 14, 15, 16, 17, 18, 19, 20, 21, 22, 23, 24, 25, 26, 27, 28, 29, 30, 31, 32, 33, 34, 35, 36, 37, 38, 39, 40, 41, 42]] 44 0 rfl rfl (qm rfl rfl (qr rfl rfl (q_gtr rfl rfl rfl) (qm rfl rfl (QK.run rfl (.guard 2 40 true rfl rfl (gT g150)) rfl (q_move rfl rfl) (QK.run rfl (.guard 2 40 true rfl rfl (gT g150)) rfl (q_move rfl rfl) (QK.run rfl (.guard 2 40 true rfl rfl (gT g150)) rfl (q_sub rfl rfl rfl) (QK.run rfl (.guard 2 40 true rfl rfl (gT g150)) rfl (q_index_own rfl rfl rfl sl29 g151.1 g151.2) (QK.run rfl (.guard 2 40 true rfl rfl (gT g150)) rfl (q_field_aptr rfl rfl fd32_0) (QK.run rfl (.guard 2 40 true rfl rfl (gT g150)) rfl (q_load_aptr rfl rfl rfl (toNat_lt g151) rfl ty9) (QK.run rfl (.guard 2 40 true rfl rfl (gT g150)) rfl (q_move rfl rfl) (QK.run rfl (.guard 2 40 true rfl rfl (gT g150)) rfl (q_move rfl rfl) (QK.run rfl (.guard 2 40 true rfl rfl (gT g150)) rfl (q_index_own rfl rfl rfl sl29 g152.1 g152.2) (QK.run rfl (.guard 2 40 true rfl rfl (gT g150)) rfl (q_field_aptr rfl rfl fd32_0) (QK.run rfl (.guard 2 40 true rfl rfl (gT g150)) rfl (q_load_aptr rfl rfl rfl (toNat_lt g152) rfl ty9) (QK.run rfl (.guard 2 40 true rfl rfl (gT g150)) rfl (q_gtrS rfl rfl rfl) ?_)))))))))))))))
         refine QK.run rfl (.guard 2 40 true rfl rfl (gT g150)) rfl (q_move rfl rfl) (QK.skip rfl ⟨15, 53, false, rfl, rfl, (.inl (gT g153))⟩ rfl (QK.skip rfl ⟨15, 53, false, rfl, rfl, (.inl (gT g153))⟩ rfl (QK.skip rfl ⟨15, 53, false, rfl, rfl, (.inl (gT g153))⟩ rfl (QK.skip rfl ⟨15, 53, false, rfl, rfl, (.inl (gT g153))⟩ rfl (QK.skip rfl ⟨15, 53, false, rfl, rfl, (.inl (gT g153))⟩ rfl (QK.skip rfl ⟨15, 53, false, rfl, rfl, (.inl (gT g153))⟩ rfl (QK.skip rfl ⟨15, 53, false, rfl, rfl, (.inl (gT g153))⟩ rfl (QK.skip rfl ⟨15, 53, false, rfl, rfl, (.inl (gT g153))⟩ rfl (QK.skip rfl ⟨15, 53, false, rfl, rfl, (.inl (gT g153))⟩ rfl (QK.skip rfl ⟨15, 53, false, rfl, rfl, (.inl (gT g153))⟩ rfl (QK.skip rfl ⟨15, 53, false, rfl, rfl, (.inl (gT g153))⟩ rfl (QK.skip rfl ⟨15, 53, false, rfl, rfl, (.inl (gT g153))⟩ rfl (QK.skip rfl ⟨15, 53, false, rfl, rfl, (.inl (gT g153))⟩ rfl (QK.skip rfl ⟨28, 66, true, rfl, rfl, (.inr rfl)⟩ rfl (QK.skip rfl ⟨28, 66, true, rfl, rfl, (.inr rfl)⟩ rfl ?_)))))))))))))))
         refine QK.skip rfl ⟨28, 66, true, rfl, rfl, (.inr rfl)⟩ rfl (QK.skip rfl ⟨28, 66, true, rfl, rfl, (.inr rfl)⟩ rfl (QK.skip rfl ⟨28, 66, true, rfl, rfl, (.inr rfl)⟩ rfl (QK.skip rfl ⟨28, 66, true, rfl, rfl, (.inr rfl)⟩ rfl (QK.skip rfl ⟨28, 66, true, rfl, rfl, (.inr rfl)⟩ rfl (QK.skip rfl ⟨28, 66, true, rfl, rfl, (.inr rfl)⟩ rfl (QK.skip rfl ⟨28, 66, true, rfl, rfl, (.inr rfl)⟩ rfl (QK.skip rfl ⟨28, 66, true, rfl, rfl, (.inr rfl)⟩ rfl (QK.skip rfl ⟨28, 66, true, rfl, rfl, (.inr rfl)⟩ rfl (QK.skip rfl ⟨28, 66, true, rfl, rfl, (.inr rfl)⟩ rfl (QK.skip rfl ⟨15, 53, false, rfl, rfl, (.inl (gT g153))⟩ rfl (QK.run rfl (.guard 2 40 true rfl rfl (gT g150)) rfl (q_pick_t rfl rfl g153 rfl) (qr rfl rfl (q_pick_t rfl rfl g150 rfl) (QK.nil (SOps.sub (st' := ⟨[(3, .c (.own 0 o0_128.length)), (7, ci j_127), (33, ci (((o0_1).length : Int))), (34, ci t34_55), (81, .c (.bool true))], [aSPosition 32 o0_128]⟩) (sub_gen [0] rfl rfl (zall rfl rfl) ⟨oa rfl, trivial⟩) (SOps.nil ?_)))))))))))))))
         refine SCode.cond_t rfl rfl (SCode.skip ?_)
         exact ⟨(), h, sub_gen [0] rfl rfl (zall rfl rfl) ⟨oa rfl, trivial⟩⟩
        obtain ⟨g154, h⟩ := guard_out h
        obtain ⟨g155, h⟩ := guard_out h
        rcases cond_out h with ⟨g156, h⟩ | ⟨g156, h⟩
        ·obtain ⟨g157, h⟩ := guard_out h
         obtain ⟨g158, h⟩ := guard_out h
         refine SCode.drawK mixed [[], [0], [0, 1], [0, 1, 2], [0, 1, 2], [0, 1, 2, 4], [0, 1, 2, 3, 4, 5], [0, 1, 2, 3, 4, 5, 6], [0, 1, 2, 3, 4, 5, 6, 7], [0, 1, 2], [0, 1, 2], [0, 1, 2, 9, 10], [0, 1, 2, 9, 10, 11], [0, 1, 2, 9, 10, 11, 12], [0, 1, 2, 3, 4, 5, 6, 7, 8, 9, 10, 11, 12, 13], [0, 1, 2, 3, 4, 5, 6, 7, 8, 9, 10, 11, 12, 13, 14], [0, 1, 2, 3, 4, 5, 6, 7, 8, 9, 10, 11, 12, 13, 14, 15], [0, 1, 2, 3, 4, 5, 6, 7, 8, 9, 10, 11, 12, 13, 14, 15], [0, 1, 2, 3, 4, 5, 6, 7, 8, 9, 10, 11, 12, 13, 14, 15, 17], [0, 1, 2, 3, 4, 5, 6, 7, 8, 9, 10, 11, 12, 13, 14, 15, 16, 17, 18], [0, 1, 2, 3, 4, 5, 6, 7, 8, 9, 10, 11, 12, 13, 14, 15, 16, 17, 18, 19], [0, 1, 2, 3, 4, 5, 6, 7, 8, 9, 10, 11, 12, 13, 14, 15, 16, 17, 18, 19, 20], [0, 1, 2, 3, 4, 5, 6, 7, 8, 9, 10, 11, 12, 13, 14, 15], [0, 1, 2, 3, 4, 5, 6, 7, 8, 9, 10, 11, 12, 13, 14, 15], [0, 1, 2, 3, 4, 5, 6, 7, 8, 9, 10, 11, 12, 13, 14, 15, 22, 23], [0, 1, 2, 3, 4, 5, 6, 7, 8, 9, 10, 11, 12, 13, 14, 15, 22, 23, 24], [0, 1, 2, 3, 4, 5, 6, 7, 8, 9, 10, 11, 12, 13, 14, 15, 22, 23, 24, 25], [0, 1, 2, 3, 4, 5, 6, 7, 8, 9, 10, 11, 12, 13, 14, 15, 16, 17, 18, 19, 20, 21, 22, 23, 24, 25, 26], [0, 1, 2, 3, 4, 5, 6, 7, 8, 9, 10, 11, 12, 13, 14, 15, 16, 17, 18, 19, 20, 21, 22, 23, 24, 25, 26, 27], [0, 1, 2, 3, 4, 5, 6, 7, 8, 9, 10, 11, 12, 13, 14, 15, 16, 17, 18, 19, 20, 21, 22, 23, 24, 25, 26, 27, 28], [0, 1, 2, 3, 4, 5, 6, 7, 8, 9, 10, 11, 12, 13, 14, 15, 16, 17, 18, 19, 20, 21, 22, 23, 24, 25, 26, 27, 28], [0, 1, 2, 3, 4, 5, 6, 7, 8, 9, 10, 11, 12, 13, 14, 15, 16, 17, 18, 19, 20, 21, 22, 23, 24, 25, 26, 27, 28, 30], [0, 1, 2, 3, 4, 5, 6, 7, 8, 9, 10, 11, 12, 13, 14, 15, 16, 17, 18, 19, 20, 21, 22, 23, 24, 25, 26, 27, 28, 29, 30, 31], [0, 1, 2, 3, 4, 5, 6, 7, 8, 9, 10, 11, 12, 13, 14, 15, 16, 17, 18, 19, 20, 21, 22, 23, 24, 25, 26, 27, 28, 29, 30, 31, 32], [0, 1, 2, 3, 4, 5, 6, 7, 8, 9, 10, 11, 12, 13, 14, 15, 16, 17, 18, 19, 20, 21, 22, 23, 24, 25, 26, 27, 28, 29, 30, 31, 32, 33], [0, 1, 2, 3, 4, 5, 6, 7, 8, 9, 10, 11, 12, 13, 14, 15, 16, 17, 18, 19, 20, 21, 22, 23, 24, 25, 26, 27, 28], [0, 1, 2, 3, 4, 5, 6, 7, 8, 9, 10, 11, 12, 13, 14, 15, 16, 17, 18, 19, 20, 21, 22, 23, 24, 25, 26, 27, 28], [0, 1, 2, 3, 4, 5, 6, 7, 8, 9, 10, 11, 12, 13, 14, 15, 16, 17, 18, 19, 20, 21, 22, 23, 24, 25, 26, 27, 28, 35, 36], [0, 1, 2, 3, 4, 5, 6, 7, 8, 9, 10, 11, 12, 13, 14, 15, 16, 17, 18, 19, 20, 21, 22, 23, 24, 25, 26, 27, 28, 35, 36, 37], [0, 1, 2, 3, 4, 5, 6, 7, 8, 9, 10, 11, 12, 13, 14, 15, 16, 17, 18, 19, 20, 21, 22, 23, 24, 25, 26, 27, 28, 35, 36, 37, 38], [0, 1, 2, 3, 4, 5, 6, 7, 8, 9, 10, 11, 12, 13, 14, 15, 16, 17, 18, 19, 20, 21, 22, 23, 24, 25, 26, 27, 28, 29, 30, 31, 32, 33, 34, 35, 36, 37, 38, 39], [0, 1, 2, 3, 4, 5, 6, 7, 8, 9, 10, 11, 12, 13, 14, 15, 16, 17, 18, 19, 20, 21, 22, 23, 24, 25, 26, 27, 28, 29, 30, 31, 32, 33, 34, 35, 36, 37, 38, 39, 40], [0, 1, 2, 3, 4, 5, 6, 7, 8, 9, 10, 11, 12, 13, 14, 15, 16, 17, 18, 19, 20, 21, 22, 23, 24, 25, 26, 27, 28, 29, 30, 31, 32, 33, 34, 35, 36, 37, 38, 39, 40, 41], [0, 1, 2, 3, 4, 5, 6, 7, 8, 9, 10, 11, 12, 13, 14, 15, 16, 17, 18, 19, 20, 21, 22, 23, 24, 25, 26, 27, 28, 29, 30, 31, 32, 33, 34, 35, 36, 37, 38, 39, 40, 41, 42]] 44 0 rfl rfl (qm rfl rfl (qr rfl rfl (q_gtr rfl rfl rfl) (qm rfl rfl (QK.run rfl (.guard 2 40 true rfl rfl (gT g150)) rfl (q_move rfl rfl) (QK.run rfl (.guard 2 40 true rfl rfl (gT g150)) rfl (q_move rfl rfl) (QK.run rfl (.guard 2 40 true rfl rfl (gT g150)) rfl (q_sub rfl rfl rfl) (QK.run rfl (.guard 2 40 true rfl rfl (gT g150)) rfl (q_index_own rfl rfl rfl sl29 g151.1 g151.2) (QK.run rfl (.guard 2 40 true rfl rfl (gT g150)) rfl (q_field_aptr rfl rfl fd32_0) (QK.run rfl (.guard 2 40 true rfl rfl (gT g150)) rfl (q_load_aptr rfl rfl rfl (toNat_lt g151) rfl ty9) (QK.run rfl (.guard 2 40 true rfl rfl (gT g150)) rfl (q_move rfl rfl) (QK.run rfl (.guard 2 40 true rfl rfl (gT g150)) rfl (q_move rfl rfl) (QK.run rfl (.guard 2 40 true rfl rfl (gT g150)) rfl (q_index_own rfl rfl rfl sl29 g152.1 g152.2) (QK.run rfl (.guard 2 40 true rfl rfl (gT g150)) rfl (q_field_aptr rfl rfl fd32_0) (QK.run rfl (.guard 2 40 true rfl rfl (gT g150)) rfl (q_load_aptr rfl rfl rfl (toNat_lt g152) rfl ty9) (QK.run rfl (.guard 2 40 true rfl rfl (gT g150)) rfl (q_gtrS rfl rfl rfl) ?_)))))))))))))))
         refine QK.run rfl (.guard 2 40 true rfl rfl (gT g150)) rfl (q_move rfl rfl) (QK.run rfl (.guard 15 53 false rfl rfl (gF g153)) rfl (q_move rfl rfl) (QK.run rfl (.guard 15 53 false rfl rfl (gF g153)) rfl (q_move rfl rfl) (QK.run rfl (.guard 15 53 false rfl rfl (gF g153)) rfl (q_sub rfl rfl rfl) (QK.run rfl (.guard 15 53 false rfl rfl (gF g153)) rfl (q_index_own rfl rfl rfl sl29 g154.1 g154.2) (QK.run rfl (.guard 15 53 false rfl rfl (gF g153)) rfl (q_field_aptr rfl rfl fd32_0) (QK.run rfl (.guard 15 53 false rfl rfl (gF g153)) rfl (q_load_aptr rfl rfl rfl (toNat_lt g154) rfl ty9) (QK.run rfl (.guard 15 53 false rfl rfl (gF g153)) rfl (q_move rfl rfl) (QK.run rfl (.guard 15 53 false rfl rfl (gF g153)) rfl (q_move rfl rfl) (QK.run rfl (.guard 15 53 false rfl rfl (gF g153)) rfl (q_index_own rfl rfl rfl sl29 g155.1 g155.2) (QK.run rfl (.guard 15 53 false rfl rfl (gF g153)) rfl (q_field_aptr rfl rfl fd32_0) (QK.run rfl (.guard 15 53 false rfl rfl (gF g153)) rfl (q_load_aptr rfl rfl rfl (toNat_lt g155) rfl ty9) (QK.run rfl (.guard 15 53 false rfl rfl (gF g153)) rfl (q_eqlS rfl rfl rfl) (QK.run rfl (.guard 15 53 false rfl rfl (gF g153)) rfl (q_move rfl rfl) (QK.run rfl (.guard 28 66 true rfl rfl (gT g156)) rfl (q_move rfl rfl) (QK.run rfl (.guard 28 66 true rfl rfl (gT g156)) rfl (q_move rfl rfl) ?_)))))))))))))))
         refine QK.run rfl (.guard 28 66 true rfl rfl (gT g156)) rfl (q_sub rfl rfl rfl) (QK.run rfl (.guard 28 66 true rfl rfl (gT g156)) rfl (q_index_own rfl rfl rfl sl29 g157.1 g157.2) (QK.run rfl (.guard 28 66 true rfl rfl (gT g156)) rfl (q_field_aptr rfl rfl fd32_1) (QK.run rfl (.guard 28 66 true rfl rfl (gT g156)) rfl (q_load_aptr rfl rfl rfl (toNat_lt g157) rfl ty9) (QK.run rfl (.guard 28 66 true rfl rfl (gT g156)) rfl (q_move rfl rfl) (QK.run rfl (.guard 28 66 true rfl rfl (gT g156)) rfl (q_move rfl rfl) (QK.run rfl (.guard 28 66 true rfl rfl (gT g156)) rfl (q_index_own rfl rfl rfl sl29 g158.1 g158.2) (QK.run rfl (.guard 28 66 true rfl rfl (gT g156)) rfl (q_field_aptr rfl rfl fd32_1) (QK.run rfl (.guard 28 66 true rfl rfl (gT g156)) rfl (q_load_aptr rfl rfl rfl (toNat_lt g158) rfl ty9) (QK.run rfl (.guard 28 66 true rfl rfl (gT g156)) rfl (q_gtrS rfl rfl rfl) (QK.run rfl (.guard 15 53 false rfl rfl (gF g153)) rfl (q_pick_t rfl rfl g156 rfl) (QK.run rfl (.guard 2 40 true rfl rfl (gT g150)) rfl (q_pick_f rfl rfl g153 rfl) (qr rfl rfl (q_pick_t rfl rfl g150 rfl) (QK.nil (SOps.sub (st' := ⟨[(3, .c (.own 0 o0_128.length)), (7, ci j_127), (33, ci (((o0_1).length : Int))), (34, ci t34_55), (81, .c (.bool ((!(sLt ((o0_128.getD ((IntKind.wrap .i64 (j_127 - 1)).toNat) dSPosition).Party) ((o0_128.getD j_127.toNat dSPosition).Party) || sEq ((o0_128.getD ((IntKind.wrap .i64 (j_127 - 1)).toNat) dSPosition).Party) ((o0_128.getD j_127.toNat dSPosition).Party))))))], [aSPosition 32 o0_128]⟩) (sub_gen [0] rfl rfl (zall rfl rfl) ⟨oa rfl, trivial⟩) (SOps.nil ?_)))))))))))))))
         rcases cond_out h with ⟨g159, h⟩ | ⟨g159, h⟩
         ·refine SCode.cond_t rfl g159 (SCode.skip ?_)
          exact ⟨(), h, sub_gen [0] rfl rfl (zall rfl rfl) ⟨oa rfl, trivial⟩⟩
         refine SCode.cond_f rfl g159 (SCode.exit ?_)
         exact ⟨o0_128, h, sub_gen [0] rfl rfl (zall rfl rfl) ⟨oa rfl, trivial⟩⟩
        refine SCode.drawK mixed [[], [0], [0, 1], [0, 1, 2], [0, 1, 2], [0, 1, 2, 4], [0, 1, 2, 3, 4, 5], [0, 1, 2, 3, 4, 5, 6], [0, 1, 2, 3, 4, 5, 6, 7], [0, 1, 2], [0, 1, 2], [0, 1, 2, 9, 10], [0, 1, 2, 9, 10, 11], [0, 1, 2, 9, 10, 11, 12], [0, 1, 2, 3, 4, 5, 6, 7, 8, 9, 10, 11, 12, 13], [0, 1, 2, 3, 4, 5, 6, 7, 8, 9, 10, 11, 12, 13, 14], [0, 1, 2, 3, 4, 5, 6, 7, 8, 9, 10, 11, 12, 13, 14, 15], [0, 1, 2, 3, 4, 5, 6, 7, 8, 9, 10, 11, 12, 13, 14, 15], [0, 1, 2, 3, 4, 5, 6, 7, 8, 9, 10, 11, 12, 13, 14, 15, 17], [0, 1, 2, 3, 4, 5, 6, 7, 8, 9, 10, 11, 12, 13, 14, 15, 16, 17, 18], [0, 1, 2, 3, 4, 5, 6, 7, 8, 9, 10, 11, 12, 13, 14, 15, 16, 17, 18, 19], [0, 1, 2, 3, 4, 5, 6, 7, 8, 9, 10, 11, 12, 13, 14, 15, 16, 17, 18, 19, 20], [0, 1, 2, 3, 4, 5, 6, 7, 8, 9, 10, 11, 12, 13, 14, 15], [0, 1, 2, 3, 4, 5, 6, 7, 8, 9, 10, 11, 12, 13, 14, 15], [0, 1, 2, 3, 4, 5, 6, 7, 8, 9, 10, 11, 12, 13, 14, 15, 22, 23], [0, 1, 2, 3, 4, 5, 6, 7, 8, 9, 10, 11, 12, 13, 14, 15, 22, 23, 24], [0, 1, 2, 3, 4, 5, 6, 7, 8, 9, 10, 11, 12, 13, 14, 15, 22, 23, 24, 25], [0, 1, 2, 3, 4, 5, 6, 7, 8, 9, 10, 11, 12, 13, 14, 15, 16, 17, 18, 19, 20, 21, 22, 23, 24, 25, 26], [0, 1, 2, 3, 4, 5, 6, 7, 8, 9, 10, 11, 12, 13, 14, 15, 16, 17, 18, 19, 20, 21, 22, 23, 24, 25, 26, 27], [0, 1, 2, 3, 4, 5, 6, 7, 8, 9, 10, 11, 12, 13, 14, 15, 16, 17, 18, 19, 20, 21, 22, 23, 24, 25, 26, 27, 28], [0, 1, 2, 3, 4, 5, 6, 7, 8, 9, 10, 11, 12, 13, 14, 15, 16, 17, 18, 19, 20, 21, 22, 23, 24, 25, 26, 27, 28], [0, 1, 2, 3, 4, 5, 6, 7, 8, 9, 10, 11, 12, 13, 14, 15, 16, 17, 18, 19, 20, 21, 22, 23, 24, 25, 26, 27, 28, 30], [0, 1, 2, 3, 4, 5, 6, 7, 8, 9, 10, 11, 12, 13, 14, 15, 16, 17, 18, 19, 20, 21, 22, 23, 24, 25, 26, 27, 28, 29, 30, 31], [0, 1, 2, 3, 4, 5, 6, 7, 8, 9, 10, 11, 12, 13, 14, 15, 16, 17, 18, 19, 20, 21, 22, 23, 24, 25, 26, 27, 28, 29, 30, 31, 32], [0, 1, 2, 3, 4, 5, 6, 7, 8, 9, 10, 11, 12, 13, 14, 15, 16, 17, 18, 19, 20, 21, 22, 23, 24, 25, 26, 27, 28, 29, 30, 31, 32, 33], [0, 1, 2, 3, 4, 5, 6, 7, 8, 9, 10, 11, 12, 13, 14, 15, 16, 17, 18, 19, 20, 21, 22, 23, 24, 25, 26, 27, 28], [0, 1, 2, 3, 4, 5, 6, 7, 8, 9, 10, 11, 12, 13, 14, 15, 16, 17, 18, 19, 20, 21, 22, 23, 24, 25, 26, 27, 28], [0, 1, 2, 3, 4, 5, 6, 7, 8, 9, 10, 11, 12, 13, 14, 15, 16, 17, 18, 19, 20, 21, 22, 23, 24, 25, 26, 27, 28, 35, 36], [0, 1, 2, 3, 4, 5, 6, 7, 8, 9, 10, 11, 12, 13, 14, 15, 16, 17, 18, 19, 20, 21, 22, 23, 24, 25, 26, 27, 28, 35, 36, 37], [0, 1, 2, 3, 4, 5, 6, 7, 8, 9, 10, 11, 12, 13, 14, 15, 16, 17, 18, 19, 20, 21, 22, 23, 24, 25, 26, 27, 28, 35, 36, 37, 38], [0, 1, 2, 3, 4, 5, 6, 7, 8, 9, 10, 11, 12, 13, 14, 15, 16, 17, 18, 19, 20, 21, 22, 23, 24, 25, 26, 27, 28, 29, 30, 31, 32, 33, 34, 35, 36, 37, 38, 39], [0, 1, 2, 3, 4, 5, 6, 7, 8, 9, 10, 11, 12, 13, 14, 15, 16, 17, 18, 19, 20, 21, 22, 23, 24, 25, 26, 27, 28, 29, 30, 31, 32, 33, 34, 35, 36, 37, 38, 39, 40], [0, 1, 2, 3, 4, 5, 6, 7, 8, 9, 10, 11, 12, 13, 14, 15, 16, 17, 18, 19, 20, 21, 22, 23, 24, 25, 26, 27, 28, 29, 30, 31, 32, 33, 34, 35, 36, 37, 38, 39, 40, 41], [0, 1, 2, 3, 4, 5, 6, 7, 8, 9, 10, 11, 12, 13, 14, 15, 16, 17, 18, 19, 20, 21, 22, 23, 24, 25, 26, 27, 28, 29, 30, 31, 32, 33, 34, 35, 36, 37, 38, 39, 40, 41, 42]] 44 0 rfl rfl (qm rfl rfl (qr rfl rfl (q_gtr rfl rfl rfl) (qm rfl rfl (QK.run rfl (.guard 2 40 true rfl rfl (gT g150)) rfl (q_move rfl rfl) (QK.run rfl (.guard 2 40 true rfl rfl (gT g150)) rfl (q_move rfl rfl) (QK.run rfl (.guard 2 40 true rfl rfl (gT g150)) rfl (q_sub rfl rfl rfl) (QK.run rfl (.guard 2 40 true rfl rfl (gT g150)) rfl (q_index_own rfl rfl rfl sl29 g151.1 g151.2) (QK.run rfl (.guard 2 40 true rfl rfl (gT g150)) rfl (q_field_aptr rfl rfl fd32_0) (QK.run rfl (.guard 2 40 true rfl rfl (gT g150)) rfl (q_load_aptr rfl rfl rfl (toNat_lt g151) rfl ty9) (QK.run rfl (.guard 2 40 true rfl rfl (gT g150)) rfl (q_move rfl rfl) (QK.run rfl (.guard 2 40 true rfl rfl (gT g150)) rfl (q_move rfl rfl) (QK.run rfl (.guard 2 40 true rfl rfl (gT g150)) rfl (q_index_own rfl rfl rfl sl29 g152.1 g152.2) (QK.run rfl (.guard 2 40 true rfl rfl (gT g150)) rfl (q_field_aptr rfl rfl fd32_0) (QK.run rfl (.guard 2 40 true rfl rfl (gT g150)) rfl (q_load_aptr rfl rfl rfl (toNat_lt g152) rfl ty9) (QK.run rfl (.guard 2 40 true rfl rfl (gT g150)) rfl (q_gtrS rfl rfl rfl) ?_)))))))))))))))
        refine QK.run rfl (.guard 2 40 true rfl rfl (gT g150)) rfl (q_move rfl rfl) (QK.run rfl (.guard 15 53 false rfl rfl (gF g153)) rfl (q_move rfl rfl) (QK.run rfl (.guard 15 53 false rfl rfl (gF g153)) rfl (q_move rfl rfl) (QK.run rfl (.guard 15 53 false rfl rfl (gF g153)) rfl (q_sub rfl rfl rfl) (QK.run rfl (.guard 15 53 false rfl rfl (gF g153)) rfl (q_index_own rfl rfl rfl sl29 g154.1 g154.2) (QK.run rfl (.guard 15 53 false rfl rfl (gF g153)) rfl (q_field_aptr rfl rfl fd32_0) (QK.run rfl (.guard 15 53 false rfl rfl (gF g153)) rfl (q_load_aptr rfl rfl rfl (toNat_lt g154) rfl ty9) (QK.run rfl (.guard 15 53 false rfl rfl (gF g153)) rfl (q_move rfl rfl) (QK.run rfl (.guard 15 53 false rfl rfl (gF g153)) rfl (q_move rfl rfl) (QK.run rfl (.guard 15 53 false rfl rfl (gF g153)) rfl (q_index_own rfl rfl rfl sl29 g155.1 g155.2) (QK.run rfl (.guard 15 53 false rfl rfl (gF g153)) rfl (q_field_aptr rfl rfl fd32_0) (QK.run rfl (.guard 15 53 false rfl rfl (gF g153)) rfl (q_load_aptr rfl rfl rfl (toNat_lt g155) rfl ty9) (QK.run rfl (.guard 15 53 false rfl rfl (gF g153)) rfl (q_eqlS rfl rfl rfl) (QK.run rfl (.guard 15 53 false rfl rfl (gF g153)) rfl (q_move rfl rfl) (QK.skip rfl ⟨28, 66, true, rfl, rfl, (.inl (gF g156))⟩ rfl (QK.skip rfl ⟨28, 66, true, rfl, rfl, (.inl (gF g156))⟩ rfl ?_)))))))))))))))
        refine QK.skip rfl ⟨28, 66, true, rfl, rfl, (.inl (gF g156))⟩ rfl (QK.skip rfl ⟨28, 66, true, rfl, rfl, (.inl (gF g156))⟩ rfl (QK.skip rfl ⟨28, 66, true, rfl, rfl, (.inl (gF g156))⟩ rfl (QK.skip rfl ⟨28, 66, true, rfl, rfl, (.inl (gF g156))⟩ rfl (QK.skip rfl ⟨28, 66, true, rfl, rfl, (.inl (gF g156))⟩ rfl (QK.skip rfl ⟨28, 66, true, rfl, rfl, (.inl (gF g156))⟩ rfl (QK.skip rfl ⟨28, 66, true, rfl, rfl, (.inl (gF g156))⟩ rfl (QK.skip rfl ⟨28, 66, true, rfl, rfl, (.inl (gF g156))⟩ rfl (QK.skip rfl ⟨28, 66, true, rfl, rfl, (.inl (gF g156))⟩ rfl (QK.skip rfl ⟨28, 66, true, rfl, rfl, (.inl (gF g156))⟩ rfl (QK.run rfl (.guard 15 53 false rfl rfl (gF g153)) rfl (q_pick_f rfl rfl g156 rfl) (QK.run rfl (.guard 2 40 true rfl rfl (gT g150)) rfl (q_pick_f rfl rfl g153 rfl) (qr rfl rfl (q_pick_t rfl rfl g150 rfl) (QK.nil (SOps.sub (st' := ⟨[(3, .c (.own 0 o0_128.length)), (7, ci j_127), (33, ci (((o0_1).length : Int))), (34, ci t34_55), (81, .c (.bool false))], [aSPosition 32 o0_128]⟩) (sub_gen [0] rfl rfl (zall rfl rfl) ⟨oa rfl, trivial⟩) (SOps.nil ?_)))))))))))))))
        refine SCode.cond_f rfl rfl (SCode.exit ?_)
        exact ⟨o0_128, h, sub_gen [0] rfl rfl (zall rfl rfl) ⟨oa rfl, trivial⟩⟩
       refine SCode.drawK mixed [[], [0], [0, 1], [0, 1, 2], [0, 1, 2], [0, 1, 2, 4], [0, 1, 2, 3, 4, 5], [0, 1, 2, 3, 4, 5, 6], [0, 1, 2, 3, 4, 5, 6, 7], [0, 1, 2], [0, 1, 2], [0, 1, 2, 9, 10], [0, 1, 2, 9, 10, 11], [0, 1, 2, 9, 10, 11, 12], [0, 1, 2, 3, 4, 5, 6, 7, 8, 9, 10, 11, 12, 13], [0, 1, 2, 3, 4, 5, 6, 7, 8, 9, 10, 11, 12, 13, 14], [0, 1, 2, 3, 4, 5, 6, 7, 8, 9, 10, 11, 12, 13, 14, 15], [0, 1, 2, 3, 4, 5, 6, 7, 8, 9, 10, 11, 12, 13, 14, 15], [0, 1, 2, 3, 4, 5, 6, 7, 8, 9, 10, 11, 12, 13, 14, 15, 17], [0, 1, 2, 3, 4, 5, 6, 7, 8, 9, 10, 11, 12, 13, 14, 15, 16, 17, 18], [0, 1, 2, 3, 4, 5, 6, 7, 8, 9, 10, 11, 12, 13, 14, 15, 16, 17, 18, 19], [0, 1, 2, 3, 4, 5, 6, 7, 8, 9, 10, 11, 12, 13, 14, 15, 16, 17, 18, 19, 20], [0, 1, 2, 3, 4, 5, 6, 7, 8, 9, 10, 11, 12, 13, 14, 15], [0, 1, 2, 3, 4, 5, 6, 7, 8, 9, 10, 11, 12, 13, 14, 15], [0, 1, 2, 3, 4, 5, 6, 7, 8, 9, 10, 11, 12, 13, 14, 15, 22, 23], [0, 1, 2, 3, 4, 5, 6, 7, 8, 9, 10, 11, 12, 13, 14, 15, 22, 23, 24], [0, 1, 2, 3, 4, 5, 6, 7, 8, 9, 10, 11, 12, 13, 14, 15, 22, 23, 24, 25], [0, 1, 2, 3, 4, 5, 6, 7, 8, 9, 10, 11, 12, 13, 14, 15, 16, 17, 18, 19, 20, 21, 22, 23, 24, 25, 26], [0, 1, 2, 3, 4, 5, 6, 7, 8, 9, 10, 11, 12, 13, 14, 15, 16, 17, 18, 19, 20, 21, 22, 23, 24, 25, 26, 27], [0, 1, 2, 3, 4, 5, 6, 7, 8, 9, 10, 11, 12, 13, 14, 15, 16, 17, 18, 19, 20, 21, 22, 23, 24, 25, 26, 27, 28], [0, 1, 2, 3, 4, 5, 6, 7, 8, 9, 10, 11, 12, 13, 14, 15, 16, 17, 18, 19, 20, 21, 22, 23, 24, 25, 26, 27, 28], [0, 1, 2, 3, 4, 5, 6, 7, 8, 9, 10, 11, 12, 13, 14, 15, 16, 17, 18, 19, 20, 21, 22, 23, 24, 25, 26, 27, 28, 30], [0, 1, 2, 3, 4, 5, 6, 7, 8, 9, 10, 11, 12, 13, 14, 15, 16, 17, 18, 19, 20, 21, 22, 23, 24, 25, 26, 27, 28, 29, 30, 31], [0, 1, 2, 3, 4, 5, 6, 7, 8, 9, 10, 11, 12, 13, 14, 15, 16, 17, 18, 19, 20, 21, 22, 23, 24, 25, 26, 27, 28, 29, 30, 31, 32], [0, 1, 2, 3, 4, 5, 6, 7, 8, 9, 10, 11, 12, 13, 14, 15, 16, 17, 18, 19, 20, 21, 22, 23, 24, 25, 26, 27, 28, 29, 30, 31, 32, 33], [0, 1, 2, 3, 4, 5, 6, 7, 8, 9, 10, 11, 12, 13, 14, 15, 16, 17, 18, 19, 20, 21, 22, 23, 24, 25, 26, 27, 28], [0, 1, 2, 3, 4, 5, 6, 7, 8, 9, 10, 11, 12, 13, 14, 15, 16, 17, 18, 19, 20, 21, 22, 23, 24, 25, 26, 27, 28], [0, 1, 2, 3, 4, 5, 6, 7, 8, 9, 10, 11, 12, 13, 14, 15, 16, 17, 18, 19, 20, 21, 22, 23, 24, 25, 26, 27, 28, 35, 36], [0, 1, 2, 3, 4, 5, 6, 7, 8, 9, 10, 11, 12, 13, 14, 15, 16, 17, 18, 19, 20, 21, 22, 23, 24, 25, 26, 27, 28, 35, 36, 37], [0, 1, 2, 3, 4, 5, 6, 7, 8, 9, 10, 11, 12, 13, 14, 15, 16, 17, 18, 19, 20, 21, 22, 23, 24, 25, 26, 27, 28, 35, 36, 37, 38], [0, 1, 2, 3, 4, 5, 6, 7, 8, 9, 10, 11, 12, 13, 14, 15, 16, 17, 18, 19, 20, 21, 22, 23, 24, 25, 26, 27, 28, 29, 30, 31, 32, 33, 34, 35, 36, 37, 38, 39], [0, 1, 2, 3, 4, 5, 6, 7, 8, 9, 10, 11, 12, 13, 14, 15, 16, 17, 18, 19, 20, 21, 22, 23, 24, 25, 26, 27, 28, 29, 30, 31, 32, 33, 34, 35, 36, 37, 38, 39, 40], [0, 1, 2, 3, 4, 5, 6, 7, 8, 9, 10, 11, 12, 13, 14, 15, 16, 17, 18, 19, 20, 21, 22, 23, 24, 25, 26, 27, 28, 29, 30, 31, 32, 33, 34, 35, 36, 37, 38, 39, 40, 41], [0, 1, 2, 3, 4, 5, 6, 7, 8, 9, 10, 11, 12, 13, 14, 15, 16, 17, 18, 19, 20, 21, 22, 23, 24, 25, 26, 27, 28, 29, 30, 31, 32, 33, 34, 35, 36, 37, 38, 39, 40, 41, 42]] 44 0 rfl rfl (qm rfl rfl (qr rfl rfl (q_gtr rfl rfl rfl) (qm rfl rfl (QK.skip rfl ⟨2, 40, true, rfl, rfl, (.inl (gF g150))⟩ rfl (QK.skip rfl ⟨2, 40, true, rfl, rfl, (.inl (gF g150))⟩ rfl (QK.skip rfl ⟨2, 40, true, rfl, rfl, (.inl (gF g150))⟩ rfl (QK.skip rfl ⟨2, 40, true, rfl, rfl, (.inl (gF g150))⟩ rfl (QK.skip rfl ⟨2, 40, true, rfl, rfl, (.inl (gF g150))⟩ rfl (QK.skip rfl ⟨2, 40, true, rfl, rfl, (.inl (gF g150))⟩ rfl (QK.skip rfl ⟨2, 40, true, rfl, rfl, (.inl (gF g150))⟩ rfl (QK.skip rfl ⟨2, 40, true, rfl, rfl, (.inl (gF g150))⟩ rfl (QK.skip rfl ⟨2, 40, true, rfl, rfl, (.inl (gF g150))⟩ rfl (QK.skip rfl ⟨2, 40, true, rfl, rfl, (.inl (gF g150))⟩ rfl (QK.skip rfl ⟨2, 40, true, rfl, rfl, (.inl (gF g150))⟩ rfl (QK.skip rfl ⟨2, 40, true, rfl, rfl, (.inl (gF g150))⟩ rfl ?_)))))))))))))))
       refine QK.skip rfl ⟨2, 40, true, rfl, rfl, (.inl (gF g150))⟩ rfl (QK.skip rfl ⟨15, 53, false, rfl, rfl, (.inr rfl)⟩ rfl (QK.skip rfl ⟨15, 53, false, rfl, rfl, (.inr rfl)⟩ rfl (QK.skip rfl ⟨15, 53, false, rfl, rfl, (.inr rfl)⟩ rfl (QK.skip rfl ⟨15, 53, false, rfl, rfl, (.inr rfl)⟩ rfl (QK.skip rfl ⟨15, 53, false, rfl, rfl, (.inr rfl)⟩ rfl (QK.skip rfl ⟨15, 53, false, rfl, rfl, (.inr rfl)⟩ rfl (QK.skip rfl ⟨15, 53, false, rfl, rfl, (.inr rfl)⟩ rfl (QK.skip rfl ⟨15, 53, false, rfl, rfl, (.inr rfl)⟩ rfl (QK.skip rfl ⟨15, 53, false, rfl, rfl, (.inr rfl)⟩ rfl (QK.skip rfl ⟨15, 53, false, rfl, rfl, (.inr rfl)⟩ rfl (QK.skip rfl ⟨15, 53, false, rfl, rfl, (.inr rfl)⟩ rfl (QK.skip rfl ⟨15, 53, false, rfl, rfl, (.inr rfl)⟩ rfl (QK.skip rfl ⟨15, 53, false, rfl, rfl, (.inr rfl)⟩ rfl (QK.skip rfl ⟨28, 66, true, rfl, rfl, (.inr rfl)⟩ rfl (QK.skip rfl ⟨28, 66, true, rfl, rfl, (.inr rfl)⟩ rfl ?_)))))))))))))))
       refine QK.skip rfl ⟨28, 66, true, rfl, rfl, (.inr rfl)⟩ rfl (QK.skip rfl ⟨28, 66, true, rfl, rfl, (.inr rfl)⟩ rfl (QK.skip rfl ⟨28, 66, true, rfl, rfl, (.inr rfl)⟩ rfl (QK.skip rfl ⟨28, 66, true, rfl, rfl, (.inr rfl)⟩ rfl (QK.skip rfl ⟨28, 66, true, rfl, rfl, (.inr rfl)⟩ rfl (QK.skip rfl ⟨28, 66, true, rfl, rfl, (.inr rfl)⟩ rfl (QK.skip rfl ⟨28, 66, true, rfl, rfl, (.inr rfl)⟩ rfl (QK.skip rfl ⟨28, 66, true, rfl, rfl, (.inr rfl)⟩ rfl (QK.skip rfl ⟨28, 66, true, rfl, rfl, (.inr rfl)⟩ rfl (QK.skip rfl ⟨28, 66, true, rfl, rfl, (.inr rfl)⟩ rfl (QK.skip rfl ⟨15, 53, false, rfl, rfl, (.inr rfl)⟩ rfl (QK.skip rfl ⟨2, 40, true, rfl, rfl, (.inl (gF g150))⟩ rfl (qr rfl rfl (q_pick_f rfl rfl g150 rfl) (QK.nil (SOps.sub (st' := ⟨[(3, .c (.own 0 o0_128.length)), (7, ci j_127), (33, ci (((o0_1).length : Int))), (34, ci t34_55), (81, .c (.bool false))], [aSPosition 32 o0_128]⟩) (sub_gen [0] rfl rfl (zall rfl rfl) ⟨oa rfl, trivial⟩) (SOps.nil ?_)))))))))))))))
       refine SCode.cond_f rfl rfl (SCode.exit ?_)
       exact ⟨o0_128, h, sub_gen [0] rfl rfl (zall rfl rfl) ⟨oa rfl, trivial⟩⟩
      rintro ⟨⟩ h
      show SCode _ _ _ S54 _
      try dsimp only at h
      unfold chargenetref49_Positions_p149 at h
      refine SCode.seq (SCode.block ?_)
      obtain ⟨g145, h⟩ := guard_out h
      obtain ⟨g146, h⟩ := guard_out h
      obtain ⟨g147, h⟩ := guard_out h
      obtain ⟨g148, h⟩ := guard_out h
      let ob215 : Ob := aSPosition 32 (o0_128.set ((IntKind.wrap .i64 (j_127 - 1)).toNat) (o0_128.getD j_127.toNat dSPosition))
      let ob216 : Ob := aSPosition 32 ((o0_128.set ((IntKind.wrap .i64 (j_127 - 1)).toNat) (o0_128.getD j_127.toNat dSPosition)).set j_127.toNat (o0_128.getD ((IntKind.wrap .i64 (j_127 - 1)).toNat) dSPosition))
      let y1 := IntKind.wrap .i64 (j_127 - 1)
      let y2 := (o0_128.set (y1.toNat) (o0_128.getD j_127.toNat dSPosition)).set j_127.toNat (o0_128.getD (y1.toNat) dSPosition)
      refine SCode.draw2 (sH := [(98, .c (.aptr 0 3 (y1.toNat) 0)), (97, .a (bSPosition (o0_128.getD (y1.toNat) dSPosition))), (96, .c (.aptr 0 3 (y1.toNat) 0)), (95, ci y1), (94, ci j_127), (93, .c (.own 0 o0_128.length)), (92, .a (bSPosition (o0_128.getD j_127.toNat dSPosition))), (91, .c (.aptr 0 3 j_127.toNat 0)), (90, ci j_127), (89, .c (.own 0 o0_128.length)), (88, ci j_127), (87, .c (.own 0 o0_128.length)), (86, ci y1), (85, ci j_127), (84, .c (.own 0 o0_128.length)), (3, .c (.own 0 o0_128.length)), (7, ci j_127), (33, ci (((o0_1).length : Int))), (34, ci t34_55)]) mixed [[], [], [1], [], [], [], [], [5, 6], [5, 6, 7], [], [], [10], [9, 10, 11], [9, 10, 11, 12], [0, 1, 2, 5, 6, 7, 8, 9, 10, 11, 12, 13], [0, 1, 2, 5, 6, 7, 8, 9, 10, 11, 12, 13, 14], [0, 1, 2, 3, 4, 5, 6, 7, 8, 9, 10, 11, 12, 13, 14, 15], [0, 1, 2, 3, 4, 5, 6, 7, 8, 9, 10, 11, 12, 13, 14, 15, 16]] [15, 16, 17] (fun h => List.getD [[], [], [], [0], [0]] h []) rfl ?_ ⟨[(3, .c (.own 0 y2.length)), (7, ci j_127), (33, ci (((o0_1).length : Int))), (34, ci t34_55)], [aSPosition 32 y2]⟩ ?_ ?_
      ·refine HChain.run rfl rfl (.plain rfl) rfl (fun f x => q_move rfl rfl) (HChain.run rfl rfl (.plain rfl) rfl (fun f x => q_move rfl rfl) (HChain.run rfl rfl (.plain rfl) rfl (fun f x => q_sub rfl rfl rfl) (HChain.run rfl rfl (.plain rfl) rfl (fun f x => q_move rfl rfl) (HChain.run rfl rfl (.plain rfl) rfl (fun f x => q_move rfl rfl) (HChain.run rfl rfl (.plain rfl) rfl (fun f x => q_move rfl rfl) (HChain.run rfl rfl (.plain rfl) rfl (fun f x => q_move rfl rfl) (HChain.run rfl rfl (.plain rfl) rfl (fun f x => q_index_own rfl rfl rfl sl29 g145.1 g145.2) (HChain.run rfl rfl (.plain rfl) rfl (fun f x => q_load_aptr_all rfl rfl rfl (toNat_lt g145) rfl ty32) (HChain.run rfl rfl (.plain rfl) rfl (fun f x => q_move rfl rfl) (HChain.run rfl rfl (.plain rfl) rfl (fun f x => q_move rfl rfl) (HChain.run rfl rfl (.plain rfl) rfl (fun f x => q_sub rfl rfl rfl) (HChain.run rfl rfl (.plain rfl) rfl (fun f x => q_index_own rfl rfl rfl sl29 g146.1 g146.2) (HChain.run rfl rfl (.plain rfl) rfl (fun f x => q_load_aptr_all rfl rfl rfl (toNat_lt g146) rfl ty32) (HChain.run rfl rfl (.plain rfl) rfl (fun f x => q_index_own rfl rfl rfl sl29 g147.1 g147.2) (HChain.tail rfl ?_)))))))))))))))
       refine HChain.tail rfl (HChain.tail rfl ?_)
       exact HChain.nil _ _
      ·refine t1 15 rfl (TStep.n (objs' := [ob215]) [0] rfl rfl rfl rfl (fun s2 => by refine EOp.eq (e_storeL (o0_128.getD j_127.toNat dSPosition) rfl rfl rfl rfl rfl (toNat_lt g147) ty32 rfl rfl rfl rfl rfl rfl) ?_; rfl) ⟨rfl, ⟨trivial, .inl rfl⟩, ?_⟩)
       refine t1 16 rfl (td (objs' := [ob215]) (v := .c (.aptr 0 3 j_127.toNat 0)) 99 rfl rfl rfl rfl rfl (fun _ => EOp.eq (EOp.qd rfl rfl (q_index_own rfl rfl rfl sl29 g148.1 (lenlt (List.length_set : (o0_128.set ((IntKind.wrap .i64 (j_127 - 1)).toNat) (o0_128.getD j_127.toNat dSPosition)).length = o0_128.length) g148.2))) rfl) rfl rfl ?_)
       refine t1 17 rfl (TStep.n (objs' := [ob216]) [0] rfl rfl rfl rfl (fun s2 => by refine EOp.eq (e_storeL (o0_128.getD ((IntKind.wrap .i64 (j_127 - 1)).toNat) dSPosition) rfl rfl rfl rfl rfl (toNat_lt g148) ty32 rfl rfl rfl rfl rfl rfl) ?_; rfl) ⟨rfl, ⟨trivial, .inl rfl⟩, ?_⟩)
       let y3 := o0_128.set ((IntKind.wrap .i64 (j_127 - 1)).toNat) (o0_128.getD j_127.toNat dSPosition)
       exact tl rfl (sub_gen [0] rfl rfl ⟨⟨_, rfl, .inl ⟨rfl, congrArg (Cell.own 0) ((List.length_set : (y3.set j_127.toNat (o0_128.getD ((IntKind.wrap .i64 (j_127 - 1)).toNat) dSPosition)).length = y3.length).trans (List.length_set : y3.length = o0_128.length)).symm⟩⟩, zc rfl rfl, zc rfl rfl, zc rfl rfl, trivial⟩ ⟨oa rfl, trivial⟩)
      refine SCode.region (sm rfl rfl (sq rfl rfl (q_sub rfl rfl rfl) (sa rfl rfl (SOps.nil ?_))))
      exact ⟨(n_144, (IntKind.wrap .i64 (j_127 - 1), (o0_128.set ((IntKind.wrap .i64 (j_127 - 1)).toNat) (o0_128.getD j_127.toNat dSPosition)).set j_127.toNat (o0_128.getD ((IntKind.wrap .i64 (j_127 - 1)).toNat) dSPosition))), h, Nat.lt_succ_self n_144, sub_gen [0] rfl rfl (zall rfl rfl) ⟨oa rfl, trivial⟩⟩
    rintro o0_110 h
    show SCode _ _ _ (S56 o0_110) _
    try dsimp only at h
    unfold chargenetref49_Positions_p111 at h
    refine SCode.region (sq rfl rfl (q_add rfl rfl rfl) (sm rfl rfl (SOps.nil ?_)))
    exact ⟨(n_108, (IntKind.wrap .i64 (t34_55 + 1), o0_110)), h, Nat.lt_succ_self n_108, sub_gen [0] rfl rfl (zall rfl rfl) ⟨oa rfl, trivial⟩⟩
   refine SCode.cond_f rfl g109 (SCode.exit ?_)
   exact ⟨o0_56, h, sub_gen [0] rfl rfl (zall rfl rfl) ⟨oa rfl, trivial⟩⟩
 rintro o0_2 h
 show SCode _ _ _ (S58 o0_2) _
 try dsimp only at h
 unfold chargenetref49_Positions_p3 at h
 refine SCode.seq (SCode.region (sm rfl rfl (sa rfl rfl (SOps.nil (SCode.ret ?_)))))
 obtain rfl := Option.some.inj h
 exact ⟨⟨[(2, .c (vSPosition o0_2))], []⟩, _, sub_gen [] rfl rfl ⟨⟨_, rfl, .inr (.inl ⟨_, _, _, _, _, _, _, rfl, rfl, rfl, Nat.le_refl _, fun _ _ _ _ => rfl, nm rfl⟩)⟩, trivial⟩ trivial, resA1 (v := .c (vSPosition o0_2)) rfl rfl, rfl⟩
theorem chargenetlaw49_position_ok (F : Nat) (a0_l : List SPosition) (a1_currency : ByteArray) (a2_party : ByteArray) (r : Int) (h : chargenetlaw49_position F a0_l a1_currency a2_party = some r) :
  SFun Try.prog 13 [] [.c (vSPosition a0_l), .c (.str a1_currency), .c (.str a2_party)] (fun x _ => x = ci r) := by
 refine SFun.of (n := 28) Try.func13 rfl rfl rfl ?_
 unfold chargenetlaw49_position at h
 show SCode _ _ _ ⟨[(0, .c (vSPosition a0_l)), (1, .c (.str a1_currency)), (2, .c (.str a2_party))], []⟩ _
 refine SCode.seq (SCode.region (sa rfl rfl (SOps.nil ?_)))
 let S9 := (⟨[], []⟩ : St)
 refine SCode.join (σ := Unit) (S := fun s => S9) (g := fun s => chargenetlaw49_position_p1 = some r) ?_ ?_
 rotate_left
 ·refine SCode.seq (SCode.region (sm rfl rfl (sq rfl rfl (q_len_vec rfl rfl sl29) (sm rfl rfl (SOps.nil (SCode.block ?_))))))
  let S8 := fun (t11_7 : Int) => (⟨[(1, .c (.str a1_currency)), (2, .c (.str a2_party)), (9, .c (vSPosition a0_l)), (10, ci (((a0_l).length : Int))), (11, ci t11_7)], []⟩ : St)
  refine SCode.sub (st' := (S8 0)) (sub_gen [] rfl rfl (zall rfl rfl) trivial) ?_
  refine (SCode.loop (σ := Nat × Int) (S := fun s => (S8 s.2)) (g := fun s => chargenetlaw49_position_l13 a0_l a1_currency a2_party s.1 s.2 = some r) (μ := fun s => s.1) (F, 0) h ?_)
  rintro ⟨n_13, t11_7⟩ h
  try dsimp only at h
  show SCode _ _ _ (S8 t11_7) _
  cases n_13 with
  | zero => cases h
  | succ n_13 =>
   rw [chargenetlaw49_position_l13] at h
   unfold chargenetlaw49_position_b13 at h
   refine SCode.seq (SCode.region (sq rfl rfl (q_lss rfl rfl rfl) (SOps.nil (SCode.seq ?_))))
   rcases cond_out h with ⟨g14, h⟩ | ⟨g14, h⟩
   ·refine SCode.cond_t rfl g14 (SCode.skip ?_)
    let S7 := (⟨[(1, .c (.str a1_currency)), (2, .c (.str a2_party)), (9, .c (vSPosition a0_l)), (10, ci (((a0_l).length : Int))), (11, ci t11_7)], []⟩ : St)
    refine SCode.join (σ := Unit) (S := fun s => S7) (g := fun s => chargenetlaw49_position_p15 t11_7 (fun t11_7 => chargenetlaw49_position_l13 a0_l a1_currency a2_party n_13 t11_7) = some r) ?_ ?_
    rotate_left
    ·refine SCode.block (SCode.seq ?_)
     obtain ⟨g16, h⟩ := guard_out h
     refine SCode.region (sq rfl rfl (q_index_vec rfl rfl rfl sl29 rfl g16.1 g16.2) (sq rfl rfl (q_load_eptr_all rfl rfl rfl ty32) (se rfl rfl (e_alloc rfl rfl rfl z32) (se rfl rfl (e_store_box rfl rfl rfl rfl rfl ty32 rfl rfl rfl rfl) (SOps.nil (SCode.seq ?_))))))
     rcases cond_out h with ⟨g17, h⟩ | ⟨g17, h⟩
     ·refine SCode.region (sq rfl rfl (q_field_ptr rfl rfl fd32_0) (sq rfl rfl (q_load_ptr rfl rfl rfl rfl ty9) (sm rfl rfl (sq rfl rfl (q_eqlS rfl rfl rfl) (sm rfl rfl (SOps.q rfl (.guard 4 19 true rfl rfl (gT g17)) rfl (q_field_ptr rfl rfl fd32_1) (SOps.q rfl (.guard 4 19 true rfl rfl (gT g17)) rfl (q_load_ptr rfl rfl rfl rfl ty9) (SOps.q rfl (.guard 4 19 true rfl rfl (gT g17)) rfl (q_move rfl rfl) (SOps.q rfl (.guard 4 19 true rfl rfl (gT g17)) rfl (q_eqlS rfl rfl rfl) (sq rfl rfl (q_pick_t rfl rfl g17 rfl) (SOps.nil ?_)))))))))))
      rcases cond_out h with ⟨g18, h⟩ | ⟨g18, h⟩
      ·refine SCode.cond_t rfl g18 (SCode.seq (SCode.region (sq rfl rfl (q_field_ptr rfl rfl fd32_2) (sq rfl rfl (q_load_ptr rfl rfl rfl rfl ty3) (sa rfl rfl (SOps.sub (st' := ⟨[(6, ci ((a0_l.getD t11_7.toNat dSPosition).Amount))], []⟩) (sub_gen [] rfl rfl (zall rfl rfl) trivial) (SOps.nil (SCode.ret ?_))))))))
       obtain rfl := Option.some.inj h
       exact ⟨⟨[(6, ci ((a0_l.getD t11_7.toNat dSPosition).Amount))], []⟩, _, sub_gen [] rfl rfl (zall rfl rfl) trivial, resA1 (v := .c (.int .i64 ((a0_l.getD t11_7.toNat dSPosition).Amount))) rfl rfl, rfl⟩
      refine SCode.cond_f rfl g18 (SCode.skip ?_)
      exact ⟨(), h, sub_gen [] rfl rfl (zall rfl rfl) trivial⟩
     refine SCode.region (sq rfl rfl (q_field_ptr rfl rfl fd32_0) (sq rfl rfl (q_load_ptr rfl rfl rfl rfl ty9) (sm rfl rfl (sq rfl rfl (q_eqlS rfl rfl rfl) (sm rfl rfl (SOps.skip rfl 4 19 true rfl rfl (.inl (gF g17)) rfl (SOps.skip rfl 4 19 true rfl rfl (.inl (gF g17)) rfl (SOps.skip rfl 4 19 true rfl rfl (.inl (gF g17)) rfl (SOps.skip rfl 4 19 true rfl rfl (.inl (gF g17)) rfl (sq rfl rfl (q_pick_f rfl rfl g17 rfl) (SOps.nil (SCode.cond_f rfl rfl (SCode.skip ?_)))))))))))))
     exact ⟨(), h, sub_gen [] rfl rfl (zall rfl rfl) trivial⟩
    rintro ⟨⟩ h
    show SCode _ _ _ S7 _
    try dsimp only at h
    unfold chargenetlaw49_position_p15 at h
    refine SCode.region (sq rfl rfl (q_add rfl rfl rfl) (sm rfl rfl (SOps.nil ?_)))
    exact ⟨(n_13, IntKind.wrap .i64 (t11_7 + 1)), h, Nat.lt_succ_self n_13, sub_gen [] rfl rfl (zall rfl rfl) trivial⟩
   refine SCode.cond_f rfl g14 (SCode.exit ?_)
   exact ⟨(), h, sub_gen [] rfl rfl trivial trivial⟩
 rintro ⟨⟩ h
 show SCode _ _ _ S9 _
 try dsimp only at h
 unfold chargenetlaw49_position_p1 at h
 refine SCode.seq (SCode.region (sa rfl rfl (SOps.nil (SCode.ret ?_))))
 obtain rfl := Option.some.inj h
 exact ⟨⟨[(6, ci 0)], []⟩, _, sub_gen [] rfl rfl (zall rfl rfl) trivial, resA1 (v := .c (.int .i64 0)) rfl rfl, rfl⟩
theorem chargenetlaw49_SettlePositions_ok (F : Nat) (a0_l : List SBalance) (r : Bool) (h : chargenetlaw49_SettlePositions F a0_l = some r) :
  SFun Try.prog 4 [] [.c (vSBalance a0_l)] (fun x _ => x = .c (.bool r)) := by
 refine SFun.of (n := 115) Try.func4 rfl rfl rfl ?_
 unfold chargenetlaw49_SettlePositions at h
 show SCode _ _ _ ⟨[(0, .c (vSBalance a0_l))], []⟩ _
 refine SCode.seq (SCode.region (sa rfl rfl (SOps.nil (SCode.seq (SCode.seq (SCode.region (sm rfl rfl (sq rfl rfl (q_len_vec rfl rfl sl22) (sq rfl rfl (q_gtr rfl rfl rfl) (SOps.nil ?_))))))))))
 rcases cond_out h with ⟨g1, h⟩ | ⟨g1, h⟩
 ·refine SCode.cond_t rfl g1 (SCode.seq ?_)
  obtain ⟨c_2, g3, h⟩ := bind_out h
  try dsimp only at h
  refine SCode.region (sq rfl rfl (q_call (chargenetlaw49_exampleHolds_ok F  c_2 g3) [] rfl fn8 trivial (.inl rfl)) (sa rfl rfl (SOps.nil (SCode.ret ?_))))
  obtain rfl := Option.some.inj h
  exact ⟨⟨[(2, .c (.bool c_2))], []⟩, _, sub_gen [] rfl rfl (zall rfl rfl) trivial, resA1 (v := .c (.bool c_2)) rfl rfl, rfl⟩
 refine SCode.cond_f rfl g1 (SCode.skip (SCode.seq ?_))
 obtain ⟨c_4, g5, h⟩ := bind_out h
 try dsimp only at h
 refine SCode.region (sm rfl rfl (sq rfl rfl (q_call (settle_Net_ok F a0_l c_4 g5) [] rfl fn9 ⟨⟨_, rfl, .inl ⟨rfl, rfl⟩⟩, trivial⟩ (.inl rfl)) (sm rfl rfl (sq rfl rfl (q_extract rfl rfl rfl) (sq rfl rfl (q_extract rfl rfl rfl) (sa rfl rfl (sa rfl rfl (SOps.nil (SCode.seq (SCode.seq (SCode.region (sm rfl rfl (sq rfl rfl (q_neq rfl rfl rfl) (SOps.nil ?_))))))))))))))
 rcases cond_out h with ⟨g6, h⟩ | ⟨g6, h⟩
 ·refine SCode.cond_t rfl g6 (SCode.seq (SCode.region (sm rfl rfl (sq rfl rfl (q_len_vec rfl rfl sl22) (sq rfl rfl (q_eql rfl rfl rfl) (sa rfl rfl (SOps.nil (SCode.ret ?_))))))))
  obtain rfl := Option.some.inj h
  exact ⟨⟨[(2, .c (.bool (decide (((c_4.1).length : Int) = 0))))], []⟩, _, sub_gen [] rfl rfl (zall rfl rfl) trivial, resA1 (v := .c (.bool (decide (((c_4.1).length : Int) = 0)))) rfl rfl, rfl⟩
 refine SCode.cond_f rfl g6 (SCode.skip (SCode.seq (SCode.seq (SCode.region (sm rfl rfl (sq rfl rfl (q_len_vec rfl rfl sl22) (sm rfl rfl (sq rfl rfl (q_len_vec rfl rfl sl22) (sq rfl rfl (q_mul rfl rfl rfl) (sq rfl rfl (q_gtr rfl rfl rfl) (SOps.sub (st' := ⟨[(0, .c (vSBalance a0_l)), (3, .c (vSBalance c_4.1)), (38, .c (.bool (decide (IntKind.wrap .i64 (2 * ((a0_l).length : Int)) < ((c_4.1).length : Int)))))], []⟩) (sub_gen [] rfl rfl (zall rfl rfl) trivial) (SOps.nil ?_))))))))))))
 rcases cond_out h with ⟨g7, h⟩ | ⟨g7, h⟩
 ·refine SCode.cond_t rfl g7 (SCode.seq (SCode.region (sa rfl rfl (SOps.nil (SCode.ret ?_)))))
  obtain rfl := Option.some.inj h
  exact ⟨⟨[(2, .c (.bool false))], []⟩, _, sub_gen [] rfl rfl (zall rfl rfl) trivial, resA1 (v := .c (.bool false)) rfl rfl, rfl⟩
 refine SCode.cond_f rfl g7 (SCode.skip (SCode.seq ?_))
 obtain ⟨c_8, g9, h⟩ := bind_out h
 try dsimp only at h
 refine SCode.region (sm rfl rfl (sq rfl rfl (q_call (chargenetref49_Positions_ok F a0_l c_8 g9) [] rfl fn12 ⟨⟨_, rfl, .inl ⟨rfl, rfl⟩⟩, trivial⟩ (.inl rfl)) (sa rfl rfl (SOps.nil (SCode.seq ?_)))))
 obtain ⟨c_10, g11, h⟩ := bind_out h
 try dsimp only at h
 refine SCode.region (sm rfl rfl (sq rfl rfl (q_call (chargenetref49_Positions_ok F c_4.1 c_10 g11) [] rfl fn12 ⟨⟨_, rfl, .inl ⟨rfl, rfl⟩⟩, trivial⟩ (.inl rfl)) (sa rfl rfl (SOps.nil ?_))))
 let S300 := (⟨[(3, .c (vSBalance c_4.1))], []⟩ : St)
 refine SCode.join (σ := Unit) (S := fun s => S300) (g := fun s => chargenetlaw49_SettlePositions_p29 F c_4 = some r) ?_ ?_
 rotate_left
 ·refine SCode.seq (SCode.region (sm rfl rfl (sq rfl rfl (q_len_vec rfl rfl sl29) (sm rfl rfl (SOps.nil (SCode.block ?_))))))
  let S299 := fun (t44_81 : Int) => fun (t45_82 : Int) => (⟨[(3, .c (vSBalance c_4.1)), (5, .c (vSPosition c_8)), (6, .c (vSPosition c_10)), (43, .c (vSPosition c_8)), (44, ci t44_81), (45, ci t45_82)], []⟩ : St)
  refine SCode.sub (st' := (S299 (((c_8).length : Int)) 0)) (sub_gen [] rfl rfl (zall rfl rfl) trivial) ?_
  refine (SCode.loop (σ := Nat × (Int × Int)) (S := fun s => (S299 s.2.1 s.2.2)) (g := fun s => chargenetlaw49_SettlePositions_l133 F c_4 c_8 c_10 s.1 s.2.1 s.2.2 = some r) (μ := fun s => s.1) (F, (((c_8).length : Int), 0)) h ?_)
  rintro ⟨n_133, ⟨t44_81, t45_82⟩⟩ h
  try dsimp only at h
  show SCode _ _ _ (S299 t44_81 t45_82) _
  cases n_133 with
  | zero => cases h
  | succ n_133 =>
   rw [chargenetlaw49_SettlePositions_l133] at h
   unfold chargenetlaw49_SettlePositions_b133 at h
   refine SCode.seq (SCode.region (sq rfl rfl (q_lss rfl rfl rfl) (SOps.nil (SCode.seq ?_))))
   rcases cond_out h with ⟨g134, h⟩ | ⟨g134, h⟩
   ·refine SCode.cond_t rfl g134 (SCode.skip ?_)
    let S298 := (⟨[(3, .c (vSBalance c_4.1)), (5, .c (vSPosition c_8)), (6, .c (vSPosition c_10)), (43, .c (vSPosition c_8)), (44, ci t44_81), (45, ci t45_82)], []⟩ : St)
    refine SCode.join (σ := Unit) (S := fun s => S298) (g := fun s => chargenetlaw49_SettlePositions_p135 t44_81 t45_82 (fun t44_81 t45_82 => chargenetlaw49_SettlePositions_l133 F c_4 c_8 c_10 n_133 t44_81 t45_82) = some r) ?_ ?_
    rotate_left
    ·refine SCode.block (SCode.seq ?_)
     obtain ⟨g136, h⟩ := guard_out h
     refine SCode.region (sq rfl rfl (q_index_vec rfl rfl rfl sl29 rfl g136.1 g136.2) (sq rfl rfl (q_load_eptr_all rfl rfl rfl ty32) (se rfl rfl (e_alloc rfl rfl rfl z32) (se rfl rfl (e_store_box rfl rfl rfl rfl rfl ty32 rfl rfl rfl rfl) (SOps.nil (SCode.seq (SCode.seq (SCode.sub (st' := ⟨[(3, .c (vSBalance c_4.1)), (5, .c (vSPosition c_8)), (6, .c (vSPosition c_10)), (8, .c (.ptr 0 0)), (43, .c (vSPosition c_8)), (44, ci t44_81), (45, ci t45_82)], [.box (bSPosition (c_8.getD t45_82.toNat dSPosition))]⟩) (sub_gen [0] rfl rfl (zall rfl rfl) ⟨bx rfl rfl rfl, trivial⟩) ?_))))))))
     obtain ⟨c_137, g138, h⟩ := bind_out h
     try dsimp only at h
     refine SCode.drawK mixed [[], [], [1], [], [3], [0, 1, 2, 3, 4], [], [6], [0, 1, 2, 3, 4, 5, 6, 7]] 9 0 rfl rfl (qm rfl rfl (qr rfl rfl (q_field_ptr rfl rfl fd32_0) (qr rfl rfl (q_load_ptr rfl rfl rfl rfl ty9) (qr rfl rfl (q_field_ptr rfl rfl fd32_1) (qr rfl rfl (q_load_ptr rfl rfl rfl rfl ty9) (qr rfl rfl (q_call (chargenetlaw49_position_ok F c_10 ((c_8.getD t45_82.toNat dSPosition).Currency) ((c_8.getD t45_82.toNat dSPosition).Party) c_137 g138) [] rfl fn13 ⟨⟨_, rfl, .inl ⟨rfl, rfl⟩⟩, ⟨_, rfl, .inl ⟨rfl, rfl⟩⟩, ⟨_, rfl, .inl ⟨rfl, rfl⟩⟩, trivial⟩ (.inl rfl)) (qr rfl rfl (q_field_ptr rfl rfl fd32_2) (qr rfl rfl (q_load_ptr rfl rfl rfl rfl ty3) (qr rfl rfl (q_neq rfl rfl rfl) (QK.nil (SOps.sub (st' := ⟨[(3, .c (vSBalance c_4.1)), (5, .c (vSPosition c_8)), (6, .c (vSPosition c_10)), (8, .c (.ptr 0 0)), (43, .c (vSPosition c_8)), (44, ci t44_81), (45, ci t45_82), (57, .c (.bool ((!decide (c_137 = (c_8.getD t45_82.toNat dSPosition).Amount)))))], [.box (bSPosition (c_8.getD t45_82.toNat dSPosition))]⟩) (sub_gen [0] rfl rfl (zall rfl rfl) ⟨bx rfl rfl rfl, trivial⟩) (SOps.nil ?_))))))))))))
     rcases cond_out h with ⟨g139, h⟩ | ⟨g139, h⟩
     ·refine SCode.cond_t rfl g139 (SCode.seq (SCode.region (sa rfl rfl (SOps.nil (SCode.ret ?_)))))
      obtain rfl := Option.some.inj h
      exact ⟨⟨[(2, .c (.bool false))], []⟩, _, sub_gen [] rfl rfl (zall rfl rfl) trivial, resA1 (v := .c (.bool false)) rfl rfl, rfl⟩
     refine SCode.cond_f rfl g139 (SCode.skip (SCode.seq (SCode.region (sa rfl rfl (sa rfl rfl (SOps.nil ?_))))))
     let S297 := fun (n_140 : Int) => (⟨[(3, .c (vSBalance c_4.1)), (5, .c (vSPosition c_8)), (6, .c (vSPosition c_10)), (8, .c (.ptr 0 0)), (9, ci n_140), (10, ci 0), (43, .c (vSPosition c_8)), (44, ci t44_81), (45, ci t45_82)], [.box (bSPosition (c_8.getD t45_82.toNat dSPosition))]⟩ : St)
     refine SCode.join (σ := Int) (S := fun s => (S297 s)) (g := fun s => chargenetlaw49_SettlePositions_p165 F c_4 c_8 t44_81 t45_82 (fun t44_81 t45_82 => chargenetlaw49_SettlePositions_l133 F c_4 c_8 c_10 n_133 t44_81 t45_82) s = some r) ?_ ?_
     rotate_left
     ·refine SCode.seq (SCode.region (sm rfl rfl (sq rfl rfl (q_len_vec rfl rfl sl29) (sm rfl rfl (SOps.nil (SCode.block ?_))))))
      let S296 := fun (n_171 : Int) => fun (t60_172 : Int) => (⟨[(3, .c (vSBalance c_4.1)), (5, .c (vSPosition c_8)), (6, .c (vSPosition c_10)), (8, .c (.ptr 0 0)), (9, ci n_171), (10, ci 0), (43, .c (vSPosition c_8)), (44, ci t44_81), (45, ci t45_82), (58, .c (vSPosition c_8)), (59, ci (((c_8).length : Int))), (60, ci t60_172)], [.box (bSPosition (c_8.getD t45_82.toNat dSPosition))]⟩ : St)
      refine SCode.sub (st' := (S296 0 0)) (sub_gen [0] rfl rfl (zall rfl rfl) ⟨bx rfl rfl rfl, trivial⟩) ?_
      refine (SCode.loop (σ := Nat × (Int × Int)) (S := fun s => (S296 s.2.1 s.2.2)) (g := fun s => chargenetlaw49_SettlePositions_l178 F c_4 c_8 t44_81 t45_82 (fun t44_81 t45_82 => chargenetlaw49_SettlePositions_l133 F c_4 c_8 c_10 n_133 t44_81 t45_82) s.1 s.2.1 s.2.2 = some r) (μ := fun s => s.1) (F, (0, 0)) h ?_)
      rintro ⟨n_178, ⟨n_171, t60_172⟩⟩ h
      try dsimp only at h
      show SCode _ _ _ (S296 n_171 t60_172) _
      cases n_178 with
      | zero => cases h
      | succ n_178 =>
       rw [chargenetlaw49_SettlePositions_l178] at h
       unfold chargenetlaw49_SettlePositions_b178 at h
       refine SCode.seq (SCode.region (sq rfl rfl (q_lss rfl rfl rfl) (SOps.nil (SCode.seq ?_))))
       rcases cond_out h with ⟨g179, h⟩ | ⟨g179, h⟩
       ·refine SCode.cond_t rfl g179 (SCode.skip ?_)
        let S295 := fun (n_180 : Int) => (⟨[(3, .c (vSBalance c_4.1)), (5, .c (vSPosition c_8)), (6, .c (vSPosition c_10)), (8, .c (.ptr 0 0)), (9, ci n_180), (10, ci 0), (43, .c (vSPosition c_8)), (44, ci t44_81), (45, ci t45_82), (58, .c (vSPosition c_8)), (59, ci (((c_8).length : Int))), (60, ci t60_172)], [.box (bSPosition (c_8.getD t45_82.toNat dSPosition))]⟩ : St)
        refine SCode.join (σ := Int) (S := fun s => (S295 s)) (g := fun s => chargenetlaw49_SettlePositions_p181 t60_172 (fun n_171 t60_172 => chargenetlaw49_SettlePositions_l178 F c_4 c_8 t44_81 t45_82 (fun t44_81 t45_82 => chargenetlaw49_SettlePositions_l133 F c_4 c_8 c_10 n_133 t44_81 t45_82) n_178 n_171 t60_172) s = some r) ?_ ?_
        rotate_left
        ·refine SCode.block (SCode.seq ?_)
         obtain ⟨g182, h⟩ := guard_out h
         refine SCode.region (sq rfl rfl (q_index_vec rfl rfl rfl sl29 rfl g182.1 g182.2) (sq rfl rfl (q_load_eptr_all rfl rfl rfl ty32) (se rfl rfl (e_alloc rfl rfl rfl z32) (se rfl rfl (e_store_box rfl rfl rfl rfl rfl ty32 rfl rfl rfl rfl) (SOps.nil (SCode.seq (SCode.region (sq rfl rfl (q_field_ptr rfl rfl fd32_0) (sq rfl rfl (q_load_ptr rfl rfl rfl rfl ty9) (sq rfl rfl (q_field_ptr rfl rfl fd32_0) (sq rfl rfl (q_load_ptr rfl rfl rfl rfl ty9) (sq rfl rfl (q_eqlS rfl rfl rfl) (SOps.nil ?_)))))))))))))
         rcases cond_out h with ⟨g183, h⟩ | ⟨g183, h⟩
         ·refine SCode.cond_t rfl g183 (SCode.region (sm rfl rfl (sq rfl rfl (q_add rfl rfl rfl) (sa rfl rfl (SOps.nil ?_)))))
          exact ⟨IntKind.wrap .i64 (n_171 + 1), h, sub_gen [0] rfl rfl (zall rfl rfl) ⟨bx rfl rfl rfl, trivial⟩⟩
         refine SCode.cond_f rfl g183 (SCode.skip ?_)
         exact ⟨n_171, h, sub_gen [0] rfl rfl (zall rfl rfl) ⟨bx rfl rfl rfl, trivial⟩⟩
        rintro n_180 h
        show SCode _ _ _ (S295 n_180) _
        try dsimp only at h
        unfold chargenetlaw49_SettlePositions_p181 at h
        refine SCode.region (sq rfl rfl (q_add rfl rfl rfl) (sm rfl rfl (SOps.nil ?_)))
        exact ⟨(n_178, (n_180, IntKind.wrap .i64 (t60_172 + 1))), h, Nat.lt_succ_self n_178, sub_gen [0] rfl rfl (zall rfl rfl) ⟨bx rfl rfl rfl, trivial⟩⟩
       refine SCode.cond_f rfl g179 (SCode.exit ?_)
       exact ⟨n_171, h, sub_gen [0] rfl rfl (zall rfl rfl) ⟨bx rfl rfl rfl, trivial⟩⟩
     rintro n_140 h
     show SCode _ _ _ (S297 n_140) _
     try dsimp only at h
     unfold chargenetlaw49_SettlePositions_p165 at h
     let S292 := fun (m_141 : Int) => (⟨[(3, .c (vSBalance c_4.1)), (5, .c (vSPosition c_8)), (6, .c (vSPosition c_10)), (9, ci n_140), (10, ci m_141), (43, .c (vSPosition c_8)), (44, ci t44_81), (45, ci t45_82)], []⟩ : St)
     refine SCode.join (σ := Int) (S := fun s => (S292 s)) (g := fun s => chargenetlaw49_SettlePositions_p143 t44_81 t45_82 (fun t44_81 t45_82 => chargenetlaw49_SettlePositions_l133 F c_4 c_8 c_10 n_133 t44_81 t45_82) n_140 s = some r) ?_ ?_
     rotate_left
     ·refine SCode.seq (SCode.region (sm rfl rfl (sq rfl rfl (q_len_vec rfl rfl sl22) (sm rfl rfl (SOps.nil (SCode.block ?_))))))
      let S291 := fun (m_150 : Int) => fun (t74_151 : Int) => (⟨[(3, .c (vSBalance c_4.1)), (5, .c (vSPosition c_8)), (6, .c (vSPosition c_10)), (8, .c (.ptr 0 0)), (9, ci n_140), (10, ci m_150), (43, .c (vSPosition c_8)), (44, ci t44_81), (45, ci t45_82), (72, .c (vSBalance c_4.1)), (73, ci (((c_4.1).length : Int))), (74, ci t74_151)], [.box (bSPosition (c_8.getD t45_82.toNat dSPosition))]⟩ : St)
      refine SCode.sub (st' := (S291 0 0)) (sub_gen [0] rfl rfl (zall rfl rfl) ⟨bx rfl rfl rfl, trivial⟩) ?_
      refine (SCode.loop (σ := Nat × (Int × Int)) (S := fun s => (S291 s.2.1 s.2.2)) (g := fun s => chargenetlaw49_SettlePositions_l158 c_4 c_8 t44_81 t45_82 (fun t44_81 t45_82 => chargenetlaw49_SettlePositions_l133 F c_4 c_8 c_10 n_133 t44_81 t45_82) n_140 s.1 s.2.1 s.2.2 = some r) (μ := fun s => s.1) (F, (0, 0)) h ?_)
      rintro ⟨n_158, ⟨m_150, t74_151⟩⟩ h
      try dsimp only at h
      show SCode _ _ _ (S291 m_150 t74_151) _
      cases n_158 with
      | zero => cases h
      | succ n_158 =>
       rw [chargenetlaw49_SettlePositions_l158] at h
       unfold chargenetlaw49_SettlePositions_b158 at h
       refine SCode.seq (SCode.region (sq rfl rfl (q_lss rfl rfl rfl) (SOps.nil (SCode.seq ?_))))
       rcases cond_out h with ⟨g159, h⟩ | ⟨g159, h⟩
       ·refine SCode.cond_t rfl g159 (SCode.skip (SCode.seq (SCode.block (SCode.seq ?_))))
        obtain ⟨g160, h⟩ := guard_out h
        refine SCode.region (sq rfl rfl (q_index_vec rfl rfl rfl sl22 rfl g160.1 g160.2) (sq rfl rfl (q_load_eptr_all rfl rfl rfl ty35) (se rfl rfl (e_alloc rfl rfl rfl z35) (se rfl rfl (e_store_box rfl rfl rfl rfl rfl ty35 rfl rfl rfl rfl) (SOps.nil ?_)))))
        let S290 := fun (m_161 : Int) => (⟨[(3, .c (vSBalance c_4.1)), (5, .c (vSPosition c_8)), (6, .c (vSPosition c_10)), (8, .c (.ptr 0 0)), (9, ci n_140), (10, ci m_161), (14, .c (.ptr 1 0)), (43, .c (vSPosition c_8)), (44, ci t44_81), (45, ci t45_82), (72, .c (vSBalance c_4.1)), (73, ci (((c_4.1).length : Int))), (74, ci t74_151)], [.box (bSPosition (c_8.getD t45_82.toNat dSPosition)), .box (bSBalance (c_4.1.getD t74_151.toNat dSBalance))]⟩ : St)
        refine SCode.join (σ := Int) (S := fun s => (S290 s)) (g := fun s => chargenetlaw49_SettlePositions_p163 c_4 t74_151 (fun m_150 t74_151 => chargenetlaw49_SettlePositions_l158 c_4 c_8 t44_81 t45_82 (fun t44_81 t45_82 => chargenetlaw49_SettlePositions_l133 F c_4 c_8 c_10 n_133 t44_81 t45_82) n_140 n_158 m_150 t74_151) s = some r) ?_ ?_
        rotate_left
        ·refine SCode.seq (SCode.region (sq rfl rfl (q_field_ptr rfl rfl fd35_2) (sq rfl rfl (q_load_ptr rfl rfl rfl rfl ty9) (sq rfl rfl (q_field_ptr rfl rfl fd32_0) (sq rfl rfl (q_load_ptr rfl rfl rfl rfl ty9) (sq rfl rfl (q_eqlS rfl rfl rfl) (SOps.nil ?_)))))))
         rcases cond_out h with ⟨g164, h⟩ | ⟨g164, h⟩
         ·refine SCode.cond_t rfl g164 (SCode.region (sm rfl rfl (sq rfl rfl (q_add rfl rfl rfl) (sa rfl rfl (SOps.nil ?_)))))
          exact ⟨IntKind.wrap .i64 (m_150 + 1), h, sub_gen [0, 1] rfl rfl (zall rfl rfl) ⟨bx rfl rfl rfl, bx rfl rfl rfl, trivial⟩⟩
         refine SCode.cond_f rfl g164 (SCode.skip ?_)
         exact ⟨m_150, h, sub_gen [0, 1] rfl rfl (zall rfl rfl) ⟨bx rfl rfl rfl, bx rfl rfl rfl, trivial⟩⟩
        rintro m_161 h
        show SCode _ _ _ (S290 m_161) _
        try dsimp only at h
        unfold chargenetlaw49_SettlePositions_p163 at h
        refine SCode.seq (SCode.region (sq rfl rfl (q_field_ptr rfl rfl fd35_3) (sq rfl rfl (q_load_ptr rfl rfl rfl rfl ty3) (sq rfl rfl (q_leq rfl rfl rfl) (SOps.nil ?_)))))
        rcases cond_out h with ⟨g162, h⟩ | ⟨g162, h⟩
        ·refine SCode.cond_t rfl g162 (SCode.seq (SCode.region (sa rfl rfl (SOps.nil (SCode.ret ?_)))))
         obtain rfl := Option.some.inj h
         exact ⟨⟨[(2, .c (.bool false))], []⟩, _, sub_gen [] rfl rfl (zall rfl rfl) trivial, resA1 (v := .c (.bool false)) rfl rfl, rfl⟩
        refine SCode.cond_f rfl g162 (SCode.skip (SCode.region (sq rfl rfl (q_add rfl rfl rfl) (sm rfl rfl (SOps.nil ?_)))))
        exact ⟨(n_158, (m_161, IntKind.wrap .i64 (t74_151 + 1))), h, Nat.lt_succ_self n_158, sub_gen [0] rfl rfl (zall rfl rfl) ⟨bx rfl rfl rfl, trivial⟩⟩
       refine SCode.cond_f rfl g159 (SCode.exit ?_)
       exact ⟨m_150, h, sub_gen [] rfl rfl (zall rfl rfl) trivial⟩
     rintro m_141 h
     show SCode _ _ _ (S292 m_141) _
     try dsimp only at h
     unfold chargenetlaw49_SettlePositions_p143 at h
     refine SCode.seq (SCode.region (sm rfl rfl (sm rfl rfl (sq rfl rfl (q_geq rfl rfl rfl) (SOps.nil ?_)))))
     rcases cond_out h with ⟨g142, h⟩ | ⟨g142, h⟩
     ·refine SCode.cond_t rfl g142 (SCode.seq (SCode.region (sa rfl rfl (SOps.nil (SCode.ret ?_)))))
      obtain rfl := Option.some.inj h
      exact ⟨⟨[(2, .c (.bool false))], []⟩, _, sub_gen [] rfl rfl (zall rfl rfl) trivial, resA1 (v := .c (.bool false)) rfl rfl, rfl⟩
     refine SCode.cond_f rfl g142 (SCode.skip ?_)
     exact ⟨(), h, sub_gen [] rfl rfl (zall rfl rfl) trivial⟩
    rintro ⟨⟩ h
    show SCode _ _ _ S298 _
    try dsimp only at h
    unfold chargenetlaw49_SettlePositions_p135 at h
    refine SCode.region (sq rfl rfl (q_add rfl rfl rfl) (sm rfl rfl (SOps.nil ?_)))
    exact ⟨(n_133, (t44_81, IntKind.wrap .i64 (t45_82 + 1))), h, Nat.lt_succ_self n_133, sub_gen [] rfl rfl (zall rfl rfl) trivial⟩
   refine SCode.cond_f rfl g134 (SCode.exit ?_)
   exact ⟨(), h, sub_gen [] rfl rfl (zall rfl rfl) trivial⟩
 rintro ⟨⟩ h
 show SCode _ _ _ S300 _
 try dsimp only at h
 unfold chargenetlaw49_SettlePositions_p29 at h
 let S151 := (⟨[(3, .c (vSBalance c_4.1))], []⟩ : St)
 refine SCode.join (σ := Unit) (S := fun s => S151) (g := fun s => chargenetlaw49_SettlePositions_p17 F c_4 = some r) ?_ ?_
 rotate_left
 ·refine SCode.seq (SCode.region (sm rfl rfl (sq rfl rfl (q_len_vec rfl rfl sl22) (sm rfl rfl (SOps.nil (SCode.block ?_))))))
  let S150 := fun (t95_21 : Int) => (⟨[(3, .c (vSBalance c_4.1)), (93, .c (vSBalance c_4.1)), (94, ci (((c_4.1).length : Int))), (95, ci t95_21)], []⟩ : St)
  refine SCode.sub (st' := (S150 0)) (sub_gen [] rfl rfl (zall rfl rfl) trivial) ?_
  refine (SCode.loop (σ := Nat × Int) (S := fun s => (S150 s.2)) (g := fun s => chargenetlaw49_SettlePositions_l25 F c_4 s.1 s.2 = some r) (μ := fun s => s.1) (F, 0) h ?_)
  rintro ⟨n_25, t95_21⟩ h
  try dsimp only at h
  show SCode _ _ _ (S150 t95_21) _
  cases n_25 with
  | zero => cases h
  | succ n_25 =>
   rw [chargenetlaw49_SettlePositions_l25] at h
   unfold chargenetlaw49_SettlePositions_b25 at h
   refine SCode.seq (SCode.region (sq rfl rfl (q_lss rfl rfl rfl) (SOps.nil (SCode.seq ?_))))
   rcases cond_out h with ⟨g26, h⟩ | ⟨g26, h⟩
   ·refine SCode.cond_t rfl g26 (SCode.skip (SCode.seq (SCode.block (SCode.seq ?_))))
    obtain ⟨g27, h⟩ := guard_out h
    refine SCode.region (sq rfl rfl (q_index_vec rfl rfl rfl sl22 rfl g27.1 g27.2) (sq rfl rfl (q_load_eptr_all rfl rfl rfl ty35) (se rfl rfl (e_alloc rfl rfl rfl z35) (se rfl rfl (e_store_box rfl rfl rfl rfl rfl ty35 rfl rfl rfl rfl) (SOps.nil (SCode.seq (SCode.region (sq rfl rfl (q_field_ptr rfl rfl fd35_3) (sq rfl rfl (q_load_ptr rfl rfl rfl rfl ty3) (sq rfl rfl (q_gtr rfl rfl rfl) (SOps.nil ?_)))))))))))
    rcases cond_out h with ⟨g28, h⟩ | ⟨g28, h⟩
    ·refine SCode.cond_t rfl g28 (SCode.seq (SCode.region (sa rfl rfl (SOps.nil (SCode.ret ?_)))))
     obtain rfl := Option.some.inj h
     exact ⟨⟨[(2, .c (.bool true))], []⟩, _, sub_gen [] rfl rfl (zall rfl rfl) trivial, resA1 (v := .c (.bool true)) rfl rfl, rfl⟩
    refine SCode.cond_f rfl g28 (SCode.skip (SCode.region (sq rfl rfl (q_add rfl rfl rfl) (sm rfl rfl (SOps.nil ?_)))))
    exact ⟨(n_25, IntKind.wrap .i64 (t95_21 + 1)), h, Nat.lt_succ_self n_25, sub_gen [] rfl rfl (zall rfl rfl) trivial⟩
   refine SCode.cond_f rfl g26 (SCode.exit ?_)
   exact ⟨(), h, sub_gen [] rfl rfl (zall rfl rfl) trivial⟩
 rintro ⟨⟩ h
 show SCode _ _ _ S151 _
 try dsimp only at h
 unfold chargenetlaw49_SettlePositions_p17 at h
 refine SCode.seq ?_
 obtain ⟨c_12, g13, h⟩ := bind_out h
 try dsimp only at h
 refine SCode.region (sm rfl rfl (sq rfl rfl (q_call (settle_Net_ok F c_4.1 c_12 g13) [] rfl fn9 ⟨⟨_, rfl, .inl ⟨rfl, rfl⟩⟩, trivial⟩ (.inl rfl)) (sm rfl rfl (sq rfl rfl (q_extract rfl rfl rfl) (sq rfl rfl (q_extract rfl rfl rfl) (sa rfl rfl (sa rfl rfl (SOps.nil (SCode.seq ?_)))))))))
 rcases cond_out h with ⟨g14, h⟩ | ⟨g14, h⟩
 ·obtain ⟨c_15, g16, h⟩ := bind_out h
  try dsimp only at h
  refine SCode.region (sm rfl rfl (sq rfl rfl (q_eql rfl rfl rfl) (sm rfl rfl (SOps.q rfl (.guard 2 110 true rfl rfl (gT g14)) rfl (q_move rfl rfl) (SOps.q rfl (.guard 2 110 true rfl rfl (gT g14)) rfl (q_move rfl rfl) (SOps.q rfl (.guard 2 110 true rfl rfl (gT g14)) rfl (q_call (chargenetlaw49_same_ok F c_12.1 c_4.1 c_15 g16) [] rfl fn11 ⟨⟨_, rfl, .inl ⟨rfl, rfl⟩⟩, ⟨_, rfl, .inl ⟨rfl, rfl⟩⟩, trivial⟩ (.inl rfl)) (sq rfl rfl (q_pick_t rfl rfl g14 rfl) (sa rfl rfl (SOps.nil (SCode.ret ?_))))))))))
  obtain rfl := Option.some.inj h
  exact ⟨⟨[(2, .c (.bool c_15))], []⟩, _, sub_gen [] rfl rfl (zall rfl rfl) trivial, resA1 (v := .c (.bool c_15)) rfl rfl, rfl⟩
 refine SCode.region (sm rfl rfl (sq rfl rfl (q_eql rfl rfl rfl) (sm rfl rfl (SOps.skip rfl 2 110 true rfl rfl (.inl (gF g14)) rfl (SOps.skip rfl 2 110 true rfl rfl (.inl (gF g14)) rfl (SOps.skip rfl 2 110 true rfl rfl (.inl (gF g14)) rfl (sq rfl rfl (q_pick_f rfl rfl g14 rfl) (sa rfl rfl (SOps.nil (SCode.ret ?_))))))))))
 obtain rfl := Option.some.inj h
 exact ⟨⟨[(2, .c (.bool false))], []⟩, _, sub_gen [] rfl rfl (zall rfl rfl) trivial, resA1 (v := .c (.bool false)) rfl rfl, rfl⟩
end Go.Proofs.Ytoncfkdgddfnlaa.W
