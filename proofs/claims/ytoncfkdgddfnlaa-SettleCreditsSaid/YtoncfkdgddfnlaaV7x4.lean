/- Written by a program of ours (wip/eng/gen.py): the functions compute their models. -/
import Derived.Test.YtoncfkdgddfnlaaFacts
import Derived.Test.YtoncfkdgddfnlaaV7x3
namespace Go.Proofs.Ytoncfkdgddfnlaa.W
open Go Go.Proofs Go.Proofs.Ytoncfkdgddfnlaa.E Go.Proofs.Ytoncfkdgddfnlaa.M
set_option linter.unusedVariables false
set_option maxRecDepth 100000
set_option maxHeartbeats 8000000
theorem money_Sum_ok (F : Nat) (a0_l : List Int) (r : Int × Int) (h : money_Sum F a0_l = some r) :
  SFun Try.prog 31 [] [.c (vI a0_l)] (fun x _ => x = .t [.c (.int .i64 r.1), .c (.int .i64 r.2)]) := by
 refine SFun.of (n := 46) Try.func31 rfl rfl rfl ?_
 unfold money_Sum at h
 show SCode _ _ _ ⟨[(0, .c (vI a0_l))], []⟩ _
 refine SCode.seq (SCode.region (sa rfl rfl (sa rfl rfl (SOps.nil (SCode.seq (SCode.region (sa rfl rfl (sa rfl rfl (SOps.nil ?_)))))))))
 let S10 := fun (high_1 : Int) => fun (low_2 : Int) => (⟨[(4, .c (.int .u64 high_1)), (5, .c (.int .u64 low_2))], []⟩ : St)
 refine SCode.join (σ := Int × Int) (S := fun s => (S10 s.1 s.2)) (g := fun s => money_Sum_p8 s.1 s.2 = some r) ?_ ?_
 rotate_left
 ·refine SCode.seq (SCode.region (sm rfl rfl (sq rfl rfl (q_len_vec rfl rfl sl70) (sm rfl rfl (SOps.nil (SCode.block ?_))))))
  let S9 := fun (high_15 : Int) => fun (low_16 : Int) => fun (t11_17 : Int) => (⟨[(4, .c (.int .u64 high_15)), (5, .c (.int .u64 low_16)), (9, .c (vI a0_l)), (10, ci (((a0_l).length : Int))), (11, ci t11_17)], []⟩ : St)
  refine SCode.sub (st' := (S9 0 0 0)) (sub_gen [] rfl rfl (zall rfl rfl) trivial) ?_
  refine (SCode.loop (σ := Nat × (Int × Int × Int)) (S := fun s => (S9 s.2.1 s.2.2.1 s.2.2.2)) (g := fun s => money_Sum_l24 a0_l s.1 s.2.1 s.2.2.1 s.2.2.2 = some r) (μ := fun s => s.1) (F, (0, 0, 0)) h ?_)
  rintro ⟨n_24, ⟨high_15, low_16, t11_17⟩⟩ h
  try dsimp only at h
  show SCode _ _ _ (S9 high_15 low_16 t11_17) _
  cases n_24 with
  | zero => cases h
  | succ n_24 =>
   rw [money_Sum_l24] at h
   unfold money_Sum_b24 at h
   refine SCode.seq (SCode.region (sq rfl rfl (q_lss rfl rfl rfl) (SOps.nil (SCode.seq ?_))))
   rcases cond_out h with ⟨g25, h⟩ | ⟨g25, h⟩
   ·refine SCode.cond_t rfl g25 (SCode.skip ?_)
    let S8 := fun (high_26 : Int) => (⟨[(4, .c (.int .u64 high_26)), (5, .c (.int .u64 (((low_16 + (IntKind.wrap .u64 (a0_l.getD t11_17.toNat 0)) + 0) % 18446744073709551616)))), (9, .c (vI a0_l)), (10, ci (((a0_l).length : Int))), (11, ci t11_17)], []⟩ : St)
    refine SCode.join (σ := Int) (S := fun s => (S8 s)) (g := fun s => money_Sum_p27 a0_l low_16 t11_17 (fun high_15 low_16 t11_17 => money_Sum_l24 a0_l n_24 high_15 low_16 t11_17) s = some r) ?_ ?_
    rotate_left
    ·refine SCode.block (SCode.seq ?_)
     obtain ⟨g28, h⟩ := guard_out h
     refine SCode.region (sq rfl rfl (q_index_vec rfl rfl rfl sl70 rfl g28.1 g28.2) (sq rfl rfl (q_load_eptr rfl rfl ty3) (sa rfl rfl (SOps.nil (SCode.seq (SCode.region (sa rfl rfl (SOps.nil (SCode.seq ?_)))))))))
     obtain ⟨g29, h⟩ := guard_out h
     refine SCode.region (sm rfl rfl (sm rfl rfl (sq rfl rfl (q_convert rfl rfl un3 un87) (sq rfl rfl (q_add64 add47 rfl rfl rfl rfl g29) (sm rfl rfl (sq rfl rfl (q_extract rfl rfl rfl) (sq rfl rfl (q_extract rfl rfl rfl) (sa rfl rfl (sa rfl rfl (SOps.nil (SCode.seq (SCode.region (sm rfl rfl (sm rfl rfl (sq rfl rfl (q_add rfl rfl rfl) ?_)))))))))))))))
     refine sa rfl rfl (SOps.sub (st' := ⟨[(4, .c (.int .u64 (IntKind.wrap .u64 (high_15 + ((low_16 + (IntKind.wrap .u64 (a0_l.getD t11_17.toNat 0)) + 0) / 18446744073709551616))))), (5, .c (.int .u64 (((low_16 + (IntKind.wrap .u64 (a0_l.getD t11_17.toNat 0)) + 0) % 18446744073709551616)))), (7, ci (a0_l.getD t11_17.toNat 0)), (9, .c (vI a0_l)), (10, ci (((a0_l).length : Int))), (11, ci t11_17)], []⟩) (sub_gen [] rfl rfl (zall rfl rfl) trivial) (SOps.nil (SCode.seq (SCode.region (sm rfl rfl (sq rfl rfl (q_lss rfl rfl rfl) (SOps.nil ?_)))))))
     rcases cond_out h with ⟨g30, h⟩ | ⟨g30, h⟩
     ·refine SCode.cond_t rfl g30 (SCode.region (sm rfl rfl (sq rfl rfl (q_sub rfl rfl rfl) (sa rfl rfl (SOps.nil ?_)))))
      exact ⟨IntKind.wrap .u64 (IntKind.wrap .u64 (high_15 + ((low_16 + (IntKind.wrap .u64 (a0_l.getD t11_17.toNat 0)) + 0) / 18446744073709551616)) - 1), h, sub_gen [] rfl rfl (zall rfl rfl) trivial⟩
     refine SCode.cond_f rfl g30 (SCode.skip ?_)
     exact ⟨IntKind.wrap .u64 (high_15 + ((low_16 + (IntKind.wrap .u64 (a0_l.getD t11_17.toNat 0)) + 0) / 18446744073709551616)), h, sub_gen [] rfl rfl (zall rfl rfl) trivial⟩
    rintro high_26 h
    show SCode _ _ _ (S8 high_26) _
    try dsimp only at h
    unfold money_Sum_p27 at h
    refine SCode.region (sq rfl rfl (q_add rfl rfl rfl) (sm rfl rfl (SOps.nil ?_)))
    exact ⟨(n_24, (high_26, ((low_16 + (IntKind.wrap .u64 (a0_l.getD t11_17.toNat 0)) + 0) % 18446744073709551616), IntKind.wrap .i64 (t11_17 + 1))), h, Nat.lt_succ_self n_24, sub_gen [] rfl rfl (zall rfl rfl) trivial⟩
   refine SCode.cond_f rfl g25 (SCode.exit ?_)
   exact ⟨(high_15, low_16), h, sub_gen [] rfl rfl (zall rfl rfl) trivial⟩
 rintro ⟨high_1, low_2⟩ h
 show SCode _ _ _ (S10 high_1 low_2) _
 try dsimp only at h
 unfold money_Sum_p8 at h
 let S5 := (⟨[(5, .c (.int .u64 low_2))], []⟩ : St)
 refine SCode.join (σ := Unit) (S := fun s => S5) (g := fun s => money_Sum_p3 low_2 = some r) ?_ ?_
 rotate_left
 ·refine SCode.seq ?_
  rcases cond_out h with ⟨g4, h⟩ | ⟨g4, h⟩
  ·rcases cond_out h with ⟨g5, h⟩ | ⟨g5, h⟩
   ·refine SCode.region (sm rfl rfl (sq rfl rfl (q_neq rfl rfl rfl) (sm rfl rfl (SOps.q rfl (.guard 2 32 true rfl rfl (gT g4)) rfl (q_move rfl rfl) (SOps.q rfl (.guard 2 32 true rfl rfl (gT g4)) rfl (q_neq rfl rfl rfl) (sq rfl rfl (q_pick_t rfl rfl g4 rfl) (sm rfl rfl (SOps.skip rfl 6 36 false rfl rfl (.inl (gT g5)) rfl (SOps.skip rfl 6 36 false rfl rfl (.inl (gT g5)) rfl (SOps.skip rfl 6 36 false rfl rfl (.inl (gT g5)) rfl (SOps.skip rfl 6 36 false rfl rfl (.inl (gT g5)) rfl (SOps.skip rfl 6 36 false rfl rfl (.inl (gT g5)) rfl (SOps.skip rfl 6 36 false rfl rfl (.inl (gT g5)) rfl (sq rfl rfl (q_pick_t rfl rfl g5 rfl) (SOps.nil ?_)))))))))))))))
    refine SCode.cond_t rfl rfl (SCode.seq (SCode.region (sa rfl rfl (sa rfl rfl (SOps.nil (SCode.ret ?_))))))
    obtain rfl := Option.some.inj h
    exact ⟨⟨[(2, ci 0), (3, ci 20)], []⟩, _, sub_gen [] rfl rfl (zall rfl rfl) trivial, resA2 (v1 := .c (.int .i64 0)) (v2 := .c (.int .i64 20)) rfl rfl rfl, rfl⟩
   refine SCode.region (sm rfl rfl (sq rfl rfl (q_neq rfl rfl rfl) (sm rfl rfl (SOps.q rfl (.guard 2 32 true rfl rfl (gT g4)) rfl (q_move rfl rfl) (SOps.q rfl (.guard 2 32 true rfl rfl (gT g4)) rfl (q_neq rfl rfl rfl) (sq rfl rfl (q_pick_t rfl rfl g4 rfl) (sm rfl rfl (SOps.q rfl (.guard 6 36 false rfl rfl (gF g5)) rfl (q_move rfl rfl) (SOps.q rfl (.guard 6 36 false rfl rfl (gF g5)) rfl (q_eql rfl rfl rfl) (SOps.q rfl (.guard 6 36 false rfl rfl (gF g5)) rfl (q_move rfl rfl) (SOps.q rfl (.guard 6 36 false rfl rfl (gF g5)) rfl (q_convert rfl rfl un87 un3) (SOps.q rfl (.guard 6 36 false rfl rfl (gF g5)) rfl (q_geq rfl rfl rfl) (SOps.q rfl (.guard 6 36 false rfl rfl (gF g5)) rfl (q_neqB rfl rfl rfl un4) (sq rfl rfl (q_pick_f rfl rfl g5 rfl) (SOps.nil ?_)))))))))))))))
   rcases cond_out h with ⟨g6, h⟩ | ⟨g6, h⟩
   ·refine SCode.cond_t rfl g6 (SCode.seq (SCode.region (sa rfl rfl (sa rfl rfl (SOps.nil (SCode.ret ?_))))))
    obtain rfl := Option.some.inj h
    exact ⟨⟨[(2, ci 0), (3, ci 20)], []⟩, _, sub_gen [] rfl rfl (zall rfl rfl) trivial, resA2 (v1 := .c (.int .i64 0)) (v2 := .c (.int .i64 20)) rfl rfl rfl, rfl⟩
   refine SCode.cond_f rfl g6 (SCode.skip ?_)
   exact ⟨(), h, sub_gen [] rfl rfl (zall rfl rfl) trivial⟩
  refine SCode.region (sm rfl rfl (sq rfl rfl (q_neq rfl rfl rfl) (sm rfl rfl (SOps.skip rfl 2 32 true rfl rfl (.inl (gF g4)) rfl (SOps.skip rfl 2 32 true rfl rfl (.inl (gF g4)) rfl (sq rfl rfl (q_pick_f rfl rfl g4 rfl) (sm rfl rfl (SOps.q rfl (.guard 6 36 false rfl rfl rfl) rfl (q_move rfl rfl) (SOps.q rfl (.guard 6 36 false rfl rfl rfl) rfl (q_eql rfl rfl rfl) (SOps.q rfl (.guard 6 36 false rfl rfl rfl) rfl (q_move rfl rfl) (SOps.q rfl (.guard 6 36 false rfl rfl rfl) rfl (q_convert rfl rfl un87 un3) (SOps.q rfl (.guard 6 36 false rfl rfl rfl) rfl (q_geq rfl rfl rfl) (SOps.q rfl (.guard 6 36 false rfl rfl rfl) rfl (q_neqB rfl rfl rfl un4) (sq rfl rfl (q_pick_f rfl rfl rfl rfl) (SOps.nil ?_)))))))))))))))
  rcases cond_out h with ⟨g7, h⟩ | ⟨g7, h⟩
  ·refine SCode.cond_t rfl g7 (SCode.seq (SCode.region (sa rfl rfl (sa rfl rfl (SOps.nil (SCode.ret ?_))))))
   obtain rfl := Option.some.inj h
   exact ⟨⟨[(2, ci 0), (3, ci 20)], []⟩, _, sub_gen [] rfl rfl (zall rfl rfl) trivial, resA2 (v1 := .c (.int .i64 0)) (v2 := .c (.int .i64 20)) rfl rfl rfl, rfl⟩
  refine SCode.cond_f rfl g7 (SCode.skip ?_)
  exact ⟨(), h, sub_gen [] rfl rfl (zall rfl rfl) trivial⟩
 rintro ⟨⟩ h
 show SCode _ _ _ S5 _
 try dsimp only at h
 unfold money_Sum_p3 at h
 refine SCode.seq (SCode.region (sm rfl rfl (sq rfl rfl (q_convert rfl rfl un87 un3) (sa rfl rfl (sa rfl rfl (SOps.nil (SCode.ret ?_)))))))
 obtain rfl := Option.some.inj h
 exact ⟨⟨[(2, ci (IntKind.wrap .i64 low_2)), (3, ci 0)], []⟩, _, sub_gen [] rfl rfl (zall rfl rfl) trivial, resA2 (v1 := .c (.int .i64 (IntKind.wrap .i64 low_2))) (v2 := .c (.int .i64 0)) rfl rfl rfl, rfl⟩
theorem settle_grants_own_ok (F : Nat) (a0_ds : List SDispute) (r : List (ByteArray × SDispute)) (h : settle_grants_own F a0_ds = some r) :
  SFun Try.prog 29 [] [.c (vSDispute a0_ds)] (fun x os => x = .c (.mp 0) ∧ os = [.map r.length (kG r) (vG (mA 6 cSDispute) dSDispute r)]) := by
 refine SFun.of (n := 35) Try.func29 rfl rfl rfl ?_
 unfold settle_grants_own at h
 show SCode _ _ _ ⟨[(0, .c (vSDispute a0_ds))], []⟩ _
 refine SCode.seq (SCode.region (sa rfl rfl (SOps.nil (SCode.seq (SCode.region (se rfl rfl (e_makeMap (α := SDispute) (mv := (mA 6 cSDispute)) (d0 := dSDispute) rfl rfl rfl mp68 (.inl rfl)) (sa rfl rfl (SOps.nil ?_))))))))
 let S9 := fun (o0_1 : List (ByteArray × SDispute)) => (⟨[(3, .c (.mp 0))], [.map o0_1.length (kG o0_1) (vG (mA 6 cSDispute) dSDispute o0_1)]⟩ : St)
 refine SCode.join (σ := (List (ByteArray × SDispute))) (S := fun s => (S9 s)) (g := fun s => settle_grants_own_p2 s = some r) ?_ ?_
 rotate_left
 ·refine SCode.seq (SCode.region (sm rfl rfl (sq rfl rfl (q_len_vec rfl rfl sl37) (sm rfl rfl (SOps.nil (SCode.block ?_))))))
  let S8 := fun (t11_9 : Int) => fun (o0_10 : List (ByteArray × SDispute)) => (⟨[(3, .c (.mp 0)), (9, .c (vSDispute a0_ds)), (10, ci (((a0_ds).length : Int))), (11, ci t11_9)], [.map o0_10.length (kG o0_10) (vG (mA 6 cSDispute) dSDispute o0_10)]⟩ : St)
  refine SCode.sub (st' := (S8 0 (([] : List (ByteArray × SDispute))))) (sub_gen [0] rfl rfl (zall rfl rfl) ⟨rfl, trivial⟩) ?_
  refine (SCode.loop (σ := Nat × (Int × (List (ByteArray × SDispute)))) (S := fun s => (S8 s.2.1 s.2.2)) (g := fun s => settle_grants_own_l17 a0_ds s.1 s.2.1 s.2.2 = some r) (μ := fun s => s.1) (F, (0, ([] : List (ByteArray × SDispute)))) h ?_)
  rintro ⟨n_17, ⟨t11_9, o0_10⟩⟩ h
  try dsimp only at h
  show SCode _ _ _ (S8 t11_9 o0_10) _
  cases n_17 with
  | zero => cases h
  | succ n_17 =>
   rw [settle_grants_own_l17] at h
   unfold settle_grants_own_b17 at h
   refine SCode.seq (SCode.region (sq rfl rfl (q_lss rfl rfl rfl) (SOps.nil (SCode.seq ?_))))
   rcases cond_out h with ⟨g18, h⟩ | ⟨g18, h⟩
   ·refine SCode.cond_t rfl g18 (SCode.skip ?_)
    let S7 := fun (o0_19 : List (ByteArray × SDispute)) => (⟨[(3, .c (.mp 0)), (9, .c (vSDispute a0_ds)), (10, ci (((a0_ds).length : Int))), (11, ci t11_9)], [.map o0_19.length (kG o0_19) (vG (mA 6 cSDispute) dSDispute o0_19)]⟩ : St)
    refine SCode.join (σ := (List (ByteArray × SDispute))) (S := fun s => (S7 s)) (g := fun s => settle_grants_own_p20 t11_9 (fun t11_9 o0_10 => settle_grants_own_l17 a0_ds n_17 t11_9 o0_10) s = some r) ?_ ?_
    rotate_left
    ·refine SCode.block (SCode.seq ?_)
     obtain ⟨g21, h⟩ := guard_out h
     refine SCode.region (sq rfl rfl (q_index_vec rfl rfl rfl sl37 rfl g21.1 g21.2) (sq rfl rfl (q_load_eptr_all rfl rfl rfl ty72) (se rfl rfl (e_alloc rfl rfl rfl z72) (se rfl rfl (e_store_box rfl rfl rfl rfl rfl ty72 rfl rfl rfl rfl) (SOps.nil (SCode.seq (SCode.region (sm rfl rfl (sq rfl rfl (q_field_ptr rfl rfl fd72_0) (sq rfl rfl (q_load_ptr rfl rfl rfl rfl ty9) (sq rfl rfl (q_lookup_ok (mv := (mA 6 cSDispute)) (d0 := dSDispute) (l := o0_10) (s := (a0_ds.getD t11_9.toNat dSDispute).CDR) rfl rfl rfl rfl mp68 z72 rfl) (sm rfl rfl (sq rfl rfl (q_extract rfl rfl rfl) (sq rfl rfl (q_extract rfl rfl rfl) (se rfl rfl (e_alloc rfl rfl rfl z72) ?_)))))))))))))))
     refine se rfl rfl (e_store_box rfl rfl rfl rfl rfl ty72 rfl rfl rfl rfl) (sa rfl rfl (SOps.nil (SCode.seq ?_)))
     rcases cond_out h with ⟨g22, h⟩ | ⟨g22, h⟩
     ·refine SCode.region (sm rfl rfl (sq rfl rfl (q_not rfl rfl) (sm rfl rfl (SOps.q rfl (.guard 2 24 true rfl rfl (gT g22)) rfl (q_field_ptr rfl rfl fd72_2) (SOps.q rfl (.guard 2 24 true rfl rfl (gT g22)) rfl (q_load_ptr rfl rfl rfl rfl ty3) (SOps.q rfl (.guard 2 24 true rfl rfl (gT g22)) rfl (q_eql rfl rfl rfl) (sq rfl rfl (q_pick_t rfl rfl g22 rfl) (SOps.sub (st' := ⟨[(3, .c (.mp 0)), (5, .c (.ptr 1 0)), (9, .c (vSDispute a0_ds)), (10, ci (((a0_ds).length : Int))), (11, ci t11_9), (28, .c (.bool (decide ((a0_ds.getD t11_9.toNat dSDispute).State = 4))))], [.map o0_10.length (kG o0_10) (vG (mA 6 cSDispute) dSDispute o0_10), .box (bSDispute (a0_ds.getD t11_9.toNat dSDispute))]⟩) (sub_gen [0, 1] rfl rfl (zall rfl rfl) ⟨rfl, bx rfl rfl rfl, trivial⟩) (SOps.nil ?_)))))))))
      rcases cond_out h with ⟨g23, h⟩ | ⟨g23, h⟩
      ·refine SCode.cond_t rfl g23 (SCode.region (sm rfl rfl (sq rfl rfl (q_field_ptr rfl rfl fd72_0) (sq rfl rfl (q_load_ptr rfl rfl rfl rfl ty9) (sq rfl rfl (q_load_ptr_all rfl rfl rfl rfl rfl ty72) (se rfl rfl (e_mapUpdate (mv := (mA 6 cSDispute)) (d0 := dSDispute) (l := o0_10) (s := (a0_ds.getD t11_9.toNat dSDispute).CDR) (v' := a0_ds.getD t11_9.toNat dSDispute) rfl rfl rfl rfl rfl rfl rfl mp68) (SOps.nil ?_)))))))
       exact ⟨aset o0_10 ((a0_ds.getD t11_9.toNat dSDispute).CDR) (a0_ds.getD t11_9.toNat dSDispute), h, sub_gen [0] rfl rfl (zall rfl rfl) ⟨rfl, trivial⟩⟩
      refine SCode.cond_f rfl g23 (SCode.skip ?_)
      exact ⟨o0_10, h, sub_gen [0] rfl rfl (zall rfl rfl) ⟨rfl, trivial⟩⟩
     refine SCode.region (sm rfl rfl (sq rfl rfl (q_not rfl rfl) (sm rfl rfl (SOps.skip rfl 2 24 true rfl rfl (.inl (gF g22)) rfl (SOps.skip rfl 2 24 true rfl rfl (.inl (gF g22)) rfl (SOps.skip rfl 2 24 true rfl rfl (.inl (gF g22)) rfl (sq rfl rfl (q_pick_f rfl rfl g22 rfl) (SOps.sub (st' := ⟨[(3, .c (.mp 0)), (5, .c (.ptr 1 0)), (9, .c (vSDispute a0_ds)), (10, ci (((a0_ds).length : Int))), (11, ci t11_9), (28, .c (.bool false))], [.map o0_10.length (kG o0_10) (vG (mA 6 cSDispute) dSDispute o0_10), .box (bSDispute (a0_ds.getD t11_9.toNat dSDispute))]⟩) (sub_gen [0, 1] rfl rfl (zall rfl rfl) ⟨rfl, bx rfl rfl rfl, trivial⟩) (SOps.nil (SCode.cond_f rfl rfl (SCode.skip ?_)))))))))))
     exact ⟨o0_10, h, sub_gen [0] rfl rfl (zall rfl rfl) ⟨rfl, trivial⟩⟩
    rintro o0_19 h
    show SCode _ _ _ (S7 o0_19) _
    try dsimp only at h
    unfold settle_grants_own_p20 at h
    refine SCode.region (sq rfl rfl (q_add rfl rfl rfl) (sm rfl rfl (SOps.nil ?_)))
    exact ⟨(n_17, (IntKind.wrap .i64 (t11_9 + 1), o0_19)), h, Nat.lt_succ_self n_17, sub_gen [0] rfl rfl (zall rfl rfl) ⟨rfl, trivial⟩⟩
   refine SCode.cond_f rfl g18 (SCode.exit ?_)
   exact ⟨o0_10, h, sub_gen [0] rfl rfl (zall rfl rfl) ⟨rfl, trivial⟩⟩
 rintro o0_1 h
 show SCode _ _ _ (S9 o0_1) _
 try dsimp only at h
 unfold settle_grants_own_p2 at h
 refine SCode.seq (SCode.region (sm rfl rfl (sa rfl rfl (SOps.nil (SCode.ret ?_)))))
 obtain rfl := Option.some.inj h
 exact ⟨⟨[(2, .c (.mp 0))], [.map o0_1.length (kG o0_1) (vG (mA 6 cSDispute) dSDispute o0_1)]⟩, _, sub_gen [0] rfl rfl (zall rfl rfl) ⟨rfl, trivial⟩, resA1 (v := .c (.mp 0)) rfl rfl, ⟨rfl, rfl⟩⟩
theorem settle_Owed_ok (F : Nat) (a0_l : List SCDR) (a1_ds : List SDispute) (a2_creditor : ByteArray) (a3_debtor : ByteArray) (a4_currency : ByteArray) (a5_s : SSpan) (r : Int × Int) (h : settle_Owed F a0_l a1_ds a2_creditor a3_debtor a4_currency a5_s = some r) :
  SFun Try.prog 15 [] [.c (vSCDR a0_l), .c (vSDispute a1_ds), .c (.str a2_creditor), .c (.str a3_debtor), .c (.str a4_currency), .a (bSSpan a5_s)] (fun x _ => x = .t [.c (.int .i64 r.1), .c (.int .i64 r.2)]) := by
 refine SFun.of (n := 100) Try.func15 rfl rfl rfl ?_
 unfold settle_Owed at h
 show SCode _ _ _ ⟨[(0, .c (vSCDR a0_l)), (1, .c (vSDispute a1_ds)), (2, .c (.str a2_creditor)), (3, .c (.str a3_debtor)), (4, .c (.str a4_currency)), (5, .a (bSSpan a5_s))], []⟩ _
 refine SCode.seq (SCode.region (se rfl rfl (e_box rfl rfl rfl rfl rfl rfl) (sa rfl rfl (sa rfl rfl (SOps.nil (SCode.seq (SCode.seq ?_)))))))
 obtain ⟨c_1, g2, h⟩ := bind_out h
 try dsimp only at h
 refine SCode.region (sm rfl rfl (sm rfl rfl (sm rfl rfl (sm rfl rfl (sm rfl rfl (sq rfl rfl (q_load_ptr_all rfl rfl rfl rfl rfl ty39) (sq rfl rfl (q_call (settle_check_ok F a0_l a1_ds a2_creditor a3_debtor a4_currency a5_s c_1 g2) [] rfl fn28 ⟨⟨_, rfl, .inl ⟨rfl, rfl⟩⟩, ⟨_, rfl, .inl ⟨rfl, rfl⟩⟩, ⟨_, rfl, .inl ⟨rfl, rfl⟩⟩, ⟨_, rfl, .inl ⟨rfl, rfl⟩⟩, ⟨_, rfl, .inl ⟨rfl, rfl⟩⟩, ⟨rfl, rfl⟩, trivial⟩ (.inl rfl)) (sa rfl rfl (SOps.nil (SCode.seq (SCode.region (sm rfl rfl (sq rfl rfl (q_neq rfl rfl rfl) (SOps.nil ?_))))))))))))))
 rcases cond_out h with ⟨g3, h⟩ | ⟨g3, h⟩
 ·refine SCode.cond_t rfl g3 (SCode.seq (SCode.region (sm rfl rfl (sa rfl rfl (sa rfl rfl (SOps.nil (SCode.ret ?_)))))))
  obtain rfl := Option.some.inj h
  exact ⟨⟨[(12, ci 0), (13, ci c_1)], []⟩, _, sub_gen [] rfl rfl (zall rfl rfl) trivial, resA2 (v1 := .c (.int .i64 0)) (v2 := .c (.int .i64 c_1)) rfl rfl rfl, rfl⟩
 refine SCode.cond_f rfl g3 (SCode.skip (SCode.seq ?_))
 obtain ⟨c_4, g5, h⟩ := bind_out h
 try dsimp only at h
 refine SCode.region (sm rfl rfl (se rfl rfl (e_call (settle_grants_own_ok F a1_ds c_4 g5) [] rfl fn29 rfl rfl rfl rfl rfl rfl rfl rfl) (sa rfl rfl (SOps.nil (SCode.seq (SCode.region (sa rfl rfl (SOps.nilArrL (T := 3) (k := 1) (cInt .i64) 0 (s := 16) rfl rfl (SOps.nil ?_)))))))))
 let S21 := fun (o0_6 : List Int) => (⟨[(16, .c (.own 0 o0_6.length))], [aI 3 o0_6]⟩ : St)
 refine SCode.join (σ := (List Int)) (S := fun s => (S21 s)) (g := fun s => settle_Owed_p10 F s = some r) ?_ ?_
 rotate_left
 ·refine SCode.seq (SCode.region (sm rfl rfl (sq rfl rfl (q_len_vec rfl rfl sl36) (sm rfl rfl (SOps.sub (st' := ⟨[(2, .c (.str a2_creditor)), (3, .c (.str a3_debtor)), (4, .c (.str a4_currency)), (11, .c (.ptr 0 0)), (15, .c (.mp 1)), (16, .c (.own 2 (([] : List Int)).length)), (36, .c (vSCDR a0_l)), (37, ci (((a0_l).length : Int))), (38, ci 0)], [.box (bSSpan a5_s), .map c_4.length (kG c_4) (vG (mA 6 cSDispute) dSDispute c_4), aI 3 (([] : List Int))]⟩) (sub_gen [0, 1, 2] rfl rfl (zall rfl rfl) ⟨bx rfl rfl rfl, rfl, oa rfl, trivial⟩) (SOps.nil (SCode.block ?_)))))))
  let S20 := fun (t38_27 : Int) => fun (o2_28 : List Int) => (⟨[(2, .c (.str a2_creditor)), (3, .c (.str a3_debtor)), (4, .c (.str a4_currency)), (11, .c (.ptr 0 0)), (15, .c (.mp 1)), (16, .c (.own 2 o2_28.length)), (36, .c (vSCDR a0_l)), (37, ci (((a0_l).length : Int))), (38, ci t38_27)], [.box (bSSpan a5_s), .map c_4.length (kG c_4) (vG (mA 6 cSDispute) dSDispute c_4), aI 3 o2_28]⟩ : St)
  refine SCode.sub (st' := (S20 0 (([] : List Int)))) (sub_gen [0, 1, 2] rfl rfl (zall rfl rfl) ⟨bx rfl rfl rfl, rfl, oa rfl, trivial⟩) ?_
  refine (SCode.loop (σ := Nat × (Int × (List Int))) (S := fun s => (S20 s.2.1 s.2.2)) (g := fun s => settle_Owed_l45 F a0_l a2_creditor a3_debtor a4_currency a5_s c_4 s.1 s.2.1 s.2.2 = some r) (μ := fun s => s.1) (F, (0, ([] : List Int))) h ?_)
  rintro ⟨n_45, ⟨t38_27, o2_28⟩⟩ h
  try dsimp only at h
  show SCode _ _ _ (S20 t38_27 o2_28) _
  cases n_45 with
  | zero => cases h
  | succ n_45 =>
   rw [settle_Owed_l45] at h
   unfold settle_Owed_b45 at h
   refine SCode.seq (SCode.region (sq rfl rfl (q_lss rfl rfl rfl) (SOps.nil (SCode.seq ?_))))
   rcases cond_out h with ⟨g46, h⟩ | ⟨g46, h⟩
   ·refine SCode.cond_t rfl g46 (SCode.skip ?_)
    let S19 := fun (o2_47 : List Int) => (⟨[(2, .c (.str a2_creditor)), (3, .c (.str a3_debtor)), (4, .c (.str a4_currency)), (11, .c (.ptr 0 0)), (15, .c (.mp 1)), (16, .c (.own 2 o2_47.length)), (36, .c (vSCDR a0_l)), (37, ci (((a0_l).length : Int))), (38, ci t38_27)], [.box (bSSpan a5_s), .map c_4.length (kG c_4) (vG (mA 6 cSDispute) dSDispute c_4), aI 3 o2_47]⟩ : St)
    refine SCode.join (σ := (List Int)) (S := fun s => (S19 s)) (g := fun s => settle_Owed_p48 t38_27 (fun t38_27 o2_28 => settle_Owed_l45 F a0_l a2_creditor a3_debtor a4_currency a5_s c_4 n_45 t38_27 o2_28) s = some r) ?_ ?_
    rotate_left
    ·refine SCode.block (SCode.seq ?_)
     obtain ⟨g49, h⟩ := guard_out h
     refine SCode.region (sq rfl rfl (q_index_vec rfl rfl rfl sl36 rfl g49.1 g49.2) (sq rfl rfl (q_load_eptr_all rfl rfl rfl ty47) (se rfl rfl (e_alloc rfl rfl rfl z47) (se rfl rfl (e_store_box rfl rfl rfl rfl rfl ty47 rfl rfl rfl rfl) (SOps.nil (SCode.seq (SCode.seq ?_)))))))
     rcases cond_out h with ⟨g50, h⟩ | ⟨g50, h⟩
     ·refine SCode.region (sq rfl rfl (q_field_ptr rfl rfl fd47_1) (sq rfl rfl (q_load_ptr rfl rfl rfl rfl ty9) (sm rfl rfl (sq rfl rfl (q_neqS rfl rfl rfl) (sm rfl rfl (SOps.skip rfl 4 46 false rfl rfl (.inl (gT g50)) rfl (SOps.skip rfl 4 46 false rfl rfl (.inl (gT g50)) rfl (SOps.skip rfl 4 46 false rfl rfl (.inl (gT g50)) rfl (SOps.skip rfl 4 46 false rfl rfl (.inl (gT g50)) rfl (sq rfl rfl (q_pick_t rfl rfl g50 rfl) (sm rfl rfl (SOps.skip rfl 10 52 false rfl rfl (.inl rfl) rfl (SOps.skip rfl 10 52 false rfl rfl (.inl rfl) rfl (SOps.skip rfl 10 52 false rfl rfl (.inl rfl) rfl (SOps.skip rfl 10 52 false rfl rfl (.inl rfl) rfl ?_)))))))))))))))
      refine sq rfl rfl (q_pick_t rfl rfl rfl rfl) (sm rfl rfl (SOps.skip rfl 16 58 false rfl rfl (.inl rfl) rfl (SOps.skip rfl 16 58 false rfl rfl (.inl rfl) rfl (SOps.skip rfl 16 58 false rfl rfl (.inl rfl) rfl (SOps.skip rfl 16 58 false rfl rfl (.inl rfl) rfl (SOps.skip rfl 16 58 false rfl rfl (.inl rfl) rfl (sq rfl rfl (q_pick_t rfl rfl rfl rfl) (sm rfl rfl (SOps.skip rfl 23 65 false rfl rfl (.inl rfl) rfl (SOps.skip rfl 23 65 false rfl rfl (.inl rfl) rfl (SOps.skip rfl 23 65 false rfl rfl (.inl rfl) rfl (SOps.skip rfl 23 65 false rfl rfl (.inl rfl) rfl (SOps.skip rfl 23 65 false rfl rfl (.inl rfl) rfl (sq rfl rfl (q_pick_t rfl rfl rfl rfl) (SOps.sub (st' := ⟨[(2, .c (.str a2_creditor)), (3, .c (.str a3_debtor)), (4, .c (.str a4_currency)), (11, .c (.ptr 0 0)), (15, .c (.mp 1)), (16, .c (.own 2 o2_28.length)), (18, .c (.ptr 3 0)), (36, .c (vSCDR a0_l)), (37, ci (((a0_l).length : Int))), (38, ci t38_27), (71, .c (.bool true))], [.box (bSSpan a5_s), .map c_4.length (kG c_4) (vG (mA 6 cSDispute) dSDispute c_4), aI 3 o2_28, .box (bSCDR (a0_l.getD t38_27.toNat dSCDR))]⟩) (sub_gen [0, 1, 2, 3] rfl rfl (zall rfl rfl) ⟨bx rfl rfl rfl, rfl, oa rfl, bx rfl rfl rfl, trivial⟩) ?_)))))))))))))))
      refine SOps.nil (SCode.cond_t rfl rfl (SCode.exit ?_))
      exact ⟨o2_28, h, sub_gen [0, 1, 2] rfl rfl (zall rfl rfl) ⟨bx rfl rfl rfl, rfl, oa rfl, trivial⟩⟩
     rcases cond_out h with ⟨g51, h⟩ | ⟨g51, h⟩
     ·refine SCode.region (sq rfl rfl (q_field_ptr rfl rfl fd47_1) (sq rfl rfl (q_load_ptr rfl rfl rfl rfl ty9) (sm rfl rfl (sq rfl rfl (q_neqS rfl rfl rfl) (sm rfl rfl (SOps.q rfl (.guard 4 46 false rfl rfl (gF g50)) rfl (q_field_ptr rfl rfl fd47_2) (SOps.q rfl (.guard 4 46 false rfl rfl (gF g50)) rfl (q_load_ptr rfl rfl rfl rfl ty9) (SOps.q rfl (.guard 4 46 false rfl rfl (gF g50)) rfl (q_move rfl rfl) (SOps.q rfl (.guard 4 46 false rfl rfl (gF g50)) rfl (q_neqS rfl rfl rfl) (sq rfl rfl (q_pick_f rfl rfl g50 rfl) (sm rfl rfl (SOps.skip rfl 10 52 false rfl rfl (.inl (gT g51)) rfl (SOps.skip rfl 10 52 false rfl rfl (.inl (gT g51)) rfl (SOps.skip rfl 10 52 false rfl rfl (.inl (gT g51)) rfl (SOps.skip rfl 10 52 false rfl rfl (.inl (gT g51)) rfl ?_)))))))))))))))
      refine sq rfl rfl (q_pick_t rfl rfl g51 rfl) (sm rfl rfl (SOps.skip rfl 16 58 false rfl rfl (.inl rfl) rfl (SOps.skip rfl 16 58 false rfl rfl (.inl rfl) rfl (SOps.skip rfl 16 58 false rfl rfl (.inl rfl) rfl (SOps.skip rfl 16 58 false rfl rfl (.inl rfl) rfl (SOps.skip rfl 16 58 false rfl rfl (.inl rfl) rfl (sq rfl rfl (q_pick_t rfl rfl rfl rfl) (sm rfl rfl (SOps.skip rfl 23 65 false rfl rfl (.inl rfl) rfl (SOps.skip rfl 23 65 false rfl rfl (.inl rfl) rfl (SOps.skip rfl 23 65 false rfl rfl (.inl rfl) rfl (SOps.skip rfl 23 65 false rfl rfl (.inl rfl) rfl (SOps.skip rfl 23 65 false rfl rfl (.inl rfl) rfl (sq rfl rfl (q_pick_t rfl rfl rfl rfl) (SOps.sub (st' := ⟨[(2, .c (.str a2_creditor)), (3, .c (.str a3_debtor)), (4, .c (.str a4_currency)), (11, .c (.ptr 0 0)), (15, .c (.mp 1)), (16, .c (.own 2 o2_28.length)), (18, .c (.ptr 3 0)), (36, .c (vSCDR a0_l)), (37, ci (((a0_l).length : Int))), (38, ci t38_27), (71, .c (.bool true))], [.box (bSSpan a5_s), .map c_4.length (kG c_4) (vG (mA 6 cSDispute) dSDispute c_4), aI 3 o2_28, .box (bSCDR (a0_l.getD t38_27.toNat dSCDR))]⟩) (sub_gen [0, 1, 2, 3] rfl rfl (zall rfl rfl) ⟨bx rfl rfl rfl, rfl, oa rfl, bx rfl rfl rfl, trivial⟩) ?_)))))))))))))))
      refine SOps.nil (SCode.cond_t rfl rfl (SCode.exit ?_))
      exact ⟨o2_28, h, sub_gen [0, 1, 2] rfl rfl (zall rfl rfl) ⟨bx rfl rfl rfl, rfl, oa rfl, trivial⟩⟩
     rcases cond_out h with ⟨g52, h⟩ | ⟨g52, h⟩
     ·refine SCode.region (sq rfl rfl (q_field_ptr rfl rfl fd47_1) (sq rfl rfl (q_load_ptr rfl rfl rfl rfl ty9) (sm rfl rfl (sq rfl rfl (q_neqS rfl rfl rfl) (sm rfl rfl (SOps.q rfl (.guard 4 46 false rfl rfl (gF g50)) rfl (q_field_ptr rfl rfl fd47_2) (SOps.q rfl (.guard 4 46 false rfl rfl (gF g50)) rfl (q_load_ptr rfl rfl rfl rfl ty9) (SOps.q rfl (.guard 4 46 false rfl rfl (gF g50)) rfl (q_move rfl rfl) (SOps.q rfl (.guard 4 46 false rfl rfl (gF g50)) rfl (q_neqS rfl rfl rfl) (sq rfl rfl (q_pick_f rfl rfl g50 rfl) (sm rfl rfl (SOps.q rfl (.guard 10 52 false rfl rfl (gF g51)) rfl (q_field_ptr rfl rfl fd47_9) (SOps.q rfl (.guard 10 52 false rfl rfl (gF g51)) rfl (q_load_ptr rfl rfl rfl rfl ty9) (SOps.q rfl (.guard 10 52 false rfl rfl (gF g51)) rfl (q_move rfl rfl) (SOps.q rfl (.guard 10 52 false rfl rfl (gF g51)) rfl (q_neqS rfl rfl rfl) ?_)))))))))))))))
      refine sq rfl rfl (q_pick_f rfl rfl g51 rfl) (sm rfl rfl (SOps.skip rfl 16 58 false rfl rfl (.inl (gT g52)) rfl (SOps.skip rfl 16 58 false rfl rfl (.inl (gT g52)) rfl (SOps.skip rfl 16 58 false rfl rfl (.inl (gT g52)) rfl (SOps.skip rfl 16 58 false rfl rfl (.inl (gT g52)) rfl (SOps.skip rfl 16 58 false rfl rfl (.inl (gT g52)) rfl (sq rfl rfl (q_pick_t rfl rfl g52 rfl) (sm rfl rfl (SOps.skip rfl 23 65 false rfl rfl (.inl rfl) rfl (SOps.skip rfl 23 65 false rfl rfl (.inl rfl) rfl (SOps.skip rfl 23 65 false rfl rfl (.inl rfl) rfl (SOps.skip rfl 23 65 false rfl rfl (.inl rfl) rfl (SOps.skip rfl 23 65 false rfl rfl (.inl rfl) rfl (sq rfl rfl (q_pick_t rfl rfl rfl rfl) (SOps.sub (st' := ⟨[(2, .c (.str a2_creditor)), (3, .c (.str a3_debtor)), (4, .c (.str a4_currency)), (11, .c (.ptr 0 0)), (15, .c (.mp 1)), (16, .c (.own 2 o2_28.length)), (18, .c (.ptr 3 0)), (36, .c (vSCDR a0_l)), (37, ci (((a0_l).length : Int))), (38, ci t38_27), (71, .c (.bool true))], [.box (bSSpan a5_s), .map c_4.length (kG c_4) (vG (mA 6 cSDispute) dSDispute c_4), aI 3 o2_28, .box (bSCDR (a0_l.getD t38_27.toNat dSCDR))]⟩) (sub_gen [0, 1, 2, 3] rfl rfl (zall rfl rfl) ⟨bx rfl rfl rfl, rfl, oa rfl, bx rfl rfl rfl, trivial⟩) ?_)))))))))))))))
      refine SOps.nil (SCode.cond_t rfl rfl (SCode.exit ?_))
      exact ⟨o2_28, h, sub_gen [0, 1, 2] rfl rfl (zall rfl rfl) ⟨bx rfl rfl rfl, rfl, oa rfl, trivial⟩⟩
     rcases cond_out h with ⟨g53, h⟩ | ⟨g53, h⟩
     ·refine SCode.region (sq rfl rfl (q_field_ptr rfl rfl fd47_1) (sq rfl rfl (q_load_ptr rfl rfl rfl rfl ty9) (sm rfl rfl (sq rfl rfl (q_neqS rfl rfl rfl) (sm rfl rfl (SOps.q rfl (.guard 4 46 false rfl rfl (gF g50)) rfl (q_field_ptr rfl rfl fd47_2) (SOps.q rfl (.guard 4 46 false rfl rfl (gF g50)) rfl (q_load_ptr rfl rfl rfl rfl ty9) (SOps.q rfl (.guard 4 46 false rfl rfl (gF g50)) rfl (q_move rfl rfl) (SOps.q rfl (.guard 4 46 false rfl rfl (gF g50)) rfl (q_neqS rfl rfl rfl) (sq rfl rfl (q_pick_f rfl rfl g50 rfl) (sm rfl rfl (SOps.q rfl (.guard 10 52 false rfl rfl (gF g51)) rfl (q_field_ptr rfl rfl fd47_9) (SOps.q rfl (.guard 10 52 false rfl rfl (gF g51)) rfl (q_load_ptr rfl rfl rfl rfl ty9) (SOps.q rfl (.guard 10 52 false rfl rfl (gF g51)) rfl (q_move rfl rfl) (SOps.q rfl (.guard 10 52 false rfl rfl (gF g51)) rfl (q_neqS rfl rfl rfl) ?_)))))))))))))))
      refine sq rfl rfl (q_pick_f rfl rfl g51 rfl) (sm rfl rfl (SOps.q rfl (.guard 16 58 false rfl rfl (gF g52)) rfl (q_field_ptr rfl rfl fd47_6) (SOps.q rfl (.guard 16 58 false rfl rfl (gF g52)) rfl (q_load_ptr rfl rfl rfl rfl ty3) (SOps.q rfl (.guard 16 58 false rfl rfl (gF g52)) rfl (q_field_ptr rfl rfl fd39_0) (SOps.q rfl (.guard 16 58 false rfl rfl (gF g52)) rfl (q_load_ptr rfl rfl rfl rfl ty3) (SOps.q rfl (.guard 16 58 false rfl rfl (gF g52)) rfl (q_lss rfl rfl rfl) (sq rfl rfl (q_pick_f rfl rfl g52 rfl) (sm rfl rfl (SOps.skip rfl 23 65 false rfl rfl (.inl (gT g53)) rfl (SOps.skip rfl 23 65 false rfl rfl (.inl (gT g53)) rfl (SOps.skip rfl 23 65 false rfl rfl (.inl (gT g53)) rfl (SOps.skip rfl 23 65 false rfl rfl (.inl (gT g53)) rfl (SOps.skip rfl 23 65 false rfl rfl (.inl (gT g53)) rfl (sq rfl rfl (q_pick_t rfl rfl g53 rfl) (SOps.sub (st' := ⟨[(2, .c (.str a2_creditor)), (3, .c (.str a3_debtor)), (4, .c (.str a4_currency)), (11, .c (.ptr 0 0)), (15, .c (.mp 1)), (16, .c (.own 2 o2_28.length)), (18, .c (.ptr 3 0)), (36, .c (vSCDR a0_l)), (37, ci (((a0_l).length : Int))), (38, ci t38_27), (71, .c (.bool true))], [.box (bSSpan a5_s), .map c_4.length (kG c_4) (vG (mA 6 cSDispute) dSDispute c_4), aI 3 o2_28, .box (bSCDR (a0_l.getD t38_27.toNat dSCDR))]⟩) (sub_gen [0, 1, 2, 3] rfl rfl (zall rfl rfl) ⟨bx rfl rfl rfl, rfl, oa rfl, bx rfl rfl rfl, trivial⟩) ?_)))))))))))))))
      refine SOps.nil (SCode.cond_t rfl rfl (SCode.exit ?_))
      exact ⟨o2_28, h, sub_gen [0, 1, 2] rfl rfl (zall rfl rfl) ⟨bx rfl rfl rfl, rfl, oa rfl, trivial⟩⟩
     refine SCode.region (sq rfl rfl (q_field_ptr rfl rfl fd47_1) (sq rfl rfl (q_load_ptr rfl rfl rfl rfl ty9) (sm rfl rfl (sq rfl rfl (q_neqS rfl rfl rfl) (sm rfl rfl (SOps.q rfl (.guard 4 46 false rfl rfl (gF g50)) rfl (q_field_ptr rfl rfl fd47_2) (SOps.q rfl (.guard 4 46 false rfl rfl (gF g50)) rfl (q_load_ptr rfl rfl rfl rfl ty9) (SOps.q rfl (.guard 4 46 false rfl rfl (gF g50)) rfl (q_move rfl rfl) (SOps.q rfl (.guard 4 46 false rfl rfl (gF g50)) rfl (q_neqS rfl rfl rfl) (sq rfl rfl (q_pick_f rfl rfl g50 rfl) (sm rfl rfl (SOps.q rfl (.guard 10 52 false rfl rfl (gF g51)) rfl (q_field_ptr rfl rfl fd47_9) (SOps.q rfl (.guard 10 52 false rfl rfl (gF g51)) rfl (q_load_ptr rfl rfl rfl rfl ty9) (SOps.q rfl (.guard 10 52 false rfl rfl (gF g51)) rfl (q_move rfl rfl) (SOps.q rfl (.guard 10 52 false rfl rfl (gF g51)) rfl (q_neqS rfl rfl rfl) ?_)))))))))))))))
     refine sq rfl rfl (q_pick_f rfl rfl g51 rfl) (sm rfl rfl (SOps.q rfl (.guard 16 58 false rfl rfl (gF g52)) rfl (q_field_ptr rfl rfl fd47_6) (SOps.q rfl (.guard 16 58 false rfl rfl (gF g52)) rfl (q_load_ptr rfl rfl rfl rfl ty3) (SOps.q rfl (.guard 16 58 false rfl rfl (gF g52)) rfl (q_field_ptr rfl rfl fd39_0) (SOps.q rfl (.guard 16 58 false rfl rfl (gF g52)) rfl (q_load_ptr rfl rfl rfl rfl ty3) (SOps.q rfl (.guard 16 58 false rfl rfl (gF g52)) rfl (q_lss rfl rfl rfl) (sq rfl rfl (q_pick_f rfl rfl g52 rfl) (sm rfl rfl (SOps.q rfl (.guard 23 65 false rfl rfl (gF g53)) rfl (q_field_ptr rfl rfl fd47_6) (SOps.q rfl (.guard 23 65 false rfl rfl (gF g53)) rfl (q_load_ptr rfl rfl rfl rfl ty3) (SOps.q rfl (.guard 23 65 false rfl rfl (gF g53)) rfl (q_field_ptr rfl rfl fd39_1) (SOps.q rfl (.guard 23 65 false rfl rfl (gF g53)) rfl (q_load_ptr rfl rfl rfl rfl ty3) (SOps.q rfl (.guard 23 65 false rfl rfl (gF g53)) rfl (q_geq rfl rfl rfl) (sq rfl rfl (q_pick_f rfl rfl g53 rfl) (SOps.sub (st' := ⟨[(2, .c (.str a2_creditor)), (3, .c (.str a3_debtor)), (4, .c (.str a4_currency)), (11, .c (.ptr 0 0)), (15, .c (.mp 1)), (16, .c (.own 2 o2_28.length)), (18, .c (.ptr 3 0)), (36, .c (vSCDR a0_l)), (37, ci (((a0_l).length : Int))), (38, ci t38_27), (71, .c (.bool (decide (a5_s.To ≤ (a0_l.getD t38_27.toNat dSCDR).End))))], [.box (bSSpan a5_s), .map c_4.length (kG c_4) (vG (mA 6 cSDispute) dSDispute c_4), aI 3 o2_28, .box (bSCDR (a0_l.getD t38_27.toNat dSCDR))]⟩) (sub_gen [0, 1, 2, 3] rfl rfl (zall rfl rfl) ⟨bx rfl rfl rfl, rfl, oa rfl, bx rfl rfl rfl, trivial⟩) ?_)))))))))))))))
     refine SOps.nil ?_
     rcases cond_out h with ⟨g54, h⟩ | ⟨g54, h⟩
     ·refine SCode.cond_t rfl g54 (SCode.exit ?_)
      exact ⟨o2_28, h, sub_gen [0, 1, 2] rfl rfl (zall rfl rfl) ⟨bx rfl rfl rfl, rfl, oa rfl, trivial⟩⟩
     refine SCode.cond_f rfl g54 (SCode.skip (SCode.seq (SCode.region (sa rfl rfl (SOps.nilArrL (T := 72) (k := 6) cSDispute dSDispute (s := 19) rfl rfl (SOps.nil ?_))))))
     let S18 := fun (o4_55 : List SDispute) => (⟨[(2, .c (.str a2_creditor)), (3, .c (.str a3_debtor)), (4, .c (.str a4_currency)), (11, .c (.ptr 0 0)), (15, .c (.mp 1)), (16, .c (.own 2 o2_28.length)), (18, .c (.ptr 3 0)), (19, .c (.own 4 o4_55.length)), (36, .c (vSCDR a0_l)), (37, ci (((a0_l).length : Int))), (38, ci t38_27)], [.box (bSSpan a5_s), .map c_4.length (kG c_4) (vG (mA 6 cSDispute) dSDispute c_4), aI 3 o2_28, .box (bSCDR (a0_l.getD t38_27.toNat dSCDR)), aSDispute 72 o4_55]⟩ : St)
     refine SCode.join (σ := (List SDispute)) (S := fun s => (S18 s)) (g := fun s => settle_Owed_p59 F a0_l t38_27 o2_28 (fun t38_27 o2_28 => settle_Owed_l45 F a0_l a2_creditor a3_debtor a4_currency a5_s c_4 n_45 t38_27 o2_28) s = some r) ?_ ?_
     rotate_left
     ·refine SCode.seq (SCode.region (sm rfl rfl (sq rfl rfl (q_field_ptr rfl rfl fd47_0) (sq rfl rfl (q_load_ptr rfl rfl rfl rfl ty9) (sq rfl rfl (q_lookup_ok (mv := (mA 6 cSDispute)) (d0 := dSDispute) (l := c_4) (s := (a0_l.getD t38_27.toNat dSCDR).ID) rfl rfl rfl rfl mp68 z72 rfl) (sm rfl rfl (sq rfl rfl (q_extract rfl rfl rfl) (sq rfl rfl (q_extract rfl rfl rfl) (se rfl rfl (e_alloc rfl rfl rfl z72) (se rfl rfl (e_store_box rfl rfl rfl rfl rfl ty72 rfl rfl rfl rfl) (sa rfl rfl (SOps.nil (SCode.seq (SCode.region (sm rfl rfl ?_)))))))))))))))
      refine SOps.nil ?_
      rcases cond_out h with ⟨g60, h⟩ | ⟨g60, h⟩
      ·refine SCode.cond_t rfl g60 ?_
       obtain ⟨g61, h⟩ := guard_out h
       refine SCode.region (sm rfl rfl (sq rfl rfl (q_load_ptr_all rfl rfl rfl rfl rfl ty72) (sq rfl rfl (q_bsliceL (c := cSDispute) (d0 := dSDispute) [(alook c_4 ((a0_l.getD t38_27.toNat dSCDR).ID)).getD dSDispute] rfl rfl sl37 z72 rfl rfl rfl rfl rfl rfl rfl) (se rfl rfl (e_appendL (c := cSDispute) (d0 := dSDispute) (l := ([] : List SDispute)) (l2 := [(alook c_4 ((a0_l.getD t38_27.toNat dSCDR).ID)).getD dSDispute]) rfl rfl rfl rfl rfl rfl (.inl rfl) sl37 z72 rfl rfl oneSDispute g61.1 g61.2) (sa rfl rfl ?_)))))
       let y1 := (([] : List SDispute)) ++ ([(alook c_4 ((a0_l.getD t38_27.toNat dSCDR).ID)).getD dSDispute])
       refine SOps.sub (st' := ⟨[(2, .c (.str a2_creditor)), (3, .c (.str a3_debtor)), (4, .c (.str a4_currency)), (11, .c (.ptr 0 0)), (15, .c (.mp 1)), (16, .c (.own 2 o2_28.length)), (18, .c (.ptr 3 0)), (19, .c (.own 4 y1.length)), (36, .c (vSCDR a0_l)), (37, ci (((a0_l).length : Int))), (38, ci t38_27)], [.box (bSSpan a5_s), .map c_4.length (kG c_4) (vG (mA 6 cSDispute) dSDispute c_4), aI 3 o2_28, .box (bSCDR (a0_l.getD t38_27.toNat dSCDR)), aSDispute 72 y1]⟩) (sub_gen [0, 1, 2, 3, 6] rfl rfl (zall rfl rfl) ⟨bx rfl rfl rfl, rfl, oa rfl, bx rfl rfl rfl, oa rfl, trivial⟩) (SOps.nil ?_)
       exact ⟨(([] : List SDispute)) ++ ([(alook c_4 ((a0_l.getD t38_27.toNat dSCDR).ID)).getD dSDispute]), h, sub_gen [0, 1, 2, 3, 4] rfl rfl (zall rfl rfl) ⟨bx rfl rfl rfl, rfl, oa rfl, bx rfl rfl rfl, oa rfl, trivial⟩⟩
      refine SCode.cond_f rfl g60 (SCode.skip ?_)
      exact ⟨([] : List SDispute), h, sub_gen [0, 1, 2, 3, 4] rfl rfl (zall rfl rfl) ⟨bx rfl rfl rfl, rfl, oa rfl, bx rfl rfl rfl, oa rfl, trivial⟩⟩
     rintro o4_55 h
     show SCode _ _ _ (S18 o4_55) _
     try dsimp only at h
     unfold settle_Owed_p59 at h
     obtain ⟨c_56, g57, h⟩ := bind_out h
     try dsimp only at h
     obtain ⟨g58, h⟩ := guard_out h
     refine SCode.region (sm rfl rfl (sq rfl rfl (q_load_ptr_all rfl rfl rfl rfl rfl ty47) (sm rfl rfl (sq rfl rfl (q_call (dispute_Amount_ok F (a0_l.getD t38_27.toNat dSCDR) o4_55 c_56 g57) [4] rfl fn30 ⟨⟨rfl, rfl⟩, ⟨_, rfl, .inr (.inl ⟨_, _, _, _, _, _, _, rfl, rfl, rfl, Nat.le_refl _, fun _ _ _ _ => rfl, (.head _)⟩)⟩, trivial⟩ (.inr rfl)) (sq rfl rfl (q_bsliceL (c := (cInt .i64)) (d0 := 0) [c_56] rfl rfl sl70 z3 rfl rfl rfl rfl rfl rfl rfl) (se rfl rfl (e_appendL (c := (cInt .i64)) (d0 := 0) (l := o2_28) (l2 := [c_56]) rfl rfl rfl rfl rfl rfl (.inl rfl) sl70 z3 rfl rfl oneInt g58.1 g58.2) (sa rfl rfl (SOps.sub (st' := ⟨[(2, .c (.str a2_creditor)), (3, .c (.str a3_debtor)), (4, .c (.str a4_currency)), (11, .c (.ptr 0 0)), (15, .c (.mp 1)), (16, .c (.own 2 (o2_28 ++ ([c_56])).length)), (36, .c (vSCDR a0_l)), (37, ci (((a0_l).length : Int))), (38, ci t38_27)], [.box (bSSpan a5_s), .map c_4.length (kG c_4) (vG (mA 6 cSDispute) dSDispute c_4), aI 3 (o2_28 ++ ([c_56]))]⟩) (sub_gen [0, 1, 5] rfl rfl (zall rfl rfl) ⟨bx rfl rfl rfl, rfl, oa rfl, trivial⟩) (SOps.nil ?_)))))))))
     exact ⟨o2_28 ++ ([c_56]), h, sub_gen [0, 1, 2] rfl rfl (zall rfl rfl) ⟨bx rfl rfl rfl, rfl, oa rfl, trivial⟩⟩
    rintro o2_47 h
    show SCode _ _ _ (S19 o2_47) _
    try dsimp only at h
    unfold settle_Owed_p48 at h
    refine SCode.region (sq rfl rfl (q_add rfl rfl rfl) (sm rfl rfl (SOps.nil ?_)))
    exact ⟨(n_45, (IntKind.wrap .i64 (t38_27 + 1), o2_47)), h, Nat.lt_succ_self n_45, sub_gen [0, 1, 2] rfl rfl (zall rfl rfl) ⟨bx rfl rfl rfl, rfl, oa rfl, trivial⟩⟩
   refine SCode.cond_f rfl g46 (SCode.exit ?_)
   exact ⟨o2_28, h, sub_gen [2] rfl rfl (zall rfl rfl) ⟨oa rfl, trivial⟩⟩
 rintro o0_6 h
 show SCode _ _ _ (S21 o0_6) _
 try dsimp only at h
 unfold settle_Owed_p10 at h
 refine SCode.seq ?_
 obtain ⟨c_7, g8, h⟩ := bind_out h
 try dsimp only at h
 refine SCode.region (sm rfl rfl (sq rfl rfl (q_call (money_Sum_ok F o0_6 c_7 g8) [0] rfl fn31 ⟨⟨_, rfl, .inr (.inl ⟨_, _, _, _, _, _, _, rfl, rfl, rfl, Nat.le_refl _, fun _ _ _ _ => rfl, (.head _)⟩)⟩, trivial⟩ (.inr rfl)) (sm rfl rfl (sq rfl rfl (q_extract rfl rfl rfl) (sq rfl rfl (q_extract rfl rfl rfl) (sa rfl rfl (sa rfl rfl (SOps.nil (SCode.seq (SCode.seq (SCode.region (sm rfl rfl (sq rfl rfl (q_neq rfl rfl rfl) (SOps.nil ?_))))))))))))))
 rcases cond_out h with ⟨g9, h⟩ | ⟨g9, h⟩
 ·refine SCode.cond_t rfl g9 (SCode.seq (SCode.region (sm rfl rfl (sa rfl rfl (sa rfl rfl (SOps.nil (SCode.ret ?_)))))))
  obtain rfl := Option.some.inj h
  exact ⟨⟨[(12, ci 0), (13, ci c_7.2)], []⟩, _, sub_gen [] rfl rfl (zall rfl rfl) trivial, resA2 (v1 := .c (.int .i64 0)) (v2 := .c (.int .i64 c_7.2)) rfl rfl rfl, rfl⟩
 refine SCode.cond_f rfl g9 (SCode.skip (SCode.seq (SCode.region (sm rfl rfl (sa rfl rfl (sa rfl rfl (SOps.nil (SCode.ret ?_))))))))
 obtain rfl := Option.some.inj h
 exact ⟨⟨[(12, ci c_7.1), (13, ci 0)], []⟩, _, sub_gen [] rfl rfl (zall rfl rfl) trivial, resA2 (v1 := .c (.int .i64 c_7.1)) (v2 := .c (.int .i64 0)) rfl rfl rfl, rfl⟩
theorem settle_Balance_ok (F : Nat) (a0_l : List SCDR) (a1_ds : List SDispute) (a2_a : ByteArray) (a3_b : ByteArray) (a4_currency : ByteArray) (a5_s : SSpan) (r : SBalance × Int) (h : settle_Balance F a0_l a1_ds a2_a a3_b a4_currency a5_s = some r) :
  SFun Try.prog 19 [] [.c (vSCDR a0_l), .c (vSDispute a1_ds), .c (.str a2_a), .c (.str a3_b), .c (.str a4_currency), .a (bSSpan a5_s)] (fun x _ => x = .t [.a [.str r.1.Creditor, .str r.1.Debtor, .str r.1.Currency, .int .i64 r.1.Amount], .c (.int .i64 r.2)]) := by
 refine SFun.of (n := 74) Try.func19 rfl rfl rfl ?_
 unfold settle_Balance at h
 show SCode _ _ _ ⟨[(0, .c (vSCDR a0_l)), (1, .c (vSDispute a1_ds)), (2, .c (.str a2_a)), (3, .c (.str a3_b)), (4, .c (.str a4_currency)), (5, .a (bSSpan a5_s))], []⟩ _
 refine SCode.seq (SCode.region (se rfl rfl (e_box rfl rfl rfl rfl rfl rfl) (se rfl rfl (e_alloc rfl rfl rfl z35) (sa rfl rfl (SOps.nil (SCode.seq ?_))))))
 obtain ⟨c_1, g2, h⟩ := bind_out h
 try dsimp only at h
 refine SCode.region (sm rfl rfl (sm rfl rfl (sm rfl rfl (sm rfl rfl (sm rfl rfl (sq rfl rfl (q_load_ptr_all rfl rfl rfl rfl rfl ty39) (sq rfl rfl (q_call (settle_Owed_ok F a0_l a1_ds a2_a a3_b a4_currency a5_s c_1 g2) [] rfl fn15 ⟨⟨_, rfl, .inl ⟨rfl, rfl⟩⟩, ⟨_, rfl, .inl ⟨rfl, rfl⟩⟩, ⟨_, rfl, .inl ⟨rfl, rfl⟩⟩, ⟨_, rfl, .inl ⟨rfl, rfl⟩⟩, ⟨_, rfl, .inl ⟨rfl, rfl⟩⟩, ⟨rfl, rfl⟩, trivial⟩ (.inl rfl)) (sm rfl rfl (sq rfl rfl (q_extract rfl rfl rfl) (sq rfl rfl (q_extract rfl rfl rfl) (sa rfl rfl (sa rfl rfl (SOps.nil (SCode.seq (SCode.seq ?_)))))))))))))))
 refine SCode.region (sm rfl rfl (sq rfl rfl (q_neq rfl rfl rfl) (SOps.nil ?_)))
 rcases cond_out h with ⟨g3, h⟩ | ⟨g3, h⟩
 ·refine SCode.cond_t rfl g3 (SCode.seq (SCode.region (sq rfl rfl (q_build2 rfl rfl pl35 rfl) (sm rfl rfl (se rfl rfl (e_store_box rfl rfl rfl rfl rfl ty35 rfl rfl rfl rfl) (sa rfl rfl (SOps.sub (st' := ⟨[(12, .c (.ptr 0 0)), (13, ci c_1.2)], [.box [.str ByteArray.empty, .str ByteArray.empty, .str ByteArray.empty, .int .i64 0]]⟩) (sub_gen [1] rfl rfl (zall rfl rfl) ⟨bx rfl rfl rfl, trivial⟩) (SOps.nil (SCode.ret ?_)))))))))
  obtain rfl := Option.some.inj h
  exact ⟨⟨[(12, .c (.ptr 0 0)), (13, ci c_1.2)], [.box [.str ByteArray.empty, .str ByteArray.empty, .str ByteArray.empty, .int .i64 0]]⟩, _, sub_gen [0] rfl rfl (zall rfl rfl) ⟨bx rfl rfl rfl, trivial⟩, resA2 (v1 := .a [.str ByteArray.empty, .str ByteArray.empty, .str ByteArray.empty, .int .i64 0]) (v2 := .c (.int .i64 c_1.2)) rfl ⟨_, rfl, rfl, ty35⟩ rfl, rfl⟩
 refine SCode.cond_f rfl g3 (SCode.skip (SCode.seq ?_))
 obtain ⟨c_4, g5, h⟩ := bind_out h
 try dsimp only at h
 refine SCode.region (sm rfl rfl (sm rfl rfl (sm rfl rfl (sm rfl rfl (sm rfl rfl (sq rfl rfl (q_load_ptr_all rfl rfl rfl rfl rfl ty39) (sq rfl rfl (q_call (settle_Owed_ok F a0_l a1_ds a3_b a2_a a4_currency a5_s c_4 g5) [] rfl fn15 ⟨⟨_, rfl, .inl ⟨rfl, rfl⟩⟩, ⟨_, rfl, .inl ⟨rfl, rfl⟩⟩, ⟨_, rfl, .inl ⟨rfl, rfl⟩⟩, ⟨_, rfl, .inl ⟨rfl, rfl⟩⟩, ⟨_, rfl, .inl ⟨rfl, rfl⟩⟩, ⟨rfl, rfl⟩, trivial⟩ (.inl rfl)) (sm rfl rfl (sq rfl rfl (q_extract rfl rfl rfl) (sq rfl rfl (q_extract rfl rfl rfl) (sa rfl rfl (sa rfl rfl (SOps.sub (st' := ⟨[(2, .c (.str a2_a)), (3, .c (.str a3_b)), (4, .c (.str a4_currency)), (12, .c (.ptr 0 0)), (14, ci c_1.1), (15, ci c_4.2), (16, ci c_4.1)], [.box [.str ByteArray.empty, .str ByteArray.empty, .str ByteArray.empty, .int .i64 0]]⟩) (sub_gen [1] rfl rfl (zall rfl rfl) ⟨bx rfl rfl rfl, trivial⟩) (SOps.nil (SCode.seq ?_)))))))))))))))
 refine SCode.seq (SCode.region (sm rfl rfl (sq rfl rfl (q_neq rfl rfl rfl) (SOps.nil ?_))))
 rcases cond_out h with ⟨g6, h⟩ | ⟨g6, h⟩
 ·refine SCode.cond_t rfl g6 (SCode.seq (SCode.region (sq rfl rfl (q_build2 rfl rfl pl35 rfl) (sm rfl rfl (se rfl rfl (e_store_box rfl rfl rfl rfl rfl ty35 rfl rfl rfl rfl) (sa rfl rfl (SOps.nil (SCode.ret ?_))))))))
  obtain rfl := Option.some.inj h
  exact ⟨⟨[(12, .c (.ptr 0 0)), (13, ci c_4.2)], [.box [.str ByteArray.empty, .str ByteArray.empty, .str ByteArray.empty, .int .i64 0]]⟩, _, sub_gen [0] rfl rfl (zall rfl rfl) ⟨bx rfl rfl rfl, trivial⟩, resA2 (v1 := .a [.str ByteArray.empty, .str ByteArray.empty, .str ByteArray.empty, .int .i64 0]) (v2 := .c (.int .i64 c_4.2)) rfl ⟨_, rfl, rfl, ty35⟩ rfl, rfl⟩
 refine SCode.cond_f rfl g6 (SCode.skip ?_)
 let S1 := fun (a_7 : ByteArray) => fun (b_8 : ByteArray) => fun (x_9 : Int) => fun (y_10 : Int) => (⟨[(2, .c (.str a_7)), (3, .c (.str b_8)), (4, .c (.str a4_currency)), (12, .c (.ptr 0 0)), (14, ci x_9), (16, ci y_10)], [.box [.str ByteArray.empty, .str ByteArray.empty, .str ByteArray.empty, .int .i64 0]]⟩ : St)
 refine SCode.join (σ := ByteArray × ByteArray × Int × Int) (S := fun s => (S1 s.1 s.2.1 s.2.2.1 s.2.2.2)) (g := fun s => settle_Balance_p12 a4_currency s.1 s.2.1 s.2.2.1 s.2.2.2 = some r) ?_ ?_
 rotate_left
 ·refine SCode.seq ?_
  rcases cond_out h with ⟨g13, h⟩ | ⟨g13, h⟩
  ·refine SCode.region (sm rfl rfl (sm rfl rfl (sq rfl rfl (q_lss rfl rfl rfl) (sm rfl rfl (SOps.skip rfl 3 49 false rfl rfl (.inl (gT g13)) rfl (SOps.skip rfl 3 49 false rfl rfl (.inl (gT g13)) rfl (SOps.skip rfl 3 49 false rfl rfl (.inl (gT g13)) rfl (SOps.skip rfl 3 49 false rfl rfl (.inl (gT g13)) rfl (SOps.skip rfl 7 53 true rfl rfl (.inr rfl) rfl (SOps.skip rfl 7 53 true rfl rfl (.inr rfl) rfl (SOps.skip rfl 7 53 true rfl rfl (.inr rfl) rfl (SOps.skip rfl 3 49 false rfl rfl (.inl (gT g13)) rfl (sq rfl rfl (q_pick_t rfl rfl g13 rfl) (SOps.nil (SCode.cond_t rfl rfl ?_)))))))))))))))
   refine SCode.region (sm rfl rfl (sm rfl rfl (sm rfl rfl (sm rfl rfl (sa rfl rfl (sa rfl rfl (sa rfl rfl (sa rfl rfl (SOps.sub (st' := ⟨[(2, .c (.str a3_b)), (3, .c (.str a2_a)), (4, .c (.str a4_currency)), (12, .c (.ptr 0 0)), (14, ci c_4.1), (16, ci c_1.1)], [.box [.str ByteArray.empty, .str ByteArray.empty, .str ByteArray.empty, .int .i64 0]]⟩) (sub_gen [0] rfl rfl (zall rfl rfl) ⟨bx rfl rfl rfl, trivial⟩) (SOps.nil ?_))))))))))
   exact ⟨(a3_b, a2_a, c_4.1, c_1.1), h, sub_gen [0] rfl rfl (zall rfl rfl) ⟨bx rfl rfl rfl, trivial⟩⟩
  rcases cond_out h with ⟨g14, h⟩ | ⟨g14, h⟩
  ·refine SCode.region (sm rfl rfl (sm rfl rfl (sq rfl rfl (q_lss rfl rfl rfl) (sm rfl rfl (SOps.q rfl (.guard 3 49 false rfl rfl (gF g13)) rfl (q_move rfl rfl) (SOps.q rfl (.guard 3 49 false rfl rfl (gF g13)) rfl (q_move rfl rfl) (SOps.q rfl (.guard 3 49 false rfl rfl (gF g13)) rfl (q_eql rfl rfl rfl) (SOps.q rfl (.guard 3 49 false rfl rfl (gF g13)) rfl (q_move rfl rfl) (SOps.q rfl (.guard 7 53 true rfl rfl (gT g14)) rfl (q_move rfl rfl) (SOps.q rfl (.guard 7 53 true rfl rfl (gT g14)) rfl (q_move rfl rfl) (SOps.q rfl (.guard 7 53 true rfl rfl (gT g14)) rfl (q_lssS rfl rfl rfl) (SOps.q rfl (.guard 3 49 false rfl rfl (gF g13)) rfl (q_pick_t rfl rfl g14 rfl) (sq rfl rfl (q_pick_f rfl rfl g13 rfl) (SOps.nil ?_))))))))))))))
   rcases cond_out h with ⟨g15, h⟩ | ⟨g15, h⟩
   ·refine SCode.cond_t rfl g15 (SCode.region (sm rfl rfl (sm rfl rfl (sm rfl rfl (sm rfl rfl (sa rfl rfl (sa rfl rfl (sa rfl rfl (sa rfl rfl (SOps.sub (st' := ⟨[(2, .c (.str a3_b)), (3, .c (.str a2_a)), (4, .c (.str a4_currency)), (12, .c (.ptr 0 0)), (14, ci c_4.1), (16, ci c_1.1)], [.box [.str ByteArray.empty, .str ByteArray.empty, .str ByteArray.empty, .int .i64 0]]⟩) (sub_gen [0] rfl rfl (zall rfl rfl) ⟨bx rfl rfl rfl, trivial⟩) (SOps.nil ?_)))))))))))
    exact ⟨(a3_b, a2_a, c_4.1, c_1.1), h, sub_gen [0] rfl rfl (zall rfl rfl) ⟨bx rfl rfl rfl, trivial⟩⟩
   refine SCode.cond_f rfl g15 (SCode.skip ?_)
   exact ⟨(a2_a, a3_b, c_1.1, c_4.1), h, sub_gen [0] rfl rfl (zall rfl rfl) ⟨bx rfl rfl rfl, trivial⟩⟩
  refine SCode.region (sm rfl rfl (sm rfl rfl (sq rfl rfl (q_lss rfl rfl rfl) (sm rfl rfl (SOps.q rfl (.guard 3 49 false rfl rfl (gF g13)) rfl (q_move rfl rfl) (SOps.q rfl (.guard 3 49 false rfl rfl (gF g13)) rfl (q_move rfl rfl) (SOps.q rfl (.guard 3 49 false rfl rfl (gF g13)) rfl (q_eql rfl rfl rfl) (SOps.q rfl (.guard 3 49 false rfl rfl (gF g13)) rfl (q_move rfl rfl) (SOps.skip rfl 7 53 true rfl rfl (.inl (gF g14)) rfl (SOps.skip rfl 7 53 true rfl rfl (.inl (gF g14)) rfl (SOps.skip rfl 7 53 true rfl rfl (.inl (gF g14)) rfl (SOps.q rfl (.guard 3 49 false rfl rfl (gF g13)) rfl (q_pick_f rfl rfl g14 rfl) (sq rfl rfl (q_pick_f rfl rfl g13 rfl) (SOps.nil (SCode.cond_f rfl rfl ?_)))))))))))))))
  refine SCode.skip ?_
  exact ⟨(a2_a, a3_b, c_1.1, c_4.1), h, sub_gen [0] rfl rfl (zall rfl rfl) ⟨bx rfl rfl rfl, trivial⟩⟩
 rintro ⟨a_7, b_8, x_9, y_10⟩ h
 show SCode _ _ _ (S1 a_7 b_8 x_9 y_10) _
 try dsimp only at h
 unfold settle_Balance_p12 at h
 refine SCode.seq (SCode.region (sm rfl rfl (sm rfl rfl (sq rfl rfl (q_sub rfl rfl rfl) (sa rfl rfl (SOps.nil (SCode.seq (SCode.seq (SCode.region (sm rfl rfl (sq rfl rfl (q_lss rfl rfl rfl) (SOps.nil ?_))))))))))))
 rcases cond_out h with ⟨g11, h⟩ | ⟨g11, h⟩
 ·refine SCode.cond_t rfl g11 (SCode.seq (SCode.region (sq rfl rfl (q_build2 rfl rfl pl35 rfl) (se rfl rfl (e_store_box rfl rfl rfl rfl rfl ty35 rfl rfl rfl rfl) (sa rfl rfl (SOps.nil (SCode.ret ?_)))))))
  obtain rfl := Option.some.inj h
  exact ⟨⟨[(12, .c (.ptr 0 0)), (13, ci 20)], [.box [.str ByteArray.empty, .str ByteArray.empty, .str ByteArray.empty, .int .i64 0]]⟩, _, sub_gen [0] rfl rfl (zall rfl rfl) ⟨bx rfl rfl rfl, trivial⟩, resA2 (v1 := .a [.str ByteArray.empty, .str ByteArray.empty, .str ByteArray.empty, .int .i64 0]) (v2 := .c (.int .i64 20)) rfl ⟨_, rfl, rfl, ty35⟩ rfl, rfl⟩
 refine SCode.cond_f rfl g11 (SCode.skip (SCode.seq (SCode.region (sm rfl rfl (sm rfl rfl (sm rfl rfl (sm rfl rfl (sq rfl rfl (q_build2 rfl rfl pl35 rfl) (se rfl rfl (e_store_box rfl rfl rfl rfl rfl ty35 rfl rfl rfl rfl) (sa rfl rfl (SOps.nil (SCode.ret ?_))))))))))))
 obtain rfl := Option.some.inj h
 exact ⟨⟨[(12, .c (.ptr 0 0)), (13, ci 0)], [.box [.str a_7, .str b_8, .str a4_currency, .int .i64 (IntKind.wrap .i64 (x_9 - y_10))]]⟩, _, sub_gen [0] rfl rfl (zall rfl rfl) ⟨bx rfl rfl rfl, trivial⟩, resA2 (v1 := .a [.str a_7, .str b_8, .str a4_currency, .int .i64 (IntKind.wrap .i64 (x_9 - y_10))]) (v2 := .c (.int .i64 0)) rfl ⟨_, rfl, rfl, ty35⟩ rfl, rfl⟩
theorem chargenetlaw49_SettleCredits_ok (F : Nat) (a0_c : SCase) (r : Bool) (h : chargenetlaw49_SettleCredits F a0_c = some r) :
  SFun Try.prog 7 [] [.a (bSCase a0_c)] (fun x _ => x = .c (.bool r)) := by
 refine SFun.of (n := 63) Try.func7 rfl rfl rfl ?_
 unfold chargenetlaw49_SettleCredits at h
 show SCode _ _ _ ⟨[(0, .a (bSCase a0_c))], []⟩ _
 refine SCode.seq (SCode.region (se rfl rfl (e_box rfl rfl rfl rfl rfl rfl) (sa rfl rfl (SOps.nil (SCode.seq (SCode.seq ?_))))))
 obtain ⟨c_1, g2, h⟩ := bind_out h
 try dsimp only at h
 rcases cond_out h with ⟨g3, h⟩ | ⟨g3, h⟩
 ·refine SCode.region (sq rfl rfl (q_load_ptr_all rfl rfl rfl rfl rfl ty41) (sq rfl rfl (q_call (chargenetlaw49_Small_ok F a0_c c_1 g2) [] rfl fn14 ⟨⟨rfl, rfl⟩, trivial⟩ (.inl rfl)) (sq rfl rfl (q_not rfl rfl) (sm rfl rfl (SOps.skip rfl 3 13 false rfl rfl (.inl (gT g3)) rfl (SOps.skip rfl 3 13 false rfl rfl (.inl (gT g3)) rfl (SOps.skip rfl 3 13 false rfl rfl (.inl (gT g3)) rfl (SOps.skip rfl 3 13 false rfl rfl (.inl (gT g3)) rfl (sq rfl rfl (q_pick_t rfl rfl g3 rfl) (SOps.nil (SCode.cond_t rfl rfl (SCode.seq ?_))))))))))))
  obtain ⟨c_4, g5, h⟩ := bind_out h
  try dsimp only at h
  refine SCode.region (sq rfl rfl (q_call (chargenetlaw49_exampleHolds_ok F  c_4 g5) [] rfl fn8 trivial (.inl rfl)) (sa rfl rfl (SOps.nil (SCode.ret ?_))))
  obtain rfl := Option.some.inj h
  exact ⟨⟨[(2, .c (.bool c_4))], []⟩, _, sub_gen [] rfl rfl (zall rfl rfl) trivial, resA1 (v := .c (.bool c_4)) rfl rfl, rfl⟩
 refine SCode.region (sq rfl rfl (q_load_ptr_all rfl rfl rfl rfl rfl ty41) (sq rfl rfl (q_call (chargenetlaw49_Small_ok F a0_c c_1 g2) [] rfl fn14 ⟨⟨rfl, rfl⟩, trivial⟩ (.inl rfl)) (sq rfl rfl (q_not rfl rfl) (sm rfl rfl (SOps.q rfl (.guard 3 13 false rfl rfl (gF g3)) rfl (q_field_ptr rfl rfl fd41_0) (SOps.q rfl (.guard 3 13 false rfl rfl (gF g3)) rfl (q_load_ptr rfl rfl rfl rfl ty36) (SOps.q rfl (.guard 3 13 false rfl rfl (gF g3)) rfl (q_len_vec rfl rfl sl36) (SOps.q rfl (.guard 3 13 false rfl rfl (gF g3)) rfl (q_gtr rfl rfl rfl) (sq rfl rfl (q_pick_f rfl rfl g3 rfl) (SOps.nil ?_))))))))))
 rcases cond_out h with ⟨g6, h⟩ | ⟨g6, h⟩
 ·refine SCode.cond_t rfl g6 (SCode.seq ?_)
  obtain ⟨c_7, g8, h⟩ := bind_out h
  try dsimp only at h
  refine SCode.region (sq rfl rfl (q_call (chargenetlaw49_exampleHolds_ok F  c_7 g8) [] rfl fn8 trivial (.inl rfl)) (sa rfl rfl (SOps.nil (SCode.ret ?_))))
  obtain rfl := Option.some.inj h
  exact ⟨⟨[(2, .c (.bool c_7))], []⟩, _, sub_gen [] rfl rfl (zall rfl rfl) trivial, resA1 (v := .c (.bool c_7)) rfl rfl, rfl⟩
 refine SCode.cond_f rfl g6 (SCode.skip (SCode.seq (SCode.region (sa rfl rfl (SOps.nilArrL (T := 47) (k := 14) cSCDR dSCDR (s := 3) rfl rfl (SOps.nil ?_))))))
 let S9 := fun (o0_9 : List SCDR) => (⟨[(3, .c (.own 0 o0_9.length))], [aSCDR 47 o0_9]⟩ : St)
 refine SCode.join (σ := (List SCDR)) (S := fun s => (S9 s)) (g := fun s => chargenetlaw49_SettleCredits_p17 F s = some r) ?_ ?_
 rotate_left
 ·refine SCode.seq (SCode.region (sq rfl rfl (q_field_ptr rfl rfl fd41_0) (sq rfl rfl (q_load_ptr rfl rfl rfl rfl ty36) (sq rfl rfl (q_len_vec rfl rfl sl36) (sm rfl rfl (SOps.nil (SCode.block ?_)))))))
  let S8 := fun (t23_30 : Int) => fun (o0_31 : List SCDR) => (⟨[(3, .c (.own 0 o0_31.length)), (21, .c (vSCDR a0_c.CDRs)), (22, ci (((a0_c.CDRs).length : Int))), (23, ci t23_30)], [aSCDR 47 o0_31]⟩ : St)
  refine SCode.sub (st' := (S8 0 (([] : List SCDR)))) (sub_gen [1] rfl rfl (zall rfl rfl) ⟨oa rfl, trivial⟩) ?_
  refine (SCode.loop (σ := Nat × (Int × (List SCDR))) (S := fun s => (S8 s.2.1 s.2.2)) (g := fun s => chargenetlaw49_SettleCredits_l44 F a0_c s.1 s.2.1 s.2.2 = some r) (μ := fun s => s.1) (F, (0, ([] : List SCDR))) h ?_)
  rintro ⟨n_44, ⟨t23_30, o0_31⟩⟩ h
  try dsimp only at h
  show SCode _ _ _ (S8 t23_30 o0_31) _
  cases n_44 with
  | zero => cases h
  | succ n_44 =>
   rw [chargenetlaw49_SettleCredits_l44] at h
   unfold chargenetlaw49_SettleCredits_b44 at h
   refine SCode.seq (SCode.region (sq rfl rfl (q_lss rfl rfl rfl) (SOps.nil (SCode.seq ?_))))
   rcases cond_out h with ⟨g45, h⟩ | ⟨g45, h⟩
   ·refine SCode.cond_t rfl g45 (SCode.skip ?_)
    let S7 := fun (o0_46 : List SCDR) => (⟨[(3, .c (.own 0 o0_46.length)), (21, .c (vSCDR a0_c.CDRs)), (22, ci (((a0_c.CDRs).length : Int))), (23, ci t23_30)], [aSCDR 47 o0_46]⟩ : St)
    refine SCode.join (σ := (List SCDR)) (S := fun s => (S7 s)) (g := fun s => chargenetlaw49_SettleCredits_p47 t23_30 (fun t23_30 o0_31 => chargenetlaw49_SettleCredits_l44 F a0_c n_44 t23_30 o0_31) s = some r) ?_ ?_
    rotate_left
    ·refine SCode.block (SCode.seq ?_)
     obtain ⟨g48, h⟩ := guard_out h
     refine SCode.region (sq rfl rfl (q_index_vec rfl rfl rfl sl36 rfl g48.1 g48.2) (sq rfl rfl (q_load_eptr_all rfl rfl rfl ty47) (se rfl rfl (e_alloc rfl rfl rfl z47) (se rfl rfl (e_store_box rfl rfl rfl rfl rfl ty47 rfl rfl rfl rfl) (SOps.nil (SCode.seq (SCode.seq ?_)))))))
     obtain ⟨c_49, g50, h⟩ := bind_out h
     try dsimp only at h
     rcases cond_out h with ⟨g51, h⟩ | ⟨g51, h⟩
     ·refine SCode.region (sq rfl rfl (q_load_ptr_all rfl rfl rfl rfl rfl ty47) (sq rfl rfl (q_call (chargenetref46_Valid_ok F (a0_c.CDRs.getD t23_30.toNat dSCDR) c_49 g50) [] rfl fn17 ⟨⟨rfl, rfl⟩, trivial⟩ (.inl rfl)) (sq rfl rfl (q_neq rfl rfl rfl) (sm rfl rfl (SOps.skip rfl 3 30 false rfl rfl (.inl (gT g51)) rfl (SOps.skip rfl 3 30 false rfl rfl (.inl (gT g51)) rfl (sq rfl rfl (q_pick_t rfl rfl g51 rfl) (SOps.nil (SCode.cond_t rfl rfl (SCode.exit ?_))))))))))
      exact ⟨o0_31, h, sub_gen [0] rfl rfl (zall rfl rfl) ⟨oa rfl, trivial⟩⟩
     refine SCode.region (sq rfl rfl (q_load_ptr_all rfl rfl rfl rfl rfl ty47) (sq rfl rfl (q_call (chargenetref46_Valid_ok F (a0_c.CDRs.getD t23_30.toNat dSCDR) c_49 g50) [] rfl fn17 ⟨⟨rfl, rfl⟩, trivial⟩ (.inl rfl)) (sq rfl rfl (q_neq rfl rfl rfl) (sm rfl rfl (SOps.q rfl (.guard 3 30 false rfl rfl (gF g51)) rfl (q_field_ptr rfl rfl fd47_12) (SOps.q rfl (.guard 3 30 false rfl rfl (gF g51)) rfl (q_load_ptr rfl rfl rfl rfl ty4) (sq rfl rfl (q_pick_f rfl rfl g51 rfl) (SOps.nil ?_))))))))
     rcases cond_out h with ⟨g52, h⟩ | ⟨g52, h⟩
     ·refine SCode.cond_t rfl g52 (SCode.exit ?_)
      exact ⟨o0_31, h, sub_gen [0] rfl rfl (zall rfl rfl) ⟨oa rfl, trivial⟩⟩
     refine SCode.cond_f rfl g52 (SCode.skip (SCode.seq ?_))
     obtain ⟨c_53, g54, h⟩ := bind_out h
     try dsimp only at h
     refine SCode.region (sq rfl rfl (q_load_ptr_all rfl rfl rfl rfl rfl ty47) (sq rfl rfl (q_call (chargenetref46_Credit_ok F (a0_c.CDRs.getD t23_30.toNat dSCDR) (ByteArray.mk #[99, 114, 101, 100, 105, 116]) c_53 g54) [] rfl fn18 ⟨⟨rfl, rfl⟩, ⟨_, rfl, .inl ⟨rfl, rfl⟩⟩, trivial⟩ (.inl rfl)) (sm rfl rfl (sq rfl rfl (q_extract rfl rfl rfl) (sq rfl rfl (q_extract rfl rfl rfl) (se rfl rfl (e_alloc rfl rfl rfl z47) (se rfl rfl (e_store_box rfl rfl rfl rfl rfl ty47 rfl rfl rfl rfl) (sa rfl rfl (SOps.sub (st' := ⟨[(3, .c (.own 0 o0_31.length)), (5, .c (.ptr 1 0)), (6, .c (.ptr 2 0)), (7, ci c_53.2), (21, .c (vSCDR a0_c.CDRs)), (22, ci (((a0_c.CDRs).length : Int))), (23, ci t23_30)], [aSCDR 47 o0_31, .box (bSCDR (a0_c.CDRs.getD t23_30.toNat dSCDR)), .box (bSCDR c_53.1)]⟩) (sub_gen [0, 1, 2] rfl rfl (zall rfl rfl) ⟨oa rfl, bx rfl rfl rfl, bx rfl rfl rfl, trivial⟩) (SOps.nil (SCode.seq (SCode.region (sm rfl rfl (sq rfl rfl (q_eql rfl rfl rfl) (SOps.nil ?_)))))))))))))))
     rcases cond_out h with ⟨g55, h⟩ | ⟨g55, h⟩
     ·refine SCode.cond_t rfl g55 ?_
      obtain ⟨g56, h⟩ := guard_out h
      refine SCode.region (sm rfl rfl (sq rfl rfl (q_load_ptr_all rfl rfl rfl rfl rfl ty47) (sq rfl rfl (q_load_ptr_all rfl rfl rfl rfl rfl ty47) (sq rfl rfl (q_bsliceL (c := cSCDR) (d0 := dSCDR) [a0_c.CDRs.getD t23_30.toNat dSCDR, SCDR.mk c_53.1.ID c_53.1.Operator c_53.1.Provider c_53.1.Session c_53.1.Version c_53.1.Start c_53.1.End c_53.1.Energy c_53.1.Tariff c_53.1.Currency c_53.1.Items c_53.1.Total c_53.1.Credit c_53.1.Ref] rfl rfl sl36 z47 rfl rfl rfl rfl rfl rfl rfl) (se rfl rfl (e_appendL (c := cSCDR) (d0 := dSCDR) (l := o0_31) (l2 := [a0_c.CDRs.getD t23_30.toNat dSCDR, SCDR.mk c_53.1.ID c_53.1.Operator c_53.1.Provider c_53.1.Session c_53.1.Version c_53.1.Start c_53.1.End c_53.1.Energy c_53.1.Tariff c_53.1.Currency c_53.1.Items c_53.1.Total c_53.1.Credit c_53.1.Ref]) rfl rfl rfl rfl rfl rfl (.inl rfl) sl36 z47 rfl rfl oneSCDR g56.1 g56.2) (sa rfl rfl ?_))))))
      let y1 := o0_31 ++ ([a0_c.CDRs.getD t23_30.toNat dSCDR, SCDR.mk c_53.1.ID c_53.1.Operator c_53.1.Provider c_53.1.Session c_53.1.Version c_53.1.Start c_53.1.End c_53.1.Energy c_53.1.Tariff c_53.1.Currency c_53.1.Items c_53.1.Total c_53.1.Credit c_53.1.Ref])
      refine SOps.sub (st' := ⟨[(3, .c (.own 0 y1.length)), (21, .c (vSCDR a0_c.CDRs)), (22, ci (((a0_c.CDRs).length : Int))), (23, ci t23_30)], [aSCDR 47 y1]⟩) (sub_gen [3] rfl rfl (zall rfl rfl) ⟨oa rfl, trivial⟩) (SOps.nil ?_)
      exact ⟨o0_31 ++ ([a0_c.CDRs.getD t23_30.toNat dSCDR, SCDR.mk c_53.1.ID c_53.1.Operator c_53.1.Provider c_53.1.Session c_53.1.Version c_53.1.Start c_53.1.End c_53.1.Energy c_53.1.Tariff c_53.1.Currency c_53.1.Items c_53.1.Total c_53.1.Credit c_53.1.Ref]), h, sub_gen [0] rfl rfl (zall rfl rfl) ⟨oa rfl, trivial⟩⟩
     refine SCode.cond_f rfl g55 (SCode.skip ?_)
     exact ⟨o0_31, h, sub_gen [0] rfl rfl (zall rfl rfl) ⟨oa rfl, trivial⟩⟩
    rintro o0_46 h
    show SCode _ _ _ (S7 o0_46) _
    try dsimp only at h
    unfold chargenetlaw49_SettleCredits_p47 at h
    refine SCode.region (sq rfl rfl (q_add rfl rfl rfl) (sm rfl rfl (SOps.nil ?_)))
    exact ⟨(n_44, (IntKind.wrap .i64 (t23_30 + 1), o0_46)), h, Nat.lt_succ_self n_44, sub_gen [0] rfl rfl (zall rfl rfl) ⟨oa rfl, trivial⟩⟩
   refine SCode.cond_f rfl g45 (SCode.exit ?_)
   exact ⟨o0_31, h, sub_gen [0] rfl rfl (zall rfl rfl) ⟨oa rfl, trivial⟩⟩
 rintro o0_9 h
 show SCode _ _ _ (S9 o0_9) _
 try dsimp only at h
 unfold chargenetlaw49_SettleCredits_p17 at h
 refine SCode.seq (SCode.sub (st' := ⟨[(3, .c (vSCDR o0_9))], []⟩) (sub_gen [] rfl rfl ⟨⟨_, rfl, .inr (.inl ⟨_, _, _, _, _, _, _, rfl, rfl, rfl, Nat.le_refl _, fun _ _ _ _ => rfl, nm rfl⟩)⟩, trivial⟩ trivial) ?_)
 obtain ⟨c_11, g12, h⟩ := bind_out h
 try dsimp only at h
 refine SCode.region (sm rfl rfl (sq rfl rfl (q_build2 rfl rfl pl39 rfl) (sq rfl rfl (q_call (settle_Balance_ok F o0_9 (([] : List SDispute)) (ByteArray.mk #[65]) (ByteArray.mk #[66]) (ByteArray.mk #[69, 85, 82]) (SSpan.mk 0 268435456) c_11 g12) [] rfl fn19 ⟨⟨_, rfl, .inl ⟨rfl, rfl⟩⟩, ⟨_, rfl, .inr (.inr ⟨_, _, rfl, rfl⟩)⟩, ⟨_, rfl, .inl ⟨rfl, rfl⟩⟩, ⟨_, rfl, .inl ⟨rfl, rfl⟩⟩, ⟨_, rfl, .inl ⟨rfl, rfl⟩⟩, ⟨rfl, rfl⟩, trivial⟩ (.inl rfl)) (sm rfl rfl (sq rfl rfl (q_extract rfl rfl rfl) (sq rfl rfl (q_extract rfl rfl rfl) (se rfl rfl (e_alloc rfl rfl rfl z35) (se rfl rfl (e_store_box rfl rfl rfl rfl rfl ty35 rfl rfl rfl rfl) (sa rfl rfl (SOps.nil (SCode.seq ?_)))))))))))
 rcases cond_out h with ⟨g13, h⟩ | ⟨g13, h⟩
 ·rcases cond_out h with ⟨g14, h⟩ | ⟨g14, h⟩
  ·obtain ⟨c_15, g16, h⟩ := bind_out h
   try dsimp only at h
   refine SCode.region (sm rfl rfl (sq rfl rfl (q_eql rfl rfl rfl) (sm rfl rfl (SOps.q rfl (.guard 2 55 true rfl rfl (gT g13)) rfl (q_field_ptr rfl rfl fd35_3) (SOps.q rfl (.guard 2 55 true rfl rfl (gT g13)) rfl (q_load_ptr rfl rfl rfl rfl ty3) (SOps.q rfl (.guard 2 55 true rfl rfl (gT g13)) rfl (q_eql rfl rfl rfl) (sq rfl rfl (q_pick_t rfl rfl g13 rfl) (sm rfl rfl (SOps.q rfl (.guard 7 60 true rfl rfl (gT g14)) rfl (q_call (chargenetlaw49_exampleHolds_ok F  c_15 g16) [] rfl fn8 trivial (.inl rfl)) (sq rfl rfl (q_pick_t rfl rfl g14 rfl) (sa rfl rfl (SOps.sub (st' := ⟨[(2, .c (.bool c_15))], []⟩) (sub_gen [] rfl rfl (zall rfl rfl) trivial) (SOps.nil (SCode.ret ?_))))))))))))))
   obtain rfl := Option.some.inj h
   exact ⟨⟨[(2, .c (.bool c_15))], []⟩, _, sub_gen [] rfl rfl (zall rfl rfl) trivial, resA1 (v := .c (.bool c_15)) rfl rfl, rfl⟩
  refine SCode.region (sm rfl rfl (sq rfl rfl (q_eql rfl rfl rfl) (sm rfl rfl (SOps.q rfl (.guard 2 55 true rfl rfl (gT g13)) rfl (q_field_ptr rfl rfl fd35_3) (SOps.q rfl (.guard 2 55 true rfl rfl (gT g13)) rfl (q_load_ptr rfl rfl rfl rfl ty3) (SOps.q rfl (.guard 2 55 true rfl rfl (gT g13)) rfl (q_eql rfl rfl rfl) (sq rfl rfl (q_pick_t rfl rfl g13 rfl) (sm rfl rfl (SOps.skip rfl 7 60 true rfl rfl (.inl (gF g14)) rfl (sq rfl rfl (q_pick_f rfl rfl g14 rfl) (sa rfl rfl (SOps.sub (st' := ⟨[(2, .c (.bool false))], []⟩) (sub_gen [] rfl rfl (zall rfl rfl) trivial) (SOps.nil (SCode.ret ?_))))))))))))))
  obtain rfl := Option.some.inj h
  exact ⟨⟨[(2, .c (.bool false))], []⟩, _, sub_gen [] rfl rfl (zall rfl rfl) trivial, resA1 (v := .c (.bool false)) rfl rfl, rfl⟩
 refine SCode.region (sm rfl rfl (sq rfl rfl (q_eql rfl rfl rfl) (sm rfl rfl (SOps.skip rfl 2 55 true rfl rfl (.inl (gF g13)) rfl (SOps.skip rfl 2 55 true rfl rfl (.inl (gF g13)) rfl (SOps.skip rfl 2 55 true rfl rfl (.inl (gF g13)) rfl (sq rfl rfl (q_pick_f rfl rfl g13 rfl) (sm rfl rfl (SOps.skip rfl 7 60 true rfl rfl (.inl rfl) rfl (sq rfl rfl (q_pick_f rfl rfl rfl rfl) (sa rfl rfl (SOps.sub (st' := ⟨[(2, .c (.bool false))], []⟩) (sub_gen [] rfl rfl (zall rfl rfl) trivial) (SOps.nil (SCode.ret ?_))))))))))))))
 obtain rfl := Option.some.inj h
 exact ⟨⟨[(2, .c (.bool false))], []⟩, _, sub_gen [] rfl rfl (zall rfl rfl) trivial, resA1 (v := .c (.bool false)) rfl rfl, rfl⟩
end Go.Proofs.Ytoncfkdgddfnlaa.W
