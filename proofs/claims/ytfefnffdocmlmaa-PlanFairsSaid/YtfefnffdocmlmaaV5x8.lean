/- Written by a program of ours (wip/eng/gen.py): the functions compute their models. -/
import Derived.Test.YtfefnffdocmlmaaFacts
import Derived.Test.YtfefnffdocmlmaaV5x7
namespace Go.Proofs.Ytfefnffdocmlmaa.W
open Go Go.Proofs Go.Proofs.Ytfefnffdocmlmaa.E Go.Proofs.Ytfefnffdocmlmaa.M
set_option linter.unusedVariables false
set_option maxRecDepth 100000
set_option maxHeartbeats 8000000
theorem chargenetref10_Sorted_ok (F : Nat) (a0_l : List Int) (r : List Int) (h : chargenetref10_Sorted F a0_l = some r) :
  SFun Try.prog 35 [] [.c (vI a0_l)] (fun x _ => x = .c (vI r)) := by
 refine SFun.of (n := 49) Try.func35 rfl rfl rfl ?_
 unfold chargenetref10_Sorted at h
 show SCode _ _ _ ⟨[(0, .c (vI a0_l))], []⟩ _
 refine SCode.seq ?_
 refine SCode.region (show SOps _ _ _ [0] _ _ from ?_)
 refine sa rfl rfl rfl rfl rfl (SOps.nil (SCode.seq ?_))
 obtain ⟨g1, h⟩ := guard_out h
 refine SCode.region (show SOps _ _ _ [0, 1, 2, 3] _ _ from ?_)
 refine se rfl rfl (e_bslice0L (α := Int) (c := (cInt .i64)) (d0 := 0) rfl rfl rfl rfl sl22) (sm rfl rfl rfl rfl rfl (se rfl rfl (e_appendL (c := (cInt .i64)) (d0 := 0) (l := ([] : List Int)) (l2 := a0_l) rfl rfl rfl rfl rfl rfl (.inl rfl) sl22 z3 rfl rfl oneInt g1.1 g1.2) (sa rfl rfl rfl rfl rfl (SOps.sub (st' := ⟨[(3, .c (.own 0 ((([] : List Int)) ++ a0_l).length))], [aI 3 ((([] : List Int)) ++ a0_l)]⟩) (sub_gen [1] rfl rfl (zall rfl rfl) ⟨oa rfl, trivial⟩) (SOps.nil ?_)))))
 let S21 := fun (o0_2 : List Int) => (⟨[(3, .c (.own 0 o0_2.length))], [aI 3 o0_2]⟩ : St)
 refine SCode.join (σ := (List Int)) (S := fun s => (S21 s)) (g := fun s => chargenetref10_Sorted_p3 s = some r) ?_ ?_
 rotate_left
 ·refine SCode.seq ?_
  refine SCode.region (show SOps _ _ _ [0] _ _ from ?_)
  refine sa rfl rfl rfl rfl rfl (SOps.nil (SCode.block ?_))
  let S20 := fun (i_34 : Int) => fun (o0_35 : List Int) => (⟨[(3, .c (.own 0 o0_35.length)), (4, ci i_34)], [aI 3 o0_35]⟩ : St)
  refine SCode.sub (st' := (S20 0 ((([] : List Int)) ++ a0_l))) (sub_gen [0] rfl rfl (zall rfl rfl) ⟨oa rfl, trivial⟩) ?_
  refine (SCode.loop (σ := Nat × (Int × (List Int))) (S := fun s => (S20 s.2.1 s.2.2)) (g := fun s => chargenetref10_Sorted_l66 F s.1 s.2.1 s.2.2 = some r) (μ := fun s => s.1) (F, (0, (([] : List Int)) ++ a0_l)) h ?_)
  rintro ⟨n_66, ⟨i_34, o0_35⟩⟩ h
  try dsimp only at h
  show SCode _ _ _ (S20 i_34 o0_35) _
  cases n_66 with
  | zero => cases h
  | succ n_66 =>
   rw [chargenetref10_Sorted_l66] at h
   unfold chargenetref10_Sorted_b66 at h
   refine SCode.seq (SCode.seq ?_)
   refine SCode.region (show SOps _ _ _ [0, 1, 2, 3] _ _ from ?_)
   refine sm rfl rfl rfl rfl rfl (sm rfl rfl rfl rfl rfl (sq rfl rfl rfl (q_len_own rfl rfl sl22) (sq rfl rfl rfl (q_lss rfl rfl rfl) (SOps.nil ?_))))
   rcases cond_out h with ⟨g67, h⟩ | ⟨g67, h⟩
   ·refine SCode.cond_t rfl g67 (SCode.skip ?_)
    let S19 := fun (o0_68 : List Int) => (⟨[(3, .c (.own 0 o0_68.length)), (4, ci i_34)], [aI 3 o0_68]⟩ : St)
    refine SCode.join (σ := (List Int)) (S := fun s => (S19 s)) (g := fun s => chargenetref10_Sorted_p69 i_34 (fun i_34 o0_35 => chargenetref10_Sorted_l66 F n_66 i_34 o0_35) s = some r) ?_ ?_
    rotate_left
    ·refine SCode.block (SCode.seq ?_)
     refine SCode.region (show SOps _ _ _ [0, 1] _ _ from ?_)
     refine sm rfl rfl rfl rfl rfl (sa rfl rfl rfl rfl rfl (SOps.nil (SCode.block ?_)))
     let S18 := fun (k_78 : Int) => fun (o0_79 : List Int) => (⟨[(3, .c (.own 0 o0_79.length)), (4, ci i_34), (5, ci k_78)], [aI 3 o0_79]⟩ : St)
     refine SCode.sub (st' := (S18 i_34 o0_35)) (sub_gen [0] rfl rfl (zall rfl rfl) ⟨oa rfl, trivial⟩) ?_
     refine (SCode.loop (σ := Nat × (Int × (List Int))) (S := fun s => (S18 s.2.1 s.2.2)) (g := fun s => chargenetref10_Sorted_l88 i_34 (fun i_34 o0_35 => chargenetref10_Sorted_l66 F n_66 i_34 o0_35) s.1 s.2.1 s.2.2 = some r) (μ := fun s => s.1) (F, (i_34, o0_35)) h ?_)
     rintro ⟨n_88, ⟨k_78, o0_79⟩⟩ h
     try dsimp only at h
     show SCode _ _ _ (S18 k_78 o0_79) _
     cases n_88 with
     | zero => cases h
     | succ n_88 =>
      rw [chargenetref10_Sorted_l88] at h
      unfold chargenetref10_Sorted_b88 at h
      refine SCode.seq (SCode.seq ?_)
      rcases cond_out h with ⟨g89, h⟩ | ⟨g89, h⟩
      ·obtain ⟨g90, h⟩ := guard_out h
       obtain ⟨g91, h⟩ := guard_out h
       refine SCode.drawK mixed [[], [0], [0, 1], [0, 1, 2], [0, 1, 2], [0, 1, 2, 3, 4], [0, 1, 2, 3, 4, 5], [0, 1, 2], [0, 1, 2], [0, 1, 2, 8], [0, 1, 2, 7, 8, 9], [0, 1, 2, 7, 8, 9, 10], [0, 1, 2, 3, 4, 5, 6, 7, 8, 9, 10, 11], [0, 1, 2, 3, 4, 5, 6, 7, 8, 9, 10, 11, 12]] 14 0 rfl rfl (qm rfl rfl rfl rfl rfl (qr rfl rfl rfl (q_gtr rfl rfl rfl) (qm rfl rfl rfl rfl rfl (QK.run rfl (.guard 2 18 true rfl rfl (gT g89)) rfl (q_move rfl rfl) (QK.run rfl (.guard 2 18 true rfl rfl (gT g89)) rfl (q_move rfl rfl) (QK.run rfl (.guard 2 18 true rfl rfl (gT g89)) rfl (q_index_own rfl rfl rfl sl22 g90.1 g90.2) (QK.run rfl (.guard 2 18 true rfl rfl (gT g89)) rfl (q_load_aptr rfl rfl rfl (toNat_lt g90) rfl ty3) (QK.run rfl (.guard 2 18 true rfl rfl (gT g89)) rfl (q_move rfl rfl) (QK.run rfl (.guard 2 18 true rfl rfl (gT g89)) rfl (q_move rfl rfl) ?_)))))))))
       refine QK.run rfl (.guard 2 18 true rfl rfl (gT g89)) rfl (q_sub rfl rfl rfl) (QK.run rfl (.guard 2 18 true rfl rfl (gT g89)) rfl (q_index_own rfl rfl rfl sl22 g91.1 g91.2) (QK.run rfl (.guard 2 18 true rfl rfl (gT g89)) rfl (q_load_aptr rfl rfl rfl (toNat_lt g91) rfl ty3) (QK.run rfl (.guard 2 18 true rfl rfl (gT g89)) rfl (q_lss rfl rfl rfl) (qr rfl rfl rfl (q_pick_t rfl rfl g89 rfl) (QK.nil ?_)))))
       refine (show SOps _ _ _ [] _ _ from ?_)
       refine SOps.sub (st' := ⟨[(3, .c (.own 0 o0_79.length)), (4, ci i_34), (5, ci k_78), (29, .c (.bool (decide (o0_79.getD k_78.toNat 0 < o0_79.getD ((IntKind.wrap .i64 (k_78 - 1)).toNat) 0))))], [aI 3 o0_79]⟩) (sub_gen [0] rfl rfl (zall rfl rfl) ⟨oa rfl, trivial⟩) (SOps.nil ?_)
       rcases cond_out h with ⟨g92, h⟩ | ⟨g92, h⟩
       ·refine SCode.cond_t rfl g92 (SCode.skip (SCode.seq (SCode.block ?_)))
        obtain ⟨g93, h⟩ := guard_out h
        obtain ⟨g94, h⟩ := guard_out h
        obtain ⟨g95, h⟩ := guard_out h
        obtain ⟨g96, h⟩ := guard_out h
        let ob294 : Ob := aI 3 (o0_79.set k_78.toNat (o0_79.getD ((IntKind.wrap .i64 (k_78 - 1)).toNat) 0))
        let ob296 : Ob := aI 3 ((o0_79.set k_78.toNat (o0_79.getD ((IntKind.wrap .i64 (k_78 - 1)).toNat) 0)).set ((IntKind.wrap .i64 (k_78 - 1)).toNat) (o0_79.getD k_78.toNat 0))
        let av295 : AV := .c (.aptr 0 1 ((IntKind.wrap .i64 (k_78 - 1)).toNat) 0)
        let y1 := IntKind.wrap .i64 (k_78 - 1)
        let y2 := (o0_79.set k_78.toNat (o0_79.getD (y1.toNat) 0)).set (y1.toNat) (o0_79.getD k_78.toNat 0)
        refine SCode.draw2 (sH := [(46, .c (.aptr 0 1 k_78.toNat 0)), (45, ci (o0_79.getD k_78.toNat 0)), (44, .c (.aptr 0 1 k_78.toNat 0)), (43, ci k_78), (42, .c (.own 0 o0_79.length)), (41, ci (o0_79.getD (y1.toNat) 0)), (40, .c (.aptr 0 1 (y1.toNat) 0)), (39, ci y1), (38, ci k_78), (37, .c (.own 0 o0_79.length)), (36, ci y1), (35, ci k_78), (34, .c (.own 0 o0_79.length)), (33, ci k_78), (32, .c (.own 0 o0_79.length)), (3, .c (.own 0 o0_79.length)), (4, ci i_34), (5, ci k_78), (29, .c (.bool (decide (o0_79.getD k_78.toNat 0 < o0_79.getD (y1.toNat) 0))))]) mixed [[], [], [], [], [3], [], [], [6], [5, 6, 7], [5, 6, 7, 8], [], [], [10, 11], [10, 11, 12], [0, 1, 5, 6, 7, 8, 9, 10, 11, 12, 13], [0, 1, 5, 6, 7, 8, 9, 10, 11, 12, 13, 14], [0, 1, 2, 3, 4, 5, 6, 7, 8, 9, 10, 11, 12, 13, 14, 15], [0, 1, 2, 3, 4, 5, 6, 7, 8, 9, 10, 11, 12, 13, 14, 15, 16]] [15, 16, 17] (fun h => List.getD [[], [], [0], [0], [0]] h []) rfl ?_ ⟨[(3, .c (.own 0 y2.length)), (4, ci i_34), (5, ci k_78)], [aI 3 y2]⟩ ?_ ?_
        ·refine HChain.run rfl rfl (.plain rfl) rfl (fun f x => q_move rfl rfl) (HChain.run rfl rfl (.plain rfl) rfl (fun f x => q_move rfl rfl) (HChain.run rfl rfl (.plain rfl) rfl (fun f x => q_move rfl rfl) (HChain.run rfl rfl (.plain rfl) rfl (fun f x => q_move rfl rfl) (HChain.run rfl rfl (.plain rfl) rfl (fun f x => q_sub rfl rfl rfl) (HChain.run rfl rfl (.plain rfl) rfl (fun f x => q_move rfl rfl) (HChain.run rfl rfl (.plain rfl) rfl (fun f x => q_move rfl rfl) (HChain.run rfl rfl (.plain rfl) rfl (fun f x => q_sub rfl rfl rfl) (HChain.run rfl rfl (.plain rfl) rfl (fun f x => q_index_own rfl rfl rfl sl22 g93.1 g93.2) (HChain.run rfl rfl (.plain rfl) rfl (fun f x => q_load_aptr rfl rfl rfl (toNat_lt g93) rfl ty3) ?_)))))))))
         refine HChain.run rfl rfl (.plain rfl) rfl (fun f x => q_move rfl rfl) (HChain.run rfl rfl (.plain rfl) rfl (fun f x => q_move rfl rfl) (HChain.run rfl rfl (.plain rfl) rfl (fun f x => q_index_own rfl rfl rfl sl22 g94.1 g94.2) (HChain.run rfl rfl (.plain rfl) rfl (fun f x => q_load_aptr rfl rfl rfl (toNat_lt g94) rfl ty3) (HChain.run rfl rfl (.plain rfl) rfl (fun f x => q_index_own rfl rfl rfl sl22 g95.1 g95.2) (HChain.tail rfl (HChain.tail rfl (HChain.tail rfl ?_)))))))
         exact HChain.nil _ _
        ·refine t1 15 rfl (TStep.n (objs' := [ob294]) [0] rfl rfl rfl rfl (fun s2 => by refine EOp.eq (e_storeL (o0_79.getD ((IntKind.wrap .i64 (k_78 - 1)).toNat) 0) rfl rfl rfl rfl rfl (toNat_lt g95) ty3 rfl rfl rfl rfl rfl rfl) ?_; rfl) ⟨rfl, ⟨trivial, .inl rfl⟩, ?_⟩)
         refine t1 16 rfl (td (objs' := [ob294]) (v := av295) 47 rfl rfl rfl rfl rfl (fun _ => EOp.eq (EOp.qd rfl rfl (q_index_own rfl rfl rfl sl22 g96.1 (lenlt (List.length_set : (o0_79.set k_78.toNat (o0_79.getD ((IntKind.wrap .i64 (k_78 - 1)).toNat) 0)).length = o0_79.length) g96.2))) rfl) rfl rfl ?_)
         refine t1 17 rfl (TStep.n (objs' := [ob296]) [0] rfl rfl rfl rfl (fun s2 => by refine EOp.eq (e_storeL (o0_79.getD k_78.toNat 0) rfl rfl rfl rfl rfl (toNat_lt g96) ty3 rfl rfl rfl rfl rfl rfl) ?_; rfl) ⟨rfl, ⟨trivial, .inl rfl⟩, ?_⟩)
         let y3 := o0_79.set k_78.toNat (o0_79.getD ((IntKind.wrap .i64 (k_78 - 1)).toNat) 0)
         exact tl rfl (sub_gen [0] rfl rfl ⟨⟨_, rfl, .inl ⟨rfl, congrArg (Cell.own 0) ((List.length_set : (y3.set ((IntKind.wrap .i64 (k_78 - 1)).toNat) (o0_79.getD k_78.toNat 0)).length = y3.length).trans (List.length_set : y3.length = o0_79.length)).symm⟩⟩, zc rfl rfl, zc rfl rfl, trivial⟩ ⟨oa rfl, trivial⟩)
        refine SCode.region (show SOps _ _ _ [0, 1, 2] _ _ from ?_)
        refine sm rfl rfl rfl rfl rfl (sq rfl rfl rfl (q_sub rfl rfl rfl) (sa rfl rfl rfl rfl rfl (SOps.nil ?_)))
        exact ⟨(n_88, (IntKind.wrap .i64 (k_78 - 1), (o0_79.set k_78.toNat (o0_79.getD ((IntKind.wrap .i64 (k_78 - 1)).toNat) 0)).set ((IntKind.wrap .i64 (k_78 - 1)).toNat) (o0_79.getD k_78.toNat 0))), h, Nat.lt_succ_self n_88, sub_gen [0] rfl rfl (zall rfl rfl) ⟨oa rfl, trivial⟩⟩
       refine SCode.cond_f rfl g92 (SCode.exit ?_)
       exact ⟨o0_79, h, sub_gen [0] rfl rfl (zall rfl rfl) ⟨oa rfl, trivial⟩⟩
      refine SCode.drawK mixed [[], [0], [0, 1], [0, 1, 2], [0, 1, 2], [0, 1, 2, 3, 4], [0, 1, 2, 3, 4, 5], [0, 1, 2], [0, 1, 2], [0, 1, 2, 8], [0, 1, 2, 7, 8, 9], [0, 1, 2, 7, 8, 9, 10], [0, 1, 2, 3, 4, 5, 6, 7, 8, 9, 10, 11], [0, 1, 2, 3, 4, 5, 6, 7, 8, 9, 10, 11, 12]] 14 0 rfl rfl (qm rfl rfl rfl rfl rfl (qr rfl rfl rfl (q_gtr rfl rfl rfl) (qm rfl rfl rfl rfl rfl (QK.skip rfl ⟨2, 18, true, rfl, rfl, (.inl (gF g89))⟩ rfl (QK.skip rfl ⟨2, 18, true, rfl, rfl, (.inl (gF g89))⟩ rfl (QK.skip rfl ⟨2, 18, true, rfl, rfl, (.inl (gF g89))⟩ rfl (QK.skip rfl ⟨2, 18, true, rfl, rfl, (.inl (gF g89))⟩ rfl (QK.skip rfl ⟨2, 18, true, rfl, rfl, (.inl (gF g89))⟩ rfl (QK.skip rfl ⟨2, 18, true, rfl, rfl, (.inl (gF g89))⟩ rfl ?_)))))))))
      refine QK.skip rfl ⟨2, 18, true, rfl, rfl, (.inl (gF g89))⟩ rfl (QK.skip rfl ⟨2, 18, true, rfl, rfl, (.inl (gF g89))⟩ rfl (QK.skip rfl ⟨2, 18, true, rfl, rfl, (.inl (gF g89))⟩ rfl (QK.skip rfl ⟨2, 18, true, rfl, rfl, (.inl (gF g89))⟩ rfl (qr rfl rfl rfl (q_pick_f rfl rfl g89 rfl) (QK.nil ?_)))))
      refine (show SOps _ _ _ [] _ _ from ?_)
      refine SOps.sub (st' := ⟨[(3, .c (.own 0 o0_79.length)), (4, ci i_34), (5, ci k_78), (29, .c (.bool false))], [aI 3 o0_79]⟩) (sub_gen [0] rfl rfl (zall rfl rfl) ⟨oa rfl, trivial⟩) (SOps.nil (SCode.cond_f rfl rfl (SCode.exit ?_)))
      exact ⟨o0_79, h, sub_gen [0] rfl rfl (zall rfl rfl) ⟨oa rfl, trivial⟩⟩
    rintro o0_68 h
    show SCode _ _ _ (S19 o0_68) _
    try dsimp only at h
    unfold chargenetref10_Sorted_p69 at h
    refine SCode.region (show SOps _ _ _ [0, 1, 2] _ _ from ?_)
    refine sm rfl rfl rfl rfl rfl (sq rfl rfl rfl (q_add rfl rfl rfl) (sa rfl rfl rfl rfl rfl (SOps.nil ?_)))
    exact ⟨(n_66, (IntKind.wrap .i64 (i_34 + 1), o0_68)), h, Nat.lt_succ_self n_66, sub_gen [0] rfl rfl (zall rfl rfl) ⟨oa rfl, trivial⟩⟩
   refine SCode.cond_f rfl g67 (SCode.exit ?_)
   exact ⟨o0_35, h, sub_gen [0] rfl rfl (zall rfl rfl) ⟨oa rfl, trivial⟩⟩
 rintro o0_2 h
 show SCode _ _ _ (S21 o0_2) _
 try dsimp only at h
 unfold chargenetref10_Sorted_p3 at h
 refine SCode.seq ?_
 refine SCode.region (show SOps _ _ _ [0, 1] _ _ from ?_)
 refine sm rfl rfl rfl rfl rfl (sa rfl rfl rfl rfl rfl (SOps.nil (SCode.ret ?_)))
 obtain rfl := Option.some.inj h
 exact ⟨⟨[(2, .c (vI o0_2))], []⟩, _, sub_gen [] rfl rfl ⟨⟨_, rfl, .inr (.inl ⟨_, _, _, _, _, _, _, rfl, rfl, rfl, Nat.le_refl _, fun _ _ _ _ => rfl, nm rfl⟩)⟩, trivial⟩ trivial, resA1 (v := .c (vI o0_2)) rfl rfl, rfl⟩
theorem chargenetref10_Compare_ok (F : Nat) (a0_a : List Int) (a1_b : List Int) (r : Int) (h : chargenetref10_Compare F a0_a a1_b = some r) :
  SFun Try.prog 18 [] [.c (vI a0_a), .c (vI a1_b)] (fun x _ => x = ci r) := by
 refine SFun.of (n := 52) Try.func18 rfl rfl rfl ?_
 unfold chargenetref10_Compare at h
 show SCode _ _ _ ⟨[(0, .c (vI a0_a)), (1, .c (vI a1_b))], []⟩ _
 refine SCode.seq ?_
 refine SCode.region (show SOps _ _ _ [0] _ _ from ?_)
 refine sa rfl rfl rfl rfl rfl (SOps.nil (SCode.seq ?_))
 obtain ⟨c_1, g2, h⟩ := bind_out h
 try dsimp only at h
 obtain ⟨c_3, g4, h⟩ := bind_out h
 try dsimp only at h
 refine SCode.region (show SOps _ _ _ [0, 1, 2, 3, 4, 5] _ _ from ?_)
 refine sm rfl rfl rfl rfl rfl (sq rfl rfl rfl (q_call (chargenetref10_Sorted_ok F a0_a c_1 g2) [] rfl fn35 ⟨⟨_, rfl, .inl ⟨rfl, rfl⟩⟩, trivial⟩ (.inl rfl)) (sm rfl rfl rfl rfl rfl (sq rfl rfl rfl (q_call (chargenetref10_Sorted_ok F a1_b c_3 g4) [] rfl fn35 ⟨⟨_, rfl, .inl ⟨rfl, rfl⟩⟩, trivial⟩ (.inl rfl)) (sa rfl rfl rfl rfl rfl (sa rfl rfl rfl rfl rfl (SOps.nil ?_))))))
 let S3 := (⟨[(5, .c (vI c_1)), (6, .c (vI c_3))], []⟩ : St)
 refine SCode.join (σ := Unit) (S := fun s => S3) (g := fun s => chargenetref10_Compare_p7 c_1 c_3 = some r) ?_ ?_
 rotate_left
 ·refine SCode.seq ?_
  refine SCode.region (show SOps _ _ _ [0] _ _ from ?_)
  refine sa rfl rfl rfl rfl rfl (SOps.nil (SCode.block ?_))
  let S2 := fun (i_16 : Int) => (⟨[(5, .c (vI c_1)), (6, .c (vI c_3)), (7, ci i_16)], []⟩ : St)
  refine SCode.sub (st' := (S2 0)) (sub_gen [] rfl rfl (zall rfl rfl) trivial) ?_
  refine (SCode.loop (σ := Nat × Int) (S := fun s => (S2 s.2)) (g := fun s => chargenetref10_Compare_l25 c_1 c_3 s.1 s.2 = some r) (μ := fun s => s.1) (F, 0) h ?_)
  rintro ⟨n_25, i_16⟩ h
  try dsimp only at h
  show SCode _ _ _ (S2 i_16) _
  cases n_25 with
  | zero => cases h
  | succ n_25 =>
   rw [chargenetref10_Compare_l25] at h
   unfold chargenetref10_Compare_b25 at h
   refine SCode.seq (SCode.seq ?_)
   rcases cond_out h with ⟨g26, h⟩ | ⟨g26, h⟩
   ·refine SCode.region (show SOps _ _ _ [0, 1, 2, 3, 4, 5, 6, 7, 8, 9] _ _ from ?_)
    refine sm rfl rfl rfl rfl rfl (sm rfl rfl rfl rfl rfl (sq rfl rfl rfl (q_len_vec rfl rfl sl22) (sq rfl rfl rfl (q_lss rfl rfl rfl) (sm rfl rfl rfl rfl rfl (SOps.q rfl (.guard 4 16 true rfl rfl (gT g26)) rfl (q_move rfl rfl) (SOps.q rfl (.guard 4 16 true rfl rfl (gT g26)) rfl (q_move rfl rfl) (SOps.q rfl (.guard 4 16 true rfl rfl (gT g26)) rfl (q_len_vec rfl rfl sl22) (SOps.q rfl (.guard 4 16 true rfl rfl (gT g26)) rfl (q_lss rfl rfl rfl) (sq rfl rfl rfl (q_pick_t rfl rfl g26 rfl) ?_)))))))))
    refine SOps.nil ?_
    rcases cond_out h with ⟨g27, h⟩ | ⟨g27, h⟩
    ·refine SCode.cond_t rfl g27 (SCode.skip (SCode.seq (SCode.block (SCode.seq (SCode.seq (SCode.sub (st' := ⟨[(5, .c (vI c_1)), (6, .c (vI c_3)), (7, ci i_16)], []⟩) (sub_gen [] rfl rfl (zall rfl rfl) trivial) ?_))))))
     obtain ⟨g28, h⟩ := guard_out h
     obtain ⟨g29, h⟩ := guard_out h
     refine SCode.drawK mixed [[], [], [0, 1], [0, 1, 2], [], [], [4, 5], [4, 5, 6], [0, 1, 2, 3, 4, 5, 6, 7]] 9 0 rfl rfl (qm rfl rfl rfl rfl rfl (qm rfl rfl rfl rfl rfl (qr rfl rfl rfl (q_index_vec rfl rfl rfl sl22 rfl g28.1 g28.2) (qr rfl rfl rfl (q_load_eptr rfl rfl ty3) (qm rfl rfl rfl rfl rfl (qm rfl rfl rfl rfl rfl (qr rfl rfl rfl (q_index_vec rfl rfl rfl sl22 rfl g29.1 g29.2) (qr rfl rfl rfl (q_load_eptr rfl rfl ty3) (qr rfl rfl rfl (q_lss rfl rfl rfl) ?_)))))))))
     refine QK.nil ?_
     refine (show SOps _ _ _ [] _ _ from ?_)
     refine SOps.sub (st' := ⟨[(5, .c (vI c_1)), (6, .c (vI c_3)), (7, ci i_16), (32, .c (.bool (decide (c_1.getD i_16.toNat 0 < c_3.getD i_16.toNat 0))))], []⟩) (sub_gen [] rfl rfl (zall rfl rfl) trivial) (SOps.nil ?_)
     rcases cond_out h with ⟨g30, h⟩ | ⟨g30, h⟩
     ·refine SCode.cond_t rfl g30 (SCode.seq ?_)
      refine SCode.region (show SOps _ _ _ [0] _ _ from ?_)
      refine sa rfl rfl rfl rfl rfl (SOps.nil (SCode.ret ?_))
      obtain rfl := Option.some.inj h
      exact ⟨⟨[(4, ci ((-1)))], []⟩, _, sub_gen [] rfl rfl (zall rfl rfl) trivial, resA1 (v := .c (.int .i64 ((-1)))) rfl rfl, rfl⟩
     refine SCode.cond_f rfl g30 (SCode.skip (SCode.seq ?_))
     obtain ⟨g31, h⟩ := guard_out h
     obtain ⟨g32, h⟩ := guard_out h
     refine SCode.drawK mixed [[], [], [0, 1], [0, 1, 2], [], [], [4, 5], [4, 5, 6], [0, 1, 2, 3, 4, 5, 6, 7]] 9 0 rfl rfl (qm rfl rfl rfl rfl rfl (qm rfl rfl rfl rfl rfl (qr rfl rfl rfl (q_index_vec rfl rfl rfl sl22 rfl g31.1 g31.2) (qr rfl rfl rfl (q_load_eptr rfl rfl ty3) (qm rfl rfl rfl rfl rfl (qm rfl rfl rfl rfl rfl (qr rfl rfl rfl (q_index_vec rfl rfl rfl sl22 rfl g32.1 g32.2) (qr rfl rfl rfl (q_load_eptr rfl rfl ty3) (qr rfl rfl rfl (q_gtr rfl rfl rfl) ?_)))))))))
     refine QK.nil ?_
     refine (show SOps _ _ _ [] _ _ from ?_)
     refine SOps.sub (st' := ⟨[(5, .c (vI c_1)), (6, .c (vI c_3)), (7, ci i_16), (41, .c (.bool (decide (c_3.getD i_16.toNat 0 < c_1.getD i_16.toNat 0))))], []⟩) (sub_gen [] rfl rfl (zall rfl rfl) trivial) (SOps.nil ?_)
     rcases cond_out h with ⟨g33, h⟩ | ⟨g33, h⟩
     ·refine SCode.cond_t rfl g33 (SCode.seq ?_)
      refine SCode.region (show SOps _ _ _ [0] _ _ from ?_)
      refine sa rfl rfl rfl rfl rfl (SOps.nil (SCode.ret ?_))
      obtain rfl := Option.some.inj h
      exact ⟨⟨[(4, ci 1)], []⟩, _, sub_gen [] rfl rfl (zall rfl rfl) trivial, resA1 (v := .c (.int .i64 1)) rfl rfl, rfl⟩
     refine SCode.cond_f rfl g33 (SCode.skip ?_)
     refine SCode.region (show SOps _ _ _ [0, 1, 2] _ _ from ?_)
     refine sm rfl rfl rfl rfl rfl (sq rfl rfl rfl (q_add rfl rfl rfl) (sa rfl rfl rfl rfl rfl (SOps.nil ?_)))
     exact ⟨(n_25, IntKind.wrap .i64 (i_16 + 1)), h, Nat.lt_succ_self n_25, sub_gen [] rfl rfl (zall rfl rfl) trivial⟩
    refine SCode.cond_f rfl g27 (SCode.exit ?_)
    exact ⟨(), h, sub_gen [] rfl rfl (zall rfl rfl) trivial⟩
   refine SCode.region (show SOps _ _ _ [0, 1, 2, 3, 4, 5, 6, 7, 8, 9] _ _ from ?_)
   refine sm rfl rfl rfl rfl rfl (sm rfl rfl rfl rfl rfl (sq rfl rfl rfl (q_len_vec rfl rfl sl22) (sq rfl rfl rfl (q_lss rfl rfl rfl) (sm rfl rfl rfl rfl rfl (SOps.skip rfl 4 16 true rfl rfl (.inl (gF g26)) rfl (SOps.skip rfl 4 16 true rfl rfl (.inl (gF g26)) rfl (SOps.skip rfl 4 16 true rfl rfl (.inl (gF g26)) rfl (SOps.skip rfl 4 16 true rfl rfl (.inl (gF g26)) rfl (sq rfl rfl rfl (q_pick_f rfl rfl g26 rfl) ?_)))))))))
   refine SOps.nil (SCode.cond_f rfl rfl (SCode.exit ?_))
   exact ⟨(), h, sub_gen [] rfl rfl (zall rfl rfl) trivial⟩
 rintro ⟨⟩ h
 show SCode _ _ _ S3 _
 try dsimp only at h
 unfold chargenetref10_Compare_p7 at h
 refine SCode.seq (SCode.seq ?_)
 refine SCode.region (show SOps _ _ _ [0, 1, 2, 3, 4] _ _ from ?_)
 refine sm rfl rfl rfl rfl rfl (sq rfl rfl rfl (q_len_vec rfl rfl sl22) (sm rfl rfl rfl rfl rfl (sq rfl rfl rfl (q_len_vec rfl rfl sl22) (sq rfl rfl rfl (q_lss rfl rfl rfl) (SOps.nil ?_)))))
 rcases cond_out h with ⟨g5, h⟩ | ⟨g5, h⟩
 ·refine SCode.cond_t rfl g5 (SCode.seq ?_)
  refine SCode.region (show SOps _ _ _ [0] _ _ from ?_)
  refine sa rfl rfl rfl rfl rfl (SOps.nil (SCode.ret ?_))
  obtain rfl := Option.some.inj h
  exact ⟨⟨[(4, ci ((-1)))], []⟩, _, sub_gen [] rfl rfl (zall rfl rfl) trivial, resA1 (v := .c (.int .i64 ((-1)))) rfl rfl, rfl⟩
 refine SCode.cond_f rfl g5 (SCode.skip (SCode.seq (SCode.seq ?_)))
 refine SCode.region (show SOps _ _ _ [0, 1, 2, 3, 4] _ _ from ?_)
 refine sm rfl rfl rfl rfl rfl (sq rfl rfl rfl (q_len_vec rfl rfl sl22) (sm rfl rfl rfl rfl rfl (sq rfl rfl rfl (q_len_vec rfl rfl sl22) (sq rfl rfl rfl (q_gtr rfl rfl rfl) (SOps.nil ?_)))))
 rcases cond_out h with ⟨g6, h⟩ | ⟨g6, h⟩
 ·refine SCode.cond_t rfl g6 (SCode.seq ?_)
  refine SCode.region (show SOps _ _ _ [0] _ _ from ?_)
  refine sa rfl rfl rfl rfl rfl (SOps.nil (SCode.ret ?_))
  obtain rfl := Option.some.inj h
  exact ⟨⟨[(4, ci 1)], []⟩, _, sub_gen [] rfl rfl (zall rfl rfl) trivial, resA1 (v := .c (.int .i64 1)) rfl rfl, rfl⟩
 refine SCode.cond_f rfl g6 (SCode.skip (SCode.seq ?_))
 refine SCode.region (show SOps _ _ _ [0] _ _ from ?_)
 refine sa rfl rfl rfl rfl rfl (SOps.nil (SCode.ret ?_))
 obtain rfl := Option.some.inj h
 exact ⟨⟨[(4, ci 0)], []⟩, _, sub_gen [] rfl rfl (zall rfl rfl) trivial, resA1 (v := .c (.int .i64 0)) rfl rfl, rfl⟩
theorem chargenetlaw18_sameInts_ok (F : Nat) (a0_a : List Int) (a1_b : List Int) (r : Bool) (h : chargenetlaw18_sameInts F a0_a a1_b = some r) :
  SFun Try.prog 19 [] [.c (vI a0_a), .c (vI a1_b)] (fun x _ => x = .c (.bool r)) := by
 refine SFun.of (n := 26) Try.func19 rfl rfl rfl ?_
 unfold chargenetlaw18_sameInts at h
 show SCode _ _ _ ⟨[(0, .c (vI a0_a)), (1, .c (vI a1_b))], []⟩ _
 refine SCode.seq ?_
 refine SCode.region (show SOps _ _ _ [0] _ _ from ?_)
 refine sa rfl rfl rfl rfl rfl (SOps.nil (SCode.seq (SCode.seq ?_)))
 refine SCode.region (show SOps _ _ _ [0, 1, 2, 3, 4] _ _ from ?_)
 refine sm rfl rfl rfl rfl rfl (sq rfl rfl rfl (q_len_vec rfl rfl sl22) (sm rfl rfl rfl rfl rfl (sq rfl rfl rfl (q_len_vec rfl rfl sl22) (sq rfl rfl rfl (q_neq rfl rfl rfl) (SOps.nil ?_)))))
 rcases cond_out h with ⟨g1, h⟩ | ⟨g1, h⟩
 ·refine SCode.cond_t rfl g1 (SCode.seq ?_)
  refine SCode.region (show SOps _ _ _ [0] _ _ from ?_)
  refine sa rfl rfl rfl rfl rfl (SOps.nil (SCode.ret ?_))
  obtain rfl := Option.some.inj h
  exact ⟨⟨[(4, .c (.bool false))], []⟩, _, sub_gen [] rfl rfl (zall rfl rfl) trivial, resA1 (v := .c (.bool false)) rfl rfl, rfl⟩
 refine SCode.cond_f rfl g1 (SCode.skip ?_)
 let S3 := (⟨[], []⟩ : St)
 refine SCode.join (σ := Unit) (S := fun s => S3) (g := fun s => chargenetlaw18_sameInts_p2 = some r) ?_ ?_
 rotate_left
 ·refine SCode.seq ?_
  refine SCode.region (show SOps _ _ _ [0, 1, 2] _ _ from ?_)
  refine sm rfl rfl rfl rfl rfl (sq rfl rfl rfl (q_len_vec rfl rfl sl22) (sm rfl rfl rfl rfl rfl (SOps.nil (SCode.block ?_))))
  let S2 := fun (t13_7 : Int) => (⟨[(0, .c (vI a0_a)), (1, .c (vI a1_b)), (12, ci (((a0_a).length : Int))), (13, ci t13_7)], []⟩ : St)
  refine SCode.sub (st' := (S2 0)) (sub_gen [] rfl rfl (zall rfl rfl) trivial) ?_
  refine (SCode.loop (σ := Nat × Int) (S := fun s => (S2 s.2)) (g := fun s => chargenetlaw18_sameInts_l12 a0_a a1_b s.1 s.2 = some r) (μ := fun s => s.1) (F, 0) h ?_)
  rintro ⟨n_12, t13_7⟩ h
  try dsimp only at h
  show SCode _ _ _ (S2 t13_7) _
  cases n_12 with
  | zero => cases h
  | succ n_12 =>
   rw [chargenetlaw18_sameInts_l12] at h
   unfold chargenetlaw18_sameInts_b12 at h
   refine SCode.seq ?_
   refine SCode.region (show SOps _ _ _ [0] _ _ from ?_)
   refine sq rfl rfl rfl (q_lss rfl rfl rfl) (SOps.nil (SCode.seq ?_))
   rcases cond_out h with ⟨g13, h⟩ | ⟨g13, h⟩
   ·refine SCode.cond_t rfl g13 (SCode.skip (SCode.seq (SCode.block (SCode.seq ?_))))
    refine SCode.region (show SOps _ _ _ [0, 1] _ _ from ?_)
    refine sm rfl rfl rfl rfl rfl (sa rfl rfl rfl rfl rfl (SOps.nil (SCode.seq (SCode.sub (st' := ⟨[(0, .c (vI a0_a)), (1, .c (vI a1_b)), (5, ci t13_7), (12, ci (((a0_a).length : Int))), (13, ci t13_7)], []⟩) (sub_gen [] rfl rfl (zall rfl rfl) trivial) ?_))))
    obtain ⟨g14, h⟩ := guard_out h
    obtain ⟨g15, h⟩ := guard_out h
    refine SCode.drawK mixed [[], [], [0, 1], [0, 1, 2], [], [], [4, 5], [4, 5, 6], [0, 1, 2, 3, 4, 5, 6, 7]] 9 0 rfl rfl (qm rfl rfl rfl rfl rfl (qm rfl rfl rfl rfl rfl (qr rfl rfl rfl (q_index_vec rfl rfl rfl sl22 rfl g14.1 g14.2) (qr rfl rfl rfl (q_load_eptr rfl rfl ty3) (qm rfl rfl rfl rfl rfl (qm rfl rfl rfl rfl rfl (qr rfl rfl rfl (q_index_vec rfl rfl rfl sl22 rfl g15.1 g15.2) (qr rfl rfl rfl (q_load_eptr rfl rfl ty3) (qr rfl rfl rfl (q_neq rfl rfl rfl) ?_)))))))))
    refine QK.nil ?_
    refine (show SOps _ _ _ [] _ _ from ?_)
    refine SOps.sub (st' := ⟨[(0, .c (vI a0_a)), (1, .c (vI a1_b)), (12, ci (((a0_a).length : Int))), (13, ci t13_7), (24, .c (.bool ((!decide (a0_a.getD t13_7.toNat 0 = a1_b.getD t13_7.toNat 0)))))], []⟩) (sub_gen [] rfl rfl (zall rfl rfl) trivial) (SOps.nil ?_)
    rcases cond_out h with ⟨g16, h⟩ | ⟨g16, h⟩
    ·refine SCode.cond_t rfl g16 (SCode.seq ?_)
     refine SCode.region (show SOps _ _ _ [0] _ _ from ?_)
     refine sa rfl rfl rfl rfl rfl (SOps.nil (SCode.ret ?_))
     obtain rfl := Option.some.inj h
     exact ⟨⟨[(4, .c (.bool false))], []⟩, _, sub_gen [] rfl rfl (zall rfl rfl) trivial, resA1 (v := .c (.bool false)) rfl rfl, rfl⟩
    refine SCode.cond_f rfl g16 (SCode.skip ?_)
    refine SCode.region (show SOps _ _ _ [0, 1] _ _ from ?_)
    refine sq rfl rfl rfl (q_add rfl rfl rfl) (sm rfl rfl rfl rfl rfl (SOps.nil ?_))
    exact ⟨(n_12, IntKind.wrap .i64 (t13_7 + 1)), h, Nat.lt_succ_self n_12, sub_gen [] rfl rfl (zall rfl rfl) trivial⟩
   refine SCode.cond_f rfl g13 (SCode.exit ?_)
   exact ⟨(), h, sub_gen [] rfl rfl trivial trivial⟩
 rintro ⟨⟩ h
 show SCode _ _ _ S3 _
 try dsimp only at h
 unfold chargenetlaw18_sameInts_p2 at h
 refine SCode.seq ?_
 refine SCode.region (show SOps _ _ _ [0] _ _ from ?_)
 refine sa rfl rfl rfl rfl rfl (SOps.nil (SCode.ret ?_))
 obtain rfl := Option.some.inj h
 exact ⟨⟨[(4, .c (.bool true))], []⟩, _, sub_gen [] rfl rfl (zall rfl rfl) trivial, resA1 (v := .c (.bool true)) rfl rfl, rfl⟩
theorem chargenetlaw18_PlanFairs_ok (F : Nat) (a0_p : SProblem) (r : Bool) (h : chargenetlaw18_PlanFairs F a0_p = some r) :
  SFun Try.prog 5 [] [.a (bSProblem a0_p)] (fun x _ => x = .c (.bool r)) := by
 refine SFun.of (n := 35) Try.func5 rfl rfl rfl ?_
 unfold chargenetlaw18_PlanFairs at h
 show SCode _ _ _ ⟨[(0, .a (bSProblem a0_p))], []⟩ _
 refine SCode.seq ?_
 refine SCode.region (show SOps _ _ _ [0, 1] _ _ from ?_)
 refine se rfl rfl (e_box rfl rfl rfl rfl rfl rfl) (sa rfl rfl rfl rfl rfl (SOps.nil (SCode.seq (SCode.seq ?_))))
 obtain ⟨c_1, g2, h⟩ := bind_out h
 try dsimp only at h
 refine SCode.region (show SOps _ _ _ [0, 1, 2] _ _ from ?_)
 refine sq rfl rfl rfl (q_load_ptr_all rfl rfl rfl rfl rfl ty26) (sq rfl rfl rfl (q_call (chargenetlaw18_Small_ok F a0_p c_1 g2) [] rfl fn13 ⟨⟨rfl, rfl⟩, trivial⟩ (.inl rfl)) (sq rfl rfl rfl (q_not rfl rfl) (SOps.nil ?_)))
 rcases cond_out h with ⟨g3, h⟩ | ⟨g3, h⟩
 ·refine SCode.cond_t rfl g3 (SCode.seq ?_)
  obtain ⟨c_4, g5, h⟩ := bind_out h
  try dsimp only at h
  refine SCode.region (show SOps _ _ _ [0, 1] _ _ from ?_)
  refine sq rfl rfl rfl (q_call (chargenetlaw18_exampleHolds_ok F  c_4 g5) [] rfl fn10 trivial (.inl rfl)) (sa rfl rfl rfl rfl rfl (SOps.nil (SCode.ret ?_)))
  obtain rfl := Option.some.inj h
  exact ⟨⟨[(2, .c (.bool c_4))], []⟩, _, sub_gen [] rfl rfl (zall rfl rfl) trivial, resA1 (v := .c (.bool c_4)) rfl rfl, rfl⟩
 refine SCode.cond_f rfl g3 (SCode.skip (SCode.seq ?_))
 obtain ⟨c_6, g7, h⟩ := bind_out h
 try dsimp only at h
 refine SCode.region (show SOps _ _ _ [0, 1, 2, 3, 4, 5, 6] _ _ from ?_)
 refine sq rfl rfl rfl (q_load_ptr_all rfl rfl rfl rfl rfl ty26) (sq rfl rfl rfl (q_call (plan_Fair_ok F a0_p c_6 g7) [] rfl fn16 ⟨⟨rfl, rfl⟩, trivial⟩ (.inl rfl)) (sm rfl rfl rfl rfl rfl (sq rfl rfl rfl (q_extract rfl rfl rfl) (sq rfl rfl rfl (q_extract rfl rfl rfl) (sa rfl rfl rfl rfl rfl (sa rfl rfl rfl rfl rfl (SOps.nil (SCode.seq ?_))))))))
 obtain ⟨c_8, g9, h⟩ := bind_out h
 try dsimp only at h
 refine SCode.region (show SOps _ _ _ [0, 1, 2, 3, 4, 5, 6] _ _ from ?_)
 refine sq rfl rfl rfl (q_load_ptr_all rfl rfl rfl rfl rfl ty26) (sq rfl rfl rfl (q_call (chargenetref18_Fair_ok F a0_p c_8 g9) [] rfl fn17 ⟨⟨rfl, rfl⟩, trivial⟩ (.inl rfl)) (sm rfl rfl rfl rfl rfl (sq rfl rfl rfl (q_extract rfl rfl rfl) (sq rfl rfl rfl (q_extract rfl rfl rfl) (sa rfl rfl rfl rfl rfl (sa rfl rfl rfl rfl rfl (SOps.sub (st' := ⟨[(3, .c (vI c_6.1)), (4, ci c_6.2), (5, .c (vI c_8.1)), (6, ci c_8.2)], []⟩) (sub_gen [] rfl rfl (zall rfl rfl) trivial) (SOps.nil (SCode.seq ?_)))))))))
 rcases cond_out h with ⟨g10, h⟩ | ⟨g10, h⟩
 ·obtain ⟨c_11, g12, h⟩ := bind_out h
  try dsimp only at h
  rcases cond_out h with ⟨g13, h⟩ | ⟨g13, h⟩
  ·obtain ⟨c_14, g15, h⟩ := bind_out h
   try dsimp only at h
   refine SCode.region (show SOps _ _ _ [0, 1, 2, 3, 4, 5, 6, 7, 8, 9, 10, 11, 12, 13, 14] _ _ from ?_)
   refine sm rfl rfl rfl rfl rfl (sm rfl rfl rfl rfl rfl (sq rfl rfl rfl (q_eql rfl rfl rfl) (sm rfl rfl rfl rfl rfl (SOps.q rfl (.guard 3 24 true rfl rfl (gT g10)) rfl (q_move rfl rfl) (SOps.q rfl (.guard 3 24 true rfl rfl (gT g10)) rfl (q_move rfl rfl) (SOps.q rfl (.guard 3 24 true rfl rfl (gT g10)) rfl (q_call (chargenetref10_Compare_ok F c_6.1 c_8.1 c_11 g12) [] rfl fn18 ⟨⟨_, rfl, .inl ⟨rfl, rfl⟩⟩, ⟨_, rfl, .inl ⟨rfl, rfl⟩⟩, trivial⟩ (.inl rfl)) (SOps.q rfl (.guard 3 24 true rfl rfl (gT g10)) rfl (q_eql rfl rfl rfl) (sq rfl rfl rfl (q_pick_t rfl rfl g10 rfl) (sm rfl rfl rfl rfl rfl ?_)))))))))
   refine SOps.q rfl (.guard 9 30 true rfl rfl (gT g13)) rfl (q_move rfl rfl) (SOps.q rfl (.guard 9 30 true rfl rfl (gT g13)) rfl (q_move rfl rfl) (SOps.q rfl (.guard 9 30 true rfl rfl (gT g13)) rfl (q_call (chargenetlaw18_sameInts_ok F c_6.1 c_8.1 c_14 g15) [] rfl fn19 ⟨⟨_, rfl, .inl ⟨rfl, rfl⟩⟩, ⟨_, rfl, .inl ⟨rfl, rfl⟩⟩, trivial⟩ (.inl rfl)) (sq rfl rfl rfl (q_pick_t rfl rfl g13 rfl) (sa rfl rfl rfl rfl rfl (SOps.nil (SCode.ret ?_))))))
   obtain rfl := Option.some.inj h
   exact ⟨⟨[(2, .c (.bool c_14))], []⟩, _, sub_gen [] rfl rfl (zall rfl rfl) trivial, resA1 (v := .c (.bool c_14)) rfl rfl, rfl⟩
  refine SCode.region (show SOps _ _ _ [0, 1, 2, 3, 4, 5, 6, 7, 8, 9, 10, 11, 12, 13, 14] _ _ from ?_)
  refine sm rfl rfl rfl rfl rfl (sm rfl rfl rfl rfl rfl (sq rfl rfl rfl (q_eql rfl rfl rfl) (sm rfl rfl rfl rfl rfl (SOps.q rfl (.guard 3 24 true rfl rfl (gT g10)) rfl (q_move rfl rfl) (SOps.q rfl (.guard 3 24 true rfl rfl (gT g10)) rfl (q_move rfl rfl) (SOps.q rfl (.guard 3 24 true rfl rfl (gT g10)) rfl (q_call (chargenetref10_Compare_ok F c_6.1 c_8.1 c_11 g12) [] rfl fn18 ⟨⟨_, rfl, .inl ⟨rfl, rfl⟩⟩, ⟨_, rfl, .inl ⟨rfl, rfl⟩⟩, trivial⟩ (.inl rfl)) (SOps.q rfl (.guard 3 24 true rfl rfl (gT g10)) rfl (q_eql rfl rfl rfl) (sq rfl rfl rfl (q_pick_t rfl rfl g10 rfl) (sm rfl rfl rfl rfl rfl ?_)))))))))
  refine SOps.skip rfl 9 30 true rfl rfl (.inl (gF g13)) rfl (SOps.skip rfl 9 30 true rfl rfl (.inl (gF g13)) rfl (SOps.skip rfl 9 30 true rfl rfl (.inl (gF g13)) rfl (sq rfl rfl rfl (q_pick_f rfl rfl g13 rfl) (sa rfl rfl rfl rfl rfl (SOps.nil (SCode.ret ?_))))))
  obtain rfl := Option.some.inj h
  exact ⟨⟨[(2, .c (.bool false))], []⟩, _, sub_gen [] rfl rfl (zall rfl rfl) trivial, resA1 (v := .c (.bool false)) rfl rfl, rfl⟩
 refine SCode.region (show SOps _ _ _ [0, 1, 2, 3, 4, 5, 6, 7, 8, 9, 10, 11, 12, 13, 14] _ _ from ?_)
 refine sm rfl rfl rfl rfl rfl (sm rfl rfl rfl rfl rfl (sq rfl rfl rfl (q_eql rfl rfl rfl) (sm rfl rfl rfl rfl rfl (SOps.skip rfl 3 24 true rfl rfl (.inl (gF g10)) rfl (SOps.skip rfl 3 24 true rfl rfl (.inl (gF g10)) rfl (SOps.skip rfl 3 24 true rfl rfl (.inl (gF g10)) rfl (SOps.skip rfl 3 24 true rfl rfl (.inl (gF g10)) rfl (sq rfl rfl rfl (q_pick_f rfl rfl g10 rfl) (sm rfl rfl rfl rfl rfl ?_)))))))))
 refine SOps.skip rfl 9 30 true rfl rfl (.inl rfl) rfl (SOps.skip rfl 9 30 true rfl rfl (.inl rfl) rfl (SOps.skip rfl 9 30 true rfl rfl (.inl rfl) rfl (sq rfl rfl rfl (q_pick_f rfl rfl rfl rfl) (sa rfl rfl rfl rfl rfl (SOps.nil (SCode.ret ?_))))))
 obtain rfl := Option.some.inj h
 exact ⟨⟨[(2, .c (.bool false))], []⟩, _, sub_gen [] rfl rfl (zall rfl rfl) trivial, resA1 (v := .c (.bool false)) rfl rfl, rfl⟩
end Go.Proofs.Ytfefnffdocmlmaa.W
