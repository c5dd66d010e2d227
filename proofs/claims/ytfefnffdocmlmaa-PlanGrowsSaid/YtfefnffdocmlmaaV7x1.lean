/- Written by a program of ours (wip/eng/gen.py): the functions compute their models. -/
import Derived.Test.YtfefnffdocmlmaaFacts
namespace Go.Proofs.Ytfefnffdocmlmaa.W
open Go Go.Proofs Go.Proofs.Ytfefnffdocmlmaa.E Go.Proofs.Ytfefnffdocmlmaa.M
set_option linter.unusedVariables false
set_option maxRecDepth 100000
set_option maxHeartbeats 8000000
theorem plan_forest_ok (F : Nat) (a0_p : SProblem) (r : Bool) (h : plan_forest F a0_p = some r) :
  SFun Try.prog 24 [] [.a (bSProblem a0_p)] (fun x _ => x = .c (.bool r)) := by
 refine SFun.of (n := 52) Try.func24 rfl rfl rfl ?_
 unfold plan_forest at h
 show SCode _ _ _ ⟨[(0, .a (bSProblem a0_p))], []⟩ _
 refine SCode.seq (SCode.region (se rfl rfl (e_box rfl rfl rfl rfl rfl rfl) (sa rfl rfl (SOps.nil ?_))))
 let S24 := (⟨[(1, .c (.ptr 0 0))], [.box (bSProblem a0_p)]⟩ : St)
 refine SCode.join (σ := Unit) (S := fun s => S24) (g := fun s => plan_forest_p58 F a0_p = some r) ?_ ?_
 rotate_left
 ·refine SCode.seq (SCode.region (sq rfl rfl (q_field_ptr rfl rfl fd26_0) (sq rfl rfl (q_load_ptr rfl rfl rfl rfl ty22) (sq rfl rfl (q_len_vec rfl rfl sl22) (sm rfl rfl (SOps.nil (SCode.block ?_)))))))
  let S23 := fun (t12_63 : Int) => (⟨[(1, .c (.ptr 0 0)), (10, .c (vI a0_p.Parents)), (11, ci (((a0_p.Parents).length : Int))), (12, ci t12_63)], [.box (bSProblem a0_p)]⟩ : St)
  refine SCode.sub (st' := (S23 0)) (sub_gen [0] rfl rfl (zall rfl rfl) ⟨bx rfl rfl rfl, trivial⟩) ?_
  refine (SCode.loop (σ := Nat × Int) (S := fun s => (S23 s.2)) (g := fun s => plan_forest_l68 F a0_p s.1 s.2 = some r) (μ := fun s => s.1) (F, 0) h ?_)
  rintro ⟨n_68, t12_63⟩ h
  try dsimp only at h
  show SCode _ _ _ (S23 t12_63) _
  cases n_68 with
  | zero => cases h
  | succ n_68 =>
   rw [plan_forest_l68] at h
   unfold plan_forest_b68 at h
   refine SCode.seq (SCode.region (sq rfl rfl (q_lss rfl rfl rfl) (SOps.nil (SCode.seq ?_))))
   rcases cond_out h with ⟨g69, h⟩ | ⟨g69, h⟩
   ·refine SCode.cond_t rfl g69 (SCode.skip (SCode.seq (SCode.block (SCode.seq ?_))))
    obtain ⟨g70, h⟩ := guard_out h
    refine SCode.region (sm rfl rfl (sq rfl rfl (q_index_vec rfl rfl rfl sl22 rfl g70.1 g70.2) (sq rfl rfl (q_load_eptr rfl rfl ty3) (sa rfl rfl (sa rfl rfl (SOps.nil (SCode.seq ?_)))))))
    rcases cond_out h with ⟨g71, h⟩ | ⟨g71, h⟩
    ·refine SCode.region (sm rfl rfl (sq rfl rfl (q_lss rfl rfl rfl) (sm rfl rfl (SOps.skip rfl 2 19 false rfl rfl (.inl (gT g71)) rfl (SOps.skip rfl 2 19 false rfl rfl (.inl (gT g71)) rfl (SOps.skip rfl 2 19 false rfl rfl (.inl (gT g71)) rfl (sq rfl rfl (q_pick_t rfl rfl g71 rfl) (SOps.nil (SCode.cond_t rfl rfl (SCode.seq (SCode.region (sa rfl rfl (SOps.nil (SCode.ret ?_))))))))))))))
     obtain rfl := Option.some.inj h
     exact ⟨⟨[(2, .c (.bool false))], []⟩, _, sub_gen [] rfl rfl (zall rfl rfl) trivial, resA1 (v := .c (.bool false)) rfl rfl, rfl⟩
    refine SCode.region (sm rfl rfl (sq rfl rfl (q_lss rfl rfl rfl) (sm rfl rfl (SOps.q rfl (.guard 2 19 false rfl rfl (gF g71)) rfl (q_move rfl rfl) (SOps.q rfl (.guard 2 19 false rfl rfl (gF g71)) rfl (q_move rfl rfl) (SOps.q rfl (.guard 2 19 false rfl rfl (gF g71)) rfl (q_geq rfl rfl rfl) (sq rfl rfl (q_pick_f rfl rfl g71 rfl) (SOps.nil ?_))))))))
    rcases cond_out h with ⟨g72, h⟩ | ⟨g72, h⟩
    ·refine SCode.cond_t rfl g72 (SCode.seq (SCode.region (sa rfl rfl (SOps.nil (SCode.ret ?_)))))
     obtain rfl := Option.some.inj h
     exact ⟨⟨[(2, .c (.bool false))], []⟩, _, sub_gen [] rfl rfl (zall rfl rfl) trivial, resA1 (v := .c (.bool false)) rfl rfl, rfl⟩
    refine SCode.cond_f rfl g72 (SCode.skip (SCode.region (sq rfl rfl (q_add rfl rfl rfl) (sm rfl rfl (SOps.nil ?_)))))
    exact ⟨(n_68, IntKind.wrap .i64 (t12_63 + 1)), h, Nat.lt_succ_self n_68, sub_gen [0] rfl rfl (zall rfl rfl) ⟨bx rfl rfl rfl, trivial⟩⟩
   refine SCode.cond_f rfl g69 (SCode.exit ?_)
   exact ⟨(), h, sub_gen [0] rfl rfl (zall rfl rfl) ⟨bx rfl rfl rfl, trivial⟩⟩
 rintro ⟨⟩ h
 show SCode _ _ _ S24 _
 try dsimp only at h
 unfold plan_forest_p58 at h
 let S22 := (⟨[], []⟩ : St)
 refine SCode.join (σ := Unit) (S := fun s => S22) (g := fun s => plan_forest_p1 = some r) ?_ ?_
 rotate_left
 ·refine SCode.seq (SCode.region (sq rfl rfl (q_field_ptr rfl rfl fd26_1) (sq rfl rfl (q_load_ptr rfl rfl rfl rfl ty23) (sq rfl rfl (q_len_vec rfl rfl sl23) (sm rfl rfl (SOps.nil (SCode.block ?_)))))))
  let S21 := fun (t28_20 : Int) => (⟨[(1, .c (.ptr 0 0)), (26, .c (vR a0_p.Caps)), (27, ci (((a0_p.Caps).length : Int))), (28, ci t28_20)], [.box (bSProblem a0_p)]⟩ : St)
  refine SCode.sub (st' := (S21 0)) (sub_gen [0] rfl rfl (zall rfl rfl) ⟨bx rfl rfl rfl, trivial⟩) ?_
  refine (SCode.loop (σ := Nat × Int) (S := fun s => (S21 s.2)) (g := fun s => plan_forest_l39 F a0_p s.1 s.2 = some r) (μ := fun s => s.1) (F, 0) h ?_)
  rintro ⟨n_39, t28_20⟩ h
  try dsimp only at h
  show SCode _ _ _ (S21 t28_20) _
  cases n_39 with
  | zero => cases h
  | succ n_39 =>
   rw [plan_forest_l39] at h
   unfold plan_forest_b39 at h
   refine SCode.seq (SCode.region (sq rfl rfl (q_lss rfl rfl rfl) (SOps.nil (SCode.seq ?_))))
   rcases cond_out h with ⟨g40, h⟩ | ⟨g40, h⟩
   ·refine SCode.cond_t rfl g40 (SCode.skip ?_)
    let S20 := (⟨[(1, .c (.ptr 0 0)), (26, .c (vR a0_p.Caps)), (27, ci (((a0_p.Caps).length : Int))), (28, ci t28_20)], [.box (bSProblem a0_p)]⟩ : St)
    refine SCode.join (σ := Unit) (S := fun s => S20) (g := fun s => plan_forest_p41 t28_20 (fun t28_20 => plan_forest_l39 F a0_p n_39 t28_20) = some r) ?_ ?_
    rotate_left
    ·refine SCode.block (SCode.seq ?_)
     obtain ⟨g42, h⟩ := guard_out h
     refine SCode.region (sq rfl rfl (q_index_vec rfl rfl rfl sl23 rfl g42.1 g42.2) (sq rfl rfl (q_load_eptr rfl rfl ty22) (sa rfl rfl (SOps.nil (SCode.seq (SCode.seq (SCode.region (sm rfl rfl (sq rfl rfl (q_len_vec rfl rfl sl22) (sq rfl rfl (q_field_ptr rfl rfl fd26_0) (sq rfl rfl (q_load_ptr rfl rfl rfl rfl ty22) (sq rfl rfl (q_len_vec rfl rfl sl22) (sq rfl rfl (q_neq rfl rfl rfl) (SOps.nil ?_))))))))))))))
     rcases cond_out h with ⟨g43, h⟩ | ⟨g43, h⟩
     ·refine SCode.cond_t rfl g43 (SCode.seq (SCode.region (sa rfl rfl (SOps.nil (SCode.ret ?_)))))
      obtain rfl := Option.some.inj h
      exact ⟨⟨[(2, .c (.bool false))], []⟩, _, sub_gen [] rfl rfl (zall rfl rfl) trivial, resA1 (v := .c (.bool false)) rfl rfl, rfl⟩
     refine SCode.cond_f rfl g43 (SCode.skip (SCode.seq (SCode.region (sm rfl rfl (sq rfl rfl (q_len_vec rfl rfl sl22) (sm rfl rfl (SOps.nil (SCode.block ?_))))))))
     let S19 := fun (t40_48 : Int) => (⟨[(1, .c (.ptr 0 0)), (26, .c (vR a0_p.Caps)), (27, ci (((a0_p.Caps).length : Int))), (28, ci t28_20), (38, .c (vI (a0_p.Caps.getD t28_20.toNat ([])))), (39, ci (((a0_p.Caps.getD t28_20.toNat ([])).length : Int))), (40, ci t40_48)], [.box (bSProblem a0_p)]⟩ : St)
     refine SCode.sub (st' := (S19 0)) (sub_gen [0] rfl rfl (zall rfl rfl) ⟨bx rfl rfl rfl, trivial⟩) ?_
     refine (SCode.loop (σ := Nat × Int) (S := fun s => (S19 s.2)) (g := fun s => plan_forest_l53 a0_p t28_20 (fun t28_20 => plan_forest_l39 F a0_p n_39 t28_20) s.1 s.2 = some r) (μ := fun s => s.1) (F, 0) h ?_)
     rintro ⟨n_53, t40_48⟩ h
     try dsimp only at h
     show SCode _ _ _ (S19 t40_48) _
     cases n_53 with
     | zero => cases h
     | succ n_53 =>
      rw [plan_forest_l53] at h
      unfold plan_forest_b53 at h
      refine SCode.seq (SCode.region (sq rfl rfl (q_lss rfl rfl rfl) (SOps.nil (SCode.seq ?_))))
      rcases cond_out h with ⟨g54, h⟩ | ⟨g54, h⟩
      ·refine SCode.cond_t rfl g54 (SCode.skip (SCode.seq (SCode.block (SCode.seq ?_))))
       obtain ⟨g55, h⟩ := guard_out h
       refine SCode.region (sq rfl rfl (q_index_vec rfl rfl rfl sl22 rfl g55.1 g55.2) (sq rfl rfl (q_load_eptr rfl rfl ty3) (sa rfl rfl (SOps.nil (SCode.seq ?_)))))
       rcases cond_out h with ⟨g56, h⟩ | ⟨g56, h⟩
       ·refine SCode.region (sm rfl rfl (sq rfl rfl (q_lss rfl rfl rfl) (sm rfl rfl (SOps.skip rfl 2 46 false rfl rfl (.inl (gT g56)) rfl (SOps.skip rfl 2 46 false rfl rfl (.inl (gT g56)) rfl (sq rfl rfl (q_pick_t rfl rfl g56 rfl) (SOps.nil (SCode.cond_t rfl rfl (SCode.seq (SCode.region (sa rfl rfl (SOps.nil (SCode.ret ?_)))))))))))))
        obtain rfl := Option.some.inj h
        exact ⟨⟨[(2, .c (.bool false))], []⟩, _, sub_gen [] rfl rfl (zall rfl rfl) trivial, resA1 (v := .c (.bool false)) rfl rfl, rfl⟩
       refine SCode.region (sm rfl rfl (sq rfl rfl (q_lss rfl rfl rfl) (sm rfl rfl (SOps.q rfl (.guard 2 46 false rfl rfl (gF g56)) rfl (q_move rfl rfl) (SOps.q rfl (.guard 2 46 false rfl rfl (gF g56)) rfl (q_gtr rfl rfl rfl) (sq rfl rfl (q_pick_f rfl rfl g56 rfl) (SOps.nil ?_)))))))
       rcases cond_out h with ⟨g57, h⟩ | ⟨g57, h⟩
       ·refine SCode.cond_t rfl g57 (SCode.seq (SCode.region (sa rfl rfl (SOps.nil (SCode.ret ?_)))))
        obtain rfl := Option.some.inj h
        exact ⟨⟨[(2, .c (.bool false))], []⟩, _, sub_gen [] rfl rfl (zall rfl rfl) trivial, resA1 (v := .c (.bool false)) rfl rfl, rfl⟩
       refine SCode.cond_f rfl g57 (SCode.skip (SCode.region (sq rfl rfl (q_add rfl rfl rfl) (sm rfl rfl (SOps.nil ?_)))))
       exact ⟨(n_53, IntKind.wrap .i64 (t40_48 + 1)), h, Nat.lt_succ_self n_53, sub_gen [0] rfl rfl (zall rfl rfl) ⟨bx rfl rfl rfl, trivial⟩⟩
      refine SCode.cond_f rfl g54 (SCode.exit ?_)
      exact ⟨(), h, sub_gen [0] rfl rfl (zall rfl rfl) ⟨bx rfl rfl rfl, trivial⟩⟩
    rintro ⟨⟩ h
    show SCode _ _ _ S20 _
    try dsimp only at h
    unfold plan_forest_p41 at h
    refine SCode.region (sq rfl rfl (q_add rfl rfl rfl) (sm rfl rfl (SOps.nil ?_)))
    exact ⟨(n_39, IntKind.wrap .i64 (t28_20 + 1)), h, Nat.lt_succ_self n_39, sub_gen [0] rfl rfl (zall rfl rfl) ⟨bx rfl rfl rfl, trivial⟩⟩
   refine SCode.cond_f rfl g40 (SCode.exit ?_)
   exact ⟨(), h, sub_gen [] rfl rfl trivial trivial⟩
 rintro ⟨⟩ h
 show SCode _ _ _ S22 _
 try dsimp only at h
 unfold plan_forest_p1 at h
 refine SCode.seq (SCode.region (sa rfl rfl (SOps.nil (SCode.ret ?_))))
 obtain rfl := Option.some.inj h
 exact ⟨⟨[(2, .c (.bool true))], []⟩, _, sub_gen [] rfl rfl (zall rfl rfl) trivial, resA1 (v := .c (.bool true)) rfl rfl, rfl⟩
theorem plan_Valid_ok (F : Nat) (a0_p : SProblem) (r : Int) (h : plan_Valid F a0_p = some r) :
  SFun Try.prog 11 [] [.a (bSProblem a0_p)] (fun x _ => x = ci r) := by
 refine SFun.of (n := 117) Try.func11 rfl rfl rfl ?_
 unfold plan_Valid at h
 show SCode _ _ _ ⟨[(0, .a (bSProblem a0_p))], []⟩ _
 refine SCode.seq (SCode.region (se rfl rfl (e_box rfl rfl rfl rfl rfl rfl) (sa rfl rfl (SOps.nil (SCode.seq (SCode.sub (st' := ⟨[(1, .c (.ptr 0 0))], [.box (bSProblem a0_p)]⟩) (sub_gen [0] rfl rfl (zall rfl rfl) ⟨bx rfl rfl rfl, trivial⟩) (SCode.drawK mixed [[], [0], [0, 1], [], [3], [3, 4], [0, 1, 2], [0, 1, 2, 3, 4, 5, 6]] 8 0 rfl rfl (qr rfl rfl (q_field_ptr rfl rfl fd26_0) (qr rfl rfl (q_load_ptr rfl rfl rfl rfl ty22) (qr rfl rfl (q_len_vec rfl rfl sl22) (qr rfl rfl (q_field_ptr rfl rfl fd26_1) (qr rfl rfl (q_load_ptr rfl rfl rfl rfl ty23) (qr rfl rfl (q_len_vec rfl rfl sl23) (qr rfl rfl (q_assign rfl rfl) (qr rfl rfl (q_assign rfl rfl) ?_)))))))))))))))
 refine QK.nil (SOps.sub (st' := ⟨[(1, .c (.ptr 0 0)), (3, ci (((a0_p.Parents).length : Int))), (4, ci (((a0_p.Caps).length : Int)))], [.box (bSProblem a0_p)]⟩) (sub_gen [0] rfl rfl (zall rfl rfl) ⟨bx rfl rfl rfl, trivial⟩) (SOps.nil (SCode.seq (SCode.seq ?_))))
 rcases cond_out h with ⟨g1, h⟩ | ⟨g1, h⟩
 ·refine SCode.region (sm rfl rfl (sq rfl rfl (q_gtr rfl rfl rfl) (sm rfl rfl (SOps.skip rfl 2 15 false rfl rfl (.inl (gT g1)) rfl (SOps.skip rfl 2 15 false rfl rfl (.inl (gT g1)) rfl (sq rfl rfl (q_pick_t rfl rfl g1 rfl) (sm rfl rfl (SOps.skip rfl 6 19 false rfl rfl (.inl rfl) rfl (SOps.skip rfl 6 19 false rfl rfl (.inl rfl) rfl (SOps.skip rfl 6 19 false rfl rfl (.inl rfl) rfl (SOps.skip rfl 6 19 false rfl rfl (.inl rfl) rfl (sq rfl rfl (q_pick_t rfl rfl rfl rfl) (SOps.nil (SCode.cond_t rfl rfl (SCode.seq ?_)))))))))))))))
  refine SCode.region (sa rfl rfl (SOps.nil (SCode.ret ?_)))
  obtain rfl := Option.some.inj h
  exact ⟨⟨[(2, ci 3)], []⟩, _, sub_gen [] rfl rfl (zall rfl rfl) trivial, resA1 (v := .c (.int .i64 3)) rfl rfl, rfl⟩
 rcases cond_out h with ⟨g2, h⟩ | ⟨g2, h⟩
 ·refine SCode.region (sm rfl rfl (sq rfl rfl (q_gtr rfl rfl rfl) (sm rfl rfl (SOps.q rfl (.guard 2 15 false rfl rfl (gF g1)) rfl (q_move rfl rfl) (SOps.q rfl (.guard 2 15 false rfl rfl (gF g1)) rfl (q_gtr rfl rfl rfl) (sq rfl rfl (q_pick_f rfl rfl g1 rfl) (sm rfl rfl (SOps.skip rfl 6 19 false rfl rfl (.inl (gT g2)) rfl (SOps.skip rfl 6 19 false rfl rfl (.inl (gT g2)) rfl (SOps.skip rfl 6 19 false rfl rfl (.inl (gT g2)) rfl (SOps.skip rfl 6 19 false rfl rfl (.inl (gT g2)) rfl (sq rfl rfl (q_pick_t rfl rfl g2 rfl) (SOps.nil (SCode.cond_t rfl rfl (SCode.seq ?_)))))))))))))))
  refine SCode.region (sa rfl rfl (SOps.nil (SCode.ret ?_)))
  obtain rfl := Option.some.inj h
  exact ⟨⟨[(2, ci 3)], []⟩, _, sub_gen [] rfl rfl (zall rfl rfl) trivial, resA1 (v := .c (.int .i64 3)) rfl rfl, rfl⟩
 refine SCode.region (sm rfl rfl (sq rfl rfl (q_gtr rfl rfl rfl) (sm rfl rfl (SOps.q rfl (.guard 2 15 false rfl rfl (gF g1)) rfl (q_move rfl rfl) (SOps.q rfl (.guard 2 15 false rfl rfl (gF g1)) rfl (q_gtr rfl rfl rfl) (sq rfl rfl (q_pick_f rfl rfl g1 rfl) (sm rfl rfl (SOps.q rfl (.guard 6 19 false rfl rfl (gF g2)) rfl (q_field_ptr rfl rfl fd26_4) (SOps.q rfl (.guard 6 19 false rfl rfl (gF g2)) rfl (q_load_ptr rfl rfl rfl rfl ty24) (SOps.q rfl (.guard 6 19 false rfl rfl (gF g2)) rfl (q_len_vec rfl rfl sl24) (SOps.q rfl (.guard 6 19 false rfl rfl (gF g2)) rfl (q_gtr rfl rfl rfl) (sq rfl rfl (q_pick_f rfl rfl g2 rfl) (SOps.nil ?_)))))))))))))
 rcases cond_out h with ⟨g3, h⟩ | ⟨g3, h⟩
 ·refine SCode.cond_t rfl g3 (SCode.seq (SCode.region (sa rfl rfl (SOps.nil (SCode.ret ?_)))))
  obtain rfl := Option.some.inj h
  exact ⟨⟨[(2, ci 3)], []⟩, _, sub_gen [] rfl rfl (zall rfl rfl) trivial, resA1 (v := .c (.int .i64 3)) rfl rfl, rfl⟩
 refine SCode.cond_f rfl g3 (SCode.skip (SCode.seq (SCode.seq (SCode.region (sq rfl rfl (q_field_ptr rfl rfl fd26_4) (sq rfl rfl (q_load_ptr rfl rfl rfl rfl ty24) (sq rfl rfl (q_len_vec rfl rfl sl24) (sq rfl rfl (q_add rfl rfl rfl) (sm rfl rfl (sm rfl rfl (sq rfl rfl (q_mul rfl rfl rfl) (sq rfl rfl (q_add rfl rfl rfl) (sq rfl rfl (q_gtr rfl rfl rfl) (SOps.sub (st' := ⟨[(1, .c (.ptr 0 0)), (3, ci (((a0_p.Parents).length : Int))), (4, ci (((a0_p.Caps).length : Int))), (33, .c (.bool (decide (256 < IntKind.wrap .i64 (IntKind.wrap .i64 (2 + ((a0_p.Demands).length : Int)) + IntKind.wrap .i64 (((a0_p.Caps).length : Int) * ((a0_p.Parents).length : Int)))))))], [.box (bSProblem a0_p)]⟩) (sub_gen [0] rfl rfl (zall rfl rfl) ⟨bx rfl rfl rfl, trivial⟩) (SOps.nil ?_)))))))))))))))
 rcases cond_out h with ⟨g4, h⟩ | ⟨g4, h⟩
 ·refine SCode.cond_t rfl g4 (SCode.seq (SCode.region (sa rfl rfl (SOps.nil (SCode.ret ?_)))))
  obtain rfl := Option.some.inj h
  exact ⟨⟨[(2, ci 3)], []⟩, _, sub_gen [] rfl rfl (zall rfl rfl) trivial, resA1 (v := .c (.int .i64 3)) rfl rfl, rfl⟩
 refine SCode.cond_f rfl g4 (SCode.skip (SCode.seq (SCode.seq ?_)))
 rcases cond_out h with ⟨g5, h⟩ | ⟨g5, h⟩
 ·refine SCode.region (sm rfl rfl (sq rfl rfl (q_eql rfl rfl rfl) (sm rfl rfl (SOps.skip rfl 2 36 false rfl rfl (.inl (gT g5)) rfl (SOps.skip rfl 2 36 false rfl rfl (.inl (gT g5)) rfl (SOps.skip rfl 2 36 false rfl rfl (.inl (gT g5)) rfl (sq rfl rfl (q_pick_t rfl rfl g5 rfl) (SOps.nil (SCode.cond_t rfl rfl (SCode.seq (SCode.region (sa rfl rfl (SOps.nil (SCode.ret ?_))))))))))))))
  obtain rfl := Option.some.inj h
  exact ⟨⟨[(2, ci 1)], []⟩, _, sub_gen [] rfl rfl (zall rfl rfl) trivial, resA1 (v := .c (.int .i64 1)) rfl rfl, rfl⟩
 obtain ⟨c_6, g7, h⟩ := bind_out h
 try dsimp only at h
 refine SCode.region (sm rfl rfl (sq rfl rfl (q_eql rfl rfl rfl) (sm rfl rfl (SOps.q rfl (.guard 2 36 false rfl rfl (gF g5)) rfl (q_load_ptr_all rfl rfl rfl rfl rfl ty26) (SOps.q rfl (.guard 2 36 false rfl rfl (gF g5)) rfl (q_call (plan_forest_ok F a0_p c_6 g7) [] rfl fn24 ⟨⟨rfl, rfl⟩, trivial⟩ (.inl rfl)) (SOps.q rfl (.guard 2 36 false rfl rfl (gF g5)) rfl (q_not rfl rfl) (sq rfl rfl (q_pick_f rfl rfl g5 rfl) (SOps.nil ?_))))))))
 rcases cond_out h with ⟨g8, h⟩ | ⟨g8, h⟩
 ·refine SCode.cond_t rfl g8 (SCode.seq (SCode.region (sa rfl rfl (SOps.nil (SCode.ret ?_)))))
  obtain rfl := Option.some.inj h
  exact ⟨⟨[(2, ci 1)], []⟩, _, sub_gen [] rfl rfl (zall rfl rfl) trivial, resA1 (v := .c (.int .i64 1)) rfl rfl, rfl⟩
 refine SCode.cond_f rfl g8 (SCode.skip (SCode.seq (SCode.seq ?_)))
 rcases cond_out h with ⟨g9, h⟩ | ⟨g9, h⟩
 ·refine SCode.region (sq rfl rfl (q_field_ptr rfl rfl fd26_2) (sq rfl rfl (q_load_ptr rfl rfl rfl rfl ty3) (sq rfl rfl (q_lss rfl rfl rfl) (sm rfl rfl (SOps.skip rfl 3 44 false rfl rfl (.inl (gT g9)) rfl (SOps.skip rfl 3 44 false rfl rfl (.inl (gT g9)) rfl (SOps.skip rfl 3 44 false rfl rfl (.inl (gT g9)) rfl (sq rfl rfl (q_pick_t rfl rfl g9 rfl) (sm rfl rfl (SOps.skip rfl 8 49 false rfl rfl (.inl rfl) rfl (SOps.skip rfl 8 49 false rfl rfl (.inl rfl) rfl (SOps.skip rfl 8 49 false rfl rfl (.inl rfl) rfl (sq rfl rfl (q_pick_t rfl rfl rfl rfl) (sm rfl rfl (SOps.skip rfl 13 54 false rfl rfl (.inl rfl) rfl ?_)))))))))))))))
  refine SOps.skip rfl 13 54 false rfl rfl (.inl rfl) rfl (SOps.skip rfl 13 54 false rfl rfl (.inl rfl) rfl (sq rfl rfl (q_pick_t rfl rfl rfl rfl) (SOps.sub (st' := ⟨[(1, .c (.ptr 0 0)), (3, ci (((a0_p.Parents).length : Int))), (4, ci (((a0_p.Caps).length : Int))), (58, .c (.bool true))], [.box (bSProblem a0_p)]⟩) (sub_gen [0] rfl rfl (zall rfl rfl) ⟨bx rfl rfl rfl, trivial⟩) (SOps.nil (SCode.cond_t rfl rfl (SCode.seq (SCode.region (sa rfl rfl (SOps.nil (SCode.ret ?_))))))))))
  obtain rfl := Option.some.inj h
  exact ⟨⟨[(2, ci 2)], []⟩, _, sub_gen [] rfl rfl (zall rfl rfl) trivial, resA1 (v := .c (.int .i64 2)) rfl rfl, rfl⟩
 rcases cond_out h with ⟨g10, h⟩ | ⟨g10, h⟩
 ·refine SCode.region (sq rfl rfl (q_field_ptr rfl rfl fd26_2) (sq rfl rfl (q_load_ptr rfl rfl rfl rfl ty3) (sq rfl rfl (q_lss rfl rfl rfl) (sm rfl rfl (SOps.q rfl (.guard 3 44 false rfl rfl (gF g9)) rfl (q_field_ptr rfl rfl fd26_2) (SOps.q rfl (.guard 3 44 false rfl rfl (gF g9)) rfl (q_load_ptr rfl rfl rfl rfl ty3) (SOps.q rfl (.guard 3 44 false rfl rfl (gF g9)) rfl (q_gtr rfl rfl rfl) (sq rfl rfl (q_pick_f rfl rfl g9 rfl) (sm rfl rfl (SOps.skip rfl 8 49 false rfl rfl (.inl (gT g10)) rfl (SOps.skip rfl 8 49 false rfl rfl (.inl (gT g10)) rfl (SOps.skip rfl 8 49 false rfl rfl (.inl (gT g10)) rfl (sq rfl rfl (q_pick_t rfl rfl g10 rfl) (sm rfl rfl (SOps.skip rfl 13 54 false rfl rfl (.inl rfl) rfl ?_)))))))))))))))
  refine SOps.skip rfl 13 54 false rfl rfl (.inl rfl) rfl (SOps.skip rfl 13 54 false rfl rfl (.inl rfl) rfl (sq rfl rfl (q_pick_t rfl rfl rfl rfl) (SOps.sub (st' := ⟨[(1, .c (.ptr 0 0)), (3, ci (((a0_p.Parents).length : Int))), (4, ci (((a0_p.Caps).length : Int))), (58, .c (.bool true))], [.box (bSProblem a0_p)]⟩) (sub_gen [0] rfl rfl (zall rfl rfl) ⟨bx rfl rfl rfl, trivial⟩) (SOps.nil (SCode.cond_t rfl rfl (SCode.seq (SCode.region (sa rfl rfl (SOps.nil (SCode.ret ?_))))))))))
  obtain rfl := Option.some.inj h
  exact ⟨⟨[(2, ci 2)], []⟩, _, sub_gen [] rfl rfl (zall rfl rfl) trivial, resA1 (v := .c (.int .i64 2)) rfl rfl, rfl⟩
 rcases cond_out h with ⟨g11, h⟩ | ⟨g11, h⟩
 ·refine SCode.region (sq rfl rfl (q_field_ptr rfl rfl fd26_2) (sq rfl rfl (q_load_ptr rfl rfl rfl rfl ty3) (sq rfl rfl (q_lss rfl rfl rfl) (sm rfl rfl (SOps.q rfl (.guard 3 44 false rfl rfl (gF g9)) rfl (q_field_ptr rfl rfl fd26_2) (SOps.q rfl (.guard 3 44 false rfl rfl (gF g9)) rfl (q_load_ptr rfl rfl rfl rfl ty3) (SOps.q rfl (.guard 3 44 false rfl rfl (gF g9)) rfl (q_gtr rfl rfl rfl) (sq rfl rfl (q_pick_f rfl rfl g9 rfl) (sm rfl rfl (SOps.q rfl (.guard 8 49 false rfl rfl (gF g10)) rfl (q_field_ptr rfl rfl fd26_3) (SOps.q rfl (.guard 8 49 false rfl rfl (gF g10)) rfl (q_load_ptr rfl rfl rfl rfl ty3) (SOps.q rfl (.guard 8 49 false rfl rfl (gF g10)) rfl (q_lss rfl rfl rfl) (sq rfl rfl (q_pick_f rfl rfl g10 rfl) (sm rfl rfl (SOps.skip rfl 13 54 false rfl rfl (.inl (gT g11)) rfl ?_)))))))))))))))
  refine SOps.skip rfl 13 54 false rfl rfl (.inl (gT g11)) rfl (SOps.skip rfl 13 54 false rfl rfl (.inl (gT g11)) rfl (sq rfl rfl (q_pick_t rfl rfl g11 rfl) (SOps.sub (st' := ⟨[(1, .c (.ptr 0 0)), (3, ci (((a0_p.Parents).length : Int))), (4, ci (((a0_p.Caps).length : Int))), (58, .c (.bool true))], [.box (bSProblem a0_p)]⟩) (sub_gen [0] rfl rfl (zall rfl rfl) ⟨bx rfl rfl rfl, trivial⟩) (SOps.nil (SCode.cond_t rfl rfl (SCode.seq (SCode.region (sa rfl rfl (SOps.nil (SCode.ret ?_))))))))))
  obtain rfl := Option.some.inj h
  exact ⟨⟨[(2, ci 2)], []⟩, _, sub_gen [] rfl rfl (zall rfl rfl) trivial, resA1 (v := .c (.int .i64 2)) rfl rfl, rfl⟩
 refine SCode.region (sq rfl rfl (q_field_ptr rfl rfl fd26_2) (sq rfl rfl (q_load_ptr rfl rfl rfl rfl ty3) (sq rfl rfl (q_lss rfl rfl rfl) (sm rfl rfl (SOps.q rfl (.guard 3 44 false rfl rfl (gF g9)) rfl (q_field_ptr rfl rfl fd26_2) (SOps.q rfl (.guard 3 44 false rfl rfl (gF g9)) rfl (q_load_ptr rfl rfl rfl rfl ty3) (SOps.q rfl (.guard 3 44 false rfl rfl (gF g9)) rfl (q_gtr rfl rfl rfl) (sq rfl rfl (q_pick_f rfl rfl g9 rfl) (sm rfl rfl (SOps.q rfl (.guard 8 49 false rfl rfl (gF g10)) rfl (q_field_ptr rfl rfl fd26_3) (SOps.q rfl (.guard 8 49 false rfl rfl (gF g10)) rfl (q_load_ptr rfl rfl rfl rfl ty3) (SOps.q rfl (.guard 8 49 false rfl rfl (gF g10)) rfl (q_lss rfl rfl rfl) (sq rfl rfl (q_pick_f rfl rfl g10 rfl) (sm rfl rfl (SOps.q rfl (.guard 13 54 false rfl rfl (gF g11)) rfl (q_field_ptr rfl rfl fd26_3) ?_)))))))))))))))
 refine SOps.q rfl (.guard 13 54 false rfl rfl (gF g11)) rfl (q_load_ptr rfl rfl rfl rfl ty3) (SOps.q rfl (.guard 13 54 false rfl rfl (gF g11)) rfl (q_gtr rfl rfl rfl) (sq rfl rfl (q_pick_f rfl rfl g11 rfl) (SOps.sub (st' := ⟨[(1, .c (.ptr 0 0)), (3, ci (((a0_p.Parents).length : Int))), (4, ci (((a0_p.Caps).length : Int))), (58, .c (.bool (decide (1440 < a0_p.Length))))], [.box (bSProblem a0_p)]⟩) (sub_gen [0] rfl rfl (zall rfl rfl) ⟨bx rfl rfl rfl, trivial⟩) (SOps.nil ?_))))
 rcases cond_out h with ⟨g12, h⟩ | ⟨g12, h⟩
 ·refine SCode.cond_t rfl g12 (SCode.seq (SCode.region (sa rfl rfl (SOps.nil (SCode.ret ?_)))))
  obtain rfl := Option.some.inj h
  exact ⟨⟨[(2, ci 2)], []⟩, _, sub_gen [] rfl rfl (zall rfl rfl) trivial, resA1 (v := .c (.int .i64 2)) rfl rfl, rfl⟩
 refine SCode.cond_f rfl g12 (SCode.skip (SCode.seq (SCode.seq (SCode.region (sq rfl rfl (q_field_ptr rfl rfl fd26_2) (sq rfl rfl (q_load_ptr rfl rfl rfl rfl ty3) (sm rfl rfl (sq rfl rfl (q_field_ptr rfl rfl fd26_3) (sq rfl rfl (q_load_ptr rfl rfl rfl rfl ty3) (sq rfl rfl (q_mul rfl rfl rfl) (sq rfl rfl (q_add rfl rfl rfl) (sq rfl rfl (q_gtr rfl rfl rfl) (SOps.nil ?_)))))))))))))
 rcases cond_out h with ⟨g13, h⟩ | ⟨g13, h⟩
 ·refine SCode.cond_t rfl g13 (SCode.seq (SCode.region (sa rfl rfl (SOps.nil (SCode.ret ?_)))))
  obtain rfl := Option.some.inj h
  exact ⟨⟨[(2, ci 2)], []⟩, _, sub_gen [] rfl rfl (zall rfl rfl) trivial, resA1 (v := .c (.int .i64 2)) rfl rfl, rfl⟩
 refine SCode.cond_f rfl g13 (SCode.skip ?_)
 let S3 := (⟨[], []⟩ : St)
 refine SCode.join (σ := Unit) (S := fun s => S3) (g := fun s => plan_Valid_p14 = some r) ?_ ?_
 rotate_left
 ·refine SCode.seq (SCode.region (sq rfl rfl (q_field_ptr rfl rfl fd26_4) (sq rfl rfl (q_load_ptr rfl rfl rfl rfl ty24) (sq rfl rfl (q_len_vec rfl rfl sl24) (sm rfl rfl (SOps.nil (SCode.block ?_)))))))
  let S2 := fun (t70_26 : Int) => (⟨[(3, ci (((a0_p.Parents).length : Int))), (68, .c (vSDemand a0_p.Demands)), (69, ci (((a0_p.Demands).length : Int))), (70, ci t70_26)], []⟩ : St)
  refine SCode.sub (st' := (S2 0)) (sub_gen [] rfl rfl (zall rfl rfl) trivial) ?_
  refine (SCode.loop (σ := Nat × Int) (S := fun s => (S2 s.2)) (g := fun s => plan_Valid_l38 a0_p s.1 s.2 = some r) (μ := fun s => s.1) (F, 0) h ?_)
  rintro ⟨n_38, t70_26⟩ h
  try dsimp only at h
  show SCode _ _ _ (S2 t70_26) _
  cases n_38 with
  | zero => cases h
  | succ n_38 =>
   rw [plan_Valid_l38] at h
   unfold plan_Valid_b38 at h
   refine SCode.seq (SCode.region (sq rfl rfl (q_lss rfl rfl rfl) (SOps.nil (SCode.seq ?_))))
   rcases cond_out h with ⟨g39, h⟩ | ⟨g39, h⟩
   ·refine SCode.cond_t rfl g39 (SCode.skip (SCode.seq (SCode.block (SCode.seq ?_))))
    obtain ⟨g40, h⟩ := guard_out h
    refine SCode.region (sq rfl rfl (q_index_vec rfl rfl rfl sl24 rfl g40.1 g40.2) (sq rfl rfl (q_load_eptr_all rfl rfl rfl ty39) (se rfl rfl (e_alloc rfl rfl rfl z39) (se rfl rfl (e_store_box rfl rfl rfl rfl rfl ty39 rfl rfl rfl rfl) (SOps.nil (SCode.seq (SCode.seq ?_)))))))
    rcases cond_out h with ⟨g41, h⟩ | ⟨g41, h⟩
    ·refine SCode.region (sq rfl rfl (q_field_ptr rfl rfl fd39_0) (sq rfl rfl (q_load_ptr rfl rfl rfl rfl ty3) (sq rfl rfl (q_lss rfl rfl rfl) (sm rfl rfl (SOps.skip rfl 3 77 false rfl rfl (.inl (gT g41)) rfl (SOps.skip rfl 3 77 false rfl rfl (.inl (gT g41)) rfl (SOps.skip rfl 3 77 false rfl rfl (.inl (gT g41)) rfl (SOps.skip rfl 3 77 false rfl rfl (.inl (gT g41)) rfl (sq rfl rfl (q_pick_t rfl rfl g41 rfl) (SOps.nil (SCode.cond_t rfl rfl (SCode.seq (SCode.region (sa rfl rfl (SOps.nil ?_)))))))))))))))
     refine SCode.ret ?_
     obtain rfl := Option.some.inj h
     exact ⟨⟨[(2, ci 1)], []⟩, _, sub_gen [] rfl rfl (zall rfl rfl) trivial, resA1 (v := .c (.int .i64 1)) rfl rfl, rfl⟩
    refine SCode.region (sq rfl rfl (q_field_ptr rfl rfl fd39_0) (sq rfl rfl (q_load_ptr rfl rfl rfl rfl ty3) (sq rfl rfl (q_lss rfl rfl rfl) (sm rfl rfl (SOps.q rfl (.guard 3 77 false rfl rfl (gF g41)) rfl (q_field_ptr rfl rfl fd39_0) (SOps.q rfl (.guard 3 77 false rfl rfl (gF g41)) rfl (q_load_ptr rfl rfl rfl rfl ty3) (SOps.q rfl (.guard 3 77 false rfl rfl (gF g41)) rfl (q_move rfl rfl) (SOps.q rfl (.guard 3 77 false rfl rfl (gF g41)) rfl (q_geq rfl rfl rfl) (sq rfl rfl (q_pick_f rfl rfl g41 rfl) (SOps.nil ?_))))))))))
    rcases cond_out h with ⟨g42, h⟩ | ⟨g42, h⟩
    ·refine SCode.cond_t rfl g42 (SCode.seq (SCode.region (sa rfl rfl (SOps.nil (SCode.ret ?_)))))
     obtain rfl := Option.some.inj h
     exact ⟨⟨[(2, ci 1)], []⟩, _, sub_gen [] rfl rfl (zall rfl rfl) trivial, resA1 (v := .c (.int .i64 1)) rfl rfl, rfl⟩
    refine SCode.cond_f rfl g42 (SCode.skip (SCode.seq (SCode.seq ?_)))
    rcases cond_out h with ⟨g43, h⟩ | ⟨g43, h⟩
    ·refine SCode.region (sq rfl rfl (q_field_ptr rfl rfl fd39_1) (sq rfl rfl (q_load_ptr rfl rfl rfl rfl ty3) (sq rfl rfl (q_lss rfl rfl rfl) (sm rfl rfl (SOps.skip rfl 3 86 false rfl rfl (.inl (gT g43)) rfl (SOps.skip rfl 3 86 false rfl rfl (.inl (gT g43)) rfl (SOps.skip rfl 3 86 false rfl rfl (.inl (gT g43)) rfl (sq rfl rfl (q_pick_t rfl rfl g43 rfl) (sm rfl rfl (SOps.skip rfl 8 91 false rfl rfl (.inl rfl) rfl (SOps.skip rfl 8 91 false rfl rfl (.inl rfl) rfl (SOps.skip rfl 8 91 false rfl rfl (.inl rfl) rfl (sq rfl rfl (q_pick_t rfl rfl rfl rfl) (sm rfl rfl (SOps.skip rfl 13 96 false rfl rfl (.inl rfl) rfl ?_)))))))))))))))
     refine SOps.skip rfl 13 96 false rfl rfl (.inl rfl) rfl (SOps.skip rfl 13 96 false rfl rfl (.inl rfl) rfl (sq rfl rfl (q_pick_t rfl rfl rfl rfl) (SOps.sub (st' := ⟨[(3, ci (((a0_p.Parents).length : Int))), (6, .c (.ptr 0 0)), (68, .c (vSDemand a0_p.Demands)), (69, ci (((a0_p.Demands).length : Int))), (70, ci t70_26), (100, .c (.bool true))], [.box (bSDemand (a0_p.Demands.getD t70_26.toNat dSDemand))]⟩) (sub_gen [0] rfl rfl (zall rfl rfl) ⟨bx rfl rfl rfl, trivial⟩) (SOps.nil (SCode.cond_t rfl rfl (SCode.seq (SCode.region (sa rfl rfl (SOps.nil (SCode.ret ?_))))))))))
     obtain rfl := Option.some.inj h
     exact ⟨⟨[(2, ci 2)], []⟩, _, sub_gen [] rfl rfl (zall rfl rfl) trivial, resA1 (v := .c (.int .i64 2)) rfl rfl, rfl⟩
    rcases cond_out h with ⟨g44, h⟩ | ⟨g44, h⟩
    ·refine SCode.region (sq rfl rfl (q_field_ptr rfl rfl fd39_1) (sq rfl rfl (q_load_ptr rfl rfl rfl rfl ty3) (sq rfl rfl (q_lss rfl rfl rfl) (sm rfl rfl (SOps.q rfl (.guard 3 86 false rfl rfl (gF g43)) rfl (q_field_ptr rfl rfl fd39_1) (SOps.q rfl (.guard 3 86 false rfl rfl (gF g43)) rfl (q_load_ptr rfl rfl rfl rfl ty3) (SOps.q rfl (.guard 3 86 false rfl rfl (gF g43)) rfl (q_gtr rfl rfl rfl) (sq rfl rfl (q_pick_f rfl rfl g43 rfl) (sm rfl rfl (SOps.skip rfl 8 91 false rfl rfl (.inl (gT g44)) rfl (SOps.skip rfl 8 91 false rfl rfl (.inl (gT g44)) rfl (SOps.skip rfl 8 91 false rfl rfl (.inl (gT g44)) rfl (sq rfl rfl (q_pick_t rfl rfl g44 rfl) (sm rfl rfl (SOps.skip rfl 13 96 false rfl rfl (.inl rfl) rfl ?_)))))))))))))))
     refine SOps.skip rfl 13 96 false rfl rfl (.inl rfl) rfl (SOps.skip rfl 13 96 false rfl rfl (.inl rfl) rfl (sq rfl rfl (q_pick_t rfl rfl rfl rfl) (SOps.sub (st' := ⟨[(3, ci (((a0_p.Parents).length : Int))), (6, .c (.ptr 0 0)), (68, .c (vSDemand a0_p.Demands)), (69, ci (((a0_p.Demands).length : Int))), (70, ci t70_26), (100, .c (.bool true))], [.box (bSDemand (a0_p.Demands.getD t70_26.toNat dSDemand))]⟩) (sub_gen [0] rfl rfl (zall rfl rfl) ⟨bx rfl rfl rfl, trivial⟩) (SOps.nil (SCode.cond_t rfl rfl (SCode.seq (SCode.region (sa rfl rfl (SOps.nil (SCode.ret ?_))))))))))
     obtain rfl := Option.some.inj h
     exact ⟨⟨[(2, ci 2)], []⟩, _, sub_gen [] rfl rfl (zall rfl rfl) trivial, resA1 (v := .c (.int .i64 2)) rfl rfl, rfl⟩
    rcases cond_out h with ⟨g45, h⟩ | ⟨g45, h⟩
    ·refine SCode.region (sq rfl rfl (q_field_ptr rfl rfl fd39_1) (sq rfl rfl (q_load_ptr rfl rfl rfl rfl ty3) (sq rfl rfl (q_lss rfl rfl rfl) (sm rfl rfl (SOps.q rfl (.guard 3 86 false rfl rfl (gF g43)) rfl (q_field_ptr rfl rfl fd39_1) (SOps.q rfl (.guard 3 86 false rfl rfl (gF g43)) rfl (q_load_ptr rfl rfl rfl rfl ty3) (SOps.q rfl (.guard 3 86 false rfl rfl (gF g43)) rfl (q_gtr rfl rfl rfl) (sq rfl rfl (q_pick_f rfl rfl g43 rfl) (sm rfl rfl (SOps.q rfl (.guard 8 91 false rfl rfl (gF g44)) rfl (q_field_ptr rfl rfl fd39_2) (SOps.q rfl (.guard 8 91 false rfl rfl (gF g44)) rfl (q_load_ptr rfl rfl rfl rfl ty3) (SOps.q rfl (.guard 8 91 false rfl rfl (gF g44)) rfl (q_lss rfl rfl rfl) (sq rfl rfl (q_pick_f rfl rfl g44 rfl) (sm rfl rfl (SOps.skip rfl 13 96 false rfl rfl (.inl (gT g45)) rfl ?_)))))))))))))))
     refine SOps.skip rfl 13 96 false rfl rfl (.inl (gT g45)) rfl (SOps.skip rfl 13 96 false rfl rfl (.inl (gT g45)) rfl (sq rfl rfl (q_pick_t rfl rfl g45 rfl) (SOps.sub (st' := ⟨[(3, ci (((a0_p.Parents).length : Int))), (6, .c (.ptr 0 0)), (68, .c (vSDemand a0_p.Demands)), (69, ci (((a0_p.Demands).length : Int))), (70, ci t70_26), (100, .c (.bool true))], [.box (bSDemand (a0_p.Demands.getD t70_26.toNat dSDemand))]⟩) (sub_gen [0] rfl rfl (zall rfl rfl) ⟨bx rfl rfl rfl, trivial⟩) (SOps.nil (SCode.cond_t rfl rfl (SCode.seq (SCode.region (sa rfl rfl (SOps.nil (SCode.ret ?_))))))))))
     obtain rfl := Option.some.inj h
     exact ⟨⟨[(2, ci 2)], []⟩, _, sub_gen [] rfl rfl (zall rfl rfl) trivial, resA1 (v := .c (.int .i64 2)) rfl rfl, rfl⟩
    refine SCode.region (sq rfl rfl (q_field_ptr rfl rfl fd39_1) (sq rfl rfl (q_load_ptr rfl rfl rfl rfl ty3) (sq rfl rfl (q_lss rfl rfl rfl) (sm rfl rfl (SOps.q rfl (.guard 3 86 false rfl rfl (gF g43)) rfl (q_field_ptr rfl rfl fd39_1) (SOps.q rfl (.guard 3 86 false rfl rfl (gF g43)) rfl (q_load_ptr rfl rfl rfl rfl ty3) (SOps.q rfl (.guard 3 86 false rfl rfl (gF g43)) rfl (q_gtr rfl rfl rfl) (sq rfl rfl (q_pick_f rfl rfl g43 rfl) (sm rfl rfl (SOps.q rfl (.guard 8 91 false rfl rfl (gF g44)) rfl (q_field_ptr rfl rfl fd39_2) (SOps.q rfl (.guard 8 91 false rfl rfl (gF g44)) rfl (q_load_ptr rfl rfl rfl rfl ty3) (SOps.q rfl (.guard 8 91 false rfl rfl (gF g44)) rfl (q_lss rfl rfl rfl) (sq rfl rfl (q_pick_f rfl rfl g44 rfl) (sm rfl rfl (SOps.q rfl (.guard 13 96 false rfl rfl (gF g45)) rfl (q_field_ptr rfl rfl fd39_2) ?_)))))))))))))))
    refine SOps.q rfl (.guard 13 96 false rfl rfl (gF g45)) rfl (q_load_ptr rfl rfl rfl rfl ty3) (SOps.q rfl (.guard 13 96 false rfl rfl (gF g45)) rfl (q_gtr rfl rfl rfl) (sq rfl rfl (q_pick_f rfl rfl g45 rfl) (SOps.sub (st' := ⟨[(3, ci (((a0_p.Parents).length : Int))), (6, .c (.ptr 0 0)), (68, .c (vSDemand a0_p.Demands)), (69, ci (((a0_p.Demands).length : Int))), (70, ci t70_26), (100, .c (.bool (decide (1099511627776 < (a0_p.Demands.getD t70_26.toNat dSDemand).Energy))))], [.box (bSDemand (a0_p.Demands.getD t70_26.toNat dSDemand))]⟩) (sub_gen [0] rfl rfl (zall rfl rfl) ⟨bx rfl rfl rfl, trivial⟩) (SOps.nil ?_))))
    rcases cond_out h with ⟨g46, h⟩ | ⟨g46, h⟩
    ·refine SCode.cond_t rfl g46 (SCode.seq (SCode.region (sa rfl rfl (SOps.nil (SCode.ret ?_)))))
     obtain rfl := Option.some.inj h
     exact ⟨⟨[(2, ci 2)], []⟩, _, sub_gen [] rfl rfl (zall rfl rfl) trivial, resA1 (v := .c (.int .i64 2)) rfl rfl, rfl⟩
    refine SCode.cond_f rfl g46 (SCode.skip (SCode.seq ?_))
    rcases cond_out h with ⟨g47, h⟩ | ⟨g47, h⟩
    ·refine SCode.region (sq rfl rfl (q_field_ptr rfl rfl fd39_3) (sq rfl rfl (q_load_ptr rfl rfl rfl rfl ty3) (sq rfl rfl (q_lss rfl rfl rfl) (sm rfl rfl (SOps.skip rfl 3 104 false rfl rfl (.inl (gT g47)) rfl (SOps.skip rfl 3 104 false rfl rfl (.inl (gT g47)) rfl (SOps.skip rfl 3 104 false rfl rfl (.inl (gT g47)) rfl (SOps.skip rfl 3 104 false rfl rfl (.inl (gT g47)) rfl (SOps.skip rfl 3 104 false rfl rfl (.inl (gT g47)) rfl (sq rfl rfl (q_pick_t rfl rfl g47 rfl) (sm rfl rfl (SOps.skip rfl 10 111 false rfl rfl (.inl rfl) rfl (SOps.skip rfl 10 111 false rfl rfl (.inl rfl) rfl (SOps.skip rfl 10 111 false rfl rfl (.inl rfl) rfl (sq rfl rfl (q_pick_t rfl rfl rfl rfl) ?_)))))))))))))))
     refine SOps.nil (SCode.cond_t rfl rfl (SCode.seq (SCode.region (sa rfl rfl (SOps.nil (SCode.ret ?_))))))
     obtain rfl := Option.some.inj h
     exact ⟨⟨[(2, ci 2)], []⟩, _, sub_gen [] rfl rfl (zall rfl rfl) trivial, resA1 (v := .c (.int .i64 2)) rfl rfl, rfl⟩
    rcases cond_out h with ⟨g48, h⟩ | ⟨g48, h⟩
    ·refine SCode.region (sq rfl rfl (q_field_ptr rfl rfl fd39_3) (sq rfl rfl (q_load_ptr rfl rfl rfl rfl ty3) (sq rfl rfl (q_lss rfl rfl rfl) (sm rfl rfl (SOps.q rfl (.guard 3 104 false rfl rfl (gF g47)) rfl (q_field_ptr rfl rfl fd39_4) (SOps.q rfl (.guard 3 104 false rfl rfl (gF g47)) rfl (q_load_ptr rfl rfl rfl rfl ty3) (SOps.q rfl (.guard 3 104 false rfl rfl (gF g47)) rfl (q_field_ptr rfl rfl fd39_3) (SOps.q rfl (.guard 3 104 false rfl rfl (gF g47)) rfl (q_load_ptr rfl rfl rfl rfl ty3) (SOps.q rfl (.guard 3 104 false rfl rfl (gF g47)) rfl (q_lss rfl rfl rfl) (sq rfl rfl (q_pick_f rfl rfl g47 rfl) (sm rfl rfl (SOps.skip rfl 10 111 false rfl rfl (.inl (gT g48)) rfl (SOps.skip rfl 10 111 false rfl rfl (.inl (gT g48)) rfl (SOps.skip rfl 10 111 false rfl rfl (.inl (gT g48)) rfl (sq rfl rfl (q_pick_t rfl rfl g48 rfl) ?_)))))))))))))))
     refine SOps.nil (SCode.cond_t rfl rfl (SCode.seq (SCode.region (sa rfl rfl (SOps.nil (SCode.ret ?_))))))
     obtain rfl := Option.some.inj h
     exact ⟨⟨[(2, ci 2)], []⟩, _, sub_gen [] rfl rfl (zall rfl rfl) trivial, resA1 (v := .c (.int .i64 2)) rfl rfl, rfl⟩
    refine SCode.region (sq rfl rfl (q_field_ptr rfl rfl fd39_3) (sq rfl rfl (q_load_ptr rfl rfl rfl rfl ty3) (sq rfl rfl (q_lss rfl rfl rfl) (sm rfl rfl (SOps.q rfl (.guard 3 104 false rfl rfl (gF g47)) rfl (q_field_ptr rfl rfl fd39_4) (SOps.q rfl (.guard 3 104 false rfl rfl (gF g47)) rfl (q_load_ptr rfl rfl rfl rfl ty3) (SOps.q rfl (.guard 3 104 false rfl rfl (gF g47)) rfl (q_field_ptr rfl rfl fd39_3) (SOps.q rfl (.guard 3 104 false rfl rfl (gF g47)) rfl (q_load_ptr rfl rfl rfl rfl ty3) (SOps.q rfl (.guard 3 104 false rfl rfl (gF g47)) rfl (q_lss rfl rfl rfl) (sq rfl rfl (q_pick_f rfl rfl g47 rfl) (sm rfl rfl (SOps.q rfl (.guard 10 111 false rfl rfl (gF g48)) rfl (q_field_ptr rfl rfl fd39_4) (SOps.q rfl (.guard 10 111 false rfl rfl (gF g48)) rfl (q_load_ptr rfl rfl rfl rfl ty3) (SOps.q rfl (.guard 10 111 false rfl rfl (gF g48)) rfl (q_gtr rfl rfl rfl) (sq rfl rfl (q_pick_f rfl rfl g48 rfl) ?_)))))))))))))))
    refine SOps.nil ?_
    rcases cond_out h with ⟨g49, h⟩ | ⟨g49, h⟩
    ·refine SCode.cond_t rfl g49 (SCode.seq (SCode.region (sa rfl rfl (SOps.nil (SCode.ret ?_)))))
     obtain rfl := Option.some.inj h
     exact ⟨⟨[(2, ci 2)], []⟩, _, sub_gen [] rfl rfl (zall rfl rfl) trivial, resA1 (v := .c (.int .i64 2)) rfl rfl, rfl⟩
    refine SCode.cond_f rfl g49 (SCode.skip (SCode.region (sq rfl rfl (q_add rfl rfl rfl) (sm rfl rfl (SOps.nil ?_)))))
    exact ⟨(n_38, IntKind.wrap .i64 (t70_26 + 1)), h, Nat.lt_succ_self n_38, sub_gen [] rfl rfl (zall rfl rfl) trivial⟩
   refine SCode.cond_f rfl g39 (SCode.exit ?_)
   exact ⟨(), h, sub_gen [] rfl rfl trivial trivial⟩
 rintro ⟨⟩ h
 show SCode _ _ _ S3 _
 try dsimp only at h
 unfold plan_Valid_p14 at h
 refine SCode.seq (SCode.region (sa rfl rfl (SOps.nil (SCode.ret ?_))))
 obtain rfl := Option.some.inj h
 exact ⟨⟨[(2, ci 0)], []⟩, _, sub_gen [] rfl rfl (zall rfl rfl) trivial, resA1 (v := .c (.int .i64 0)) rfl rfl, rfl⟩
theorem plan_check_ok (F : Nat) (a0_p : SProblem) (a1_energy : List Int) (r : Int) (h : plan_check F a0_p a1_energy = some r) :
  SFun Try.prog 25 [] [.a (bSProblem a0_p), .c (vI a1_energy)] (fun x _ => x = ci r) := by
 refine SFun.of (n := 32) Try.func25 rfl rfl rfl ?_
 unfold plan_check at h
 show SCode _ _ _ ⟨[(0, .a (bSProblem a0_p)), (1, .c (vI a1_energy))], []⟩ _
 refine SCode.seq (SCode.region (se rfl rfl (e_box rfl rfl rfl rfl rfl rfl) (sa rfl rfl (SOps.nil (SCode.seq (SCode.seq ?_))))))
 obtain ⟨c_1, g2, h⟩ := bind_out h
 try dsimp only at h
 refine SCode.region (sq rfl rfl (q_load_ptr_all rfl rfl rfl rfl rfl ty26) (sq rfl rfl (q_call (plan_Valid_ok F a0_p c_1 g2) [] rfl fn11 ⟨⟨rfl, rfl⟩, trivial⟩ (.inl rfl)) (sa rfl rfl (SOps.nil (SCode.seq (SCode.region (sm rfl rfl (sq rfl rfl (q_neq rfl rfl rfl) (SOps.nil ?_)))))))))
 rcases cond_out h with ⟨g3, h⟩ | ⟨g3, h⟩
 ·refine SCode.cond_t rfl g3 (SCode.seq (SCode.region (sm rfl rfl (sa rfl rfl (SOps.nil (SCode.ret ?_))))))
  obtain rfl := Option.some.inj h
  exact ⟨⟨[(4, ci c_1)], []⟩, _, sub_gen [] rfl rfl (zall rfl rfl) trivial, resA1 (v := .c (.int .i64 c_1)) rfl rfl, rfl⟩
 refine SCode.cond_f rfl g3 (SCode.skip (SCode.seq (SCode.seq (SCode.region (sm rfl rfl (sq rfl rfl (q_len_vec rfl rfl sl22) (sq rfl rfl (q_field_ptr rfl rfl fd26_4) (sq rfl rfl (q_load_ptr rfl rfl rfl rfl ty24) (sq rfl rfl (q_len_vec rfl rfl sl24) (sq rfl rfl (q_neq rfl rfl rfl) (SOps.nil ?_)))))))))))
 rcases cond_out h with ⟨g4, h⟩ | ⟨g4, h⟩
 ·refine SCode.cond_t rfl g4 (SCode.seq (SCode.region (sa rfl rfl (SOps.nil (SCode.ret ?_)))))
  obtain rfl := Option.some.inj h
  exact ⟨⟨[(4, ci 1)], []⟩, _, sub_gen [] rfl rfl (zall rfl rfl) trivial, resA1 (v := .c (.int .i64 1)) rfl rfl, rfl⟩
 refine SCode.cond_f rfl g4 (SCode.skip ?_)
 let S3 := (⟨[], []⟩ : St)
 refine SCode.join (σ := Unit) (S := fun s => S3) (g := fun s => plan_check_p5 = some r) ?_ ?_
 rotate_left
 ·refine SCode.seq (SCode.region (sm rfl rfl (sq rfl rfl (q_len_vec rfl rfl sl22) (sm rfl rfl (SOps.nil (SCode.block ?_))))))
  let S2 := fun (t21_10 : Int) => (⟨[(19, .c (vI a1_energy)), (20, ci (((a1_energy).length : Int))), (21, ci t21_10)], []⟩ : St)
  refine SCode.sub (st' := (S2 0)) (sub_gen [] rfl rfl (zall rfl rfl) trivial) ?_
  refine (SCode.loop (σ := Nat × Int) (S := fun s => (S2 s.2)) (g := fun s => plan_check_l15 a1_energy s.1 s.2 = some r) (μ := fun s => s.1) (F, 0) h ?_)
  rintro ⟨n_15, t21_10⟩ h
  try dsimp only at h
  show SCode _ _ _ (S2 t21_10) _
  cases n_15 with
  | zero => cases h
  | succ n_15 =>
   rw [plan_check_l15] at h
   unfold plan_check_b15 at h
   refine SCode.seq (SCode.region (sq rfl rfl (q_lss rfl rfl rfl) (SOps.nil (SCode.seq ?_))))
   rcases cond_out h with ⟨g16, h⟩ | ⟨g16, h⟩
   ·refine SCode.cond_t rfl g16 (SCode.skip (SCode.seq (SCode.block (SCode.seq ?_))))
    obtain ⟨g17, h⟩ := guard_out h
    refine SCode.region (sq rfl rfl (q_index_vec rfl rfl rfl sl22 rfl g17.1 g17.2) (sq rfl rfl (q_load_eptr rfl rfl ty3) (sa rfl rfl (SOps.nil (SCode.seq ?_)))))
    rcases cond_out h with ⟨g18, h⟩ | ⟨g18, h⟩
    ·refine SCode.region (sm rfl rfl (sq rfl rfl (q_lss rfl rfl rfl) (sm rfl rfl (SOps.skip rfl 2 27 false rfl rfl (.inl (gT g18)) rfl (SOps.skip rfl 2 27 false rfl rfl (.inl (gT g18)) rfl (sq rfl rfl (q_pick_t rfl rfl g18 rfl) (SOps.nil (SCode.cond_t rfl rfl (SCode.seq (SCode.region (sa rfl rfl (SOps.nil (SCode.ret ?_)))))))))))))
     obtain rfl := Option.some.inj h
     exact ⟨⟨[(4, ci 1)], []⟩, _, sub_gen [] rfl rfl (zall rfl rfl) trivial, resA1 (v := .c (.int .i64 1)) rfl rfl, rfl⟩
    refine SCode.region (sm rfl rfl (sq rfl rfl (q_lss rfl rfl rfl) (sm rfl rfl (SOps.q rfl (.guard 2 27 false rfl rfl (gF g18)) rfl (q_move rfl rfl) (SOps.q rfl (.guard 2 27 false rfl rfl (gF g18)) rfl (q_gtr rfl rfl rfl) (sq rfl rfl (q_pick_f rfl rfl g18 rfl) (SOps.nil ?_)))))))
    rcases cond_out h with ⟨g19, h⟩ | ⟨g19, h⟩
    ·refine SCode.cond_t rfl g19 (SCode.seq (SCode.region (sa rfl rfl (SOps.nil (SCode.ret ?_)))))
     obtain rfl := Option.some.inj h
     exact ⟨⟨[(4, ci 1)], []⟩, _, sub_gen [] rfl rfl (zall rfl rfl) trivial, resA1 (v := .c (.int .i64 1)) rfl rfl, rfl⟩
    refine SCode.cond_f rfl g19 (SCode.skip (SCode.region (sq rfl rfl (q_add rfl rfl rfl) (sm rfl rfl (SOps.nil ?_)))))
    exact ⟨(n_15, IntKind.wrap .i64 (t21_10 + 1)), h, Nat.lt_succ_self n_15, sub_gen [] rfl rfl (zall rfl rfl) trivial⟩
   refine SCode.cond_f rfl g16 (SCode.exit ?_)
   exact ⟨(), h, sub_gen [] rfl rfl trivial trivial⟩
 rintro ⟨⟩ h
 show SCode _ _ _ S3 _
 try dsimp only at h
 unfold plan_check_p5 at h
 refine SCode.seq (SCode.region (sa rfl rfl (SOps.nil (SCode.ret ?_))))
 obtain rfl := Option.some.inj h
 exact ⟨⟨[(4, ci 0)], []⟩, _, sub_gen [] rfl rfl (zall rfl rfl) trivial, resA1 (v := .c (.int .i64 0)) rfl rfl, rfl⟩
theorem flow_isNode_ok (F : Nat) (a0_n : SNet) (a1_i : Int) (r : Bool) (h : flow_isNode F a0_n a1_i = some r) :
  SFun Try.prog 58 [] [.a (bSNet a0_n), ci a1_i] (fun x _ => x = .c (.bool r)) := by
 refine SFun.of (n := 13) Try.func58 rfl rfl rfl ?_
 unfold flow_isNode at h
 show SCode _ _ _ ⟨[(0, .a (bSNet a0_n)), (1, ci a1_i)], []⟩ _
 refine SCode.seq (SCode.region (se rfl rfl (e_box rfl rfl rfl rfl rfl rfl) (sa rfl rfl (SOps.nil (SCode.seq ?_)))))
 rcases cond_out h with ⟨g1, h⟩ | ⟨g1, h⟩
 ·refine SCode.region (sm rfl rfl (sq rfl rfl (q_geq rfl rfl rfl) (sm rfl rfl (SOps.q rfl (.guard 2 7 true rfl rfl (gT g1)) rfl (q_move rfl rfl) (SOps.q rfl (.guard 2 7 true rfl rfl (gT g1)) rfl (q_field_ptr rfl rfl fd49_0) (SOps.q rfl (.guard 2 7 true rfl rfl (gT g1)) rfl (q_load_ptr rfl rfl rfl rfl ty3) (SOps.q rfl (.guard 2 7 true rfl rfl (gT g1)) rfl (q_lss rfl rfl rfl) (sq rfl rfl (q_pick_t rfl rfl g1 rfl) (sa rfl rfl (SOps.nil (SCode.ret ?_)))))))))))
  obtain rfl := Option.some.inj h
  exact ⟨⟨[(4, .c (.bool (decide (a1_i < a0_n.Nodes))))], []⟩, _, sub_gen [] rfl rfl (zall rfl rfl) trivial, resA1 (v := .c (.bool (decide (a1_i < a0_n.Nodes)))) rfl rfl, rfl⟩
 refine SCode.region (sm rfl rfl (sq rfl rfl (q_geq rfl rfl rfl) (sm rfl rfl (SOps.skip rfl 2 7 true rfl rfl (.inl (gF g1)) rfl (SOps.skip rfl 2 7 true rfl rfl (.inl (gF g1)) rfl (SOps.skip rfl 2 7 true rfl rfl (.inl (gF g1)) rfl (SOps.skip rfl 2 7 true rfl rfl (.inl (gF g1)) rfl (sq rfl rfl (q_pick_f rfl rfl g1 rfl) (sa rfl rfl (SOps.nil (SCode.ret ?_)))))))))))
 obtain rfl := Option.some.inj h
 exact ⟨⟨[(4, .c (.bool false))], []⟩, _, sub_gen [] rfl rfl (zall rfl rfl) trivial, resA1 (v := .c (.bool false)) rfl rfl, rfl⟩
theorem flow_Valid_ok (F : Nat) (a0_n : SNet) (r : Int) (h : flow_Valid F a0_n = some r) :
  SFun Try.prog 57 [] [.a (bSNet a0_n)] (fun x _ => x = ci r) := by
 refine SFun.of (n := 50) Try.func57 rfl rfl rfl ?_
 unfold flow_Valid at h
 show SCode _ _ _ ⟨[(0, .a (bSNet a0_n))], []⟩ _
 refine SCode.seq (SCode.region (se rfl rfl (e_box rfl rfl rfl rfl rfl rfl) (sa rfl rfl (SOps.nil (SCode.seq (SCode.seq (SCode.region (sq rfl rfl (q_field_ptr rfl rfl fd49_0) (sq rfl rfl (q_load_ptr rfl rfl rfl rfl ty3) (sq rfl rfl (q_lss rfl rfl rfl) (SOps.nil ?_)))))))))))
 rcases cond_out h with ⟨g1, h⟩ | ⟨g1, h⟩
 ·refine SCode.cond_t rfl g1 (SCode.seq (SCode.region (sa rfl rfl (SOps.nil (SCode.ret ?_)))))
  obtain rfl := Option.some.inj h
  exact ⟨⟨[(2, ci 2)], []⟩, _, sub_gen [] rfl rfl (zall rfl rfl) trivial, resA1 (v := .c (.int .i64 2)) rfl rfl, rfl⟩
 refine SCode.cond_f rfl g1 (SCode.skip (SCode.seq (SCode.seq ?_)))
 rcases cond_out h with ⟨g2, h⟩ | ⟨g2, h⟩
 ·refine SCode.region (sq rfl rfl (q_field_ptr rfl rfl fd49_0) (sq rfl rfl (q_load_ptr rfl rfl rfl rfl ty3) (sq rfl rfl (q_gtr rfl rfl rfl) (sm rfl rfl (SOps.skip rfl 3 11 false rfl rfl (.inl (gT g2)) rfl (SOps.skip rfl 3 11 false rfl rfl (.inl (gT g2)) rfl (SOps.skip rfl 3 11 false rfl rfl (.inl (gT g2)) rfl (SOps.skip rfl 3 11 false rfl rfl (.inl (gT g2)) rfl (sq rfl rfl (q_pick_t rfl rfl g2 rfl) (SOps.nil (SCode.cond_t rfl rfl (SCode.seq (SCode.region (sa rfl rfl (SOps.nil ?_)))))))))))))))
  refine SCode.ret ?_
  obtain rfl := Option.some.inj h
  exact ⟨⟨[(2, ci 3)], []⟩, _, sub_gen [] rfl rfl (zall rfl rfl) trivial, resA1 (v := .c (.int .i64 3)) rfl rfl, rfl⟩
 refine SCode.region (sq rfl rfl (q_field_ptr rfl rfl fd49_0) (sq rfl rfl (q_load_ptr rfl rfl rfl rfl ty3) (sq rfl rfl (q_gtr rfl rfl rfl) (sm rfl rfl (SOps.q rfl (.guard 3 11 false rfl rfl (gF g2)) rfl (q_field_ptr rfl rfl fd49_1) (SOps.q rfl (.guard 3 11 false rfl rfl (gF g2)) rfl (q_load_ptr rfl rfl rfl rfl ty47) (SOps.q rfl (.guard 3 11 false rfl rfl (gF g2)) rfl (q_len_vec rfl rfl sl47) (SOps.q rfl (.guard 3 11 false rfl rfl (gF g2)) rfl (q_gtr rfl rfl rfl) (sq rfl rfl (q_pick_f rfl rfl g2 rfl) (SOps.nil ?_))))))))))
 rcases cond_out h with ⟨g3, h⟩ | ⟨g3, h⟩
 ·refine SCode.cond_t rfl g3 (SCode.seq (SCode.region (sa rfl rfl (SOps.nil (SCode.ret ?_)))))
  obtain rfl := Option.some.inj h
  exact ⟨⟨[(2, ci 3)], []⟩, _, sub_gen [] rfl rfl (zall rfl rfl) trivial, resA1 (v := .c (.int .i64 3)) rfl rfl, rfl⟩
 refine SCode.cond_f rfl g3 (SCode.skip ?_)
 let S3 := (⟨[], []⟩ : St)
 refine SCode.join (σ := Unit) (S := fun s => S3) (g := fun s => flow_Valid_p4 = some r) ?_ ?_
 rotate_left
 ·refine SCode.seq (SCode.region (sq rfl rfl (q_field_ptr rfl rfl fd49_1) (sq rfl rfl (q_load_ptr rfl rfl rfl rfl ty47) (sq rfl rfl (q_len_vec rfl rfl sl47) (sm rfl rfl (SOps.sub (st' := ⟨[(1, .c (.ptr 0 0)), (18, .c (vSArc a0_n.Arcs)), (19, ci (((a0_n.Arcs).length : Int))), (20, ci 0)], [.box (bSNet a0_n)]⟩) (sub_gen [0] rfl rfl (zall rfl rfl) ⟨bx rfl rfl rfl, trivial⟩) (SOps.nil (SCode.block ?_))))))))
  let S2 := fun (t20_16 : Int) => (⟨[(1, .c (.ptr 0 0)), (18, .c (vSArc a0_n.Arcs)), (19, ci (((a0_n.Arcs).length : Int))), (20, ci t20_16)], [.box (bSNet a0_n)]⟩ : St)
  refine SCode.sub (st' := (S2 0)) (sub_gen [0] rfl rfl (zall rfl rfl) ⟨bx rfl rfl rfl, trivial⟩) ?_
  refine (SCode.loop (σ := Nat × Int) (S := fun s => (S2 s.2)) (g := fun s => flow_Valid_l28 F a0_n s.1 s.2 = some r) (μ := fun s => s.1) (F, 0) h ?_)
  rintro ⟨n_28, t20_16⟩ h
  try dsimp only at h
  show SCode _ _ _ (S2 t20_16) _
  cases n_28 with
  | zero => cases h
  | succ n_28 =>
   rw [flow_Valid_l28] at h
   unfold flow_Valid_b28 at h
   refine SCode.seq (SCode.region (sq rfl rfl (q_lss rfl rfl rfl) (SOps.nil (SCode.seq ?_))))
   rcases cond_out h with ⟨g29, h⟩ | ⟨g29, h⟩
   ·refine SCode.cond_t rfl g29 (SCode.skip (SCode.seq (SCode.block (SCode.seq ?_))))
    obtain ⟨g30, h⟩ := guard_out h
    refine SCode.region (sq rfl rfl (q_index_vec rfl rfl rfl sl47 rfl g30.1 g30.2) (sq rfl rfl (q_load_eptr_all rfl rfl rfl ty63) (se rfl rfl (e_alloc rfl rfl rfl z63) (se rfl rfl (e_store_box rfl rfl rfl rfl rfl ty63 rfl rfl rfl rfl) (SOps.nil (SCode.seq (SCode.seq ?_)))))))
    obtain ⟨c_31, g32, h⟩ := bind_out h
    try dsimp only at h
    rcases cond_out h with ⟨g33, h⟩ | ⟨g33, h⟩
    ·refine SCode.region (sq rfl rfl (q_load_ptr_all rfl rfl rfl rfl rfl ty49) (sq rfl rfl (q_field_ptr rfl rfl fd63_0) (sq rfl rfl (q_load_ptr rfl rfl rfl rfl ty3) (sq rfl rfl (q_call (flow_isNode_ok F a0_n ((a0_n.Arcs.getD t20_16.toNat dSArc).From) c_31 g32) [] rfl fn58 ⟨⟨rfl, rfl⟩, ⟨_, rfl, .inl ⟨rfl, rfl⟩⟩, trivial⟩ (.inl rfl)) (sq rfl rfl (q_not rfl rfl) (sm rfl rfl (SOps.skip rfl 5 29 false rfl rfl (.inl (gT g33)) rfl (SOps.skip rfl 5 29 false rfl rfl (.inl (gT g33)) rfl (SOps.skip rfl 5 29 false rfl rfl (.inl (gT g33)) rfl (SOps.skip rfl 5 29 false rfl rfl (.inl (gT g33)) rfl (SOps.skip rfl 5 29 false rfl rfl (.inl (gT g33)) rfl (sq rfl rfl (q_pick_t rfl rfl g33 rfl) (SOps.nil (SCode.cond_t rfl rfl (SCode.seq ?_)))))))))))))))
     refine SCode.region (sa rfl rfl (SOps.sub (st' := ⟨[(2, ci 2)], []⟩) (sub_gen [] rfl rfl (zall rfl rfl) trivial) (SOps.nil (SCode.ret ?_))))
     obtain rfl := Option.some.inj h
     exact ⟨⟨[(2, ci 2)], []⟩, _, sub_gen [] rfl rfl (zall rfl rfl) trivial, resA1 (v := .c (.int .i64 2)) rfl rfl, rfl⟩
    obtain ⟨c_34, g35, h⟩ := bind_out h
    try dsimp only at h
    refine SCode.region (sq rfl rfl (q_load_ptr_all rfl rfl rfl rfl rfl ty49) (sq rfl rfl (q_field_ptr rfl rfl fd63_0) (sq rfl rfl (q_load_ptr rfl rfl rfl rfl ty3) (sq rfl rfl (q_call (flow_isNode_ok F a0_n ((a0_n.Arcs.getD t20_16.toNat dSArc).From) c_31 g32) [] rfl fn58 ⟨⟨rfl, rfl⟩, ⟨_, rfl, .inl ⟨rfl, rfl⟩⟩, trivial⟩ (.inl rfl)) (sq rfl rfl (q_not rfl rfl) (sm rfl rfl (SOps.q rfl (.guard 5 29 false rfl rfl (gF g33)) rfl (q_load_ptr_all rfl rfl rfl rfl rfl ty49) (SOps.q rfl (.guard 5 29 false rfl rfl (gF g33)) rfl (q_field_ptr rfl rfl fd63_1) (SOps.q rfl (.guard 5 29 false rfl rfl (gF g33)) rfl (q_load_ptr rfl rfl rfl rfl ty3) (SOps.q rfl (.guard 5 29 false rfl rfl (gF g33)) rfl (q_call (flow_isNode_ok F a0_n ((a0_n.Arcs.getD t20_16.toNat dSArc).To) c_34 g35) [] rfl fn58 ⟨⟨rfl, rfl⟩, ⟨_, rfl, .inl ⟨rfl, rfl⟩⟩, trivial⟩ (.inl rfl)) (SOps.q rfl (.guard 5 29 false rfl rfl (gF g33)) rfl (q_not rfl rfl) (sq rfl rfl (q_pick_f rfl rfl g33 rfl) (SOps.nil ?_)))))))))))))
    rcases cond_out h with ⟨g36, h⟩ | ⟨g36, h⟩
    ·refine SCode.cond_t rfl g36 (SCode.seq (SCode.region (sa rfl rfl (SOps.sub (st' := ⟨[(2, ci 2)], []⟩) (sub_gen [] rfl rfl (zall rfl rfl) trivial) (SOps.nil (SCode.ret ?_))))))
     obtain rfl := Option.some.inj h
     exact ⟨⟨[(2, ci 2)], []⟩, _, sub_gen [] rfl rfl (zall rfl rfl) trivial, resA1 (v := .c (.int .i64 2)) rfl rfl, rfl⟩
    refine SCode.cond_f rfl g36 (SCode.skip (SCode.seq (SCode.seq (SCode.region (sq rfl rfl (q_field_ptr rfl rfl fd63_0) (sq rfl rfl (q_load_ptr rfl rfl rfl rfl ty3) (sq rfl rfl (q_field_ptr rfl rfl fd63_1) (sq rfl rfl (q_load_ptr rfl rfl rfl rfl ty3) (sq rfl rfl (q_eql rfl rfl rfl) (SOps.sub (st' := ⟨[(1, .c (.ptr 0 0)), (4, .c (.ptr 1 0)), (18, .c (vSArc a0_n.Arcs)), (19, ci (((a0_n.Arcs).length : Int))), (20, ci t20_16), (40, .c (.bool (decide ((a0_n.Arcs.getD t20_16.toNat dSArc).From = (a0_n.Arcs.getD t20_16.toNat dSArc).To))))], [.box (bSNet a0_n), .box (bSArc (a0_n.Arcs.getD t20_16.toNat dSArc))]⟩) (sub_gen [0, 1] rfl rfl (zall rfl rfl) ⟨bx rfl rfl rfl, bx rfl rfl rfl, trivial⟩) (SOps.nil ?_)))))))))))
    rcases cond_out h with ⟨g37, h⟩ | ⟨g37, h⟩
    ·refine SCode.cond_t rfl g37 (SCode.seq (SCode.region (sa rfl rfl (SOps.nil (SCode.ret ?_)))))
     obtain rfl := Option.some.inj h
     exact ⟨⟨[(2, ci 1)], []⟩, _, sub_gen [] rfl rfl (zall rfl rfl) trivial, resA1 (v := .c (.int .i64 1)) rfl rfl, rfl⟩
    refine SCode.cond_f rfl g37 (SCode.skip (SCode.seq ?_))
    rcases cond_out h with ⟨g38, h⟩ | ⟨g38, h⟩
    ·refine SCode.region (sq rfl rfl (q_field_ptr rfl rfl fd63_2) (sq rfl rfl (q_load_ptr rfl rfl rfl rfl ty3) (sq rfl rfl (q_lss rfl rfl rfl) (sm rfl rfl (SOps.skip rfl 3 44 false rfl rfl (.inl (gT g38)) rfl (SOps.skip rfl 3 44 false rfl rfl (.inl (gT g38)) rfl (SOps.skip rfl 3 44 false rfl rfl (.inl (gT g38)) rfl (sq rfl rfl (q_pick_t rfl rfl g38 rfl) (SOps.nil (SCode.cond_t rfl rfl (SCode.seq (SCode.region (sa rfl rfl (SOps.nil (SCode.ret ?_)))))))))))))))
     obtain rfl := Option.some.inj h
     exact ⟨⟨[(2, ci 2)], []⟩, _, sub_gen [] rfl rfl (zall rfl rfl) trivial, resA1 (v := .c (.int .i64 2)) rfl rfl, rfl⟩
    refine SCode.region (sq rfl rfl (q_field_ptr rfl rfl fd63_2) (sq rfl rfl (q_load_ptr rfl rfl rfl rfl ty3) (sq rfl rfl (q_lss rfl rfl rfl) (sm rfl rfl (SOps.q rfl (.guard 3 44 false rfl rfl (gF g38)) rfl (q_field_ptr rfl rfl fd63_2) (SOps.q rfl (.guard 3 44 false rfl rfl (gF g38)) rfl (q_load_ptr rfl rfl rfl rfl ty3) (SOps.q rfl (.guard 3 44 false rfl rfl (gF g38)) rfl (q_gtr rfl rfl rfl) (sq rfl rfl (q_pick_f rfl rfl g38 rfl) (SOps.nil ?_)))))))))
    rcases cond_out h with ⟨g39, h⟩ | ⟨g39, h⟩
    ·refine SCode.cond_t rfl g39 (SCode.seq (SCode.region (sa rfl rfl (SOps.nil (SCode.ret ?_)))))
     obtain rfl := Option.some.inj h
     exact ⟨⟨[(2, ci 2)], []⟩, _, sub_gen [] rfl rfl (zall rfl rfl) trivial, resA1 (v := .c (.int .i64 2)) rfl rfl, rfl⟩
    refine SCode.cond_f rfl g39 (SCode.skip (SCode.region (sq rfl rfl (q_add rfl rfl rfl) (sm rfl rfl (SOps.nil ?_)))))
    exact ⟨(n_28, IntKind.wrap .i64 (t20_16 + 1)), h, Nat.lt_succ_self n_28, sub_gen [0] rfl rfl (zall rfl rfl) ⟨bx rfl rfl rfl, trivial⟩⟩
   refine SCode.cond_f rfl g29 (SCode.exit ?_)
   exact ⟨(), h, sub_gen [] rfl rfl trivial trivial⟩
 rintro ⟨⟩ h
 show SCode _ _ _ S3 _
 try dsimp only at h
 unfold flow_Valid_p4 at h
 refine SCode.seq (SCode.region (sa rfl rfl (SOps.nil (SCode.ret ?_))))
 obtain rfl := Option.some.inj h
 exact ⟨⟨[(2, ci 0)], []⟩, _, sub_gen [] rfl rfl (zall rfl rfl) trivial, resA1 (v := .c (.int .i64 0)) rfl rfl, rfl⟩
theorem flow_valid_ok (F : Nat) (a0_n : SNet) (a1_source : Int) (a2_sink : Int) (r : Int) (h : flow_valid F a0_n a1_source a2_sink = some r) :
  SFun Try.prog 47 [] [.a (bSNet a0_n), ci a1_source, ci a2_sink] (fun x _ => x = ci r) := by
 refine SFun.of (n := 28) Try.func47 rfl rfl rfl ?_
 unfold flow_valid at h
 show SCode _ _ _ ⟨[(0, .a (bSNet a0_n)), (1, ci a1_source), (2, ci a2_sink)], []⟩ _
 refine SCode.seq (SCode.region (se rfl rfl (e_box rfl rfl rfl rfl rfl rfl) (sa rfl rfl (SOps.nil (SCode.seq (SCode.seq ?_))))))
 obtain ⟨c_1, g2, h⟩ := bind_out h
 try dsimp only at h
 refine SCode.region (sq rfl rfl (q_load_ptr_all rfl rfl rfl rfl rfl ty49) (sq rfl rfl (q_call (flow_Valid_ok F a0_n c_1 g2) [] rfl fn57 ⟨⟨rfl, rfl⟩, trivial⟩ (.inl rfl)) (sa rfl rfl (SOps.nil (SCode.seq (SCode.region (sm rfl rfl (sq rfl rfl (q_neq rfl rfl rfl) (SOps.nil ?_)))))))))
 rcases cond_out h with ⟨g3, h⟩ | ⟨g3, h⟩
 ·refine SCode.cond_t rfl g3 (SCode.seq (SCode.region (sm rfl rfl (sa rfl rfl (SOps.nil (SCode.ret ?_))))))
  obtain rfl := Option.some.inj h
  exact ⟨⟨[(6, ci c_1)], []⟩, _, sub_gen [] rfl rfl (zall rfl rfl) trivial, resA1 (v := .c (.int .i64 c_1)) rfl rfl, rfl⟩
 refine SCode.cond_f rfl g3 (SCode.skip (SCode.seq (SCode.seq ?_)))
 obtain ⟨c_4, g5, h⟩ := bind_out h
 try dsimp only at h
 rcases cond_out h with ⟨g6, h⟩ | ⟨g6, h⟩
 ·refine SCode.region (sq rfl rfl (q_load_ptr_all rfl rfl rfl rfl rfl ty49) (sm rfl rfl (sq rfl rfl (q_call (flow_isNode_ok F a0_n a1_source c_4 g5) [] rfl fn58 ⟨⟨rfl, rfl⟩, ⟨_, rfl, .inl ⟨rfl, rfl⟩⟩, trivial⟩ (.inl rfl)) (sq rfl rfl (q_not rfl rfl) (sm rfl rfl (SOps.skip rfl 4 17 false rfl rfl (.inl (gT g6)) rfl (SOps.skip rfl 4 17 false rfl rfl (.inl (gT g6)) rfl (SOps.skip rfl 4 17 false rfl rfl (.inl (gT g6)) rfl (SOps.skip rfl 4 17 false rfl rfl (.inl (gT g6)) rfl (sq rfl rfl (q_pick_t rfl rfl g6 rfl) (sm rfl rfl (SOps.skip rfl 10 23 false rfl rfl (.inl rfl) rfl (SOps.skip rfl 10 23 false rfl rfl (.inl rfl) rfl (SOps.skip rfl 10 23 false rfl rfl (.inl rfl) rfl (sq rfl rfl (q_pick_t rfl rfl rfl rfl) ?_)))))))))))))))
  refine SOps.sub (st' := ⟨[(27, .c (.bool true))], []⟩) (sub_gen [] rfl rfl (zall rfl rfl) trivial) (SOps.nil (SCode.cond_t rfl rfl (SCode.seq (SCode.region (sa rfl rfl (SOps.nil (SCode.ret ?_)))))))
  obtain rfl := Option.some.inj h
  exact ⟨⟨[(6, ci 2)], []⟩, _, sub_gen [] rfl rfl (zall rfl rfl) trivial, resA1 (v := .c (.int .i64 2)) rfl rfl, rfl⟩
 obtain ⟨c_7, g8, h⟩ := bind_out h
 try dsimp only at h
 rcases cond_out h with ⟨g9, h⟩ | ⟨g9, h⟩
 ·refine SCode.region (sq rfl rfl (q_load_ptr_all rfl rfl rfl rfl rfl ty49) (sm rfl rfl (sq rfl rfl (q_call (flow_isNode_ok F a0_n a1_source c_4 g5) [] rfl fn58 ⟨⟨rfl, rfl⟩, ⟨_, rfl, .inl ⟨rfl, rfl⟩⟩, trivial⟩ (.inl rfl)) (sq rfl rfl (q_not rfl rfl) (sm rfl rfl (SOps.q rfl (.guard 4 17 false rfl rfl (gF g6)) rfl (q_load_ptr_all rfl rfl rfl rfl rfl ty49) (SOps.q rfl (.guard 4 17 false rfl rfl (gF g6)) rfl (q_move rfl rfl) (SOps.q rfl (.guard 4 17 false rfl rfl (gF g6)) rfl (q_call (flow_isNode_ok F a0_n a2_sink c_7 g8) [] rfl fn58 ⟨⟨rfl, rfl⟩, ⟨_, rfl, .inl ⟨rfl, rfl⟩⟩, trivial⟩ (.inl rfl)) (SOps.q rfl (.guard 4 17 false rfl rfl (gF g6)) rfl (q_not rfl rfl) (sq rfl rfl (q_pick_f rfl rfl g6 rfl) (sm rfl rfl (SOps.skip rfl 10 23 false rfl rfl (.inl (gT g9)) rfl (SOps.skip rfl 10 23 false rfl rfl (.inl (gT g9)) rfl (SOps.skip rfl 10 23 false rfl rfl (.inl (gT g9)) rfl (sq rfl rfl (q_pick_t rfl rfl g9 rfl) ?_)))))))))))))))
  refine SOps.sub (st' := ⟨[(27, .c (.bool true))], []⟩) (sub_gen [] rfl rfl (zall rfl rfl) trivial) (SOps.nil (SCode.cond_t rfl rfl (SCode.seq (SCode.region (sa rfl rfl (SOps.nil (SCode.ret ?_)))))))
  obtain rfl := Option.some.inj h
  exact ⟨⟨[(6, ci 2)], []⟩, _, sub_gen [] rfl rfl (zall rfl rfl) trivial, resA1 (v := .c (.int .i64 2)) rfl rfl, rfl⟩
 refine SCode.region (sq rfl rfl (q_load_ptr_all rfl rfl rfl rfl rfl ty49) (sm rfl rfl (sq rfl rfl (q_call (flow_isNode_ok F a0_n a1_source c_4 g5) [] rfl fn58 ⟨⟨rfl, rfl⟩, ⟨_, rfl, .inl ⟨rfl, rfl⟩⟩, trivial⟩ (.inl rfl)) (sq rfl rfl (q_not rfl rfl) (sm rfl rfl (SOps.q rfl (.guard 4 17 false rfl rfl (gF g6)) rfl (q_load_ptr_all rfl rfl rfl rfl rfl ty49) (SOps.q rfl (.guard 4 17 false rfl rfl (gF g6)) rfl (q_move rfl rfl) (SOps.q rfl (.guard 4 17 false rfl rfl (gF g6)) rfl (q_call (flow_isNode_ok F a0_n a2_sink c_7 g8) [] rfl fn58 ⟨⟨rfl, rfl⟩, ⟨_, rfl, .inl ⟨rfl, rfl⟩⟩, trivial⟩ (.inl rfl)) (SOps.q rfl (.guard 4 17 false rfl rfl (gF g6)) rfl (q_not rfl rfl) (sq rfl rfl (q_pick_f rfl rfl g6 rfl) (sm rfl rfl (SOps.q rfl (.guard 10 23 false rfl rfl (gF g9)) rfl (q_move rfl rfl) (SOps.q rfl (.guard 10 23 false rfl rfl (gF g9)) rfl (q_move rfl rfl) (SOps.q rfl (.guard 10 23 false rfl rfl (gF g9)) rfl (q_eql rfl rfl rfl) (sq rfl rfl (q_pick_f rfl rfl g9 rfl) ?_)))))))))))))))
 refine SOps.sub (st' := ⟨[(27, .c (.bool (decide (a1_source = a2_sink))))], []⟩) (sub_gen [] rfl rfl (zall rfl rfl) trivial) (SOps.nil ?_)
 rcases cond_out h with ⟨g10, h⟩ | ⟨g10, h⟩
 ·refine SCode.cond_t rfl g10 (SCode.seq (SCode.region (sa rfl rfl (SOps.nil (SCode.ret ?_)))))
  obtain rfl := Option.some.inj h
  exact ⟨⟨[(6, ci 2)], []⟩, _, sub_gen [] rfl rfl (zall rfl rfl) trivial, resA1 (v := .c (.int .i64 2)) rfl rfl, rfl⟩
 refine SCode.cond_f rfl g10 (SCode.skip (SCode.seq (SCode.region (sa rfl rfl (SOps.nil (SCode.ret ?_))))))
 obtain rfl := Option.some.inj h
 exact ⟨⟨[(6, ci 0)], []⟩, _, sub_gen [] rfl rfl (zall rfl rfl) trivial, resA1 (v := .c (.int .i64 0)) rfl rfl, rfl⟩
theorem flow_graph_search_ok (F : Nat) (a0_g_edges : List SEdge) (a0_g_out : List (List Int)) (a0_g_level : List Int) (a0_g_turn : List Int) (a1_source : Int) (a2_sink : Int) (r : Bool × (List Int) × (List Int)) (h : flow_graph_search F a0_g_edges a0_g_out a0_g_level a0_g_turn a1_source a2_sink = some r) :
  SFun Try.prog 59 [.box [.own 1 a0_g_edges.length, vR a0_g_out, .own 2 a0_g_level.length, .own 3 a0_g_turn.length], aSEdge 75 a0_g_edges, aI 3 a0_g_level, aI 3 a0_g_turn] [.c (.ptr 0 0), ci a1_source, ci a2_sink] (fun x os => x = .c (.bool r.1) ∧ os = [.box [.own 1 a0_g_edges.length, vR a0_g_out, .own 2 r.2.1.length, .own 3 r.2.2.length], aSEdge 75 a0_g_edges, aI 3 r.2.1, aI 3 r.2.2]) := by
 refine SFun.of (n := 122) Try.func59 rfl rfl rfl ?_
 unfold flow_graph_search at h
 show SCode _ _ _ ⟨[(0, .c (.ptr 0 0)), (1, ci a1_source), (2, ci a2_sink)], [.box [.own 1 a0_g_edges.length, vR a0_g_out, .own 2 a0_g_level.length, .own 3 a0_g_turn.length], aSEdge 75 a0_g_edges, aI 3 a0_g_level, aI 3 a0_g_turn]⟩ _
 refine SCode.seq (SCode.region (sa rfl rfl (SOps.nil (SCode.scope (fun _ _ h => h) ?_))))
 let S60 := fun (o2_1 : List Int) => fun (o3_2 : List Int) => (⟨[(0, .c (.ptr 0 0)), (1, ci a1_source), (2, ci a2_sink)], [.box [.own 1 a0_g_edges.length, vR a0_g_out, .own 2 o2_1.length, .own 3 o3_2.length], aSEdge 75 a0_g_edges, aI 3 o2_1, aI 3 o3_2]⟩ : St)
 refine SCode.join (σ := (List Int) × (List Int)) (S := fun s => (S60 s.1 s.2)) (g := fun s => flow_graph_search_p167 F a0_g_edges a0_g_out a1_source a2_sink s.1 s.2 = some r) ?_ ?_
 rotate_left
 ·refine SCode.seq (SCode.region (sm rfl rfl (sq rfl rfl (q_nilCheck rfl rfl rfl) (sq rfl rfl (q_field_ptr rfl rfl fd78_2) (sq rfl rfl (q_load_ptr rfl rfl rfl rfl ty22) (sq rfl rfl (q_len_own rfl rfl sl22) (sm rfl rfl (SOps.nil (SCode.block ?_)))))))))
  let S59 := fun (t19_171 : Int) => fun (o2_172 : List Int) => fun (o3_173 : List Int) => (⟨[(0, .c (.ptr 0 0)), (1, ci a1_source), (2, ci a2_sink), (18, ci (((a0_g_level).length : Int))), (19, ci t19_171)], [.box [.own 1 a0_g_edges.length, vR a0_g_out, .own 2 o2_172.length, .own 3 o3_173.length], aSEdge 75 a0_g_edges, aI 3 o2_172, aI 3 o3_173]⟩ : St)
  refine SCode.sub (st' := (S59 0 a0_g_level a0_g_turn)) (sub_gen [0, 1, 2, 3] rfl rfl (zall rfl rfl) ⟨bx rfl rfl rfl, oa rfl, oa rfl, oa rfl, trivial⟩) ?_
  refine (SCode.loop (σ := Nat × (Int × (List Int) × (List Int))) (S := fun s => (S59 s.2.1 s.2.2.1 s.2.2.2)) (g := fun s => flow_graph_search_l177 F a0_g_edges a0_g_out a0_g_level a1_source a2_sink s.1 s.2.1 s.2.2.1 s.2.2.2 = some r) (μ := fun s => s.1) (F, (0, a0_g_level, a0_g_turn)) h ?_)
  rintro ⟨n_177, ⟨t19_171, o2_172, o3_173⟩⟩ h
  try dsimp only at h
  show SCode _ _ _ (S59 t19_171 o2_172 o3_173) _
  cases n_177 with
  | zero => cases h
  | succ n_177 =>
   rw [flow_graph_search_l177] at h
   unfold flow_graph_search_b177 at h
   refine SCode.seq (SCode.region (sq rfl rfl (q_lss rfl rfl rfl) (SOps.nil (SCode.seq ?_))))
   rcases cond_out h with ⟨g178, h⟩ | ⟨g178, h⟩
   ·refine SCode.cond_t rfl g178 (SCode.skip (SCode.seq (SCode.block (SCode.seq (SCode.region (sm rfl rfl (sa rfl rfl (SOps.nil (SCode.seq ?_)))))))))
    obtain ⟨g179, h⟩ := guard_out h
    refine SCode.region (sm rfl rfl (sq rfl rfl (q_nilCheck rfl rfl rfl) (sq rfl rfl (q_field_ptr rfl rfl fd78_2) (sq rfl rfl (q_load_ptr rfl rfl rfl rfl ty22) (sm rfl rfl (sq rfl rfl (q_index_own rfl rfl rfl sl22 g179.1 g179.2) (se rfl rfl (e_storeL ((-1)) rfl rfl rfl rfl rfl (toNat_lt g179) ty3 rfl rfl rfl rfl rfl rfl) (SOps.sub (st' := ⟨[(0, .c (.ptr 0 0)), (1, ci a1_source), (2, ci a2_sink), (7, ci t19_171), (18, ci (((a0_g_level).length : Int))), (19, ci t19_171)], [.box [.own 1 a0_g_edges.length, vR a0_g_out, .own 2 (o2_172.set t19_171.toNat ((-1))).length, .own 3 o3_173.length], aSEdge 75 a0_g_edges, aI 3 (o2_172.set t19_171.toNat ((-1))), aI 3 o3_173]⟩) (sub_gen [0, 1, 2, 3] rfl rfl (zall rfl rfl) ⟨⟨_, rfl, ⟨ii rfl rfl, ii rfl rfl, .inl ⟨rfl, congrArg (Cell.own 2) (List.length_set : (o2_172.set t19_171.toNat ((-1))).length = o2_172.length).symm⟩, ii rfl rfl, trivial⟩⟩, oa rfl, oa rfl, oa rfl, trivial⟩) (SOps.nil ?_)))))))))
    obtain ⟨g180, h⟩ := guard_out h
    refine SCode.region (sm rfl rfl (sq rfl rfl (q_nilCheck rfl rfl rfl) (sq rfl rfl (q_field_ptr rfl rfl fd78_3) (sq rfl rfl (q_load_ptr rfl rfl rfl rfl ty22) (sm rfl rfl (sq rfl rfl (q_index_own rfl rfl rfl sl22 g180.1 g180.2) (se rfl rfl (e_storeL 0 rfl rfl rfl rfl rfl (toNat_lt g180) ty3 rfl rfl rfl rfl rfl rfl) (SOps.sub (st' := ⟨[(0, .c (.ptr 0 0)), (1, ci a1_source), (2, ci a2_sink), (18, ci (((a0_g_level).length : Int))), (19, ci t19_171)], [.box [.own 1 a0_g_edges.length, vR a0_g_out, .own 2 (o2_172.set t19_171.toNat ((-1))).length, .own 3 (o3_173.set t19_171.toNat 0).length], aSEdge 75 a0_g_edges, aI 3 (o2_172.set t19_171.toNat ((-1))), aI 3 (o3_173.set t19_171.toNat 0)]⟩) (sub_gen [0, 1, 2, 3] rfl rfl (zall rfl rfl) ⟨⟨_, rfl, ⟨ii rfl rfl, ii rfl rfl, ii rfl rfl, .inl ⟨rfl, congrArg (Cell.own 3) (List.length_set : (o3_173.set t19_171.toNat 0).length = o3_173.length).symm⟩, trivial⟩⟩, oa rfl, oa rfl, oa rfl, trivial⟩) (SOps.nil (SCode.region (sq rfl rfl (q_add rfl rfl rfl) (sm rfl rfl (SOps.nil ?_)))))))))))))
    exact ⟨(n_177, (IntKind.wrap .i64 (t19_171 + 1), o2_172.set t19_171.toNat ((-1)), o3_173.set t19_171.toNat 0)), h, Nat.lt_succ_self n_177, sub_gen [0, 1, 2, 3] rfl rfl (zall rfl rfl) ⟨bx rfl rfl rfl, oa rfl, oa rfl, oa rfl, trivial⟩⟩
   refine SCode.cond_f rfl g178 (SCode.exit ?_)
   exact ⟨(o2_172, o3_173), h, sub_gen [0, 1, 2, 3] rfl rfl (zall rfl rfl) ⟨bx rfl rfl rfl, oa rfl, oa rfl, oa rfl, trivial⟩⟩
 rintro ⟨o2_1, o3_2⟩ h
 show SCode _ _ _ (S60 o2_1 o3_2) _
 try dsimp only at h
 unfold flow_graph_search_p167 at h
 refine SCode.seq ?_
 obtain ⟨g3, h⟩ := guard_out h
 refine SCode.region (sm rfl rfl (sq rfl rfl (q_nilCheck rfl rfl rfl) (sq rfl rfl (q_field_ptr rfl rfl fd78_2) (sq rfl rfl (q_load_ptr rfl rfl rfl rfl ty22) (sm rfl rfl (sq rfl rfl (q_index_own rfl rfl rfl sl22 g3.1 g3.2) (se rfl rfl (e_storeL 0 rfl rfl rfl rfl rfl (toNat_lt g3) ty3 rfl rfl rfl rfl rfl rfl) (SOps.sub (st' := ⟨[(0, .c (.ptr 0 0)), (1, ci a1_source), (2, ci a2_sink)], [.box [.own 1 a0_g_edges.length, vR a0_g_out, .own 2 (o2_1.set a1_source.toNat 0).length, .own 3 o3_2.length], aSEdge 75 a0_g_edges, aI 3 (o2_1.set a1_source.toNat 0), aI 3 o3_2]⟩) (sub_gen [0, 1, 2, 3] rfl rfl (zall rfl rfl) ⟨⟨_, rfl, ⟨ii rfl rfl, ii rfl rfl, .inl ⟨rfl, congrArg (Cell.own 2) (List.length_set : (o2_1.set a1_source.toNat 0).length = o2_1.length).symm⟩, ii rfl rfl, trivial⟩⟩, oa rfl, oa rfl, oa rfl, trivial⟩) (SOps.nil (SCode.seq (SCode.region (sm rfl rfl (se rfl rfl (e_bsliceL (c := (cInt .i64)) (d0 := 0) [a1_source] rfl rfl rfl rfl sl22 z3 rfl rfl rfl rfl rfl rfl rfl) (sa rfl rfl (SOps.nil ?_)))))))))))))))
 refine SCode.seq (SCode.label ?_)
 let S58 := fun (o2_4 : List Int) => (⟨[(0, .c (.ptr 0 0)), (2, ci a2_sink)], [.box [.own 1 a0_g_edges.length, vR a0_g_out, .own 2 o2_4.length, .own 3 o3_2.length], aSEdge 75 a0_g_edges, aI 3 o2_4, aI 3 o3_2]⟩ : St)
 refine SCode.join (σ := (List Int)) (S := fun s => (S58 s)) (g := fun s => flow_graph_search_p6 a2_sink o3_2 s = some r) ?_ ?_
 rotate_left
 ·refine SCode.seq (SCode.region (sa rfl rfl (SOps.nil (SCode.block ?_))))
  let S57 := fun (i_59 : Int) => fun (o2_60 : List Int) => fun (o4_61 : List Int) => (⟨[(0, .c (.ptr 0 0)), (2, ci a2_sink), (8, .c (.own 4 o4_61.length)), (9, ci i_59)], [.box [.own 1 a0_g_edges.length, vR a0_g_out, .own 2 o2_60.length, .own 3 o3_2.length], aSEdge 75 a0_g_edges, aI 3 o2_60, aI 3 o3_2, aI 3 o4_61]⟩ : St)
  refine SCode.sub (st' := (S57 0 (o2_1.set a1_source.toNat 0) ([a1_source]))) (sub_gen [0, 1, 2, 3, 4] rfl rfl (zall rfl rfl) ⟨bx rfl rfl rfl, oa rfl, oa rfl, oa rfl, oa rfl, trivial⟩) ?_
  refine (SCode.loop (σ := Nat × (Int × (List Int) × (List Int))) (S := fun s => (S57 s.2.1 s.2.2.1 s.2.2.2)) (g := fun s => flow_graph_search_l114 F a0_g_edges a0_g_out a2_sink o3_2 s.1 s.2.1 s.2.2.1 s.2.2.2 = some r) (μ := fun s => s.1) (F, (0, o2_1.set a1_source.toNat 0, [a1_source])) h ?_)
  rintro ⟨n_114, ⟨i_59, o2_60, o4_61⟩⟩ h
  try dsimp only at h
  show SCode _ _ _ (S57 i_59 o2_60 o4_61) _
  cases n_114 with
  | zero => cases h
  | succ n_114 =>
   rw [flow_graph_search_l114] at h
   unfold flow_graph_search_b114 at h
   refine SCode.seq (SCode.seq (SCode.region (sm rfl rfl (sm rfl rfl (sq rfl rfl (q_len_own rfl rfl sl22) (sq rfl rfl (q_lss rfl rfl rfl) (SOps.nil ?_)))))))
   rcases cond_out h with ⟨g115, h⟩ | ⟨g115, h⟩
   ·refine SCode.cond_t rfl g115 (SCode.skip ?_)
    let S56 := fun (o2_116 : List Int) => fun (o4_117 : List Int) => (⟨[(0, .c (.ptr 0 0)), (2, ci a2_sink), (8, .c (.own 4 o4_117.length)), (9, ci i_59)], [.box [.own 1 a0_g_edges.length, vR a0_g_out, .own 2 o2_116.length, .own 3 o3_2.length], aSEdge 75 a0_g_edges, aI 3 o2_116, aI 3 o3_2, aI 3 o4_117]⟩ : St)
    refine SCode.join (σ := (List Int) × (List Int)) (S := fun s => (S56 s.1 s.2)) (g := fun s => flow_graph_search_p118 i_59 (fun i_59 o2_60 o4_61 => flow_graph_search_l114 F a0_g_edges a0_g_out a2_sink o3_2 n_114 i_59 o2_60 o4_61) s.1 s.2 = some r) ?_ ?_
    rotate_left
    ·refine SCode.block (SCode.seq ?_)
     obtain ⟨g119, h⟩ := guard_out h
     refine SCode.region (sm rfl rfl (sm rfl rfl (sq rfl rfl (q_index_own rfl rfl rfl sl22 g119.1 g119.2) (sq rfl rfl (q_load_aptr rfl rfl rfl (toNat_lt g119) rfl ty3) (sa rfl rfl (SOps.nil (SCode.seq ?_)))))))
     obtain ⟨g120, h⟩ := guard_out h
     refine SCode.region (sm rfl rfl (sq rfl rfl (q_nilCheck rfl rfl rfl) (sq rfl rfl (q_field_ptr rfl rfl fd78_1) (sq rfl rfl (q_load_ptr rfl rfl rfl rfl ty23) (sm rfl rfl (sq rfl rfl (q_index_vec rfl rfl rfl sl23 rfl g120.1 g120.2) (sq rfl rfl (q_load_eptr rfl rfl ty22) (sq rfl rfl (q_len_vec rfl rfl sl22) (sm rfl rfl (SOps.sub (st' := ⟨[(0, .c (.ptr 0 0)), (2, ci a2_sink), (8, .c (.own 4 o4_61.length)), (9, ci i_59), (10, ci (o4_61.getD i_59.toNat 0)), (59, .c (vI (a0_g_out.getD (o4_61.getD i_59.toNat 0).toNat ([])))), (60, ci (((a0_g_out.getD (o4_61.getD i_59.toNat 0).toNat ([])).length : Int))), (61, ci 0)], [.box [.own 1 a0_g_edges.length, vR a0_g_out, .own 2 o2_60.length, .own 3 o3_2.length], aSEdge 75 a0_g_edges, aI 3 o2_60, aI 3 o3_2, aI 3 o4_61]⟩) (sub_gen [0, 1, 2, 3, 4] rfl rfl (zall rfl rfl) ⟨bx rfl rfl rfl, oa rfl, oa rfl, oa rfl, oa rfl, trivial⟩) (SOps.nil (SCode.block ?_))))))))))))
     let S55 := fun (t61_135 : Int) => fun (o2_136 : List Int) => fun (o4_137 : List Int) => (⟨[(0, .c (.ptr 0 0)), (2, ci a2_sink), (8, .c (.own 4 o4_137.length)), (9, ci i_59), (10, ci (o4_61.getD i_59.toNat 0)), (59, .c (vI (a0_g_out.getD (o4_61.getD i_59.toNat 0).toNat ([])))), (60, ci (((a0_g_out.getD (o4_61.getD i_59.toNat 0).toNat ([])).length : Int))), (61, ci t61_135)], [.box [.own 1 a0_g_edges.length, vR a0_g_out, .own 2 o2_136.length, .own 3 o3_2.length], aSEdge 75 a0_g_edges, aI 3 o2_136, aI 3 o3_2, aI 3 o4_137]⟩ : St)
     refine SCode.sub (st' := (S55 0 o2_60 o4_61)) (sub_gen [0, 1, 2, 3, 4] rfl rfl (zall rfl rfl) ⟨bx rfl rfl rfl, oa rfl, oa rfl, oa rfl, oa rfl, trivial⟩) ?_
     refine (SCode.loop (σ := Nat × (Int × (List Int) × (List Int))) (S := fun s => (S55 s.2.1 s.2.2.1 s.2.2.2)) (g := fun s => flow_graph_search_l152 a0_g_edges a0_g_out a2_sink o3_2 i_59 o4_61 (fun i_59 o2_60 o4_61 => flow_graph_search_l114 F a0_g_edges a0_g_out a2_sink o3_2 n_114 i_59 o2_60 o4_61) s.1 s.2.1 s.2.2.1 s.2.2.2 = some r) (μ := fun s => s.1) (F, (0, o2_60, o4_61)) h ?_)
     rintro ⟨n_152, ⟨t61_135, o2_136, o4_137⟩⟩ h
     try dsimp only at h
     show SCode _ _ _ (S55 t61_135 o2_136 o4_137) _
     cases n_152 with
     | zero => cases h
     | succ n_152 =>
      rw [flow_graph_search_l152] at h
      unfold flow_graph_search_b152 at h
      refine SCode.seq (SCode.region (sq rfl rfl (q_lss rfl rfl rfl) (SOps.nil (SCode.seq ?_))))
      rcases cond_out h with ⟨g153, h⟩ | ⟨g153, h⟩
      ·refine SCode.cond_t rfl g153 (SCode.skip ?_)
       let S54 := fun (o2_154 : List Int) => fun (o4_155 : List Int) => (⟨[(0, .c (.ptr 0 0)), (2, ci a2_sink), (8, .c (.own 4 o4_155.length)), (9, ci i_59), (10, ci (o4_61.getD i_59.toNat 0)), (59, .c (vI (a0_g_out.getD (o4_61.getD i_59.toNat 0).toNat ([])))), (60, ci (((a0_g_out.getD (o4_61.getD i_59.toNat 0).toNat ([])).length : Int))), (61, ci t61_135)], [.box [.own 1 a0_g_edges.length, vR a0_g_out, .own 2 o2_154.length, .own 3 o3_2.length], aSEdge 75 a0_g_edges, aI 3 o2_154, aI 3 o3_2, aI 3 o4_155]⟩ : St)
       refine SCode.join (σ := (List Int) × (List Int)) (S := fun s => (S54 s.1 s.2)) (g := fun s => flow_graph_search_p156 t61_135 (fun t61_135 o2_136 o4_137 => flow_graph_search_l152 a0_g_edges a0_g_out a2_sink o3_2 i_59 o4_61 (fun i_59 o2_60 o4_61 => flow_graph_search_l114 F a0_g_edges a0_g_out a2_sink o3_2 n_114 i_59 o2_60 o4_61) n_152 t61_135 o2_136 o4_137) s.1 s.2 = some r) ?_ ?_
       rotate_left
       ·refine SCode.block (SCode.seq ?_)
        obtain ⟨g157, h⟩ := guard_out h
        refine SCode.region (sq rfl rfl (q_index_vec rfl rfl rfl sl22 rfl g157.1 g157.2) (sq rfl rfl (q_load_eptr rfl rfl ty3) (sa rfl rfl (SOps.nil (SCode.seq ?_)))))
        obtain ⟨g158, h⟩ := guard_out h
        refine SCode.region (sm rfl rfl (sq rfl rfl (q_nilCheck rfl rfl rfl) (sq rfl rfl (q_field_ptr rfl rfl fd78_0) (sq rfl rfl (q_load_ptr rfl rfl rfl rfl ty76) (sm rfl rfl (sq rfl rfl (q_index_own rfl rfl rfl sl76 g158.1 g158.2) (sq rfl rfl (q_field_aptr rfl rfl fd75_0) (sq rfl rfl (q_load_aptr rfl rfl rfl (toNat_lt g158) rfl ty3) (sa rfl rfl (SOps.nil (SCode.seq (SCode.seq ?_))))))))))))
        obtain ⟨g159, h⟩ := guard_out h
        rcases cond_out h with ⟨g160, h⟩ | ⟨g160, h⟩
        ·refine SCode.region (sm rfl rfl (sq rfl rfl (q_nilCheck rfl rfl rfl) (sq rfl rfl (q_field_ptr rfl rfl fd78_0) (sq rfl rfl (q_load_ptr rfl rfl rfl rfl ty76) (sm rfl rfl (sq rfl rfl (q_index_own rfl rfl rfl sl76 g159.1 g159.2) (sq rfl rfl (q_field_aptr rfl rfl fd75_1) (sq rfl rfl (q_load_aptr rfl rfl rfl (toNat_lt g159) rfl ty3) (sq rfl rfl (q_eql rfl rfl rfl) (sm rfl rfl (SOps.skip rfl 9 82 false rfl rfl (.inl (gT g160)) rfl (SOps.skip rfl 9 82 false rfl rfl (.inl (gT g160)) rfl (SOps.skip rfl 9 82 false rfl rfl (.inl (gT g160)) rfl (SOps.skip rfl 9 82 false rfl rfl (.inl (gT g160)) rfl (SOps.skip rfl 9 82 false rfl rfl (.inl (gT g160)) rfl ?_)))))))))))))))
         refine SOps.skip rfl 9 82 false rfl rfl (.inl (gT g160)) rfl (SOps.skip rfl 9 82 false rfl rfl (.inl (gT g160)) rfl (SOps.skip rfl 9 82 false rfl rfl (.inl (gT g160)) rfl (sq rfl rfl (q_pick_t rfl rfl g160 rfl) ?_)))
         let y1 := a0_g_out.getD (o4_61.getD i_59.toNat 0).toNat ([])
         refine SOps.sub (st' := ⟨[(0, .c (.ptr 0 0)), (2, ci a2_sink), (8, .c (.own 4 o4_137.length)), (9, ci i_59), (10, ci (o4_61.getD i_59.toNat 0)), (13, ci ((a0_g_edges.getD ((y1.getD t61_135.toNat 0).toNat) dSEdge).to)), (59, .c (vI y1)), (60, ci ((y1.length : Int))), (61, ci t61_135), (91, .c (.bool true))], [.box [.own 1 a0_g_edges.length, vR a0_g_out, .own 2 o2_136.length, .own 3 o3_2.length], aSEdge 75 a0_g_edges, aI 3 o2_136, aI 3 o3_2, aI 3 o4_137]⟩) (sub_gen [0, 1, 2, 3, 4] rfl rfl (zall rfl rfl) ⟨bx rfl rfl rfl, oa rfl, oa rfl, oa rfl, oa rfl, trivial⟩) (SOps.nil (SCode.cond_t rfl rfl (SCode.exit ?_)))
         exact ⟨(o2_136, o4_137), h, sub_gen [0, 1, 2, 3, 4] rfl rfl (zall rfl rfl) ⟨bx rfl rfl rfl, oa rfl, oa rfl, oa rfl, oa rfl, trivial⟩⟩
        obtain ⟨g161, h⟩ := guard_out h
        refine SCode.region (sm rfl rfl (sq rfl rfl (q_nilCheck rfl rfl rfl) (sq rfl rfl (q_field_ptr rfl rfl fd78_0) (sq rfl rfl (q_load_ptr rfl rfl rfl rfl ty76) (sm rfl rfl (sq rfl rfl (q_index_own rfl rfl rfl sl76 g159.1 g159.2) (sq rfl rfl (q_field_aptr rfl rfl fd75_1) (sq rfl rfl (q_load_aptr rfl rfl rfl (toNat_lt g159) rfl ty3) (sq rfl rfl (q_eql rfl rfl rfl) (sm rfl rfl (SOps.q rfl (.guard 9 82 false rfl rfl (gF g160)) rfl (q_move rfl rfl) (SOps.q rfl (.guard 9 82 false rfl rfl (gF g160)) rfl (q_nilCheck rfl rfl rfl) (SOps.q rfl (.guard 9 82 false rfl rfl (gF g160)) rfl (q_field_ptr rfl rfl fd78_2) (SOps.q rfl (.guard 9 82 false rfl rfl (gF g160)) rfl (q_load_ptr rfl rfl rfl rfl ty22) (SOps.q rfl (.guard 9 82 false rfl rfl (gF g160)) rfl (q_move rfl rfl) ?_)))))))))))))))
        refine SOps.q rfl (.guard 9 82 false rfl rfl (gF g160)) rfl (q_index_own rfl rfl rfl sl22 g161.1 g161.2) (SOps.q rfl (.guard 9 82 false rfl rfl (gF g160)) rfl (q_load_aptr rfl rfl rfl (toNat_lt g161) rfl ty3) (SOps.q rfl (.guard 9 82 false rfl rfl (gF g160)) rfl (q_geq rfl rfl rfl) (sq rfl rfl (q_pick_f rfl rfl g160 rfl) ?_)))
        let y2 := a0_g_out.getD (o4_61.getD i_59.toNat 0).toNat ([])
        refine SOps.sub (st' := ⟨[(0, .c (.ptr 0 0)), (2, ci a2_sink), (8, .c (.own 4 o4_137.length)), (9, ci i_59), (10, ci (o4_61.getD i_59.toNat 0)), (13, ci ((a0_g_edges.getD ((y2.getD t61_135.toNat 0).toNat) dSEdge).to)), (59, .c (vI y2)), (60, ci ((y2.length : Int))), (61, ci t61_135), (91, .c (.bool (decide (0 ≤ o2_136.getD (((a0_g_edges.getD ((y2.getD t61_135.toNat 0).toNat) dSEdge).to).toNat) 0))))], [.box [.own 1 a0_g_edges.length, vR a0_g_out, .own 2 o2_136.length, .own 3 o3_2.length], aSEdge 75 a0_g_edges, aI 3 o2_136, aI 3 o3_2, aI 3 o4_137]⟩) (sub_gen [0, 1, 2, 3, 4] rfl rfl (zall rfl rfl) ⟨bx rfl rfl rfl, oa rfl, oa rfl, oa rfl, oa rfl, trivial⟩) (SOps.nil ?_)
        rcases cond_out h with ⟨g162, h⟩ | ⟨g162, h⟩
        ·refine SCode.cond_t rfl g162 (SCode.exit ?_)
         exact ⟨(o2_136, o4_137), h, sub_gen [0, 1, 2, 3, 4] rfl rfl (zall rfl rfl) ⟨bx rfl rfl rfl, oa rfl, oa rfl, oa rfl, oa rfl, trivial⟩⟩
        refine SCode.cond_f rfl g162 (SCode.skip (SCode.seq ?_))
        obtain ⟨g163, h⟩ := guard_out h
        obtain ⟨g164, h⟩ := guard_out h
        refine SCode.drawK mixed [[], [0], [0, 1], [0, 1, 2], [], [], [5], [5, 6], [5, 6, 7], [], [5, 6, 7, 8, 9], [5, 6, 7, 8, 9, 10], [5, 6, 7, 8, 9, 10, 11], [0, 1, 2, 3, 4, 5, 6, 7, 8, 9, 10, 11, 12], [0, 1, 2, 3, 4, 5, 6, 7, 8, 9, 10, 11, 12, 13]] 14 1 rfl rfl (qm rfl rfl (qr rfl rfl (q_nilCheck rfl rfl rfl) (qr rfl rfl (q_field_ptr rfl rfl fd78_2) (qr rfl rfl (q_load_ptr rfl rfl rfl rfl ty22) (qm rfl rfl (qm rfl rfl (qr rfl rfl (q_nilCheck rfl rfl rfl) (qr rfl rfl (q_field_ptr rfl rfl fd78_2) (qr rfl rfl (q_load_ptr rfl rfl rfl rfl ty22) (qm rfl rfl (qr rfl rfl (q_index_own rfl rfl rfl sl22 g163.1 g163.2) (qr rfl rfl (q_load_aptr rfl rfl rfl (toNat_lt g163) rfl ty3) (qr rfl rfl (q_add rfl rfl rfl) (qr rfl rfl (q_index_own rfl rfl rfl sl22 g164.1 g164.2) (QK.nil ?_)))))))))))))))
        refine se rfl rfl (e_storeL (IntKind.wrap .i64 (o2_136.getD ((o4_61.getD i_59.toNat 0).toNat) 0 + 1)) rfl rfl rfl rfl rfl (toNat_lt g164) ty3 rfl rfl rfl rfl rfl rfl) ?_
        let y4 := a0_g_out.getD (o4_61.getD i_59.toNat 0).toNat ([])
        let y3 := o2_136.set (((a0_g_edges.getD ((y4.getD t61_135.toNat 0).toNat) dSEdge).to).toNat) (IntKind.wrap .i64 (o2_136.getD ((o4_61.getD i_59.toNat 0).toNat) 0 + 1))
        refine SOps.sub (st' := ⟨[(0, .c (.ptr 0 0)), (2, ci a2_sink), (8, .c (.own 4 o4_137.length)), (9, ci i_59), (10, ci (o4_61.getD i_59.toNat 0)), (13, ci ((a0_g_edges.getD ((y4.getD t61_135.toNat 0).toNat) dSEdge).to)), (59, .c (vI y4)), (60, ci ((y4.length : Int))), (61, ci t61_135)], [.box [.own 1 a0_g_edges.length, vR a0_g_out, .own 2 y3.length, .own 3 o3_2.length], aSEdge 75 a0_g_edges, aI 3 y3, aI 3 o3_2, aI 3 o4_137]⟩) (sub_gen [0, 1, 2, 3, 4] rfl rfl (zall rfl rfl) ⟨⟨_, rfl, ⟨ii rfl rfl, ii rfl rfl, .inl ⟨rfl, congrArg (Cell.own 2) (List.length_set : y3.length = o2_136.length).symm⟩, ii rfl rfl, trivial⟩⟩, oa rfl, oa rfl, oa rfl, oa rfl, trivial⟩) (SOps.nil (SCode.seq (SCode.seq (SCode.region (sm rfl rfl (sm rfl rfl (sq rfl rfl (q_eql rfl rfl rfl) (SOps.nil ?_))))))))
        rcases cond_out h with ⟨g165, h⟩ | ⟨g165, h⟩
        ·refine SCode.cond_t rfl g165 (SCode.exit ?_)
         exact ⟨o2_136.set (((a0_g_edges.getD (((a0_g_out.getD (o4_61.getD i_59.toNat 0).toNat ([])).getD t61_135.toNat 0).toNat) dSEdge).to).toNat) (IntKind.wrap .i64 (o2_136.getD ((o4_61.getD i_59.toNat 0).toNat) 0 + 1)), h, sub_gen [0, 1, 2, 3] rfl rfl (zall rfl rfl) ⟨bx rfl rfl rfl, oa rfl, oa rfl, oa rfl, trivial⟩⟩
        refine SCode.cond_f rfl g165 (SCode.skip ?_)
        obtain ⟨g166, h⟩ := guard_out h
        refine SCode.region (sm rfl rfl (sm rfl rfl (sq rfl rfl (q_bsliceL (c := (cInt .i64)) (d0 := 0) [(a0_g_edges.getD (((a0_g_out.getD (o4_61.getD i_59.toNat 0).toNat ([])).getD t61_135.toNat 0).toNat) dSEdge).to] rfl rfl sl22 z3 rfl rfl rfl rfl rfl rfl rfl) (se rfl rfl (e_appendL (c := (cInt .i64)) (d0 := 0) (l := o4_137) (l2 := [(a0_g_edges.getD (((a0_g_out.getD (o4_61.getD i_59.toNat 0).toNat ([])).getD t61_135.toNat 0).toNat) dSEdge).to]) rfl rfl rfl rfl rfl rfl (.inl rfl) sl22 z3 rfl rfl oneInt g166.1 g166.2) (sa rfl rfl ?_)))))
        let y5 := a0_g_edges.getD (((a0_g_out.getD (o4_61.getD i_59.toNat 0).toNat ([])).getD t61_135.toNat 0).toNat) dSEdge
        let y6 := o2_136.set ((y5.to).toNat) (IntKind.wrap .i64 (o2_136.getD ((o4_61.getD i_59.toNat 0).toNat) 0 + 1))
        refine SOps.sub (st' := ⟨[(0, .c (.ptr 0 0)), (2, ci a2_sink), (8, .c (.own 4 (o4_137 ++ ([y5.to])).length)), (9, ci i_59), (10, ci (o4_61.getD i_59.toNat 0)), (59, .c (vI (a0_g_out.getD (o4_61.getD i_59.toNat 0).toNat ([])))), (60, ci (((a0_g_out.getD (o4_61.getD i_59.toNat 0).toNat ([])).length : Int))), (61, ci t61_135)], [.box [.own 1 a0_g_edges.length, vR a0_g_out, .own 2 y6.length, .own 3 o3_2.length], aSEdge 75 a0_g_edges, aI 3 y6, aI 3 o3_2, aI 3 (o4_137 ++ ([y5.to]))]⟩) (sub_gen [0, 1, 2, 3, 5] rfl rfl (zall rfl rfl) ⟨bx rfl rfl rfl, oa rfl, oa rfl, oa rfl, oa rfl, trivial⟩) (SOps.nil ?_)
        let y7 := a0_g_edges.getD (((a0_g_out.getD (o4_61.getD i_59.toNat 0).toNat ([])).getD t61_135.toNat 0).toNat) dSEdge
        exact ⟨(o2_136.set ((y7.to).toNat) (IntKind.wrap .i64 (o2_136.getD ((o4_61.getD i_59.toNat 0).toNat) 0 + 1)), o4_137 ++ ([y7.to])), h, sub_gen [0, 1, 2, 3, 4] rfl rfl (zall rfl rfl) ⟨bx rfl rfl rfl, oa rfl, oa rfl, oa rfl, oa rfl, trivial⟩⟩
       rintro ⟨o2_154, o4_155⟩ h
       show SCode _ _ _ (S54 o2_154 o4_155) _
       try dsimp only at h
       unfold flow_graph_search_p156 at h
       refine SCode.region (sq rfl rfl (q_add rfl rfl rfl) (sm rfl rfl (SOps.nil ?_)))
       exact ⟨(n_152, (IntKind.wrap .i64 (t61_135 + 1), o2_154, o4_155)), h, Nat.lt_succ_self n_152, sub_gen [0, 1, 2, 3, 4] rfl rfl (zall rfl rfl) ⟨bx rfl rfl rfl, oa rfl, oa rfl, oa rfl, oa rfl, trivial⟩⟩
      refine SCode.cond_f rfl g153 (SCode.exit ?_)
      exact ⟨(o2_136, o4_137), h, sub_gen [0, 1, 2, 3, 4] rfl rfl (zall rfl rfl) ⟨bx rfl rfl rfl, oa rfl, oa rfl, oa rfl, oa rfl, trivial⟩⟩
    rintro ⟨o2_116, o4_117⟩ h
    show SCode _ _ _ (S56 o2_116 o4_117) _
    try dsimp only at h
    unfold flow_graph_search_p118 at h
    refine SCode.region (sm rfl rfl (sq rfl rfl (q_add rfl rfl rfl) (sa rfl rfl (SOps.nil ?_))))
    exact ⟨(n_114, (IntKind.wrap .i64 (i_59 + 1), o2_116, o4_117)), h, Nat.lt_succ_self n_114, sub_gen [0, 1, 2, 3, 4] rfl rfl (zall rfl rfl) ⟨bx rfl rfl rfl, oa rfl, oa rfl, oa rfl, oa rfl, trivial⟩⟩
   refine SCode.cond_f rfl g115 (SCode.exit ?_)
   exact ⟨o2_60, h, sub_gen [0, 1, 2, 3] rfl rfl (zall rfl rfl) ⟨bx rfl rfl rfl, oa rfl, oa rfl, oa rfl, trivial⟩⟩
 rintro o2_4 h
 show SCode _ _ _ (S58 o2_4) _
 try dsimp only at h
 unfold flow_graph_search_p6 at h
 refine SCode.seq ?_
 obtain ⟨g5, h⟩ := guard_out h
 refine SCode.region (sm rfl rfl (sq rfl rfl (q_nilCheck rfl rfl rfl) (sq rfl rfl (q_field_ptr rfl rfl fd78_2) (sq rfl rfl (q_load_ptr rfl rfl rfl rfl ty22) (sm rfl rfl (sq rfl rfl (q_index_own rfl rfl rfl sl22 g5.1 g5.2) (sq rfl rfl (q_load_aptr rfl rfl rfl (toNat_lt g5) rfl ty3) (sq rfl rfl (q_geq rfl rfl rfl) (sa rfl rfl (SOps.nil (SCode.ret ?_)))))))))))
 obtain rfl := Option.some.inj h
 exact ⟨⟨[(6, .c (.bool (decide (0 ≤ o2_4.getD a2_sink.toNat 0))))], [.box [.own 1 a0_g_edges.length, vR a0_g_out, .own 2 o2_4.length, .own 3 o3_2.length], aSEdge 75 a0_g_edges, aI 3 o2_4, aI 3 o3_2]⟩, _, sub_gen [0, 1, 2, 3] rfl rfl (zall rfl rfl) ⟨bx rfl rfl rfl, oa rfl, oa rfl, oa rfl, trivial⟩, resA1 (v := .c (.bool (decide (0 ≤ o2_4.getD a2_sink.toNat 0)))) rfl rfl, ⟨rfl, rfl⟩⟩
end Go.Proofs.Ytfefnffdocmlmaa.W
