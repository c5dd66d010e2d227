/- Written by a program of ours (wip/eng/gen.py): the functions compute their models. -/
import Derived.Test.YtmiikbfacgmopaaFacts
namespace Go.Proofs.Ytmiikbfacgmopaa.W
open Go Go.Proofs Go.Proofs.Ytmiikbfacgmopaa.E Go.Proofs.Ytmiikbfacgmopaa.M
set_option linter.unusedVariables false
set_option maxRecDepth 100000
set_option maxHeartbeats 8000000
theorem plan_forest_ok (F : Nat) (a0_p : SProblem) (r : Bool) (h : plan_forest F a0_p = some r) :
  SFun Try.prog 19 [] [.a (bSProblem a0_p)] (fun x _ => x = .c (.bool r)) := by
 refine SFun.of (n := 52) Try.func19 rfl rfl rfl ?_
 unfold plan_forest at h
 show SCode _ _ _ ⟨[(0, .a (bSProblem a0_p))], []⟩ _
 refine SCode.seq (SCode.region (se rfl rfl (e_box rfl rfl rfl rfl rfl rfl) (sa rfl rfl (SOps.nil ?_))))
 let S24 := (⟨[(1, .c (.ptr 0 0))], [.box (bSProblem a0_p)]⟩ : St)
 refine SCode.join (σ := Unit) (S := fun s => S24) (g := fun s => plan_forest_p58 F a0_p = some r) ?_ ?_
 rotate_left
 ·refine SCode.seq (SCode.region (sq rfl rfl (q_field_ptr rfl rfl fd26_0) (sq rfl rfl (q_load_ptr rfl rfl rfl rfl ty22) (sq rfl rfl (q_len_vec rfl rfl sl22) (sm rfl rfl (SOps.nil (SCode.block ?_)))))))
  let S23 := fun (t12_63 : Int) => (⟨[(1, .c (.ptr 0 0)), (10, .c (vI a0_p.Parents)), (11, ci (((a0_p.Parents).length : Int))), (12, ci t12_63)], [.box (bSProblem a0_p)]⟩ : St)
  refine SCode.sub (st' := (S23 0)) (sub_gen [0] rfl rfl (zall rfl rfl) ⟨bx rfl rfl rfl, trivial⟩) ?_
  refine (SCode.loop (σ := Nat × Int) (S := fun s => (S23 s.2)) (g := fun s => plan_forest_l68 F a0_p s.1 s.2 = some r) (μ := fun s => s.1) (F, 0) h ?_)
  rintro ⟨n_68, t12_63⟩ h
  try dsimp only at h
  show SCode _ _ _ (S23 t12_63) _
  cases n_68 with
  | zero => cases h
  | succ n_68 =>
   rw [plan_forest_l68] at h
   unfold plan_forest_b68 at h
   refine SCode.seq (SCode.region (sq rfl rfl (q_lss rfl rfl rfl) (SOps.nil (SCode.seq ?_))))
   rcases cond_out h with ⟨g69, h⟩ | ⟨g69, h⟩
   ·refine SCode.cond_t rfl g69 (SCode.skip (SCode.seq (SCode.block (SCode.seq ?_))))
    obtain ⟨g70, h⟩ := guard_out h
    refine SCode.region (sm rfl rfl (sq rfl rfl (q_index_vec rfl rfl rfl sl22 rfl g70.1 g70.2) (sq rfl rfl (q_load_eptr rfl rfl ty3) (sa rfl rfl (sa rfl rfl (SOps.nil (SCode.seq ?_)))))))
    rcases cond_out h with ⟨g71, h⟩ | ⟨g71, h⟩
    ·refine SCode.region (sm rfl rfl (sq rfl rfl (q_lss rfl rfl rfl) (sm rfl rfl (SOps.skip rfl 2 19 false rfl rfl (.inl (gT g71)) rfl (SOps.skip rfl 2 19 false rfl rfl (.inl (gT g71)) rfl (SOps.skip rfl 2 19 false rfl rfl (.inl (gT g71)) rfl (sq rfl rfl (q_pick_t rfl rfl g71 rfl) (SOps.nil (SCode.cond_t rfl rfl (SCode.seq (SCode.region (sa rfl rfl (SOps.nil (SCode.ret ?_))))))))))))))
     obtain rfl := Option.some.inj h
     exact ⟨⟨[(2, .c (.bool false))], []⟩, _, sub_gen [] rfl rfl (zall rfl rfl) trivial, resA1 (v := .c (.bool false)) rfl rfl, rfl⟩
    refine SCode.region (sm rfl rfl (sq rfl rfl (q_lss rfl rfl rfl) (sm rfl rfl (SOps.q rfl (.guard 2 19 false rfl rfl (gF g71)) rfl (q_move rfl rfl) (SOps.q rfl (.guard 2 19 false rfl rfl (gF g71)) rfl (q_move rfl rfl) (SOps.q rfl (.guard 2 19 false rfl rfl (gF g71)) rfl (q_geq rfl rfl rfl) (sq rfl rfl (q_pick_f rfl rfl g71 rfl) (SOps.nil ?_))))))))
    rcases cond_out h with ⟨g72, h⟩ | ⟨g72, h⟩
    ·refine SCode.cond_t rfl g72 (SCode.seq (SCode.region (sa rfl rfl (SOps.nil (SCode.ret ?_)))))
     obtain rfl := Option.some.inj h
     exact ⟨⟨[(2, .c (.bool false))], []⟩, _, sub_gen [] rfl rfl (zall rfl rfl) trivial, resA1 (v := .c (.bool false)) rfl rfl, rfl⟩
    refine SCode.cond_f rfl g72 (SCode.skip (SCode.region (sq rfl rfl (q_add rfl rfl rfl) (sm rfl rfl (SOps.nil ?_)))))
    exact ⟨(n_68, IntKind.wrap .i64 (t12_63 + 1)), h, Nat.lt_succ_self n_68, sub_gen [0] rfl rfl (zall rfl rfl) ⟨bx rfl rfl rfl, trivial⟩⟩
   refine SCode.cond_f rfl g69 (SCode.exit ?_)
   exact ⟨(), h, sub_gen [0] rfl rfl (zall rfl rfl) ⟨bx rfl rfl rfl, trivial⟩⟩
 rintro ⟨⟩ h
 show SCode _ _ _ S24 _
 try dsimp only at h
 unfold plan_forest_p58 at h
 let S22 := (⟨[], []⟩ : St)
 refine SCode.join (σ := Unit) (S := fun s => S22) (g := fun s => plan_forest_p1 = some r) ?_ ?_
 rotate_left
 ·refine SCode.seq (SCode.region (sq rfl rfl (q_field_ptr rfl rfl fd26_1) (sq rfl rfl (q_load_ptr rfl rfl rfl rfl ty23) (sq rfl rfl (q_len_vec rfl rfl sl23) (sm rfl rfl (SOps.nil (SCode.block ?_)))))))
  let S21 := fun (t28_20 : Int) => (⟨[(1, .c (.ptr 0 0)), (26, .c (vR a0_p.Caps)), (27, ci (((a0_p.Caps).length : Int))), (28, ci t28_20)], [.box (bSProblem a0_p)]⟩ : St)
  refine SCode.sub (st' := (S21 0)) (sub_gen [0] rfl rfl (zall rfl rfl) ⟨bx rfl rfl rfl, trivial⟩) ?_
  refine (SCode.loop (σ := Nat × Int) (S := fun s => (S21 s.2)) (g := fun s => plan_forest_l39 F a0_p s.1 s.2 = some r) (μ := fun s => s.1) (F, 0) h ?_)
  rintro ⟨n_39, t28_20⟩ h
  try dsimp only at h
  show SCode _ _ _ (S21 t28_20) _
  cases n_39 with
  | zero => cases h
  | succ n_39 =>
   rw [plan_forest_l39] at h
   unfold plan_forest_b39 at h
   refine SCode.seq (SCode.region (sq rfl rfl (q_lss rfl rfl rfl) (SOps.nil (SCode.seq ?_))))
   rcases cond_out h with ⟨g40, h⟩ | ⟨g40, h⟩
   ·refine SCode.cond_t rfl g40 (SCode.skip ?_)
    let S20 := (⟨[(1, .c (.ptr 0 0)), (26, .c (vR a0_p.Caps)), (27, ci (((a0_p.Caps).length : Int))), (28, ci t28_20)], [.box (bSProblem a0_p)]⟩ : St)
    refine SCode.join (σ := Unit) (S := fun s => S20) (g := fun s => plan_forest_p41 t28_20 (fun t28_20 => plan_forest_l39 F a0_p n_39 t28_20) = some r) ?_ ?_
    rotate_left
    ·refine SCode.block (SCode.seq ?_)
     obtain ⟨g42, h⟩ := guard_out h
     refine SCode.region (sq rfl rfl (q_index_vec rfl rfl rfl sl23 rfl g42.1 g42.2) (sq rfl rfl (q_load_eptr rfl rfl ty22) (sa rfl rfl (SOps.nil (SCode.seq (SCode.seq (SCode.region (sm rfl rfl (sq rfl rfl (q_len_vec rfl rfl sl22) (sq rfl rfl (q_field_ptr rfl rfl fd26_0) (sq rfl rfl (q_load_ptr rfl rfl rfl rfl ty22) (sq rfl rfl (q_len_vec rfl rfl sl22) (sq rfl rfl (q_neq rfl rfl rfl) (SOps.nil ?_))))))))))))))
     rcases cond_out h with ⟨g43, h⟩ | ⟨g43, h⟩
     ·refine SCode.cond_t rfl g43 (SCode.seq (SCode.region (sa rfl rfl (SOps.nil (SCode.ret ?_)))))
      obtain rfl := Option.some.inj h
      exact ⟨⟨[(2, .c (.bool false))], []⟩, _, sub_gen [] rfl rfl (zall rfl rfl) trivial, resA1 (v := .c (.bool false)) rfl rfl, rfl⟩
     refine SCode.cond_f rfl g43 (SCode.skip (SCode.seq (SCode.region (sm rfl rfl (sq rfl rfl (q_len_vec rfl rfl sl22) (sm rfl rfl (SOps.nil (SCode.block ?_))))))))
     let S19 := fun (t40_48 : Int) => (⟨[(1, .c (.ptr 0 0)), (26, .c (vR a0_p.Caps)), (27, ci (((a0_p.Caps).length : Int))), (28, ci t28_20), (38, .c (vI (a0_p.Caps.getD t28_20.toNat ([])))), (39, ci (((a0_p.Caps.getD t28_20.toNat ([])).length : Int))), (40, ci t40_48)], [.box (bSProblem a0_p)]⟩ : St)
     refine SCode.sub (st' := (S19 0)) (sub_gen [0] rfl rfl (zall rfl rfl) ⟨bx rfl rfl rfl, trivial⟩) ?_
     refine (SCode.loop (σ := Nat × Int) (S := fun s => (S19 s.2)) (g := fun s => plan_forest_l53 a0_p t28_20 (fun t28_20 => plan_forest_l39 F a0_p n_39 t28_20) s.1 s.2 = some r) (μ := fun s => s.1) (F, 0) h ?_)
     rintro ⟨n_53, t40_48⟩ h
     try dsimp only at h
     show SCode _ _ _ (S19 t40_48) _
     cases n_53 with
     | zero => cases h
     | succ n_53 =>
      rw [plan_forest_l53] at h
      unfold plan_forest_b53 at h
      refine SCode.seq (SCode.region (sq rfl rfl (q_lss rfl rfl rfl) (SOps.nil (SCode.seq ?_))))
      rcases cond_out h with ⟨g54, h⟩ | ⟨g54, h⟩
      ·refine SCode.cond_t rfl g54 (SCode.skip (SCode.seq (SCode.block (SCode.seq ?_))))
       obtain ⟨g55, h⟩ := guard_out h
       refine SCode.region (sq rfl rfl (q_index_vec rfl rfl rfl sl22 rfl g55.1 g55.2) (sq rfl rfl (q_load_eptr rfl rfl ty3) (sa rfl rfl (SOps.nil (SCode.seq ?_)))))
       rcases cond_out h with ⟨g56, h⟩ | ⟨g56, h⟩
       ·refine SCode.region (sm rfl rfl (sq rfl rfl (q_lss rfl rfl rfl) (sm rfl rfl (SOps.skip rfl 2 46 false rfl rfl (.inl (gT g56)) rfl (SOps.skip rfl 2 46 false rfl rfl (.inl (gT g56)) rfl (sq rfl rfl (q_pick_t rfl rfl g56 rfl) (SOps.nil (SCode.cond_t rfl rfl (SCode.seq (SCode.region (sa rfl rfl (SOps.nil (SCode.ret ?_)))))))))))))
        obtain rfl := Option.some.inj h
        exact ⟨⟨[(2, .c (.bool false))], []⟩, _, sub_gen [] rfl rfl (zall rfl rfl) trivial, resA1 (v := .c (.bool false)) rfl rfl, rfl⟩
       refine SCode.region (sm rfl rfl (sq rfl rfl (q_lss rfl rfl rfl) (sm rfl rfl (SOps.q rfl (.guard 2 46 false rfl rfl (gF g56)) rfl (q_move rfl rfl) (SOps.q rfl (.guard 2 46 false rfl rfl (gF g56)) rfl (q_gtr rfl rfl rfl) (sq rfl rfl (q_pick_f rfl rfl g56 rfl) (SOps.nil ?_)))))))
       rcases cond_out h with ⟨g57, h⟩ | ⟨g57, h⟩
       ·refine SCode.cond_t rfl g57 (SCode.seq (SCode.region (sa rfl rfl (SOps.nil (SCode.ret ?_)))))
        obtain rfl := Option.some.inj h
        exact ⟨⟨[(2, .c (.bool false))], []⟩, _, sub_gen [] rfl rfl (zall rfl rfl) trivial, resA1 (v := .c (.bool false)) rfl rfl, rfl⟩
       refine SCode.cond_f rfl g57 (SCode.skip (SCode.region (sq rfl rfl (q_add rfl rfl rfl) (sm rfl rfl (SOps.nil ?_)))))
       exact ⟨(n_53, IntKind.wrap .i64 (t40_48 + 1)), h, Nat.lt_succ_self n_53, sub_gen [0] rfl rfl (zall rfl rfl) ⟨bx rfl rfl rfl, trivial⟩⟩
      refine SCode.cond_f rfl g54 (SCode.exit ?_)
      exact ⟨(), h, sub_gen [0] rfl rfl (zall rfl rfl) ⟨bx rfl rfl rfl, trivial⟩⟩
    rintro ⟨⟩ h
    show SCode _ _ _ S20 _
    try dsimp only at h
    unfold plan_forest_p41 at h
    refine SCode.region (sq rfl rfl (q_add rfl rfl rfl) (sm rfl rfl (SOps.nil ?_)))
    exact ⟨(n_39, IntKind.wrap .i64 (t28_20 + 1)), h, Nat.lt_succ_self n_39, sub_gen [0] rfl rfl (zall rfl rfl) ⟨bx rfl rfl rfl, trivial⟩⟩
   refine SCode.cond_f rfl g40 (SCode.exit ?_)
   exact ⟨(), h, sub_gen [] rfl rfl trivial trivial⟩
 rintro ⟨⟩ h
 show SCode _ _ _ S22 _
 try dsimp only at h
 unfold plan_forest_p1 at h
 refine SCode.seq (SCode.region (sa rfl rfl (SOps.nil (SCode.ret ?_))))
 obtain rfl := Option.some.inj h
 exact ⟨⟨[(2, .c (.bool true))], []⟩, _, sub_gen [] rfl rfl (zall rfl rfl) trivial, resA1 (v := .c (.bool true)) rfl rfl, rfl⟩
theorem plan_Valid_ok (F : Nat) (a0_p : SProblem) (r : Int) (h : plan_Valid F a0_p = some r) :
  SFun Try.prog 8 [] [.a (bSProblem a0_p)] (fun x _ => x = ci r) := by
 refine SFun.of (n := 117) Try.func8 rfl rfl rfl ?_
 unfold plan_Valid at h
 show SCode _ _ _ ⟨[(0, .a (bSProblem a0_p))], []⟩ _
 refine SCode.seq (SCode.region (se rfl rfl (e_box rfl rfl rfl rfl rfl rfl) (sa rfl rfl (SOps.nil (SCode.seq (SCode.sub (st' := ⟨[(1, .c (.ptr 0 0))], [.box (bSProblem a0_p)]⟩) (sub_gen [0] rfl rfl (zall rfl rfl) ⟨bx rfl rfl rfl, trivial⟩) (SCode.drawK mixed [[], [0], [0, 1], [], [3], [3, 4], [0, 1, 2], [0, 1, 2, 3, 4, 5, 6]] 8 0 rfl rfl (qr rfl rfl (q_field_ptr rfl rfl fd26_0) (qr rfl rfl (q_load_ptr rfl rfl rfl rfl ty22) (qr rfl rfl (q_len_vec rfl rfl sl22) (qr rfl rfl (q_field_ptr rfl rfl fd26_1) (qr rfl rfl (q_load_ptr rfl rfl rfl rfl ty23) (qr rfl rfl (q_len_vec rfl rfl sl23) (qr rfl rfl (q_assign rfl rfl) (qr rfl rfl (q_assign rfl rfl) ?_)))))))))))))))
 refine QK.nil (SOps.sub (st' := ⟨[(1, .c (.ptr 0 0)), (3, ci (((a0_p.Parents).length : Int))), (4, ci (((a0_p.Caps).length : Int)))], [.box (bSProblem a0_p)]⟩) (sub_gen [0] rfl rfl (zall rfl rfl) ⟨bx rfl rfl rfl, trivial⟩) (SOps.nil (SCode.seq (SCode.seq ?_))))
 rcases cond_out h with ⟨g1, h⟩ | ⟨g1, h⟩
 ·refine SCode.region (sm rfl rfl (sq rfl rfl (q_gtr rfl rfl rfl) (sm rfl rfl (SOps.skip rfl 2 15 false rfl rfl (.inl (gT g1)) rfl (SOps.skip rfl 2 15 false rfl rfl (.inl (gT g1)) rfl (sq rfl rfl (q_pick_t rfl rfl g1 rfl) (sm rfl rfl (SOps.skip rfl 6 19 false rfl rfl (.inl rfl) rfl (SOps.skip rfl 6 19 false rfl rfl (.inl rfl) rfl (SOps.skip rfl 6 19 false rfl rfl (.inl rfl) rfl (SOps.skip rfl 6 19 false rfl rfl (.inl rfl) rfl (sq rfl rfl (q_pick_t rfl rfl rfl rfl) (SOps.nil (SCode.cond_t rfl rfl (SCode.seq ?_)))))))))))))))
  refine SCode.region (sa rfl rfl (SOps.nil (SCode.ret ?_)))
  obtain rfl := Option.some.inj h
  exact ⟨⟨[(2, ci 3)], []⟩, _, sub_gen [] rfl rfl (zall rfl rfl) trivial, resA1 (v := .c (.int .i64 3)) rfl rfl, rfl⟩
 rcases cond_out h with ⟨g2, h⟩ | ⟨g2, h⟩
 ·refine SCode.region (sm rfl rfl (sq rfl rfl (q_gtr rfl rfl rfl) (sm rfl rfl (SOps.q rfl (.guard 2 15 false rfl rfl (gF g1)) rfl (q_move rfl rfl) (SOps.q rfl (.guard 2 15 false rfl rfl (gF g1)) rfl (q_gtr rfl rfl rfl) (sq rfl rfl (q_pick_f rfl rfl g1 rfl) (sm rfl rfl (SOps.skip rfl 6 19 false rfl rfl (.inl (gT g2)) rfl (SOps.skip rfl 6 19 false rfl rfl (.inl (gT g2)) rfl (SOps.skip rfl 6 19 false rfl rfl (.inl (gT g2)) rfl (SOps.skip rfl 6 19 false rfl rfl (.inl (gT g2)) rfl (sq rfl rfl (q_pick_t rfl rfl g2 rfl) (SOps.nil (SCode.cond_t rfl rfl (SCode.seq ?_)))))))))))))))
  refine SCode.region (sa rfl rfl (SOps.nil (SCode.ret ?_)))
  obtain rfl := Option.some.inj h
  exact ⟨⟨[(2, ci 3)], []⟩, _, sub_gen [] rfl rfl (zall rfl rfl) trivial, resA1 (v := .c (.int .i64 3)) rfl rfl, rfl⟩
 refine SCode.region (sm rfl rfl (sq rfl rfl (q_gtr rfl rfl rfl) (sm rfl rfl (SOps.q rfl (.guard 2 15 false rfl rfl (gF g1)) rfl (q_move rfl rfl) (SOps.q rfl (.guard 2 15 false rfl rfl (gF g1)) rfl (q_gtr rfl rfl rfl) (sq rfl rfl (q_pick_f rfl rfl g1 rfl) (sm rfl rfl (SOps.q rfl (.guard 6 19 false rfl rfl (gF g2)) rfl (q_field_ptr rfl rfl fd26_4) (SOps.q rfl (.guard 6 19 false rfl rfl (gF g2)) rfl (q_load_ptr rfl rfl rfl rfl ty24) (SOps.q rfl (.guard 6 19 false rfl rfl (gF g2)) rfl (q_len_vec rfl rfl sl24) (SOps.q rfl (.guard 6 19 false rfl rfl (gF g2)) rfl (q_gtr rfl rfl rfl) (sq rfl rfl (q_pick_f rfl rfl g2 rfl) (SOps.nil ?_)))))))))))))
 rcases cond_out h with ⟨g3, h⟩ | ⟨g3, h⟩
 ·refine SCode.cond_t rfl g3 (SCode.seq (SCode.region (sa rfl rfl (SOps.nil (SCode.ret ?_)))))
  obtain rfl := Option.some.inj h
  exact ⟨⟨[(2, ci 3)], []⟩, _, sub_gen [] rfl rfl (zall rfl rfl) trivial, resA1 (v := .c (.int .i64 3)) rfl rfl, rfl⟩
 refine SCode.cond_f rfl g3 (SCode.skip (SCode.seq (SCode.seq (SCode.region (sq rfl rfl (q_field_ptr rfl rfl fd26_4) (sq rfl rfl (q_load_ptr rfl rfl rfl rfl ty24) (sq rfl rfl (q_len_vec rfl rfl sl24) (sq rfl rfl (q_add rfl rfl rfl) (sm rfl rfl (sm rfl rfl (sq rfl rfl (q_mul rfl rfl rfl) (sq rfl rfl (q_add rfl rfl rfl) (sq rfl rfl (q_gtr rfl rfl rfl) (SOps.sub (st' := ⟨[(1, .c (.ptr 0 0)), (3, ci (((a0_p.Parents).length : Int))), (4, ci (((a0_p.Caps).length : Int))), (33, .c (.bool (decide (256 < IntKind.wrap .i64 (IntKind.wrap .i64 (2 + ((a0_p.Demands).length : Int)) + IntKind.wrap .i64 (((a0_p.Caps).length : Int) * ((a0_p.Parents).length : Int)))))))], [.box (bSProblem a0_p)]⟩) (sub_gen [0] rfl rfl (zall rfl rfl) ⟨bx rfl rfl rfl, trivial⟩) (SOps.nil ?_)))))))))))))))
 rcases cond_out h with ⟨g4, h⟩ | ⟨g4, h⟩
 ·refine SCode.cond_t rfl g4 (SCode.seq (SCode.region (sa rfl rfl (SOps.nil (SCode.ret ?_)))))
  obtain rfl := Option.some.inj h
  exact ⟨⟨[(2, ci 3)], []⟩, _, sub_gen [] rfl rfl (zall rfl rfl) trivial, resA1 (v := .c (.int .i64 3)) rfl rfl, rfl⟩
 refine SCode.cond_f rfl g4 (SCode.skip (SCode.seq (SCode.seq ?_)))
 rcases cond_out h with ⟨g5, h⟩ | ⟨g5, h⟩
 ·refine SCode.region (sm rfl rfl (sq rfl rfl (q_eql rfl rfl rfl) (sm rfl rfl (SOps.skip rfl 2 36 false rfl rfl (.inl (gT g5)) rfl (SOps.skip rfl 2 36 false rfl rfl (.inl (gT g5)) rfl (SOps.skip rfl 2 36 false rfl rfl (.inl (gT g5)) rfl (sq rfl rfl (q_pick_t rfl rfl g5 rfl) (SOps.nil (SCode.cond_t rfl rfl (SCode.seq (SCode.region (sa rfl rfl (SOps.nil (SCode.ret ?_))))))))))))))
  obtain rfl := Option.some.inj h
  exact ⟨⟨[(2, ci 1)], []⟩, _, sub_gen [] rfl rfl (zall rfl rfl) trivial, resA1 (v := .c (.int .i64 1)) rfl rfl, rfl⟩
 obtain ⟨c_6, g7, h⟩ := bind_out h
 try dsimp only at h
 refine SCode.region (sm rfl rfl (sq rfl rfl (q_eql rfl rfl rfl) (sm rfl rfl (SOps.q rfl (.guard 2 36 false rfl rfl (gF g5)) rfl (q_load_ptr_all rfl rfl rfl rfl rfl ty26) (SOps.q rfl (.guard 2 36 false rfl rfl (gF g5)) rfl (q_call (plan_forest_ok F a0_p c_6 g7) [] rfl fn19 ⟨⟨rfl, rfl⟩, trivial⟩ (.inl rfl)) (SOps.q rfl (.guard 2 36 false rfl rfl (gF g5)) rfl (q_not rfl rfl) (sq rfl rfl (q_pick_f rfl rfl g5 rfl) (SOps.nil ?_))))))))
 rcases cond_out h with ⟨g8, h⟩ | ⟨g8, h⟩
 ·refine SCode.cond_t rfl g8 (SCode.seq (SCode.region (sa rfl rfl (SOps.nil (SCode.ret ?_)))))
  obtain rfl := Option.some.inj h
  exact ⟨⟨[(2, ci 1)], []⟩, _, sub_gen [] rfl rfl (zall rfl rfl) trivial, resA1 (v := .c (.int .i64 1)) rfl rfl, rfl⟩
 refine SCode.cond_f rfl g8 (SCode.skip (SCode.seq (SCode.seq ?_)))
 rcases cond_out h with ⟨g9, h⟩ | ⟨g9, h⟩
 ·refine SCode.region (sq rfl rfl (q_field_ptr rfl rfl fd26_2) (sq rfl rfl (q_load_ptr rfl rfl rfl rfl ty3) (sq rfl rfl (q_lss rfl rfl rfl) (sm rfl rfl (SOps.skip rfl 3 44 false rfl rfl (.inl (gT g9)) rfl (SOps.skip rfl 3 44 false rfl rfl (.inl (gT g9)) rfl (SOps.skip rfl 3 44 false rfl rfl (.inl (gT g9)) rfl (sq rfl rfl (q_pick_t rfl rfl g9 rfl) (sm rfl rfl (SOps.skip rfl 8 49 false rfl rfl (.inl rfl) rfl (SOps.skip rfl 8 49 false rfl rfl (.inl rfl) rfl (SOps.skip rfl 8 49 false rfl rfl (.inl rfl) rfl (sq rfl rfl (q_pick_t rfl rfl rfl rfl) (sm rfl rfl (SOps.skip rfl 13 54 false rfl rfl (.inl rfl) rfl ?_)))))))))))))))
  refine SOps.skip rfl 13 54 false rfl rfl (.inl rfl) rfl (SOps.skip rfl 13 54 false rfl rfl (.inl rfl) rfl (sq rfl rfl (q_pick_t rfl rfl rfl rfl) (SOps.sub (st' := ⟨[(1, .c (.ptr 0 0)), (3, ci (((a0_p.Parents).length : Int))), (4, ci (((a0_p.Caps).length : Int))), (58, .c (.bool true))], [.box (bSProblem a0_p)]⟩) (sub_gen [0] rfl rfl (zall rfl rfl) ⟨bx rfl rfl rfl, trivial⟩) (SOps.nil (SCode.cond_t rfl rfl (SCode.seq (SCode.region (sa rfl rfl (SOps.nil (SCode.ret ?_))))))))))
  obtain rfl := Option.some.inj h
  exact ⟨⟨[(2, ci 2)], []⟩, _, sub_gen [] rfl rfl (zall rfl rfl) trivial, resA1 (v := .c (.int .i64 2)) rfl rfl, rfl⟩
 rcases cond_out h with ⟨g10, h⟩ | ⟨g10, h⟩
 ·refine SCode.region (sq rfl rfl (q_field_ptr rfl rfl fd26_2) (sq rfl rfl (q_load_ptr rfl rfl rfl rfl ty3) (sq rfl rfl (q_lss rfl rfl rfl) (sm rfl rfl (SOps.q rfl (.guard 3 44 false rfl rfl (gF g9)) rfl (q_field_ptr rfl rfl fd26_2) (SOps.q rfl (.guard 3 44 false rfl rfl (gF g9)) rfl (q_load_ptr rfl rfl rfl rfl ty3) (SOps.q rfl (.guard 3 44 false rfl rfl (gF g9)) rfl (q_gtr rfl rfl rfl) (sq rfl rfl (q_pick_f rfl rfl g9 rfl) (sm rfl rfl (SOps.skip rfl 8 49 false rfl rfl (.inl (gT g10)) rfl (SOps.skip rfl 8 49 false rfl rfl (.inl (gT g10)) rfl (SOps.skip rfl 8 49 false rfl rfl (.inl (gT g10)) rfl (sq rfl rfl (q_pick_t rfl rfl g10 rfl) (sm rfl rfl (SOps.skip rfl 13 54 false rfl rfl (.inl rfl) rfl ?_)))))))))))))))
  refine SOps.skip rfl 13 54 false rfl rfl (.inl rfl) rfl (SOps.skip rfl 13 54 false rfl rfl (.inl rfl) rfl (sq rfl rfl (q_pick_t rfl rfl rfl rfl) (SOps.sub (st' := ⟨[(1, .c (.ptr 0 0)), (3, ci (((a0_p.Parents).length : Int))), (4, ci (((a0_p.Caps).length : Int))), (58, .c (.bool true))], [.box (bSProblem a0_p)]⟩) (sub_gen [0] rfl rfl (zall rfl rfl) ⟨bx rfl rfl rfl, trivial⟩) (SOps.nil (SCode.cond_t rfl rfl (SCode.seq (SCode.region (sa rfl rfl (SOps.nil (SCode.ret ?_))))))))))
  obtain rfl := Option.some.inj h
  exact ⟨⟨[(2, ci 2)], []⟩, _, sub_gen [] rfl rfl (zall rfl rfl) trivial, resA1 (v := .c (.int .i64 2)) rfl rfl, rfl⟩
 rcases cond_out h with ⟨g11, h⟩ | ⟨g11, h⟩
 ·refine SCode.region (sq rfl rfl (q_field_ptr rfl rfl fd26_2) (sq rfl rfl (q_load_ptr rfl rfl rfl rfl ty3) (sq rfl rfl (q_lss rfl rfl rfl) (sm rfl rfl (SOps.q rfl (.guard 3 44 false rfl rfl (gF g9)) rfl (q_field_ptr rfl rfl fd26_2) (SOps.q rfl (.guard 3 44 false rfl rfl (gF g9)) rfl (q_load_ptr rfl rfl rfl rfl ty3) (SOps.q rfl (.guard 3 44 false rfl rfl (gF g9)) rfl (q_gtr rfl rfl rfl) (sq rfl rfl (q_pick_f rfl rfl g9 rfl) (sm rfl rfl (SOps.q rfl (.guard 8 49 false rfl rfl (gF g10)) rfl (q_field_ptr rfl rfl fd26_3) (SOps.q rfl (.guard 8 49 false rfl rfl (gF g10)) rfl (q_load_ptr rfl rfl rfl rfl ty3) (SOps.q rfl (.guard 8 49 false rfl rfl (gF g10)) rfl (q_lss rfl rfl rfl) (sq rfl rfl (q_pick_f rfl rfl g10 rfl) (sm rfl rfl (SOps.skip rfl 13 54 false rfl rfl (.inl (gT g11)) rfl ?_)))))))))))))))
  refine SOps.skip rfl 13 54 false rfl rfl (.inl (gT g11)) rfl (SOps.skip rfl 13 54 false rfl rfl (.inl (gT g11)) rfl (sq rfl rfl (q_pick_t rfl rfl g11 rfl) (SOps.sub (st' := ⟨[(1, .c (.ptr 0 0)), (3, ci (((a0_p.Parents).length : Int))), (4, ci (((a0_p.Caps).length : Int))), (58, .c (.bool true))], [.box (bSProblem a0_p)]⟩) (sub_gen [0] rfl rfl (zall rfl rfl) ⟨bx rfl rfl rfl, trivial⟩) (SOps.nil (SCode.cond_t rfl rfl (SCode.seq (SCode.region (sa rfl rfl (SOps.nil (SCode.ret ?_))))))))))
  obtain rfl := Option.some.inj h
  exact ⟨⟨[(2, ci 2)], []⟩, _, sub_gen [] rfl rfl (zall rfl rfl) trivial, resA1 (v := .c (.int .i64 2)) rfl rfl, rfl⟩
 refine SCode.region (sq rfl rfl (q_field_ptr rfl rfl fd26_2) (sq rfl rfl (q_load_ptr rfl rfl rfl rfl ty3) (sq rfl rfl (q_lss rfl rfl rfl) (sm rfl rfl (SOps.q rfl (.guard 3 44 false rfl rfl (gF g9)) rfl (q_field_ptr rfl rfl fd26_2) (SOps.q rfl (.guard 3 44 false rfl rfl (gF g9)) rfl (q_load_ptr rfl rfl rfl rfl ty3) (SOps.q rfl (.guard 3 44 false rfl rfl (gF g9)) rfl (q_gtr rfl rfl rfl) (sq rfl rfl (q_pick_f rfl rfl g9 rfl) (sm rfl rfl (SOps.q rfl (.guard 8 49 false rfl rfl (gF g10)) rfl (q_field_ptr rfl rfl fd26_3) (SOps.q rfl (.guard 8 49 false rfl rfl (gF g10)) rfl (q_load_ptr rfl rfl rfl rfl ty3) (SOps.q rfl (.guard 8 49 false rfl rfl (gF g10)) rfl (q_lss rfl rfl rfl) (sq rfl rfl (q_pick_f rfl rfl g10 rfl) (sm rfl rfl (SOps.q rfl (.guard 13 54 false rfl rfl (gF g11)) rfl (q_field_ptr rfl rfl fd26_3) ?_)))))))))))))))
 refine SOps.q rfl (.guard 13 54 false rfl rfl (gF g11)) rfl (q_load_ptr rfl rfl rfl rfl ty3) (SOps.q rfl (.guard 13 54 false rfl rfl (gF g11)) rfl (q_gtr rfl rfl rfl) (sq rfl rfl (q_pick_f rfl rfl g11 rfl) (SOps.sub (st' := ⟨[(1, .c (.ptr 0 0)), (3, ci (((a0_p.Parents).length : Int))), (4, ci (((a0_p.Caps).length : Int))), (58, .c (.bool (decide (1440 < a0_p.Length))))], [.box (bSProblem a0_p)]⟩) (sub_gen [0] rfl rfl (zall rfl rfl) ⟨bx rfl rfl rfl, trivial⟩) (SOps.nil ?_))))
 rcases cond_out h with ⟨g12, h⟩ | ⟨g12, h⟩
 ·refine SCode.cond_t rfl g12 (SCode.seq (SCode.region (sa rfl rfl (SOps.nil (SCode.ret ?_)))))
  obtain rfl := Option.some.inj h
  exact ⟨⟨[(2, ci 2)], []⟩, _, sub_gen [] rfl rfl (zall rfl rfl) trivial, resA1 (v := .c (.int .i64 2)) rfl rfl, rfl⟩
 refine SCode.cond_f rfl g12 (SCode.skip (SCode.seq (SCode.seq (SCode.region (sq rfl rfl (q_field_ptr rfl rfl fd26_2) (sq rfl rfl (q_load_ptr rfl rfl rfl rfl ty3) (sm rfl rfl (sq rfl rfl (q_field_ptr rfl rfl fd26_3) (sq rfl rfl (q_load_ptr rfl rfl rfl rfl ty3) (sq rfl rfl (q_mul rfl rfl rfl) (sq rfl rfl (q_add rfl rfl rfl) (sq rfl rfl (q_gtr rfl rfl rfl) (SOps.nil ?_)))))))))))))
 rcases cond_out h with ⟨g13, h⟩ | ⟨g13, h⟩
 ·refine SCode.cond_t rfl g13 (SCode.seq (SCode.region (sa rfl rfl (SOps.nil (SCode.ret ?_)))))
  obtain rfl := Option.some.inj h
  exact ⟨⟨[(2, ci 2)], []⟩, _, sub_gen [] rfl rfl (zall rfl rfl) trivial, resA1 (v := .c (.int .i64 2)) rfl rfl, rfl⟩
 refine SCode.cond_f rfl g13 (SCode.skip ?_)
 let S3 := (⟨[], []⟩ : St)
 refine SCode.join (σ := Unit) (S := fun s => S3) (g := fun s => plan_Valid_p14 = some r) ?_ ?_
 rotate_left
 ·refine SCode.seq (SCode.region (sq rfl rfl (q_field_ptr rfl rfl fd26_4) (sq rfl rfl (q_load_ptr rfl rfl rfl rfl ty24) (sq rfl rfl (q_len_vec rfl rfl sl24) (sm rfl rfl (SOps.nil (SCode.block ?_)))))))
  let S2 := fun (t70_26 : Int) => (⟨[(3, ci (((a0_p.Parents).length : Int))), (68, .c (vSDemand a0_p.Demands)), (69, ci (((a0_p.Demands).length : Int))), (70, ci t70_26)], []⟩ : St)
  refine SCode.sub (st' := (S2 0)) (sub_gen [] rfl rfl (zall rfl rfl) trivial) ?_
  refine (SCode.loop (σ := Nat × Int) (S := fun s => (S2 s.2)) (g := fun s => plan_Valid_l38 a0_p s.1 s.2 = some r) (μ := fun s => s.1) (F, 0) h ?_)
  rintro ⟨n_38, t70_26⟩ h
  try dsimp only at h
  show SCode _ _ _ (S2 t70_26) _
  cases n_38 with
  | zero => cases h
  | succ n_38 =>
   rw [plan_Valid_l38] at h
   unfold plan_Valid_b38 at h
   refine SCode.seq (SCode.region (sq rfl rfl (q_lss rfl rfl rfl) (SOps.nil (SCode.seq ?_))))
   rcases cond_out h with ⟨g39, h⟩ | ⟨g39, h⟩
   ·refine SCode.cond_t rfl g39 (SCode.skip (SCode.seq (SCode.block (SCode.seq ?_))))
    obtain ⟨g40, h⟩ := guard_out h
    refine SCode.region (sq rfl rfl (q_index_vec rfl rfl rfl sl24 rfl g40.1 g40.2) (sq rfl rfl (q_load_eptr_all rfl rfl rfl ty28) (se rfl rfl (e_alloc rfl rfl rfl z28) (se rfl rfl (e_store_box rfl rfl rfl rfl rfl ty28 rfl rfl rfl rfl) (SOps.nil (SCode.seq (SCode.seq ?_)))))))
    rcases cond_out h with ⟨g41, h⟩ | ⟨g41, h⟩
    ·refine SCode.region (sq rfl rfl (q_field_ptr rfl rfl fd28_0) (sq rfl rfl (q_load_ptr rfl rfl rfl rfl ty3) (sq rfl rfl (q_lss rfl rfl rfl) (sm rfl rfl (SOps.skip rfl 3 77 false rfl rfl (.inl (gT g41)) rfl (SOps.skip rfl 3 77 false rfl rfl (.inl (gT g41)) rfl (SOps.skip rfl 3 77 false rfl rfl (.inl (gT g41)) rfl (SOps.skip rfl 3 77 false rfl rfl (.inl (gT g41)) rfl (sq rfl rfl (q_pick_t rfl rfl g41 rfl) (SOps.nil (SCode.cond_t rfl rfl (SCode.seq (SCode.region (sa rfl rfl (SOps.nil ?_)))))))))))))))
     refine SCode.ret ?_
     obtain rfl := Option.some.inj h
     exact ⟨⟨[(2, ci 1)], []⟩, _, sub_gen [] rfl rfl (zall rfl rfl) trivial, resA1 (v := .c (.int .i64 1)) rfl rfl, rfl⟩
    refine SCode.region (sq rfl rfl (q_field_ptr rfl rfl fd28_0) (sq rfl rfl (q_load_ptr rfl rfl rfl rfl ty3) (sq rfl rfl (q_lss rfl rfl rfl) (sm rfl rfl (SOps.q rfl (.guard 3 77 false rfl rfl (gF g41)) rfl (q_field_ptr rfl rfl fd28_0) (SOps.q rfl (.guard 3 77 false rfl rfl (gF g41)) rfl (q_load_ptr rfl rfl rfl rfl ty3) (SOps.q rfl (.guard 3 77 false rfl rfl (gF g41)) rfl (q_move rfl rfl) (SOps.q rfl (.guard 3 77 false rfl rfl (gF g41)) rfl (q_geq rfl rfl rfl) (sq rfl rfl (q_pick_f rfl rfl g41 rfl) (SOps.nil ?_))))))))))
    rcases cond_out h with ⟨g42, h⟩ | ⟨g42, h⟩
    ·refine SCode.cond_t rfl g42 (SCode.seq (SCode.region (sa rfl rfl (SOps.nil (SCode.ret ?_)))))
     obtain rfl := Option.some.inj h
     exact ⟨⟨[(2, ci 1)], []⟩, _, sub_gen [] rfl rfl (zall rfl rfl) trivial, resA1 (v := .c (.int .i64 1)) rfl rfl, rfl⟩
    refine SCode.cond_f rfl g42 (SCode.skip (SCode.seq (SCode.seq ?_)))
    rcases cond_out h with ⟨g43, h⟩ | ⟨g43, h⟩
    ·refine SCode.region (sq rfl rfl (q_field_ptr rfl rfl fd28_1) (sq rfl rfl (q_load_ptr rfl rfl rfl rfl ty3) (sq rfl rfl (q_lss rfl rfl rfl) (sm rfl rfl (SOps.skip rfl 3 86 false rfl rfl (.inl (gT g43)) rfl (SOps.skip rfl 3 86 false rfl rfl (.inl (gT g43)) rfl (SOps.skip rfl 3 86 false rfl rfl (.inl (gT g43)) rfl (sq rfl rfl (q_pick_t rfl rfl g43 rfl) (sm rfl rfl (SOps.skip rfl 8 91 false rfl rfl (.inl rfl) rfl (SOps.skip rfl 8 91 false rfl rfl (.inl rfl) rfl (SOps.skip rfl 8 91 false rfl rfl (.inl rfl) rfl (sq rfl rfl (q_pick_t rfl rfl rfl rfl) (sm rfl rfl (SOps.skip rfl 13 96 false rfl rfl (.inl rfl) rfl ?_)))))))))))))))
     refine SOps.skip rfl 13 96 false rfl rfl (.inl rfl) rfl (SOps.skip rfl 13 96 false rfl rfl (.inl rfl) rfl (sq rfl rfl (q_pick_t rfl rfl rfl rfl) (SOps.sub (st' := ⟨[(3, ci (((a0_p.Parents).length : Int))), (6, .c (.ptr 0 0)), (68, .c (vSDemand a0_p.Demands)), (69, ci (((a0_p.Demands).length : Int))), (70, ci t70_26), (100, .c (.bool true))], [.box (bSDemand (a0_p.Demands.getD t70_26.toNat dSDemand))]⟩) (sub_gen [0] rfl rfl (zall rfl rfl) ⟨bx rfl rfl rfl, trivial⟩) (SOps.nil (SCode.cond_t rfl rfl (SCode.seq (SCode.region (sa rfl rfl (SOps.nil (SCode.ret ?_))))))))))
     obtain rfl := Option.some.inj h
     exact ⟨⟨[(2, ci 2)], []⟩, _, sub_gen [] rfl rfl (zall rfl rfl) trivial, resA1 (v := .c (.int .i64 2)) rfl rfl, rfl⟩
    rcases cond_out h with ⟨g44, h⟩ | ⟨g44, h⟩
    ·refine SCode.region (sq rfl rfl (q_field_ptr rfl rfl fd28_1) (sq rfl rfl (q_load_ptr rfl rfl rfl rfl ty3) (sq rfl rfl (q_lss rfl rfl rfl) (sm rfl rfl (SOps.q rfl (.guard 3 86 false rfl rfl (gF g43)) rfl (q_field_ptr rfl rfl fd28_1) (SOps.q rfl (.guard 3 86 false rfl rfl (gF g43)) rfl (q_load_ptr rfl rfl rfl rfl ty3) (SOps.q rfl (.guard 3 86 false rfl rfl (gF g43)) rfl (q_gtr rfl rfl rfl) (sq rfl rfl (q_pick_f rfl rfl g43 rfl) (sm rfl rfl (SOps.skip rfl 8 91 false rfl rfl (.inl (gT g44)) rfl (SOps.skip rfl 8 91 false rfl rfl (.inl (gT g44)) rfl (SOps.skip rfl 8 91 false rfl rfl (.inl (gT g44)) rfl (sq rfl rfl (q_pick_t rfl rfl g44 rfl) (sm rfl rfl (SOps.skip rfl 13 96 false rfl rfl (.inl rfl) rfl ?_)))))))))))))))
     refine SOps.skip rfl 13 96 false rfl rfl (.inl rfl) rfl (SOps.skip rfl 13 96 false rfl rfl (.inl rfl) rfl (sq rfl rfl (q_pick_t rfl rfl rfl rfl) (SOps.sub (st' := ⟨[(3, ci (((a0_p.Parents).length : Int))), (6, .c (.ptr 0 0)), (68, .c (vSDemand a0_p.Demands)), (69, ci (((a0_p.Demands).length : Int))), (70, ci t70_26), (100, .c (.bool true))], [.box (bSDemand (a0_p.Demands.getD t70_26.toNat dSDemand))]⟩) (sub_gen [0] rfl rfl (zall rfl rfl) ⟨bx rfl rfl rfl, trivial⟩) (SOps.nil (SCode.cond_t rfl rfl (SCode.seq (SCode.region (sa rfl rfl (SOps.nil (SCode.ret ?_))))))))))
     obtain rfl := Option.some.inj h
     exact ⟨⟨[(2, ci 2)], []⟩, _, sub_gen [] rfl rfl (zall rfl rfl) trivial, resA1 (v := .c (.int .i64 2)) rfl rfl, rfl⟩
    rcases cond_out h with ⟨g45, h⟩ | ⟨g45, h⟩
    ·refine SCode.region (sq rfl rfl (q_field_ptr rfl rfl fd28_1) (sq rfl rfl (q_load_ptr rfl rfl rfl rfl ty3) (sq rfl rfl (q_lss rfl rfl rfl) (sm rfl rfl (SOps.q rfl (.guard 3 86 false rfl rfl (gF g43)) rfl (q_field_ptr rfl rfl fd28_1) (SOps.q rfl (.guard 3 86 false rfl rfl (gF g43)) rfl (q_load_ptr rfl rfl rfl rfl ty3) (SOps.q rfl (.guard 3 86 false rfl rfl (gF g43)) rfl (q_gtr rfl rfl rfl) (sq rfl rfl (q_pick_f rfl rfl g43 rfl) (sm rfl rfl (SOps.q rfl (.guard 8 91 false rfl rfl (gF g44)) rfl (q_field_ptr rfl rfl fd28_2) (SOps.q rfl (.guard 8 91 false rfl rfl (gF g44)) rfl (q_load_ptr rfl rfl rfl rfl ty3) (SOps.q rfl (.guard 8 91 false rfl rfl (gF g44)) rfl (q_lss rfl rfl rfl) (sq rfl rfl (q_pick_f rfl rfl g44 rfl) (sm rfl rfl (SOps.skip rfl 13 96 false rfl rfl (.inl (gT g45)) rfl ?_)))))))))))))))
     refine SOps.skip rfl 13 96 false rfl rfl (.inl (gT g45)) rfl (SOps.skip rfl 13 96 false rfl rfl (.inl (gT g45)) rfl (sq rfl rfl (q_pick_t rfl rfl g45 rfl) (SOps.sub (st' := ⟨[(3, ci (((a0_p.Parents).length : Int))), (6, .c (.ptr 0 0)), (68, .c (vSDemand a0_p.Demands)), (69, ci (((a0_p.Demands).length : Int))), (70, ci t70_26), (100, .c (.bool true))], [.box (bSDemand (a0_p.Demands.getD t70_26.toNat dSDemand))]⟩) (sub_gen [0] rfl rfl (zall rfl rfl) ⟨bx rfl rfl rfl, trivial⟩) (SOps.nil (SCode.cond_t rfl rfl (SCode.seq (SCode.region (sa rfl rfl (SOps.nil (SCode.ret ?_))))))))))
     obtain rfl := Option.some.inj h
     exact ⟨⟨[(2, ci 2)], []⟩, _, sub_gen [] rfl rfl (zall rfl rfl) trivial, resA1 (v := .c (.int .i64 2)) rfl rfl, rfl⟩
    refine SCode.region (sq rfl rfl (q_field_ptr rfl rfl fd28_1) (sq rfl rfl (q_load_ptr rfl rfl rfl rfl ty3) (sq rfl rfl (q_lss rfl rfl rfl) (sm rfl rfl (SOps.q rfl (.guard 3 86 false rfl rfl (gF g43)) rfl (q_field_ptr rfl rfl fd28_1) (SOps.q rfl (.guard 3 86 false rfl rfl (gF g43)) rfl (q_load_ptr rfl rfl rfl rfl ty3) (SOps.q rfl (.guard 3 86 false rfl rfl (gF g43)) rfl (q_gtr rfl rfl rfl) (sq rfl rfl (q_pick_f rfl rfl g43 rfl) (sm rfl rfl (SOps.q rfl (.guard 8 91 false rfl rfl (gF g44)) rfl (q_field_ptr rfl rfl fd28_2) (SOps.q rfl (.guard 8 91 false rfl rfl (gF g44)) rfl (q_load_ptr rfl rfl rfl rfl ty3) (SOps.q rfl (.guard 8 91 false rfl rfl (gF g44)) rfl (q_lss rfl rfl rfl) (sq rfl rfl (q_pick_f rfl rfl g44 rfl) (sm rfl rfl (SOps.q rfl (.guard 13 96 false rfl rfl (gF g45)) rfl (q_field_ptr rfl rfl fd28_2) ?_)))))))))))))))
    refine SOps.q rfl (.guard 13 96 false rfl rfl (gF g45)) rfl (q_load_ptr rfl rfl rfl rfl ty3) (SOps.q rfl (.guard 13 96 false rfl rfl (gF g45)) rfl (q_gtr rfl rfl rfl) (sq rfl rfl (q_pick_f rfl rfl g45 rfl) (SOps.sub (st' := ⟨[(3, ci (((a0_p.Parents).length : Int))), (6, .c (.ptr 0 0)), (68, .c (vSDemand a0_p.Demands)), (69, ci (((a0_p.Demands).length : Int))), (70, ci t70_26), (100, .c (.bool (decide (1099511627776 < (a0_p.Demands.getD t70_26.toNat dSDemand).Energy))))], [.box (bSDemand (a0_p.Demands.getD t70_26.toNat dSDemand))]⟩) (sub_gen [0] rfl rfl (zall rfl rfl) ⟨bx rfl rfl rfl, trivial⟩) (SOps.nil ?_))))
    rcases cond_out h with ⟨g46, h⟩ | ⟨g46, h⟩
    ·refine SCode.cond_t rfl g46 (SCode.seq (SCode.region (sa rfl rfl (SOps.nil (SCode.ret ?_)))))
     obtain rfl := Option.some.inj h
     exact ⟨⟨[(2, ci 2)], []⟩, _, sub_gen [] rfl rfl (zall rfl rfl) trivial, resA1 (v := .c (.int .i64 2)) rfl rfl, rfl⟩
    refine SCode.cond_f rfl g46 (SCode.skip (SCode.seq ?_))
    rcases cond_out h with ⟨g47, h⟩ | ⟨g47, h⟩
    ·refine SCode.region (sq rfl rfl (q_field_ptr rfl rfl fd28_3) (sq rfl rfl (q_load_ptr rfl rfl rfl rfl ty3) (sq rfl rfl (q_lss rfl rfl rfl) (sm rfl rfl (SOps.skip rfl 3 104 false rfl rfl (.inl (gT g47)) rfl (SOps.skip rfl 3 104 false rfl rfl (.inl (gT g47)) rfl (SOps.skip rfl 3 104 false rfl rfl (.inl (gT g47)) rfl (SOps.skip rfl 3 104 false rfl rfl (.inl (gT g47)) rfl (SOps.skip rfl 3 104 false rfl rfl (.inl (gT g47)) rfl (sq rfl rfl (q_pick_t rfl rfl g47 rfl) (sm rfl rfl (SOps.skip rfl 10 111 false rfl rfl (.inl rfl) rfl (SOps.skip rfl 10 111 false rfl rfl (.inl rfl) rfl (SOps.skip rfl 10 111 false rfl rfl (.inl rfl) rfl (sq rfl rfl (q_pick_t rfl rfl rfl rfl) ?_)))))))))))))))
     refine SOps.nil (SCode.cond_t rfl rfl (SCode.seq (SCode.region (sa rfl rfl (SOps.nil (SCode.ret ?_))))))
     obtain rfl := Option.some.inj h
     exact ⟨⟨[(2, ci 2)], []⟩, _, sub_gen [] rfl rfl (zall rfl rfl) trivial, resA1 (v := .c (.int .i64 2)) rfl rfl, rfl⟩
    rcases cond_out h with ⟨g48, h⟩ | ⟨g48, h⟩
    ·refine SCode.region (sq rfl rfl (q_field_ptr rfl rfl fd28_3) (sq rfl rfl (q_load_ptr rfl rfl rfl rfl ty3) (sq rfl rfl (q_lss rfl rfl rfl) (sm rfl rfl (SOps.q rfl (.guard 3 104 false rfl rfl (gF g47)) rfl (q_field_ptr rfl rfl fd28_4) (SOps.q rfl (.guard 3 104 false rfl rfl (gF g47)) rfl (q_load_ptr rfl rfl rfl rfl ty3) (SOps.q rfl (.guard 3 104 false rfl rfl (gF g47)) rfl (q_field_ptr rfl rfl fd28_3) (SOps.q rfl (.guard 3 104 false rfl rfl (gF g47)) rfl (q_load_ptr rfl rfl rfl rfl ty3) (SOps.q rfl (.guard 3 104 false rfl rfl (gF g47)) rfl (q_lss rfl rfl rfl) (sq rfl rfl (q_pick_f rfl rfl g47 rfl) (sm rfl rfl (SOps.skip rfl 10 111 false rfl rfl (.inl (gT g48)) rfl (SOps.skip rfl 10 111 false rfl rfl (.inl (gT g48)) rfl (SOps.skip rfl 10 111 false rfl rfl (.inl (gT g48)) rfl (sq rfl rfl (q_pick_t rfl rfl g48 rfl) ?_)))))))))))))))
     refine SOps.nil (SCode.cond_t rfl rfl (SCode.seq (SCode.region (sa rfl rfl (SOps.nil (SCode.ret ?_))))))
     obtain rfl := Option.some.inj h
     exact ⟨⟨[(2, ci 2)], []⟩, _, sub_gen [] rfl rfl (zall rfl rfl) trivial, resA1 (v := .c (.int .i64 2)) rfl rfl, rfl⟩
    refine SCode.region (sq rfl rfl (q_field_ptr rfl rfl fd28_3) (sq rfl rfl (q_load_ptr rfl rfl rfl rfl ty3) (sq rfl rfl (q_lss rfl rfl rfl) (sm rfl rfl (SOps.q rfl (.guard 3 104 false rfl rfl (gF g47)) rfl (q_field_ptr rfl rfl fd28_4) (SOps.q rfl (.guard 3 104 false rfl rfl (gF g47)) rfl (q_load_ptr rfl rfl rfl rfl ty3) (SOps.q rfl (.guard 3 104 false rfl rfl (gF g47)) rfl (q_field_ptr rfl rfl fd28_3) (SOps.q rfl (.guard 3 104 false rfl rfl (gF g47)) rfl (q_load_ptr rfl rfl rfl rfl ty3) (SOps.q rfl (.guard 3 104 false rfl rfl (gF g47)) rfl (q_lss rfl rfl rfl) (sq rfl rfl (q_pick_f rfl rfl g47 rfl) (sm rfl rfl (SOps.q rfl (.guard 10 111 false rfl rfl (gF g48)) rfl (q_field_ptr rfl rfl fd28_4) (SOps.q rfl (.guard 10 111 false rfl rfl (gF g48)) rfl (q_load_ptr rfl rfl rfl rfl ty3) (SOps.q rfl (.guard 10 111 false rfl rfl (gF g48)) rfl (q_gtr rfl rfl rfl) (sq rfl rfl (q_pick_f rfl rfl g48 rfl) ?_)))))))))))))))
    refine SOps.nil ?_
    rcases cond_out h with ⟨g49, h⟩ | ⟨g49, h⟩
    ·refine SCode.cond_t rfl g49 (SCode.seq (SCode.region (sa rfl rfl (SOps.nil (SCode.ret ?_)))))
     obtain rfl := Option.some.inj h
     exact ⟨⟨[(2, ci 2)], []⟩, _, sub_gen [] rfl rfl (zall rfl rfl) trivial, resA1 (v := .c (.int .i64 2)) rfl rfl, rfl⟩
    refine SCode.cond_f rfl g49 (SCode.skip (SCode.region (sq rfl rfl (q_add rfl rfl rfl) (sm rfl rfl (SOps.nil ?_)))))
    exact ⟨(n_38, IntKind.wrap .i64 (t70_26 + 1)), h, Nat.lt_succ_self n_38, sub_gen [] rfl rfl (zall rfl rfl) trivial⟩
   refine SCode.cond_f rfl g39 (SCode.exit ?_)
   exact ⟨(), h, sub_gen [] rfl rfl trivial trivial⟩
 rintro ⟨⟩ h
 show SCode _ _ _ S3 _
 try dsimp only at h
 unfold plan_Valid_p14 at h
 refine SCode.seq (SCode.region (sa rfl rfl (SOps.nil (SCode.ret ?_))))
 obtain rfl := Option.some.inj h
 exact ⟨⟨[(2, ci 0)], []⟩, _, sub_gen [] rfl rfl (zall rfl rfl) trivial, resA1 (v := .c (.int .i64 0)) rfl rfl, rfl⟩
theorem plan_usable_ok (F : Nat) (a0_p : SProblem) (a1_d : SDemand) (a2_slot : Int) (r : Bool) (h : plan_usable F a0_p a1_d a2_slot = some r) :
  SFun Try.prog 18 [] [.a (bSProblem a0_p), .a (bSDemand a1_d), ci a2_slot] (fun x _ => x = .c (.bool r)) := by
 refine SFun.of (n := 28) Try.func18 rfl rfl rfl ?_
 unfold plan_usable at h
 show SCode _ _ _ ⟨[(0, .a (bSProblem a0_p)), (1, .a (bSDemand a1_d)), (2, ci a2_slot)], []⟩ _
 refine SCode.seq (SCode.region (se rfl rfl (e_box rfl rfl rfl rfl rfl rfl) (se rfl rfl (e_box rfl rfl rfl rfl rfl rfl) (sa rfl rfl (SOps.nil (SCode.seq (SCode.region (sq rfl rfl (q_field_ptr rfl rfl fd26_2) (sq rfl rfl (q_load_ptr rfl rfl rfl rfl ty3) (sm rfl rfl (sq rfl rfl (q_field_ptr rfl rfl fd26_3) (sq rfl rfl (q_load_ptr rfl rfl rfl rfl ty3) (sq rfl rfl (q_mul rfl rfl rfl) (sq rfl rfl (q_add rfl rfl rfl) (sa rfl rfl ?_)))))))))))))))
 refine SOps.nil (SCode.seq ?_)
 rcases cond_out h with ⟨g1, h⟩ | ⟨g1, h⟩
 ·refine SCode.region (sq rfl rfl (q_field_ptr rfl rfl fd28_3) (sq rfl rfl (q_load_ptr rfl rfl rfl rfl ty3) (sm rfl rfl (sq rfl rfl (q_leq rfl rfl rfl) (sm rfl rfl (SOps.q rfl (.guard 4 19 true rfl rfl (gT g1)) rfl (q_move rfl rfl) (SOps.q rfl (.guard 4 19 true rfl rfl (gT g1)) rfl (q_field_ptr rfl rfl fd26_3) (SOps.q rfl (.guard 4 19 true rfl rfl (gT g1)) rfl (q_load_ptr rfl rfl rfl rfl ty3) (SOps.q rfl (.guard 4 19 true rfl rfl (gT g1)) rfl (q_add rfl rfl rfl) (SOps.q rfl (.guard 4 19 true rfl rfl (gT g1)) rfl (q_field_ptr rfl rfl fd28_4) (SOps.q rfl (.guard 4 19 true rfl rfl (gT g1)) rfl (q_load_ptr rfl rfl rfl rfl ty3) (SOps.q rfl (.guard 4 19 true rfl rfl (gT g1)) rfl (q_leq rfl rfl rfl) (sq rfl rfl (q_pick_t rfl rfl g1 rfl) (sa rfl rfl (SOps.sub (st' := ⟨[(6, .c (.bool (decide (IntKind.wrap .i64 (IntKind.wrap .i64 (a0_p.From + IntKind.wrap .i64 (a2_slot * a0_p.Length)) + a0_p.Length) ≤ a1_d.Depart))))], []⟩) (sub_gen [] rfl rfl (zall rfl rfl) trivial) ?_)))))))))))))))
  refine SOps.nil (SCode.ret ?_)
  obtain rfl := Option.some.inj h
  exact ⟨⟨[(6, .c (.bool (decide (IntKind.wrap .i64 (IntKind.wrap .i64 (a0_p.From + IntKind.wrap .i64 (a2_slot * a0_p.Length)) + a0_p.Length) ≤ a1_d.Depart))))], []⟩, _, sub_gen [] rfl rfl (zall rfl rfl) trivial, resA1 (v := .c (.bool (decide (IntKind.wrap .i64 (IntKind.wrap .i64 (a0_p.From + IntKind.wrap .i64 (a2_slot * a0_p.Length)) + a0_p.Length) ≤ a1_d.Depart)))) rfl rfl, rfl⟩
 refine SCode.region (sq rfl rfl (q_field_ptr rfl rfl fd28_3) (sq rfl rfl (q_load_ptr rfl rfl rfl rfl ty3) (sm rfl rfl (sq rfl rfl (q_leq rfl rfl rfl) (sm rfl rfl (SOps.skip rfl 4 19 true rfl rfl (.inl (gF g1)) rfl (SOps.skip rfl 4 19 true rfl rfl (.inl (gF g1)) rfl (SOps.skip rfl 4 19 true rfl rfl (.inl (gF g1)) rfl (SOps.skip rfl 4 19 true rfl rfl (.inl (gF g1)) rfl (SOps.skip rfl 4 19 true rfl rfl (.inl (gF g1)) rfl (SOps.skip rfl 4 19 true rfl rfl (.inl (gF g1)) rfl (SOps.skip rfl 4 19 true rfl rfl (.inl (gF g1)) rfl (sq rfl rfl (q_pick_f rfl rfl g1 rfl) (sa rfl rfl (SOps.sub (st' := ⟨[(6, .c (.bool false))], []⟩) (sub_gen [] rfl rfl (zall rfl rfl) trivial) ?_)))))))))))))))
 refine SOps.nil (SCode.ret ?_)
 obtain rfl := Option.some.inj h
 exact ⟨⟨[(6, .c (.bool false))], []⟩, _, sub_gen [] rfl rfl (zall rfl rfl) trivial, resA1 (v := .c (.bool false)) rfl rfl, rfl⟩
theorem plan_network_own_ok (F : Nat) (a0_p : SProblem) (r : SNet) (h : plan_network_own F a0_p = some r) :
  SFun Try.prog 9 [] [.a (bSProblem a0_p)] (fun x os => x = .a [.int .i64 r.Nodes, .own 0 r.Arcs.length] ∧ os = [aSArc 54 r.Arcs, .box [.int .i64 r.Nodes, .own 0 r.Arcs.length]]) := by
 refine SFun.of (n := 136) Try.func9 rfl rfl rfl ?_
 unfold plan_network_own at h
 show SCode _ _ _ ⟨[(0, .a (bSProblem a0_p))], []⟩ _
 refine SCode.seq (SCode.region (se rfl rfl (e_box rfl rfl rfl rfl rfl rfl) (se rfl rfl (e_alloc rfl rfl rfl z40) (SOps.sub (st' := ⟨[(1, .c (.ptr 0 0)), (2, .c (.ptr 1 0))], [.box (bSProblem a0_p), .box [.int .i64 0, .own 2 (([] : List SArc)).length], aSArc 54 (([] : List SArc))]⟩) (Sub.trans (Sub.nilBox (id := 1) (j := 1) (T := 54) (k := 3) (g := gL cSArc dSArc ([] : List SArc)) rfl rfl) (sub_gen [0, 1, 2] rfl rfl (zall rfl rfl) ⟨bx rfl rfl rfl, bx rfl rfl rfl, oa rfl, trivial⟩)) (SOps.nil (SCode.seq (SCode.drawK mixed [[], [0], [0, 1], [], [3], [3, 4], [3, 4, 5], [0, 1, 2], [0, 1, 2, 3, 4, 5, 6, 7]] 9 0 rfl rfl (qr rfl rfl (q_field_ptr rfl rfl fd26_0) (qr rfl rfl (q_load_ptr rfl rfl rfl rfl ty22) (qr rfl rfl (q_len_vec rfl rfl sl22) (qr rfl rfl (q_field_ptr rfl rfl fd26_4) (qr rfl rfl (q_load_ptr rfl rfl rfl rfl ty24) (qr rfl rfl (q_len_vec rfl rfl sl24) (qr rfl rfl (q_add rfl rfl rfl) (qr rfl rfl (q_assign rfl rfl) ?_)))))))))))))))
 refine qr rfl rfl (q_assign rfl rfl) (QK.nil (SOps.sub (st' := ⟨[(1, .c (.ptr 0 0)), (2, .c (.ptr 1 0)), (3, ci (((a0_p.Parents).length : Int))), (4, ci (IntKind.wrap .i64 (2 + ((a0_p.Demands).length : Int))))], [.box (bSProblem a0_p), .box [.int .i64 0, .own 2 (([] : List SArc)).length], aSArc 54 (([] : List SArc))]⟩) (sub_gen [0, 1, 2] rfl rfl (zall rfl rfl) ⟨bx rfl rfl rfl, bx rfl rfl rfl, oa rfl, trivial⟩) (SOps.nil (SCode.seq (SCode.region (sm rfl rfl (sq rfl rfl (q_field_ptr rfl rfl fd26_1) (sq rfl rfl (q_load_ptr rfl rfl rfl rfl ty23) (sq rfl rfl (q_len_vec rfl rfl sl23) (sm rfl rfl (sq rfl rfl (q_mul rfl rfl rfl) (sq rfl rfl (q_add rfl rfl rfl) (sq rfl rfl (q_build2 rfl rfl pl40 rfl) (se rfl rfl (e_alloc rfl rfl rfl z40) (se rfl rfl (e_store_box rfl rfl rfl rfl rfl ty40 rfl rfl rfl rfl) ?_)))))))))))))))
 refine SOps.sub (st' := ⟨[(1, .c (.ptr 0 0)), (2, .c (.ptr 1 0)), (3, ci (((a0_p.Parents).length : Int))), (4, ci (IntKind.wrap .i64 (2 + ((a0_p.Demands).length : Int)))), (5, .c (.ptr 3 0))], [.box (bSProblem a0_p), .box [.int .i64 0, .own 2 (([] : List SArc)).length], aSArc 54 (([] : List SArc)), .box [.int .i64 (IntKind.wrap .i64 (IntKind.wrap .i64 (2 + ((a0_p.Demands).length : Int)) + IntKind.wrap .i64 (((a0_p.Caps).length : Int) * ((a0_p.Parents).length : Int)))), .own 4 (([] : List SArc)).length], aSArc 54 (([] : List SArc))]⟩) (Sub.trans (Sub.nilBox (id := 3) (j := 1) (T := 54) (k := 3) (g := gL cSArc dSArc ([] : List SArc)) rfl rfl) (sub_gen [0, 1, 2, 3, 4] rfl rfl (zall rfl rfl) ⟨bx rfl rfl rfl, bx rfl rfl rfl, oa rfl, bx rfl rfl rfl, oa rfl, trivial⟩)) (SOps.nil ?_)
 let S153 := fun (o4_1 : List SArc) => (⟨[(1, .c (.ptr 0 0)), (2, .c (.ptr 1 0)), (3, ci (((a0_p.Parents).length : Int))), (4, ci (IntKind.wrap .i64 (2 + ((a0_p.Demands).length : Int)))), (5, .c (.ptr 3 0))], [.box (bSProblem a0_p), .box [.int .i64 0, .own 2 (([] : List SArc)).length], aSArc 54 (([] : List SArc)), .box [.int .i64 (IntKind.wrap .i64 (IntKind.wrap .i64 (2 + ((a0_p.Demands).length : Int)) + IntKind.wrap .i64 (((a0_p.Caps).length : Int) * ((a0_p.Parents).length : Int)))), .own 4 o4_1.length], aSArc 54 o4_1]⟩ : St)
 refine SCode.join (σ := (List SArc)) (S := fun s => (S153 s)) (g := fun s => plan_network_own_p180 F a0_p s = some r) ?_ ?_
 rotate_left
 ·refine SCode.seq (SCode.region (sq rfl rfl (q_field_ptr rfl rfl fd26_4) (sq rfl rfl (q_load_ptr rfl rfl rfl rfl ty24) (sq rfl rfl (q_len_vec rfl rfl sl24) (sm rfl rfl (SOps.nil (SCode.block ?_)))))))
  let S152 := fun (t35_183 : Int) => fun (o4_184 : List SArc) => (⟨[(1, .c (.ptr 0 0)), (2, .c (.ptr 1 0)), (3, ci (((a0_p.Parents).length : Int))), (4, ci (IntKind.wrap .i64 (2 + ((a0_p.Demands).length : Int)))), (5, .c (.ptr 3 0)), (34, ci (((a0_p.Demands).length : Int))), (35, ci t35_183)], [.box (bSProblem a0_p), .box [.int .i64 0, .own 2 (([] : List SArc)).length], aSArc 54 (([] : List SArc)), .box [.int .i64 (IntKind.wrap .i64 (IntKind.wrap .i64 (2 + ((a0_p.Demands).length : Int)) + IntKind.wrap .i64 (((a0_p.Caps).length : Int) * ((a0_p.Parents).length : Int)))), .own 4 o4_184.length], aSArc 54 o4_184]⟩ : St)
  refine SCode.sub (st' := (S152 0 (([] : List SArc)))) (sub_gen [0, 1, 2, 3, 4] rfl rfl (zall rfl rfl) ⟨bx rfl rfl rfl, bx rfl rfl rfl, oa rfl, bx rfl rfl rfl, oa rfl, trivial⟩) ?_
  refine (SCode.loop (σ := Nat × (Int × (List SArc))) (S := fun s => (S152 s.2.1 s.2.2)) (g := fun s => plan_network_own_l187 F a0_p s.1 s.2.1 s.2.2 = some r) (μ := fun s => s.1) (F, (0, ([] : List SArc))) h ?_)
  rintro ⟨n_187, ⟨t35_183, o4_184⟩⟩ h
  try dsimp only at h
  show SCode _ _ _ (S152 t35_183 o4_184) _
  cases n_187 with
  | zero => cases h
  | succ n_187 =>
   rw [plan_network_own_l187] at h
   unfold plan_network_own_b187 at h
   refine SCode.seq (SCode.region (sq rfl rfl (q_lss rfl rfl rfl) (SOps.nil (SCode.seq ?_))))
   rcases cond_out h with ⟨g188, h⟩ | ⟨g188, h⟩
   ·refine SCode.cond_t rfl g188 (SCode.skip (SCode.seq (SCode.block (SCode.seq (SCode.region (sm rfl rfl (sa rfl rfl (SOps.nil ?_))))))))
    obtain ⟨g189, h⟩ := guard_out h
    refine SCode.region (sq rfl rfl (q_field_ptr rfl rfl fd40_1) (sq rfl rfl (q_load_ptr rfl rfl rfl rfl ty38) (sm rfl rfl (sq rfl rfl (q_add rfl rfl rfl) (sq rfl rfl (q_build2 rfl rfl pl54 rfl) (sq rfl rfl (q_bsliceL (c := cSArc) (d0 := dSArc) [SArc.mk 0 (IntKind.wrap .i64 (2 + t35_183)) 0] rfl rfl sl38 z54 rfl rfl rfl rfl rfl rfl rfl) (se rfl rfl (e_appendL (c := cSArc) (d0 := dSArc) (l := o4_184) (l2 := [SArc.mk 0 (IntKind.wrap .i64 (2 + t35_183)) 0]) rfl rfl rfl rfl rfl rfl (.inl rfl) sl38 z54 rfl rfl oneSArc g189.1 g189.2) (sq rfl rfl (q_field_ptr rfl rfl fd40_1) (se rfl rfl (e_store_box rfl rfl rfl rfl rfl ty38 rfl rfl rfl rfl) (SOps.sub (st' := ⟨[(1, .c (.ptr 0 0)), (2, .c (.ptr 1 0)), (3, ci (((a0_p.Parents).length : Int))), (4, ci (IntKind.wrap .i64 (2 + ((a0_p.Demands).length : Int)))), (5, .c (.ptr 3 0)), (34, ci (((a0_p.Demands).length : Int))), (35, ci t35_183)], [.box (bSProblem a0_p), .box [.int .i64 0, .own 2 (([] : List SArc)).length], aSArc 54 (([] : List SArc)), .box [.int .i64 (IntKind.wrap .i64 (IntKind.wrap .i64 (2 + ((a0_p.Demands).length : Int)) + IntKind.wrap .i64 (((a0_p.Caps).length : Int) * ((a0_p.Parents).length : Int)))), .own 4 (o4_184 ++ ([SArc.mk 0 (IntKind.wrap .i64 (2 + t35_183)) 0])).length], aSArc 54 (o4_184 ++ ([SArc.mk 0 (IntKind.wrap .i64 (2 + t35_183)) 0]))]⟩) (sub_gen [0, 1, 2, 3, 5] rfl rfl (zall rfl rfl) ⟨bx rfl rfl rfl, bx rfl rfl rfl, oa rfl, bx rfl rfl rfl, oa rfl, trivial⟩) (SOps.nil (SCode.region (sq rfl rfl (q_add rfl rfl rfl) (sm rfl rfl (SOps.nil ?_)))))))))))))))
    exact ⟨(n_187, (IntKind.wrap .i64 (t35_183 + 1), o4_184 ++ ([SArc.mk 0 (IntKind.wrap .i64 (2 + t35_183)) 0]))), h, Nat.lt_succ_self n_187, sub_gen [0, 1, 2, 3, 4] rfl rfl (zall rfl rfl) ⟨bx rfl rfl rfl, bx rfl rfl rfl, oa rfl, bx rfl rfl rfl, oa rfl, trivial⟩⟩
   refine SCode.cond_f rfl g188 (SCode.exit ?_)
   exact ⟨o4_184, h, sub_gen [0, 1, 2, 3, 4] rfl rfl (zall rfl rfl) ⟨bx rfl rfl rfl, bx rfl rfl rfl, oa rfl, bx rfl rfl rfl, oa rfl, trivial⟩⟩
 rintro o4_1 h
 show SCode _ _ _ (S153 o4_1) _
 try dsimp only at h
 unfold plan_network_own_p180 at h
 let S151 := fun (o4_2 : List SArc) => (⟨[(1, .c (.ptr 0 0)), (2, .c (.ptr 1 0)), (3, ci (((a0_p.Parents).length : Int))), (4, ci (IntKind.wrap .i64 (2 + ((a0_p.Demands).length : Int)))), (5, .c (.ptr 3 0))], [.box (bSProblem a0_p), .box [.int .i64 0, .own 2 (([] : List SArc)).length], aSArc 54 (([] : List SArc)), .box [.int .i64 (IntKind.wrap .i64 (IntKind.wrap .i64 (2 + ((a0_p.Demands).length : Int)) + IntKind.wrap .i64 (((a0_p.Caps).length : Int) * ((a0_p.Parents).length : Int)))), .own 4 o4_2.length], aSArc 54 o4_2]⟩ : St)
 refine SCode.join (σ := (List SArc)) (S := fun s => (S151 s)) (g := fun s => plan_network_own_p92 F a0_p s = some r) ?_ ?_
 rotate_left
 ·refine SCode.seq (SCode.region (sq rfl rfl (q_field_ptr rfl rfl fd26_4) (sq rfl rfl (q_load_ptr rfl rfl rfl rfl ty24) (sq rfl rfl (q_len_vec rfl rfl sl24) (sm rfl rfl (SOps.nil (SCode.block ?_)))))))
  let S150 := fun (t50_121 : Int) => fun (o4_122 : List SArc) => (⟨[(1, .c (.ptr 0 0)), (2, .c (.ptr 1 0)), (3, ci (((a0_p.Parents).length : Int))), (4, ci (IntKind.wrap .i64 (2 + ((a0_p.Demands).length : Int)))), (5, .c (.ptr 3 0)), (48, .c (vSDemand a0_p.Demands)), (49, ci (((a0_p.Demands).length : Int))), (50, ci t50_121)], [.box (bSProblem a0_p), .box [.int .i64 0, .own 2 (([] : List SArc)).length], aSArc 54 (([] : List SArc)), .box [.int .i64 (IntKind.wrap .i64 (IntKind.wrap .i64 (2 + ((a0_p.Demands).length : Int)) + IntKind.wrap .i64 (((a0_p.Caps).length : Int) * ((a0_p.Parents).length : Int)))), .own 4 o4_122.length], aSArc 54 o4_122]⟩ : St)
  refine SCode.sub (st' := (S150 0 o4_1)) (sub_gen [0, 1, 2, 3, 4] rfl rfl (zall rfl rfl) ⟨bx rfl rfl rfl, bx rfl rfl rfl, oa rfl, bx rfl rfl rfl, oa rfl, trivial⟩) ?_
  refine (SCode.loop (σ := Nat × (Int × (List SArc))) (S := fun s => (S150 s.2.1 s.2.2)) (g := fun s => plan_network_own_l151 F a0_p s.1 s.2.1 s.2.2 = some r) (μ := fun s => s.1) (F, (0, o4_1)) h ?_)
  rintro ⟨n_151, ⟨t50_121, o4_122⟩⟩ h
  try dsimp only at h
  show SCode _ _ _ (S150 t50_121 o4_122) _
  cases n_151 with
  | zero => cases h
  | succ n_151 =>
   rw [plan_network_own_l151] at h
   unfold plan_network_own_b151 at h
   refine SCode.seq (SCode.region (sq rfl rfl (q_lss rfl rfl rfl) (SOps.nil (SCode.seq ?_))))
   rcases cond_out h with ⟨g152, h⟩ | ⟨g152, h⟩
   ·refine SCode.cond_t rfl g152 (SCode.skip ?_)
    let S149 := fun (o4_153 : List SArc) => (⟨[(1, .c (.ptr 0 0)), (2, .c (.ptr 1 0)), (3, ci (((a0_p.Parents).length : Int))), (4, ci (IntKind.wrap .i64 (2 + ((a0_p.Demands).length : Int)))), (5, .c (.ptr 3 0)), (48, .c (vSDemand a0_p.Demands)), (49, ci (((a0_p.Demands).length : Int))), (50, ci t50_121)], [.box (bSProblem a0_p), .box [.int .i64 0, .own 2 (([] : List SArc)).length], aSArc 54 (([] : List SArc)), .box [.int .i64 (IntKind.wrap .i64 (IntKind.wrap .i64 (2 + ((a0_p.Demands).length : Int)) + IntKind.wrap .i64 (((a0_p.Caps).length : Int) * ((a0_p.Parents).length : Int)))), .own 4 o4_153.length], aSArc 54 o4_153]⟩ : St)
    refine SCode.join (σ := (List SArc)) (S := fun s => (S149 s)) (g := fun s => plan_network_own_p154 t50_121 (fun t50_121 o4_122 => plan_network_own_l151 F a0_p n_151 t50_121 o4_122) s = some r) ?_ ?_
    rotate_left
    ·refine SCode.block (SCode.seq ?_)
     obtain ⟨g155, h⟩ := guard_out h
     refine SCode.region (sm rfl rfl (sq rfl rfl (q_index_vec rfl rfl rfl sl24 rfl g155.1 g155.2) (sq rfl rfl (q_load_eptr_all rfl rfl rfl ty28) (se rfl rfl (e_alloc rfl rfl rfl z28) (sa rfl rfl (se rfl rfl (e_store_box rfl rfl rfl rfl rfl ty28 rfl rfl rfl rfl) (SOps.nil (SCode.seq (SCode.region (sq rfl rfl (q_field_ptr rfl rfl fd26_1) (sq rfl rfl (q_load_ptr rfl rfl rfl rfl ty23) (sq rfl rfl (q_len_vec rfl rfl sl23) (sm rfl rfl (SOps.nil (SCode.block ?_)))))))))))))))
     let S148 := fun (t58_163 : Int) => fun (o4_164 : List SArc) => (⟨[(1, .c (.ptr 0 0)), (2, .c (.ptr 1 0)), (3, ci (((a0_p.Parents).length : Int))), (4, ci (IntKind.wrap .i64 (2 + ((a0_p.Demands).length : Int)))), (5, .c (.ptr 3 0)), (7, ci t50_121), (8, .c (.ptr 5 0)), (48, .c (vSDemand a0_p.Demands)), (49, ci (((a0_p.Demands).length : Int))), (50, ci t50_121), (57, ci (((a0_p.Caps).length : Int))), (58, ci t58_163)], [.box (bSProblem a0_p), .box [.int .i64 0, .own 2 (([] : List SArc)).length], aSArc 54 (([] : List SArc)), .box [.int .i64 (IntKind.wrap .i64 (IntKind.wrap .i64 (2 + ((a0_p.Demands).length : Int)) + IntKind.wrap .i64 (((a0_p.Caps).length : Int) * ((a0_p.Parents).length : Int)))), .own 4 o4_164.length], aSArc 54 o4_164, .box (bSDemand (a0_p.Demands.getD t50_121.toNat dSDemand))]⟩ : St)
     refine SCode.sub (st' := (S148 0 o4_122)) (sub_gen [0, 1, 2, 3, 4, 5] rfl rfl (zall rfl rfl) ⟨bx rfl rfl rfl, bx rfl rfl rfl, oa rfl, bx rfl rfl rfl, oa rfl, bx rfl rfl rfl, trivial⟩) ?_
     refine (SCode.loop (σ := Nat × (Int × (List SArc))) (S := fun s => (S148 s.2.1 s.2.2)) (g := fun s => plan_network_own_l172 F a0_p t50_121 (fun t50_121 o4_122 => plan_network_own_l151 F a0_p n_151 t50_121 o4_122) s.1 s.2.1 s.2.2 = some r) (μ := fun s => s.1) (F, (0, o4_122)) h ?_)
     rintro ⟨n_172, ⟨t58_163, o4_164⟩⟩ h
     try dsimp only at h
     show SCode _ _ _ (S148 t58_163 o4_164) _
     cases n_172 with
     | zero => cases h
     | succ n_172 =>
      rw [plan_network_own_l172] at h
      unfold plan_network_own_b172 at h
      refine SCode.seq (SCode.region (sq rfl rfl (q_lss rfl rfl rfl) (SOps.nil (SCode.seq ?_))))
      rcases cond_out h with ⟨g173, h⟩ | ⟨g173, h⟩
      ·refine SCode.cond_t rfl g173 (SCode.skip ?_)
       let S147 := fun (o4_174 : List SArc) => (⟨[(1, .c (.ptr 0 0)), (2, .c (.ptr 1 0)), (3, ci (((a0_p.Parents).length : Int))), (4, ci (IntKind.wrap .i64 (2 + ((a0_p.Demands).length : Int)))), (5, .c (.ptr 3 0)), (7, ci t50_121), (8, .c (.ptr 5 0)), (48, .c (vSDemand a0_p.Demands)), (49, ci (((a0_p.Demands).length : Int))), (50, ci t50_121), (57, ci (((a0_p.Caps).length : Int))), (58, ci t58_163)], [.box (bSProblem a0_p), .box [.int .i64 0, .own 2 (([] : List SArc)).length], aSArc 54 (([] : List SArc)), .box [.int .i64 (IntKind.wrap .i64 (IntKind.wrap .i64 (2 + ((a0_p.Demands).length : Int)) + IntKind.wrap .i64 (((a0_p.Caps).length : Int) * ((a0_p.Parents).length : Int)))), .own 4 o4_174.length], aSArc 54 o4_174, .box (bSDemand (a0_p.Demands.getD t50_121.toNat dSDemand))]⟩ : St)
       refine SCode.join (σ := (List SArc)) (S := fun s => (S147 s)) (g := fun s => plan_network_own_p175 t58_163 (fun t58_163 o4_164 => plan_network_own_l172 F a0_p t50_121 (fun t50_121 o4_122 => plan_network_own_l151 F a0_p n_151 t50_121 o4_122) n_172 t58_163 o4_164) s = some r) ?_ ?_
       rotate_left
       ·refine SCode.block (SCode.seq (SCode.region (sm rfl rfl (sa rfl rfl (SOps.nil (SCode.seq ?_))))))
        obtain ⟨c_176, g177, h⟩ := bind_out h
        try dsimp only at h
        refine SCode.region (sq rfl rfl (q_load_ptr_all rfl rfl rfl rfl rfl ty26) (sq rfl rfl (q_load_ptr_all rfl rfl rfl rfl rfl ty28) (sm rfl rfl (sq rfl rfl (q_call (plan_usable_ok F a0_p (a0_p.Demands.getD t50_121.toNat dSDemand) t58_163 c_176 g177) [] rfl fn18 ⟨⟨rfl, rfl⟩, ⟨rfl, rfl⟩, ⟨_, rfl, .inl ⟨rfl, rfl⟩⟩, trivial⟩ (.inl rfl)) (SOps.nil ?_)))))
        rcases cond_out h with ⟨g178, h⟩ | ⟨g178, h⟩
        ·refine SCode.cond_t rfl g178 (SCode.seq (SCode.region (sm rfl rfl (sm rfl rfl (sm rfl rfl (sq rfl rfl (q_mul rfl rfl rfl) (sq rfl rfl (q_add rfl rfl rfl) (sq rfl rfl (q_field_ptr rfl rfl fd28_0) (sq rfl rfl (q_load_ptr rfl rfl rfl rfl ty3) (sq rfl rfl (q_add rfl rfl rfl) (sa rfl rfl (SOps.nil ?_))))))))))))
         obtain ⟨g179, h⟩ := guard_out h
         refine SCode.region (sq rfl rfl (q_field_ptr rfl rfl fd40_1) (sq rfl rfl (q_load_ptr rfl rfl rfl rfl ty38) (sm rfl rfl (sq rfl rfl (q_add rfl rfl rfl) (sm rfl rfl (sq rfl rfl (q_field_ptr rfl rfl fd28_1) (sq rfl rfl (q_load_ptr rfl rfl rfl rfl ty3) (sq rfl rfl (q_field_ptr rfl rfl fd26_3) (sq rfl rfl (q_load_ptr rfl rfl rfl rfl ty3) (sq rfl rfl (q_mul rfl rfl rfl) (sq rfl rfl (q_build2 rfl rfl pl54 rfl) (sq rfl rfl (q_bsliceL (c := cSArc) (d0 := dSArc) [SArc.mk (IntKind.wrap .i64 (2 + t50_121)) (IntKind.wrap .i64 (IntKind.wrap .i64 (IntKind.wrap .i64 (2 + ((a0_p.Demands).length : Int)) + IntKind.wrap .i64 (t58_163 * ((a0_p.Parents).length : Int))) + (a0_p.Demands.getD t50_121.toNat dSDemand).Feeder)) (IntKind.wrap .i64 ((a0_p.Demands.getD t50_121.toNat dSDemand).Max * a0_p.Length))] rfl rfl sl38 z54 rfl rfl rfl rfl rfl rfl rfl) (se rfl rfl (e_appendL (c := cSArc) (d0 := dSArc) (l := o4_164) (l2 := [SArc.mk (IntKind.wrap .i64 (2 + t50_121)) (IntKind.wrap .i64 (IntKind.wrap .i64 (IntKind.wrap .i64 (2 + ((a0_p.Demands).length : Int)) + IntKind.wrap .i64 (t58_163 * ((a0_p.Parents).length : Int))) + (a0_p.Demands.getD t50_121.toNat dSDemand).Feeder)) (IntKind.wrap .i64 ((a0_p.Demands.getD t50_121.toNat dSDemand).Max * a0_p.Length))]) rfl rfl rfl rfl rfl rfl (.inl rfl) sl38 z54 rfl rfl oneSArc g179.1 g179.2) (sq rfl rfl (q_field_ptr rfl rfl fd40_1) (se rfl rfl (e_store_box rfl rfl rfl rfl rfl ty38 rfl rfl rfl rfl) ?_)))))))))))))))
         let y1 := o4_164 ++ ([SArc.mk (IntKind.wrap .i64 (2 + t50_121)) (IntKind.wrap .i64 (IntKind.wrap .i64 (IntKind.wrap .i64 (2 + ((a0_p.Demands).length : Int)) + IntKind.wrap .i64 (t58_163 * ((a0_p.Parents).length : Int))) + (a0_p.Demands.getD t50_121.toNat dSDemand).Feeder)) (IntKind.wrap .i64 ((a0_p.Demands.getD t50_121.toNat dSDemand).Max * a0_p.Length))])
         refine SOps.sub (st' := ⟨[(1, .c (.ptr 0 0)), (2, .c (.ptr 1 0)), (3, ci (((a0_p.Parents).length : Int))), (4, ci (IntKind.wrap .i64 (2 + ((a0_p.Demands).length : Int)))), (5, .c (.ptr 3 0)), (7, ci t50_121), (8, .c (.ptr 5 0)), (48, .c (vSDemand a0_p.Demands)), (49, ci (((a0_p.Demands).length : Int))), (50, ci t50_121), (57, ci (((a0_p.Caps).length : Int))), (58, ci t58_163)], [.box (bSProblem a0_p), .box [.int .i64 0, .own 2 (([] : List SArc)).length], aSArc 54 (([] : List SArc)), .box [.int .i64 (IntKind.wrap .i64 (IntKind.wrap .i64 (2 + ((a0_p.Demands).length : Int)) + IntKind.wrap .i64 (((a0_p.Caps).length : Int) * ((a0_p.Parents).length : Int)))), .own 4 y1.length], aSArc 54 y1, .box (bSDemand (a0_p.Demands.getD t50_121.toNat dSDemand))]⟩) (sub_gen [0, 1, 2, 3, 6, 5] rfl rfl (zall rfl rfl) ⟨bx rfl rfl rfl, bx rfl rfl rfl, oa rfl, bx rfl rfl rfl, oa rfl, bx rfl rfl rfl, trivial⟩) (SOps.nil ?_)
         exact ⟨o4_164 ++ ([SArc.mk (IntKind.wrap .i64 (2 + t50_121)) (IntKind.wrap .i64 (IntKind.wrap .i64 (IntKind.wrap .i64 (2 + ((a0_p.Demands).length : Int)) + IntKind.wrap .i64 (t58_163 * ((a0_p.Parents).length : Int))) + (a0_p.Demands.getD t50_121.toNat dSDemand).Feeder)) (IntKind.wrap .i64 ((a0_p.Demands.getD t50_121.toNat dSDemand).Max * a0_p.Length))]), h, sub_gen [0, 1, 2, 3, 4, 5] rfl rfl (zall rfl rfl) ⟨bx rfl rfl rfl, bx rfl rfl rfl, oa rfl, bx rfl rfl rfl, oa rfl, bx rfl rfl rfl, trivial⟩⟩
        refine SCode.cond_f rfl g178 (SCode.skip ?_)
        exact ⟨o4_164, h, sub_gen [0, 1, 2, 3, 4, 5] rfl rfl (zall rfl rfl) ⟨bx rfl rfl rfl, bx rfl rfl rfl, oa rfl, bx rfl rfl rfl, oa rfl, bx rfl rfl rfl, trivial⟩⟩
       rintro o4_174 h
       show SCode _ _ _ (S147 o4_174) _
       try dsimp only at h
       unfold plan_network_own_p175 at h
       refine SCode.region (sq rfl rfl (q_add rfl rfl rfl) (sm rfl rfl (SOps.nil ?_)))
       exact ⟨(n_172, (IntKind.wrap .i64 (t58_163 + 1), o4_174)), h, Nat.lt_succ_self n_172, sub_gen [0, 1, 2, 3, 4, 5] rfl rfl (zall rfl rfl) ⟨bx rfl rfl rfl, bx rfl rfl rfl, oa rfl, bx rfl rfl rfl, oa rfl, bx rfl rfl rfl, trivial⟩⟩
      refine SCode.cond_f rfl g173 (SCode.exit ?_)
      exact ⟨o4_164, h, sub_gen [0, 1, 2, 3, 4] rfl rfl (zall rfl rfl) ⟨bx rfl rfl rfl, bx rfl rfl rfl, oa rfl, bx rfl rfl rfl, oa rfl, trivial⟩⟩
    rintro o4_153 h
    show SCode _ _ _ (S149 o4_153) _
    try dsimp only at h
    unfold plan_network_own_p154 at h
    refine SCode.region (sq rfl rfl (q_add rfl rfl rfl) (sm rfl rfl (SOps.nil ?_)))
    exact ⟨(n_151, (IntKind.wrap .i64 (t50_121 + 1), o4_153)), h, Nat.lt_succ_self n_151, sub_gen [0, 1, 2, 3, 4] rfl rfl (zall rfl rfl) ⟨bx rfl rfl rfl, bx rfl rfl rfl, oa rfl, bx rfl rfl rfl, oa rfl, trivial⟩⟩
   refine SCode.cond_f rfl g152 (SCode.exit ?_)
   exact ⟨o4_122, h, sub_gen [0, 1, 2, 3, 4] rfl rfl (zall rfl rfl) ⟨bx rfl rfl rfl, bx rfl rfl rfl, oa rfl, bx rfl rfl rfl, oa rfl, trivial⟩⟩
 rintro o4_2 h
 show SCode _ _ _ (S151 o4_2) _
 try dsimp only at h
 unfold plan_network_own_p92 at h
 let S122 := fun (o3_3 : List SArc) => (⟨[(2, .c (.ptr 0 0)), (5, .c (.ptr 2 0))], [.box [.int .i64 0, .own 1 (([] : List SArc)).length], aSArc 54 (([] : List SArc)), .box [.int .i64 (IntKind.wrap .i64 (IntKind.wrap .i64 (2 + ((a0_p.Demands).length : Int)) + IntKind.wrap .i64 (((a0_p.Caps).length : Int) * ((a0_p.Parents).length : Int)))), .own 3 o3_3.length], aSArc 54 o3_3]⟩ : St)
 refine SCode.join (σ := (List SArc)) (S := fun s => (S122 s)) (g := fun s => plan_network_own_p4 a0_p s = some r) ?_ ?_
 rotate_left
 ·refine SCode.seq (SCode.region (sq rfl rfl (q_field_ptr rfl rfl fd26_1) (sq rfl rfl (q_load_ptr rfl rfl rfl rfl ty23) (sq rfl rfl (q_len_vec rfl rfl sl23) (sm rfl rfl (SOps.nil (SCode.block ?_)))))))
  let S121 := fun (t92_33 : Int) => fun (o4_34 : List SArc) => (⟨[(1, .c (.ptr 0 0)), (2, .c (.ptr 1 0)), (3, ci (((a0_p.Parents).length : Int))), (4, ci (IntKind.wrap .i64 (2 + ((a0_p.Demands).length : Int)))), (5, .c (.ptr 3 0)), (90, .c (vR a0_p.Caps)), (91, ci (((a0_p.Caps).length : Int))), (92, ci t92_33)], [.box (bSProblem a0_p), .box [.int .i64 0, .own 2 (([] : List SArc)).length], aSArc 54 (([] : List SArc)), .box [.int .i64 (IntKind.wrap .i64 (IntKind.wrap .i64 (2 + ((a0_p.Demands).length : Int)) + IntKind.wrap .i64 (((a0_p.Caps).length : Int) * ((a0_p.Parents).length : Int)))), .own 4 o4_34.length], aSArc 54 o4_34]⟩ : St)
  refine SCode.sub (st' := (S121 0 o4_2)) (sub_gen [0, 1, 2, 3, 4] rfl rfl (zall rfl rfl) ⟨bx rfl rfl rfl, bx rfl rfl rfl, oa rfl, bx rfl rfl rfl, oa rfl, trivial⟩) ?_
  refine (SCode.loop (σ := Nat × (Int × (List SArc))) (S := fun s => (S121 s.2.1 s.2.2)) (g := fun s => plan_network_own_l63 F a0_p s.1 s.2.1 s.2.2 = some r) (μ := fun s => s.1) (F, (0, o4_2)) h ?_)
  rintro ⟨n_63, ⟨t92_33, o4_34⟩⟩ h
  try dsimp only at h
  show SCode _ _ _ (S121 t92_33 o4_34) _
  cases n_63 with
  | zero => cases h
  | succ n_63 =>
   rw [plan_network_own_l63] at h
   unfold plan_network_own_b63 at h
   refine SCode.seq (SCode.region (sq rfl rfl (q_lss rfl rfl rfl) (SOps.nil (SCode.seq ?_))))
   rcases cond_out h with ⟨g64, h⟩ | ⟨g64, h⟩
   ·refine SCode.cond_t rfl g64 (SCode.skip ?_)
    let S120 := fun (o4_65 : List SArc) => (⟨[(1, .c (.ptr 0 0)), (2, .c (.ptr 1 0)), (3, ci (((a0_p.Parents).length : Int))), (4, ci (IntKind.wrap .i64 (2 + ((a0_p.Demands).length : Int)))), (5, .c (.ptr 3 0)), (90, .c (vR a0_p.Caps)), (91, ci (((a0_p.Caps).length : Int))), (92, ci t92_33)], [.box (bSProblem a0_p), .box [.int .i64 0, .own 2 (([] : List SArc)).length], aSArc 54 (([] : List SArc)), .box [.int .i64 (IntKind.wrap .i64 (IntKind.wrap .i64 (2 + ((a0_p.Demands).length : Int)) + IntKind.wrap .i64 (((a0_p.Caps).length : Int) * ((a0_p.Parents).length : Int)))), .own 4 o4_65.length], aSArc 54 o4_65]⟩ : St)
    refine SCode.join (σ := (List SArc)) (S := fun s => (S120 s)) (g := fun s => plan_network_own_p66 t92_33 (fun t92_33 o4_34 => plan_network_own_l63 F a0_p n_63 t92_33 o4_34) s = some r) ?_ ?_
    rotate_left
    ·refine SCode.block (SCode.seq ?_)
     obtain ⟨g67, h⟩ := guard_out h
     refine SCode.region (sm rfl rfl (sq rfl rfl (q_index_vec rfl rfl rfl sl23 rfl g67.1 g67.2) (sq rfl rfl (q_load_eptr rfl rfl ty22) (sa rfl rfl (sa rfl rfl (SOps.nil (SCode.seq (SCode.region (sm rfl rfl (sm rfl rfl (sm rfl rfl (sq rfl rfl (q_mul rfl rfl rfl) (sq rfl rfl (q_add rfl rfl rfl) (sa rfl rfl (SOps.nil ?_)))))))))))))))
     refine SCode.seq (SCode.region (sq rfl rfl (q_field_ptr rfl rfl fd26_0) (sq rfl rfl (q_load_ptr rfl rfl rfl rfl ty22) (sq rfl rfl (q_len_vec rfl rfl sl22) (sm rfl rfl (SOps.nil (SCode.block ?_)))))))
     let S119 := fun (t105_75 : Int) => fun (o4_76 : List SArc) => (⟨[(1, .c (.ptr 0 0)), (2, .c (.ptr 1 0)), (3, ci (((a0_p.Parents).length : Int))), (4, ci (IntKind.wrap .i64 (2 + ((a0_p.Demands).length : Int)))), (5, .c (.ptr 3 0)), (12, .c (vI (a0_p.Caps.getD t92_33.toNat ([])))), (13, ci (IntKind.wrap .i64 (IntKind.wrap .i64 (2 + ((a0_p.Demands).length : Int)) + IntKind.wrap .i64 (t92_33 * ((a0_p.Parents).length : Int))))), (90, .c (vR a0_p.Caps)), (91, ci (((a0_p.Caps).length : Int))), (92, ci t92_33), (103, .c (vI a0_p.Parents)), (104, ci (((a0_p.Parents).length : Int))), (105, ci t105_75)], [.box (bSProblem a0_p), .box [.int .i64 0, .own 2 (([] : List SArc)).length], aSArc 54 (([] : List SArc)), .box [.int .i64 (IntKind.wrap .i64 (IntKind.wrap .i64 (2 + ((a0_p.Demands).length : Int)) + IntKind.wrap .i64 (((a0_p.Caps).length : Int) * ((a0_p.Parents).length : Int)))), .own 4 o4_76.length], aSArc 54 o4_76]⟩ : St)
     refine SCode.sub (st' := (S119 0 o4_34)) (sub_gen [0, 1, 2, 3, 4] rfl rfl (zall rfl rfl) ⟨bx rfl rfl rfl, bx rfl rfl rfl, oa rfl, bx rfl rfl rfl, oa rfl, trivial⟩) ?_
     refine (SCode.loop (σ := Nat × (Int × (List SArc))) (S := fun s => (S119 s.2.1 s.2.2)) (g := fun s => plan_network_own_l84 a0_p t92_33 (fun t92_33 o4_34 => plan_network_own_l63 F a0_p n_63 t92_33 o4_34) s.1 s.2.1 s.2.2 = some r) (μ := fun s => s.1) (F, (0, o4_34)) h ?_)
     rintro ⟨n_84, ⟨t105_75, o4_76⟩⟩ h
     try dsimp only at h
     show SCode _ _ _ (S119 t105_75 o4_76) _
     cases n_84 with
     | zero => cases h
     | succ n_84 =>
      rw [plan_network_own_l84] at h
      unfold plan_network_own_b84 at h
      refine SCode.seq (SCode.region (sq rfl rfl (q_lss rfl rfl rfl) (SOps.nil (SCode.seq ?_))))
      rcases cond_out h with ⟨g85, h⟩ | ⟨g85, h⟩
      ·refine SCode.cond_t rfl g85 (SCode.skip (SCode.seq (SCode.block (SCode.seq ?_))))
       obtain ⟨g86, h⟩ := guard_out h
       refine SCode.region (sm rfl rfl (sq rfl rfl (q_index_vec rfl rfl rfl sl22 rfl g86.1 g86.2) (sq rfl rfl (q_load_eptr rfl rfl ty3) (sa rfl rfl (sa rfl rfl (SOps.nil (SCode.seq (SCode.region (sa rfl rfl (SOps.nil ?_))))))))))
       let S118 := fun (to_87 : Int) => (⟨[(1, .c (.ptr 0 0)), (2, .c (.ptr 1 0)), (3, ci (((a0_p.Parents).length : Int))), (4, ci (IntKind.wrap .i64 (2 + ((a0_p.Demands).length : Int)))), (5, .c (.ptr 3 0)), (12, .c (vI (a0_p.Caps.getD t92_33.toNat ([])))), (13, ci (IntKind.wrap .i64 (IntKind.wrap .i64 (2 + ((a0_p.Demands).length : Int)) + IntKind.wrap .i64 (t92_33 * ((a0_p.Parents).length : Int))))), (14, ci t105_75), (16, ci to_87), (90, .c (vR a0_p.Caps)), (91, ci (((a0_p.Caps).length : Int))), (92, ci t92_33), (103, .c (vI a0_p.Parents)), (104, ci (((a0_p.Parents).length : Int))), (105, ci t105_75)], [.box (bSProblem a0_p), .box [.int .i64 0, .own 2 (([] : List SArc)).length], aSArc 54 (([] : List SArc)), .box [.int .i64 (IntKind.wrap .i64 (IntKind.wrap .i64 (2 + ((a0_p.Demands).length : Int)) + IntKind.wrap .i64 (((a0_p.Caps).length : Int) * ((a0_p.Parents).length : Int)))), .own 4 o4_76.length], aSArc 54 o4_76]⟩ : St)
       refine SCode.join (σ := Int) (S := fun s => (S118 s)) (g := fun s => plan_network_own_p90 a0_p t92_33 t105_75 o4_76 (fun t105_75 o4_76 => plan_network_own_l84 a0_p t92_33 (fun t92_33 o4_34 => plan_network_own_l63 F a0_p n_63 t92_33 o4_34) n_84 t105_75 o4_76) s = some r) ?_ ?_
       rotate_left
       ·refine SCode.seq (SCode.region (sm rfl rfl (sq rfl rfl (q_geq rfl rfl rfl) (SOps.nil ?_))))
        rcases cond_out h with ⟨g91, h⟩ | ⟨g91, h⟩
        ·refine SCode.cond_t rfl g91 (SCode.region (sm rfl rfl (sm rfl rfl (sq rfl rfl (q_add rfl rfl rfl) (sa rfl rfl (SOps.nil ?_))))))
         exact ⟨IntKind.wrap .i64 (IntKind.wrap .i64 (IntKind.wrap .i64 (2 + ((a0_p.Demands).length : Int)) + IntKind.wrap .i64 (t92_33 * ((a0_p.Parents).length : Int))) + a0_p.Parents.getD t105_75.toNat 0), h, sub_gen [0, 1, 2, 3, 4] rfl rfl (zall rfl rfl) ⟨bx rfl rfl rfl, bx rfl rfl rfl, oa rfl, bx rfl rfl rfl, oa rfl, trivial⟩⟩
        refine SCode.cond_f rfl g91 (SCode.skip ?_)
        exact ⟨1, h, sub_gen [0, 1, 2, 3, 4] rfl rfl (zall rfl rfl) ⟨bx rfl rfl rfl, bx rfl rfl rfl, oa rfl, bx rfl rfl rfl, oa rfl, trivial⟩⟩
       rintro to_87 h
       show SCode _ _ _ (S118 to_87) _
       try dsimp only at h
       unfold plan_network_own_p90 at h
       obtain ⟨g88, h⟩ := guard_out h
       obtain ⟨g89, h⟩ := guard_out h
       refine SCode.drawK mixed [[], [0], [], [], [2, 3], [], [], [], [6, 7], [6, 7, 8], [], [10], [6, 7, 8, 9, 10, 11], [6, 7, 8, 9, 10, 11, 12], [2, 3, 4, 5, 6, 7, 8, 9, 10, 11, 12, 13], [2, 3, 4, 5, 6, 7, 8, 9, 10, 11, 12, 13, 14], [0, 1, 2, 3, 4, 5, 6, 7, 8, 9, 10, 11, 12, 13, 14, 15], [0, 1, 2, 3, 4, 5, 6, 7, 8, 9, 10, 11, 12, 13, 14, 15, 16], [0, 1, 2, 3, 4, 5, 6, 7, 8, 9, 10, 11, 12, 13, 14, 15, 16, 17]] 16 3 rfl rfl (qr rfl rfl (q_field_ptr rfl rfl fd40_1) (qr rfl rfl (q_load_ptr rfl rfl rfl rfl ty38) (qm rfl rfl (qm rfl rfl (qr rfl rfl (q_add rfl rfl rfl) (qm rfl rfl (qm rfl rfl (qm rfl rfl (qr rfl rfl (q_index_vec rfl rfl rfl sl22 rfl g88.1 g88.2) (qr rfl rfl (q_load_eptr rfl rfl ty3) (qr rfl rfl (q_field_ptr rfl rfl fd26_3) (qr rfl rfl (q_load_ptr rfl rfl rfl rfl ty3) (qr rfl rfl (q_mul rfl rfl rfl) (qr rfl rfl (q_min rfl rfl rfl) (qr rfl rfl (q_build2 rfl rfl pl54 rfl) ?_)))))))))))))))
       refine qr rfl rfl (q_bsliceL (c := cSArc) (d0 := dSArc) [SArc.mk (IntKind.wrap .i64 (IntKind.wrap .i64 (IntKind.wrap .i64 (2 + ((a0_p.Demands).length : Int)) + IntKind.wrap .i64 (t92_33 * ((a0_p.Parents).length : Int))) + t105_75)) to_87 ((if 1099511627776 < IntKind.wrap .i64 ((a0_p.Caps.getD t92_33.toNat ([])).getD t105_75.toNat 0 * a0_p.Length) then 1099511627776 else IntKind.wrap .i64 ((a0_p.Caps.getD t92_33.toNat ([])).getD t105_75.toNat 0 * a0_p.Length)))] rfl rfl sl38 z54 rfl rfl rfl rfl rfl rfl rfl) (QK.nil (se rfl rfl (e_appendL (c := cSArc) (d0 := dSArc) (l := o4_76) (l2 := [SArc.mk (IntKind.wrap .i64 (IntKind.wrap .i64 (IntKind.wrap .i64 (2 + ((a0_p.Demands).length : Int)) + IntKind.wrap .i64 (t92_33 * ((a0_p.Parents).length : Int))) + t105_75)) to_87 ((if 1099511627776 < IntKind.wrap .i64 ((a0_p.Caps.getD t92_33.toNat ([])).getD t105_75.toNat 0 * a0_p.Length) then 1099511627776 else IntKind.wrap .i64 ((a0_p.Caps.getD t92_33.toNat ([])).getD t105_75.toNat 0 * a0_p.Length)))]) rfl rfl rfl rfl rfl rfl (.inl rfl) sl38 z54 rfl rfl oneSArc g89.1 g89.2) (sq rfl rfl (q_field_ptr rfl rfl fd40_1) (se rfl rfl (e_store_box rfl rfl rfl rfl rfl ty38 rfl rfl rfl rfl) ?_))))
       let y2 := IntKind.wrap .i64 (2 + ((a0_p.Demands).length : Int)) + IntKind.wrap .i64 (t92_33 * ((a0_p.Parents).length : Int))
       let y3 := (a0_p.Caps.getD t92_33.toNat ([])).getD t105_75.toNat 0 * a0_p.Length
       refine SOps.sub (st' := ⟨[(1, .c (.ptr 0 0)), (2, .c (.ptr 1 0)), (3, ci (((a0_p.Parents).length : Int))), (4, ci (IntKind.wrap .i64 (2 + ((a0_p.Demands).length : Int)))), (5, .c (.ptr 3 0)), (12, .c (vI (a0_p.Caps.getD t92_33.toNat ([])))), (13, ci (IntKind.wrap .i64 y2)), (90, .c (vR a0_p.Caps)), (91, ci (((a0_p.Caps).length : Int))), (92, ci t92_33), (103, .c (vI a0_p.Parents)), (104, ci (((a0_p.Parents).length : Int))), (105, ci t105_75)], [.box (bSProblem a0_p), .box [.int .i64 0, .own 2 (([] : List SArc)).length], aSArc 54 (([] : List SArc)), .box [.int .i64 (IntKind.wrap .i64 (IntKind.wrap .i64 (2 + ((a0_p.Demands).length : Int)) + IntKind.wrap .i64 (((a0_p.Caps).length : Int) * ((a0_p.Parents).length : Int)))), .own 4 (o4_76 ++ ([SArc.mk (IntKind.wrap .i64 (IntKind.wrap .i64 y2 + t105_75)) to_87 ((if 1099511627776 < IntKind.wrap .i64 y3 then 1099511627776 else IntKind.wrap .i64 y3))])).length], aSArc 54 (o4_76 ++ ([SArc.mk (IntKind.wrap .i64 (IntKind.wrap .i64 y2 + t105_75)) to_87 ((if 1099511627776 < IntKind.wrap .i64 y3 then 1099511627776 else IntKind.wrap .i64 y3))]))]⟩) (sub_gen [0, 1, 2, 3, 5] rfl rfl (zall rfl rfl) ⟨bx rfl rfl rfl, bx rfl rfl rfl, oa rfl, bx rfl rfl rfl, oa rfl, trivial⟩) (SOps.nil (SCode.region (sq rfl rfl (q_add rfl rfl rfl) (sm rfl rfl (SOps.nil ?_)))))
       exact ⟨(n_84, (IntKind.wrap .i64 (t105_75 + 1), o4_76 ++ ([SArc.mk (IntKind.wrap .i64 (IntKind.wrap .i64 (IntKind.wrap .i64 (2 + ((a0_p.Demands).length : Int)) + IntKind.wrap .i64 (t92_33 * ((a0_p.Parents).length : Int))) + t105_75)) to_87 ((if 1099511627776 < IntKind.wrap .i64 ((a0_p.Caps.getD t92_33.toNat ([])).getD t105_75.toNat 0 * a0_p.Length) then 1099511627776 else IntKind.wrap .i64 ((a0_p.Caps.getD t92_33.toNat ([])).getD t105_75.toNat 0 * a0_p.Length)))]))), h, Nat.lt_succ_self n_84, sub_gen [0, 1, 2, 3, 4] rfl rfl (zall rfl rfl) ⟨bx rfl rfl rfl, bx rfl rfl rfl, oa rfl, bx rfl rfl rfl, oa rfl, trivial⟩⟩
      refine SCode.cond_f rfl g85 (SCode.exit ?_)
      exact ⟨o4_76, h, sub_gen [0, 1, 2, 3, 4] rfl rfl (zall rfl rfl) ⟨bx rfl rfl rfl, bx rfl rfl rfl, oa rfl, bx rfl rfl rfl, oa rfl, trivial⟩⟩
    rintro o4_65 h
    show SCode _ _ _ (S120 o4_65) _
    try dsimp only at h
    unfold plan_network_own_p66 at h
    refine SCode.region (sq rfl rfl (q_add rfl rfl rfl) (sm rfl rfl (SOps.nil ?_)))
    exact ⟨(n_63, (IntKind.wrap .i64 (t92_33 + 1), o4_65)), h, Nat.lt_succ_self n_63, sub_gen [0, 1, 2, 3, 4] rfl rfl (zall rfl rfl) ⟨bx rfl rfl rfl, bx rfl rfl rfl, oa rfl, bx rfl rfl rfl, oa rfl, trivial⟩⟩
   refine SCode.cond_f rfl g64 (SCode.exit ?_)
   exact ⟨o4_34, h, sub_gen [1, 2, 3, 4] rfl rfl (zall rfl rfl) ⟨bx rfl rfl rfl, oa rfl, bx rfl rfl rfl, oa rfl, trivial⟩⟩
 rintro o3_3 h
 show SCode _ _ _ (S122 o3_3) _
 try dsimp only at h
 unfold plan_network_own_p4 at h
 refine SCode.seq (SCode.region (sq rfl rfl (q_load_ptr_all rfl rfl rfl rfl rfl ty40) (se rfl rfl (e_store_box rfl rfl rfl rfl rfl ty40 rfl rfl rfl rfl) (SOps.nil (SCode.ret ?_)))))
 obtain rfl := Option.some.inj h
 let y4 := IntKind.wrap .i64 (IntKind.wrap .i64 (2 + ((a0_p.Demands).length : Int)) + IntKind.wrap .i64 (((a0_p.Caps).length : Int) * ((a0_p.Parents).length : Int)))
 exact ⟨⟨[(2, .c (.ptr 1 0))], [aSArc 54 o3_3, .box [.int .i64 y4, .own 0 o3_3.length]]⟩, _, sub_gen [3, 0] rfl rfl (zall rfl rfl) ⟨oa rfl, bx rfl rfl rfl, trivial⟩, resA1 (v := .a [.int .i64 y4, .own 0 o3_3.length]) rfl ⟨_, rfl, rfl, ty40⟩, ⟨rfl, rfl⟩⟩
theorem flow_isNode_ok (F : Nat) (a0_n : SNet) (a1_i : Int) (r : Bool) (h : flow_isNode F a0_n a1_i = some r) :
  SFun Try.prog 30 [] [.a (bSNet a0_n), ci a1_i] (fun x _ => x = .c (.bool r)) := by
 refine SFun.of (n := 13) Try.func30 rfl rfl rfl ?_
 unfold flow_isNode at h
 show SCode _ _ _ ⟨[(0, .a (bSNet a0_n)), (1, ci a1_i)], []⟩ _
 refine SCode.seq (SCode.region (se rfl rfl (e_box rfl rfl rfl rfl rfl rfl) (sa rfl rfl (SOps.nil (SCode.seq ?_)))))
 rcases cond_out h with ⟨g1, h⟩ | ⟨g1, h⟩
 ·refine SCode.region (sm rfl rfl (sq rfl rfl (q_geq rfl rfl rfl) (sm rfl rfl (SOps.q rfl (.guard 2 7 true rfl rfl (gT g1)) rfl (q_move rfl rfl) (SOps.q rfl (.guard 2 7 true rfl rfl (gT g1)) rfl (q_field_ptr rfl rfl fd40_0) (SOps.q rfl (.guard 2 7 true rfl rfl (gT g1)) rfl (q_load_ptr rfl rfl rfl rfl ty3) (SOps.q rfl (.guard 2 7 true rfl rfl (gT g1)) rfl (q_lss rfl rfl rfl) (sq rfl rfl (q_pick_t rfl rfl g1 rfl) (sa rfl rfl (SOps.nil (SCode.ret ?_)))))))))))
  obtain rfl := Option.some.inj h
  exact ⟨⟨[(4, .c (.bool (decide (a1_i < a0_n.Nodes))))], []⟩, _, sub_gen [] rfl rfl (zall rfl rfl) trivial, resA1 (v := .c (.bool (decide (a1_i < a0_n.Nodes)))) rfl rfl, rfl⟩
 refine SCode.region (sm rfl rfl (sq rfl rfl (q_geq rfl rfl rfl) (sm rfl rfl (SOps.skip rfl 2 7 true rfl rfl (.inl (gF g1)) rfl (SOps.skip rfl 2 7 true rfl rfl (.inl (gF g1)) rfl (SOps.skip rfl 2 7 true rfl rfl (.inl (gF g1)) rfl (SOps.skip rfl 2 7 true rfl rfl (.inl (gF g1)) rfl (sq rfl rfl (q_pick_f rfl rfl g1 rfl) (sa rfl rfl (SOps.nil (SCode.ret ?_)))))))))))
 obtain rfl := Option.some.inj h
 exact ⟨⟨[(4, .c (.bool false))], []⟩, _, sub_gen [] rfl rfl (zall rfl rfl) trivial, resA1 (v := .c (.bool false)) rfl rfl, rfl⟩
theorem flow_Valid_ok (F : Nat) (a0_n : SNet) (r : Int) (h : flow_Valid F a0_n = some r) :
  SFun Try.prog 29 [] [.a (bSNet a0_n)] (fun x _ => x = ci r) := by
 refine SFun.of (n := 50) Try.func29 rfl rfl rfl ?_
 unfold flow_Valid at h
 show SCode _ _ _ ⟨[(0, .a (bSNet a0_n))], []⟩ _
 refine SCode.seq (SCode.region (se rfl rfl (e_box rfl rfl rfl rfl rfl rfl) (sa rfl rfl (SOps.nil (SCode.seq (SCode.seq (SCode.region (sq rfl rfl (q_field_ptr rfl rfl fd40_0) (sq rfl rfl (q_load_ptr rfl rfl rfl rfl ty3) (sq rfl rfl (q_lss rfl rfl rfl) (SOps.nil ?_)))))))))))
 rcases cond_out h with ⟨g1, h⟩ | ⟨g1, h⟩
 ·refine SCode.cond_t rfl g1 (SCode.seq (SCode.region (sa rfl rfl (SOps.nil (SCode.ret ?_)))))
  obtain rfl := Option.some.inj h
  exact ⟨⟨[(2, ci 2)], []⟩, _, sub_gen [] rfl rfl (zall rfl rfl) trivial, resA1 (v := .c (.int .i64 2)) rfl rfl, rfl⟩
 refine SCode.cond_f rfl g1 (SCode.skip (SCode.seq (SCode.seq ?_)))
 rcases cond_out h with ⟨g2, h⟩ | ⟨g2, h⟩
 ·refine SCode.region (sq rfl rfl (q_field_ptr rfl rfl fd40_0) (sq rfl rfl (q_load_ptr rfl rfl rfl rfl ty3) (sq rfl rfl (q_gtr rfl rfl rfl) (sm rfl rfl (SOps.skip rfl 3 11 false rfl rfl (.inl (gT g2)) rfl (SOps.skip rfl 3 11 false rfl rfl (.inl (gT g2)) rfl (SOps.skip rfl 3 11 false rfl rfl (.inl (gT g2)) rfl (SOps.skip rfl 3 11 false rfl rfl (.inl (gT g2)) rfl (sq rfl rfl (q_pick_t rfl rfl g2 rfl) (SOps.nil (SCode.cond_t rfl rfl (SCode.seq (SCode.region (sa rfl rfl (SOps.nil ?_)))))))))))))))
  refine SCode.ret ?_
  obtain rfl := Option.some.inj h
  exact ⟨⟨[(2, ci 3)], []⟩, _, sub_gen [] rfl rfl (zall rfl rfl) trivial, resA1 (v := .c (.int .i64 3)) rfl rfl, rfl⟩
 refine SCode.region (sq rfl rfl (q_field_ptr rfl rfl fd40_0) (sq rfl rfl (q_load_ptr rfl rfl rfl rfl ty3) (sq rfl rfl (q_gtr rfl rfl rfl) (sm rfl rfl (SOps.q rfl (.guard 3 11 false rfl rfl (gF g2)) rfl (q_field_ptr rfl rfl fd40_1) (SOps.q rfl (.guard 3 11 false rfl rfl (gF g2)) rfl (q_load_ptr rfl rfl rfl rfl ty38) (SOps.q rfl (.guard 3 11 false rfl rfl (gF g2)) rfl (q_len_vec rfl rfl sl38) (SOps.q rfl (.guard 3 11 false rfl rfl (gF g2)) rfl (q_gtr rfl rfl rfl) (sq rfl rfl (q_pick_f rfl rfl g2 rfl) (SOps.nil ?_))))))))))
 rcases cond_out h with ⟨g3, h⟩ | ⟨g3, h⟩
 ·refine SCode.cond_t rfl g3 (SCode.seq (SCode.region (sa rfl rfl (SOps.nil (SCode.ret ?_)))))
  obtain rfl := Option.some.inj h
  exact ⟨⟨[(2, ci 3)], []⟩, _, sub_gen [] rfl rfl (zall rfl rfl) trivial, resA1 (v := .c (.int .i64 3)) rfl rfl, rfl⟩
 refine SCode.cond_f rfl g3 (SCode.skip ?_)
 let S3 := (⟨[], []⟩ : St)
 refine SCode.join (σ := Unit) (S := fun s => S3) (g := fun s => flow_Valid_p4 = some r) ?_ ?_
 rotate_left
 ·refine SCode.seq (SCode.region (sq rfl rfl (q_field_ptr rfl rfl fd40_1) (sq rfl rfl (q_load_ptr rfl rfl rfl rfl ty38) (sq rfl rfl (q_len_vec rfl rfl sl38) (sm rfl rfl (SOps.sub (st' := ⟨[(1, .c (.ptr 0 0)), (18, .c (vSArc a0_n.Arcs)), (19, ci (((a0_n.Arcs).length : Int))), (20, ci 0)], [.box (bSNet a0_n)]⟩) (sub_gen [0] rfl rfl (zall rfl rfl) ⟨bx rfl rfl rfl, trivial⟩) (SOps.nil (SCode.block ?_))))))))
  let S2 := fun (t20_16 : Int) => (⟨[(1, .c (.ptr 0 0)), (18, .c (vSArc a0_n.Arcs)), (19, ci (((a0_n.Arcs).length : Int))), (20, ci t20_16)], [.box (bSNet a0_n)]⟩ : St)
  refine SCode.sub (st' := (S2 0)) (sub_gen [0] rfl rfl (zall rfl rfl) ⟨bx rfl rfl rfl, trivial⟩) ?_
  refine (SCode.loop (σ := Nat × Int) (S := fun s => (S2 s.2)) (g := fun s => flow_Valid_l28 F a0_n s.1 s.2 = some r) (μ := fun s => s.1) (F, 0) h ?_)
  rintro ⟨n_28, t20_16⟩ h
  try dsimp only at h
  show SCode _ _ _ (S2 t20_16) _
  cases n_28 with
  | zero => cases h
  | succ n_28 =>
   rw [flow_Valid_l28] at h
   unfold flow_Valid_b28 at h
   refine SCode.seq (SCode.region (sq rfl rfl (q_lss rfl rfl rfl) (SOps.nil (SCode.seq ?_))))
   rcases cond_out h with ⟨g29, h⟩ | ⟨g29, h⟩
   ·refine SCode.cond_t rfl g29 (SCode.skip (SCode.seq (SCode.block (SCode.seq ?_))))
    obtain ⟨g30, h⟩ := guard_out h
    refine SCode.region (sq rfl rfl (q_index_vec rfl rfl rfl sl38 rfl g30.1 g30.2) (sq rfl rfl (q_load_eptr_all rfl rfl rfl ty54) (se rfl rfl (e_alloc rfl rfl rfl z54) (se rfl rfl (e_store_box rfl rfl rfl rfl rfl ty54 rfl rfl rfl rfl) (SOps.nil (SCode.seq (SCode.seq ?_)))))))
    obtain ⟨c_31, g32, h⟩ := bind_out h
    try dsimp only at h
    rcases cond_out h with ⟨g33, h⟩ | ⟨g33, h⟩
    ·refine SCode.region (sq rfl rfl (q_load_ptr_all rfl rfl rfl rfl rfl ty40) (sq rfl rfl (q_field_ptr rfl rfl fd54_0) (sq rfl rfl (q_load_ptr rfl rfl rfl rfl ty3) (sq rfl rfl (q_call (flow_isNode_ok F a0_n ((a0_n.Arcs.getD t20_16.toNat dSArc).From) c_31 g32) [] rfl fn30 ⟨⟨rfl, rfl⟩, ⟨_, rfl, .inl ⟨rfl, rfl⟩⟩, trivial⟩ (.inl rfl)) (sq rfl rfl (q_not rfl rfl) (sm rfl rfl (SOps.skip rfl 5 29 false rfl rfl (.inl (gT g33)) rfl (SOps.skip rfl 5 29 false rfl rfl (.inl (gT g33)) rfl (SOps.skip rfl 5 29 false rfl rfl (.inl (gT g33)) rfl (SOps.skip rfl 5 29 false rfl rfl (.inl (gT g33)) rfl (SOps.skip rfl 5 29 false rfl rfl (.inl (gT g33)) rfl (sq rfl rfl (q_pick_t rfl rfl g33 rfl) (SOps.nil (SCode.cond_t rfl rfl (SCode.seq ?_)))))))))))))))
     refine SCode.region (sa rfl rfl (SOps.sub (st' := ⟨[(2, ci 2)], []⟩) (sub_gen [] rfl rfl (zall rfl rfl) trivial) (SOps.nil (SCode.ret ?_))))
     obtain rfl := Option.some.inj h
     exact ⟨⟨[(2, ci 2)], []⟩, _, sub_gen [] rfl rfl (zall rfl rfl) trivial, resA1 (v := .c (.int .i64 2)) rfl rfl, rfl⟩
    obtain ⟨c_34, g35, h⟩ := bind_out h
    try dsimp only at h
    refine SCode.region (sq rfl rfl (q_load_ptr_all rfl rfl rfl rfl rfl ty40) (sq rfl rfl (q_field_ptr rfl rfl fd54_0) (sq rfl rfl (q_load_ptr rfl rfl rfl rfl ty3) (sq rfl rfl (q_call (flow_isNode_ok F a0_n ((a0_n.Arcs.getD t20_16.toNat dSArc).From) c_31 g32) [] rfl fn30 ⟨⟨rfl, rfl⟩, ⟨_, rfl, .inl ⟨rfl, rfl⟩⟩, trivial⟩ (.inl rfl)) (sq rfl rfl (q_not rfl rfl) (sm rfl rfl (SOps.q rfl (.guard 5 29 false rfl rfl (gF g33)) rfl (q_load_ptr_all rfl rfl rfl rfl rfl ty40) (SOps.q rfl (.guard 5 29 false rfl rfl (gF g33)) rfl (q_field_ptr rfl rfl fd54_1) (SOps.q rfl (.guard 5 29 false rfl rfl (gF g33)) rfl (q_load_ptr rfl rfl rfl rfl ty3) (SOps.q rfl (.guard 5 29 false rfl rfl (gF g33)) rfl (q_call (flow_isNode_ok F a0_n ((a0_n.Arcs.getD t20_16.toNat dSArc).To) c_34 g35) [] rfl fn30 ⟨⟨rfl, rfl⟩, ⟨_, rfl, .inl ⟨rfl, rfl⟩⟩, trivial⟩ (.inl rfl)) (SOps.q rfl (.guard 5 29 false rfl rfl (gF g33)) rfl (q_not rfl rfl) (sq rfl rfl (q_pick_f rfl rfl g33 rfl) (SOps.nil ?_)))))))))))))
    rcases cond_out h with ⟨g36, h⟩ | ⟨g36, h⟩
    ·refine SCode.cond_t rfl g36 (SCode.seq (SCode.region (sa rfl rfl (SOps.sub (st' := ⟨[(2, ci 2)], []⟩) (sub_gen [] rfl rfl (zall rfl rfl) trivial) (SOps.nil (SCode.ret ?_))))))
     obtain rfl := Option.some.inj h
     exact ⟨⟨[(2, ci 2)], []⟩, _, sub_gen [] rfl rfl (zall rfl rfl) trivial, resA1 (v := .c (.int .i64 2)) rfl rfl, rfl⟩
    refine SCode.cond_f rfl g36 (SCode.skip (SCode.seq (SCode.seq (SCode.region (sq rfl rfl (q_field_ptr rfl rfl fd54_0) (sq rfl rfl (q_load_ptr rfl rfl rfl rfl ty3) (sq rfl rfl (q_field_ptr rfl rfl fd54_1) (sq rfl rfl (q_load_ptr rfl rfl rfl rfl ty3) (sq rfl rfl (q_eql rfl rfl rfl) (SOps.sub (st' := ⟨[(1, .c (.ptr 0 0)), (4, .c (.ptr 1 0)), (18, .c (vSArc a0_n.Arcs)), (19, ci (((a0_n.Arcs).length : Int))), (20, ci t20_16), (40, .c (.bool (decide ((a0_n.Arcs.getD t20_16.toNat dSArc).From = (a0_n.Arcs.getD t20_16.toNat dSArc).To))))], [.box (bSNet a0_n), .box (bSArc (a0_n.Arcs.getD t20_16.toNat dSArc))]⟩) (sub_gen [0, 1] rfl rfl (zall rfl rfl) ⟨bx rfl rfl rfl, bx rfl rfl rfl, trivial⟩) (SOps.nil ?_)))))))))))
    rcases cond_out h with ⟨g37, h⟩ | ⟨g37, h⟩
    ·refine SCode.cond_t rfl g37 (SCode.seq (SCode.region (sa rfl rfl (SOps.nil (SCode.ret ?_)))))
     obtain rfl := Option.some.inj h
     exact ⟨⟨[(2, ci 1)], []⟩, _, sub_gen [] rfl rfl (zall rfl rfl) trivial, resA1 (v := .c (.int .i64 1)) rfl rfl, rfl⟩
    refine SCode.cond_f rfl g37 (SCode.skip (SCode.seq ?_))
    rcases cond_out h with ⟨g38, h⟩ | ⟨g38, h⟩
    ·refine SCode.region (sq rfl rfl (q_field_ptr rfl rfl fd54_2) (sq rfl rfl (q_load_ptr rfl rfl rfl rfl ty3) (sq rfl rfl (q_lss rfl rfl rfl) (sm rfl rfl (SOps.skip rfl 3 44 false rfl rfl (.inl (gT g38)) rfl (SOps.skip rfl 3 44 false rfl rfl (.inl (gT g38)) rfl (SOps.skip rfl 3 44 false rfl rfl (.inl (gT g38)) rfl (sq rfl rfl (q_pick_t rfl rfl g38 rfl) (SOps.nil (SCode.cond_t rfl rfl (SCode.seq (SCode.region (sa rfl rfl (SOps.nil (SCode.ret ?_)))))))))))))))
     obtain rfl := Option.some.inj h
     exact ⟨⟨[(2, ci 2)], []⟩, _, sub_gen [] rfl rfl (zall rfl rfl) trivial, resA1 (v := .c (.int .i64 2)) rfl rfl, rfl⟩
    refine SCode.region (sq rfl rfl (q_field_ptr rfl rfl fd54_2) (sq rfl rfl (q_load_ptr rfl rfl rfl rfl ty3) (sq rfl rfl (q_lss rfl rfl rfl) (sm rfl rfl (SOps.q rfl (.guard 3 44 false rfl rfl (gF g38)) rfl (q_field_ptr rfl rfl fd54_2) (SOps.q rfl (.guard 3 44 false rfl rfl (gF g38)) rfl (q_load_ptr rfl rfl rfl rfl ty3) (SOps.q rfl (.guard 3 44 false rfl rfl (gF g38)) rfl (q_gtr rfl rfl rfl) (sq rfl rfl (q_pick_f rfl rfl g38 rfl) (SOps.nil ?_)))))))))
    rcases cond_out h with ⟨g39, h⟩ | ⟨g39, h⟩
    ·refine SCode.cond_t rfl g39 (SCode.seq (SCode.region (sa rfl rfl (SOps.nil (SCode.ret ?_)))))
     obtain rfl := Option.some.inj h
     exact ⟨⟨[(2, ci 2)], []⟩, _, sub_gen [] rfl rfl (zall rfl rfl) trivial, resA1 (v := .c (.int .i64 2)) rfl rfl, rfl⟩
    refine SCode.cond_f rfl g39 (SCode.skip (SCode.region (sq rfl rfl (q_add rfl rfl rfl) (sm rfl rfl (SOps.nil ?_)))))
    exact ⟨(n_28, IntKind.wrap .i64 (t20_16 + 1)), h, Nat.lt_succ_self n_28, sub_gen [0] rfl rfl (zall rfl rfl) ⟨bx rfl rfl rfl, trivial⟩⟩
   refine SCode.cond_f rfl g29 (SCode.exit ?_)
   exact ⟨(), h, sub_gen [] rfl rfl trivial trivial⟩
 rintro ⟨⟩ h
 show SCode _ _ _ S3 _
 try dsimp only at h
 unfold flow_Valid_p4 at h
 refine SCode.seq (SCode.region (sa rfl rfl (SOps.nil (SCode.ret ?_))))
 obtain rfl := Option.some.inj h
 exact ⟨⟨[(2, ci 0)], []⟩, _, sub_gen [] rfl rfl (zall rfl rfl) trivial, resA1 (v := .c (.int .i64 0)) rfl rfl, rfl⟩
theorem flow_valid_ok (F : Nat) (a0_n : SNet) (a1_source : Int) (a2_sink : Int) (r : Int) (h : flow_valid F a0_n a1_source a2_sink = some r) :
  SFun Try.prog 26 [] [.a (bSNet a0_n), ci a1_source, ci a2_sink] (fun x _ => x = ci r) := by
 refine SFun.of (n := 28) Try.func26 rfl rfl rfl ?_
 unfold flow_valid at h
 show SCode _ _ _ ⟨[(0, .a (bSNet a0_n)), (1, ci a1_source), (2, ci a2_sink)], []⟩ _
 refine SCode.seq (SCode.region (se rfl rfl (e_box rfl rfl rfl rfl rfl rfl) (sa rfl rfl (SOps.nil (SCode.seq (SCode.seq ?_))))))
 obtain ⟨c_1, g2, h⟩ := bind_out h
 try dsimp only at h
 refine SCode.region (sq rfl rfl (q_load_ptr_all rfl rfl rfl rfl rfl ty40) (sq rfl rfl (q_call (flow_Valid_ok F a0_n c_1 g2) [] rfl fn29 ⟨⟨rfl, rfl⟩, trivial⟩ (.inl rfl)) (sa rfl rfl (SOps.nil (SCode.seq (SCode.region (sm rfl rfl (sq rfl rfl (q_neq rfl rfl rfl) (SOps.nil ?_)))))))))
 rcases cond_out h with ⟨g3, h⟩ | ⟨g3, h⟩
 ·refine SCode.cond_t rfl g3 (SCode.seq (SCode.region (sm rfl rfl (sa rfl rfl (SOps.nil (SCode.ret ?_))))))
  obtain rfl := Option.some.inj h
  exact ⟨⟨[(6, ci c_1)], []⟩, _, sub_gen [] rfl rfl (zall rfl rfl) trivial, resA1 (v := .c (.int .i64 c_1)) rfl rfl, rfl⟩
 refine SCode.cond_f rfl g3 (SCode.skip (SCode.seq (SCode.seq ?_)))
 obtain ⟨c_4, g5, h⟩ := bind_out h
 try dsimp only at h
 rcases cond_out h with ⟨g6, h⟩ | ⟨g6, h⟩
 ·refine SCode.region (sq rfl rfl (q_load_ptr_all rfl rfl rfl rfl rfl ty40) (sm rfl rfl (sq rfl rfl (q_call (flow_isNode_ok F a0_n a1_source c_4 g5) [] rfl fn30 ⟨⟨rfl, rfl⟩, ⟨_, rfl, .inl ⟨rfl, rfl⟩⟩, trivial⟩ (.inl rfl)) (sq rfl rfl (q_not rfl rfl) (sm rfl rfl (SOps.skip rfl 4 17 false rfl rfl (.inl (gT g6)) rfl (SOps.skip rfl 4 17 false rfl rfl (.inl (gT g6)) rfl (SOps.skip rfl 4 17 false rfl rfl (.inl (gT g6)) rfl (SOps.skip rfl 4 17 false rfl rfl (.inl (gT g6)) rfl (sq rfl rfl (q_pick_t rfl rfl g6 rfl) (sm rfl rfl (SOps.skip rfl 10 23 false rfl rfl (.inl rfl) rfl (SOps.skip rfl 10 23 false rfl rfl (.inl rfl) rfl (SOps.skip rfl 10 23 false rfl rfl (.inl rfl) rfl (sq rfl rfl (q_pick_t rfl rfl rfl rfl) ?_)))))))))))))))
  refine SOps.sub (st' := ⟨[(27, .c (.bool true))], []⟩) (sub_gen [] rfl rfl (zall rfl rfl) trivial) (SOps.nil (SCode.cond_t rfl rfl (SCode.seq (SCode.region (sa rfl rfl (SOps.nil (SCode.ret ?_)))))))
  obtain rfl := Option.some.inj h
  exact ⟨⟨[(6, ci 2)], []⟩, _, sub_gen [] rfl rfl (zall rfl rfl) trivial, resA1 (v := .c (.int .i64 2)) rfl rfl, rfl⟩
 obtain ⟨c_7, g8, h⟩ := bind_out h
 try dsimp only at h
 rcases cond_out h with ⟨g9, h⟩ | ⟨g9, h⟩
 ·refine SCode.region (sq rfl rfl (q_load_ptr_all rfl rfl rfl rfl rfl ty40) (sm rfl rfl (sq rfl rfl (q_call (flow_isNode_ok F a0_n a1_source c_4 g5) [] rfl fn30 ⟨⟨rfl, rfl⟩, ⟨_, rfl, .inl ⟨rfl, rfl⟩⟩, trivial⟩ (.inl rfl)) (sq rfl rfl (q_not rfl rfl) (sm rfl rfl (SOps.q rfl (.guard 4 17 false rfl rfl (gF g6)) rfl (q_load_ptr_all rfl rfl rfl rfl rfl ty40) (SOps.q rfl (.guard 4 17 false rfl rfl (gF g6)) rfl (q_move rfl rfl) (SOps.q rfl (.guard 4 17 false rfl rfl (gF g6)) rfl (q_call (flow_isNode_ok F a0_n a2_sink c_7 g8) [] rfl fn30 ⟨⟨rfl, rfl⟩, ⟨_, rfl, .inl ⟨rfl, rfl⟩⟩, trivial⟩ (.inl rfl)) (SOps.q rfl (.guard 4 17 false rfl rfl (gF g6)) rfl (q_not rfl rfl) (sq rfl rfl (q_pick_f rfl rfl g6 rfl) (sm rfl rfl (SOps.skip rfl 10 23 false rfl rfl (.inl (gT g9)) rfl (SOps.skip rfl 10 23 false rfl rfl (.inl (gT g9)) rfl (SOps.skip rfl 10 23 false rfl rfl (.inl (gT g9)) rfl (sq rfl rfl (q_pick_t rfl rfl g9 rfl) ?_)))))))))))))))
  refine SOps.sub (st' := ⟨[(27, .c (.bool true))], []⟩) (sub_gen [] rfl rfl (zall rfl rfl) trivial) (SOps.nil (SCode.cond_t rfl rfl (SCode.seq (SCode.region (sa rfl rfl (SOps.nil (SCode.ret ?_)))))))
  obtain rfl := Option.some.inj h
  exact ⟨⟨[(6, ci 2)], []⟩, _, sub_gen [] rfl rfl (zall rfl rfl) trivial, resA1 (v := .c (.int .i64 2)) rfl rfl, rfl⟩
 refine SCode.region (sq rfl rfl (q_load_ptr_all rfl rfl rfl rfl rfl ty40) (sm rfl rfl (sq rfl rfl (q_call (flow_isNode_ok F a0_n a1_source c_4 g5) [] rfl fn30 ⟨⟨rfl, rfl⟩, ⟨_, rfl, .inl ⟨rfl, rfl⟩⟩, trivial⟩ (.inl rfl)) (sq rfl rfl (q_not rfl rfl) (sm rfl rfl (SOps.q rfl (.guard 4 17 false rfl rfl (gF g6)) rfl (q_load_ptr_all rfl rfl rfl rfl rfl ty40) (SOps.q rfl (.guard 4 17 false rfl rfl (gF g6)) rfl (q_move rfl rfl) (SOps.q rfl (.guard 4 17 false rfl rfl (gF g6)) rfl (q_call (flow_isNode_ok F a0_n a2_sink c_7 g8) [] rfl fn30 ⟨⟨rfl, rfl⟩, ⟨_, rfl, .inl ⟨rfl, rfl⟩⟩, trivial⟩ (.inl rfl)) (SOps.q rfl (.guard 4 17 false rfl rfl (gF g6)) rfl (q_not rfl rfl) (sq rfl rfl (q_pick_f rfl rfl g6 rfl) (sm rfl rfl (SOps.q rfl (.guard 10 23 false rfl rfl (gF g9)) rfl (q_move rfl rfl) (SOps.q rfl (.guard 10 23 false rfl rfl (gF g9)) rfl (q_move rfl rfl) (SOps.q rfl (.guard 10 23 false rfl rfl (gF g9)) rfl (q_eql rfl rfl rfl) (sq rfl rfl (q_pick_f rfl rfl g9 rfl) ?_)))))))))))))))
 refine SOps.sub (st' := ⟨[(27, .c (.bool (decide (a1_source = a2_sink))))], []⟩) (sub_gen [] rfl rfl (zall rfl rfl) trivial) (SOps.nil ?_)
 rcases cond_out h with ⟨g10, h⟩ | ⟨g10, h⟩
 ·refine SCode.cond_t rfl g10 (SCode.seq (SCode.region (sa rfl rfl (SOps.nil (SCode.ret ?_)))))
  obtain rfl := Option.some.inj h
  exact ⟨⟨[(6, ci 2)], []⟩, _, sub_gen [] rfl rfl (zall rfl rfl) trivial, resA1 (v := .c (.int .i64 2)) rfl rfl, rfl⟩
 refine SCode.cond_f rfl g10 (SCode.skip (SCode.seq (SCode.region (sa rfl rfl (SOps.nil (SCode.ret ?_))))))
 obtain rfl := Option.some.inj h
 exact ⟨⟨[(6, ci 0)], []⟩, _, sub_gen [] rfl rfl (zall rfl rfl) trivial, resA1 (v := .c (.int .i64 0)) rfl rfl, rfl⟩
end Go.Proofs.Ytmiikbfacgmopaa.W
