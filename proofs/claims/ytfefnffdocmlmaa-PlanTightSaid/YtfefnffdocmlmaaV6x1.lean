/- Written by a program of ours (wip/eng/gen.py): the functions compute their models. -/
import Derived.Test.YtfefnffdocmlmaaFacts
namespace Go.Proofs.Ytfefnffdocmlmaa.W
open Go Go.Proofs Go.Proofs.Ytfefnffdocmlmaa.E Go.Proofs.Ytfefnffdocmlmaa.M
set_option linter.unusedVariables false
set_option maxRecDepth 100000 in
set_option maxHeartbeats 8000000 in
theorem plan_forest_ok (F : Nat) (a0_p : SProblem) (r : Bool) (h : plan_forest F a0_p = some r) :
  SFun Try.prog 24 [] [.a (bSProblem a0_p)] (fun x _ => x = .c (.bool r)) := by
 refine SFun.of (n := 52) Try.func24 rfl rfl rfl ?_
 unfold plan_forest at h
 show SCode _ _ _ ⟨[(0, .a (bSProblem a0_p))], []⟩ _
 refine SCode.seq ?_
 refine SCode.region (show SOps _ _ _ [0, 1] _ _ from ?_)
 refine se rfl rfl (e_box rfl rfl rfl rfl rfl rfl) (sa rfl rfl rfl rfl rfl (SOps.nil ?_))
 refine SCode.join (σ := Unit) (S := fun s => ⟨[(1, .c (.ptr 0 0))], [.box (bSProblem a0_p)]⟩) (g := fun s => plan_forest_p58 F a0_p = some r) ?_ ?_
 rotate_left
 ·refine SCode.seq ?_
  refine SCode.region (show SOps _ _ _ [0, 1, 2, 3] _ _ from ?_)
  refine sq rfl rfl rfl (q_field_ptr rfl rfl fd26_0) (sq rfl rfl rfl (q_load_ptr rfl rfl rfl rfl ty22) (sq rfl rfl rfl (q_len_vec rfl rfl sl22) (sm rfl rfl rfl rfl rfl (SOps.nil (SCode.block (SCode.sub (st' := ⟨[(1, .c (.ptr 0 0)), (10, .c (vI a0_p.Parents)), (11, ci (((a0_p.Parents).length : Int))), (12, ci 0)], [.box (bSProblem a0_p)]⟩) (sub_gen [0] rfl rfl (zall rfl rfl) ⟨bx rfl rfl rfl, trivial⟩) ?_))))))
  refine (SCode.loop (σ := Nat × Int) (S := fun s => ⟨[(1, .c (.ptr 0 0)), (10, .c (vI a0_p.Parents)), (11, ci (((a0_p.Parents).length : Int))), (12, ci s.2)], [.box (bSProblem a0_p)]⟩) (g := fun s => plan_forest_l68 F a0_p s.1 s.2 = some r) (μ := fun s => s.1) (F, 0) h ?_)
  rintro ⟨n_68, t12_63⟩ h
  replace h : plan_forest_l68 F a0_p n_68 t12_63 = some r := h
  show SCode _ _ _ ⟨[(1, .c (.ptr 0 0)), (10, .c (vI a0_p.Parents)), (11, ci (((a0_p.Parents).length : Int))), (12, ci t12_63)], [.box (bSProblem a0_p)]⟩ _
  cases n_68 with
  | zero => cases h
  | succ n_68 =>
   replace h : plan_forest_b68 F a0_p (fun t12_63 => plan_forest_l68 F a0_p n_68 t12_63) t12_63 = some r := h
   unfold plan_forest_b68 at h
   refine SCode.seq ?_
   refine SCode.region (show SOps _ _ _ [0] _ _ from ?_)
   refine sq rfl rfl rfl (q_lss rfl rfl rfl) (SOps.nil (SCode.seq ?_))
   rcases cond_out h with ⟨g69, h⟩ | ⟨g69, h⟩
   ·refine SCode.cond_t rfl g69 (SCode.skip (SCode.seq (SCode.block (SCode.seq ?_))))
    obtain ⟨g70, h⟩ := guard_out h
    refine SCode.region (show SOps _ _ _ [0, 1, 2, 3, 4] _ _ from ?_)
    refine sm rfl rfl rfl rfl rfl (sq rfl rfl rfl (q_index_vec rfl rfl rfl sl22 rfl g70.1 g70.2) (sq rfl rfl rfl (q_load_eptr rfl rfl ty3) (sa rfl rfl rfl rfl rfl (sa rfl rfl rfl rfl rfl (SOps.nil (SCode.seq ?_))))))
    rcases cond_out h with ⟨g71, h⟩ | ⟨g71, h⟩
    ·refine SCode.region (show SOps _ _ _ [0, 1, 2, 3, 4, 5, 6] _ _ from ?_)
     refine sm rfl rfl rfl rfl rfl (sq rfl rfl rfl (q_lss rfl rfl rfl) (sm rfl rfl rfl rfl rfl (SOps.skip rfl 2 19 false rfl rfl (.inl (gT g71)) rfl (SOps.skip rfl 2 19 false rfl rfl (.inl (gT g71)) rfl (SOps.skip rfl 2 19 false rfl rfl (.inl (gT g71)) rfl (sq rfl rfl rfl (q_pick_t rfl rfl g71 rfl) (SOps.nil (SCode.cond_t rfl rfl (SCode.seq ?_)))))))))
     refine SCode.region (show SOps _ _ _ [0] _ _ from ?_)
     refine sa rfl rfl rfl rfl rfl (SOps.nil (SCode.ret ?_))
     obtain rfl := Option.some.inj h
     exact ⟨⟨[(2, .c (.bool false))], []⟩, _, sub_gen [] rfl rfl (zall rfl rfl) trivial, resA1 (v := .c (.bool false)) rfl rfl, rfl⟩
    refine SCode.region (show SOps _ _ _ [0, 1, 2, 3, 4, 5, 6] _ _ from ?_)
    refine sm rfl rfl rfl rfl rfl (sq rfl rfl rfl (q_lss rfl rfl rfl) (sm rfl rfl rfl rfl rfl (SOps.q rfl (.guard 2 19 false rfl rfl (gF g71)) rfl (q_move rfl rfl) (SOps.q rfl (.guard 2 19 false rfl rfl (gF g71)) rfl (q_move rfl rfl) (SOps.q rfl (.guard 2 19 false rfl rfl (gF g71)) rfl (q_geq rfl rfl rfl) (sq rfl rfl rfl (q_pick_f rfl rfl g71 rfl) (SOps.nil ?_)))))))
    rcases cond_out h with ⟨g72, h⟩ | ⟨g72, h⟩
    ·refine SCode.cond_t rfl g72 (SCode.seq ?_)
     refine SCode.region (show SOps _ _ _ [0] _ _ from ?_)
     refine sa rfl rfl rfl rfl rfl (SOps.nil (SCode.ret ?_))
     obtain rfl := Option.some.inj h
     exact ⟨⟨[(2, .c (.bool false))], []⟩, _, sub_gen [] rfl rfl (zall rfl rfl) trivial, resA1 (v := .c (.bool false)) rfl rfl, rfl⟩
    refine SCode.cond_f rfl g72 (SCode.skip ?_)
    refine SCode.region (show SOps _ _ _ [0, 1] _ _ from ?_)
    refine sq rfl rfl rfl (q_add rfl rfl rfl) (sm rfl rfl rfl rfl rfl (SOps.nil ?_))
    exact ⟨(n_68, IntKind.wrap .i64 (t12_63 + 1)), h, Nat.lt_succ_self n_68, sub_gen [0] rfl rfl (zall rfl rfl) ⟨bx rfl rfl rfl, trivial⟩⟩
   refine SCode.cond_f rfl g69 (SCode.exit ?_)
   exact ⟨(), h, sub_gen [0] rfl rfl (zall rfl rfl) ⟨bx rfl rfl rfl, trivial⟩⟩
 rintro ⟨⟩ h
 show SCode _ _ _ ⟨[(1, .c (.ptr 0 0))], [.box (bSProblem a0_p)]⟩ _
 replace h : plan_forest_p58 F a0_p = some r := h
 unfold plan_forest_p58 at h
 refine SCode.join (σ := Unit) (S := fun s => ⟨[], []⟩) (g := fun s => plan_forest_p1 = some r) ?_ ?_
 rotate_left
 ·refine SCode.seq ?_
  refine SCode.region (show SOps _ _ _ [0, 1, 2, 3] _ _ from ?_)
  refine sq rfl rfl rfl (q_field_ptr rfl rfl fd26_1) (sq rfl rfl rfl (q_load_ptr rfl rfl rfl rfl ty23) (sq rfl rfl rfl (q_len_vec rfl rfl sl23) (sm rfl rfl rfl rfl rfl (SOps.nil (SCode.block (SCode.sub (st' := ⟨[(1, .c (.ptr 0 0)), (26, .c (vR a0_p.Caps)), (27, ci (((a0_p.Caps).length : Int))), (28, ci 0)], [.box (bSProblem a0_p)]⟩) (sub_gen [0] rfl rfl (zall rfl rfl) ⟨bx rfl rfl rfl, trivial⟩) ?_))))))
  refine (SCode.loop (σ := Nat × Int) (S := fun s => ⟨[(1, .c (.ptr 0 0)), (26, .c (vR a0_p.Caps)), (27, ci (((a0_p.Caps).length : Int))), (28, ci s.2)], [.box (bSProblem a0_p)]⟩) (g := fun s => plan_forest_l39 F a0_p s.1 s.2 = some r) (μ := fun s => s.1) (F, 0) h ?_)
  rintro ⟨n_39, t28_20⟩ h
  replace h : plan_forest_l39 F a0_p n_39 t28_20 = some r := h
  show SCode _ _ _ ⟨[(1, .c (.ptr 0 0)), (26, .c (vR a0_p.Caps)), (27, ci (((a0_p.Caps).length : Int))), (28, ci t28_20)], [.box (bSProblem a0_p)]⟩ _
  cases n_39 with
  | zero => cases h
  | succ n_39 =>
   replace h : plan_forest_b39 F a0_p (fun t28_20 => plan_forest_l39 F a0_p n_39 t28_20) t28_20 = some r := h
   unfold plan_forest_b39 at h
   refine SCode.seq ?_
   refine SCode.region (show SOps _ _ _ [0] _ _ from ?_)
   refine sq rfl rfl rfl (q_lss rfl rfl rfl) (SOps.nil (SCode.seq ?_))
   rcases cond_out h with ⟨g40, h⟩ | ⟨g40, h⟩
   ·refine SCode.cond_t rfl g40 (SCode.skip ?_)
    refine SCode.join (σ := Unit) (S := fun s => ⟨[(1, .c (.ptr 0 0)), (26, .c (vR a0_p.Caps)), (27, ci (((a0_p.Caps).length : Int))), (28, ci t28_20)], [.box (bSProblem a0_p)]⟩) (g := fun s => plan_forest_p41 t28_20 (fun t28_20 => plan_forest_l39 F a0_p n_39 t28_20) = some r) ?_ ?_
    rotate_left
    ·refine SCode.block (SCode.seq ?_)
     obtain ⟨g42, h⟩ := guard_out h
     refine SCode.region (show SOps _ _ _ [0, 1, 2] _ _ from ?_)
     refine sq rfl rfl rfl (q_index_vec rfl rfl rfl sl23 rfl g42.1 g42.2) (sq rfl rfl rfl (q_load_eptr rfl rfl ty22) (sa rfl rfl rfl rfl rfl (SOps.nil (SCode.seq (SCode.seq ?_)))))
     refine SCode.region (show SOps _ _ _ [0, 1, 2, 3, 4, 5] _ _ from ?_)
     refine sm rfl rfl rfl rfl rfl (sq rfl rfl rfl (q_len_vec rfl rfl sl22) (sq rfl rfl rfl (q_field_ptr rfl rfl fd26_0) (sq rfl rfl rfl (q_load_ptr rfl rfl rfl rfl ty22) (sq rfl rfl rfl (q_len_vec rfl rfl sl22) (sq rfl rfl rfl (q_neq rfl rfl rfl) (SOps.nil ?_))))))
     rcases cond_out h with ⟨g43, h⟩ | ⟨g43, h⟩
     ·refine SCode.cond_t rfl g43 (SCode.seq ?_)
      refine SCode.region (show SOps _ _ _ [0] _ _ from ?_)
      refine sa rfl rfl rfl rfl rfl (SOps.nil (SCode.ret ?_))
      obtain rfl := Option.some.inj h
      exact ⟨⟨[(2, .c (.bool false))], []⟩, _, sub_gen [] rfl rfl (zall rfl rfl) trivial, resA1 (v := .c (.bool false)) rfl rfl, rfl⟩
     refine SCode.cond_f rfl g43 (SCode.skip (SCode.seq ?_))
     refine SCode.region (show SOps _ _ _ [0, 1, 2] _ _ from ?_)
     refine sm rfl rfl rfl rfl rfl (sq rfl rfl rfl (q_len_vec rfl rfl sl22) (sm rfl rfl rfl rfl rfl (SOps.nil (SCode.block (SCode.sub (st' := ⟨[(1, .c (.ptr 0 0)), (26, .c (vR a0_p.Caps)), (27, ci (((a0_p.Caps).length : Int))), (28, ci t28_20), (38, .c (vI (a0_p.Caps.getD t28_20.toNat ([])))), (39, ci (((a0_p.Caps.getD t28_20.toNat ([])).length : Int))), (40, ci 0)], [.box (bSProblem a0_p)]⟩) (sub_gen [0] rfl rfl (zall rfl rfl) ⟨bx rfl rfl rfl, trivial⟩) ?_)))))
     refine (SCode.loop (σ := Nat × Int) (S := fun s => ⟨[(1, .c (.ptr 0 0)), (26, .c (vR a0_p.Caps)), (27, ci (((a0_p.Caps).length : Int))), (28, ci t28_20), (38, .c (vI (a0_p.Caps.getD t28_20.toNat ([])))), (39, ci (((a0_p.Caps.getD t28_20.toNat ([])).length : Int))), (40, ci s.2)], [.box (bSProblem a0_p)]⟩) (g := fun s => plan_forest_l53 a0_p t28_20 (fun t28_20 => plan_forest_l39 F a0_p n_39 t28_20) s.1 s.2 = some r) (μ := fun s => s.1) (F, 0) h ?_)
     rintro ⟨n_53, t40_48⟩ h
     replace h : plan_forest_l53 a0_p t28_20 (fun t28_20 => plan_forest_l39 F a0_p n_39 t28_20) n_53 t40_48 = some r := h
     show SCode _ _ _ ⟨[(1, .c (.ptr 0 0)), (26, .c (vR a0_p.Caps)), (27, ci (((a0_p.Caps).length : Int))), (28, ci t28_20), (38, .c (vI (a0_p.Caps.getD t28_20.toNat ([])))), (39, ci (((a0_p.Caps.getD t28_20.toNat ([])).length : Int))), (40, ci t40_48)], [.box (bSProblem a0_p)]⟩ _
     cases n_53 with
     | zero => cases h
     | succ n_53 =>
      replace h : plan_forest_b53 a0_p t28_20 (fun t28_20 => plan_forest_l39 F a0_p n_39 t28_20) (fun t40_48 => plan_forest_l53 a0_p t28_20 (fun t28_20 => plan_forest_l39 F a0_p n_39 t28_20) n_53 t40_48) t40_48 = some r := h
      unfold plan_forest_b53 at h
      refine SCode.seq ?_
      refine SCode.region (show SOps _ _ _ [0] _ _ from ?_)
      refine sq rfl rfl rfl (q_lss rfl rfl rfl) (SOps.nil (SCode.seq ?_))
      rcases cond_out h with ⟨g54, h⟩ | ⟨g54, h⟩
      ·refine SCode.cond_t rfl g54 (SCode.skip (SCode.seq (SCode.block (SCode.seq ?_))))
       obtain ⟨g55, h⟩ := guard_out h
       refine SCode.region (show SOps _ _ _ [0, 1, 2] _ _ from ?_)
       refine sq rfl rfl rfl (q_index_vec rfl rfl rfl sl22 rfl g55.1 g55.2) (sq rfl rfl rfl (q_load_eptr rfl rfl ty3) (sa rfl rfl rfl rfl rfl (SOps.nil (SCode.seq ?_))))
       rcases cond_out h with ⟨g56, h⟩ | ⟨g56, h⟩
       ·refine SCode.region (show SOps _ _ _ [0, 1, 2, 3, 4, 5] _ _ from ?_)
        refine sm rfl rfl rfl rfl rfl (sq rfl rfl rfl (q_lss rfl rfl rfl) (sm rfl rfl rfl rfl rfl (SOps.skip rfl 2 46 false rfl rfl (.inl (gT g56)) rfl (SOps.skip rfl 2 46 false rfl rfl (.inl (gT g56)) rfl (sq rfl rfl rfl (q_pick_t rfl rfl g56 rfl) (SOps.nil (SCode.cond_t rfl rfl (SCode.seq ?_))))))))
        refine SCode.region (show SOps _ _ _ [0] _ _ from ?_)
        refine sa rfl rfl rfl rfl rfl (SOps.nil (SCode.ret ?_))
        obtain rfl := Option.some.inj h
        exact ⟨⟨[(2, .c (.bool false))], []⟩, _, sub_gen [] rfl rfl (zall rfl rfl) trivial, resA1 (v := .c (.bool false)) rfl rfl, rfl⟩
       refine SCode.region (show SOps _ _ _ [0, 1, 2, 3, 4, 5] _ _ from ?_)
       refine sm rfl rfl rfl rfl rfl (sq rfl rfl rfl (q_lss rfl rfl rfl) (sm rfl rfl rfl rfl rfl (SOps.q rfl (.guard 2 46 false rfl rfl (gF g56)) rfl (q_move rfl rfl) (SOps.q rfl (.guard 2 46 false rfl rfl (gF g56)) rfl (q_gtr rfl rfl rfl) (sq rfl rfl rfl (q_pick_f rfl rfl g56 rfl) (SOps.nil ?_))))))
       rcases cond_out h with ⟨g57, h⟩ | ⟨g57, h⟩
       ·refine SCode.cond_t rfl g57 (SCode.seq ?_)
        refine SCode.region (show SOps _ _ _ [0] _ _ from ?_)
        refine sa rfl rfl rfl rfl rfl (SOps.nil (SCode.ret ?_))
        obtain rfl := Option.some.inj h
        exact ⟨⟨[(2, .c (.bool false))], []⟩, _, sub_gen [] rfl rfl (zall rfl rfl) trivial, resA1 (v := .c (.bool false)) rfl rfl, rfl⟩
       refine SCode.cond_f rfl g57 (SCode.skip ?_)
       refine SCode.region (show SOps _ _ _ [0, 1] _ _ from ?_)
       refine sq rfl rfl rfl (q_add rfl rfl rfl) (sm rfl rfl rfl rfl rfl (SOps.nil ?_))
       exact ⟨(n_53, IntKind.wrap .i64 (t40_48 + 1)), h, Nat.lt_succ_self n_53, sub_gen [0] rfl rfl (zall rfl rfl) ⟨bx rfl rfl rfl, trivial⟩⟩
      refine SCode.cond_f rfl g54 (SCode.exit ?_)
      exact ⟨(), h, sub_gen [0] rfl rfl (zall rfl rfl) ⟨bx rfl rfl rfl, trivial⟩⟩
    rintro ⟨⟩ h
    show SCode _ _ _ ⟨[(1, .c (.ptr 0 0)), (26, .c (vR a0_p.Caps)), (27, ci (((a0_p.Caps).length : Int))), (28, ci t28_20)], [.box (bSProblem a0_p)]⟩ _
    replace h : plan_forest_p41 t28_20 (fun t28_20 => plan_forest_l39 F a0_p n_39 t28_20) = some r := h
    unfold plan_forest_p41 at h
    refine SCode.region (show SOps _ _ _ [0, 1] _ _ from ?_)
    refine sq rfl rfl rfl (q_add rfl rfl rfl) (sm rfl rfl rfl rfl rfl (SOps.nil ?_))
    exact ⟨(n_39, IntKind.wrap .i64 (t28_20 + 1)), h, Nat.lt_succ_self n_39, sub_gen [0] rfl rfl (zall rfl rfl) ⟨bx rfl rfl rfl, trivial⟩⟩
   refine SCode.cond_f rfl g40 (SCode.exit ?_)
   exact ⟨(), h, sub_gen [] rfl rfl trivial trivial⟩
 rintro ⟨⟩ h
 show SCode _ _ _ ⟨[], []⟩ _
 replace h : plan_forest_p1 = some r := h
 unfold plan_forest_p1 at h
 refine SCode.seq ?_
 refine SCode.region (show SOps _ _ _ [0] _ _ from ?_)
 refine sa rfl rfl rfl rfl rfl (SOps.nil (SCode.ret ?_))
 obtain rfl := Option.some.inj h
 exact ⟨⟨[(2, .c (.bool true))], []⟩, _, sub_gen [] rfl rfl (zall rfl rfl) trivial, resA1 (v := .c (.bool true)) rfl rfl, rfl⟩
set_option maxRecDepth 100000 in
set_option maxHeartbeats 8000000 in
theorem plan_Valid_ok (F : Nat) (a0_p : SProblem) (r : Int) (h : plan_Valid F a0_p = some r) :
  SFun Try.prog 11 [] [.a (bSProblem a0_p)] (fun x _ => x = ci r) := by
 refine SFun.of (n := 117) Try.func11 rfl rfl rfl ?_
 unfold plan_Valid at h
 show SCode _ _ _ ⟨[(0, .a (bSProblem a0_p))], []⟩ _
 refine SCode.seq ?_
 refine SCode.region (show SOps _ _ _ [0, 1] _ _ from ?_)
 refine se rfl rfl (e_box rfl rfl rfl rfl rfl rfl) (sa rfl rfl rfl rfl rfl (SOps.nil (SCode.seq (SCode.sub (st' := ⟨[(1, .c (.ptr 0 0))], [.box (bSProblem a0_p)]⟩) (sub_gen [0] rfl rfl (zall rfl rfl) ⟨bx rfl rfl rfl, trivial⟩) ?_))))
 refine SCode.draw (s' := [(4, ci (((a0_p.Caps).length : Int))), (3, ci (((a0_p.Parents).length : Int))), (12, ci (((a0_p.Caps).length : Int))), (11, .c (vR a0_p.Caps)), (10, .c (.ptr 0 1)), (9, ci (((a0_p.Parents).length : Int))), (8, .c (vI a0_p.Parents)), (7, .c (.ptr 0 0)), (1, .c (.ptr 0 0))]) mixed [[], [0], [0, 1], [], [3], [3, 4], [0, 1, 2], [0, 1, 2, 3, 4, 5, 6]] 8 0 rfl rfl ?_ ?_
 ·refine QChain.run rfl (.plain rfl) rfl (q_field_ptr rfl rfl fd26_0) (QChain.run rfl (.plain rfl) rfl (q_load_ptr rfl rfl rfl rfl ty22) (QChain.run rfl (.plain rfl) rfl (q_len_vec rfl rfl sl22) (QChain.run rfl (.plain rfl) rfl (q_field_ptr rfl rfl fd26_1) (QChain.run rfl (.plain rfl) rfl (q_load_ptr rfl rfl rfl rfl ty23) (QChain.run rfl (.plain rfl) rfl (q_len_vec rfl rfl sl23) (QChain.run rfl (.plain rfl) rfl (q_assign rfl rfl) (QChain.run rfl (.plain rfl) rfl (q_assign rfl rfl) ?_)))))))
  exact QChain.nil _ _
 refine (show SOps _ _ _ [] _ _ from ?_)
 refine SOps.sub (st' := ⟨[(1, .c (.ptr 0 0)), (3, ci (((a0_p.Parents).length : Int))), (4, ci (((a0_p.Caps).length : Int)))], [.box (bSProblem a0_p)]⟩) (sub_gen [0] rfl rfl (zall rfl rfl) ⟨bx rfl rfl rfl, trivial⟩) (SOps.nil (SCode.seq (SCode.seq ?_)))
 rcases cond_out h with ⟨g1, h⟩ | ⟨g1, h⟩
 ·refine SCode.region (show SOps _ _ _ [0, 1, 2, 3, 4, 5, 6, 7, 8, 9, 10, 11] _ _ from ?_)
  refine sm rfl rfl rfl rfl rfl (sq rfl rfl rfl (q_gtr rfl rfl rfl) (sm rfl rfl rfl rfl rfl (SOps.skip rfl 2 15 false rfl rfl (.inl (gT g1)) rfl (SOps.skip rfl 2 15 false rfl rfl (.inl (gT g1)) rfl (sq rfl rfl rfl (q_pick_t rfl rfl g1 rfl) (sm rfl rfl rfl rfl rfl (SOps.skip rfl 6 19 false rfl rfl (.inl rfl) rfl (SOps.skip rfl 6 19 false rfl rfl (.inl rfl) rfl (SOps.skip rfl 6 19 false rfl rfl (.inl rfl) rfl ?_)))))))))
  refine SOps.skip rfl 6 19 false rfl rfl (.inl rfl) rfl (sq rfl rfl rfl (q_pick_t rfl rfl rfl rfl) (SOps.nil (SCode.cond_t rfl rfl (SCode.seq ?_))))
  refine SCode.region (show SOps _ _ _ [0] _ _ from ?_)
  refine sa rfl rfl rfl rfl rfl (SOps.nil (SCode.ret ?_))
  obtain rfl := Option.some.inj h
  exact ⟨⟨[(2, ci 3)], []⟩, _, sub_gen [] rfl rfl (zall rfl rfl) trivial, resA1 (v := .c (.int .i64 3)) rfl rfl, rfl⟩
 rcases cond_out h with ⟨g2, h⟩ | ⟨g2, h⟩
 ·refine SCode.region (show SOps _ _ _ [0, 1, 2, 3, 4, 5, 6, 7, 8, 9, 10, 11] _ _ from ?_)
  refine sm rfl rfl rfl rfl rfl (sq rfl rfl rfl (q_gtr rfl rfl rfl) (sm rfl rfl rfl rfl rfl (SOps.q rfl (.guard 2 15 false rfl rfl (gF g1)) rfl (q_move rfl rfl) (SOps.q rfl (.guard 2 15 false rfl rfl (gF g1)) rfl (q_gtr rfl rfl rfl) (sq rfl rfl rfl (q_pick_f rfl rfl g1 rfl) (sm rfl rfl rfl rfl rfl (SOps.skip rfl 6 19 false rfl rfl (.inl (gT g2)) rfl (SOps.skip rfl 6 19 false rfl rfl (.inl (gT g2)) rfl (SOps.skip rfl 6 19 false rfl rfl (.inl (gT g2)) rfl ?_)))))))))
  refine SOps.skip rfl 6 19 false rfl rfl (.inl (gT g2)) rfl (sq rfl rfl rfl (q_pick_t rfl rfl g2 rfl) (SOps.nil (SCode.cond_t rfl rfl (SCode.seq ?_))))
  refine SCode.region (show SOps _ _ _ [0] _ _ from ?_)
  refine sa rfl rfl rfl rfl rfl (SOps.nil (SCode.ret ?_))
  obtain rfl := Option.some.inj h
  exact ⟨⟨[(2, ci 3)], []⟩, _, sub_gen [] rfl rfl (zall rfl rfl) trivial, resA1 (v := .c (.int .i64 3)) rfl rfl, rfl⟩
 refine SCode.region (show SOps _ _ _ [0, 1, 2, 3, 4, 5, 6, 7, 8, 9, 10, 11] _ _ from ?_)
 refine sm rfl rfl rfl rfl rfl (sq rfl rfl rfl (q_gtr rfl rfl rfl) (sm rfl rfl rfl rfl rfl (SOps.q rfl (.guard 2 15 false rfl rfl (gF g1)) rfl (q_move rfl rfl) (SOps.q rfl (.guard 2 15 false rfl rfl (gF g1)) rfl (q_gtr rfl rfl rfl) (sq rfl rfl rfl (q_pick_f rfl rfl g1 rfl) (sm rfl rfl rfl rfl rfl (SOps.q rfl (.guard 6 19 false rfl rfl (gF g2)) rfl (q_field_ptr rfl rfl fd26_4) (SOps.q rfl (.guard 6 19 false rfl rfl (gF g2)) rfl (q_load_ptr rfl rfl rfl rfl ty24) (SOps.q rfl (.guard 6 19 false rfl rfl (gF g2)) rfl (q_len_vec rfl rfl sl24) ?_)))))))))
 refine SOps.q rfl (.guard 6 19 false rfl rfl (gF g2)) rfl (q_gtr rfl rfl rfl) (sq rfl rfl rfl (q_pick_f rfl rfl g2 rfl) (SOps.nil ?_))
 rcases cond_out h with ⟨g3, h⟩ | ⟨g3, h⟩
 ·refine SCode.cond_t rfl g3 (SCode.seq ?_)
  refine SCode.region (show SOps _ _ _ [0] _ _ from ?_)
  refine sa rfl rfl rfl rfl rfl (SOps.nil (SCode.ret ?_))
  obtain rfl := Option.some.inj h
  exact ⟨⟨[(2, ci 3)], []⟩, _, sub_gen [] rfl rfl (zall rfl rfl) trivial, resA1 (v := .c (.int .i64 3)) rfl rfl, rfl⟩
 refine SCode.cond_f rfl g3 (SCode.skip (SCode.seq (SCode.seq ?_)))
 refine SCode.region (show SOps _ _ _ [0, 1, 2, 3, 4, 5, 6, 7, 8] _ _ from ?_)
 refine sq rfl rfl rfl (q_field_ptr rfl rfl fd26_4) (sq rfl rfl rfl (q_load_ptr rfl rfl rfl rfl ty24) (sq rfl rfl rfl (q_len_vec rfl rfl sl24) (sq rfl rfl rfl (q_add rfl rfl rfl) (sm rfl rfl rfl rfl rfl (sm rfl rfl rfl rfl rfl (sq rfl rfl rfl (q_mul rfl rfl rfl) (sq rfl rfl rfl (q_add rfl rfl rfl) (sq rfl rfl rfl (q_gtr rfl rfl rfl) (SOps.sub (st' := ⟨[(1, .c (.ptr 0 0)), (3, ci (((a0_p.Parents).length : Int))), (4, ci (((a0_p.Caps).length : Int))), (33, .c (.bool (decide (256 < IntKind.wrap .i64 (IntKind.wrap .i64 (2 + ((a0_p.Demands).length : Int)) + IntKind.wrap .i64 (((a0_p.Caps).length : Int) * ((a0_p.Parents).length : Int)))))))], [.box (bSProblem a0_p)]⟩) (sub_gen [0] rfl rfl (zall rfl rfl) ⟨bx rfl rfl rfl, trivial⟩) ?_)))))))))
 refine SOps.nil ?_
 rcases cond_out h with ⟨g4, h⟩ | ⟨g4, h⟩
 ·refine SCode.cond_t rfl g4 (SCode.seq ?_)
  refine SCode.region (show SOps _ _ _ [0] _ _ from ?_)
  refine sa rfl rfl rfl rfl rfl (SOps.nil (SCode.ret ?_))
  obtain rfl := Option.some.inj h
  exact ⟨⟨[(2, ci 3)], []⟩, _, sub_gen [] rfl rfl (zall rfl rfl) trivial, resA1 (v := .c (.int .i64 3)) rfl rfl, rfl⟩
 refine SCode.cond_f rfl g4 (SCode.skip (SCode.seq (SCode.seq ?_)))
 rcases cond_out h with ⟨g5, h⟩ | ⟨g5, h⟩
 ·refine SCode.region (show SOps _ _ _ [0, 1, 2, 3, 4, 5, 6] _ _ from ?_)
  refine sm rfl rfl rfl rfl rfl (sq rfl rfl rfl (q_eql rfl rfl rfl) (sm rfl rfl rfl rfl rfl (SOps.skip rfl 2 36 false rfl rfl (.inl (gT g5)) rfl (SOps.skip rfl 2 36 false rfl rfl (.inl (gT g5)) rfl (SOps.skip rfl 2 36 false rfl rfl (.inl (gT g5)) rfl (sq rfl rfl rfl (q_pick_t rfl rfl g5 rfl) (SOps.nil (SCode.cond_t rfl rfl (SCode.seq ?_)))))))))
  refine SCode.region (show SOps _ _ _ [0] _ _ from ?_)
  refine sa rfl rfl rfl rfl rfl (SOps.nil (SCode.ret ?_))
  obtain rfl := Option.some.inj h
  exact ⟨⟨[(2, ci 1)], []⟩, _, sub_gen [] rfl rfl (zall rfl rfl) trivial, resA1 (v := .c (.int .i64 1)) rfl rfl, rfl⟩
 obtain ⟨c_6, g7, h⟩ := bind_out h
 try dsimp only at h
 refine SCode.region (show SOps _ _ _ [0, 1, 2, 3, 4, 5, 6] _ _ from ?_)
 refine sm rfl rfl rfl rfl rfl (sq rfl rfl rfl (q_eql rfl rfl rfl) (sm rfl rfl rfl rfl rfl (SOps.q rfl (.guard 2 36 false rfl rfl (gF g5)) rfl (q_load_ptr_all rfl rfl rfl rfl rfl ty26) (SOps.q rfl (.guard 2 36 false rfl rfl (gF g5)) rfl (q_call (plan_forest_ok F a0_p c_6 g7) [] rfl fn24 ⟨⟨rfl, rfl⟩, trivial⟩ (.inl rfl)) (SOps.q rfl (.guard 2 36 false rfl rfl (gF g5)) rfl (q_not rfl rfl) (sq rfl rfl rfl (q_pick_f rfl rfl g5 rfl) (SOps.nil ?_)))))))
 rcases cond_out h with ⟨g8, h⟩ | ⟨g8, h⟩
 ·refine SCode.cond_t rfl g8 (SCode.seq ?_)
  refine SCode.region (show SOps _ _ _ [0] _ _ from ?_)
  refine sa rfl rfl rfl rfl rfl (SOps.nil (SCode.ret ?_))
  obtain rfl := Option.some.inj h
  exact ⟨⟨[(2, ci 1)], []⟩, _, sub_gen [] rfl rfl (zall rfl rfl) trivial, resA1 (v := .c (.int .i64 1)) rfl rfl, rfl⟩
 refine SCode.cond_f rfl g8 (SCode.skip (SCode.seq (SCode.seq ?_)))
 rcases cond_out h with ⟨g9, h⟩ | ⟨g9, h⟩
 ·refine SCode.region (show SOps _ _ _ [0, 1, 2, 3, 4, 5, 6, 7, 8, 9, 10, 11, 12, 13, 14, 15, 16, 17] _ _ from ?_)
  refine sq rfl rfl rfl (q_field_ptr rfl rfl fd26_2) (sq rfl rfl rfl (q_load_ptr rfl rfl rfl rfl ty3) (sq rfl rfl rfl (q_lss rfl rfl rfl) (sm rfl rfl rfl rfl rfl (SOps.skip rfl 3 44 false rfl rfl (.inl (gT g9)) rfl (SOps.skip rfl 3 44 false rfl rfl (.inl (gT g9)) rfl (SOps.skip rfl 3 44 false rfl rfl (.inl (gT g9)) rfl (sq rfl rfl rfl (q_pick_t rfl rfl g9 rfl) (sm rfl rfl rfl rfl rfl (SOps.skip rfl 8 49 false rfl rfl (.inl rfl) rfl ?_)))))))))
  refine SOps.skip rfl 8 49 false rfl rfl (.inl rfl) rfl (SOps.skip rfl 8 49 false rfl rfl (.inl rfl) rfl (sq rfl rfl rfl (q_pick_t rfl rfl rfl rfl) (sm rfl rfl rfl rfl rfl (SOps.skip rfl 13 54 false rfl rfl (.inl rfl) rfl (SOps.skip rfl 13 54 false rfl rfl (.inl rfl) rfl (SOps.skip rfl 13 54 false rfl rfl (.inl rfl) rfl (sq rfl rfl rfl (q_pick_t rfl rfl rfl rfl) (SOps.sub (st' := ⟨[(1, .c (.ptr 0 0)), (3, ci (((a0_p.Parents).length : Int))), (4, ci (((a0_p.Caps).length : Int))), (58, .c (.bool true))], [.box (bSProblem a0_p)]⟩) (sub_gen [0] rfl rfl (zall rfl rfl) ⟨bx rfl rfl rfl, trivial⟩) (SOps.nil ?_)))))))))
  refine SCode.cond_t rfl rfl (SCode.seq ?_)
  refine SCode.region (show SOps _ _ _ [0] _ _ from ?_)
  refine sa rfl rfl rfl rfl rfl (SOps.nil (SCode.ret ?_))
  obtain rfl := Option.some.inj h
  exact ⟨⟨[(2, ci 2)], []⟩, _, sub_gen [] rfl rfl (zall rfl rfl) trivial, resA1 (v := .c (.int .i64 2)) rfl rfl, rfl⟩
 rcases cond_out h with ⟨g10, h⟩ | ⟨g10, h⟩
 ·refine SCode.region (show SOps _ _ _ [0, 1, 2, 3, 4, 5, 6, 7, 8, 9, 10, 11, 12, 13, 14, 15, 16, 17] _ _ from ?_)
  refine sq rfl rfl rfl (q_field_ptr rfl rfl fd26_2) (sq rfl rfl rfl (q_load_ptr rfl rfl rfl rfl ty3) (sq rfl rfl rfl (q_lss rfl rfl rfl) (sm rfl rfl rfl rfl rfl (SOps.q rfl (.guard 3 44 false rfl rfl (gF g9)) rfl (q_field_ptr rfl rfl fd26_2) (SOps.q rfl (.guard 3 44 false rfl rfl (gF g9)) rfl (q_load_ptr rfl rfl rfl rfl ty3) (SOps.q rfl (.guard 3 44 false rfl rfl (gF g9)) rfl (q_gtr rfl rfl rfl) (sq rfl rfl rfl (q_pick_f rfl rfl g9 rfl) (sm rfl rfl rfl rfl rfl (SOps.skip rfl 8 49 false rfl rfl (.inl (gT g10)) rfl ?_)))))))))
  refine SOps.skip rfl 8 49 false rfl rfl (.inl (gT g10)) rfl (SOps.skip rfl 8 49 false rfl rfl (.inl (gT g10)) rfl (sq rfl rfl rfl (q_pick_t rfl rfl g10 rfl) (sm rfl rfl rfl rfl rfl (SOps.skip rfl 13 54 false rfl rfl (.inl rfl) rfl (SOps.skip rfl 13 54 false rfl rfl (.inl rfl) rfl (SOps.skip rfl 13 54 false rfl rfl (.inl rfl) rfl (sq rfl rfl rfl (q_pick_t rfl rfl rfl rfl) (SOps.sub (st' := ⟨[(1, .c (.ptr 0 0)), (3, ci (((a0_p.Parents).length : Int))), (4, ci (((a0_p.Caps).length : Int))), (58, .c (.bool true))], [.box (bSProblem a0_p)]⟩) (sub_gen [0] rfl rfl (zall rfl rfl) ⟨bx rfl rfl rfl, trivial⟩) (SOps.nil ?_)))))))))
  refine SCode.cond_t rfl rfl (SCode.seq ?_)
  refine SCode.region (show SOps _ _ _ [0] _ _ from ?_)
  refine sa rfl rfl rfl rfl rfl (SOps.nil (SCode.ret ?_))
  obtain rfl := Option.some.inj h
  exact ⟨⟨[(2, ci 2)], []⟩, _, sub_gen [] rfl rfl (zall rfl rfl) trivial, resA1 (v := .c (.int .i64 2)) rfl rfl, rfl⟩
 rcases cond_out h with ⟨g11, h⟩ | ⟨g11, h⟩
 ·refine SCode.region (show SOps _ _ _ [0, 1, 2, 3, 4, 5, 6, 7, 8, 9, 10, 11, 12, 13, 14, 15, 16, 17] _ _ from ?_)
  refine sq rfl rfl rfl (q_field_ptr rfl rfl fd26_2) (sq rfl rfl rfl (q_load_ptr rfl rfl rfl rfl ty3) (sq rfl rfl rfl (q_lss rfl rfl rfl) (sm rfl rfl rfl rfl rfl (SOps.q rfl (.guard 3 44 false rfl rfl (gF g9)) rfl (q_field_ptr rfl rfl fd26_2) (SOps.q rfl (.guard 3 44 false rfl rfl (gF g9)) rfl (q_load_ptr rfl rfl rfl rfl ty3) (SOps.q rfl (.guard 3 44 false rfl rfl (gF g9)) rfl (q_gtr rfl rfl rfl) (sq rfl rfl rfl (q_pick_f rfl rfl g9 rfl) (sm rfl rfl rfl rfl rfl (SOps.q rfl (.guard 8 49 false rfl rfl (gF g10)) rfl (q_field_ptr rfl rfl fd26_3) ?_)))))))))
  refine SOps.q rfl (.guard 8 49 false rfl rfl (gF g10)) rfl (q_load_ptr rfl rfl rfl rfl ty3) (SOps.q rfl (.guard 8 49 false rfl rfl (gF g10)) rfl (q_lss rfl rfl rfl) (sq rfl rfl rfl (q_pick_f rfl rfl g10 rfl) (sm rfl rfl rfl rfl rfl (SOps.skip rfl 13 54 false rfl rfl (.inl (gT g11)) rfl (SOps.skip rfl 13 54 false rfl rfl (.inl (gT g11)) rfl (SOps.skip rfl 13 54 false rfl rfl (.inl (gT g11)) rfl (sq rfl rfl rfl (q_pick_t rfl rfl g11 rfl) (SOps.sub (st' := ⟨[(1, .c (.ptr 0 0)), (3, ci (((a0_p.Parents).length : Int))), (4, ci (((a0_p.Caps).length : Int))), (58, .c (.bool true))], [.box (bSProblem a0_p)]⟩) (sub_gen [0] rfl rfl (zall rfl rfl) ⟨bx rfl rfl rfl, trivial⟩) (SOps.nil ?_)))))))))
  refine SCode.cond_t rfl rfl (SCode.seq ?_)
  refine SCode.region (show SOps _ _ _ [0] _ _ from ?_)
  refine sa rfl rfl rfl rfl rfl (SOps.nil (SCode.ret ?_))
  obtain rfl := Option.some.inj h
  exact ⟨⟨[(2, ci 2)], []⟩, _, sub_gen [] rfl rfl (zall rfl rfl) trivial, resA1 (v := .c (.int .i64 2)) rfl rfl, rfl⟩
 refine SCode.region (show SOps _ _ _ [0, 1, 2, 3, 4, 5, 6, 7, 8, 9, 10, 11, 12, 13, 14, 15, 16, 17] _ _ from ?_)
 refine sq rfl rfl rfl (q_field_ptr rfl rfl fd26_2) (sq rfl rfl rfl (q_load_ptr rfl rfl rfl rfl ty3) (sq rfl rfl rfl (q_lss rfl rfl rfl) (sm rfl rfl rfl rfl rfl (SOps.q rfl (.guard 3 44 false rfl rfl (gF g9)) rfl (q_field_ptr rfl rfl fd26_2) (SOps.q rfl (.guard 3 44 false rfl rfl (gF g9)) rfl (q_load_ptr rfl rfl rfl rfl ty3) (SOps.q rfl (.guard 3 44 false rfl rfl (gF g9)) rfl (q_gtr rfl rfl rfl) (sq rfl rfl rfl (q_pick_f rfl rfl g9 rfl) (sm rfl rfl rfl rfl rfl (SOps.q rfl (.guard 8 49 false rfl rfl (gF g10)) rfl (q_field_ptr rfl rfl fd26_3) ?_)))))))))
 refine SOps.q rfl (.guard 8 49 false rfl rfl (gF g10)) rfl (q_load_ptr rfl rfl rfl rfl ty3) (SOps.q rfl (.guard 8 49 false rfl rfl (gF g10)) rfl (q_lss rfl rfl rfl) (sq rfl rfl rfl (q_pick_f rfl rfl g10 rfl) (sm rfl rfl rfl rfl rfl (SOps.q rfl (.guard 13 54 false rfl rfl (gF g11)) rfl (q_field_ptr rfl rfl fd26_3) (SOps.q rfl (.guard 13 54 false rfl rfl (gF g11)) rfl (q_load_ptr rfl rfl rfl rfl ty3) (SOps.q rfl (.guard 13 54 false rfl rfl (gF g11)) rfl (q_gtr rfl rfl rfl) (sq rfl rfl rfl (q_pick_f rfl rfl g11 rfl) (SOps.sub (st' := ⟨[(1, .c (.ptr 0 0)), (3, ci (((a0_p.Parents).length : Int))), (4, ci (((a0_p.Caps).length : Int))), (58, .c (.bool (decide (1440 < a0_p.Length))))], [.box (bSProblem a0_p)]⟩) (sub_gen [0] rfl rfl (zall rfl rfl) ⟨bx rfl rfl rfl, trivial⟩) (SOps.nil ?_)))))))))
 rcases cond_out h with ⟨g12, h⟩ | ⟨g12, h⟩
 ·refine SCode.cond_t rfl g12 (SCode.seq ?_)
  refine SCode.region (show SOps _ _ _ [0] _ _ from ?_)
  refine sa rfl rfl rfl rfl rfl (SOps.nil (SCode.ret ?_))
  obtain rfl := Option.some.inj h
  exact ⟨⟨[(2, ci 2)], []⟩, _, sub_gen [] rfl rfl (zall rfl rfl) trivial, resA1 (v := .c (.int .i64 2)) rfl rfl, rfl⟩
 refine SCode.cond_f rfl g12 (SCode.skip (SCode.seq (SCode.seq ?_)))
 refine SCode.region (show SOps _ _ _ [0, 1, 2, 3, 4, 5, 6, 7] _ _ from ?_)
 refine sq rfl rfl rfl (q_field_ptr rfl rfl fd26_2) (sq rfl rfl rfl (q_load_ptr rfl rfl rfl rfl ty3) (sm rfl rfl rfl rfl rfl (sq rfl rfl rfl (q_field_ptr rfl rfl fd26_3) (sq rfl rfl rfl (q_load_ptr rfl rfl rfl rfl ty3) (sq rfl rfl rfl (q_mul rfl rfl rfl) (sq rfl rfl rfl (q_add rfl rfl rfl) (sq rfl rfl rfl (q_gtr rfl rfl rfl) (SOps.nil ?_))))))))
 rcases cond_out h with ⟨g13, h⟩ | ⟨g13, h⟩
 ·refine SCode.cond_t rfl g13 (SCode.seq ?_)
  refine SCode.region (show SOps _ _ _ [0] _ _ from ?_)
  refine sa rfl rfl rfl rfl rfl (SOps.nil (SCode.ret ?_))
  obtain rfl := Option.some.inj h
  exact ⟨⟨[(2, ci 2)], []⟩, _, sub_gen [] rfl rfl (zall rfl rfl) trivial, resA1 (v := .c (.int .i64 2)) rfl rfl, rfl⟩
 refine SCode.cond_f rfl g13 (SCode.skip ?_)
 refine SCode.join (σ := Unit) (S := fun s => ⟨[], []⟩) (g := fun s => plan_Valid_p14 = some r) ?_ ?_
 rotate_left
 ·refine SCode.seq ?_
  refine SCode.region (show SOps _ _ _ [0, 1, 2, 3] _ _ from ?_)
  refine sq rfl rfl rfl (q_field_ptr rfl rfl fd26_4) (sq rfl rfl rfl (q_load_ptr rfl rfl rfl rfl ty24) (sq rfl rfl rfl (q_len_vec rfl rfl sl24) (sm rfl rfl rfl rfl rfl (SOps.nil (SCode.block (SCode.sub (st' := ⟨[(3, ci (((a0_p.Parents).length : Int))), (68, .c (vSDemand a0_p.Demands)), (69, ci (((a0_p.Demands).length : Int))), (70, ci 0)], []⟩) (sub_gen [] rfl rfl (zall rfl rfl) trivial) ?_))))))
  refine (SCode.loop (σ := Nat × Int) (S := fun s => ⟨[(3, ci (((a0_p.Parents).length : Int))), (68, .c (vSDemand a0_p.Demands)), (69, ci (((a0_p.Demands).length : Int))), (70, ci s.2)], []⟩) (g := fun s => plan_Valid_l38 a0_p s.1 s.2 = some r) (μ := fun s => s.1) (F, 0) h ?_)
  rintro ⟨n_38, t70_26⟩ h
  replace h : plan_Valid_l38 a0_p n_38 t70_26 = some r := h
  show SCode _ _ _ ⟨[(3, ci (((a0_p.Parents).length : Int))), (68, .c (vSDemand a0_p.Demands)), (69, ci (((a0_p.Demands).length : Int))), (70, ci t70_26)], []⟩ _
  cases n_38 with
  | zero => cases h
  | succ n_38 =>
   replace h : plan_Valid_b38 a0_p (fun t70_26 => plan_Valid_l38 a0_p n_38 t70_26) t70_26 = some r := h
   unfold plan_Valid_b38 at h
   refine SCode.seq ?_
   refine SCode.region (show SOps _ _ _ [0] _ _ from ?_)
   refine sq rfl rfl rfl (q_lss rfl rfl rfl) (SOps.nil (SCode.seq ?_))
   rcases cond_out h with ⟨g39, h⟩ | ⟨g39, h⟩
   ·refine SCode.cond_t rfl g39 (SCode.skip (SCode.seq (SCode.block (SCode.seq ?_))))
    obtain ⟨g40, h⟩ := guard_out h
    refine SCode.region (show SOps _ _ _ [0, 1, 2, 3] _ _ from ?_)
    refine sq rfl rfl rfl (q_index_vec rfl rfl rfl sl24 rfl g40.1 g40.2) (sq rfl rfl rfl (q_load_eptr_all rfl rfl rfl ty39) (se rfl rfl (e_alloc rfl rfl rfl z39) (se rfl rfl (e_store_box rfl rfl rfl rfl rfl ty39 rfl rfl rfl rfl) (SOps.nil (SCode.seq (SCode.seq ?_))))))
    rcases cond_out h with ⟨g41, h⟩ | ⟨g41, h⟩
    ·refine SCode.region (show SOps _ _ _ [0, 1, 2, 3, 4, 5, 6, 7, 8] _ _ from ?_)
     refine sq rfl rfl rfl (q_field_ptr rfl rfl fd39_0) (sq rfl rfl rfl (q_load_ptr rfl rfl rfl rfl ty3) (sq rfl rfl rfl (q_lss rfl rfl rfl) (sm rfl rfl rfl rfl rfl (SOps.skip rfl 3 77 false rfl rfl (.inl (gT g41)) rfl (SOps.skip rfl 3 77 false rfl rfl (.inl (gT g41)) rfl (SOps.skip rfl 3 77 false rfl rfl (.inl (gT g41)) rfl (SOps.skip rfl 3 77 false rfl rfl (.inl (gT g41)) rfl (sq rfl rfl rfl (q_pick_t rfl rfl g41 rfl) (SOps.nil ?_)))))))))
     refine SCode.cond_t rfl rfl (SCode.seq ?_)
     refine SCode.region (show SOps _ _ _ [0] _ _ from ?_)
     refine sa rfl rfl rfl rfl rfl (SOps.nil (SCode.ret ?_))
     obtain rfl := Option.some.inj h
     exact ⟨⟨[(2, ci 1)], []⟩, _, sub_gen [] rfl rfl (zall rfl rfl) trivial, resA1 (v := .c (.int .i64 1)) rfl rfl, rfl⟩
    refine SCode.region (show SOps _ _ _ [0, 1, 2, 3, 4, 5, 6, 7, 8] _ _ from ?_)
    refine sq rfl rfl rfl (q_field_ptr rfl rfl fd39_0) (sq rfl rfl rfl (q_load_ptr rfl rfl rfl rfl ty3) (sq rfl rfl rfl (q_lss rfl rfl rfl) (sm rfl rfl rfl rfl rfl (SOps.q rfl (.guard 3 77 false rfl rfl (gF g41)) rfl (q_field_ptr rfl rfl fd39_0) (SOps.q rfl (.guard 3 77 false rfl rfl (gF g41)) rfl (q_load_ptr rfl rfl rfl rfl ty3) (SOps.q rfl (.guard 3 77 false rfl rfl (gF g41)) rfl (q_move rfl rfl) (SOps.q rfl (.guard 3 77 false rfl rfl (gF g41)) rfl (q_geq rfl rfl rfl) (sq rfl rfl rfl (q_pick_f rfl rfl g41 rfl) (SOps.nil ?_)))))))))
    rcases cond_out h with ⟨g42, h⟩ | ⟨g42, h⟩
    ·refine SCode.cond_t rfl g42 (SCode.seq ?_)
     refine SCode.region (show SOps _ _ _ [0] _ _ from ?_)
     refine sa rfl rfl rfl rfl rfl (SOps.nil (SCode.ret ?_))
     obtain rfl := Option.some.inj h
     exact ⟨⟨[(2, ci 1)], []⟩, _, sub_gen [] rfl rfl (zall rfl rfl) trivial, resA1 (v := .c (.int .i64 1)) rfl rfl, rfl⟩
    refine SCode.cond_f rfl g42 (SCode.skip (SCode.seq (SCode.seq ?_)))
    rcases cond_out h with ⟨g43, h⟩ | ⟨g43, h⟩
    ·refine SCode.region (show SOps _ _ _ [0, 1, 2, 3, 4, 5, 6, 7, 8, 9, 10, 11, 12, 13, 14, 15, 16, 17] _ _ from ?_)
     refine sq rfl rfl rfl (q_field_ptr rfl rfl fd39_1) (sq rfl rfl rfl (q_load_ptr rfl rfl rfl rfl ty3) (sq rfl rfl rfl (q_lss rfl rfl rfl) (sm rfl rfl rfl rfl rfl (SOps.skip rfl 3 86 false rfl rfl (.inl (gT g43)) rfl (SOps.skip rfl 3 86 false rfl rfl (.inl (gT g43)) rfl (SOps.skip rfl 3 86 false rfl rfl (.inl (gT g43)) rfl (sq rfl rfl rfl (q_pick_t rfl rfl g43 rfl) (sm rfl rfl rfl rfl rfl (SOps.skip rfl 8 91 false rfl rfl (.inl rfl) rfl ?_)))))))))
     refine SOps.skip rfl 8 91 false rfl rfl (.inl rfl) rfl (SOps.skip rfl 8 91 false rfl rfl (.inl rfl) rfl (sq rfl rfl rfl (q_pick_t rfl rfl rfl rfl) (sm rfl rfl rfl rfl rfl (SOps.skip rfl 13 96 false rfl rfl (.inl rfl) rfl (SOps.skip rfl 13 96 false rfl rfl (.inl rfl) rfl (SOps.skip rfl 13 96 false rfl rfl (.inl rfl) rfl (sq rfl rfl rfl (q_pick_t rfl rfl rfl rfl) (SOps.sub (st' := ⟨[(3, ci (((a0_p.Parents).length : Int))), (6, .c (.ptr 0 0)), (68, .c (vSDemand a0_p.Demands)), (69, ci (((a0_p.Demands).length : Int))), (70, ci t70_26), (100, .c (.bool true))], [.box (bSDemand (a0_p.Demands.getD t70_26.toNat dSDemand))]⟩) (sub_gen [0] rfl rfl (zall rfl rfl) ⟨bx rfl rfl rfl, trivial⟩) (SOps.nil ?_)))))))))
     refine SCode.cond_t rfl rfl (SCode.seq ?_)
     refine SCode.region (show SOps _ _ _ [0] _ _ from ?_)
     refine sa rfl rfl rfl rfl rfl (SOps.nil (SCode.ret ?_))
     obtain rfl := Option.some.inj h
     exact ⟨⟨[(2, ci 2)], []⟩, _, sub_gen [] rfl rfl (zall rfl rfl) trivial, resA1 (v := .c (.int .i64 2)) rfl rfl, rfl⟩
    rcases cond_out h with ⟨g44, h⟩ | ⟨g44, h⟩
    ·refine SCode.region (show SOps _ _ _ [0, 1, 2, 3, 4, 5, 6, 7, 8, 9, 10, 11, 12, 13, 14, 15, 16, 17] _ _ from ?_)
     refine sq rfl rfl rfl (q_field_ptr rfl rfl fd39_1) (sq rfl rfl rfl (q_load_ptr rfl rfl rfl rfl ty3) (sq rfl rfl rfl (q_lss rfl rfl rfl) (sm rfl rfl rfl rfl rfl (SOps.q rfl (.guard 3 86 false rfl rfl (gF g43)) rfl (q_field_ptr rfl rfl fd39_1) (SOps.q rfl (.guard 3 86 false rfl rfl (gF g43)) rfl (q_load_ptr rfl rfl rfl rfl ty3) (SOps.q rfl (.guard 3 86 false rfl rfl (gF g43)) rfl (q_gtr rfl rfl rfl) (sq rfl rfl rfl (q_pick_f rfl rfl g43 rfl) (sm rfl rfl rfl rfl rfl (SOps.skip rfl 8 91 false rfl rfl (.inl (gT g44)) rfl ?_)))))))))
     refine SOps.skip rfl 8 91 false rfl rfl (.inl (gT g44)) rfl (SOps.skip rfl 8 91 false rfl rfl (.inl (gT g44)) rfl (sq rfl rfl rfl (q_pick_t rfl rfl g44 rfl) (sm rfl rfl rfl rfl rfl (SOps.skip rfl 13 96 false rfl rfl (.inl rfl) rfl (SOps.skip rfl 13 96 false rfl rfl (.inl rfl) rfl (SOps.skip rfl 13 96 false rfl rfl (.inl rfl) rfl (sq rfl rfl rfl (q_pick_t rfl rfl rfl rfl) (SOps.sub (st' := ⟨[(3, ci (((a0_p.Parents).length : Int))), (6, .c (.ptr 0 0)), (68, .c (vSDemand a0_p.Demands)), (69, ci (((a0_p.Demands).length : Int))), (70, ci t70_26), (100, .c (.bool true))], [.box (bSDemand (a0_p.Demands.getD t70_26.toNat dSDemand))]⟩) (sub_gen [0] rfl rfl (zall rfl rfl) ⟨bx rfl rfl rfl, trivial⟩) (SOps.nil ?_)))))))))
     refine SCode.cond_t rfl rfl (SCode.seq ?_)
     refine SCode.region (show SOps _ _ _ [0] _ _ from ?_)
     refine sa rfl rfl rfl rfl rfl (SOps.nil (SCode.ret ?_))
     obtain rfl := Option.some.inj h
     exact ⟨⟨[(2, ci 2)], []⟩, _, sub_gen [] rfl rfl (zall rfl rfl) trivial, resA1 (v := .c (.int .i64 2)) rfl rfl, rfl⟩
    rcases cond_out h with ⟨g45, h⟩ | ⟨g45, h⟩
    ·refine SCode.region (show SOps _ _ _ [0, 1, 2, 3, 4, 5, 6, 7, 8, 9, 10, 11, 12, 13, 14, 15, 16, 17] _ _ from ?_)
     refine sq rfl rfl rfl (q_field_ptr rfl rfl fd39_1) (sq rfl rfl rfl (q_load_ptr rfl rfl rfl rfl ty3) (sq rfl rfl rfl (q_lss rfl rfl rfl) (sm rfl rfl rfl rfl rfl (SOps.q rfl (.guard 3 86 false rfl rfl (gF g43)) rfl (q_field_ptr rfl rfl fd39_1) (SOps.q rfl (.guard 3 86 false rfl rfl (gF g43)) rfl (q_load_ptr rfl rfl rfl rfl ty3) (SOps.q rfl (.guard 3 86 false rfl rfl (gF g43)) rfl (q_gtr rfl rfl rfl) (sq rfl rfl rfl (q_pick_f rfl rfl g43 rfl) (sm rfl rfl rfl rfl rfl (SOps.q rfl (.guard 8 91 false rfl rfl (gF g44)) rfl (q_field_ptr rfl rfl fd39_2) ?_)))))))))
     refine SOps.q rfl (.guard 8 91 false rfl rfl (gF g44)) rfl (q_load_ptr rfl rfl rfl rfl ty3) (SOps.q rfl (.guard 8 91 false rfl rfl (gF g44)) rfl (q_lss rfl rfl rfl) (sq rfl rfl rfl (q_pick_f rfl rfl g44 rfl) (sm rfl rfl rfl rfl rfl (SOps.skip rfl 13 96 false rfl rfl (.inl (gT g45)) rfl (SOps.skip rfl 13 96 false rfl rfl (.inl (gT g45)) rfl (SOps.skip rfl 13 96 false rfl rfl (.inl (gT g45)) rfl (sq rfl rfl rfl (q_pick_t rfl rfl g45 rfl) (SOps.sub (st' := ⟨[(3, ci (((a0_p.Parents).length : Int))), (6, .c (.ptr 0 0)), (68, .c (vSDemand a0_p.Demands)), (69, ci (((a0_p.Demands).length : Int))), (70, ci t70_26), (100, .c (.bool true))], [.box (bSDemand (a0_p.Demands.getD t70_26.toNat dSDemand))]⟩) (sub_gen [0] rfl rfl (zall rfl rfl) ⟨bx rfl rfl rfl, trivial⟩) (SOps.nil ?_)))))))))
     refine SCode.cond_t rfl rfl (SCode.seq ?_)
     refine SCode.region (show SOps _ _ _ [0] _ _ from ?_)
     refine sa rfl rfl rfl rfl rfl (SOps.nil (SCode.ret ?_))
     obtain rfl := Option.some.inj h
     exact ⟨⟨[(2, ci 2)], []⟩, _, sub_gen [] rfl rfl (zall rfl rfl) trivial, resA1 (v := .c (.int .i64 2)) rfl rfl, rfl⟩
    refine SCode.region (show SOps _ _ _ [0, 1, 2, 3, 4, 5, 6, 7, 8, 9, 10, 11, 12, 13, 14, 15, 16, 17] _ _ from ?_)
    refine sq rfl rfl rfl (q_field_ptr rfl rfl fd39_1) (sq rfl rfl rfl (q_load_ptr rfl rfl rfl rfl ty3) (sq rfl rfl rfl (q_lss rfl rfl rfl) (sm rfl rfl rfl rfl rfl (SOps.q rfl (.guard 3 86 false rfl rfl (gF g43)) rfl (q_field_ptr rfl rfl fd39_1) (SOps.q rfl (.guard 3 86 false rfl rfl (gF g43)) rfl (q_load_ptr rfl rfl rfl rfl ty3) (SOps.q rfl (.guard 3 86 false rfl rfl (gF g43)) rfl (q_gtr rfl rfl rfl) (sq rfl rfl rfl (q_pick_f rfl rfl g43 rfl) (sm rfl rfl rfl rfl rfl (SOps.q rfl (.guard 8 91 false rfl rfl (gF g44)) rfl (q_field_ptr rfl rfl fd39_2) ?_)))))))))
    refine SOps.q rfl (.guard 8 91 false rfl rfl (gF g44)) rfl (q_load_ptr rfl rfl rfl rfl ty3) (SOps.q rfl (.guard 8 91 false rfl rfl (gF g44)) rfl (q_lss rfl rfl rfl) (sq rfl rfl rfl (q_pick_f rfl rfl g44 rfl) (sm rfl rfl rfl rfl rfl (SOps.q rfl (.guard 13 96 false rfl rfl (gF g45)) rfl (q_field_ptr rfl rfl fd39_2) (SOps.q rfl (.guard 13 96 false rfl rfl (gF g45)) rfl (q_load_ptr rfl rfl rfl rfl ty3) (SOps.q rfl (.guard 13 96 false rfl rfl (gF g45)) rfl (q_gtr rfl rfl rfl) (sq rfl rfl rfl (q_pick_f rfl rfl g45 rfl) (SOps.sub (st' := ⟨[(3, ci (((a0_p.Parents).length : Int))), (6, .c (.ptr 0 0)), (68, .c (vSDemand a0_p.Demands)), (69, ci (((a0_p.Demands).length : Int))), (70, ci t70_26), (100, .c (.bool (decide (1099511627776 < (a0_p.Demands.getD t70_26.toNat dSDemand).Energy))))], [.box (bSDemand (a0_p.Demands.getD t70_26.toNat dSDemand))]⟩) (sub_gen [0] rfl rfl (zall rfl rfl) ⟨bx rfl rfl rfl, trivial⟩) (SOps.nil ?_)))))))))
    rcases cond_out h with ⟨g46, h⟩ | ⟨g46, h⟩
    ·refine SCode.cond_t rfl g46 (SCode.seq ?_)
     refine SCode.region (show SOps _ _ _ [0] _ _ from ?_)
     refine sa rfl rfl rfl rfl rfl (SOps.nil (SCode.ret ?_))
     obtain rfl := Option.some.inj h
     exact ⟨⟨[(2, ci 2)], []⟩, _, sub_gen [] rfl rfl (zall rfl rfl) trivial, resA1 (v := .c (.int .i64 2)) rfl rfl, rfl⟩
    refine SCode.cond_f rfl g46 (SCode.skip (SCode.seq ?_))
    rcases cond_out h with ⟨g47, h⟩ | ⟨g47, h⟩
    ·refine SCode.region (show SOps _ _ _ [0, 1, 2, 3, 4, 5, 6, 7, 8, 9, 10, 11, 12, 13, 14] _ _ from ?_)
     refine sq rfl rfl rfl (q_field_ptr rfl rfl fd39_3) (sq rfl rfl rfl (q_load_ptr rfl rfl rfl rfl ty3) (sq rfl rfl rfl (q_lss rfl rfl rfl) (sm rfl rfl rfl rfl rfl (SOps.skip rfl 3 104 false rfl rfl (.inl (gT g47)) rfl (SOps.skip rfl 3 104 false rfl rfl (.inl (gT g47)) rfl (SOps.skip rfl 3 104 false rfl rfl (.inl (gT g47)) rfl (SOps.skip rfl 3 104 false rfl rfl (.inl (gT g47)) rfl (SOps.skip rfl 3 104 false rfl rfl (.inl (gT g47)) rfl (sq rfl rfl rfl (q_pick_t rfl rfl g47 rfl) ?_)))))))))
     refine sm rfl rfl rfl rfl rfl (SOps.skip rfl 10 111 false rfl rfl (.inl rfl) rfl (SOps.skip rfl 10 111 false rfl rfl (.inl rfl) rfl (SOps.skip rfl 10 111 false rfl rfl (.inl rfl) rfl (sq rfl rfl rfl (q_pick_t rfl rfl rfl rfl) (SOps.nil (SCode.cond_t rfl rfl (SCode.seq ?_)))))))
     refine SCode.region (show SOps _ _ _ [0] _ _ from ?_)
     refine sa rfl rfl rfl rfl rfl (SOps.nil (SCode.ret ?_))
     obtain rfl := Option.some.inj h
     exact ⟨⟨[(2, ci 2)], []⟩, _, sub_gen [] rfl rfl (zall rfl rfl) trivial, resA1 (v := .c (.int .i64 2)) rfl rfl, rfl⟩
    rcases cond_out h with ⟨g48, h⟩ | ⟨g48, h⟩
    ·refine SCode.region (show SOps _ _ _ [0, 1, 2, 3, 4, 5, 6, 7, 8, 9, 10, 11, 12, 13, 14] _ _ from ?_)
     refine sq rfl rfl rfl (q_field_ptr rfl rfl fd39_3) (sq rfl rfl rfl (q_load_ptr rfl rfl rfl rfl ty3) (sq rfl rfl rfl (q_lss rfl rfl rfl) (sm rfl rfl rfl rfl rfl (SOps.q rfl (.guard 3 104 false rfl rfl (gF g47)) rfl (q_field_ptr rfl rfl fd39_4) (SOps.q rfl (.guard 3 104 false rfl rfl (gF g47)) rfl (q_load_ptr rfl rfl rfl rfl ty3) (SOps.q rfl (.guard 3 104 false rfl rfl (gF g47)) rfl (q_field_ptr rfl rfl fd39_3) (SOps.q rfl (.guard 3 104 false rfl rfl (gF g47)) rfl (q_load_ptr rfl rfl rfl rfl ty3) (SOps.q rfl (.guard 3 104 false rfl rfl (gF g47)) rfl (q_lss rfl rfl rfl) (sq rfl rfl rfl (q_pick_f rfl rfl g47 rfl) ?_)))))))))
     refine sm rfl rfl rfl rfl rfl (SOps.skip rfl 10 111 false rfl rfl (.inl (gT g48)) rfl (SOps.skip rfl 10 111 false rfl rfl (.inl (gT g48)) rfl (SOps.skip rfl 10 111 false rfl rfl (.inl (gT g48)) rfl (sq rfl rfl rfl (q_pick_t rfl rfl g48 rfl) (SOps.nil (SCode.cond_t rfl rfl (SCode.seq ?_)))))))
     refine SCode.region (show SOps _ _ _ [0] _ _ from ?_)
     refine sa rfl rfl rfl rfl rfl (SOps.nil (SCode.ret ?_))
     obtain rfl := Option.some.inj h
     exact ⟨⟨[(2, ci 2)], []⟩, _, sub_gen [] rfl rfl (zall rfl rfl) trivial, resA1 (v := .c (.int .i64 2)) rfl rfl, rfl⟩
    refine SCode.region (show SOps _ _ _ [0, 1, 2, 3, 4, 5, 6, 7, 8, 9, 10, 11, 12, 13, 14] _ _ from ?_)
    refine sq rfl rfl rfl (q_field_ptr rfl rfl fd39_3) (sq rfl rfl rfl (q_load_ptr rfl rfl rfl rfl ty3) (sq rfl rfl rfl (q_lss rfl rfl rfl) (sm rfl rfl rfl rfl rfl (SOps.q rfl (.guard 3 104 false rfl rfl (gF g47)) rfl (q_field_ptr rfl rfl fd39_4) (SOps.q rfl (.guard 3 104 false rfl rfl (gF g47)) rfl (q_load_ptr rfl rfl rfl rfl ty3) (SOps.q rfl (.guard 3 104 false rfl rfl (gF g47)) rfl (q_field_ptr rfl rfl fd39_3) (SOps.q rfl (.guard 3 104 false rfl rfl (gF g47)) rfl (q_load_ptr rfl rfl rfl rfl ty3) (SOps.q rfl (.guard 3 104 false rfl rfl (gF g47)) rfl (q_lss rfl rfl rfl) (sq rfl rfl rfl (q_pick_f rfl rfl g47 rfl) ?_)))))))))
    refine sm rfl rfl rfl rfl rfl (SOps.q rfl (.guard 10 111 false rfl rfl (gF g48)) rfl (q_field_ptr rfl rfl fd39_4) (SOps.q rfl (.guard 10 111 false rfl rfl (gF g48)) rfl (q_load_ptr rfl rfl rfl rfl ty3) (SOps.q rfl (.guard 10 111 false rfl rfl (gF g48)) rfl (q_gtr rfl rfl rfl) (sq rfl rfl rfl (q_pick_f rfl rfl g48 rfl) (SOps.nil ?_)))))
    rcases cond_out h with ⟨g49, h⟩ | ⟨g49, h⟩
    ·refine SCode.cond_t rfl g49 (SCode.seq ?_)
     refine SCode.region (show SOps _ _ _ [0] _ _ from ?_)
     refine sa rfl rfl rfl rfl rfl (SOps.nil (SCode.ret ?_))
     obtain rfl := Option.some.inj h
     exact ⟨⟨[(2, ci 2)], []⟩, _, sub_gen [] rfl rfl (zall rfl rfl) trivial, resA1 (v := .c (.int .i64 2)) rfl rfl, rfl⟩
    refine SCode.cond_f rfl g49 (SCode.skip ?_)
    refine SCode.region (show SOps _ _ _ [0, 1] _ _ from ?_)
    refine sq rfl rfl rfl (q_add rfl rfl rfl) (sm rfl rfl rfl rfl rfl (SOps.nil ?_))
    exact ⟨(n_38, IntKind.wrap .i64 (t70_26 + 1)), h, Nat.lt_succ_self n_38, sub_gen [] rfl rfl (zall rfl rfl) trivial⟩
   refine SCode.cond_f rfl g39 (SCode.exit ?_)
   exact ⟨(), h, sub_gen [] rfl rfl trivial trivial⟩
 rintro ⟨⟩ h
 show SCode _ _ _ ⟨[], []⟩ _
 replace h : plan_Valid_p14 = some r := h
 unfold plan_Valid_p14 at h
 refine SCode.seq ?_
 refine SCode.region (show SOps _ _ _ [0] _ _ from ?_)
 refine sa rfl rfl rfl rfl rfl (SOps.nil (SCode.ret ?_))
 obtain rfl := Option.some.inj h
 exact ⟨⟨[(2, ci 0)], []⟩, _, sub_gen [] rfl rfl (zall rfl rfl) trivial, resA1 (v := .c (.int .i64 0)) rfl rfl, rfl⟩
set_option maxRecDepth 100000 in
set_option maxHeartbeats 8000000 in
theorem plan_check_ok (F : Nat) (a0_p : SProblem) (a1_energy : List Int) (r : Int) (h : plan_check F a0_p a1_energy = some r) :
  SFun Try.prog 25 [] [.a (bSProblem a0_p), .c (vI a1_energy)] (fun x _ => x = ci r) := by
 refine SFun.of (n := 32) Try.func25 rfl rfl rfl ?_
 unfold plan_check at h
 show SCode _ _ _ ⟨[(0, .a (bSProblem a0_p)), (1, .c (vI a1_energy))], []⟩ _
 refine SCode.seq ?_
 refine SCode.region (show SOps _ _ _ [0, 1] _ _ from ?_)
 refine se rfl rfl (e_box rfl rfl rfl rfl rfl rfl) (sa rfl rfl rfl rfl rfl (SOps.nil (SCode.seq (SCode.seq ?_))))
 obtain ⟨c_1, g2, h⟩ := bind_out h
 try dsimp only at h
 refine SCode.region (show SOps _ _ _ [0, 1, 2] _ _ from ?_)
 refine sq rfl rfl rfl (q_load_ptr_all rfl rfl rfl rfl rfl ty26) (sq rfl rfl rfl (q_call (plan_Valid_ok F a0_p c_1 g2) [] rfl fn11 ⟨⟨rfl, rfl⟩, trivial⟩ (.inl rfl)) (sa rfl rfl rfl rfl rfl (SOps.nil (SCode.seq ?_))))
 refine SCode.region (show SOps _ _ _ [0, 1] _ _ from ?_)
 refine sm rfl rfl rfl rfl rfl (sq rfl rfl rfl (q_neq rfl rfl rfl) (SOps.nil ?_))
 rcases cond_out h with ⟨g3, h⟩ | ⟨g3, h⟩
 ·refine SCode.cond_t rfl g3 (SCode.seq ?_)
  refine SCode.region (show SOps _ _ _ [0, 1] _ _ from ?_)
  refine sm rfl rfl rfl rfl rfl (sa rfl rfl rfl rfl rfl (SOps.nil (SCode.ret ?_)))
  obtain rfl := Option.some.inj h
  exact ⟨⟨[(4, ci c_1)], []⟩, _, sub_gen [] rfl rfl (zall rfl rfl) trivial, resA1 (v := .c (.int .i64 c_1)) rfl rfl, rfl⟩
 refine SCode.cond_f rfl g3 (SCode.skip (SCode.seq (SCode.seq ?_)))
 refine SCode.region (show SOps _ _ _ [0, 1, 2, 3, 4, 5] _ _ from ?_)
 refine sm rfl rfl rfl rfl rfl (sq rfl rfl rfl (q_len_vec rfl rfl sl22) (sq rfl rfl rfl (q_field_ptr rfl rfl fd26_4) (sq rfl rfl rfl (q_load_ptr rfl rfl rfl rfl ty24) (sq rfl rfl rfl (q_len_vec rfl rfl sl24) (sq rfl rfl rfl (q_neq rfl rfl rfl) (SOps.nil ?_))))))
 rcases cond_out h with ⟨g4, h⟩ | ⟨g4, h⟩
 ·refine SCode.cond_t rfl g4 (SCode.seq ?_)
  refine SCode.region (show SOps _ _ _ [0] _ _ from ?_)
  refine sa rfl rfl rfl rfl rfl (SOps.nil (SCode.ret ?_))
  obtain rfl := Option.some.inj h
  exact ⟨⟨[(4, ci 1)], []⟩, _, sub_gen [] rfl rfl (zall rfl rfl) trivial, resA1 (v := .c (.int .i64 1)) rfl rfl, rfl⟩
 refine SCode.cond_f rfl g4 (SCode.skip ?_)
 refine SCode.join (σ := Unit) (S := fun s => ⟨[], []⟩) (g := fun s => plan_check_p5 = some r) ?_ ?_
 rotate_left
 ·refine SCode.seq ?_
  refine SCode.region (show SOps _ _ _ [0, 1, 2] _ _ from ?_)
  refine sm rfl rfl rfl rfl rfl (sq rfl rfl rfl (q_len_vec rfl rfl sl22) (sm rfl rfl rfl rfl rfl (SOps.nil (SCode.block (SCode.sub (st' := ⟨[(19, .c (vI a1_energy)), (20, ci (((a1_energy).length : Int))), (21, ci 0)], []⟩) (sub_gen [] rfl rfl (zall rfl rfl) trivial) ?_)))))
  refine (SCode.loop (σ := Nat × Int) (S := fun s => ⟨[(19, .c (vI a1_energy)), (20, ci (((a1_energy).length : Int))), (21, ci s.2)], []⟩) (g := fun s => plan_check_l15 a1_energy s.1 s.2 = some r) (μ := fun s => s.1) (F, 0) h ?_)
  rintro ⟨n_15, t21_10⟩ h
  replace h : plan_check_l15 a1_energy n_15 t21_10 = some r := h
  show SCode _ _ _ ⟨[(19, .c (vI a1_energy)), (20, ci (((a1_energy).length : Int))), (21, ci t21_10)], []⟩ _
  cases n_15 with
  | zero => cases h
  | succ n_15 =>
   replace h : plan_check_b15 a1_energy (fun t21_10 => plan_check_l15 a1_energy n_15 t21_10) t21_10 = some r := h
   unfold plan_check_b15 at h
   refine SCode.seq ?_
   refine SCode.region (show SOps _ _ _ [0] _ _ from ?_)
   refine sq rfl rfl rfl (q_lss rfl rfl rfl) (SOps.nil (SCode.seq ?_))
   rcases cond_out h with ⟨g16, h⟩ | ⟨g16, h⟩
   ·refine SCode.cond_t rfl g16 (SCode.skip (SCode.seq (SCode.block (SCode.seq ?_))))
    obtain ⟨g17, h⟩ := guard_out h
    refine SCode.region (show SOps _ _ _ [0, 1, 2] _ _ from ?_)
    refine sq rfl rfl rfl (q_index_vec rfl rfl rfl sl22 rfl g17.1 g17.2) (sq rfl rfl rfl (q_load_eptr rfl rfl ty3) (sa rfl rfl rfl rfl rfl (SOps.nil (SCode.seq ?_))))
    rcases cond_out h with ⟨g18, h⟩ | ⟨g18, h⟩
    ·refine SCode.region (show SOps _ _ _ [0, 1, 2, 3, 4, 5] _ _ from ?_)
     refine sm rfl rfl rfl rfl rfl (sq rfl rfl rfl (q_lss rfl rfl rfl) (sm rfl rfl rfl rfl rfl (SOps.skip rfl 2 27 false rfl rfl (.inl (gT g18)) rfl (SOps.skip rfl 2 27 false rfl rfl (.inl (gT g18)) rfl (sq rfl rfl rfl (q_pick_t rfl rfl g18 rfl) (SOps.nil (SCode.cond_t rfl rfl (SCode.seq ?_))))))))
     refine SCode.region (show SOps _ _ _ [0] _ _ from ?_)
     refine sa rfl rfl rfl rfl rfl (SOps.nil (SCode.ret ?_))
     obtain rfl := Option.some.inj h
     exact ⟨⟨[(4, ci 1)], []⟩, _, sub_gen [] rfl rfl (zall rfl rfl) trivial, resA1 (v := .c (.int .i64 1)) rfl rfl, rfl⟩
    refine SCode.region (show SOps _ _ _ [0, 1, 2, 3, 4, 5] _ _ from ?_)
    refine sm rfl rfl rfl rfl rfl (sq rfl rfl rfl (q_lss rfl rfl rfl) (sm rfl rfl rfl rfl rfl (SOps.q rfl (.guard 2 27 false rfl rfl (gF g18)) rfl (q_move rfl rfl) (SOps.q rfl (.guard 2 27 false rfl rfl (gF g18)) rfl (q_gtr rfl rfl rfl) (sq rfl rfl rfl (q_pick_f rfl rfl g18 rfl) (SOps.nil ?_))))))
    rcases cond_out h with ⟨g19, h⟩ | ⟨g19, h⟩
    ·refine SCode.cond_t rfl g19 (SCode.seq ?_)
     refine SCode.region (show SOps _ _ _ [0] _ _ from ?_)
     refine sa rfl rfl rfl rfl rfl (SOps.nil (SCode.ret ?_))
     obtain rfl := Option.some.inj h
     exact ⟨⟨[(4, ci 1)], []⟩, _, sub_gen [] rfl rfl (zall rfl rfl) trivial, resA1 (v := .c (.int .i64 1)) rfl rfl, rfl⟩
    refine SCode.cond_f rfl g19 (SCode.skip ?_)
    refine SCode.region (show SOps _ _ _ [0, 1] _ _ from ?_)
    refine sq rfl rfl rfl (q_add rfl rfl rfl) (sm rfl rfl rfl rfl rfl (SOps.nil ?_))
    exact ⟨(n_15, IntKind.wrap .i64 (t21_10 + 1)), h, Nat.lt_succ_self n_15, sub_gen [] rfl rfl (zall rfl rfl) trivial⟩
   refine SCode.cond_f rfl g16 (SCode.exit ?_)
   exact ⟨(), h, sub_gen [] rfl rfl trivial trivial⟩
 rintro ⟨⟩ h
 show SCode _ _ _ ⟨[], []⟩ _
 replace h : plan_check_p5 = some r := h
 unfold plan_check_p5 at h
 refine SCode.seq ?_
 refine SCode.region (show SOps _ _ _ [0] _ _ from ?_)
 refine sa rfl rfl rfl rfl rfl (SOps.nil (SCode.ret ?_))
 obtain rfl := Option.some.inj h
 exact ⟨⟨[(4, ci 0)], []⟩, _, sub_gen [] rfl rfl (zall rfl rfl) trivial, resA1 (v := .c (.int .i64 0)) rfl rfl, rfl⟩
set_option maxRecDepth 100000 in
set_option maxHeartbeats 8000000 in
theorem flow_isNode_ok (F : Nat) (a0_n : SNet) (a1_i : Int) (r : Bool) (h : flow_isNode F a0_n a1_i = some r) :
  SFun Try.prog 58 [] [.a (bSNet a0_n), ci a1_i] (fun x _ => x = .c (.bool r)) := by
 refine SFun.of (n := 13) Try.func58 rfl rfl rfl ?_
 unfold flow_isNode at h
 show SCode _ _ _ ⟨[(0, .a (bSNet a0_n)), (1, ci a1_i)], []⟩ _
 refine SCode.seq ?_
 refine SCode.region (show SOps _ _ _ [0, 1] _ _ from ?_)
 refine se rfl rfl (e_box rfl rfl rfl rfl rfl rfl) (sa rfl rfl rfl rfl rfl (SOps.nil (SCode.seq ?_)))
 rcases cond_out h with ⟨g1, h⟩ | ⟨g1, h⟩
 ·refine SCode.region (show SOps _ _ _ [0, 1, 2, 3, 4, 5, 6, 7, 8] _ _ from ?_)
  refine sm rfl rfl rfl rfl rfl (sq rfl rfl rfl (q_geq rfl rfl rfl) (sm rfl rfl rfl rfl rfl (SOps.q rfl (.guard 2 7 true rfl rfl (gT g1)) rfl (q_move rfl rfl) (SOps.q rfl (.guard 2 7 true rfl rfl (gT g1)) rfl (q_field_ptr rfl rfl fd49_0) (SOps.q rfl (.guard 2 7 true rfl rfl (gT g1)) rfl (q_load_ptr rfl rfl rfl rfl ty3) (SOps.q rfl (.guard 2 7 true rfl rfl (gT g1)) rfl (q_lss rfl rfl rfl) (sq rfl rfl rfl (q_pick_t rfl rfl g1 rfl) (sa rfl rfl rfl rfl rfl (SOps.nil ?_)))))))))
  refine SCode.ret ?_
  obtain rfl := Option.some.inj h
  exact ⟨⟨[(4, .c (.bool (decide (a1_i < a0_n.Nodes))))], []⟩, _, sub_gen [] rfl rfl (zall rfl rfl) trivial, resA1 (v := .c (.bool (decide (a1_i < a0_n.Nodes)))) rfl rfl, rfl⟩
 refine SCode.region (show SOps _ _ _ [0, 1, 2, 3, 4, 5, 6, 7, 8] _ _ from ?_)
 refine sm rfl rfl rfl rfl rfl (sq rfl rfl rfl (q_geq rfl rfl rfl) (sm rfl rfl rfl rfl rfl (SOps.skip rfl 2 7 true rfl rfl (.inl (gF g1)) rfl (SOps.skip rfl 2 7 true rfl rfl (.inl (gF g1)) rfl (SOps.skip rfl 2 7 true rfl rfl (.inl (gF g1)) rfl (SOps.skip rfl 2 7 true rfl rfl (.inl (gF g1)) rfl (sq rfl rfl rfl (q_pick_f rfl rfl g1 rfl) (sa rfl rfl rfl rfl rfl (SOps.nil ?_)))))))))
 refine SCode.ret ?_
 obtain rfl := Option.some.inj h
 exact ⟨⟨[(4, .c (.bool false))], []⟩, _, sub_gen [] rfl rfl (zall rfl rfl) trivial, resA1 (v := .c (.bool false)) rfl rfl, rfl⟩
set_option maxRecDepth 100000 in
set_option maxHeartbeats 8000000 in
theorem flow_Valid_ok (F : Nat) (a0_n : SNet) (r : Int) (h : flow_Valid F a0_n = some r) :
  SFun Try.prog 57 [] [.a (bSNet a0_n)] (fun x _ => x = ci r) := by
 refine SFun.of (n := 50) Try.func57 rfl rfl rfl ?_
 unfold flow_Valid at h
 show SCode _ _ _ ⟨[(0, .a (bSNet a0_n))], []⟩ _
 refine SCode.seq ?_
 refine SCode.region (show SOps _ _ _ [0, 1] _ _ from ?_)
 refine se rfl rfl (e_box rfl rfl rfl rfl rfl rfl) (sa rfl rfl rfl rfl rfl (SOps.nil (SCode.seq (SCode.seq ?_))))
 refine SCode.region (show SOps _ _ _ [0, 1, 2] _ _ from ?_)
 refine sq rfl rfl rfl (q_field_ptr rfl rfl fd49_0) (sq rfl rfl rfl (q_load_ptr rfl rfl rfl rfl ty3) (sq rfl rfl rfl (q_lss rfl rfl rfl) (SOps.nil ?_)))
 rcases cond_out h with ⟨g1, h⟩ | ⟨g1, h⟩
 ·refine SCode.cond_t rfl g1 (SCode.seq ?_)
  refine SCode.region (show SOps _ _ _ [0] _ _ from ?_)
  refine sa rfl rfl rfl rfl rfl (SOps.nil (SCode.ret ?_))
  obtain rfl := Option.some.inj h
  exact ⟨⟨[(2, ci 2)], []⟩, _, sub_gen [] rfl rfl (zall rfl rfl) trivial, resA1 (v := .c (.int .i64 2)) rfl rfl, rfl⟩
 refine SCode.cond_f rfl g1 (SCode.skip (SCode.seq (SCode.seq ?_)))
 rcases cond_out h with ⟨g2, h⟩ | ⟨g2, h⟩
 ·refine SCode.region (show SOps _ _ _ [0, 1, 2, 3, 4, 5, 6, 7, 8] _ _ from ?_)
  refine sq rfl rfl rfl (q_field_ptr rfl rfl fd49_0) (sq rfl rfl rfl (q_load_ptr rfl rfl rfl rfl ty3) (sq rfl rfl rfl (q_gtr rfl rfl rfl) (sm rfl rfl rfl rfl rfl (SOps.skip rfl 3 11 false rfl rfl (.inl (gT g2)) rfl (SOps.skip rfl 3 11 false rfl rfl (.inl (gT g2)) rfl (SOps.skip rfl 3 11 false rfl rfl (.inl (gT g2)) rfl (SOps.skip rfl 3 11 false rfl rfl (.inl (gT g2)) rfl (sq rfl rfl rfl (q_pick_t rfl rfl g2 rfl) (SOps.nil ?_)))))))))
  refine SCode.cond_t rfl rfl (SCode.seq ?_)
  refine SCode.region (show SOps _ _ _ [0] _ _ from ?_)
  refine sa rfl rfl rfl rfl rfl (SOps.nil (SCode.ret ?_))
  obtain rfl := Option.some.inj h
  exact ⟨⟨[(2, ci 3)], []⟩, _, sub_gen [] rfl rfl (zall rfl rfl) trivial, resA1 (v := .c (.int .i64 3)) rfl rfl, rfl⟩
 refine SCode.region (show SOps _ _ _ [0, 1, 2, 3, 4, 5, 6, 7, 8] _ _ from ?_)
 refine sq rfl rfl rfl (q_field_ptr rfl rfl fd49_0) (sq rfl rfl rfl (q_load_ptr rfl rfl rfl rfl ty3) (sq rfl rfl rfl (q_gtr rfl rfl rfl) (sm rfl rfl rfl rfl rfl (SOps.q rfl (.guard 3 11 false rfl rfl (gF g2)) rfl (q_field_ptr rfl rfl fd49_1) (SOps.q rfl (.guard 3 11 false rfl rfl (gF g2)) rfl (q_load_ptr rfl rfl rfl rfl ty47) (SOps.q rfl (.guard 3 11 false rfl rfl (gF g2)) rfl (q_len_vec rfl rfl sl47) (SOps.q rfl (.guard 3 11 false rfl rfl (gF g2)) rfl (q_gtr rfl rfl rfl) (sq rfl rfl rfl (q_pick_f rfl rfl g2 rfl) (SOps.nil ?_)))))))))
 rcases cond_out h with ⟨g3, h⟩ | ⟨g3, h⟩
 ·refine SCode.cond_t rfl g3 (SCode.seq ?_)
  refine SCode.region (show SOps _ _ _ [0] _ _ from ?_)
  refine sa rfl rfl rfl rfl rfl (SOps.nil (SCode.ret ?_))
  obtain rfl := Option.some.inj h
  exact ⟨⟨[(2, ci 3)], []⟩, _, sub_gen [] rfl rfl (zall rfl rfl) trivial, resA1 (v := .c (.int .i64 3)) rfl rfl, rfl⟩
 refine SCode.cond_f rfl g3 (SCode.skip ?_)
 refine SCode.join (σ := Unit) (S := fun s => ⟨[], []⟩) (g := fun s => flow_Valid_p4 = some r) ?_ ?_
 rotate_left
 ·refine SCode.seq ?_
  refine SCode.region (show SOps _ _ _ [0, 1, 2, 3] _ _ from ?_)
  refine sq rfl rfl rfl (q_field_ptr rfl rfl fd49_1) (sq rfl rfl rfl (q_load_ptr rfl rfl rfl rfl ty47) (sq rfl rfl rfl (q_len_vec rfl rfl sl47) (sm rfl rfl rfl rfl rfl (SOps.sub (st' := ⟨[(1, .c (.ptr 0 0)), (18, .c (vSArc a0_n.Arcs)), (19, ci (((a0_n.Arcs).length : Int))), (20, ci 0)], [.box (bSNet a0_n)]⟩) (sub_gen [0] rfl rfl (zall rfl rfl) ⟨bx rfl rfl rfl, trivial⟩) (SOps.nil (SCode.block (SCode.sub (st' := ⟨[(1, .c (.ptr 0 0)), (18, .c (vSArc a0_n.Arcs)), (19, ci (((a0_n.Arcs).length : Int))), (20, ci 0)], [.box (bSNet a0_n)]⟩) (sub_gen [0] rfl rfl (zall rfl rfl) ⟨bx rfl rfl rfl, trivial⟩) ?_)))))))
  refine (SCode.loop (σ := Nat × Int) (S := fun s => ⟨[(1, .c (.ptr 0 0)), (18, .c (vSArc a0_n.Arcs)), (19, ci (((a0_n.Arcs).length : Int))), (20, ci s.2)], [.box (bSNet a0_n)]⟩) (g := fun s => flow_Valid_l28 F a0_n s.1 s.2 = some r) (μ := fun s => s.1) (F, 0) h ?_)
  rintro ⟨n_28, t20_16⟩ h
  replace h : flow_Valid_l28 F a0_n n_28 t20_16 = some r := h
  show SCode _ _ _ ⟨[(1, .c (.ptr 0 0)), (18, .c (vSArc a0_n.Arcs)), (19, ci (((a0_n.Arcs).length : Int))), (20, ci t20_16)], [.box (bSNet a0_n)]⟩ _
  cases n_28 with
  | zero => cases h
  | succ n_28 =>
   replace h : flow_Valid_b28 F a0_n (fun t20_16 => flow_Valid_l28 F a0_n n_28 t20_16) t20_16 = some r := h
   unfold flow_Valid_b28 at h
   refine SCode.seq ?_
   refine SCode.region (show SOps _ _ _ [0] _ _ from ?_)
   refine sq rfl rfl rfl (q_lss rfl rfl rfl) (SOps.nil (SCode.seq ?_))
   rcases cond_out h with ⟨g29, h⟩ | ⟨g29, h⟩
   ·refine SCode.cond_t rfl g29 (SCode.skip (SCode.seq (SCode.block (SCode.seq ?_))))
    obtain ⟨g30, h⟩ := guard_out h
    refine SCode.region (show SOps _ _ _ [0, 1, 2, 3] _ _ from ?_)
    refine sq rfl rfl rfl (q_index_vec rfl rfl rfl sl47 rfl g30.1 g30.2) (sq rfl rfl rfl (q_load_eptr_all rfl rfl rfl ty63) (se rfl rfl (e_alloc rfl rfl rfl z63) (se rfl rfl (e_store_box rfl rfl rfl rfl rfl ty63 rfl rfl rfl rfl) (SOps.nil (SCode.seq (SCode.seq ?_))))))
    obtain ⟨c_31, g32, h⟩ := bind_out h
    try dsimp only at h
    rcases cond_out h with ⟨g33, h⟩ | ⟨g33, h⟩
    ·refine SCode.region (show SOps _ _ _ [0, 1, 2, 3, 4, 5, 6, 7, 8, 9, 10, 11] _ _ from ?_)
     refine sq rfl rfl rfl (q_load_ptr_all rfl rfl rfl rfl rfl ty49) (sq rfl rfl rfl (q_field_ptr rfl rfl fd63_0) (sq rfl rfl rfl (q_load_ptr rfl rfl rfl rfl ty3) (sq rfl rfl rfl (q_call (flow_isNode_ok F a0_n ((a0_n.Arcs.getD t20_16.toNat dSArc).From) c_31 g32) [] rfl fn58 ⟨⟨rfl, rfl⟩, ⟨_, rfl, .inl ⟨rfl, rfl⟩⟩, trivial⟩ (.inl rfl)) (sq rfl rfl rfl (q_not rfl rfl) (sm rfl rfl rfl rfl rfl (SOps.skip rfl 5 29 false rfl rfl (.inl (gT g33)) rfl (SOps.skip rfl 5 29 false rfl rfl (.inl (gT g33)) rfl (SOps.skip rfl 5 29 false rfl rfl (.inl (gT g33)) rfl (SOps.skip rfl 5 29 false rfl rfl (.inl (gT g33)) rfl ?_)))))))))
     refine SOps.skip rfl 5 29 false rfl rfl (.inl (gT g33)) rfl (sq rfl rfl rfl (q_pick_t rfl rfl g33 rfl) (SOps.nil (SCode.cond_t rfl rfl (SCode.seq ?_))))
     refine SCode.region (show SOps _ _ _ [0] _ _ from ?_)
     refine sa rfl rfl rfl rfl rfl (SOps.sub (st' := ⟨[(2, ci 2)], []⟩) (sub_gen [] rfl rfl (zall rfl rfl) trivial) (SOps.nil (SCode.ret ?_)))
     obtain rfl := Option.some.inj h
     exact ⟨⟨[(2, ci 2)], []⟩, _, sub_gen [] rfl rfl (zall rfl rfl) trivial, resA1 (v := .c (.int .i64 2)) rfl rfl, rfl⟩
    obtain ⟨c_34, g35, h⟩ := bind_out h
    try dsimp only at h
    refine SCode.region (show SOps _ _ _ [0, 1, 2, 3, 4, 5, 6, 7, 8, 9, 10, 11] _ _ from ?_)
    refine sq rfl rfl rfl (q_load_ptr_all rfl rfl rfl rfl rfl ty49) (sq rfl rfl rfl (q_field_ptr rfl rfl fd63_0) (sq rfl rfl rfl (q_load_ptr rfl rfl rfl rfl ty3) (sq rfl rfl rfl (q_call (flow_isNode_ok F a0_n ((a0_n.Arcs.getD t20_16.toNat dSArc).From) c_31 g32) [] rfl fn58 ⟨⟨rfl, rfl⟩, ⟨_, rfl, .inl ⟨rfl, rfl⟩⟩, trivial⟩ (.inl rfl)) (sq rfl rfl rfl (q_not rfl rfl) (sm rfl rfl rfl rfl rfl (SOps.q rfl (.guard 5 29 false rfl rfl (gF g33)) rfl (q_load_ptr_all rfl rfl rfl rfl rfl ty49) (SOps.q rfl (.guard 5 29 false rfl rfl (gF g33)) rfl (q_field_ptr rfl rfl fd63_1) (SOps.q rfl (.guard 5 29 false rfl rfl (gF g33)) rfl (q_load_ptr rfl rfl rfl rfl ty3) (SOps.q rfl (.guard 5 29 false rfl rfl (gF g33)) rfl (q_call (flow_isNode_ok F a0_n ((a0_n.Arcs.getD t20_16.toNat dSArc).To) c_34 g35) [] rfl fn58 ⟨⟨rfl, rfl⟩, ⟨_, rfl, .inl ⟨rfl, rfl⟩⟩, trivial⟩ (.inl rfl)) ?_)))))))))
    refine SOps.q rfl (.guard 5 29 false rfl rfl (gF g33)) rfl (q_not rfl rfl) (sq rfl rfl rfl (q_pick_f rfl rfl g33 rfl) (SOps.nil ?_))
    rcases cond_out h with ⟨g36, h⟩ | ⟨g36, h⟩
    ·refine SCode.cond_t rfl g36 (SCode.seq ?_)
     refine SCode.region (show SOps _ _ _ [0] _ _ from ?_)
     refine sa rfl rfl rfl rfl rfl (SOps.sub (st' := ⟨[(2, ci 2)], []⟩) (sub_gen [] rfl rfl (zall rfl rfl) trivial) (SOps.nil (SCode.ret ?_)))
     obtain rfl := Option.some.inj h
     exact ⟨⟨[(2, ci 2)], []⟩, _, sub_gen [] rfl rfl (zall rfl rfl) trivial, resA1 (v := .c (.int .i64 2)) rfl rfl, rfl⟩
    refine SCode.cond_f rfl g36 (SCode.skip (SCode.seq (SCode.seq ?_)))
    refine SCode.region (show SOps _ _ _ [0, 1, 2, 3, 4] _ _ from ?_)
    refine sq rfl rfl rfl (q_field_ptr rfl rfl fd63_0) (sq rfl rfl rfl (q_load_ptr rfl rfl rfl rfl ty3) (sq rfl rfl rfl (q_field_ptr rfl rfl fd63_1) (sq rfl rfl rfl (q_load_ptr rfl rfl rfl rfl ty3) (sq rfl rfl rfl (q_eql rfl rfl rfl) (SOps.sub (st' := ⟨[(1, .c (.ptr 0 0)), (4, .c (.ptr 1 0)), (18, .c (vSArc a0_n.Arcs)), (19, ci (((a0_n.Arcs).length : Int))), (20, ci t20_16), (40, .c (.bool (decide ((a0_n.Arcs.getD t20_16.toNat dSArc).From = (a0_n.Arcs.getD t20_16.toNat dSArc).To))))], [.box (bSNet a0_n), .box (bSArc (a0_n.Arcs.getD t20_16.toNat dSArc))]⟩) (sub_gen [0, 1] rfl rfl (zall rfl rfl) ⟨bx rfl rfl rfl, bx rfl rfl rfl, trivial⟩) (SOps.nil ?_))))))
    rcases cond_out h with ⟨g37, h⟩ | ⟨g37, h⟩
    ·refine SCode.cond_t rfl g37 (SCode.seq ?_)
     refine SCode.region (show SOps _ _ _ [0] _ _ from ?_)
     refine sa rfl rfl rfl rfl rfl (SOps.nil (SCode.ret ?_))
     obtain rfl := Option.some.inj h
     exact ⟨⟨[(2, ci 1)], []⟩, _, sub_gen [] rfl rfl (zall rfl rfl) trivial, resA1 (v := .c (.int .i64 1)) rfl rfl, rfl⟩
    refine SCode.cond_f rfl g37 (SCode.skip (SCode.seq ?_))
    rcases cond_out h with ⟨g38, h⟩ | ⟨g38, h⟩
    ·refine SCode.region (show SOps _ _ _ [0, 1, 2, 3, 4, 5, 6, 7] _ _ from ?_)
     refine sq rfl rfl rfl (q_field_ptr rfl rfl fd63_2) (sq rfl rfl rfl (q_load_ptr rfl rfl rfl rfl ty3) (sq rfl rfl rfl (q_lss rfl rfl rfl) (sm rfl rfl rfl rfl rfl (SOps.skip rfl 3 44 false rfl rfl (.inl (gT g38)) rfl (SOps.skip rfl 3 44 false rfl rfl (.inl (gT g38)) rfl (SOps.skip rfl 3 44 false rfl rfl (.inl (gT g38)) rfl (sq rfl rfl rfl (q_pick_t rfl rfl g38 rfl) (SOps.nil (SCode.cond_t rfl rfl ?_)))))))))
     refine SCode.seq ?_
     refine SCode.region (show SOps _ _ _ [0] _ _ from ?_)
     refine sa rfl rfl rfl rfl rfl (SOps.nil (SCode.ret ?_))
     obtain rfl := Option.some.inj h
     exact ⟨⟨[(2, ci 2)], []⟩, _, sub_gen [] rfl rfl (zall rfl rfl) trivial, resA1 (v := .c (.int .i64 2)) rfl rfl, rfl⟩
    refine SCode.region (show SOps _ _ _ [0, 1, 2, 3, 4, 5, 6, 7] _ _ from ?_)
    refine sq rfl rfl rfl (q_field_ptr rfl rfl fd63_2) (sq rfl rfl rfl (q_load_ptr rfl rfl rfl rfl ty3) (sq rfl rfl rfl (q_lss rfl rfl rfl) (sm rfl rfl rfl rfl rfl (SOps.q rfl (.guard 3 44 false rfl rfl (gF g38)) rfl (q_field_ptr rfl rfl fd63_2) (SOps.q rfl (.guard 3 44 false rfl rfl (gF g38)) rfl (q_load_ptr rfl rfl rfl rfl ty3) (SOps.q rfl (.guard 3 44 false rfl rfl (gF g38)) rfl (q_gtr rfl rfl rfl) (sq rfl rfl rfl (q_pick_f rfl rfl g38 rfl) (SOps.nil ?_))))))))
    rcases cond_out h with ⟨g39, h⟩ | ⟨g39, h⟩
    ·refine SCode.cond_t rfl g39 (SCode.seq ?_)
     refine SCode.region (show SOps _ _ _ [0] _ _ from ?_)
     refine sa rfl rfl rfl rfl rfl (SOps.nil (SCode.ret ?_))
     obtain rfl := Option.some.inj h
     exact ⟨⟨[(2, ci 2)], []⟩, _, sub_gen [] rfl rfl (zall rfl rfl) trivial, resA1 (v := .c (.int .i64 2)) rfl rfl, rfl⟩
    refine SCode.cond_f rfl g39 (SCode.skip ?_)
    refine SCode.region (show SOps _ _ _ [0, 1] _ _ from ?_)
    refine sq rfl rfl rfl (q_add rfl rfl rfl) (sm rfl rfl rfl rfl rfl (SOps.nil ?_))
    exact ⟨(n_28, IntKind.wrap .i64 (t20_16 + 1)), h, Nat.lt_succ_self n_28, sub_gen [0] rfl rfl (zall rfl rfl) ⟨bx rfl rfl rfl, trivial⟩⟩
   refine SCode.cond_f rfl g29 (SCode.exit ?_)
   exact ⟨(), h, sub_gen [] rfl rfl trivial trivial⟩
 rintro ⟨⟩ h
 show SCode _ _ _ ⟨[], []⟩ _
 replace h : flow_Valid_p4 = some r := h
 unfold flow_Valid_p4 at h
 refine SCode.seq ?_
 refine SCode.region (show SOps _ _ _ [0] _ _ from ?_)
 refine sa rfl rfl rfl rfl rfl (SOps.nil (SCode.ret ?_))
 obtain rfl := Option.some.inj h
 exact ⟨⟨[(2, ci 0)], []⟩, _, sub_gen [] rfl rfl (zall rfl rfl) trivial, resA1 (v := .c (.int .i64 0)) rfl rfl, rfl⟩
set_option maxRecDepth 100000 in
set_option maxHeartbeats 8000000 in
theorem flow_valid_ok (F : Nat) (a0_n : SNet) (a1_source : Int) (a2_sink : Int) (r : Int) (h : flow_valid F a0_n a1_source a2_sink = some r) :
  SFun Try.prog 47 [] [.a (bSNet a0_n), ci a1_source, ci a2_sink] (fun x _ => x = ci r) := by
 refine SFun.of (n := 28) Try.func47 rfl rfl rfl ?_
 unfold flow_valid at h
 show SCode _ _ _ ⟨[(0, .a (bSNet a0_n)), (1, ci a1_source), (2, ci a2_sink)], []⟩ _
 refine SCode.seq ?_
 refine SCode.region (show SOps _ _ _ [0, 1] _ _ from ?_)
 refine se rfl rfl (e_box rfl rfl rfl rfl rfl rfl) (sa rfl rfl rfl rfl rfl (SOps.nil (SCode.seq (SCode.seq ?_))))
 obtain ⟨c_1, g2, h⟩ := bind_out h
 try dsimp only at h
 refine SCode.region (show SOps _ _ _ [0, 1, 2] _ _ from ?_)
 refine sq rfl rfl rfl (q_load_ptr_all rfl rfl rfl rfl rfl ty49) (sq rfl rfl rfl (q_call (flow_Valid_ok F a0_n c_1 g2) [] rfl fn57 ⟨⟨rfl, rfl⟩, trivial⟩ (.inl rfl)) (sa rfl rfl rfl rfl rfl (SOps.nil (SCode.seq ?_))))
 refine SCode.region (show SOps _ _ _ [0, 1] _ _ from ?_)
 refine sm rfl rfl rfl rfl rfl (sq rfl rfl rfl (q_neq rfl rfl rfl) (SOps.nil ?_))
 rcases cond_out h with ⟨g3, h⟩ | ⟨g3, h⟩
 ·refine SCode.cond_t rfl g3 (SCode.seq ?_)
  refine SCode.region (show SOps _ _ _ [0, 1] _ _ from ?_)
  refine sm rfl rfl rfl rfl rfl (sa rfl rfl rfl rfl rfl (SOps.nil (SCode.ret ?_)))
  obtain rfl := Option.some.inj h
  exact ⟨⟨[(6, ci c_1)], []⟩, _, sub_gen [] rfl rfl (zall rfl rfl) trivial, resA1 (v := .c (.int .i64 c_1)) rfl rfl, rfl⟩
 refine SCode.cond_f rfl g3 (SCode.skip (SCode.seq (SCode.seq ?_)))
 obtain ⟨c_4, g5, h⟩ := bind_out h
 try dsimp only at h
 rcases cond_out h with ⟨g6, h⟩ | ⟨g6, h⟩
 ·refine SCode.region (show SOps _ _ _ [0, 1, 2, 3, 4, 5, 6, 7, 8, 9, 10, 11, 12, 13, 14] _ _ from ?_)
  refine sq rfl rfl rfl (q_load_ptr_all rfl rfl rfl rfl rfl ty49) (sm rfl rfl rfl rfl rfl (sq rfl rfl rfl (q_call (flow_isNode_ok F a0_n a1_source c_4 g5) [] rfl fn58 ⟨⟨rfl, rfl⟩, ⟨_, rfl, .inl ⟨rfl, rfl⟩⟩, trivial⟩ (.inl rfl)) (sq rfl rfl rfl (q_not rfl rfl) (sm rfl rfl rfl rfl rfl (SOps.skip rfl 4 17 false rfl rfl (.inl (gT g6)) rfl (SOps.skip rfl 4 17 false rfl rfl (.inl (gT g6)) rfl (SOps.skip rfl 4 17 false rfl rfl (.inl (gT g6)) rfl (SOps.skip rfl 4 17 false rfl rfl (.inl (gT g6)) rfl (sq rfl rfl rfl (q_pick_t rfl rfl g6 rfl) ?_)))))))))
  refine sm rfl rfl rfl rfl rfl (SOps.skip rfl 10 23 false rfl rfl (.inl rfl) rfl (SOps.skip rfl 10 23 false rfl rfl (.inl rfl) rfl (SOps.skip rfl 10 23 false rfl rfl (.inl rfl) rfl (sq rfl rfl rfl (q_pick_t rfl rfl rfl rfl) (SOps.sub (st' := ⟨[(27, .c (.bool true))], []⟩) (sub_gen [] rfl rfl (zall rfl rfl) trivial) (SOps.nil (SCode.cond_t rfl rfl (SCode.seq ?_))))))))
  refine SCode.region (show SOps _ _ _ [0] _ _ from ?_)
  refine sa rfl rfl rfl rfl rfl (SOps.nil (SCode.ret ?_))
  obtain rfl := Option.some.inj h
  exact ⟨⟨[(6, ci 2)], []⟩, _, sub_gen [] rfl rfl (zall rfl rfl) trivial, resA1 (v := .c (.int .i64 2)) rfl rfl, rfl⟩
 obtain ⟨c_7, g8, h⟩ := bind_out h
 try dsimp only at h
 rcases cond_out h with ⟨g9, h⟩ | ⟨g9, h⟩
 ·refine SCode.region (show SOps _ _ _ [0, 1, 2, 3, 4, 5, 6, 7, 8, 9, 10, 11, 12, 13, 14] _ _ from ?_)
  refine sq rfl rfl rfl (q_load_ptr_all rfl rfl rfl rfl rfl ty49) (sm rfl rfl rfl rfl rfl (sq rfl rfl rfl (q_call (flow_isNode_ok F a0_n a1_source c_4 g5) [] rfl fn58 ⟨⟨rfl, rfl⟩, ⟨_, rfl, .inl ⟨rfl, rfl⟩⟩, trivial⟩ (.inl rfl)) (sq rfl rfl rfl (q_not rfl rfl) (sm rfl rfl rfl rfl rfl (SOps.q rfl (.guard 4 17 false rfl rfl (gF g6)) rfl (q_load_ptr_all rfl rfl rfl rfl rfl ty49) (SOps.q rfl (.guard 4 17 false rfl rfl (gF g6)) rfl (q_move rfl rfl) (SOps.q rfl (.guard 4 17 false rfl rfl (gF g6)) rfl (q_call (flow_isNode_ok F a0_n a2_sink c_7 g8) [] rfl fn58 ⟨⟨rfl, rfl⟩, ⟨_, rfl, .inl ⟨rfl, rfl⟩⟩, trivial⟩ (.inl rfl)) (SOps.q rfl (.guard 4 17 false rfl rfl (gF g6)) rfl (q_not rfl rfl) (sq rfl rfl rfl (q_pick_f rfl rfl g6 rfl) ?_)))))))))
  refine sm rfl rfl rfl rfl rfl (SOps.skip rfl 10 23 false rfl rfl (.inl (gT g9)) rfl (SOps.skip rfl 10 23 false rfl rfl (.inl (gT g9)) rfl (SOps.skip rfl 10 23 false rfl rfl (.inl (gT g9)) rfl (sq rfl rfl rfl (q_pick_t rfl rfl g9 rfl) (SOps.sub (st' := ⟨[(27, .c (.bool true))], []⟩) (sub_gen [] rfl rfl (zall rfl rfl) trivial) (SOps.nil (SCode.cond_t rfl rfl (SCode.seq ?_))))))))
  refine SCode.region (show SOps _ _ _ [0] _ _ from ?_)
  refine sa rfl rfl rfl rfl rfl (SOps.nil (SCode.ret ?_))
  obtain rfl := Option.some.inj h
  exact ⟨⟨[(6, ci 2)], []⟩, _, sub_gen [] rfl rfl (zall rfl rfl) trivial, resA1 (v := .c (.int .i64 2)) rfl rfl, rfl⟩
 refine SCode.region (show SOps _ _ _ [0, 1, 2, 3, 4, 5, 6, 7, 8, 9, 10, 11, 12, 13, 14] _ _ from ?_)
 refine sq rfl rfl rfl (q_load_ptr_all rfl rfl rfl rfl rfl ty49) (sm rfl rfl rfl rfl rfl (sq rfl rfl rfl (q_call (flow_isNode_ok F a0_n a1_source c_4 g5) [] rfl fn58 ⟨⟨rfl, rfl⟩, ⟨_, rfl, .inl ⟨rfl, rfl⟩⟩, trivial⟩ (.inl rfl)) (sq rfl rfl rfl (q_not rfl rfl) (sm rfl rfl rfl rfl rfl (SOps.q rfl (.guard 4 17 false rfl rfl (gF g6)) rfl (q_load_ptr_all rfl rfl rfl rfl rfl ty49) (SOps.q rfl (.guard 4 17 false rfl rfl (gF g6)) rfl (q_move rfl rfl) (SOps.q rfl (.guard 4 17 false rfl rfl (gF g6)) rfl (q_call (flow_isNode_ok F a0_n a2_sink c_7 g8) [] rfl fn58 ⟨⟨rfl, rfl⟩, ⟨_, rfl, .inl ⟨rfl, rfl⟩⟩, trivial⟩ (.inl rfl)) (SOps.q rfl (.guard 4 17 false rfl rfl (gF g6)) rfl (q_not rfl rfl) (sq rfl rfl rfl (q_pick_f rfl rfl g6 rfl) ?_)))))))))
 refine sm rfl rfl rfl rfl rfl (SOps.q rfl (.guard 10 23 false rfl rfl (gF g9)) rfl (q_move rfl rfl) (SOps.q rfl (.guard 10 23 false rfl rfl (gF g9)) rfl (q_move rfl rfl) (SOps.q rfl (.guard 10 23 false rfl rfl (gF g9)) rfl (q_eql rfl rfl rfl) (sq rfl rfl rfl (q_pick_f rfl rfl g9 rfl) (SOps.sub (st' := ⟨[(27, .c (.bool (decide (a1_source = a2_sink))))], []⟩) (sub_gen [] rfl rfl (zall rfl rfl) trivial) (SOps.nil ?_))))))
 rcases cond_out h with ⟨g10, h⟩ | ⟨g10, h⟩
 ·refine SCode.cond_t rfl g10 (SCode.seq ?_)
  refine SCode.region (show SOps _ _ _ [0] _ _ from ?_)
  refine sa rfl rfl rfl rfl rfl (SOps.nil (SCode.ret ?_))
  obtain rfl := Option.some.inj h
  exact ⟨⟨[(6, ci 2)], []⟩, _, sub_gen [] rfl rfl (zall rfl rfl) trivial, resA1 (v := .c (.int .i64 2)) rfl rfl, rfl⟩
 refine SCode.cond_f rfl g10 (SCode.skip (SCode.seq ?_))
 refine SCode.region (show SOps _ _ _ [0] _ _ from ?_)
 refine sa rfl rfl rfl rfl rfl (SOps.nil (SCode.ret ?_))
 obtain rfl := Option.some.inj h
 exact ⟨⟨[(6, ci 0)], []⟩, _, sub_gen [] rfl rfl (zall rfl rfl) trivial, resA1 (v := .c (.int .i64 0)) rfl rfl, rfl⟩
end Go.Proofs.Ytfefnffdocmlmaa.W
