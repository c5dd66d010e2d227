/- Written by a program of ours (wip/eng/gen.py): the functions compute their models. -/
import Derived.Test.YtfefnffdocmlmaaFacts
import Derived.Test.YtfefnffdocmlmaaV6x7
namespace Go.Proofs.Ytfefnffdocmlmaa.W
open Go Go.Proofs Go.Proofs.Ytfefnffdocmlmaa.E Go.Proofs.Ytfefnffdocmlmaa.M
set_option linter.unusedVariables false
set_option maxRecDepth 100000 in
set_option maxHeartbeats 8000000 in
theorem chargenetref18_Valid_ok (F : Nat) (a0_p : SProblem) (r : Int) (h : chargenetref18_Valid F a0_p = some r) :
  SFun Try.prog 12 [] [.a (bSProblem a0_p)] (fun x _ => x = ci r) := by
 refine SFun.of (n := 165) Try.func12 rfl rfl rfl ?_
 unfold chargenetref18_Valid at h
 show SCode _ _ _ ⟨[(0, .a (bSProblem a0_p))], []⟩ _
 refine SCode.seq ?_
 refine SCode.region (show SOps _ _ _ [0, 1] _ _ from ?_)
 refine se rfl rfl (e_box rfl rfl rfl rfl rfl rfl) (sa rfl rfl rfl rfl rfl (SOps.nil (SCode.seq (SCode.sub (st' := ⟨[(1, .c (.ptr 0 0))], [.box (bSProblem a0_p)]⟩) (sub_gen [0] rfl rfl (zall rfl rfl) ⟨bx rfl rfl rfl, trivial⟩) ?_))))
 refine SCode.draw (s' := [(4, ci (((a0_p.Parents).length : Int))), (3, ci (((a0_p.Caps).length : Int))), (18, ci (((a0_p.Parents).length : Int))), (17, .c (vI a0_p.Parents)), (16, .c (.ptr 0 0)), (15, ci (((a0_p.Caps).length : Int))), (14, .c (vR a0_p.Caps)), (13, .c (.ptr 0 1)), (1, .c (.ptr 0 0))]) mixed [[], [0], [0, 1], [], [3], [3, 4], [0, 1, 2], [0, 1, 2, 3, 4, 5, 6]] 8 0 rfl rfl ?_ ?_
 ·refine QChain.run rfl (.plain rfl) rfl (q_field_ptr rfl rfl fd26_1) (QChain.run rfl (.plain rfl) rfl (q_load_ptr rfl rfl rfl rfl ty23) (QChain.run rfl (.plain rfl) rfl (q_len_vec rfl rfl sl23) (QChain.run rfl (.plain rfl) rfl (q_field_ptr rfl rfl fd26_0) (QChain.run rfl (.plain rfl) rfl (q_load_ptr rfl rfl rfl rfl ty22) (QChain.run rfl (.plain rfl) rfl (q_len_vec rfl rfl sl22) (QChain.run rfl (.plain rfl) rfl (q_assign rfl rfl) (QChain.run rfl (.plain rfl) rfl (q_assign rfl rfl) ?_)))))))
  exact QChain.nil _ _
 refine (show SOps _ _ _ [] _ _ from ?_)
 refine SOps.sub (st' := ⟨[(1, .c (.ptr 0 0)), (3, ci (((a0_p.Caps).length : Int))), (4, ci (((a0_p.Parents).length : Int)))], [.box (bSProblem a0_p)]⟩) (sub_gen [0] rfl rfl (zall rfl rfl) ⟨bx rfl rfl rfl, trivial⟩) (SOps.nil (SCode.seq (SCode.seq ?_)))
 rcases cond_out h with ⟨g1, h⟩ | ⟨g1, h⟩
 ·refine SCode.region (show SOps _ _ _ [0, 1, 2, 3, 4, 5, 6, 7, 8, 9, 10, 11, 12, 13, 14, 15, 16, 17, 18, 19, 20, 21, 22] _ _ from ?_)
  refine sm rfl rfl rfl rfl rfl (sq rfl rfl rfl (q_gtr rfl rfl rfl) (sm rfl rfl rfl rfl rfl (SOps.skip rfl 2 21 false rfl rfl (.inl (gT g1)) rfl (SOps.skip rfl 2 21 false rfl rfl (.inl (gT g1)) rfl (sq rfl rfl rfl (q_pick_t rfl rfl g1 rfl) (sm rfl rfl rfl rfl rfl (SOps.skip rfl 6 25 false rfl rfl (.inl rfl) rfl (SOps.skip rfl 6 25 false rfl rfl (.inl rfl) rfl (SOps.skip rfl 6 25 false rfl rfl (.inl rfl) rfl ?_)))))))))
  refine SOps.skip rfl 6 25 false rfl rfl (.inl rfl) rfl (sq rfl rfl rfl (q_pick_t rfl rfl rfl rfl) (sm rfl rfl rfl rfl rfl (SOps.skip rfl 12 31 false rfl rfl (.inl rfl) rfl (SOps.skip rfl 12 31 false rfl rfl (.inl rfl) rfl (SOps.skip rfl 12 31 false rfl rfl (.inl rfl) rfl (SOps.skip rfl 12 31 false rfl rfl (.inl rfl) rfl (SOps.skip rfl 12 31 false rfl rfl (.inl rfl) rfl (SOps.skip rfl 12 31 false rfl rfl (.inl rfl) rfl (SOps.skip rfl 12 31 false rfl rfl (.inl rfl) rfl ?_)))))))))
  refine SOps.skip rfl 12 31 false rfl rfl (.inl rfl) rfl (SOps.skip rfl 12 31 false rfl rfl (.inl rfl) rfl (sq rfl rfl rfl (q_pick_t rfl rfl rfl rfl) (SOps.sub (st' := ⟨[(1, .c (.ptr 0 0)), (3, ci (((a0_p.Caps).length : Int))), (4, ci (((a0_p.Parents).length : Int))), (41, .c (.bool true))], [.box (bSProblem a0_p)]⟩) (sub_gen [0] rfl rfl (zall rfl rfl) ⟨bx rfl rfl rfl, trivial⟩) (SOps.nil (SCode.cond_t rfl rfl (SCode.seq ?_))))))
  refine SCode.region (show SOps _ _ _ [0] _ _ from ?_)
  refine sa rfl rfl rfl rfl rfl (SOps.nil (SCode.ret ?_))
  obtain rfl := Option.some.inj h
  exact ⟨⟨[(2, ci 3)], []⟩, _, sub_gen [] rfl rfl (zall rfl rfl) trivial, resA1 (v := .c (.int .i64 3)) rfl rfl, rfl⟩
 rcases cond_out h with ⟨g2, h⟩ | ⟨g2, h⟩
 ·refine SCode.region (show SOps _ _ _ [0, 1, 2, 3, 4, 5, 6, 7, 8, 9, 10, 11, 12, 13, 14, 15, 16, 17, 18, 19, 20, 21, 22] _ _ from ?_)
  refine sm rfl rfl rfl rfl rfl (sq rfl rfl rfl (q_gtr rfl rfl rfl) (sm rfl rfl rfl rfl rfl (SOps.q rfl (.guard 2 21 false rfl rfl (gF g1)) rfl (q_move rfl rfl) (SOps.q rfl (.guard 2 21 false rfl rfl (gF g1)) rfl (q_gtr rfl rfl rfl) (sq rfl rfl rfl (q_pick_f rfl rfl g1 rfl) (sm rfl rfl rfl rfl rfl (SOps.skip rfl 6 25 false rfl rfl (.inl (gT g2)) rfl (SOps.skip rfl 6 25 false rfl rfl (.inl (gT g2)) rfl (SOps.skip rfl 6 25 false rfl rfl (.inl (gT g2)) rfl ?_)))))))))
  refine SOps.skip rfl 6 25 false rfl rfl (.inl (gT g2)) rfl (sq rfl rfl rfl (q_pick_t rfl rfl g2 rfl) (sm rfl rfl rfl rfl rfl (SOps.skip rfl 12 31 false rfl rfl (.inl rfl) rfl (SOps.skip rfl 12 31 false rfl rfl (.inl rfl) rfl (SOps.skip rfl 12 31 false rfl rfl (.inl rfl) rfl (SOps.skip rfl 12 31 false rfl rfl (.inl rfl) rfl (SOps.skip rfl 12 31 false rfl rfl (.inl rfl) rfl (SOps.skip rfl 12 31 false rfl rfl (.inl rfl) rfl (SOps.skip rfl 12 31 false rfl rfl (.inl rfl) rfl ?_)))))))))
  refine SOps.skip rfl 12 31 false rfl rfl (.inl rfl) rfl (SOps.skip rfl 12 31 false rfl rfl (.inl rfl) rfl (sq rfl rfl rfl (q_pick_t rfl rfl rfl rfl) (SOps.sub (st' := ⟨[(1, .c (.ptr 0 0)), (3, ci (((a0_p.Caps).length : Int))), (4, ci (((a0_p.Parents).length : Int))), (41, .c (.bool true))], [.box (bSProblem a0_p)]⟩) (sub_gen [0] rfl rfl (zall rfl rfl) ⟨bx rfl rfl rfl, trivial⟩) (SOps.nil (SCode.cond_t rfl rfl (SCode.seq ?_))))))
  refine SCode.region (show SOps _ _ _ [0] _ _ from ?_)
  refine sa rfl rfl rfl rfl rfl (SOps.nil (SCode.ret ?_))
  obtain rfl := Option.some.inj h
  exact ⟨⟨[(2, ci 3)], []⟩, _, sub_gen [] rfl rfl (zall rfl rfl) trivial, resA1 (v := .c (.int .i64 3)) rfl rfl, rfl⟩
 rcases cond_out h with ⟨g3, h⟩ | ⟨g3, h⟩
 ·refine SCode.region (show SOps _ _ _ [0, 1, 2, 3, 4, 5, 6, 7, 8, 9, 10, 11, 12, 13, 14, 15, 16, 17, 18, 19, 20, 21, 22] _ _ from ?_)
  refine sm rfl rfl rfl rfl rfl (sq rfl rfl rfl (q_gtr rfl rfl rfl) (sm rfl rfl rfl rfl rfl (SOps.q rfl (.guard 2 21 false rfl rfl (gF g1)) rfl (q_move rfl rfl) (SOps.q rfl (.guard 2 21 false rfl rfl (gF g1)) rfl (q_gtr rfl rfl rfl) (sq rfl rfl rfl (q_pick_f rfl rfl g1 rfl) (sm rfl rfl rfl rfl rfl (SOps.q rfl (.guard 6 25 false rfl rfl (gF g2)) rfl (q_field_ptr rfl rfl fd26_4) (SOps.q rfl (.guard 6 25 false rfl rfl (gF g2)) rfl (q_load_ptr rfl rfl rfl rfl ty24) (SOps.q rfl (.guard 6 25 false rfl rfl (gF g2)) rfl (q_len_vec rfl rfl sl24) ?_)))))))))
  refine SOps.q rfl (.guard 6 25 false rfl rfl (gF g2)) rfl (q_gtr rfl rfl rfl) (sq rfl rfl rfl (q_pick_f rfl rfl g2 rfl) (sm rfl rfl rfl rfl rfl (SOps.skip rfl 12 31 false rfl rfl (.inl (gT g3)) rfl (SOps.skip rfl 12 31 false rfl rfl (.inl (gT g3)) rfl (SOps.skip rfl 12 31 false rfl rfl (.inl (gT g3)) rfl (SOps.skip rfl 12 31 false rfl rfl (.inl (gT g3)) rfl (SOps.skip rfl 12 31 false rfl rfl (.inl (gT g3)) rfl (SOps.skip rfl 12 31 false rfl rfl (.inl (gT g3)) rfl (SOps.skip rfl 12 31 false rfl rfl (.inl (gT g3)) rfl ?_)))))))))
  refine SOps.skip rfl 12 31 false rfl rfl (.inl (gT g3)) rfl (SOps.skip rfl 12 31 false rfl rfl (.inl (gT g3)) rfl (sq rfl rfl rfl (q_pick_t rfl rfl g3 rfl) (SOps.sub (st' := ⟨[(1, .c (.ptr 0 0)), (3, ci (((a0_p.Caps).length : Int))), (4, ci (((a0_p.Parents).length : Int))), (41, .c (.bool true))], [.box (bSProblem a0_p)]⟩) (sub_gen [0] rfl rfl (zall rfl rfl) ⟨bx rfl rfl rfl, trivial⟩) (SOps.nil (SCode.cond_t rfl rfl (SCode.seq ?_))))))
  refine SCode.region (show SOps _ _ _ [0] _ _ from ?_)
  refine sa rfl rfl rfl rfl rfl (SOps.nil (SCode.ret ?_))
  obtain rfl := Option.some.inj h
  exact ⟨⟨[(2, ci 3)], []⟩, _, sub_gen [] rfl rfl (zall rfl rfl) trivial, resA1 (v := .c (.int .i64 3)) rfl rfl, rfl⟩
 refine SCode.region (show SOps _ _ _ [0, 1, 2, 3, 4, 5, 6, 7, 8, 9, 10, 11, 12, 13, 14, 15, 16, 17, 18, 19, 20, 21, 22] _ _ from ?_)
 refine sm rfl rfl rfl rfl rfl (sq rfl rfl rfl (q_gtr rfl rfl rfl) (sm rfl rfl rfl rfl rfl (SOps.q rfl (.guard 2 21 false rfl rfl (gF g1)) rfl (q_move rfl rfl) (SOps.q rfl (.guard 2 21 false rfl rfl (gF g1)) rfl (q_gtr rfl rfl rfl) (sq rfl rfl rfl (q_pick_f rfl rfl g1 rfl) (sm rfl rfl rfl rfl rfl (SOps.q rfl (.guard 6 25 false rfl rfl (gF g2)) rfl (q_field_ptr rfl rfl fd26_4) (SOps.q rfl (.guard 6 25 false rfl rfl (gF g2)) rfl (q_load_ptr rfl rfl rfl rfl ty24) (SOps.q rfl (.guard 6 25 false rfl rfl (gF g2)) rfl (q_len_vec rfl rfl sl24) ?_)))))))))
 refine SOps.q rfl (.guard 6 25 false rfl rfl (gF g2)) rfl (q_gtr rfl rfl rfl) (sq rfl rfl rfl (q_pick_f rfl rfl g2 rfl) (sm rfl rfl rfl rfl rfl (SOps.q rfl (.guard 12 31 false rfl rfl (gF g3)) rfl (q_field_ptr rfl rfl fd26_4) (SOps.q rfl (.guard 12 31 false rfl rfl (gF g3)) rfl (q_load_ptr rfl rfl rfl rfl ty24) (SOps.q rfl (.guard 12 31 false rfl rfl (gF g3)) rfl (q_len_vec rfl rfl sl24) (SOps.q rfl (.guard 12 31 false rfl rfl (gF g3)) rfl (q_add rfl rfl rfl) (SOps.q rfl (.guard 12 31 false rfl rfl (gF g3)) rfl (q_move rfl rfl) (SOps.q rfl (.guard 12 31 false rfl rfl (gF g3)) rfl (q_move rfl rfl) (SOps.q rfl (.guard 12 31 false rfl rfl (gF g3)) rfl (q_mul rfl rfl rfl) ?_)))))))))
 refine SOps.q rfl (.guard 12 31 false rfl rfl (gF g3)) rfl (q_add rfl rfl rfl) (SOps.q rfl (.guard 12 31 false rfl rfl (gF g3)) rfl (q_gtr rfl rfl rfl) (sq rfl rfl rfl (q_pick_f rfl rfl g3 rfl) (SOps.sub (st' := ⟨[(1, .c (.ptr 0 0)), (3, ci (((a0_p.Caps).length : Int))), (4, ci (((a0_p.Parents).length : Int))), (41, .c (.bool (decide (256 < IntKind.wrap .i64 (IntKind.wrap .i64 (2 + ((a0_p.Demands).length : Int)) + IntKind.wrap .i64 (((a0_p.Caps).length : Int) * ((a0_p.Parents).length : Int)))))))], [.box (bSProblem a0_p)]⟩) (sub_gen [0] rfl rfl (zall rfl rfl) ⟨bx rfl rfl rfl, trivial⟩) (SOps.nil ?_))))
 rcases cond_out h with ⟨g4, h⟩ | ⟨g4, h⟩
 ·refine SCode.cond_t rfl g4 (SCode.seq ?_)
  refine SCode.region (show SOps _ _ _ [0] _ _ from ?_)
  refine sa rfl rfl rfl rfl rfl (SOps.nil (SCode.ret ?_))
  obtain rfl := Option.some.inj h
  exact ⟨⟨[(2, ci 3)], []⟩, _, sub_gen [] rfl rfl (zall rfl rfl) trivial, resA1 (v := .c (.int .i64 3)) rfl rfl, rfl⟩
 refine SCode.cond_f rfl g4 (SCode.skip (SCode.seq (SCode.seq ?_)))
 refine SCode.region (show SOps _ _ _ [0, 1] _ _ from ?_)
 refine sm rfl rfl rfl rfl rfl (sq rfl rfl rfl (q_eql rfl rfl rfl) (SOps.nil ?_))
 rcases cond_out h with ⟨g5, h⟩ | ⟨g5, h⟩
 ·refine SCode.cond_t rfl g5 (SCode.seq ?_)
  refine SCode.region (show SOps _ _ _ [0] _ _ from ?_)
  refine sa rfl rfl rfl rfl rfl (SOps.nil (SCode.ret ?_))
  obtain rfl := Option.some.inj h
  exact ⟨⟨[(2, ci 1)], []⟩, _, sub_gen [] rfl rfl (zall rfl rfl) trivial, resA1 (v := .c (.int .i64 1)) rfl rfl, rfl⟩
 refine SCode.cond_f rfl g5 (SCode.skip ?_)
 refine SCode.join (σ := Unit) (S := fun s => ⟨[(1, .c (.ptr 0 0)), (3, ci (((a0_p.Caps).length : Int))), (4, ci (((a0_p.Parents).length : Int)))], [.box (bSProblem a0_p)]⟩) (g := fun s => chargenetref18_Valid_p104 F a0_p = some r) ?_ ?_
 rotate_left
 ·refine SCode.seq ?_
  refine SCode.region (show SOps _ _ _ [0, 1, 2, 3] _ _ from ?_)
  refine sq rfl rfl rfl (q_field_ptr rfl rfl fd26_0) (sq rfl rfl rfl (q_load_ptr rfl rfl rfl rfl ty22) (sq rfl rfl rfl (q_len_vec rfl rfl sl22) (sm rfl rfl rfl rfl rfl (SOps.nil (SCode.block (SCode.sub (st' := ⟨[(1, .c (.ptr 0 0)), (3, ci (((a0_p.Caps).length : Int))), (4, ci (((a0_p.Parents).length : Int))), (45, .c (vI a0_p.Parents)), (46, ci (((a0_p.Parents).length : Int))), (47, ci 0)], [.box (bSProblem a0_p)]⟩) (sub_gen [0] rfl rfl (zall rfl rfl) ⟨bx rfl rfl rfl, trivial⟩) ?_))))))
  refine (SCode.loop (σ := Nat × Int) (S := fun s => ⟨[(1, .c (.ptr 0 0)), (3, ci (((a0_p.Caps).length : Int))), (4, ci (((a0_p.Parents).length : Int))), (45, .c (vI a0_p.Parents)), (46, ci (((a0_p.Parents).length : Int))), (47, ci s.2)], [.box (bSProblem a0_p)]⟩) (g := fun s => chargenetref18_Valid_l114 F a0_p s.1 s.2 = some r) (μ := fun s => s.1) (F, 0) h ?_)
  rintro ⟨n_114, t47_109⟩ h
  replace h : chargenetref18_Valid_l114 F a0_p n_114 t47_109 = some r := h
  show SCode _ _ _ ⟨[(1, .c (.ptr 0 0)), (3, ci (((a0_p.Caps).length : Int))), (4, ci (((a0_p.Parents).length : Int))), (45, .c (vI a0_p.Parents)), (46, ci (((a0_p.Parents).length : Int))), (47, ci t47_109)], [.box (bSProblem a0_p)]⟩ _
  cases n_114 with
  | zero => cases h
  | succ n_114 =>
   replace h : chargenetref18_Valid_b114 F a0_p (fun t47_109 => chargenetref18_Valid_l114 F a0_p n_114 t47_109) t47_109 = some r := h
   unfold chargenetref18_Valid_b114 at h
   refine SCode.seq ?_
   refine SCode.region (show SOps _ _ _ [0] _ _ from ?_)
   refine sq rfl rfl rfl (q_lss rfl rfl rfl) (SOps.nil (SCode.seq ?_))
   rcases cond_out h with ⟨g115, h⟩ | ⟨g115, h⟩
   ·refine SCode.cond_t rfl g115 (SCode.skip (SCode.seq (SCode.block (SCode.seq ?_))))
    obtain ⟨g116, h⟩ := guard_out h
    refine SCode.region (show SOps _ _ _ [0, 1, 2, 3, 4] _ _ from ?_)
    refine sm rfl rfl rfl rfl rfl (sq rfl rfl rfl (q_index_vec rfl rfl rfl sl22 rfl g116.1 g116.2) (sq rfl rfl rfl (q_load_eptr rfl rfl ty3) (sa rfl rfl rfl rfl rfl (sa rfl rfl rfl rfl rfl (SOps.nil (SCode.seq ?_))))))
    rcases cond_out h with ⟨g117, h⟩ | ⟨g117, h⟩
    ·refine SCode.region (show SOps _ _ _ [0, 1, 2, 3, 4, 5, 6] _ _ from ?_)
     refine sm rfl rfl rfl rfl rfl (sq rfl rfl rfl (q_lss rfl rfl rfl) (sm rfl rfl rfl rfl rfl (SOps.skip rfl 2 54 false rfl rfl (.inl (gT g117)) rfl (SOps.skip rfl 2 54 false rfl rfl (.inl (gT g117)) rfl (SOps.skip rfl 2 54 false rfl rfl (.inl (gT g117)) rfl (sq rfl rfl rfl (q_pick_t rfl rfl g117 rfl) (SOps.nil (SCode.cond_t rfl rfl (SCode.seq ?_)))))))))
     refine SCode.region (show SOps _ _ _ [0] _ _ from ?_)
     refine sa rfl rfl rfl rfl rfl (SOps.nil (SCode.ret ?_))
     obtain rfl := Option.some.inj h
     exact ⟨⟨[(2, ci 1)], []⟩, _, sub_gen [] rfl rfl (zall rfl rfl) trivial, resA1 (v := .c (.int .i64 1)) rfl rfl, rfl⟩
    refine SCode.region (show SOps _ _ _ [0, 1, 2, 3, 4, 5, 6] _ _ from ?_)
    refine sm rfl rfl rfl rfl rfl (sq rfl rfl rfl (q_lss rfl rfl rfl) (sm rfl rfl rfl rfl rfl (SOps.q rfl (.guard 2 54 false rfl rfl (gF g117)) rfl (q_move rfl rfl) (SOps.q rfl (.guard 2 54 false rfl rfl (gF g117)) rfl (q_move rfl rfl) (SOps.q rfl (.guard 2 54 false rfl rfl (gF g117)) rfl (q_geq rfl rfl rfl) (sq rfl rfl rfl (q_pick_f rfl rfl g117 rfl) (SOps.nil ?_)))))))
    rcases cond_out h with ⟨g118, h⟩ | ⟨g118, h⟩
    ·refine SCode.cond_t rfl g118 (SCode.seq ?_)
     refine SCode.region (show SOps _ _ _ [0] _ _ from ?_)
     refine sa rfl rfl rfl rfl rfl (SOps.nil (SCode.ret ?_))
     obtain rfl := Option.some.inj h
     exact ⟨⟨[(2, ci 1)], []⟩, _, sub_gen [] rfl rfl (zall rfl rfl) trivial, resA1 (v := .c (.int .i64 1)) rfl rfl, rfl⟩
    refine SCode.cond_f rfl g118 (SCode.skip ?_)
    refine SCode.region (show SOps _ _ _ [0, 1] _ _ from ?_)
    refine sq rfl rfl rfl (q_add rfl rfl rfl) (sm rfl rfl rfl rfl rfl (SOps.nil ?_))
    exact ⟨(n_114, IntKind.wrap .i64 (t47_109 + 1)), h, Nat.lt_succ_self n_114, sub_gen [0] rfl rfl (zall rfl rfl) ⟨bx rfl rfl rfl, trivial⟩⟩
   refine SCode.cond_f rfl g115 (SCode.exit ?_)
   exact ⟨(), h, sub_gen [0] rfl rfl (zall rfl rfl) ⟨bx rfl rfl rfl, trivial⟩⟩
 rintro ⟨⟩ h
 show SCode _ _ _ ⟨[(1, .c (.ptr 0 0)), (3, ci (((a0_p.Caps).length : Int))), (4, ci (((a0_p.Parents).length : Int)))], [.box (bSProblem a0_p)]⟩ _
 replace h : chargenetref18_Valid_p104 F a0_p = some r := h
 unfold chargenetref18_Valid_p104 at h
 refine SCode.join (σ := Unit) (S := fun s => ⟨[(1, .c (.ptr 0 0)), (3, ci (((a0_p.Caps).length : Int))), (4, ci (((a0_p.Parents).length : Int)))], [.box (bSProblem a0_p)]⟩) (g := fun s => chargenetref18_Valid_p47 F a0_p = some r) ?_ ?_
 rotate_left
 ·refine SCode.seq ?_
  refine SCode.region (show SOps _ _ _ [0, 1, 2, 3] _ _ from ?_)
  refine sq rfl rfl rfl (q_field_ptr rfl rfl fd26_1) (sq rfl rfl rfl (q_load_ptr rfl rfl rfl rfl ty23) (sq rfl rfl rfl (q_len_vec rfl rfl sl23) (sm rfl rfl rfl rfl rfl (SOps.nil (SCode.block (SCode.sub (st' := ⟨[(1, .c (.ptr 0 0)), (3, ci (((a0_p.Caps).length : Int))), (4, ci (((a0_p.Parents).length : Int))), (61, .c (vR a0_p.Caps)), (62, ci (((a0_p.Caps).length : Int))), (63, ci 0)], [.box (bSProblem a0_p)]⟩) (sub_gen [0] rfl rfl (zall rfl rfl) ⟨bx rfl rfl rfl, trivial⟩) ?_))))))
  refine (SCode.loop (σ := Nat × Int) (S := fun s => ⟨[(1, .c (.ptr 0 0)), (3, ci (((a0_p.Caps).length : Int))), (4, ci (((a0_p.Parents).length : Int))), (61, .c (vR a0_p.Caps)), (62, ci (((a0_p.Caps).length : Int))), (63, ci s.2)], [.box (bSProblem a0_p)]⟩) (g := fun s => chargenetref18_Valid_l85 F a0_p s.1 s.2 = some r) (μ := fun s => s.1) (F, 0) h ?_)
  rintro ⟨n_85, t63_66⟩ h
  replace h : chargenetref18_Valid_l85 F a0_p n_85 t63_66 = some r := h
  show SCode _ _ _ ⟨[(1, .c (.ptr 0 0)), (3, ci (((a0_p.Caps).length : Int))), (4, ci (((a0_p.Parents).length : Int))), (61, .c (vR a0_p.Caps)), (62, ci (((a0_p.Caps).length : Int))), (63, ci t63_66)], [.box (bSProblem a0_p)]⟩ _
  cases n_85 with
  | zero => cases h
  | succ n_85 =>
   replace h : chargenetref18_Valid_b85 F a0_p (fun t63_66 => chargenetref18_Valid_l85 F a0_p n_85 t63_66) t63_66 = some r := h
   unfold chargenetref18_Valid_b85 at h
   refine SCode.seq ?_
   refine SCode.region (show SOps _ _ _ [0] _ _ from ?_)
   refine sq rfl rfl rfl (q_lss rfl rfl rfl) (SOps.nil (SCode.seq ?_))
   rcases cond_out h with ⟨g86, h⟩ | ⟨g86, h⟩
   ·refine SCode.cond_t rfl g86 (SCode.skip ?_)
    refine SCode.join (σ := Unit) (S := fun s => ⟨[(1, .c (.ptr 0 0)), (3, ci (((a0_p.Caps).length : Int))), (4, ci (((a0_p.Parents).length : Int))), (61, .c (vR a0_p.Caps)), (62, ci (((a0_p.Caps).length : Int))), (63, ci t63_66)], [.box (bSProblem a0_p)]⟩) (g := fun s => chargenetref18_Valid_p87 t63_66 (fun t63_66 => chargenetref18_Valid_l85 F a0_p n_85 t63_66) = some r) ?_ ?_
    rotate_left
    ·refine SCode.block (SCode.seq ?_)
     obtain ⟨g88, h⟩ := guard_out h
     refine SCode.region (show SOps _ _ _ [0, 1, 2] _ _ from ?_)
     refine sq rfl rfl rfl (q_index_vec rfl rfl rfl sl23 rfl g88.1 g88.2) (sq rfl rfl rfl (q_load_eptr rfl rfl ty22) (sa rfl rfl rfl rfl rfl (SOps.nil (SCode.seq (SCode.seq ?_)))))
     refine SCode.region (show SOps _ _ _ [0, 1, 2, 3] _ _ from ?_)
     refine sm rfl rfl rfl rfl rfl (sq rfl rfl rfl (q_len_vec rfl rfl sl22) (sm rfl rfl rfl rfl rfl (sq rfl rfl rfl (q_neq rfl rfl rfl) (SOps.nil ?_))))
     rcases cond_out h with ⟨g89, h⟩ | ⟨g89, h⟩
     ·refine SCode.cond_t rfl g89 (SCode.seq ?_)
      refine SCode.region (show SOps _ _ _ [0] _ _ from ?_)
      refine sa rfl rfl rfl rfl rfl (SOps.nil (SCode.ret ?_))
      obtain rfl := Option.some.inj h
      exact ⟨⟨[(2, ci 1)], []⟩, _, sub_gen [] rfl rfl (zall rfl rfl) trivial, resA1 (v := .c (.int .i64 1)) rfl rfl, rfl⟩
     refine SCode.cond_f rfl g89 (SCode.skip (SCode.seq ?_))
     refine SCode.region (show SOps _ _ _ [0, 1, 2] _ _ from ?_)
     refine sm rfl rfl rfl rfl rfl (sq rfl rfl rfl (q_len_vec rfl rfl sl22) (sm rfl rfl rfl rfl rfl (SOps.nil (SCode.block (SCode.sub (st' := ⟨[(1, .c (.ptr 0 0)), (3, ci (((a0_p.Caps).length : Int))), (4, ci (((a0_p.Parents).length : Int))), (61, .c (vR a0_p.Caps)), (62, ci (((a0_p.Caps).length : Int))), (63, ci t63_66), (71, .c (vI (a0_p.Caps.getD t63_66.toNat ([])))), (72, ci (((a0_p.Caps.getD t63_66.toNat ([])).length : Int))), (73, ci 0)], [.box (bSProblem a0_p)]⟩) (sub_gen [0] rfl rfl (zall rfl rfl) ⟨bx rfl rfl rfl, trivial⟩) ?_)))))
     refine (SCode.loop (σ := Nat × Int) (S := fun s => ⟨[(1, .c (.ptr 0 0)), (3, ci (((a0_p.Caps).length : Int))), (4, ci (((a0_p.Parents).length : Int))), (61, .c (vR a0_p.Caps)), (62, ci (((a0_p.Caps).length : Int))), (63, ci t63_66), (71, .c (vI (a0_p.Caps.getD t63_66.toNat ([])))), (72, ci (((a0_p.Caps.getD t63_66.toNat ([])).length : Int))), (73, ci s.2)], [.box (bSProblem a0_p)]⟩) (g := fun s => chargenetref18_Valid_l99 a0_p t63_66 (fun t63_66 => chargenetref18_Valid_l85 F a0_p n_85 t63_66) s.1 s.2 = some r) (μ := fun s => s.1) (F, 0) h ?_)
     rintro ⟨n_99, t73_94⟩ h
     replace h : chargenetref18_Valid_l99 a0_p t63_66 (fun t63_66 => chargenetref18_Valid_l85 F a0_p n_85 t63_66) n_99 t73_94 = some r := h
     show SCode _ _ _ ⟨[(1, .c (.ptr 0 0)), (3, ci (((a0_p.Caps).length : Int))), (4, ci (((a0_p.Parents).length : Int))), (61, .c (vR a0_p.Caps)), (62, ci (((a0_p.Caps).length : Int))), (63, ci t63_66), (71, .c (vI (a0_p.Caps.getD t63_66.toNat ([])))), (72, ci (((a0_p.Caps.getD t63_66.toNat ([])).length : Int))), (73, ci t73_94)], [.box (bSProblem a0_p)]⟩ _
     cases n_99 with
     | zero => cases h
     | succ n_99 =>
      replace h : chargenetref18_Valid_b99 a0_p t63_66 (fun t63_66 => chargenetref18_Valid_l85 F a0_p n_85 t63_66) (fun t73_94 => chargenetref18_Valid_l99 a0_p t63_66 (fun t63_66 => chargenetref18_Valid_l85 F a0_p n_85 t63_66) n_99 t73_94) t73_94 = some r := h
      unfold chargenetref18_Valid_b99 at h
      refine SCode.seq ?_
      refine SCode.region (show SOps _ _ _ [0] _ _ from ?_)
      refine sq rfl rfl rfl (q_lss rfl rfl rfl) (SOps.nil (SCode.seq ?_))
      rcases cond_out h with ⟨g100, h⟩ | ⟨g100, h⟩
      ·refine SCode.cond_t rfl g100 (SCode.skip (SCode.seq (SCode.block (SCode.seq ?_))))
       obtain ⟨g101, h⟩ := guard_out h
       refine SCode.region (show SOps _ _ _ [0, 1, 2] _ _ from ?_)
       refine sq rfl rfl rfl (q_index_vec rfl rfl rfl sl22 rfl g101.1 g101.2) (sq rfl rfl rfl (q_load_eptr rfl rfl ty3) (sa rfl rfl rfl rfl rfl (SOps.nil (SCode.seq ?_))))
       rcases cond_out h with ⟨g102, h⟩ | ⟨g102, h⟩
       ·refine SCode.region (show SOps _ _ _ [0, 1, 2, 3, 4, 5] _ _ from ?_)
        refine sm rfl rfl rfl rfl rfl (sq rfl rfl rfl (q_lss rfl rfl rfl) (sm rfl rfl rfl rfl rfl (SOps.skip rfl 2 79 false rfl rfl (.inl (gT g102)) rfl (SOps.skip rfl 2 79 false rfl rfl (.inl (gT g102)) rfl (sq rfl rfl rfl (q_pick_t rfl rfl g102 rfl) (SOps.nil (SCode.cond_t rfl rfl (SCode.seq ?_))))))))
        refine SCode.region (show SOps _ _ _ [0] _ _ from ?_)
        refine sa rfl rfl rfl rfl rfl (SOps.nil (SCode.ret ?_))
        obtain rfl := Option.some.inj h
        exact ⟨⟨[(2, ci 1)], []⟩, _, sub_gen [] rfl rfl (zall rfl rfl) trivial, resA1 (v := .c (.int .i64 1)) rfl rfl, rfl⟩
       refine SCode.region (show SOps _ _ _ [0, 1, 2, 3, 4, 5] _ _ from ?_)
       refine sm rfl rfl rfl rfl rfl (sq rfl rfl rfl (q_lss rfl rfl rfl) (sm rfl rfl rfl rfl rfl (SOps.q rfl (.guard 2 79 false rfl rfl (gF g102)) rfl (q_move rfl rfl) (SOps.q rfl (.guard 2 79 false rfl rfl (gF g102)) rfl (q_gtr rfl rfl rfl) (sq rfl rfl rfl (q_pick_f rfl rfl g102 rfl) (SOps.nil ?_))))))
       rcases cond_out h with ⟨g103, h⟩ | ⟨g103, h⟩
       ·refine SCode.cond_t rfl g103 (SCode.seq ?_)
        refine SCode.region (show SOps _ _ _ [0] _ _ from ?_)
        refine sa rfl rfl rfl rfl rfl (SOps.nil (SCode.ret ?_))
        obtain rfl := Option.some.inj h
        exact ⟨⟨[(2, ci 1)], []⟩, _, sub_gen [] rfl rfl (zall rfl rfl) trivial, resA1 (v := .c (.int .i64 1)) rfl rfl, rfl⟩
       refine SCode.cond_f rfl g103 (SCode.skip ?_)
       refine SCode.region (show SOps _ _ _ [0, 1] _ _ from ?_)
       refine sq rfl rfl rfl (q_add rfl rfl rfl) (sm rfl rfl rfl rfl rfl (SOps.nil ?_))
       exact ⟨(n_99, IntKind.wrap .i64 (t73_94 + 1)), h, Nat.lt_succ_self n_99, sub_gen [0] rfl rfl (zall rfl rfl) ⟨bx rfl rfl rfl, trivial⟩⟩
      refine SCode.cond_f rfl g100 (SCode.exit ?_)
      exact ⟨(), h, sub_gen [0] rfl rfl (zall rfl rfl) ⟨bx rfl rfl rfl, trivial⟩⟩
    rintro ⟨⟩ h
    show SCode _ _ _ ⟨[(1, .c (.ptr 0 0)), (3, ci (((a0_p.Caps).length : Int))), (4, ci (((a0_p.Parents).length : Int))), (61, .c (vR a0_p.Caps)), (62, ci (((a0_p.Caps).length : Int))), (63, ci t63_66)], [.box (bSProblem a0_p)]⟩ _
    replace h : chargenetref18_Valid_p87 t63_66 (fun t63_66 => chargenetref18_Valid_l85 F a0_p n_85 t63_66) = some r := h
    unfold chargenetref18_Valid_p87 at h
    refine SCode.region (show SOps _ _ _ [0, 1] _ _ from ?_)
    refine sq rfl rfl rfl (q_add rfl rfl rfl) (sm rfl rfl rfl rfl rfl (SOps.nil ?_))
    exact ⟨(n_85, IntKind.wrap .i64 (t63_66 + 1)), h, Nat.lt_succ_self n_85, sub_gen [0] rfl rfl (zall rfl rfl) ⟨bx rfl rfl rfl, trivial⟩⟩
   refine SCode.cond_f rfl g86 (SCode.exit ?_)
   exact ⟨(), h, sub_gen [0] rfl rfl (zall rfl rfl) ⟨bx rfl rfl rfl, trivial⟩⟩
 rintro ⟨⟩ h
 show SCode _ _ _ ⟨[(1, .c (.ptr 0 0)), (3, ci (((a0_p.Caps).length : Int))), (4, ci (((a0_p.Parents).length : Int)))], [.box (bSProblem a0_p)]⟩ _
 replace h : chargenetref18_Valid_p47 F a0_p = some r := h
 unfold chargenetref18_Valid_p47 at h
 refine SCode.seq (SCode.seq ?_)
 rcases cond_out h with ⟨g6, h⟩ | ⟨g6, h⟩
 ·refine SCode.region (show SOps _ _ _ [0, 1, 2, 3, 4, 5, 6, 7, 8, 9, 10, 11, 12, 13, 14, 15, 16, 17, 18, 19, 20, 21, 22, 23, 24, 25, 26, 27] _ _ from ?_)
  refine sq rfl rfl rfl (q_field_ptr rfl rfl fd26_2) (sq rfl rfl rfl (q_load_ptr rfl rfl rfl rfl ty3) (sq rfl rfl rfl (q_lss rfl rfl rfl) (sm rfl rfl rfl rfl rfl (SOps.skip rfl 3 88 false rfl rfl (.inl (gT g6)) rfl (SOps.skip rfl 3 88 false rfl rfl (.inl (gT g6)) rfl (SOps.skip rfl 3 88 false rfl rfl (.inl (gT g6)) rfl (sq rfl rfl rfl (q_pick_t rfl rfl g6 rfl) (sm rfl rfl rfl rfl rfl (SOps.skip rfl 8 93 false rfl rfl (.inl rfl) rfl ?_)))))))))
  refine SOps.skip rfl 8 93 false rfl rfl (.inl rfl) rfl (SOps.skip rfl 8 93 false rfl rfl (.inl rfl) rfl (sq rfl rfl rfl (q_pick_t rfl rfl rfl rfl) (sm rfl rfl rfl rfl rfl (SOps.skip rfl 13 98 false rfl rfl (.inl rfl) rfl (SOps.skip rfl 13 98 false rfl rfl (.inl rfl) rfl (SOps.skip rfl 13 98 false rfl rfl (.inl rfl) rfl (sq rfl rfl rfl (q_pick_t rfl rfl rfl rfl) (sm rfl rfl rfl rfl rfl (SOps.skip rfl 18 103 false rfl rfl (.inl rfl) rfl ?_)))))))))
  refine SOps.skip rfl 18 103 false rfl rfl (.inl rfl) rfl (SOps.skip rfl 18 103 false rfl rfl (.inl rfl) rfl (SOps.skip rfl 18 103 false rfl rfl (.inl rfl) rfl (SOps.skip rfl 18 103 false rfl rfl (.inl rfl) rfl (SOps.skip rfl 18 103 false rfl rfl (.inl rfl) rfl (SOps.skip rfl 18 103 false rfl rfl (.inl rfl) rfl (SOps.skip rfl 18 103 false rfl rfl (.inl rfl) rfl (sq rfl rfl rfl (q_pick_t rfl rfl rfl rfl) (SOps.sub (st' := ⟨[(1, .c (.ptr 0 0)), (4, ci (((a0_p.Parents).length : Int))), (112, .c (.bool true))], [.box (bSProblem a0_p)]⟩) (sub_gen [0] rfl rfl (zall rfl rfl) ⟨bx rfl rfl rfl, trivial⟩) (SOps.nil ?_)))))))))
  refine SCode.cond_t rfl rfl (SCode.seq ?_)
  refine SCode.region (show SOps _ _ _ [0] _ _ from ?_)
  refine sa rfl rfl rfl rfl rfl (SOps.nil (SCode.ret ?_))
  obtain rfl := Option.some.inj h
  exact ⟨⟨[(2, ci 2)], []⟩, _, sub_gen [] rfl rfl (zall rfl rfl) trivial, resA1 (v := .c (.int .i64 2)) rfl rfl, rfl⟩
 rcases cond_out h with ⟨g7, h⟩ | ⟨g7, h⟩
 ·refine SCode.region (show SOps _ _ _ [0, 1, 2, 3, 4, 5, 6, 7, 8, 9, 10, 11, 12, 13, 14, 15, 16, 17, 18, 19, 20, 21, 22, 23, 24, 25, 26, 27] _ _ from ?_)
  refine sq rfl rfl rfl (q_field_ptr rfl rfl fd26_2) (sq rfl rfl rfl (q_load_ptr rfl rfl rfl rfl ty3) (sq rfl rfl rfl (q_lss rfl rfl rfl) (sm rfl rfl rfl rfl rfl (SOps.q rfl (.guard 3 88 false rfl rfl (gF g6)) rfl (q_field_ptr rfl rfl fd26_2) (SOps.q rfl (.guard 3 88 false rfl rfl (gF g6)) rfl (q_load_ptr rfl rfl rfl rfl ty3) (SOps.q rfl (.guard 3 88 false rfl rfl (gF g6)) rfl (q_gtr rfl rfl rfl) (sq rfl rfl rfl (q_pick_f rfl rfl g6 rfl) (sm rfl rfl rfl rfl rfl (SOps.skip rfl 8 93 false rfl rfl (.inl (gT g7)) rfl ?_)))))))))
  refine SOps.skip rfl 8 93 false rfl rfl (.inl (gT g7)) rfl (SOps.skip rfl 8 93 false rfl rfl (.inl (gT g7)) rfl (sq rfl rfl rfl (q_pick_t rfl rfl g7 rfl) (sm rfl rfl rfl rfl rfl (SOps.skip rfl 13 98 false rfl rfl (.inl rfl) rfl (SOps.skip rfl 13 98 false rfl rfl (.inl rfl) rfl (SOps.skip rfl 13 98 false rfl rfl (.inl rfl) rfl (sq rfl rfl rfl (q_pick_t rfl rfl rfl rfl) (sm rfl rfl rfl rfl rfl (SOps.skip rfl 18 103 false rfl rfl (.inl rfl) rfl ?_)))))))))
  refine SOps.skip rfl 18 103 false rfl rfl (.inl rfl) rfl (SOps.skip rfl 18 103 false rfl rfl (.inl rfl) rfl (SOps.skip rfl 18 103 false rfl rfl (.inl rfl) rfl (SOps.skip rfl 18 103 false rfl rfl (.inl rfl) rfl (SOps.skip rfl 18 103 false rfl rfl (.inl rfl) rfl (SOps.skip rfl 18 103 false rfl rfl (.inl rfl) rfl (SOps.skip rfl 18 103 false rfl rfl (.inl rfl) rfl (sq rfl rfl rfl (q_pick_t rfl rfl rfl rfl) (SOps.sub (st' := ⟨[(1, .c (.ptr 0 0)), (4, ci (((a0_p.Parents).length : Int))), (112, .c (.bool true))], [.box (bSProblem a0_p)]⟩) (sub_gen [0] rfl rfl (zall rfl rfl) ⟨bx rfl rfl rfl, trivial⟩) (SOps.nil ?_)))))))))
  refine SCode.cond_t rfl rfl (SCode.seq ?_)
  refine SCode.region (show SOps _ _ _ [0] _ _ from ?_)
  refine sa rfl rfl rfl rfl rfl (SOps.nil (SCode.ret ?_))
  obtain rfl := Option.some.inj h
  exact ⟨⟨[(2, ci 2)], []⟩, _, sub_gen [] rfl rfl (zall rfl rfl) trivial, resA1 (v := .c (.int .i64 2)) rfl rfl, rfl⟩
 rcases cond_out h with ⟨g8, h⟩ | ⟨g8, h⟩
 ·refine SCode.region (show SOps _ _ _ [0, 1, 2, 3, 4, 5, 6, 7, 8, 9, 10, 11, 12, 13, 14, 15, 16, 17, 18, 19, 20, 21, 22, 23, 24, 25, 26, 27] _ _ from ?_)
  refine sq rfl rfl rfl (q_field_ptr rfl rfl fd26_2) (sq rfl rfl rfl (q_load_ptr rfl rfl rfl rfl ty3) (sq rfl rfl rfl (q_lss rfl rfl rfl) (sm rfl rfl rfl rfl rfl (SOps.q rfl (.guard 3 88 false rfl rfl (gF g6)) rfl (q_field_ptr rfl rfl fd26_2) (SOps.q rfl (.guard 3 88 false rfl rfl (gF g6)) rfl (q_load_ptr rfl rfl rfl rfl ty3) (SOps.q rfl (.guard 3 88 false rfl rfl (gF g6)) rfl (q_gtr rfl rfl rfl) (sq rfl rfl rfl (q_pick_f rfl rfl g6 rfl) (sm rfl rfl rfl rfl rfl (SOps.q rfl (.guard 8 93 false rfl rfl (gF g7)) rfl (q_field_ptr rfl rfl fd26_3) ?_)))))))))
  refine SOps.q rfl (.guard 8 93 false rfl rfl (gF g7)) rfl (q_load_ptr rfl rfl rfl rfl ty3) (SOps.q rfl (.guard 8 93 false rfl rfl (gF g7)) rfl (q_lss rfl rfl rfl) (sq rfl rfl rfl (q_pick_f rfl rfl g7 rfl) (sm rfl rfl rfl rfl rfl (SOps.skip rfl 13 98 false rfl rfl (.inl (gT g8)) rfl (SOps.skip rfl 13 98 false rfl rfl (.inl (gT g8)) rfl (SOps.skip rfl 13 98 false rfl rfl (.inl (gT g8)) rfl (sq rfl rfl rfl (q_pick_t rfl rfl g8 rfl) (sm rfl rfl rfl rfl rfl (SOps.skip rfl 18 103 false rfl rfl (.inl rfl) rfl ?_)))))))))
  refine SOps.skip rfl 18 103 false rfl rfl (.inl rfl) rfl (SOps.skip rfl 18 103 false rfl rfl (.inl rfl) rfl (SOps.skip rfl 18 103 false rfl rfl (.inl rfl) rfl (SOps.skip rfl 18 103 false rfl rfl (.inl rfl) rfl (SOps.skip rfl 18 103 false rfl rfl (.inl rfl) rfl (SOps.skip rfl 18 103 false rfl rfl (.inl rfl) rfl (SOps.skip rfl 18 103 false rfl rfl (.inl rfl) rfl (sq rfl rfl rfl (q_pick_t rfl rfl rfl rfl) (SOps.sub (st' := ⟨[(1, .c (.ptr 0 0)), (4, ci (((a0_p.Parents).length : Int))), (112, .c (.bool true))], [.box (bSProblem a0_p)]⟩) (sub_gen [0] rfl rfl (zall rfl rfl) ⟨bx rfl rfl rfl, trivial⟩) (SOps.nil ?_)))))))))
  refine SCode.cond_t rfl rfl (SCode.seq ?_)
  refine SCode.region (show SOps _ _ _ [0] _ _ from ?_)
  refine sa rfl rfl rfl rfl rfl (SOps.nil (SCode.ret ?_))
  obtain rfl := Option.some.inj h
  exact ⟨⟨[(2, ci 2)], []⟩, _, sub_gen [] rfl rfl (zall rfl rfl) trivial, resA1 (v := .c (.int .i64 2)) rfl rfl, rfl⟩
 rcases cond_out h with ⟨g9, h⟩ | ⟨g9, h⟩
 ·refine SCode.region (show SOps _ _ _ [0, 1, 2, 3, 4, 5, 6, 7, 8, 9, 10, 11, 12, 13, 14, 15, 16, 17, 18, 19, 20, 21, 22, 23, 24, 25, 26, 27] _ _ from ?_)
  refine sq rfl rfl rfl (q_field_ptr rfl rfl fd26_2) (sq rfl rfl rfl (q_load_ptr rfl rfl rfl rfl ty3) (sq rfl rfl rfl (q_lss rfl rfl rfl) (sm rfl rfl rfl rfl rfl (SOps.q rfl (.guard 3 88 false rfl rfl (gF g6)) rfl (q_field_ptr rfl rfl fd26_2) (SOps.q rfl (.guard 3 88 false rfl rfl (gF g6)) rfl (q_load_ptr rfl rfl rfl rfl ty3) (SOps.q rfl (.guard 3 88 false rfl rfl (gF g6)) rfl (q_gtr rfl rfl rfl) (sq rfl rfl rfl (q_pick_f rfl rfl g6 rfl) (sm rfl rfl rfl rfl rfl (SOps.q rfl (.guard 8 93 false rfl rfl (gF g7)) rfl (q_field_ptr rfl rfl fd26_3) ?_)))))))))
  refine SOps.q rfl (.guard 8 93 false rfl rfl (gF g7)) rfl (q_load_ptr rfl rfl rfl rfl ty3) (SOps.q rfl (.guard 8 93 false rfl rfl (gF g7)) rfl (q_lss rfl rfl rfl) (sq rfl rfl rfl (q_pick_f rfl rfl g7 rfl) (sm rfl rfl rfl rfl rfl (SOps.q rfl (.guard 13 98 false rfl rfl (gF g8)) rfl (q_field_ptr rfl rfl fd26_3) (SOps.q rfl (.guard 13 98 false rfl rfl (gF g8)) rfl (q_load_ptr rfl rfl rfl rfl ty3) (SOps.q rfl (.guard 13 98 false rfl rfl (gF g8)) rfl (q_gtr rfl rfl rfl) (sq rfl rfl rfl (q_pick_f rfl rfl g8 rfl) (sm rfl rfl rfl rfl rfl (SOps.skip rfl 18 103 false rfl rfl (.inl (gT g9)) rfl ?_)))))))))
  refine SOps.skip rfl 18 103 false rfl rfl (.inl (gT g9)) rfl (SOps.skip rfl 18 103 false rfl rfl (.inl (gT g9)) rfl (SOps.skip rfl 18 103 false rfl rfl (.inl (gT g9)) rfl (SOps.skip rfl 18 103 false rfl rfl (.inl (gT g9)) rfl (SOps.skip rfl 18 103 false rfl rfl (.inl (gT g9)) rfl (SOps.skip rfl 18 103 false rfl rfl (.inl (gT g9)) rfl (SOps.skip rfl 18 103 false rfl rfl (.inl (gT g9)) rfl (sq rfl rfl rfl (q_pick_t rfl rfl g9 rfl) (SOps.sub (st' := ⟨[(1, .c (.ptr 0 0)), (4, ci (((a0_p.Parents).length : Int))), (112, .c (.bool true))], [.box (bSProblem a0_p)]⟩) (sub_gen [0] rfl rfl (zall rfl rfl) ⟨bx rfl rfl rfl, trivial⟩) (SOps.nil ?_)))))))))
  refine SCode.cond_t rfl rfl (SCode.seq ?_)
  refine SCode.region (show SOps _ _ _ [0] _ _ from ?_)
  refine sa rfl rfl rfl rfl rfl (SOps.nil (SCode.ret ?_))
  obtain rfl := Option.some.inj h
  exact ⟨⟨[(2, ci 2)], []⟩, _, sub_gen [] rfl rfl (zall rfl rfl) trivial, resA1 (v := .c (.int .i64 2)) rfl rfl, rfl⟩
 refine SCode.region (show SOps _ _ _ [0, 1, 2, 3, 4, 5, 6, 7, 8, 9, 10, 11, 12, 13, 14, 15, 16, 17, 18, 19, 20, 21, 22, 23, 24, 25, 26, 27] _ _ from ?_)
 refine sq rfl rfl rfl (q_field_ptr rfl rfl fd26_2) (sq rfl rfl rfl (q_load_ptr rfl rfl rfl rfl ty3) (sq rfl rfl rfl (q_lss rfl rfl rfl) (sm rfl rfl rfl rfl rfl (SOps.q rfl (.guard 3 88 false rfl rfl (gF g6)) rfl (q_field_ptr rfl rfl fd26_2) (SOps.q rfl (.guard 3 88 false rfl rfl (gF g6)) rfl (q_load_ptr rfl rfl rfl rfl ty3) (SOps.q rfl (.guard 3 88 false rfl rfl (gF g6)) rfl (q_gtr rfl rfl rfl) (sq rfl rfl rfl (q_pick_f rfl rfl g6 rfl) (sm rfl rfl rfl rfl rfl (SOps.q rfl (.guard 8 93 false rfl rfl (gF g7)) rfl (q_field_ptr rfl rfl fd26_3) ?_)))))))))
 refine SOps.q rfl (.guard 8 93 false rfl rfl (gF g7)) rfl (q_load_ptr rfl rfl rfl rfl ty3) (SOps.q rfl (.guard 8 93 false rfl rfl (gF g7)) rfl (q_lss rfl rfl rfl) (sq rfl rfl rfl (q_pick_f rfl rfl g7 rfl) (sm rfl rfl rfl rfl rfl (SOps.q rfl (.guard 13 98 false rfl rfl (gF g8)) rfl (q_field_ptr rfl rfl fd26_3) (SOps.q rfl (.guard 13 98 false rfl rfl (gF g8)) rfl (q_load_ptr rfl rfl rfl rfl ty3) (SOps.q rfl (.guard 13 98 false rfl rfl (gF g8)) rfl (q_gtr rfl rfl rfl) (sq rfl rfl rfl (q_pick_f rfl rfl g8 rfl) (sm rfl rfl rfl rfl rfl (SOps.q rfl (.guard 18 103 false rfl rfl (gF g9)) rfl (q_field_ptr rfl rfl fd26_2) ?_)))))))))
 refine SOps.q rfl (.guard 18 103 false rfl rfl (gF g9)) rfl (q_load_ptr rfl rfl rfl rfl ty3) (SOps.q rfl (.guard 18 103 false rfl rfl (gF g9)) rfl (q_move rfl rfl) (SOps.q rfl (.guard 18 103 false rfl rfl (gF g9)) rfl (q_field_ptr rfl rfl fd26_3) (SOps.q rfl (.guard 18 103 false rfl rfl (gF g9)) rfl (q_load_ptr rfl rfl rfl rfl ty3) (SOps.q rfl (.guard 18 103 false rfl rfl (gF g9)) rfl (q_mul rfl rfl rfl) (SOps.q rfl (.guard 18 103 false rfl rfl (gF g9)) rfl (q_add rfl rfl rfl) (SOps.q rfl (.guard 18 103 false rfl rfl (gF g9)) rfl (q_gtr rfl rfl rfl) (sq rfl rfl rfl (q_pick_f rfl rfl g9 rfl) (SOps.sub (st' := ⟨[(1, .c (.ptr 0 0)), (4, ci (((a0_p.Parents).length : Int))), (112, .c (.bool (decide (268435456 < IntKind.wrap .i64 (a0_p.From + IntKind.wrap .i64 (((a0_p.Caps).length : Int) * a0_p.Length))))))], [.box (bSProblem a0_p)]⟩) (sub_gen [0] rfl rfl (zall rfl rfl) ⟨bx rfl rfl rfl, trivial⟩) (SOps.nil ?_)))))))))
 rcases cond_out h with ⟨g10, h⟩ | ⟨g10, h⟩
 ·refine SCode.cond_t rfl g10 (SCode.seq ?_)
  refine SCode.region (show SOps _ _ _ [0] _ _ from ?_)
  refine sa rfl rfl rfl rfl rfl (SOps.nil (SCode.ret ?_))
  obtain rfl := Option.some.inj h
  exact ⟨⟨[(2, ci 2)], []⟩, _, sub_gen [] rfl rfl (zall rfl rfl) trivial, resA1 (v := .c (.int .i64 2)) rfl rfl, rfl⟩
 refine SCode.cond_f rfl g10 (SCode.skip ?_)
 refine SCode.join (σ := Unit) (S := fun s => ⟨[], []⟩) (g := fun s => chargenetref18_Valid_p11 = some r) ?_ ?_
 rotate_left
 ·refine SCode.seq ?_
  refine SCode.region (show SOps _ _ _ [0, 1, 2, 3] _ _ from ?_)
  refine sq rfl rfl rfl (q_field_ptr rfl rfl fd26_4) (sq rfl rfl rfl (q_load_ptr rfl rfl rfl rfl ty24) (sq rfl rfl rfl (q_len_vec rfl rfl sl24) (sm rfl rfl rfl rfl rfl (SOps.nil (SCode.block (SCode.sub (st' := ⟨[(4, ci (((a0_p.Parents).length : Int))), (114, .c (vSDemand a0_p.Demands)), (115, ci (((a0_p.Demands).length : Int))), (116, ci 0)], []⟩) (sub_gen [] rfl rfl (zall rfl rfl) trivial) ?_))))))
  refine (SCode.loop (σ := Nat × Int) (S := fun s => ⟨[(4, ci (((a0_p.Parents).length : Int))), (114, .c (vSDemand a0_p.Demands)), (115, ci (((a0_p.Demands).length : Int))), (116, ci s.2)], []⟩) (g := fun s => chargenetref18_Valid_l35 a0_p s.1 s.2 = some r) (μ := fun s => s.1) (F, 0) h ?_)
  rintro ⟨n_35, t116_23⟩ h
  replace h : chargenetref18_Valid_l35 a0_p n_35 t116_23 = some r := h
  show SCode _ _ _ ⟨[(4, ci (((a0_p.Parents).length : Int))), (114, .c (vSDemand a0_p.Demands)), (115, ci (((a0_p.Demands).length : Int))), (116, ci t116_23)], []⟩ _
  cases n_35 with
  | zero => cases h
  | succ n_35 =>
   replace h : chargenetref18_Valid_b35 a0_p (fun t116_23 => chargenetref18_Valid_l35 a0_p n_35 t116_23) t116_23 = some r := h
   unfold chargenetref18_Valid_b35 at h
   refine SCode.seq ?_
   refine SCode.region (show SOps _ _ _ [0] _ _ from ?_)
   refine sq rfl rfl rfl (q_lss rfl rfl rfl) (SOps.nil (SCode.seq ?_))
   rcases cond_out h with ⟨g36, h⟩ | ⟨g36, h⟩
   ·refine SCode.cond_t rfl g36 (SCode.skip (SCode.seq (SCode.block (SCode.seq ?_))))
    obtain ⟨g37, h⟩ := guard_out h
    refine SCode.region (show SOps _ _ _ [0, 1, 2, 3] _ _ from ?_)
    refine sq rfl rfl rfl (q_index_vec rfl rfl rfl sl24 rfl g37.1 g37.2) (sq rfl rfl rfl (q_load_eptr_all rfl rfl rfl ty39) (se rfl rfl (e_alloc rfl rfl rfl z39) (se rfl rfl (e_store_box rfl rfl rfl rfl rfl ty39 rfl rfl rfl rfl) (SOps.nil (SCode.seq (SCode.seq ?_))))))
    rcases cond_out h with ⟨g38, h⟩ | ⟨g38, h⟩
    ·refine SCode.region (show SOps _ _ _ [0, 1, 2, 3, 4, 5, 6, 7, 8] _ _ from ?_)
     refine sq rfl rfl rfl (q_field_ptr rfl rfl fd39_0) (sq rfl rfl rfl (q_load_ptr rfl rfl rfl rfl ty3) (sq rfl rfl rfl (q_lss rfl rfl rfl) (sm rfl rfl rfl rfl rfl (SOps.skip rfl 3 123 false rfl rfl (.inl (gT g38)) rfl (SOps.skip rfl 3 123 false rfl rfl (.inl (gT g38)) rfl (SOps.skip rfl 3 123 false rfl rfl (.inl (gT g38)) rfl (SOps.skip rfl 3 123 false rfl rfl (.inl (gT g38)) rfl (sq rfl rfl rfl (q_pick_t rfl rfl g38 rfl) (SOps.nil ?_)))))))))
     refine SCode.cond_t rfl rfl (SCode.seq ?_)
     refine SCode.region (show SOps _ _ _ [0] _ _ from ?_)
     refine sa rfl rfl rfl rfl rfl (SOps.nil (SCode.ret ?_))
     obtain rfl := Option.some.inj h
     exact ⟨⟨[(2, ci 1)], []⟩, _, sub_gen [] rfl rfl (zall rfl rfl) trivial, resA1 (v := .c (.int .i64 1)) rfl rfl, rfl⟩
    refine SCode.region (show SOps _ _ _ [0, 1, 2, 3, 4, 5, 6, 7, 8] _ _ from ?_)
    refine sq rfl rfl rfl (q_field_ptr rfl rfl fd39_0) (sq rfl rfl rfl (q_load_ptr rfl rfl rfl rfl ty3) (sq rfl rfl rfl (q_lss rfl rfl rfl) (sm rfl rfl rfl rfl rfl (SOps.q rfl (.guard 3 123 false rfl rfl (gF g38)) rfl (q_field_ptr rfl rfl fd39_0) (SOps.q rfl (.guard 3 123 false rfl rfl (gF g38)) rfl (q_load_ptr rfl rfl rfl rfl ty3) (SOps.q rfl (.guard 3 123 false rfl rfl (gF g38)) rfl (q_move rfl rfl) (SOps.q rfl (.guard 3 123 false rfl rfl (gF g38)) rfl (q_geq rfl rfl rfl) (sq rfl rfl rfl (q_pick_f rfl rfl g38 rfl) (SOps.nil ?_)))))))))
    rcases cond_out h with ⟨g39, h⟩ | ⟨g39, h⟩
    ·refine SCode.cond_t rfl g39 (SCode.seq ?_)
     refine SCode.region (show SOps _ _ _ [0] _ _ from ?_)
     refine sa rfl rfl rfl rfl rfl (SOps.nil (SCode.ret ?_))
     obtain rfl := Option.some.inj h
     exact ⟨⟨[(2, ci 1)], []⟩, _, sub_gen [] rfl rfl (zall rfl rfl) trivial, resA1 (v := .c (.int .i64 1)) rfl rfl, rfl⟩
    refine SCode.cond_f rfl g39 (SCode.skip (SCode.seq ?_))
    rcases cond_out h with ⟨g40, h⟩ | ⟨g40, h⟩
    ·refine SCode.region (show SOps _ _ _ [0, 1, 2, 3, 4, 5, 6, 7, 8, 9, 10, 11, 12, 13, 14, 15, 16, 17, 18, 19, 20, 21, 22, 23, 24, 25, 26, 27, 28, 29, 30, 31, 32, 33, 34] _ _ from ?_)
     refine sq rfl rfl rfl (q_field_ptr rfl rfl fd39_1) (sq rfl rfl rfl (q_load_ptr rfl rfl rfl rfl ty3) (sq rfl rfl rfl (q_lss rfl rfl rfl) (sm rfl rfl rfl rfl rfl (SOps.skip rfl 3 132 false rfl rfl (.inl (gT g40)) rfl (SOps.skip rfl 3 132 false rfl rfl (.inl (gT g40)) rfl (SOps.skip rfl 3 132 false rfl rfl (.inl (gT g40)) rfl (sq rfl rfl rfl (q_pick_t rfl rfl g40 rfl) (sm rfl rfl rfl rfl rfl (SOps.skip rfl 8 137 false rfl rfl (.inl rfl) rfl ?_)))))))))
     refine SOps.skip rfl 8 137 false rfl rfl (.inl rfl) rfl (SOps.skip rfl 8 137 false rfl rfl (.inl rfl) rfl (sq rfl rfl rfl (q_pick_t rfl rfl rfl rfl) (sm rfl rfl rfl rfl rfl (SOps.skip rfl 13 142 false rfl rfl (.inl rfl) rfl (SOps.skip rfl 13 142 false rfl rfl (.inl rfl) rfl (SOps.skip rfl 13 142 false rfl rfl (.inl rfl) rfl (sq rfl rfl rfl (q_pick_t rfl rfl rfl rfl) (sm rfl rfl rfl rfl rfl (SOps.skip rfl 18 147 false rfl rfl (.inl rfl) rfl ?_)))))))))
     refine SOps.skip rfl 18 147 false rfl rfl (.inl rfl) rfl (SOps.skip rfl 18 147 false rfl rfl (.inl rfl) rfl (sq rfl rfl rfl (q_pick_t rfl rfl rfl rfl) (sm rfl rfl rfl rfl rfl (SOps.skip rfl 23 152 false rfl rfl (.inl rfl) rfl (SOps.skip rfl 23 152 false rfl rfl (.inl rfl) rfl (SOps.skip rfl 23 152 false rfl rfl (.inl rfl) rfl (SOps.skip rfl 23 152 false rfl rfl (.inl rfl) rfl (SOps.skip rfl 23 152 false rfl rfl (.inl rfl) rfl (sq rfl rfl rfl (q_pick_t rfl rfl rfl rfl) ?_)))))))))
     refine sm rfl rfl rfl rfl rfl (SOps.skip rfl 30 159 false rfl rfl (.inl rfl) rfl (SOps.skip rfl 30 159 false rfl rfl (.inl rfl) rfl (SOps.skip rfl 30 159 false rfl rfl (.inl rfl) rfl (sq rfl rfl rfl (q_pick_t rfl rfl rfl rfl) (SOps.sub (st' := ⟨[(4, ci (((a0_p.Parents).length : Int))), (114, .c (vSDemand a0_p.Demands)), (115, ci (((a0_p.Demands).length : Int))), (116, ci t116_23), (163, .c (.bool true))], []⟩) (sub_gen [] rfl rfl (zall rfl rfl) trivial) (SOps.nil (SCode.cond_t rfl rfl (SCode.seq ?_))))))))
     refine SCode.region (show SOps _ _ _ [0] _ _ from ?_)
     refine sa rfl rfl rfl rfl rfl (SOps.nil (SCode.ret ?_))
     obtain rfl := Option.some.inj h
     exact ⟨⟨[(2, ci 2)], []⟩, _, sub_gen [] rfl rfl (zall rfl rfl) trivial, resA1 (v := .c (.int .i64 2)) rfl rfl, rfl⟩
    rcases cond_out h with ⟨g41, h⟩ | ⟨g41, h⟩
    ·refine SCode.region (show SOps _ _ _ [0, 1, 2, 3, 4, 5, 6, 7, 8, 9, 10, 11, 12, 13, 14, 15, 16, 17, 18, 19, 20, 21, 22, 23, 24, 25, 26, 27, 28, 29, 30, 31, 32, 33, 34] _ _ from ?_)
     refine sq rfl rfl rfl (q_field_ptr rfl rfl fd39_1) (sq rfl rfl rfl (q_load_ptr rfl rfl rfl rfl ty3) (sq rfl rfl rfl (q_lss rfl rfl rfl) (sm rfl rfl rfl rfl rfl (SOps.q rfl (.guard 3 132 false rfl rfl (gF g40)) rfl (q_field_ptr rfl rfl fd39_1) (SOps.q rfl (.guard 3 132 false rfl rfl (gF g40)) rfl (q_load_ptr rfl rfl rfl rfl ty3) (SOps.q rfl (.guard 3 132 false rfl rfl (gF g40)) rfl (q_gtr rfl rfl rfl) (sq rfl rfl rfl (q_pick_f rfl rfl g40 rfl) (sm rfl rfl rfl rfl rfl (SOps.skip rfl 8 137 false rfl rfl (.inl (gT g41)) rfl ?_)))))))))
     refine SOps.skip rfl 8 137 false rfl rfl (.inl (gT g41)) rfl (SOps.skip rfl 8 137 false rfl rfl (.inl (gT g41)) rfl (sq rfl rfl rfl (q_pick_t rfl rfl g41 rfl) (sm rfl rfl rfl rfl rfl (SOps.skip rfl 13 142 false rfl rfl (.inl rfl) rfl (SOps.skip rfl 13 142 false rfl rfl (.inl rfl) rfl (SOps.skip rfl 13 142 false rfl rfl (.inl rfl) rfl (sq rfl rfl rfl (q_pick_t rfl rfl rfl rfl) (sm rfl rfl rfl rfl rfl (SOps.skip rfl 18 147 false rfl rfl (.inl rfl) rfl ?_)))))))))
     refine SOps.skip rfl 18 147 false rfl rfl (.inl rfl) rfl (SOps.skip rfl 18 147 false rfl rfl (.inl rfl) rfl (sq rfl rfl rfl (q_pick_t rfl rfl rfl rfl) (sm rfl rfl rfl rfl rfl (SOps.skip rfl 23 152 false rfl rfl (.inl rfl) rfl (SOps.skip rfl 23 152 false rfl rfl (.inl rfl) rfl (SOps.skip rfl 23 152 false rfl rfl (.inl rfl) rfl (SOps.skip rfl 23 152 false rfl rfl (.inl rfl) rfl (SOps.skip rfl 23 152 false rfl rfl (.inl rfl) rfl (sq rfl rfl rfl (q_pick_t rfl rfl rfl rfl) ?_)))))))))
     refine sm rfl rfl rfl rfl rfl (SOps.skip rfl 30 159 false rfl rfl (.inl rfl) rfl (SOps.skip rfl 30 159 false rfl rfl (.inl rfl) rfl (SOps.skip rfl 30 159 false rfl rfl (.inl rfl) rfl (sq rfl rfl rfl (q_pick_t rfl rfl rfl rfl) (SOps.sub (st' := ⟨[(4, ci (((a0_p.Parents).length : Int))), (114, .c (vSDemand a0_p.Demands)), (115, ci (((a0_p.Demands).length : Int))), (116, ci t116_23), (163, .c (.bool true))], []⟩) (sub_gen [] rfl rfl (zall rfl rfl) trivial) (SOps.nil (SCode.cond_t rfl rfl (SCode.seq ?_))))))))
     refine SCode.region (show SOps _ _ _ [0] _ _ from ?_)
     refine sa rfl rfl rfl rfl rfl (SOps.nil (SCode.ret ?_))
     obtain rfl := Option.some.inj h
     exact ⟨⟨[(2, ci 2)], []⟩, _, sub_gen [] rfl rfl (zall rfl rfl) trivial, resA1 (v := .c (.int .i64 2)) rfl rfl, rfl⟩
    rcases cond_out h with ⟨g42, h⟩ | ⟨g42, h⟩
    ·refine SCode.region (show SOps _ _ _ [0, 1, 2, 3, 4, 5, 6, 7, 8, 9, 10, 11, 12, 13, 14, 15, 16, 17, 18, 19, 20, 21, 22, 23, 24, 25, 26, 27, 28, 29, 30, 31, 32, 33, 34] _ _ from ?_)
     refine sq rfl rfl rfl (q_field_ptr rfl rfl fd39_1) (sq rfl rfl rfl (q_load_ptr rfl rfl rfl rfl ty3) (sq rfl rfl rfl (q_lss rfl rfl rfl) (sm rfl rfl rfl rfl rfl (SOps.q rfl (.guard 3 132 false rfl rfl (gF g40)) rfl (q_field_ptr rfl rfl fd39_1) (SOps.q rfl (.guard 3 132 false rfl rfl (gF g40)) rfl (q_load_ptr rfl rfl rfl rfl ty3) (SOps.q rfl (.guard 3 132 false rfl rfl (gF g40)) rfl (q_gtr rfl rfl rfl) (sq rfl rfl rfl (q_pick_f rfl rfl g40 rfl) (sm rfl rfl rfl rfl rfl (SOps.q rfl (.guard 8 137 false rfl rfl (gF g41)) rfl (q_field_ptr rfl rfl fd39_2) ?_)))))))))
     refine SOps.q rfl (.guard 8 137 false rfl rfl (gF g41)) rfl (q_load_ptr rfl rfl rfl rfl ty3) (SOps.q rfl (.guard 8 137 false rfl rfl (gF g41)) rfl (q_lss rfl rfl rfl) (sq rfl rfl rfl (q_pick_f rfl rfl g41 rfl) (sm rfl rfl rfl rfl rfl (SOps.skip rfl 13 142 false rfl rfl (.inl (gT g42)) rfl (SOps.skip rfl 13 142 false rfl rfl (.inl (gT g42)) rfl (SOps.skip rfl 13 142 false rfl rfl (.inl (gT g42)) rfl (sq rfl rfl rfl (q_pick_t rfl rfl g42 rfl) (sm rfl rfl rfl rfl rfl (SOps.skip rfl 18 147 false rfl rfl (.inl rfl) rfl ?_)))))))))
     refine SOps.skip rfl 18 147 false rfl rfl (.inl rfl) rfl (SOps.skip rfl 18 147 false rfl rfl (.inl rfl) rfl (sq rfl rfl rfl (q_pick_t rfl rfl rfl rfl) (sm rfl rfl rfl rfl rfl (SOps.skip rfl 23 152 false rfl rfl (.inl rfl) rfl (SOps.skip rfl 23 152 false rfl rfl (.inl rfl) rfl (SOps.skip rfl 23 152 false rfl rfl (.inl rfl) rfl (SOps.skip rfl 23 152 false rfl rfl (.inl rfl) rfl (SOps.skip rfl 23 152 false rfl rfl (.inl rfl) rfl (sq rfl rfl rfl (q_pick_t rfl rfl rfl rfl) ?_)))))))))
     refine sm rfl rfl rfl rfl rfl (SOps.skip rfl 30 159 false rfl rfl (.inl rfl) rfl (SOps.skip rfl 30 159 false rfl rfl (.inl rfl) rfl (SOps.skip rfl 30 159 false rfl rfl (.inl rfl) rfl (sq rfl rfl rfl (q_pick_t rfl rfl rfl rfl) (SOps.sub (st' := ⟨[(4, ci (((a0_p.Parents).length : Int))), (114, .c (vSDemand a0_p.Demands)), (115, ci (((a0_p.Demands).length : Int))), (116, ci t116_23), (163, .c (.bool true))], []⟩) (sub_gen [] rfl rfl (zall rfl rfl) trivial) (SOps.nil (SCode.cond_t rfl rfl (SCode.seq ?_))))))))
     refine SCode.region (show SOps _ _ _ [0] _ _ from ?_)
     refine sa rfl rfl rfl rfl rfl (SOps.nil (SCode.ret ?_))
     obtain rfl := Option.some.inj h
     exact ⟨⟨[(2, ci 2)], []⟩, _, sub_gen [] rfl rfl (zall rfl rfl) trivial, resA1 (v := .c (.int .i64 2)) rfl rfl, rfl⟩
    rcases cond_out h with ⟨g43, h⟩ | ⟨g43, h⟩
    ·refine SCode.region (show SOps _ _ _ [0, 1, 2, 3, 4, 5, 6, 7, 8, 9, 10, 11, 12, 13, 14, 15, 16, 17, 18, 19, 20, 21, 22, 23, 24, 25, 26, 27, 28, 29, 30, 31, 32, 33, 34] _ _ from ?_)
     refine sq rfl rfl rfl (q_field_ptr rfl rfl fd39_1) (sq rfl rfl rfl (q_load_ptr rfl rfl rfl rfl ty3) (sq rfl rfl rfl (q_lss rfl rfl rfl) (sm rfl rfl rfl rfl rfl (SOps.q rfl (.guard 3 132 false rfl rfl (gF g40)) rfl (q_field_ptr rfl rfl fd39_1) (SOps.q rfl (.guard 3 132 false rfl rfl (gF g40)) rfl (q_load_ptr rfl rfl rfl rfl ty3) (SOps.q rfl (.guard 3 132 false rfl rfl (gF g40)) rfl (q_gtr rfl rfl rfl) (sq rfl rfl rfl (q_pick_f rfl rfl g40 rfl) (sm rfl rfl rfl rfl rfl (SOps.q rfl (.guard 8 137 false rfl rfl (gF g41)) rfl (q_field_ptr rfl rfl fd39_2) ?_)))))))))
     refine SOps.q rfl (.guard 8 137 false rfl rfl (gF g41)) rfl (q_load_ptr rfl rfl rfl rfl ty3) (SOps.q rfl (.guard 8 137 false rfl rfl (gF g41)) rfl (q_lss rfl rfl rfl) (sq rfl rfl rfl (q_pick_f rfl rfl g41 rfl) (sm rfl rfl rfl rfl rfl (SOps.q rfl (.guard 13 142 false rfl rfl (gF g42)) rfl (q_field_ptr rfl rfl fd39_2) (SOps.q rfl (.guard 13 142 false rfl rfl (gF g42)) rfl (q_load_ptr rfl rfl rfl rfl ty3) (SOps.q rfl (.guard 13 142 false rfl rfl (gF g42)) rfl (q_gtr rfl rfl rfl) (sq rfl rfl rfl (q_pick_f rfl rfl g42 rfl) (sm rfl rfl rfl rfl rfl (SOps.skip rfl 18 147 false rfl rfl (.inl (gT g43)) rfl ?_)))))))))
     refine SOps.skip rfl 18 147 false rfl rfl (.inl (gT g43)) rfl (SOps.skip rfl 18 147 false rfl rfl (.inl (gT g43)) rfl (sq rfl rfl rfl (q_pick_t rfl rfl g43 rfl) (sm rfl rfl rfl rfl rfl (SOps.skip rfl 23 152 false rfl rfl (.inl rfl) rfl (SOps.skip rfl 23 152 false rfl rfl (.inl rfl) rfl (SOps.skip rfl 23 152 false rfl rfl (.inl rfl) rfl (SOps.skip rfl 23 152 false rfl rfl (.inl rfl) rfl (SOps.skip rfl 23 152 false rfl rfl (.inl rfl) rfl (sq rfl rfl rfl (q_pick_t rfl rfl rfl rfl) ?_)))))))))
     refine sm rfl rfl rfl rfl rfl (SOps.skip rfl 30 159 false rfl rfl (.inl rfl) rfl (SOps.skip rfl 30 159 false rfl rfl (.inl rfl) rfl (SOps.skip rfl 30 159 false rfl rfl (.inl rfl) rfl (sq rfl rfl rfl (q_pick_t rfl rfl rfl rfl) (SOps.sub (st' := ⟨[(4, ci (((a0_p.Parents).length : Int))), (114, .c (vSDemand a0_p.Demands)), (115, ci (((a0_p.Demands).length : Int))), (116, ci t116_23), (163, .c (.bool true))], []⟩) (sub_gen [] rfl rfl (zall rfl rfl) trivial) (SOps.nil (SCode.cond_t rfl rfl (SCode.seq ?_))))))))
     refine SCode.region (show SOps _ _ _ [0] _ _ from ?_)
     refine sa rfl rfl rfl rfl rfl (SOps.nil (SCode.ret ?_))
     obtain rfl := Option.some.inj h
     exact ⟨⟨[(2, ci 2)], []⟩, _, sub_gen [] rfl rfl (zall rfl rfl) trivial, resA1 (v := .c (.int .i64 2)) rfl rfl, rfl⟩
    rcases cond_out h with ⟨g44, h⟩ | ⟨g44, h⟩
    ·refine SCode.region (show SOps _ _ _ [0, 1, 2, 3, 4, 5, 6, 7, 8, 9, 10, 11, 12, 13, 14, 15, 16, 17, 18, 19, 20, 21, 22, 23, 24, 25, 26, 27, 28, 29, 30, 31, 32, 33, 34] _ _ from ?_)
     refine sq rfl rfl rfl (q_field_ptr rfl rfl fd39_1) (sq rfl rfl rfl (q_load_ptr rfl rfl rfl rfl ty3) (sq rfl rfl rfl (q_lss rfl rfl rfl) (sm rfl rfl rfl rfl rfl (SOps.q rfl (.guard 3 132 false rfl rfl (gF g40)) rfl (q_field_ptr rfl rfl fd39_1) (SOps.q rfl (.guard 3 132 false rfl rfl (gF g40)) rfl (q_load_ptr rfl rfl rfl rfl ty3) (SOps.q rfl (.guard 3 132 false rfl rfl (gF g40)) rfl (q_gtr rfl rfl rfl) (sq rfl rfl rfl (q_pick_f rfl rfl g40 rfl) (sm rfl rfl rfl rfl rfl (SOps.q rfl (.guard 8 137 false rfl rfl (gF g41)) rfl (q_field_ptr rfl rfl fd39_2) ?_)))))))))
     refine SOps.q rfl (.guard 8 137 false rfl rfl (gF g41)) rfl (q_load_ptr rfl rfl rfl rfl ty3) (SOps.q rfl (.guard 8 137 false rfl rfl (gF g41)) rfl (q_lss rfl rfl rfl) (sq rfl rfl rfl (q_pick_f rfl rfl g41 rfl) (sm rfl rfl rfl rfl rfl (SOps.q rfl (.guard 13 142 false rfl rfl (gF g42)) rfl (q_field_ptr rfl rfl fd39_2) (SOps.q rfl (.guard 13 142 false rfl rfl (gF g42)) rfl (q_load_ptr rfl rfl rfl rfl ty3) (SOps.q rfl (.guard 13 142 false rfl rfl (gF g42)) rfl (q_gtr rfl rfl rfl) (sq rfl rfl rfl (q_pick_f rfl rfl g42 rfl) (sm rfl rfl rfl rfl rfl (SOps.q rfl (.guard 18 147 false rfl rfl (gF g43)) rfl (q_field_ptr rfl rfl fd39_3) ?_)))))))))
     refine SOps.q rfl (.guard 18 147 false rfl rfl (gF g43)) rfl (q_load_ptr rfl rfl rfl rfl ty3) (SOps.q rfl (.guard 18 147 false rfl rfl (gF g43)) rfl (q_lss rfl rfl rfl) (sq rfl rfl rfl (q_pick_f rfl rfl g43 rfl) (sm rfl rfl rfl rfl rfl (SOps.skip rfl 23 152 false rfl rfl (.inl (gT g44)) rfl (SOps.skip rfl 23 152 false rfl rfl (.inl (gT g44)) rfl (SOps.skip rfl 23 152 false rfl rfl (.inl (gT g44)) rfl (SOps.skip rfl 23 152 false rfl rfl (.inl (gT g44)) rfl (SOps.skip rfl 23 152 false rfl rfl (.inl (gT g44)) rfl (sq rfl rfl rfl (q_pick_t rfl rfl g44 rfl) ?_)))))))))
     refine sm rfl rfl rfl rfl rfl (SOps.skip rfl 30 159 false rfl rfl (.inl rfl) rfl (SOps.skip rfl 30 159 false rfl rfl (.inl rfl) rfl (SOps.skip rfl 30 159 false rfl rfl (.inl rfl) rfl (sq rfl rfl rfl (q_pick_t rfl rfl rfl rfl) (SOps.sub (st' := ⟨[(4, ci (((a0_p.Parents).length : Int))), (114, .c (vSDemand a0_p.Demands)), (115, ci (((a0_p.Demands).length : Int))), (116, ci t116_23), (163, .c (.bool true))], []⟩) (sub_gen [] rfl rfl (zall rfl rfl) trivial) (SOps.nil (SCode.cond_t rfl rfl (SCode.seq ?_))))))))
     refine SCode.region (show SOps _ _ _ [0] _ _ from ?_)
     refine sa rfl rfl rfl rfl rfl (SOps.nil (SCode.ret ?_))
     obtain rfl := Option.some.inj h
     exact ⟨⟨[(2, ci 2)], []⟩, _, sub_gen [] rfl rfl (zall rfl rfl) trivial, resA1 (v := .c (.int .i64 2)) rfl rfl, rfl⟩
    rcases cond_out h with ⟨g45, h⟩ | ⟨g45, h⟩
    ·refine SCode.region (show SOps _ _ _ [0, 1, 2, 3, 4, 5, 6, 7, 8, 9, 10, 11, 12, 13, 14, 15, 16, 17, 18, 19, 20, 21, 22, 23, 24, 25, 26, 27, 28, 29, 30, 31, 32, 33, 34] _ _ from ?_)
     refine sq rfl rfl rfl (q_field_ptr rfl rfl fd39_1) (sq rfl rfl rfl (q_load_ptr rfl rfl rfl rfl ty3) (sq rfl rfl rfl (q_lss rfl rfl rfl) (sm rfl rfl rfl rfl rfl (SOps.q rfl (.guard 3 132 false rfl rfl (gF g40)) rfl (q_field_ptr rfl rfl fd39_1) (SOps.q rfl (.guard 3 132 false rfl rfl (gF g40)) rfl (q_load_ptr rfl rfl rfl rfl ty3) (SOps.q rfl (.guard 3 132 false rfl rfl (gF g40)) rfl (q_gtr rfl rfl rfl) (sq rfl rfl rfl (q_pick_f rfl rfl g40 rfl) (sm rfl rfl rfl rfl rfl (SOps.q rfl (.guard 8 137 false rfl rfl (gF g41)) rfl (q_field_ptr rfl rfl fd39_2) ?_)))))))))
     refine SOps.q rfl (.guard 8 137 false rfl rfl (gF g41)) rfl (q_load_ptr rfl rfl rfl rfl ty3) (SOps.q rfl (.guard 8 137 false rfl rfl (gF g41)) rfl (q_lss rfl rfl rfl) (sq rfl rfl rfl (q_pick_f rfl rfl g41 rfl) (sm rfl rfl rfl rfl rfl (SOps.q rfl (.guard 13 142 false rfl rfl (gF g42)) rfl (q_field_ptr rfl rfl fd39_2) (SOps.q rfl (.guard 13 142 false rfl rfl (gF g42)) rfl (q_load_ptr rfl rfl rfl rfl ty3) (SOps.q rfl (.guard 13 142 false rfl rfl (gF g42)) rfl (q_gtr rfl rfl rfl) (sq rfl rfl rfl (q_pick_f rfl rfl g42 rfl) (sm rfl rfl rfl rfl rfl (SOps.q rfl (.guard 18 147 false rfl rfl (gF g43)) rfl (q_field_ptr rfl rfl fd39_3) ?_)))))))))
     refine SOps.q rfl (.guard 18 147 false rfl rfl (gF g43)) rfl (q_load_ptr rfl rfl rfl rfl ty3) (SOps.q rfl (.guard 18 147 false rfl rfl (gF g43)) rfl (q_lss rfl rfl rfl) (sq rfl rfl rfl (q_pick_f rfl rfl g43 rfl) (sm rfl rfl rfl rfl rfl (SOps.q rfl (.guard 23 152 false rfl rfl (gF g44)) rfl (q_field_ptr rfl rfl fd39_4) (SOps.q rfl (.guard 23 152 false rfl rfl (gF g44)) rfl (q_load_ptr rfl rfl rfl rfl ty3) (SOps.q rfl (.guard 23 152 false rfl rfl (gF g44)) rfl (q_field_ptr rfl rfl fd39_3) (SOps.q rfl (.guard 23 152 false rfl rfl (gF g44)) rfl (q_load_ptr rfl rfl rfl rfl ty3) (SOps.q rfl (.guard 23 152 false rfl rfl (gF g44)) rfl (q_lss rfl rfl rfl) (sq rfl rfl rfl (q_pick_f rfl rfl g44 rfl) ?_)))))))))
     refine sm rfl rfl rfl rfl rfl (SOps.skip rfl 30 159 false rfl rfl (.inl (gT g45)) rfl (SOps.skip rfl 30 159 false rfl rfl (.inl (gT g45)) rfl (SOps.skip rfl 30 159 false rfl rfl (.inl (gT g45)) rfl (sq rfl rfl rfl (q_pick_t rfl rfl g45 rfl) (SOps.sub (st' := ⟨[(4, ci (((a0_p.Parents).length : Int))), (114, .c (vSDemand a0_p.Demands)), (115, ci (((a0_p.Demands).length : Int))), (116, ci t116_23), (163, .c (.bool true))], []⟩) (sub_gen [] rfl rfl (zall rfl rfl) trivial) (SOps.nil (SCode.cond_t rfl rfl (SCode.seq ?_))))))))
     refine SCode.region (show SOps _ _ _ [0] _ _ from ?_)
     refine sa rfl rfl rfl rfl rfl (SOps.nil (SCode.ret ?_))
     obtain rfl := Option.some.inj h
     exact ⟨⟨[(2, ci 2)], []⟩, _, sub_gen [] rfl rfl (zall rfl rfl) trivial, resA1 (v := .c (.int .i64 2)) rfl rfl, rfl⟩
    refine SCode.region (show SOps _ _ _ [0, 1, 2, 3, 4, 5, 6, 7, 8, 9, 10, 11, 12, 13, 14, 15, 16, 17, 18, 19, 20, 21, 22, 23, 24, 25, 26, 27, 28, 29, 30, 31, 32, 33, 34] _ _ from ?_)
    refine sq rfl rfl rfl (q_field_ptr rfl rfl fd39_1) (sq rfl rfl rfl (q_load_ptr rfl rfl rfl rfl ty3) (sq rfl rfl rfl (q_lss rfl rfl rfl) (sm rfl rfl rfl rfl rfl (SOps.q rfl (.guard 3 132 false rfl rfl (gF g40)) rfl (q_field_ptr rfl rfl fd39_1) (SOps.q rfl (.guard 3 132 false rfl rfl (gF g40)) rfl (q_load_ptr rfl rfl rfl rfl ty3) (SOps.q rfl (.guard 3 132 false rfl rfl (gF g40)) rfl (q_gtr rfl rfl rfl) (sq rfl rfl rfl (q_pick_f rfl rfl g40 rfl) (sm rfl rfl rfl rfl rfl (SOps.q rfl (.guard 8 137 false rfl rfl (gF g41)) rfl (q_field_ptr rfl rfl fd39_2) ?_)))))))))
    refine SOps.q rfl (.guard 8 137 false rfl rfl (gF g41)) rfl (q_load_ptr rfl rfl rfl rfl ty3) (SOps.q rfl (.guard 8 137 false rfl rfl (gF g41)) rfl (q_lss rfl rfl rfl) (sq rfl rfl rfl (q_pick_f rfl rfl g41 rfl) (sm rfl rfl rfl rfl rfl (SOps.q rfl (.guard 13 142 false rfl rfl (gF g42)) rfl (q_field_ptr rfl rfl fd39_2) (SOps.q rfl (.guard 13 142 false rfl rfl (gF g42)) rfl (q_load_ptr rfl rfl rfl rfl ty3) (SOps.q rfl (.guard 13 142 false rfl rfl (gF g42)) rfl (q_gtr rfl rfl rfl) (sq rfl rfl rfl (q_pick_f rfl rfl g42 rfl) (sm rfl rfl rfl rfl rfl (SOps.q rfl (.guard 18 147 false rfl rfl (gF g43)) rfl (q_field_ptr rfl rfl fd39_3) ?_)))))))))
    refine SOps.q rfl (.guard 18 147 false rfl rfl (gF g43)) rfl (q_load_ptr rfl rfl rfl rfl ty3) (SOps.q rfl (.guard 18 147 false rfl rfl (gF g43)) rfl (q_lss rfl rfl rfl) (sq rfl rfl rfl (q_pick_f rfl rfl g43 rfl) (sm rfl rfl rfl rfl rfl (SOps.q rfl (.guard 23 152 false rfl rfl (gF g44)) rfl (q_field_ptr rfl rfl fd39_4) (SOps.q rfl (.guard 23 152 false rfl rfl (gF g44)) rfl (q_load_ptr rfl rfl rfl rfl ty3) (SOps.q rfl (.guard 23 152 false rfl rfl (gF g44)) rfl (q_field_ptr rfl rfl fd39_3) (SOps.q rfl (.guard 23 152 false rfl rfl (gF g44)) rfl (q_load_ptr rfl rfl rfl rfl ty3) (SOps.q rfl (.guard 23 152 false rfl rfl (gF g44)) rfl (q_lss rfl rfl rfl) (sq rfl rfl rfl (q_pick_f rfl rfl g44 rfl) ?_)))))))))
    refine sm rfl rfl rfl rfl rfl (SOps.q rfl (.guard 30 159 false rfl rfl (gF g45)) rfl (q_field_ptr rfl rfl fd39_4) (SOps.q rfl (.guard 30 159 false rfl rfl (gF g45)) rfl (q_load_ptr rfl rfl rfl rfl ty3) (SOps.q rfl (.guard 30 159 false rfl rfl (gF g45)) rfl (q_gtr rfl rfl rfl) (sq rfl rfl rfl (q_pick_f rfl rfl g45 rfl) (SOps.sub (st' := ⟨[(4, ci (((a0_p.Parents).length : Int))), (114, .c (vSDemand a0_p.Demands)), (115, ci (((a0_p.Demands).length : Int))), (116, ci t116_23), (163, .c (.bool (decide (268435456 < (a0_p.Demands.getD t116_23.toNat dSDemand).Depart))))], []⟩) (sub_gen [] rfl rfl (zall rfl rfl) trivial) (SOps.nil ?_))))))
    rcases cond_out h with ⟨g46, h⟩ | ⟨g46, h⟩
    ·refine SCode.cond_t rfl g46 (SCode.seq ?_)
     refine SCode.region (show SOps _ _ _ [0] _ _ from ?_)
     refine sa rfl rfl rfl rfl rfl (SOps.nil (SCode.ret ?_))
     obtain rfl := Option.some.inj h
     exact ⟨⟨[(2, ci 2)], []⟩, _, sub_gen [] rfl rfl (zall rfl rfl) trivial, resA1 (v := .c (.int .i64 2)) rfl rfl, rfl⟩
    refine SCode.cond_f rfl g46 (SCode.skip ?_)
    refine SCode.region (show SOps _ _ _ [0, 1] _ _ from ?_)
    refine sq rfl rfl rfl (q_add rfl rfl rfl) (sm rfl rfl rfl rfl rfl (SOps.nil ?_))
    exact ⟨(n_35, IntKind.wrap .i64 (t116_23 + 1)), h, Nat.lt_succ_self n_35, sub_gen [] rfl rfl (zall rfl rfl) trivial⟩
   refine SCode.cond_f rfl g36 (SCode.exit ?_)
   exact ⟨(), h, sub_gen [] rfl rfl trivial trivial⟩
 rintro ⟨⟩ h
 show SCode _ _ _ ⟨[], []⟩ _
 replace h : chargenetref18_Valid_p11 = some r := h
 unfold chargenetref18_Valid_p11 at h
 refine SCode.seq ?_
 refine SCode.region (show SOps _ _ _ [0] _ _ from ?_)
 refine sa rfl rfl rfl rfl rfl (SOps.nil (SCode.ret ?_))
 obtain rfl := Option.some.inj h
 exact ⟨⟨[(2, ci 0)], []⟩, _, sub_gen [] rfl rfl (zall rfl rfl) trivial, resA1 (v := .c (.int .i64 0)) rfl rfl, rfl⟩
set_option maxRecDepth 100000 in
set_option maxHeartbeats 8000000 in
theorem chargenetlaw18_Small_ok (F : Nat) (a0_p : SProblem) (r : Bool) (h : chargenetlaw18_Small F a0_p = some r) :
  SFun Try.prog 13 [] [.a (bSProblem a0_p)] (fun x _ => x = .c (.bool r)) := by
 refine SFun.of (n := 24) Try.func13 rfl rfl rfl ?_
 unfold chargenetlaw18_Small at h
 show SCode _ _ _ ⟨[(0, .a (bSProblem a0_p))], []⟩ _
 refine SCode.seq ?_
 refine SCode.region (show SOps _ _ _ [0, 1] _ _ from ?_)
 refine se rfl rfl (e_box rfl rfl rfl rfl rfl rfl) (sa rfl rfl rfl rfl rfl (SOps.nil (SCode.seq ?_)))
 rcases cond_out h with ⟨g1, h⟩ | ⟨g1, h⟩
 ·rcases cond_out h with ⟨g2, h⟩ | ⟨g2, h⟩
  ·rcases cond_out h with ⟨g3, h⟩ | ⟨g3, h⟩
   ·obtain ⟨c_4, g5, h⟩ := bind_out h
    try dsimp only at h
    refine SCode.region (show SOps _ _ _ [0, 1, 2, 3, 4, 5, 6, 7, 8, 9, 10, 11, 12, 13, 14, 15, 16, 17, 18, 19, 20, 21] _ _ from ?_)
    refine sq rfl rfl rfl (q_field_ptr rfl rfl fd26_4) (sq rfl rfl rfl (q_load_ptr rfl rfl rfl rfl ty24) (sq rfl rfl rfl (q_len_vec rfl rfl sl24) (sq rfl rfl rfl (q_leq rfl rfl rfl) (sm rfl rfl rfl rfl rfl (SOps.q rfl (.guard 4 7 true rfl rfl (gT g1)) rfl (q_field_ptr rfl rfl fd26_1) (SOps.q rfl (.guard 4 7 true rfl rfl (gT g1)) rfl (q_load_ptr rfl rfl rfl rfl ty23) (SOps.q rfl (.guard 4 7 true rfl rfl (gT g1)) rfl (q_len_vec rfl rfl sl23) (SOps.q rfl (.guard 4 7 true rfl rfl (gT g1)) rfl (q_leq rfl rfl rfl) (sq rfl rfl rfl (q_pick_t rfl rfl g1 rfl) ?_)))))))))
    refine sm rfl rfl rfl rfl rfl (SOps.q rfl (.guard 10 13 true rfl rfl (gT g2)) rfl (q_field_ptr rfl rfl fd26_0) (SOps.q rfl (.guard 10 13 true rfl rfl (gT g2)) rfl (q_load_ptr rfl rfl rfl rfl ty22) (SOps.q rfl (.guard 10 13 true rfl rfl (gT g2)) rfl (q_len_vec rfl rfl sl22) (SOps.q rfl (.guard 10 13 true rfl rfl (gT g2)) rfl (q_leq rfl rfl rfl) (sq rfl rfl rfl (q_pick_t rfl rfl g2 rfl) (sm rfl rfl rfl rfl rfl (SOps.q rfl (.guard 16 19 true rfl rfl (gT g3)) rfl (q_load_ptr_all rfl rfl rfl rfl rfl ty26) (SOps.q rfl (.guard 16 19 true rfl rfl (gT g3)) rfl (q_call (chargenetref18_Valid_ok F a0_p c_4 g5) [] rfl fn12 ⟨⟨rfl, rfl⟩, trivial⟩ (.inl rfl)) (SOps.q rfl (.guard 16 19 true rfl rfl (gT g3)) rfl (q_eql rfl rfl rfl) ?_)))))))))
    refine sq rfl rfl rfl (q_pick_t rfl rfl g3 rfl) (sa rfl rfl rfl rfl rfl (SOps.sub (st' := ⟨[(2, .c (.bool (decide (c_4 = 0))))], []⟩) (sub_gen [] rfl rfl (zall rfl rfl) trivial) (SOps.nil (SCode.ret ?_))))
    obtain rfl := Option.some.inj h
    exact ⟨⟨[(2, .c (.bool (decide (c_4 = 0))))], []⟩, _, sub_gen [] rfl rfl (zall rfl rfl) trivial, resA1 (v := .c (.bool (decide (c_4 = 0)))) rfl rfl, rfl⟩
   refine SCode.region (show SOps _ _ _ [0, 1, 2, 3, 4, 5, 6, 7, 8, 9, 10, 11, 12, 13, 14, 15, 16, 17, 18, 19, 20, 21] _ _ from ?_)
   refine sq rfl rfl rfl (q_field_ptr rfl rfl fd26_4) (sq rfl rfl rfl (q_load_ptr rfl rfl rfl rfl ty24) (sq rfl rfl rfl (q_len_vec rfl rfl sl24) (sq rfl rfl rfl (q_leq rfl rfl rfl) (sm rfl rfl rfl rfl rfl (SOps.q rfl (.guard 4 7 true rfl rfl (gT g1)) rfl (q_field_ptr rfl rfl fd26_1) (SOps.q rfl (.guard 4 7 true rfl rfl (gT g1)) rfl (q_load_ptr rfl rfl rfl rfl ty23) (SOps.q rfl (.guard 4 7 true rfl rfl (gT g1)) rfl (q_len_vec rfl rfl sl23) (SOps.q rfl (.guard 4 7 true rfl rfl (gT g1)) rfl (q_leq rfl rfl rfl) (sq rfl rfl rfl (q_pick_t rfl rfl g1 rfl) ?_)))))))))
   refine sm rfl rfl rfl rfl rfl (SOps.q rfl (.guard 10 13 true rfl rfl (gT g2)) rfl (q_field_ptr rfl rfl fd26_0) (SOps.q rfl (.guard 10 13 true rfl rfl (gT g2)) rfl (q_load_ptr rfl rfl rfl rfl ty22) (SOps.q rfl (.guard 10 13 true rfl rfl (gT g2)) rfl (q_len_vec rfl rfl sl22) (SOps.q rfl (.guard 10 13 true rfl rfl (gT g2)) rfl (q_leq rfl rfl rfl) (sq rfl rfl rfl (q_pick_t rfl rfl g2 rfl) (sm rfl rfl rfl rfl rfl (SOps.skip rfl 16 19 true rfl rfl (.inl (gF g3)) rfl (SOps.skip rfl 16 19 true rfl rfl (.inl (gF g3)) rfl (SOps.skip rfl 16 19 true rfl rfl (.inl (gF g3)) rfl ?_)))))))))
   refine sq rfl rfl rfl (q_pick_f rfl rfl g3 rfl) (sa rfl rfl rfl rfl rfl (SOps.sub (st' := ⟨[(2, .c (.bool false))], []⟩) (sub_gen [] rfl rfl (zall rfl rfl) trivial) (SOps.nil (SCode.ret ?_))))
   obtain rfl := Option.some.inj h
   exact ⟨⟨[(2, .c (.bool false))], []⟩, _, sub_gen [] rfl rfl (zall rfl rfl) trivial, resA1 (v := .c (.bool false)) rfl rfl, rfl⟩
  refine SCode.region (show SOps _ _ _ [0, 1, 2, 3, 4, 5, 6, 7, 8, 9, 10, 11, 12, 13, 14, 15, 16, 17, 18, 19, 20, 21] _ _ from ?_)
  refine sq rfl rfl rfl (q_field_ptr rfl rfl fd26_4) (sq rfl rfl rfl (q_load_ptr rfl rfl rfl rfl ty24) (sq rfl rfl rfl (q_len_vec rfl rfl sl24) (sq rfl rfl rfl (q_leq rfl rfl rfl) (sm rfl rfl rfl rfl rfl (SOps.q rfl (.guard 4 7 true rfl rfl (gT g1)) rfl (q_field_ptr rfl rfl fd26_1) (SOps.q rfl (.guard 4 7 true rfl rfl (gT g1)) rfl (q_load_ptr rfl rfl rfl rfl ty23) (SOps.q rfl (.guard 4 7 true rfl rfl (gT g1)) rfl (q_len_vec rfl rfl sl23) (SOps.q rfl (.guard 4 7 true rfl rfl (gT g1)) rfl (q_leq rfl rfl rfl) (sq rfl rfl rfl (q_pick_t rfl rfl g1 rfl) ?_)))))))))
  refine sm rfl rfl rfl rfl rfl (SOps.skip rfl 10 13 true rfl rfl (.inl (gF g2)) rfl (SOps.skip rfl 10 13 true rfl rfl (.inl (gF g2)) rfl (SOps.skip rfl 10 13 true rfl rfl (.inl (gF g2)) rfl (SOps.skip rfl 10 13 true rfl rfl (.inl (gF g2)) rfl (sq rfl rfl rfl (q_pick_f rfl rfl g2 rfl) (sm rfl rfl rfl rfl rfl (SOps.skip rfl 16 19 true rfl rfl (.inl rfl) rfl (SOps.skip rfl 16 19 true rfl rfl (.inl rfl) rfl (SOps.skip rfl 16 19 true rfl rfl (.inl rfl) rfl ?_)))))))))
  refine sq rfl rfl rfl (q_pick_f rfl rfl rfl rfl) (sa rfl rfl rfl rfl rfl (SOps.sub (st' := ⟨[(2, .c (.bool false))], []⟩) (sub_gen [] rfl rfl (zall rfl rfl) trivial) (SOps.nil (SCode.ret ?_))))
  obtain rfl := Option.some.inj h
  exact ⟨⟨[(2, .c (.bool false))], []⟩, _, sub_gen [] rfl rfl (zall rfl rfl) trivial, resA1 (v := .c (.bool false)) rfl rfl, rfl⟩
 refine SCode.region (show SOps _ _ _ [0, 1, 2, 3, 4, 5, 6, 7, 8, 9, 10, 11, 12, 13, 14, 15, 16, 17, 18, 19, 20, 21] _ _ from ?_)
 refine sq rfl rfl rfl (q_field_ptr rfl rfl fd26_4) (sq rfl rfl rfl (q_load_ptr rfl rfl rfl rfl ty24) (sq rfl rfl rfl (q_len_vec rfl rfl sl24) (sq rfl rfl rfl (q_leq rfl rfl rfl) (sm rfl rfl rfl rfl rfl (SOps.skip rfl 4 7 true rfl rfl (.inl (gF g1)) rfl (SOps.skip rfl 4 7 true rfl rfl (.inl (gF g1)) rfl (SOps.skip rfl 4 7 true rfl rfl (.inl (gF g1)) rfl (SOps.skip rfl 4 7 true rfl rfl (.inl (gF g1)) rfl (sq rfl rfl rfl (q_pick_f rfl rfl g1 rfl) ?_)))))))))
 refine sm rfl rfl rfl rfl rfl (SOps.skip rfl 10 13 true rfl rfl (.inl rfl) rfl (SOps.skip rfl 10 13 true rfl rfl (.inl rfl) rfl (SOps.skip rfl 10 13 true rfl rfl (.inl rfl) rfl (SOps.skip rfl 10 13 true rfl rfl (.inl rfl) rfl (sq rfl rfl rfl (q_pick_f rfl rfl rfl rfl) (sm rfl rfl rfl rfl rfl (SOps.skip rfl 16 19 true rfl rfl (.inl rfl) rfl (SOps.skip rfl 16 19 true rfl rfl (.inl rfl) rfl (SOps.skip rfl 16 19 true rfl rfl (.inl rfl) rfl ?_)))))))))
 refine sq rfl rfl rfl (q_pick_f rfl rfl rfl rfl) (sa rfl rfl rfl rfl rfl (SOps.sub (st' := ⟨[(2, .c (.bool false))], []⟩) (sub_gen [] rfl rfl (zall rfl rfl) trivial) (SOps.nil (SCode.ret ?_))))
 obtain rfl := Option.some.inj h
 exact ⟨⟨[(2, .c (.bool false))], []⟩, _, sub_gen [] rfl rfl (zall rfl rfl) trivial, resA1 (v := .c (.bool false)) rfl rfl, rfl⟩
set_option maxRecDepth 100000 in
set_option maxHeartbeats 8000000 in
theorem chargenetlaw18_PlanTight_ok (F : Nat) (a0_p : SProblem) (r : Bool) (h : chargenetlaw18_PlanTight F a0_p = some r) :
  SFun Try.prog 6 [] [.a (bSProblem a0_p)] (fun x _ => x = .c (.bool r)) := by
 refine SFun.of (n := 89) Try.func6 rfl rfl rfl ?_
 unfold chargenetlaw18_PlanTight at h
 show SCode _ _ _ ⟨[(0, .a (bSProblem a0_p))], []⟩ _
 refine SCode.seq ?_
 refine SCode.region (show SOps _ _ _ [0, 1] _ _ from ?_)
 refine se rfl rfl (e_box rfl rfl rfl rfl rfl rfl) (sa rfl rfl rfl rfl rfl (SOps.nil (SCode.seq (SCode.seq ?_))))
 obtain ⟨c_1, g2, h⟩ := bind_out h
 try dsimp only at h
 refine SCode.region (show SOps _ _ _ [0, 1, 2] _ _ from ?_)
 refine sq rfl rfl rfl (q_load_ptr_all rfl rfl rfl rfl rfl ty26) (sq rfl rfl rfl (q_call (chargenetlaw18_Small_ok F a0_p c_1 g2) [] rfl fn13 ⟨⟨rfl, rfl⟩, trivial⟩ (.inl rfl)) (sq rfl rfl rfl (q_not rfl rfl) (SOps.nil ?_)))
 rcases cond_out h with ⟨g3, h⟩ | ⟨g3, h⟩
 ·refine SCode.cond_t rfl g3 (SCode.seq ?_)
  obtain ⟨c_4, g5, h⟩ := bind_out h
  try dsimp only at h
  refine SCode.region (show SOps _ _ _ [0, 1] _ _ from ?_)
  refine sq rfl rfl rfl (q_call (chargenetlaw18_exampleHolds_ok F  c_4 g5) [] rfl fn10 trivial (.inl rfl)) (sa rfl rfl rfl rfl rfl (SOps.nil (SCode.ret ?_)))
  obtain rfl := Option.some.inj h
  exact ⟨⟨[(2, .c (.bool c_4))], []⟩, _, sub_gen [] rfl rfl (zall rfl rfl) trivial, resA1 (v := .c (.bool c_4)) rfl rfl, rfl⟩
 refine SCode.cond_f rfl g3 (SCode.skip (SCode.seq ?_))
 obtain ⟨c_6, g7, h⟩ := bind_out h
 try dsimp only at h
 refine SCode.region (show SOps _ _ _ [0, 1, 2, 3, 4, 5, 6] _ _ from ?_)
 refine sq rfl rfl rfl (q_load_ptr_all rfl rfl rfl rfl rfl ty26) (sq rfl rfl rfl (q_call (plan_Fair_ok F a0_p c_6 g7) [] rfl fn16 ⟨⟨rfl, rfl⟩, trivial⟩ (.inl rfl)) (sm rfl rfl rfl rfl rfl (sq rfl rfl rfl (q_extract rfl rfl rfl) (sq rfl rfl rfl (q_extract rfl rfl rfl) (sa rfl rfl rfl rfl rfl (sa rfl rfl rfl rfl rfl (SOps.nil (SCode.seq (SCode.seq ?_)))))))))
 rcases cond_out h with ⟨g8, h⟩ | ⟨g8, h⟩
 ·refine SCode.region (show SOps _ _ _ [0, 1, 2, 3, 4, 5, 6, 7, 8, 9] _ _ from ?_)
  refine sm rfl rfl rfl rfl rfl (sq rfl rfl rfl (q_neq rfl rfl rfl) (sm rfl rfl rfl rfl rfl (SOps.skip rfl 2 23 false rfl rfl (.inl (gT g8)) rfl (SOps.skip rfl 2 23 false rfl rfl (.inl (gT g8)) rfl (SOps.skip rfl 2 23 false rfl rfl (.inl (gT g8)) rfl (SOps.skip rfl 2 23 false rfl rfl (.inl (gT g8)) rfl (SOps.skip rfl 2 23 false rfl rfl (.inl (gT g8)) rfl (SOps.skip rfl 2 23 false rfl rfl (.inl (gT g8)) rfl (sq rfl rfl rfl (q_pick_t rfl rfl g8 rfl) ?_)))))))))
  refine SOps.sub (st' := ⟨[(1, .c (.ptr 0 0)), (3, .c (vI c_6.1)), (30, .c (.bool true))], [.box (bSProblem a0_p)]⟩) (sub_gen [0] rfl rfl (zall rfl rfl) ⟨bx rfl rfl rfl, trivial⟩) (SOps.nil (SCode.cond_t rfl rfl (SCode.seq ?_)))
  refine SCode.region (show SOps _ _ _ [0] _ _ from ?_)
  refine sa rfl rfl rfl rfl rfl (SOps.nil (SCode.ret ?_))
  obtain rfl := Option.some.inj h
  exact ⟨⟨[(2, .c (.bool false))], []⟩, _, sub_gen [] rfl rfl (zall rfl rfl) trivial, resA1 (v := .c (.bool false)) rfl rfl, rfl⟩
 refine SCode.region (show SOps _ _ _ [0, 1, 2, 3, 4, 5, 6, 7, 8, 9] _ _ from ?_)
 refine sm rfl rfl rfl rfl rfl (sq rfl rfl rfl (q_neq rfl rfl rfl) (sm rfl rfl rfl rfl rfl (SOps.q rfl (.guard 2 23 false rfl rfl (gF g8)) rfl (q_move rfl rfl) (SOps.q rfl (.guard 2 23 false rfl rfl (gF g8)) rfl (q_len_vec rfl rfl sl22) (SOps.q rfl (.guard 2 23 false rfl rfl (gF g8)) rfl (q_field_ptr rfl rfl fd26_4) (SOps.q rfl (.guard 2 23 false rfl rfl (gF g8)) rfl (q_load_ptr rfl rfl rfl rfl ty24) (SOps.q rfl (.guard 2 23 false rfl rfl (gF g8)) rfl (q_len_vec rfl rfl sl24) (SOps.q rfl (.guard 2 23 false rfl rfl (gF g8)) rfl (q_neq rfl rfl rfl) (sq rfl rfl rfl (q_pick_f rfl rfl g8 rfl) ?_)))))))))
 refine SOps.sub (st' := ⟨[(1, .c (.ptr 0 0)), (3, .c (vI c_6.1)), (30, .c (.bool ((!decide (((c_6.1).length : Int) = ((a0_p.Demands).length : Int))))))], [.box (bSProblem a0_p)]⟩) (sub_gen [0] rfl rfl (zall rfl rfl) ⟨bx rfl rfl rfl, trivial⟩) (SOps.nil ?_)
 rcases cond_out h with ⟨g9, h⟩ | ⟨g9, h⟩
 ·refine SCode.cond_t rfl g9 (SCode.seq ?_)
  refine SCode.region (show SOps _ _ _ [0] _ _ from ?_)
  refine sa rfl rfl rfl rfl rfl (SOps.nil (SCode.ret ?_))
  obtain rfl := Option.some.inj h
  exact ⟨⟨[(2, .c (.bool false))], []⟩, _, sub_gen [] rfl rfl (zall rfl rfl) trivial, resA1 (v := .c (.bool false)) rfl rfl, rfl⟩
 refine SCode.cond_f rfl g9 (SCode.skip (SCode.seq (SCode.seq ?_)))
 obtain ⟨c_10, g11, h⟩ := bind_out h
 try dsimp only at h
 refine SCode.region (show SOps _ _ _ [0, 1, 2, 3, 4, 5, 6, 7] _ _ from ?_)
 refine sq rfl rfl rfl (q_load_ptr_all rfl rfl rfl rfl rfl ty26) (sm rfl rfl rfl rfl rfl (sq rfl rfl rfl (q_call (plan_Feasible_ok F a0_p c_6.1 c_10 g11) [] rfl fn14 ⟨⟨rfl, rfl⟩, ⟨_, rfl, .inl ⟨rfl, rfl⟩⟩, trivial⟩ (.inl rfl)) (sm rfl rfl rfl rfl rfl (sq rfl rfl rfl (q_extract rfl rfl rfl) (sq rfl rfl rfl (q_extract rfl rfl rfl) (sa rfl rfl rfl rfl rfl (sa rfl rfl rfl rfl rfl (SOps.nil (SCode.seq ?_)))))))))
 rcases cond_out h with ⟨g12, h⟩ | ⟨g12, h⟩
 ·refine SCode.region (show SOps _ _ _ [0, 1, 2, 3, 4, 5] _ _ from ?_)
  refine sm rfl rfl rfl rfl rfl (sq rfl rfl rfl (q_not rfl rfl) (sm rfl rfl rfl rfl rfl (SOps.skip rfl 2 39 false rfl rfl (.inl (gT g12)) rfl (SOps.skip rfl 2 39 false rfl rfl (.inl (gT g12)) rfl (sq rfl rfl rfl (q_pick_t rfl rfl g12 rfl) (SOps.nil (SCode.cond_t rfl rfl (SCode.seq ?_))))))))
  refine SCode.region (show SOps _ _ _ [0] _ _ from ?_)
  refine sa rfl rfl rfl rfl rfl (SOps.nil (SCode.ret ?_))
  obtain rfl := Option.some.inj h
  exact ⟨⟨[(2, .c (.bool false))], []⟩, _, sub_gen [] rfl rfl (zall rfl rfl) trivial, resA1 (v := .c (.bool false)) rfl rfl, rfl⟩
 refine SCode.region (show SOps _ _ _ [0, 1, 2, 3, 4, 5] _ _ from ?_)
 refine sm rfl rfl rfl rfl rfl (sq rfl rfl rfl (q_not rfl rfl) (sm rfl rfl rfl rfl rfl (SOps.q rfl (.guard 2 39 false rfl rfl (gF g12)) rfl (q_move rfl rfl) (SOps.q rfl (.guard 2 39 false rfl rfl (gF g12)) rfl (q_neq rfl rfl rfl) (sq rfl rfl rfl (q_pick_f rfl rfl g12 rfl) (SOps.nil ?_))))))
 rcases cond_out h with ⟨g13, h⟩ | ⟨g13, h⟩
 ·refine SCode.cond_t rfl g13 (SCode.seq ?_)
  refine SCode.region (show SOps _ _ _ [0] _ _ from ?_)
  refine sa rfl rfl rfl rfl rfl (SOps.nil (SCode.ret ?_))
  obtain rfl := Option.some.inj h
  exact ⟨⟨[(2, .c (.bool false))], []⟩, _, sub_gen [] rfl rfl (zall rfl rfl) trivial, resA1 (v := .c (.bool false)) rfl rfl, rfl⟩
 refine SCode.cond_f rfl g13 (SCode.skip ?_)
 refine SCode.join (σ := Unit) (S := fun s => ⟨[], []⟩) (g := fun s => chargenetlaw18_PlanTight_p14 = some r) ?_ ?_
 rotate_left
 ·refine SCode.seq ?_
  refine SCode.region (show SOps _ _ _ [0, 1, 2, 3] _ _ from ?_)
  refine sq rfl rfl rfl (q_field_ptr rfl rfl fd26_4) (sq rfl rfl rfl (q_load_ptr rfl rfl rfl rfl ty24) (sq rfl rfl rfl (q_len_vec rfl rfl sl24) (sm rfl rfl rfl rfl rfl (SOps.sub (st' := ⟨[(1, .c (.ptr 0 0)), (3, .c (vI c_6.1)), (44, .c (vSDemand a0_p.Demands)), (45, ci (((a0_p.Demands).length : Int))), (46, ci 0)], [.box (bSProblem a0_p)]⟩) (sub_gen [0] rfl rfl (zall rfl rfl) ⟨bx rfl rfl rfl, trivial⟩) (SOps.nil (SCode.block (SCode.sub (st' := ⟨[(1, .c (.ptr 0 0)), (3, .c (vI c_6.1)), (44, .c (vSDemand a0_p.Demands)), (45, ci (((a0_p.Demands).length : Int))), (46, ci 0)], [.box (bSProblem a0_p)]⟩) (sub_gen [0] rfl rfl (zall rfl rfl) ⟨bx rfl rfl rfl, trivial⟩) ?_)))))))
  refine (SCode.loop (σ := Nat × Int) (S := fun s => ⟨[(1, .c (.ptr 0 0)), (3, .c (vI c_6.1)), (44, .c (vSDemand a0_p.Demands)), (45, ci (((a0_p.Demands).length : Int))), (46, ci s.2)], [.box (bSProblem a0_p)]⟩) (g := fun s => chargenetlaw18_PlanTight_l46 F a0_p c_6 s.1 s.2 = some r) (μ := fun s => s.1) (F, 0) h ?_)
  rintro ⟨n_46, t46_30⟩ h
  replace h : chargenetlaw18_PlanTight_l46 F a0_p c_6 n_46 t46_30 = some r := h
  show SCode _ _ _ ⟨[(1, .c (.ptr 0 0)), (3, .c (vI c_6.1)), (44, .c (vSDemand a0_p.Demands)), (45, ci (((a0_p.Demands).length : Int))), (46, ci t46_30)], [.box (bSProblem a0_p)]⟩ _
  cases n_46 with
  | zero => cases h
  | succ n_46 =>
   replace h : chargenetlaw18_PlanTight_b46 F a0_p c_6 (fun t46_30 => chargenetlaw18_PlanTight_l46 F a0_p c_6 n_46 t46_30) t46_30 = some r := h
   unfold chargenetlaw18_PlanTight_b46 at h
   refine SCode.seq ?_
   refine SCode.region (show SOps _ _ _ [0] _ _ from ?_)
   refine sq rfl rfl rfl (q_lss rfl rfl rfl) (SOps.nil (SCode.seq ?_))
   rcases cond_out h with ⟨g47, h⟩ | ⟨g47, h⟩
   ·refine SCode.cond_t rfl g47 (SCode.skip ?_)
    refine SCode.join (σ := Unit) (S := fun s => ⟨[(1, .c (.ptr 0 0)), (3, .c (vI c_6.1)), (44, .c (vSDemand a0_p.Demands)), (45, ci (((a0_p.Demands).length : Int))), (46, ci t46_30)], [.box (bSProblem a0_p)]⟩) (g := fun s => chargenetlaw18_PlanTight_p48 t46_30 (fun t46_30 => chargenetlaw18_PlanTight_l46 F a0_p c_6 n_46 t46_30) = some r) ?_ ?_
    rotate_left
    ·refine SCode.block (SCode.seq ?_)
     obtain ⟨g49, h⟩ := guard_out h
     refine SCode.region (show SOps _ _ _ [0, 1, 2, 3, 4, 5] _ _ from ?_)
     refine sm rfl rfl rfl rfl rfl (sq rfl rfl rfl (q_index_vec rfl rfl rfl sl24 rfl g49.1 g49.2) (sq rfl rfl rfl (q_load_eptr_all rfl rfl rfl ty39) (se rfl rfl (e_alloc rfl rfl rfl z39) (sa rfl rfl rfl rfl rfl (se rfl rfl (e_store_box rfl rfl rfl rfl rfl ty39 rfl rfl rfl rfl) (SOps.nil (SCode.seq (SCode.seq (SCode.sub (st' := ⟨[(1, .c (.ptr 0 0)), (3, .c (vI c_6.1)), (7, ci t46_30), (8, .c (.ptr 1 0)), (44, .c (vSDemand a0_p.Demands)), (45, ci (((a0_p.Demands).length : Int))), (46, ci t46_30)], [.box (bSProblem a0_p), .box (bSDemand (a0_p.Demands.getD t46_30.toNat dSDemand))]⟩) (sub_gen [0, 1] rfl rfl (zall rfl rfl) ⟨bx rfl rfl rfl, bx rfl rfl rfl, trivial⟩) ?_)))))))))
     obtain ⟨g50, h⟩ := guard_out h
     rcases cond_out h with ⟨g51, h⟩ | ⟨g51, h⟩
     ·refine SCode.draw (s' := [(64, .c (.bool true)), (63, .c (.raw (.tuple #[]))), (62, .c (.raw (.tuple #[]))), (61, .c (.raw (.tuple #[]))), (60, .c (.raw (.tuple #[]))), (59, .c (.raw (.tuple #[]))), (58, .c (.raw (.tuple #[]))), (57, .c (.raw (.tuple #[]))), (56, .c (.bool (decide (c_6.1.getD t46_30.toNat 0 < 0)))), (55, .c (.bool (decide (c_6.1.getD t46_30.toNat 0 < 0)))), (54, ci (c_6.1.getD t46_30.toNat 0)), (53, .c (.eptr 1 ((cInt .i64) (c_6.1.getD t46_30.toNat 0)) 0)), (52, ci t46_30), (51, .c (vI c_6.1)), (1, .c (.ptr 0 0)), (3, .c (vI c_6.1)), (7, ci t46_30), (8, .c (.ptr 1 0)), (44, .c (vSDemand a0_p.Demands)), (45, ci (((a0_p.Demands).length : Int))), (46, ci t46_30)]) mixed [[], [], [0, 1], [0, 1, 2], [0, 1, 2, 3], [0, 1, 2, 3, 4], [0, 1, 2, 3, 4, 5], [0, 1, 2, 3, 4, 5], [0, 1, 2, 3, 4, 5, 6, 7], [0, 1, 2, 3, 4, 5, 6, 7, 8], [0, 1, 2, 3, 4, 5], [0, 1, 2, 3, 4, 5, 10], [0, 1, 2, 3, 4, 5, 6, 7, 8, 9, 10, 11], [0, 1, 2, 3, 4, 5, 6, 7, 8, 9, 10, 11, 12]] 14 0 rfl rfl ?_ ?_
      ·refine QChain.run rfl (.plain rfl) rfl (q_move rfl rfl) (QChain.run rfl (.plain rfl) rfl (q_move rfl rfl) (QChain.run rfl (.plain rfl) rfl (q_index_vec rfl rfl rfl sl22 rfl g50.1 g50.2) (QChain.run rfl (.plain rfl) rfl (q_load_eptr rfl rfl ty3) (QChain.run rfl (.plain rfl) rfl (q_lss rfl rfl rfl) (QChain.run rfl (.plain rfl) rfl (q_move rfl rfl) (QChain.skip rfl ⟨5, 56, false, rfl, rfl, (.inl (gT g51))⟩ rfl (QChain.skip rfl ⟨5, 56, false, rfl, rfl, (.inl (gT g51))⟩ rfl (QChain.skip rfl ⟨5, 56, false, rfl, rfl, (.inl (gT g51))⟩ rfl (QChain.skip rfl ⟨5, 56, false, rfl, rfl, (.inl (gT g51))⟩ rfl ?_)))))))))
       refine QChain.skip rfl ⟨5, 56, false, rfl, rfl, (.inl (gT g51))⟩ rfl (QChain.skip rfl ⟨5, 56, false, rfl, rfl, (.inl (gT g51))⟩ rfl (QChain.skip rfl ⟨5, 56, false, rfl, rfl, (.inl (gT g51))⟩ rfl (QChain.run rfl (.plain rfl) rfl (q_pick_t rfl rfl g51 rfl) ?_)))
       exact QChain.nil _ _
      refine (show SOps _ _ _ [] _ _ from ?_)
      refine SOps.sub (st' := ⟨[(1, .c (.ptr 0 0)), (3, .c (vI c_6.1)), (7, ci t46_30), (8, .c (.ptr 1 0)), (44, .c (vSDemand a0_p.Demands)), (45, ci (((a0_p.Demands).length : Int))), (46, ci t46_30), (64, .c (.bool true))], [.box (bSProblem a0_p), .box (bSDemand (a0_p.Demands.getD t46_30.toNat dSDemand))]⟩) (sub_gen [0, 1] rfl rfl (zall rfl rfl) ⟨bx rfl rfl rfl, bx rfl rfl rfl, trivial⟩) (SOps.nil (SCode.cond_t rfl rfl (SCode.seq ?_)))
      refine SCode.region (show SOps _ _ _ [0] _ _ from ?_)
      refine sa rfl rfl rfl rfl rfl (SOps.nil (SCode.ret ?_))
      obtain rfl := Option.some.inj h
      exact ⟨⟨[(2, .c (.bool false))], []⟩, _, sub_gen [] rfl rfl (zall rfl rfl) trivial, resA1 (v := .c (.bool false)) rfl rfl, rfl⟩
     obtain ⟨g52, h⟩ := guard_out h
     refine SCode.draw (s' := [(64, .c (.bool (decide ((a0_p.Demands.getD t46_30.toNat dSDemand).Energy < c_6.1.getD t46_30.toNat 0)))), (63, .c (.bool (decide ((a0_p.Demands.getD t46_30.toNat dSDemand).Energy < c_6.1.getD t46_30.toNat 0)))), (62, ci ((a0_p.Demands.getD t46_30.toNat dSDemand).Energy)), (61, .c (.ptr 1 2)), (60, ci (c_6.1.getD t46_30.toNat 0)), (59, .c (.eptr 1 ((cInt .i64) (c_6.1.getD t46_30.toNat 0)) 0)), (58, ci t46_30), (57, .c (vI c_6.1)), (56, .c (.bool (decide (c_6.1.getD t46_30.toNat 0 < 0)))), (55, .c (.bool (decide (c_6.1.getD t46_30.toNat 0 < 0)))), (54, ci (c_6.1.getD t46_30.toNat 0)), (53, .c (.eptr 1 ((cInt .i64) (c_6.1.getD t46_30.toNat 0)) 0)), (52, ci t46_30), (51, .c (vI c_6.1)), (1, .c (.ptr 0 0)), (3, .c (vI c_6.1)), (7, ci t46_30), (8, .c (.ptr 1 0)), (44, .c (vSDemand a0_p.Demands)), (45, ci (((a0_p.Demands).length : Int))), (46, ci t46_30)]) mixed [[], [], [0, 1], [0, 1, 2], [0, 1, 2, 3], [0, 1, 2, 3, 4], [0, 1, 2, 3, 4, 5], [0, 1, 2, 3, 4, 5], [0, 1, 2, 3, 4, 5, 6, 7], [0, 1, 2, 3, 4, 5, 6, 7, 8], [0, 1, 2, 3, 4, 5], [0, 1, 2, 3, 4, 5, 10], [0, 1, 2, 3, 4, 5, 6, 7, 8, 9, 10, 11], [0, 1, 2, 3, 4, 5, 6, 7, 8, 9, 10, 11, 12]] 14 0 rfl rfl ?_ ?_
     ·refine QChain.run rfl (.plain rfl) rfl (q_move rfl rfl) (QChain.run rfl (.plain rfl) rfl (q_move rfl rfl) (QChain.run rfl (.plain rfl) rfl (q_index_vec rfl rfl rfl sl22 rfl g50.1 g50.2) (QChain.run rfl (.plain rfl) rfl (q_load_eptr rfl rfl ty3) (QChain.run rfl (.plain rfl) rfl (q_lss rfl rfl rfl) (QChain.run rfl (.plain rfl) rfl (q_move rfl rfl) (QChain.run rfl (.guard 5 56 false rfl rfl (gF g51)) rfl (q_move rfl rfl) (QChain.run rfl (.guard 5 56 false rfl rfl (gF g51)) rfl (q_move rfl rfl) (QChain.run rfl (.guard 5 56 false rfl rfl (gF g51)) rfl (q_index_vec rfl rfl rfl sl22 rfl g52.1 g52.2) (QChain.run rfl (.guard 5 56 false rfl rfl (gF g51)) rfl (q_load_eptr rfl rfl ty3) ?_)))))))))
      refine QChain.run rfl (.guard 5 56 false rfl rfl (gF g51)) rfl (q_field_ptr rfl rfl fd39_2) (QChain.run rfl (.guard 5 56 false rfl rfl (gF g51)) rfl (q_load_ptr rfl rfl rfl rfl ty3) (QChain.run rfl (.guard 5 56 false rfl rfl (gF g51)) rfl (q_gtr rfl rfl rfl) (QChain.run rfl (.plain rfl) rfl (q_pick_f rfl rfl g51 rfl) ?_)))
      exact QChain.nil _ _
     refine (show SOps _ _ _ [] _ _ from ?_)
     refine SOps.sub (st' := ⟨[(1, .c (.ptr 0 0)), (3, .c (vI c_6.1)), (7, ci t46_30), (8, .c (.ptr 1 0)), (44, .c (vSDemand a0_p.Demands)), (45, ci (((a0_p.Demands).length : Int))), (46, ci t46_30), (64, .c (.bool (decide ((a0_p.Demands.getD t46_30.toNat dSDemand).Energy < c_6.1.getD t46_30.toNat 0))))], [.box (bSProblem a0_p), .box (bSDemand (a0_p.Demands.getD t46_30.toNat dSDemand))]⟩) (sub_gen [0, 1] rfl rfl (zall rfl rfl) ⟨bx rfl rfl rfl, bx rfl rfl rfl, trivial⟩) (SOps.nil ?_)
     rcases cond_out h with ⟨g53, h⟩ | ⟨g53, h⟩
     ·refine SCode.cond_t rfl g53 (SCode.seq ?_)
      refine SCode.region (show SOps _ _ _ [0] _ _ from ?_)
      refine sa rfl rfl rfl rfl rfl (SOps.nil (SCode.ret ?_))
      obtain rfl := Option.some.inj h
      exact ⟨⟨[(2, .c (.bool false))], []⟩, _, sub_gen [] rfl rfl (zall rfl rfl) trivial, resA1 (v := .c (.bool false)) rfl rfl, rfl⟩
     refine SCode.cond_f rfl g53 (SCode.skip (SCode.seq (SCode.seq ?_)))
     obtain ⟨g54, h⟩ := guard_out h
     refine SCode.draw (s' := [(71, .c (.bool (decide (c_6.1.getD t46_30.toNat 0 = (a0_p.Demands.getD t46_30.toNat dSDemand).Energy)))), (70, ci ((a0_p.Demands.getD t46_30.toNat dSDemand).Energy)), (69, .c (.ptr 1 2)), (68, ci (c_6.1.getD t46_30.toNat 0)), (67, .c (.eptr 1 ((cInt .i64) (c_6.1.getD t46_30.toNat 0)) 0)), (66, ci t46_30), (65, .c (vI c_6.1)), (1, .c (.ptr 0 0)), (3, .c (vI c_6.1)), (7, ci t46_30), (8, .c (.ptr 1 0)), (44, .c (vSDemand a0_p.Demands)), (45, ci (((a0_p.Demands).length : Int))), (46, ci t46_30), (64, .c (.bool (decide ((a0_p.Demands.getD t46_30.toNat dSDemand).Energy < c_6.1.getD t46_30.toNat 0))))]) mixed [[], [], [0, 1], [0, 1, 2], [], [4], [0, 1, 2, 3, 4, 5]] 7 0 rfl rfl ?_ ?_
     ·refine QChain.run rfl (.plain rfl) rfl (q_move rfl rfl) (QChain.run rfl (.plain rfl) rfl (q_move rfl rfl) (QChain.run rfl (.plain rfl) rfl (q_index_vec rfl rfl rfl sl22 rfl g54.1 g54.2) (QChain.run rfl (.plain rfl) rfl (q_load_eptr rfl rfl ty3) (QChain.run rfl (.plain rfl) rfl (q_field_ptr rfl rfl fd39_2) (QChain.run rfl (.plain rfl) rfl (q_load_ptr rfl rfl rfl rfl ty3) (QChain.run rfl (.plain rfl) rfl (q_eql rfl rfl rfl) ?_))))))
      exact QChain.nil _ _
     refine (show SOps _ _ _ [] _ _ from ?_)
     refine SOps.sub (st' := ⟨[(1, .c (.ptr 0 0)), (3, .c (vI c_6.1)), (7, ci t46_30), (44, .c (vSDemand a0_p.Demands)), (45, ci (((a0_p.Demands).length : Int))), (46, ci t46_30), (71, .c (.bool (decide (c_6.1.getD t46_30.toNat 0 = (a0_p.Demands.getD t46_30.toNat dSDemand).Energy))))], [.box (bSProblem a0_p)]⟩) (sub_gen [0] rfl rfl (zall rfl rfl) ⟨bx rfl rfl rfl, trivial⟩) (SOps.nil ?_)
     rcases cond_out h with ⟨g55, h⟩ | ⟨g55, h⟩
     ·refine SCode.cond_t rfl g55 (SCode.exit ?_)
      exact ⟨(), h, sub_gen [0] rfl rfl (zall rfl rfl) ⟨bx rfl rfl rfl, trivial⟩⟩
     refine SCode.cond_f rfl g55 (SCode.skip (SCode.seq ?_))
     obtain ⟨g56, h⟩ := guard_out h
     refine SCode.region (show SOps _ _ _ [0, 1, 2, 3] _ _ from ?_)
     refine se rfl rfl (e_bslice0L (α := Int) (c := (cInt .i64)) (d0 := 0) rfl rfl rfl rfl sl22) (sm rfl rfl rfl rfl rfl (se rfl rfl (e_appendL (c := (cInt .i64)) (d0 := 0) (l := ([] : List Int)) (l2 := c_6.1) rfl rfl rfl rfl rfl rfl (.inl rfl) sl22 z3 rfl rfl oneInt g56.1 g56.2) (sa rfl rfl rfl rfl rfl (SOps.sub (st' := ⟨[(1, .c (.ptr 0 0)), (3, .c (vI c_6.1)), (7, ci t46_30), (9, .c (.own 1 ((([] : List Int)) ++ c_6.1).length)), (44, .c (vSDemand a0_p.Demands)), (45, ci (((a0_p.Demands).length : Int))), (46, ci t46_30)], [.box (bSProblem a0_p), aI 3 ((([] : List Int)) ++ c_6.1)]⟩) (sub_gen [0, 2] rfl rfl (zall rfl rfl) ⟨bx rfl rfl rfl, oa rfl, trivial⟩) (SOps.nil (SCode.seq ?_))))))
     obtain ⟨g57, h⟩ := guard_out h
     obtain ⟨g58, h⟩ := guard_out h
     refine SCode.region (show SOps _ _ _ [0, 1, 2, 3, 4, 5, 6] _ _ from ?_)
     refine sm rfl rfl rfl rfl rfl (sm rfl rfl rfl rfl rfl (sq rfl rfl rfl (q_index_own rfl rfl rfl sl22 g57.1 g57.2) (sq rfl rfl rfl (q_load_aptr rfl rfl rfl (toNat_lt g57) rfl ty3) (sq rfl rfl rfl (q_add rfl rfl rfl) (sq rfl rfl rfl (q_index_own rfl rfl rfl sl22 g58.1 g58.2) (se rfl rfl (e_storeL (IntKind.wrap .i64 (((([] : List Int)) ++ c_6.1).getD t46_30.toNat 0 + 1)) rfl rfl rfl rfl rfl (toNat_lt g58) ty3 rfl rfl rfl rfl rfl rfl) (SOps.sub (st' := ⟨[(1, .c (.ptr 0 0)), (3, .c (vI c_6.1)), (9, .c (.own 1 (((([] : List Int)) ++ c_6.1).set t46_30.toNat (IntKind.wrap .i64 (((([] : List Int)) ++ c_6.1).getD t46_30.toNat 0 + 1))).length)), (44, .c (vSDemand a0_p.Demands)), (45, ci (((a0_p.Demands).length : Int))), (46, ci t46_30)], [.box (bSProblem a0_p), aI 3 (((([] : List Int)) ++ c_6.1).set t46_30.toNat (IntKind.wrap .i64 (((([] : List Int)) ++ c_6.1).getD t46_30.toNat 0 + 1)))]⟩) (sub_gen [0, 1] rfl rfl ⟨zc rfl rfl, zc rfl rfl, ⟨_, rfl, .inl ⟨rfl, congrArg (Cell.own 1) (List.length_set : (((([] : List Int)) ++ c_6.1).set t46_30.toNat (IntKind.wrap .i64 (((([] : List Int)) ++ c_6.1).getD t46_30.toNat 0 + 1))).length = ((([] : List Int)) ++ c_6.1).length).symm⟩⟩, zc rfl rfl, zc rfl rfl, zc rfl rfl, trivial⟩ ⟨bx rfl rfl rfl, oa rfl, trivial⟩) (SOps.nil (SCode.seq ?_)))))))))
     obtain ⟨c_59, g60, h⟩ := bind_out h
     try dsimp only at h
     refine SCode.region (show SOps _ _ _ [0, 1, 2, 3, 4, 5, 6, 7] _ _ from ?_)
     refine sq rfl rfl rfl (q_load_ptr_all rfl rfl rfl rfl rfl ty26) (sm rfl rfl rfl rfl rfl (sq rfl rfl rfl (q_call (plan_Feasible_ok F a0_p (((([] : List Int)) ++ c_6.1).set t46_30.toNat (IntKind.wrap .i64 (((([] : List Int)) ++ c_6.1).getD t46_30.toNat 0 + 1))) c_59 g60) [1] rfl fn14 ⟨⟨rfl, rfl⟩, ⟨_, rfl, .inr (.inl ⟨_, _, _, _, _, _, _, rfl, rfl, rfl, Nat.le_refl _, fun _ _ _ _ => rfl, (.head _)⟩)⟩, trivial⟩ (.inr rfl)) (sm rfl rfl rfl rfl rfl (sq rfl rfl rfl (q_extract rfl rfl rfl) (sq rfl rfl rfl (q_extract rfl rfl rfl) (sa rfl rfl rfl rfl rfl (sa rfl rfl rfl rfl rfl (SOps.nil (SCode.seq ?_)))))))))
     refine SCode.region (show SOps _ _ _ [0] _ _ from ?_)
     refine sm rfl rfl rfl rfl rfl (SOps.nil ?_)
     rcases cond_out h with ⟨g61, h⟩ | ⟨g61, h⟩
     ·refine SCode.cond_t rfl g61 (SCode.seq ?_)
      refine SCode.region (show SOps _ _ _ [0] _ _ from ?_)
      refine sa rfl rfl rfl rfl rfl (SOps.nil (SCode.ret ?_))
      obtain rfl := Option.some.inj h
      exact ⟨⟨[(2, .c (.bool false))], []⟩, _, sub_gen [] rfl rfl (zall rfl rfl) trivial, resA1 (v := .c (.bool false)) rfl rfl, rfl⟩
     refine SCode.cond_f rfl g61 (SCode.skip ?_)
     exact ⟨(), h, sub_gen [0] rfl rfl (zall rfl rfl) ⟨bx rfl rfl rfl, trivial⟩⟩
    rintro ⟨⟩ h
    show SCode _ _ _ ⟨[(1, .c (.ptr 0 0)), (3, .c (vI c_6.1)), (44, .c (vSDemand a0_p.Demands)), (45, ci (((a0_p.Demands).length : Int))), (46, ci t46_30)], [.box (bSProblem a0_p)]⟩ _
    replace h : chargenetlaw18_PlanTight_p48 t46_30 (fun t46_30 => chargenetlaw18_PlanTight_l46 F a0_p c_6 n_46 t46_30) = some r := h
    unfold chargenetlaw18_PlanTight_p48 at h
    refine SCode.region (show SOps _ _ _ [0, 1] _ _ from ?_)
    refine sq rfl rfl rfl (q_add rfl rfl rfl) (sm rfl rfl rfl rfl rfl (SOps.nil ?_))
    exact ⟨(n_46, IntKind.wrap .i64 (t46_30 + 1)), h, Nat.lt_succ_self n_46, sub_gen [0] rfl rfl (zall rfl rfl) ⟨bx rfl rfl rfl, trivial⟩⟩
   refine SCode.cond_f rfl g47 (SCode.exit ?_)
   exact ⟨(), h, sub_gen [] rfl rfl trivial trivial⟩
 rintro ⟨⟩ h
 show SCode _ _ _ ⟨[], []⟩ _
 replace h : chargenetlaw18_PlanTight_p14 = some r := h
 unfold chargenetlaw18_PlanTight_p14 at h
 refine SCode.seq ?_
 refine SCode.region (show SOps _ _ _ [0] _ _ from ?_)
 refine sa rfl rfl rfl rfl rfl (SOps.nil (SCode.ret ?_))
 obtain rfl := Option.some.inj h
 exact ⟨⟨[(2, .c (.bool true))], []⟩, _, sub_gen [] rfl rfl (zall rfl rfl) trivial, resA1 (v := .c (.bool true)) rfl rfl, rfl⟩
end Go.Proofs.Ytfefnffdocmlmaa.W
