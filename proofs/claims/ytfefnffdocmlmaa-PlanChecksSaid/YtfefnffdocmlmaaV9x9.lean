/- Written by a program of ours (wip/eng/gen.py): the functions compute their models. -/
import Derived.Test.YtfefnffdocmlmaaFacts
import Derived.Test.YtfefnffdocmlmaaV9x8
namespace Go.Proofs.Ytfefnffdocmlmaa.W
open Go Go.Proofs Go.Proofs.Ytfefnffdocmlmaa.E Go.Proofs.Ytfefnffdocmlmaa.M
set_option linter.unusedVariables false
set_option maxRecDepth 100000 in
set_option maxHeartbeats 8000000 in
theorem chargenetref18_Check_ok (F : Nat) (a0_p : SProblem) (a1_energy : List Int) (a2_plan : List (List Int)) (r : Bool) (h : chargenetref18_Check F a0_p a1_energy a2_plan = some r) :
    SFun Try.prog 22 [] [.a (bSProblem a0_p), .c (vI a1_energy), .c (vR a2_plan)] (fun x _ => x = .c (.bool r)) := by
  refine SFun.of (n := 137) Try.func22 rfl rfl rfl ?_
  unfold chargenetref18_Check at h
  show SCode _ _ _ ⟨[(0, .a (bSProblem a0_p)), (1, .c (vI a1_energy)), (2, .c (vR a2_plan))], []⟩ _
  refine SCode.seq ?_
  refine SCode.region (show SOps _ _ _ [0, 1] _ _ from ?_)
  refine se rfl rfl (e_box rfl rfl rfl rfl rfl rfl) (sa rfl rfl rfl rfl rfl (SOps.nil (SCode.seq (SCode.seq ?_))))
  obtain ⟨c_1, g2, h⟩ := bind_out h
  try dsimp only at h
  rcases cond_out h with ⟨g3, h⟩ | ⟨g3, h⟩
  · refine SCode.region (show SOps _ _ _ [0, 1, 2, 3, 4, 5, 6, 7, 8, 9, 10, 11] _ _ from ?_)
    refine sq rfl rfl rfl (q_load_ptr_all rfl rfl rfl rfl rfl ty26) (sm rfl rfl rfl rfl rfl (sq rfl rfl rfl (q_call (chargenetref18_energies_ok F a0_p a1_energy c_1 g2) [] rfl fn28 ⟨⟨rfl, rfl⟩, ⟨_, rfl, .inl ⟨rfl, rfl⟩⟩, trivial⟩ (.inl rfl)) (sq rfl rfl rfl (q_neq rfl rfl rfl) (sm rfl rfl rfl rfl rfl (SOps.skip rfl 4 23 false rfl rfl (.inl (gT g3)) rfl (SOps.skip rfl 4 23 false rfl rfl (.inl (gT g3)) rfl (SOps.skip rfl 4 23 false rfl rfl (.inl (gT g3)) rfl (SOps.skip rfl 4 23 false rfl rfl (.inl (gT g3)) rfl (SOps.skip rfl 4 23 false rfl rfl (.inl (gT g3)) rfl ?_)))))))))
    refine SOps.skip rfl 4 23 false rfl rfl (.inl (gT g3)) rfl (sq rfl rfl rfl (q_pick_t rfl rfl g3 rfl) (SOps.nil (SCode.cond_t rfl rfl (SCode.seq ?_))))
    refine SCode.region (show SOps _ _ _ [0] _ _ from ?_)
    refine sa rfl rfl rfl rfl rfl (SOps.nil (SCode.ret ?_))
    obtain rfl := Option.some.inj h
    exact ⟨⟨[(6, .c (.bool false))], []⟩, _, sub_gen [] rfl rfl (zall rfl rfl) trivial, resA1 (v := .c (.bool false)) rfl rfl, rfl⟩
  refine SCode.region (show SOps _ _ _ [0, 1, 2, 3, 4, 5, 6, 7, 8, 9, 10, 11] _ _ from ?_)
  refine sq rfl rfl rfl (q_load_ptr_all rfl rfl rfl rfl rfl ty26) (sm rfl rfl rfl rfl rfl (sq rfl rfl rfl (q_call (chargenetref18_energies_ok F a0_p a1_energy c_1 g2) [] rfl fn28 ⟨⟨rfl, rfl⟩, ⟨_, rfl, .inl ⟨rfl, rfl⟩⟩, trivial⟩ (.inl rfl)) (sq rfl rfl rfl (q_neq rfl rfl rfl) (sm rfl rfl rfl rfl rfl (SOps.q rfl (.guard 4 23 false rfl rfl (gF g3)) rfl (q_move rfl rfl) (SOps.q rfl (.guard 4 23 false rfl rfl (gF g3)) rfl (q_len_vec rfl rfl sl23) (SOps.q rfl (.guard 4 23 false rfl rfl (gF g3)) rfl (q_field_ptr rfl rfl fd26_4) (SOps.q rfl (.guard 4 23 false rfl rfl (gF g3)) rfl (q_load_ptr rfl rfl rfl rfl ty24) (SOps.q rfl (.guard 4 23 false rfl rfl (gF g3)) rfl (q_len_vec rfl rfl sl24) ?_)))))))))
  refine SOps.q rfl (.guard 4 23 false rfl rfl (gF g3)) rfl (q_neq rfl rfl rfl) (sq rfl rfl rfl (q_pick_f rfl rfl g3 rfl) (SOps.nil ?_))
  rcases cond_out h with ⟨g4, h⟩ | ⟨g4, h⟩
  · refine SCode.cond_t rfl g4 (SCode.seq ?_)
    refine SCode.region (show SOps _ _ _ [0] _ _ from ?_)
    refine sa rfl rfl rfl rfl rfl (SOps.nil (SCode.ret ?_))
    obtain rfl := Option.some.inj h
    exact ⟨⟨[(6, .c (.bool false))], []⟩, _, sub_gen [] rfl rfl (zall rfl rfl) trivial, resA1 (v := .c (.bool false)) rfl rfl, rfl⟩
  refine SCode.cond_f rfl g4 (SCode.skip ?_)
  refine SCode.join (σ := Unit) (S := fun s => ⟨[(2, .c (vR a2_plan)), (3, .c (.ptr 0 0))], [.box (bSProblem a0_p)]⟩) (g := fun s => chargenetref18_Check_p363 F a0_p a2_plan = some r) ?_ ?_
  rotate_left
  · refine SCode.seq ?_
    refine SCode.region (show SOps _ _ _ [0, 1, 2, 3] _ _ from ?_)
    refine sq rfl rfl rfl (q_field_ptr rfl rfl fd26_4) (sq rfl rfl rfl (q_load_ptr rfl rfl rfl rfl ty24) (sq rfl rfl rfl (q_len_vec rfl rfl sl24) (sm rfl rfl rfl rfl rfl (SOps.sub (st' := ⟨[(1, .c (vI a1_energy)), (2, .c (vR a2_plan)), (3, .c (.ptr 0 0)), (32, .c (vSDemand a0_p.Demands)), (33, ci (((a0_p.Demands).length : Int))), (34, ci 0)], [.box (bSProblem a0_p)]⟩) (sub_gen [0] rfl rfl (zall rfl rfl) ⟨bx rfl rfl rfl, trivial⟩) (SOps.nil (SCode.block (SCode.sub (st' := ⟨[(1, .c (vI a1_energy)), (2, .c (vR a2_plan)), (3, .c (.ptr 0 0)), (32, .c (vSDemand a0_p.Demands)), (33, ci (((a0_p.Demands).length : Int))), (34, ci 0)], [.box (bSProblem a0_p)]⟩) (sub_gen [0] rfl rfl (zall rfl rfl) ⟨bx rfl rfl rfl, trivial⟩) ?_)))))))
    refine (SCode.loop (σ := Nat × (Int × Int)) (S := fun s => ⟨[(1, .c (vI a1_energy)), (2, .c (vR a2_plan)), (3, .c (.ptr 0 0)), (32, .c (vSDemand a0_p.Demands)), (33, ci s.2.1), (34, ci s.2.2)], [.box (bSProblem a0_p)]⟩) (g := fun s => chargenetref18_Check_l447 F a0_p a1_energy a2_plan s.1 s.2.1 s.2.2 = some r) (μ := fun s => s.1) (F, (((a0_p.Demands).length : Int), 0)) h ?_)
    rintro ⟨n_447, ⟨t33_405, t34_406⟩⟩ h
    replace h : chargenetref18_Check_l447 F a0_p a1_energy a2_plan n_447 t33_405 t34_406 = some r := h
    show SCode _ _ _ ⟨[(1, .c (vI a1_energy)), (2, .c (vR a2_plan)), (3, .c (.ptr 0 0)), (32, .c (vSDemand a0_p.Demands)), (33, ci t33_405), (34, ci t34_406)], [.box (bSProblem a0_p)]⟩ _
    cases n_447 with
    | zero => cases h
    | succ n_447 =>
      replace h : chargenetref18_Check_b447 F a0_p a1_energy a2_plan (fun t33_405 t34_406 => chargenetref18_Check_l447 F a0_p a1_energy a2_plan n_447 t33_405 t34_406) t33_405 t34_406 = some r := h
      unfold chargenetref18_Check_b447 at h
      refine SCode.seq ?_
      refine SCode.region (show SOps _ _ _ [0] _ _ from ?_)
      refine sq rfl rfl rfl (q_lss rfl rfl rfl) (SOps.nil (SCode.seq ?_))
      rcases cond_out h with ⟨g448, h⟩ | ⟨g448, h⟩
      · refine SCode.cond_t rfl g448 (SCode.skip ?_)
        refine SCode.join (σ := Unit) (S := fun s => ⟨[(1, .c (vI a1_energy)), (2, .c (vR a2_plan)), (3, .c (.ptr 0 0)), (32, .c (vSDemand a0_p.Demands)), (33, ci t33_405), (34, ci t34_406)], [.box (bSProblem a0_p)]⟩) (g := fun s => chargenetref18_Check_p449 t33_405 t34_406 (fun t33_405 t34_406 => chargenetref18_Check_l447 F a0_p a1_energy a2_plan n_447 t33_405 t34_406) = some r) ?_ ?_
        rotate_left
        · refine SCode.block (SCode.seq ?_)
          obtain ⟨g450, h⟩ := guard_out h
          refine SCode.region (show SOps _ _ _ [0, 1, 2, 3, 4, 5] _ _ from ?_)
          refine sm rfl rfl rfl rfl rfl (sq rfl rfl rfl (q_index_vec rfl rfl rfl sl24 rfl g450.1 g450.2) (sq rfl rfl rfl (q_load_eptr_all rfl rfl rfl ty39) (se rfl rfl (e_alloc rfl rfl rfl z39) (sa rfl rfl rfl rfl rfl (se rfl rfl (e_store_box rfl rfl rfl rfl rfl ty39 rfl rfl rfl rfl) (SOps.nil (SCode.seq (SCode.seq (SCode.sub (st' := ⟨[(1, .c (vI a1_energy)), (2, .c (vR a2_plan)), (3, .c (.ptr 0 0)), (7, ci t34_406), (8, .c (.ptr 1 0)), (32, .c (vSDemand a0_p.Demands)), (33, ci t33_405), (34, ci t34_406)], [.box (bSProblem a0_p), .box (bSDemand (a0_p.Demands.getD t34_406.toNat dSDemand))]⟩) (sub_gen [0, 1] rfl rfl (zall rfl rfl) ⟨bx rfl rfl rfl, bx rfl rfl rfl, trivial⟩) ?_)))))))))
          obtain ⟨g451, h⟩ := guard_out h
          refine SCode.draw (s' := [(47, .c (.bool ((!decide (((a2_plan.getD t34_406.toNat ([])).length : Int) = ((a0_p.Caps).length : Int)))))), (46, ci (((a0_p.Caps).length : Int))), (45, .c (vR a0_p.Caps)), (44, .c (.ptr 0 1)), (43, ci (((a2_plan.getD t34_406.toNat ([])).length : Int))), (42, .c (vI (a2_plan.getD t34_406.toNat ([])))), (41, .c (.eptr 1 ((cVec 1 (cInt .i64) 0) (a2_plan.getD t34_406.toNat ([]))) 0)), (40, ci t34_406), (39, .c (vR a2_plan)), (1, .c (vI a1_energy)), (2, .c (vR a2_plan)), (3, .c (.ptr 0 0)), (7, ci t34_406), (8, .c (.ptr 1 0)), (32, .c (vSDemand a0_p.Demands)), (33, ci t33_405), (34, ci t34_406)]) mixed [[], [], [0, 1], [0, 1, 2], [0, 1, 2, 3], [], [5], [5, 6], [0, 1, 2, 3, 4, 5, 6, 7]] 9 0 rfl rfl ?_ ?_
          · refine QChain.run rfl (.plain rfl) rfl (q_move rfl rfl) (QChain.run rfl (.plain rfl) rfl (q_move rfl rfl) (QChain.run rfl (.plain rfl) rfl (q_index_vec rfl rfl rfl sl23 rfl g451.1 g451.2) (QChain.run rfl (.plain rfl) rfl (q_load_eptr rfl rfl ty22) (QChain.run rfl (.plain rfl) rfl (q_len_vec rfl rfl sl22) (QChain.run rfl (.plain rfl) rfl (q_field_ptr rfl rfl fd26_1) (QChain.run rfl (.plain rfl) rfl (q_load_ptr rfl rfl rfl rfl ty23) (QChain.run rfl (.plain rfl) rfl (q_len_vec rfl rfl sl23) (QChain.run rfl (.plain rfl) rfl (q_neq rfl rfl rfl) ?_))))))))
            exact QChain.nil _ _
          refine (show SOps _ _ _ [] _ _ from ?_)
          refine SOps.sub (st' := ⟨[(1, .c (vI a1_energy)), (2, .c (vR a2_plan)), (3, .c (.ptr 0 0)), (7, ci t34_406), (8, .c (.ptr 1 0)), (32, .c (vSDemand a0_p.Demands)), (33, ci t33_405), (34, ci t34_406), (47, .c (.bool ((!decide (((a2_plan.getD t34_406.toNat ([])).length : Int) = ((a0_p.Caps).length : Int))))))], [.box (bSProblem a0_p), .box (bSDemand (a0_p.Demands.getD t34_406.toNat dSDemand))]⟩) (sub_gen [0, 1] rfl rfl (zall rfl rfl) ⟨bx rfl rfl rfl, bx rfl rfl rfl, trivial⟩) (SOps.nil ?_)
          rcases cond_out h with ⟨g452, h⟩ | ⟨g452, h⟩
          · refine SCode.cond_t rfl g452 (SCode.seq ?_)
            refine SCode.region (show SOps _ _ _ [0] _ _ from ?_)
            refine sa rfl rfl rfl rfl rfl (SOps.nil (SCode.ret ?_))
            obtain rfl := Option.some.inj h
            exact ⟨⟨[(6, .c (.bool false))], []⟩, _, sub_gen [] rfl rfl (zall rfl rfl) trivial, resA1 (v := .c (.bool false)) rfl rfl, rfl⟩
          refine SCode.cond_f rfl g452 (SCode.skip (SCode.seq ?_))
          refine SCode.region (show SOps _ _ _ [0] _ _ from ?_)
          refine sa rfl rfl rfl rfl rfl (SOps.nil ?_)
          refine SCode.join (σ := Int) (S := fun s => ⟨[(1, .c (vI a1_energy)), (2, .c (vR a2_plan)), (3, .c (.ptr 0 0)), (7, ci t34_406), (9, ci s), (32, .c (vSDemand a0_p.Demands)), (33, ci t33_405), (34, ci t34_406)], [.box (bSProblem a0_p)]⟩) (g := fun s => chargenetref18_Check_p456 a1_energy t33_405 t34_406 (fun t33_405 t34_406 => chargenetref18_Check_l447 F a0_p a1_energy a2_plan n_447 t33_405 t34_406) s = some r) ?_ ?_
          rotate_left
          · refine SCode.seq ?_
            obtain ⟨g457, h⟩ := guard_out h
            refine SCode.region (show SOps _ _ _ [0, 1, 2, 3, 4, 5] _ _ from ?_)
            refine sm rfl rfl rfl rfl rfl (sm rfl rfl rfl rfl rfl (sq rfl rfl rfl (q_index_vec rfl rfl rfl sl23 rfl g457.1 g457.2) (sq rfl rfl rfl (q_load_eptr rfl rfl ty22) (sq rfl rfl rfl (q_len_vec rfl rfl sl22) (sm rfl rfl rfl rfl rfl (SOps.nil (SCode.block (SCode.sub (st' := ⟨[(1, .c (vI a1_energy)), (2, .c (vR a2_plan)), (3, .c (.ptr 0 0)), (7, ci t34_406), (8, .c (.ptr 1 0)), (9, ci 0), (32, .c (vSDemand a0_p.Demands)), (33, ci t33_405), (34, ci t34_406), (51, .c (vI (a2_plan.getD t34_406.toNat ([])))), (52, ci (((a2_plan.getD t34_406.toNat ([])).length : Int))), (53, ci 0)], [.box (bSProblem a0_p), .box (bSDemand (a0_p.Demands.getD t34_406.toNat dSDemand))]⟩) (sub_gen [0, 1] rfl rfl (zall rfl rfl) ⟨bx rfl rfl rfl, bx rfl rfl rfl, trivial⟩) ?_))))))))
            refine (SCode.loop (σ := Nat × (Int × Int)) (S := fun s => ⟨[(1, .c (vI a1_energy)), (2, .c (vR a2_plan)), (3, .c (.ptr 0 0)), (7, ci t34_406), (8, .c (.ptr 1 0)), (9, ci s.2.1), (32, .c (vSDemand a0_p.Demands)), (33, ci t33_405), (34, ci t34_406), (51, .c (vI (a2_plan.getD t34_406.toNat ([])))), (52, ci (((a2_plan.getD t34_406.toNat ([])).length : Int))), (53, ci s.2.2)], [.box (bSProblem a0_p), .box (bSDemand (a0_p.Demands.getD t34_406.toNat dSDemand))]⟩) (g := fun s => chargenetref18_Check_l478 F a0_p a1_energy a2_plan t33_405 t34_406 (fun t33_405 t34_406 => chargenetref18_Check_l447 F a0_p a1_energy a2_plan n_447 t33_405 t34_406) s.1 s.2.1 s.2.2 = some r) (μ := fun s => s.1) (F, (0, 0)) h ?_)
            rintro ⟨n_478, ⟨sum_467, t53_468⟩⟩ h
            replace h : chargenetref18_Check_l478 F a0_p a1_energy a2_plan t33_405 t34_406 (fun t33_405 t34_406 => chargenetref18_Check_l447 F a0_p a1_energy a2_plan n_447 t33_405 t34_406) n_478 sum_467 t53_468 = some r := h
            show SCode _ _ _ ⟨[(1, .c (vI a1_energy)), (2, .c (vR a2_plan)), (3, .c (.ptr 0 0)), (7, ci t34_406), (8, .c (.ptr 1 0)), (9, ci sum_467), (32, .c (vSDemand a0_p.Demands)), (33, ci t33_405), (34, ci t34_406), (51, .c (vI (a2_plan.getD t34_406.toNat ([])))), (52, ci (((a2_plan.getD t34_406.toNat ([])).length : Int))), (53, ci t53_468)], [.box (bSProblem a0_p), .box (bSDemand (a0_p.Demands.getD t34_406.toNat dSDemand))]⟩ _
            cases n_478 with
            | zero => cases h
            | succ n_478 =>
              replace h : chargenetref18_Check_b478 F a0_p a1_energy a2_plan t33_405 t34_406 (fun t33_405 t34_406 => chargenetref18_Check_l447 F a0_p a1_energy a2_plan n_447 t33_405 t34_406) (fun sum_467 t53_468 => chargenetref18_Check_l478 F a0_p a1_energy a2_plan t33_405 t34_406 (fun t33_405 t34_406 => chargenetref18_Check_l447 F a0_p a1_energy a2_plan n_447 t33_405 t34_406) n_478 sum_467 t53_468) sum_467 t53_468 = some r := h
              unfold chargenetref18_Check_b478 at h
              refine SCode.seq ?_
              refine SCode.region (show SOps _ _ _ [0] _ _ from ?_)
              refine sq rfl rfl rfl (q_lss rfl rfl rfl) (SOps.nil (SCode.seq ?_))
              rcases cond_out h with ⟨g479, h⟩ | ⟨g479, h⟩
              · refine SCode.cond_t rfl g479 (SCode.skip (SCode.seq (SCode.block (SCode.seq ?_))))
                obtain ⟨g480, h⟩ := guard_out h
                refine SCode.region (show SOps _ _ _ [0, 1, 2, 3, 4] _ _ from ?_)
                refine sm rfl rfl rfl rfl rfl (sq rfl rfl rfl (q_index_vec rfl rfl rfl sl22 rfl g480.1 g480.2) (sq rfl rfl rfl (q_load_eptr rfl rfl ty3) (sa rfl rfl rfl rfl rfl (sa rfl rfl rfl rfl rfl (SOps.nil ?_)))))
                refine SCode.join (σ := Unit) (S := fun s => ⟨[(1, .c (vI a1_energy)), (2, .c (vR a2_plan)), (3, .c (.ptr 0 0)), (7, ci t34_406), (8, .c (.ptr 1 0)), (9, ci sum_467), (11, ci ((a2_plan.getD t34_406.toNat ([])).getD t53_468.toNat 0)), (32, .c (vSDemand a0_p.Demands)), (33, ci t33_405), (34, ci t34_406), (51, .c (vI (a2_plan.getD t34_406.toNat ([])))), (52, ci (((a2_plan.getD t34_406.toNat ([])).length : Int))), (53, ci t53_468)], [.box (bSProblem a0_p), .box (bSDemand (a0_p.Demands.getD t34_406.toNat dSDemand))]⟩) (g := fun s => chargenetref18_Check_p481 a2_plan t34_406 sum_467 t53_468 (fun sum_467 t53_468 => chargenetref18_Check_l478 F a0_p a1_energy a2_plan t33_405 t34_406 (fun t33_405 t34_406 => chargenetref18_Check_l447 F a0_p a1_energy a2_plan n_447 t33_405 t34_406) n_478 sum_467 t53_468) = some r) ?_ ?_
                rotate_left
                · refine SCode.seq ?_
                  rcases cond_out h with ⟨g482, h⟩ | ⟨g482, h⟩
                  · refine SCode.region (show SOps _ _ _ [0, 1, 2, 3, 4, 5, 6, 7, 8, 9, 10, 11, 12, 13, 14, 15, 16, 17, 18, 19, 20, 21] _ _ from ?_)
                    refine sm rfl rfl rfl rfl rfl (sq rfl rfl rfl (q_lss rfl rfl rfl) (sm rfl rfl rfl rfl rfl (SOps.skip rfl 2 60 false rfl rfl (.inl (gT g482)) rfl (SOps.skip rfl 2 60 false rfl rfl (.inl (gT g482)) rfl (SOps.skip rfl 2 60 false rfl rfl (.inl (gT g482)) rfl (SOps.skip rfl 2 60 false rfl rfl (.inl (gT g482)) rfl (SOps.skip rfl 2 60 false rfl rfl (.inl (gT g482)) rfl (SOps.skip rfl 2 60 false rfl rfl (.inl (gT g482)) rfl (SOps.skip rfl 2 60 false rfl rfl (.inl (gT g482)) rfl ?_)))))))))
                    refine sq rfl rfl rfl (q_pick_t rfl rfl g482 rfl) (sm rfl rfl rfl rfl rfl (SOps.skip rfl 11 69 false rfl rfl (.inl rfl) rfl (SOps.skip rfl 11 69 false rfl rfl (.inl rfl) rfl (SOps.skip rfl 11 69 false rfl rfl (.inl rfl) rfl (SOps.skip rfl 14 72 true rfl rfl (.inr rfl) rfl (SOps.skip rfl 14 72 true rfl rfl (.inr rfl) rfl (SOps.skip rfl 14 72 true rfl rfl (.inr rfl) rfl (SOps.skip rfl 14 72 true rfl rfl (.inr rfl) rfl (SOps.skip rfl 14 72 true rfl rfl (.inr rfl) rfl ?_)))))))))
                    refine SOps.skip rfl 11 69 false rfl rfl (.inl rfl) rfl (sq rfl rfl rfl (q_pick_t rfl rfl rfl rfl) (SOps.sub (st' := ⟨[(1, .c (vI a1_energy)), (2, .c (vR a2_plan)), (3, .c (.ptr 0 0)), (7, ci t34_406), (8, .c (.ptr 1 0)), (9, ci sum_467), (11, ci ((a2_plan.getD t34_406.toNat ([])).getD t53_468.toNat 0)), (32, .c (vSDemand a0_p.Demands)), (33, ci t33_405), (34, ci t34_406), (51, .c (vI (a2_plan.getD t34_406.toNat ([])))), (52, ci (((a2_plan.getD t34_406.toNat ([])).length : Int))), (53, ci t53_468), (79, .c (.bool true))], [.box (bSProblem a0_p), .box (bSDemand (a0_p.Demands.getD t34_406.toNat dSDemand))]⟩) (sub_gen [0, 1] rfl rfl (zall rfl rfl) ⟨bx rfl rfl rfl, bx rfl rfl rfl, trivial⟩) (SOps.nil (SCode.cond_t rfl rfl (SCode.seq ?_)))))
                    refine SCode.region (show SOps _ _ _ [0] _ _ from ?_)
                    refine sa rfl rfl rfl rfl rfl (SOps.nil (SCode.ret ?_))
                    obtain rfl := Option.some.inj h
                    exact ⟨⟨[(6, .c (.bool false))], []⟩, _, sub_gen [] rfl rfl (zall rfl rfl) trivial, resA1 (v := .c (.bool false)) rfl rfl, rfl⟩
                  rcases cond_out h with ⟨g483, h⟩ | ⟨g483, h⟩
                  · refine SCode.region (show SOps _ _ _ [0, 1, 2, 3, 4, 5, 6, 7, 8, 9, 10, 11, 12, 13, 14, 15, 16, 17, 18, 19, 20, 21] _ _ from ?_)
                    refine sm rfl rfl rfl rfl rfl (sq rfl rfl rfl (q_lss rfl rfl rfl) (sm rfl rfl rfl rfl rfl (SOps.q rfl (.guard 2 60 false rfl rfl (gF g482)) rfl (q_move rfl rfl) (SOps.q rfl (.guard 2 60 false rfl rfl (gF g482)) rfl (q_field_ptr rfl rfl fd39_1) (SOps.q rfl (.guard 2 60 false rfl rfl (gF g482)) rfl (q_load_ptr rfl rfl rfl rfl ty3) (SOps.q rfl (.guard 2 60 false rfl rfl (gF g482)) rfl (q_field_ptr rfl rfl fd26_3) (SOps.q rfl (.guard 2 60 false rfl rfl (gF g482)) rfl (q_load_ptr rfl rfl rfl rfl ty3) (SOps.q rfl (.guard 2 60 false rfl rfl (gF g482)) rfl (q_mul rfl rfl rfl) (SOps.q rfl (.guard 2 60 false rfl rfl (gF g482)) rfl (q_gtr rfl rfl rfl) ?_)))))))))
                    refine sq rfl rfl rfl (q_pick_f rfl rfl g482 rfl) (sm rfl rfl rfl rfl rfl (SOps.skip rfl 11 69 false rfl rfl (.inl (gT g483)) rfl (SOps.skip rfl 11 69 false rfl rfl (.inl (gT g483)) rfl (SOps.skip rfl 11 69 false rfl rfl (.inl (gT g483)) rfl (SOps.skip rfl 14 72 true rfl rfl (.inr rfl) rfl (SOps.skip rfl 14 72 true rfl rfl (.inr rfl) rfl (SOps.skip rfl 14 72 true rfl rfl (.inr rfl) rfl (SOps.skip rfl 14 72 true rfl rfl (.inr rfl) rfl (SOps.skip rfl 14 72 true rfl rfl (.inr rfl) rfl ?_)))))))))
                    refine SOps.skip rfl 11 69 false rfl rfl (.inl (gT g483)) rfl (sq rfl rfl rfl (q_pick_t rfl rfl g483 rfl) (SOps.sub (st' := ⟨[(1, .c (vI a1_energy)), (2, .c (vR a2_plan)), (3, .c (.ptr 0 0)), (7, ci t34_406), (8, .c (.ptr 1 0)), (9, ci sum_467), (11, ci ((a2_plan.getD t34_406.toNat ([])).getD t53_468.toNat 0)), (32, .c (vSDemand a0_p.Demands)), (33, ci t33_405), (34, ci t34_406), (51, .c (vI (a2_plan.getD t34_406.toNat ([])))), (52, ci (((a2_plan.getD t34_406.toNat ([])).length : Int))), (53, ci t53_468), (79, .c (.bool true))], [.box (bSProblem a0_p), .box (bSDemand (a0_p.Demands.getD t34_406.toNat dSDemand))]⟩) (sub_gen [0, 1] rfl rfl (zall rfl rfl) ⟨bx rfl rfl rfl, bx rfl rfl rfl, trivial⟩) (SOps.nil (SCode.cond_t rfl rfl (SCode.seq ?_)))))
                    refine SCode.region (show SOps _ _ _ [0] _ _ from ?_)
                    refine sa rfl rfl rfl rfl rfl (SOps.nil (SCode.ret ?_))
                    obtain rfl := Option.some.inj h
                    exact ⟨⟨[(6, .c (.bool false))], []⟩, _, sub_gen [] rfl rfl (zall rfl rfl) trivial, resA1 (v := .c (.bool false)) rfl rfl, rfl⟩
                  rcases cond_out h with ⟨g484, h⟩ | ⟨g484, h⟩
                  · obtain ⟨c_485, g486, h⟩ := bind_out h
                    try dsimp only at h
                    refine SCode.region (show SOps _ _ _ [0, 1, 2, 3, 4, 5, 6, 7, 8, 9, 10, 11, 12, 13, 14, 15, 16, 17, 18, 19, 20, 21] _ _ from ?_)
                    refine sm rfl rfl rfl rfl rfl (sq rfl rfl rfl (q_lss rfl rfl rfl) (sm rfl rfl rfl rfl rfl (SOps.q rfl (.guard 2 60 false rfl rfl (gF g482)) rfl (q_move rfl rfl) (SOps.q rfl (.guard 2 60 false rfl rfl (gF g482)) rfl (q_field_ptr rfl rfl fd39_1) (SOps.q rfl (.guard 2 60 false rfl rfl (gF g482)) rfl (q_load_ptr rfl rfl rfl rfl ty3) (SOps.q rfl (.guard 2 60 false rfl rfl (gF g482)) rfl (q_field_ptr rfl rfl fd26_3) (SOps.q rfl (.guard 2 60 false rfl rfl (gF g482)) rfl (q_load_ptr rfl rfl rfl rfl ty3) (SOps.q rfl (.guard 2 60 false rfl rfl (gF g482)) rfl (q_mul rfl rfl rfl) (SOps.q rfl (.guard 2 60 false rfl rfl (gF g482)) rfl (q_gtr rfl rfl rfl) ?_)))))))))
                    refine sq rfl rfl rfl (q_pick_f rfl rfl g482 rfl) (sm rfl rfl rfl rfl rfl (SOps.q rfl (.guard 11 69 false rfl rfl (gF g483)) rfl (q_move rfl rfl) (SOps.q rfl (.guard 11 69 false rfl rfl (gF g483)) rfl (q_gtr rfl rfl rfl) (SOps.q rfl (.guard 11 69 false rfl rfl (gF g483)) rfl (q_move rfl rfl) (SOps.q rfl (.guard 14 72 true rfl rfl (gT g484)) rfl (q_load_ptr_all rfl rfl rfl rfl rfl ty26) (SOps.q rfl (.guard 14 72 true rfl rfl (gT g484)) rfl (q_load_ptr_all rfl rfl rfl rfl rfl ty39) (SOps.q rfl (.guard 14 72 true rfl rfl (gT g484)) rfl (q_move rfl rfl) (SOps.q rfl (.guard 14 72 true rfl rfl (gT g484)) rfl (q_call (chargenetref18_Usable_ok F a0_p (a0_p.Demands.getD t34_406.toNat dSDemand) t53_468 c_485 g486) [] rfl fn38 ⟨⟨rfl, rfl⟩, ⟨rfl, rfl⟩, ⟨_, rfl, .inl ⟨rfl, rfl⟩⟩, trivial⟩ (.inl rfl)) (SOps.q rfl (.guard 14 72 true rfl rfl (gT g484)) rfl (q_not rfl rfl) ?_)))))))))
                    refine SOps.q rfl (.guard 11 69 false rfl rfl (gF g483)) rfl (q_pick_t rfl rfl g484 rfl) (sq rfl rfl rfl (q_pick_f rfl rfl g483 rfl) (SOps.sub (st' := ⟨[(1, .c (vI a1_energy)), (2, .c (vR a2_plan)), (3, .c (.ptr 0 0)), (7, ci t34_406), (8, .c (.ptr 1 0)), (9, ci sum_467), (11, ci ((a2_plan.getD t34_406.toNat ([])).getD t53_468.toNat 0)), (32, .c (vSDemand a0_p.Demands)), (33, ci t33_405), (34, ci t34_406), (51, .c (vI (a2_plan.getD t34_406.toNat ([])))), (52, ci (((a2_plan.getD t34_406.toNat ([])).length : Int))), (53, ci t53_468), (79, .c (.bool ((!c_485))))], [.box (bSProblem a0_p), .box (bSDemand (a0_p.Demands.getD t34_406.toNat dSDemand))]⟩) (sub_gen [0, 1] rfl rfl (zall rfl rfl) ⟨bx rfl rfl rfl, bx rfl rfl rfl, trivial⟩) (SOps.nil ?_)))
                    rcases cond_out h with ⟨g487, h⟩ | ⟨g487, h⟩
                    · refine SCode.cond_t rfl g487 (SCode.seq ?_)
                      refine SCode.region (show SOps _ _ _ [0] _ _ from ?_)
                      refine sa rfl rfl rfl rfl rfl (SOps.nil (SCode.ret ?_))
                      obtain rfl := Option.some.inj h
                      exact ⟨⟨[(6, .c (.bool false))], []⟩, _, sub_gen [] rfl rfl (zall rfl rfl) trivial, resA1 (v := .c (.bool false)) rfl rfl, rfl⟩
                    refine SCode.cond_f rfl g487 (SCode.skip ?_)
                    exact ⟨(), h, sub_gen [0, 1] rfl rfl (zall rfl rfl) ⟨bx rfl rfl rfl, bx rfl rfl rfl, trivial⟩⟩
                  refine SCode.region (show SOps _ _ _ [0, 1, 2, 3, 4, 5, 6, 7, 8, 9, 10, 11, 12, 13, 14, 15, 16, 17, 18, 19, 20, 21] _ _ from ?_)
                  refine sm rfl rfl rfl rfl rfl (sq rfl rfl rfl (q_lss rfl rfl rfl) (sm rfl rfl rfl rfl rfl (SOps.q rfl (.guard 2 60 false rfl rfl (gF g482)) rfl (q_move rfl rfl) (SOps.q rfl (.guard 2 60 false rfl rfl (gF g482)) rfl (q_field_ptr rfl rfl fd39_1) (SOps.q rfl (.guard 2 60 false rfl rfl (gF g482)) rfl (q_load_ptr rfl rfl rfl rfl ty3) (SOps.q rfl (.guard 2 60 false rfl rfl (gF g482)) rfl (q_field_ptr rfl rfl fd26_3) (SOps.q rfl (.guard 2 60 false rfl rfl (gF g482)) rfl (q_load_ptr rfl rfl rfl rfl ty3) (SOps.q rfl (.guard 2 60 false rfl rfl (gF g482)) rfl (q_mul rfl rfl rfl) (SOps.q rfl (.guard 2 60 false rfl rfl (gF g482)) rfl (q_gtr rfl rfl rfl) ?_)))))))))
                  refine sq rfl rfl rfl (q_pick_f rfl rfl g482 rfl) (sm rfl rfl rfl rfl rfl (SOps.q rfl (.guard 11 69 false rfl rfl (gF g483)) rfl (q_move rfl rfl) (SOps.q rfl (.guard 11 69 false rfl rfl (gF g483)) rfl (q_gtr rfl rfl rfl) (SOps.q rfl (.guard 11 69 false rfl rfl (gF g483)) rfl (q_move rfl rfl) (SOps.skip rfl 14 72 true rfl rfl (.inl (gF g484)) rfl (SOps.skip rfl 14 72 true rfl rfl (.inl (gF g484)) rfl (SOps.skip rfl 14 72 true rfl rfl (.inl (gF g484)) rfl (SOps.skip rfl 14 72 true rfl rfl (.inl (gF g484)) rfl (SOps.skip rfl 14 72 true rfl rfl (.inl (gF g484)) rfl ?_)))))))))
                  refine SOps.q rfl (.guard 11 69 false rfl rfl (gF g483)) rfl (q_pick_f rfl rfl g484 rfl) (sq rfl rfl rfl (q_pick_f rfl rfl g483 rfl) (SOps.sub (st' := ⟨[(1, .c (vI a1_energy)), (2, .c (vR a2_plan)), (3, .c (.ptr 0 0)), (7, ci t34_406), (8, .c (.ptr 1 0)), (9, ci sum_467), (11, ci ((a2_plan.getD t34_406.toNat ([])).getD t53_468.toNat 0)), (32, .c (vSDemand a0_p.Demands)), (33, ci t33_405), (34, ci t34_406), (51, .c (vI (a2_plan.getD t34_406.toNat ([])))), (52, ci (((a2_plan.getD t34_406.toNat ([])).length : Int))), (53, ci t53_468), (79, .c (.bool false))], [.box (bSProblem a0_p), .box (bSDemand (a0_p.Demands.getD t34_406.toNat dSDemand))]⟩) (sub_gen [0, 1] rfl rfl (zall rfl rfl) ⟨bx rfl rfl rfl, bx rfl rfl rfl, trivial⟩) (SOps.nil (SCode.cond_f rfl rfl (SCode.skip ?_)))))
                  exact ⟨(), h, sub_gen [0, 1] rfl rfl (zall rfl rfl) ⟨bx rfl rfl rfl, bx rfl rfl rfl, trivial⟩⟩
                rintro ⟨⟩ h
                show SCode _ _ _ ⟨[(1, .c (vI a1_energy)), (2, .c (vR a2_plan)), (3, .c (.ptr 0 0)), (7, ci t34_406), (8, .c (.ptr 1 0)), (9, ci sum_467), (11, ci ((a2_plan.getD t34_406.toNat ([])).getD t53_468.toNat 0)), (32, .c (vSDemand a0_p.Demands)), (33, ci t33_405), (34, ci t34_406), (51, .c (vI (a2_plan.getD t34_406.toNat ([])))), (52, ci (((a2_plan.getD t34_406.toNat ([])).length : Int))), (53, ci t53_468)], [.box (bSProblem a0_p), .box (bSDemand (a0_p.Demands.getD t34_406.toNat dSDemand))]⟩ _
                replace h : chargenetref18_Check_p481 a2_plan t34_406 sum_467 t53_468 (fun sum_467 t53_468 => chargenetref18_Check_l478 F a0_p a1_energy a2_plan t33_405 t34_406 (fun t33_405 t34_406 => chargenetref18_Check_l447 F a0_p a1_energy a2_plan n_447 t33_405 t34_406) n_478 sum_467 t53_468) = some r := h
                unfold chargenetref18_Check_p481 at h
                refine SCode.region (show SOps _ _ _ [0, 1, 2, 3] _ _ from ?_)
                refine sm rfl rfl rfl rfl rfl (sm rfl rfl rfl rfl rfl (sq rfl rfl rfl (q_add rfl rfl rfl) (sa rfl rfl rfl rfl rfl (SOps.nil ?_))))
                refine SCode.region (show SOps _ _ _ [0, 1] _ _ from ?_)
                refine sq rfl rfl rfl (q_add rfl rfl rfl) (sm rfl rfl rfl rfl rfl (SOps.nil ?_))
                exact ⟨(n_478, (IntKind.wrap .i64 (sum_467 + (a2_plan.getD t34_406.toNat ([])).getD t53_468.toNat 0), IntKind.wrap .i64 (t53_468 + 1))), h, Nat.lt_succ_self n_478, sub_gen [0, 1] rfl rfl (zall rfl rfl) ⟨bx rfl rfl rfl, bx rfl rfl rfl, trivial⟩⟩
              refine SCode.cond_f rfl g479 (SCode.exit ?_)
              exact ⟨sum_467, h, sub_gen [0] rfl rfl (zall rfl rfl) ⟨bx rfl rfl rfl, trivial⟩⟩
          rintro sum_453 h
          show SCode _ _ _ ⟨[(1, .c (vI a1_energy)), (2, .c (vR a2_plan)), (3, .c (.ptr 0 0)), (7, ci t34_406), (9, ci sum_453), (32, .c (vSDemand a0_p.Demands)), (33, ci t33_405), (34, ci t34_406)], [.box (bSProblem a0_p)]⟩ _
          replace h : chargenetref18_Check_p456 a1_energy t33_405 t34_406 (fun t33_405 t34_406 => chargenetref18_Check_l447 F a0_p a1_energy a2_plan n_447 t33_405 t34_406) sum_453 = some r := h
          unfold chargenetref18_Check_p456 at h
          refine SCode.seq ?_
          obtain ⟨g454, h⟩ := guard_out h
          refine SCode.region (show SOps _ _ _ [0, 1, 2, 3, 4, 5] _ _ from ?_)
          refine sm rfl rfl rfl rfl rfl (sm rfl rfl rfl rfl rfl (sm rfl rfl rfl rfl rfl (sq rfl rfl rfl (q_index_vec rfl rfl rfl sl22 rfl g454.1 g454.2) (sq rfl rfl rfl (q_load_eptr rfl rfl ty3) (sq rfl rfl rfl (q_neq rfl rfl rfl) (SOps.nil ?_))))))
          rcases cond_out h with ⟨g455, h⟩ | ⟨g455, h⟩
          · refine SCode.cond_t rfl g455 (SCode.seq ?_)
            refine SCode.region (show SOps _ _ _ [0] _ _ from ?_)
            refine sa rfl rfl rfl rfl rfl (SOps.nil (SCode.ret ?_))
            obtain rfl := Option.some.inj h
            exact ⟨⟨[(6, .c (.bool false))], []⟩, _, sub_gen [] rfl rfl (zall rfl rfl) trivial, resA1 (v := .c (.bool false)) rfl rfl, rfl⟩
          refine SCode.cond_f rfl g455 (SCode.skip ?_)
          exact ⟨(), h, sub_gen [0] rfl rfl (zall rfl rfl) ⟨bx rfl rfl rfl, trivial⟩⟩
        rintro ⟨⟩ h
        show SCode _ _ _ ⟨[(1, .c (vI a1_energy)), (2, .c (vR a2_plan)), (3, .c (.ptr 0 0)), (32, .c (vSDemand a0_p.Demands)), (33, ci t33_405), (34, ci t34_406)], [.box (bSProblem a0_p)]⟩ _
        replace h : chargenetref18_Check_p449 t33_405 t34_406 (fun t33_405 t34_406 => chargenetref18_Check_l447 F a0_p a1_energy a2_plan n_447 t33_405 t34_406) = some r := h
        unfold chargenetref18_Check_p449 at h
        refine SCode.region (show SOps _ _ _ [0, 1] _ _ from ?_)
        refine sq rfl rfl rfl (q_add rfl rfl rfl) (sm rfl rfl rfl rfl rfl (SOps.nil ?_))
        exact ⟨(n_447, (t33_405, IntKind.wrap .i64 (t34_406 + 1))), h, Nat.lt_succ_self n_447, sub_gen [0] rfl rfl (zall rfl rfl) ⟨bx rfl rfl rfl, trivial⟩⟩
      refine SCode.cond_f rfl g448 (SCode.exit ?_)
      exact ⟨(), h, sub_gen [0] rfl rfl (zall rfl rfl) ⟨bx rfl rfl rfl, trivial⟩⟩
  rintro ⟨⟩ h
  show SCode _ _ _ ⟨[(2, .c (vR a2_plan)), (3, .c (.ptr 0 0))], [.box (bSProblem a0_p)]⟩ _
  replace h : chargenetref18_Check_p363 F a0_p a2_plan = some r := h
  unfold chargenetref18_Check_p363 at h
  refine SCode.join (σ := Unit) (S := fun s => ⟨[], []⟩) (g := fun s => chargenetref18_Check_p5 = some r) ?_ ?_
  rotate_left
  · refine SCode.seq ?_
    refine SCode.region (show SOps _ _ _ [0, 1, 2, 3] _ _ from ?_)
    refine sq rfl rfl rfl (q_field_ptr rfl rfl fd26_1) (sq rfl rfl rfl (q_load_ptr rfl rfl rfl rfl ty23) (sq rfl rfl rfl (q_len_vec rfl rfl sl23) (sm rfl rfl rfl rfl rfl (SOps.nil (SCode.block (SCode.sub (st' := ⟨[(2, .c (vR a2_plan)), (3, .c (.ptr 0 0)), (92, .c (vR a0_p.Caps)), (93, ci (((a0_p.Caps).length : Int))), (94, ci 0)], [.box (bSProblem a0_p)]⟩) (sub_gen [0] rfl rfl (zall rfl rfl) ⟨bx rfl rfl rfl, trivial⟩) ?_))))))
    refine (SCode.loop (σ := Nat × (Int × Int)) (S := fun s => ⟨[(2, .c (vR a2_plan)), (3, .c (.ptr 0 0)), (92, .c (vR a0_p.Caps)), (93, ci s.2.1), (94, ci s.2.2)], [.box (bSProblem a0_p)]⟩) (g := fun s => chargenetref18_Check_l245 F a0_p a2_plan s.1 s.2.1 s.2.2 = some r) (μ := fun s => s.1) (F, (((a0_p.Caps).length : Int), 0)) h ?_)
    rintro ⟨n_245, ⟨t93_126, t94_127⟩⟩ h
    replace h : chargenetref18_Check_l245 F a0_p a2_plan n_245 t93_126 t94_127 = some r := h
    show SCode _ _ _ ⟨[(2, .c (vR a2_plan)), (3, .c (.ptr 0 0)), (92, .c (vR a0_p.Caps)), (93, ci t93_126), (94, ci t94_127)], [.box (bSProblem a0_p)]⟩ _
    cases n_245 with
    | zero => cases h
    | succ n_245 =>
      replace h : chargenetref18_Check_b245 F a0_p a2_plan (fun t93_126 t94_127 => chargenetref18_Check_l245 F a0_p a2_plan n_245 t93_126 t94_127) t93_126 t94_127 = some r := h
      unfold chargenetref18_Check_b245 at h
      refine SCode.seq ?_
      refine SCode.region (show SOps _ _ _ [0] _ _ from ?_)
      refine sq rfl rfl rfl (q_lss rfl rfl rfl) (SOps.nil (SCode.seq ?_))
      rcases cond_out h with ⟨g246, h⟩ | ⟨g246, h⟩
      · refine SCode.cond_t rfl g246 (SCode.skip ?_)
        refine SCode.join (σ := Unit) (S := fun s => ⟨[(2, .c (vR a2_plan)), (3, .c (.ptr 0 0)), (92, .c (vR a0_p.Caps)), (93, ci t93_126), (94, ci t94_127)], [.box (bSProblem a0_p)]⟩) (g := fun s => chargenetref18_Check_p247 t93_126 t94_127 (fun t93_126 t94_127 => chargenetref18_Check_l245 F a0_p a2_plan n_245 t93_126 t94_127) = some r) ?_ ?_
        rotate_left
        · refine SCode.block (SCode.seq ?_)
          obtain ⟨g248, h⟩ := guard_out h
          refine SCode.region (show SOps _ _ _ [0, 1, 2, 3, 4] _ _ from ?_)
          refine sm rfl rfl rfl rfl rfl (sq rfl rfl rfl (q_index_vec rfl rfl rfl sl23 rfl g248.1 g248.2) (sq rfl rfl rfl (q_load_eptr rfl rfl ty22) (sa rfl rfl rfl rfl rfl (sa rfl rfl rfl rfl rfl (SOps.nil (SCode.seq ?_))))))
          refine SCode.region (show SOps _ _ _ [0, 1, 2] _ _ from ?_)
          refine sm rfl rfl rfl rfl rfl (sq rfl rfl rfl (q_len_vec rfl rfl sl22) (sm rfl rfl rfl rfl rfl (SOps.nil (SCode.block (SCode.sub (st' := ⟨[(2, .c (vR a2_plan)), (3, .c (.ptr 0 0)), (12, ci t94_127), (92, .c (vR a0_p.Caps)), (93, ci t93_126), (94, ci t94_127), (99, .c (vI (a0_p.Caps.getD t94_127.toNat ([])))), (100, ci (((a0_p.Caps.getD t94_127.toNat ([])).length : Int))), (101, ci 0)], [.box (bSProblem a0_p)]⟩) (sub_gen [0] rfl rfl (zall rfl rfl) ⟨bx rfl rfl rfl, trivial⟩) ?_)))))
          refine (SCode.loop (σ := Nat × ((List Int) × Int × Int)) (S := fun s => ⟨[(2, .c (vR a2_plan)), (3, .c (.ptr 0 0)), (12, ci t94_127), (92, .c (vR a0_p.Caps)), (93, ci t93_126), (94, ci t94_127), (99, .c (vI s.2.1)), (100, ci s.2.2.1), (101, ci s.2.2.2)], [.box (bSProblem a0_p)]⟩) (g := fun s => chargenetref18_Check_l326 F a0_p a2_plan t93_126 t94_127 (fun t93_126 t94_127 => chargenetref18_Check_l245 F a0_p a2_plan n_245 t93_126 t94_127) s.1 s.2.1 s.2.2.1 s.2.2.2 = some r) (μ := fun s => s.1) (F, (a0_p.Caps.getD t94_127.toNat ([]), ((a0_p.Caps.getD t94_127.toNat ([])).length : Int), 0)) h ?_)
          rintro ⟨n_326, ⟨t99_287, t100_288, t101_289⟩⟩ h
          replace h : chargenetref18_Check_l326 F a0_p a2_plan t93_126 t94_127 (fun t93_126 t94_127 => chargenetref18_Check_l245 F a0_p a2_plan n_245 t93_126 t94_127) n_326 t99_287 t100_288 t101_289 = some r := h
          show SCode _ _ _ ⟨[(2, .c (vR a2_plan)), (3, .c (.ptr 0 0)), (12, ci t94_127), (92, .c (vR a0_p.Caps)), (93, ci t93_126), (94, ci t94_127), (99, .c (vI t99_287)), (100, ci t100_288), (101, ci t101_289)], [.box (bSProblem a0_p)]⟩ _
          cases n_326 with
          | zero => cases h
          | succ n_326 =>
            replace h : chargenetref18_Check_b326 F a0_p a2_plan t93_126 t94_127 (fun t93_126 t94_127 => chargenetref18_Check_l245 F a0_p a2_plan n_245 t93_126 t94_127) (fun t99_287 t100_288 t101_289 => chargenetref18_Check_l326 F a0_p a2_plan t93_126 t94_127 (fun t93_126 t94_127 => chargenetref18_Check_l245 F a0_p a2_plan n_245 t93_126 t94_127) n_326 t99_287 t100_288 t101_289) t99_287 t100_288 t101_289 = some r := h
            unfold chargenetref18_Check_b326 at h
            refine SCode.seq ?_
            refine SCode.region (show SOps _ _ _ [0] _ _ from ?_)
            refine sq rfl rfl rfl (q_lss rfl rfl rfl) (SOps.nil (SCode.seq ?_))
            rcases cond_out h with ⟨g327, h⟩ | ⟨g327, h⟩
            · refine SCode.cond_t rfl g327 (SCode.skip ?_)
              refine SCode.join (σ := Unit) (S := fun s => ⟨[(2, .c (vR a2_plan)), (3, .c (.ptr 0 0)), (12, ci t94_127), (92, .c (vR a0_p.Caps)), (93, ci t93_126), (94, ci t94_127), (99, .c (vI t99_287)), (100, ci t100_288), (101, ci t101_289)], [.box (bSProblem a0_p)]⟩) (g := fun s => chargenetref18_Check_p328 t99_287 t100_288 t101_289 (fun t99_287 t100_288 t101_289 => chargenetref18_Check_l326 F a0_p a2_plan t93_126 t94_127 (fun t93_126 t94_127 => chargenetref18_Check_l245 F a0_p a2_plan n_245 t93_126 t94_127) n_326 t99_287 t100_288 t101_289) = some r) ?_ ?_
              rotate_left
              · refine SCode.block (SCode.seq ?_)
                obtain ⟨g329, h⟩ := guard_out h
                refine SCode.region (show SOps _ _ _ [0, 1, 2, 3, 4] _ _ from ?_)
                refine sm rfl rfl rfl rfl rfl (sq rfl rfl rfl (q_index_vec rfl rfl rfl sl22 rfl g329.1 g329.2) (sq rfl rfl rfl (q_load_eptr rfl rfl ty3) (sa rfl rfl rfl rfl rfl (sa rfl rfl rfl rfl rfl (SOps.nil (SCode.seq ?_))))))
                refine SCode.region (show SOps _ _ _ [0] _ _ from ?_)
                refine sa rfl rfl rfl rfl rfl (SOps.nil ?_)
                refine SCode.join (σ := Int) (S := fun s => ⟨[(2, .c (vR a2_plan)), (3, .c (.ptr 0 0)), (12, ci t94_127), (15, ci (t99_287.getD t101_289.toNat 0)), (16, ci s), (92, .c (vR a0_p.Caps)), (93, ci t93_126), (94, ci t94_127), (99, .c (vI t99_287)), (100, ci t100_288), (101, ci t101_289)], [.box (bSProblem a0_p)]⟩) (g := fun s => chargenetref18_Check_p332 a0_p t99_287 t100_288 t101_289 (fun t99_287 t100_288 t101_289 => chargenetref18_Check_l326 F a0_p a2_plan t93_126 t94_127 (fun t93_126 t94_127 => chargenetref18_Check_l245 F a0_p a2_plan n_245 t93_126 t94_127) n_326 t99_287 t100_288 t101_289) s = some r) ?_ ?_
                rotate_left
                · refine SCode.seq ?_
                  refine SCode.region (show SOps _ _ _ [0, 1, 2, 3] _ _ from ?_)
                  refine sq rfl rfl rfl (q_field_ptr rfl rfl fd26_4) (sq rfl rfl rfl (q_load_ptr rfl rfl rfl rfl ty24) (sq rfl rfl rfl (q_len_vec rfl rfl sl24) (sm rfl rfl rfl rfl rfl (SOps.nil (SCode.block (SCode.sub (st' := ⟨[(2, .c (vR a2_plan)), (3, .c (.ptr 0 0)), (12, ci t94_127), (14, ci t101_289), (15, ci (t99_287.getD t101_289.toNat 0)), (16, ci 0), (92, .c (vR a0_p.Caps)), (93, ci t93_126), (94, ci t94_127), (99, .c (vI t99_287)), (100, ci t100_288), (101, ci t101_289), (107, .c (vSDemand a0_p.Demands)), (108, ci (((a0_p.Demands).length : Int))), (109, ci 0)], [.box (bSProblem a0_p)]⟩) (sub_gen [0] rfl rfl (zall rfl rfl) ⟨bx rfl rfl rfl, trivial⟩) ?_))))))
                  refine (SCode.loop (σ := Nat × (Int × Int)) (S := fun s => ⟨[(2, .c (vR a2_plan)), (3, .c (.ptr 0 0)), (12, ci t94_127), (14, ci t101_289), (15, ci (t99_287.getD t101_289.toNat 0)), (16, ci s.2.1), (92, .c (vR a0_p.Caps)), (93, ci t93_126), (94, ci t94_127), (99, .c (vI t99_287)), (100, ci t100_288), (101, ci t101_289), (107, .c (vSDemand a0_p.Demands)), (108, ci (((a0_p.Demands).length : Int))), (109, ci s.2.2)], [.box (bSProblem a0_p)]⟩) (g := fun s => chargenetref18_Check_l353 F a0_p a2_plan t94_127 t99_287 t100_288 t101_289 (fun t99_287 t100_288 t101_289 => chargenetref18_Check_l326 F a0_p a2_plan t93_126 t94_127 (fun t93_126 t94_127 => chargenetref18_Check_l245 F a0_p a2_plan n_245 t93_126 t94_127) n_326 t99_287 t100_288 t101_289) s.1 s.2.1 s.2.2 = some r) (μ := fun s => s.1) (F, (0, 0)) h ?_)
                  rintro ⟨n_353, ⟨sum_342, t109_343⟩⟩ h
                  replace h : chargenetref18_Check_l353 F a0_p a2_plan t94_127 t99_287 t100_288 t101_289 (fun t99_287 t100_288 t101_289 => chargenetref18_Check_l326 F a0_p a2_plan t93_126 t94_127 (fun t93_126 t94_127 => chargenetref18_Check_l245 F a0_p a2_plan n_245 t93_126 t94_127) n_326 t99_287 t100_288 t101_289) n_353 sum_342 t109_343 = some r := h
                  show SCode _ _ _ ⟨[(2, .c (vR a2_plan)), (3, .c (.ptr 0 0)), (12, ci t94_127), (14, ci t101_289), (15, ci (t99_287.getD t101_289.toNat 0)), (16, ci sum_342), (92, .c (vR a0_p.Caps)), (93, ci t93_126), (94, ci t94_127), (99, .c (vI t99_287)), (100, ci t100_288), (101, ci t101_289), (107, .c (vSDemand a0_p.Demands)), (108, ci (((a0_p.Demands).length : Int))), (109, ci t109_343)], [.box (bSProblem a0_p)]⟩ _
                  cases n_353 with
                  | zero => cases h
                  | succ n_353 =>
                    replace h : chargenetref18_Check_b353 F a0_p a2_plan t94_127 t99_287 t100_288 t101_289 (fun t99_287 t100_288 t101_289 => chargenetref18_Check_l326 F a0_p a2_plan t93_126 t94_127 (fun t93_126 t94_127 => chargenetref18_Check_l245 F a0_p a2_plan n_245 t93_126 t94_127) n_326 t99_287 t100_288 t101_289) (fun sum_342 t109_343 => chargenetref18_Check_l353 F a0_p a2_plan t94_127 t99_287 t100_288 t101_289 (fun t99_287 t100_288 t101_289 => chargenetref18_Check_l326 F a0_p a2_plan t93_126 t94_127 (fun t93_126 t94_127 => chargenetref18_Check_l245 F a0_p a2_plan n_245 t93_126 t94_127) n_326 t99_287 t100_288 t101_289) n_353 sum_342 t109_343) sum_342 t109_343 = some r := h
                    unfold chargenetref18_Check_b353 at h
                    refine SCode.seq ?_
                    refine SCode.region (show SOps _ _ _ [0] _ _ from ?_)
                    refine sq rfl rfl rfl (q_lss rfl rfl rfl) (SOps.nil (SCode.seq ?_))
                    rcases cond_out h with ⟨g354, h⟩ | ⟨g354, h⟩
                    · refine SCode.cond_t rfl g354 (SCode.skip ?_)
                      refine SCode.join (σ := Int) (S := fun s => ⟨[(2, .c (vR a2_plan)), (3, .c (.ptr 0 0)), (12, ci t94_127), (14, ci t101_289), (15, ci (t99_287.getD t101_289.toNat 0)), (16, ci s), (92, .c (vR a0_p.Caps)), (93, ci t93_126), (94, ci t94_127), (99, .c (vI t99_287)), (100, ci t100_288), (101, ci t101_289), (107, .c (vSDemand a0_p.Demands)), (108, ci (((a0_p.Demands).length : Int))), (109, ci t109_343)], [.box (bSProblem a0_p)]⟩) (g := fun s => chargenetref18_Check_p356 t109_343 (fun sum_342 t109_343 => chargenetref18_Check_l353 F a0_p a2_plan t94_127 t99_287 t100_288 t101_289 (fun t99_287 t100_288 t101_289 => chargenetref18_Check_l326 F a0_p a2_plan t93_126 t94_127 (fun t93_126 t94_127 => chargenetref18_Check_l245 F a0_p a2_plan n_245 t93_126 t94_127) n_326 t99_287 t100_288 t101_289) n_353 sum_342 t109_343) s = some r) ?_ ?_
                      rotate_left
                      · refine SCode.block (SCode.seq ?_)
                        obtain ⟨g357, h⟩ := guard_out h
                        refine SCode.region (show SOps _ _ _ [0, 1, 2, 3, 4, 5] _ _ from ?_)
                        refine sm rfl rfl rfl rfl rfl (sq rfl rfl rfl (q_index_vec rfl rfl rfl sl24 rfl g357.1 g357.2) (sq rfl rfl rfl (q_load_eptr_all rfl rfl rfl ty39) (se rfl rfl (e_alloc rfl rfl rfl z39) (sa rfl rfl rfl rfl rfl (se rfl rfl (e_store_box rfl rfl rfl rfl rfl ty39 rfl rfl rfl rfl) (SOps.nil (SCode.seq ?_)))))))
                        obtain ⟨c_358, g359, h⟩ := bind_out h
                        try dsimp only at h
                        refine SCode.region (show SOps _ _ _ [0, 1, 2, 3, 4] _ _ from ?_)
                        refine sq rfl rfl rfl (q_load_ptr_all rfl rfl rfl rfl rfl ty26) (sq rfl rfl rfl (q_field_ptr rfl rfl fd39_0) (sq rfl rfl rfl (q_load_ptr rfl rfl rfl rfl ty3) (sm rfl rfl rfl rfl rfl (sq rfl rfl rfl (q_call (chargenetref18_Below_ok F a0_p ((a0_p.Demands.getD t109_343.toNat dSDemand).Feeder) t101_289 c_358 g359) [] rfl fn39 ⟨⟨rfl, rfl⟩, ⟨_, rfl, .inl ⟨rfl, rfl⟩⟩, ⟨_, rfl, .inl ⟨rfl, rfl⟩⟩, trivial⟩ (.inl rfl)) (SOps.nil ?_)))))
                        rcases cond_out h with ⟨g360, h⟩ | ⟨g360, h⟩
                        · refine SCode.cond_t rfl g360 ?_
                          obtain ⟨g361, h⟩ := guard_out h
                          obtain ⟨g362, h⟩ := guard_out h
                          refine SCode.region (show SOps _ _ _ [0, 1, 2, 3, 4, 5, 6, 7, 8, 9] _ _ from ?_)
                          refine sm rfl rfl rfl rfl rfl (sm rfl rfl rfl rfl rfl (sm rfl rfl rfl rfl rfl (sq rfl rfl rfl (q_index_vec rfl rfl rfl sl23 rfl g361.1 g361.2) (sq rfl rfl rfl (q_load_eptr rfl rfl ty22) (sm rfl rfl rfl rfl rfl (sq rfl rfl rfl (q_index_vec rfl rfl rfl sl22 rfl g362.1 g362.2) (sq rfl rfl rfl (q_load_eptr rfl rfl ty3) (sq rfl rfl rfl (q_add rfl rfl rfl) (sa rfl rfl rfl rfl rfl ?_)))))))))
                          refine SOps.sub (st' := ⟨[(2, .c (vR a2_plan)), (3, .c (.ptr 0 0)), (12, ci t94_127), (14, ci t101_289), (15, ci (t99_287.getD t101_289.toNat 0)), (16, ci (IntKind.wrap .i64 (sum_342 + (a2_plan.getD t109_343.toNat ([])).getD t94_127.toNat 0))), (92, .c (vR a0_p.Caps)), (93, ci t93_126), (94, ci t94_127), (99, .c (vI t99_287)), (100, ci t100_288), (101, ci t101_289), (107, .c (vSDemand a0_p.Demands)), (108, ci (((a0_p.Demands).length : Int))), (109, ci t109_343)], [.box (bSProblem a0_p)]⟩) (sub_gen [0] rfl rfl (zall rfl rfl) ⟨bx rfl rfl rfl, trivial⟩) (SOps.nil ?_)
                          exact ⟨IntKind.wrap .i64 (sum_342 + (a2_plan.getD t109_343.toNat ([])).getD t94_127.toNat 0), h, sub_gen [0] rfl rfl (zall rfl rfl) ⟨bx rfl rfl rfl, trivial⟩⟩
                        refine SCode.cond_f rfl g360 (SCode.skip ?_)
                        exact ⟨sum_342, h, sub_gen [0] rfl rfl (zall rfl rfl) ⟨bx rfl rfl rfl, trivial⟩⟩
                      rintro sum_355 h
                      show SCode _ _ _ ⟨[(2, .c (vR a2_plan)), (3, .c (.ptr 0 0)), (12, ci t94_127), (14, ci t101_289), (15, ci (t99_287.getD t101_289.toNat 0)), (16, ci sum_355), (92, .c (vR a0_p.Caps)), (93, ci t93_126), (94, ci t94_127), (99, .c (vI t99_287)), (100, ci t100_288), (101, ci t101_289), (107, .c (vSDemand a0_p.Demands)), (108, ci (((a0_p.Demands).length : Int))), (109, ci t109_343)], [.box (bSProblem a0_p)]⟩ _
                      replace h : chargenetref18_Check_p356 t109_343 (fun sum_342 t109_343 => chargenetref18_Check_l353 F a0_p a2_plan t94_127 t99_287 t100_288 t101_289 (fun t99_287 t100_288 t101_289 => chargenetref18_Check_l326 F a0_p a2_plan t93_126 t94_127 (fun t93_126 t94_127 => chargenetref18_Check_l245 F a0_p a2_plan n_245 t93_126 t94_127) n_326 t99_287 t100_288 t101_289) n_353 sum_342 t109_343) sum_355 = some r := h
                      unfold chargenetref18_Check_p356 at h
                      refine SCode.region (show SOps _ _ _ [0, 1] _ _ from ?_)
                      refine sq rfl rfl rfl (q_add rfl rfl rfl) (sm rfl rfl rfl rfl rfl (SOps.nil ?_))
                      exact ⟨(n_353, (sum_355, IntKind.wrap .i64 (t109_343 + 1))), h, Nat.lt_succ_self n_353, sub_gen [0] rfl rfl (zall rfl rfl) ⟨bx rfl rfl rfl, trivial⟩⟩
                    refine SCode.cond_f rfl g354 (SCode.exit ?_)
                    exact ⟨sum_342, h, sub_gen [0] rfl rfl (zall rfl rfl) ⟨bx rfl rfl rfl, trivial⟩⟩
                rintro sum_330 h
                show SCode _ _ _ ⟨[(2, .c (vR a2_plan)), (3, .c (.ptr 0 0)), (12, ci t94_127), (15, ci (t99_287.getD t101_289.toNat 0)), (16, ci sum_330), (92, .c (vR a0_p.Caps)), (93, ci t93_126), (94, ci t94_127), (99, .c (vI t99_287)), (100, ci t100_288), (101, ci t101_289)], [.box (bSProblem a0_p)]⟩ _
                replace h : chargenetref18_Check_p332 a0_p t99_287 t100_288 t101_289 (fun t99_287 t100_288 t101_289 => chargenetref18_Check_l326 F a0_p a2_plan t93_126 t94_127 (fun t93_126 t94_127 => chargenetref18_Check_l245 F a0_p a2_plan n_245 t93_126 t94_127) n_326 t99_287 t100_288 t101_289) sum_330 = some r := h
                unfold chargenetref18_Check_p332 at h
                refine SCode.seq ?_
                refine SCode.region (show SOps _ _ _ [0, 1, 2, 3, 4, 5] _ _ from ?_)
                refine sm rfl rfl rfl rfl rfl (sm rfl rfl rfl rfl rfl (sq rfl rfl rfl (q_field_ptr rfl rfl fd26_3) (sq rfl rfl rfl (q_load_ptr rfl rfl rfl rfl ty3) (sq rfl rfl rfl (q_mul rfl rfl rfl) (sq rfl rfl rfl (q_gtr rfl rfl rfl) (SOps.nil ?_))))))
                rcases cond_out h with ⟨g331, h⟩ | ⟨g331, h⟩
                · refine SCode.cond_t rfl g331 (SCode.seq ?_)
                  refine SCode.region (show SOps _ _ _ [0] _ _ from ?_)
                  refine sa rfl rfl rfl rfl rfl (SOps.nil (SCode.ret ?_))
                  obtain rfl := Option.some.inj h
                  exact ⟨⟨[(6, .c (.bool false))], []⟩, _, sub_gen [] rfl rfl (zall rfl rfl) trivial, resA1 (v := .c (.bool false)) rfl rfl, rfl⟩
                refine SCode.cond_f rfl g331 (SCode.skip ?_)
                exact ⟨(), h, sub_gen [0] rfl rfl (zall rfl rfl) ⟨bx rfl rfl rfl, trivial⟩⟩
              rintro ⟨⟩ h
              show SCode _ _ _ ⟨[(2, .c (vR a2_plan)), (3, .c (.ptr 0 0)), (12, ci t94_127), (92, .c (vR a0_p.Caps)), (93, ci t93_126), (94, ci t94_127), (99, .c (vI t99_287)), (100, ci t100_288), (101, ci t101_289)], [.box (bSProblem a0_p)]⟩ _
              replace h : chargenetref18_Check_p328 t99_287 t100_288 t101_289 (fun t99_287 t100_288 t101_289 => chargenetref18_Check_l326 F a0_p a2_plan t93_126 t94_127 (fun t93_126 t94_127 => chargenetref18_Check_l245 F a0_p a2_plan n_245 t93_126 t94_127) n_326 t99_287 t100_288 t101_289) = some r := h
              unfold chargenetref18_Check_p328 at h
              refine SCode.region (show SOps _ _ _ [0, 1] _ _ from ?_)
              refine sq rfl rfl rfl (q_add rfl rfl rfl) (sm rfl rfl rfl rfl rfl (SOps.nil ?_))
              exact ⟨(n_326, (t99_287, t100_288, IntKind.wrap .i64 (t101_289 + 1))), h, Nat.lt_succ_self n_326, sub_gen [0] rfl rfl (zall rfl rfl) ⟨bx rfl rfl rfl, trivial⟩⟩
            refine SCode.cond_f rfl g327 (SCode.exit ?_)
            exact ⟨(), h, sub_gen [0] rfl rfl (zall rfl rfl) ⟨bx rfl rfl rfl, trivial⟩⟩
        rintro ⟨⟩ h
        show SCode _ _ _ ⟨[(2, .c (vR a2_plan)), (3, .c (.ptr 0 0)), (92, .c (vR a0_p.Caps)), (93, ci t93_126), (94, ci t94_127)], [.box (bSProblem a0_p)]⟩ _
        replace h : chargenetref18_Check_p247 t93_126 t94_127 (fun t93_126 t94_127 => chargenetref18_Check_l245 F a0_p a2_plan n_245 t93_126 t94_127) = some r := h
        unfold chargenetref18_Check_p247 at h
        refine SCode.region (show SOps _ _ _ [0, 1] _ _ from ?_)
        refine sq rfl rfl rfl (q_add rfl rfl rfl) (sm rfl rfl rfl rfl rfl (SOps.nil ?_))
        exact ⟨(n_245, (t93_126, IntKind.wrap .i64 (t94_127 + 1))), h, Nat.lt_succ_self n_245, sub_gen [0] rfl rfl (zall rfl rfl) ⟨bx rfl rfl rfl, trivial⟩⟩
      refine SCode.cond_f rfl g246 (SCode.exit ?_)
      exact ⟨(), h, sub_gen [] rfl rfl trivial trivial⟩
  rintro ⟨⟩ h
  show SCode _ _ _ ⟨[], []⟩ _
  replace h : chargenetref18_Check_p5 = some r := h
  unfold chargenetref18_Check_p5 at h
  refine SCode.seq ?_
  refine SCode.region (show SOps _ _ _ [0] _ _ from ?_)
  refine sa rfl rfl rfl rfl rfl (SOps.nil (SCode.ret ?_))
  obtain rfl := Option.some.inj h
  exact ⟨⟨[(6, .c (.bool true))], []⟩, _, sub_gen [] rfl rfl (zall rfl rfl) trivial, resA1 (v := .c (.bool true)) rfl rfl, rfl⟩
end Go.Proofs.Ytfefnffdocmlmaa.W
