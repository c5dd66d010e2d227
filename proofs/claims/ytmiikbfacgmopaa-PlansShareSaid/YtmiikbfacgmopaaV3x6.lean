/- Written by a program of ours (wip/eng/gen.py): the functions compute their models. -/
import Derived.Test.YtmiikbfacgmopaaFacts
import Derived.Test.YtmiikbfacgmopaaV3x5
namespace Go.Proofs.Ytmiikbfacgmopaa.W
open Go Go.Proofs Go.Proofs.Ytmiikbfacgmopaa.E Go.Proofs.Ytmiikbfacgmopaa.M
set_option linter.unusedVariables false
set_option maxRecDepth 100000
set_option maxHeartbeats 8000000
theorem chargenettop_PlansShare_ok (F : Nat) (a0_watts : Int) (a1_minutes : Int) (a2_energy : List Int) (r : Bool) (h : chargenettop_PlansShare F a0_watts a1_minutes a2_energy = some r) :
  SFun Try.prog 3 [] [ci a0_watts, ci a1_minutes, .c (vI a2_energy)] (fun x _ => x = .c (.bool r)) := by
 refine SFun.of (n := 117) Try.func3 rfl rfl rfl ?_
 unfold chargenettop_PlansShare at h
 show SCode _ _ _ ⟨[(0, ci a0_watts), (1, ci a1_minutes), (2, .c (vI a2_energy))], []⟩ _
 refine SCode.seq (SCode.region (sa rfl rfl (SOps.nil (SCode.seq (SCode.seq ?_)))))
 rcases cond_out h with ⟨g1, h⟩ | ⟨g1, h⟩
 ·refine SCode.region (sm rfl rfl (sq rfl rfl (q_len_vec rfl rfl sl22) (sq rfl rfl (q_gtr rfl rfl rfl) (sm rfl rfl (SOps.skip rfl 3 19 false rfl rfl (.inl (gT g1)) rfl (SOps.skip rfl 3 19 false rfl rfl (.inl (gT g1)) rfl (sq rfl rfl (q_pick_t rfl rfl g1 rfl) (sm rfl rfl (SOps.skip rfl 7 23 false rfl rfl (.inl rfl) rfl (SOps.skip rfl 7 23 false rfl rfl (.inl rfl) rfl (sq rfl rfl (q_pick_t rfl rfl rfl rfl) (sm rfl rfl (SOps.skip rfl 11 27 false rfl rfl (.inl rfl) rfl (SOps.skip rfl 11 27 false rfl rfl (.inl rfl) rfl (sq rfl rfl (q_pick_t rfl rfl rfl rfl) ?_)))))))))))))))
  refine sm rfl rfl (SOps.skip rfl 15 31 false rfl rfl (.inl rfl) rfl (SOps.skip rfl 15 31 false rfl rfl (.inl rfl) rfl (sq rfl rfl (q_pick_t rfl rfl rfl rfl) (SOps.sub (st' := ⟨[(0, ci a0_watts), (1, ci a1_minutes), (2, .c (vI a2_energy)), (34, .c (.bool true))], []⟩) (sub_gen [] rfl rfl (zall rfl rfl) trivial) (SOps.nil (SCode.cond_t rfl rfl (SCode.seq (SCode.region (sa rfl rfl (SOps.nil (SCode.ret ?_)))))))))))
  obtain rfl := Option.some.inj h
  exact ⟨⟨[(6, .c (.bool true))], []⟩, _, sub_gen [] rfl rfl (zall rfl rfl) trivial, resA1 (v := .c (.bool true)) rfl rfl, rfl⟩
 rcases cond_out h with ⟨g2, h⟩ | ⟨g2, h⟩
 ·refine SCode.region (sm rfl rfl (sq rfl rfl (q_len_vec rfl rfl sl22) (sq rfl rfl (q_gtr rfl rfl rfl) (sm rfl rfl (SOps.q rfl (.guard 3 19 false rfl rfl (gF g1)) rfl (q_move rfl rfl) (SOps.q rfl (.guard 3 19 false rfl rfl (gF g1)) rfl (q_lss rfl rfl rfl) (sq rfl rfl (q_pick_f rfl rfl g1 rfl) (sm rfl rfl (SOps.skip rfl 7 23 false rfl rfl (.inl (gT g2)) rfl (SOps.skip rfl 7 23 false rfl rfl (.inl (gT g2)) rfl (sq rfl rfl (q_pick_t rfl rfl g2 rfl) (sm rfl rfl (SOps.skip rfl 11 27 false rfl rfl (.inl rfl) rfl (SOps.skip rfl 11 27 false rfl rfl (.inl rfl) rfl (sq rfl rfl (q_pick_t rfl rfl rfl rfl) ?_)))))))))))))))
  refine sm rfl rfl (SOps.skip rfl 15 31 false rfl rfl (.inl rfl) rfl (SOps.skip rfl 15 31 false rfl rfl (.inl rfl) rfl (sq rfl rfl (q_pick_t rfl rfl rfl rfl) (SOps.sub (st' := ⟨[(0, ci a0_watts), (1, ci a1_minutes), (2, .c (vI a2_energy)), (34, .c (.bool true))], []⟩) (sub_gen [] rfl rfl (zall rfl rfl) trivial) (SOps.nil (SCode.cond_t rfl rfl (SCode.seq (SCode.region (sa rfl rfl (SOps.nil (SCode.ret ?_)))))))))))
  obtain rfl := Option.some.inj h
  exact ⟨⟨[(6, .c (.bool true))], []⟩, _, sub_gen [] rfl rfl (zall rfl rfl) trivial, resA1 (v := .c (.bool true)) rfl rfl, rfl⟩
 rcases cond_out h with ⟨g3, h⟩ | ⟨g3, h⟩
 ·refine SCode.region (sm rfl rfl (sq rfl rfl (q_len_vec rfl rfl sl22) (sq rfl rfl (q_gtr rfl rfl rfl) (sm rfl rfl (SOps.q rfl (.guard 3 19 false rfl rfl (gF g1)) rfl (q_move rfl rfl) (SOps.q rfl (.guard 3 19 false rfl rfl (gF g1)) rfl (q_lss rfl rfl rfl) (sq rfl rfl (q_pick_f rfl rfl g1 rfl) (sm rfl rfl (SOps.q rfl (.guard 7 23 false rfl rfl (gF g2)) rfl (q_move rfl rfl) (SOps.q rfl (.guard 7 23 false rfl rfl (gF g2)) rfl (q_gtr rfl rfl rfl) (sq rfl rfl (q_pick_f rfl rfl g2 rfl) (sm rfl rfl (SOps.skip rfl 11 27 false rfl rfl (.inl (gT g3)) rfl (SOps.skip rfl 11 27 false rfl rfl (.inl (gT g3)) rfl (sq rfl rfl (q_pick_t rfl rfl g3 rfl) ?_)))))))))))))))
  refine sm rfl rfl (SOps.skip rfl 15 31 false rfl rfl (.inl rfl) rfl (SOps.skip rfl 15 31 false rfl rfl (.inl rfl) rfl (sq rfl rfl (q_pick_t rfl rfl rfl rfl) (SOps.sub (st' := ⟨[(0, ci a0_watts), (1, ci a1_minutes), (2, .c (vI a2_energy)), (34, .c (.bool true))], []⟩) (sub_gen [] rfl rfl (zall rfl rfl) trivial) (SOps.nil (SCode.cond_t rfl rfl (SCode.seq (SCode.region (sa rfl rfl (SOps.nil (SCode.ret ?_)))))))))))
  obtain rfl := Option.some.inj h
  exact ⟨⟨[(6, .c (.bool true))], []⟩, _, sub_gen [] rfl rfl (zall rfl rfl) trivial, resA1 (v := .c (.bool true)) rfl rfl, rfl⟩
 rcases cond_out h with ⟨g4, h⟩ | ⟨g4, h⟩
 ·refine SCode.region (sm rfl rfl (sq rfl rfl (q_len_vec rfl rfl sl22) (sq rfl rfl (q_gtr rfl rfl rfl) (sm rfl rfl (SOps.q rfl (.guard 3 19 false rfl rfl (gF g1)) rfl (q_move rfl rfl) (SOps.q rfl (.guard 3 19 false rfl rfl (gF g1)) rfl (q_lss rfl rfl rfl) (sq rfl rfl (q_pick_f rfl rfl g1 rfl) (sm rfl rfl (SOps.q rfl (.guard 7 23 false rfl rfl (gF g2)) rfl (q_move rfl rfl) (SOps.q rfl (.guard 7 23 false rfl rfl (gF g2)) rfl (q_gtr rfl rfl rfl) (sq rfl rfl (q_pick_f rfl rfl g2 rfl) (sm rfl rfl (SOps.q rfl (.guard 11 27 false rfl rfl (gF g3)) rfl (q_move rfl rfl) (SOps.q rfl (.guard 11 27 false rfl rfl (gF g3)) rfl (q_lss rfl rfl rfl) (sq rfl rfl (q_pick_f rfl rfl g3 rfl) ?_)))))))))))))))
  refine sm rfl rfl (SOps.skip rfl 15 31 false rfl rfl (.inl (gT g4)) rfl (SOps.skip rfl 15 31 false rfl rfl (.inl (gT g4)) rfl (sq rfl rfl (q_pick_t rfl rfl g4 rfl) (SOps.sub (st' := ⟨[(0, ci a0_watts), (1, ci a1_minutes), (2, .c (vI a2_energy)), (34, .c (.bool true))], []⟩) (sub_gen [] rfl rfl (zall rfl rfl) trivial) (SOps.nil (SCode.cond_t rfl rfl (SCode.seq (SCode.region (sa rfl rfl (SOps.nil (SCode.ret ?_)))))))))))
  obtain rfl := Option.some.inj h
  exact ⟨⟨[(6, .c (.bool true))], []⟩, _, sub_gen [] rfl rfl (zall rfl rfl) trivial, resA1 (v := .c (.bool true)) rfl rfl, rfl⟩
 refine SCode.region (sm rfl rfl (sq rfl rfl (q_len_vec rfl rfl sl22) (sq rfl rfl (q_gtr rfl rfl rfl) (sm rfl rfl (SOps.q rfl (.guard 3 19 false rfl rfl (gF g1)) rfl (q_move rfl rfl) (SOps.q rfl (.guard 3 19 false rfl rfl (gF g1)) rfl (q_lss rfl rfl rfl) (sq rfl rfl (q_pick_f rfl rfl g1 rfl) (sm rfl rfl (SOps.q rfl (.guard 7 23 false rfl rfl (gF g2)) rfl (q_move rfl rfl) (SOps.q rfl (.guard 7 23 false rfl rfl (gF g2)) rfl (q_gtr rfl rfl rfl) (sq rfl rfl (q_pick_f rfl rfl g2 rfl) (sm rfl rfl (SOps.q rfl (.guard 11 27 false rfl rfl (gF g3)) rfl (q_move rfl rfl) (SOps.q rfl (.guard 11 27 false rfl rfl (gF g3)) rfl (q_lss rfl rfl rfl) (sq rfl rfl (q_pick_f rfl rfl g3 rfl) ?_)))))))))))))))
 refine sm rfl rfl (SOps.q rfl (.guard 15 31 false rfl rfl (gF g4)) rfl (q_move rfl rfl) (SOps.q rfl (.guard 15 31 false rfl rfl (gF g4)) rfl (q_gtr rfl rfl rfl) (sq rfl rfl (q_pick_f rfl rfl g4 rfl) (SOps.sub (st' := ⟨[(0, ci a0_watts), (1, ci a1_minutes), (2, .c (vI a2_energy)), (34, .c (.bool (decide (1440 < a1_minutes))))], []⟩) (sub_gen [] rfl rfl (zall rfl rfl) trivial) (SOps.nil ?_)))))
 rcases cond_out h with ⟨g5, h⟩ | ⟨g5, h⟩
 ·refine SCode.cond_t rfl g5 (SCode.seq (SCode.region (sa rfl rfl (SOps.nil (SCode.ret ?_)))))
  obtain rfl := Option.some.inj h
  exact ⟨⟨[(6, .c (.bool true))], []⟩, _, sub_gen [] rfl rfl (zall rfl rfl) trivial, resA1 (v := .c (.bool true)) rfl rfl, rfl⟩
 refine SCode.cond_f rfl g5 (SCode.skip (SCode.seq (SCode.region (sq rfl rfl (q_bsliceL (c := (cInt .i64)) (d0 := 0) [(-1)] rfl rfl sl22 z3 rfl rfl rfl rfl rfl rfl rfl) (sm rfl rfl (sq rfl rfl (q_bsliceL (c := (cInt .i64)) (d0 := 0) [a0_watts] rfl rfl sl22 z3 rfl rfl rfl rfl rfl rfl rfl) (sq rfl rfl (q_bsliceL (c := (cVec 1 (cInt .i64) 0)) (d0 := []) [[a0_watts]] rfl rfl sl23 z22 rfl rfl rfl rfl rfl rfl rfl) (sm rfl rfl (sq rfl rfl (q_build2 rfl rfl pl26 rfl) (se rfl rfl (e_alloc rfl rfl rfl z26) (se rfl rfl (e_store_box rfl rfl rfl rfl rfl ty26 rfl rfl rfl rfl) (SOps.sub (st' := ⟨[(0, ci a0_watts), (1, ci a1_minutes), (2, .c (vI a2_energy)), (7, .c (.ptr 0 0))], [.box [vI ([(-1)]), vR ([[a0_watts]]), .int .i64 0, .int .i64 a1_minutes, .own 1 (([] : List SDemand)).length], aSDemand 28 (([] : List SDemand))]⟩) (Sub.trans (Sub.nilBox (id := 0) (j := 4) (T := 28) (k := 5) (g := gL cSDemand dSDemand ([] : List SDemand)) rfl rfl) (sub_gen [0, 1] rfl rfl (zall rfl rfl) ⟨bx rfl rfl rfl, oa rfl, trivial⟩)) (SOps.nil ?_)))))))))))))
 let S6 := fun (o1_6 : List SDemand) => (⟨[(0, ci a0_watts), (1, ci a1_minutes), (2, .c (vI a2_energy)), (7, .c (.ptr 0 0))], [.box [vI ([(-1)]), vR ([[a0_watts]]), .int .i64 0, .int .i64 a1_minutes, .own 1 o1_6.length], aSDemand 28 o1_6]⟩ : St)
 refine SCode.join (σ := (List SDemand)) (S := fun s => (S6 s)) (g := fun s => chargenettop_PlansShare_p34 F a0_watts a1_minutes a2_energy s = some r) ?_ ?_
 rotate_left
 ·refine SCode.seq (SCode.region (sm rfl rfl (sq rfl rfl (q_len_vec rfl rfl sl22) (sm rfl rfl (SOps.nil (SCode.block ?_))))))
  let S5 := fun (t43_40 : Int) => fun (o1_41 : List SDemand) => (⟨[(0, ci a0_watts), (1, ci a1_minutes), (2, .c (vI a2_energy)), (7, .c (.ptr 0 0)), (41, .c (vI a2_energy)), (42, ci (((a2_energy).length : Int))), (43, ci t43_40)], [.box [vI ([(-1)]), vR ([[a0_watts]]), .int .i64 0, .int .i64 a1_minutes, .own 1 o1_41.length], aSDemand 28 o1_41]⟩ : St)
  refine SCode.sub (st' := (S5 0 (([] : List SDemand)))) (sub_gen [0, 1] rfl rfl (zall rfl rfl) ⟨bx rfl rfl rfl, oa rfl, trivial⟩) ?_
  refine (SCode.loop (σ := Nat × (Int × (List SDemand))) (S := fun s => (S5 s.2.1 s.2.2)) (g := fun s => chargenettop_PlansShare_l47 F a0_watts a1_minutes a2_energy s.1 s.2.1 s.2.2 = some r) (μ := fun s => s.1) (F, (0, ([] : List SDemand))) h ?_)
  rintro ⟨n_47, ⟨t43_40, o1_41⟩⟩ h
  try dsimp only at h
  show SCode _ _ _ (S5 t43_40 o1_41) _
  cases n_47 with
  | zero => cases h
  | succ n_47 =>
   rw [chargenettop_PlansShare_l47] at h
   unfold chargenettop_PlansShare_b47 at h
   refine SCode.seq (SCode.region (sq rfl rfl (q_lss rfl rfl rfl) (SOps.nil (SCode.seq ?_))))
   rcases cond_out h with ⟨g48, h⟩ | ⟨g48, h⟩
   ·refine SCode.cond_t rfl g48 (SCode.skip (SCode.seq (SCode.block (SCode.seq ?_))))
    obtain ⟨g49, h⟩ := guard_out h
    refine SCode.region (sq rfl rfl (q_index_vec rfl rfl rfl sl22 rfl g49.1 g49.2) (sq rfl rfl (q_load_eptr rfl rfl ty3) (sa rfl rfl (SOps.nil (SCode.seq (SCode.seq ?_))))))
    rcases cond_out h with ⟨g50, h⟩ | ⟨g50, h⟩
    ·refine SCode.region (sm rfl rfl (sq rfl rfl (q_lss rfl rfl rfl) (sm rfl rfl (SOps.skip rfl 2 49 false rfl rfl (.inl (gT g50)) rfl (SOps.skip rfl 2 49 false rfl rfl (.inl (gT g50)) rfl (sq rfl rfl (q_pick_t rfl rfl g50 rfl) (SOps.nil (SCode.cond_t rfl rfl (SCode.seq (SCode.region (sa rfl rfl (SOps.nil (SCode.ret ?_)))))))))))))
     obtain rfl := Option.some.inj h
     exact ⟨⟨[(6, .c (.bool true))], []⟩, _, sub_gen [] rfl rfl (zall rfl rfl) trivial, resA1 (v := .c (.bool true)) rfl rfl, rfl⟩
    refine SCode.region (sm rfl rfl (sq rfl rfl (q_lss rfl rfl rfl) (sm rfl rfl (SOps.q rfl (.guard 2 49 false rfl rfl (gF g50)) rfl (q_move rfl rfl) (SOps.q rfl (.guard 2 49 false rfl rfl (gF g50)) rfl (q_gtr rfl rfl rfl) (sq rfl rfl (q_pick_f rfl rfl g50 rfl) (SOps.nil ?_)))))))
    rcases cond_out h with ⟨g51, h⟩ | ⟨g51, h⟩
    ·refine SCode.cond_t rfl g51 (SCode.seq (SCode.region (sa rfl rfl (SOps.nil (SCode.ret ?_)))))
     obtain rfl := Option.some.inj h
     exact ⟨⟨[(6, .c (.bool true))], []⟩, _, sub_gen [] rfl rfl (zall rfl rfl) trivial, resA1 (v := .c (.bool true)) rfl rfl, rfl⟩
    refine SCode.cond_f rfl g51 (SCode.skip ?_)
    obtain ⟨g52, h⟩ := guard_out h
    refine SCode.region (sq rfl rfl (q_field_ptr rfl rfl fd26_4) (sq rfl rfl (q_load_ptr rfl rfl rfl rfl ty24) (sm rfl rfl (sm rfl rfl (sq rfl rfl (q_build2 rfl rfl pl28 rfl) (sq rfl rfl (q_bsliceL (c := cSDemand) (d0 := dSDemand) [SDemand.mk 0 100000 (a2_energy.getD t43_40.toNat 0) 0 a1_minutes] rfl rfl sl24 z28 rfl rfl rfl rfl rfl rfl rfl) (se rfl rfl (e_appendL (c := cSDemand) (d0 := dSDemand) (l := o1_41) (l2 := [SDemand.mk 0 100000 (a2_energy.getD t43_40.toNat 0) 0 a1_minutes]) rfl rfl rfl rfl rfl rfl (.inl rfl) sl24 z28 rfl rfl oneSDemand g52.1 g52.2) (sq rfl rfl (q_field_ptr rfl rfl fd26_4) (se rfl rfl (e_store_box rfl rfl rfl rfl rfl ty24 rfl rfl rfl rfl) ?_)))))))))
    let y1 := o1_41 ++ ([SDemand.mk 0 100000 (a2_energy.getD t43_40.toNat 0) 0 a1_minutes])
    refine SOps.sub (st' := ⟨[(0, ci a0_watts), (1, ci a1_minutes), (2, .c (vI a2_energy)), (7, .c (.ptr 0 0)), (41, .c (vI a2_energy)), (42, ci (((a2_energy).length : Int))), (43, ci t43_40)], [.box [vI ([(-1)]), vR ([[a0_watts]]), .int .i64 0, .int .i64 a1_minutes, .own 1 y1.length], aSDemand 28 y1]⟩) (sub_gen [0, 2] rfl rfl (zall rfl rfl) ⟨bx rfl rfl rfl, oa rfl, trivial⟩) (SOps.nil (SCode.region (sq rfl rfl (q_add rfl rfl rfl) (sm rfl rfl (SOps.nil ?_)))))
    exact ⟨(n_47, (IntKind.wrap .i64 (t43_40 + 1), o1_41 ++ ([SDemand.mk 0 100000 (a2_energy.getD t43_40.toNat 0) 0 a1_minutes]))), h, Nat.lt_succ_self n_47, sub_gen [0, 1] rfl rfl (zall rfl rfl) ⟨bx rfl rfl rfl, oa rfl, trivial⟩⟩
   refine SCode.cond_f rfl g48 (SCode.exit ?_)
   exact ⟨o1_41, h, sub_gen [0, 1] rfl rfl (zall rfl rfl) ⟨bx rfl rfl rfl, oa rfl, trivial⟩⟩
 rintro o1_6 h
 show SCode _ _ _ (S6 o1_6) _
 try dsimp only at h
 unfold chargenettop_PlansShare_p34 at h
 refine SCode.seq (SCode.sub (st' := ⟨[(0, ci a0_watts), (1, ci a1_minutes), (2, .c (vI a2_energy)), (7, .c (.ptr 0 0))], [.box [vI ([(-1)]), vR ([[a0_watts]]), .int .i64 0, .int .i64 a1_minutes, vSDemand o1_6]]⟩) (sub_gen [0] rfl rfl (zall rfl rfl) ⟨⟨_, rfl, ⟨ii rfl rfl, ii rfl rfl, ii rfl rfl, ii rfl rfl, .inr (.inl ⟨_, _, _, _, _, _, _, rfl, rfl, rfl, Nat.le_refl _, fun _ _ _ _ => rfl, nm rfl⟩), trivial⟩⟩, trivial⟩) ?_)
 obtain ⟨c_7, g8, h⟩ := bind_out h
 try dsimp only at h
 refine SCode.region (sq rfl rfl (q_load_ptr_all rfl rfl rfl rfl rfl ty26) (sq rfl rfl (q_call (plan_Fair_ok F (SProblem.mk ([(-1)]) ([[a0_watts]]) 0 a1_minutes o1_6) c_7 g8) [] rfl fn4 ⟨⟨rfl, rfl⟩, trivial⟩ (.inl rfl)) (sm rfl rfl (sq rfl rfl (q_extract rfl rfl rfl) (sq rfl rfl (q_extract rfl rfl rfl) (sa rfl rfl (sa rfl rfl (SOps.nil (SCode.seq ?_)))))))))
 obtain ⟨c_9, g10, h⟩ := bind_out h
 try dsimp only at h
 refine SCode.region (sm rfl rfl (sm rfl rfl (sq rfl rfl (q_mul rfl rfl rfl) (sm rfl rfl (sq rfl rfl (q_call (fair_Share_ok F (IntKind.wrap .i64 (a0_watts * a1_minutes)) a2_energy c_9 g10) [] rfl fn5 ⟨⟨_, rfl, .inl ⟨rfl, rfl⟩⟩, ⟨_, rfl, .inl ⟨rfl, rfl⟩⟩, trivial⟩ (.inl rfl)) (sm rfl rfl (sq rfl rfl (q_extract rfl rfl rfl) (sq rfl rfl (q_extract rfl rfl rfl) (sa rfl rfl (sa rfl rfl (SOps.nil (SCode.seq (SCode.seq ?_)))))))))))))
 rcases cond_out h with ⟨g11, h⟩ | ⟨g11, h⟩
 ·refine SCode.region (sm rfl rfl (sq rfl rfl (q_neq rfl rfl rfl) (sm rfl rfl (SOps.skip rfl 2 77 false rfl rfl (.inl (gT g11)) rfl (SOps.skip rfl 2 77 false rfl rfl (.inl (gT g11)) rfl (sq rfl rfl (q_pick_t rfl rfl g11 rfl) (sm rfl rfl (SOps.skip rfl 6 81 false rfl rfl (.inl rfl) rfl (SOps.skip rfl 6 81 false rfl rfl (.inl rfl) rfl (SOps.skip rfl 6 81 false rfl rfl (.inl rfl) rfl (SOps.skip rfl 6 81 false rfl rfl (.inl rfl) rfl (SOps.skip rfl 6 81 false rfl rfl (.inl rfl) rfl (sq rfl rfl (q_pick_t rfl rfl rfl rfl) (SOps.sub (st' := ⟨[(7, .c (.ptr 0 0)), (10, .c (vI c_7.1)), (12, .c (vI c_9.1)), (87, .c (.bool true))], [.box [vI ([(-1)]), vR ([[a0_watts]]), .int .i64 0, .int .i64 a1_minutes, vSDemand o1_6]]⟩) (sub_gen [0] rfl rfl (zall rfl rfl) ⟨bx rfl rfl rfl, trivial⟩) (SOps.nil ?_)))))))))))))))
  refine SCode.cond_t rfl rfl (SCode.seq (SCode.region (sa rfl rfl (SOps.nil (SCode.ret ?_)))))
  obtain rfl := Option.some.inj h
  exact ⟨⟨[(6, .c (.bool false))], []⟩, _, sub_gen [] rfl rfl (zall rfl rfl) trivial, resA1 (v := .c (.bool false)) rfl rfl, rfl⟩
 rcases cond_out h with ⟨g12, h⟩ | ⟨g12, h⟩
 ·refine SCode.region (sm rfl rfl (sq rfl rfl (q_neq rfl rfl rfl) (sm rfl rfl (SOps.q rfl (.guard 2 77 false rfl rfl (gF g11)) rfl (q_move rfl rfl) (SOps.q rfl (.guard 2 77 false rfl rfl (gF g11)) rfl (q_neq rfl rfl rfl) (sq rfl rfl (q_pick_f rfl rfl g11 rfl) (sm rfl rfl (SOps.skip rfl 6 81 false rfl rfl (.inl (gT g12)) rfl (SOps.skip rfl 6 81 false rfl rfl (.inl (gT g12)) rfl (SOps.skip rfl 6 81 false rfl rfl (.inl (gT g12)) rfl (SOps.skip rfl 6 81 false rfl rfl (.inl (gT g12)) rfl (SOps.skip rfl 6 81 false rfl rfl (.inl (gT g12)) rfl (sq rfl rfl (q_pick_t rfl rfl g12 rfl) (SOps.sub (st' := ⟨[(7, .c (.ptr 0 0)), (10, .c (vI c_7.1)), (12, .c (vI c_9.1)), (87, .c (.bool true))], [.box [vI ([(-1)]), vR ([[a0_watts]]), .int .i64 0, .int .i64 a1_minutes, vSDemand o1_6]]⟩) (sub_gen [0] rfl rfl (zall rfl rfl) ⟨bx rfl rfl rfl, trivial⟩) (SOps.nil ?_)))))))))))))))
  refine SCode.cond_t rfl rfl (SCode.seq (SCode.region (sa rfl rfl (SOps.nil (SCode.ret ?_)))))
  obtain rfl := Option.some.inj h
  exact ⟨⟨[(6, .c (.bool false))], []⟩, _, sub_gen [] rfl rfl (zall rfl rfl) trivial, resA1 (v := .c (.bool false)) rfl rfl, rfl⟩
 refine SCode.region (sm rfl rfl (sq rfl rfl (q_neq rfl rfl rfl) (sm rfl rfl (SOps.q rfl (.guard 2 77 false rfl rfl (gF g11)) rfl (q_move rfl rfl) (SOps.q rfl (.guard 2 77 false rfl rfl (gF g11)) rfl (q_neq rfl rfl rfl) (sq rfl rfl (q_pick_f rfl rfl g11 rfl) (sm rfl rfl (SOps.q rfl (.guard 6 81 false rfl rfl (gF g12)) rfl (q_move rfl rfl) (SOps.q rfl (.guard 6 81 false rfl rfl (gF g12)) rfl (q_len_vec rfl rfl sl22) (SOps.q rfl (.guard 6 81 false rfl rfl (gF g12)) rfl (q_move rfl rfl) (SOps.q rfl (.guard 6 81 false rfl rfl (gF g12)) rfl (q_len_vec rfl rfl sl22) (SOps.q rfl (.guard 6 81 false rfl rfl (gF g12)) rfl (q_neq rfl rfl rfl) (sq rfl rfl (q_pick_f rfl rfl g12 rfl) (SOps.sub (st' := ⟨[(7, .c (.ptr 0 0)), (10, .c (vI c_7.1)), (12, .c (vI c_9.1)), (87, .c (.bool ((!decide (((c_7.1).length : Int) = ((c_9.1).length : Int))))))], [.box [vI ([(-1)]), vR ([[a0_watts]]), .int .i64 0, .int .i64 a1_minutes, vSDemand o1_6]]⟩) (sub_gen [0] rfl rfl (zall rfl rfl) ⟨bx rfl rfl rfl, trivial⟩) (SOps.nil ?_)))))))))))))))
 rcases cond_out h with ⟨g13, h⟩ | ⟨g13, h⟩
 ·refine SCode.cond_t rfl g13 (SCode.seq (SCode.region (sa rfl rfl (SOps.nil (SCode.ret ?_)))))
  obtain rfl := Option.some.inj h
  exact ⟨⟨[(6, .c (.bool false))], []⟩, _, sub_gen [] rfl rfl (zall rfl rfl) trivial, resA1 (v := .c (.bool false)) rfl rfl, rfl⟩
 refine SCode.cond_f rfl g13 (SCode.skip ?_)
 let S4 := (⟨[(7, .c (.ptr 0 0)), (10, .c (vI c_7.1))], [.box [vI ([(-1)]), vR ([[a0_watts]]), .int .i64 0, .int .i64 a1_minutes, vSDemand o1_6]]⟩ : St)
 refine SCode.join (σ := Unit) (S := fun s => S4) (g := fun s => chargenettop_PlansShare_p19 F a0_watts a1_minutes o1_6 c_7 = some r) ?_ ?_
 rotate_left
 ·refine SCode.seq (SCode.region (sm rfl rfl (sq rfl rfl (q_len_vec rfl rfl sl22) (sm rfl rfl (SOps.nil (SCode.block ?_))))))
  let S3 := fun (t90_24 : Int) => (⟨[(7, .c (.ptr 0 0)), (10, .c (vI c_7.1)), (12, .c (vI c_9.1)), (89, ci (((c_7.1).length : Int))), (90, ci t90_24)], [.box [vI ([(-1)]), vR ([[a0_watts]]), .int .i64 0, .int .i64 a1_minutes, vSDemand o1_6]]⟩ : St)
  refine SCode.sub (st' := (S3 0)) (sub_gen [0] rfl rfl (zall rfl rfl) ⟨bx rfl rfl rfl, trivial⟩) ?_
  refine (SCode.loop (σ := Nat × Int) (S := fun s => (S3 s.2)) (g := fun s => chargenettop_PlansShare_l29 F a0_watts a1_minutes o1_6 c_7 c_9 s.1 s.2 = some r) (μ := fun s => s.1) (F, 0) h ?_)
  rintro ⟨n_29, t90_24⟩ h
  try dsimp only at h
  show SCode _ _ _ (S3 t90_24) _
  cases n_29 with
  | zero => cases h
  | succ n_29 =>
   rw [chargenettop_PlansShare_l29] at h
   unfold chargenettop_PlansShare_b29 at h
   refine SCode.seq (SCode.region (sq rfl rfl (q_lss rfl rfl rfl) (SOps.nil (SCode.seq ?_))))
   rcases cond_out h with ⟨g30, h⟩ | ⟨g30, h⟩
   ·refine SCode.cond_t rfl g30 (SCode.skip (SCode.seq (SCode.block (SCode.seq (SCode.region (sm rfl rfl (sa rfl rfl (SOps.nil (SCode.seq (SCode.sub (st' := ⟨[(7, .c (.ptr 0 0)), (10, .c (vI c_7.1)), (12, .c (vI c_9.1)), (14, ci t90_24), (89, ci (((c_7.1).length : Int))), (90, ci t90_24)], [.box [vI ([(-1)]), vR ([[a0_watts]]), .int .i64 0, .int .i64 a1_minutes, vSDemand o1_6]]⟩) (sub_gen [0] rfl rfl (zall rfl rfl) ⟨bx rfl rfl rfl, trivial⟩) ?_))))))))))
    obtain ⟨g31, h⟩ := guard_out h
    obtain ⟨g32, h⟩ := guard_out h
    refine SCode.drawK mixed [[], [], [0, 1], [0, 1, 2], [], [], [4, 5], [4, 5, 6], [0, 1, 2, 3, 4, 5, 6, 7]] 9 0 rfl rfl (qm rfl rfl (qm rfl rfl (qr rfl rfl (q_index_vec rfl rfl rfl sl22 rfl g31.1 g31.2) (qr rfl rfl (q_load_eptr rfl rfl ty3) (qm rfl rfl (qm rfl rfl (qr rfl rfl (q_index_vec rfl rfl rfl sl22 rfl g32.1 g32.2) (qr rfl rfl (q_load_eptr rfl rfl ty3) (qr rfl rfl (q_neq rfl rfl rfl) (QK.nil (SOps.sub (st' := ⟨[(7, .c (.ptr 0 0)), (10, .c (vI c_7.1)), (12, .c (vI c_9.1)), (89, ci (((c_7.1).length : Int))), (90, ci t90_24), (101, .c (.bool ((!decide (c_7.1.getD t90_24.toNat 0 = c_9.1.getD t90_24.toNat 0)))))], [.box [vI ([(-1)]), vR ([[a0_watts]]), .int .i64 0, .int .i64 a1_minutes, vSDemand o1_6]]⟩) (sub_gen [0] rfl rfl (zall rfl rfl) ⟨bx rfl rfl rfl, trivial⟩) (SOps.nil ?_))))))))))))
    rcases cond_out h with ⟨g33, h⟩ | ⟨g33, h⟩
    ·refine SCode.cond_t rfl g33 (SCode.seq (SCode.region (sa rfl rfl (SOps.nil (SCode.ret ?_)))))
     obtain rfl := Option.some.inj h
     exact ⟨⟨[(6, .c (.bool false))], []⟩, _, sub_gen [] rfl rfl (zall rfl rfl) trivial, resA1 (v := .c (.bool false)) rfl rfl, rfl⟩
    refine SCode.cond_f rfl g33 (SCode.skip (SCode.region (sq rfl rfl (q_add rfl rfl rfl) (sm rfl rfl (SOps.nil ?_)))))
    exact ⟨(n_29, IntKind.wrap .i64 (t90_24 + 1)), h, Nat.lt_succ_self n_29, sub_gen [0] rfl rfl (zall rfl rfl) ⟨bx rfl rfl rfl, trivial⟩⟩
   refine SCode.cond_f rfl g30 (SCode.exit ?_)
   exact ⟨(), h, sub_gen [0] rfl rfl (zall rfl rfl) ⟨bx rfl rfl rfl, trivial⟩⟩
 rintro ⟨⟩ h
 show SCode _ _ _ S4 _
 try dsimp only at h
 unfold chargenettop_PlansShare_p19 at h
 refine SCode.seq ?_
 obtain ⟨c_14, g15, h⟩ := bind_out h
 try dsimp only at h
 refine SCode.region (sq rfl rfl (q_load_ptr_all rfl rfl rfl rfl rfl ty26) (sm rfl rfl (sq rfl rfl (q_call (plan_Schedule_ok F (SProblem.mk ([(-1)]) ([[a0_watts]]) 0 a1_minutes o1_6) c_7.1 c_14 g15) [] rfl fn6 ⟨⟨rfl, rfl⟩, ⟨_, rfl, .inl ⟨rfl, rfl⟩⟩, trivial⟩ (.inl rfl)) (sm rfl rfl (sq rfl rfl (q_extract rfl rfl rfl) (sq rfl rfl (q_extract rfl rfl rfl) (sa rfl rfl (sa rfl rfl (SOps.nil (SCode.seq ?_))))))))))
 rcases cond_out h with ⟨g16, h⟩ | ⟨g16, h⟩
 ·obtain ⟨c_17, g18, h⟩ := bind_out h
  try dsimp only at h
  refine SCode.region (sm rfl rfl (sq rfl rfl (q_eql rfl rfl rfl) (sm rfl rfl (SOps.q rfl (.guard 2 111 true rfl rfl (gT g16)) rfl (q_load_ptr_all rfl rfl rfl rfl rfl ty26) (SOps.q rfl (.guard 2 111 true rfl rfl (gT g16)) rfl (q_move rfl rfl) (SOps.q rfl (.guard 2 111 true rfl rfl (gT g16)) rfl (q_move rfl rfl) (SOps.q rfl (.guard 2 111 true rfl rfl (gT g16)) rfl (q_call (plan_Check_ok F (SProblem.mk ([(-1)]) ([[a0_watts]]) 0 a1_minutes o1_6) c_7.1 c_14.1 c_17 g18) [] rfl fn7 ⟨⟨rfl, rfl⟩, ⟨_, rfl, .inl ⟨rfl, rfl⟩⟩, ⟨_, rfl, .inl ⟨rfl, rfl⟩⟩, trivial⟩ (.inl rfl)) (sq rfl rfl (q_pick_t rfl rfl g16 rfl) (sa rfl rfl (SOps.nil (SCode.ret ?_)))))))))))
  obtain rfl := Option.some.inj h
  exact ⟨⟨[(6, .c (.bool c_17))], []⟩, _, sub_gen [] rfl rfl (zall rfl rfl) trivial, resA1 (v := .c (.bool c_17)) rfl rfl, rfl⟩
 refine SCode.region (sm rfl rfl (sq rfl rfl (q_eql rfl rfl rfl) (sm rfl rfl (SOps.skip rfl 2 111 true rfl rfl (.inl (gF g16)) rfl (SOps.skip rfl 2 111 true rfl rfl (.inl (gF g16)) rfl (SOps.skip rfl 2 111 true rfl rfl (.inl (gF g16)) rfl (SOps.skip rfl 2 111 true rfl rfl (.inl (gF g16)) rfl (sq rfl rfl (q_pick_f rfl rfl g16 rfl) (sa rfl rfl (SOps.nil (SCode.ret ?_)))))))))))
 obtain rfl := Option.some.inj h
 exact ⟨⟨[(6, .c (.bool false))], []⟩, _, sub_gen [] rfl rfl (zall rfl rfl) trivial, resA1 (v := .c (.bool false)) rfl rfl, rfl⟩
end Go.Proofs.Ytmiikbfacgmopaa.W
