/- Written by a program of ours (wip/eng/gen.py): the functions compute their models. -/
import Derived.Test.YthpblkclpfmbeaaFacts
import Derived.Test.YthpblkclpfmbeaaV5x8
namespace Go.Proofs.Ythpblkclpfmbeaa.W
open Go Go.Proofs Go.Proofs.Ythpblkclpfmbeaa.E Go.Proofs.Ythpblkclpfmbeaa.M
set_option linter.unusedVariables false
set_option maxRecDepth 100000 in
set_option maxHeartbeats 8000000 in
theorem chargenetlaw10_fill_f1_1000017_ok (F : Nat) (a0_caps : List Int) (a1f0 : List SRule) (r : (List Int) × Bool) (h : chargenetlaw10_fill_f1_1000017 F a0_caps a1f0 = some r) :
    SFun Try.prog 16 [] [.c (vI a0_caps), .c (.fn 1000017 1 (cellsG [.vec a1f0.length 2 (gL cSRule dSRule a1f0)]))] (fun x _ => x = .t [.c (vI r.1), .c (.bool r.2)]) := by
  refine SFun.of (n := 24) Try.func16 rfl rfl rfl ?_
  unfold chargenetlaw10_fill_f1_1000017 at h
  show SCode _ _ _ ⟨[(0, .c (vI a0_caps)), (1, .c (.fn 1000017 1 (cellsG [.vec a1f0.length 2 (gL cSRule dSRule a1f0)])))], []⟩ _
  refine SCode.seq ?_
  refine SCode.region (show SOps _ _ _ [0, 1] _ _ from ?_)
  refine SOps.q rfl (.plain rfl) rfl (q_assign rfl rfl) ?_
  refine SOps.q rfl (.plain rfl) rfl (q_assign rfl rfl) ?_
  refine SOps.sub (st' := ⟨[(0, .c (vI a0_caps)), (1, .c (.fn 1000017 1 (cellsG [.vec a1f0.length 2 (gL cSRule dSRule a1f0)])))], []⟩) (sub_gen [] rfl rfl ⟨zc rfl rfl, zc rfl rfl, trivial⟩ trivial) ?_
  refine SOps.nil ?_
  refine SCode.seq ?_
  obtain ⟨c_1, g2, h⟩ := bind_out h
  try dsimp only at h
  refine SCode.region (show SOps _ _ _ [0, 1, 2, 3, 4, 5, 6, 7] _ _ from ?_)
  refine SOps.q rfl (.plain rfl) rfl (q_move rfl rfl) ?_
  refine SOps.q rfl (.plain rfl) rfl (q_move rfl rfl) ?_
  refine SOps.q rfl (.plain rfl) rfl (q_call (fair_Fill_f1_1000017_ok F a0_caps a1f0 c_1 g2) [] rfl fn19 ⟨⟨_, rfl, .inl ⟨rfl, rfl⟩⟩, ⟨_, rfl, .inl ⟨rfl, rfl⟩⟩, trivial⟩ (.inl rfl)) ?_
  refine SOps.q rfl (.plain rfl) rfl (q_move rfl rfl) ?_
  refine SOps.q rfl (.plain rfl) rfl (q_extract rfl rfl rfl) ?_
  refine SOps.q rfl (.plain rfl) rfl (q_extract rfl rfl rfl) ?_
  refine SOps.q rfl (.plain rfl) rfl (q_assign rfl rfl) ?_
  refine SOps.q rfl (.plain rfl) rfl (q_assign rfl rfl) ?_
  refine SOps.sub (st' := ⟨[(0, .c (vI a0_caps)), (1, .c (.fn 1000017 1 (cellsG [.vec a1f0.length 2 (gL cSRule dSRule a1f0)]))), (6, .c (vI c_1.1)), (7, .c (.int .i64 c_1.2))], []⟩) (sub_gen [] rfl rfl ⟨zc rfl rfl, zc rfl rfl, zc rfl rfl, zc rfl rfl, trivial⟩ trivial) ?_
  refine SOps.nil ?_
  refine SCode.seq ?_
  rcases cond_out h with ⟨g3, h⟩ | ⟨g3, h⟩
  · obtain ⟨g4, h⟩ := guard_out h
    obtain ⟨c_5, g6, h⟩ := bind_out h
    try dsimp only at h
    refine SCode.region (show SOps _ _ _ [0, 1, 2, 3, 4, 5, 6, 7, 8, 9, 10, 11] _ _ from ?_)
    refine SOps.q rfl (.plain rfl) rfl (q_move rfl rfl) ?_
    refine SOps.q rfl (.plain rfl) rfl (q_move rfl rfl) ?_
    refine SOps.q rfl (.plain rfl) rfl (q_eql rfl rfl rfl) ?_
    refine SOps.q rfl (.plain rfl) rfl (q_move rfl rfl) ?_
    refine SOps.q rfl (.guard 3 17 true rfl rfl (gT g3)) rfl (q_move rfl rfl) ?_
    refine SOps.q rfl (.guard 3 17 true rfl rfl (gT g3)) rfl (q_move rfl rfl) ?_
    refine SOps.q rfl (.guard 3 17 true rfl rfl (gT g3)) rfl (q_len_vec rfl rfl sl22) ?_
    refine SOps.e rfl (.guard 3 17 true rfl rfl (gT g3)) (e_makeL (c := (cInt .i64)) (d0 := 0) rfl rfl rfl rfl rfl sl22 z3 rfl rfl rfl g4.1 (Int.le_refl _) g4.2.1 g4.2.2) ?_
    refine SOps.q rfl (.guard 3 17 true rfl rfl (gT g3)) rfl (q_callb (f := 17) (cs := [.vec a1f0.length 2 (gL cSRule dSRule a1f0)]) (chargenetref10_Rules_Fits_ok F a1f0 (List.replicate (((a0_caps).length : Int)).toNat (0 : Int)) c_5 g6) [0] rfl rfl fn17 ⟨⟨_, rfl, .inl ⟨rfl, rfl⟩⟩, ⟨_, rfl, .inr (.inl ⟨_, _, _, _, _, _, _, rfl, rfl, rfl, Nat.le_refl _, fun _ _ _ _ => rfl, (.head _)⟩)⟩, trivial⟩ (.inr rfl)) ?_
    refine SOps.q rfl (.plain rfl) rfl (q_pick_t rfl rfl g3 rfl) ?_
    refine SOps.q rfl (.plain rfl) rfl (q_assign rfl rfl) ?_
    refine SOps.q rfl (.plain rfl) rfl (q_assign rfl rfl) ?_
    refine SOps.sub (st' := ⟨[(4, .c (vI c_1.1)), (5, .c (.bool c_5))], []⟩) (sub_gen [] rfl rfl ⟨zc rfl rfl, zc rfl rfl, trivial⟩ trivial) ?_
    refine SOps.nil ?_
    refine SCode.ret ?_
    obtain rfl := Option.some.inj h
    exact ⟨⟨[(4, .c (vI c_1.1)), (5, .c (.bool c_5))], []⟩, _, sub_gen [] rfl rfl ⟨zc rfl rfl, zc rfl rfl, trivial⟩ trivial, resA2 (v1 := .c (vI c_1.1)) (v2 := .c (.bool c_5)) rfl rfl rfl, rfl⟩
  refine SCode.region (show SOps _ _ _ [0, 1, 2, 3, 4, 5, 6, 7, 8, 9, 10, 11] _ _ from ?_)
  refine SOps.q rfl (.plain rfl) rfl (q_move rfl rfl) ?_
  refine SOps.q rfl (.plain rfl) rfl (q_move rfl rfl) ?_
  refine SOps.q rfl (.plain rfl) rfl (q_eql rfl rfl rfl) ?_
  refine SOps.q rfl (.plain rfl) rfl (q_move rfl rfl) ?_
  refine SOps.skip rfl 3 17 true rfl rfl (.inl (gF g3)) rfl ?_
  refine SOps.skip rfl 3 17 true rfl rfl (.inl (gF g3)) rfl ?_
  refine SOps.skip rfl 3 17 true rfl rfl (.inl (gF g3)) rfl ?_
  refine SOps.skip rfl 3 17 true rfl rfl (.inl (gF g3)) rfl ?_
  refine SOps.skip rfl 3 17 true rfl rfl (.inl (gF g3)) rfl ?_
  refine SOps.q rfl (.plain rfl) rfl (q_pick_f rfl rfl g3 rfl) ?_
  refine SOps.q rfl (.plain rfl) rfl (q_assign rfl rfl) ?_
  refine SOps.q rfl (.plain rfl) rfl (q_assign rfl rfl) ?_
  refine SOps.sub (st' := ⟨[(4, .c (vI c_1.1)), (5, .c (.bool false))], []⟩) (sub_gen [] rfl rfl ⟨zc rfl rfl, zc rfl rfl, trivial⟩ trivial) ?_
  refine SOps.nil ?_
  refine SCode.ret ?_
  obtain rfl := Option.some.inj h
  exact ⟨⟨[(4, .c (vI c_1.1)), (5, .c (.bool false))], []⟩, _, sub_gen [] rfl rfl ⟨zc rfl rfl, zc rfl rfl, trivial⟩ trivial, resA2 (v1 := .c (vI c_1.1)) (v2 := .c (.bool false)) rfl rfl rfl, rfl⟩
set_option maxRecDepth 100000 in
set_option maxHeartbeats 8000000 in
theorem slices_Clone_int_int_own_ok (F : Nat) (a0_s : List Int) (r : List Int) (h : slices_Clone_int_int_own F a0_s = some r) :
    SFun Try.prog 18 [] [.c (vI a0_s)] (fun x os => x = .c (.own 0 r.length) ∧ os = [aI 3 r]) := by
  refine SFun.of (n := 8) Try.func18 rfl rfl rfl ?_
  unfold slices_Clone_int_int_own at h
  show SCode _ _ _ ⟨[(0, .c (vI a0_s))], []⟩ _
  refine SCode.seq ?_
  refine SCode.region (show SOps _ _ _ [0] _ _ from ?_)
  refine SOps.q rfl (.plain rfl) rfl (q_assign rfl rfl) ?_
  refine SOps.nilArrL (T := 3) (k := 1) (cInt .i64) 0 (s := 2) rfl rfl ?_
  refine SOps.sub (st' := ⟨[(0, .c (vI a0_s))], []⟩) (sub_gen [] rfl rfl ⟨zc rfl rfl, trivial⟩ trivial) ?_
  refine SOps.nil ?_
  refine SCode.seq ?_
  refine SCode.seq ?_
  refine SCode.region (show SOps _ _ _ [0, 1] _ _ from ?_)
  refine SOps.q rfl (.plain rfl) rfl (q_move rfl rfl) ?_
  refine SOps.nilcmp rfl (.plain rfl) rfl rfl rfl rfl rfl us22 (by decide) (fun hl => ?_) ?_
  · obtain rfl := List.length_eq_zero_iff.1 hl
    obtain ⟨_, h⟩ := guard_out h
    refine SOps.sub (st' := ⟨[(0, .c (vI (([] : List Int)))), (4, .c (.bool true))], []⟩) (sub_gen [] rfl rfl ⟨zc rfl rfl, zc rfl rfl, trivial⟩ trivial) ?_
    refine SOps.nil ?_
    refine SCode.cond_t rfl rfl ?_
    refine SCode.seq ?_
    refine SCode.region (show SOps _ _ _ [0] _ _ from ?_)
    refine SOps.q rfl (.plain rfl) rfl (q_assign rfl rfl) ?_
    refine SOps.nilArrL (T := 3) (k := 1) (cInt .i64) 0 (s := 2) rfl rfl ?_
    refine SOps.sub (st' := ⟨[(2, .c (.own 0 (([] : List Int)).length))], [aI 3 (([] : List Int))]⟩) (sub_gen [0] rfl rfl ⟨zc rfl rfl, trivial⟩ ⟨oa rfl, trivial⟩) ?_
    refine SOps.nil ?_
    refine SCode.ret ?_
    obtain rfl := Option.some.inj h
    exact ⟨⟨[(2, .c (.own 0 (([] : List Int)).length))], [aI 3 (([] : List Int))]⟩, _, sub_gen [0] rfl rfl ⟨zc rfl rfl, trivial⟩ ⟨oa rfl, trivial⟩, resA1 (v := .c (.own 0 (([] : List Int)).length)) rfl rfl, ⟨rfl, rfl⟩⟩
  refine SOps.sub (st' := ⟨[(0, .c (vI a0_s)), (4, .c (.bool false))], []⟩) (sub_gen [] rfl rfl ⟨zc rfl rfl, zc rfl rfl, trivial⟩ trivial) ?_
  refine SOps.nil ?_
  refine SCode.cond_f rfl rfl ?_
  refine SCode.skip ?_
  refine SCode.seq ?_
  obtain ⟨g1, h⟩ := guard_out h
  refine SCode.region (show SOps _ _ _ [0, 1, 2, 3] _ _ from ?_)
  refine SOps.e rfl (.plain rfl) (e_bslice0L (α := Int) (c := (cInt .i64)) (d0 := 0) rfl rfl rfl rfl sl22) ?_
  refine SOps.q rfl (.plain rfl) rfl (q_move rfl rfl) ?_
  refine SOps.e rfl (.plain rfl) (e_appendL (c := (cInt .i64)) (d0 := 0) (l := ([] : List Int)) (l2 := a0_s) rfl rfl rfl rfl rfl rfl (.inl rfl) sl22 z3 rfl rfl oneInt g1.1 g1.2) ?_
  refine SOps.q rfl (.plain rfl) rfl (q_assign rfl rfl) ?_
  refine SOps.sub (st' := ⟨[(2, .c (.own 0 ((([] : List Int)) ++ a0_s).length))], [aI 3 ((([] : List Int)) ++ a0_s)]⟩) (sub_gen [1] rfl rfl ⟨zc rfl rfl, trivial⟩ ⟨oa rfl, trivial⟩) ?_
  refine SOps.nil ?_
  refine SCode.ret ?_
  obtain rfl := Option.some.inj h
  exact ⟨⟨[(2, .c (.own 0 ((([] : List Int)) ++ a0_s).length))], [aI 3 ((([] : List Int)) ++ a0_s)]⟩, _, sub_gen [0] rfl rfl ⟨zc rfl rfl, trivial⟩ ⟨oa rfl, trivial⟩, resA1 (v := .c (.own 0 ((([] : List Int)) ++ a0_s).length)) rfl rfl, ⟨rfl, rfl⟩⟩
set_option maxRecDepth 100000 in
set_option maxHeartbeats 8000000 in
theorem chargenetlaw10_FairFull_ok (F : Nat) (a0_caps : List Int) (a1_rules : List SRule) (r : Bool) (h : chargenetlaw10_FairFull F a0_caps a1_rules = some r) :
    SFun Try.prog 5 [] [.c (vI a0_caps), .c (.vec a1_rules.length 2 (gL cSRule dSRule a1_rules))] (fun x _ => x = .c (.bool r)) := by
  refine SFun.of (n := 78) Try.func5 rfl rfl rfl ?_
  unfold chargenetlaw10_FairFull at h
  show SCode _ _ _ ⟨[(0, .c (vI a0_caps)), (1, .c (.vec a1_rules.length 2 (gL cSRule dSRule a1_rules)))], []⟩ _
  refine SCode.seq ?_
  refine SCode.region (show SOps _ _ _ [0] _ _ from ?_)
  refine SOps.q rfl (.plain rfl) rfl (q_assign rfl rfl) ?_
  refine SOps.sub (st' := ⟨[(0, .c (vI a0_caps)), (1, .c (.vec a1_rules.length 2 (gL cSRule dSRule a1_rules)))], []⟩) (sub_gen [] rfl rfl ⟨zc rfl rfl, zc rfl rfl, trivial⟩ trivial) ?_
  refine SOps.nil ?_
  refine SCode.seq ?_
  refine SCode.seq ?_
  obtain ⟨c_1, g2, h⟩ := bind_out h
  try dsimp only at h
  refine SCode.region (show SOps _ _ _ [0, 1, 2] _ _ from ?_)
  refine SOps.q rfl (.plain rfl) rfl (q_move rfl rfl) ?_
  refine SOps.q rfl (.plain rfl) rfl (q_move rfl rfl) ?_
  refine SOps.q rfl (.plain rfl) rfl (q_call (chargenetlaw10_big_ok F a0_caps a1_rules c_1 g2) [] rfl fn15 ⟨⟨_, rfl, .inl ⟨rfl, rfl⟩⟩, ⟨_, rfl, .inl ⟨rfl, rfl⟩⟩, trivial⟩ (.inl rfl)) ?_
  refine SOps.sub (st' := ⟨[(0, .c (vI a0_caps)), (1, .c (.vec a1_rules.length 2 (gL cSRule dSRule a1_rules))), (11, .c (.bool c_1))], []⟩) (sub_gen [] rfl rfl ⟨zc rfl rfl, zc rfl rfl, zc rfl rfl, trivial⟩ trivial) ?_
  refine SOps.nil ?_
  rcases cond_out h with ⟨g3, h⟩ | ⟨g3, h⟩
  · refine SCode.cond_t rfl g3 ?_
    refine SCode.seq ?_
    obtain ⟨c_4, g5, h⟩ := bind_out h
    try dsimp only at h
    refine SCode.region (show SOps _ _ _ [0, 1] _ _ from ?_)
    refine SOps.q rfl (.plain rfl) rfl (q_call (chargenetlaw10_exampleHolds_ok F  c_4 g5) [] rfl fn9 trivial (.inl rfl)) ?_
    refine SOps.q rfl (.plain rfl) rfl (q_assign rfl rfl) ?_
    refine SOps.sub (st' := ⟨[(4, .c (.bool c_4))], []⟩) (sub_gen [] rfl rfl ⟨zc rfl rfl, trivial⟩ trivial) ?_
    refine SOps.nil ?_
    refine SCode.ret ?_
    obtain rfl := Option.some.inj h
    exact ⟨⟨[(4, .c (.bool c_4))], []⟩, _, sub_gen [] rfl rfl ⟨zc rfl rfl, trivial⟩ trivial, resA1 (v := .c (.bool c_4)) rfl rfl, rfl⟩
  refine SCode.cond_f rfl g3 ?_
  refine SCode.skip ?_
  refine SCode.seq ?_
  obtain ⟨c_6, g7, h⟩ := bind_out h
  try dsimp only at h
  refine SCode.region (show SOps _ _ _ [0, 1, 2, 3, 4, 5, 6, 7, 8] _ _ from ?_)
  refine SOps.q rfl (.plain rfl) rfl (q_move rfl rfl) ?_
  refine SOps.q rfl (.plain rfl) rfl (q_move rfl rfl) ?_
  refine SOps.q rfl (.plain rfl) rfl (q_makeBound (cs := [.vec a1_rules.length 2 (gL cSRule dSRule a1_rules)]) 1000017 rfl rfl rfl) ?_
  refine SOps.q rfl (.plain rfl) rfl (q_call (chargenetlaw10_fill_f1_1000017_ok F a0_caps a1_rules c_6 g7) [] rfl fn16 ⟨⟨_, rfl, .inl ⟨rfl, rfl⟩⟩, ⟨_, rfl, .inl ⟨rfl, rfl⟩⟩, trivial⟩ (.inl rfl)) ?_
  refine SOps.q rfl (.plain rfl) rfl (q_move rfl rfl) ?_
  refine SOps.q rfl (.plain rfl) rfl (q_extract rfl rfl rfl) ?_
  refine SOps.q rfl (.plain rfl) rfl (q_extract rfl rfl rfl) ?_
  refine SOps.q rfl (.plain rfl) rfl (q_assign rfl rfl) ?_
  refine SOps.q rfl (.plain rfl) rfl (q_assign rfl rfl) ?_
  refine SOps.sub (st' := ⟨[(0, .c (vI a0_caps)), (1, .c (.vec a1_rules.length 2 (gL cSRule dSRule a1_rules))), (5, .c (vI c_6.1)), (6, .c (.bool c_6.2))], []⟩) (sub_gen [] rfl rfl ⟨zc rfl rfl, zc rfl rfl, zc rfl rfl, zc rfl rfl, trivial⟩ trivial) ?_
  refine SOps.nil ?_
  refine SCode.seq ?_
  refine SCode.seq ?_
  refine SCode.region (show SOps _ _ _ [0, 1] _ _ from ?_)
  refine SOps.q rfl (.plain rfl) rfl (q_move rfl rfl) ?_
  refine SOps.q rfl (.plain rfl) rfl (q_not rfl rfl) ?_
  refine SOps.sub (st' := ⟨[(0, .c (vI a0_caps)), (1, .c (.vec a1_rules.length 2 (gL cSRule dSRule a1_rules))), (5, .c (vI c_6.1)), (21, .c (.bool ((!c_6.2))))], []⟩) (sub_gen [] rfl rfl ⟨zc rfl rfl, zc rfl rfl, zc rfl rfl, zc rfl rfl, trivial⟩ trivial) ?_
  refine SOps.nil ?_
  rcases cond_out h with ⟨g8, h⟩ | ⟨g8, h⟩
  · refine SCode.cond_t rfl g8 ?_
    refine SCode.seq ?_
    obtain ⟨c_9, g10, h⟩ := bind_out h
    try dsimp only at h
    refine SCode.region (show SOps _ _ _ [0, 1] _ _ from ?_)
    refine SOps.q rfl (.plain rfl) rfl (q_call (chargenetlaw10_exampleHolds_ok F  c_9 g10) [] rfl fn9 trivial (.inl rfl)) ?_
    refine SOps.q rfl (.plain rfl) rfl (q_assign rfl rfl) ?_
    refine SOps.sub (st' := ⟨[(4, .c (.bool c_9))], []⟩) (sub_gen [] rfl rfl ⟨zc rfl rfl, trivial⟩ trivial) ?_
    refine SOps.nil ?_
    refine SCode.ret ?_
    obtain rfl := Option.some.inj h
    exact ⟨⟨[(4, .c (.bool c_9))], []⟩, _, sub_gen [] rfl rfl ⟨zc rfl rfl, trivial⟩ trivial, resA1 (v := .c (.bool c_9)) rfl rfl, rfl⟩
  refine SCode.cond_f rfl g8 ?_
  refine SCode.skip ?_
  refine SCode.seq ?_
  refine SCode.seq ?_
  rcases cond_out h with ⟨g11, h⟩ | ⟨g11, h⟩
  · refine SCode.region (show SOps _ _ _ [0, 1, 2, 3, 4, 5, 6, 7, 8, 9, 10] _ _ from ?_)
    refine SOps.q rfl (.plain rfl) rfl (q_move rfl rfl) ?_
    refine SOps.q rfl (.plain rfl) rfl (q_len_vec rfl rfl sl22) ?_
    refine SOps.q rfl (.plain rfl) rfl (q_move rfl rfl) ?_
    refine SOps.q rfl (.plain rfl) rfl (q_len_vec rfl rfl sl22) ?_
    refine SOps.q rfl (.plain rfl) rfl (q_neq rfl rfl rfl) ?_
    refine SOps.q rfl (.plain rfl) rfl (q_move rfl rfl) ?_
    refine SOps.skip rfl 5 28 false rfl rfl (.inl (gT g11)) rfl ?_
    refine SOps.skip rfl 5 28 false rfl rfl (.inl (gT g11)) rfl ?_
    refine SOps.skip rfl 5 28 false rfl rfl (.inl (gT g11)) rfl ?_
    refine SOps.skip rfl 5 28 false rfl rfl (.inl (gT g11)) rfl ?_
    refine SOps.q rfl (.plain rfl) rfl (q_pick_t rfl rfl g11 rfl) ?_
    refine SOps.sub (st' := ⟨[(0, .c (vI a0_caps)), (1, .c (.vec a1_rules.length 2 (gL cSRule dSRule a1_rules))), (5, .c (vI c_6.1)), (33, .c (.bool true))], []⟩) (sub_gen [] rfl rfl ⟨zc rfl rfl, zc rfl rfl, zc rfl rfl, zc rfl rfl, trivial⟩ trivial) ?_
    refine SOps.nil ?_
    refine SCode.cond_t rfl rfl ?_
    refine SCode.seq ?_
    refine SCode.region (show SOps _ _ _ [0] _ _ from ?_)
    refine SOps.q rfl (.plain rfl) rfl (q_assign rfl rfl) ?_
    refine SOps.sub (st' := ⟨[(4, .c (.bool false))], []⟩) (sub_gen [] rfl rfl ⟨zc rfl rfl, trivial⟩ trivial) ?_
    refine SOps.nil ?_
    refine SCode.ret ?_
    obtain rfl := Option.some.inj h
    exact ⟨⟨[(4, .c (.bool false))], []⟩, _, sub_gen [] rfl rfl ⟨zc rfl rfl, trivial⟩ trivial, resA1 (v := .c (.bool false)) rfl rfl, rfl⟩
  obtain ⟨c_12, g13, h⟩ := bind_out h
  try dsimp only at h
  refine SCode.region (show SOps _ _ _ [0, 1, 2, 3, 4, 5, 6, 7, 8, 9, 10] _ _ from ?_)
  refine SOps.q rfl (.plain rfl) rfl (q_move rfl rfl) ?_
  refine SOps.q rfl (.plain rfl) rfl (q_len_vec rfl rfl sl22) ?_
  refine SOps.q rfl (.plain rfl) rfl (q_move rfl rfl) ?_
  refine SOps.q rfl (.plain rfl) rfl (q_len_vec rfl rfl sl22) ?_
  refine SOps.q rfl (.plain rfl) rfl (q_neq rfl rfl rfl) ?_
  refine SOps.q rfl (.plain rfl) rfl (q_move rfl rfl) ?_
  refine SOps.q rfl (.guard 5 28 false rfl rfl (gF g11)) rfl (q_move rfl rfl) ?_
  refine SOps.q rfl (.guard 5 28 false rfl rfl (gF g11)) rfl (q_move rfl rfl) ?_
  refine SOps.q rfl (.guard 5 28 false rfl rfl (gF g11)) rfl (q_call (chargenetref10_Rules_Fits_ok F a1_rules c_6.1 c_12 g13) [] rfl fn17 ⟨⟨_, rfl, .inl ⟨rfl, rfl⟩⟩, ⟨_, rfl, .inl ⟨rfl, rfl⟩⟩, trivial⟩ (.inl rfl)) ?_
  refine SOps.q rfl (.guard 5 28 false rfl rfl (gF g11)) rfl (q_not rfl rfl) ?_
  refine SOps.q rfl (.plain rfl) rfl (q_pick_f rfl rfl g11 rfl) ?_
  refine SOps.sub (st' := ⟨[(0, .c (vI a0_caps)), (1, .c (.vec a1_rules.length 2 (gL cSRule dSRule a1_rules))), (5, .c (vI c_6.1)), (33, .c (.bool ((!c_12))))], []⟩) (sub_gen [] rfl rfl ⟨zc rfl rfl, zc rfl rfl, zc rfl rfl, zc rfl rfl, trivial⟩ trivial) ?_
  refine SOps.nil ?_
  rcases cond_out h with ⟨g14, h⟩ | ⟨g14, h⟩
  · refine SCode.cond_t rfl g14 ?_
    refine SCode.seq ?_
    refine SCode.region (show SOps _ _ _ [0] _ _ from ?_)
    refine SOps.q rfl (.plain rfl) rfl (q_assign rfl rfl) ?_
    refine SOps.sub (st' := ⟨[(4, .c (.bool false))], []⟩) (sub_gen [] rfl rfl ⟨zc rfl rfl, trivial⟩ trivial) ?_
    refine SOps.nil ?_
    refine SCode.ret ?_
    obtain rfl := Option.some.inj h
    exact ⟨⟨[(4, .c (.bool false))], []⟩, _, sub_gen [] rfl rfl ⟨zc rfl rfl, trivial⟩ trivial, resA1 (v := .c (.bool false)) rfl rfl, rfl⟩
  refine SCode.cond_f rfl g14 ?_
  refine SCode.skip ?_
  refine SCode.join (σ := Unit) (S := fun s => ⟨[], []⟩) (g := fun s => chargenetlaw10_FairFull_p15 = some r) ?_ ?_
  rotate_left
  · refine SCode.seq ?_
    refine SCode.region (show SOps _ _ _ [0, 1, 2] _ _ from ?_)
    refine SOps.q rfl (.plain rfl) rfl (q_move rfl rfl) ?_
    refine SOps.q rfl (.plain rfl) rfl (q_len_vec rfl rfl sl22) ?_
    refine SOps.q rfl (.plain rfl) rfl (q_move rfl rfl) ?_
    refine SOps.sub (st' := ⟨[(0, .c (vI a0_caps)), (1, .c (.vec a1_rules.length 2 (gL cSRule dSRule a1_rules))), (5, .c (vI c_6.1)), (35, .c (.int .i64 (((c_6.1).length : Int)))), (36, .c (.int .i64 0))], []⟩) (sub_gen [] rfl rfl ⟨zc rfl rfl, zc rfl rfl, zc rfl rfl, zc rfl rfl, zc rfl rfl, trivial⟩ trivial) ?_
    refine SOps.nil ?_
    refine SCode.block ?_
    refine SCode.sub (st' := ⟨[(0, .c (vI a0_caps)), (1, .c (.vec a1_rules.length 2 (gL cSRule dSRule a1_rules))), (5, .c (vI c_6.1)), (35, .c (.int .i64 (((c_6.1).length : Int)))), (36, .c (.int .i64 0))], []⟩) (sub_gen [] rfl rfl ⟨zc rfl rfl, zc rfl rfl, zc rfl rfl, zc rfl rfl, zc rfl rfl, trivial⟩ trivial) ?_
    refine (SCode.loop (σ := Nat × Int) (S := fun s => ⟨[(0, .c (vI a0_caps)), (1, .c (.vec a1_rules.length 2 (gL cSRule dSRule a1_rules))), (5, .c (vI c_6.1)), (35, .c (.int .i64 (((c_6.1).length : Int)))), (36, .c (.int .i64 s.2))], []⟩) (g := fun s => chargenetlaw10_FairFull_l51 F a0_caps a1_rules c_6 s.1 s.2 = some r) (μ := fun s => s.1) (F, 0) h ?_)
    rintro ⟨n_51, t36_33⟩ h
    replace h : chargenetlaw10_FairFull_l51 F a0_caps a1_rules c_6 n_51 t36_33 = some r := h
    show SCode _ _ _ ⟨[(0, .c (vI a0_caps)), (1, .c (.vec a1_rules.length 2 (gL cSRule dSRule a1_rules))), (5, .c (vI c_6.1)), (35, .c (.int .i64 (((c_6.1).length : Int)))), (36, .c (.int .i64 t36_33))], []⟩ _
    cases n_51 with
    | zero => cases h
    | succ n_51 =>
      replace h : chargenetlaw10_FairFull_b51 F a0_caps a1_rules c_6 (fun t36_33 => chargenetlaw10_FairFull_l51 F a0_caps a1_rules c_6 n_51 t36_33) t36_33 = some r := h
      unfold chargenetlaw10_FairFull_b51 at h
      refine SCode.seq ?_
      refine SCode.region (show SOps _ _ _ [0] _ _ from ?_)
      refine SOps.q rfl (.plain rfl) rfl (q_lss rfl rfl rfl) ?_
      refine SOps.sub (st' := ⟨[(0, .c (vI a0_caps)), (1, .c (.vec a1_rules.length 2 (gL cSRule dSRule a1_rules))), (5, .c (vI c_6.1)), (35, .c (.int .i64 (((c_6.1).length : Int)))), (36, .c (.int .i64 t36_33)), (37, .c (.bool (decide (t36_33 < ((c_6.1).length : Int)))))], []⟩) (sub_gen [] rfl rfl ⟨zc rfl rfl, zc rfl rfl, zc rfl rfl, zc rfl rfl, zc rfl rfl, zc rfl rfl, trivial⟩ trivial) ?_
      refine SOps.nil ?_
      refine SCode.seq ?_
      rcases cond_out h with ⟨g52, h⟩ | ⟨g52, h⟩
      · refine SCode.cond_t rfl g52 ?_
        refine SCode.skip ?_
        refine SCode.join (σ := Unit) (S := fun s => ⟨[(0, .c (vI a0_caps)), (1, .c (.vec a1_rules.length 2 (gL cSRule dSRule a1_rules))), (5, .c (vI c_6.1)), (35, .c (.int .i64 (((c_6.1).length : Int)))), (36, .c (.int .i64 t36_33))], []⟩) (g := fun s => chargenetlaw10_FairFull_p53 t36_33 (fun t36_33 => chargenetlaw10_FairFull_l51 F a0_caps a1_rules c_6 n_51 t36_33) = some r) ?_ ?_
        rotate_left
        · refine SCode.block ?_
          refine SCode.seq ?_
          refine SCode.region (show SOps _ _ _ [0, 1] _ _ from ?_)
          refine SOps.q rfl (.plain rfl) rfl (q_move rfl rfl) ?_
          refine SOps.q rfl (.plain rfl) rfl (q_assign rfl rfl) ?_
          refine SOps.sub (st' := ⟨[(0, .c (vI a0_caps)), (1, .c (.vec a1_rules.length 2 (gL cSRule dSRule a1_rules))), (5, .c (vI c_6.1)), (7, .c (.int .i64 t36_33)), (35, .c (.int .i64 (((c_6.1).length : Int)))), (36, .c (.int .i64 t36_33))], []⟩) (sub_gen [] rfl rfl ⟨zc rfl rfl, zc rfl rfl, zc rfl rfl, zc rfl rfl, zc rfl rfl, zc rfl rfl, trivial⟩ trivial) ?_
          refine SOps.nil ?_
          refine SCode.seq ?_
          refine SCode.seq ?_
          obtain ⟨g54, h⟩ := guard_out h
          rcases cond_out h with ⟨g55, h⟩ | ⟨g55, h⟩
          · refine SCode.draw (s' := [(54, .c (.bool true)), (53, .c (.raw (.tuple #[]))), (52, .c (.raw (.tuple #[]))), (51, .c (.raw (.tuple #[]))), (50, .c (.raw (.tuple #[]))), (49, .c (.raw (.tuple #[]))), (48, .c (.raw (.tuple #[]))), (47, .c (.raw (.tuple #[]))), (46, .c (.raw (.tuple #[]))), (45, .c (.raw (.tuple #[]))), (44, .c (.bool (decide (c_6.1.getD t36_33.toNat 0 < 0)))), (43, .c (.bool (decide (c_6.1.getD t36_33.toNat 0 < 0)))), (42, .c (.int .i64 (c_6.1.getD t36_33.toNat 0))), (41, .c (.eptr 1 ((cInt .i64) (c_6.1.getD t36_33.toNat 0)) 0)), (40, .c (.int .i64 t36_33)), (39, .c (vI c_6.1)), (0, .c (vI a0_caps)), (1, .c (.vec a1_rules.length 2 (gL cSRule dSRule a1_rules))), (5, .c (vI c_6.1)), (7, .c (.int .i64 t36_33)), (35, .c (.int .i64 (((c_6.1).length : Int)))), (36, .c (.int .i64 t36_33))]) mixed [[], [], [0, 1], [0, 1, 2], [0, 1, 2, 3], [0, 1, 2, 3, 4], [0, 1, 2, 3, 4, 5], [0, 1, 2, 3, 4, 5], [0, 1, 2, 3, 4, 5, 6, 7], [0, 1, 2, 3, 4, 5, 6, 7, 8], [0, 1, 2, 3, 4, 5], [0, 1, 2, 3, 4, 5], [0, 1, 2, 3, 4, 5, 10, 11], [0, 1, 2, 3, 4, 5, 10, 11, 12], [0, 1, 2, 3, 4, 5, 6, 7, 8, 9, 10, 11, 12, 13], [0, 1, 2, 3, 4, 5, 6, 7, 8, 9, 10, 11, 12, 13, 14]] 16 0 rfl rfl ?_ ?_
            · refine QChain.run rfl (.plain rfl) rfl (q_move rfl rfl) ?_
              refine QChain.run rfl (.plain rfl) rfl (q_move rfl rfl) ?_
              refine QChain.run rfl (.plain rfl) rfl (q_index_vec rfl rfl rfl sl22 rfl g54.1 g54.2) ?_
              refine QChain.run rfl (.plain rfl) rfl (q_load_eptr rfl rfl ty3) ?_
              refine QChain.run rfl (.plain rfl) rfl (q_lss rfl rfl rfl) ?_
              refine QChain.run rfl (.plain rfl) rfl (q_move rfl rfl) ?_
              refine QChain.skip rfl ⟨5, 44, false, rfl, rfl, (.inl (gT g55))⟩ rfl ?_
              refine QChain.skip rfl ⟨5, 44, false, rfl, rfl, (.inl (gT g55))⟩ rfl ?_
              refine QChain.skip rfl ⟨5, 44, false, rfl, rfl, (.inl (gT g55))⟩ rfl ?_
              refine QChain.skip rfl ⟨5, 44, false, rfl, rfl, (.inl (gT g55))⟩ rfl ?_
              refine QChain.skip rfl ⟨5, 44, false, rfl, rfl, (.inl (gT g55))⟩ rfl ?_
              refine QChain.skip rfl ⟨5, 44, false, rfl, rfl, (.inl (gT g55))⟩ rfl ?_
              refine QChain.skip rfl ⟨5, 44, false, rfl, rfl, (.inl (gT g55))⟩ rfl ?_
              refine QChain.skip rfl ⟨5, 44, false, rfl, rfl, (.inl (gT g55))⟩ rfl ?_
              refine QChain.skip rfl ⟨5, 44, false, rfl, rfl, (.inl (gT g55))⟩ rfl ?_
              refine QChain.run rfl (.plain rfl) rfl (q_pick_t rfl rfl g55 rfl) ?_
              exact QChain.nil _ _
            refine (show SOps _ _ _ [] _ _ from ?_)
            refine SOps.sub (st' := ⟨[(0, .c (vI a0_caps)), (1, .c (.vec a1_rules.length 2 (gL cSRule dSRule a1_rules))), (5, .c (vI c_6.1)), (7, .c (.int .i64 t36_33)), (35, .c (.int .i64 (((c_6.1).length : Int)))), (36, .c (.int .i64 t36_33)), (54, .c (.bool true))], []⟩) (sub_gen [] rfl rfl ⟨zc rfl rfl, zc rfl rfl, zc rfl rfl, zc rfl rfl, zc rfl rfl, zc rfl rfl, zc rfl rfl, trivial⟩ trivial) ?_
            refine SOps.nil ?_
            refine SCode.cond_t rfl rfl ?_
            refine SCode.seq ?_
            refine SCode.region (show SOps _ _ _ [0] _ _ from ?_)
            refine SOps.q rfl (.plain rfl) rfl (q_assign rfl rfl) ?_
            refine SOps.sub (st' := ⟨[(4, .c (.bool false))], []⟩) (sub_gen [] rfl rfl ⟨zc rfl rfl, trivial⟩ trivial) ?_
            refine SOps.nil ?_
            refine SCode.ret ?_
            obtain rfl := Option.some.inj h
            exact ⟨⟨[(4, .c (.bool false))], []⟩, _, sub_gen [] rfl rfl ⟨zc rfl rfl, trivial⟩ trivial, resA1 (v := .c (.bool false)) rfl rfl, rfl⟩
          obtain ⟨g56, h⟩ := guard_out h
          obtain ⟨g57, h⟩ := guard_out h
          refine SCode.draw (s' := [(54, .c (.bool (decide (a0_caps.getD t36_33.toNat 0 < c_6.1.getD t36_33.toNat 0)))), (53, .c (.bool (decide (a0_caps.getD t36_33.toNat 0 < c_6.1.getD t36_33.toNat 0)))), (52, .c (.int .i64 (a0_caps.getD t36_33.toNat 0))), (51, .c (.eptr 1 ((cInt .i64) (a0_caps.getD t36_33.toNat 0)) 0)), (50, .c (.int .i64 t36_33)), (49, .c (vI a0_caps)), (48, .c (.int .i64 (c_6.1.getD t36_33.toNat 0))), (47, .c (.eptr 1 ((cInt .i64) (c_6.1.getD t36_33.toNat 0)) 0)), (46, .c (.int .i64 t36_33)), (45, .c (vI c_6.1)), (44, .c (.bool (decide (c_6.1.getD t36_33.toNat 0 < 0)))), (43, .c (.bool (decide (c_6.1.getD t36_33.toNat 0 < 0)))), (42, .c (.int .i64 (c_6.1.getD t36_33.toNat 0))), (41, .c (.eptr 1 ((cInt .i64) (c_6.1.getD t36_33.toNat 0)) 0)), (40, .c (.int .i64 t36_33)), (39, .c (vI c_6.1)), (0, .c (vI a0_caps)), (1, .c (.vec a1_rules.length 2 (gL cSRule dSRule a1_rules))), (5, .c (vI c_6.1)), (7, .c (.int .i64 t36_33)), (35, .c (.int .i64 (((c_6.1).length : Int)))), (36, .c (.int .i64 t36_33))]) mixed [[], [], [0, 1], [0, 1, 2], [0, 1, 2, 3], [0, 1, 2, 3, 4], [0, 1, 2, 3, 4, 5], [0, 1, 2, 3, 4, 5], [0, 1, 2, 3, 4, 5, 6, 7], [0, 1, 2, 3, 4, 5, 6, 7, 8], [0, 1, 2, 3, 4, 5], [0, 1, 2, 3, 4, 5], [0, 1, 2, 3, 4, 5, 10, 11], [0, 1, 2, 3, 4, 5, 10, 11, 12], [0, 1, 2, 3, 4, 5, 6, 7, 8, 9, 10, 11, 12, 13], [0, 1, 2, 3, 4, 5, 6, 7, 8, 9, 10, 11, 12, 13, 14]] 16 0 rfl rfl ?_ ?_
          · refine QChain.run rfl (.plain rfl) rfl (q_move rfl rfl) ?_
            refine QChain.run rfl (.plain rfl) rfl (q_move rfl rfl) ?_
            refine QChain.run rfl (.plain rfl) rfl (q_index_vec rfl rfl rfl sl22 rfl g54.1 g54.2) ?_
            refine QChain.run rfl (.plain rfl) rfl (q_load_eptr rfl rfl ty3) ?_
            refine QChain.run rfl (.plain rfl) rfl (q_lss rfl rfl rfl) ?_
            refine QChain.run rfl (.plain rfl) rfl (q_move rfl rfl) ?_
            refine QChain.run rfl (.guard 5 44 false rfl rfl (gF g55)) rfl (q_move rfl rfl) ?_
            refine QChain.run rfl (.guard 5 44 false rfl rfl (gF g55)) rfl (q_move rfl rfl) ?_
            refine QChain.run rfl (.guard 5 44 false rfl rfl (gF g55)) rfl (q_index_vec rfl rfl rfl sl22 rfl g56.1 g56.2) ?_
            refine QChain.run rfl (.guard 5 44 false rfl rfl (gF g55)) rfl (q_load_eptr rfl rfl ty3) ?_
            refine QChain.run rfl (.guard 5 44 false rfl rfl (gF g55)) rfl (q_move rfl rfl) ?_
            refine QChain.run rfl (.guard 5 44 false rfl rfl (gF g55)) rfl (q_move rfl rfl) ?_
            refine QChain.run rfl (.guard 5 44 false rfl rfl (gF g55)) rfl (q_index_vec rfl rfl rfl sl22 rfl g57.1 g57.2) ?_
            refine QChain.run rfl (.guard 5 44 false rfl rfl (gF g55)) rfl (q_load_eptr rfl rfl ty3) ?_
            refine QChain.run rfl (.guard 5 44 false rfl rfl (gF g55)) rfl (q_gtr rfl rfl rfl) ?_
            refine QChain.run rfl (.plain rfl) rfl (q_pick_f rfl rfl g55 rfl) ?_
            exact QChain.nil _ _
          refine (show SOps _ _ _ [] _ _ from ?_)
          refine SOps.sub (st' := ⟨[(0, .c (vI a0_caps)), (1, .c (.vec a1_rules.length 2 (gL cSRule dSRule a1_rules))), (5, .c (vI c_6.1)), (7, .c (.int .i64 t36_33)), (35, .c (.int .i64 (((c_6.1).length : Int)))), (36, .c (.int .i64 t36_33)), (54, .c (.bool (decide (a0_caps.getD t36_33.toNat 0 < c_6.1.getD t36_33.toNat 0))))], []⟩) (sub_gen [] rfl rfl ⟨zc rfl rfl, zc rfl rfl, zc rfl rfl, zc rfl rfl, zc rfl rfl, zc rfl rfl, zc rfl rfl, trivial⟩ trivial) ?_
          refine SOps.nil ?_
          rcases cond_out h with ⟨g58, h⟩ | ⟨g58, h⟩
          · refine SCode.cond_t rfl g58 ?_
            refine SCode.seq ?_
            refine SCode.region (show SOps _ _ _ [0] _ _ from ?_)
            refine SOps.q rfl (.plain rfl) rfl (q_assign rfl rfl) ?_
            refine SOps.sub (st' := ⟨[(4, .c (.bool false))], []⟩) (sub_gen [] rfl rfl ⟨zc rfl rfl, trivial⟩ trivial) ?_
            refine SOps.nil ?_
            refine SCode.ret ?_
            obtain rfl := Option.some.inj h
            exact ⟨⟨[(4, .c (.bool false))], []⟩, _, sub_gen [] rfl rfl ⟨zc rfl rfl, trivial⟩ trivial, resA1 (v := .c (.bool false)) rfl rfl, rfl⟩
          refine SCode.cond_f rfl g58 ?_
          refine SCode.skip ?_
          refine SCode.seq ?_
          obtain ⟨c_59, g60, h⟩ := bind_out h
          try dsimp only at h
          refine SCode.region (show SOps _ _ _ [0, 1, 2] _ _ from ?_)
          refine SOps.q rfl (.plain rfl) rfl (q_move rfl rfl) ?_
          refine SOps.e rfl (.plain rfl) (e_call (slices_Clone_int_int_own_ok F c_6.1 c_59 g60) [] rfl fn18 rfl rfl rfl rfl rfl rfl rfl rfl) ?_
          refine SOps.q rfl (.plain rfl) rfl (q_assign rfl rfl) ?_
          refine SOps.sub (st' := ⟨[(0, .c (vI a0_caps)), (1, .c (.vec a1_rules.length 2 (gL cSRule dSRule a1_rules))), (5, .c (vI c_6.1)), (7, .c (.int .i64 t36_33)), (8, .c (.own 0 c_59.length)), (35, .c (.int .i64 (((c_6.1).length : Int)))), (36, .c (.int .i64 t36_33))], [aI 3 c_59]⟩) (sub_gen [0] rfl rfl ⟨zc rfl rfl, zc rfl rfl, zc rfl rfl, zc rfl rfl, zc rfl rfl, zc rfl rfl, zc rfl rfl, trivial⟩ ⟨oa rfl, trivial⟩) ?_
          refine SOps.nil ?_
          refine SCode.seq ?_
          obtain ⟨g61, h⟩ := guard_out h
          obtain ⟨g62, h⟩ := guard_out h
          refine SCode.region (show SOps _ _ _ [0, 1, 2, 3, 4, 5, 6] _ _ from ?_)
          refine SOps.q rfl (.plain rfl) rfl (q_move rfl rfl) ?_
          refine SOps.q rfl (.plain rfl) rfl (q_move rfl rfl) ?_
          refine SOps.q rfl (.plain rfl) rfl (q_index_own rfl rfl rfl sl22 g61.1 g61.2) ?_
          refine SOps.q rfl (.plain rfl) rfl (q_load_aptr rfl rfl rfl (toNat_lt g61) rfl ty3) ?_
          refine SOps.q rfl (.plain rfl) rfl (q_add rfl rfl rfl) ?_
          refine SOps.q rfl (.plain rfl) rfl (q_index_own rfl rfl rfl sl22 g62.1 g62.2) ?_
          refine SOps.e rfl (.plain rfl) (e_storeL (IntKind.wrap .i64 (c_59.getD t36_33.toNat 0 + 1)) rfl rfl rfl rfl rfl (toNat_lt g62) ty3 rfl rfl rfl rfl rfl rfl) ?_
          refine SOps.sub (st' := ⟨[(0, .c (vI a0_caps)), (1, .c (.vec a1_rules.length 2 (gL cSRule dSRule a1_rules))), (5, .c (vI c_6.1)), (7, .c (.int .i64 t36_33)), (8, .c (.own 0 (c_59.set t36_33.toNat (IntKind.wrap .i64 (c_59.getD t36_33.toNat 0 + 1))).length)), (35, .c (.int .i64 (((c_6.1).length : Int)))), (36, .c (.int .i64 t36_33))], [aI 3 (c_59.set t36_33.toNat (IntKind.wrap .i64 (c_59.getD t36_33.toNat 0 + 1)))]⟩) (sub_gen [0] rfl rfl ⟨zc rfl rfl, zc rfl rfl, zc rfl rfl, zc rfl rfl, ⟨_, rfl, .inl ⟨rfl, congrArg (Cell.own 0) (List.length_set : (c_59.set t36_33.toNat (IntKind.wrap .i64 (c_59.getD t36_33.toNat 0 + 1))).length = c_59.length).symm⟩⟩, zc rfl rfl, zc rfl rfl, trivial⟩ ⟨oa rfl, trivial⟩) ?_
          refine SOps.nil ?_
          refine SCode.seq ?_
          obtain ⟨g63, h⟩ := guard_out h
          obtain ⟨g64, h⟩ := guard_out h
          rcases cond_out h with ⟨g65, h⟩ | ⟨g65, h⟩
          · obtain ⟨c_66, g67, h⟩ := bind_out h
            try dsimp only at h
            refine SCode.draw (s' := [(76, .c (.bool c_66)), (75, .c (.bool c_66)), (74, .c (.own 0 (c_59.set t36_33.toNat (IntKind.wrap .i64 (c_59.getD t36_33.toNat 0 + 1))).length)), (73, .c (.vec a1_rules.length 2 (gL cSRule dSRule a1_rules))), (72, .c (.bool (decide (c_6.1.getD t36_33.toNat 0 < a0_caps.getD t36_33.toNat 0)))), (71, .c (.bool (decide (c_6.1.getD t36_33.toNat 0 < a0_caps.getD t36_33.toNat 0)))), (70, .c (.int .i64 (a0_caps.getD t36_33.toNat 0))), (69, .c (.eptr 1 ((cInt .i64) (a0_caps.getD t36_33.toNat 0)) 0)), (68, .c (.int .i64 t36_33)), (67, .c (vI a0_caps)), (66, .c (.int .i64 (c_6.1.getD t36_33.toNat 0))), (65, .c (.eptr 1 ((cInt .i64) (c_6.1.getD t36_33.toNat 0)) 0)), (64, .c (.int .i64 t36_33)), (63, .c (vI c_6.1)), (0, .c (vI a0_caps)), (1, .c (.vec a1_rules.length 2 (gL cSRule dSRule a1_rules))), (5, .c (vI c_6.1)), (7, .c (.int .i64 t36_33)), (8, .c (.own 0 (c_59.set t36_33.toNat (IntKind.wrap .i64 (c_59.getD t36_33.toNat 0 + 1))).length)), (35, .c (.int .i64 (((c_6.1).length : Int)))), (36, .c (.int .i64 t36_33))]) mixed [[], [], [0, 1], [0, 1, 2], [], [], [4, 5], [4, 5, 6], [0, 1, 2, 3, 4, 5, 6, 7], [0, 1, 2, 3, 4, 5, 6, 7, 8], [0, 1, 2, 3, 4, 5, 6, 7, 8, 9], [0, 1, 2, 3, 4, 5, 6, 7, 8, 9], [0, 1, 2, 3, 4, 5, 6, 7, 8, 9, 10, 11], [0, 1, 2, 3, 4, 5, 6, 7, 8, 9, 10, 11, 12]] 14 0 rfl rfl ?_ ?_
            · refine QChain.run rfl (.plain rfl) rfl (q_move rfl rfl) ?_
              refine QChain.run rfl (.plain rfl) rfl (q_move rfl rfl) ?_
              refine QChain.run rfl (.plain rfl) rfl (q_index_vec rfl rfl rfl sl22 rfl g63.1 g63.2) ?_
              refine QChain.run rfl (.plain rfl) rfl (q_load_eptr rfl rfl ty3) ?_
              refine QChain.run rfl (.plain rfl) rfl (q_move rfl rfl) ?_
              refine QChain.run rfl (.plain rfl) rfl (q_move rfl rfl) ?_
              refine QChain.run rfl (.plain rfl) rfl (q_index_vec rfl rfl rfl sl22 rfl g64.1 g64.2) ?_
              refine QChain.run rfl (.plain rfl) rfl (q_load_eptr rfl rfl ty3) ?_
              refine QChain.run rfl (.plain rfl) rfl (q_lss rfl rfl rfl) ?_
              refine QChain.run rfl (.plain rfl) rfl (q_move rfl rfl) ?_
              refine QChain.run rfl (.guard 9 72 true rfl rfl (gT g65)) rfl (q_move rfl rfl) ?_
              refine QChain.run rfl (.guard 9 72 true rfl rfl (gT g65)) rfl (q_move rfl rfl) ?_
              refine QChain.run rfl (.guard 9 72 true rfl rfl (gT g65)) rfl (q_call (chargenetref10_Rules_Fits_ok F a1_rules (c_59.set t36_33.toNat (IntKind.wrap .i64 (c_59.getD t36_33.toNat 0 + 1))) c_66 g67) [0] rfl fn17 ⟨⟨_, rfl, .inl ⟨rfl, rfl⟩⟩, ⟨_, rfl, .inr (.inl ⟨_, _, _, _, _, _, _, rfl, rfl, rfl, Nat.le_refl _, fun _ _ _ _ => rfl, (.head _)⟩)⟩, trivial⟩ (.inr rfl)) ?_
              refine QChain.run rfl (.plain rfl) rfl (q_pick_t rfl rfl g65 rfl) ?_
              exact QChain.nil _ _
            refine (show SOps _ _ _ [] _ _ from ?_)
            refine SOps.sub (st' := ⟨[(0, .c (vI a0_caps)), (1, .c (.vec a1_rules.length 2 (gL cSRule dSRule a1_rules))), (5, .c (vI c_6.1)), (35, .c (.int .i64 (((c_6.1).length : Int)))), (36, .c (.int .i64 t36_33)), (76, .c (.bool c_66))], []⟩) (sub_gen [] rfl rfl ⟨zc rfl rfl, zc rfl rfl, zc rfl rfl, zc rfl rfl, zc rfl rfl, zc rfl rfl, trivial⟩ trivial) ?_
            refine SOps.nil ?_
            rcases cond_out h with ⟨g68, h⟩ | ⟨g68, h⟩
            · refine SCode.cond_t rfl g68 ?_
              refine SCode.seq ?_
              refine SCode.region (show SOps _ _ _ [0] _ _ from ?_)
              refine SOps.q rfl (.plain rfl) rfl (q_assign rfl rfl) ?_
              refine SOps.sub (st' := ⟨[(4, .c (.bool false))], []⟩) (sub_gen [] rfl rfl ⟨zc rfl rfl, trivial⟩ trivial) ?_
              refine SOps.nil ?_
              refine SCode.ret ?_
              obtain rfl := Option.some.inj h
              exact ⟨⟨[(4, .c (.bool false))], []⟩, _, sub_gen [] rfl rfl ⟨zc rfl rfl, trivial⟩ trivial, resA1 (v := .c (.bool false)) rfl rfl, rfl⟩
            refine SCode.cond_f rfl g68 ?_
            refine SCode.skip ?_
            exact ⟨(), h, sub_gen [] rfl rfl ⟨zc rfl rfl, zc rfl rfl, zc rfl rfl, zc rfl rfl, zc rfl rfl, trivial⟩ trivial⟩
          refine SCode.draw (s' := [(76, .c (.bool false)), (75, .c (.raw (.tuple #[]))), (74, .c (.raw (.tuple #[]))), (73, .c (.raw (.tuple #[]))), (72, .c (.bool (decide (c_6.1.getD t36_33.toNat 0 < a0_caps.getD t36_33.toNat 0)))), (71, .c (.bool (decide (c_6.1.getD t36_33.toNat 0 < a0_caps.getD t36_33.toNat 0)))), (70, .c (.int .i64 (a0_caps.getD t36_33.toNat 0))), (69, .c (.eptr 1 ((cInt .i64) (a0_caps.getD t36_33.toNat 0)) 0)), (68, .c (.int .i64 t36_33)), (67, .c (vI a0_caps)), (66, .c (.int .i64 (c_6.1.getD t36_33.toNat 0))), (65, .c (.eptr 1 ((cInt .i64) (c_6.1.getD t36_33.toNat 0)) 0)), (64, .c (.int .i64 t36_33)), (63, .c (vI c_6.1)), (0, .c (vI a0_caps)), (1, .c (.vec a1_rules.length 2 (gL cSRule dSRule a1_rules))), (5, .c (vI c_6.1)), (7, .c (.int .i64 t36_33)), (8, .c (.own 0 (c_59.set t36_33.toNat (IntKind.wrap .i64 (c_59.getD t36_33.toNat 0 + 1))).length)), (35, .c (.int .i64 (((c_6.1).length : Int)))), (36, .c (.int .i64 t36_33))]) mixed [[], [], [0, 1], [0, 1, 2], [], [], [4, 5], [4, 5, 6], [0, 1, 2, 3, 4, 5, 6, 7], [0, 1, 2, 3, 4, 5, 6, 7, 8], [0, 1, 2, 3, 4, 5, 6, 7, 8, 9], [0, 1, 2, 3, 4, 5, 6, 7, 8, 9], [0, 1, 2, 3, 4, 5, 6, 7, 8, 9, 10, 11], [0, 1, 2, 3, 4, 5, 6, 7, 8, 9, 10, 11, 12]] 14 0 rfl rfl ?_ ?_
          · refine QChain.run rfl (.plain rfl) rfl (q_move rfl rfl) ?_
            refine QChain.run rfl (.plain rfl) rfl (q_move rfl rfl) ?_
            refine QChain.run rfl (.plain rfl) rfl (q_index_vec rfl rfl rfl sl22 rfl g63.1 g63.2) ?_
            refine QChain.run rfl (.plain rfl) rfl (q_load_eptr rfl rfl ty3) ?_
            refine QChain.run rfl (.plain rfl) rfl (q_move rfl rfl) ?_
            refine QChain.run rfl (.plain rfl) rfl (q_move rfl rfl) ?_
            refine QChain.run rfl (.plain rfl) rfl (q_index_vec rfl rfl rfl sl22 rfl g64.1 g64.2) ?_
            refine QChain.run rfl (.plain rfl) rfl (q_load_eptr rfl rfl ty3) ?_
            refine QChain.run rfl (.plain rfl) rfl (q_lss rfl rfl rfl) ?_
            refine QChain.run rfl (.plain rfl) rfl (q_move rfl rfl) ?_
            refine QChain.skip rfl ⟨9, 72, true, rfl, rfl, (.inl (gF g65))⟩ rfl ?_
            refine QChain.skip rfl ⟨9, 72, true, rfl, rfl, (.inl (gF g65))⟩ rfl ?_
            refine QChain.skip rfl ⟨9, 72, true, rfl, rfl, (.inl (gF g65))⟩ rfl ?_
            refine QChain.run rfl (.plain rfl) rfl (q_pick_f rfl rfl g65 rfl) ?_
            exact QChain.nil _ _
          refine (show SOps _ _ _ [] _ _ from ?_)
          refine SOps.sub (st' := ⟨[(0, .c (vI a0_caps)), (1, .c (.vec a1_rules.length 2 (gL cSRule dSRule a1_rules))), (5, .c (vI c_6.1)), (35, .c (.int .i64 (((c_6.1).length : Int)))), (36, .c (.int .i64 t36_33)), (76, .c (.bool false))], []⟩) (sub_gen [] rfl rfl ⟨zc rfl rfl, zc rfl rfl, zc rfl rfl, zc rfl rfl, zc rfl rfl, zc rfl rfl, trivial⟩ trivial) ?_
          refine SOps.nil ?_
          refine SCode.cond_f rfl rfl ?_
          refine SCode.skip ?_
          exact ⟨(), h, sub_gen [] rfl rfl ⟨zc rfl rfl, zc rfl rfl, zc rfl rfl, zc rfl rfl, zc rfl rfl, trivial⟩ trivial⟩
        rintro ⟨⟩ h
        show SCode _ _ _ ⟨[(0, .c (vI a0_caps)), (1, .c (.vec a1_rules.length 2 (gL cSRule dSRule a1_rules))), (5, .c (vI c_6.1)), (35, .c (.int .i64 (((c_6.1).length : Int)))), (36, .c (.int .i64 t36_33))], []⟩ _
        replace h : chargenetlaw10_FairFull_p53 t36_33 (fun t36_33 => chargenetlaw10_FairFull_l51 F a0_caps a1_rules c_6 n_51 t36_33) = some r := h
        unfold chargenetlaw10_FairFull_p53 at h
        refine SCode.region (show SOps _ _ _ [0, 1] _ _ from ?_)
        refine SOps.q rfl (.plain rfl) rfl (q_add rfl rfl rfl) ?_
        refine SOps.q rfl (.plain rfl) rfl (q_move rfl rfl) ?_
        refine SOps.sub (st' := ⟨[(0, .c (vI a0_caps)), (1, .c (.vec a1_rules.length 2 (gL cSRule dSRule a1_rules))), (5, .c (vI c_6.1)), (35, .c (.int .i64 (((c_6.1).length : Int)))), (36, .c (.int .i64 (IntKind.wrap .i64 (t36_33 + 1))))], []⟩) (sub_gen [] rfl rfl ⟨zc rfl rfl, zc rfl rfl, zc rfl rfl, zc rfl rfl, zc rfl rfl, trivial⟩ trivial) ?_
        refine SOps.nil ?_
        exact ⟨(n_51, IntKind.wrap .i64 (t36_33 + 1)), h, Nat.lt_succ_self n_51, sub_gen [] rfl rfl ⟨zc rfl rfl, zc rfl rfl, zc rfl rfl, zc rfl rfl, zc rfl rfl, trivial⟩ trivial⟩
      refine SCode.cond_f rfl g52 ?_
      refine SCode.exit ?_
      exact ⟨(), h, sub_gen [] rfl rfl trivial trivial⟩
  rintro ⟨⟩ h
  show SCode _ _ _ ⟨[], []⟩ _
  replace h : chargenetlaw10_FairFull_p15 = some r := h
  unfold chargenetlaw10_FairFull_p15 at h
  refine SCode.seq ?_
  refine SCode.region (show SOps _ _ _ [0] _ _ from ?_)
  refine SOps.q rfl (.plain rfl) rfl (q_assign rfl rfl) ?_
  refine SOps.sub (st' := ⟨[(4, .c (.bool true))], []⟩) (sub_gen [] rfl rfl ⟨zc rfl rfl, trivial⟩ trivial) ?_
  refine SOps.nil ?_
  refine SCode.ret ?_
  obtain rfl := Option.some.inj h
  exact ⟨⟨[(4, .c (.bool true))], []⟩, _, sub_gen [] rfl rfl ⟨zc rfl rfl, trivial⟩ trivial, resA1 (v := .c (.bool true)) rfl rfl, rfl⟩
end Go.Proofs.Ythpblkclpfmbeaa.W
