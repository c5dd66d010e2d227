/- Written by a program of ours (wip/eng/gen.py): the functions compute their models. -/
import Derived.Test.YthpblkclpfmbeaaFacts
import Derived.Test.YthpblkclpfmbeaaV7x8
namespace Go.Proofs.Ythpblkclpfmbeaa.W
open Go Go.Proofs Go.Proofs.Ythpblkclpfmbeaa.E Go.Proofs.Ythpblkclpfmbeaa.M
set_option linter.unusedVariables false
set_option maxRecDepth 100000 in
set_option maxHeartbeats 8000000 in
theorem chargenetlaw10_fill_f1_1000017_ok (F : Nat) (a0_caps : List Int) (a1f0 : List SRule) (r : (List Int) × Bool) (h : chargenetlaw10_fill_f1_1000017 F a0_caps a1f0 = some r) :
    SFun Try.prog 16 [] [.c (vI a0_caps), .c (.fn 1000017 1 (cellsG [.vec a1f0.length 2 (gL cSRule dSRule a1f0)]))] (fun x _ => x = .t [.c (vI r.1), .c (.bool r.2)]) := by
  refine SFun.of (n := 24) Try.func16 rfl rfl rfl ?_
  unfold chargenetlaw10_fill_f1_1000017 at h
  show SCode _ _ _ ⟨[(0, .c (vI a0_caps)), (1, .c (.fn 1000017 1 (cellsG [.vec a1f0.length 2 (gL cSRule dSRule a1f0)])))], []⟩ _
  refine SCode.seq ?_
  refine SCode.region (show SOps _ _ _ [0, 1] _ _ from ?_)
  refine SOps.q rfl (.plain rfl) rfl (q_assign rfl rfl) ?_
  refine SOps.q rfl (.plain rfl) rfl (q_assign rfl rfl) ?_
  refine SOps.sub (st' := ⟨[(0, .c (vI a0_caps)), (1, .c (.fn 1000017 1 (cellsG [.vec a1f0.length 2 (gL cSRule dSRule a1f0)])))], []⟩) (sub_gen [] rfl rfl ⟨zc rfl rfl, zc rfl rfl, trivial⟩ trivial) ?_
  refine SOps.nil ?_
  refine SCode.seq ?_
  obtain ⟨c_1, g2, h⟩ := bind_out h
  try dsimp only at h
  refine SCode.region (show SOps _ _ _ [0, 1, 2, 3, 4, 5, 6, 7] _ _ from ?_)
  refine SOps.q rfl (.plain rfl) rfl (q_move rfl rfl) ?_
  refine SOps.q rfl (.plain rfl) rfl (q_move rfl rfl) ?_
  refine SOps.q rfl (.plain rfl) rfl (q_call (fair_Fill_f1_1000017_ok F a0_caps a1f0 c_1 g2) [] rfl fn19 ⟨⟨_, rfl, .inl ⟨rfl, rfl⟩⟩, ⟨_, rfl, .inl ⟨rfl, rfl⟩⟩, trivial⟩ (.inl rfl)) ?_
  refine SOps.q rfl (.plain rfl) rfl (q_move rfl rfl) ?_
  refine SOps.q rfl (.plain rfl) rfl (q_extract rfl rfl rfl) ?_
  refine SOps.q rfl (.plain rfl) rfl (q_extract rfl rfl rfl) ?_
  refine SOps.q rfl (.plain rfl) rfl (q_assign rfl rfl) ?_
  refine SOps.q rfl (.plain rfl) rfl (q_assign rfl rfl) ?_
  refine SOps.sub (st' := ⟨[(0, .c (vI a0_caps)), (1, .c (.fn 1000017 1 (cellsG [.vec a1f0.length 2 (gL cSRule dSRule a1f0)]))), (6, .c (vI c_1.1)), (7, .c (.int .i64 c_1.2))], []⟩) (sub_gen [] rfl rfl ⟨zc rfl rfl, zc rfl rfl, zc rfl rfl, zc rfl rfl, trivial⟩ trivial) ?_
  refine SOps.nil ?_
  refine SCode.seq ?_
  rcases cond_out h with ⟨g3, h⟩ | ⟨g3, h⟩
  · obtain ⟨g4, h⟩ := guard_out h
    obtain ⟨c_5, g6, h⟩ := bind_out h
    try dsimp only at h
    refine SCode.region (show SOps _ _ _ [0, 1, 2, 3, 4, 5, 6, 7, 8, 9, 10, 11] _ _ from ?_)
    refine SOps.q rfl (.plain rfl) rfl (q_move rfl rfl) ?_
    refine SOps.q rfl (.plain rfl) rfl (q_move rfl rfl) ?_
    refine SOps.q rfl (.plain rfl) rfl (q_eql rfl rfl rfl) ?_
    refine SOps.q rfl (.plain rfl) rfl (q_move rfl rfl) ?_
    refine SOps.q rfl (.guard 3 17 true rfl rfl (gT g3)) rfl (q_move rfl rfl) ?_
    refine SOps.q rfl (.guard 3 17 true rfl rfl (gT g3)) rfl (q_move rfl rfl) ?_
    refine SOps.q rfl (.guard 3 17 true rfl rfl (gT g3)) rfl (q_len_vec rfl rfl sl22) ?_
    refine SOps.e rfl (.guard 3 17 true rfl rfl (gT g3)) (e_makeL (c := (cInt .i64)) (d0 := 0) rfl rfl rfl rfl rfl sl22 z3 rfl rfl rfl g4.1 (Int.le_refl _) g4.2.1 g4.2.2) ?_
    refine SOps.q rfl (.guard 3 17 true rfl rfl (gT g3)) rfl (q_callb (f := 17) (cs := [.vec a1f0.length 2 (gL cSRule dSRule a1f0)]) (chargenetref10_Rules_Fits_ok F a1f0 (List.replicate (((a0_caps).length : Int)).toNat (0 : Int)) c_5 g6) [0] rfl rfl fn17 ⟨⟨_, rfl, .inl ⟨rfl, rfl⟩⟩, ⟨_, rfl, .inr (.inl ⟨_, _, _, _, _, _, _, rfl, rfl, rfl, Nat.le_refl _, fun _ _ _ _ => rfl, (.head _)⟩)⟩, trivial⟩ (.inr rfl)) ?_
    refine SOps.q rfl (.plain rfl) rfl (q_pick_t rfl rfl g3 rfl) ?_
    refine SOps.q rfl (.plain rfl) rfl (q_assign rfl rfl) ?_
    refine SOps.q rfl (.plain rfl) rfl (q_assign rfl rfl) ?_
    refine SOps.sub (st' := ⟨[(4, .c (vI c_1.1)), (5, .c (.bool c_5))], []⟩) (sub_gen [] rfl rfl ⟨zc rfl rfl, zc rfl rfl, trivial⟩ trivial) ?_
    refine SOps.nil ?_
    refine SCode.ret ?_
    obtain rfl := Option.some.inj h
    exact ⟨⟨[(4, .c (vI c_1.1)), (5, .c (.bool c_5))], []⟩, _, sub_gen [] rfl rfl ⟨zc rfl rfl, zc rfl rfl, trivial⟩ trivial, resA2 (v1 := .c (vI c_1.1)) (v2 := .c (.bool c_5)) rfl rfl rfl, rfl⟩
  refine SCode.region (show SOps _ _ _ [0, 1, 2, 3, 4, 5, 6, 7, 8, 9, 10, 11] _ _ from ?_)
  refine SOps.q rfl (.plain rfl) rfl (q_move rfl rfl) ?_
  refine SOps.q rfl (.plain rfl) rfl (q_move rfl rfl) ?_
  refine SOps.q rfl (.plain rfl) rfl (q_eql rfl rfl rfl) ?_
  refine SOps.q rfl (.plain rfl) rfl (q_move rfl rfl) ?_
  refine SOps.skip rfl 3 17 true rfl rfl (.inl (gF g3)) rfl ?_
  refine SOps.skip rfl 3 17 true rfl rfl (.inl (gF g3)) rfl ?_
  refine SOps.skip rfl 3 17 true rfl rfl (.inl (gF g3)) rfl ?_
  refine SOps.skip rfl 3 17 true rfl rfl (.inl (gF g3)) rfl ?_
  refine SOps.skip rfl 3 17 true rfl rfl (.inl (gF g3)) rfl ?_
  refine SOps.q rfl (.plain rfl) rfl (q_pick_f rfl rfl g3 rfl) ?_
  refine SOps.q rfl (.plain rfl) rfl (q_assign rfl rfl) ?_
  refine SOps.q rfl (.plain rfl) rfl (q_assign rfl rfl) ?_
  refine SOps.sub (st' := ⟨[(4, .c (vI c_1.1)), (5, .c (.bool false))], []⟩) (sub_gen [] rfl rfl ⟨zc rfl rfl, zc rfl rfl, trivial⟩ trivial) ?_
  refine SOps.nil ?_
  refine SCode.ret ?_
  obtain rfl := Option.some.inj h
  exact ⟨⟨[(4, .c (vI c_1.1)), (5, .c (.bool false))], []⟩, _, sub_gen [] rfl rfl ⟨zc rfl rfl, zc rfl rfl, trivial⟩ trivial, resA2 (v1 := .c (vI c_1.1)) (v2 := .c (.bool false)) rfl rfl rfl, rfl⟩
set_option maxRecDepth 100000 in
set_option maxHeartbeats 8000000 in
theorem chargenetlaw10_FairFair_ok (F : Nat) (a0_caps : List Int) (a1_rules : List SRule) (a2_y : List Int) (r : Bool) (h : chargenetlaw10_FairFair F a0_caps a1_rules a2_y = some r) :
    SFun Try.prog 7 [] [.c (vI a0_caps), .c (.vec a1_rules.length 2 (gL cSRule dSRule a1_rules)), .c (vI a2_y)] (fun x _ => x = .c (.bool r)) := by
  refine SFun.of (n := 115) Try.func7 rfl rfl rfl ?_
  unfold chargenetlaw10_FairFair at h
  show SCode _ _ _ ⟨[(0, .c (vI a0_caps)), (1, .c (.vec a1_rules.length 2 (gL cSRule dSRule a1_rules))), (2, .c (vI a2_y))], []⟩ _
  refine SCode.seq ?_
  refine SCode.region (show SOps _ _ _ [0] _ _ from ?_)
  refine SOps.q rfl (.plain rfl) rfl (q_assign rfl rfl) ?_
  refine SOps.sub (st' := ⟨[(0, .c (vI a0_caps)), (1, .c (.vec a1_rules.length 2 (gL cSRule dSRule a1_rules))), (2, .c (vI a2_y))], []⟩) (sub_gen [] rfl rfl ⟨zc rfl rfl, zc rfl rfl, zc rfl rfl, trivial⟩ trivial) ?_
  refine SOps.nil ?_
  refine SCode.seq ?_
  refine SCode.seq ?_
  obtain ⟨c_1, g2, h⟩ := bind_out h
  try dsimp only at h
  rcases cond_out h with ⟨g3, h⟩ | ⟨g3, h⟩
  · refine SCode.region (show SOps _ _ _ [0, 1, 2, 3, 4, 5, 6, 7, 8, 9] _ _ from ?_)
    refine SOps.q rfl (.plain rfl) rfl (q_move rfl rfl) ?_
    refine SOps.q rfl (.plain rfl) rfl (q_move rfl rfl) ?_
    refine SOps.q rfl (.plain rfl) rfl (q_call (chargenetlaw10_big_ok F a0_caps a1_rules c_1 g2) [] rfl fn15 ⟨⟨_, rfl, .inl ⟨rfl, rfl⟩⟩, ⟨_, rfl, .inl ⟨rfl, rfl⟩⟩, trivial⟩ (.inl rfl)) ?_
    refine SOps.q rfl (.plain rfl) rfl (q_move rfl rfl) ?_
    refine SOps.skip rfl 3 16 false rfl rfl (.inl (gT g3)) rfl ?_
    refine SOps.skip rfl 3 16 false rfl rfl (.inl (gT g3)) rfl ?_
    refine SOps.skip rfl 3 16 false rfl rfl (.inl (gT g3)) rfl ?_
    refine SOps.skip rfl 3 16 false rfl rfl (.inl (gT g3)) rfl ?_
    refine SOps.skip rfl 3 16 false rfl rfl (.inl (gT g3)) rfl ?_
    refine SOps.q rfl (.plain rfl) rfl (q_pick_t rfl rfl g3 rfl) ?_
    refine SOps.sub (st' := ⟨[(0, .c (vI a0_caps)), (1, .c (.vec a1_rules.length 2 (gL cSRule dSRule a1_rules))), (2, .c (vI a2_y)), (22, .c (.bool true))], []⟩) (sub_gen [] rfl rfl ⟨zc rfl rfl, zc rfl rfl, zc rfl rfl, zc rfl rfl, trivial⟩ trivial) ?_
    refine SOps.nil ?_
    refine SCode.cond_t rfl rfl ?_
    refine SCode.seq ?_
    obtain ⟨c_4, g5, h⟩ := bind_out h
    try dsimp only at h
    refine SCode.region (show SOps _ _ _ [0, 1] _ _ from ?_)
    refine SOps.q rfl (.plain rfl) rfl (q_call (chargenetlaw10_exampleHolds_ok F  c_4 g5) [] rfl fn9 trivial (.inl rfl)) ?_
    refine SOps.q rfl (.plain rfl) rfl (q_assign rfl rfl) ?_
    refine SOps.sub (st' := ⟨[(6, .c (.bool c_4))], []⟩) (sub_gen [] rfl rfl ⟨zc rfl rfl, trivial⟩ trivial) ?_
    refine SOps.nil ?_
    refine SCode.ret ?_
    obtain rfl := Option.some.inj h
    exact ⟨⟨[(6, .c (.bool c_4))], []⟩, _, sub_gen [] rfl rfl ⟨zc rfl rfl, trivial⟩ trivial, resA1 (v := .c (.bool c_4)) rfl rfl, rfl⟩
  refine SCode.region (show SOps _ _ _ [0, 1, 2, 3, 4, 5, 6, 7, 8, 9] _ _ from ?_)
  refine SOps.q rfl (.plain rfl) rfl (q_move rfl rfl) ?_
  refine SOps.q rfl (.plain rfl) rfl (q_move rfl rfl) ?_
  refine SOps.q rfl (.plain rfl) rfl (q_call (chargenetlaw10_big_ok F a0_caps a1_rules c_1 g2) [] rfl fn15 ⟨⟨_, rfl, .inl ⟨rfl, rfl⟩⟩, ⟨_, rfl, .inl ⟨rfl, rfl⟩⟩, trivial⟩ (.inl rfl)) ?_
  refine SOps.q rfl (.plain rfl) rfl (q_move rfl rfl) ?_
  refine SOps.q rfl (.guard 3 16 false rfl rfl (gF g3)) rfl (q_move rfl rfl) ?_
  refine SOps.q rfl (.guard 3 16 false rfl rfl (gF g3)) rfl (q_len_vec rfl rfl sl22) ?_
  refine SOps.q rfl (.guard 3 16 false rfl rfl (gF g3)) rfl (q_move rfl rfl) ?_
  refine SOps.q rfl (.guard 3 16 false rfl rfl (gF g3)) rfl (q_len_vec rfl rfl sl22) ?_
  refine SOps.q rfl (.guard 3 16 false rfl rfl (gF g3)) rfl (q_neq rfl rfl rfl) ?_
  refine SOps.q rfl (.plain rfl) rfl (q_pick_f rfl rfl g3 rfl) ?_
  refine SOps.sub (st' := ⟨[(0, .c (vI a0_caps)), (1, .c (.vec a1_rules.length 2 (gL cSRule dSRule a1_rules))), (2, .c (vI a2_y)), (22, .c (.bool ((!decide (((a2_y).length : Int) = ((a0_caps).length : Int))))))], []⟩) (sub_gen [] rfl rfl ⟨zc rfl rfl, zc rfl rfl, zc rfl rfl, zc rfl rfl, trivial⟩ trivial) ?_
  refine SOps.nil ?_
  rcases cond_out h with ⟨g6, h⟩ | ⟨g6, h⟩
  · refine SCode.cond_t rfl g6 ?_
    refine SCode.seq ?_
    obtain ⟨c_7, g8, h⟩ := bind_out h
    try dsimp only at h
    refine SCode.region (show SOps _ _ _ [0, 1] _ _ from ?_)
    refine SOps.q rfl (.plain rfl) rfl (q_call (chargenetlaw10_exampleHolds_ok F  c_7 g8) [] rfl fn9 trivial (.inl rfl)) ?_
    refine SOps.q rfl (.plain rfl) rfl (q_assign rfl rfl) ?_
    refine SOps.sub (st' := ⟨[(6, .c (.bool c_7))], []⟩) (sub_gen [] rfl rfl ⟨zc rfl rfl, trivial⟩ trivial) ?_
    refine SOps.nil ?_
    refine SCode.ret ?_
    obtain rfl := Option.some.inj h
    exact ⟨⟨[(6, .c (.bool c_7))], []⟩, _, sub_gen [] rfl rfl ⟨zc rfl rfl, trivial⟩ trivial, resA1 (v := .c (.bool c_7)) rfl rfl, rfl⟩
  refine SCode.cond_f rfl g6 ?_
  refine SCode.skip ?_
  refine SCode.seq ?_
  obtain ⟨c_9, g10, h⟩ := bind_out h
  try dsimp only at h
  refine SCode.region (show SOps _ _ _ [0, 1, 2, 3, 4, 5, 6, 7, 8] _ _ from ?_)
  refine SOps.q rfl (.plain rfl) rfl (q_move rfl rfl) ?_
  refine SOps.q rfl (.plain rfl) rfl (q_move rfl rfl) ?_
  refine SOps.q rfl (.plain rfl) rfl (q_makeBound (cs := [.vec a1_rules.length 2 (gL cSRule dSRule a1_rules)]) 1000017 rfl rfl rfl) ?_
  refine SOps.q rfl (.plain rfl) rfl (q_call (chargenetlaw10_fill_f1_1000017_ok F a0_caps a1_rules c_9 g10) [] rfl fn16 ⟨⟨_, rfl, .inl ⟨rfl, rfl⟩⟩, ⟨_, rfl, .inl ⟨rfl, rfl⟩⟩, trivial⟩ (.inl rfl)) ?_
  refine SOps.q rfl (.plain rfl) rfl (q_move rfl rfl) ?_
  refine SOps.q rfl (.plain rfl) rfl (q_extract rfl rfl rfl) ?_
  refine SOps.q rfl (.plain rfl) rfl (q_extract rfl rfl rfl) ?_
  refine SOps.q rfl (.plain rfl) rfl (q_assign rfl rfl) ?_
  refine SOps.q rfl (.plain rfl) rfl (q_assign rfl rfl) ?_
  refine SOps.sub (st' := ⟨[(0, .c (vI a0_caps)), (1, .c (.vec a1_rules.length 2 (gL cSRule dSRule a1_rules))), (2, .c (vI a2_y)), (7, .c (vI c_9.1)), (8, .c (.bool c_9.2))], []⟩) (sub_gen [] rfl rfl ⟨zc rfl rfl, zc rfl rfl, zc rfl rfl, zc rfl rfl, zc rfl rfl, trivial⟩ trivial) ?_
  refine SOps.nil ?_
  refine SCode.seq ?_
  refine SCode.seq ?_
  refine SCode.region (show SOps _ _ _ [0, 1] _ _ from ?_)
  refine SOps.q rfl (.plain rfl) rfl (q_move rfl rfl) ?_
  refine SOps.q rfl (.plain rfl) rfl (q_not rfl rfl) ?_
  refine SOps.sub (st' := ⟨[(0, .c (vI a0_caps)), (1, .c (.vec a1_rules.length 2 (gL cSRule dSRule a1_rules))), (2, .c (vI a2_y)), (7, .c (vI c_9.1)), (32, .c (.bool ((!c_9.2))))], []⟩) (sub_gen [] rfl rfl ⟨zc rfl rfl, zc rfl rfl, zc rfl rfl, zc rfl rfl, zc rfl rfl, trivial⟩ trivial) ?_
  refine SOps.nil ?_
  rcases cond_out h with ⟨g11, h⟩ | ⟨g11, h⟩
  · refine SCode.cond_t rfl g11 ?_
    refine SCode.seq ?_
    obtain ⟨c_12, g13, h⟩ := bind_out h
    try dsimp only at h
    refine SCode.region (show SOps _ _ _ [0, 1] _ _ from ?_)
    refine SOps.q rfl (.plain rfl) rfl (q_call (chargenetlaw10_exampleHolds_ok F  c_12 g13) [] rfl fn9 trivial (.inl rfl)) ?_
    refine SOps.q rfl (.plain rfl) rfl (q_assign rfl rfl) ?_
    refine SOps.sub (st' := ⟨[(6, .c (.bool c_12))], []⟩) (sub_gen [] rfl rfl ⟨zc rfl rfl, trivial⟩ trivial) ?_
    refine SOps.nil ?_
    refine SCode.ret ?_
    obtain rfl := Option.some.inj h
    exact ⟨⟨[(6, .c (.bool c_12))], []⟩, _, sub_gen [] rfl rfl ⟨zc rfl rfl, trivial⟩ trivial, resA1 (v := .c (.bool c_12)) rfl rfl, rfl⟩
  refine SCode.cond_f rfl g11 ?_
  refine SCode.skip ?_
  refine SCode.join (σ := Unit) (S := fun s => ⟨[(0, .c (vI a0_caps)), (1, .c (.vec a1_rules.length 2 (gL cSRule dSRule a1_rules))), (2, .c (vI a2_y)), (7, .c (vI c_9.1))], []⟩) (g := fun s => chargenetlaw10_FairFair_p134 F a0_caps a1_rules a2_y c_9 = some r) ?_ ?_
  rotate_left
  · refine SCode.seq ?_
    refine SCode.region (show SOps _ _ _ [0, 1, 2] _ _ from ?_)
    refine SOps.q rfl (.plain rfl) rfl (q_move rfl rfl) ?_
    refine SOps.q rfl (.plain rfl) rfl (q_len_vec rfl rfl sl22) ?_
    refine SOps.q rfl (.plain rfl) rfl (q_move rfl rfl) ?_
    refine SOps.sub (st' := ⟨[(0, .c (vI a0_caps)), (1, .c (.vec a1_rules.length 2 (gL cSRule dSRule a1_rules))), (2, .c (vI a2_y)), (7, .c (vI c_9.1)), (35, .c (.int .i64 (((a2_y).length : Int)))), (36, .c (.int .i64 0))], []⟩) (sub_gen [] rfl rfl ⟨zc rfl rfl, zc rfl rfl, zc rfl rfl, zc rfl rfl, zc rfl rfl, zc rfl rfl, trivial⟩ trivial) ?_
    refine SOps.nil ?_
    refine SCode.block ?_
    refine SCode.sub (st' := ⟨[(0, .c (vI a0_caps)), (1, .c (.vec a1_rules.length 2 (gL cSRule dSRule a1_rules))), (2, .c (vI a2_y)), (7, .c (vI c_9.1)), (35, .c (.int .i64 (((a2_y).length : Int)))), (36, .c (.int .i64 0))], []⟩) (sub_gen [] rfl rfl ⟨zc rfl rfl, zc rfl rfl, zc rfl rfl, zc rfl rfl, zc rfl rfl, zc rfl rfl, trivial⟩ trivial) ?_
    refine (SCode.loop (σ := Nat × Int) (S := fun s => ⟨[(0, .c (vI a0_caps)), (1, .c (.vec a1_rules.length 2 (gL cSRule dSRule a1_rules))), (2, .c (vI a2_y)), (7, .c (vI c_9.1)), (35, .c (.int .i64 (((a2_y).length : Int)))), (36, .c (.int .i64 s.2))], []⟩) (g := fun s => chargenetlaw10_FairFair_l156 F a0_caps a1_rules a2_y c_9 s.1 s.2 = some r) (μ := fun s => s.1) (F, 0) h ?_)
    rintro ⟨n_156, t36_145⟩ h
    replace h : chargenetlaw10_FairFair_l156 F a0_caps a1_rules a2_y c_9 n_156 t36_145 = some r := h
    show SCode _ _ _ ⟨[(0, .c (vI a0_caps)), (1, .c (.vec a1_rules.length 2 (gL cSRule dSRule a1_rules))), (2, .c (vI a2_y)), (7, .c (vI c_9.1)), (35, .c (.int .i64 (((a2_y).length : Int)))), (36, .c (.int .i64 t36_145))], []⟩ _
    cases n_156 with
    | zero => cases h
    | succ n_156 =>
      replace h : chargenetlaw10_FairFair_b156 F a0_caps a1_rules a2_y c_9 (fun t36_145 => chargenetlaw10_FairFair_l156 F a0_caps a1_rules a2_y c_9 n_156 t36_145) t36_145 = some r := h
      unfold chargenetlaw10_FairFair_b156 at h
      refine SCode.seq ?_
      refine SCode.region (show SOps _ _ _ [0] _ _ from ?_)
      refine SOps.q rfl (.plain rfl) rfl (q_lss rfl rfl rfl) ?_
      refine SOps.sub (st' := ⟨[(0, .c (vI a0_caps)), (1, .c (.vec a1_rules.length 2 (gL cSRule dSRule a1_rules))), (2, .c (vI a2_y)), (7, .c (vI c_9.1)), (35, .c (.int .i64 (((a2_y).length : Int)))), (36, .c (.int .i64 t36_145)), (37, .c (.bool (decide (t36_145 < ((a2_y).length : Int)))))], []⟩) (sub_gen [] rfl rfl ⟨zc rfl rfl, zc rfl rfl, zc rfl rfl, zc rfl rfl, zc rfl rfl, zc rfl rfl, zc rfl rfl, trivial⟩ trivial) ?_
      refine SOps.nil ?_
      refine SCode.seq ?_
      rcases cond_out h with ⟨g157, h⟩ | ⟨g157, h⟩
      · refine SCode.cond_t rfl g157 ?_
        refine SCode.skip ?_
        refine SCode.seq ?_
        refine SCode.block ?_
        refine SCode.seq ?_
        refine SCode.region (show SOps _ _ _ [0, 1] _ _ from ?_)
        refine SOps.q rfl (.plain rfl) rfl (q_move rfl rfl) ?_
        refine SOps.q rfl (.plain rfl) rfl (q_assign rfl rfl) ?_
        refine SOps.sub (st' := ⟨[(0, .c (vI a0_caps)), (1, .c (.vec a1_rules.length 2 (gL cSRule dSRule a1_rules))), (2, .c (vI a2_y)), (7, .c (vI c_9.1)), (9, .c (.int .i64 t36_145)), (35, .c (.int .i64 (((a2_y).length : Int)))), (36, .c (.int .i64 t36_145))], []⟩) (sub_gen [] rfl rfl ⟨zc rfl rfl, zc rfl rfl, zc rfl rfl, zc rfl rfl, zc rfl rfl, zc rfl rfl, zc rfl rfl, trivial⟩ trivial) ?_
        refine SOps.nil ?_
        refine SCode.seq ?_
        obtain ⟨g158, h⟩ := guard_out h
        rcases cond_out h with ⟨g159, h⟩ | ⟨g159, h⟩
        · refine SCode.draw (s' := [(54, .c (.bool true)), (53, .c (.raw (.tuple #[]))), (52, .c (.raw (.tuple #[]))), (51, .c (.raw (.tuple #[]))), (50, .c (.raw (.tuple #[]))), (49, .c (.raw (.tuple #[]))), (48, .c (.raw (.tuple #[]))), (47, .c (.raw (.tuple #[]))), (46, .c (.raw (.tuple #[]))), (45, .c (.raw (.tuple #[]))), (44, .c (.bool (decide (a2_y.getD t36_145.toNat 0 < 0)))), (43, .c (.bool (decide (a2_y.getD t36_145.toNat 0 < 0)))), (42, .c (.int .i64 (a2_y.getD t36_145.toNat 0))), (41, .c (.eptr 1 ((cInt .i64) (a2_y.getD t36_145.toNat 0)) 0)), (40, .c (.int .i64 t36_145)), (39, .c (vI a2_y)), (0, .c (vI a0_caps)), (1, .c (.vec a1_rules.length 2 (gL cSRule dSRule a1_rules))), (2, .c (vI a2_y)), (7, .c (vI c_9.1)), (9, .c (.int .i64 t36_145)), (35, .c (.int .i64 (((a2_y).length : Int)))), (36, .c (.int .i64 t36_145))]) mixed [[], [], [0, 1], [0, 1, 2], [0, 1, 2, 3], [0, 1, 2, 3, 4], [0, 1, 2, 3, 4, 5], [0, 1, 2, 3, 4, 5], [0, 1, 2, 3, 4, 5, 6, 7], [0, 1, 2, 3, 4, 5, 6, 7, 8], [0, 1, 2, 3, 4, 5], [0, 1, 2, 3, 4, 5], [0, 1, 2, 3, 4, 5, 10, 11], [0, 1, 2, 3, 4, 5, 10, 11, 12], [0, 1, 2, 3, 4, 5, 6, 7, 8, 9, 10, 11, 12, 13], [0, 1, 2, 3, 4, 5, 6, 7, 8, 9, 10, 11, 12, 13, 14]] 16 0 rfl rfl ?_ ?_
          · refine QChain.run rfl (.plain rfl) rfl (q_move rfl rfl) ?_
            refine QChain.run rfl (.plain rfl) rfl (q_move rfl rfl) ?_
            refine QChain.run rfl (.plain rfl) rfl (q_index_vec rfl rfl rfl sl22 rfl g158.1 g158.2) ?_
            refine QChain.run rfl (.plain rfl) rfl (q_load_eptr rfl rfl ty3) ?_
            refine QChain.run rfl (.plain rfl) rfl (q_lss rfl rfl rfl) ?_
            refine QChain.run rfl (.plain rfl) rfl (q_move rfl rfl) ?_
            refine QChain.skip rfl ⟨5, 44, false, rfl, rfl, (.inl (gT g159))⟩ rfl ?_
            refine QChain.skip rfl ⟨5, 44, false, rfl, rfl, (.inl (gT g159))⟩ rfl ?_
            refine QChain.skip rfl ⟨5, 44, false, rfl, rfl, (.inl (gT g159))⟩ rfl ?_
            refine QChain.skip rfl ⟨5, 44, false, rfl, rfl, (.inl (gT g159))⟩ rfl ?_
            refine QChain.skip rfl ⟨5, 44, false, rfl, rfl, (.inl (gT g159))⟩ rfl ?_
            refine QChain.skip rfl ⟨5, 44, false, rfl, rfl, (.inl (gT g159))⟩ rfl ?_
            refine QChain.skip rfl ⟨5, 44, false, rfl, rfl, (.inl (gT g159))⟩ rfl ?_
            refine QChain.skip rfl ⟨5, 44, false, rfl, rfl, (.inl (gT g159))⟩ rfl ?_
            refine QChain.skip rfl ⟨5, 44, false, rfl, rfl, (.inl (gT g159))⟩ rfl ?_
            refine QChain.run rfl (.plain rfl) rfl (q_pick_t rfl rfl g159 rfl) ?_
            exact QChain.nil _ _
          refine (show SOps _ _ _ [] _ _ from ?_)
          refine SOps.sub (st' := ⟨[(0, .c (vI a0_caps)), (1, .c (.vec a1_rules.length 2 (gL cSRule dSRule a1_rules))), (2, .c (vI a2_y)), (7, .c (vI c_9.1)), (35, .c (.int .i64 (((a2_y).length : Int)))), (36, .c (.int .i64 t36_145)), (54, .c (.bool true))], []⟩) (sub_gen [] rfl rfl ⟨zc rfl rfl, zc rfl rfl, zc rfl rfl, zc rfl rfl, zc rfl rfl, zc rfl rfl, zc rfl rfl, trivial⟩ trivial) ?_
          refine SOps.nil ?_
          refine SCode.cond_t rfl rfl ?_
          refine SCode.seq ?_
          obtain ⟨c_160, g161, h⟩ := bind_out h
          try dsimp only at h
          refine SCode.region (show SOps _ _ _ [0, 1] _ _ from ?_)
          refine SOps.q rfl (.plain rfl) rfl (q_call (chargenetlaw10_exampleHolds_ok F  c_160 g161) [] rfl fn9 trivial (.inl rfl)) ?_
          refine SOps.q rfl (.plain rfl) rfl (q_assign rfl rfl) ?_
          refine SOps.sub (st' := ⟨[(6, .c (.bool c_160))], []⟩) (sub_gen [] rfl rfl ⟨zc rfl rfl, trivial⟩ trivial) ?_
          refine SOps.nil ?_
          refine SCode.ret ?_
          obtain rfl := Option.some.inj h
          exact ⟨⟨[(6, .c (.bool c_160))], []⟩, _, sub_gen [] rfl rfl ⟨zc rfl rfl, trivial⟩ trivial, resA1 (v := .c (.bool c_160)) rfl rfl, rfl⟩
        obtain ⟨g162, h⟩ := guard_out h
        obtain ⟨g163, h⟩ := guard_out h
        refine SCode.draw (s' := [(54, .c (.bool (decide (a0_caps.getD t36_145.toNat 0 < a2_y.getD t36_145.toNat 0)))), (53, .c (.bool (decide (a0_caps.getD t36_145.toNat 0 < a2_y.getD t36_145.toNat 0)))), (52, .c (.int .i64 (a0_caps.getD t36_145.toNat 0))), (51, .c (.eptr 1 ((cInt .i64) (a0_caps.getD t36_145.toNat 0)) 0)), (50, .c (.int .i64 t36_145)), (49, .c (vI a0_caps)), (48, .c (.int .i64 (a2_y.getD t36_145.toNat 0))), (47, .c (.eptr 1 ((cInt .i64) (a2_y.getD t36_145.toNat 0)) 0)), (46, .c (.int .i64 t36_145)), (45, .c (vI a2_y)), (44, .c (.bool (decide (a2_y.getD t36_145.toNat 0 < 0)))), (43, .c (.bool (decide (a2_y.getD t36_145.toNat 0 < 0)))), (42, .c (.int .i64 (a2_y.getD t36_145.toNat 0))), (41, .c (.eptr 1 ((cInt .i64) (a2_y.getD t36_145.toNat 0)) 0)), (40, .c (.int .i64 t36_145)), (39, .c (vI a2_y)), (0, .c (vI a0_caps)), (1, .c (.vec a1_rules.length 2 (gL cSRule dSRule a1_rules))), (2, .c (vI a2_y)), (7, .c (vI c_9.1)), (9, .c (.int .i64 t36_145)), (35, .c (.int .i64 (((a2_y).length : Int)))), (36, .c (.int .i64 t36_145))]) mixed [[], [], [0, 1], [0, 1, 2], [0, 1, 2, 3], [0, 1, 2, 3, 4], [0, 1, 2, 3, 4, 5], [0, 1, 2, 3, 4, 5], [0, 1, 2, 3, 4, 5, 6, 7], [0, 1, 2, 3, 4, 5, 6, 7, 8], [0, 1, 2, 3, 4, 5], [0, 1, 2, 3, 4, 5], [0, 1, 2, 3, 4, 5, 10, 11], [0, 1, 2, 3, 4, 5, 10, 11, 12], [0, 1, 2, 3, 4, 5, 6, 7, 8, 9, 10, 11, 12, 13], [0, 1, 2, 3, 4, 5, 6, 7, 8, 9, 10, 11, 12, 13, 14]] 16 0 rfl rfl ?_ ?_
        · refine QChain.run rfl (.plain rfl) rfl (q_move rfl rfl) ?_
          refine QChain.run rfl (.plain rfl) rfl (q_move rfl rfl) ?_
          refine QChain.run rfl (.plain rfl) rfl (q_index_vec rfl rfl rfl sl22 rfl g158.1 g158.2) ?_
          refine QChain.run rfl (.plain rfl) rfl (q_load_eptr rfl rfl ty3) ?_
          refine QChain.run rfl (.plain rfl) rfl (q_lss rfl rfl rfl) ?_
          refine QChain.run rfl (.plain rfl) rfl (q_move rfl rfl) ?_
          refine QChain.run rfl (.guard 5 44 false rfl rfl (gF g159)) rfl (q_move rfl rfl) ?_
          refine QChain.run rfl (.guard 5 44 false rfl rfl (gF g159)) rfl (q_move rfl rfl) ?_
          refine QChain.run rfl (.guard 5 44 false rfl rfl (gF g159)) rfl (q_index_vec rfl rfl rfl sl22 rfl g162.1 g162.2) ?_
          refine QChain.run rfl (.guard 5 44 false rfl rfl (gF g159)) rfl (q_load_eptr rfl rfl ty3) ?_
          refine QChain.run rfl (.guard 5 44 false rfl rfl (gF g159)) rfl (q_move rfl rfl) ?_
          refine QChain.run rfl (.guard 5 44 false rfl rfl (gF g159)) rfl (q_move rfl rfl) ?_
          refine QChain.run rfl (.guard 5 44 false rfl rfl (gF g159)) rfl (q_index_vec rfl rfl rfl sl22 rfl g163.1 g163.2) ?_
          refine QChain.run rfl (.guard 5 44 false rfl rfl (gF g159)) rfl (q_load_eptr rfl rfl ty3) ?_
          refine QChain.run rfl (.guard 5 44 false rfl rfl (gF g159)) rfl (q_gtr rfl rfl rfl) ?_
          refine QChain.run rfl (.plain rfl) rfl (q_pick_f rfl rfl g159 rfl) ?_
          exact QChain.nil _ _
        refine (show SOps _ _ _ [] _ _ from ?_)
        refine SOps.sub (st' := ⟨[(0, .c (vI a0_caps)), (1, .c (.vec a1_rules.length 2 (gL cSRule dSRule a1_rules))), (2, .c (vI a2_y)), (7, .c (vI c_9.1)), (35, .c (.int .i64 (((a2_y).length : Int)))), (36, .c (.int .i64 t36_145)), (54, .c (.bool (decide (a0_caps.getD t36_145.toNat 0 < a2_y.getD t36_145.toNat 0))))], []⟩) (sub_gen [] rfl rfl ⟨zc rfl rfl, zc rfl rfl, zc rfl rfl, zc rfl rfl, zc rfl rfl, zc rfl rfl, zc rfl rfl, trivial⟩ trivial) ?_
        refine SOps.nil ?_
        rcases cond_out h with ⟨g164, h⟩ | ⟨g164, h⟩
        · refine SCode.cond_t rfl g164 ?_
          refine SCode.seq ?_
          obtain ⟨c_165, g166, h⟩ := bind_out h
          try dsimp only at h
          refine SCode.region (show SOps _ _ _ [0, 1] _ _ from ?_)
          refine SOps.q rfl (.plain rfl) rfl (q_call (chargenetlaw10_exampleHolds_ok F  c_165 g166) [] rfl fn9 trivial (.inl rfl)) ?_
          refine SOps.q rfl (.plain rfl) rfl (q_assign rfl rfl) ?_
          refine SOps.sub (st' := ⟨[(6, .c (.bool c_165))], []⟩) (sub_gen [] rfl rfl ⟨zc rfl rfl, trivial⟩ trivial) ?_
          refine SOps.nil ?_
          refine SCode.ret ?_
          obtain rfl := Option.some.inj h
          exact ⟨⟨[(6, .c (.bool c_165))], []⟩, _, sub_gen [] rfl rfl ⟨zc rfl rfl, trivial⟩ trivial, resA1 (v := .c (.bool c_165)) rfl rfl, rfl⟩
        refine SCode.cond_f rfl g164 ?_
        refine SCode.skip ?_
        refine SCode.region (show SOps _ _ _ [0, 1] _ _ from ?_)
        refine SOps.q rfl (.plain rfl) rfl (q_add rfl rfl rfl) ?_
        refine SOps.q rfl (.plain rfl) rfl (q_move rfl rfl) ?_
        refine SOps.sub (st' := ⟨[(0, .c (vI a0_caps)), (1, .c (.vec a1_rules.length 2 (gL cSRule dSRule a1_rules))), (2, .c (vI a2_y)), (7, .c (vI c_9.1)), (35, .c (.int .i64 (((a2_y).length : Int)))), (36, .c (.int .i64 (IntKind.wrap .i64 (t36_145 + 1))))], []⟩) (sub_gen [] rfl rfl ⟨zc rfl rfl, zc rfl rfl, zc rfl rfl, zc rfl rfl, zc rfl rfl, zc rfl rfl, trivial⟩ trivial) ?_
        refine SOps.nil ?_
        exact ⟨(n_156, IntKind.wrap .i64 (t36_145 + 1)), h, Nat.lt_succ_self n_156, sub_gen [] rfl rfl ⟨zc rfl rfl, zc rfl rfl, zc rfl rfl, zc rfl rfl, zc rfl rfl, zc rfl rfl, trivial⟩ trivial⟩
      refine SCode.cond_f rfl g157 ?_
      refine SCode.exit ?_
      exact ⟨(), h, sub_gen [] rfl rfl ⟨zc rfl rfl, zc rfl rfl, zc rfl rfl, zc rfl rfl, trivial⟩ trivial⟩
  rintro ⟨⟩ h
  show SCode _ _ _ ⟨[(0, .c (vI a0_caps)), (1, .c (.vec a1_rules.length 2 (gL cSRule dSRule a1_rules))), (2, .c (vI a2_y)), (7, .c (vI c_9.1))], []⟩ _
  replace h : chargenetlaw10_FairFair_p134 F a0_caps a1_rules a2_y c_9 = some r := h
  unfold chargenetlaw10_FairFair_p134 at h
  refine SCode.seq ?_
  refine SCode.seq ?_
  obtain ⟨c_14, g15, h⟩ := bind_out h
  try dsimp only at h
  refine SCode.region (show SOps _ _ _ [0, 1, 2, 3] _ _ from ?_)
  refine SOps.q rfl (.plain rfl) rfl (q_move rfl rfl) ?_
  refine SOps.q rfl (.plain rfl) rfl (q_move rfl rfl) ?_
  refine SOps.q rfl (.plain rfl) rfl (q_call (chargenetref10_Rules_Fits_ok F a1_rules a2_y c_14 g15) [] rfl fn17 ⟨⟨_, rfl, .inl ⟨rfl, rfl⟩⟩, ⟨_, rfl, .inl ⟨rfl, rfl⟩⟩, trivial⟩ (.inl rfl)) ?_
  refine SOps.q rfl (.plain rfl) rfl (q_not rfl rfl) ?_
  refine SOps.sub (st' := ⟨[(0, .c (vI a0_caps)), (2, .c (vI a2_y)), (7, .c (vI c_9.1)), (60, .c (.bool ((!c_14))))], []⟩) (sub_gen [] rfl rfl ⟨zc rfl rfl, zc rfl rfl, zc rfl rfl, zc rfl rfl, trivial⟩ trivial) ?_
  refine SOps.nil ?_
  rcases cond_out h with ⟨g16, h⟩ | ⟨g16, h⟩
  · refine SCode.cond_t rfl g16 ?_
    refine SCode.seq ?_
    obtain ⟨c_17, g18, h⟩ := bind_out h
    try dsimp only at h
    refine SCode.region (show SOps _ _ _ [0, 1] _ _ from ?_)
    refine SOps.q rfl (.plain rfl) rfl (q_call (chargenetlaw10_exampleHolds_ok F  c_17 g18) [] rfl fn9 trivial (.inl rfl)) ?_
    refine SOps.q rfl (.plain rfl) rfl (q_assign rfl rfl) ?_
    refine SOps.sub (st' := ⟨[(6, .c (.bool c_17))], []⟩) (sub_gen [] rfl rfl ⟨zc rfl rfl, trivial⟩ trivial) ?_
    refine SOps.nil ?_
    refine SCode.ret ?_
    obtain rfl := Option.some.inj h
    exact ⟨⟨[(6, .c (.bool c_17))], []⟩, _, sub_gen [] rfl rfl ⟨zc rfl rfl, trivial⟩ trivial, resA1 (v := .c (.bool c_17)) rfl rfl, rfl⟩
  refine SCode.cond_f rfl g16 ?_
  refine SCode.skip ?_
  refine SCode.seq ?_
  refine SCode.seq ?_
  refine SCode.region (show SOps _ _ _ [0, 1, 2, 3, 4] _ _ from ?_)
  refine SOps.q rfl (.plain rfl) rfl (q_move rfl rfl) ?_
  refine SOps.q rfl (.plain rfl) rfl (q_len_vec rfl rfl sl22) ?_
  refine SOps.q rfl (.plain rfl) rfl (q_move rfl rfl) ?_
  refine SOps.q rfl (.plain rfl) rfl (q_len_vec rfl rfl sl22) ?_
  refine SOps.q rfl (.plain rfl) rfl (q_neq rfl rfl rfl) ?_
  refine SOps.sub (st' := ⟨[(2, .c (vI a2_y)), (7, .c (vI c_9.1)), (66, .c (.bool ((!decide (((c_9.1).length : Int) = ((a0_caps).length : Int))))))], []⟩) (sub_gen [] rfl rfl ⟨zc rfl rfl, zc rfl rfl, zc rfl rfl, trivial⟩ trivial) ?_
  refine SOps.nil ?_
  rcases cond_out h with ⟨g19, h⟩ | ⟨g19, h⟩
  · refine SCode.cond_t rfl g19 ?_
    refine SCode.seq ?_
    refine SCode.region (show SOps _ _ _ [0] _ _ from ?_)
    refine SOps.q rfl (.plain rfl) rfl (q_assign rfl rfl) ?_
    refine SOps.sub (st' := ⟨[(6, .c (.bool false))], []⟩) (sub_gen [] rfl rfl ⟨zc rfl rfl, trivial⟩ trivial) ?_
    refine SOps.nil ?_
    refine SCode.ret ?_
    obtain rfl := Option.some.inj h
    exact ⟨⟨[(6, .c (.bool false))], []⟩, _, sub_gen [] rfl rfl ⟨zc rfl rfl, trivial⟩ trivial, resA1 (v := .c (.bool false)) rfl rfl, rfl⟩
  refine SCode.cond_f rfl g19 ?_
  refine SCode.skip ?_
  refine SCode.join (σ := Unit) (S := fun s => ⟨[], []⟩) (g := fun s => chargenetlaw10_FairFair_p20 = some r) ?_ ?_
  rotate_left
  · refine SCode.seq ?_
    refine SCode.region (show SOps _ _ _ [0, 1, 2] _ _ from ?_)
    refine SOps.q rfl (.plain rfl) rfl (q_move rfl rfl) ?_
    refine SOps.q rfl (.plain rfl) rfl (q_len_vec rfl rfl sl22) ?_
    refine SOps.q rfl (.plain rfl) rfl (q_move rfl rfl) ?_
    refine SOps.sub (st' := ⟨[(2, .c (vI a2_y)), (7, .c (vI c_9.1)), (68, .c (.int .i64 (((a2_y).length : Int)))), (69, .c (.int .i64 0))], []⟩) (sub_gen [] rfl rfl ⟨zc rfl rfl, zc rfl rfl, zc rfl rfl, zc rfl rfl, trivial⟩ trivial) ?_
    refine SOps.nil ?_
    refine SCode.block ?_
    refine SCode.sub (st' := ⟨[(2, .c (vI a2_y)), (7, .c (vI c_9.1)), (68, .c (.int .i64 (((a2_y).length : Int)))), (69, .c (.int .i64 0))], []⟩) (sub_gen [] rfl rfl ⟨zc rfl rfl, zc rfl rfl, zc rfl rfl, zc rfl rfl, trivial⟩ trivial) ?_
    refine (SCode.loop (σ := Nat × Int) (S := fun s => ⟨[(2, .c (vI a2_y)), (7, .c (vI c_9.1)), (68, .c (.int .i64 (((a2_y).length : Int)))), (69, .c (.int .i64 s.2))], []⟩) (g := fun s => chargenetlaw10_FairFair_l96 F a2_y c_9 s.1 s.2 = some r) (μ := fun s => s.1) (F, 0) h ?_)
    rintro ⟨n_96, t69_58⟩ h
    replace h : chargenetlaw10_FairFair_l96 F a2_y c_9 n_96 t69_58 = some r := h
    show SCode _ _ _ ⟨[(2, .c (vI a2_y)), (7, .c (vI c_9.1)), (68, .c (.int .i64 (((a2_y).length : Int)))), (69, .c (.int .i64 t69_58))], []⟩ _
    cases n_96 with
    | zero => cases h
    | succ n_96 =>
      replace h : chargenetlaw10_FairFair_b96 F a2_y c_9 (fun t69_58 => chargenetlaw10_FairFair_l96 F a2_y c_9 n_96 t69_58) t69_58 = some r := h
      unfold chargenetlaw10_FairFair_b96 at h
      refine SCode.seq ?_
      refine SCode.region (show SOps _ _ _ [0] _ _ from ?_)
      refine SOps.q rfl (.plain rfl) rfl (q_lss rfl rfl rfl) ?_
      refine SOps.sub (st' := ⟨[(2, .c (vI a2_y)), (7, .c (vI c_9.1)), (68, .c (.int .i64 (((a2_y).length : Int)))), (69, .c (.int .i64 t69_58)), (70, .c (.bool (decide (t69_58 < ((a2_y).length : Int)))))], []⟩) (sub_gen [] rfl rfl ⟨zc rfl rfl, zc rfl rfl, zc rfl rfl, zc rfl rfl, zc rfl rfl, trivial⟩ trivial) ?_
      refine SOps.nil ?_
      refine SCode.seq ?_
      rcases cond_out h with ⟨g97, h⟩ | ⟨g97, h⟩
      · refine SCode.cond_t rfl g97 ?_
        refine SCode.skip ?_
        refine SCode.join (σ := Unit) (S := fun s => ⟨[(2, .c (vI a2_y)), (7, .c (vI c_9.1)), (68, .c (.int .i64 (((a2_y).length : Int)))), (69, .c (.int .i64 t69_58))], []⟩) (g := fun s => chargenetlaw10_FairFair_p98 t69_58 (fun t69_58 => chargenetlaw10_FairFair_l96 F a2_y c_9 n_96 t69_58) = some r) ?_ ?_
        rotate_left
        · refine SCode.block ?_
          refine SCode.seq ?_
          refine SCode.region (show SOps _ _ _ [0, 1] _ _ from ?_)
          refine SOps.q rfl (.plain rfl) rfl (q_move rfl rfl) ?_
          refine SOps.q rfl (.plain rfl) rfl (q_assign rfl rfl) ?_
          refine SOps.sub (st' := ⟨[(2, .c (vI a2_y)), (7, .c (vI c_9.1)), (10, .c (.int .i64 t69_58)), (68, .c (.int .i64 (((a2_y).length : Int)))), (69, .c (.int .i64 t69_58))], []⟩) (sub_gen [] rfl rfl ⟨zc rfl rfl, zc rfl rfl, zc rfl rfl, zc rfl rfl, zc rfl rfl, trivial⟩ trivial) ?_
          refine SOps.nil ?_
          refine SCode.seq ?_
          refine SCode.region (show SOps _ _ _ [0] _ _ from ?_)
          refine SOps.q rfl (.plain rfl) rfl (q_assign rfl rfl) ?_
          refine SOps.sub (st' := ⟨[(2, .c (vI a2_y)), (7, .c (vI c_9.1)), (10, .c (.int .i64 t69_58)), (11, .c (.bool false)), (68, .c (.int .i64 (((a2_y).length : Int)))), (69, .c (.int .i64 t69_58))], []⟩) (sub_gen [] rfl rfl ⟨zc rfl rfl, zc rfl rfl, zc rfl rfl, zc rfl rfl, zc rfl rfl, zc rfl rfl, trivial⟩ trivial) ?_
          refine SOps.nil ?_
          refine SCode.join (σ := Bool) (S := fun s => ⟨[(2, .c (vI a2_y)), (7, .c (vI c_9.1)), (10, .c (.int .i64 t69_58)), (11, .c (.bool s)), (68, .c (.int .i64 (((a2_y).length : Int)))), (69, .c (.int .i64 t69_58))], []⟩) (g := fun s => chargenetlaw10_FairFair_p104 a2_y c_9 t69_58 (fun t69_58 => chargenetlaw10_FairFair_l96 F a2_y c_9 n_96 t69_58) s = some r) ?_ ?_
          rotate_left
          · refine SCode.seq ?_
            refine SCode.region (show SOps _ _ _ [0, 1, 2] _ _ from ?_)
            refine SOps.q rfl (.plain rfl) rfl (q_move rfl rfl) ?_
            refine SOps.q rfl (.plain rfl) rfl (q_len_vec rfl rfl sl22) ?_
            refine SOps.q rfl (.plain rfl) rfl (q_move rfl rfl) ?_
            refine SOps.sub (st' := ⟨[(2, .c (vI a2_y)), (7, .c (vI c_9.1)), (10, .c (.int .i64 t69_58)), (11, .c (.bool false)), (68, .c (.int .i64 (((a2_y).length : Int)))), (69, .c (.int .i64 t69_58)), (73, .c (.int .i64 (((a2_y).length : Int)))), (74, .c (.int .i64 0))], []⟩) (sub_gen [] rfl rfl ⟨zc rfl rfl, zc rfl rfl, zc rfl rfl, zc rfl rfl, zc rfl rfl, zc rfl rfl, zc rfl rfl, zc rfl rfl, trivial⟩ trivial) ?_
            refine SOps.nil ?_
            refine SCode.block ?_
            refine SCode.sub (st' := ⟨[(2, .c (vI a2_y)), (7, .c (vI c_9.1)), (10, .c (.int .i64 t69_58)), (11, .c (.bool false)), (68, .c (.int .i64 (((a2_y).length : Int)))), (69, .c (.int .i64 t69_58)), (73, .c (.int .i64 (((a2_y).length : Int)))), (74, .c (.int .i64 0))], []⟩) (sub_gen [] rfl rfl ⟨zc rfl rfl, zc rfl rfl, zc rfl rfl, zc rfl rfl, zc rfl rfl, zc rfl rfl, zc rfl rfl, zc rfl rfl, trivial⟩ trivial) ?_
            refine (SCode.loop (σ := Nat × (Bool × Int)) (S := fun s => ⟨[(2, .c (vI a2_y)), (7, .c (vI c_9.1)), (10, .c (.int .i64 t69_58)), (11, .c (.bool s.2.1)), (68, .c (.int .i64 (((a2_y).length : Int)))), (69, .c (.int .i64 t69_58)), (73, .c (.int .i64 (((a2_y).length : Int)))), (74, .c (.int .i64 s.2.2))], []⟩) (g := fun s => chargenetlaw10_FairFair_l124 a2_y c_9 t69_58 (fun t69_58 => chargenetlaw10_FairFair_l96 F a2_y c_9 n_96 t69_58) s.1 s.2.1 s.2.2 = some r) (μ := fun s => s.1) (F, (false, 0)) h ?_)
            rintro ⟨n_124, ⟨poorer_113, t74_114⟩⟩ h
            replace h : chargenetlaw10_FairFair_l124 a2_y c_9 t69_58 (fun t69_58 => chargenetlaw10_FairFair_l96 F a2_y c_9 n_96 t69_58) n_124 poorer_113 t74_114 = some r := h
            show SCode _ _ _ ⟨[(2, .c (vI a2_y)), (7, .c (vI c_9.1)), (10, .c (.int .i64 t69_58)), (11, .c (.bool poorer_113)), (68, .c (.int .i64 (((a2_y).length : Int)))), (69, .c (.int .i64 t69_58)), (73, .c (.int .i64 (((a2_y).length : Int)))), (74, .c (.int .i64 t74_114))], []⟩ _
            cases n_124 with
            | zero => cases h
            | succ n_124 =>
              replace h : chargenetlaw10_FairFair_b124 a2_y c_9 t69_58 (fun t69_58 => chargenetlaw10_FairFair_l96 F a2_y c_9 n_96 t69_58) (fun poorer_113 t74_114 => chargenetlaw10_FairFair_l124 a2_y c_9 t69_58 (fun t69_58 => chargenetlaw10_FairFair_l96 F a2_y c_9 n_96 t69_58) n_124 poorer_113 t74_114) poorer_113 t74_114 = some r := h
              unfold chargenetlaw10_FairFair_b124 at h
              refine SCode.seq ?_
              refine SCode.region (show SOps _ _ _ [0] _ _ from ?_)
              refine SOps.q rfl (.plain rfl) rfl (q_lss rfl rfl rfl) ?_
              refine SOps.sub (st' := ⟨[(2, .c (vI a2_y)), (7, .c (vI c_9.1)), (10, .c (.int .i64 t69_58)), (11, .c (.bool poorer_113)), (68, .c (.int .i64 (((a2_y).length : Int)))), (69, .c (.int .i64 t69_58)), (73, .c (.int .i64 (((a2_y).length : Int)))), (74, .c (.int .i64 t74_114)), (75, .c (.bool (decide (t74_114 < ((a2_y).length : Int)))))], []⟩) (sub_gen [] rfl rfl ⟨zc rfl rfl, zc rfl rfl, zc rfl rfl, zc rfl rfl, zc rfl rfl, zc rfl rfl, zc rfl rfl, zc rfl rfl, zc rfl rfl, trivial⟩ trivial) ?_
              refine SOps.nil ?_
              refine SCode.seq ?_
              rcases cond_out h with ⟨g125, h⟩ | ⟨g125, h⟩
              · refine SCode.cond_t rfl g125 ?_
                refine SCode.skip ?_
                refine SCode.join (σ := Bool) (S := fun s => ⟨[(2, .c (vI a2_y)), (7, .c (vI c_9.1)), (10, .c (.int .i64 t69_58)), (11, .c (.bool s)), (68, .c (.int .i64 (((a2_y).length : Int)))), (69, .c (.int .i64 t69_58)), (73, .c (.int .i64 (((a2_y).length : Int)))), (74, .c (.int .i64 t74_114))], []⟩) (g := fun s => chargenetlaw10_FairFair_p127 t74_114 (fun poorer_113 t74_114 => chargenetlaw10_FairFair_l124 a2_y c_9 t69_58 (fun t69_58 => chargenetlaw10_FairFair_l96 F a2_y c_9 n_96 t69_58) n_124 poorer_113 t74_114) s = some r) ?_ ?_
                rotate_left
                · refine SCode.block ?_
                  refine SCode.seq ?_
                  refine SCode.region (show SOps _ _ _ [0, 1] _ _ from ?_)
                  refine SOps.q rfl (.plain rfl) rfl (q_move rfl rfl) ?_
                  refine SOps.q rfl (.plain rfl) rfl (q_assign rfl rfl) ?_
                  refine SOps.sub (st' := ⟨[(2, .c (vI a2_y)), (7, .c (vI c_9.1)), (10, .c (.int .i64 t69_58)), (11, .c (.bool poorer_113)), (12, .c (.int .i64 t74_114)), (68, .c (.int .i64 (((a2_y).length : Int)))), (69, .c (.int .i64 t69_58)), (73, .c (.int .i64 (((a2_y).length : Int)))), (74, .c (.int .i64 t74_114))], []⟩) (sub_gen [] rfl rfl ⟨zc rfl rfl, zc rfl rfl, zc rfl rfl, zc rfl rfl, zc rfl rfl, zc rfl rfl, zc rfl rfl, zc rfl rfl, zc rfl rfl, trivial⟩ trivial) ?_
                  refine SOps.nil ?_
                  rcases cond_out h with ⟨g128, h⟩ | ⟨g128, h⟩
                  · refine SCode.draw (s' := [(11, .c (.bool true)), (99, .c (.bool true)), (98, .c (.raw (.tuple #[]))), (97, .c (.raw (.tuple #[]))), (96, .c (.raw (.tuple #[]))), (95, .c (.raw (.tuple #[]))), (94, .c (.raw (.tuple #[]))), (93, .c (.raw (.tuple #[]))), (92, .c (.raw (.tuple #[]))), (91, .c (.raw (.tuple #[]))), (90, .c (.raw (.tuple #[]))), (89, .c (.raw (.tuple #[]))), (88, .c (.raw (.tuple #[]))), (87, .c (.raw (.tuple #[]))), (86, .c (.raw (.tuple #[]))), (85, .c (.raw (.tuple #[]))), (84, .c (.raw (.tuple #[]))), (83, .c (.raw (.tuple #[]))), (82, .c (.raw (.tuple #[]))), (81, .c (.raw (.tuple #[]))), (80, .c (.raw (.tuple #[]))), (79, .c (.raw (.tuple #[]))), (78, .c (.bool poorer_113)), (77, .c (.bool poorer_113)), (2, .c (vI a2_y)), (7, .c (vI c_9.1)), (10, .c (.int .i64 t69_58)), (11, .c (.bool poorer_113)), (12, .c (.int .i64 t74_114)), (68, .c (.int .i64 (((a2_y).length : Int)))), (69, .c (.int .i64 t69_58)), (73, .c (.int .i64 (((a2_y).length : Int)))), (74, .c (.int .i64 t74_114))]) mixed [[], [0], [0, 1], [0, 1], [0, 1, 2, 3], [0, 1, 2, 3, 4], [0, 1], [0, 1], [0, 1, 6, 7], [0, 1, 6, 7, 8], [0, 1, 2, 3, 4, 5, 6, 7, 8, 9], [0, 1, 2, 3, 4, 5, 6, 7, 8, 9, 10], [0, 1, 2, 3, 4, 5, 6, 7, 8, 9, 10, 11], [0, 1, 2, 3, 4, 5, 6, 7, 8, 9, 10, 11], [0, 1, 2, 3, 4, 5, 6, 7, 8, 9, 10, 11, 12, 13], [0, 1, 2, 3, 4, 5, 6, 7, 8, 9, 10, 11, 12, 13, 14], [0, 1, 2, 3, 4, 5, 6, 7, 8, 9, 10, 11], [0, 1, 2, 3, 4, 5, 6, 7, 8, 9, 10, 11], [0, 1, 2, 3, 4, 5, 6, 7, 8, 9, 10, 11, 16, 17], [0, 1, 2, 3, 4, 5, 6, 7, 8, 9, 10, 11, 16, 17, 18], [0, 1, 2, 3, 4, 5, 6, 7, 8, 9, 10, 11, 12, 13, 14, 15, 16, 17, 18, 19], [0, 1, 2, 3, 4, 5, 6, 7, 8, 9, 10, 11, 12, 13, 14, 15, 16, 17, 18, 19, 20], [0, 1, 2, 3, 4, 5, 6, 7, 8, 9, 10, 11, 12, 13, 14, 15, 16, 17, 18, 19, 20, 21], [0, 1, 2, 3, 4, 5, 6, 7, 8, 9, 10, 11, 12, 13, 14, 15, 16, 17, 18, 19, 20, 21, 22]] 24 0 rfl rfl ?_ ?_
                    · refine QChain.run rfl (.plain rfl) rfl (q_move rfl rfl) ?_
                      refine QChain.run rfl (.plain rfl) rfl (q_move rfl rfl) ?_
                      refine QChain.skip rfl ⟨1, 78, false, rfl, rfl, (.inl (gT g128))⟩ rfl ?_
                      refine QChain.skip rfl ⟨1, 78, false, rfl, rfl, (.inl (gT g128))⟩ rfl ?_
                      refine QChain.skip rfl ⟨1, 78, false, rfl, rfl, (.inl (gT g128))⟩ rfl ?_
                      refine QChain.skip rfl ⟨1, 78, false, rfl, rfl, (.inl (gT g128))⟩ rfl ?_
                      refine QChain.skip rfl ⟨1, 78, false, rfl, rfl, (.inl (gT g128))⟩ rfl ?_
                      refine QChain.skip rfl ⟨1, 78, false, rfl, rfl, (.inl (gT g128))⟩ rfl ?_
                      refine QChain.skip rfl ⟨1, 78, false, rfl, rfl, (.inl (gT g128))⟩ rfl ?_
                      refine QChain.skip rfl ⟨1, 78, false, rfl, rfl, (.inl (gT g128))⟩ rfl ?_
                      refine QChain.skip rfl ⟨1, 78, false, rfl, rfl, (.inl (gT g128))⟩ rfl ?_
                      refine QChain.skip rfl ⟨1, 78, false, rfl, rfl, (.inl (gT g128))⟩ rfl ?_
                      refine QChain.skip rfl ⟨11, 88, true, rfl, rfl, (.inr rfl)⟩ rfl ?_
                      refine QChain.skip rfl ⟨11, 88, true, rfl, rfl, (.inr rfl)⟩ rfl ?_
                      refine QChain.skip rfl ⟨11, 88, true, rfl, rfl, (.inr rfl)⟩ rfl ?_
                      refine QChain.skip rfl ⟨11, 88, true, rfl, rfl, (.inr rfl)⟩ rfl ?_
                      refine QChain.skip rfl ⟨11, 88, true, rfl, rfl, (.inr rfl)⟩ rfl ?_
                      refine QChain.skip rfl ⟨11, 88, true, rfl, rfl, (.inr rfl)⟩ rfl ?_
                      refine QChain.skip rfl ⟨11, 88, true, rfl, rfl, (.inr rfl)⟩ rfl ?_
                      refine QChain.skip rfl ⟨11, 88, true, rfl, rfl, (.inr rfl)⟩ rfl ?_
                      refine QChain.skip rfl ⟨11, 88, true, rfl, rfl, (.inr rfl)⟩ rfl ?_
                      refine QChain.skip rfl ⟨1, 78, false, rfl, rfl, (.inl (gT g128))⟩ rfl ?_
                      refine QChain.run rfl (.plain rfl) rfl (q_pick_t rfl rfl g128 rfl) ?_
                      refine QChain.run rfl (.plain rfl) rfl (q_assign rfl rfl) ?_
                      exact QChain.nil _ _
                    refine (show SOps _ _ _ [] _ _ from ?_)
                    refine SOps.sub (st' := ⟨[(2, .c (vI a2_y)), (7, .c (vI c_9.1)), (10, .c (.int .i64 t69_58)), (11, .c (.bool true)), (68, .c (.int .i64 (((a2_y).length : Int)))), (69, .c (.int .i64 t69_58)), (73, .c (.int .i64 (((a2_y).length : Int)))), (74, .c (.int .i64 t74_114))], []⟩) (sub_gen [] rfl rfl ⟨zc rfl rfl, zc rfl rfl, zc rfl rfl, zc rfl rfl, zc rfl rfl, zc rfl rfl, zc rfl rfl, zc rfl rfl, trivial⟩ trivial) ?_
                    refine SOps.nil ?_
                    exact ⟨true, h, sub_gen [] rfl rfl ⟨zc rfl rfl, zc rfl rfl, zc rfl rfl, zc rfl rfl, zc rfl rfl, zc rfl rfl, zc rfl rfl, zc rfl rfl, trivial⟩ trivial⟩
                  obtain ⟨g129, h⟩ := guard_out h
                  obtain ⟨g130, h⟩ := guard_out h
                  rcases cond_out h with ⟨g131, h⟩ | ⟨g131, h⟩
                  · obtain ⟨g132, h⟩ := guard_out h
                    obtain ⟨g133, h⟩ := guard_out h
                    refine SCode.draw (s' := [(11, .c (.bool (decide (a2_y.getD t74_114.toNat 0 ≤ c_9.1.getD t69_58.toNat 0)))), (99, .c (.bool (decide (a2_y.getD t74_114.toNat 0 ≤ c_9.1.getD t69_58.toNat 0)))), (98, .c (.bool (decide (a2_y.getD t74_114.toNat 0 ≤ c_9.1.getD t69_58.toNat 0)))), (97, .c (.bool (decide (a2_y.getD t74_114.toNat 0 ≤ c_9.1.getD t69_58.toNat 0)))), (96, .c (.int .i64 (c_9.1.getD t69_58.toNat 0))), (95, .c (.eptr 1 ((cInt .i64) (c_9.1.getD t69_58.toNat 0)) 0)), (94, .c (.int .i64 t69_58)), (93, .c (vI c_9.1)), (92, .c (.int .i64 (a2_y.getD t74_114.toNat 0))), (91, .c (.eptr 1 ((cInt .i64) (a2_y.getD t74_114.toNat 0)) 0)), (90, .c (.int .i64 t74_114)), (89, .c (vI a2_y)), (88, .c (.bool (decide (a2_y.getD t74_114.toNat 0 < c_9.1.getD t74_114.toNat 0)))), (87, .c (.bool (decide (a2_y.getD t74_114.toNat 0 < c_9.1.getD t74_114.toNat 0)))), (86, .c (.int .i64 (c_9.1.getD t74_114.toNat 0))), (85, .c (.eptr 1 ((cInt .i64) (c_9.1.getD t74_114.toNat 0)) 0)), (84, .c (.int .i64 t74_114)), (83, .c (vI c_9.1)), (82, .c (.int .i64 (a2_y.getD t74_114.toNat 0))), (81, .c (.eptr 1 ((cInt .i64) (a2_y.getD t74_114.toNat 0)) 0)), (80, .c (.int .i64 t74_114)), (79, .c (vI a2_y)), (78, .c (.bool poorer_113)), (77, .c (.bool poorer_113)), (2, .c (vI a2_y)), (7, .c (vI c_9.1)), (10, .c (.int .i64 t69_58)), (11, .c (.bool poorer_113)), (12, .c (.int .i64 t74_114)), (68, .c (.int .i64 (((a2_y).length : Int)))), (69, .c (.int .i64 t69_58)), (73, .c (.int .i64 (((a2_y).length : Int)))), (74, .c (.int .i64 t74_114))]) mixed [[], [0], [0, 1], [0, 1], [0, 1, 2, 3], [0, 1, 2, 3, 4], [0, 1], [0, 1], [0, 1, 6, 7], [0, 1, 6, 7, 8], [0, 1, 2, 3, 4, 5, 6, 7, 8, 9], [0, 1, 2, 3, 4, 5, 6, 7, 8, 9, 10], [0, 1, 2, 3, 4, 5, 6, 7, 8, 9, 10, 11], [0, 1, 2, 3, 4, 5, 6, 7, 8, 9, 10, 11], [0, 1, 2, 3, 4, 5, 6, 7, 8, 9, 10, 11, 12, 13], [0, 1, 2, 3, 4, 5, 6, 7, 8, 9, 10, 11, 12, 13, 14], [0, 1, 2, 3, 4, 5, 6, 7, 8, 9, 10, 11], [0, 1, 2, 3, 4, 5, 6, 7, 8, 9, 10, 11], [0, 1, 2, 3, 4, 5, 6, 7, 8, 9, 10, 11, 16, 17], [0, 1, 2, 3, 4, 5, 6, 7, 8, 9, 10, 11, 16, 17, 18], [0, 1, 2, 3, 4, 5, 6, 7, 8, 9, 10, 11, 12, 13, 14, 15, 16, 17, 18, 19], [0, 1, 2, 3, 4, 5, 6, 7, 8, 9, 10, 11, 12, 13, 14, 15, 16, 17, 18, 19, 20], [0, 1, 2, 3, 4, 5, 6, 7, 8, 9, 10, 11, 12, 13, 14, 15, 16, 17, 18, 19, 20, 21], [0, 1, 2, 3, 4, 5, 6, 7, 8, 9, 10, 11, 12, 13, 14, 15, 16, 17, 18, 19, 20, 21, 22]] 24 0 rfl rfl ?_ ?_
                    · refine QChain.run rfl (.plain rfl) rfl (q_move rfl rfl) ?_
                      refine QChain.run rfl (.plain rfl) rfl (q_move rfl rfl) ?_
                      refine QChain.run rfl (.guard 1 78 false rfl rfl (gF g128)) rfl (q_move rfl rfl) ?_
                      refine QChain.run rfl (.guard 1 78 false rfl rfl (gF g128)) rfl (q_move rfl rfl) ?_
                      refine QChain.run rfl (.guard 1 78 false rfl rfl (gF g128)) rfl (q_index_vec rfl rfl rfl sl22 rfl g129.1 g129.2) ?_
                      refine QChain.run rfl (.guard 1 78 false rfl rfl (gF g128)) rfl (q_load_eptr rfl rfl ty3) ?_
                      refine QChain.run rfl (.guard 1 78 false rfl rfl (gF g128)) rfl (q_move rfl rfl) ?_
                      refine QChain.run rfl (.guard 1 78 false rfl rfl (gF g128)) rfl (q_move rfl rfl) ?_
                      refine QChain.run rfl (.guard 1 78 false rfl rfl (gF g128)) rfl (q_index_vec rfl rfl rfl sl22 rfl g130.1 g130.2) ?_
                      refine QChain.run rfl (.guard 1 78 false rfl rfl (gF g128)) rfl (q_load_eptr rfl rfl ty3) ?_
                      refine QChain.run rfl (.guard 1 78 false rfl rfl (gF g128)) rfl (q_lss rfl rfl rfl) ?_
                      refine QChain.run rfl (.guard 1 78 false rfl rfl (gF g128)) rfl (q_move rfl rfl) ?_
                      refine QChain.run rfl (.guard 11 88 true rfl rfl (gT g131)) rfl (q_move rfl rfl) ?_
                      refine QChain.run rfl (.guard 11 88 true rfl rfl (gT g131)) rfl (q_move rfl rfl) ?_
                      refine QChain.run rfl (.guard 11 88 true rfl rfl (gT g131)) rfl (q_index_vec rfl rfl rfl sl22 rfl g132.1 g132.2) ?_
                      refine QChain.run rfl (.guard 11 88 true rfl rfl (gT g131)) rfl (q_load_eptr rfl rfl ty3) ?_
                      refine QChain.run rfl (.guard 11 88 true rfl rfl (gT g131)) rfl (q_move rfl rfl) ?_
                      refine QChain.run rfl (.guard 11 88 true rfl rfl (gT g131)) rfl (q_move rfl rfl) ?_
                      refine QChain.run rfl (.guard 11 88 true rfl rfl (gT g131)) rfl (q_index_vec rfl rfl rfl sl22 rfl g133.1 g133.2) ?_
                      refine QChain.run rfl (.guard 11 88 true rfl rfl (gT g131)) rfl (q_load_eptr rfl rfl ty3) ?_
                      refine QChain.run rfl (.guard 11 88 true rfl rfl (gT g131)) rfl (q_leq rfl rfl rfl) ?_
                      refine QChain.run rfl (.guard 1 78 false rfl rfl (gF g128)) rfl (q_pick_t rfl rfl g131 rfl) ?_
                      refine QChain.run rfl (.plain rfl) rfl (q_pick_f rfl rfl g128 rfl) ?_
                      refine QChain.run rfl (.plain rfl) rfl (q_assign rfl rfl) ?_
                      exact QChain.nil _ _
                    refine (show SOps _ _ _ [] _ _ from ?_)
                    refine SOps.sub (st' := ⟨[(2, .c (vI a2_y)), (7, .c (vI c_9.1)), (10, .c (.int .i64 t69_58)), (11, .c (.bool (decide (a2_y.getD t74_114.toNat 0 ≤ c_9.1.getD t69_58.toNat 0)))), (68, .c (.int .i64 (((a2_y).length : Int)))), (69, .c (.int .i64 t69_58)), (73, .c (.int .i64 (((a2_y).length : Int)))), (74, .c (.int .i64 t74_114))], []⟩) (sub_gen [] rfl rfl ⟨zc rfl rfl, zc rfl rfl, zc rfl rfl, zc rfl rfl, zc rfl rfl, zc rfl rfl, zc rfl rfl, zc rfl rfl, trivial⟩ trivial) ?_
                    refine SOps.nil ?_
                    exact ⟨decide (a2_y.getD t74_114.toNat 0 ≤ c_9.1.getD t69_58.toNat 0), h, sub_gen [] rfl rfl ⟨zc rfl rfl, zc rfl rfl, zc rfl rfl, zc rfl rfl, zc rfl rfl, zc rfl rfl, zc rfl rfl, zc rfl rfl, trivial⟩ trivial⟩
                  refine SCode.draw (s' := [(11, .c (.bool false)), (99, .c (.bool false)), (98, .c (.bool false)), (97, .c (.raw (.tuple #[]))), (96, .c (.raw (.tuple #[]))), (95, .c (.raw (.tuple #[]))), (94, .c (.raw (.tuple #[]))), (93, .c (.raw (.tuple #[]))), (92, .c (.raw (.tuple #[]))), (91, .c (.raw (.tuple #[]))), (90, .c (.raw (.tuple #[]))), (89, .c (.raw (.tuple #[]))), (88, .c (.bool (decide (a2_y.getD t74_114.toNat 0 < c_9.1.getD t74_114.toNat 0)))), (87, .c (.bool (decide (a2_y.getD t74_114.toNat 0 < c_9.1.getD t74_114.toNat 0)))), (86, .c (.int .i64 (c_9.1.getD t74_114.toNat 0))), (85, .c (.eptr 1 ((cInt .i64) (c_9.1.getD t74_114.toNat 0)) 0)), (84, .c (.int .i64 t74_114)), (83, .c (vI c_9.1)), (82, .c (.int .i64 (a2_y.getD t74_114.toNat 0))), (81, .c (.eptr 1 ((cInt .i64) (a2_y.getD t74_114.toNat 0)) 0)), (80, .c (.int .i64 t74_114)), (79, .c (vI a2_y)), (78, .c (.bool poorer_113)), (77, .c (.bool poorer_113)), (2, .c (vI a2_y)), (7, .c (vI c_9.1)), (10, .c (.int .i64 t69_58)), (11, .c (.bool poorer_113)), (12, .c (.int .i64 t74_114)), (68, .c (.int .i64 (((a2_y).length : Int)))), (69, .c (.int .i64 t69_58)), (73, .c (.int .i64 (((a2_y).length : Int)))), (74, .c (.int .i64 t74_114))]) mixed [[], [0], [0, 1], [0, 1], [0, 1, 2, 3], [0, 1, 2, 3, 4], [0, 1], [0, 1], [0, 1, 6, 7], [0, 1, 6, 7, 8], [0, 1, 2, 3, 4, 5, 6, 7, 8, 9], [0, 1, 2, 3, 4, 5, 6, 7, 8, 9, 10], [0, 1, 2, 3, 4, 5, 6, 7, 8, 9, 10, 11], [0, 1, 2, 3, 4, 5, 6, 7, 8, 9, 10, 11], [0, 1, 2, 3, 4, 5, 6, 7, 8, 9, 10, 11, 12, 13], [0, 1, 2, 3, 4, 5, 6, 7, 8, 9, 10, 11, 12, 13, 14], [0, 1, 2, 3, 4, 5, 6, 7, 8, 9, 10, 11], [0, 1, 2, 3, 4, 5, 6, 7, 8, 9, 10, 11], [0, 1, 2, 3, 4, 5, 6, 7, 8, 9, 10, 11, 16, 17], [0, 1, 2, 3, 4, 5, 6, 7, 8, 9, 10, 11, 16, 17, 18], [0, 1, 2, 3, 4, 5, 6, 7, 8, 9, 10, 11, 12, 13, 14, 15, 16, 17, 18, 19], [0, 1, 2, 3, 4, 5, 6, 7, 8, 9, 10, 11, 12, 13, 14, 15, 16, 17, 18, 19, 20], [0, 1, 2, 3, 4, 5, 6, 7, 8, 9, 10, 11, 12, 13, 14, 15, 16, 17, 18, 19, 20, 21], [0, 1, 2, 3, 4, 5, 6, 7, 8, 9, 10, 11, 12, 13, 14, 15, 16, 17, 18, 19, 20, 21, 22]] 24 0 rfl rfl ?_ ?_
                  · refine QChain.run rfl (.plain rfl) rfl (q_move rfl rfl) ?_
                    refine QChain.run rfl (.plain rfl) rfl (q_move rfl rfl) ?_
                    refine QChain.run rfl (.guard 1 78 false rfl rfl (gF g128)) rfl (q_move rfl rfl) ?_
                    refine QChain.run rfl (.guard 1 78 false rfl rfl (gF g128)) rfl (q_move rfl rfl) ?_
                    refine QChain.run rfl (.guard 1 78 false rfl rfl (gF g128)) rfl (q_index_vec rfl rfl rfl sl22 rfl g129.1 g129.2) ?_
                    refine QChain.run rfl (.guard 1 78 false rfl rfl (gF g128)) rfl (q_load_eptr rfl rfl ty3) ?_
                    refine QChain.run rfl (.guard 1 78 false rfl rfl (gF g128)) rfl (q_move rfl rfl) ?_
                    refine QChain.run rfl (.guard 1 78 false rfl rfl (gF g128)) rfl (q_move rfl rfl) ?_
                    refine QChain.run rfl (.guard 1 78 false rfl rfl (gF g128)) rfl (q_index_vec rfl rfl rfl sl22 rfl g130.1 g130.2) ?_
                    refine QChain.run rfl (.guard 1 78 false rfl rfl (gF g128)) rfl (q_load_eptr rfl rfl ty3) ?_
                    refine QChain.run rfl (.guard 1 78 false rfl rfl (gF g128)) rfl (q_lss rfl rfl rfl) ?_
                    refine QChain.run rfl (.guard 1 78 false rfl rfl (gF g128)) rfl (q_move rfl rfl) ?_
                    refine QChain.skip rfl ⟨11, 88, true, rfl, rfl, (.inl (gF g131))⟩ rfl ?_
                    refine QChain.skip rfl ⟨11, 88, true, rfl, rfl, (.inl (gF g131))⟩ rfl ?_
                    refine QChain.skip rfl ⟨11, 88, true, rfl, rfl, (.inl (gF g131))⟩ rfl ?_
                    refine QChain.skip rfl ⟨11, 88, true, rfl, rfl, (.inl (gF g131))⟩ rfl ?_
                    refine QChain.skip rfl ⟨11, 88, true, rfl, rfl, (.inl (gF g131))⟩ rfl ?_
                    refine QChain.skip rfl ⟨11, 88, true, rfl, rfl, (.inl (gF g131))⟩ rfl ?_
                    refine QChain.skip rfl ⟨11, 88, true, rfl, rfl, (.inl (gF g131))⟩ rfl ?_
                    refine QChain.skip rfl ⟨11, 88, true, rfl, rfl, (.inl (gF g131))⟩ rfl ?_
                    refine QChain.skip rfl ⟨11, 88, true, rfl, rfl, (.inl (gF g131))⟩ rfl ?_
                    refine QChain.run rfl (.guard 1 78 false rfl rfl (gF g128)) rfl (q_pick_f rfl rfl g131 rfl) ?_
                    refine QChain.run rfl (.plain rfl) rfl (q_pick_f rfl rfl g128 rfl) ?_
                    refine QChain.run rfl (.plain rfl) rfl (q_assign rfl rfl) ?_
                    exact QChain.nil _ _
                  refine (show SOps _ _ _ [] _ _ from ?_)
                  refine SOps.sub (st' := ⟨[(2, .c (vI a2_y)), (7, .c (vI c_9.1)), (10, .c (.int .i64 t69_58)), (11, .c (.bool false)), (68, .c (.int .i64 (((a2_y).length : Int)))), (69, .c (.int .i64 t69_58)), (73, .c (.int .i64 (((a2_y).length : Int)))), (74, .c (.int .i64 t74_114))], []⟩) (sub_gen [] rfl rfl ⟨zc rfl rfl, zc rfl rfl, zc rfl rfl, zc rfl rfl, zc rfl rfl, zc rfl rfl, zc rfl rfl, zc rfl rfl, trivial⟩ trivial) ?_
                  refine SOps.nil ?_
                  exact ⟨false, h, sub_gen [] rfl rfl ⟨zc rfl rfl, zc rfl rfl, zc rfl rfl, zc rfl rfl, zc rfl rfl, zc rfl rfl, zc rfl rfl, zc rfl rfl, trivial⟩ trivial⟩
                rintro poorer_126 h
                show SCode _ _ _ ⟨[(2, .c (vI a2_y)), (7, .c (vI c_9.1)), (10, .c (.int .i64 t69_58)), (11, .c (.bool poorer_126)), (68, .c (.int .i64 (((a2_y).length : Int)))), (69, .c (.int .i64 t69_58)), (73, .c (.int .i64 (((a2_y).length : Int)))), (74, .c (.int .i64 t74_114))], []⟩ _
                replace h : chargenetlaw10_FairFair_p127 t74_114 (fun poorer_113 t74_114 => chargenetlaw10_FairFair_l124 a2_y c_9 t69_58 (fun t69_58 => chargenetlaw10_FairFair_l96 F a2_y c_9 n_96 t69_58) n_124 poorer_113 t74_114) poorer_126 = some r := h
                unfold chargenetlaw10_FairFair_p127 at h
                refine SCode.region (show SOps _ _ _ [0, 1] _ _ from ?_)
                refine SOps.q rfl (.plain rfl) rfl (q_add rfl rfl rfl) ?_
                refine SOps.q rfl (.plain rfl) rfl (q_move rfl rfl) ?_
                refine SOps.sub (st' := ⟨[(2, .c (vI a2_y)), (7, .c (vI c_9.1)), (10, .c (.int .i64 t69_58)), (11, .c (.bool poorer_126)), (68, .c (.int .i64 (((a2_y).length : Int)))), (69, .c (.int .i64 t69_58)), (73, .c (.int .i64 (((a2_y).length : Int)))), (74, .c (.int .i64 (IntKind.wrap .i64 (t74_114 + 1))))], []⟩) (sub_gen [] rfl rfl ⟨zc rfl rfl, zc rfl rfl, zc rfl rfl, zc rfl rfl, zc rfl rfl, zc rfl rfl, zc rfl rfl, zc rfl rfl, trivial⟩ trivial) ?_
                refine SOps.nil ?_
                exact ⟨(n_124, (poorer_126, IntKind.wrap .i64 (t74_114 + 1))), h, Nat.lt_succ_self n_124, sub_gen [] rfl rfl ⟨zc rfl rfl, zc rfl rfl, zc rfl rfl, zc rfl rfl, zc rfl rfl, zc rfl rfl, zc rfl rfl, zc rfl rfl, trivial⟩ trivial⟩
              refine SCode.cond_f rfl g125 ?_
              refine SCode.exit ?_
              exact ⟨poorer_113, h, sub_gen [] rfl rfl ⟨zc rfl rfl, zc rfl rfl, zc rfl rfl, zc rfl rfl, zc rfl rfl, zc rfl rfl, trivial⟩ trivial⟩
          rintro poorer_99 h
          show SCode _ _ _ ⟨[(2, .c (vI a2_y)), (7, .c (vI c_9.1)), (10, .c (.int .i64 t69_58)), (11, .c (.bool poorer_99)), (68, .c (.int .i64 (((a2_y).length : Int)))), (69, .c (.int .i64 t69_58))], []⟩ _
          replace h : chargenetlaw10_FairFair_p104 a2_y c_9 t69_58 (fun t69_58 => chargenetlaw10_FairFair_l96 F a2_y c_9 n_96 t69_58) poorer_99 = some r := h
          unfold chargenetlaw10_FairFair_p104 at h
          refine SCode.seq ?_
          obtain ⟨g100, h⟩ := guard_out h
          obtain ⟨g101, h⟩ := guard_out h
          rcases cond_out h with ⟨g102, h⟩ | ⟨g102, h⟩
          · refine SCode.draw (s' := [(113, .c (.bool ((!poorer_99)))), (112, .c (.bool ((!poorer_99)))), (111, .c (.bool poorer_99)), (110, .c (.bool (decide (c_9.1.getD t69_58.toNat 0 < a2_y.getD t69_58.toNat 0)))), (109, .c (.bool (decide (c_9.1.getD t69_58.toNat 0 < a2_y.getD t69_58.toNat 0)))), (108, .c (.int .i64 (c_9.1.getD t69_58.toNat 0))), (107, .c (.eptr 1 ((cInt .i64) (c_9.1.getD t69_58.toNat 0)) 0)), (106, .c (.int .i64 t69_58)), (105, .c (vI c_9.1)), (104, .c (.int .i64 (a2_y.getD t69_58.toNat 0))), (103, .c (.eptr 1 ((cInt .i64) (a2_y.getD t69_58.toNat 0)) 0)), (102, .c (.int .i64 t69_58)), (101, .c (vI a2_y)), (2, .c (vI a2_y)), (7, .c (vI c_9.1)), (10, .c (.int .i64 t69_58)), (11, .c (.bool poorer_99)), (68, .c (.int .i64 (((a2_y).length : Int)))), (69, .c (.int .i64 t69_58))]) mixed [[], [], [0, 1], [0, 1, 2], [], [], [4, 5], [4, 5, 6], [0, 1, 2, 3, 4, 5, 6, 7], [0, 1, 2, 3, 4, 5, 6, 7, 8], [0, 1, 2, 3, 4, 5, 6, 7, 8, 9], [0, 1, 2, 3, 4, 5, 6, 7, 8, 9, 10], [0, 1, 2, 3, 4, 5, 6, 7, 8, 9, 10, 11]] 13 0 rfl rfl ?_ ?_
            · refine QChain.run rfl (.plain rfl) rfl (q_move rfl rfl) ?_
              refine QChain.run rfl (.plain rfl) rfl (q_move rfl rfl) ?_
              refine QChain.run rfl (.plain rfl) rfl (q_index_vec rfl rfl rfl sl22 rfl g100.1 g100.2) ?_
              refine QChain.run rfl (.plain rfl) rfl (q_load_eptr rfl rfl ty3) ?_
              refine QChain.run rfl (.plain rfl) rfl (q_move rfl rfl) ?_
              refine QChain.run rfl (.plain rfl) rfl (q_move rfl rfl) ?_
              refine QChain.run rfl (.plain rfl) rfl (q_index_vec rfl rfl rfl sl22 rfl g101.1 g101.2) ?_
              refine QChain.run rfl (.plain rfl) rfl (q_load_eptr rfl rfl ty3) ?_
              refine QChain.run rfl (.plain rfl) rfl (q_gtr rfl rfl rfl) ?_
              refine QChain.run rfl (.plain rfl) rfl (q_move rfl rfl) ?_
              refine QChain.run rfl (.guard 9 110 true rfl rfl (gT g102)) rfl (q_move rfl rfl) ?_
              refine QChain.run rfl (.guard 9 110 true rfl rfl (gT g102)) rfl (q_not rfl rfl) ?_
              refine QChain.run rfl (.plain rfl) rfl (q_pick_t rfl rfl g102 rfl) ?_
              exact QChain.nil _ _
            refine (show SOps _ _ _ [] _ _ from ?_)
            refine SOps.sub (st' := ⟨[(2, .c (vI a2_y)), (7, .c (vI c_9.1)), (68, .c (.int .i64 (((a2_y).length : Int)))), (69, .c (.int .i64 t69_58)), (113, .c (.bool ((!poorer_99))))], []⟩) (sub_gen [] rfl rfl ⟨zc rfl rfl, zc rfl rfl, zc rfl rfl, zc rfl rfl, zc rfl rfl, trivial⟩ trivial) ?_
            refine SOps.nil ?_
            rcases cond_out h with ⟨g103, h⟩ | ⟨g103, h⟩
            · refine SCode.cond_t rfl g103 ?_
              refine SCode.seq ?_
              refine SCode.region (show SOps _ _ _ [0] _ _ from ?_)
              refine SOps.q rfl (.plain rfl) rfl (q_assign rfl rfl) ?_
              refine SOps.sub (st' := ⟨[(6, .c (.bool false))], []⟩) (sub_gen [] rfl rfl ⟨zc rfl rfl, trivial⟩ trivial) ?_
              refine SOps.nil ?_
              refine SCode.ret ?_
              obtain rfl := Option.some.inj h
              exact ⟨⟨[(6, .c (.bool false))], []⟩, _, sub_gen [] rfl rfl ⟨zc rfl rfl, trivial⟩ trivial, resA1 (v := .c (.bool false)) rfl rfl, rfl⟩
            refine SCode.cond_f rfl g103 ?_
            refine SCode.skip ?_
            exact ⟨(), h, sub_gen [] rfl rfl ⟨zc rfl rfl, zc rfl rfl, zc rfl rfl, zc rfl rfl, trivial⟩ trivial⟩
          refine SCode.draw (s' := [(113, .c (.bool false)), (112, .c (.raw (.tuple #[]))), (111, .c (.raw (.tuple #[]))), (110, .c (.bool (decide (c_9.1.getD t69_58.toNat 0 < a2_y.getD t69_58.toNat 0)))), (109, .c (.bool (decide (c_9.1.getD t69_58.toNat 0 < a2_y.getD t69_58.toNat 0)))), (108, .c (.int .i64 (c_9.1.getD t69_58.toNat 0))), (107, .c (.eptr 1 ((cInt .i64) (c_9.1.getD t69_58.toNat 0)) 0)), (106, .c (.int .i64 t69_58)), (105, .c (vI c_9.1)), (104, .c (.int .i64 (a2_y.getD t69_58.toNat 0))), (103, .c (.eptr 1 ((cInt .i64) (a2_y.getD t69_58.toNat 0)) 0)), (102, .c (.int .i64 t69_58)), (101, .c (vI a2_y)), (2, .c (vI a2_y)), (7, .c (vI c_9.1)), (10, .c (.int .i64 t69_58)), (11, .c (.bool poorer_99)), (68, .c (.int .i64 (((a2_y).length : Int)))), (69, .c (.int .i64 t69_58))]) mixed [[], [], [0, 1], [0, 1, 2], [], [], [4, 5], [4, 5, 6], [0, 1, 2, 3, 4, 5, 6, 7], [0, 1, 2, 3, 4, 5, 6, 7, 8], [0, 1, 2, 3, 4, 5, 6, 7, 8, 9], [0, 1, 2, 3, 4, 5, 6, 7, 8, 9, 10], [0, 1, 2, 3, 4, 5, 6, 7, 8, 9, 10, 11]] 13 0 rfl rfl ?_ ?_
          · refine QChain.run rfl (.plain rfl) rfl (q_move rfl rfl) ?_
            refine QChain.run rfl (.plain rfl) rfl (q_move rfl rfl) ?_
            refine QChain.run rfl (.plain rfl) rfl (q_index_vec rfl rfl rfl sl22 rfl g100.1 g100.2) ?_
            refine QChain.run rfl (.plain rfl) rfl (q_load_eptr rfl rfl ty3) ?_
            refine QChain.run rfl (.plain rfl) rfl (q_move rfl rfl) ?_
            refine QChain.run rfl (.plain rfl) rfl (q_move rfl rfl) ?_
            refine QChain.run rfl (.plain rfl) rfl (q_index_vec rfl rfl rfl sl22 rfl g101.1 g101.2) ?_
            refine QChain.run rfl (.plain rfl) rfl (q_load_eptr rfl rfl ty3) ?_
            refine QChain.run rfl (.plain rfl) rfl (q_gtr rfl rfl rfl) ?_
            refine QChain.run rfl (.plain rfl) rfl (q_move rfl rfl) ?_
            refine QChain.skip rfl ⟨9, 110, true, rfl, rfl, (.inl (gF g102))⟩ rfl ?_
            refine QChain.skip rfl ⟨9, 110, true, rfl, rfl, (.inl (gF g102))⟩ rfl ?_
            refine QChain.run rfl (.plain rfl) rfl (q_pick_f rfl rfl g102 rfl) ?_
            exact QChain.nil _ _
          refine (show SOps _ _ _ [] _ _ from ?_)
          refine SOps.sub (st' := ⟨[(2, .c (vI a2_y)), (7, .c (vI c_9.1)), (68, .c (.int .i64 (((a2_y).length : Int)))), (69, .c (.int .i64 t69_58)), (113, .c (.bool false))], []⟩) (sub_gen [] rfl rfl ⟨zc rfl rfl, zc rfl rfl, zc rfl rfl, zc rfl rfl, zc rfl rfl, trivial⟩ trivial) ?_
          refine SOps.nil ?_
          refine SCode.cond_f rfl rfl ?_
          refine SCode.skip ?_
          exact ⟨(), h, sub_gen [] rfl rfl ⟨zc rfl rfl, zc rfl rfl, zc rfl rfl, zc rfl rfl, trivial⟩ trivial⟩
        rintro ⟨⟩ h
        show SCode _ _ _ ⟨[(2, .c (vI a2_y)), (7, .c (vI c_9.1)), (68, .c (.int .i64 (((a2_y).length : Int)))), (69, .c (.int .i64 t69_58))], []⟩ _
        replace h : chargenetlaw10_FairFair_p98 t69_58 (fun t69_58 => chargenetlaw10_FairFair_l96 F a2_y c_9 n_96 t69_58) = some r := h
        unfold chargenetlaw10_FairFair_p98 at h
        refine SCode.region (show SOps _ _ _ [0, 1] _ _ from ?_)
        refine SOps.q rfl (.plain rfl) rfl (q_add rfl rfl rfl) ?_
        refine SOps.q rfl (.plain rfl) rfl (q_move rfl rfl) ?_
        refine SOps.sub (st' := ⟨[(2, .c (vI a2_y)), (7, .c (vI c_9.1)), (68, .c (.int .i64 (((a2_y).length : Int)))), (69, .c (.int .i64 (IntKind.wrap .i64 (t69_58 + 1))))], []⟩) (sub_gen [] rfl rfl ⟨zc rfl rfl, zc rfl rfl, zc rfl rfl, zc rfl rfl, trivial⟩ trivial) ?_
        refine SOps.nil ?_
        exact ⟨(n_96, IntKind.wrap .i64 (t69_58 + 1)), h, Nat.lt_succ_self n_96, sub_gen [] rfl rfl ⟨zc rfl rfl, zc rfl rfl, zc rfl rfl, zc rfl rfl, trivial⟩ trivial⟩
      refine SCode.cond_f rfl g97 ?_
      refine SCode.exit ?_
      exact ⟨(), h, sub_gen [] rfl rfl trivial trivial⟩
  rintro ⟨⟩ h
  show SCode _ _ _ ⟨[], []⟩ _
  replace h : chargenetlaw10_FairFair_p20 = some r := h
  unfold chargenetlaw10_FairFair_p20 at h
  refine SCode.seq ?_
  refine SCode.region (show SOps _ _ _ [0] _ _ from ?_)
  refine SOps.q rfl (.plain rfl) rfl (q_assign rfl rfl) ?_
  refine SOps.sub (st' := ⟨[(6, .c (.bool true))], []⟩) (sub_gen [] rfl rfl ⟨zc rfl rfl, trivial⟩ trivial) ?_
  refine SOps.nil ?_
  refine SCode.ret ?_
  obtain rfl := Option.some.inj h
  exact ⟨⟨[(6, .c (.bool true))], []⟩, _, sub_gen [] rfl rfl ⟨zc rfl rfl, trivial⟩ trivial, resA1 (v := .c (.bool true)) rfl rfl, rfl⟩
end Go.Proofs.Ythpblkclpfmbeaa.W
