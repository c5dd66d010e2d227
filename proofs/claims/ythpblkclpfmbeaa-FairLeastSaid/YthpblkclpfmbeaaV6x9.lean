/- Written by a program of ours (wip/eng/gen.py): the functions compute their models. -/
import Derived.Test.YthpblkclpfmbeaaFacts
import Derived.Test.YthpblkclpfmbeaaV6x8
namespace Go.Proofs.Ythpblkclpfmbeaa.W
open Go Go.Proofs Go.Proofs.Ythpblkclpfmbeaa.E Go.Proofs.Ythpblkclpfmbeaa.M
set_option linter.unusedVariables false
set_option maxRecDepth 100000 in
set_option maxHeartbeats 8000000 in
theorem chargenetlaw10_fill_f1_1000017_ok (F : Nat) (a0_caps : List Int) (a1f0 : List SRule) (r : (List Int) × Bool) (h : chargenetlaw10_fill_f1_1000017 F a0_caps a1f0 = some r) :
    SFun Try.prog 16 [] [.c (vI a0_caps), .c (.fn 1000017 1 (cellsG [.vec a1f0.length 2 (gL cSRule dSRule a1f0)]))] (fun x _ => x = .t [.c (vI r.1), .c (.bool r.2)]) := by
  refine SFun.of (n := 24) Try.func16 rfl rfl rfl ?_
  unfold chargenetlaw10_fill_f1_1000017 at h
  show SCode _ _ _ ⟨[(0, .c (vI a0_caps)), (1, .c (.fn 1000017 1 (cellsG [.vec a1f0.length 2 (gL cSRule dSRule a1f0)])))], []⟩ _
  refine SCode.seq ?_
  refine SCode.region (show SOps _ _ _ [0, 1] _ _ from ?_)
  refine SOps.q rfl (.plain rfl) rfl (q_assign rfl rfl) ?_
  refine SOps.q rfl (.plain rfl) rfl (q_assign rfl rfl) ?_
  refine SOps.sub (st' := ⟨[(0, .c (vI a0_caps)), (1, .c (.fn 1000017 1 (cellsG [.vec a1f0.length 2 (gL cSRule dSRule a1f0)])))], []⟩) (sub_gen [] rfl rfl ⟨zc rfl rfl, zc rfl rfl, trivial⟩ trivial) ?_
  refine SOps.nil ?_
  refine SCode.seq ?_
  obtain ⟨c_1, g2, h⟩ := bind_out h
  try dsimp only at h
  refine SCode.region (show SOps _ _ _ [0, 1, 2, 3, 4, 5, 6, 7] _ _ from ?_)
  refine SOps.q rfl (.plain rfl) rfl (q_move rfl rfl) ?_
  refine SOps.q rfl (.plain rfl) rfl (q_move rfl rfl) ?_
  refine SOps.q rfl (.plain rfl) rfl (q_call (fair_Fill_f1_1000017_ok F a0_caps a1f0 c_1 g2) [] rfl fn19 ⟨⟨_, rfl, .inl ⟨rfl, rfl⟩⟩, ⟨_, rfl, .inl ⟨rfl, rfl⟩⟩, trivial⟩ (.inl rfl)) ?_
  refine SOps.q rfl (.plain rfl) rfl (q_move rfl rfl) ?_
  refine SOps.q rfl (.plain rfl) rfl (q_extract rfl rfl rfl) ?_
  refine SOps.q rfl (.plain rfl) rfl (q_extract rfl rfl rfl) ?_
  refine SOps.q rfl (.plain rfl) rfl (q_assign rfl rfl) ?_
  refine SOps.q rfl (.plain rfl) rfl (q_assign rfl rfl) ?_
  refine SOps.sub (st' := ⟨[(0, .c (vI a0_caps)), (1, .c (.fn 1000017 1 (cellsG [.vec a1f0.length 2 (gL cSRule dSRule a1f0)]))), (6, .c (vI c_1.1)), (7, .c (.int .i64 c_1.2))], []⟩) (sub_gen [] rfl rfl ⟨zc rfl rfl, zc rfl rfl, zc rfl rfl, zc rfl rfl, trivial⟩ trivial) ?_
  refine SOps.nil ?_
  refine SCode.seq ?_
  rcases cond_out h with ⟨g3, h⟩ | ⟨g3, h⟩
  · obtain ⟨g4, h⟩ := guard_out h
    obtain ⟨c_5, g6, h⟩ := bind_out h
    try dsimp only at h
    refine SCode.region (show SOps _ _ _ [0, 1, 2, 3, 4, 5, 6, 7, 8, 9, 10, 11] _ _ from ?_)
    refine SOps.q rfl (.plain rfl) rfl (q_move rfl rfl) ?_
    refine SOps.q rfl (.plain rfl) rfl (q_move rfl rfl) ?_
    refine SOps.q rfl (.plain rfl) rfl (q_eql rfl rfl rfl) ?_
    refine SOps.q rfl (.plain rfl) rfl (q_move rfl rfl) ?_
    refine SOps.q rfl (.guard 3 17 true rfl rfl (gT g3)) rfl (q_move rfl rfl) ?_
    refine SOps.q rfl (.guard 3 17 true rfl rfl (gT g3)) rfl (q_move rfl rfl) ?_
    refine SOps.q rfl (.guard 3 17 true rfl rfl (gT g3)) rfl (q_len_vec rfl rfl sl22) ?_
    refine SOps.e rfl (.guard 3 17 true rfl rfl (gT g3)) (e_makeL (c := (cInt .i64)) (d0 := 0) rfl rfl rfl rfl rfl sl22 z3 rfl rfl rfl g4.1 (Int.le_refl _) g4.2.1 g4.2.2) ?_
    refine SOps.q rfl (.guard 3 17 true rfl rfl (gT g3)) rfl (q_callb (f := 17) (cs := [.vec a1f0.length 2 (gL cSRule dSRule a1f0)]) (chargenetref10_Rules_Fits_ok F a1f0 (List.replicate (((a0_caps).length : Int)).toNat (0 : Int)) c_5 g6) [0] rfl rfl fn17 ⟨⟨_, rfl, .inl ⟨rfl, rfl⟩⟩, ⟨_, rfl, .inr (.inl ⟨_, _, _, _, _, _, _, rfl, rfl, rfl, Nat.le_refl _, fun _ _ _ _ => rfl, (.head _)⟩)⟩, trivial⟩ (.inr rfl)) ?_
    refine SOps.q rfl (.plain rfl) rfl (q_pick_t rfl rfl g3 rfl) ?_
    refine SOps.q rfl (.plain rfl) rfl (q_assign rfl rfl) ?_
    refine SOps.q rfl (.plain rfl) rfl (q_assign rfl rfl) ?_
    refine SOps.sub (st' := ⟨[(4, .c (vI c_1.1)), (5, .c (.bool c_5))], []⟩) (sub_gen [] rfl rfl ⟨zc rfl rfl, zc rfl rfl, trivial⟩ trivial) ?_
    refine SOps.nil ?_
    refine SCode.ret ?_
    obtain rfl := Option.some.inj h
    exact ⟨⟨[(4, .c (vI c_1.1)), (5, .c (.bool c_5))], []⟩, _, sub_gen [] rfl rfl ⟨zc rfl rfl, zc rfl rfl, trivial⟩ trivial, resA2 (v1 := .c (vI c_1.1)) (v2 := .c (.bool c_5)) rfl rfl rfl, rfl⟩
  refine SCode.region (show SOps _ _ _ [0, 1, 2, 3, 4, 5, 6, 7, 8, 9, 10, 11] _ _ from ?_)
  refine SOps.q rfl (.plain rfl) rfl (q_move rfl rfl) ?_
  refine SOps.q rfl (.plain rfl) rfl (q_move rfl rfl) ?_
  refine SOps.q rfl (.plain rfl) rfl (q_eql rfl rfl rfl) ?_
  refine SOps.q rfl (.plain rfl) rfl (q_move rfl rfl) ?_
  refine SOps.skip rfl 3 17 true rfl rfl (.inl (gF g3)) rfl ?_
  refine SOps.skip rfl 3 17 true rfl rfl (.inl (gF g3)) rfl ?_
  refine SOps.skip rfl 3 17 true rfl rfl (.inl (gF g3)) rfl ?_
  refine SOps.skip rfl 3 17 true rfl rfl (.inl (gF g3)) rfl ?_
  refine SOps.skip rfl 3 17 true rfl rfl (.inl (gF g3)) rfl ?_
  refine SOps.q rfl (.plain rfl) rfl (q_pick_f rfl rfl g3 rfl) ?_
  refine SOps.q rfl (.plain rfl) rfl (q_assign rfl rfl) ?_
  refine SOps.q rfl (.plain rfl) rfl (q_assign rfl rfl) ?_
  refine SOps.sub (st' := ⟨[(4, .c (vI c_1.1)), (5, .c (.bool false))], []⟩) (sub_gen [] rfl rfl ⟨zc rfl rfl, zc rfl rfl, trivial⟩ trivial) ?_
  refine SOps.nil ?_
  refine SCode.ret ?_
  obtain rfl := Option.some.inj h
  exact ⟨⟨[(4, .c (vI c_1.1)), (5, .c (.bool false))], []⟩, _, sub_gen [] rfl rfl ⟨zc rfl rfl, zc rfl rfl, trivial⟩ trivial, resA2 (v1 := .c (vI c_1.1)) (v2 := .c (.bool false)) rfl rfl rfl, rfl⟩
set_option maxRecDepth 100000 in
set_option maxHeartbeats 8000000 in
theorem chargenetlaw10_FairLeast_ok (F : Nat) (a0_caps : List Int) (a1_rules : List SRule) (a2_d : Int) (r : Bool) (h : chargenetlaw10_FairLeast F a0_caps a1_rules a2_d = some r) :
    SFun Try.prog 6 [] [.c (vI a0_caps), .c (.vec a1_rules.length 2 (gL cSRule dSRule a1_rules)), .c (.int .i64 a2_d)] (fun x _ => x = .c (.bool r)) := by
  refine SFun.of (n := 76) Try.func6 rfl rfl rfl ?_
  unfold chargenetlaw10_FairLeast at h
  show SCode _ _ _ ⟨[(0, .c (vI a0_caps)), (1, .c (.vec a1_rules.length 2 (gL cSRule dSRule a1_rules))), (2, .c (.int .i64 a2_d))], []⟩ _
  refine SCode.seq ?_
  refine SCode.region (show SOps _ _ _ [0] _ _ from ?_)
  refine SOps.q rfl (.plain rfl) rfl (q_assign rfl rfl) ?_
  refine SOps.sub (st' := ⟨[(0, .c (vI a0_caps)), (1, .c (.vec a1_rules.length 2 (gL cSRule dSRule a1_rules))), (2, .c (.int .i64 a2_d))], []⟩) (sub_gen [] rfl rfl ⟨zc rfl rfl, zc rfl rfl, zc rfl rfl, trivial⟩ trivial) ?_
  refine SOps.nil ?_
  refine SCode.seq ?_
  refine SCode.seq ?_
  obtain ⟨c_1, g2, h⟩ := bind_out h
  try dsimp only at h
  rcases cond_out h with ⟨g3, h⟩ | ⟨g3, h⟩
  · refine SCode.region (show SOps _ _ _ [0, 1, 2, 3, 4, 5, 6, 7, 8, 9, 10] _ _ from ?_)
    refine SOps.q rfl (.plain rfl) rfl (q_move rfl rfl) ?_
    refine SOps.q rfl (.plain rfl) rfl (q_move rfl rfl) ?_
    refine SOps.q rfl (.plain rfl) rfl (q_call (chargenetlaw10_big_ok F a0_caps a1_rules c_1 g2) [] rfl fn15 ⟨⟨_, rfl, .inl ⟨rfl, rfl⟩⟩, ⟨_, rfl, .inl ⟨rfl, rfl⟩⟩, trivial⟩ (.inl rfl)) ?_
    refine SOps.q rfl (.plain rfl) rfl (q_move rfl rfl) ?_
    refine SOps.skip rfl 3 15 false rfl rfl (.inl (gT g3)) rfl ?_
    refine SOps.skip rfl 3 15 false rfl rfl (.inl (gT g3)) rfl ?_
    refine SOps.q rfl (.plain rfl) rfl (q_pick_t rfl rfl g3 rfl) ?_
    refine SOps.q rfl (.plain rfl) rfl (q_move rfl rfl) ?_
    refine SOps.skip rfl 7 19 false rfl rfl (.inl rfl) rfl ?_
    refine SOps.skip rfl 7 19 false rfl rfl (.inl rfl) rfl ?_
    refine SOps.q rfl (.plain rfl) rfl (q_pick_t rfl rfl rfl rfl) ?_
    refine SOps.sub (st' := ⟨[(0, .c (vI a0_caps)), (1, .c (.vec a1_rules.length 2 (gL cSRule dSRule a1_rules))), (2, .c (.int .i64 a2_d)), (22, .c (.bool true))], []⟩) (sub_gen [] rfl rfl ⟨zc rfl rfl, zc rfl rfl, zc rfl rfl, zc rfl rfl, trivial⟩ trivial) ?_
    refine SOps.nil ?_
    refine SCode.cond_t rfl rfl ?_
    refine SCode.seq ?_
    obtain ⟨c_4, g5, h⟩ := bind_out h
    try dsimp only at h
    refine SCode.region (show SOps _ _ _ [0, 1] _ _ from ?_)
    refine SOps.q rfl (.plain rfl) rfl (q_call (chargenetlaw10_exampleHolds_ok F  c_4 g5) [] rfl fn9 trivial (.inl rfl)) ?_
    refine SOps.q rfl (.plain rfl) rfl (q_assign rfl rfl) ?_
    refine SOps.sub (st' := ⟨[(6, .c (.bool c_4))], []⟩) (sub_gen [] rfl rfl ⟨zc rfl rfl, trivial⟩ trivial) ?_
    refine SOps.nil ?_
    refine SCode.ret ?_
    obtain rfl := Option.some.inj h
    exact ⟨⟨[(6, .c (.bool c_4))], []⟩, _, sub_gen [] rfl rfl ⟨zc rfl rfl, trivial⟩ trivial, resA1 (v := .c (.bool c_4)) rfl rfl, rfl⟩
  rcases cond_out h with ⟨g6, h⟩ | ⟨g6, h⟩
  · refine SCode.region (show SOps _ _ _ [0, 1, 2, 3, 4, 5, 6, 7, 8, 9, 10] _ _ from ?_)
    refine SOps.q rfl (.plain rfl) rfl (q_move rfl rfl) ?_
    refine SOps.q rfl (.plain rfl) rfl (q_move rfl rfl) ?_
    refine SOps.q rfl (.plain rfl) rfl (q_call (chargenetlaw10_big_ok F a0_caps a1_rules c_1 g2) [] rfl fn15 ⟨⟨_, rfl, .inl ⟨rfl, rfl⟩⟩, ⟨_, rfl, .inl ⟨rfl, rfl⟩⟩, trivial⟩ (.inl rfl)) ?_
    refine SOps.q rfl (.plain rfl) rfl (q_move rfl rfl) ?_
    refine SOps.q rfl (.guard 3 15 false rfl rfl (gF g3)) rfl (q_move rfl rfl) ?_
    refine SOps.q rfl (.guard 3 15 false rfl rfl (gF g3)) rfl (q_lss rfl rfl rfl) ?_
    refine SOps.q rfl (.plain rfl) rfl (q_pick_f rfl rfl g3 rfl) ?_
    refine SOps.q rfl (.plain rfl) rfl (q_move rfl rfl) ?_
    refine SOps.skip rfl 7 19 false rfl rfl (.inl (gT g6)) rfl ?_
    refine SOps.skip rfl 7 19 false rfl rfl (.inl (gT g6)) rfl ?_
    refine SOps.q rfl (.plain rfl) rfl (q_pick_t rfl rfl g6 rfl) ?_
    refine SOps.sub (st' := ⟨[(0, .c (vI a0_caps)), (1, .c (.vec a1_rules.length 2 (gL cSRule dSRule a1_rules))), (2, .c (.int .i64 a2_d)), (22, .c (.bool true))], []⟩) (sub_gen [] rfl rfl ⟨zc rfl rfl, zc rfl rfl, zc rfl rfl, zc rfl rfl, trivial⟩ trivial) ?_
    refine SOps.nil ?_
    refine SCode.cond_t rfl rfl ?_
    refine SCode.seq ?_
    obtain ⟨c_7, g8, h⟩ := bind_out h
    try dsimp only at h
    refine SCode.region (show SOps _ _ _ [0, 1] _ _ from ?_)
    refine SOps.q rfl (.plain rfl) rfl (q_call (chargenetlaw10_exampleHolds_ok F  c_7 g8) [] rfl fn9 trivial (.inl rfl)) ?_
    refine SOps.q rfl (.plain rfl) rfl (q_assign rfl rfl) ?_
    refine SOps.sub (st' := ⟨[(6, .c (.bool c_7))], []⟩) (sub_gen [] rfl rfl ⟨zc rfl rfl, trivial⟩ trivial) ?_
    refine SOps.nil ?_
    refine SCode.ret ?_
    obtain rfl := Option.some.inj h
    exact ⟨⟨[(6, .c (.bool c_7))], []⟩, _, sub_gen [] rfl rfl ⟨zc rfl rfl, trivial⟩ trivial, resA1 (v := .c (.bool c_7)) rfl rfl, rfl⟩
  refine SCode.region (show SOps _ _ _ [0, 1, 2, 3, 4, 5, 6, 7, 8, 9, 10] _ _ from ?_)
  refine SOps.q rfl (.plain rfl) rfl (q_move rfl rfl) ?_
  refine SOps.q rfl (.plain rfl) rfl (q_move rfl rfl) ?_
  refine SOps.q rfl (.plain rfl) rfl (q_call (chargenetlaw10_big_ok F a0_caps a1_rules c_1 g2) [] rfl fn15 ⟨⟨_, rfl, .inl ⟨rfl, rfl⟩⟩, ⟨_, rfl, .inl ⟨rfl, rfl⟩⟩, trivial⟩ (.inl rfl)) ?_
  refine SOps.q rfl (.plain rfl) rfl (q_move rfl rfl) ?_
  refine SOps.q rfl (.guard 3 15 false rfl rfl (gF g3)) rfl (q_move rfl rfl) ?_
  refine SOps.q rfl (.guard 3 15 false rfl rfl (gF g3)) rfl (q_lss rfl rfl rfl) ?_
  refine SOps.q rfl (.plain rfl) rfl (q_pick_f rfl rfl g3 rfl) ?_
  refine SOps.q rfl (.plain rfl) rfl (q_move rfl rfl) ?_
  refine SOps.q rfl (.guard 7 19 false rfl rfl (gF g6)) rfl (q_move rfl rfl) ?_
  refine SOps.q rfl (.guard 7 19 false rfl rfl (gF g6)) rfl (q_gtr rfl rfl rfl) ?_
  refine SOps.q rfl (.plain rfl) rfl (q_pick_f rfl rfl g6 rfl) ?_
  refine SOps.sub (st' := ⟨[(0, .c (vI a0_caps)), (1, .c (.vec a1_rules.length 2 (gL cSRule dSRule a1_rules))), (2, .c (.int .i64 a2_d)), (22, .c (.bool (decide (1099511627776 < a2_d))))], []⟩) (sub_gen [] rfl rfl ⟨zc rfl rfl, zc rfl rfl, zc rfl rfl, zc rfl rfl, trivial⟩ trivial) ?_
  refine SOps.nil ?_
  rcases cond_out h with ⟨g9, h⟩ | ⟨g9, h⟩
  · refine SCode.cond_t rfl g9 ?_
    refine SCode.seq ?_
    obtain ⟨c_10, g11, h⟩ := bind_out h
    try dsimp only at h
    refine SCode.region (show SOps _ _ _ [0, 1] _ _ from ?_)
    refine SOps.q rfl (.plain rfl) rfl (q_call (chargenetlaw10_exampleHolds_ok F  c_10 g11) [] rfl fn9 trivial (.inl rfl)) ?_
    refine SOps.q rfl (.plain rfl) rfl (q_assign rfl rfl) ?_
    refine SOps.sub (st' := ⟨[(6, .c (.bool c_10))], []⟩) (sub_gen [] rfl rfl ⟨zc rfl rfl, trivial⟩ trivial) ?_
    refine SOps.nil ?_
    refine SCode.ret ?_
    obtain rfl := Option.some.inj h
    exact ⟨⟨[(6, .c (.bool c_10))], []⟩, _, sub_gen [] rfl rfl ⟨zc rfl rfl, trivial⟩ trivial, resA1 (v := .c (.bool c_10)) rfl rfl, rfl⟩
  refine SCode.cond_f rfl g9 ?_
  refine SCode.skip ?_
  refine SCode.seq ?_
  obtain ⟨c_12, g13, h⟩ := bind_out h
  try dsimp only at h
  refine SCode.region (show SOps _ _ _ [0, 1, 2, 3, 4, 5, 6, 7, 8] _ _ from ?_)
  refine SOps.q rfl (.plain rfl) rfl (q_move rfl rfl) ?_
  refine SOps.q rfl (.plain rfl) rfl (q_move rfl rfl) ?_
  refine SOps.q rfl (.plain rfl) rfl (q_makeBound (cs := [.vec a1_rules.length 2 (gL cSRule dSRule a1_rules)]) 1000017 rfl rfl rfl) ?_
  refine SOps.q rfl (.plain rfl) rfl (q_call (chargenetlaw10_fill_f1_1000017_ok F a0_caps a1_rules c_12 g13) [] rfl fn16 ⟨⟨_, rfl, .inl ⟨rfl, rfl⟩⟩, ⟨_, rfl, .inl ⟨rfl, rfl⟩⟩, trivial⟩ (.inl rfl)) ?_
  refine SOps.q rfl (.plain rfl) rfl (q_move rfl rfl) ?_
  refine SOps.q rfl (.plain rfl) rfl (q_extract rfl rfl rfl) ?_
  refine SOps.q rfl (.plain rfl) rfl (q_extract rfl rfl rfl) ?_
  refine SOps.q rfl (.plain rfl) rfl (q_assign rfl rfl) ?_
  refine SOps.q rfl (.plain rfl) rfl (q_assign rfl rfl) ?_
  refine SOps.sub (st' := ⟨[(0, .c (vI a0_caps)), (1, .c (.vec a1_rules.length 2 (gL cSRule dSRule a1_rules))), (2, .c (.int .i64 a2_d)), (7, .c (vI c_12.1)), (8, .c (.bool c_12.2))], []⟩) (sub_gen [] rfl rfl ⟨zc rfl rfl, zc rfl rfl, zc rfl rfl, zc rfl rfl, zc rfl rfl, trivial⟩ trivial) ?_
  refine SOps.nil ?_
  refine SCode.seq ?_
  refine SCode.seq ?_
  refine SCode.region (show SOps _ _ _ [0, 1] _ _ from ?_)
  refine SOps.q rfl (.plain rfl) rfl (q_move rfl rfl) ?_
  refine SOps.q rfl (.plain rfl) rfl (q_not rfl rfl) ?_
  refine SOps.sub (st' := ⟨[(0, .c (vI a0_caps)), (1, .c (.vec a1_rules.length 2 (gL cSRule dSRule a1_rules))), (2, .c (.int .i64 a2_d)), (7, .c (vI c_12.1)), (32, .c (.bool ((!c_12.2))))], []⟩) (sub_gen [] rfl rfl ⟨zc rfl rfl, zc rfl rfl, zc rfl rfl, zc rfl rfl, zc rfl rfl, trivial⟩ trivial) ?_
  refine SOps.nil ?_
  rcases cond_out h with ⟨g14, h⟩ | ⟨g14, h⟩
  · refine SCode.cond_t rfl g14 ?_
    refine SCode.seq ?_
    obtain ⟨c_15, g16, h⟩ := bind_out h
    try dsimp only at h
    refine SCode.region (show SOps _ _ _ [0, 1] _ _ from ?_)
    refine SOps.q rfl (.plain rfl) rfl (q_call (chargenetlaw10_exampleHolds_ok F  c_15 g16) [] rfl fn9 trivial (.inl rfl)) ?_
    refine SOps.q rfl (.plain rfl) rfl (q_assign rfl rfl) ?_
    refine SOps.sub (st' := ⟨[(6, .c (.bool c_15))], []⟩) (sub_gen [] rfl rfl ⟨zc rfl rfl, trivial⟩ trivial) ?_
    refine SOps.nil ?_
    refine SCode.ret ?_
    obtain rfl := Option.some.inj h
    exact ⟨⟨[(6, .c (.bool c_15))], []⟩, _, sub_gen [] rfl rfl ⟨zc rfl rfl, trivial⟩ trivial, resA1 (v := .c (.bool c_15)) rfl rfl, rfl⟩
  refine SCode.cond_f rfl g14 ?_
  refine SCode.skip ?_
  refine SCode.seq ?_
  obtain ⟨g17, h⟩ := guard_out h
  refine SCode.region (show SOps _ _ _ [0, 1, 2, 3] _ _ from ?_)
  refine SOps.q rfl (.plain rfl) rfl (q_move rfl rfl) ?_
  refine SOps.q rfl (.plain rfl) rfl (q_len_vec rfl rfl sl22) ?_
  refine SOps.e rfl (.plain rfl) (e_makeL (c := (cInt .i64)) (d0 := 0) rfl rfl rfl rfl rfl sl22 z3 rfl rfl rfl g17.1 (Int.le_refl _) g17.2.1 g17.2.2) ?_
  refine SOps.q rfl (.plain rfl) rfl (q_assign rfl rfl) ?_
  refine SOps.sub (st' := ⟨[(0, .c (vI a0_caps)), (1, .c (.vec a1_rules.length 2 (gL cSRule dSRule a1_rules))), (2, .c (.int .i64 a2_d)), (7, .c (vI c_12.1)), (9, .c (.own 0 (List.replicate (((a0_caps).length : Int)).toNat (0 : Int)).length))], [aI 3 (List.replicate (((a0_caps).length : Int)).toNat (0 : Int))]⟩) (sub_gen [0] rfl rfl ⟨zc rfl rfl, zc rfl rfl, zc rfl rfl, zc rfl rfl, zc rfl rfl, trivial⟩ ⟨oa rfl, trivial⟩) ?_
  refine SOps.nil ?_
  refine SCode.join (σ := (List Int)) (S := fun s => ⟨[(0, .c (vI a0_caps)), (1, .c (.vec a1_rules.length 2 (gL cSRule dSRule a1_rules))), (7, .c (vI c_12.1)), (9, .c (.own 0 s.length))], [aI 3 s]⟩) (g := fun s => chargenetlaw10_FairLeast_p38 F a0_caps a1_rules c_12 s = some r) ?_ ?_
  rotate_left
  · refine SCode.seq ?_
    refine SCode.region (show SOps _ _ _ [0, 1, 2] _ _ from ?_)
    refine SOps.q rfl (.plain rfl) rfl (q_move rfl rfl) ?_
    refine SOps.q rfl (.plain rfl) rfl (q_len_own rfl rfl sl22) ?_
    refine SOps.q rfl (.plain rfl) rfl (q_move rfl rfl) ?_
    refine SOps.sub (st' := ⟨[(0, .c (vI a0_caps)), (1, .c (.vec a1_rules.length 2 (gL cSRule dSRule a1_rules))), (2, .c (.int .i64 a2_d)), (7, .c (vI c_12.1)), (9, .c (.own 0 (List.replicate (((a0_caps).length : Int)).toNat (0 : Int)).length)), (38, .c (.int .i64 (((List.replicate (((a0_caps).length : Int)).toNat (0 : Int)).length : Int)))), (39, .c (.int .i64 0))], [aI 3 (List.replicate (((a0_caps).length : Int)).toNat (0 : Int))]⟩) (sub_gen [0] rfl rfl ⟨zc rfl rfl, zc rfl rfl, zc rfl rfl, zc rfl rfl, zc rfl rfl, zc rfl rfl, zc rfl rfl, trivial⟩ ⟨oa rfl, trivial⟩) ?_
    refine SOps.nil ?_
    refine SCode.block ?_
    refine SCode.sub (st' := ⟨[(0, .c (vI a0_caps)), (1, .c (.vec a1_rules.length 2 (gL cSRule dSRule a1_rules))), (2, .c (.int .i64 a2_d)), (7, .c (vI c_12.1)), (9, .c (.own 0 (List.replicate (((a0_caps).length : Int)).toNat (0 : Int)).length)), (38, .c (.int .i64 (((List.replicate (((a0_caps).length : Int)).toNat (0 : Int)).length : Int)))), (39, .c (.int .i64 0))], [aI 3 (List.replicate (((a0_caps).length : Int)).toNat (0 : Int))]⟩) (sub_gen [0] rfl rfl ⟨zc rfl rfl, zc rfl rfl, zc rfl rfl, zc rfl rfl, zc rfl rfl, zc rfl rfl, zc rfl rfl, trivial⟩ ⟨oa rfl, trivial⟩) ?_
    refine (SCode.loop (σ := Nat × (Int × (List Int))) (S := fun s => ⟨[(0, .c (vI a0_caps)), (1, .c (.vec a1_rules.length 2 (gL cSRule dSRule a1_rules))), (2, .c (.int .i64 a2_d)), (7, .c (vI c_12.1)), (9, .c (.own 0 s.2.2.length)), (38, .c (.int .i64 (((List.replicate (((a0_caps).length : Int)).toNat (0 : Int)).length : Int)))), (39, .c (.int .i64 s.2.1))], [aI 3 s.2.2]⟩) (g := fun s => chargenetlaw10_FairLeast_l47 F a0_caps a1_rules a2_d c_12 s.1 s.2.1 s.2.2 = some r) (μ := fun s => s.1) (F, (0, List.replicate (((a0_caps).length : Int)).toNat (0 : Int))) h ?_)
    rintro ⟨n_47, ⟨t39_42, o0_43⟩⟩ h
    replace h : chargenetlaw10_FairLeast_l47 F a0_caps a1_rules a2_d c_12 n_47 t39_42 o0_43 = some r := h
    show SCode _ _ _ ⟨[(0, .c (vI a0_caps)), (1, .c (.vec a1_rules.length 2 (gL cSRule dSRule a1_rules))), (2, .c (.int .i64 a2_d)), (7, .c (vI c_12.1)), (9, .c (.own 0 o0_43.length)), (38, .c (.int .i64 (((List.replicate (((a0_caps).length : Int)).toNat (0 : Int)).length : Int)))), (39, .c (.int .i64 t39_42))], [aI 3 o0_43]⟩ _
    cases n_47 with
    | zero => cases h
    | succ n_47 =>
      replace h : chargenetlaw10_FairLeast_b47 F a0_caps a1_rules a2_d c_12 (fun t39_42 o0_43 => chargenetlaw10_FairLeast_l47 F a0_caps a1_rules a2_d c_12 n_47 t39_42 o0_43) t39_42 o0_43 = some r := h
      unfold chargenetlaw10_FairLeast_b47 at h
      refine SCode.seq ?_
      refine SCode.region (show SOps _ _ _ [0] _ _ from ?_)
      refine SOps.q rfl (.plain rfl) rfl (q_lss rfl rfl rfl) ?_
      refine SOps.sub (st' := ⟨[(0, .c (vI a0_caps)), (1, .c (.vec a1_rules.length 2 (gL cSRule dSRule a1_rules))), (2, .c (.int .i64 a2_d)), (7, .c (vI c_12.1)), (9, .c (.own 0 o0_43.length)), (38, .c (.int .i64 (((List.replicate (((a0_caps).length : Int)).toNat (0 : Int)).length : Int)))), (39, .c (.int .i64 t39_42)), (40, .c (.bool (decide (t39_42 < ((List.replicate (((a0_caps).length : Int)).toNat (0 : Int)).length : Int)))))], [aI 3 o0_43]⟩) (sub_gen [0] rfl rfl ⟨zc rfl rfl, zc rfl rfl, zc rfl rfl, zc rfl rfl, zc rfl rfl, zc rfl rfl, zc rfl rfl, zc rfl rfl, trivial⟩ ⟨oa rfl, trivial⟩) ?_
      refine SOps.nil ?_
      refine SCode.seq ?_
      rcases cond_out h with ⟨g48, h⟩ | ⟨g48, h⟩
      · refine SCode.cond_t rfl g48 ?_
        refine SCode.skip ?_
        refine SCode.seq ?_
        refine SCode.block ?_
        refine SCode.seq ?_
        refine SCode.region (show SOps _ _ _ [0, 1] _ _ from ?_)
        refine SOps.q rfl (.plain rfl) rfl (q_move rfl rfl) ?_
        refine SOps.q rfl (.plain rfl) rfl (q_assign rfl rfl) ?_
        refine SOps.sub (st' := ⟨[(0, .c (vI a0_caps)), (1, .c (.vec a1_rules.length 2 (gL cSRule dSRule a1_rules))), (2, .c (.int .i64 a2_d)), (7, .c (vI c_12.1)), (9, .c (.own 0 o0_43.length)), (10, .c (.int .i64 t39_42)), (38, .c (.int .i64 (((List.replicate (((a0_caps).length : Int)).toNat (0 : Int)).length : Int)))), (39, .c (.int .i64 t39_42))], [aI 3 o0_43]⟩) (sub_gen [0] rfl rfl ⟨zc rfl rfl, zc rfl rfl, zc rfl rfl, zc rfl rfl, zc rfl rfl, zc rfl rfl, zc rfl rfl, zc rfl rfl, trivial⟩ ⟨oa rfl, trivial⟩) ?_
        refine SOps.nil ?_
        obtain ⟨g49, h⟩ := guard_out h
        obtain ⟨g50, h⟩ := guard_out h
        refine SCode.region (show SOps _ _ _ [0, 1, 2, 3, 4, 5, 6, 7, 8, 9] _ _ from ?_)
        refine SOps.q rfl (.plain rfl) rfl (q_move rfl rfl) ?_
        refine SOps.q rfl (.plain rfl) rfl (q_move rfl rfl) ?_
        refine SOps.q rfl (.plain rfl) rfl (q_move rfl rfl) ?_
        refine SOps.q rfl (.plain rfl) rfl (q_move rfl rfl) ?_
        refine SOps.q rfl (.plain rfl) rfl (q_move rfl rfl) ?_
        refine SOps.q rfl (.plain rfl) rfl (q_index_vec rfl rfl rfl sl22 rfl g49.1 g49.2) ?_
        refine SOps.q rfl (.plain rfl) rfl (q_load_eptr rfl rfl ty3) ?_
        refine SOps.q rfl (.plain rfl) rfl (q_min rfl rfl rfl) ?_
        refine SOps.q rfl (.plain rfl) rfl (q_index_own rfl rfl rfl sl22 g50.1 g50.2) ?_
        refine SOps.e rfl (.plain rfl) (e_storeL ((if a0_caps.getD t39_42.toNat 0 < a2_d then a0_caps.getD t39_42.toNat 0 else a2_d)) rfl rfl rfl rfl rfl (toNat_lt g50) ty3 rfl rfl rfl rfl rfl rfl) ?_
        refine SOps.sub (st' := ⟨[(0, .c (vI a0_caps)), (1, .c (.vec a1_rules.length 2 (gL cSRule dSRule a1_rules))), (2, .c (.int .i64 a2_d)), (7, .c (vI c_12.1)), (9, .c (.own 0 (o0_43.set t39_42.toNat ((if a0_caps.getD t39_42.toNat 0 < a2_d then a0_caps.getD t39_42.toNat 0 else a2_d))).length)), (38, .c (.int .i64 (((List.replicate (((a0_caps).length : Int)).toNat (0 : Int)).length : Int)))), (39, .c (.int .i64 t39_42))], [aI 3 (o0_43.set t39_42.toNat ((if a0_caps.getD t39_42.toNat 0 < a2_d then a0_caps.getD t39_42.toNat 0 else a2_d)))]⟩) (sub_gen [0] rfl rfl ⟨zc rfl rfl, zc rfl rfl, zc rfl rfl, zc rfl rfl, ⟨_, rfl, .inl ⟨rfl, congrArg (Cell.own 0) (List.length_set : (o0_43.set t39_42.toNat ((if a0_caps.getD t39_42.toNat 0 < a2_d then a0_caps.getD t39_42.toNat 0 else a2_d))).length = o0_43.length).symm⟩⟩, zc rfl rfl, zc rfl rfl, trivial⟩ ⟨oa rfl, trivial⟩) ?_
        refine SOps.nil ?_
        refine SCode.region (show SOps _ _ _ [0, 1] _ _ from ?_)
        refine SOps.q rfl (.plain rfl) rfl (q_add rfl rfl rfl) ?_
        refine SOps.q rfl (.plain rfl) rfl (q_move rfl rfl) ?_
        refine SOps.sub (st' := ⟨[(0, .c (vI a0_caps)), (1, .c (.vec a1_rules.length 2 (gL cSRule dSRule a1_rules))), (2, .c (.int .i64 a2_d)), (7, .c (vI c_12.1)), (9, .c (.own 0 (o0_43.set t39_42.toNat ((if a0_caps.getD t39_42.toNat 0 < a2_d then a0_caps.getD t39_42.toNat 0 else a2_d))).length)), (38, .c (.int .i64 (((List.replicate (((a0_caps).length : Int)).toNat (0 : Int)).length : Int)))), (39, .c (.int .i64 (IntKind.wrap .i64 (t39_42 + 1))))], [aI 3 (o0_43.set t39_42.toNat ((if a0_caps.getD t39_42.toNat 0 < a2_d then a0_caps.getD t39_42.toNat 0 else a2_d)))]⟩) (sub_gen [0] rfl rfl ⟨zc rfl rfl, zc rfl rfl, zc rfl rfl, zc rfl rfl, zc rfl rfl, zc rfl rfl, zc rfl rfl, trivial⟩ ⟨oa rfl, trivial⟩) ?_
        refine SOps.nil ?_
        exact ⟨(n_47, (IntKind.wrap .i64 (t39_42 + 1), o0_43.set t39_42.toNat ((if a0_caps.getD t39_42.toNat 0 < a2_d then a0_caps.getD t39_42.toNat 0 else a2_d)))), h, Nat.lt_succ_self n_47, sub_gen [0] rfl rfl ⟨zc rfl rfl, zc rfl rfl, zc rfl rfl, zc rfl rfl, zc rfl rfl, zc rfl rfl, zc rfl rfl, trivial⟩ ⟨oa rfl, trivial⟩⟩
      refine SCode.cond_f rfl g48 ?_
      refine SCode.exit ?_
      exact ⟨o0_43, h, sub_gen [0] rfl rfl ⟨zc rfl rfl, zc rfl rfl, zc rfl rfl, zc rfl rfl, trivial⟩ ⟨oa rfl, trivial⟩⟩
  rintro o0_18 h
  show SCode _ _ _ ⟨[(0, .c (vI a0_caps)), (1, .c (.vec a1_rules.length 2 (gL cSRule dSRule a1_rules))), (7, .c (vI c_12.1)), (9, .c (.own 0 o0_18.length))], [aI 3 o0_18]⟩ _
  replace h : chargenetlaw10_FairLeast_p38 F a0_caps a1_rules c_12 o0_18 = some r := h
  unfold chargenetlaw10_FairLeast_p38 at h
  refine SCode.seq ?_
  refine SCode.seq ?_
  refine SCode.region (show SOps _ _ _ [0, 1, 2, 3, 4] _ _ from ?_)
  refine SOps.q rfl (.plain rfl) rfl (q_move rfl rfl) ?_
  refine SOps.q rfl (.plain rfl) rfl (q_len_vec rfl rfl sl22) ?_
  refine SOps.q rfl (.plain rfl) rfl (q_move rfl rfl) ?_
  refine SOps.q rfl (.plain rfl) rfl (q_len_vec rfl rfl sl22) ?_
  refine SOps.q rfl (.plain rfl) rfl (q_neq rfl rfl rfl) ?_
  refine SOps.sub (st' := ⟨[(1, .c (.vec a1_rules.length 2 (gL cSRule dSRule a1_rules))), (7, .c (vI c_12.1)), (9, .c (.own 0 o0_18.length)), (56, .c (.bool ((!decide (((c_12.1).length : Int) = ((a0_caps).length : Int))))))], [aI 3 o0_18]⟩) (sub_gen [0] rfl rfl ⟨zc rfl rfl, zc rfl rfl, zc rfl rfl, zc rfl rfl, trivial⟩ ⟨oa rfl, trivial⟩) ?_
  refine SOps.nil ?_
  rcases cond_out h with ⟨g19, h⟩ | ⟨g19, h⟩
  · refine SCode.cond_t rfl g19 ?_
    refine SCode.seq ?_
    refine SCode.region (show SOps _ _ _ [0] _ _ from ?_)
    refine SOps.q rfl (.plain rfl) rfl (q_assign rfl rfl) ?_
    refine SOps.sub (st' := ⟨[(6, .c (.bool false))], []⟩) (sub_gen [] rfl rfl ⟨zc rfl rfl, trivial⟩ trivial) ?_
    refine SOps.nil ?_
    refine SCode.ret ?_
    obtain rfl := Option.some.inj h
    exact ⟨⟨[(6, .c (.bool false))], []⟩, _, sub_gen [] rfl rfl ⟨zc rfl rfl, trivial⟩ trivial, resA1 (v := .c (.bool false)) rfl rfl, rfl⟩
  refine SCode.cond_f rfl g19 ?_
  refine SCode.skip ?_
  refine SCode.seq ?_
  refine SCode.seq ?_
  obtain ⟨c_20, g21, h⟩ := bind_out h
  try dsimp only at h
  refine SCode.region (show SOps _ _ _ [0, 1, 2, 3] _ _ from ?_)
  refine SOps.q rfl (.plain rfl) rfl (q_move rfl rfl) ?_
  refine SOps.q rfl (.plain rfl) rfl (q_move rfl rfl) ?_
  refine SOps.q rfl (.plain rfl) rfl (q_call (chargenetref10_Rules_Fits_ok F a1_rules o0_18 c_20 g21) [0] rfl fn17 ⟨⟨_, rfl, .inl ⟨rfl, rfl⟩⟩, ⟨_, rfl, .inr (.inl ⟨_, _, _, _, _, _, _, rfl, rfl, rfl, Nat.le_refl _, fun _ _ _ _ => rfl, (.head _)⟩)⟩, trivial⟩ (.inr rfl)) ?_
  refine SOps.q rfl (.plain rfl) rfl (q_not rfl rfl) ?_
  refine SOps.sub (st' := ⟨[(7, .c (vI c_12.1)), (9, .c (.own 0 o0_18.length)), (60, .c (.bool ((!c_20))))], [aI 3 o0_18]⟩) (sub_gen [0] rfl rfl ⟨zc rfl rfl, zc rfl rfl, zc rfl rfl, trivial⟩ ⟨oa rfl, trivial⟩) ?_
  refine SOps.nil ?_
  rcases cond_out h with ⟨g22, h⟩ | ⟨g22, h⟩
  · refine SCode.cond_t rfl g22 ?_
    refine SCode.seq ?_
    refine SCode.region (show SOps _ _ _ [0] _ _ from ?_)
    refine SOps.q rfl (.plain rfl) rfl (q_assign rfl rfl) ?_
    refine SOps.sub (st' := ⟨[(6, .c (.bool true))], []⟩) (sub_gen [] rfl rfl ⟨zc rfl rfl, trivial⟩ trivial) ?_
    refine SOps.nil ?_
    refine SCode.ret ?_
    obtain rfl := Option.some.inj h
    exact ⟨⟨[(6, .c (.bool true))], []⟩, _, sub_gen [] rfl rfl ⟨zc rfl rfl, trivial⟩ trivial, resA1 (v := .c (.bool true)) rfl rfl, rfl⟩
  refine SCode.cond_f rfl g22 ?_
  refine SCode.skip ?_
  refine SCode.join (σ := Unit) (S := fun s => ⟨[], []⟩) (g := fun s => chargenetlaw10_FairLeast_p23 = some r) ?_ ?_
  rotate_left
  · refine SCode.seq ?_
    refine SCode.region (show SOps _ _ _ [0, 1, 2] _ _ from ?_)
    refine SOps.q rfl (.plain rfl) rfl (q_move rfl rfl) ?_
    refine SOps.q rfl (.plain rfl) rfl (q_len_own rfl rfl sl22) ?_
    refine SOps.q rfl (.plain rfl) rfl (q_move rfl rfl) ?_
    refine SOps.sub (st' := ⟨[(7, .c (vI c_12.1)), (9, .c (.own 0 o0_18.length)), (62, .c (.int .i64 (((o0_18).length : Int)))), (63, .c (.int .i64 0))], [aI 3 o0_18]⟩) (sub_gen [0] rfl rfl ⟨zc rfl rfl, zc rfl rfl, zc rfl rfl, zc rfl rfl, trivial⟩ ⟨oa rfl, trivial⟩) ?_
    refine SOps.nil ?_
    refine SCode.block ?_
    refine SCode.sub (st' := ⟨[(7, .c (vI c_12.1)), (9, .c (.own 0 o0_18.length)), (62, .c (.int .i64 (((o0_18).length : Int)))), (63, .c (.int .i64 0))], [aI 3 o0_18]⟩) (sub_gen [0] rfl rfl ⟨zc rfl rfl, zc rfl rfl, zc rfl rfl, zc rfl rfl, trivial⟩ ⟨oa rfl, trivial⟩) ?_
    refine (SCode.loop (σ := Nat × Int) (S := fun s => ⟨[(7, .c (vI c_12.1)), (9, .c (.own 0 o0_18.length)), (62, .c (.int .i64 (((o0_18).length : Int)))), (63, .c (.int .i64 s.2))], [aI 3 o0_18]⟩) (g := fun s => chargenetlaw10_FairLeast_l33 c_12 o0_18 s.1 s.2 = some r) (μ := fun s => s.1) (F, 0) h ?_)
    rintro ⟨n_33, t63_28⟩ h
    replace h : chargenetlaw10_FairLeast_l33 c_12 o0_18 n_33 t63_28 = some r := h
    show SCode _ _ _ ⟨[(7, .c (vI c_12.1)), (9, .c (.own 0 o0_18.length)), (62, .c (.int .i64 (((o0_18).length : Int)))), (63, .c (.int .i64 t63_28))], [aI 3 o0_18]⟩ _
    cases n_33 with
    | zero => cases h
    | succ n_33 =>
      replace h : chargenetlaw10_FairLeast_b33 c_12 o0_18 (fun t63_28 => chargenetlaw10_FairLeast_l33 c_12 o0_18 n_33 t63_28) t63_28 = some r := h
      unfold chargenetlaw10_FairLeast_b33 at h
      refine SCode.seq ?_
      refine SCode.region (show SOps _ _ _ [0] _ _ from ?_)
      refine SOps.q rfl (.plain rfl) rfl (q_lss rfl rfl rfl) ?_
      refine SOps.sub (st' := ⟨[(7, .c (vI c_12.1)), (9, .c (.own 0 o0_18.length)), (62, .c (.int .i64 (((o0_18).length : Int)))), (63, .c (.int .i64 t63_28)), (64, .c (.bool (decide (t63_28 < ((o0_18).length : Int)))))], [aI 3 o0_18]⟩) (sub_gen [0] rfl rfl ⟨zc rfl rfl, zc rfl rfl, zc rfl rfl, zc rfl rfl, zc rfl rfl, trivial⟩ ⟨oa rfl, trivial⟩) ?_
      refine SOps.nil ?_
      refine SCode.seq ?_
      rcases cond_out h with ⟨g34, h⟩ | ⟨g34, h⟩
      · refine SCode.cond_t rfl g34 ?_
        refine SCode.skip ?_
        refine SCode.seq ?_
        refine SCode.block ?_
        refine SCode.seq ?_
        refine SCode.region (show SOps _ _ _ [0, 1] _ _ from ?_)
        refine SOps.q rfl (.plain rfl) rfl (q_move rfl rfl) ?_
        refine SOps.q rfl (.plain rfl) rfl (q_assign rfl rfl) ?_
        refine SOps.sub (st' := ⟨[(7, .c (vI c_12.1)), (9, .c (.own 0 o0_18.length)), (11, .c (.int .i64 t63_28)), (62, .c (.int .i64 (((o0_18).length : Int)))), (63, .c (.int .i64 t63_28))], [aI 3 o0_18]⟩) (sub_gen [0] rfl rfl ⟨zc rfl rfl, zc rfl rfl, zc rfl rfl, zc rfl rfl, zc rfl rfl, trivial⟩ ⟨oa rfl, trivial⟩) ?_
        refine SOps.nil ?_
        refine SCode.seq ?_
        obtain ⟨g35, h⟩ := guard_out h
        obtain ⟨g36, h⟩ := guard_out h
        refine SCode.draw (s' := [(74, .c (.bool (decide (c_12.1.getD t63_28.toNat 0 < o0_18.getD t63_28.toNat 0)))), (73, .c (.int .i64 (o0_18.getD t63_28.toNat 0))), (72, .c (.aptr 0 1 t63_28.toNat 0)), (71, .c (.int .i64 t63_28)), (70, .c (.own 0 o0_18.length)), (69, .c (.int .i64 (c_12.1.getD t63_28.toNat 0))), (68, .c (.eptr 1 ((cInt .i64) (c_12.1.getD t63_28.toNat 0)) 0)), (67, .c (.int .i64 t63_28)), (66, .c (vI c_12.1)), (7, .c (vI c_12.1)), (9, .c (.own 0 o0_18.length)), (11, .c (.int .i64 t63_28)), (62, .c (.int .i64 (((o0_18).length : Int)))), (63, .c (.int .i64 t63_28))]) mixed [[], [], [0, 1], [0, 1, 2], [], [], [4, 5], [4, 5, 6], [0, 1, 2, 3, 4, 5, 6, 7]] 9 0 rfl rfl ?_ ?_
        · refine QChain.run rfl (.plain rfl) rfl (q_move rfl rfl) ?_
          refine QChain.run rfl (.plain rfl) rfl (q_move rfl rfl) ?_
          refine QChain.run rfl (.plain rfl) rfl (q_index_vec rfl rfl rfl sl22 rfl g35.1 g35.2) ?_
          refine QChain.run rfl (.plain rfl) rfl (q_load_eptr rfl rfl ty3) ?_
          refine QChain.run rfl (.plain rfl) rfl (q_move rfl rfl) ?_
          refine QChain.run rfl (.plain rfl) rfl (q_move rfl rfl) ?_
          refine QChain.run rfl (.plain rfl) rfl (q_index_own rfl rfl rfl sl22 g36.1 g36.2) ?_
          refine QChain.run rfl (.plain rfl) rfl (q_load_aptr rfl rfl rfl (toNat_lt g36) rfl ty3) ?_
          refine QChain.run rfl (.plain rfl) rfl (q_lss rfl rfl rfl) ?_
          exact QChain.nil _ _
        refine (show SOps _ _ _ [] _ _ from ?_)
        refine SOps.sub (st' := ⟨[(7, .c (vI c_12.1)), (9, .c (.own 0 o0_18.length)), (62, .c (.int .i64 (((o0_18).length : Int)))), (63, .c (.int .i64 t63_28)), (74, .c (.bool (decide (c_12.1.getD t63_28.toNat 0 < o0_18.getD t63_28.toNat 0))))], [aI 3 o0_18]⟩) (sub_gen [0] rfl rfl ⟨zc rfl rfl, zc rfl rfl, zc rfl rfl, zc rfl rfl, zc rfl rfl, trivial⟩ ⟨oa rfl, trivial⟩) ?_
        refine SOps.nil ?_
        rcases cond_out h with ⟨g37, h⟩ | ⟨g37, h⟩
        · refine SCode.cond_t rfl g37 ?_
          refine SCode.seq ?_
          refine SCode.region (show SOps _ _ _ [0] _ _ from ?_)
          refine SOps.q rfl (.plain rfl) rfl (q_assign rfl rfl) ?_
          refine SOps.sub (st' := ⟨[(6, .c (.bool false))], []⟩) (sub_gen [] rfl rfl ⟨zc rfl rfl, trivial⟩ trivial) ?_
          refine SOps.nil ?_
          refine SCode.ret ?_
          obtain rfl := Option.some.inj h
          exact ⟨⟨[(6, .c (.bool false))], []⟩, _, sub_gen [] rfl rfl ⟨zc rfl rfl, trivial⟩ trivial, resA1 (v := .c (.bool false)) rfl rfl, rfl⟩
        refine SCode.cond_f rfl g37 ?_
        refine SCode.skip ?_
        refine SCode.region (show SOps _ _ _ [0, 1] _ _ from ?_)
        refine SOps.q rfl (.plain rfl) rfl (q_add rfl rfl rfl) ?_
        refine SOps.q rfl (.plain rfl) rfl (q_move rfl rfl) ?_
        refine SOps.sub (st' := ⟨[(7, .c (vI c_12.1)), (9, .c (.own 0 o0_18.length)), (62, .c (.int .i64 (((o0_18).length : Int)))), (63, .c (.int .i64 (IntKind.wrap .i64 (t63_28 + 1))))], [aI 3 o0_18]⟩) (sub_gen [0] rfl rfl ⟨zc rfl rfl, zc rfl rfl, zc rfl rfl, zc rfl rfl, trivial⟩ ⟨oa rfl, trivial⟩) ?_
        refine SOps.nil ?_
        exact ⟨(n_33, IntKind.wrap .i64 (t63_28 + 1)), h, Nat.lt_succ_self n_33, sub_gen [0] rfl rfl ⟨zc rfl rfl, zc rfl rfl, zc rfl rfl, zc rfl rfl, trivial⟩ ⟨oa rfl, trivial⟩⟩
      refine SCode.cond_f rfl g34 ?_
      refine SCode.exit ?_
      exact ⟨(), h, sub_gen [] rfl rfl trivial trivial⟩
  rintro ⟨⟩ h
  show SCode _ _ _ ⟨[], []⟩ _
  replace h : chargenetlaw10_FairLeast_p23 = some r := h
  unfold chargenetlaw10_FairLeast_p23 at h
  refine SCode.seq ?_
  refine SCode.region (show SOps _ _ _ [0] _ _ from ?_)
  refine SOps.q rfl (.plain rfl) rfl (q_assign rfl rfl) ?_
  refine SOps.sub (st' := ⟨[(6, .c (.bool true))], []⟩) (sub_gen [] rfl rfl ⟨zc rfl rfl, trivial⟩ trivial) ?_
  refine SOps.nil ?_
  refine SCode.ret ?_
  obtain rfl := Option.some.inj h
  exact ⟨⟨[(6, .c (.bool true))], []⟩, _, sub_gen [] rfl rfl ⟨zc rfl rfl, trivial⟩ trivial, resA1 (v := .c (.bool true)) rfl rfl, rfl⟩
end Go.Proofs.Ythpblkclpfmbeaa.W
