/- Written by a program of ours (wip/eng/gen.py): the functions compute their models. -/
import Derived.Test.YthpblkclpfmbeaaFacts
import Derived.Test.YthpblkclpfmbeaaV7x5
namespace Go.Proofs.Ythpblkclpfmbeaa.W
open Go Go.Proofs Go.Proofs.Ythpblkclpfmbeaa.E Go.Proofs.Ythpblkclpfmbeaa.M
set_option linter.unusedVariables false
set_option maxRecDepth 100000 in
set_option maxHeartbeats 8000000 in
theorem chargenetlaw10_exampleHolds_ok (F : Nat)  (r : Bool) (h : chargenetlaw10_exampleHolds F  = some r) :
    SFun Try.prog 9 [] [] (fun x _ => x = .c (.bool r)) := by
  refine SFun.of (n := 79) Try.func9 rfl rfl rfl ?_
  unfold chargenetlaw10_exampleHolds at h
  show SCode _ _ _ ⟨[], []⟩ _
  refine SCode.seq ?_
  refine SCode.region (show SOps _ _ _ [0] _ _ from ?_)
  refine SOps.q rfl (.plain rfl) rfl (q_assign rfl rfl) ?_
  refine SOps.sub (st' := ⟨[], []⟩) (sub_gen [] rfl rfl trivial trivial) ?_
  refine SOps.nil ?_
  refine SCode.seq ?_
  refine SCode.region (show SOps _ _ _ [0, 1] _ _ from ?_)
  refine SOps.q rfl (.plain rfl) rfl (q_bsliceL (c := (cInt .i64)) (d0 := 0) [10, 10, 3] rfl rfl sl22 z3 rfl rfl rfl rfl rfl rfl rfl) ?_
  refine SOps.q rfl (.plain rfl) rfl (q_assign rfl rfl) ?_
  refine SOps.sub (st' := ⟨[(1, .c (vI ([10, 10, 3])))], []⟩) (sub_gen [] rfl rfl ⟨zc rfl rfl, trivial⟩ trivial) ?_
  refine SOps.nil ?_
  refine SCode.seq ?_
  obtain ⟨c_1, g2, h⟩ := bind_out h
  try dsimp only at h
  obtain ⟨c_3, g4, h⟩ := bind_out h
  try dsimp only at h
  refine SCode.region (show SOps _ _ _ [0, 1, 2, 3, 4, 5, 6, 7] _ _ from ?_)
  refine SOps.q rfl (.plain rfl) rfl (q_move rfl rfl) ?_
  refine SOps.q rfl (.plain rfl) rfl (q_call (chargenetlaw10_sum_ok F 16 c_1 g2) [] rfl fn20 ⟨⟨_, rfl, .inl ⟨rfl, rfl⟩⟩, trivial⟩ (.inl rfl)) ?_
  refine SOps.q rfl (.plain rfl) rfl (q_call (fair_Fill_f1_34_ok F ([10, 10, 3]) c_1 c_3 g4) [] rfl fn19 ⟨⟨_, rfl, .inl ⟨rfl, rfl⟩⟩, ⟨_, rfl, .inl ⟨rfl, rfl⟩⟩, trivial⟩ (.inl rfl)) ?_
  refine SOps.q rfl (.plain rfl) rfl (q_move rfl rfl) ?_
  refine SOps.q rfl (.plain rfl) rfl (q_extract rfl rfl rfl) ?_
  refine SOps.q rfl (.plain rfl) rfl (q_extract rfl rfl rfl) ?_
  refine SOps.q rfl (.plain rfl) rfl (q_assign rfl rfl) ?_
  refine SOps.q rfl (.plain rfl) rfl (q_assign rfl rfl) ?_
  refine SOps.sub (st' := ⟨[(1, .c (vI ([10, 10, 3]))), (2, .c (vI c_3.1)), (3, .c (.int .i64 c_3.2))], []⟩) (sub_gen [] rfl rfl ⟨zc rfl rfl, zc rfl rfl, zc rfl rfl, trivial⟩ trivial) ?_
  refine SOps.nil ?_
  refine SCode.seq ?_
  obtain ⟨c_5, g6, h⟩ := bind_out h
  try dsimp only at h
  refine SCode.region (show SOps _ _ _ [0, 1, 2, 3, 4, 5, 6] _ _ from ?_)
  refine SOps.q rfl (.plain rfl) rfl (q_move rfl rfl) ?_
  refine SOps.q rfl (.plain rfl) rfl (q_call (fair_Share_ok F 16 ([10, 10, 3]) c_5 g6) [] rfl fn10 ⟨⟨_, rfl, .inl ⟨rfl, rfl⟩⟩, ⟨_, rfl, .inl ⟨rfl, rfl⟩⟩, trivial⟩ (.inl rfl)) ?_
  refine SOps.q rfl (.plain rfl) rfl (q_move rfl rfl) ?_
  refine SOps.q rfl (.plain rfl) rfl (q_extract rfl rfl rfl) ?_
  refine SOps.q rfl (.plain rfl) rfl (q_extract rfl rfl rfl) ?_
  refine SOps.q rfl (.plain rfl) rfl (q_assign rfl rfl) ?_
  refine SOps.q rfl (.plain rfl) rfl (q_assign rfl rfl) ?_
  refine SOps.sub (st' := ⟨[(1, .c (vI ([10, 10, 3]))), (2, .c (vI c_3.1)), (3, .c (.int .i64 c_3.2)), (4, .c (vI c_5.1)), (5, .c (.int .i64 c_5.2))], []⟩) (sub_gen [] rfl rfl ⟨zc rfl rfl, zc rfl rfl, zc rfl rfl, zc rfl rfl, zc rfl rfl, trivial⟩ trivial) ?_
  refine SOps.nil ?_
  refine SCode.seq ?_
  obtain ⟨c_7, g8, h⟩ := bind_out h
  try dsimp only at h
  refine SCode.region (show SOps _ _ _ [0, 1, 2, 3, 4, 5, 6] _ _ from ?_)
  refine SOps.q rfl (.plain rfl) rfl (q_move rfl rfl) ?_
  refine SOps.q rfl (.plain rfl) rfl (q_call (fair_Share_ok F 100 ([10, 10, 3]) c_7 g8) [] rfl fn10 ⟨⟨_, rfl, .inl ⟨rfl, rfl⟩⟩, ⟨_, rfl, .inl ⟨rfl, rfl⟩⟩, trivial⟩ (.inl rfl)) ?_
  refine SOps.q rfl (.plain rfl) rfl (q_move rfl rfl) ?_
  refine SOps.q rfl (.plain rfl) rfl (q_extract rfl rfl rfl) ?_
  refine SOps.q rfl (.plain rfl) rfl (q_extract rfl rfl rfl) ?_
  refine SOps.q rfl (.plain rfl) rfl (q_assign rfl rfl) ?_
  refine SOps.q rfl (.plain rfl) rfl (q_assign rfl rfl) ?_
  refine SOps.sub (st' := ⟨[(1, .c (vI ([10, 10, 3]))), (2, .c (vI c_3.1)), (3, .c (.int .i64 c_3.2)), (4, .c (vI c_5.1)), (5, .c (.int .i64 c_5.2)), (6, .c (vI c_7.1))], []⟩) (sub_gen [] rfl rfl ⟨zc rfl rfl, zc rfl rfl, zc rfl rfl, zc rfl rfl, zc rfl rfl, zc rfl rfl, trivial⟩ trivial) ?_
  refine SOps.nil ?_
  refine SCode.seq ?_
  obtain ⟨c_9, g10, h⟩ := bind_out h
  try dsimp only at h
  refine SCode.region (show SOps _ _ _ [0, 1, 2, 3, 4, 5, 6] _ _ from ?_)
  refine SOps.q rfl (.plain rfl) rfl (q_move rfl rfl) ?_
  refine SOps.q rfl (.plain rfl) rfl (q_call (fair_Fill_f1_nil_ok F ([10, 10, 3]) c_9 g10) [] rfl fn19 ⟨⟨_, rfl, .inl ⟨rfl, rfl⟩⟩, ⟨_, rfl, .inl ⟨rfl, rfl⟩⟩, trivial⟩ (.inl rfl)) ?_
  refine SOps.q rfl (.plain rfl) rfl (q_move rfl rfl) ?_
  refine SOps.q rfl (.plain rfl) rfl (q_extract rfl rfl rfl) ?_
  refine SOps.q rfl (.plain rfl) rfl (q_extract rfl rfl rfl) ?_
  refine SOps.q rfl (.plain rfl) rfl (q_assign rfl rfl) ?_
  refine SOps.q rfl (.plain rfl) rfl (q_assign rfl rfl) ?_
  refine SOps.sub (st' := ⟨[(1, .c (vI ([10, 10, 3]))), (2, .c (vI c_3.1)), (3, .c (.int .i64 c_3.2)), (4, .c (vI c_5.1)), (5, .c (.int .i64 c_5.2)), (6, .c (vI c_7.1)), (9, .c (.int .i64 c_9.2))], []⟩) (sub_gen [] rfl rfl ⟨zc rfl rfl, zc rfl rfl, zc rfl rfl, zc rfl rfl, zc rfl rfl, zc rfl rfl, zc rfl rfl, trivial⟩ trivial) ?_
  refine SOps.nil ?_
  refine SCode.seq ?_
  obtain ⟨c_11, g12, h⟩ := bind_out h
  try dsimp only at h
  refine SCode.region (show SOps _ _ _ [0, 1, 2, 3, 4, 5, 6] _ _ from ?_)
  refine SOps.q rfl (.plain rfl) rfl (q_bsliceL (c := (cInt .i64)) (d0 := 0) [5, 5] rfl rfl sl22 z3 rfl rfl rfl rfl rfl rfl rfl) ?_
  refine SOps.q rfl (.plain rfl) rfl (q_call (fair_Fill_f1_r21_ok F ([5, 5]) c_11 g12) [] rfl fn19 ⟨⟨_, rfl, .inl ⟨rfl, rfl⟩⟩, ⟨_, rfl, .inl ⟨rfl, rfl⟩⟩, trivial⟩ (.inl rfl)) ?_
  refine SOps.q rfl (.plain rfl) rfl (q_move rfl rfl) ?_
  refine SOps.q rfl (.plain rfl) rfl (q_extract rfl rfl rfl) ?_
  refine SOps.q rfl (.plain rfl) rfl (q_extract rfl rfl rfl) ?_
  refine SOps.q rfl (.plain rfl) rfl (q_assign rfl rfl) ?_
  refine SOps.q rfl (.plain rfl) rfl (q_assign rfl rfl) ?_
  refine SOps.sub (st' := ⟨[(1, .c (vI ([10, 10, 3]))), (2, .c (vI c_3.1)), (3, .c (.int .i64 c_3.2)), (4, .c (vI c_5.1)), (5, .c (.int .i64 c_5.2)), (6, .c (vI c_7.1)), (9, .c (.int .i64 c_9.2)), (10, .c (vI c_11.1)), (11, .c (.int .i64 c_11.2))], []⟩) (sub_gen [] rfl rfl ⟨zc rfl rfl, zc rfl rfl, zc rfl rfl, zc rfl rfl, zc rfl rfl, zc rfl rfl, zc rfl rfl, zc rfl rfl, zc rfl rfl, trivial⟩ trivial) ?_
  refine SOps.nil ?_
  refine SCode.seq ?_
  obtain ⟨c_13, g14, h⟩ := bind_out h
  try dsimp only at h
  rcases cond_out h with ⟨g15, h⟩ | ⟨g15, h⟩
  · rcases cond_out h with ⟨g16, h⟩ | ⟨g16, h⟩
    · obtain ⟨c_17, g18, h⟩ := bind_out h
      try dsimp only at h
      rcases cond_out h with ⟨g19, h⟩ | ⟨g19, h⟩
      · rcases cond_out h with ⟨g20, h⟩ | ⟨g20, h⟩
        · obtain ⟨c_21, g22, h⟩ := bind_out h
          try dsimp only at h
          rcases cond_out h with ⟨g23, h⟩ | ⟨g23, h⟩
          · rcases cond_out h with ⟨g24, h⟩ | ⟨g24, h⟩
            · obtain ⟨c_25, g26, h⟩ := bind_out h
              try dsimp only at h
              rcases cond_out h with ⟨g27, h⟩ | ⟨g27, h⟩
              · rcases cond_out h with ⟨g28, h⟩ | ⟨g28, h⟩
                · obtain ⟨c_29, g30, h⟩ := bind_out h
                  try dsimp only at h
                  refine SCode.region (show SOps _ _ _ [0, 1, 2, 3, 4, 5, 6, 7, 8, 9, 10, 11, 12, 13, 14, 15, 16, 17, 18, 19, 20, 21, 22, 23, 24, 25, 26, 27, 28, 29, 30, 31, 32, 33, 34, 35, 36, 37, 38, 39, 40] _ _ from ?_)
                  refine SOps.q rfl (.plain rfl) rfl (q_move rfl rfl) ?_
                  refine SOps.q rfl (.plain rfl) rfl (q_bsliceL (c := (cInt .i64)) (d0 := 0) [7, 6, 3] rfl rfl sl22 z3 rfl rfl rfl rfl rfl rfl rfl) ?_
                  refine SOps.q rfl (.plain rfl) rfl (q_call (slices_Equal_int_int_ok F c_3.1 ([7, 6, 3]) c_13 g14) [] rfl fn12 ⟨⟨_, rfl, .inl ⟨rfl, rfl⟩⟩, ⟨_, rfl, .inl ⟨rfl, rfl⟩⟩, trivial⟩ (.inl rfl)) ?_
                  refine SOps.q rfl (.plain rfl) rfl (q_move rfl rfl) ?_
                  refine SOps.q rfl (.guard 3 42 true rfl rfl (gT g15)) rfl (q_move rfl rfl) ?_
                  refine SOps.q rfl (.guard 3 42 true rfl rfl (gT g15)) rfl (q_eql rfl rfl rfl) ?_
                  refine SOps.q rfl (.plain rfl) rfl (q_pick_t rfl rfl g15 rfl) ?_
                  refine SOps.q rfl (.plain rfl) rfl (q_move rfl rfl) ?_
                  refine SOps.q rfl (.guard 7 46 true rfl rfl (gT g16)) rfl (q_move rfl rfl) ?_
                  refine SOps.q rfl (.guard 7 46 true rfl rfl (gT g16)) rfl (q_move rfl rfl) ?_
                  refine SOps.q rfl (.guard 7 46 true rfl rfl (gT g16)) rfl (q_call (slices_Equal_int_int_ok F c_5.1 c_3.1 c_17 g18) [] rfl fn12 ⟨⟨_, rfl, .inl ⟨rfl, rfl⟩⟩, ⟨_, rfl, .inl ⟨rfl, rfl⟩⟩, trivial⟩ (.inl rfl)) ?_
                  refine SOps.q rfl (.plain rfl) rfl (q_pick_t rfl rfl g16 rfl) ?_
                  refine SOps.q rfl (.plain rfl) rfl (q_move rfl rfl) ?_
                  refine SOps.q rfl (.guard 12 51 true rfl rfl (gT g19)) rfl (q_move rfl rfl) ?_
                  refine SOps.q rfl (.guard 12 51 true rfl rfl (gT g19)) rfl (q_eql rfl rfl rfl) ?_
                  refine SOps.q rfl (.plain rfl) rfl (q_pick_t rfl rfl g19 rfl) ?_
                  refine SOps.q rfl (.plain rfl) rfl (q_move rfl rfl) ?_
                  refine SOps.q rfl (.guard 16 55 true rfl rfl (gT g20)) rfl (q_move rfl rfl) ?_
                  refine SOps.q rfl (.guard 16 55 true rfl rfl (gT g20)) rfl (q_move rfl rfl) ?_
                  refine SOps.q rfl (.guard 16 55 true rfl rfl (gT g20)) rfl (q_call (slices_Equal_int_int_ok F c_7.1 ([10, 10, 3]) c_21 g22) [] rfl fn12 ⟨⟨_, rfl, .inl ⟨rfl, rfl⟩⟩, ⟨_, rfl, .inl ⟨rfl, rfl⟩⟩, trivial⟩ (.inl rfl)) ?_
                  refine SOps.q rfl (.plain rfl) rfl (q_pick_t rfl rfl g20 rfl) ?_
                  refine SOps.q rfl (.plain rfl) rfl (q_move rfl rfl) ?_
                  refine SOps.q rfl (.guard 21 60 true rfl rfl (gT g23)) rfl (q_move rfl rfl) ?_
                  refine SOps.q rfl (.guard 21 60 true rfl rfl (gT g23)) rfl (q_eql rfl rfl rfl) ?_
                  refine SOps.q rfl (.plain rfl) rfl (q_pick_t rfl rfl g23 rfl) ?_
                  refine SOps.q rfl (.plain rfl) rfl (q_move rfl rfl) ?_
                  refine SOps.q rfl (.guard 25 64 true rfl rfl (gT g24)) rfl (q_move rfl rfl) ?_
                  refine SOps.q rfl (.guard 25 64 true rfl rfl (gT g24)) rfl (q_bsliceL (c := (cInt .i64)) (d0 := 0) [2, 4] rfl rfl sl22 z3 rfl rfl rfl rfl rfl rfl rfl) ?_
                  refine SOps.q rfl (.guard 25 64 true rfl rfl (gT g24)) rfl (q_call (slices_Equal_int_int_ok F c_11.1 ([2, 4]) c_25 g26) [] rfl fn12 ⟨⟨_, rfl, .inl ⟨rfl, rfl⟩⟩, ⟨_, rfl, .inl ⟨rfl, rfl⟩⟩, trivial⟩ (.inl rfl)) ?_
                  refine SOps.q rfl (.plain rfl) rfl (q_pick_t rfl rfl g24 rfl) ?_
                  refine SOps.q rfl (.plain rfl) rfl (q_move rfl rfl) ?_
                  refine SOps.q rfl (.guard 30 69 true rfl rfl (gT g27)) rfl (q_move rfl rfl) ?_
                  refine SOps.q rfl (.guard 30 69 true rfl rfl (gT g27)) rfl (q_eql rfl rfl rfl) ?_
                  refine SOps.q rfl (.plain rfl) rfl (q_pick_t rfl rfl g27 rfl) ?_
                  refine SOps.q rfl (.plain rfl) rfl (q_move rfl rfl) ?_
                  refine SOps.q rfl (.guard 34 73 true rfl rfl (gT g28)) rfl (q_bsliceL (c := (cInt .i64)) (d0 := 0) [7, 6, 3] rfl rfl sl22 z3 rfl rfl rfl rfl rfl rfl rfl) ?_
                  refine SOps.q rfl (.guard 34 73 true rfl rfl (gT g28)) rfl (q_bsliceL (c := (cInt .i64)) (d0 := 0) [8, 5, 3] rfl rfl sl22 z3 rfl rfl rfl rfl rfl rfl rfl) ?_
                  refine SOps.q rfl (.guard 34 73 true rfl rfl (gT g28)) rfl (q_call (fair_Compare_ok F ([7, 6, 3]) ([8, 5, 3]) c_29 g30) [] rfl fn14 ⟨⟨_, rfl, .inl ⟨rfl, rfl⟩⟩, ⟨_, rfl, .inl ⟨rfl, rfl⟩⟩, trivial⟩ (.inl rfl)) ?_
                  refine SOps.q rfl (.guard 34 73 true rfl rfl (gT g28)) rfl (q_eql rfl rfl rfl) ?_
                  refine SOps.q rfl (.plain rfl) rfl (q_pick_t rfl rfl g28 rfl) ?_
                  refine SOps.q rfl (.plain rfl) rfl (q_assign rfl rfl) ?_
                  refine SOps.sub (st' := ⟨[(0, .c (.bool (decide (c_29 = 1))))], []⟩) (sub_gen [] rfl rfl ⟨zc rfl rfl, trivial⟩ trivial) ?_
                  refine SOps.nil ?_
                  refine SCode.ret ?_
                  obtain rfl := Option.some.inj h
                  exact ⟨⟨[(0, .c (.bool (decide (c_29 = 1))))], []⟩, _, sub_gen [] rfl rfl ⟨zc rfl rfl, trivial⟩ trivial, resA1 (v := .c (.bool (decide (c_29 = 1)))) rfl rfl, rfl⟩
                refine SCode.region (show SOps _ _ _ [0, 1, 2, 3, 4, 5, 6, 7, 8, 9, 10, 11, 12, 13, 14, 15, 16, 17, 18, 19, 20, 21, 22, 23, 24, 25, 26, 27, 28, 29, 30, 31, 32, 33, 34, 35, 36, 37, 38, 39, 40] _ _ from ?_)
                refine SOps.q rfl (.plain rfl) rfl (q_move rfl rfl) ?_
                refine SOps.q rfl (.plain rfl) rfl (q_bsliceL (c := (cInt .i64)) (d0 := 0) [7, 6, 3] rfl rfl sl22 z3 rfl rfl rfl rfl rfl rfl rfl) ?_
                refine SOps.q rfl (.plain rfl) rfl (q_call (slices_Equal_int_int_ok F c_3.1 ([7, 6, 3]) c_13 g14) [] rfl fn12 ⟨⟨_, rfl, .inl ⟨rfl, rfl⟩⟩, ⟨_, rfl, .inl ⟨rfl, rfl⟩⟩, trivial⟩ (.inl rfl)) ?_
                refine SOps.q rfl (.plain rfl) rfl (q_move rfl rfl) ?_
                refine SOps.q rfl (.guard 3 42 true rfl rfl (gT g15)) rfl (q_move rfl rfl) ?_
                refine SOps.q rfl (.guard 3 42 true rfl rfl (gT g15)) rfl (q_eql rfl rfl rfl) ?_
                refine SOps.q rfl (.plain rfl) rfl (q_pick_t rfl rfl g15 rfl) ?_
                refine SOps.q rfl (.plain rfl) rfl (q_move rfl rfl) ?_
                refine SOps.q rfl (.guard 7 46 true rfl rfl (gT g16)) rfl (q_move rfl rfl) ?_
                refine SOps.q rfl (.guard 7 46 true rfl rfl (gT g16)) rfl (q_move rfl rfl) ?_
                refine SOps.q rfl (.guard 7 46 true rfl rfl (gT g16)) rfl (q_call (slices_Equal_int_int_ok F c_5.1 c_3.1 c_17 g18) [] rfl fn12 ⟨⟨_, rfl, .inl ⟨rfl, rfl⟩⟩, ⟨_, rfl, .inl ⟨rfl, rfl⟩⟩, trivial⟩ (.inl rfl)) ?_
                refine SOps.q rfl (.plain rfl) rfl (q_pick_t rfl rfl g16 rfl) ?_
                refine SOps.q rfl (.plain rfl) rfl (q_move rfl rfl) ?_
                refine SOps.q rfl (.guard 12 51 true rfl rfl (gT g19)) rfl (q_move rfl rfl) ?_
                refine SOps.q rfl (.guard 12 51 true rfl rfl (gT g19)) rfl (q_eql rfl rfl rfl) ?_
                refine SOps.q rfl (.plain rfl) rfl (q_pick_t rfl rfl g19 rfl) ?_
                refine SOps.q rfl (.plain rfl) rfl (q_move rfl rfl) ?_
                refine SOps.q rfl (.guard 16 55 true rfl rfl (gT g20)) rfl (q_move rfl rfl) ?_
                refine SOps.q rfl (.guard 16 55 true rfl rfl (gT g20)) rfl (q_move rfl rfl) ?_
                refine SOps.q rfl (.guard 16 55 true rfl rfl (gT g20)) rfl (q_call (slices_Equal_int_int_ok F c_7.1 ([10, 10, 3]) c_21 g22) [] rfl fn12 ⟨⟨_, rfl, .inl ⟨rfl, rfl⟩⟩, ⟨_, rfl, .inl ⟨rfl, rfl⟩⟩, trivial⟩ (.inl rfl)) ?_
                refine SOps.q rfl (.plain rfl) rfl (q_pick_t rfl rfl g20 rfl) ?_
                refine SOps.q rfl (.plain rfl) rfl (q_move rfl rfl) ?_
                refine SOps.q rfl (.guard 21 60 true rfl rfl (gT g23)) rfl (q_move rfl rfl) ?_
                refine SOps.q rfl (.guard 21 60 true rfl rfl (gT g23)) rfl (q_eql rfl rfl rfl) ?_
                refine SOps.q rfl (.plain rfl) rfl (q_pick_t rfl rfl g23 rfl) ?_
                refine SOps.q rfl (.plain rfl) rfl (q_move rfl rfl) ?_
                refine SOps.q rfl (.guard 25 64 true rfl rfl (gT g24)) rfl (q_move rfl rfl) ?_
                refine SOps.q rfl (.guard 25 64 true rfl rfl (gT g24)) rfl (q_bsliceL (c := (cInt .i64)) (d0 := 0) [2, 4] rfl rfl sl22 z3 rfl rfl rfl rfl rfl rfl rfl) ?_
                refine SOps.q rfl (.guard 25 64 true rfl rfl (gT g24)) rfl (q_call (slices_Equal_int_int_ok F c_11.1 ([2, 4]) c_25 g26) [] rfl fn12 ⟨⟨_, rfl, .inl ⟨rfl, rfl⟩⟩, ⟨_, rfl, .inl ⟨rfl, rfl⟩⟩, trivial⟩ (.inl rfl)) ?_
                refine SOps.q rfl (.plain rfl) rfl (q_pick_t rfl rfl g24 rfl) ?_
                refine SOps.q rfl (.plain rfl) rfl (q_move rfl rfl) ?_
                refine SOps.q rfl (.guard 30 69 true rfl rfl (gT g27)) rfl (q_move rfl rfl) ?_
                refine SOps.q rfl (.guard 30 69 true rfl rfl (gT g27)) rfl (q_eql rfl rfl rfl) ?_
                refine SOps.q rfl (.plain rfl) rfl (q_pick_t rfl rfl g27 rfl) ?_
                refine SOps.q rfl (.plain rfl) rfl (q_move rfl rfl) ?_
                refine SOps.skip rfl 34 73 true rfl rfl (.inl (gF g28)) rfl ?_
                refine SOps.skip rfl 34 73 true rfl rfl (.inl (gF g28)) rfl ?_
                refine SOps.skip rfl 34 73 true rfl rfl (.inl (gF g28)) rfl ?_
                refine SOps.skip rfl 34 73 true rfl rfl (.inl (gF g28)) rfl ?_
                refine SOps.q rfl (.plain rfl) rfl (q_pick_f rfl rfl g28 rfl) ?_
                refine SOps.q rfl (.plain rfl) rfl (q_assign rfl rfl) ?_
                refine SOps.sub (st' := ⟨[(0, .c (.bool false))], []⟩) (sub_gen [] rfl rfl ⟨zc rfl rfl, trivial⟩ trivial) ?_
                refine SOps.nil ?_
                refine SCode.ret ?_
                obtain rfl := Option.some.inj h
                exact ⟨⟨[(0, .c (.bool false))], []⟩, _, sub_gen [] rfl rfl ⟨zc rfl rfl, trivial⟩ trivial, resA1 (v := .c (.bool false)) rfl rfl, rfl⟩
              refine SCode.region (show SOps _ _ _ [0, 1, 2, 3, 4, 5, 6, 7, 8, 9, 10, 11, 12, 13, 14, 15, 16, 17, 18, 19, 20, 21, 22, 23, 24, 25, 26, 27, 28, 29, 30, 31, 32, 33, 34, 35, 36, 37, 38, 39, 40] _ _ from ?_)
              refine SOps.q rfl (.plain rfl) rfl (q_move rfl rfl) ?_
              refine SOps.q rfl (.plain rfl) rfl (q_bsliceL (c := (cInt .i64)) (d0 := 0) [7, 6, 3] rfl rfl sl22 z3 rfl rfl rfl rfl rfl rfl rfl) ?_
              refine SOps.q rfl (.plain rfl) rfl (q_call (slices_Equal_int_int_ok F c_3.1 ([7, 6, 3]) c_13 g14) [] rfl fn12 ⟨⟨_, rfl, .inl ⟨rfl, rfl⟩⟩, ⟨_, rfl, .inl ⟨rfl, rfl⟩⟩, trivial⟩ (.inl rfl)) ?_
              refine SOps.q rfl (.plain rfl) rfl (q_move rfl rfl) ?_
              refine SOps.q rfl (.guard 3 42 true rfl rfl (gT g15)) rfl (q_move rfl rfl) ?_
              refine SOps.q rfl (.guard 3 42 true rfl rfl (gT g15)) rfl (q_eql rfl rfl rfl) ?_
              refine SOps.q rfl (.plain rfl) rfl (q_pick_t rfl rfl g15 rfl) ?_
              refine SOps.q rfl (.plain rfl) rfl (q_move rfl rfl) ?_
              refine SOps.q rfl (.guard 7 46 true rfl rfl (gT g16)) rfl (q_move rfl rfl) ?_
              refine SOps.q rfl (.guard 7 46 true rfl rfl (gT g16)) rfl (q_move rfl rfl) ?_
              refine SOps.q rfl (.guard 7 46 true rfl rfl (gT g16)) rfl (q_call (slices_Equal_int_int_ok F c_5.1 c_3.1 c_17 g18) [] rfl fn12 ⟨⟨_, rfl, .inl ⟨rfl, rfl⟩⟩, ⟨_, rfl, .inl ⟨rfl, rfl⟩⟩, trivial⟩ (.inl rfl)) ?_
              refine SOps.q rfl (.plain rfl) rfl (q_pick_t rfl rfl g16 rfl) ?_
              refine SOps.q rfl (.plain rfl) rfl (q_move rfl rfl) ?_
              refine SOps.q rfl (.guard 12 51 true rfl rfl (gT g19)) rfl (q_move rfl rfl) ?_
              refine SOps.q rfl (.guard 12 51 true rfl rfl (gT g19)) rfl (q_eql rfl rfl rfl) ?_
              refine SOps.q rfl (.plain rfl) rfl (q_pick_t rfl rfl g19 rfl) ?_
              refine SOps.q rfl (.plain rfl) rfl (q_move rfl rfl) ?_
              refine SOps.q rfl (.guard 16 55 true rfl rfl (gT g20)) rfl (q_move rfl rfl) ?_
              refine SOps.q rfl (.guard 16 55 true rfl rfl (gT g20)) rfl (q_move rfl rfl) ?_
              refine SOps.q rfl (.guard 16 55 true rfl rfl (gT g20)) rfl (q_call (slices_Equal_int_int_ok F c_7.1 ([10, 10, 3]) c_21 g22) [] rfl fn12 ⟨⟨_, rfl, .inl ⟨rfl, rfl⟩⟩, ⟨_, rfl, .inl ⟨rfl, rfl⟩⟩, trivial⟩ (.inl rfl)) ?_
              refine SOps.q rfl (.plain rfl) rfl (q_pick_t rfl rfl g20 rfl) ?_
              refine SOps.q rfl (.plain rfl) rfl (q_move rfl rfl) ?_
              refine SOps.q rfl (.guard 21 60 true rfl rfl (gT g23)) rfl (q_move rfl rfl) ?_
              refine SOps.q rfl (.guard 21 60 true rfl rfl (gT g23)) rfl (q_eql rfl rfl rfl) ?_
              refine SOps.q rfl (.plain rfl) rfl (q_pick_t rfl rfl g23 rfl) ?_
              refine SOps.q rfl (.plain rfl) rfl (q_move rfl rfl) ?_
              refine SOps.q rfl (.guard 25 64 true rfl rfl (gT g24)) rfl (q_move rfl rfl) ?_
              refine SOps.q rfl (.guard 25 64 true rfl rfl (gT g24)) rfl (q_bsliceL (c := (cInt .i64)) (d0 := 0) [2, 4] rfl rfl sl22 z3 rfl rfl rfl rfl rfl rfl rfl) ?_
              refine SOps.q rfl (.guard 25 64 true rfl rfl (gT g24)) rfl (q_call (slices_Equal_int_int_ok F c_11.1 ([2, 4]) c_25 g26) [] rfl fn12 ⟨⟨_, rfl, .inl ⟨rfl, rfl⟩⟩, ⟨_, rfl, .inl ⟨rfl, rfl⟩⟩, trivial⟩ (.inl rfl)) ?_
              refine SOps.q rfl (.plain rfl) rfl (q_pick_t rfl rfl g24 rfl) ?_
              refine SOps.q rfl (.plain rfl) rfl (q_move rfl rfl) ?_
              refine SOps.skip rfl 30 69 true rfl rfl (.inl (gF g27)) rfl ?_
              refine SOps.skip rfl 30 69 true rfl rfl (.inl (gF g27)) rfl ?_
              refine SOps.q rfl (.plain rfl) rfl (q_pick_f rfl rfl g27 rfl) ?_
              refine SOps.q rfl (.plain rfl) rfl (q_move rfl rfl) ?_
              refine SOps.skip rfl 34 73 true rfl rfl (.inl rfl) rfl ?_
              refine SOps.skip rfl 34 73 true rfl rfl (.inl rfl) rfl ?_
              refine SOps.skip rfl 34 73 true rfl rfl (.inl rfl) rfl ?_
              refine SOps.skip rfl 34 73 true rfl rfl (.inl rfl) rfl ?_
              refine SOps.q rfl (.plain rfl) rfl (q_pick_f rfl rfl rfl rfl) ?_
              refine SOps.q rfl (.plain rfl) rfl (q_assign rfl rfl) ?_
              refine SOps.sub (st' := ⟨[(0, .c (.bool false))], []⟩) (sub_gen [] rfl rfl ⟨zc rfl rfl, trivial⟩ trivial) ?_
              refine SOps.nil ?_
              refine SCode.ret ?_
              obtain rfl := Option.some.inj h
              exact ⟨⟨[(0, .c (.bool false))], []⟩, _, sub_gen [] rfl rfl ⟨zc rfl rfl, trivial⟩ trivial, resA1 (v := .c (.bool false)) rfl rfl, rfl⟩
            refine SCode.region (show SOps _ _ _ [0, 1, 2, 3, 4, 5, 6, 7, 8, 9, 10, 11, 12, 13, 14, 15, 16, 17, 18, 19, 20, 21, 22, 23, 24, 25, 26, 27, 28, 29, 30, 31, 32, 33, 34, 35, 36, 37, 38, 39, 40] _ _ from ?_)
            refine SOps.q rfl (.plain rfl) rfl (q_move rfl rfl) ?_
            refine SOps.q rfl (.plain rfl) rfl (q_bsliceL (c := (cInt .i64)) (d0 := 0) [7, 6, 3] rfl rfl sl22 z3 rfl rfl rfl rfl rfl rfl rfl) ?_
            refine SOps.q rfl (.plain rfl) rfl (q_call (slices_Equal_int_int_ok F c_3.1 ([7, 6, 3]) c_13 g14) [] rfl fn12 ⟨⟨_, rfl, .inl ⟨rfl, rfl⟩⟩, ⟨_, rfl, .inl ⟨rfl, rfl⟩⟩, trivial⟩ (.inl rfl)) ?_
            refine SOps.q rfl (.plain rfl) rfl (q_move rfl rfl) ?_
            refine SOps.q rfl (.guard 3 42 true rfl rfl (gT g15)) rfl (q_move rfl rfl) ?_
            refine SOps.q rfl (.guard 3 42 true rfl rfl (gT g15)) rfl (q_eql rfl rfl rfl) ?_
            refine SOps.q rfl (.plain rfl) rfl (q_pick_t rfl rfl g15 rfl) ?_
            refine SOps.q rfl (.plain rfl) rfl (q_move rfl rfl) ?_
            refine SOps.q rfl (.guard 7 46 true rfl rfl (gT g16)) rfl (q_move rfl rfl) ?_
            refine SOps.q rfl (.guard 7 46 true rfl rfl (gT g16)) rfl (q_move rfl rfl) ?_
            refine SOps.q rfl (.guard 7 46 true rfl rfl (gT g16)) rfl (q_call (slices_Equal_int_int_ok F c_5.1 c_3.1 c_17 g18) [] rfl fn12 ⟨⟨_, rfl, .inl ⟨rfl, rfl⟩⟩, ⟨_, rfl, .inl ⟨rfl, rfl⟩⟩, trivial⟩ (.inl rfl)) ?_
            refine SOps.q rfl (.plain rfl) rfl (q_pick_t rfl rfl g16 rfl) ?_
            refine SOps.q rfl (.plain rfl) rfl (q_move rfl rfl) ?_
            refine SOps.q rfl (.guard 12 51 true rfl rfl (gT g19)) rfl (q_move rfl rfl) ?_
            refine SOps.q rfl (.guard 12 51 true rfl rfl (gT g19)) rfl (q_eql rfl rfl rfl) ?_
            refine SOps.q rfl (.plain rfl) rfl (q_pick_t rfl rfl g19 rfl) ?_
            refine SOps.q rfl (.plain rfl) rfl (q_move rfl rfl) ?_
            refine SOps.q rfl (.guard 16 55 true rfl rfl (gT g20)) rfl (q_move rfl rfl) ?_
            refine SOps.q rfl (.guard 16 55 true rfl rfl (gT g20)) rfl (q_move rfl rfl) ?_
            refine SOps.q rfl (.guard 16 55 true rfl rfl (gT g20)) rfl (q_call (slices_Equal_int_int_ok F c_7.1 ([10, 10, 3]) c_21 g22) [] rfl fn12 ⟨⟨_, rfl, .inl ⟨rfl, rfl⟩⟩, ⟨_, rfl, .inl ⟨rfl, rfl⟩⟩, trivial⟩ (.inl rfl)) ?_
            refine SOps.q rfl (.plain rfl) rfl (q_pick_t rfl rfl g20 rfl) ?_
            refine SOps.q rfl (.plain rfl) rfl (q_move rfl rfl) ?_
            refine SOps.q rfl (.guard 21 60 true rfl rfl (gT g23)) rfl (q_move rfl rfl) ?_
            refine SOps.q rfl (.guard 21 60 true rfl rfl (gT g23)) rfl (q_eql rfl rfl rfl) ?_
            refine SOps.q rfl (.plain rfl) rfl (q_pick_t rfl rfl g23 rfl) ?_
            refine SOps.q rfl (.plain rfl) rfl (q_move rfl rfl) ?_
            refine SOps.skip rfl 25 64 true rfl rfl (.inl (gF g24)) rfl ?_
            refine SOps.skip rfl 25 64 true rfl rfl (.inl (gF g24)) rfl ?_
            refine SOps.skip rfl 25 64 true rfl rfl (.inl (gF g24)) rfl ?_
            refine SOps.q rfl (.plain rfl) rfl (q_pick_f rfl rfl g24 rfl) ?_
            refine SOps.q rfl (.plain rfl) rfl (q_move rfl rfl) ?_
            refine SOps.skip rfl 30 69 true rfl rfl (.inl rfl) rfl ?_
            refine SOps.skip rfl 30 69 true rfl rfl (.inl rfl) rfl ?_
            refine SOps.q rfl (.plain rfl) rfl (q_pick_f rfl rfl rfl rfl) ?_
            refine SOps.q rfl (.plain rfl) rfl (q_move rfl rfl) ?_
            refine SOps.skip rfl 34 73 true rfl rfl (.inl rfl) rfl ?_
            refine SOps.skip rfl 34 73 true rfl rfl (.inl rfl) rfl ?_
            refine SOps.skip rfl 34 73 true rfl rfl (.inl rfl) rfl ?_
            refine SOps.skip rfl 34 73 true rfl rfl (.inl rfl) rfl ?_
            refine SOps.q rfl (.plain rfl) rfl (q_pick_f rfl rfl rfl rfl) ?_
            refine SOps.q rfl (.plain rfl) rfl (q_assign rfl rfl) ?_
            refine SOps.sub (st' := ⟨[(0, .c (.bool false))], []⟩) (sub_gen [] rfl rfl ⟨zc rfl rfl, trivial⟩ trivial) ?_
            refine SOps.nil ?_
            refine SCode.ret ?_
            obtain rfl := Option.some.inj h
            exact ⟨⟨[(0, .c (.bool false))], []⟩, _, sub_gen [] rfl rfl ⟨zc rfl rfl, trivial⟩ trivial, resA1 (v := .c (.bool false)) rfl rfl, rfl⟩
          refine SCode.region (show SOps _ _ _ [0, 1, 2, 3, 4, 5, 6, 7, 8, 9, 10, 11, 12, 13, 14, 15, 16, 17, 18, 19, 20, 21, 22, 23, 24, 25, 26, 27, 28, 29, 30, 31, 32, 33, 34, 35, 36, 37, 38, 39, 40] _ _ from ?_)
          refine SOps.q rfl (.plain rfl) rfl (q_move rfl rfl) ?_
          refine SOps.q rfl (.plain rfl) rfl (q_bsliceL (c := (cInt .i64)) (d0 := 0) [7, 6, 3] rfl rfl sl22 z3 rfl rfl rfl rfl rfl rfl rfl) ?_
          refine SOps.q rfl (.plain rfl) rfl (q_call (slices_Equal_int_int_ok F c_3.1 ([7, 6, 3]) c_13 g14) [] rfl fn12 ⟨⟨_, rfl, .inl ⟨rfl, rfl⟩⟩, ⟨_, rfl, .inl ⟨rfl, rfl⟩⟩, trivial⟩ (.inl rfl)) ?_
          refine SOps.q rfl (.plain rfl) rfl (q_move rfl rfl) ?_
          refine SOps.q rfl (.guard 3 42 true rfl rfl (gT g15)) rfl (q_move rfl rfl) ?_
          refine SOps.q rfl (.guard 3 42 true rfl rfl (gT g15)) rfl (q_eql rfl rfl rfl) ?_
          refine SOps.q rfl (.plain rfl) rfl (q_pick_t rfl rfl g15 rfl) ?_
          refine SOps.q rfl (.plain rfl) rfl (q_move rfl rfl) ?_
          refine SOps.q rfl (.guard 7 46 true rfl rfl (gT g16)) rfl (q_move rfl rfl) ?_
          refine SOps.q rfl (.guard 7 46 true rfl rfl (gT g16)) rfl (q_move rfl rfl) ?_
          refine SOps.q rfl (.guard 7 46 true rfl rfl (gT g16)) rfl (q_call (slices_Equal_int_int_ok F c_5.1 c_3.1 c_17 g18) [] rfl fn12 ⟨⟨_, rfl, .inl ⟨rfl, rfl⟩⟩, ⟨_, rfl, .inl ⟨rfl, rfl⟩⟩, trivial⟩ (.inl rfl)) ?_
          refine SOps.q rfl (.plain rfl) rfl (q_pick_t rfl rfl g16 rfl) ?_
          refine SOps.q rfl (.plain rfl) rfl (q_move rfl rfl) ?_
          refine SOps.q rfl (.guard 12 51 true rfl rfl (gT g19)) rfl (q_move rfl rfl) ?_
          refine SOps.q rfl (.guard 12 51 true rfl rfl (gT g19)) rfl (q_eql rfl rfl rfl) ?_
          refine SOps.q rfl (.plain rfl) rfl (q_pick_t rfl rfl g19 rfl) ?_
          refine SOps.q rfl (.plain rfl) rfl (q_move rfl rfl) ?_
          refine SOps.q rfl (.guard 16 55 true rfl rfl (gT g20)) rfl (q_move rfl rfl) ?_
          refine SOps.q rfl (.guard 16 55 true rfl rfl (gT g20)) rfl (q_move rfl rfl) ?_
          refine SOps.q rfl (.guard 16 55 true rfl rfl (gT g20)) rfl (q_call (slices_Equal_int_int_ok F c_7.1 ([10, 10, 3]) c_21 g22) [] rfl fn12 ⟨⟨_, rfl, .inl ⟨rfl, rfl⟩⟩, ⟨_, rfl, .inl ⟨rfl, rfl⟩⟩, trivial⟩ (.inl rfl)) ?_
          refine SOps.q rfl (.plain rfl) rfl (q_pick_t rfl rfl g20 rfl) ?_
          refine SOps.q rfl (.plain rfl) rfl (q_move rfl rfl) ?_
          refine SOps.skip rfl 21 60 true rfl rfl (.inl (gF g23)) rfl ?_
          refine SOps.skip rfl 21 60 true rfl rfl (.inl (gF g23)) rfl ?_
          refine SOps.q rfl (.plain rfl) rfl (q_pick_f rfl rfl g23 rfl) ?_
          refine SOps.q rfl (.plain rfl) rfl (q_move rfl rfl) ?_
          refine SOps.skip rfl 25 64 true rfl rfl (.inl rfl) rfl ?_
          refine SOps.skip rfl 25 64 true rfl rfl (.inl rfl) rfl ?_
          refine SOps.skip rfl 25 64 true rfl rfl (.inl rfl) rfl ?_
          refine SOps.q rfl (.plain rfl) rfl (q_pick_f rfl rfl rfl rfl) ?_
          refine SOps.q rfl (.plain rfl) rfl (q_move rfl rfl) ?_
          refine SOps.skip rfl 30 69 true rfl rfl (.inl rfl) rfl ?_
          refine SOps.skip rfl 30 69 true rfl rfl (.inl rfl) rfl ?_
          refine SOps.q rfl (.plain rfl) rfl (q_pick_f rfl rfl rfl rfl) ?_
          refine SOps.q rfl (.plain rfl) rfl (q_move rfl rfl) ?_
          refine SOps.skip rfl 34 73 true rfl rfl (.inl rfl) rfl ?_
          refine SOps.skip rfl 34 73 true rfl rfl (.inl rfl) rfl ?_
          refine SOps.skip rfl 34 73 true rfl rfl (.inl rfl) rfl ?_
          refine SOps.skip rfl 34 73 true rfl rfl (.inl rfl) rfl ?_
          refine SOps.q rfl (.plain rfl) rfl (q_pick_f rfl rfl rfl rfl) ?_
          refine SOps.q rfl (.plain rfl) rfl (q_assign rfl rfl) ?_
          refine SOps.sub (st' := ⟨[(0, .c (.bool false))], []⟩) (sub_gen [] rfl rfl ⟨zc rfl rfl, trivial⟩ trivial) ?_
          refine SOps.nil ?_
          refine SCode.ret ?_
          obtain rfl := Option.some.inj h
          exact ⟨⟨[(0, .c (.bool false))], []⟩, _, sub_gen [] rfl rfl ⟨zc rfl rfl, trivial⟩ trivial, resA1 (v := .c (.bool false)) rfl rfl, rfl⟩
        refine SCode.region (show SOps _ _ _ [0, 1, 2, 3, 4, 5, 6, 7, 8, 9, 10, 11, 12, 13, 14, 15, 16, 17, 18, 19, 20, 21, 22, 23, 24, 25, 26, 27, 28, 29, 30, 31, 32, 33, 34, 35, 36, 37, 38, 39, 40] _ _ from ?_)
        refine SOps.q rfl (.plain rfl) rfl (q_move rfl rfl) ?_
        refine SOps.q rfl (.plain rfl) rfl (q_bsliceL (c := (cInt .i64)) (d0 := 0) [7, 6, 3] rfl rfl sl22 z3 rfl rfl rfl rfl rfl rfl rfl) ?_
        refine SOps.q rfl (.plain rfl) rfl (q_call (slices_Equal_int_int_ok F c_3.1 ([7, 6, 3]) c_13 g14) [] rfl fn12 ⟨⟨_, rfl, .inl ⟨rfl, rfl⟩⟩, ⟨_, rfl, .inl ⟨rfl, rfl⟩⟩, trivial⟩ (.inl rfl)) ?_
        refine SOps.q rfl (.plain rfl) rfl (q_move rfl rfl) ?_
        refine SOps.q rfl (.guard 3 42 true rfl rfl (gT g15)) rfl (q_move rfl rfl) ?_
        refine SOps.q rfl (.guard 3 42 true rfl rfl (gT g15)) rfl (q_eql rfl rfl rfl) ?_
        refine SOps.q rfl (.plain rfl) rfl (q_pick_t rfl rfl g15 rfl) ?_
        refine SOps.q rfl (.plain rfl) rfl (q_move rfl rfl) ?_
        refine SOps.q rfl (.guard 7 46 true rfl rfl (gT g16)) rfl (q_move rfl rfl) ?_
        refine SOps.q rfl (.guard 7 46 true rfl rfl (gT g16)) rfl (q_move rfl rfl) ?_
        refine SOps.q rfl (.guard 7 46 true rfl rfl (gT g16)) rfl (q_call (slices_Equal_int_int_ok F c_5.1 c_3.1 c_17 g18) [] rfl fn12 ⟨⟨_, rfl, .inl ⟨rfl, rfl⟩⟩, ⟨_, rfl, .inl ⟨rfl, rfl⟩⟩, trivial⟩ (.inl rfl)) ?_
        refine SOps.q rfl (.plain rfl) rfl (q_pick_t rfl rfl g16 rfl) ?_
        refine SOps.q rfl (.plain rfl) rfl (q_move rfl rfl) ?_
        refine SOps.q rfl (.guard 12 51 true rfl rfl (gT g19)) rfl (q_move rfl rfl) ?_
        refine SOps.q rfl (.guard 12 51 true rfl rfl (gT g19)) rfl (q_eql rfl rfl rfl) ?_
        refine SOps.q rfl (.plain rfl) rfl (q_pick_t rfl rfl g19 rfl) ?_
        refine SOps.q rfl (.plain rfl) rfl (q_move rfl rfl) ?_
        refine SOps.skip rfl 16 55 true rfl rfl (.inl (gF g20)) rfl ?_
        refine SOps.skip rfl 16 55 true rfl rfl (.inl (gF g20)) rfl ?_
        refine SOps.skip rfl 16 55 true rfl rfl (.inl (gF g20)) rfl ?_
        refine SOps.q rfl (.plain rfl) rfl (q_pick_f rfl rfl g20 rfl) ?_
        refine SOps.q rfl (.plain rfl) rfl (q_move rfl rfl) ?_
        refine SOps.skip rfl 21 60 true rfl rfl (.inl rfl) rfl ?_
        refine SOps.skip rfl 21 60 true rfl rfl (.inl rfl) rfl ?_
        refine SOps.q rfl (.plain rfl) rfl (q_pick_f rfl rfl rfl rfl) ?_
        refine SOps.q rfl (.plain rfl) rfl (q_move rfl rfl) ?_
        refine SOps.skip rfl 25 64 true rfl rfl (.inl rfl) rfl ?_
        refine SOps.skip rfl 25 64 true rfl rfl (.inl rfl) rfl ?_
        refine SOps.skip rfl 25 64 true rfl rfl (.inl rfl) rfl ?_
        refine SOps.q rfl (.plain rfl) rfl (q_pick_f rfl rfl rfl rfl) ?_
        refine SOps.q rfl (.plain rfl) rfl (q_move rfl rfl) ?_
        refine SOps.skip rfl 30 69 true rfl rfl (.inl rfl) rfl ?_
        refine SOps.skip rfl 30 69 true rfl rfl (.inl rfl) rfl ?_
        refine SOps.q rfl (.plain rfl) rfl (q_pick_f rfl rfl rfl rfl) ?_
        refine SOps.q rfl (.plain rfl) rfl (q_move rfl rfl) ?_
        refine SOps.skip rfl 34 73 true rfl rfl (.inl rfl) rfl ?_
        refine SOps.skip rfl 34 73 true rfl rfl (.inl rfl) rfl ?_
        refine SOps.skip rfl 34 73 true rfl rfl (.inl rfl) rfl ?_
        refine SOps.skip rfl 34 73 true rfl rfl (.inl rfl) rfl ?_
        refine SOps.q rfl (.plain rfl) rfl (q_pick_f rfl rfl rfl rfl) ?_
        refine SOps.q rfl (.plain rfl) rfl (q_assign rfl rfl) ?_
        refine SOps.sub (st' := ⟨[(0, .c (.bool false))], []⟩) (sub_gen [] rfl rfl ⟨zc rfl rfl, trivial⟩ trivial) ?_
        refine SOps.nil ?_
        refine SCode.ret ?_
        obtain rfl := Option.some.inj h
        exact ⟨⟨[(0, .c (.bool false))], []⟩, _, sub_gen [] rfl rfl ⟨zc rfl rfl, trivial⟩ trivial, resA1 (v := .c (.bool false)) rfl rfl, rfl⟩
      refine SCode.region (show SOps _ _ _ [0, 1, 2, 3, 4, 5, 6, 7, 8, 9, 10, 11, 12, 13, 14, 15, 16, 17, 18, 19, 20, 21, 22, 23, 24, 25, 26, 27, 28, 29, 30, 31, 32, 33, 34, 35, 36, 37, 38, 39, 40] _ _ from ?_)
      refine SOps.q rfl (.plain rfl) rfl (q_move rfl rfl) ?_
      refine SOps.q rfl (.plain rfl) rfl (q_bsliceL (c := (cInt .i64)) (d0 := 0) [7, 6, 3] rfl rfl sl22 z3 rfl rfl rfl rfl rfl rfl rfl) ?_
      refine SOps.q rfl (.plain rfl) rfl (q_call (slices_Equal_int_int_ok F c_3.1 ([7, 6, 3]) c_13 g14) [] rfl fn12 ⟨⟨_, rfl, .inl ⟨rfl, rfl⟩⟩, ⟨_, rfl, .inl ⟨rfl, rfl⟩⟩, trivial⟩ (.inl rfl)) ?_
      refine SOps.q rfl (.plain rfl) rfl (q_move rfl rfl) ?_
      refine SOps.q rfl (.guard 3 42 true rfl rfl (gT g15)) rfl (q_move rfl rfl) ?_
      refine SOps.q rfl (.guard 3 42 true rfl rfl (gT g15)) rfl (q_eql rfl rfl rfl) ?_
      refine SOps.q rfl (.plain rfl) rfl (q_pick_t rfl rfl g15 rfl) ?_
      refine SOps.q rfl (.plain rfl) rfl (q_move rfl rfl) ?_
      refine SOps.q rfl (.guard 7 46 true rfl rfl (gT g16)) rfl (q_move rfl rfl) ?_
      refine SOps.q rfl (.guard 7 46 true rfl rfl (gT g16)) rfl (q_move rfl rfl) ?_
      refine SOps.q rfl (.guard 7 46 true rfl rfl (gT g16)) rfl (q_call (slices_Equal_int_int_ok F c_5.1 c_3.1 c_17 g18) [] rfl fn12 ⟨⟨_, rfl, .inl ⟨rfl, rfl⟩⟩, ⟨_, rfl, .inl ⟨rfl, rfl⟩⟩, trivial⟩ (.inl rfl)) ?_
      refine SOps.q rfl (.plain rfl) rfl (q_pick_t rfl rfl g16 rfl) ?_
      refine SOps.q rfl (.plain rfl) rfl (q_move rfl rfl) ?_
      refine SOps.skip rfl 12 51 true rfl rfl (.inl (gF g19)) rfl ?_
      refine SOps.skip rfl 12 51 true rfl rfl (.inl (gF g19)) rfl ?_
      refine SOps.q rfl (.plain rfl) rfl (q_pick_f rfl rfl g19 rfl) ?_
      refine SOps.q rfl (.plain rfl) rfl (q_move rfl rfl) ?_
      refine SOps.skip rfl 16 55 true rfl rfl (.inl rfl) rfl ?_
      refine SOps.skip rfl 16 55 true rfl rfl (.inl rfl) rfl ?_
      refine SOps.skip rfl 16 55 true rfl rfl (.inl rfl) rfl ?_
      refine SOps.q rfl (.plain rfl) rfl (q_pick_f rfl rfl rfl rfl) ?_
      refine SOps.q rfl (.plain rfl) rfl (q_move rfl rfl) ?_
      refine SOps.skip rfl 21 60 true rfl rfl (.inl rfl) rfl ?_
      refine SOps.skip rfl 21 60 true rfl rfl (.inl rfl) rfl ?_
      refine SOps.q rfl (.plain rfl) rfl (q_pick_f rfl rfl rfl rfl) ?_
      refine SOps.q rfl (.plain rfl) rfl (q_move rfl rfl) ?_
      refine SOps.skip rfl 25 64 true rfl rfl (.inl rfl) rfl ?_
      refine SOps.skip rfl 25 64 true rfl rfl (.inl rfl) rfl ?_
      refine SOps.skip rfl 25 64 true rfl rfl (.inl rfl) rfl ?_
      refine SOps.q rfl (.plain rfl) rfl (q_pick_f rfl rfl rfl rfl) ?_
      refine SOps.q rfl (.plain rfl) rfl (q_move rfl rfl) ?_
      refine SOps.skip rfl 30 69 true rfl rfl (.inl rfl) rfl ?_
      refine SOps.skip rfl 30 69 true rfl rfl (.inl rfl) rfl ?_
      refine SOps.q rfl (.plain rfl) rfl (q_pick_f rfl rfl rfl rfl) ?_
      refine SOps.q rfl (.plain rfl) rfl (q_move rfl rfl) ?_
      refine SOps.skip rfl 34 73 true rfl rfl (.inl rfl) rfl ?_
      refine SOps.skip rfl 34 73 true rfl rfl (.inl rfl) rfl ?_
      refine SOps.skip rfl 34 73 true rfl rfl (.inl rfl) rfl ?_
      refine SOps.skip rfl 34 73 true rfl rfl (.inl rfl) rfl ?_
      refine SOps.q rfl (.plain rfl) rfl (q_pick_f rfl rfl rfl rfl) ?_
      refine SOps.q rfl (.plain rfl) rfl (q_assign rfl rfl) ?_
      refine SOps.sub (st' := ⟨[(0, .c (.bool false))], []⟩) (sub_gen [] rfl rfl ⟨zc rfl rfl, trivial⟩ trivial) ?_
      refine SOps.nil ?_
      refine SCode.ret ?_
      obtain rfl := Option.some.inj h
      exact ⟨⟨[(0, .c (.bool false))], []⟩, _, sub_gen [] rfl rfl ⟨zc rfl rfl, trivial⟩ trivial, resA1 (v := .c (.bool false)) rfl rfl, rfl⟩
    refine SCode.region (show SOps _ _ _ [0, 1, 2, 3, 4, 5, 6, 7, 8, 9, 10, 11, 12, 13, 14, 15, 16, 17, 18, 19, 20, 21, 22, 23, 24, 25, 26, 27, 28, 29, 30, 31, 32, 33, 34, 35, 36, 37, 38, 39, 40] _ _ from ?_)
    refine SOps.q rfl (.plain rfl) rfl (q_move rfl rfl) ?_
    refine SOps.q rfl (.plain rfl) rfl (q_bsliceL (c := (cInt .i64)) (d0 := 0) [7, 6, 3] rfl rfl sl22 z3 rfl rfl rfl rfl rfl rfl rfl) ?_
    refine SOps.q rfl (.plain rfl) rfl (q_call (slices_Equal_int_int_ok F c_3.1 ([7, 6, 3]) c_13 g14) [] rfl fn12 ⟨⟨_, rfl, .inl ⟨rfl, rfl⟩⟩, ⟨_, rfl, .inl ⟨rfl, rfl⟩⟩, trivial⟩ (.inl rfl)) ?_
    refine SOps.q rfl (.plain rfl) rfl (q_move rfl rfl) ?_
    refine SOps.q rfl (.guard 3 42 true rfl rfl (gT g15)) rfl (q_move rfl rfl) ?_
    refine SOps.q rfl (.guard 3 42 true rfl rfl (gT g15)) rfl (q_eql rfl rfl rfl) ?_
    refine SOps.q rfl (.plain rfl) rfl (q_pick_t rfl rfl g15 rfl) ?_
    refine SOps.q rfl (.plain rfl) rfl (q_move rfl rfl) ?_
    refine SOps.skip rfl 7 46 true rfl rfl (.inl (gF g16)) rfl ?_
    refine SOps.skip rfl 7 46 true rfl rfl (.inl (gF g16)) rfl ?_
    refine SOps.skip rfl 7 46 true rfl rfl (.inl (gF g16)) rfl ?_
    refine SOps.q rfl (.plain rfl) rfl (q_pick_f rfl rfl g16 rfl) ?_
    refine SOps.q rfl (.plain rfl) rfl (q_move rfl rfl) ?_
    refine SOps.skip rfl 12 51 true rfl rfl (.inl rfl) rfl ?_
    refine SOps.skip rfl 12 51 true rfl rfl (.inl rfl) rfl ?_
    refine SOps.q rfl (.plain rfl) rfl (q_pick_f rfl rfl rfl rfl) ?_
    refine SOps.q rfl (.plain rfl) rfl (q_move rfl rfl) ?_
    refine SOps.skip rfl 16 55 true rfl rfl (.inl rfl) rfl ?_
    refine SOps.skip rfl 16 55 true rfl rfl (.inl rfl) rfl ?_
    refine SOps.skip rfl 16 55 true rfl rfl (.inl rfl) rfl ?_
    refine SOps.q rfl (.plain rfl) rfl (q_pick_f rfl rfl rfl rfl) ?_
    refine SOps.q rfl (.plain rfl) rfl (q_move rfl rfl) ?_
    refine SOps.skip rfl 21 60 true rfl rfl (.inl rfl) rfl ?_
    refine SOps.skip rfl 21 60 true rfl rfl (.inl rfl) rfl ?_
    refine SOps.q rfl (.plain rfl) rfl (q_pick_f rfl rfl rfl rfl) ?_
    refine SOps.q rfl (.plain rfl) rfl (q_move rfl rfl) ?_
    refine SOps.skip rfl 25 64 true rfl rfl (.inl rfl) rfl ?_
    refine SOps.skip rfl 25 64 true rfl rfl (.inl rfl) rfl ?_
    refine SOps.skip rfl 25 64 true rfl rfl (.inl rfl) rfl ?_
    refine SOps.q rfl (.plain rfl) rfl (q_pick_f rfl rfl rfl rfl) ?_
    refine SOps.q rfl (.plain rfl) rfl (q_move rfl rfl) ?_
    refine SOps.skip rfl 30 69 true rfl rfl (.inl rfl) rfl ?_
    refine SOps.skip rfl 30 69 true rfl rfl (.inl rfl) rfl ?_
    refine SOps.q rfl (.plain rfl) rfl (q_pick_f rfl rfl rfl rfl) ?_
    refine SOps.q rfl (.plain rfl) rfl (q_move rfl rfl) ?_
    refine SOps.skip rfl 34 73 true rfl rfl (.inl rfl) rfl ?_
    refine SOps.skip rfl 34 73 true rfl rfl (.inl rfl) rfl ?_
    refine SOps.skip rfl 34 73 true rfl rfl (.inl rfl) rfl ?_
    refine SOps.skip rfl 34 73 true rfl rfl (.inl rfl) rfl ?_
    refine SOps.q rfl (.plain rfl) rfl (q_pick_f rfl rfl rfl rfl) ?_
    refine SOps.q rfl (.plain rfl) rfl (q_assign rfl rfl) ?_
    refine SOps.sub (st' := ⟨[(0, .c (.bool false))], []⟩) (sub_gen [] rfl rfl ⟨zc rfl rfl, trivial⟩ trivial) ?_
    refine SOps.nil ?_
    refine SCode.ret ?_
    obtain rfl := Option.some.inj h
    exact ⟨⟨[(0, .c (.bool false))], []⟩, _, sub_gen [] rfl rfl ⟨zc rfl rfl, trivial⟩ trivial, resA1 (v := .c (.bool false)) rfl rfl, rfl⟩
  refine SCode.region (show SOps _ _ _ [0, 1, 2, 3, 4, 5, 6, 7, 8, 9, 10, 11, 12, 13, 14, 15, 16, 17, 18, 19, 20, 21, 22, 23, 24, 25, 26, 27, 28, 29, 30, 31, 32, 33, 34, 35, 36, 37, 38, 39, 40] _ _ from ?_)
  refine SOps.q rfl (.plain rfl) rfl (q_move rfl rfl) ?_
  refine SOps.q rfl (.plain rfl) rfl (q_bsliceL (c := (cInt .i64)) (d0 := 0) [7, 6, 3] rfl rfl sl22 z3 rfl rfl rfl rfl rfl rfl rfl) ?_
  refine SOps.q rfl (.plain rfl) rfl (q_call (slices_Equal_int_int_ok F c_3.1 ([7, 6, 3]) c_13 g14) [] rfl fn12 ⟨⟨_, rfl, .inl ⟨rfl, rfl⟩⟩, ⟨_, rfl, .inl ⟨rfl, rfl⟩⟩, trivial⟩ (.inl rfl)) ?_
  refine SOps.q rfl (.plain rfl) rfl (q_move rfl rfl) ?_
  refine SOps.skip rfl 3 42 true rfl rfl (.inl (gF g15)) rfl ?_
  refine SOps.skip rfl 3 42 true rfl rfl (.inl (gF g15)) rfl ?_
  refine SOps.q rfl (.plain rfl) rfl (q_pick_f rfl rfl g15 rfl) ?_
  refine SOps.q rfl (.plain rfl) rfl (q_move rfl rfl) ?_
  refine SOps.skip rfl 7 46 true rfl rfl (.inl rfl) rfl ?_
  refine SOps.skip rfl 7 46 true rfl rfl (.inl rfl) rfl ?_
  refine SOps.skip rfl 7 46 true rfl rfl (.inl rfl) rfl ?_
  refine SOps.q rfl (.plain rfl) rfl (q_pick_f rfl rfl rfl rfl) ?_
  refine SOps.q rfl (.plain rfl) rfl (q_move rfl rfl) ?_
  refine SOps.skip rfl 12 51 true rfl rfl (.inl rfl) rfl ?_
  refine SOps.skip rfl 12 51 true rfl rfl (.inl rfl) rfl ?_
  refine SOps.q rfl (.plain rfl) rfl (q_pick_f rfl rfl rfl rfl) ?_
  refine SOps.q rfl (.plain rfl) rfl (q_move rfl rfl) ?_
  refine SOps.skip rfl 16 55 true rfl rfl (.inl rfl) rfl ?_
  refine SOps.skip rfl 16 55 true rfl rfl (.inl rfl) rfl ?_
  refine SOps.skip rfl 16 55 true rfl rfl (.inl rfl) rfl ?_
  refine SOps.q rfl (.plain rfl) rfl (q_pick_f rfl rfl rfl rfl) ?_
  refine SOps.q rfl (.plain rfl) rfl (q_move rfl rfl) ?_
  refine SOps.skip rfl 21 60 true rfl rfl (.inl rfl) rfl ?_
  refine SOps.skip rfl 21 60 true rfl rfl (.inl rfl) rfl ?_
  refine SOps.q rfl (.plain rfl) rfl (q_pick_f rfl rfl rfl rfl) ?_
  refine SOps.q rfl (.plain rfl) rfl (q_move rfl rfl) ?_
  refine SOps.skip rfl 25 64 true rfl rfl (.inl rfl) rfl ?_
  refine SOps.skip rfl 25 64 true rfl rfl (.inl rfl) rfl ?_
  refine SOps.skip rfl 25 64 true rfl rfl (.inl rfl) rfl ?_
  refine SOps.q rfl (.plain rfl) rfl (q_pick_f rfl rfl rfl rfl) ?_
  refine SOps.q rfl (.plain rfl) rfl (q_move rfl rfl) ?_
  refine SOps.skip rfl 30 69 true rfl rfl (.inl rfl) rfl ?_
  refine SOps.skip rfl 30 69 true rfl rfl (.inl rfl) rfl ?_
  refine SOps.q rfl (.plain rfl) rfl (q_pick_f rfl rfl rfl rfl) ?_
  refine SOps.q rfl (.plain rfl) rfl (q_move rfl rfl) ?_
  refine SOps.skip rfl 34 73 true rfl rfl (.inl rfl) rfl ?_
  refine SOps.skip rfl 34 73 true rfl rfl (.inl rfl) rfl ?_
  refine SOps.skip rfl 34 73 true rfl rfl (.inl rfl) rfl ?_
  refine SOps.skip rfl 34 73 true rfl rfl (.inl rfl) rfl ?_
  refine SOps.q rfl (.plain rfl) rfl (q_pick_f rfl rfl rfl rfl) ?_
  refine SOps.q rfl (.plain rfl) rfl (q_assign rfl rfl) ?_
  refine SOps.sub (st' := ⟨[(0, .c (.bool false))], []⟩) (sub_gen [] rfl rfl ⟨zc rfl rfl, trivial⟩ trivial) ?_
  refine SOps.nil ?_
  refine SCode.ret ?_
  obtain rfl := Option.some.inj h
  exact ⟨⟨[(0, .c (.bool false))], []⟩, _, sub_gen [] rfl rfl ⟨zc rfl rfl, trivial⟩ trivial, resA1 (v := .c (.bool false)) rfl rfl, rfl⟩
set_option maxRecDepth 100000 in
set_option maxHeartbeats 8000000 in
theorem chargenetlaw10_big_ok (F : Nat) (a0_caps : List Int) (a1_rules : List SRule) (r : Bool) (h : chargenetlaw10_big F a0_caps a1_rules = some r) :
    SFun Try.prog 15 [] [.c (vI a0_caps), .c (.vec a1_rules.length 2 (gL cSRule dSRule a1_rules))] (fun x _ => x = .c (.bool r)) := by
  refine SFun.of (n := 13) Try.func15 rfl rfl rfl ?_
  unfold chargenetlaw10_big at h
  show SCode _ _ _ ⟨[(0, .c (vI a0_caps)), (1, .c (.vec a1_rules.length 2 (gL cSRule dSRule a1_rules)))], []⟩ _
  refine SCode.seq ?_
  refine SCode.region (show SOps _ _ _ [0] _ _ from ?_)
  refine SOps.q rfl (.plain rfl) rfl (q_assign rfl rfl) ?_
  refine SOps.sub (st' := ⟨[(0, .c (vI a0_caps)), (1, .c (.vec a1_rules.length 2 (gL cSRule dSRule a1_rules)))], []⟩) (sub_gen [] rfl rfl ⟨zc rfl rfl, zc rfl rfl, trivial⟩ trivial) ?_
  refine SOps.nil ?_
  refine SCode.seq ?_
  rcases cond_out h with ⟨g1, h⟩ | ⟨g1, h⟩
  · refine SCode.region (show SOps _ _ _ [0, 1, 2, 3, 4, 5, 6, 7, 8] _ _ from ?_)
    refine SOps.q rfl (.plain rfl) rfl (q_move rfl rfl) ?_
    refine SOps.q rfl (.plain rfl) rfl (q_len_vec rfl rfl sl22) ?_
    refine SOps.q rfl (.plain rfl) rfl (q_gtr rfl rfl rfl) ?_
    refine SOps.q rfl (.plain rfl) rfl (q_move rfl rfl) ?_
    refine SOps.skip rfl 3 8 false rfl rfl (.inl (gT g1)) rfl ?_
    refine SOps.skip rfl 3 8 false rfl rfl (.inl (gT g1)) rfl ?_
    refine SOps.skip rfl 3 8 false rfl rfl (.inl (gT g1)) rfl ?_
    refine SOps.q rfl (.plain rfl) rfl (q_pick_t rfl rfl g1 rfl) ?_
    refine SOps.q rfl (.plain rfl) rfl (q_assign rfl rfl) ?_
    refine SOps.sub (st' := ⟨[(4, .c (.bool true))], []⟩) (sub_gen [] rfl rfl ⟨zc rfl rfl, trivial⟩ trivial) ?_
    refine SOps.nil ?_
    refine SCode.ret ?_
    obtain rfl := Option.some.inj h
    exact ⟨⟨[(4, .c (.bool true))], []⟩, _, sub_gen [] rfl rfl ⟨zc rfl rfl, trivial⟩ trivial, resA1 (v := .c (.bool true)) rfl rfl, rfl⟩
  refine SCode.region (show SOps _ _ _ [0, 1, 2, 3, 4, 5, 6, 7, 8] _ _ from ?_)
  refine SOps.q rfl (.plain rfl) rfl (q_move rfl rfl) ?_
  refine SOps.q rfl (.plain rfl) rfl (q_len_vec rfl rfl sl22) ?_
  refine SOps.q rfl (.plain rfl) rfl (q_gtr rfl rfl rfl) ?_
  refine SOps.q rfl (.plain rfl) rfl (q_move rfl rfl) ?_
  refine SOps.q rfl (.guard 3 8 false rfl rfl (gF g1)) rfl (q_move rfl rfl) ?_
  refine SOps.q rfl (.guard 3 8 false rfl rfl (gF g1)) rfl (q_len_vec rfl rfl sl31) ?_
  refine SOps.q rfl (.guard 3 8 false rfl rfl (gF g1)) rfl (q_gtr rfl rfl rfl) ?_
  refine SOps.q rfl (.plain rfl) rfl (q_pick_f rfl rfl g1 rfl) ?_
  refine SOps.q rfl (.plain rfl) rfl (q_assign rfl rfl) ?_
  refine SOps.sub (st' := ⟨[(4, .c (.bool (decide (24 < ((a1_rules).length : Int)))))], []⟩) (sub_gen [] rfl rfl ⟨zc rfl rfl, trivial⟩ trivial) ?_
  refine SOps.nil ?_
  refine SCode.ret ?_
  obtain rfl := Option.some.inj h
  exact ⟨⟨[(4, .c (.bool (decide (24 < ((a1_rules).length : Int)))))], []⟩, _, sub_gen [] rfl rfl ⟨zc rfl rfl, trivial⟩ trivial, resA1 (v := .c (.bool (decide (24 < ((a1_rules).length : Int))))) rfl rfl, rfl⟩
set_option maxRecDepth 100000 in
set_option maxHeartbeats 8000000 in
theorem chargenetref10_Rules_Fits_ok (F : Nat) (a0_rules : List SRule) (a1_l : List Int) (r : Bool) (h : chargenetref10_Rules_Fits F a0_rules a1_l = some r) :
    SFun Try.prog 17 [] [.c (.vec a0_rules.length 2 (gL cSRule dSRule a0_rules)), .c (vI a1_l)] (fun x _ => x = .c (.bool r)) := by
  refine SFun.of (n := 42) Try.func17 rfl rfl rfl ?_
  unfold chargenetref10_Rules_Fits at h
  show SCode _ _ _ ⟨[(0, .c (.vec a0_rules.length 2 (gL cSRule dSRule a0_rules))), (1, .c (vI a1_l))], []⟩ _
  refine SCode.seq ?_
  refine SCode.region (show SOps _ _ _ [0] _ _ from ?_)
  refine SOps.q rfl (.plain rfl) rfl (q_assign rfl rfl) ?_
  refine SOps.sub (st' := ⟨[(0, .c (.vec a0_rules.length 2 (gL cSRule dSRule a0_rules))), (1, .c (vI a1_l))], []⟩) (sub_gen [] rfl rfl ⟨zc rfl rfl, zc rfl rfl, trivial⟩ trivial) ?_
  refine SOps.nil ?_
  refine SCode.join (σ := Unit) (S := fun s => ⟨[], []⟩) (g := fun s => chargenetref10_Rules_Fits_p1 = some r) ?_ ?_
  rotate_left
  · refine SCode.seq ?_
    refine SCode.region (show SOps _ _ _ [0] _ _ from ?_)
    refine SOps.q rfl (.plain rfl) rfl (q_assign rfl rfl) ?_
    refine SOps.sub (st' := ⟨[(0, .c (.vec a0_rules.length 2 (gL cSRule dSRule a0_rules))), (1, .c (vI a1_l)), (5, .c (.int .i64 0))], []⟩) (sub_gen [] rfl rfl ⟨zc rfl rfl, zc rfl rfl, zc rfl rfl, trivial⟩ trivial) ?_
    refine SOps.nil ?_
    refine SCode.block ?_
    refine SCode.sub (st' := ⟨[(0, .c (.vec a0_rules.length 2 (gL cSRule dSRule a0_rules))), (1, .c (vI a1_l)), (5, .c (.int .i64 0))], []⟩) (sub_gen [] rfl rfl ⟨zc rfl rfl, zc rfl rfl, zc rfl rfl, trivial⟩ trivial) ?_
    refine (SCode.loop (σ := Nat × Int) (S := fun s => ⟨[(0, .c (.vec a0_rules.length 2 (gL cSRule dSRule a0_rules))), (1, .c (vI a1_l)), (5, .c (.int .i64 s.2))], []⟩) (g := fun s => chargenetref10_Rules_Fits_l61 F a0_rules a1_l s.1 s.2 = some r) (μ := fun s => s.1) (F, 0) h ?_)
    rintro ⟨n_61, i_31⟩ h
    replace h : chargenetref10_Rules_Fits_l61 F a0_rules a1_l n_61 i_31 = some r := h
    show SCode _ _ _ ⟨[(0, .c (.vec a0_rules.length 2 (gL cSRule dSRule a0_rules))), (1, .c (vI a1_l)), (5, .c (.int .i64 i_31))], []⟩ _
    cases n_61 with
    | zero => cases h
    | succ n_61 =>
      replace h : chargenetref10_Rules_Fits_b61 F a0_rules a1_l (fun i_31 => chargenetref10_Rules_Fits_l61 F a0_rules a1_l n_61 i_31) i_31 = some r := h
      unfold chargenetref10_Rules_Fits_b61 at h
      refine SCode.seq ?_
      refine SCode.seq ?_
      refine SCode.region (show SOps _ _ _ [0, 1, 2, 3] _ _ from ?_)
      refine SOps.q rfl (.plain rfl) rfl (q_move rfl rfl) ?_
      refine SOps.q rfl (.plain rfl) rfl (q_move rfl rfl) ?_
      refine SOps.q rfl (.plain rfl) rfl (q_len_vec rfl rfl sl31) ?_
      refine SOps.q rfl (.plain rfl) rfl (q_lss rfl rfl rfl) ?_
      refine SOps.sub (st' := ⟨[(0, .c (.vec a0_rules.length 2 (gL cSRule dSRule a0_rules))), (1, .c (vI a1_l)), (5, .c (.int .i64 i_31)), (11, .c (.bool (decide (i_31 < ((a0_rules).length : Int)))))], []⟩) (sub_gen [] rfl rfl ⟨zc rfl rfl, zc rfl rfl, zc rfl rfl, zc rfl rfl, trivial⟩ trivial) ?_
      refine SOps.nil ?_
      rcases cond_out h with ⟨g62, h⟩ | ⟨g62, h⟩
      · refine SCode.cond_t rfl g62 ?_
        refine SCode.skip ?_
        refine SCode.join (σ := Unit) (S := fun s => ⟨[(0, .c (.vec a0_rules.length 2 (gL cSRule dSRule a0_rules))), (1, .c (vI a1_l)), (5, .c (.int .i64 i_31))], []⟩) (g := fun s => chargenetref10_Rules_Fits_p63 i_31 (fun i_31 => chargenetref10_Rules_Fits_l61 F a0_rules a1_l n_61 i_31) = some r) ?_ ?_
        rotate_left
        · refine SCode.block ?_
          refine SCode.seq ?_
          refine SCode.region (show SOps _ _ _ [0] _ _ from ?_)
          refine SOps.q rfl (.plain rfl) rfl (q_assign rfl rfl) ?_
          refine SOps.sub (st' := ⟨[(0, .c (.vec a0_rules.length 2 (gL cSRule dSRule a0_rules))), (1, .c (vI a1_l)), (5, .c (.int .i64 i_31)), (6, .c (.int .i64 0))], []⟩) (sub_gen [] rfl rfl ⟨zc rfl rfl, zc rfl rfl, zc rfl rfl, zc rfl rfl, trivial⟩ trivial) ?_
          refine SOps.nil ?_
          refine SCode.join (σ := Int) (S := fun s => ⟨[(0, .c (.vec a0_rules.length 2 (gL cSRule dSRule a0_rules))), (1, .c (vI a1_l)), (5, .c (.int .i64 i_31)), (6, .c (.int .i64 s))], []⟩) (g := fun s => chargenetref10_Rules_Fits_p67 a0_rules i_31 (fun i_31 => chargenetref10_Rules_Fits_l61 F a0_rules a1_l n_61 i_31) s = some r) ?_ ?_
          rotate_left
          · refine SCode.seq ?_
            refine SCode.region (show SOps _ _ _ [0] _ _ from ?_)
            refine SOps.q rfl (.plain rfl) rfl (q_assign rfl rfl) ?_
            refine SOps.sub (st' := ⟨[(0, .c (.vec a0_rules.length 2 (gL cSRule dSRule a0_rules))), (1, .c (vI a1_l)), (5, .c (.int .i64 i_31)), (6, .c (.int .i64 0)), (7, .c (.int .i64 0))], []⟩) (sub_gen [] rfl rfl ⟨zc rfl rfl, zc rfl rfl, zc rfl rfl, zc rfl rfl, zc rfl rfl, trivial⟩ trivial) ?_
            refine SOps.nil ?_
            refine SCode.block ?_
            refine SCode.sub (st' := ⟨[(0, .c (.vec a0_rules.length 2 (gL cSRule dSRule a0_rules))), (1, .c (vI a1_l)), (5, .c (.int .i64 i_31)), (6, .c (.int .i64 0)), (7, .c (.int .i64 0))], []⟩) (sub_gen [] rfl rfl ⟨zc rfl rfl, zc rfl rfl, zc rfl rfl, zc rfl rfl, zc rfl rfl, trivial⟩ trivial) ?_
            refine (SCode.loop (σ := Nat × (Int × Int)) (S := fun s => ⟨[(0, .c (.vec a0_rules.length 2 (gL cSRule dSRule a0_rules))), (1, .c (vI a1_l)), (5, .c (.int .i64 i_31)), (6, .c (.int .i64 s.2.1)), (7, .c (.int .i64 s.2.2))], []⟩) (g := fun s => chargenetref10_Rules_Fits_l83 a0_rules a1_l i_31 (fun i_31 => chargenetref10_Rules_Fits_l61 F a0_rules a1_l n_61 i_31) s.1 s.2.1 s.2.2 = some r) (μ := fun s => s.1) (F, (0, 0)) h ?_)
            rintro ⟨n_83, ⟨n_74, k_75⟩⟩ h
            replace h : chargenetref10_Rules_Fits_l83 a0_rules a1_l i_31 (fun i_31 => chargenetref10_Rules_Fits_l61 F a0_rules a1_l n_61 i_31) n_83 n_74 k_75 = some r := h
            show SCode _ _ _ ⟨[(0, .c (.vec a0_rules.length 2 (gL cSRule dSRule a0_rules))), (1, .c (vI a1_l)), (5, .c (.int .i64 i_31)), (6, .c (.int .i64 n_74)), (7, .c (.int .i64 k_75))], []⟩ _
            cases n_83 with
            | zero => cases h
            | succ n_83 =>
              replace h : chargenetref10_Rules_Fits_b83 a0_rules a1_l i_31 (fun i_31 => chargenetref10_Rules_Fits_l61 F a0_rules a1_l n_61 i_31) (fun n_74 k_75 => chargenetref10_Rules_Fits_l83 a0_rules a1_l i_31 (fun i_31 => chargenetref10_Rules_Fits_l61 F a0_rules a1_l n_61 i_31) n_83 n_74 k_75) n_74 k_75 = some r := h
              unfold chargenetref10_Rules_Fits_b83 at h
              refine SCode.seq ?_
              refine SCode.seq ?_
              refine SCode.region (show SOps _ _ _ [0, 1, 2, 3] _ _ from ?_)
              refine SOps.q rfl (.plain rfl) rfl (q_move rfl rfl) ?_
              refine SOps.q rfl (.plain rfl) rfl (q_move rfl rfl) ?_
              refine SOps.q rfl (.plain rfl) rfl (q_len_vec rfl rfl sl22) ?_
              refine SOps.q rfl (.plain rfl) rfl (q_lss rfl rfl rfl) ?_
              refine SOps.sub (st' := ⟨[(0, .c (.vec a0_rules.length 2 (gL cSRule dSRule a0_rules))), (1, .c (vI a1_l)), (5, .c (.int .i64 i_31)), (6, .c (.int .i64 n_74)), (7, .c (.int .i64 k_75)), (17, .c (.bool (decide (k_75 < ((a1_l).length : Int)))))], []⟩) (sub_gen [] rfl rfl ⟨zc rfl rfl, zc rfl rfl, zc rfl rfl, zc rfl rfl, zc rfl rfl, zc rfl rfl, trivial⟩ trivial) ?_
              refine SOps.nil ?_
              rcases cond_out h with ⟨g84, h⟩ | ⟨g84, h⟩
              · refine SCode.cond_t rfl g84 ?_
                refine SCode.skip ?_
                refine SCode.join (σ := Int) (S := fun s => ⟨[(0, .c (.vec a0_rules.length 2 (gL cSRule dSRule a0_rules))), (1, .c (vI a1_l)), (5, .c (.int .i64 i_31)), (6, .c (.int .i64 s)), (7, .c (.int .i64 k_75))], []⟩) (g := fun s => chargenetref10_Rules_Fits_p86 k_75 (fun n_74 k_75 => chargenetref10_Rules_Fits_l83 a0_rules a1_l i_31 (fun i_31 => chargenetref10_Rules_Fits_l61 F a0_rules a1_l n_61 i_31) n_83 n_74 k_75) s = some r) ?_ ?_
                rotate_left
                · refine SCode.block ?_
                  refine SCode.seq ?_
                  obtain ⟨g87, h⟩ := guard_out h
                  obtain ⟨g88, h⟩ := guard_out h
                  refine SCode.region (show SOps _ _ _ [0, 1, 2, 3, 4, 5, 6, 7, 8] _ _ from ?_)
                  refine SOps.q rfl (.plain rfl) rfl (q_move rfl rfl) ?_
                  refine SOps.q rfl (.plain rfl) rfl (q_move rfl rfl) ?_
                  refine SOps.q rfl (.plain rfl) rfl (q_index_vec rfl rfl rfl sl31 rfl g87.1 g87.2) ?_
                  refine SOps.q rfl (.plain rfl) rfl (q_field_eptr rfl rfl fd51_0 rfl) ?_
                  refine SOps.q rfl (.plain rfl) rfl (q_load_eptr rfl rfl ty49) ?_
                  refine SOps.q rfl (.plain rfl) rfl (q_move rfl rfl) ?_
                  refine SOps.q rfl (.plain rfl) rfl (q_shr rfl rfl rfl g88) ?_
                  refine SOps.q rfl (.plain rfl) rfl (q_and rfl rfl rfl) ?_
                  refine SOps.q rfl (.plain rfl) rfl (q_eql rfl rfl rfl) ?_
                  refine SOps.sub (st' := ⟨[(0, .c (.vec a0_rules.length 2 (gL cSRule dSRule a0_rules))), (1, .c (vI a1_l)), (5, .c (.int .i64 i_31)), (6, .c (.int .i64 n_74)), (7, .c (.int .i64 k_75)), (28, .c (.bool (decide (iAnd .u64 (((a0_rules.getD i_31.toNat dSRule).Mask / 2 ^ min (k_75 : Int).toNat (IntKind.bits .u64))) 1 = 1))))], []⟩) (sub_gen [] rfl rfl ⟨zc rfl rfl, zc rfl rfl, zc rfl rfl, zc rfl rfl, zc rfl rfl, zc rfl rfl, trivial⟩ trivial) ?_
                  refine SOps.nil ?_
                  rcases cond_out h with ⟨g89, h⟩ | ⟨g89, h⟩
                  · refine SCode.cond_t rfl g89 ?_
                    obtain ⟨g90, h⟩ := guard_out h
                    refine SCode.region (show SOps _ _ _ [0, 1, 2, 3, 4, 5, 6] _ _ from ?_)
                    refine SOps.q rfl (.plain rfl) rfl (q_move rfl rfl) ?_
                    refine SOps.q rfl (.plain rfl) rfl (q_move rfl rfl) ?_
                    refine SOps.q rfl (.plain rfl) rfl (q_move rfl rfl) ?_
                    refine SOps.q rfl (.plain rfl) rfl (q_index_vec rfl rfl rfl sl22 rfl g90.1 g90.2) ?_
                    refine SOps.q rfl (.plain rfl) rfl (q_load_eptr rfl rfl ty3) ?_
                    refine SOps.q rfl (.plain rfl) rfl (q_add rfl rfl rfl) ?_
                    refine SOps.q rfl (.plain rfl) rfl (q_assign rfl rfl) ?_
                    refine SOps.sub (st' := ⟨[(0, .c (.vec a0_rules.length 2 (gL cSRule dSRule a0_rules))), (1, .c (vI a1_l)), (5, .c (.int .i64 i_31)), (6, .c (.int .i64 (IntKind.wrap .i64 (n_74 + a1_l.getD k_75.toNat 0)))), (7, .c (.int .i64 k_75))], []⟩) (sub_gen [] rfl rfl ⟨zc rfl rfl, zc rfl rfl, zc rfl rfl, zc rfl rfl, zc rfl rfl, trivial⟩ trivial) ?_
                    refine SOps.nil ?_
                    exact ⟨IntKind.wrap .i64 (n_74 + a1_l.getD k_75.toNat 0), h, sub_gen [] rfl rfl ⟨zc rfl rfl, zc rfl rfl, zc rfl rfl, zc rfl rfl, zc rfl rfl, trivial⟩ trivial⟩
                  refine SCode.cond_f rfl g89 ?_
                  refine SCode.skip ?_
                  exact ⟨n_74, h, sub_gen [] rfl rfl ⟨zc rfl rfl, zc rfl rfl, zc rfl rfl, zc rfl rfl, zc rfl rfl, trivial⟩ trivial⟩
                rintro n_85 h
                show SCode _ _ _ ⟨[(0, .c (.vec a0_rules.length 2 (gL cSRule dSRule a0_rules))), (1, .c (vI a1_l)), (5, .c (.int .i64 i_31)), (6, .c (.int .i64 n_85)), (7, .c (.int .i64 k_75))], []⟩ _
                replace h : chargenetref10_Rules_Fits_p86 k_75 (fun n_74 k_75 => chargenetref10_Rules_Fits_l83 a0_rules a1_l i_31 (fun i_31 => chargenetref10_Rules_Fits_l61 F a0_rules a1_l n_61 i_31) n_83 n_74 k_75) n_85 = some r := h
                unfold chargenetref10_Rules_Fits_p86 at h
                refine SCode.region (show SOps _ _ _ [0, 1, 2] _ _ from ?_)
                refine SOps.q rfl (.plain rfl) rfl (q_move rfl rfl) ?_
                refine SOps.q rfl (.plain rfl) rfl (q_add rfl rfl rfl) ?_
                refine SOps.q rfl (.plain rfl) rfl (q_assign rfl rfl) ?_
                refine SOps.sub (st' := ⟨[(0, .c (.vec a0_rules.length 2 (gL cSRule dSRule a0_rules))), (1, .c (vI a1_l)), (5, .c (.int .i64 i_31)), (6, .c (.int .i64 n_85)), (7, .c (.int .i64 (IntKind.wrap .i64 (k_75 + 1))))], []⟩) (sub_gen [] rfl rfl ⟨zc rfl rfl, zc rfl rfl, zc rfl rfl, zc rfl rfl, zc rfl rfl, trivial⟩ trivial) ?_
                refine SOps.nil ?_
                exact ⟨(n_83, (n_85, IntKind.wrap .i64 (k_75 + 1))), h, Nat.lt_succ_self n_83, sub_gen [] rfl rfl ⟨zc rfl rfl, zc rfl rfl, zc rfl rfl, zc rfl rfl, zc rfl rfl, trivial⟩ trivial⟩
              refine SCode.cond_f rfl g84 ?_
              refine SCode.exit ?_
              exact ⟨n_74, h, sub_gen [] rfl rfl ⟨zc rfl rfl, zc rfl rfl, zc rfl rfl, zc rfl rfl, trivial⟩ trivial⟩
          rintro n_64 h
          show SCode _ _ _ ⟨[(0, .c (.vec a0_rules.length 2 (gL cSRule dSRule a0_rules))), (1, .c (vI a1_l)), (5, .c (.int .i64 i_31)), (6, .c (.int .i64 n_64))], []⟩ _
          replace h : chargenetref10_Rules_Fits_p67 a0_rules i_31 (fun i_31 => chargenetref10_Rules_Fits_l61 F a0_rules a1_l n_61 i_31) n_64 = some r := h
          unfold chargenetref10_Rules_Fits_p67 at h
          refine SCode.seq ?_
          obtain ⟨g65, h⟩ := guard_out h
          refine SCode.region (show SOps _ _ _ [0, 1, 2, 3, 4, 5, 6] _ _ from ?_)
          refine SOps.q rfl (.plain rfl) rfl (q_move rfl rfl) ?_
          refine SOps.q rfl (.plain rfl) rfl (q_move rfl rfl) ?_
          refine SOps.q rfl (.plain rfl) rfl (q_move rfl rfl) ?_
          refine SOps.q rfl (.plain rfl) rfl (q_index_vec rfl rfl rfl sl31 rfl g65.1 g65.2) ?_
          refine SOps.q rfl (.plain rfl) rfl (q_field_eptr rfl rfl fd51_1 rfl) ?_
          refine SOps.q rfl (.plain rfl) rfl (q_load_eptr rfl rfl ty3) ?_
          refine SOps.q rfl (.plain rfl) rfl (q_gtr rfl rfl rfl) ?_
          refine SOps.sub (st' := ⟨[(0, .c (.vec a0_rules.length 2 (gL cSRule dSRule a0_rules))), (1, .c (vI a1_l)), (5, .c (.int .i64 i_31)), (41, .c (.bool (decide ((a0_rules.getD i_31.toNat dSRule).Most < n_64))))], []⟩) (sub_gen [] rfl rfl ⟨zc rfl rfl, zc rfl rfl, zc rfl rfl, zc rfl rfl, trivial⟩ trivial) ?_
          refine SOps.nil ?_
          rcases cond_out h with ⟨g66, h⟩ | ⟨g66, h⟩
          · refine SCode.cond_t rfl g66 ?_
            refine SCode.seq ?_
            refine SCode.region (show SOps _ _ _ [0] _ _ from ?_)
            refine SOps.q rfl (.plain rfl) rfl (q_assign rfl rfl) ?_
            refine SOps.sub (st' := ⟨[(4, .c (.bool false))], []⟩) (sub_gen [] rfl rfl ⟨zc rfl rfl, trivial⟩ trivial) ?_
            refine SOps.nil ?_
            refine SCode.ret ?_
            obtain rfl := Option.some.inj h
            exact ⟨⟨[(4, .c (.bool false))], []⟩, _, sub_gen [] rfl rfl ⟨zc rfl rfl, trivial⟩ trivial, resA1 (v := .c (.bool false)) rfl rfl, rfl⟩
          refine SCode.cond_f rfl g66 ?_
          refine SCode.skip ?_
          exact ⟨(), h, sub_gen [] rfl rfl ⟨zc rfl rfl, zc rfl rfl, zc rfl rfl, trivial⟩ trivial⟩
        rintro ⟨⟩ h
        show SCode _ _ _ ⟨[(0, .c (.vec a0_rules.length 2 (gL cSRule dSRule a0_rules))), (1, .c (vI a1_l)), (5, .c (.int .i64 i_31))], []⟩ _
        replace h : chargenetref10_Rules_Fits_p63 i_31 (fun i_31 => chargenetref10_Rules_Fits_l61 F a0_rules a1_l n_61 i_31) = some r := h
        unfold chargenetref10_Rules_Fits_p63 at h
        refine SCode.region (show SOps _ _ _ [0, 1, 2] _ _ from ?_)
        refine SOps.q rfl (.plain rfl) rfl (q_move rfl rfl) ?_
        refine SOps.q rfl (.plain rfl) rfl (q_add rfl rfl rfl) ?_
        refine SOps.q rfl (.plain rfl) rfl (q_assign rfl rfl) ?_
        refine SOps.sub (st' := ⟨[(0, .c (.vec a0_rules.length 2 (gL cSRule dSRule a0_rules))), (1, .c (vI a1_l)), (5, .c (.int .i64 (IntKind.wrap .i64 (i_31 + 1))))], []⟩) (sub_gen [] rfl rfl ⟨zc rfl rfl, zc rfl rfl, zc rfl rfl, trivial⟩ trivial) ?_
        refine SOps.nil ?_
        exact ⟨(n_61, IntKind.wrap .i64 (i_31 + 1)), h, Nat.lt_succ_self n_61, sub_gen [] rfl rfl ⟨zc rfl rfl, zc rfl rfl, zc rfl rfl, trivial⟩ trivial⟩
      refine SCode.cond_f rfl g62 ?_
      refine SCode.exit ?_
      exact ⟨(), h, sub_gen [] rfl rfl trivial trivial⟩
  rintro ⟨⟩ h
  show SCode _ _ _ ⟨[], []⟩ _
  replace h : chargenetref10_Rules_Fits_p1 = some r := h
  unfold chargenetref10_Rules_Fits_p1 at h
  refine SCode.seq ?_
  refine SCode.region (show SOps _ _ _ [0] _ _ from ?_)
  refine SOps.q rfl (.plain rfl) rfl (q_assign rfl rfl) ?_
  refine SOps.sub (st' := ⟨[(4, .c (.bool true))], []⟩) (sub_gen [] rfl rfl ⟨zc rfl rfl, trivial⟩ trivial) ?_
  refine SOps.nil ?_
  refine SCode.ret ?_
  obtain rfl := Option.some.inj h
  exact ⟨⟨[(4, .c (.bool true))], []⟩, _, sub_gen [] rfl rfl ⟨zc rfl rfl, trivial⟩ trivial, resA1 (v := .c (.bool true)) rfl rfl, rfl⟩
set_option maxRecDepth 100000 in
set_option maxHeartbeats 8000000 in
theorem fair_division_raise_f0_p1000017_ok (F : Nat) (a0_v_caps : List Int) (a0f0 : List SRule) (a0_v_x : List Int) (a0_v_active : List Bool) (a0_v_trial : List Int) (a1_d : Int) (r : List Int) (h : fair_division_raise_f0_p1000017 F a0_v_caps a0f0 a0_v_x a0_v_active a0_v_trial a1_d = some r) :
    SFun Try.prog 40 [.box [vI a0_v_caps, .fn 1000017 1 (cellsG [.vec a0f0.length 2 (gL cSRule dSRule a0f0)]), .own 1 a0_v_x.length, .own 2 a0_v_active.length, .own 3 a0_v_trial.length], aI 3 a0_v_x, aB 4 a0_v_active, aI 3 a0_v_trial] [.c (.ptr 0 0), .c (.int .i64 a1_d)] (fun x os => x = .t [] ∧ os = [.box [vI a0_v_caps, .fn 1000017 1 (cellsG [.vec a0f0.length 2 (gL cSRule dSRule a0f0)]), .own 1 a0_v_x.length, .own 2 a0_v_active.length, .own 3 r.length], aI 3 a0_v_x, aB 4 a0_v_active, aI 3 r]) := by
  refine SFun.of (n := 43) Try.func40 rfl rfl rfl ?_
  unfold fair_division_raise_f0_p1000017 at h
  show SCode _ _ _ ⟨[(0, .c (.ptr 0 0)), (1, .c (.int .i64 a1_d))], [.box [vI a0_v_caps, .fn 1000017 1 (cellsG [.vec a0f0.length 2 (gL cSRule dSRule a0f0)]), .own 1 a0_v_x.length, .own 2 a0_v_active.length, .own 3 a0_v_trial.length], aI 3 a0_v_x, aB 4 a0_v_active, aI 3 a0_v_trial]⟩ _
  refine SCode.seq ?_
  refine SCode.region (show SOps _ _ _ [0, 1, 2, 3, 4, 5] _ _ from ?_)
  refine SOps.q rfl (.plain rfl) rfl (q_move rfl rfl) ?_
  refine SOps.q rfl (.plain rfl) rfl (q_nilCheck rfl rfl rfl) ?_
  refine SOps.q rfl (.plain rfl) rfl (q_field_ptr rfl rfl fd54_2) ?_
  refine SOps.q rfl (.plain rfl) rfl (q_load_ptr rfl rfl rfl rfl ty22) ?_
  refine SOps.q rfl (.plain rfl) rfl (q_len_own rfl rfl sl22) ?_
  refine SOps.q rfl (.plain rfl) rfl (q_move rfl rfl) ?_
  refine SOps.sub (st' := ⟨[(0, .c (.ptr 0 0)), (1, .c (.int .i64 a1_d)), (9, .c (.own 1 a0_v_x.length)), (10, .c (.int .i64 (((a0_v_x).length : Int)))), (11, .c (.int .i64 0))], [.box [vI a0_v_caps, .fn 1000017 1 (cellsG [.vec a0f0.length 2 (gL cSRule dSRule a0f0)]), .own 1 a0_v_x.length, .own 2 a0_v_active.length, .own 3 a0_v_trial.length], aI 3 a0_v_x, aB 4 a0_v_active, aI 3 a0_v_trial]⟩) (sub_gen [0, 1, 2, 3] rfl rfl ⟨zc rfl rfl, zc rfl rfl, zc rfl rfl, zc rfl rfl, zc rfl rfl, trivial⟩ ⟨⟨_, rfl, ⟨ii rfl rfl, ii rfl rfl, ii rfl rfl, ii rfl rfl, ii rfl rfl, trivial⟩⟩, oa rfl, oa rfl, oa rfl, trivial⟩) ?_
  refine SOps.nil ?_
  refine SCode.block ?_
  refine SCode.sub (st' := ⟨[(0, .c (.ptr 0 0)), (1, .c (.int .i64 a1_d)), (9, .c (.own 1 a0_v_x.length)), (10, .c (.int .i64 (((a0_v_x).length : Int)))), (11, .c (.int .i64 0))], [.box [vI a0_v_caps, .fn 1000017 1 (cellsG [.vec a0f0.length 2 (gL cSRule dSRule a0f0)]), .own 1 a0_v_x.length, .own 2 a0_v_active.length, .own 3 a0_v_trial.length], aI 3 a0_v_x, aB 4 a0_v_active, aI 3 a0_v_trial]⟩) (sub_gen [0, 1, 2, 3] rfl rfl ⟨zc rfl rfl, zc rfl rfl, zc rfl rfl, zc rfl rfl, zc rfl rfl, trivial⟩ ⟨⟨_, rfl, ⟨ii rfl rfl, ii rfl rfl, ii rfl rfl, ii rfl rfl, ii rfl rfl, trivial⟩⟩, oa rfl, oa rfl, oa rfl, trivial⟩) ?_
  refine (SCode.loop (σ := Nat × (Int × (List Int))) (S := fun s => ⟨[(0, .c (.ptr 0 0)), (1, .c (.int .i64 a1_d)), (9, .c (.own 1 a0_v_x.length)), (10, .c (.int .i64 (((a0_v_x).length : Int)))), (11, .c (.int .i64 s.2.1))], [.box [vI a0_v_caps, .fn 1000017 1 (cellsG [.vec a0f0.length 2 (gL cSRule dSRule a0f0)]), .own 1 a0_v_x.length, .own 2 a0_v_active.length, .own 3 s.2.2.length], aI 3 a0_v_x, aB 4 a0_v_active, aI 3 s.2.2]⟩) (g := fun s => fair_division_raise_f0_p1000017_l23 F a0_v_caps a0_v_x a0_v_active a1_d s.1 s.2.1 s.2.2 = some r) (μ := fun s => s.1) (F, (0, a0_v_trial)) h ?_)
  rintro ⟨n_23, ⟨t11_11, o3_12⟩⟩ h
  replace h : fair_division_raise_f0_p1000017_l23 F a0_v_caps a0_v_x a0_v_active a1_d n_23 t11_11 o3_12 = some r := h
  show SCode _ _ _ ⟨[(0, .c (.ptr 0 0)), (1, .c (.int .i64 a1_d)), (9, .c (.own 1 a0_v_x.length)), (10, .c (.int .i64 (((a0_v_x).length : Int)))), (11, .c (.int .i64 t11_11))], [.box [vI a0_v_caps, .fn 1000017 1 (cellsG [.vec a0f0.length 2 (gL cSRule dSRule a0f0)]), .own 1 a0_v_x.length, .own 2 a0_v_active.length, .own 3 o3_12.length], aI 3 a0_v_x, aB 4 a0_v_active, aI 3 o3_12]⟩ _
  cases n_23 with
  | zero => cases h
  | succ n_23 =>
    replace h : fair_division_raise_f0_p1000017_b23 F a0_v_caps a0_v_x a0_v_active a1_d (fun t11_11 o3_12 => fair_division_raise_f0_p1000017_l23 F a0_v_caps a0_v_x a0_v_active a1_d n_23 t11_11 o3_12) t11_11 o3_12 = some r := h
    unfold fair_division_raise_f0_p1000017_b23 at h
    refine SCode.seq ?_
    refine SCode.region (show SOps _ _ _ [0] _ _ from ?_)
    refine SOps.q rfl (.plain rfl) rfl (q_lss rfl rfl rfl) ?_
    refine SOps.sub (st' := ⟨[(0, .c (.ptr 0 0)), (1, .c (.int .i64 a1_d)), (9, .c (.own 1 a0_v_x.length)), (10, .c (.int .i64 (((a0_v_x).length : Int)))), (11, .c (.int .i64 t11_11)), (12, .c (.bool (decide (t11_11 < ((a0_v_x).length : Int)))))], [.box [vI a0_v_caps, .fn 1000017 1 (cellsG [.vec a0f0.length 2 (gL cSRule dSRule a0f0)]), .own 1 a0_v_x.length, .own 2 a0_v_active.length, .own 3 o3_12.length], aI 3 a0_v_x, aB 4 a0_v_active, aI 3 o3_12]⟩) (sub_gen [0, 1, 2, 3] rfl rfl ⟨zc rfl rfl, zc rfl rfl, zc rfl rfl, zc rfl rfl, zc rfl rfl, zc rfl rfl, trivial⟩ ⟨⟨_, rfl, ⟨ii rfl rfl, ii rfl rfl, ii rfl rfl, ii rfl rfl, ii rfl rfl, trivial⟩⟩, oa rfl, oa rfl, oa rfl, trivial⟩) ?_
    refine SOps.nil ?_
    refine SCode.seq ?_
    rcases cond_out h with ⟨g24, h⟩ | ⟨g24, h⟩
    · refine SCode.cond_t rfl g24 ?_
      refine SCode.skip ?_
      refine SCode.seq ?_
      refine SCode.block ?_
      refine SCode.seq ?_
      obtain ⟨g25, h⟩ := guard_out h
      refine SCode.region (show SOps _ _ _ [0, 1, 2, 3, 4] _ _ from ?_)
      refine SOps.q rfl (.plain rfl) rfl (q_move rfl rfl) ?_
      refine SOps.q rfl (.plain rfl) rfl (q_index_own rfl rfl rfl sl22 g25.1 g25.2) ?_
      refine SOps.q rfl (.plain rfl) rfl (q_load_aptr rfl rfl rfl (toNat_lt g25) rfl ty3) ?_
      refine SOps.q rfl (.plain rfl) rfl (q_assign rfl rfl) ?_
      refine SOps.q rfl (.plain rfl) rfl (q_assign rfl rfl) ?_
      refine SOps.sub (st' := ⟨[(0, .c (.ptr 0 0)), (1, .c (.int .i64 a1_d)), (4, .c (.int .i64 t11_11)), (5, .c (.int .i64 (a0_v_x.getD t11_11.toNat 0))), (9, .c (.own 1 a0_v_x.length)), (10, .c (.int .i64 (((a0_v_x).length : Int)))), (11, .c (.int .i64 t11_11))], [.box [vI a0_v_caps, .fn 1000017 1 (cellsG [.vec a0f0.length 2 (gL cSRule dSRule a0f0)]), .own 1 a0_v_x.length, .own 2 a0_v_active.length, .own 3 o3_12.length], aI 3 a0_v_x, aB 4 a0_v_active, aI 3 o3_12]⟩) (sub_gen [0, 1, 2, 3] rfl rfl ⟨zc rfl rfl, zc rfl rfl, zc rfl rfl, zc rfl rfl, zc rfl rfl, zc rfl rfl, zc rfl rfl, trivial⟩ ⟨⟨_, rfl, ⟨ii rfl rfl, ii rfl rfl, ii rfl rfl, ii rfl rfl, ii rfl rfl, trivial⟩⟩, oa rfl, oa rfl, oa rfl, trivial⟩) ?_
      refine SOps.nil ?_
      refine SCode.join (σ := Int) (S := fun s => ⟨[(0, .c (.ptr 0 0)), (1, .c (.int .i64 a1_d)), (4, .c (.int .i64 t11_11)), (5, .c (.int .i64 s)), (9, .c (.own 1 a0_v_x.length)), (10, .c (.int .i64 (((a0_v_x).length : Int)))), (11, .c (.int .i64 t11_11))], [.box [vI a0_v_caps, .fn 1000017 1 (cellsG [.vec a0f0.length 2 (gL cSRule dSRule a0f0)]), .own 1 a0_v_x.length, .own 2 a0_v_active.length, .own 3 o3_12.length], aI 3 a0_v_x, aB 4 a0_v_active, aI 3 o3_12]⟩) (g := fun s => fair_division_raise_f0_p1000017_p28 t11_11 o3_12 (fun t11_11 o3_12 => fair_division_raise_f0_p1000017_l23 F a0_v_caps a0_v_x a0_v_active a1_d n_23 t11_11 o3_12) s = some r) ?_ ?_
      rotate_left
      · refine SCode.seq ?_
        obtain ⟨g29, h⟩ := guard_out h
        refine SCode.region (show SOps _ _ _ [0, 1, 2, 3, 4, 5, 6] _ _ from ?_)
        refine SOps.q rfl (.plain rfl) rfl (q_move rfl rfl) ?_
        refine SOps.q rfl (.plain rfl) rfl (q_nilCheck rfl rfl rfl) ?_
        refine SOps.q rfl (.plain rfl) rfl (q_field_ptr rfl rfl fd54_3) ?_
        refine SOps.q rfl (.plain rfl) rfl (q_load_ptr rfl rfl rfl rfl ty52) ?_
        refine SOps.q rfl (.plain rfl) rfl (q_move rfl rfl) ?_
        refine SOps.q rfl (.plain rfl) rfl (q_index_own rfl rfl rfl sl52 g29.1 g29.2) ?_
        refine SOps.q rfl (.plain rfl) rfl (q_load_aptr rfl rfl rfl (toNat_lt g29) rfl ty4) ?_
        refine SOps.sub (st' := ⟨[(0, .c (.ptr 0 0)), (1, .c (.int .i64 a1_d)), (4, .c (.int .i64 t11_11)), (5, .c (.int .i64 (a0_v_x.getD t11_11.toNat 0))), (9, .c (.own 1 a0_v_x.length)), (10, .c (.int .i64 (((a0_v_x).length : Int)))), (11, .c (.int .i64 t11_11)), (22, .c (.bool (a0_v_active.getD t11_11.toNat false)))], [.box [vI a0_v_caps, .fn 1000017 1 (cellsG [.vec a0f0.length 2 (gL cSRule dSRule a0f0)]), .own 1 a0_v_x.length, .own 2 a0_v_active.length, .own 3 o3_12.length], aI 3 a0_v_x, aB 4 a0_v_active, aI 3 o3_12]⟩) (sub_gen [0, 1, 2, 3] rfl rfl ⟨zc rfl rfl, zc rfl rfl, zc rfl rfl, zc rfl rfl, zc rfl rfl, zc rfl rfl, zc rfl rfl, zc rfl rfl, trivial⟩ ⟨⟨_, rfl, ⟨ii rfl rfl, ii rfl rfl, ii rfl rfl, ii rfl rfl, ii rfl rfl, trivial⟩⟩, oa rfl, oa rfl, oa rfl, trivial⟩) ?_
        refine SOps.nil ?_
        rcases cond_out h with ⟨g30, h⟩ | ⟨g30, h⟩
        · refine SCode.cond_t rfl g30 ?_
          obtain ⟨g31, h⟩ := guard_out h
          obtain ⟨c_32, g33, h⟩ := bind_out h
          try dsimp only at h
          refine SCode.region (show SOps _ _ _ [0, 1, 2, 3, 4, 5, 6, 7, 8, 9, 10, 11, 12] _ _ from ?_)
          refine SOps.q rfl (.plain rfl) rfl (q_move rfl rfl) ?_
          refine SOps.q rfl (.plain rfl) rfl (q_move rfl rfl) ?_
          refine SOps.q rfl (.plain rfl) rfl (q_add rfl rfl rfl) ?_
          refine SOps.q rfl (.plain rfl) rfl (q_move rfl rfl) ?_
          refine SOps.q rfl (.plain rfl) rfl (q_nilCheck rfl rfl rfl) ?_
          refine SOps.q rfl (.plain rfl) rfl (q_field_ptr rfl rfl fd54_0) ?_
          refine SOps.q rfl (.plain rfl) rfl (q_load_ptr rfl rfl rfl rfl ty22) ?_
          refine SOps.q rfl (.plain rfl) rfl (q_move rfl rfl) ?_
          refine SOps.q rfl (.plain rfl) rfl (q_index_vec rfl rfl rfl sl22 rfl g31.1 g31.2) ?_
          refine SOps.q rfl (.plain rfl) rfl (q_load_eptr rfl rfl ty3) ?_
          refine SOps.q rfl (.plain rfl) rfl (q_bsliceL (c := (cInt .i64)) (d0 := 0) [a0_v_caps.getD t11_11.toNat 0] rfl rfl sl22 z3 rfl rfl rfl rfl rfl rfl rfl) ?_
          refine SOps.q rfl (.plain rfl) rfl (q_call (fair_least_int_ok F (IntKind.wrap .i64 (a0_v_x.getD t11_11.toNat 0 + a1_d)) ([a0_v_caps.getD t11_11.toNat 0]) c_32 g33) [] rfl fn24 ⟨⟨_, rfl, .inl ⟨rfl, rfl⟩⟩, ⟨_, rfl, .inl ⟨rfl, rfl⟩⟩, trivial⟩ (.inl rfl)) ?_
          refine SOps.q rfl (.plain rfl) rfl (q_assign rfl rfl) ?_
          refine SOps.sub (st' := ⟨[(0, .c (.ptr 0 0)), (1, .c (.int .i64 a1_d)), (4, .c (.int .i64 t11_11)), (5, .c (.int .i64 c_32)), (9, .c (.own 1 a0_v_x.length)), (10, .c (.int .i64 (((a0_v_x).length : Int)))), (11, .c (.int .i64 t11_11))], [.box [vI a0_v_caps, .fn 1000017 1 (cellsG [.vec a0f0.length 2 (gL cSRule dSRule a0f0)]), .own 1 a0_v_x.length, .own 2 a0_v_active.length, .own 3 o3_12.length], aI 3 a0_v_x, aB 4 a0_v_active, aI 3 o3_12]⟩) (sub_gen [0, 1, 2, 3] rfl rfl ⟨zc rfl rfl, zc rfl rfl, zc rfl rfl, zc rfl rfl, zc rfl rfl, zc rfl rfl, zc rfl rfl, trivial⟩ ⟨⟨_, rfl, ⟨ii rfl rfl, ii rfl rfl, ii rfl rfl, ii rfl rfl, ii rfl rfl, trivial⟩⟩, oa rfl, oa rfl, oa rfl, trivial⟩) ?_
          refine SOps.nil ?_
          exact ⟨c_32, h, sub_gen [0, 1, 2, 3] rfl rfl ⟨zc rfl rfl, zc rfl rfl, zc rfl rfl, zc rfl rfl, zc rfl rfl, zc rfl rfl, zc rfl rfl, trivial⟩ ⟨⟨_, rfl, ⟨ii rfl rfl, ii rfl rfl, ii rfl rfl, ii rfl rfl, ii rfl rfl, trivial⟩⟩, oa rfl, oa rfl, oa rfl, trivial⟩⟩
        refine SCode.cond_f rfl g30 ?_
        refine SCode.skip ?_
        exact ⟨a0_v_x.getD t11_11.toNat 0, h, sub_gen [0, 1, 2, 3] rfl rfl ⟨zc rfl rfl, zc rfl rfl, zc rfl rfl, zc rfl rfl, zc rfl rfl, zc rfl rfl, zc rfl rfl, trivial⟩ ⟨⟨_, rfl, ⟨ii rfl rfl, ii rfl rfl, ii rfl rfl, ii rfl rfl, ii rfl rfl, trivial⟩⟩, oa rfl, oa rfl, oa rfl, trivial⟩⟩
      rintro n_26 h
      show SCode _ _ _ ⟨[(0, .c (.ptr 0 0)), (1, .c (.int .i64 a1_d)), (4, .c (.int .i64 t11_11)), (5, .c (.int .i64 n_26)), (9, .c (.own 1 a0_v_x.length)), (10, .c (.int .i64 (((a0_v_x).length : Int)))), (11, .c (.int .i64 t11_11))], [.box [vI a0_v_caps, .fn 1000017 1 (cellsG [.vec a0f0.length 2 (gL cSRule dSRule a0f0)]), .own 1 a0_v_x.length, .own 2 a0_v_active.length, .own 3 o3_12.length], aI 3 a0_v_x, aB 4 a0_v_active, aI 3 o3_12]⟩ _
      replace h : fair_division_raise_f0_p1000017_p28 t11_11 o3_12 (fun t11_11 o3_12 => fair_division_raise_f0_p1000017_l23 F a0_v_caps a0_v_x a0_v_active a1_d n_23 t11_11 o3_12) n_26 = some r := h
      unfold fair_division_raise_f0_p1000017_p28 at h
      obtain ⟨g27, h⟩ := guard_out h
      refine SCode.region (show SOps _ _ _ [0, 1, 2, 3, 4, 5, 6, 7] _ _ from ?_)
      refine SOps.q rfl (.plain rfl) rfl (q_move rfl rfl) ?_
      refine SOps.q rfl (.plain rfl) rfl (q_nilCheck rfl rfl rfl) ?_
      refine SOps.q rfl (.plain rfl) rfl (q_field_ptr rfl rfl fd54_4) ?_
      refine SOps.q rfl (.plain rfl) rfl (q_load_ptr rfl rfl rfl rfl ty22) ?_
      refine SOps.q rfl (.plain rfl) rfl (q_move rfl rfl) ?_
      refine SOps.q rfl (.plain rfl) rfl (q_move rfl rfl) ?_
      refine SOps.q rfl (.plain rfl) rfl (q_index_own rfl rfl rfl sl22 g27.1 g27.2) ?_
      refine SOps.e rfl (.plain rfl) (e_storeL n_26 rfl rfl rfl rfl rfl (toNat_lt g27) ty3 rfl rfl rfl rfl rfl rfl) ?_
      refine SOps.sub (st' := ⟨[(0, .c (.ptr 0 0)), (1, .c (.int .i64 a1_d)), (9, .c (.own 1 a0_v_x.length)), (10, .c (.int .i64 (((a0_v_x).length : Int)))), (11, .c (.int .i64 t11_11))], [.box [vI a0_v_caps, .fn 1000017 1 (cellsG [.vec a0f0.length 2 (gL cSRule dSRule a0f0)]), .own 1 a0_v_x.length, .own 2 a0_v_active.length, .own 3 (o3_12.set t11_11.toNat n_26).length], aI 3 a0_v_x, aB 4 a0_v_active, aI 3 (o3_12.set t11_11.toNat n_26)]⟩) (sub_gen [0, 1, 2, 3] rfl rfl ⟨zc rfl rfl, zc rfl rfl, zc rfl rfl, zc rfl rfl, zc rfl rfl, trivial⟩ ⟨⟨_, rfl, ⟨ii rfl rfl, ii rfl rfl, ii rfl rfl, ii rfl rfl, .inl ⟨rfl, congrArg (Cell.own 3) (List.length_set : (o3_12.set t11_11.toNat n_26).length = o3_12.length).symm⟩, trivial⟩⟩, oa rfl, oa rfl, oa rfl, trivial⟩) ?_
      refine SOps.nil ?_
      refine SCode.region (show SOps _ _ _ [0, 1] _ _ from ?_)
      refine SOps.q rfl (.plain rfl) rfl (q_add rfl rfl rfl) ?_
      refine SOps.q rfl (.plain rfl) rfl (q_move rfl rfl) ?_
      refine SOps.sub (st' := ⟨[(0, .c (.ptr 0 0)), (1, .c (.int .i64 a1_d)), (9, .c (.own 1 a0_v_x.length)), (10, .c (.int .i64 (((a0_v_x).length : Int)))), (11, .c (.int .i64 (IntKind.wrap .i64 (t11_11 + 1))))], [.box [vI a0_v_caps, .fn 1000017 1 (cellsG [.vec a0f0.length 2 (gL cSRule dSRule a0f0)]), .own 1 a0_v_x.length, .own 2 a0_v_active.length, .own 3 (o3_12.set t11_11.toNat n_26).length], aI 3 a0_v_x, aB 4 a0_v_active, aI 3 (o3_12.set t11_11.toNat n_26)]⟩) (sub_gen [0, 1, 2, 3] rfl rfl ⟨zc rfl rfl, zc rfl rfl, zc rfl rfl, zc rfl rfl, zc rfl rfl, trivial⟩ ⟨⟨_, rfl, ⟨ii rfl rfl, ii rfl rfl, ii rfl rfl, ii rfl rfl, ii rfl rfl, trivial⟩⟩, oa rfl, oa rfl, oa rfl, trivial⟩) ?_
      refine SOps.nil ?_
      exact ⟨(n_23, (IntKind.wrap .i64 (t11_11 + 1), o3_12.set t11_11.toNat n_26)), h, Nat.lt_succ_self n_23, sub_gen [0, 1, 2, 3] rfl rfl ⟨zc rfl rfl, zc rfl rfl, zc rfl rfl, zc rfl rfl, zc rfl rfl, trivial⟩ ⟨⟨_, rfl, ⟨ii rfl rfl, ii rfl rfl, ii rfl rfl, ii rfl rfl, ii rfl rfl, trivial⟩⟩, oa rfl, oa rfl, oa rfl, trivial⟩⟩
    refine SCode.cond_f rfl g24 ?_
    refine SCode.exit ?_
    obtain rfl := Option.some.inj h
    exact ⟨⟨[], [.box [vI a0_v_caps, .fn 1000017 1 (cellsG [.vec a0f0.length 2 (gL cSRule dSRule a0f0)]), .own 1 a0_v_x.length, .own 2 a0_v_active.length, .own 3 o3_12.length], aI 3 a0_v_x, aB 4 a0_v_active, aI 3 o3_12]⟩, _, sub_gen [0, 1, 2, 3] rfl rfl trivial ⟨⟨_, rfl, ⟨ii rfl rfl, ii rfl rfl, ii rfl rfl, ii rfl rfl, ii rfl rfl, trivial⟩⟩, oa rfl, oa rfl, oa rfl, trivial⟩, resA0 rfl, ⟨rfl, rfl⟩⟩
set_option maxRecDepth 100000 in
set_option maxHeartbeats 8000000 in
theorem fair_division_raisable_f0_p1000017_ok (F : Nat) (a0_v_caps : List Int) (a0f0 : List SRule) (a0_v_x : List Int) (a0_v_active : List Bool) (a0_v_trial : List Int) (a1_d : Int) (r : Bool × (List Int)) (h : fair_division_raisable_f0_p1000017 F a0_v_caps a0f0 a0_v_x a0_v_active a0_v_trial a1_d = some r) :
    SFun Try.prog 39 [.box [vI a0_v_caps, .fn 1000017 1 (cellsG [.vec a0f0.length 2 (gL cSRule dSRule a0f0)]), .own 1 a0_v_x.length, .own 2 a0_v_active.length, .own 3 a0_v_trial.length], aI 3 a0_v_x, aB 4 a0_v_active, aI 3 a0_v_trial] [.c (.ptr 0 0), .c (.int .i64 a1_d)] (fun x os => x = .c (.bool r.1) ∧ os = [.box [vI a0_v_caps, .fn 1000017 1 (cellsG [.vec a0f0.length 2 (gL cSRule dSRule a0f0)]), .own 1 a0_v_x.length, .own 2 a0_v_active.length, .own 3 r.2.length], aI 3 a0_v_x, aB 4 a0_v_active, aI 3 r.2]) := by
  refine SFun.of (n := 17) Try.func39 rfl rfl rfl ?_
  unfold fair_division_raisable_f0_p1000017 at h
  show SCode _ _ _ ⟨[(0, .c (.ptr 0 0)), (1, .c (.int .i64 a1_d))], [.box [vI a0_v_caps, .fn 1000017 1 (cellsG [.vec a0f0.length 2 (gL cSRule dSRule a0f0)]), .own 1 a0_v_x.length, .own 2 a0_v_active.length, .own 3 a0_v_trial.length], aI 3 a0_v_x, aB 4 a0_v_active, aI 3 a0_v_trial]⟩ _
  refine SCode.seq ?_
  refine SCode.region (show SOps _ _ _ [0] _ _ from ?_)
  refine SOps.q rfl (.plain rfl) rfl (q_assign rfl rfl) ?_
  refine SOps.sub (st' := ⟨[(0, .c (.ptr 0 0)), (1, .c (.int .i64 a1_d))], [.box [vI a0_v_caps, .fn 1000017 1 (cellsG [.vec a0f0.length 2 (gL cSRule dSRule a0f0)]), .own 1 a0_v_x.length, .own 2 a0_v_active.length, .own 3 a0_v_trial.length], aI 3 a0_v_x, aB 4 a0_v_active, aI 3 a0_v_trial]⟩) (sub_gen [0, 1, 2, 3] rfl rfl ⟨zc rfl rfl, zc rfl rfl, trivial⟩ ⟨⟨_, rfl, ⟨ii rfl rfl, ii rfl rfl, ii rfl rfl, ii rfl rfl, ii rfl rfl, trivial⟩⟩, oa rfl, oa rfl, oa rfl, trivial⟩) ?_
  refine SOps.nil ?_
  refine SCode.seq ?_
  obtain ⟨c_1, g2, h⟩ := bind_out h
  try dsimp only at h
  refine SCode.region (show SOps _ _ _ [0, 1, 2] _ _ from ?_)
  refine SOps.q rfl (.plain rfl) rfl (q_move rfl rfl) ?_
  refine SOps.q rfl (.plain rfl) rfl (q_move rfl rfl) ?_
  refine SOps.e rfl (.plain rfl) (e_call (fair_division_raise_f0_p1000017_ok F a0_v_caps a0f0 a0_v_x a0_v_active a0_v_trial a1_d c_1 g2) [0, 1, 2, 3] rfl fn40 rfl rfl rfl rfl rfl rfl rfl rfl) ?_
  refine SOps.sub (st' := ⟨[(0, .c (.ptr 0 0))], [.box [vI a0_v_caps, .fn 1000017 1 (cellsG [.vec a0f0.length 2 (gL cSRule dSRule a0f0)]), .own 1 a0_v_x.length, .own 2 a0_v_active.length, .own 3 c_1.length], aI 3 a0_v_x, aB 4 a0_v_active, aI 3 c_1]⟩) (sub_gen [0, 1, 2, 3] rfl rfl ⟨zc rfl rfl, trivial⟩ ⟨⟨_, rfl, ⟨ii rfl rfl, ii rfl rfl, ii rfl rfl, ii rfl rfl, ii rfl rfl, trivial⟩⟩, oa rfl, oa rfl, oa rfl, trivial⟩) ?_
  refine SOps.nil ?_
  refine SCode.seq ?_
  obtain ⟨c_3, g4, h⟩ := bind_out h
  try dsimp only at h
  refine SCode.draw (s' := [(4, .c (.bool c_3)), (16, .c (.bool c_3)), (15, .c (.own 3 c_1.length)), (14, .c (.ptr 0 4)), (13, .c (.ptr 0 0)), (12, .c (.ptr 0 0)), (11, .c (.fn 1000017 1 (cellsG [.vec a0f0.length 2 (gL cSRule dSRule a0f0)]))), (10, .c (.ptr 0 1)), (9, .c (.ptr 0 0)), (8, .c (.ptr 0 0)), (0, .c (.ptr 0 0))]) mixed [[], [0], [0, 1], [0, 1, 2], [], [4], [4, 5], [4, 5, 6], [0, 1, 2, 3, 4, 5, 6, 7], [0, 1, 2, 3, 4, 5, 6, 7, 8]] 10 0 rfl rfl ?_ ?_
  · refine QChain.run rfl (.plain rfl) rfl (q_move rfl rfl) ?_
    refine QChain.run rfl (.plain rfl) rfl (q_nilCheck rfl rfl rfl) ?_
    refine QChain.run rfl (.plain rfl) rfl (q_field_ptr rfl rfl fd54_1) ?_
    refine QChain.run rfl (.plain rfl) rfl (q_load_ptr rfl rfl rfl rfl ty35) ?_
    refine QChain.run rfl (.plain rfl) rfl (q_move rfl rfl) ?_
    refine QChain.run rfl (.plain rfl) rfl (q_nilCheck rfl rfl rfl) ?_
    refine QChain.run rfl (.plain rfl) rfl (q_field_ptr rfl rfl fd54_4) ?_
    refine QChain.run rfl (.plain rfl) rfl (q_load_ptr rfl rfl rfl rfl ty22) ?_
    refine QChain.run rfl (.plain rfl) rfl (q_callb (f := 17) (cs := [.vec a0f0.length 2 (gL cSRule dSRule a0f0)]) (chargenetref10_Rules_Fits_ok F a0f0 c_1 c_3 g4) [3] rfl rfl fn17 ⟨⟨_, rfl, .inl ⟨rfl, rfl⟩⟩, ⟨_, rfl, .inr (.inl ⟨_, _, _, _, _, _, _, rfl, rfl, rfl, Nat.le_refl _, fun _ _ _ _ => rfl, (.head _)⟩)⟩, trivial⟩ (.inr rfl)) ?_
    refine QChain.run rfl (.plain rfl) rfl (q_assign rfl rfl) ?_
    exact QChain.nil _ _
  refine (show SOps _ _ _ [] _ _ from ?_)
  refine SOps.sub (st' := ⟨[(4, .c (.bool c_3))], [.box [vI a0_v_caps, .fn 1000017 1 (cellsG [.vec a0f0.length 2 (gL cSRule dSRule a0f0)]), .own 1 a0_v_x.length, .own 2 a0_v_active.length, .own 3 c_1.length], aI 3 a0_v_x, aB 4 a0_v_active, aI 3 c_1]⟩) (sub_gen [0, 1, 2, 3] rfl rfl ⟨zc rfl rfl, trivial⟩ ⟨⟨_, rfl, ⟨ii rfl rfl, ii rfl rfl, ii rfl rfl, ii rfl rfl, ii rfl rfl, trivial⟩⟩, oa rfl, oa rfl, oa rfl, trivial⟩) ?_
  refine SOps.nil ?_
  refine SCode.ret ?_
  obtain rfl := Option.some.inj h
  exact ⟨⟨[(4, .c (.bool c_3))], [.box [vI a0_v_caps, .fn 1000017 1 (cellsG [.vec a0f0.length 2 (gL cSRule dSRule a0f0)]), .own 1 a0_v_x.length, .own 2 a0_v_active.length, .own 3 c_1.length], aI 3 a0_v_x, aB 4 a0_v_active, aI 3 c_1]⟩, _, sub_gen [0, 1, 2, 3] rfl rfl ⟨zc rfl rfl, trivial⟩ ⟨⟨_, rfl, ⟨ii rfl rfl, ii rfl rfl, ii rfl rfl, ii rfl rfl, ii rfl rfl, trivial⟩⟩, oa rfl, oa rfl, oa rfl, trivial⟩, resA1 (v := .c (.bool c_3)) rfl rfl, ⟨rfl, rfl⟩⟩
end Go.Proofs.Ythpblkclpfmbeaa.W
