/- Written by a program of ours (wip/eng/gen.py): the functions compute their models. -/
import Derived.Test.YthpblkclpfmbeaaFacts
import Derived.Test.YthpblkclpfmbeaaV3x7
namespace Go.Proofs.Ythpblkclpfmbeaa.W
open Go Go.Proofs Go.Proofs.Ythpblkclpfmbeaa.E Go.Proofs.Ythpblkclpfmbeaa.M
set_option linter.unusedVariables false
set_option maxRecDepth 100000 in
set_option maxHeartbeats 8000000 in
theorem chargenetlaw10_exampleHolds_ok (F : Nat)  (r : Bool) (h : chargenetlaw10_exampleHolds F  = some r) :
    SFun Try.prog 9 [] [] (fun x _ => x = .c (.bool r)) := by
  refine SFun.of (n := 79) Try.func9 rfl rfl rfl ?_
  unfold chargenetlaw10_exampleHolds at h
  show SCode _ _ _ ⟨[], []⟩ _
  refine SCode.seq ?_
  refine SCode.region (show SOps _ _ _ [0] _ _ from ?_)
  refine SOps.q rfl (.plain rfl) rfl (q_assign rfl rfl) ?_
  refine SOps.sub (st' := ⟨[], []⟩) (sub_gen [] rfl rfl trivial trivial) ?_
  refine SOps.nil ?_
  refine SCode.seq ?_
  refine SCode.region (show SOps _ _ _ [0, 1] _ _ from ?_)
  refine SOps.q rfl (.plain rfl) rfl (q_bsliceL (c := (cInt .i64)) (d0 := 0) [10, 10, 3] rfl rfl sl22 z3 rfl rfl rfl rfl rfl rfl rfl) ?_
  refine SOps.q rfl (.plain rfl) rfl (q_assign rfl rfl) ?_
  refine SOps.sub (st' := ⟨[(1, .c (.vec ([10, 10, 3]).length 1 (gL (cInt .i64) 0 ([10, 10, 3]))))], []⟩) (sub_gen [] rfl rfl ⟨zc rfl rfl, trivial⟩ trivial) ?_
  refine SOps.nil ?_
  refine SCode.seq ?_
  obtain ⟨c_1, g2, h⟩ := bind_out h
  try dsimp only at h
  obtain ⟨c_3, g4, h⟩ := bind_out h
  try dsimp only at h
  refine SCode.region (show SOps _ _ _ [0, 1, 2, 3, 4, 5, 6, 7] _ _ from ?_)
  refine SOps.q rfl (.plain rfl) rfl (q_move rfl rfl) ?_
  refine SOps.q rfl (.plain rfl) rfl (q_call (chargenetlaw10_sum_ok F 16 c_1 g2) [] rfl fn20 ⟨⟨_, rfl, .inl ⟨rfl, rfl⟩⟩, trivial⟩ (.inl rfl)) ?_
  refine SOps.q rfl (.plain rfl) rfl (q_call (fair_Fill_f1_34_ok F ([10, 10, 3]) c_1 c_3 g4) [] rfl fn19 ⟨⟨_, rfl, .inl ⟨rfl, rfl⟩⟩, ⟨_, rfl, .inl ⟨rfl, rfl⟩⟩, trivial⟩ (.inl rfl)) ?_
  refine SOps.q rfl (.plain rfl) rfl (q_move rfl rfl) ?_
  refine SOps.q rfl (.plain rfl) rfl (q_extract rfl rfl rfl) ?_
  refine SOps.q rfl (.plain rfl) rfl (q_extract rfl rfl rfl) ?_
  refine SOps.q rfl (.plain rfl) rfl (q_assign rfl rfl) ?_
  refine SOps.q rfl (.plain rfl) rfl (q_assign rfl rfl) ?_
  refine SOps.sub (st' := ⟨[(1, .c (.vec ([10, 10, 3]).length 1 (gL (cInt .i64) 0 ([10, 10, 3])))), (2, .c (.vec c_3.1.length 1 (gL (cInt .i64) 0 c_3.1))), (3, .c (.int .i64 c_3.2))], []⟩) (sub_gen [] rfl rfl ⟨zc rfl rfl, zc rfl rfl, zc rfl rfl, trivial⟩ trivial) ?_
  refine SOps.nil ?_
  refine SCode.seq ?_
  obtain ⟨c_5, g6, h⟩ := bind_out h
  try dsimp only at h
  refine SCode.region (show SOps _ _ _ [0, 1, 2, 3, 4, 5, 6] _ _ from ?_)
  refine SOps.q rfl (.plain rfl) rfl (q_move rfl rfl) ?_
  refine SOps.q rfl (.plain rfl) rfl (q_call (fair_Share_ok F 16 ([10, 10, 3]) c_5 g6) [] rfl fn10 ⟨⟨_, rfl, .inl ⟨rfl, rfl⟩⟩, ⟨_, rfl, .inl ⟨rfl, rfl⟩⟩, trivial⟩ (.inl rfl)) ?_
  refine SOps.q rfl (.plain rfl) rfl (q_move rfl rfl) ?_
  refine SOps.q rfl (.plain rfl) rfl (q_extract rfl rfl rfl) ?_
  refine SOps.q rfl (.plain rfl) rfl (q_extract rfl rfl rfl) ?_
  refine SOps.q rfl (.plain rfl) rfl (q_assign rfl rfl) ?_
  refine SOps.q rfl (.plain rfl) rfl (q_assign rfl rfl) ?_
  refine SOps.sub (st' := ⟨[(1, .c (.vec ([10, 10, 3]).length 1 (gL (cInt .i64) 0 ([10, 10, 3])))), (2, .c (.vec c_3.1.length 1 (gL (cInt .i64) 0 c_3.1))), (3, .c (.int .i64 c_3.2)), (4, .c (.vec c_5.1.length 1 (gL (cInt .i64) 0 c_5.1))), (5, .c (.int .i64 c_5.2))], []⟩) (sub_gen [] rfl rfl ⟨zc rfl rfl, zc rfl rfl, zc rfl rfl, zc rfl rfl, zc rfl rfl, trivial⟩ trivial) ?_
  refine SOps.nil ?_
  refine SCode.seq ?_
  obtain ⟨c_7, g8, h⟩ := bind_out h
  try dsimp only at h
  refine SCode.region (show SOps _ _ _ [0, 1, 2, 3, 4, 5, 6] _ _ from ?_)
  refine SOps.q rfl (.plain rfl) rfl (q_move rfl rfl) ?_
  refine SOps.q rfl (.plain rfl) rfl (q_call (fair_Share_ok F 100 ([10, 10, 3]) c_7 g8) [] rfl fn10 ⟨⟨_, rfl, .inl ⟨rfl, rfl⟩⟩, ⟨_, rfl, .inl ⟨rfl, rfl⟩⟩, trivial⟩ (.inl rfl)) ?_
  refine SOps.q rfl (.plain rfl) rfl (q_move rfl rfl) ?_
  refine SOps.q rfl (.plain rfl) rfl (q_extract rfl rfl rfl) ?_
  refine SOps.q rfl (.plain rfl) rfl (q_extract rfl rfl rfl) ?_
  refine SOps.q rfl (.plain rfl) rfl (q_assign rfl rfl) ?_
  refine SOps.q rfl (.plain rfl) rfl (q_assign rfl rfl) ?_
  refine SOps.sub (st' := ⟨[(1, .c (.vec ([10, 10, 3]).length 1 (gL (cInt .i64) 0 ([10, 10, 3])))), (2, .c (.vec c_3.1.length 1 (gL (cInt .i64) 0 c_3.1))), (3, .c (.int .i64 c_3.2)), (4, .c (.vec c_5.1.length 1 (gL (cInt .i64) 0 c_5.1))), (5, .c (.int .i64 c_5.2)), (6, .c (.vec c_7.1.length 1 (gL (cInt .i64) 0 c_7.1)))], []⟩) (sub_gen [] rfl rfl ⟨zc rfl rfl, zc rfl rfl, zc rfl rfl, zc rfl rfl, zc rfl rfl, zc rfl rfl, trivial⟩ trivial) ?_
  refine SOps.nil ?_
  refine SCode.seq ?_
  obtain ⟨c_9, g10, h⟩ := bind_out h
  try dsimp only at h
  refine SCode.region (show SOps _ _ _ [0, 1, 2, 3, 4, 5, 6] _ _ from ?_)
  refine SOps.q rfl (.plain rfl) rfl (q_move rfl rfl) ?_
  refine SOps.q rfl (.plain rfl) rfl (q_call (fair_Fill_f1_nil_ok F ([10, 10, 3]) c_9 g10) [] rfl fn19 ⟨⟨_, rfl, .inl ⟨rfl, rfl⟩⟩, ⟨_, rfl, .inl ⟨rfl, rfl⟩⟩, trivial⟩ (.inl rfl)) ?_
  refine SOps.q rfl (.plain rfl) rfl (q_move rfl rfl) ?_
  refine SOps.q rfl (.plain rfl) rfl (q_extract rfl rfl rfl) ?_
  refine SOps.q rfl (.plain rfl) rfl (q_extract rfl rfl rfl) ?_
  refine SOps.q rfl (.plain rfl) rfl (q_assign rfl rfl) ?_
  refine SOps.q rfl (.plain rfl) rfl (q_assign rfl rfl) ?_
  refine SOps.sub (st' := ⟨[(1, .c (.vec ([10, 10, 3]).length 1 (gL (cInt .i64) 0 ([10, 10, 3])))), (2, .c (.vec c_3.1.length 1 (gL (cInt .i64) 0 c_3.1))), (3, .c (.int .i64 c_3.2)), (4, .c (.vec c_5.1.length 1 (gL (cInt .i64) 0 c_5.1))), (5, .c (.int .i64 c_5.2)), (6, .c (.vec c_7.1.length 1 (gL (cInt .i64) 0 c_7.1))), (9, .c (.int .i64 c_9.2))], []⟩) (sub_gen [] rfl rfl ⟨zc rfl rfl, zc rfl rfl, zc rfl rfl, zc rfl rfl, zc rfl rfl, zc rfl rfl, zc rfl rfl, trivial⟩ trivial) ?_
  refine SOps.nil ?_
  refine SCode.seq ?_
  obtain ⟨c_11, g12, h⟩ := bind_out h
  try dsimp only at h
  refine SCode.region (show SOps _ _ _ [0, 1, 2, 3, 4, 5, 6] _ _ from ?_)
  refine SOps.q rfl (.plain rfl) rfl (q_bsliceL (c := (cInt .i64)) (d0 := 0) [5, 5] rfl rfl sl22 z3 rfl rfl rfl rfl rfl rfl rfl) ?_
  refine SOps.q rfl (.plain rfl) rfl (q_call (fair_Fill_f1_r21_ok F ([5, 5]) c_11 g12) [] rfl fn19 ⟨⟨_, rfl, .inl ⟨rfl, rfl⟩⟩, ⟨_, rfl, .inl ⟨rfl, rfl⟩⟩, trivial⟩ (.inl rfl)) ?_
  refine SOps.q rfl (.plain rfl) rfl (q_move rfl rfl) ?_
  refine SOps.q rfl (.plain rfl) rfl (q_extract rfl rfl rfl) ?_
  refine SOps.q rfl (.plain rfl) rfl (q_extract rfl rfl rfl) ?_
  refine SOps.q rfl (.plain rfl) rfl (q_assign rfl rfl) ?_
  refine SOps.q rfl (.plain rfl) rfl (q_assign rfl rfl) ?_
  refine SOps.sub (st' := ⟨[(1, .c (.vec ([10, 10, 3]).length 1 (gL (cInt .i64) 0 ([10, 10, 3])))), (2, .c (.vec c_3.1.length 1 (gL (cInt .i64) 0 c_3.1))), (3, .c (.int .i64 c_3.2)), (4, .c (.vec c_5.1.length 1 (gL (cInt .i64) 0 c_5.1))), (5, .c (.int .i64 c_5.2)), (6, .c (.vec c_7.1.length 1 (gL (cInt .i64) 0 c_7.1))), (9, .c (.int .i64 c_9.2)), (10, .c (.vec c_11.1.length 1 (gL (cInt .i64) 0 c_11.1))), (11, .c (.int .i64 c_11.2))], []⟩) (sub_gen [] rfl rfl ⟨zc rfl rfl, zc rfl rfl, zc rfl rfl, zc rfl rfl, zc rfl rfl, zc rfl rfl, zc rfl rfl, zc rfl rfl, zc rfl rfl, trivial⟩ trivial) ?_
  refine SOps.nil ?_
  refine SCode.seq ?_
  obtain ⟨c_13, g14, h⟩ := bind_out h
  try dsimp only at h
  rcases cond_out h with ⟨g15, h⟩ | ⟨g15, h⟩
  · rcases cond_out h with ⟨g16, h⟩ | ⟨g16, h⟩
    · obtain ⟨c_17, g18, h⟩ := bind_out h
      try dsimp only at h
      rcases cond_out h with ⟨g19, h⟩ | ⟨g19, h⟩
      · rcases cond_out h with ⟨g20, h⟩ | ⟨g20, h⟩
        · obtain ⟨c_21, g22, h⟩ := bind_out h
          try dsimp only at h
          rcases cond_out h with ⟨g23, h⟩ | ⟨g23, h⟩
          · rcases cond_out h with ⟨g24, h⟩ | ⟨g24, h⟩
            · obtain ⟨c_25, g26, h⟩ := bind_out h
              try dsimp only at h
              rcases cond_out h with ⟨g27, h⟩ | ⟨g27, h⟩
              · rcases cond_out h with ⟨g28, h⟩ | ⟨g28, h⟩
                · obtain ⟨c_29, g30, h⟩ := bind_out h
                  try dsimp only at h
                  refine SCode.region (show SOps _ _ _ [0, 1, 2, 3, 4, 5, 6, 7, 8, 9, 10, 11, 12, 13, 14, 15, 16, 17, 18, 19, 20, 21, 22, 23, 24, 25, 26, 27, 28, 29, 30, 31, 32, 33, 34, 35, 36, 37, 38, 39, 40] _ _ from ?_)
                  refine SOps.q rfl (.plain rfl) rfl (q_move rfl rfl) ?_
                  refine SOps.q rfl (.plain rfl) rfl (q_bsliceL (c := (cInt .i64)) (d0 := 0) [7, 6, 3] rfl rfl sl22 z3 rfl rfl rfl rfl rfl rfl rfl) ?_
                  refine SOps.q rfl (.plain rfl) rfl (q_call (slices_Equal_int_int_ok F c_3.1 ([7, 6, 3]) c_13 g14) [] rfl fn12 ⟨⟨_, rfl, .inl ⟨rfl, rfl⟩⟩, ⟨_, rfl, .inl ⟨rfl, rfl⟩⟩, trivial⟩ (.inl rfl)) ?_
                  refine SOps.q rfl (.plain rfl) rfl (q_move rfl rfl) ?_
                  refine SOps.q rfl (.guard 3 42 true rfl rfl (gT g15)) rfl (q_move rfl rfl) ?_
                  refine SOps.q rfl (.guard 3 42 true rfl rfl (gT g15)) rfl (q_eql rfl rfl rfl) ?_
                  refine SOps.q rfl (.plain rfl) rfl (q_pick_t rfl rfl g15 rfl) ?_
                  refine SOps.q rfl (.plain rfl) rfl (q_move rfl rfl) ?_
                  refine SOps.q rfl (.guard 7 46 true rfl rfl (gT g16)) rfl (q_move rfl rfl) ?_
                  refine SOps.q rfl (.guard 7 46 true rfl rfl (gT g16)) rfl (q_move rfl rfl) ?_
                  refine SOps.q rfl (.guard 7 46 true rfl rfl (gT g16)) rfl (q_call (slices_Equal_int_int_ok F c_5.1 c_3.1 c_17 g18) [] rfl fn12 ⟨⟨_, rfl, .inl ⟨rfl, rfl⟩⟩, ⟨_, rfl, .inl ⟨rfl, rfl⟩⟩, trivial⟩ (.inl rfl)) ?_
                  refine SOps.q rfl (.plain rfl) rfl (q_pick_t rfl rfl g16 rfl) ?_
                  refine SOps.q rfl (.plain rfl) rfl (q_move rfl rfl) ?_
                  refine SOps.q rfl (.guard 12 51 true rfl rfl (gT g19)) rfl (q_move rfl rfl) ?_
                  refine SOps.q rfl (.guard 12 51 true rfl rfl (gT g19)) rfl (q_eql rfl rfl rfl) ?_
                  refine SOps.q rfl (.plain rfl) rfl (q_pick_t rfl rfl g19 rfl) ?_
                  refine SOps.q rfl (.plain rfl) rfl (q_move rfl rfl) ?_
                  refine SOps.q rfl (.guard 16 55 true rfl rfl (gT g20)) rfl (q_move rfl rfl) ?_
                  refine SOps.q rfl (.guard 16 55 true rfl rfl (gT g20)) rfl (q_move rfl rfl) ?_
                  refine SOps.q rfl (.guard 16 55 true rfl rfl (gT g20)) rfl (q_call (slices_Equal_int_int_ok F c_7.1 ([10, 10, 3]) c_21 g22) [] rfl fn12 ⟨⟨_, rfl, .inl ⟨rfl, rfl⟩⟩, ⟨_, rfl, .inl ⟨rfl, rfl⟩⟩, trivial⟩ (.inl rfl)) ?_
                  refine SOps.q rfl (.plain rfl) rfl (q_pick_t rfl rfl g20 rfl) ?_
                  refine SOps.q rfl (.plain rfl) rfl (q_move rfl rfl) ?_
                  refine SOps.q rfl (.guard 21 60 true rfl rfl (gT g23)) rfl (q_move rfl rfl) ?_
                  refine SOps.q rfl (.guard 21 60 true rfl rfl (gT g23)) rfl (q_eql rfl rfl rfl) ?_
                  refine SOps.q rfl (.plain rfl) rfl (q_pick_t rfl rfl g23 rfl) ?_
                  refine SOps.q rfl (.plain rfl) rfl (q_move rfl rfl) ?_
                  refine SOps.q rfl (.guard 25 64 true rfl rfl (gT g24)) rfl (q_move rfl rfl) ?_
                  refine SOps.q rfl (.guard 25 64 true rfl rfl (gT g24)) rfl (q_bsliceL (c := (cInt .i64)) (d0 := 0) [2, 4] rfl rfl sl22 z3 rfl rfl rfl rfl rfl rfl rfl) ?_
                  refine SOps.q rfl (.guard 25 64 true rfl rfl (gT g24)) rfl (q_call (slices_Equal_int_int_ok F c_11.1 ([2, 4]) c_25 g26) [] rfl fn12 ⟨⟨_, rfl, .inl ⟨rfl, rfl⟩⟩, ⟨_, rfl, .inl ⟨rfl, rfl⟩⟩, trivial⟩ (.inl rfl)) ?_
                  refine SOps.q rfl (.plain rfl) rfl (q_pick_t rfl rfl g24 rfl) ?_
                  refine SOps.q rfl (.plain rfl) rfl (q_move rfl rfl) ?_
                  refine SOps.q rfl (.guard 30 69 true rfl rfl (gT g27)) rfl (q_move rfl rfl) ?_
                  refine SOps.q rfl (.guard 30 69 true rfl rfl (gT g27)) rfl (q_eql rfl rfl rfl) ?_
                  refine SOps.q rfl (.plain rfl) rfl (q_pick_t rfl rfl g27 rfl) ?_
                  refine SOps.q rfl (.plain rfl) rfl (q_move rfl rfl) ?_
                  refine SOps.q rfl (.guard 34 73 true rfl rfl (gT g28)) rfl (q_bsliceL (c := (cInt .i64)) (d0 := 0) [7, 6, 3] rfl rfl sl22 z3 rfl rfl rfl rfl rfl rfl rfl) ?_
                  refine SOps.q rfl (.guard 34 73 true rfl rfl (gT g28)) rfl (q_bsliceL (c := (cInt .i64)) (d0 := 0) [8, 5, 3] rfl rfl sl22 z3 rfl rfl rfl rfl rfl rfl rfl) ?_
                  refine SOps.q rfl (.guard 34 73 true rfl rfl (gT g28)) rfl (q_call (fair_Compare_ok F ([7, 6, 3]) ([8, 5, 3]) c_29 g30) [] rfl fn14 ⟨⟨_, rfl, .inl ⟨rfl, rfl⟩⟩, ⟨_, rfl, .inl ⟨rfl, rfl⟩⟩, trivial⟩ (.inl rfl)) ?_
                  refine SOps.q rfl (.guard 34 73 true rfl rfl (gT g28)) rfl (q_eql rfl rfl rfl) ?_
                  refine SOps.q rfl (.plain rfl) rfl (q_pick_t rfl rfl g28 rfl) ?_
                  refine SOps.q rfl (.plain rfl) rfl (q_assign rfl rfl) ?_
                  refine SOps.sub (st' := ⟨[(0, .c (.bool (decide (c_29 = 1))))], []⟩) (sub_gen [] rfl rfl ⟨zc rfl rfl, trivial⟩ trivial) ?_
                  refine SOps.nil ?_
                  refine SCode.ret ?_
                  obtain rfl := Option.some.inj h
                  exact ⟨⟨[(0, .c (.bool (decide (c_29 = 1))))], []⟩, _, sub_gen [] rfl rfl ⟨zc rfl rfl, trivial⟩ trivial, resA1 (v := .c (.bool (decide (c_29 = 1)))) rfl rfl, rfl⟩
                refine SCode.region (show SOps _ _ _ [0, 1, 2, 3, 4, 5, 6, 7, 8, 9, 10, 11, 12, 13, 14, 15, 16, 17, 18, 19, 20, 21, 22, 23, 24, 25, 26, 27, 28, 29, 30, 31, 32, 33, 34, 35, 36, 37, 38, 39, 40] _ _ from ?_)
                refine SOps.q rfl (.plain rfl) rfl (q_move rfl rfl) ?_
                refine SOps.q rfl (.plain rfl) rfl (q_bsliceL (c := (cInt .i64)) (d0 := 0) [7, 6, 3] rfl rfl sl22 z3 rfl rfl rfl rfl rfl rfl rfl) ?_
                refine SOps.q rfl (.plain rfl) rfl (q_call (slices_Equal_int_int_ok F c_3.1 ([7, 6, 3]) c_13 g14) [] rfl fn12 ⟨⟨_, rfl, .inl ⟨rfl, rfl⟩⟩, ⟨_, rfl, .inl ⟨rfl, rfl⟩⟩, trivial⟩ (.inl rfl)) ?_
                refine SOps.q rfl (.plain rfl) rfl (q_move rfl rfl) ?_
                refine SOps.q rfl (.guard 3 42 true rfl rfl (gT g15)) rfl (q_move rfl rfl) ?_
                refine SOps.q rfl (.guard 3 42 true rfl rfl (gT g15)) rfl (q_eql rfl rfl rfl) ?_
                refine SOps.q rfl (.plain rfl) rfl (q_pick_t rfl rfl g15 rfl) ?_
                refine SOps.q rfl (.plain rfl) rfl (q_move rfl rfl) ?_
                refine SOps.q rfl (.guard 7 46 true rfl rfl (gT g16)) rfl (q_move rfl rfl) ?_
                refine SOps.q rfl (.guard 7 46 true rfl rfl (gT g16)) rfl (q_move rfl rfl) ?_
                refine SOps.q rfl (.guard 7 46 true rfl rfl (gT g16)) rfl (q_call (slices_Equal_int_int_ok F c_5.1 c_3.1 c_17 g18) [] rfl fn12 ⟨⟨_, rfl, .inl ⟨rfl, rfl⟩⟩, ⟨_, rfl, .inl ⟨rfl, rfl⟩⟩, trivial⟩ (.inl rfl)) ?_
                refine SOps.q rfl (.plain rfl) rfl (q_pick_t rfl rfl g16 rfl) ?_
                refine SOps.q rfl (.plain rfl) rfl (q_move rfl rfl) ?_
                refine SOps.q rfl (.guard 12 51 true rfl rfl (gT g19)) rfl (q_move rfl rfl) ?_
                refine SOps.q rfl (.guard 12 51 true rfl rfl (gT g19)) rfl (q_eql rfl rfl rfl) ?_
                refine SOps.q rfl (.plain rfl) rfl (q_pick_t rfl rfl g19 rfl) ?_
                refine SOps.q rfl (.plain rfl) rfl (q_move rfl rfl) ?_
                refine SOps.q rfl (.guard 16 55 true rfl rfl (gT g20)) rfl (q_move rfl rfl) ?_
                refine SOps.q rfl (.guard 16 55 true rfl rfl (gT g20)) rfl (q_move rfl rfl) ?_
                refine SOps.q rfl (.guard 16 55 true rfl rfl (gT g20)) rfl (q_call (slices_Equal_int_int_ok F c_7.1 ([10, 10, 3]) c_21 g22) [] rfl fn12 ⟨⟨_, rfl, .inl ⟨rfl, rfl⟩⟩, ⟨_, rfl, .inl ⟨rfl, rfl⟩⟩, trivial⟩ (.inl rfl)) ?_
                refine SOps.q rfl (.plain rfl) rfl (q_pick_t rfl rfl g20 rfl) ?_
                refine SOps.q rfl (.plain rfl) rfl (q_move rfl rfl) ?_
                refine SOps.q rfl (.guard 21 60 true rfl rfl (gT g23)) rfl (q_move rfl rfl) ?_
                refine SOps.q rfl (.guard 21 60 true rfl rfl (gT g23)) rfl (q_eql rfl rfl rfl) ?_
                refine SOps.q rfl (.plain rfl) rfl (q_pick_t rfl rfl g23 rfl) ?_
                refine SOps.q rfl (.plain rfl) rfl (q_move rfl rfl) ?_
                refine SOps.q rfl (.guard 25 64 true rfl rfl (gT g24)) rfl (q_move rfl rfl) ?_
                refine SOps.q rfl (.guard 25 64 true rfl rfl (gT g24)) rfl (q_bsliceL (c := (cInt .i64)) (d0 := 0) [2, 4] rfl rfl sl22 z3 rfl rfl rfl rfl rfl rfl rfl) ?_
                refine SOps.q rfl (.guard 25 64 true rfl rfl (gT g24)) rfl (q_call (slices_Equal_int_int_ok F c_11.1 ([2, 4]) c_25 g26) [] rfl fn12 ⟨⟨_, rfl, .inl ⟨rfl, rfl⟩⟩, ⟨_, rfl, .inl ⟨rfl, rfl⟩⟩, trivial⟩ (.inl rfl)) ?_
                refine SOps.q rfl (.plain rfl) rfl (q_pick_t rfl rfl g24 rfl) ?_
                refine SOps.q rfl (.plain rfl) rfl (q_move rfl rfl) ?_
                refine SOps.q rfl (.guard 30 69 true rfl rfl (gT g27)) rfl (q_move rfl rfl) ?_
                refine SOps.q rfl (.guard 30 69 true rfl rfl (gT g27)) rfl (q_eql rfl rfl rfl) ?_
                refine SOps.q rfl (.plain rfl) rfl (q_pick_t rfl rfl g27 rfl) ?_
                refine SOps.q rfl (.plain rfl) rfl (q_move rfl rfl) ?_
                refine SOps.skip rfl 34 73 true rfl rfl (.inl (gF g28)) rfl ?_
                refine SOps.skip rfl 34 73 true rfl rfl (.inl (gF g28)) rfl ?_
                refine SOps.skip rfl 34 73 true rfl rfl (.inl (gF g28)) rfl ?_
                refine SOps.skip rfl 34 73 true rfl rfl (.inl (gF g28)) rfl ?_
                refine SOps.q rfl (.plain rfl) rfl (q_pick_f rfl rfl g28 rfl) ?_
                refine SOps.q rfl (.plain rfl) rfl (q_assign rfl rfl) ?_
                refine SOps.sub (st' := ⟨[(0, .c (.bool false))], []⟩) (sub_gen [] rfl rfl ⟨zc rfl rfl, trivial⟩ trivial) ?_
                refine SOps.nil ?_
                refine SCode.ret ?_
                obtain rfl := Option.some.inj h
                exact ⟨⟨[(0, .c (.bool false))], []⟩, _, sub_gen [] rfl rfl ⟨zc rfl rfl, trivial⟩ trivial, resA1 (v := .c (.bool false)) rfl rfl, rfl⟩
              refine SCode.region (show SOps _ _ _ [0, 1, 2, 3, 4, 5, 6, 7, 8, 9, 10, 11, 12, 13, 14, 15, 16, 17, 18, 19, 20, 21, 22, 23, 24, 25, 26, 27, 28, 29, 30, 31, 32, 33, 34, 35, 36, 37, 38, 39, 40] _ _ from ?_)
              refine SOps.q rfl (.plain rfl) rfl (q_move rfl rfl) ?_
              refine SOps.q rfl (.plain rfl) rfl (q_bsliceL (c := (cInt .i64)) (d0 := 0) [7, 6, 3] rfl rfl sl22 z3 rfl rfl rfl rfl rfl rfl rfl) ?_
              refine SOps.q rfl (.plain rfl) rfl (q_call (slices_Equal_int_int_ok F c_3.1 ([7, 6, 3]) c_13 g14) [] rfl fn12 ⟨⟨_, rfl, .inl ⟨rfl, rfl⟩⟩, ⟨_, rfl, .inl ⟨rfl, rfl⟩⟩, trivial⟩ (.inl rfl)) ?_
              refine SOps.q rfl (.plain rfl) rfl (q_move rfl rfl) ?_
              refine SOps.q rfl (.guard 3 42 true rfl rfl (gT g15)) rfl (q_move rfl rfl) ?_
              refine SOps.q rfl (.guard 3 42 true rfl rfl (gT g15)) rfl (q_eql rfl rfl rfl) ?_
              refine SOps.q rfl (.plain rfl) rfl (q_pick_t rfl rfl g15 rfl) ?_
              refine SOps.q rfl (.plain rfl) rfl (q_move rfl rfl) ?_
              refine SOps.q rfl (.guard 7 46 true rfl rfl (gT g16)) rfl (q_move rfl rfl) ?_
              refine SOps.q rfl (.guard 7 46 true rfl rfl (gT g16)) rfl (q_move rfl rfl) ?_
              refine SOps.q rfl (.guard 7 46 true rfl rfl (gT g16)) rfl (q_call (slices_Equal_int_int_ok F c_5.1 c_3.1 c_17 g18) [] rfl fn12 ⟨⟨_, rfl, .inl ⟨rfl, rfl⟩⟩, ⟨_, rfl, .inl ⟨rfl, rfl⟩⟩, trivial⟩ (.inl rfl)) ?_
              refine SOps.q rfl (.plain rfl) rfl (q_pick_t rfl rfl g16 rfl) ?_
              refine SOps.q rfl (.plain rfl) rfl (q_move rfl rfl) ?_
              refine SOps.q rfl (.guard 12 51 true rfl rfl (gT g19)) rfl (q_move rfl rfl) ?_
              refine SOps.q rfl (.guard 12 51 true rfl rfl (gT g19)) rfl (q_eql rfl rfl rfl) ?_
              refine SOps.q rfl (.plain rfl) rfl (q_pick_t rfl rfl g19 rfl) ?_
              refine SOps.q rfl (.plain rfl) rfl (q_move rfl rfl) ?_
              refine SOps.q rfl (.guard 16 55 true rfl rfl (gT g20)) rfl (q_move rfl rfl) ?_
              refine SOps.q rfl (.guard 16 55 true rfl rfl (gT g20)) rfl (q_move rfl rfl) ?_
              refine SOps.q rfl (.guard 16 55 true rfl rfl (gT g20)) rfl (q_call (slices_Equal_int_int_ok F c_7.1 ([10, 10, 3]) c_21 g22) [] rfl fn12 ⟨⟨_, rfl, .inl ⟨rfl, rfl⟩⟩, ⟨_, rfl, .inl ⟨rfl, rfl⟩⟩, trivial⟩ (.inl rfl)) ?_
              refine SOps.q rfl (.plain rfl) rfl (q_pick_t rfl rfl g20 rfl) ?_
              refine SOps.q rfl (.plain rfl) rfl (q_move rfl rfl) ?_
              refine SOps.q rfl (.guard 21 60 true rfl rfl (gT g23)) rfl (q_move rfl rfl) ?_
              refine SOps.q rfl (.guard 21 60 true rfl rfl (gT g23)) rfl (q_eql rfl rfl rfl) ?_
              refine SOps.q rfl (.plain rfl) rfl (q_pick_t rfl rfl g23 rfl) ?_
              refine SOps.q rfl (.plain rfl) rfl (q_move rfl rfl) ?_
              refine SOps.q rfl (.guard 25 64 true rfl rfl (gT g24)) rfl (q_move rfl rfl) ?_
              refine SOps.q rfl (.guard 25 64 true rfl rfl (gT g24)) rfl (q_bsliceL (c := (cInt .i64)) (d0 := 0) [2, 4] rfl rfl sl22 z3 rfl rfl rfl rfl rfl rfl rfl) ?_
              refine SOps.q rfl (.guard 25 64 true rfl rfl (gT g24)) rfl (q_call (slices_Equal_int_int_ok F c_11.1 ([2, 4]) c_25 g26) [] rfl fn12 ⟨⟨_, rfl, .inl ⟨rfl, rfl⟩⟩, ⟨_, rfl, .inl ⟨rfl, rfl⟩⟩, trivial⟩ (.inl rfl)) ?_
              refine SOps.q rfl (.plain rfl) rfl (q_pick_t rfl rfl g24 rfl) ?_
              refine SOps.q rfl (.plain rfl) rfl (q_move rfl rfl) ?_
              refine SOps.skip rfl 30 69 true rfl rfl (.inl (gF g27)) rfl ?_
              refine SOps.skip rfl 30 69 true rfl rfl (.inl (gF g27)) rfl ?_
              refine SOps.q rfl (.plain rfl) rfl (q_pick_f rfl rfl g27 rfl) ?_
              refine SOps.q rfl (.plain rfl) rfl (q_move rfl rfl) ?_
              refine SOps.skip rfl 34 73 true rfl rfl (.inl rfl) rfl ?_
              refine SOps.skip rfl 34 73 true rfl rfl (.inl rfl) rfl ?_
              refine SOps.skip rfl 34 73 true rfl rfl (.inl rfl) rfl ?_
              refine SOps.skip rfl 34 73 true rfl rfl (.inl rfl) rfl ?_
              refine SOps.q rfl (.plain rfl) rfl (q_pick_f rfl rfl rfl rfl) ?_
              refine SOps.q rfl (.plain rfl) rfl (q_assign rfl rfl) ?_
              refine SOps.sub (st' := ⟨[(0, .c (.bool false))], []⟩) (sub_gen [] rfl rfl ⟨zc rfl rfl, trivial⟩ trivial) ?_
              refine SOps.nil ?_
              refine SCode.ret ?_
              obtain rfl := Option.some.inj h
              exact ⟨⟨[(0, .c (.bool false))], []⟩, _, sub_gen [] rfl rfl ⟨zc rfl rfl, trivial⟩ trivial, resA1 (v := .c (.bool false)) rfl rfl, rfl⟩
            refine SCode.region (show SOps _ _ _ [0, 1, 2, 3, 4, 5, 6, 7, 8, 9, 10, 11, 12, 13, 14, 15, 16, 17, 18, 19, 20, 21, 22, 23, 24, 25, 26, 27, 28, 29, 30, 31, 32, 33, 34, 35, 36, 37, 38, 39, 40] _ _ from ?_)
            refine SOps.q rfl (.plain rfl) rfl (q_move rfl rfl) ?_
            refine SOps.q rfl (.plain rfl) rfl (q_bsliceL (c := (cInt .i64)) (d0 := 0) [7, 6, 3] rfl rfl sl22 z3 rfl rfl rfl rfl rfl rfl rfl) ?_
            refine SOps.q rfl (.plain rfl) rfl (q_call (slices_Equal_int_int_ok F c_3.1 ([7, 6, 3]) c_13 g14) [] rfl fn12 ⟨⟨_, rfl, .inl ⟨rfl, rfl⟩⟩, ⟨_, rfl, .inl ⟨rfl, rfl⟩⟩, trivial⟩ (.inl rfl)) ?_
            refine SOps.q rfl (.plain rfl) rfl (q_move rfl rfl) ?_
            refine SOps.q rfl (.guard 3 42 true rfl rfl (gT g15)) rfl (q_move rfl rfl) ?_
            refine SOps.q rfl (.guard 3 42 true rfl rfl (gT g15)) rfl (q_eql rfl rfl rfl) ?_
            refine SOps.q rfl (.plain rfl) rfl (q_pick_t rfl rfl g15 rfl) ?_
            refine SOps.q rfl (.plain rfl) rfl (q_move rfl rfl) ?_
            refine SOps.q rfl (.guard 7 46 true rfl rfl (gT g16)) rfl (q_move rfl rfl) ?_
            refine SOps.q rfl (.guard 7 46 true rfl rfl (gT g16)) rfl (q_move rfl rfl) ?_
            refine SOps.q rfl (.guard 7 46 true rfl rfl (gT g16)) rfl (q_call (slices_Equal_int_int_ok F c_5.1 c_3.1 c_17 g18) [] rfl fn12 ⟨⟨_, rfl, .inl ⟨rfl, rfl⟩⟩, ⟨_, rfl, .inl ⟨rfl, rfl⟩⟩, trivial⟩ (.inl rfl)) ?_
            refine SOps.q rfl (.plain rfl) rfl (q_pick_t rfl rfl g16 rfl) ?_
            refine SOps.q rfl (.plain rfl) rfl (q_move rfl rfl) ?_
            refine SOps.q rfl (.guard 12 51 true rfl rfl (gT g19)) rfl (q_move rfl rfl) ?_
            refine SOps.q rfl (.guard 12 51 true rfl rfl (gT g19)) rfl (q_eql rfl rfl rfl) ?_
            refine SOps.q rfl (.plain rfl) rfl (q_pick_t rfl rfl g19 rfl) ?_
            refine SOps.q rfl (.plain rfl) rfl (q_move rfl rfl) ?_
            refine SOps.q rfl (.guard 16 55 true rfl rfl (gT g20)) rfl (q_move rfl rfl) ?_
            refine SOps.q rfl (.guard 16 55 true rfl rfl (gT g20)) rfl (q_move rfl rfl) ?_
            refine SOps.q rfl (.guard 16 55 true rfl rfl (gT g20)) rfl (q_call (slices_Equal_int_int_ok F c_7.1 ([10, 10, 3]) c_21 g22) [] rfl fn12 ⟨⟨_, rfl, .inl ⟨rfl, rfl⟩⟩, ⟨_, rfl, .inl ⟨rfl, rfl⟩⟩, trivial⟩ (.inl rfl)) ?_
            refine SOps.q rfl (.plain rfl) rfl (q_pick_t rfl rfl g20 rfl) ?_
            refine SOps.q rfl (.plain rfl) rfl (q_move rfl rfl) ?_
            refine SOps.q rfl (.guard 21 60 true rfl rfl (gT g23)) rfl (q_move rfl rfl) ?_
            refine SOps.q rfl (.guard 21 60 true rfl rfl (gT g23)) rfl (q_eql rfl rfl rfl) ?_
            refine SOps.q rfl (.plain rfl) rfl (q_pick_t rfl rfl g23 rfl) ?_
            refine SOps.q rfl (.plain rfl) rfl (q_move rfl rfl) ?_
            refine SOps.skip rfl 25 64 true rfl rfl (.inl (gF g24)) rfl ?_
            refine SOps.skip rfl 25 64 true rfl rfl (.inl (gF g24)) rfl ?_
            refine SOps.skip rfl 25 64 true rfl rfl (.inl (gF g24)) rfl ?_
            refine SOps.q rfl (.plain rfl) rfl (q_pick_f rfl rfl g24 rfl) ?_
            refine SOps.q rfl (.plain rfl) rfl (q_move rfl rfl) ?_
            refine SOps.skip rfl 30 69 true rfl rfl (.inl rfl) rfl ?_
            refine SOps.skip rfl 30 69 true rfl rfl (.inl rfl) rfl ?_
            refine SOps.q rfl (.plain rfl) rfl (q_pick_f rfl rfl rfl rfl) ?_
            refine SOps.q rfl (.plain rfl) rfl (q_move rfl rfl) ?_
            refine SOps.skip rfl 34 73 true rfl rfl (.inl rfl) rfl ?_
            refine SOps.skip rfl 34 73 true rfl rfl (.inl rfl) rfl ?_
            refine SOps.skip rfl 34 73 true rfl rfl (.inl rfl) rfl ?_
            refine SOps.skip rfl 34 73 true rfl rfl (.inl rfl) rfl ?_
            refine SOps.q rfl (.plain rfl) rfl (q_pick_f rfl rfl rfl rfl) ?_
            refine SOps.q rfl (.plain rfl) rfl (q_assign rfl rfl) ?_
            refine SOps.sub (st' := ⟨[(0, .c (.bool false))], []⟩) (sub_gen [] rfl rfl ⟨zc rfl rfl, trivial⟩ trivial) ?_
            refine SOps.nil ?_
            refine SCode.ret ?_
            obtain rfl := Option.some.inj h
            exact ⟨⟨[(0, .c (.bool false))], []⟩, _, sub_gen [] rfl rfl ⟨zc rfl rfl, trivial⟩ trivial, resA1 (v := .c (.bool false)) rfl rfl, rfl⟩
          refine SCode.region (show SOps _ _ _ [0, 1, 2, 3, 4, 5, 6, 7, 8, 9, 10, 11, 12, 13, 14, 15, 16, 17, 18, 19, 20, 21, 22, 23, 24, 25, 26, 27, 28, 29, 30, 31, 32, 33, 34, 35, 36, 37, 38, 39, 40] _ _ from ?_)
          refine SOps.q rfl (.plain rfl) rfl (q_move rfl rfl) ?_
          refine SOps.q rfl (.plain rfl) rfl (q_bsliceL (c := (cInt .i64)) (d0 := 0) [7, 6, 3] rfl rfl sl22 z3 rfl rfl rfl rfl rfl rfl rfl) ?_
          refine SOps.q rfl (.plain rfl) rfl (q_call (slices_Equal_int_int_ok F c_3.1 ([7, 6, 3]) c_13 g14) [] rfl fn12 ⟨⟨_, rfl, .inl ⟨rfl, rfl⟩⟩, ⟨_, rfl, .inl ⟨rfl, rfl⟩⟩, trivial⟩ (.inl rfl)) ?_
          refine SOps.q rfl (.plain rfl) rfl (q_move rfl rfl) ?_
          refine SOps.q rfl (.guard 3 42 true rfl rfl (gT g15)) rfl (q_move rfl rfl) ?_
          refine SOps.q rfl (.guard 3 42 true rfl rfl (gT g15)) rfl (q_eql rfl rfl rfl) ?_
          refine SOps.q rfl (.plain rfl) rfl (q_pick_t rfl rfl g15 rfl) ?_
          refine SOps.q rfl (.plain rfl) rfl (q_move rfl rfl) ?_
          refine SOps.q rfl (.guard 7 46 true rfl rfl (gT g16)) rfl (q_move rfl rfl) ?_
          refine SOps.q rfl (.guard 7 46 true rfl rfl (gT g16)) rfl (q_move rfl rfl) ?_
          refine SOps.q rfl (.guard 7 46 true rfl rfl (gT g16)) rfl (q_call (slices_Equal_int_int_ok F c_5.1 c_3.1 c_17 g18) [] rfl fn12 ⟨⟨_, rfl, .inl ⟨rfl, rfl⟩⟩, ⟨_, rfl, .inl ⟨rfl, rfl⟩⟩, trivial⟩ (.inl rfl)) ?_
          refine SOps.q rfl (.plain rfl) rfl (q_pick_t rfl rfl g16 rfl) ?_
          refine SOps.q rfl (.plain rfl) rfl (q_move rfl rfl) ?_
          refine SOps.q rfl (.guard 12 51 true rfl rfl (gT g19)) rfl (q_move rfl rfl) ?_
          refine SOps.q rfl (.guard 12 51 true rfl rfl (gT g19)) rfl (q_eql rfl rfl rfl) ?_
          refine SOps.q rfl (.plain rfl) rfl (q_pick_t rfl rfl g19 rfl) ?_
          refine SOps.q rfl (.plain rfl) rfl (q_move rfl rfl) ?_
          refine SOps.q rfl (.guard 16 55 true rfl rfl (gT g20)) rfl (q_move rfl rfl) ?_
          refine SOps.q rfl (.guard 16 55 true rfl rfl (gT g20)) rfl (q_move rfl rfl) ?_
          refine SOps.q rfl (.guard 16 55 true rfl rfl (gT g20)) rfl (q_call (slices_Equal_int_int_ok F c_7.1 ([10, 10, 3]) c_21 g22) [] rfl fn12 ⟨⟨_, rfl, .inl ⟨rfl, rfl⟩⟩, ⟨_, rfl, .inl ⟨rfl, rfl⟩⟩, trivial⟩ (.inl rfl)) ?_
          refine SOps.q rfl (.plain rfl) rfl (q_pick_t rfl rfl g20 rfl) ?_
          refine SOps.q rfl (.plain rfl) rfl (q_move rfl rfl) ?_
          refine SOps.skip rfl 21 60 true rfl rfl (.inl (gF g23)) rfl ?_
          refine SOps.skip rfl 21 60 true rfl rfl (.inl (gF g23)) rfl ?_
          refine SOps.q rfl (.plain rfl) rfl (q_pick_f rfl rfl g23 rfl) ?_
          refine SOps.q rfl (.plain rfl) rfl (q_move rfl rfl) ?_
          refine SOps.skip rfl 25 64 true rfl rfl (.inl rfl) rfl ?_
          refine SOps.skip rfl 25 64 true rfl rfl (.inl rfl) rfl ?_
          refine SOps.skip rfl 25 64 true rfl rfl (.inl rfl) rfl ?_
          refine SOps.q rfl (.plain rfl) rfl (q_pick_f rfl rfl rfl rfl) ?_
          refine SOps.q rfl (.plain rfl) rfl (q_move rfl rfl) ?_
          refine SOps.skip rfl 30 69 true rfl rfl (.inl rfl) rfl ?_
          refine SOps.skip rfl 30 69 true rfl rfl (.inl rfl) rfl ?_
          refine SOps.q rfl (.plain rfl) rfl (q_pick_f rfl rfl rfl rfl) ?_
          refine SOps.q rfl (.plain rfl) rfl (q_move rfl rfl) ?_
          refine SOps.skip rfl 34 73 true rfl rfl (.inl rfl) rfl ?_
          refine SOps.skip rfl 34 73 true rfl rfl (.inl rfl) rfl ?_
          refine SOps.skip rfl 34 73 true rfl rfl (.inl rfl) rfl ?_
          refine SOps.skip rfl 34 73 true rfl rfl (.inl rfl) rfl ?_
          refine SOps.q rfl (.plain rfl) rfl (q_pick_f rfl rfl rfl rfl) ?_
          refine SOps.q rfl (.plain rfl) rfl (q_assign rfl rfl) ?_
          refine SOps.sub (st' := ⟨[(0, .c (.bool false))], []⟩) (sub_gen [] rfl rfl ⟨zc rfl rfl, trivial⟩ trivial) ?_
          refine SOps.nil ?_
          refine SCode.ret ?_
          obtain rfl := Option.some.inj h
          exact ⟨⟨[(0, .c (.bool false))], []⟩, _, sub_gen [] rfl rfl ⟨zc rfl rfl, trivial⟩ trivial, resA1 (v := .c (.bool false)) rfl rfl, rfl⟩
        refine SCode.region (show SOps _ _ _ [0, 1, 2, 3, 4, 5, 6, 7, 8, 9, 10, 11, 12, 13, 14, 15, 16, 17, 18, 19, 20, 21, 22, 23, 24, 25, 26, 27, 28, 29, 30, 31, 32, 33, 34, 35, 36, 37, 38, 39, 40] _ _ from ?_)
        refine SOps.q rfl (.plain rfl) rfl (q_move rfl rfl) ?_
        refine SOps.q rfl (.plain rfl) rfl (q_bsliceL (c := (cInt .i64)) (d0 := 0) [7, 6, 3] rfl rfl sl22 z3 rfl rfl rfl rfl rfl rfl rfl) ?_
        refine SOps.q rfl (.plain rfl) rfl (q_call (slices_Equal_int_int_ok F c_3.1 ([7, 6, 3]) c_13 g14) [] rfl fn12 ⟨⟨_, rfl, .inl ⟨rfl, rfl⟩⟩, ⟨_, rfl, .inl ⟨rfl, rfl⟩⟩, trivial⟩ (.inl rfl)) ?_
        refine SOps.q rfl (.plain rfl) rfl (q_move rfl rfl) ?_
        refine SOps.q rfl (.guard 3 42 true rfl rfl (gT g15)) rfl (q_move rfl rfl) ?_
        refine SOps.q rfl (.guard 3 42 true rfl rfl (gT g15)) rfl (q_eql rfl rfl rfl) ?_
        refine SOps.q rfl (.plain rfl) rfl (q_pick_t rfl rfl g15 rfl) ?_
        refine SOps.q rfl (.plain rfl) rfl (q_move rfl rfl) ?_
        refine SOps.q rfl (.guard 7 46 true rfl rfl (gT g16)) rfl (q_move rfl rfl) ?_
        refine SOps.q rfl (.guard 7 46 true rfl rfl (gT g16)) rfl (q_move rfl rfl) ?_
        refine SOps.q rfl (.guard 7 46 true rfl rfl (gT g16)) rfl (q_call (slices_Equal_int_int_ok F c_5.1 c_3.1 c_17 g18) [] rfl fn12 ⟨⟨_, rfl, .inl ⟨rfl, rfl⟩⟩, ⟨_, rfl, .inl ⟨rfl, rfl⟩⟩, trivial⟩ (.inl rfl)) ?_
        refine SOps.q rfl (.plain rfl) rfl (q_pick_t rfl rfl g16 rfl) ?_
        refine SOps.q rfl (.plain rfl) rfl (q_move rfl rfl) ?_
        refine SOps.q rfl (.guard 12 51 true rfl rfl (gT g19)) rfl (q_move rfl rfl) ?_
        refine SOps.q rfl (.guard 12 51 true rfl rfl (gT g19)) rfl (q_eql rfl rfl rfl) ?_
        refine SOps.q rfl (.plain rfl) rfl (q_pick_t rfl rfl g19 rfl) ?_
        refine SOps.q rfl (.plain rfl) rfl (q_move rfl rfl) ?_
        refine SOps.skip rfl 16 55 true rfl rfl (.inl (gF g20)) rfl ?_
        refine SOps.skip rfl 16 55 true rfl rfl (.inl (gF g20)) rfl ?_
        refine SOps.skip rfl 16 55 true rfl rfl (.inl (gF g20)) rfl ?_
        refine SOps.q rfl (.plain rfl) rfl (q_pick_f rfl rfl g20 rfl) ?_
        refine SOps.q rfl (.plain rfl) rfl (q_move rfl rfl) ?_
        refine SOps.skip rfl 21 60 true rfl rfl (.inl rfl) rfl ?_
        refine SOps.skip rfl 21 60 true rfl rfl (.inl rfl) rfl ?_
        refine SOps.q rfl (.plain rfl) rfl (q_pick_f rfl rfl rfl rfl) ?_
        refine SOps.q rfl (.plain rfl) rfl (q_move rfl rfl) ?_
        refine SOps.skip rfl 25 64 true rfl rfl (.inl rfl) rfl ?_
        refine SOps.skip rfl 25 64 true rfl rfl (.inl rfl) rfl ?_
        refine SOps.skip rfl 25 64 true rfl rfl (.inl rfl) rfl ?_
        refine SOps.q rfl (.plain rfl) rfl (q_pick_f rfl rfl rfl rfl) ?_
        refine SOps.q rfl (.plain rfl) rfl (q_move rfl rfl) ?_
        refine SOps.skip rfl 30 69 true rfl rfl (.inl rfl) rfl ?_
        refine SOps.skip rfl 30 69 true rfl rfl (.inl rfl) rfl ?_
        refine SOps.q rfl (.plain rfl) rfl (q_pick_f rfl rfl rfl rfl) ?_
        refine SOps.q rfl (.plain rfl) rfl (q_move rfl rfl) ?_
        refine SOps.skip rfl 34 73 true rfl rfl (.inl rfl) rfl ?_
        refine SOps.skip rfl 34 73 true rfl rfl (.inl rfl) rfl ?_
        refine SOps.skip rfl 34 73 true rfl rfl (.inl rfl) rfl ?_
        refine SOps.skip rfl 34 73 true rfl rfl (.inl rfl) rfl ?_
        refine SOps.q rfl (.plain rfl) rfl (q_pick_f rfl rfl rfl rfl) ?_
        refine SOps.q rfl (.plain rfl) rfl (q_assign rfl rfl) ?_
        refine SOps.sub (st' := ⟨[(0, .c (.bool false))], []⟩) (sub_gen [] rfl rfl ⟨zc rfl rfl, trivial⟩ trivial) ?_
        refine SOps.nil ?_
        refine SCode.ret ?_
        obtain rfl := Option.some.inj h
        exact ⟨⟨[(0, .c (.bool false))], []⟩, _, sub_gen [] rfl rfl ⟨zc rfl rfl, trivial⟩ trivial, resA1 (v := .c (.bool false)) rfl rfl, rfl⟩
      refine SCode.region (show SOps _ _ _ [0, 1, 2, 3, 4, 5, 6, 7, 8, 9, 10, 11, 12, 13, 14, 15, 16, 17, 18, 19, 20, 21, 22, 23, 24, 25, 26, 27, 28, 29, 30, 31, 32, 33, 34, 35, 36, 37, 38, 39, 40] _ _ from ?_)
      refine SOps.q rfl (.plain rfl) rfl (q_move rfl rfl) ?_
      refine SOps.q rfl (.plain rfl) rfl (q_bsliceL (c := (cInt .i64)) (d0 := 0) [7, 6, 3] rfl rfl sl22 z3 rfl rfl rfl rfl rfl rfl rfl) ?_
      refine SOps.q rfl (.plain rfl) rfl (q_call (slices_Equal_int_int_ok F c_3.1 ([7, 6, 3]) c_13 g14) [] rfl fn12 ⟨⟨_, rfl, .inl ⟨rfl, rfl⟩⟩, ⟨_, rfl, .inl ⟨rfl, rfl⟩⟩, trivial⟩ (.inl rfl)) ?_
      refine SOps.q rfl (.plain rfl) rfl (q_move rfl rfl) ?_
      refine SOps.q rfl (.guard 3 42 true rfl rfl (gT g15)) rfl (q_move rfl rfl) ?_
      refine SOps.q rfl (.guard 3 42 true rfl rfl (gT g15)) rfl (q_eql rfl rfl rfl) ?_
      refine SOps.q rfl (.plain rfl) rfl (q_pick_t rfl rfl g15 rfl) ?_
      refine SOps.q rfl (.plain rfl) rfl (q_move rfl rfl) ?_
      refine SOps.q rfl (.guard 7 46 true rfl rfl (gT g16)) rfl (q_move rfl rfl) ?_
      refine SOps.q rfl (.guard 7 46 true rfl rfl (gT g16)) rfl (q_move rfl rfl) ?_
      refine SOps.q rfl (.guard 7 46 true rfl rfl (gT g16)) rfl (q_call (slices_Equal_int_int_ok F c_5.1 c_3.1 c_17 g18) [] rfl fn12 ⟨⟨_, rfl, .inl ⟨rfl, rfl⟩⟩, ⟨_, rfl, .inl ⟨rfl, rfl⟩⟩, trivial⟩ (.inl rfl)) ?_
      refine SOps.q rfl (.plain rfl) rfl (q_pick_t rfl rfl g16 rfl) ?_
      refine SOps.q rfl (.plain rfl) rfl (q_move rfl rfl) ?_
      refine SOps.skip rfl 12 51 true rfl rfl (.inl (gF g19)) rfl ?_
      refine SOps.skip rfl 12 51 true rfl rfl (.inl (gF g19)) rfl ?_
      refine SOps.q rfl (.plain rfl) rfl (q_pick_f rfl rfl g19 rfl) ?_
      refine SOps.q rfl (.plain rfl) rfl (q_move rfl rfl) ?_
      refine SOps.skip rfl 16 55 true rfl rfl (.inl rfl) rfl ?_
      refine SOps.skip rfl 16 55 true rfl rfl (.inl rfl) rfl ?_
      refine SOps.skip rfl 16 55 true rfl rfl (.inl rfl) rfl ?_
      refine SOps.q rfl (.plain rfl) rfl (q_pick_f rfl rfl rfl rfl) ?_
      refine SOps.q rfl (.plain rfl) rfl (q_move rfl rfl) ?_
      refine SOps.skip rfl 21 60 true rfl rfl (.inl rfl) rfl ?_
      refine SOps.skip rfl 21 60 true rfl rfl (.inl rfl) rfl ?_
      refine SOps.q rfl (.plain rfl) rfl (q_pick_f rfl rfl rfl rfl) ?_
      refine SOps.q rfl (.plain rfl) rfl (q_move rfl rfl) ?_
      refine SOps.skip rfl 25 64 true rfl rfl (.inl rfl) rfl ?_
      refine SOps.skip rfl 25 64 true rfl rfl (.inl rfl) rfl ?_
      refine SOps.skip rfl 25 64 true rfl rfl (.inl rfl) rfl ?_
      refine SOps.q rfl (.plain rfl) rfl (q_pick_f rfl rfl rfl rfl) ?_
      refine SOps.q rfl (.plain rfl) rfl (q_move rfl rfl) ?_
      refine SOps.skip rfl 30 69 true rfl rfl (.inl rfl) rfl ?_
      refine SOps.skip rfl 30 69 true rfl rfl (.inl rfl) rfl ?_
      refine SOps.q rfl (.plain rfl) rfl (q_pick_f rfl rfl rfl rfl) ?_
      refine SOps.q rfl (.plain rfl) rfl (q_move rfl rfl) ?_
      refine SOps.skip rfl 34 73 true rfl rfl (.inl rfl) rfl ?_
      refine SOps.skip rfl 34 73 true rfl rfl (.inl rfl) rfl ?_
      refine SOps.skip rfl 34 73 true rfl rfl (.inl rfl) rfl ?_
      refine SOps.skip rfl 34 73 true rfl rfl (.inl rfl) rfl ?_
      refine SOps.q rfl (.plain rfl) rfl (q_pick_f rfl rfl rfl rfl) ?_
      refine SOps.q rfl (.plain rfl) rfl (q_assign rfl rfl) ?_
      refine SOps.sub (st' := ⟨[(0, .c (.bool false))], []⟩) (sub_gen [] rfl rfl ⟨zc rfl rfl, trivial⟩ trivial) ?_
      refine SOps.nil ?_
      refine SCode.ret ?_
      obtain rfl := Option.some.inj h
      exact ⟨⟨[(0, .c (.bool false))], []⟩, _, sub_gen [] rfl rfl ⟨zc rfl rfl, trivial⟩ trivial, resA1 (v := .c (.bool false)) rfl rfl, rfl⟩
    refine SCode.region (show SOps _ _ _ [0, 1, 2, 3, 4, 5, 6, 7, 8, 9, 10, 11, 12, 13, 14, 15, 16, 17, 18, 19, 20, 21, 22, 23, 24, 25, 26, 27, 28, 29, 30, 31, 32, 33, 34, 35, 36, 37, 38, 39, 40] _ _ from ?_)
    refine SOps.q rfl (.plain rfl) rfl (q_move rfl rfl) ?_
    refine SOps.q rfl (.plain rfl) rfl (q_bsliceL (c := (cInt .i64)) (d0 := 0) [7, 6, 3] rfl rfl sl22 z3 rfl rfl rfl rfl rfl rfl rfl) ?_
    refine SOps.q rfl (.plain rfl) rfl (q_call (slices_Equal_int_int_ok F c_3.1 ([7, 6, 3]) c_13 g14) [] rfl fn12 ⟨⟨_, rfl, .inl ⟨rfl, rfl⟩⟩, ⟨_, rfl, .inl ⟨rfl, rfl⟩⟩, trivial⟩ (.inl rfl)) ?_
    refine SOps.q rfl (.plain rfl) rfl (q_move rfl rfl) ?_
    refine SOps.q rfl (.guard 3 42 true rfl rfl (gT g15)) rfl (q_move rfl rfl) ?_
    refine SOps.q rfl (.guard 3 42 true rfl rfl (gT g15)) rfl (q_eql rfl rfl rfl) ?_
    refine SOps.q rfl (.plain rfl) rfl (q_pick_t rfl rfl g15 rfl) ?_
    refine SOps.q rfl (.plain rfl) rfl (q_move rfl rfl) ?_
    refine SOps.skip rfl 7 46 true rfl rfl (.inl (gF g16)) rfl ?_
    refine SOps.skip rfl 7 46 true rfl rfl (.inl (gF g16)) rfl ?_
    refine SOps.skip rfl 7 46 true rfl rfl (.inl (gF g16)) rfl ?_
    refine SOps.q rfl (.plain rfl) rfl (q_pick_f rfl rfl g16 rfl) ?_
    refine SOps.q rfl (.plain rfl) rfl (q_move rfl rfl) ?_
    refine SOps.skip rfl 12 51 true rfl rfl (.inl rfl) rfl ?_
    refine SOps.skip rfl 12 51 true rfl rfl (.inl rfl) rfl ?_
    refine SOps.q rfl (.plain rfl) rfl (q_pick_f rfl rfl rfl rfl) ?_
    refine SOps.q rfl (.plain rfl) rfl (q_move rfl rfl) ?_
    refine SOps.skip rfl 16 55 true rfl rfl (.inl rfl) rfl ?_
    refine SOps.skip rfl 16 55 true rfl rfl (.inl rfl) rfl ?_
    refine SOps.skip rfl 16 55 true rfl rfl (.inl rfl) rfl ?_
    refine SOps.q rfl (.plain rfl) rfl (q_pick_f rfl rfl rfl rfl) ?_
    refine SOps.q rfl (.plain rfl) rfl (q_move rfl rfl) ?_
    refine SOps.skip rfl 21 60 true rfl rfl (.inl rfl) rfl ?_
    refine SOps.skip rfl 21 60 true rfl rfl (.inl rfl) rfl ?_
    refine SOps.q rfl (.plain rfl) rfl (q_pick_f rfl rfl rfl rfl) ?_
    refine SOps.q rfl (.plain rfl) rfl (q_move rfl rfl) ?_
    refine SOps.skip rfl 25 64 true rfl rfl (.inl rfl) rfl ?_
    refine SOps.skip rfl 25 64 true rfl rfl (.inl rfl) rfl ?_
    refine SOps.skip rfl 25 64 true rfl rfl (.inl rfl) rfl ?_
    refine SOps.q rfl (.plain rfl) rfl (q_pick_f rfl rfl rfl rfl) ?_
    refine SOps.q rfl (.plain rfl) rfl (q_move rfl rfl) ?_
    refine SOps.skip rfl 30 69 true rfl rfl (.inl rfl) rfl ?_
    refine SOps.skip rfl 30 69 true rfl rfl (.inl rfl) rfl ?_
    refine SOps.q rfl (.plain rfl) rfl (q_pick_f rfl rfl rfl rfl) ?_
    refine SOps.q rfl (.plain rfl) rfl (q_move rfl rfl) ?_
    refine SOps.skip rfl 34 73 true rfl rfl (.inl rfl) rfl ?_
    refine SOps.skip rfl 34 73 true rfl rfl (.inl rfl) rfl ?_
    refine SOps.skip rfl 34 73 true rfl rfl (.inl rfl) rfl ?_
    refine SOps.skip rfl 34 73 true rfl rfl (.inl rfl) rfl ?_
    refine SOps.q rfl (.plain rfl) rfl (q_pick_f rfl rfl rfl rfl) ?_
    refine SOps.q rfl (.plain rfl) rfl (q_assign rfl rfl) ?_
    refine SOps.sub (st' := ⟨[(0, .c (.bool false))], []⟩) (sub_gen [] rfl rfl ⟨zc rfl rfl, trivial⟩ trivial) ?_
    refine SOps.nil ?_
    refine SCode.ret ?_
    obtain rfl := Option.some.inj h
    exact ⟨⟨[(0, .c (.bool false))], []⟩, _, sub_gen [] rfl rfl ⟨zc rfl rfl, trivial⟩ trivial, resA1 (v := .c (.bool false)) rfl rfl, rfl⟩
  refine SCode.region (show SOps _ _ _ [0, 1, 2, 3, 4, 5, 6, 7, 8, 9, 10, 11, 12, 13, 14, 15, 16, 17, 18, 19, 20, 21, 22, 23, 24, 25, 26, 27, 28, 29, 30, 31, 32, 33, 34, 35, 36, 37, 38, 39, 40] _ _ from ?_)
  refine SOps.q rfl (.plain rfl) rfl (q_move rfl rfl) ?_
  refine SOps.q rfl (.plain rfl) rfl (q_bsliceL (c := (cInt .i64)) (d0 := 0) [7, 6, 3] rfl rfl sl22 z3 rfl rfl rfl rfl rfl rfl rfl) ?_
  refine SOps.q rfl (.plain rfl) rfl (q_call (slices_Equal_int_int_ok F c_3.1 ([7, 6, 3]) c_13 g14) [] rfl fn12 ⟨⟨_, rfl, .inl ⟨rfl, rfl⟩⟩, ⟨_, rfl, .inl ⟨rfl, rfl⟩⟩, trivial⟩ (.inl rfl)) ?_
  refine SOps.q rfl (.plain rfl) rfl (q_move rfl rfl) ?_
  refine SOps.skip rfl 3 42 true rfl rfl (.inl (gF g15)) rfl ?_
  refine SOps.skip rfl 3 42 true rfl rfl (.inl (gF g15)) rfl ?_
  refine SOps.q rfl (.plain rfl) rfl (q_pick_f rfl rfl g15 rfl) ?_
  refine SOps.q rfl (.plain rfl) rfl (q_move rfl rfl) ?_
  refine SOps.skip rfl 7 46 true rfl rfl (.inl rfl) rfl ?_
  refine SOps.skip rfl 7 46 true rfl rfl (.inl rfl) rfl ?_
  refine SOps.skip rfl 7 46 true rfl rfl (.inl rfl) rfl ?_
  refine SOps.q rfl (.plain rfl) rfl (q_pick_f rfl rfl rfl rfl) ?_
  refine SOps.q rfl (.plain rfl) rfl (q_move rfl rfl) ?_
  refine SOps.skip rfl 12 51 true rfl rfl (.inl rfl) rfl ?_
  refine SOps.skip rfl 12 51 true rfl rfl (.inl rfl) rfl ?_
  refine SOps.q rfl (.plain rfl) rfl (q_pick_f rfl rfl rfl rfl) ?_
  refine SOps.q rfl (.plain rfl) rfl (q_move rfl rfl) ?_
  refine SOps.skip rfl 16 55 true rfl rfl (.inl rfl) rfl ?_
  refine SOps.skip rfl 16 55 true rfl rfl (.inl rfl) rfl ?_
  refine SOps.skip rfl 16 55 true rfl rfl (.inl rfl) rfl ?_
  refine SOps.q rfl (.plain rfl) rfl (q_pick_f rfl rfl rfl rfl) ?_
  refine SOps.q rfl (.plain rfl) rfl (q_move rfl rfl) ?_
  refine SOps.skip rfl 21 60 true rfl rfl (.inl rfl) rfl ?_
  refine SOps.skip rfl 21 60 true rfl rfl (.inl rfl) rfl ?_
  refine SOps.q rfl (.plain rfl) rfl (q_pick_f rfl rfl rfl rfl) ?_
  refine SOps.q rfl (.plain rfl) rfl (q_move rfl rfl) ?_
  refine SOps.skip rfl 25 64 true rfl rfl (.inl rfl) rfl ?_
  refine SOps.skip rfl 25 64 true rfl rfl (.inl rfl) rfl ?_
  refine SOps.skip rfl 25 64 true rfl rfl (.inl rfl) rfl ?_
  refine SOps.q rfl (.plain rfl) rfl (q_pick_f rfl rfl rfl rfl) ?_
  refine SOps.q rfl (.plain rfl) rfl (q_move rfl rfl) ?_
  refine SOps.skip rfl 30 69 true rfl rfl (.inl rfl) rfl ?_
  refine SOps.skip rfl 30 69 true rfl rfl (.inl rfl) rfl ?_
  refine SOps.q rfl (.plain rfl) rfl (q_pick_f rfl rfl rfl rfl) ?_
  refine SOps.q rfl (.plain rfl) rfl (q_move rfl rfl) ?_
  refine SOps.skip rfl 34 73 true rfl rfl (.inl rfl) rfl ?_
  refine SOps.skip rfl 34 73 true rfl rfl (.inl rfl) rfl ?_
  refine SOps.skip rfl 34 73 true rfl rfl (.inl rfl) rfl ?_
  refine SOps.skip rfl 34 73 true rfl rfl (.inl rfl) rfl ?_
  refine SOps.q rfl (.plain rfl) rfl (q_pick_f rfl rfl rfl rfl) ?_
  refine SOps.q rfl (.plain rfl) rfl (q_assign rfl rfl) ?_
  refine SOps.sub (st' := ⟨[(0, .c (.bool false))], []⟩) (sub_gen [] rfl rfl ⟨zc rfl rfl, trivial⟩ trivial) ?_
  refine SOps.nil ?_
  refine SCode.ret ?_
  obtain rfl := Option.some.inj h
  exact ⟨⟨[(0, .c (.bool false))], []⟩, _, sub_gen [] rfl rfl ⟨zc rfl rfl, trivial⟩ trivial, resA1 (v := .c (.bool false)) rfl rfl, rfl⟩
set_option maxRecDepth 100000 in
set_option maxHeartbeats 8000000 in
theorem chargenetref10_Right_ok (F : Nat) (a0_caps : List Int) (r : Int) (h : chargenetref10_Right F a0_caps = some r) :
    SFun Try.prog 25 [] [.c (.vec a0_caps.length 1 (gL (cInt .i64) 0 a0_caps))] (fun x _ => x = .c (.int .i64 r)) := by
  refine SFun.of (n := 25) Try.func25 rfl rfl rfl ?_
  unfold chargenetref10_Right at h
  show SCode _ _ _ ⟨[(0, .c (.vec a0_caps.length 1 (gL (cInt .i64) 0 a0_caps)))], []⟩ _
  refine SCode.seq ?_
  refine SCode.region (show SOps _ _ _ [0] _ _ from ?_)
  refine SOps.q rfl (.plain rfl) rfl (q_assign rfl rfl) ?_
  refine SOps.sub (st' := ⟨[(0, .c (.vec a0_caps.length 1 (gL (cInt .i64) 0 a0_caps)))], []⟩) (sub_gen [] rfl rfl ⟨zc rfl rfl, trivial⟩ trivial) ?_
  refine SOps.nil ?_
  refine SCode.seq ?_
  refine SCode.seq ?_
  refine SCode.region (show SOps _ _ _ [0, 1, 2] _ _ from ?_)
  refine SOps.q rfl (.plain rfl) rfl (q_move rfl rfl) ?_
  refine SOps.q rfl (.plain rfl) rfl (q_len_vec rfl rfl sl22) ?_
  refine SOps.q rfl (.plain rfl) rfl (q_gtr rfl rfl rfl) ?_
  refine SOps.sub (st' := ⟨[(0, .c (.vec a0_caps.length 1 (gL (cInt .i64) 0 a0_caps))), (6, .c (.bool (decide (64 < ((a0_caps).length : Int)))))], []⟩) (sub_gen [] rfl rfl ⟨zc rfl rfl, zc rfl rfl, trivial⟩ trivial) ?_
  refine SOps.nil ?_
  rcases cond_out h with ⟨g1, h⟩ | ⟨g1, h⟩
  · refine SCode.cond_t rfl g1 ?_
    refine SCode.seq ?_
    refine SCode.region (show SOps _ _ _ [0] _ _ from ?_)
    refine SOps.q rfl (.plain rfl) rfl (q_assign rfl rfl) ?_
    refine SOps.sub (st' := ⟨[(2, .c (.int .i64 3))], []⟩) (sub_gen [] rfl rfl ⟨zc rfl rfl, trivial⟩ trivial) ?_
    refine SOps.nil ?_
    refine SCode.ret ?_
    obtain rfl := Option.some.inj h
    exact ⟨⟨[(2, .c (.int .i64 3))], []⟩, _, sub_gen [] rfl rfl ⟨zc rfl rfl, trivial⟩ trivial, resA1 (v := .c (.int .i64 3)) rfl rfl, rfl⟩
  refine SCode.cond_f rfl g1 ?_
  refine SCode.skip ?_
  refine SCode.join (σ := Unit) (S := fun s => ⟨[], []⟩) (g := fun s => chargenetref10_Right_p2 = some r) ?_ ?_
  rotate_left
  · refine SCode.seq ?_
    refine SCode.region (show SOps _ _ _ [0] _ _ from ?_)
    refine SOps.q rfl (.plain rfl) rfl (q_assign rfl rfl) ?_
    refine SOps.sub (st' := ⟨[(0, .c (.vec a0_caps.length 1 (gL (cInt .i64) 0 a0_caps))), (3, .c (.int .i64 0))], []⟩) (sub_gen [] rfl rfl ⟨zc rfl rfl, zc rfl rfl, trivial⟩ trivial) ?_
    refine SOps.nil ?_
    refine SCode.block ?_
    refine SCode.sub (st' := ⟨[(0, .c (.vec a0_caps.length 1 (gL (cInt .i64) 0 a0_caps))), (3, .c (.int .i64 0))], []⟩) (sub_gen [] rfl rfl ⟨zc rfl rfl, zc rfl rfl, trivial⟩ trivial) ?_
    refine (SCode.loop (σ := Nat × Int) (S := fun s => ⟨[(0, .c (.vec a0_caps.length 1 (gL (cInt .i64) 0 a0_caps))), (3, .c (.int .i64 s.2))], []⟩) (g := fun s => chargenetref10_Right_l14 a0_caps s.1 s.2 = some r) (μ := fun s => s.1) (F, 0) h ?_)
    rintro ⟨n_14, i_8⟩ h
    replace h : chargenetref10_Right_l14 a0_caps n_14 i_8 = some r := h
    show SCode _ _ _ ⟨[(0, .c (.vec a0_caps.length 1 (gL (cInt .i64) 0 a0_caps))), (3, .c (.int .i64 i_8))], []⟩ _
    cases n_14 with
    | zero => cases h
    | succ n_14 =>
      replace h : chargenetref10_Right_b14 a0_caps (fun i_8 => chargenetref10_Right_l14 a0_caps n_14 i_8) i_8 = some r := h
      unfold chargenetref10_Right_b14 at h
      refine SCode.seq ?_
      refine SCode.seq ?_
      refine SCode.region (show SOps _ _ _ [0, 1, 2, 3] _ _ from ?_)
      refine SOps.q rfl (.plain rfl) rfl (q_move rfl rfl) ?_
      refine SOps.q rfl (.plain rfl) rfl (q_move rfl rfl) ?_
      refine SOps.q rfl (.plain rfl) rfl (q_len_vec rfl rfl sl22) ?_
      refine SOps.q rfl (.plain rfl) rfl (q_lss rfl rfl rfl) ?_
      refine SOps.sub (st' := ⟨[(0, .c (.vec a0_caps.length 1 (gL (cInt .i64) 0 a0_caps))), (3, .c (.int .i64 i_8)), (10, .c (.bool (decide (i_8 < ((a0_caps).length : Int)))))], []⟩) (sub_gen [] rfl rfl ⟨zc rfl rfl, zc rfl rfl, zc rfl rfl, trivial⟩ trivial) ?_
      refine SOps.nil ?_
      rcases cond_out h with ⟨g15, h⟩ | ⟨g15, h⟩
      · refine SCode.cond_t rfl g15 ?_
        refine SCode.skip ?_
        refine SCode.seq ?_
        refine SCode.block ?_
        refine SCode.seq ?_
        obtain ⟨g16, h⟩ := guard_out h
        rcases cond_out h with ⟨g17, h⟩ | ⟨g17, h⟩
        · refine SCode.region (show SOps _ _ _ [0, 1, 2, 3, 4, 5, 6, 7, 8, 9, 10, 11] _ _ from ?_)
          refine SOps.q rfl (.plain rfl) rfl (q_move rfl rfl) ?_
          refine SOps.q rfl (.plain rfl) rfl (q_move rfl rfl) ?_
          refine SOps.q rfl (.plain rfl) rfl (q_index_vec rfl rfl rfl sl22 rfl g16.1 g16.2) ?_
          refine SOps.q rfl (.plain rfl) rfl (q_load_eptr rfl rfl ty3) ?_
          refine SOps.q rfl (.plain rfl) rfl (q_lss rfl rfl rfl) ?_
          refine SOps.q rfl (.plain rfl) rfl (q_move rfl rfl) ?_
          refine SOps.skip rfl 5 18 false rfl rfl (.inl (gT g17)) rfl ?_
          refine SOps.skip rfl 5 18 false rfl rfl (.inl (gT g17)) rfl ?_
          refine SOps.skip rfl 5 18 false rfl rfl (.inl (gT g17)) rfl ?_
          refine SOps.skip rfl 5 18 false rfl rfl (.inl (gT g17)) rfl ?_
          refine SOps.skip rfl 5 18 false rfl rfl (.inl (gT g17)) rfl ?_
          refine SOps.q rfl (.plain rfl) rfl (q_pick_t rfl rfl g17 rfl) ?_
          refine SOps.sub (st' := ⟨[(0, .c (.vec a0_caps.length 1 (gL (cInt .i64) 0 a0_caps))), (3, .c (.int .i64 i_8)), (24, .c (.bool true))], []⟩) (sub_gen [] rfl rfl ⟨zc rfl rfl, zc rfl rfl, zc rfl rfl, trivial⟩ trivial) ?_
          refine SOps.nil ?_
          refine SCode.cond_t rfl rfl ?_
          refine SCode.seq ?_
          refine SCode.region (show SOps _ _ _ [0] _ _ from ?_)
          refine SOps.q rfl (.plain rfl) rfl (q_assign rfl rfl) ?_
          refine SOps.sub (st' := ⟨[(2, .c (.int .i64 2))], []⟩) (sub_gen [] rfl rfl ⟨zc rfl rfl, trivial⟩ trivial) ?_
          refine SOps.nil ?_
          refine SCode.ret ?_
          obtain rfl := Option.some.inj h
          exact ⟨⟨[(2, .c (.int .i64 2))], []⟩, _, sub_gen [] rfl rfl ⟨zc rfl rfl, trivial⟩ trivial, resA1 (v := .c (.int .i64 2)) rfl rfl, rfl⟩
        obtain ⟨g18, h⟩ := guard_out h
        refine SCode.region (show SOps _ _ _ [0, 1, 2, 3, 4, 5, 6, 7, 8, 9, 10, 11] _ _ from ?_)
        refine SOps.q rfl (.plain rfl) rfl (q_move rfl rfl) ?_
        refine SOps.q rfl (.plain rfl) rfl (q_move rfl rfl) ?_
        refine SOps.q rfl (.plain rfl) rfl (q_index_vec rfl rfl rfl sl22 rfl g16.1 g16.2) ?_
        refine SOps.q rfl (.plain rfl) rfl (q_load_eptr rfl rfl ty3) ?_
        refine SOps.q rfl (.plain rfl) rfl (q_lss rfl rfl rfl) ?_
        refine SOps.q rfl (.plain rfl) rfl (q_move rfl rfl) ?_
        refine SOps.q rfl (.guard 5 18 false rfl rfl (gF g17)) rfl (q_move rfl rfl) ?_
        refine SOps.q rfl (.guard 5 18 false rfl rfl (gF g17)) rfl (q_move rfl rfl) ?_
        refine SOps.q rfl (.guard 5 18 false rfl rfl (gF g17)) rfl (q_index_vec rfl rfl rfl sl22 rfl g18.1 g18.2) ?_
        refine SOps.q rfl (.guard 5 18 false rfl rfl (gF g17)) rfl (q_load_eptr rfl rfl ty3) ?_
        refine SOps.q rfl (.guard 5 18 false rfl rfl (gF g17)) rfl (q_gtr rfl rfl rfl) ?_
        refine SOps.q rfl (.plain rfl) rfl (q_pick_f rfl rfl g17 rfl) ?_
        refine SOps.sub (st' := ⟨[(0, .c (.vec a0_caps.length 1 (gL (cInt .i64) 0 a0_caps))), (3, .c (.int .i64 i_8)), (24, .c (.bool (decide (1099511627776 < a0_caps.getD i_8.toNat 0))))], []⟩) (sub_gen [] rfl rfl ⟨zc rfl rfl, zc rfl rfl, zc rfl rfl, trivial⟩ trivial) ?_
        refine SOps.nil ?_
        rcases cond_out h with ⟨g19, h⟩ | ⟨g19, h⟩
        · refine SCode.cond_t rfl g19 ?_
          refine SCode.seq ?_
          refine SCode.region (show SOps _ _ _ [0] _ _ from ?_)
          refine SOps.q rfl (.plain rfl) rfl (q_assign rfl rfl) ?_
          refine SOps.sub (st' := ⟨[(2, .c (.int .i64 2))], []⟩) (sub_gen [] rfl rfl ⟨zc rfl rfl, trivial⟩ trivial) ?_
          refine SOps.nil ?_
          refine SCode.ret ?_
          obtain rfl := Option.some.inj h
          exact ⟨⟨[(2, .c (.int .i64 2))], []⟩, _, sub_gen [] rfl rfl ⟨zc rfl rfl, trivial⟩ trivial, resA1 (v := .c (.int .i64 2)) rfl rfl, rfl⟩
        refine SCode.cond_f rfl g19 ?_
        refine SCode.skip ?_
        refine SCode.region (show SOps _ _ _ [0, 1, 2] _ _ from ?_)
        refine SOps.q rfl (.plain rfl) rfl (q_move rfl rfl) ?_
        refine SOps.q rfl (.plain rfl) rfl (q_add rfl rfl rfl) ?_
        refine SOps.q rfl (.plain rfl) rfl (q_assign rfl rfl) ?_
        refine SOps.sub (st' := ⟨[(0, .c (.vec a0_caps.length 1 (gL (cInt .i64) 0 a0_caps))), (3, .c (.int .i64 (IntKind.wrap .i64 (i_8 + 1))))], []⟩) (sub_gen [] rfl rfl ⟨zc rfl rfl, zc rfl rfl, trivial⟩ trivial) ?_
        refine SOps.nil ?_
        exact ⟨(n_14, IntKind.wrap .i64 (i_8 + 1)), h, Nat.lt_succ_self n_14, sub_gen [] rfl rfl ⟨zc rfl rfl, zc rfl rfl, trivial⟩ trivial⟩
      refine SCode.cond_f rfl g15 ?_
      refine SCode.exit ?_
      exact ⟨(), h, sub_gen [] rfl rfl trivial trivial⟩
  rintro ⟨⟩ h
  show SCode _ _ _ ⟨[], []⟩ _
  replace h : chargenetref10_Right_p2 = some r := h
  unfold chargenetref10_Right_p2 at h
  refine SCode.seq ?_
  refine SCode.region (show SOps _ _ _ [0] _ _ from ?_)
  refine SOps.q rfl (.plain rfl) rfl (q_assign rfl rfl) ?_
  refine SOps.sub (st' := ⟨[(2, .c (.int .i64 0))], []⟩) (sub_gen [] rfl rfl ⟨zc rfl rfl, trivial⟩ trivial) ?_
  refine SOps.nil ?_
  refine SCode.ret ?_
  obtain rfl := Option.some.inj h
  exact ⟨⟨[(2, .c (.int .i64 0))], []⟩, _, sub_gen [] rfl rfl ⟨zc rfl rfl, trivial⟩ trivial, resA1 (v := .c (.int .i64 0)) rfl rfl, rfl⟩
set_option maxRecDepth 100000 in
set_option maxHeartbeats 8000000 in
theorem chargenetref10_level_ok (F : Nat) (a0_caps : List Int) (a1_m : Int) (r : Int) (h : chargenetref10_level F a0_caps a1_m = some r) :
    SFun Try.prog 26 [] [.c (.vec a0_caps.length 1 (gL (cInt .i64) 0 a0_caps)), .c (.int .i64 a1_m)] (fun x _ => x = .c (.int .i64 r)) := by
  refine SFun.of (n := 22) Try.func26 rfl rfl rfl ?_
  unfold chargenetref10_level at h
  show SCode _ _ _ ⟨[(0, .c (.vec a0_caps.length 1 (gL (cInt .i64) 0 a0_caps))), (1, .c (.int .i64 a1_m))], []⟩ _
  refine SCode.seq ?_
  refine SCode.region (show SOps _ _ _ [0] _ _ from ?_)
  refine SOps.q rfl (.plain rfl) rfl (q_assign rfl rfl) ?_
  refine SOps.sub (st' := ⟨[(0, .c (.vec a0_caps.length 1 (gL (cInt .i64) 0 a0_caps))), (1, .c (.int .i64 a1_m))], []⟩) (sub_gen [] rfl rfl ⟨zc rfl rfl, zc rfl rfl, trivial⟩ trivial) ?_
  refine SOps.nil ?_
  refine SCode.seq ?_
  refine SCode.region (show SOps _ _ _ [0] _ _ from ?_)
  refine SOps.q rfl (.plain rfl) rfl (q_assign rfl rfl) ?_
  refine SOps.sub (st' := ⟨[(0, .c (.vec a0_caps.length 1 (gL (cInt .i64) 0 a0_caps))), (1, .c (.int .i64 a1_m)), (5, .c (.int .i64 0))], []⟩) (sub_gen [] rfl rfl ⟨zc rfl rfl, zc rfl rfl, zc rfl rfl, trivial⟩ trivial) ?_
  refine SOps.nil ?_
  refine SCode.join (σ := Int) (S := fun s => ⟨[(5, .c (.int .i64 s))], []⟩) (g := fun s => chargenetref10_level_p2 s = some r) ?_ ?_
  rotate_left
  · refine SCode.seq ?_
    refine SCode.region (show SOps _ _ _ [0] _ _ from ?_)
    refine SOps.q rfl (.plain rfl) rfl (q_assign rfl rfl) ?_
    refine SOps.sub (st' := ⟨[(0, .c (.vec a0_caps.length 1 (gL (cInt .i64) 0 a0_caps))), (1, .c (.int .i64 a1_m)), (5, .c (.int .i64 0)), (6, .c (.int .i64 0))], []⟩) (sub_gen [] rfl rfl ⟨zc rfl rfl, zc rfl rfl, zc rfl rfl, zc rfl rfl, trivial⟩ trivial) ?_
    refine SOps.nil ?_
    refine SCode.block ?_
    refine SCode.sub (st' := ⟨[(0, .c (.vec a0_caps.length 1 (gL (cInt .i64) 0 a0_caps))), (1, .c (.int .i64 a1_m)), (5, .c (.int .i64 0)), (6, .c (.int .i64 0))], []⟩) (sub_gen [] rfl rfl ⟨zc rfl rfl, zc rfl rfl, zc rfl rfl, zc rfl rfl, trivial⟩ trivial) ?_
    refine (SCode.loop (σ := Nat × (Int × Int)) (S := fun s => ⟨[(0, .c (.vec a0_caps.length 1 (gL (cInt .i64) 0 a0_caps))), (1, .c (.int .i64 a1_m)), (5, .c (.int .i64 s.2.1)), (6, .c (.int .i64 s.2.2))], []⟩) (g := fun s => chargenetref10_level_l9 a0_caps a1_m s.1 s.2.1 s.2.2 = some r) (μ := fun s => s.1) (F, (0, 0)) h ?_)
    rintro ⟨n_9, ⟨n_5, i_6⟩⟩ h
    replace h : chargenetref10_level_l9 a0_caps a1_m n_9 n_5 i_6 = some r := h
    show SCode _ _ _ ⟨[(0, .c (.vec a0_caps.length 1 (gL (cInt .i64) 0 a0_caps))), (1, .c (.int .i64 a1_m)), (5, .c (.int .i64 n_5)), (6, .c (.int .i64 i_6))], []⟩ _
    cases n_9 with
    | zero => cases h
    | succ n_9 =>
      replace h : chargenetref10_level_b9 a0_caps a1_m (fun n_5 i_6 => chargenetref10_level_l9 a0_caps a1_m n_9 n_5 i_6) n_5 i_6 = some r := h
      unfold chargenetref10_level_b9 at h
      refine SCode.seq ?_
      refine SCode.seq ?_
      refine SCode.region (show SOps _ _ _ [0, 1, 2, 3] _ _ from ?_)
      refine SOps.q rfl (.plain rfl) rfl (q_move rfl rfl) ?_
      refine SOps.q rfl (.plain rfl) rfl (q_move rfl rfl) ?_
      refine SOps.q rfl (.plain rfl) rfl (q_len_vec rfl rfl sl22) ?_
      refine SOps.q rfl (.plain rfl) rfl (q_lss rfl rfl rfl) ?_
      refine SOps.sub (st' := ⟨[(0, .c (.vec a0_caps.length 1 (gL (cInt .i64) 0 a0_caps))), (1, .c (.int .i64 a1_m)), (5, .c (.int .i64 n_5)), (6, .c (.int .i64 i_6)), (10, .c (.bool (decide (i_6 < ((a0_caps).length : Int)))))], []⟩) (sub_gen [] rfl rfl ⟨zc rfl rfl, zc rfl rfl, zc rfl rfl, zc rfl rfl, zc rfl rfl, trivial⟩ trivial) ?_
      refine SOps.nil ?_
      rcases cond_out h with ⟨g10, h⟩ | ⟨g10, h⟩
      · refine SCode.cond_t rfl g10 ?_
        refine SCode.skip ?_
        refine SCode.seq ?_
        refine SCode.block ?_
        obtain ⟨g11, h⟩ := guard_out h
        refine SCode.region (show SOps _ _ _ [0, 1, 2, 3, 4, 5, 6, 7, 8] _ _ from ?_)
        refine SOps.q rfl (.plain rfl) rfl (q_move rfl rfl) ?_
        refine SOps.q rfl (.plain rfl) rfl (q_move rfl rfl) ?_
        refine SOps.q rfl (.plain rfl) rfl (q_move rfl rfl) ?_
        refine SOps.q rfl (.plain rfl) rfl (q_move rfl rfl) ?_
        refine SOps.q rfl (.plain rfl) rfl (q_index_vec rfl rfl rfl sl22 rfl g11.1 g11.2) ?_
        refine SOps.q rfl (.plain rfl) rfl (q_load_eptr rfl rfl ty3) ?_
        refine SOps.q rfl (.plain rfl) rfl (q_min rfl rfl rfl) ?_
        refine SOps.q rfl (.plain rfl) rfl (q_add rfl rfl rfl) ?_
        refine SOps.q rfl (.plain rfl) rfl (q_assign rfl rfl) ?_
        refine SOps.sub (st' := ⟨[(0, .c (.vec a0_caps.length 1 (gL (cInt .i64) 0 a0_caps))), (1, .c (.int .i64 a1_m)), (5, .c (.int .i64 (IntKind.wrap .i64 (n_5 + (if a0_caps.getD i_6.toNat 0 < a1_m then a0_caps.getD i_6.toNat 0 else a1_m))))), (6, .c (.int .i64 i_6))], []⟩) (sub_gen [] rfl rfl ⟨zc rfl rfl, zc rfl rfl, zc rfl rfl, zc rfl rfl, trivial⟩ trivial) ?_
        refine SOps.nil ?_
        refine SCode.region (show SOps _ _ _ [0, 1, 2] _ _ from ?_)
        refine SOps.q rfl (.plain rfl) rfl (q_move rfl rfl) ?_
        refine SOps.q rfl (.plain rfl) rfl (q_add rfl rfl rfl) ?_
        refine SOps.q rfl (.plain rfl) rfl (q_assign rfl rfl) ?_
        refine SOps.sub (st' := ⟨[(0, .c (.vec a0_caps.length 1 (gL (cInt .i64) 0 a0_caps))), (1, .c (.int .i64 a1_m)), (5, .c (.int .i64 (IntKind.wrap .i64 (n_5 + (if a0_caps.getD i_6.toNat 0 < a1_m then a0_caps.getD i_6.toNat 0 else a1_m))))), (6, .c (.int .i64 (IntKind.wrap .i64 (i_6 + 1))))], []⟩) (sub_gen [] rfl rfl ⟨zc rfl rfl, zc rfl rfl, zc rfl rfl, zc rfl rfl, trivial⟩ trivial) ?_
        refine SOps.nil ?_
        exact ⟨(n_9, (IntKind.wrap .i64 (n_5 + (if a0_caps.getD i_6.toNat 0 < a1_m then a0_caps.getD i_6.toNat 0 else a1_m)), IntKind.wrap .i64 (i_6 + 1))), h, Nat.lt_succ_self n_9, sub_gen [] rfl rfl ⟨zc rfl rfl, zc rfl rfl, zc rfl rfl, zc rfl rfl, trivial⟩ trivial⟩
      refine SCode.cond_f rfl g10 ?_
      refine SCode.exit ?_
      exact ⟨n_5, h, sub_gen [] rfl rfl ⟨zc rfl rfl, trivial⟩ trivial⟩
  rintro n_1 h
  show SCode _ _ _ ⟨[(5, .c (.int .i64 n_1))], []⟩ _
  replace h : chargenetref10_level_p2 n_1 = some r := h
  unfold chargenetref10_level_p2 at h
  refine SCode.seq ?_
  refine SCode.region (show SOps _ _ _ [0, 1] _ _ from ?_)
  refine SOps.q rfl (.plain rfl) rfl (q_move rfl rfl) ?_
  refine SOps.q rfl (.plain rfl) rfl (q_assign rfl rfl) ?_
  refine SOps.sub (st' := ⟨[(4, .c (.int .i64 n_1))], []⟩) (sub_gen [] rfl rfl ⟨zc rfl rfl, trivial⟩ trivial) ?_
  refine SOps.nil ?_
  refine SCode.ret ?_
  obtain rfl := Option.some.inj h
  exact ⟨⟨[(4, .c (.int .i64 n_1))], []⟩, _, sub_gen [] rfl rfl ⟨zc rfl rfl, trivial⟩ trivial, resA1 (v := .c (.int .i64 n_1)) rfl rfl, rfl⟩
set_option maxRecDepth 100000 in
set_option maxHeartbeats 8000000 in
theorem chargenetref10_Share_ok (F : Nat) (a0_total : Int) (a1_caps : List Int) (r : (List Int) × Int) (h : chargenetref10_Share F a0_total a1_caps = some r) :
    SFun Try.prog 11 [] [.c (.int .i64 a0_total), .c (.vec a1_caps.length 1 (gL (cInt .i64) 0 a1_caps))] (fun x _ => x = .t [.c (.vec r.1.length 1 (gL (cInt .i64) 0 r.1)), .c (.int .i64 r.2)]) := by
  refine SFun.of (n := 77) Try.func11 rfl rfl rfl ?_
  unfold chargenetref10_Share at h
  show SCode _ _ _ ⟨[(0, .c (.int .i64 a0_total)), (1, .c (.vec a1_caps.length 1 (gL (cInt .i64) 0 a1_caps)))], []⟩ _
  refine SCode.seq ?_
  refine SCode.region (show SOps _ _ _ [0, 1] _ _ from ?_)
  refine SOps.q rfl (.plain rfl) rfl (q_assign rfl rfl) ?_
  refine SOps.q rfl (.plain rfl) rfl (q_assign rfl rfl) ?_
  refine SOps.sub (st' := ⟨[(0, .c (.int .i64 a0_total)), (1, .c (.vec a1_caps.length 1 (gL (cInt .i64) 0 a1_caps)))], []⟩) (sub_gen [] rfl rfl ⟨zc rfl rfl, zc rfl rfl, trivial⟩ trivial) ?_
  refine SOps.nil ?_
  refine SCode.seq ?_
  refine SCode.seq ?_
  refine SCode.region (show SOps _ _ _ [0, 1] _ _ from ?_)
  refine SOps.q rfl (.plain rfl) rfl (q_move rfl rfl) ?_
  refine SOps.q rfl (.plain rfl) rfl (q_lss rfl rfl rfl) ?_
  refine SOps.sub (st' := ⟨[(0, .c (.int .i64 a0_total)), (1, .c (.vec a1_caps.length 1 (gL (cInt .i64) 0 a1_caps))), (14, .c (.bool (decide (a0_total < 0))))], []⟩) (sub_gen [] rfl rfl ⟨zc rfl rfl, zc rfl rfl, zc rfl rfl, trivial⟩ trivial) ?_
  refine SOps.nil ?_
  rcases cond_out h with ⟨g1, h⟩ | ⟨g1, h⟩
  · refine SCode.cond_t rfl g1 ?_
    refine SCode.seq ?_
    refine SCode.region (show SOps _ _ _ [0, 1] _ _ from ?_)
    refine SOps.q rfl (.plain rfl) rfl (q_assign rfl rfl) ?_
    refine SOps.q rfl (.plain rfl) rfl (q_assign rfl rfl) ?_
    refine SOps.sub (st' := ⟨[(4, .c (.raw (.slice none 0 0))), (5, .c (.int .i64 2))], []⟩) (sub_gen [] rfl rfl ⟨zc rfl rfl, zc rfl rfl, trivial⟩ trivial) ?_
    refine SOps.nil ?_
    refine SCode.ret ?_
    obtain rfl := Option.some.inj h
    exact ⟨⟨[(4, .c (.vec (([] : List Int)).length 1 (gL (cInt .i64) 0 (([] : List Int))))), (5, .c (.int .i64 2))], []⟩, _, sub_gen [] rfl rfl ⟨⟨_, rfl, .inr (.inr (.inr (.inl ⟨_, _, rfl, rfl⟩)))⟩, zc rfl rfl, trivial⟩ trivial, resA2 (v1 := .c (.vec (([] : List Int)).length 1 (gL (cInt .i64) 0 (([] : List Int))))) (v2 := .c (.int .i64 2)) rfl rfl rfl, rfl⟩
  refine SCode.cond_f rfl g1 ?_
  refine SCode.skip ?_
  refine SCode.seq ?_
  refine SCode.seq ?_
  obtain ⟨c_2, g3, h⟩ := bind_out h
  try dsimp only at h
  refine SCode.region (show SOps _ _ _ [0, 1, 2] _ _ from ?_)
  refine SOps.q rfl (.plain rfl) rfl (q_move rfl rfl) ?_
  refine SOps.q rfl (.plain rfl) rfl (q_call (chargenetref10_Right_ok F a1_caps c_2 g3) [] rfl fn25 ⟨⟨_, rfl, .inl ⟨rfl, rfl⟩⟩, trivial⟩ (.inl rfl)) ?_
  refine SOps.q rfl (.plain rfl) rfl (q_assign rfl rfl) ?_
  refine SOps.sub (st' := ⟨[(0, .c (.int .i64 a0_total)), (1, .c (.vec a1_caps.length 1 (gL (cInt .i64) 0 a1_caps))), (6, .c (.int .i64 c_2))], []⟩) (sub_gen [] rfl rfl ⟨zc rfl rfl, zc rfl rfl, zc rfl rfl, trivial⟩ trivial) ?_
  refine SOps.nil ?_
  refine SCode.seq ?_
  refine SCode.region (show SOps _ _ _ [0, 1] _ _ from ?_)
  refine SOps.q rfl (.plain rfl) rfl (q_move rfl rfl) ?_
  refine SOps.q rfl (.plain rfl) rfl (q_neq rfl rfl rfl) ?_
  refine SOps.sub (st' := ⟨[(0, .c (.int .i64 a0_total)), (1, .c (.vec a1_caps.length 1 (gL (cInt .i64) 0 a1_caps))), (6, .c (.int .i64 c_2)), (18, .c (.bool ((!decide (c_2 = 0)))))], []⟩) (sub_gen [] rfl rfl ⟨zc rfl rfl, zc rfl rfl, zc rfl rfl, zc rfl rfl, trivial⟩ trivial) ?_
  refine SOps.nil ?_
  rcases cond_out h with ⟨g4, h⟩ | ⟨g4, h⟩
  · refine SCode.cond_t rfl g4 ?_
    refine SCode.seq ?_
    refine SCode.region (show SOps _ _ _ [0, 1, 2] _ _ from ?_)
    refine SOps.q rfl (.plain rfl) rfl (q_move rfl rfl) ?_
    refine SOps.q rfl (.plain rfl) rfl (q_assign rfl rfl) ?_
    refine SOps.q rfl (.plain rfl) rfl (q_assign rfl rfl) ?_
    refine SOps.sub (st' := ⟨[(4, .c (.raw (.slice none 0 0))), (5, .c (.int .i64 c_2))], []⟩) (sub_gen [] rfl rfl ⟨zc rfl rfl, zc rfl rfl, trivial⟩ trivial) ?_
    refine SOps.nil ?_
    refine SCode.ret ?_
    obtain rfl := Option.some.inj h
    exact ⟨⟨[(4, .c (.vec (([] : List Int)).length 1 (gL (cInt .i64) 0 (([] : List Int))))), (5, .c (.int .i64 c_2))], []⟩, _, sub_gen [] rfl rfl ⟨⟨_, rfl, .inr (.inr (.inr (.inl ⟨_, _, rfl, rfl⟩)))⟩, zc rfl rfl, trivial⟩ trivial, resA2 (v1 := .c (.vec (([] : List Int)).length 1 (gL (cInt .i64) 0 (([] : List Int))))) (v2 := .c (.int .i64 c_2)) rfl rfl rfl, rfl⟩
  refine SCode.cond_f rfl g4 ?_
  refine SCode.skip ?_
  refine SCode.seq ?_
  refine SCode.seq ?_
  obtain ⟨c_5, g6, h⟩ := bind_out h
  try dsimp only at h
  refine SCode.region (show SOps _ _ _ [0, 1, 2, 3] _ _ from ?_)
  refine SOps.q rfl (.plain rfl) rfl (q_move rfl rfl) ?_
  refine SOps.q rfl (.plain rfl) rfl (q_call (chargenetref10_level_ok F a1_caps 1099511627776 c_5 g6) [] rfl fn26 ⟨⟨_, rfl, .inl ⟨rfl, rfl⟩⟩, ⟨_, rfl, .inl ⟨rfl, rfl⟩⟩, trivial⟩ (.inl rfl)) ?_
  refine SOps.q rfl (.plain rfl) rfl (q_move rfl rfl) ?_
  refine SOps.q rfl (.plain rfl) rfl (q_leq rfl rfl rfl) ?_
  refine SOps.sub (st' := ⟨[(0, .c (.int .i64 a0_total)), (1, .c (.vec a1_caps.length 1 (gL (cInt .i64) 0 a1_caps))), (23, .c (.bool (decide (c_5 ≤ a0_total))))], []⟩) (sub_gen [] rfl rfl ⟨zc rfl rfl, zc rfl rfl, zc rfl rfl, trivial⟩ trivial) ?_
  refine SOps.nil ?_
  rcases cond_out h with ⟨g7, h⟩ | ⟨g7, h⟩
  · refine SCode.cond_t rfl g7 ?_
    refine SCode.seq ?_
    obtain ⟨g8, h⟩ := guard_out h
    refine SCode.region (show SOps _ _ _ [0, 1, 2, 3, 4] _ _ from ?_)
    refine SOps.e rfl (.plain rfl) (e_bslice0L (α := Int) (c := (cInt .i64)) (d0 := 0) rfl rfl rfl rfl sl22) ?_
    refine SOps.q rfl (.plain rfl) rfl (q_move rfl rfl) ?_
    refine SOps.e rfl (.plain rfl) (e_appendL (c := (cInt .i64)) (d0 := 0) (l := ([] : List Int)) (l2 := a1_caps) rfl rfl rfl rfl rfl rfl (.inl rfl) sl22 z3 rfl rfl oneInt g8.1 g8.2) ?_
    refine SOps.q rfl (.plain rfl) rfl (q_assign rfl rfl) ?_
    refine SOps.q rfl (.plain rfl) rfl (q_assign rfl rfl) ?_
    refine SOps.sub (st' := ⟨[(4, .c (.own 0 ((([] : List Int)) ++ a1_caps).length)), (5, .c (.int .i64 0))], [.arr 3 1 ((([] : List Int)) ++ a1_caps).length (gL (cInt .i64) 0 ((([] : List Int)) ++ a1_caps))]⟩) (sub_gen [1] rfl rfl ⟨zc rfl rfl, zc rfl rfl, trivial⟩ ⟨oa rfl, trivial⟩) ?_
    refine SOps.nil ?_
    refine SCode.ret ?_
    obtain rfl := Option.some.inj h
    exact ⟨⟨[(4, .c (.vec ((([] : List Int)) ++ a1_caps).length 1 (gL (cInt .i64) 0 ((([] : List Int)) ++ a1_caps)))), (5, .c (.int .i64 0))], []⟩, _, sub_gen [] rfl rfl ⟨⟨_, rfl, .inr (.inl ⟨_, _, _, _, _, _, _, rfl, rfl, rfl, Nat.le_refl _, fun _ _ _ _ => rfl, by decide⟩)⟩, zc rfl rfl, trivial⟩ trivial, resA2 (v1 := .c (.vec ((([] : List Int)) ++ a1_caps).length 1 (gL (cInt .i64) 0 ((([] : List Int)) ++ a1_caps)))) (v2 := .c (.int .i64 0)) rfl rfl rfl, rfl⟩
  refine SCode.cond_f rfl g7 ?_
  refine SCode.skip ?_
  refine SCode.seq ?_
  refine SCode.region (show SOps _ _ _ [0] _ _ from ?_)
  refine SOps.q rfl (.plain rfl) rfl (q_assign rfl rfl) ?_
  refine SOps.sub (st' := ⟨[(0, .c (.int .i64 a0_total)), (1, .c (.vec a1_caps.length 1 (gL (cInt .i64) 0 a1_caps))), (7, .c (.int .i64 0))], []⟩) (sub_gen [] rfl rfl ⟨zc rfl rfl, zc rfl rfl, zc rfl rfl, trivial⟩ trivial) ?_
  refine SOps.nil ?_
  refine SCode.join (σ := Int) (S := fun s => ⟨[(0, .c (.int .i64 a0_total)), (1, .c (.vec a1_caps.length 1 (gL (cInt .i64) 0 a1_caps))), (7, .c (.int .i64 s))], []⟩) (g := fun s => chargenetref10_Share_p45 F a0_total a1_caps s = some r) ?_ ?_
  rotate_left
  · refine SCode.seq ?_
    refine SCode.region (show SOps _ _ _ [0] _ _ from ?_)
    refine SOps.q rfl (.plain rfl) rfl (q_assign rfl rfl) ?_
    refine SOps.sub (st' := ⟨[(0, .c (.int .i64 a0_total)), (1, .c (.vec a1_caps.length 1 (gL (cInt .i64) 0 a1_caps))), (7, .c (.int .i64 0)), (8, .c (.int .i64 1099511627776))], []⟩) (sub_gen [] rfl rfl ⟨zc rfl rfl, zc rfl rfl, zc rfl rfl, zc rfl rfl, trivial⟩ trivial) ?_
    refine SOps.nil ?_
    refine SCode.block ?_
    refine SCode.sub (st' := ⟨[(0, .c (.int .i64 a0_total)), (1, .c (.vec a1_caps.length 1 (gL (cInt .i64) 0 a1_caps))), (7, .c (.int .i64 0)), (8, .c (.int .i64 1099511627776))], []⟩) (sub_gen [] rfl rfl ⟨zc rfl rfl, zc rfl rfl, zc rfl rfl, zc rfl rfl, trivial⟩ trivial) ?_
    refine (SCode.loop (σ := Nat × (Int × Int)) (S := fun s => ⟨[(0, .c (.int .i64 a0_total)), (1, .c (.vec a1_caps.length 1 (gL (cInt .i64) 0 a1_caps))), (7, .c (.int .i64 s.2.1)), (8, .c (.int .i64 s.2.2))], []⟩) (g := fun s => chargenetref10_Share_l60 F a0_total a1_caps s.1 s.2.1 s.2.2 = some r) (μ := fun s => s.1) (F, (0, 1099511627776)) h ?_)
    rintro ⟨n_60, ⟨m_52, step_53⟩⟩ h
    replace h : chargenetref10_Share_l60 F a0_total a1_caps n_60 m_52 step_53 = some r := h
    show SCode _ _ _ ⟨[(0, .c (.int .i64 a0_total)), (1, .c (.vec a1_caps.length 1 (gL (cInt .i64) 0 a1_caps))), (7, .c (.int .i64 m_52)), (8, .c (.int .i64 step_53))], []⟩ _
    cases n_60 with
    | zero => cases h
    | succ n_60 =>
      replace h : chargenetref10_Share_b60 F a0_total a1_caps (fun m_52 step_53 => chargenetref10_Share_l60 F a0_total a1_caps n_60 m_52 step_53) m_52 step_53 = some r := h
      unfold chargenetref10_Share_b60 at h
      refine SCode.seq ?_
      refine SCode.seq ?_
      refine SCode.region (show SOps _ _ _ [0, 1] _ _ from ?_)
      refine SOps.q rfl (.plain rfl) rfl (q_move rfl rfl) ?_
      refine SOps.q rfl (.plain rfl) rfl (q_gtr rfl rfl rfl) ?_
      refine SOps.sub (st' := ⟨[(0, .c (.int .i64 a0_total)), (1, .c (.vec a1_caps.length 1 (gL (cInt .i64) 0 a1_caps))), (7, .c (.int .i64 m_52)), (8, .c (.int .i64 step_53)), (28, .c (.bool (decide (0 < step_53))))], []⟩) (sub_gen [] rfl rfl ⟨zc rfl rfl, zc rfl rfl, zc rfl rfl, zc rfl rfl, zc rfl rfl, trivial⟩ trivial) ?_
      refine SOps.nil ?_
      rcases cond_out h with ⟨g61, h⟩ | ⟨g61, h⟩
      · refine SCode.cond_t rfl g61 ?_
        refine SCode.skip ?_
        refine SCode.join (σ := Int) (S := fun s => ⟨[(0, .c (.int .i64 a0_total)), (1, .c (.vec a1_caps.length 1 (gL (cInt .i64) 0 a1_caps))), (7, .c (.int .i64 s)), (8, .c (.int .i64 step_53))], []⟩) (g := fun s => chargenetref10_Share_p63 step_53 (fun m_52 step_53 => chargenetref10_Share_l60 F a0_total a1_caps n_60 m_52 step_53) s = some r) ?_ ?_
        rotate_left
        · refine SCode.block ?_
          refine SCode.seq ?_
          obtain ⟨c_64, g65, h⟩ := bind_out h
          try dsimp only at h
          refine SCode.region (show SOps _ _ _ [0, 1, 2, 3, 4, 5, 6] _ _ from ?_)
          refine SOps.q rfl (.plain rfl) rfl (q_move rfl rfl) ?_
          refine SOps.q rfl (.plain rfl) rfl (q_move rfl rfl) ?_
          refine SOps.q rfl (.plain rfl) rfl (q_move rfl rfl) ?_
          refine SOps.q rfl (.plain rfl) rfl (q_add rfl rfl rfl) ?_
          refine SOps.q rfl (.plain rfl) rfl (q_call (chargenetref10_level_ok F a1_caps (IntKind.wrap .i64 (m_52 + step_53)) c_64 g65) [] rfl fn26 ⟨⟨_, rfl, .inl ⟨rfl, rfl⟩⟩, ⟨_, rfl, .inl ⟨rfl, rfl⟩⟩, trivial⟩ (.inl rfl)) ?_
          refine SOps.q rfl (.plain rfl) rfl (q_move rfl rfl) ?_
          refine SOps.q rfl (.plain rfl) rfl (q_leq rfl rfl rfl) ?_
          refine SOps.sub (st' := ⟨[(0, .c (.int .i64 a0_total)), (1, .c (.vec a1_caps.length 1 (gL (cInt .i64) 0 a1_caps))), (7, .c (.int .i64 m_52)), (8, .c (.int .i64 step_53)), (37, .c (.bool (decide (c_64 ≤ a0_total))))], []⟩) (sub_gen [] rfl rfl ⟨zc rfl rfl, zc rfl rfl, zc rfl rfl, zc rfl rfl, zc rfl rfl, trivial⟩ trivial) ?_
          refine SOps.nil ?_
          rcases cond_out h with ⟨g66, h⟩ | ⟨g66, h⟩
          · refine SCode.cond_t rfl g66 ?_
            refine SCode.region (show SOps _ _ _ [0, 1, 2, 3] _ _ from ?_)
            refine SOps.q rfl (.plain rfl) rfl (q_move rfl rfl) ?_
            refine SOps.q rfl (.plain rfl) rfl (q_move rfl rfl) ?_
            refine SOps.q rfl (.plain rfl) rfl (q_add rfl rfl rfl) ?_
            refine SOps.q rfl (.plain rfl) rfl (q_assign rfl rfl) ?_
            refine SOps.sub (st' := ⟨[(0, .c (.int .i64 a0_total)), (1, .c (.vec a1_caps.length 1 (gL (cInt .i64) 0 a1_caps))), (7, .c (.int .i64 (IntKind.wrap .i64 (m_52 + step_53)))), (8, .c (.int .i64 step_53))], []⟩) (sub_gen [] rfl rfl ⟨zc rfl rfl, zc rfl rfl, zc rfl rfl, zc rfl rfl, trivial⟩ trivial) ?_
            refine SOps.nil ?_
            exact ⟨IntKind.wrap .i64 (m_52 + step_53), h, sub_gen [] rfl rfl ⟨zc rfl rfl, zc rfl rfl, zc rfl rfl, zc rfl rfl, trivial⟩ trivial⟩
          refine SCode.cond_f rfl g66 ?_
          refine SCode.skip ?_
          exact ⟨m_52, h, sub_gen [] rfl rfl ⟨zc rfl rfl, zc rfl rfl, zc rfl rfl, zc rfl rfl, trivial⟩ trivial⟩
        rintro m_62 h
        show SCode _ _ _ ⟨[(0, .c (.int .i64 a0_total)), (1, .c (.vec a1_caps.length 1 (gL (cInt .i64) 0 a1_caps))), (7, .c (.int .i64 m_62)), (8, .c (.int .i64 step_53))], []⟩ _
        replace h : chargenetref10_Share_p63 step_53 (fun m_52 step_53 => chargenetref10_Share_l60 F a0_total a1_caps n_60 m_52 step_53) m_62 = some r := h
        unfold chargenetref10_Share_p63 at h
        refine SCode.region (show SOps _ _ _ [0, 1, 2] _ _ from ?_)
        refine SOps.q rfl (.plain rfl) rfl (q_move rfl rfl) ?_
        refine SOps.q rfl (.plain rfl) rfl (q_quo rfl rfl rfl (by decide)) ?_
        refine SOps.q rfl (.plain rfl) rfl (q_assign rfl rfl) ?_
        refine SOps.sub (st' := ⟨[(0, .c (.int .i64 a0_total)), (1, .c (.vec a1_caps.length 1 (gL (cInt .i64) 0 a1_caps))), (7, .c (.int .i64 m_62)), (8, .c (.int .i64 (IntKind.wrap .i64 (Int.tdiv step_53 2))))], []⟩) (sub_gen [] rfl rfl ⟨zc rfl rfl, zc rfl rfl, zc rfl rfl, zc rfl rfl, trivial⟩ trivial) ?_
        refine SOps.nil ?_
        exact ⟨(n_60, (m_62, IntKind.wrap .i64 (Int.tdiv step_53 2))), h, Nat.lt_succ_self n_60, sub_gen [] rfl rfl ⟨zc rfl rfl, zc rfl rfl, zc rfl rfl, zc rfl rfl, trivial⟩ trivial⟩
      refine SCode.cond_f rfl g61 ?_
      refine SCode.exit ?_
      exact ⟨m_52, h, sub_gen [] rfl rfl ⟨zc rfl rfl, zc rfl rfl, zc rfl rfl, trivial⟩ trivial⟩
  rintro m_9 h
  show SCode _ _ _ ⟨[(0, .c (.int .i64 a0_total)), (1, .c (.vec a1_caps.length 1 (gL (cInt .i64) 0 a1_caps))), (7, .c (.int .i64 m_9))], []⟩ _
  replace h : chargenetref10_Share_p45 F a0_total a1_caps m_9 = some r := h
  unfold chargenetref10_Share_p45 at h
  refine SCode.seq ?_
  obtain ⟨c_10, g11, h⟩ := bind_out h
  try dsimp only at h
  refine SCode.region (show SOps _ _ _ [0, 1, 2, 3, 4, 5] _ _ from ?_)
  refine SOps.q rfl (.plain rfl) rfl (q_move rfl rfl) ?_
  refine SOps.q rfl (.plain rfl) rfl (q_move rfl rfl) ?_
  refine SOps.q rfl (.plain rfl) rfl (q_move rfl rfl) ?_
  refine SOps.q rfl (.plain rfl) rfl (q_call (chargenetref10_level_ok F a1_caps m_9 c_10 g11) [] rfl fn26 ⟨⟨_, rfl, .inl ⟨rfl, rfl⟩⟩, ⟨_, rfl, .inl ⟨rfl, rfl⟩⟩, trivial⟩ (.inl rfl)) ?_
  refine SOps.q rfl (.plain rfl) rfl (q_sub rfl rfl rfl) ?_
  refine SOps.q rfl (.plain rfl) rfl (q_assign rfl rfl) ?_
  refine SOps.sub (st' := ⟨[(1, .c (.vec a1_caps.length 1 (gL (cInt .i64) 0 a1_caps))), (7, .c (.int .i64 m_9)), (9, .c (.int .i64 (IntKind.wrap .i64 (a0_total - c_10))))], []⟩) (sub_gen [] rfl rfl ⟨zc rfl rfl, zc rfl rfl, zc rfl rfl, trivial⟩ trivial) ?_
  refine SOps.nil ?_
  refine SCode.seq ?_
  refine SCode.region (show SOps _ _ _ [0] _ _ from ?_)
  refine SOps.q rfl (.plain rfl) rfl (q_assign rfl rfl) ?_
  refine SOps.nilArrL (T := 3) (k := 1) (cInt .i64) 0 (s := 10) rfl rfl ?_
  refine SOps.sub (st' := ⟨[(1, .c (.vec a1_caps.length 1 (gL (cInt .i64) 0 a1_caps))), (7, .c (.int .i64 m_9)), (9, .c (.int .i64 (IntKind.wrap .i64 (a0_total - c_10)))), (10, .c (.own 0 (([] : List Int)).length))], [.arr 3 1 (([] : List Int)).length (gL (cInt .i64) 0 (([] : List Int)))]⟩) (sub_gen [0] rfl rfl ⟨zc rfl rfl, zc rfl rfl, zc rfl rfl, zc rfl rfl, trivial⟩ ⟨oa rfl, trivial⟩) ?_
  refine SOps.nil ?_
  refine SCode.join (σ := (List Int)) (S := fun s => ⟨[(10, .c (.own 0 s.length))], [.arr 3 1 s.length (gL (cInt .i64) 0 s)]⟩) (g := fun s => chargenetref10_Share_p13 s = some r) ?_ ?_
  rotate_left
  · refine SCode.seq ?_
    refine SCode.region (show SOps _ _ _ [0] _ _ from ?_)
    refine SOps.q rfl (.plain rfl) rfl (q_assign rfl rfl) ?_
    refine SOps.sub (st' := ⟨[(1, .c (.vec a1_caps.length 1 (gL (cInt .i64) 0 a1_caps))), (7, .c (.int .i64 m_9)), (9, .c (.int .i64 (IntKind.wrap .i64 (a0_total - c_10)))), (10, .c (.own 0 (([] : List Int)).length)), (11, .c (.int .i64 0))], [.arr 3 1 (([] : List Int)).length (gL (cInt .i64) 0 (([] : List Int)))]⟩) (sub_gen [0] rfl rfl ⟨zc rfl rfl, zc rfl rfl, zc rfl rfl, zc rfl rfl, zc rfl rfl, trivial⟩ ⟨oa rfl, trivial⟩) ?_
    refine SOps.nil ?_
    refine SCode.block ?_
    refine SCode.sub (st' := ⟨[(1, .c (.vec a1_caps.length 1 (gL (cInt .i64) 0 a1_caps))), (7, .c (.int .i64 m_9)), (9, .c (.int .i64 (IntKind.wrap .i64 (a0_total - c_10)))), (10, .c (.own 0 ([] : List Int).length)), (11, .c (.int .i64 0))], [.arr 3 1 ([] : List Int).length (gL (cInt .i64) 0 ([] : List Int))]⟩) (sub_gen [0] rfl rfl ⟨zc rfl rfl, zc rfl rfl, zc rfl rfl, zc rfl rfl, zc rfl rfl, trivial⟩ ⟨oa rfl, trivial⟩) ?_
    refine (SCode.loop (σ := Nat × (Int × Int × (List Int))) (S := fun s => ⟨[(1, .c (.vec a1_caps.length 1 (gL (cInt .i64) 0 a1_caps))), (7, .c (.int .i64 m_9)), (9, .c (.int .i64 s.2.1)), (10, .c (.own 0 s.2.2.2.length)), (11, .c (.int .i64 s.2.2.1))], [.arr 3 1 s.2.2.2.length (gL (cInt .i64) 0 s.2.2.2)]⟩) (g := fun s => chargenetref10_Share_l35 a1_caps m_9 s.1 s.2.1 s.2.2.1 s.2.2.2 = some r) (μ := fun s => s.1) (F, (IntKind.wrap .i64 (a0_total - c_10), 0, ([] : List Int))) h ?_)
    rintro ⟨n_35, ⟨rest_23, i_24, o0_25⟩⟩ h
    replace h : chargenetref10_Share_l35 a1_caps m_9 n_35 rest_23 i_24 o0_25 = some r := h
    show SCode _ _ _ ⟨[(1, .c (.vec a1_caps.length 1 (gL (cInt .i64) 0 a1_caps))), (7, .c (.int .i64 m_9)), (9, .c (.int .i64 rest_23)), (10, .c (.own 0 o0_25.length)), (11, .c (.int .i64 i_24))], [.arr 3 1 o0_25.length (gL (cInt .i64) 0 o0_25)]⟩ _
    cases n_35 with
    | zero => cases h
    | succ n_35 =>
      replace h : chargenetref10_Share_b35 a1_caps m_9 (fun rest_23 i_24 o0_25 => chargenetref10_Share_l35 a1_caps m_9 n_35 rest_23 i_24 o0_25) rest_23 i_24 o0_25 = some r := h
      unfold chargenetref10_Share_b35 at h
      refine SCode.seq ?_
      refine SCode.seq ?_
      refine SCode.region (show SOps _ _ _ [0, 1, 2, 3] _ _ from ?_)
      refine SOps.q rfl (.plain rfl) rfl (q_move rfl rfl) ?_
      refine SOps.q rfl (.plain rfl) rfl (q_move rfl rfl) ?_
      refine SOps.q rfl (.plain rfl) rfl (q_len_vec rfl rfl sl22) ?_
      refine SOps.q rfl (.plain rfl) rfl (q_lss rfl rfl rfl) ?_
      refine SOps.sub (st' := ⟨[(1, .c (.vec a1_caps.length 1 (gL (cInt .i64) 0 a1_caps))), (7, .c (.int .i64 m_9)), (9, .c (.int .i64 rest_23)), (10, .c (.own 0 o0_25.length)), (11, .c (.int .i64 i_24)), (49, .c (.bool (decide (i_24 < ((a1_caps).length : Int)))))], [.arr 3 1 o0_25.length (gL (cInt .i64) 0 o0_25)]⟩) (sub_gen [0] rfl rfl ⟨zc rfl rfl, zc rfl rfl, zc rfl rfl, zc rfl rfl, zc rfl rfl, zc rfl rfl, trivial⟩ ⟨oa rfl, trivial⟩) ?_
      refine SOps.nil ?_
      rcases cond_out h with ⟨g36, h⟩ | ⟨g36, h⟩
      · refine SCode.cond_t rfl g36 ?_
        refine SCode.skip ?_
        refine SCode.seq ?_
        refine SCode.block ?_
        refine SCode.seq ?_
        obtain ⟨g37, h⟩ := guard_out h
        refine SCode.region (show SOps _ _ _ [0, 1, 2, 3, 4, 5, 6] _ _ from ?_)
        refine SOps.q rfl (.plain rfl) rfl (q_move rfl rfl) ?_
        refine SOps.q rfl (.plain rfl) rfl (q_move rfl rfl) ?_
        refine SOps.q rfl (.plain rfl) rfl (q_move rfl rfl) ?_
        refine SOps.q rfl (.plain rfl) rfl (q_index_vec rfl rfl rfl sl22 rfl g37.1 g37.2) ?_
        refine SOps.q rfl (.plain rfl) rfl (q_load_eptr rfl rfl ty3) ?_
        refine SOps.q rfl (.plain rfl) rfl (q_min rfl rfl rfl) ?_
        refine SOps.q rfl (.plain rfl) rfl (q_assign rfl rfl) ?_
        refine SOps.sub (st' := ⟨[(1, .c (.vec a1_caps.length 1 (gL (cInt .i64) 0 a1_caps))), (7, .c (.int .i64 m_9)), (9, .c (.int .i64 rest_23)), (10, .c (.own 0 o0_25.length)), (11, .c (.int .i64 i_24)), (12, .c (.int .i64 ((if a1_caps.getD i_24.toNat 0 < m_9 then a1_caps.getD i_24.toNat 0 else m_9))))], [.arr 3 1 o0_25.length (gL (cInt .i64) 0 o0_25)]⟩) (sub_gen [0] rfl rfl ⟨zc rfl rfl, zc rfl rfl, zc rfl rfl, zc rfl rfl, zc rfl rfl, zc rfl rfl, trivial⟩ ⟨oa rfl, trivial⟩) ?_
        refine SOps.nil ?_
        refine SCode.join (σ := Int × Int) (S := fun s => ⟨[(1, .c (.vec a1_caps.length 1 (gL (cInt .i64) 0 a1_caps))), (7, .c (.int .i64 m_9)), (9, .c (.int .i64 s.1)), (10, .c (.own 0 o0_25.length)), (11, .c (.int .i64 i_24)), (12, .c (.int .i64 s.2))], [.arr 3 1 o0_25.length (gL (cInt .i64) 0 o0_25)]⟩) (g := fun s => chargenetref10_Share_p41 i_24 o0_25 (fun rest_23 i_24 o0_25 => chargenetref10_Share_l35 a1_caps m_9 n_35 rest_23 i_24 o0_25) s.1 s.2 = some r) ?_ ?_
        rotate_left
        · refine SCode.seq ?_
          obtain ⟨g42, h⟩ := guard_out h
          rcases cond_out h with ⟨g43, h⟩ | ⟨g43, h⟩
          · refine SCode.region (show SOps _ _ _ [0, 1, 2, 3, 4, 5, 6, 7, 8, 9] _ _ from ?_)
            refine SOps.q rfl (.plain rfl) rfl (q_move rfl rfl) ?_
            refine SOps.q rfl (.plain rfl) rfl (q_move rfl rfl) ?_
            refine SOps.q rfl (.plain rfl) rfl (q_index_vec rfl rfl rfl sl22 rfl g42.1 g42.2) ?_
            refine SOps.q rfl (.plain rfl) rfl (q_load_eptr rfl rfl ty3) ?_
            refine SOps.q rfl (.plain rfl) rfl (q_move rfl rfl) ?_
            refine SOps.q rfl (.plain rfl) rfl (q_gtr rfl rfl rfl) ?_
            refine SOps.q rfl (.plain rfl) rfl (q_move rfl rfl) ?_
            refine SOps.q rfl (.guard 6 64 true rfl rfl (gT g43)) rfl (q_move rfl rfl) ?_
            refine SOps.q rfl (.guard 6 64 true rfl rfl (gT g43)) rfl (q_gtr rfl rfl rfl) ?_
            refine SOps.q rfl (.plain rfl) rfl (q_pick_t rfl rfl g43 rfl) ?_
            refine SOps.sub (st' := ⟨[(1, .c (.vec a1_caps.length 1 (gL (cInt .i64) 0 a1_caps))), (7, .c (.int .i64 m_9)), (9, .c (.int .i64 rest_23)), (10, .c (.own 0 o0_25.length)), (11, .c (.int .i64 i_24)), (12, .c (.int .i64 ((if a1_caps.getD i_24.toNat 0 < m_9 then a1_caps.getD i_24.toNat 0 else m_9)))), (67, .c (.bool (decide (0 < rest_23))))], [.arr 3 1 o0_25.length (gL (cInt .i64) 0 o0_25)]⟩) (sub_gen [0] rfl rfl ⟨zc rfl rfl, zc rfl rfl, zc rfl rfl, zc rfl rfl, zc rfl rfl, zc rfl rfl, zc rfl rfl, trivial⟩ ⟨oa rfl, trivial⟩) ?_
            refine SOps.nil ?_
            rcases cond_out h with ⟨g44, h⟩ | ⟨g44, h⟩
            · refine SCode.cond_t rfl g44 ?_
              refine SCode.seq ?_
              refine SCode.region (show SOps _ _ _ [0, 1, 2] _ _ from ?_)
              refine SOps.q rfl (.plain rfl) rfl (q_move rfl rfl) ?_
              refine SOps.q rfl (.plain rfl) rfl (q_add rfl rfl rfl) ?_
              refine SOps.q rfl (.plain rfl) rfl (q_assign rfl rfl) ?_
              refine SOps.sub (st' := ⟨[(1, .c (.vec a1_caps.length 1 (gL (cInt .i64) 0 a1_caps))), (7, .c (.int .i64 m_9)), (9, .c (.int .i64 rest_23)), (10, .c (.own 0 o0_25.length)), (11, .c (.int .i64 i_24)), (12, .c (.int .i64 (IntKind.wrap .i64 ((if a1_caps.getD i_24.toNat 0 < m_9 then a1_caps.getD i_24.toNat 0 else m_9) + 1))))], [.arr 3 1 o0_25.length (gL (cInt .i64) 0 o0_25)]⟩) (sub_gen [0] rfl rfl ⟨zc rfl rfl, zc rfl rfl, zc rfl rfl, zc rfl rfl, zc rfl rfl, zc rfl rfl, trivial⟩ ⟨oa rfl, trivial⟩) ?_
              refine SOps.nil ?_
              refine SCode.region (show SOps _ _ _ [0, 1, 2] _ _ from ?_)
              refine SOps.q rfl (.plain rfl) rfl (q_move rfl rfl) ?_
              refine SOps.q rfl (.plain rfl) rfl (q_sub rfl rfl rfl) ?_
              refine SOps.q rfl (.plain rfl) rfl (q_assign rfl rfl) ?_
              refine SOps.sub (st' := ⟨[(1, .c (.vec a1_caps.length 1 (gL (cInt .i64) 0 a1_caps))), (7, .c (.int .i64 m_9)), (9, .c (.int .i64 (IntKind.wrap .i64 (rest_23 - 1)))), (10, .c (.own 0 o0_25.length)), (11, .c (.int .i64 i_24)), (12, .c (.int .i64 (IntKind.wrap .i64 ((if a1_caps.getD i_24.toNat 0 < m_9 then a1_caps.getD i_24.toNat 0 else m_9) + 1))))], [.arr 3 1 o0_25.length (gL (cInt .i64) 0 o0_25)]⟩) (sub_gen [0] rfl rfl ⟨zc rfl rfl, zc rfl rfl, zc rfl rfl, zc rfl rfl, zc rfl rfl, zc rfl rfl, trivial⟩ ⟨oa rfl, trivial⟩) ?_
              refine SOps.nil ?_
              exact ⟨(IntKind.wrap .i64 (rest_23 - 1), IntKind.wrap .i64 ((if a1_caps.getD i_24.toNat 0 < m_9 then a1_caps.getD i_24.toNat 0 else m_9) + 1)), h, sub_gen [0] rfl rfl ⟨zc rfl rfl, zc rfl rfl, zc rfl rfl, zc rfl rfl, zc rfl rfl, zc rfl rfl, trivial⟩ ⟨oa rfl, trivial⟩⟩
            refine SCode.cond_f rfl g44 ?_
            refine SCode.skip ?_
            exact ⟨(rest_23, (if a1_caps.getD i_24.toNat 0 < m_9 then a1_caps.getD i_24.toNat 0 else m_9)), h, sub_gen [0] rfl rfl ⟨zc rfl rfl, zc rfl rfl, zc rfl rfl, zc rfl rfl, zc rfl rfl, zc rfl rfl, trivial⟩ ⟨oa rfl, trivial⟩⟩
          refine SCode.region (show SOps _ _ _ [0, 1, 2, 3, 4, 5, 6, 7, 8, 9] _ _ from ?_)
          refine SOps.q rfl (.plain rfl) rfl (q_move rfl rfl) ?_
          refine SOps.q rfl (.plain rfl) rfl (q_move rfl rfl) ?_
          refine SOps.q rfl (.plain rfl) rfl (q_index_vec rfl rfl rfl sl22 rfl g42.1 g42.2) ?_
          refine SOps.q rfl (.plain rfl) rfl (q_load_eptr rfl rfl ty3) ?_
          refine SOps.q rfl (.plain rfl) rfl (q_move rfl rfl) ?_
          refine SOps.q rfl (.plain rfl) rfl (q_gtr rfl rfl rfl) ?_
          refine SOps.q rfl (.plain rfl) rfl (q_move rfl rfl) ?_
          refine SOps.skip rfl 6 64 true rfl rfl (.inl (gF g43)) rfl ?_
          refine SOps.skip rfl 6 64 true rfl rfl (.inl (gF g43)) rfl ?_
          refine SOps.q rfl (.plain rfl) rfl (q_pick_f rfl rfl g43 rfl) ?_
          refine SOps.sub (st' := ⟨[(1, .c (.vec a1_caps.length 1 (gL (cInt .i64) 0 a1_caps))), (7, .c (.int .i64 m_9)), (9, .c (.int .i64 rest_23)), (10, .c (.own 0 o0_25.length)), (11, .c (.int .i64 i_24)), (12, .c (.int .i64 ((if a1_caps.getD i_24.toNat 0 < m_9 then a1_caps.getD i_24.toNat 0 else m_9)))), (67, .c (.bool false))], [.arr 3 1 o0_25.length (gL (cInt .i64) 0 o0_25)]⟩) (sub_gen [0] rfl rfl ⟨zc rfl rfl, zc rfl rfl, zc rfl rfl, zc rfl rfl, zc rfl rfl, zc rfl rfl, zc rfl rfl, trivial⟩ ⟨oa rfl, trivial⟩) ?_
          refine SOps.nil ?_
          refine SCode.cond_f rfl rfl ?_
          refine SCode.skip ?_
          exact ⟨(rest_23, (if a1_caps.getD i_24.toNat 0 < m_9 then a1_caps.getD i_24.toNat 0 else m_9)), h, sub_gen [0] rfl rfl ⟨zc rfl rfl, zc rfl rfl, zc rfl rfl, zc rfl rfl, zc rfl rfl, zc rfl rfl, trivial⟩ ⟨oa rfl, trivial⟩⟩
        rintro ⟨rest_38, n_39⟩ h
        show SCode _ _ _ ⟨[(1, .c (.vec a1_caps.length 1 (gL (cInt .i64) 0 a1_caps))), (7, .c (.int .i64 m_9)), (9, .c (.int .i64 rest_38)), (10, .c (.own 0 o0_25.length)), (11, .c (.int .i64 i_24)), (12, .c (.int .i64 n_39))], [.arr 3 1 o0_25.length (gL (cInt .i64) 0 o0_25)]⟩ _
        replace h : chargenetref10_Share_p41 i_24 o0_25 (fun rest_23 i_24 o0_25 => chargenetref10_Share_l35 a1_caps m_9 n_35 rest_23 i_24 o0_25) rest_38 n_39 = some r := h
        unfold chargenetref10_Share_p41 at h
        obtain ⟨g40, h⟩ := guard_out h
        refine SCode.region (show SOps _ _ _ [0, 1, 2, 3, 4] _ _ from ?_)
        refine SOps.q rfl (.plain rfl) rfl (q_move rfl rfl) ?_
        refine SOps.q rfl (.plain rfl) rfl (q_move rfl rfl) ?_
        refine SOps.q rfl (.plain rfl) rfl (q_bsliceL (c := (cInt .i64)) (d0 := 0) [n_39] rfl rfl sl22 z3 rfl rfl rfl rfl rfl rfl rfl) ?_
        refine SOps.e rfl (.plain rfl) (e_appendL (c := (cInt .i64)) (d0 := 0) (l := o0_25) (l2 := [n_39]) rfl rfl rfl rfl rfl rfl (.inl rfl) sl22 z3 rfl rfl oneInt g40.1 g40.2) ?_
        refine SOps.q rfl (.plain rfl) rfl (q_assign rfl rfl) ?_
        refine SOps.sub (st' := ⟨[(1, .c (.vec a1_caps.length 1 (gL (cInt .i64) 0 a1_caps))), (7, .c (.int .i64 m_9)), (9, .c (.int .i64 rest_38)), (10, .c (.own 0 (o0_25 ++ ([n_39])).length)), (11, .c (.int .i64 i_24))], [.arr 3 1 (o0_25 ++ ([n_39])).length (gL (cInt .i64) 0 (o0_25 ++ ([n_39])))]⟩) (sub_gen [1] rfl rfl ⟨zc rfl rfl, zc rfl rfl, zc rfl rfl, zc rfl rfl, zc rfl rfl, trivial⟩ ⟨oa rfl, trivial⟩) ?_
        refine SOps.nil ?_
        refine SCode.region (show SOps _ _ _ [0, 1, 2] _ _ from ?_)
        refine SOps.q rfl (.plain rfl) rfl (q_move rfl rfl) ?_
        refine SOps.q rfl (.plain rfl) rfl (q_add rfl rfl rfl) ?_
        refine SOps.q rfl (.plain rfl) rfl (q_assign rfl rfl) ?_
        refine SOps.sub (st' := ⟨[(1, .c (.vec a1_caps.length 1 (gL (cInt .i64) 0 a1_caps))), (7, .c (.int .i64 m_9)), (9, .c (.int .i64 rest_38)), (10, .c (.own 0 (o0_25 ++ ([n_39])).length)), (11, .c (.int .i64 (IntKind.wrap .i64 (i_24 + 1))))], [.arr 3 1 (o0_25 ++ ([n_39])).length (gL (cInt .i64) 0 (o0_25 ++ ([n_39])))]⟩) (sub_gen [0] rfl rfl ⟨zc rfl rfl, zc rfl rfl, zc rfl rfl, zc rfl rfl, zc rfl rfl, trivial⟩ ⟨oa rfl, trivial⟩) ?_
        refine SOps.nil ?_
        exact ⟨(n_35, (rest_38, IntKind.wrap .i64 (i_24 + 1), o0_25 ++ ([n_39]))), h, Nat.lt_succ_self n_35, sub_gen [0] rfl rfl ⟨zc rfl rfl, zc rfl rfl, zc rfl rfl, zc rfl rfl, zc rfl rfl, trivial⟩ ⟨oa rfl, trivial⟩⟩
      refine SCode.cond_f rfl g36 ?_
      refine SCode.exit ?_
      exact ⟨o0_25, h, sub_gen [0] rfl rfl ⟨zc rfl rfl, trivial⟩ ⟨oa rfl, trivial⟩⟩
  rintro o0_12 h
  show SCode _ _ _ ⟨[(10, .c (.own 0 o0_12.length))], [.arr 3 1 o0_12.length (gL (cInt .i64) 0 o0_12)]⟩ _
  replace h : chargenetref10_Share_p13 o0_12 = some r := h
  unfold chargenetref10_Share_p13 at h
  refine SCode.seq ?_
  refine SCode.region (show SOps _ _ _ [0, 1, 2] _ _ from ?_)
  refine SOps.q rfl (.plain rfl) rfl (q_move rfl rfl) ?_
  refine SOps.q rfl (.plain rfl) rfl (q_assign rfl rfl) ?_
  refine SOps.q rfl (.plain rfl) rfl (q_assign rfl rfl) ?_
  refine SOps.sub (st' := ⟨[(4, .c (.own 0 o0_12.length)), (5, .c (.int .i64 0))], [.arr 3 1 o0_12.length (gL (cInt .i64) 0 o0_12)]⟩) (sub_gen [0] rfl rfl ⟨zc rfl rfl, zc rfl rfl, trivial⟩ ⟨oa rfl, trivial⟩) ?_
  refine SOps.nil ?_
  refine SCode.ret ?_
  obtain rfl := Option.some.inj h
  exact ⟨⟨[(4, .c (.vec o0_12.length 1 (gL (cInt .i64) 0 o0_12))), (5, .c (.int .i64 0))], []⟩, _, sub_gen [] rfl rfl ⟨⟨_, rfl, .inr (.inl ⟨_, _, _, _, _, _, _, rfl, rfl, rfl, Nat.le_refl _, fun _ _ _ _ => rfl, by decide⟩)⟩, zc rfl rfl, trivial⟩ trivial, resA2 (v1 := .c (.vec o0_12.length 1 (gL (cInt .i64) 0 o0_12))) (v2 := .c (.int .i64 0)) rfl rfl rfl, rfl⟩
set_option maxRecDepth 100000 in
set_option maxHeartbeats 8000000 in
theorem chargenetlaw10_FairShare_ok (F : Nat) (a0_total : Int) (a1_caps : List Int) (r : Bool) (h : chargenetlaw10_FairShare F a0_total a1_caps = some r) :
    SFun Try.prog 3 [] [.c (.int .i64 a0_total), .c (.vec a1_caps.length 1 (gL (cInt .i64) 0 a1_caps))] (fun x _ => x = .c (.bool r)) := by
  refine SFun.of (n := 36) Try.func3 rfl rfl rfl ?_
  unfold chargenetlaw10_FairShare at h
  show SCode _ _ _ ⟨[(0, .c (.int .i64 a0_total)), (1, .c (.vec a1_caps.length 1 (gL (cInt .i64) 0 a1_caps)))], []⟩ _
  refine SCode.seq ?_
  refine SCode.region (show SOps _ _ _ [0] _ _ from ?_)
  refine SOps.q rfl (.plain rfl) rfl (q_assign rfl rfl) ?_
  refine SOps.sub (st' := ⟨[(0, .c (.int .i64 a0_total)), (1, .c (.vec a1_caps.length 1 (gL (cInt .i64) 0 a1_caps)))], []⟩) (sub_gen [] rfl rfl ⟨zc rfl rfl, zc rfl rfl, trivial⟩ trivial) ?_
  refine SOps.nil ?_
  refine SCode.seq ?_
  refine SCode.seq ?_
  refine SCode.region (show SOps _ _ _ [0, 1, 2] _ _ from ?_)
  refine SOps.q rfl (.plain rfl) rfl (q_move rfl rfl) ?_
  refine SOps.q rfl (.plain rfl) rfl (q_len_vec rfl rfl sl22) ?_
  refine SOps.q rfl (.plain rfl) rfl (q_gtr rfl rfl rfl) ?_
  refine SOps.sub (st' := ⟨[(0, .c (.int .i64 a0_total)), (1, .c (.vec a1_caps.length 1 (gL (cInt .i64) 0 a1_caps))), (11, .c (.bool (decide (80 < ((a1_caps).length : Int)))))], []⟩) (sub_gen [] rfl rfl ⟨zc rfl rfl, zc rfl rfl, zc rfl rfl, trivial⟩ trivial) ?_
  refine SOps.nil ?_
  rcases cond_out h with ⟨g1, h⟩ | ⟨g1, h⟩
  · refine SCode.cond_t rfl g1 ?_
    refine SCode.seq ?_
    obtain ⟨c_2, g3, h⟩ := bind_out h
    try dsimp only at h
    refine SCode.region (show SOps _ _ _ [0, 1] _ _ from ?_)
    refine SOps.q rfl (.plain rfl) rfl (q_call (chargenetlaw10_exampleHolds_ok F  c_2 g3) [] rfl fn9 trivial (.inl rfl)) ?_
    refine SOps.q rfl (.plain rfl) rfl (q_assign rfl rfl) ?_
    refine SOps.sub (st' := ⟨[(4, .c (.bool c_2))], []⟩) (sub_gen [] rfl rfl ⟨zc rfl rfl, trivial⟩ trivial) ?_
    refine SOps.nil ?_
    refine SCode.ret ?_
    obtain rfl := Option.some.inj h
    exact ⟨⟨[(4, .c (.bool c_2))], []⟩, _, sub_gen [] rfl rfl ⟨zc rfl rfl, trivial⟩ trivial, resA1 (v := .c (.bool c_2)) rfl rfl, rfl⟩
  refine SCode.cond_f rfl g1 ?_
  refine SCode.skip ?_
  refine SCode.seq ?_
  obtain ⟨c_4, g5, h⟩ := bind_out h
  try dsimp only at h
  refine SCode.region (show SOps _ _ _ [0, 1, 2, 3, 4, 5, 6, 7] _ _ from ?_)
  refine SOps.q rfl (.plain rfl) rfl (q_move rfl rfl) ?_
  refine SOps.q rfl (.plain rfl) rfl (q_move rfl rfl) ?_
  refine SOps.q rfl (.plain rfl) rfl (q_call (fair_Share_ok F a0_total a1_caps c_4 g5) [] rfl fn10 ⟨⟨_, rfl, .inl ⟨rfl, rfl⟩⟩, ⟨_, rfl, .inl ⟨rfl, rfl⟩⟩, trivial⟩ (.inl rfl)) ?_
  refine SOps.q rfl (.plain rfl) rfl (q_move rfl rfl) ?_
  refine SOps.q rfl (.plain rfl) rfl (q_extract rfl rfl rfl) ?_
  refine SOps.q rfl (.plain rfl) rfl (q_extract rfl rfl rfl) ?_
  refine SOps.q rfl (.plain rfl) rfl (q_assign rfl rfl) ?_
  refine SOps.q rfl (.plain rfl) rfl (q_assign rfl rfl) ?_
  refine SOps.sub (st' := ⟨[(0, .c (.int .i64 a0_total)), (1, .c (.vec a1_caps.length 1 (gL (cInt .i64) 0 a1_caps))), (5, .c (.vec c_4.1.length 1 (gL (cInt .i64) 0 c_4.1))), (6, .c (.int .i64 c_4.2))], []⟩) (sub_gen [] rfl rfl ⟨zc rfl rfl, zc rfl rfl, zc rfl rfl, zc rfl rfl, trivial⟩ trivial) ?_
  refine SOps.nil ?_
  refine SCode.seq ?_
  obtain ⟨c_6, g7, h⟩ := bind_out h
  try dsimp only at h
  refine SCode.region (show SOps _ _ _ [0, 1, 2, 3, 4, 5, 6, 7] _ _ from ?_)
  refine SOps.q rfl (.plain rfl) rfl (q_move rfl rfl) ?_
  refine SOps.q rfl (.plain rfl) rfl (q_move rfl rfl) ?_
  refine SOps.q rfl (.plain rfl) rfl (q_call (chargenetref10_Share_ok F a0_total a1_caps c_6 g7) [] rfl fn11 ⟨⟨_, rfl, .inl ⟨rfl, rfl⟩⟩, ⟨_, rfl, .inl ⟨rfl, rfl⟩⟩, trivial⟩ (.inl rfl)) ?_
  refine SOps.q rfl (.plain rfl) rfl (q_move rfl rfl) ?_
  refine SOps.q rfl (.plain rfl) rfl (q_extract rfl rfl rfl) ?_
  refine SOps.q rfl (.plain rfl) rfl (q_extract rfl rfl rfl) ?_
  refine SOps.q rfl (.plain rfl) rfl (q_assign rfl rfl) ?_
  refine SOps.q rfl (.plain rfl) rfl (q_assign rfl rfl) ?_
  refine SOps.sub (st' := ⟨[(5, .c (.vec c_4.1.length 1 (gL (cInt .i64) 0 c_4.1))), (6, .c (.int .i64 c_4.2)), (7, .c (.vec c_6.1.length 1 (gL (cInt .i64) 0 c_6.1))), (8, .c (.int .i64 c_6.2))], []⟩) (sub_gen [] rfl rfl ⟨zc rfl rfl, zc rfl rfl, zc rfl rfl, zc rfl rfl, trivial⟩ trivial) ?_
  refine SOps.nil ?_
  refine SCode.seq ?_
  rcases cond_out h with ⟨g8, h⟩ | ⟨g8, h⟩
  · obtain ⟨c_9, g10, h⟩ := bind_out h
    try dsimp only at h
    rcases cond_out h with ⟨g11, h⟩ | ⟨g11, h⟩
    · obtain ⟨c_12, g13, h⟩ := bind_out h
      try dsimp only at h
      refine SCode.region (show SOps _ _ _ [0, 1, 2, 3, 4, 5, 6, 7, 8, 9, 10, 11] _ _ from ?_)
      refine SOps.q rfl (.plain rfl) rfl (q_move rfl rfl) ?_
      refine SOps.q rfl (.plain rfl) rfl (q_move rfl rfl) ?_
      refine SOps.q rfl (.plain rfl) rfl (q_eql rfl rfl rfl) ?_
      refine SOps.q rfl (.plain rfl) rfl (q_move rfl rfl) ?_
      refine SOps.q rfl (.guard 3 28 true rfl rfl (gT g8)) rfl (q_move rfl rfl) ?_
      refine SOps.q rfl (.guard 3 28 true rfl rfl (gT g8)) rfl (q_move rfl rfl) ?_
      refine SOps.q rfl (.guard 3 28 true rfl rfl (gT g8)) rfl (q_call (slices_Equal_int_int_ok F c_4.1 c_6.1 c_9 g10) [] rfl fn12 ⟨⟨_, rfl, .inl ⟨rfl, rfl⟩⟩, ⟨_, rfl, .inl ⟨rfl, rfl⟩⟩, trivial⟩ (.inl rfl)) ?_
      refine SOps.q rfl (.plain rfl) rfl (q_pick_t rfl rfl g8 rfl) ?_
      refine SOps.q rfl (.plain rfl) rfl (q_move rfl rfl) ?_
      refine SOps.q rfl (.guard 8 33 true rfl rfl (gT g11)) rfl (q_call (chargenetlaw10_exampleHolds_ok F  c_12 g13) [] rfl fn9 trivial (.inl rfl)) ?_
      refine SOps.q rfl (.plain rfl) rfl (q_pick_t rfl rfl g11 rfl) ?_
      refine SOps.q rfl (.plain rfl) rfl (q_assign rfl rfl) ?_
      refine SOps.sub (st' := ⟨[(4, .c (.bool c_12))], []⟩) (sub_gen [] rfl rfl ⟨zc rfl rfl, trivial⟩ trivial) ?_
      refine SOps.nil ?_
      refine SCode.ret ?_
      obtain rfl := Option.some.inj h
      exact ⟨⟨[(4, .c (.bool c_12))], []⟩, _, sub_gen [] rfl rfl ⟨zc rfl rfl, trivial⟩ trivial, resA1 (v := .c (.bool c_12)) rfl rfl, rfl⟩
    refine SCode.region (show SOps _ _ _ [0, 1, 2, 3, 4, 5, 6, 7, 8, 9, 10, 11] _ _ from ?_)
    refine SOps.q rfl (.plain rfl) rfl (q_move rfl rfl) ?_
    refine SOps.q rfl (.plain rfl) rfl (q_move rfl rfl) ?_
    refine SOps.q rfl (.plain rfl) rfl (q_eql rfl rfl rfl) ?_
    refine SOps.q rfl (.plain rfl) rfl (q_move rfl rfl) ?_
    refine SOps.q rfl (.guard 3 28 true rfl rfl (gT g8)) rfl (q_move rfl rfl) ?_
    refine SOps.q rfl (.guard 3 28 true rfl rfl (gT g8)) rfl (q_move rfl rfl) ?_
    refine SOps.q rfl (.guard 3 28 true rfl rfl (gT g8)) rfl (q_call (slices_Equal_int_int_ok F c_4.1 c_6.1 c_9 g10) [] rfl fn12 ⟨⟨_, rfl, .inl ⟨rfl, rfl⟩⟩, ⟨_, rfl, .inl ⟨rfl, rfl⟩⟩, trivial⟩ (.inl rfl)) ?_
    refine SOps.q rfl (.plain rfl) rfl (q_pick_t rfl rfl g8 rfl) ?_
    refine SOps.q rfl (.plain rfl) rfl (q_move rfl rfl) ?_
    refine SOps.skip rfl 8 33 true rfl rfl (.inl (gF g11)) rfl ?_
    refine SOps.q rfl (.plain rfl) rfl (q_pick_f rfl rfl g11 rfl) ?_
    refine SOps.q rfl (.plain rfl) rfl (q_assign rfl rfl) ?_
    refine SOps.sub (st' := ⟨[(4, .c (.bool false))], []⟩) (sub_gen [] rfl rfl ⟨zc rfl rfl, trivial⟩ trivial) ?_
    refine SOps.nil ?_
    refine SCode.ret ?_
    obtain rfl := Option.some.inj h
    exact ⟨⟨[(4, .c (.bool false))], []⟩, _, sub_gen [] rfl rfl ⟨zc rfl rfl, trivial⟩ trivial, resA1 (v := .c (.bool false)) rfl rfl, rfl⟩
  refine SCode.region (show SOps _ _ _ [0, 1, 2, 3, 4, 5, 6, 7, 8, 9, 10, 11] _ _ from ?_)
  refine SOps.q rfl (.plain rfl) rfl (q_move rfl rfl) ?_
  refine SOps.q rfl (.plain rfl) rfl (q_move rfl rfl) ?_
  refine SOps.q rfl (.plain rfl) rfl (q_eql rfl rfl rfl) ?_
  refine SOps.q rfl (.plain rfl) rfl (q_move rfl rfl) ?_
  refine SOps.skip rfl 3 28 true rfl rfl (.inl (gF g8)) rfl ?_
  refine SOps.skip rfl 3 28 true rfl rfl (.inl (gF g8)) rfl ?_
  refine SOps.skip rfl 3 28 true rfl rfl (.inl (gF g8)) rfl ?_
  refine SOps.q rfl (.plain rfl) rfl (q_pick_f rfl rfl g8 rfl) ?_
  refine SOps.q rfl (.plain rfl) rfl (q_move rfl rfl) ?_
  refine SOps.skip rfl 8 33 true rfl rfl (.inl rfl) rfl ?_
  refine SOps.q rfl (.plain rfl) rfl (q_pick_f rfl rfl rfl rfl) ?_
  refine SOps.q rfl (.plain rfl) rfl (q_assign rfl rfl) ?_
  refine SOps.sub (st' := ⟨[(4, .c (.bool false))], []⟩) (sub_gen [] rfl rfl ⟨zc rfl rfl, trivial⟩ trivial) ?_
  refine SOps.nil ?_
  refine SCode.ret ?_
  obtain rfl := Option.some.inj h
  exact ⟨⟨[(4, .c (.bool false))], []⟩, _, sub_gen [] rfl rfl ⟨zc rfl rfl, trivial⟩ trivial, resA1 (v := .c (.bool false)) rfl rfl, rfl⟩
end Go.Proofs.Ythpblkclpfmbeaa.W
