/- Written by a program of ours (wip/eng/gen.py): the functions compute their models. -/
import Derived.Test.YthpblkclpfmbeaaFacts
import Derived.Test.YthpblkclpfmbeaaV8x7
namespace Go.Proofs.Ythpblkclpfmbeaa.W
open Go Go.Proofs Go.Proofs.Ythpblkclpfmbeaa.E Go.Proofs.Ythpblkclpfmbeaa.M
set_option linter.unusedVariables false
set_option maxRecDepth 100000 in
set_option maxHeartbeats 8000000 in
theorem chargenetlaw10_exampleHolds_ok (F : Nat)  (r : Bool) (h : chargenetlaw10_exampleHolds F  = some r) :
    SFun Try.prog 9 [] [] (fun x _ => x = .c (.bool r)) := by
  refine SFun.of (n := 79) Try.func9 rfl rfl rfl ?_
  unfold chargenetlaw10_exampleHolds at h
  show SCode _ _ _ ⟨[], []⟩ _
  refine SCode.seq ?_
  refine SCode.region (show SOps _ _ _ [0] _ _ from ?_)
  refine SOps.q rfl (.plain rfl) rfl (q_assign rfl rfl) ?_
  refine SOps.sub (st' := ⟨[], []⟩) (sub_gen [] rfl rfl trivial trivial) ?_
  refine SOps.nil ?_
  refine SCode.seq ?_
  refine SCode.region (show SOps _ _ _ [0, 1] _ _ from ?_)
  refine SOps.q rfl (.plain rfl) rfl (q_bsliceL (c := (cInt .i64)) (d0 := 0) [10, 10, 3] rfl rfl sl22 z3 rfl rfl rfl rfl rfl rfl rfl) ?_
  refine SOps.q rfl (.plain rfl) rfl (q_assign rfl rfl) ?_
  refine SOps.sub (st' := ⟨[(1, .c (.vec ([10, 10, 3]).length 1 (gL (cInt .i64) 0 ([10, 10, 3]))))], []⟩) (sub_gen [] rfl rfl ⟨zc rfl rfl, trivial⟩ trivial) ?_
  refine SOps.nil ?_
  refine SCode.seq ?_
  obtain ⟨c_1, g2, h⟩ := bind_out h
  try dsimp only at h
  obtain ⟨c_3, g4, h⟩ := bind_out h
  try dsimp only at h
  refine SCode.region (show SOps _ _ _ [0, 1, 2, 3, 4, 5, 6, 7] _ _ from ?_)
  refine SOps.q rfl (.plain rfl) rfl (q_move rfl rfl) ?_
  refine SOps.q rfl (.plain rfl) rfl (q_call (chargenetlaw10_sum_ok F 16 c_1 g2) [] rfl fn20 ⟨⟨_, rfl, .inl ⟨rfl, rfl⟩⟩, trivial⟩ (.inl rfl)) ?_
  refine SOps.q rfl (.plain rfl) rfl (q_call (fair_Fill_f1_34_ok F ([10, 10, 3]) c_1 c_3 g4) [] rfl fn19 ⟨⟨_, rfl, .inl ⟨rfl, rfl⟩⟩, ⟨_, rfl, .inl ⟨rfl, rfl⟩⟩, trivial⟩ (.inl rfl)) ?_
  refine SOps.q rfl (.plain rfl) rfl (q_move rfl rfl) ?_
  refine SOps.q rfl (.plain rfl) rfl (q_extract rfl rfl rfl) ?_
  refine SOps.q rfl (.plain rfl) rfl (q_extract rfl rfl rfl) ?_
  refine SOps.q rfl (.plain rfl) rfl (q_assign rfl rfl) ?_
  refine SOps.q rfl (.plain rfl) rfl (q_assign rfl rfl) ?_
  refine SOps.sub (st' := ⟨[(1, .c (.vec ([10, 10, 3]).length 1 (gL (cInt .i64) 0 ([10, 10, 3])))), (2, .c (.vec c_3.1.length 1 (gL (cInt .i64) 0 c_3.1))), (3, .c (.int .i64 c_3.2))], []⟩) (sub_gen [] rfl rfl ⟨zc rfl rfl, zc rfl rfl, zc rfl rfl, trivial⟩ trivial) ?_
  refine SOps.nil ?_
  refine SCode.seq ?_
  obtain ⟨c_5, g6, h⟩ := bind_out h
  try dsimp only at h
  refine SCode.region (show SOps _ _ _ [0, 1, 2, 3, 4, 5, 6] _ _ from ?_)
  refine SOps.q rfl (.plain rfl) rfl (q_move rfl rfl) ?_
  refine SOps.q rfl (.plain rfl) rfl (q_call (fair_Share_ok F 16 ([10, 10, 3]) c_5 g6) [] rfl fn10 ⟨⟨_, rfl, .inl ⟨rfl, rfl⟩⟩, ⟨_, rfl, .inl ⟨rfl, rfl⟩⟩, trivial⟩ (.inl rfl)) ?_
  refine SOps.q rfl (.plain rfl) rfl (q_move rfl rfl) ?_
  refine SOps.q rfl (.plain rfl) rfl (q_extract rfl rfl rfl) ?_
  refine SOps.q rfl (.plain rfl) rfl (q_extract rfl rfl rfl) ?_
  refine SOps.q rfl (.plain rfl) rfl (q_assign rfl rfl) ?_
  refine SOps.q rfl (.plain rfl) rfl (q_assign rfl rfl) ?_
  refine SOps.sub (st' := ⟨[(1, .c (.vec ([10, 10, 3]).length 1 (gL (cInt .i64) 0 ([10, 10, 3])))), (2, .c (.vec c_3.1.length 1 (gL (cInt .i64) 0 c_3.1))), (3, .c (.int .i64 c_3.2)), (4, .c (.vec c_5.1.length 1 (gL (cInt .i64) 0 c_5.1))), (5, .c (.int .i64 c_5.2))], []⟩) (sub_gen [] rfl rfl ⟨zc rfl rfl, zc rfl rfl, zc rfl rfl, zc rfl rfl, zc rfl rfl, trivial⟩ trivial) ?_
  refine SOps.nil ?_
  refine SCode.seq ?_
  obtain ⟨c_7, g8, h⟩ := bind_out h
  try dsimp only at h
  refine SCode.region (show SOps _ _ _ [0, 1, 2, 3, 4, 5, 6] _ _ from ?_)
  refine SOps.q rfl (.plain rfl) rfl (q_move rfl rfl) ?_
  refine SOps.q rfl (.plain rfl) rfl (q_call (fair_Share_ok F 100 ([10, 10, 3]) c_7 g8) [] rfl fn10 ⟨⟨_, rfl, .inl ⟨rfl, rfl⟩⟩, ⟨_, rfl, .inl ⟨rfl, rfl⟩⟩, trivial⟩ (.inl rfl)) ?_
  refine SOps.q rfl (.plain rfl) rfl (q_move rfl rfl) ?_
  refine SOps.q rfl (.plain rfl) rfl (q_extract rfl rfl rfl) ?_
  refine SOps.q rfl (.plain rfl) rfl (q_extract rfl rfl rfl) ?_
  refine SOps.q rfl (.plain rfl) rfl (q_assign rfl rfl) ?_
  refine SOps.q rfl (.plain rfl) rfl (q_assign rfl rfl) ?_
  refine SOps.sub (st' := ⟨[(1, .c (.vec ([10, 10, 3]).length 1 (gL (cInt .i64) 0 ([10, 10, 3])))), (2, .c (.vec c_3.1.length 1 (gL (cInt .i64) 0 c_3.1))), (3, .c (.int .i64 c_3.2)), (4, .c (.vec c_5.1.length 1 (gL (cInt .i64) 0 c_5.1))), (5, .c (.int .i64 c_5.2)), (6, .c (.vec c_7.1.length 1 (gL (cInt .i64) 0 c_7.1)))], []⟩) (sub_gen [] rfl rfl ⟨zc rfl rfl, zc rfl rfl, zc rfl rfl, zc rfl rfl, zc rfl rfl, zc rfl rfl, trivial⟩ trivial) ?_
  refine SOps.nil ?_
  refine SCode.seq ?_
  obtain ⟨c_9, g10, h⟩ := bind_out h
  try dsimp only at h
  refine SCode.region (show SOps _ _ _ [0, 1, 2, 3, 4, 5, 6] _ _ from ?_)
  refine SOps.q rfl (.plain rfl) rfl (q_move rfl rfl) ?_
  refine SOps.q rfl (.plain rfl) rfl (q_call (fair_Fill_f1_nil_ok F ([10, 10, 3]) c_9 g10) [] rfl fn19 ⟨⟨_, rfl, .inl ⟨rfl, rfl⟩⟩, ⟨_, rfl, .inl ⟨rfl, rfl⟩⟩, trivial⟩ (.inl rfl)) ?_
  refine SOps.q rfl (.plain rfl) rfl (q_move rfl rfl) ?_
  refine SOps.q rfl (.plain rfl) rfl (q_extract rfl rfl rfl) ?_
  refine SOps.q rfl (.plain rfl) rfl (q_extract rfl rfl rfl) ?_
  refine SOps.q rfl (.plain rfl) rfl (q_assign rfl rfl) ?_
  refine SOps.q rfl (.plain rfl) rfl (q_assign rfl rfl) ?_
  refine SOps.sub (st' := ⟨[(1, .c (.vec ([10, 10, 3]).length 1 (gL (cInt .i64) 0 ([10, 10, 3])))), (2, .c (.vec c_3.1.length 1 (gL (cInt .i64) 0 c_3.1))), (3, .c (.int .i64 c_3.2)), (4, .c (.vec c_5.1.length 1 (gL (cInt .i64) 0 c_5.1))), (5, .c (.int .i64 c_5.2)), (6, .c (.vec c_7.1.length 1 (gL (cInt .i64) 0 c_7.1))), (9, .c (.int .i64 c_9.2))], []⟩) (sub_gen [] rfl rfl ⟨zc rfl rfl, zc rfl rfl, zc rfl rfl, zc rfl rfl, zc rfl rfl, zc rfl rfl, zc rfl rfl, trivial⟩ trivial) ?_
  refine SOps.nil ?_
  refine SCode.seq ?_
  obtain ⟨c_11, g12, h⟩ := bind_out h
  try dsimp only at h
  refine SCode.region (show SOps _ _ _ [0, 1, 2, 3, 4, 5, 6] _ _ from ?_)
  refine SOps.q rfl (.plain rfl) rfl (q_bsliceL (c := (cInt .i64)) (d0 := 0) [5, 5] rfl rfl sl22 z3 rfl rfl rfl rfl rfl rfl rfl) ?_
  refine SOps.q rfl (.plain rfl) rfl (q_call (fair_Fill_f1_r21_ok F ([5, 5]) c_11 g12) [] rfl fn19 ⟨⟨_, rfl, .inl ⟨rfl, rfl⟩⟩, ⟨_, rfl, .inl ⟨rfl, rfl⟩⟩, trivial⟩ (.inl rfl)) ?_
  refine SOps.q rfl (.plain rfl) rfl (q_move rfl rfl) ?_
  refine SOps.q rfl (.plain rfl) rfl (q_extract rfl rfl rfl) ?_
  refine SOps.q rfl (.plain rfl) rfl (q_extract rfl rfl rfl) ?_
  refine SOps.q rfl (.plain rfl) rfl (q_assign rfl rfl) ?_
  refine SOps.q rfl (.plain rfl) rfl (q_assign rfl rfl) ?_
  refine SOps.sub (st' := ⟨[(1, .c (.vec ([10, 10, 3]).length 1 (gL (cInt .i64) 0 ([10, 10, 3])))), (2, .c (.vec c_3.1.length 1 (gL (cInt .i64) 0 c_3.1))), (3, .c (.int .i64 c_3.2)), (4, .c (.vec c_5.1.length 1 (gL (cInt .i64) 0 c_5.1))), (5, .c (.int .i64 c_5.2)), (6, .c (.vec c_7.1.length 1 (gL (cInt .i64) 0 c_7.1))), (9, .c (.int .i64 c_9.2)), (10, .c (.vec c_11.1.length 1 (gL (cInt .i64) 0 c_11.1))), (11, .c (.int .i64 c_11.2))], []⟩) (sub_gen [] rfl rfl ⟨zc rfl rfl, zc rfl rfl, zc rfl rfl, zc rfl rfl, zc rfl rfl, zc rfl rfl, zc rfl rfl, zc rfl rfl, zc rfl rfl, trivial⟩ trivial) ?_
  refine SOps.nil ?_
  refine SCode.seq ?_
  obtain ⟨c_13, g14, h⟩ := bind_out h
  try dsimp only at h
  rcases cond_out h with ⟨g15, h⟩ | ⟨g15, h⟩
  · rcases cond_out h with ⟨g16, h⟩ | ⟨g16, h⟩
    · obtain ⟨c_17, g18, h⟩ := bind_out h
      try dsimp only at h
      rcases cond_out h with ⟨g19, h⟩ | ⟨g19, h⟩
      · rcases cond_out h with ⟨g20, h⟩ | ⟨g20, h⟩
        · obtain ⟨c_21, g22, h⟩ := bind_out h
          try dsimp only at h
          rcases cond_out h with ⟨g23, h⟩ | ⟨g23, h⟩
          · rcases cond_out h with ⟨g24, h⟩ | ⟨g24, h⟩
            · obtain ⟨c_25, g26, h⟩ := bind_out h
              try dsimp only at h
              rcases cond_out h with ⟨g27, h⟩ | ⟨g27, h⟩
              · rcases cond_out h with ⟨g28, h⟩ | ⟨g28, h⟩
                · obtain ⟨c_29, g30, h⟩ := bind_out h
                  try dsimp only at h
                  refine SCode.region (show SOps _ _ _ [0, 1, 2, 3, 4, 5, 6, 7, 8, 9, 10, 11, 12, 13, 14, 15, 16, 17, 18, 19, 20, 21, 22, 23, 24, 25, 26, 27, 28, 29, 30, 31, 32, 33, 34, 35, 36, 37, 38, 39, 40] _ _ from ?_)
                  refine SOps.q rfl (.plain rfl) rfl (q_move rfl rfl) ?_
                  refine SOps.q rfl (.plain rfl) rfl (q_bsliceL (c := (cInt .i64)) (d0 := 0) [7, 6, 3] rfl rfl sl22 z3 rfl rfl rfl rfl rfl rfl rfl) ?_
                  refine SOps.q rfl (.plain rfl) rfl (q_call (slices_Equal_int_int_ok F c_3.1 ([7, 6, 3]) c_13 g14) [] rfl fn12 ⟨⟨_, rfl, .inl ⟨rfl, rfl⟩⟩, ⟨_, rfl, .inl ⟨rfl, rfl⟩⟩, trivial⟩ (.inl rfl)) ?_
                  refine SOps.q rfl (.plain rfl) rfl (q_move rfl rfl) ?_
                  refine SOps.q rfl (.guard 3 42 true rfl rfl (gT g15)) rfl (q_move rfl rfl) ?_
                  refine SOps.q rfl (.guard 3 42 true rfl rfl (gT g15)) rfl (q_eql rfl rfl rfl) ?_
                  refine SOps.q rfl (.plain rfl) rfl (q_pick_t rfl rfl g15 rfl) ?_
                  refine SOps.q rfl (.plain rfl) rfl (q_move rfl rfl) ?_
                  refine SOps.q rfl (.guard 7 46 true rfl rfl (gT g16)) rfl (q_move rfl rfl) ?_
                  refine SOps.q rfl (.guard 7 46 true rfl rfl (gT g16)) rfl (q_move rfl rfl) ?_
                  refine SOps.q rfl (.guard 7 46 true rfl rfl (gT g16)) rfl (q_call (slices_Equal_int_int_ok F c_5.1 c_3.1 c_17 g18) [] rfl fn12 ⟨⟨_, rfl, .inl ⟨rfl, rfl⟩⟩, ⟨_, rfl, .inl ⟨rfl, rfl⟩⟩, trivial⟩ (.inl rfl)) ?_
                  refine SOps.q rfl (.plain rfl) rfl (q_pick_t rfl rfl g16 rfl) ?_
                  refine SOps.q rfl (.plain rfl) rfl (q_move rfl rfl) ?_
                  refine SOps.q rfl (.guard 12 51 true rfl rfl (gT g19)) rfl (q_move rfl rfl) ?_
                  refine SOps.q rfl (.guard 12 51 true rfl rfl (gT g19)) rfl (q_eql rfl rfl rfl) ?_
                  refine SOps.q rfl (.plain rfl) rfl (q_pick_t rfl rfl g19 rfl) ?_
                  refine SOps.q rfl (.plain rfl) rfl (q_move rfl rfl) ?_
                  refine SOps.q rfl (.guard 16 55 true rfl rfl (gT g20)) rfl (q_move rfl rfl) ?_
                  refine SOps.q rfl (.guard 16 55 true rfl rfl (gT g20)) rfl (q_move rfl rfl) ?_
                  refine SOps.q rfl (.guard 16 55 true rfl rfl (gT g20)) rfl (q_call (slices_Equal_int_int_ok F c_7.1 ([10, 10, 3]) c_21 g22) [] rfl fn12 ⟨⟨_, rfl, .inl ⟨rfl, rfl⟩⟩, ⟨_, rfl, .inl ⟨rfl, rfl⟩⟩, trivial⟩ (.inl rfl)) ?_
                  refine SOps.q rfl (.plain rfl) rfl (q_pick_t rfl rfl g20 rfl) ?_
                  refine SOps.q rfl (.plain rfl) rfl (q_move rfl rfl) ?_
                  refine SOps.q rfl (.guard 21 60 true rfl rfl (gT g23)) rfl (q_move rfl rfl) ?_
                  refine SOps.q rfl (.guard 21 60 true rfl rfl (gT g23)) rfl (q_eql rfl rfl rfl) ?_
                  refine SOps.q rfl (.plain rfl) rfl (q_pick_t rfl rfl g23 rfl) ?_
                  refine SOps.q rfl (.plain rfl) rfl (q_move rfl rfl) ?_
                  refine SOps.q rfl (.guard 25 64 true rfl rfl (gT g24)) rfl (q_move rfl rfl) ?_
                  refine SOps.q rfl (.guard 25 64 true rfl rfl (gT g24)) rfl (q_bsliceL (c := (cInt .i64)) (d0 := 0) [2, 4] rfl rfl sl22 z3 rfl rfl rfl rfl rfl rfl rfl) ?_
                  refine SOps.q rfl (.guard 25 64 true rfl rfl (gT g24)) rfl (q_call (slices_Equal_int_int_ok F c_11.1 ([2, 4]) c_25 g26) [] rfl fn12 ⟨⟨_, rfl, .inl ⟨rfl, rfl⟩⟩, ⟨_, rfl, .inl ⟨rfl, rfl⟩⟩, trivial⟩ (.inl rfl)) ?_
                  refine SOps.q rfl (.plain rfl) rfl (q_pick_t rfl rfl g24 rfl) ?_
                  refine SOps.q rfl (.plain rfl) rfl (q_move rfl rfl) ?_
                  refine SOps.q rfl (.guard 30 69 true rfl rfl (gT g27)) rfl (q_move rfl rfl) ?_
                  refine SOps.q rfl (.guard 30 69 true rfl rfl (gT g27)) rfl (q_eql rfl rfl rfl) ?_
                  refine SOps.q rfl (.plain rfl) rfl (q_pick_t rfl rfl g27 rfl) ?_
                  refine SOps.q rfl (.plain rfl) rfl (q_move rfl rfl) ?_
                  refine SOps.q rfl (.guard 34 73 true rfl rfl (gT g28)) rfl (q_bsliceL (c := (cInt .i64)) (d0 := 0) [7, 6, 3] rfl rfl sl22 z3 rfl rfl rfl rfl rfl rfl rfl) ?_
                  refine SOps.q rfl (.guard 34 73 true rfl rfl (gT g28)) rfl (q_bsliceL (c := (cInt .i64)) (d0 := 0) [8, 5, 3] rfl rfl sl22 z3 rfl rfl rfl rfl rfl rfl rfl) ?_
                  refine SOps.q rfl (.guard 34 73 true rfl rfl (gT g28)) rfl (q_call (fair_Compare_ok F ([7, 6, 3]) ([8, 5, 3]) c_29 g30) [] rfl fn14 ⟨⟨_, rfl, .inl ⟨rfl, rfl⟩⟩, ⟨_, rfl, .inl ⟨rfl, rfl⟩⟩, trivial⟩ (.inl rfl)) ?_
                  refine SOps.q rfl (.guard 34 73 true rfl rfl (gT g28)) rfl (q_eql rfl rfl rfl) ?_
                  refine SOps.q rfl (.plain rfl) rfl (q_pick_t rfl rfl g28 rfl) ?_
                  refine SOps.q rfl (.plain rfl) rfl (q_assign rfl rfl) ?_
                  refine SOps.sub (st' := ⟨[(0, .c (.bool (decide (c_29 = 1))))], []⟩) (sub_gen [] rfl rfl ⟨zc rfl rfl, trivial⟩ trivial) ?_
                  refine SOps.nil ?_
                  refine SCode.ret ?_
                  obtain rfl := Option.some.inj h
                  exact ⟨⟨[(0, .c (.bool (decide (c_29 = 1))))], []⟩, _, sub_gen [] rfl rfl ⟨zc rfl rfl, trivial⟩ trivial, resA1 (v := .c (.bool (decide (c_29 = 1)))) rfl rfl, rfl⟩
                refine SCode.region (show SOps _ _ _ [0, 1, 2, 3, 4, 5, 6, 7, 8, 9, 10, 11, 12, 13, 14, 15, 16, 17, 18, 19, 20, 21, 22, 23, 24, 25, 26, 27, 28, 29, 30, 31, 32, 33, 34, 35, 36, 37, 38, 39, 40] _ _ from ?_)
                refine SOps.q rfl (.plain rfl) rfl (q_move rfl rfl) ?_
                refine SOps.q rfl (.plain rfl) rfl (q_bsliceL (c := (cInt .i64)) (d0 := 0) [7, 6, 3] rfl rfl sl22 z3 rfl rfl rfl rfl rfl rfl rfl) ?_
                refine SOps.q rfl (.plain rfl) rfl (q_call (slices_Equal_int_int_ok F c_3.1 ([7, 6, 3]) c_13 g14) [] rfl fn12 ⟨⟨_, rfl, .inl ⟨rfl, rfl⟩⟩, ⟨_, rfl, .inl ⟨rfl, rfl⟩⟩, trivial⟩ (.inl rfl)) ?_
                refine SOps.q rfl (.plain rfl) rfl (q_move rfl rfl) ?_
                refine SOps.q rfl (.guard 3 42 true rfl rfl (gT g15)) rfl (q_move rfl rfl) ?_
                refine SOps.q rfl (.guard 3 42 true rfl rfl (gT g15)) rfl (q_eql rfl rfl rfl) ?_
                refine SOps.q rfl (.plain rfl) rfl (q_pick_t rfl rfl g15 rfl) ?_
                refine SOps.q rfl (.plain rfl) rfl (q_move rfl rfl) ?_
                refine SOps.q rfl (.guard 7 46 true rfl rfl (gT g16)) rfl (q_move rfl rfl) ?_
                refine SOps.q rfl (.guard 7 46 true rfl rfl (gT g16)) rfl (q_move rfl rfl) ?_
                refine SOps.q rfl (.guard 7 46 true rfl rfl (gT g16)) rfl (q_call (slices_Equal_int_int_ok F c_5.1 c_3.1 c_17 g18) [] rfl fn12 ⟨⟨_, rfl, .inl ⟨rfl, rfl⟩⟩, ⟨_, rfl, .inl ⟨rfl, rfl⟩⟩, trivial⟩ (.inl rfl)) ?_
                refine SOps.q rfl (.plain rfl) rfl (q_pick_t rfl rfl g16 rfl) ?_
                refine SOps.q rfl (.plain rfl) rfl (q_move rfl rfl) ?_
                refine SOps.q rfl (.guard 12 51 true rfl rfl (gT g19)) rfl (q_move rfl rfl) ?_
                refine SOps.q rfl (.guard 12 51 true rfl rfl (gT g19)) rfl (q_eql rfl rfl rfl) ?_
                refine SOps.q rfl (.plain rfl) rfl (q_pick_t rfl rfl g19 rfl) ?_
                refine SOps.q rfl (.plain rfl) rfl (q_move rfl rfl) ?_
                refine SOps.q rfl (.guard 16 55 true rfl rfl (gT g20)) rfl (q_move rfl rfl) ?_
                refine SOps.q rfl (.guard 16 55 true rfl rfl (gT g20)) rfl (q_move rfl rfl) ?_
                refine SOps.q rfl (.guard 16 55 true rfl rfl (gT g20)) rfl (q_call (slices_Equal_int_int_ok F c_7.1 ([10, 10, 3]) c_21 g22) [] rfl fn12 ⟨⟨_, rfl, .inl ⟨rfl, rfl⟩⟩, ⟨_, rfl, .inl ⟨rfl, rfl⟩⟩, trivial⟩ (.inl rfl)) ?_
                refine SOps.q rfl (.plain rfl) rfl (q_pick_t rfl rfl g20 rfl) ?_
                refine SOps.q rfl (.plain rfl) rfl (q_move rfl rfl) ?_
                refine SOps.q rfl (.guard 21 60 true rfl rfl (gT g23)) rfl (q_move rfl rfl) ?_
                refine SOps.q rfl (.guard 21 60 true rfl rfl (gT g23)) rfl (q_eql rfl rfl rfl) ?_
                refine SOps.q rfl (.plain rfl) rfl (q_pick_t rfl rfl g23 rfl) ?_
                refine SOps.q rfl (.plain rfl) rfl (q_move rfl rfl) ?_
                refine SOps.q rfl (.guard 25 64 true rfl rfl (gT g24)) rfl (q_move rfl rfl) ?_
                refine SOps.q rfl (.guard 25 64 true rfl rfl (gT g24)) rfl (q_bsliceL (c := (cInt .i64)) (d0 := 0) [2, 4] rfl rfl sl22 z3 rfl rfl rfl rfl rfl rfl rfl) ?_
                refine SOps.q rfl (.guard 25 64 true rfl rfl (gT g24)) rfl (q_call (slices_Equal_int_int_ok F c_11.1 ([2, 4]) c_25 g26) [] rfl fn12 ⟨⟨_, rfl, .inl ⟨rfl, rfl⟩⟩, ⟨_, rfl, .inl ⟨rfl, rfl⟩⟩, trivial⟩ (.inl rfl)) ?_
                refine SOps.q rfl (.plain rfl) rfl (q_pick_t rfl rfl g24 rfl) ?_
                refine SOps.q rfl (.plain rfl) rfl (q_move rfl rfl) ?_
                refine SOps.q rfl (.guard 30 69 true rfl rfl (gT g27)) rfl (q_move rfl rfl) ?_
                refine SOps.q rfl (.guard 30 69 true rfl rfl (gT g27)) rfl (q_eql rfl rfl rfl) ?_
                refine SOps.q rfl (.plain rfl) rfl (q_pick_t rfl rfl g27 rfl) ?_
                refine SOps.q rfl (.plain rfl) rfl (q_move rfl rfl) ?_
                refine SOps.skip rfl 34 73 true rfl rfl (.inl (gF g28)) rfl ?_
                refine SOps.skip rfl 34 73 true rfl rfl (.inl (gF g28)) rfl ?_
                refine SOps.skip rfl 34 73 true rfl rfl (.inl (gF g28)) rfl ?_
                refine SOps.skip rfl 34 73 true rfl rfl (.inl (gF g28)) rfl ?_
                refine SOps.q rfl (.plain rfl) rfl (q_pick_f rfl rfl g28 rfl) ?_
                refine SOps.q rfl (.plain rfl) rfl (q_assign rfl rfl) ?_
                refine SOps.sub (st' := ⟨[(0, .c (.bool false))], []⟩) (sub_gen [] rfl rfl ⟨zc rfl rfl, trivial⟩ trivial) ?_
                refine SOps.nil ?_
                refine SCode.ret ?_
                obtain rfl := Option.some.inj h
                exact ⟨⟨[(0, .c (.bool false))], []⟩, _, sub_gen [] rfl rfl ⟨zc rfl rfl, trivial⟩ trivial, resA1 (v := .c (.bool false)) rfl rfl, rfl⟩
              refine SCode.region (show SOps _ _ _ [0, 1, 2, 3, 4, 5, 6, 7, 8, 9, 10, 11, 12, 13, 14, 15, 16, 17, 18, 19, 20, 21, 22, 23, 24, 25, 26, 27, 28, 29, 30, 31, 32, 33, 34, 35, 36, 37, 38, 39, 40] _ _ from ?_)
              refine SOps.q rfl (.plain rfl) rfl (q_move rfl rfl) ?_
              refine SOps.q rfl (.plain rfl) rfl (q_bsliceL (c := (cInt .i64)) (d0 := 0) [7, 6, 3] rfl rfl sl22 z3 rfl rfl rfl rfl rfl rfl rfl) ?_
              refine SOps.q rfl (.plain rfl) rfl (q_call (slices_Equal_int_int_ok F c_3.1 ([7, 6, 3]) c_13 g14) [] rfl fn12 ⟨⟨_, rfl, .inl ⟨rfl, rfl⟩⟩, ⟨_, rfl, .inl ⟨rfl, rfl⟩⟩, trivial⟩ (.inl rfl)) ?_
              refine SOps.q rfl (.plain rfl) rfl (q_move rfl rfl) ?_
              refine SOps.q rfl (.guard 3 42 true rfl rfl (gT g15)) rfl (q_move rfl rfl) ?_
              refine SOps.q rfl (.guard 3 42 true rfl rfl (gT g15)) rfl (q_eql rfl rfl rfl) ?_
              refine SOps.q rfl (.plain rfl) rfl (q_pick_t rfl rfl g15 rfl) ?_
              refine SOps.q rfl (.plain rfl) rfl (q_move rfl rfl) ?_
              refine SOps.q rfl (.guard 7 46 true rfl rfl (gT g16)) rfl (q_move rfl rfl) ?_
              refine SOps.q rfl (.guard 7 46 true rfl rfl (gT g16)) rfl (q_move rfl rfl) ?_
              refine SOps.q rfl (.guard 7 46 true rfl rfl (gT g16)) rfl (q_call (slices_Equal_int_int_ok F c_5.1 c_3.1 c_17 g18) [] rfl fn12 ⟨⟨_, rfl, .inl ⟨rfl, rfl⟩⟩, ⟨_, rfl, .inl ⟨rfl, rfl⟩⟩, trivial⟩ (.inl rfl)) ?_
              refine SOps.q rfl (.plain rfl) rfl (q_pick_t rfl rfl g16 rfl) ?_
              refine SOps.q rfl (.plain rfl) rfl (q_move rfl rfl) ?_
              refine SOps.q rfl (.guard 12 51 true rfl rfl (gT g19)) rfl (q_move rfl rfl) ?_
              refine SOps.q rfl (.guard 12 51 true rfl rfl (gT g19)) rfl (q_eql rfl rfl rfl) ?_
              refine SOps.q rfl (.plain rfl) rfl (q_pick_t rfl rfl g19 rfl) ?_
              refine SOps.q rfl (.plain rfl) rfl (q_move rfl rfl) ?_
              refine SOps.q rfl (.guard 16 55 true rfl rfl (gT g20)) rfl (q_move rfl rfl) ?_
              refine SOps.q rfl (.guard 16 55 true rfl rfl (gT g20)) rfl (q_move rfl rfl) ?_
              refine SOps.q rfl (.guard 16 55 true rfl rfl (gT g20)) rfl (q_call (slices_Equal_int_int_ok F c_7.1 ([10, 10, 3]) c_21 g22) [] rfl fn12 ⟨⟨_, rfl, .inl ⟨rfl, rfl⟩⟩, ⟨_, rfl, .inl ⟨rfl, rfl⟩⟩, trivial⟩ (.inl rfl)) ?_
              refine SOps.q rfl (.plain rfl) rfl (q_pick_t rfl rfl g20 rfl) ?_
              refine SOps.q rfl (.plain rfl) rfl (q_move rfl rfl) ?_
              refine SOps.q rfl (.guard 21 60 true rfl rfl (gT g23)) rfl (q_move rfl rfl) ?_
              refine SOps.q rfl (.guard 21 60 true rfl rfl (gT g23)) rfl (q_eql rfl rfl rfl) ?_
              refine SOps.q rfl (.plain rfl) rfl (q_pick_t rfl rfl g23 rfl) ?_
              refine SOps.q rfl (.plain rfl) rfl (q_move rfl rfl) ?_
              refine SOps.q rfl (.guard 25 64 true rfl rfl (gT g24)) rfl (q_move rfl rfl) ?_
              refine SOps.q rfl (.guard 25 64 true rfl rfl (gT g24)) rfl (q_bsliceL (c := (cInt .i64)) (d0 := 0) [2, 4] rfl rfl sl22 z3 rfl rfl rfl rfl rfl rfl rfl) ?_
              refine SOps.q rfl (.guard 25 64 true rfl rfl (gT g24)) rfl (q_call (slices_Equal_int_int_ok F c_11.1 ([2, 4]) c_25 g26) [] rfl fn12 ⟨⟨_, rfl, .inl ⟨rfl, rfl⟩⟩, ⟨_, rfl, .inl ⟨rfl, rfl⟩⟩, trivial⟩ (.inl rfl)) ?_
              refine SOps.q rfl (.plain rfl) rfl (q_pick_t rfl rfl g24 rfl) ?_
              refine SOps.q rfl (.plain rfl) rfl (q_move rfl rfl) ?_
              refine SOps.skip rfl 30 69 true rfl rfl (.inl (gF g27)) rfl ?_
              refine SOps.skip rfl 30 69 true rfl rfl (.inl (gF g27)) rfl ?_
              refine SOps.q rfl (.plain rfl) rfl (q_pick_f rfl rfl g27 rfl) ?_
              refine SOps.q rfl (.plain rfl) rfl (q_move rfl rfl) ?_
              refine SOps.skip rfl 34 73 true rfl rfl (.inl rfl) rfl ?_
              refine SOps.skip rfl 34 73 true rfl rfl (.inl rfl) rfl ?_
              refine SOps.skip rfl 34 73 true rfl rfl (.inl rfl) rfl ?_
              refine SOps.skip rfl 34 73 true rfl rfl (.inl rfl) rfl ?_
              refine SOps.q rfl (.plain rfl) rfl (q_pick_f rfl rfl rfl rfl) ?_
              refine SOps.q rfl (.plain rfl) rfl (q_assign rfl rfl) ?_
              refine SOps.sub (st' := ⟨[(0, .c (.bool false))], []⟩) (sub_gen [] rfl rfl ⟨zc rfl rfl, trivial⟩ trivial) ?_
              refine SOps.nil ?_
              refine SCode.ret ?_
              obtain rfl := Option.some.inj h
              exact ⟨⟨[(0, .c (.bool false))], []⟩, _, sub_gen [] rfl rfl ⟨zc rfl rfl, trivial⟩ trivial, resA1 (v := .c (.bool false)) rfl rfl, rfl⟩
            refine SCode.region (show SOps _ _ _ [0, 1, 2, 3, 4, 5, 6, 7, 8, 9, 10, 11, 12, 13, 14, 15, 16, 17, 18, 19, 20, 21, 22, 23, 24, 25, 26, 27, 28, 29, 30, 31, 32, 33, 34, 35, 36, 37, 38, 39, 40] _ _ from ?_)
            refine SOps.q rfl (.plain rfl) rfl (q_move rfl rfl) ?_
            refine SOps.q rfl (.plain rfl) rfl (q_bsliceL (c := (cInt .i64)) (d0 := 0) [7, 6, 3] rfl rfl sl22 z3 rfl rfl rfl rfl rfl rfl rfl) ?_
            refine SOps.q rfl (.plain rfl) rfl (q_call (slices_Equal_int_int_ok F c_3.1 ([7, 6, 3]) c_13 g14) [] rfl fn12 ⟨⟨_, rfl, .inl ⟨rfl, rfl⟩⟩, ⟨_, rfl, .inl ⟨rfl, rfl⟩⟩, trivial⟩ (.inl rfl)) ?_
            refine SOps.q rfl (.plain rfl) rfl (q_move rfl rfl) ?_
            refine SOps.q rfl (.guard 3 42 true rfl rfl (gT g15)) rfl (q_move rfl rfl) ?_
            refine SOps.q rfl (.guard 3 42 true rfl rfl (gT g15)) rfl (q_eql rfl rfl rfl) ?_
            refine SOps.q rfl (.plain rfl) rfl (q_pick_t rfl rfl g15 rfl) ?_
            refine SOps.q rfl (.plain rfl) rfl (q_move rfl rfl) ?_
            refine SOps.q rfl (.guard 7 46 true rfl rfl (gT g16)) rfl (q_move rfl rfl) ?_
            refine SOps.q rfl (.guard 7 46 true rfl rfl (gT g16)) rfl (q_move rfl rfl) ?_
            refine SOps.q rfl (.guard 7 46 true rfl rfl (gT g16)) rfl (q_call (slices_Equal_int_int_ok F c_5.1 c_3.1 c_17 g18) [] rfl fn12 ⟨⟨_, rfl, .inl ⟨rfl, rfl⟩⟩, ⟨_, rfl, .inl ⟨rfl, rfl⟩⟩, trivial⟩ (.inl rfl)) ?_
            refine SOps.q rfl (.plain rfl) rfl (q_pick_t rfl rfl g16 rfl) ?_
            refine SOps.q rfl (.plain rfl) rfl (q_move rfl rfl) ?_
            refine SOps.q rfl (.guard 12 51 true rfl rfl (gT g19)) rfl (q_move rfl rfl) ?_
            refine SOps.q rfl (.guard 12 51 true rfl rfl (gT g19)) rfl (q_eql rfl rfl rfl) ?_
            refine SOps.q rfl (.plain rfl) rfl (q_pick_t rfl rfl g19 rfl) ?_
            refine SOps.q rfl (.plain rfl) rfl (q_move rfl rfl) ?_
            refine SOps.q rfl (.guard 16 55 true rfl rfl (gT g20)) rfl (q_move rfl rfl) ?_
            refine SOps.q rfl (.guard 16 55 true rfl rfl (gT g20)) rfl (q_move rfl rfl) ?_
            refine SOps.q rfl (.guard 16 55 true rfl rfl (gT g20)) rfl (q_call (slices_Equal_int_int_ok F c_7.1 ([10, 10, 3]) c_21 g22) [] rfl fn12 ⟨⟨_, rfl, .inl ⟨rfl, rfl⟩⟩, ⟨_, rfl, .inl ⟨rfl, rfl⟩⟩, trivial⟩ (.inl rfl)) ?_
            refine SOps.q rfl (.plain rfl) rfl (q_pick_t rfl rfl g20 rfl) ?_
            refine SOps.q rfl (.plain rfl) rfl (q_move rfl rfl) ?_
            refine SOps.q rfl (.guard 21 60 true rfl rfl (gT g23)) rfl (q_move rfl rfl) ?_
            refine SOps.q rfl (.guard 21 60 true rfl rfl (gT g23)) rfl (q_eql rfl rfl rfl) ?_
            refine SOps.q rfl (.plain rfl) rfl (q_pick_t rfl rfl g23 rfl) ?_
            refine SOps.q rfl (.plain rfl) rfl (q_move rfl rfl) ?_
            refine SOps.skip rfl 25 64 true rfl rfl (.inl (gF g24)) rfl ?_
            refine SOps.skip rfl 25 64 true rfl rfl (.inl (gF g24)) rfl ?_
            refine SOps.skip rfl 25 64 true rfl rfl (.inl (gF g24)) rfl ?_
            refine SOps.q rfl (.plain rfl) rfl (q_pick_f rfl rfl g24 rfl) ?_
            refine SOps.q rfl (.plain rfl) rfl (q_move rfl rfl) ?_
            refine SOps.skip rfl 30 69 true rfl rfl (.inl rfl) rfl ?_
            refine SOps.skip rfl 30 69 true rfl rfl (.inl rfl) rfl ?_
            refine SOps.q rfl (.plain rfl) rfl (q_pick_f rfl rfl rfl rfl) ?_
            refine SOps.q rfl (.plain rfl) rfl (q_move rfl rfl) ?_
            refine SOps.skip rfl 34 73 true rfl rfl (.inl rfl) rfl ?_
            refine SOps.skip rfl 34 73 true rfl rfl (.inl rfl) rfl ?_
            refine SOps.skip rfl 34 73 true rfl rfl (.inl rfl) rfl ?_
            refine SOps.skip rfl 34 73 true rfl rfl (.inl rfl) rfl ?_
            refine SOps.q rfl (.plain rfl) rfl (q_pick_f rfl rfl rfl rfl) ?_
            refine SOps.q rfl (.plain rfl) rfl (q_assign rfl rfl) ?_
            refine SOps.sub (st' := ⟨[(0, .c (.bool false))], []⟩) (sub_gen [] rfl rfl ⟨zc rfl rfl, trivial⟩ trivial) ?_
            refine SOps.nil ?_
            refine SCode.ret ?_
            obtain rfl := Option.some.inj h
            exact ⟨⟨[(0, .c (.bool false))], []⟩, _, sub_gen [] rfl rfl ⟨zc rfl rfl, trivial⟩ trivial, resA1 (v := .c (.bool false)) rfl rfl, rfl⟩
          refine SCode.region (show SOps _ _ _ [0, 1, 2, 3, 4, 5, 6, 7, 8, 9, 10, 11, 12, 13, 14, 15, 16, 17, 18, 19, 20, 21, 22, 23, 24, 25, 26, 27, 28, 29, 30, 31, 32, 33, 34, 35, 36, 37, 38, 39, 40] _ _ from ?_)
          refine SOps.q rfl (.plain rfl) rfl (q_move rfl rfl) ?_
          refine SOps.q rfl (.plain rfl) rfl (q_bsliceL (c := (cInt .i64)) (d0 := 0) [7, 6, 3] rfl rfl sl22 z3 rfl rfl rfl rfl rfl rfl rfl) ?_
          refine SOps.q rfl (.plain rfl) rfl (q_call (slices_Equal_int_int_ok F c_3.1 ([7, 6, 3]) c_13 g14) [] rfl fn12 ⟨⟨_, rfl, .inl ⟨rfl, rfl⟩⟩, ⟨_, rfl, .inl ⟨rfl, rfl⟩⟩, trivial⟩ (.inl rfl)) ?_
          refine SOps.q rfl (.plain rfl) rfl (q_move rfl rfl) ?_
          refine SOps.q rfl (.guard 3 42 true rfl rfl (gT g15)) rfl (q_move rfl rfl) ?_
          refine SOps.q rfl (.guard 3 42 true rfl rfl (gT g15)) rfl (q_eql rfl rfl rfl) ?_
          refine SOps.q rfl (.plain rfl) rfl (q_pick_t rfl rfl g15 rfl) ?_
          refine SOps.q rfl (.plain rfl) rfl (q_move rfl rfl) ?_
          refine SOps.q rfl (.guard 7 46 true rfl rfl (gT g16)) rfl (q_move rfl rfl) ?_
          refine SOps.q rfl (.guard 7 46 true rfl rfl (gT g16)) rfl (q_move rfl rfl) ?_
          refine SOps.q rfl (.guard 7 46 true rfl rfl (gT g16)) rfl (q_call (slices_Equal_int_int_ok F c_5.1 c_3.1 c_17 g18) [] rfl fn12 ⟨⟨_, rfl, .inl ⟨rfl, rfl⟩⟩, ⟨_, rfl, .inl ⟨rfl, rfl⟩⟩, trivial⟩ (.inl rfl)) ?_
          refine SOps.q rfl (.plain rfl) rfl (q_pick_t rfl rfl g16 rfl) ?_
          refine SOps.q rfl (.plain rfl) rfl (q_move rfl rfl) ?_
          refine SOps.q rfl (.guard 12 51 true rfl rfl (gT g19)) rfl (q_move rfl rfl) ?_
          refine SOps.q rfl (.guard 12 51 true rfl rfl (gT g19)) rfl (q_eql rfl rfl rfl) ?_
          refine SOps.q rfl (.plain rfl) rfl (q_pick_t rfl rfl g19 rfl) ?_
          refine SOps.q rfl (.plain rfl) rfl (q_move rfl rfl) ?_
          refine SOps.q rfl (.guard 16 55 true rfl rfl (gT g20)) rfl (q_move rfl rfl) ?_
          refine SOps.q rfl (.guard 16 55 true rfl rfl (gT g20)) rfl (q_move rfl rfl) ?_
          refine SOps.q rfl (.guard 16 55 true rfl rfl (gT g20)) rfl (q_call (slices_Equal_int_int_ok F c_7.1 ([10, 10, 3]) c_21 g22) [] rfl fn12 ⟨⟨_, rfl, .inl ⟨rfl, rfl⟩⟩, ⟨_, rfl, .inl ⟨rfl, rfl⟩⟩, trivial⟩ (.inl rfl)) ?_
          refine SOps.q rfl (.plain rfl) rfl (q_pick_t rfl rfl g20 rfl) ?_
          refine SOps.q rfl (.plain rfl) rfl (q_move rfl rfl) ?_
          refine SOps.skip rfl 21 60 true rfl rfl (.inl (gF g23)) rfl ?_
          refine SOps.skip rfl 21 60 true rfl rfl (.inl (gF g23)) rfl ?_
          refine SOps.q rfl (.plain rfl) rfl (q_pick_f rfl rfl g23 rfl) ?_
          refine SOps.q rfl (.plain rfl) rfl (q_move rfl rfl) ?_
          refine SOps.skip rfl 25 64 true rfl rfl (.inl rfl) rfl ?_
          refine SOps.skip rfl 25 64 true rfl rfl (.inl rfl) rfl ?_
          refine SOps.skip rfl 25 64 true rfl rfl (.inl rfl) rfl ?_
          refine SOps.q rfl (.plain rfl) rfl (q_pick_f rfl rfl rfl rfl) ?_
          refine SOps.q rfl (.plain rfl) rfl (q_move rfl rfl) ?_
          refine SOps.skip rfl 30 69 true rfl rfl (.inl rfl) rfl ?_
          refine SOps.skip rfl 30 69 true rfl rfl (.inl rfl) rfl ?_
          refine SOps.q rfl (.plain rfl) rfl (q_pick_f rfl rfl rfl rfl) ?_
          refine SOps.q rfl (.plain rfl) rfl (q_move rfl rfl) ?_
          refine SOps.skip rfl 34 73 true rfl rfl (.inl rfl) rfl ?_
          refine SOps.skip rfl 34 73 true rfl rfl (.inl rfl) rfl ?_
          refine SOps.skip rfl 34 73 true rfl rfl (.inl rfl) rfl ?_
          refine SOps.skip rfl 34 73 true rfl rfl (.inl rfl) rfl ?_
          refine SOps.q rfl (.plain rfl) rfl (q_pick_f rfl rfl rfl rfl) ?_
          refine SOps.q rfl (.plain rfl) rfl (q_assign rfl rfl) ?_
          refine SOps.sub (st' := ⟨[(0, .c (.bool false))], []⟩) (sub_gen [] rfl rfl ⟨zc rfl rfl, trivial⟩ trivial) ?_
          refine SOps.nil ?_
          refine SCode.ret ?_
          obtain rfl := Option.some.inj h
          exact ⟨⟨[(0, .c (.bool false))], []⟩, _, sub_gen [] rfl rfl ⟨zc rfl rfl, trivial⟩ trivial, resA1 (v := .c (.bool false)) rfl rfl, rfl⟩
        refine SCode.region (show SOps _ _ _ [0, 1, 2, 3, 4, 5, 6, 7, 8, 9, 10, 11, 12, 13, 14, 15, 16, 17, 18, 19, 20, 21, 22, 23, 24, 25, 26, 27, 28, 29, 30, 31, 32, 33, 34, 35, 36, 37, 38, 39, 40] _ _ from ?_)
        refine SOps.q rfl (.plain rfl) rfl (q_move rfl rfl) ?_
        refine SOps.q rfl (.plain rfl) rfl (q_bsliceL (c := (cInt .i64)) (d0 := 0) [7, 6, 3] rfl rfl sl22 z3 rfl rfl rfl rfl rfl rfl rfl) ?_
        refine SOps.q rfl (.plain rfl) rfl (q_call (slices_Equal_int_int_ok F c_3.1 ([7, 6, 3]) c_13 g14) [] rfl fn12 ⟨⟨_, rfl, .inl ⟨rfl, rfl⟩⟩, ⟨_, rfl, .inl ⟨rfl, rfl⟩⟩, trivial⟩ (.inl rfl)) ?_
        refine SOps.q rfl (.plain rfl) rfl (q_move rfl rfl) ?_
        refine SOps.q rfl (.guard 3 42 true rfl rfl (gT g15)) rfl (q_move rfl rfl) ?_
        refine SOps.q rfl (.guard 3 42 true rfl rfl (gT g15)) rfl (q_eql rfl rfl rfl) ?_
        refine SOps.q rfl (.plain rfl) rfl (q_pick_t rfl rfl g15 rfl) ?_
        refine SOps.q rfl (.plain rfl) rfl (q_move rfl rfl) ?_
        refine SOps.q rfl (.guard 7 46 true rfl rfl (gT g16)) rfl (q_move rfl rfl) ?_
        refine SOps.q rfl (.guard 7 46 true rfl rfl (gT g16)) rfl (q_move rfl rfl) ?_
        refine SOps.q rfl (.guard 7 46 true rfl rfl (gT g16)) rfl (q_call (slices_Equal_int_int_ok F c_5.1 c_3.1 c_17 g18) [] rfl fn12 ⟨⟨_, rfl, .inl ⟨rfl, rfl⟩⟩, ⟨_, rfl, .inl ⟨rfl, rfl⟩⟩, trivial⟩ (.inl rfl)) ?_
        refine SOps.q rfl (.plain rfl) rfl (q_pick_t rfl rfl g16 rfl) ?_
        refine SOps.q rfl (.plain rfl) rfl (q_move rfl rfl) ?_
        refine SOps.q rfl (.guard 12 51 true rfl rfl (gT g19)) rfl (q_move rfl rfl) ?_
        refine SOps.q rfl (.guard 12 51 true rfl rfl (gT g19)) rfl (q_eql rfl rfl rfl) ?_
        refine SOps.q rfl (.plain rfl) rfl (q_pick_t rfl rfl g19 rfl) ?_
        refine SOps.q rfl (.plain rfl) rfl (q_move rfl rfl) ?_
        refine SOps.skip rfl 16 55 true rfl rfl (.inl (gF g20)) rfl ?_
        refine SOps.skip rfl 16 55 true rfl rfl (.inl (gF g20)) rfl ?_
        refine SOps.skip rfl 16 55 true rfl rfl (.inl (gF g20)) rfl ?_
        refine SOps.q rfl (.plain rfl) rfl (q_pick_f rfl rfl g20 rfl) ?_
        refine SOps.q rfl (.plain rfl) rfl (q_move rfl rfl) ?_
        refine SOps.skip rfl 21 60 true rfl rfl (.inl rfl) rfl ?_
        refine SOps.skip rfl 21 60 true rfl rfl (.inl rfl) rfl ?_
        refine SOps.q rfl (.plain rfl) rfl (q_pick_f rfl rfl rfl rfl) ?_
        refine SOps.q rfl (.plain rfl) rfl (q_move rfl rfl) ?_
        refine SOps.skip rfl 25 64 true rfl rfl (.inl rfl) rfl ?_
        refine SOps.skip rfl 25 64 true rfl rfl (.inl rfl) rfl ?_
        refine SOps.skip rfl 25 64 true rfl rfl (.inl rfl) rfl ?_
        refine SOps.q rfl (.plain rfl) rfl (q_pick_f rfl rfl rfl rfl) ?_
        refine SOps.q rfl (.plain rfl) rfl (q_move rfl rfl) ?_
        refine SOps.skip rfl 30 69 true rfl rfl (.inl rfl) rfl ?_
        refine SOps.skip rfl 30 69 true rfl rfl (.inl rfl) rfl ?_
        refine SOps.q rfl (.plain rfl) rfl (q_pick_f rfl rfl rfl rfl) ?_
        refine SOps.q rfl (.plain rfl) rfl (q_move rfl rfl) ?_
        refine SOps.skip rfl 34 73 true rfl rfl (.inl rfl) rfl ?_
        refine SOps.skip rfl 34 73 true rfl rfl (.inl rfl) rfl ?_
        refine SOps.skip rfl 34 73 true rfl rfl (.inl rfl) rfl ?_
        refine SOps.skip rfl 34 73 true rfl rfl (.inl rfl) rfl ?_
        refine SOps.q rfl (.plain rfl) rfl (q_pick_f rfl rfl rfl rfl) ?_
        refine SOps.q rfl (.plain rfl) rfl (q_assign rfl rfl) ?_
        refine SOps.sub (st' := ⟨[(0, .c (.bool false))], []⟩) (sub_gen [] rfl rfl ⟨zc rfl rfl, trivial⟩ trivial) ?_
        refine SOps.nil ?_
        refine SCode.ret ?_
        obtain rfl := Option.some.inj h
        exact ⟨⟨[(0, .c (.bool false))], []⟩, _, sub_gen [] rfl rfl ⟨zc rfl rfl, trivial⟩ trivial, resA1 (v := .c (.bool false)) rfl rfl, rfl⟩
      refine SCode.region (show SOps _ _ _ [0, 1, 2, 3, 4, 5, 6, 7, 8, 9, 10, 11, 12, 13, 14, 15, 16, 17, 18, 19, 20, 21, 22, 23, 24, 25, 26, 27, 28, 29, 30, 31, 32, 33, 34, 35, 36, 37, 38, 39, 40] _ _ from ?_)
      refine SOps.q rfl (.plain rfl) rfl (q_move rfl rfl) ?_
      refine SOps.q rfl (.plain rfl) rfl (q_bsliceL (c := (cInt .i64)) (d0 := 0) [7, 6, 3] rfl rfl sl22 z3 rfl rfl rfl rfl rfl rfl rfl) ?_
      refine SOps.q rfl (.plain rfl) rfl (q_call (slices_Equal_int_int_ok F c_3.1 ([7, 6, 3]) c_13 g14) [] rfl fn12 ⟨⟨_, rfl, .inl ⟨rfl, rfl⟩⟩, ⟨_, rfl, .inl ⟨rfl, rfl⟩⟩, trivial⟩ (.inl rfl)) ?_
      refine SOps.q rfl (.plain rfl) rfl (q_move rfl rfl) ?_
      refine SOps.q rfl (.guard 3 42 true rfl rfl (gT g15)) rfl (q_move rfl rfl) ?_
      refine SOps.q rfl (.guard 3 42 true rfl rfl (gT g15)) rfl (q_eql rfl rfl rfl) ?_
      refine SOps.q rfl (.plain rfl) rfl (q_pick_t rfl rfl g15 rfl) ?_
      refine SOps.q rfl (.plain rfl) rfl (q_move rfl rfl) ?_
      refine SOps.q rfl (.guard 7 46 true rfl rfl (gT g16)) rfl (q_move rfl rfl) ?_
      refine SOps.q rfl (.guard 7 46 true rfl rfl (gT g16)) rfl (q_move rfl rfl) ?_
      refine SOps.q rfl (.guard 7 46 true rfl rfl (gT g16)) rfl (q_call (slices_Equal_int_int_ok F c_5.1 c_3.1 c_17 g18) [] rfl fn12 ⟨⟨_, rfl, .inl ⟨rfl, rfl⟩⟩, ⟨_, rfl, .inl ⟨rfl, rfl⟩⟩, trivial⟩ (.inl rfl)) ?_
      refine SOps.q rfl (.plain rfl) rfl (q_pick_t rfl rfl g16 rfl) ?_
      refine SOps.q rfl (.plain rfl) rfl (q_move rfl rfl) ?_
      refine SOps.skip rfl 12 51 true rfl rfl (.inl (gF g19)) rfl ?_
      refine SOps.skip rfl 12 51 true rfl rfl (.inl (gF g19)) rfl ?_
      refine SOps.q rfl (.plain rfl) rfl (q_pick_f rfl rfl g19 rfl) ?_
      refine SOps.q rfl (.plain rfl) rfl (q_move rfl rfl) ?_
      refine SOps.skip rfl 16 55 true rfl rfl (.inl rfl) rfl ?_
      refine SOps.skip rfl 16 55 true rfl rfl (.inl rfl) rfl ?_
      refine SOps.skip rfl 16 55 true rfl rfl (.inl rfl) rfl ?_
      refine SOps.q rfl (.plain rfl) rfl (q_pick_f rfl rfl rfl rfl) ?_
      refine SOps.q rfl (.plain rfl) rfl (q_move rfl rfl) ?_
      refine SOps.skip rfl 21 60 true rfl rfl (.inl rfl) rfl ?_
      refine SOps.skip rfl 21 60 true rfl rfl (.inl rfl) rfl ?_
      refine SOps.q rfl (.plain rfl) rfl (q_pick_f rfl rfl rfl rfl) ?_
      refine SOps.q rfl (.plain rfl) rfl (q_move rfl rfl) ?_
      refine SOps.skip rfl 25 64 true rfl rfl (.inl rfl) rfl ?_
      refine SOps.skip rfl 25 64 true rfl rfl (.inl rfl) rfl ?_
      refine SOps.skip rfl 25 64 true rfl rfl (.inl rfl) rfl ?_
      refine SOps.q rfl (.plain rfl) rfl (q_pick_f rfl rfl rfl rfl) ?_
      refine SOps.q rfl (.plain rfl) rfl (q_move rfl rfl) ?_
      refine SOps.skip rfl 30 69 true rfl rfl (.inl rfl) rfl ?_
      refine SOps.skip rfl 30 69 true rfl rfl (.inl rfl) rfl ?_
      refine SOps.q rfl (.plain rfl) rfl (q_pick_f rfl rfl rfl rfl) ?_
      refine SOps.q rfl (.plain rfl) rfl (q_move rfl rfl) ?_
      refine SOps.skip rfl 34 73 true rfl rfl (.inl rfl) rfl ?_
      refine SOps.skip rfl 34 73 true rfl rfl (.inl rfl) rfl ?_
      refine SOps.skip rfl 34 73 true rfl rfl (.inl rfl) rfl ?_
      refine SOps.skip rfl 34 73 true rfl rfl (.inl rfl) rfl ?_
      refine SOps.q rfl (.plain rfl) rfl (q_pick_f rfl rfl rfl rfl) ?_
      refine SOps.q rfl (.plain rfl) rfl (q_assign rfl rfl) ?_
      refine SOps.sub (st' := ⟨[(0, .c (.bool false))], []⟩) (sub_gen [] rfl rfl ⟨zc rfl rfl, trivial⟩ trivial) ?_
      refine SOps.nil ?_
      refine SCode.ret ?_
      obtain rfl := Option.some.inj h
      exact ⟨⟨[(0, .c (.bool false))], []⟩, _, sub_gen [] rfl rfl ⟨zc rfl rfl, trivial⟩ trivial, resA1 (v := .c (.bool false)) rfl rfl, rfl⟩
    refine SCode.region (show SOps _ _ _ [0, 1, 2, 3, 4, 5, 6, 7, 8, 9, 10, 11, 12, 13, 14, 15, 16, 17, 18, 19, 20, 21, 22, 23, 24, 25, 26, 27, 28, 29, 30, 31, 32, 33, 34, 35, 36, 37, 38, 39, 40] _ _ from ?_)
    refine SOps.q rfl (.plain rfl) rfl (q_move rfl rfl) ?_
    refine SOps.q rfl (.plain rfl) rfl (q_bsliceL (c := (cInt .i64)) (d0 := 0) [7, 6, 3] rfl rfl sl22 z3 rfl rfl rfl rfl rfl rfl rfl) ?_
    refine SOps.q rfl (.plain rfl) rfl (q_call (slices_Equal_int_int_ok F c_3.1 ([7, 6, 3]) c_13 g14) [] rfl fn12 ⟨⟨_, rfl, .inl ⟨rfl, rfl⟩⟩, ⟨_, rfl, .inl ⟨rfl, rfl⟩⟩, trivial⟩ (.inl rfl)) ?_
    refine SOps.q rfl (.plain rfl) rfl (q_move rfl rfl) ?_
    refine SOps.q rfl (.guard 3 42 true rfl rfl (gT g15)) rfl (q_move rfl rfl) ?_
    refine SOps.q rfl (.guard 3 42 true rfl rfl (gT g15)) rfl (q_eql rfl rfl rfl) ?_
    refine SOps.q rfl (.plain rfl) rfl (q_pick_t rfl rfl g15 rfl) ?_
    refine SOps.q rfl (.plain rfl) rfl (q_move rfl rfl) ?_
    refine SOps.skip rfl 7 46 true rfl rfl (.inl (gF g16)) rfl ?_
    refine SOps.skip rfl 7 46 true rfl rfl (.inl (gF g16)) rfl ?_
    refine SOps.skip rfl 7 46 true rfl rfl (.inl (gF g16)) rfl ?_
    refine SOps.q rfl (.plain rfl) rfl (q_pick_f rfl rfl g16 rfl) ?_
    refine SOps.q rfl (.plain rfl) rfl (q_move rfl rfl) ?_
    refine SOps.skip rfl 12 51 true rfl rfl (.inl rfl) rfl ?_
    refine SOps.skip rfl 12 51 true rfl rfl (.inl rfl) rfl ?_
    refine SOps.q rfl (.plain rfl) rfl (q_pick_f rfl rfl rfl rfl) ?_
    refine SOps.q rfl (.plain rfl) rfl (q_move rfl rfl) ?_
    refine SOps.skip rfl 16 55 true rfl rfl (.inl rfl) rfl ?_
    refine SOps.skip rfl 16 55 true rfl rfl (.inl rfl) rfl ?_
    refine SOps.skip rfl 16 55 true rfl rfl (.inl rfl) rfl ?_
    refine SOps.q rfl (.plain rfl) rfl (q_pick_f rfl rfl rfl rfl) ?_
    refine SOps.q rfl (.plain rfl) rfl (q_move rfl rfl) ?_
    refine SOps.skip rfl 21 60 true rfl rfl (.inl rfl) rfl ?_
    refine SOps.skip rfl 21 60 true rfl rfl (.inl rfl) rfl ?_
    refine SOps.q rfl (.plain rfl) rfl (q_pick_f rfl rfl rfl rfl) ?_
    refine SOps.q rfl (.plain rfl) rfl (q_move rfl rfl) ?_
    refine SOps.skip rfl 25 64 true rfl rfl (.inl rfl) rfl ?_
    refine SOps.skip rfl 25 64 true rfl rfl (.inl rfl) rfl ?_
    refine SOps.skip rfl 25 64 true rfl rfl (.inl rfl) rfl ?_
    refine SOps.q rfl (.plain rfl) rfl (q_pick_f rfl rfl rfl rfl) ?_
    refine SOps.q rfl (.plain rfl) rfl (q_move rfl rfl) ?_
    refine SOps.skip rfl 30 69 true rfl rfl (.inl rfl) rfl ?_
    refine SOps.skip rfl 30 69 true rfl rfl (.inl rfl) rfl ?_
    refine SOps.q rfl (.plain rfl) rfl (q_pick_f rfl rfl rfl rfl) ?_
    refine SOps.q rfl (.plain rfl) rfl (q_move rfl rfl) ?_
    refine SOps.skip rfl 34 73 true rfl rfl (.inl rfl) rfl ?_
    refine SOps.skip rfl 34 73 true rfl rfl (.inl rfl) rfl ?_
    refine SOps.skip rfl 34 73 true rfl rfl (.inl rfl) rfl ?_
    refine SOps.skip rfl 34 73 true rfl rfl (.inl rfl) rfl ?_
    refine SOps.q rfl (.plain rfl) rfl (q_pick_f rfl rfl rfl rfl) ?_
    refine SOps.q rfl (.plain rfl) rfl (q_assign rfl rfl) ?_
    refine SOps.sub (st' := ⟨[(0, .c (.bool false))], []⟩) (sub_gen [] rfl rfl ⟨zc rfl rfl, trivial⟩ trivial) ?_
    refine SOps.nil ?_
    refine SCode.ret ?_
    obtain rfl := Option.some.inj h
    exact ⟨⟨[(0, .c (.bool false))], []⟩, _, sub_gen [] rfl rfl ⟨zc rfl rfl, trivial⟩ trivial, resA1 (v := .c (.bool false)) rfl rfl, rfl⟩
  refine SCode.region (show SOps _ _ _ [0, 1, 2, 3, 4, 5, 6, 7, 8, 9, 10, 11, 12, 13, 14, 15, 16, 17, 18, 19, 20, 21, 22, 23, 24, 25, 26, 27, 28, 29, 30, 31, 32, 33, 34, 35, 36, 37, 38, 39, 40] _ _ from ?_)
  refine SOps.q rfl (.plain rfl) rfl (q_move rfl rfl) ?_
  refine SOps.q rfl (.plain rfl) rfl (q_bsliceL (c := (cInt .i64)) (d0 := 0) [7, 6, 3] rfl rfl sl22 z3 rfl rfl rfl rfl rfl rfl rfl) ?_
  refine SOps.q rfl (.plain rfl) rfl (q_call (slices_Equal_int_int_ok F c_3.1 ([7, 6, 3]) c_13 g14) [] rfl fn12 ⟨⟨_, rfl, .inl ⟨rfl, rfl⟩⟩, ⟨_, rfl, .inl ⟨rfl, rfl⟩⟩, trivial⟩ (.inl rfl)) ?_
  refine SOps.q rfl (.plain rfl) rfl (q_move rfl rfl) ?_
  refine SOps.skip rfl 3 42 true rfl rfl (.inl (gF g15)) rfl ?_
  refine SOps.skip rfl 3 42 true rfl rfl (.inl (gF g15)) rfl ?_
  refine SOps.q rfl (.plain rfl) rfl (q_pick_f rfl rfl g15 rfl) ?_
  refine SOps.q rfl (.plain rfl) rfl (q_move rfl rfl) ?_
  refine SOps.skip rfl 7 46 true rfl rfl (.inl rfl) rfl ?_
  refine SOps.skip rfl 7 46 true rfl rfl (.inl rfl) rfl ?_
  refine SOps.skip rfl 7 46 true rfl rfl (.inl rfl) rfl ?_
  refine SOps.q rfl (.plain rfl) rfl (q_pick_f rfl rfl rfl rfl) ?_
  refine SOps.q rfl (.plain rfl) rfl (q_move rfl rfl) ?_
  refine SOps.skip rfl 12 51 true rfl rfl (.inl rfl) rfl ?_
  refine SOps.skip rfl 12 51 true rfl rfl (.inl rfl) rfl ?_
  refine SOps.q rfl (.plain rfl) rfl (q_pick_f rfl rfl rfl rfl) ?_
  refine SOps.q rfl (.plain rfl) rfl (q_move rfl rfl) ?_
  refine SOps.skip rfl 16 55 true rfl rfl (.inl rfl) rfl ?_
  refine SOps.skip rfl 16 55 true rfl rfl (.inl rfl) rfl ?_
  refine SOps.skip rfl 16 55 true rfl rfl (.inl rfl) rfl ?_
  refine SOps.q rfl (.plain rfl) rfl (q_pick_f rfl rfl rfl rfl) ?_
  refine SOps.q rfl (.plain rfl) rfl (q_move rfl rfl) ?_
  refine SOps.skip rfl 21 60 true rfl rfl (.inl rfl) rfl ?_
  refine SOps.skip rfl 21 60 true rfl rfl (.inl rfl) rfl ?_
  refine SOps.q rfl (.plain rfl) rfl (q_pick_f rfl rfl rfl rfl) ?_
  refine SOps.q rfl (.plain rfl) rfl (q_move rfl rfl) ?_
  refine SOps.skip rfl 25 64 true rfl rfl (.inl rfl) rfl ?_
  refine SOps.skip rfl 25 64 true rfl rfl (.inl rfl) rfl ?_
  refine SOps.skip rfl 25 64 true rfl rfl (.inl rfl) rfl ?_
  refine SOps.q rfl (.plain rfl) rfl (q_pick_f rfl rfl rfl rfl) ?_
  refine SOps.q rfl (.plain rfl) rfl (q_move rfl rfl) ?_
  refine SOps.skip rfl 30 69 true rfl rfl (.inl rfl) rfl ?_
  refine SOps.skip rfl 30 69 true rfl rfl (.inl rfl) rfl ?_
  refine SOps.q rfl (.plain rfl) rfl (q_pick_f rfl rfl rfl rfl) ?_
  refine SOps.q rfl (.plain rfl) rfl (q_move rfl rfl) ?_
  refine SOps.skip rfl 34 73 true rfl rfl (.inl rfl) rfl ?_
  refine SOps.skip rfl 34 73 true rfl rfl (.inl rfl) rfl ?_
  refine SOps.skip rfl 34 73 true rfl rfl (.inl rfl) rfl ?_
  refine SOps.skip rfl 34 73 true rfl rfl (.inl rfl) rfl ?_
  refine SOps.q rfl (.plain rfl) rfl (q_pick_f rfl rfl rfl rfl) ?_
  refine SOps.q rfl (.plain rfl) rfl (q_assign rfl rfl) ?_
  refine SOps.sub (st' := ⟨[(0, .c (.bool false))], []⟩) (sub_gen [] rfl rfl ⟨zc rfl rfl, trivial⟩ trivial) ?_
  refine SOps.nil ?_
  refine SCode.ret ?_
  obtain rfl := Option.some.inj h
  exact ⟨⟨[(0, .c (.bool false))], []⟩, _, sub_gen [] rfl rfl ⟨zc rfl rfl, trivial⟩ trivial, resA1 (v := .c (.bool false)) rfl rfl, rfl⟩
set_option maxRecDepth 100000 in
set_option maxHeartbeats 8000000 in
theorem chargenetlaw10_FairSums_ok (F : Nat) (a0_total : Int) (a1_caps : List Int) (r : Bool) (h : chargenetlaw10_FairSums F a0_total a1_caps = some r) :
    SFun Try.prog 8 [] [.c (.int .i64 a0_total), .c (.vec a1_caps.length 1 (gL (cInt .i64) 0 a1_caps))] (fun x _ => x = .c (.bool r)) := by
  refine SFun.of (n := 41) Try.func8 rfl rfl rfl ?_
  unfold chargenetlaw10_FairSums at h
  show SCode _ _ _ ⟨[(0, .c (.int .i64 a0_total)), (1, .c (.vec a1_caps.length 1 (gL (cInt .i64) 0 a1_caps)))], []⟩ _
  refine SCode.seq ?_
  refine SCode.region (show SOps _ _ _ [0] _ _ from ?_)
  refine SOps.q rfl (.plain rfl) rfl (q_assign rfl rfl) ?_
  refine SOps.sub (st' := ⟨[(0, .c (.int .i64 a0_total)), (1, .c (.vec a1_caps.length 1 (gL (cInt .i64) 0 a1_caps)))], []⟩) (sub_gen [] rfl rfl ⟨zc rfl rfl, zc rfl rfl, trivial⟩ trivial) ?_
  refine SOps.nil ?_
  refine SCode.seq ?_
  refine SCode.seq ?_
  rcases cond_out h with ⟨g1, h⟩ | ⟨g1, h⟩
  · refine SCode.region (show SOps _ _ _ [0, 1, 2, 3, 4, 5, 6] _ _ from ?_)
    refine SOps.q rfl (.plain rfl) rfl (q_move rfl rfl) ?_
    refine SOps.q rfl (.plain rfl) rfl (q_len_vec rfl rfl sl22) ?_
    refine SOps.q rfl (.plain rfl) rfl (q_gtr rfl rfl rfl) ?_
    refine SOps.q rfl (.plain rfl) rfl (q_move rfl rfl) ?_
    refine SOps.skip rfl 3 12 false rfl rfl (.inl (gT g1)) rfl ?_
    refine SOps.skip rfl 3 12 false rfl rfl (.inl (gT g1)) rfl ?_
    refine SOps.q rfl (.plain rfl) rfl (q_pick_t rfl rfl g1 rfl) ?_
    refine SOps.sub (st' := ⟨[(0, .c (.int .i64 a0_total)), (1, .c (.vec a1_caps.length 1 (gL (cInt .i64) 0 a1_caps))), (15, .c (.bool true))], []⟩) (sub_gen [] rfl rfl ⟨zc rfl rfl, zc rfl rfl, zc rfl rfl, trivial⟩ trivial) ?_
    refine SOps.nil ?_
    refine SCode.cond_t rfl rfl ?_
    refine SCode.seq ?_
    obtain ⟨c_2, g3, h⟩ := bind_out h
    try dsimp only at h
    refine SCode.region (show SOps _ _ _ [0, 1] _ _ from ?_)
    refine SOps.q rfl (.plain rfl) rfl (q_call (chargenetlaw10_exampleHolds_ok F  c_2 g3) [] rfl fn9 trivial (.inl rfl)) ?_
    refine SOps.q rfl (.plain rfl) rfl (q_assign rfl rfl) ?_
    refine SOps.sub (st' := ⟨[(4, .c (.bool c_2))], []⟩) (sub_gen [] rfl rfl ⟨zc rfl rfl, trivial⟩ trivial) ?_
    refine SOps.nil ?_
    refine SCode.ret ?_
    obtain rfl := Option.some.inj h
    exact ⟨⟨[(4, .c (.bool c_2))], []⟩, _, sub_gen [] rfl rfl ⟨zc rfl rfl, trivial⟩ trivial, resA1 (v := .c (.bool c_2)) rfl rfl, rfl⟩
  refine SCode.region (show SOps _ _ _ [0, 1, 2, 3, 4, 5, 6] _ _ from ?_)
  refine SOps.q rfl (.plain rfl) rfl (q_move rfl rfl) ?_
  refine SOps.q rfl (.plain rfl) rfl (q_len_vec rfl rfl sl22) ?_
  refine SOps.q rfl (.plain rfl) rfl (q_gtr rfl rfl rfl) ?_
  refine SOps.q rfl (.plain rfl) rfl (q_move rfl rfl) ?_
  refine SOps.q rfl (.guard 3 12 false rfl rfl (gF g1)) rfl (q_move rfl rfl) ?_
  refine SOps.q rfl (.guard 3 12 false rfl rfl (gF g1)) rfl (q_lss rfl rfl rfl) ?_
  refine SOps.q rfl (.plain rfl) rfl (q_pick_f rfl rfl g1 rfl) ?_
  refine SOps.sub (st' := ⟨[(0, .c (.int .i64 a0_total)), (1, .c (.vec a1_caps.length 1 (gL (cInt .i64) 0 a1_caps))), (15, .c (.bool (decide (a0_total < 0))))], []⟩) (sub_gen [] rfl rfl ⟨zc rfl rfl, zc rfl rfl, zc rfl rfl, trivial⟩ trivial) ?_
  refine SOps.nil ?_
  rcases cond_out h with ⟨g4, h⟩ | ⟨g4, h⟩
  · refine SCode.cond_t rfl g4 ?_
    refine SCode.seq ?_
    obtain ⟨c_5, g6, h⟩ := bind_out h
    try dsimp only at h
    refine SCode.region (show SOps _ _ _ [0, 1] _ _ from ?_)
    refine SOps.q rfl (.plain rfl) rfl (q_call (chargenetlaw10_exampleHolds_ok F  c_5 g6) [] rfl fn9 trivial (.inl rfl)) ?_
    refine SOps.q rfl (.plain rfl) rfl (q_assign rfl rfl) ?_
    refine SOps.sub (st' := ⟨[(4, .c (.bool c_5))], []⟩) (sub_gen [] rfl rfl ⟨zc rfl rfl, trivial⟩ trivial) ?_
    refine SOps.nil ?_
    refine SCode.ret ?_
    obtain rfl := Option.some.inj h
    exact ⟨⟨[(4, .c (.bool c_5))], []⟩, _, sub_gen [] rfl rfl ⟨zc rfl rfl, trivial⟩ trivial, resA1 (v := .c (.bool c_5)) rfl rfl, rfl⟩
  refine SCode.cond_f rfl g4 ?_
  refine SCode.skip ?_
  refine SCode.seq ?_
  obtain ⟨c_7, g8, h⟩ := bind_out h
  try dsimp only at h
  refine SCode.region (show SOps _ _ _ [0, 1, 2, 3, 4, 5, 6, 7] _ _ from ?_)
  refine SOps.q rfl (.plain rfl) rfl (q_move rfl rfl) ?_
  refine SOps.q rfl (.plain rfl) rfl (q_move rfl rfl) ?_
  refine SOps.q rfl (.plain rfl) rfl (q_call (fair_Share_ok F a0_total a1_caps c_7 g8) [] rfl fn10 ⟨⟨_, rfl, .inl ⟨rfl, rfl⟩⟩, ⟨_, rfl, .inl ⟨rfl, rfl⟩⟩, trivial⟩ (.inl rfl)) ?_
  refine SOps.q rfl (.plain rfl) rfl (q_move rfl rfl) ?_
  refine SOps.q rfl (.plain rfl) rfl (q_extract rfl rfl rfl) ?_
  refine SOps.q rfl (.plain rfl) rfl (q_extract rfl rfl rfl) ?_
  refine SOps.q rfl (.plain rfl) rfl (q_assign rfl rfl) ?_
  refine SOps.q rfl (.plain rfl) rfl (q_assign rfl rfl) ?_
  refine SOps.sub (st' := ⟨[(0, .c (.int .i64 a0_total)), (1, .c (.vec a1_caps.length 1 (gL (cInt .i64) 0 a1_caps))), (5, .c (.vec c_7.1.length 1 (gL (cInt .i64) 0 c_7.1))), (6, .c (.int .i64 c_7.2))], []⟩) (sub_gen [] rfl rfl ⟨zc rfl rfl, zc rfl rfl, zc rfl rfl, zc rfl rfl, trivial⟩ trivial) ?_
  refine SOps.nil ?_
  refine SCode.seq ?_
  obtain ⟨c_9, g10, h⟩ := bind_out h
  try dsimp only at h
  obtain ⟨c_11, g12, h⟩ := bind_out h
  try dsimp only at h
  refine SCode.region (show SOps _ _ _ [0, 1, 2, 3, 4, 5, 6, 7, 8] _ _ from ?_)
  refine SOps.q rfl (.plain rfl) rfl (q_move rfl rfl) ?_
  refine SOps.q rfl (.plain rfl) rfl (q_move rfl rfl) ?_
  refine SOps.q rfl (.plain rfl) rfl (q_call (chargenetlaw10_sum_ok F a0_total c_9 g10) [] rfl fn20 ⟨⟨_, rfl, .inl ⟨rfl, rfl⟩⟩, trivial⟩ (.inl rfl)) ?_
  refine SOps.q rfl (.plain rfl) rfl (q_call (fair_Fill_f1_34_ok F a1_caps c_9 c_11 g12) [] rfl fn19 ⟨⟨_, rfl, .inl ⟨rfl, rfl⟩⟩, ⟨_, rfl, .inl ⟨rfl, rfl⟩⟩, trivial⟩ (.inl rfl)) ?_
  refine SOps.q rfl (.plain rfl) rfl (q_move rfl rfl) ?_
  refine SOps.q rfl (.plain rfl) rfl (q_extract rfl rfl rfl) ?_
  refine SOps.q rfl (.plain rfl) rfl (q_extract rfl rfl rfl) ?_
  refine SOps.q rfl (.plain rfl) rfl (q_assign rfl rfl) ?_
  refine SOps.q rfl (.plain rfl) rfl (q_assign rfl rfl) ?_
  refine SOps.sub (st' := ⟨[(5, .c (.vec c_7.1.length 1 (gL (cInt .i64) 0 c_7.1))), (6, .c (.int .i64 c_7.2)), (7, .c (.vec c_11.1.length 1 (gL (cInt .i64) 0 c_11.1))), (8, .c (.int .i64 c_11.2))], []⟩) (sub_gen [] rfl rfl ⟨zc rfl rfl, zc rfl rfl, zc rfl rfl, zc rfl rfl, trivial⟩ trivial) ?_
  refine SOps.nil ?_
  refine SCode.seq ?_
  rcases cond_out h with ⟨g13, h⟩ | ⟨g13, h⟩
  · obtain ⟨c_14, g15, h⟩ := bind_out h
    try dsimp only at h
    rcases cond_out h with ⟨g16, h⟩ | ⟨g16, h⟩
    · obtain ⟨c_17, g18, h⟩ := bind_out h
      try dsimp only at h
      refine SCode.region (show SOps _ _ _ [0, 1, 2, 3, 4, 5, 6, 7, 8, 9, 10, 11] _ _ from ?_)
      refine SOps.q rfl (.plain rfl) rfl (q_move rfl rfl) ?_
      refine SOps.q rfl (.plain rfl) rfl (q_move rfl rfl) ?_
      refine SOps.q rfl (.plain rfl) rfl (q_eql rfl rfl rfl) ?_
      refine SOps.q rfl (.plain rfl) rfl (q_move rfl rfl) ?_
      refine SOps.q rfl (.guard 3 33 true rfl rfl (gT g13)) rfl (q_move rfl rfl) ?_
      refine SOps.q rfl (.guard 3 33 true rfl rfl (gT g13)) rfl (q_move rfl rfl) ?_
      refine SOps.q rfl (.guard 3 33 true rfl rfl (gT g13)) rfl (q_call (slices_Equal_int_int_ok F c_7.1 c_11.1 c_14 g15) [] rfl fn12 ⟨⟨_, rfl, .inl ⟨rfl, rfl⟩⟩, ⟨_, rfl, .inl ⟨rfl, rfl⟩⟩, trivial⟩ (.inl rfl)) ?_
      refine SOps.q rfl (.plain rfl) rfl (q_pick_t rfl rfl g13 rfl) ?_
      refine SOps.q rfl (.plain rfl) rfl (q_move rfl rfl) ?_
      refine SOps.q rfl (.guard 8 38 true rfl rfl (gT g16)) rfl (q_call (chargenetlaw10_exampleHolds_ok F  c_17 g18) [] rfl fn9 trivial (.inl rfl)) ?_
      refine SOps.q rfl (.plain rfl) rfl (q_pick_t rfl rfl g16 rfl) ?_
      refine SOps.q rfl (.plain rfl) rfl (q_assign rfl rfl) ?_
      refine SOps.sub (st' := ⟨[(4, .c (.bool c_17))], []⟩) (sub_gen [] rfl rfl ⟨zc rfl rfl, trivial⟩ trivial) ?_
      refine SOps.nil ?_
      refine SCode.ret ?_
      obtain rfl := Option.some.inj h
      exact ⟨⟨[(4, .c (.bool c_17))], []⟩, _, sub_gen [] rfl rfl ⟨zc rfl rfl, trivial⟩ trivial, resA1 (v := .c (.bool c_17)) rfl rfl, rfl⟩
    refine SCode.region (show SOps _ _ _ [0, 1, 2, 3, 4, 5, 6, 7, 8, 9, 10, 11] _ _ from ?_)
    refine SOps.q rfl (.plain rfl) rfl (q_move rfl rfl) ?_
    refine SOps.q rfl (.plain rfl) rfl (q_move rfl rfl) ?_
    refine SOps.q rfl (.plain rfl) rfl (q_eql rfl rfl rfl) ?_
    refine SOps.q rfl (.plain rfl) rfl (q_move rfl rfl) ?_
    refine SOps.q rfl (.guard 3 33 true rfl rfl (gT g13)) rfl (q_move rfl rfl) ?_
    refine SOps.q rfl (.guard 3 33 true rfl rfl (gT g13)) rfl (q_move rfl rfl) ?_
    refine SOps.q rfl (.guard 3 33 true rfl rfl (gT g13)) rfl (q_call (slices_Equal_int_int_ok F c_7.1 c_11.1 c_14 g15) [] rfl fn12 ⟨⟨_, rfl, .inl ⟨rfl, rfl⟩⟩, ⟨_, rfl, .inl ⟨rfl, rfl⟩⟩, trivial⟩ (.inl rfl)) ?_
    refine SOps.q rfl (.plain rfl) rfl (q_pick_t rfl rfl g13 rfl) ?_
    refine SOps.q rfl (.plain rfl) rfl (q_move rfl rfl) ?_
    refine SOps.skip rfl 8 38 true rfl rfl (.inl (gF g16)) rfl ?_
    refine SOps.q rfl (.plain rfl) rfl (q_pick_f rfl rfl g16 rfl) ?_
    refine SOps.q rfl (.plain rfl) rfl (q_assign rfl rfl) ?_
    refine SOps.sub (st' := ⟨[(4, .c (.bool false))], []⟩) (sub_gen [] rfl rfl ⟨zc rfl rfl, trivial⟩ trivial) ?_
    refine SOps.nil ?_
    refine SCode.ret ?_
    obtain rfl := Option.some.inj h
    exact ⟨⟨[(4, .c (.bool false))], []⟩, _, sub_gen [] rfl rfl ⟨zc rfl rfl, trivial⟩ trivial, resA1 (v := .c (.bool false)) rfl rfl, rfl⟩
  refine SCode.region (show SOps _ _ _ [0, 1, 2, 3, 4, 5, 6, 7, 8, 9, 10, 11] _ _ from ?_)
  refine SOps.q rfl (.plain rfl) rfl (q_move rfl rfl) ?_
  refine SOps.q rfl (.plain rfl) rfl (q_move rfl rfl) ?_
  refine SOps.q rfl (.plain rfl) rfl (q_eql rfl rfl rfl) ?_
  refine SOps.q rfl (.plain rfl) rfl (q_move rfl rfl) ?_
  refine SOps.skip rfl 3 33 true rfl rfl (.inl (gF g13)) rfl ?_
  refine SOps.skip rfl 3 33 true rfl rfl (.inl (gF g13)) rfl ?_
  refine SOps.skip rfl 3 33 true rfl rfl (.inl (gF g13)) rfl ?_
  refine SOps.q rfl (.plain rfl) rfl (q_pick_f rfl rfl g13 rfl) ?_
  refine SOps.q rfl (.plain rfl) rfl (q_move rfl rfl) ?_
  refine SOps.skip rfl 8 38 true rfl rfl (.inl rfl) rfl ?_
  refine SOps.q rfl (.plain rfl) rfl (q_pick_f rfl rfl rfl rfl) ?_
  refine SOps.q rfl (.plain rfl) rfl (q_assign rfl rfl) ?_
  refine SOps.sub (st' := ⟨[(4, .c (.bool false))], []⟩) (sub_gen [] rfl rfl ⟨zc rfl rfl, trivial⟩ trivial) ?_
  refine SOps.nil ?_
  refine SCode.ret ?_
  obtain rfl := Option.some.inj h
  exact ⟨⟨[(4, .c (.bool false))], []⟩, _, sub_gen [] rfl rfl ⟨zc rfl rfl, trivial⟩ trivial, resA1 (v := .c (.bool false)) rfl rfl, rfl⟩
end Go.Proofs.Ythpblkclpfmbeaa.W
