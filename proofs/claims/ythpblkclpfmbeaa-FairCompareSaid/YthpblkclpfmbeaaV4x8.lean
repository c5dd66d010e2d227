/- Written by a program of ours (wip/eng/gen.py): the functions compute their models. -/
import Derived.Test.YthpblkclpfmbeaaFacts
import Derived.Test.YthpblkclpfmbeaaV4x7
namespace Go.Proofs.Ythpblkclpfmbeaa.W
open Go Go.Proofs Go.Proofs.Ythpblkclpfmbeaa.E Go.Proofs.Ythpblkclpfmbeaa.M
set_option linter.unusedVariables false
set_option maxRecDepth 100000 in
set_option maxHeartbeats 8000000 in
theorem chargenetlaw10_exampleHolds_ok (F : Nat)  (r : Bool) (h : chargenetlaw10_exampleHolds F  = some r) :
    SFun Try.prog 9 [] [] (fun x _ => x = .c (.bool r)) := by
  refine SFun.of (n := 79) Try.func9 rfl rfl rfl ?_
  unfold chargenetlaw10_exampleHolds at h
  show SCode _ _ _ ⟨[], []⟩ _
  refine SCode.seq ?_
  refine SCode.region (show SOps _ _ _ [0] _ _ from ?_)
  refine SOps.q rfl (.plain rfl) rfl (q_assign rfl rfl) ?_
  refine SOps.sub (st' := ⟨[], []⟩) (sub_gen [] rfl rfl trivial trivial) ?_
  refine SOps.nil ?_
  refine SCode.seq ?_
  refine SCode.region (show SOps _ _ _ [0, 1] _ _ from ?_)
  refine SOps.q rfl (.plain rfl) rfl (q_bsliceL (c := (cInt .i64)) (d0 := 0) [10, 10, 3] rfl rfl sl22 z3 rfl rfl rfl rfl rfl rfl rfl) ?_
  refine SOps.q rfl (.plain rfl) rfl (q_assign rfl rfl) ?_
  refine SOps.sub (st' := ⟨[(1, .c (.vec ([10, 10, 3]).length 1 (gL (cInt .i64) 0 ([10, 10, 3]))))], []⟩) (sub_gen [] rfl rfl ⟨zc rfl rfl, trivial⟩ trivial) ?_
  refine SOps.nil ?_
  refine SCode.seq ?_
  obtain ⟨c_1, g2, h⟩ := bind_out h
  try dsimp only at h
  obtain ⟨c_3, g4, h⟩ := bind_out h
  try dsimp only at h
  refine SCode.region (show SOps _ _ _ [0, 1, 2, 3, 4, 5, 6, 7] _ _ from ?_)
  refine SOps.q rfl (.plain rfl) rfl (q_move rfl rfl) ?_
  refine SOps.q rfl (.plain rfl) rfl (q_call (chargenetlaw10_sum_ok F 16 c_1 g2) [] rfl fn20 ⟨⟨_, rfl, .inl ⟨rfl, rfl⟩⟩, trivial⟩ (.inl rfl)) ?_
  refine SOps.q rfl (.plain rfl) rfl (q_call (fair_Fill_f1_34_ok F ([10, 10, 3]) c_1 c_3 g4) [] rfl fn19 ⟨⟨_, rfl, .inl ⟨rfl, rfl⟩⟩, ⟨_, rfl, .inl ⟨rfl, rfl⟩⟩, trivial⟩ (.inl rfl)) ?_
  refine SOps.q rfl (.plain rfl) rfl (q_move rfl rfl) ?_
  refine SOps.q rfl (.plain rfl) rfl (q_extract rfl rfl rfl) ?_
  refine SOps.q rfl (.plain rfl) rfl (q_extract rfl rfl rfl) ?_
  refine SOps.q rfl (.plain rfl) rfl (q_assign rfl rfl) ?_
  refine SOps.q rfl (.plain rfl) rfl (q_assign rfl rfl) ?_
  refine SOps.sub (st' := ⟨[(1, .c (.vec ([10, 10, 3]).length 1 (gL (cInt .i64) 0 ([10, 10, 3])))), (2, .c (.vec c_3.1.length 1 (gL (cInt .i64) 0 c_3.1))), (3, .c (.int .i64 c_3.2))], []⟩) (sub_gen [] rfl rfl ⟨zc rfl rfl, zc rfl rfl, zc rfl rfl, trivial⟩ trivial) ?_
  refine SOps.nil ?_
  refine SCode.seq ?_
  obtain ⟨c_5, g6, h⟩ := bind_out h
  try dsimp only at h
  refine SCode.region (show SOps _ _ _ [0, 1, 2, 3, 4, 5, 6] _ _ from ?_)
  refine SOps.q rfl (.plain rfl) rfl (q_move rfl rfl) ?_
  refine SOps.q rfl (.plain rfl) rfl (q_call (fair_Share_ok F 16 ([10, 10, 3]) c_5 g6) [] rfl fn10 ⟨⟨_, rfl, .inl ⟨rfl, rfl⟩⟩, ⟨_, rfl, .inl ⟨rfl, rfl⟩⟩, trivial⟩ (.inl rfl)) ?_
  refine SOps.q rfl (.plain rfl) rfl (q_move rfl rfl) ?_
  refine SOps.q rfl (.plain rfl) rfl (q_extract rfl rfl rfl) ?_
  refine SOps.q rfl (.plain rfl) rfl (q_extract rfl rfl rfl) ?_
  refine SOps.q rfl (.plain rfl) rfl (q_assign rfl rfl) ?_
  refine SOps.q rfl (.plain rfl) rfl (q_assign rfl rfl) ?_
  refine SOps.sub (st' := ⟨[(1, .c (.vec ([10, 10, 3]).length 1 (gL (cInt .i64) 0 ([10, 10, 3])))), (2, .c (.vec c_3.1.length 1 (gL (cInt .i64) 0 c_3.1))), (3, .c (.int .i64 c_3.2)), (4, .c (.vec c_5.1.length 1 (gL (cInt .i64) 0 c_5.1))), (5, .c (.int .i64 c_5.2))], []⟩) (sub_gen [] rfl rfl ⟨zc rfl rfl, zc rfl rfl, zc rfl rfl, zc rfl rfl, zc rfl rfl, trivial⟩ trivial) ?_
  refine SOps.nil ?_
  refine SCode.seq ?_
  obtain ⟨c_7, g8, h⟩ := bind_out h
  try dsimp only at h
  refine SCode.region (show SOps _ _ _ [0, 1, 2, 3, 4, 5, 6] _ _ from ?_)
  refine SOps.q rfl (.plain rfl) rfl (q_move rfl rfl) ?_
  refine SOps.q rfl (.plain rfl) rfl (q_call (fair_Share_ok F 100 ([10, 10, 3]) c_7 g8) [] rfl fn10 ⟨⟨_, rfl, .inl ⟨rfl, rfl⟩⟩, ⟨_, rfl, .inl ⟨rfl, rfl⟩⟩, trivial⟩ (.inl rfl)) ?_
  refine SOps.q rfl (.plain rfl) rfl (q_move rfl rfl) ?_
  refine SOps.q rfl (.plain rfl) rfl (q_extract rfl rfl rfl) ?_
  refine SOps.q rfl (.plain rfl) rfl (q_extract rfl rfl rfl) ?_
  refine SOps.q rfl (.plain rfl) rfl (q_assign rfl rfl) ?_
  refine SOps.q rfl (.plain rfl) rfl (q_assign rfl rfl) ?_
  refine SOps.sub (st' := ⟨[(1, .c (.vec ([10, 10, 3]).length 1 (gL (cInt .i64) 0 ([10, 10, 3])))), (2, .c (.vec c_3.1.length 1 (gL (cInt .i64) 0 c_3.1))), (3, .c (.int .i64 c_3.2)), (4, .c (.vec c_5.1.length 1 (gL (cInt .i64) 0 c_5.1))), (5, .c (.int .i64 c_5.2)), (6, .c (.vec c_7.1.length 1 (gL (cInt .i64) 0 c_7.1)))], []⟩) (sub_gen [] rfl rfl ⟨zc rfl rfl, zc rfl rfl, zc rfl rfl, zc rfl rfl, zc rfl rfl, zc rfl rfl, trivial⟩ trivial) ?_
  refine SOps.nil ?_
  refine SCode.seq ?_
  obtain ⟨c_9, g10, h⟩ := bind_out h
  try dsimp only at h
  refine SCode.region (show SOps _ _ _ [0, 1, 2, 3, 4, 5, 6] _ _ from ?_)
  refine SOps.q rfl (.plain rfl) rfl (q_move rfl rfl) ?_
  refine SOps.q rfl (.plain rfl) rfl (q_call (fair_Fill_f1_nil_ok F ([10, 10, 3]) c_9 g10) [] rfl fn19 ⟨⟨_, rfl, .inl ⟨rfl, rfl⟩⟩, ⟨_, rfl, .inl ⟨rfl, rfl⟩⟩, trivial⟩ (.inl rfl)) ?_
  refine SOps.q rfl (.plain rfl) rfl (q_move rfl rfl) ?_
  refine SOps.q rfl (.plain rfl) rfl (q_extract rfl rfl rfl) ?_
  refine SOps.q rfl (.plain rfl) rfl (q_extract rfl rfl rfl) ?_
  refine SOps.q rfl (.plain rfl) rfl (q_assign rfl rfl) ?_
  refine SOps.q rfl (.plain rfl) rfl (q_assign rfl rfl) ?_
  refine SOps.sub (st' := ⟨[(1, .c (.vec ([10, 10, 3]).length 1 (gL (cInt .i64) 0 ([10, 10, 3])))), (2, .c (.vec c_3.1.length 1 (gL (cInt .i64) 0 c_3.1))), (3, .c (.int .i64 c_3.2)), (4, .c (.vec c_5.1.length 1 (gL (cInt .i64) 0 c_5.1))), (5, .c (.int .i64 c_5.2)), (6, .c (.vec c_7.1.length 1 (gL (cInt .i64) 0 c_7.1))), (9, .c (.int .i64 c_9.2))], []⟩) (sub_gen [] rfl rfl ⟨zc rfl rfl, zc rfl rfl, zc rfl rfl, zc rfl rfl, zc rfl rfl, zc rfl rfl, zc rfl rfl, trivial⟩ trivial) ?_
  refine SOps.nil ?_
  refine SCode.seq ?_
  obtain ⟨c_11, g12, h⟩ := bind_out h
  try dsimp only at h
  refine SCode.region (show SOps _ _ _ [0, 1, 2, 3, 4, 5, 6] _ _ from ?_)
  refine SOps.q rfl (.plain rfl) rfl (q_bsliceL (c := (cInt .i64)) (d0 := 0) [5, 5] rfl rfl sl22 z3 rfl rfl rfl rfl rfl rfl rfl) ?_
  refine SOps.q rfl (.plain rfl) rfl (q_call (fair_Fill_f1_r21_ok F ([5, 5]) c_11 g12) [] rfl fn19 ⟨⟨_, rfl, .inl ⟨rfl, rfl⟩⟩, ⟨_, rfl, .inl ⟨rfl, rfl⟩⟩, trivial⟩ (.inl rfl)) ?_
  refine SOps.q rfl (.plain rfl) rfl (q_move rfl rfl) ?_
  refine SOps.q rfl (.plain rfl) rfl (q_extract rfl rfl rfl) ?_
  refine SOps.q rfl (.plain rfl) rfl (q_extract rfl rfl rfl) ?_
  refine SOps.q rfl (.plain rfl) rfl (q_assign rfl rfl) ?_
  refine SOps.q rfl (.plain rfl) rfl (q_assign rfl rfl) ?_
  refine SOps.sub (st' := ⟨[(1, .c (.vec ([10, 10, 3]).length 1 (gL (cInt .i64) 0 ([10, 10, 3])))), (2, .c (.vec c_3.1.length 1 (gL (cInt .i64) 0 c_3.1))), (3, .c (.int .i64 c_3.2)), (4, .c (.vec c_5.1.length 1 (gL (cInt .i64) 0 c_5.1))), (5, .c (.int .i64 c_5.2)), (6, .c (.vec c_7.1.length 1 (gL (cInt .i64) 0 c_7.1))), (9, .c (.int .i64 c_9.2)), (10, .c (.vec c_11.1.length 1 (gL (cInt .i64) 0 c_11.1))), (11, .c (.int .i64 c_11.2))], []⟩) (sub_gen [] rfl rfl ⟨zc rfl rfl, zc rfl rfl, zc rfl rfl, zc rfl rfl, zc rfl rfl, zc rfl rfl, zc rfl rfl, zc rfl rfl, zc rfl rfl, trivial⟩ trivial) ?_
  refine SOps.nil ?_
  refine SCode.seq ?_
  obtain ⟨c_13, g14, h⟩ := bind_out h
  try dsimp only at h
  rcases cond_out h with ⟨g15, h⟩ | ⟨g15, h⟩
  · rcases cond_out h with ⟨g16, h⟩ | ⟨g16, h⟩
    · obtain ⟨c_17, g18, h⟩ := bind_out h
      try dsimp only at h
      rcases cond_out h with ⟨g19, h⟩ | ⟨g19, h⟩
      · rcases cond_out h with ⟨g20, h⟩ | ⟨g20, h⟩
        · obtain ⟨c_21, g22, h⟩ := bind_out h
          try dsimp only at h
          rcases cond_out h with ⟨g23, h⟩ | ⟨g23, h⟩
          · rcases cond_out h with ⟨g24, h⟩ | ⟨g24, h⟩
            · obtain ⟨c_25, g26, h⟩ := bind_out h
              try dsimp only at h
              rcases cond_out h with ⟨g27, h⟩ | ⟨g27, h⟩
              · rcases cond_out h with ⟨g28, h⟩ | ⟨g28, h⟩
                · obtain ⟨c_29, g30, h⟩ := bind_out h
                  try dsimp only at h
                  refine SCode.region (show SOps _ _ _ [0, 1, 2, 3, 4, 5, 6, 7, 8, 9, 10, 11, 12, 13, 14, 15, 16, 17, 18, 19, 20, 21, 22, 23, 24, 25, 26, 27, 28, 29, 30, 31, 32, 33, 34, 35, 36, 37, 38, 39, 40] _ _ from ?_)
                  refine SOps.q rfl (.plain rfl) rfl (q_move rfl rfl) ?_
                  refine SOps.q rfl (.plain rfl) rfl (q_bsliceL (c := (cInt .i64)) (d0 := 0) [7, 6, 3] rfl rfl sl22 z3 rfl rfl rfl rfl rfl rfl rfl) ?_
                  refine SOps.q rfl (.plain rfl) rfl (q_call (slices_Equal_int_int_ok F c_3.1 ([7, 6, 3]) c_13 g14) [] rfl fn12 ⟨⟨_, rfl, .inl ⟨rfl, rfl⟩⟩, ⟨_, rfl, .inl ⟨rfl, rfl⟩⟩, trivial⟩ (.inl rfl)) ?_
                  refine SOps.q rfl (.plain rfl) rfl (q_move rfl rfl) ?_
                  refine SOps.q rfl (.guard 3 42 true rfl rfl (gT g15)) rfl (q_move rfl rfl) ?_
                  refine SOps.q rfl (.guard 3 42 true rfl rfl (gT g15)) rfl (q_eql rfl rfl rfl) ?_
                  refine SOps.q rfl (.plain rfl) rfl (q_pick_t rfl rfl g15 rfl) ?_
                  refine SOps.q rfl (.plain rfl) rfl (q_move rfl rfl) ?_
                  refine SOps.q rfl (.guard 7 46 true rfl rfl (gT g16)) rfl (q_move rfl rfl) ?_
                  refine SOps.q rfl (.guard 7 46 true rfl rfl (gT g16)) rfl (q_move rfl rfl) ?_
                  refine SOps.q rfl (.guard 7 46 true rfl rfl (gT g16)) rfl (q_call (slices_Equal_int_int_ok F c_5.1 c_3.1 c_17 g18) [] rfl fn12 ⟨⟨_, rfl, .inl ⟨rfl, rfl⟩⟩, ⟨_, rfl, .inl ⟨rfl, rfl⟩⟩, trivial⟩ (.inl rfl)) ?_
                  refine SOps.q rfl (.plain rfl) rfl (q_pick_t rfl rfl g16 rfl) ?_
                  refine SOps.q rfl (.plain rfl) rfl (q_move rfl rfl) ?_
                  refine SOps.q rfl (.guard 12 51 true rfl rfl (gT g19)) rfl (q_move rfl rfl) ?_
                  refine SOps.q rfl (.guard 12 51 true rfl rfl (gT g19)) rfl (q_eql rfl rfl rfl) ?_
                  refine SOps.q rfl (.plain rfl) rfl (q_pick_t rfl rfl g19 rfl) ?_
                  refine SOps.q rfl (.plain rfl) rfl (q_move rfl rfl) ?_
                  refine SOps.q rfl (.guard 16 55 true rfl rfl (gT g20)) rfl (q_move rfl rfl) ?_
                  refine SOps.q rfl (.guard 16 55 true rfl rfl (gT g20)) rfl (q_move rfl rfl) ?_
                  refine SOps.q rfl (.guard 16 55 true rfl rfl (gT g20)) rfl (q_call (slices_Equal_int_int_ok F c_7.1 ([10, 10, 3]) c_21 g22) [] rfl fn12 ⟨⟨_, rfl, .inl ⟨rfl, rfl⟩⟩, ⟨_, rfl, .inl ⟨rfl, rfl⟩⟩, trivial⟩ (.inl rfl)) ?_
                  refine SOps.q rfl (.plain rfl) rfl (q_pick_t rfl rfl g20 rfl) ?_
                  refine SOps.q rfl (.plain rfl) rfl (q_move rfl rfl) ?_
                  refine SOps.q rfl (.guard 21 60 true rfl rfl (gT g23)) rfl (q_move rfl rfl) ?_
                  refine SOps.q rfl (.guard 21 60 true rfl rfl (gT g23)) rfl (q_eql rfl rfl rfl) ?_
                  refine SOps.q rfl (.plain rfl) rfl (q_pick_t rfl rfl g23 rfl) ?_
                  refine SOps.q rfl (.plain rfl) rfl (q_move rfl rfl) ?_
                  refine SOps.q rfl (.guard 25 64 true rfl rfl (gT g24)) rfl (q_move rfl rfl) ?_
                  refine SOps.q rfl (.guard 25 64 true rfl rfl (gT g24)) rfl (q_bsliceL (c := (cInt .i64)) (d0 := 0) [2, 4] rfl rfl sl22 z3 rfl rfl rfl rfl rfl rfl rfl) ?_
                  refine SOps.q rfl (.guard 25 64 true rfl rfl (gT g24)) rfl (q_call (slices_Equal_int_int_ok F c_11.1 ([2, 4]) c_25 g26) [] rfl fn12 ⟨⟨_, rfl, .inl ⟨rfl, rfl⟩⟩, ⟨_, rfl, .inl ⟨rfl, rfl⟩⟩, trivial⟩ (.inl rfl)) ?_
                  refine SOps.q rfl (.plain rfl) rfl (q_pick_t rfl rfl g24 rfl) ?_
                  refine SOps.q rfl (.plain rfl) rfl (q_move rfl rfl) ?_
                  refine SOps.q rfl (.guard 30 69 true rfl rfl (gT g27)) rfl (q_move rfl rfl) ?_
                  refine SOps.q rfl (.guard 30 69 true rfl rfl (gT g27)) rfl (q_eql rfl rfl rfl) ?_
                  refine SOps.q rfl (.plain rfl) rfl (q_pick_t rfl rfl g27 rfl) ?_
                  refine SOps.q rfl (.plain rfl) rfl (q_move rfl rfl) ?_
                  refine SOps.q rfl (.guard 34 73 true rfl rfl (gT g28)) rfl (q_bsliceL (c := (cInt .i64)) (d0 := 0) [7, 6, 3] rfl rfl sl22 z3 rfl rfl rfl rfl rfl rfl rfl) ?_
                  refine SOps.q rfl (.guard 34 73 true rfl rfl (gT g28)) rfl (q_bsliceL (c := (cInt .i64)) (d0 := 0) [8, 5, 3] rfl rfl sl22 z3 rfl rfl rfl rfl rfl rfl rfl) ?_
                  refine SOps.q rfl (.guard 34 73 true rfl rfl (gT g28)) rfl (q_call (fair_Compare_ok F ([7, 6, 3]) ([8, 5, 3]) c_29 g30) [] rfl fn14 ⟨⟨_, rfl, .inl ⟨rfl, rfl⟩⟩, ⟨_, rfl, .inl ⟨rfl, rfl⟩⟩, trivial⟩ (.inl rfl)) ?_
                  refine SOps.q rfl (.guard 34 73 true rfl rfl (gT g28)) rfl (q_eql rfl rfl rfl) ?_
                  refine SOps.q rfl (.plain rfl) rfl (q_pick_t rfl rfl g28 rfl) ?_
                  refine SOps.q rfl (.plain rfl) rfl (q_assign rfl rfl) ?_
                  refine SOps.sub (st' := ⟨[(0, .c (.bool (decide (c_29 = 1))))], []⟩) (sub_gen [] rfl rfl ⟨zc rfl rfl, trivial⟩ trivial) ?_
                  refine SOps.nil ?_
                  refine SCode.ret ?_
                  obtain rfl := Option.some.inj h
                  exact ⟨⟨[(0, .c (.bool (decide (c_29 = 1))))], []⟩, _, sub_gen [] rfl rfl ⟨zc rfl rfl, trivial⟩ trivial, resA1 (v := .c (.bool (decide (c_29 = 1)))) rfl rfl, rfl⟩
                refine SCode.region (show SOps _ _ _ [0, 1, 2, 3, 4, 5, 6, 7, 8, 9, 10, 11, 12, 13, 14, 15, 16, 17, 18, 19, 20, 21, 22, 23, 24, 25, 26, 27, 28, 29, 30, 31, 32, 33, 34, 35, 36, 37, 38, 39, 40] _ _ from ?_)
                refine SOps.q rfl (.plain rfl) rfl (q_move rfl rfl) ?_
                refine SOps.q rfl (.plain rfl) rfl (q_bsliceL (c := (cInt .i64)) (d0 := 0) [7, 6, 3] rfl rfl sl22 z3 rfl rfl rfl rfl rfl rfl rfl) ?_
                refine SOps.q rfl (.plain rfl) rfl (q_call (slices_Equal_int_int_ok F c_3.1 ([7, 6, 3]) c_13 g14) [] rfl fn12 ⟨⟨_, rfl, .inl ⟨rfl, rfl⟩⟩, ⟨_, rfl, .inl ⟨rfl, rfl⟩⟩, trivial⟩ (.inl rfl)) ?_
                refine SOps.q rfl (.plain rfl) rfl (q_move rfl rfl) ?_
                refine SOps.q rfl (.guard 3 42 true rfl rfl (gT g15)) rfl (q_move rfl rfl) ?_
                refine SOps.q rfl (.guard 3 42 true rfl rfl (gT g15)) rfl (q_eql rfl rfl rfl) ?_
                refine SOps.q rfl (.plain rfl) rfl (q_pick_t rfl rfl g15 rfl) ?_
                refine SOps.q rfl (.plain rfl) rfl (q_move rfl rfl) ?_
                refine SOps.q rfl (.guard 7 46 true rfl rfl (gT g16)) rfl (q_move rfl rfl) ?_
                refine SOps.q rfl (.guard 7 46 true rfl rfl (gT g16)) rfl (q_move rfl rfl) ?_
                refine SOps.q rfl (.guard 7 46 true rfl rfl (gT g16)) rfl (q_call (slices_Equal_int_int_ok F c_5.1 c_3.1 c_17 g18) [] rfl fn12 ⟨⟨_, rfl, .inl ⟨rfl, rfl⟩⟩, ⟨_, rfl, .inl ⟨rfl, rfl⟩⟩, trivial⟩ (.inl rfl)) ?_
                refine SOps.q rfl (.plain rfl) rfl (q_pick_t rfl rfl g16 rfl) ?_
                refine SOps.q rfl (.plain rfl) rfl (q_move rfl rfl) ?_
                refine SOps.q rfl (.guard 12 51 true rfl rfl (gT g19)) rfl (q_move rfl rfl) ?_
                refine SOps.q rfl (.guard 12 51 true rfl rfl (gT g19)) rfl (q_eql rfl rfl rfl) ?_
                refine SOps.q rfl (.plain rfl) rfl (q_pick_t rfl rfl g19 rfl) ?_
                refine SOps.q rfl (.plain rfl) rfl (q_move rfl rfl) ?_
                refine SOps.q rfl (.guard 16 55 true rfl rfl (gT g20)) rfl (q_move rfl rfl) ?_
                refine SOps.q rfl (.guard 16 55 true rfl rfl (gT g20)) rfl (q_move rfl rfl) ?_
                refine SOps.q rfl (.guard 16 55 true rfl rfl (gT g20)) rfl (q_call (slices_Equal_int_int_ok F c_7.1 ([10, 10, 3]) c_21 g22) [] rfl fn12 ⟨⟨_, rfl, .inl ⟨rfl, rfl⟩⟩, ⟨_, rfl, .inl ⟨rfl, rfl⟩⟩, trivial⟩ (.inl rfl)) ?_
                refine SOps.q rfl (.plain rfl) rfl (q_pick_t rfl rfl g20 rfl) ?_
                refine SOps.q rfl (.plain rfl) rfl (q_move rfl rfl) ?_
                refine SOps.q rfl (.guard 21 60 true rfl rfl (gT g23)) rfl (q_move rfl rfl) ?_
                refine SOps.q rfl (.guard 21 60 true rfl rfl (gT g23)) rfl (q_eql rfl rfl rfl) ?_
                refine SOps.q rfl (.plain rfl) rfl (q_pick_t rfl rfl g23 rfl) ?_
                refine SOps.q rfl (.plain rfl) rfl (q_move rfl rfl) ?_
                refine SOps.q rfl (.guard 25 64 true rfl rfl (gT g24)) rfl (q_move rfl rfl) ?_
                refine SOps.q rfl (.guard 25 64 true rfl rfl (gT g24)) rfl (q_bsliceL (c := (cInt .i64)) (d0 := 0) [2, 4] rfl rfl sl22 z3 rfl rfl rfl rfl rfl rfl rfl) ?_
                refine SOps.q rfl (.guard 25 64 true rfl rfl (gT g24)) rfl (q_call (slices_Equal_int_int_ok F c_11.1 ([2, 4]) c_25 g26) [] rfl fn12 ⟨⟨_, rfl, .inl ⟨rfl, rfl⟩⟩, ⟨_, rfl, .inl ⟨rfl, rfl⟩⟩, trivial⟩ (.inl rfl)) ?_
                refine SOps.q rfl (.plain rfl) rfl (q_pick_t rfl rfl g24 rfl) ?_
                refine SOps.q rfl (.plain rfl) rfl (q_move rfl rfl) ?_
                refine SOps.q rfl (.guard 30 69 true rfl rfl (gT g27)) rfl (q_move rfl rfl) ?_
                refine SOps.q rfl (.guard 30 69 true rfl rfl (gT g27)) rfl (q_eql rfl rfl rfl) ?_
                refine SOps.q rfl (.plain rfl) rfl (q_pick_t rfl rfl g27 rfl) ?_
                refine SOps.q rfl (.plain rfl) rfl (q_move rfl rfl) ?_
                refine SOps.skip rfl 34 73 true rfl rfl (.inl (gF g28)) rfl ?_
                refine SOps.skip rfl 34 73 true rfl rfl (.inl (gF g28)) rfl ?_
                refine SOps.skip rfl 34 73 true rfl rfl (.inl (gF g28)) rfl ?_
                refine SOps.skip rfl 34 73 true rfl rfl (.inl (gF g28)) rfl ?_
                refine SOps.q rfl (.plain rfl) rfl (q_pick_f rfl rfl g28 rfl) ?_
                refine SOps.q rfl (.plain rfl) rfl (q_assign rfl rfl) ?_
                refine SOps.sub (st' := ⟨[(0, .c (.bool false))], []⟩) (sub_gen [] rfl rfl ⟨zc rfl rfl, trivial⟩ trivial) ?_
                refine SOps.nil ?_
                refine SCode.ret ?_
                obtain rfl := Option.some.inj h
                exact ⟨⟨[(0, .c (.bool false))], []⟩, _, sub_gen [] rfl rfl ⟨zc rfl rfl, trivial⟩ trivial, resA1 (v := .c (.bool false)) rfl rfl, rfl⟩
              refine SCode.region (show SOps _ _ _ [0, 1, 2, 3, 4, 5, 6, 7, 8, 9, 10, 11, 12, 13, 14, 15, 16, 17, 18, 19, 20, 21, 22, 23, 24, 25, 26, 27, 28, 29, 30, 31, 32, 33, 34, 35, 36, 37, 38, 39, 40] _ _ from ?_)
              refine SOps.q rfl (.plain rfl) rfl (q_move rfl rfl) ?_
              refine SOps.q rfl (.plain rfl) rfl (q_bsliceL (c := (cInt .i64)) (d0 := 0) [7, 6, 3] rfl rfl sl22 z3 rfl rfl rfl rfl rfl rfl rfl) ?_
              refine SOps.q rfl (.plain rfl) rfl (q_call (slices_Equal_int_int_ok F c_3.1 ([7, 6, 3]) c_13 g14) [] rfl fn12 ⟨⟨_, rfl, .inl ⟨rfl, rfl⟩⟩, ⟨_, rfl, .inl ⟨rfl, rfl⟩⟩, trivial⟩ (.inl rfl)) ?_
              refine SOps.q rfl (.plain rfl) rfl (q_move rfl rfl) ?_
              refine SOps.q rfl (.guard 3 42 true rfl rfl (gT g15)) rfl (q_move rfl rfl) ?_
              refine SOps.q rfl (.guard 3 42 true rfl rfl (gT g15)) rfl (q_eql rfl rfl rfl) ?_
              refine SOps.q rfl (.plain rfl) rfl (q_pick_t rfl rfl g15 rfl) ?_
              refine SOps.q rfl (.plain rfl) rfl (q_move rfl rfl) ?_
              refine SOps.q rfl (.guard 7 46 true rfl rfl (gT g16)) rfl (q_move rfl rfl) ?_
              refine SOps.q rfl (.guard 7 46 true rfl rfl (gT g16)) rfl (q_move rfl rfl) ?_
              refine SOps.q rfl (.guard 7 46 true rfl rfl (gT g16)) rfl (q_call (slices_Equal_int_int_ok F c_5.1 c_3.1 c_17 g18) [] rfl fn12 ⟨⟨_, rfl, .inl ⟨rfl, rfl⟩⟩, ⟨_, rfl, .inl ⟨rfl, rfl⟩⟩, trivial⟩ (.inl rfl)) ?_
              refine SOps.q rfl (.plain rfl) rfl (q_pick_t rfl rfl g16 rfl) ?_
              refine SOps.q rfl (.plain rfl) rfl (q_move rfl rfl) ?_
              refine SOps.q rfl (.guard 12 51 true rfl rfl (gT g19)) rfl (q_move rfl rfl) ?_
              refine SOps.q rfl (.guard 12 51 true rfl rfl (gT g19)) rfl (q_eql rfl rfl rfl) ?_
              refine SOps.q rfl (.plain rfl) rfl (q_pick_t rfl rfl g19 rfl) ?_
              refine SOps.q rfl (.plain rfl) rfl (q_move rfl rfl) ?_
              refine SOps.q rfl (.guard 16 55 true rfl rfl (gT g20)) rfl (q_move rfl rfl) ?_
              refine SOps.q rfl (.guard 16 55 true rfl rfl (gT g20)) rfl (q_move rfl rfl) ?_
              refine SOps.q rfl (.guard 16 55 true rfl rfl (gT g20)) rfl (q_call (slices_Equal_int_int_ok F c_7.1 ([10, 10, 3]) c_21 g22) [] rfl fn12 ⟨⟨_, rfl, .inl ⟨rfl, rfl⟩⟩, ⟨_, rfl, .inl ⟨rfl, rfl⟩⟩, trivial⟩ (.inl rfl)) ?_
              refine SOps.q rfl (.plain rfl) rfl (q_pick_t rfl rfl g20 rfl) ?_
              refine SOps.q rfl (.plain rfl) rfl (q_move rfl rfl) ?_
              refine SOps.q rfl (.guard 21 60 true rfl rfl (gT g23)) rfl (q_move rfl rfl) ?_
              refine SOps.q rfl (.guard 21 60 true rfl rfl (gT g23)) rfl (q_eql rfl rfl rfl) ?_
              refine SOps.q rfl (.plain rfl) rfl (q_pick_t rfl rfl g23 rfl) ?_
              refine SOps.q rfl (.plain rfl) rfl (q_move rfl rfl) ?_
              refine SOps.q rfl (.guard 25 64 true rfl rfl (gT g24)) rfl (q_move rfl rfl) ?_
              refine SOps.q rfl (.guard 25 64 true rfl rfl (gT g24)) rfl (q_bsliceL (c := (cInt .i64)) (d0 := 0) [2, 4] rfl rfl sl22 z3 rfl rfl rfl rfl rfl rfl rfl) ?_
              refine SOps.q rfl (.guard 25 64 true rfl rfl (gT g24)) rfl (q_call (slices_Equal_int_int_ok F c_11.1 ([2, 4]) c_25 g26) [] rfl fn12 ⟨⟨_, rfl, .inl ⟨rfl, rfl⟩⟩, ⟨_, rfl, .inl ⟨rfl, rfl⟩⟩, trivial⟩ (.inl rfl)) ?_
              refine SOps.q rfl (.plain rfl) rfl (q_pick_t rfl rfl g24 rfl) ?_
              refine SOps.q rfl (.plain rfl) rfl (q_move rfl rfl) ?_
              refine SOps.skip rfl 30 69 true rfl rfl (.inl (gF g27)) rfl ?_
              refine SOps.skip rfl 30 69 true rfl rfl (.inl (gF g27)) rfl ?_
              refine SOps.q rfl (.plain rfl) rfl (q_pick_f rfl rfl g27 rfl) ?_
              refine SOps.q rfl (.plain rfl) rfl (q_move rfl rfl) ?_
              refine SOps.skip rfl 34 73 true rfl rfl (.inl rfl) rfl ?_
              refine SOps.skip rfl 34 73 true rfl rfl (.inl rfl) rfl ?_
              refine SOps.skip rfl 34 73 true rfl rfl (.inl rfl) rfl ?_
              refine SOps.skip rfl 34 73 true rfl rfl (.inl rfl) rfl ?_
              refine SOps.q rfl (.plain rfl) rfl (q_pick_f rfl rfl rfl rfl) ?_
              refine SOps.q rfl (.plain rfl) rfl (q_assign rfl rfl) ?_
              refine SOps.sub (st' := ⟨[(0, .c (.bool false))], []⟩) (sub_gen [] rfl rfl ⟨zc rfl rfl, trivial⟩ trivial) ?_
              refine SOps.nil ?_
              refine SCode.ret ?_
              obtain rfl := Option.some.inj h
              exact ⟨⟨[(0, .c (.bool false))], []⟩, _, sub_gen [] rfl rfl ⟨zc rfl rfl, trivial⟩ trivial, resA1 (v := .c (.bool false)) rfl rfl, rfl⟩
            refine SCode.region (show SOps _ _ _ [0, 1, 2, 3, 4, 5, 6, 7, 8, 9, 10, 11, 12, 13, 14, 15, 16, 17, 18, 19, 20, 21, 22, 23, 24, 25, 26, 27, 28, 29, 30, 31, 32, 33, 34, 35, 36, 37, 38, 39, 40] _ _ from ?_)
            refine SOps.q rfl (.plain rfl) rfl (q_move rfl rfl) ?_
            refine SOps.q rfl (.plain rfl) rfl (q_bsliceL (c := (cInt .i64)) (d0 := 0) [7, 6, 3] rfl rfl sl22 z3 rfl rfl rfl rfl rfl rfl rfl) ?_
            refine SOps.q rfl (.plain rfl) rfl (q_call (slices_Equal_int_int_ok F c_3.1 ([7, 6, 3]) c_13 g14) [] rfl fn12 ⟨⟨_, rfl, .inl ⟨rfl, rfl⟩⟩, ⟨_, rfl, .inl ⟨rfl, rfl⟩⟩, trivial⟩ (.inl rfl)) ?_
            refine SOps.q rfl (.plain rfl) rfl (q_move rfl rfl) ?_
            refine SOps.q rfl (.guard 3 42 true rfl rfl (gT g15)) rfl (q_move rfl rfl) ?_
            refine SOps.q rfl (.guard 3 42 true rfl rfl (gT g15)) rfl (q_eql rfl rfl rfl) ?_
            refine SOps.q rfl (.plain rfl) rfl (q_pick_t rfl rfl g15 rfl) ?_
            refine SOps.q rfl (.plain rfl) rfl (q_move rfl rfl) ?_
            refine SOps.q rfl (.guard 7 46 true rfl rfl (gT g16)) rfl (q_move rfl rfl) ?_
            refine SOps.q rfl (.guard 7 46 true rfl rfl (gT g16)) rfl (q_move rfl rfl) ?_
            refine SOps.q rfl (.guard 7 46 true rfl rfl (gT g16)) rfl (q_call (slices_Equal_int_int_ok F c_5.1 c_3.1 c_17 g18) [] rfl fn12 ⟨⟨_, rfl, .inl ⟨rfl, rfl⟩⟩, ⟨_, rfl, .inl ⟨rfl, rfl⟩⟩, trivial⟩ (.inl rfl)) ?_
            refine SOps.q rfl (.plain rfl) rfl (q_pick_t rfl rfl g16 rfl) ?_
            refine SOps.q rfl (.plain rfl) rfl (q_move rfl rfl) ?_
            refine SOps.q rfl (.guard 12 51 true rfl rfl (gT g19)) rfl (q_move rfl rfl) ?_
            refine SOps.q rfl (.guard 12 51 true rfl rfl (gT g19)) rfl (q_eql rfl rfl rfl) ?_
            refine SOps.q rfl (.plain rfl) rfl (q_pick_t rfl rfl g19 rfl) ?_
            refine SOps.q rfl (.plain rfl) rfl (q_move rfl rfl) ?_
            refine SOps.q rfl (.guard 16 55 true rfl rfl (gT g20)) rfl (q_move rfl rfl) ?_
            refine SOps.q rfl (.guard 16 55 true rfl rfl (gT g20)) rfl (q_move rfl rfl) ?_
            refine SOps.q rfl (.guard 16 55 true rfl rfl (gT g20)) rfl (q_call (slices_Equal_int_int_ok F c_7.1 ([10, 10, 3]) c_21 g22) [] rfl fn12 ⟨⟨_, rfl, .inl ⟨rfl, rfl⟩⟩, ⟨_, rfl, .inl ⟨rfl, rfl⟩⟩, trivial⟩ (.inl rfl)) ?_
            refine SOps.q rfl (.plain rfl) rfl (q_pick_t rfl rfl g20 rfl) ?_
            refine SOps.q rfl (.plain rfl) rfl (q_move rfl rfl) ?_
            refine SOps.q rfl (.guard 21 60 true rfl rfl (gT g23)) rfl (q_move rfl rfl) ?_
            refine SOps.q rfl (.guard 21 60 true rfl rfl (gT g23)) rfl (q_eql rfl rfl rfl) ?_
            refine SOps.q rfl (.plain rfl) rfl (q_pick_t rfl rfl g23 rfl) ?_
            refine SOps.q rfl (.plain rfl) rfl (q_move rfl rfl) ?_
            refine SOps.skip rfl 25 64 true rfl rfl (.inl (gF g24)) rfl ?_
            refine SOps.skip rfl 25 64 true rfl rfl (.inl (gF g24)) rfl ?_
            refine SOps.skip rfl 25 64 true rfl rfl (.inl (gF g24)) rfl ?_
            refine SOps.q rfl (.plain rfl) rfl (q_pick_f rfl rfl g24 rfl) ?_
            refine SOps.q rfl (.plain rfl) rfl (q_move rfl rfl) ?_
            refine SOps.skip rfl 30 69 true rfl rfl (.inl rfl) rfl ?_
            refine SOps.skip rfl 30 69 true rfl rfl (.inl rfl) rfl ?_
            refine SOps.q rfl (.plain rfl) rfl (q_pick_f rfl rfl rfl rfl) ?_
            refine SOps.q rfl (.plain rfl) rfl (q_move rfl rfl) ?_
            refine SOps.skip rfl 34 73 true rfl rfl (.inl rfl) rfl ?_
            refine SOps.skip rfl 34 73 true rfl rfl (.inl rfl) rfl ?_
            refine SOps.skip rfl 34 73 true rfl rfl (.inl rfl) rfl ?_
            refine SOps.skip rfl 34 73 true rfl rfl (.inl rfl) rfl ?_
            refine SOps.q rfl (.plain rfl) rfl (q_pick_f rfl rfl rfl rfl) ?_
            refine SOps.q rfl (.plain rfl) rfl (q_assign rfl rfl) ?_
            refine SOps.sub (st' := ⟨[(0, .c (.bool false))], []⟩) (sub_gen [] rfl rfl ⟨zc rfl rfl, trivial⟩ trivial) ?_
            refine SOps.nil ?_
            refine SCode.ret ?_
            obtain rfl := Option.some.inj h
            exact ⟨⟨[(0, .c (.bool false))], []⟩, _, sub_gen [] rfl rfl ⟨zc rfl rfl, trivial⟩ trivial, resA1 (v := .c (.bool false)) rfl rfl, rfl⟩
          refine SCode.region (show SOps _ _ _ [0, 1, 2, 3, 4, 5, 6, 7, 8, 9, 10, 11, 12, 13, 14, 15, 16, 17, 18, 19, 20, 21, 22, 23, 24, 25, 26, 27, 28, 29, 30, 31, 32, 33, 34, 35, 36, 37, 38, 39, 40] _ _ from ?_)
          refine SOps.q rfl (.plain rfl) rfl (q_move rfl rfl) ?_
          refine SOps.q rfl (.plain rfl) rfl (q_bsliceL (c := (cInt .i64)) (d0 := 0) [7, 6, 3] rfl rfl sl22 z3 rfl rfl rfl rfl rfl rfl rfl) ?_
          refine SOps.q rfl (.plain rfl) rfl (q_call (slices_Equal_int_int_ok F c_3.1 ([7, 6, 3]) c_13 g14) [] rfl fn12 ⟨⟨_, rfl, .inl ⟨rfl, rfl⟩⟩, ⟨_, rfl, .inl ⟨rfl, rfl⟩⟩, trivial⟩ (.inl rfl)) ?_
          refine SOps.q rfl (.plain rfl) rfl (q_move rfl rfl) ?_
          refine SOps.q rfl (.guard 3 42 true rfl rfl (gT g15)) rfl (q_move rfl rfl) ?_
          refine SOps.q rfl (.guard 3 42 true rfl rfl (gT g15)) rfl (q_eql rfl rfl rfl) ?_
          refine SOps.q rfl (.plain rfl) rfl (q_pick_t rfl rfl g15 rfl) ?_
          refine SOps.q rfl (.plain rfl) rfl (q_move rfl rfl) ?_
          refine SOps.q rfl (.guard 7 46 true rfl rfl (gT g16)) rfl (q_move rfl rfl) ?_
          refine SOps.q rfl (.guard 7 46 true rfl rfl (gT g16)) rfl (q_move rfl rfl) ?_
          refine SOps.q rfl (.guard 7 46 true rfl rfl (gT g16)) rfl (q_call (slices_Equal_int_int_ok F c_5.1 c_3.1 c_17 g18) [] rfl fn12 ⟨⟨_, rfl, .inl ⟨rfl, rfl⟩⟩, ⟨_, rfl, .inl ⟨rfl, rfl⟩⟩, trivial⟩ (.inl rfl)) ?_
          refine SOps.q rfl (.plain rfl) rfl (q_pick_t rfl rfl g16 rfl) ?_
          refine SOps.q rfl (.plain rfl) rfl (q_move rfl rfl) ?_
          refine SOps.q rfl (.guard 12 51 true rfl rfl (gT g19)) rfl (q_move rfl rfl) ?_
          refine SOps.q rfl (.guard 12 51 true rfl rfl (gT g19)) rfl (q_eql rfl rfl rfl) ?_
          refine SOps.q rfl (.plain rfl) rfl (q_pick_t rfl rfl g19 rfl) ?_
          refine SOps.q rfl (.plain rfl) rfl (q_move rfl rfl) ?_
          refine SOps.q rfl (.guard 16 55 true rfl rfl (gT g20)) rfl (q_move rfl rfl) ?_
          refine SOps.q rfl (.guard 16 55 true rfl rfl (gT g20)) rfl (q_move rfl rfl) ?_
          refine SOps.q rfl (.guard 16 55 true rfl rfl (gT g20)) rfl (q_call (slices_Equal_int_int_ok F c_7.1 ([10, 10, 3]) c_21 g22) [] rfl fn12 ⟨⟨_, rfl, .inl ⟨rfl, rfl⟩⟩, ⟨_, rfl, .inl ⟨rfl, rfl⟩⟩, trivial⟩ (.inl rfl)) ?_
          refine SOps.q rfl (.plain rfl) rfl (q_pick_t rfl rfl g20 rfl) ?_
          refine SOps.q rfl (.plain rfl) rfl (q_move rfl rfl) ?_
          refine SOps.skip rfl 21 60 true rfl rfl (.inl (gF g23)) rfl ?_
          refine SOps.skip rfl 21 60 true rfl rfl (.inl (gF g23)) rfl ?_
          refine SOps.q rfl (.plain rfl) rfl (q_pick_f rfl rfl g23 rfl) ?_
          refine SOps.q rfl (.plain rfl) rfl (q_move rfl rfl) ?_
          refine SOps.skip rfl 25 64 true rfl rfl (.inl rfl) rfl ?_
          refine SOps.skip rfl 25 64 true rfl rfl (.inl rfl) rfl ?_
          refine SOps.skip rfl 25 64 true rfl rfl (.inl rfl) rfl ?_
          refine SOps.q rfl (.plain rfl) rfl (q_pick_f rfl rfl rfl rfl) ?_
          refine SOps.q rfl (.plain rfl) rfl (q_move rfl rfl) ?_
          refine SOps.skip rfl 30 69 true rfl rfl (.inl rfl) rfl ?_
          refine SOps.skip rfl 30 69 true rfl rfl (.inl rfl) rfl ?_
          refine SOps.q rfl (.plain rfl) rfl (q_pick_f rfl rfl rfl rfl) ?_
          refine SOps.q rfl (.plain rfl) rfl (q_move rfl rfl) ?_
          refine SOps.skip rfl 34 73 true rfl rfl (.inl rfl) rfl ?_
          refine SOps.skip rfl 34 73 true rfl rfl (.inl rfl) rfl ?_
          refine SOps.skip rfl 34 73 true rfl rfl (.inl rfl) rfl ?_
          refine SOps.skip rfl 34 73 true rfl rfl (.inl rfl) rfl ?_
          refine SOps.q rfl (.plain rfl) rfl (q_pick_f rfl rfl rfl rfl) ?_
          refine SOps.q rfl (.plain rfl) rfl (q_assign rfl rfl) ?_
          refine SOps.sub (st' := ⟨[(0, .c (.bool false))], []⟩) (sub_gen [] rfl rfl ⟨zc rfl rfl, trivial⟩ trivial) ?_
          refine SOps.nil ?_
          refine SCode.ret ?_
          obtain rfl := Option.some.inj h
          exact ⟨⟨[(0, .c (.bool false))], []⟩, _, sub_gen [] rfl rfl ⟨zc rfl rfl, trivial⟩ trivial, resA1 (v := .c (.bool false)) rfl rfl, rfl⟩
        refine SCode.region (show SOps _ _ _ [0, 1, 2, 3, 4, 5, 6, 7, 8, 9, 10, 11, 12, 13, 14, 15, 16, 17, 18, 19, 20, 21, 22, 23, 24, 25, 26, 27, 28, 29, 30, 31, 32, 33, 34, 35, 36, 37, 38, 39, 40] _ _ from ?_)
        refine SOps.q rfl (.plain rfl) rfl (q_move rfl rfl) ?_
        refine SOps.q rfl (.plain rfl) rfl (q_bsliceL (c := (cInt .i64)) (d0 := 0) [7, 6, 3] rfl rfl sl22 z3 rfl rfl rfl rfl rfl rfl rfl) ?_
        refine SOps.q rfl (.plain rfl) rfl (q_call (slices_Equal_int_int_ok F c_3.1 ([7, 6, 3]) c_13 g14) [] rfl fn12 ⟨⟨_, rfl, .inl ⟨rfl, rfl⟩⟩, ⟨_, rfl, .inl ⟨rfl, rfl⟩⟩, trivial⟩ (.inl rfl)) ?_
        refine SOps.q rfl (.plain rfl) rfl (q_move rfl rfl) ?_
        refine SOps.q rfl (.guard 3 42 true rfl rfl (gT g15)) rfl (q_move rfl rfl) ?_
        refine SOps.q rfl (.guard 3 42 true rfl rfl (gT g15)) rfl (q_eql rfl rfl rfl) ?_
        refine SOps.q rfl (.plain rfl) rfl (q_pick_t rfl rfl g15 rfl) ?_
        refine SOps.q rfl (.plain rfl) rfl (q_move rfl rfl) ?_
        refine SOps.q rfl (.guard 7 46 true rfl rfl (gT g16)) rfl (q_move rfl rfl) ?_
        refine SOps.q rfl (.guard 7 46 true rfl rfl (gT g16)) rfl (q_move rfl rfl) ?_
        refine SOps.q rfl (.guard 7 46 true rfl rfl (gT g16)) rfl (q_call (slices_Equal_int_int_ok F c_5.1 c_3.1 c_17 g18) [] rfl fn12 ⟨⟨_, rfl, .inl ⟨rfl, rfl⟩⟩, ⟨_, rfl, .inl ⟨rfl, rfl⟩⟩, trivial⟩ (.inl rfl)) ?_
        refine SOps.q rfl (.plain rfl) rfl (q_pick_t rfl rfl g16 rfl) ?_
        refine SOps.q rfl (.plain rfl) rfl (q_move rfl rfl) ?_
        refine SOps.q rfl (.guard 12 51 true rfl rfl (gT g19)) rfl (q_move rfl rfl) ?_
        refine SOps.q rfl (.guard 12 51 true rfl rfl (gT g19)) rfl (q_eql rfl rfl rfl) ?_
        refine SOps.q rfl (.plain rfl) rfl (q_pick_t rfl rfl g19 rfl) ?_
        refine SOps.q rfl (.plain rfl) rfl (q_move rfl rfl) ?_
        refine SOps.skip rfl 16 55 true rfl rfl (.inl (gF g20)) rfl ?_
        refine SOps.skip rfl 16 55 true rfl rfl (.inl (gF g20)) rfl ?_
        refine SOps.skip rfl 16 55 true rfl rfl (.inl (gF g20)) rfl ?_
        refine SOps.q rfl (.plain rfl) rfl (q_pick_f rfl rfl g20 rfl) ?_
        refine SOps.q rfl (.plain rfl) rfl (q_move rfl rfl) ?_
        refine SOps.skip rfl 21 60 true rfl rfl (.inl rfl) rfl ?_
        refine SOps.skip rfl 21 60 true rfl rfl (.inl rfl) rfl ?_
        refine SOps.q rfl (.plain rfl) rfl (q_pick_f rfl rfl rfl rfl) ?_
        refine SOps.q rfl (.plain rfl) rfl (q_move rfl rfl) ?_
        refine SOps.skip rfl 25 64 true rfl rfl (.inl rfl) rfl ?_
        refine SOps.skip rfl 25 64 true rfl rfl (.inl rfl) rfl ?_
        refine SOps.skip rfl 25 64 true rfl rfl (.inl rfl) rfl ?_
        refine SOps.q rfl (.plain rfl) rfl (q_pick_f rfl rfl rfl rfl) ?_
        refine SOps.q rfl (.plain rfl) rfl (q_move rfl rfl) ?_
        refine SOps.skip rfl 30 69 true rfl rfl (.inl rfl) rfl ?_
        refine SOps.skip rfl 30 69 true rfl rfl (.inl rfl) rfl ?_
        refine SOps.q rfl (.plain rfl) rfl (q_pick_f rfl rfl rfl rfl) ?_
        refine SOps.q rfl (.plain rfl) rfl (q_move rfl rfl) ?_
        refine SOps.skip rfl 34 73 true rfl rfl (.inl rfl) rfl ?_
        refine SOps.skip rfl 34 73 true rfl rfl (.inl rfl) rfl ?_
        refine SOps.skip rfl 34 73 true rfl rfl (.inl rfl) rfl ?_
        refine SOps.skip rfl 34 73 true rfl rfl (.inl rfl) rfl ?_
        refine SOps.q rfl (.plain rfl) rfl (q_pick_f rfl rfl rfl rfl) ?_
        refine SOps.q rfl (.plain rfl) rfl (q_assign rfl rfl) ?_
        refine SOps.sub (st' := ⟨[(0, .c (.bool false))], []⟩) (sub_gen [] rfl rfl ⟨zc rfl rfl, trivial⟩ trivial) ?_
        refine SOps.nil ?_
        refine SCode.ret ?_
        obtain rfl := Option.some.inj h
        exact ⟨⟨[(0, .c (.bool false))], []⟩, _, sub_gen [] rfl rfl ⟨zc rfl rfl, trivial⟩ trivial, resA1 (v := .c (.bool false)) rfl rfl, rfl⟩
      refine SCode.region (show SOps _ _ _ [0, 1, 2, 3, 4, 5, 6, 7, 8, 9, 10, 11, 12, 13, 14, 15, 16, 17, 18, 19, 20, 21, 22, 23, 24, 25, 26, 27, 28, 29, 30, 31, 32, 33, 34, 35, 36, 37, 38, 39, 40] _ _ from ?_)
      refine SOps.q rfl (.plain rfl) rfl (q_move rfl rfl) ?_
      refine SOps.q rfl (.plain rfl) rfl (q_bsliceL (c := (cInt .i64)) (d0 := 0) [7, 6, 3] rfl rfl sl22 z3 rfl rfl rfl rfl rfl rfl rfl) ?_
      refine SOps.q rfl (.plain rfl) rfl (q_call (slices_Equal_int_int_ok F c_3.1 ([7, 6, 3]) c_13 g14) [] rfl fn12 ⟨⟨_, rfl, .inl ⟨rfl, rfl⟩⟩, ⟨_, rfl, .inl ⟨rfl, rfl⟩⟩, trivial⟩ (.inl rfl)) ?_
      refine SOps.q rfl (.plain rfl) rfl (q_move rfl rfl) ?_
      refine SOps.q rfl (.guard 3 42 true rfl rfl (gT g15)) rfl (q_move rfl rfl) ?_
      refine SOps.q rfl (.guard 3 42 true rfl rfl (gT g15)) rfl (q_eql rfl rfl rfl) ?_
      refine SOps.q rfl (.plain rfl) rfl (q_pick_t rfl rfl g15 rfl) ?_
      refine SOps.q rfl (.plain rfl) rfl (q_move rfl rfl) ?_
      refine SOps.q rfl (.guard 7 46 true rfl rfl (gT g16)) rfl (q_move rfl rfl) ?_
      refine SOps.q rfl (.guard 7 46 true rfl rfl (gT g16)) rfl (q_move rfl rfl) ?_
      refine SOps.q rfl (.guard 7 46 true rfl rfl (gT g16)) rfl (q_call (slices_Equal_int_int_ok F c_5.1 c_3.1 c_17 g18) [] rfl fn12 ⟨⟨_, rfl, .inl ⟨rfl, rfl⟩⟩, ⟨_, rfl, .inl ⟨rfl, rfl⟩⟩, trivial⟩ (.inl rfl)) ?_
      refine SOps.q rfl (.plain rfl) rfl (q_pick_t rfl rfl g16 rfl) ?_
      refine SOps.q rfl (.plain rfl) rfl (q_move rfl rfl) ?_
      refine SOps.skip rfl 12 51 true rfl rfl (.inl (gF g19)) rfl ?_
      refine SOps.skip rfl 12 51 true rfl rfl (.inl (gF g19)) rfl ?_
      refine SOps.q rfl (.plain rfl) rfl (q_pick_f rfl rfl g19 rfl) ?_
      refine SOps.q rfl (.plain rfl) rfl (q_move rfl rfl) ?_
      refine SOps.skip rfl 16 55 true rfl rfl (.inl rfl) rfl ?_
      refine SOps.skip rfl 16 55 true rfl rfl (.inl rfl) rfl ?_
      refine SOps.skip rfl 16 55 true rfl rfl (.inl rfl) rfl ?_
      refine SOps.q rfl (.plain rfl) rfl (q_pick_f rfl rfl rfl rfl) ?_
      refine SOps.q rfl (.plain rfl) rfl (q_move rfl rfl) ?_
      refine SOps.skip rfl 21 60 true rfl rfl (.inl rfl) rfl ?_
      refine SOps.skip rfl 21 60 true rfl rfl (.inl rfl) rfl ?_
      refine SOps.q rfl (.plain rfl) rfl (q_pick_f rfl rfl rfl rfl) ?_
      refine SOps.q rfl (.plain rfl) rfl (q_move rfl rfl) ?_
      refine SOps.skip rfl 25 64 true rfl rfl (.inl rfl) rfl ?_
      refine SOps.skip rfl 25 64 true rfl rfl (.inl rfl) rfl ?_
      refine SOps.skip rfl 25 64 true rfl rfl (.inl rfl) rfl ?_
      refine SOps.q rfl (.plain rfl) rfl (q_pick_f rfl rfl rfl rfl) ?_
      refine SOps.q rfl (.plain rfl) rfl (q_move rfl rfl) ?_
      refine SOps.skip rfl 30 69 true rfl rfl (.inl rfl) rfl ?_
      refine SOps.skip rfl 30 69 true rfl rfl (.inl rfl) rfl ?_
      refine SOps.q rfl (.plain rfl) rfl (q_pick_f rfl rfl rfl rfl) ?_
      refine SOps.q rfl (.plain rfl) rfl (q_move rfl rfl) ?_
      refine SOps.skip rfl 34 73 true rfl rfl (.inl rfl) rfl ?_
      refine SOps.skip rfl 34 73 true rfl rfl (.inl rfl) rfl ?_
      refine SOps.skip rfl 34 73 true rfl rfl (.inl rfl) rfl ?_
      refine SOps.skip rfl 34 73 true rfl rfl (.inl rfl) rfl ?_
      refine SOps.q rfl (.plain rfl) rfl (q_pick_f rfl rfl rfl rfl) ?_
      refine SOps.q rfl (.plain rfl) rfl (q_assign rfl rfl) ?_
      refine SOps.sub (st' := ⟨[(0, .c (.bool false))], []⟩) (sub_gen [] rfl rfl ⟨zc rfl rfl, trivial⟩ trivial) ?_
      refine SOps.nil ?_
      refine SCode.ret ?_
      obtain rfl := Option.some.inj h
      exact ⟨⟨[(0, .c (.bool false))], []⟩, _, sub_gen [] rfl rfl ⟨zc rfl rfl, trivial⟩ trivial, resA1 (v := .c (.bool false)) rfl rfl, rfl⟩
    refine SCode.region (show SOps _ _ _ [0, 1, 2, 3, 4, 5, 6, 7, 8, 9, 10, 11, 12, 13, 14, 15, 16, 17, 18, 19, 20, 21, 22, 23, 24, 25, 26, 27, 28, 29, 30, 31, 32, 33, 34, 35, 36, 37, 38, 39, 40] _ _ from ?_)
    refine SOps.q rfl (.plain rfl) rfl (q_move rfl rfl) ?_
    refine SOps.q rfl (.plain rfl) rfl (q_bsliceL (c := (cInt .i64)) (d0 := 0) [7, 6, 3] rfl rfl sl22 z3 rfl rfl rfl rfl rfl rfl rfl) ?_
    refine SOps.q rfl (.plain rfl) rfl (q_call (slices_Equal_int_int_ok F c_3.1 ([7, 6, 3]) c_13 g14) [] rfl fn12 ⟨⟨_, rfl, .inl ⟨rfl, rfl⟩⟩, ⟨_, rfl, .inl ⟨rfl, rfl⟩⟩, trivial⟩ (.inl rfl)) ?_
    refine SOps.q rfl (.plain rfl) rfl (q_move rfl rfl) ?_
    refine SOps.q rfl (.guard 3 42 true rfl rfl (gT g15)) rfl (q_move rfl rfl) ?_
    refine SOps.q rfl (.guard 3 42 true rfl rfl (gT g15)) rfl (q_eql rfl rfl rfl) ?_
    refine SOps.q rfl (.plain rfl) rfl (q_pick_t rfl rfl g15 rfl) ?_
    refine SOps.q rfl (.plain rfl) rfl (q_move rfl rfl) ?_
    refine SOps.skip rfl 7 46 true rfl rfl (.inl (gF g16)) rfl ?_
    refine SOps.skip rfl 7 46 true rfl rfl (.inl (gF g16)) rfl ?_
    refine SOps.skip rfl 7 46 true rfl rfl (.inl (gF g16)) rfl ?_
    refine SOps.q rfl (.plain rfl) rfl (q_pick_f rfl rfl g16 rfl) ?_
    refine SOps.q rfl (.plain rfl) rfl (q_move rfl rfl) ?_
    refine SOps.skip rfl 12 51 true rfl rfl (.inl rfl) rfl ?_
    refine SOps.skip rfl 12 51 true rfl rfl (.inl rfl) rfl ?_
    refine SOps.q rfl (.plain rfl) rfl (q_pick_f rfl rfl rfl rfl) ?_
    refine SOps.q rfl (.plain rfl) rfl (q_move rfl rfl) ?_
    refine SOps.skip rfl 16 55 true rfl rfl (.inl rfl) rfl ?_
    refine SOps.skip rfl 16 55 true rfl rfl (.inl rfl) rfl ?_
    refine SOps.skip rfl 16 55 true rfl rfl (.inl rfl) rfl ?_
    refine SOps.q rfl (.plain rfl) rfl (q_pick_f rfl rfl rfl rfl) ?_
    refine SOps.q rfl (.plain rfl) rfl (q_move rfl rfl) ?_
    refine SOps.skip rfl 21 60 true rfl rfl (.inl rfl) rfl ?_
    refine SOps.skip rfl 21 60 true rfl rfl (.inl rfl) rfl ?_
    refine SOps.q rfl (.plain rfl) rfl (q_pick_f rfl rfl rfl rfl) ?_
    refine SOps.q rfl (.plain rfl) rfl (q_move rfl rfl) ?_
    refine SOps.skip rfl 25 64 true rfl rfl (.inl rfl) rfl ?_
    refine SOps.skip rfl 25 64 true rfl rfl (.inl rfl) rfl ?_
    refine SOps.skip rfl 25 64 true rfl rfl (.inl rfl) rfl ?_
    refine SOps.q rfl (.plain rfl) rfl (q_pick_f rfl rfl rfl rfl) ?_
    refine SOps.q rfl (.plain rfl) rfl (q_move rfl rfl) ?_
    refine SOps.skip rfl 30 69 true rfl rfl (.inl rfl) rfl ?_
    refine SOps.skip rfl 30 69 true rfl rfl (.inl rfl) rfl ?_
    refine SOps.q rfl (.plain rfl) rfl (q_pick_f rfl rfl rfl rfl) ?_
    refine SOps.q rfl (.plain rfl) rfl (q_move rfl rfl) ?_
    refine SOps.skip rfl 34 73 true rfl rfl (.inl rfl) rfl ?_
    refine SOps.skip rfl 34 73 true rfl rfl (.inl rfl) rfl ?_
    refine SOps.skip rfl 34 73 true rfl rfl (.inl rfl) rfl ?_
    refine SOps.skip rfl 34 73 true rfl rfl (.inl rfl) rfl ?_
    refine SOps.q rfl (.plain rfl) rfl (q_pick_f rfl rfl rfl rfl) ?_
    refine SOps.q rfl (.plain rfl) rfl (q_assign rfl rfl) ?_
    refine SOps.sub (st' := ⟨[(0, .c (.bool false))], []⟩) (sub_gen [] rfl rfl ⟨zc rfl rfl, trivial⟩ trivial) ?_
    refine SOps.nil ?_
    refine SCode.ret ?_
    obtain rfl := Option.some.inj h
    exact ⟨⟨[(0, .c (.bool false))], []⟩, _, sub_gen [] rfl rfl ⟨zc rfl rfl, trivial⟩ trivial, resA1 (v := .c (.bool false)) rfl rfl, rfl⟩
  refine SCode.region (show SOps _ _ _ [0, 1, 2, 3, 4, 5, 6, 7, 8, 9, 10, 11, 12, 13, 14, 15, 16, 17, 18, 19, 20, 21, 22, 23, 24, 25, 26, 27, 28, 29, 30, 31, 32, 33, 34, 35, 36, 37, 38, 39, 40] _ _ from ?_)
  refine SOps.q rfl (.plain rfl) rfl (q_move rfl rfl) ?_
  refine SOps.q rfl (.plain rfl) rfl (q_bsliceL (c := (cInt .i64)) (d0 := 0) [7, 6, 3] rfl rfl sl22 z3 rfl rfl rfl rfl rfl rfl rfl) ?_
  refine SOps.q rfl (.plain rfl) rfl (q_call (slices_Equal_int_int_ok F c_3.1 ([7, 6, 3]) c_13 g14) [] rfl fn12 ⟨⟨_, rfl, .inl ⟨rfl, rfl⟩⟩, ⟨_, rfl, .inl ⟨rfl, rfl⟩⟩, trivial⟩ (.inl rfl)) ?_
  refine SOps.q rfl (.plain rfl) rfl (q_move rfl rfl) ?_
  refine SOps.skip rfl 3 42 true rfl rfl (.inl (gF g15)) rfl ?_
  refine SOps.skip rfl 3 42 true rfl rfl (.inl (gF g15)) rfl ?_
  refine SOps.q rfl (.plain rfl) rfl (q_pick_f rfl rfl g15 rfl) ?_
  refine SOps.q rfl (.plain rfl) rfl (q_move rfl rfl) ?_
  refine SOps.skip rfl 7 46 true rfl rfl (.inl rfl) rfl ?_
  refine SOps.skip rfl 7 46 true rfl rfl (.inl rfl) rfl ?_
  refine SOps.skip rfl 7 46 true rfl rfl (.inl rfl) rfl ?_
  refine SOps.q rfl (.plain rfl) rfl (q_pick_f rfl rfl rfl rfl) ?_
  refine SOps.q rfl (.plain rfl) rfl (q_move rfl rfl) ?_
  refine SOps.skip rfl 12 51 true rfl rfl (.inl rfl) rfl ?_
  refine SOps.skip rfl 12 51 true rfl rfl (.inl rfl) rfl ?_
  refine SOps.q rfl (.plain rfl) rfl (q_pick_f rfl rfl rfl rfl) ?_
  refine SOps.q rfl (.plain rfl) rfl (q_move rfl rfl) ?_
  refine SOps.skip rfl 16 55 true rfl rfl (.inl rfl) rfl ?_
  refine SOps.skip rfl 16 55 true rfl rfl (.inl rfl) rfl ?_
  refine SOps.skip rfl 16 55 true rfl rfl (.inl rfl) rfl ?_
  refine SOps.q rfl (.plain rfl) rfl (q_pick_f rfl rfl rfl rfl) ?_
  refine SOps.q rfl (.plain rfl) rfl (q_move rfl rfl) ?_
  refine SOps.skip rfl 21 60 true rfl rfl (.inl rfl) rfl ?_
  refine SOps.skip rfl 21 60 true rfl rfl (.inl rfl) rfl ?_
  refine SOps.q rfl (.plain rfl) rfl (q_pick_f rfl rfl rfl rfl) ?_
  refine SOps.q rfl (.plain rfl) rfl (q_move rfl rfl) ?_
  refine SOps.skip rfl 25 64 true rfl rfl (.inl rfl) rfl ?_
  refine SOps.skip rfl 25 64 true rfl rfl (.inl rfl) rfl ?_
  refine SOps.skip rfl 25 64 true rfl rfl (.inl rfl) rfl ?_
  refine SOps.q rfl (.plain rfl) rfl (q_pick_f rfl rfl rfl rfl) ?_
  refine SOps.q rfl (.plain rfl) rfl (q_move rfl rfl) ?_
  refine SOps.skip rfl 30 69 true rfl rfl (.inl rfl) rfl ?_
  refine SOps.skip rfl 30 69 true rfl rfl (.inl rfl) rfl ?_
  refine SOps.q rfl (.plain rfl) rfl (q_pick_f rfl rfl rfl rfl) ?_
  refine SOps.q rfl (.plain rfl) rfl (q_move rfl rfl) ?_
  refine SOps.skip rfl 34 73 true rfl rfl (.inl rfl) rfl ?_
  refine SOps.skip rfl 34 73 true rfl rfl (.inl rfl) rfl ?_
  refine SOps.skip rfl 34 73 true rfl rfl (.inl rfl) rfl ?_
  refine SOps.skip rfl 34 73 true rfl rfl (.inl rfl) rfl ?_
  refine SOps.q rfl (.plain rfl) rfl (q_pick_f rfl rfl rfl rfl) ?_
  refine SOps.q rfl (.plain rfl) rfl (q_assign rfl rfl) ?_
  refine SOps.sub (st' := ⟨[(0, .c (.bool false))], []⟩) (sub_gen [] rfl rfl ⟨zc rfl rfl, trivial⟩ trivial) ?_
  refine SOps.nil ?_
  refine SCode.ret ?_
  obtain rfl := Option.some.inj h
  exact ⟨⟨[(0, .c (.bool false))], []⟩, _, sub_gen [] rfl rfl ⟨zc rfl rfl, trivial⟩ trivial, resA1 (v := .c (.bool false)) rfl rfl, rfl⟩
set_option maxRecDepth 100000 in
set_option maxHeartbeats 8000000 in
theorem chargenetref10_Sorted_ok (F : Nat) (a0_l : List Int) (r : List Int) (h : chargenetref10_Sorted F a0_l = some r) :
    SFun Try.prog 27 [] [.c (.vec a0_l.length 1 (gL (cInt .i64) 0 a0_l))] (fun x _ => x = .c (.vec r.length 1 (gL (cInt .i64) 0 r))) := by
  refine SFun.of (n := 49) Try.func27 rfl rfl rfl ?_
  unfold chargenetref10_Sorted at h
  show SCode _ _ _ ⟨[(0, .c (.vec a0_l.length 1 (gL (cInt .i64) 0 a0_l)))], []⟩ _
  refine SCode.seq ?_
  refine SCode.region (show SOps _ _ _ [0] _ _ from ?_)
  refine SOps.q rfl (.plain rfl) rfl (q_assign rfl rfl) ?_
  refine SOps.sub (st' := ⟨[(0, .c (.vec a0_l.length 1 (gL (cInt .i64) 0 a0_l)))], []⟩) (sub_gen [] rfl rfl ⟨zc rfl rfl, trivial⟩ trivial) ?_
  refine SOps.nil ?_
  refine SCode.seq ?_
  obtain ⟨g1, h⟩ := guard_out h
  refine SCode.region (show SOps _ _ _ [0, 1, 2, 3] _ _ from ?_)
  refine SOps.e rfl (.plain rfl) (e_bslice0L (α := Int) (c := (cInt .i64)) (d0 := 0) rfl rfl rfl rfl sl22) ?_
  refine SOps.q rfl (.plain rfl) rfl (q_move rfl rfl) ?_
  refine SOps.e rfl (.plain rfl) (e_appendL (c := (cInt .i64)) (d0 := 0) (l := ([] : List Int)) (l2 := a0_l) rfl rfl rfl rfl rfl rfl (.inl rfl) sl22 z3 rfl rfl oneInt g1.1 g1.2) ?_
  refine SOps.q rfl (.plain rfl) rfl (q_assign rfl rfl) ?_
  refine SOps.sub (st' := ⟨[(3, .c (.own 0 ((([] : List Int)) ++ a0_l).length))], [.arr 3 1 ((([] : List Int)) ++ a0_l).length (gL (cInt .i64) 0 ((([] : List Int)) ++ a0_l))]⟩) (sub_gen [1] rfl rfl ⟨zc rfl rfl, trivial⟩ ⟨oa rfl, trivial⟩) ?_
  refine SOps.nil ?_
  refine SCode.join (σ := (List Int)) (S := fun s => ⟨[(3, .c (.own 0 s.length))], [.arr 3 1 s.length (gL (cInt .i64) 0 s)]⟩) (g := fun s => chargenetref10_Sorted_p3 s = some r) ?_ ?_
  rotate_left
  · refine SCode.seq ?_
    refine SCode.region (show SOps _ _ _ [0] _ _ from ?_)
    refine SOps.q rfl (.plain rfl) rfl (q_assign rfl rfl) ?_
    refine SOps.sub (st' := ⟨[(3, .c (.own 0 ((([] : List Int)) ++ a0_l).length)), (4, .c (.int .i64 0))], [.arr 3 1 ((([] : List Int)) ++ a0_l).length (gL (cInt .i64) 0 ((([] : List Int)) ++ a0_l))]⟩) (sub_gen [0] rfl rfl ⟨zc rfl rfl, zc rfl rfl, trivial⟩ ⟨oa rfl, trivial⟩) ?_
    refine SOps.nil ?_
    refine SCode.block ?_
    refine SCode.sub (st' := ⟨[(3, .c (.own 0 ((([] : List Int)) ++ a0_l).length)), (4, .c (.int .i64 0))], [.arr 3 1 ((([] : List Int)) ++ a0_l).length (gL (cInt .i64) 0 ((([] : List Int)) ++ a0_l))]⟩) (sub_gen [0] rfl rfl ⟨zc rfl rfl, zc rfl rfl, trivial⟩ ⟨oa rfl, trivial⟩) ?_
    refine (SCode.loop (σ := Nat × (Int × (List Int))) (S := fun s => ⟨[(3, .c (.own 0 s.2.2.length)), (4, .c (.int .i64 s.2.1))], [.arr 3 1 s.2.2.length (gL (cInt .i64) 0 s.2.2)]⟩) (g := fun s => chargenetref10_Sorted_l66 F s.1 s.2.1 s.2.2 = some r) (μ := fun s => s.1) (F, (0, (([] : List Int)) ++ a0_l)) h ?_)
    rintro ⟨n_66, ⟨i_34, o0_35⟩⟩ h
    replace h : chargenetref10_Sorted_l66 F n_66 i_34 o0_35 = some r := h
    show SCode _ _ _ ⟨[(3, .c (.own 0 o0_35.length)), (4, .c (.int .i64 i_34))], [.arr 3 1 o0_35.length (gL (cInt .i64) 0 o0_35)]⟩ _
    cases n_66 with
    | zero => cases h
    | succ n_66 =>
      replace h : chargenetref10_Sorted_b66 F (fun i_34 o0_35 => chargenetref10_Sorted_l66 F n_66 i_34 o0_35) i_34 o0_35 = some r := h
      unfold chargenetref10_Sorted_b66 at h
      refine SCode.seq ?_
      refine SCode.seq ?_
      refine SCode.region (show SOps _ _ _ [0, 1, 2, 3] _ _ from ?_)
      refine SOps.q rfl (.plain rfl) rfl (q_move rfl rfl) ?_
      refine SOps.q rfl (.plain rfl) rfl (q_move rfl rfl) ?_
      refine SOps.q rfl (.plain rfl) rfl (q_len_own rfl rfl sl22) ?_
      refine SOps.q rfl (.plain rfl) rfl (q_lss rfl rfl rfl) ?_
      refine SOps.sub (st' := ⟨[(3, .c (.own 0 o0_35.length)), (4, .c (.int .i64 i_34)), (12, .c (.bool (decide (i_34 < ((o0_35).length : Int)))))], [.arr 3 1 o0_35.length (gL (cInt .i64) 0 o0_35)]⟩) (sub_gen [0] rfl rfl ⟨zc rfl rfl, zc rfl rfl, zc rfl rfl, trivial⟩ ⟨oa rfl, trivial⟩) ?_
      refine SOps.nil ?_
      rcases cond_out h with ⟨g67, h⟩ | ⟨g67, h⟩
      · refine SCode.cond_t rfl g67 ?_
        refine SCode.skip ?_
        refine SCode.join (σ := (List Int)) (S := fun s => ⟨[(3, .c (.own 0 s.length)), (4, .c (.int .i64 i_34))], [.arr 3 1 s.length (gL (cInt .i64) 0 s)]⟩) (g := fun s => chargenetref10_Sorted_p69 i_34 (fun i_34 o0_35 => chargenetref10_Sorted_l66 F n_66 i_34 o0_35) s = some r) ?_ ?_
        rotate_left
        · refine SCode.block ?_
          refine SCode.seq ?_
          refine SCode.region (show SOps _ _ _ [0, 1] _ _ from ?_)
          refine SOps.q rfl (.plain rfl) rfl (q_move rfl rfl) ?_
          refine SOps.q rfl (.plain rfl) rfl (q_assign rfl rfl) ?_
          refine SOps.sub (st' := ⟨[(3, .c (.own 0 o0_35.length)), (4, .c (.int .i64 i_34)), (5, .c (.int .i64 i_34))], [.arr 3 1 o0_35.length (gL (cInt .i64) 0 o0_35)]⟩) (sub_gen [0] rfl rfl ⟨zc rfl rfl, zc rfl rfl, zc rfl rfl, trivial⟩ ⟨oa rfl, trivial⟩) ?_
          refine SOps.nil ?_
          refine SCode.block ?_
          refine SCode.sub (st' := ⟨[(3, .c (.own 0 o0_35.length)), (4, .c (.int .i64 i_34)), (5, .c (.int .i64 i_34))], [.arr 3 1 o0_35.length (gL (cInt .i64) 0 o0_35)]⟩) (sub_gen [0] rfl rfl ⟨zc rfl rfl, zc rfl rfl, zc rfl rfl, trivial⟩ ⟨oa rfl, trivial⟩) ?_
          refine (SCode.loop (σ := Nat × (Int × (List Int))) (S := fun s => ⟨[(3, .c (.own 0 s.2.2.length)), (4, .c (.int .i64 i_34)), (5, .c (.int .i64 s.2.1))], [.arr 3 1 s.2.2.length (gL (cInt .i64) 0 s.2.2)]⟩) (g := fun s => chargenetref10_Sorted_l88 i_34 (fun i_34 o0_35 => chargenetref10_Sorted_l66 F n_66 i_34 o0_35) s.1 s.2.1 s.2.2 = some r) (μ := fun s => s.1) (F, (i_34, o0_35)) h ?_)
          rintro ⟨n_88, ⟨k_78, o0_79⟩⟩ h
          replace h : chargenetref10_Sorted_l88 i_34 (fun i_34 o0_35 => chargenetref10_Sorted_l66 F n_66 i_34 o0_35) n_88 k_78 o0_79 = some r := h
          show SCode _ _ _ ⟨[(3, .c (.own 0 o0_79.length)), (4, .c (.int .i64 i_34)), (5, .c (.int .i64 k_78))], [.arr 3 1 o0_79.length (gL (cInt .i64) 0 o0_79)]⟩ _
          cases n_88 with
          | zero => cases h
          | succ n_88 =>
            replace h : chargenetref10_Sorted_b88 i_34 (fun i_34 o0_35 => chargenetref10_Sorted_l66 F n_66 i_34 o0_35) (fun k_78 o0_79 => chargenetref10_Sorted_l88 i_34 (fun i_34 o0_35 => chargenetref10_Sorted_l66 F n_66 i_34 o0_35) n_88 k_78 o0_79) k_78 o0_79 = some r := h
            unfold chargenetref10_Sorted_b88 at h
            refine SCode.seq ?_
            refine SCode.seq ?_
            rcases cond_out h with ⟨g89, h⟩ | ⟨g89, h⟩
            · obtain ⟨g90, h⟩ := guard_out h
              obtain ⟨g91, h⟩ := guard_out h
              refine SCode.draw (s' := [(29, .c (.bool (decide (o0_79.getD k_78.toNat 0 < o0_79.getD ((IntKind.wrap .i64 (k_78 - 1)).toNat) 0)))), (28, .c (.bool (decide (o0_79.getD k_78.toNat 0 < o0_79.getD ((IntKind.wrap .i64 (k_78 - 1)).toNat) 0)))), (27, .c (.int .i64 (o0_79.getD ((IntKind.wrap .i64 (k_78 - 1)).toNat) 0))), (26, .c (.aptr 0 1 ((IntKind.wrap .i64 (k_78 - 1)).toNat) 0)), (25, .c (.int .i64 (IntKind.wrap .i64 (k_78 - 1)))), (24, .c (.int .i64 k_78)), (23, .c (.own 0 o0_79.length)), (22, .c (.int .i64 (o0_79.getD k_78.toNat 0))), (21, .c (.aptr 0 1 k_78.toNat 0)), (20, .c (.int .i64 k_78)), (19, .c (.own 0 o0_79.length)), (18, .c (.bool (decide (0 < k_78)))), (17, .c (.bool (decide (0 < k_78)))), (16, .c (.int .i64 k_78)), (3, .c (.own 0 o0_79.length)), (4, .c (.int .i64 i_34)), (5, .c (.int .i64 k_78))]) mixed [[], [0], [0, 1], [0, 1, 2], [0, 1, 2], [0, 1, 2, 3, 4], [0, 1, 2, 3, 4, 5], [0, 1, 2], [0, 1, 2], [0, 1, 2, 8], [0, 1, 2, 7, 8, 9], [0, 1, 2, 7, 8, 9, 10], [0, 1, 2, 3, 4, 5, 6, 7, 8, 9, 10, 11], [0, 1, 2, 3, 4, 5, 6, 7, 8, 9, 10, 11, 12]] 14 0 rfl rfl ?_ ?_
              · refine QChain.run rfl (.plain rfl) rfl (q_move rfl rfl) ?_
                refine QChain.run rfl (.plain rfl) rfl (q_gtr rfl rfl rfl) ?_
                refine QChain.run rfl (.plain rfl) rfl (q_move rfl rfl) ?_
                refine QChain.run rfl (.guard 2 18 true rfl rfl (gT g89)) rfl (q_move rfl rfl) ?_
                refine QChain.run rfl (.guard 2 18 true rfl rfl (gT g89)) rfl (q_move rfl rfl) ?_
                refine QChain.run rfl (.guard 2 18 true rfl rfl (gT g89)) rfl (q_index_own rfl rfl rfl sl22 g90.1 g90.2) ?_
                refine QChain.run rfl (.guard 2 18 true rfl rfl (gT g89)) rfl (q_load_aptr rfl rfl rfl (toNat_lt g90) rfl ty3) ?_
                refine QChain.run rfl (.guard 2 18 true rfl rfl (gT g89)) rfl (q_move rfl rfl) ?_
                refine QChain.run rfl (.guard 2 18 true rfl rfl (gT g89)) rfl (q_move rfl rfl) ?_
                refine QChain.run rfl (.guard 2 18 true rfl rfl (gT g89)) rfl (q_sub rfl rfl rfl) ?_
                refine QChain.run rfl (.guard 2 18 true rfl rfl (gT g89)) rfl (q_index_own rfl rfl rfl sl22 g91.1 g91.2) ?_
                refine QChain.run rfl (.guard 2 18 true rfl rfl (gT g89)) rfl (q_load_aptr rfl rfl rfl (toNat_lt g91) rfl ty3) ?_
                refine QChain.run rfl (.guard 2 18 true rfl rfl (gT g89)) rfl (q_lss rfl rfl rfl) ?_
                refine QChain.run rfl (.plain rfl) rfl (q_pick_t rfl rfl g89 rfl) ?_
                exact QChain.nil _ _
              refine (show SOps _ _ _ [] _ _ from ?_)
              refine SOps.sub (st' := ⟨[(3, .c (.own 0 o0_79.length)), (4, .c (.int .i64 i_34)), (5, .c (.int .i64 k_78)), (29, .c (.bool (decide (o0_79.getD k_78.toNat 0 < o0_79.getD ((IntKind.wrap .i64 (k_78 - 1)).toNat) 0))))], [.arr 3 1 o0_79.length (gL (cInt .i64) 0 o0_79)]⟩) (sub_gen [0] rfl rfl ⟨zc rfl rfl, zc rfl rfl, zc rfl rfl, zc rfl rfl, trivial⟩ ⟨oa rfl, trivial⟩) ?_
              refine SOps.nil ?_
              rcases cond_out h with ⟨g92, h⟩ | ⟨g92, h⟩
              · refine SCode.cond_t rfl g92 ?_
                refine SCode.skip ?_
                refine SCode.seq ?_
                refine SCode.block ?_
                obtain ⟨g93, h⟩ := guard_out h
                obtain ⟨g94, h⟩ := guard_out h
                obtain ⟨g95, h⟩ := guard_out h
                obtain ⟨g96, h⟩ := guard_out h
                refine SCode.draw2 (sH := [(46, .c (.aptr 0 1 k_78.toNat 0)), (45, .c (.int .i64 (o0_79.getD k_78.toNat 0))), (44, .c (.aptr 0 1 k_78.toNat 0)), (43, .c (.int .i64 k_78)), (42, .c (.own 0 o0_79.length)), (41, .c (.int .i64 (o0_79.getD ((IntKind.wrap .i64 (k_78 - 1)).toNat) 0))), (40, .c (.aptr 0 1 ((IntKind.wrap .i64 (k_78 - 1)).toNat) 0)), (39, .c (.int .i64 (IntKind.wrap .i64 (k_78 - 1)))), (38, .c (.int .i64 k_78)), (37, .c (.own 0 o0_79.length)), (36, .c (.int .i64 (IntKind.wrap .i64 (k_78 - 1)))), (35, .c (.int .i64 k_78)), (34, .c (.own 0 o0_79.length)), (33, .c (.int .i64 k_78)), (32, .c (.own 0 o0_79.length)), (3, .c (.own 0 o0_79.length)), (4, .c (.int .i64 i_34)), (5, .c (.int .i64 k_78)), (29, .c (.bool (decide (o0_79.getD k_78.toNat 0 < o0_79.getD ((IntKind.wrap .i64 (k_78 - 1)).toNat) 0))))]) mixed [[], [], [], [], [3], [], [], [6], [5, 6, 7], [5, 6, 7, 8], [], [], [10, 11], [10, 11, 12], [0, 1, 5, 6, 7, 8, 9, 10, 11, 12, 13], [0, 1, 5, 6, 7, 8, 9, 10, 11, 12, 13, 14], [0, 1, 2, 3, 4, 5, 6, 7, 8, 9, 10, 11, 12, 13, 14, 15], [0, 1, 2, 3, 4, 5, 6, 7, 8, 9, 10, 11, 12, 13, 14, 15, 16]] [15, 16, 17] (fun h => List.getD [[], [], [0], [0], [0]] h []) rfl ?_ ⟨[(3, .c (.own 0 ((o0_79.set k_78.toNat (o0_79.getD ((IntKind.wrap .i64 (k_78 - 1)).toNat) 0)).set ((IntKind.wrap .i64 (k_78 - 1)).toNat) (o0_79.getD k_78.toNat 0)).length)), (4, .c (.int .i64 i_34)), (5, .c (.int .i64 k_78))], [.arr 3 1 ((o0_79.set k_78.toNat (o0_79.getD ((IntKind.wrap .i64 (k_78 - 1)).toNat) 0)).set ((IntKind.wrap .i64 (k_78 - 1)).toNat) (o0_79.getD k_78.toNat 0)).length (gL (cInt .i64) 0 ((o0_79.set k_78.toNat (o0_79.getD ((IntKind.wrap .i64 (k_78 - 1)).toNat) 0)).set ((IntKind.wrap .i64 (k_78 - 1)).toNat) (o0_79.getD k_78.toNat 0)))]⟩ ?_ ?_
                · refine HChain.run rfl rfl (.plain rfl) rfl (fun f x => q_move rfl rfl) ?_
                  refine HChain.run rfl rfl (.plain rfl) rfl (fun f x => q_move rfl rfl) ?_
                  refine HChain.run rfl rfl (.plain rfl) rfl (fun f x => q_move rfl rfl) ?_
                  refine HChain.run rfl rfl (.plain rfl) rfl (fun f x => q_move rfl rfl) ?_
                  refine HChain.run rfl rfl (.plain rfl) rfl (fun f x => q_sub rfl rfl rfl) ?_
                  refine HChain.run rfl rfl (.plain rfl) rfl (fun f x => q_move rfl rfl) ?_
                  refine HChain.run rfl rfl (.plain rfl) rfl (fun f x => q_move rfl rfl) ?_
                  refine HChain.run rfl rfl (.plain rfl) rfl (fun f x => q_sub rfl rfl rfl) ?_
                  refine HChain.run rfl rfl (.plain rfl) rfl (fun f x => q_index_own rfl rfl rfl sl22 g93.1 g93.2) ?_
                  refine HChain.run rfl rfl (.plain rfl) rfl (fun f x => q_load_aptr rfl rfl rfl (toNat_lt g93) rfl ty3) ?_
                  refine HChain.run rfl rfl (.plain rfl) rfl (fun f x => q_move rfl rfl) ?_
                  refine HChain.run rfl rfl (.plain rfl) rfl (fun f x => q_move rfl rfl) ?_
                  refine HChain.run rfl rfl (.plain rfl) rfl (fun f x => q_index_own rfl rfl rfl sl22 g94.1 g94.2) ?_
                  refine HChain.run rfl rfl (.plain rfl) rfl (fun f x => q_load_aptr rfl rfl rfl (toNat_lt g94) rfl ty3) ?_
                  refine HChain.run rfl rfl (.plain rfl) rfl (fun f x => q_index_own rfl rfl rfl sl22 g95.1 g95.2) ?_
                  refine HChain.tail rfl ?_
                  refine HChain.tail rfl ?_
                  refine HChain.tail rfl ?_
                  exact HChain.nil _ _
                · refine TTree.node 15 [] rfl ?_
                  refine AllP.cons ?_ ?_
                  · refine TStep.n (objs' := [.arr 3 1 (o0_79.set k_78.toNat (o0_79.getD ((IntKind.wrap .i64 (k_78 - 1)).toNat) 0)).length (gL (cInt .i64) 0 (o0_79.set k_78.toNat (o0_79.getD ((IntKind.wrap .i64 (k_78 - 1)).toNat) 0)))]) [0] rfl rfl rfl rfl (fun s2 => by refine EOp.eq (e_storeL (o0_79.getD ((IntKind.wrap .i64 (k_78 - 1)).toNat) 0) rfl rfl rfl rfl rfl (toNat_lt g95) ty3 rfl rfl rfl rfl rfl rfl) ?_; rfl) ?_
                    refine ⟨rfl, ⟨trivial, .inl rfl⟩, ?_⟩
                    refine TTree.node 16 [] rfl ?_
                    refine AllP.cons ?_ ?_
                    · refine TStep.d (objs' := [.arr 3 1 (o0_79.set k_78.toNat (o0_79.getD ((IntKind.wrap .i64 (k_78 - 1)).toNat) 0)).length (gL (cInt .i64) 0 (o0_79.set k_78.toNat (o0_79.getD ((IntKind.wrap .i64 (k_78 - 1)).toNat) 0)))]) (v := .c (.aptr 0 1 ((IntKind.wrap .i64 (k_78 - 1)).toNat) 0)) [] 47 rfl rfl rfl rfl rfl (fun s2 => by refine EOp.eq (EOp.qd rfl rfl (q_index_own rfl rfl rfl sl22 g96.1 (lenlt (List.length_set : (o0_79.set k_78.toNat (o0_79.getD ((IntKind.wrap .i64 (k_78 - 1)).toNat) 0)).length = o0_79.length) g96.2))) ?_; rfl) ?_
                      refine ⟨rfl, ⟨trivial, .inr rfl⟩, ?_⟩
                      refine TTree.node 17 [] rfl ?_
                      refine AllP.cons ?_ ?_
                      · refine TStep.n (objs' := [.arr 3 1 ((o0_79.set k_78.toNat (o0_79.getD ((IntKind.wrap .i64 (k_78 - 1)).toNat) 0)).set ((IntKind.wrap .i64 (k_78 - 1)).toNat) (o0_79.getD k_78.toNat 0)).length (gL (cInt .i64) 0 ((o0_79.set k_78.toNat (o0_79.getD ((IntKind.wrap .i64 (k_78 - 1)).toNat) 0)).set ((IntKind.wrap .i64 (k_78 - 1)).toNat) (o0_79.getD k_78.toNat 0)))]) [0] rfl rfl rfl rfl (fun s2 => by refine EOp.eq (e_storeL (o0_79.getD k_78.toNat 0) rfl rfl rfl rfl rfl (toNat_lt g96) ty3 rfl rfl rfl rfl rfl rfl) ?_; rfl) ?_
                        refine ⟨rfl, ⟨trivial, .inl rfl⟩, ?_⟩
                        exact TTree.leaf rfl (sub_gen [0] rfl rfl ⟨⟨_, rfl, .inl ⟨rfl, congrArg (Cell.own 0) ((List.length_set : ((o0_79.set k_78.toNat (o0_79.getD ((IntKind.wrap .i64 (k_78 - 1)).toNat) 0)).set ((IntKind.wrap .i64 (k_78 - 1)).toNat) (o0_79.getD k_78.toNat 0)).length = (o0_79.set k_78.toNat (o0_79.getD ((IntKind.wrap .i64 (k_78 - 1)).toNat) 0)).length).trans (List.length_set : (o0_79.set k_78.toNat (o0_79.getD ((IntKind.wrap .i64 (k_78 - 1)).toNat) 0)).length = o0_79.length)).symm⟩⟩, zc rfl rfl, zc rfl rfl, trivial⟩ ⟨oa rfl, trivial⟩)
                      exact AllP.nil
                    exact AllP.nil
                  exact AllP.nil
                refine SCode.region (show SOps _ _ _ [0, 1, 2] _ _ from ?_)
                refine SOps.q rfl (.plain rfl) rfl (q_move rfl rfl) ?_
                refine SOps.q rfl (.plain rfl) rfl (q_sub rfl rfl rfl) ?_
                refine SOps.q rfl (.plain rfl) rfl (q_assign rfl rfl) ?_
                refine SOps.sub (st' := ⟨[(3, .c (.own 0 ((o0_79.set k_78.toNat (o0_79.getD ((IntKind.wrap .i64 (k_78 - 1)).toNat) 0)).set ((IntKind.wrap .i64 (k_78 - 1)).toNat) (o0_79.getD k_78.toNat 0)).length)), (4, .c (.int .i64 i_34)), (5, .c (.int .i64 (IntKind.wrap .i64 (k_78 - 1))))], [.arr 3 1 ((o0_79.set k_78.toNat (o0_79.getD ((IntKind.wrap .i64 (k_78 - 1)).toNat) 0)).set ((IntKind.wrap .i64 (k_78 - 1)).toNat) (o0_79.getD k_78.toNat 0)).length (gL (cInt .i64) 0 ((o0_79.set k_78.toNat (o0_79.getD ((IntKind.wrap .i64 (k_78 - 1)).toNat) 0)).set ((IntKind.wrap .i64 (k_78 - 1)).toNat) (o0_79.getD k_78.toNat 0)))]⟩) (sub_gen [0] rfl rfl ⟨zc rfl rfl, zc rfl rfl, zc rfl rfl, trivial⟩ ⟨oa rfl, trivial⟩) ?_
                refine SOps.nil ?_
                exact ⟨(n_88, (IntKind.wrap .i64 (k_78 - 1), (o0_79.set k_78.toNat (o0_79.getD ((IntKind.wrap .i64 (k_78 - 1)).toNat) 0)).set ((IntKind.wrap .i64 (k_78 - 1)).toNat) (o0_79.getD k_78.toNat 0))), h, Nat.lt_succ_self n_88, sub_gen [0] rfl rfl ⟨zc rfl rfl, zc rfl rfl, zc rfl rfl, trivial⟩ ⟨oa rfl, trivial⟩⟩
              refine SCode.cond_f rfl g92 ?_
              refine SCode.exit ?_
              exact ⟨o0_79, h, sub_gen [0] rfl rfl ⟨zc rfl rfl, zc rfl rfl, trivial⟩ ⟨oa rfl, trivial⟩⟩
            refine SCode.draw (s' := [(29, .c (.bool false)), (28, .c (.raw (.tuple #[]))), (27, .c (.raw (.tuple #[]))), (26, .c (.raw (.tuple #[]))), (25, .c (.raw (.tuple #[]))), (24, .c (.raw (.tuple #[]))), (23, .c (.raw (.tuple #[]))), (22, .c (.raw (.tuple #[]))), (21, .c (.raw (.tuple #[]))), (20, .c (.raw (.tuple #[]))), (19, .c (.raw (.tuple #[]))), (18, .c (.bool (decide (0 < k_78)))), (17, .c (.bool (decide (0 < k_78)))), (16, .c (.int .i64 k_78)), (3, .c (.own 0 o0_79.length)), (4, .c (.int .i64 i_34)), (5, .c (.int .i64 k_78))]) mixed [[], [0], [0, 1], [0, 1, 2], [0, 1, 2], [0, 1, 2, 3, 4], [0, 1, 2, 3, 4, 5], [0, 1, 2], [0, 1, 2], [0, 1, 2, 8], [0, 1, 2, 7, 8, 9], [0, 1, 2, 7, 8, 9, 10], [0, 1, 2, 3, 4, 5, 6, 7, 8, 9, 10, 11], [0, 1, 2, 3, 4, 5, 6, 7, 8, 9, 10, 11, 12]] 14 0 rfl rfl ?_ ?_
            · refine QChain.run rfl (.plain rfl) rfl (q_move rfl rfl) ?_
              refine QChain.run rfl (.plain rfl) rfl (q_gtr rfl rfl rfl) ?_
              refine QChain.run rfl (.plain rfl) rfl (q_move rfl rfl) ?_
              refine QChain.skip rfl ⟨2, 18, true, rfl, rfl, (.inl (gF g89))⟩ rfl ?_
              refine QChain.skip rfl ⟨2, 18, true, rfl, rfl, (.inl (gF g89))⟩ rfl ?_
              refine QChain.skip rfl ⟨2, 18, true, rfl, rfl, (.inl (gF g89))⟩ rfl ?_
              refine QChain.skip rfl ⟨2, 18, true, rfl, rfl, (.inl (gF g89))⟩ rfl ?_
              refine QChain.skip rfl ⟨2, 18, true, rfl, rfl, (.inl (gF g89))⟩ rfl ?_
              refine QChain.skip rfl ⟨2, 18, true, rfl, rfl, (.inl (gF g89))⟩ rfl ?_
              refine QChain.skip rfl ⟨2, 18, true, rfl, rfl, (.inl (gF g89))⟩ rfl ?_
              refine QChain.skip rfl ⟨2, 18, true, rfl, rfl, (.inl (gF g89))⟩ rfl ?_
              refine QChain.skip rfl ⟨2, 18, true, rfl, rfl, (.inl (gF g89))⟩ rfl ?_
              refine QChain.skip rfl ⟨2, 18, true, rfl, rfl, (.inl (gF g89))⟩ rfl ?_
              refine QChain.run rfl (.plain rfl) rfl (q_pick_f rfl rfl g89 rfl) ?_
              exact QChain.nil _ _
            refine (show SOps _ _ _ [] _ _ from ?_)
            refine SOps.sub (st' := ⟨[(3, .c (.own 0 o0_79.length)), (4, .c (.int .i64 i_34)), (5, .c (.int .i64 k_78)), (29, .c (.bool false))], [.arr 3 1 o0_79.length (gL (cInt .i64) 0 o0_79)]⟩) (sub_gen [0] rfl rfl ⟨zc rfl rfl, zc rfl rfl, zc rfl rfl, zc rfl rfl, trivial⟩ ⟨oa rfl, trivial⟩) ?_
            refine SOps.nil ?_
            refine SCode.cond_f rfl rfl ?_
            refine SCode.exit ?_
            exact ⟨o0_79, h, sub_gen [0] rfl rfl ⟨zc rfl rfl, zc rfl rfl, trivial⟩ ⟨oa rfl, trivial⟩⟩
        rintro o0_68 h
        show SCode _ _ _ ⟨[(3, .c (.own 0 o0_68.length)), (4, .c (.int .i64 i_34))], [.arr 3 1 o0_68.length (gL (cInt .i64) 0 o0_68)]⟩ _
        replace h : chargenetref10_Sorted_p69 i_34 (fun i_34 o0_35 => chargenetref10_Sorted_l66 F n_66 i_34 o0_35) o0_68 = some r := h
        unfold chargenetref10_Sorted_p69 at h
        refine SCode.region (show SOps _ _ _ [0, 1, 2] _ _ from ?_)
        refine SOps.q rfl (.plain rfl) rfl (q_move rfl rfl) ?_
        refine SOps.q rfl (.plain rfl) rfl (q_add rfl rfl rfl) ?_
        refine SOps.q rfl (.plain rfl) rfl (q_assign rfl rfl) ?_
        refine SOps.sub (st' := ⟨[(3, .c (.own 0 o0_68.length)), (4, .c (.int .i64 (IntKind.wrap .i64 (i_34 + 1))))], [.arr 3 1 o0_68.length (gL (cInt .i64) 0 o0_68)]⟩) (sub_gen [0] rfl rfl ⟨zc rfl rfl, zc rfl rfl, trivial⟩ ⟨oa rfl, trivial⟩) ?_
        refine SOps.nil ?_
        exact ⟨(n_66, (IntKind.wrap .i64 (i_34 + 1), o0_68)), h, Nat.lt_succ_self n_66, sub_gen [0] rfl rfl ⟨zc rfl rfl, zc rfl rfl, trivial⟩ ⟨oa rfl, trivial⟩⟩
      refine SCode.cond_f rfl g67 ?_
      refine SCode.exit ?_
      exact ⟨o0_35, h, sub_gen [0] rfl rfl ⟨zc rfl rfl, trivial⟩ ⟨oa rfl, trivial⟩⟩
  rintro o0_2 h
  show SCode _ _ _ ⟨[(3, .c (.own 0 o0_2.length))], [.arr 3 1 o0_2.length (gL (cInt .i64) 0 o0_2)]⟩ _
  replace h : chargenetref10_Sorted_p3 o0_2 = some r := h
  unfold chargenetref10_Sorted_p3 at h
  refine SCode.seq ?_
  refine SCode.region (show SOps _ _ _ [0, 1] _ _ from ?_)
  refine SOps.q rfl (.plain rfl) rfl (q_move rfl rfl) ?_
  refine SOps.q rfl (.plain rfl) rfl (q_assign rfl rfl) ?_
  refine SOps.sub (st' := ⟨[(2, .c (.own 0 o0_2.length))], [.arr 3 1 o0_2.length (gL (cInt .i64) 0 o0_2)]⟩) (sub_gen [0] rfl rfl ⟨zc rfl rfl, trivial⟩ ⟨oa rfl, trivial⟩) ?_
  refine SOps.nil ?_
  refine SCode.ret ?_
  obtain rfl := Option.some.inj h
  exact ⟨⟨[(2, .c (.vec o0_2.length 1 (gL (cInt .i64) 0 o0_2)))], []⟩, _, sub_gen [] rfl rfl ⟨⟨_, rfl, .inr (.inl ⟨_, _, _, _, _, _, _, rfl, rfl, rfl, Nat.le_refl _, fun _ _ _ _ => rfl, by decide⟩)⟩, trivial⟩ trivial, resA1 (v := .c (.vec o0_2.length 1 (gL (cInt .i64) 0 o0_2))) rfl rfl, rfl⟩
set_option maxRecDepth 100000 in
set_option maxHeartbeats 8000000 in
theorem chargenetref10_Compare_ok (F : Nat) (a0_a : List Int) (a1_b : List Int) (r : Int) (h : chargenetref10_Compare F a0_a a1_b = some r) :
    SFun Try.prog 13 [] [.c (.vec a0_a.length 1 (gL (cInt .i64) 0 a0_a)), .c (.vec a1_b.length 1 (gL (cInt .i64) 0 a1_b))] (fun x _ => x = .c (.int .i64 r)) := by
  refine SFun.of (n := 52) Try.func13 rfl rfl rfl ?_
  unfold chargenetref10_Compare at h
  show SCode _ _ _ ⟨[(0, .c (.vec a0_a.length 1 (gL (cInt .i64) 0 a0_a))), (1, .c (.vec a1_b.length 1 (gL (cInt .i64) 0 a1_b)))], []⟩ _
  refine SCode.seq ?_
  refine SCode.region (show SOps _ _ _ [0] _ _ from ?_)
  refine SOps.q rfl (.plain rfl) rfl (q_assign rfl rfl) ?_
  refine SOps.sub (st' := ⟨[(0, .c (.vec a0_a.length 1 (gL (cInt .i64) 0 a0_a))), (1, .c (.vec a1_b.length 1 (gL (cInt .i64) 0 a1_b)))], []⟩) (sub_gen [] rfl rfl ⟨zc rfl rfl, zc rfl rfl, trivial⟩ trivial) ?_
  refine SOps.nil ?_
  refine SCode.seq ?_
  obtain ⟨c_1, g2, h⟩ := bind_out h
  try dsimp only at h
  obtain ⟨c_3, g4, h⟩ := bind_out h
  try dsimp only at h
  refine SCode.region (show SOps _ _ _ [0, 1, 2, 3, 4, 5] _ _ from ?_)
  refine SOps.q rfl (.plain rfl) rfl (q_move rfl rfl) ?_
  refine SOps.q rfl (.plain rfl) rfl (q_call (chargenetref10_Sorted_ok F a0_a c_1 g2) [] rfl fn27 ⟨⟨_, rfl, .inl ⟨rfl, rfl⟩⟩, trivial⟩ (.inl rfl)) ?_
  refine SOps.q rfl (.plain rfl) rfl (q_move rfl rfl) ?_
  refine SOps.q rfl (.plain rfl) rfl (q_call (chargenetref10_Sorted_ok F a1_b c_3 g4) [] rfl fn27 ⟨⟨_, rfl, .inl ⟨rfl, rfl⟩⟩, trivial⟩ (.inl rfl)) ?_
  refine SOps.q rfl (.plain rfl) rfl (q_assign rfl rfl) ?_
  refine SOps.q rfl (.plain rfl) rfl (q_assign rfl rfl) ?_
  refine SOps.sub (st' := ⟨[(5, .c (.vec c_1.length 1 (gL (cInt .i64) 0 c_1))), (6, .c (.vec c_3.length 1 (gL (cInt .i64) 0 c_3)))], []⟩) (sub_gen [] rfl rfl ⟨zc rfl rfl, zc rfl rfl, trivial⟩ trivial) ?_
  refine SOps.nil ?_
  refine SCode.join (σ := Unit) (S := fun s => ⟨[(5, .c (.vec c_1.length 1 (gL (cInt .i64) 0 c_1))), (6, .c (.vec c_3.length 1 (gL (cInt .i64) 0 c_3)))], []⟩) (g := fun s => chargenetref10_Compare_p7 c_1 c_3 = some r) ?_ ?_
  rotate_left
  · refine SCode.seq ?_
    refine SCode.region (show SOps _ _ _ [0] _ _ from ?_)
    refine SOps.q rfl (.plain rfl) rfl (q_assign rfl rfl) ?_
    refine SOps.sub (st' := ⟨[(5, .c (.vec c_1.length 1 (gL (cInt .i64) 0 c_1))), (6, .c (.vec c_3.length 1 (gL (cInt .i64) 0 c_3))), (7, .c (.int .i64 0))], []⟩) (sub_gen [] rfl rfl ⟨zc rfl rfl, zc rfl rfl, zc rfl rfl, trivial⟩ trivial) ?_
    refine SOps.nil ?_
    refine SCode.block ?_
    refine SCode.sub (st' := ⟨[(5, .c (.vec c_1.length 1 (gL (cInt .i64) 0 c_1))), (6, .c (.vec c_3.length 1 (gL (cInt .i64) 0 c_3))), (7, .c (.int .i64 0))], []⟩) (sub_gen [] rfl rfl ⟨zc rfl rfl, zc rfl rfl, zc rfl rfl, trivial⟩ trivial) ?_
    refine (SCode.loop (σ := Nat × Int) (S := fun s => ⟨[(5, .c (.vec c_1.length 1 (gL (cInt .i64) 0 c_1))), (6, .c (.vec c_3.length 1 (gL (cInt .i64) 0 c_3))), (7, .c (.int .i64 s.2))], []⟩) (g := fun s => chargenetref10_Compare_l25 c_1 c_3 s.1 s.2 = some r) (μ := fun s => s.1) (F, 0) h ?_)
    rintro ⟨n_25, i_16⟩ h
    replace h : chargenetref10_Compare_l25 c_1 c_3 n_25 i_16 = some r := h
    show SCode _ _ _ ⟨[(5, .c (.vec c_1.length 1 (gL (cInt .i64) 0 c_1))), (6, .c (.vec c_3.length 1 (gL (cInt .i64) 0 c_3))), (7, .c (.int .i64 i_16))], []⟩ _
    cases n_25 with
    | zero => cases h
    | succ n_25 =>
      replace h : chargenetref10_Compare_b25 c_1 c_3 (fun i_16 => chargenetref10_Compare_l25 c_1 c_3 n_25 i_16) i_16 = some r := h
      unfold chargenetref10_Compare_b25 at h
      refine SCode.seq ?_
      refine SCode.seq ?_
      rcases cond_out h with ⟨g26, h⟩ | ⟨g26, h⟩
      · refine SCode.region (show SOps _ _ _ [0, 1, 2, 3, 4, 5, 6, 7, 8, 9] _ _ from ?_)
        refine SOps.q rfl (.plain rfl) rfl (q_move rfl rfl) ?_
        refine SOps.q rfl (.plain rfl) rfl (q_move rfl rfl) ?_
        refine SOps.q rfl (.plain rfl) rfl (q_len_vec rfl rfl sl22) ?_
        refine SOps.q rfl (.plain rfl) rfl (q_lss rfl rfl rfl) ?_
        refine SOps.q rfl (.plain rfl) rfl (q_move rfl rfl) ?_
        refine SOps.q rfl (.guard 4 16 true rfl rfl (gT g26)) rfl (q_move rfl rfl) ?_
        refine SOps.q rfl (.guard 4 16 true rfl rfl (gT g26)) rfl (q_move rfl rfl) ?_
        refine SOps.q rfl (.guard 4 16 true rfl rfl (gT g26)) rfl (q_len_vec rfl rfl sl22) ?_
        refine SOps.q rfl (.guard 4 16 true rfl rfl (gT g26)) rfl (q_lss rfl rfl rfl) ?_
        refine SOps.q rfl (.plain rfl) rfl (q_pick_t rfl rfl g26 rfl) ?_
        refine SOps.sub (st' := ⟨[(5, .c (.vec c_1.length 1 (gL (cInt .i64) 0 c_1))), (6, .c (.vec c_3.length 1 (gL (cInt .i64) 0 c_3))), (7, .c (.int .i64 i_16)), (21, .c (.bool (decide (i_16 < ((c_3).length : Int)))))], []⟩) (sub_gen [] rfl rfl ⟨zc rfl rfl, zc rfl rfl, zc rfl rfl, zc rfl rfl, trivial⟩ trivial) ?_
        refine SOps.nil ?_
        rcases cond_out h with ⟨g27, h⟩ | ⟨g27, h⟩
        · refine SCode.cond_t rfl g27 ?_
          refine SCode.skip ?_
          refine SCode.seq ?_
          refine SCode.block ?_
          refine SCode.seq ?_
          refine SCode.seq ?_
          obtain ⟨g28, h⟩ := guard_out h
          obtain ⟨g29, h⟩ := guard_out h
          refine SCode.draw (s' := [(32, .c (.bool (decide (c_1.getD i_16.toNat 0 < c_3.getD i_16.toNat 0)))), (31, .c (.int .i64 (c_3.getD i_16.toNat 0))), (30, .c (.eptr 1 ((cInt .i64) (c_3.getD i_16.toNat 0)) 0)), (29, .c (.int .i64 i_16)), (28, .c (.vec c_3.length 1 (gL (cInt .i64) 0 c_3))), (27, .c (.int .i64 (c_1.getD i_16.toNat 0))), (26, .c (.eptr 1 ((cInt .i64) (c_1.getD i_16.toNat 0)) 0)), (25, .c (.int .i64 i_16)), (24, .c (.vec c_1.length 1 (gL (cInt .i64) 0 c_1))), (5, .c (.vec c_1.length 1 (gL (cInt .i64) 0 c_1))), (6, .c (.vec c_3.length 1 (gL (cInt .i64) 0 c_3))), (7, .c (.int .i64 i_16)), (21, .c (.bool (decide (i_16 < ((c_3).length : Int)))))]) mixed [[], [], [0, 1], [0, 1, 2], [], [], [4, 5], [4, 5, 6], [0, 1, 2, 3, 4, 5, 6, 7]] 9 0 rfl rfl ?_ ?_
          · refine QChain.run rfl (.plain rfl) rfl (q_move rfl rfl) ?_
            refine QChain.run rfl (.plain rfl) rfl (q_move rfl rfl) ?_
            refine QChain.run rfl (.plain rfl) rfl (q_index_vec rfl rfl rfl sl22 rfl g28.1 g28.2) ?_
            refine QChain.run rfl (.plain rfl) rfl (q_load_eptr rfl rfl ty3) ?_
            refine QChain.run rfl (.plain rfl) rfl (q_move rfl rfl) ?_
            refine QChain.run rfl (.plain rfl) rfl (q_move rfl rfl) ?_
            refine QChain.run rfl (.plain rfl) rfl (q_index_vec rfl rfl rfl sl22 rfl g29.1 g29.2) ?_
            refine QChain.run rfl (.plain rfl) rfl (q_load_eptr rfl rfl ty3) ?_
            refine QChain.run rfl (.plain rfl) rfl (q_lss rfl rfl rfl) ?_
            exact QChain.nil _ _
          refine (show SOps _ _ _ [] _ _ from ?_)
          refine SOps.sub (st' := ⟨[(5, .c (.vec c_1.length 1 (gL (cInt .i64) 0 c_1))), (6, .c (.vec c_3.length 1 (gL (cInt .i64) 0 c_3))), (7, .c (.int .i64 i_16)), (32, .c (.bool (decide (c_1.getD i_16.toNat 0 < c_3.getD i_16.toNat 0))))], []⟩) (sub_gen [] rfl rfl ⟨zc rfl rfl, zc rfl rfl, zc rfl rfl, zc rfl rfl, trivial⟩ trivial) ?_
          refine SOps.nil ?_
          rcases cond_out h with ⟨g30, h⟩ | ⟨g30, h⟩
          · refine SCode.cond_t rfl g30 ?_
            refine SCode.seq ?_
            refine SCode.region (show SOps _ _ _ [0] _ _ from ?_)
            refine SOps.q rfl (.plain rfl) rfl (q_assign rfl rfl) ?_
            refine SOps.sub (st' := ⟨[(4, .c (.int .i64 ((-1))))], []⟩) (sub_gen [] rfl rfl ⟨zc rfl rfl, trivial⟩ trivial) ?_
            refine SOps.nil ?_
            refine SCode.ret ?_
            obtain rfl := Option.some.inj h
            exact ⟨⟨[(4, .c (.int .i64 ((-1))))], []⟩, _, sub_gen [] rfl rfl ⟨zc rfl rfl, trivial⟩ trivial, resA1 (v := .c (.int .i64 ((-1)))) rfl rfl, rfl⟩
          refine SCode.cond_f rfl g30 ?_
          refine SCode.skip ?_
          refine SCode.seq ?_
          obtain ⟨g31, h⟩ := guard_out h
          obtain ⟨g32, h⟩ := guard_out h
          refine SCode.draw (s' := [(41, .c (.bool (decide (c_3.getD i_16.toNat 0 < c_1.getD i_16.toNat 0)))), (40, .c (.int .i64 (c_3.getD i_16.toNat 0))), (39, .c (.eptr 1 ((cInt .i64) (c_3.getD i_16.toNat 0)) 0)), (38, .c (.int .i64 i_16)), (37, .c (.vec c_3.length 1 (gL (cInt .i64) 0 c_3))), (36, .c (.int .i64 (c_1.getD i_16.toNat 0))), (35, .c (.eptr 1 ((cInt .i64) (c_1.getD i_16.toNat 0)) 0)), (34, .c (.int .i64 i_16)), (33, .c (.vec c_1.length 1 (gL (cInt .i64) 0 c_1))), (5, .c (.vec c_1.length 1 (gL (cInt .i64) 0 c_1))), (6, .c (.vec c_3.length 1 (gL (cInt .i64) 0 c_3))), (7, .c (.int .i64 i_16)), (32, .c (.bool (decide (c_1.getD i_16.toNat 0 < c_3.getD i_16.toNat 0))))]) mixed [[], [], [0, 1], [0, 1, 2], [], [], [4, 5], [4, 5, 6], [0, 1, 2, 3, 4, 5, 6, 7]] 9 0 rfl rfl ?_ ?_
          · refine QChain.run rfl (.plain rfl) rfl (q_move rfl rfl) ?_
            refine QChain.run rfl (.plain rfl) rfl (q_move rfl rfl) ?_
            refine QChain.run rfl (.plain rfl) rfl (q_index_vec rfl rfl rfl sl22 rfl g31.1 g31.2) ?_
            refine QChain.run rfl (.plain rfl) rfl (q_load_eptr rfl rfl ty3) ?_
            refine QChain.run rfl (.plain rfl) rfl (q_move rfl rfl) ?_
            refine QChain.run rfl (.plain rfl) rfl (q_move rfl rfl) ?_
            refine QChain.run rfl (.plain rfl) rfl (q_index_vec rfl rfl rfl sl22 rfl g32.1 g32.2) ?_
            refine QChain.run rfl (.plain rfl) rfl (q_load_eptr rfl rfl ty3) ?_
            refine QChain.run rfl (.plain rfl) rfl (q_gtr rfl rfl rfl) ?_
            exact QChain.nil _ _
          refine (show SOps _ _ _ [] _ _ from ?_)
          refine SOps.sub (st' := ⟨[(5, .c (.vec c_1.length 1 (gL (cInt .i64) 0 c_1))), (6, .c (.vec c_3.length 1 (gL (cInt .i64) 0 c_3))), (7, .c (.int .i64 i_16)), (41, .c (.bool (decide (c_3.getD i_16.toNat 0 < c_1.getD i_16.toNat 0))))], []⟩) (sub_gen [] rfl rfl ⟨zc rfl rfl, zc rfl rfl, zc rfl rfl, zc rfl rfl, trivial⟩ trivial) ?_
          refine SOps.nil ?_
          rcases cond_out h with ⟨g33, h⟩ | ⟨g33, h⟩
          · refine SCode.cond_t rfl g33 ?_
            refine SCode.seq ?_
            refine SCode.region (show SOps _ _ _ [0] _ _ from ?_)
            refine SOps.q rfl (.plain rfl) rfl (q_assign rfl rfl) ?_
            refine SOps.sub (st' := ⟨[(4, .c (.int .i64 1))], []⟩) (sub_gen [] rfl rfl ⟨zc rfl rfl, trivial⟩ trivial) ?_
            refine SOps.nil ?_
            refine SCode.ret ?_
            obtain rfl := Option.some.inj h
            exact ⟨⟨[(4, .c (.int .i64 1))], []⟩, _, sub_gen [] rfl rfl ⟨zc rfl rfl, trivial⟩ trivial, resA1 (v := .c (.int .i64 1)) rfl rfl, rfl⟩
          refine SCode.cond_f rfl g33 ?_
          refine SCode.skip ?_
          refine SCode.region (show SOps _ _ _ [0, 1, 2] _ _ from ?_)
          refine SOps.q rfl (.plain rfl) rfl (q_move rfl rfl) ?_
          refine SOps.q rfl (.plain rfl) rfl (q_add rfl rfl rfl) ?_
          refine SOps.q rfl (.plain rfl) rfl (q_assign rfl rfl) ?_
          refine SOps.sub (st' := ⟨[(5, .c (.vec c_1.length 1 (gL (cInt .i64) 0 c_1))), (6, .c (.vec c_3.length 1 (gL (cInt .i64) 0 c_3))), (7, .c (.int .i64 (IntKind.wrap .i64 (i_16 + 1))))], []⟩) (sub_gen [] rfl rfl ⟨zc rfl rfl, zc rfl rfl, zc rfl rfl, trivial⟩ trivial) ?_
          refine SOps.nil ?_
          exact ⟨(n_25, IntKind.wrap .i64 (i_16 + 1)), h, Nat.lt_succ_self n_25, sub_gen [] rfl rfl ⟨zc rfl rfl, zc rfl rfl, zc rfl rfl, trivial⟩ trivial⟩
        refine SCode.cond_f rfl g27 ?_
        refine SCode.exit ?_
        exact ⟨(), h, sub_gen [] rfl rfl ⟨zc rfl rfl, zc rfl rfl, trivial⟩ trivial⟩
      refine SCode.region (show SOps _ _ _ [0, 1, 2, 3, 4, 5, 6, 7, 8, 9] _ _ from ?_)
      refine SOps.q rfl (.plain rfl) rfl (q_move rfl rfl) ?_
      refine SOps.q rfl (.plain rfl) rfl (q_move rfl rfl) ?_
      refine SOps.q rfl (.plain rfl) rfl (q_len_vec rfl rfl sl22) ?_
      refine SOps.q rfl (.plain rfl) rfl (q_lss rfl rfl rfl) ?_
      refine SOps.q rfl (.plain rfl) rfl (q_move rfl rfl) ?_
      refine SOps.skip rfl 4 16 true rfl rfl (.inl (gF g26)) rfl ?_
      refine SOps.skip rfl 4 16 true rfl rfl (.inl (gF g26)) rfl ?_
      refine SOps.skip rfl 4 16 true rfl rfl (.inl (gF g26)) rfl ?_
      refine SOps.skip rfl 4 16 true rfl rfl (.inl (gF g26)) rfl ?_
      refine SOps.q rfl (.plain rfl) rfl (q_pick_f rfl rfl g26 rfl) ?_
      refine SOps.sub (st' := ⟨[(5, .c (.vec c_1.length 1 (gL (cInt .i64) 0 c_1))), (6, .c (.vec c_3.length 1 (gL (cInt .i64) 0 c_3))), (7, .c (.int .i64 i_16)), (21, .c (.bool false))], []⟩) (sub_gen [] rfl rfl ⟨zc rfl rfl, zc rfl rfl, zc rfl rfl, zc rfl rfl, trivial⟩ trivial) ?_
      refine SOps.nil ?_
      refine SCode.cond_f rfl rfl ?_
      refine SCode.exit ?_
      exact ⟨(), h, sub_gen [] rfl rfl ⟨zc rfl rfl, zc rfl rfl, trivial⟩ trivial⟩
  rintro ⟨⟩ h
  show SCode _ _ _ ⟨[(5, .c (.vec c_1.length 1 (gL (cInt .i64) 0 c_1))), (6, .c (.vec c_3.length 1 (gL (cInt .i64) 0 c_3)))], []⟩ _
  replace h : chargenetref10_Compare_p7 c_1 c_3 = some r := h
  unfold chargenetref10_Compare_p7 at h
  refine SCode.seq ?_
  refine SCode.seq ?_
  refine SCode.region (show SOps _ _ _ [0, 1, 2, 3, 4] _ _ from ?_)
  refine SOps.q rfl (.plain rfl) rfl (q_move rfl rfl) ?_
  refine SOps.q rfl (.plain rfl) rfl (q_len_vec rfl rfl sl22) ?_
  refine SOps.q rfl (.plain rfl) rfl (q_move rfl rfl) ?_
  refine SOps.q rfl (.plain rfl) rfl (q_len_vec rfl rfl sl22) ?_
  refine SOps.q rfl (.plain rfl) rfl (q_lss rfl rfl rfl) ?_
  refine SOps.sub (st' := ⟨[(5, .c (.vec c_1.length 1 (gL (cInt .i64) 0 c_1))), (6, .c (.vec c_3.length 1 (gL (cInt .i64) 0 c_3))), (46, .c (.bool (decide (((c_1).length : Int) < ((c_3).length : Int)))))], []⟩) (sub_gen [] rfl rfl ⟨zc rfl rfl, zc rfl rfl, zc rfl rfl, trivial⟩ trivial) ?_
  refine SOps.nil ?_
  rcases cond_out h with ⟨g5, h⟩ | ⟨g5, h⟩
  · refine SCode.cond_t rfl g5 ?_
    refine SCode.seq ?_
    refine SCode.region (show SOps _ _ _ [0] _ _ from ?_)
    refine SOps.q rfl (.plain rfl) rfl (q_assign rfl rfl) ?_
    refine SOps.sub (st' := ⟨[(4, .c (.int .i64 ((-1))))], []⟩) (sub_gen [] rfl rfl ⟨zc rfl rfl, trivial⟩ trivial) ?_
    refine SOps.nil ?_
    refine SCode.ret ?_
    obtain rfl := Option.some.inj h
    exact ⟨⟨[(4, .c (.int .i64 ((-1))))], []⟩, _, sub_gen [] rfl rfl ⟨zc rfl rfl, trivial⟩ trivial, resA1 (v := .c (.int .i64 ((-1)))) rfl rfl, rfl⟩
  refine SCode.cond_f rfl g5 ?_
  refine SCode.skip ?_
  refine SCode.seq ?_
  refine SCode.seq ?_
  refine SCode.region (show SOps _ _ _ [0, 1, 2, 3, 4] _ _ from ?_)
  refine SOps.q rfl (.plain rfl) rfl (q_move rfl rfl) ?_
  refine SOps.q rfl (.plain rfl) rfl (q_len_vec rfl rfl sl22) ?_
  refine SOps.q rfl (.plain rfl) rfl (q_move rfl rfl) ?_
  refine SOps.q rfl (.plain rfl) rfl (q_len_vec rfl rfl sl22) ?_
  refine SOps.q rfl (.plain rfl) rfl (q_gtr rfl rfl rfl) ?_
  refine SOps.sub (st' := ⟨[(51, .c (.bool (decide (((c_3).length : Int) < ((c_1).length : Int)))))], []⟩) (sub_gen [] rfl rfl ⟨zc rfl rfl, trivial⟩ trivial) ?_
  refine SOps.nil ?_
  rcases cond_out h with ⟨g6, h⟩ | ⟨g6, h⟩
  · refine SCode.cond_t rfl g6 ?_
    refine SCode.seq ?_
    refine SCode.region (show SOps _ _ _ [0] _ _ from ?_)
    refine SOps.q rfl (.plain rfl) rfl (q_assign rfl rfl) ?_
    refine SOps.sub (st' := ⟨[(4, .c (.int .i64 1))], []⟩) (sub_gen [] rfl rfl ⟨zc rfl rfl, trivial⟩ trivial) ?_
    refine SOps.nil ?_
    refine SCode.ret ?_
    obtain rfl := Option.some.inj h
    exact ⟨⟨[(4, .c (.int .i64 1))], []⟩, _, sub_gen [] rfl rfl ⟨zc rfl rfl, trivial⟩ trivial, resA1 (v := .c (.int .i64 1)) rfl rfl, rfl⟩
  refine SCode.cond_f rfl g6 ?_
  refine SCode.skip ?_
  refine SCode.seq ?_
  refine SCode.region (show SOps _ _ _ [0] _ _ from ?_)
  refine SOps.q rfl (.plain rfl) rfl (q_assign rfl rfl) ?_
  refine SOps.sub (st' := ⟨[(4, .c (.int .i64 0))], []⟩) (sub_gen [] rfl rfl ⟨zc rfl rfl, trivial⟩ trivial) ?_
  refine SOps.nil ?_
  refine SCode.ret ?_
  obtain rfl := Option.some.inj h
  exact ⟨⟨[(4, .c (.int .i64 0))], []⟩, _, sub_gen [] rfl rfl ⟨zc rfl rfl, trivial⟩ trivial, resA1 (v := .c (.int .i64 0)) rfl rfl, rfl⟩
set_option maxRecDepth 100000 in
set_option maxHeartbeats 8000000 in
theorem chargenetlaw10_FairCompare_ok (F : Nat) (a0_a : List Int) (a1_b : List Int) (r : Bool) (h : chargenetlaw10_FairCompare F a0_a a1_b = some r) :
    SFun Try.prog 4 [] [.c (.vec a0_a.length 1 (gL (cInt .i64) 0 a0_a)), .c (.vec a1_b.length 1 (gL (cInt .i64) 0 a1_b))] (fun x _ => x = .c (.bool r)) := by
  refine SFun.of (n := 34) Try.func4 rfl rfl rfl ?_
  unfold chargenetlaw10_FairCompare at h
  show SCode _ _ _ ⟨[(0, .c (.vec a0_a.length 1 (gL (cInt .i64) 0 a0_a))), (1, .c (.vec a1_b.length 1 (gL (cInt .i64) 0 a1_b)))], []⟩ _
  refine SCode.seq ?_
  refine SCode.region (show SOps _ _ _ [0] _ _ from ?_)
  refine SOps.q rfl (.plain rfl) rfl (q_assign rfl rfl) ?_
  refine SOps.sub (st' := ⟨[(0, .c (.vec a0_a.length 1 (gL (cInt .i64) 0 a0_a))), (1, .c (.vec a1_b.length 1 (gL (cInt .i64) 0 a1_b)))], []⟩) (sub_gen [] rfl rfl ⟨zc rfl rfl, zc rfl rfl, trivial⟩ trivial) ?_
  refine SOps.nil ?_
  refine SCode.seq ?_
  refine SCode.seq ?_
  rcases cond_out h with ⟨g1, h⟩ | ⟨g1, h⟩
  · refine SCode.region (show SOps _ _ _ [0, 1, 2, 3, 4, 5, 6, 7] _ _ from ?_)
    refine SOps.q rfl (.plain rfl) rfl (q_move rfl rfl) ?_
    refine SOps.q rfl (.plain rfl) rfl (q_len_vec rfl rfl sl22) ?_
    refine SOps.q rfl (.plain rfl) rfl (q_gtr rfl rfl rfl) ?_
    refine SOps.q rfl (.plain rfl) rfl (q_move rfl rfl) ?_
    refine SOps.skip rfl 3 9 false rfl rfl (.inl (gT g1)) rfl ?_
    refine SOps.skip rfl 3 9 false rfl rfl (.inl (gT g1)) rfl ?_
    refine SOps.skip rfl 3 9 false rfl rfl (.inl (gT g1)) rfl ?_
    refine SOps.q rfl (.plain rfl) rfl (q_pick_t rfl rfl g1 rfl) ?_
    refine SOps.sub (st' := ⟨[(0, .c (.vec a0_a.length 1 (gL (cInt .i64) 0 a0_a))), (1, .c (.vec a1_b.length 1 (gL (cInt .i64) 0 a1_b))), (13, .c (.bool true))], []⟩) (sub_gen [] rfl rfl ⟨zc rfl rfl, zc rfl rfl, zc rfl rfl, trivial⟩ trivial) ?_
    refine SOps.nil ?_
    refine SCode.cond_t rfl rfl ?_
    refine SCode.seq ?_
    obtain ⟨c_2, g3, h⟩ := bind_out h
    try dsimp only at h
    refine SCode.region (show SOps _ _ _ [0, 1] _ _ from ?_)
    refine SOps.q rfl (.plain rfl) rfl (q_call (chargenetlaw10_exampleHolds_ok F  c_2 g3) [] rfl fn9 trivial (.inl rfl)) ?_
    refine SOps.q rfl (.plain rfl) rfl (q_assign rfl rfl) ?_
    refine SOps.sub (st' := ⟨[(4, .c (.bool c_2))], []⟩) (sub_gen [] rfl rfl ⟨zc rfl rfl, trivial⟩ trivial) ?_
    refine SOps.nil ?_
    refine SCode.ret ?_
    obtain rfl := Option.some.inj h
    exact ⟨⟨[(4, .c (.bool c_2))], []⟩, _, sub_gen [] rfl rfl ⟨zc rfl rfl, trivial⟩ trivial, resA1 (v := .c (.bool c_2)) rfl rfl, rfl⟩
  refine SCode.region (show SOps _ _ _ [0, 1, 2, 3, 4, 5, 6, 7] _ _ from ?_)
  refine SOps.q rfl (.plain rfl) rfl (q_move rfl rfl) ?_
  refine SOps.q rfl (.plain rfl) rfl (q_len_vec rfl rfl sl22) ?_
  refine SOps.q rfl (.plain rfl) rfl (q_gtr rfl rfl rfl) ?_
  refine SOps.q rfl (.plain rfl) rfl (q_move rfl rfl) ?_
  refine SOps.q rfl (.guard 3 9 false rfl rfl (gF g1)) rfl (q_move rfl rfl) ?_
  refine SOps.q rfl (.guard 3 9 false rfl rfl (gF g1)) rfl (q_len_vec rfl rfl sl22) ?_
  refine SOps.q rfl (.guard 3 9 false rfl rfl (gF g1)) rfl (q_gtr rfl rfl rfl) ?_
  refine SOps.q rfl (.plain rfl) rfl (q_pick_f rfl rfl g1 rfl) ?_
  refine SOps.sub (st' := ⟨[(0, .c (.vec a0_a.length 1 (gL (cInt .i64) 0 a0_a))), (1, .c (.vec a1_b.length 1 (gL (cInt .i64) 0 a1_b))), (13, .c (.bool (decide (200 < ((a1_b).length : Int)))))], []⟩) (sub_gen [] rfl rfl ⟨zc rfl rfl, zc rfl rfl, zc rfl rfl, trivial⟩ trivial) ?_
  refine SOps.nil ?_
  rcases cond_out h with ⟨g4, h⟩ | ⟨g4, h⟩
  · refine SCode.cond_t rfl g4 ?_
    refine SCode.seq ?_
    obtain ⟨c_5, g6, h⟩ := bind_out h
    try dsimp only at h
    refine SCode.region (show SOps _ _ _ [0, 1] _ _ from ?_)
    refine SOps.q rfl (.plain rfl) rfl (q_call (chargenetlaw10_exampleHolds_ok F  c_5 g6) [] rfl fn9 trivial (.inl rfl)) ?_
    refine SOps.q rfl (.plain rfl) rfl (q_assign rfl rfl) ?_
    refine SOps.sub (st' := ⟨[(4, .c (.bool c_5))], []⟩) (sub_gen [] rfl rfl ⟨zc rfl rfl, trivial⟩ trivial) ?_
    refine SOps.nil ?_
    refine SCode.ret ?_
    obtain rfl := Option.some.inj h
    exact ⟨⟨[(4, .c (.bool c_5))], []⟩, _, sub_gen [] rfl rfl ⟨zc rfl rfl, trivial⟩ trivial, resA1 (v := .c (.bool c_5)) rfl rfl, rfl⟩
  refine SCode.cond_f rfl g4 ?_
  refine SCode.skip ?_
  refine SCode.seq ?_
  obtain ⟨c_7, g8, h⟩ := bind_out h
  try dsimp only at h
  refine SCode.region (show SOps _ _ _ [0, 1, 2, 3] _ _ from ?_)
  refine SOps.q rfl (.plain rfl) rfl (q_move rfl rfl) ?_
  refine SOps.q rfl (.plain rfl) rfl (q_move rfl rfl) ?_
  refine SOps.q rfl (.plain rfl) rfl (q_call (chargenetref10_Compare_ok F a0_a a1_b c_7 g8) [] rfl fn13 ⟨⟨_, rfl, .inl ⟨rfl, rfl⟩⟩, ⟨_, rfl, .inl ⟨rfl, rfl⟩⟩, trivial⟩ (.inl rfl)) ?_
  refine SOps.q rfl (.plain rfl) rfl (q_assign rfl rfl) ?_
  refine SOps.sub (st' := ⟨[(0, .c (.vec a0_a.length 1 (gL (cInt .i64) 0 a0_a))), (1, .c (.vec a1_b.length 1 (gL (cInt .i64) 0 a1_b))), (5, .c (.int .i64 c_7))], []⟩) (sub_gen [] rfl rfl ⟨zc rfl rfl, zc rfl rfl, zc rfl rfl, trivial⟩ trivial) ?_
  refine SOps.nil ?_
  refine SCode.seq ?_
  obtain ⟨c_9, g10, h⟩ := bind_out h
  try dsimp only at h
  rcases cond_out h with ⟨g11, h⟩ | ⟨g11, h⟩
  · obtain ⟨c_12, g13, h⟩ := bind_out h
    try dsimp only at h
    rcases cond_out h with ⟨g14, h⟩ | ⟨g14, h⟩
    · obtain ⟨c_15, g16, h⟩ := bind_out h
      try dsimp only at h
      refine SCode.region (show SOps _ _ _ [0, 1, 2, 3, 4, 5, 6, 7, 8, 9, 10, 11, 12, 13, 14, 15, 16] _ _ from ?_)
      refine SOps.q rfl (.plain rfl) rfl (q_move rfl rfl) ?_
      refine SOps.q rfl (.plain rfl) rfl (q_move rfl rfl) ?_
      refine SOps.q rfl (.plain rfl) rfl (q_call (fair_Compare_ok F a0_a a1_b c_9 g10) [] rfl fn14 ⟨⟨_, rfl, .inl ⟨rfl, rfl⟩⟩, ⟨_, rfl, .inl ⟨rfl, rfl⟩⟩, trivial⟩ (.inl rfl)) ?_
      refine SOps.q rfl (.plain rfl) rfl (q_move rfl rfl) ?_
      refine SOps.q rfl (.plain rfl) rfl (q_eql rfl rfl rfl) ?_
      refine SOps.q rfl (.plain rfl) rfl (q_move rfl rfl) ?_
      refine SOps.q rfl (.guard 5 23 true rfl rfl (gT g11)) rfl (q_move rfl rfl) ?_
      refine SOps.q rfl (.guard 5 23 true rfl rfl (gT g11)) rfl (q_move rfl rfl) ?_
      refine SOps.q rfl (.guard 5 23 true rfl rfl (gT g11)) rfl (q_call (fair_Compare_ok F a1_b a0_a c_12 g13) [] rfl fn14 ⟨⟨_, rfl, .inl ⟨rfl, rfl⟩⟩, ⟨_, rfl, .inl ⟨rfl, rfl⟩⟩, trivial⟩ (.inl rfl)) ?_
      refine SOps.q rfl (.guard 5 23 true rfl rfl (gT g11)) rfl (q_move rfl rfl) ?_
      refine SOps.q rfl (.guard 5 23 true rfl rfl (gT g11)) rfl (q_neg rfl rfl) ?_
      refine SOps.q rfl (.guard 5 23 true rfl rfl (gT g11)) rfl (q_eql rfl rfl rfl) ?_
      refine SOps.q rfl (.plain rfl) rfl (q_pick_t rfl rfl g11 rfl) ?_
      refine SOps.q rfl (.plain rfl) rfl (q_move rfl rfl) ?_
      refine SOps.q rfl (.guard 13 31 true rfl rfl (gT g14)) rfl (q_call (chargenetlaw10_exampleHolds_ok F  c_15 g16) [] rfl fn9 trivial (.inl rfl)) ?_
      refine SOps.q rfl (.plain rfl) rfl (q_pick_t rfl rfl g14 rfl) ?_
      refine SOps.q rfl (.plain rfl) rfl (q_assign rfl rfl) ?_
      refine SOps.sub (st' := ⟨[(4, .c (.bool c_15))], []⟩) (sub_gen [] rfl rfl ⟨zc rfl rfl, trivial⟩ trivial) ?_
      refine SOps.nil ?_
      refine SCode.ret ?_
      obtain rfl := Option.some.inj h
      exact ⟨⟨[(4, .c (.bool c_15))], []⟩, _, sub_gen [] rfl rfl ⟨zc rfl rfl, trivial⟩ trivial, resA1 (v := .c (.bool c_15)) rfl rfl, rfl⟩
    refine SCode.region (show SOps _ _ _ [0, 1, 2, 3, 4, 5, 6, 7, 8, 9, 10, 11, 12, 13, 14, 15, 16] _ _ from ?_)
    refine SOps.q rfl (.plain rfl) rfl (q_move rfl rfl) ?_
    refine SOps.q rfl (.plain rfl) rfl (q_move rfl rfl) ?_
    refine SOps.q rfl (.plain rfl) rfl (q_call (fair_Compare_ok F a0_a a1_b c_9 g10) [] rfl fn14 ⟨⟨_, rfl, .inl ⟨rfl, rfl⟩⟩, ⟨_, rfl, .inl ⟨rfl, rfl⟩⟩, trivial⟩ (.inl rfl)) ?_
    refine SOps.q rfl (.plain rfl) rfl (q_move rfl rfl) ?_
    refine SOps.q rfl (.plain rfl) rfl (q_eql rfl rfl rfl) ?_
    refine SOps.q rfl (.plain rfl) rfl (q_move rfl rfl) ?_
    refine SOps.q rfl (.guard 5 23 true rfl rfl (gT g11)) rfl (q_move rfl rfl) ?_
    refine SOps.q rfl (.guard 5 23 true rfl rfl (gT g11)) rfl (q_move rfl rfl) ?_
    refine SOps.q rfl (.guard 5 23 true rfl rfl (gT g11)) rfl (q_call (fair_Compare_ok F a1_b a0_a c_12 g13) [] rfl fn14 ⟨⟨_, rfl, .inl ⟨rfl, rfl⟩⟩, ⟨_, rfl, .inl ⟨rfl, rfl⟩⟩, trivial⟩ (.inl rfl)) ?_
    refine SOps.q rfl (.guard 5 23 true rfl rfl (gT g11)) rfl (q_move rfl rfl) ?_
    refine SOps.q rfl (.guard 5 23 true rfl rfl (gT g11)) rfl (q_neg rfl rfl) ?_
    refine SOps.q rfl (.guard 5 23 true rfl rfl (gT g11)) rfl (q_eql rfl rfl rfl) ?_
    refine SOps.q rfl (.plain rfl) rfl (q_pick_t rfl rfl g11 rfl) ?_
    refine SOps.q rfl (.plain rfl) rfl (q_move rfl rfl) ?_
    refine SOps.skip rfl 13 31 true rfl rfl (.inl (gF g14)) rfl ?_
    refine SOps.q rfl (.plain rfl) rfl (q_pick_f rfl rfl g14 rfl) ?_
    refine SOps.q rfl (.plain rfl) rfl (q_assign rfl rfl) ?_
    refine SOps.sub (st' := ⟨[(4, .c (.bool false))], []⟩) (sub_gen [] rfl rfl ⟨zc rfl rfl, trivial⟩ trivial) ?_
    refine SOps.nil ?_
    refine SCode.ret ?_
    obtain rfl := Option.some.inj h
    exact ⟨⟨[(4, .c (.bool false))], []⟩, _, sub_gen [] rfl rfl ⟨zc rfl rfl, trivial⟩ trivial, resA1 (v := .c (.bool false)) rfl rfl, rfl⟩
  refine SCode.region (show SOps _ _ _ [0, 1, 2, 3, 4, 5, 6, 7, 8, 9, 10, 11, 12, 13, 14, 15, 16] _ _ from ?_)
  refine SOps.q rfl (.plain rfl) rfl (q_move rfl rfl) ?_
  refine SOps.q rfl (.plain rfl) rfl (q_move rfl rfl) ?_
  refine SOps.q rfl (.plain rfl) rfl (q_call (fair_Compare_ok F a0_a a1_b c_9 g10) [] rfl fn14 ⟨⟨_, rfl, .inl ⟨rfl, rfl⟩⟩, ⟨_, rfl, .inl ⟨rfl, rfl⟩⟩, trivial⟩ (.inl rfl)) ?_
  refine SOps.q rfl (.plain rfl) rfl (q_move rfl rfl) ?_
  refine SOps.q rfl (.plain rfl) rfl (q_eql rfl rfl rfl) ?_
  refine SOps.q rfl (.plain rfl) rfl (q_move rfl rfl) ?_
  refine SOps.skip rfl 5 23 true rfl rfl (.inl (gF g11)) rfl ?_
  refine SOps.skip rfl 5 23 true rfl rfl (.inl (gF g11)) rfl ?_
  refine SOps.skip rfl 5 23 true rfl rfl (.inl (gF g11)) rfl ?_
  refine SOps.skip rfl 5 23 true rfl rfl (.inl (gF g11)) rfl ?_
  refine SOps.skip rfl 5 23 true rfl rfl (.inl (gF g11)) rfl ?_
  refine SOps.skip rfl 5 23 true rfl rfl (.inl (gF g11)) rfl ?_
  refine SOps.q rfl (.plain rfl) rfl (q_pick_f rfl rfl g11 rfl) ?_
  refine SOps.q rfl (.plain rfl) rfl (q_move rfl rfl) ?_
  refine SOps.skip rfl 13 31 true rfl rfl (.inl rfl) rfl ?_
  refine SOps.q rfl (.plain rfl) rfl (q_pick_f rfl rfl rfl rfl) ?_
  refine SOps.q rfl (.plain rfl) rfl (q_assign rfl rfl) ?_
  refine SOps.sub (st' := ⟨[(4, .c (.bool false))], []⟩) (sub_gen [] rfl rfl ⟨zc rfl rfl, trivial⟩ trivial) ?_
  refine SOps.nil ?_
  refine SCode.ret ?_
  obtain rfl := Option.some.inj h
  exact ⟨⟨[(4, .c (.bool false))], []⟩, _, sub_gen [] rfl rfl ⟨zc rfl rfl, trivial⟩ trivial, resA1 (v := .c (.bool false)) rfl rfl, rfl⟩
end Go.Proofs.Ythpblkclpfmbeaa.W
