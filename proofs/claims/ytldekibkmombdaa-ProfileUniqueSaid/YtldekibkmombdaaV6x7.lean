/- Written by a program of ours (wip/eng/gen.py): the functions compute their models. -/
import Derived.Test.YtldekibkmombdaaFacts
import Derived.Test.YtldekibkmombdaaV6x6
namespace Go.Proofs.Ytldekibkmombdaa.W
open Go Go.Proofs Go.Proofs.Ytldekibkmombdaa.E Go.Proofs.Ytldekibkmombdaa.M
set_option linter.unusedVariables false
set_option maxRecDepth 100000 in
set_option maxHeartbeats 8000000 in
theorem chargenetlaw15_ProfileUnique_ok (F : Nat) (a0_l : List SProfile) (r : Bool) (h : chargenetlaw15_ProfileUnique F a0_l = some r) :
    SFun Try.prog 6 [] [.c (.vec a0_l.length 11 (gL cSProfile dSProfile a0_l))] (fun x _ => x = .c (.bool r)) := by
  refine SFun.of (n := 120) Try.func6 rfl rfl rfl ?_
  unfold chargenetlaw15_ProfileUnique at h
  show SCode _ _ _ ⟨[(0, .c (.vec a0_l.length 11 (gL cSProfile dSProfile a0_l)))], []⟩ _
  refine SCode.seq ?_
  refine SCode.region (show SOps _ _ _ [0] _ _ from ?_)
  refine SOps.q rfl (.plain rfl) rfl (q_assign rfl rfl) ?_
  refine SOps.sub (st' := ⟨[(0, .c (.vec a0_l.length 11 (gL cSProfile dSProfile a0_l)))], []⟩) (sub_gen [] rfl rfl ⟨zc rfl rfl, trivial⟩ trivial) ?_
  refine SOps.nil ?_
  refine SCode.seq ?_
  refine SCode.seq ?_
  obtain ⟨c_1, g2, h⟩ := bind_out h
  try dsimp only at h
  refine SCode.region (show SOps _ _ _ [0, 1, 2] _ _ from ?_)
  refine SOps.q rfl (.plain rfl) rfl (q_move rfl rfl) ?_
  refine SOps.q rfl (.plain rfl) rfl (q_call (chargenetlaw15_few_ok F a0_l c_1 g2) [] rfl fn14 ⟨⟨_, rfl, .inl ⟨rfl, rfl⟩⟩, trivial⟩ (.inl rfl)) ?_
  refine SOps.q rfl (.plain rfl) rfl (q_not rfl rfl) ?_
  refine SOps.sub (st' := ⟨[(0, .c (.vec a0_l.length 11 (gL cSProfile dSProfile a0_l))), (13, .c (.bool ((!c_1))))], []⟩) (sub_gen [] rfl rfl ⟨zc rfl rfl, zc rfl rfl, trivial⟩ trivial) ?_
  refine SOps.nil ?_
  rcases cond_out h with ⟨g3, h⟩ | ⟨g3, h⟩
  · refine SCode.cond_t rfl g3 ?_
    refine SCode.seq ?_
    obtain ⟨c_4, g5, h⟩ := bind_out h
    try dsimp only at h
    refine SCode.region (show SOps _ _ _ [0, 1] _ _ from ?_)
    refine SOps.q rfl (.plain rfl) rfl (q_call (chargenetlaw15_awake_ok F  c_4 g5) [] rfl fn11 trivial (.inl rfl)) ?_
    refine SOps.q rfl (.plain rfl) rfl (q_assign rfl rfl) ?_
    refine SOps.sub (st' := ⟨[(2, .c (.bool c_4))], []⟩) (sub_gen [] rfl rfl ⟨zc rfl rfl, trivial⟩ trivial) ?_
    refine SOps.nil ?_
    refine SCode.ret ?_
    obtain rfl := Option.some.inj h
    exact ⟨⟨[(2, .c (.bool c_4))], []⟩, _, sub_gen [] rfl rfl ⟨zc rfl rfl, trivial⟩ trivial, resA1 (v := .c (.bool c_4)) rfl rfl, rfl⟩
  refine SCode.cond_f rfl g3 ?_
  refine SCode.skip ?_
  refine SCode.seq ?_
  refine SCode.region (show SOps _ _ _ [0] _ _ from ?_)
  refine SOps.q rfl (.plain rfl) rfl (q_assign rfl rfl) ?_
  refine SOps.sub (st' := ⟨[(0, .c (.vec a0_l.length 11 (gL cSProfile dSProfile a0_l))), (3, .c (.raw (.slice none 0 0)))], []⟩) (sub_gen [] rfl rfl ⟨zc rfl rfl, zc rfl rfl, trivial⟩ trivial) ?_
  refine SOps.nil ?_
  refine SCode.join (σ := (List SProfile)) (S := fun s => ⟨[(3, .c (.vec s.length 11 (gL cSProfile dSProfile s)))], []⟩) (g := fun s => chargenetlaw15_ProfileUnique_p105 F s = some r) ?_ ?_
  rotate_left
  · refine SCode.seq ?_
    refine SCode.region (show SOps _ _ _ [0] _ _ from ?_)
    refine SOps.q rfl (.plain rfl) rfl (q_assign rfl rfl) ?_
    refine SOps.sub (st' := ⟨[(0, .c (.vec a0_l.length 11 (gL cSProfile dSProfile a0_l))), (3, .c (.raw (.slice none 0 0))), (4, .c (.int .i64 0))], []⟩) (sub_gen [] rfl rfl ⟨zc rfl rfl, zc rfl rfl, zc rfl rfl, trivial⟩ trivial) ?_
    refine SOps.nil ?_
    refine SCode.block ?_
    refine SCode.sub (st' := ⟨[(0, .c (.vec a0_l.length 11 (gL cSProfile dSProfile a0_l))), (3, .c (.vec ([] : List SProfile).length 11 (gL cSProfile dSProfile ([] : List SProfile)))), (4, .c (.int .i64 0))], []⟩) (sub_gen [] rfl rfl ⟨zc rfl rfl, ⟨_, rfl, .inr (.inr (.inr (.inl ⟨_, _, rfl, rfl⟩)))⟩, zc rfl rfl, trivial⟩ trivial) ?_
    refine (SCode.loop (σ := Nat × ((List SProfile) × Int)) (S := fun s => ⟨[(0, .c (.vec a0_l.length 11 (gL cSProfile dSProfile a0_l))), (3, .c (.vec s.2.1.length 11 (gL cSProfile dSProfile s.2.1))), (4, .c (.int .i64 s.2.2))], []⟩) (g := fun s => chargenetlaw15_ProfileUnique_l158 F a0_l s.1 s.2.1 s.2.2 = some r) (μ := fun s => s.1) (F, ([], 0)) h ?_)
    rintro ⟨n_158, ⟨m_131, i_132⟩⟩ h
    replace h : chargenetlaw15_ProfileUnique_l158 F a0_l n_158 m_131 i_132 = some r := h
    show SCode _ _ _ ⟨[(0, .c (.vec a0_l.length 11 (gL cSProfile dSProfile a0_l))), (3, .c (.vec m_131.length 11 (gL cSProfile dSProfile m_131))), (4, .c (.int .i64 i_132))], []⟩ _
    cases n_158 with
    | zero => cases h
    | succ n_158 =>
      replace h : chargenetlaw15_ProfileUnique_b158 F a0_l (fun m_131 i_132 => chargenetlaw15_ProfileUnique_l158 F a0_l n_158 m_131 i_132) m_131 i_132 = some r := h
      unfold chargenetlaw15_ProfileUnique_b158 at h
      refine SCode.seq ?_
      refine SCode.seq ?_
      refine SCode.region (show SOps _ _ _ [0, 1, 2, 3] _ _ from ?_)
      refine SOps.q rfl (.plain rfl) rfl (q_move rfl rfl) ?_
      refine SOps.q rfl (.plain rfl) rfl (q_move rfl rfl) ?_
      refine SOps.q rfl (.plain rfl) rfl (q_len_vec rfl rfl sl31) ?_
      refine SOps.q rfl (.plain rfl) rfl (q_lss rfl rfl rfl) ?_
      refine SOps.sub (st' := ⟨[(0, .c (.vec a0_l.length 11 (gL cSProfile dSProfile a0_l))), (3, .c (.vec m_131.length 11 (gL cSProfile dSProfile m_131))), (4, .c (.int .i64 i_132)), (18, .c (.bool (decide (i_132 < ((a0_l).length : Int)))))], []⟩) (sub_gen [] rfl rfl ⟨zc rfl rfl, zc rfl rfl, zc rfl rfl, zc rfl rfl, trivial⟩ trivial) ?_
      refine SOps.nil ?_
      rcases cond_out h with ⟨g159, h⟩ | ⟨g159, h⟩
      · refine SCode.cond_t rfl g159 ?_
        refine SCode.skip ?_
        refine SCode.seq ?_
        refine SCode.block ?_
        refine SCode.seq ?_
        obtain ⟨g160, h⟩ := guard_out h
        obtain ⟨c_161, g162, h⟩ := bind_out h
        try dsimp only at h
        refine SCode.region (show SOps _ _ _ [0, 1, 2, 3, 4, 5, 6, 7, 8, 9, 10] _ _ from ?_)
        refine SOps.q rfl (.plain rfl) rfl (q_move rfl rfl) ?_
        refine SOps.q rfl (.plain rfl) rfl (q_move rfl rfl) ?_
        refine SOps.q rfl (.plain rfl) rfl (q_move rfl rfl) ?_
        refine SOps.q rfl (.plain rfl) rfl (q_index_vec rfl rfl rfl sl31 rfl g160.1 g160.2) ?_
        refine SOps.q rfl (.plain rfl) rfl (q_load_eptr_all rfl rfl rfl ty26) ?_
        refine SOps.q rfl (.plain rfl) rfl (q_call (profile_Put_ok F m_131 (a0_l.getD i_132.toNat dSProfile) c_161 g162) [] rfl fn15 ⟨⟨_, rfl, .inl ⟨rfl, rfl⟩⟩, ⟨rfl, rfl⟩, trivial⟩ (.inl rfl)) ?_
        refine SOps.q rfl (.plain rfl) rfl (q_move rfl rfl) ?_
        refine SOps.q rfl (.plain rfl) rfl (q_extract rfl rfl rfl) ?_
        refine SOps.q rfl (.plain rfl) rfl (q_extract rfl rfl rfl) ?_
        refine SOps.q rfl (.plain rfl) rfl (q_assign rfl rfl) ?_
        refine SOps.q rfl (.plain rfl) rfl (q_assign rfl rfl) ?_
        refine SOps.sub (st' := ⟨[(0, .c (.vec a0_l.length 11 (gL cSProfile dSProfile a0_l))), (3, .c (.vec m_131.length 11 (gL cSProfile dSProfile m_131))), (4, .c (.int .i64 i_132)), (5, .c (.vec c_161.1.length 11 (gL cSProfile dSProfile c_161.1))), (6, .c (.int .i64 c_161.2))], []⟩) (sub_gen [] rfl rfl ⟨zc rfl rfl, zc rfl rfl, zc rfl rfl, zc rfl rfl, zc rfl rfl, trivial⟩ trivial) ?_
        refine SOps.nil ?_
        refine SCode.join (σ := Unit) (S := fun s => ⟨[(0, .c (.vec a0_l.length 11 (gL cSProfile dSProfile a0_l))), (4, .c (.int .i64 i_132)), (5, .c (.vec c_161.1.length 11 (gL cSProfile dSProfile c_161.1)))], []⟩) (g := fun s => chargenetlaw15_ProfileUnique_p163 i_132 (fun m_131 i_132 => chargenetlaw15_ProfileUnique_l158 F a0_l n_158 m_131 i_132) c_161 = some r) ?_ ?_
        rotate_left
        · refine SCode.seq ?_
          rcases cond_out h with ⟨g164, h⟩ | ⟨g164, h⟩
          · obtain ⟨c_165, g166, h⟩ := bind_out h
            try dsimp only at h
            rcases cond_out h with ⟨g167, h⟩ | ⟨g167, h⟩
            · refine SCode.draw (s' := [(65, .c (.bool true)), (64, .c (.raw (.tuple #[]))), (63, .c (.raw (.tuple #[]))), (62, .c (.raw (.tuple #[]))), (61, .c (.raw (.tuple #[]))), (60, .c (.raw (.tuple #[]))), (59, .c (.raw (.tuple #[]))), (58, .c (.raw (.tuple #[]))), (57, .c (.raw (.tuple #[]))), (56, .c (.raw (.tuple #[]))), (55, .c (.raw (.tuple #[]))), (54, .c (.raw (.tuple #[]))), (53, .c (.raw (.tuple #[]))), (52, .c (.raw (.tuple #[]))), (51, .c (.raw (.tuple #[]))), (50, .c (.raw (.tuple #[]))), (49, .c (.raw (.tuple #[]))), (48, .c (.raw (.tuple #[]))), (47, .c (.raw (.tuple #[]))), (46, .c (.raw (.tuple #[]))), (45, .c (.raw (.tuple #[]))), (44, .c (.raw (.tuple #[]))), (43, .c (.raw (.tuple #[]))), (42, .c (.raw (.tuple #[]))), (41, .c (.raw (.tuple #[]))), (40, .c (.raw (.tuple #[]))), (39, .c (.raw (.tuple #[]))), (38, .c (.bool ((!c_165)))), (37, .c (.bool ((!c_165)))), (36, .c (.bool ((!c_165)))), (35, .c (.bool c_165)), (34, .c (.vec m_131.length 11 (gL cSProfile dSProfile m_131))), (33, .c (.vec c_161.1.length 11 (gL cSProfile dSProfile c_161.1))), (32, .c (.bool ((!decide (c_161.2 = 0))))), (31, .c (.bool ((!decide (c_161.2 = 0))))), (30, .c (.int .i64 c_161.2)), (0, .c (.vec a0_l.length 11 (gL cSProfile dSProfile a0_l))), (3, .c (.vec m_131.length 11 (gL cSProfile dSProfile m_131))), (4, .c (.int .i64 i_132)), (5, .c (.vec c_161.1.length 11 (gL cSProfile dSProfile c_161.1))), (6, .c (.int .i64 c_161.2))]) mixed [[], [0], [0, 1], [0, 1, 2], [0, 1, 2], [0, 1, 2, 3, 4], [0, 1, 2, 3, 4, 5], [0, 1, 2, 3, 4, 5, 6], [0, 1, 2, 3, 4, 5, 6, 7], [0, 1, 2, 3, 4, 5, 6, 7, 8], [0, 1, 2, 3, 4, 5, 6, 7, 8, 9], [0, 1, 2, 3, 4, 5, 6, 7, 8, 9, 10], [0, 1, 2, 3, 4, 5, 6, 7, 8, 9, 10, 11], [0, 1, 2, 3, 4, 5, 6, 7, 8, 9, 10, 11, 12], [0, 1, 2, 3, 4, 5, 6, 7, 8, 9, 10, 11, 12, 13], [0, 1, 2, 3, 4, 5, 6, 7, 8, 9, 10, 11, 12, 13, 14], [0, 1, 2, 3, 4, 5, 6, 7, 8, 9, 10, 11, 12, 13, 14, 15], [0, 1, 2, 3, 4, 5, 6, 7, 8, 9, 10, 11, 12, 13, 14, 15, 16], [0, 1, 2, 3, 4, 5, 6, 7, 8, 9, 10, 11, 12, 13, 14, 15, 16, 17], [0, 1, 2, 3, 4, 5, 6, 7, 8, 9, 10, 11, 12, 13, 14, 15, 16, 17, 18], [0, 1, 2, 3, 4, 5, 6, 7, 8, 9, 10, 11, 12, 13, 14, 15, 16, 17, 18, 19], [0, 1, 2, 3, 4, 5, 6, 7, 8, 9, 10, 11, 12, 13, 14, 15, 16, 17, 18, 19, 20], [0, 1, 2, 3, 4, 5, 6, 7, 8, 9, 10, 11, 12, 13, 14, 15, 16, 17, 18, 19, 20], [0, 1, 2, 3, 4, 5, 6, 7, 8, 9, 10, 11, 12, 13, 14, 15, 16, 17, 18, 19, 20, 22], [0, 1, 2, 3, 4, 5, 6, 7, 8, 9, 10, 11, 12, 13, 14, 15, 16, 17, 18, 19, 20, 22, 23], [0, 1, 2, 3, 4, 5, 6, 7, 8, 9, 10, 11, 12, 13, 14, 15, 16, 17, 18, 19, 20, 21, 22, 23, 24], [0, 1, 2, 3, 4, 5, 6, 7, 8, 9, 10, 11, 12, 13, 14, 15, 16, 17, 18, 19, 20, 21, 22, 23, 24, 25], [0, 1, 2, 3, 4, 5, 6, 7, 8, 9, 10, 11, 12, 13, 14, 15, 16, 17, 18, 19, 20], [0, 1, 2, 3, 4, 5, 6, 7, 8, 9, 10, 11, 12, 13, 14, 15, 16, 17, 18, 19, 20], [0, 1, 2, 3, 4, 5, 6, 7, 8, 9, 10, 11, 12, 13, 14, 15, 16, 17, 18, 19, 20, 27, 28], [0, 1, 2, 3, 4, 5, 6, 7, 8, 9, 10, 11, 12, 13, 14, 15, 16, 17, 18, 19, 20, 27, 28, 29], [0, 1, 2, 3, 4, 5, 6, 7, 8, 9, 10, 11, 12, 13, 14, 15, 16, 17, 18, 19, 20, 21, 22, 23, 24, 25, 26, 27, 28, 29, 30], [0, 1, 2, 3, 4, 5, 6, 7, 8, 9, 10, 11, 12, 13, 14, 15, 16, 17, 18, 19, 20, 21, 22, 23, 24, 25, 26, 27, 28, 29, 30, 31], [0, 1, 2, 3, 4, 5, 6, 7, 8, 9, 10, 11, 12, 13, 14, 15, 16, 17, 18, 19, 20, 21, 22, 23, 24, 25, 26, 27, 28, 29, 30, 31, 32], [0, 1, 2, 3, 4, 5, 6, 7, 8, 9, 10, 11, 12, 13, 14, 15, 16, 17, 18, 19, 20, 21, 22, 23, 24, 25, 26, 27, 28, 29, 30, 31, 32, 33], [0, 1, 2, 3, 4, 5, 6, 7, 8, 9, 10, 11, 12, 13, 14, 15, 16, 17, 18, 19, 20, 21, 22, 23, 24, 25, 26, 27, 28, 29, 30, 31, 32, 33, 34]] 36 0 rfl rfl ?_ ?_
              · refine QChain.run rfl (.plain rfl) rfl (q_move rfl rfl) ?_
                refine QChain.run rfl (.plain rfl) rfl (q_neq rfl rfl rfl) ?_
                refine QChain.run rfl (.plain rfl) rfl (q_move rfl rfl) ?_
                refine QChain.run rfl (.guard 2 32 true rfl rfl (gT g164)) rfl (q_move rfl rfl) ?_
                refine QChain.run rfl (.guard 2 32 true rfl rfl (gT g164)) rfl (q_move rfl rfl) ?_
                refine QChain.run rfl (.guard 2 32 true rfl rfl (gT g164)) rfl (q_call (chargenetref15_SameAll_ok F c_161.1 m_131 c_165 g166) [] rfl fn17 ⟨⟨_, rfl, .inl ⟨rfl, rfl⟩⟩, ⟨_, rfl, .inl ⟨rfl, rfl⟩⟩, trivial⟩ (.inl rfl)) ?_
                refine QChain.run rfl (.guard 2 32 true rfl rfl (gT g164)) rfl (q_not rfl rfl) ?_
                refine QChain.run rfl (.plain rfl) rfl (q_pick_t rfl rfl g164 rfl) ?_
                refine QChain.run rfl (.plain rfl) rfl (q_move rfl rfl) ?_
                refine QChain.skip rfl ⟨8, 38, false, rfl, rfl, (.inl (gT g167))⟩ rfl ?_
                refine QChain.skip rfl ⟨8, 38, false, rfl, rfl, (.inl (gT g167))⟩ rfl ?_
                refine QChain.skip rfl ⟨8, 38, false, rfl, rfl, (.inl (gT g167))⟩ rfl ?_
                refine QChain.skip rfl ⟨11, 41, true, rfl, rfl, (.inr rfl)⟩ rfl ?_
                refine QChain.skip rfl ⟨11, 41, true, rfl, rfl, (.inr rfl)⟩ rfl ?_
                refine QChain.skip rfl ⟨11, 41, true, rfl, rfl, (.inr rfl)⟩ rfl ?_
                refine QChain.skip rfl ⟨11, 41, true, rfl, rfl, (.inr rfl)⟩ rfl ?_
                refine QChain.skip rfl ⟨15, 45, false, rfl, rfl, (.inr rfl)⟩ rfl ?_
                refine QChain.skip rfl ⟨15, 45, false, rfl, rfl, (.inr rfl)⟩ rfl ?_
                refine QChain.skip rfl ⟨15, 45, false, rfl, rfl, (.inr rfl)⟩ rfl ?_
                refine QChain.skip rfl ⟨11, 41, true, rfl, rfl, (.inr rfl)⟩ rfl ?_
                refine QChain.skip rfl ⟨11, 41, true, rfl, rfl, (.inr rfl)⟩ rfl ?_
                refine QChain.skip rfl ⟨20, 50, false, rfl, rfl, (.inr rfl)⟩ rfl ?_
                refine QChain.skip rfl ⟨20, 50, false, rfl, rfl, (.inr rfl)⟩ rfl ?_
                refine QChain.skip rfl ⟨20, 50, false, rfl, rfl, (.inr rfl)⟩ rfl ?_
                refine QChain.skip rfl ⟨20, 50, false, rfl, rfl, (.inr rfl)⟩ rfl ?_
                refine QChain.skip rfl ⟨20, 50, false, rfl, rfl, (.inr rfl)⟩ rfl ?_
                refine QChain.skip rfl ⟨20, 50, false, rfl, rfl, (.inr rfl)⟩ rfl ?_
                refine QChain.skip rfl ⟨20, 50, false, rfl, rfl, (.inr rfl)⟩ rfl ?_
                refine QChain.skip rfl ⟨20, 50, false, rfl, rfl, (.inr rfl)⟩ rfl ?_
                refine QChain.skip rfl ⟨20, 50, false, rfl, rfl, (.inr rfl)⟩ rfl ?_
                refine QChain.skip rfl ⟨20, 50, false, rfl, rfl, (.inr rfl)⟩ rfl ?_
                refine QChain.skip rfl ⟨20, 50, false, rfl, rfl, (.inr rfl)⟩ rfl ?_
                refine QChain.skip rfl ⟨20, 50, false, rfl, rfl, (.inr rfl)⟩ rfl ?_
                refine QChain.skip rfl ⟨11, 41, true, rfl, rfl, (.inr rfl)⟩ rfl ?_
                refine QChain.skip rfl ⟨8, 38, false, rfl, rfl, (.inl (gT g167))⟩ rfl ?_
                refine QChain.run rfl (.plain rfl) rfl (q_pick_t rfl rfl g167 rfl) ?_
                exact QChain.nil _ _
              refine (show SOps _ _ _ [] _ _ from ?_)
              refine SOps.sub (st' := ⟨[(0, .c (.vec a0_l.length 11 (gL cSProfile dSProfile a0_l))), (4, .c (.int .i64 i_132)), (5, .c (.vec c_161.1.length 11 (gL cSProfile dSProfile c_161.1))), (65, .c (.bool true))], []⟩) (sub_gen [] rfl rfl ⟨zc rfl rfl, zc rfl rfl, zc rfl rfl, zc rfl rfl, trivial⟩ trivial) ?_
              refine SOps.nil ?_
              refine SCode.cond_t rfl rfl ?_
              refine SCode.seq ?_
              refine SCode.region (show SOps _ _ _ [0] _ _ from ?_)
              refine SOps.q rfl (.plain rfl) rfl (q_assign rfl rfl) ?_
              refine SOps.sub (st' := ⟨[(2, .c (.bool false))], []⟩) (sub_gen [] rfl rfl ⟨zc rfl rfl, trivial⟩ trivial) ?_
              refine SOps.nil ?_
              refine SCode.ret ?_
              obtain rfl := Option.some.inj h
              exact ⟨⟨[(2, .c (.bool false))], []⟩, _, sub_gen [] rfl rfl ⟨zc rfl rfl, trivial⟩ trivial, resA1 (v := .c (.bool false)) rfl rfl, rfl⟩
            rcases cond_out h with ⟨g168, h⟩ | ⟨g168, h⟩
            · rcases cond_out h with ⟨g169, h⟩ | ⟨g169, h⟩
              · refine SCode.draw (s' := [(65, .c (.bool true)), (64, .c (.bool true)), (63, .c (.bool true)), (62, .c (.raw (.tuple #[]))), (61, .c (.raw (.tuple #[]))), (60, .c (.raw (.tuple #[]))), (59, .c (.raw (.tuple #[]))), (58, .c (.raw (.tuple #[]))), (57, .c (.raw (.tuple #[]))), (56, .c (.raw (.tuple #[]))), (55, .c (.raw (.tuple #[]))), (54, .c (.raw (.tuple #[]))), (53, .c (.raw (.tuple #[]))), (52, .c (.raw (.tuple #[]))), (51, .c (.raw (.tuple #[]))), (50, .c (.bool true)), (49, .c (.bool true)), (48, .c (.raw (.tuple #[]))), (47, .c (.raw (.tuple #[]))), (46, .c (.raw (.tuple #[]))), (45, .c (.bool (decide (((c_161.1).length : Int) = 0)))), (44, .c (.bool (decide (((c_161.1).length : Int) = 0)))), (43, .c (.int .i64 (((c_161.1).length : Int)))), (42, .c (.vec c_161.1.length 11 (gL cSProfile dSProfile c_161.1))), (41, .c (.bool (decide (c_161.2 = 0)))), (40, .c (.bool (decide (c_161.2 = 0)))), (39, .c (.int .i64 c_161.2)), (38, .c (.bool ((!c_165)))), (37, .c (.bool ((!c_165)))), (36, .c (.bool ((!c_165)))), (35, .c (.bool c_165)), (34, .c (.vec m_131.length 11 (gL cSProfile dSProfile m_131))), (33, .c (.vec c_161.1.length 11 (gL cSProfile dSProfile c_161.1))), (32, .c (.bool ((!decide (c_161.2 = 0))))), (31, .c (.bool ((!decide (c_161.2 = 0))))), (30, .c (.int .i64 c_161.2)), (0, .c (.vec a0_l.length 11 (gL cSProfile dSProfile a0_l))), (3, .c (.vec m_131.length 11 (gL cSProfile dSProfile m_131))), (4, .c (.int .i64 i_132)), (5, .c (.vec c_161.1.length 11 (gL cSProfile dSProfile c_161.1))), (6, .c (.int .i64 c_161.2))]) mixed [[], [0], [0, 1], [0, 1, 2], [0, 1, 2], [0, 1, 2, 3, 4], [0, 1, 2, 3, 4, 5], [0, 1, 2, 3, 4, 5, 6], [0, 1, 2, 3, 4, 5, 6, 7], [0, 1, 2, 3, 4, 5, 6, 7, 8], [0, 1, 2, 3, 4, 5, 6, 7, 8, 9], [0, 1, 2, 3, 4, 5, 6, 7, 8, 9, 10], [0, 1, 2, 3, 4, 5, 6, 7, 8, 9, 10, 11], [0, 1, 2, 3, 4, 5, 6, 7, 8, 9, 10, 11, 12], [0, 1, 2, 3, 4, 5, 6, 7, 8, 9, 10, 11, 12, 13], [0, 1, 2, 3, 4, 5, 6, 7, 8, 9, 10, 11, 12, 13, 14], [0, 1, 2, 3, 4, 5, 6, 7, 8, 9, 10, 11, 12, 13, 14, 15], [0, 1, 2, 3, 4, 5, 6, 7, 8, 9, 10, 11, 12, 13, 14, 15, 16], [0, 1, 2, 3, 4, 5, 6, 7, 8, 9, 10, 11, 12, 13, 14, 15, 16, 17], [0, 1, 2, 3, 4, 5, 6, 7, 8, 9, 10, 11, 12, 13, 14, 15, 16, 17, 18], [0, 1, 2, 3, 4, 5, 6, 7, 8, 9, 10, 11, 12, 13, 14, 15, 16, 17, 18, 19], [0, 1, 2, 3, 4, 5, 6, 7, 8, 9, 10, 11, 12, 13, 14, 15, 16, 17, 18, 19, 20], [0, 1, 2, 3, 4, 5, 6, 7, 8, 9, 10, 11, 12, 13, 14, 15, 16, 17, 18, 19, 20], [0, 1, 2, 3, 4, 5, 6, 7, 8, 9, 10, 11, 12, 13, 14, 15, 16, 17, 18, 19, 20, 22], [0, 1, 2, 3, 4, 5, 6, 7, 8, 9, 10, 11, 12, 13, 14, 15, 16, 17, 18, 19, 20, 22, 23], [0, 1, 2, 3, 4, 5, 6, 7, 8, 9, 10, 11, 12, 13, 14, 15, 16, 17, 18, 19, 20, 21, 22, 23, 24], [0, 1, 2, 3, 4, 5, 6, 7, 8, 9, 10, 11, 12, 13, 14, 15, 16, 17, 18, 19, 20, 21, 22, 23, 24, 25], [0, 1, 2, 3, 4, 5, 6, 7, 8, 9, 10, 11, 12, 13, 14, 15, 16, 17, 18, 19, 20], [0, 1, 2, 3, 4, 5, 6, 7, 8, 9, 10, 11, 12, 13, 14, 15, 16, 17, 18, 19, 20], [0, 1, 2, 3, 4, 5, 6, 7, 8, 9, 10, 11, 12, 13, 14, 15, 16, 17, 18, 19, 20, 27, 28], [0, 1, 2, 3, 4, 5, 6, 7, 8, 9, 10, 11, 12, 13, 14, 15, 16, 17, 18, 19, 20, 27, 28, 29], [0, 1, 2, 3, 4, 5, 6, 7, 8, 9, 10, 11, 12, 13, 14, 15, 16, 17, 18, 19, 20, 21, 22, 23, 24, 25, 26, 27, 28, 29, 30], [0, 1, 2, 3, 4, 5, 6, 7, 8, 9, 10, 11, 12, 13, 14, 15, 16, 17, 18, 19, 20, 21, 22, 23, 24, 25, 26, 27, 28, 29, 30, 31], [0, 1, 2, 3, 4, 5, 6, 7, 8, 9, 10, 11, 12, 13, 14, 15, 16, 17, 18, 19, 20, 21, 22, 23, 24, 25, 26, 27, 28, 29, 30, 31, 32], [0, 1, 2, 3, 4, 5, 6, 7, 8, 9, 10, 11, 12, 13, 14, 15, 16, 17, 18, 19, 20, 21, 22, 23, 24, 25, 26, 27, 28, 29, 30, 31, 32, 33], [0, 1, 2, 3, 4, 5, 6, 7, 8, 9, 10, 11, 12, 13, 14, 15, 16, 17, 18, 19, 20, 21, 22, 23, 24, 25, 26, 27, 28, 29, 30, 31, 32, 33, 34]] 36 0 rfl rfl ?_ ?_
                · refine QChain.run rfl (.plain rfl) rfl (q_move rfl rfl) ?_
                  refine QChain.run rfl (.plain rfl) rfl (q_neq rfl rfl rfl) ?_
                  refine QChain.run rfl (.plain rfl) rfl (q_move rfl rfl) ?_
                  refine QChain.run rfl (.guard 2 32 true rfl rfl (gT g164)) rfl (q_move rfl rfl) ?_
                  refine QChain.run rfl (.guard 2 32 true rfl rfl (gT g164)) rfl (q_move rfl rfl) ?_
                  refine QChain.run rfl (.guard 2 32 true rfl rfl (gT g164)) rfl (q_call (chargenetref15_SameAll_ok F c_161.1 m_131 c_165 g166) [] rfl fn17 ⟨⟨_, rfl, .inl ⟨rfl, rfl⟩⟩, ⟨_, rfl, .inl ⟨rfl, rfl⟩⟩, trivial⟩ (.inl rfl)) ?_
                  refine QChain.run rfl (.guard 2 32 true rfl rfl (gT g164)) rfl (q_not rfl rfl) ?_
                  refine QChain.run rfl (.plain rfl) rfl (q_pick_t rfl rfl g164 rfl) ?_
                  refine QChain.run rfl (.plain rfl) rfl (q_move rfl rfl) ?_
                  refine QChain.run rfl (.guard 8 38 false rfl rfl (gF g167)) rfl (q_move rfl rfl) ?_
                  refine QChain.run rfl (.guard 8 38 false rfl rfl (gF g167)) rfl (q_eql rfl rfl rfl) ?_
                  refine QChain.run rfl (.guard 8 38 false rfl rfl (gF g167)) rfl (q_move rfl rfl) ?_
                  refine QChain.run rfl (.guard 11 41 true rfl rfl (gT g168)) rfl (q_move rfl rfl) ?_
                  refine QChain.run rfl (.guard 11 41 true rfl rfl (gT g168)) rfl (q_len_vec rfl rfl sl31) ?_
                  refine QChain.run rfl (.guard 11 41 true rfl rfl (gT g168)) rfl (q_eql rfl rfl rfl) ?_
                  refine QChain.run rfl (.guard 11 41 true rfl rfl (gT g168)) rfl (q_move rfl rfl) ?_
                  refine QChain.skip rfl ⟨15, 45, false, rfl, rfl, (.inl (gT g169))⟩ rfl ?_
                  refine QChain.skip rfl ⟨15, 45, false, rfl, rfl, (.inl (gT g169))⟩ rfl ?_
                  refine QChain.skip rfl ⟨15, 45, false, rfl, rfl, (.inl (gT g169))⟩ rfl ?_
                  refine QChain.run rfl (.guard 11 41 true rfl rfl (gT g168)) rfl (q_pick_t rfl rfl g169 rfl) ?_
                  refine QChain.run rfl (.guard 11 41 true rfl rfl (gT g168)) rfl (q_move rfl rfl) ?_
                  refine QChain.skip rfl ⟨20, 50, false, rfl, rfl, (.inl rfl)⟩ rfl ?_
                  refine QChain.skip rfl ⟨20, 50, false, rfl, rfl, (.inl rfl)⟩ rfl ?_
                  refine QChain.skip rfl ⟨20, 50, false, rfl, rfl, (.inl rfl)⟩ rfl ?_
                  refine QChain.skip rfl ⟨20, 50, false, rfl, rfl, (.inl rfl)⟩ rfl ?_
                  refine QChain.skip rfl ⟨20, 50, false, rfl, rfl, (.inl rfl)⟩ rfl ?_
                  refine QChain.skip rfl ⟨20, 50, false, rfl, rfl, (.inl rfl)⟩ rfl ?_
                  refine QChain.skip rfl ⟨20, 50, false, rfl, rfl, (.inl rfl)⟩ rfl ?_
                  refine QChain.skip rfl ⟨20, 50, false, rfl, rfl, (.inl rfl)⟩ rfl ?_
                  refine QChain.skip rfl ⟨20, 50, false, rfl, rfl, (.inl rfl)⟩ rfl ?_
                  refine QChain.skip rfl ⟨20, 50, false, rfl, rfl, (.inl rfl)⟩ rfl ?_
                  refine QChain.skip rfl ⟨20, 50, false, rfl, rfl, (.inl rfl)⟩ rfl ?_
                  refine QChain.skip rfl ⟨20, 50, false, rfl, rfl, (.inl rfl)⟩ rfl ?_
                  refine QChain.run rfl (.guard 11 41 true rfl rfl (gT g168)) rfl (q_pick_t rfl rfl rfl rfl) ?_
                  refine QChain.run rfl (.guard 8 38 false rfl rfl (gF g167)) rfl (q_pick_t rfl rfl g168 rfl) ?_
                  refine QChain.run rfl (.plain rfl) rfl (q_pick_f rfl rfl g167 rfl) ?_
                  exact QChain.nil _ _
                refine (show SOps _ _ _ [] _ _ from ?_)
                refine SOps.sub (st' := ⟨[(0, .c (.vec a0_l.length 11 (gL cSProfile dSProfile a0_l))), (4, .c (.int .i64 i_132)), (5, .c (.vec c_161.1.length 11 (gL cSProfile dSProfile c_161.1))), (65, .c (.bool true))], []⟩) (sub_gen [] rfl rfl ⟨zc rfl rfl, zc rfl rfl, zc rfl rfl, zc rfl rfl, trivial⟩ trivial) ?_
                refine SOps.nil ?_
                refine SCode.cond_t rfl rfl ?_
                refine SCode.seq ?_
                refine SCode.region (show SOps _ _ _ [0] _ _ from ?_)
                refine SOps.q rfl (.plain rfl) rfl (q_assign rfl rfl) ?_
                refine SOps.sub (st' := ⟨[(2, .c (.bool false))], []⟩) (sub_gen [] rfl rfl ⟨zc rfl rfl, trivial⟩ trivial) ?_
                refine SOps.nil ?_
                refine SCode.ret ?_
                obtain rfl := Option.some.inj h
                exact ⟨⟨[(2, .c (.bool false))], []⟩, _, sub_gen [] rfl rfl ⟨zc rfl rfl, trivial⟩ trivial, resA1 (v := .c (.bool false)) rfl rfl, rfl⟩
              rcases cond_out h with ⟨g170, h⟩ | ⟨g170, h⟩
              · refine SCode.draw (s' := [(65, .c (.bool true)), (64, .c (.bool true)), (63, .c (.bool true)), (62, .c (.raw (.tuple #[]))), (61, .c (.raw (.tuple #[]))), (60, .c (.raw (.tuple #[]))), (59, .c (.raw (.tuple #[]))), (58, .c (.raw (.tuple #[]))), (57, .c (.raw (.tuple #[]))), (56, .c (.raw (.tuple #[]))), (55, .c (.raw (.tuple #[]))), (54, .c (.raw (.tuple #[]))), (53, .c (.raw (.tuple #[]))), (52, .c (.raw (.tuple #[]))), (51, .c (.raw (.tuple #[]))), (50, .c (.bool (decide (16 < ((c_161.1).length : Int))))), (49, .c (.bool (decide (16 < ((c_161.1).length : Int))))), (48, .c (.bool (decide (16 < ((c_161.1).length : Int))))), (47, .c (.int .i64 (((c_161.1).length : Int)))), (46, .c (.vec c_161.1.length 11 (gL cSProfile dSProfile c_161.1))), (45, .c (.bool (decide (((c_161.1).length : Int) = 0)))), (44, .c (.bool (decide (((c_161.1).length : Int) = 0)))), (43, .c (.int .i64 (((c_161.1).length : Int)))), (42, .c (.vec c_161.1.length 11 (gL cSProfile dSProfile c_161.1))), (41, .c (.bool (decide (c_161.2 = 0)))), (40, .c (.bool (decide (c_161.2 = 0)))), (39, .c (.int .i64 c_161.2)), (38, .c (.bool ((!c_165)))), (37, .c (.bool ((!c_165)))), (36, .c (.bool ((!c_165)))), (35, .c (.bool c_165)), (34, .c (.vec m_131.length 11 (gL cSProfile dSProfile m_131))), (33, .c (.vec c_161.1.length 11 (gL cSProfile dSProfile c_161.1))), (32, .c (.bool ((!decide (c_161.2 = 0))))), (31, .c (.bool ((!decide (c_161.2 = 0))))), (30, .c (.int .i64 c_161.2)), (0, .c (.vec a0_l.length 11 (gL cSProfile dSProfile a0_l))), (3, .c (.vec m_131.length 11 (gL cSProfile dSProfile m_131))), (4, .c (.int .i64 i_132)), (5, .c (.vec c_161.1.length 11 (gL cSProfile dSProfile c_161.1))), (6, .c (.int .i64 c_161.2))]) mixed [[], [0], [0, 1], [0, 1, 2], [0, 1, 2], [0, 1, 2, 3, 4], [0, 1, 2, 3, 4, 5], [0, 1, 2, 3, 4, 5, 6], [0, 1, 2, 3, 4, 5, 6, 7], [0, 1, 2, 3, 4, 5, 6, 7, 8], [0, 1, 2, 3, 4, 5, 6, 7, 8, 9], [0, 1, 2, 3, 4, 5, 6, 7, 8, 9, 10], [0, 1, 2, 3, 4, 5, 6, 7, 8, 9, 10, 11], [0, 1, 2, 3, 4, 5, 6, 7, 8, 9, 10, 11, 12], [0, 1, 2, 3, 4, 5, 6, 7, 8, 9, 10, 11, 12, 13], [0, 1, 2, 3, 4, 5, 6, 7, 8, 9, 10, 11, 12, 13, 14], [0, 1, 2, 3, 4, 5, 6, 7, 8, 9, 10, 11, 12, 13, 14, 15], [0, 1, 2, 3, 4, 5, 6, 7, 8, 9, 10, 11, 12, 13, 14, 15, 16], [0, 1, 2, 3, 4, 5, 6, 7, 8, 9, 10, 11, 12, 13, 14, 15, 16, 17], [0, 1, 2, 3, 4, 5, 6, 7, 8, 9, 10, 11, 12, 13, 14, 15, 16, 17, 18], [0, 1, 2, 3, 4, 5, 6, 7, 8, 9, 10, 11, 12, 13, 14, 15, 16, 17, 18, 19], [0, 1, 2, 3, 4, 5, 6, 7, 8, 9, 10, 11, 12, 13, 14, 15, 16, 17, 18, 19, 20], [0, 1, 2, 3, 4, 5, 6, 7, 8, 9, 10, 11, 12, 13, 14, 15, 16, 17, 18, 19, 20], [0, 1, 2, 3, 4, 5, 6, 7, 8, 9, 10, 11, 12, 13, 14, 15, 16, 17, 18, 19, 20, 22], [0, 1, 2, 3, 4, 5, 6, 7, 8, 9, 10, 11, 12, 13, 14, 15, 16, 17, 18, 19, 20, 22, 23], [0, 1, 2, 3, 4, 5, 6, 7, 8, 9, 10, 11, 12, 13, 14, 15, 16, 17, 18, 19, 20, 21, 22, 23, 24], [0, 1, 2, 3, 4, 5, 6, 7, 8, 9, 10, 11, 12, 13, 14, 15, 16, 17, 18, 19, 20, 21, 22, 23, 24, 25], [0, 1, 2, 3, 4, 5, 6, 7, 8, 9, 10, 11, 12, 13, 14, 15, 16, 17, 18, 19, 20], [0, 1, 2, 3, 4, 5, 6, 7, 8, 9, 10, 11, 12, 13, 14, 15, 16, 17, 18, 19, 20], [0, 1, 2, 3, 4, 5, 6, 7, 8, 9, 10, 11, 12, 13, 14, 15, 16, 17, 18, 19, 20, 27, 28], [0, 1, 2, 3, 4, 5, 6, 7, 8, 9, 10, 11, 12, 13, 14, 15, 16, 17, 18, 19, 20, 27, 28, 29], [0, 1, 2, 3, 4, 5, 6, 7, 8, 9, 10, 11, 12, 13, 14, 15, 16, 17, 18, 19, 20, 21, 22, 23, 24, 25, 26, 27, 28, 29, 30], [0, 1, 2, 3, 4, 5, 6, 7, 8, 9, 10, 11, 12, 13, 14, 15, 16, 17, 18, 19, 20, 21, 22, 23, 24, 25, 26, 27, 28, 29, 30, 31], [0, 1, 2, 3, 4, 5, 6, 7, 8, 9, 10, 11, 12, 13, 14, 15, 16, 17, 18, 19, 20, 21, 22, 23, 24, 25, 26, 27, 28, 29, 30, 31, 32], [0, 1, 2, 3, 4, 5, 6, 7, 8, 9, 10, 11, 12, 13, 14, 15, 16, 17, 18, 19, 20, 21, 22, 23, 24, 25, 26, 27, 28, 29, 30, 31, 32, 33], [0, 1, 2, 3, 4, 5, 6, 7, 8, 9, 10, 11, 12, 13, 14, 15, 16, 17, 18, 19, 20, 21, 22, 23, 24, 25, 26, 27, 28, 29, 30, 31, 32, 33, 34]] 36 0 rfl rfl ?_ ?_
                · refine QChain.run rfl (.plain rfl) rfl (q_move rfl rfl) ?_
                  refine QChain.run rfl (.plain rfl) rfl (q_neq rfl rfl rfl) ?_
                  refine QChain.run rfl (.plain rfl) rfl (q_move rfl rfl) ?_
                  refine QChain.run rfl (.guard 2 32 true rfl rfl (gT g164)) rfl (q_move rfl rfl) ?_
                  refine QChain.run rfl (.guard 2 32 true rfl rfl (gT g164)) rfl (q_move rfl rfl) ?_
                  refine QChain.run rfl (.guard 2 32 true rfl rfl (gT g164)) rfl (q_call (chargenetref15_SameAll_ok F c_161.1 m_131 c_165 g166) [] rfl fn17 ⟨⟨_, rfl, .inl ⟨rfl, rfl⟩⟩, ⟨_, rfl, .inl ⟨rfl, rfl⟩⟩, trivial⟩ (.inl rfl)) ?_
                  refine QChain.run rfl (.guard 2 32 true rfl rfl (gT g164)) rfl (q_not rfl rfl) ?_
                  refine QChain.run rfl (.plain rfl) rfl (q_pick_t rfl rfl g164 rfl) ?_
                  refine QChain.run rfl (.plain rfl) rfl (q_move rfl rfl) ?_
                  refine QChain.run rfl (.guard 8 38 false rfl rfl (gF g167)) rfl (q_move rfl rfl) ?_
                  refine QChain.run rfl (.guard 8 38 false rfl rfl (gF g167)) rfl (q_eql rfl rfl rfl) ?_
                  refine QChain.run rfl (.guard 8 38 false rfl rfl (gF g167)) rfl (q_move rfl rfl) ?_
                  refine QChain.run rfl (.guard 11 41 true rfl rfl (gT g168)) rfl (q_move rfl rfl) ?_
                  refine QChain.run rfl (.guard 11 41 true rfl rfl (gT g168)) rfl (q_len_vec rfl rfl sl31) ?_
                  refine QChain.run rfl (.guard 11 41 true rfl rfl (gT g168)) rfl (q_eql rfl rfl rfl) ?_
                  refine QChain.run rfl (.guard 11 41 true rfl rfl (gT g168)) rfl (q_move rfl rfl) ?_
                  refine QChain.run rfl (.guard 15 45 false rfl rfl (gF g169)) rfl (q_move rfl rfl) ?_
                  refine QChain.run rfl (.guard 15 45 false rfl rfl (gF g169)) rfl (q_len_vec rfl rfl sl31) ?_
                  refine QChain.run rfl (.guard 15 45 false rfl rfl (gF g169)) rfl (q_gtr rfl rfl rfl) ?_
                  refine QChain.run rfl (.guard 11 41 true rfl rfl (gT g168)) rfl (q_pick_f rfl rfl g169 rfl) ?_
                  refine QChain.run rfl (.guard 11 41 true rfl rfl (gT g168)) rfl (q_move rfl rfl) ?_
                  refine QChain.skip rfl ⟨20, 50, false, rfl, rfl, (.inl (gT g170))⟩ rfl ?_
                  refine QChain.skip rfl ⟨20, 50, false, rfl, rfl, (.inl (gT g170))⟩ rfl ?_
                  refine QChain.skip rfl ⟨20, 50, false, rfl, rfl, (.inl (gT g170))⟩ rfl ?_
                  refine QChain.skip rfl ⟨20, 50, false, rfl, rfl, (.inl (gT g170))⟩ rfl ?_
                  refine QChain.skip rfl ⟨20, 50, false, rfl, rfl, (.inl (gT g170))⟩ rfl ?_
                  refine QChain.skip rfl ⟨20, 50, false, rfl, rfl, (.inl (gT g170))⟩ rfl ?_
                  refine QChain.skip rfl ⟨20, 50, false, rfl, rfl, (.inl (gT g170))⟩ rfl ?_
                  refine QChain.skip rfl ⟨20, 50, false, rfl, rfl, (.inl (gT g170))⟩ rfl ?_
                  refine QChain.skip rfl ⟨20, 50, false, rfl, rfl, (.inl (gT g170))⟩ rfl ?_
                  refine QChain.skip rfl ⟨20, 50, false, rfl, rfl, (.inl (gT g170))⟩ rfl ?_
                  refine QChain.skip rfl ⟨20, 50, false, rfl, rfl, (.inl (gT g170))⟩ rfl ?_
                  refine QChain.skip rfl ⟨20, 50, false, rfl, rfl, (.inl (gT g170))⟩ rfl ?_
                  refine QChain.run rfl (.guard 11 41 true rfl rfl (gT g168)) rfl (q_pick_t rfl rfl g170 rfl) ?_
                  refine QChain.run rfl (.guard 8 38 false rfl rfl (gF g167)) rfl (q_pick_t rfl rfl g168 rfl) ?_
                  refine QChain.run rfl (.plain rfl) rfl (q_pick_f rfl rfl g167 rfl) ?_
                  exact QChain.nil _ _
                refine (show SOps _ _ _ [] _ _ from ?_)
                refine SOps.sub (st' := ⟨[(0, .c (.vec a0_l.length 11 (gL cSProfile dSProfile a0_l))), (4, .c (.int .i64 i_132)), (5, .c (.vec c_161.1.length 11 (gL cSProfile dSProfile c_161.1))), (65, .c (.bool true))], []⟩) (sub_gen [] rfl rfl ⟨zc rfl rfl, zc rfl rfl, zc rfl rfl, zc rfl rfl, trivial⟩ trivial) ?_
                refine SOps.nil ?_
                refine SCode.cond_t rfl rfl ?_
                refine SCode.seq ?_
                refine SCode.region (show SOps _ _ _ [0] _ _ from ?_)
                refine SOps.q rfl (.plain rfl) rfl (q_assign rfl rfl) ?_
                refine SOps.sub (st' := ⟨[(2, .c (.bool false))], []⟩) (sub_gen [] rfl rfl ⟨zc rfl rfl, trivial⟩ trivial) ?_
                refine SOps.nil ?_
                refine SCode.ret ?_
                obtain rfl := Option.some.inj h
                exact ⟨⟨[(2, .c (.bool false))], []⟩, _, sub_gen [] rfl rfl ⟨zc rfl rfl, trivial⟩ trivial, resA1 (v := .c (.bool false)) rfl rfl, rfl⟩
              obtain ⟨g171, h⟩ := guard_out h
              obtain ⟨g172, h⟩ := guard_out h
              obtain ⟨c_173, g174, h⟩ := bind_out h
              try dsimp only at h
              refine SCode.draw (s' := [(65, .c (.bool ((!c_173)))), (64, .c (.bool ((!c_173)))), (63, .c (.bool ((!c_173)))), (62, .c (.bool ((!c_173)))), (61, .c (.bool c_173)), (60, .a [.int .i64 ((a0_l.getD i_132.toNat dSProfile).ID), .int .i64 ((a0_l.getD i_132.toNat dSProfile).Level), .int .i64 ((a0_l.getD i_132.toNat dSProfile).Purpose), .int .i64 ((a0_l.getD i_132.toNat dSProfile).Kind), .int .i64 ((a0_l.getD i_132.toNat dSProfile).Conn), .str ((a0_l.getD i_132.toNat dSProfile).Txn), .int .i64 ((a0_l.getD i_132.toNat dSProfile).Span_From), .int .i64 ((a0_l.getD i_132.toNat dSProfile).Span_To), .int .i64 ((a0_l.getD i_132.toNat dSProfile).Start), .int .i64 ((a0_l.getD i_132.toNat dSProfile).Duration), .vec ((a0_l.getD i_132.toNat dSProfile).Periods).length 2 (gL cSPeriod dSPeriod ((a0_l.getD i_132.toNat dSProfile).Periods))]), (59, .c (.eptr 11 (cSProfile (a0_l.getD i_132.toNat dSProfile)) 0)), (58, .c (.int .i64 i_132)), (57, .c (.vec a0_l.length 11 (gL cSProfile dSProfile a0_l))), (56, .a [.int .i64 ((c_161.1.getD (IntKind.wrap .i64 (((c_161.1).length : Int) - 1)).toNat dSProfile).ID), .int .i64 ((c_161.1.getD (IntKind.wrap .i64 (((c_161.1).length : Int) - 1)).toNat dSProfile).Level), .int .i64 ((c_161.1.getD (IntKind.wrap .i64 (((c_161.1).length : Int) - 1)).toNat dSProfile).Purpose), .int .i64 ((c_161.1.getD (IntKind.wrap .i64 (((c_161.1).length : Int) - 1)).toNat dSProfile).Kind), .int .i64 ((c_161.1.getD (IntKind.wrap .i64 (((c_161.1).length : Int) - 1)).toNat dSProfile).Conn), .str ((c_161.1.getD (IntKind.wrap .i64 (((c_161.1).length : Int) - 1)).toNat dSProfile).Txn), .int .i64 ((c_161.1.getD (IntKind.wrap .i64 (((c_161.1).length : Int) - 1)).toNat dSProfile).Span_From), .int .i64 ((c_161.1.getD (IntKind.wrap .i64 (((c_161.1).length : Int) - 1)).toNat dSProfile).Span_To), .int .i64 ((c_161.1.getD (IntKind.wrap .i64 (((c_161.1).length : Int) - 1)).toNat dSProfile).Start), .int .i64 ((c_161.1.getD (IntKind.wrap .i64 (((c_161.1).length : Int) - 1)).toNat dSProfile).Duration), .vec ((c_161.1.getD (IntKind.wrap .i64 (((c_161.1).length : Int) - 1)).toNat dSProfile).Periods).length 2 (gL cSPeriod dSPeriod ((c_161.1.getD (IntKind.wrap .i64 (((c_161.1).length : Int) - 1)).toNat dSProfile).Periods))]), (55, .c (.eptr 11 (cSProfile (c_161.1.getD (IntKind.wrap .i64 (((c_161.1).length : Int) - 1)).toNat dSProfile)) 0)), (54, .c (.int .i64 (IntKind.wrap .i64 (((c_161.1).length : Int) - 1)))), (53, .c (.int .i64 (((c_161.1).length : Int)))), (52, .c (.vec c_161.1.length 11 (gL cSProfile dSProfile c_161.1))), (51, .c (.vec c_161.1.length 11 (gL cSProfile dSProfile c_161.1))), (50, .c (.bool (decide (16 < ((c_161.1).length : Int))))), (49, .c (.bool (decide (16 < ((c_161.1).length : Int))))), (48, .c (.bool (decide (16 < ((c_161.1).length : Int))))), (47, .c (.int .i64 (((c_161.1).length : Int)))), (46, .c (.vec c_161.1.length 11 (gL cSProfile dSProfile c_161.1))), (45, .c (.bool (decide (((c_161.1).length : Int) = 0)))), (44, .c (.bool (decide (((c_161.1).length : Int) = 0)))), (43, .c (.int .i64 (((c_161.1).length : Int)))), (42, .c (.vec c_161.1.length 11 (gL cSProfile dSProfile c_161.1))), (41, .c (.bool (decide (c_161.2 = 0)))), (40, .c (.bool (decide (c_161.2 = 0)))), (39, .c (.int .i64 c_161.2)), (38, .c (.bool ((!c_165)))), (37, .c (.bool ((!c_165)))), (36, .c (.bool ((!c_165)))), (35, .c (.bool c_165)), (34, .c (.vec m_131.length 11 (gL cSProfile dSProfile m_131))), (33, .c (.vec c_161.1.length 11 (gL cSProfile dSProfile c_161.1))), (32, .c (.bool ((!decide (c_161.2 = 0))))), (31, .c (.bool ((!decide (c_161.2 = 0))))), (30, .c (.int .i64 c_161.2)), (0, .c (.vec a0_l.length 11 (gL cSProfile dSProfile a0_l))), (3, .c (.vec m_131.length 11 (gL cSProfile dSProfile m_131))), (4, .c (.int .i64 i_132)), (5, .c (.vec c_161.1.length 11 (gL cSProfile dSProfile c_161.1))), (6, .c (.int .i64 c_161.2))]) mixed [[], [0], [0, 1], [0, 1, 2], [0, 1, 2], [0, 1, 2, 3, 4], [0, 1, 2, 3, 4, 5], [0, 1, 2, 3, 4, 5, 6], [0, 1, 2, 3, 4, 5, 6, 7], [0, 1, 2, 3, 4, 5, 6, 7, 8], [0, 1, 2, 3, 4, 5, 6, 7, 8, 9], [0, 1, 2, 3, 4, 5, 6, 7, 8, 9, 10], [0, 1, 2, 3, 4, 5, 6, 7, 8, 9, 10, 11], [0, 1, 2, 3, 4, 5, 6, 7, 8, 9, 10, 11, 12], [0, 1, 2, 3, 4, 5, 6, 7, 8, 9, 10, 11, 12, 13], [0, 1, 2, 3, 4, 5, 6, 7, 8, 9, 10, 11, 12, 13, 14], [0, 1, 2, 3, 4, 5, 6, 7, 8, 9, 10, 11, 12, 13, 14, 15], [0, 1, 2, 3, 4, 5, 6, 7, 8, 9, 10, 11, 12, 13, 14, 15, 16], [0, 1, 2, 3, 4, 5, 6, 7, 8, 9, 10, 11, 12, 13, 14, 15, 16, 17], [0, 1, 2, 3, 4, 5, 6, 7, 8, 9, 10, 11, 12, 13, 14, 15, 16, 17, 18], [0, 1, 2, 3, 4, 5, 6, 7, 8, 9, 10, 11, 12, 13, 14, 15, 16, 17, 18, 19], [0, 1, 2, 3, 4, 5, 6, 7, 8, 9, 10, 11, 12, 13, 14, 15, 16, 17, 18, 19, 20], [0, 1, 2, 3, 4, 5, 6, 7, 8, 9, 10, 11, 12, 13, 14, 15, 16, 17, 18, 19, 20], [0, 1, 2, 3, 4, 5, 6, 7, 8, 9, 10, 11, 12, 13, 14, 15, 16, 17, 18, 19, 20, 22], [0, 1, 2, 3, 4, 5, 6, 7, 8, 9, 10, 11, 12, 13, 14, 15, 16, 17, 18, 19, 20, 22, 23], [0, 1, 2, 3, 4, 5, 6, 7, 8, 9, 10, 11, 12, 13, 14, 15, 16, 17, 18, 19, 20, 21, 22, 23, 24], [0, 1, 2, 3, 4, 5, 6, 7, 8, 9, 10, 11, 12, 13, 14, 15, 16, 17, 18, 19, 20, 21, 22, 23, 24, 25], [0, 1, 2, 3, 4, 5, 6, 7, 8, 9, 10, 11, 12, 13, 14, 15, 16, 17, 18, 19, 20], [0, 1, 2, 3, 4, 5, 6, 7, 8, 9, 10, 11, 12, 13, 14, 15, 16, 17, 18, 19, 20], [0, 1, 2, 3, 4, 5, 6, 7, 8, 9, 10, 11, 12, 13, 14, 15, 16, 17, 18, 19, 20, 27, 28], [0, 1, 2, 3, 4, 5, 6, 7, 8, 9, 10, 11, 12, 13, 14, 15, 16, 17, 18, 19, 20, 27, 28, 29], [0, 1, 2, 3, 4, 5, 6, 7, 8, 9, 10, 11, 12, 13, 14, 15, 16, 17, 18, 19, 20, 21, 22, 23, 24, 25, 26, 27, 28, 29, 30], [0, 1, 2, 3, 4, 5, 6, 7, 8, 9, 10, 11, 12, 13, 14, 15, 16, 17, 18, 19, 20, 21, 22, 23, 24, 25, 26, 27, 28, 29, 30, 31], [0, 1, 2, 3, 4, 5, 6, 7, 8, 9, 10, 11, 12, 13, 14, 15, 16, 17, 18, 19, 20, 21, 22, 23, 24, 25, 26, 27, 28, 29, 30, 31, 32], [0, 1, 2, 3, 4, 5, 6, 7, 8, 9, 10, 11, 12, 13, 14, 15, 16, 17, 18, 19, 20, 21, 22, 23, 24, 25, 26, 27, 28, 29, 30, 31, 32, 33], [0, 1, 2, 3, 4, 5, 6, 7, 8, 9, 10, 11, 12, 13, 14, 15, 16, 17, 18, 19, 20, 21, 22, 23, 24, 25, 26, 27, 28, 29, 30, 31, 32, 33, 34]] 36 0 rfl rfl ?_ ?_
              · refine QChain.run rfl (.plain rfl) rfl (q_move rfl rfl) ?_
                refine QChain.run rfl (.plain rfl) rfl (q_neq rfl rfl rfl) ?_
                refine QChain.run rfl (.plain rfl) rfl (q_move rfl rfl) ?_
                refine QChain.run rfl (.guard 2 32 true rfl rfl (gT g164)) rfl (q_move rfl rfl) ?_
                refine QChain.run rfl (.guard 2 32 true rfl rfl (gT g164)) rfl (q_move rfl rfl) ?_
                refine QChain.run rfl (.guard 2 32 true rfl rfl (gT g164)) rfl (q_call (chargenetref15_SameAll_ok F c_161.1 m_131 c_165 g166) [] rfl fn17 ⟨⟨_, rfl, .inl ⟨rfl, rfl⟩⟩, ⟨_, rfl, .inl ⟨rfl, rfl⟩⟩, trivial⟩ (.inl rfl)) ?_
                refine QChain.run rfl (.guard 2 32 true rfl rfl (gT g164)) rfl (q_not rfl rfl) ?_
                refine QChain.run rfl (.plain rfl) rfl (q_pick_t rfl rfl g164 rfl) ?_
                refine QChain.run rfl (.plain rfl) rfl (q_move rfl rfl) ?_
                refine QChain.run rfl (.guard 8 38 false rfl rfl (gF g167)) rfl (q_move rfl rfl) ?_
                refine QChain.run rfl (.guard 8 38 false rfl rfl (gF g167)) rfl (q_eql rfl rfl rfl) ?_
                refine QChain.run rfl (.guard 8 38 false rfl rfl (gF g167)) rfl (q_move rfl rfl) ?_
                refine QChain.run rfl (.guard 11 41 true rfl rfl (gT g168)) rfl (q_move rfl rfl) ?_
                refine QChain.run rfl (.guard 11 41 true rfl rfl (gT g168)) rfl (q_len_vec rfl rfl sl31) ?_
                refine QChain.run rfl (.guard 11 41 true rfl rfl (gT g168)) rfl (q_eql rfl rfl rfl) ?_
                refine QChain.run rfl (.guard 11 41 true rfl rfl (gT g168)) rfl (q_move rfl rfl) ?_
                refine QChain.run rfl (.guard 15 45 false rfl rfl (gF g169)) rfl (q_move rfl rfl) ?_
                refine QChain.run rfl (.guard 15 45 false rfl rfl (gF g169)) rfl (q_len_vec rfl rfl sl31) ?_
                refine QChain.run rfl (.guard 15 45 false rfl rfl (gF g169)) rfl (q_gtr rfl rfl rfl) ?_
                refine QChain.run rfl (.guard 11 41 true rfl rfl (gT g168)) rfl (q_pick_f rfl rfl g169 rfl) ?_
                refine QChain.run rfl (.guard 11 41 true rfl rfl (gT g168)) rfl (q_move rfl rfl) ?_
                refine QChain.run rfl (.guard 20 50 false rfl rfl (gF g170)) rfl (q_move rfl rfl) ?_
                refine QChain.run rfl (.guard 20 50 false rfl rfl (gF g170)) rfl (q_move rfl rfl) ?_
                refine QChain.run rfl (.guard 20 50 false rfl rfl (gF g170)) rfl (q_len_vec rfl rfl sl31) ?_
                refine QChain.run rfl (.guard 20 50 false rfl rfl (gF g170)) rfl (q_sub rfl rfl rfl) ?_
                refine QChain.run rfl (.guard 20 50 false rfl rfl (gF g170)) rfl (q_index_vec rfl rfl rfl sl31 rfl g171.1 g171.2) ?_
                refine QChain.run rfl (.guard 20 50 false rfl rfl (gF g170)) rfl (q_load_eptr_all rfl rfl rfl ty26) ?_
                refine QChain.run rfl (.guard 20 50 false rfl rfl (gF g170)) rfl (q_move rfl rfl) ?_
                refine QChain.run rfl (.guard 20 50 false rfl rfl (gF g170)) rfl (q_move rfl rfl) ?_
                refine QChain.run rfl (.guard 20 50 false rfl rfl (gF g170)) rfl (q_index_vec rfl rfl rfl sl31 rfl g172.1 g172.2) ?_
                refine QChain.run rfl (.guard 20 50 false rfl rfl (gF g170)) rfl (q_load_eptr_all rfl rfl rfl ty26) ?_
                refine QChain.run rfl (.guard 20 50 false rfl rfl (gF g170)) rfl (q_call (chargenetref15_Same_ok F (c_161.1.getD (IntKind.wrap .i64 (((c_161.1).length : Int) - 1)).toNat dSProfile) (a0_l.getD i_132.toNat dSProfile) c_173 g174) [] rfl fn20 ⟨⟨rfl, rfl⟩, ⟨rfl, rfl⟩, trivial⟩ (.inl rfl)) ?_
                refine QChain.run rfl (.guard 20 50 false rfl rfl (gF g170)) rfl (q_not rfl rfl) ?_
                refine QChain.run rfl (.guard 11 41 true rfl rfl (gT g168)) rfl (q_pick_f rfl rfl g170 rfl) ?_
                refine QChain.run rfl (.guard 8 38 false rfl rfl (gF g167)) rfl (q_pick_t rfl rfl g168 rfl) ?_
                refine QChain.run rfl (.plain rfl) rfl (q_pick_f rfl rfl g167 rfl) ?_
                exact QChain.nil _ _
              refine (show SOps _ _ _ [] _ _ from ?_)
              refine SOps.sub (st' := ⟨[(0, .c (.vec a0_l.length 11 (gL cSProfile dSProfile a0_l))), (4, .c (.int .i64 i_132)), (5, .c (.vec c_161.1.length 11 (gL cSProfile dSProfile c_161.1))), (65, .c (.bool ((!c_173))))], []⟩) (sub_gen [] rfl rfl ⟨zc rfl rfl, zc rfl rfl, zc rfl rfl, zc rfl rfl, trivial⟩ trivial) ?_
              refine SOps.nil ?_
              rcases cond_out h with ⟨g175, h⟩ | ⟨g175, h⟩
              · refine SCode.cond_t rfl g175 ?_
                refine SCode.seq ?_
                refine SCode.region (show SOps _ _ _ [0] _ _ from ?_)
                refine SOps.q rfl (.plain rfl) rfl (q_assign rfl rfl) ?_
                refine SOps.sub (st' := ⟨[(2, .c (.bool false))], []⟩) (sub_gen [] rfl rfl ⟨zc rfl rfl, trivial⟩ trivial) ?_
                refine SOps.nil ?_
                refine SCode.ret ?_
                obtain rfl := Option.some.inj h
                exact ⟨⟨[(2, .c (.bool false))], []⟩, _, sub_gen [] rfl rfl ⟨zc rfl rfl, trivial⟩ trivial, resA1 (v := .c (.bool false)) rfl rfl, rfl⟩
              refine SCode.cond_f rfl g175 ?_
              refine SCode.skip ?_
              exact ⟨(), h, sub_gen [] rfl rfl ⟨zc rfl rfl, zc rfl rfl, zc rfl rfl, trivial⟩ trivial⟩
            refine SCode.draw (s' := [(65, .c (.bool false)), (64, .c (.bool false)), (63, .c (.raw (.tuple #[]))), (62, .c (.raw (.tuple #[]))), (61, .c (.raw (.tuple #[]))), (60, .c (.raw (.tuple #[]))), (59, .c (.raw (.tuple #[]))), (58, .c (.raw (.tuple #[]))), (57, .c (.raw (.tuple #[]))), (56, .c (.raw (.tuple #[]))), (55, .c (.raw (.tuple #[]))), (54, .c (.raw (.tuple #[]))), (53, .c (.raw (.tuple #[]))), (52, .c (.raw (.tuple #[]))), (51, .c (.raw (.tuple #[]))), (50, .c (.raw (.tuple #[]))), (49, .c (.raw (.tuple #[]))), (48, .c (.raw (.tuple #[]))), (47, .c (.raw (.tuple #[]))), (46, .c (.raw (.tuple #[]))), (45, .c (.raw (.tuple #[]))), (44, .c (.raw (.tuple #[]))), (43, .c (.raw (.tuple #[]))), (42, .c (.raw (.tuple #[]))), (41, .c (.bool (decide (c_161.2 = 0)))), (40, .c (.bool (decide (c_161.2 = 0)))), (39, .c (.int .i64 c_161.2)), (38, .c (.bool ((!c_165)))), (37, .c (.bool ((!c_165)))), (36, .c (.bool ((!c_165)))), (35, .c (.bool c_165)), (34, .c (.vec m_131.length 11 (gL cSProfile dSProfile m_131))), (33, .c (.vec c_161.1.length 11 (gL cSProfile dSProfile c_161.1))), (32, .c (.bool ((!decide (c_161.2 = 0))))), (31, .c (.bool ((!decide (c_161.2 = 0))))), (30, .c (.int .i64 c_161.2)), (0, .c (.vec a0_l.length 11 (gL cSProfile dSProfile a0_l))), (3, .c (.vec m_131.length 11 (gL cSProfile dSProfile m_131))), (4, .c (.int .i64 i_132)), (5, .c (.vec c_161.1.length 11 (gL cSProfile dSProfile c_161.1))), (6, .c (.int .i64 c_161.2))]) mixed [[], [0], [0, 1], [0, 1, 2], [0, 1, 2], [0, 1, 2, 3, 4], [0, 1, 2, 3, 4, 5], [0, 1, 2, 3, 4, 5, 6], [0, 1, 2, 3, 4, 5, 6, 7], [0, 1, 2, 3, 4, 5, 6, 7, 8], [0, 1, 2, 3, 4, 5, 6, 7, 8, 9], [0, 1, 2, 3, 4, 5, 6, 7, 8, 9, 10], [0, 1, 2, 3, 4, 5, 6, 7, 8, 9, 10, 11], [0, 1, 2, 3, 4, 5, 6, 7, 8, 9, 10, 11, 12], [0, 1, 2, 3, 4, 5, 6, 7, 8, 9, 10, 11, 12, 13], [0, 1, 2, 3, 4, 5, 6, 7, 8, 9, 10, 11, 12, 13, 14], [0, 1, 2, 3, 4, 5, 6, 7, 8, 9, 10, 11, 12, 13, 14, 15], [0, 1, 2, 3, 4, 5, 6, 7, 8, 9, 10, 11, 12, 13, 14, 15, 16], [0, 1, 2, 3, 4, 5, 6, 7, 8, 9, 10, 11, 12, 13, 14, 15, 16, 17], [0, 1, 2, 3, 4, 5, 6, 7, 8, 9, 10, 11, 12, 13, 14, 15, 16, 17, 18], [0, 1, 2, 3, 4, 5, 6, 7, 8, 9, 10, 11, 12, 13, 14, 15, 16, 17, 18, 19], [0, 1, 2, 3, 4, 5, 6, 7, 8, 9, 10, 11, 12, 13, 14, 15, 16, 17, 18, 19, 20], [0, 1, 2, 3, 4, 5, 6, 7, 8, 9, 10, 11, 12, 13, 14, 15, 16, 17, 18, 19, 20], [0, 1, 2, 3, 4, 5, 6, 7, 8, 9, 10, 11, 12, 13, 14, 15, 16, 17, 18, 19, 20, 22], [0, 1, 2, 3, 4, 5, 6, 7, 8, 9, 10, 11, 12, 13, 14, 15, 16, 17, 18, 19, 20, 22, 23], [0, 1, 2, 3, 4, 5, 6, 7, 8, 9, 10, 11, 12, 13, 14, 15, 16, 17, 18, 19, 20, 21, 22, 23, 24], [0, 1, 2, 3, 4, 5, 6, 7, 8, 9, 10, 11, 12, 13, 14, 15, 16, 17, 18, 19, 20, 21, 22, 23, 24, 25], [0, 1, 2, 3, 4, 5, 6, 7, 8, 9, 10, 11, 12, 13, 14, 15, 16, 17, 18, 19, 20], [0, 1, 2, 3, 4, 5, 6, 7, 8, 9, 10, 11, 12, 13, 14, 15, 16, 17, 18, 19, 20], [0, 1, 2, 3, 4, 5, 6, 7, 8, 9, 10, 11, 12, 13, 14, 15, 16, 17, 18, 19, 20, 27, 28], [0, 1, 2, 3, 4, 5, 6, 7, 8, 9, 10, 11, 12, 13, 14, 15, 16, 17, 18, 19, 20, 27, 28, 29], [0, 1, 2, 3, 4, 5, 6, 7, 8, 9, 10, 11, 12, 13, 14, 15, 16, 17, 18, 19, 20, 21, 22, 23, 24, 25, 26, 27, 28, 29, 30], [0, 1, 2, 3, 4, 5, 6, 7, 8, 9, 10, 11, 12, 13, 14, 15, 16, 17, 18, 19, 20, 21, 22, 23, 24, 25, 26, 27, 28, 29, 30, 31], [0, 1, 2, 3, 4, 5, 6, 7, 8, 9, 10, 11, 12, 13, 14, 15, 16, 17, 18, 19, 20, 21, 22, 23, 24, 25, 26, 27, 28, 29, 30, 31, 32], [0, 1, 2, 3, 4, 5, 6, 7, 8, 9, 10, 11, 12, 13, 14, 15, 16, 17, 18, 19, 20, 21, 22, 23, 24, 25, 26, 27, 28, 29, 30, 31, 32, 33], [0, 1, 2, 3, 4, 5, 6, 7, 8, 9, 10, 11, 12, 13, 14, 15, 16, 17, 18, 19, 20, 21, 22, 23, 24, 25, 26, 27, 28, 29, 30, 31, 32, 33, 34]] 36 0 rfl rfl ?_ ?_
            · refine QChain.run rfl (.plain rfl) rfl (q_move rfl rfl) ?_
              refine QChain.run rfl (.plain rfl) rfl (q_neq rfl rfl rfl) ?_
              refine QChain.run rfl (.plain rfl) rfl (q_move rfl rfl) ?_
              refine QChain.run rfl (.guard 2 32 true rfl rfl (gT g164)) rfl (q_move rfl rfl) ?_
              refine QChain.run rfl (.guard 2 32 true rfl rfl (gT g164)) rfl (q_move rfl rfl) ?_
              refine QChain.run rfl (.guard 2 32 true rfl rfl (gT g164)) rfl (q_call (chargenetref15_SameAll_ok F c_161.1 m_131 c_165 g166) [] rfl fn17 ⟨⟨_, rfl, .inl ⟨rfl, rfl⟩⟩, ⟨_, rfl, .inl ⟨rfl, rfl⟩⟩, trivial⟩ (.inl rfl)) ?_
              refine QChain.run rfl (.guard 2 32 true rfl rfl (gT g164)) rfl (q_not rfl rfl) ?_
              refine QChain.run rfl (.plain rfl) rfl (q_pick_t rfl rfl g164 rfl) ?_
              refine QChain.run rfl (.plain rfl) rfl (q_move rfl rfl) ?_
              refine QChain.run rfl (.guard 8 38 false rfl rfl (gF g167)) rfl (q_move rfl rfl) ?_
              refine QChain.run rfl (.guard 8 38 false rfl rfl (gF g167)) rfl (q_eql rfl rfl rfl) ?_
              refine QChain.run rfl (.guard 8 38 false rfl rfl (gF g167)) rfl (q_move rfl rfl) ?_
              refine QChain.skip rfl ⟨11, 41, true, rfl, rfl, (.inl (gF g168))⟩ rfl ?_
              refine QChain.skip rfl ⟨11, 41, true, rfl, rfl, (.inl (gF g168))⟩ rfl ?_
              refine QChain.skip rfl ⟨11, 41, true, rfl, rfl, (.inl (gF g168))⟩ rfl ?_
              refine QChain.skip rfl ⟨11, 41, true, rfl, rfl, (.inl (gF g168))⟩ rfl ?_
              refine QChain.skip rfl ⟨15, 45, false, rfl, rfl, (.inr rfl)⟩ rfl ?_
              refine QChain.skip rfl ⟨15, 45, false, rfl, rfl, (.inr rfl)⟩ rfl ?_
              refine QChain.skip rfl ⟨15, 45, false, rfl, rfl, (.inr rfl)⟩ rfl ?_
              refine QChain.skip rfl ⟨11, 41, true, rfl, rfl, (.inl (gF g168))⟩ rfl ?_
              refine QChain.skip rfl ⟨11, 41, true, rfl, rfl, (.inl (gF g168))⟩ rfl ?_
              refine QChain.skip rfl ⟨20, 50, false, rfl, rfl, (.inr rfl)⟩ rfl ?_
              refine QChain.skip rfl ⟨20, 50, false, rfl, rfl, (.inr rfl)⟩ rfl ?_
              refine QChain.skip rfl ⟨20, 50, false, rfl, rfl, (.inr rfl)⟩ rfl ?_
              refine QChain.skip rfl ⟨20, 50, false, rfl, rfl, (.inr rfl)⟩ rfl ?_
              refine QChain.skip rfl ⟨20, 50, false, rfl, rfl, (.inr rfl)⟩ rfl ?_
              refine QChain.skip rfl ⟨20, 50, false, rfl, rfl, (.inr rfl)⟩ rfl ?_
              refine QChain.skip rfl ⟨20, 50, false, rfl, rfl, (.inr rfl)⟩ rfl ?_
              refine QChain.skip rfl ⟨20, 50, false, rfl, rfl, (.inr rfl)⟩ rfl ?_
              refine QChain.skip rfl ⟨20, 50, false, rfl, rfl, (.inr rfl)⟩ rfl ?_
              refine QChain.skip rfl ⟨20, 50, false, rfl, rfl, (.inr rfl)⟩ rfl ?_
              refine QChain.skip rfl ⟨20, 50, false, rfl, rfl, (.inr rfl)⟩ rfl ?_
              refine QChain.skip rfl ⟨20, 50, false, rfl, rfl, (.inr rfl)⟩ rfl ?_
              refine QChain.skip rfl ⟨11, 41, true, rfl, rfl, (.inl (gF g168))⟩ rfl ?_
              refine QChain.run rfl (.guard 8 38 false rfl rfl (gF g167)) rfl (q_pick_f rfl rfl g168 rfl) ?_
              refine QChain.run rfl (.plain rfl) rfl (q_pick_f rfl rfl g167 rfl) ?_
              exact QChain.nil _ _
            refine (show SOps _ _ _ [] _ _ from ?_)
            refine SOps.sub (st' := ⟨[(0, .c (.vec a0_l.length 11 (gL cSProfile dSProfile a0_l))), (4, .c (.int .i64 i_132)), (5, .c (.vec c_161.1.length 11 (gL cSProfile dSProfile c_161.1))), (65, .c (.bool false))], []⟩) (sub_gen [] rfl rfl ⟨zc rfl rfl, zc rfl rfl, zc rfl rfl, zc rfl rfl, trivial⟩ trivial) ?_
            refine SOps.nil ?_
            refine SCode.cond_f rfl rfl ?_
            refine SCode.skip ?_
            exact ⟨(), h, sub_gen [] rfl rfl ⟨zc rfl rfl, zc rfl rfl, zc rfl rfl, trivial⟩ trivial⟩
          rcases cond_out h with ⟨g176, h⟩ | ⟨g176, h⟩
          · rcases cond_out h with ⟨g177, h⟩ | ⟨g177, h⟩
            · refine SCode.draw (s' := [(65, .c (.bool true)), (64, .c (.bool true)), (63, .c (.bool true)), (62, .c (.raw (.tuple #[]))), (61, .c (.raw (.tuple #[]))), (60, .c (.raw (.tuple #[]))), (59, .c (.raw (.tuple #[]))), (58, .c (.raw (.tuple #[]))), (57, .c (.raw (.tuple #[]))), (56, .c (.raw (.tuple #[]))), (55, .c (.raw (.tuple #[]))), (54, .c (.raw (.tuple #[]))), (53, .c (.raw (.tuple #[]))), (52, .c (.raw (.tuple #[]))), (51, .c (.raw (.tuple #[]))), (50, .c (.bool true)), (49, .c (.bool true)), (48, .c (.raw (.tuple #[]))), (47, .c (.raw (.tuple #[]))), (46, .c (.raw (.tuple #[]))), (45, .c (.bool (decide (((c_161.1).length : Int) = 0)))), (44, .c (.bool (decide (((c_161.1).length : Int) = 0)))), (43, .c (.int .i64 (((c_161.1).length : Int)))), (42, .c (.vec c_161.1.length 11 (gL cSProfile dSProfile c_161.1))), (41, .c (.bool (decide (c_161.2 = 0)))), (40, .c (.bool (decide (c_161.2 = 0)))), (39, .c (.int .i64 c_161.2)), (38, .c (.bool false)), (37, .c (.bool false)), (36, .c (.raw (.tuple #[]))), (35, .c (.raw (.tuple #[]))), (34, .c (.raw (.tuple #[]))), (33, .c (.raw (.tuple #[]))), (32, .c (.bool ((!decide (c_161.2 = 0))))), (31, .c (.bool ((!decide (c_161.2 = 0))))), (30, .c (.int .i64 c_161.2)), (0, .c (.vec a0_l.length 11 (gL cSProfile dSProfile a0_l))), (3, .c (.vec m_131.length 11 (gL cSProfile dSProfile m_131))), (4, .c (.int .i64 i_132)), (5, .c (.vec c_161.1.length 11 (gL cSProfile dSProfile c_161.1))), (6, .c (.int .i64 c_161.2))]) mixed [[], [0], [0, 1], [0, 1, 2], [0, 1, 2], [0, 1, 2, 3, 4], [0, 1, 2, 3, 4, 5], [0, 1, 2, 3, 4, 5, 6], [0, 1, 2, 3, 4, 5, 6, 7], [0, 1, 2, 3, 4, 5, 6, 7, 8], [0, 1, 2, 3, 4, 5, 6, 7, 8, 9], [0, 1, 2, 3, 4, 5, 6, 7, 8, 9, 10], [0, 1, 2, 3, 4, 5, 6, 7, 8, 9, 10, 11], [0, 1, 2, 3, 4, 5, 6, 7, 8, 9, 10, 11, 12], [0, 1, 2, 3, 4, 5, 6, 7, 8, 9, 10, 11, 12, 13], [0, 1, 2, 3, 4, 5, 6, 7, 8, 9, 10, 11, 12, 13, 14], [0, 1, 2, 3, 4, 5, 6, 7, 8, 9, 10, 11, 12, 13, 14, 15], [0, 1, 2, 3, 4, 5, 6, 7, 8, 9, 10, 11, 12, 13, 14, 15, 16], [0, 1, 2, 3, 4, 5, 6, 7, 8, 9, 10, 11, 12, 13, 14, 15, 16, 17], [0, 1, 2, 3, 4, 5, 6, 7, 8, 9, 10, 11, 12, 13, 14, 15, 16, 17, 18], [0, 1, 2, 3, 4, 5, 6, 7, 8, 9, 10, 11, 12, 13, 14, 15, 16, 17, 18, 19], [0, 1, 2, 3, 4, 5, 6, 7, 8, 9, 10, 11, 12, 13, 14, 15, 16, 17, 18, 19, 20], [0, 1, 2, 3, 4, 5, 6, 7, 8, 9, 10, 11, 12, 13, 14, 15, 16, 17, 18, 19, 20], [0, 1, 2, 3, 4, 5, 6, 7, 8, 9, 10, 11, 12, 13, 14, 15, 16, 17, 18, 19, 20, 22], [0, 1, 2, 3, 4, 5, 6, 7, 8, 9, 10, 11, 12, 13, 14, 15, 16, 17, 18, 19, 20, 22, 23], [0, 1, 2, 3, 4, 5, 6, 7, 8, 9, 10, 11, 12, 13, 14, 15, 16, 17, 18, 19, 20, 21, 22, 23, 24], [0, 1, 2, 3, 4, 5, 6, 7, 8, 9, 10, 11, 12, 13, 14, 15, 16, 17, 18, 19, 20, 21, 22, 23, 24, 25], [0, 1, 2, 3, 4, 5, 6, 7, 8, 9, 10, 11, 12, 13, 14, 15, 16, 17, 18, 19, 20], [0, 1, 2, 3, 4, 5, 6, 7, 8, 9, 10, 11, 12, 13, 14, 15, 16, 17, 18, 19, 20], [0, 1, 2, 3, 4, 5, 6, 7, 8, 9, 10, 11, 12, 13, 14, 15, 16, 17, 18, 19, 20, 27, 28], [0, 1, 2, 3, 4, 5, 6, 7, 8, 9, 10, 11, 12, 13, 14, 15, 16, 17, 18, 19, 20, 27, 28, 29], [0, 1, 2, 3, 4, 5, 6, 7, 8, 9, 10, 11, 12, 13, 14, 15, 16, 17, 18, 19, 20, 21, 22, 23, 24, 25, 26, 27, 28, 29, 30], [0, 1, 2, 3, 4, 5, 6, 7, 8, 9, 10, 11, 12, 13, 14, 15, 16, 17, 18, 19, 20, 21, 22, 23, 24, 25, 26, 27, 28, 29, 30, 31], [0, 1, 2, 3, 4, 5, 6, 7, 8, 9, 10, 11, 12, 13, 14, 15, 16, 17, 18, 19, 20, 21, 22, 23, 24, 25, 26, 27, 28, 29, 30, 31, 32], [0, 1, 2, 3, 4, 5, 6, 7, 8, 9, 10, 11, 12, 13, 14, 15, 16, 17, 18, 19, 20, 21, 22, 23, 24, 25, 26, 27, 28, 29, 30, 31, 32, 33], [0, 1, 2, 3, 4, 5, 6, 7, 8, 9, 10, 11, 12, 13, 14, 15, 16, 17, 18, 19, 20, 21, 22, 23, 24, 25, 26, 27, 28, 29, 30, 31, 32, 33, 34]] 36 0 rfl rfl ?_ ?_
              · refine QChain.run rfl (.plain rfl) rfl (q_move rfl rfl) ?_
                refine QChain.run rfl (.plain rfl) rfl (q_neq rfl rfl rfl) ?_
                refine QChain.run rfl (.plain rfl) rfl (q_move rfl rfl) ?_
                refine QChain.skip rfl ⟨2, 32, true, rfl, rfl, (.inl (gF g164))⟩ rfl ?_
                refine QChain.skip rfl ⟨2, 32, true, rfl, rfl, (.inl (gF g164))⟩ rfl ?_
                refine QChain.skip rfl ⟨2, 32, true, rfl, rfl, (.inl (gF g164))⟩ rfl ?_
                refine QChain.skip rfl ⟨2, 32, true, rfl, rfl, (.inl (gF g164))⟩ rfl ?_
                refine QChain.run rfl (.plain rfl) rfl (q_pick_f rfl rfl g164 rfl) ?_
                refine QChain.run rfl (.plain rfl) rfl (q_move rfl rfl) ?_
                refine QChain.run rfl (.guard 8 38 false rfl rfl rfl) rfl (q_move rfl rfl) ?_
                refine QChain.run rfl (.guard 8 38 false rfl rfl rfl) rfl (q_eql rfl rfl rfl) ?_
                refine QChain.run rfl (.guard 8 38 false rfl rfl rfl) rfl (q_move rfl rfl) ?_
                refine QChain.run rfl (.guard 11 41 true rfl rfl (gT g176)) rfl (q_move rfl rfl) ?_
                refine QChain.run rfl (.guard 11 41 true rfl rfl (gT g176)) rfl (q_len_vec rfl rfl sl31) ?_
                refine QChain.run rfl (.guard 11 41 true rfl rfl (gT g176)) rfl (q_eql rfl rfl rfl) ?_
                refine QChain.run rfl (.guard 11 41 true rfl rfl (gT g176)) rfl (q_move rfl rfl) ?_
                refine QChain.skip rfl ⟨15, 45, false, rfl, rfl, (.inl (gT g177))⟩ rfl ?_
                refine QChain.skip rfl ⟨15, 45, false, rfl, rfl, (.inl (gT g177))⟩ rfl ?_
                refine QChain.skip rfl ⟨15, 45, false, rfl, rfl, (.inl (gT g177))⟩ rfl ?_
                refine QChain.run rfl (.guard 11 41 true rfl rfl (gT g176)) rfl (q_pick_t rfl rfl g177 rfl) ?_
                refine QChain.run rfl (.guard 11 41 true rfl rfl (gT g176)) rfl (q_move rfl rfl) ?_
                refine QChain.skip rfl ⟨20, 50, false, rfl, rfl, (.inl rfl)⟩ rfl ?_
                refine QChain.skip rfl ⟨20, 50, false, rfl, rfl, (.inl rfl)⟩ rfl ?_
                refine QChain.skip rfl ⟨20, 50, false, rfl, rfl, (.inl rfl)⟩ rfl ?_
                refine QChain.skip rfl ⟨20, 50, false, rfl, rfl, (.inl rfl)⟩ rfl ?_
                refine QChain.skip rfl ⟨20, 50, false, rfl, rfl, (.inl rfl)⟩ rfl ?_
                refine QChain.skip rfl ⟨20, 50, false, rfl, rfl, (.inl rfl)⟩ rfl ?_
                refine QChain.skip rfl ⟨20, 50, false, rfl, rfl, (.inl rfl)⟩ rfl ?_
                refine QChain.skip rfl ⟨20, 50, false, rfl, rfl, (.inl rfl)⟩ rfl ?_
                refine QChain.skip rfl ⟨20, 50, false, rfl, rfl, (.inl rfl)⟩ rfl ?_
                refine QChain.skip rfl ⟨20, 50, false, rfl, rfl, (.inl rfl)⟩ rfl ?_
                refine QChain.skip rfl ⟨20, 50, false, rfl, rfl, (.inl rfl)⟩ rfl ?_
                refine QChain.skip rfl ⟨20, 50, false, rfl, rfl, (.inl rfl)⟩ rfl ?_
                refine QChain.run rfl (.guard 11 41 true rfl rfl (gT g176)) rfl (q_pick_t rfl rfl rfl rfl) ?_
                refine QChain.run rfl (.guard 8 38 false rfl rfl rfl) rfl (q_pick_t rfl rfl g176 rfl) ?_
                refine QChain.run rfl (.plain rfl) rfl (q_pick_f rfl rfl rfl rfl) ?_
                exact QChain.nil _ _
              refine (show SOps _ _ _ [] _ _ from ?_)
              refine SOps.sub (st' := ⟨[(0, .c (.vec a0_l.length 11 (gL cSProfile dSProfile a0_l))), (4, .c (.int .i64 i_132)), (5, .c (.vec c_161.1.length 11 (gL cSProfile dSProfile c_161.1))), (65, .c (.bool true))], []⟩) (sub_gen [] rfl rfl ⟨zc rfl rfl, zc rfl rfl, zc rfl rfl, zc rfl rfl, trivial⟩ trivial) ?_
              refine SOps.nil ?_
              refine SCode.cond_t rfl rfl ?_
              refine SCode.seq ?_
              refine SCode.region (show SOps _ _ _ [0] _ _ from ?_)
              refine SOps.q rfl (.plain rfl) rfl (q_assign rfl rfl) ?_
              refine SOps.sub (st' := ⟨[(2, .c (.bool false))], []⟩) (sub_gen [] rfl rfl ⟨zc rfl rfl, trivial⟩ trivial) ?_
              refine SOps.nil ?_
              refine SCode.ret ?_
              obtain rfl := Option.some.inj h
              exact ⟨⟨[(2, .c (.bool false))], []⟩, _, sub_gen [] rfl rfl ⟨zc rfl rfl, trivial⟩ trivial, resA1 (v := .c (.bool false)) rfl rfl, rfl⟩
            rcases cond_out h with ⟨g178, h⟩ | ⟨g178, h⟩
            · refine SCode.draw (s' := [(65, .c (.bool true)), (64, .c (.bool true)), (63, .c (.bool true)), (62, .c (.raw (.tuple #[]))), (61, .c (.raw (.tuple #[]))), (60, .c (.raw (.tuple #[]))), (59, .c (.raw (.tuple #[]))), (58, .c (.raw (.tuple #[]))), (57, .c (.raw (.tuple #[]))), (56, .c (.raw (.tuple #[]))), (55, .c (.raw (.tuple #[]))), (54, .c (.raw (.tuple #[]))), (53, .c (.raw (.tuple #[]))), (52, .c (.raw (.tuple #[]))), (51, .c (.raw (.tuple #[]))), (50, .c (.bool (decide (16 < ((c_161.1).length : Int))))), (49, .c (.bool (decide (16 < ((c_161.1).length : Int))))), (48, .c (.bool (decide (16 < ((c_161.1).length : Int))))), (47, .c (.int .i64 (((c_161.1).length : Int)))), (46, .c (.vec c_161.1.length 11 (gL cSProfile dSProfile c_161.1))), (45, .c (.bool (decide (((c_161.1).length : Int) = 0)))), (44, .c (.bool (decide (((c_161.1).length : Int) = 0)))), (43, .c (.int .i64 (((c_161.1).length : Int)))), (42, .c (.vec c_161.1.length 11 (gL cSProfile dSProfile c_161.1))), (41, .c (.bool (decide (c_161.2 = 0)))), (40, .c (.bool (decide (c_161.2 = 0)))), (39, .c (.int .i64 c_161.2)), (38, .c (.bool false)), (37, .c (.bool false)), (36, .c (.raw (.tuple #[]))), (35, .c (.raw (.tuple #[]))), (34, .c (.raw (.tuple #[]))), (33, .c (.raw (.tuple #[]))), (32, .c (.bool ((!decide (c_161.2 = 0))))), (31, .c (.bool ((!decide (c_161.2 = 0))))), (30, .c (.int .i64 c_161.2)), (0, .c (.vec a0_l.length 11 (gL cSProfile dSProfile a0_l))), (3, .c (.vec m_131.length 11 (gL cSProfile dSProfile m_131))), (4, .c (.int .i64 i_132)), (5, .c (.vec c_161.1.length 11 (gL cSProfile dSProfile c_161.1))), (6, .c (.int .i64 c_161.2))]) mixed [[], [0], [0, 1], [0, 1, 2], [0, 1, 2], [0, 1, 2, 3, 4], [0, 1, 2, 3, 4, 5], [0, 1, 2, 3, 4, 5, 6], [0, 1, 2, 3, 4, 5, 6, 7], [0, 1, 2, 3, 4, 5, 6, 7, 8], [0, 1, 2, 3, 4, 5, 6, 7, 8, 9], [0, 1, 2, 3, 4, 5, 6, 7, 8, 9, 10], [0, 1, 2, 3, 4, 5, 6, 7, 8, 9, 10, 11], [0, 1, 2, 3, 4, 5, 6, 7, 8, 9, 10, 11, 12], [0, 1, 2, 3, 4, 5, 6, 7, 8, 9, 10, 11, 12, 13], [0, 1, 2, 3, 4, 5, 6, 7, 8, 9, 10, 11, 12, 13, 14], [0, 1, 2, 3, 4, 5, 6, 7, 8, 9, 10, 11, 12, 13, 14, 15], [0, 1, 2, 3, 4, 5, 6, 7, 8, 9, 10, 11, 12, 13, 14, 15, 16], [0, 1, 2, 3, 4, 5, 6, 7, 8, 9, 10, 11, 12, 13, 14, 15, 16, 17], [0, 1, 2, 3, 4, 5, 6, 7, 8, 9, 10, 11, 12, 13, 14, 15, 16, 17, 18], [0, 1, 2, 3, 4, 5, 6, 7, 8, 9, 10, 11, 12, 13, 14, 15, 16, 17, 18, 19], [0, 1, 2, 3, 4, 5, 6, 7, 8, 9, 10, 11, 12, 13, 14, 15, 16, 17, 18, 19, 20], [0, 1, 2, 3, 4, 5, 6, 7, 8, 9, 10, 11, 12, 13, 14, 15, 16, 17, 18, 19, 20], [0, 1, 2, 3, 4, 5, 6, 7, 8, 9, 10, 11, 12, 13, 14, 15, 16, 17, 18, 19, 20, 22], [0, 1, 2, 3, 4, 5, 6, 7, 8, 9, 10, 11, 12, 13, 14, 15, 16, 17, 18, 19, 20, 22, 23], [0, 1, 2, 3, 4, 5, 6, 7, 8, 9, 10, 11, 12, 13, 14, 15, 16, 17, 18, 19, 20, 21, 22, 23, 24], [0, 1, 2, 3, 4, 5, 6, 7, 8, 9, 10, 11, 12, 13, 14, 15, 16, 17, 18, 19, 20, 21, 22, 23, 24, 25], [0, 1, 2, 3, 4, 5, 6, 7, 8, 9, 10, 11, 12, 13, 14, 15, 16, 17, 18, 19, 20], [0, 1, 2, 3, 4, 5, 6, 7, 8, 9, 10, 11, 12, 13, 14, 15, 16, 17, 18, 19, 20], [0, 1, 2, 3, 4, 5, 6, 7, 8, 9, 10, 11, 12, 13, 14, 15, 16, 17, 18, 19, 20, 27, 28], [0, 1, 2, 3, 4, 5, 6, 7, 8, 9, 10, 11, 12, 13, 14, 15, 16, 17, 18, 19, 20, 27, 28, 29], [0, 1, 2, 3, 4, 5, 6, 7, 8, 9, 10, 11, 12, 13, 14, 15, 16, 17, 18, 19, 20, 21, 22, 23, 24, 25, 26, 27, 28, 29, 30], [0, 1, 2, 3, 4, 5, 6, 7, 8, 9, 10, 11, 12, 13, 14, 15, 16, 17, 18, 19, 20, 21, 22, 23, 24, 25, 26, 27, 28, 29, 30, 31], [0, 1, 2, 3, 4, 5, 6, 7, 8, 9, 10, 11, 12, 13, 14, 15, 16, 17, 18, 19, 20, 21, 22, 23, 24, 25, 26, 27, 28, 29, 30, 31, 32], [0, 1, 2, 3, 4, 5, 6, 7, 8, 9, 10, 11, 12, 13, 14, 15, 16, 17, 18, 19, 20, 21, 22, 23, 24, 25, 26, 27, 28, 29, 30, 31, 32, 33], [0, 1, 2, 3, 4, 5, 6, 7, 8, 9, 10, 11, 12, 13, 14, 15, 16, 17, 18, 19, 20, 21, 22, 23, 24, 25, 26, 27, 28, 29, 30, 31, 32, 33, 34]] 36 0 rfl rfl ?_ ?_
              · refine QChain.run rfl (.plain rfl) rfl (q_move rfl rfl) ?_
                refine QChain.run rfl (.plain rfl) rfl (q_neq rfl rfl rfl) ?_
                refine QChain.run rfl (.plain rfl) rfl (q_move rfl rfl) ?_
                refine QChain.skip rfl ⟨2, 32, true, rfl, rfl, (.inl (gF g164))⟩ rfl ?_
                refine QChain.skip rfl ⟨2, 32, true, rfl, rfl, (.inl (gF g164))⟩ rfl ?_
                refine QChain.skip rfl ⟨2, 32, true, rfl, rfl, (.inl (gF g164))⟩ rfl ?_
                refine QChain.skip rfl ⟨2, 32, true, rfl, rfl, (.inl (gF g164))⟩ rfl ?_
                refine QChain.run rfl (.plain rfl) rfl (q_pick_f rfl rfl g164 rfl) ?_
                refine QChain.run rfl (.plain rfl) rfl (q_move rfl rfl) ?_
                refine QChain.run rfl (.guard 8 38 false rfl rfl rfl) rfl (q_move rfl rfl) ?_
                refine QChain.run rfl (.guard 8 38 false rfl rfl rfl) rfl (q_eql rfl rfl rfl) ?_
                refine QChain.run rfl (.guard 8 38 false rfl rfl rfl) rfl (q_move rfl rfl) ?_
                refine QChain.run rfl (.guard 11 41 true rfl rfl (gT g176)) rfl (q_move rfl rfl) ?_
                refine QChain.run rfl (.guard 11 41 true rfl rfl (gT g176)) rfl (q_len_vec rfl rfl sl31) ?_
                refine QChain.run rfl (.guard 11 41 true rfl rfl (gT g176)) rfl (q_eql rfl rfl rfl) ?_
                refine QChain.run rfl (.guard 11 41 true rfl rfl (gT g176)) rfl (q_move rfl rfl) ?_
                refine QChain.run rfl (.guard 15 45 false rfl rfl (gF g177)) rfl (q_move rfl rfl) ?_
                refine QChain.run rfl (.guard 15 45 false rfl rfl (gF g177)) rfl (q_len_vec rfl rfl sl31) ?_
                refine QChain.run rfl (.guard 15 45 false rfl rfl (gF g177)) rfl (q_gtr rfl rfl rfl) ?_
                refine QChain.run rfl (.guard 11 41 true rfl rfl (gT g176)) rfl (q_pick_f rfl rfl g177 rfl) ?_
                refine QChain.run rfl (.guard 11 41 true rfl rfl (gT g176)) rfl (q_move rfl rfl) ?_
                refine QChain.skip rfl ⟨20, 50, false, rfl, rfl, (.inl (gT g178))⟩ rfl ?_
                refine QChain.skip rfl ⟨20, 50, false, rfl, rfl, (.inl (gT g178))⟩ rfl ?_
                refine QChain.skip rfl ⟨20, 50, false, rfl, rfl, (.inl (gT g178))⟩ rfl ?_
                refine QChain.skip rfl ⟨20, 50, false, rfl, rfl, (.inl (gT g178))⟩ rfl ?_
                refine QChain.skip rfl ⟨20, 50, false, rfl, rfl, (.inl (gT g178))⟩ rfl ?_
                refine QChain.skip rfl ⟨20, 50, false, rfl, rfl, (.inl (gT g178))⟩ rfl ?_
                refine QChain.skip rfl ⟨20, 50, false, rfl, rfl, (.inl (gT g178))⟩ rfl ?_
                refine QChain.skip rfl ⟨20, 50, false, rfl, rfl, (.inl (gT g178))⟩ rfl ?_
                refine QChain.skip rfl ⟨20, 50, false, rfl, rfl, (.inl (gT g178))⟩ rfl ?_
                refine QChain.skip rfl ⟨20, 50, false, rfl, rfl, (.inl (gT g178))⟩ rfl ?_
                refine QChain.skip rfl ⟨20, 50, false, rfl, rfl, (.inl (gT g178))⟩ rfl ?_
                refine QChain.skip rfl ⟨20, 50, false, rfl, rfl, (.inl (gT g178))⟩ rfl ?_
                refine QChain.run rfl (.guard 11 41 true rfl rfl (gT g176)) rfl (q_pick_t rfl rfl g178 rfl) ?_
                refine QChain.run rfl (.guard 8 38 false rfl rfl rfl) rfl (q_pick_t rfl rfl g176 rfl) ?_
                refine QChain.run rfl (.plain rfl) rfl (q_pick_f rfl rfl rfl rfl) ?_
                exact QChain.nil _ _
              refine (show SOps _ _ _ [] _ _ from ?_)
              refine SOps.sub (st' := ⟨[(0, .c (.vec a0_l.length 11 (gL cSProfile dSProfile a0_l))), (4, .c (.int .i64 i_132)), (5, .c (.vec c_161.1.length 11 (gL cSProfile dSProfile c_161.1))), (65, .c (.bool true))], []⟩) (sub_gen [] rfl rfl ⟨zc rfl rfl, zc rfl rfl, zc rfl rfl, zc rfl rfl, trivial⟩ trivial) ?_
              refine SOps.nil ?_
              refine SCode.cond_t rfl rfl ?_
              refine SCode.seq ?_
              refine SCode.region (show SOps _ _ _ [0] _ _ from ?_)
              refine SOps.q rfl (.plain rfl) rfl (q_assign rfl rfl) ?_
              refine SOps.sub (st' := ⟨[(2, .c (.bool false))], []⟩) (sub_gen [] rfl rfl ⟨zc rfl rfl, trivial⟩ trivial) ?_
              refine SOps.nil ?_
              refine SCode.ret ?_
              obtain rfl := Option.some.inj h
              exact ⟨⟨[(2, .c (.bool false))], []⟩, _, sub_gen [] rfl rfl ⟨zc rfl rfl, trivial⟩ trivial, resA1 (v := .c (.bool false)) rfl rfl, rfl⟩
            obtain ⟨g179, h⟩ := guard_out h
            obtain ⟨g180, h⟩ := guard_out h
            obtain ⟨c_181, g182, h⟩ := bind_out h
            try dsimp only at h
            refine SCode.draw (s' := [(65, .c (.bool ((!c_181)))), (64, .c (.bool ((!c_181)))), (63, .c (.bool ((!c_181)))), (62, .c (.bool ((!c_181)))), (61, .c (.bool c_181)), (60, .a [.int .i64 ((a0_l.getD i_132.toNat dSProfile).ID), .int .i64 ((a0_l.getD i_132.toNat dSProfile).Level), .int .i64 ((a0_l.getD i_132.toNat dSProfile).Purpose), .int .i64 ((a0_l.getD i_132.toNat dSProfile).Kind), .int .i64 ((a0_l.getD i_132.toNat dSProfile).Conn), .str ((a0_l.getD i_132.toNat dSProfile).Txn), .int .i64 ((a0_l.getD i_132.toNat dSProfile).Span_From), .int .i64 ((a0_l.getD i_132.toNat dSProfile).Span_To), .int .i64 ((a0_l.getD i_132.toNat dSProfile).Start), .int .i64 ((a0_l.getD i_132.toNat dSProfile).Duration), .vec ((a0_l.getD i_132.toNat dSProfile).Periods).length 2 (gL cSPeriod dSPeriod ((a0_l.getD i_132.toNat dSProfile).Periods))]), (59, .c (.eptr 11 (cSProfile (a0_l.getD i_132.toNat dSProfile)) 0)), (58, .c (.int .i64 i_132)), (57, .c (.vec a0_l.length 11 (gL cSProfile dSProfile a0_l))), (56, .a [.int .i64 ((c_161.1.getD (IntKind.wrap .i64 (((c_161.1).length : Int) - 1)).toNat dSProfile).ID), .int .i64 ((c_161.1.getD (IntKind.wrap .i64 (((c_161.1).length : Int) - 1)).toNat dSProfile).Level), .int .i64 ((c_161.1.getD (IntKind.wrap .i64 (((c_161.1).length : Int) - 1)).toNat dSProfile).Purpose), .int .i64 ((c_161.1.getD (IntKind.wrap .i64 (((c_161.1).length : Int) - 1)).toNat dSProfile).Kind), .int .i64 ((c_161.1.getD (IntKind.wrap .i64 (((c_161.1).length : Int) - 1)).toNat dSProfile).Conn), .str ((c_161.1.getD (IntKind.wrap .i64 (((c_161.1).length : Int) - 1)).toNat dSProfile).Txn), .int .i64 ((c_161.1.getD (IntKind.wrap .i64 (((c_161.1).length : Int) - 1)).toNat dSProfile).Span_From), .int .i64 ((c_161.1.getD (IntKind.wrap .i64 (((c_161.1).length : Int) - 1)).toNat dSProfile).Span_To), .int .i64 ((c_161.1.getD (IntKind.wrap .i64 (((c_161.1).length : Int) - 1)).toNat dSProfile).Start), .int .i64 ((c_161.1.getD (IntKind.wrap .i64 (((c_161.1).length : Int) - 1)).toNat dSProfile).Duration), .vec ((c_161.1.getD (IntKind.wrap .i64 (((c_161.1).length : Int) - 1)).toNat dSProfile).Periods).length 2 (gL cSPeriod dSPeriod ((c_161.1.getD (IntKind.wrap .i64 (((c_161.1).length : Int) - 1)).toNat dSProfile).Periods))]), (55, .c (.eptr 11 (cSProfile (c_161.1.getD (IntKind.wrap .i64 (((c_161.1).length : Int) - 1)).toNat dSProfile)) 0)), (54, .c (.int .i64 (IntKind.wrap .i64 (((c_161.1).length : Int) - 1)))), (53, .c (.int .i64 (((c_161.1).length : Int)))), (52, .c (.vec c_161.1.length 11 (gL cSProfile dSProfile c_161.1))), (51, .c (.vec c_161.1.length 11 (gL cSProfile dSProfile c_161.1))), (50, .c (.bool (decide (16 < ((c_161.1).length : Int))))), (49, .c (.bool (decide (16 < ((c_161.1).length : Int))))), (48, .c (.bool (decide (16 < ((c_161.1).length : Int))))), (47, .c (.int .i64 (((c_161.1).length : Int)))), (46, .c (.vec c_161.1.length 11 (gL cSProfile dSProfile c_161.1))), (45, .c (.bool (decide (((c_161.1).length : Int) = 0)))), (44, .c (.bool (decide (((c_161.1).length : Int) = 0)))), (43, .c (.int .i64 (((c_161.1).length : Int)))), (42, .c (.vec c_161.1.length 11 (gL cSProfile dSProfile c_161.1))), (41, .c (.bool (decide (c_161.2 = 0)))), (40, .c (.bool (decide (c_161.2 = 0)))), (39, .c (.int .i64 c_161.2)), (38, .c (.bool false)), (37, .c (.bool false)), (36, .c (.raw (.tuple #[]))), (35, .c (.raw (.tuple #[]))), (34, .c (.raw (.tuple #[]))), (33, .c (.raw (.tuple #[]))), (32, .c (.bool ((!decide (c_161.2 = 0))))), (31, .c (.bool ((!decide (c_161.2 = 0))))), (30, .c (.int .i64 c_161.2)), (0, .c (.vec a0_l.length 11 (gL cSProfile dSProfile a0_l))), (3, .c (.vec m_131.length 11 (gL cSProfile dSProfile m_131))), (4, .c (.int .i64 i_132)), (5, .c (.vec c_161.1.length 11 (gL cSProfile dSProfile c_161.1))), (6, .c (.int .i64 c_161.2))]) mixed [[], [0], [0, 1], [0, 1, 2], [0, 1, 2], [0, 1, 2, 3, 4], [0, 1, 2, 3, 4, 5], [0, 1, 2, 3, 4, 5, 6], [0, 1, 2, 3, 4, 5, 6, 7], [0, 1, 2, 3, 4, 5, 6, 7, 8], [0, 1, 2, 3, 4, 5, 6, 7, 8, 9], [0, 1, 2, 3, 4, 5, 6, 7, 8, 9, 10], [0, 1, 2, 3, 4, 5, 6, 7, 8, 9, 10, 11], [0, 1, 2, 3, 4, 5, 6, 7, 8, 9, 10, 11, 12], [0, 1, 2, 3, 4, 5, 6, 7, 8, 9, 10, 11, 12, 13], [0, 1, 2, 3, 4, 5, 6, 7, 8, 9, 10, 11, 12, 13, 14], [0, 1, 2, 3, 4, 5, 6, 7, 8, 9, 10, 11, 12, 13, 14, 15], [0, 1, 2, 3, 4, 5, 6, 7, 8, 9, 10, 11, 12, 13, 14, 15, 16], [0, 1, 2, 3, 4, 5, 6, 7, 8, 9, 10, 11, 12, 13, 14, 15, 16, 17], [0, 1, 2, 3, 4, 5, 6, 7, 8, 9, 10, 11, 12, 13, 14, 15, 16, 17, 18], [0, 1, 2, 3, 4, 5, 6, 7, 8, 9, 10, 11, 12, 13, 14, 15, 16, 17, 18, 19], [0, 1, 2, 3, 4, 5, 6, 7, 8, 9, 10, 11, 12, 13, 14, 15, 16, 17, 18, 19, 20], [0, 1, 2, 3, 4, 5, 6, 7, 8, 9, 10, 11, 12, 13, 14, 15, 16, 17, 18, 19, 20], [0, 1, 2, 3, 4, 5, 6, 7, 8, 9, 10, 11, 12, 13, 14, 15, 16, 17, 18, 19, 20, 22], [0, 1, 2, 3, 4, 5, 6, 7, 8, 9, 10, 11, 12, 13, 14, 15, 16, 17, 18, 19, 20, 22, 23], [0, 1, 2, 3, 4, 5, 6, 7, 8, 9, 10, 11, 12, 13, 14, 15, 16, 17, 18, 19, 20, 21, 22, 23, 24], [0, 1, 2, 3, 4, 5, 6, 7, 8, 9, 10, 11, 12, 13, 14, 15, 16, 17, 18, 19, 20, 21, 22, 23, 24, 25], [0, 1, 2, 3, 4, 5, 6, 7, 8, 9, 10, 11, 12, 13, 14, 15, 16, 17, 18, 19, 20], [0, 1, 2, 3, 4, 5, 6, 7, 8, 9, 10, 11, 12, 13, 14, 15, 16, 17, 18, 19, 20], [0, 1, 2, 3, 4, 5, 6, 7, 8, 9, 10, 11, 12, 13, 14, 15, 16, 17, 18, 19, 20, 27, 28], [0, 1, 2, 3, 4, 5, 6, 7, 8, 9, 10, 11, 12, 13, 14, 15, 16, 17, 18, 19, 20, 27, 28, 29], [0, 1, 2, 3, 4, 5, 6, 7, 8, 9, 10, 11, 12, 13, 14, 15, 16, 17, 18, 19, 20, 21, 22, 23, 24, 25, 26, 27, 28, 29, 30], [0, 1, 2, 3, 4, 5, 6, 7, 8, 9, 10, 11, 12, 13, 14, 15, 16, 17, 18, 19, 20, 21, 22, 23, 24, 25, 26, 27, 28, 29, 30, 31], [0, 1, 2, 3, 4, 5, 6, 7, 8, 9, 10, 11, 12, 13, 14, 15, 16, 17, 18, 19, 20, 21, 22, 23, 24, 25, 26, 27, 28, 29, 30, 31, 32], [0, 1, 2, 3, 4, 5, 6, 7, 8, 9, 10, 11, 12, 13, 14, 15, 16, 17, 18, 19, 20, 21, 22, 23, 24, 25, 26, 27, 28, 29, 30, 31, 32, 33], [0, 1, 2, 3, 4, 5, 6, 7, 8, 9, 10, 11, 12, 13, 14, 15, 16, 17, 18, 19, 20, 21, 22, 23, 24, 25, 26, 27, 28, 29, 30, 31, 32, 33, 34]] 36 0 rfl rfl ?_ ?_
            · refine QChain.run rfl (.plain rfl) rfl (q_move rfl rfl) ?_
              refine QChain.run rfl (.plain rfl) rfl (q_neq rfl rfl rfl) ?_
              refine QChain.run rfl (.plain rfl) rfl (q_move rfl rfl) ?_
              refine QChain.skip rfl ⟨2, 32, true, rfl, rfl, (.inl (gF g164))⟩ rfl ?_
              refine QChain.skip rfl ⟨2, 32, true, rfl, rfl, (.inl (gF g164))⟩ rfl ?_
              refine QChain.skip rfl ⟨2, 32, true, rfl, rfl, (.inl (gF g164))⟩ rfl ?_
              refine QChain.skip rfl ⟨2, 32, true, rfl, rfl, (.inl (gF g164))⟩ rfl ?_
              refine QChain.run rfl (.plain rfl) rfl (q_pick_f rfl rfl g164 rfl) ?_
              refine QChain.run rfl (.plain rfl) rfl (q_move rfl rfl) ?_
              refine QChain.run rfl (.guard 8 38 false rfl rfl rfl) rfl (q_move rfl rfl) ?_
              refine QChain.run rfl (.guard 8 38 false rfl rfl rfl) rfl (q_eql rfl rfl rfl) ?_
              refine QChain.run rfl (.guard 8 38 false rfl rfl rfl) rfl (q_move rfl rfl) ?_
              refine QChain.run rfl (.guard 11 41 true rfl rfl (gT g176)) rfl (q_move rfl rfl) ?_
              refine QChain.run rfl (.guard 11 41 true rfl rfl (gT g176)) rfl (q_len_vec rfl rfl sl31) ?_
              refine QChain.run rfl (.guard 11 41 true rfl rfl (gT g176)) rfl (q_eql rfl rfl rfl) ?_
              refine QChain.run rfl (.guard 11 41 true rfl rfl (gT g176)) rfl (q_move rfl rfl) ?_
              refine QChain.run rfl (.guard 15 45 false rfl rfl (gF g177)) rfl (q_move rfl rfl) ?_
              refine QChain.run rfl (.guard 15 45 false rfl rfl (gF g177)) rfl (q_len_vec rfl rfl sl31) ?_
              refine QChain.run rfl (.guard 15 45 false rfl rfl (gF g177)) rfl (q_gtr rfl rfl rfl) ?_
              refine QChain.run rfl (.guard 11 41 true rfl rfl (gT g176)) rfl (q_pick_f rfl rfl g177 rfl) ?_
              refine QChain.run rfl (.guard 11 41 true rfl rfl (gT g176)) rfl (q_move rfl rfl) ?_
              refine QChain.run rfl (.guard 20 50 false rfl rfl (gF g178)) rfl (q_move rfl rfl) ?_
              refine QChain.run rfl (.guard 20 50 false rfl rfl (gF g178)) rfl (q_move rfl rfl) ?_
              refine QChain.run rfl (.guard 20 50 false rfl rfl (gF g178)) rfl (q_len_vec rfl rfl sl31) ?_
              refine QChain.run rfl (.guard 20 50 false rfl rfl (gF g178)) rfl (q_sub rfl rfl rfl) ?_
              refine QChain.run rfl (.guard 20 50 false rfl rfl (gF g178)) rfl (q_index_vec rfl rfl rfl sl31 rfl g179.1 g179.2) ?_
              refine QChain.run rfl (.guard 20 50 false rfl rfl (gF g178)) rfl (q_load_eptr_all rfl rfl rfl ty26) ?_
              refine QChain.run rfl (.guard 20 50 false rfl rfl (gF g178)) rfl (q_move rfl rfl) ?_
              refine QChain.run rfl (.guard 20 50 false rfl rfl (gF g178)) rfl (q_move rfl rfl) ?_
              refine QChain.run rfl (.guard 20 50 false rfl rfl (gF g178)) rfl (q_index_vec rfl rfl rfl sl31 rfl g180.1 g180.2) ?_
              refine QChain.run rfl (.guard 20 50 false rfl rfl (gF g178)) rfl (q_load_eptr_all rfl rfl rfl ty26) ?_
              refine QChain.run rfl (.guard 20 50 false rfl rfl (gF g178)) rfl (q_call (chargenetref15_Same_ok F (c_161.1.getD (IntKind.wrap .i64 (((c_161.1).length : Int) - 1)).toNat dSProfile) (a0_l.getD i_132.toNat dSProfile) c_181 g182) [] rfl fn20 ⟨⟨rfl, rfl⟩, ⟨rfl, rfl⟩, trivial⟩ (.inl rfl)) ?_
              refine QChain.run rfl (.guard 20 50 false rfl rfl (gF g178)) rfl (q_not rfl rfl) ?_
              refine QChain.run rfl (.guard 11 41 true rfl rfl (gT g176)) rfl (q_pick_f rfl rfl g178 rfl) ?_
              refine QChain.run rfl (.guard 8 38 false rfl rfl rfl) rfl (q_pick_t rfl rfl g176 rfl) ?_
              refine QChain.run rfl (.plain rfl) rfl (q_pick_f rfl rfl rfl rfl) ?_
              exact QChain.nil _ _
            refine (show SOps _ _ _ [] _ _ from ?_)
            refine SOps.sub (st' := ⟨[(0, .c (.vec a0_l.length 11 (gL cSProfile dSProfile a0_l))), (4, .c (.int .i64 i_132)), (5, .c (.vec c_161.1.length 11 (gL cSProfile dSProfile c_161.1))), (65, .c (.bool ((!c_181))))], []⟩) (sub_gen [] rfl rfl ⟨zc rfl rfl, zc rfl rfl, zc rfl rfl, zc rfl rfl, trivial⟩ trivial) ?_
            refine SOps.nil ?_
            rcases cond_out h with ⟨g183, h⟩ | ⟨g183, h⟩
            · refine SCode.cond_t rfl g183 ?_
              refine SCode.seq ?_
              refine SCode.region (show SOps _ _ _ [0] _ _ from ?_)
              refine SOps.q rfl (.plain rfl) rfl (q_assign rfl rfl) ?_
              refine SOps.sub (st' := ⟨[(2, .c (.bool false))], []⟩) (sub_gen [] rfl rfl ⟨zc rfl rfl, trivial⟩ trivial) ?_
              refine SOps.nil ?_
              refine SCode.ret ?_
              obtain rfl := Option.some.inj h
              exact ⟨⟨[(2, .c (.bool false))], []⟩, _, sub_gen [] rfl rfl ⟨zc rfl rfl, trivial⟩ trivial, resA1 (v := .c (.bool false)) rfl rfl, rfl⟩
            refine SCode.cond_f rfl g183 ?_
            refine SCode.skip ?_
            exact ⟨(), h, sub_gen [] rfl rfl ⟨zc rfl rfl, zc rfl rfl, zc rfl rfl, trivial⟩ trivial⟩
          refine SCode.draw (s' := [(65, .c (.bool false)), (64, .c (.bool false)), (63, .c (.raw (.tuple #[]))), (62, .c (.raw (.tuple #[]))), (61, .c (.raw (.tuple #[]))), (60, .c (.raw (.tuple #[]))), (59, .c (.raw (.tuple #[]))), (58, .c (.raw (.tuple #[]))), (57, .c (.raw (.tuple #[]))), (56, .c (.raw (.tuple #[]))), (55, .c (.raw (.tuple #[]))), (54, .c (.raw (.tuple #[]))), (53, .c (.raw (.tuple #[]))), (52, .c (.raw (.tuple #[]))), (51, .c (.raw (.tuple #[]))), (50, .c (.raw (.tuple #[]))), (49, .c (.raw (.tuple #[]))), (48, .c (.raw (.tuple #[]))), (47, .c (.raw (.tuple #[]))), (46, .c (.raw (.tuple #[]))), (45, .c (.raw (.tuple #[]))), (44, .c (.raw (.tuple #[]))), (43, .c (.raw (.tuple #[]))), (42, .c (.raw (.tuple #[]))), (41, .c (.bool (decide (c_161.2 = 0)))), (40, .c (.bool (decide (c_161.2 = 0)))), (39, .c (.int .i64 c_161.2)), (38, .c (.bool false)), (37, .c (.bool false)), (36, .c (.raw (.tuple #[]))), (35, .c (.raw (.tuple #[]))), (34, .c (.raw (.tuple #[]))), (33, .c (.raw (.tuple #[]))), (32, .c (.bool ((!decide (c_161.2 = 0))))), (31, .c (.bool ((!decide (c_161.2 = 0))))), (30, .c (.int .i64 c_161.2)), (0, .c (.vec a0_l.length 11 (gL cSProfile dSProfile a0_l))), (3, .c (.vec m_131.length 11 (gL cSProfile dSProfile m_131))), (4, .c (.int .i64 i_132)), (5, .c (.vec c_161.1.length 11 (gL cSProfile dSProfile c_161.1))), (6, .c (.int .i64 c_161.2))]) mixed [[], [0], [0, 1], [0, 1, 2], [0, 1, 2], [0, 1, 2, 3, 4], [0, 1, 2, 3, 4, 5], [0, 1, 2, 3, 4, 5, 6], [0, 1, 2, 3, 4, 5, 6, 7], [0, 1, 2, 3, 4, 5, 6, 7, 8], [0, 1, 2, 3, 4, 5, 6, 7, 8, 9], [0, 1, 2, 3, 4, 5, 6, 7, 8, 9, 10], [0, 1, 2, 3, 4, 5, 6, 7, 8, 9, 10, 11], [0, 1, 2, 3, 4, 5, 6, 7, 8, 9, 10, 11, 12], [0, 1, 2, 3, 4, 5, 6, 7, 8, 9, 10, 11, 12, 13], [0, 1, 2, 3, 4, 5, 6, 7, 8, 9, 10, 11, 12, 13, 14], [0, 1, 2, 3, 4, 5, 6, 7, 8, 9, 10, 11, 12, 13, 14, 15], [0, 1, 2, 3, 4, 5, 6, 7, 8, 9, 10, 11, 12, 13, 14, 15, 16], [0, 1, 2, 3, 4, 5, 6, 7, 8, 9, 10, 11, 12, 13, 14, 15, 16, 17], [0, 1, 2, 3, 4, 5, 6, 7, 8, 9, 10, 11, 12, 13, 14, 15, 16, 17, 18], [0, 1, 2, 3, 4, 5, 6, 7, 8, 9, 10, 11, 12, 13, 14, 15, 16, 17, 18, 19], [0, 1, 2, 3, 4, 5, 6, 7, 8, 9, 10, 11, 12, 13, 14, 15, 16, 17, 18, 19, 20], [0, 1, 2, 3, 4, 5, 6, 7, 8, 9, 10, 11, 12, 13, 14, 15, 16, 17, 18, 19, 20], [0, 1, 2, 3, 4, 5, 6, 7, 8, 9, 10, 11, 12, 13, 14, 15, 16, 17, 18, 19, 20, 22], [0, 1, 2, 3, 4, 5, 6, 7, 8, 9, 10, 11, 12, 13, 14, 15, 16, 17, 18, 19, 20, 22, 23], [0, 1, 2, 3, 4, 5, 6, 7, 8, 9, 10, 11, 12, 13, 14, 15, 16, 17, 18, 19, 20, 21, 22, 23, 24], [0, 1, 2, 3, 4, 5, 6, 7, 8, 9, 10, 11, 12, 13, 14, 15, 16, 17, 18, 19, 20, 21, 22, 23, 24, 25], [0, 1, 2, 3, 4, 5, 6, 7, 8, 9, 10, 11, 12, 13, 14, 15, 16, 17, 18, 19, 20], [0, 1, 2, 3, 4, 5, 6, 7, 8, 9, 10, 11, 12, 13, 14, 15, 16, 17, 18, 19, 20], [0, 1, 2, 3, 4, 5, 6, 7, 8, 9, 10, 11, 12, 13, 14, 15, 16, 17, 18, 19, 20, 27, 28], [0, 1, 2, 3, 4, 5, 6, 7, 8, 9, 10, 11, 12, 13, 14, 15, 16, 17, 18, 19, 20, 27, 28, 29], [0, 1, 2, 3, 4, 5, 6, 7, 8, 9, 10, 11, 12, 13, 14, 15, 16, 17, 18, 19, 20, 21, 22, 23, 24, 25, 26, 27, 28, 29, 30], [0, 1, 2, 3, 4, 5, 6, 7, 8, 9, 10, 11, 12, 13, 14, 15, 16, 17, 18, 19, 20, 21, 22, 23, 24, 25, 26, 27, 28, 29, 30, 31], [0, 1, 2, 3, 4, 5, 6, 7, 8, 9, 10, 11, 12, 13, 14, 15, 16, 17, 18, 19, 20, 21, 22, 23, 24, 25, 26, 27, 28, 29, 30, 31, 32], [0, 1, 2, 3, 4, 5, 6, 7, 8, 9, 10, 11, 12, 13, 14, 15, 16, 17, 18, 19, 20, 21, 22, 23, 24, 25, 26, 27, 28, 29, 30, 31, 32, 33], [0, 1, 2, 3, 4, 5, 6, 7, 8, 9, 10, 11, 12, 13, 14, 15, 16, 17, 18, 19, 20, 21, 22, 23, 24, 25, 26, 27, 28, 29, 30, 31, 32, 33, 34]] 36 0 rfl rfl ?_ ?_
          · refine QChain.run rfl (.plain rfl) rfl (q_move rfl rfl) ?_
            refine QChain.run rfl (.plain rfl) rfl (q_neq rfl rfl rfl) ?_
            refine QChain.run rfl (.plain rfl) rfl (q_move rfl rfl) ?_
            refine QChain.skip rfl ⟨2, 32, true, rfl, rfl, (.inl (gF g164))⟩ rfl ?_
            refine QChain.skip rfl ⟨2, 32, true, rfl, rfl, (.inl (gF g164))⟩ rfl ?_
            refine QChain.skip rfl ⟨2, 32, true, rfl, rfl, (.inl (gF g164))⟩ rfl ?_
            refine QChain.skip rfl ⟨2, 32, true, rfl, rfl, (.inl (gF g164))⟩ rfl ?_
            refine QChain.run rfl (.plain rfl) rfl (q_pick_f rfl rfl g164 rfl) ?_
            refine QChain.run rfl (.plain rfl) rfl (q_move rfl rfl) ?_
            refine QChain.run rfl (.guard 8 38 false rfl rfl rfl) rfl (q_move rfl rfl) ?_
            refine QChain.run rfl (.guard 8 38 false rfl rfl rfl) rfl (q_eql rfl rfl rfl) ?_
            refine QChain.run rfl (.guard 8 38 false rfl rfl rfl) rfl (q_move rfl rfl) ?_
            refine QChain.skip rfl ⟨11, 41, true, rfl, rfl, (.inl (gF g176))⟩ rfl ?_
            refine QChain.skip rfl ⟨11, 41, true, rfl, rfl, (.inl (gF g176))⟩ rfl ?_
            refine QChain.skip rfl ⟨11, 41, true, rfl, rfl, (.inl (gF g176))⟩ rfl ?_
            refine QChain.skip rfl ⟨11, 41, true, rfl, rfl, (.inl (gF g176))⟩ rfl ?_
            refine QChain.skip rfl ⟨15, 45, false, rfl, rfl, (.inr rfl)⟩ rfl ?_
            refine QChain.skip rfl ⟨15, 45, false, rfl, rfl, (.inr rfl)⟩ rfl ?_
            refine QChain.skip rfl ⟨15, 45, false, rfl, rfl, (.inr rfl)⟩ rfl ?_
            refine QChain.skip rfl ⟨11, 41, true, rfl, rfl, (.inl (gF g176))⟩ rfl ?_
            refine QChain.skip rfl ⟨11, 41, true, rfl, rfl, (.inl (gF g176))⟩ rfl ?_
            refine QChain.skip rfl ⟨20, 50, false, rfl, rfl, (.inr rfl)⟩ rfl ?_
            refine QChain.skip rfl ⟨20, 50, false, rfl, rfl, (.inr rfl)⟩ rfl ?_
            refine QChain.skip rfl ⟨20, 50, false, rfl, rfl, (.inr rfl)⟩ rfl ?_
            refine QChain.skip rfl ⟨20, 50, false, rfl, rfl, (.inr rfl)⟩ rfl ?_
            refine QChain.skip rfl ⟨20, 50, false, rfl, rfl, (.inr rfl)⟩ rfl ?_
            refine QChain.skip rfl ⟨20, 50, false, rfl, rfl, (.inr rfl)⟩ rfl ?_
            refine QChain.skip rfl ⟨20, 50, false, rfl, rfl, (.inr rfl)⟩ rfl ?_
            refine QChain.skip rfl ⟨20, 50, false, rfl, rfl, (.inr rfl)⟩ rfl ?_
            refine QChain.skip rfl ⟨20, 50, false, rfl, rfl, (.inr rfl)⟩ rfl ?_
            refine QChain.skip rfl ⟨20, 50, false, rfl, rfl, (.inr rfl)⟩ rfl ?_
            refine QChain.skip rfl ⟨20, 50, false, rfl, rfl, (.inr rfl)⟩ rfl ?_
            refine QChain.skip rfl ⟨20, 50, false, rfl, rfl, (.inr rfl)⟩ rfl ?_
            refine QChain.skip rfl ⟨11, 41, true, rfl, rfl, (.inl (gF g176))⟩ rfl ?_
            refine QChain.run rfl (.guard 8 38 false rfl rfl rfl) rfl (q_pick_f rfl rfl g176 rfl) ?_
            refine QChain.run rfl (.plain rfl) rfl (q_pick_f rfl rfl rfl rfl) ?_
            exact QChain.nil _ _
          refine (show SOps _ _ _ [] _ _ from ?_)
          refine SOps.sub (st' := ⟨[(0, .c (.vec a0_l.length 11 (gL cSProfile dSProfile a0_l))), (4, .c (.int .i64 i_132)), (5, .c (.vec c_161.1.length 11 (gL cSProfile dSProfile c_161.1))), (65, .c (.bool false))], []⟩) (sub_gen [] rfl rfl ⟨zc rfl rfl, zc rfl rfl, zc rfl rfl, zc rfl rfl, trivial⟩ trivial) ?_
          refine SOps.nil ?_
          refine SCode.cond_f rfl rfl ?_
          refine SCode.skip ?_
          exact ⟨(), h, sub_gen [] rfl rfl ⟨zc rfl rfl, zc rfl rfl, zc rfl rfl, trivial⟩ trivial⟩
        rintro ⟨⟩ h
        show SCode _ _ _ ⟨[(0, .c (.vec a0_l.length 11 (gL cSProfile dSProfile a0_l))), (4, .c (.int .i64 i_132)), (5, .c (.vec c_161.1.length 11 (gL cSProfile dSProfile c_161.1)))], []⟩ _
        replace h : chargenetlaw15_ProfileUnique_p163 i_132 (fun m_131 i_132 => chargenetlaw15_ProfileUnique_l158 F a0_l n_158 m_131 i_132) c_161 = some r := h
        unfold chargenetlaw15_ProfileUnique_p163 at h
        refine SCode.region (show SOps _ _ _ [0, 1] _ _ from ?_)
        refine SOps.q rfl (.plain rfl) rfl (q_move rfl rfl) ?_
        refine SOps.q rfl (.plain rfl) rfl (q_assign rfl rfl) ?_
        refine SOps.sub (st' := ⟨[(0, .c (.vec a0_l.length 11 (gL cSProfile dSProfile a0_l))), (3, .c (.vec c_161.1.length 11 (gL cSProfile dSProfile c_161.1))), (4, .c (.int .i64 i_132))], []⟩) (sub_gen [] rfl rfl ⟨zc rfl rfl, zc rfl rfl, zc rfl rfl, trivial⟩ trivial) ?_
        refine SOps.nil ?_
        refine SCode.region (show SOps _ _ _ [0, 1, 2] _ _ from ?_)
        refine SOps.q rfl (.plain rfl) rfl (q_move rfl rfl) ?_
        refine SOps.q rfl (.plain rfl) rfl (q_add rfl rfl rfl) ?_
        refine SOps.q rfl (.plain rfl) rfl (q_assign rfl rfl) ?_
        refine SOps.sub (st' := ⟨[(0, .c (.vec a0_l.length 11 (gL cSProfile dSProfile a0_l))), (3, .c (.vec c_161.1.length 11 (gL cSProfile dSProfile c_161.1))), (4, .c (.int .i64 (IntKind.wrap .i64 (i_132 + 1))))], []⟩) (sub_gen [] rfl rfl ⟨zc rfl rfl, zc rfl rfl, zc rfl rfl, trivial⟩ trivial) ?_
        refine SOps.nil ?_
        exact ⟨(n_158, (c_161.1, IntKind.wrap .i64 (i_132 + 1))), h, Nat.lt_succ_self n_158, sub_gen [] rfl rfl ⟨zc rfl rfl, zc rfl rfl, zc rfl rfl, trivial⟩ trivial⟩
      refine SCode.cond_f rfl g159 ?_
      refine SCode.exit ?_
      exact ⟨m_131, h, sub_gen [] rfl rfl ⟨zc rfl rfl, trivial⟩ trivial⟩
  rintro m_6 h
  show SCode _ _ _ ⟨[(3, .c (.vec m_6.length 11 (gL cSProfile dSProfile m_6)))], []⟩ _
  replace h : chargenetlaw15_ProfileUnique_p105 F m_6 = some r := h
  unfold chargenetlaw15_ProfileUnique_p105 at h
  refine SCode.join (σ := Unit) (S := fun s => ⟨[], []⟩) (g := fun s => chargenetlaw15_ProfileUnique_p9 F = some r) ?_ ?_
  rotate_left
  · refine SCode.seq ?_
    refine SCode.region (show SOps _ _ _ [0] _ _ from ?_)
    refine SOps.q rfl (.plain rfl) rfl (q_assign rfl rfl) ?_
    refine SOps.sub (st' := ⟨[(3, .c (.vec m_6.length 11 (gL cSProfile dSProfile m_6))), (7, .c (.int .i64 0))], []⟩) (sub_gen [] rfl rfl ⟨zc rfl rfl, zc rfl rfl, trivial⟩ trivial) ?_
    refine SOps.nil ?_
    refine SCode.block ?_
    refine SCode.sub (st' := ⟨[(3, .c (.vec m_6.length 11 (gL cSProfile dSProfile m_6))), (7, .c (.int .i64 0))], []⟩) (sub_gen [] rfl rfl ⟨zc rfl rfl, zc rfl rfl, trivial⟩ trivial) ?_
    refine (SCode.loop (σ := Nat × Int) (S := fun s => ⟨[(3, .c (.vec m_6.length 11 (gL cSProfile dSProfile m_6))), (7, .c (.int .i64 s.2))], []⟩) (g := fun s => chargenetlaw15_ProfileUnique_l73 F m_6 s.1 s.2 = some r) (μ := fun s => s.1) (F, 0) h ?_)
    rintro ⟨n_73, i_41⟩ h
    replace h : chargenetlaw15_ProfileUnique_l73 F m_6 n_73 i_41 = some r := h
    show SCode _ _ _ ⟨[(3, .c (.vec m_6.length 11 (gL cSProfile dSProfile m_6))), (7, .c (.int .i64 i_41))], []⟩ _
    cases n_73 with
    | zero => cases h
    | succ n_73 =>
      replace h : chargenetlaw15_ProfileUnique_b73 F m_6 (fun i_41 => chargenetlaw15_ProfileUnique_l73 F m_6 n_73 i_41) i_41 = some r := h
      unfold chargenetlaw15_ProfileUnique_b73 at h
      refine SCode.seq ?_
      refine SCode.seq ?_
      refine SCode.region (show SOps _ _ _ [0, 1, 2, 3] _ _ from ?_)
      refine SOps.q rfl (.plain rfl) rfl (q_move rfl rfl) ?_
      refine SOps.q rfl (.plain rfl) rfl (q_move rfl rfl) ?_
      refine SOps.q rfl (.plain rfl) rfl (q_len_vec rfl rfl sl31) ?_
      refine SOps.q rfl (.plain rfl) rfl (q_lss rfl rfl rfl) ?_
      refine SOps.sub (st' := ⟨[(3, .c (.vec m_6.length 11 (gL cSProfile dSProfile m_6))), (7, .c (.int .i64 i_41)), (70, .c (.bool (decide (i_41 < ((m_6).length : Int)))))], []⟩) (sub_gen [] rfl rfl ⟨zc rfl rfl, zc rfl rfl, zc rfl rfl, trivial⟩ trivial) ?_
      refine SOps.nil ?_
      rcases cond_out h with ⟨g74, h⟩ | ⟨g74, h⟩
      · refine SCode.cond_t rfl g74 ?_
        refine SCode.skip ?_
        refine SCode.join (σ := Unit) (S := fun s => ⟨[(3, .c (.vec m_6.length 11 (gL cSProfile dSProfile m_6))), (7, .c (.int .i64 i_41))], []⟩) (g := fun s => chargenetlaw15_ProfileUnique_p75 i_41 (fun i_41 => chargenetlaw15_ProfileUnique_l73 F m_6 n_73 i_41) = some r) ?_ ?_
        rotate_left
        · refine SCode.block ?_
          refine SCode.seq ?_
          refine SCode.region (show SOps _ _ _ [0] _ _ from ?_)
          refine SOps.q rfl (.plain rfl) rfl (q_assign rfl rfl) ?_
          refine SOps.sub (st' := ⟨[(3, .c (.vec m_6.length 11 (gL cSProfile dSProfile m_6))), (7, .c (.int .i64 i_41)), (8, .c (.int .i64 0))], []⟩) (sub_gen [] rfl rfl ⟨zc rfl rfl, zc rfl rfl, zc rfl rfl, trivial⟩ trivial) ?_
          refine SOps.nil ?_
          refine SCode.block ?_
          refine SCode.sub (st' := ⟨[(3, .c (.vec m_6.length 11 (gL cSProfile dSProfile m_6))), (7, .c (.int .i64 i_41)), (8, .c (.int .i64 0))], []⟩) (sub_gen [] rfl rfl ⟨zc rfl rfl, zc rfl rfl, zc rfl rfl, trivial⟩ trivial) ?_
          refine (SCode.loop (σ := Nat × Int) (S := fun s => ⟨[(3, .c (.vec m_6.length 11 (gL cSProfile dSProfile m_6))), (7, .c (.int .i64 i_41)), (8, .c (.int .i64 s.2))], []⟩) (g := fun s => chargenetlaw15_ProfileUnique_l95 m_6 i_41 (fun i_41 => chargenetlaw15_ProfileUnique_l73 F m_6 n_73 i_41) s.1 s.2 = some r) (μ := fun s => s.1) (F, 0) h ?_)
          rintro ⟨n_95, k_85⟩ h
          replace h : chargenetlaw15_ProfileUnique_l95 m_6 i_41 (fun i_41 => chargenetlaw15_ProfileUnique_l73 F m_6 n_73 i_41) n_95 k_85 = some r := h
          show SCode _ _ _ ⟨[(3, .c (.vec m_6.length 11 (gL cSProfile dSProfile m_6))), (7, .c (.int .i64 i_41)), (8, .c (.int .i64 k_85))], []⟩ _
          cases n_95 with
          | zero => cases h
          | succ n_95 =>
            replace h : chargenetlaw15_ProfileUnique_b95 m_6 i_41 (fun i_41 => chargenetlaw15_ProfileUnique_l73 F m_6 n_73 i_41) (fun k_85 => chargenetlaw15_ProfileUnique_l95 m_6 i_41 (fun i_41 => chargenetlaw15_ProfileUnique_l73 F m_6 n_73 i_41) n_95 k_85) k_85 = some r := h
            unfold chargenetlaw15_ProfileUnique_b95 at h
            refine SCode.seq ?_
            refine SCode.seq ?_
            refine SCode.region (show SOps _ _ _ [0, 1, 2] _ _ from ?_)
            refine SOps.q rfl (.plain rfl) rfl (q_move rfl rfl) ?_
            refine SOps.q rfl (.plain rfl) rfl (q_move rfl rfl) ?_
            refine SOps.q rfl (.plain rfl) rfl (q_lss rfl rfl rfl) ?_
            refine SOps.sub (st' := ⟨[(3, .c (.vec m_6.length 11 (gL cSProfile dSProfile m_6))), (7, .c (.int .i64 i_41)), (8, .c (.int .i64 k_85)), (75, .c (.bool (decide (k_85 < i_41))))], []⟩) (sub_gen [] rfl rfl ⟨zc rfl rfl, zc rfl rfl, zc rfl rfl, zc rfl rfl, trivial⟩ trivial) ?_
            refine SOps.nil ?_
            rcases cond_out h with ⟨g96, h⟩ | ⟨g96, h⟩
            · refine SCode.cond_t rfl g96 ?_
              refine SCode.skip ?_
              refine SCode.join (σ := Unit) (S := fun s => ⟨[(3, .c (.vec m_6.length 11 (gL cSProfile dSProfile m_6))), (7, .c (.int .i64 i_41)), (8, .c (.int .i64 k_85))], []⟩) (g := fun s => chargenetlaw15_ProfileUnique_p97 k_85 (fun k_85 => chargenetlaw15_ProfileUnique_l95 m_6 i_41 (fun i_41 => chargenetlaw15_ProfileUnique_l73 F m_6 n_73 i_41) n_95 k_85) = some r) ?_ ?_
              rotate_left
              · refine SCode.block ?_
                refine SCode.seq ?_
                obtain ⟨g98, h⟩ := guard_out h
                obtain ⟨g99, h⟩ := guard_out h
                refine SCode.draw2 (sH := [(85, .a [.int .i64 ((m_6.getD k_85.toNat dSProfile).ID), .int .i64 ((m_6.getD k_85.toNat dSProfile).Level), .int .i64 ((m_6.getD k_85.toNat dSProfile).Purpose), .int .i64 ((m_6.getD k_85.toNat dSProfile).Kind), .int .i64 ((m_6.getD k_85.toNat dSProfile).Conn), .str ((m_6.getD k_85.toNat dSProfile).Txn), .int .i64 ((m_6.getD k_85.toNat dSProfile).Span_From), .int .i64 ((m_6.getD k_85.toNat dSProfile).Span_To), .int .i64 ((m_6.getD k_85.toNat dSProfile).Start), .int .i64 ((m_6.getD k_85.toNat dSProfile).Duration), .vec ((m_6.getD k_85.toNat dSProfile).Periods).length 2 (gL cSPeriod dSPeriod ((m_6.getD k_85.toNat dSProfile).Periods))]), (84, .c (.eptr 11 (cSProfile (m_6.getD k_85.toNat dSProfile)) 0)), (83, .c (.int .i64 k_85)), (82, .c (.vec m_6.length 11 (gL cSProfile dSProfile m_6))), (81, .a [.int .i64 ((m_6.getD i_41.toNat dSProfile).ID), .int .i64 ((m_6.getD i_41.toNat dSProfile).Level), .int .i64 ((m_6.getD i_41.toNat dSProfile).Purpose), .int .i64 ((m_6.getD i_41.toNat dSProfile).Kind), .int .i64 ((m_6.getD i_41.toNat dSProfile).Conn), .str ((m_6.getD i_41.toNat dSProfile).Txn), .int .i64 ((m_6.getD i_41.toNat dSProfile).Span_From), .int .i64 ((m_6.getD i_41.toNat dSProfile).Span_To), .int .i64 ((m_6.getD i_41.toNat dSProfile).Start), .int .i64 ((m_6.getD i_41.toNat dSProfile).Duration), .vec ((m_6.getD i_41.toNat dSProfile).Periods).length 2 (gL cSPeriod dSPeriod ((m_6.getD i_41.toNat dSProfile).Periods))]), (80, .c (.eptr 11 (cSProfile (m_6.getD i_41.toNat dSProfile)) 0)), (79, .c (.int .i64 i_41)), (78, .c (.vec m_6.length 11 (gL cSProfile dSProfile m_6))), (3, .c (.vec m_6.length 11 (gL cSProfile dSProfile m_6))), (7, .c (.int .i64 i_41)), (8, .c (.int .i64 k_85)), (75, .c (.bool (decide (k_85 < i_41))))]) mixed [[], [], [0, 1], [0, 1, 2], [], [], [4, 5], [4, 5, 6], [], [], [0, 1, 2, 3, 8, 9], [0, 1, 2, 3, 4, 5, 6, 7, 8, 9, 10]] [8, 9, 10, 11] (fun h => List.getD ([] : List (List Nat)) h []) rfl ?_ ⟨[(3, .c (.vec m_6.length 11 (gL cSProfile dSProfile m_6))), (7, .c (.int .i64 i_41)), (8, .c (.int .i64 k_85)), (9, .c (.ptr 0 0)), (10, .c (.ptr 1 0))], [.box [.int .i64 ((m_6.getD i_41.toNat dSProfile).ID), .int .i64 ((m_6.getD i_41.toNat dSProfile).Level), .int .i64 ((m_6.getD i_41.toNat dSProfile).Purpose), .int .i64 ((m_6.getD i_41.toNat dSProfile).Kind), .int .i64 ((m_6.getD i_41.toNat dSProfile).Conn), .str ((m_6.getD i_41.toNat dSProfile).Txn), .int .i64 ((m_6.getD i_41.toNat dSProfile).Span_From), .int .i64 ((m_6.getD i_41.toNat dSProfile).Span_To), .int .i64 ((m_6.getD i_41.toNat dSProfile).Start), .int .i64 ((m_6.getD i_41.toNat dSProfile).Duration), .vec ((m_6.getD i_41.toNat dSProfile).Periods).length 2 (gL cSPeriod dSPeriod ((m_6.getD i_41.toNat dSProfile).Periods))], .box [.int .i64 ((m_6.getD k_85.toNat dSProfile).ID), .int .i64 ((m_6.getD k_85.toNat dSProfile).Level), .int .i64 ((m_6.getD k_85.toNat dSProfile).Purpose), .int .i64 ((m_6.getD k_85.toNat dSProfile).Kind), .int .i64 ((m_6.getD k_85.toNat dSProfile).Conn), .str ((m_6.getD k_85.toNat dSProfile).Txn), .int .i64 ((m_6.getD k_85.toNat dSProfile).Span_From), .int .i64 ((m_6.getD k_85.toNat dSProfile).Span_To), .int .i64 ((m_6.getD k_85.toNat dSProfile).Start), .int .i64 ((m_6.getD k_85.toNat dSProfile).Duration), .vec ((m_6.getD k_85.toNat dSProfile).Periods).length 2 (gL cSPeriod dSPeriod ((m_6.getD k_85.toNat dSProfile).Periods))]]⟩ ?_ ?_
                · refine HChain.run rfl rfl (.plain rfl) rfl (fun f x => q_move rfl rfl) ?_
                  refine HChain.run rfl rfl (.plain rfl) rfl (fun f x => q_move rfl rfl) ?_
                  refine HChain.run rfl rfl (.plain rfl) rfl (fun f x => q_index_vec rfl rfl rfl sl31 rfl g98.1 g98.2) ?_
                  refine HChain.run rfl rfl (.plain rfl) rfl (fun f x => q_load_eptr_all rfl rfl rfl ty26) ?_
                  refine HChain.run rfl rfl (.plain rfl) rfl (fun f x => q_move rfl rfl) ?_
                  refine HChain.run rfl rfl (.plain rfl) rfl (fun f x => q_move rfl rfl) ?_
                  refine HChain.run rfl rfl (.plain rfl) rfl (fun f x => q_index_vec rfl rfl rfl sl31 rfl g99.1 g99.2) ?_
                  refine HChain.run rfl rfl (.plain rfl) rfl (fun f x => q_load_eptr_all rfl rfl rfl ty26) ?_
                  refine HChain.tail rfl ?_
                  refine HChain.tail rfl ?_
                  refine HChain.tail rfl ?_
                  refine HChain.tail rfl ?_
                  exact HChain.nil _ _
                · refine TTree.node 8 [9] rfl ?_
                  refine AllP.cons ?_ ?_
                  · refine TStep.d (objs' := [.box [.int .i64 0, .int .i64 0, .int .i64 0, .int .i64 0, .int .i64 0, .str ByteArray.empty, .int .i64 0, .int .i64 0, .int .i64 0, .int .i64 0, .raw (.slice none 0 0)]]) (v := .c (.ptr 0 0)) [] 9 rfl rfl rfl rfl rfl (fun s2 => by refine EOp.eq (e_alloc rfl rfl rfl z26) ?_; rfl) ?_
                    refine ⟨rfl, SameP.zero, ?_⟩
                    refine TTree.node 9 [] rfl ?_
                    refine AllP.cons ?_ ?_
                    · refine TStep.d (objs' := [.box [.int .i64 0, .int .i64 0, .int .i64 0, .int .i64 0, .int .i64 0, .str ByteArray.empty, .int .i64 0, .int .i64 0, .int .i64 0, .int .i64 0, .raw (.slice none 0 0)], .box [.int .i64 0, .int .i64 0, .int .i64 0, .int .i64 0, .int .i64 0, .str ByteArray.empty, .int .i64 0, .int .i64 0, .int .i64 0, .int .i64 0, .raw (.slice none 0 0)]]) (v := .c (.ptr 1 0)) [] 10 rfl rfl rfl rfl rfl (fun s2 => by refine EOp.eq (e_alloc rfl rfl rfl z26) ?_; rfl) ?_
                      refine ⟨rfl, SameP.zero, ?_⟩
                      refine TTree.node 10 [] rfl ?_
                      refine AllP.cons ?_ ?_
                      · refine TStep.n (objs' := [.box [.int .i64 ((m_6.getD i_41.toNat dSProfile).ID), .int .i64 ((m_6.getD i_41.toNat dSProfile).Level), .int .i64 ((m_6.getD i_41.toNat dSProfile).Purpose), .int .i64 ((m_6.getD i_41.toNat dSProfile).Kind), .int .i64 ((m_6.getD i_41.toNat dSProfile).Conn), .str ((m_6.getD i_41.toNat dSProfile).Txn), .int .i64 ((m_6.getD i_41.toNat dSProfile).Span_From), .int .i64 ((m_6.getD i_41.toNat dSProfile).Span_To), .int .i64 ((m_6.getD i_41.toNat dSProfile).Start), .int .i64 ((m_6.getD i_41.toNat dSProfile).Duration), .vec ((m_6.getD i_41.toNat dSProfile).Periods).length 2 (gL cSPeriod dSPeriod ((m_6.getD i_41.toNat dSProfile).Periods))], .box [.int .i64 0, .int .i64 0, .int .i64 0, .int .i64 0, .int .i64 0, .str ByteArray.empty, .int .i64 0, .int .i64 0, .int .i64 0, .int .i64 0, .raw (.slice none 0 0)]]) [] rfl rfl rfl rfl (fun s2 => by refine EOp.eq (e_store_box rfl rfl rfl rfl rfl ty26 rfl rfl rfl rfl) ?_; rfl) ?_
                        refine ⟨rfl, SameP.zero, ?_⟩
                        refine TTree.node 11 [] rfl ?_
                        refine AllP.cons ?_ ?_
                        · refine TStep.n (objs' := [.box [.int .i64 ((m_6.getD i_41.toNat dSProfile).ID), .int .i64 ((m_6.getD i_41.toNat dSProfile).Level), .int .i64 ((m_6.getD i_41.toNat dSProfile).Purpose), .int .i64 ((m_6.getD i_41.toNat dSProfile).Kind), .int .i64 ((m_6.getD i_41.toNat dSProfile).Conn), .str ((m_6.getD i_41.toNat dSProfile).Txn), .int .i64 ((m_6.getD i_41.toNat dSProfile).Span_From), .int .i64 ((m_6.getD i_41.toNat dSProfile).Span_To), .int .i64 ((m_6.getD i_41.toNat dSProfile).Start), .int .i64 ((m_6.getD i_41.toNat dSProfile).Duration), .vec ((m_6.getD i_41.toNat dSProfile).Periods).length 2 (gL cSPeriod dSPeriod ((m_6.getD i_41.toNat dSProfile).Periods))], .box [.int .i64 ((m_6.getD k_85.toNat dSProfile).ID), .int .i64 ((m_6.getD k_85.toNat dSProfile).Level), .int .i64 ((m_6.getD k_85.toNat dSProfile).Purpose), .int .i64 ((m_6.getD k_85.toNat dSProfile).Kind), .int .i64 ((m_6.getD k_85.toNat dSProfile).Conn), .str ((m_6.getD k_85.toNat dSProfile).Txn), .int .i64 ((m_6.getD k_85.toNat dSProfile).Span_From), .int .i64 ((m_6.getD k_85.toNat dSProfile).Span_To), .int .i64 ((m_6.getD k_85.toNat dSProfile).Start), .int .i64 ((m_6.getD k_85.toNat dSProfile).Duration), .vec ((m_6.getD k_85.toNat dSProfile).Periods).length 2 (gL cSPeriod dSPeriod ((m_6.getD k_85.toNat dSProfile).Periods))]]) [] rfl rfl rfl rfl (fun s2 => by refine EOp.eq (e_store_box rfl rfl rfl rfl rfl ty26 rfl rfl rfl rfl) ?_; rfl) ?_
                          refine ⟨rfl, SameP.zero, ?_⟩
                          exact TTree.leaf rfl (sub_gen [0, 1] rfl rfl ⟨zc rfl rfl, zc rfl rfl, zc rfl rfl, zc rfl rfl, zc rfl rfl, trivial⟩ ⟨⟨_, rfl, ⟨ii rfl rfl, ii rfl rfl, ii rfl rfl, ii rfl rfl, ii rfl rfl, ii rfl rfl, ii rfl rfl, ii rfl rfl, ii rfl rfl, ii rfl rfl, ii rfl rfl, trivial⟩⟩, ⟨_, rfl, ⟨ii rfl rfl, ii rfl rfl, ii rfl rfl, ii rfl rfl, ii rfl rfl, ii rfl rfl, ii rfl rfl, ii rfl rfl, ii rfl rfl, ii rfl rfl, ii rfl rfl, trivial⟩⟩, trivial⟩)
                        exact AllP.nil
                      exact AllP.nil
                    exact AllP.nil
                  refine AllP.cons ?_ ?_
                  · refine TStep.d (objs' := [.box [.int .i64 0, .int .i64 0, .int .i64 0, .int .i64 0, .int .i64 0, .str ByteArray.empty, .int .i64 0, .int .i64 0, .int .i64 0, .int .i64 0, .raw (.slice none 0 0)]]) (v := .c (.ptr 0 0)) [] 10 rfl rfl rfl rfl rfl (fun s2 => by refine EOp.eq (e_alloc rfl rfl rfl z26) ?_; rfl) ?_
                    refine ⟨rfl, SameP.zero, ?_⟩
                    refine TTree.node 8 [] rfl ?_
                    refine AllP.cons ?_ ?_
                    · refine TStep.d (objs' := [.box [.int .i64 0, .int .i64 0, .int .i64 0, .int .i64 0, .int .i64 0, .str ByteArray.empty, .int .i64 0, .int .i64 0, .int .i64 0, .int .i64 0, .raw (.slice none 0 0)], .box [.int .i64 0, .int .i64 0, .int .i64 0, .int .i64 0, .int .i64 0, .str ByteArray.empty, .int .i64 0, .int .i64 0, .int .i64 0, .int .i64 0, .raw (.slice none 0 0)]]) (v := .c (.ptr 1 0)) [] 9 rfl rfl rfl rfl rfl (fun s2 => by refine EOp.eq (e_alloc rfl rfl rfl z26) ?_; rfl) ?_
                      refine ⟨rfl, SameP.zero, ?_⟩
                      refine TTree.node 10 [] rfl ?_
                      refine AllP.cons ?_ ?_
                      · refine TStep.n (objs' := [.box [.int .i64 0, .int .i64 0, .int .i64 0, .int .i64 0, .int .i64 0, .str ByteArray.empty, .int .i64 0, .int .i64 0, .int .i64 0, .int .i64 0, .raw (.slice none 0 0)], .box [.int .i64 ((m_6.getD i_41.toNat dSProfile).ID), .int .i64 ((m_6.getD i_41.toNat dSProfile).Level), .int .i64 ((m_6.getD i_41.toNat dSProfile).Purpose), .int .i64 ((m_6.getD i_41.toNat dSProfile).Kind), .int .i64 ((m_6.getD i_41.toNat dSProfile).Conn), .str ((m_6.getD i_41.toNat dSProfile).Txn), .int .i64 ((m_6.getD i_41.toNat dSProfile).Span_From), .int .i64 ((m_6.getD i_41.toNat dSProfile).Span_To), .int .i64 ((m_6.getD i_41.toNat dSProfile).Start), .int .i64 ((m_6.getD i_41.toNat dSProfile).Duration), .vec ((m_6.getD i_41.toNat dSProfile).Periods).length 2 (gL cSPeriod dSPeriod ((m_6.getD i_41.toNat dSProfile).Periods))]]) [] rfl rfl rfl rfl (fun s2 => by refine EOp.eq (e_store_box rfl rfl rfl rfl rfl ty26 rfl rfl rfl rfl) ?_; rfl) ?_
                        refine ⟨rfl, SameP.zero, ?_⟩
                        refine TTree.node 11 [] rfl ?_
                        refine AllP.cons ?_ ?_
                        · refine TStep.n (objs' := [.box [.int .i64 ((m_6.getD k_85.toNat dSProfile).ID), .int .i64 ((m_6.getD k_85.toNat dSProfile).Level), .int .i64 ((m_6.getD k_85.toNat dSProfile).Purpose), .int .i64 ((m_6.getD k_85.toNat dSProfile).Kind), .int .i64 ((m_6.getD k_85.toNat dSProfile).Conn), .str ((m_6.getD k_85.toNat dSProfile).Txn), .int .i64 ((m_6.getD k_85.toNat dSProfile).Span_From), .int .i64 ((m_6.getD k_85.toNat dSProfile).Span_To), .int .i64 ((m_6.getD k_85.toNat dSProfile).Start), .int .i64 ((m_6.getD k_85.toNat dSProfile).Duration), .vec ((m_6.getD k_85.toNat dSProfile).Periods).length 2 (gL cSPeriod dSPeriod ((m_6.getD k_85.toNat dSProfile).Periods))], .box [.int .i64 ((m_6.getD i_41.toNat dSProfile).ID), .int .i64 ((m_6.getD i_41.toNat dSProfile).Level), .int .i64 ((m_6.getD i_41.toNat dSProfile).Purpose), .int .i64 ((m_6.getD i_41.toNat dSProfile).Kind), .int .i64 ((m_6.getD i_41.toNat dSProfile).Conn), .str ((m_6.getD i_41.toNat dSProfile).Txn), .int .i64 ((m_6.getD i_41.toNat dSProfile).Span_From), .int .i64 ((m_6.getD i_41.toNat dSProfile).Span_To), .int .i64 ((m_6.getD i_41.toNat dSProfile).Start), .int .i64 ((m_6.getD i_41.toNat dSProfile).Duration), .vec ((m_6.getD i_41.toNat dSProfile).Periods).length 2 (gL cSPeriod dSPeriod ((m_6.getD i_41.toNat dSProfile).Periods))]]) [] rfl rfl rfl rfl (fun s2 => by refine EOp.eq (e_store_box rfl rfl rfl rfl rfl ty26 rfl rfl rfl rfl) ?_; rfl) ?_
                          refine ⟨rfl, SameP.zero, ?_⟩
                          exact TTree.leaf rfl (sub_gen [1, 0] rfl rfl ⟨zc rfl rfl, zc rfl rfl, zc rfl rfl, zc rfl rfl, zc rfl rfl, trivial⟩ ⟨⟨_, rfl, ⟨ii rfl rfl, ii rfl rfl, ii rfl rfl, ii rfl rfl, ii rfl rfl, ii rfl rfl, ii rfl rfl, ii rfl rfl, ii rfl rfl, ii rfl rfl, ii rfl rfl, trivial⟩⟩, ⟨_, rfl, ⟨ii rfl rfl, ii rfl rfl, ii rfl rfl, ii rfl rfl, ii rfl rfl, ii rfl rfl, ii rfl rfl, ii rfl rfl, ii rfl rfl, ii rfl rfl, ii rfl rfl, trivial⟩⟩, trivial⟩)
                        exact AllP.nil
                      exact AllP.nil
                    exact AllP.nil
                  exact AllP.nil
                refine SCode.seq ?_
                rcases cond_out h with ⟨g100, h⟩ | ⟨g100, h⟩
                · refine SCode.region (show SOps _ _ _ [0, 1, 2, 3, 4, 5, 6, 7, 8, 9, 10, 11, 12, 13, 14, 15, 16, 17, 18, 19, 20, 21, 22, 23, 24, 25, 26, 27, 28, 29, 30, 31, 32] _ _ from ?_)
                  refine SOps.q rfl (.plain rfl) rfl (q_field_ptr rfl rfl fd26_0) ?_
                  refine SOps.q rfl (.plain rfl) rfl (q_load_ptr rfl rfl rfl rfl ty3) ?_
                  refine SOps.q rfl (.plain rfl) rfl (q_field_ptr rfl rfl fd26_0) ?_
                  refine SOps.q rfl (.plain rfl) rfl (q_load_ptr rfl rfl rfl rfl ty3) ?_
                  refine SOps.q rfl (.plain rfl) rfl (q_eql rfl rfl rfl) ?_
                  refine SOps.q rfl (.plain rfl) rfl (q_move rfl rfl) ?_
                  refine SOps.skip rfl 5 91 false rfl rfl (.inl (gT g100)) rfl ?_
                  refine SOps.skip rfl 5 91 false rfl rfl (.inl (gT g100)) rfl ?_
                  refine SOps.skip rfl 5 91 false rfl rfl (.inl (gT g100)) rfl ?_
                  refine SOps.skip rfl 5 91 false rfl rfl (.inl (gT g100)) rfl ?_
                  refine SOps.skip rfl 5 91 false rfl rfl (.inl (gT g100)) rfl ?_
                  refine SOps.skip rfl 5 91 false rfl rfl (.inl (gT g100)) rfl ?_
                  refine SOps.skip rfl 11 97 true rfl rfl (.inr rfl) rfl ?_
                  refine SOps.skip rfl 11 97 true rfl rfl (.inr rfl) rfl ?_
                  refine SOps.skip rfl 11 97 true rfl rfl (.inr rfl) rfl ?_
                  refine SOps.skip rfl 11 97 true rfl rfl (.inr rfl) rfl ?_
                  refine SOps.skip rfl 11 97 true rfl rfl (.inr rfl) rfl ?_
                  refine SOps.skip rfl 5 91 false rfl rfl (.inl (gT g100)) rfl ?_
                  refine SOps.skip rfl 5 91 false rfl rfl (.inl (gT g100)) rfl ?_
                  refine SOps.skip rfl 18 104 true rfl rfl (.inr rfl) rfl ?_
                  refine SOps.skip rfl 18 104 true rfl rfl (.inr rfl) rfl ?_
                  refine SOps.skip rfl 18 104 true rfl rfl (.inr rfl) rfl ?_
                  refine SOps.skip rfl 18 104 true rfl rfl (.inr rfl) rfl ?_
                  refine SOps.skip rfl 18 104 true rfl rfl (.inr rfl) rfl ?_
                  refine SOps.skip rfl 5 91 false rfl rfl (.inl (gT g100)) rfl ?_
                  refine SOps.skip rfl 5 91 false rfl rfl (.inl (gT g100)) rfl ?_
                  refine SOps.skip rfl 25 111 true rfl rfl (.inr rfl) rfl ?_
                  refine SOps.skip rfl 25 111 true rfl rfl (.inr rfl) rfl ?_
                  refine SOps.skip rfl 25 111 true rfl rfl (.inr rfl) rfl ?_
                  refine SOps.skip rfl 25 111 true rfl rfl (.inr rfl) rfl ?_
                  refine SOps.skip rfl 25 111 true rfl rfl (.inr rfl) rfl ?_
                  refine SOps.skip rfl 5 91 false rfl rfl (.inl (gT g100)) rfl ?_
                  refine SOps.q rfl (.plain rfl) rfl (q_pick_t rfl rfl g100 rfl) ?_
                  refine SOps.sub (st' := ⟨[(3, .c (.vec m_6.length 11 (gL cSProfile dSProfile m_6))), (7, .c (.int .i64 i_41)), (8, .c (.int .i64 k_85)), (118, .c (.bool true))], []⟩) (sub_gen [] rfl rfl ⟨zc rfl rfl, zc rfl rfl, zc rfl rfl, zc rfl rfl, trivial⟩ trivial) ?_
                  refine SOps.nil ?_
                  refine SCode.cond_t rfl rfl ?_
                  refine SCode.seq ?_
                  refine SCode.region (show SOps _ _ _ [0] _ _ from ?_)
                  refine SOps.q rfl (.plain rfl) rfl (q_assign rfl rfl) ?_
                  refine SOps.sub (st' := ⟨[(2, .c (.bool false))], []⟩) (sub_gen [] rfl rfl ⟨zc rfl rfl, trivial⟩ trivial) ?_
                  refine SOps.nil ?_
                  refine SCode.ret ?_
                  obtain rfl := Option.some.inj h
                  exact ⟨⟨[(2, .c (.bool false))], []⟩, _, sub_gen [] rfl rfl ⟨zc rfl rfl, trivial⟩ trivial, resA1 (v := .c (.bool false)) rfl rfl, rfl⟩
                rcases cond_out h with ⟨g101, h⟩ | ⟨g101, h⟩
                · rcases cond_out h with ⟨g102, h⟩ | ⟨g102, h⟩
                  · rcases cond_out h with ⟨g103, h⟩ | ⟨g103, h⟩
                    · refine SCode.region (show SOps _ _ _ [0, 1, 2, 3, 4, 5, 6, 7, 8, 9, 10, 11, 12, 13, 14, 15, 16, 17, 18, 19, 20, 21, 22, 23, 24, 25, 26, 27, 28, 29, 30, 31, 32] _ _ from ?_)
                      refine SOps.q rfl (.plain rfl) rfl (q_field_ptr rfl rfl fd26_0) ?_
                      refine SOps.q rfl (.plain rfl) rfl (q_load_ptr rfl rfl rfl rfl ty3) ?_
                      refine SOps.q rfl (.plain rfl) rfl (q_field_ptr rfl rfl fd26_0) ?_
                      refine SOps.q rfl (.plain rfl) rfl (q_load_ptr rfl rfl rfl rfl ty3) ?_
                      refine SOps.q rfl (.plain rfl) rfl (q_eql rfl rfl rfl) ?_
                      refine SOps.q rfl (.plain rfl) rfl (q_move rfl rfl) ?_
                      refine SOps.q rfl (.guard 5 91 false rfl rfl (gF g100)) rfl (q_field_ptr rfl rfl fd26_2) ?_
                      refine SOps.q rfl (.guard 5 91 false rfl rfl (gF g100)) rfl (q_load_ptr rfl rfl rfl rfl ty3) ?_
                      refine SOps.q rfl (.guard 5 91 false rfl rfl (gF g100)) rfl (q_field_ptr rfl rfl fd26_2) ?_
                      refine SOps.q rfl (.guard 5 91 false rfl rfl (gF g100)) rfl (q_load_ptr rfl rfl rfl rfl ty3) ?_
                      refine SOps.q rfl (.guard 5 91 false rfl rfl (gF g100)) rfl (q_eql rfl rfl rfl) ?_
                      refine SOps.q rfl (.guard 5 91 false rfl rfl (gF g100)) rfl (q_move rfl rfl) ?_
                      refine SOps.q rfl (.guard 11 97 true rfl rfl (gT g101)) rfl (q_field_ptr rfl rfl fd26_1) ?_
                      refine SOps.q rfl (.guard 11 97 true rfl rfl (gT g101)) rfl (q_load_ptr rfl rfl rfl rfl ty3) ?_
                      refine SOps.q rfl (.guard 11 97 true rfl rfl (gT g101)) rfl (q_field_ptr rfl rfl fd26_1) ?_
                      refine SOps.q rfl (.guard 11 97 true rfl rfl (gT g101)) rfl (q_load_ptr rfl rfl rfl rfl ty3) ?_
                      refine SOps.q rfl (.guard 11 97 true rfl rfl (gT g101)) rfl (q_eql rfl rfl rfl) ?_
                      refine SOps.q rfl (.guard 5 91 false rfl rfl (gF g100)) rfl (q_pick_t rfl rfl g101 rfl) ?_
                      refine SOps.q rfl (.guard 5 91 false rfl rfl (gF g100)) rfl (q_move rfl rfl) ?_
                      refine SOps.q rfl (.guard 18 104 true rfl rfl (gT g102)) rfl (q_field_ptr rfl rfl fd26_4) ?_
                      refine SOps.q rfl (.guard 18 104 true rfl rfl (gT g102)) rfl (q_load_ptr rfl rfl rfl rfl ty3) ?_
                      refine SOps.q rfl (.guard 18 104 true rfl rfl (gT g102)) rfl (q_field_ptr rfl rfl fd26_4) ?_
                      refine SOps.q rfl (.guard 18 104 true rfl rfl (gT g102)) rfl (q_load_ptr rfl rfl rfl rfl ty3) ?_
                      refine SOps.q rfl (.guard 18 104 true rfl rfl (gT g102)) rfl (q_eql rfl rfl rfl) ?_
                      refine SOps.q rfl (.guard 5 91 false rfl rfl (gF g100)) rfl (q_pick_t rfl rfl g102 rfl) ?_
                      refine SOps.q rfl (.guard 5 91 false rfl rfl (gF g100)) rfl (q_move rfl rfl) ?_
                      refine SOps.q rfl (.guard 25 111 true rfl rfl (gT g103)) rfl (q_field_ptr rfl rfl fd26_5) ?_
                      refine SOps.q rfl (.guard 25 111 true rfl rfl (gT g103)) rfl (q_load_ptr rfl rfl rfl rfl ty9) ?_
                      refine SOps.q rfl (.guard 25 111 true rfl rfl (gT g103)) rfl (q_field_ptr rfl rfl fd26_5) ?_
                      refine SOps.q rfl (.guard 25 111 true rfl rfl (gT g103)) rfl (q_load_ptr rfl rfl rfl rfl ty9) ?_
                      refine SOps.q rfl (.guard 25 111 true rfl rfl (gT g103)) rfl (q_eqlS rfl rfl rfl) ?_
                      refine SOps.q rfl (.guard 5 91 false rfl rfl (gF g100)) rfl (q_pick_t rfl rfl g103 rfl) ?_
                      refine SOps.q rfl (.plain rfl) rfl (q_pick_f rfl rfl g100 rfl) ?_
                      refine SOps.sub (st' := ⟨[(3, .c (.vec m_6.length 11 (gL cSProfile dSProfile m_6))), (7, .c (.int .i64 i_41)), (8, .c (.int .i64 k_85)), (118, .c (.bool (sEq ((m_6.getD i_41.toNat dSProfile).Txn) ((m_6.getD k_85.toNat dSProfile).Txn))))], []⟩) (sub_gen [] rfl rfl ⟨zc rfl rfl, zc rfl rfl, zc rfl rfl, zc rfl rfl, trivial⟩ trivial) ?_
                      refine SOps.nil ?_
                      rcases cond_out h with ⟨g104, h⟩ | ⟨g104, h⟩
                      · refine SCode.cond_t rfl g104 ?_
                        refine SCode.seq ?_
                        refine SCode.region (show SOps _ _ _ [0] _ _ from ?_)
                        refine SOps.q rfl (.plain rfl) rfl (q_assign rfl rfl) ?_
                        refine SOps.sub (st' := ⟨[(2, .c (.bool false))], []⟩) (sub_gen [] rfl rfl ⟨zc rfl rfl, trivial⟩ trivial) ?_
                        refine SOps.nil ?_
                        refine SCode.ret ?_
                        obtain rfl := Option.some.inj h
                        exact ⟨⟨[(2, .c (.bool false))], []⟩, _, sub_gen [] rfl rfl ⟨zc rfl rfl, trivial⟩ trivial, resA1 (v := .c (.bool false)) rfl rfl, rfl⟩
                      refine SCode.cond_f rfl g104 ?_
                      refine SCode.skip ?_
                      exact ⟨(), h, sub_gen [] rfl rfl ⟨zc rfl rfl, zc rfl rfl, zc rfl rfl, trivial⟩ trivial⟩
                    refine SCode.region (show SOps _ _ _ [0, 1, 2, 3, 4, 5, 6, 7, 8, 9, 10, 11, 12, 13, 14, 15, 16, 17, 18, 19, 20, 21, 22, 23, 24, 25, 26, 27, 28, 29, 30, 31, 32] _ _ from ?_)
                    refine SOps.q rfl (.plain rfl) rfl (q_field_ptr rfl rfl fd26_0) ?_
                    refine SOps.q rfl (.plain rfl) rfl (q_load_ptr rfl rfl rfl rfl ty3) ?_
                    refine SOps.q rfl (.plain rfl) rfl (q_field_ptr rfl rfl fd26_0) ?_
                    refine SOps.q rfl (.plain rfl) rfl (q_load_ptr rfl rfl rfl rfl ty3) ?_
                    refine SOps.q rfl (.plain rfl) rfl (q_eql rfl rfl rfl) ?_
                    refine SOps.q rfl (.plain rfl) rfl (q_move rfl rfl) ?_
                    refine SOps.q rfl (.guard 5 91 false rfl rfl (gF g100)) rfl (q_field_ptr rfl rfl fd26_2) ?_
                    refine SOps.q rfl (.guard 5 91 false rfl rfl (gF g100)) rfl (q_load_ptr rfl rfl rfl rfl ty3) ?_
                    refine SOps.q rfl (.guard 5 91 false rfl rfl (gF g100)) rfl (q_field_ptr rfl rfl fd26_2) ?_
                    refine SOps.q rfl (.guard 5 91 false rfl rfl (gF g100)) rfl (q_load_ptr rfl rfl rfl rfl ty3) ?_
                    refine SOps.q rfl (.guard 5 91 false rfl rfl (gF g100)) rfl (q_eql rfl rfl rfl) ?_
                    refine SOps.q rfl (.guard 5 91 false rfl rfl (gF g100)) rfl (q_move rfl rfl) ?_
                    refine SOps.q rfl (.guard 11 97 true rfl rfl (gT g101)) rfl (q_field_ptr rfl rfl fd26_1) ?_
                    refine SOps.q rfl (.guard 11 97 true rfl rfl (gT g101)) rfl (q_load_ptr rfl rfl rfl rfl ty3) ?_
                    refine SOps.q rfl (.guard 11 97 true rfl rfl (gT g101)) rfl (q_field_ptr rfl rfl fd26_1) ?_
                    refine SOps.q rfl (.guard 11 97 true rfl rfl (gT g101)) rfl (q_load_ptr rfl rfl rfl rfl ty3) ?_
                    refine SOps.q rfl (.guard 11 97 true rfl rfl (gT g101)) rfl (q_eql rfl rfl rfl) ?_
                    refine SOps.q rfl (.guard 5 91 false rfl rfl (gF g100)) rfl (q_pick_t rfl rfl g101 rfl) ?_
                    refine SOps.q rfl (.guard 5 91 false rfl rfl (gF g100)) rfl (q_move rfl rfl) ?_
                    refine SOps.q rfl (.guard 18 104 true rfl rfl (gT g102)) rfl (q_field_ptr rfl rfl fd26_4) ?_
                    refine SOps.q rfl (.guard 18 104 true rfl rfl (gT g102)) rfl (q_load_ptr rfl rfl rfl rfl ty3) ?_
                    refine SOps.q rfl (.guard 18 104 true rfl rfl (gT g102)) rfl (q_field_ptr rfl rfl fd26_4) ?_
                    refine SOps.q rfl (.guard 18 104 true rfl rfl (gT g102)) rfl (q_load_ptr rfl rfl rfl rfl ty3) ?_
                    refine SOps.q rfl (.guard 18 104 true rfl rfl (gT g102)) rfl (q_eql rfl rfl rfl) ?_
                    refine SOps.q rfl (.guard 5 91 false rfl rfl (gF g100)) rfl (q_pick_t rfl rfl g102 rfl) ?_
                    refine SOps.q rfl (.guard 5 91 false rfl rfl (gF g100)) rfl (q_move rfl rfl) ?_
                    refine SOps.skip rfl 25 111 true rfl rfl (.inl (gF g103)) rfl ?_
                    refine SOps.skip rfl 25 111 true rfl rfl (.inl (gF g103)) rfl ?_
                    refine SOps.skip rfl 25 111 true rfl rfl (.inl (gF g103)) rfl ?_
                    refine SOps.skip rfl 25 111 true rfl rfl (.inl (gF g103)) rfl ?_
                    refine SOps.skip rfl 25 111 true rfl rfl (.inl (gF g103)) rfl ?_
                    refine SOps.q rfl (.guard 5 91 false rfl rfl (gF g100)) rfl (q_pick_f rfl rfl g103 rfl) ?_
                    refine SOps.q rfl (.plain rfl) rfl (q_pick_f rfl rfl g100 rfl) ?_
                    refine SOps.sub (st' := ⟨[(3, .c (.vec m_6.length 11 (gL cSProfile dSProfile m_6))), (7, .c (.int .i64 i_41)), (8, .c (.int .i64 k_85)), (118, .c (.bool false))], []⟩) (sub_gen [] rfl rfl ⟨zc rfl rfl, zc rfl rfl, zc rfl rfl, zc rfl rfl, trivial⟩ trivial) ?_
                    refine SOps.nil ?_
                    refine SCode.cond_f rfl rfl ?_
                    refine SCode.skip ?_
                    exact ⟨(), h, sub_gen [] rfl rfl ⟨zc rfl rfl, zc rfl rfl, zc rfl rfl, trivial⟩ trivial⟩
                  refine SCode.region (show SOps _ _ _ [0, 1, 2, 3, 4, 5, 6, 7, 8, 9, 10, 11, 12, 13, 14, 15, 16, 17, 18, 19, 20, 21, 22, 23, 24, 25, 26, 27, 28, 29, 30, 31, 32] _ _ from ?_)
                  refine SOps.q rfl (.plain rfl) rfl (q_field_ptr rfl rfl fd26_0) ?_
                  refine SOps.q rfl (.plain rfl) rfl (q_load_ptr rfl rfl rfl rfl ty3) ?_
                  refine SOps.q rfl (.plain rfl) rfl (q_field_ptr rfl rfl fd26_0) ?_
                  refine SOps.q rfl (.plain rfl) rfl (q_load_ptr rfl rfl rfl rfl ty3) ?_
                  refine SOps.q rfl (.plain rfl) rfl (q_eql rfl rfl rfl) ?_
                  refine SOps.q rfl (.plain rfl) rfl (q_move rfl rfl) ?_
                  refine SOps.q rfl (.guard 5 91 false rfl rfl (gF g100)) rfl (q_field_ptr rfl rfl fd26_2) ?_
                  refine SOps.q rfl (.guard 5 91 false rfl rfl (gF g100)) rfl (q_load_ptr rfl rfl rfl rfl ty3) ?_
                  refine SOps.q rfl (.guard 5 91 false rfl rfl (gF g100)) rfl (q_field_ptr rfl rfl fd26_2) ?_
                  refine SOps.q rfl (.guard 5 91 false rfl rfl (gF g100)) rfl (q_load_ptr rfl rfl rfl rfl ty3) ?_
                  refine SOps.q rfl (.guard 5 91 false rfl rfl (gF g100)) rfl (q_eql rfl rfl rfl) ?_
                  refine SOps.q rfl (.guard 5 91 false rfl rfl (gF g100)) rfl (q_move rfl rfl) ?_
                  refine SOps.q rfl (.guard 11 97 true rfl rfl (gT g101)) rfl (q_field_ptr rfl rfl fd26_1) ?_
                  refine SOps.q rfl (.guard 11 97 true rfl rfl (gT g101)) rfl (q_load_ptr rfl rfl rfl rfl ty3) ?_
                  refine SOps.q rfl (.guard 11 97 true rfl rfl (gT g101)) rfl (q_field_ptr rfl rfl fd26_1) ?_
                  refine SOps.q rfl (.guard 11 97 true rfl rfl (gT g101)) rfl (q_load_ptr rfl rfl rfl rfl ty3) ?_
                  refine SOps.q rfl (.guard 11 97 true rfl rfl (gT g101)) rfl (q_eql rfl rfl rfl) ?_
                  refine SOps.q rfl (.guard 5 91 false rfl rfl (gF g100)) rfl (q_pick_t rfl rfl g101 rfl) ?_
                  refine SOps.q rfl (.guard 5 91 false rfl rfl (gF g100)) rfl (q_move rfl rfl) ?_
                  refine SOps.skip rfl 18 104 true rfl rfl (.inl (gF g102)) rfl ?_
                  refine SOps.skip rfl 18 104 true rfl rfl (.inl (gF g102)) rfl ?_
                  refine SOps.skip rfl 18 104 true rfl rfl (.inl (gF g102)) rfl ?_
                  refine SOps.skip rfl 18 104 true rfl rfl (.inl (gF g102)) rfl ?_
                  refine SOps.skip rfl 18 104 true rfl rfl (.inl (gF g102)) rfl ?_
                  refine SOps.q rfl (.guard 5 91 false rfl rfl (gF g100)) rfl (q_pick_f rfl rfl g102 rfl) ?_
                  refine SOps.q rfl (.guard 5 91 false rfl rfl (gF g100)) rfl (q_move rfl rfl) ?_
                  refine SOps.skip rfl 25 111 true rfl rfl (.inl rfl) rfl ?_
                  refine SOps.skip rfl 25 111 true rfl rfl (.inl rfl) rfl ?_
                  refine SOps.skip rfl 25 111 true rfl rfl (.inl rfl) rfl ?_
                  refine SOps.skip rfl 25 111 true rfl rfl (.inl rfl) rfl ?_
                  refine SOps.skip rfl 25 111 true rfl rfl (.inl rfl) rfl ?_
                  refine SOps.q rfl (.guard 5 91 false rfl rfl (gF g100)) rfl (q_pick_f rfl rfl rfl rfl) ?_
                  refine SOps.q rfl (.plain rfl) rfl (q_pick_f rfl rfl g100 rfl) ?_
                  refine SOps.sub (st' := ⟨[(3, .c (.vec m_6.length 11 (gL cSProfile dSProfile m_6))), (7, .c (.int .i64 i_41)), (8, .c (.int .i64 k_85)), (118, .c (.bool false))], []⟩) (sub_gen [] rfl rfl ⟨zc rfl rfl, zc rfl rfl, zc rfl rfl, zc rfl rfl, trivial⟩ trivial) ?_
                  refine SOps.nil ?_
                  refine SCode.cond_f rfl rfl ?_
                  refine SCode.skip ?_
                  exact ⟨(), h, sub_gen [] rfl rfl ⟨zc rfl rfl, zc rfl rfl, zc rfl rfl, trivial⟩ trivial⟩
                refine SCode.region (show SOps _ _ _ [0, 1, 2, 3, 4, 5, 6, 7, 8, 9, 10, 11, 12, 13, 14, 15, 16, 17, 18, 19, 20, 21, 22, 23, 24, 25, 26, 27, 28, 29, 30, 31, 32] _ _ from ?_)
                refine SOps.q rfl (.plain rfl) rfl (q_field_ptr rfl rfl fd26_0) ?_
                refine SOps.q rfl (.plain rfl) rfl (q_load_ptr rfl rfl rfl rfl ty3) ?_
                refine SOps.q rfl (.plain rfl) rfl (q_field_ptr rfl rfl fd26_0) ?_
                refine SOps.q rfl (.plain rfl) rfl (q_load_ptr rfl rfl rfl rfl ty3) ?_
                refine SOps.q rfl (.plain rfl) rfl (q_eql rfl rfl rfl) ?_
                refine SOps.q rfl (.plain rfl) rfl (q_move rfl rfl) ?_
                refine SOps.q rfl (.guard 5 91 false rfl rfl (gF g100)) rfl (q_field_ptr rfl rfl fd26_2) ?_
                refine SOps.q rfl (.guard 5 91 false rfl rfl (gF g100)) rfl (q_load_ptr rfl rfl rfl rfl ty3) ?_
                refine SOps.q rfl (.guard 5 91 false rfl rfl (gF g100)) rfl (q_field_ptr rfl rfl fd26_2) ?_
                refine SOps.q rfl (.guard 5 91 false rfl rfl (gF g100)) rfl (q_load_ptr rfl rfl rfl rfl ty3) ?_
                refine SOps.q rfl (.guard 5 91 false rfl rfl (gF g100)) rfl (q_eql rfl rfl rfl) ?_
                refine SOps.q rfl (.guard 5 91 false rfl rfl (gF g100)) rfl (q_move rfl rfl) ?_
                refine SOps.skip rfl 11 97 true rfl rfl (.inl (gF g101)) rfl ?_
                refine SOps.skip rfl 11 97 true rfl rfl (.inl (gF g101)) rfl ?_
                refine SOps.skip rfl 11 97 true rfl rfl (.inl (gF g101)) rfl ?_
                refine SOps.skip rfl 11 97 true rfl rfl (.inl (gF g101)) rfl ?_
                refine SOps.skip rfl 11 97 true rfl rfl (.inl (gF g101)) rfl ?_
                refine SOps.q rfl (.guard 5 91 false rfl rfl (gF g100)) rfl (q_pick_f rfl rfl g101 rfl) ?_
                refine SOps.q rfl (.guard 5 91 false rfl rfl (gF g100)) rfl (q_move rfl rfl) ?_
                refine SOps.skip rfl 18 104 true rfl rfl (.inl rfl) rfl ?_
                refine SOps.skip rfl 18 104 true rfl rfl (.inl rfl) rfl ?_
                refine SOps.skip rfl 18 104 true rfl rfl (.inl rfl) rfl ?_
                refine SOps.skip rfl 18 104 true rfl rfl (.inl rfl) rfl ?_
                refine SOps.skip rfl 18 104 true rfl rfl (.inl rfl) rfl ?_
                refine SOps.q rfl (.guard 5 91 false rfl rfl (gF g100)) rfl (q_pick_f rfl rfl rfl rfl) ?_
                refine SOps.q rfl (.guard 5 91 false rfl rfl (gF g100)) rfl (q_move rfl rfl) ?_
                refine SOps.skip rfl 25 111 true rfl rfl (.inl rfl) rfl ?_
                refine SOps.skip rfl 25 111 true rfl rfl (.inl rfl) rfl ?_
                refine SOps.skip rfl 25 111 true rfl rfl (.inl rfl) rfl ?_
                refine SOps.skip rfl 25 111 true rfl rfl (.inl rfl) rfl ?_
                refine SOps.skip rfl 25 111 true rfl rfl (.inl rfl) rfl ?_
                refine SOps.q rfl (.guard 5 91 false rfl rfl (gF g100)) rfl (q_pick_f rfl rfl rfl rfl) ?_
                refine SOps.q rfl (.plain rfl) rfl (q_pick_f rfl rfl g100 rfl) ?_
                refine SOps.sub (st' := ⟨[(3, .c (.vec m_6.length 11 (gL cSProfile dSProfile m_6))), (7, .c (.int .i64 i_41)), (8, .c (.int .i64 k_85)), (118, .c (.bool false))], []⟩) (sub_gen [] rfl rfl ⟨zc rfl rfl, zc rfl rfl, zc rfl rfl, zc rfl rfl, trivial⟩ trivial) ?_
                refine SOps.nil ?_
                refine SCode.cond_f rfl rfl ?_
                refine SCode.skip ?_
                exact ⟨(), h, sub_gen [] rfl rfl ⟨zc rfl rfl, zc rfl rfl, zc rfl rfl, trivial⟩ trivial⟩
              rintro ⟨⟩ h
              show SCode _ _ _ ⟨[(3, .c (.vec m_6.length 11 (gL cSProfile dSProfile m_6))), (7, .c (.int .i64 i_41)), (8, .c (.int .i64 k_85))], []⟩ _
              replace h : chargenetlaw15_ProfileUnique_p97 k_85 (fun k_85 => chargenetlaw15_ProfileUnique_l95 m_6 i_41 (fun i_41 => chargenetlaw15_ProfileUnique_l73 F m_6 n_73 i_41) n_95 k_85) = some r := h
              unfold chargenetlaw15_ProfileUnique_p97 at h
              refine SCode.region (show SOps _ _ _ [0, 1, 2] _ _ from ?_)
              refine SOps.q rfl (.plain rfl) rfl (q_move rfl rfl) ?_
              refine SOps.q rfl (.plain rfl) rfl (q_add rfl rfl rfl) ?_
              refine SOps.q rfl (.plain rfl) rfl (q_assign rfl rfl) ?_
              refine SOps.sub (st' := ⟨[(3, .c (.vec m_6.length 11 (gL cSProfile dSProfile m_6))), (7, .c (.int .i64 i_41)), (8, .c (.int .i64 (IntKind.wrap .i64 (k_85 + 1))))], []⟩) (sub_gen [] rfl rfl ⟨zc rfl rfl, zc rfl rfl, zc rfl rfl, trivial⟩ trivial) ?_
              refine SOps.nil ?_
              exact ⟨(n_95, IntKind.wrap .i64 (k_85 + 1)), h, Nat.lt_succ_self n_95, sub_gen [] rfl rfl ⟨zc rfl rfl, zc rfl rfl, zc rfl rfl, trivial⟩ trivial⟩
            refine SCode.cond_f rfl g96 ?_
            refine SCode.exit ?_
            exact ⟨(), h, sub_gen [] rfl rfl ⟨zc rfl rfl, zc rfl rfl, trivial⟩ trivial⟩
        rintro ⟨⟩ h
        show SCode _ _ _ ⟨[(3, .c (.vec m_6.length 11 (gL cSProfile dSProfile m_6))), (7, .c (.int .i64 i_41))], []⟩ _
        replace h : chargenetlaw15_ProfileUnique_p75 i_41 (fun i_41 => chargenetlaw15_ProfileUnique_l73 F m_6 n_73 i_41) = some r := h
        unfold chargenetlaw15_ProfileUnique_p75 at h
        refine SCode.region (show SOps _ _ _ [0, 1, 2] _ _ from ?_)
        refine SOps.q rfl (.plain rfl) rfl (q_move rfl rfl) ?_
        refine SOps.q rfl (.plain rfl) rfl (q_add rfl rfl rfl) ?_
        refine SOps.q rfl (.plain rfl) rfl (q_assign rfl rfl) ?_
        refine SOps.sub (st' := ⟨[(3, .c (.vec m_6.length 11 (gL cSProfile dSProfile m_6))), (7, .c (.int .i64 (IntKind.wrap .i64 (i_41 + 1))))], []⟩) (sub_gen [] rfl rfl ⟨zc rfl rfl, zc rfl rfl, trivial⟩ trivial) ?_
        refine SOps.nil ?_
        exact ⟨(n_73, IntKind.wrap .i64 (i_41 + 1)), h, Nat.lt_succ_self n_73, sub_gen [] rfl rfl ⟨zc rfl rfl, zc rfl rfl, trivial⟩ trivial⟩
      refine SCode.cond_f rfl g74 ?_
      refine SCode.exit ?_
      exact ⟨(), h, sub_gen [] rfl rfl trivial trivial⟩
  rintro ⟨⟩ h
  show SCode _ _ _ ⟨[], []⟩ _
  replace h : chargenetlaw15_ProfileUnique_p9 F = some r := h
  unfold chargenetlaw15_ProfileUnique_p9 at h
  refine SCode.seq ?_
  obtain ⟨c_7, g8, h⟩ := bind_out h
  try dsimp only at h
  refine SCode.region (show SOps _ _ _ [0, 1] _ _ from ?_)
  refine SOps.q rfl (.plain rfl) rfl (q_call (chargenetlaw15_awake_ok F  c_7 g8) [] rfl fn11 trivial (.inl rfl)) ?_
  refine SOps.q rfl (.plain rfl) rfl (q_assign rfl rfl) ?_
  refine SOps.sub (st' := ⟨[(2, .c (.bool c_7))], []⟩) (sub_gen [] rfl rfl ⟨zc rfl rfl, trivial⟩ trivial) ?_
  refine SOps.nil ?_
  refine SCode.ret ?_
  obtain rfl := Option.some.inj h
  exact ⟨⟨[(2, .c (.bool c_7))], []⟩, _, sub_gen [] rfl rfl ⟨zc rfl rfl, trivial⟩ trivial, resA1 (v := .c (.bool c_7)) rfl rfl, rfl⟩
end Go.Proofs.Ytldekibkmombdaa.W
