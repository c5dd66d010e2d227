/- Written by a program of ours (wip/eng/gen.py): the functions compute their models. -/
import Derived.Test.YtggfgdohbeoabaaFacts
import Derived.Test.YtggfgdohbeoabaaV7x4
namespace Go.Proofs.Ytggfgdohbeoabaa.W
open Go Go.Proofs Go.Proofs.Ytggfgdohbeoabaa.E Go.Proofs.Ytggfgdohbeoabaa.M
set_option linter.unusedVariables false
set_option maxRecDepth 100000 in
set_option maxHeartbeats 8000000 in
theorem chargenetref39_role_ok (F : Nat) (a0_roles : List SRole) (a1_i : Int) (r : Int) (h : chargenetref39_role F a0_roles a1_i = some r) :
    SFun Try.prog 28 [] [.c (.vec a0_roles.length 4 (gL cSRole dSRole a0_roles)), .c (.int .i64 a1_i)] (fun x _ => x = .c (.int .i64 r)) := by
  refine SFun.of (n := 68) Try.func28 rfl rfl rfl ?_
  unfold chargenetref39_role at h
  show SCode _ _ _ ⟨[(0, .c (.vec a0_roles.length 4 (gL cSRole dSRole a0_roles))), (1, .c (.int .i64 a1_i))], []⟩ _
  refine SCode.seq ?_
  refine SCode.region (show SOps _ _ _ [0] _ _ from ?_)
  refine SOps.q rfl (.plain rfl) rfl (q_assign rfl rfl) ?_
  refine SOps.sub (st' := ⟨[(0, .c (.vec a0_roles.length 4 (gL cSRole dSRole a0_roles))), (1, .c (.int .i64 a1_i))], []⟩) (sub_gen [] rfl rfl ⟨zc rfl rfl, zc rfl rfl, trivial⟩ trivial) ?_
  refine SOps.nil ?_
  refine SCode.seq ?_
  obtain ⟨g1, h⟩ := guard_out h
  refine SCode.region (show SOps _ _ _ [0, 1, 2, 3, 4, 5] _ _ from ?_)
  refine SOps.q rfl (.plain rfl) rfl (q_move rfl rfl) ?_
  refine SOps.q rfl (.plain rfl) rfl (q_move rfl rfl) ?_
  refine SOps.q rfl (.plain rfl) rfl (q_index_vec rfl rfl rfl sl22 rfl g1.1 g1.2) ?_
  refine SOps.q rfl (.plain rfl) rfl (q_load_eptr_all rfl rfl rfl ty51) ?_
  refine SOps.e rfl (.plain rfl) (e_alloc rfl rfl rfl z51) ?_
  refine SOps.e rfl (.plain rfl) (e_store_box rfl rfl rfl rfl rfl ty51 rfl rfl rfl rfl) ?_
  refine SOps.sub (st' := ⟨[(0, .c (.vec a0_roles.length 4 (gL cSRole dSRole a0_roles))), (1, .c (.int .i64 a1_i)), (5, .c (.ptr 0 0))], [.box [.str ((a0_roles.getD a1_i.toNat dSRole).Name), .vec ((a0_roles.getD a1_i.toNat dSRole).Actions).length 1 (gL (cInt .i64) 0 ((a0_roles.getD a1_i.toNat dSRole).Actions)), .str ((a0_roles.getD a1_i.toNat dSRole).Prefix), .bool ((a0_roles.getD a1_i.toNat dSRole).Deny)]]⟩) (sub_gen [0] rfl rfl ⟨zc rfl rfl, zc rfl rfl, zc rfl rfl, trivial⟩ ⟨⟨_, rfl, ⟨ii rfl rfl, ii rfl rfl, ii rfl rfl, ii rfl rfl, trivial⟩⟩, trivial⟩) ?_
  refine SOps.nil ?_
  refine SCode.seq ?_
  refine SCode.seq ?_
  obtain ⟨c_2, g3, h⟩ := bind_out h
  try dsimp only at h
  refine SCode.region (show SOps _ _ _ [0, 1, 2, 3] _ _ from ?_)
  refine SOps.q rfl (.plain rfl) rfl (q_field_ptr rfl rfl fd51_0) ?_
  refine SOps.q rfl (.plain rfl) rfl (q_load_ptr rfl rfl rfl rfl ty9) ?_
  refine SOps.q rfl (.plain rfl) rfl (q_call (chargenetref01_Valid_ok F ((a0_roles.getD a1_i.toNat dSRole).Name) c_2 g3) [] rfl fn40 ⟨⟨_, rfl, .inl ⟨rfl, rfl⟩⟩, trivial⟩ (.inl rfl)) ?_
  refine SOps.q rfl (.plain rfl) rfl (q_not rfl rfl) ?_
  refine SOps.sub (st' := ⟨[(0, .c (.vec a0_roles.length 4 (gL cSRole dSRole a0_roles))), (1, .c (.int .i64 a1_i)), (5, .c (.ptr 0 0)), (14, .c (.bool ((!c_2))))], [.box [.str ((a0_roles.getD a1_i.toNat dSRole).Name), .vec ((a0_roles.getD a1_i.toNat dSRole).Actions).length 1 (gL (cInt .i64) 0 ((a0_roles.getD a1_i.toNat dSRole).Actions)), .str ((a0_roles.getD a1_i.toNat dSRole).Prefix), .bool ((a0_roles.getD a1_i.toNat dSRole).Deny)]]⟩) (sub_gen [0] rfl rfl ⟨zc rfl rfl, zc rfl rfl, zc rfl rfl, zc rfl rfl, trivial⟩ ⟨⟨_, rfl, ⟨ii rfl rfl, ii rfl rfl, ii rfl rfl, ii rfl rfl, trivial⟩⟩, trivial⟩) ?_
  refine SOps.nil ?_
  rcases cond_out h with ⟨g4, h⟩ | ⟨g4, h⟩
  · refine SCode.cond_t rfl g4 ?_
    refine SCode.seq ?_
    refine SCode.region (show SOps _ _ _ [0] _ _ from ?_)
    refine SOps.q rfl (.plain rfl) rfl (q_assign rfl rfl) ?_
    refine SOps.sub (st' := ⟨[(4, .c (.int .i64 4))], []⟩) (sub_gen [] rfl rfl ⟨zc rfl rfl, trivial⟩ trivial) ?_
    refine SOps.nil ?_
    refine SCode.ret ?_
    obtain rfl := Option.some.inj h
    exact ⟨⟨[(4, .c (.int .i64 4))], []⟩, _, sub_gen [] rfl rfl ⟨zc rfl rfl, trivial⟩ trivial, resA1 (v := .c (.int .i64 4)) rfl rfl, rfl⟩
  refine SCode.cond_f rfl g4 ?_
  refine SCode.skip ?_
  refine SCode.seq ?_
  refine SCode.seq ?_
  obtain ⟨g5, h⟩ := guard_out h
  obtain ⟨c_6, g7, h⟩ := bind_out h
  try dsimp only at h
  refine SCode.draw (s' := [(21, .c (.bool (decide (0 ≤ c_6)))), (20, .c (.int .i64 c_6)), (19, .c (.str ((a0_roles.getD a1_i.toNat dSRole).Name))), (18, .c (.ptr 0 0)), (17, .c (.vec (subL a0_roles 0 (a1_i : Int).toNat).length 4 (gL cSRole dSRole (subL a0_roles 0 (a1_i : Int).toNat)))), (16, .c (.int .i64 a1_i)), (15, .c (.vec a0_roles.length 4 (gL cSRole dSRole a0_roles))), (0, .c (.vec a0_roles.length 4 (gL cSRole dSRole a0_roles))), (1, .c (.int .i64 a1_i)), (5, .c (.ptr 0 0)), (14, .c (.bool ((!c_2))))]) mixed [[], [], [0, 1], [], [3], [0, 1, 2, 3, 4], [0, 1, 2, 3, 4, 5]] 7 0 rfl rfl ?_ ?_
  · refine QChain.run rfl (.plain rfl) rfl (q_move rfl rfl) ?_
    refine QChain.run rfl (.plain rfl) rfl (q_move rfl rfl) ?_
    refine QChain.run rfl (.plain rfl) rfl (q_slice_h rfl rfl rfl sl22 g5.1 g5.2) ?_
    refine QChain.run rfl (.plain rfl) rfl (q_field_ptr rfl rfl fd51_0) ?_
    refine QChain.run rfl (.plain rfl) rfl (q_load_ptr rfl rfl rfl rfl ty9) ?_
    refine QChain.run rfl (.plain rfl) rfl (q_call (chargenetref39_named_ok F (subL a0_roles 0 (a1_i : Int).toNat) ((a0_roles.getD a1_i.toNat dSRole).Name) c_6 g7) [] rfl fn32 ⟨⟨_, rfl, .inl ⟨rfl, rfl⟩⟩, ⟨_, rfl, .inl ⟨rfl, rfl⟩⟩, trivial⟩ (.inl rfl)) ?_
    refine QChain.run rfl (.plain rfl) rfl (q_geq rfl rfl rfl) ?_
    exact QChain.nil _ _
  refine (show SOps _ _ _ [] _ _ from ?_)
  refine SOps.sub (st' := ⟨[(5, .c (.ptr 0 0)), (21, .c (.bool (decide (0 ≤ c_6))))], [.box [.str ((a0_roles.getD a1_i.toNat dSRole).Name), .vec ((a0_roles.getD a1_i.toNat dSRole).Actions).length 1 (gL (cInt .i64) 0 ((a0_roles.getD a1_i.toNat dSRole).Actions)), .str ((a0_roles.getD a1_i.toNat dSRole).Prefix), .bool ((a0_roles.getD a1_i.toNat dSRole).Deny)]]⟩) (sub_gen [0] rfl rfl ⟨zc rfl rfl, zc rfl rfl, trivial⟩ ⟨⟨_, rfl, ⟨ii rfl rfl, ii rfl rfl, ii rfl rfl, ii rfl rfl, trivial⟩⟩, trivial⟩) ?_
  refine SOps.nil ?_
  rcases cond_out h with ⟨g8, h⟩ | ⟨g8, h⟩
  · refine SCode.cond_t rfl g8 ?_
    refine SCode.seq ?_
    refine SCode.region (show SOps _ _ _ [0] _ _ from ?_)
    refine SOps.q rfl (.plain rfl) rfl (q_assign rfl rfl) ?_
    refine SOps.sub (st' := ⟨[(4, .c (.int .i64 9))], []⟩) (sub_gen [] rfl rfl ⟨zc rfl rfl, trivial⟩ trivial) ?_
    refine SOps.nil ?_
    refine SCode.ret ?_
    obtain rfl := Option.some.inj h
    exact ⟨⟨[(4, .c (.int .i64 9))], []⟩, _, sub_gen [] rfl rfl ⟨zc rfl rfl, trivial⟩ trivial, resA1 (v := .c (.int .i64 9)) rfl rfl, rfl⟩
  refine SCode.cond_f rfl g8 ?_
  refine SCode.skip ?_
  refine SCode.join (σ := Unit) (S := fun s => ⟨[(5, .c (.ptr 0 0))], [.box [.str ((a0_roles.getD a1_i.toNat dSRole).Name), .vec ((a0_roles.getD a1_i.toNat dSRole).Actions).length 1 (gL (cInt .i64) 0 ((a0_roles.getD a1_i.toNat dSRole).Actions)), .str ((a0_roles.getD a1_i.toNat dSRole).Prefix), .bool ((a0_roles.getD a1_i.toNat dSRole).Deny)]]⟩) (g := fun s => chargenetref39_role_p14 F a0_roles a1_i = some r) ?_ ?_
  rotate_left
  · refine SCode.seq ?_
    refine SCode.region (show SOps _ _ _ [0] _ _ from ?_)
    refine SOps.q rfl (.plain rfl) rfl (q_assign rfl rfl) ?_
    refine SOps.sub (st' := ⟨[(5, .c (.ptr 0 0)), (6, .c (.int .i64 0))], [.box [.str ((a0_roles.getD a1_i.toNat dSRole).Name), .vec ((a0_roles.getD a1_i.toNat dSRole).Actions).length 1 (gL (cInt .i64) 0 ((a0_roles.getD a1_i.toNat dSRole).Actions)), .str ((a0_roles.getD a1_i.toNat dSRole).Prefix), .bool ((a0_roles.getD a1_i.toNat dSRole).Deny)]]⟩) (sub_gen [0] rfl rfl ⟨zc rfl rfl, zc rfl rfl, trivial⟩ ⟨⟨_, rfl, ⟨ii rfl rfl, ii rfl rfl, ii rfl rfl, ii rfl rfl, trivial⟩⟩, trivial⟩) ?_
    refine SOps.nil ?_
    refine SCode.block ?_
    refine SCode.sub (st' := ⟨[(5, .c (.ptr 0 0)), (6, .c (.int .i64 0))], [.box [.str ((a0_roles.getD a1_i.toNat dSRole).Name), .vec ((a0_roles.getD a1_i.toNat dSRole).Actions).length 1 (gL (cInt .i64) 0 ((a0_roles.getD a1_i.toNat dSRole).Actions)), .str ((a0_roles.getD a1_i.toNat dSRole).Prefix), .bool ((a0_roles.getD a1_i.toNat dSRole).Deny)]]⟩) (sub_gen [0] rfl rfl ⟨zc rfl rfl, zc rfl rfl, trivial⟩ ⟨⟨_, rfl, ⟨ii rfl rfl, ii rfl rfl, ii rfl rfl, ii rfl rfl, trivial⟩⟩, trivial⟩) ?_
    refine (SCode.loop (σ := Nat × Int) (S := fun s => ⟨[(5, .c (.ptr 0 0)), (6, .c (.int .i64 s.2))], [.box [.str ((a0_roles.getD a1_i.toNat dSRole).Name), .vec ((a0_roles.getD a1_i.toNat dSRole).Actions).length 1 (gL (cInt .i64) 0 ((a0_roles.getD a1_i.toNat dSRole).Actions)), .str ((a0_roles.getD a1_i.toNat dSRole).Prefix), .bool ((a0_roles.getD a1_i.toNat dSRole).Deny)]]⟩) (g := fun s => chargenetref39_role_l36 F a0_roles a1_i s.1 s.2 = some r) (μ := fun s => s.1) (F, 0) h ?_)
    rintro ⟨n_36, k_25⟩ h
    replace h : chargenetref39_role_l36 F a0_roles a1_i n_36 k_25 = some r := h
    show SCode _ _ _ ⟨[(5, .c (.ptr 0 0)), (6, .c (.int .i64 k_25))], [.box [.str ((a0_roles.getD a1_i.toNat dSRole).Name), .vec ((a0_roles.getD a1_i.toNat dSRole).Actions).length 1 (gL (cInt .i64) 0 ((a0_roles.getD a1_i.toNat dSRole).Actions)), .str ((a0_roles.getD a1_i.toNat dSRole).Prefix), .bool ((a0_roles.getD a1_i.toNat dSRole).Deny)]]⟩ _
    cases n_36 with
    | zero => cases h
    | succ n_36 =>
      replace h : chargenetref39_role_b36 F a0_roles a1_i (fun k_25 => chargenetref39_role_l36 F a0_roles a1_i n_36 k_25) k_25 = some r := h
      unfold chargenetref39_role_b36 at h
      refine SCode.seq ?_
      refine SCode.seq ?_
      refine SCode.region (show SOps _ _ _ [0, 1, 2, 3, 4] _ _ from ?_)
      refine SOps.q rfl (.plain rfl) rfl (q_move rfl rfl) ?_
      refine SOps.q rfl (.plain rfl) rfl (q_field_ptr rfl rfl fd51_1) ?_
      refine SOps.q rfl (.plain rfl) rfl (q_load_ptr rfl rfl rfl rfl ty48) ?_
      refine SOps.q rfl (.plain rfl) rfl (q_len_vec rfl rfl sl48) ?_
      refine SOps.q rfl (.plain rfl) rfl (q_lss rfl rfl rfl) ?_
      refine SOps.sub (st' := ⟨[(5, .c (.ptr 0 0)), (6, .c (.int .i64 k_25)), (26, .c (.bool (decide (k_25 < (((a0_roles.getD a1_i.toNat dSRole).Actions).length : Int)))))], [.box [.str ((a0_roles.getD a1_i.toNat dSRole).Name), .vec ((a0_roles.getD a1_i.toNat dSRole).Actions).length 1 (gL (cInt .i64) 0 ((a0_roles.getD a1_i.toNat dSRole).Actions)), .str ((a0_roles.getD a1_i.toNat dSRole).Prefix), .bool ((a0_roles.getD a1_i.toNat dSRole).Deny)]]⟩) (sub_gen [0] rfl rfl ⟨zc rfl rfl, zc rfl rfl, zc rfl rfl, trivial⟩ ⟨⟨_, rfl, ⟨ii rfl rfl, ii rfl rfl, ii rfl rfl, ii rfl rfl, trivial⟩⟩, trivial⟩) ?_
      refine SOps.nil ?_
      rcases cond_out h with ⟨g37, h⟩ | ⟨g37, h⟩
      · refine SCode.cond_t rfl g37 ?_
        refine SCode.skip ?_
        refine SCode.join (σ := Unit) (S := fun s => ⟨[(5, .c (.ptr 0 0)), (6, .c (.int .i64 k_25))], [.box [.str ((a0_roles.getD a1_i.toNat dSRole).Name), .vec ((a0_roles.getD a1_i.toNat dSRole).Actions).length 1 (gL (cInt .i64) 0 ((a0_roles.getD a1_i.toNat dSRole).Actions)), .str ((a0_roles.getD a1_i.toNat dSRole).Prefix), .bool ((a0_roles.getD a1_i.toNat dSRole).Deny)]]⟩) (g := fun s => chargenetref39_role_p38 k_25 (fun k_25 => chargenetref39_role_l36 F a0_roles a1_i n_36 k_25) = some r) ?_ ?_
        rotate_left
        · refine SCode.block ?_
          refine SCode.seq ?_
          refine SCode.seq ?_
          obtain ⟨g39, h⟩ := guard_out h
          rcases cond_out h with ⟨g40, h⟩ | ⟨g40, h⟩
          · refine SCode.region (show SOps _ _ _ [0, 1, 2, 3, 4, 5, 6, 7, 8, 9, 10, 11, 12, 13] _ _ from ?_)
            refine SOps.q rfl (.plain rfl) rfl (q_field_ptr rfl rfl fd51_1) ?_
            refine SOps.q rfl (.plain rfl) rfl (q_load_ptr rfl rfl rfl rfl ty48) ?_
            refine SOps.q rfl (.plain rfl) rfl (q_move rfl rfl) ?_
            refine SOps.q rfl (.plain rfl) rfl (q_index_vec rfl rfl rfl sl48 rfl g39.1 g39.2) ?_
            refine SOps.q rfl (.plain rfl) rfl (q_load_eptr rfl rfl ty3) ?_
            refine SOps.q rfl (.plain rfl) rfl (q_lss rfl rfl rfl) ?_
            refine SOps.q rfl (.plain rfl) rfl (q_move rfl rfl) ?_
            refine SOps.skip rfl 6 35 false rfl rfl (.inl (gT g40)) rfl ?_
            refine SOps.skip rfl 6 35 false rfl rfl (.inl (gT g40)) rfl ?_
            refine SOps.skip rfl 6 35 false rfl rfl (.inl (gT g40)) rfl ?_
            refine SOps.skip rfl 6 35 false rfl rfl (.inl (gT g40)) rfl ?_
            refine SOps.skip rfl 6 35 false rfl rfl (.inl (gT g40)) rfl ?_
            refine SOps.skip rfl 6 35 false rfl rfl (.inl (gT g40)) rfl ?_
            refine SOps.q rfl (.plain rfl) rfl (q_pick_t rfl rfl g40 rfl) ?_
            refine SOps.sub (st' := ⟨[(5, .c (.ptr 0 0)), (6, .c (.int .i64 k_25)), (42, .c (.bool true))], [.box [.str ((a0_roles.getD a1_i.toNat dSRole).Name), .vec ((a0_roles.getD a1_i.toNat dSRole).Actions).length 1 (gL (cInt .i64) 0 ((a0_roles.getD a1_i.toNat dSRole).Actions)), .str ((a0_roles.getD a1_i.toNat dSRole).Prefix), .bool ((a0_roles.getD a1_i.toNat dSRole).Deny)]]⟩) (sub_gen [0] rfl rfl ⟨zc rfl rfl, zc rfl rfl, zc rfl rfl, trivial⟩ ⟨⟨_, rfl, ⟨ii rfl rfl, ii rfl rfl, ii rfl rfl, ii rfl rfl, trivial⟩⟩, trivial⟩) ?_
            refine SOps.nil ?_
            refine SCode.cond_t rfl rfl ?_
            refine SCode.seq ?_
            refine SCode.region (show SOps _ _ _ [0] _ _ from ?_)
            refine SOps.q rfl (.plain rfl) rfl (q_assign rfl rfl) ?_
            refine SOps.sub (st' := ⟨[(4, .c (.int .i64 2))], []⟩) (sub_gen [] rfl rfl ⟨zc rfl rfl, trivial⟩ trivial) ?_
            refine SOps.nil ?_
            refine SCode.ret ?_
            obtain rfl := Option.some.inj h
            exact ⟨⟨[(4, .c (.int .i64 2))], []⟩, _, sub_gen [] rfl rfl ⟨zc rfl rfl, trivial⟩ trivial, resA1 (v := .c (.int .i64 2)) rfl rfl, rfl⟩
          obtain ⟨g41, h⟩ := guard_out h
          refine SCode.region (show SOps _ _ _ [0, 1, 2, 3, 4, 5, 6, 7, 8, 9, 10, 11, 12, 13] _ _ from ?_)
          refine SOps.q rfl (.plain rfl) rfl (q_field_ptr rfl rfl fd51_1) ?_
          refine SOps.q rfl (.plain rfl) rfl (q_load_ptr rfl rfl rfl rfl ty48) ?_
          refine SOps.q rfl (.plain rfl) rfl (q_move rfl rfl) ?_
          refine SOps.q rfl (.plain rfl) rfl (q_index_vec rfl rfl rfl sl48 rfl g39.1 g39.2) ?_
          refine SOps.q rfl (.plain rfl) rfl (q_load_eptr rfl rfl ty3) ?_
          refine SOps.q rfl (.plain rfl) rfl (q_lss rfl rfl rfl) ?_
          refine SOps.q rfl (.plain rfl) rfl (q_move rfl rfl) ?_
          refine SOps.q rfl (.guard 6 35 false rfl rfl (gF g40)) rfl (q_field_ptr rfl rfl fd51_1) ?_
          refine SOps.q rfl (.guard 6 35 false rfl rfl (gF g40)) rfl (q_load_ptr rfl rfl rfl rfl ty48) ?_
          refine SOps.q rfl (.guard 6 35 false rfl rfl (gF g40)) rfl (q_move rfl rfl) ?_
          refine SOps.q rfl (.guard 6 35 false rfl rfl (gF g40)) rfl (q_index_vec rfl rfl rfl sl48 rfl g41.1 g41.2) ?_
          refine SOps.q rfl (.guard 6 35 false rfl rfl (gF g40)) rfl (q_load_eptr rfl rfl ty3) ?_
          refine SOps.q rfl (.guard 6 35 false rfl rfl (gF g40)) rfl (q_gtr rfl rfl rfl) ?_
          refine SOps.q rfl (.plain rfl) rfl (q_pick_f rfl rfl g40 rfl) ?_
          refine SOps.sub (st' := ⟨[(5, .c (.ptr 0 0)), (6, .c (.int .i64 k_25)), (42, .c (.bool (decide (100 < ((a0_roles.getD a1_i.toNat dSRole).Actions).getD k_25.toNat 0))))], [.box [.str ((a0_roles.getD a1_i.toNat dSRole).Name), .vec ((a0_roles.getD a1_i.toNat dSRole).Actions).length 1 (gL (cInt .i64) 0 ((a0_roles.getD a1_i.toNat dSRole).Actions)), .str ((a0_roles.getD a1_i.toNat dSRole).Prefix), .bool ((a0_roles.getD a1_i.toNat dSRole).Deny)]]⟩) (sub_gen [0] rfl rfl ⟨zc rfl rfl, zc rfl rfl, zc rfl rfl, trivial⟩ ⟨⟨_, rfl, ⟨ii rfl rfl, ii rfl rfl, ii rfl rfl, ii rfl rfl, trivial⟩⟩, trivial⟩) ?_
          refine SOps.nil ?_
          rcases cond_out h with ⟨g42, h⟩ | ⟨g42, h⟩
          · refine SCode.cond_t rfl g42 ?_
            refine SCode.seq ?_
            refine SCode.region (show SOps _ _ _ [0] _ _ from ?_)
            refine SOps.q rfl (.plain rfl) rfl (q_assign rfl rfl) ?_
            refine SOps.sub (st' := ⟨[(4, .c (.int .i64 2))], []⟩) (sub_gen [] rfl rfl ⟨zc rfl rfl, trivial⟩ trivial) ?_
            refine SOps.nil ?_
            refine SCode.ret ?_
            obtain rfl := Option.some.inj h
            exact ⟨⟨[(4, .c (.int .i64 2))], []⟩, _, sub_gen [] rfl rfl ⟨zc rfl rfl, trivial⟩ trivial, resA1 (v := .c (.int .i64 2)) rfl rfl, rfl⟩
          refine SCode.cond_f rfl g42 ?_
          refine SCode.skip ?_
          refine SCode.seq ?_
          rcases cond_out h with ⟨g43, h⟩ | ⟨g43, h⟩
          · obtain ⟨g44, h⟩ := guard_out h
            obtain ⟨g45, h⟩ := guard_out h
            refine SCode.draw (s' := [(58, .c (.bool (decide (((a0_roles.getD a1_i.toNat dSRole).Actions).getD k_25.toNat 0 ≤ ((a0_roles.getD a1_i.toNat dSRole).Actions).getD (IntKind.wrap .i64 (k_25 - 1)).toNat 0)))), (57, .c (.bool (decide (((a0_roles.getD a1_i.toNat dSRole).Actions).getD k_25.toNat 0 ≤ ((a0_roles.getD a1_i.toNat dSRole).Actions).getD (IntKind.wrap .i64 (k_25 - 1)).toNat 0)))), (56, .c (.int .i64 (((a0_roles.getD a1_i.toNat dSRole).Actions).getD (IntKind.wrap .i64 (k_25 - 1)).toNat 0))), (55, .c (.eptr 1 ((cInt .i64) (((a0_roles.getD a1_i.toNat dSRole).Actions).getD (IntKind.wrap .i64 (k_25 - 1)).toNat 0)) 0)), (54, .c (.int .i64 (IntKind.wrap .i64 (k_25 - 1)))), (53, .c (.int .i64 k_25)), (52, .c (.vec ((a0_roles.getD a1_i.toNat dSRole).Actions).length 1 (gL (cInt .i64) 0 ((a0_roles.getD a1_i.toNat dSRole).Actions)))), (51, .c (.ptr 0 1)), (50, .c (.int .i64 (((a0_roles.getD a1_i.toNat dSRole).Actions).getD k_25.toNat 0))), (49, .c (.eptr 1 ((cInt .i64) (((a0_roles.getD a1_i.toNat dSRole).Actions).getD k_25.toNat 0)) 0)), (48, .c (.int .i64 k_25)), (47, .c (.vec ((a0_roles.getD a1_i.toNat dSRole).Actions).length 1 (gL (cInt .i64) 0 ((a0_roles.getD a1_i.toNat dSRole).Actions)))), (46, .c (.ptr 0 1)), (45, .c (.bool (decide (0 < k_25)))), (44, .c (.bool (decide (0 < k_25)))), (43, .c (.int .i64 k_25)), (5, .c (.ptr 0 0)), (6, .c (.int .i64 k_25)), (42, .c (.bool (decide (100 < ((a0_roles.getD a1_i.toNat dSRole).Actions).getD k_25.toNat 0))))]) mixed [[], [0], [0, 1], [0, 1, 2], [0, 1, 2, 3], [0, 1, 2], [0, 1, 2, 3, 4, 5], [0, 1, 2, 3, 4, 5, 6], [0, 1, 2], [0, 1, 2, 8], [0, 1, 2], [0, 1, 2, 10], [0, 1, 2, 8, 9, 10, 11], [0, 1, 2, 8, 9, 10, 11, 12], [0, 1, 2, 3, 4, 5, 6, 7, 8, 9, 10, 11, 12, 13], [0, 1, 2, 3, 4, 5, 6, 7, 8, 9, 10, 11, 12, 13, 14]] 16 0 rfl rfl ?_ ?_
            · refine QChain.run rfl (.plain rfl) rfl (q_move rfl rfl) ?_
              refine QChain.run rfl (.plain rfl) rfl (q_gtr rfl rfl rfl) ?_
              refine QChain.run rfl (.plain rfl) rfl (q_move rfl rfl) ?_
              refine QChain.run rfl (.guard 2 45 true rfl rfl (gT g43)) rfl (q_field_ptr rfl rfl fd51_1) ?_
              refine QChain.run rfl (.guard 2 45 true rfl rfl (gT g43)) rfl (q_load_ptr rfl rfl rfl rfl ty48) ?_
              refine QChain.run rfl (.guard 2 45 true rfl rfl (gT g43)) rfl (q_move rfl rfl) ?_
              refine QChain.run rfl (.guard 2 45 true rfl rfl (gT g43)) rfl (q_index_vec rfl rfl rfl sl48 rfl g44.1 g44.2) ?_
              refine QChain.run rfl (.guard 2 45 true rfl rfl (gT g43)) rfl (q_load_eptr rfl rfl ty3) ?_
              refine QChain.run rfl (.guard 2 45 true rfl rfl (gT g43)) rfl (q_field_ptr rfl rfl fd51_1) ?_
              refine QChain.run rfl (.guard 2 45 true rfl rfl (gT g43)) rfl (q_load_ptr rfl rfl rfl rfl ty48) ?_
              refine QChain.run rfl (.guard 2 45 true rfl rfl (gT g43)) rfl (q_move rfl rfl) ?_
              refine QChain.run rfl (.guard 2 45 true rfl rfl (gT g43)) rfl (q_sub rfl rfl rfl) ?_
              refine QChain.run rfl (.guard 2 45 true rfl rfl (gT g43)) rfl (q_index_vec rfl rfl rfl sl48 rfl g45.1 g45.2) ?_
              refine QChain.run rfl (.guard 2 45 true rfl rfl (gT g43)) rfl (q_load_eptr rfl rfl ty3) ?_
              refine QChain.run rfl (.guard 2 45 true rfl rfl (gT g43)) rfl (q_leq rfl rfl rfl) ?_
              refine QChain.run rfl (.plain rfl) rfl (q_pick_t rfl rfl g43 rfl) ?_
              exact QChain.nil _ _
            refine (show SOps _ _ _ [] _ _ from ?_)
            refine SOps.sub (st' := ⟨[(5, .c (.ptr 0 0)), (6, .c (.int .i64 k_25)), (58, .c (.bool (decide (((a0_roles.getD a1_i.toNat dSRole).Actions).getD k_25.toNat 0 ≤ ((a0_roles.getD a1_i.toNat dSRole).Actions).getD (IntKind.wrap .i64 (k_25 - 1)).toNat 0))))], [.box [.str ((a0_roles.getD a1_i.toNat dSRole).Name), .vec ((a0_roles.getD a1_i.toNat dSRole).Actions).length 1 (gL (cInt .i64) 0 ((a0_roles.getD a1_i.toNat dSRole).Actions)), .str ((a0_roles.getD a1_i.toNat dSRole).Prefix), .bool ((a0_roles.getD a1_i.toNat dSRole).Deny)]]⟩) (sub_gen [0] rfl rfl ⟨zc rfl rfl, zc rfl rfl, zc rfl rfl, trivial⟩ ⟨⟨_, rfl, ⟨ii rfl rfl, ii rfl rfl, ii rfl rfl, ii rfl rfl, trivial⟩⟩, trivial⟩) ?_
            refine SOps.nil ?_
            rcases cond_out h with ⟨g46, h⟩ | ⟨g46, h⟩
            · refine SCode.cond_t rfl g46 ?_
              refine SCode.seq ?_
              refine SCode.region (show SOps _ _ _ [0] _ _ from ?_)
              refine SOps.q rfl (.plain rfl) rfl (q_assign rfl rfl) ?_
              refine SOps.sub (st' := ⟨[(4, .c (.int .i64 1))], []⟩) (sub_gen [] rfl rfl ⟨zc rfl rfl, trivial⟩ trivial) ?_
              refine SOps.nil ?_
              refine SCode.ret ?_
              obtain rfl := Option.some.inj h
              exact ⟨⟨[(4, .c (.int .i64 1))], []⟩, _, sub_gen [] rfl rfl ⟨zc rfl rfl, trivial⟩ trivial, resA1 (v := .c (.int .i64 1)) rfl rfl, rfl⟩
            refine SCode.cond_f rfl g46 ?_
            refine SCode.skip ?_
            exact ⟨(), h, sub_gen [0] rfl rfl ⟨zc rfl rfl, zc rfl rfl, trivial⟩ ⟨⟨_, rfl, ⟨ii rfl rfl, ii rfl rfl, ii rfl rfl, ii rfl rfl, trivial⟩⟩, trivial⟩⟩
          refine SCode.draw (s' := [(58, .c (.bool false)), (57, .c (.raw (.tuple #[]))), (56, .c (.raw (.tuple #[]))), (55, .c (.raw (.tuple #[]))), (54, .c (.raw (.tuple #[]))), (53, .c (.raw (.tuple #[]))), (52, .c (.raw (.tuple #[]))), (51, .c (.raw (.tuple #[]))), (50, .c (.raw (.tuple #[]))), (49, .c (.raw (.tuple #[]))), (48, .c (.raw (.tuple #[]))), (47, .c (.raw (.tuple #[]))), (46, .c (.raw (.tuple #[]))), (45, .c (.bool (decide (0 < k_25)))), (44, .c (.bool (decide (0 < k_25)))), (43, .c (.int .i64 k_25)), (5, .c (.ptr 0 0)), (6, .c (.int .i64 k_25)), (42, .c (.bool (decide (100 < ((a0_roles.getD a1_i.toNat dSRole).Actions).getD k_25.toNat 0))))]) mixed [[], [0], [0, 1], [0, 1, 2], [0, 1, 2, 3], [0, 1, 2], [0, 1, 2, 3, 4, 5], [0, 1, 2, 3, 4, 5, 6], [0, 1, 2], [0, 1, 2, 8], [0, 1, 2], [0, 1, 2, 10], [0, 1, 2, 8, 9, 10, 11], [0, 1, 2, 8, 9, 10, 11, 12], [0, 1, 2, 3, 4, 5, 6, 7, 8, 9, 10, 11, 12, 13], [0, 1, 2, 3, 4, 5, 6, 7, 8, 9, 10, 11, 12, 13, 14]] 16 0 rfl rfl ?_ ?_
          · refine QChain.run rfl (.plain rfl) rfl (q_move rfl rfl) ?_
            refine QChain.run rfl (.plain rfl) rfl (q_gtr rfl rfl rfl) ?_
            refine QChain.run rfl (.plain rfl) rfl (q_move rfl rfl) ?_
            refine QChain.skip rfl ⟨2, 45, true, rfl, rfl, (.inl (gF g43))⟩ rfl ?_
            refine QChain.skip rfl ⟨2, 45, true, rfl, rfl, (.inl (gF g43))⟩ rfl ?_
            refine QChain.skip rfl ⟨2, 45, true, rfl, rfl, (.inl (gF g43))⟩ rfl ?_
            refine QChain.skip rfl ⟨2, 45, true, rfl, rfl, (.inl (gF g43))⟩ rfl ?_
            refine QChain.skip rfl ⟨2, 45, true, rfl, rfl, (.inl (gF g43))⟩ rfl ?_
            refine QChain.skip rfl ⟨2, 45, true, rfl, rfl, (.inl (gF g43))⟩ rfl ?_
            refine QChain.skip rfl ⟨2, 45, true, rfl, rfl, (.inl (gF g43))⟩ rfl ?_
            refine QChain.skip rfl ⟨2, 45, true, rfl, rfl, (.inl (gF g43))⟩ rfl ?_
            refine QChain.skip rfl ⟨2, 45, true, rfl, rfl, (.inl (gF g43))⟩ rfl ?_
            refine QChain.skip rfl ⟨2, 45, true, rfl, rfl, (.inl (gF g43))⟩ rfl ?_
            refine QChain.skip rfl ⟨2, 45, true, rfl, rfl, (.inl (gF g43))⟩ rfl ?_
            refine QChain.skip rfl ⟨2, 45, true, rfl, rfl, (.inl (gF g43))⟩ rfl ?_
            refine QChain.run rfl (.plain rfl) rfl (q_pick_f rfl rfl g43 rfl) ?_
            exact QChain.nil _ _
          refine (show SOps _ _ _ [] _ _ from ?_)
          refine SOps.sub (st' := ⟨[(5, .c (.ptr 0 0)), (6, .c (.int .i64 k_25)), (58, .c (.bool false))], [.box [.str ((a0_roles.getD a1_i.toNat dSRole).Name), .vec ((a0_roles.getD a1_i.toNat dSRole).Actions).length 1 (gL (cInt .i64) 0 ((a0_roles.getD a1_i.toNat dSRole).Actions)), .str ((a0_roles.getD a1_i.toNat dSRole).Prefix), .bool ((a0_roles.getD a1_i.toNat dSRole).Deny)]]⟩) (sub_gen [0] rfl rfl ⟨zc rfl rfl, zc rfl rfl, zc rfl rfl, trivial⟩ ⟨⟨_, rfl, ⟨ii rfl rfl, ii rfl rfl, ii rfl rfl, ii rfl rfl, trivial⟩⟩, trivial⟩) ?_
          refine SOps.nil ?_
          refine SCode.cond_f rfl rfl ?_
          refine SCode.skip ?_
          exact ⟨(), h, sub_gen [0] rfl rfl ⟨zc rfl rfl, zc rfl rfl, trivial⟩ ⟨⟨_, rfl, ⟨ii rfl rfl, ii rfl rfl, ii rfl rfl, ii rfl rfl, trivial⟩⟩, trivial⟩⟩
        rintro ⟨⟩ h
        show SCode _ _ _ ⟨[(5, .c (.ptr 0 0)), (6, .c (.int .i64 k_25))], [.box [.str ((a0_roles.getD a1_i.toNat dSRole).Name), .vec ((a0_roles.getD a1_i.toNat dSRole).Actions).length 1 (gL (cInt .i64) 0 ((a0_roles.getD a1_i.toNat dSRole).Actions)), .str ((a0_roles.getD a1_i.toNat dSRole).Prefix), .bool ((a0_roles.getD a1_i.toNat dSRole).Deny)]]⟩ _
        replace h : chargenetref39_role_p38 k_25 (fun k_25 => chargenetref39_role_l36 F a0_roles a1_i n_36 k_25) = some r := h
        unfold chargenetref39_role_p38 at h
        refine SCode.region (show SOps _ _ _ [0, 1, 2] _ _ from ?_)
        refine SOps.q rfl (.plain rfl) rfl (q_move rfl rfl) ?_
        refine SOps.q rfl (.plain rfl) rfl (q_add rfl rfl rfl) ?_
        refine SOps.q rfl (.plain rfl) rfl (q_assign rfl rfl) ?_
        refine SOps.sub (st' := ⟨[(5, .c (.ptr 0 0)), (6, .c (.int .i64 (IntKind.wrap .i64 (k_25 + 1))))], [.box [.str ((a0_roles.getD a1_i.toNat dSRole).Name), .vec ((a0_roles.getD a1_i.toNat dSRole).Actions).length 1 (gL (cInt .i64) 0 ((a0_roles.getD a1_i.toNat dSRole).Actions)), .str ((a0_roles.getD a1_i.toNat dSRole).Prefix), .bool ((a0_roles.getD a1_i.toNat dSRole).Deny)]]⟩) (sub_gen [0] rfl rfl ⟨zc rfl rfl, zc rfl rfl, trivial⟩ ⟨⟨_, rfl, ⟨ii rfl rfl, ii rfl rfl, ii rfl rfl, ii rfl rfl, trivial⟩⟩, trivial⟩) ?_
        refine SOps.nil ?_
        exact ⟨(n_36, IntKind.wrap .i64 (k_25 + 1)), h, Nat.lt_succ_self n_36, sub_gen [0] rfl rfl ⟨zc rfl rfl, zc rfl rfl, trivial⟩ ⟨⟨_, rfl, ⟨ii rfl rfl, ii rfl rfl, ii rfl rfl, ii rfl rfl, trivial⟩⟩, trivial⟩⟩
      refine SCode.cond_f rfl g37 ?_
      refine SCode.exit ?_
      exact ⟨(), h, sub_gen [0] rfl rfl ⟨zc rfl rfl, trivial⟩ ⟨⟨_, rfl, ⟨ii rfl rfl, ii rfl rfl, ii rfl rfl, ii rfl rfl, trivial⟩⟩, trivial⟩⟩
  rintro ⟨⟩ h
  show SCode _ _ _ ⟨[(5, .c (.ptr 0 0))], [.box [.str ((a0_roles.getD a1_i.toNat dSRole).Name), .vec ((a0_roles.getD a1_i.toNat dSRole).Actions).length 1 (gL (cInt .i64) 0 ((a0_roles.getD a1_i.toNat dSRole).Actions)), .str ((a0_roles.getD a1_i.toNat dSRole).Prefix), .bool ((a0_roles.getD a1_i.toNat dSRole).Deny)]]⟩ _
  replace h : chargenetref39_role_p14 F a0_roles a1_i = some r := h
  unfold chargenetref39_role_p14 at h
  refine SCode.join (σ := Unit) (S := fun s => ⟨[], []⟩) (g := fun s => chargenetref39_role_p9 = some r) ?_ ?_
  rotate_left
  · refine SCode.seq ?_
    rcases cond_out h with ⟨g10, h⟩ | ⟨g10, h⟩
    · obtain ⟨c_11, g12, h⟩ := bind_out h
      try dsimp only at h
      refine SCode.region (show SOps _ _ _ [0, 1, 2, 3, 4, 5, 6, 7, 8] _ _ from ?_)
      refine SOps.q rfl (.plain rfl) rfl (q_field_ptr rfl rfl fd51_2) ?_
      refine SOps.q rfl (.plain rfl) rfl (q_load_ptr rfl rfl rfl rfl ty9) ?_
      refine SOps.q rfl (.plain rfl) rfl (q_neqS rfl rfl rfl) ?_
      refine SOps.q rfl (.plain rfl) rfl (q_move rfl rfl) ?_
      refine SOps.q rfl (.guard 3 62 true rfl rfl (gT g10)) rfl (q_field_ptr rfl rfl fd51_2) ?_
      refine SOps.q rfl (.guard 3 62 true rfl rfl (gT g10)) rfl (q_load_ptr rfl rfl rfl rfl ty9) ?_
      refine SOps.q rfl (.guard 3 62 true rfl rfl (gT g10)) rfl (q_call (chargenetref01_Valid_ok F ((a0_roles.getD a1_i.toNat dSRole).Prefix) c_11 g12) [] rfl fn40 ⟨⟨_, rfl, .inl ⟨rfl, rfl⟩⟩, trivial⟩ (.inl rfl)) ?_
      refine SOps.q rfl (.guard 3 62 true rfl rfl (gT g10)) rfl (q_not rfl rfl) ?_
      refine SOps.q rfl (.plain rfl) rfl (q_pick_t rfl rfl g10 rfl) ?_
      refine SOps.sub (st' := ⟨[(67, .c (.bool ((!c_11))))], []⟩) (sub_gen [] rfl rfl ⟨zc rfl rfl, trivial⟩ trivial) ?_
      refine SOps.nil ?_
      rcases cond_out h with ⟨g13, h⟩ | ⟨g13, h⟩
      · refine SCode.cond_t rfl g13 ?_
        refine SCode.seq ?_
        refine SCode.region (show SOps _ _ _ [0] _ _ from ?_)
        refine SOps.q rfl (.plain rfl) rfl (q_assign rfl rfl) ?_
        refine SOps.sub (st' := ⟨[(4, .c (.int .i64 4))], []⟩) (sub_gen [] rfl rfl ⟨zc rfl rfl, trivial⟩ trivial) ?_
        refine SOps.nil ?_
        refine SCode.ret ?_
        obtain rfl := Option.some.inj h
        exact ⟨⟨[(4, .c (.int .i64 4))], []⟩, _, sub_gen [] rfl rfl ⟨zc rfl rfl, trivial⟩ trivial, resA1 (v := .c (.int .i64 4)) rfl rfl, rfl⟩
      refine SCode.cond_f rfl g13 ?_
      refine SCode.skip ?_
      exact ⟨(), h, sub_gen [] rfl rfl trivial trivial⟩
    refine SCode.region (show SOps _ _ _ [0, 1, 2, 3, 4, 5, 6, 7, 8] _ _ from ?_)
    refine SOps.q rfl (.plain rfl) rfl (q_field_ptr rfl rfl fd51_2) ?_
    refine SOps.q rfl (.plain rfl) rfl (q_load_ptr rfl rfl rfl rfl ty9) ?_
    refine SOps.q rfl (.plain rfl) rfl (q_neqS rfl rfl rfl) ?_
    refine SOps.q rfl (.plain rfl) rfl (q_move rfl rfl) ?_
    refine SOps.skip rfl 3 62 true rfl rfl (.inl (gF g10)) rfl ?_
    refine SOps.skip rfl 3 62 true rfl rfl (.inl (gF g10)) rfl ?_
    refine SOps.skip rfl 3 62 true rfl rfl (.inl (gF g10)) rfl ?_
    refine SOps.skip rfl 3 62 true rfl rfl (.inl (gF g10)) rfl ?_
    refine SOps.q rfl (.plain rfl) rfl (q_pick_f rfl rfl g10 rfl) ?_
    refine SOps.sub (st' := ⟨[(67, .c (.bool false))], []⟩) (sub_gen [] rfl rfl ⟨zc rfl rfl, trivial⟩ trivial) ?_
    refine SOps.nil ?_
    refine SCode.cond_f rfl rfl ?_
    refine SCode.skip ?_
    exact ⟨(), h, sub_gen [] rfl rfl trivial trivial⟩
  rintro ⟨⟩ h
  show SCode _ _ _ ⟨[], []⟩ _
  replace h : chargenetref39_role_p9 = some r := h
  unfold chargenetref39_role_p9 at h
  refine SCode.seq ?_
  refine SCode.region (show SOps _ _ _ [0] _ _ from ?_)
  refine SOps.q rfl (.plain rfl) rfl (q_assign rfl rfl) ?_
  refine SOps.sub (st' := ⟨[(4, .c (.int .i64 0))], []⟩) (sub_gen [] rfl rfl ⟨zc rfl rfl, trivial⟩ trivial) ?_
  refine SOps.nil ?_
  refine SCode.ret ?_
  obtain rfl := Option.some.inj h
  exact ⟨⟨[(4, .c (.int .i64 0))], []⟩, _, sub_gen [] rfl rfl ⟨zc rfl rfl, trivial⟩ trivial, resA1 (v := .c (.int .i64 0)) rfl rfl, rfl⟩
set_option maxRecDepth 100000 in
set_option maxHeartbeats 8000000 in
theorem chargenetref02_Right_ok (F : Nat) (a0_t : Int) (r : Bool) (h : chargenetref02_Right F a0_t = some r) :
    SFun Try.prog 36 [] [.c (.int .i64 a0_t)] (fun x _ => x = .c (.bool r)) := by
  refine SFun.of (n := 9) Try.func36 rfl rfl rfl ?_
  unfold chargenetref02_Right at h
  show SCode _ _ _ ⟨[(0, .c (.int .i64 a0_t))], []⟩ _
  refine SCode.seq ?_
  refine SCode.region (show SOps _ _ _ [0] _ _ from ?_)
  refine SOps.q rfl (.plain rfl) rfl (q_assign rfl rfl) ?_
  refine SOps.sub (st' := ⟨[(0, .c (.int .i64 a0_t))], []⟩) (sub_gen [] rfl rfl ⟨zc rfl rfl, trivial⟩ trivial) ?_
  refine SOps.nil ?_
  refine SCode.seq ?_
  rcases cond_out h with ⟨g1, h⟩ | ⟨g1, h⟩
  · refine SCode.region (show SOps _ _ _ [0, 1, 2, 3, 4, 5, 6] _ _ from ?_)
    refine SOps.q rfl (.plain rfl) rfl (q_move rfl rfl) ?_
    refine SOps.q rfl (.plain rfl) rfl (q_geq rfl rfl rfl) ?_
    refine SOps.q rfl (.plain rfl) rfl (q_move rfl rfl) ?_
    refine SOps.q rfl (.guard 2 5 true rfl rfl (gT g1)) rfl (q_move rfl rfl) ?_
    refine SOps.q rfl (.guard 2 5 true rfl rfl (gT g1)) rfl (q_leq rfl rfl rfl) ?_
    refine SOps.q rfl (.plain rfl) rfl (q_pick_t rfl rfl g1 rfl) ?_
    refine SOps.q rfl (.plain rfl) rfl (q_assign rfl rfl) ?_
    refine SOps.sub (st' := ⟨[(2, .c (.bool (decide (a0_t ≤ 268435456))))], []⟩) (sub_gen [] rfl rfl ⟨zc rfl rfl, trivial⟩ trivial) ?_
    refine SOps.nil ?_
    refine SCode.ret ?_
    obtain rfl := Option.some.inj h
    exact ⟨⟨[(2, .c (.bool (decide (a0_t ≤ 268435456))))], []⟩, _, sub_gen [] rfl rfl ⟨zc rfl rfl, trivial⟩ trivial, resA1 (v := .c (.bool (decide (a0_t ≤ 268435456)))) rfl rfl, rfl⟩
  refine SCode.region (show SOps _ _ _ [0, 1, 2, 3, 4, 5, 6] _ _ from ?_)
  refine SOps.q rfl (.plain rfl) rfl (q_move rfl rfl) ?_
  refine SOps.q rfl (.plain rfl) rfl (q_geq rfl rfl rfl) ?_
  refine SOps.q rfl (.plain rfl) rfl (q_move rfl rfl) ?_
  refine SOps.skip rfl 2 5 true rfl rfl (.inl (gF g1)) rfl ?_
  refine SOps.skip rfl 2 5 true rfl rfl (.inl (gF g1)) rfl ?_
  refine SOps.q rfl (.plain rfl) rfl (q_pick_f rfl rfl g1 rfl) ?_
  refine SOps.q rfl (.plain rfl) rfl (q_assign rfl rfl) ?_
  refine SOps.sub (st' := ⟨[(2, .c (.bool false))], []⟩) (sub_gen [] rfl rfl ⟨zc rfl rfl, trivial⟩ trivial) ?_
  refine SOps.nil ?_
  refine SCode.ret ?_
  obtain rfl := Option.some.inj h
  exact ⟨⟨[(2, .c (.bool false))], []⟩, _, sub_gen [] rfl rfl ⟨zc rfl rfl, trivial⟩ trivial, resA1 (v := .c (.bool false)) rfl rfl, rfl⟩
set_option maxRecDepth 100000 in
set_option maxHeartbeats 8000000 in
theorem chargenetref39_end_ok (F : Nat) (a0_s : SSpan) (r : Int) (h : chargenetref39_end F a0_s = some r) :
    SFun Try.prog 41 [] [.a [.int .i64 a0_s.From, .int .i64 a0_s.To]] (fun x _ => x = .c (.int .i64 r)) := by
  refine SFun.of (n := 8) Try.func41 rfl rfl rfl ?_
  unfold chargenetref39_end at h
  show SCode _ _ _ ⟨[(0, .a [.int .i64 a0_s.From, .int .i64 a0_s.To])], []⟩ _
  refine SCode.seq ?_
  refine SCode.region (show SOps _ _ _ [0, 1] _ _ from ?_)
  refine SOps.e rfl (.plain rfl) (e_box rfl rfl rfl rfl rfl rfl) ?_
  refine SOps.q rfl (.plain rfl) rfl (q_assign rfl rfl) ?_
  refine SOps.sub (st' := ⟨[(1, .c (.ptr 0 0))], [.box [.int .i64 a0_s.From, .int .i64 a0_s.To]]⟩) (sub_gen [0] rfl rfl ⟨zc rfl rfl, trivial⟩ ⟨⟨_, rfl, ⟨ii rfl rfl, ii rfl rfl, trivial⟩⟩, trivial⟩) ?_
  refine SOps.nil ?_
  refine SCode.seq ?_
  refine SCode.seq ?_
  refine SCode.region (show SOps _ _ _ [0, 1, 2] _ _ from ?_)
  refine SOps.q rfl (.plain rfl) rfl (q_field_ptr rfl rfl fd35_1) ?_
  refine SOps.q rfl (.plain rfl) rfl (q_load_ptr rfl rfl rfl rfl ty3) ?_
  refine SOps.q rfl (.plain rfl) rfl (q_eql rfl rfl rfl) ?_
  refine SOps.sub (st' := ⟨[(1, .c (.ptr 0 0)), (5, .c (.bool (decide (a0_s.To = (-1)))))], [.box [.int .i64 a0_s.From, .int .i64 a0_s.To]]⟩) (sub_gen [0] rfl rfl ⟨zc rfl rfl, zc rfl rfl, trivial⟩ ⟨⟨_, rfl, ⟨ii rfl rfl, ii rfl rfl, trivial⟩⟩, trivial⟩) ?_
  refine SOps.nil ?_
  rcases cond_out h with ⟨g1, h⟩ | ⟨g1, h⟩
  · refine SCode.cond_t rfl g1 ?_
    refine SCode.seq ?_
    refine SCode.region (show SOps _ _ _ [0] _ _ from ?_)
    refine SOps.q rfl (.plain rfl) rfl (q_assign rfl rfl) ?_
    refine SOps.sub (st' := ⟨[(2, .c (.int .i64 268435457))], []⟩) (sub_gen [] rfl rfl ⟨zc rfl rfl, trivial⟩ trivial) ?_
    refine SOps.nil ?_
    refine SCode.ret ?_
    obtain rfl := Option.some.inj h
    exact ⟨⟨[(2, .c (.int .i64 268435457))], []⟩, _, sub_gen [] rfl rfl ⟨zc rfl rfl, trivial⟩ trivial, resA1 (v := .c (.int .i64 268435457)) rfl rfl, rfl⟩
  refine SCode.cond_f rfl g1 ?_
  refine SCode.skip ?_
  refine SCode.seq ?_
  refine SCode.region (show SOps _ _ _ [0, 1, 2] _ _ from ?_)
  refine SOps.q rfl (.plain rfl) rfl (q_field_ptr rfl rfl fd35_1) ?_
  refine SOps.q rfl (.plain rfl) rfl (q_load_ptr rfl rfl rfl rfl ty3) ?_
  refine SOps.q rfl (.plain rfl) rfl (q_assign rfl rfl) ?_
  refine SOps.sub (st' := ⟨[(2, .c (.int .i64 a0_s.To))], []⟩) (sub_gen [] rfl rfl ⟨zc rfl rfl, trivial⟩ trivial) ?_
  refine SOps.nil ?_
  refine SCode.ret ?_
  obtain rfl := Option.some.inj h
  exact ⟨⟨[(2, .c (.int .i64 a0_s.To))], []⟩, _, sub_gen [] rfl rfl ⟨zc rfl rfl, trivial⟩ trivial, resA1 (v := .c (.int .i64 a0_s.To)) rfl rfl, rfl⟩
set_option maxRecDepth 100000 in
set_option maxHeartbeats 8000000 in
theorem chargenetref39_grant_ok (F : Nat) (a0_roles : List SRole) (a1_grants : List SGrant) (a2_i : Int) (r : Int) (h : chargenetref39_grant F a0_roles a1_grants a2_i = some r) :
    SFun Try.prog 29 [] [.c (.vec a0_roles.length 4 (gL cSRole dSRole a0_roles)), .c (.vec a1_grants.length 4 (gL cSGrant dSGrant a1_grants)), .c (.int .i64 a2_i)] (fun x _ => x = .c (.int .i64 r)) := by
  refine SFun.of (n := 87) Try.func29 rfl rfl rfl ?_
  unfold chargenetref39_grant at h
  show SCode _ _ _ ⟨[(0, .c (.vec a0_roles.length 4 (gL cSRole dSRole a0_roles))), (1, .c (.vec a1_grants.length 4 (gL cSGrant dSGrant a1_grants))), (2, .c (.int .i64 a2_i))], []⟩ _
  refine SCode.seq ?_
  refine SCode.region (show SOps _ _ _ [0] _ _ from ?_)
  refine SOps.q rfl (.plain rfl) rfl (q_assign rfl rfl) ?_
  refine SOps.sub (st' := ⟨[(0, .c (.vec a0_roles.length 4 (gL cSRole dSRole a0_roles))), (1, .c (.vec a1_grants.length 4 (gL cSGrant dSGrant a1_grants))), (2, .c (.int .i64 a2_i))], []⟩) (sub_gen [] rfl rfl ⟨zc rfl rfl, zc rfl rfl, zc rfl rfl, trivial⟩ trivial) ?_
  refine SOps.nil ?_
  refine SCode.seq ?_
  obtain ⟨g1, h⟩ := guard_out h
  refine SCode.region (show SOps _ _ _ [0, 1, 2, 3, 4, 5] _ _ from ?_)
  refine SOps.q rfl (.plain rfl) rfl (q_move rfl rfl) ?_
  refine SOps.q rfl (.plain rfl) rfl (q_move rfl rfl) ?_
  refine SOps.q rfl (.plain rfl) rfl (q_index_vec rfl rfl rfl sl23 rfl g1.1 g1.2) ?_
  refine SOps.q rfl (.plain rfl) rfl (q_load_eptr_all rfl rfl rfl ty37) ?_
  refine SOps.e rfl (.plain rfl) (e_alloc rfl rfl rfl z37) ?_
  refine SOps.e rfl (.plain rfl) (e_store_box rfl rfl rfl rfl rfl ty37 rfl rfl rfl rfl) ?_
  refine SOps.sub (st' := ⟨[(0, .c (.vec a0_roles.length 4 (gL cSRole dSRole a0_roles))), (1, .c (.vec a1_grants.length 4 (gL cSGrant dSGrant a1_grants))), (2, .c (.int .i64 a2_i)), (7, .c (.ptr 0 0))], [.box [.str ((a1_grants.getD a2_i.toNat dSGrant).User), .str ((a1_grants.getD a2_i.toNat dSGrant).Role), .int .i64 ((a1_grants.getD a2_i.toNat dSGrant).Span_From), .int .i64 ((a1_grants.getD a2_i.toNat dSGrant).Span_To)]]⟩) (sub_gen [0] rfl rfl ⟨zc rfl rfl, zc rfl rfl, zc rfl rfl, zc rfl rfl, trivial⟩ ⟨⟨_, rfl, ⟨ii rfl rfl, ii rfl rfl, ii rfl rfl, ii rfl rfl, trivial⟩⟩, trivial⟩) ?_
  refine SOps.nil ?_
  refine SCode.seq ?_
  refine SCode.seq ?_
  obtain ⟨c_2, g3, h⟩ := bind_out h
  try dsimp only at h
  refine SCode.region (show SOps _ _ _ [0, 1, 2, 3] _ _ from ?_)
  refine SOps.q rfl (.plain rfl) rfl (q_field_ptr rfl rfl fd37_0) ?_
  refine SOps.q rfl (.plain rfl) rfl (q_load_ptr rfl rfl rfl rfl ty9) ?_
  refine SOps.q rfl (.plain rfl) rfl (q_call (chargenetref01_Valid_ok F ((a1_grants.getD a2_i.toNat dSGrant).User) c_2 g3) [] rfl fn40 ⟨⟨_, rfl, .inl ⟨rfl, rfl⟩⟩, trivial⟩ (.inl rfl)) ?_
  refine SOps.q rfl (.plain rfl) rfl (q_not rfl rfl) ?_
  refine SOps.sub (st' := ⟨[(0, .c (.vec a0_roles.length 4 (gL cSRole dSRole a0_roles))), (1, .c (.vec a1_grants.length 4 (gL cSGrant dSGrant a1_grants))), (2, .c (.int .i64 a2_i)), (7, .c (.ptr 0 0)), (17, .c (.bool ((!c_2))))], [.box [.str ((a1_grants.getD a2_i.toNat dSGrant).User), .str ((a1_grants.getD a2_i.toNat dSGrant).Role), .int .i64 ((a1_grants.getD a2_i.toNat dSGrant).Span_From), .int .i64 ((a1_grants.getD a2_i.toNat dSGrant).Span_To)]]⟩) (sub_gen [0] rfl rfl ⟨zc rfl rfl, zc rfl rfl, zc rfl rfl, zc rfl rfl, zc rfl rfl, trivial⟩ ⟨⟨_, rfl, ⟨ii rfl rfl, ii rfl rfl, ii rfl rfl, ii rfl rfl, trivial⟩⟩, trivial⟩) ?_
  refine SOps.nil ?_
  rcases cond_out h with ⟨g4, h⟩ | ⟨g4, h⟩
  · refine SCode.cond_t rfl g4 ?_
    refine SCode.seq ?_
    refine SCode.region (show SOps _ _ _ [0] _ _ from ?_)
    refine SOps.q rfl (.plain rfl) rfl (q_assign rfl rfl) ?_
    refine SOps.sub (st' := ⟨[(6, .c (.int .i64 4))], []⟩) (sub_gen [] rfl rfl ⟨zc rfl rfl, trivial⟩ trivial) ?_
    refine SOps.nil ?_
    refine SCode.ret ?_
    obtain rfl := Option.some.inj h
    exact ⟨⟨[(6, .c (.int .i64 4))], []⟩, _, sub_gen [] rfl rfl ⟨zc rfl rfl, trivial⟩ trivial, resA1 (v := .c (.int .i64 4)) rfl rfl, rfl⟩
  refine SCode.cond_f rfl g4 ?_
  refine SCode.skip ?_
  refine SCode.seq ?_
  refine SCode.seq ?_
  obtain ⟨c_5, g6, h⟩ := bind_out h
  try dsimp only at h
  refine SCode.region (show SOps _ _ _ [0, 1, 2, 3, 4] _ _ from ?_)
  refine SOps.q rfl (.plain rfl) rfl (q_move rfl rfl) ?_
  refine SOps.q rfl (.plain rfl) rfl (q_field_ptr rfl rfl fd37_1) ?_
  refine SOps.q rfl (.plain rfl) rfl (q_load_ptr rfl rfl rfl rfl ty9) ?_
  refine SOps.q rfl (.plain rfl) rfl (q_call (chargenetref39_named_ok F a0_roles ((a1_grants.getD a2_i.toNat dSGrant).Role) c_5 g6) [] rfl fn32 ⟨⟨_, rfl, .inl ⟨rfl, rfl⟩⟩, ⟨_, rfl, .inl ⟨rfl, rfl⟩⟩, trivial⟩ (.inl rfl)) ?_
  refine SOps.q rfl (.plain rfl) rfl (q_lss rfl rfl rfl) ?_
  refine SOps.sub (st' := ⟨[(1, .c (.vec a1_grants.length 4 (gL cSGrant dSGrant a1_grants))), (2, .c (.int .i64 a2_i)), (7, .c (.ptr 0 0)), (22, .c (.bool (decide (c_5 < 0))))], [.box [.str ((a1_grants.getD a2_i.toNat dSGrant).User), .str ((a1_grants.getD a2_i.toNat dSGrant).Role), .int .i64 ((a1_grants.getD a2_i.toNat dSGrant).Span_From), .int .i64 ((a1_grants.getD a2_i.toNat dSGrant).Span_To)]]⟩) (sub_gen [0] rfl rfl ⟨zc rfl rfl, zc rfl rfl, zc rfl rfl, zc rfl rfl, trivial⟩ ⟨⟨_, rfl, ⟨ii rfl rfl, ii rfl rfl, ii rfl rfl, ii rfl rfl, trivial⟩⟩, trivial⟩) ?_
  refine SOps.nil ?_
  rcases cond_out h with ⟨g7, h⟩ | ⟨g7, h⟩
  · refine SCode.cond_t rfl g7 ?_
    refine SCode.seq ?_
    refine SCode.region (show SOps _ _ _ [0] _ _ from ?_)
    refine SOps.q rfl (.plain rfl) rfl (q_assign rfl rfl) ?_
    refine SOps.sub (st' := ⟨[(6, .c (.int .i64 8))], []⟩) (sub_gen [] rfl rfl ⟨zc rfl rfl, trivial⟩ trivial) ?_
    refine SOps.nil ?_
    refine SCode.ret ?_
    obtain rfl := Option.some.inj h
    exact ⟨⟨[(6, .c (.int .i64 8))], []⟩, _, sub_gen [] rfl rfl ⟨zc rfl rfl, trivial⟩ trivial, resA1 (v := .c (.int .i64 8)) rfl rfl, rfl⟩
  refine SCode.cond_f rfl g7 ?_
  refine SCode.skip ?_
  refine SCode.join (σ := Unit) (S := fun s => ⟨[(1, .c (.vec a1_grants.length 4 (gL cSGrant dSGrant a1_grants))), (2, .c (.int .i64 a2_i)), (7, .c (.ptr 0 0))], [.box [.str ((a1_grants.getD a2_i.toNat dSGrant).User), .str ((a1_grants.getD a2_i.toNat dSGrant).Role), .int .i64 ((a1_grants.getD a2_i.toNat dSGrant).Span_From), .int .i64 ((a1_grants.getD a2_i.toNat dSGrant).Span_To)]]⟩) (g := fun s => chargenetref39_grant_p41 F a1_grants a2_i = some r) ?_ ?_
  rotate_left
  · refine SCode.seq ?_
    obtain ⟨c_42, g43, h⟩ := bind_out h
    try dsimp only at h
    rcases cond_out h with ⟨g44, h⟩ | ⟨g44, h⟩
    · refine SCode.region (show SOps _ _ _ [0, 1, 2, 3, 4, 5, 6, 7, 8, 9, 10, 11, 12, 13, 14, 15, 16, 17, 18, 19, 20, 21, 22, 23, 24, 25] _ _ from ?_)
      refine SOps.q rfl (.plain rfl) rfl (q_field_ptr rfl rfl fd37_2) ?_
      refine SOps.q rfl (.plain rfl) rfl (q_field_ptr rfl rfl fd35_0) ?_
      refine SOps.q rfl (.plain rfl) rfl (q_load_ptr rfl rfl rfl rfl ty3) ?_
      refine SOps.q rfl (.plain rfl) rfl (q_call (chargenetref02_Right_ok F ((a1_grants.getD a2_i.toNat dSGrant).Span_From) c_42 g43) [] rfl fn36 ⟨⟨_, rfl, .inl ⟨rfl, rfl⟩⟩, trivial⟩ (.inl rfl)) ?_
      refine SOps.q rfl (.plain rfl) rfl (q_not rfl rfl) ?_
      refine SOps.q rfl (.plain rfl) rfl (q_move rfl rfl) ?_
      refine SOps.skip rfl 5 28 false rfl rfl (.inl (gT g44)) rfl ?_
      refine SOps.skip rfl 5 28 false rfl rfl (.inl (gT g44)) rfl ?_
      refine SOps.skip rfl 5 28 false rfl rfl (.inl (gT g44)) rfl ?_
      refine SOps.skip rfl 5 28 false rfl rfl (.inl (gT g44)) rfl ?_
      refine SOps.skip rfl 5 28 false rfl rfl (.inl (gT g44)) rfl ?_
      refine SOps.skip rfl 10 33 true rfl rfl (.inr rfl) rfl ?_
      refine SOps.skip rfl 10 33 true rfl rfl (.inr rfl) rfl ?_
      refine SOps.skip rfl 10 33 true rfl rfl (.inr rfl) rfl ?_
      refine SOps.skip rfl 10 33 true rfl rfl (.inr rfl) rfl ?_
      refine SOps.skip rfl 10 33 true rfl rfl (.inr rfl) rfl ?_
      refine SOps.skip rfl 10 33 true rfl rfl (.inr rfl) rfl ?_
      refine SOps.skip rfl 10 33 true rfl rfl (.inr rfl) rfl ?_
      refine SOps.skip rfl 10 33 true rfl rfl (.inr rfl) rfl ?_
      refine SOps.skip rfl 18 41 false rfl rfl (.inr rfl) rfl ?_
      refine SOps.skip rfl 18 41 false rfl rfl (.inr rfl) rfl ?_
      refine SOps.skip rfl 18 41 false rfl rfl (.inr rfl) rfl ?_
      refine SOps.skip rfl 18 41 false rfl rfl (.inr rfl) rfl ?_
      refine SOps.skip rfl 10 33 true rfl rfl (.inr rfl) rfl ?_
      refine SOps.skip rfl 5 28 false rfl rfl (.inl (gT g44)) rfl ?_
      refine SOps.q rfl (.plain rfl) rfl (q_pick_t rfl rfl g44 rfl) ?_
      refine SOps.sub (st' := ⟨[(1, .c (.vec a1_grants.length 4 (gL cSGrant dSGrant a1_grants))), (2, .c (.int .i64 a2_i)), (7, .c (.ptr 0 0)), (48, .c (.bool true))], [.box [.str ((a1_grants.getD a2_i.toNat dSGrant).User), .str ((a1_grants.getD a2_i.toNat dSGrant).Role), .int .i64 ((a1_grants.getD a2_i.toNat dSGrant).Span_From), .int .i64 ((a1_grants.getD a2_i.toNat dSGrant).Span_To)]]⟩) (sub_gen [0] rfl rfl ⟨zc rfl rfl, zc rfl rfl, zc rfl rfl, zc rfl rfl, trivial⟩ ⟨⟨_, rfl, ⟨ii rfl rfl, ii rfl rfl, ii rfl rfl, ii rfl rfl, trivial⟩⟩, trivial⟩) ?_
      refine SOps.nil ?_
      refine SCode.cond_t rfl rfl ?_
      refine SCode.seq ?_
      refine SCode.region (show SOps _ _ _ [0] _ _ from ?_)
      refine SOps.q rfl (.plain rfl) rfl (q_assign rfl rfl) ?_
      refine SOps.sub (st' := ⟨[(6, .c (.int .i64 2))], []⟩) (sub_gen [] rfl rfl ⟨zc rfl rfl, trivial⟩ trivial) ?_
      refine SOps.nil ?_
      refine SCode.ret ?_
      obtain rfl := Option.some.inj h
      exact ⟨⟨[(6, .c (.int .i64 2))], []⟩, _, sub_gen [] rfl rfl ⟨zc rfl rfl, trivial⟩ trivial, resA1 (v := .c (.int .i64 2)) rfl rfl, rfl⟩
    rcases cond_out h with ⟨g45, h⟩ | ⟨g45, h⟩
    · rcases cond_out h with ⟨g46, h⟩ | ⟨g46, h⟩
      · refine SCode.region (show SOps _ _ _ [0, 1, 2, 3, 4, 5, 6, 7, 8, 9, 10, 11, 12, 13, 14, 15, 16, 17, 18, 19, 20, 21, 22, 23, 24, 25] _ _ from ?_)
        refine SOps.q rfl (.plain rfl) rfl (q_field_ptr rfl rfl fd37_2) ?_
        refine SOps.q rfl (.plain rfl) rfl (q_field_ptr rfl rfl fd35_0) ?_
        refine SOps.q rfl (.plain rfl) rfl (q_load_ptr rfl rfl rfl rfl ty3) ?_
        refine SOps.q rfl (.plain rfl) rfl (q_call (chargenetref02_Right_ok F ((a1_grants.getD a2_i.toNat dSGrant).Span_From) c_42 g43) [] rfl fn36 ⟨⟨_, rfl, .inl ⟨rfl, rfl⟩⟩, trivial⟩ (.inl rfl)) ?_
        refine SOps.q rfl (.plain rfl) rfl (q_not rfl rfl) ?_
        refine SOps.q rfl (.plain rfl) rfl (q_move rfl rfl) ?_
        refine SOps.q rfl (.guard 5 28 false rfl rfl (gF g44)) rfl (q_field_ptr rfl rfl fd37_2) ?_
        refine SOps.q rfl (.guard 5 28 false rfl rfl (gF g44)) rfl (q_field_ptr rfl rfl fd35_1) ?_
        refine SOps.q rfl (.guard 5 28 false rfl rfl (gF g44)) rfl (q_load_ptr rfl rfl rfl rfl ty3) ?_
        refine SOps.q rfl (.guard 5 28 false rfl rfl (gF g44)) rfl (q_neq rfl rfl rfl) ?_
        refine SOps.q rfl (.guard 5 28 false rfl rfl (gF g44)) rfl (q_move rfl rfl) ?_
        refine SOps.q rfl (.guard 10 33 true rfl rfl (gT g45)) rfl (q_field_ptr rfl rfl fd37_2) ?_
        refine SOps.q rfl (.guard 10 33 true rfl rfl (gT g45)) rfl (q_field_ptr rfl rfl fd35_1) ?_
        refine SOps.q rfl (.guard 10 33 true rfl rfl (gT g45)) rfl (q_load_ptr rfl rfl rfl rfl ty3) ?_
        refine SOps.q rfl (.guard 10 33 true rfl rfl (gT g45)) rfl (q_field_ptr rfl rfl fd37_2) ?_
        refine SOps.q rfl (.guard 10 33 true rfl rfl (gT g45)) rfl (q_field_ptr rfl rfl fd35_0) ?_
        refine SOps.q rfl (.guard 10 33 true rfl rfl (gT g45)) rfl (q_load_ptr rfl rfl rfl rfl ty3) ?_
        refine SOps.q rfl (.guard 10 33 true rfl rfl (gT g45)) rfl (q_lss rfl rfl rfl) ?_
        refine SOps.q rfl (.guard 10 33 true rfl rfl (gT g45)) rfl (q_move rfl rfl) ?_
        refine SOps.skip rfl 18 41 false rfl rfl (.inl (gT g46)) rfl ?_
        refine SOps.skip rfl 18 41 false rfl rfl (.inl (gT g46)) rfl ?_
        refine SOps.skip rfl 18 41 false rfl rfl (.inl (gT g46)) rfl ?_
        refine SOps.skip rfl 18 41 false rfl rfl (.inl (gT g46)) rfl ?_
        refine SOps.q rfl (.guard 10 33 true rfl rfl (gT g45)) rfl (q_pick_t rfl rfl g46 rfl) ?_
        refine SOps.q rfl (.guard 5 28 false rfl rfl (gF g44)) rfl (q_pick_t rfl rfl g45 rfl) ?_
        refine SOps.q rfl (.plain rfl) rfl (q_pick_f rfl rfl g44 rfl) ?_
        refine SOps.sub (st' := ⟨[(1, .c (.vec a1_grants.length 4 (gL cSGrant dSGrant a1_grants))), (2, .c (.int .i64 a2_i)), (7, .c (.ptr 0 0)), (48, .c (.bool true))], [.box [.str ((a1_grants.getD a2_i.toNat dSGrant).User), .str ((a1_grants.getD a2_i.toNat dSGrant).Role), .int .i64 ((a1_grants.getD a2_i.toNat dSGrant).Span_From), .int .i64 ((a1_grants.getD a2_i.toNat dSGrant).Span_To)]]⟩) (sub_gen [0] rfl rfl ⟨zc rfl rfl, zc rfl rfl, zc rfl rfl, zc rfl rfl, trivial⟩ ⟨⟨_, rfl, ⟨ii rfl rfl, ii rfl rfl, ii rfl rfl, ii rfl rfl, trivial⟩⟩, trivial⟩) ?_
        refine SOps.nil ?_
        refine SCode.cond_t rfl rfl ?_
        refine SCode.seq ?_
        refine SCode.region (show SOps _ _ _ [0] _ _ from ?_)
        refine SOps.q rfl (.plain rfl) rfl (q_assign rfl rfl) ?_
        refine SOps.sub (st' := ⟨[(6, .c (.int .i64 2))], []⟩) (sub_gen [] rfl rfl ⟨zc rfl rfl, trivial⟩ trivial) ?_
        refine SOps.nil ?_
        refine SCode.ret ?_
        obtain rfl := Option.some.inj h
        exact ⟨⟨[(6, .c (.int .i64 2))], []⟩, _, sub_gen [] rfl rfl ⟨zc rfl rfl, trivial⟩ trivial, resA1 (v := .c (.int .i64 2)) rfl rfl, rfl⟩
      refine SCode.region (show SOps _ _ _ [0, 1, 2, 3, 4, 5, 6, 7, 8, 9, 10, 11, 12, 13, 14, 15, 16, 17, 18, 19, 20, 21, 22, 23, 24, 25] _ _ from ?_)
      refine SOps.q rfl (.plain rfl) rfl (q_field_ptr rfl rfl fd37_2) ?_
      refine SOps.q rfl (.plain rfl) rfl (q_field_ptr rfl rfl fd35_0) ?_
      refine SOps.q rfl (.plain rfl) rfl (q_load_ptr rfl rfl rfl rfl ty3) ?_
      refine SOps.q rfl (.plain rfl) rfl (q_call (chargenetref02_Right_ok F ((a1_grants.getD a2_i.toNat dSGrant).Span_From) c_42 g43) [] rfl fn36 ⟨⟨_, rfl, .inl ⟨rfl, rfl⟩⟩, trivial⟩ (.inl rfl)) ?_
      refine SOps.q rfl (.plain rfl) rfl (q_not rfl rfl) ?_
      refine SOps.q rfl (.plain rfl) rfl (q_move rfl rfl) ?_
      refine SOps.q rfl (.guard 5 28 false rfl rfl (gF g44)) rfl (q_field_ptr rfl rfl fd37_2) ?_
      refine SOps.q rfl (.guard 5 28 false rfl rfl (gF g44)) rfl (q_field_ptr rfl rfl fd35_1) ?_
      refine SOps.q rfl (.guard 5 28 false rfl rfl (gF g44)) rfl (q_load_ptr rfl rfl rfl rfl ty3) ?_
      refine SOps.q rfl (.guard 5 28 false rfl rfl (gF g44)) rfl (q_neq rfl rfl rfl) ?_
      refine SOps.q rfl (.guard 5 28 false rfl rfl (gF g44)) rfl (q_move rfl rfl) ?_
      refine SOps.q rfl (.guard 10 33 true rfl rfl (gT g45)) rfl (q_field_ptr rfl rfl fd37_2) ?_
      refine SOps.q rfl (.guard 10 33 true rfl rfl (gT g45)) rfl (q_field_ptr rfl rfl fd35_1) ?_
      refine SOps.q rfl (.guard 10 33 true rfl rfl (gT g45)) rfl (q_load_ptr rfl rfl rfl rfl ty3) ?_
      refine SOps.q rfl (.guard 10 33 true rfl rfl (gT g45)) rfl (q_field_ptr rfl rfl fd37_2) ?_
      refine SOps.q rfl (.guard 10 33 true rfl rfl (gT g45)) rfl (q_field_ptr rfl rfl fd35_0) ?_
      refine SOps.q rfl (.guard 10 33 true rfl rfl (gT g45)) rfl (q_load_ptr rfl rfl rfl rfl ty3) ?_
      refine SOps.q rfl (.guard 10 33 true rfl rfl (gT g45)) rfl (q_lss rfl rfl rfl) ?_
      refine SOps.q rfl (.guard 10 33 true rfl rfl (gT g45)) rfl (q_move rfl rfl) ?_
      refine SOps.q rfl (.guard 18 41 false rfl rfl (gF g46)) rfl (q_field_ptr rfl rfl fd37_2) ?_
      refine SOps.q rfl (.guard 18 41 false rfl rfl (gF g46)) rfl (q_field_ptr rfl rfl fd35_1) ?_
      refine SOps.q rfl (.guard 18 41 false rfl rfl (gF g46)) rfl (q_load_ptr rfl rfl rfl rfl ty3) ?_
      refine SOps.q rfl (.guard 18 41 false rfl rfl (gF g46)) rfl (q_gtr rfl rfl rfl) ?_
      refine SOps.q rfl (.guard 10 33 true rfl rfl (gT g45)) rfl (q_pick_f rfl rfl g46 rfl) ?_
      refine SOps.q rfl (.guard 5 28 false rfl rfl (gF g44)) rfl (q_pick_t rfl rfl g45 rfl) ?_
      refine SOps.q rfl (.plain rfl) rfl (q_pick_f rfl rfl g44 rfl) ?_
      refine SOps.sub (st' := ⟨[(1, .c (.vec a1_grants.length 4 (gL cSGrant dSGrant a1_grants))), (2, .c (.int .i64 a2_i)), (7, .c (.ptr 0 0)), (48, .c (.bool (decide (268435456 < (a1_grants.getD a2_i.toNat dSGrant).Span_To))))], [.box [.str ((a1_grants.getD a2_i.toNat dSGrant).User), .str ((a1_grants.getD a2_i.toNat dSGrant).Role), .int .i64 ((a1_grants.getD a2_i.toNat dSGrant).Span_From), .int .i64 ((a1_grants.getD a2_i.toNat dSGrant).Span_To)]]⟩) (sub_gen [0] rfl rfl ⟨zc rfl rfl, zc rfl rfl, zc rfl rfl, zc rfl rfl, trivial⟩ ⟨⟨_, rfl, ⟨ii rfl rfl, ii rfl rfl, ii rfl rfl, ii rfl rfl, trivial⟩⟩, trivial⟩) ?_
      refine SOps.nil ?_
      rcases cond_out h with ⟨g47, h⟩ | ⟨g47, h⟩
      · refine SCode.cond_t rfl g47 ?_
        refine SCode.seq ?_
        refine SCode.region (show SOps _ _ _ [0] _ _ from ?_)
        refine SOps.q rfl (.plain rfl) rfl (q_assign rfl rfl) ?_
        refine SOps.sub (st' := ⟨[(6, .c (.int .i64 2))], []⟩) (sub_gen [] rfl rfl ⟨zc rfl rfl, trivial⟩ trivial) ?_
        refine SOps.nil ?_
        refine SCode.ret ?_
        obtain rfl := Option.some.inj h
        exact ⟨⟨[(6, .c (.int .i64 2))], []⟩, _, sub_gen [] rfl rfl ⟨zc rfl rfl, trivial⟩ trivial, resA1 (v := .c (.int .i64 2)) rfl rfl, rfl⟩
      refine SCode.cond_f rfl g47 ?_
      refine SCode.skip ?_
      exact ⟨(), h, sub_gen [0] rfl rfl ⟨zc rfl rfl, zc rfl rfl, zc rfl rfl, trivial⟩ ⟨⟨_, rfl, ⟨ii rfl rfl, ii rfl rfl, ii rfl rfl, ii rfl rfl, trivial⟩⟩, trivial⟩⟩
    refine SCode.region (show SOps _ _ _ [0, 1, 2, 3, 4, 5, 6, 7, 8, 9, 10, 11, 12, 13, 14, 15, 16, 17, 18, 19, 20, 21, 22, 23, 24, 25] _ _ from ?_)
    refine SOps.q rfl (.plain rfl) rfl (q_field_ptr rfl rfl fd37_2) ?_
    refine SOps.q rfl (.plain rfl) rfl (q_field_ptr rfl rfl fd35_0) ?_
    refine SOps.q rfl (.plain rfl) rfl (q_load_ptr rfl rfl rfl rfl ty3) ?_
    refine SOps.q rfl (.plain rfl) rfl (q_call (chargenetref02_Right_ok F ((a1_grants.getD a2_i.toNat dSGrant).Span_From) c_42 g43) [] rfl fn36 ⟨⟨_, rfl, .inl ⟨rfl, rfl⟩⟩, trivial⟩ (.inl rfl)) ?_
    refine SOps.q rfl (.plain rfl) rfl (q_not rfl rfl) ?_
    refine SOps.q rfl (.plain rfl) rfl (q_move rfl rfl) ?_
    refine SOps.q rfl (.guard 5 28 false rfl rfl (gF g44)) rfl (q_field_ptr rfl rfl fd37_2) ?_
    refine SOps.q rfl (.guard 5 28 false rfl rfl (gF g44)) rfl (q_field_ptr rfl rfl fd35_1) ?_
    refine SOps.q rfl (.guard 5 28 false rfl rfl (gF g44)) rfl (q_load_ptr rfl rfl rfl rfl ty3) ?_
    refine SOps.q rfl (.guard 5 28 false rfl rfl (gF g44)) rfl (q_neq rfl rfl rfl) ?_
    refine SOps.q rfl (.guard 5 28 false rfl rfl (gF g44)) rfl (q_move rfl rfl) ?_
    refine SOps.skip rfl 10 33 true rfl rfl (.inl (gF g45)) rfl ?_
    refine SOps.skip rfl 10 33 true rfl rfl (.inl (gF g45)) rfl ?_
    refine SOps.skip rfl 10 33 true rfl rfl (.inl (gF g45)) rfl ?_
    refine SOps.skip rfl 10 33 true rfl rfl (.inl (gF g45)) rfl ?_
    refine SOps.skip rfl 10 33 true rfl rfl (.inl (gF g45)) rfl ?_
    refine SOps.skip rfl 10 33 true rfl rfl (.inl (gF g45)) rfl ?_
    refine SOps.skip rfl 10 33 true rfl rfl (.inl (gF g45)) rfl ?_
    refine SOps.skip rfl 10 33 true rfl rfl (.inl (gF g45)) rfl ?_
    refine SOps.skip rfl 18 41 false rfl rfl (.inr rfl) rfl ?_
    refine SOps.skip rfl 18 41 false rfl rfl (.inr rfl) rfl ?_
    refine SOps.skip rfl 18 41 false rfl rfl (.inr rfl) rfl ?_
    refine SOps.skip rfl 18 41 false rfl rfl (.inr rfl) rfl ?_
    refine SOps.skip rfl 10 33 true rfl rfl (.inl (gF g45)) rfl ?_
    refine SOps.q rfl (.guard 5 28 false rfl rfl (gF g44)) rfl (q_pick_f rfl rfl g45 rfl) ?_
    refine SOps.q rfl (.plain rfl) rfl (q_pick_f rfl rfl g44 rfl) ?_
    refine SOps.sub (st' := ⟨[(1, .c (.vec a1_grants.length 4 (gL cSGrant dSGrant a1_grants))), (2, .c (.int .i64 a2_i)), (7, .c (.ptr 0 0)), (48, .c (.bool false))], [.box [.str ((a1_grants.getD a2_i.toNat dSGrant).User), .str ((a1_grants.getD a2_i.toNat dSGrant).Role), .int .i64 ((a1_grants.getD a2_i.toNat dSGrant).Span_From), .int .i64 ((a1_grants.getD a2_i.toNat dSGrant).Span_To)]]⟩) (sub_gen [0] rfl rfl ⟨zc rfl rfl, zc rfl rfl, zc rfl rfl, zc rfl rfl, trivial⟩ ⟨⟨_, rfl, ⟨ii rfl rfl, ii rfl rfl, ii rfl rfl, ii rfl rfl, trivial⟩⟩, trivial⟩) ?_
    refine SOps.nil ?_
    refine SCode.cond_f rfl rfl ?_
    refine SCode.skip ?_
    exact ⟨(), h, sub_gen [0] rfl rfl ⟨zc rfl rfl, zc rfl rfl, zc rfl rfl, trivial⟩ ⟨⟨_, rfl, ⟨ii rfl rfl, ii rfl rfl, ii rfl rfl, ii rfl rfl, trivial⟩⟩, trivial⟩⟩
  rintro ⟨⟩ h
  show SCode _ _ _ ⟨[(1, .c (.vec a1_grants.length 4 (gL cSGrant dSGrant a1_grants))), (2, .c (.int .i64 a2_i)), (7, .c (.ptr 0 0))], [.box [.str ((a1_grants.getD a2_i.toNat dSGrant).User), .str ((a1_grants.getD a2_i.toNat dSGrant).Role), .int .i64 ((a1_grants.getD a2_i.toNat dSGrant).Span_From), .int .i64 ((a1_grants.getD a2_i.toNat dSGrant).Span_To)]]⟩ _
  replace h : chargenetref39_grant_p41 F a1_grants a2_i = some r := h
  unfold chargenetref39_grant_p41 at h
  refine SCode.join (σ := Unit) (S := fun s => ⟨[], []⟩) (g := fun s => chargenetref39_grant_p8 = some r) ?_ ?_
  rotate_left
  · refine SCode.seq ?_
    refine SCode.region (show SOps _ _ _ [0] _ _ from ?_)
    refine SOps.q rfl (.plain rfl) rfl (q_assign rfl rfl) ?_
    refine SOps.sub (st' := ⟨[(1, .c (.vec a1_grants.length 4 (gL cSGrant dSGrant a1_grants))), (2, .c (.int .i64 a2_i)), (7, .c (.ptr 0 0)), (8, .c (.int .i64 0))], [.box [.str ((a1_grants.getD a2_i.toNat dSGrant).User), .str ((a1_grants.getD a2_i.toNat dSGrant).Role), .int .i64 ((a1_grants.getD a2_i.toNat dSGrant).Span_From), .int .i64 ((a1_grants.getD a2_i.toNat dSGrant).Span_To)]]⟩) (sub_gen [0] rfl rfl ⟨zc rfl rfl, zc rfl rfl, zc rfl rfl, zc rfl rfl, trivial⟩ ⟨⟨_, rfl, ⟨ii rfl rfl, ii rfl rfl, ii rfl rfl, ii rfl rfl, trivial⟩⟩, trivial⟩) ?_
    refine SOps.nil ?_
    refine SCode.block ?_
    refine SCode.sub (st' := ⟨[(1, .c (.vec a1_grants.length 4 (gL cSGrant dSGrant a1_grants))), (2, .c (.int .i64 a2_i)), (7, .c (.ptr 0 0)), (8, .c (.int .i64 0))], [.box [.str ((a1_grants.getD a2_i.toNat dSGrant).User), .str ((a1_grants.getD a2_i.toNat dSGrant).Role), .int .i64 ((a1_grants.getD a2_i.toNat dSGrant).Span_From), .int .i64 ((a1_grants.getD a2_i.toNat dSGrant).Span_To)]]⟩) (sub_gen [0] rfl rfl ⟨zc rfl rfl, zc rfl rfl, zc rfl rfl, zc rfl rfl, trivial⟩ ⟨⟨_, rfl, ⟨ii rfl rfl, ii rfl rfl, ii rfl rfl, ii rfl rfl, trivial⟩⟩, trivial⟩) ?_
    refine (SCode.loop (σ := Nat × Int) (S := fun s => ⟨[(1, .c (.vec a1_grants.length 4 (gL cSGrant dSGrant a1_grants))), (2, .c (.int .i64 a2_i)), (7, .c (.ptr 0 0)), (8, .c (.int .i64 s.2))], [.box [.str ((a1_grants.getD a2_i.toNat dSGrant).User), .str ((a1_grants.getD a2_i.toNat dSGrant).Role), .int .i64 ((a1_grants.getD a2_i.toNat dSGrant).Span_From), .int .i64 ((a1_grants.getD a2_i.toNat dSGrant).Span_To)]]⟩) (g := fun s => chargenetref39_grant_l30 F a1_grants a2_i s.1 s.2 = some r) (μ := fun s => s.1) (F, 0) h ?_)
    rintro ⟨n_30, k_19⟩ h
    replace h : chargenetref39_grant_l30 F a1_grants a2_i n_30 k_19 = some r := h
    show SCode _ _ _ ⟨[(1, .c (.vec a1_grants.length 4 (gL cSGrant dSGrant a1_grants))), (2, .c (.int .i64 a2_i)), (7, .c (.ptr 0 0)), (8, .c (.int .i64 k_19))], [.box [.str ((a1_grants.getD a2_i.toNat dSGrant).User), .str ((a1_grants.getD a2_i.toNat dSGrant).Role), .int .i64 ((a1_grants.getD a2_i.toNat dSGrant).Span_From), .int .i64 ((a1_grants.getD a2_i.toNat dSGrant).Span_To)]]⟩ _
    cases n_30 with
    | zero => cases h
    | succ n_30 =>
      replace h : chargenetref39_grant_b30 F a1_grants a2_i (fun k_19 => chargenetref39_grant_l30 F a1_grants a2_i n_30 k_19) k_19 = some r := h
      unfold chargenetref39_grant_b30 at h
      refine SCode.seq ?_
      refine SCode.seq ?_
      refine SCode.region (show SOps _ _ _ [0, 1, 2] _ _ from ?_)
      refine SOps.q rfl (.plain rfl) rfl (q_move rfl rfl) ?_
      refine SOps.q rfl (.plain rfl) rfl (q_move rfl rfl) ?_
      refine SOps.q rfl (.plain rfl) rfl (q_lss rfl rfl rfl) ?_
      refine SOps.sub (st' := ⟨[(1, .c (.vec a1_grants.length 4 (gL cSGrant dSGrant a1_grants))), (2, .c (.int .i64 a2_i)), (7, .c (.ptr 0 0)), (8, .c (.int .i64 k_19)), (51, .c (.bool (decide (k_19 < a2_i))))], [.box [.str ((a1_grants.getD a2_i.toNat dSGrant).User), .str ((a1_grants.getD a2_i.toNat dSGrant).Role), .int .i64 ((a1_grants.getD a2_i.toNat dSGrant).Span_From), .int .i64 ((a1_grants.getD a2_i.toNat dSGrant).Span_To)]]⟩) (sub_gen [0] rfl rfl ⟨zc rfl rfl, zc rfl rfl, zc rfl rfl, zc rfl rfl, zc rfl rfl, trivial⟩ ⟨⟨_, rfl, ⟨ii rfl rfl, ii rfl rfl, ii rfl rfl, ii rfl rfl, trivial⟩⟩, trivial⟩) ?_
      refine SOps.nil ?_
      rcases cond_out h with ⟨g31, h⟩ | ⟨g31, h⟩
      · refine SCode.cond_t rfl g31 ?_
        refine SCode.skip ?_
        refine SCode.join (σ := Unit) (S := fun s => ⟨[(1, .c (.vec a1_grants.length 4 (gL cSGrant dSGrant a1_grants))), (2, .c (.int .i64 a2_i)), (7, .c (.ptr 0 0)), (8, .c (.int .i64 k_19))], [.box [.str ((a1_grants.getD a2_i.toNat dSGrant).User), .str ((a1_grants.getD a2_i.toNat dSGrant).Role), .int .i64 ((a1_grants.getD a2_i.toNat dSGrant).Span_From), .int .i64 ((a1_grants.getD a2_i.toNat dSGrant).Span_To)]]⟩) (g := fun s => chargenetref39_grant_p32 k_19 (fun k_19 => chargenetref39_grant_l30 F a1_grants a2_i n_30 k_19) = some r) ?_ ?_
        rotate_left
        · refine SCode.block ?_
          refine SCode.seq ?_
          obtain ⟨g33, h⟩ := guard_out h
          refine SCode.region (show SOps _ _ _ [0, 1, 2, 3, 4, 5] _ _ from ?_)
          refine SOps.q rfl (.plain rfl) rfl (q_move rfl rfl) ?_
          refine SOps.q rfl (.plain rfl) rfl (q_move rfl rfl) ?_
          refine SOps.q rfl (.plain rfl) rfl (q_index_vec rfl rfl rfl sl23 rfl g33.1 g33.2) ?_
          refine SOps.q rfl (.plain rfl) rfl (q_load_eptr_all rfl rfl rfl ty37) ?_
          refine SOps.e rfl (.plain rfl) (e_alloc rfl rfl rfl z37) ?_
          refine SOps.e rfl (.plain rfl) (e_store_box rfl rfl rfl rfl rfl ty37 rfl rfl rfl rfl) ?_
          refine SOps.sub (st' := ⟨[(1, .c (.vec a1_grants.length 4 (gL cSGrant dSGrant a1_grants))), (2, .c (.int .i64 a2_i)), (7, .c (.ptr 0 0)), (8, .c (.int .i64 k_19)), (9, .c (.ptr 1 0))], [.box [.str ((a1_grants.getD a2_i.toNat dSGrant).User), .str ((a1_grants.getD a2_i.toNat dSGrant).Role), .int .i64 ((a1_grants.getD a2_i.toNat dSGrant).Span_From), .int .i64 ((a1_grants.getD a2_i.toNat dSGrant).Span_To)], .box [.str ((a1_grants.getD k_19.toNat dSGrant).User), .str ((a1_grants.getD k_19.toNat dSGrant).Role), .int .i64 ((a1_grants.getD k_19.toNat dSGrant).Span_From), .int .i64 ((a1_grants.getD k_19.toNat dSGrant).Span_To)]]⟩) (sub_gen [0, 1] rfl rfl ⟨zc rfl rfl, zc rfl rfl, zc rfl rfl, zc rfl rfl, zc rfl rfl, trivial⟩ ⟨⟨_, rfl, ⟨ii rfl rfl, ii rfl rfl, ii rfl rfl, ii rfl rfl, trivial⟩⟩, ⟨_, rfl, ⟨ii rfl rfl, ii rfl rfl, ii rfl rfl, ii rfl rfl, trivial⟩⟩, trivial⟩) ?_
          refine SOps.nil ?_
          refine SCode.seq ?_
          rcases cond_out h with ⟨g34, h⟩ | ⟨g34, h⟩
          · rcases cond_out h with ⟨g35, h⟩ | ⟨g35, h⟩
            · obtain ⟨c_36, g37, h⟩ := bind_out h
              try dsimp only at h
              obtain ⟨c_38, g39, h⟩ := bind_out h
              try dsimp only at h
              refine SCode.draw (s' := [(86, .c (.bool (decide ((if (a1_grants.getD k_19.toNat dSGrant).Span_From < (a1_grants.getD a2_i.toNat dSGrant).Span_From then (a1_grants.getD a2_i.toNat dSGrant).Span_From else (a1_grants.getD k_19.toNat dSGrant).Span_From) < (if c_38 < c_36 then c_38 else c_36))))), (85, .c (.bool (decide ((if (a1_grants.getD k_19.toNat dSGrant).Span_From < (a1_grants.getD a2_i.toNat dSGrant).Span_From then (a1_grants.getD a2_i.toNat dSGrant).Span_From else (a1_grants.getD k_19.toNat dSGrant).Span_From) < (if c_38 < c_36 then c_38 else c_36))))), (84, .c (.int .i64 ((if c_38 < c_36 then c_38 else c_36)))), (83, .c (.int .i64 c_38)), (82, .a [.int .i64 ((a1_grants.getD a2_i.toNat dSGrant).Span_From), .int .i64 ((a1_grants.getD a2_i.toNat dSGrant).Span_To)]), (81, .c (.ptr 0 2)), (80, .c (.int .i64 c_36)), (79, .a [.int .i64 ((a1_grants.getD k_19.toNat dSGrant).Span_From), .int .i64 ((a1_grants.getD k_19.toNat dSGrant).Span_To)]), (78, .c (.ptr 1 2)), (77, .c (.int .i64 ((if (a1_grants.getD k_19.toNat dSGrant).Span_From < (a1_grants.getD a2_i.toNat dSGrant).Span_From then (a1_grants.getD a2_i.toNat dSGrant).Span_From else (a1_grants.getD k_19.toNat dSGrant).Span_From)))), (76, .c (.int .i64 ((a1_grants.getD a2_i.toNat dSGrant).Span_From))), (75, .c (.ptr 0 2)), (74, .c (.ptr 0 2)), (73, .c (.int .i64 ((a1_grants.getD k_19.toNat dSGrant).Span_From))), (72, .c (.ptr 1 2)), (71, .c (.ptr 1 2)), (70, .c (.bool (sEq ((a1_grants.getD k_19.toNat dSGrant).Role) ((a1_grants.getD a2_i.toNat dSGrant).Role)))), (69, .c (.bool (sEq ((a1_grants.getD k_19.toNat dSGrant).Role) ((a1_grants.getD a2_i.toNat dSGrant).Role)))), (68, .c (.bool (sEq ((a1_grants.getD k_19.toNat dSGrant).Role) ((a1_grants.getD a2_i.toNat dSGrant).Role)))), (67, .c (.str ((a1_grants.getD a2_i.toNat dSGrant).Role))), (66, .c (.ptr 0 1)), (65, .c (.str ((a1_grants.getD k_19.toNat dSGrant).Role))), (64, .c (.ptr 1 1)), (63, .c (.bool (sEq ((a1_grants.getD k_19.toNat dSGrant).User) ((a1_grants.getD a2_i.toNat dSGrant).User)))), (62, .c (.bool (sEq ((a1_grants.getD k_19.toNat dSGrant).User) ((a1_grants.getD a2_i.toNat dSGrant).User)))), (61, .c (.str ((a1_grants.getD a2_i.toNat dSGrant).User))), (60, .c (.ptr 0 0)), (59, .c (.str ((a1_grants.getD k_19.toNat dSGrant).User))), (58, .c (.ptr 1 0)), (1, .c (.vec a1_grants.length 4 (gL cSGrant dSGrant a1_grants))), (2, .c (.int .i64 a2_i)), (7, .c (.ptr 0 0)), (8, .c (.int .i64 k_19)), (9, .c (.ptr 1 0))]) mixed [[], [0], [], [2], [0, 1, 2, 3], [0, 1, 2, 3, 4], [0, 1, 2, 3, 4, 5], [0, 1, 2, 3, 4, 5, 6], [0, 1, 2, 3, 4, 5], [0, 1, 2, 3, 4, 5, 8], [0, 1, 2, 3, 4, 5, 6, 7, 8, 9], [0, 1, 2, 3, 4, 5, 6, 7, 8, 9, 10], [0, 1, 2, 3, 4, 5, 6, 7, 8, 9, 10, 11], [0, 1, 2, 3, 4, 5, 6, 7, 8, 9, 10, 11, 12], [0, 1, 2, 3, 4, 5, 6, 7, 8, 9, 10, 11, 12, 13], [0, 1, 2, 3, 4, 5, 6, 7, 8, 9, 10, 11, 12, 13, 14], [0, 1, 2, 3, 4, 5, 6, 7, 8, 9, 10, 11, 12], [0, 1, 2, 3, 4, 5, 6, 7, 8, 9, 10, 11, 12, 16], [0, 1, 2, 3, 4, 5, 6, 7, 8, 9, 10, 11, 12, 16, 17], [0, 1, 2, 3, 4, 5, 6, 7, 8, 9, 10, 11, 12, 13, 14, 15, 16, 17, 18], [0, 1, 2, 3, 4, 5, 6, 7, 8, 9, 10, 11, 12], [0, 1, 2, 3, 4, 5, 6, 7, 8, 9, 10, 11, 12, 20], [0, 1, 2, 3, 4, 5, 6, 7, 8, 9, 10, 11, 12, 20, 21], [0, 1, 2, 3, 4, 5, 6, 7, 8, 9, 10, 11, 12], [0, 1, 2, 3, 4, 5, 6, 7, 8, 9, 10, 11, 12, 23], [0, 1, 2, 3, 4, 5, 6, 7, 8, 9, 10, 11, 12, 20, 21, 22, 23, 24], [0, 1, 2, 3, 4, 5, 6, 7, 8, 9, 10, 11, 12, 20, 21, 22, 23, 24, 25], [0, 1, 2, 3, 4, 5, 6, 7, 8, 9, 10, 11, 12, 13, 14, 15, 16, 17, 18, 19, 20, 21, 22, 23, 24, 25, 26], [0, 1, 2, 3, 4, 5, 6, 7, 8, 9, 10, 11, 12, 13, 14, 15, 16, 17, 18, 19, 20, 21, 22, 23, 24, 25, 26, 27]] 29 0 rfl rfl ?_ ?_
              · refine QChain.run rfl (.plain rfl) rfl (q_field_ptr rfl rfl fd37_0) ?_
                refine QChain.run rfl (.plain rfl) rfl (q_load_ptr rfl rfl rfl rfl ty9) ?_
                refine QChain.run rfl (.plain rfl) rfl (q_field_ptr rfl rfl fd37_0) ?_
                refine QChain.run rfl (.plain rfl) rfl (q_load_ptr rfl rfl rfl rfl ty9) ?_
                refine QChain.run rfl (.plain rfl) rfl (q_eqlS rfl rfl rfl) ?_
                refine QChain.run rfl (.plain rfl) rfl (q_move rfl rfl) ?_
                refine QChain.run rfl (.guard 5 63 true rfl rfl (gT g34)) rfl (q_field_ptr rfl rfl fd37_1) ?_
                refine QChain.run rfl (.guard 5 63 true rfl rfl (gT g34)) rfl (q_load_ptr rfl rfl rfl rfl ty9) ?_
                refine QChain.run rfl (.guard 5 63 true rfl rfl (gT g34)) rfl (q_field_ptr rfl rfl fd37_1) ?_
                refine QChain.run rfl (.guard 5 63 true rfl rfl (gT g34)) rfl (q_load_ptr rfl rfl rfl rfl ty9) ?_
                refine QChain.run rfl (.guard 5 63 true rfl rfl (gT g34)) rfl (q_eqlS rfl rfl rfl) ?_
                refine QChain.run rfl (.plain rfl) rfl (q_pick_t rfl rfl g34 rfl) ?_
                refine QChain.run rfl (.plain rfl) rfl (q_move rfl rfl) ?_
                refine QChain.run rfl (.guard 12 70 true rfl rfl (gT g35)) rfl (q_field_ptr rfl rfl fd37_2) ?_
                refine QChain.run rfl (.guard 12 70 true rfl rfl (gT g35)) rfl (q_field_ptr rfl rfl fd35_0) ?_
                refine QChain.run rfl (.guard 12 70 true rfl rfl (gT g35)) rfl (q_load_ptr rfl rfl rfl rfl ty3) ?_
                refine QChain.run rfl (.guard 12 70 true rfl rfl (gT g35)) rfl (q_field_ptr rfl rfl fd37_2) ?_
                refine QChain.run rfl (.guard 12 70 true rfl rfl (gT g35)) rfl (q_field_ptr rfl rfl fd35_0) ?_
                refine QChain.run rfl (.guard 12 70 true rfl rfl (gT g35)) rfl (q_load_ptr rfl rfl rfl rfl ty3) ?_
                refine QChain.run rfl (.guard 12 70 true rfl rfl (gT g35)) rfl (q_max rfl rfl rfl) ?_
                refine QChain.run rfl (.guard 12 70 true rfl rfl (gT g35)) rfl (q_field_ptr rfl rfl fd37_2) ?_
                refine QChain.run rfl (.guard 12 70 true rfl rfl (gT g35)) rfl (q_load_ptr_all rfl rfl rfl rfl rfl ty35) ?_
                refine QChain.run rfl (.guard 12 70 true rfl rfl (gT g35)) rfl (q_call (chargenetref39_end_ok F (SSpan.mk ((a1_grants.getD k_19.toNat dSGrant).Span_From) ((a1_grants.getD k_19.toNat dSGrant).Span_To)) c_36 g37) [] rfl fn41 ⟨⟨rfl, rfl⟩, trivial⟩ (.inl rfl)) ?_
                refine QChain.run rfl (.guard 12 70 true rfl rfl (gT g35)) rfl (q_field_ptr rfl rfl fd37_2) ?_
                refine QChain.run rfl (.guard 12 70 true rfl rfl (gT g35)) rfl (q_load_ptr_all rfl rfl rfl rfl rfl ty35) ?_
                refine QChain.run rfl (.guard 12 70 true rfl rfl (gT g35)) rfl (q_call (chargenetref39_end_ok F (SSpan.mk ((a1_grants.getD a2_i.toNat dSGrant).Span_From) ((a1_grants.getD a2_i.toNat dSGrant).Span_To)) c_38 g39) [] rfl fn41 ⟨⟨rfl, rfl⟩, trivial⟩ (.inl rfl)) ?_
                refine QChain.run rfl (.guard 12 70 true rfl rfl (gT g35)) rfl (q_min rfl rfl rfl) ?_
                refine QChain.run rfl (.guard 12 70 true rfl rfl (gT g35)) rfl (q_lss rfl rfl rfl) ?_
                refine QChain.run rfl (.plain rfl) rfl (q_pick_t rfl rfl g35 rfl) ?_
                exact QChain.nil _ _
              refine (show SOps _ _ _ [] _ _ from ?_)
              refine SOps.sub (st' := ⟨[(1, .c (.vec a1_grants.length 4 (gL cSGrant dSGrant a1_grants))), (2, .c (.int .i64 a2_i)), (7, .c (.ptr 0 0)), (8, .c (.int .i64 k_19)), (86, .c (.bool (decide ((if (a1_grants.getD k_19.toNat dSGrant).Span_From < (a1_grants.getD a2_i.toNat dSGrant).Span_From then (a1_grants.getD a2_i.toNat dSGrant).Span_From else (a1_grants.getD k_19.toNat dSGrant).Span_From) < (if c_38 < c_36 then c_38 else c_36)))))], [.box [.str ((a1_grants.getD a2_i.toNat dSGrant).User), .str ((a1_grants.getD a2_i.toNat dSGrant).Role), .int .i64 ((a1_grants.getD a2_i.toNat dSGrant).Span_From), .int .i64 ((a1_grants.getD a2_i.toNat dSGrant).Span_To)]]⟩) (sub_gen [0] rfl rfl ⟨zc rfl rfl, zc rfl rfl, zc rfl rfl, zc rfl rfl, zc rfl rfl, trivial⟩ ⟨⟨_, rfl, ⟨ii rfl rfl, ii rfl rfl, ii rfl rfl, ii rfl rfl, trivial⟩⟩, trivial⟩) ?_
              refine SOps.nil ?_
              rcases cond_out h with ⟨g40, h⟩ | ⟨g40, h⟩
              · refine SCode.cond_t rfl g40 ?_
                refine SCode.seq ?_
                refine SCode.region (show SOps _ _ _ [0] _ _ from ?_)
                refine SOps.q rfl (.plain rfl) rfl (q_assign rfl rfl) ?_
                refine SOps.sub (st' := ⟨[(6, .c (.int .i64 9))], []⟩) (sub_gen [] rfl rfl ⟨zc rfl rfl, trivial⟩ trivial) ?_
                refine SOps.nil ?_
                refine SCode.ret ?_
                obtain rfl := Option.some.inj h
                exact ⟨⟨[(6, .c (.int .i64 9))], []⟩, _, sub_gen [] rfl rfl ⟨zc rfl rfl, trivial⟩ trivial, resA1 (v := .c (.int .i64 9)) rfl rfl, rfl⟩
              refine SCode.cond_f rfl g40 ?_
              refine SCode.skip ?_
              exact ⟨(), h, sub_gen [0] rfl rfl ⟨zc rfl rfl, zc rfl rfl, zc rfl rfl, zc rfl rfl, trivial⟩ ⟨⟨_, rfl, ⟨ii rfl rfl, ii rfl rfl, ii rfl rfl, ii rfl rfl, trivial⟩⟩, trivial⟩⟩
            refine SCode.draw (s' := [(86, .c (.bool false)), (85, .c (.raw (.tuple #[]))), (84, .c (.raw (.tuple #[]))), (83, .c (.raw (.tuple #[]))), (82, .c (.raw (.tuple #[]))), (81, .c (.raw (.tuple #[]))), (80, .c (.raw (.tuple #[]))), (79, .c (.raw (.tuple #[]))), (78, .c (.raw (.tuple #[]))), (77, .c (.raw (.tuple #[]))), (76, .c (.raw (.tuple #[]))), (75, .c (.raw (.tuple #[]))), (74, .c (.raw (.tuple #[]))), (73, .c (.raw (.tuple #[]))), (72, .c (.raw (.tuple #[]))), (71, .c (.raw (.tuple #[]))), (70, .c (.bool (sEq ((a1_grants.getD k_19.toNat dSGrant).Role) ((a1_grants.getD a2_i.toNat dSGrant).Role)))), (69, .c (.bool (sEq ((a1_grants.getD k_19.toNat dSGrant).Role) ((a1_grants.getD a2_i.toNat dSGrant).Role)))), (68, .c (.bool (sEq ((a1_grants.getD k_19.toNat dSGrant).Role) ((a1_grants.getD a2_i.toNat dSGrant).Role)))), (67, .c (.str ((a1_grants.getD a2_i.toNat dSGrant).Role))), (66, .c (.ptr 0 1)), (65, .c (.str ((a1_grants.getD k_19.toNat dSGrant).Role))), (64, .c (.ptr 1 1)), (63, .c (.bool (sEq ((a1_grants.getD k_19.toNat dSGrant).User) ((a1_grants.getD a2_i.toNat dSGrant).User)))), (62, .c (.bool (sEq ((a1_grants.getD k_19.toNat dSGrant).User) ((a1_grants.getD a2_i.toNat dSGrant).User)))), (61, .c (.str ((a1_grants.getD a2_i.toNat dSGrant).User))), (60, .c (.ptr 0 0)), (59, .c (.str ((a1_grants.getD k_19.toNat dSGrant).User))), (58, .c (.ptr 1 0)), (1, .c (.vec a1_grants.length 4 (gL cSGrant dSGrant a1_grants))), (2, .c (.int .i64 a2_i)), (7, .c (.ptr 0 0)), (8, .c (.int .i64 k_19)), (9, .c (.ptr 1 0))]) mixed [[], [0], [], [2], [0, 1, 2, 3], [0, 1, 2, 3, 4], [0, 1, 2, 3, 4, 5], [0, 1, 2, 3, 4, 5, 6], [0, 1, 2, 3, 4, 5], [0, 1, 2, 3, 4, 5, 8], [0, 1, 2, 3, 4, 5, 6, 7, 8, 9], [0, 1, 2, 3, 4, 5, 6, 7, 8, 9, 10], [0, 1, 2, 3, 4, 5, 6, 7, 8, 9, 10, 11], [0, 1, 2, 3, 4, 5, 6, 7, 8, 9, 10, 11, 12], [0, 1, 2, 3, 4, 5, 6, 7, 8, 9, 10, 11, 12, 13], [0, 1, 2, 3, 4, 5, 6, 7, 8, 9, 10, 11, 12, 13, 14], [0, 1, 2, 3, 4, 5, 6, 7, 8, 9, 10, 11, 12], [0, 1, 2, 3, 4, 5, 6, 7, 8, 9, 10, 11, 12, 16], [0, 1, 2, 3, 4, 5, 6, 7, 8, 9, 10, 11, 12, 16, 17], [0, 1, 2, 3, 4, 5, 6, 7, 8, 9, 10, 11, 12, 13, 14, 15, 16, 17, 18], [0, 1, 2, 3, 4, 5, 6, 7, 8, 9, 10, 11, 12], [0, 1, 2, 3, 4, 5, 6, 7, 8, 9, 10, 11, 12, 20], [0, 1, 2, 3, 4, 5, 6, 7, 8, 9, 10, 11, 12, 20, 21], [0, 1, 2, 3, 4, 5, 6, 7, 8, 9, 10, 11, 12], [0, 1, 2, 3, 4, 5, 6, 7, 8, 9, 10, 11, 12, 23], [0, 1, 2, 3, 4, 5, 6, 7, 8, 9, 10, 11, 12, 20, 21, 22, 23, 24], [0, 1, 2, 3, 4, 5, 6, 7, 8, 9, 10, 11, 12, 20, 21, 22, 23, 24, 25], [0, 1, 2, 3, 4, 5, 6, 7, 8, 9, 10, 11, 12, 13, 14, 15, 16, 17, 18, 19, 20, 21, 22, 23, 24, 25, 26], [0, 1, 2, 3, 4, 5, 6, 7, 8, 9, 10, 11, 12, 13, 14, 15, 16, 17, 18, 19, 20, 21, 22, 23, 24, 25, 26, 27]] 29 0 rfl rfl ?_ ?_
            · refine QChain.run rfl (.plain rfl) rfl (q_field_ptr rfl rfl fd37_0) ?_
              refine QChain.run rfl (.plain rfl) rfl (q_load_ptr rfl rfl rfl rfl ty9) ?_
              refine QChain.run rfl (.plain rfl) rfl (q_field_ptr rfl rfl fd37_0) ?_
              refine QChain.run rfl (.plain rfl) rfl (q_load_ptr rfl rfl rfl rfl ty9) ?_
              refine QChain.run rfl (.plain rfl) rfl (q_eqlS rfl rfl rfl) ?_
              refine QChain.run rfl (.plain rfl) rfl (q_move rfl rfl) ?_
              refine QChain.run rfl (.guard 5 63 true rfl rfl (gT g34)) rfl (q_field_ptr rfl rfl fd37_1) ?_
              refine QChain.run rfl (.guard 5 63 true rfl rfl (gT g34)) rfl (q_load_ptr rfl rfl rfl rfl ty9) ?_
              refine QChain.run rfl (.guard 5 63 true rfl rfl (gT g34)) rfl (q_field_ptr rfl rfl fd37_1) ?_
              refine QChain.run rfl (.guard 5 63 true rfl rfl (gT g34)) rfl (q_load_ptr rfl rfl rfl rfl ty9) ?_
              refine QChain.run rfl (.guard 5 63 true rfl rfl (gT g34)) rfl (q_eqlS rfl rfl rfl) ?_
              refine QChain.run rfl (.plain rfl) rfl (q_pick_t rfl rfl g34 rfl) ?_
              refine QChain.run rfl (.plain rfl) rfl (q_move rfl rfl) ?_
              refine QChain.skip rfl ⟨12, 70, true, rfl, rfl, (.inl (gF g35))⟩ rfl ?_
              refine QChain.skip rfl ⟨12, 70, true, rfl, rfl, (.inl (gF g35))⟩ rfl ?_
              refine QChain.skip rfl ⟨12, 70, true, rfl, rfl, (.inl (gF g35))⟩ rfl ?_
              refine QChain.skip rfl ⟨12, 70, true, rfl, rfl, (.inl (gF g35))⟩ rfl ?_
              refine QChain.skip rfl ⟨12, 70, true, rfl, rfl, (.inl (gF g35))⟩ rfl ?_
              refine QChain.skip rfl ⟨12, 70, true, rfl, rfl, (.inl (gF g35))⟩ rfl ?_
              refine QChain.skip rfl ⟨12, 70, true, rfl, rfl, (.inl (gF g35))⟩ rfl ?_
              refine QChain.skip rfl ⟨12, 70, true, rfl, rfl, (.inl (gF g35))⟩ rfl ?_
              refine QChain.skip rfl ⟨12, 70, true, rfl, rfl, (.inl (gF g35))⟩ rfl ?_
              refine QChain.skip rfl ⟨12, 70, true, rfl, rfl, (.inl (gF g35))⟩ rfl ?_
              refine QChain.skip rfl ⟨12, 70, true, rfl, rfl, (.inl (gF g35))⟩ rfl ?_
              refine QChain.skip rfl ⟨12, 70, true, rfl, rfl, (.inl (gF g35))⟩ rfl ?_
              refine QChain.skip rfl ⟨12, 70, true, rfl, rfl, (.inl (gF g35))⟩ rfl ?_
              refine QChain.skip rfl ⟨12, 70, true, rfl, rfl, (.inl (gF g35))⟩ rfl ?_
              refine QChain.skip rfl ⟨12, 70, true, rfl, rfl, (.inl (gF g35))⟩ rfl ?_
              refine QChain.run rfl (.plain rfl) rfl (q_pick_f rfl rfl g35 rfl) ?_
              exact QChain.nil _ _
            refine (show SOps _ _ _ [] _ _ from ?_)
            refine SOps.sub (st' := ⟨[(1, .c (.vec a1_grants.length 4 (gL cSGrant dSGrant a1_grants))), (2, .c (.int .i64 a2_i)), (7, .c (.ptr 0 0)), (8, .c (.int .i64 k_19)), (86, .c (.bool false))], [.box [.str ((a1_grants.getD a2_i.toNat dSGrant).User), .str ((a1_grants.getD a2_i.toNat dSGrant).Role), .int .i64 ((a1_grants.getD a2_i.toNat dSGrant).Span_From), .int .i64 ((a1_grants.getD a2_i.toNat dSGrant).Span_To)]]⟩) (sub_gen [0] rfl rfl ⟨zc rfl rfl, zc rfl rfl, zc rfl rfl, zc rfl rfl, zc rfl rfl, trivial⟩ ⟨⟨_, rfl, ⟨ii rfl rfl, ii rfl rfl, ii rfl rfl, ii rfl rfl, trivial⟩⟩, trivial⟩) ?_
            refine SOps.nil ?_
            refine SCode.cond_f rfl rfl ?_
            refine SCode.skip ?_
            exact ⟨(), h, sub_gen [0] rfl rfl ⟨zc rfl rfl, zc rfl rfl, zc rfl rfl, zc rfl rfl, trivial⟩ ⟨⟨_, rfl, ⟨ii rfl rfl, ii rfl rfl, ii rfl rfl, ii rfl rfl, trivial⟩⟩, trivial⟩⟩
          refine SCode.draw (s' := [(86, .c (.bool false)), (85, .c (.raw (.tuple #[]))), (84, .c (.raw (.tuple #[]))), (83, .c (.raw (.tuple #[]))), (82, .c (.raw (.tuple #[]))), (81, .c (.raw (.tuple #[]))), (80, .c (.raw (.tuple #[]))), (79, .c (.raw (.tuple #[]))), (78, .c (.raw (.tuple #[]))), (77, .c (.raw (.tuple #[]))), (76, .c (.raw (.tuple #[]))), (75, .c (.raw (.tuple #[]))), (74, .c (.raw (.tuple #[]))), (73, .c (.raw (.tuple #[]))), (72, .c (.raw (.tuple #[]))), (71, .c (.raw (.tuple #[]))), (70, .c (.bool false)), (69, .c (.bool false)), (68, .c (.raw (.tuple #[]))), (67, .c (.raw (.tuple #[]))), (66, .c (.raw (.tuple #[]))), (65, .c (.raw (.tuple #[]))), (64, .c (.raw (.tuple #[]))), (63, .c (.bool (sEq ((a1_grants.getD k_19.toNat dSGrant).User) ((a1_grants.getD a2_i.toNat dSGrant).User)))), (62, .c (.bool (sEq ((a1_grants.getD k_19.toNat dSGrant).User) ((a1_grants.getD a2_i.toNat dSGrant).User)))), (61, .c (.str ((a1_grants.getD a2_i.toNat dSGrant).User))), (60, .c (.ptr 0 0)), (59, .c (.str ((a1_grants.getD k_19.toNat dSGrant).User))), (58, .c (.ptr 1 0)), (1, .c (.vec a1_grants.length 4 (gL cSGrant dSGrant a1_grants))), (2, .c (.int .i64 a2_i)), (7, .c (.ptr 0 0)), (8, .c (.int .i64 k_19)), (9, .c (.ptr 1 0))]) mixed [[], [0], [], [2], [0, 1, 2, 3], [0, 1, 2, 3, 4], [0, 1, 2, 3, 4, 5], [0, 1, 2, 3, 4, 5, 6], [0, 1, 2, 3, 4, 5], [0, 1, 2, 3, 4, 5, 8], [0, 1, 2, 3, 4, 5, 6, 7, 8, 9], [0, 1, 2, 3, 4, 5, 6, 7, 8, 9, 10], [0, 1, 2, 3, 4, 5, 6, 7, 8, 9, 10, 11], [0, 1, 2, 3, 4, 5, 6, 7, 8, 9, 10, 11, 12], [0, 1, 2, 3, 4, 5, 6, 7, 8, 9, 10, 11, 12, 13], [0, 1, 2, 3, 4, 5, 6, 7, 8, 9, 10, 11, 12, 13, 14], [0, 1, 2, 3, 4, 5, 6, 7, 8, 9, 10, 11, 12], [0, 1, 2, 3, 4, 5, 6, 7, 8, 9, 10, 11, 12, 16], [0, 1, 2, 3, 4, 5, 6, 7, 8, 9, 10, 11, 12, 16, 17], [0, 1, 2, 3, 4, 5, 6, 7, 8, 9, 10, 11, 12, 13, 14, 15, 16, 17, 18], [0, 1, 2, 3, 4, 5, 6, 7, 8, 9, 10, 11, 12], [0, 1, 2, 3, 4, 5, 6, 7, 8, 9, 10, 11, 12, 20], [0, 1, 2, 3, 4, 5, 6, 7, 8, 9, 10, 11, 12, 20, 21], [0, 1, 2, 3, 4, 5, 6, 7, 8, 9, 10, 11, 12], [0, 1, 2, 3, 4, 5, 6, 7, 8, 9, 10, 11, 12, 23], [0, 1, 2, 3, 4, 5, 6, 7, 8, 9, 10, 11, 12, 20, 21, 22, 23, 24], [0, 1, 2, 3, 4, 5, 6, 7, 8, 9, 10, 11, 12, 20, 21, 22, 23, 24, 25], [0, 1, 2, 3, 4, 5, 6, 7, 8, 9, 10, 11, 12, 13, 14, 15, 16, 17, 18, 19, 20, 21, 22, 23, 24, 25, 26], [0, 1, 2, 3, 4, 5, 6, 7, 8, 9, 10, 11, 12, 13, 14, 15, 16, 17, 18, 19, 20, 21, 22, 23, 24, 25, 26, 27]] 29 0 rfl rfl ?_ ?_
          · refine QChain.run rfl (.plain rfl) rfl (q_field_ptr rfl rfl fd37_0) ?_
            refine QChain.run rfl (.plain rfl) rfl (q_load_ptr rfl rfl rfl rfl ty9) ?_
            refine QChain.run rfl (.plain rfl) rfl (q_field_ptr rfl rfl fd37_0) ?_
            refine QChain.run rfl (.plain rfl) rfl (q_load_ptr rfl rfl rfl rfl ty9) ?_
            refine QChain.run rfl (.plain rfl) rfl (q_eqlS rfl rfl rfl) ?_
            refine QChain.run rfl (.plain rfl) rfl (q_move rfl rfl) ?_
            refine QChain.skip rfl ⟨5, 63, true, rfl, rfl, (.inl (gF g34))⟩ rfl ?_
            refine QChain.skip rfl ⟨5, 63, true, rfl, rfl, (.inl (gF g34))⟩ rfl ?_
            refine QChain.skip rfl ⟨5, 63, true, rfl, rfl, (.inl (gF g34))⟩ rfl ?_
            refine QChain.skip rfl ⟨5, 63, true, rfl, rfl, (.inl (gF g34))⟩ rfl ?_
            refine QChain.skip rfl ⟨5, 63, true, rfl, rfl, (.inl (gF g34))⟩ rfl ?_
            refine QChain.run rfl (.plain rfl) rfl (q_pick_f rfl rfl g34 rfl) ?_
            refine QChain.run rfl (.plain rfl) rfl (q_move rfl rfl) ?_
            refine QChain.skip rfl ⟨12, 70, true, rfl, rfl, (.inl rfl)⟩ rfl ?_
            refine QChain.skip rfl ⟨12, 70, true, rfl, rfl, (.inl rfl)⟩ rfl ?_
            refine QChain.skip rfl ⟨12, 70, true, rfl, rfl, (.inl rfl)⟩ rfl ?_
            refine QChain.skip rfl ⟨12, 70, true, rfl, rfl, (.inl rfl)⟩ rfl ?_
            refine QChain.skip rfl ⟨12, 70, true, rfl, rfl, (.inl rfl)⟩ rfl ?_
            refine QChain.skip rfl ⟨12, 70, true, rfl, rfl, (.inl rfl)⟩ rfl ?_
            refine QChain.skip rfl ⟨12, 70, true, rfl, rfl, (.inl rfl)⟩ rfl ?_
            refine QChain.skip rfl ⟨12, 70, true, rfl, rfl, (.inl rfl)⟩ rfl ?_
            refine QChain.skip rfl ⟨12, 70, true, rfl, rfl, (.inl rfl)⟩ rfl ?_
            refine QChain.skip rfl ⟨12, 70, true, rfl, rfl, (.inl rfl)⟩ rfl ?_
            refine QChain.skip rfl ⟨12, 70, true, rfl, rfl, (.inl rfl)⟩ rfl ?_
            refine QChain.skip rfl ⟨12, 70, true, rfl, rfl, (.inl rfl)⟩ rfl ?_
            refine QChain.skip rfl ⟨12, 70, true, rfl, rfl, (.inl rfl)⟩ rfl ?_
            refine QChain.skip rfl ⟨12, 70, true, rfl, rfl, (.inl rfl)⟩ rfl ?_
            refine QChain.skip rfl ⟨12, 70, true, rfl, rfl, (.inl rfl)⟩ rfl ?_
            refine QChain.run rfl (.plain rfl) rfl (q_pick_f rfl rfl rfl rfl) ?_
            exact QChain.nil _ _
          refine (show SOps _ _ _ [] _ _ from ?_)
          refine SOps.sub (st' := ⟨[(1, .c (.vec a1_grants.length 4 (gL cSGrant dSGrant a1_grants))), (2, .c (.int .i64 a2_i)), (7, .c (.ptr 0 0)), (8, .c (.int .i64 k_19)), (86, .c (.bool false))], [.box [.str ((a1_grants.getD a2_i.toNat dSGrant).User), .str ((a1_grants.getD a2_i.toNat dSGrant).Role), .int .i64 ((a1_grants.getD a2_i.toNat dSGrant).Span_From), .int .i64 ((a1_grants.getD a2_i.toNat dSGrant).Span_To)]]⟩) (sub_gen [0] rfl rfl ⟨zc rfl rfl, zc rfl rfl, zc rfl rfl, zc rfl rfl, zc rfl rfl, trivial⟩ ⟨⟨_, rfl, ⟨ii rfl rfl, ii rfl rfl, ii rfl rfl, ii rfl rfl, trivial⟩⟩, trivial⟩) ?_
          refine SOps.nil ?_
          refine SCode.cond_f rfl rfl ?_
          refine SCode.skip ?_
          exact ⟨(), h, sub_gen [0] rfl rfl ⟨zc rfl rfl, zc rfl rfl, zc rfl rfl, zc rfl rfl, trivial⟩ ⟨⟨_, rfl, ⟨ii rfl rfl, ii rfl rfl, ii rfl rfl, ii rfl rfl, trivial⟩⟩, trivial⟩⟩
        rintro ⟨⟩ h
        show SCode _ _ _ ⟨[(1, .c (.vec a1_grants.length 4 (gL cSGrant dSGrant a1_grants))), (2, .c (.int .i64 a2_i)), (7, .c (.ptr 0 0)), (8, .c (.int .i64 k_19))], [.box [.str ((a1_grants.getD a2_i.toNat dSGrant).User), .str ((a1_grants.getD a2_i.toNat dSGrant).Role), .int .i64 ((a1_grants.getD a2_i.toNat dSGrant).Span_From), .int .i64 ((a1_grants.getD a2_i.toNat dSGrant).Span_To)]]⟩ _
        replace h : chargenetref39_grant_p32 k_19 (fun k_19 => chargenetref39_grant_l30 F a1_grants a2_i n_30 k_19) = some r := h
        unfold chargenetref39_grant_p32 at h
        refine SCode.region (show SOps _ _ _ [0, 1, 2] _ _ from ?_)
        refine SOps.q rfl (.plain rfl) rfl (q_move rfl rfl) ?_
        refine SOps.q rfl (.plain rfl) rfl (q_add rfl rfl rfl) ?_
        refine SOps.q rfl (.plain rfl) rfl (q_assign rfl rfl) ?_
        refine SOps.sub (st' := ⟨[(1, .c (.vec a1_grants.length 4 (gL cSGrant dSGrant a1_grants))), (2, .c (.int .i64 a2_i)), (7, .c (.ptr 0 0)), (8, .c (.int .i64 (IntKind.wrap .i64 (k_19 + 1))))], [.box [.str ((a1_grants.getD a2_i.toNat dSGrant).User), .str ((a1_grants.getD a2_i.toNat dSGrant).Role), .int .i64 ((a1_grants.getD a2_i.toNat dSGrant).Span_From), .int .i64 ((a1_grants.getD a2_i.toNat dSGrant).Span_To)]]⟩) (sub_gen [0] rfl rfl ⟨zc rfl rfl, zc rfl rfl, zc rfl rfl, zc rfl rfl, trivial⟩ ⟨⟨_, rfl, ⟨ii rfl rfl, ii rfl rfl, ii rfl rfl, ii rfl rfl, trivial⟩⟩, trivial⟩) ?_
        refine SOps.nil ?_
        exact ⟨(n_30, IntKind.wrap .i64 (k_19 + 1)), h, Nat.lt_succ_self n_30, sub_gen [0] rfl rfl ⟨zc rfl rfl, zc rfl rfl, zc rfl rfl, zc rfl rfl, trivial⟩ ⟨⟨_, rfl, ⟨ii rfl rfl, ii rfl rfl, ii rfl rfl, ii rfl rfl, trivial⟩⟩, trivial⟩⟩
      refine SCode.cond_f rfl g31 ?_
      refine SCode.exit ?_
      exact ⟨(), h, sub_gen [] rfl rfl trivial trivial⟩
  rintro ⟨⟩ h
  show SCode _ _ _ ⟨[], []⟩ _
  replace h : chargenetref39_grant_p8 = some r := h
  unfold chargenetref39_grant_p8 at h
  refine SCode.seq ?_
  refine SCode.region (show SOps _ _ _ [0] _ _ from ?_)
  refine SOps.q rfl (.plain rfl) rfl (q_assign rfl rfl) ?_
  refine SOps.sub (st' := ⟨[(6, .c (.int .i64 0))], []⟩) (sub_gen [] rfl rfl ⟨zc rfl rfl, trivial⟩ trivial) ?_
  refine SOps.nil ?_
  refine SCode.ret ?_
  obtain rfl := Option.some.inj h
  exact ⟨⟨[(6, .c (.int .i64 0))], []⟩, _, sub_gen [] rfl rfl ⟨zc rfl rfl, trivial⟩ trivial, resA1 (v := .c (.int .i64 0)) rfl rfl, rfl⟩
set_option maxRecDepth 100000 in
set_option maxHeartbeats 8000000 in
theorem chargenetref39_Valid_ok (F : Nat) (a0_roles : List SRole) (a1_grants : List SGrant) (r : Int) (h : chargenetref39_Valid F a0_roles a1_grants = some r) :
    SFun Try.prog 13 [] [.c (.vec a0_roles.length 4 (gL cSRole dSRole a0_roles)), .c (.vec a1_grants.length 4 (gL cSGrant dSGrant a1_grants))] (fun x _ => x = .c (.int .i64 r)) := by
  refine SFun.of (n := 40) Try.func13 rfl rfl rfl ?_
  unfold chargenetref39_Valid at h
  show SCode _ _ _ ⟨[(0, .c (.vec a0_roles.length 4 (gL cSRole dSRole a0_roles))), (1, .c (.vec a1_grants.length 4 (gL cSGrant dSGrant a1_grants)))], []⟩ _
  refine SCode.seq ?_
  refine SCode.region (show SOps _ _ _ [0] _ _ from ?_)
  refine SOps.q rfl (.plain rfl) rfl (q_assign rfl rfl) ?_
  refine SOps.sub (st' := ⟨[(0, .c (.vec a0_roles.length 4 (gL cSRole dSRole a0_roles))), (1, .c (.vec a1_grants.length 4 (gL cSGrant dSGrant a1_grants)))], []⟩) (sub_gen [] rfl rfl ⟨zc rfl rfl, zc rfl rfl, trivial⟩ trivial) ?_
  refine SOps.nil ?_
  refine SCode.seq ?_
  refine SCode.seq ?_
  refine SCode.region (show SOps _ _ _ [0, 1, 2] _ _ from ?_)
  refine SOps.q rfl (.plain rfl) rfl (q_move rfl rfl) ?_
  refine SOps.q rfl (.plain rfl) rfl (q_len_vec rfl rfl sl22) ?_
  refine SOps.q rfl (.plain rfl) rfl (q_gtr rfl rfl rfl) ?_
  refine SOps.sub (st' := ⟨[(0, .c (.vec a0_roles.length 4 (gL cSRole dSRole a0_roles))), (1, .c (.vec a1_grants.length 4 (gL cSGrant dSGrant a1_grants))), (11, .c (.bool (decide (32 < ((a0_roles).length : Int)))))], []⟩) (sub_gen [] rfl rfl ⟨zc rfl rfl, zc rfl rfl, zc rfl rfl, trivial⟩ trivial) ?_
  refine SOps.nil ?_
  rcases cond_out h with ⟨g1, h⟩ | ⟨g1, h⟩
  · refine SCode.cond_t rfl g1 ?_
    refine SCode.seq ?_
    refine SCode.region (show SOps _ _ _ [0] _ _ from ?_)
    refine SOps.q rfl (.plain rfl) rfl (q_assign rfl rfl) ?_
    refine SOps.sub (st' := ⟨[(4, .c (.int .i64 3))], []⟩) (sub_gen [] rfl rfl ⟨zc rfl rfl, trivial⟩ trivial) ?_
    refine SOps.nil ?_
    refine SCode.ret ?_
    obtain rfl := Option.some.inj h
    exact ⟨⟨[(4, .c (.int .i64 3))], []⟩, _, sub_gen [] rfl rfl ⟨zc rfl rfl, trivial⟩ trivial, resA1 (v := .c (.int .i64 3)) rfl rfl, rfl⟩
  refine SCode.cond_f rfl g1 ?_
  refine SCode.skip ?_
  refine SCode.join (σ := Unit) (S := fun s => ⟨[(0, .c (.vec a0_roles.length 4 (gL cSRole dSRole a0_roles))), (1, .c (.vec a1_grants.length 4 (gL cSGrant dSGrant a1_grants)))], []⟩) (g := fun s => chargenetref39_Valid_p18 F a0_roles a1_grants = some r) ?_ ?_
  rotate_left
  · refine SCode.seq ?_
    refine SCode.region (show SOps _ _ _ [0] _ _ from ?_)
    refine SOps.q rfl (.plain rfl) rfl (q_assign rfl rfl) ?_
    refine SOps.sub (st' := ⟨[(0, .c (.vec a0_roles.length 4 (gL cSRole dSRole a0_roles))), (1, .c (.vec a1_grants.length 4 (gL cSGrant dSGrant a1_grants))), (5, .c (.int .i64 0))], []⟩) (sub_gen [] rfl rfl ⟨zc rfl rfl, zc rfl rfl, zc rfl rfl, trivial⟩ trivial) ?_
    refine SOps.nil ?_
    refine SCode.block ?_
    refine SCode.sub (st' := ⟨[(0, .c (.vec a0_roles.length 4 (gL cSRole dSRole a0_roles))), (1, .c (.vec a1_grants.length 4 (gL cSGrant dSGrant a1_grants))), (5, .c (.int .i64 0))], []⟩) (sub_gen [] rfl rfl ⟨zc rfl rfl, zc rfl rfl, zc rfl rfl, trivial⟩ trivial) ?_
    refine (SCode.loop (σ := Nat × Int) (S := fun s => ⟨[(0, .c (.vec a0_roles.length 4 (gL cSRole dSRole a0_roles))), (1, .c (.vec a1_grants.length 4 (gL cSGrant dSGrant a1_grants))), (5, .c (.int .i64 s.2))], []⟩) (g := fun s => chargenetref39_Valid_l28 F a0_roles a1_grants s.1 s.2 = some r) (μ := fun s => s.1) (F, 0) h ?_)
    rintro ⟨n_28, i_23⟩ h
    replace h : chargenetref39_Valid_l28 F a0_roles a1_grants n_28 i_23 = some r := h
    show SCode _ _ _ ⟨[(0, .c (.vec a0_roles.length 4 (gL cSRole dSRole a0_roles))), (1, .c (.vec a1_grants.length 4 (gL cSGrant dSGrant a1_grants))), (5, .c (.int .i64 i_23))], []⟩ _
    cases n_28 with
    | zero => cases h
    | succ n_28 =>
      replace h : chargenetref39_Valid_b28 F a0_roles a1_grants (fun i_23 => chargenetref39_Valid_l28 F a0_roles a1_grants n_28 i_23) i_23 = some r := h
      unfold chargenetref39_Valid_b28 at h
      refine SCode.seq ?_
      refine SCode.seq ?_
      refine SCode.region (show SOps _ _ _ [0, 1, 2, 3] _ _ from ?_)
      refine SOps.q rfl (.plain rfl) rfl (q_move rfl rfl) ?_
      refine SOps.q rfl (.plain rfl) rfl (q_move rfl rfl) ?_
      refine SOps.q rfl (.plain rfl) rfl (q_len_vec rfl rfl sl22) ?_
      refine SOps.q rfl (.plain rfl) rfl (q_lss rfl rfl rfl) ?_
      refine SOps.sub (st' := ⟨[(0, .c (.vec a0_roles.length 4 (gL cSRole dSRole a0_roles))), (1, .c (.vec a1_grants.length 4 (gL cSGrant dSGrant a1_grants))), (5, .c (.int .i64 i_23)), (15, .c (.bool (decide (i_23 < ((a0_roles).length : Int)))))], []⟩) (sub_gen [] rfl rfl ⟨zc rfl rfl, zc rfl rfl, zc rfl rfl, zc rfl rfl, trivial⟩ trivial) ?_
      refine SOps.nil ?_
      rcases cond_out h with ⟨g29, h⟩ | ⟨g29, h⟩
      · refine SCode.cond_t rfl g29 ?_
        refine SCode.skip ?_
        refine SCode.seq ?_
        refine SCode.block ?_
        refine SCode.seq ?_
        obtain ⟨c_30, g31, h⟩ := bind_out h
        try dsimp only at h
        refine SCode.region (show SOps _ _ _ [0, 1, 2, 3] _ _ from ?_)
        refine SOps.q rfl (.plain rfl) rfl (q_move rfl rfl) ?_
        refine SOps.q rfl (.plain rfl) rfl (q_move rfl rfl) ?_
        refine SOps.q rfl (.plain rfl) rfl (q_call (chargenetref39_role_ok F a0_roles i_23 c_30 g31) [] rfl fn28 ⟨⟨_, rfl, .inl ⟨rfl, rfl⟩⟩, ⟨_, rfl, .inl ⟨rfl, rfl⟩⟩, trivial⟩ (.inl rfl)) ?_
        refine SOps.q rfl (.plain rfl) rfl (q_assign rfl rfl) ?_
        refine SOps.sub (st' := ⟨[(0, .c (.vec a0_roles.length 4 (gL cSRole dSRole a0_roles))), (1, .c (.vec a1_grants.length 4 (gL cSGrant dSGrant a1_grants))), (5, .c (.int .i64 i_23)), (6, .c (.int .i64 c_30))], []⟩) (sub_gen [] rfl rfl ⟨zc rfl rfl, zc rfl rfl, zc rfl rfl, zc rfl rfl, trivial⟩ trivial) ?_
        refine SOps.nil ?_
        refine SCode.seq ?_
        refine SCode.region (show SOps _ _ _ [0, 1] _ _ from ?_)
        refine SOps.q rfl (.plain rfl) rfl (q_move rfl rfl) ?_
        refine SOps.q rfl (.plain rfl) rfl (q_neq rfl rfl rfl) ?_
        refine SOps.sub (st' := ⟨[(0, .c (.vec a0_roles.length 4 (gL cSRole dSRole a0_roles))), (1, .c (.vec a1_grants.length 4 (gL cSGrant dSGrant a1_grants))), (5, .c (.int .i64 i_23)), (6, .c (.int .i64 c_30)), (22, .c (.bool ((!decide (c_30 = 0)))))], []⟩) (sub_gen [] rfl rfl ⟨zc rfl rfl, zc rfl rfl, zc rfl rfl, zc rfl rfl, zc rfl rfl, trivial⟩ trivial) ?_
        refine SOps.nil ?_
        rcases cond_out h with ⟨g32, h⟩ | ⟨g32, h⟩
        · refine SCode.cond_t rfl g32 ?_
          refine SCode.seq ?_
          refine SCode.region (show SOps _ _ _ [0, 1] _ _ from ?_)
          refine SOps.q rfl (.plain rfl) rfl (q_move rfl rfl) ?_
          refine SOps.q rfl (.plain rfl) rfl (q_assign rfl rfl) ?_
          refine SOps.sub (st' := ⟨[(4, .c (.int .i64 c_30))], []⟩) (sub_gen [] rfl rfl ⟨zc rfl rfl, trivial⟩ trivial) ?_
          refine SOps.nil ?_
          refine SCode.ret ?_
          obtain rfl := Option.some.inj h
          exact ⟨⟨[(4, .c (.int .i64 c_30))], []⟩, _, sub_gen [] rfl rfl ⟨zc rfl rfl, trivial⟩ trivial, resA1 (v := .c (.int .i64 c_30)) rfl rfl, rfl⟩
        refine SCode.cond_f rfl g32 ?_
        refine SCode.skip ?_
        refine SCode.region (show SOps _ _ _ [0, 1, 2] _ _ from ?_)
        refine SOps.q rfl (.plain rfl) rfl (q_move rfl rfl) ?_
        refine SOps.q rfl (.plain rfl) rfl (q_add rfl rfl rfl) ?_
        refine SOps.q rfl (.plain rfl) rfl (q_assign rfl rfl) ?_
        refine SOps.sub (st' := ⟨[(0, .c (.vec a0_roles.length 4 (gL cSRole dSRole a0_roles))), (1, .c (.vec a1_grants.length 4 (gL cSGrant dSGrant a1_grants))), (5, .c (.int .i64 (IntKind.wrap .i64 (i_23 + 1))))], []⟩) (sub_gen [] rfl rfl ⟨zc rfl rfl, zc rfl rfl, zc rfl rfl, trivial⟩ trivial) ?_
        refine SOps.nil ?_
        exact ⟨(n_28, IntKind.wrap .i64 (i_23 + 1)), h, Nat.lt_succ_self n_28, sub_gen [] rfl rfl ⟨zc rfl rfl, zc rfl rfl, zc rfl rfl, trivial⟩ trivial⟩
      refine SCode.cond_f rfl g29 ?_
      refine SCode.exit ?_
      exact ⟨(), h, sub_gen [] rfl rfl ⟨zc rfl rfl, zc rfl rfl, trivial⟩ trivial⟩
  rintro ⟨⟩ h
  show SCode _ _ _ ⟨[(0, .c (.vec a0_roles.length 4 (gL cSRole dSRole a0_roles))), (1, .c (.vec a1_grants.length 4 (gL cSGrant dSGrant a1_grants)))], []⟩ _
  replace h : chargenetref39_Valid_p18 F a0_roles a1_grants = some r := h
  unfold chargenetref39_Valid_p18 at h
  refine SCode.seq ?_
  refine SCode.seq ?_
  refine SCode.region (show SOps _ _ _ [0, 1, 2] _ _ from ?_)
  refine SOps.q rfl (.plain rfl) rfl (q_move rfl rfl) ?_
  refine SOps.q rfl (.plain rfl) rfl (q_len_vec rfl rfl sl23) ?_
  refine SOps.q rfl (.plain rfl) rfl (q_gtr rfl rfl rfl) ?_
  refine SOps.sub (st' := ⟨[(0, .c (.vec a0_roles.length 4 (gL cSRole dSRole a0_roles))), (1, .c (.vec a1_grants.length 4 (gL cSGrant dSGrant a1_grants))), (26, .c (.bool (decide (256 < ((a1_grants).length : Int)))))], []⟩) (sub_gen [] rfl rfl ⟨zc rfl rfl, zc rfl rfl, zc rfl rfl, trivial⟩ trivial) ?_
  refine SOps.nil ?_
  rcases cond_out h with ⟨g2, h⟩ | ⟨g2, h⟩
  · refine SCode.cond_t rfl g2 ?_
    refine SCode.seq ?_
    refine SCode.region (show SOps _ _ _ [0] _ _ from ?_)
    refine SOps.q rfl (.plain rfl) rfl (q_assign rfl rfl) ?_
    refine SOps.sub (st' := ⟨[(4, .c (.int .i64 3))], []⟩) (sub_gen [] rfl rfl ⟨zc rfl rfl, trivial⟩ trivial) ?_
    refine SOps.nil ?_
    refine SCode.ret ?_
    obtain rfl := Option.some.inj h
    exact ⟨⟨[(4, .c (.int .i64 3))], []⟩, _, sub_gen [] rfl rfl ⟨zc rfl rfl, trivial⟩ trivial, resA1 (v := .c (.int .i64 3)) rfl rfl, rfl⟩
  refine SCode.cond_f rfl g2 ?_
  refine SCode.skip ?_
  refine SCode.join (σ := Unit) (S := fun s => ⟨[], []⟩) (g := fun s => chargenetref39_Valid_p3 = some r) ?_ ?_
  rotate_left
  · refine SCode.seq ?_
    refine SCode.region (show SOps _ _ _ [0] _ _ from ?_)
    refine SOps.q rfl (.plain rfl) rfl (q_assign rfl rfl) ?_
    refine SOps.sub (st' := ⟨[(0, .c (.vec a0_roles.length 4 (gL cSRole dSRole a0_roles))), (1, .c (.vec a1_grants.length 4 (gL cSGrant dSGrant a1_grants))), (7, .c (.int .i64 0))], []⟩) (sub_gen [] rfl rfl ⟨zc rfl rfl, zc rfl rfl, zc rfl rfl, trivial⟩ trivial) ?_
    refine SOps.nil ?_
    refine SCode.block ?_
    refine SCode.sub (st' := ⟨[(0, .c (.vec a0_roles.length 4 (gL cSRole dSRole a0_roles))), (1, .c (.vec a1_grants.length 4 (gL cSGrant dSGrant a1_grants))), (7, .c (.int .i64 0))], []⟩) (sub_gen [] rfl rfl ⟨zc rfl rfl, zc rfl rfl, zc rfl rfl, trivial⟩ trivial) ?_
    refine (SCode.loop (σ := Nat × Int) (S := fun s => ⟨[(0, .c (.vec a0_roles.length 4 (gL cSRole dSRole a0_roles))), (1, .c (.vec a1_grants.length 4 (gL cSGrant dSGrant a1_grants))), (7, .c (.int .i64 s.2))], []⟩) (g := fun s => chargenetref39_Valid_l13 F a0_roles a1_grants s.1 s.2 = some r) (μ := fun s => s.1) (F, 0) h ?_)
    rintro ⟨n_13, i_8⟩ h
    replace h : chargenetref39_Valid_l13 F a0_roles a1_grants n_13 i_8 = some r := h
    show SCode _ _ _ ⟨[(0, .c (.vec a0_roles.length 4 (gL cSRole dSRole a0_roles))), (1, .c (.vec a1_grants.length 4 (gL cSGrant dSGrant a1_grants))), (7, .c (.int .i64 i_8))], []⟩ _
    cases n_13 with
    | zero => cases h
    | succ n_13 =>
      replace h : chargenetref39_Valid_b13 F a0_roles a1_grants (fun i_8 => chargenetref39_Valid_l13 F a0_roles a1_grants n_13 i_8) i_8 = some r := h
      unfold chargenetref39_Valid_b13 at h
      refine SCode.seq ?_
      refine SCode.seq ?_
      refine SCode.region (show SOps _ _ _ [0, 1, 2, 3] _ _ from ?_)
      refine SOps.q rfl (.plain rfl) rfl (q_move rfl rfl) ?_
      refine SOps.q rfl (.plain rfl) rfl (q_move rfl rfl) ?_
      refine SOps.q rfl (.plain rfl) rfl (q_len_vec rfl rfl sl23) ?_
      refine SOps.q rfl (.plain rfl) rfl (q_lss rfl rfl rfl) ?_
      refine SOps.sub (st' := ⟨[(0, .c (.vec a0_roles.length 4 (gL cSRole dSRole a0_roles))), (1, .c (.vec a1_grants.length 4 (gL cSGrant dSGrant a1_grants))), (7, .c (.int .i64 i_8)), (30, .c (.bool (decide (i_8 < ((a1_grants).length : Int)))))], []⟩) (sub_gen [] rfl rfl ⟨zc rfl rfl, zc rfl rfl, zc rfl rfl, zc rfl rfl, trivial⟩ trivial) ?_
      refine SOps.nil ?_
      rcases cond_out h with ⟨g14, h⟩ | ⟨g14, h⟩
      · refine SCode.cond_t rfl g14 ?_
        refine SCode.skip ?_
        refine SCode.seq ?_
        refine SCode.block ?_
        refine SCode.seq ?_
        obtain ⟨c_15, g16, h⟩ := bind_out h
        try dsimp only at h
        refine SCode.region (show SOps _ _ _ [0, 1, 2, 3, 4] _ _ from ?_)
        refine SOps.q rfl (.plain rfl) rfl (q_move rfl rfl) ?_
        refine SOps.q rfl (.plain rfl) rfl (q_move rfl rfl) ?_
        refine SOps.q rfl (.plain rfl) rfl (q_move rfl rfl) ?_
        refine SOps.q rfl (.plain rfl) rfl (q_call (chargenetref39_grant_ok F a0_roles a1_grants i_8 c_15 g16) [] rfl fn29 ⟨⟨_, rfl, .inl ⟨rfl, rfl⟩⟩, ⟨_, rfl, .inl ⟨rfl, rfl⟩⟩, ⟨_, rfl, .inl ⟨rfl, rfl⟩⟩, trivial⟩ (.inl rfl)) ?_
        refine SOps.q rfl (.plain rfl) rfl (q_assign rfl rfl) ?_
        refine SOps.sub (st' := ⟨[(0, .c (.vec a0_roles.length 4 (gL cSRole dSRole a0_roles))), (1, .c (.vec a1_grants.length 4 (gL cSGrant dSGrant a1_grants))), (7, .c (.int .i64 i_8)), (8, .c (.int .i64 c_15))], []⟩) (sub_gen [] rfl rfl ⟨zc rfl rfl, zc rfl rfl, zc rfl rfl, zc rfl rfl, trivial⟩ trivial) ?_
        refine SOps.nil ?_
        refine SCode.seq ?_
        refine SCode.region (show SOps _ _ _ [0, 1] _ _ from ?_)
        refine SOps.q rfl (.plain rfl) rfl (q_move rfl rfl) ?_
        refine SOps.q rfl (.plain rfl) rfl (q_neq rfl rfl rfl) ?_
        refine SOps.sub (st' := ⟨[(0, .c (.vec a0_roles.length 4 (gL cSRole dSRole a0_roles))), (1, .c (.vec a1_grants.length 4 (gL cSGrant dSGrant a1_grants))), (7, .c (.int .i64 i_8)), (8, .c (.int .i64 c_15)), (38, .c (.bool ((!decide (c_15 = 0)))))], []⟩) (sub_gen [] rfl rfl ⟨zc rfl rfl, zc rfl rfl, zc rfl rfl, zc rfl rfl, zc rfl rfl, trivial⟩ trivial) ?_
        refine SOps.nil ?_
        rcases cond_out h with ⟨g17, h⟩ | ⟨g17, h⟩
        · refine SCode.cond_t rfl g17 ?_
          refine SCode.seq ?_
          refine SCode.region (show SOps _ _ _ [0, 1] _ _ from ?_)
          refine SOps.q rfl (.plain rfl) rfl (q_move rfl rfl) ?_
          refine SOps.q rfl (.plain rfl) rfl (q_assign rfl rfl) ?_
          refine SOps.sub (st' := ⟨[(4, .c (.int .i64 c_15))], []⟩) (sub_gen [] rfl rfl ⟨zc rfl rfl, trivial⟩ trivial) ?_
          refine SOps.nil ?_
          refine SCode.ret ?_
          obtain rfl := Option.some.inj h
          exact ⟨⟨[(4, .c (.int .i64 c_15))], []⟩, _, sub_gen [] rfl rfl ⟨zc rfl rfl, trivial⟩ trivial, resA1 (v := .c (.int .i64 c_15)) rfl rfl, rfl⟩
        refine SCode.cond_f rfl g17 ?_
        refine SCode.skip ?_
        refine SCode.region (show SOps _ _ _ [0, 1, 2] _ _ from ?_)
        refine SOps.q rfl (.plain rfl) rfl (q_move rfl rfl) ?_
        refine SOps.q rfl (.plain rfl) rfl (q_add rfl rfl rfl) ?_
        refine SOps.q rfl (.plain rfl) rfl (q_assign rfl rfl) ?_
        refine SOps.sub (st' := ⟨[(0, .c (.vec a0_roles.length 4 (gL cSRole dSRole a0_roles))), (1, .c (.vec a1_grants.length 4 (gL cSGrant dSGrant a1_grants))), (7, .c (.int .i64 (IntKind.wrap .i64 (i_8 + 1))))], []⟩) (sub_gen [] rfl rfl ⟨zc rfl rfl, zc rfl rfl, zc rfl rfl, trivial⟩ trivial) ?_
        refine SOps.nil ?_
        exact ⟨(n_13, IntKind.wrap .i64 (i_8 + 1)), h, Nat.lt_succ_self n_13, sub_gen [] rfl rfl ⟨zc rfl rfl, zc rfl rfl, zc rfl rfl, trivial⟩ trivial⟩
      refine SCode.cond_f rfl g14 ?_
      refine SCode.exit ?_
      exact ⟨(), h, sub_gen [] rfl rfl trivial trivial⟩
  rintro ⟨⟩ h
  show SCode _ _ _ ⟨[], []⟩ _
  replace h : chargenetref39_Valid_p3 = some r := h
  unfold chargenetref39_Valid_p3 at h
  refine SCode.seq ?_
  refine SCode.region (show SOps _ _ _ [0] _ _ from ?_)
  refine SOps.q rfl (.plain rfl) rfl (q_assign rfl rfl) ?_
  refine SOps.sub (st' := ⟨[(4, .c (.int .i64 0))], []⟩) (sub_gen [] rfl rfl ⟨zc rfl rfl, trivial⟩ trivial) ?_
  refine SOps.nil ?_
  refine SCode.ret ?_
  obtain rfl := Option.some.inj h
  exact ⟨⟨[(4, .c (.int .i64 0))], []⟩, _, sub_gen [] rfl rfl ⟨zc rfl rfl, trivial⟩ trivial, resA1 (v := .c (.int .i64 0)) rfl rfl, rfl⟩
end Go.Proofs.Ytggfgdohbeoabaa.W
