/- Written by a program of ours (wip/eng/gen.py): the functions compute their models. -/
import Derived.Test.YthpblkclpfmbeaaFacts
import Derived.Test.YthpblkclpfmbeaaShelf
import Derived.Test.YthpblkclpfmbeaaIter
namespace Go.Proofs.Ythpblkclpfmbeaa.W
open Go Go.Proofs Go.Proofs.Ythpblkclpfmbeaa.E Go.Proofs.Ythpblkclpfmbeaa.M
set_option linter.unusedVariables false
set_option maxRecDepth 100000 in
set_option maxHeartbeats 8000000 in
theorem slices_Clone_int_int_ok (F : Nat) (a0_s : List Int) (r : List Int) (h : slices_Clone_int_int F a0_s = some r) :
    SFun Try.prog 18 [] [.c (vI a0_s)] (fun x _ => x = .c (vI r)) := by
  refine SFun.of (n := 8) Try.func18 rfl rfl rfl ?_
  unfold slices_Clone_int_int at h
  show SCode _ _ _ ⟨[(0, .c (vI a0_s))], []⟩ _
  refine SCode.seq ?_
  refine SCode.region (show SOps _ _ _ [0] _ _ from ?_)
  refine SOps.q rfl (.plain rfl) rfl (q_assign rfl rfl) ?_
  refine SOps.sub (st' := ⟨[(0, .c (vI a0_s))], []⟩) (sub_gen [] rfl rfl ⟨zc rfl rfl, trivial⟩ trivial) ?_
  refine SOps.nil ?_
  refine SCode.seq ?_
  refine SCode.seq ?_
  refine SCode.region (show SOps _ _ _ [0, 1] _ _ from ?_)
  refine SOps.q rfl (.plain rfl) rfl (q_move rfl rfl) ?_
  refine SOps.nilcmp rfl (.plain rfl) rfl rfl rfl rfl rfl us22 (by decide) (fun hl => ?_) ?_
  · obtain rfl := List.length_eq_zero_iff.1 hl
    obtain ⟨_, h⟩ := guard_out h
    refine SOps.sub (st' := ⟨[(0, .c (vI (([] : List Int)))), (4, .c (.bool true))], []⟩) (sub_gen [] rfl rfl ⟨zc rfl rfl, zc rfl rfl, trivial⟩ trivial) ?_
    refine SOps.nil ?_
    refine SCode.cond_t rfl rfl ?_
    refine SCode.seq ?_
    refine SCode.region (show SOps _ _ _ [0] _ _ from ?_)
    refine SOps.q rfl (.plain rfl) rfl (q_assign rfl rfl) ?_
    refine SOps.sub (st' := ⟨[(2, .c (.raw (.slice none 0 0)))], []⟩) (sub_gen [] rfl rfl ⟨zc rfl rfl, trivial⟩ trivial) ?_
    refine SOps.nil ?_
    refine SCode.ret ?_
    obtain rfl := Option.some.inj h
    exact ⟨⟨[(2, .c (vI (([] : List Int))))], []⟩, _, sub_gen [] rfl rfl ⟨⟨_, rfl, .inr (.inr (.inr (.inl ⟨_, _, rfl, rfl⟩)))⟩, trivial⟩ trivial, resA1 (v := .c (vI (([] : List Int)))) rfl rfl, rfl⟩
  refine SOps.sub (st' := ⟨[(0, .c (vI a0_s)), (4, .c (.bool false))], []⟩) (sub_gen [] rfl rfl ⟨zc rfl rfl, zc rfl rfl, trivial⟩ trivial) ?_
  refine SOps.nil ?_
  refine SCode.cond_f rfl rfl ?_
  refine SCode.skip ?_
  refine SCode.seq ?_
  obtain ⟨g1, h⟩ := guard_out h
  refine SCode.region (show SOps _ _ _ [0, 1, 2, 3] _ _ from ?_)
  refine SOps.e rfl (.plain rfl) (e_bslice0L (α := Int) (c := (cInt .i64)) (d0 := 0) rfl rfl rfl rfl sl22) ?_
  refine SOps.q rfl (.plain rfl) rfl (q_move rfl rfl) ?_
  refine SOps.e rfl (.plain rfl) (e_appendL (c := (cInt .i64)) (d0 := 0) (l := ([] : List Int)) (l2 := a0_s) rfl rfl rfl rfl rfl rfl (.inl rfl) sl22 z3 rfl rfl oneInt g1.1 g1.2) ?_
  refine SOps.q rfl (.plain rfl) rfl (q_assign rfl rfl) ?_
  refine SOps.sub (st' := ⟨[(2, .c (.own 0 ((([] : List Int)) ++ a0_s).length))], [aI 3 ((([] : List Int)) ++ a0_s)]⟩) (sub_gen [1] rfl rfl ⟨zc rfl rfl, trivial⟩ ⟨oa rfl, trivial⟩) ?_
  refine SOps.nil ?_
  refine SCode.ret ?_
  obtain rfl := Option.some.inj h
  exact ⟨⟨[(2, .c (vI ((([] : List Int)) ++ a0_s)))], []⟩, _, sub_gen [] rfl rfl ⟨⟨_, rfl, .inr (.inl ⟨_, _, _, _, _, _, _, rfl, rfl, rfl, Nat.le_refl _, fun _ _ _ _ => rfl, by decide⟩)⟩, trivial⟩ trivial, resA1 (v := .c (vI ((([] : List Int)) ++ a0_s))) rfl rfl, rfl⟩
set_option maxRecDepth 100000 in
set_option maxHeartbeats 8000000 in
theorem fair_check_ok (F : Nat) (a0_caps : List Int) (r : Int) (h : fair_check F a0_caps = some r) :
    SFun Try.prog 22 [] [.c (vI a0_caps)] (fun x _ => x = .c (.int .i64 r)) := by
  refine SFun.of (n := 21) Try.func22 rfl rfl rfl ?_
  unfold fair_check at h
  show SCode _ _ _ ⟨[(0, .c (vI a0_caps))], []⟩ _
  refine SCode.seq ?_
  refine SCode.region (show SOps _ _ _ [0] _ _ from ?_)
  refine SOps.q rfl (.plain rfl) rfl (q_assign rfl rfl) ?_
  refine SOps.sub (st' := ⟨[(0, .c (vI a0_caps))], []⟩) (sub_gen [] rfl rfl ⟨zc rfl rfl, trivial⟩ trivial) ?_
  refine SOps.nil ?_
  refine SCode.seq ?_
  refine SCode.seq ?_
  refine SCode.region (show SOps _ _ _ [0, 1, 2] _ _ from ?_)
  refine SOps.q rfl (.plain rfl) rfl (q_move rfl rfl) ?_
  refine SOps.q rfl (.plain rfl) rfl (q_len_vec rfl rfl sl22) ?_
  refine SOps.q rfl (.plain rfl) rfl (q_gtr rfl rfl rfl) ?_
  refine SOps.sub (st' := ⟨[(0, .c (vI a0_caps)), (7, .c (.bool (decide (64 < ((a0_caps).length : Int)))))], []⟩) (sub_gen [] rfl rfl ⟨zc rfl rfl, zc rfl rfl, trivial⟩ trivial) ?_
  refine SOps.nil ?_
  rcases cond_out h with ⟨g1, h⟩ | ⟨g1, h⟩
  · refine SCode.cond_t rfl g1 ?_
    refine SCode.seq ?_
    refine SCode.region (show SOps _ _ _ [0] _ _ from ?_)
    refine SOps.q rfl (.plain rfl) rfl (q_assign rfl rfl) ?_
    refine SOps.sub (st' := ⟨[(2, .c (.int .i64 3))], []⟩) (sub_gen [] rfl rfl ⟨zc rfl rfl, trivial⟩ trivial) ?_
    refine SOps.nil ?_
    refine SCode.ret ?_
    obtain rfl := Option.some.inj h
    exact ⟨⟨[(2, .c (.int .i64 3))], []⟩, _, sub_gen [] rfl rfl ⟨zc rfl rfl, trivial⟩ trivial, resA1 (v := .c (.int .i64 3)) rfl rfl, rfl⟩
  refine SCode.cond_f rfl g1 ?_
  refine SCode.skip ?_
  refine SCode.join (σ := Unit) (S := fun s => ⟨[], []⟩) (g := fun s => fair_check_p2 = some r) ?_ ?_
  rotate_left
  · refine SCode.seq ?_
    refine SCode.region (show SOps _ _ _ [0, 1, 2] _ _ from ?_)
    refine SOps.q rfl (.plain rfl) rfl (q_move rfl rfl) ?_
    refine SOps.q rfl (.plain rfl) rfl (q_len_vec rfl rfl sl22) ?_
    refine SOps.q rfl (.plain rfl) rfl (q_move rfl rfl) ?_
    refine SOps.sub (st' := ⟨[(8, .c (vI a0_caps)), (9, .c (.int .i64 (((a0_caps).length : Int)))), (10, .c (.int .i64 0))], []⟩) (sub_gen [] rfl rfl ⟨zc rfl rfl, zc rfl rfl, zc rfl rfl, trivial⟩ trivial) ?_
    refine SOps.nil ?_
    refine SCode.block ?_
    refine SCode.sub (st' := ⟨[(8, .c (vI a0_caps)), (9, .c (.int .i64 (((a0_caps).length : Int)))), (10, .c (.int .i64 0))], []⟩) (sub_gen [] rfl rfl ⟨zc rfl rfl, zc rfl rfl, zc rfl rfl, trivial⟩ trivial) ?_
    refine (SCode.loop (σ := Nat × Int) (S := fun s => ⟨[(8, .c (vI a0_caps)), (9, .c (.int .i64 (((a0_caps).length : Int)))), (10, .c (.int .i64 s.2))], []⟩) (g := fun s => fair_check_l12 a0_caps s.1 s.2 = some r) (μ := fun s => s.1) (F, 0) h ?_)
    rintro ⟨n_12, t10_7⟩ h
    replace h : fair_check_l12 a0_caps n_12 t10_7 = some r := h
    show SCode _ _ _ ⟨[(8, .c (vI a0_caps)), (9, .c (.int .i64 (((a0_caps).length : Int)))), (10, .c (.int .i64 t10_7))], []⟩ _
    cases n_12 with
    | zero => cases h
    | succ n_12 =>
      replace h : fair_check_b12 a0_caps (fun t10_7 => fair_check_l12 a0_caps n_12 t10_7) t10_7 = some r := h
      unfold fair_check_b12 at h
      refine SCode.seq ?_
      refine SCode.region (show SOps _ _ _ [0] _ _ from ?_)
      refine SOps.q rfl (.plain rfl) rfl (q_lss rfl rfl rfl) ?_
      refine SOps.sub (st' := ⟨[(8, .c (vI a0_caps)), (9, .c (.int .i64 (((a0_caps).length : Int)))), (10, .c (.int .i64 t10_7)), (11, .c (.bool (decide (t10_7 < ((a0_caps).length : Int)))))], []⟩) (sub_gen [] rfl rfl ⟨zc rfl rfl, zc rfl rfl, zc rfl rfl, zc rfl rfl, trivial⟩ trivial) ?_
      refine SOps.nil ?_
      refine SCode.seq ?_
      rcases cond_out h with ⟨g13, h⟩ | ⟨g13, h⟩
      · refine SCode.cond_t rfl g13 ?_
        refine SCode.skip ?_
        refine SCode.seq ?_
        refine SCode.block ?_
        refine SCode.seq ?_
        obtain ⟨g14, h⟩ := guard_out h
        refine SCode.region (show SOps _ _ _ [0, 1, 2] _ _ from ?_)
        refine SOps.q rfl (.plain rfl) rfl (q_index_vec rfl rfl rfl sl22 rfl g14.1 g14.2) ?_
        refine SOps.q rfl (.plain rfl) rfl (q_load_eptr rfl rfl ty3) ?_
        refine SOps.q rfl (.plain rfl) rfl (q_assign rfl rfl) ?_
        refine SOps.sub (st' := ⟨[(4, .c (.int .i64 (a0_caps.getD t10_7.toNat 0))), (8, .c (vI a0_caps)), (9, .c (.int .i64 (((a0_caps).length : Int)))), (10, .c (.int .i64 t10_7))], []⟩) (sub_gen [] rfl rfl ⟨zc rfl rfl, zc rfl rfl, zc rfl rfl, zc rfl rfl, trivial⟩ trivial) ?_
        refine SOps.nil ?_
        refine SCode.seq ?_
        rcases cond_out h with ⟨g15, h⟩ | ⟨g15, h⟩
        · refine SCode.region (show SOps _ _ _ [0, 1, 2, 3, 4, 5] _ _ from ?_)
          refine SOps.q rfl (.plain rfl) rfl (q_move rfl rfl) ?_
          refine SOps.q rfl (.plain rfl) rfl (q_lss rfl rfl rfl) ?_
          refine SOps.q rfl (.plain rfl) rfl (q_move rfl rfl) ?_
          refine SOps.skip rfl 2 16 false rfl rfl (.inl (gT g15)) rfl ?_
          refine SOps.skip rfl 2 16 false rfl rfl (.inl (gT g15)) rfl ?_
          refine SOps.q rfl (.plain rfl) rfl (q_pick_t rfl rfl g15 rfl) ?_
          refine SOps.sub (st' := ⟨[(8, .c (vI a0_caps)), (9, .c (.int .i64 (((a0_caps).length : Int)))), (10, .c (.int .i64 t10_7)), (19, .c (.bool true))], []⟩) (sub_gen [] rfl rfl ⟨zc rfl rfl, zc rfl rfl, zc rfl rfl, zc rfl rfl, trivial⟩ trivial) ?_
          refine SOps.nil ?_
          refine SCode.cond_t rfl rfl ?_
          refine SCode.seq ?_
          refine SCode.region (show SOps _ _ _ [0] _ _ from ?_)
          refine SOps.q rfl (.plain rfl) rfl (q_assign rfl rfl) ?_
          refine SOps.sub (st' := ⟨[(2, .c (.int .i64 2))], []⟩) (sub_gen [] rfl rfl ⟨zc rfl rfl, trivial⟩ trivial) ?_
          refine SOps.nil ?_
          refine SCode.ret ?_
          obtain rfl := Option.some.inj h
          exact ⟨⟨[(2, .c (.int .i64 2))], []⟩, _, sub_gen [] rfl rfl ⟨zc rfl rfl, trivial⟩ trivial, resA1 (v := .c (.int .i64 2)) rfl rfl, rfl⟩
        refine SCode.region (show SOps _ _ _ [0, 1, 2, 3, 4, 5] _ _ from ?_)
        refine SOps.q rfl (.plain rfl) rfl (q_move rfl rfl) ?_
        refine SOps.q rfl (.plain rfl) rfl (q_lss rfl rfl rfl) ?_
        refine SOps.q rfl (.plain rfl) rfl (q_move rfl rfl) ?_
        refine SOps.q rfl (.guard 2 16 false rfl rfl (gF g15)) rfl (q_move rfl rfl) ?_
        refine SOps.q rfl (.guard 2 16 false rfl rfl (gF g15)) rfl (q_gtr rfl rfl rfl) ?_
        refine SOps.q rfl (.plain rfl) rfl (q_pick_f rfl rfl g15 rfl) ?_
        refine SOps.sub (st' := ⟨[(8, .c (vI a0_caps)), (9, .c (.int .i64 (((a0_caps).length : Int)))), (10, .c (.int .i64 t10_7)), (19, .c (.bool (decide (1099511627776 < a0_caps.getD t10_7.toNat 0))))], []⟩) (sub_gen [] rfl rfl ⟨zc rfl rfl, zc rfl rfl, zc rfl rfl, zc rfl rfl, trivial⟩ trivial) ?_
        refine SOps.nil ?_
        rcases cond_out h with ⟨g16, h⟩ | ⟨g16, h⟩
        · refine SCode.cond_t rfl g16 ?_
          refine SCode.seq ?_
          refine SCode.region (show SOps _ _ _ [0] _ _ from ?_)
          refine SOps.q rfl (.plain rfl) rfl (q_assign rfl rfl) ?_
          refine SOps.sub (st' := ⟨[(2, .c (.int .i64 2))], []⟩) (sub_gen [] rfl rfl ⟨zc rfl rfl, trivial⟩ trivial) ?_
          refine SOps.nil ?_
          refine SCode.ret ?_
          obtain rfl := Option.some.inj h
          exact ⟨⟨[(2, .c (.int .i64 2))], []⟩, _, sub_gen [] rfl rfl ⟨zc rfl rfl, trivial⟩ trivial, resA1 (v := .c (.int .i64 2)) rfl rfl, rfl⟩
        refine SCode.cond_f rfl g16 ?_
        refine SCode.skip ?_
        refine SCode.region (show SOps _ _ _ [0, 1] _ _ from ?_)
        refine SOps.q rfl (.plain rfl) rfl (q_add rfl rfl rfl) ?_
        refine SOps.q rfl (.plain rfl) rfl (q_move rfl rfl) ?_
        refine SOps.sub (st' := ⟨[(8, .c (vI a0_caps)), (9, .c (.int .i64 (((a0_caps).length : Int)))), (10, .c (.int .i64 (IntKind.wrap .i64 (t10_7 + 1))))], []⟩) (sub_gen [] rfl rfl ⟨zc rfl rfl, zc rfl rfl, zc rfl rfl, trivial⟩ trivial) ?_
        refine SOps.nil ?_
        exact ⟨(n_12, IntKind.wrap .i64 (t10_7 + 1)), h, Nat.lt_succ_self n_12, sub_gen [] rfl rfl ⟨zc rfl rfl, zc rfl rfl, zc rfl rfl, trivial⟩ trivial⟩
      refine SCode.cond_f rfl g13 ?_
      refine SCode.exit ?_
      exact ⟨(), h, sub_gen [] rfl rfl trivial trivial⟩
  rintro ⟨⟩ h
  show SCode _ _ _ ⟨[], []⟩ _
  replace h : fair_check_p2 = some r := h
  unfold fair_check_p2 at h
  refine SCode.seq ?_
  refine SCode.region (show SOps _ _ _ [0] _ _ from ?_)
  refine SOps.q rfl (.plain rfl) rfl (q_assign rfl rfl) ?_
  refine SOps.sub (st' := ⟨[(2, .c (.int .i64 0))], []⟩) (sub_gen [] rfl rfl ⟨zc rfl rfl, trivial⟩ trivial) ?_
  refine SOps.nil ?_
  refine SCode.ret ?_
  obtain rfl := Option.some.inj h
  exact ⟨⟨[(2, .c (.int .i64 0))], []⟩, _, sub_gen [] rfl rfl ⟨zc rfl rfl, trivial⟩ trivial, resA1 (v := .c (.int .i64 0)) rfl rfl, rfl⟩
set_option maxRecDepth 100000 in
set_option maxHeartbeats 8000000 in
theorem fair_least_int_ok (F : Nat) (a0_first : Int) (a1_others : List Int) (r : Int) (h : fair_least_int F a0_first a1_others = some r) :
    SFun Try.prog 24 [] [.c (.int .i64 a0_first), .c (vI a1_others)] (fun x _ => x = .c (.int .i64 r)) := by
  refine SFun.of (n := 19) Try.func24 rfl rfl rfl ?_
  unfold fair_least_int at h
  show SCode _ _ _ ⟨[(0, .c (.int .i64 a0_first)), (1, .c (vI a1_others))], []⟩ _
  refine SCode.seq ?_
  refine SCode.region (show SOps _ _ _ [0] _ _ from ?_)
  refine SOps.q rfl (.plain rfl) rfl (q_assign rfl rfl) ?_
  refine SOps.sub (st' := ⟨[(0, .c (.int .i64 a0_first)), (1, .c (vI a1_others))], []⟩) (sub_gen [] rfl rfl ⟨zc rfl rfl, zc rfl rfl, trivial⟩ trivial) ?_
  refine SOps.nil ?_
  refine SCode.join (σ := Int) (S := fun s => ⟨[(0, .c (.int .i64 s))], []⟩) (g := fun s => fair_least_int_p2 s = some r) ?_ ?_
  rotate_left
  · refine SCode.seq ?_
    refine SCode.region (show SOps _ _ _ [0, 1, 2] _ _ from ?_)
    refine SOps.q rfl (.plain rfl) rfl (q_move rfl rfl) ?_
    refine SOps.q rfl (.plain rfl) rfl (q_len_vec rfl rfl sl22) ?_
    refine SOps.q rfl (.plain rfl) rfl (q_move rfl rfl) ?_
    refine SOps.sub (st' := ⟨[(0, .c (.int .i64 a0_first)), (7, .c (vI a1_others)), (8, .c (.int .i64 (((a1_others).length : Int)))), (9, .c (.int .i64 0))], []⟩) (sub_gen [] rfl rfl ⟨zc rfl rfl, zc rfl rfl, zc rfl rfl, zc rfl rfl, trivial⟩ trivial) ?_
    refine SOps.nil ?_
    refine SCode.block ?_
    refine SCode.sub (st' := ⟨[(0, .c (.int .i64 a0_first)), (7, .c (vI a1_others)), (8, .c (.int .i64 (((a1_others).length : Int)))), (9, .c (.int .i64 0))], []⟩) (sub_gen [] rfl rfl ⟨zc rfl rfl, zc rfl rfl, zc rfl rfl, zc rfl rfl, trivial⟩ trivial) ?_
    refine (SCode.loop (σ := Nat × (Int × Int)) (S := fun s => ⟨[(0, .c (.int .i64 s.2.1)), (7, .c (vI a1_others)), (8, .c (.int .i64 (((a1_others).length : Int)))), (9, .c (.int .i64 s.2.2))], []⟩) (g := fun s => fair_least_int_l15 a1_others s.1 s.2.1 s.2.2 = some r) (μ := fun s => s.1) (F, (a0_first, 0)) h ?_)
    rintro ⟨n_15, ⟨first_8, t9_9⟩⟩ h
    replace h : fair_least_int_l15 a1_others n_15 first_8 t9_9 = some r := h
    show SCode _ _ _ ⟨[(0, .c (.int .i64 first_8)), (7, .c (vI a1_others)), (8, .c (.int .i64 (((a1_others).length : Int)))), (9, .c (.int .i64 t9_9))], []⟩ _
    cases n_15 with
    | zero => cases h
    | succ n_15 =>
      replace h : fair_least_int_b15 a1_others (fun first_8 t9_9 => fair_least_int_l15 a1_others n_15 first_8 t9_9) first_8 t9_9 = some r := h
      unfold fair_least_int_b15 at h
      refine SCode.seq ?_
      refine SCode.region (show SOps _ _ _ [0] _ _ from ?_)
      refine SOps.q rfl (.plain rfl) rfl (q_lss rfl rfl rfl) ?_
      refine SOps.sub (st' := ⟨[(0, .c (.int .i64 first_8)), (7, .c (vI a1_others)), (8, .c (.int .i64 (((a1_others).length : Int)))), (9, .c (.int .i64 t9_9)), (10, .c (.bool (decide (t9_9 < ((a1_others).length : Int)))))], []⟩) (sub_gen [] rfl rfl ⟨zc rfl rfl, zc rfl rfl, zc rfl rfl, zc rfl rfl, zc rfl rfl, trivial⟩ trivial) ?_
      refine SOps.nil ?_
      refine SCode.seq ?_
      rcases cond_out h with ⟨g16, h⟩ | ⟨g16, h⟩
      · refine SCode.cond_t rfl g16 ?_
        refine SCode.skip ?_
        refine SCode.join (σ := Int) (S := fun s => ⟨[(0, .c (.int .i64 s)), (7, .c (vI a1_others)), (8, .c (.int .i64 (((a1_others).length : Int)))), (9, .c (.int .i64 t9_9))], []⟩) (g := fun s => fair_least_int_p18 t9_9 (fun first_8 t9_9 => fair_least_int_l15 a1_others n_15 first_8 t9_9) s = some r) ?_ ?_
        rotate_left
        · refine SCode.block ?_
          refine SCode.seq ?_
          obtain ⟨g19, h⟩ := guard_out h
          refine SCode.region (show SOps _ _ _ [0, 1, 2] _ _ from ?_)
          refine SOps.q rfl (.plain rfl) rfl (q_index_vec rfl rfl rfl sl22 rfl g19.1 g19.2) ?_
          refine SOps.q rfl (.plain rfl) rfl (q_load_eptr rfl rfl ty3) ?_
          refine SOps.q rfl (.plain rfl) rfl (q_assign rfl rfl) ?_
          refine SOps.sub (st' := ⟨[(0, .c (.int .i64 first_8)), (6, .c (.int .i64 (a1_others.getD t9_9.toNat 0))), (7, .c (vI a1_others)), (8, .c (.int .i64 (((a1_others).length : Int)))), (9, .c (.int .i64 t9_9))], []⟩) (sub_gen [] rfl rfl ⟨zc rfl rfl, zc rfl rfl, zc rfl rfl, zc rfl rfl, zc rfl rfl, trivial⟩ trivial) ?_
          refine SOps.nil ?_
          refine SCode.seq ?_
          refine SCode.region (show SOps _ _ _ [0, 1, 2] _ _ from ?_)
          refine SOps.q rfl (.plain rfl) rfl (q_move rfl rfl) ?_
          refine SOps.q rfl (.plain rfl) rfl (q_move rfl rfl) ?_
          refine SOps.q rfl (.plain rfl) rfl (q_lss rfl rfl rfl) ?_
          refine SOps.sub (st' := ⟨[(0, .c (.int .i64 first_8)), (6, .c (.int .i64 (a1_others.getD t9_9.toNat 0))), (7, .c (vI a1_others)), (8, .c (.int .i64 (((a1_others).length : Int)))), (9, .c (.int .i64 t9_9)), (15, .c (.bool (decide (a1_others.getD t9_9.toNat 0 < first_8))))], []⟩) (sub_gen [] rfl rfl ⟨zc rfl rfl, zc rfl rfl, zc rfl rfl, zc rfl rfl, zc rfl rfl, zc rfl rfl, trivial⟩ trivial) ?_
          refine SOps.nil ?_
          rcases cond_out h with ⟨g20, h⟩ | ⟨g20, h⟩
          · refine SCode.cond_t rfl g20 ?_
            refine SCode.region (show SOps _ _ _ [0, 1] _ _ from ?_)
            refine SOps.q rfl (.plain rfl) rfl (q_move rfl rfl) ?_
            refine SOps.q rfl (.plain rfl) rfl (q_assign rfl rfl) ?_
            refine SOps.sub (st' := ⟨[(0, .c (.int .i64 (a1_others.getD t9_9.toNat 0))), (7, .c (vI a1_others)), (8, .c (.int .i64 (((a1_others).length : Int)))), (9, .c (.int .i64 t9_9))], []⟩) (sub_gen [] rfl rfl ⟨zc rfl rfl, zc rfl rfl, zc rfl rfl, zc rfl rfl, trivial⟩ trivial) ?_
            refine SOps.nil ?_
            exact ⟨a1_others.getD t9_9.toNat 0, h, sub_gen [] rfl rfl ⟨zc rfl rfl, zc rfl rfl, zc rfl rfl, zc rfl rfl, trivial⟩ trivial⟩
          refine SCode.cond_f rfl g20 ?_
          refine SCode.skip ?_
          exact ⟨first_8, h, sub_gen [] rfl rfl ⟨zc rfl rfl, zc rfl rfl, zc rfl rfl, zc rfl rfl, trivial⟩ trivial⟩
        rintro first_17 h
        show SCode _ _ _ ⟨[(0, .c (.int .i64 first_17)), (7, .c (vI a1_others)), (8, .c (.int .i64 (((a1_others).length : Int)))), (9, .c (.int .i64 t9_9))], []⟩ _
        replace h : fair_least_int_p18 t9_9 (fun first_8 t9_9 => fair_least_int_l15 a1_others n_15 first_8 t9_9) first_17 = some r := h
        unfold fair_least_int_p18 at h
        refine SCode.region (show SOps _ _ _ [0, 1] _ _ from ?_)
        refine SOps.q rfl (.plain rfl) rfl (q_add rfl rfl rfl) ?_
        refine SOps.q rfl (.plain rfl) rfl (q_move rfl rfl) ?_
        refine SOps.sub (st' := ⟨[(0, .c (.int .i64 first_17)), (7, .c (vI a1_others)), (8, .c (.int .i64 (((a1_others).length : Int)))), (9, .c (.int .i64 (IntKind.wrap .i64 (t9_9 + 1))))], []⟩) (sub_gen [] rfl rfl ⟨zc rfl rfl, zc rfl rfl, zc rfl rfl, zc rfl rfl, trivial⟩ trivial) ?_
        refine SOps.nil ?_
        exact ⟨(n_15, (first_17, IntKind.wrap .i64 (t9_9 + 1))), h, Nat.lt_succ_self n_15, sub_gen [] rfl rfl ⟨zc rfl rfl, zc rfl rfl, zc rfl rfl, zc rfl rfl, trivial⟩ trivial⟩
      refine SCode.cond_f rfl g16 ?_
      refine SCode.exit ?_
      exact ⟨first_8, h, sub_gen [] rfl rfl ⟨zc rfl rfl, trivial⟩ trivial⟩
  rintro first_1 h
  show SCode _ _ _ ⟨[(0, .c (.int .i64 first_1))], []⟩ _
  replace h : fair_least_int_p2 first_1 = some r := h
  unfold fair_least_int_p2 at h
  refine SCode.seq ?_
  refine SCode.region (show SOps _ _ _ [0, 1] _ _ from ?_)
  refine SOps.q rfl (.plain rfl) rfl (q_move rfl rfl) ?_
  refine SOps.q rfl (.plain rfl) rfl (q_assign rfl rfl) ?_
  refine SOps.sub (st' := ⟨[(4, .c (.int .i64 first_1))], []⟩) (sub_gen [] rfl rfl ⟨zc rfl rfl, trivial⟩ trivial) ?_
  refine SOps.nil ?_
  refine SCode.ret ?_
  obtain rfl := Option.some.inj h
  exact ⟨⟨[(4, .c (.int .i64 first_1))], []⟩, _, sub_gen [] rfl rfl ⟨zc rfl rfl, trivial⟩ trivial, resA1 (v := .c (.int .i64 first_1)) rfl rfl, rfl⟩
set_option maxRecDepth 100000 in
set_option maxHeartbeats 8000000 in
theorem fair_below_ok (F : Nat) (a0_m : Int) (a1_caps : List Int) (r : Int) (h : fair_below F a0_m a1_caps = some r) :
    SFun Try.prog 23 [] [.c (.int .i64 a0_m), .c (vI a1_caps)] (fun x _ => x = .c (.int .i64 r)) := by
  refine SFun.of (n := 22) Try.func23 rfl rfl rfl ?_
  unfold fair_below at h
  show SCode _ _ _ ⟨[(0, .c (.int .i64 a0_m)), (1, .c (vI a1_caps))], []⟩ _
  refine SCode.seq ?_
  refine SCode.region (show SOps _ _ _ [0] _ _ from ?_)
  refine SOps.q rfl (.plain rfl) rfl (q_assign rfl rfl) ?_
  refine SOps.sub (st' := ⟨[(0, .c (.int .i64 a0_m)), (1, .c (vI a1_caps))], []⟩) (sub_gen [] rfl rfl ⟨zc rfl rfl, zc rfl rfl, trivial⟩ trivial) ?_
  refine SOps.nil ?_
  refine SCode.seq ?_
  refine SCode.region (show SOps _ _ _ [0] _ _ from ?_)
  refine SOps.q rfl (.plain rfl) rfl (q_assign rfl rfl) ?_
  refine SOps.sub (st' := ⟨[(0, .c (.int .i64 a0_m)), (1, .c (vI a1_caps)), (5, .c (.int .i64 0))], []⟩) (sub_gen [] rfl rfl ⟨zc rfl rfl, zc rfl rfl, zc rfl rfl, trivial⟩ trivial) ?_
  refine SOps.nil ?_
  refine SCode.join (σ := Int) (S := fun s => ⟨[(5, .c (.int .i64 s))], []⟩) (g := fun s => fair_below_p2 s = some r) ?_ ?_
  rotate_left
  · refine SCode.seq ?_
    refine SCode.region (show SOps _ _ _ [0, 1, 2] _ _ from ?_)
    refine SOps.q rfl (.plain rfl) rfl (q_move rfl rfl) ?_
    refine SOps.q rfl (.plain rfl) rfl (q_len_vec rfl rfl sl22) ?_
    refine SOps.q rfl (.plain rfl) rfl (q_move rfl rfl) ?_
    refine SOps.sub (st' := ⟨[(0, .c (.int .i64 a0_m)), (5, .c (.int .i64 0)), (8, .c (vI a1_caps)), (9, .c (.int .i64 (((a1_caps).length : Int)))), (10, .c (.int .i64 0))], []⟩) (sub_gen [] rfl rfl ⟨zc rfl rfl, zc rfl rfl, zc rfl rfl, zc rfl rfl, zc rfl rfl, trivial⟩ trivial) ?_
    refine SOps.nil ?_
    refine SCode.block ?_
    refine SCode.sub (st' := ⟨[(0, .c (.int .i64 a0_m)), (5, .c (.int .i64 0)), (8, .c (vI a1_caps)), (9, .c (.int .i64 (((a1_caps).length : Int)))), (10, .c (.int .i64 0))], []⟩) (sub_gen [] rfl rfl ⟨zc rfl rfl, zc rfl rfl, zc rfl rfl, zc rfl rfl, zc rfl rfl, trivial⟩ trivial) ?_
    refine (SCode.loop (σ := Nat × (Int × Int)) (S := fun s => ⟨[(0, .c (.int .i64 a0_m)), (5, .c (.int .i64 s.2.1)), (8, .c (vI a1_caps)), (9, .c (.int .i64 (((a1_caps).length : Int)))), (10, .c (.int .i64 s.2.2))], []⟩) (g := fun s => fair_below_l13 F a0_m a1_caps s.1 s.2.1 s.2.2 = some r) (μ := fun s => s.1) (F, (0, 0)) h ?_)
    rintro ⟨n_13, ⟨sum_7, t10_8⟩⟩ h
    replace h : fair_below_l13 F a0_m a1_caps n_13 sum_7 t10_8 = some r := h
    show SCode _ _ _ ⟨[(0, .c (.int .i64 a0_m)), (5, .c (.int .i64 sum_7)), (8, .c (vI a1_caps)), (9, .c (.int .i64 (((a1_caps).length : Int)))), (10, .c (.int .i64 t10_8))], []⟩ _
    cases n_13 with
    | zero => cases h
    | succ n_13 =>
      replace h : fair_below_b13 F a0_m a1_caps (fun sum_7 t10_8 => fair_below_l13 F a0_m a1_caps n_13 sum_7 t10_8) sum_7 t10_8 = some r := h
      unfold fair_below_b13 at h
      refine SCode.seq ?_
      refine SCode.region (show SOps _ _ _ [0] _ _ from ?_)
      refine SOps.q rfl (.plain rfl) rfl (q_lss rfl rfl rfl) ?_
      refine SOps.sub (st' := ⟨[(0, .c (.int .i64 a0_m)), (5, .c (.int .i64 sum_7)), (8, .c (vI a1_caps)), (9, .c (.int .i64 (((a1_caps).length : Int)))), (10, .c (.int .i64 t10_8)), (11, .c (.bool (decide (t10_8 < ((a1_caps).length : Int)))))], []⟩) (sub_gen [] rfl rfl ⟨zc rfl rfl, zc rfl rfl, zc rfl rfl, zc rfl rfl, zc rfl rfl, zc rfl rfl, trivial⟩ trivial) ?_
      refine SOps.nil ?_
      refine SCode.seq ?_
      rcases cond_out h with ⟨g14, h⟩ | ⟨g14, h⟩
      · refine SCode.cond_t rfl g14 ?_
        refine SCode.skip ?_
        refine SCode.seq ?_
        refine SCode.block ?_
        refine SCode.seq ?_
        obtain ⟨g15, h⟩ := guard_out h
        refine SCode.region (show SOps _ _ _ [0, 1, 2] _ _ from ?_)
        refine SOps.q rfl (.plain rfl) rfl (q_index_vec rfl rfl rfl sl22 rfl g15.1 g15.2) ?_
        refine SOps.q rfl (.plain rfl) rfl (q_load_eptr rfl rfl ty3) ?_
        refine SOps.q rfl (.plain rfl) rfl (q_assign rfl rfl) ?_
        refine SOps.sub (st' := ⟨[(0, .c (.int .i64 a0_m)), (5, .c (.int .i64 sum_7)), (7, .c (.int .i64 (a1_caps.getD t10_8.toNat 0))), (8, .c (vI a1_caps)), (9, .c (.int .i64 (((a1_caps).length : Int)))), (10, .c (.int .i64 t10_8))], []⟩) (sub_gen [] rfl rfl ⟨zc rfl rfl, zc rfl rfl, zc rfl rfl, zc rfl rfl, zc rfl rfl, zc rfl rfl, trivial⟩ trivial) ?_
        refine SOps.nil ?_
        obtain ⟨c_16, g17, h⟩ := bind_out h
        try dsimp only at h
        refine SCode.region (show SOps _ _ _ [0, 1, 2, 3, 4, 5, 6] _ _ from ?_)
        refine SOps.q rfl (.plain rfl) rfl (q_move rfl rfl) ?_
        refine SOps.q rfl (.plain rfl) rfl (q_move rfl rfl) ?_
        refine SOps.q rfl (.plain rfl) rfl (q_move rfl rfl) ?_
        refine SOps.q rfl (.plain rfl) rfl (q_bsliceL (c := (cInt .i64)) (d0 := 0) [a1_caps.getD t10_8.toNat 0] rfl rfl sl22 z3 rfl rfl rfl rfl rfl rfl rfl) ?_
        refine SOps.q rfl (.plain rfl) rfl (q_call (fair_least_int_ok F a0_m ([a1_caps.getD t10_8.toNat 0]) c_16 g17) [] rfl fn24 ⟨⟨_, rfl, .inl ⟨rfl, rfl⟩⟩, ⟨_, rfl, .inl ⟨rfl, rfl⟩⟩, trivial⟩ (.inl rfl)) ?_
        refine SOps.q rfl (.plain rfl) rfl (q_add rfl rfl rfl) ?_
        refine SOps.q rfl (.plain rfl) rfl (q_assign rfl rfl) ?_
        refine SOps.sub (st' := ⟨[(0, .c (.int .i64 a0_m)), (5, .c (.int .i64 (IntKind.wrap .i64 (sum_7 + c_16)))), (8, .c (vI a1_caps)), (9, .c (.int .i64 (((a1_caps).length : Int)))), (10, .c (.int .i64 t10_8))], []⟩) (sub_gen [] rfl rfl ⟨zc rfl rfl, zc rfl rfl, zc rfl rfl, zc rfl rfl, zc rfl rfl, trivial⟩ trivial) ?_
        refine SOps.nil ?_
        refine SCode.region (show SOps _ _ _ [0, 1] _ _ from ?_)
        refine SOps.q rfl (.plain rfl) rfl (q_add rfl rfl rfl) ?_
        refine SOps.q rfl (.plain rfl) rfl (q_move rfl rfl) ?_
        refine SOps.sub (st' := ⟨[(0, .c (.int .i64 a0_m)), (5, .c (.int .i64 (IntKind.wrap .i64 (sum_7 + c_16)))), (8, .c (vI a1_caps)), (9, .c (.int .i64 (((a1_caps).length : Int)))), (10, .c (.int .i64 (IntKind.wrap .i64 (t10_8 + 1))))], []⟩) (sub_gen [] rfl rfl ⟨zc rfl rfl, zc rfl rfl, zc rfl rfl, zc rfl rfl, zc rfl rfl, trivial⟩ trivial) ?_
        refine SOps.nil ?_
        exact ⟨(n_13, (IntKind.wrap .i64 (sum_7 + c_16), IntKind.wrap .i64 (t10_8 + 1))), h, Nat.lt_succ_self n_13, sub_gen [] rfl rfl ⟨zc rfl rfl, zc rfl rfl, zc rfl rfl, zc rfl rfl, zc rfl rfl, trivial⟩ trivial⟩
      refine SCode.cond_f rfl g14 ?_
      refine SCode.exit ?_
      exact ⟨sum_7, h, sub_gen [] rfl rfl ⟨zc rfl rfl, trivial⟩ trivial⟩
  rintro sum_1 h
  show SCode _ _ _ ⟨[(5, .c (.int .i64 sum_1))], []⟩ _
  replace h : fair_below_p2 sum_1 = some r := h
  unfold fair_below_p2 at h
  refine SCode.seq ?_
  refine SCode.region (show SOps _ _ _ [0, 1] _ _ from ?_)
  refine SOps.q rfl (.plain rfl) rfl (q_move rfl rfl) ?_
  refine SOps.q rfl (.plain rfl) rfl (q_assign rfl rfl) ?_
  refine SOps.sub (st' := ⟨[(4, .c (.int .i64 sum_1))], []⟩) (sub_gen [] rfl rfl ⟨zc rfl rfl, trivial⟩ trivial) ?_
  refine SOps.nil ?_
  refine SCode.ret ?_
  obtain rfl := Option.some.inj h
  exact ⟨⟨[(4, .c (.int .i64 sum_1))], []⟩, _, sub_gen [] rfl rfl ⟨zc rfl rfl, trivial⟩ trivial, resA1 (v := .c (.int .i64 sum_1)) rfl rfl, rfl⟩
set_option maxRecDepth 100000 in
set_option maxHeartbeats 8000000 in
theorem fair_Share_ok (F : Nat) (a0_total : Int) (a1_caps : List Int) (r : (List Int) × Int) (h : fair_Share F a0_total a1_caps = some r) :
    SFun Try.prog 10 [] [.c (.int .i64 a0_total), .c (vI a1_caps)] (fun x _ => x = .t [.c (vI r.1), .c (.int .i64 r.2)]) := by
  refine SFun.of (n := 83) Try.func10 rfl rfl rfl ?_
  unfold fair_Share at h
  show SCode _ _ _ ⟨[(0, .c (.int .i64 a0_total)), (1, .c (vI a1_caps))], []⟩ _
  refine SCode.seq ?_
  refine SCode.region (show SOps _ _ _ [0, 1] _ _ from ?_)
  refine SOps.q rfl (.plain rfl) rfl (q_assign rfl rfl) ?_
  refine SOps.q rfl (.plain rfl) rfl (q_assign rfl rfl) ?_
  refine SOps.sub (st' := ⟨[(0, .c (.int .i64 a0_total)), (1, .c (vI a1_caps))], []⟩) (sub_gen [] rfl rfl ⟨zc rfl rfl, zc rfl rfl, trivial⟩ trivial) ?_
  refine SOps.nil ?_
  refine SCode.seq ?_
  refine SCode.seq ?_
  refine SCode.region (show SOps _ _ _ [0, 1] _ _ from ?_)
  refine SOps.q rfl (.plain rfl) rfl (q_move rfl rfl) ?_
  refine SOps.q rfl (.plain rfl) rfl (q_lss rfl rfl rfl) ?_
  refine SOps.sub (st' := ⟨[(0, .c (.int .i64 a0_total)), (1, .c (vI a1_caps)), (15, .c (.bool (decide (a0_total < 0))))], []⟩) (sub_gen [] rfl rfl ⟨zc rfl rfl, zc rfl rfl, zc rfl rfl, trivial⟩ trivial) ?_
  refine SOps.nil ?_
  rcases cond_out h with ⟨g1, h⟩ | ⟨g1, h⟩
  · refine SCode.cond_t rfl g1 ?_
    refine SCode.seq ?_
    refine SCode.region (show SOps _ _ _ [0, 1] _ _ from ?_)
    refine SOps.q rfl (.plain rfl) rfl (q_assign rfl rfl) ?_
    refine SOps.q rfl (.plain rfl) rfl (q_assign rfl rfl) ?_
    refine SOps.sub (st' := ⟨[(4, .c (.raw (.slice none 0 0))), (5, .c (.int .i64 2))], []⟩) (sub_gen [] rfl rfl ⟨zc rfl rfl, zc rfl rfl, trivial⟩ trivial) ?_
    refine SOps.nil ?_
    refine SCode.ret ?_
    obtain rfl := Option.some.inj h
    exact ⟨⟨[(4, .c (vI (([] : List Int)))), (5, .c (.int .i64 2))], []⟩, _, sub_gen [] rfl rfl ⟨⟨_, rfl, .inr (.inr (.inr (.inl ⟨_, _, rfl, rfl⟩)))⟩, zc rfl rfl, trivial⟩ trivial, resA2 (v1 := .c (vI (([] : List Int)))) (v2 := .c (.int .i64 2)) rfl rfl rfl, rfl⟩
  refine SCode.cond_f rfl g1 ?_
  refine SCode.skip ?_
  refine SCode.seq ?_
  refine SCode.seq ?_
  obtain ⟨c_2, g3, h⟩ := bind_out h
  try dsimp only at h
  refine SCode.region (show SOps _ _ _ [0, 1, 2] _ _ from ?_)
  refine SOps.q rfl (.plain rfl) rfl (q_move rfl rfl) ?_
  refine SOps.q rfl (.plain rfl) rfl (q_call (fair_check_ok F a1_caps c_2 g3) [] rfl fn22 ⟨⟨_, rfl, .inl ⟨rfl, rfl⟩⟩, trivial⟩ (.inl rfl)) ?_
  refine SOps.q rfl (.plain rfl) rfl (q_assign rfl rfl) ?_
  refine SOps.sub (st' := ⟨[(0, .c (.int .i64 a0_total)), (1, .c (vI a1_caps)), (6, .c (.int .i64 c_2))], []⟩) (sub_gen [] rfl rfl ⟨zc rfl rfl, zc rfl rfl, zc rfl rfl, trivial⟩ trivial) ?_
  refine SOps.nil ?_
  refine SCode.seq ?_
  refine SCode.region (show SOps _ _ _ [0, 1] _ _ from ?_)
  refine SOps.q rfl (.plain rfl) rfl (q_move rfl rfl) ?_
  refine SOps.q rfl (.plain rfl) rfl (q_neq rfl rfl rfl) ?_
  refine SOps.sub (st' := ⟨[(0, .c (.int .i64 a0_total)), (1, .c (vI a1_caps)), (6, .c (.int .i64 c_2)), (19, .c (.bool ((!decide (c_2 = 0)))))], []⟩) (sub_gen [] rfl rfl ⟨zc rfl rfl, zc rfl rfl, zc rfl rfl, zc rfl rfl, trivial⟩ trivial) ?_
  refine SOps.nil ?_
  rcases cond_out h with ⟨g4, h⟩ | ⟨g4, h⟩
  · refine SCode.cond_t rfl g4 ?_
    refine SCode.seq ?_
    refine SCode.region (show SOps _ _ _ [0, 1, 2] _ _ from ?_)
    refine SOps.q rfl (.plain rfl) rfl (q_move rfl rfl) ?_
    refine SOps.q rfl (.plain rfl) rfl (q_assign rfl rfl) ?_
    refine SOps.q rfl (.plain rfl) rfl (q_assign rfl rfl) ?_
    refine SOps.sub (st' := ⟨[(4, .c (.raw (.slice none 0 0))), (5, .c (.int .i64 c_2))], []⟩) (sub_gen [] rfl rfl ⟨zc rfl rfl, zc rfl rfl, trivial⟩ trivial) ?_
    refine SOps.nil ?_
    refine SCode.ret ?_
    obtain rfl := Option.some.inj h
    exact ⟨⟨[(4, .c (vI (([] : List Int)))), (5, .c (.int .i64 c_2))], []⟩, _, sub_gen [] rfl rfl ⟨⟨_, rfl, .inr (.inr (.inr (.inl ⟨_, _, rfl, rfl⟩)))⟩, zc rfl rfl, trivial⟩ trivial, resA2 (v1 := .c (vI (([] : List Int)))) (v2 := .c (.int .i64 c_2)) rfl rfl rfl, rfl⟩
  refine SCode.cond_f rfl g4 ?_
  refine SCode.skip ?_
  refine SCode.seq ?_
  refine SCode.seq ?_
  obtain ⟨c_5, g6, h⟩ := bind_out h
  try dsimp only at h
  refine SCode.region (show SOps _ _ _ [0, 1, 2, 3] _ _ from ?_)
  refine SOps.q rfl (.plain rfl) rfl (q_move rfl rfl) ?_
  refine SOps.q rfl (.plain rfl) rfl (q_call (fair_below_ok F 1099511627776 a1_caps c_5 g6) [] rfl fn23 ⟨⟨_, rfl, .inl ⟨rfl, rfl⟩⟩, ⟨_, rfl, .inl ⟨rfl, rfl⟩⟩, trivial⟩ (.inl rfl)) ?_
  refine SOps.q rfl (.plain rfl) rfl (q_move rfl rfl) ?_
  refine SOps.q rfl (.plain rfl) rfl (q_leq rfl rfl rfl) ?_
  refine SOps.sub (st' := ⟨[(0, .c (.int .i64 a0_total)), (1, .c (vI a1_caps)), (24, .c (.bool (decide (c_5 ≤ a0_total))))], []⟩) (sub_gen [] rfl rfl ⟨zc rfl rfl, zc rfl rfl, zc rfl rfl, trivial⟩ trivial) ?_
  refine SOps.nil ?_
  rcases cond_out h with ⟨g7, h⟩ | ⟨g7, h⟩
  · refine SCode.cond_t rfl g7 ?_
    refine SCode.seq ?_
    obtain ⟨c_8, g9, h⟩ := bind_out h
    try dsimp only at h
    refine SCode.region (show SOps _ _ _ [0, 1, 2, 3] _ _ from ?_)
    refine SOps.q rfl (.plain rfl) rfl (q_move rfl rfl) ?_
    refine SOps.q rfl (.plain rfl) rfl (q_call (slices_Clone_int_int_ok F a1_caps c_8 g9) [] rfl fn18 ⟨⟨_, rfl, .inl ⟨rfl, rfl⟩⟩, trivial⟩ (.inl rfl)) ?_
    refine SOps.q rfl (.plain rfl) rfl (q_assign rfl rfl) ?_
    refine SOps.q rfl (.plain rfl) rfl (q_assign rfl rfl) ?_
    refine SOps.sub (st' := ⟨[(4, .c (vI c_8)), (5, .c (.int .i64 0))], []⟩) (sub_gen [] rfl rfl ⟨zc rfl rfl, zc rfl rfl, trivial⟩ trivial) ?_
    refine SOps.nil ?_
    refine SCode.ret ?_
    obtain rfl := Option.some.inj h
    exact ⟨⟨[(4, .c (vI c_8)), (5, .c (.int .i64 0))], []⟩, _, sub_gen [] rfl rfl ⟨zc rfl rfl, zc rfl rfl, trivial⟩ trivial, resA2 (v1 := .c (vI c_8)) (v2 := .c (.int .i64 0)) rfl rfl rfl, rfl⟩
  refine SCode.cond_f rfl g7 ?_
  refine SCode.skip ?_
  refine SCode.seq ?_
  refine SCode.region (show SOps _ _ _ [0] _ _ from ?_)
  refine SOps.q rfl (.plain rfl) rfl (q_assign rfl rfl) ?_
  refine SOps.sub (st' := ⟨[(0, .c (.int .i64 a0_total)), (1, .c (vI a1_caps)), (7, .c (.int .i64 0))], []⟩) (sub_gen [] rfl rfl ⟨zc rfl rfl, zc rfl rfl, zc rfl rfl, trivial⟩ trivial) ?_
  refine SOps.nil ?_
  refine SCode.join (σ := Int) (S := fun s => ⟨[(0, .c (.int .i64 a0_total)), (1, .c (vI a1_caps)), (7, .c (.int .i64 s))], []⟩) (g := fun s => fair_Share_p56 F a0_total a1_caps s = some r) ?_ ?_
  rotate_left
  · refine SCode.seq ?_
    refine SCode.region (show SOps _ _ _ [0] _ _ from ?_)
    refine SOps.q rfl (.plain rfl) rfl (q_assign rfl rfl) ?_
    refine SOps.sub (st' := ⟨[(0, .c (.int .i64 a0_total)), (1, .c (vI a1_caps)), (7, .c (.int .i64 0)), (8, .c (.int .i64 1099511627776))], []⟩) (sub_gen [] rfl rfl ⟨zc rfl rfl, zc rfl rfl, zc rfl rfl, zc rfl rfl, trivial⟩ trivial) ?_
    refine SOps.nil ?_
    refine SCode.block ?_
    refine SCode.sub (st' := ⟨[(0, .c (.int .i64 a0_total)), (1, .c (vI a1_caps)), (7, .c (.int .i64 0)), (8, .c (.int .i64 1099511627776))], []⟩) (sub_gen [] rfl rfl ⟨zc rfl rfl, zc rfl rfl, zc rfl rfl, zc rfl rfl, trivial⟩ trivial) ?_
    refine (SCode.loop (σ := Nat × (Int × Int)) (S := fun s => ⟨[(0, .c (.int .i64 a0_total)), (1, .c (vI a1_caps)), (7, .c (.int .i64 s.2.1)), (8, .c (.int .i64 s.2.2))], []⟩) (g := fun s => fair_Share_l68 F a0_total a1_caps s.1 s.2.1 s.2.2 = some r) (μ := fun s => s.1) (F, (0, 1099511627776)) h ?_)
    rintro ⟨n_68, ⟨m_62, bad_63⟩⟩ h
    replace h : fair_Share_l68 F a0_total a1_caps n_68 m_62 bad_63 = some r := h
    show SCode _ _ _ ⟨[(0, .c (.int .i64 a0_total)), (1, .c (vI a1_caps)), (7, .c (.int .i64 m_62)), (8, .c (.int .i64 bad_63))], []⟩ _
    cases n_68 with
    | zero => cases h
    | succ n_68 =>
      replace h : fair_Share_b68 F a0_total a1_caps (fun m_62 bad_63 => fair_Share_l68 F a0_total a1_caps n_68 m_62 bad_63) m_62 bad_63 = some r := h
      unfold fair_Share_b68 at h
      refine SCode.seq ?_
      refine SCode.seq ?_
      refine SCode.region (show SOps _ _ _ [0, 1, 2, 3] _ _ from ?_)
      refine SOps.q rfl (.plain rfl) rfl (q_move rfl rfl) ?_
      refine SOps.q rfl (.plain rfl) rfl (q_move rfl rfl) ?_
      refine SOps.q rfl (.plain rfl) rfl (q_sub rfl rfl rfl) ?_
      refine SOps.q rfl (.plain rfl) rfl (q_gtr rfl rfl rfl) ?_
      refine SOps.sub (st' := ⟨[(0, .c (.int .i64 a0_total)), (1, .c (vI a1_caps)), (7, .c (.int .i64 m_62)), (8, .c (.int .i64 bad_63)), (30, .c (.bool (decide (1 < IntKind.wrap .i64 (bad_63 - m_62)))))], []⟩) (sub_gen [] rfl rfl ⟨zc rfl rfl, zc rfl rfl, zc rfl rfl, zc rfl rfl, zc rfl rfl, trivial⟩ trivial) ?_
      refine SOps.nil ?_
      rcases cond_out h with ⟨g69, h⟩ | ⟨g69, h⟩
      · refine SCode.cond_t rfl g69 ?_
        refine SCode.skip ?_
        refine SCode.block ?_
        refine SCode.seq ?_
        refine SCode.region (show SOps _ _ _ [0, 1, 2, 3, 4, 5, 6] _ _ from ?_)
        refine SOps.q rfl (.plain rfl) rfl (q_move rfl rfl) ?_
        refine SOps.q rfl (.plain rfl) rfl (q_move rfl rfl) ?_
        refine SOps.q rfl (.plain rfl) rfl (q_move rfl rfl) ?_
        refine SOps.q rfl (.plain rfl) rfl (q_sub rfl rfl rfl) ?_
        refine SOps.q rfl (.plain rfl) rfl (q_quo rfl rfl rfl (by decide)) ?_
        refine SOps.q rfl (.plain rfl) rfl (q_add rfl rfl rfl) ?_
        refine SOps.q rfl (.plain rfl) rfl (q_assign rfl rfl) ?_
        refine SOps.sub (st' := ⟨[(0, .c (.int .i64 a0_total)), (1, .c (vI a1_caps)), (7, .c (.int .i64 m_62)), (8, .c (.int .i64 bad_63)), (9, .c (.int .i64 (IntKind.wrap .i64 (m_62 + IntKind.wrap .i64 (Int.tdiv (IntKind.wrap .i64 (bad_63 - m_62)) 2)))))], []⟩) (sub_gen [] rfl rfl ⟨zc rfl rfl, zc rfl rfl, zc rfl rfl, zc rfl rfl, zc rfl rfl, trivial⟩ trivial) ?_
        refine SOps.nil ?_
        refine SCode.seq ?_
        obtain ⟨c_70, g71, h⟩ := bind_out h
        try dsimp only at h
        refine SCode.region (show SOps _ _ _ [0, 1, 2, 3, 4] _ _ from ?_)
        refine SOps.q rfl (.plain rfl) rfl (q_move rfl rfl) ?_
        refine SOps.q rfl (.plain rfl) rfl (q_move rfl rfl) ?_
        refine SOps.q rfl (.plain rfl) rfl (q_call (fair_below_ok F (IntKind.wrap .i64 (m_62 + IntKind.wrap .i64 (Int.tdiv (IntKind.wrap .i64 (bad_63 - m_62)) 2))) a1_caps c_70 g71) [] rfl fn23 ⟨⟨_, rfl, .inl ⟨rfl, rfl⟩⟩, ⟨_, rfl, .inl ⟨rfl, rfl⟩⟩, trivial⟩ (.inl rfl)) ?_
        refine SOps.q rfl (.plain rfl) rfl (q_move rfl rfl) ?_
        refine SOps.q rfl (.plain rfl) rfl (q_leq rfl rfl rfl) ?_
        refine SOps.sub (st' := ⟨[(0, .c (.int .i64 a0_total)), (1, .c (vI a1_caps)), (7, .c (.int .i64 m_62)), (8, .c (.int .i64 bad_63)), (9, .c (.int .i64 (IntKind.wrap .i64 (m_62 + IntKind.wrap .i64 (Int.tdiv (IntKind.wrap .i64 (bad_63 - m_62)) 2))))), (41, .c (.bool (decide (c_70 ≤ a0_total))))], []⟩) (sub_gen [] rfl rfl ⟨zc rfl rfl, zc rfl rfl, zc rfl rfl, zc rfl rfl, zc rfl rfl, zc rfl rfl, trivial⟩ trivial) ?_
        refine SOps.nil ?_
        rcases cond_out h with ⟨g72, h⟩ | ⟨g72, h⟩
        · refine SCode.cond_t rfl g72 ?_
          refine SCode.region (show SOps _ _ _ [0, 1] _ _ from ?_)
          refine SOps.q rfl (.plain rfl) rfl (q_move rfl rfl) ?_
          refine SOps.q rfl (.plain rfl) rfl (q_assign rfl rfl) ?_
          refine SOps.sub (st' := ⟨[(0, .c (.int .i64 a0_total)), (1, .c (vI a1_caps)), (7, .c (.int .i64 (IntKind.wrap .i64 (m_62 + IntKind.wrap .i64 (Int.tdiv (IntKind.wrap .i64 (bad_63 - m_62)) 2))))), (8, .c (.int .i64 bad_63))], []⟩) (sub_gen [] rfl rfl ⟨zc rfl rfl, zc rfl rfl, zc rfl rfl, zc rfl rfl, trivial⟩ trivial) ?_
          refine SOps.nil ?_
          exact ⟨(n_68, (IntKind.wrap .i64 (m_62 + IntKind.wrap .i64 (Int.tdiv (IntKind.wrap .i64 (bad_63 - m_62)) 2)), bad_63)), h, Nat.lt_succ_self n_68, sub_gen [] rfl rfl ⟨zc rfl rfl, zc rfl rfl, zc rfl rfl, zc rfl rfl, trivial⟩ trivial⟩
        refine SCode.cond_f rfl g72 ?_
        refine SCode.region (show SOps _ _ _ [0, 1] _ _ from ?_)
        refine SOps.q rfl (.plain rfl) rfl (q_move rfl rfl) ?_
        refine SOps.q rfl (.plain rfl) rfl (q_assign rfl rfl) ?_
        refine SOps.sub (st' := ⟨[(0, .c (.int .i64 a0_total)), (1, .c (vI a1_caps)), (7, .c (.int .i64 m_62)), (8, .c (.int .i64 (IntKind.wrap .i64 (m_62 + IntKind.wrap .i64 (Int.tdiv (IntKind.wrap .i64 (bad_63 - m_62)) 2)))))], []⟩) (sub_gen [] rfl rfl ⟨zc rfl rfl, zc rfl rfl, zc rfl rfl, zc rfl rfl, trivial⟩ trivial) ?_
        refine SOps.nil ?_
        exact ⟨(n_68, (m_62, IntKind.wrap .i64 (m_62 + IntKind.wrap .i64 (Int.tdiv (IntKind.wrap .i64 (bad_63 - m_62)) 2)))), h, Nat.lt_succ_self n_68, sub_gen [] rfl rfl ⟨zc rfl rfl, zc rfl rfl, zc rfl rfl, zc rfl rfl, trivial⟩ trivial⟩
      refine SCode.cond_f rfl g69 ?_
      refine SCode.exit ?_
      exact ⟨m_62, h, sub_gen [] rfl rfl ⟨zc rfl rfl, zc rfl rfl, zc rfl rfl, trivial⟩ trivial⟩
  rintro m_10 h
  show SCode _ _ _ ⟨[(0, .c (.int .i64 a0_total)), (1, .c (vI a1_caps)), (7, .c (.int .i64 m_10))], []⟩ _
  replace h : fair_Share_p56 F a0_total a1_caps m_10 = some r := h
  unfold fair_Share_p56 at h
  refine SCode.seq ?_
  obtain ⟨c_11, g12, h⟩ := bind_out h
  try dsimp only at h
  refine SCode.region (show SOps _ _ _ [0, 1, 2, 3, 4, 5] _ _ from ?_)
  refine SOps.q rfl (.plain rfl) rfl (q_move rfl rfl) ?_
  refine SOps.q rfl (.plain rfl) rfl (q_move rfl rfl) ?_
  refine SOps.q rfl (.plain rfl) rfl (q_move rfl rfl) ?_
  refine SOps.q rfl (.plain rfl) rfl (q_call (fair_below_ok F m_10 a1_caps c_11 g12) [] rfl fn23 ⟨⟨_, rfl, .inl ⟨rfl, rfl⟩⟩, ⟨_, rfl, .inl ⟨rfl, rfl⟩⟩, trivial⟩ (.inl rfl)) ?_
  refine SOps.q rfl (.plain rfl) rfl (q_sub rfl rfl rfl) ?_
  refine SOps.q rfl (.plain rfl) rfl (q_assign rfl rfl) ?_
  refine SOps.sub (st' := ⟨[(1, .c (vI a1_caps)), (7, .c (.int .i64 m_10)), (10, .c (.int .i64 (IntKind.wrap .i64 (a0_total - c_11))))], []⟩) (sub_gen [] rfl rfl ⟨zc rfl rfl, zc rfl rfl, zc rfl rfl, trivial⟩ trivial) ?_
  refine SOps.nil ?_
  refine SCode.seq ?_
  obtain ⟨g13, h⟩ := guard_out h
  refine SCode.region (show SOps _ _ _ [0, 1, 2, 3] _ _ from ?_)
  refine SOps.q rfl (.plain rfl) rfl (q_move rfl rfl) ?_
  refine SOps.q rfl (.plain rfl) rfl (q_len_vec rfl rfl sl22) ?_
  refine SOps.e rfl (.plain rfl) (e_makeL (c := (cInt .i64)) (d0 := 0) rfl rfl rfl rfl rfl sl22 z3 rfl rfl rfl g13.1 (Int.le_refl _) g13.2.1 g13.2.2) ?_
  refine SOps.q rfl (.plain rfl) rfl (q_assign rfl rfl) ?_
  refine SOps.sub (st' := ⟨[(1, .c (vI a1_caps)), (7, .c (.int .i64 m_10)), (10, .c (.int .i64 (IntKind.wrap .i64 (a0_total - c_11)))), (11, .c (.own 0 (List.replicate (((a1_caps).length : Int)).toNat (0 : Int)).length))], [aI 3 (List.replicate (((a1_caps).length : Int)).toNat (0 : Int))]⟩) (sub_gen [0] rfl rfl ⟨zc rfl rfl, zc rfl rfl, zc rfl rfl, zc rfl rfl, trivial⟩ ⟨oa rfl, trivial⟩) ?_
  refine SOps.nil ?_
  refine SCode.join (σ := (List Int)) (S := fun s => ⟨[(11, .c (.own 0 s.length))], [aI 3 s]⟩) (g := fun s => fair_Share_p15 s = some r) ?_ ?_
  rotate_left
  · refine SCode.seq ?_
    refine SCode.region (show SOps _ _ _ [0, 1, 2] _ _ from ?_)
    refine SOps.q rfl (.plain rfl) rfl (q_move rfl rfl) ?_
    refine SOps.q rfl (.plain rfl) rfl (q_len_vec rfl rfl sl22) ?_
    refine SOps.q rfl (.plain rfl) rfl (q_move rfl rfl) ?_
    refine SOps.sub (st' := ⟨[(7, .c (.int .i64 m_10)), (10, .c (.int .i64 (IntKind.wrap .i64 (a0_total - c_11)))), (11, .c (.own 0 (List.replicate (((a1_caps).length : Int)).toNat (0 : Int)).length)), (52, .c (vI a1_caps)), (53, .c (.int .i64 (((a1_caps).length : Int)))), (54, .c (.int .i64 0))], [aI 3 (List.replicate (((a1_caps).length : Int)).toNat (0 : Int))]⟩) (sub_gen [0] rfl rfl ⟨zc rfl rfl, zc rfl rfl, zc rfl rfl, zc rfl rfl, zc rfl rfl, zc rfl rfl, trivial⟩ ⟨oa rfl, trivial⟩) ?_
    refine SOps.nil ?_
    refine SCode.block ?_
    refine SCode.sub (st' := ⟨[(7, .c (.int .i64 m_10)), (10, .c (.int .i64 (IntKind.wrap .i64 (a0_total - c_11)))), (11, .c (.own 0 (List.replicate (((a1_caps).length : Int)).toNat (0 : Int)).length)), (52, .c (vI a1_caps)), (53, .c (.int .i64 (((a1_caps).length : Int)))), (54, .c (.int .i64 0))], [aI 3 (List.replicate (((a1_caps).length : Int)).toNat (0 : Int))]⟩) (sub_gen [0] rfl rfl ⟨zc rfl rfl, zc rfl rfl, zc rfl rfl, zc rfl rfl, zc rfl rfl, zc rfl rfl, trivial⟩ ⟨oa rfl, trivial⟩) ?_
    refine (SCode.loop (σ := Nat × (Int × Int × (List Int))) (S := fun s => ⟨[(7, .c (.int .i64 m_10)), (10, .c (.int .i64 s.2.1)), (11, .c (.own 0 s.2.2.2.length)), (52, .c (vI a1_caps)), (53, .c (.int .i64 (((a1_caps).length : Int)))), (54, .c (.int .i64 s.2.2.1))], [aI 3 s.2.2.2]⟩) (g := fun s => fair_Share_l43 F a1_caps m_10 s.1 s.2.1 s.2.2.1 s.2.2.2 = some r) (μ := fun s => s.1) (F, (IntKind.wrap .i64 (a0_total - c_11), 0, List.replicate (((a1_caps).length : Int)).toNat (0 : Int))) h ?_)
    rintro ⟨n_43, ⟨rest_28, t54_29, o0_30⟩⟩ h
    replace h : fair_Share_l43 F a1_caps m_10 n_43 rest_28 t54_29 o0_30 = some r := h
    show SCode _ _ _ ⟨[(7, .c (.int .i64 m_10)), (10, .c (.int .i64 rest_28)), (11, .c (.own 0 o0_30.length)), (52, .c (vI a1_caps)), (53, .c (.int .i64 (((a1_caps).length : Int)))), (54, .c (.int .i64 t54_29))], [aI 3 o0_30]⟩ _
    cases n_43 with
    | zero => cases h
    | succ n_43 =>
      replace h : fair_Share_b43 F a1_caps m_10 (fun rest_28 t54_29 o0_30 => fair_Share_l43 F a1_caps m_10 n_43 rest_28 t54_29 o0_30) rest_28 t54_29 o0_30 = some r := h
      unfold fair_Share_b43 at h
      refine SCode.seq ?_
      refine SCode.region (show SOps _ _ _ [0] _ _ from ?_)
      refine SOps.q rfl (.plain rfl) rfl (q_lss rfl rfl rfl) ?_
      refine SOps.sub (st' := ⟨[(7, .c (.int .i64 m_10)), (10, .c (.int .i64 rest_28)), (11, .c (.own 0 o0_30.length)), (52, .c (vI a1_caps)), (53, .c (.int .i64 (((a1_caps).length : Int)))), (54, .c (.int .i64 t54_29)), (55, .c (.bool (decide (t54_29 < ((a1_caps).length : Int)))))], [aI 3 o0_30]⟩) (sub_gen [0] rfl rfl ⟨zc rfl rfl, zc rfl rfl, zc rfl rfl, zc rfl rfl, zc rfl rfl, zc rfl rfl, zc rfl rfl, trivial⟩ ⟨oa rfl, trivial⟩) ?_
      refine SOps.nil ?_
      refine SCode.seq ?_
      rcases cond_out h with ⟨g44, h⟩ | ⟨g44, h⟩
      · refine SCode.cond_t rfl g44 ?_
        refine SCode.skip ?_
        refine SCode.join (σ := Int × (List Int)) (S := fun s => ⟨[(7, .c (.int .i64 m_10)), (10, .c (.int .i64 s.1)), (11, .c (.own 0 s.2.length)), (52, .c (vI a1_caps)), (53, .c (.int .i64 (((a1_caps).length : Int)))), (54, .c (.int .i64 t54_29))], [aI 3 s.2]⟩) (g := fun s => fair_Share_p47 t54_29 (fun rest_28 t54_29 o0_30 => fair_Share_l43 F a1_caps m_10 n_43 rest_28 t54_29 o0_30) s.1 s.2 = some r) ?_ ?_
        rotate_left
        · refine SCode.block ?_
          refine SCode.seq ?_
          obtain ⟨g48, h⟩ := guard_out h
          refine SCode.region (show SOps _ _ _ [0, 1, 2, 3, 4] _ _ from ?_)
          refine SOps.q rfl (.plain rfl) rfl (q_move rfl rfl) ?_
          refine SOps.q rfl (.plain rfl) rfl (q_index_vec rfl rfl rfl sl22 rfl g48.1 g48.2) ?_
          refine SOps.q rfl (.plain rfl) rfl (q_load_eptr rfl rfl ty3) ?_
          refine SOps.q rfl (.plain rfl) rfl (q_assign rfl rfl) ?_
          refine SOps.q rfl (.plain rfl) rfl (q_assign rfl rfl) ?_
          refine SOps.sub (st' := ⟨[(7, .c (.int .i64 m_10)), (10, .c (.int .i64 rest_28)), (11, .c (.own 0 o0_30.length)), (12, .c (.int .i64 t54_29)), (13, .c (.int .i64 (a1_caps.getD t54_29.toNat 0))), (52, .c (vI a1_caps)), (53, .c (.int .i64 (((a1_caps).length : Int)))), (54, .c (.int .i64 t54_29))], [aI 3 o0_30]⟩) (sub_gen [0] rfl rfl ⟨zc rfl rfl, zc rfl rfl, zc rfl rfl, zc rfl rfl, zc rfl rfl, zc rfl rfl, zc rfl rfl, zc rfl rfl, trivial⟩ ⟨oa rfl, trivial⟩) ?_
          refine SOps.nil ?_
          refine SCode.seq ?_
          obtain ⟨c_49, g50, h⟩ := bind_out h
          try dsimp only at h
          obtain ⟨g51, h⟩ := guard_out h
          refine SCode.region (show SOps _ _ _ [0, 1, 2, 3, 4, 5, 6, 7] _ _ from ?_)
          refine SOps.q rfl (.plain rfl) rfl (q_move rfl rfl) ?_
          refine SOps.q rfl (.plain rfl) rfl (q_move rfl rfl) ?_
          refine SOps.q rfl (.plain rfl) rfl (q_move rfl rfl) ?_
          refine SOps.q rfl (.plain rfl) rfl (q_move rfl rfl) ?_
          refine SOps.q rfl (.plain rfl) rfl (q_bsliceL (c := (cInt .i64)) (d0 := 0) [a1_caps.getD t54_29.toNat 0] rfl rfl sl22 z3 rfl rfl rfl rfl rfl rfl rfl) ?_
          refine SOps.q rfl (.plain rfl) rfl (q_call (fair_least_int_ok F m_10 ([a1_caps.getD t54_29.toNat 0]) c_49 g50) [] rfl fn24 ⟨⟨_, rfl, .inl ⟨rfl, rfl⟩⟩, ⟨_, rfl, .inl ⟨rfl, rfl⟩⟩, trivial⟩ (.inl rfl)) ?_
          refine SOps.q rfl (.plain rfl) rfl (q_index_own rfl rfl rfl sl22 g51.1 g51.2) ?_
          refine SOps.e rfl (.plain rfl) (e_storeL c_49 rfl rfl rfl rfl rfl (toNat_lt g51) ty3 rfl rfl rfl rfl rfl rfl) ?_
          refine SOps.sub (st' := ⟨[(7, .c (.int .i64 m_10)), (10, .c (.int .i64 rest_28)), (11, .c (.own 0 (o0_30.set t54_29.toNat c_49).length)), (12, .c (.int .i64 t54_29)), (13, .c (.int .i64 (a1_caps.getD t54_29.toNat 0))), (52, .c (vI a1_caps)), (53, .c (.int .i64 (((a1_caps).length : Int)))), (54, .c (.int .i64 t54_29))], [aI 3 (o0_30.set t54_29.toNat c_49)]⟩) (sub_gen [0] rfl rfl ⟨zc rfl rfl, zc rfl rfl, ⟨_, rfl, .inl ⟨rfl, congrArg (Cell.own 0) (List.length_set : (o0_30.set t54_29.toNat c_49).length = o0_30.length).symm⟩⟩, zc rfl rfl, zc rfl rfl, zc rfl rfl, zc rfl rfl, zc rfl rfl, trivial⟩ ⟨oa rfl, trivial⟩) ?_
          refine SOps.nil ?_
          refine SCode.seq ?_
          rcases cond_out h with ⟨g52, h⟩ | ⟨g52, h⟩
          · refine SCode.region (show SOps _ _ _ [0, 1, 2, 3, 4, 5, 6] _ _ from ?_)
            refine SOps.q rfl (.plain rfl) rfl (q_move rfl rfl) ?_
            refine SOps.q rfl (.plain rfl) rfl (q_gtr rfl rfl rfl) ?_
            refine SOps.q rfl (.plain rfl) rfl (q_move rfl rfl) ?_
            refine SOps.q rfl (.guard 2 68 true rfl rfl (gT g52)) rfl (q_move rfl rfl) ?_
            refine SOps.q rfl (.guard 2 68 true rfl rfl (gT g52)) rfl (q_move rfl rfl) ?_
            refine SOps.q rfl (.guard 2 68 true rfl rfl (gT g52)) rfl (q_gtr rfl rfl rfl) ?_
            refine SOps.q rfl (.plain rfl) rfl (q_pick_t rfl rfl g52 rfl) ?_
            refine SOps.sub (st' := ⟨[(7, .c (.int .i64 m_10)), (10, .c (.int .i64 rest_28)), (11, .c (.own 0 (o0_30.set t54_29.toNat c_49).length)), (12, .c (.int .i64 t54_29)), (52, .c (vI a1_caps)), (53, .c (.int .i64 (((a1_caps).length : Int)))), (54, .c (.int .i64 t54_29)), (72, .c (.bool (decide (m_10 < a1_caps.getD t54_29.toNat 0))))], [aI 3 (o0_30.set t54_29.toNat c_49)]⟩) (sub_gen [0] rfl rfl ⟨zc rfl rfl, zc rfl rfl, zc rfl rfl, zc rfl rfl, zc rfl rfl, zc rfl rfl, zc rfl rfl, zc rfl rfl, trivial⟩ ⟨oa rfl, trivial⟩) ?_
            refine SOps.nil ?_
            rcases cond_out h with ⟨g53, h⟩ | ⟨g53, h⟩
            · refine SCode.cond_t rfl g53 ?_
              refine SCode.seq ?_
              obtain ⟨g54, h⟩ := guard_out h
              obtain ⟨g55, h⟩ := guard_out h
              refine SCode.region (show SOps _ _ _ [0, 1, 2, 3, 4, 5, 6] _ _ from ?_)
              refine SOps.q rfl (.plain rfl) rfl (q_move rfl rfl) ?_
              refine SOps.q rfl (.plain rfl) rfl (q_move rfl rfl) ?_
              refine SOps.q rfl (.plain rfl) rfl (q_index_own rfl rfl rfl sl22 g54.1 g54.2) ?_
              refine SOps.q rfl (.plain rfl) rfl (q_load_aptr rfl rfl rfl (toNat_lt g54) rfl ty3) ?_
              refine SOps.q rfl (.plain rfl) rfl (q_add rfl rfl rfl) ?_
              refine SOps.q rfl (.plain rfl) rfl (q_index_own rfl rfl rfl sl22 g55.1 g55.2) ?_
              refine SOps.e rfl (.plain rfl) (e_storeL (IntKind.wrap .i64 ((o0_30.set t54_29.toNat c_49).getD t54_29.toNat 0 + 1)) rfl rfl rfl rfl rfl (toNat_lt g55) ty3 rfl rfl rfl rfl rfl rfl) ?_
              refine SOps.sub (st' := ⟨[(7, .c (.int .i64 m_10)), (10, .c (.int .i64 rest_28)), (11, .c (.own 0 ((o0_30.set t54_29.toNat c_49).set t54_29.toNat (IntKind.wrap .i64 ((o0_30.set t54_29.toNat c_49).getD t54_29.toNat 0 + 1))).length)), (52, .c (vI a1_caps)), (53, .c (.int .i64 (((a1_caps).length : Int)))), (54, .c (.int .i64 t54_29))], [aI 3 ((o0_30.set t54_29.toNat c_49).set t54_29.toNat (IntKind.wrap .i64 ((o0_30.set t54_29.toNat c_49).getD t54_29.toNat 0 + 1)))]⟩) (sub_gen [0] rfl rfl ⟨zc rfl rfl, zc rfl rfl, ⟨_, rfl, .inl ⟨rfl, congrArg (Cell.own 0) (List.length_set : ((o0_30.set t54_29.toNat c_49).set t54_29.toNat (IntKind.wrap .i64 ((o0_30.set t54_29.toNat c_49).getD t54_29.toNat 0 + 1))).length = (o0_30.set t54_29.toNat c_49).length).symm⟩⟩, zc rfl rfl, zc rfl rfl, zc rfl rfl, trivial⟩ ⟨oa rfl, trivial⟩) ?_
              refine SOps.nil ?_
              refine SCode.region (show SOps _ _ _ [0, 1, 2] _ _ from ?_)
              refine SOps.q rfl (.plain rfl) rfl (q_move rfl rfl) ?_
              refine SOps.q rfl (.plain rfl) rfl (q_sub rfl rfl rfl) ?_
              refine SOps.q rfl (.plain rfl) rfl (q_assign rfl rfl) ?_
              refine SOps.sub (st' := ⟨[(7, .c (.int .i64 m_10)), (10, .c (.int .i64 (IntKind.wrap .i64 (rest_28 - 1)))), (11, .c (.own 0 ((o0_30.set t54_29.toNat c_49).set t54_29.toNat (IntKind.wrap .i64 ((o0_30.set t54_29.toNat c_49).getD t54_29.toNat 0 + 1))).length)), (52, .c (vI a1_caps)), (53, .c (.int .i64 (((a1_caps).length : Int)))), (54, .c (.int .i64 t54_29))], [aI 3 ((o0_30.set t54_29.toNat c_49).set t54_29.toNat (IntKind.wrap .i64 ((o0_30.set t54_29.toNat c_49).getD t54_29.toNat 0 + 1)))]⟩) (sub_gen [0] rfl rfl ⟨zc rfl rfl, zc rfl rfl, zc rfl rfl, zc rfl rfl, zc rfl rfl, zc rfl rfl, trivial⟩ ⟨oa rfl, trivial⟩) ?_
              refine SOps.nil ?_
              exact ⟨(IntKind.wrap .i64 (rest_28 - 1), (o0_30.set t54_29.toNat c_49).set t54_29.toNat (IntKind.wrap .i64 ((o0_30.set t54_29.toNat c_49).getD t54_29.toNat 0 + 1))), h, sub_gen [0] rfl rfl ⟨zc rfl rfl, zc rfl rfl, zc rfl rfl, zc rfl rfl, zc rfl rfl, zc rfl rfl, trivial⟩ ⟨oa rfl, trivial⟩⟩
            refine SCode.cond_f rfl g53 ?_
            refine SCode.skip ?_
            exact ⟨(rest_28, o0_30.set t54_29.toNat c_49), h, sub_gen [0] rfl rfl ⟨zc rfl rfl, zc rfl rfl, zc rfl rfl, zc rfl rfl, zc rfl rfl, zc rfl rfl, trivial⟩ ⟨oa rfl, trivial⟩⟩
          refine SCode.region (show SOps _ _ _ [0, 1, 2, 3, 4, 5, 6] _ _ from ?_)
          refine SOps.q rfl (.plain rfl) rfl (q_move rfl rfl) ?_
          refine SOps.q rfl (.plain rfl) rfl (q_gtr rfl rfl rfl) ?_
          refine SOps.q rfl (.plain rfl) rfl (q_move rfl rfl) ?_
          refine SOps.skip rfl 2 68 true rfl rfl (.inl (gF g52)) rfl ?_
          refine SOps.skip rfl 2 68 true rfl rfl (.inl (gF g52)) rfl ?_
          refine SOps.skip rfl 2 68 true rfl rfl (.inl (gF g52)) rfl ?_
          refine SOps.q rfl (.plain rfl) rfl (q_pick_f rfl rfl g52 rfl) ?_
          refine SOps.sub (st' := ⟨[(7, .c (.int .i64 m_10)), (10, .c (.int .i64 rest_28)), (11, .c (.own 0 (o0_30.set t54_29.toNat c_49).length)), (12, .c (.int .i64 t54_29)), (52, .c (vI a1_caps)), (53, .c (.int .i64 (((a1_caps).length : Int)))), (54, .c (.int .i64 t54_29)), (72, .c (.bool false))], [aI 3 (o0_30.set t54_29.toNat c_49)]⟩) (sub_gen [0] rfl rfl ⟨zc rfl rfl, zc rfl rfl, zc rfl rfl, zc rfl rfl, zc rfl rfl, zc rfl rfl, zc rfl rfl, zc rfl rfl, trivial⟩ ⟨oa rfl, trivial⟩) ?_
          refine SOps.nil ?_
          refine SCode.cond_f rfl rfl ?_
          refine SCode.skip ?_
          exact ⟨(rest_28, o0_30.set t54_29.toNat c_49), h, sub_gen [0] rfl rfl ⟨zc rfl rfl, zc rfl rfl, zc rfl rfl, zc rfl rfl, zc rfl rfl, zc rfl rfl, trivial⟩ ⟨oa rfl, trivial⟩⟩
        rintro ⟨rest_45, o0_46⟩ h
        show SCode _ _ _ ⟨[(7, .c (.int .i64 m_10)), (10, .c (.int .i64 rest_45)), (11, .c (.own 0 o0_46.length)), (52, .c (vI a1_caps)), (53, .c (.int .i64 (((a1_caps).length : Int)))), (54, .c (.int .i64 t54_29))], [aI 3 o0_46]⟩ _
        replace h : fair_Share_p47 t54_29 (fun rest_28 t54_29 o0_30 => fair_Share_l43 F a1_caps m_10 n_43 rest_28 t54_29 o0_30) rest_45 o0_46 = some r := h
        unfold fair_Share_p47 at h
        refine SCode.region (show SOps _ _ _ [0, 1] _ _ from ?_)
        refine SOps.q rfl (.plain rfl) rfl (q_add rfl rfl rfl) ?_
        refine SOps.q rfl (.plain rfl) rfl (q_move rfl rfl) ?_
        refine SOps.sub (st' := ⟨[(7, .c (.int .i64 m_10)), (10, .c (.int .i64 rest_45)), (11, .c (.own 0 o0_46.length)), (52, .c (vI a1_caps)), (53, .c (.int .i64 (((a1_caps).length : Int)))), (54, .c (.int .i64 (IntKind.wrap .i64 (t54_29 + 1))))], [aI 3 o0_46]⟩) (sub_gen [0] rfl rfl ⟨zc rfl rfl, zc rfl rfl, zc rfl rfl, zc rfl rfl, zc rfl rfl, zc rfl rfl, trivial⟩ ⟨oa rfl, trivial⟩) ?_
        refine SOps.nil ?_
        exact ⟨(n_43, (rest_45, IntKind.wrap .i64 (t54_29 + 1), o0_46)), h, Nat.lt_succ_self n_43, sub_gen [0] rfl rfl ⟨zc rfl rfl, zc rfl rfl, zc rfl rfl, zc rfl rfl, zc rfl rfl, zc rfl rfl, trivial⟩ ⟨oa rfl, trivial⟩⟩
      refine SCode.cond_f rfl g44 ?_
      refine SCode.exit ?_
      exact ⟨o0_30, h, sub_gen [0] rfl rfl ⟨zc rfl rfl, trivial⟩ ⟨oa rfl, trivial⟩⟩
  rintro o0_14 h
  show SCode _ _ _ ⟨[(11, .c (.own 0 o0_14.length))], [aI 3 o0_14]⟩ _
  replace h : fair_Share_p15 o0_14 = some r := h
  unfold fair_Share_p15 at h
  refine SCode.seq ?_
  refine SCode.region (show SOps _ _ _ [0, 1, 2] _ _ from ?_)
  refine SOps.q rfl (.plain rfl) rfl (q_move rfl rfl) ?_
  refine SOps.q rfl (.plain rfl) rfl (q_assign rfl rfl) ?_
  refine SOps.q rfl (.plain rfl) rfl (q_assign rfl rfl) ?_
  refine SOps.sub (st' := ⟨[(4, .c (.own 0 o0_14.length)), (5, .c (.int .i64 0))], [aI 3 o0_14]⟩) (sub_gen [0] rfl rfl ⟨zc rfl rfl, zc rfl rfl, trivial⟩ ⟨oa rfl, trivial⟩) ?_
  refine SOps.nil ?_
  refine SCode.ret ?_
  obtain rfl := Option.some.inj h
  exact ⟨⟨[(4, .c (vI o0_14)), (5, .c (.int .i64 0))], []⟩, _, sub_gen [] rfl rfl ⟨⟨_, rfl, .inr (.inl ⟨_, _, _, _, _, _, _, rfl, rfl, rfl, Nat.le_refl _, fun _ _ _ _ => rfl, by decide⟩)⟩, zc rfl rfl, trivial⟩ trivial, resA2 (v1 := .c (vI o0_14)) (v2 := .c (.int .i64 0)) rfl rfl rfl, rfl⟩
set_option maxRecDepth 100000 in
set_option maxHeartbeats 8000000 in
theorem slices_Equal_int_int_ok (F : Nat) (a0_s1 : List Int) (a1_s2 : List Int) (r : Bool) (h : slices_Equal_int_int F a0_s1 a1_s2 = some r) :
    SFun Try.prog 12 [] [.c (vI a0_s1), .c (vI a1_s2)] (fun x _ => x = .c (.bool r)) := by
  refine SFun.of (n := 26) Try.func12 rfl rfl rfl ?_
  unfold slices_Equal_int_int at h
  show SCode _ _ _ ⟨[(0, .c (vI a0_s1)), (1, .c (vI a1_s2))], []⟩ _
  refine SCode.seq ?_
  refine SCode.region (show SOps _ _ _ [0] _ _ from ?_)
  refine SOps.q rfl (.plain rfl) rfl (q_assign rfl rfl) ?_
  refine SOps.sub (st' := ⟨[(0, .c (vI a0_s1)), (1, .c (vI a1_s2))], []⟩) (sub_gen [] rfl rfl ⟨zc rfl rfl, zc rfl rfl, trivial⟩ trivial) ?_
  refine SOps.nil ?_
  refine SCode.seq ?_
  refine SCode.seq ?_
  refine SCode.region (show SOps _ _ _ [0, 1, 2, 3, 4] _ _ from ?_)
  refine SOps.q rfl (.plain rfl) rfl (q_move rfl rfl) ?_
  refine SOps.q rfl (.plain rfl) rfl (q_len_vec rfl rfl sl22) ?_
  refine SOps.q rfl (.plain rfl) rfl (q_move rfl rfl) ?_
  refine SOps.q rfl (.plain rfl) rfl (q_len_vec rfl rfl sl22) ?_
  refine SOps.q rfl (.plain rfl) rfl (q_neq rfl rfl rfl) ?_
  refine SOps.sub (st' := ⟨[(0, .c (vI a0_s1)), (1, .c (vI a1_s2)), (10, .c (.bool ((!decide (((a0_s1).length : Int) = ((a1_s2).length : Int))))))], []⟩) (sub_gen [] rfl rfl ⟨zc rfl rfl, zc rfl rfl, zc rfl rfl, trivial⟩ trivial) ?_
  refine SOps.nil ?_
  rcases cond_out h with ⟨g1, h⟩ | ⟨g1, h⟩
  · refine SCode.cond_t rfl g1 ?_
    refine SCode.seq ?_
    refine SCode.region (show SOps _ _ _ [0] _ _ from ?_)
    refine SOps.q rfl (.plain rfl) rfl (q_assign rfl rfl) ?_
    refine SOps.sub (st' := ⟨[(4, .c (.bool false))], []⟩) (sub_gen [] rfl rfl ⟨zc rfl rfl, trivial⟩ trivial) ?_
    refine SOps.nil ?_
    refine SCode.ret ?_
    obtain rfl := Option.some.inj h
    exact ⟨⟨[(4, .c (.bool false))], []⟩, _, sub_gen [] rfl rfl ⟨zc rfl rfl, trivial⟩ trivial, resA1 (v := .c (.bool false)) rfl rfl, rfl⟩
  refine SCode.cond_f rfl g1 ?_
  refine SCode.skip ?_
  refine SCode.join (σ := Unit) (S := fun s => ⟨[], []⟩) (g := fun s => slices_Equal_int_int_p2 = some r) ?_ ?_
  rotate_left
  · refine SCode.seq ?_
    refine SCode.region (show SOps _ _ _ [0, 1, 2] _ _ from ?_)
    refine SOps.q rfl (.plain rfl) rfl (q_move rfl rfl) ?_
    refine SOps.q rfl (.plain rfl) rfl (q_len_vec rfl rfl sl22) ?_
    refine SOps.q rfl (.plain rfl) rfl (q_move rfl rfl) ?_
    refine SOps.sub (st' := ⟨[(0, .c (vI a0_s1)), (1, .c (vI a1_s2)), (12, .c (.int .i64 (((a0_s1).length : Int)))), (13, .c (.int .i64 0))], []⟩) (sub_gen [] rfl rfl ⟨zc rfl rfl, zc rfl rfl, zc rfl rfl, zc rfl rfl, trivial⟩ trivial) ?_
    refine SOps.nil ?_
    refine SCode.block ?_
    refine SCode.sub (st' := ⟨[(0, .c (vI a0_s1)), (1, .c (vI a1_s2)), (12, .c (.int .i64 (((a0_s1).length : Int)))), (13, .c (.int .i64 0))], []⟩) (sub_gen [] rfl rfl ⟨zc rfl rfl, zc rfl rfl, zc rfl rfl, zc rfl rfl, trivial⟩ trivial) ?_
    refine (SCode.loop (σ := Nat × Int) (S := fun s => ⟨[(0, .c (vI a0_s1)), (1, .c (vI a1_s2)), (12, .c (.int .i64 (((a0_s1).length : Int)))), (13, .c (.int .i64 s.2))], []⟩) (g := fun s => slices_Equal_int_int_l12 a0_s1 a1_s2 s.1 s.2 = some r) (μ := fun s => s.1) (F, 0) h ?_)
    rintro ⟨n_12, t13_7⟩ h
    replace h : slices_Equal_int_int_l12 a0_s1 a1_s2 n_12 t13_7 = some r := h
    show SCode _ _ _ ⟨[(0, .c (vI a0_s1)), (1, .c (vI a1_s2)), (12, .c (.int .i64 (((a0_s1).length : Int)))), (13, .c (.int .i64 t13_7))], []⟩ _
    cases n_12 with
    | zero => cases h
    | succ n_12 =>
      replace h : slices_Equal_int_int_b12 a0_s1 a1_s2 (fun t13_7 => slices_Equal_int_int_l12 a0_s1 a1_s2 n_12 t13_7) t13_7 = some r := h
      unfold slices_Equal_int_int_b12 at h
      refine SCode.seq ?_
      refine SCode.region (show SOps _ _ _ [0] _ _ from ?_)
      refine SOps.q rfl (.plain rfl) rfl (q_lss rfl rfl rfl) ?_
      refine SOps.sub (st' := ⟨[(0, .c (vI a0_s1)), (1, .c (vI a1_s2)), (12, .c (.int .i64 (((a0_s1).length : Int)))), (13, .c (.int .i64 t13_7)), (14, .c (.bool (decide (t13_7 < ((a0_s1).length : Int)))))], []⟩) (sub_gen [] rfl rfl ⟨zc rfl rfl, zc rfl rfl, zc rfl rfl, zc rfl rfl, zc rfl rfl, trivial⟩ trivial) ?_
      refine SOps.nil ?_
      refine SCode.seq ?_
      rcases cond_out h with ⟨g13, h⟩ | ⟨g13, h⟩
      · refine SCode.cond_t rfl g13 ?_
        refine SCode.skip ?_
        refine SCode.seq ?_
        refine SCode.block ?_
        refine SCode.seq ?_
        refine SCode.region (show SOps _ _ _ [0, 1] _ _ from ?_)
        refine SOps.q rfl (.plain rfl) rfl (q_move rfl rfl) ?_
        refine SOps.q rfl (.plain rfl) rfl (q_assign rfl rfl) ?_
        refine SOps.sub (st' := ⟨[(0, .c (vI a0_s1)), (1, .c (vI a1_s2)), (5, .c (.int .i64 t13_7)), (12, .c (.int .i64 (((a0_s1).length : Int)))), (13, .c (.int .i64 t13_7))], []⟩) (sub_gen [] rfl rfl ⟨zc rfl rfl, zc rfl rfl, zc rfl rfl, zc rfl rfl, zc rfl rfl, trivial⟩ trivial) ?_
        refine SOps.nil ?_
        refine SCode.seq ?_
        obtain ⟨g14, h⟩ := guard_out h
        obtain ⟨g15, h⟩ := guard_out h
        refine SCode.draw (s' := [(24, .c (.bool ((!decide (a0_s1.getD t13_7.toNat 0 = a1_s2.getD t13_7.toNat 0))))), (23, .c (.int .i64 (a1_s2.getD t13_7.toNat 0))), (22, .c (.eptr 1 ((cInt .i64) (a1_s2.getD t13_7.toNat 0)) 0)), (21, .c (.int .i64 t13_7)), (20, .c (vI a1_s2)), (19, .c (.int .i64 (a0_s1.getD t13_7.toNat 0))), (18, .c (.eptr 1 ((cInt .i64) (a0_s1.getD t13_7.toNat 0)) 0)), (17, .c (.int .i64 t13_7)), (16, .c (vI a0_s1)), (0, .c (vI a0_s1)), (1, .c (vI a1_s2)), (5, .c (.int .i64 t13_7)), (12, .c (.int .i64 (((a0_s1).length : Int)))), (13, .c (.int .i64 t13_7))]) mixed [[], [], [0, 1], [0, 1, 2], [], [], [4, 5], [4, 5, 6], [0, 1, 2, 3, 4, 5, 6, 7]] 9 0 rfl rfl ?_ ?_
        · refine QChain.run rfl (.plain rfl) rfl (q_move rfl rfl) ?_
          refine QChain.run rfl (.plain rfl) rfl (q_move rfl rfl) ?_
          refine QChain.run rfl (.plain rfl) rfl (q_index_vec rfl rfl rfl sl22 rfl g14.1 g14.2) ?_
          refine QChain.run rfl (.plain rfl) rfl (q_load_eptr rfl rfl ty3) ?_
          refine QChain.run rfl (.plain rfl) rfl (q_move rfl rfl) ?_
          refine QChain.run rfl (.plain rfl) rfl (q_move rfl rfl) ?_
          refine QChain.run rfl (.plain rfl) rfl (q_index_vec rfl rfl rfl sl22 rfl g15.1 g15.2) ?_
          refine QChain.run rfl (.plain rfl) rfl (q_load_eptr rfl rfl ty3) ?_
          refine QChain.run rfl (.plain rfl) rfl (q_neq rfl rfl rfl) ?_
          exact QChain.nil _ _
        refine (show SOps _ _ _ [] _ _ from ?_)
        refine SOps.sub (st' := ⟨[(0, .c (vI a0_s1)), (1, .c (vI a1_s2)), (12, .c (.int .i64 (((a0_s1).length : Int)))), (13, .c (.int .i64 t13_7)), (24, .c (.bool ((!decide (a0_s1.getD t13_7.toNat 0 = a1_s2.getD t13_7.toNat 0)))))], []⟩) (sub_gen [] rfl rfl ⟨zc rfl rfl, zc rfl rfl, zc rfl rfl, zc rfl rfl, zc rfl rfl, trivial⟩ trivial) ?_
        refine SOps.nil ?_
        rcases cond_out h with ⟨g16, h⟩ | ⟨g16, h⟩
        · refine SCode.cond_t rfl g16 ?_
          refine SCode.seq ?_
          refine SCode.region (show SOps _ _ _ [0] _ _ from ?_)
          refine SOps.q rfl (.plain rfl) rfl (q_assign rfl rfl) ?_
          refine SOps.sub (st' := ⟨[(4, .c (.bool false))], []⟩) (sub_gen [] rfl rfl ⟨zc rfl rfl, trivial⟩ trivial) ?_
          refine SOps.nil ?_
          refine SCode.ret ?_
          obtain rfl := Option.some.inj h
          exact ⟨⟨[(4, .c (.bool false))], []⟩, _, sub_gen [] rfl rfl ⟨zc rfl rfl, trivial⟩ trivial, resA1 (v := .c (.bool false)) rfl rfl, rfl⟩
        refine SCode.cond_f rfl g16 ?_
        refine SCode.skip ?_
        refine SCode.region (show SOps _ _ _ [0, 1] _ _ from ?_)
        refine SOps.q rfl (.plain rfl) rfl (q_add rfl rfl rfl) ?_
        refine SOps.q rfl (.plain rfl) rfl (q_move rfl rfl) ?_
        refine SOps.sub (st' := ⟨[(0, .c (vI a0_s1)), (1, .c (vI a1_s2)), (12, .c (.int .i64 (((a0_s1).length : Int)))), (13, .c (.int .i64 (IntKind.wrap .i64 (t13_7 + 1))))], []⟩) (sub_gen [] rfl rfl ⟨zc rfl rfl, zc rfl rfl, zc rfl rfl, zc rfl rfl, trivial⟩ trivial) ?_
        refine SOps.nil ?_
        exact ⟨(n_12, IntKind.wrap .i64 (t13_7 + 1)), h, Nat.lt_succ_self n_12, sub_gen [] rfl rfl ⟨zc rfl rfl, zc rfl rfl, zc rfl rfl, zc rfl rfl, trivial⟩ trivial⟩
      refine SCode.cond_f rfl g13 ?_
      refine SCode.exit ?_
      exact ⟨(), h, sub_gen [] rfl rfl trivial trivial⟩
  rintro ⟨⟩ h
  show SCode _ _ _ ⟨[], []⟩ _
  replace h : slices_Equal_int_int_p2 = some r := h
  unfold slices_Equal_int_int_p2 at h
  refine SCode.seq ?_
  refine SCode.region (show SOps _ _ _ [0] _ _ from ?_)
  refine SOps.q rfl (.plain rfl) rfl (q_assign rfl rfl) ?_
  refine SOps.sub (st' := ⟨[(4, .c (.bool true))], []⟩) (sub_gen [] rfl rfl ⟨zc rfl rfl, trivial⟩ trivial) ?_
  refine SOps.nil ?_
  refine SCode.ret ?_
  obtain rfl := Option.some.inj h
  exact ⟨⟨[(4, .c (.bool true))], []⟩, _, sub_gen [] rfl rfl ⟨zc rfl rfl, trivial⟩ trivial, resA1 (v := .c (.bool true)) rfl rfl, rfl⟩
set_option maxRecDepth 100000 in
set_option maxHeartbeats 8000000 in
theorem cmp_isNaN_int_ok (F : Nat) (a0_x : Int) (r : Bool) (h : cmp_isNaN_int F a0_x = some r) :
    SFun Try.prog 41 [] [.c (.int .i64 a0_x)] (fun x _ => x = .c (.bool r)) := by
  refine SFun.of (n := 6) Try.func41 rfl rfl rfl ?_
  unfold cmp_isNaN_int at h
  show SCode _ _ _ ⟨[(0, .c (.int .i64 a0_x))], []⟩ _
  refine SCode.seq ?_
  refine SCode.region (show SOps _ _ _ [0] _ _ from ?_)
  refine SOps.q rfl (.plain rfl) rfl (q_assign rfl rfl) ?_
  refine SOps.sub (st' := ⟨[(0, .c (.int .i64 a0_x))], []⟩) (sub_gen [] rfl rfl ⟨zc rfl rfl, trivial⟩ trivial) ?_
  refine SOps.nil ?_
  refine SCode.seq ?_
  refine SCode.region (show SOps _ _ _ [0, 1, 2, 3] _ _ from ?_)
  refine SOps.q rfl (.plain rfl) rfl (q_move rfl rfl) ?_
  refine SOps.q rfl (.plain rfl) rfl (q_move rfl rfl) ?_
  refine SOps.q rfl (.plain rfl) rfl (q_neq rfl rfl rfl) ?_
  refine SOps.q rfl (.plain rfl) rfl (q_assign rfl rfl) ?_
  refine SOps.sub (st' := ⟨[(2, .c (.bool ((!decide (a0_x = a0_x)))))], []⟩) (sub_gen [] rfl rfl ⟨zc rfl rfl, trivial⟩ trivial) ?_
  refine SOps.nil ?_
  refine SCode.ret ?_
  obtain rfl := Option.some.inj h
  exact ⟨⟨[(2, .c (.bool ((!decide (a0_x = a0_x)))))], []⟩, _, sub_gen [] rfl rfl ⟨zc rfl rfl, trivial⟩ trivial, resA1 (v := .c (.bool ((!decide (a0_x = a0_x))))) rfl rfl, rfl⟩
set_option maxRecDepth 100000 in
set_option maxHeartbeats 8000000 in
theorem cmp_Compare_int_ok (F : Nat) (a0_x : Int) (a1_y : Int) (r : Int) (h : cmp_Compare_int F a0_x a1_y = some r) :
    SFun Try.prog 35 [] [.c (.int .i64 a0_x), .c (.int .i64 a1_y)] (fun x _ => x = .c (.int .i64 r)) := by
  refine SFun.of (n := 20) Try.func35 rfl rfl rfl ?_
  unfold cmp_Compare_int at h
  show SCode _ _ _ ⟨[(0, .c (.int .i64 a0_x)), (1, .c (.int .i64 a1_y))], []⟩ _
  refine SCode.seq ?_
  refine SCode.region (show SOps _ _ _ [0] _ _ from ?_)
  refine SOps.q rfl (.plain rfl) rfl (q_assign rfl rfl) ?_
  refine SOps.sub (st' := ⟨[(0, .c (.int .i64 a0_x)), (1, .c (.int .i64 a1_y))], []⟩) (sub_gen [] rfl rfl ⟨zc rfl rfl, zc rfl rfl, trivial⟩ trivial) ?_
  refine SOps.nil ?_
  refine SCode.seq ?_
  obtain ⟨c_1, g2, h⟩ := bind_out h
  try dsimp only at h
  refine SCode.region (show SOps _ _ _ [0, 1, 2] _ _ from ?_)
  refine SOps.q rfl (.plain rfl) rfl (q_move rfl rfl) ?_
  refine SOps.q rfl (.plain rfl) rfl (q_call (cmp_isNaN_int_ok F a0_x c_1 g2) [] rfl fn41 ⟨⟨_, rfl, .inl ⟨rfl, rfl⟩⟩, trivial⟩ (.inl rfl)) ?_
  refine SOps.q rfl (.plain rfl) rfl (q_assign rfl rfl) ?_
  refine SOps.sub (st' := ⟨[(0, .c (.int .i64 a0_x)), (1, .c (.int .i64 a1_y)), (5, .c (.bool c_1))], []⟩) (sub_gen [] rfl rfl ⟨zc rfl rfl, zc rfl rfl, zc rfl rfl, trivial⟩ trivial) ?_
  refine SOps.nil ?_
  refine SCode.seq ?_
  obtain ⟨c_3, g4, h⟩ := bind_out h
  try dsimp only at h
  refine SCode.region (show SOps _ _ _ [0, 1, 2] _ _ from ?_)
  refine SOps.q rfl (.plain rfl) rfl (q_move rfl rfl) ?_
  refine SOps.q rfl (.plain rfl) rfl (q_call (cmp_isNaN_int_ok F a1_y c_3 g4) [] rfl fn41 ⟨⟨_, rfl, .inl ⟨rfl, rfl⟩⟩, trivial⟩ (.inl rfl)) ?_
  refine SOps.q rfl (.plain rfl) rfl (q_assign rfl rfl) ?_
  refine SOps.sub (st' := ⟨[(0, .c (.int .i64 a0_x)), (1, .c (.int .i64 a1_y)), (5, .c (.bool c_1)), (6, .c (.bool c_3))], []⟩) (sub_gen [] rfl rfl ⟨zc rfl rfl, zc rfl rfl, zc rfl rfl, zc rfl rfl, trivial⟩ trivial) ?_
  refine SOps.nil ?_
  refine SCode.seq ?_
  refine SCode.seq ?_
  refine SCode.region (show SOps _ _ _ [0] _ _ from ?_)
  refine SOps.q rfl (.plain rfl) rfl (q_move rfl rfl) ?_
  refine SOps.sub (st' := ⟨[(0, .c (.int .i64 a0_x)), (1, .c (.int .i64 a1_y)), (6, .c (.bool c_3)), (11, .c (.bool c_1))], []⟩) (sub_gen [] rfl rfl ⟨zc rfl rfl, zc rfl rfl, zc rfl rfl, zc rfl rfl, trivial⟩ trivial) ?_
  refine SOps.nil ?_
  rcases cond_out h with ⟨g5, h⟩ | ⟨g5, h⟩
  · refine SCode.cond_t rfl g5 ?_
    refine SCode.seq ?_
    refine SCode.seq ?_
    refine SCode.region (show SOps _ _ _ [0] _ _ from ?_)
    refine SOps.q rfl (.plain rfl) rfl (q_move rfl rfl) ?_
    refine SOps.sub (st' := ⟨[(12, .c (.bool c_3))], []⟩) (sub_gen [] rfl rfl ⟨zc rfl rfl, trivial⟩ trivial) ?_
    refine SOps.nil ?_
    rcases cond_out h with ⟨g6, h⟩ | ⟨g6, h⟩
    · refine SCode.cond_t rfl g6 ?_
      refine SCode.seq ?_
      refine SCode.region (show SOps _ _ _ [0] _ _ from ?_)
      refine SOps.q rfl (.plain rfl) rfl (q_assign rfl rfl) ?_
      refine SOps.sub (st' := ⟨[(4, .c (.int .i64 0))], []⟩) (sub_gen [] rfl rfl ⟨zc rfl rfl, trivial⟩ trivial) ?_
      refine SOps.nil ?_
      refine SCode.ret ?_
      obtain rfl := Option.some.inj h
      exact ⟨⟨[(4, .c (.int .i64 0))], []⟩, _, sub_gen [] rfl rfl ⟨zc rfl rfl, trivial⟩ trivial, resA1 (v := .c (.int .i64 0)) rfl rfl, rfl⟩
    refine SCode.cond_f rfl g6 ?_
    refine SCode.skip ?_
    refine SCode.seq ?_
    refine SCode.region (show SOps _ _ _ [0] _ _ from ?_)
    refine SOps.q rfl (.plain rfl) rfl (q_assign rfl rfl) ?_
    refine SOps.sub (st' := ⟨[(4, .c (.int .i64 ((-1))))], []⟩) (sub_gen [] rfl rfl ⟨zc rfl rfl, trivial⟩ trivial) ?_
    refine SOps.nil ?_
    refine SCode.ret ?_
    obtain rfl := Option.some.inj h
    exact ⟨⟨[(4, .c (.int .i64 ((-1))))], []⟩, _, sub_gen [] rfl rfl ⟨zc rfl rfl, trivial⟩ trivial, resA1 (v := .c (.int .i64 ((-1)))) rfl rfl, rfl⟩
  refine SCode.cond_f rfl g5 ?_
  refine SCode.skip ?_
  refine SCode.seq ?_
  refine SCode.seq ?_
  refine SCode.region (show SOps _ _ _ [0] _ _ from ?_)
  refine SOps.q rfl (.plain rfl) rfl (q_move rfl rfl) ?_
  refine SOps.sub (st' := ⟨[(0, .c (.int .i64 a0_x)), (1, .c (.int .i64 a1_y)), (13, .c (.bool c_3))], []⟩) (sub_gen [] rfl rfl ⟨zc rfl rfl, zc rfl rfl, zc rfl rfl, trivial⟩ trivial) ?_
  refine SOps.nil ?_
  rcases cond_out h with ⟨g7, h⟩ | ⟨g7, h⟩
  · refine SCode.cond_t rfl g7 ?_
    refine SCode.seq ?_
    refine SCode.region (show SOps _ _ _ [0] _ _ from ?_)
    refine SOps.q rfl (.plain rfl) rfl (q_assign rfl rfl) ?_
    refine SOps.sub (st' := ⟨[(4, .c (.int .i64 1))], []⟩) (sub_gen [] rfl rfl ⟨zc rfl rfl, trivial⟩ trivial) ?_
    refine SOps.nil ?_
    refine SCode.ret ?_
    obtain rfl := Option.some.inj h
    exact ⟨⟨[(4, .c (.int .i64 1))], []⟩, _, sub_gen [] rfl rfl ⟨zc rfl rfl, trivial⟩ trivial, resA1 (v := .c (.int .i64 1)) rfl rfl, rfl⟩
  refine SCode.cond_f rfl g7 ?_
  refine SCode.skip ?_
  refine SCode.seq ?_
  refine SCode.seq ?_
  refine SCode.region (show SOps _ _ _ [0, 1, 2] _ _ from ?_)
  refine SOps.q rfl (.plain rfl) rfl (q_move rfl rfl) ?_
  refine SOps.q rfl (.plain rfl) rfl (q_move rfl rfl) ?_
  refine SOps.q rfl (.plain rfl) rfl (q_lss rfl rfl rfl) ?_
  refine SOps.sub (st' := ⟨[(0, .c (.int .i64 a0_x)), (1, .c (.int .i64 a1_y)), (16, .c (.bool (decide (a0_x < a1_y))))], []⟩) (sub_gen [] rfl rfl ⟨zc rfl rfl, zc rfl rfl, zc rfl rfl, trivial⟩ trivial) ?_
  refine SOps.nil ?_
  rcases cond_out h with ⟨g8, h⟩ | ⟨g8, h⟩
  · refine SCode.cond_t rfl g8 ?_
    refine SCode.seq ?_
    refine SCode.region (show SOps _ _ _ [0] _ _ from ?_)
    refine SOps.q rfl (.plain rfl) rfl (q_assign rfl rfl) ?_
    refine SOps.sub (st' := ⟨[(4, .c (.int .i64 ((-1))))], []⟩) (sub_gen [] rfl rfl ⟨zc rfl rfl, trivial⟩ trivial) ?_
    refine SOps.nil ?_
    refine SCode.ret ?_
    obtain rfl := Option.some.inj h
    exact ⟨⟨[(4, .c (.int .i64 ((-1))))], []⟩, _, sub_gen [] rfl rfl ⟨zc rfl rfl, trivial⟩ trivial, resA1 (v := .c (.int .i64 ((-1)))) rfl rfl, rfl⟩
  refine SCode.cond_f rfl g8 ?_
  refine SCode.skip ?_
  refine SCode.seq ?_
  refine SCode.seq ?_
  refine SCode.region (show SOps _ _ _ [0, 1, 2] _ _ from ?_)
  refine SOps.q rfl (.plain rfl) rfl (q_move rfl rfl) ?_
  refine SOps.q rfl (.plain rfl) rfl (q_move rfl rfl) ?_
  refine SOps.q rfl (.plain rfl) rfl (q_gtr rfl rfl rfl) ?_
  refine SOps.sub (st' := ⟨[(19, .c (.bool (decide (a1_y < a0_x))))], []⟩) (sub_gen [] rfl rfl ⟨zc rfl rfl, trivial⟩ trivial) ?_
  refine SOps.nil ?_
  rcases cond_out h with ⟨g9, h⟩ | ⟨g9, h⟩
  · refine SCode.cond_t rfl g9 ?_
    refine SCode.seq ?_
    refine SCode.region (show SOps _ _ _ [0] _ _ from ?_)
    refine SOps.q rfl (.plain rfl) rfl (q_assign rfl rfl) ?_
    refine SOps.sub (st' := ⟨[(4, .c (.int .i64 1))], []⟩) (sub_gen [] rfl rfl ⟨zc rfl rfl, trivial⟩ trivial) ?_
    refine SOps.nil ?_
    refine SCode.ret ?_
    obtain rfl := Option.some.inj h
    exact ⟨⟨[(4, .c (.int .i64 1))], []⟩, _, sub_gen [] rfl rfl ⟨zc rfl rfl, trivial⟩ trivial, resA1 (v := .c (.int .i64 1)) rfl rfl, rfl⟩
  refine SCode.cond_f rfl g9 ?_
  refine SCode.skip ?_
  refine SCode.seq ?_
  refine SCode.region (show SOps _ _ _ [0] _ _ from ?_)
  refine SOps.q rfl (.plain rfl) rfl (q_assign rfl rfl) ?_
  refine SOps.sub (st' := ⟨[(4, .c (.int .i64 0))], []⟩) (sub_gen [] rfl rfl ⟨zc rfl rfl, trivial⟩ trivial) ?_
  refine SOps.nil ?_
  refine SCode.ret ?_
  obtain rfl := Option.some.inj h
  exact ⟨⟨[(4, .c (.int .i64 0))], []⟩, _, sub_gen [] rfl rfl ⟨zc rfl rfl, trivial⟩ trivial, resA1 (v := .c (.int .i64 0)) rfl rfl, rfl⟩
set_option maxRecDepth 100000 in
set_option maxHeartbeats 8000000 in
theorem slices_Compare_int_int_ok (F : Nat) (a0_s1 : List Int) (a1_s2 : List Int) (r : Int) (h : slices_Compare_int_int F a0_s1 a1_s2 = some r) :
    SFun Try.prog 28 [] [.c (vI a0_s1), .c (vI a1_s2)] (fun x _ => x = .c (.int .i64 r)) := by
  refine SFun.of (n := 36) Try.func28 rfl rfl rfl ?_
  unfold slices_Compare_int_int at h
  show SCode _ _ _ ⟨[(0, .c (vI a0_s1)), (1, .c (vI a1_s2))], []⟩ _
  refine SCode.seq ?_
  refine SCode.region (show SOps _ _ _ [0] _ _ from ?_)
  refine SOps.q rfl (.plain rfl) rfl (q_assign rfl rfl) ?_
  refine SOps.sub (st' := ⟨[(0, .c (vI a0_s1)), (1, .c (vI a1_s2))], []⟩) (sub_gen [] rfl rfl ⟨zc rfl rfl, zc rfl rfl, trivial⟩ trivial) ?_
  refine SOps.nil ?_
  refine SCode.join (σ := Unit) (S := fun s => ⟨[(0, .c (vI a0_s1)), (1, .c (vI a1_s2))], []⟩) (g := fun s => slices_Compare_int_int_p2 a0_s1 a1_s2 = some r) ?_ ?_
  rotate_left
  · refine SCode.seq ?_
    refine SCode.region (show SOps _ _ _ [0, 1, 2] _ _ from ?_)
    refine SOps.q rfl (.plain rfl) rfl (q_move rfl rfl) ?_
    refine SOps.q rfl (.plain rfl) rfl (q_len_vec rfl rfl sl22) ?_
    refine SOps.q rfl (.plain rfl) rfl (q_move rfl rfl) ?_
    refine SOps.sub (st' := ⟨[(0, .c (vI a0_s1)), (1, .c (vI a1_s2)), (9, .c (vI a0_s1)), (10, .c (.int .i64 (((a0_s1).length : Int)))), (11, .c (.int .i64 0))], []⟩) (sub_gen [] rfl rfl ⟨zc rfl rfl, zc rfl rfl, zc rfl rfl, zc rfl rfl, zc rfl rfl, trivial⟩ trivial) ?_
    refine SOps.nil ?_
    refine SCode.block ?_
    refine SCode.sub (st' := ⟨[(0, .c (vI a0_s1)), (1, .c (vI a1_s2)), (9, .c (vI a0_s1)), (10, .c (.int .i64 (((a0_s1).length : Int)))), (11, .c (.int .i64 0))], []⟩) (sub_gen [] rfl rfl ⟨zc rfl rfl, zc rfl rfl, zc rfl rfl, zc rfl rfl, zc rfl rfl, trivial⟩ trivial) ?_
    refine (SCode.loop (σ := Nat × Int) (S := fun s => ⟨[(0, .c (vI a0_s1)), (1, .c (vI a1_s2)), (9, .c (vI a0_s1)), (10, .c (.int .i64 (((a0_s1).length : Int)))), (11, .c (.int .i64 s.2))], []⟩) (g := fun s => slices_Compare_int_int_l18 F a0_s1 a1_s2 s.1 s.2 = some r) (μ := fun s => s.1) (F, 0) h ?_)
    rintro ⟨n_18, t11_10⟩ h
    replace h : slices_Compare_int_int_l18 F a0_s1 a1_s2 n_18 t11_10 = some r := h
    show SCode _ _ _ ⟨[(0, .c (vI a0_s1)), (1, .c (vI a1_s2)), (9, .c (vI a0_s1)), (10, .c (.int .i64 (((a0_s1).length : Int)))), (11, .c (.int .i64 t11_10))], []⟩ _
    cases n_18 with
    | zero => cases h
    | succ n_18 =>
      replace h : slices_Compare_int_int_b18 F a0_s1 a1_s2 (fun t11_10 => slices_Compare_int_int_l18 F a0_s1 a1_s2 n_18 t11_10) t11_10 = some r := h
      unfold slices_Compare_int_int_b18 at h
      refine SCode.seq ?_
      refine SCode.region (show SOps _ _ _ [0] _ _ from ?_)
      refine SOps.q rfl (.plain rfl) rfl (q_lss rfl rfl rfl) ?_
      refine SOps.sub (st' := ⟨[(0, .c (vI a0_s1)), (1, .c (vI a1_s2)), (9, .c (vI a0_s1)), (10, .c (.int .i64 (((a0_s1).length : Int)))), (11, .c (.int .i64 t11_10)), (12, .c (.bool (decide (t11_10 < ((a0_s1).length : Int)))))], []⟩) (sub_gen [] rfl rfl ⟨zc rfl rfl, zc rfl rfl, zc rfl rfl, zc rfl rfl, zc rfl rfl, zc rfl rfl, trivial⟩ trivial) ?_
      refine SOps.nil ?_
      refine SCode.seq ?_
      rcases cond_out h with ⟨g19, h⟩ | ⟨g19, h⟩
      · refine SCode.cond_t rfl g19 ?_
        refine SCode.skip ?_
        refine SCode.seq ?_
        refine SCode.block ?_
        refine SCode.seq ?_
        obtain ⟨g20, h⟩ := guard_out h
        refine SCode.region (show SOps _ _ _ [0, 1, 2, 3, 4] _ _ from ?_)
        refine SOps.q rfl (.plain rfl) rfl (q_move rfl rfl) ?_
        refine SOps.q rfl (.plain rfl) rfl (q_index_vec rfl rfl rfl sl22 rfl g20.1 g20.2) ?_
        refine SOps.q rfl (.plain rfl) rfl (q_load_eptr rfl rfl ty3) ?_
        refine SOps.q rfl (.plain rfl) rfl (q_assign rfl rfl) ?_
        refine SOps.q rfl (.plain rfl) rfl (q_assign rfl rfl) ?_
        refine SOps.sub (st' := ⟨[(0, .c (vI a0_s1)), (1, .c (vI a1_s2)), (5, .c (.int .i64 t11_10)), (6, .c (.int .i64 (a0_s1.getD t11_10.toNat 0))), (9, .c (vI a0_s1)), (10, .c (.int .i64 (((a0_s1).length : Int)))), (11, .c (.int .i64 t11_10))], []⟩) (sub_gen [] rfl rfl ⟨zc rfl rfl, zc rfl rfl, zc rfl rfl, zc rfl rfl, zc rfl rfl, zc rfl rfl, zc rfl rfl, trivial⟩ trivial) ?_
        refine SOps.nil ?_
        refine SCode.seq ?_
        refine SCode.seq ?_
        refine SCode.region (show SOps _ _ _ [0, 1, 2, 3] _ _ from ?_)
        refine SOps.q rfl (.plain rfl) rfl (q_move rfl rfl) ?_
        refine SOps.q rfl (.plain rfl) rfl (q_move rfl rfl) ?_
        refine SOps.q rfl (.plain rfl) rfl (q_len_vec rfl rfl sl22) ?_
        refine SOps.q rfl (.plain rfl) rfl (q_geq rfl rfl rfl) ?_
        refine SOps.sub (st' := ⟨[(0, .c (vI a0_s1)), (1, .c (vI a1_s2)), (5, .c (.int .i64 t11_10)), (6, .c (.int .i64 (a0_s1.getD t11_10.toNat 0))), (9, .c (vI a0_s1)), (10, .c (.int .i64 (((a0_s1).length : Int)))), (11, .c (.int .i64 t11_10)), (19, .c (.bool (decide (((a1_s2).length : Int) ≤ t11_10))))], []⟩) (sub_gen [] rfl rfl ⟨zc rfl rfl, zc rfl rfl, zc rfl rfl, zc rfl rfl, zc rfl rfl, zc rfl rfl, zc rfl rfl, zc rfl rfl, trivial⟩ trivial) ?_
        refine SOps.nil ?_
        rcases cond_out h with ⟨g21, h⟩ | ⟨g21, h⟩
        · refine SCode.cond_t rfl g21 ?_
          refine SCode.seq ?_
          refine SCode.region (show SOps _ _ _ [0] _ _ from ?_)
          refine SOps.q rfl (.plain rfl) rfl (q_assign rfl rfl) ?_
          refine SOps.sub (st' := ⟨[(4, .c (.int .i64 1))], []⟩) (sub_gen [] rfl rfl ⟨zc rfl rfl, trivial⟩ trivial) ?_
          refine SOps.nil ?_
          refine SCode.ret ?_
          obtain rfl := Option.some.inj h
          exact ⟨⟨[(4, .c (.int .i64 1))], []⟩, _, sub_gen [] rfl rfl ⟨zc rfl rfl, trivial⟩ trivial, resA1 (v := .c (.int .i64 1)) rfl rfl, rfl⟩
        refine SCode.cond_f rfl g21 ?_
        refine SCode.skip ?_
        refine SCode.seq ?_
        obtain ⟨g22, h⟩ := guard_out h
        refine SCode.region (show SOps _ _ _ [0, 1, 2, 3, 4] _ _ from ?_)
        refine SOps.q rfl (.plain rfl) rfl (q_move rfl rfl) ?_
        refine SOps.q rfl (.plain rfl) rfl (q_move rfl rfl) ?_
        refine SOps.q rfl (.plain rfl) rfl (q_index_vec rfl rfl rfl sl22 rfl g22.1 g22.2) ?_
        refine SOps.q rfl (.plain rfl) rfl (q_load_eptr rfl rfl ty3) ?_
        refine SOps.q rfl (.plain rfl) rfl (q_assign rfl rfl) ?_
        refine SOps.sub (st' := ⟨[(0, .c (vI a0_s1)), (1, .c (vI a1_s2)), (6, .c (.int .i64 (a0_s1.getD t11_10.toNat 0))), (7, .c (.int .i64 (a1_s2.getD t11_10.toNat 0))), (9, .c (vI a0_s1)), (10, .c (.int .i64 (((a0_s1).length : Int)))), (11, .c (.int .i64 t11_10))], []⟩) (sub_gen [] rfl rfl ⟨zc rfl rfl, zc rfl rfl, zc rfl rfl, zc rfl rfl, zc rfl rfl, zc rfl rfl, zc rfl rfl, trivial⟩ trivial) ?_
        refine SOps.nil ?_
        refine SCode.seq ?_
        obtain ⟨c_23, g24, h⟩ := bind_out h
        try dsimp only at h
        refine SCode.region (show SOps _ _ _ [0, 1, 2, 3] _ _ from ?_)
        refine SOps.q rfl (.plain rfl) rfl (q_move rfl rfl) ?_
        refine SOps.q rfl (.plain rfl) rfl (q_move rfl rfl) ?_
        refine SOps.q rfl (.plain rfl) rfl (q_call (cmp_Compare_int_ok F (a0_s1.getD t11_10.toNat 0) (a1_s2.getD t11_10.toNat 0) c_23 g24) [] rfl fn35 ⟨⟨_, rfl, .inl ⟨rfl, rfl⟩⟩, ⟨_, rfl, .inl ⟨rfl, rfl⟩⟩, trivial⟩ (.inl rfl)) ?_
        refine SOps.q rfl (.plain rfl) rfl (q_assign rfl rfl) ?_
        refine SOps.sub (st' := ⟨[(0, .c (vI a0_s1)), (1, .c (vI a1_s2)), (8, .c (.int .i64 c_23)), (9, .c (vI a0_s1)), (10, .c (.int .i64 (((a0_s1).length : Int)))), (11, .c (.int .i64 t11_10))], []⟩) (sub_gen [] rfl rfl ⟨zc rfl rfl, zc rfl rfl, zc rfl rfl, zc rfl rfl, zc rfl rfl, zc rfl rfl, trivial⟩ trivial) ?_
        refine SOps.nil ?_
        refine SCode.seq ?_
        refine SCode.region (show SOps _ _ _ [0, 1] _ _ from ?_)
        refine SOps.q rfl (.plain rfl) rfl (q_move rfl rfl) ?_
        refine SOps.q rfl (.plain rfl) rfl (q_neq rfl rfl rfl) ?_
        refine SOps.sub (st' := ⟨[(0, .c (vI a0_s1)), (1, .c (vI a1_s2)), (8, .c (.int .i64 c_23)), (9, .c (vI a0_s1)), (10, .c (.int .i64 (((a0_s1).length : Int)))), (11, .c (.int .i64 t11_10)), (28, .c (.bool ((!decide (c_23 = 0)))))], []⟩) (sub_gen [] rfl rfl ⟨zc rfl rfl, zc rfl rfl, zc rfl rfl, zc rfl rfl, zc rfl rfl, zc rfl rfl, zc rfl rfl, trivial⟩ trivial) ?_
        refine SOps.nil ?_
        rcases cond_out h with ⟨g25, h⟩ | ⟨g25, h⟩
        · refine SCode.cond_t rfl g25 ?_
          refine SCode.seq ?_
          refine SCode.region (show SOps _ _ _ [0, 1] _ _ from ?_)
          refine SOps.q rfl (.plain rfl) rfl (q_move rfl rfl) ?_
          refine SOps.q rfl (.plain rfl) rfl (q_assign rfl rfl) ?_
          refine SOps.sub (st' := ⟨[(4, .c (.int .i64 c_23))], []⟩) (sub_gen [] rfl rfl ⟨zc rfl rfl, trivial⟩ trivial) ?_
          refine SOps.nil ?_
          refine SCode.ret ?_
          obtain rfl := Option.some.inj h
          exact ⟨⟨[(4, .c (.int .i64 c_23))], []⟩, _, sub_gen [] rfl rfl ⟨zc rfl rfl, trivial⟩ trivial, resA1 (v := .c (.int .i64 c_23)) rfl rfl, rfl⟩
        refine SCode.cond_f rfl g25 ?_
        refine SCode.skip ?_
        refine SCode.region (show SOps _ _ _ [0, 1] _ _ from ?_)
        refine SOps.q rfl (.plain rfl) rfl (q_add rfl rfl rfl) ?_
        refine SOps.q rfl (.plain rfl) rfl (q_move rfl rfl) ?_
        refine SOps.sub (st' := ⟨[(0, .c (vI a0_s1)), (1, .c (vI a1_s2)), (9, .c (vI a0_s1)), (10, .c (.int .i64 (((a0_s1).length : Int)))), (11, .c (.int .i64 (IntKind.wrap .i64 (t11_10 + 1))))], []⟩) (sub_gen [] rfl rfl ⟨zc rfl rfl, zc rfl rfl, zc rfl rfl, zc rfl rfl, zc rfl rfl, trivial⟩ trivial) ?_
        refine SOps.nil ?_
        exact ⟨(n_18, IntKind.wrap .i64 (t11_10 + 1)), h, Nat.lt_succ_self n_18, sub_gen [] rfl rfl ⟨zc rfl rfl, zc rfl rfl, zc rfl rfl, zc rfl rfl, zc rfl rfl, trivial⟩ trivial⟩
      refine SCode.cond_f rfl g19 ?_
      refine SCode.exit ?_
      exact ⟨(), h, sub_gen [] rfl rfl ⟨zc rfl rfl, zc rfl rfl, trivial⟩ trivial⟩
  rintro ⟨⟩ h
  show SCode _ _ _ ⟨[(0, .c (vI a0_s1)), (1, .c (vI a1_s2))], []⟩ _
  replace h : slices_Compare_int_int_p2 a0_s1 a1_s2 = some r := h
  unfold slices_Compare_int_int_p2 at h
  refine SCode.seq ?_
  refine SCode.seq ?_
  refine SCode.region (show SOps _ _ _ [0, 1, 2, 3, 4] _ _ from ?_)
  refine SOps.q rfl (.plain rfl) rfl (q_move rfl rfl) ?_
  refine SOps.q rfl (.plain rfl) rfl (q_len_vec rfl rfl sl22) ?_
  refine SOps.q rfl (.plain rfl) rfl (q_move rfl rfl) ?_
  refine SOps.q rfl (.plain rfl) rfl (q_len_vec rfl rfl sl22) ?_
  refine SOps.q rfl (.plain rfl) rfl (q_lss rfl rfl rfl) ?_
  refine SOps.sub (st' := ⟨[(35, .c (.bool (decide (((a0_s1).length : Int) < ((a1_s2).length : Int)))))], []⟩) (sub_gen [] rfl rfl ⟨zc rfl rfl, trivial⟩ trivial) ?_
  refine SOps.nil ?_
  rcases cond_out h with ⟨g1, h⟩ | ⟨g1, h⟩
  · refine SCode.cond_t rfl g1 ?_
    refine SCode.seq ?_
    refine SCode.region (show SOps _ _ _ [0] _ _ from ?_)
    refine SOps.q rfl (.plain rfl) rfl (q_assign rfl rfl) ?_
    refine SOps.sub (st' := ⟨[(4, .c (.int .i64 ((-1))))], []⟩) (sub_gen [] rfl rfl ⟨zc rfl rfl, trivial⟩ trivial) ?_
    refine SOps.nil ?_
    refine SCode.ret ?_
    obtain rfl := Option.some.inj h
    exact ⟨⟨[(4, .c (.int .i64 ((-1))))], []⟩, _, sub_gen [] rfl rfl ⟨zc rfl rfl, trivial⟩ trivial, resA1 (v := .c (.int .i64 ((-1)))) rfl rfl, rfl⟩
  refine SCode.cond_f rfl g1 ?_
  refine SCode.skip ?_
  refine SCode.seq ?_
  refine SCode.region (show SOps _ _ _ [0] _ _ from ?_)
  refine SOps.q rfl (.plain rfl) rfl (q_assign rfl rfl) ?_
  refine SOps.sub (st' := ⟨[(4, .c (.int .i64 0))], []⟩) (sub_gen [] rfl rfl ⟨zc rfl rfl, trivial⟩ trivial) ?_
  refine SOps.nil ?_
  refine SCode.ret ?_
  obtain rfl := Option.some.inj h
  exact ⟨⟨[(4, .c (.int .i64 0))], []⟩, _, sub_gen [] rfl rfl ⟨zc rfl rfl, trivial⟩ trivial, resA1 (v := .c (.int .i64 0)) rfl rfl, rfl⟩
set_option maxRecDepth 100000 in
set_option maxHeartbeats 8000000 in
theorem slices_Values_int_int_ok (F : Nat) (a0_s : List Int) (r : (List Int)) (h : slices_Values_int_int F a0_s = some r) :
    SFun Try.prog 30 [] [.c (vI a0_s)] (fun x _ => x = .c (.fn 38 1 (cellsG [.eptr 1 ((cVec 1 (cInt .i64) 0) r) 0]))) := by
  refine SFun.of (n := 4) Try.func30 rfl rfl rfl ?_
  unfold slices_Values_int_int at h
  show SCode _ _ _ ⟨[(0, .c (vI a0_s))], []⟩ _
  refine SCode.seq ?_
  refine SCode.region (show SOps _ _ _ [0, 1] _ _ from ?_)
  refine SOps.e rfl (.plain rfl) (e_box rfl rfl rfl rfl rfl rfl) ?_
  refine SOps.q rfl (.plain rfl) rfl (q_assign rfl rfl) ?_
  refine SOps.sub (st' := ⟨[(1, .c (.ptr 0 0))], [.box [vI a0_s]]⟩) (sub_gen [0] rfl rfl ⟨zc rfl rfl, trivial⟩ ⟨⟨_, rfl, ⟨ii rfl rfl, trivial⟩⟩, trivial⟩) ?_
  refine SOps.nil ?_
  refine SCode.seq ?_
  refine SCode.region (show SOps _ _ _ [0, 1] _ _ from ?_)
  refine SOps.sub (st' := ⟨[(1, .c (.eptr 1 ((cVec 1 (cInt .i64) 0) a0_s) 0))], []⟩) (sub_gen [] rfl rfl ⟨⟨_, rfl, .inr (.inr (.inr (.inr (.inl ⟨_, _, _, _, _, rfl, rfl, rfl, by decide, by decide, boxG [vI a0_s] rfl rfl rfl⟩))))⟩, trivial⟩ trivial) ?_
  refine SOps.q rfl (.plain rfl) rfl (q_makeFunc (cs := [.eptr 1 ((cVec 1 (cInt .i64) 0) a0_s) 0]) rfl rfl rfl) ?_
  refine SOps.q rfl (.plain rfl) rfl (q_assign rfl rfl) ?_
  refine SOps.sub (st' := ⟨[(2, .c (.fn 38 1 (cellsG [.eptr 1 ((cVec 1 (cInt .i64) 0) a0_s) 0])))], []⟩) (sub_gen [] rfl rfl ⟨zc rfl rfl, trivial⟩ trivial) ?_
  refine SOps.nil ?_
  refine SCode.ret ?_
  obtain rfl := Option.some.inj h
  exact ⟨⟨[(2, .c (.fn 38 1 (cellsG [.eptr 1 ((cVec 1 (cInt .i64) 0) a0_s) 0])))], []⟩, _, sub_gen [] rfl rfl ⟨zc rfl rfl, trivial⟩ trivial, resA1 (v := .c (.fn 38 1 (cellsG [.eptr 1 ((cVec 1 (cInt .i64) 0) a0_s) 0]))) rfl rfl, rfl⟩
theorem slices_Sort_int_int_ok (F : Nat) (a0_x : List Int) (r : List Int) (h : slices_Sort_int_int F a0_x = some r) :
    SFun Try.prog 37 [.arr 3 1 a0_x.length (gL (cInt .i64) 0 a0_x)] [.c (.own 0 a0_x.length)] (fun x os => x = .t [] ∧ os = [.arr 3 1 r.length (gL (cInt .i64) 0 r)]) := by
  obtain ⟨hg, h⟩ := guard_out h
  obtain rfl := Option.some.inj h
  exact sfun_sort (fun blk off cap zs w => Try.slices_Sort_int blk off cap zs w) (fun p cap w => Try.slices_Sort_int_none p cap w) a0_x hg
theorem slices_AppendSeq_int_int_f1_38_own_ok (F : Nat) (a1f0 : List Int) (r : List Int) (h : slices_AppendSeq_int_int_f1_38_own F a1f0 = some r) :
    SFun Try.prog 42 [] [.c (.raw (.slice none 0 0)), .c (.fn 38 1 (cellsG [.eptr 1 ((cVec 1 (cInt .i64) 0) a1f0) 0]))] (fun x os => x = .c (.own 0 r.length) ∧ os = [.arr 3 1 r.length (gL (cInt .i64) 0 r)]) := by
  obtain ⟨hg, h⟩ := guard_out h
  obtain rfl := Option.some.inj h
  exact sfun_appendSeq (fun Bs q a cap zs hz w h1 h2 h3 => It.appended Bs q a cap zs hz w h1 h2 h3) a1f0 hg _ rfl
set_option maxRecDepth 100000 in
set_option maxHeartbeats 8000000 in
theorem slices_Collect_int_f0_38_own_ok (F : Nat) (a0f0 : List Int) (r : List Int) (h : slices_Collect_int_f0_38_own F a0f0 = some r) :
    SFun Try.prog 36 [] [.c (.fn 38 1 (cellsG [.eptr 1 ((cVec 1 (cInt .i64) 0) a0f0) 0]))] (fun x os => x = .c (.own 0 r.length) ∧ os = [aI 3 r]) := by
  refine SFun.of (n := 5) Try.func36 rfl rfl rfl ?_
  unfold slices_Collect_int_f0_38_own at h
  show SCode _ _ _ ⟨[(0, .c (.fn 38 1 (cellsG [.eptr 1 ((cVec 1 (cInt .i64) 0) a0f0) 0])))], []⟩ _
  refine SCode.seq ?_
  refine SCode.region (show SOps _ _ _ [0] _ _ from ?_)
  refine SOps.q rfl (.plain rfl) rfl (q_assign rfl rfl) ?_
  refine SOps.nilArrL (T := 3) (k := 1) (cInt .i64) 0 (s := 2) rfl rfl ?_
  refine SOps.sub (st' := ⟨[(0, .c (.fn 38 1 (cellsG [.eptr 1 ((cVec 1 (cInt .i64) 0) a0f0) 0])))], []⟩) (sub_gen [] rfl rfl ⟨zc rfl rfl, trivial⟩ trivial) ?_
  refine SOps.nil ?_
  refine SCode.seq ?_
  obtain ⟨c_1, g2, h⟩ := bind_out h
  try dsimp only at h
  refine SCode.region (show SOps _ _ _ [0, 1, 2] _ _ from ?_)
  refine SOps.q rfl (.plain rfl) rfl (q_move rfl rfl) ?_
  refine SOps.e rfl (.plain rfl) (e_call (slices_AppendSeq_int_int_f1_38_own_ok F a0f0 c_1 g2) [] rfl fn42 rfl rfl rfl rfl rfl rfl rfl rfl) ?_
  refine SOps.q rfl (.plain rfl) rfl (q_assign rfl rfl) ?_
  refine SOps.sub (st' := ⟨[(2, .c (.own 0 c_1.length))], [aI 3 c_1]⟩) (sub_gen [0] rfl rfl ⟨zc rfl rfl, trivial⟩ ⟨oa rfl, trivial⟩) ?_
  refine SOps.nil ?_
  refine SCode.ret ?_
  obtain rfl := Option.some.inj h
  exact ⟨⟨[(2, .c (.own 0 c_1.length))], [aI 3 c_1]⟩, _, sub_gen [0] rfl rfl ⟨zc rfl rfl, trivial⟩ ⟨oa rfl, trivial⟩, resA1 (v := .c (.own 0 c_1.length)) rfl rfl, ⟨rfl, rfl⟩⟩
set_option maxRecDepth 100000 in
set_option maxHeartbeats 8000000 in
theorem slices_Sorted_int_f0_38_ok (F : Nat) (a0f0 : List Int) (r : List Int) (h : slices_Sorted_int_f0_38 F a0f0 = some r) :
    SFun Try.prog 29 [] [.c (.fn 38 1 (cellsG [.eptr 1 ((cVec 1 (cInt .i64) 0) a0f0) 0]))] (fun x _ => x = .c (vI r)) := by
  refine SFun.of (n := 9) Try.func29 rfl rfl rfl ?_
  unfold slices_Sorted_int_f0_38 at h
  show SCode _ _ _ ⟨[(0, .c (.fn 38 1 (cellsG [.eptr 1 ((cVec 1 (cInt .i64) 0) a0f0) 0])))], []⟩ _
  refine SCode.seq ?_
  refine SCode.region (show SOps _ _ _ [0] _ _ from ?_)
  refine SOps.q rfl (.plain rfl) rfl (q_assign rfl rfl) ?_
  refine SOps.sub (st' := ⟨[(0, .c (.fn 38 1 (cellsG [.eptr 1 ((cVec 1 (cInt .i64) 0) a0f0) 0])))], []⟩) (sub_gen [] rfl rfl ⟨zc rfl rfl, trivial⟩ trivial) ?_
  refine SOps.nil ?_
  refine SCode.seq ?_
  obtain ⟨c_1, g2, h⟩ := bind_out h
  try dsimp only at h
  refine SCode.region (show SOps _ _ _ [0, 1, 2] _ _ from ?_)
  refine SOps.q rfl (.plain rfl) rfl (q_move rfl rfl) ?_
  refine SOps.e rfl (.plain rfl) (e_call (slices_Collect_int_f0_38_own_ok F a0f0 c_1 g2) [] rfl fn36 rfl rfl rfl rfl rfl rfl rfl rfl) ?_
  refine SOps.q rfl (.plain rfl) rfl (q_assign rfl rfl) ?_
  refine SOps.sub (st' := ⟨[(3, .c (.own 0 c_1.length))], [aI 3 c_1]⟩) (sub_gen [0] rfl rfl ⟨zc rfl rfl, trivial⟩ ⟨oa rfl, trivial⟩) ?_
  refine SOps.nil ?_
  refine SCode.seq ?_
  obtain ⟨c_3, g4, h⟩ := bind_out h
  try dsimp only at h
  obtain ⟨g5, h⟩ := guard_out h
  refine SCode.region (show SOps _ _ _ [0, 1] _ _ from ?_)
  refine SOps.q rfl (.plain rfl) rfl (q_move rfl rfl) ?_
  refine SOps.e rfl (.plain rfl) (e_call (slices_Sort_int_int_ok F c_1 c_3 g4) [0] rfl fn37 rfl rfl rfl rfl rfl rfl rfl rfl) ?_
  refine SOps.sub (st' := ⟨[(3, .c (.own 0 c_3.length))], [aI 3 c_3]⟩) (sub_gen [0] rfl rfl ⟨⟨_, rfl, .inl ⟨rfl, congrArg (Cell.own 0) g5.symm⟩⟩, trivial⟩ ⟨oa rfl, trivial⟩) ?_
  refine SOps.nil ?_
  refine SCode.seq ?_
  refine SCode.region (show SOps _ _ _ [0, 1] _ _ from ?_)
  refine SOps.q rfl (.plain rfl) rfl (q_move rfl rfl) ?_
  refine SOps.q rfl (.plain rfl) rfl (q_assign rfl rfl) ?_
  refine SOps.sub (st' := ⟨[(2, .c (.own 0 c_3.length))], [aI 3 c_3]⟩) (sub_gen [0] rfl rfl ⟨zc rfl rfl, trivial⟩ ⟨oa rfl, trivial⟩) ?_
  refine SOps.nil ?_
  refine SCode.ret ?_
  obtain rfl := Option.some.inj h
  exact ⟨⟨[(2, .c (vI c_3))], []⟩, _, sub_gen [] rfl rfl ⟨⟨_, rfl, .inr (.inl ⟨_, _, _, _, _, _, _, rfl, rfl, rfl, Nat.le_refl _, fun _ _ _ _ => rfl, by decide⟩)⟩, trivial⟩ trivial, resA1 (v := .c (vI c_3)) rfl rfl, rfl⟩
set_option maxRecDepth 100000 in
set_option maxHeartbeats 8000000 in
theorem fair_Compare_ok (F : Nat) (a0_a : List Int) (a1_b : List Int) (r : Int) (h : fair_Compare F a0_a a1_b = some r) :
    SFun Try.prog 14 [] [.c (vI a0_a), .c (vI a1_b)] (fun x _ => x = .c (.int .i64 r)) := by
  refine SFun.of (n := 12) Try.func14 rfl rfl rfl ?_
  unfold fair_Compare at h
  show SCode _ _ _ ⟨[(0, .c (vI a0_a)), (1, .c (vI a1_b))], []⟩ _
  refine SCode.seq ?_
  refine SCode.region (show SOps _ _ _ [0] _ _ from ?_)
  refine SOps.q rfl (.plain rfl) rfl (q_assign rfl rfl) ?_
  refine SOps.sub (st' := ⟨[(0, .c (vI a0_a)), (1, .c (vI a1_b))], []⟩) (sub_gen [] rfl rfl ⟨zc rfl rfl, zc rfl rfl, trivial⟩ trivial) ?_
  refine SOps.nil ?_
  refine SCode.seq ?_
  obtain ⟨c_1, g2, h⟩ := bind_out h
  try dsimp only at h
  obtain ⟨c_3, g4, h⟩ := bind_out h
  try dsimp only at h
  obtain ⟨c_5, g6, h⟩ := bind_out h
  try dsimp only at h
  obtain ⟨c_7, g8, h⟩ := bind_out h
  try dsimp only at h
  obtain ⟨c_9, g10, h⟩ := bind_out h
  try dsimp only at h
  refine SCode.region (show SOps _ _ _ [0, 1, 2, 3, 4, 5, 6, 7] _ _ from ?_)
  refine SOps.q rfl (.plain rfl) rfl (q_move rfl rfl) ?_
  refine SOps.q rfl (.plain rfl) rfl (q_call (slices_Values_int_int_ok F a0_a c_1 g2) [] rfl fn30 ⟨⟨_, rfl, .inl ⟨rfl, rfl⟩⟩, trivial⟩ (.inl rfl)) ?_
  refine SOps.q rfl (.plain rfl) rfl (q_call (slices_Sorted_int_f0_38_ok F c_1 c_3 g4) [] rfl fn29 ⟨⟨_, rfl, .inl ⟨rfl, rfl⟩⟩, trivial⟩ (.inl rfl)) ?_
  refine SOps.q rfl (.plain rfl) rfl (q_move rfl rfl) ?_
  refine SOps.q rfl (.plain rfl) rfl (q_call (slices_Values_int_int_ok F a1_b c_5 g6) [] rfl fn30 ⟨⟨_, rfl, .inl ⟨rfl, rfl⟩⟩, trivial⟩ (.inl rfl)) ?_
  refine SOps.q rfl (.plain rfl) rfl (q_call (slices_Sorted_int_f0_38_ok F c_5 c_7 g8) [] rfl fn29 ⟨⟨_, rfl, .inl ⟨rfl, rfl⟩⟩, trivial⟩ (.inl rfl)) ?_
  refine SOps.q rfl (.plain rfl) rfl (q_call (slices_Compare_int_int_ok F c_3 c_7 c_9 g10) [] rfl fn28 ⟨⟨_, rfl, .inl ⟨rfl, rfl⟩⟩, ⟨_, rfl, .inl ⟨rfl, rfl⟩⟩, trivial⟩ (.inl rfl)) ?_
  refine SOps.q rfl (.plain rfl) rfl (q_assign rfl rfl) ?_
  refine SOps.sub (st' := ⟨[(4, .c (.int .i64 c_9))], []⟩) (sub_gen [] rfl rfl ⟨zc rfl rfl, trivial⟩ trivial) ?_
  refine SOps.nil ?_
  refine SCode.ret ?_
  obtain rfl := Option.some.inj h
  exact ⟨⟨[(4, .c (.int .i64 c_9))], []⟩, _, sub_gen [] rfl rfl ⟨zc rfl rfl, trivial⟩ trivial, resA1 (v := .c (.int .i64 c_9)) rfl rfl, rfl⟩
set_option maxRecDepth 100000 in
set_option maxHeartbeats 8000000 in
theorem chargenetlaw10_sum_ok (F : Nat) (a0_most : Int) (r : Int) (h : chargenetlaw10_sum F a0_most = some r) :
    SFun Try.prog 20 [] [.c (.int .i64 a0_most)] (fun x _ => x = .c (.fn 34 1 (cellsG [.eptr 1 ((cInt .i64) r) 0]))) := by
  refine SFun.of (n := 4) Try.func20 rfl rfl rfl ?_
  unfold chargenetlaw10_sum at h
  show SCode _ _ _ ⟨[(0, .c (.int .i64 a0_most))], []⟩ _
  refine SCode.seq ?_
  refine SCode.region (show SOps _ _ _ [0, 1] _ _ from ?_)
  refine SOps.e rfl (.plain rfl) (e_box rfl rfl rfl rfl rfl rfl) ?_
  refine SOps.q rfl (.plain rfl) rfl (q_assign rfl rfl) ?_
  refine SOps.sub (st' := ⟨[(1, .c (.ptr 0 0))], [.box [.int .i64 a0_most]]⟩) (sub_gen [0] rfl rfl ⟨zc rfl rfl, trivial⟩ ⟨⟨_, rfl, ⟨ii rfl rfl, trivial⟩⟩, trivial⟩) ?_
  refine SOps.nil ?_
  refine SCode.seq ?_
  refine SCode.region (show SOps _ _ _ [0, 1] _ _ from ?_)
  refine SOps.sub (st' := ⟨[(1, .c (.eptr 1 ((cInt .i64) a0_most) 0))], []⟩) (sub_gen [] rfl rfl ⟨⟨_, rfl, .inr (.inr (.inr (.inr (.inl ⟨_, _, _, _, _, rfl, rfl, rfl, by decide, by decide, boxG [.int .i64 a0_most] rfl rfl rfl⟩))))⟩, trivial⟩ trivial) ?_
  refine SOps.q rfl (.plain rfl) rfl (q_makeFunc (cs := [.eptr 1 ((cInt .i64) a0_most) 0]) rfl rfl rfl) ?_
  refine SOps.q rfl (.plain rfl) rfl (q_assign rfl rfl) ?_
  refine SOps.sub (st' := ⟨[(2, .c (.fn 34 1 (cellsG [.eptr 1 ((cInt .i64) a0_most) 0])))], []⟩) (sub_gen [] rfl rfl ⟨zc rfl rfl, trivial⟩ trivial) ?_
  refine SOps.nil ?_
  refine SCode.ret ?_
  obtain rfl := Option.some.inj h
  exact ⟨⟨[(2, .c (.fn 34 1 (cellsG [.eptr 1 ((cInt .i64) a0_most) 0])))], []⟩, _, sub_gen [] rfl rfl ⟨zc rfl rfl, trivial⟩ trivial, resA1 (v := .c (.fn 34 1 (cellsG [.eptr 1 ((cInt .i64) a0_most) 0]))) rfl rfl, rfl⟩
end Go.Proofs.Ythpblkclpfmbeaa.W
