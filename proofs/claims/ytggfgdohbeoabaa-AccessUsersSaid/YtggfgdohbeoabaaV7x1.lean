/- Written by a program of ours (wip/eng/gen.py): the functions compute their models. -/
import Derived.Test.YtggfgdohbeoabaaFacts
namespace Go.Proofs.Ytggfgdohbeoabaa.W
open Go Go.Proofs Go.Proofs.Ytggfgdohbeoabaa.E Go.Proofs.Ytggfgdohbeoabaa.M
set_option linter.unusedVariables false
set_option maxRecDepth 100000 in
set_option maxHeartbeats 8000000 in
theorem chargenetlaw39_small_ok (F : Nat) (a0_x : SCase) (r : Bool) (h : chargenetlaw39_small F a0_x = some r) :
    SFun Try.prog 10 [] [.a [.vec a0_x.Roles.length 4 (gL cSRole dSRole a0_x.Roles), .vec a0_x.Grants.length 4 (gL cSGrant dSGrant a0_x.Grants)]] (fun x _ => x = .c (.bool r)) := by
  refine SFun.of (n := 29) Try.func10 rfl rfl rfl ?_
  unfold chargenetlaw39_small at h
  show SCode _ _ _ ⟨[(0, .a [.vec a0_x.Roles.length 4 (gL cSRole dSRole a0_x.Roles), .vec a0_x.Grants.length 4 (gL cSGrant dSGrant a0_x.Grants)])], []⟩ _
  refine SCode.seq ?_
  refine SCode.region (show SOps _ _ _ [0, 1] _ _ from ?_)
  refine SOps.e rfl (.plain rfl) (e_box rfl rfl rfl rfl rfl rfl) ?_
  refine SOps.q rfl (.plain rfl) rfl (q_assign rfl rfl) ?_
  refine SOps.sub (st' := ⟨[(1, .c (.ptr 0 0))], [.box [.vec a0_x.Roles.length 4 (gL cSRole dSRole a0_x.Roles), .vec a0_x.Grants.length 4 (gL cSGrant dSGrant a0_x.Grants)]]⟩) (sub_gen [0] rfl rfl ⟨zc rfl rfl, trivial⟩ ⟨⟨_, rfl, ⟨ii rfl rfl, ii rfl rfl, trivial⟩⟩, trivial⟩) ?_
  refine SOps.nil ?_
  refine SCode.seq ?_
  refine SCode.seq ?_
  rcases cond_out h with ⟨g1, h⟩ | ⟨g1, h⟩
  · refine SCode.region (show SOps _ _ _ [0, 1, 2, 3, 4, 5, 6, 7, 8, 9] _ _ from ?_)
    refine SOps.q rfl (.plain rfl) rfl (q_field_ptr rfl rfl fd25_0) ?_
    refine SOps.q rfl (.plain rfl) rfl (q_load_ptr rfl rfl rfl rfl ty22) ?_
    refine SOps.q rfl (.plain rfl) rfl (q_len_vec rfl rfl sl22) ?_
    refine SOps.q rfl (.plain rfl) rfl (q_gtr rfl rfl rfl) ?_
    refine SOps.q rfl (.plain rfl) rfl (q_move rfl rfl) ?_
    refine SOps.skip rfl 4 8 false rfl rfl (.inl (gT g1)) rfl ?_
    refine SOps.skip rfl 4 8 false rfl rfl (.inl (gT g1)) rfl ?_
    refine SOps.skip rfl 4 8 false rfl rfl (.inl (gT g1)) rfl ?_
    refine SOps.skip rfl 4 8 false rfl rfl (.inl (gT g1)) rfl ?_
    refine SOps.q rfl (.plain rfl) rfl (q_pick_t rfl rfl g1 rfl) ?_
    refine SOps.sub (st' := ⟨[(1, .c (.ptr 0 0)), (13, .c (.bool true))], [.box [.vec a0_x.Roles.length 4 (gL cSRole dSRole a0_x.Roles), .vec a0_x.Grants.length 4 (gL cSGrant dSGrant a0_x.Grants)]]⟩) (sub_gen [0] rfl rfl ⟨zc rfl rfl, zc rfl rfl, trivial⟩ ⟨⟨_, rfl, ⟨ii rfl rfl, ii rfl rfl, trivial⟩⟩, trivial⟩) ?_
    refine SOps.nil ?_
    refine SCode.cond_t rfl rfl ?_
    refine SCode.seq ?_
    refine SCode.region (show SOps _ _ _ [0] _ _ from ?_)
    refine SOps.q rfl (.plain rfl) rfl (q_assign rfl rfl) ?_
    refine SOps.sub (st' := ⟨[(2, .c (.bool false))], []⟩) (sub_gen [] rfl rfl ⟨zc rfl rfl, trivial⟩ trivial) ?_
    refine SOps.nil ?_
    refine SCode.ret ?_
    obtain rfl := Option.some.inj h
    exact ⟨⟨[(2, .c (.bool false))], []⟩, _, sub_gen [] rfl rfl ⟨zc rfl rfl, trivial⟩ trivial, resA1 (v := .c (.bool false)) rfl rfl, rfl⟩
  refine SCode.region (show SOps _ _ _ [0, 1, 2, 3, 4, 5, 6, 7, 8, 9] _ _ from ?_)
  refine SOps.q rfl (.plain rfl) rfl (q_field_ptr rfl rfl fd25_0) ?_
  refine SOps.q rfl (.plain rfl) rfl (q_load_ptr rfl rfl rfl rfl ty22) ?_
  refine SOps.q rfl (.plain rfl) rfl (q_len_vec rfl rfl sl22) ?_
  refine SOps.q rfl (.plain rfl) rfl (q_gtr rfl rfl rfl) ?_
  refine SOps.q rfl (.plain rfl) rfl (q_move rfl rfl) ?_
  refine SOps.q rfl (.guard 4 8 false rfl rfl (gF g1)) rfl (q_field_ptr rfl rfl fd25_1) ?_
  refine SOps.q rfl (.guard 4 8 false rfl rfl (gF g1)) rfl (q_load_ptr rfl rfl rfl rfl ty23) ?_
  refine SOps.q rfl (.guard 4 8 false rfl rfl (gF g1)) rfl (q_len_vec rfl rfl sl23) ?_
  refine SOps.q rfl (.guard 4 8 false rfl rfl (gF g1)) rfl (q_gtr rfl rfl rfl) ?_
  refine SOps.q rfl (.plain rfl) rfl (q_pick_f rfl rfl g1 rfl) ?_
  refine SOps.sub (st' := ⟨[(1, .c (.ptr 0 0)), (13, .c (.bool (decide (300 < ((a0_x.Grants).length : Int)))))], [.box [.vec a0_x.Roles.length 4 (gL cSRole dSRole a0_x.Roles), .vec a0_x.Grants.length 4 (gL cSGrant dSGrant a0_x.Grants)]]⟩) (sub_gen [0] rfl rfl ⟨zc rfl rfl, zc rfl rfl, trivial⟩ ⟨⟨_, rfl, ⟨ii rfl rfl, ii rfl rfl, trivial⟩⟩, trivial⟩) ?_
  refine SOps.nil ?_
  rcases cond_out h with ⟨g2, h⟩ | ⟨g2, h⟩
  · refine SCode.cond_t rfl g2 ?_
    refine SCode.seq ?_
    refine SCode.region (show SOps _ _ _ [0] _ _ from ?_)
    refine SOps.q rfl (.plain rfl) rfl (q_assign rfl rfl) ?_
    refine SOps.sub (st' := ⟨[(2, .c (.bool false))], []⟩) (sub_gen [] rfl rfl ⟨zc rfl rfl, trivial⟩ trivial) ?_
    refine SOps.nil ?_
    refine SCode.ret ?_
    obtain rfl := Option.some.inj h
    exact ⟨⟨[(2, .c (.bool false))], []⟩, _, sub_gen [] rfl rfl ⟨zc rfl rfl, trivial⟩ trivial, resA1 (v := .c (.bool false)) rfl rfl, rfl⟩
  refine SCode.cond_f rfl g2 ?_
  refine SCode.skip ?_
  refine SCode.join (σ := Unit) (S := fun s => ⟨[], []⟩) (g := fun s => chargenetlaw39_small_p3 = some r) ?_ ?_
  rotate_left
  · refine SCode.seq ?_
    refine SCode.region (show SOps _ _ _ [0, 1, 2, 3] _ _ from ?_)
    refine SOps.q rfl (.plain rfl) rfl (q_field_ptr rfl rfl fd25_0) ?_
    refine SOps.q rfl (.plain rfl) rfl (q_load_ptr rfl rfl rfl rfl ty22) ?_
    refine SOps.q rfl (.plain rfl) rfl (q_len_vec rfl rfl sl22) ?_
    refine SOps.q rfl (.plain rfl) rfl (q_move rfl rfl) ?_
    refine SOps.sub (st' := ⟨[(1, .c (.ptr 0 0)), (16, .c (.int .i64 (((a0_x.Roles).length : Int)))), (17, .c (.int .i64 0))], [.box [.vec a0_x.Roles.length 4 (gL cSRole dSRole a0_x.Roles), .vec a0_x.Grants.length 4 (gL cSGrant dSGrant a0_x.Grants)]]⟩) (sub_gen [0] rfl rfl ⟨zc rfl rfl, zc rfl rfl, zc rfl rfl, trivial⟩ ⟨⟨_, rfl, ⟨ii rfl rfl, ii rfl rfl, trivial⟩⟩, trivial⟩) ?_
    refine SOps.nil ?_
    refine SCode.block ?_
    refine SCode.sub (st' := ⟨[(1, .c (.ptr 0 0)), (16, .c (.int .i64 (((a0_x.Roles).length : Int)))), (17, .c (.int .i64 0))], [.box [.vec a0_x.Roles.length 4 (gL cSRole dSRole a0_x.Roles), .vec a0_x.Grants.length 4 (gL cSGrant dSGrant a0_x.Grants)]]⟩) (sub_gen [0] rfl rfl ⟨zc rfl rfl, zc rfl rfl, zc rfl rfl, trivial⟩ ⟨⟨_, rfl, ⟨ii rfl rfl, ii rfl rfl, trivial⟩⟩, trivial⟩) ?_
    refine (SCode.loop (σ := Nat × Int) (S := fun s => ⟨[(1, .c (.ptr 0 0)), (16, .c (.int .i64 (((a0_x.Roles).length : Int)))), (17, .c (.int .i64 s.2))], [.box [.vec a0_x.Roles.length 4 (gL cSRole dSRole a0_x.Roles), .vec a0_x.Grants.length 4 (gL cSGrant dSGrant a0_x.Grants)]]⟩) (g := fun s => chargenetlaw39_small_l11 a0_x s.1 s.2 = some r) (μ := fun s => s.1) (F, 0) h ?_)
    rintro ⟨n_11, t17_7⟩ h
    replace h : chargenetlaw39_small_l11 a0_x n_11 t17_7 = some r := h
    show SCode _ _ _ ⟨[(1, .c (.ptr 0 0)), (16, .c (.int .i64 (((a0_x.Roles).length : Int)))), (17, .c (.int .i64 t17_7))], [.box [.vec a0_x.Roles.length 4 (gL cSRole dSRole a0_x.Roles), .vec a0_x.Grants.length 4 (gL cSGrant dSGrant a0_x.Grants)]]⟩ _
    cases n_11 with
    | zero => cases h
    | succ n_11 =>
      replace h : chargenetlaw39_small_b11 a0_x (fun t17_7 => chargenetlaw39_small_l11 a0_x n_11 t17_7) t17_7 = some r := h
      unfold chargenetlaw39_small_b11 at h
      refine SCode.seq ?_
      refine SCode.region (show SOps _ _ _ [0] _ _ from ?_)
      refine SOps.q rfl (.plain rfl) rfl (q_lss rfl rfl rfl) ?_
      refine SOps.sub (st' := ⟨[(1, .c (.ptr 0 0)), (16, .c (.int .i64 (((a0_x.Roles).length : Int)))), (17, .c (.int .i64 t17_7)), (18, .c (.bool (decide (t17_7 < ((a0_x.Roles).length : Int)))))], [.box [.vec a0_x.Roles.length 4 (gL cSRole dSRole a0_x.Roles), .vec a0_x.Grants.length 4 (gL cSGrant dSGrant a0_x.Grants)]]⟩) (sub_gen [0] rfl rfl ⟨zc rfl rfl, zc rfl rfl, zc rfl rfl, zc rfl rfl, trivial⟩ ⟨⟨_, rfl, ⟨ii rfl rfl, ii rfl rfl, trivial⟩⟩, trivial⟩) ?_
      refine SOps.nil ?_
      refine SCode.seq ?_
      rcases cond_out h with ⟨g12, h⟩ | ⟨g12, h⟩
      · refine SCode.cond_t rfl g12 ?_
        refine SCode.skip ?_
        refine SCode.seq ?_
        refine SCode.block ?_
        refine SCode.seq ?_
        refine SCode.region (show SOps _ _ _ [0, 1] _ _ from ?_)
        refine SOps.q rfl (.plain rfl) rfl (q_move rfl rfl) ?_
        refine SOps.q rfl (.plain rfl) rfl (q_assign rfl rfl) ?_
        refine SOps.sub (st' := ⟨[(1, .c (.ptr 0 0)), (3, .c (.int .i64 t17_7)), (16, .c (.int .i64 (((a0_x.Roles).length : Int)))), (17, .c (.int .i64 t17_7))], [.box [.vec a0_x.Roles.length 4 (gL cSRole dSRole a0_x.Roles), .vec a0_x.Grants.length 4 (gL cSGrant dSGrant a0_x.Grants)]]⟩) (sub_gen [0] rfl rfl ⟨zc rfl rfl, zc rfl rfl, zc rfl rfl, zc rfl rfl, trivial⟩ ⟨⟨_, rfl, ⟨ii rfl rfl, ii rfl rfl, trivial⟩⟩, trivial⟩) ?_
        refine SOps.nil ?_
        refine SCode.seq ?_
        obtain ⟨g13, h⟩ := guard_out h
        refine SCode.region (show SOps _ _ _ [0, 1, 2, 3, 4, 5, 6, 7] _ _ from ?_)
        refine SOps.q rfl (.plain rfl) rfl (q_field_ptr rfl rfl fd25_0) ?_
        refine SOps.q rfl (.plain rfl) rfl (q_load_ptr rfl rfl rfl rfl ty22) ?_
        refine SOps.q rfl (.plain rfl) rfl (q_move rfl rfl) ?_
        refine SOps.q rfl (.plain rfl) rfl (q_index_vec rfl rfl rfl sl22 rfl g13.1 g13.2) ?_
        refine SOps.q rfl (.plain rfl) rfl (q_field_eptr rfl rfl fd51_1 rfl) ?_
        refine SOps.q rfl (.plain rfl) rfl (q_load_eptr rfl rfl ty48) ?_
        refine SOps.q rfl (.plain rfl) rfl (q_len_vec rfl rfl sl48) ?_
        refine SOps.q rfl (.plain rfl) rfl (q_gtr rfl rfl rfl) ?_
        refine SOps.sub (st' := ⟨[(1, .c (.ptr 0 0)), (16, .c (.int .i64 (((a0_x.Roles).length : Int)))), (17, .c (.int .i64 t17_7)), (27, .c (.bool (decide (110 < (((a0_x.Roles.getD t17_7.toNat dSRole).Actions).length : Int)))))], [.box [.vec a0_x.Roles.length 4 (gL cSRole dSRole a0_x.Roles), .vec a0_x.Grants.length 4 (gL cSGrant dSGrant a0_x.Grants)]]⟩) (sub_gen [0] rfl rfl ⟨zc rfl rfl, zc rfl rfl, zc rfl rfl, zc rfl rfl, trivial⟩ ⟨⟨_, rfl, ⟨ii rfl rfl, ii rfl rfl, trivial⟩⟩, trivial⟩) ?_
        refine SOps.nil ?_
        rcases cond_out h with ⟨g14, h⟩ | ⟨g14, h⟩
        · refine SCode.cond_t rfl g14 ?_
          refine SCode.seq ?_
          refine SCode.region (show SOps _ _ _ [0] _ _ from ?_)
          refine SOps.q rfl (.plain rfl) rfl (q_assign rfl rfl) ?_
          refine SOps.sub (st' := ⟨[(2, .c (.bool false))], []⟩) (sub_gen [] rfl rfl ⟨zc rfl rfl, trivial⟩ trivial) ?_
          refine SOps.nil ?_
          refine SCode.ret ?_
          obtain rfl := Option.some.inj h
          exact ⟨⟨[(2, .c (.bool false))], []⟩, _, sub_gen [] rfl rfl ⟨zc rfl rfl, trivial⟩ trivial, resA1 (v := .c (.bool false)) rfl rfl, rfl⟩
        refine SCode.cond_f rfl g14 ?_
        refine SCode.skip ?_
        refine SCode.region (show SOps _ _ _ [0, 1] _ _ from ?_)
        refine SOps.q rfl (.plain rfl) rfl (q_add rfl rfl rfl) ?_
        refine SOps.q rfl (.plain rfl) rfl (q_move rfl rfl) ?_
        refine SOps.sub (st' := ⟨[(1, .c (.ptr 0 0)), (16, .c (.int .i64 (((a0_x.Roles).length : Int)))), (17, .c (.int .i64 (IntKind.wrap .i64 (t17_7 + 1))))], [.box [.vec a0_x.Roles.length 4 (gL cSRole dSRole a0_x.Roles), .vec a0_x.Grants.length 4 (gL cSGrant dSGrant a0_x.Grants)]]⟩) (sub_gen [0] rfl rfl ⟨zc rfl rfl, zc rfl rfl, zc rfl rfl, trivial⟩ ⟨⟨_, rfl, ⟨ii rfl rfl, ii rfl rfl, trivial⟩⟩, trivial⟩) ?_
        refine SOps.nil ?_
        exact ⟨(n_11, IntKind.wrap .i64 (t17_7 + 1)), h, Nat.lt_succ_self n_11, sub_gen [0] rfl rfl ⟨zc rfl rfl, zc rfl rfl, zc rfl rfl, trivial⟩ ⟨⟨_, rfl, ⟨ii rfl rfl, ii rfl rfl, trivial⟩⟩, trivial⟩⟩
      refine SCode.cond_f rfl g12 ?_
      refine SCode.exit ?_
      exact ⟨(), h, sub_gen [] rfl rfl trivial trivial⟩
  rintro ⟨⟩ h
  show SCode _ _ _ ⟨[], []⟩ _
  replace h : chargenetlaw39_small_p3 = some r := h
  unfold chargenetlaw39_small_p3 at h
  refine SCode.seq ?_
  refine SCode.region (show SOps _ _ _ [0] _ _ from ?_)
  refine SOps.q rfl (.plain rfl) rfl (q_assign rfl rfl) ?_
  refine SOps.sub (st' := ⟨[(2, .c (.bool true))], []⟩) (sub_gen [] rfl rfl ⟨zc rfl rfl, trivial⟩ trivial) ?_
  refine SOps.nil ?_
  refine SCode.ret ?_
  obtain rfl := Option.some.inj h
  exact ⟨⟨[(2, .c (.bool true))], []⟩, _, sub_gen [] rfl rfl ⟨zc rfl rfl, trivial⟩ trivial, resA1 (v := .c (.bool true)) rfl rfl, rfl⟩
set_option maxRecDepth 100000 in
set_option maxHeartbeats 8000000 in
theorem ident_value_ok (F : Nat) (a0_r : Int) (r : Int) (h : ident_value F a0_r = some r) :
    SFun Try.prog 38 [] [.c (.int .i32 a0_r)] (fun x _ => x = .c (.int .i64 r)) := by
  refine SFun.of (n := 35) Try.func38 rfl rfl rfl ?_
  unfold ident_value at h
  show SCode _ _ _ ⟨[(0, .c (.int .i32 a0_r))], []⟩ _
  refine SCode.seq ?_
  refine SCode.region (show SOps _ _ _ [0] _ _ from ?_)
  refine SOps.q rfl (.plain rfl) rfl (q_assign rfl rfl) ?_
  refine SOps.sub (st' := ⟨[(0, .c (.int .i32 a0_r))], []⟩) (sub_gen [] rfl rfl ⟨zc rfl rfl, trivial⟩ trivial) ?_
  refine SOps.nil ?_
  refine SCode.join (σ := Unit) (S := fun s => ⟨[], []⟩) (g := fun s => ident_value_p1 = some r) ?_ ?_
  rotate_left
  · refine SCode.block ?_
    refine SCode.join (σ := Bool) (S := fun s => ⟨[(0, .c (.int .i32 a0_r)), (3, .c (.bool s))], []⟩) (g := fun s => ident_value_p10 a0_r s = some r) ?_ ?_
    rotate_left
    · rcases cond_out h with ⟨g11, h⟩ | ⟨g11, h⟩
      · refine SCode.region (show SOps _ _ _ [0, 1, 2, 3, 4, 5, 6] _ _ from ?_)
        refine SOps.q rfl (.plain rfl) rfl (q_move rfl rfl) ?_
        refine SOps.q rfl (.plain rfl) rfl (q_geq rfl rfl rfl) ?_
        refine SOps.q rfl (.plain rfl) rfl (q_move rfl rfl) ?_
        refine SOps.q rfl (.guard 2 6 true rfl rfl (gT g11)) rfl (q_move rfl rfl) ?_
        refine SOps.q rfl (.guard 2 6 true rfl rfl (gT g11)) rfl (q_leq rfl rfl rfl) ?_
        refine SOps.q rfl (.plain rfl) rfl (q_pick_t rfl rfl g11 rfl) ?_
        refine SOps.q rfl (.plain rfl) rfl (q_assign rfl rfl) ?_
        refine SOps.sub (st' := ⟨[(0, .c (.int .i32 a0_r)), (3, .c (.bool (decide (a0_r ≤ 57))))], []⟩) (sub_gen [] rfl rfl ⟨zc rfl rfl, zc rfl rfl, trivial⟩ trivial) ?_
        refine SOps.nil ?_
        exact ⟨decide (a0_r ≤ 57), h, sub_gen [] rfl rfl ⟨zc rfl rfl, zc rfl rfl, trivial⟩ trivial⟩
      refine SCode.region (show SOps _ _ _ [0, 1, 2, 3, 4, 5, 6] _ _ from ?_)
      refine SOps.q rfl (.plain rfl) rfl (q_move rfl rfl) ?_
      refine SOps.q rfl (.plain rfl) rfl (q_geq rfl rfl rfl) ?_
      refine SOps.q rfl (.plain rfl) rfl (q_move rfl rfl) ?_
      refine SOps.skip rfl 2 6 true rfl rfl (.inl (gF g11)) rfl ?_
      refine SOps.skip rfl 2 6 true rfl rfl (.inl (gF g11)) rfl ?_
      refine SOps.q rfl (.plain rfl) rfl (q_pick_f rfl rfl g11 rfl) ?_
      refine SOps.q rfl (.plain rfl) rfl (q_assign rfl rfl) ?_
      refine SOps.sub (st' := ⟨[(0, .c (.int .i32 a0_r)), (3, .c (.bool false))], []⟩) (sub_gen [] rfl rfl ⟨zc rfl rfl, zc rfl rfl, trivial⟩ trivial) ?_
      refine SOps.nil ?_
      exact ⟨false, h, sub_gen [] rfl rfl ⟨zc rfl rfl, zc rfl rfl, trivial⟩ trivial⟩
    rintro t3_2 h
    show SCode _ _ _ ⟨[(0, .c (.int .i32 a0_r)), (3, .c (.bool t3_2))], []⟩ _
    replace h : ident_value_p10 a0_r t3_2 = some r := h
    unfold ident_value_p10 at h
    rcases cond_out h with ⟨g3, h⟩ | ⟨g3, h⟩
    · refine SCode.cond_t rfl g3 ?_
      refine SCode.seq ?_
      refine SCode.region (show SOps _ _ _ [0, 1, 2, 3] _ _ from ?_)
      refine SOps.q rfl (.plain rfl) rfl (q_move rfl rfl) ?_
      refine SOps.q rfl (.plain rfl) rfl (q_sub rfl rfl rfl) ?_
      refine SOps.q rfl (.plain rfl) rfl (q_convert rfl rfl un21 un3) ?_
      refine SOps.q rfl (.plain rfl) rfl (q_assign rfl rfl) ?_
      refine SOps.sub (st' := ⟨[(2, .c (.int .i64 (IntKind.wrap .i64 (IntKind.wrap .i32 (a0_r - 48)))))], []⟩) (sub_gen [] rfl rfl ⟨zc rfl rfl, trivial⟩ trivial) ?_
      refine SOps.nil ?_
      refine SCode.ret ?_
      obtain rfl := Option.some.inj h
      exact ⟨⟨[(2, .c (.int .i64 (IntKind.wrap .i64 (IntKind.wrap .i32 (a0_r - 48)))))], []⟩, _, sub_gen [] rfl rfl ⟨zc rfl rfl, trivial⟩ trivial, resA1 (v := .c (.int .i64 (IntKind.wrap .i64 (IntKind.wrap .i32 (a0_r - 48))))) rfl rfl, rfl⟩
    refine SCode.cond_f rfl g3 ?_
    refine SCode.join (σ := Bool) (S := fun s => ⟨[(0, .c (.int .i32 a0_r)), (13, .c (.bool s))], []⟩) (g := fun s => ident_value_p8 a0_r s = some r) ?_ ?_
    rotate_left
    · rcases cond_out h with ⟨g9, h⟩ | ⟨g9, h⟩
      · refine SCode.region (show SOps _ _ _ [0, 1, 2, 3, 4, 5, 6] _ _ from ?_)
        refine SOps.q rfl (.plain rfl) rfl (q_move rfl rfl) ?_
        refine SOps.q rfl (.plain rfl) rfl (q_geq rfl rfl rfl) ?_
        refine SOps.q rfl (.plain rfl) rfl (q_move rfl rfl) ?_
        refine SOps.q rfl (.guard 2 16 true rfl rfl (gT g9)) rfl (q_move rfl rfl) ?_
        refine SOps.q rfl (.guard 2 16 true rfl rfl (gT g9)) rfl (q_leq rfl rfl rfl) ?_
        refine SOps.q rfl (.plain rfl) rfl (q_pick_t rfl rfl g9 rfl) ?_
        refine SOps.q rfl (.plain rfl) rfl (q_assign rfl rfl) ?_
        refine SOps.sub (st' := ⟨[(0, .c (.int .i32 a0_r)), (13, .c (.bool (decide (a0_r ≤ 90))))], []⟩) (sub_gen [] rfl rfl ⟨zc rfl rfl, zc rfl rfl, trivial⟩ trivial) ?_
        refine SOps.nil ?_
        exact ⟨decide (a0_r ≤ 90), h, sub_gen [] rfl rfl ⟨zc rfl rfl, zc rfl rfl, trivial⟩ trivial⟩
      refine SCode.region (show SOps _ _ _ [0, 1, 2, 3, 4, 5, 6] _ _ from ?_)
      refine SOps.q rfl (.plain rfl) rfl (q_move rfl rfl) ?_
      refine SOps.q rfl (.plain rfl) rfl (q_geq rfl rfl rfl) ?_
      refine SOps.q rfl (.plain rfl) rfl (q_move rfl rfl) ?_
      refine SOps.skip rfl 2 16 true rfl rfl (.inl (gF g9)) rfl ?_
      refine SOps.skip rfl 2 16 true rfl rfl (.inl (gF g9)) rfl ?_
      refine SOps.q rfl (.plain rfl) rfl (q_pick_f rfl rfl g9 rfl) ?_
      refine SOps.q rfl (.plain rfl) rfl (q_assign rfl rfl) ?_
      refine SOps.sub (st' := ⟨[(0, .c (.int .i32 a0_r)), (13, .c (.bool false))], []⟩) (sub_gen [] rfl rfl ⟨zc rfl rfl, zc rfl rfl, trivial⟩ trivial) ?_
      refine SOps.nil ?_
      exact ⟨false, h, sub_gen [] rfl rfl ⟨zc rfl rfl, zc rfl rfl, trivial⟩ trivial⟩
    rintro t13_4 h
    show SCode _ _ _ ⟨[(0, .c (.int .i32 a0_r)), (13, .c (.bool t13_4))], []⟩ _
    replace h : ident_value_p8 a0_r t13_4 = some r := h
    unfold ident_value_p8 at h
    rcases cond_out h with ⟨g5, h⟩ | ⟨g5, h⟩
    · refine SCode.cond_t rfl g5 ?_
      refine SCode.seq ?_
      refine SCode.region (show SOps _ _ _ [0, 1, 2, 3, 4] _ _ from ?_)
      refine SOps.q rfl (.plain rfl) rfl (q_move rfl rfl) ?_
      refine SOps.q rfl (.plain rfl) rfl (q_sub rfl rfl rfl) ?_
      refine SOps.q rfl (.plain rfl) rfl (q_convert rfl rfl un21 un3) ?_
      refine SOps.q rfl (.plain rfl) rfl (q_add rfl rfl rfl) ?_
      refine SOps.q rfl (.plain rfl) rfl (q_assign rfl rfl) ?_
      refine SOps.sub (st' := ⟨[(2, .c (.int .i64 (IntKind.wrap .i64 (IntKind.wrap .i64 (IntKind.wrap .i32 (a0_r - 65)) + 10))))], []⟩) (sub_gen [] rfl rfl ⟨zc rfl rfl, trivial⟩ trivial) ?_
      refine SOps.nil ?_
      refine SCode.ret ?_
      obtain rfl := Option.some.inj h
      exact ⟨⟨[(2, .c (.int .i64 (IntKind.wrap .i64 (IntKind.wrap .i64 (IntKind.wrap .i32 (a0_r - 65)) + 10))))], []⟩, _, sub_gen [] rfl rfl ⟨zc rfl rfl, trivial⟩ trivial, resA1 (v := .c (.int .i64 (IntKind.wrap .i64 (IntKind.wrap .i64 (IntKind.wrap .i32 (a0_r - 65)) + 10)))) rfl rfl, rfl⟩
    refine SCode.cond_f rfl g5 ?_
    refine SCode.seq ?_
    rcases cond_out h with ⟨g6, h⟩ | ⟨g6, h⟩
    · refine SCode.region (show SOps _ _ _ [0, 1, 2, 3, 4, 5, 6] _ _ from ?_)
      refine SOps.q rfl (.plain rfl) rfl (q_move rfl rfl) ?_
      refine SOps.q rfl (.plain rfl) rfl (q_geq rfl rfl rfl) ?_
      refine SOps.q rfl (.plain rfl) rfl (q_move rfl rfl) ?_
      refine SOps.q rfl (.guard 2 27 true rfl rfl (gT g6)) rfl (q_move rfl rfl) ?_
      refine SOps.q rfl (.guard 2 27 true rfl rfl (gT g6)) rfl (q_leq rfl rfl rfl) ?_
      refine SOps.q rfl (.plain rfl) rfl (q_pick_t rfl rfl g6 rfl) ?_
      refine SOps.q rfl (.plain rfl) rfl (q_assign rfl rfl) ?_
      refine SOps.sub (st' := ⟨[(0, .c (.int .i32 a0_r)), (24, .c (.bool (decide (a0_r ≤ 122))))], []⟩) (sub_gen [] rfl rfl ⟨zc rfl rfl, zc rfl rfl, trivial⟩ trivial) ?_
      refine SOps.nil ?_
      rcases cond_out h with ⟨g7, h⟩ | ⟨g7, h⟩
      · refine SCode.cond_t rfl g7 ?_
        refine SCode.seq ?_
        refine SCode.region (show SOps _ _ _ [0, 1, 2, 3, 4] _ _ from ?_)
        refine SOps.q rfl (.plain rfl) rfl (q_move rfl rfl) ?_
        refine SOps.q rfl (.plain rfl) rfl (q_sub rfl rfl rfl) ?_
        refine SOps.q rfl (.plain rfl) rfl (q_convert rfl rfl un21 un3) ?_
        refine SOps.q rfl (.plain rfl) rfl (q_add rfl rfl rfl) ?_
        refine SOps.q rfl (.plain rfl) rfl (q_assign rfl rfl) ?_
        refine SOps.sub (st' := ⟨[(2, .c (.int .i64 (IntKind.wrap .i64 (IntKind.wrap .i64 (IntKind.wrap .i32 (a0_r - 97)) + 10))))], []⟩) (sub_gen [] rfl rfl ⟨zc rfl rfl, trivial⟩ trivial) ?_
        refine SOps.nil ?_
        refine SCode.ret ?_
        obtain rfl := Option.some.inj h
        exact ⟨⟨[(2, .c (.int .i64 (IntKind.wrap .i64 (IntKind.wrap .i64 (IntKind.wrap .i32 (a0_r - 97)) + 10))))], []⟩, _, sub_gen [] rfl rfl ⟨zc rfl rfl, trivial⟩ trivial, resA1 (v := .c (.int .i64 (IntKind.wrap .i64 (IntKind.wrap .i64 (IntKind.wrap .i32 (a0_r - 97)) + 10)))) rfl rfl, rfl⟩
      refine SCode.cond_f rfl g7 ?_
      refine SCode.skip ?_
      exact ⟨(), h, sub_gen [] rfl rfl trivial trivial⟩
    refine SCode.region (show SOps _ _ _ [0, 1, 2, 3, 4, 5, 6] _ _ from ?_)
    refine SOps.q rfl (.plain rfl) rfl (q_move rfl rfl) ?_
    refine SOps.q rfl (.plain rfl) rfl (q_geq rfl rfl rfl) ?_
    refine SOps.q rfl (.plain rfl) rfl (q_move rfl rfl) ?_
    refine SOps.skip rfl 2 27 true rfl rfl (.inl (gF g6)) rfl ?_
    refine SOps.skip rfl 2 27 true rfl rfl (.inl (gF g6)) rfl ?_
    refine SOps.q rfl (.plain rfl) rfl (q_pick_f rfl rfl g6 rfl) ?_
    refine SOps.q rfl (.plain rfl) rfl (q_assign rfl rfl) ?_
    refine SOps.sub (st' := ⟨[(0, .c (.int .i32 a0_r)), (24, .c (.bool false))], []⟩) (sub_gen [] rfl rfl ⟨zc rfl rfl, zc rfl rfl, trivial⟩ trivial) ?_
    refine SOps.nil ?_
    refine SCode.cond_f rfl rfl ?_
    refine SCode.skip ?_
    exact ⟨(), h, sub_gen [] rfl rfl trivial trivial⟩
  rintro ⟨⟩ h
  show SCode _ _ _ ⟨[], []⟩ _
  replace h : ident_value_p1 = some r := h
  unfold ident_value_p1 at h
  refine SCode.seq ?_
  refine SCode.region (show SOps _ _ _ [0] _ _ from ?_)
  refine SOps.q rfl (.plain rfl) rfl (q_assign rfl rfl) ?_
  refine SOps.sub (st' := ⟨[(2, .c (.int .i64 ((-1))))], []⟩) (sub_gen [] rfl rfl ⟨zc rfl rfl, trivial⟩ trivial) ?_
  refine SOps.nil ?_
  refine SCode.ret ?_
  obtain rfl := Option.some.inj h
  exact ⟨⟨[(2, .c (.int .i64 ((-1))))], []⟩, _, sub_gen [] rfl rfl ⟨zc rfl rfl, trivial⟩ trivial, resA1 (v := .c (.int .i64 ((-1)))) rfl rfl, rfl⟩
set_option maxRecDepth 100000 in
set_option maxHeartbeats 8000000 in
theorem ident_Valid_ok (F : Nat) (a0_s : ByteArray) (r : Bool) (h : ident_Valid F a0_s = some r) :
    SFun Try.prog 24 [] [.c (.str a0_s)] (fun x _ => x = .c (.bool r)) := by
  refine SFun.of (n := 28) Try.func24 rfl rfl rfl ?_
  unfold ident_Valid at h
  show SCode _ _ _ ⟨[(0, .c (.str a0_s))], []⟩ _
  refine SCode.seq ?_
  refine SCode.region (show SOps _ _ _ [0] _ _ from ?_)
  refine SOps.q rfl (.plain rfl) rfl (q_assign rfl rfl) ?_
  refine SOps.sub (st' := ⟨[(0, .c (.str a0_s))], []⟩) (sub_gen [] rfl rfl ⟨zc rfl rfl, trivial⟩ trivial) ?_
  refine SOps.nil ?_
  refine SCode.seq ?_
  refine SCode.seq ?_
  rcases cond_out h with ⟨g1, h⟩ | ⟨g1, h⟩
  · refine SCode.region (show SOps _ _ _ [0, 1, 2, 3, 4, 5, 6, 7] _ _ from ?_)
    refine SOps.q rfl (.plain rfl) rfl (q_move rfl rfl) ?_
    refine SOps.q rfl (.plain rfl) rfl (q_len_str rfl rfl un9) ?_
    refine SOps.q rfl (.plain rfl) rfl (q_lss rfl rfl rfl) ?_
    refine SOps.q rfl (.plain rfl) rfl (q_move rfl rfl) ?_
    refine SOps.skip rfl 3 8 false rfl rfl (.inl (gT g1)) rfl ?_
    refine SOps.skip rfl 3 8 false rfl rfl (.inl (gT g1)) rfl ?_
    refine SOps.skip rfl 3 8 false rfl rfl (.inl (gT g1)) rfl ?_
    refine SOps.q rfl (.plain rfl) rfl (q_pick_t rfl rfl g1 rfl) ?_
    refine SOps.sub (st' := ⟨[(0, .c (.str a0_s)), (12, .c (.bool true))], []⟩) (sub_gen [] rfl rfl ⟨zc rfl rfl, zc rfl rfl, trivial⟩ trivial) ?_
    refine SOps.nil ?_
    refine SCode.cond_t rfl rfl ?_
    refine SCode.seq ?_
    refine SCode.region (show SOps _ _ _ [0] _ _ from ?_)
    refine SOps.q rfl (.plain rfl) rfl (q_assign rfl rfl) ?_
    refine SOps.sub (st' := ⟨[(2, .c (.bool false))], []⟩) (sub_gen [] rfl rfl ⟨zc rfl rfl, trivial⟩ trivial) ?_
    refine SOps.nil ?_
    refine SCode.ret ?_
    obtain rfl := Option.some.inj h
    exact ⟨⟨[(2, .c (.bool false))], []⟩, _, sub_gen [] rfl rfl ⟨zc rfl rfl, trivial⟩ trivial, resA1 (v := .c (.bool false)) rfl rfl, rfl⟩
  refine SCode.region (show SOps _ _ _ [0, 1, 2, 3, 4, 5, 6, 7] _ _ from ?_)
  refine SOps.q rfl (.plain rfl) rfl (q_move rfl rfl) ?_
  refine SOps.q rfl (.plain rfl) rfl (q_len_str rfl rfl un9) ?_
  refine SOps.q rfl (.plain rfl) rfl (q_lss rfl rfl rfl) ?_
  refine SOps.q rfl (.plain rfl) rfl (q_move rfl rfl) ?_
  refine SOps.q rfl (.guard 3 8 false rfl rfl (gF g1)) rfl (q_move rfl rfl) ?_
  refine SOps.q rfl (.guard 3 8 false rfl rfl (gF g1)) rfl (q_len_str rfl rfl un9) ?_
  refine SOps.q rfl (.guard 3 8 false rfl rfl (gF g1)) rfl (q_gtr rfl rfl rfl) ?_
  refine SOps.q rfl (.plain rfl) rfl (q_pick_f rfl rfl g1 rfl) ?_
  refine SOps.sub (st' := ⟨[(0, .c (.str a0_s)), (12, .c (.bool (decide (36 < (a0_s.size : Int)))))], []⟩) (sub_gen [] rfl rfl ⟨zc rfl rfl, zc rfl rfl, trivial⟩ trivial) ?_
  refine SOps.nil ?_
  rcases cond_out h with ⟨g2, h⟩ | ⟨g2, h⟩
  · refine SCode.cond_t rfl g2 ?_
    refine SCode.seq ?_
    refine SCode.region (show SOps _ _ _ [0] _ _ from ?_)
    refine SOps.q rfl (.plain rfl) rfl (q_assign rfl rfl) ?_
    refine SOps.sub (st' := ⟨[(2, .c (.bool false))], []⟩) (sub_gen [] rfl rfl ⟨zc rfl rfl, trivial⟩ trivial) ?_
    refine SOps.nil ?_
    refine SCode.ret ?_
    obtain rfl := Option.some.inj h
    exact ⟨⟨[(2, .c (.bool false))], []⟩, _, sub_gen [] rfl rfl ⟨zc rfl rfl, trivial⟩ trivial, resA1 (v := .c (.bool false)) rfl rfl, rfl⟩
  refine SCode.cond_f rfl g2 ?_
  refine SCode.skip ?_
  refine SCode.join (σ := Unit) (S := fun s => ⟨[], []⟩) (g := fun s => ident_Valid_p3 = some r) ?_ ?_
  rotate_left
  · refine SCode.seq ?_
    refine SCode.region (show SOps _ _ _ [0, 1] _ _ from ?_)
    refine SOps.q rfl (.plain rfl) rfl (q_move rfl rfl) ?_
    refine SOps.e rfl (.plain rfl) (e_range rfl rfl rfl rfl un9) ?_
    refine SOps.sub (st' := ⟨[(14, .c (.ptr 0 0))], [.raw (.stringIter a0_s 0)]⟩) (sub_gen [0] rfl rfl ⟨zc rfl rfl, trivial⟩ ⟨rfl, trivial⟩) ?_
    refine SOps.nil ?_
    refine SCode.block ?_
    refine SCode.sub (st' := ⟨[(14, .c (.ptr 0 0))], [.raw (.stringIter a0_s 0)]⟩) (sub_gen [0] rfl rfl ⟨zc rfl rfl, trivial⟩ ⟨rfl, trivial⟩) ?_
    refine (SCode.loop (σ := Nat × Nat) (S := fun s => ⟨[(14, .c (.ptr 0 0))], [.raw (.stringIter a0_s s.2)]⟩) (g := fun s => ident_Valid_l29 F a0_s s.1 s.2 = some r) (μ := fun s => s.1) (F, 0) h ?_)
    rintro ⟨n_29, pos_17⟩ h
    replace h : ident_Valid_l29 F a0_s n_29 pos_17 = some r := h
    show SCode _ _ _ ⟨[(14, .c (.ptr 0 0))], [.raw (.stringIter a0_s pos_17)]⟩ _
    cases n_29 with
    | zero => cases h
    | succ n_29 =>
      replace h : ident_Valid_b29 F a0_s (fun pos_17 => ident_Valid_l29 F a0_s n_29 pos_17) pos_17 = some r := h
      unfold ident_Valid_b29 at h
      refine SCode.seq ?_
      rcases cond_out h with ⟨g30, h⟩ | ⟨g30, h⟩
      · refine SCode.region (show SOps _ _ _ [0, 1] _ _ from ?_)
        refine SOps.e rfl (.plain rfl) (e_next_t rfl rfl rfl rfl rfl g30) ?_
        refine SOps.q rfl (.plain rfl) rfl (q_extract rfl rfl rfl) ?_
        refine SOps.sub (st' := ⟨[(14, .c (.ptr 0 0)), (15, .t [.c (.bool true), .c (.int .i64 ((pos_17 : Int))), .c (.int .i32 (((Utf8.decode a0_s pos_17).1 : Int)))]), (16, .c (.bool true))], [.raw (.stringIter a0_s (pos_17 + (Utf8.decode a0_s pos_17).2))]⟩) (sub_gen [0] rfl rfl ⟨zc rfl rfl, ⟨rfl, rfl⟩, zc rfl rfl, trivial⟩ ⟨rfl, trivial⟩) ?_
        refine SOps.nil ?_
        refine SCode.seq ?_
        refine SCode.cond_t rfl rfl ?_
        refine SCode.skip ?_
        refine SCode.block ?_
        refine SCode.seq ?_
        refine SCode.region (show SOps _ _ _ [0, 1] _ _ from ?_)
        refine SOps.q rfl (.plain rfl) rfl (q_extract rfl rfl rfl) ?_
        refine SOps.q rfl (.plain rfl) rfl (q_assign rfl rfl) ?_
        refine SOps.sub (st' := ⟨[(4, .c (.int .i32 (((Utf8.decode a0_s pos_17).1 : Int)))), (14, .c (.ptr 0 0))], [.raw (.stringIter a0_s (pos_17 + (Utf8.decode a0_s pos_17).2))]⟩) (sub_gen [0] rfl rfl ⟨zc rfl rfl, zc rfl rfl, trivial⟩ ⟨rfl, trivial⟩) ?_
        refine SOps.nil ?_
        refine SCode.seq ?_
        refine SCode.seq ?_
        refine SCode.region (show SOps _ _ _ [0] _ _ from ?_)
        refine SOps.q rfl (.plain rfl) rfl (q_move rfl rfl) ?_
        refine SOps.sub (st' := ⟨[(4, .c (.int .i32 (((Utf8.decode a0_s pos_17).1 : Int)))), (14, .c (.ptr 0 0)), (18, .c (.int .i32 (((Utf8.decode a0_s pos_17).1 : Int))))], [.raw (.stringIter a0_s (pos_17 + (Utf8.decode a0_s pos_17).2))]⟩) (sub_gen [0] rfl rfl ⟨zc rfl rfl, zc rfl rfl, zc rfl rfl, trivial⟩ ⟨rfl, trivial⟩) ?_
        refine SOps.nil ?_
        refine SCode.block ?_
        refine SCode.join (σ := Bool) (S := fun s => ⟨[(4, .c (.int .i32 (((Utf8.decode a0_s pos_17).1 : Int)))), (14, .c (.ptr 0 0)), (19, .c (.bool s))], [.raw (.stringIter a0_s (pos_17 + (Utf8.decode a0_s pos_17).2))]⟩) (g := fun s => ident_Valid_p36 F a0_s pos_17 (fun pos_17 => ident_Valid_l29 F a0_s n_29 pos_17) s = some r) ?_ ?_
        rotate_left
        · refine SCode.seq ?_
          refine SCode.region (show SOps _ _ _ [0, 1] _ _ from ?_)
          refine SOps.q rfl (.plain rfl) rfl (q_eql rfl rfl rfl) ?_
          refine SOps.q rfl (.plain rfl) rfl (q_assign rfl rfl) ?_
          refine SOps.sub (st' := ⟨[(4, .c (.int .i32 (((Utf8.decode a0_s pos_17).1 : Int)))), (14, .c (.ptr 0 0)), (18, .c (.int .i32 (((Utf8.decode a0_s pos_17).1 : Int)))), (19, .c (.bool (decide (((Utf8.decode a0_s pos_17).1 : Int) = 45))))], [.raw (.stringIter a0_s (pos_17 + (Utf8.decode a0_s pos_17).2))]⟩) (sub_gen [0] rfl rfl ⟨zc rfl rfl, zc rfl rfl, zc rfl rfl, zc rfl rfl, trivial⟩ ⟨rfl, trivial⟩) ?_
          refine SOps.nil ?_
          rcases cond_out h with ⟨g37, h⟩ | ⟨g37, h⟩
          · refine SCode.cond_t rfl g37 ?_
            refine SCode.skip ?_
            exact ⟨decide (((Utf8.decode a0_s pos_17).1 : Int) = 45), h, sub_gen [0] rfl rfl ⟨zc rfl rfl, zc rfl rfl, zc rfl rfl, trivial⟩ ⟨rfl, trivial⟩⟩
          refine SCode.cond_f rfl g37 ?_
          refine SCode.seq ?_
          refine SCode.region (show SOps _ _ _ [0, 1] _ _ from ?_)
          refine SOps.q rfl (.plain rfl) rfl (q_eql rfl rfl rfl) ?_
          refine SOps.q rfl (.plain rfl) rfl (q_assign rfl rfl) ?_
          refine SOps.sub (st' := ⟨[(4, .c (.int .i32 (((Utf8.decode a0_s pos_17).1 : Int)))), (14, .c (.ptr 0 0)), (18, .c (.int .i32 (((Utf8.decode a0_s pos_17).1 : Int)))), (19, .c (.bool (decide (((Utf8.decode a0_s pos_17).1 : Int) = 95))))], [.raw (.stringIter a0_s (pos_17 + (Utf8.decode a0_s pos_17).2))]⟩) (sub_gen [0] rfl rfl ⟨zc rfl rfl, zc rfl rfl, zc rfl rfl, zc rfl rfl, trivial⟩ ⟨rfl, trivial⟩) ?_
          refine SOps.nil ?_
          rcases cond_out h with ⟨g38, h⟩ | ⟨g38, h⟩
          · refine SCode.cond_t rfl g38 ?_
            refine SCode.skip ?_
            exact ⟨decide (((Utf8.decode a0_s pos_17).1 : Int) = 95), h, sub_gen [0] rfl rfl ⟨zc rfl rfl, zc rfl rfl, zc rfl rfl, trivial⟩ ⟨rfl, trivial⟩⟩
          refine SCode.cond_f rfl g38 ?_
          refine SCode.seq ?_
          refine SCode.region (show SOps _ _ _ [0, 1] _ _ from ?_)
          refine SOps.q rfl (.plain rfl) rfl (q_eql rfl rfl rfl) ?_
          refine SOps.q rfl (.plain rfl) rfl (q_assign rfl rfl) ?_
          refine SOps.sub (st' := ⟨[(4, .c (.int .i32 (((Utf8.decode a0_s pos_17).1 : Int)))), (14, .c (.ptr 0 0)), (18, .c (.int .i32 (((Utf8.decode a0_s pos_17).1 : Int)))), (19, .c (.bool (decide (((Utf8.decode a0_s pos_17).1 : Int) = 46))))], [.raw (.stringIter a0_s (pos_17 + (Utf8.decode a0_s pos_17).2))]⟩) (sub_gen [0] rfl rfl ⟨zc rfl rfl, zc rfl rfl, zc rfl rfl, zc rfl rfl, trivial⟩ ⟨rfl, trivial⟩) ?_
          refine SOps.nil ?_
          rcases cond_out h with ⟨g39, h⟩ | ⟨g39, h⟩
          · refine SCode.cond_t rfl g39 ?_
            refine SCode.skip ?_
            exact ⟨decide (((Utf8.decode a0_s pos_17).1 : Int) = 46), h, sub_gen [0] rfl rfl ⟨zc rfl rfl, zc rfl rfl, zc rfl rfl, trivial⟩ ⟨rfl, trivial⟩⟩
          refine SCode.cond_f rfl g39 ?_
          refine SCode.seq ?_
          refine SCode.region (show SOps _ _ _ [0, 1] _ _ from ?_)
          refine SOps.q rfl (.plain rfl) rfl (q_eql rfl rfl rfl) ?_
          refine SOps.q rfl (.plain rfl) rfl (q_assign rfl rfl) ?_
          refine SOps.sub (st' := ⟨[(4, .c (.int .i32 (((Utf8.decode a0_s pos_17).1 : Int)))), (14, .c (.ptr 0 0)), (18, .c (.int .i32 (((Utf8.decode a0_s pos_17).1 : Int)))), (19, .c (.bool (decide (((Utf8.decode a0_s pos_17).1 : Int) = 58))))], [.raw (.stringIter a0_s (pos_17 + (Utf8.decode a0_s pos_17).2))]⟩) (sub_gen [0] rfl rfl ⟨zc rfl rfl, zc rfl rfl, zc rfl rfl, zc rfl rfl, trivial⟩ ⟨rfl, trivial⟩) ?_
          refine SOps.nil ?_
          rcases cond_out h with ⟨g40, h⟩ | ⟨g40, h⟩
          · refine SCode.cond_t rfl g40 ?_
            refine SCode.skip ?_
            exact ⟨decide (((Utf8.decode a0_s pos_17).1 : Int) = 58), h, sub_gen [0] rfl rfl ⟨zc rfl rfl, zc rfl rfl, zc rfl rfl, trivial⟩ ⟨rfl, trivial⟩⟩
          refine SCode.cond_f rfl g40 ?_
          refine SCode.region (show SOps _ _ _ [0, 1] _ _ from ?_)
          refine SOps.q rfl (.plain rfl) rfl (q_eql rfl rfl rfl) ?_
          refine SOps.q rfl (.plain rfl) rfl (q_assign rfl rfl) ?_
          refine SOps.sub (st' := ⟨[(4, .c (.int .i32 (((Utf8.decode a0_s pos_17).1 : Int)))), (14, .c (.ptr 0 0)), (19, .c (.bool (decide (((Utf8.decode a0_s pos_17).1 : Int) = 42))))], [.raw (.stringIter a0_s (pos_17 + (Utf8.decode a0_s pos_17).2))]⟩) (sub_gen [0] rfl rfl ⟨zc rfl rfl, zc rfl rfl, zc rfl rfl, trivial⟩ ⟨rfl, trivial⟩) ?_
          refine SOps.nil ?_
          exact ⟨decide (((Utf8.decode a0_s pos_17).1 : Int) = 42), h, sub_gen [0] rfl rfl ⟨zc rfl rfl, zc rfl rfl, zc rfl rfl, trivial⟩ ⟨rfl, trivial⟩⟩
        rintro t19_31 h
        show SCode _ _ _ ⟨[(4, .c (.int .i32 (((Utf8.decode a0_s pos_17).1 : Int)))), (14, .c (.ptr 0 0)), (19, .c (.bool t19_31))], [.raw (.stringIter a0_s (pos_17 + (Utf8.decode a0_s pos_17).2))]⟩ _
        replace h : ident_Valid_p36 F a0_s pos_17 (fun pos_17 => ident_Valid_l29 F a0_s n_29 pos_17) t19_31 = some r := h
        unfold ident_Valid_p36 at h
        rcases cond_out h with ⟨g32, h⟩ | ⟨g32, h⟩
        · refine SCode.cond_t rfl g32 ?_
          refine SCode.exit ?_
          exact ⟨(n_29, pos_17 + (Utf8.decode a0_s pos_17).2), h, Nat.lt_succ_self n_29, sub_gen [0] rfl rfl ⟨zc rfl rfl, trivial⟩ ⟨rfl, trivial⟩⟩
        refine SCode.cond_f rfl g32 ?_
        refine SCode.skip ?_
        refine SCode.seq ?_
        obtain ⟨c_33, g34, h⟩ := bind_out h
        try dsimp only at h
        refine SCode.region (show SOps _ _ _ [0, 1, 2] _ _ from ?_)
        refine SOps.q rfl (.plain rfl) rfl (q_move rfl rfl) ?_
        refine SOps.q rfl (.plain rfl) rfl (q_call (ident_value_ok F (((Utf8.decode a0_s pos_17).1 : Int)) c_33 g34) [] rfl fn38 ⟨⟨_, rfl, .inl ⟨rfl, rfl⟩⟩, trivial⟩ (.inl rfl)) ?_
        refine SOps.q rfl (.plain rfl) rfl (q_lss rfl rfl rfl) ?_
        refine SOps.sub (st' := ⟨[(14, .c (.ptr 0 0)), (27, .c (.bool (decide (c_33 < 0))))], [.raw (.stringIter a0_s (pos_17 + (Utf8.decode a0_s pos_17).2))]⟩) (sub_gen [0] rfl rfl ⟨zc rfl rfl, zc rfl rfl, trivial⟩ ⟨rfl, trivial⟩) ?_
        refine SOps.nil ?_
        rcases cond_out h with ⟨g35, h⟩ | ⟨g35, h⟩
        · refine SCode.cond_t rfl g35 ?_
          refine SCode.seq ?_
          refine SCode.region (show SOps _ _ _ [0] _ _ from ?_)
          refine SOps.q rfl (.plain rfl) rfl (q_assign rfl rfl) ?_
          refine SOps.sub (st' := ⟨[(2, .c (.bool false))], []⟩) (sub_gen [] rfl rfl ⟨zc rfl rfl, trivial⟩ trivial) ?_
          refine SOps.nil ?_
          refine SCode.ret ?_
          obtain rfl := Option.some.inj h
          exact ⟨⟨[(2, .c (.bool false))], []⟩, _, sub_gen [] rfl rfl ⟨zc rfl rfl, trivial⟩ trivial, resA1 (v := .c (.bool false)) rfl rfl, rfl⟩
        refine SCode.cond_f rfl g35 ?_
        refine SCode.skip ?_
        exact ⟨(n_29, pos_17 + (Utf8.decode a0_s pos_17).2), h, Nat.lt_succ_self n_29, sub_gen [0] rfl rfl ⟨zc rfl rfl, trivial⟩ ⟨rfl, trivial⟩⟩
      refine SCode.region (show SOps _ _ _ [0, 1] _ _ from ?_)
      refine SOps.q rfl (.plain rfl) rfl (q_next_f rfl rfl rfl g30) ?_
      refine SOps.q rfl (.plain rfl) rfl (q_extract rfl rfl rfl) ?_
      refine SOps.sub (st' := ⟨[(14, .c (.ptr 0 0)), (15, .t [.c (.bool false)]), (16, .c (.bool false))], [.raw (.stringIter a0_s pos_17)]⟩) (sub_gen [0] rfl rfl ⟨zc rfl rfl, ⟨rfl, rfl⟩, zc rfl rfl, trivial⟩ ⟨rfl, trivial⟩) ?_
      refine SOps.nil ?_
      refine SCode.seq ?_
      refine SCode.cond_f rfl rfl ?_
      refine SCode.exit ?_
      exact ⟨(), h, sub_gen [] rfl rfl trivial trivial⟩
  rintro ⟨⟩ h
  show SCode _ _ _ ⟨[], []⟩ _
  replace h : ident_Valid_p3 = some r := h
  unfold ident_Valid_p3 at h
  refine SCode.seq ?_
  refine SCode.region (show SOps _ _ _ [0] _ _ from ?_)
  refine SOps.q rfl (.plain rfl) rfl (q_assign rfl rfl) ?_
  refine SOps.sub (st' := ⟨[(2, .c (.bool true))], []⟩) (sub_gen [] rfl rfl ⟨zc rfl rfl, trivial⟩ trivial) ?_
  refine SOps.nil ?_
  refine SCode.ret ?_
  obtain rfl := Option.some.inj h
  exact ⟨⟨[(2, .c (.bool true))], []⟩, _, sub_gen [] rfl rfl ⟨zc rfl rfl, trivial⟩ trivial, resA1 (v := .c (.bool true)) rfl rfl, rfl⟩
set_option maxRecDepth 100000 in
set_option maxHeartbeats 8000000 in
theorem access_validRole_ok (F : Nat) (a0_r : SRole) (r : Int) (h : access_validRole F a0_r = some r) :
    SFun Try.prog 25 [] [.a [.str a0_r.Name, .vec a0_r.Actions.length 1 (gL (cInt .i64) 0 a0_r.Actions), .str a0_r.Prefix, .bool a0_r.Deny]] (fun x _ => x = .c (.int .i64 r)) := by
  refine SFun.of (n := 41) Try.func25 rfl rfl rfl ?_
  unfold access_validRole at h
  show SCode _ _ _ ⟨[(0, .a [.str a0_r.Name, .vec a0_r.Actions.length 1 (gL (cInt .i64) 0 a0_r.Actions), .str a0_r.Prefix, .bool a0_r.Deny])], []⟩ _
  refine SCode.seq ?_
  refine SCode.region (show SOps _ _ _ [0, 1] _ _ from ?_)
  refine SOps.e rfl (.plain rfl) (e_box rfl rfl rfl rfl rfl rfl) ?_
  refine SOps.q rfl (.plain rfl) rfl (q_assign rfl rfl) ?_
  refine SOps.sub (st' := ⟨[(1, .c (.ptr 0 0))], [.box [.str a0_r.Name, .vec a0_r.Actions.length 1 (gL (cInt .i64) 0 a0_r.Actions), .str a0_r.Prefix, .bool a0_r.Deny]]⟩) (sub_gen [0] rfl rfl ⟨zc rfl rfl, trivial⟩ ⟨⟨_, rfl, ⟨ii rfl rfl, ii rfl rfl, ii rfl rfl, ii rfl rfl, trivial⟩⟩, trivial⟩) ?_
  refine SOps.nil ?_
  refine SCode.join (σ := Unit) (S := fun s => ⟨[(1, .c (.ptr 0 0))], [.box [.str a0_r.Name, .vec a0_r.Actions.length 1 (gL (cInt .i64) 0 a0_r.Actions), .str a0_r.Prefix, .bool a0_r.Deny]]⟩) (g := fun s => access_validRole_p6 F a0_r = some r) ?_ ?_
  rotate_left
  · refine SCode.seq ?_
    refine SCode.region (show SOps _ _ _ [0, 1, 2, 3] _ _ from ?_)
    refine SOps.q rfl (.plain rfl) rfl (q_field_ptr rfl rfl fd51_1) ?_
    refine SOps.q rfl (.plain rfl) rfl (q_load_ptr rfl rfl rfl rfl ty48) ?_
    refine SOps.q rfl (.plain rfl) rfl (q_len_vec rfl rfl sl48) ?_
    refine SOps.q rfl (.plain rfl) rfl (q_move rfl rfl) ?_
    refine SOps.sub (st' := ⟨[(1, .c (.ptr 0 0)), (6, .c (.vec a0_r.Actions.length 1 (gL (cInt .i64) 0 a0_r.Actions))), (7, .c (.int .i64 (((a0_r.Actions).length : Int)))), (8, .c (.int .i64 0))], [.box [.str a0_r.Name, .vec a0_r.Actions.length 1 (gL (cInt .i64) 0 a0_r.Actions), .str a0_r.Prefix, .bool a0_r.Deny]]⟩) (sub_gen [0] rfl rfl ⟨zc rfl rfl, zc rfl rfl, zc rfl rfl, zc rfl rfl, trivial⟩ ⟨⟨_, rfl, ⟨ii rfl rfl, ii rfl rfl, ii rfl rfl, ii rfl rfl, trivial⟩⟩, trivial⟩) ?_
    refine SOps.nil ?_
    refine SCode.block ?_
    refine SCode.sub (st' := ⟨[(1, .c (.ptr 0 0)), (6, .c (.vec a0_r.Actions.length 1 (gL (cInt .i64) 0 a0_r.Actions))), (7, .c (.int .i64 (((a0_r.Actions).length : Int)))), (8, .c (.int .i64 0))], [.box [.str a0_r.Name, .vec a0_r.Actions.length 1 (gL (cInt .i64) 0 a0_r.Actions), .str a0_r.Prefix, .bool a0_r.Deny]]⟩) (sub_gen [0] rfl rfl ⟨zc rfl rfl, zc rfl rfl, zc rfl rfl, zc rfl rfl, trivial⟩ ⟨⟨_, rfl, ⟨ii rfl rfl, ii rfl rfl, ii rfl rfl, ii rfl rfl, trivial⟩⟩, trivial⟩) ?_
    refine (SCode.loop (σ := Nat × Int) (S := fun s => ⟨[(1, .c (.ptr 0 0)), (6, .c (.vec a0_r.Actions.length 1 (gL (cInt .i64) 0 a0_r.Actions))), (7, .c (.int .i64 (((a0_r.Actions).length : Int)))), (8, .c (.int .i64 s.2))], [.box [.str a0_r.Name, .vec a0_r.Actions.length 1 (gL (cInt .i64) 0 a0_r.Actions), .str a0_r.Prefix, .bool a0_r.Deny]]⟩) (g := fun s => access_validRole_l24 F a0_r s.1 s.2 = some r) (μ := fun s => s.1) (F, 0) h ?_)
    rintro ⟨n_24, t8_15⟩ h
    replace h : access_validRole_l24 F a0_r n_24 t8_15 = some r := h
    show SCode _ _ _ ⟨[(1, .c (.ptr 0 0)), (6, .c (.vec a0_r.Actions.length 1 (gL (cInt .i64) 0 a0_r.Actions))), (7, .c (.int .i64 (((a0_r.Actions).length : Int)))), (8, .c (.int .i64 t8_15))], [.box [.str a0_r.Name, .vec a0_r.Actions.length 1 (gL (cInt .i64) 0 a0_r.Actions), .str a0_r.Prefix, .bool a0_r.Deny]]⟩ _
    cases n_24 with
    | zero => cases h
    | succ n_24 =>
      replace h : access_validRole_b24 F a0_r (fun t8_15 => access_validRole_l24 F a0_r n_24 t8_15) t8_15 = some r := h
      unfold access_validRole_b24 at h
      refine SCode.seq ?_
      refine SCode.region (show SOps _ _ _ [0] _ _ from ?_)
      refine SOps.q rfl (.plain rfl) rfl (q_lss rfl rfl rfl) ?_
      refine SOps.sub (st' := ⟨[(1, .c (.ptr 0 0)), (6, .c (.vec a0_r.Actions.length 1 (gL (cInt .i64) 0 a0_r.Actions))), (7, .c (.int .i64 (((a0_r.Actions).length : Int)))), (8, .c (.int .i64 t8_15)), (9, .c (.bool (decide (t8_15 < ((a0_r.Actions).length : Int)))))], [.box [.str a0_r.Name, .vec a0_r.Actions.length 1 (gL (cInt .i64) 0 a0_r.Actions), .str a0_r.Prefix, .bool a0_r.Deny]]⟩) (sub_gen [0] rfl rfl ⟨zc rfl rfl, zc rfl rfl, zc rfl rfl, zc rfl rfl, zc rfl rfl, trivial⟩ ⟨⟨_, rfl, ⟨ii rfl rfl, ii rfl rfl, ii rfl rfl, ii rfl rfl, trivial⟩⟩, trivial⟩) ?_
      refine SOps.nil ?_
      refine SCode.seq ?_
      rcases cond_out h with ⟨g25, h⟩ | ⟨g25, h⟩
      · refine SCode.cond_t rfl g25 ?_
        refine SCode.skip ?_
        refine SCode.join (σ := Unit) (S := fun s => ⟨[(1, .c (.ptr 0 0)), (6, .c (.vec a0_r.Actions.length 1 (gL (cInt .i64) 0 a0_r.Actions))), (7, .c (.int .i64 (((a0_r.Actions).length : Int)))), (8, .c (.int .i64 t8_15))], [.box [.str a0_r.Name, .vec a0_r.Actions.length 1 (gL (cInt .i64) 0 a0_r.Actions), .str a0_r.Prefix, .bool a0_r.Deny]]⟩) (g := fun s => access_validRole_p26 t8_15 (fun t8_15 => access_validRole_l24 F a0_r n_24 t8_15) = some r) ?_ ?_
        rotate_left
        · refine SCode.block ?_
          refine SCode.seq ?_
          obtain ⟨g27, h⟩ := guard_out h
          refine SCode.region (show SOps _ _ _ [0, 1, 2, 3, 4] _ _ from ?_)
          refine SOps.q rfl (.plain rfl) rfl (q_move rfl rfl) ?_
          refine SOps.q rfl (.plain rfl) rfl (q_index_vec rfl rfl rfl sl48 rfl g27.1 g27.2) ?_
          refine SOps.q rfl (.plain rfl) rfl (q_load_eptr rfl rfl ty3) ?_
          refine SOps.q rfl (.plain rfl) rfl (q_assign rfl rfl) ?_
          refine SOps.q rfl (.plain rfl) rfl (q_assign rfl rfl) ?_
          refine SOps.sub (st' := ⟨[(1, .c (.ptr 0 0)), (3, .c (.int .i64 t8_15)), (4, .c (.int .i64 (a0_r.Actions.getD t8_15.toNat 0))), (6, .c (.vec a0_r.Actions.length 1 (gL (cInt .i64) 0 a0_r.Actions))), (7, .c (.int .i64 (((a0_r.Actions).length : Int)))), (8, .c (.int .i64 t8_15))], [.box [.str a0_r.Name, .vec a0_r.Actions.length 1 (gL (cInt .i64) 0 a0_r.Actions), .str a0_r.Prefix, .bool a0_r.Deny]]⟩) (sub_gen [0] rfl rfl ⟨zc rfl rfl, zc rfl rfl, zc rfl rfl, zc rfl rfl, zc rfl rfl, zc rfl rfl, trivial⟩ ⟨⟨_, rfl, ⟨ii rfl rfl, ii rfl rfl, ii rfl rfl, ii rfl rfl, trivial⟩⟩, trivial⟩) ?_
          refine SOps.nil ?_
          refine SCode.seq ?_
          refine SCode.seq ?_
          rcases cond_out h with ⟨g28, h⟩ | ⟨g28, h⟩
          · refine SCode.region (show SOps _ _ _ [0, 1, 2, 3, 4, 5] _ _ from ?_)
            refine SOps.q rfl (.plain rfl) rfl (q_move rfl rfl) ?_
            refine SOps.q rfl (.plain rfl) rfl (q_lss rfl rfl rfl) ?_
            refine SOps.q rfl (.plain rfl) rfl (q_move rfl rfl) ?_
            refine SOps.skip rfl 2 15 false rfl rfl (.inl (gT g28)) rfl ?_
            refine SOps.skip rfl 2 15 false rfl rfl (.inl (gT g28)) rfl ?_
            refine SOps.q rfl (.plain rfl) rfl (q_pick_t rfl rfl g28 rfl) ?_
            refine SOps.sub (st' := ⟨[(1, .c (.ptr 0 0)), (3, .c (.int .i64 t8_15)), (4, .c (.int .i64 (a0_r.Actions.getD t8_15.toNat 0))), (6, .c (.vec a0_r.Actions.length 1 (gL (cInt .i64) 0 a0_r.Actions))), (7, .c (.int .i64 (((a0_r.Actions).length : Int)))), (8, .c (.int .i64 t8_15)), (18, .c (.bool true))], [.box [.str a0_r.Name, .vec a0_r.Actions.length 1 (gL (cInt .i64) 0 a0_r.Actions), .str a0_r.Prefix, .bool a0_r.Deny]]⟩) (sub_gen [0] rfl rfl ⟨zc rfl rfl, zc rfl rfl, zc rfl rfl, zc rfl rfl, zc rfl rfl, zc rfl rfl, zc rfl rfl, trivial⟩ ⟨⟨_, rfl, ⟨ii rfl rfl, ii rfl rfl, ii rfl rfl, ii rfl rfl, trivial⟩⟩, trivial⟩) ?_
            refine SOps.nil ?_
            refine SCode.cond_t rfl rfl ?_
            refine SCode.seq ?_
            refine SCode.region (show SOps _ _ _ [0] _ _ from ?_)
            refine SOps.q rfl (.plain rfl) rfl (q_assign rfl rfl) ?_
            refine SOps.sub (st' := ⟨[(2, .c (.int .i64 2))], []⟩) (sub_gen [] rfl rfl ⟨zc rfl rfl, trivial⟩ trivial) ?_
            refine SOps.nil ?_
            refine SCode.ret ?_
            obtain rfl := Option.some.inj h
            exact ⟨⟨[(2, .c (.int .i64 2))], []⟩, _, sub_gen [] rfl rfl ⟨zc rfl rfl, trivial⟩ trivial, resA1 (v := .c (.int .i64 2)) rfl rfl, rfl⟩
          refine SCode.region (show SOps _ _ _ [0, 1, 2, 3, 4, 5] _ _ from ?_)
          refine SOps.q rfl (.plain rfl) rfl (q_move rfl rfl) ?_
          refine SOps.q rfl (.plain rfl) rfl (q_lss rfl rfl rfl) ?_
          refine SOps.q rfl (.plain rfl) rfl (q_move rfl rfl) ?_
          refine SOps.q rfl (.guard 2 15 false rfl rfl (gF g28)) rfl (q_move rfl rfl) ?_
          refine SOps.q rfl (.guard 2 15 false rfl rfl (gF g28)) rfl (q_gtr rfl rfl rfl) ?_
          refine SOps.q rfl (.plain rfl) rfl (q_pick_f rfl rfl g28 rfl) ?_
          refine SOps.sub (st' := ⟨[(1, .c (.ptr 0 0)), (3, .c (.int .i64 t8_15)), (4, .c (.int .i64 (a0_r.Actions.getD t8_15.toNat 0))), (6, .c (.vec a0_r.Actions.length 1 (gL (cInt .i64) 0 a0_r.Actions))), (7, .c (.int .i64 (((a0_r.Actions).length : Int)))), (8, .c (.int .i64 t8_15)), (18, .c (.bool (decide (100 < a0_r.Actions.getD t8_15.toNat 0))))], [.box [.str a0_r.Name, .vec a0_r.Actions.length 1 (gL (cInt .i64) 0 a0_r.Actions), .str a0_r.Prefix, .bool a0_r.Deny]]⟩) (sub_gen [0] rfl rfl ⟨zc rfl rfl, zc rfl rfl, zc rfl rfl, zc rfl rfl, zc rfl rfl, zc rfl rfl, zc rfl rfl, trivial⟩ ⟨⟨_, rfl, ⟨ii rfl rfl, ii rfl rfl, ii rfl rfl, ii rfl rfl, trivial⟩⟩, trivial⟩) ?_
          refine SOps.nil ?_
          rcases cond_out h with ⟨g29, h⟩ | ⟨g29, h⟩
          · refine SCode.cond_t rfl g29 ?_
            refine SCode.seq ?_
            refine SCode.region (show SOps _ _ _ [0] _ _ from ?_)
            refine SOps.q rfl (.plain rfl) rfl (q_assign rfl rfl) ?_
            refine SOps.sub (st' := ⟨[(2, .c (.int .i64 2))], []⟩) (sub_gen [] rfl rfl ⟨zc rfl rfl, trivial⟩ trivial) ?_
            refine SOps.nil ?_
            refine SCode.ret ?_
            obtain rfl := Option.some.inj h
            exact ⟨⟨[(2, .c (.int .i64 2))], []⟩, _, sub_gen [] rfl rfl ⟨zc rfl rfl, trivial⟩ trivial, resA1 (v := .c (.int .i64 2)) rfl rfl, rfl⟩
          refine SCode.cond_f rfl g29 ?_
          refine SCode.skip ?_
          refine SCode.seq ?_
          rcases cond_out h with ⟨g30, h⟩ | ⟨g30, h⟩
          · obtain ⟨g31, h⟩ := guard_out h
            refine SCode.region (show SOps _ _ _ [0, 1, 2, 3, 4, 5, 6, 7, 8, 9, 10, 11] _ _ from ?_)
            refine SOps.q rfl (.plain rfl) rfl (q_move rfl rfl) ?_
            refine SOps.q rfl (.plain rfl) rfl (q_gtr rfl rfl rfl) ?_
            refine SOps.q rfl (.plain rfl) rfl (q_move rfl rfl) ?_
            refine SOps.q rfl (.guard 2 21 true rfl rfl (gT g30)) rfl (q_move rfl rfl) ?_
            refine SOps.q rfl (.guard 2 21 true rfl rfl (gT g30)) rfl (q_field_ptr rfl rfl fd51_1) ?_
            refine SOps.q rfl (.guard 2 21 true rfl rfl (gT g30)) rfl (q_load_ptr rfl rfl rfl rfl ty48) ?_
            refine SOps.q rfl (.guard 2 21 true rfl rfl (gT g30)) rfl (q_move rfl rfl) ?_
            refine SOps.q rfl (.guard 2 21 true rfl rfl (gT g30)) rfl (q_sub rfl rfl rfl) ?_
            refine SOps.q rfl (.guard 2 21 true rfl rfl (gT g30)) rfl (q_index_vec rfl rfl rfl sl48 rfl g31.1 g31.2) ?_
            refine SOps.q rfl (.guard 2 21 true rfl rfl (gT g30)) rfl (q_load_eptr rfl rfl ty3) ?_
            refine SOps.q rfl (.guard 2 21 true rfl rfl (gT g30)) rfl (q_leq rfl rfl rfl) ?_
            refine SOps.q rfl (.plain rfl) rfl (q_pick_t rfl rfl g30 rfl) ?_
            refine SOps.sub (st' := ⟨[(1, .c (.ptr 0 0)), (6, .c (.vec a0_r.Actions.length 1 (gL (cInt .i64) 0 a0_r.Actions))), (7, .c (.int .i64 (((a0_r.Actions).length : Int)))), (8, .c (.int .i64 t8_15)), (30, .c (.bool (decide (a0_r.Actions.getD t8_15.toNat 0 ≤ a0_r.Actions.getD (IntKind.wrap .i64 (t8_15 - 1)).toNat 0))))], [.box [.str a0_r.Name, .vec a0_r.Actions.length 1 (gL (cInt .i64) 0 a0_r.Actions), .str a0_r.Prefix, .bool a0_r.Deny]]⟩) (sub_gen [0] rfl rfl ⟨zc rfl rfl, zc rfl rfl, zc rfl rfl, zc rfl rfl, zc rfl rfl, trivial⟩ ⟨⟨_, rfl, ⟨ii rfl rfl, ii rfl rfl, ii rfl rfl, ii rfl rfl, trivial⟩⟩, trivial⟩) ?_
            refine SOps.nil ?_
            rcases cond_out h with ⟨g32, h⟩ | ⟨g32, h⟩
            · refine SCode.cond_t rfl g32 ?_
              refine SCode.seq ?_
              refine SCode.region (show SOps _ _ _ [0] _ _ from ?_)
              refine SOps.q rfl (.plain rfl) rfl (q_assign rfl rfl) ?_
              refine SOps.sub (st' := ⟨[(2, .c (.int .i64 1))], []⟩) (sub_gen [] rfl rfl ⟨zc rfl rfl, trivial⟩ trivial) ?_
              refine SOps.nil ?_
              refine SCode.ret ?_
              obtain rfl := Option.some.inj h
              exact ⟨⟨[(2, .c (.int .i64 1))], []⟩, _, sub_gen [] rfl rfl ⟨zc rfl rfl, trivial⟩ trivial, resA1 (v := .c (.int .i64 1)) rfl rfl, rfl⟩
            refine SCode.cond_f rfl g32 ?_
            refine SCode.skip ?_
            exact ⟨(), h, sub_gen [0] rfl rfl ⟨zc rfl rfl, zc rfl rfl, zc rfl rfl, zc rfl rfl, trivial⟩ ⟨⟨_, rfl, ⟨ii rfl rfl, ii rfl rfl, ii rfl rfl, ii rfl rfl, trivial⟩⟩, trivial⟩⟩
          refine SCode.region (show SOps _ _ _ [0, 1, 2, 3, 4, 5, 6, 7, 8, 9, 10, 11] _ _ from ?_)
          refine SOps.q rfl (.plain rfl) rfl (q_move rfl rfl) ?_
          refine SOps.q rfl (.plain rfl) rfl (q_gtr rfl rfl rfl) ?_
          refine SOps.q rfl (.plain rfl) rfl (q_move rfl rfl) ?_
          refine SOps.skip rfl 2 21 true rfl rfl (.inl (gF g30)) rfl ?_
          refine SOps.skip rfl 2 21 true rfl rfl (.inl (gF g30)) rfl ?_
          refine SOps.skip rfl 2 21 true rfl rfl (.inl (gF g30)) rfl ?_
          refine SOps.skip rfl 2 21 true rfl rfl (.inl (gF g30)) rfl ?_
          refine SOps.skip rfl 2 21 true rfl rfl (.inl (gF g30)) rfl ?_
          refine SOps.skip rfl 2 21 true rfl rfl (.inl (gF g30)) rfl ?_
          refine SOps.skip rfl 2 21 true rfl rfl (.inl (gF g30)) rfl ?_
          refine SOps.skip rfl 2 21 true rfl rfl (.inl (gF g30)) rfl ?_
          refine SOps.q rfl (.plain rfl) rfl (q_pick_f rfl rfl g30 rfl) ?_
          refine SOps.sub (st' := ⟨[(1, .c (.ptr 0 0)), (6, .c (.vec a0_r.Actions.length 1 (gL (cInt .i64) 0 a0_r.Actions))), (7, .c (.int .i64 (((a0_r.Actions).length : Int)))), (8, .c (.int .i64 t8_15)), (30, .c (.bool false))], [.box [.str a0_r.Name, .vec a0_r.Actions.length 1 (gL (cInt .i64) 0 a0_r.Actions), .str a0_r.Prefix, .bool a0_r.Deny]]⟩) (sub_gen [0] rfl rfl ⟨zc rfl rfl, zc rfl rfl, zc rfl rfl, zc rfl rfl, zc rfl rfl, trivial⟩ ⟨⟨_, rfl, ⟨ii rfl rfl, ii rfl rfl, ii rfl rfl, ii rfl rfl, trivial⟩⟩, trivial⟩) ?_
          refine SOps.nil ?_
          refine SCode.cond_f rfl rfl ?_
          refine SCode.skip ?_
          exact ⟨(), h, sub_gen [0] rfl rfl ⟨zc rfl rfl, zc rfl rfl, zc rfl rfl, zc rfl rfl, trivial⟩ ⟨⟨_, rfl, ⟨ii rfl rfl, ii rfl rfl, ii rfl rfl, ii rfl rfl, trivial⟩⟩, trivial⟩⟩
        rintro ⟨⟩ h
        show SCode _ _ _ ⟨[(1, .c (.ptr 0 0)), (6, .c (.vec a0_r.Actions.length 1 (gL (cInt .i64) 0 a0_r.Actions))), (7, .c (.int .i64 (((a0_r.Actions).length : Int)))), (8, .c (.int .i64 t8_15))], [.box [.str a0_r.Name, .vec a0_r.Actions.length 1 (gL (cInt .i64) 0 a0_r.Actions), .str a0_r.Prefix, .bool a0_r.Deny]]⟩ _
        replace h : access_validRole_p26 t8_15 (fun t8_15 => access_validRole_l24 F a0_r n_24 t8_15) = some r := h
        unfold access_validRole_p26 at h
        refine SCode.region (show SOps _ _ _ [0, 1] _ _ from ?_)
        refine SOps.q rfl (.plain rfl) rfl (q_add rfl rfl rfl) ?_
        refine SOps.q rfl (.plain rfl) rfl (q_move rfl rfl) ?_
        refine SOps.sub (st' := ⟨[(1, .c (.ptr 0 0)), (6, .c (.vec a0_r.Actions.length 1 (gL (cInt .i64) 0 a0_r.Actions))), (7, .c (.int .i64 (((a0_r.Actions).length : Int)))), (8, .c (.int .i64 (IntKind.wrap .i64 (t8_15 + 1))))], [.box [.str a0_r.Name, .vec a0_r.Actions.length 1 (gL (cInt .i64) 0 a0_r.Actions), .str a0_r.Prefix, .bool a0_r.Deny]]⟩) (sub_gen [0] rfl rfl ⟨zc rfl rfl, zc rfl rfl, zc rfl rfl, zc rfl rfl, trivial⟩ ⟨⟨_, rfl, ⟨ii rfl rfl, ii rfl rfl, ii rfl rfl, ii rfl rfl, trivial⟩⟩, trivial⟩) ?_
        refine SOps.nil ?_
        exact ⟨(n_24, IntKind.wrap .i64 (t8_15 + 1)), h, Nat.lt_succ_self n_24, sub_gen [0] rfl rfl ⟨zc rfl rfl, zc rfl rfl, zc rfl rfl, zc rfl rfl, trivial⟩ ⟨⟨_, rfl, ⟨ii rfl rfl, ii rfl rfl, ii rfl rfl, ii rfl rfl, trivial⟩⟩, trivial⟩⟩
      refine SCode.cond_f rfl g25 ?_
      refine SCode.exit ?_
      exact ⟨(), h, sub_gen [0] rfl rfl ⟨zc rfl rfl, trivial⟩ ⟨⟨_, rfl, ⟨ii rfl rfl, ii rfl rfl, ii rfl rfl, ii rfl rfl, trivial⟩⟩, trivial⟩⟩
  rintro ⟨⟩ h
  show SCode _ _ _ ⟨[(1, .c (.ptr 0 0))], [.box [.str a0_r.Name, .vec a0_r.Actions.length 1 (gL (cInt .i64) 0 a0_r.Actions), .str a0_r.Prefix, .bool a0_r.Deny]]⟩ _
  replace h : access_validRole_p6 F a0_r = some r := h
  unfold access_validRole_p6 at h
  refine SCode.join (σ := Unit) (S := fun s => ⟨[], []⟩) (g := fun s => access_validRole_p1 = some r) ?_ ?_
  rotate_left
  · refine SCode.seq ?_
    rcases cond_out h with ⟨g2, h⟩ | ⟨g2, h⟩
    · obtain ⟨c_3, g4, h⟩ := bind_out h
      try dsimp only at h
      refine SCode.region (show SOps _ _ _ [0, 1, 2, 3, 4, 5, 6, 7, 8] _ _ from ?_)
      refine SOps.q rfl (.plain rfl) rfl (q_field_ptr rfl rfl fd51_2) ?_
      refine SOps.q rfl (.plain rfl) rfl (q_load_ptr rfl rfl rfl rfl ty9) ?_
      refine SOps.q rfl (.plain rfl) rfl (q_neqS rfl rfl rfl) ?_
      refine SOps.q rfl (.plain rfl) rfl (q_move rfl rfl) ?_
      refine SOps.q rfl (.guard 3 35 true rfl rfl (gT g2)) rfl (q_field_ptr rfl rfl fd51_2) ?_
      refine SOps.q rfl (.guard 3 35 true rfl rfl (gT g2)) rfl (q_load_ptr rfl rfl rfl rfl ty9) ?_
      refine SOps.q rfl (.guard 3 35 true rfl rfl (gT g2)) rfl (q_call (ident_Valid_ok F a0_r.Prefix c_3 g4) [] rfl fn24 ⟨⟨_, rfl, .inl ⟨rfl, rfl⟩⟩, trivial⟩ (.inl rfl)) ?_
      refine SOps.q rfl (.guard 3 35 true rfl rfl (gT g2)) rfl (q_not rfl rfl) ?_
      refine SOps.q rfl (.plain rfl) rfl (q_pick_t rfl rfl g2 rfl) ?_
      refine SOps.sub (st' := ⟨[(40, .c (.bool ((!c_3))))], []⟩) (sub_gen [] rfl rfl ⟨zc rfl rfl, trivial⟩ trivial) ?_
      refine SOps.nil ?_
      rcases cond_out h with ⟨g5, h⟩ | ⟨g5, h⟩
      · refine SCode.cond_t rfl g5 ?_
        refine SCode.seq ?_
        refine SCode.region (show SOps _ _ _ [0] _ _ from ?_)
        refine SOps.q rfl (.plain rfl) rfl (q_assign rfl rfl) ?_
        refine SOps.sub (st' := ⟨[(2, .c (.int .i64 4))], []⟩) (sub_gen [] rfl rfl ⟨zc rfl rfl, trivial⟩ trivial) ?_
        refine SOps.nil ?_
        refine SCode.ret ?_
        obtain rfl := Option.some.inj h
        exact ⟨⟨[(2, .c (.int .i64 4))], []⟩, _, sub_gen [] rfl rfl ⟨zc rfl rfl, trivial⟩ trivial, resA1 (v := .c (.int .i64 4)) rfl rfl, rfl⟩
      refine SCode.cond_f rfl g5 ?_
      refine SCode.skip ?_
      exact ⟨(), h, sub_gen [] rfl rfl trivial trivial⟩
    refine SCode.region (show SOps _ _ _ [0, 1, 2, 3, 4, 5, 6, 7, 8] _ _ from ?_)
    refine SOps.q rfl (.plain rfl) rfl (q_field_ptr rfl rfl fd51_2) ?_
    refine SOps.q rfl (.plain rfl) rfl (q_load_ptr rfl rfl rfl rfl ty9) ?_
    refine SOps.q rfl (.plain rfl) rfl (q_neqS rfl rfl rfl) ?_
    refine SOps.q rfl (.plain rfl) rfl (q_move rfl rfl) ?_
    refine SOps.skip rfl 3 35 true rfl rfl (.inl (gF g2)) rfl ?_
    refine SOps.skip rfl 3 35 true rfl rfl (.inl (gF g2)) rfl ?_
    refine SOps.skip rfl 3 35 true rfl rfl (.inl (gF g2)) rfl ?_
    refine SOps.skip rfl 3 35 true rfl rfl (.inl (gF g2)) rfl ?_
    refine SOps.q rfl (.plain rfl) rfl (q_pick_f rfl rfl g2 rfl) ?_
    refine SOps.sub (st' := ⟨[(40, .c (.bool false))], []⟩) (sub_gen [] rfl rfl ⟨zc rfl rfl, trivial⟩ trivial) ?_
    refine SOps.nil ?_
    refine SCode.cond_f rfl rfl ?_
    refine SCode.skip ?_
    exact ⟨(), h, sub_gen [] rfl rfl trivial trivial⟩
  rintro ⟨⟩ h
  show SCode _ _ _ ⟨[], []⟩ _
  replace h : access_validRole_p1 = some r := h
  unfold access_validRole_p1 at h
  refine SCode.seq ?_
  refine SCode.region (show SOps _ _ _ [0] _ _ from ?_)
  refine SOps.q rfl (.plain rfl) rfl (q_assign rfl rfl) ?_
  refine SOps.sub (st' := ⟨[(2, .c (.int .i64 0))], []⟩) (sub_gen [] rfl rfl ⟨zc rfl rfl, trivial⟩ trivial) ?_
  refine SOps.nil ?_
  refine SCode.ret ?_
  obtain rfl := Option.some.inj h
  exact ⟨⟨[(2, .c (.int .i64 0))], []⟩, _, sub_gen [] rfl rfl ⟨zc rfl rfl, trivial⟩ trivial, resA1 (v := .c (.int .i64 0)) rfl rfl, rfl⟩
set_option maxRecDepth 100000 in
set_option maxHeartbeats 8000000 in
theorem access_holds_ok (F : Nat) (a0_s : SSpan) (a1_now : Int) (r : Bool) (h : access_holds F a0_s a1_now = some r) :
    SFun Try.prog 34 [] [.a [.int .i64 a0_s.From, .int .i64 a0_s.To], .c (.int .i64 a1_now)] (fun x _ => x = .c (.bool r)) := by
  refine SFun.of (n := 20) Try.func34 rfl rfl rfl ?_
  unfold access_holds at h
  show SCode _ _ _ ⟨[(0, .a [.int .i64 a0_s.From, .int .i64 a0_s.To]), (1, .c (.int .i64 a1_now))], []⟩ _
  refine SCode.seq ?_
  refine SCode.region (show SOps _ _ _ [0, 1] _ _ from ?_)
  refine SOps.e rfl (.plain rfl) (e_box rfl rfl rfl rfl rfl rfl) ?_
  refine SOps.q rfl (.plain rfl) rfl (q_assign rfl rfl) ?_
  refine SOps.sub (st' := ⟨[(1, .c (.int .i64 a1_now)), (2, .c (.ptr 0 0))], [.box [.int .i64 a0_s.From, .int .i64 a0_s.To]]⟩) (sub_gen [0] rfl rfl ⟨zc rfl rfl, zc rfl rfl, trivial⟩ ⟨⟨_, rfl, ⟨ii rfl rfl, ii rfl rfl, trivial⟩⟩, trivial⟩) ?_
  refine SOps.nil ?_
  refine SCode.seq ?_
  rcases cond_out h with ⟨g1, h⟩ | ⟨g1, h⟩
  · rcases cond_out h with ⟨g2, h⟩ | ⟨g2, h⟩
    · refine SCode.region (show SOps _ _ _ [0, 1, 2, 3, 4, 5, 6, 7, 8, 9, 10, 11, 12, 13, 14, 15] _ _ from ?_)
      refine SOps.q rfl (.plain rfl) rfl (q_field_ptr rfl rfl fd35_0) ?_
      refine SOps.q rfl (.plain rfl) rfl (q_load_ptr rfl rfl rfl rfl ty3) ?_
      refine SOps.q rfl (.plain rfl) rfl (q_move rfl rfl) ?_
      refine SOps.q rfl (.plain rfl) rfl (q_leq rfl rfl rfl) ?_
      refine SOps.q rfl (.plain rfl) rfl (q_move rfl rfl) ?_
      refine SOps.q rfl (.guard 4 9 true rfl rfl (gT g1)) rfl (q_field_ptr rfl rfl fd35_1) ?_
      refine SOps.q rfl (.guard 4 9 true rfl rfl (gT g1)) rfl (q_load_ptr rfl rfl rfl rfl ty3) ?_
      refine SOps.q rfl (.guard 4 9 true rfl rfl (gT g1)) rfl (q_eql rfl rfl rfl) ?_
      refine SOps.q rfl (.guard 4 9 true rfl rfl (gT g1)) rfl (q_move rfl rfl) ?_
      refine SOps.skip rfl 8 13 false rfl rfl (.inl (gT g2)) rfl ?_
      refine SOps.skip rfl 8 13 false rfl rfl (.inl (gT g2)) rfl ?_
      refine SOps.skip rfl 8 13 false rfl rfl (.inl (gT g2)) rfl ?_
      refine SOps.skip rfl 8 13 false rfl rfl (.inl (gT g2)) rfl ?_
      refine SOps.q rfl (.guard 4 9 true rfl rfl (gT g1)) rfl (q_pick_t rfl rfl g2 rfl) ?_
      refine SOps.q rfl (.plain rfl) rfl (q_pick_t rfl rfl g1 rfl) ?_
      refine SOps.q rfl (.plain rfl) rfl (q_assign rfl rfl) ?_
      refine SOps.sub (st' := ⟨[(4, .c (.bool true))], []⟩) (sub_gen [] rfl rfl ⟨zc rfl rfl, trivial⟩ trivial) ?_
      refine SOps.nil ?_
      refine SCode.ret ?_
      obtain rfl := Option.some.inj h
      exact ⟨⟨[(4, .c (.bool true))], []⟩, _, sub_gen [] rfl rfl ⟨zc rfl rfl, trivial⟩ trivial, resA1 (v := .c (.bool true)) rfl rfl, rfl⟩
    refine SCode.region (show SOps _ _ _ [0, 1, 2, 3, 4, 5, 6, 7, 8, 9, 10, 11, 12, 13, 14, 15] _ _ from ?_)
    refine SOps.q rfl (.plain rfl) rfl (q_field_ptr rfl rfl fd35_0) ?_
    refine SOps.q rfl (.plain rfl) rfl (q_load_ptr rfl rfl rfl rfl ty3) ?_
    refine SOps.q rfl (.plain rfl) rfl (q_move rfl rfl) ?_
    refine SOps.q rfl (.plain rfl) rfl (q_leq rfl rfl rfl) ?_
    refine SOps.q rfl (.plain rfl) rfl (q_move rfl rfl) ?_
    refine SOps.q rfl (.guard 4 9 true rfl rfl (gT g1)) rfl (q_field_ptr rfl rfl fd35_1) ?_
    refine SOps.q rfl (.guard 4 9 true rfl rfl (gT g1)) rfl (q_load_ptr rfl rfl rfl rfl ty3) ?_
    refine SOps.q rfl (.guard 4 9 true rfl rfl (gT g1)) rfl (q_eql rfl rfl rfl) ?_
    refine SOps.q rfl (.guard 4 9 true rfl rfl (gT g1)) rfl (q_move rfl rfl) ?_
    refine SOps.q rfl (.guard 8 13 false rfl rfl (gF g2)) rfl (q_move rfl rfl) ?_
    refine SOps.q rfl (.guard 8 13 false rfl rfl (gF g2)) rfl (q_field_ptr rfl rfl fd35_1) ?_
    refine SOps.q rfl (.guard 8 13 false rfl rfl (gF g2)) rfl (q_load_ptr rfl rfl rfl rfl ty3) ?_
    refine SOps.q rfl (.guard 8 13 false rfl rfl (gF g2)) rfl (q_lss rfl rfl rfl) ?_
    refine SOps.q rfl (.guard 4 9 true rfl rfl (gT g1)) rfl (q_pick_f rfl rfl g2 rfl) ?_
    refine SOps.q rfl (.plain rfl) rfl (q_pick_t rfl rfl g1 rfl) ?_
    refine SOps.q rfl (.plain rfl) rfl (q_assign rfl rfl) ?_
    refine SOps.sub (st' := ⟨[(4, .c (.bool (decide (a1_now < a0_s.To))))], []⟩) (sub_gen [] rfl rfl ⟨zc rfl rfl, trivial⟩ trivial) ?_
    refine SOps.nil ?_
    refine SCode.ret ?_
    obtain rfl := Option.some.inj h
    exact ⟨⟨[(4, .c (.bool (decide (a1_now < a0_s.To))))], []⟩, _, sub_gen [] rfl rfl ⟨zc rfl rfl, trivial⟩ trivial, resA1 (v := .c (.bool (decide (a1_now < a0_s.To)))) rfl rfl, rfl⟩
  refine SCode.region (show SOps _ _ _ [0, 1, 2, 3, 4, 5, 6, 7, 8, 9, 10, 11, 12, 13, 14, 15] _ _ from ?_)
  refine SOps.q rfl (.plain rfl) rfl (q_field_ptr rfl rfl fd35_0) ?_
  refine SOps.q rfl (.plain rfl) rfl (q_load_ptr rfl rfl rfl rfl ty3) ?_
  refine SOps.q rfl (.plain rfl) rfl (q_move rfl rfl) ?_
  refine SOps.q rfl (.plain rfl) rfl (q_leq rfl rfl rfl) ?_
  refine SOps.q rfl (.plain rfl) rfl (q_move rfl rfl) ?_
  refine SOps.skip rfl 4 9 true rfl rfl (.inl (gF g1)) rfl ?_
  refine SOps.skip rfl 4 9 true rfl rfl (.inl (gF g1)) rfl ?_
  refine SOps.skip rfl 4 9 true rfl rfl (.inl (gF g1)) rfl ?_
  refine SOps.skip rfl 4 9 true rfl rfl (.inl (gF g1)) rfl ?_
  refine SOps.skip rfl 8 13 false rfl rfl (.inr rfl) rfl ?_
  refine SOps.skip rfl 8 13 false rfl rfl (.inr rfl) rfl ?_
  refine SOps.skip rfl 8 13 false rfl rfl (.inr rfl) rfl ?_
  refine SOps.skip rfl 8 13 false rfl rfl (.inr rfl) rfl ?_
  refine SOps.skip rfl 4 9 true rfl rfl (.inl (gF g1)) rfl ?_
  refine SOps.q rfl (.plain rfl) rfl (q_pick_f rfl rfl g1 rfl) ?_
  refine SOps.q rfl (.plain rfl) rfl (q_assign rfl rfl) ?_
  refine SOps.sub (st' := ⟨[(4, .c (.bool false))], []⟩) (sub_gen [] rfl rfl ⟨zc rfl rfl, trivial⟩ trivial) ?_
  refine SOps.nil ?_
  refine SCode.ret ?_
  obtain rfl := Option.some.inj h
  exact ⟨⟨[(4, .c (.bool false))], []⟩, _, sub_gen [] rfl rfl ⟨zc rfl rfl, trivial⟩ trivial, resA1 (v := .c (.bool false)) rfl rfl, rfl⟩
set_option maxRecDepth 100000 in
set_option maxHeartbeats 8000000 in
theorem access_overlap_ok (F : Nat) (a0_a : SSpan) (a1_b : SSpan) (r : Bool) (h : access_overlap F a0_a a1_b = some r) :
    SFun Try.prog 39 [] [.a [.int .i64 a0_a.From, .int .i64 a0_a.To], .a [.int .i64 a1_b.From, .int .i64 a1_b.To]] (fun x _ => x = .c (.bool r)) := by
  refine SFun.of (n := 19) Try.func39 rfl rfl rfl ?_
  unfold access_overlap at h
  show SCode _ _ _ ⟨[(0, .a [.int .i64 a0_a.From, .int .i64 a0_a.To]), (1, .a [.int .i64 a1_b.From, .int .i64 a1_b.To])], []⟩ _
  refine SCode.seq ?_
  refine SCode.region (show SOps _ _ _ [0, 1, 2] _ _ from ?_)
  refine SOps.e rfl (.plain rfl) (e_box rfl rfl rfl rfl rfl rfl) ?_
  refine SOps.e rfl (.plain rfl) (e_box rfl rfl rfl rfl rfl rfl) ?_
  refine SOps.q rfl (.plain rfl) rfl (q_assign rfl rfl) ?_
  refine SOps.sub (st' := ⟨[(2, .c (.ptr 0 0)), (3, .c (.ptr 1 0))], [.box [.int .i64 a0_a.From, .int .i64 a0_a.To], .box [.int .i64 a1_b.From, .int .i64 a1_b.To]]⟩) (sub_gen [0, 1] rfl rfl ⟨zc rfl rfl, zc rfl rfl, trivial⟩ ⟨⟨_, rfl, ⟨ii rfl rfl, ii rfl rfl, trivial⟩⟩, ⟨_, rfl, ⟨ii rfl rfl, ii rfl rfl, trivial⟩⟩, trivial⟩) ?_
  refine SOps.nil ?_
  refine SCode.seq ?_
  refine SCode.region (show SOps _ _ _ [0, 1, 2, 3, 4, 5] _ _ from ?_)
  refine SOps.q rfl (.plain rfl) rfl (q_field_ptr rfl rfl fd35_0) ?_
  refine SOps.q rfl (.plain rfl) rfl (q_load_ptr rfl rfl rfl rfl ty3) ?_
  refine SOps.q rfl (.plain rfl) rfl (q_field_ptr rfl rfl fd35_0) ?_
  refine SOps.q rfl (.plain rfl) rfl (q_load_ptr rfl rfl rfl rfl ty3) ?_
  refine SOps.q rfl (.plain rfl) rfl (q_max rfl rfl rfl) ?_
  refine SOps.q rfl (.plain rfl) rfl (q_assign rfl rfl) ?_
  refine SOps.sub (st' := ⟨[(2, .c (.ptr 0 0)), (3, .c (.ptr 1 0)), (5, .c (.int .i64 ((if a0_a.From < a1_b.From then a1_b.From else a0_a.From))))], [.box [.int .i64 a0_a.From, .int .i64 a0_a.To], .box [.int .i64 a1_b.From, .int .i64 a1_b.To]]⟩) (sub_gen [0, 1] rfl rfl ⟨zc rfl rfl, zc rfl rfl, zc rfl rfl, trivial⟩ ⟨⟨_, rfl, ⟨ii rfl rfl, ii rfl rfl, trivial⟩⟩, ⟨_, rfl, ⟨ii rfl rfl, ii rfl rfl, trivial⟩⟩, trivial⟩) ?_
  refine SOps.nil ?_
  refine SCode.seq ?_
  obtain ⟨c_1, g2, h⟩ := bind_out h
  try dsimp only at h
  rcases cond_out h with ⟨g3, h⟩ | ⟨g3, h⟩
  · obtain ⟨c_4, g5, h⟩ := bind_out h
    try dsimp only at h
    refine SCode.region (show SOps _ _ _ [0, 1, 2, 3, 4, 5, 6, 7, 8] _ _ from ?_)
    refine SOps.q rfl (.plain rfl) rfl (q_load_ptr_all rfl rfl rfl rfl rfl ty35) ?_
    refine SOps.q rfl (.plain rfl) rfl (q_move rfl rfl) ?_
    refine SOps.q rfl (.plain rfl) rfl (q_call (access_holds_ok F a0_a ((if a0_a.From < a1_b.From then a1_b.From else a0_a.From)) c_1 g2) [] rfl fn34 ⟨⟨rfl, rfl⟩, ⟨_, rfl, .inl ⟨rfl, rfl⟩⟩, trivial⟩ (.inl rfl)) ?_
    refine SOps.q rfl (.plain rfl) rfl (q_move rfl rfl) ?_
    refine SOps.q rfl (.guard 3 14 true rfl rfl (gT g3)) rfl (q_load_ptr_all rfl rfl rfl rfl rfl ty35) ?_
    refine SOps.q rfl (.guard 3 14 true rfl rfl (gT g3)) rfl (q_move rfl rfl) ?_
    refine SOps.q rfl (.guard 3 14 true rfl rfl (gT g3)) rfl (q_call (access_holds_ok F a1_b ((if a0_a.From < a1_b.From then a1_b.From else a0_a.From)) c_4 g5) [] rfl fn34 ⟨⟨rfl, rfl⟩, ⟨_, rfl, .inl ⟨rfl, rfl⟩⟩, trivial⟩ (.inl rfl)) ?_
    refine SOps.q rfl (.plain rfl) rfl (q_pick_t rfl rfl g3 rfl) ?_
    refine SOps.q rfl (.plain rfl) rfl (q_assign rfl rfl) ?_
    refine SOps.sub (st' := ⟨[(4, .c (.bool c_4))], []⟩) (sub_gen [] rfl rfl ⟨zc rfl rfl, trivial⟩ trivial) ?_
    refine SOps.nil ?_
    refine SCode.ret ?_
    obtain rfl := Option.some.inj h
    exact ⟨⟨[(4, .c (.bool c_4))], []⟩, _, sub_gen [] rfl rfl ⟨zc rfl rfl, trivial⟩ trivial, resA1 (v := .c (.bool c_4)) rfl rfl, rfl⟩
  refine SCode.region (show SOps _ _ _ [0, 1, 2, 3, 4, 5, 6, 7, 8] _ _ from ?_)
  refine SOps.q rfl (.plain rfl) rfl (q_load_ptr_all rfl rfl rfl rfl rfl ty35) ?_
  refine SOps.q rfl (.plain rfl) rfl (q_move rfl rfl) ?_
  refine SOps.q rfl (.plain rfl) rfl (q_call (access_holds_ok F a0_a ((if a0_a.From < a1_b.From then a1_b.From else a0_a.From)) c_1 g2) [] rfl fn34 ⟨⟨rfl, rfl⟩, ⟨_, rfl, .inl ⟨rfl, rfl⟩⟩, trivial⟩ (.inl rfl)) ?_
  refine SOps.q rfl (.plain rfl) rfl (q_move rfl rfl) ?_
  refine SOps.skip rfl 3 14 true rfl rfl (.inl (gF g3)) rfl ?_
  refine SOps.skip rfl 3 14 true rfl rfl (.inl (gF g3)) rfl ?_
  refine SOps.skip rfl 3 14 true rfl rfl (.inl (gF g3)) rfl ?_
  refine SOps.q rfl (.plain rfl) rfl (q_pick_f rfl rfl g3 rfl) ?_
  refine SOps.q rfl (.plain rfl) rfl (q_assign rfl rfl) ?_
  refine SOps.sub (st' := ⟨[(4, .c (.bool false))], []⟩) (sub_gen [] rfl rfl ⟨zc rfl rfl, trivial⟩ trivial) ?_
  refine SOps.nil ?_
  refine SCode.ret ?_
  obtain rfl := Option.some.inj h
  exact ⟨⟨[(4, .c (.bool false))], []⟩, _, sub_gen [] rfl rfl ⟨zc rfl rfl, trivial⟩ trivial, resA1 (v := .c (.bool false)) rfl rfl, rfl⟩
end Go.Proofs.Ytggfgdohbeoabaa.W
