/- Written by a program of ours (wip/eng/gen.py): the functions compute their models. -/
import Derived.Test.YthebmhkjelejbaaFacts
import Derived.Test.YthebmhkjelejbaaV3x7
namespace Go.Proofs.Ythebmhkjelejbaa.W
open Go Go.Proofs Go.Proofs.Ythebmhkjelejbaa.E Go.Proofs.Ythebmhkjelejbaa.M
set_option linter.unusedVariables false
set_option maxRecDepth 100000 in
set_option maxHeartbeats 8000000 in
theorem chargenettop_FlowsShare_ok (F : Nat) (a0_total : Int) (a1_caps : List Int) (r : Bool) (h : chargenettop_FlowsShare F a0_total a1_caps = some r) :
    SFun Try.prog 3 [] [.c (.int .i64 a0_total), .c (.vec a1_caps.length 1 (gL (cInt .i64) 0 a1_caps))] (fun x _ => x = .c (.bool r)) := by
  refine SFun.of (n := 85) Try.func3 rfl rfl rfl ?_
  unfold chargenettop_FlowsShare at h
  show SCode _ _ _ ⟨[(0, .c (.int .i64 a0_total)), (1, .c (.vec a1_caps.length 1 (gL (cInt .i64) 0 a1_caps)))], []⟩ _
  refine SCode.seq ?_
  refine SCode.region (show SOps _ _ _ [0, 1] _ _ from ?_)
  refine SOps.e rfl (.plain rfl) (e_box rfl rfl rfl rfl rfl rfl) ?_
  refine SOps.q rfl (.plain rfl) rfl (q_assign rfl rfl) ?_
  refine SOps.sub (st' := ⟨[(1, .c (.vec a1_caps.length 1 (gL (cInt .i64) 0 a1_caps))), (2, .c (.ptr 0 0))], [.box [.int .i64 a0_total]]⟩) (sub_gen [0] rfl rfl ⟨zc rfl rfl, zc rfl rfl, trivial⟩ ⟨⟨_, rfl, ⟨ii rfl rfl, trivial⟩⟩, trivial⟩) ?_
  refine SOps.nil ?_
  refine SCode.seq ?_
  refine SCode.seq ?_
  rcases cond_out h with ⟨g1, h⟩ | ⟨g1, h⟩
  · refine SCode.region (show SOps _ _ _ [0, 1, 2, 3, 4, 5, 6, 7, 8, 9, 10] _ _ from ?_)
    refine SOps.q rfl (.plain rfl) rfl (q_move rfl rfl) ?_
    refine SOps.q rfl (.plain rfl) rfl (q_len_vec rfl rfl sl22) ?_
    refine SOps.q rfl (.plain rfl) rfl (q_gtr rfl rfl rfl) ?_
    refine SOps.q rfl (.plain rfl) rfl (q_move rfl rfl) ?_
    refine SOps.skip rfl 3 16 false rfl rfl (.inl (gT g1)) rfl ?_
    refine SOps.skip rfl 3 16 false rfl rfl (.inl (gT g1)) rfl ?_
    refine SOps.q rfl (.plain rfl) rfl (q_pick_t rfl rfl g1 rfl) ?_
    refine SOps.q rfl (.plain rfl) rfl (q_move rfl rfl) ?_
    refine SOps.skip rfl 7 20 false rfl rfl (.inl rfl) rfl ?_
    refine SOps.skip rfl 7 20 false rfl rfl (.inl rfl) rfl ?_
    refine SOps.q rfl (.plain rfl) rfl (q_pick_t rfl rfl rfl rfl) ?_
    refine SOps.sub (st' := ⟨[(1, .c (.vec a1_caps.length 1 (gL (cInt .i64) 0 a1_caps))), (2, .c (.ptr 0 0)), (23, .c (.bool true))], [.box [.int .i64 a0_total]]⟩) (sub_gen [0] rfl rfl ⟨zc rfl rfl, zc rfl rfl, zc rfl rfl, trivial⟩ ⟨⟨_, rfl, ⟨ii rfl rfl, trivial⟩⟩, trivial⟩) ?_
    refine SOps.nil ?_
    refine SCode.cond_t rfl rfl ?_
    refine SCode.seq ?_
    refine SCode.region (show SOps _ _ _ [0] _ _ from ?_)
    refine SOps.q rfl (.plain rfl) rfl (q_assign rfl rfl) ?_
    refine SOps.sub (st' := ⟨[(4, .c (.bool true))], []⟩) (sub_gen [] rfl rfl ⟨zc rfl rfl, trivial⟩ trivial) ?_
    refine SOps.nil ?_
    refine SCode.ret ?_
    obtain rfl := Option.some.inj h
    exact ⟨⟨[(4, .c (.bool true))], []⟩, _, sub_gen [] rfl rfl ⟨zc rfl rfl, trivial⟩ trivial, resA1 (v := .c (.bool true)) rfl rfl, rfl⟩
  rcases cond_out h with ⟨g2, h⟩ | ⟨g2, h⟩
  · refine SCode.region (show SOps _ _ _ [0, 1, 2, 3, 4, 5, 6, 7, 8, 9, 10] _ _ from ?_)
    refine SOps.q rfl (.plain rfl) rfl (q_move rfl rfl) ?_
    refine SOps.q rfl (.plain rfl) rfl (q_len_vec rfl rfl sl22) ?_
    refine SOps.q rfl (.plain rfl) rfl (q_gtr rfl rfl rfl) ?_
    refine SOps.q rfl (.plain rfl) rfl (q_move rfl rfl) ?_
    refine SOps.q rfl (.guard 3 16 false rfl rfl (gF g1)) rfl (q_load_ptr rfl rfl rfl rfl ty3) ?_
    refine SOps.q rfl (.guard 3 16 false rfl rfl (gF g1)) rfl (q_lss rfl rfl rfl) ?_
    refine SOps.q rfl (.plain rfl) rfl (q_pick_f rfl rfl g1 rfl) ?_
    refine SOps.q rfl (.plain rfl) rfl (q_move rfl rfl) ?_
    refine SOps.skip rfl 7 20 false rfl rfl (.inl (gT g2)) rfl ?_
    refine SOps.skip rfl 7 20 false rfl rfl (.inl (gT g2)) rfl ?_
    refine SOps.q rfl (.plain rfl) rfl (q_pick_t rfl rfl g2 rfl) ?_
    refine SOps.sub (st' := ⟨[(1, .c (.vec a1_caps.length 1 (gL (cInt .i64) 0 a1_caps))), (2, .c (.ptr 0 0)), (23, .c (.bool true))], [.box [.int .i64 a0_total]]⟩) (sub_gen [0] rfl rfl ⟨zc rfl rfl, zc rfl rfl, zc rfl rfl, trivial⟩ ⟨⟨_, rfl, ⟨ii rfl rfl, trivial⟩⟩, trivial⟩) ?_
    refine SOps.nil ?_
    refine SCode.cond_t rfl rfl ?_
    refine SCode.seq ?_
    refine SCode.region (show SOps _ _ _ [0] _ _ from ?_)
    refine SOps.q rfl (.plain rfl) rfl (q_assign rfl rfl) ?_
    refine SOps.sub (st' := ⟨[(4, .c (.bool true))], []⟩) (sub_gen [] rfl rfl ⟨zc rfl rfl, trivial⟩ trivial) ?_
    refine SOps.nil ?_
    refine SCode.ret ?_
    obtain rfl := Option.some.inj h
    exact ⟨⟨[(4, .c (.bool true))], []⟩, _, sub_gen [] rfl rfl ⟨zc rfl rfl, trivial⟩ trivial, resA1 (v := .c (.bool true)) rfl rfl, rfl⟩
  refine SCode.region (show SOps _ _ _ [0, 1, 2, 3, 4, 5, 6, 7, 8, 9, 10] _ _ from ?_)
  refine SOps.q rfl (.plain rfl) rfl (q_move rfl rfl) ?_
  refine SOps.q rfl (.plain rfl) rfl (q_len_vec rfl rfl sl22) ?_
  refine SOps.q rfl (.plain rfl) rfl (q_gtr rfl rfl rfl) ?_
  refine SOps.q rfl (.plain rfl) rfl (q_move rfl rfl) ?_
  refine SOps.q rfl (.guard 3 16 false rfl rfl (gF g1)) rfl (q_load_ptr rfl rfl rfl rfl ty3) ?_
  refine SOps.q rfl (.guard 3 16 false rfl rfl (gF g1)) rfl (q_lss rfl rfl rfl) ?_
  refine SOps.q rfl (.plain rfl) rfl (q_pick_f rfl rfl g1 rfl) ?_
  refine SOps.q rfl (.plain rfl) rfl (q_move rfl rfl) ?_
  refine SOps.q rfl (.guard 7 20 false rfl rfl (gF g2)) rfl (q_load_ptr rfl rfl rfl rfl ty3) ?_
  refine SOps.q rfl (.guard 7 20 false rfl rfl (gF g2)) rfl (q_gtr rfl rfl rfl) ?_
  refine SOps.q rfl (.plain rfl) rfl (q_pick_f rfl rfl g2 rfl) ?_
  refine SOps.sub (st' := ⟨[(1, .c (.vec a1_caps.length 1 (gL (cInt .i64) 0 a1_caps))), (2, .c (.ptr 0 0)), (23, .c (.bool (decide (1073741824 < a0_total))))], [.box [.int .i64 a0_total]]⟩) (sub_gen [0] rfl rfl ⟨zc rfl rfl, zc rfl rfl, zc rfl rfl, trivial⟩ ⟨⟨_, rfl, ⟨ii rfl rfl, trivial⟩⟩, trivial⟩) ?_
  refine SOps.nil ?_
  rcases cond_out h with ⟨g3, h⟩ | ⟨g3, h⟩
  · refine SCode.cond_t rfl g3 ?_
    refine SCode.seq ?_
    refine SCode.region (show SOps _ _ _ [0] _ _ from ?_)
    refine SOps.q rfl (.plain rfl) rfl (q_assign rfl rfl) ?_
    refine SOps.sub (st' := ⟨[(4, .c (.bool true))], []⟩) (sub_gen [] rfl rfl ⟨zc rfl rfl, trivial⟩ trivial) ?_
    refine SOps.nil ?_
    refine SCode.ret ?_
    obtain rfl := Option.some.inj h
    exact ⟨⟨[(4, .c (.bool true))], []⟩, _, sub_gen [] rfl rfl ⟨zc rfl rfl, trivial⟩ trivial, resA1 (v := .c (.bool true)) rfl rfl, rfl⟩
  refine SCode.cond_f rfl g3 ?_
  refine SCode.skip ?_
  refine SCode.join (σ := Unit) (S := fun s => ⟨[(1, .c (.vec a1_caps.length 1 (gL (cInt .i64) 0 a1_caps))), (2, .c (.ptr 0 0))], [.box [.int .i64 a0_total]]⟩) (g := fun s => chargenettop_FlowsShare_p27 F a0_total a1_caps = some r) ?_ ?_
  rotate_left
  · refine SCode.seq ?_
    refine SCode.region (show SOps _ _ _ [0, 1, 2] _ _ from ?_)
    refine SOps.q rfl (.plain rfl) rfl (q_move rfl rfl) ?_
    refine SOps.q rfl (.plain rfl) rfl (q_len_vec rfl rfl sl22) ?_
    refine SOps.q rfl (.plain rfl) rfl (q_move rfl rfl) ?_
    refine SOps.sub (st' := ⟨[(1, .c (.vec a1_caps.length 1 (gL (cInt .i64) 0 a1_caps))), (2, .c (.ptr 0 0)), (24, .c (.vec a1_caps.length 1 (gL (cInt .i64) 0 a1_caps))), (25, .c (.int .i64 (((a1_caps).length : Int)))), (26, .c (.int .i64 0))], [.box [.int .i64 a0_total]]⟩) (sub_gen [0] rfl rfl ⟨zc rfl rfl, zc rfl rfl, zc rfl rfl, zc rfl rfl, zc rfl rfl, trivial⟩ ⟨⟨_, rfl, ⟨ii rfl rfl, trivial⟩⟩, trivial⟩) ?_
    refine SOps.nil ?_
    refine SCode.block ?_
    refine SCode.sub (st' := ⟨[(1, .c (.vec a1_caps.length 1 (gL (cInt .i64) 0 a1_caps))), (2, .c (.ptr 0 0)), (24, .c (.vec a1_caps.length 1 (gL (cInt .i64) 0 a1_caps))), (25, .c (.int .i64 (((a1_caps).length : Int)))), (26, .c (.int .i64 0))], [.box [.int .i64 a0_total]]⟩) (sub_gen [0] rfl rfl ⟨zc rfl rfl, zc rfl rfl, zc rfl rfl, zc rfl rfl, zc rfl rfl, trivial⟩ ⟨⟨_, rfl, ⟨ii rfl rfl, trivial⟩⟩, trivial⟩) ?_
    refine (SCode.loop (σ := Nat × Int) (S := fun s => ⟨[(1, .c (.vec a1_caps.length 1 (gL (cInt .i64) 0 a1_caps))), (2, .c (.ptr 0 0)), (24, .c (.vec a1_caps.length 1 (gL (cInt .i64) 0 a1_caps))), (25, .c (.int .i64 (((a1_caps).length : Int)))), (26, .c (.int .i64 s.2))], [.box [.int .i64 a0_total]]⟩) (g := fun s => chargenettop_FlowsShare_l37 F a0_total a1_caps s.1 s.2 = some r) (μ := fun s => s.1) (F, 0) h ?_)
    rintro ⟨n_37, t26_32⟩ h
    replace h : chargenettop_FlowsShare_l37 F a0_total a1_caps n_37 t26_32 = some r := h
    show SCode _ _ _ ⟨[(1, .c (.vec a1_caps.length 1 (gL (cInt .i64) 0 a1_caps))), (2, .c (.ptr 0 0)), (24, .c (.vec a1_caps.length 1 (gL (cInt .i64) 0 a1_caps))), (25, .c (.int .i64 (((a1_caps).length : Int)))), (26, .c (.int .i64 t26_32))], [.box [.int .i64 a0_total]]⟩ _
    cases n_37 with
    | zero => cases h
    | succ n_37 =>
      replace h : chargenettop_FlowsShare_b37 F a0_total a1_caps (fun t26_32 => chargenettop_FlowsShare_l37 F a0_total a1_caps n_37 t26_32) t26_32 = some r := h
      unfold chargenettop_FlowsShare_b37 at h
      refine SCode.seq ?_
      refine SCode.region (show SOps _ _ _ [0] _ _ from ?_)
      refine SOps.q rfl (.plain rfl) rfl (q_lss rfl rfl rfl) ?_
      refine SOps.sub (st' := ⟨[(1, .c (.vec a1_caps.length 1 (gL (cInt .i64) 0 a1_caps))), (2, .c (.ptr 0 0)), (24, .c (.vec a1_caps.length 1 (gL (cInt .i64) 0 a1_caps))), (25, .c (.int .i64 (((a1_caps).length : Int)))), (26, .c (.int .i64 t26_32)), (27, .c (.bool (decide (t26_32 < ((a1_caps).length : Int)))))], [.box [.int .i64 a0_total]]⟩) (sub_gen [0] rfl rfl ⟨zc rfl rfl, zc rfl rfl, zc rfl rfl, zc rfl rfl, zc rfl rfl, zc rfl rfl, trivial⟩ ⟨⟨_, rfl, ⟨ii rfl rfl, trivial⟩⟩, trivial⟩) ?_
      refine SOps.nil ?_
      refine SCode.seq ?_
      rcases cond_out h with ⟨g38, h⟩ | ⟨g38, h⟩
      · refine SCode.cond_t rfl g38 ?_
        refine SCode.skip ?_
        refine SCode.seq ?_
        refine SCode.block ?_
        refine SCode.seq ?_
        obtain ⟨g39, h⟩ := guard_out h
        refine SCode.region (show SOps _ _ _ [0, 1, 2] _ _ from ?_)
        refine SOps.q rfl (.plain rfl) rfl (q_index_vec rfl rfl rfl sl22 rfl g39.1 g39.2) ?_
        refine SOps.q rfl (.plain rfl) rfl (q_load_eptr rfl rfl ty3) ?_
        refine SOps.q rfl (.plain rfl) rfl (q_assign rfl rfl) ?_
        refine SOps.sub (st' := ⟨[(1, .c (.vec a1_caps.length 1 (gL (cInt .i64) 0 a1_caps))), (2, .c (.ptr 0 0)), (6, .c (.int .i64 (a1_caps.getD t26_32.toNat 0))), (24, .c (.vec a1_caps.length 1 (gL (cInt .i64) 0 a1_caps))), (25, .c (.int .i64 (((a1_caps).length : Int)))), (26, .c (.int .i64 t26_32))], [.box [.int .i64 a0_total]]⟩) (sub_gen [0] rfl rfl ⟨zc rfl rfl, zc rfl rfl, zc rfl rfl, zc rfl rfl, zc rfl rfl, zc rfl rfl, trivial⟩ ⟨⟨_, rfl, ⟨ii rfl rfl, trivial⟩⟩, trivial⟩) ?_
        refine SOps.nil ?_
        refine SCode.seq ?_
        rcases cond_out h with ⟨g40, h⟩ | ⟨g40, h⟩
        · refine SCode.region (show SOps _ _ _ [0, 1, 2, 3, 4, 5] _ _ from ?_)
          refine SOps.q rfl (.plain rfl) rfl (q_move rfl rfl) ?_
          refine SOps.q rfl (.plain rfl) rfl (q_lss rfl rfl rfl) ?_
          refine SOps.q rfl (.plain rfl) rfl (q_move rfl rfl) ?_
          refine SOps.skip rfl 2 32 false rfl rfl (.inl (gT g40)) rfl ?_
          refine SOps.skip rfl 2 32 false rfl rfl (.inl (gT g40)) rfl ?_
          refine SOps.q rfl (.plain rfl) rfl (q_pick_t rfl rfl g40 rfl) ?_
          refine SOps.sub (st' := ⟨[(1, .c (.vec a1_caps.length 1 (gL (cInt .i64) 0 a1_caps))), (2, .c (.ptr 0 0)), (24, .c (.vec a1_caps.length 1 (gL (cInt .i64) 0 a1_caps))), (25, .c (.int .i64 (((a1_caps).length : Int)))), (26, .c (.int .i64 t26_32)), (35, .c (.bool true))], [.box [.int .i64 a0_total]]⟩) (sub_gen [0] rfl rfl ⟨zc rfl rfl, zc rfl rfl, zc rfl rfl, zc rfl rfl, zc rfl rfl, zc rfl rfl, trivial⟩ ⟨⟨_, rfl, ⟨ii rfl rfl, trivial⟩⟩, trivial⟩) ?_
          refine SOps.nil ?_
          refine SCode.cond_t rfl rfl ?_
          refine SCode.seq ?_
          refine SCode.region (show SOps _ _ _ [0] _ _ from ?_)
          refine SOps.q rfl (.plain rfl) rfl (q_assign rfl rfl) ?_
          refine SOps.sub (st' := ⟨[(4, .c (.bool true))], []⟩) (sub_gen [] rfl rfl ⟨zc rfl rfl, trivial⟩ trivial) ?_
          refine SOps.nil ?_
          refine SCode.ret ?_
          obtain rfl := Option.some.inj h
          exact ⟨⟨[(4, .c (.bool true))], []⟩, _, sub_gen [] rfl rfl ⟨zc rfl rfl, trivial⟩ trivial, resA1 (v := .c (.bool true)) rfl rfl, rfl⟩
        refine SCode.region (show SOps _ _ _ [0, 1, 2, 3, 4, 5] _ _ from ?_)
        refine SOps.q rfl (.plain rfl) rfl (q_move rfl rfl) ?_
        refine SOps.q rfl (.plain rfl) rfl (q_lss rfl rfl rfl) ?_
        refine SOps.q rfl (.plain rfl) rfl (q_move rfl rfl) ?_
        refine SOps.q rfl (.guard 2 32 false rfl rfl (gF g40)) rfl (q_move rfl rfl) ?_
        refine SOps.q rfl (.guard 2 32 false rfl rfl (gF g40)) rfl (q_gtr rfl rfl rfl) ?_
        refine SOps.q rfl (.plain rfl) rfl (q_pick_f rfl rfl g40 rfl) ?_
        refine SOps.sub (st' := ⟨[(1, .c (.vec a1_caps.length 1 (gL (cInt .i64) 0 a1_caps))), (2, .c (.ptr 0 0)), (24, .c (.vec a1_caps.length 1 (gL (cInt .i64) 0 a1_caps))), (25, .c (.int .i64 (((a1_caps).length : Int)))), (26, .c (.int .i64 t26_32)), (35, .c (.bool (decide (1073741824 < a1_caps.getD t26_32.toNat 0))))], [.box [.int .i64 a0_total]]⟩) (sub_gen [0] rfl rfl ⟨zc rfl rfl, zc rfl rfl, zc rfl rfl, zc rfl rfl, zc rfl rfl, zc rfl rfl, trivial⟩ ⟨⟨_, rfl, ⟨ii rfl rfl, trivial⟩⟩, trivial⟩) ?_
        refine SOps.nil ?_
        rcases cond_out h with ⟨g41, h⟩ | ⟨g41, h⟩
        · refine SCode.cond_t rfl g41 ?_
          refine SCode.seq ?_
          refine SCode.region (show SOps _ _ _ [0] _ _ from ?_)
          refine SOps.q rfl (.plain rfl) rfl (q_assign rfl rfl) ?_
          refine SOps.sub (st' := ⟨[(4, .c (.bool true))], []⟩) (sub_gen [] rfl rfl ⟨zc rfl rfl, trivial⟩ trivial) ?_
          refine SOps.nil ?_
          refine SCode.ret ?_
          obtain rfl := Option.some.inj h
          exact ⟨⟨[(4, .c (.bool true))], []⟩, _, sub_gen [] rfl rfl ⟨zc rfl rfl, trivial⟩ trivial, resA1 (v := .c (.bool true)) rfl rfl, rfl⟩
        refine SCode.cond_f rfl g41 ?_
        refine SCode.skip ?_
        refine SCode.region (show SOps _ _ _ [0, 1] _ _ from ?_)
        refine SOps.q rfl (.plain rfl) rfl (q_add rfl rfl rfl) ?_
        refine SOps.q rfl (.plain rfl) rfl (q_move rfl rfl) ?_
        refine SOps.sub (st' := ⟨[(1, .c (.vec a1_caps.length 1 (gL (cInt .i64) 0 a1_caps))), (2, .c (.ptr 0 0)), (24, .c (.vec a1_caps.length 1 (gL (cInt .i64) 0 a1_caps))), (25, .c (.int .i64 (((a1_caps).length : Int)))), (26, .c (.int .i64 (IntKind.wrap .i64 (t26_32 + 1))))], [.box [.int .i64 a0_total]]⟩) (sub_gen [0] rfl rfl ⟨zc rfl rfl, zc rfl rfl, zc rfl rfl, zc rfl rfl, zc rfl rfl, trivial⟩ ⟨⟨_, rfl, ⟨ii rfl rfl, trivial⟩⟩, trivial⟩) ?_
        refine SOps.nil ?_
        exact ⟨(n_37, IntKind.wrap .i64 (t26_32 + 1)), h, Nat.lt_succ_self n_37, sub_gen [0] rfl rfl ⟨zc rfl rfl, zc rfl rfl, zc rfl rfl, zc rfl rfl, zc rfl rfl, trivial⟩ ⟨⟨_, rfl, ⟨ii rfl rfl, trivial⟩⟩, trivial⟩⟩
      refine SCode.cond_f rfl g38 ?_
      refine SCode.exit ?_
      exact ⟨(), h, sub_gen [0] rfl rfl ⟨zc rfl rfl, zc rfl rfl, trivial⟩ ⟨⟨_, rfl, ⟨ii rfl rfl, trivial⟩⟩, trivial⟩⟩
  rintro ⟨⟩ h
  show SCode _ _ _ ⟨[(1, .c (.vec a1_caps.length 1 (gL (cInt .i64) 0 a1_caps))), (2, .c (.ptr 0 0))], [.box [.int .i64 a0_total]]⟩ _
  replace h : chargenettop_FlowsShare_p27 F a0_total a1_caps = some r := h
  unfold chargenettop_FlowsShare_p27 at h
  refine SCode.seq ?_
  refine SCode.region (show SOps _ _ _ [0, 1] _ _ from ?_)
  refine SOps.sub (st' := ⟨[(1, .c (.vec a1_caps.length 1 (gL (cInt .i64) 0 a1_caps))), (2, .c (.eptr 1 ((cInt .i64) a0_total) 0))], []⟩) (sub_gen [] rfl rfl ⟨zc rfl rfl, ⟨_, rfl, .inr (.inr (.inr (.inr (.inl ⟨_, _, _, _, _, rfl, rfl, rfl, by decide, by decide, boxG [.int .i64 a0_total] rfl rfl rfl⟩))))⟩, trivial⟩ trivial) ?_
  refine SOps.q rfl (.plain rfl) rfl (q_makeFunc (cs := [.eptr 1 ((cInt .i64) a0_total) 0]) rfl rfl rfl) ?_
  refine SOps.q rfl (.plain rfl) rfl (q_assign rfl rfl) ?_
  refine SOps.sub (st' := ⟨[(1, .c (.vec a1_caps.length 1 (gL (cInt .i64) 0 a1_caps))), (2, .c (.eptr 1 ((cInt .i64) a0_total) 0)), (7, .c (.fn 4 1 (cellsG [.eptr 1 ((cInt .i64) a0_total) 0])))], []⟩) (sub_gen [] rfl rfl ⟨zc rfl rfl, zc rfl rfl, zc rfl rfl, trivial⟩ trivial) ?_
  refine SOps.nil ?_
  refine SCode.seq ?_
  obtain ⟨c_4, g5, h⟩ := bind_out h
  try dsimp only at h
  refine SCode.region (show SOps _ _ _ [0, 1, 2, 3, 4, 5, 6, 7] _ _ from ?_)
  refine SOps.q rfl (.plain rfl) rfl (q_move rfl rfl) ?_
  refine SOps.q rfl (.plain rfl) rfl (q_move rfl rfl) ?_
  refine SOps.q rfl (.plain rfl) rfl (q_call (fair_Fill_f1_4_ok F a1_caps a0_total c_4 g5) [] rfl fn6 ⟨⟨_, rfl, .inl ⟨rfl, rfl⟩⟩, ⟨_, rfl, .inl ⟨rfl, rfl⟩⟩, trivial⟩ (.inl rfl)) ?_
  refine SOps.q rfl (.plain rfl) rfl (q_move rfl rfl) ?_
  refine SOps.q rfl (.plain rfl) rfl (q_extract rfl rfl rfl) ?_
  refine SOps.q rfl (.plain rfl) rfl (q_extract rfl rfl rfl) ?_
  refine SOps.q rfl (.plain rfl) rfl (q_assign rfl rfl) ?_
  refine SOps.q rfl (.plain rfl) rfl (q_assign rfl rfl) ?_
  refine SOps.sub (st' := ⟨[(1, .c (.vec a1_caps.length 1 (gL (cInt .i64) 0 a1_caps))), (2, .c (.eptr 1 ((cInt .i64) a0_total) 0)), (8, .c (.vec c_4.1.length 1 (gL (cInt .i64) 0 c_4.1))), (9, .c (.int .i64 c_4.2))], []⟩) (sub_gen [] rfl rfl ⟨zc rfl rfl, zc rfl rfl, zc rfl rfl, zc rfl rfl, trivial⟩ trivial) ?_
  refine SOps.nil ?_
  refine SCode.seq ?_
  obtain ⟨c_6, g7, h⟩ := bind_out h
  try dsimp only at h
  refine SCode.region (show SOps _ _ _ [0, 1, 2, 3, 4, 5, 6, 7] _ _ from ?_)
  refine SOps.q rfl (.plain rfl) rfl (q_load_eptr rfl rfl ty3) ?_
  refine SOps.q rfl (.plain rfl) rfl (q_move rfl rfl) ?_
  refine SOps.q rfl (.plain rfl) rfl (q_call (fair_Share_ok F a0_total a1_caps c_6 g7) [] rfl fn7 ⟨⟨_, rfl, .inl ⟨rfl, rfl⟩⟩, ⟨_, rfl, .inl ⟨rfl, rfl⟩⟩, trivial⟩ (.inl rfl)) ?_
  refine SOps.q rfl (.plain rfl) rfl (q_move rfl rfl) ?_
  refine SOps.q rfl (.plain rfl) rfl (q_extract rfl rfl rfl) ?_
  refine SOps.q rfl (.plain rfl) rfl (q_extract rfl rfl rfl) ?_
  refine SOps.q rfl (.plain rfl) rfl (q_assign rfl rfl) ?_
  refine SOps.q rfl (.plain rfl) rfl (q_assign rfl rfl) ?_
  refine SOps.sub (st' := ⟨[(1, .c (.vec a1_caps.length 1 (gL (cInt .i64) 0 a1_caps))), (8, .c (.vec c_4.1.length 1 (gL (cInt .i64) 0 c_4.1))), (9, .c (.int .i64 c_4.2)), (10, .c (.vec c_6.1.length 1 (gL (cInt .i64) 0 c_6.1))), (11, .c (.int .i64 c_6.2))], []⟩) (sub_gen [] rfl rfl ⟨zc rfl rfl, zc rfl rfl, zc rfl rfl, zc rfl rfl, zc rfl rfl, trivial⟩ trivial) ?_
  refine SOps.nil ?_
  refine SCode.seq ?_
  refine SCode.seq ?_
  rcases cond_out h with ⟨g8, h⟩ | ⟨g8, h⟩
  · refine SCode.region (show SOps _ _ _ [0, 1, 2, 3, 4, 5, 6, 7, 8, 9, 10, 11, 12, 13, 14, 15, 16, 17, 18, 19] _ _ from ?_)
    refine SOps.q rfl (.plain rfl) rfl (q_move rfl rfl) ?_
    refine SOps.q rfl (.plain rfl) rfl (q_neq rfl rfl rfl) ?_
    refine SOps.q rfl (.plain rfl) rfl (q_move rfl rfl) ?_
    refine SOps.skip rfl 2 52 false rfl rfl (.inl (gT g8)) rfl ?_
    refine SOps.skip rfl 2 52 false rfl rfl (.inl (gT g8)) rfl ?_
    refine SOps.q rfl (.plain rfl) rfl (q_pick_t rfl rfl g8 rfl) ?_
    refine SOps.q rfl (.plain rfl) rfl (q_move rfl rfl) ?_
    refine SOps.skip rfl 6 56 false rfl rfl (.inl rfl) rfl ?_
    refine SOps.skip rfl 6 56 false rfl rfl (.inl rfl) rfl ?_
    refine SOps.skip rfl 6 56 false rfl rfl (.inl rfl) rfl ?_
    refine SOps.skip rfl 6 56 false rfl rfl (.inl rfl) rfl ?_
    refine SOps.skip rfl 6 56 false rfl rfl (.inl rfl) rfl ?_
    refine SOps.q rfl (.plain rfl) rfl (q_pick_t rfl rfl rfl rfl) ?_
    refine SOps.q rfl (.plain rfl) rfl (q_move rfl rfl) ?_
    refine SOps.skip rfl 13 63 false rfl rfl (.inl rfl) rfl ?_
    refine SOps.skip rfl 13 63 false rfl rfl (.inl rfl) rfl ?_
    refine SOps.skip rfl 13 63 false rfl rfl (.inl rfl) rfl ?_
    refine SOps.skip rfl 13 63 false rfl rfl (.inl rfl) rfl ?_
    refine SOps.skip rfl 13 63 false rfl rfl (.inl rfl) rfl ?_
    refine SOps.q rfl (.plain rfl) rfl (q_pick_t rfl rfl rfl rfl) ?_
    refine SOps.sub (st' := ⟨[(8, .c (.vec c_4.1.length 1 (gL (cInt .i64) 0 c_4.1))), (10, .c (.vec c_6.1.length 1 (gL (cInt .i64) 0 c_6.1))), (69, .c (.bool true))], []⟩) (sub_gen [] rfl rfl ⟨zc rfl rfl, zc rfl rfl, zc rfl rfl, trivial⟩ trivial) ?_
    refine SOps.nil ?_
    refine SCode.cond_t rfl rfl ?_
    refine SCode.seq ?_
    refine SCode.region (show SOps _ _ _ [0] _ _ from ?_)
    refine SOps.q rfl (.plain rfl) rfl (q_assign rfl rfl) ?_
    refine SOps.sub (st' := ⟨[(4, .c (.bool false))], []⟩) (sub_gen [] rfl rfl ⟨zc rfl rfl, trivial⟩ trivial) ?_
    refine SOps.nil ?_
    refine SCode.ret ?_
    obtain rfl := Option.some.inj h
    exact ⟨⟨[(4, .c (.bool false))], []⟩, _, sub_gen [] rfl rfl ⟨zc rfl rfl, trivial⟩ trivial, resA1 (v := .c (.bool false)) rfl rfl, rfl⟩
  rcases cond_out h with ⟨g9, h⟩ | ⟨g9, h⟩
  · refine SCode.region (show SOps _ _ _ [0, 1, 2, 3, 4, 5, 6, 7, 8, 9, 10, 11, 12, 13, 14, 15, 16, 17, 18, 19] _ _ from ?_)
    refine SOps.q rfl (.plain rfl) rfl (q_move rfl rfl) ?_
    refine SOps.q rfl (.plain rfl) rfl (q_neq rfl rfl rfl) ?_
    refine SOps.q rfl (.plain rfl) rfl (q_move rfl rfl) ?_
    refine SOps.q rfl (.guard 2 52 false rfl rfl (gF g8)) rfl (q_move rfl rfl) ?_
    refine SOps.q rfl (.guard 2 52 false rfl rfl (gF g8)) rfl (q_neq rfl rfl rfl) ?_
    refine SOps.q rfl (.plain rfl) rfl (q_pick_f rfl rfl g8 rfl) ?_
    refine SOps.q rfl (.plain rfl) rfl (q_move rfl rfl) ?_
    refine SOps.skip rfl 6 56 false rfl rfl (.inl (gT g9)) rfl ?_
    refine SOps.skip rfl 6 56 false rfl rfl (.inl (gT g9)) rfl ?_
    refine SOps.skip rfl 6 56 false rfl rfl (.inl (gT g9)) rfl ?_
    refine SOps.skip rfl 6 56 false rfl rfl (.inl (gT g9)) rfl ?_
    refine SOps.skip rfl 6 56 false rfl rfl (.inl (gT g9)) rfl ?_
    refine SOps.q rfl (.plain rfl) rfl (q_pick_t rfl rfl g9 rfl) ?_
    refine SOps.q rfl (.plain rfl) rfl (q_move rfl rfl) ?_
    refine SOps.skip rfl 13 63 false rfl rfl (.inl rfl) rfl ?_
    refine SOps.skip rfl 13 63 false rfl rfl (.inl rfl) rfl ?_
    refine SOps.skip rfl 13 63 false rfl rfl (.inl rfl) rfl ?_
    refine SOps.skip rfl 13 63 false rfl rfl (.inl rfl) rfl ?_
    refine SOps.skip rfl 13 63 false rfl rfl (.inl rfl) rfl ?_
    refine SOps.q rfl (.plain rfl) rfl (q_pick_t rfl rfl rfl rfl) ?_
    refine SOps.sub (st' := ⟨[(8, .c (.vec c_4.1.length 1 (gL (cInt .i64) 0 c_4.1))), (10, .c (.vec c_6.1.length 1 (gL (cInt .i64) 0 c_6.1))), (69, .c (.bool true))], []⟩) (sub_gen [] rfl rfl ⟨zc rfl rfl, zc rfl rfl, zc rfl rfl, trivial⟩ trivial) ?_
    refine SOps.nil ?_
    refine SCode.cond_t rfl rfl ?_
    refine SCode.seq ?_
    refine SCode.region (show SOps _ _ _ [0] _ _ from ?_)
    refine SOps.q rfl (.plain rfl) rfl (q_assign rfl rfl) ?_
    refine SOps.sub (st' := ⟨[(4, .c (.bool false))], []⟩) (sub_gen [] rfl rfl ⟨zc rfl rfl, trivial⟩ trivial) ?_
    refine SOps.nil ?_
    refine SCode.ret ?_
    obtain rfl := Option.some.inj h
    exact ⟨⟨[(4, .c (.bool false))], []⟩, _, sub_gen [] rfl rfl ⟨zc rfl rfl, trivial⟩ trivial, resA1 (v := .c (.bool false)) rfl rfl, rfl⟩
  rcases cond_out h with ⟨g10, h⟩ | ⟨g10, h⟩
  · refine SCode.region (show SOps _ _ _ [0, 1, 2, 3, 4, 5, 6, 7, 8, 9, 10, 11, 12, 13, 14, 15, 16, 17, 18, 19] _ _ from ?_)
    refine SOps.q rfl (.plain rfl) rfl (q_move rfl rfl) ?_
    refine SOps.q rfl (.plain rfl) rfl (q_neq rfl rfl rfl) ?_
    refine SOps.q rfl (.plain rfl) rfl (q_move rfl rfl) ?_
    refine SOps.q rfl (.guard 2 52 false rfl rfl (gF g8)) rfl (q_move rfl rfl) ?_
    refine SOps.q rfl (.guard 2 52 false rfl rfl (gF g8)) rfl (q_neq rfl rfl rfl) ?_
    refine SOps.q rfl (.plain rfl) rfl (q_pick_f rfl rfl g8 rfl) ?_
    refine SOps.q rfl (.plain rfl) rfl (q_move rfl rfl) ?_
    refine SOps.q rfl (.guard 6 56 false rfl rfl (gF g9)) rfl (q_move rfl rfl) ?_
    refine SOps.q rfl (.guard 6 56 false rfl rfl (gF g9)) rfl (q_len_vec rfl rfl sl22) ?_
    refine SOps.q rfl (.guard 6 56 false rfl rfl (gF g9)) rfl (q_move rfl rfl) ?_
    refine SOps.q rfl (.guard 6 56 false rfl rfl (gF g9)) rfl (q_len_vec rfl rfl sl22) ?_
    refine SOps.q rfl (.guard 6 56 false rfl rfl (gF g9)) rfl (q_neq rfl rfl rfl) ?_
    refine SOps.q rfl (.plain rfl) rfl (q_pick_f rfl rfl g9 rfl) ?_
    refine SOps.q rfl (.plain rfl) rfl (q_move rfl rfl) ?_
    refine SOps.skip rfl 13 63 false rfl rfl (.inl (gT g10)) rfl ?_
    refine SOps.skip rfl 13 63 false rfl rfl (.inl (gT g10)) rfl ?_
    refine SOps.skip rfl 13 63 false rfl rfl (.inl (gT g10)) rfl ?_
    refine SOps.skip rfl 13 63 false rfl rfl (.inl (gT g10)) rfl ?_
    refine SOps.skip rfl 13 63 false rfl rfl (.inl (gT g10)) rfl ?_
    refine SOps.q rfl (.plain rfl) rfl (q_pick_t rfl rfl g10 rfl) ?_
    refine SOps.sub (st' := ⟨[(8, .c (.vec c_4.1.length 1 (gL (cInt .i64) 0 c_4.1))), (10, .c (.vec c_6.1.length 1 (gL (cInt .i64) 0 c_6.1))), (69, .c (.bool true))], []⟩) (sub_gen [] rfl rfl ⟨zc rfl rfl, zc rfl rfl, zc rfl rfl, trivial⟩ trivial) ?_
    refine SOps.nil ?_
    refine SCode.cond_t rfl rfl ?_
    refine SCode.seq ?_
    refine SCode.region (show SOps _ _ _ [0] _ _ from ?_)
    refine SOps.q rfl (.plain rfl) rfl (q_assign rfl rfl) ?_
    refine SOps.sub (st' := ⟨[(4, .c (.bool false))], []⟩) (sub_gen [] rfl rfl ⟨zc rfl rfl, trivial⟩ trivial) ?_
    refine SOps.nil ?_
    refine SCode.ret ?_
    obtain rfl := Option.some.inj h
    exact ⟨⟨[(4, .c (.bool false))], []⟩, _, sub_gen [] rfl rfl ⟨zc rfl rfl, trivial⟩ trivial, resA1 (v := .c (.bool false)) rfl rfl, rfl⟩
  refine SCode.region (show SOps _ _ _ [0, 1, 2, 3, 4, 5, 6, 7, 8, 9, 10, 11, 12, 13, 14, 15, 16, 17, 18, 19] _ _ from ?_)
  refine SOps.q rfl (.plain rfl) rfl (q_move rfl rfl) ?_
  refine SOps.q rfl (.plain rfl) rfl (q_neq rfl rfl rfl) ?_
  refine SOps.q rfl (.plain rfl) rfl (q_move rfl rfl) ?_
  refine SOps.q rfl (.guard 2 52 false rfl rfl (gF g8)) rfl (q_move rfl rfl) ?_
  refine SOps.q rfl (.guard 2 52 false rfl rfl (gF g8)) rfl (q_neq rfl rfl rfl) ?_
  refine SOps.q rfl (.plain rfl) rfl (q_pick_f rfl rfl g8 rfl) ?_
  refine SOps.q rfl (.plain rfl) rfl (q_move rfl rfl) ?_
  refine SOps.q rfl (.guard 6 56 false rfl rfl (gF g9)) rfl (q_move rfl rfl) ?_
  refine SOps.q rfl (.guard 6 56 false rfl rfl (gF g9)) rfl (q_len_vec rfl rfl sl22) ?_
  refine SOps.q rfl (.guard 6 56 false rfl rfl (gF g9)) rfl (q_move rfl rfl) ?_
  refine SOps.q rfl (.guard 6 56 false rfl rfl (gF g9)) rfl (q_len_vec rfl rfl sl22) ?_
  refine SOps.q rfl (.guard 6 56 false rfl rfl (gF g9)) rfl (q_neq rfl rfl rfl) ?_
  refine SOps.q rfl (.plain rfl) rfl (q_pick_f rfl rfl g9 rfl) ?_
  refine SOps.q rfl (.plain rfl) rfl (q_move rfl rfl) ?_
  refine SOps.q rfl (.guard 13 63 false rfl rfl (gF g10)) rfl (q_move rfl rfl) ?_
  refine SOps.q rfl (.guard 13 63 false rfl rfl (gF g10)) rfl (q_len_vec rfl rfl sl22) ?_
  refine SOps.q rfl (.guard 13 63 false rfl rfl (gF g10)) rfl (q_move rfl rfl) ?_
  refine SOps.q rfl (.guard 13 63 false rfl rfl (gF g10)) rfl (q_len_vec rfl rfl sl22) ?_
  refine SOps.q rfl (.guard 13 63 false rfl rfl (gF g10)) rfl (q_neq rfl rfl rfl) ?_
  refine SOps.q rfl (.plain rfl) rfl (q_pick_f rfl rfl g10 rfl) ?_
  refine SOps.sub (st' := ⟨[(8, .c (.vec c_4.1.length 1 (gL (cInt .i64) 0 c_4.1))), (10, .c (.vec c_6.1.length 1 (gL (cInt .i64) 0 c_6.1))), (69, .c (.bool ((!decide (((c_6.1).length : Int) = ((a1_caps).length : Int))))))], []⟩) (sub_gen [] rfl rfl ⟨zc rfl rfl, zc rfl rfl, zc rfl rfl, trivial⟩ trivial) ?_
  refine SOps.nil ?_
  rcases cond_out h with ⟨g11, h⟩ | ⟨g11, h⟩
  · refine SCode.cond_t rfl g11 ?_
    refine SCode.seq ?_
    refine SCode.region (show SOps _ _ _ [0] _ _ from ?_)
    refine SOps.q rfl (.plain rfl) rfl (q_assign rfl rfl) ?_
    refine SOps.sub (st' := ⟨[(4, .c (.bool false))], []⟩) (sub_gen [] rfl rfl ⟨zc rfl rfl, trivial⟩ trivial) ?_
    refine SOps.nil ?_
    refine SCode.ret ?_
    obtain rfl := Option.some.inj h
    exact ⟨⟨[(4, .c (.bool false))], []⟩, _, sub_gen [] rfl rfl ⟨zc rfl rfl, trivial⟩ trivial, resA1 (v := .c (.bool false)) rfl rfl, rfl⟩
  refine SCode.cond_f rfl g11 ?_
  refine SCode.skip ?_
  refine SCode.join (σ := Unit) (S := fun s => ⟨[], []⟩) (g := fun s => chargenettop_FlowsShare_p12 = some r) ?_ ?_
  rotate_left
  · refine SCode.seq ?_
    refine SCode.region (show SOps _ _ _ [0, 1, 2] _ _ from ?_)
    refine SOps.q rfl (.plain rfl) rfl (q_move rfl rfl) ?_
    refine SOps.q rfl (.plain rfl) rfl (q_len_vec rfl rfl sl22) ?_
    refine SOps.q rfl (.plain rfl) rfl (q_move rfl rfl) ?_
    refine SOps.sub (st' := ⟨[(8, .c (.vec c_4.1.length 1 (gL (cInt .i64) 0 c_4.1))), (10, .c (.vec c_6.1.length 1 (gL (cInt .i64) 0 c_6.1))), (71, .c (.int .i64 (((c_4.1).length : Int)))), (72, .c (.int .i64 0))], []⟩) (sub_gen [] rfl rfl ⟨zc rfl rfl, zc rfl rfl, zc rfl rfl, zc rfl rfl, trivial⟩ trivial) ?_
    refine SOps.nil ?_
    refine SCode.block ?_
    refine SCode.sub (st' := ⟨[(8, .c (.vec c_4.1.length 1 (gL (cInt .i64) 0 c_4.1))), (10, .c (.vec c_6.1.length 1 (gL (cInt .i64) 0 c_6.1))), (71, .c (.int .i64 (((c_4.1).length : Int)))), (72, .c (.int .i64 0))], []⟩) (sub_gen [] rfl rfl ⟨zc rfl rfl, zc rfl rfl, zc rfl rfl, zc rfl rfl, trivial⟩ trivial) ?_
    refine (SCode.loop (σ := Nat × Int) (S := fun s => ⟨[(8, .c (.vec c_4.1.length 1 (gL (cInt .i64) 0 c_4.1))), (10, .c (.vec c_6.1.length 1 (gL (cInt .i64) 0 c_6.1))), (71, .c (.int .i64 (((c_4.1).length : Int)))), (72, .c (.int .i64 s.2))], []⟩) (g := fun s => chargenettop_FlowsShare_l22 c_4 c_6 s.1 s.2 = some r) (μ := fun s => s.1) (F, 0) h ?_)
    rintro ⟨n_22, t72_17⟩ h
    replace h : chargenettop_FlowsShare_l22 c_4 c_6 n_22 t72_17 = some r := h
    show SCode _ _ _ ⟨[(8, .c (.vec c_4.1.length 1 (gL (cInt .i64) 0 c_4.1))), (10, .c (.vec c_6.1.length 1 (gL (cInt .i64) 0 c_6.1))), (71, .c (.int .i64 (((c_4.1).length : Int)))), (72, .c (.int .i64 t72_17))], []⟩ _
    cases n_22 with
    | zero => cases h
    | succ n_22 =>
      replace h : chargenettop_FlowsShare_b22 c_4 c_6 (fun t72_17 => chargenettop_FlowsShare_l22 c_4 c_6 n_22 t72_17) t72_17 = some r := h
      unfold chargenettop_FlowsShare_b22 at h
      refine SCode.seq ?_
      refine SCode.region (show SOps _ _ _ [0] _ _ from ?_)
      refine SOps.q rfl (.plain rfl) rfl (q_lss rfl rfl rfl) ?_
      refine SOps.sub (st' := ⟨[(8, .c (.vec c_4.1.length 1 (gL (cInt .i64) 0 c_4.1))), (10, .c (.vec c_6.1.length 1 (gL (cInt .i64) 0 c_6.1))), (71, .c (.int .i64 (((c_4.1).length : Int)))), (72, .c (.int .i64 t72_17)), (73, .c (.bool (decide (t72_17 < ((c_4.1).length : Int)))))], []⟩) (sub_gen [] rfl rfl ⟨zc rfl rfl, zc rfl rfl, zc rfl rfl, zc rfl rfl, zc rfl rfl, trivial⟩ trivial) ?_
      refine SOps.nil ?_
      refine SCode.seq ?_
      rcases cond_out h with ⟨g23, h⟩ | ⟨g23, h⟩
      · refine SCode.cond_t rfl g23 ?_
        refine SCode.skip ?_
        refine SCode.seq ?_
        refine SCode.block ?_
        refine SCode.seq ?_
        refine SCode.region (show SOps _ _ _ [0, 1] _ _ from ?_)
        refine SOps.q rfl (.plain rfl) rfl (q_move rfl rfl) ?_
        refine SOps.q rfl (.plain rfl) rfl (q_assign rfl rfl) ?_
        refine SOps.sub (st' := ⟨[(8, .c (.vec c_4.1.length 1 (gL (cInt .i64) 0 c_4.1))), (10, .c (.vec c_6.1.length 1 (gL (cInt .i64) 0 c_6.1))), (12, .c (.int .i64 t72_17)), (71, .c (.int .i64 (((c_4.1).length : Int)))), (72, .c (.int .i64 t72_17))], []⟩) (sub_gen [] rfl rfl ⟨zc rfl rfl, zc rfl rfl, zc rfl rfl, zc rfl rfl, zc rfl rfl, trivial⟩ trivial) ?_
        refine SOps.nil ?_
        refine SCode.seq ?_
        obtain ⟨g24, h⟩ := guard_out h
        obtain ⟨g25, h⟩ := guard_out h
        refine SCode.draw (s' := [(83, .c (.bool ((!decide (c_4.1.getD t72_17.toNat 0 = c_6.1.getD t72_17.toNat 0))))), (82, .c (.int .i64 (c_6.1.getD t72_17.toNat 0))), (81, .c (.eptr 1 ((cInt .i64) (c_6.1.getD t72_17.toNat 0)) 0)), (80, .c (.int .i64 t72_17)), (79, .c (.vec c_6.1.length 1 (gL (cInt .i64) 0 c_6.1))), (78, .c (.int .i64 (c_4.1.getD t72_17.toNat 0))), (77, .c (.eptr 1 ((cInt .i64) (c_4.1.getD t72_17.toNat 0)) 0)), (76, .c (.int .i64 t72_17)), (75, .c (.vec c_4.1.length 1 (gL (cInt .i64) 0 c_4.1))), (8, .c (.vec c_4.1.length 1 (gL (cInt .i64) 0 c_4.1))), (10, .c (.vec c_6.1.length 1 (gL (cInt .i64) 0 c_6.1))), (12, .c (.int .i64 t72_17)), (71, .c (.int .i64 (((c_4.1).length : Int)))), (72, .c (.int .i64 t72_17))]) mixed [[], [], [0, 1], [0, 1, 2], [], [], [4, 5], [4, 5, 6], [0, 1, 2, 3, 4, 5, 6, 7]] 9 0 rfl rfl ?_ ?_
        · refine QChain.run rfl (.plain rfl) rfl (q_move rfl rfl) ?_
          refine QChain.run rfl (.plain rfl) rfl (q_move rfl rfl) ?_
          refine QChain.run rfl (.plain rfl) rfl (q_index_vec rfl rfl rfl sl22 rfl g24.1 g24.2) ?_
          refine QChain.run rfl (.plain rfl) rfl (q_load_eptr rfl rfl ty3) ?_
          refine QChain.run rfl (.plain rfl) rfl (q_move rfl rfl) ?_
          refine QChain.run rfl (.plain rfl) rfl (q_move rfl rfl) ?_
          refine QChain.run rfl (.plain rfl) rfl (q_index_vec rfl rfl rfl sl22 rfl g25.1 g25.2) ?_
          refine QChain.run rfl (.plain rfl) rfl (q_load_eptr rfl rfl ty3) ?_
          refine QChain.run rfl (.plain rfl) rfl (q_neq rfl rfl rfl) ?_
          exact QChain.nil _ _
        refine (show SOps _ _ _ [] _ _ from ?_)
        refine SOps.sub (st' := ⟨[(8, .c (.vec c_4.1.length 1 (gL (cInt .i64) 0 c_4.1))), (10, .c (.vec c_6.1.length 1 (gL (cInt .i64) 0 c_6.1))), (71, .c (.int .i64 (((c_4.1).length : Int)))), (72, .c (.int .i64 t72_17)), (83, .c (.bool ((!decide (c_4.1.getD t72_17.toNat 0 = c_6.1.getD t72_17.toNat 0)))))], []⟩) (sub_gen [] rfl rfl ⟨zc rfl rfl, zc rfl rfl, zc rfl rfl, zc rfl rfl, zc rfl rfl, trivial⟩ trivial) ?_
        refine SOps.nil ?_
        rcases cond_out h with ⟨g26, h⟩ | ⟨g26, h⟩
        · refine SCode.cond_t rfl g26 ?_
          refine SCode.seq ?_
          refine SCode.region (show SOps _ _ _ [0] _ _ from ?_)
          refine SOps.q rfl (.plain rfl) rfl (q_assign rfl rfl) ?_
          refine SOps.sub (st' := ⟨[(4, .c (.bool false))], []⟩) (sub_gen [] rfl rfl ⟨zc rfl rfl, trivial⟩ trivial) ?_
          refine SOps.nil ?_
          refine SCode.ret ?_
          obtain rfl := Option.some.inj h
          exact ⟨⟨[(4, .c (.bool false))], []⟩, _, sub_gen [] rfl rfl ⟨zc rfl rfl, trivial⟩ trivial, resA1 (v := .c (.bool false)) rfl rfl, rfl⟩
        refine SCode.cond_f rfl g26 ?_
        refine SCode.skip ?_
        refine SCode.region (show SOps _ _ _ [0, 1] _ _ from ?_)
        refine SOps.q rfl (.plain rfl) rfl (q_add rfl rfl rfl) ?_
        refine SOps.q rfl (.plain rfl) rfl (q_move rfl rfl) ?_
        refine SOps.sub (st' := ⟨[(8, .c (.vec c_4.1.length 1 (gL (cInt .i64) 0 c_4.1))), (10, .c (.vec c_6.1.length 1 (gL (cInt .i64) 0 c_6.1))), (71, .c (.int .i64 (((c_4.1).length : Int)))), (72, .c (.int .i64 (IntKind.wrap .i64 (t72_17 + 1))))], []⟩) (sub_gen [] rfl rfl ⟨zc rfl rfl, zc rfl rfl, zc rfl rfl, zc rfl rfl, trivial⟩ trivial) ?_
        refine SOps.nil ?_
        exact ⟨(n_22, IntKind.wrap .i64 (t72_17 + 1)), h, Nat.lt_succ_self n_22, sub_gen [] rfl rfl ⟨zc rfl rfl, zc rfl rfl, zc rfl rfl, zc rfl rfl, trivial⟩ trivial⟩
      refine SCode.cond_f rfl g23 ?_
      refine SCode.exit ?_
      exact ⟨(), h, sub_gen [] rfl rfl trivial trivial⟩
  rintro ⟨⟩ h
  show SCode _ _ _ ⟨[], []⟩ _
  replace h : chargenettop_FlowsShare_p12 = some r := h
  unfold chargenettop_FlowsShare_p12 at h
  refine SCode.seq ?_
  refine SCode.region (show SOps _ _ _ [0] _ _ from ?_)
  refine SOps.q rfl (.plain rfl) rfl (q_assign rfl rfl) ?_
  refine SOps.sub (st' := ⟨[(4, .c (.bool true))], []⟩) (sub_gen [] rfl rfl ⟨zc rfl rfl, trivial⟩ trivial) ?_
  refine SOps.nil ?_
  refine SCode.ret ?_
  obtain rfl := Option.some.inj h
  exact ⟨⟨[(4, .c (.bool true))], []⟩, _, sub_gen [] rfl rfl ⟨zc rfl rfl, trivial⟩ trivial, resA1 (v := .c (.bool true)) rfl rfl, rfl⟩
end Go.Proofs.Ythebmhkjelejbaa.W
