/- Written by a program of ours (wip/eng/gen.py): the functions compute their models. -/
import Derived.Test.YtcccjpkfifefaaaFacts
import Derived.Test.YtcccjpkfifefaaaV8x4
namespace Go.Proofs.Ytcccjpkfifefaaa.W
open Go Go.Proofs Go.Proofs.Ytcccjpkfifefaaa.E Go.Proofs.Ytcccjpkfifefaaa.M
set_option linter.unusedVariables false
set_option maxRecDepth 100000 in
set_option maxHeartbeats 8000000 in
theorem chargenetlaw13_build_ok (F : Nat) (a0_l : List SCurtail) (r : (List SCurtail) × Bool) (h : chargenetlaw13_build F a0_l = some r) :
    SFun Try.prog 15 [] [.c (.vec a0_l.length 7 (gL cSCurtail dSCurtail a0_l))] (fun x _ => x = .t [.c (.vec r.1.length 7 (gL cSCurtail dSCurtail r.1)), .c (.bool r.2)]) := by
  refine SFun.of (n := 33) Try.func15 rfl rfl rfl ?_
  unfold chargenetlaw13_build at h
  show SCode _ _ _ ⟨[(0, .c (.vec a0_l.length 7 (gL cSCurtail dSCurtail a0_l)))], []⟩ _
  refine SCode.seq ?_
  refine SCode.region (show SOps _ _ _ [0, 1] _ _ from ?_)
  refine SOps.q rfl (.plain rfl) rfl (q_assign rfl rfl) ?_
  refine SOps.q rfl (.plain rfl) rfl (q_assign rfl rfl) ?_
  refine SOps.sub (st' := ⟨[(0, .c (.vec a0_l.length 7 (gL cSCurtail dSCurtail a0_l)))], []⟩) (sub_gen [] rfl rfl ⟨zc rfl rfl, trivial⟩ trivial) ?_
  refine SOps.nil ?_
  refine SCode.seq ?_
  refine SCode.region (show SOps _ _ _ [0] _ _ from ?_)
  refine SOps.q rfl (.plain rfl) rfl (q_assign rfl rfl) ?_
  refine SOps.sub (st' := ⟨[(0, .c (.vec a0_l.length 7 (gL cSCurtail dSCurtail a0_l))), (4, .c (.raw (.slice none 0 0)))], []⟩) (sub_gen [] rfl rfl ⟨zc rfl rfl, zc rfl rfl, trivial⟩ trivial) ?_
  refine SOps.nil ?_
  refine SCode.join (σ := (List SCurtail)) (S := fun s => ⟨[(4, .c (.vec s.length 7 (gL cSCurtail dSCurtail s)))], []⟩) (g := fun s => chargenetlaw13_build_p2 s = some r) ?_ ?_
  rotate_left
  · refine SCode.seq ?_
    refine SCode.region (show SOps _ _ _ [0, 1, 2] _ _ from ?_)
    refine SOps.q rfl (.plain rfl) rfl (q_move rfl rfl) ?_
    refine SOps.q rfl (.plain rfl) rfl (q_len_vec rfl rfl sl34) ?_
    refine SOps.q rfl (.plain rfl) rfl (q_move rfl rfl) ?_
    refine SOps.sub (st' := ⟨[(0, .c (.vec a0_l.length 7 (gL cSCurtail dSCurtail a0_l))), (4, .c (.raw (.slice none 0 0))), (9, .c (.int .i64 (((a0_l).length : Int)))), (10, .c (.int .i64 0))], []⟩) (sub_gen [] rfl rfl ⟨zc rfl rfl, zc rfl rfl, zc rfl rfl, zc rfl rfl, trivial⟩ trivial) ?_
    refine SOps.nil ?_
    refine SCode.block ?_
    refine SCode.sub (st' := ⟨[(0, .c (.vec a0_l.length 7 (gL cSCurtail dSCurtail a0_l))), (4, .c (.vec ([] : List SCurtail).length 7 (gL cSCurtail dSCurtail ([] : List SCurtail)))), (9, .c (.int .i64 (((a0_l).length : Int)))), (10, .c (.int .i64 0))], []⟩) (sub_gen [] rfl rfl ⟨zc rfl rfl, ⟨_, rfl, .inr (.inr (.inr (.inl ⟨_, _, rfl, rfl⟩)))⟩, zc rfl rfl, zc rfl rfl, trivial⟩ trivial) ?_
    refine (SCode.loop (σ := Nat × ((List SCurtail) × Int)) (S := fun s => ⟨[(0, .c (.vec a0_l.length 7 (gL cSCurtail dSCurtail a0_l))), (4, .c (.vec s.2.1.length 7 (gL cSCurtail dSCurtail s.2.1))), (9, .c (.int .i64 (((a0_l).length : Int)))), (10, .c (.int .i64 s.2.2))], []⟩) (g := fun s => chargenetlaw13_build_l23 F a0_l s.1 s.2.1 s.2.2 = some r) (μ := fun s => s.1) (F, ([], 0)) h ?_)
    rintro ⟨n_23, ⟨out_12, t10_13⟩⟩ h
    replace h : chargenetlaw13_build_l23 F a0_l n_23 out_12 t10_13 = some r := h
    show SCode _ _ _ ⟨[(0, .c (.vec a0_l.length 7 (gL cSCurtail dSCurtail a0_l))), (4, .c (.vec out_12.length 7 (gL cSCurtail dSCurtail out_12))), (9, .c (.int .i64 (((a0_l).length : Int)))), (10, .c (.int .i64 t10_13))], []⟩ _
    cases n_23 with
    | zero => cases h
    | succ n_23 =>
      replace h : chargenetlaw13_build_b23 F a0_l (fun out_12 t10_13 => chargenetlaw13_build_l23 F a0_l n_23 out_12 t10_13) out_12 t10_13 = some r := h
      unfold chargenetlaw13_build_b23 at h
      refine SCode.seq ?_
      refine SCode.region (show SOps _ _ _ [0] _ _ from ?_)
      refine SOps.q rfl (.plain rfl) rfl (q_lss rfl rfl rfl) ?_
      refine SOps.sub (st' := ⟨[(0, .c (.vec a0_l.length 7 (gL cSCurtail dSCurtail a0_l))), (4, .c (.vec out_12.length 7 (gL cSCurtail dSCurtail out_12))), (9, .c (.int .i64 (((a0_l).length : Int)))), (10, .c (.int .i64 t10_13)), (11, .c (.bool (decide (t10_13 < ((a0_l).length : Int)))))], []⟩) (sub_gen [] rfl rfl ⟨zc rfl rfl, zc rfl rfl, zc rfl rfl, zc rfl rfl, zc rfl rfl, trivial⟩ trivial) ?_
      refine SOps.nil ?_
      refine SCode.seq ?_
      rcases cond_out h with ⟨g24, h⟩ | ⟨g24, h⟩
      · refine SCode.cond_t rfl g24 ?_
        refine SCode.skip ?_
        refine SCode.seq ?_
        refine SCode.block ?_
        refine SCode.seq ?_
        refine SCode.region (show SOps _ _ _ [0, 1] _ _ from ?_)
        refine SOps.q rfl (.plain rfl) rfl (q_move rfl rfl) ?_
        refine SOps.q rfl (.plain rfl) rfl (q_assign rfl rfl) ?_
        refine SOps.sub (st' := ⟨[(0, .c (.vec a0_l.length 7 (gL cSCurtail dSCurtail a0_l))), (4, .c (.vec out_12.length 7 (gL cSCurtail dSCurtail out_12))), (5, .c (.int .i64 t10_13)), (9, .c (.int .i64 (((a0_l).length : Int)))), (10, .c (.int .i64 t10_13))], []⟩) (sub_gen [] rfl rfl ⟨zc rfl rfl, zc rfl rfl, zc rfl rfl, zc rfl rfl, zc rfl rfl, trivial⟩ trivial) ?_
        refine SOps.nil ?_
        refine SCode.seq ?_
        obtain ⟨g25, h⟩ := guard_out h
        obtain ⟨c_26, g27, h⟩ := bind_out h
        try dsimp only at h
        refine SCode.region (show SOps _ _ _ [0, 1, 2, 3, 4, 5, 6, 7, 8, 9, 10] _ _ from ?_)
        refine SOps.q rfl (.plain rfl) rfl (q_move rfl rfl) ?_
        refine SOps.q rfl (.plain rfl) rfl (q_move rfl rfl) ?_
        refine SOps.q rfl (.plain rfl) rfl (q_move rfl rfl) ?_
        refine SOps.q rfl (.plain rfl) rfl (q_index_vec rfl rfl rfl sl34 rfl g25.1 g25.2) ?_
        refine SOps.q rfl (.plain rfl) rfl (q_load_eptr_all rfl rfl rfl ty25) ?_
        refine SOps.q rfl (.plain rfl) rfl (q_call (curtail_Put_ok F out_12 (a0_l.getD t10_13.toNat dSCurtail) c_26 g27) [] rfl fn12 ⟨⟨_, rfl, .inl ⟨rfl, rfl⟩⟩, ⟨rfl, rfl⟩, trivial⟩ (.inl rfl)) ?_
        refine SOps.q rfl (.plain rfl) rfl (q_move rfl rfl) ?_
        refine SOps.q rfl (.plain rfl) rfl (q_extract rfl rfl rfl) ?_
        refine SOps.q rfl (.plain rfl) rfl (q_extract rfl rfl rfl) ?_
        refine SOps.q rfl (.plain rfl) rfl (q_assign rfl rfl) ?_
        refine SOps.q rfl (.plain rfl) rfl (q_assign rfl rfl) ?_
        refine SOps.sub (st' := ⟨[(0, .c (.vec a0_l.length 7 (gL cSCurtail dSCurtail a0_l))), (4, .c (.vec out_12.length 7 (gL cSCurtail dSCurtail out_12))), (6, .c (.vec c_26.1.length 7 (gL cSCurtail dSCurtail c_26.1))), (7, .c (.int .i64 c_26.2)), (9, .c (.int .i64 (((a0_l).length : Int)))), (10, .c (.int .i64 t10_13))], []⟩) (sub_gen [] rfl rfl ⟨zc rfl rfl, zc rfl rfl, zc rfl rfl, zc rfl rfl, zc rfl rfl, zc rfl rfl, trivial⟩ trivial) ?_
        refine SOps.nil ?_
        refine SCode.join (σ := Unit) (S := fun s => ⟨[(0, .c (.vec a0_l.length 7 (gL cSCurtail dSCurtail a0_l))), (6, .c (.vec c_26.1.length 7 (gL cSCurtail dSCurtail c_26.1))), (9, .c (.int .i64 (((a0_l).length : Int)))), (10, .c (.int .i64 t10_13))], []⟩) (g := fun s => chargenetlaw13_build_p28 t10_13 (fun out_12 t10_13 => chargenetlaw13_build_l23 F a0_l n_23 out_12 t10_13) c_26 = some r) ?_ ?_
        rotate_left
        · refine SCode.seq ?_
          rcases cond_out h with ⟨g29, h⟩ | ⟨g29, h⟩
          · obtain ⟨c_30, g31, h⟩ := bind_out h
            try dsimp only at h
            refine SCode.region (show SOps _ _ _ [0, 1, 2, 3, 4, 5, 6, 7] _ _ from ?_)
            refine SOps.q rfl (.plain rfl) rfl (q_move rfl rfl) ?_
            refine SOps.q rfl (.plain rfl) rfl (q_neq rfl rfl rfl) ?_
            refine SOps.q rfl (.plain rfl) rfl (q_move rfl rfl) ?_
            refine SOps.q rfl (.guard 2 24 true rfl rfl (gT g29)) rfl (q_move rfl rfl) ?_
            refine SOps.q rfl (.guard 2 24 true rfl rfl (gT g29)) rfl (q_move rfl rfl) ?_
            refine SOps.q rfl (.guard 2 24 true rfl rfl (gT g29)) rfl (q_call (slices_Equal_api_Curtail_api_Curtail_ok F c_26.1 out_12 c_30 g31) [] rfl fn14 ⟨⟨_, rfl, .inl ⟨rfl, rfl⟩⟩, ⟨_, rfl, .inl ⟨rfl, rfl⟩⟩, trivial⟩ (.inl rfl)) ?_
            refine SOps.q rfl (.guard 2 24 true rfl rfl (gT g29)) rfl (q_not rfl rfl) ?_
            refine SOps.q rfl (.plain rfl) rfl (q_pick_t rfl rfl g29 rfl) ?_
            refine SOps.sub (st' := ⟨[(0, .c (.vec a0_l.length 7 (gL cSCurtail dSCurtail a0_l))), (6, .c (.vec c_26.1.length 7 (gL cSCurtail dSCurtail c_26.1))), (9, .c (.int .i64 (((a0_l).length : Int)))), (10, .c (.int .i64 t10_13)), (29, .c (.bool ((!c_30))))], []⟩) (sub_gen [] rfl rfl ⟨zc rfl rfl, zc rfl rfl, zc rfl rfl, zc rfl rfl, zc rfl rfl, trivial⟩ trivial) ?_
            refine SOps.nil ?_
            rcases cond_out h with ⟨g32, h⟩ | ⟨g32, h⟩
            · refine SCode.cond_t rfl g32 ?_
              refine SCode.seq ?_
              refine SCode.region (show SOps _ _ _ [0, 1] _ _ from ?_)
              refine SOps.q rfl (.plain rfl) rfl (q_assign rfl rfl) ?_
              refine SOps.q rfl (.plain rfl) rfl (q_assign rfl rfl) ?_
              refine SOps.sub (st' := ⟨[(2, .c (.raw (.slice none 0 0))), (3, .c (.bool false))], []⟩) (sub_gen [] rfl rfl ⟨zc rfl rfl, zc rfl rfl, trivial⟩ trivial) ?_
              refine SOps.nil ?_
              refine SCode.ret ?_
              obtain rfl := Option.some.inj h
              exact ⟨⟨[(2, .c (.vec (([] : List SCurtail)).length 7 (gL cSCurtail dSCurtail (([] : List SCurtail))))), (3, .c (.bool false))], []⟩, _, sub_gen [] rfl rfl ⟨⟨_, rfl, .inr (.inr (.inr (.inl ⟨_, _, rfl, rfl⟩)))⟩, zc rfl rfl, trivial⟩ trivial, resA2 (v1 := .c (.vec (([] : List SCurtail)).length 7 (gL cSCurtail dSCurtail (([] : List SCurtail))))) (v2 := .c (.bool false)) rfl rfl rfl, rfl⟩
            refine SCode.cond_f rfl g32 ?_
            refine SCode.skip ?_
            exact ⟨(), h, sub_gen [] rfl rfl ⟨zc rfl rfl, zc rfl rfl, zc rfl rfl, zc rfl rfl, trivial⟩ trivial⟩
          refine SCode.region (show SOps _ _ _ [0, 1, 2, 3, 4, 5, 6, 7] _ _ from ?_)
          refine SOps.q rfl (.plain rfl) rfl (q_move rfl rfl) ?_
          refine SOps.q rfl (.plain rfl) rfl (q_neq rfl rfl rfl) ?_
          refine SOps.q rfl (.plain rfl) rfl (q_move rfl rfl) ?_
          refine SOps.skip rfl 2 24 true rfl rfl (.inl (gF g29)) rfl ?_
          refine SOps.skip rfl 2 24 true rfl rfl (.inl (gF g29)) rfl ?_
          refine SOps.skip rfl 2 24 true rfl rfl (.inl (gF g29)) rfl ?_
          refine SOps.skip rfl 2 24 true rfl rfl (.inl (gF g29)) rfl ?_
          refine SOps.q rfl (.plain rfl) rfl (q_pick_f rfl rfl g29 rfl) ?_
          refine SOps.sub (st' := ⟨[(0, .c (.vec a0_l.length 7 (gL cSCurtail dSCurtail a0_l))), (6, .c (.vec c_26.1.length 7 (gL cSCurtail dSCurtail c_26.1))), (9, .c (.int .i64 (((a0_l).length : Int)))), (10, .c (.int .i64 t10_13)), (29, .c (.bool false))], []⟩) (sub_gen [] rfl rfl ⟨zc rfl rfl, zc rfl rfl, zc rfl rfl, zc rfl rfl, zc rfl rfl, trivial⟩ trivial) ?_
          refine SOps.nil ?_
          refine SCode.cond_f rfl rfl ?_
          refine SCode.skip ?_
          exact ⟨(), h, sub_gen [] rfl rfl ⟨zc rfl rfl, zc rfl rfl, zc rfl rfl, zc rfl rfl, trivial⟩ trivial⟩
        rintro ⟨⟩ h
        show SCode _ _ _ ⟨[(0, .c (.vec a0_l.length 7 (gL cSCurtail dSCurtail a0_l))), (6, .c (.vec c_26.1.length 7 (gL cSCurtail dSCurtail c_26.1))), (9, .c (.int .i64 (((a0_l).length : Int)))), (10, .c (.int .i64 t10_13))], []⟩ _
        replace h : chargenetlaw13_build_p28 t10_13 (fun out_12 t10_13 => chargenetlaw13_build_l23 F a0_l n_23 out_12 t10_13) c_26 = some r := h
        unfold chargenetlaw13_build_p28 at h
        refine SCode.region (show SOps _ _ _ [0, 1] _ _ from ?_)
        refine SOps.q rfl (.plain rfl) rfl (q_move rfl rfl) ?_
        refine SOps.q rfl (.plain rfl) rfl (q_assign rfl rfl) ?_
        refine SOps.sub (st' := ⟨[(0, .c (.vec a0_l.length 7 (gL cSCurtail dSCurtail a0_l))), (4, .c (.vec c_26.1.length 7 (gL cSCurtail dSCurtail c_26.1))), (9, .c (.int .i64 (((a0_l).length : Int)))), (10, .c (.int .i64 t10_13))], []⟩) (sub_gen [] rfl rfl ⟨zc rfl rfl, zc rfl rfl, zc rfl rfl, zc rfl rfl, trivial⟩ trivial) ?_
        refine SOps.nil ?_
        refine SCode.region (show SOps _ _ _ [0, 1] _ _ from ?_)
        refine SOps.q rfl (.plain rfl) rfl (q_add rfl rfl rfl) ?_
        refine SOps.q rfl (.plain rfl) rfl (q_move rfl rfl) ?_
        refine SOps.sub (st' := ⟨[(0, .c (.vec a0_l.length 7 (gL cSCurtail dSCurtail a0_l))), (4, .c (.vec c_26.1.length 7 (gL cSCurtail dSCurtail c_26.1))), (9, .c (.int .i64 (((a0_l).length : Int)))), (10, .c (.int .i64 (IntKind.wrap .i64 (t10_13 + 1))))], []⟩) (sub_gen [] rfl rfl ⟨zc rfl rfl, zc rfl rfl, zc rfl rfl, zc rfl rfl, trivial⟩ trivial) ?_
        refine SOps.nil ?_
        exact ⟨(n_23, (c_26.1, IntKind.wrap .i64 (t10_13 + 1))), h, Nat.lt_succ_self n_23, sub_gen [] rfl rfl ⟨zc rfl rfl, zc rfl rfl, zc rfl rfl, zc rfl rfl, trivial⟩ trivial⟩
      refine SCode.cond_f rfl g24 ?_
      refine SCode.exit ?_
      exact ⟨out_12, h, sub_gen [] rfl rfl ⟨zc rfl rfl, trivial⟩ trivial⟩
  rintro out_1 h
  show SCode _ _ _ ⟨[(4, .c (.vec out_1.length 7 (gL cSCurtail dSCurtail out_1)))], []⟩ _
  replace h : chargenetlaw13_build_p2 out_1 = some r := h
  unfold chargenetlaw13_build_p2 at h
  refine SCode.seq ?_
  refine SCode.region (show SOps _ _ _ [0, 1, 2] _ _ from ?_)
  refine SOps.q rfl (.plain rfl) rfl (q_move rfl rfl) ?_
  refine SOps.q rfl (.plain rfl) rfl (q_assign rfl rfl) ?_
  refine SOps.q rfl (.plain rfl) rfl (q_assign rfl rfl) ?_
  refine SOps.sub (st' := ⟨[(2, .c (.vec out_1.length 7 (gL cSCurtail dSCurtail out_1))), (3, .c (.bool true))], []⟩) (sub_gen [] rfl rfl ⟨zc rfl rfl, zc rfl rfl, trivial⟩ trivial) ?_
  refine SOps.nil ?_
  refine SCode.ret ?_
  obtain rfl := Option.some.inj h
  exact ⟨⟨[(2, .c (.vec out_1.length 7 (gL cSCurtail dSCurtail out_1))), (3, .c (.bool true))], []⟩, _, sub_gen [] rfl rfl ⟨zc rfl rfl, zc rfl rfl, trivial⟩ trivial, resA2 (v1 := .c (.vec out_1.length 7 (gL cSCurtail dSCurtail out_1))) (v2 := .c (.bool true)) rfl rfl rfl, rfl⟩
set_option maxRecDepth 100000 in
set_option maxHeartbeats 8000000 in
theorem slices_Clone_api_Curtail_api_Curtail_own_ok (F : Nat) (a0_s : List SCurtail) (r : List SCurtail) (h : slices_Clone_api_Curtail_api_Curtail_own F a0_s = some r) :
    SFun Try.prog 20 [] [.c (.vec a0_s.length 7 (gL cSCurtail dSCurtail a0_s))] (fun x os => x = .c (.own 0 r.length) ∧ os = [.arr 25 7 r.length (gL cSCurtail dSCurtail r)]) := by
  refine SFun.of (n := 8) Try.func20 rfl rfl rfl ?_
  unfold slices_Clone_api_Curtail_api_Curtail_own at h
  show SCode _ _ _ ⟨[(0, .c (.vec a0_s.length 7 (gL cSCurtail dSCurtail a0_s)))], []⟩ _
  refine SCode.seq ?_
  refine SCode.region (show SOps _ _ _ [0] _ _ from ?_)
  refine SOps.q rfl (.plain rfl) rfl (q_assign rfl rfl) ?_
  refine SOps.nilArrL (T := 25) (k := 7) cSCurtail dSCurtail (s := 2) rfl rfl ?_
  refine SOps.sub (st' := ⟨[(0, .c (.vec a0_s.length 7 (gL cSCurtail dSCurtail a0_s)))], []⟩) (sub_gen [] rfl rfl ⟨zc rfl rfl, trivial⟩ trivial) ?_
  refine SOps.nil ?_
  refine SCode.seq ?_
  refine SCode.seq ?_
  refine SCode.region (show SOps _ _ _ [0, 1] _ _ from ?_)
  refine SOps.q rfl (.plain rfl) rfl (q_move rfl rfl) ?_
  refine SOps.nilcmp rfl (.plain rfl) rfl rfl rfl rfl rfl us34 (by decide) (fun hl => ?_) ?_
  · obtain rfl := List.length_eq_zero_iff.1 hl
    obtain ⟨_, h⟩ := guard_out h
    refine SOps.sub (st' := ⟨[(0, .c (.vec (([] : List SCurtail)).length 7 (gL cSCurtail dSCurtail (([] : List SCurtail))))), (4, .c (.bool true))], []⟩) (sub_gen [] rfl rfl ⟨zc rfl rfl, zc rfl rfl, trivial⟩ trivial) ?_
    refine SOps.nil ?_
    refine SCode.cond_t rfl rfl ?_
    refine SCode.seq ?_
    refine SCode.region (show SOps _ _ _ [0] _ _ from ?_)
    refine SOps.q rfl (.plain rfl) rfl (q_assign rfl rfl) ?_
    refine SOps.nilArrL (T := 25) (k := 7) cSCurtail dSCurtail (s := 2) rfl rfl ?_
    refine SOps.sub (st' := ⟨[(2, .c (.own 0 (([] : List SCurtail)).length))], [.arr 25 7 (([] : List SCurtail)).length (gL cSCurtail dSCurtail (([] : List SCurtail)))]⟩) (sub_gen [0] rfl rfl ⟨zc rfl rfl, trivial⟩ ⟨oa rfl, trivial⟩) ?_
    refine SOps.nil ?_
    refine SCode.ret ?_
    obtain rfl := Option.some.inj h
    exact ⟨⟨[(2, .c (.own 0 (([] : List SCurtail)).length))], [.arr 25 7 (([] : List SCurtail)).length (gL cSCurtail dSCurtail (([] : List SCurtail)))]⟩, _, sub_gen [0] rfl rfl ⟨zc rfl rfl, trivial⟩ ⟨oa rfl, trivial⟩, resA1 (v := .c (.own 0 (([] : List SCurtail)).length)) rfl rfl, ⟨rfl, rfl⟩⟩
  refine SOps.sub (st' := ⟨[(0, .c (.vec a0_s.length 7 (gL cSCurtail dSCurtail a0_s))), (4, .c (.bool false))], []⟩) (sub_gen [] rfl rfl ⟨zc rfl rfl, zc rfl rfl, trivial⟩ trivial) ?_
  refine SOps.nil ?_
  refine SCode.cond_f rfl rfl ?_
  refine SCode.skip ?_
  refine SCode.seq ?_
  obtain ⟨g1, h⟩ := guard_out h
  refine SCode.region (show SOps _ _ _ [0, 1, 2, 3] _ _ from ?_)
  refine SOps.e rfl (.plain rfl) (e_bslice0L (α := SCurtail) (c := cSCurtail) (d0 := dSCurtail) rfl rfl rfl rfl sl34) ?_
  refine SOps.q rfl (.plain rfl) rfl (q_move rfl rfl) ?_
  refine SOps.e rfl (.plain rfl) (e_appendL (c := cSCurtail) (d0 := dSCurtail) (l := ([] : List SCurtail)) (l2 := a0_s) rfl rfl rfl rfl rfl rfl (.inl rfl) sl34 z25 rfl rfl oneSCurtail g1.1 g1.2) ?_
  refine SOps.q rfl (.plain rfl) rfl (q_assign rfl rfl) ?_
  refine SOps.sub (st' := ⟨[(2, .c (.own 0 ((([] : List SCurtail)) ++ a0_s).length))], [.arr 25 7 ((([] : List SCurtail)) ++ a0_s).length (gL cSCurtail dSCurtail ((([] : List SCurtail)) ++ a0_s))]⟩) (sub_gen [1] rfl rfl ⟨zc rfl rfl, trivial⟩ ⟨oa rfl, trivial⟩) ?_
  refine SOps.nil ?_
  refine SCode.ret ?_
  obtain rfl := Option.some.inj h
  exact ⟨⟨[(2, .c (.own 0 ((([] : List SCurtail)) ++ a0_s).length))], [.arr 25 7 ((([] : List SCurtail)) ++ a0_s).length (gL cSCurtail dSCurtail ((([] : List SCurtail)) ++ a0_s))]⟩, _, sub_gen [0] rfl rfl ⟨zc rfl rfl, trivial⟩ ⟨oa rfl, trivial⟩, resA1 (v := .c (.own 0 ((([] : List SCurtail)) ++ a0_s).length)) rfl rfl, ⟨rfl, rfl⟩⟩
set_option maxRecDepth 100000 in
set_option maxHeartbeats 8000000 in
theorem chargenetlaw13_CurtailCancel_1_ok (F : Nat) (a0_x : SCurtail) (a1f0 : SCurtail) (r : Bool) (h : chargenetlaw13_CurtailCancel_1 F a0_x a1f0 = some r) :
    SFun Try.prog 22 [] [.a [.str a0_x.Name, .int .i64 a0_x.Version, .int .i64 a0_x.Feeder, .int .i64 a0_x.Span_From, .int .i64 a0_x.Span_To, .int .i64 a0_x.Total, .bool a0_x.Cancelled], .c (.eptr 7 (cSCurtail a1f0) 0)] (fun x _ => x = .c (.bool r)) := by
  refine SFun.of (n := 9) Try.func22 rfl rfl rfl ?_
  unfold chargenetlaw13_CurtailCancel_1 at h
  show SCode _ _ _ ⟨[(0, .a [.str a0_x.Name, .int .i64 a0_x.Version, .int .i64 a0_x.Feeder, .int .i64 a0_x.Span_From, .int .i64 a0_x.Span_To, .int .i64 a0_x.Total, .bool a0_x.Cancelled]), (1, .c (.eptr 7 (cSCurtail a1f0) 0))], []⟩ _
  refine SCode.seq ?_
  refine SCode.region (show SOps _ _ _ [0, 1] _ _ from ?_)
  refine SOps.e rfl (.plain rfl) (e_box rfl rfl rfl rfl rfl rfl) ?_
  refine SOps.q rfl (.plain rfl) rfl (q_assign rfl rfl) ?_
  refine SOps.sub (st' := ⟨[(1, .c (.eptr 7 (cSCurtail a1f0) 0)), (2, .c (.ptr 0 0))], [.box [.str a0_x.Name, .int .i64 a0_x.Version, .int .i64 a0_x.Feeder, .int .i64 a0_x.Span_From, .int .i64 a0_x.Span_To, .int .i64 a0_x.Total, .bool a0_x.Cancelled]]⟩) (sub_gen [0] rfl rfl ⟨zc rfl rfl, zc rfl rfl, trivial⟩ ⟨⟨_, rfl, ⟨ii rfl rfl, ii rfl rfl, ii rfl rfl, ii rfl rfl, ii rfl rfl, ii rfl rfl, ii rfl rfl, trivial⟩⟩, trivial⟩) ?_
  refine SOps.nil ?_
  refine SCode.seq ?_
  refine SCode.region (show SOps _ _ _ [0, 1, 2, 3, 4, 5] _ _ from ?_)
  refine SOps.q rfl (.plain rfl) rfl (q_field_ptr rfl rfl fd25_0) ?_
  refine SOps.q rfl (.plain rfl) rfl (q_load_ptr rfl rfl rfl rfl ty9) ?_
  refine SOps.q rfl (.plain rfl) rfl (q_field_eptr rfl rfl fd25_0 rfl) ?_
  refine SOps.q rfl (.plain rfl) rfl (q_load_eptr rfl rfl ty9) ?_
  refine SOps.q rfl (.plain rfl) rfl (q_eqlS rfl rfl rfl) ?_
  refine SOps.q rfl (.plain rfl) rfl (q_assign rfl rfl) ?_
  refine SOps.sub (st' := ⟨[(3, .c (.bool (sEq a0_x.Name a1f0.Name)))], []⟩) (sub_gen [] rfl rfl ⟨zc rfl rfl, trivial⟩ trivial) ?_
  refine SOps.nil ?_
  refine SCode.ret ?_
  obtain rfl := Option.some.inj h
  exact ⟨⟨[(3, .c (.bool (sEq a0_x.Name a1f0.Name)))], []⟩, _, sub_gen [] rfl rfl ⟨zc rfl rfl, trivial⟩ trivial, resA1 (v := .c (.bool (sEq a0_x.Name a1f0.Name))) rfl rfl, rfl⟩
set_option maxRecDepth 100000 in
set_option maxHeartbeats 8000000 in
theorem slices_IndexFunc_api_Curtail_api_Curtail_f1_22_ok (F : Nat) (a0_s : List SCurtail) (a1f0 : SCurtail) (r : Int) (h : slices_IndexFunc_api_Curtail_api_Curtail_f1_22 F a0_s a1f0 = some r) :
    SFun Try.prog 31 [] [.c (.vec a0_s.length 7 (gL cSCurtail dSCurtail a0_s)), .c (.fn 22 1 (cellsG [.eptr 7 (cSCurtail a1f0) 0]))] (fun x _ => x = .c (.int .i64 r)) := by
  refine SFun.of (n := 19) Try.func31 rfl rfl rfl ?_
  unfold slices_IndexFunc_api_Curtail_api_Curtail_f1_22 at h
  show SCode _ _ _ ⟨[(0, .c (.vec a0_s.length 7 (gL cSCurtail dSCurtail a0_s))), (1, .c (.fn 22 1 (cellsG [.eptr 7 (cSCurtail a1f0) 0])))], []⟩ _
  refine SCode.seq ?_
  refine SCode.region (show SOps _ _ _ [0] _ _ from ?_)
  refine SOps.q rfl (.plain rfl) rfl (q_assign rfl rfl) ?_
  refine SOps.sub (st' := ⟨[(0, .c (.vec a0_s.length 7 (gL cSCurtail dSCurtail a0_s))), (1, .c (.fn 22 1 (cellsG [.eptr 7 (cSCurtail a1f0) 0])))], []⟩) (sub_gen [] rfl rfl ⟨zc rfl rfl, zc rfl rfl, trivial⟩ trivial) ?_
  refine SOps.nil ?_
  refine SCode.join (σ := Unit) (S := fun s => ⟨[], []⟩) (g := fun s => slices_IndexFunc_api_Curtail_api_Curtail_f1_22_p1 = some r) ?_ ?_
  rotate_left
  · refine SCode.seq ?_
    refine SCode.region (show SOps _ _ _ [0, 1, 2] _ _ from ?_)
    refine SOps.q rfl (.plain rfl) rfl (q_move rfl rfl) ?_
    refine SOps.q rfl (.plain rfl) rfl (q_len_vec rfl rfl sl34) ?_
    refine SOps.q rfl (.plain rfl) rfl (q_move rfl rfl) ?_
    refine SOps.sub (st' := ⟨[(0, .c (.vec a0_s.length 7 (gL cSCurtail dSCurtail a0_s))), (1, .c (.fn 22 1 (cellsG [.eptr 7 (cSCurtail a1f0) 0]))), (7, .c (.int .i64 (((a0_s).length : Int)))), (8, .c (.int .i64 0))], []⟩) (sub_gen [] rfl rfl ⟨zc rfl rfl, zc rfl rfl, zc rfl rfl, zc rfl rfl, trivial⟩ trivial) ?_
    refine SOps.nil ?_
    refine SCode.block ?_
    refine SCode.sub (st' := ⟨[(0, .c (.vec a0_s.length 7 (gL cSCurtail dSCurtail a0_s))), (1, .c (.fn 22 1 (cellsG [.eptr 7 (cSCurtail a1f0) 0]))), (7, .c (.int .i64 (((a0_s).length : Int)))), (8, .c (.int .i64 0))], []⟩) (sub_gen [] rfl rfl ⟨zc rfl rfl, zc rfl rfl, zc rfl rfl, zc rfl rfl, trivial⟩ trivial) ?_
    refine (SCode.loop (σ := Nat × Int) (S := fun s => ⟨[(0, .c (.vec a0_s.length 7 (gL cSCurtail dSCurtail a0_s))), (1, .c (.fn 22 1 (cellsG [.eptr 7 (cSCurtail a1f0) 0]))), (7, .c (.int .i64 (((a0_s).length : Int)))), (8, .c (.int .i64 s.2))], []⟩) (g := fun s => slices_IndexFunc_api_Curtail_api_Curtail_f1_22_l13 F a0_s a1f0 s.1 s.2 = some r) (μ := fun s => s.1) (F, 0) h ?_)
    rintro ⟨n_13, t8_7⟩ h
    replace h : slices_IndexFunc_api_Curtail_api_Curtail_f1_22_l13 F a0_s a1f0 n_13 t8_7 = some r := h
    show SCode _ _ _ ⟨[(0, .c (.vec a0_s.length 7 (gL cSCurtail dSCurtail a0_s))), (1, .c (.fn 22 1 (cellsG [.eptr 7 (cSCurtail a1f0) 0]))), (7, .c (.int .i64 (((a0_s).length : Int)))), (8, .c (.int .i64 t8_7))], []⟩ _
    cases n_13 with
    | zero => cases h
    | succ n_13 =>
      replace h : slices_IndexFunc_api_Curtail_api_Curtail_f1_22_b13 F a0_s a1f0 (fun t8_7 => slices_IndexFunc_api_Curtail_api_Curtail_f1_22_l13 F a0_s a1f0 n_13 t8_7) t8_7 = some r := h
      unfold slices_IndexFunc_api_Curtail_api_Curtail_f1_22_b13 at h
      refine SCode.seq ?_
      refine SCode.region (show SOps _ _ _ [0] _ _ from ?_)
      refine SOps.q rfl (.plain rfl) rfl (q_lss rfl rfl rfl) ?_
      refine SOps.sub (st' := ⟨[(0, .c (.vec a0_s.length 7 (gL cSCurtail dSCurtail a0_s))), (1, .c (.fn 22 1 (cellsG [.eptr 7 (cSCurtail a1f0) 0]))), (7, .c (.int .i64 (((a0_s).length : Int)))), (8, .c (.int .i64 t8_7)), (9, .c (.bool (decide (t8_7 < ((a0_s).length : Int)))))], []⟩) (sub_gen [] rfl rfl ⟨zc rfl rfl, zc rfl rfl, zc rfl rfl, zc rfl rfl, zc rfl rfl, trivial⟩ trivial) ?_
      refine SOps.nil ?_
      refine SCode.seq ?_
      rcases cond_out h with ⟨g14, h⟩ | ⟨g14, h⟩
      · refine SCode.cond_t rfl g14 ?_
        refine SCode.skip ?_
        refine SCode.seq ?_
        refine SCode.block ?_
        refine SCode.seq ?_
        refine SCode.region (show SOps _ _ _ [0, 1] _ _ from ?_)
        refine SOps.q rfl (.plain rfl) rfl (q_move rfl rfl) ?_
        refine SOps.q rfl (.plain rfl) rfl (q_assign rfl rfl) ?_
        refine SOps.sub (st' := ⟨[(0, .c (.vec a0_s.length 7 (gL cSCurtail dSCurtail a0_s))), (1, .c (.fn 22 1 (cellsG [.eptr 7 (cSCurtail a1f0) 0]))), (5, .c (.int .i64 t8_7)), (7, .c (.int .i64 (((a0_s).length : Int)))), (8, .c (.int .i64 t8_7))], []⟩) (sub_gen [] rfl rfl ⟨zc rfl rfl, zc rfl rfl, zc rfl rfl, zc rfl rfl, zc rfl rfl, trivial⟩ trivial) ?_
        refine SOps.nil ?_
        refine SCode.seq ?_
        obtain ⟨g15, h⟩ := guard_out h
        obtain ⟨c_16, g17, h⟩ := bind_out h
        try dsimp only at h
        refine SCode.region (show SOps _ _ _ [0, 1, 2, 3, 4, 5] _ _ from ?_)
        refine SOps.q rfl (.plain rfl) rfl (q_move rfl rfl) ?_
        refine SOps.q rfl (.plain rfl) rfl (q_move rfl rfl) ?_
        refine SOps.q rfl (.plain rfl) rfl (q_move rfl rfl) ?_
        refine SOps.q rfl (.plain rfl) rfl (q_index_vec rfl rfl rfl sl34 rfl g15.1 g15.2) ?_
        refine SOps.q rfl (.plain rfl) rfl (q_load_eptr_all rfl rfl rfl ty25) ?_
        refine SOps.q rfl (.plain rfl) rfl (q_callv (cs := [.eptr 7 (cSCurtail a1f0) 0]) (chargenetlaw13_CurtailCancel_1_ok F (a0_s.getD t8_7.toNat dSCurtail) a1f0 c_16 g17) [] rfl rfl fn22 ⟨⟨rfl, rfl⟩, ⟨_, rfl, .inl ⟨rfl, rfl⟩⟩, trivial⟩ (.inl rfl)) ?_
        refine SOps.sub (st' := ⟨[(0, .c (.vec a0_s.length 7 (gL cSCurtail dSCurtail a0_s))), (1, .c (.fn 22 1 (cellsG [.eptr 7 (cSCurtail a1f0) 0]))), (5, .c (.int .i64 t8_7)), (7, .c (.int .i64 (((a0_s).length : Int)))), (8, .c (.int .i64 t8_7)), (16, .c (.bool c_16))], []⟩) (sub_gen [] rfl rfl ⟨zc rfl rfl, zc rfl rfl, zc rfl rfl, zc rfl rfl, zc rfl rfl, zc rfl rfl, trivial⟩ trivial) ?_
        refine SOps.nil ?_
        rcases cond_out h with ⟨g18, h⟩ | ⟨g18, h⟩
        · refine SCode.cond_t rfl g18 ?_
          refine SCode.seq ?_
          refine SCode.region (show SOps _ _ _ [0, 1] _ _ from ?_)
          refine SOps.q rfl (.plain rfl) rfl (q_move rfl rfl) ?_
          refine SOps.q rfl (.plain rfl) rfl (q_assign rfl rfl) ?_
          refine SOps.sub (st' := ⟨[(4, .c (.int .i64 t8_7))], []⟩) (sub_gen [] rfl rfl ⟨zc rfl rfl, trivial⟩ trivial) ?_
          refine SOps.nil ?_
          refine SCode.ret ?_
          obtain rfl := Option.some.inj h
          exact ⟨⟨[(4, .c (.int .i64 t8_7))], []⟩, _, sub_gen [] rfl rfl ⟨zc rfl rfl, trivial⟩ trivial, resA1 (v := .c (.int .i64 t8_7)) rfl rfl, rfl⟩
        refine SCode.cond_f rfl g18 ?_
        refine SCode.skip ?_
        refine SCode.region (show SOps _ _ _ [0, 1] _ _ from ?_)
        refine SOps.q rfl (.plain rfl) rfl (q_add rfl rfl rfl) ?_
        refine SOps.q rfl (.plain rfl) rfl (q_move rfl rfl) ?_
        refine SOps.sub (st' := ⟨[(0, .c (.vec a0_s.length 7 (gL cSCurtail dSCurtail a0_s))), (1, .c (.fn 22 1 (cellsG [.eptr 7 (cSCurtail a1f0) 0]))), (7, .c (.int .i64 (((a0_s).length : Int)))), (8, .c (.int .i64 (IntKind.wrap .i64 (t8_7 + 1))))], []⟩) (sub_gen [] rfl rfl ⟨zc rfl rfl, zc rfl rfl, zc rfl rfl, zc rfl rfl, trivial⟩ trivial) ?_
        refine SOps.nil ?_
        exact ⟨(n_13, IntKind.wrap .i64 (t8_7 + 1)), h, Nat.lt_succ_self n_13, sub_gen [] rfl rfl ⟨zc rfl rfl, zc rfl rfl, zc rfl rfl, zc rfl rfl, trivial⟩ trivial⟩
      refine SCode.cond_f rfl g14 ?_
      refine SCode.exit ?_
      exact ⟨(), h, sub_gen [] rfl rfl trivial trivial⟩
  rintro ⟨⟩ h
  show SCode _ _ _ ⟨[], []⟩ _
  replace h : slices_IndexFunc_api_Curtail_api_Curtail_f1_22_p1 = some r := h
  unfold slices_IndexFunc_api_Curtail_api_Curtail_f1_22_p1 at h
  refine SCode.seq ?_
  refine SCode.region (show SOps _ _ _ [0] _ _ from ?_)
  refine SOps.q rfl (.plain rfl) rfl (q_assign rfl rfl) ?_
  refine SOps.sub (st' := ⟨[(4, .c (.int .i64 ((-1))))], []⟩) (sub_gen [] rfl rfl ⟨zc rfl rfl, trivial⟩ trivial) ?_
  refine SOps.nil ?_
  refine SCode.ret ?_
  obtain rfl := Option.some.inj h
  exact ⟨⟨[(4, .c (.int .i64 ((-1))))], []⟩, _, sub_gen [] rfl rfl ⟨zc rfl rfl, trivial⟩ trivial, resA1 (v := .c (.int .i64 ((-1)))) rfl rfl, rfl⟩
set_option maxRecDepth 100000 in
set_option maxHeartbeats 8000000 in
theorem slices_DeleteFunc_api_Curtail_api_Curtail_f1_22_ok (F : Nat) (a0_s : List SCurtail) (a1f0 : SCurtail) (r : List SCurtail) (h : slices_DeleteFunc_api_Curtail_api_Curtail_f1_22 F a0_s a1f0 = some r) :
    SFun Try.prog 21 [.arr 25 7 a0_s.length (gL cSCurtail dSCurtail a0_s)] [.c (.own 0 a0_s.length), .c (.fn 22 1 (cellsG [.eptr 7 (cSCurtail a1f0) 0]))] (fun x os => x = .c (.own 0 r.length) ∧ os = [.arr 25 7 r.length (gL cSCurtail dSCurtail r)]) := by
  refine SFun.of (n := 42) Try.func21 rfl rfl rfl ?_
  unfold slices_DeleteFunc_api_Curtail_api_Curtail_f1_22 at h
  show SCode _ _ _ ⟨[(0, .c (.own 0 a0_s.length)), (1, .c (.fn 22 1 (cellsG [.eptr 7 (cSCurtail a1f0) 0])))], [.arr 25 7 a0_s.length (gL cSCurtail dSCurtail a0_s)]⟩ _
  refine SCode.seq ?_
  refine SCode.region (show SOps _ _ _ [0] _ _ from ?_)
  refine SOps.q rfl (.plain rfl) rfl (q_assign rfl rfl) ?_
  refine SOps.sub (st' := ⟨[(0, .c (.own 0 a0_s.length)), (1, .c (.fn 22 1 (cellsG [.eptr 7 (cSCurtail a1f0) 0])))], [.arr 25 7 a0_s.length (gL cSCurtail dSCurtail a0_s)]⟩) (sub_gen [0] rfl rfl ⟨zc rfl rfl, zc rfl rfl, trivial⟩ ⟨oa rfl, trivial⟩) ?_
  refine SOps.nil ?_
  refine SCode.seq ?_
  obtain ⟨c_1, g2, h⟩ := bind_out h
  try dsimp only at h
  refine SCode.region (show SOps _ _ _ [0, 1, 2, 3] _ _ from ?_)
  refine SOps.q rfl (.plain rfl) rfl (q_move rfl rfl) ?_
  refine SOps.q rfl (.plain rfl) rfl (q_move rfl rfl) ?_
  refine SOps.q rfl (.plain rfl) rfl (q_call (slices_IndexFunc_api_Curtail_api_Curtail_f1_22_ok F a0_s a1f0 c_1 g2) [0] rfl fn31 ⟨⟨_, rfl, .inr (.inl ⟨_, _, _, _, _, _, _, rfl, rfl, rfl, Nat.le_refl _, fun _ _ _ _ => rfl, by decide⟩)⟩, ⟨_, rfl, .inl ⟨rfl, rfl⟩⟩, trivial⟩ (.inr rfl)) ?_
  refine SOps.q rfl (.plain rfl) rfl (q_assign rfl rfl) ?_
  refine SOps.sub (st' := ⟨[(0, .c (.own 0 a0_s.length)), (1, .c (.fn 22 1 (cellsG [.eptr 7 (cSCurtail a1f0) 0]))), (5, .c (.int .i64 c_1))], [.arr 25 7 a0_s.length (gL cSCurtail dSCurtail a0_s)]⟩) (sub_gen [0] rfl rfl ⟨zc rfl rfl, zc rfl rfl, zc rfl rfl, trivial⟩ ⟨oa rfl, trivial⟩) ?_
  refine SOps.nil ?_
  refine SCode.seq ?_
  refine SCode.seq ?_
  refine SCode.region (show SOps _ _ _ [0, 1] _ _ from ?_)
  refine SOps.q rfl (.plain rfl) rfl (q_move rfl rfl) ?_
  refine SOps.q rfl (.plain rfl) rfl (q_eql rfl rfl rfl) ?_
  refine SOps.sub (st' := ⟨[(0, .c (.own 0 a0_s.length)), (1, .c (.fn 22 1 (cellsG [.eptr 7 (cSCurtail a1f0) 0]))), (5, .c (.int .i64 c_1)), (12, .c (.bool (decide (c_1 = (-1)))))], [.arr 25 7 a0_s.length (gL cSCurtail dSCurtail a0_s)]⟩) (sub_gen [0] rfl rfl ⟨zc rfl rfl, zc rfl rfl, zc rfl rfl, zc rfl rfl, trivial⟩ ⟨oa rfl, trivial⟩) ?_
  refine SOps.nil ?_
  rcases cond_out h with ⟨g3, h⟩ | ⟨g3, h⟩
  · refine SCode.cond_t rfl g3 ?_
    refine SCode.seq ?_
    refine SCode.region (show SOps _ _ _ [0, 1] _ _ from ?_)
    refine SOps.q rfl (.plain rfl) rfl (q_move rfl rfl) ?_
    refine SOps.q rfl (.plain rfl) rfl (q_assign rfl rfl) ?_
    refine SOps.sub (st' := ⟨[(4, .c (.own 0 a0_s.length))], [.arr 25 7 a0_s.length (gL cSCurtail dSCurtail a0_s)]⟩) (sub_gen [0] rfl rfl ⟨zc rfl rfl, trivial⟩ ⟨oa rfl, trivial⟩) ?_
    refine SOps.nil ?_
    refine SCode.ret ?_
    obtain rfl := Option.some.inj h
    exact ⟨⟨[(4, .c (.own 0 a0_s.length))], [.arr 25 7 a0_s.length (gL cSCurtail dSCurtail a0_s)]⟩, _, sub_gen [0] rfl rfl ⟨zc rfl rfl, trivial⟩ ⟨oa rfl, trivial⟩, resA1 (v := .c (.own 0 a0_s.length)) rfl rfl, ⟨rfl, rfl⟩⟩
  refine SCode.cond_f rfl g3 ?_
  refine SCode.skip ?_
  refine SCode.join (σ := Int × (List SCurtail)) (S := fun s => ⟨[(0, .c (.own 0 s.2.length)), (5, .c (.int .i64 s.1))], [.arr 25 7 s.2.length (gL cSCurtail dSCurtail s.2)]⟩) (g := fun s => slices_DeleteFunc_api_Curtail_api_Curtail_f1_22_p9 s.1 s.2 = some r) ?_ ?_
  rotate_left
  · refine SCode.seq ?_
    refine SCode.region (show SOps _ _ _ [0, 1, 2] _ _ from ?_)
    refine SOps.q rfl (.plain rfl) rfl (q_move rfl rfl) ?_
    refine SOps.q rfl (.plain rfl) rfl (q_add rfl rfl rfl) ?_
    refine SOps.q rfl (.plain rfl) rfl (q_assign rfl rfl) ?_
    refine SOps.sub (st' := ⟨[(0, .c (.own 0 a0_s.length)), (1, .c (.fn 22 1 (cellsG [.eptr 7 (cSCurtail a1f0) 0]))), (5, .c (.int .i64 c_1)), (6, .c (.int .i64 (IntKind.wrap .i64 (c_1 + 1))))], [.arr 25 7 a0_s.length (gL cSCurtail dSCurtail a0_s)]⟩) (sub_gen [0] rfl rfl ⟨zc rfl rfl, zc rfl rfl, zc rfl rfl, zc rfl rfl, trivial⟩ ⟨oa rfl, trivial⟩) ?_
    refine SOps.nil ?_
    refine SCode.block ?_
    refine SCode.sub (st' := ⟨[(0, .c (.own 0 a0_s.length)), (1, .c (.fn 22 1 (cellsG [.eptr 7 (cSCurtail a1f0) 0]))), (5, .c (.int .i64 c_1)), (6, .c (.int .i64 (IntKind.wrap .i64 (c_1 + 1))))], [.arr 25 7 a0_s.length (gL cSCurtail dSCurtail a0_s)]⟩) (sub_gen [0] rfl rfl ⟨zc rfl rfl, zc rfl rfl, zc rfl rfl, zc rfl rfl, trivial⟩ ⟨oa rfl, trivial⟩) ?_
    refine (SCode.loop (σ := Nat × (Int × Int × (List SCurtail))) (S := fun s => ⟨[(0, .c (.own 0 s.2.2.2.length)), (1, .c (.fn 22 1 (cellsG [.eptr 7 (cSCurtail a1f0) 0]))), (5, .c (.int .i64 s.2.1)), (6, .c (.int .i64 s.2.2.1))], [.arr 25 7 s.2.2.2.length (gL cSCurtail dSCurtail s.2.2.2)]⟩) (g := fun s => slices_DeleteFunc_api_Curtail_api_Curtail_f1_22_l31 F a1f0 s.1 s.2.1 s.2.2.1 s.2.2.2 = some r) (μ := fun s => s.1) (F, (c_1, IntKind.wrap .i64 (c_1 + 1), a0_s)) h ?_)
    rintro ⟨n_31, ⟨i_19, j_20, o0_21⟩⟩ h
    replace h : slices_DeleteFunc_api_Curtail_api_Curtail_f1_22_l31 F a1f0 n_31 i_19 j_20 o0_21 = some r := h
    show SCode _ _ _ ⟨[(0, .c (.own 0 o0_21.length)), (1, .c (.fn 22 1 (cellsG [.eptr 7 (cSCurtail a1f0) 0]))), (5, .c (.int .i64 i_19)), (6, .c (.int .i64 j_20))], [.arr 25 7 o0_21.length (gL cSCurtail dSCurtail o0_21)]⟩ _
    cases n_31 with
    | zero => cases h
    | succ n_31 =>
      replace h : slices_DeleteFunc_api_Curtail_api_Curtail_f1_22_b31 F a1f0 (fun i_19 j_20 o0_21 => slices_DeleteFunc_api_Curtail_api_Curtail_f1_22_l31 F a1f0 n_31 i_19 j_20 o0_21) i_19 j_20 o0_21 = some r := h
      unfold slices_DeleteFunc_api_Curtail_api_Curtail_f1_22_b31 at h
      refine SCode.seq ?_
      refine SCode.seq ?_
      refine SCode.region (show SOps _ _ _ [0, 1, 2, 3] _ _ from ?_)
      refine SOps.q rfl (.plain rfl) rfl (q_move rfl rfl) ?_
      refine SOps.q rfl (.plain rfl) rfl (q_move rfl rfl) ?_
      refine SOps.q rfl (.plain rfl) rfl (q_len_own rfl rfl sl34) ?_
      refine SOps.q rfl (.plain rfl) rfl (q_lss rfl rfl rfl) ?_
      refine SOps.sub (st' := ⟨[(0, .c (.own 0 o0_21.length)), (1, .c (.fn 22 1 (cellsG [.eptr 7 (cSCurtail a1f0) 0]))), (5, .c (.int .i64 i_19)), (6, .c (.int .i64 j_20)), (19, .c (.bool (decide (j_20 < ((o0_21).length : Int)))))], [.arr 25 7 o0_21.length (gL cSCurtail dSCurtail o0_21)]⟩) (sub_gen [0] rfl rfl ⟨zc rfl rfl, zc rfl rfl, zc rfl rfl, zc rfl rfl, zc rfl rfl, trivial⟩ ⟨oa rfl, trivial⟩) ?_
      refine SOps.nil ?_
      rcases cond_out h with ⟨g32, h⟩ | ⟨g32, h⟩
      · refine SCode.cond_t rfl g32 ?_
        refine SCode.skip ?_
        refine SCode.join (σ := Int × (List SCurtail)) (S := fun s => ⟨[(0, .c (.own 0 s.2.length)), (1, .c (.fn 22 1 (cellsG [.eptr 7 (cSCurtail a1f0) 0]))), (5, .c (.int .i64 s.1)), (6, .c (.int .i64 j_20))], [.arr 25 7 s.2.length (gL cSCurtail dSCurtail s.2)]⟩) (g := fun s => slices_DeleteFunc_api_Curtail_api_Curtail_f1_22_p35 j_20 (fun i_19 j_20 o0_21 => slices_DeleteFunc_api_Curtail_api_Curtail_f1_22_l31 F a1f0 n_31 i_19 j_20 o0_21) s.1 s.2 = some r) ?_ ?_
        rotate_left
        · refine SCode.block ?_
          refine SCode.seq ?_
          obtain ⟨g36, h⟩ := guard_out h
          refine SCode.region (show SOps _ _ _ [0, 1, 2, 3, 4, 5] _ _ from ?_)
          refine SOps.q rfl (.plain rfl) rfl (q_move rfl rfl) ?_
          refine SOps.q rfl (.plain rfl) rfl (q_move rfl rfl) ?_
          refine SOps.q rfl (.plain rfl) rfl (q_index_own rfl rfl rfl sl34 g36.1 g36.2) ?_
          refine SOps.q rfl (.plain rfl) rfl (q_load_aptr_all rfl rfl rfl (toNat_lt g36) rfl ty25) ?_
          refine SOps.e rfl (.plain rfl) (e_alloc rfl rfl rfl z25) ?_
          refine SOps.e rfl (.plain rfl) (e_store_box rfl rfl rfl rfl rfl ty25 rfl rfl rfl rfl) ?_
          refine SOps.sub (st' := ⟨[(0, .c (.own 0 o0_21.length)), (1, .c (.fn 22 1 (cellsG [.eptr 7 (cSCurtail a1f0) 0]))), (5, .c (.int .i64 i_19)), (6, .c (.int .i64 j_20)), (7, .c (.ptr 1 0))], [.arr 25 7 o0_21.length (gL cSCurtail dSCurtail o0_21), .box [.str ((o0_21.getD j_20.toNat dSCurtail).Name), .int .i64 ((o0_21.getD j_20.toNat dSCurtail).Version), .int .i64 ((o0_21.getD j_20.toNat dSCurtail).Feeder), .int .i64 ((o0_21.getD j_20.toNat dSCurtail).Span_From), .int .i64 ((o0_21.getD j_20.toNat dSCurtail).Span_To), .int .i64 ((o0_21.getD j_20.toNat dSCurtail).Total), .bool ((o0_21.getD j_20.toNat dSCurtail).Cancelled)]]⟩) (sub_gen [0, 1] rfl rfl ⟨zc rfl rfl, zc rfl rfl, zc rfl rfl, zc rfl rfl, zc rfl rfl, trivial⟩ ⟨oa rfl, ⟨_, rfl, ⟨ii rfl rfl, ii rfl rfl, ii rfl rfl, ii rfl rfl, ii rfl rfl, ii rfl rfl, ii rfl rfl, trivial⟩⟩, trivial⟩) ?_
          refine SOps.nil ?_
          refine SCode.seq ?_
          obtain ⟨c_37, g38, h⟩ := bind_out h
          try dsimp only at h
          refine SCode.region (show SOps _ _ _ [0, 1, 2, 3] _ _ from ?_)
          refine SOps.q rfl (.plain rfl) rfl (q_move rfl rfl) ?_
          refine SOps.q rfl (.plain rfl) rfl (q_load_ptr_all rfl rfl rfl rfl rfl ty25) ?_
          refine SOps.q rfl (.plain rfl) rfl (q_callv (cs := [.eptr 7 (cSCurtail a1f0) 0]) (chargenetlaw13_CurtailCancel_1_ok F (o0_21.getD j_20.toNat dSCurtail) a1f0 c_37 g38) [] rfl rfl fn22 ⟨⟨rfl, rfl⟩, ⟨_, rfl, .inl ⟨rfl, rfl⟩⟩, trivial⟩ (.inl rfl)) ?_
          refine SOps.q rfl (.plain rfl) rfl (q_not rfl rfl) ?_
          refine SOps.sub (st' := ⟨[(0, .c (.own 0 o0_21.length)), (1, .c (.fn 22 1 (cellsG [.eptr 7 (cSCurtail a1f0) 0]))), (5, .c (.int .i64 i_19)), (6, .c (.int .i64 j_20)), (7, .c (.ptr 1 0)), (29, .c (.bool ((!c_37))))], [.arr 25 7 o0_21.length (gL cSCurtail dSCurtail o0_21), .box [.str ((o0_21.getD j_20.toNat dSCurtail).Name), .int .i64 ((o0_21.getD j_20.toNat dSCurtail).Version), .int .i64 ((o0_21.getD j_20.toNat dSCurtail).Feeder), .int .i64 ((o0_21.getD j_20.toNat dSCurtail).Span_From), .int .i64 ((o0_21.getD j_20.toNat dSCurtail).Span_To), .int .i64 ((o0_21.getD j_20.toNat dSCurtail).Total), .bool ((o0_21.getD j_20.toNat dSCurtail).Cancelled)]]⟩) (sub_gen [0, 1] rfl rfl ⟨zc rfl rfl, zc rfl rfl, zc rfl rfl, zc rfl rfl, zc rfl rfl, zc rfl rfl, trivial⟩ ⟨oa rfl, ⟨_, rfl, ⟨ii rfl rfl, ii rfl rfl, ii rfl rfl, ii rfl rfl, ii rfl rfl, ii rfl rfl, ii rfl rfl, trivial⟩⟩, trivial⟩) ?_
          refine SOps.nil ?_
          rcases cond_out h with ⟨g39, h⟩ | ⟨g39, h⟩
          · refine SCode.cond_t rfl g39 ?_
            refine SCode.seq ?_
            obtain ⟨g40, h⟩ := guard_out h
            refine SCode.region (show SOps _ _ _ [0, 1, 2, 3, 4] _ _ from ?_)
            refine SOps.q rfl (.plain rfl) rfl (q_move rfl rfl) ?_
            refine SOps.q rfl (.plain rfl) rfl (q_move rfl rfl) ?_
            refine SOps.q rfl (.plain rfl) rfl (q_load_ptr_all rfl rfl rfl rfl rfl ty25) ?_
            refine SOps.q rfl (.plain rfl) rfl (q_index_own rfl rfl rfl sl34 g40.1 g40.2) ?_
            refine SOps.e rfl (.plain rfl) (e_storeL (o0_21.getD j_20.toNat dSCurtail) rfl rfl rfl rfl rfl (toNat_lt g40) ty25 rfl rfl rfl rfl rfl rfl) ?_
            refine SOps.sub (st' := ⟨[(0, .c (.own 0 (o0_21.set i_19.toNat (o0_21.getD j_20.toNat dSCurtail)).length)), (1, .c (.fn 22 1 (cellsG [.eptr 7 (cSCurtail a1f0) 0]))), (5, .c (.int .i64 i_19)), (6, .c (.int .i64 j_20))], [.arr 25 7 (o0_21.set i_19.toNat (o0_21.getD j_20.toNat dSCurtail)).length (gL cSCurtail dSCurtail (o0_21.set i_19.toNat (o0_21.getD j_20.toNat dSCurtail)))]⟩) (sub_gen [0] rfl rfl ⟨⟨_, rfl, .inl ⟨rfl, congrArg (Cell.own 0) (List.length_set : (o0_21.set i_19.toNat (o0_21.getD j_20.toNat dSCurtail)).length = o0_21.length).symm⟩⟩, zc rfl rfl, zc rfl rfl, zc rfl rfl, trivial⟩ ⟨oa rfl, trivial⟩) ?_
            refine SOps.nil ?_
            refine SCode.region (show SOps _ _ _ [0, 1, 2] _ _ from ?_)
            refine SOps.q rfl (.plain rfl) rfl (q_move rfl rfl) ?_
            refine SOps.q rfl (.plain rfl) rfl (q_add rfl rfl rfl) ?_
            refine SOps.q rfl (.plain rfl) rfl (q_assign rfl rfl) ?_
            refine SOps.sub (st' := ⟨[(0, .c (.own 0 (o0_21.set i_19.toNat (o0_21.getD j_20.toNat dSCurtail)).length)), (1, .c (.fn 22 1 (cellsG [.eptr 7 (cSCurtail a1f0) 0]))), (5, .c (.int .i64 (IntKind.wrap .i64 (i_19 + 1)))), (6, .c (.int .i64 j_20))], [.arr 25 7 (o0_21.set i_19.toNat (o0_21.getD j_20.toNat dSCurtail)).length (gL cSCurtail dSCurtail (o0_21.set i_19.toNat (o0_21.getD j_20.toNat dSCurtail)))]⟩) (sub_gen [0] rfl rfl ⟨zc rfl rfl, zc rfl rfl, zc rfl rfl, zc rfl rfl, trivial⟩ ⟨oa rfl, trivial⟩) ?_
            refine SOps.nil ?_
            exact ⟨(IntKind.wrap .i64 (i_19 + 1), o0_21.set i_19.toNat (o0_21.getD j_20.toNat dSCurtail)), h, sub_gen [0] rfl rfl ⟨zc rfl rfl, zc rfl rfl, zc rfl rfl, zc rfl rfl, trivial⟩ ⟨oa rfl, trivial⟩⟩
          refine SCode.cond_f rfl g39 ?_
          refine SCode.skip ?_
          exact ⟨(i_19, o0_21), h, sub_gen [0] rfl rfl ⟨zc rfl rfl, zc rfl rfl, zc rfl rfl, zc rfl rfl, trivial⟩ ⟨oa rfl, trivial⟩⟩
        rintro ⟨i_33, o0_34⟩ h
        show SCode _ _ _ ⟨[(0, .c (.own 0 o0_34.length)), (1, .c (.fn 22 1 (cellsG [.eptr 7 (cSCurtail a1f0) 0]))), (5, .c (.int .i64 i_33)), (6, .c (.int .i64 j_20))], [.arr 25 7 o0_34.length (gL cSCurtail dSCurtail o0_34)]⟩ _
        replace h : slices_DeleteFunc_api_Curtail_api_Curtail_f1_22_p35 j_20 (fun i_19 j_20 o0_21 => slices_DeleteFunc_api_Curtail_api_Curtail_f1_22_l31 F a1f0 n_31 i_19 j_20 o0_21) i_33 o0_34 = some r := h
        unfold slices_DeleteFunc_api_Curtail_api_Curtail_f1_22_p35 at h
        refine SCode.region (show SOps _ _ _ [0, 1, 2] _ _ from ?_)
        refine SOps.q rfl (.plain rfl) rfl (q_move rfl rfl) ?_
        refine SOps.q rfl (.plain rfl) rfl (q_add rfl rfl rfl) ?_
        refine SOps.q rfl (.plain rfl) rfl (q_assign rfl rfl) ?_
        refine SOps.sub (st' := ⟨[(0, .c (.own 0 o0_34.length)), (1, .c (.fn 22 1 (cellsG [.eptr 7 (cSCurtail a1f0) 0]))), (5, .c (.int .i64 i_33)), (6, .c (.int .i64 (IntKind.wrap .i64 (j_20 + 1))))], [.arr 25 7 o0_34.length (gL cSCurtail dSCurtail o0_34)]⟩) (sub_gen [0] rfl rfl ⟨zc rfl rfl, zc rfl rfl, zc rfl rfl, zc rfl rfl, trivial⟩ ⟨oa rfl, trivial⟩) ?_
        refine SOps.nil ?_
        exact ⟨(n_31, (i_33, IntKind.wrap .i64 (j_20 + 1), o0_34)), h, Nat.lt_succ_self n_31, sub_gen [0] rfl rfl ⟨zc rfl rfl, zc rfl rfl, zc rfl rfl, zc rfl rfl, trivial⟩ ⟨oa rfl, trivial⟩⟩
      refine SCode.cond_f rfl g32 ?_
      refine SCode.exit ?_
      exact ⟨(i_19, o0_21), h, sub_gen [0] rfl rfl ⟨zc rfl rfl, zc rfl rfl, trivial⟩ ⟨oa rfl, trivial⟩⟩
  rintro ⟨i_4, o0_5⟩ h
  show SCode _ _ _ ⟨[(0, .c (.own 0 o0_5.length)), (5, .c (.int .i64 i_4))], [.arr 25 7 o0_5.length (gL cSCurtail dSCurtail o0_5)]⟩ _
  replace h : slices_DeleteFunc_api_Curtail_api_Curtail_f1_22_p9 i_4 o0_5 = some r := h
  unfold slices_DeleteFunc_api_Curtail_api_Curtail_f1_22_p9 at h
  refine SCode.seq ?_
  obtain ⟨g6, h⟩ := guard_out h
  obtain ⟨g7, h⟩ := guard_out h
  refine SCode.region (show SOps _ _ _ [0, 1, 2, 3] _ _ from ?_)
  refine SOps.q rfl (.plain rfl) rfl (q_move rfl rfl) ?_
  refine SOps.q rfl (.plain rfl) rfl (q_move rfl rfl) ?_
  refine SOps.q rfl (.plain rfl) rfl (q_own_l rfl rfl rfl rfl sl34 g6.1 g6.2) ?_
  refine SOps.e rfl (.plain rfl) (e_clearL (c := cSCurtail) (d0 := dSCurtail) (l := o0_5) (lo := (i_4 : Int).toNat) (n := (o0_5).length - (i_4 : Int).toNat) rfl rfl rfl (.inl rfl) rfl sl34 z25 rfl rfl rfl oneSCurtail g7) ?_
  refine SOps.sub (st' := ⟨[(0, .c (.own 0 (copyL o0_5 ((i_4 : Int).toNat) ((o0_5).length - (i_4 : Int).toNat) (List.replicate ((o0_5).length - (i_4 : Int).toNat) dSCurtail)).length)), (5, .c (.int .i64 i_4))], [.arr 25 7 (copyL o0_5 ((i_4 : Int).toNat) ((o0_5).length - (i_4 : Int).toNat) (List.replicate ((o0_5).length - (i_4 : Int).toNat) dSCurtail)).length (gL cSCurtail dSCurtail (copyL o0_5 ((i_4 : Int).toNat) ((o0_5).length - (i_4 : Int).toNat) (List.replicate ((o0_5).length - (i_4 : Int).toNat) dSCurtail)))]⟩) (sub_gen [0] rfl rfl ⟨⟨_, rfl, .inl ⟨rfl, congrArg (Cell.own 0) (copyL_len (l := o0_5) (s := List.replicate ((o0_5).length - (i_4 : Int).toNat) dSCurtail) (lo := (i_4 : Int).toNat) (n := (o0_5).length - (i_4 : Int).toNat) g7).symm⟩⟩, zc rfl rfl, trivial⟩ ⟨oa rfl, trivial⟩) ?_
  refine SOps.nil ?_
  refine SCode.seq ?_
  obtain ⟨g8, h⟩ := guard_out h
  refine SCode.region (show SOps _ _ _ [0, 1, 2, 3] _ _ from ?_)
  refine SOps.q rfl (.plain rfl) rfl (q_move rfl rfl) ?_
  refine SOps.q rfl (.plain rfl) rfl (q_move rfl rfl) ?_
  refine SOps.q rfl (.plain rfl) rfl (q_own_h rfl rfl rfl rfl sl34 g8.1 g8.2) ?_
  refine SOps.sub (st' := ⟨[(5, .c (.int .i64 i_4)), (40, .c (.int .i64 i_4)), (41, .c (.own 0 ((copyL o0_5 ((i_4 : Int).toNat) ((o0_5).length - (i_4 : Int).toNat) (List.replicate ((o0_5).length - (i_4 : Int).toNat) dSCurtail)).take (i_4 : Int).toNat).length))], [.arr 25 7 ((copyL o0_5 ((i_4 : Int).toNat) ((o0_5).length - (i_4 : Int).toNat) (List.replicate ((o0_5).length - (i_4 : Int).toNat) dSCurtail)).take (i_4 : Int).toNat).length (gL cSCurtail dSCurtail ((copyL o0_5 ((i_4 : Int).toNat) ((o0_5).length - (i_4 : Int).toNat) (List.replicate ((o0_5).length - (i_4 : Int).toNat) dSCurtail)).take (i_4 : Int).toNat))]⟩) (sub_gen [0] rfl rfl ⟨zc rfl rfl, zc rfl rfl, ⟨_, rfl, .inl ⟨rfl, congrArg (Cell.own 0) (take_len (copyL o0_5 ((i_4 : Int).toNat) ((o0_5).length - (i_4 : Int).toNat) (List.replicate ((o0_5).length - (i_4 : Int).toNat) dSCurtail)) g8.1 g8.2)⟩⟩, trivial⟩ ⟨(take_osub (copyL o0_5 ((i_4 : Int).toNat) ((o0_5).length - (i_4 : Int).toNat) (List.replicate ((o0_5).length - (i_4 : Int).toNat) dSCurtail)) rfl g8.1 g8.2), trivial⟩) ?_
  refine SOps.q rfl (.plain rfl) rfl (q_assign rfl rfl) ?_
  refine SOps.sub (st' := ⟨[(4, .c (.own 0 ((copyL o0_5 ((i_4 : Int).toNat) ((o0_5).length - (i_4 : Int).toNat) (List.replicate ((o0_5).length - (i_4 : Int).toNat) dSCurtail)).take (i_4 : Int).toNat).length))], [.arr 25 7 ((copyL o0_5 ((i_4 : Int).toNat) ((o0_5).length - (i_4 : Int).toNat) (List.replicate ((o0_5).length - (i_4 : Int).toNat) dSCurtail)).take (i_4 : Int).toNat).length (gL cSCurtail dSCurtail ((copyL o0_5 ((i_4 : Int).toNat) ((o0_5).length - (i_4 : Int).toNat) (List.replicate ((o0_5).length - (i_4 : Int).toNat) dSCurtail)).take (i_4 : Int).toNat))]⟩) (sub_gen [0] rfl rfl ⟨zc rfl rfl, trivial⟩ ⟨oa rfl, trivial⟩) ?_
  refine SOps.nil ?_
  refine SCode.ret ?_
  obtain rfl := Option.some.inj h
  exact ⟨⟨[(4, .c (.own 0 ((copyL o0_5 ((i_4 : Int).toNat) ((o0_5).length - (i_4 : Int).toNat) (List.replicate ((o0_5).length - (i_4 : Int).toNat) dSCurtail)).take (i_4 : Int).toNat).length))], [.arr 25 7 ((copyL o0_5 ((i_4 : Int).toNat) ((o0_5).length - (i_4 : Int).toNat) (List.replicate ((o0_5).length - (i_4 : Int).toNat) dSCurtail)).take (i_4 : Int).toNat).length (gL cSCurtail dSCurtail ((copyL o0_5 ((i_4 : Int).toNat) ((o0_5).length - (i_4 : Int).toNat) (List.replicate ((o0_5).length - (i_4 : Int).toNat) dSCurtail)).take (i_4 : Int).toNat))]⟩, _, sub_gen [0] rfl rfl ⟨zc rfl rfl, trivial⟩ ⟨oa rfl, trivial⟩, resA1 (v := .c (.own 0 ((copyL o0_5 ((i_4 : Int).toNat) ((o0_5).length - (i_4 : Int).toNat) (List.replicate ((o0_5).length - (i_4 : Int).toNat) dSCurtail)).take (i_4 : Int).toNat).length)) rfl rfl, ⟨rfl, rfl⟩⟩
set_option maxRecDepth 100000 in
set_option maxHeartbeats 8000000 in
theorem chargenetlaw13_CurtailCancel_ok (F : Nat) (a0_l : List SCurtail) (a1_c : SCurtail) (a2_feeder : Int) (a3_t : Int) (r : Bool) (h : chargenetlaw13_CurtailCancel F a0_l a1_c a2_feeder a3_t = some r) :
    SFun Try.prog 8 [] [.c (.vec a0_l.length 7 (gL cSCurtail dSCurtail a0_l)), .a [.str a1_c.Name, .int .i64 a1_c.Version, .int .i64 a1_c.Feeder, .int .i64 a1_c.Span_From, .int .i64 a1_c.Span_To, .int .i64 a1_c.Total, .bool a1_c.Cancelled], .c (.int .i64 a2_feeder), .c (.int .i64 a3_t)] (fun x _ => x = .c (.bool r)) := by
  refine SFun.of (n := 65) Try.func8 rfl rfl rfl ?_
  unfold chargenetlaw13_CurtailCancel at h
  show SCode _ _ _ ⟨[(0, .c (.vec a0_l.length 7 (gL cSCurtail dSCurtail a0_l))), (1, .a [.str a1_c.Name, .int .i64 a1_c.Version, .int .i64 a1_c.Feeder, .int .i64 a1_c.Span_From, .int .i64 a1_c.Span_To, .int .i64 a1_c.Total, .bool a1_c.Cancelled]), (2, .c (.int .i64 a2_feeder)), (3, .c (.int .i64 a3_t))], []⟩ _
  refine SCode.seq ?_
  refine SCode.region (show SOps _ _ _ [0, 1] _ _ from ?_)
  refine SOps.e rfl (.plain rfl) (e_box rfl rfl rfl rfl rfl rfl) ?_
  refine SOps.q rfl (.plain rfl) rfl (q_assign rfl rfl) ?_
  refine SOps.sub (st' := ⟨[(0, .c (.vec a0_l.length 7 (gL cSCurtail dSCurtail a0_l))), (2, .c (.int .i64 a2_feeder)), (3, .c (.int .i64 a3_t)), (5, .c (.ptr 0 0))], [.box [.str a1_c.Name, .int .i64 a1_c.Version, .int .i64 a1_c.Feeder, .int .i64 a1_c.Span_From, .int .i64 a1_c.Span_To, .int .i64 a1_c.Total, .bool a1_c.Cancelled]]⟩) (sub_gen [0] rfl rfl ⟨zc rfl rfl, zc rfl rfl, zc rfl rfl, zc rfl rfl, trivial⟩ ⟨⟨_, rfl, ⟨ii rfl rfl, ii rfl rfl, ii rfl rfl, ii rfl rfl, ii rfl rfl, ii rfl rfl, ii rfl rfl, trivial⟩⟩, trivial⟩) ?_
  refine SOps.nil ?_
  refine SCode.seq ?_
  refine SCode.seq ?_
  refine SCode.region (show SOps _ _ _ [0, 1, 2] _ _ from ?_)
  refine SOps.q rfl (.plain rfl) rfl (q_move rfl rfl) ?_
  refine SOps.q rfl (.plain rfl) rfl (q_len_vec rfl rfl sl34) ?_
  refine SOps.q rfl (.plain rfl) rfl (q_gtr rfl rfl rfl) ?_
  refine SOps.sub (st' := ⟨[(0, .c (.vec a0_l.length 7 (gL cSCurtail dSCurtail a0_l))), (2, .c (.int .i64 a2_feeder)), (3, .c (.int .i64 a3_t)), (5, .c (.ptr 0 0)), (16, .c (.bool (decide (100 < ((a0_l).length : Int)))))], [.box [.str a1_c.Name, .int .i64 a1_c.Version, .int .i64 a1_c.Feeder, .int .i64 a1_c.Span_From, .int .i64 a1_c.Span_To, .int .i64 a1_c.Total, .bool a1_c.Cancelled]]⟩) (sub_gen [0] rfl rfl ⟨zc rfl rfl, zc rfl rfl, zc rfl rfl, zc rfl rfl, zc rfl rfl, trivial⟩ ⟨⟨_, rfl, ⟨ii rfl rfl, ii rfl rfl, ii rfl rfl, ii rfl rfl, ii rfl rfl, ii rfl rfl, ii rfl rfl, trivial⟩⟩, trivial⟩) ?_
  refine SOps.nil ?_
  rcases cond_out h with ⟨g1, h⟩ | ⟨g1, h⟩
  · refine SCode.cond_t rfl g1 ?_
    refine SCode.seq ?_
    obtain ⟨c_2, g3, h⟩ := bind_out h
    try dsimp only at h
    refine SCode.region (show SOps _ _ _ [0, 1] _ _ from ?_)
    refine SOps.q rfl (.plain rfl) rfl (q_call (chargenetlaw13_exampleHolds_ok F  c_2 g3) [] rfl fn9 trivial (.inl rfl)) ?_
    refine SOps.q rfl (.plain rfl) rfl (q_assign rfl rfl) ?_
    refine SOps.sub (st' := ⟨[(8, .c (.bool c_2))], []⟩) (sub_gen [] rfl rfl ⟨zc rfl rfl, trivial⟩ trivial) ?_
    refine SOps.nil ?_
    refine SCode.ret ?_
    obtain rfl := Option.some.inj h
    exact ⟨⟨[(8, .c (.bool c_2))], []⟩, _, sub_gen [] rfl rfl ⟨zc rfl rfl, trivial⟩ trivial, resA1 (v := .c (.bool c_2)) rfl rfl, rfl⟩
  refine SCode.cond_f rfl g1 ?_
  refine SCode.skip ?_
  refine SCode.seq ?_
  obtain ⟨c_4, g5, h⟩ := bind_out h
  try dsimp only at h
  refine SCode.region (show SOps _ _ _ [0, 1, 2, 3, 4, 5, 6] _ _ from ?_)
  refine SOps.q rfl (.plain rfl) rfl (q_move rfl rfl) ?_
  refine SOps.q rfl (.plain rfl) rfl (q_call (chargenetlaw13_build_ok F a0_l c_4 g5) [] rfl fn15 ⟨⟨_, rfl, .inl ⟨rfl, rfl⟩⟩, trivial⟩ (.inl rfl)) ?_
  refine SOps.q rfl (.plain rfl) rfl (q_move rfl rfl) ?_
  refine SOps.q rfl (.plain rfl) rfl (q_extract rfl rfl rfl) ?_
  refine SOps.q rfl (.plain rfl) rfl (q_extract rfl rfl rfl) ?_
  refine SOps.q rfl (.plain rfl) rfl (q_assign rfl rfl) ?_
  refine SOps.q rfl (.plain rfl) rfl (q_assign rfl rfl) ?_
  refine SOps.sub (st' := ⟨[(2, .c (.int .i64 a2_feeder)), (3, .c (.int .i64 a3_t)), (5, .c (.ptr 0 0)), (9, .c (.vec c_4.1.length 7 (gL cSCurtail dSCurtail c_4.1))), (10, .c (.bool c_4.2))], [.box [.str a1_c.Name, .int .i64 a1_c.Version, .int .i64 a1_c.Feeder, .int .i64 a1_c.Span_From, .int .i64 a1_c.Span_To, .int .i64 a1_c.Total, .bool a1_c.Cancelled]]⟩) (sub_gen [0] rfl rfl ⟨zc rfl rfl, zc rfl rfl, zc rfl rfl, zc rfl rfl, zc rfl rfl, trivial⟩ ⟨⟨_, rfl, ⟨ii rfl rfl, ii rfl rfl, ii rfl rfl, ii rfl rfl, ii rfl rfl, ii rfl rfl, ii rfl rfl, trivial⟩⟩, trivial⟩) ?_
  refine SOps.nil ?_
  refine SCode.seq ?_
  refine SCode.seq ?_
  refine SCode.region (show SOps _ _ _ [0, 1] _ _ from ?_)
  refine SOps.q rfl (.plain rfl) rfl (q_move rfl rfl) ?_
  refine SOps.q rfl (.plain rfl) rfl (q_not rfl rfl) ?_
  refine SOps.sub (st' := ⟨[(2, .c (.int .i64 a2_feeder)), (3, .c (.int .i64 a3_t)), (5, .c (.ptr 0 0)), (9, .c (.vec c_4.1.length 7 (gL cSCurtail dSCurtail c_4.1))), (24, .c (.bool ((!c_4.2))))], [.box [.str a1_c.Name, .int .i64 a1_c.Version, .int .i64 a1_c.Feeder, .int .i64 a1_c.Span_From, .int .i64 a1_c.Span_To, .int .i64 a1_c.Total, .bool a1_c.Cancelled]]⟩) (sub_gen [0] rfl rfl ⟨zc rfl rfl, zc rfl rfl, zc rfl rfl, zc rfl rfl, zc rfl rfl, trivial⟩ ⟨⟨_, rfl, ⟨ii rfl rfl, ii rfl rfl, ii rfl rfl, ii rfl rfl, ii rfl rfl, ii rfl rfl, ii rfl rfl, trivial⟩⟩, trivial⟩) ?_
  refine SOps.nil ?_
  rcases cond_out h with ⟨g6, h⟩ | ⟨g6, h⟩
  · refine SCode.cond_t rfl g6 ?_
    refine SCode.seq ?_
    refine SCode.region (show SOps _ _ _ [0] _ _ from ?_)
    refine SOps.q rfl (.plain rfl) rfl (q_assign rfl rfl) ?_
    refine SOps.sub (st' := ⟨[(8, .c (.bool false))], []⟩) (sub_gen [] rfl rfl ⟨zc rfl rfl, trivial⟩ trivial) ?_
    refine SOps.nil ?_
    refine SCode.ret ?_
    obtain rfl := Option.some.inj h
    exact ⟨⟨[(8, .c (.bool false))], []⟩, _, sub_gen [] rfl rfl ⟨zc rfl rfl, trivial⟩ trivial, resA1 (v := .c (.bool false)) rfl rfl, rfl⟩
  refine SCode.cond_f rfl g6 ?_
  refine SCode.skip ?_
  refine SCode.seq ?_
  refine SCode.region (show SOps _ _ _ [0, 1] _ _ from ?_)
  refine SOps.q rfl (.plain rfl) rfl (q_field_ptr rfl rfl fd25_5) ?_
  refine SOps.e rfl (.plain rfl) (e_store_box rfl rfl rfl rfl rfl ty4 rfl rfl rfl rfl) ?_
  refine SOps.sub (st' := ⟨[(2, .c (.int .i64 a2_feeder)), (3, .c (.int .i64 a3_t)), (5, .c (.ptr 0 0)), (9, .c (.vec c_4.1.length 7 (gL cSCurtail dSCurtail c_4.1)))], [.box [.str a1_c.Name, .int .i64 a1_c.Version, .int .i64 a1_c.Feeder, .int .i64 a1_c.Span_From, .int .i64 a1_c.Span_To, .int .i64 a1_c.Total, .bool true]]⟩) (sub_gen [0] rfl rfl ⟨zc rfl rfl, zc rfl rfl, zc rfl rfl, zc rfl rfl, trivial⟩ ⟨⟨_, rfl, ⟨ii rfl rfl, ii rfl rfl, ii rfl rfl, ii rfl rfl, ii rfl rfl, ii rfl rfl, ii rfl rfl, trivial⟩⟩, trivial⟩) ?_
  refine SOps.nil ?_
  refine SCode.seq ?_
  obtain ⟨c_7, g8, h⟩ := bind_out h
  try dsimp only at h
  refine SCode.region (show SOps _ _ _ [0, 1, 2, 3, 4, 5, 6, 7] _ _ from ?_)
  refine SOps.q rfl (.plain rfl) rfl (q_move rfl rfl) ?_
  refine SOps.q rfl (.plain rfl) rfl (q_load_ptr_all rfl rfl rfl rfl rfl ty25) ?_
  refine SOps.q rfl (.plain rfl) rfl (q_call (curtail_Put_ok F c_4.1 (SCurtail.mk a1_c.Name a1_c.Version a1_c.Feeder a1_c.Span_From a1_c.Span_To a1_c.Total true) c_7 g8) [] rfl fn12 ⟨⟨_, rfl, .inl ⟨rfl, rfl⟩⟩, ⟨rfl, rfl⟩, trivial⟩ (.inl rfl)) ?_
  refine SOps.q rfl (.plain rfl) rfl (q_move rfl rfl) ?_
  refine SOps.q rfl (.plain rfl) rfl (q_extract rfl rfl rfl) ?_
  refine SOps.q rfl (.plain rfl) rfl (q_extract rfl rfl rfl) ?_
  refine SOps.q rfl (.plain rfl) rfl (q_assign rfl rfl) ?_
  refine SOps.q rfl (.plain rfl) rfl (q_assign rfl rfl) ?_
  refine SOps.sub (st' := ⟨[(2, .c (.int .i64 a2_feeder)), (3, .c (.int .i64 a3_t)), (5, .c (.ptr 0 0)), (9, .c (.vec c_4.1.length 7 (gL cSCurtail dSCurtail c_4.1))), (11, .c (.vec c_7.1.length 7 (gL cSCurtail dSCurtail c_7.1))), (12, .c (.int .i64 c_7.2))], [.box [.str a1_c.Name, .int .i64 a1_c.Version, .int .i64 a1_c.Feeder, .int .i64 a1_c.Span_From, .int .i64 a1_c.Span_To, .int .i64 a1_c.Total, .bool true]]⟩) (sub_gen [0] rfl rfl ⟨zc rfl rfl, zc rfl rfl, zc rfl rfl, zc rfl rfl, zc rfl rfl, zc rfl rfl, trivial⟩ ⟨⟨_, rfl, ⟨ii rfl rfl, ii rfl rfl, ii rfl rfl, ii rfl rfl, ii rfl rfl, ii rfl rfl, ii rfl rfl, trivial⟩⟩, trivial⟩) ?_
  refine SOps.nil ?_
  refine SCode.seq ?_
  refine SCode.seq ?_
  refine SCode.region (show SOps _ _ _ [0, 1] _ _ from ?_)
  refine SOps.q rfl (.plain rfl) rfl (q_move rfl rfl) ?_
  refine SOps.q rfl (.plain rfl) rfl (q_neq rfl rfl rfl) ?_
  refine SOps.sub (st' := ⟨[(2, .c (.int .i64 a2_feeder)), (3, .c (.int .i64 a3_t)), (5, .c (.ptr 0 0)), (9, .c (.vec c_4.1.length 7 (gL cSCurtail dSCurtail c_4.1))), (11, .c (.vec c_7.1.length 7 (gL cSCurtail dSCurtail c_7.1))), (33, .c (.bool ((!decide (c_7.2 = 0)))))], [.box [.str a1_c.Name, .int .i64 a1_c.Version, .int .i64 a1_c.Feeder, .int .i64 a1_c.Span_From, .int .i64 a1_c.Span_To, .int .i64 a1_c.Total, .bool true]]⟩) (sub_gen [0] rfl rfl ⟨zc rfl rfl, zc rfl rfl, zc rfl rfl, zc rfl rfl, zc rfl rfl, zc rfl rfl, trivial⟩ ⟨⟨_, rfl, ⟨ii rfl rfl, ii rfl rfl, ii rfl rfl, ii rfl rfl, ii rfl rfl, ii rfl rfl, ii rfl rfl, trivial⟩⟩, trivial⟩) ?_
  refine SOps.nil ?_
  rcases cond_out h with ⟨g9, h⟩ | ⟨g9, h⟩
  · refine SCode.cond_t rfl g9 ?_
    refine SCode.seq ?_
    obtain ⟨c_10, g11, h⟩ := bind_out h
    try dsimp only at h
    rcases cond_out h with ⟨g12, h⟩ | ⟨g12, h⟩
    · obtain ⟨c_13, g14, h⟩ := bind_out h
      try dsimp only at h
      refine SCode.region (show SOps _ _ _ [0, 1, 2, 3, 4, 5, 6] _ _ from ?_)
      refine SOps.q rfl (.plain rfl) rfl (q_move rfl rfl) ?_
      refine SOps.q rfl (.plain rfl) rfl (q_move rfl rfl) ?_
      refine SOps.q rfl (.plain rfl) rfl (q_call (slices_Equal_api_Curtail_api_Curtail_ok F c_4.1 c_7.1 c_10 g11) [] rfl fn14 ⟨⟨_, rfl, .inl ⟨rfl, rfl⟩⟩, ⟨_, rfl, .inl ⟨rfl, rfl⟩⟩, trivial⟩ (.inl rfl)) ?_
      refine SOps.q rfl (.plain rfl) rfl (q_move rfl rfl) ?_
      refine SOps.q rfl (.guard 3 37 true rfl rfl (gT g12)) rfl (q_call (chargenetlaw13_exampleHolds_ok F  c_13 g14) [] rfl fn9 trivial (.inl rfl)) ?_
      refine SOps.q rfl (.plain rfl) rfl (q_pick_t rfl rfl g12 rfl) ?_
      refine SOps.q rfl (.plain rfl) rfl (q_assign rfl rfl) ?_
      refine SOps.sub (st' := ⟨[(8, .c (.bool c_13))], []⟩) (sub_gen [] rfl rfl ⟨zc rfl rfl, trivial⟩ trivial) ?_
      refine SOps.nil ?_
      refine SCode.ret ?_
      obtain rfl := Option.some.inj h
      exact ⟨⟨[(8, .c (.bool c_13))], []⟩, _, sub_gen [] rfl rfl ⟨zc rfl rfl, trivial⟩ trivial, resA1 (v := .c (.bool c_13)) rfl rfl, rfl⟩
    refine SCode.region (show SOps _ _ _ [0, 1, 2, 3, 4, 5, 6] _ _ from ?_)
    refine SOps.q rfl (.plain rfl) rfl (q_move rfl rfl) ?_
    refine SOps.q rfl (.plain rfl) rfl (q_move rfl rfl) ?_
    refine SOps.q rfl (.plain rfl) rfl (q_call (slices_Equal_api_Curtail_api_Curtail_ok F c_4.1 c_7.1 c_10 g11) [] rfl fn14 ⟨⟨_, rfl, .inl ⟨rfl, rfl⟩⟩, ⟨_, rfl, .inl ⟨rfl, rfl⟩⟩, trivial⟩ (.inl rfl)) ?_
    refine SOps.q rfl (.plain rfl) rfl (q_move rfl rfl) ?_
    refine SOps.skip rfl 3 37 true rfl rfl (.inl (gF g12)) rfl ?_
    refine SOps.q rfl (.plain rfl) rfl (q_pick_f rfl rfl g12 rfl) ?_
    refine SOps.q rfl (.plain rfl) rfl (q_assign rfl rfl) ?_
    refine SOps.sub (st' := ⟨[(8, .c (.bool false))], []⟩) (sub_gen [] rfl rfl ⟨zc rfl rfl, trivial⟩ trivial) ?_
    refine SOps.nil ?_
    refine SCode.ret ?_
    obtain rfl := Option.some.inj h
    exact ⟨⟨[(8, .c (.bool false))], []⟩, _, sub_gen [] rfl rfl ⟨zc rfl rfl, trivial⟩ trivial, resA1 (v := .c (.bool false)) rfl rfl, rfl⟩
  refine SCode.cond_f rfl g9 ?_
  refine SCode.skip ?_
  refine SCode.seq ?_
  obtain ⟨c_15, g16, h⟩ := bind_out h
  try dsimp only at h
  obtain ⟨c_17, g18, h⟩ := bind_out h
  try dsimp only at h
  refine SCode.region (show SOps _ _ _ [0, 1, 2, 3, 4] _ _ from ?_)
  refine SOps.q rfl (.plain rfl) rfl (q_move rfl rfl) ?_
  refine SOps.e rfl (.plain rfl) (e_call (slices_Clone_api_Curtail_api_Curtail_own_ok F c_4.1 c_15 g16) [] rfl fn20 rfl rfl rfl rfl rfl rfl rfl rfl) ?_
  refine SOps.sub (st' := ⟨[(2, .c (.int .i64 a2_feeder)), (3, .c (.int .i64 a3_t)), (5, .c (.eptr 7 (cSCurtail (SCurtail.mk a1_c.Name a1_c.Version a1_c.Feeder a1_c.Span_From a1_c.Span_To a1_c.Total true)) 0)), (9, .c (.vec c_4.1.length 7 (gL cSCurtail dSCurtail c_4.1))), (11, .c (.vec c_7.1.length 7 (gL cSCurtail dSCurtail c_7.1))), (33, .c (.bool ((!decide (c_7.2 = 0))))), (40, .c (.vec c_4.1.length 7 (gL cSCurtail dSCurtail c_4.1))), (41, .c (.own 0 c_15.length))], [.arr 25 7 c_15.length (gL cSCurtail dSCurtail c_15)]⟩) (sub_gen [1] rfl rfl ⟨zc rfl rfl, zc rfl rfl, ⟨_, rfl, .inr (.inr (.inr (.inr ⟨_, _, _, _, _, rfl, rfl, rfl, by decide, by decide, boxG [.str ((SCurtail.mk a1_c.Name a1_c.Version a1_c.Feeder a1_c.Span_From a1_c.Span_To a1_c.Total true).Name), .int .i64 ((SCurtail.mk a1_c.Name a1_c.Version a1_c.Feeder a1_c.Span_From a1_c.Span_To a1_c.Total true).Version), .int .i64 ((SCurtail.mk a1_c.Name a1_c.Version a1_c.Feeder a1_c.Span_From a1_c.Span_To a1_c.Total true).Feeder), .int .i64 ((SCurtail.mk a1_c.Name a1_c.Version a1_c.Feeder a1_c.Span_From a1_c.Span_To a1_c.Total true).Span_From), .int .i64 ((SCurtail.mk a1_c.Name a1_c.Version a1_c.Feeder a1_c.Span_From a1_c.Span_To a1_c.Total true).Span_To), .int .i64 ((SCurtail.mk a1_c.Name a1_c.Version a1_c.Feeder a1_c.Span_From a1_c.Span_To a1_c.Total true).Total), .bool ((SCurtail.mk a1_c.Name a1_c.Version a1_c.Feeder a1_c.Span_From a1_c.Span_To a1_c.Total true).Cancelled)] rfl rfl rfl⟩)))⟩, zc rfl rfl, zc rfl rfl, zc rfl rfl, zc rfl rfl, zc rfl rfl, trivial⟩ ⟨oa rfl, trivial⟩) ?_
  refine SOps.q rfl (.plain rfl) rfl (q_makeFunc (cs := [.eptr 7 (cSCurtail (SCurtail.mk a1_c.Name a1_c.Version a1_c.Feeder a1_c.Span_From a1_c.Span_To a1_c.Total true)) 0]) rfl rfl rfl) ?_
  refine SOps.e rfl (.plain rfl) (e_call (slices_DeleteFunc_api_Curtail_api_Curtail_f1_22_ok F c_15 (SCurtail.mk a1_c.Name a1_c.Version a1_c.Feeder a1_c.Span_From a1_c.Span_To a1_c.Total true) c_17 g18) [0] rfl fn21 rfl rfl rfl rfl rfl rfl rfl rfl) ?_
  refine SOps.q rfl (.plain rfl) rfl (q_assign rfl rfl) ?_
  refine SOps.sub (st' := ⟨[(2, .c (.int .i64 a2_feeder)), (3, .c (.int .i64 a3_t)), (11, .c (.vec c_7.1.length 7 (gL cSCurtail dSCurtail c_7.1))), (13, .c (.own 0 c_17.length))], [.arr 25 7 c_17.length (gL cSCurtail dSCurtail c_17)]⟩) (sub_gen [0] rfl rfl ⟨zc rfl rfl, zc rfl rfl, zc rfl rfl, zc rfl rfl, trivial⟩ ⟨oa rfl, trivial⟩) ?_
  refine SOps.nil ?_
  refine SCode.seq ?_
  obtain ⟨c_19, g20, h⟩ := bind_out h
  try dsimp only at h
  obtain ⟨c_21, g22, h⟩ := bind_out h
  try dsimp only at h
  rcases cond_out h with ⟨g23, h⟩ | ⟨g23, h⟩
  · obtain ⟨c_24, g25, h⟩ := bind_out h
    try dsimp only at h
    obtain ⟨c_26, g27, h⟩ := bind_out h
    try dsimp only at h
    rcases cond_out h with ⟨g28, h⟩ | ⟨g28, h⟩
    · obtain ⟨c_29, g30, h⟩ := bind_out h
      try dsimp only at h
      refine SCode.region (show SOps _ _ _ [0, 1, 2, 3, 4, 5, 6, 7, 8, 9, 10, 11, 12, 13, 14, 15, 16, 17, 18, 19, 20, 21] _ _ from ?_)
      refine SOps.q rfl (.plain rfl) rfl (q_move rfl rfl) ?_
      refine SOps.q rfl (.plain rfl) rfl (q_move rfl rfl) ?_
      refine SOps.q rfl (.plain rfl) rfl (q_move rfl rfl) ?_
      refine SOps.q rfl (.plain rfl) rfl (q_call (curtail_At_ok F c_7.1 a2_feeder a3_t c_19 g20) [] rfl fn16 ⟨⟨_, rfl, .inl ⟨rfl, rfl⟩⟩, ⟨_, rfl, .inl ⟨rfl, rfl⟩⟩, ⟨_, rfl, .inl ⟨rfl, rfl⟩⟩, trivial⟩ (.inl rfl)) ?_
      refine SOps.q rfl (.plain rfl) rfl (q_move rfl rfl) ?_
      refine SOps.q rfl (.plain rfl) rfl (q_move rfl rfl) ?_
      refine SOps.q rfl (.plain rfl) rfl (q_move rfl rfl) ?_
      refine SOps.q rfl (.plain rfl) rfl (q_call (curtail_At_ok F c_17 a2_feeder a3_t c_21 g22) [0] rfl fn16 ⟨⟨_, rfl, .inr (.inl ⟨_, _, _, _, _, _, _, rfl, rfl, rfl, Nat.le_refl _, fun _ _ _ _ => rfl, by decide⟩)⟩, ⟨_, rfl, .inl ⟨rfl, rfl⟩⟩, ⟨_, rfl, .inl ⟨rfl, rfl⟩⟩, trivial⟩ (.inr rfl)) ?_
      refine SOps.q rfl (.plain rfl) rfl (q_eql rfl rfl rfl) ?_
      refine SOps.q rfl (.plain rfl) rfl (q_move rfl rfl) ?_
      refine SOps.q rfl (.guard 9 53 true rfl rfl (gT g23)) rfl (q_move rfl rfl) ?_
      refine SOps.q rfl (.guard 9 53 true rfl rfl (gT g23)) rfl (q_move rfl rfl) ?_
      refine SOps.q rfl (.guard 9 53 true rfl rfl (gT g23)) rfl (q_call (curtail_Next_ok F c_7.1 a3_t c_24 g25) [] rfl fn18 ⟨⟨_, rfl, .inl ⟨rfl, rfl⟩⟩, ⟨_, rfl, .inl ⟨rfl, rfl⟩⟩, trivial⟩ (.inl rfl)) ?_
      refine SOps.q rfl (.guard 9 53 true rfl rfl (gT g23)) rfl (q_move rfl rfl) ?_
      refine SOps.q rfl (.guard 9 53 true rfl rfl (gT g23)) rfl (q_move rfl rfl) ?_
      refine SOps.q rfl (.guard 9 53 true rfl rfl (gT g23)) rfl (q_call (curtail_Next_ok F c_17 a3_t c_26 g27) [0] rfl fn18 ⟨⟨_, rfl, .inr (.inl ⟨_, _, _, _, _, _, _, rfl, rfl, rfl, Nat.le_refl _, fun _ _ _ _ => rfl, by decide⟩)⟩, ⟨_, rfl, .inl ⟨rfl, rfl⟩⟩, trivial⟩ (.inr rfl)) ?_
      refine SOps.q rfl (.guard 9 53 true rfl rfl (gT g23)) rfl (q_eql rfl rfl rfl) ?_
      refine SOps.q rfl (.plain rfl) rfl (q_pick_t rfl rfl g23 rfl) ?_
      refine SOps.q rfl (.plain rfl) rfl (q_move rfl rfl) ?_
      refine SOps.q rfl (.guard 18 62 true rfl rfl (gT g28)) rfl (q_call (chargenetlaw13_exampleHolds_ok F  c_29 g30) [] rfl fn9 trivial (.inl rfl)) ?_
      refine SOps.q rfl (.plain rfl) rfl (q_pick_t rfl rfl g28 rfl) ?_
      refine SOps.q rfl (.plain rfl) rfl (q_assign rfl rfl) ?_
      refine SOps.sub (st' := ⟨[(8, .c (.bool c_29))], []⟩) (sub_gen [] rfl rfl ⟨zc rfl rfl, trivial⟩ trivial) ?_
      refine SOps.nil ?_
      refine SCode.ret ?_
      obtain rfl := Option.some.inj h
      exact ⟨⟨[(8, .c (.bool c_29))], []⟩, _, sub_gen [] rfl rfl ⟨zc rfl rfl, trivial⟩ trivial, resA1 (v := .c (.bool c_29)) rfl rfl, rfl⟩
    refine SCode.region (show SOps _ _ _ [0, 1, 2, 3, 4, 5, 6, 7, 8, 9, 10, 11, 12, 13, 14, 15, 16, 17, 18, 19, 20, 21] _ _ from ?_)
    refine SOps.q rfl (.plain rfl) rfl (q_move rfl rfl) ?_
    refine SOps.q rfl (.plain rfl) rfl (q_move rfl rfl) ?_
    refine SOps.q rfl (.plain rfl) rfl (q_move rfl rfl) ?_
    refine SOps.q rfl (.plain rfl) rfl (q_call (curtail_At_ok F c_7.1 a2_feeder a3_t c_19 g20) [] rfl fn16 ⟨⟨_, rfl, .inl ⟨rfl, rfl⟩⟩, ⟨_, rfl, .inl ⟨rfl, rfl⟩⟩, ⟨_, rfl, .inl ⟨rfl, rfl⟩⟩, trivial⟩ (.inl rfl)) ?_
    refine SOps.q rfl (.plain rfl) rfl (q_move rfl rfl) ?_
    refine SOps.q rfl (.plain rfl) rfl (q_move rfl rfl) ?_
    refine SOps.q rfl (.plain rfl) rfl (q_move rfl rfl) ?_
    refine SOps.q rfl (.plain rfl) rfl (q_call (curtail_At_ok F c_17 a2_feeder a3_t c_21 g22) [0] rfl fn16 ⟨⟨_, rfl, .inr (.inl ⟨_, _, _, _, _, _, _, rfl, rfl, rfl, Nat.le_refl _, fun _ _ _ _ => rfl, by decide⟩)⟩, ⟨_, rfl, .inl ⟨rfl, rfl⟩⟩, ⟨_, rfl, .inl ⟨rfl, rfl⟩⟩, trivial⟩ (.inr rfl)) ?_
    refine SOps.q rfl (.plain rfl) rfl (q_eql rfl rfl rfl) ?_
    refine SOps.q rfl (.plain rfl) rfl (q_move rfl rfl) ?_
    refine SOps.q rfl (.guard 9 53 true rfl rfl (gT g23)) rfl (q_move rfl rfl) ?_
    refine SOps.q rfl (.guard 9 53 true rfl rfl (gT g23)) rfl (q_move rfl rfl) ?_
    refine SOps.q rfl (.guard 9 53 true rfl rfl (gT g23)) rfl (q_call (curtail_Next_ok F c_7.1 a3_t c_24 g25) [] rfl fn18 ⟨⟨_, rfl, .inl ⟨rfl, rfl⟩⟩, ⟨_, rfl, .inl ⟨rfl, rfl⟩⟩, trivial⟩ (.inl rfl)) ?_
    refine SOps.q rfl (.guard 9 53 true rfl rfl (gT g23)) rfl (q_move rfl rfl) ?_
    refine SOps.q rfl (.guard 9 53 true rfl rfl (gT g23)) rfl (q_move rfl rfl) ?_
    refine SOps.q rfl (.guard 9 53 true rfl rfl (gT g23)) rfl (q_call (curtail_Next_ok F c_17 a3_t c_26 g27) [0] rfl fn18 ⟨⟨_, rfl, .inr (.inl ⟨_, _, _, _, _, _, _, rfl, rfl, rfl, Nat.le_refl _, fun _ _ _ _ => rfl, by decide⟩)⟩, ⟨_, rfl, .inl ⟨rfl, rfl⟩⟩, trivial⟩ (.inr rfl)) ?_
    refine SOps.q rfl (.guard 9 53 true rfl rfl (gT g23)) rfl (q_eql rfl rfl rfl) ?_
    refine SOps.q rfl (.plain rfl) rfl (q_pick_t rfl rfl g23 rfl) ?_
    refine SOps.q rfl (.plain rfl) rfl (q_move rfl rfl) ?_
    refine SOps.skip rfl 18 62 true rfl rfl (.inl (gF g28)) rfl ?_
    refine SOps.q rfl (.plain rfl) rfl (q_pick_f rfl rfl g28 rfl) ?_
    refine SOps.q rfl (.plain rfl) rfl (q_assign rfl rfl) ?_
    refine SOps.sub (st' := ⟨[(8, .c (.bool false))], []⟩) (sub_gen [] rfl rfl ⟨zc rfl rfl, trivial⟩ trivial) ?_
    refine SOps.nil ?_
    refine SCode.ret ?_
    obtain rfl := Option.some.inj h
    exact ⟨⟨[(8, .c (.bool false))], []⟩, _, sub_gen [] rfl rfl ⟨zc rfl rfl, trivial⟩ trivial, resA1 (v := .c (.bool false)) rfl rfl, rfl⟩
  refine SCode.region (show SOps _ _ _ [0, 1, 2, 3, 4, 5, 6, 7, 8, 9, 10, 11, 12, 13, 14, 15, 16, 17, 18, 19, 20, 21] _ _ from ?_)
  refine SOps.q rfl (.plain rfl) rfl (q_move rfl rfl) ?_
  refine SOps.q rfl (.plain rfl) rfl (q_move rfl rfl) ?_
  refine SOps.q rfl (.plain rfl) rfl (q_move rfl rfl) ?_
  refine SOps.q rfl (.plain rfl) rfl (q_call (curtail_At_ok F c_7.1 a2_feeder a3_t c_19 g20) [] rfl fn16 ⟨⟨_, rfl, .inl ⟨rfl, rfl⟩⟩, ⟨_, rfl, .inl ⟨rfl, rfl⟩⟩, ⟨_, rfl, .inl ⟨rfl, rfl⟩⟩, trivial⟩ (.inl rfl)) ?_
  refine SOps.q rfl (.plain rfl) rfl (q_move rfl rfl) ?_
  refine SOps.q rfl (.plain rfl) rfl (q_move rfl rfl) ?_
  refine SOps.q rfl (.plain rfl) rfl (q_move rfl rfl) ?_
  refine SOps.q rfl (.plain rfl) rfl (q_call (curtail_At_ok F c_17 a2_feeder a3_t c_21 g22) [0] rfl fn16 ⟨⟨_, rfl, .inr (.inl ⟨_, _, _, _, _, _, _, rfl, rfl, rfl, Nat.le_refl _, fun _ _ _ _ => rfl, by decide⟩)⟩, ⟨_, rfl, .inl ⟨rfl, rfl⟩⟩, ⟨_, rfl, .inl ⟨rfl, rfl⟩⟩, trivial⟩ (.inr rfl)) ?_
  refine SOps.q rfl (.plain rfl) rfl (q_eql rfl rfl rfl) ?_
  refine SOps.q rfl (.plain rfl) rfl (q_move rfl rfl) ?_
  refine SOps.skip rfl 9 53 true rfl rfl (.inl (gF g23)) rfl ?_
  refine SOps.skip rfl 9 53 true rfl rfl (.inl (gF g23)) rfl ?_
  refine SOps.skip rfl 9 53 true rfl rfl (.inl (gF g23)) rfl ?_
  refine SOps.skip rfl 9 53 true rfl rfl (.inl (gF g23)) rfl ?_
  refine SOps.skip rfl 9 53 true rfl rfl (.inl (gF g23)) rfl ?_
  refine SOps.skip rfl 9 53 true rfl rfl (.inl (gF g23)) rfl ?_
  refine SOps.skip rfl 9 53 true rfl rfl (.inl (gF g23)) rfl ?_
  refine SOps.q rfl (.plain rfl) rfl (q_pick_f rfl rfl g23 rfl) ?_
  refine SOps.q rfl (.plain rfl) rfl (q_move rfl rfl) ?_
  refine SOps.skip rfl 18 62 true rfl rfl (.inl rfl) rfl ?_
  refine SOps.q rfl (.plain rfl) rfl (q_pick_f rfl rfl rfl rfl) ?_
  refine SOps.q rfl (.plain rfl) rfl (q_assign rfl rfl) ?_
  refine SOps.sub (st' := ⟨[(8, .c (.bool false))], []⟩) (sub_gen [] rfl rfl ⟨zc rfl rfl, trivial⟩ trivial) ?_
  refine SOps.nil ?_
  refine SCode.ret ?_
  obtain rfl := Option.some.inj h
  exact ⟨⟨[(8, .c (.bool false))], []⟩, _, sub_gen [] rfl rfl ⟨zc rfl rfl, trivial⟩ trivial, resA1 (v := .c (.bool false)) rfl rfl, rfl⟩
end Go.Proofs.Ytcccjpkfifefaaa.W
