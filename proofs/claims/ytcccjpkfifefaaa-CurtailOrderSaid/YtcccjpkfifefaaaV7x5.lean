/- Written by a program of ours (wip/eng/gen.py): the functions compute their models. -/
import Derived.Test.YtcccjpkfifefaaaFacts
import Derived.Test.YtcccjpkfifefaaaV7x4
namespace Go.Proofs.Ytcccjpkfifefaaa.W
open Go Go.Proofs Go.Proofs.Ytcccjpkfifefaaa.E Go.Proofs.Ytcccjpkfifefaaa.M
set_option linter.unusedVariables false
set_option maxRecDepth 100000 in
set_option maxHeartbeats 8000000 in
theorem chargenetlaw13_build_ok (F : Nat) (a0_l : List SCurtail) (r : (List SCurtail) × Bool) (h : chargenetlaw13_build F a0_l = some r) :
    SFun Try.prog 15 [] [.c (.vec a0_l.length 7 (gL cSCurtail dSCurtail a0_l))] (fun x _ => x = .t [.c (.vec r.1.length 7 (gL cSCurtail dSCurtail r.1)), .c (.bool r.2)]) := by
  refine SFun.of (n := 33) Try.func15 rfl rfl rfl ?_
  unfold chargenetlaw13_build at h
  show SCode _ _ _ ⟨[(0, .c (.vec a0_l.length 7 (gL cSCurtail dSCurtail a0_l)))], []⟩ _
  refine SCode.seq ?_
  refine SCode.region (show SOps _ _ _ [0, 1] _ _ from ?_)
  refine SOps.q rfl (.plain rfl) rfl (q_assign rfl rfl) ?_
  refine SOps.q rfl (.plain rfl) rfl (q_assign rfl rfl) ?_
  refine SOps.sub (st' := ⟨[(0, .c (.vec a0_l.length 7 (gL cSCurtail dSCurtail a0_l)))], []⟩) (sub_gen [] rfl rfl ⟨zc rfl rfl, trivial⟩ trivial) ?_
  refine SOps.nil ?_
  refine SCode.seq ?_
  refine SCode.region (show SOps _ _ _ [0] _ _ from ?_)
  refine SOps.q rfl (.plain rfl) rfl (q_assign rfl rfl) ?_
  refine SOps.sub (st' := ⟨[(0, .c (.vec a0_l.length 7 (gL cSCurtail dSCurtail a0_l))), (4, .c (.raw (.slice none 0 0)))], []⟩) (sub_gen [] rfl rfl ⟨zc rfl rfl, zc rfl rfl, trivial⟩ trivial) ?_
  refine SOps.nil ?_
  refine SCode.join (σ := (List SCurtail)) (S := fun s => ⟨[(4, .c (.vec s.length 7 (gL cSCurtail dSCurtail s)))], []⟩) (g := fun s => chargenetlaw13_build_p2 s = some r) ?_ ?_
  rotate_left
  · refine SCode.seq ?_
    refine SCode.region (show SOps _ _ _ [0, 1, 2] _ _ from ?_)
    refine SOps.q rfl (.plain rfl) rfl (q_move rfl rfl) ?_
    refine SOps.q rfl (.plain rfl) rfl (q_len_vec rfl rfl sl34) ?_
    refine SOps.q rfl (.plain rfl) rfl (q_move rfl rfl) ?_
    refine SOps.sub (st' := ⟨[(0, .c (.vec a0_l.length 7 (gL cSCurtail dSCurtail a0_l))), (4, .c (.raw (.slice none 0 0))), (9, .c (.int .i64 (((a0_l).length : Int)))), (10, .c (.int .i64 0))], []⟩) (sub_gen [] rfl rfl ⟨zc rfl rfl, zc rfl rfl, zc rfl rfl, zc rfl rfl, trivial⟩ trivial) ?_
    refine SOps.nil ?_
    refine SCode.block ?_
    refine SCode.sub (st' := ⟨[(0, .c (.vec a0_l.length 7 (gL cSCurtail dSCurtail a0_l))), (4, .c (.vec ([] : List SCurtail).length 7 (gL cSCurtail dSCurtail ([] : List SCurtail)))), (9, .c (.int .i64 (((a0_l).length : Int)))), (10, .c (.int .i64 0))], []⟩) (sub_gen [] rfl rfl ⟨zc rfl rfl, ⟨_, rfl, .inr (.inr (.inr (.inl ⟨_, _, rfl, rfl⟩)))⟩, zc rfl rfl, zc rfl rfl, trivial⟩ trivial) ?_
    refine (SCode.loop (σ := Nat × ((List SCurtail) × Int)) (S := fun s => ⟨[(0, .c (.vec a0_l.length 7 (gL cSCurtail dSCurtail a0_l))), (4, .c (.vec s.2.1.length 7 (gL cSCurtail dSCurtail s.2.1))), (9, .c (.int .i64 (((a0_l).length : Int)))), (10, .c (.int .i64 s.2.2))], []⟩) (g := fun s => chargenetlaw13_build_l23 F a0_l s.1 s.2.1 s.2.2 = some r) (μ := fun s => s.1) (F, ([], 0)) h ?_)
    rintro ⟨n_23, ⟨out_12, t10_13⟩⟩ h
    replace h : chargenetlaw13_build_l23 F a0_l n_23 out_12 t10_13 = some r := h
    show SCode _ _ _ ⟨[(0, .c (.vec a0_l.length 7 (gL cSCurtail dSCurtail a0_l))), (4, .c (.vec out_12.length 7 (gL cSCurtail dSCurtail out_12))), (9, .c (.int .i64 (((a0_l).length : Int)))), (10, .c (.int .i64 t10_13))], []⟩ _
    cases n_23 with
    | zero => cases h
    | succ n_23 =>
      replace h : chargenetlaw13_build_b23 F a0_l (fun out_12 t10_13 => chargenetlaw13_build_l23 F a0_l n_23 out_12 t10_13) out_12 t10_13 = some r := h
      unfold chargenetlaw13_build_b23 at h
      refine SCode.seq ?_
      refine SCode.region (show SOps _ _ _ [0] _ _ from ?_)
      refine SOps.q rfl (.plain rfl) rfl (q_lss rfl rfl rfl) ?_
      refine SOps.sub (st' := ⟨[(0, .c (.vec a0_l.length 7 (gL cSCurtail dSCurtail a0_l))), (4, .c (.vec out_12.length 7 (gL cSCurtail dSCurtail out_12))), (9, .c (.int .i64 (((a0_l).length : Int)))), (10, .c (.int .i64 t10_13)), (11, .c (.bool (decide (t10_13 < ((a0_l).length : Int)))))], []⟩) (sub_gen [] rfl rfl ⟨zc rfl rfl, zc rfl rfl, zc rfl rfl, zc rfl rfl, zc rfl rfl, trivial⟩ trivial) ?_
      refine SOps.nil ?_
      refine SCode.seq ?_
      rcases cond_out h with ⟨g24, h⟩ | ⟨g24, h⟩
      · refine SCode.cond_t rfl g24 ?_
        refine SCode.skip ?_
        refine SCode.seq ?_
        refine SCode.block ?_
        refine SCode.seq ?_
        refine SCode.region (show SOps _ _ _ [0, 1] _ _ from ?_)
        refine SOps.q rfl (.plain rfl) rfl (q_move rfl rfl) ?_
        refine SOps.q rfl (.plain rfl) rfl (q_assign rfl rfl) ?_
        refine SOps.sub (st' := ⟨[(0, .c (.vec a0_l.length 7 (gL cSCurtail dSCurtail a0_l))), (4, .c (.vec out_12.length 7 (gL cSCurtail dSCurtail out_12))), (5, .c (.int .i64 t10_13)), (9, .c (.int .i64 (((a0_l).length : Int)))), (10, .c (.int .i64 t10_13))], []⟩) (sub_gen [] rfl rfl ⟨zc rfl rfl, zc rfl rfl, zc rfl rfl, zc rfl rfl, zc rfl rfl, trivial⟩ trivial) ?_
        refine SOps.nil ?_
        refine SCode.seq ?_
        obtain ⟨g25, h⟩ := guard_out h
        obtain ⟨c_26, g27, h⟩ := bind_out h
        try dsimp only at h
        refine SCode.region (show SOps _ _ _ [0, 1, 2, 3, 4, 5, 6, 7, 8, 9, 10] _ _ from ?_)
        refine SOps.q rfl (.plain rfl) rfl (q_move rfl rfl) ?_
        refine SOps.q rfl (.plain rfl) rfl (q_move rfl rfl) ?_
        refine SOps.q rfl (.plain rfl) rfl (q_move rfl rfl) ?_
        refine SOps.q rfl (.plain rfl) rfl (q_index_vec rfl rfl rfl sl34 rfl g25.1 g25.2) ?_
        refine SOps.q rfl (.plain rfl) rfl (q_load_eptr_all rfl rfl rfl ty25) ?_
        refine SOps.q rfl (.plain rfl) rfl (q_call (curtail_Put_ok F out_12 (a0_l.getD t10_13.toNat dSCurtail) c_26 g27) [] rfl fn12 ⟨⟨_, rfl, .inl ⟨rfl, rfl⟩⟩, ⟨rfl, rfl⟩, trivial⟩ (.inl rfl)) ?_
        refine SOps.q rfl (.plain rfl) rfl (q_move rfl rfl) ?_
        refine SOps.q rfl (.plain rfl) rfl (q_extract rfl rfl rfl) ?_
        refine SOps.q rfl (.plain rfl) rfl (q_extract rfl rfl rfl) ?_
        refine SOps.q rfl (.plain rfl) rfl (q_assign rfl rfl) ?_
        refine SOps.q rfl (.plain rfl) rfl (q_assign rfl rfl) ?_
        refine SOps.sub (st' := ⟨[(0, .c (.vec a0_l.length 7 (gL cSCurtail dSCurtail a0_l))), (4, .c (.vec out_12.length 7 (gL cSCurtail dSCurtail out_12))), (6, .c (.vec c_26.1.length 7 (gL cSCurtail dSCurtail c_26.1))), (7, .c (.int .i64 c_26.2)), (9, .c (.int .i64 (((a0_l).length : Int)))), (10, .c (.int .i64 t10_13))], []⟩) (sub_gen [] rfl rfl ⟨zc rfl rfl, zc rfl rfl, zc rfl rfl, zc rfl rfl, zc rfl rfl, zc rfl rfl, trivial⟩ trivial) ?_
        refine SOps.nil ?_
        refine SCode.join (σ := Unit) (S := fun s => ⟨[(0, .c (.vec a0_l.length 7 (gL cSCurtail dSCurtail a0_l))), (6, .c (.vec c_26.1.length 7 (gL cSCurtail dSCurtail c_26.1))), (9, .c (.int .i64 (((a0_l).length : Int)))), (10, .c (.int .i64 t10_13))], []⟩) (g := fun s => chargenetlaw13_build_p28 t10_13 (fun out_12 t10_13 => chargenetlaw13_build_l23 F a0_l n_23 out_12 t10_13) c_26 = some r) ?_ ?_
        rotate_left
        · refine SCode.seq ?_
          rcases cond_out h with ⟨g29, h⟩ | ⟨g29, h⟩
          · obtain ⟨c_30, g31, h⟩ := bind_out h
            try dsimp only at h
            refine SCode.region (show SOps _ _ _ [0, 1, 2, 3, 4, 5, 6, 7] _ _ from ?_)
            refine SOps.q rfl (.plain rfl) rfl (q_move rfl rfl) ?_
            refine SOps.q rfl (.plain rfl) rfl (q_neq rfl rfl rfl) ?_
            refine SOps.q rfl (.plain rfl) rfl (q_move rfl rfl) ?_
            refine SOps.q rfl (.guard 2 24 true rfl rfl (gT g29)) rfl (q_move rfl rfl) ?_
            refine SOps.q rfl (.guard 2 24 true rfl rfl (gT g29)) rfl (q_move rfl rfl) ?_
            refine SOps.q rfl (.guard 2 24 true rfl rfl (gT g29)) rfl (q_call (slices_Equal_api_Curtail_api_Curtail_ok F c_26.1 out_12 c_30 g31) [] rfl fn14 ⟨⟨_, rfl, .inl ⟨rfl, rfl⟩⟩, ⟨_, rfl, .inl ⟨rfl, rfl⟩⟩, trivial⟩ (.inl rfl)) ?_
            refine SOps.q rfl (.guard 2 24 true rfl rfl (gT g29)) rfl (q_not rfl rfl) ?_
            refine SOps.q rfl (.plain rfl) rfl (q_pick_t rfl rfl g29 rfl) ?_
            refine SOps.sub (st' := ⟨[(0, .c (.vec a0_l.length 7 (gL cSCurtail dSCurtail a0_l))), (6, .c (.vec c_26.1.length 7 (gL cSCurtail dSCurtail c_26.1))), (9, .c (.int .i64 (((a0_l).length : Int)))), (10, .c (.int .i64 t10_13)), (29, .c (.bool ((!c_30))))], []⟩) (sub_gen [] rfl rfl ⟨zc rfl rfl, zc rfl rfl, zc rfl rfl, zc rfl rfl, zc rfl rfl, trivial⟩ trivial) ?_
            refine SOps.nil ?_
            rcases cond_out h with ⟨g32, h⟩ | ⟨g32, h⟩
            · refine SCode.cond_t rfl g32 ?_
              refine SCode.seq ?_
              refine SCode.region (show SOps _ _ _ [0, 1] _ _ from ?_)
              refine SOps.q rfl (.plain rfl) rfl (q_assign rfl rfl) ?_
              refine SOps.q rfl (.plain rfl) rfl (q_assign rfl rfl) ?_
              refine SOps.sub (st' := ⟨[(2, .c (.raw (.slice none 0 0))), (3, .c (.bool false))], []⟩) (sub_gen [] rfl rfl ⟨zc rfl rfl, zc rfl rfl, trivial⟩ trivial) ?_
              refine SOps.nil ?_
              refine SCode.ret ?_
              obtain rfl := Option.some.inj h
              exact ⟨⟨[(2, .c (.vec (([] : List SCurtail)).length 7 (gL cSCurtail dSCurtail (([] : List SCurtail))))), (3, .c (.bool false))], []⟩, _, sub_gen [] rfl rfl ⟨⟨_, rfl, .inr (.inr (.inr (.inl ⟨_, _, rfl, rfl⟩)))⟩, zc rfl rfl, trivial⟩ trivial, resA2 (v1 := .c (.vec (([] : List SCurtail)).length 7 (gL cSCurtail dSCurtail (([] : List SCurtail))))) (v2 := .c (.bool false)) rfl rfl rfl, rfl⟩
            refine SCode.cond_f rfl g32 ?_
            refine SCode.skip ?_
            exact ⟨(), h, sub_gen [] rfl rfl ⟨zc rfl rfl, zc rfl rfl, zc rfl rfl, zc rfl rfl, trivial⟩ trivial⟩
          refine SCode.region (show SOps _ _ _ [0, 1, 2, 3, 4, 5, 6, 7] _ _ from ?_)
          refine SOps.q rfl (.plain rfl) rfl (q_move rfl rfl) ?_
          refine SOps.q rfl (.plain rfl) rfl (q_neq rfl rfl rfl) ?_
          refine SOps.q rfl (.plain rfl) rfl (q_move rfl rfl) ?_
          refine SOps.skip rfl 2 24 true rfl rfl (.inl (gF g29)) rfl ?_
          refine SOps.skip rfl 2 24 true rfl rfl (.inl (gF g29)) rfl ?_
          refine SOps.skip rfl 2 24 true rfl rfl (.inl (gF g29)) rfl ?_
          refine SOps.skip rfl 2 24 true rfl rfl (.inl (gF g29)) rfl ?_
          refine SOps.q rfl (.plain rfl) rfl (q_pick_f rfl rfl g29 rfl) ?_
          refine SOps.sub (st' := ⟨[(0, .c (.vec a0_l.length 7 (gL cSCurtail dSCurtail a0_l))), (6, .c (.vec c_26.1.length 7 (gL cSCurtail dSCurtail c_26.1))), (9, .c (.int .i64 (((a0_l).length : Int)))), (10, .c (.int .i64 t10_13)), (29, .c (.bool false))], []⟩) (sub_gen [] rfl rfl ⟨zc rfl rfl, zc rfl rfl, zc rfl rfl, zc rfl rfl, zc rfl rfl, trivial⟩ trivial) ?_
          refine SOps.nil ?_
          refine SCode.cond_f rfl rfl ?_
          refine SCode.skip ?_
          exact ⟨(), h, sub_gen [] rfl rfl ⟨zc rfl rfl, zc rfl rfl, zc rfl rfl, zc rfl rfl, trivial⟩ trivial⟩
        rintro ⟨⟩ h
        show SCode _ _ _ ⟨[(0, .c (.vec a0_l.length 7 (gL cSCurtail dSCurtail a0_l))), (6, .c (.vec c_26.1.length 7 (gL cSCurtail dSCurtail c_26.1))), (9, .c (.int .i64 (((a0_l).length : Int)))), (10, .c (.int .i64 t10_13))], []⟩ _
        replace h : chargenetlaw13_build_p28 t10_13 (fun out_12 t10_13 => chargenetlaw13_build_l23 F a0_l n_23 out_12 t10_13) c_26 = some r := h
        unfold chargenetlaw13_build_p28 at h
        refine SCode.region (show SOps _ _ _ [0, 1] _ _ from ?_)
        refine SOps.q rfl (.plain rfl) rfl (q_move rfl rfl) ?_
        refine SOps.q rfl (.plain rfl) rfl (q_assign rfl rfl) ?_
        refine SOps.sub (st' := ⟨[(0, .c (.vec a0_l.length 7 (gL cSCurtail dSCurtail a0_l))), (4, .c (.vec c_26.1.length 7 (gL cSCurtail dSCurtail c_26.1))), (9, .c (.int .i64 (((a0_l).length : Int)))), (10, .c (.int .i64 t10_13))], []⟩) (sub_gen [] rfl rfl ⟨zc rfl rfl, zc rfl rfl, zc rfl rfl, zc rfl rfl, trivial⟩ trivial) ?_
        refine SOps.nil ?_
        refine SCode.region (show SOps _ _ _ [0, 1] _ _ from ?_)
        refine SOps.q rfl (.plain rfl) rfl (q_add rfl rfl rfl) ?_
        refine SOps.q rfl (.plain rfl) rfl (q_move rfl rfl) ?_
        refine SOps.sub (st' := ⟨[(0, .c (.vec a0_l.length 7 (gL cSCurtail dSCurtail a0_l))), (4, .c (.vec c_26.1.length 7 (gL cSCurtail dSCurtail c_26.1))), (9, .c (.int .i64 (((a0_l).length : Int)))), (10, .c (.int .i64 (IntKind.wrap .i64 (t10_13 + 1))))], []⟩) (sub_gen [] rfl rfl ⟨zc rfl rfl, zc rfl rfl, zc rfl rfl, zc rfl rfl, trivial⟩ trivial) ?_
        refine SOps.nil ?_
        exact ⟨(n_23, (c_26.1, IntKind.wrap .i64 (t10_13 + 1))), h, Nat.lt_succ_self n_23, sub_gen [] rfl rfl ⟨zc rfl rfl, zc rfl rfl, zc rfl rfl, zc rfl rfl, trivial⟩ trivial⟩
      refine SCode.cond_f rfl g24 ?_
      refine SCode.exit ?_
      exact ⟨out_12, h, sub_gen [] rfl rfl ⟨zc rfl rfl, trivial⟩ trivial⟩
  rintro out_1 h
  show SCode _ _ _ ⟨[(4, .c (.vec out_1.length 7 (gL cSCurtail dSCurtail out_1)))], []⟩ _
  replace h : chargenetlaw13_build_p2 out_1 = some r := h
  unfold chargenetlaw13_build_p2 at h
  refine SCode.seq ?_
  refine SCode.region (show SOps _ _ _ [0, 1, 2] _ _ from ?_)
  refine SOps.q rfl (.plain rfl) rfl (q_move rfl rfl) ?_
  refine SOps.q rfl (.plain rfl) rfl (q_assign rfl rfl) ?_
  refine SOps.q rfl (.plain rfl) rfl (q_assign rfl rfl) ?_
  refine SOps.sub (st' := ⟨[(2, .c (.vec out_1.length 7 (gL cSCurtail dSCurtail out_1))), (3, .c (.bool true))], []⟩) (sub_gen [] rfl rfl ⟨zc rfl rfl, zc rfl rfl, trivial⟩ trivial) ?_
  refine SOps.nil ?_
  refine SCode.ret ?_
  obtain rfl := Option.some.inj h
  exact ⟨⟨[(2, .c (.vec out_1.length 7 (gL cSCurtail dSCurtail out_1))), (3, .c (.bool true))], []⟩, _, sub_gen [] rfl rfl ⟨zc rfl rfl, zc rfl rfl, trivial⟩ trivial, resA2 (v1 := .c (.vec out_1.length 7 (gL cSCurtail dSCurtail out_1))) (v2 := .c (.bool true)) rfl rfl rfl, rfl⟩
set_option maxRecDepth 100000 in
set_option maxHeartbeats 8000000 in
theorem slices_Clone_api_Curtail_api_Curtail_own_ok (F : Nat) (a0_s : List SCurtail) (r : List SCurtail) (h : slices_Clone_api_Curtail_api_Curtail_own F a0_s = some r) :
    SFun Try.prog 20 [] [.c (.vec a0_s.length 7 (gL cSCurtail dSCurtail a0_s))] (fun x os => x = .c (.own 0 r.length) ∧ os = [.arr 25 7 r.length (gL cSCurtail dSCurtail r)]) := by
  refine SFun.of (n := 8) Try.func20 rfl rfl rfl ?_
  unfold slices_Clone_api_Curtail_api_Curtail_own at h
  show SCode _ _ _ ⟨[(0, .c (.vec a0_s.length 7 (gL cSCurtail dSCurtail a0_s)))], []⟩ _
  refine SCode.seq ?_
  refine SCode.region (show SOps _ _ _ [0] _ _ from ?_)
  refine SOps.q rfl (.plain rfl) rfl (q_assign rfl rfl) ?_
  refine SOps.nilArrL (T := 25) (k := 7) cSCurtail dSCurtail (s := 2) rfl rfl ?_
  refine SOps.sub (st' := ⟨[(0, .c (.vec a0_s.length 7 (gL cSCurtail dSCurtail a0_s)))], []⟩) (sub_gen [] rfl rfl ⟨zc rfl rfl, trivial⟩ trivial) ?_
  refine SOps.nil ?_
  refine SCode.seq ?_
  refine SCode.seq ?_
  refine SCode.region (show SOps _ _ _ [0, 1] _ _ from ?_)
  refine SOps.q rfl (.plain rfl) rfl (q_move rfl rfl) ?_
  refine SOps.nilcmp rfl (.plain rfl) rfl rfl rfl rfl rfl us34 (by decide) (fun hl => ?_) ?_
  · obtain rfl := List.length_eq_zero_iff.1 hl
    obtain ⟨_, h⟩ := guard_out h
    refine SOps.sub (st' := ⟨[(0, .c (.vec (([] : List SCurtail)).length 7 (gL cSCurtail dSCurtail (([] : List SCurtail))))), (4, .c (.bool true))], []⟩) (sub_gen [] rfl rfl ⟨zc rfl rfl, zc rfl rfl, trivial⟩ trivial) ?_
    refine SOps.nil ?_
    refine SCode.cond_t rfl rfl ?_
    refine SCode.seq ?_
    refine SCode.region (show SOps _ _ _ [0] _ _ from ?_)
    refine SOps.q rfl (.plain rfl) rfl (q_assign rfl rfl) ?_
    refine SOps.nilArrL (T := 25) (k := 7) cSCurtail dSCurtail (s := 2) rfl rfl ?_
    refine SOps.sub (st' := ⟨[(2, .c (.own 0 (([] : List SCurtail)).length))], [.arr 25 7 (([] : List SCurtail)).length (gL cSCurtail dSCurtail (([] : List SCurtail)))]⟩) (sub_gen [0] rfl rfl ⟨zc rfl rfl, trivial⟩ ⟨oa rfl, trivial⟩) ?_
    refine SOps.nil ?_
    refine SCode.ret ?_
    obtain rfl := Option.some.inj h
    exact ⟨⟨[(2, .c (.own 0 (([] : List SCurtail)).length))], [.arr 25 7 (([] : List SCurtail)).length (gL cSCurtail dSCurtail (([] : List SCurtail)))]⟩, _, sub_gen [0] rfl rfl ⟨zc rfl rfl, trivial⟩ ⟨oa rfl, trivial⟩, resA1 (v := .c (.own 0 (([] : List SCurtail)).length)) rfl rfl, ⟨rfl, rfl⟩⟩
  refine SOps.sub (st' := ⟨[(0, .c (.vec a0_s.length 7 (gL cSCurtail dSCurtail a0_s))), (4, .c (.bool false))], []⟩) (sub_gen [] rfl rfl ⟨zc rfl rfl, zc rfl rfl, trivial⟩ trivial) ?_
  refine SOps.nil ?_
  refine SCode.cond_f rfl rfl ?_
  refine SCode.skip ?_
  refine SCode.seq ?_
  obtain ⟨g1, h⟩ := guard_out h
  refine SCode.region (show SOps _ _ _ [0, 1, 2, 3] _ _ from ?_)
  refine SOps.e rfl (.plain rfl) (e_bslice0L (α := SCurtail) (c := cSCurtail) (d0 := dSCurtail) rfl rfl rfl rfl sl34) ?_
  refine SOps.q rfl (.plain rfl) rfl (q_move rfl rfl) ?_
  refine SOps.e rfl (.plain rfl) (e_appendL (c := cSCurtail) (d0 := dSCurtail) (l := ([] : List SCurtail)) (l2 := a0_s) rfl rfl rfl rfl rfl rfl (.inl rfl) sl34 z25 rfl rfl oneSCurtail g1.1 g1.2) ?_
  refine SOps.q rfl (.plain rfl) rfl (q_assign rfl rfl) ?_
  refine SOps.sub (st' := ⟨[(2, .c (.own 0 ((([] : List SCurtail)) ++ a0_s).length))], [.arr 25 7 ((([] : List SCurtail)) ++ a0_s).length (gL cSCurtail dSCurtail ((([] : List SCurtail)) ++ a0_s))]⟩) (sub_gen [1] rfl rfl ⟨zc rfl rfl, trivial⟩ ⟨oa rfl, trivial⟩) ?_
  refine SOps.nil ?_
  refine SCode.ret ?_
  obtain rfl := Option.some.inj h
  exact ⟨⟨[(2, .c (.own 0 ((([] : List SCurtail)) ++ a0_s).length))], [.arr 25 7 ((([] : List SCurtail)) ++ a0_s).length (gL cSCurtail dSCurtail ((([] : List SCurtail)) ++ a0_s))]⟩, _, sub_gen [0] rfl rfl ⟨zc rfl rfl, trivial⟩ ⟨oa rfl, trivial⟩, resA1 (v := .c (.own 0 ((([] : List SCurtail)) ++ a0_s).length)) rfl rfl, ⟨rfl, rfl⟩⟩
set_option maxRecDepth 100000 in
set_option maxHeartbeats 8000000 in
theorem chargenetlaw13_CurtailOrder_ok (F : Nat) (a0_l : List SCurtail) (a1_order : List Int) (r : Bool) (h : chargenetlaw13_CurtailOrder F a0_l a1_order = some r) :
    SFun Try.prog 7 [] [.c (.vec a0_l.length 7 (gL cSCurtail dSCurtail a0_l)), .c (.vec a1_order.length 1 (gL (cInt .u8) 0 a1_order))] (fun x _ => x = .c (.bool r)) := by
  refine SFun.of (n := 110) Try.func7 rfl rfl rfl ?_
  unfold chargenetlaw13_CurtailOrder at h
  show SCode _ _ _ ⟨[(0, .c (.vec a0_l.length 7 (gL cSCurtail dSCurtail a0_l))), (1, .c (.vec a1_order.length 1 (gL (cInt .u8) 0 a1_order)))], []⟩ _
  refine SCode.seq ?_
  refine SCode.region (show SOps _ _ _ [0] _ _ from ?_)
  refine SOps.q rfl (.plain rfl) rfl (q_assign rfl rfl) ?_
  refine SOps.sub (st' := ⟨[(0, .c (.vec a0_l.length 7 (gL cSCurtail dSCurtail a0_l))), (1, .c (.vec a1_order.length 1 (gL (cInt .u8) 0 a1_order)))], []⟩) (sub_gen [] rfl rfl ⟨zc rfl rfl, zc rfl rfl, trivial⟩ trivial) ?_
  refine SOps.nil ?_
  refine SCode.seq ?_
  refine SCode.seq ?_
  refine SCode.region (show SOps _ _ _ [0, 1, 2] _ _ from ?_)
  refine SOps.q rfl (.plain rfl) rfl (q_move rfl rfl) ?_
  refine SOps.q rfl (.plain rfl) rfl (q_len_vec rfl rfl sl34) ?_
  refine SOps.q rfl (.plain rfl) rfl (q_gtr rfl rfl rfl) ?_
  refine SOps.sub (st' := ⟨[(0, .c (.vec a0_l.length 7 (gL cSCurtail dSCurtail a0_l))), (1, .c (.vec a1_order.length 1 (gL (cInt .u8) 0 a1_order))), (16, .c (.bool (decide (64 < ((a0_l).length : Int)))))], []⟩) (sub_gen [] rfl rfl ⟨zc rfl rfl, zc rfl rfl, zc rfl rfl, trivial⟩ trivial) ?_
  refine SOps.nil ?_
  rcases cond_out h with ⟨g1, h⟩ | ⟨g1, h⟩
  · refine SCode.cond_t rfl g1 ?_
    refine SCode.seq ?_
    obtain ⟨c_2, g3, h⟩ := bind_out h
    try dsimp only at h
    refine SCode.region (show SOps _ _ _ [0, 1] _ _ from ?_)
    refine SOps.q rfl (.plain rfl) rfl (q_call (chargenetlaw13_exampleHolds_ok F  c_2 g3) [] rfl fn9 trivial (.inl rfl)) ?_
    refine SOps.q rfl (.plain rfl) rfl (q_assign rfl rfl) ?_
    refine SOps.sub (st' := ⟨[(4, .c (.bool c_2))], []⟩) (sub_gen [] rfl rfl ⟨zc rfl rfl, trivial⟩ trivial) ?_
    refine SOps.nil ?_
    refine SCode.ret ?_
    obtain rfl := Option.some.inj h
    exact ⟨⟨[(4, .c (.bool c_2))], []⟩, _, sub_gen [] rfl rfl ⟨zc rfl rfl, trivial⟩ trivial, resA1 (v := .c (.bool c_2)) rfl rfl, rfl⟩
  refine SCode.cond_f rfl g1 ?_
  refine SCode.skip ?_
  refine SCode.join (σ := Unit) (S := fun s => ⟨[(0, .c (.vec a0_l.length 7 (gL cSCurtail dSCurtail a0_l))), (1, .c (.vec a1_order.length 1 (gL (cInt .u8) 0 a1_order)))], []⟩) (g := fun s => chargenetlaw13_CurtailOrder_p53 F a0_l a1_order = some r) ?_ ?_
  rotate_left
  · refine SCode.seq ?_
    refine SCode.region (show SOps _ _ _ [0, 1, 2] _ _ from ?_)
    refine SOps.q rfl (.plain rfl) rfl (q_move rfl rfl) ?_
    refine SOps.q rfl (.plain rfl) rfl (q_len_vec rfl rfl sl34) ?_
    refine SOps.q rfl (.plain rfl) rfl (q_move rfl rfl) ?_
    refine SOps.sub (st' := ⟨[(0, .c (.vec a0_l.length 7 (gL cSCurtail dSCurtail a0_l))), (1, .c (.vec a1_order.length 1 (gL (cInt .u8) 0 a1_order))), (19, .c (.int .i64 (((a0_l).length : Int)))), (20, .c (.int .i64 0))], []⟩) (sub_gen [] rfl rfl ⟨zc rfl rfl, zc rfl rfl, zc rfl rfl, zc rfl rfl, trivial⟩ trivial) ?_
    refine SOps.nil ?_
    refine SCode.block ?_
    refine SCode.sub (st' := ⟨[(0, .c (.vec a0_l.length 7 (gL cSCurtail dSCurtail a0_l))), (1, .c (.vec a1_order.length 1 (gL (cInt .u8) 0 a1_order))), (19, .c (.int .i64 (((a0_l).length : Int)))), (20, .c (.int .i64 0))], []⟩) (sub_gen [] rfl rfl ⟨zc rfl rfl, zc rfl rfl, zc rfl rfl, zc rfl rfl, trivial⟩ trivial) ?_
    refine (SCode.loop (σ := Nat × Int) (S := fun s => ⟨[(0, .c (.vec a0_l.length 7 (gL cSCurtail dSCurtail a0_l))), (1, .c (.vec a1_order.length 1 (gL (cInt .u8) 0 a1_order))), (19, .c (.int .i64 (((a0_l).length : Int)))), (20, .c (.int .i64 s.2))], []⟩) (g := fun s => chargenetlaw13_CurtailOrder_l123 F a0_l a1_order s.1 s.2 = some r) (μ := fun s => s.1) (F, 0) h ?_)
    rintro ⟨n_123, t20_88⟩ h
    replace h : chargenetlaw13_CurtailOrder_l123 F a0_l a1_order n_123 t20_88 = some r := h
    show SCode _ _ _ ⟨[(0, .c (.vec a0_l.length 7 (gL cSCurtail dSCurtail a0_l))), (1, .c (.vec a1_order.length 1 (gL (cInt .u8) 0 a1_order))), (19, .c (.int .i64 (((a0_l).length : Int)))), (20, .c (.int .i64 t20_88))], []⟩ _
    cases n_123 with
    | zero => cases h
    | succ n_123 =>
      replace h : chargenetlaw13_CurtailOrder_b123 F a0_l a1_order (fun t20_88 => chargenetlaw13_CurtailOrder_l123 F a0_l a1_order n_123 t20_88) t20_88 = some r := h
      unfold chargenetlaw13_CurtailOrder_b123 at h
      refine SCode.seq ?_
      refine SCode.region (show SOps _ _ _ [0] _ _ from ?_)
      refine SOps.q rfl (.plain rfl) rfl (q_lss rfl rfl rfl) ?_
      refine SOps.sub (st' := ⟨[(0, .c (.vec a0_l.length 7 (gL cSCurtail dSCurtail a0_l))), (1, .c (.vec a1_order.length 1 (gL (cInt .u8) 0 a1_order))), (19, .c (.int .i64 (((a0_l).length : Int)))), (20, .c (.int .i64 t20_88)), (21, .c (.bool (decide (t20_88 < ((a0_l).length : Int)))))], []⟩) (sub_gen [] rfl rfl ⟨zc rfl rfl, zc rfl rfl, zc rfl rfl, zc rfl rfl, zc rfl rfl, trivial⟩ trivial) ?_
      refine SOps.nil ?_
      refine SCode.seq ?_
      rcases cond_out h with ⟨g124, h⟩ | ⟨g124, h⟩
      · refine SCode.cond_t rfl g124 ?_
        refine SCode.skip ?_
        refine SCode.join (σ := Unit) (S := fun s => ⟨[(0, .c (.vec a0_l.length 7 (gL cSCurtail dSCurtail a0_l))), (1, .c (.vec a1_order.length 1 (gL (cInt .u8) 0 a1_order))), (19, .c (.int .i64 (((a0_l).length : Int)))), (20, .c (.int .i64 t20_88))], []⟩) (g := fun s => chargenetlaw13_CurtailOrder_p125 t20_88 (fun t20_88 => chargenetlaw13_CurtailOrder_l123 F a0_l a1_order n_123 t20_88) = some r) ?_ ?_
        rotate_left
        · refine SCode.block ?_
          refine SCode.seq ?_
          refine SCode.region (show SOps _ _ _ [0, 1] _ _ from ?_)
          refine SOps.q rfl (.plain rfl) rfl (q_move rfl rfl) ?_
          refine SOps.q rfl (.plain rfl) rfl (q_assign rfl rfl) ?_
          refine SOps.sub (st' := ⟨[(0, .c (.vec a0_l.length 7 (gL cSCurtail dSCurtail a0_l))), (1, .c (.vec a1_order.length 1 (gL (cInt .u8) 0 a1_order))), (5, .c (.int .i64 t20_88)), (19, .c (.int .i64 (((a0_l).length : Int)))), (20, .c (.int .i64 t20_88))], []⟩) (sub_gen [] rfl rfl ⟨zc rfl rfl, zc rfl rfl, zc rfl rfl, zc rfl rfl, zc rfl rfl, trivial⟩ trivial) ?_
          refine SOps.nil ?_
          refine SCode.seq ?_
          refine SCode.region (show SOps _ _ _ [0, 1] _ _ from ?_)
          refine SOps.q rfl (.plain rfl) rfl (q_move rfl rfl) ?_
          refine SOps.q rfl (.plain rfl) rfl (q_move rfl rfl) ?_
          refine SOps.sub (st' := ⟨[(0, .c (.vec a0_l.length 7 (gL cSCurtail dSCurtail a0_l))), (1, .c (.vec a1_order.length 1 (gL (cInt .u8) 0 a1_order))), (5, .c (.int .i64 t20_88)), (19, .c (.int .i64 (((a0_l).length : Int)))), (20, .c (.int .i64 t20_88)), (23, .c (.int .i64 t20_88)), (24, .c (.int .i64 0))], []⟩) (sub_gen [] rfl rfl ⟨zc rfl rfl, zc rfl rfl, zc rfl rfl, zc rfl rfl, zc rfl rfl, zc rfl rfl, zc rfl rfl, trivial⟩ trivial) ?_
          refine SOps.nil ?_
          refine SCode.block ?_
          refine SCode.sub (st' := ⟨[(0, .c (.vec a0_l.length 7 (gL cSCurtail dSCurtail a0_l))), (1, .c (.vec a1_order.length 1 (gL (cInt .u8) 0 a1_order))), (5, .c (.int .i64 t20_88)), (19, .c (.int .i64 (((a0_l).length : Int)))), (20, .c (.int .i64 t20_88)), (23, .c (.int .i64 t20_88)), (24, .c (.int .i64 0))], []⟩) (sub_gen [] rfl rfl ⟨zc rfl rfl, zc rfl rfl, zc rfl rfl, zc rfl rfl, zc rfl rfl, zc rfl rfl, zc rfl rfl, trivial⟩ trivial) ?_
          refine (SCode.loop (σ := Nat × Int) (S := fun s => ⟨[(0, .c (.vec a0_l.length 7 (gL cSCurtail dSCurtail a0_l))), (1, .c (.vec a1_order.length 1 (gL (cInt .u8) 0 a1_order))), (5, .c (.int .i64 t20_88)), (19, .c (.int .i64 (((a0_l).length : Int)))), (20, .c (.int .i64 t20_88)), (23, .c (.int .i64 t20_88)), (24, .c (.int .i64 s.2))], []⟩) (g := fun s => chargenetlaw13_CurtailOrder_l147 F a0_l t20_88 (fun t20_88 => chargenetlaw13_CurtailOrder_l123 F a0_l a1_order n_123 t20_88) s.1 s.2 = some r) (μ := fun s => s.1) (F, 0) h ?_)
          rintro ⟨n_147, t24_136⟩ h
          replace h : chargenetlaw13_CurtailOrder_l147 F a0_l t20_88 (fun t20_88 => chargenetlaw13_CurtailOrder_l123 F a0_l a1_order n_123 t20_88) n_147 t24_136 = some r := h
          show SCode _ _ _ ⟨[(0, .c (.vec a0_l.length 7 (gL cSCurtail dSCurtail a0_l))), (1, .c (.vec a1_order.length 1 (gL (cInt .u8) 0 a1_order))), (5, .c (.int .i64 t20_88)), (19, .c (.int .i64 (((a0_l).length : Int)))), (20, .c (.int .i64 t20_88)), (23, .c (.int .i64 t20_88)), (24, .c (.int .i64 t24_136))], []⟩ _
          cases n_147 with
          | zero => cases h
          | succ n_147 =>
            replace h : chargenetlaw13_CurtailOrder_b147 F a0_l t20_88 (fun t20_88 => chargenetlaw13_CurtailOrder_l123 F a0_l a1_order n_123 t20_88) (fun t24_136 => chargenetlaw13_CurtailOrder_l147 F a0_l t20_88 (fun t20_88 => chargenetlaw13_CurtailOrder_l123 F a0_l a1_order n_123 t20_88) n_147 t24_136) t24_136 = some r := h
            unfold chargenetlaw13_CurtailOrder_b147 at h
            refine SCode.seq ?_
            refine SCode.region (show SOps _ _ _ [0] _ _ from ?_)
            refine SOps.q rfl (.plain rfl) rfl (q_lss rfl rfl rfl) ?_
            refine SOps.sub (st' := ⟨[(0, .c (.vec a0_l.length 7 (gL cSCurtail dSCurtail a0_l))), (1, .c (.vec a1_order.length 1 (gL (cInt .u8) 0 a1_order))), (5, .c (.int .i64 t20_88)), (19, .c (.int .i64 (((a0_l).length : Int)))), (20, .c (.int .i64 t20_88)), (23, .c (.int .i64 t20_88)), (24, .c (.int .i64 t24_136)), (25, .c (.bool (decide (t24_136 < t20_88))))], []⟩) (sub_gen [] rfl rfl ⟨zc rfl rfl, zc rfl rfl, zc rfl rfl, zc rfl rfl, zc rfl rfl, zc rfl rfl, zc rfl rfl, zc rfl rfl, trivial⟩ trivial) ?_
            refine SOps.nil ?_
            refine SCode.seq ?_
            rcases cond_out h with ⟨g148, h⟩ | ⟨g148, h⟩
            · refine SCode.cond_t rfl g148 ?_
              refine SCode.skip ?_
              refine SCode.join (σ := Unit) (S := fun s => ⟨[(0, .c (.vec a0_l.length 7 (gL cSCurtail dSCurtail a0_l))), (1, .c (.vec a1_order.length 1 (gL (cInt .u8) 0 a1_order))), (5, .c (.int .i64 t20_88)), (19, .c (.int .i64 (((a0_l).length : Int)))), (20, .c (.int .i64 t20_88)), (23, .c (.int .i64 t20_88)), (24, .c (.int .i64 t24_136))], []⟩) (g := fun s => chargenetlaw13_CurtailOrder_p149 t24_136 (fun t24_136 => chargenetlaw13_CurtailOrder_l147 F a0_l t20_88 (fun t20_88 => chargenetlaw13_CurtailOrder_l123 F a0_l a1_order n_123 t20_88) n_147 t24_136) = some r) ?_ ?_
              rotate_left
              · refine SCode.block ?_
                refine SCode.seq ?_
                refine SCode.region (show SOps _ _ _ [0, 1] _ _ from ?_)
                refine SOps.q rfl (.plain rfl) rfl (q_move rfl rfl) ?_
                refine SOps.q rfl (.plain rfl) rfl (q_assign rfl rfl) ?_
                refine SOps.sub (st' := ⟨[(0, .c (.vec a0_l.length 7 (gL cSCurtail dSCurtail a0_l))), (1, .c (.vec a1_order.length 1 (gL (cInt .u8) 0 a1_order))), (5, .c (.int .i64 t20_88)), (6, .c (.int .i64 t24_136)), (19, .c (.int .i64 (((a0_l).length : Int)))), (20, .c (.int .i64 t20_88)), (23, .c (.int .i64 t20_88)), (24, .c (.int .i64 t24_136))], []⟩) (sub_gen [] rfl rfl ⟨zc rfl rfl, zc rfl rfl, zc rfl rfl, zc rfl rfl, zc rfl rfl, zc rfl rfl, zc rfl rfl, zc rfl rfl, trivial⟩ trivial) ?_
                refine SOps.nil ?_
                refine SCode.seq ?_
                obtain ⟨g150, h⟩ := guard_out h
                obtain ⟨g151, h⟩ := guard_out h
                rcases cond_out h with ⟨g152, h⟩ | ⟨g152, h⟩
                · obtain ⟨g153, h⟩ := guard_out h
                  obtain ⟨g154, h⟩ := guard_out h
                  refine SCode.draw (s' := [(50, .c (.bool (decide ((a0_l.getD t20_88.toNat dSCurtail).Version = (a0_l.getD t24_136.toNat dSCurtail).Version)))), (49, .c (.bool (decide ((a0_l.getD t20_88.toNat dSCurtail).Version = (a0_l.getD t24_136.toNat dSCurtail).Version)))), (48, .c (.int .i64 ((a0_l.getD t24_136.toNat dSCurtail).Version))), (47, .c (.eptr 7 (cSCurtail (a0_l.getD t24_136.toNat dSCurtail)) 1)), (46, .c (.eptr 7 (cSCurtail (a0_l.getD t24_136.toNat dSCurtail)) 0)), (45, .c (.int .i64 t24_136)), (44, .c (.vec a0_l.length 7 (gL cSCurtail dSCurtail a0_l))), (43, .c (.int .i64 ((a0_l.getD t20_88.toNat dSCurtail).Version))), (42, .c (.eptr 7 (cSCurtail (a0_l.getD t20_88.toNat dSCurtail)) 1)), (41, .c (.eptr 7 (cSCurtail (a0_l.getD t20_88.toNat dSCurtail)) 0)), (40, .c (.int .i64 t20_88)), (39, .c (.vec a0_l.length 7 (gL cSCurtail dSCurtail a0_l))), (38, .c (.bool (sEq ((a0_l.getD t20_88.toNat dSCurtail).Name) ((a0_l.getD t24_136.toNat dSCurtail).Name)))), (37, .c (.bool (sEq ((a0_l.getD t20_88.toNat dSCurtail).Name) ((a0_l.getD t24_136.toNat dSCurtail).Name)))), (36, .c (.str ((a0_l.getD t24_136.toNat dSCurtail).Name))), (35, .c (.eptr 7 (cSCurtail (a0_l.getD t24_136.toNat dSCurtail)) 0)), (34, .c (.eptr 7 (cSCurtail (a0_l.getD t24_136.toNat dSCurtail)) 0)), (33, .c (.int .i64 t24_136)), (32, .c (.vec a0_l.length 7 (gL cSCurtail dSCurtail a0_l))), (31, .c (.str ((a0_l.getD t20_88.toNat dSCurtail).Name))), (30, .c (.eptr 7 (cSCurtail (a0_l.getD t20_88.toNat dSCurtail)) 0)), (29, .c (.eptr 7 (cSCurtail (a0_l.getD t20_88.toNat dSCurtail)) 0)), (28, .c (.int .i64 t20_88)), (27, .c (.vec a0_l.length 7 (gL cSCurtail dSCurtail a0_l))), (0, .c (.vec a0_l.length 7 (gL cSCurtail dSCurtail a0_l))), (1, .c (.vec a1_order.length 1 (gL (cInt .u8) 0 a1_order))), (5, .c (.int .i64 t20_88)), (6, .c (.int .i64 t24_136)), (19, .c (.int .i64 (((a0_l).length : Int)))), (20, .c (.int .i64 t20_88)), (23, .c (.int .i64 t20_88)), (24, .c (.int .i64 t24_136))]) mixed [[], [], [0, 1], [0, 1, 2], [0, 1, 2, 3], [], [], [5, 6], [5, 6, 7], [5, 6, 7, 8], [0, 1, 2, 3, 4, 5, 6, 7, 8, 9], [0, 1, 2, 3, 4, 5, 6, 7, 8, 9, 10], [0, 1, 2, 3, 4, 5, 6, 7, 8, 9, 10, 11], [0, 1, 2, 3, 4, 5, 6, 7, 8, 9, 10, 11], [0, 1, 2, 3, 4, 5, 6, 7, 8, 9, 10, 11, 12, 13], [0, 1, 2, 3, 4, 5, 6, 7, 8, 9, 10, 11, 12, 13, 14], [0, 1, 2, 3, 4, 5, 6, 7, 8, 9, 10, 11, 12, 13, 14, 15], [0, 1, 2, 3, 4, 5, 6, 7, 8, 9, 10, 11], [0, 1, 2, 3, 4, 5, 6, 7, 8, 9, 10, 11], [0, 1, 2, 3, 4, 5, 6, 7, 8, 9, 10, 11, 17, 18], [0, 1, 2, 3, 4, 5, 6, 7, 8, 9, 10, 11, 17, 18, 19], [0, 1, 2, 3, 4, 5, 6, 7, 8, 9, 10, 11, 17, 18, 19, 20], [0, 1, 2, 3, 4, 5, 6, 7, 8, 9, 10, 11, 12, 13, 14, 15, 16, 17, 18, 19, 20, 21], [0, 1, 2, 3, 4, 5, 6, 7, 8, 9, 10, 11, 12, 13, 14, 15, 16, 17, 18, 19, 20, 21, 22]] 24 0 rfl rfl ?_ ?_
                  · refine QChain.run rfl (.plain rfl) rfl (q_move rfl rfl) ?_
                    refine QChain.run rfl (.plain rfl) rfl (q_move rfl rfl) ?_
                    refine QChain.run rfl (.plain rfl) rfl (q_index_vec rfl rfl rfl sl34 rfl g150.1 g150.2) ?_
                    refine QChain.run rfl (.plain rfl) rfl (q_field_eptr rfl rfl fd25_0 rfl) ?_
                    refine QChain.run rfl (.plain rfl) rfl (q_load_eptr rfl rfl ty9) ?_
                    refine QChain.run rfl (.plain rfl) rfl (q_move rfl rfl) ?_
                    refine QChain.run rfl (.plain rfl) rfl (q_move rfl rfl) ?_
                    refine QChain.run rfl (.plain rfl) rfl (q_index_vec rfl rfl rfl sl34 rfl g151.1 g151.2) ?_
                    refine QChain.run rfl (.plain rfl) rfl (q_field_eptr rfl rfl fd25_0 rfl) ?_
                    refine QChain.run rfl (.plain rfl) rfl (q_load_eptr rfl rfl ty9) ?_
                    refine QChain.run rfl (.plain rfl) rfl (q_eqlS rfl rfl rfl) ?_
                    refine QChain.run rfl (.plain rfl) rfl (q_move rfl rfl) ?_
                    refine QChain.run rfl (.guard 11 38 true rfl rfl (gT g152)) rfl (q_move rfl rfl) ?_
                    refine QChain.run rfl (.guard 11 38 true rfl rfl (gT g152)) rfl (q_move rfl rfl) ?_
                    refine QChain.run rfl (.guard 11 38 true rfl rfl (gT g152)) rfl (q_index_vec rfl rfl rfl sl34 rfl g153.1 g153.2) ?_
                    refine QChain.run rfl (.guard 11 38 true rfl rfl (gT g152)) rfl (q_field_eptr rfl rfl fd25_1 rfl) ?_
                    refine QChain.run rfl (.guard 11 38 true rfl rfl (gT g152)) rfl (q_load_eptr rfl rfl ty3) ?_
                    refine QChain.run rfl (.guard 11 38 true rfl rfl (gT g152)) rfl (q_move rfl rfl) ?_
                    refine QChain.run rfl (.guard 11 38 true rfl rfl (gT g152)) rfl (q_move rfl rfl) ?_
                    refine QChain.run rfl (.guard 11 38 true rfl rfl (gT g152)) rfl (q_index_vec rfl rfl rfl sl34 rfl g154.1 g154.2) ?_
                    refine QChain.run rfl (.guard 11 38 true rfl rfl (gT g152)) rfl (q_field_eptr rfl rfl fd25_1 rfl) ?_
                    refine QChain.run rfl (.guard 11 38 true rfl rfl (gT g152)) rfl (q_load_eptr rfl rfl ty3) ?_
                    refine QChain.run rfl (.guard 11 38 true rfl rfl (gT g152)) rfl (q_eql rfl rfl rfl) ?_
                    refine QChain.run rfl (.plain rfl) rfl (q_pick_t rfl rfl g152 rfl) ?_
                    exact QChain.nil _ _
                  refine (show SOps _ _ _ [] _ _ from ?_)
                  refine SOps.sub (st' := ⟨[(0, .c (.vec a0_l.length 7 (gL cSCurtail dSCurtail a0_l))), (1, .c (.vec a1_order.length 1 (gL (cInt .u8) 0 a1_order))), (5, .c (.int .i64 t20_88)), (19, .c (.int .i64 (((a0_l).length : Int)))), (20, .c (.int .i64 t20_88)), (23, .c (.int .i64 t20_88)), (24, .c (.int .i64 t24_136)), (50, .c (.bool (decide ((a0_l.getD t20_88.toNat dSCurtail).Version = (a0_l.getD t24_136.toNat dSCurtail).Version))))], []⟩) (sub_gen [] rfl rfl ⟨zc rfl rfl, zc rfl rfl, zc rfl rfl, zc rfl rfl, zc rfl rfl, zc rfl rfl, zc rfl rfl, zc rfl rfl, trivial⟩ trivial) ?_
                  refine SOps.nil ?_
                  rcases cond_out h with ⟨g155, h⟩ | ⟨g155, h⟩
                  · refine SCode.cond_t rfl g155 ?_
                    refine SCode.seq ?_
                    obtain ⟨c_156, g157, h⟩ := bind_out h
                    try dsimp only at h
                    refine SCode.region (show SOps _ _ _ [0, 1] _ _ from ?_)
                    refine SOps.q rfl (.plain rfl) rfl (q_call (chargenetlaw13_exampleHolds_ok F  c_156 g157) [] rfl fn9 trivial (.inl rfl)) ?_
                    refine SOps.q rfl (.plain rfl) rfl (q_assign rfl rfl) ?_
                    refine SOps.sub (st' := ⟨[(4, .c (.bool c_156))], []⟩) (sub_gen [] rfl rfl ⟨zc rfl rfl, trivial⟩ trivial) ?_
                    refine SOps.nil ?_
                    refine SCode.ret ?_
                    obtain rfl := Option.some.inj h
                    exact ⟨⟨[(4, .c (.bool c_156))], []⟩, _, sub_gen [] rfl rfl ⟨zc rfl rfl, trivial⟩ trivial, resA1 (v := .c (.bool c_156)) rfl rfl, rfl⟩
                  refine SCode.cond_f rfl g155 ?_
                  refine SCode.skip ?_
                  exact ⟨(), h, sub_gen [] rfl rfl ⟨zc rfl rfl, zc rfl rfl, zc rfl rfl, zc rfl rfl, zc rfl rfl, zc rfl rfl, zc rfl rfl, trivial⟩ trivial⟩
                refine SCode.draw (s' := [(50, .c (.bool false)), (49, .c (.raw (.tuple #[]))), (48, .c (.raw (.tuple #[]))), (47, .c (.raw (.tuple #[]))), (46, .c (.raw (.tuple #[]))), (45, .c (.raw (.tuple #[]))), (44, .c (.raw (.tuple #[]))), (43, .c (.raw (.tuple #[]))), (42, .c (.raw (.tuple #[]))), (41, .c (.raw (.tuple #[]))), (40, .c (.raw (.tuple #[]))), (39, .c (.raw (.tuple #[]))), (38, .c (.bool (sEq ((a0_l.getD t20_88.toNat dSCurtail).Name) ((a0_l.getD t24_136.toNat dSCurtail).Name)))), (37, .c (.bool (sEq ((a0_l.getD t20_88.toNat dSCurtail).Name) ((a0_l.getD t24_136.toNat dSCurtail).Name)))), (36, .c (.str ((a0_l.getD t24_136.toNat dSCurtail).Name))), (35, .c (.eptr 7 (cSCurtail (a0_l.getD t24_136.toNat dSCurtail)) 0)), (34, .c (.eptr 7 (cSCurtail (a0_l.getD t24_136.toNat dSCurtail)) 0)), (33, .c (.int .i64 t24_136)), (32, .c (.vec a0_l.length 7 (gL cSCurtail dSCurtail a0_l))), (31, .c (.str ((a0_l.getD t20_88.toNat dSCurtail).Name))), (30, .c (.eptr 7 (cSCurtail (a0_l.getD t20_88.toNat dSCurtail)) 0)), (29, .c (.eptr 7 (cSCurtail (a0_l.getD t20_88.toNat dSCurtail)) 0)), (28, .c (.int .i64 t20_88)), (27, .c (.vec a0_l.length 7 (gL cSCurtail dSCurtail a0_l))), (0, .c (.vec a0_l.length 7 (gL cSCurtail dSCurtail a0_l))), (1, .c (.vec a1_order.length 1 (gL (cInt .u8) 0 a1_order))), (5, .c (.int .i64 t20_88)), (6, .c (.int .i64 t24_136)), (19, .c (.int .i64 (((a0_l).length : Int)))), (20, .c (.int .i64 t20_88)), (23, .c (.int .i64 t20_88)), (24, .c (.int .i64 t24_136))]) mixed [[], [], [0, 1], [0, 1, 2], [0, 1, 2, 3], [], [], [5, 6], [5, 6, 7], [5, 6, 7, 8], [0, 1, 2, 3, 4, 5, 6, 7, 8, 9], [0, 1, 2, 3, 4, 5, 6, 7, 8, 9, 10], [0, 1, 2, 3, 4, 5, 6, 7, 8, 9, 10, 11], [0, 1, 2, 3, 4, 5, 6, 7, 8, 9, 10, 11], [0, 1, 2, 3, 4, 5, 6, 7, 8, 9, 10, 11, 12, 13], [0, 1, 2, 3, 4, 5, 6, 7, 8, 9, 10, 11, 12, 13, 14], [0, 1, 2, 3, 4, 5, 6, 7, 8, 9, 10, 11, 12, 13, 14, 15], [0, 1, 2, 3, 4, 5, 6, 7, 8, 9, 10, 11], [0, 1, 2, 3, 4, 5, 6, 7, 8, 9, 10, 11], [0, 1, 2, 3, 4, 5, 6, 7, 8, 9, 10, 11, 17, 18], [0, 1, 2, 3, 4, 5, 6, 7, 8, 9, 10, 11, 17, 18, 19], [0, 1, 2, 3, 4, 5, 6, 7, 8, 9, 10, 11, 17, 18, 19, 20], [0, 1, 2, 3, 4, 5, 6, 7, 8, 9, 10, 11, 12, 13, 14, 15, 16, 17, 18, 19, 20, 21], [0, 1, 2, 3, 4, 5, 6, 7, 8, 9, 10, 11, 12, 13, 14, 15, 16, 17, 18, 19, 20, 21, 22]] 24 0 rfl rfl ?_ ?_
                · refine QChain.run rfl (.plain rfl) rfl (q_move rfl rfl) ?_
                  refine QChain.run rfl (.plain rfl) rfl (q_move rfl rfl) ?_
                  refine QChain.run rfl (.plain rfl) rfl (q_index_vec rfl rfl rfl sl34 rfl g150.1 g150.2) ?_
                  refine QChain.run rfl (.plain rfl) rfl (q_field_eptr rfl rfl fd25_0 rfl) ?_
                  refine QChain.run rfl (.plain rfl) rfl (q_load_eptr rfl rfl ty9) ?_
                  refine QChain.run rfl (.plain rfl) rfl (q_move rfl rfl) ?_
                  refine QChain.run rfl (.plain rfl) rfl (q_move rfl rfl) ?_
                  refine QChain.run rfl (.plain rfl) rfl (q_index_vec rfl rfl rfl sl34 rfl g151.1 g151.2) ?_
                  refine QChain.run rfl (.plain rfl) rfl (q_field_eptr rfl rfl fd25_0 rfl) ?_
                  refine QChain.run rfl (.plain rfl) rfl (q_load_eptr rfl rfl ty9) ?_
                  refine QChain.run rfl (.plain rfl) rfl (q_eqlS rfl rfl rfl) ?_
                  refine QChain.run rfl (.plain rfl) rfl (q_move rfl rfl) ?_
                  refine QChain.skip rfl ⟨11, 38, true, rfl, rfl, (.inl (gF g152))⟩ rfl ?_
                  refine QChain.skip rfl ⟨11, 38, true, rfl, rfl, (.inl (gF g152))⟩ rfl ?_
                  refine QChain.skip rfl ⟨11, 38, true, rfl, rfl, (.inl (gF g152))⟩ rfl ?_
                  refine QChain.skip rfl ⟨11, 38, true, rfl, rfl, (.inl (gF g152))⟩ rfl ?_
                  refine QChain.skip rfl ⟨11, 38, true, rfl, rfl, (.inl (gF g152))⟩ rfl ?_
                  refine QChain.skip rfl ⟨11, 38, true, rfl, rfl, (.inl (gF g152))⟩ rfl ?_
                  refine QChain.skip rfl ⟨11, 38, true, rfl, rfl, (.inl (gF g152))⟩ rfl ?_
                  refine QChain.skip rfl ⟨11, 38, true, rfl, rfl, (.inl (gF g152))⟩ rfl ?_
                  refine QChain.skip rfl ⟨11, 38, true, rfl, rfl, (.inl (gF g152))⟩ rfl ?_
                  refine QChain.skip rfl ⟨11, 38, true, rfl, rfl, (.inl (gF g152))⟩ rfl ?_
                  refine QChain.skip rfl ⟨11, 38, true, rfl, rfl, (.inl (gF g152))⟩ rfl ?_
                  refine QChain.run rfl (.plain rfl) rfl (q_pick_f rfl rfl g152 rfl) ?_
                  exact QChain.nil _ _
                refine (show SOps _ _ _ [] _ _ from ?_)
                refine SOps.sub (st' := ⟨[(0, .c (.vec a0_l.length 7 (gL cSCurtail dSCurtail a0_l))), (1, .c (.vec a1_order.length 1 (gL (cInt .u8) 0 a1_order))), (5, .c (.int .i64 t20_88)), (19, .c (.int .i64 (((a0_l).length : Int)))), (20, .c (.int .i64 t20_88)), (23, .c (.int .i64 t20_88)), (24, .c (.int .i64 t24_136)), (50, .c (.bool false))], []⟩) (sub_gen [] rfl rfl ⟨zc rfl rfl, zc rfl rfl, zc rfl rfl, zc rfl rfl, zc rfl rfl, zc rfl rfl, zc rfl rfl, zc rfl rfl, trivial⟩ trivial) ?_
                refine SOps.nil ?_
                refine SCode.cond_f rfl rfl ?_
                refine SCode.skip ?_
                exact ⟨(), h, sub_gen [] rfl rfl ⟨zc rfl rfl, zc rfl rfl, zc rfl rfl, zc rfl rfl, zc rfl rfl, zc rfl rfl, zc rfl rfl, trivial⟩ trivial⟩
              rintro ⟨⟩ h
              show SCode _ _ _ ⟨[(0, .c (.vec a0_l.length 7 (gL cSCurtail dSCurtail a0_l))), (1, .c (.vec a1_order.length 1 (gL (cInt .u8) 0 a1_order))), (5, .c (.int .i64 t20_88)), (19, .c (.int .i64 (((a0_l).length : Int)))), (20, .c (.int .i64 t20_88)), (23, .c (.int .i64 t20_88)), (24, .c (.int .i64 t24_136))], []⟩ _
              replace h : chargenetlaw13_CurtailOrder_p149 t24_136 (fun t24_136 => chargenetlaw13_CurtailOrder_l147 F a0_l t20_88 (fun t20_88 => chargenetlaw13_CurtailOrder_l123 F a0_l a1_order n_123 t20_88) n_147 t24_136) = some r := h
              unfold chargenetlaw13_CurtailOrder_p149 at h
              refine SCode.region (show SOps _ _ _ [0, 1] _ _ from ?_)
              refine SOps.q rfl (.plain rfl) rfl (q_add rfl rfl rfl) ?_
              refine SOps.q rfl (.plain rfl) rfl (q_move rfl rfl) ?_
              refine SOps.sub (st' := ⟨[(0, .c (.vec a0_l.length 7 (gL cSCurtail dSCurtail a0_l))), (1, .c (.vec a1_order.length 1 (gL (cInt .u8) 0 a1_order))), (5, .c (.int .i64 t20_88)), (19, .c (.int .i64 (((a0_l).length : Int)))), (20, .c (.int .i64 t20_88)), (23, .c (.int .i64 t20_88)), (24, .c (.int .i64 (IntKind.wrap .i64 (t24_136 + 1))))], []⟩) (sub_gen [] rfl rfl ⟨zc rfl rfl, zc rfl rfl, zc rfl rfl, zc rfl rfl, zc rfl rfl, zc rfl rfl, zc rfl rfl, trivial⟩ trivial) ?_
              refine SOps.nil ?_
              exact ⟨(n_147, IntKind.wrap .i64 (t24_136 + 1)), h, Nat.lt_succ_self n_147, sub_gen [] rfl rfl ⟨zc rfl rfl, zc rfl rfl, zc rfl rfl, zc rfl rfl, zc rfl rfl, zc rfl rfl, zc rfl rfl, trivial⟩ trivial⟩
            refine SCode.cond_f rfl g148 ?_
            refine SCode.exit ?_
            exact ⟨(), h, sub_gen [] rfl rfl ⟨zc rfl rfl, zc rfl rfl, zc rfl rfl, zc rfl rfl, trivial⟩ trivial⟩
        rintro ⟨⟩ h
        show SCode _ _ _ ⟨[(0, .c (.vec a0_l.length 7 (gL cSCurtail dSCurtail a0_l))), (1, .c (.vec a1_order.length 1 (gL (cInt .u8) 0 a1_order))), (19, .c (.int .i64 (((a0_l).length : Int)))), (20, .c (.int .i64 t20_88))], []⟩ _
        replace h : chargenetlaw13_CurtailOrder_p125 t20_88 (fun t20_88 => chargenetlaw13_CurtailOrder_l123 F a0_l a1_order n_123 t20_88) = some r := h
        unfold chargenetlaw13_CurtailOrder_p125 at h
        refine SCode.region (show SOps _ _ _ [0, 1] _ _ from ?_)
        refine SOps.q rfl (.plain rfl) rfl (q_add rfl rfl rfl) ?_
        refine SOps.q rfl (.plain rfl) rfl (q_move rfl rfl) ?_
        refine SOps.sub (st' := ⟨[(0, .c (.vec a0_l.length 7 (gL cSCurtail dSCurtail a0_l))), (1, .c (.vec a1_order.length 1 (gL (cInt .u8) 0 a1_order))), (19, .c (.int .i64 (((a0_l).length : Int)))), (20, .c (.int .i64 (IntKind.wrap .i64 (t20_88 + 1))))], []⟩) (sub_gen [] rfl rfl ⟨zc rfl rfl, zc rfl rfl, zc rfl rfl, zc rfl rfl, trivial⟩ trivial) ?_
        refine SOps.nil ?_
        exact ⟨(n_123, IntKind.wrap .i64 (t20_88 + 1)), h, Nat.lt_succ_self n_123, sub_gen [] rfl rfl ⟨zc rfl rfl, zc rfl rfl, zc rfl rfl, zc rfl rfl, trivial⟩ trivial⟩
      refine SCode.cond_f rfl g124 ?_
      refine SCode.exit ?_
      exact ⟨(), h, sub_gen [] rfl rfl ⟨zc rfl rfl, zc rfl rfl, trivial⟩ trivial⟩
  rintro ⟨⟩ h
  show SCode _ _ _ ⟨[(0, .c (.vec a0_l.length 7 (gL cSCurtail dSCurtail a0_l))), (1, .c (.vec a1_order.length 1 (gL (cInt .u8) 0 a1_order)))], []⟩ _
  replace h : chargenetlaw13_CurtailOrder_p53 F a0_l a1_order = some r := h
  unfold chargenetlaw13_CurtailOrder_p53 at h
  refine SCode.seq ?_
  obtain ⟨c_4, g5, h⟩ := bind_out h
  try dsimp only at h
  refine SCode.region (show SOps _ _ _ [0, 1, 2] _ _ from ?_)
  refine SOps.q rfl (.plain rfl) rfl (q_move rfl rfl) ?_
  refine SOps.e rfl (.plain rfl) (e_call (slices_Clone_api_Curtail_api_Curtail_own_ok F a0_l c_4 g5) [] rfl fn20 rfl rfl rfl rfl rfl rfl rfl rfl) ?_
  refine SOps.q rfl (.plain rfl) rfl (q_assign rfl rfl) ?_
  refine SOps.sub (st' := ⟨[(0, .c (.vec a0_l.length 7 (gL cSCurtail dSCurtail a0_l))), (1, .c (.vec a1_order.length 1 (gL (cInt .u8) 0 a1_order))), (7, .c (.own 0 c_4.length))], [.arr 25 7 c_4.length (gL cSCurtail dSCurtail c_4)]⟩) (sub_gen [0] rfl rfl ⟨zc rfl rfl, zc rfl rfl, zc rfl rfl, trivial⟩ ⟨oa rfl, trivial⟩) ?_
  refine SOps.nil ?_
  refine SCode.join (σ := (List SCurtail)) (S := fun s => ⟨[(0, .c (.vec a0_l.length 7 (gL cSCurtail dSCurtail a0_l))), (7, .c (.own 0 s.length))], [.arr 25 7 s.length (gL cSCurtail dSCurtail s)]⟩) (g := fun s => chargenetlaw13_CurtailOrder_p19 F a0_l s = some r) ?_ ?_
  rotate_left
  · refine SCode.seq ?_
    refine SCode.region (show SOps _ _ _ [0, 1, 2] _ _ from ?_)
    refine SOps.q rfl (.plain rfl) rfl (q_move rfl rfl) ?_
    refine SOps.q rfl (.plain rfl) rfl (q_len_own rfl rfl sl34) ?_
    refine SOps.q rfl (.plain rfl) rfl (q_move rfl rfl) ?_
    refine SOps.sub (st' := ⟨[(0, .c (.vec a0_l.length 7 (gL cSCurtail dSCurtail a0_l))), (1, .c (.vec a1_order.length 1 (gL (cInt .u8) 0 a1_order))), (7, .c (.own 0 c_4.length)), (57, .c (.int .i64 (((c_4).length : Int)))), (58, .c (.int .i64 0))], [.arr 25 7 c_4.length (gL cSCurtail dSCurtail c_4)]⟩) (sub_gen [0] rfl rfl ⟨zc rfl rfl, zc rfl rfl, zc rfl rfl, zc rfl rfl, zc rfl rfl, trivial⟩ ⟨oa rfl, trivial⟩) ?_
    refine SOps.nil ?_
    refine SCode.block ?_
    refine SCode.sub (st' := ⟨[(0, .c (.vec a0_l.length 7 (gL cSCurtail dSCurtail a0_l))), (1, .c (.vec a1_order.length 1 (gL (cInt .u8) 0 a1_order))), (7, .c (.own 0 c_4.length)), (57, .c (.int .i64 (((c_4).length : Int)))), (58, .c (.int .i64 0))], [.arr 25 7 c_4.length (gL cSCurtail dSCurtail c_4)]⟩) (sub_gen [0] rfl rfl ⟨zc rfl rfl, zc rfl rfl, zc rfl rfl, zc rfl rfl, zc rfl rfl, trivial⟩ ⟨oa rfl, trivial⟩) ?_
    refine (SCode.loop (σ := Nat × (Int × (List SCurtail))) (S := fun s => ⟨[(0, .c (.vec a0_l.length 7 (gL cSCurtail dSCurtail a0_l))), (1, .c (.vec a1_order.length 1 (gL (cInt .u8) 0 a1_order))), (7, .c (.own 0 s.2.2.length)), (57, .c (.int .i64 (((c_4).length : Int)))), (58, .c (.int .i64 s.2.1))], [.arr 25 7 s.2.2.length (gL cSCurtail dSCurtail s.2.2)]⟩) (g := fun s => chargenetlaw13_CurtailOrder_l42 F a0_l a1_order c_4 s.1 s.2.1 s.2.2 = some r) (μ := fun s => s.1) (F, (0, c_4)) h ?_)
    rintro ⟨n_42, ⟨t58_30, o0_31⟩⟩ h
    replace h : chargenetlaw13_CurtailOrder_l42 F a0_l a1_order c_4 n_42 t58_30 o0_31 = some r := h
    show SCode _ _ _ ⟨[(0, .c (.vec a0_l.length 7 (gL cSCurtail dSCurtail a0_l))), (1, .c (.vec a1_order.length 1 (gL (cInt .u8) 0 a1_order))), (7, .c (.own 0 o0_31.length)), (57, .c (.int .i64 (((c_4).length : Int)))), (58, .c (.int .i64 t58_30))], [.arr 25 7 o0_31.length (gL cSCurtail dSCurtail o0_31)]⟩ _
    cases n_42 with
    | zero => cases h
    | succ n_42 =>
      replace h : chargenetlaw13_CurtailOrder_b42 F a0_l a1_order c_4 (fun t58_30 o0_31 => chargenetlaw13_CurtailOrder_l42 F a0_l a1_order c_4 n_42 t58_30 o0_31) t58_30 o0_31 = some r := h
      unfold chargenetlaw13_CurtailOrder_b42 at h
      refine SCode.seq ?_
      refine SCode.region (show SOps _ _ _ [0] _ _ from ?_)
      refine SOps.q rfl (.plain rfl) rfl (q_lss rfl rfl rfl) ?_
      refine SOps.sub (st' := ⟨[(0, .c (.vec a0_l.length 7 (gL cSCurtail dSCurtail a0_l))), (1, .c (.vec a1_order.length 1 (gL (cInt .u8) 0 a1_order))), (7, .c (.own 0 o0_31.length)), (57, .c (.int .i64 (((c_4).length : Int)))), (58, .c (.int .i64 t58_30)), (59, .c (.bool (decide (t58_30 < ((c_4).length : Int)))))], [.arr 25 7 o0_31.length (gL cSCurtail dSCurtail o0_31)]⟩) (sub_gen [0] rfl rfl ⟨zc rfl rfl, zc rfl rfl, zc rfl rfl, zc rfl rfl, zc rfl rfl, zc rfl rfl, trivial⟩ ⟨oa rfl, trivial⟩) ?_
      refine SOps.nil ?_
      refine SCode.seq ?_
      rcases cond_out h with ⟨g43, h⟩ | ⟨g43, h⟩
      · refine SCode.cond_t rfl g43 ?_
        refine SCode.skip ?_
        refine SCode.join (σ := (List SCurtail)) (S := fun s => ⟨[(0, .c (.vec a0_l.length 7 (gL cSCurtail dSCurtail a0_l))), (1, .c (.vec a1_order.length 1 (gL (cInt .u8) 0 a1_order))), (7, .c (.own 0 s.length)), (57, .c (.int .i64 (((c_4).length : Int)))), (58, .c (.int .i64 t58_30))], [.arr 25 7 s.length (gL cSCurtail dSCurtail s)]⟩) (g := fun s => chargenetlaw13_CurtailOrder_p45 t58_30 (fun t58_30 o0_31 => chargenetlaw13_CurtailOrder_l42 F a0_l a1_order c_4 n_42 t58_30 o0_31) s = some r) ?_ ?_
        rotate_left
        · refine SCode.block ?_
          refine SCode.seq ?_
          refine SCode.region (show SOps _ _ _ [0, 1] _ _ from ?_)
          refine SOps.q rfl (.plain rfl) rfl (q_move rfl rfl) ?_
          refine SOps.q rfl (.plain rfl) rfl (q_assign rfl rfl) ?_
          refine SOps.sub (st' := ⟨[(0, .c (.vec a0_l.length 7 (gL cSCurtail dSCurtail a0_l))), (1, .c (.vec a1_order.length 1 (gL (cInt .u8) 0 a1_order))), (7, .c (.own 0 o0_31.length)), (8, .c (.int .i64 t58_30)), (57, .c (.int .i64 (((c_4).length : Int)))), (58, .c (.int .i64 t58_30))], [.arr 25 7 o0_31.length (gL cSCurtail dSCurtail o0_31)]⟩) (sub_gen [0] rfl rfl ⟨zc rfl rfl, zc rfl rfl, zc rfl rfl, zc rfl rfl, zc rfl rfl, zc rfl rfl, trivial⟩ ⟨oa rfl, trivial⟩) ?_
          refine SOps.nil ?_
          refine SCode.seq ?_
          refine SCode.region (show SOps _ _ _ [0, 1, 2, 3] _ _ from ?_)
          refine SOps.q rfl (.plain rfl) rfl (q_move rfl rfl) ?_
          refine SOps.q rfl (.plain rfl) rfl (q_move rfl rfl) ?_
          refine SOps.q rfl (.plain rfl) rfl (q_len_vec rfl rfl sl46) ?_
          refine SOps.q rfl (.plain rfl) rfl (q_lss rfl rfl rfl) ?_
          refine SOps.sub (st' := ⟨[(0, .c (.vec a0_l.length 7 (gL cSCurtail dSCurtail a0_l))), (1, .c (.vec a1_order.length 1 (gL (cInt .u8) 0 a1_order))), (7, .c (.own 0 o0_31.length)), (8, .c (.int .i64 t58_30)), (57, .c (.int .i64 (((c_4).length : Int)))), (58, .c (.int .i64 t58_30)), (64, .c (.bool (decide (t58_30 < ((a1_order).length : Int)))))], [.arr 25 7 o0_31.length (gL cSCurtail dSCurtail o0_31)]⟩) (sub_gen [0] rfl rfl ⟨zc rfl rfl, zc rfl rfl, zc rfl rfl, zc rfl rfl, zc rfl rfl, zc rfl rfl, zc rfl rfl, trivial⟩ ⟨oa rfl, trivial⟩) ?_
          refine SOps.nil ?_
          rcases cond_out h with ⟨g46, h⟩ | ⟨g46, h⟩
          · refine SCode.cond_t rfl g46 ?_
            refine SCode.seq ?_
            obtain ⟨g47, h⟩ := guard_out h
            obtain ⟨g48, h⟩ := guard_out h
            refine SCode.region (show SOps _ _ _ [0, 1, 2, 3, 4, 5, 6, 7, 8] _ _ from ?_)
            refine SOps.q rfl (.plain rfl) rfl (q_move rfl rfl) ?_
            refine SOps.q rfl (.plain rfl) rfl (q_move rfl rfl) ?_
            refine SOps.q rfl (.plain rfl) rfl (q_index_vec rfl rfl rfl sl46 rfl g47.1 g47.2) ?_
            refine SOps.q rfl (.plain rfl) rfl (q_load_eptr rfl rfl ty5) ?_
            refine SOps.q rfl (.plain rfl) rfl (q_convert rfl rfl un5 un3) ?_
            refine SOps.q rfl (.plain rfl) rfl (q_move rfl rfl) ?_
            refine SOps.q rfl (.plain rfl) rfl (q_len_own rfl rfl sl34) ?_
            refine SOps.q rfl (.plain rfl) rfl (q_rem rfl rfl rfl g48) ?_
            refine SOps.q rfl (.plain rfl) rfl (q_assign rfl rfl) ?_
            refine SOps.sub (st' := ⟨[(0, .c (.vec a0_l.length 7 (gL cSCurtail dSCurtail a0_l))), (1, .c (.vec a1_order.length 1 (gL (cInt .u8) 0 a1_order))), (7, .c (.own 0 o0_31.length)), (8, .c (.int .i64 t58_30)), (9, .c (.int .i64 (Int.tmod (IntKind.wrap .i64 (a1_order.getD t58_30.toNat 0)) (((o0_31).length : Int))))), (57, .c (.int .i64 (((c_4).length : Int)))), (58, .c (.int .i64 t58_30))], [.arr 25 7 o0_31.length (gL cSCurtail dSCurtail o0_31)]⟩) (sub_gen [0] rfl rfl ⟨zc rfl rfl, zc rfl rfl, zc rfl rfl, zc rfl rfl, zc rfl rfl, zc rfl rfl, zc rfl rfl, trivial⟩ ⟨oa rfl, trivial⟩) ?_
            refine SOps.nil ?_
            obtain ⟨g49, h⟩ := guard_out h
            obtain ⟨g50, h⟩ := guard_out h
            obtain ⟨g51, h⟩ := guard_out h
            obtain ⟨g52, h⟩ := guard_out h
            refine SCode.draw2 (sH := [(85, .c (.aptr 0 7 t58_30.toNat 0)), (84, .a [.str ((o0_31.getD t58_30.toNat dSCurtail).Name), .int .i64 ((o0_31.getD t58_30.toNat dSCurtail).Version), .int .i64 ((o0_31.getD t58_30.toNat dSCurtail).Feeder), .int .i64 ((o0_31.getD t58_30.toNat dSCurtail).Span_From), .int .i64 ((o0_31.getD t58_30.toNat dSCurtail).Span_To), .int .i64 ((o0_31.getD t58_30.toNat dSCurtail).Total), .bool ((o0_31.getD t58_30.toNat dSCurtail).Cancelled)]), (83, .c (.aptr 0 7 t58_30.toNat 0)), (82, .c (.int .i64 t58_30)), (81, .c (.own 0 o0_31.length)), (80, .a [.str ((o0_31.getD ((Int.tmod (IntKind.wrap .i64 (a1_order.getD t58_30.toNat 0)) (((o0_31).length : Int))).toNat) dSCurtail).Name), .int .i64 ((o0_31.getD ((Int.tmod (IntKind.wrap .i64 (a1_order.getD t58_30.toNat 0)) (((o0_31).length : Int))).toNat) dSCurtail).Version), .int .i64 ((o0_31.getD ((Int.tmod (IntKind.wrap .i64 (a1_order.getD t58_30.toNat 0)) (((o0_31).length : Int))).toNat) dSCurtail).Feeder), .int .i64 ((o0_31.getD ((Int.tmod (IntKind.wrap .i64 (a1_order.getD t58_30.toNat 0)) (((o0_31).length : Int))).toNat) dSCurtail).Span_From), .int .i64 ((o0_31.getD ((Int.tmod (IntKind.wrap .i64 (a1_order.getD t58_30.toNat 0)) (((o0_31).length : Int))).toNat) dSCurtail).Span_To), .int .i64 ((o0_31.getD ((Int.tmod (IntKind.wrap .i64 (a1_order.getD t58_30.toNat 0)) (((o0_31).length : Int))).toNat) dSCurtail).Total), .bool ((o0_31.getD ((Int.tmod (IntKind.wrap .i64 (a1_order.getD t58_30.toNat 0)) (((o0_31).length : Int))).toNat) dSCurtail).Cancelled)]), (79, .c (.aptr 0 7 ((Int.tmod (IntKind.wrap .i64 (a1_order.getD t58_30.toNat 0)) (((o0_31).length : Int))).toNat) 0)), (78, .c (.int .i64 (Int.tmod (IntKind.wrap .i64 (a1_order.getD t58_30.toNat 0)) (((o0_31).length : Int))))), (77, .c (.own 0 o0_31.length)), (76, .c (.int .i64 (Int.tmod (IntKind.wrap .i64 (a1_order.getD t58_30.toNat 0)) (((o0_31).length : Int))))), (75, .c (.own 0 o0_31.length)), (74, .c (.int .i64 t58_30)), (73, .c (.own 0 o0_31.length)), (0, .c (.vec a0_l.length 7 (gL cSCurtail dSCurtail a0_l))), (1, .c (.vec a1_order.length 1 (gL (cInt .u8) 0 a1_order))), (7, .c (.own 0 o0_31.length)), (8, .c (.int .i64 t58_30)), (9, .c (.int .i64 (Int.tmod (IntKind.wrap .i64 (a1_order.getD t58_30.toNat 0)) (((o0_31).length : Int))))), (57, .c (.int .i64 (((c_4).length : Int)))), (58, .c (.int .i64 t58_30))]) mixed [[], [], [], [], [], [], [4, 5], [4, 5, 6], [], [], [8, 9], [8, 9, 10], [0, 1, 4, 5, 6, 7, 8, 9, 10, 11], [0, 1, 4, 5, 6, 7, 8, 9, 10, 11, 12], [0, 1, 2, 3, 4, 5, 6, 7, 8, 9, 10, 11, 12, 13], [0, 1, 2, 3, 4, 5, 6, 7, 8, 9, 10, 11, 12, 13, 14]] [13, 14, 15] (fun h => List.getD [[], [], [0], [0]] h []) rfl ?_ ⟨[(0, .c (.vec a0_l.length 7 (gL cSCurtail dSCurtail a0_l))), (1, .c (.vec a1_order.length 1 (gL (cInt .u8) 0 a1_order))), (7, .c (.own 0 ((o0_31.set t58_30.toNat (o0_31.getD ((Int.tmod (IntKind.wrap .i64 (a1_order.getD t58_30.toNat 0)) (((o0_31).length : Int))).toNat) dSCurtail)).set ((Int.tmod (IntKind.wrap .i64 (a1_order.getD t58_30.toNat 0)) (((o0_31).length : Int))).toNat) (o0_31.getD t58_30.toNat dSCurtail)).length)), (57, .c (.int .i64 (((c_4).length : Int)))), (58, .c (.int .i64 t58_30))], [.arr 25 7 ((o0_31.set t58_30.toNat (o0_31.getD ((Int.tmod (IntKind.wrap .i64 (a1_order.getD t58_30.toNat 0)) (((o0_31).length : Int))).toNat) dSCurtail)).set ((Int.tmod (IntKind.wrap .i64 (a1_order.getD t58_30.toNat 0)) (((o0_31).length : Int))).toNat) (o0_31.getD t58_30.toNat dSCurtail)).length (gL cSCurtail dSCurtail ((o0_31.set t58_30.toNat (o0_31.getD ((Int.tmod (IntKind.wrap .i64 (a1_order.getD t58_30.toNat 0)) (((o0_31).length : Int))).toNat) dSCurtail)).set ((Int.tmod (IntKind.wrap .i64 (a1_order.getD t58_30.toNat 0)) (((o0_31).length : Int))).toNat) (o0_31.getD t58_30.toNat dSCurtail)))]⟩ ?_ ?_
            · refine HChain.run rfl rfl (.plain rfl) rfl (fun f x => q_move rfl rfl) ?_
              refine HChain.run rfl rfl (.plain rfl) rfl (fun f x => q_move rfl rfl) ?_
              refine HChain.run rfl rfl (.plain rfl) rfl (fun f x => q_move rfl rfl) ?_
              refine HChain.run rfl rfl (.plain rfl) rfl (fun f x => q_move rfl rfl) ?_
              refine HChain.run rfl rfl (.plain rfl) rfl (fun f x => q_move rfl rfl) ?_
              refine HChain.run rfl rfl (.plain rfl) rfl (fun f x => q_move rfl rfl) ?_
              refine HChain.run rfl rfl (.plain rfl) rfl (fun f x => q_index_own rfl rfl rfl sl34 g49.1 g49.2) ?_
              refine HChain.run rfl rfl (.plain rfl) rfl (fun f x => q_load_aptr_all rfl rfl rfl (toNat_lt g49) rfl ty25) ?_
              refine HChain.run rfl rfl (.plain rfl) rfl (fun f x => q_move rfl rfl) ?_
              refine HChain.run rfl rfl (.plain rfl) rfl (fun f x => q_move rfl rfl) ?_
              refine HChain.run rfl rfl (.plain rfl) rfl (fun f x => q_index_own rfl rfl rfl sl34 g50.1 g50.2) ?_
              refine HChain.run rfl rfl (.plain rfl) rfl (fun f x => q_load_aptr_all rfl rfl rfl (toNat_lt g50) rfl ty25) ?_
              refine HChain.run rfl rfl (.plain rfl) rfl (fun f x => q_index_own rfl rfl rfl sl34 g51.1 g51.2) ?_
              refine HChain.tail rfl ?_
              refine HChain.tail rfl ?_
              refine HChain.tail rfl ?_
              exact HChain.nil _ _
            · refine TTree.node 13 [] rfl ?_
              refine AllP.cons ?_ ?_
              · refine TStep.n (objs' := [.arr 25 7 (o0_31.set t58_30.toNat (o0_31.getD ((Int.tmod (IntKind.wrap .i64 (a1_order.getD t58_30.toNat 0)) (((o0_31).length : Int))).toNat) dSCurtail)).length (gL cSCurtail dSCurtail (o0_31.set t58_30.toNat (o0_31.getD ((Int.tmod (IntKind.wrap .i64 (a1_order.getD t58_30.toNat 0)) (((o0_31).length : Int))).toNat) dSCurtail)))]) [0] rfl rfl rfl rfl (fun s2 => by refine EOp.eq (e_storeL (o0_31.getD ((Int.tmod (IntKind.wrap .i64 (a1_order.getD t58_30.toNat 0)) (((o0_31).length : Int))).toNat) dSCurtail) rfl rfl rfl rfl rfl (toNat_lt g51) ty25 rfl rfl rfl rfl rfl rfl) ?_; rfl) ?_
                refine ⟨rfl, (SameP.zero.w rfl), ?_⟩
                refine TTree.node 14 [] rfl ?_
                refine AllP.cons ?_ ?_
                · refine TStep.d (objs' := [.arr 25 7 (o0_31.set t58_30.toNat (o0_31.getD ((Int.tmod (IntKind.wrap .i64 (a1_order.getD t58_30.toNat 0)) (((o0_31).length : Int))).toNat) dSCurtail)).length (gL cSCurtail dSCurtail (o0_31.set t58_30.toNat (o0_31.getD ((Int.tmod (IntKind.wrap .i64 (a1_order.getD t58_30.toNat 0)) (((o0_31).length : Int))).toNat) dSCurtail)))]) (v := .c (.aptr 0 7 ((Int.tmod (IntKind.wrap .i64 (a1_order.getD t58_30.toNat 0)) (((o0_31).length : Int))).toNat) 0)) [] 86 rfl rfl rfl rfl rfl (fun s2 => by refine EOp.eq (EOp.qd rfl rfl (q_index_own rfl rfl rfl sl34 g52.1 (lenlt (List.length_set : (o0_31.set t58_30.toNat (o0_31.getD ((Int.tmod (IntKind.wrap .i64 (a1_order.getD t58_30.toNat 0)) (((o0_31).length : Int))).toNat) dSCurtail)).length = o0_31.length) g52.2))) ?_; rfl) ?_
                  refine ⟨rfl, (SameP.zero.s rfl), ?_⟩
                  refine TTree.node 15 [] rfl ?_
                  refine AllP.cons ?_ ?_
                  · refine TStep.n (objs' := [.arr 25 7 ((o0_31.set t58_30.toNat (o0_31.getD ((Int.tmod (IntKind.wrap .i64 (a1_order.getD t58_30.toNat 0)) (((o0_31).length : Int))).toNat) dSCurtail)).set ((Int.tmod (IntKind.wrap .i64 (a1_order.getD t58_30.toNat 0)) (((o0_31).length : Int))).toNat) (o0_31.getD t58_30.toNat dSCurtail)).length (gL cSCurtail dSCurtail ((o0_31.set t58_30.toNat (o0_31.getD ((Int.tmod (IntKind.wrap .i64 (a1_order.getD t58_30.toNat 0)) (((o0_31).length : Int))).toNat) dSCurtail)).set ((Int.tmod (IntKind.wrap .i64 (a1_order.getD t58_30.toNat 0)) (((o0_31).length : Int))).toNat) (o0_31.getD t58_30.toNat dSCurtail)))]) [0] rfl rfl rfl rfl (fun s2 => by refine EOp.eq (e_storeL (o0_31.getD t58_30.toNat dSCurtail) rfl rfl rfl rfl rfl (toNat_lt g52) ty25 rfl rfl rfl rfl rfl rfl) ?_; rfl) ?_
                    refine ⟨rfl, (SameP.zero.w rfl), ?_⟩
                    exact TTree.leaf rfl (sub_gen [0] rfl rfl ⟨zc rfl rfl, zc rfl rfl, ⟨_, rfl, .inl ⟨rfl, congrArg (Cell.own 0) ((List.length_set : ((o0_31.set t58_30.toNat (o0_31.getD ((Int.tmod (IntKind.wrap .i64 (a1_order.getD t58_30.toNat 0)) (((o0_31).length : Int))).toNat) dSCurtail)).set ((Int.tmod (IntKind.wrap .i64 (a1_order.getD t58_30.toNat 0)) (((o0_31).length : Int))).toNat) (o0_31.getD t58_30.toNat dSCurtail)).length = (o0_31.set t58_30.toNat (o0_31.getD ((Int.tmod (IntKind.wrap .i64 (a1_order.getD t58_30.toNat 0)) (((o0_31).length : Int))).toNat) dSCurtail)).length).trans (List.length_set : (o0_31.set t58_30.toNat (o0_31.getD ((Int.tmod (IntKind.wrap .i64 (a1_order.getD t58_30.toNat 0)) (((o0_31).length : Int))).toNat) dSCurtail)).length = o0_31.length)).symm⟩⟩, zc rfl rfl, zc rfl rfl, trivial⟩ ⟨oa rfl, trivial⟩)
                  exact AllP.nil
                exact AllP.nil
              exact AllP.nil
            exact ⟨(o0_31.set t58_30.toNat (o0_31.getD ((Int.tmod (IntKind.wrap .i64 (a1_order.getD t58_30.toNat 0)) (((o0_31).length : Int))).toNat) dSCurtail)).set ((Int.tmod (IntKind.wrap .i64 (a1_order.getD t58_30.toNat 0)) (((o0_31).length : Int))).toNat) (o0_31.getD t58_30.toNat dSCurtail), h, sub_gen [0] rfl rfl ⟨zc rfl rfl, zc rfl rfl, zc rfl rfl, zc rfl rfl, zc rfl rfl, trivial⟩ ⟨oa rfl, trivial⟩⟩
          refine SCode.cond_f rfl g46 ?_
          refine SCode.skip ?_
          exact ⟨o0_31, h, sub_gen [0] rfl rfl ⟨zc rfl rfl, zc rfl rfl, zc rfl rfl, zc rfl rfl, zc rfl rfl, trivial⟩ ⟨oa rfl, trivial⟩⟩
        rintro o0_44 h
        show SCode _ _ _ ⟨[(0, .c (.vec a0_l.length 7 (gL cSCurtail dSCurtail a0_l))), (1, .c (.vec a1_order.length 1 (gL (cInt .u8) 0 a1_order))), (7, .c (.own 0 o0_44.length)), (57, .c (.int .i64 (((c_4).length : Int)))), (58, .c (.int .i64 t58_30))], [.arr 25 7 o0_44.length (gL cSCurtail dSCurtail o0_44)]⟩ _
        replace h : chargenetlaw13_CurtailOrder_p45 t58_30 (fun t58_30 o0_31 => chargenetlaw13_CurtailOrder_l42 F a0_l a1_order c_4 n_42 t58_30 o0_31) o0_44 = some r := h
        unfold chargenetlaw13_CurtailOrder_p45 at h
        refine SCode.region (show SOps _ _ _ [0, 1] _ _ from ?_)
        refine SOps.q rfl (.plain rfl) rfl (q_add rfl rfl rfl) ?_
        refine SOps.q rfl (.plain rfl) rfl (q_move rfl rfl) ?_
        refine SOps.sub (st' := ⟨[(0, .c (.vec a0_l.length 7 (gL cSCurtail dSCurtail a0_l))), (1, .c (.vec a1_order.length 1 (gL (cInt .u8) 0 a1_order))), (7, .c (.own 0 o0_44.length)), (57, .c (.int .i64 (((c_4).length : Int)))), (58, .c (.int .i64 (IntKind.wrap .i64 (t58_30 + 1))))], [.arr 25 7 o0_44.length (gL cSCurtail dSCurtail o0_44)]⟩) (sub_gen [0] rfl rfl ⟨zc rfl rfl, zc rfl rfl, zc rfl rfl, zc rfl rfl, zc rfl rfl, trivial⟩ ⟨oa rfl, trivial⟩) ?_
        refine SOps.nil ?_
        exact ⟨(n_42, (IntKind.wrap .i64 (t58_30 + 1), o0_44)), h, Nat.lt_succ_self n_42, sub_gen [0] rfl rfl ⟨zc rfl rfl, zc rfl rfl, zc rfl rfl, zc rfl rfl, zc rfl rfl, trivial⟩ ⟨oa rfl, trivial⟩⟩
      refine SCode.cond_f rfl g43 ?_
      refine SCode.exit ?_
      exact ⟨o0_31, h, sub_gen [0] rfl rfl ⟨zc rfl rfl, zc rfl rfl, trivial⟩ ⟨oa rfl, trivial⟩⟩
  rintro o0_6 h
  show SCode _ _ _ ⟨[(0, .c (.vec a0_l.length 7 (gL cSCurtail dSCurtail a0_l))), (7, .c (.own 0 o0_6.length))], [.arr 25 7 o0_6.length (gL cSCurtail dSCurtail o0_6)]⟩ _
  replace h : chargenetlaw13_CurtailOrder_p19 F a0_l o0_6 = some r := h
  unfold chargenetlaw13_CurtailOrder_p19 at h
  refine SCode.seq ?_
  obtain ⟨c_7, g8, h⟩ := bind_out h
  try dsimp only at h
  refine SCode.region (show SOps _ _ _ [0, 1, 2, 3, 4, 5, 6] _ _ from ?_)
  refine SOps.q rfl (.plain rfl) rfl (q_move rfl rfl) ?_
  refine SOps.q rfl (.plain rfl) rfl (q_call (chargenetlaw13_build_ok F a0_l c_7 g8) [] rfl fn15 ⟨⟨_, rfl, .inl ⟨rfl, rfl⟩⟩, trivial⟩ (.inl rfl)) ?_
  refine SOps.q rfl (.plain rfl) rfl (q_move rfl rfl) ?_
  refine SOps.q rfl (.plain rfl) rfl (q_extract rfl rfl rfl) ?_
  refine SOps.q rfl (.plain rfl) rfl (q_extract rfl rfl rfl) ?_
  refine SOps.q rfl (.plain rfl) rfl (q_assign rfl rfl) ?_
  refine SOps.q rfl (.plain rfl) rfl (q_assign rfl rfl) ?_
  refine SOps.sub (st' := ⟨[(7, .c (.own 0 o0_6.length)), (10, .c (.vec c_7.1.length 7 (gL cSCurtail dSCurtail c_7.1))), (11, .c (.bool c_7.2))], [.arr 25 7 o0_6.length (gL cSCurtail dSCurtail o0_6)]⟩) (sub_gen [0] rfl rfl ⟨zc rfl rfl, zc rfl rfl, zc rfl rfl, trivial⟩ ⟨oa rfl, trivial⟩) ?_
  refine SOps.nil ?_
  refine SCode.seq ?_
  refine SCode.sub (st' := ⟨[(7, .c (.vec o0_6.length 7 (gL cSCurtail dSCurtail o0_6))), (10, .c (.vec c_7.1.length 7 (gL cSCurtail dSCurtail c_7.1))), (11, .c (.bool c_7.2))], []⟩) (sub_gen [] rfl rfl ⟨⟨_, rfl, .inr (.inl ⟨_, _, _, _, _, _, _, rfl, rfl, rfl, Nat.le_refl _, fun _ _ _ _ => rfl, by decide⟩)⟩, zc rfl rfl, zc rfl rfl, trivial⟩ trivial) ?_
  obtain ⟨c_10, g11, h⟩ := bind_out h
  try dsimp only at h
  refine SCode.region (show SOps _ _ _ [0, 1, 2, 3, 4, 5, 6] _ _ from ?_)
  refine SOps.q rfl (.plain rfl) rfl (q_move rfl rfl) ?_
  refine SOps.q rfl (.plain rfl) rfl (q_call (chargenetlaw13_build_ok F o0_6 c_10 g11) [] rfl fn15 ⟨⟨_, rfl, .inl ⟨rfl, rfl⟩⟩, trivial⟩ (.inl rfl)) ?_
  refine SOps.q rfl (.plain rfl) rfl (q_move rfl rfl) ?_
  refine SOps.q rfl (.plain rfl) rfl (q_extract rfl rfl rfl) ?_
  refine SOps.q rfl (.plain rfl) rfl (q_extract rfl rfl rfl) ?_
  refine SOps.q rfl (.plain rfl) rfl (q_assign rfl rfl) ?_
  refine SOps.q rfl (.plain rfl) rfl (q_assign rfl rfl) ?_
  refine SOps.sub (st' := ⟨[(10, .c (.vec c_7.1.length 7 (gL cSCurtail dSCurtail c_7.1))), (11, .c (.bool c_7.2)), (12, .c (.vec c_10.1.length 7 (gL cSCurtail dSCurtail c_10.1))), (13, .c (.bool c_10.2))], []⟩) (sub_gen [] rfl rfl ⟨zc rfl rfl, zc rfl rfl, zc rfl rfl, zc rfl rfl, trivial⟩ trivial) ?_
  refine SOps.nil ?_
  refine SCode.seq ?_
  rcases cond_out h with ⟨g12, h⟩ | ⟨g12, h⟩
  · rcases cond_out h with ⟨g13, h⟩ | ⟨g13, h⟩
    · obtain ⟨c_14, g15, h⟩ := bind_out h
      try dsimp only at h
      rcases cond_out h with ⟨g16, h⟩ | ⟨g16, h⟩
      · obtain ⟨c_17, g18, h⟩ := bind_out h
        try dsimp only at h
        refine SCode.region (show SOps _ _ _ [0, 1, 2, 3, 4, 5, 6, 7, 8, 9, 10, 11, 12] _ _ from ?_)
        refine SOps.q rfl (.plain rfl) rfl (q_move rfl rfl) ?_
        refine SOps.q rfl (.plain rfl) rfl (q_move rfl rfl) ?_
        refine SOps.q rfl (.guard 1 99 true rfl rfl (gT g12)) rfl (q_move rfl rfl) ?_
        refine SOps.q rfl (.plain rfl) rfl (q_pick_t rfl rfl g12 rfl) ?_
        refine SOps.q rfl (.plain rfl) rfl (q_move rfl rfl) ?_
        refine SOps.q rfl (.guard 4 102 true rfl rfl (gT g13)) rfl (q_move rfl rfl) ?_
        refine SOps.q rfl (.guard 4 102 true rfl rfl (gT g13)) rfl (q_move rfl rfl) ?_
        refine SOps.q rfl (.guard 4 102 true rfl rfl (gT g13)) rfl (q_call (slices_Equal_api_Curtail_api_Curtail_ok F c_7.1 c_10.1 c_14 g15) [] rfl fn14 ⟨⟨_, rfl, .inl ⟨rfl, rfl⟩⟩, ⟨_, rfl, .inl ⟨rfl, rfl⟩⟩, trivial⟩ (.inl rfl)) ?_
        refine SOps.q rfl (.plain rfl) rfl (q_pick_t rfl rfl g13 rfl) ?_
        refine SOps.q rfl (.plain rfl) rfl (q_move rfl rfl) ?_
        refine SOps.q rfl (.guard 9 107 true rfl rfl (gT g16)) rfl (q_call (chargenetlaw13_exampleHolds_ok F  c_17 g18) [] rfl fn9 trivial (.inl rfl)) ?_
        refine SOps.q rfl (.plain rfl) rfl (q_pick_t rfl rfl g16 rfl) ?_
        refine SOps.q rfl (.plain rfl) rfl (q_assign rfl rfl) ?_
        refine SOps.sub (st' := ⟨[(4, .c (.bool c_17))], []⟩) (sub_gen [] rfl rfl ⟨zc rfl rfl, trivial⟩ trivial) ?_
        refine SOps.nil ?_
        refine SCode.ret ?_
        obtain rfl := Option.some.inj h
        exact ⟨⟨[(4, .c (.bool c_17))], []⟩, _, sub_gen [] rfl rfl ⟨zc rfl rfl, trivial⟩ trivial, resA1 (v := .c (.bool c_17)) rfl rfl, rfl⟩
      refine SCode.region (show SOps _ _ _ [0, 1, 2, 3, 4, 5, 6, 7, 8, 9, 10, 11, 12] _ _ from ?_)
      refine SOps.q rfl (.plain rfl) rfl (q_move rfl rfl) ?_
      refine SOps.q rfl (.plain rfl) rfl (q_move rfl rfl) ?_
      refine SOps.q rfl (.guard 1 99 true rfl rfl (gT g12)) rfl (q_move rfl rfl) ?_
      refine SOps.q rfl (.plain rfl) rfl (q_pick_t rfl rfl g12 rfl) ?_
      refine SOps.q rfl (.plain rfl) rfl (q_move rfl rfl) ?_
      refine SOps.q rfl (.guard 4 102 true rfl rfl (gT g13)) rfl (q_move rfl rfl) ?_
      refine SOps.q rfl (.guard 4 102 true rfl rfl (gT g13)) rfl (q_move rfl rfl) ?_
      refine SOps.q rfl (.guard 4 102 true rfl rfl (gT g13)) rfl (q_call (slices_Equal_api_Curtail_api_Curtail_ok F c_7.1 c_10.1 c_14 g15) [] rfl fn14 ⟨⟨_, rfl, .inl ⟨rfl, rfl⟩⟩, ⟨_, rfl, .inl ⟨rfl, rfl⟩⟩, trivial⟩ (.inl rfl)) ?_
      refine SOps.q rfl (.plain rfl) rfl (q_pick_t rfl rfl g13 rfl) ?_
      refine SOps.q rfl (.plain rfl) rfl (q_move rfl rfl) ?_
      refine SOps.skip rfl 9 107 true rfl rfl (.inl (gF g16)) rfl ?_
      refine SOps.q rfl (.plain rfl) rfl (q_pick_f rfl rfl g16 rfl) ?_
      refine SOps.q rfl (.plain rfl) rfl (q_assign rfl rfl) ?_
      refine SOps.sub (st' := ⟨[(4, .c (.bool false))], []⟩) (sub_gen [] rfl rfl ⟨zc rfl rfl, trivial⟩ trivial) ?_
      refine SOps.nil ?_
      refine SCode.ret ?_
      obtain rfl := Option.some.inj h
      exact ⟨⟨[(4, .c (.bool false))], []⟩, _, sub_gen [] rfl rfl ⟨zc rfl rfl, trivial⟩ trivial, resA1 (v := .c (.bool false)) rfl rfl, rfl⟩
    refine SCode.region (show SOps _ _ _ [0, 1, 2, 3, 4, 5, 6, 7, 8, 9, 10, 11, 12] _ _ from ?_)
    refine SOps.q rfl (.plain rfl) rfl (q_move rfl rfl) ?_
    refine SOps.q rfl (.plain rfl) rfl (q_move rfl rfl) ?_
    refine SOps.q rfl (.guard 1 99 true rfl rfl (gT g12)) rfl (q_move rfl rfl) ?_
    refine SOps.q rfl (.plain rfl) rfl (q_pick_t rfl rfl g12 rfl) ?_
    refine SOps.q rfl (.plain rfl) rfl (q_move rfl rfl) ?_
    refine SOps.skip rfl 4 102 true rfl rfl (.inl (gF g13)) rfl ?_
    refine SOps.skip rfl 4 102 true rfl rfl (.inl (gF g13)) rfl ?_
    refine SOps.skip rfl 4 102 true rfl rfl (.inl (gF g13)) rfl ?_
    refine SOps.q rfl (.plain rfl) rfl (q_pick_f rfl rfl g13 rfl) ?_
    refine SOps.q rfl (.plain rfl) rfl (q_move rfl rfl) ?_
    refine SOps.skip rfl 9 107 true rfl rfl (.inl rfl) rfl ?_
    refine SOps.q rfl (.plain rfl) rfl (q_pick_f rfl rfl rfl rfl) ?_
    refine SOps.q rfl (.plain rfl) rfl (q_assign rfl rfl) ?_
    refine SOps.sub (st' := ⟨[(4, .c (.bool false))], []⟩) (sub_gen [] rfl rfl ⟨zc rfl rfl, trivial⟩ trivial) ?_
    refine SOps.nil ?_
    refine SCode.ret ?_
    obtain rfl := Option.some.inj h
    exact ⟨⟨[(4, .c (.bool false))], []⟩, _, sub_gen [] rfl rfl ⟨zc rfl rfl, trivial⟩ trivial, resA1 (v := .c (.bool false)) rfl rfl, rfl⟩
  refine SCode.region (show SOps _ _ _ [0, 1, 2, 3, 4, 5, 6, 7, 8, 9, 10, 11, 12] _ _ from ?_)
  refine SOps.q rfl (.plain rfl) rfl (q_move rfl rfl) ?_
  refine SOps.q rfl (.plain rfl) rfl (q_move rfl rfl) ?_
  refine SOps.skip rfl 1 99 true rfl rfl (.inl (gF g12)) rfl ?_
  refine SOps.q rfl (.plain rfl) rfl (q_pick_f rfl rfl g12 rfl) ?_
  refine SOps.q rfl (.plain rfl) rfl (q_move rfl rfl) ?_
  refine SOps.skip rfl 4 102 true rfl rfl (.inl rfl) rfl ?_
  refine SOps.skip rfl 4 102 true rfl rfl (.inl rfl) rfl ?_
  refine SOps.skip rfl 4 102 true rfl rfl (.inl rfl) rfl ?_
  refine SOps.q rfl (.plain rfl) rfl (q_pick_f rfl rfl rfl rfl) ?_
  refine SOps.q rfl (.plain rfl) rfl (q_move rfl rfl) ?_
  refine SOps.skip rfl 9 107 true rfl rfl (.inl rfl) rfl ?_
  refine SOps.q rfl (.plain rfl) rfl (q_pick_f rfl rfl rfl rfl) ?_
  refine SOps.q rfl (.plain rfl) rfl (q_assign rfl rfl) ?_
  refine SOps.sub (st' := ⟨[(4, .c (.bool false))], []⟩) (sub_gen [] rfl rfl ⟨zc rfl rfl, trivial⟩ trivial) ?_
  refine SOps.nil ?_
  refine SCode.ret ?_
  obtain rfl := Option.some.inj h
  exact ⟨⟨[(4, .c (.bool false))], []⟩, _, sub_gen [] rfl rfl ⟨zc rfl rfl, trivial⟩ trivial, resA1 (v := .c (.bool false)) rfl rfl, rfl⟩
end Go.Proofs.Ytcccjpkfifefaaa.W
