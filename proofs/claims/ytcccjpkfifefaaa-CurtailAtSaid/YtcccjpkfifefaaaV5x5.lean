/- Written by a program of ours (wip/eng/gen.py): the functions compute their models. -/
import Derived.Test.YtcccjpkfifefaaaFacts
import Derived.Test.YtcccjpkfifefaaaV5x4
namespace Go.Proofs.Ytcccjpkfifefaaa.W
open Go Go.Proofs Go.Proofs.Ytcccjpkfifefaaa.E Go.Proofs.Ytcccjpkfifefaaa.M
set_option linter.unusedVariables false
set_option maxRecDepth 100000 in
set_option maxHeartbeats 8000000 in
theorem chargenetlaw13_build_ok (F : Nat) (a0_l : List SCurtail) (r : (List SCurtail) × Bool) (h : chargenetlaw13_build F a0_l = some r) :
    SFun Try.prog 15 [] [.c (.vec a0_l.length 7 (gL cSCurtail dSCurtail a0_l))] (fun x _ => x = .t [.c (.vec r.1.length 7 (gL cSCurtail dSCurtail r.1)), .c (.bool r.2)]) := by
  refine SFun.of (n := 33) Try.func15 rfl rfl rfl ?_
  unfold chargenetlaw13_build at h
  show SCode _ _ _ ⟨[(0, .c (.vec a0_l.length 7 (gL cSCurtail dSCurtail a0_l)))], []⟩ _
  refine SCode.seq ?_
  refine SCode.region (show SOps _ _ _ [0, 1] _ _ from ?_)
  refine SOps.q rfl (.plain rfl) rfl (q_assign rfl rfl) ?_
  refine SOps.q rfl (.plain rfl) rfl (q_assign rfl rfl) ?_
  refine SOps.sub (st' := ⟨[(0, .c (.vec a0_l.length 7 (gL cSCurtail dSCurtail a0_l)))], []⟩) (sub_gen [] rfl rfl ⟨zc rfl rfl, trivial⟩ trivial) ?_
  refine SOps.nil ?_
  refine SCode.seq ?_
  refine SCode.region (show SOps _ _ _ [0] _ _ from ?_)
  refine SOps.q rfl (.plain rfl) rfl (q_assign rfl rfl) ?_
  refine SOps.sub (st' := ⟨[(0, .c (.vec a0_l.length 7 (gL cSCurtail dSCurtail a0_l))), (4, .c (.raw (.slice none 0 0)))], []⟩) (sub_gen [] rfl rfl ⟨zc rfl rfl, zc rfl rfl, trivial⟩ trivial) ?_
  refine SOps.nil ?_
  refine SCode.join (σ := (List SCurtail)) (S := fun s => ⟨[(4, .c (.vec s.length 7 (gL cSCurtail dSCurtail s)))], []⟩) (g := fun s => chargenetlaw13_build_p2 s = some r) ?_ ?_
  rotate_left
  · refine SCode.seq ?_
    refine SCode.region (show SOps _ _ _ [0, 1, 2] _ _ from ?_)
    refine SOps.q rfl (.plain rfl) rfl (q_move rfl rfl) ?_
    refine SOps.q rfl (.plain rfl) rfl (q_len_vec rfl rfl sl34) ?_
    refine SOps.q rfl (.plain rfl) rfl (q_move rfl rfl) ?_
    refine SOps.sub (st' := ⟨[(0, .c (.vec a0_l.length 7 (gL cSCurtail dSCurtail a0_l))), (4, .c (.raw (.slice none 0 0))), (9, .c (.int .i64 (((a0_l).length : Int)))), (10, .c (.int .i64 0))], []⟩) (sub_gen [] rfl rfl ⟨zc rfl rfl, zc rfl rfl, zc rfl rfl, zc rfl rfl, trivial⟩ trivial) ?_
    refine SOps.nil ?_
    refine SCode.block ?_
    refine SCode.sub (st' := ⟨[(0, .c (.vec a0_l.length 7 (gL cSCurtail dSCurtail a0_l))), (4, .c (.vec ([] : List SCurtail).length 7 (gL cSCurtail dSCurtail ([] : List SCurtail)))), (9, .c (.int .i64 (((a0_l).length : Int)))), (10, .c (.int .i64 0))], []⟩) (sub_gen [] rfl rfl ⟨zc rfl rfl, ⟨_, rfl, .inr (.inr (.inr (.inl ⟨_, _, rfl, rfl⟩)))⟩, zc rfl rfl, zc rfl rfl, trivial⟩ trivial) ?_
    refine (SCode.loop (σ := Nat × ((List SCurtail) × Int)) (S := fun s => ⟨[(0, .c (.vec a0_l.length 7 (gL cSCurtail dSCurtail a0_l))), (4, .c (.vec s.2.1.length 7 (gL cSCurtail dSCurtail s.2.1))), (9, .c (.int .i64 (((a0_l).length : Int)))), (10, .c (.int .i64 s.2.2))], []⟩) (g := fun s => chargenetlaw13_build_l23 F a0_l s.1 s.2.1 s.2.2 = some r) (μ := fun s => s.1) (F, ([], 0)) h ?_)
    rintro ⟨n_23, ⟨out_12, t10_13⟩⟩ h
    replace h : chargenetlaw13_build_l23 F a0_l n_23 out_12 t10_13 = some r := h
    show SCode _ _ _ ⟨[(0, .c (.vec a0_l.length 7 (gL cSCurtail dSCurtail a0_l))), (4, .c (.vec out_12.length 7 (gL cSCurtail dSCurtail out_12))), (9, .c (.int .i64 (((a0_l).length : Int)))), (10, .c (.int .i64 t10_13))], []⟩ _
    cases n_23 with
    | zero => cases h
    | succ n_23 =>
      replace h : chargenetlaw13_build_b23 F a0_l (fun out_12 t10_13 => chargenetlaw13_build_l23 F a0_l n_23 out_12 t10_13) out_12 t10_13 = some r := h
      unfold chargenetlaw13_build_b23 at h
      refine SCode.seq ?_
      refine SCode.region (show SOps _ _ _ [0] _ _ from ?_)
      refine SOps.q rfl (.plain rfl) rfl (q_lss rfl rfl rfl) ?_
      refine SOps.sub (st' := ⟨[(0, .c (.vec a0_l.length 7 (gL cSCurtail dSCurtail a0_l))), (4, .c (.vec out_12.length 7 (gL cSCurtail dSCurtail out_12))), (9, .c (.int .i64 (((a0_l).length : Int)))), (10, .c (.int .i64 t10_13)), (11, .c (.bool (decide (t10_13 < ((a0_l).length : Int)))))], []⟩) (sub_gen [] rfl rfl ⟨zc rfl rfl, zc rfl rfl, zc rfl rfl, zc rfl rfl, zc rfl rfl, trivial⟩ trivial) ?_
      refine SOps.nil ?_
      refine SCode.seq ?_
      rcases cond_out h with ⟨g24, h⟩ | ⟨g24, h⟩
      · refine SCode.cond_t rfl g24 ?_
        refine SCode.skip ?_
        refine SCode.seq ?_
        refine SCode.block ?_
        refine SCode.seq ?_
        refine SCode.region (show SOps _ _ _ [0, 1] _ _ from ?_)
        refine SOps.q rfl (.plain rfl) rfl (q_move rfl rfl) ?_
        refine SOps.q rfl (.plain rfl) rfl (q_assign rfl rfl) ?_
        refine SOps.sub (st' := ⟨[(0, .c (.vec a0_l.length 7 (gL cSCurtail dSCurtail a0_l))), (4, .c (.vec out_12.length 7 (gL cSCurtail dSCurtail out_12))), (5, .c (.int .i64 t10_13)), (9, .c (.int .i64 (((a0_l).length : Int)))), (10, .c (.int .i64 t10_13))], []⟩) (sub_gen [] rfl rfl ⟨zc rfl rfl, zc rfl rfl, zc rfl rfl, zc rfl rfl, zc rfl rfl, trivial⟩ trivial) ?_
        refine SOps.nil ?_
        refine SCode.seq ?_
        obtain ⟨g25, h⟩ := guard_out h
        obtain ⟨c_26, g27, h⟩ := bind_out h
        try dsimp only at h
        refine SCode.region (show SOps _ _ _ [0, 1, 2, 3, 4, 5, 6, 7, 8, 9, 10] _ _ from ?_)
        refine SOps.q rfl (.plain rfl) rfl (q_move rfl rfl) ?_
        refine SOps.q rfl (.plain rfl) rfl (q_move rfl rfl) ?_
        refine SOps.q rfl (.plain rfl) rfl (q_move rfl rfl) ?_
        refine SOps.q rfl (.plain rfl) rfl (q_index_vec rfl rfl rfl sl34 rfl g25.1 g25.2) ?_
        refine SOps.q rfl (.plain rfl) rfl (q_load_eptr_all rfl rfl rfl ty25) ?_
        refine SOps.q rfl (.plain rfl) rfl (q_call (curtail_Put_ok F out_12 (a0_l.getD t10_13.toNat dSCurtail) c_26 g27) [] rfl fn12 ⟨⟨_, rfl, .inl ⟨rfl, rfl⟩⟩, ⟨rfl, rfl⟩, trivial⟩ (.inl rfl)) ?_
        refine SOps.q rfl (.plain rfl) rfl (q_move rfl rfl) ?_
        refine SOps.q rfl (.plain rfl) rfl (q_extract rfl rfl rfl) ?_
        refine SOps.q rfl (.plain rfl) rfl (q_extract rfl rfl rfl) ?_
        refine SOps.q rfl (.plain rfl) rfl (q_assign rfl rfl) ?_
        refine SOps.q rfl (.plain rfl) rfl (q_assign rfl rfl) ?_
        refine SOps.sub (st' := ⟨[(0, .c (.vec a0_l.length 7 (gL cSCurtail dSCurtail a0_l))), (4, .c (.vec out_12.length 7 (gL cSCurtail dSCurtail out_12))), (6, .c (.vec c_26.1.length 7 (gL cSCurtail dSCurtail c_26.1))), (7, .c (.int .i64 c_26.2)), (9, .c (.int .i64 (((a0_l).length : Int)))), (10, .c (.int .i64 t10_13))], []⟩) (sub_gen [] rfl rfl ⟨zc rfl rfl, zc rfl rfl, zc rfl rfl, zc rfl rfl, zc rfl rfl, zc rfl rfl, trivial⟩ trivial) ?_
        refine SOps.nil ?_
        refine SCode.join (σ := Unit) (S := fun s => ⟨[(0, .c (.vec a0_l.length 7 (gL cSCurtail dSCurtail a0_l))), (6, .c (.vec c_26.1.length 7 (gL cSCurtail dSCurtail c_26.1))), (9, .c (.int .i64 (((a0_l).length : Int)))), (10, .c (.int .i64 t10_13))], []⟩) (g := fun s => chargenetlaw13_build_p28 t10_13 (fun out_12 t10_13 => chargenetlaw13_build_l23 F a0_l n_23 out_12 t10_13) c_26 = some r) ?_ ?_
        rotate_left
        · refine SCode.seq ?_
          rcases cond_out h with ⟨g29, h⟩ | ⟨g29, h⟩
          · obtain ⟨c_30, g31, h⟩ := bind_out h
            try dsimp only at h
            refine SCode.region (show SOps _ _ _ [0, 1, 2, 3, 4, 5, 6, 7] _ _ from ?_)
            refine SOps.q rfl (.plain rfl) rfl (q_move rfl rfl) ?_
            refine SOps.q rfl (.plain rfl) rfl (q_neq rfl rfl rfl) ?_
            refine SOps.q rfl (.plain rfl) rfl (q_move rfl rfl) ?_
            refine SOps.q rfl (.guard 2 24 true rfl rfl (gT g29)) rfl (q_move rfl rfl) ?_
            refine SOps.q rfl (.guard 2 24 true rfl rfl (gT g29)) rfl (q_move rfl rfl) ?_
            refine SOps.q rfl (.guard 2 24 true rfl rfl (gT g29)) rfl (q_call (slices_Equal_api_Curtail_api_Curtail_ok F c_26.1 out_12 c_30 g31) [] rfl fn14 ⟨⟨_, rfl, .inl ⟨rfl, rfl⟩⟩, ⟨_, rfl, .inl ⟨rfl, rfl⟩⟩, trivial⟩ (.inl rfl)) ?_
            refine SOps.q rfl (.guard 2 24 true rfl rfl (gT g29)) rfl (q_not rfl rfl) ?_
            refine SOps.q rfl (.plain rfl) rfl (q_pick_t rfl rfl g29 rfl) ?_
            refine SOps.sub (st' := ⟨[(0, .c (.vec a0_l.length 7 (gL cSCurtail dSCurtail a0_l))), (6, .c (.vec c_26.1.length 7 (gL cSCurtail dSCurtail c_26.1))), (9, .c (.int .i64 (((a0_l).length : Int)))), (10, .c (.int .i64 t10_13)), (29, .c (.bool ((!c_30))))], []⟩) (sub_gen [] rfl rfl ⟨zc rfl rfl, zc rfl rfl, zc rfl rfl, zc rfl rfl, zc rfl rfl, trivial⟩ trivial) ?_
            refine SOps.nil ?_
            rcases cond_out h with ⟨g32, h⟩ | ⟨g32, h⟩
            · refine SCode.cond_t rfl g32 ?_
              refine SCode.seq ?_
              refine SCode.region (show SOps _ _ _ [0, 1] _ _ from ?_)
              refine SOps.q rfl (.plain rfl) rfl (q_assign rfl rfl) ?_
              refine SOps.q rfl (.plain rfl) rfl (q_assign rfl rfl) ?_
              refine SOps.sub (st' := ⟨[(2, .c (.raw (.slice none 0 0))), (3, .c (.bool false))], []⟩) (sub_gen [] rfl rfl ⟨zc rfl rfl, zc rfl rfl, trivial⟩ trivial) ?_
              refine SOps.nil ?_
              refine SCode.ret ?_
              obtain rfl := Option.some.inj h
              exact ⟨⟨[(2, .c (.vec (([] : List SCurtail)).length 7 (gL cSCurtail dSCurtail (([] : List SCurtail))))), (3, .c (.bool false))], []⟩, _, sub_gen [] rfl rfl ⟨⟨_, rfl, .inr (.inr (.inr (.inl ⟨_, _, rfl, rfl⟩)))⟩, zc rfl rfl, trivial⟩ trivial, resA2 (v1 := .c (.vec (([] : List SCurtail)).length 7 (gL cSCurtail dSCurtail (([] : List SCurtail))))) (v2 := .c (.bool false)) rfl rfl rfl, rfl⟩
            refine SCode.cond_f rfl g32 ?_
            refine SCode.skip ?_
            exact ⟨(), h, sub_gen [] rfl rfl ⟨zc rfl rfl, zc rfl rfl, zc rfl rfl, zc rfl rfl, trivial⟩ trivial⟩
          refine SCode.region (show SOps _ _ _ [0, 1, 2, 3, 4, 5, 6, 7] _ _ from ?_)
          refine SOps.q rfl (.plain rfl) rfl (q_move rfl rfl) ?_
          refine SOps.q rfl (.plain rfl) rfl (q_neq rfl rfl rfl) ?_
          refine SOps.q rfl (.plain rfl) rfl (q_move rfl rfl) ?_
          refine SOps.skip rfl 2 24 true rfl rfl (.inl (gF g29)) rfl ?_
          refine SOps.skip rfl 2 24 true rfl rfl (.inl (gF g29)) rfl ?_
          refine SOps.skip rfl 2 24 true rfl rfl (.inl (gF g29)) rfl ?_
          refine SOps.skip rfl 2 24 true rfl rfl (.inl (gF g29)) rfl ?_
          refine SOps.q rfl (.plain rfl) rfl (q_pick_f rfl rfl g29 rfl) ?_
          refine SOps.sub (st' := ⟨[(0, .c (.vec a0_l.length 7 (gL cSCurtail dSCurtail a0_l))), (6, .c (.vec c_26.1.length 7 (gL cSCurtail dSCurtail c_26.1))), (9, .c (.int .i64 (((a0_l).length : Int)))), (10, .c (.int .i64 t10_13)), (29, .c (.bool false))], []⟩) (sub_gen [] rfl rfl ⟨zc rfl rfl, zc rfl rfl, zc rfl rfl, zc rfl rfl, zc rfl rfl, trivial⟩ trivial) ?_
          refine SOps.nil ?_
          refine SCode.cond_f rfl rfl ?_
          refine SCode.skip ?_
          exact ⟨(), h, sub_gen [] rfl rfl ⟨zc rfl rfl, zc rfl rfl, zc rfl rfl, zc rfl rfl, trivial⟩ trivial⟩
        rintro ⟨⟩ h
        show SCode _ _ _ ⟨[(0, .c (.vec a0_l.length 7 (gL cSCurtail dSCurtail a0_l))), (6, .c (.vec c_26.1.length 7 (gL cSCurtail dSCurtail c_26.1))), (9, .c (.int .i64 (((a0_l).length : Int)))), (10, .c (.int .i64 t10_13))], []⟩ _
        replace h : chargenetlaw13_build_p28 t10_13 (fun out_12 t10_13 => chargenetlaw13_build_l23 F a0_l n_23 out_12 t10_13) c_26 = some r := h
        unfold chargenetlaw13_build_p28 at h
        refine SCode.region (show SOps _ _ _ [0, 1] _ _ from ?_)
        refine SOps.q rfl (.plain rfl) rfl (q_move rfl rfl) ?_
        refine SOps.q rfl (.plain rfl) rfl (q_assign rfl rfl) ?_
        refine SOps.sub (st' := ⟨[(0, .c (.vec a0_l.length 7 (gL cSCurtail dSCurtail a0_l))), (4, .c (.vec c_26.1.length 7 (gL cSCurtail dSCurtail c_26.1))), (9, .c (.int .i64 (((a0_l).length : Int)))), (10, .c (.int .i64 t10_13))], []⟩) (sub_gen [] rfl rfl ⟨zc rfl rfl, zc rfl rfl, zc rfl rfl, zc rfl rfl, trivial⟩ trivial) ?_
        refine SOps.nil ?_
        refine SCode.region (show SOps _ _ _ [0, 1] _ _ from ?_)
        refine SOps.q rfl (.plain rfl) rfl (q_add rfl rfl rfl) ?_
        refine SOps.q rfl (.plain rfl) rfl (q_move rfl rfl) ?_
        refine SOps.sub (st' := ⟨[(0, .c (.vec a0_l.length 7 (gL cSCurtail dSCurtail a0_l))), (4, .c (.vec c_26.1.length 7 (gL cSCurtail dSCurtail c_26.1))), (9, .c (.int .i64 (((a0_l).length : Int)))), (10, .c (.int .i64 (IntKind.wrap .i64 (t10_13 + 1))))], []⟩) (sub_gen [] rfl rfl ⟨zc rfl rfl, zc rfl rfl, zc rfl rfl, zc rfl rfl, trivial⟩ trivial) ?_
        refine SOps.nil ?_
        exact ⟨(n_23, (c_26.1, IntKind.wrap .i64 (t10_13 + 1))), h, Nat.lt_succ_self n_23, sub_gen [] rfl rfl ⟨zc rfl rfl, zc rfl rfl, zc rfl rfl, zc rfl rfl, trivial⟩ trivial⟩
      refine SCode.cond_f rfl g24 ?_
      refine SCode.exit ?_
      exact ⟨out_12, h, sub_gen [] rfl rfl ⟨zc rfl rfl, trivial⟩ trivial⟩
  rintro out_1 h
  show SCode _ _ _ ⟨[(4, .c (.vec out_1.length 7 (gL cSCurtail dSCurtail out_1)))], []⟩ _
  replace h : chargenetlaw13_build_p2 out_1 = some r := h
  unfold chargenetlaw13_build_p2 at h
  refine SCode.seq ?_
  refine SCode.region (show SOps _ _ _ [0, 1, 2] _ _ from ?_)
  refine SOps.q rfl (.plain rfl) rfl (q_move rfl rfl) ?_
  refine SOps.q rfl (.plain rfl) rfl (q_assign rfl rfl) ?_
  refine SOps.q rfl (.plain rfl) rfl (q_assign rfl rfl) ?_
  refine SOps.sub (st' := ⟨[(2, .c (.vec out_1.length 7 (gL cSCurtail dSCurtail out_1))), (3, .c (.bool true))], []⟩) (sub_gen [] rfl rfl ⟨zc rfl rfl, zc rfl rfl, trivial⟩ trivial) ?_
  refine SOps.nil ?_
  refine SCode.ret ?_
  obtain rfl := Option.some.inj h
  exact ⟨⟨[(2, .c (.vec out_1.length 7 (gL cSCurtail dSCurtail out_1))), (3, .c (.bool true))], []⟩, _, sub_gen [] rfl rfl ⟨zc rfl rfl, zc rfl rfl, trivial⟩ trivial, resA2 (v1 := .c (.vec out_1.length 7 (gL cSCurtail dSCurtail out_1))) (v2 := .c (.bool true)) rfl rfl rfl, rfl⟩
set_option maxRecDepth 100000 in
set_option maxHeartbeats 8000000 in
theorem chargenetref13_At_ok (F : Nat) (a0_l : List SCurtail) (a1_feeder : Int) (a2_t : Int) (r : Int) (h : chargenetref13_At F a0_l a1_feeder a2_t = some r) :
    SFun Try.prog 17 [] [.c (.vec a0_l.length 7 (gL cSCurtail dSCurtail a0_l)), .c (.int .i64 a1_feeder), .c (.int .i64 a2_t)] (fun x _ => x = .c (.int .i64 r)) := by
  refine SFun.of (n := 48) Try.func17 rfl rfl rfl ?_
  unfold chargenetref13_At at h
  show SCode _ _ _ ⟨[(0, .c (.vec a0_l.length 7 (gL cSCurtail dSCurtail a0_l))), (1, .c (.int .i64 a1_feeder)), (2, .c (.int .i64 a2_t))], []⟩ _
  refine SCode.seq ?_
  refine SCode.region (show SOps _ _ _ [0] _ _ from ?_)
  refine SOps.q rfl (.plain rfl) rfl (q_assign rfl rfl) ?_
  refine SOps.sub (st' := ⟨[(0, .c (.vec a0_l.length 7 (gL cSCurtail dSCurtail a0_l))), (1, .c (.int .i64 a1_feeder)), (2, .c (.int .i64 a2_t))], []⟩) (sub_gen [] rfl rfl ⟨zc rfl rfl, zc rfl rfl, zc rfl rfl, trivial⟩ trivial) ?_
  refine SOps.nil ?_
  refine SCode.seq ?_
  refine SCode.region (show SOps _ _ _ [0] _ _ from ?_)
  refine SOps.q rfl (.plain rfl) rfl (q_assign rfl rfl) ?_
  refine SOps.sub (st' := ⟨[(0, .c (.vec a0_l.length 7 (gL cSCurtail dSCurtail a0_l))), (1, .c (.int .i64 a1_feeder)), (2, .c (.int .i64 a2_t)), (7, .c (.int .i64 1073741824))], []⟩) (sub_gen [] rfl rfl ⟨zc rfl rfl, zc rfl rfl, zc rfl rfl, zc rfl rfl, trivial⟩ trivial) ?_
  refine SOps.nil ?_
  refine SCode.join (σ := Int) (S := fun s => ⟨[(7, .c (.int .i64 s))], []⟩) (g := fun s => chargenetref13_At_p2 s = some r) ?_ ?_
  rotate_left
  · refine SCode.seq ?_
    refine SCode.region (show SOps _ _ _ [0] _ _ from ?_)
    refine SOps.q rfl (.plain rfl) rfl (q_assign rfl rfl) ?_
    refine SOps.sub (st' := ⟨[(0, .c (.vec a0_l.length 7 (gL cSCurtail dSCurtail a0_l))), (1, .c (.int .i64 a1_feeder)), (2, .c (.int .i64 a2_t)), (7, .c (.int .i64 1073741824)), (8, .c (.int .i64 0))], []⟩) (sub_gen [] rfl rfl ⟨zc rfl rfl, zc rfl rfl, zc rfl rfl, zc rfl rfl, zc rfl rfl, trivial⟩ trivial) ?_
    refine SOps.nil ?_
    refine SCode.block ?_
    refine SCode.sub (st' := ⟨[(0, .c (.vec a0_l.length 7 (gL cSCurtail dSCurtail a0_l))), (1, .c (.int .i64 a1_feeder)), (2, .c (.int .i64 a2_t)), (7, .c (.int .i64 1073741824)), (8, .c (.int .i64 0))], []⟩) (sub_gen [] rfl rfl ⟨zc rfl rfl, zc rfl rfl, zc rfl rfl, zc rfl rfl, zc rfl rfl, trivial⟩ trivial) ?_
    refine (SCode.loop (σ := Nat × (Int × Int)) (S := fun s => ⟨[(0, .c (.vec a0_l.length 7 (gL cSCurtail dSCurtail a0_l))), (1, .c (.int .i64 a1_feeder)), (2, .c (.int .i64 a2_t)), (7, .c (.int .i64 s.2.1)), (8, .c (.int .i64 s.2.2))], []⟩) (g := fun s => chargenetref13_At_l21 a0_l a1_feeder a2_t s.1 s.2.1 s.2.2 = some r) (μ := fun s => s.1) (F, (1073741824, 0)) h ?_)
    rintro ⟨n_21, ⟨least_11, i_12⟩⟩ h
    replace h : chargenetref13_At_l21 a0_l a1_feeder a2_t n_21 least_11 i_12 = some r := h
    show SCode _ _ _ ⟨[(0, .c (.vec a0_l.length 7 (gL cSCurtail dSCurtail a0_l))), (1, .c (.int .i64 a1_feeder)), (2, .c (.int .i64 a2_t)), (7, .c (.int .i64 least_11)), (8, .c (.int .i64 i_12))], []⟩ _
    cases n_21 with
    | zero => cases h
    | succ n_21 =>
      replace h : chargenetref13_At_b21 a0_l a1_feeder a2_t (fun least_11 i_12 => chargenetref13_At_l21 a0_l a1_feeder a2_t n_21 least_11 i_12) least_11 i_12 = some r := h
      unfold chargenetref13_At_b21 at h
      refine SCode.seq ?_
      refine SCode.seq ?_
      refine SCode.region (show SOps _ _ _ [0, 1, 2, 3] _ _ from ?_)
      refine SOps.q rfl (.plain rfl) rfl (q_move rfl rfl) ?_
      refine SOps.q rfl (.plain rfl) rfl (q_move rfl rfl) ?_
      refine SOps.q rfl (.plain rfl) rfl (q_len_vec rfl rfl sl34) ?_
      refine SOps.q rfl (.plain rfl) rfl (q_lss rfl rfl rfl) ?_
      refine SOps.sub (st' := ⟨[(0, .c (.vec a0_l.length 7 (gL cSCurtail dSCurtail a0_l))), (1, .c (.int .i64 a1_feeder)), (2, .c (.int .i64 a2_t)), (7, .c (.int .i64 least_11)), (8, .c (.int .i64 i_12)), (13, .c (.bool (decide (i_12 < ((a0_l).length : Int)))))], []⟩) (sub_gen [] rfl rfl ⟨zc rfl rfl, zc rfl rfl, zc rfl rfl, zc rfl rfl, zc rfl rfl, zc rfl rfl, trivial⟩ trivial) ?_
      refine SOps.nil ?_
      rcases cond_out h with ⟨g22, h⟩ | ⟨g22, h⟩
      · refine SCode.cond_t rfl g22 ?_
        refine SCode.skip ?_
        refine SCode.join (σ := Int) (S := fun s => ⟨[(0, .c (.vec a0_l.length 7 (gL cSCurtail dSCurtail a0_l))), (1, .c (.int .i64 a1_feeder)), (2, .c (.int .i64 a2_t)), (7, .c (.int .i64 s)), (8, .c (.int .i64 i_12))], []⟩) (g := fun s => chargenetref13_At_p24 i_12 (fun least_11 i_12 => chargenetref13_At_l21 a0_l a1_feeder a2_t n_21 least_11 i_12) s = some r) ?_ ?_
        rotate_left
        · refine SCode.block ?_
          refine SCode.seq ?_
          obtain ⟨g25, h⟩ := guard_out h
          refine SCode.region (show SOps _ _ _ [0, 1, 2, 3, 4, 5] _ _ from ?_)
          refine SOps.q rfl (.plain rfl) rfl (q_move rfl rfl) ?_
          refine SOps.q rfl (.plain rfl) rfl (q_move rfl rfl) ?_
          refine SOps.q rfl (.plain rfl) rfl (q_index_vec rfl rfl rfl sl34 rfl g25.1 g25.2) ?_
          refine SOps.q rfl (.plain rfl) rfl (q_load_eptr_all rfl rfl rfl ty25) ?_
          refine SOps.e rfl (.plain rfl) (e_alloc rfl rfl rfl z25) ?_
          refine SOps.e rfl (.plain rfl) (e_store_box rfl rfl rfl rfl rfl ty25 rfl rfl rfl rfl) ?_
          refine SOps.sub (st' := ⟨[(0, .c (.vec a0_l.length 7 (gL cSCurtail dSCurtail a0_l))), (1, .c (.int .i64 a1_feeder)), (2, .c (.int .i64 a2_t)), (7, .c (.int .i64 least_11)), (8, .c (.int .i64 i_12)), (9, .c (.ptr 0 0))], [.box [.str ((a0_l.getD i_12.toNat dSCurtail).Name), .int .i64 ((a0_l.getD i_12.toNat dSCurtail).Version), .int .i64 ((a0_l.getD i_12.toNat dSCurtail).Feeder), .int .i64 ((a0_l.getD i_12.toNat dSCurtail).Span_From), .int .i64 ((a0_l.getD i_12.toNat dSCurtail).Span_To), .int .i64 ((a0_l.getD i_12.toNat dSCurtail).Total), .bool ((a0_l.getD i_12.toNat dSCurtail).Cancelled)]]⟩) (sub_gen [0] rfl rfl ⟨zc rfl rfl, zc rfl rfl, zc rfl rfl, zc rfl rfl, zc rfl rfl, zc rfl rfl, trivial⟩ ⟨⟨_, rfl, ⟨ii rfl rfl, ii rfl rfl, ii rfl rfl, ii rfl rfl, ii rfl rfl, ii rfl rfl, ii rfl rfl, trivial⟩⟩, trivial⟩) ?_
          refine SOps.nil ?_
          refine SCode.seq ?_
          rcases cond_out h with ⟨g26, h⟩ | ⟨g26, h⟩
          · rcases cond_out h with ⟨g27, h⟩ | ⟨g27, h⟩
            · rcases cond_out h with ⟨g28, h⟩ | ⟨g28, h⟩
              · refine SCode.region (show SOps _ _ _ [0, 1, 2, 3, 4, 5, 6, 7, 8, 9, 10, 11, 12, 13, 14, 15, 16, 17, 18, 19, 20, 21, 22] _ _ from ?_)
                refine SOps.q rfl (.plain rfl) rfl (q_field_ptr rfl rfl fd25_2) ?_
                refine SOps.q rfl (.plain rfl) rfl (q_load_ptr rfl rfl rfl rfl ty3) ?_
                refine SOps.q rfl (.plain rfl) rfl (q_move rfl rfl) ?_
                refine SOps.q rfl (.plain rfl) rfl (q_eql rfl rfl rfl) ?_
                refine SOps.q rfl (.plain rfl) rfl (q_move rfl rfl) ?_
                refine SOps.q rfl (.guard 4 24 true rfl rfl (gT g26)) rfl (q_field_ptr rfl rfl fd25_5) ?_
                refine SOps.q rfl (.guard 4 24 true rfl rfl (gT g26)) rfl (q_load_ptr rfl rfl rfl rfl ty4) ?_
                refine SOps.q rfl (.guard 4 24 true rfl rfl (gT g26)) rfl (q_not rfl rfl) ?_
                refine SOps.q rfl (.plain rfl) rfl (q_pick_t rfl rfl g26 rfl) ?_
                refine SOps.q rfl (.plain rfl) rfl (q_move rfl rfl) ?_
                refine SOps.q rfl (.guard 9 29 true rfl rfl (gT g27)) rfl (q_field_ptr rfl rfl fd25_3) ?_
                refine SOps.q rfl (.guard 9 29 true rfl rfl (gT g27)) rfl (q_field_ptr rfl rfl fd23_0) ?_
                refine SOps.q rfl (.guard 9 29 true rfl rfl (gT g27)) rfl (q_load_ptr rfl rfl rfl rfl ty3) ?_
                refine SOps.q rfl (.guard 9 29 true rfl rfl (gT g27)) rfl (q_move rfl rfl) ?_
                refine SOps.q rfl (.guard 9 29 true rfl rfl (gT g27)) rfl (q_leq rfl rfl rfl) ?_
                refine SOps.q rfl (.plain rfl) rfl (q_pick_t rfl rfl g27 rfl) ?_
                refine SOps.q rfl (.plain rfl) rfl (q_move rfl rfl) ?_
                refine SOps.q rfl (.guard 16 36 true rfl rfl (gT g28)) rfl (q_move rfl rfl) ?_
                refine SOps.q rfl (.guard 16 36 true rfl rfl (gT g28)) rfl (q_field_ptr rfl rfl fd25_3) ?_
                refine SOps.q rfl (.guard 16 36 true rfl rfl (gT g28)) rfl (q_field_ptr rfl rfl fd23_1) ?_
                refine SOps.q rfl (.guard 16 36 true rfl rfl (gT g28)) rfl (q_load_ptr rfl rfl rfl rfl ty3) ?_
                refine SOps.q rfl (.guard 16 36 true rfl rfl (gT g28)) rfl (q_lss rfl rfl rfl) ?_
                refine SOps.q rfl (.plain rfl) rfl (q_pick_t rfl rfl g28 rfl) ?_
                refine SOps.sub (st' := ⟨[(0, .c (.vec a0_l.length 7 (gL cSCurtail dSCurtail a0_l))), (1, .c (.int .i64 a1_feeder)), (2, .c (.int .i64 a2_t)), (7, .c (.int .i64 least_11)), (8, .c (.int .i64 i_12)), (9, .c (.ptr 0 0)), (42, .c (.bool (decide (a2_t < (a0_l.getD i_12.toNat dSCurtail).Span_To))))], [.box [.str ((a0_l.getD i_12.toNat dSCurtail).Name), .int .i64 ((a0_l.getD i_12.toNat dSCurtail).Version), .int .i64 ((a0_l.getD i_12.toNat dSCurtail).Feeder), .int .i64 ((a0_l.getD i_12.toNat dSCurtail).Span_From), .int .i64 ((a0_l.getD i_12.toNat dSCurtail).Span_To), .int .i64 ((a0_l.getD i_12.toNat dSCurtail).Total), .bool ((a0_l.getD i_12.toNat dSCurtail).Cancelled)]]⟩) (sub_gen [0] rfl rfl ⟨zc rfl rfl, zc rfl rfl, zc rfl rfl, zc rfl rfl, zc rfl rfl, zc rfl rfl, zc rfl rfl, trivial⟩ ⟨⟨_, rfl, ⟨ii rfl rfl, ii rfl rfl, ii rfl rfl, ii rfl rfl, ii rfl rfl, ii rfl rfl, ii rfl rfl, trivial⟩⟩, trivial⟩) ?_
                refine SOps.nil ?_
                rcases cond_out h with ⟨g29, h⟩ | ⟨g29, h⟩
                · refine SCode.cond_t rfl g29 ?_
                  refine SCode.region (show SOps _ _ _ [0, 1, 2, 3, 4] _ _ from ?_)
                  refine SOps.q rfl (.plain rfl) rfl (q_move rfl rfl) ?_
                  refine SOps.q rfl (.plain rfl) rfl (q_field_ptr rfl rfl fd25_4) ?_
                  refine SOps.q rfl (.plain rfl) rfl (q_load_ptr rfl rfl rfl rfl ty3) ?_
                  refine SOps.q rfl (.plain rfl) rfl (q_min rfl rfl rfl) ?_
                  refine SOps.q rfl (.plain rfl) rfl (q_assign rfl rfl) ?_
                  refine SOps.sub (st' := ⟨[(0, .c (.vec a0_l.length 7 (gL cSCurtail dSCurtail a0_l))), (1, .c (.int .i64 a1_feeder)), (2, .c (.int .i64 a2_t)), (7, .c (.int .i64 ((if (a0_l.getD i_12.toNat dSCurtail).Total < least_11 then (a0_l.getD i_12.toNat dSCurtail).Total else least_11)))), (8, .c (.int .i64 i_12))], []⟩) (sub_gen [] rfl rfl ⟨zc rfl rfl, zc rfl rfl, zc rfl rfl, zc rfl rfl, zc rfl rfl, trivial⟩ trivial) ?_
                  refine SOps.nil ?_
                  exact ⟨(if (a0_l.getD i_12.toNat dSCurtail).Total < least_11 then (a0_l.getD i_12.toNat dSCurtail).Total else least_11), h, sub_gen [] rfl rfl ⟨zc rfl rfl, zc rfl rfl, zc rfl rfl, zc rfl rfl, zc rfl rfl, trivial⟩ trivial⟩
                refine SCode.cond_f rfl g29 ?_
                refine SCode.skip ?_
                exact ⟨least_11, h, sub_gen [] rfl rfl ⟨zc rfl rfl, zc rfl rfl, zc rfl rfl, zc rfl rfl, zc rfl rfl, trivial⟩ trivial⟩
              refine SCode.region (show SOps _ _ _ [0, 1, 2, 3, 4, 5, 6, 7, 8, 9, 10, 11, 12, 13, 14, 15, 16, 17, 18, 19, 20, 21, 22] _ _ from ?_)
              refine SOps.q rfl (.plain rfl) rfl (q_field_ptr rfl rfl fd25_2) ?_
              refine SOps.q rfl (.plain rfl) rfl (q_load_ptr rfl rfl rfl rfl ty3) ?_
              refine SOps.q rfl (.plain rfl) rfl (q_move rfl rfl) ?_
              refine SOps.q rfl (.plain rfl) rfl (q_eql rfl rfl rfl) ?_
              refine SOps.q rfl (.plain rfl) rfl (q_move rfl rfl) ?_
              refine SOps.q rfl (.guard 4 24 true rfl rfl (gT g26)) rfl (q_field_ptr rfl rfl fd25_5) ?_
              refine SOps.q rfl (.guard 4 24 true rfl rfl (gT g26)) rfl (q_load_ptr rfl rfl rfl rfl ty4) ?_
              refine SOps.q rfl (.guard 4 24 true rfl rfl (gT g26)) rfl (q_not rfl rfl) ?_
              refine SOps.q rfl (.plain rfl) rfl (q_pick_t rfl rfl g26 rfl) ?_
              refine SOps.q rfl (.plain rfl) rfl (q_move rfl rfl) ?_
              refine SOps.q rfl (.guard 9 29 true rfl rfl (gT g27)) rfl (q_field_ptr rfl rfl fd25_3) ?_
              refine SOps.q rfl (.guard 9 29 true rfl rfl (gT g27)) rfl (q_field_ptr rfl rfl fd23_0) ?_
              refine SOps.q rfl (.guard 9 29 true rfl rfl (gT g27)) rfl (q_load_ptr rfl rfl rfl rfl ty3) ?_
              refine SOps.q rfl (.guard 9 29 true rfl rfl (gT g27)) rfl (q_move rfl rfl) ?_
              refine SOps.q rfl (.guard 9 29 true rfl rfl (gT g27)) rfl (q_leq rfl rfl rfl) ?_
              refine SOps.q rfl (.plain rfl) rfl (q_pick_t rfl rfl g27 rfl) ?_
              refine SOps.q rfl (.plain rfl) rfl (q_move rfl rfl) ?_
              refine SOps.skip rfl 16 36 true rfl rfl (.inl (gF g28)) rfl ?_
              refine SOps.skip rfl 16 36 true rfl rfl (.inl (gF g28)) rfl ?_
              refine SOps.skip rfl 16 36 true rfl rfl (.inl (gF g28)) rfl ?_
              refine SOps.skip rfl 16 36 true rfl rfl (.inl (gF g28)) rfl ?_
              refine SOps.skip rfl 16 36 true rfl rfl (.inl (gF g28)) rfl ?_
              refine SOps.q rfl (.plain rfl) rfl (q_pick_f rfl rfl g28 rfl) ?_
              refine SOps.sub (st' := ⟨[(0, .c (.vec a0_l.length 7 (gL cSCurtail dSCurtail a0_l))), (1, .c (.int .i64 a1_feeder)), (2, .c (.int .i64 a2_t)), (7, .c (.int .i64 least_11)), (8, .c (.int .i64 i_12)), (9, .c (.ptr 0 0)), (42, .c (.bool false))], [.box [.str ((a0_l.getD i_12.toNat dSCurtail).Name), .int .i64 ((a0_l.getD i_12.toNat dSCurtail).Version), .int .i64 ((a0_l.getD i_12.toNat dSCurtail).Feeder), .int .i64 ((a0_l.getD i_12.toNat dSCurtail).Span_From), .int .i64 ((a0_l.getD i_12.toNat dSCurtail).Span_To), .int .i64 ((a0_l.getD i_12.toNat dSCurtail).Total), .bool ((a0_l.getD i_12.toNat dSCurtail).Cancelled)]]⟩) (sub_gen [0] rfl rfl ⟨zc rfl rfl, zc rfl rfl, zc rfl rfl, zc rfl rfl, zc rfl rfl, zc rfl rfl, zc rfl rfl, trivial⟩ ⟨⟨_, rfl, ⟨ii rfl rfl, ii rfl rfl, ii rfl rfl, ii rfl rfl, ii rfl rfl, ii rfl rfl, ii rfl rfl, trivial⟩⟩, trivial⟩) ?_
              refine SOps.nil ?_
              refine SCode.cond_f rfl rfl ?_
              refine SCode.skip ?_
              exact ⟨least_11, h, sub_gen [] rfl rfl ⟨zc rfl rfl, zc rfl rfl, zc rfl rfl, zc rfl rfl, zc rfl rfl, trivial⟩ trivial⟩
            refine SCode.region (show SOps _ _ _ [0, 1, 2, 3, 4, 5, 6, 7, 8, 9, 10, 11, 12, 13, 14, 15, 16, 17, 18, 19, 20, 21, 22] _ _ from ?_)
            refine SOps.q rfl (.plain rfl) rfl (q_field_ptr rfl rfl fd25_2) ?_
            refine SOps.q rfl (.plain rfl) rfl (q_load_ptr rfl rfl rfl rfl ty3) ?_
            refine SOps.q rfl (.plain rfl) rfl (q_move rfl rfl) ?_
            refine SOps.q rfl (.plain rfl) rfl (q_eql rfl rfl rfl) ?_
            refine SOps.q rfl (.plain rfl) rfl (q_move rfl rfl) ?_
            refine SOps.q rfl (.guard 4 24 true rfl rfl (gT g26)) rfl (q_field_ptr rfl rfl fd25_5) ?_
            refine SOps.q rfl (.guard 4 24 true rfl rfl (gT g26)) rfl (q_load_ptr rfl rfl rfl rfl ty4) ?_
            refine SOps.q rfl (.guard 4 24 true rfl rfl (gT g26)) rfl (q_not rfl rfl) ?_
            refine SOps.q rfl (.plain rfl) rfl (q_pick_t rfl rfl g26 rfl) ?_
            refine SOps.q rfl (.plain rfl) rfl (q_move rfl rfl) ?_
            refine SOps.skip rfl 9 29 true rfl rfl (.inl (gF g27)) rfl ?_
            refine SOps.skip rfl 9 29 true rfl rfl (.inl (gF g27)) rfl ?_
            refine SOps.skip rfl 9 29 true rfl rfl (.inl (gF g27)) rfl ?_
            refine SOps.skip rfl 9 29 true rfl rfl (.inl (gF g27)) rfl ?_
            refine SOps.skip rfl 9 29 true rfl rfl (.inl (gF g27)) rfl ?_
            refine SOps.q rfl (.plain rfl) rfl (q_pick_f rfl rfl g27 rfl) ?_
            refine SOps.q rfl (.plain rfl) rfl (q_move rfl rfl) ?_
            refine SOps.skip rfl 16 36 true rfl rfl (.inl rfl) rfl ?_
            refine SOps.skip rfl 16 36 true rfl rfl (.inl rfl) rfl ?_
            refine SOps.skip rfl 16 36 true rfl rfl (.inl rfl) rfl ?_
            refine SOps.skip rfl 16 36 true rfl rfl (.inl rfl) rfl ?_
            refine SOps.skip rfl 16 36 true rfl rfl (.inl rfl) rfl ?_
            refine SOps.q rfl (.plain rfl) rfl (q_pick_f rfl rfl rfl rfl) ?_
            refine SOps.sub (st' := ⟨[(0, .c (.vec a0_l.length 7 (gL cSCurtail dSCurtail a0_l))), (1, .c (.int .i64 a1_feeder)), (2, .c (.int .i64 a2_t)), (7, .c (.int .i64 least_11)), (8, .c (.int .i64 i_12)), (9, .c (.ptr 0 0)), (42, .c (.bool false))], [.box [.str ((a0_l.getD i_12.toNat dSCurtail).Name), .int .i64 ((a0_l.getD i_12.toNat dSCurtail).Version), .int .i64 ((a0_l.getD i_12.toNat dSCurtail).Feeder), .int .i64 ((a0_l.getD i_12.toNat dSCurtail).Span_From), .int .i64 ((a0_l.getD i_12.toNat dSCurtail).Span_To), .int .i64 ((a0_l.getD i_12.toNat dSCurtail).Total), .bool ((a0_l.getD i_12.toNat dSCurtail).Cancelled)]]⟩) (sub_gen [0] rfl rfl ⟨zc rfl rfl, zc rfl rfl, zc rfl rfl, zc rfl rfl, zc rfl rfl, zc rfl rfl, zc rfl rfl, trivial⟩ ⟨⟨_, rfl, ⟨ii rfl rfl, ii rfl rfl, ii rfl rfl, ii rfl rfl, ii rfl rfl, ii rfl rfl, ii rfl rfl, trivial⟩⟩, trivial⟩) ?_
            refine SOps.nil ?_
            refine SCode.cond_f rfl rfl ?_
            refine SCode.skip ?_
            exact ⟨least_11, h, sub_gen [] rfl rfl ⟨zc rfl rfl, zc rfl rfl, zc rfl rfl, zc rfl rfl, zc rfl rfl, trivial⟩ trivial⟩
          refine SCode.region (show SOps _ _ _ [0, 1, 2, 3, 4, 5, 6, 7, 8, 9, 10, 11, 12, 13, 14, 15, 16, 17, 18, 19, 20, 21, 22] _ _ from ?_)
          refine SOps.q rfl (.plain rfl) rfl (q_field_ptr rfl rfl fd25_2) ?_
          refine SOps.q rfl (.plain rfl) rfl (q_load_ptr rfl rfl rfl rfl ty3) ?_
          refine SOps.q rfl (.plain rfl) rfl (q_move rfl rfl) ?_
          refine SOps.q rfl (.plain rfl) rfl (q_eql rfl rfl rfl) ?_
          refine SOps.q rfl (.plain rfl) rfl (q_move rfl rfl) ?_
          refine SOps.skip rfl 4 24 true rfl rfl (.inl (gF g26)) rfl ?_
          refine SOps.skip rfl 4 24 true rfl rfl (.inl (gF g26)) rfl ?_
          refine SOps.skip rfl 4 24 true rfl rfl (.inl (gF g26)) rfl ?_
          refine SOps.q rfl (.plain rfl) rfl (q_pick_f rfl rfl g26 rfl) ?_
          refine SOps.q rfl (.plain rfl) rfl (q_move rfl rfl) ?_
          refine SOps.skip rfl 9 29 true rfl rfl (.inl rfl) rfl ?_
          refine SOps.skip rfl 9 29 true rfl rfl (.inl rfl) rfl ?_
          refine SOps.skip rfl 9 29 true rfl rfl (.inl rfl) rfl ?_
          refine SOps.skip rfl 9 29 true rfl rfl (.inl rfl) rfl ?_
          refine SOps.skip rfl 9 29 true rfl rfl (.inl rfl) rfl ?_
          refine SOps.q rfl (.plain rfl) rfl (q_pick_f rfl rfl rfl rfl) ?_
          refine SOps.q rfl (.plain rfl) rfl (q_move rfl rfl) ?_
          refine SOps.skip rfl 16 36 true rfl rfl (.inl rfl) rfl ?_
          refine SOps.skip rfl 16 36 true rfl rfl (.inl rfl) rfl ?_
          refine SOps.skip rfl 16 36 true rfl rfl (.inl rfl) rfl ?_
          refine SOps.skip rfl 16 36 true rfl rfl (.inl rfl) rfl ?_
          refine SOps.skip rfl 16 36 true rfl rfl (.inl rfl) rfl ?_
          refine SOps.q rfl (.plain rfl) rfl (q_pick_f rfl rfl rfl rfl) ?_
          refine SOps.sub (st' := ⟨[(0, .c (.vec a0_l.length 7 (gL cSCurtail dSCurtail a0_l))), (1, .c (.int .i64 a1_feeder)), (2, .c (.int .i64 a2_t)), (7, .c (.int .i64 least_11)), (8, .c (.int .i64 i_12)), (9, .c (.ptr 0 0)), (42, .c (.bool false))], [.box [.str ((a0_l.getD i_12.toNat dSCurtail).Name), .int .i64 ((a0_l.getD i_12.toNat dSCurtail).Version), .int .i64 ((a0_l.getD i_12.toNat dSCurtail).Feeder), .int .i64 ((a0_l.getD i_12.toNat dSCurtail).Span_From), .int .i64 ((a0_l.getD i_12.toNat dSCurtail).Span_To), .int .i64 ((a0_l.getD i_12.toNat dSCurtail).Total), .bool ((a0_l.getD i_12.toNat dSCurtail).Cancelled)]]⟩) (sub_gen [0] rfl rfl ⟨zc rfl rfl, zc rfl rfl, zc rfl rfl, zc rfl rfl, zc rfl rfl, zc rfl rfl, zc rfl rfl, trivial⟩ ⟨⟨_, rfl, ⟨ii rfl rfl, ii rfl rfl, ii rfl rfl, ii rfl rfl, ii rfl rfl, ii rfl rfl, ii rfl rfl, trivial⟩⟩, trivial⟩) ?_
          refine SOps.nil ?_
          refine SCode.cond_f rfl rfl ?_
          refine SCode.skip ?_
          exact ⟨least_11, h, sub_gen [] rfl rfl ⟨zc rfl rfl, zc rfl rfl, zc rfl rfl, zc rfl rfl, zc rfl rfl, trivial⟩ trivial⟩
        rintro least_23 h
        show SCode _ _ _ ⟨[(0, .c (.vec a0_l.length 7 (gL cSCurtail dSCurtail a0_l))), (1, .c (.int .i64 a1_feeder)), (2, .c (.int .i64 a2_t)), (7, .c (.int .i64 least_23)), (8, .c (.int .i64 i_12))], []⟩ _
        replace h : chargenetref13_At_p24 i_12 (fun least_11 i_12 => chargenetref13_At_l21 a0_l a1_feeder a2_t n_21 least_11 i_12) least_23 = some r := h
        unfold chargenetref13_At_p24 at h
        refine SCode.region (show SOps _ _ _ [0, 1, 2] _ _ from ?_)
        refine SOps.q rfl (.plain rfl) rfl (q_move rfl rfl) ?_
        refine SOps.q rfl (.plain rfl) rfl (q_add rfl rfl rfl) ?_
        refine SOps.q rfl (.plain rfl) rfl (q_assign rfl rfl) ?_
        refine SOps.sub (st' := ⟨[(0, .c (.vec a0_l.length 7 (gL cSCurtail dSCurtail a0_l))), (1, .c (.int .i64 a1_feeder)), (2, .c (.int .i64 a2_t)), (7, .c (.int .i64 least_23)), (8, .c (.int .i64 (IntKind.wrap .i64 (i_12 + 1))))], []⟩) (sub_gen [] rfl rfl ⟨zc rfl rfl, zc rfl rfl, zc rfl rfl, zc rfl rfl, zc rfl rfl, trivial⟩ trivial) ?_
        refine SOps.nil ?_
        exact ⟨(n_21, (least_23, IntKind.wrap .i64 (i_12 + 1))), h, Nat.lt_succ_self n_21, sub_gen [] rfl rfl ⟨zc rfl rfl, zc rfl rfl, zc rfl rfl, zc rfl rfl, zc rfl rfl, trivial⟩ trivial⟩
      refine SCode.cond_f rfl g22 ?_
      refine SCode.exit ?_
      exact ⟨least_11, h, sub_gen [] rfl rfl ⟨zc rfl rfl, trivial⟩ trivial⟩
  rintro least_1 h
  show SCode _ _ _ ⟨[(7, .c (.int .i64 least_1))], []⟩ _
  replace h : chargenetref13_At_p2 least_1 = some r := h
  unfold chargenetref13_At_p2 at h
  refine SCode.seq ?_
  refine SCode.region (show SOps _ _ _ [0, 1] _ _ from ?_)
  refine SOps.q rfl (.plain rfl) rfl (q_move rfl rfl) ?_
  refine SOps.q rfl (.plain rfl) rfl (q_assign rfl rfl) ?_
  refine SOps.sub (st' := ⟨[(6, .c (.int .i64 least_1))], []⟩) (sub_gen [] rfl rfl ⟨zc rfl rfl, trivial⟩ trivial) ?_
  refine SOps.nil ?_
  refine SCode.ret ?_
  obtain rfl := Option.some.inj h
  exact ⟨⟨[(6, .c (.int .i64 least_1))], []⟩, _, sub_gen [] rfl rfl ⟨zc rfl rfl, trivial⟩ trivial, resA1 (v := .c (.int .i64 least_1)) rfl rfl, rfl⟩
set_option maxRecDepth 100000 in
set_option maxHeartbeats 8000000 in
theorem chargenetref13_changes_ok (F : Nat) (a0_l : List SCurtail) (a1_t : Int) (r : Bool) (h : chargenetref13_changes F a0_l a1_t = some r) :
    SFun Try.prog 30 [] [.c (.vec a0_l.length 7 (gL cSCurtail dSCurtail a0_l)), .c (.int .i64 a1_t)] (fun x _ => x = .c (.bool r)) := by
  refine SFun.of (n := 20) Try.func30 rfl rfl rfl ?_
  unfold chargenetref13_changes at h
  show SCode _ _ _ ⟨[(0, .c (.vec a0_l.length 7 (gL cSCurtail dSCurtail a0_l))), (1, .c (.int .i64 a1_t))], []⟩ _
  refine SCode.seq ?_
  refine SCode.region (show SOps _ _ _ [0] _ _ from ?_)
  refine SOps.q rfl (.plain rfl) rfl (q_assign rfl rfl) ?_
  refine SOps.sub (st' := ⟨[(0, .c (.vec a0_l.length 7 (gL cSCurtail dSCurtail a0_l))), (1, .c (.int .i64 a1_t))], []⟩) (sub_gen [] rfl rfl ⟨zc rfl rfl, zc rfl rfl, trivial⟩ trivial) ?_
  refine SOps.nil ?_
  refine SCode.join (σ := Unit) (S := fun s => ⟨[], []⟩) (g := fun s => chargenetref13_changes_p1 = some r) ?_ ?_
  rotate_left
  · refine SCode.seq ?_
    refine SCode.region (show SOps _ _ _ [0] _ _ from ?_)
    refine SOps.q rfl (.plain rfl) rfl (q_assign rfl rfl) ?_
    refine SOps.sub (st' := ⟨[(0, .c (.vec a0_l.length 7 (gL cSCurtail dSCurtail a0_l))), (1, .c (.int .i64 a1_t)), (5, .c (.int .i64 0))], []⟩) (sub_gen [] rfl rfl ⟨zc rfl rfl, zc rfl rfl, zc rfl rfl, trivial⟩ trivial) ?_
    refine SOps.nil ?_
    refine SCode.block ?_
    refine SCode.sub (st' := ⟨[(0, .c (.vec a0_l.length 7 (gL cSCurtail dSCurtail a0_l))), (1, .c (.int .i64 a1_t)), (5, .c (.int .i64 0))], []⟩) (sub_gen [] rfl rfl ⟨zc rfl rfl, zc rfl rfl, zc rfl rfl, trivial⟩ trivial) ?_
    refine (SCode.loop (σ := Nat × Int) (S := fun s => ⟨[(0, .c (.vec a0_l.length 7 (gL cSCurtail dSCurtail a0_l))), (1, .c (.int .i64 a1_t)), (5, .c (.int .i64 s.2))], []⟩) (g := fun s => chargenetref13_changes_l15 F a0_l a1_t s.1 s.2 = some r) (μ := fun s => s.1) (F, 0) h ?_)
    rintro ⟨n_15, f_8⟩ h
    replace h : chargenetref13_changes_l15 F a0_l a1_t n_15 f_8 = some r := h
    show SCode _ _ _ ⟨[(0, .c (.vec a0_l.length 7 (gL cSCurtail dSCurtail a0_l))), (1, .c (.int .i64 a1_t)), (5, .c (.int .i64 f_8))], []⟩ _
    cases n_15 with
    | zero => cases h
    | succ n_15 =>
      replace h : chargenetref13_changes_b15 F a0_l a1_t (fun f_8 => chargenetref13_changes_l15 F a0_l a1_t n_15 f_8) f_8 = some r := h
      unfold chargenetref13_changes_b15 at h
      refine SCode.seq ?_
      refine SCode.seq ?_
      refine SCode.region (show SOps _ _ _ [0, 1] _ _ from ?_)
      refine SOps.q rfl (.plain rfl) rfl (q_move rfl rfl) ?_
      refine SOps.q rfl (.plain rfl) rfl (q_lss rfl rfl rfl) ?_
      refine SOps.sub (st' := ⟨[(0, .c (.vec a0_l.length 7 (gL cSCurtail dSCurtail a0_l))), (1, .c (.int .i64 a1_t)), (5, .c (.int .i64 f_8)), (7, .c (.bool (decide (f_8 < 32))))], []⟩) (sub_gen [] rfl rfl ⟨zc rfl rfl, zc rfl rfl, zc rfl rfl, zc rfl rfl, trivial⟩ trivial) ?_
      refine SOps.nil ?_
      rcases cond_out h with ⟨g16, h⟩ | ⟨g16, h⟩
      · refine SCode.cond_t rfl g16 ?_
        refine SCode.skip ?_
        refine SCode.seq ?_
        refine SCode.block ?_
        refine SCode.seq ?_
        obtain ⟨c_17, g18, h⟩ := bind_out h
        try dsimp only at h
        obtain ⟨c_19, g20, h⟩ := bind_out h
        try dsimp only at h
        refine SCode.region (show SOps _ _ _ [0, 1, 2, 3, 4, 5, 6, 7, 8, 9] _ _ from ?_)
        refine SOps.q rfl (.plain rfl) rfl (q_move rfl rfl) ?_
        refine SOps.q rfl (.plain rfl) rfl (q_move rfl rfl) ?_
        refine SOps.q rfl (.plain rfl) rfl (q_move rfl rfl) ?_
        refine SOps.q rfl (.plain rfl) rfl (q_call (chargenetref13_At_ok F a0_l f_8 a1_t c_17 g18) [] rfl fn17 ⟨⟨_, rfl, .inl ⟨rfl, rfl⟩⟩, ⟨_, rfl, .inl ⟨rfl, rfl⟩⟩, ⟨_, rfl, .inl ⟨rfl, rfl⟩⟩, trivial⟩ (.inl rfl)) ?_
        refine SOps.q rfl (.plain rfl) rfl (q_move rfl rfl) ?_
        refine SOps.q rfl (.plain rfl) rfl (q_move rfl rfl) ?_
        refine SOps.q rfl (.plain rfl) rfl (q_move rfl rfl) ?_
        refine SOps.q rfl (.plain rfl) rfl (q_sub rfl rfl rfl) ?_
        refine SOps.q rfl (.plain rfl) rfl (q_call (chargenetref13_At_ok F a0_l f_8 (IntKind.wrap .i64 (a1_t - 1)) c_19 g20) [] rfl fn17 ⟨⟨_, rfl, .inl ⟨rfl, rfl⟩⟩, ⟨_, rfl, .inl ⟨rfl, rfl⟩⟩, ⟨_, rfl, .inl ⟨rfl, rfl⟩⟩, trivial⟩ (.inl rfl)) ?_
        refine SOps.q rfl (.plain rfl) rfl (q_neq rfl rfl rfl) ?_
        refine SOps.sub (st' := ⟨[(0, .c (.vec a0_l.length 7 (gL cSCurtail dSCurtail a0_l))), (1, .c (.int .i64 a1_t)), (5, .c (.int .i64 f_8)), (19, .c (.bool ((!decide (c_17 = c_19)))))], []⟩) (sub_gen [] rfl rfl ⟨zc rfl rfl, zc rfl rfl, zc rfl rfl, zc rfl rfl, trivial⟩ trivial) ?_
        refine SOps.nil ?_
        rcases cond_out h with ⟨g21, h⟩ | ⟨g21, h⟩
        · refine SCode.cond_t rfl g21 ?_
          refine SCode.seq ?_
          refine SCode.region (show SOps _ _ _ [0] _ _ from ?_)
          refine SOps.q rfl (.plain rfl) rfl (q_assign rfl rfl) ?_
          refine SOps.sub (st' := ⟨[(4, .c (.bool true))], []⟩) (sub_gen [] rfl rfl ⟨zc rfl rfl, trivial⟩ trivial) ?_
          refine SOps.nil ?_
          refine SCode.ret ?_
          obtain rfl := Option.some.inj h
          exact ⟨⟨[(4, .c (.bool true))], []⟩, _, sub_gen [] rfl rfl ⟨zc rfl rfl, trivial⟩ trivial, resA1 (v := .c (.bool true)) rfl rfl, rfl⟩
        refine SCode.cond_f rfl g21 ?_
        refine SCode.skip ?_
        refine SCode.region (show SOps _ _ _ [0, 1, 2] _ _ from ?_)
        refine SOps.q rfl (.plain rfl) rfl (q_move rfl rfl) ?_
        refine SOps.q rfl (.plain rfl) rfl (q_add rfl rfl rfl) ?_
        refine SOps.q rfl (.plain rfl) rfl (q_assign rfl rfl) ?_
        refine SOps.sub (st' := ⟨[(0, .c (.vec a0_l.length 7 (gL cSCurtail dSCurtail a0_l))), (1, .c (.int .i64 a1_t)), (5, .c (.int .i64 (IntKind.wrap .i64 (f_8 + 1))))], []⟩) (sub_gen [] rfl rfl ⟨zc rfl rfl, zc rfl rfl, zc rfl rfl, trivial⟩ trivial) ?_
        refine SOps.nil ?_
        exact ⟨(n_15, IntKind.wrap .i64 (f_8 + 1)), h, Nat.lt_succ_self n_15, sub_gen [] rfl rfl ⟨zc rfl rfl, zc rfl rfl, zc rfl rfl, trivial⟩ trivial⟩
      refine SCode.cond_f rfl g16 ?_
      refine SCode.exit ?_
      exact ⟨(), h, sub_gen [] rfl rfl trivial trivial⟩
  rintro ⟨⟩ h
  show SCode _ _ _ ⟨[], []⟩ _
  replace h : chargenetref13_changes_p1 = some r := h
  unfold chargenetref13_changes_p1 at h
  refine SCode.seq ?_
  refine SCode.region (show SOps _ _ _ [0] _ _ from ?_)
  refine SOps.q rfl (.plain rfl) rfl (q_assign rfl rfl) ?_
  refine SOps.sub (st' := ⟨[(4, .c (.bool false))], []⟩) (sub_gen [] rfl rfl ⟨zc rfl rfl, trivial⟩ trivial) ?_
  refine SOps.nil ?_
  refine SCode.ret ?_
  obtain rfl := Option.some.inj h
  exact ⟨⟨[(4, .c (.bool false))], []⟩, _, sub_gen [] rfl rfl ⟨zc rfl rfl, trivial⟩ trivial, resA1 (v := .c (.bool false)) rfl rfl, rfl⟩
set_option maxRecDepth 100000 in
set_option maxHeartbeats 8000000 in
theorem chargenetref13_Next_ok (F : Nat) (a0_l : List SCurtail) (a1_t : Int) (r : Int) (h : chargenetref13_Next F a0_l a1_t = some r) :
    SFun Try.prog 19 [] [.c (.vec a0_l.length 7 (gL cSCurtail dSCurtail a0_l)), .c (.int .i64 a1_t)] (fun x _ => x = .c (.int .i64 r)) := by
  refine SFun.of (n := 51) Try.func19 rfl rfl rfl ?_
  unfold chargenetref13_Next at h
  show SCode _ _ _ ⟨[(0, .c (.vec a0_l.length 7 (gL cSCurtail dSCurtail a0_l))), (1, .c (.int .i64 a1_t))], []⟩ _
  refine SCode.seq ?_
  refine SCode.region (show SOps _ _ _ [0] _ _ from ?_)
  refine SOps.q rfl (.plain rfl) rfl (q_assign rfl rfl) ?_
  refine SOps.sub (st' := ⟨[(0, .c (.vec a0_l.length 7 (gL cSCurtail dSCurtail a0_l))), (1, .c (.int .i64 a1_t))], []⟩) (sub_gen [] rfl rfl ⟨zc rfl rfl, zc rfl rfl, trivial⟩ trivial) ?_
  refine SOps.nil ?_
  refine SCode.seq ?_
  refine SCode.region (show SOps _ _ _ [0] _ _ from ?_)
  refine SOps.q rfl (.plain rfl) rfl (q_assign rfl rfl) ?_
  refine SOps.sub (st' := ⟨[(0, .c (.vec a0_l.length 7 (gL cSCurtail dSCurtail a0_l))), (1, .c (.int .i64 a1_t)), (5, .c (.int .i64 ((-1))))], []⟩) (sub_gen [] rfl rfl ⟨zc rfl rfl, zc rfl rfl, zc rfl rfl, trivial⟩ trivial) ?_
  refine SOps.nil ?_
  refine SCode.join (σ := Int) (S := fun s => ⟨[(5, .c (.int .i64 s))], []⟩) (g := fun s => chargenetref13_Next_p2 s = some r) ?_ ?_
  rotate_left
  · refine SCode.seq ?_
    refine SCode.region (show SOps _ _ _ [0] _ _ from ?_)
    refine SOps.q rfl (.plain rfl) rfl (q_assign rfl rfl) ?_
    refine SOps.sub (st' := ⟨[(0, .c (.vec a0_l.length 7 (gL cSCurtail dSCurtail a0_l))), (1, .c (.int .i64 a1_t)), (5, .c (.int .i64 ((-1)))), (6, .c (.int .i64 0))], []⟩) (sub_gen [] rfl rfl ⟨zc rfl rfl, zc rfl rfl, zc rfl rfl, zc rfl rfl, trivial⟩ trivial) ?_
    refine SOps.nil ?_
    refine SCode.block ?_
    refine SCode.sub (st' := ⟨[(0, .c (.vec a0_l.length 7 (gL cSCurtail dSCurtail a0_l))), (1, .c (.int .i64 a1_t)), (5, .c (.int .i64 ((-1)))), (6, .c (.int .i64 0))], []⟩) (sub_gen [] rfl rfl ⟨zc rfl rfl, zc rfl rfl, zc rfl rfl, zc rfl rfl, trivial⟩ trivial) ?_
    refine (SCode.loop (σ := Nat × (Int × Int)) (S := fun s => ⟨[(0, .c (.vec a0_l.length 7 (gL cSCurtail dSCurtail a0_l))), (1, .c (.int .i64 a1_t)), (5, .c (.int .i64 s.2.1)), (6, .c (.int .i64 s.2.2))], []⟩) (g := fun s => chargenetref13_Next_l39 F a0_l a1_t s.1 s.2.1 s.2.2 = some r) (μ := fun s => s.1) (F, ((-1), 0)) h ?_)
    rintro ⟨n_39, ⟨best_20, i_21⟩⟩ h
    replace h : chargenetref13_Next_l39 F a0_l a1_t n_39 best_20 i_21 = some r := h
    show SCode _ _ _ ⟨[(0, .c (.vec a0_l.length 7 (gL cSCurtail dSCurtail a0_l))), (1, .c (.int .i64 a1_t)), (5, .c (.int .i64 best_20)), (6, .c (.int .i64 i_21))], []⟩ _
    cases n_39 with
    | zero => cases h
    | succ n_39 =>
      replace h : chargenetref13_Next_b39 F a0_l a1_t (fun best_20 i_21 => chargenetref13_Next_l39 F a0_l a1_t n_39 best_20 i_21) best_20 i_21 = some r := h
      unfold chargenetref13_Next_b39 at h
      refine SCode.seq ?_
      refine SCode.seq ?_
      refine SCode.region (show SOps _ _ _ [0, 1, 2, 3, 4] _ _ from ?_)
      refine SOps.q rfl (.plain rfl) rfl (q_move rfl rfl) ?_
      refine SOps.q rfl (.plain rfl) rfl (q_move rfl rfl) ?_
      refine SOps.q rfl (.plain rfl) rfl (q_len_vec rfl rfl sl34) ?_
      refine SOps.q rfl (.plain rfl) rfl (q_mul rfl rfl rfl) ?_
      refine SOps.q rfl (.plain rfl) rfl (q_lss rfl rfl rfl) ?_
      refine SOps.sub (st' := ⟨[(0, .c (.vec a0_l.length 7 (gL cSCurtail dSCurtail a0_l))), (1, .c (.int .i64 a1_t)), (5, .c (.int .i64 best_20)), (6, .c (.int .i64 i_21)), (12, .c (.bool (decide (i_21 < IntKind.wrap .i64 (2 * ((a0_l).length : Int))))))], []⟩) (sub_gen [] rfl rfl ⟨zc rfl rfl, zc rfl rfl, zc rfl rfl, zc rfl rfl, zc rfl rfl, trivial⟩ trivial) ?_
      refine SOps.nil ?_
      rcases cond_out h with ⟨g40, h⟩ | ⟨g40, h⟩
      · refine SCode.cond_t rfl g40 ?_
        refine SCode.skip ?_
        refine SCode.join (σ := Int) (S := fun s => ⟨[(0, .c (.vec a0_l.length 7 (gL cSCurtail dSCurtail a0_l))), (1, .c (.int .i64 a1_t)), (5, .c (.int .i64 s)), (6, .c (.int .i64 i_21))], []⟩) (g := fun s => chargenetref13_Next_p42 i_21 (fun best_20 i_21 => chargenetref13_Next_l39 F a0_l a1_t n_39 best_20 i_21) s = some r) ?_ ?_
        rotate_left
        · refine SCode.block ?_
          refine SCode.seq ?_
          obtain ⟨g43, h⟩ := guard_out h
          refine SCode.region (show SOps _ _ _ [0, 1, 2, 3, 4, 5, 6, 7] _ _ from ?_)
          refine SOps.q rfl (.plain rfl) rfl (q_move rfl rfl) ?_
          refine SOps.q rfl (.plain rfl) rfl (q_move rfl rfl) ?_
          refine SOps.q rfl (.plain rfl) rfl (q_quo rfl rfl rfl (by decide)) ?_
          refine SOps.q rfl (.plain rfl) rfl (q_index_vec rfl rfl rfl sl34 rfl g43.1 g43.2) ?_
          refine SOps.q rfl (.plain rfl) rfl (q_field_eptr rfl rfl fd25_3 rfl) ?_
          refine SOps.q rfl (.plain rfl) rfl (q_field_eptr rfl rfl fd23_0 rfl) ?_
          refine SOps.q rfl (.plain rfl) rfl (q_load_eptr rfl rfl ty3) ?_
          refine SOps.q rfl (.plain rfl) rfl (q_assign rfl rfl) ?_
          refine SOps.sub (st' := ⟨[(0, .c (.vec a0_l.length 7 (gL cSCurtail dSCurtail a0_l))), (1, .c (.int .i64 a1_t)), (5, .c (.int .i64 best_20)), (6, .c (.int .i64 i_21)), (7, .c (.int .i64 ((a0_l.getD (IntKind.wrap .i64 (Int.tdiv i_21 2)).toNat dSCurtail).Span_From)))], []⟩) (sub_gen [] rfl rfl ⟨zc rfl rfl, zc rfl rfl, zc rfl rfl, zc rfl rfl, zc rfl rfl, trivial⟩ trivial) ?_
          refine SOps.nil ?_
          refine SCode.join (σ := Int) (S := fun s => ⟨[(0, .c (.vec a0_l.length 7 (gL cSCurtail dSCurtail a0_l))), (1, .c (.int .i64 a1_t)), (5, .c (.int .i64 best_20)), (6, .c (.int .i64 i_21)), (7, .c (.int .i64 s))], []⟩) (g := fun s => chargenetref13_Next_p54 F a0_l a1_t best_20 i_21 (fun best_20 i_21 => chargenetref13_Next_l39 F a0_l a1_t n_39 best_20 i_21) s = some r) ?_ ?_
          rotate_left
          · refine SCode.seq ?_
            refine SCode.region (show SOps _ _ _ [0, 1, 2] _ _ from ?_)
            refine SOps.q rfl (.plain rfl) rfl (q_move rfl rfl) ?_
            refine SOps.q rfl (.plain rfl) rfl (q_rem rfl rfl rfl (by decide)) ?_
            refine SOps.q rfl (.plain rfl) rfl (q_eql rfl rfl rfl) ?_
            refine SOps.sub (st' := ⟨[(0, .c (.vec a0_l.length 7 (gL cSCurtail dSCurtail a0_l))), (1, .c (.int .i64 a1_t)), (5, .c (.int .i64 best_20)), (6, .c (.int .i64 i_21)), (7, .c (.int .i64 ((a0_l.getD (IntKind.wrap .i64 (Int.tdiv i_21 2)).toNat dSCurtail).Span_From))), (24, .c (.bool (decide (Int.tmod i_21 2 = 1))))], []⟩) (sub_gen [] rfl rfl ⟨zc rfl rfl, zc rfl rfl, zc rfl rfl, zc rfl rfl, zc rfl rfl, zc rfl rfl, trivial⟩ trivial) ?_
            refine SOps.nil ?_
            rcases cond_out h with ⟨g55, h⟩ | ⟨g55, h⟩
            · refine SCode.cond_t rfl g55 ?_
              obtain ⟨g56, h⟩ := guard_out h
              refine SCode.region (show SOps _ _ _ [0, 1, 2, 3, 4, 5, 6, 7] _ _ from ?_)
              refine SOps.q rfl (.plain rfl) rfl (q_move rfl rfl) ?_
              refine SOps.q rfl (.plain rfl) rfl (q_move rfl rfl) ?_
              refine SOps.q rfl (.plain rfl) rfl (q_quo rfl rfl rfl (by decide)) ?_
              refine SOps.q rfl (.plain rfl) rfl (q_index_vec rfl rfl rfl sl34 rfl g56.1 g56.2) ?_
              refine SOps.q rfl (.plain rfl) rfl (q_field_eptr rfl rfl fd25_3 rfl) ?_
              refine SOps.q rfl (.plain rfl) rfl (q_field_eptr rfl rfl fd23_1 rfl) ?_
              refine SOps.q rfl (.plain rfl) rfl (q_load_eptr rfl rfl ty3) ?_
              refine SOps.q rfl (.plain rfl) rfl (q_assign rfl rfl) ?_
              refine SOps.sub (st' := ⟨[(0, .c (.vec a0_l.length 7 (gL cSCurtail dSCurtail a0_l))), (1, .c (.int .i64 a1_t)), (5, .c (.int .i64 best_20)), (6, .c (.int .i64 i_21)), (7, .c (.int .i64 ((a0_l.getD (IntKind.wrap .i64 (Int.tdiv i_21 2)).toNat dSCurtail).Span_To)))], []⟩) (sub_gen [] rfl rfl ⟨zc rfl rfl, zc rfl rfl, zc rfl rfl, zc rfl rfl, zc rfl rfl, trivial⟩ trivial) ?_
              refine SOps.nil ?_
              exact ⟨(a0_l.getD (IntKind.wrap .i64 (Int.tdiv i_21 2)).toNat dSCurtail).Span_To, h, sub_gen [] rfl rfl ⟨zc rfl rfl, zc rfl rfl, zc rfl rfl, zc rfl rfl, zc rfl rfl, trivial⟩ trivial⟩
            refine SCode.cond_f rfl g55 ?_
            refine SCode.skip ?_
            exact ⟨(a0_l.getD (IntKind.wrap .i64 (Int.tdiv i_21 2)).toNat dSCurtail).Span_From, h, sub_gen [] rfl rfl ⟨zc rfl rfl, zc rfl rfl, zc rfl rfl, zc rfl rfl, zc rfl rfl, trivial⟩ trivial⟩
          rintro at_44 h
          show SCode _ _ _ ⟨[(0, .c (.vec a0_l.length 7 (gL cSCurtail dSCurtail a0_l))), (1, .c (.int .i64 a1_t)), (5, .c (.int .i64 best_20)), (6, .c (.int .i64 i_21)), (7, .c (.int .i64 at_44))], []⟩ _
          replace h : chargenetref13_Next_p54 F a0_l a1_t best_20 i_21 (fun best_20 i_21 => chargenetref13_Next_l39 F a0_l a1_t n_39 best_20 i_21) at_44 = some r := h
          unfold chargenetref13_Next_p54 at h
          refine SCode.seq ?_
          rcases cond_out h with ⟨g45, h⟩ | ⟨g45, h⟩
          · rcases cond_out h with ⟨g46, h⟩ | ⟨g46, h⟩
            · obtain ⟨c_47, g48, h⟩ := bind_out h
              try dsimp only at h
              refine SCode.region (show SOps _ _ _ [0, 1, 2, 3, 4, 5, 6, 7, 8, 9, 10, 11, 12, 13, 14, 15, 16] _ _ from ?_)
              refine SOps.q rfl (.plain rfl) rfl (q_move rfl rfl) ?_
              refine SOps.q rfl (.plain rfl) rfl (q_move rfl rfl) ?_
              refine SOps.q rfl (.plain rfl) rfl (q_gtr rfl rfl rfl) ?_
              refine SOps.q rfl (.plain rfl) rfl (q_move rfl rfl) ?_
              refine SOps.q rfl (.guard 3 35 true rfl rfl (gT g45)) rfl (q_move rfl rfl) ?_
              refine SOps.q rfl (.guard 3 35 true rfl rfl (gT g45)) rfl (q_lss rfl rfl rfl) ?_
              refine SOps.q rfl (.guard 3 35 true rfl rfl (gT g45)) rfl (q_move rfl rfl) ?_
              refine SOps.skip rfl 6 38 false rfl rfl (.inl (gT g46)) rfl ?_
              refine SOps.skip rfl 6 38 false rfl rfl (.inl (gT g46)) rfl ?_
              refine SOps.skip rfl 6 38 false rfl rfl (.inl (gT g46)) rfl ?_
              refine SOps.q rfl (.guard 3 35 true rfl rfl (gT g45)) rfl (q_pick_t rfl rfl g46 rfl) ?_
              refine SOps.q rfl (.plain rfl) rfl (q_pick_t rfl rfl g45 rfl) ?_
              refine SOps.q rfl (.plain rfl) rfl (q_move rfl rfl) ?_
              refine SOps.q rfl (.guard 12 44 true rfl rfl rfl) rfl (q_move rfl rfl) ?_
              refine SOps.q rfl (.guard 12 44 true rfl rfl rfl) rfl (q_move rfl rfl) ?_
              refine SOps.q rfl (.guard 12 44 true rfl rfl rfl) rfl (q_call (chargenetref13_changes_ok F a0_l at_44 c_47 g48) [] rfl fn30 ⟨⟨_, rfl, .inl ⟨rfl, rfl⟩⟩, ⟨_, rfl, .inl ⟨rfl, rfl⟩⟩, trivial⟩ (.inl rfl)) ?_
              refine SOps.q rfl (.plain rfl) rfl (q_pick_t rfl rfl rfl rfl) ?_
              refine SOps.sub (st' := ⟨[(0, .c (.vec a0_l.length 7 (gL cSCurtail dSCurtail a0_l))), (1, .c (.int .i64 a1_t)), (5, .c (.int .i64 best_20)), (6, .c (.int .i64 i_21)), (7, .c (.int .i64 at_44)), (48, .c (.bool c_47))], []⟩) (sub_gen [] rfl rfl ⟨zc rfl rfl, zc rfl rfl, zc rfl rfl, zc rfl rfl, zc rfl rfl, zc rfl rfl, trivial⟩ trivial) ?_
              refine SOps.nil ?_
              rcases cond_out h with ⟨g49, h⟩ | ⟨g49, h⟩
              · refine SCode.cond_t rfl g49 ?_
                refine SCode.region (show SOps _ _ _ [0, 1] _ _ from ?_)
                refine SOps.q rfl (.plain rfl) rfl (q_move rfl rfl) ?_
                refine SOps.q rfl (.plain rfl) rfl (q_assign rfl rfl) ?_
                refine SOps.sub (st' := ⟨[(0, .c (.vec a0_l.length 7 (gL cSCurtail dSCurtail a0_l))), (1, .c (.int .i64 a1_t)), (5, .c (.int .i64 at_44)), (6, .c (.int .i64 i_21))], []⟩) (sub_gen [] rfl rfl ⟨zc rfl rfl, zc rfl rfl, zc rfl rfl, zc rfl rfl, trivial⟩ trivial) ?_
                refine SOps.nil ?_
                exact ⟨at_44, h, sub_gen [] rfl rfl ⟨zc rfl rfl, zc rfl rfl, zc rfl rfl, zc rfl rfl, trivial⟩ trivial⟩
              refine SCode.cond_f rfl g49 ?_
              refine SCode.skip ?_
              exact ⟨best_20, h, sub_gen [] rfl rfl ⟨zc rfl rfl, zc rfl rfl, zc rfl rfl, zc rfl rfl, trivial⟩ trivial⟩
            rcases cond_out h with ⟨g50, h⟩ | ⟨g50, h⟩
            · obtain ⟨c_51, g52, h⟩ := bind_out h
              try dsimp only at h
              refine SCode.region (show SOps _ _ _ [0, 1, 2, 3, 4, 5, 6, 7, 8, 9, 10, 11, 12, 13, 14, 15, 16] _ _ from ?_)
              refine SOps.q rfl (.plain rfl) rfl (q_move rfl rfl) ?_
              refine SOps.q rfl (.plain rfl) rfl (q_move rfl rfl) ?_
              refine SOps.q rfl (.plain rfl) rfl (q_gtr rfl rfl rfl) ?_
              refine SOps.q rfl (.plain rfl) rfl (q_move rfl rfl) ?_
              refine SOps.q rfl (.guard 3 35 true rfl rfl (gT g45)) rfl (q_move rfl rfl) ?_
              refine SOps.q rfl (.guard 3 35 true rfl rfl (gT g45)) rfl (q_lss rfl rfl rfl) ?_
              refine SOps.q rfl (.guard 3 35 true rfl rfl (gT g45)) rfl (q_move rfl rfl) ?_
              refine SOps.q rfl (.guard 6 38 false rfl rfl (gF g46)) rfl (q_move rfl rfl) ?_
              refine SOps.q rfl (.guard 6 38 false rfl rfl (gF g46)) rfl (q_move rfl rfl) ?_
              refine SOps.q rfl (.guard 6 38 false rfl rfl (gF g46)) rfl (q_lss rfl rfl rfl) ?_
              refine SOps.q rfl (.guard 3 35 true rfl rfl (gT g45)) rfl (q_pick_f rfl rfl g46 rfl) ?_
              refine SOps.q rfl (.plain rfl) rfl (q_pick_t rfl rfl g45 rfl) ?_
              refine SOps.q rfl (.plain rfl) rfl (q_move rfl rfl) ?_
              refine SOps.q rfl (.guard 12 44 true rfl rfl (gT g50)) rfl (q_move rfl rfl) ?_
              refine SOps.q rfl (.guard 12 44 true rfl rfl (gT g50)) rfl (q_move rfl rfl) ?_
              refine SOps.q rfl (.guard 12 44 true rfl rfl (gT g50)) rfl (q_call (chargenetref13_changes_ok F a0_l at_44 c_51 g52) [] rfl fn30 ⟨⟨_, rfl, .inl ⟨rfl, rfl⟩⟩, ⟨_, rfl, .inl ⟨rfl, rfl⟩⟩, trivial⟩ (.inl rfl)) ?_
              refine SOps.q rfl (.plain rfl) rfl (q_pick_t rfl rfl g50 rfl) ?_
              refine SOps.sub (st' := ⟨[(0, .c (.vec a0_l.length 7 (gL cSCurtail dSCurtail a0_l))), (1, .c (.int .i64 a1_t)), (5, .c (.int .i64 best_20)), (6, .c (.int .i64 i_21)), (7, .c (.int .i64 at_44)), (48, .c (.bool c_51))], []⟩) (sub_gen [] rfl rfl ⟨zc rfl rfl, zc rfl rfl, zc rfl rfl, zc rfl rfl, zc rfl rfl, zc rfl rfl, trivial⟩ trivial) ?_
              refine SOps.nil ?_
              rcases cond_out h with ⟨g53, h⟩ | ⟨g53, h⟩
              · refine SCode.cond_t rfl g53 ?_
                refine SCode.region (show SOps _ _ _ [0, 1] _ _ from ?_)
                refine SOps.q rfl (.plain rfl) rfl (q_move rfl rfl) ?_
                refine SOps.q rfl (.plain rfl) rfl (q_assign rfl rfl) ?_
                refine SOps.sub (st' := ⟨[(0, .c (.vec a0_l.length 7 (gL cSCurtail dSCurtail a0_l))), (1, .c (.int .i64 a1_t)), (5, .c (.int .i64 at_44)), (6, .c (.int .i64 i_21))], []⟩) (sub_gen [] rfl rfl ⟨zc rfl rfl, zc rfl rfl, zc rfl rfl, zc rfl rfl, trivial⟩ trivial) ?_
                refine SOps.nil ?_
                exact ⟨at_44, h, sub_gen [] rfl rfl ⟨zc rfl rfl, zc rfl rfl, zc rfl rfl, zc rfl rfl, trivial⟩ trivial⟩
              refine SCode.cond_f rfl g53 ?_
              refine SCode.skip ?_
              exact ⟨best_20, h, sub_gen [] rfl rfl ⟨zc rfl rfl, zc rfl rfl, zc rfl rfl, zc rfl rfl, trivial⟩ trivial⟩
            refine SCode.region (show SOps _ _ _ [0, 1, 2, 3, 4, 5, 6, 7, 8, 9, 10, 11, 12, 13, 14, 15, 16] _ _ from ?_)
            refine SOps.q rfl (.plain rfl) rfl (q_move rfl rfl) ?_
            refine SOps.q rfl (.plain rfl) rfl (q_move rfl rfl) ?_
            refine SOps.q rfl (.plain rfl) rfl (q_gtr rfl rfl rfl) ?_
            refine SOps.q rfl (.plain rfl) rfl (q_move rfl rfl) ?_
            refine SOps.q rfl (.guard 3 35 true rfl rfl (gT g45)) rfl (q_move rfl rfl) ?_
            refine SOps.q rfl (.guard 3 35 true rfl rfl (gT g45)) rfl (q_lss rfl rfl rfl) ?_
            refine SOps.q rfl (.guard 3 35 true rfl rfl (gT g45)) rfl (q_move rfl rfl) ?_
            refine SOps.q rfl (.guard 6 38 false rfl rfl (gF g46)) rfl (q_move rfl rfl) ?_
            refine SOps.q rfl (.guard 6 38 false rfl rfl (gF g46)) rfl (q_move rfl rfl) ?_
            refine SOps.q rfl (.guard 6 38 false rfl rfl (gF g46)) rfl (q_lss rfl rfl rfl) ?_
            refine SOps.q rfl (.guard 3 35 true rfl rfl (gT g45)) rfl (q_pick_f rfl rfl g46 rfl) ?_
            refine SOps.q rfl (.plain rfl) rfl (q_pick_t rfl rfl g45 rfl) ?_
            refine SOps.q rfl (.plain rfl) rfl (q_move rfl rfl) ?_
            refine SOps.skip rfl 12 44 true rfl rfl (.inl (gF g50)) rfl ?_
            refine SOps.skip rfl 12 44 true rfl rfl (.inl (gF g50)) rfl ?_
            refine SOps.skip rfl 12 44 true rfl rfl (.inl (gF g50)) rfl ?_
            refine SOps.q rfl (.plain rfl) rfl (q_pick_f rfl rfl g50 rfl) ?_
            refine SOps.sub (st' := ⟨[(0, .c (.vec a0_l.length 7 (gL cSCurtail dSCurtail a0_l))), (1, .c (.int .i64 a1_t)), (5, .c (.int .i64 best_20)), (6, .c (.int .i64 i_21)), (7, .c (.int .i64 at_44)), (48, .c (.bool false))], []⟩) (sub_gen [] rfl rfl ⟨zc rfl rfl, zc rfl rfl, zc rfl rfl, zc rfl rfl, zc rfl rfl, zc rfl rfl, trivial⟩ trivial) ?_
            refine SOps.nil ?_
            refine SCode.cond_f rfl rfl ?_
            refine SCode.skip ?_
            exact ⟨best_20, h, sub_gen [] rfl rfl ⟨zc rfl rfl, zc rfl rfl, zc rfl rfl, zc rfl rfl, trivial⟩ trivial⟩
          refine SCode.region (show SOps _ _ _ [0, 1, 2, 3, 4, 5, 6, 7, 8, 9, 10, 11, 12, 13, 14, 15, 16] _ _ from ?_)
          refine SOps.q rfl (.plain rfl) rfl (q_move rfl rfl) ?_
          refine SOps.q rfl (.plain rfl) rfl (q_move rfl rfl) ?_
          refine SOps.q rfl (.plain rfl) rfl (q_gtr rfl rfl rfl) ?_
          refine SOps.q rfl (.plain rfl) rfl (q_move rfl rfl) ?_
          refine SOps.skip rfl 3 35 true rfl rfl (.inl (gF g45)) rfl ?_
          refine SOps.skip rfl 3 35 true rfl rfl (.inl (gF g45)) rfl ?_
          refine SOps.skip rfl 3 35 true rfl rfl (.inl (gF g45)) rfl ?_
          refine SOps.skip rfl 6 38 false rfl rfl (.inr rfl) rfl ?_
          refine SOps.skip rfl 6 38 false rfl rfl (.inr rfl) rfl ?_
          refine SOps.skip rfl 6 38 false rfl rfl (.inr rfl) rfl ?_
          refine SOps.skip rfl 3 35 true rfl rfl (.inl (gF g45)) rfl ?_
          refine SOps.q rfl (.plain rfl) rfl (q_pick_f rfl rfl g45 rfl) ?_
          refine SOps.q rfl (.plain rfl) rfl (q_move rfl rfl) ?_
          refine SOps.skip rfl 12 44 true rfl rfl (.inl rfl) rfl ?_
          refine SOps.skip rfl 12 44 true rfl rfl (.inl rfl) rfl ?_
          refine SOps.skip rfl 12 44 true rfl rfl (.inl rfl) rfl ?_
          refine SOps.q rfl (.plain rfl) rfl (q_pick_f rfl rfl rfl rfl) ?_
          refine SOps.sub (st' := ⟨[(0, .c (.vec a0_l.length 7 (gL cSCurtail dSCurtail a0_l))), (1, .c (.int .i64 a1_t)), (5, .c (.int .i64 best_20)), (6, .c (.int .i64 i_21)), (7, .c (.int .i64 at_44)), (48, .c (.bool false))], []⟩) (sub_gen [] rfl rfl ⟨zc rfl rfl, zc rfl rfl, zc rfl rfl, zc rfl rfl, zc rfl rfl, zc rfl rfl, trivial⟩ trivial) ?_
          refine SOps.nil ?_
          refine SCode.cond_f rfl rfl ?_
          refine SCode.skip ?_
          exact ⟨best_20, h, sub_gen [] rfl rfl ⟨zc rfl rfl, zc rfl rfl, zc rfl rfl, zc rfl rfl, trivial⟩ trivial⟩
        rintro best_41 h
        show SCode _ _ _ ⟨[(0, .c (.vec a0_l.length 7 (gL cSCurtail dSCurtail a0_l))), (1, .c (.int .i64 a1_t)), (5, .c (.int .i64 best_41)), (6, .c (.int .i64 i_21))], []⟩ _
        replace h : chargenetref13_Next_p42 i_21 (fun best_20 i_21 => chargenetref13_Next_l39 F a0_l a1_t n_39 best_20 i_21) best_41 = some r := h
        unfold chargenetref13_Next_p42 at h
        refine SCode.region (show SOps _ _ _ [0, 1, 2] _ _ from ?_)
        refine SOps.q rfl (.plain rfl) rfl (q_move rfl rfl) ?_
        refine SOps.q rfl (.plain rfl) rfl (q_add rfl rfl rfl) ?_
        refine SOps.q rfl (.plain rfl) rfl (q_assign rfl rfl) ?_
        refine SOps.sub (st' := ⟨[(0, .c (.vec a0_l.length 7 (gL cSCurtail dSCurtail a0_l))), (1, .c (.int .i64 a1_t)), (5, .c (.int .i64 best_41)), (6, .c (.int .i64 (IntKind.wrap .i64 (i_21 + 1))))], []⟩) (sub_gen [] rfl rfl ⟨zc rfl rfl, zc rfl rfl, zc rfl rfl, zc rfl rfl, trivial⟩ trivial) ?_
        refine SOps.nil ?_
        exact ⟨(n_39, (best_41, IntKind.wrap .i64 (i_21 + 1))), h, Nat.lt_succ_self n_39, sub_gen [] rfl rfl ⟨zc rfl rfl, zc rfl rfl, zc rfl rfl, zc rfl rfl, trivial⟩ trivial⟩
      refine SCode.cond_f rfl g40 ?_
      refine SCode.exit ?_
      exact ⟨best_20, h, sub_gen [] rfl rfl ⟨zc rfl rfl, trivial⟩ trivial⟩
  rintro best_1 h
  show SCode _ _ _ ⟨[(5, .c (.int .i64 best_1))], []⟩ _
  replace h : chargenetref13_Next_p2 best_1 = some r := h
  unfold chargenetref13_Next_p2 at h
  refine SCode.seq ?_
  refine SCode.region (show SOps _ _ _ [0, 1] _ _ from ?_)
  refine SOps.q rfl (.plain rfl) rfl (q_move rfl rfl) ?_
  refine SOps.q rfl (.plain rfl) rfl (q_assign rfl rfl) ?_
  refine SOps.sub (st' := ⟨[(4, .c (.int .i64 best_1))], []⟩) (sub_gen [] rfl rfl ⟨zc rfl rfl, trivial⟩ trivial) ?_
  refine SOps.nil ?_
  refine SCode.ret ?_
  obtain rfl := Option.some.inj h
  exact ⟨⟨[(4, .c (.int .i64 best_1))], []⟩, _, sub_gen [] rfl rfl ⟨zc rfl rfl, trivial⟩ trivial, resA1 (v := .c (.int .i64 best_1)) rfl rfl, rfl⟩
set_option maxRecDepth 100000 in
set_option maxHeartbeats 8000000 in
theorem chargenetlaw13_CurtailAt_ok (F : Nat) (a0_l : List SCurtail) (a1_feeder : Int) (a2_t : Int) (r : Bool) (h : chargenetlaw13_CurtailAt F a0_l a1_feeder a2_t = some r) :
    SFun Try.prog 5 [] [.c (.vec a0_l.length 7 (gL cSCurtail dSCurtail a0_l)), .c (.int .i64 a1_feeder), .c (.int .i64 a2_t)] (fun x _ => x = .c (.bool r)) := by
  refine SFun.of (n := 42) Try.func5 rfl rfl rfl ?_
  unfold chargenetlaw13_CurtailAt at h
  show SCode _ _ _ ⟨[(0, .c (.vec a0_l.length 7 (gL cSCurtail dSCurtail a0_l))), (1, .c (.int .i64 a1_feeder)), (2, .c (.int .i64 a2_t))], []⟩ _
  refine SCode.seq ?_
  refine SCode.region (show SOps _ _ _ [0] _ _ from ?_)
  refine SOps.q rfl (.plain rfl) rfl (q_assign rfl rfl) ?_
  refine SOps.sub (st' := ⟨[(0, .c (.vec a0_l.length 7 (gL cSCurtail dSCurtail a0_l))), (1, .c (.int .i64 a1_feeder)), (2, .c (.int .i64 a2_t))], []⟩) (sub_gen [] rfl rfl ⟨zc rfl rfl, zc rfl rfl, zc rfl rfl, trivial⟩ trivial) ?_
  refine SOps.nil ?_
  refine SCode.seq ?_
  refine SCode.seq ?_
  refine SCode.region (show SOps _ _ _ [0, 1, 2] _ _ from ?_)
  refine SOps.q rfl (.plain rfl) rfl (q_move rfl rfl) ?_
  refine SOps.q rfl (.plain rfl) rfl (q_len_vec rfl rfl sl34) ?_
  refine SOps.q rfl (.plain rfl) rfl (q_gtr rfl rfl rfl) ?_
  refine SOps.sub (st' := ⟨[(0, .c (.vec a0_l.length 7 (gL cSCurtail dSCurtail a0_l))), (1, .c (.int .i64 a1_feeder)), (2, .c (.int .i64 a2_t)), (11, .c (.bool (decide (100 < ((a0_l).length : Int)))))], []⟩) (sub_gen [] rfl rfl ⟨zc rfl rfl, zc rfl rfl, zc rfl rfl, zc rfl rfl, trivial⟩ trivial) ?_
  refine SOps.nil ?_
  rcases cond_out h with ⟨g1, h⟩ | ⟨g1, h⟩
  · refine SCode.cond_t rfl g1 ?_
    refine SCode.seq ?_
    obtain ⟨c_2, g3, h⟩ := bind_out h
    try dsimp only at h
    refine SCode.region (show SOps _ _ _ [0, 1] _ _ from ?_)
    refine SOps.q rfl (.plain rfl) rfl (q_call (chargenetlaw13_exampleHolds_ok F  c_2 g3) [] rfl fn9 trivial (.inl rfl)) ?_
    refine SOps.q rfl (.plain rfl) rfl (q_assign rfl rfl) ?_
    refine SOps.sub (st' := ⟨[(6, .c (.bool c_2))], []⟩) (sub_gen [] rfl rfl ⟨zc rfl rfl, trivial⟩ trivial) ?_
    refine SOps.nil ?_
    refine SCode.ret ?_
    obtain rfl := Option.some.inj h
    exact ⟨⟨[(6, .c (.bool c_2))], []⟩, _, sub_gen [] rfl rfl ⟨zc rfl rfl, trivial⟩ trivial, resA1 (v := .c (.bool c_2)) rfl rfl, rfl⟩
  refine SCode.cond_f rfl g1 ?_
  refine SCode.skip ?_
  refine SCode.seq ?_
  obtain ⟨c_4, g5, h⟩ := bind_out h
  try dsimp only at h
  refine SCode.region (show SOps _ _ _ [0, 1, 2, 3, 4, 5, 6] _ _ from ?_)
  refine SOps.q rfl (.plain rfl) rfl (q_move rfl rfl) ?_
  refine SOps.q rfl (.plain rfl) rfl (q_call (chargenetlaw13_build_ok F a0_l c_4 g5) [] rfl fn15 ⟨⟨_, rfl, .inl ⟨rfl, rfl⟩⟩, trivial⟩ (.inl rfl)) ?_
  refine SOps.q rfl (.plain rfl) rfl (q_move rfl rfl) ?_
  refine SOps.q rfl (.plain rfl) rfl (q_extract rfl rfl rfl) ?_
  refine SOps.q rfl (.plain rfl) rfl (q_extract rfl rfl rfl) ?_
  refine SOps.q rfl (.plain rfl) rfl (q_assign rfl rfl) ?_
  refine SOps.q rfl (.plain rfl) rfl (q_assign rfl rfl) ?_
  refine SOps.sub (st' := ⟨[(1, .c (.int .i64 a1_feeder)), (2, .c (.int .i64 a2_t)), (7, .c (.vec c_4.1.length 7 (gL cSCurtail dSCurtail c_4.1))), (8, .c (.bool c_4.2))], []⟩) (sub_gen [] rfl rfl ⟨zc rfl rfl, zc rfl rfl, zc rfl rfl, zc rfl rfl, trivial⟩ trivial) ?_
  refine SOps.nil ?_
  refine SCode.seq ?_
  rcases cond_out h with ⟨g6, h⟩ | ⟨g6, h⟩
  · obtain ⟨c_7, g8, h⟩ := bind_out h
    try dsimp only at h
    obtain ⟨c_9, g10, h⟩ := bind_out h
    try dsimp only at h
    rcases cond_out h with ⟨g11, h⟩ | ⟨g11, h⟩
    · obtain ⟨c_12, g13, h⟩ := bind_out h
      try dsimp only at h
      obtain ⟨c_14, g15, h⟩ := bind_out h
      try dsimp only at h
      rcases cond_out h with ⟨g16, h⟩ | ⟨g16, h⟩
      · obtain ⟨c_17, g18, h⟩ := bind_out h
        try dsimp only at h
        refine SCode.region (show SOps _ _ _ [0, 1, 2, 3, 4, 5, 6, 7, 8, 9, 10, 11, 12, 13, 14, 15, 16, 17, 18, 19, 20, 21, 22, 23, 24] _ _ from ?_)
        refine SOps.q rfl (.plain rfl) rfl (q_move rfl rfl) ?_
        refine SOps.q rfl (.plain rfl) rfl (q_move rfl rfl) ?_
        refine SOps.q rfl (.guard 1 19 true rfl rfl (gT g6)) rfl (q_move rfl rfl) ?_
        refine SOps.q rfl (.guard 1 19 true rfl rfl (gT g6)) rfl (q_move rfl rfl) ?_
        refine SOps.q rfl (.guard 1 19 true rfl rfl (gT g6)) rfl (q_move rfl rfl) ?_
        refine SOps.q rfl (.guard 1 19 true rfl rfl (gT g6)) rfl (q_call (curtail_At_ok F c_4.1 a1_feeder a2_t c_7 g8) [] rfl fn16 ⟨⟨_, rfl, .inl ⟨rfl, rfl⟩⟩, ⟨_, rfl, .inl ⟨rfl, rfl⟩⟩, ⟨_, rfl, .inl ⟨rfl, rfl⟩⟩, trivial⟩ (.inl rfl)) ?_
        refine SOps.q rfl (.guard 1 19 true rfl rfl (gT g6)) rfl (q_move rfl rfl) ?_
        refine SOps.q rfl (.guard 1 19 true rfl rfl (gT g6)) rfl (q_move rfl rfl) ?_
        refine SOps.q rfl (.guard 1 19 true rfl rfl (gT g6)) rfl (q_move rfl rfl) ?_
        refine SOps.q rfl (.guard 1 19 true rfl rfl (gT g6)) rfl (q_call (chargenetref13_At_ok F c_4.1 a1_feeder a2_t c_9 g10) [] rfl fn17 ⟨⟨_, rfl, .inl ⟨rfl, rfl⟩⟩, ⟨_, rfl, .inl ⟨rfl, rfl⟩⟩, ⟨_, rfl, .inl ⟨rfl, rfl⟩⟩, trivial⟩ (.inl rfl)) ?_
        refine SOps.q rfl (.guard 1 19 true rfl rfl (gT g6)) rfl (q_eql rfl rfl rfl) ?_
        refine SOps.q rfl (.plain rfl) rfl (q_pick_t rfl rfl g6 rfl) ?_
        refine SOps.q rfl (.plain rfl) rfl (q_move rfl rfl) ?_
        refine SOps.q rfl (.guard 12 30 true rfl rfl (gT g11)) rfl (q_move rfl rfl) ?_
        refine SOps.q rfl (.guard 12 30 true rfl rfl (gT g11)) rfl (q_move rfl rfl) ?_
        refine SOps.q rfl (.guard 12 30 true rfl rfl (gT g11)) rfl (q_call (curtail_Next_ok F c_4.1 a2_t c_12 g13) [] rfl fn18 ⟨⟨_, rfl, .inl ⟨rfl, rfl⟩⟩, ⟨_, rfl, .inl ⟨rfl, rfl⟩⟩, trivial⟩ (.inl rfl)) ?_
        refine SOps.q rfl (.guard 12 30 true rfl rfl (gT g11)) rfl (q_move rfl rfl) ?_
        refine SOps.q rfl (.guard 12 30 true rfl rfl (gT g11)) rfl (q_move rfl rfl) ?_
        refine SOps.q rfl (.guard 12 30 true rfl rfl (gT g11)) rfl (q_call (chargenetref13_Next_ok F c_4.1 a2_t c_14 g15) [] rfl fn19 ⟨⟨_, rfl, .inl ⟨rfl, rfl⟩⟩, ⟨_, rfl, .inl ⟨rfl, rfl⟩⟩, trivial⟩ (.inl rfl)) ?_
        refine SOps.q rfl (.guard 12 30 true rfl rfl (gT g11)) rfl (q_eql rfl rfl rfl) ?_
        refine SOps.q rfl (.plain rfl) rfl (q_pick_t rfl rfl g11 rfl) ?_
        refine SOps.q rfl (.plain rfl) rfl (q_move rfl rfl) ?_
        refine SOps.q rfl (.guard 21 39 true rfl rfl (gT g16)) rfl (q_call (chargenetlaw13_exampleHolds_ok F  c_17 g18) [] rfl fn9 trivial (.inl rfl)) ?_
        refine SOps.q rfl (.plain rfl) rfl (q_pick_t rfl rfl g16 rfl) ?_
        refine SOps.q rfl (.plain rfl) rfl (q_assign rfl rfl) ?_
        refine SOps.sub (st' := ⟨[(6, .c (.bool c_17))], []⟩) (sub_gen [] rfl rfl ⟨zc rfl rfl, trivial⟩ trivial) ?_
        refine SOps.nil ?_
        refine SCode.ret ?_
        obtain rfl := Option.some.inj h
        exact ⟨⟨[(6, .c (.bool c_17))], []⟩, _, sub_gen [] rfl rfl ⟨zc rfl rfl, trivial⟩ trivial, resA1 (v := .c (.bool c_17)) rfl rfl, rfl⟩
      refine SCode.region (show SOps _ _ _ [0, 1, 2, 3, 4, 5, 6, 7, 8, 9, 10, 11, 12, 13, 14, 15, 16, 17, 18, 19, 20, 21, 22, 23, 24] _ _ from ?_)
      refine SOps.q rfl (.plain rfl) rfl (q_move rfl rfl) ?_
      refine SOps.q rfl (.plain rfl) rfl (q_move rfl rfl) ?_
      refine SOps.q rfl (.guard 1 19 true rfl rfl (gT g6)) rfl (q_move rfl rfl) ?_
      refine SOps.q rfl (.guard 1 19 true rfl rfl (gT g6)) rfl (q_move rfl rfl) ?_
      refine SOps.q rfl (.guard 1 19 true rfl rfl (gT g6)) rfl (q_move rfl rfl) ?_
      refine SOps.q rfl (.guard 1 19 true rfl rfl (gT g6)) rfl (q_call (curtail_At_ok F c_4.1 a1_feeder a2_t c_7 g8) [] rfl fn16 ⟨⟨_, rfl, .inl ⟨rfl, rfl⟩⟩, ⟨_, rfl, .inl ⟨rfl, rfl⟩⟩, ⟨_, rfl, .inl ⟨rfl, rfl⟩⟩, trivial⟩ (.inl rfl)) ?_
      refine SOps.q rfl (.guard 1 19 true rfl rfl (gT g6)) rfl (q_move rfl rfl) ?_
      refine SOps.q rfl (.guard 1 19 true rfl rfl (gT g6)) rfl (q_move rfl rfl) ?_
      refine SOps.q rfl (.guard 1 19 true rfl rfl (gT g6)) rfl (q_move rfl rfl) ?_
      refine SOps.q rfl (.guard 1 19 true rfl rfl (gT g6)) rfl (q_call (chargenetref13_At_ok F c_4.1 a1_feeder a2_t c_9 g10) [] rfl fn17 ⟨⟨_, rfl, .inl ⟨rfl, rfl⟩⟩, ⟨_, rfl, .inl ⟨rfl, rfl⟩⟩, ⟨_, rfl, .inl ⟨rfl, rfl⟩⟩, trivial⟩ (.inl rfl)) ?_
      refine SOps.q rfl (.guard 1 19 true rfl rfl (gT g6)) rfl (q_eql rfl rfl rfl) ?_
      refine SOps.q rfl (.plain rfl) rfl (q_pick_t rfl rfl g6 rfl) ?_
      refine SOps.q rfl (.plain rfl) rfl (q_move rfl rfl) ?_
      refine SOps.q rfl (.guard 12 30 true rfl rfl (gT g11)) rfl (q_move rfl rfl) ?_
      refine SOps.q rfl (.guard 12 30 true rfl rfl (gT g11)) rfl (q_move rfl rfl) ?_
      refine SOps.q rfl (.guard 12 30 true rfl rfl (gT g11)) rfl (q_call (curtail_Next_ok F c_4.1 a2_t c_12 g13) [] rfl fn18 ⟨⟨_, rfl, .inl ⟨rfl, rfl⟩⟩, ⟨_, rfl, .inl ⟨rfl, rfl⟩⟩, trivial⟩ (.inl rfl)) ?_
      refine SOps.q rfl (.guard 12 30 true rfl rfl (gT g11)) rfl (q_move rfl rfl) ?_
      refine SOps.q rfl (.guard 12 30 true rfl rfl (gT g11)) rfl (q_move rfl rfl) ?_
      refine SOps.q rfl (.guard 12 30 true rfl rfl (gT g11)) rfl (q_call (chargenetref13_Next_ok F c_4.1 a2_t c_14 g15) [] rfl fn19 ⟨⟨_, rfl, .inl ⟨rfl, rfl⟩⟩, ⟨_, rfl, .inl ⟨rfl, rfl⟩⟩, trivial⟩ (.inl rfl)) ?_
      refine SOps.q rfl (.guard 12 30 true rfl rfl (gT g11)) rfl (q_eql rfl rfl rfl) ?_
      refine SOps.q rfl (.plain rfl) rfl (q_pick_t rfl rfl g11 rfl) ?_
      refine SOps.q rfl (.plain rfl) rfl (q_move rfl rfl) ?_
      refine SOps.skip rfl 21 39 true rfl rfl (.inl (gF g16)) rfl ?_
      refine SOps.q rfl (.plain rfl) rfl (q_pick_f rfl rfl g16 rfl) ?_
      refine SOps.q rfl (.plain rfl) rfl (q_assign rfl rfl) ?_
      refine SOps.sub (st' := ⟨[(6, .c (.bool false))], []⟩) (sub_gen [] rfl rfl ⟨zc rfl rfl, trivial⟩ trivial) ?_
      refine SOps.nil ?_
      refine SCode.ret ?_
      obtain rfl := Option.some.inj h
      exact ⟨⟨[(6, .c (.bool false))], []⟩, _, sub_gen [] rfl rfl ⟨zc rfl rfl, trivial⟩ trivial, resA1 (v := .c (.bool false)) rfl rfl, rfl⟩
    refine SCode.region (show SOps _ _ _ [0, 1, 2, 3, 4, 5, 6, 7, 8, 9, 10, 11, 12, 13, 14, 15, 16, 17, 18, 19, 20, 21, 22, 23, 24] _ _ from ?_)
    refine SOps.q rfl (.plain rfl) rfl (q_move rfl rfl) ?_
    refine SOps.q rfl (.plain rfl) rfl (q_move rfl rfl) ?_
    refine SOps.q rfl (.guard 1 19 true rfl rfl (gT g6)) rfl (q_move rfl rfl) ?_
    refine SOps.q rfl (.guard 1 19 true rfl rfl (gT g6)) rfl (q_move rfl rfl) ?_
    refine SOps.q rfl (.guard 1 19 true rfl rfl (gT g6)) rfl (q_move rfl rfl) ?_
    refine SOps.q rfl (.guard 1 19 true rfl rfl (gT g6)) rfl (q_call (curtail_At_ok F c_4.1 a1_feeder a2_t c_7 g8) [] rfl fn16 ⟨⟨_, rfl, .inl ⟨rfl, rfl⟩⟩, ⟨_, rfl, .inl ⟨rfl, rfl⟩⟩, ⟨_, rfl, .inl ⟨rfl, rfl⟩⟩, trivial⟩ (.inl rfl)) ?_
    refine SOps.q rfl (.guard 1 19 true rfl rfl (gT g6)) rfl (q_move rfl rfl) ?_
    refine SOps.q rfl (.guard 1 19 true rfl rfl (gT g6)) rfl (q_move rfl rfl) ?_
    refine SOps.q rfl (.guard 1 19 true rfl rfl (gT g6)) rfl (q_move rfl rfl) ?_
    refine SOps.q rfl (.guard 1 19 true rfl rfl (gT g6)) rfl (q_call (chargenetref13_At_ok F c_4.1 a1_feeder a2_t c_9 g10) [] rfl fn17 ⟨⟨_, rfl, .inl ⟨rfl, rfl⟩⟩, ⟨_, rfl, .inl ⟨rfl, rfl⟩⟩, ⟨_, rfl, .inl ⟨rfl, rfl⟩⟩, trivial⟩ (.inl rfl)) ?_
    refine SOps.q rfl (.guard 1 19 true rfl rfl (gT g6)) rfl (q_eql rfl rfl rfl) ?_
    refine SOps.q rfl (.plain rfl) rfl (q_pick_t rfl rfl g6 rfl) ?_
    refine SOps.q rfl (.plain rfl) rfl (q_move rfl rfl) ?_
    refine SOps.skip rfl 12 30 true rfl rfl (.inl (gF g11)) rfl ?_
    refine SOps.skip rfl 12 30 true rfl rfl (.inl (gF g11)) rfl ?_
    refine SOps.skip rfl 12 30 true rfl rfl (.inl (gF g11)) rfl ?_
    refine SOps.skip rfl 12 30 true rfl rfl (.inl (gF g11)) rfl ?_
    refine SOps.skip rfl 12 30 true rfl rfl (.inl (gF g11)) rfl ?_
    refine SOps.skip rfl 12 30 true rfl rfl (.inl (gF g11)) rfl ?_
    refine SOps.skip rfl 12 30 true rfl rfl (.inl (gF g11)) rfl ?_
    refine SOps.q rfl (.plain rfl) rfl (q_pick_f rfl rfl g11 rfl) ?_
    refine SOps.q rfl (.plain rfl) rfl (q_move rfl rfl) ?_
    refine SOps.skip rfl 21 39 true rfl rfl (.inl rfl) rfl ?_
    refine SOps.q rfl (.plain rfl) rfl (q_pick_f rfl rfl rfl rfl) ?_
    refine SOps.q rfl (.plain rfl) rfl (q_assign rfl rfl) ?_
    refine SOps.sub (st' := ⟨[(6, .c (.bool false))], []⟩) (sub_gen [] rfl rfl ⟨zc rfl rfl, trivial⟩ trivial) ?_
    refine SOps.nil ?_
    refine SCode.ret ?_
    obtain rfl := Option.some.inj h
    exact ⟨⟨[(6, .c (.bool false))], []⟩, _, sub_gen [] rfl rfl ⟨zc rfl rfl, trivial⟩ trivial, resA1 (v := .c (.bool false)) rfl rfl, rfl⟩
  refine SCode.region (show SOps _ _ _ [0, 1, 2, 3, 4, 5, 6, 7, 8, 9, 10, 11, 12, 13, 14, 15, 16, 17, 18, 19, 20, 21, 22, 23, 24] _ _ from ?_)
  refine SOps.q rfl (.plain rfl) rfl (q_move rfl rfl) ?_
  refine SOps.q rfl (.plain rfl) rfl (q_move rfl rfl) ?_
  refine SOps.skip rfl 1 19 true rfl rfl (.inl (gF g6)) rfl ?_
  refine SOps.skip rfl 1 19 true rfl rfl (.inl (gF g6)) rfl ?_
  refine SOps.skip rfl 1 19 true rfl rfl (.inl (gF g6)) rfl ?_
  refine SOps.skip rfl 1 19 true rfl rfl (.inl (gF g6)) rfl ?_
  refine SOps.skip rfl 1 19 true rfl rfl (.inl (gF g6)) rfl ?_
  refine SOps.skip rfl 1 19 true rfl rfl (.inl (gF g6)) rfl ?_
  refine SOps.skip rfl 1 19 true rfl rfl (.inl (gF g6)) rfl ?_
  refine SOps.skip rfl 1 19 true rfl rfl (.inl (gF g6)) rfl ?_
  refine SOps.skip rfl 1 19 true rfl rfl (.inl (gF g6)) rfl ?_
  refine SOps.q rfl (.plain rfl) rfl (q_pick_f rfl rfl g6 rfl) ?_
  refine SOps.q rfl (.plain rfl) rfl (q_move rfl rfl) ?_
  refine SOps.skip rfl 12 30 true rfl rfl (.inl rfl) rfl ?_
  refine SOps.skip rfl 12 30 true rfl rfl (.inl rfl) rfl ?_
  refine SOps.skip rfl 12 30 true rfl rfl (.inl rfl) rfl ?_
  refine SOps.skip rfl 12 30 true rfl rfl (.inl rfl) rfl ?_
  refine SOps.skip rfl 12 30 true rfl rfl (.inl rfl) rfl ?_
  refine SOps.skip rfl 12 30 true rfl rfl (.inl rfl) rfl ?_
  refine SOps.skip rfl 12 30 true rfl rfl (.inl rfl) rfl ?_
  refine SOps.q rfl (.plain rfl) rfl (q_pick_f rfl rfl rfl rfl) ?_
  refine SOps.q rfl (.plain rfl) rfl (q_move rfl rfl) ?_
  refine SOps.skip rfl 21 39 true rfl rfl (.inl rfl) rfl ?_
  refine SOps.q rfl (.plain rfl) rfl (q_pick_f rfl rfl rfl rfl) ?_
  refine SOps.q rfl (.plain rfl) rfl (q_assign rfl rfl) ?_
  refine SOps.sub (st' := ⟨[(6, .c (.bool false))], []⟩) (sub_gen [] rfl rfl ⟨zc rfl rfl, trivial⟩ trivial) ?_
  refine SOps.nil ?_
  refine SCode.ret ?_
  obtain rfl := Option.some.inj h
  exact ⟨⟨[(6, .c (.bool false))], []⟩, _, sub_gen [] rfl rfl ⟨zc rfl rfl, trivial⟩ trivial, resA1 (v := .c (.bool false)) rfl rfl, rfl⟩
end Go.Proofs.Ytcccjpkfifefaaa.W
