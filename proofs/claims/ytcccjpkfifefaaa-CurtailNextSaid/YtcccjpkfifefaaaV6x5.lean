/- Written by a program of ours (wip/eng/gen.py): the functions compute their models. -/
import Derived.Test.YtcccjpkfifefaaaFacts
import Derived.Test.YtcccjpkfifefaaaV6x4
namespace Go.Proofs.Ytcccjpkfifefaaa.W
open Go Go.Proofs Go.Proofs.Ytcccjpkfifefaaa.E Go.Proofs.Ytcccjpkfifefaaa.M
set_option linter.unusedVariables false
set_option maxRecDepth 100000 in
set_option maxHeartbeats 8000000 in
theorem chargenetlaw13_build_ok (F : Nat) (a0_l : List SCurtail) (r : (List SCurtail) × Bool) (h : chargenetlaw13_build F a0_l = some r) :
    SFun Try.prog 15 [] [.c (.vec a0_l.length 7 (gL cSCurtail dSCurtail a0_l))] (fun x _ => x = .t [.c (.vec r.1.length 7 (gL cSCurtail dSCurtail r.1)), .c (.bool r.2)]) := by
  refine SFun.of (n := 33) Try.func15 rfl rfl rfl ?_
  unfold chargenetlaw13_build at h
  show SCode _ _ _ ⟨[(0, .c (.vec a0_l.length 7 (gL cSCurtail dSCurtail a0_l)))], []⟩ _
  refine SCode.seq ?_
  refine SCode.region (show SOps _ _ _ [0, 1] _ _ from ?_)
  refine SOps.q rfl (.plain rfl) rfl (q_assign rfl rfl) ?_
  refine SOps.q rfl (.plain rfl) rfl (q_assign rfl rfl) ?_
  refine SOps.sub (st' := ⟨[(0, .c (.vec a0_l.length 7 (gL cSCurtail dSCurtail a0_l)))], []⟩) (sub_gen [] rfl rfl ⟨zc rfl rfl, trivial⟩ trivial) ?_
  refine SOps.nil ?_
  refine SCode.seq ?_
  refine SCode.region (show SOps _ _ _ [0] _ _ from ?_)
  refine SOps.q rfl (.plain rfl) rfl (q_assign rfl rfl) ?_
  refine SOps.sub (st' := ⟨[(0, .c (.vec a0_l.length 7 (gL cSCurtail dSCurtail a0_l))), (4, .c (.raw (.slice none 0 0)))], []⟩) (sub_gen [] rfl rfl ⟨zc rfl rfl, zc rfl rfl, trivial⟩ trivial) ?_
  refine SOps.nil ?_
  refine SCode.join (σ := (List SCurtail)) (S := fun s => ⟨[(4, .c (.vec s.length 7 (gL cSCurtail dSCurtail s)))], []⟩) (g := fun s => chargenetlaw13_build_p2 s = some r) ?_ ?_
  rotate_left
  · refine SCode.seq ?_
    refine SCode.region (show SOps _ _ _ [0, 1, 2] _ _ from ?_)
    refine SOps.q rfl (.plain rfl) rfl (q_move rfl rfl) ?_
    refine SOps.q rfl (.plain rfl) rfl (q_len_vec rfl rfl sl34) ?_
    refine SOps.q rfl (.plain rfl) rfl (q_move rfl rfl) ?_
    refine SOps.sub (st' := ⟨[(0, .c (.vec a0_l.length 7 (gL cSCurtail dSCurtail a0_l))), (4, .c (.raw (.slice none 0 0))), (9, .c (.int .i64 (((a0_l).length : Int)))), (10, .c (.int .i64 0))], []⟩) (sub_gen [] rfl rfl ⟨zc rfl rfl, zc rfl rfl, zc rfl rfl, zc rfl rfl, trivial⟩ trivial) ?_
    refine SOps.nil ?_
    refine SCode.block ?_
    refine SCode.sub (st' := ⟨[(0, .c (.vec a0_l.length 7 (gL cSCurtail dSCurtail a0_l))), (4, .c (.vec ([] : List SCurtail).length 7 (gL cSCurtail dSCurtail ([] : List SCurtail)))), (9, .c (.int .i64 (((a0_l).length : Int)))), (10, .c (.int .i64 0))], []⟩) (sub_gen [] rfl rfl ⟨zc rfl rfl, ⟨_, rfl, .inr (.inr (.inr (.inl ⟨_, _, rfl, rfl⟩)))⟩, zc rfl rfl, zc rfl rfl, trivial⟩ trivial) ?_
    refine (SCode.loop (σ := Nat × ((List SCurtail) × Int)) (S := fun s => ⟨[(0, .c (.vec a0_l.length 7 (gL cSCurtail dSCurtail a0_l))), (4, .c (.vec s.2.1.length 7 (gL cSCurtail dSCurtail s.2.1))), (9, .c (.int .i64 (((a0_l).length : Int)))), (10, .c (.int .i64 s.2.2))], []⟩) (g := fun s => chargenetlaw13_build_l23 F a0_l s.1 s.2.1 s.2.2 = some r) (μ := fun s => s.1) (F, ([], 0)) h ?_)
    rintro ⟨n_23, ⟨out_12, t10_13⟩⟩ h
    replace h : chargenetlaw13_build_l23 F a0_l n_23 out_12 t10_13 = some r := h
    show SCode _ _ _ ⟨[(0, .c (.vec a0_l.length 7 (gL cSCurtail dSCurtail a0_l))), (4, .c (.vec out_12.length 7 (gL cSCurtail dSCurtail out_12))), (9, .c (.int .i64 (((a0_l).length : Int)))), (10, .c (.int .i64 t10_13))], []⟩ _
    cases n_23 with
    | zero => cases h
    | succ n_23 =>
      replace h : chargenetlaw13_build_b23 F a0_l (fun out_12 t10_13 => chargenetlaw13_build_l23 F a0_l n_23 out_12 t10_13) out_12 t10_13 = some r := h
      unfold chargenetlaw13_build_b23 at h
      refine SCode.seq ?_
      refine SCode.region (show SOps _ _ _ [0] _ _ from ?_)
      refine SOps.q rfl (.plain rfl) rfl (q_lss rfl rfl rfl) ?_
      refine SOps.sub (st' := ⟨[(0, .c (.vec a0_l.length 7 (gL cSCurtail dSCurtail a0_l))), (4, .c (.vec out_12.length 7 (gL cSCurtail dSCurtail out_12))), (9, .c (.int .i64 (((a0_l).length : Int)))), (10, .c (.int .i64 t10_13)), (11, .c (.bool (decide (t10_13 < ((a0_l).length : Int)))))], []⟩) (sub_gen [] rfl rfl ⟨zc rfl rfl, zc rfl rfl, zc rfl rfl, zc rfl rfl, zc rfl rfl, trivial⟩ trivial) ?_
      refine SOps.nil ?_
      refine SCode.seq ?_
      rcases cond_out h with ⟨g24, h⟩ | ⟨g24, h⟩
      · refine SCode.cond_t rfl g24 ?_
        refine SCode.skip ?_
        refine SCode.seq ?_
        refine SCode.block ?_
        refine SCode.seq ?_
        refine SCode.region (show SOps _ _ _ [0, 1] _ _ from ?_)
        refine SOps.q rfl (.plain rfl) rfl (q_move rfl rfl) ?_
        refine SOps.q rfl (.plain rfl) rfl (q_assign rfl rfl) ?_
        refine SOps.sub (st' := ⟨[(0, .c (.vec a0_l.length 7 (gL cSCurtail dSCurtail a0_l))), (4, .c (.vec out_12.length 7 (gL cSCurtail dSCurtail out_12))), (5, .c (.int .i64 t10_13)), (9, .c (.int .i64 (((a0_l).length : Int)))), (10, .c (.int .i64 t10_13))], []⟩) (sub_gen [] rfl rfl ⟨zc rfl rfl, zc rfl rfl, zc rfl rfl, zc rfl rfl, zc rfl rfl, trivial⟩ trivial) ?_
        refine SOps.nil ?_
        refine SCode.seq ?_
        obtain ⟨g25, h⟩ := guard_out h
        obtain ⟨c_26, g27, h⟩ := bind_out h
        try dsimp only at h
        refine SCode.region (show SOps _ _ _ [0, 1, 2, 3, 4, 5, 6, 7, 8, 9, 10] _ _ from ?_)
        refine SOps.q rfl (.plain rfl) rfl (q_move rfl rfl) ?_
        refine SOps.q rfl (.plain rfl) rfl (q_move rfl rfl) ?_
        refine SOps.q rfl (.plain rfl) rfl (q_move rfl rfl) ?_
        refine SOps.q rfl (.plain rfl) rfl (q_index_vec rfl rfl rfl sl34 rfl g25.1 g25.2) ?_
        refine SOps.q rfl (.plain rfl) rfl (q_load_eptr_all rfl rfl rfl ty25) ?_
        refine SOps.q rfl (.plain rfl) rfl (q_call (curtail_Put_ok F out_12 (a0_l.getD t10_13.toNat dSCurtail) c_26 g27) [] rfl fn12 ⟨⟨_, rfl, .inl ⟨rfl, rfl⟩⟩, ⟨rfl, rfl⟩, trivial⟩ (.inl rfl)) ?_
        refine SOps.q rfl (.plain rfl) rfl (q_move rfl rfl) ?_
        refine SOps.q rfl (.plain rfl) rfl (q_extract rfl rfl rfl) ?_
        refine SOps.q rfl (.plain rfl) rfl (q_extract rfl rfl rfl) ?_
        refine SOps.q rfl (.plain rfl) rfl (q_assign rfl rfl) ?_
        refine SOps.q rfl (.plain rfl) rfl (q_assign rfl rfl) ?_
        refine SOps.sub (st' := ⟨[(0, .c (.vec a0_l.length 7 (gL cSCurtail dSCurtail a0_l))), (4, .c (.vec out_12.length 7 (gL cSCurtail dSCurtail out_12))), (6, .c (.vec c_26.1.length 7 (gL cSCurtail dSCurtail c_26.1))), (7, .c (.int .i64 c_26.2)), (9, .c (.int .i64 (((a0_l).length : Int)))), (10, .c (.int .i64 t10_13))], []⟩) (sub_gen [] rfl rfl ⟨zc rfl rfl, zc rfl rfl, zc rfl rfl, zc rfl rfl, zc rfl rfl, zc rfl rfl, trivial⟩ trivial) ?_
        refine SOps.nil ?_
        refine SCode.join (σ := Unit) (S := fun s => ⟨[(0, .c (.vec a0_l.length 7 (gL cSCurtail dSCurtail a0_l))), (6, .c (.vec c_26.1.length 7 (gL cSCurtail dSCurtail c_26.1))), (9, .c (.int .i64 (((a0_l).length : Int)))), (10, .c (.int .i64 t10_13))], []⟩) (g := fun s => chargenetlaw13_build_p28 t10_13 (fun out_12 t10_13 => chargenetlaw13_build_l23 F a0_l n_23 out_12 t10_13) c_26 = some r) ?_ ?_
        rotate_left
        · refine SCode.seq ?_
          rcases cond_out h with ⟨g29, h⟩ | ⟨g29, h⟩
          · obtain ⟨c_30, g31, h⟩ := bind_out h
            try dsimp only at h
            refine SCode.region (show SOps _ _ _ [0, 1, 2, 3, 4, 5, 6, 7] _ _ from ?_)
            refine SOps.q rfl (.plain rfl) rfl (q_move rfl rfl) ?_
            refine SOps.q rfl (.plain rfl) rfl (q_neq rfl rfl rfl) ?_
            refine SOps.q rfl (.plain rfl) rfl (q_move rfl rfl) ?_
            refine SOps.q rfl (.guard 2 24 true rfl rfl (gT g29)) rfl (q_move rfl rfl) ?_
            refine SOps.q rfl (.guard 2 24 true rfl rfl (gT g29)) rfl (q_move rfl rfl) ?_
            refine SOps.q rfl (.guard 2 24 true rfl rfl (gT g29)) rfl (q_call (slices_Equal_api_Curtail_api_Curtail_ok F c_26.1 out_12 c_30 g31) [] rfl fn14 ⟨⟨_, rfl, .inl ⟨rfl, rfl⟩⟩, ⟨_, rfl, .inl ⟨rfl, rfl⟩⟩, trivial⟩ (.inl rfl)) ?_
            refine SOps.q rfl (.guard 2 24 true rfl rfl (gT g29)) rfl (q_not rfl rfl) ?_
            refine SOps.q rfl (.plain rfl) rfl (q_pick_t rfl rfl g29 rfl) ?_
            refine SOps.sub (st' := ⟨[(0, .c (.vec a0_l.length 7 (gL cSCurtail dSCurtail a0_l))), (6, .c (.vec c_26.1.length 7 (gL cSCurtail dSCurtail c_26.1))), (9, .c (.int .i64 (((a0_l).length : Int)))), (10, .c (.int .i64 t10_13)), (29, .c (.bool ((!c_30))))], []⟩) (sub_gen [] rfl rfl ⟨zc rfl rfl, zc rfl rfl, zc rfl rfl, zc rfl rfl, zc rfl rfl, trivial⟩ trivial) ?_
            refine SOps.nil ?_
            rcases cond_out h with ⟨g32, h⟩ | ⟨g32, h⟩
            · refine SCode.cond_t rfl g32 ?_
              refine SCode.seq ?_
              refine SCode.region (show SOps _ _ _ [0, 1] _ _ from ?_)
              refine SOps.q rfl (.plain rfl) rfl (q_assign rfl rfl) ?_
              refine SOps.q rfl (.plain rfl) rfl (q_assign rfl rfl) ?_
              refine SOps.sub (st' := ⟨[(2, .c (.raw (.slice none 0 0))), (3, .c (.bool false))], []⟩) (sub_gen [] rfl rfl ⟨zc rfl rfl, zc rfl rfl, trivial⟩ trivial) ?_
              refine SOps.nil ?_
              refine SCode.ret ?_
              obtain rfl := Option.some.inj h
              exact ⟨⟨[(2, .c (.vec (([] : List SCurtail)).length 7 (gL cSCurtail dSCurtail (([] : List SCurtail))))), (3, .c (.bool false))], []⟩, _, sub_gen [] rfl rfl ⟨⟨_, rfl, .inr (.inr (.inr (.inl ⟨_, _, rfl, rfl⟩)))⟩, zc rfl rfl, trivial⟩ trivial, resA2 (v1 := .c (.vec (([] : List SCurtail)).length 7 (gL cSCurtail dSCurtail (([] : List SCurtail))))) (v2 := .c (.bool false)) rfl rfl rfl, rfl⟩
            refine SCode.cond_f rfl g32 ?_
            refine SCode.skip ?_
            exact ⟨(), h, sub_gen [] rfl rfl ⟨zc rfl rfl, zc rfl rfl, zc rfl rfl, zc rfl rfl, trivial⟩ trivial⟩
          refine SCode.region (show SOps _ _ _ [0, 1, 2, 3, 4, 5, 6, 7] _ _ from ?_)
          refine SOps.q rfl (.plain rfl) rfl (q_move rfl rfl) ?_
          refine SOps.q rfl (.plain rfl) rfl (q_neq rfl rfl rfl) ?_
          refine SOps.q rfl (.plain rfl) rfl (q_move rfl rfl) ?_
          refine SOps.skip rfl 2 24 true rfl rfl (.inl (gF g29)) rfl ?_
          refine SOps.skip rfl 2 24 true rfl rfl (.inl (gF g29)) rfl ?_
          refine SOps.skip rfl 2 24 true rfl rfl (.inl (gF g29)) rfl ?_
          refine SOps.skip rfl 2 24 true rfl rfl (.inl (gF g29)) rfl ?_
          refine SOps.q rfl (.plain rfl) rfl (q_pick_f rfl rfl g29 rfl) ?_
          refine SOps.sub (st' := ⟨[(0, .c (.vec a0_l.length 7 (gL cSCurtail dSCurtail a0_l))), (6, .c (.vec c_26.1.length 7 (gL cSCurtail dSCurtail c_26.1))), (9, .c (.int .i64 (((a0_l).length : Int)))), (10, .c (.int .i64 t10_13)), (29, .c (.bool false))], []⟩) (sub_gen [] rfl rfl ⟨zc rfl rfl, zc rfl rfl, zc rfl rfl, zc rfl rfl, zc rfl rfl, trivial⟩ trivial) ?_
          refine SOps.nil ?_
          refine SCode.cond_f rfl rfl ?_
          refine SCode.skip ?_
          exact ⟨(), h, sub_gen [] rfl rfl ⟨zc rfl rfl, zc rfl rfl, zc rfl rfl, zc rfl rfl, trivial⟩ trivial⟩
        rintro ⟨⟩ h
        show SCode _ _ _ ⟨[(0, .c (.vec a0_l.length 7 (gL cSCurtail dSCurtail a0_l))), (6, .c (.vec c_26.1.length 7 (gL cSCurtail dSCurtail c_26.1))), (9, .c (.int .i64 (((a0_l).length : Int)))), (10, .c (.int .i64 t10_13))], []⟩ _
        replace h : chargenetlaw13_build_p28 t10_13 (fun out_12 t10_13 => chargenetlaw13_build_l23 F a0_l n_23 out_12 t10_13) c_26 = some r := h
        unfold chargenetlaw13_build_p28 at h
        refine SCode.region (show SOps _ _ _ [0, 1] _ _ from ?_)
        refine SOps.q rfl (.plain rfl) rfl (q_move rfl rfl) ?_
        refine SOps.q rfl (.plain rfl) rfl (q_assign rfl rfl) ?_
        refine SOps.sub (st' := ⟨[(0, .c (.vec a0_l.length 7 (gL cSCurtail dSCurtail a0_l))), (4, .c (.vec c_26.1.length 7 (gL cSCurtail dSCurtail c_26.1))), (9, .c (.int .i64 (((a0_l).length : Int)))), (10, .c (.int .i64 t10_13))], []⟩) (sub_gen [] rfl rfl ⟨zc rfl rfl, zc rfl rfl, zc rfl rfl, zc rfl rfl, trivial⟩ trivial) ?_
        refine SOps.nil ?_
        refine SCode.region (show SOps _ _ _ [0, 1] _ _ from ?_)
        refine SOps.q rfl (.plain rfl) rfl (q_add rfl rfl rfl) ?_
        refine SOps.q rfl (.plain rfl) rfl (q_move rfl rfl) ?_
        refine SOps.sub (st' := ⟨[(0, .c (.vec a0_l.length 7 (gL cSCurtail dSCurtail a0_l))), (4, .c (.vec c_26.1.length 7 (gL cSCurtail dSCurtail c_26.1))), (9, .c (.int .i64 (((a0_l).length : Int)))), (10, .c (.int .i64 (IntKind.wrap .i64 (t10_13 + 1))))], []⟩) (sub_gen [] rfl rfl ⟨zc rfl rfl, zc rfl rfl, zc rfl rfl, zc rfl rfl, trivial⟩ trivial) ?_
        refine SOps.nil ?_
        exact ⟨(n_23, (c_26.1, IntKind.wrap .i64 (t10_13 + 1))), h, Nat.lt_succ_self n_23, sub_gen [] rfl rfl ⟨zc rfl rfl, zc rfl rfl, zc rfl rfl, zc rfl rfl, trivial⟩ trivial⟩
      refine SCode.cond_f rfl g24 ?_
      refine SCode.exit ?_
      exact ⟨out_12, h, sub_gen [] rfl rfl ⟨zc rfl rfl, trivial⟩ trivial⟩
  rintro out_1 h
  show SCode _ _ _ ⟨[(4, .c (.vec out_1.length 7 (gL cSCurtail dSCurtail out_1)))], []⟩ _
  replace h : chargenetlaw13_build_p2 out_1 = some r := h
  unfold chargenetlaw13_build_p2 at h
  refine SCode.seq ?_
  refine SCode.region (show SOps _ _ _ [0, 1, 2] _ _ from ?_)
  refine SOps.q rfl (.plain rfl) rfl (q_move rfl rfl) ?_
  refine SOps.q rfl (.plain rfl) rfl (q_assign rfl rfl) ?_
  refine SOps.q rfl (.plain rfl) rfl (q_assign rfl rfl) ?_
  refine SOps.sub (st' := ⟨[(2, .c (.vec out_1.length 7 (gL cSCurtail dSCurtail out_1))), (3, .c (.bool true))], []⟩) (sub_gen [] rfl rfl ⟨zc rfl rfl, zc rfl rfl, trivial⟩ trivial) ?_
  refine SOps.nil ?_
  refine SCode.ret ?_
  obtain rfl := Option.some.inj h
  exact ⟨⟨[(2, .c (.vec out_1.length 7 (gL cSCurtail dSCurtail out_1))), (3, .c (.bool true))], []⟩, _, sub_gen [] rfl rfl ⟨zc rfl rfl, zc rfl rfl, trivial⟩ trivial, resA2 (v1 := .c (.vec out_1.length 7 (gL cSCurtail dSCurtail out_1))) (v2 := .c (.bool true)) rfl rfl rfl, rfl⟩
set_option maxRecDepth 100000 in
set_option maxHeartbeats 8000000 in
theorem chargenetlaw13_CurtailNext_ok (F : Nat) (a0_l : List SCurtail) (a1_t : Int) (a2_u : Int) (r : Bool) (h : chargenetlaw13_CurtailNext F a0_l a1_t a2_u = some r) :
    SFun Try.prog 6 [] [.c (.vec a0_l.length 7 (gL cSCurtail dSCurtail a0_l)), .c (.int .i64 a1_t), .c (.int .u16 a2_u)] (fun x _ => x = .c (.bool r)) := by
  refine SFun.of (n := 91) Try.func6 rfl rfl rfl ?_
  unfold chargenetlaw13_CurtailNext at h
  show SCode _ _ _ ⟨[(0, .c (.vec a0_l.length 7 (gL cSCurtail dSCurtail a0_l))), (1, .c (.int .i64 a1_t)), (2, .c (.int .u16 a2_u))], []⟩ _
  refine SCode.seq ?_
  refine SCode.region (show SOps _ _ _ [0] _ _ from ?_)
  refine SOps.q rfl (.plain rfl) rfl (q_assign rfl rfl) ?_
  refine SOps.sub (st' := ⟨[(0, .c (.vec a0_l.length 7 (gL cSCurtail dSCurtail a0_l))), (1, .c (.int .i64 a1_t)), (2, .c (.int .u16 a2_u))], []⟩) (sub_gen [] rfl rfl ⟨zc rfl rfl, zc rfl rfl, zc rfl rfl, trivial⟩ trivial) ?_
  refine SOps.nil ?_
  refine SCode.seq ?_
  refine SCode.seq ?_
  rcases cond_out h with ⟨g1, h⟩ | ⟨g1, h⟩
  · refine SCode.region (show SOps _ _ _ [0, 1, 2, 3, 4, 5, 6, 7, 8, 9, 10] _ _ from ?_)
    refine SOps.q rfl (.plain rfl) rfl (q_move rfl rfl) ?_
    refine SOps.q rfl (.plain rfl) rfl (q_len_vec rfl rfl sl34) ?_
    refine SOps.q rfl (.plain rfl) rfl (q_gtr rfl rfl rfl) ?_
    refine SOps.q rfl (.plain rfl) rfl (q_move rfl rfl) ?_
    refine SOps.skip rfl 3 16 false rfl rfl (.inl (gT g1)) rfl ?_
    refine SOps.skip rfl 3 16 false rfl rfl (.inl (gT g1)) rfl ?_
    refine SOps.q rfl (.plain rfl) rfl (q_pick_t rfl rfl g1 rfl) ?_
    refine SOps.q rfl (.plain rfl) rfl (q_move rfl rfl) ?_
    refine SOps.skip rfl 7 20 false rfl rfl (.inl rfl) rfl ?_
    refine SOps.skip rfl 7 20 false rfl rfl (.inl rfl) rfl ?_
    refine SOps.q rfl (.plain rfl) rfl (q_pick_t rfl rfl rfl rfl) ?_
    refine SOps.sub (st' := ⟨[(0, .c (.vec a0_l.length 7 (gL cSCurtail dSCurtail a0_l))), (1, .c (.int .i64 a1_t)), (2, .c (.int .u16 a2_u)), (23, .c (.bool true))], []⟩) (sub_gen [] rfl rfl ⟨zc rfl rfl, zc rfl rfl, zc rfl rfl, zc rfl rfl, trivial⟩ trivial) ?_
    refine SOps.nil ?_
    refine SCode.cond_t rfl rfl ?_
    refine SCode.seq ?_
    obtain ⟨c_2, g3, h⟩ := bind_out h
    try dsimp only at h
    refine SCode.region (show SOps _ _ _ [0, 1] _ _ from ?_)
    refine SOps.q rfl (.plain rfl) rfl (q_call (chargenetlaw13_exampleHolds_ok F  c_2 g3) [] rfl fn9 trivial (.inl rfl)) ?_
    refine SOps.q rfl (.plain rfl) rfl (q_assign rfl rfl) ?_
    refine SOps.sub (st' := ⟨[(6, .c (.bool c_2))], []⟩) (sub_gen [] rfl rfl ⟨zc rfl rfl, trivial⟩ trivial) ?_
    refine SOps.nil ?_
    refine SCode.ret ?_
    obtain rfl := Option.some.inj h
    exact ⟨⟨[(6, .c (.bool c_2))], []⟩, _, sub_gen [] rfl rfl ⟨zc rfl rfl, trivial⟩ trivial, resA1 (v := .c (.bool c_2)) rfl rfl, rfl⟩
  rcases cond_out h with ⟨g4, h⟩ | ⟨g4, h⟩
  · refine SCode.region (show SOps _ _ _ [0, 1, 2, 3, 4, 5, 6, 7, 8, 9, 10] _ _ from ?_)
    refine SOps.q rfl (.plain rfl) rfl (q_move rfl rfl) ?_
    refine SOps.q rfl (.plain rfl) rfl (q_len_vec rfl rfl sl34) ?_
    refine SOps.q rfl (.plain rfl) rfl (q_gtr rfl rfl rfl) ?_
    refine SOps.q rfl (.plain rfl) rfl (q_move rfl rfl) ?_
    refine SOps.q rfl (.guard 3 16 false rfl rfl (gF g1)) rfl (q_move rfl rfl) ?_
    refine SOps.q rfl (.guard 3 16 false rfl rfl (gF g1)) rfl (q_lss rfl rfl rfl) ?_
    refine SOps.q rfl (.plain rfl) rfl (q_pick_f rfl rfl g1 rfl) ?_
    refine SOps.q rfl (.plain rfl) rfl (q_move rfl rfl) ?_
    refine SOps.skip rfl 7 20 false rfl rfl (.inl (gT g4)) rfl ?_
    refine SOps.skip rfl 7 20 false rfl rfl (.inl (gT g4)) rfl ?_
    refine SOps.q rfl (.plain rfl) rfl (q_pick_t rfl rfl g4 rfl) ?_
    refine SOps.sub (st' := ⟨[(0, .c (.vec a0_l.length 7 (gL cSCurtail dSCurtail a0_l))), (1, .c (.int .i64 a1_t)), (2, .c (.int .u16 a2_u)), (23, .c (.bool true))], []⟩) (sub_gen [] rfl rfl ⟨zc rfl rfl, zc rfl rfl, zc rfl rfl, zc rfl rfl, trivial⟩ trivial) ?_
    refine SOps.nil ?_
    refine SCode.cond_t rfl rfl ?_
    refine SCode.seq ?_
    obtain ⟨c_5, g6, h⟩ := bind_out h
    try dsimp only at h
    refine SCode.region (show SOps _ _ _ [0, 1] _ _ from ?_)
    refine SOps.q rfl (.plain rfl) rfl (q_call (chargenetlaw13_exampleHolds_ok F  c_5 g6) [] rfl fn9 trivial (.inl rfl)) ?_
    refine SOps.q rfl (.plain rfl) rfl (q_assign rfl rfl) ?_
    refine SOps.sub (st' := ⟨[(6, .c (.bool c_5))], []⟩) (sub_gen [] rfl rfl ⟨zc rfl rfl, trivial⟩ trivial) ?_
    refine SOps.nil ?_
    refine SCode.ret ?_
    obtain rfl := Option.some.inj h
    exact ⟨⟨[(6, .c (.bool c_5))], []⟩, _, sub_gen [] rfl rfl ⟨zc rfl rfl, trivial⟩ trivial, resA1 (v := .c (.bool c_5)) rfl rfl, rfl⟩
  refine SCode.region (show SOps _ _ _ [0, 1, 2, 3, 4, 5, 6, 7, 8, 9, 10] _ _ from ?_)
  refine SOps.q rfl (.plain rfl) rfl (q_move rfl rfl) ?_
  refine SOps.q rfl (.plain rfl) rfl (q_len_vec rfl rfl sl34) ?_
  refine SOps.q rfl (.plain rfl) rfl (q_gtr rfl rfl rfl) ?_
  refine SOps.q rfl (.plain rfl) rfl (q_move rfl rfl) ?_
  refine SOps.q rfl (.guard 3 16 false rfl rfl (gF g1)) rfl (q_move rfl rfl) ?_
  refine SOps.q rfl (.guard 3 16 false rfl rfl (gF g1)) rfl (q_lss rfl rfl rfl) ?_
  refine SOps.q rfl (.plain rfl) rfl (q_pick_f rfl rfl g1 rfl) ?_
  refine SOps.q rfl (.plain rfl) rfl (q_move rfl rfl) ?_
  refine SOps.q rfl (.guard 7 20 false rfl rfl (gF g4)) rfl (q_move rfl rfl) ?_
  refine SOps.q rfl (.guard 7 20 false rfl rfl (gF g4)) rfl (q_gtr rfl rfl rfl) ?_
  refine SOps.q rfl (.plain rfl) rfl (q_pick_f rfl rfl g4 rfl) ?_
  refine SOps.sub (st' := ⟨[(0, .c (.vec a0_l.length 7 (gL cSCurtail dSCurtail a0_l))), (1, .c (.int .i64 a1_t)), (2, .c (.int .u16 a2_u)), (23, .c (.bool (decide (536870912 < a1_t))))], []⟩) (sub_gen [] rfl rfl ⟨zc rfl rfl, zc rfl rfl, zc rfl rfl, zc rfl rfl, trivial⟩ trivial) ?_
  refine SOps.nil ?_
  rcases cond_out h with ⟨g7, h⟩ | ⟨g7, h⟩
  · refine SCode.cond_t rfl g7 ?_
    refine SCode.seq ?_
    obtain ⟨c_8, g9, h⟩ := bind_out h
    try dsimp only at h
    refine SCode.region (show SOps _ _ _ [0, 1] _ _ from ?_)
    refine SOps.q rfl (.plain rfl) rfl (q_call (chargenetlaw13_exampleHolds_ok F  c_8 g9) [] rfl fn9 trivial (.inl rfl)) ?_
    refine SOps.q rfl (.plain rfl) rfl (q_assign rfl rfl) ?_
    refine SOps.sub (st' := ⟨[(6, .c (.bool c_8))], []⟩) (sub_gen [] rfl rfl ⟨zc rfl rfl, trivial⟩ trivial) ?_
    refine SOps.nil ?_
    refine SCode.ret ?_
    obtain rfl := Option.some.inj h
    exact ⟨⟨[(6, .c (.bool c_8))], []⟩, _, sub_gen [] rfl rfl ⟨zc rfl rfl, trivial⟩ trivial, resA1 (v := .c (.bool c_8)) rfl rfl, rfl⟩
  refine SCode.cond_f rfl g7 ?_
  refine SCode.skip ?_
  refine SCode.seq ?_
  obtain ⟨c_10, g11, h⟩ := bind_out h
  try dsimp only at h
  refine SCode.region (show SOps _ _ _ [0, 1, 2, 3, 4, 5, 6] _ _ from ?_)
  refine SOps.q rfl (.plain rfl) rfl (q_move rfl rfl) ?_
  refine SOps.q rfl (.plain rfl) rfl (q_call (chargenetlaw13_build_ok F a0_l c_10 g11) [] rfl fn15 ⟨⟨_, rfl, .inl ⟨rfl, rfl⟩⟩, trivial⟩ (.inl rfl)) ?_
  refine SOps.q rfl (.plain rfl) rfl (q_move rfl rfl) ?_
  refine SOps.q rfl (.plain rfl) rfl (q_extract rfl rfl rfl) ?_
  refine SOps.q rfl (.plain rfl) rfl (q_extract rfl rfl rfl) ?_
  refine SOps.q rfl (.plain rfl) rfl (q_assign rfl rfl) ?_
  refine SOps.q rfl (.plain rfl) rfl (q_assign rfl rfl) ?_
  refine SOps.sub (st' := ⟨[(1, .c (.int .i64 a1_t)), (2, .c (.int .u16 a2_u)), (7, .c (.vec c_10.1.length 7 (gL cSCurtail dSCurtail c_10.1))), (8, .c (.bool c_10.2))], []⟩) (sub_gen [] rfl rfl ⟨zc rfl rfl, zc rfl rfl, zc rfl rfl, zc rfl rfl, trivial⟩ trivial) ?_
  refine SOps.nil ?_
  refine SCode.seq ?_
  refine SCode.seq ?_
  refine SCode.region (show SOps _ _ _ [0, 1] _ _ from ?_)
  refine SOps.q rfl (.plain rfl) rfl (q_move rfl rfl) ?_
  refine SOps.q rfl (.plain rfl) rfl (q_not rfl rfl) ?_
  refine SOps.sub (st' := ⟨[(1, .c (.int .i64 a1_t)), (2, .c (.int .u16 a2_u)), (7, .c (.vec c_10.1.length 7 (gL cSCurtail dSCurtail c_10.1))), (31, .c (.bool ((!c_10.2))))], []⟩) (sub_gen [] rfl rfl ⟨zc rfl rfl, zc rfl rfl, zc rfl rfl, zc rfl rfl, trivial⟩ trivial) ?_
  refine SOps.nil ?_
  rcases cond_out h with ⟨g12, h⟩ | ⟨g12, h⟩
  · refine SCode.cond_t rfl g12 ?_
    refine SCode.seq ?_
    refine SCode.region (show SOps _ _ _ [0] _ _ from ?_)
    refine SOps.q rfl (.plain rfl) rfl (q_assign rfl rfl) ?_
    refine SOps.sub (st' := ⟨[(6, .c (.bool false))], []⟩) (sub_gen [] rfl rfl ⟨zc rfl rfl, trivial⟩ trivial) ?_
    refine SOps.nil ?_
    refine SCode.ret ?_
    obtain rfl := Option.some.inj h
    exact ⟨⟨[(6, .c (.bool false))], []⟩, _, sub_gen [] rfl rfl ⟨zc rfl rfl, trivial⟩ trivial, resA1 (v := .c (.bool false)) rfl rfl, rfl⟩
  refine SCode.cond_f rfl g12 ?_
  refine SCode.skip ?_
  refine SCode.seq ?_
  obtain ⟨c_13, g14, h⟩ := bind_out h
  try dsimp only at h
  refine SCode.region (show SOps _ _ _ [0, 1, 2, 3] _ _ from ?_)
  refine SOps.q rfl (.plain rfl) rfl (q_move rfl rfl) ?_
  refine SOps.q rfl (.plain rfl) rfl (q_move rfl rfl) ?_
  refine SOps.q rfl (.plain rfl) rfl (q_call (curtail_Next_ok F c_10.1 a1_t c_13 g14) [] rfl fn18 ⟨⟨_, rfl, .inl ⟨rfl, rfl⟩⟩, ⟨_, rfl, .inl ⟨rfl, rfl⟩⟩, trivial⟩ (.inl rfl)) ?_
  refine SOps.q rfl (.plain rfl) rfl (q_assign rfl rfl) ?_
  refine SOps.sub (st' := ⟨[(1, .c (.int .i64 a1_t)), (2, .c (.int .u16 a2_u)), (7, .c (.vec c_10.1.length 7 (gL cSCurtail dSCurtail c_10.1))), (9, .c (.int .i64 c_13))], []⟩) (sub_gen [] rfl rfl ⟨zc rfl rfl, zc rfl rfl, zc rfl rfl, zc rfl rfl, trivial⟩ trivial) ?_
  refine SOps.nil ?_
  refine SCode.join (σ := Unit) (S := fun s => ⟨[(1, .c (.int .i64 a1_t)), (2, .c (.int .u16 a2_u)), (7, .c (.vec c_10.1.length 7 (gL cSCurtail dSCurtail c_10.1))), (9, .c (.int .i64 c_13))], []⟩) (g := fun s => chargenetlaw13_CurtailNext_p61 F a1_t a2_u c_10 c_13 = some r) ?_ ?_
  rotate_left
  · refine SCode.seq ?_
    rcases cond_out h with ⟨g62, h⟩ | ⟨g62, h⟩
    · rcases cond_out h with ⟨g63, h⟩ | ⟨g63, h⟩
      · refine SCode.region (show SOps _ _ _ [0, 1, 2, 3, 4, 5, 6, 7, 8, 9, 10] _ _ from ?_)
        refine SOps.q rfl (.plain rfl) rfl (q_move rfl rfl) ?_
        refine SOps.q rfl (.plain rfl) rfl (q_geq rfl rfl rfl) ?_
        refine SOps.q rfl (.plain rfl) rfl (q_move rfl rfl) ?_
        refine SOps.q rfl (.guard 2 37 true rfl rfl (gT g62)) rfl (q_move rfl rfl) ?_
        refine SOps.q rfl (.guard 2 37 true rfl rfl (gT g62)) rfl (q_move rfl rfl) ?_
        refine SOps.q rfl (.guard 2 37 true rfl rfl (gT g62)) rfl (q_leq rfl rfl rfl) ?_
        refine SOps.q rfl (.plain rfl) rfl (q_pick_t rfl rfl g62 rfl) ?_
        refine SOps.q rfl (.plain rfl) rfl (q_move rfl rfl) ?_
        refine SOps.skip rfl 7 42 false rfl rfl (.inl (gT g63)) rfl ?_
        refine SOps.skip rfl 7 42 false rfl rfl (.inl (gT g63)) rfl ?_
        refine SOps.q rfl (.plain rfl) rfl (q_pick_t rfl rfl g63 rfl) ?_
        refine SOps.sub (st' := ⟨[(1, .c (.int .i64 a1_t)), (2, .c (.int .u16 a2_u)), (7, .c (.vec c_10.1.length 7 (gL cSCurtail dSCurtail c_10.1))), (9, .c (.int .i64 c_13)), (45, .c (.bool true))], []⟩) (sub_gen [] rfl rfl ⟨zc rfl rfl, zc rfl rfl, zc rfl rfl, zc rfl rfl, zc rfl rfl, trivial⟩ trivial) ?_
        refine SOps.nil ?_
        refine SCode.cond_t rfl rfl ?_
        refine SCode.seq ?_
        refine SCode.region (show SOps _ _ _ [0] _ _ from ?_)
        refine SOps.q rfl (.plain rfl) rfl (q_assign rfl rfl) ?_
        refine SOps.sub (st' := ⟨[(6, .c (.bool false))], []⟩) (sub_gen [] rfl rfl ⟨zc rfl rfl, trivial⟩ trivial) ?_
        refine SOps.nil ?_
        refine SCode.ret ?_
        obtain rfl := Option.some.inj h
        exact ⟨⟨[(6, .c (.bool false))], []⟩, _, sub_gen [] rfl rfl ⟨zc rfl rfl, trivial⟩ trivial, resA1 (v := .c (.bool false)) rfl rfl, rfl⟩
      refine SCode.region (show SOps _ _ _ [0, 1, 2, 3, 4, 5, 6, 7, 8, 9, 10] _ _ from ?_)
      refine SOps.q rfl (.plain rfl) rfl (q_move rfl rfl) ?_
      refine SOps.q rfl (.plain rfl) rfl (q_geq rfl rfl rfl) ?_
      refine SOps.q rfl (.plain rfl) rfl (q_move rfl rfl) ?_
      refine SOps.q rfl (.guard 2 37 true rfl rfl (gT g62)) rfl (q_move rfl rfl) ?_
      refine SOps.q rfl (.guard 2 37 true rfl rfl (gT g62)) rfl (q_move rfl rfl) ?_
      refine SOps.q rfl (.guard 2 37 true rfl rfl (gT g62)) rfl (q_leq rfl rfl rfl) ?_
      refine SOps.q rfl (.plain rfl) rfl (q_pick_t rfl rfl g62 rfl) ?_
      refine SOps.q rfl (.plain rfl) rfl (q_move rfl rfl) ?_
      refine SOps.q rfl (.guard 7 42 false rfl rfl (gF g63)) rfl (q_move rfl rfl) ?_
      refine SOps.q rfl (.guard 7 42 false rfl rfl (gF g63)) rfl (q_lss rfl rfl rfl) ?_
      refine SOps.q rfl (.plain rfl) rfl (q_pick_f rfl rfl g63 rfl) ?_
      refine SOps.sub (st' := ⟨[(1, .c (.int .i64 a1_t)), (2, .c (.int .u16 a2_u)), (7, .c (.vec c_10.1.length 7 (gL cSCurtail dSCurtail c_10.1))), (9, .c (.int .i64 c_13)), (45, .c (.bool (decide (c_13 < (-1)))))], []⟩) (sub_gen [] rfl rfl ⟨zc rfl rfl, zc rfl rfl, zc rfl rfl, zc rfl rfl, zc rfl rfl, trivial⟩ trivial) ?_
      refine SOps.nil ?_
      rcases cond_out h with ⟨g64, h⟩ | ⟨g64, h⟩
      · refine SCode.cond_t rfl g64 ?_
        refine SCode.seq ?_
        refine SCode.region (show SOps _ _ _ [0] _ _ from ?_)
        refine SOps.q rfl (.plain rfl) rfl (q_assign rfl rfl) ?_
        refine SOps.sub (st' := ⟨[(6, .c (.bool false))], []⟩) (sub_gen [] rfl rfl ⟨zc rfl rfl, trivial⟩ trivial) ?_
        refine SOps.nil ?_
        refine SCode.ret ?_
        obtain rfl := Option.some.inj h
        exact ⟨⟨[(6, .c (.bool false))], []⟩, _, sub_gen [] rfl rfl ⟨zc rfl rfl, trivial⟩ trivial, resA1 (v := .c (.bool false)) rfl rfl, rfl⟩
      refine SCode.cond_f rfl g64 ?_
      refine SCode.skip ?_
      exact ⟨(), h, sub_gen [] rfl rfl ⟨zc rfl rfl, zc rfl rfl, zc rfl rfl, zc rfl rfl, trivial⟩ trivial⟩
    refine SCode.region (show SOps _ _ _ [0, 1, 2, 3, 4, 5, 6, 7, 8, 9, 10] _ _ from ?_)
    refine SOps.q rfl (.plain rfl) rfl (q_move rfl rfl) ?_
    refine SOps.q rfl (.plain rfl) rfl (q_geq rfl rfl rfl) ?_
    refine SOps.q rfl (.plain rfl) rfl (q_move rfl rfl) ?_
    refine SOps.skip rfl 2 37 true rfl rfl (.inl (gF g62)) rfl ?_
    refine SOps.skip rfl 2 37 true rfl rfl (.inl (gF g62)) rfl ?_
    refine SOps.skip rfl 2 37 true rfl rfl (.inl (gF g62)) rfl ?_
    refine SOps.q rfl (.plain rfl) rfl (q_pick_f rfl rfl g62 rfl) ?_
    refine SOps.q rfl (.plain rfl) rfl (q_move rfl rfl) ?_
    refine SOps.q rfl (.guard 7 42 false rfl rfl rfl) rfl (q_move rfl rfl) ?_
    refine SOps.q rfl (.guard 7 42 false rfl rfl rfl) rfl (q_lss rfl rfl rfl) ?_
    refine SOps.q rfl (.plain rfl) rfl (q_pick_f rfl rfl rfl rfl) ?_
    refine SOps.sub (st' := ⟨[(1, .c (.int .i64 a1_t)), (2, .c (.int .u16 a2_u)), (7, .c (.vec c_10.1.length 7 (gL cSCurtail dSCurtail c_10.1))), (9, .c (.int .i64 c_13)), (45, .c (.bool (decide (c_13 < (-1)))))], []⟩) (sub_gen [] rfl rfl ⟨zc rfl rfl, zc rfl rfl, zc rfl rfl, zc rfl rfl, zc rfl rfl, trivial⟩ trivial) ?_
    refine SOps.nil ?_
    rcases cond_out h with ⟨g65, h⟩ | ⟨g65, h⟩
    · refine SCode.cond_t rfl g65 ?_
      refine SCode.seq ?_
      refine SCode.region (show SOps _ _ _ [0] _ _ from ?_)
      refine SOps.q rfl (.plain rfl) rfl (q_assign rfl rfl) ?_
      refine SOps.sub (st' := ⟨[(6, .c (.bool false))], []⟩) (sub_gen [] rfl rfl ⟨zc rfl rfl, trivial⟩ trivial) ?_
      refine SOps.nil ?_
      refine SCode.ret ?_
      obtain rfl := Option.some.inj h
      exact ⟨⟨[(6, .c (.bool false))], []⟩, _, sub_gen [] rfl rfl ⟨zc rfl rfl, trivial⟩ trivial, resA1 (v := .c (.bool false)) rfl rfl, rfl⟩
    refine SCode.cond_f rfl g65 ?_
    refine SCode.skip ?_
    exact ⟨(), h, sub_gen [] rfl rfl ⟨zc rfl rfl, zc rfl rfl, zc rfl rfl, zc rfl rfl, trivial⟩ trivial⟩
  rintro ⟨⟩ h
  show SCode _ _ _ ⟨[(1, .c (.int .i64 a1_t)), (2, .c (.int .u16 a2_u)), (7, .c (.vec c_10.1.length 7 (gL cSCurtail dSCurtail c_10.1))), (9, .c (.int .i64 c_13))], []⟩ _
  replace h : chargenetlaw13_CurtailNext_p61 F a1_t a2_u c_10 c_13 = some r := h
  unfold chargenetlaw13_CurtailNext_p61 at h
  refine SCode.seq ?_
  refine SCode.region (show SOps _ _ _ [0, 1, 2, 3, 4] _ _ from ?_)
  refine SOps.q rfl (.plain rfl) rfl (q_move rfl rfl) ?_
  refine SOps.q rfl (.plain rfl) rfl (q_move rfl rfl) ?_
  refine SOps.q rfl (.plain rfl) rfl (q_convert rfl rfl un44 un3) ?_
  refine SOps.q rfl (.plain rfl) rfl (q_add rfl rfl rfl) ?_
  refine SOps.q rfl (.plain rfl) rfl (q_assign rfl rfl) ?_
  refine SOps.sub (st' := ⟨[(1, .c (.int .i64 a1_t)), (2, .c (.int .u16 a2_u)), (7, .c (.vec c_10.1.length 7 (gL cSCurtail dSCurtail c_10.1))), (9, .c (.int .i64 c_13)), (10, .c (.int .i64 (IntKind.wrap .i64 (a1_t + IntKind.wrap .i64 a2_u))))], []⟩) (sub_gen [] rfl rfl ⟨zc rfl rfl, zc rfl rfl, zc rfl rfl, zc rfl rfl, zc rfl rfl, trivial⟩ trivial) ?_
  refine SOps.nil ?_
  refine SCode.join (σ := Int) (S := fun s => ⟨[(1, .c (.int .i64 a1_t)), (7, .c (.vec c_10.1.length 7 (gL cSCurtail dSCurtail c_10.1))), (9, .c (.int .i64 c_13)), (10, .c (.int .i64 s))], []⟩) (g := fun s => chargenetlaw13_CurtailNext_p58 F a1_t c_10 c_13 s = some r) ?_ ?_
  rotate_left
  · refine SCode.seq ?_
    refine SCode.region (show SOps _ _ _ [0, 1] _ _ from ?_)
    refine SOps.q rfl (.plain rfl) rfl (q_move rfl rfl) ?_
    refine SOps.q rfl (.plain rfl) rfl (q_geq rfl rfl rfl) ?_
    refine SOps.sub (st' := ⟨[(1, .c (.int .i64 a1_t)), (2, .c (.int .u16 a2_u)), (7, .c (.vec c_10.1.length 7 (gL cSCurtail dSCurtail c_10.1))), (9, .c (.int .i64 c_13)), (10, .c (.int .i64 (IntKind.wrap .i64 (a1_t + IntKind.wrap .i64 a2_u)))), (51, .c (.bool (decide (0 ≤ c_13))))], []⟩) (sub_gen [] rfl rfl ⟨zc rfl rfl, zc rfl rfl, zc rfl rfl, zc rfl rfl, zc rfl rfl, zc rfl rfl, trivial⟩ trivial) ?_
    refine SOps.nil ?_
    rcases cond_out h with ⟨g59, h⟩ | ⟨g59, h⟩
    · refine SCode.cond_t rfl g59 ?_
      obtain ⟨g60, h⟩ := guard_out h
      refine SCode.region (show SOps _ _ _ [0, 1, 2, 3, 4, 5, 6, 7, 8] _ _ from ?_)
      refine SOps.q rfl (.plain rfl) rfl (q_move rfl rfl) ?_
      refine SOps.q rfl (.plain rfl) rfl (q_move rfl rfl) ?_
      refine SOps.q rfl (.plain rfl) rfl (q_convert rfl rfl un44 un3) ?_
      refine SOps.q rfl (.plain rfl) rfl (q_move rfl rfl) ?_
      refine SOps.q rfl (.plain rfl) rfl (q_move rfl rfl) ?_
      refine SOps.q rfl (.plain rfl) rfl (q_sub rfl rfl rfl) ?_
      refine SOps.q rfl (.plain rfl) rfl (q_rem rfl rfl rfl g60) ?_
      refine SOps.q rfl (.plain rfl) rfl (q_add rfl rfl rfl) ?_
      refine SOps.q rfl (.plain rfl) rfl (q_assign rfl rfl) ?_
      refine SOps.sub (st' := ⟨[(1, .c (.int .i64 a1_t)), (7, .c (.vec c_10.1.length 7 (gL cSCurtail dSCurtail c_10.1))), (9, .c (.int .i64 c_13)), (10, .c (.int .i64 (IntKind.wrap .i64 (a1_t + Int.tmod (IntKind.wrap .i64 a2_u) (IntKind.wrap .i64 (c_13 - a1_t))))))], []⟩) (sub_gen [] rfl rfl ⟨zc rfl rfl, zc rfl rfl, zc rfl rfl, zc rfl rfl, trivial⟩ trivial) ?_
      refine SOps.nil ?_
      exact ⟨IntKind.wrap .i64 (a1_t + Int.tmod (IntKind.wrap .i64 a2_u) (IntKind.wrap .i64 (c_13 - a1_t))), h, sub_gen [] rfl rfl ⟨zc rfl rfl, zc rfl rfl, zc rfl rfl, zc rfl rfl, trivial⟩ trivial⟩
    refine SCode.cond_f rfl g59 ?_
    refine SCode.skip ?_
    exact ⟨IntKind.wrap .i64 (a1_t + IntKind.wrap .i64 a2_u), h, sub_gen [] rfl rfl ⟨zc rfl rfl, zc rfl rfl, zc rfl rfl, zc rfl rfl, trivial⟩ trivial⟩
  rintro at_15 h
  show SCode _ _ _ ⟨[(1, .c (.int .i64 a1_t)), (7, .c (.vec c_10.1.length 7 (gL cSCurtail dSCurtail c_10.1))), (9, .c (.int .i64 c_13)), (10, .c (.int .i64 at_15))], []⟩ _
  replace h : chargenetlaw13_CurtailNext_p58 F a1_t c_10 c_13 at_15 = some r := h
  unfold chargenetlaw13_CurtailNext_p58 at h
  refine SCode.seq ?_
  refine SCode.region (show SOps _ _ _ [0] _ _ from ?_)
  refine SOps.q rfl (.plain rfl) rfl (q_assign rfl rfl) ?_
  refine SOps.sub (st' := ⟨[(1, .c (.int .i64 a1_t)), (7, .c (.vec c_10.1.length 7 (gL cSCurtail dSCurtail c_10.1))), (9, .c (.int .i64 c_13)), (10, .c (.int .i64 at_15)), (11, .c (.bool false))], []⟩) (sub_gen [] rfl rfl ⟨zc rfl rfl, zc rfl rfl, zc rfl rfl, zc rfl rfl, zc rfl rfl, trivial⟩ trivial) ?_
  refine SOps.nil ?_
  refine SCode.join (σ := Bool) (S := fun s => ⟨[(9, .c (.int .i64 c_13)), (11, .c (.bool s))], []⟩) (g := fun s => chargenetlaw13_CurtailNext_p18 c_13 s = some r) ?_ ?_
  rotate_left
  · refine SCode.seq ?_
    refine SCode.region (show SOps _ _ _ [0] _ _ from ?_)
    refine SOps.q rfl (.plain rfl) rfl (q_move rfl rfl) ?_
    refine SOps.sub (st' := ⟨[(1, .c (.int .i64 a1_t)), (7, .c (.vec c_10.1.length 7 (gL cSCurtail dSCurtail c_10.1))), (9, .c (.int .i64 c_13)), (10, .c (.int .i64 at_15)), (11, .c (.bool false)), (60, .c (.int .i64 0))], []⟩) (sub_gen [] rfl rfl ⟨zc rfl rfl, zc rfl rfl, zc rfl rfl, zc rfl rfl, zc rfl rfl, zc rfl rfl, trivial⟩ trivial) ?_
    refine SOps.nil ?_
    refine SCode.block ?_
    refine SCode.sub (st' := ⟨[(1, .c (.int .i64 a1_t)), (7, .c (.vec c_10.1.length 7 (gL cSCurtail dSCurtail c_10.1))), (9, .c (.int .i64 c_13)), (10, .c (.int .i64 at_15)), (11, .c (.bool false)), (60, .c (.int .i64 0))], []⟩) (sub_gen [] rfl rfl ⟨zc rfl rfl, zc rfl rfl, zc rfl rfl, zc rfl rfl, zc rfl rfl, zc rfl rfl, trivial⟩ trivial) ?_
    refine (SCode.loop (σ := Nat × (Bool × Int)) (S := fun s => ⟨[(1, .c (.int .i64 a1_t)), (7, .c (.vec c_10.1.length 7 (gL cSCurtail dSCurtail c_10.1))), (9, .c (.int .i64 c_13)), (10, .c (.int .i64 at_15)), (11, .c (.bool s.2.1)), (60, .c (.int .i64 s.2.2))], []⟩) (g := fun s => chargenetlaw13_CurtailNext_l44 F a1_t c_10 c_13 at_15 s.1 s.2.1 s.2.2 = some r) (μ := fun s => s.1) (F, (false, 0)) h ?_)
    rintro ⟨n_44, ⟨changed_29, t60_30⟩⟩ h
    replace h : chargenetlaw13_CurtailNext_l44 F a1_t c_10 c_13 at_15 n_44 changed_29 t60_30 = some r := h
    show SCode _ _ _ ⟨[(1, .c (.int .i64 a1_t)), (7, .c (.vec c_10.1.length 7 (gL cSCurtail dSCurtail c_10.1))), (9, .c (.int .i64 c_13)), (10, .c (.int .i64 at_15)), (11, .c (.bool changed_29)), (60, .c (.int .i64 t60_30))], []⟩ _
    cases n_44 with
    | zero => cases h
    | succ n_44 =>
      replace h : chargenetlaw13_CurtailNext_b44 F a1_t c_10 c_13 at_15 (fun changed_29 t60_30 => chargenetlaw13_CurtailNext_l44 F a1_t c_10 c_13 at_15 n_44 changed_29 t60_30) changed_29 t60_30 = some r := h
      unfold chargenetlaw13_CurtailNext_b44 at h
      refine SCode.seq ?_
      refine SCode.region (show SOps _ _ _ [0] _ _ from ?_)
      refine SOps.q rfl (.plain rfl) rfl (q_lss rfl rfl rfl) ?_
      refine SOps.sub (st' := ⟨[(1, .c (.int .i64 a1_t)), (7, .c (.vec c_10.1.length 7 (gL cSCurtail dSCurtail c_10.1))), (9, .c (.int .i64 c_13)), (10, .c (.int .i64 at_15)), (11, .c (.bool changed_29)), (60, .c (.int .i64 t60_30)), (61, .c (.bool (decide (t60_30 < 32))))], []⟩) (sub_gen [] rfl rfl ⟨zc rfl rfl, zc rfl rfl, zc rfl rfl, zc rfl rfl, zc rfl rfl, zc rfl rfl, zc rfl rfl, trivial⟩ trivial) ?_
      refine SOps.nil ?_
      refine SCode.seq ?_
      rcases cond_out h with ⟨g45, h⟩ | ⟨g45, h⟩
      · refine SCode.cond_t rfl g45 ?_
        refine SCode.skip ?_
        refine SCode.join (σ := Bool) (S := fun s => ⟨[(1, .c (.int .i64 a1_t)), (7, .c (.vec c_10.1.length 7 (gL cSCurtail dSCurtail c_10.1))), (9, .c (.int .i64 c_13)), (10, .c (.int .i64 at_15)), (11, .c (.bool s)), (60, .c (.int .i64 t60_30))], []⟩) (g := fun s => chargenetlaw13_CurtailNext_p47 t60_30 (fun changed_29 t60_30 => chargenetlaw13_CurtailNext_l44 F a1_t c_10 c_13 at_15 n_44 changed_29 t60_30) s = some r) ?_ ?_
        rotate_left
        · refine SCode.block ?_
          refine SCode.seq ?_
          refine SCode.region (show SOps _ _ _ [0, 1] _ _ from ?_)
          refine SOps.q rfl (.plain rfl) rfl (q_move rfl rfl) ?_
          refine SOps.q rfl (.plain rfl) rfl (q_assign rfl rfl) ?_
          refine SOps.sub (st' := ⟨[(1, .c (.int .i64 a1_t)), (7, .c (.vec c_10.1.length 7 (gL cSCurtail dSCurtail c_10.1))), (9, .c (.int .i64 c_13)), (10, .c (.int .i64 at_15)), (11, .c (.bool changed_29)), (12, .c (.int .i64 t60_30)), (60, .c (.int .i64 t60_30))], []⟩) (sub_gen [] rfl rfl ⟨zc rfl rfl, zc rfl rfl, zc rfl rfl, zc rfl rfl, zc rfl rfl, zc rfl rfl, zc rfl rfl, trivial⟩ trivial) ?_
          refine SOps.nil ?_
          refine SCode.seq ?_
          refine SCode.seq ?_
          obtain ⟨c_48, g49, h⟩ := bind_out h
          try dsimp only at h
          obtain ⟨c_50, g51, h⟩ := bind_out h
          try dsimp only at h
          refine SCode.region (show SOps _ _ _ [0, 1, 2, 3, 4, 5, 6, 7, 8] _ _ from ?_)
          refine SOps.q rfl (.plain rfl) rfl (q_move rfl rfl) ?_
          refine SOps.q rfl (.plain rfl) rfl (q_move rfl rfl) ?_
          refine SOps.q rfl (.plain rfl) rfl (q_move rfl rfl) ?_
          refine SOps.q rfl (.plain rfl) rfl (q_call (curtail_At_ok F c_10.1 t60_30 at_15 c_48 g49) [] rfl fn16 ⟨⟨_, rfl, .inl ⟨rfl, rfl⟩⟩, ⟨_, rfl, .inl ⟨rfl, rfl⟩⟩, ⟨_, rfl, .inl ⟨rfl, rfl⟩⟩, trivial⟩ (.inl rfl)) ?_
          refine SOps.q rfl (.plain rfl) rfl (q_move rfl rfl) ?_
          refine SOps.q rfl (.plain rfl) rfl (q_move rfl rfl) ?_
          refine SOps.q rfl (.plain rfl) rfl (q_move rfl rfl) ?_
          refine SOps.q rfl (.plain rfl) rfl (q_call (curtail_At_ok F c_10.1 t60_30 a1_t c_50 g51) [] rfl fn16 ⟨⟨_, rfl, .inl ⟨rfl, rfl⟩⟩, ⟨_, rfl, .inl ⟨rfl, rfl⟩⟩, ⟨_, rfl, .inl ⟨rfl, rfl⟩⟩, trivial⟩ (.inl rfl)) ?_
          refine SOps.q rfl (.plain rfl) rfl (q_neq rfl rfl rfl) ?_
          refine SOps.sub (st' := ⟨[(1, .c (.int .i64 a1_t)), (7, .c (.vec c_10.1.length 7 (gL cSCurtail dSCurtail c_10.1))), (9, .c (.int .i64 c_13)), (10, .c (.int .i64 at_15)), (11, .c (.bool changed_29)), (12, .c (.int .i64 t60_30)), (60, .c (.int .i64 t60_30)), (71, .c (.bool ((!decide (c_48 = c_50)))))], []⟩) (sub_gen [] rfl rfl ⟨zc rfl rfl, zc rfl rfl, zc rfl rfl, zc rfl rfl, zc rfl rfl, zc rfl rfl, zc rfl rfl, zc rfl rfl, trivial⟩ trivial) ?_
          refine SOps.nil ?_
          rcases cond_out h with ⟨g52, h⟩ | ⟨g52, h⟩
          · refine SCode.cond_t rfl g52 ?_
            refine SCode.seq ?_
            refine SCode.region (show SOps _ _ _ [0] _ _ from ?_)
            refine SOps.q rfl (.plain rfl) rfl (q_assign rfl rfl) ?_
            refine SOps.sub (st' := ⟨[(6, .c (.bool false))], []⟩) (sub_gen [] rfl rfl ⟨zc rfl rfl, trivial⟩ trivial) ?_
            refine SOps.nil ?_
            refine SCode.ret ?_
            obtain rfl := Option.some.inj h
            exact ⟨⟨[(6, .c (.bool false))], []⟩, _, sub_gen [] rfl rfl ⟨zc rfl rfl, trivial⟩ trivial, resA1 (v := .c (.bool false)) rfl rfl, rfl⟩
          refine SCode.cond_f rfl g52 ?_
          refine SCode.skip ?_
          rcases cond_out h with ⟨g53, h⟩ | ⟨g53, h⟩
          · refine SCode.region (show SOps _ _ _ [0, 1, 2, 3, 4, 5, 6, 7, 8, 9, 10, 11, 12, 13] _ _ from ?_)
            refine SOps.q rfl (.plain rfl) rfl (q_move rfl rfl) ?_
            refine SOps.q rfl (.plain rfl) rfl (q_move rfl rfl) ?_
            refine SOps.skip rfl 1 73 false rfl rfl (.inl (gT g53)) rfl ?_
            refine SOps.skip rfl 1 73 false rfl rfl (.inl (gT g53)) rfl ?_
            refine SOps.skip rfl 1 73 false rfl rfl (.inl (gT g53)) rfl ?_
            refine SOps.skip rfl 1 73 false rfl rfl (.inl (gT g53)) rfl ?_
            refine SOps.skip rfl 1 73 false rfl rfl (.inl (gT g53)) rfl ?_
            refine SOps.skip rfl 1 73 false rfl rfl (.inl (gT g53)) rfl ?_
            refine SOps.skip rfl 1 73 false rfl rfl (.inl (gT g53)) rfl ?_
            refine SOps.skip rfl 1 73 false rfl rfl (.inl (gT g53)) rfl ?_
            refine SOps.skip rfl 1 73 false rfl rfl (.inl (gT g53)) rfl ?_
            refine SOps.skip rfl 1 73 false rfl rfl (.inl (gT g53)) rfl ?_
            refine SOps.q rfl (.plain rfl) rfl (q_pick_t rfl rfl g53 rfl) ?_
            refine SOps.q rfl (.plain rfl) rfl (q_assign rfl rfl) ?_
            refine SOps.sub (st' := ⟨[(1, .c (.int .i64 a1_t)), (7, .c (.vec c_10.1.length 7 (gL cSCurtail dSCurtail c_10.1))), (9, .c (.int .i64 c_13)), (10, .c (.int .i64 at_15)), (11, .c (.bool true)), (60, .c (.int .i64 t60_30))], []⟩) (sub_gen [] rfl rfl ⟨zc rfl rfl, zc rfl rfl, zc rfl rfl, zc rfl rfl, zc rfl rfl, zc rfl rfl, trivial⟩ trivial) ?_
            refine SOps.nil ?_
            exact ⟨true, h, sub_gen [] rfl rfl ⟨zc rfl rfl, zc rfl rfl, zc rfl rfl, zc rfl rfl, zc rfl rfl, zc rfl rfl, trivial⟩ trivial⟩
          obtain ⟨c_54, g55, h⟩ := bind_out h
          try dsimp only at h
          obtain ⟨c_56, g57, h⟩ := bind_out h
          try dsimp only at h
          refine SCode.region (show SOps _ _ _ [0, 1, 2, 3, 4, 5, 6, 7, 8, 9, 10, 11, 12, 13] _ _ from ?_)
          refine SOps.q rfl (.plain rfl) rfl (q_move rfl rfl) ?_
          refine SOps.q rfl (.plain rfl) rfl (q_move rfl rfl) ?_
          refine SOps.q rfl (.guard 1 73 false rfl rfl (gF g53)) rfl (q_move rfl rfl) ?_
          refine SOps.q rfl (.guard 1 73 false rfl rfl (gF g53)) rfl (q_move rfl rfl) ?_
          refine SOps.q rfl (.guard 1 73 false rfl rfl (gF g53)) rfl (q_move rfl rfl) ?_
          refine SOps.q rfl (.guard 1 73 false rfl rfl (gF g53)) rfl (q_call (curtail_At_ok F c_10.1 t60_30 c_13 c_54 g55) [] rfl fn16 ⟨⟨_, rfl, .inl ⟨rfl, rfl⟩⟩, ⟨_, rfl, .inl ⟨rfl, rfl⟩⟩, ⟨_, rfl, .inl ⟨rfl, rfl⟩⟩, trivial⟩ (.inl rfl)) ?_
          refine SOps.q rfl (.guard 1 73 false rfl rfl (gF g53)) rfl (q_move rfl rfl) ?_
          refine SOps.q rfl (.guard 1 73 false rfl rfl (gF g53)) rfl (q_move rfl rfl) ?_
          refine SOps.q rfl (.guard 1 73 false rfl rfl (gF g53)) rfl (q_move rfl rfl) ?_
          refine SOps.q rfl (.guard 1 73 false rfl rfl (gF g53)) rfl (q_sub rfl rfl rfl) ?_
          refine SOps.q rfl (.guard 1 73 false rfl rfl (gF g53)) rfl (q_call (curtail_At_ok F c_10.1 t60_30 (IntKind.wrap .i64 (c_13 - 1)) c_56 g57) [] rfl fn16 ⟨⟨_, rfl, .inl ⟨rfl, rfl⟩⟩, ⟨_, rfl, .inl ⟨rfl, rfl⟩⟩, ⟨_, rfl, .inl ⟨rfl, rfl⟩⟩, trivial⟩ (.inl rfl)) ?_
          refine SOps.q rfl (.guard 1 73 false rfl rfl (gF g53)) rfl (q_neq rfl rfl rfl) ?_
          refine SOps.q rfl (.plain rfl) rfl (q_pick_f rfl rfl g53 rfl) ?_
          refine SOps.q rfl (.plain rfl) rfl (q_assign rfl rfl) ?_
          refine SOps.sub (st' := ⟨[(1, .c (.int .i64 a1_t)), (7, .c (.vec c_10.1.length 7 (gL cSCurtail dSCurtail c_10.1))), (9, .c (.int .i64 c_13)), (10, .c (.int .i64 at_15)), (11, .c (.bool ((!decide (c_54 = c_56))))), (60, .c (.int .i64 t60_30))], []⟩) (sub_gen [] rfl rfl ⟨zc rfl rfl, zc rfl rfl, zc rfl rfl, zc rfl rfl, zc rfl rfl, zc rfl rfl, trivial⟩ trivial) ?_
          refine SOps.nil ?_
          exact ⟨(!decide (c_54 = c_56)), h, sub_gen [] rfl rfl ⟨zc rfl rfl, zc rfl rfl, zc rfl rfl, zc rfl rfl, zc rfl rfl, zc rfl rfl, trivial⟩ trivial⟩
        rintro changed_46 h
        show SCode _ _ _ ⟨[(1, .c (.int .i64 a1_t)), (7, .c (.vec c_10.1.length 7 (gL cSCurtail dSCurtail c_10.1))), (9, .c (.int .i64 c_13)), (10, .c (.int .i64 at_15)), (11, .c (.bool changed_46)), (60, .c (.int .i64 t60_30))], []⟩ _
        replace h : chargenetlaw13_CurtailNext_p47 t60_30 (fun changed_29 t60_30 => chargenetlaw13_CurtailNext_l44 F a1_t c_10 c_13 at_15 n_44 changed_29 t60_30) changed_46 = some r := h
        unfold chargenetlaw13_CurtailNext_p47 at h
        refine SCode.region (show SOps _ _ _ [0, 1] _ _ from ?_)
        refine SOps.q rfl (.plain rfl) rfl (q_add rfl rfl rfl) ?_
        refine SOps.q rfl (.plain rfl) rfl (q_move rfl rfl) ?_
        refine SOps.sub (st' := ⟨[(1, .c (.int .i64 a1_t)), (7, .c (.vec c_10.1.length 7 (gL cSCurtail dSCurtail c_10.1))), (9, .c (.int .i64 c_13)), (10, .c (.int .i64 at_15)), (11, .c (.bool changed_46)), (60, .c (.int .i64 (IntKind.wrap .i64 (t60_30 + 1))))], []⟩) (sub_gen [] rfl rfl ⟨zc rfl rfl, zc rfl rfl, zc rfl rfl, zc rfl rfl, zc rfl rfl, zc rfl rfl, trivial⟩ trivial) ?_
        refine SOps.nil ?_
        exact ⟨(n_44, (changed_46, IntKind.wrap .i64 (t60_30 + 1))), h, Nat.lt_succ_self n_44, sub_gen [] rfl rfl ⟨zc rfl rfl, zc rfl rfl, zc rfl rfl, zc rfl rfl, zc rfl rfl, zc rfl rfl, trivial⟩ trivial⟩
      refine SCode.cond_f rfl g45 ?_
      refine SCode.exit ?_
      exact ⟨changed_29, h, sub_gen [] rfl rfl ⟨zc rfl rfl, zc rfl rfl, trivial⟩ trivial⟩
  rintro changed_16 h
  show SCode _ _ _ ⟨[(9, .c (.int .i64 c_13)), (11, .c (.bool changed_16))], []⟩ _
  replace h : chargenetlaw13_CurtailNext_p18 c_13 changed_16 = some r := h
  unfold chargenetlaw13_CurtailNext_p18 at h
  refine SCode.seq ?_
  rcases cond_out h with ⟨g17, h⟩ | ⟨g17, h⟩
  · refine SCode.region (show SOps _ _ _ [0, 1, 2, 3, 4, 5] _ _ from ?_)
    refine SOps.q rfl (.plain rfl) rfl (q_move rfl rfl) ?_
    refine SOps.q rfl (.plain rfl) rfl (q_eql rfl rfl rfl) ?_
    refine SOps.q rfl (.plain rfl) rfl (q_move rfl rfl) ?_
    refine SOps.skip rfl 2 88 false rfl rfl (.inl (gT g17)) rfl ?_
    refine SOps.q rfl (.plain rfl) rfl (q_pick_t rfl rfl g17 rfl) ?_
    refine SOps.q rfl (.plain rfl) rfl (q_assign rfl rfl) ?_
    refine SOps.sub (st' := ⟨[(6, .c (.bool true))], []⟩) (sub_gen [] rfl rfl ⟨zc rfl rfl, trivial⟩ trivial) ?_
    refine SOps.nil ?_
    refine SCode.ret ?_
    obtain rfl := Option.some.inj h
    exact ⟨⟨[(6, .c (.bool true))], []⟩, _, sub_gen [] rfl rfl ⟨zc rfl rfl, trivial⟩ trivial, resA1 (v := .c (.bool true)) rfl rfl, rfl⟩
  refine SCode.region (show SOps _ _ _ [0, 1, 2, 3, 4, 5] _ _ from ?_)
  refine SOps.q rfl (.plain rfl) rfl (q_move rfl rfl) ?_
  refine SOps.q rfl (.plain rfl) rfl (q_eql rfl rfl rfl) ?_
  refine SOps.q rfl (.plain rfl) rfl (q_move rfl rfl) ?_
  refine SOps.q rfl (.guard 2 88 false rfl rfl (gF g17)) rfl (q_move rfl rfl) ?_
  refine SOps.q rfl (.plain rfl) rfl (q_pick_f rfl rfl g17 rfl) ?_
  refine SOps.q rfl (.plain rfl) rfl (q_assign rfl rfl) ?_
  refine SOps.sub (st' := ⟨[(6, .c (.bool changed_16))], []⟩) (sub_gen [] rfl rfl ⟨zc rfl rfl, trivial⟩ trivial) ?_
  refine SOps.nil ?_
  refine SCode.ret ?_
  obtain rfl := Option.some.inj h
  exact ⟨⟨[(6, .c (.bool changed_16))], []⟩, _, sub_gen [] rfl rfl ⟨zc rfl rfl, trivial⟩ trivial, resA1 (v := .c (.bool changed_16)) rfl rfl, rfl⟩
end Go.Proofs.Ytcccjpkfifefaaa.W
