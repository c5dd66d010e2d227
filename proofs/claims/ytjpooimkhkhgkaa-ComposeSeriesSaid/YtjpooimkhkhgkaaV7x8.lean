/- Written by a program of ours (wip/eng/gen.py): the functions compute their models. -/
import Derived.Test.YtjpooimkhkhgkaaFacts
import Derived.Test.YtjpooimkhkhgkaaV7x7
namespace Go.Proofs.Ytjpooimkhkhgkaa.W
open Go Go.Proofs Go.Proofs.Ytjpooimkhkhgkaa.E Go.Proofs.Ytjpooimkhkhgkaa.M
set_option linter.unusedVariables false
set_option maxRecDepth 100000 in
set_option maxHeartbeats 8000000 in
theorem compose_next_ok (F : Nat) (a0_l : List SProfile) (a1_start : Int) (a2_t : Int) (a3_last : Int) (r : Int) (h : compose_next F a0_l a1_start a2_t a3_last = some r) :
    SFun Try.prog 26 [] [.c (.vec a0_l.length 11 (gL cSProfile dSProfile a0_l)), .c (.int .i64 a1_start), .c (.int .i64 a2_t), .c (.int .i64 a3_last)] (fun x _ => x = .c (.int .i64 r)) := by
  refine SFun.of (n := 75) Try.func26 rfl rfl rfl ?_
  unfold compose_next at h
  show SCode _ _ _ ⟨[(0, .c (.vec a0_l.length 11 (gL cSProfile dSProfile a0_l))), (1, .c (.int .i64 a1_start)), (2, .c (.int .i64 a2_t)), (3, .c (.int .i64 a3_last))], []⟩ _
  refine SCode.seq ?_
  refine SCode.region (show SOps _ _ _ [0] _ _ from ?_)
  refine SOps.q rfl (.plain rfl) rfl (q_assign rfl rfl) ?_
  refine SOps.sub (st' := ⟨[(0, .c (.vec a0_l.length 11 (gL cSProfile dSProfile a0_l))), (1, .c (.int .i64 a1_start)), (2, .c (.int .i64 a2_t)), (3, .c (.int .i64 a3_last))], []⟩) (sub_gen [] rfl rfl ⟨zc rfl rfl, zc rfl rfl, zc rfl rfl, zc rfl rfl, trivial⟩ trivial) ?_
  refine SOps.nil ?_
  refine SCode.join (σ := Int) (S := fun s => ⟨[(0, .c (.vec a0_l.length 11 (gL cSProfile dSProfile a0_l))), (1, .c (.int .i64 a1_start)), (2, .c (.int .i64 s)), (3, .c (.int .i64 a3_last))], []⟩) (g := fun s => compose_next_p66 F a0_l a1_start a3_last s = some r) ?_ ?_
  rotate_left
  · refine SCode.seq ?_
    refine SCode.region (show SOps _ _ _ [0, 1] _ _ from ?_)
    refine SOps.q rfl (.plain rfl) rfl (q_move rfl rfl) ?_
    refine SOps.q rfl (.plain rfl) rfl (q_lss rfl rfl rfl) ?_
    refine SOps.sub (st' := ⟨[(0, .c (.vec a0_l.length 11 (gL cSProfile dSProfile a0_l))), (1, .c (.int .i64 a1_start)), (2, .c (.int .i64 a2_t)), (3, .c (.int .i64 a3_last)), (14, .c (.bool (decide (a2_t < 0))))], []⟩) (sub_gen [] rfl rfl ⟨zc rfl rfl, zc rfl rfl, zc rfl rfl, zc rfl rfl, zc rfl rfl, trivial⟩ trivial) ?_
    refine SOps.nil ?_
    rcases cond_out h with ⟨g67, h⟩ | ⟨g67, h⟩
    · refine SCode.cond_t rfl g67 ?_
      refine SCode.join (σ := Unit) (S := fun s => ⟨[(0, .c (.vec a0_l.length 11 (gL cSProfile dSProfile a0_l))), (1, .c (.int .i64 a1_start)), (3, .c (.int .i64 a3_last))], []⟩) (g := fun s => compose_next_p68 F a0_l a1_start a3_last = some r) ?_ ?_
      rotate_left
      · refine SCode.seq ?_
        rcases cond_out h with ⟨g69, h⟩ | ⟨g69, h⟩
        · obtain ⟨c_70, g71, h⟩ := bind_out h
          try dsimp only at h
          obtain ⟨c_72, g73, h⟩ := bind_out h
          try dsimp only at h
          refine SCode.region (show SOps _ _ _ [0, 1, 2, 3, 4, 5, 6, 7, 8, 9, 10] _ _ from ?_)
          refine SOps.q rfl (.plain rfl) rfl (q_move rfl rfl) ?_
          refine SOps.q rfl (.plain rfl) rfl (q_geq rfl rfl rfl) ?_
          refine SOps.q rfl (.plain rfl) rfl (q_move rfl rfl) ?_
          refine SOps.q rfl (.guard 2 17 true rfl rfl (gT g69)) rfl (q_move rfl rfl) ?_
          refine SOps.q rfl (.guard 2 17 true rfl rfl (gT g69)) rfl (q_move rfl rfl) ?_
          refine SOps.q rfl (.guard 2 17 true rfl rfl (gT g69)) rfl (q_call (compose_limit_ok F a0_l a1_start 0 c_70 g71) [] rfl fn22 ⟨⟨_, rfl, .inl ⟨rfl, rfl⟩⟩, ⟨_, rfl, .inl ⟨rfl, rfl⟩⟩, ⟨_, rfl, .inl ⟨rfl, rfl⟩⟩, trivial⟩ (.inl rfl)) ?_
          refine SOps.q rfl (.guard 2 17 true rfl rfl (gT g69)) rfl (q_move rfl rfl) ?_
          refine SOps.q rfl (.guard 2 17 true rfl rfl (gT g69)) rfl (q_move rfl rfl) ?_
          refine SOps.q rfl (.guard 2 17 true rfl rfl (gT g69)) rfl (q_call (compose_limit_ok F a0_l a1_start ((-1)) c_72 g73) [] rfl fn22 ⟨⟨_, rfl, .inl ⟨rfl, rfl⟩⟩, ⟨_, rfl, .inl ⟨rfl, rfl⟩⟩, ⟨_, rfl, .inl ⟨rfl, rfl⟩⟩, trivial⟩ (.inl rfl)) ?_
          refine SOps.q rfl (.guard 2 17 true rfl rfl (gT g69)) rfl (q_neq rfl rfl rfl) ?_
          refine SOps.q rfl (.plain rfl) rfl (q_pick_t rfl rfl g69 rfl) ?_
          refine SOps.sub (st' := ⟨[(0, .c (.vec a0_l.length 11 (gL cSProfile dSProfile a0_l))), (1, .c (.int .i64 a1_start)), (3, .c (.int .i64 a3_last)), (25, .c (.bool ((!decide (c_70 = c_72)))))], []⟩) (sub_gen [] rfl rfl ⟨zc rfl rfl, zc rfl rfl, zc rfl rfl, zc rfl rfl, trivial⟩ trivial) ?_
          refine SOps.nil ?_
          rcases cond_out h with ⟨g74, h⟩ | ⟨g74, h⟩
          · refine SCode.cond_t rfl g74 ?_
            refine SCode.seq ?_
            refine SCode.region (show SOps _ _ _ [0] _ _ from ?_)
            refine SOps.q rfl (.plain rfl) rfl (q_assign rfl rfl) ?_
            refine SOps.sub (st' := ⟨[(8, .c (.int .i64 0))], []⟩) (sub_gen [] rfl rfl ⟨zc rfl rfl, trivial⟩ trivial) ?_
            refine SOps.nil ?_
            refine SCode.ret ?_
            obtain rfl := Option.some.inj h
            exact ⟨⟨[(8, .c (.int .i64 0))], []⟩, _, sub_gen [] rfl rfl ⟨zc rfl rfl, trivial⟩ trivial, resA1 (v := .c (.int .i64 0)) rfl rfl, rfl⟩
          refine SCode.cond_f rfl g74 ?_
          refine SCode.skip ?_
          exact ⟨(), h, sub_gen [] rfl rfl ⟨zc rfl rfl, zc rfl rfl, zc rfl rfl, trivial⟩ trivial⟩
        refine SCode.region (show SOps _ _ _ [0, 1, 2, 3, 4, 5, 6, 7, 8, 9, 10] _ _ from ?_)
        refine SOps.q rfl (.plain rfl) rfl (q_move rfl rfl) ?_
        refine SOps.q rfl (.plain rfl) rfl (q_geq rfl rfl rfl) ?_
        refine SOps.q rfl (.plain rfl) rfl (q_move rfl rfl) ?_
        refine SOps.skip rfl 2 17 true rfl rfl (.inl (gF g69)) rfl ?_
        refine SOps.skip rfl 2 17 true rfl rfl (.inl (gF g69)) rfl ?_
        refine SOps.skip rfl 2 17 true rfl rfl (.inl (gF g69)) rfl ?_
        refine SOps.skip rfl 2 17 true rfl rfl (.inl (gF g69)) rfl ?_
        refine SOps.skip rfl 2 17 true rfl rfl (.inl (gF g69)) rfl ?_
        refine SOps.skip rfl 2 17 true rfl rfl (.inl (gF g69)) rfl ?_
        refine SOps.skip rfl 2 17 true rfl rfl (.inl (gF g69)) rfl ?_
        refine SOps.q rfl (.plain rfl) rfl (q_pick_f rfl rfl g69 rfl) ?_
        refine SOps.sub (st' := ⟨[(0, .c (.vec a0_l.length 11 (gL cSProfile dSProfile a0_l))), (1, .c (.int .i64 a1_start)), (3, .c (.int .i64 a3_last)), (25, .c (.bool false))], []⟩) (sub_gen [] rfl rfl ⟨zc rfl rfl, zc rfl rfl, zc rfl rfl, zc rfl rfl, trivial⟩ trivial) ?_
        refine SOps.nil ?_
        refine SCode.cond_f rfl rfl ?_
        refine SCode.skip ?_
        exact ⟨(), h, sub_gen [] rfl rfl ⟨zc rfl rfl, zc rfl rfl, zc rfl rfl, trivial⟩ trivial⟩
      rintro ⟨⟩ h
      show SCode _ _ _ ⟨[(0, .c (.vec a0_l.length 11 (gL cSProfile dSProfile a0_l))), (1, .c (.int .i64 a1_start)), (3, .c (.int .i64 a3_last))], []⟩ _
      replace h : compose_next_p68 F a0_l a1_start a3_last = some r := h
      unfold compose_next_p68 at h
      refine SCode.region (show SOps _ _ _ [0] _ _ from ?_)
      refine SOps.q rfl (.plain rfl) rfl (q_assign rfl rfl) ?_
      refine SOps.sub (st' := ⟨[(0, .c (.vec a0_l.length 11 (gL cSProfile dSProfile a0_l))), (1, .c (.int .i64 a1_start)), (2, .c (.int .i64 0)), (3, .c (.int .i64 a3_last))], []⟩) (sub_gen [] rfl rfl ⟨zc rfl rfl, zc rfl rfl, zc rfl rfl, zc rfl rfl, trivial⟩ trivial) ?_
      refine SOps.nil ?_
      exact ⟨0, h, sub_gen [] rfl rfl ⟨zc rfl rfl, zc rfl rfl, zc rfl rfl, zc rfl rfl, trivial⟩ trivial⟩
    refine SCode.cond_f rfl g67 ?_
    refine SCode.skip ?_
    exact ⟨a2_t, h, sub_gen [] rfl rfl ⟨zc rfl rfl, zc rfl rfl, zc rfl rfl, zc rfl rfl, trivial⟩ trivial⟩
  rintro t_1 h
  show SCode _ _ _ ⟨[(0, .c (.vec a0_l.length 11 (gL cSProfile dSProfile a0_l))), (1, .c (.int .i64 a1_start)), (2, .c (.int .i64 t_1)), (3, .c (.int .i64 a3_last))], []⟩ _
  replace h : compose_next_p66 F a0_l a1_start a3_last t_1 = some r := h
  unfold compose_next_p66 at h
  refine SCode.seq ?_
  obtain ⟨c_2, g3, h⟩ := bind_out h
  try dsimp only at h
  refine SCode.region (show SOps _ _ _ [0, 1, 2, 3, 4, 5, 6] _ _ from ?_)
  refine SOps.q rfl (.plain rfl) rfl (q_move rfl rfl) ?_
  refine SOps.q rfl (.plain rfl) rfl (q_move rfl rfl) ?_
  refine SOps.q rfl (.plain rfl) rfl (q_move rfl rfl) ?_
  refine SOps.q rfl (.plain rfl) rfl (q_move rfl rfl) ?_
  refine SOps.q rfl (.plain rfl) rfl (q_call (compose_pause_ok F a0_l a1_start t_1 c_2 g3) [] rfl fn37 ⟨⟨_, rfl, .inl ⟨rfl, rfl⟩⟩, ⟨_, rfl, .inl ⟨rfl, rfl⟩⟩, ⟨_, rfl, .inl ⟨rfl, rfl⟩⟩, trivial⟩ (.inl rfl)) ?_
  refine SOps.q rfl (.plain rfl) rfl (q_assign rfl rfl) ?_
  refine SOps.q rfl (.plain rfl) rfl (q_assign rfl rfl) ?_
  refine SOps.sub (st' := ⟨[(0, .c (.vec a0_l.length 11 (gL cSProfile dSProfile a0_l))), (1, .c (.int .i64 a1_start)), (2, .c (.int .i64 t_1)), (3, .c (.int .i64 a3_last)), (9, .c (.int .i64 t_1)), (10, .c (.int .i64 c_2))], []⟩) (sub_gen [] rfl rfl ⟨zc rfl rfl, zc rfl rfl, zc rfl rfl, zc rfl rfl, zc rfl rfl, zc rfl rfl, trivial⟩ trivial) ?_
  refine SOps.nil ?_
  refine SCode.seq ?_
  obtain ⟨g4, h⟩ := guard_out h
  refine SCode.region (show SOps _ _ _ [0, 1, 2, 3] _ _ from ?_)
  refine SOps.q rfl (.plain rfl) rfl (q_move rfl rfl) ?_
  refine SOps.q rfl (.plain rfl) rfl (q_len_vec rfl rfl sl22) ?_
  refine SOps.e rfl (.plain rfl) (e_makeL (c := (cInt .i64)) (d0 := 0) rfl rfl rfl rfl rfl sl69 z3 rfl rfl rfl g4.1 (Int.le_refl _) g4.2.1 g4.2.2) ?_
  refine SOps.q rfl (.plain rfl) rfl (q_assign rfl rfl) ?_
  refine SOps.sub (st' := ⟨[(0, .c (.vec a0_l.length 11 (gL cSProfile dSProfile a0_l))), (1, .c (.int .i64 a1_start)), (2, .c (.int .i64 t_1)), (3, .c (.int .i64 a3_last)), (9, .c (.int .i64 t_1)), (10, .c (.int .i64 c_2)), (11, .c (.own 0 (List.replicate (((a0_l).length : Int)).toNat 0).length))], [.arr 3 1 (List.replicate (((a0_l).length : Int)).toNat 0).length (gL (cInt .i64) 0 (List.replicate (((a0_l).length : Int)).toNat 0))]⟩) (sub_gen [0] rfl rfl ⟨zc rfl rfl, zc rfl rfl, zc rfl rfl, zc rfl rfl, zc rfl rfl, zc rfl rfl, zc rfl rfl, trivial⟩ ⟨oa rfl, trivial⟩) ?_
  refine SOps.nil ?_
  refine SCode.join (σ := Unit) (S := fun s => ⟨[], []⟩) (g := fun s => compose_next_p5 = some r) ?_ ?_
  rotate_left
  · refine SCode.block ?_
    refine SCode.sub (st' := ⟨[(0, .c (.vec a0_l.length 11 (gL cSProfile dSProfile a0_l))), (1, .c (.int .i64 a1_start)), (2, .c (.int .i64 t_1)), (3, .c (.int .i64 a3_last)), (9, .c (.int .i64 t_1)), (10, .c (.int .i64 c_2)), (11, .c (.own 0 (List.replicate (((a0_l).length : Int)).toNat 0).length))], [.arr 3 1 (List.replicate (((a0_l).length : Int)).toNat 0).length (gL (cInt .i64) 0 (List.replicate (((a0_l).length : Int)).toNat 0))]⟩) (sub_gen [0] rfl rfl ⟨zc rfl rfl, zc rfl rfl, zc rfl rfl, zc rfl rfl, zc rfl rfl, zc rfl rfl, zc rfl rfl, trivial⟩ ⟨oa rfl, trivial⟩) ?_
    refine (SCode.loop (σ := Nat × (Int × Int × Int × (List Int))) (S := fun s => ⟨[(0, .c (.vec a0_l.length 11 (gL cSProfile dSProfile a0_l))), (1, .c (.int .i64 a1_start)), (2, .c (.int .i64 s.2.1)), (3, .c (.int .i64 a3_last)), (9, .c (.int .i64 s.2.2.1)), (10, .c (.int .i64 s.2.2.2.1)), (11, .c (.own 0 s.2.2.2.2.length))], [.arr 3 1 s.2.2.2.2.length (gL (cInt .i64) 0 s.2.2.2.2)]⟩) (g := fun s => compose_next_l48 F a0_l a1_start a3_last s.1 s.2.1 s.2.2.1 s.2.2.2.1 s.2.2.2.2 = some r) (μ := fun s => s.1) (F, (t_1, t_1, c_2, List.replicate (((a0_l).length : Int)).toNat 0)) h ?_)
    rintro ⟨n_48, ⟨t_27, begin_28, end_29, o0_30⟩⟩ h
    replace h : compose_next_l48 F a0_l a1_start a3_last n_48 t_27 begin_28 end_29 o0_30 = some r := h
    show SCode _ _ _ ⟨[(0, .c (.vec a0_l.length 11 (gL cSProfile dSProfile a0_l))), (1, .c (.int .i64 a1_start)), (2, .c (.int .i64 t_27)), (3, .c (.int .i64 a3_last)), (9, .c (.int .i64 begin_28)), (10, .c (.int .i64 end_29)), (11, .c (.own 0 o0_30.length))], [.arr 3 1 o0_30.length (gL (cInt .i64) 0 o0_30)]⟩ _
    cases n_48 with
    | zero => cases h
    | succ n_48 =>
      replace h : compose_next_b48 F a0_l a1_start a3_last (fun t_27 begin_28 end_29 o0_30 => compose_next_l48 F a0_l a1_start a3_last n_48 t_27 begin_28 end_29 o0_30) t_27 begin_28 end_29 o0_30 = some r := h
      unfold compose_next_b48 at h
      refine SCode.seq ?_
      refine SCode.seq ?_
      refine SCode.region (show SOps _ _ _ [0, 1, 2] _ _ from ?_)
      refine SOps.q rfl (.plain rfl) rfl (q_move rfl rfl) ?_
      refine SOps.q rfl (.plain rfl) rfl (q_move rfl rfl) ?_
      refine SOps.q rfl (.plain rfl) rfl (q_lss rfl rfl rfl) ?_
      refine SOps.sub (st' := ⟨[(0, .c (.vec a0_l.length 11 (gL cSProfile dSProfile a0_l))), (1, .c (.int .i64 a1_start)), (2, .c (.int .i64 t_27)), (3, .c (.int .i64 a3_last)), (9, .c (.int .i64 begin_28)), (10, .c (.int .i64 end_29)), (11, .c (.own 0 o0_30.length)), (36, .c (.bool (decide (t_27 < a3_last))))], [.arr 3 1 o0_30.length (gL (cInt .i64) 0 o0_30)]⟩) (sub_gen [0] rfl rfl ⟨zc rfl rfl, zc rfl rfl, zc rfl rfl, zc rfl rfl, zc rfl rfl, zc rfl rfl, zc rfl rfl, zc rfl rfl, trivial⟩ ⟨oa rfl, trivial⟩) ?_
      refine SOps.nil ?_
      rcases cond_out h with ⟨g49, h⟩ | ⟨g49, h⟩
      · refine SCode.cond_t rfl g49 ?_
        refine SCode.skip ?_
        refine SCode.block ?_
        refine SCode.seq ?_
        obtain ⟨c_50, g51, h⟩ := bind_out h
        try dsimp only at h
        obtain ⟨g52, h⟩ := guard_out h
        refine SCode.region (show SOps _ _ _ [0, 1, 2, 3, 4, 5] _ _ from ?_)
        refine SOps.q rfl (.plain rfl) rfl (q_move rfl rfl) ?_
        refine SOps.q rfl (.plain rfl) rfl (q_move rfl rfl) ?_
        refine SOps.q rfl (.plain rfl) rfl (q_move rfl rfl) ?_
        refine SOps.q rfl (.plain rfl) rfl (q_move rfl rfl) ?_
        refine SOps.e rfl (.plain rfl) (e_call (compose_earliest_ok F a0_l a1_start t_27 o0_30 c_50 g51) [0] rfl fn38 rfl rfl rfl rfl rfl rfl rfl rfl) ?_
        refine SOps.q rfl (.plain rfl) rfl (q_assign rfl rfl) ?_
        refine SOps.sub (st' := ⟨[(0, .c (.vec a0_l.length 11 (gL cSProfile dSProfile a0_l))), (1, .c (.int .i64 a1_start)), (3, .c (.int .i64 a3_last)), (9, .c (.int .i64 begin_28)), (10, .c (.int .i64 end_29)), (11, .c (.own 0 c_50.2.length)), (12, .c (.int .i64 c_50.1))], [.arr 3 1 c_50.2.length (gL (cInt .i64) 0 c_50.2)]⟩) (sub_gen [0] rfl rfl ⟨zc rfl rfl, zc rfl rfl, zc rfl rfl, zc rfl rfl, zc rfl rfl, ⟨_, rfl, .inl ⟨rfl, congrArg (Cell.own 0) g52.symm⟩⟩, zc rfl rfl, trivial⟩ ⟨oa rfl, trivial⟩) ?_
        refine SOps.nil ?_
        refine SCode.join (σ := Int) (S := fun s => ⟨[(0, .c (.vec a0_l.length 11 (gL cSProfile dSProfile a0_l))), (1, .c (.int .i64 a1_start)), (3, .c (.int .i64 a3_last)), (9, .c (.int .i64 begin_28)), (10, .c (.int .i64 end_29)), (11, .c (.own 0 c_50.2.length)), (12, .c (.int .i64 s))], [.arr 3 1 c_50.2.length (gL (cInt .i64) 0 c_50.2)]⟩) (g := fun s => compose_next_p63 F a0_l a1_start a3_last begin_28 end_29 (fun t_27 begin_28 end_29 o0_30 => compose_next_l48 F a0_l a1_start a3_last n_48 t_27 begin_28 end_29 o0_30) c_50 s = some r) ?_ ?_
        rotate_left
        · refine SCode.seq ?_
          rcases cond_out h with ⟨g64, h⟩ | ⟨g64, h⟩
          · refine SCode.region (show SOps _ _ _ [0, 1, 2, 3, 4, 5, 6, 7, 8] _ _ from ?_)
            refine SOps.q rfl (.plain rfl) rfl (q_move rfl rfl) ?_
            refine SOps.q rfl (.plain rfl) rfl (q_move rfl rfl) ?_
            refine SOps.q rfl (.plain rfl) rfl (q_gtr rfl rfl rfl) ?_
            refine SOps.q rfl (.plain rfl) rfl (q_move rfl rfl) ?_
            refine SOps.skip rfl 3 45 false rfl rfl (.inl (gT g64)) rfl ?_
            refine SOps.skip rfl 3 45 false rfl rfl (.inl (gT g64)) rfl ?_
            refine SOps.skip rfl 3 45 false rfl rfl (.inl (gT g64)) rfl ?_
            refine SOps.skip rfl 3 45 false rfl rfl (.inl (gT g64)) rfl ?_
            refine SOps.q rfl (.plain rfl) rfl (q_pick_t rfl rfl g64 rfl) ?_
            refine SOps.sub (st' := ⟨[(0, .c (.vec a0_l.length 11 (gL cSProfile dSProfile a0_l))), (1, .c (.int .i64 a1_start)), (3, .c (.int .i64 a3_last)), (9, .c (.int .i64 begin_28)), (10, .c (.int .i64 end_29)), (11, .c (.own 0 c_50.2.length)), (12, .c (.int .i64 c_50.1)), (50, .c (.bool true))], [.arr 3 1 c_50.2.length (gL (cInt .i64) 0 c_50.2)]⟩) (sub_gen [0] rfl rfl ⟨zc rfl rfl, zc rfl rfl, zc rfl rfl, zc rfl rfl, zc rfl rfl, zc rfl rfl, zc rfl rfl, zc rfl rfl, trivial⟩ ⟨oa rfl, trivial⟩) ?_
            refine SOps.nil ?_
            refine SCode.cond_t rfl rfl ?_
            refine SCode.region (show SOps _ _ _ [0, 1] _ _ from ?_)
            refine SOps.q rfl (.plain rfl) rfl (q_move rfl rfl) ?_
            refine SOps.q rfl (.plain rfl) rfl (q_assign rfl rfl) ?_
            refine SOps.sub (st' := ⟨[(0, .c (.vec a0_l.length 11 (gL cSProfile dSProfile a0_l))), (1, .c (.int .i64 a1_start)), (3, .c (.int .i64 a3_last)), (9, .c (.int .i64 begin_28)), (10, .c (.int .i64 end_29)), (11, .c (.own 0 c_50.2.length)), (12, .c (.int .i64 end_29))], [.arr 3 1 c_50.2.length (gL (cInt .i64) 0 c_50.2)]⟩) (sub_gen [0] rfl rfl ⟨zc rfl rfl, zc rfl rfl, zc rfl rfl, zc rfl rfl, zc rfl rfl, zc rfl rfl, zc rfl rfl, trivial⟩ ⟨oa rfl, trivial⟩) ?_
            refine SOps.nil ?_
            exact ⟨end_29, h, sub_gen [0] rfl rfl ⟨zc rfl rfl, zc rfl rfl, zc rfl rfl, zc rfl rfl, zc rfl rfl, zc rfl rfl, zc rfl rfl, trivial⟩ ⟨oa rfl, trivial⟩⟩
          refine SCode.region (show SOps _ _ _ [0, 1, 2, 3, 4, 5, 6, 7, 8] _ _ from ?_)
          refine SOps.q rfl (.plain rfl) rfl (q_move rfl rfl) ?_
          refine SOps.q rfl (.plain rfl) rfl (q_move rfl rfl) ?_
          refine SOps.q rfl (.plain rfl) rfl (q_gtr rfl rfl rfl) ?_
          refine SOps.q rfl (.plain rfl) rfl (q_move rfl rfl) ?_
          refine SOps.q rfl (.guard 3 45 false rfl rfl (gF g64)) rfl (q_move rfl rfl) ?_
          refine SOps.q rfl (.guard 3 45 false rfl rfl (gF g64)) rfl (q_move rfl rfl) ?_
          refine SOps.q rfl (.guard 3 45 false rfl rfl (gF g64)) rfl (q_sub rfl rfl rfl) ?_
          refine SOps.q rfl (.guard 3 45 false rfl rfl (gF g64)) rfl (q_gtr rfl rfl rfl) ?_
          refine SOps.q rfl (.plain rfl) rfl (q_pick_f rfl rfl g64 rfl) ?_
          refine SOps.sub (st' := ⟨[(0, .c (.vec a0_l.length 11 (gL cSProfile dSProfile a0_l))), (1, .c (.int .i64 a1_start)), (3, .c (.int .i64 a3_last)), (9, .c (.int .i64 begin_28)), (10, .c (.int .i64 end_29)), (11, .c (.own 0 c_50.2.length)), (12, .c (.int .i64 c_50.1)), (50, .c (.bool (decide (10080 < IntKind.wrap .i64 (c_50.1 - begin_28)))))], [.arr 3 1 c_50.2.length (gL (cInt .i64) 0 c_50.2)]⟩) (sub_gen [0] rfl rfl ⟨zc rfl rfl, zc rfl rfl, zc rfl rfl, zc rfl rfl, zc rfl rfl, zc rfl rfl, zc rfl rfl, zc rfl rfl, trivial⟩ ⟨oa rfl, trivial⟩) ?_
          refine SOps.nil ?_
          rcases cond_out h with ⟨g65, h⟩ | ⟨g65, h⟩
          · refine SCode.cond_t rfl g65 ?_
            refine SCode.region (show SOps _ _ _ [0, 1] _ _ from ?_)
            refine SOps.q rfl (.plain rfl) rfl (q_move rfl rfl) ?_
            refine SOps.q rfl (.plain rfl) rfl (q_assign rfl rfl) ?_
            refine SOps.sub (st' := ⟨[(0, .c (.vec a0_l.length 11 (gL cSProfile dSProfile a0_l))), (1, .c (.int .i64 a1_start)), (3, .c (.int .i64 a3_last)), (9, .c (.int .i64 begin_28)), (10, .c (.int .i64 end_29)), (11, .c (.own 0 c_50.2.length)), (12, .c (.int .i64 end_29))], [.arr 3 1 c_50.2.length (gL (cInt .i64) 0 c_50.2)]⟩) (sub_gen [0] rfl rfl ⟨zc rfl rfl, zc rfl rfl, zc rfl rfl, zc rfl rfl, zc rfl rfl, zc rfl rfl, zc rfl rfl, trivial⟩ ⟨oa rfl, trivial⟩) ?_
            refine SOps.nil ?_
            exact ⟨end_29, h, sub_gen [0] rfl rfl ⟨zc rfl rfl, zc rfl rfl, zc rfl rfl, zc rfl rfl, zc rfl rfl, zc rfl rfl, zc rfl rfl, trivial⟩ ⟨oa rfl, trivial⟩⟩
          refine SCode.cond_f rfl g65 ?_
          refine SCode.skip ?_
          exact ⟨c_50.1, h, sub_gen [0] rfl rfl ⟨zc rfl rfl, zc rfl rfl, zc rfl rfl, zc rfl rfl, zc rfl rfl, zc rfl rfl, zc rfl rfl, trivial⟩ ⟨oa rfl, trivial⟩⟩
        rintro c_53 h
        show SCode _ _ _ ⟨[(0, .c (.vec a0_l.length 11 (gL cSProfile dSProfile a0_l))), (1, .c (.int .i64 a1_start)), (3, .c (.int .i64 a3_last)), (9, .c (.int .i64 begin_28)), (10, .c (.int .i64 end_29)), (11, .c (.own 0 c_50.2.length)), (12, .c (.int .i64 c_53))], [.arr 3 1 c_50.2.length (gL (cInt .i64) 0 c_50.2)]⟩ _
        replace h : compose_next_p63 F a0_l a1_start a3_last begin_28 end_29 (fun t_27 begin_28 end_29 o0_30 => compose_next_l48 F a0_l a1_start a3_last n_48 t_27 begin_28 end_29 o0_30) c_50 c_53 = some r := h
        unfold compose_next_p63 at h
        refine SCode.seq ?_
        refine SCode.seq ?_
        refine SCode.region (show SOps _ _ _ [0, 1, 2] _ _ from ?_)
        refine SOps.q rfl (.plain rfl) rfl (q_move rfl rfl) ?_
        refine SOps.q rfl (.plain rfl) rfl (q_move rfl rfl) ?_
        refine SOps.q rfl (.plain rfl) rfl (q_gtr rfl rfl rfl) ?_
        refine SOps.sub (st' := ⟨[(0, .c (.vec a0_l.length 11 (gL cSProfile dSProfile a0_l))), (1, .c (.int .i64 a1_start)), (3, .c (.int .i64 a3_last)), (9, .c (.int .i64 begin_28)), (10, .c (.int .i64 end_29)), (11, .c (.own 0 c_50.2.length)), (12, .c (.int .i64 c_53)), (54, .c (.bool (decide (a3_last < c_53))))], [.arr 3 1 c_50.2.length (gL (cInt .i64) 0 c_50.2)]⟩) (sub_gen [0] rfl rfl ⟨zc rfl rfl, zc rfl rfl, zc rfl rfl, zc rfl rfl, zc rfl rfl, zc rfl rfl, zc rfl rfl, zc rfl rfl, trivial⟩ ⟨oa rfl, trivial⟩) ?_
        refine SOps.nil ?_
        rcases cond_out h with ⟨g54, h⟩ | ⟨g54, h⟩
        · refine SCode.cond_t rfl g54 ?_
          refine SCode.seq ?_
          refine SCode.region (show SOps _ _ _ [0] _ _ from ?_)
          refine SOps.q rfl (.plain rfl) rfl (q_assign rfl rfl) ?_
          refine SOps.sub (st' := ⟨[(8, .c (.int .i64 ((-1))))], []⟩) (sub_gen [] rfl rfl ⟨zc rfl rfl, trivial⟩ trivial) ?_
          refine SOps.nil ?_
          refine SCode.ret ?_
          obtain rfl := Option.some.inj h
          exact ⟨⟨[(8, .c (.int .i64 ((-1))))], []⟩, _, sub_gen [] rfl rfl ⟨zc rfl rfl, trivial⟩ trivial, resA1 (v := .c (.int .i64 ((-1)))) rfl rfl, rfl⟩
        refine SCode.cond_f rfl g54 ?_
        refine SCode.skip ?_
        refine SCode.seq ?_
        refine SCode.seq ?_
        obtain ⟨c_55, g56, h⟩ := bind_out h
        try dsimp only at h
        obtain ⟨c_57, g58, h⟩ := bind_out h
        try dsimp only at h
        refine SCode.region (show SOps _ _ _ [0, 1, 2, 3, 4, 5, 6, 7, 8, 9] _ _ from ?_)
        refine SOps.q rfl (.plain rfl) rfl (q_move rfl rfl) ?_
        refine SOps.q rfl (.plain rfl) rfl (q_move rfl rfl) ?_
        refine SOps.q rfl (.plain rfl) rfl (q_move rfl rfl) ?_
        refine SOps.q rfl (.plain rfl) rfl (q_call (compose_limit_ok F a0_l a1_start c_53 c_55 g56) [] rfl fn22 ⟨⟨_, rfl, .inl ⟨rfl, rfl⟩⟩, ⟨_, rfl, .inl ⟨rfl, rfl⟩⟩, ⟨_, rfl, .inl ⟨rfl, rfl⟩⟩, trivial⟩ (.inl rfl)) ?_
        refine SOps.q rfl (.plain rfl) rfl (q_move rfl rfl) ?_
        refine SOps.q rfl (.plain rfl) rfl (q_move rfl rfl) ?_
        refine SOps.q rfl (.plain rfl) rfl (q_move rfl rfl) ?_
        refine SOps.q rfl (.plain rfl) rfl (q_sub rfl rfl rfl) ?_
        refine SOps.q rfl (.plain rfl) rfl (q_call (compose_limit_ok F a0_l a1_start (IntKind.wrap .i64 (c_53 - 1)) c_57 g58) [] rfl fn22 ⟨⟨_, rfl, .inl ⟨rfl, rfl⟩⟩, ⟨_, rfl, .inl ⟨rfl, rfl⟩⟩, ⟨_, rfl, .inl ⟨rfl, rfl⟩⟩, trivial⟩ (.inl rfl)) ?_
        refine SOps.q rfl (.plain rfl) rfl (q_neq rfl rfl rfl) ?_
        refine SOps.sub (st' := ⟨[(0, .c (.vec a0_l.length 11 (gL cSProfile dSProfile a0_l))), (1, .c (.int .i64 a1_start)), (3, .c (.int .i64 a3_last)), (9, .c (.int .i64 begin_28)), (10, .c (.int .i64 end_29)), (11, .c (.own 0 c_50.2.length)), (12, .c (.int .i64 c_53)), (64, .c (.bool ((!decide (c_55 = c_57)))))], [.arr 3 1 c_50.2.length (gL (cInt .i64) 0 c_50.2)]⟩) (sub_gen [0] rfl rfl ⟨zc rfl rfl, zc rfl rfl, zc rfl rfl, zc rfl rfl, zc rfl rfl, zc rfl rfl, zc rfl rfl, zc rfl rfl, trivial⟩ ⟨oa rfl, trivial⟩) ?_
        refine SOps.nil ?_
        rcases cond_out h with ⟨g59, h⟩ | ⟨g59, h⟩
        · refine SCode.cond_t rfl g59 ?_
          refine SCode.seq ?_
          refine SCode.region (show SOps _ _ _ [0, 1] _ _ from ?_)
          refine SOps.q rfl (.plain rfl) rfl (q_move rfl rfl) ?_
          refine SOps.q rfl (.plain rfl) rfl (q_assign rfl rfl) ?_
          refine SOps.sub (st' := ⟨[(8, .c (.int .i64 c_53))], []⟩) (sub_gen [] rfl rfl ⟨zc rfl rfl, trivial⟩ trivial) ?_
          refine SOps.nil ?_
          refine SCode.ret ?_
          obtain rfl := Option.some.inj h
          exact ⟨⟨[(8, .c (.int .i64 c_53))], []⟩, _, sub_gen [] rfl rfl ⟨zc rfl rfl, trivial⟩ trivial, resA1 (v := .c (.int .i64 c_53)) rfl rfl, rfl⟩
        refine SCode.cond_f rfl g59 ?_
        refine SCode.skip ?_
        refine SCode.seq ?_
        refine SCode.region (show SOps _ _ _ [0, 1] _ _ from ?_)
        refine SOps.q rfl (.plain rfl) rfl (q_move rfl rfl) ?_
        refine SOps.q rfl (.plain rfl) rfl (q_assign rfl rfl) ?_
        refine SOps.sub (st' := ⟨[(0, .c (.vec a0_l.length 11 (gL cSProfile dSProfile a0_l))), (1, .c (.int .i64 a1_start)), (2, .c (.int .i64 c_53)), (3, .c (.int .i64 a3_last)), (9, .c (.int .i64 begin_28)), (10, .c (.int .i64 end_29)), (11, .c (.own 0 c_50.2.length)), (12, .c (.int .i64 c_53))], [.arr 3 1 c_50.2.length (gL (cInt .i64) 0 c_50.2)]⟩) (sub_gen [0] rfl rfl ⟨zc rfl rfl, zc rfl rfl, zc rfl rfl, zc rfl rfl, zc rfl rfl, zc rfl rfl, zc rfl rfl, zc rfl rfl, trivial⟩ ⟨oa rfl, trivial⟩) ?_
        refine SOps.nil ?_
        refine SCode.seq ?_
        refine SCode.region (show SOps _ _ _ [0, 1, 2] _ _ from ?_)
        refine SOps.q rfl (.plain rfl) rfl (q_move rfl rfl) ?_
        refine SOps.q rfl (.plain rfl) rfl (q_move rfl rfl) ?_
        refine SOps.q rfl (.plain rfl) rfl (q_eql rfl rfl rfl) ?_
        refine SOps.sub (st' := ⟨[(0, .c (.vec a0_l.length 11 (gL cSProfile dSProfile a0_l))), (1, .c (.int .i64 a1_start)), (2, .c (.int .i64 c_53)), (3, .c (.int .i64 a3_last)), (9, .c (.int .i64 begin_28)), (10, .c (.int .i64 end_29)), (11, .c (.own 0 c_50.2.length)), (12, .c (.int .i64 c_53)), (69, .c (.bool (decide (c_53 = end_29))))], [.arr 3 1 c_50.2.length (gL (cInt .i64) 0 c_50.2)]⟩) (sub_gen [0] rfl rfl ⟨zc rfl rfl, zc rfl rfl, zc rfl rfl, zc rfl rfl, zc rfl rfl, zc rfl rfl, zc rfl rfl, zc rfl rfl, zc rfl rfl, trivial⟩ ⟨oa rfl, trivial⟩) ?_
        refine SOps.nil ?_
        rcases cond_out h with ⟨g60, h⟩ | ⟨g60, h⟩
        · refine SCode.cond_t rfl g60 ?_
          obtain ⟨c_61, g62, h⟩ := bind_out h
          try dsimp only at h
          refine SCode.region (show SOps _ _ _ [0, 1, 2, 3, 4, 5, 6] _ _ from ?_)
          refine SOps.q rfl (.plain rfl) rfl (q_move rfl rfl) ?_
          refine SOps.q rfl (.plain rfl) rfl (q_move rfl rfl) ?_
          refine SOps.q rfl (.plain rfl) rfl (q_move rfl rfl) ?_
          refine SOps.q rfl (.plain rfl) rfl (q_move rfl rfl) ?_
          refine SOps.q rfl (.plain rfl) rfl (q_call (compose_pause_ok F a0_l a1_start c_53 c_61 g62) [] rfl fn37 ⟨⟨_, rfl, .inl ⟨rfl, rfl⟩⟩, ⟨_, rfl, .inl ⟨rfl, rfl⟩⟩, ⟨_, rfl, .inl ⟨rfl, rfl⟩⟩, trivial⟩ (.inl rfl)) ?_
          refine SOps.q rfl (.plain rfl) rfl (q_assign rfl rfl) ?_
          refine SOps.q rfl (.plain rfl) rfl (q_assign rfl rfl) ?_
          refine SOps.sub (st' := ⟨[(0, .c (.vec a0_l.length 11 (gL cSProfile dSProfile a0_l))), (1, .c (.int .i64 a1_start)), (2, .c (.int .i64 c_53)), (3, .c (.int .i64 a3_last)), (9, .c (.int .i64 c_53)), (10, .c (.int .i64 c_61)), (11, .c (.own 0 c_50.2.length))], [.arr 3 1 c_50.2.length (gL (cInt .i64) 0 c_50.2)]⟩) (sub_gen [0] rfl rfl ⟨zc rfl rfl, zc rfl rfl, zc rfl rfl, zc rfl rfl, zc rfl rfl, zc rfl rfl, zc rfl rfl, trivial⟩ ⟨oa rfl, trivial⟩) ?_
          refine SOps.nil ?_
          exact ⟨(n_48, (c_53, c_53, c_61, c_50.2)), h, Nat.lt_succ_self n_48, sub_gen [0] rfl rfl ⟨zc rfl rfl, zc rfl rfl, zc rfl rfl, zc rfl rfl, zc rfl rfl, zc rfl rfl, zc rfl rfl, trivial⟩ ⟨oa rfl, trivial⟩⟩
        refine SCode.cond_f rfl g60 ?_
        refine SCode.skip ?_
        exact ⟨(n_48, (c_53, begin_28, end_29, c_50.2)), h, Nat.lt_succ_self n_48, sub_gen [0] rfl rfl ⟨zc rfl rfl, zc rfl rfl, zc rfl rfl, zc rfl rfl, zc rfl rfl, zc rfl rfl, zc rfl rfl, trivial⟩ ⟨oa rfl, trivial⟩⟩
      refine SCode.cond_f rfl g49 ?_
      refine SCode.exit ?_
      exact ⟨(), h, sub_gen [] rfl rfl trivial trivial⟩
  rintro ⟨⟩ h
  show SCode _ _ _ ⟨[], []⟩ _
  replace h : compose_next_p5 = some r := h
  unfold compose_next_p5 at h
  refine SCode.seq ?_
  refine SCode.region (show SOps _ _ _ [0] _ _ from ?_)
  refine SOps.q rfl (.plain rfl) rfl (q_assign rfl rfl) ?_
  refine SOps.sub (st' := ⟨[(8, .c (.int .i64 ((-1))))], []⟩) (sub_gen [] rfl rfl ⟨zc rfl rfl, trivial⟩ trivial) ?_
  refine SOps.nil ?_
  refine SCode.ret ?_
  obtain rfl := Option.some.inj h
  exact ⟨⟨[(8, .c (.int .i64 ((-1))))], []⟩, _, sub_gen [] rfl rfl ⟨zc rfl rfl, trivial⟩ trivial, resA1 (v := .c (.int .i64 ((-1)))) rfl rfl, rfl⟩
set_option maxRecDepth 100000 in
set_option maxHeartbeats 8000000 in
theorem compose_Next_ok (F : Nat) (a0_l : List SProfile) (a1_conn : Int) (a2_txn : ByteArray) (a3_start : Int) (a4_t : Int) (r : Int) (h : compose_Next F a0_l a1_conn a2_txn a3_start a4_t = some r) :
    SFun Try.prog 20 [] [.c (.vec a0_l.length 11 (gL cSProfile dSProfile a0_l)), .c (.int .i64 a1_conn), .c (.str a2_txn), .c (.int .i64 a3_start), .c (.int .i64 a4_t)] (fun x _ => x = .c (.int .i64 r)) := by
  refine SFun.of (n := 18) Try.func20 rfl rfl rfl ?_
  unfold compose_Next at h
  show SCode _ _ _ ⟨[(0, .c (.vec a0_l.length 11 (gL cSProfile dSProfile a0_l))), (1, .c (.int .i64 a1_conn)), (2, .c (.str a2_txn)), (3, .c (.int .i64 a3_start)), (4, .c (.int .i64 a4_t))], []⟩ _
  refine SCode.seq ?_
  refine SCode.region (show SOps _ _ _ [0] _ _ from ?_)
  refine SOps.q rfl (.plain rfl) rfl (q_assign rfl rfl) ?_
  refine SOps.sub (st' := ⟨[(0, .c (.vec a0_l.length 11 (gL cSProfile dSProfile a0_l))), (1, .c (.int .i64 a1_conn)), (2, .c (.str a2_txn)), (3, .c (.int .i64 a3_start)), (4, .c (.int .i64 a4_t))], []⟩) (sub_gen [] rfl rfl ⟨zc rfl rfl, zc rfl rfl, zc rfl rfl, zc rfl rfl, zc rfl rfl, trivial⟩ trivial) ?_
  refine SOps.nil ?_
  refine SCode.seq ?_
  obtain ⟨c_1, g2, h⟩ := bind_out h
  try dsimp only at h
  obtain ⟨c_3, g4, h⟩ := bind_out h
  try dsimp only at h
  refine SCode.region (show SOps _ _ _ [0, 1, 2, 3, 4, 5, 6, 7] _ _ from ?_)
  refine SOps.q rfl (.plain rfl) rfl (q_move rfl rfl) ?_
  refine SOps.q rfl (.plain rfl) rfl (q_move rfl rfl) ?_
  refine SOps.q rfl (.plain rfl) rfl (q_move rfl rfl) ?_
  refine SOps.q rfl (.plain rfl) rfl (q_call (compose_candidates_ok F a0_l a1_conn a2_txn c_1 g2) [] rfl fn23 ⟨⟨_, rfl, .inl ⟨rfl, rfl⟩⟩, ⟨_, rfl, .inl ⟨rfl, rfl⟩⟩, ⟨_, rfl, .inl ⟨rfl, rfl⟩⟩, trivial⟩ (.inl rfl)) ?_
  refine SOps.q rfl (.plain rfl) rfl (q_move rfl rfl) ?_
  refine SOps.q rfl (.plain rfl) rfl (q_move rfl rfl) ?_
  refine SOps.q rfl (.plain rfl) rfl (q_call (compose_next_ok F c_1 a3_start a4_t 268435456 c_3 g4) [] rfl fn26 ⟨⟨_, rfl, .inl ⟨rfl, rfl⟩⟩, ⟨_, rfl, .inl ⟨rfl, rfl⟩⟩, ⟨_, rfl, .inl ⟨rfl, rfl⟩⟩, ⟨_, rfl, .inl ⟨rfl, rfl⟩⟩, trivial⟩ (.inl rfl)) ?_
  refine SOps.q rfl (.plain rfl) rfl (q_assign rfl rfl) ?_
  refine SOps.sub (st' := ⟨[(10, .c (.int .i64 c_3))], []⟩) (sub_gen [] rfl rfl ⟨zc rfl rfl, trivial⟩ trivial) ?_
  refine SOps.nil ?_
  refine SCode.ret ?_
  obtain rfl := Option.some.inj h
  exact ⟨⟨[(10, .c (.int .i64 c_3))], []⟩, _, sub_gen [] rfl rfl ⟨zc rfl rfl, trivial⟩ trivial, resA1 (v := .c (.int .i64 c_3)) rfl rfl, rfl⟩
set_option maxRecDepth 100000 in
set_option maxHeartbeats 8000000 in
theorem chargenetlaw16_exampleHolds_ok (F : Nat)  (r : Bool) (h : chargenetlaw16_exampleHolds F  = some r) :
    SFun Try.prog 9 [] [] (fun x _ => x = .c (.bool r)) := by
  refine SFun.of (n := 37) Try.func9 rfl rfl rfl ?_
  unfold chargenetlaw16_exampleHolds at h
  show SCode _ _ _ ⟨[], []⟩ _
  refine SCode.seq ?_
  refine SCode.region (show SOps _ _ _ [0] _ _ from ?_)
  refine SOps.q rfl (.plain rfl) rfl (q_assign rfl rfl) ?_
  refine SOps.sub (st' := ⟨[], []⟩) (sub_gen [] rfl rfl trivial trivial) ?_
  refine SOps.nil ?_
  refine SCode.seq ?_
  refine SCode.region (show SOps _ _ _ [0] _ _ from ?_)
  refine SOps.q rfl (.plain rfl) rfl (q_assign rfl rfl) ?_
  refine SOps.sub (st' := ⟨[(1, .c (.raw (.func (.func 19) #[] #[])))], []⟩) (sub_gen [] rfl rfl ⟨zc rfl rfl, trivial⟩ trivial) ?_
  refine SOps.nil ?_
  refine SCode.seq ?_
  obtain ⟨c_1, g2, h⟩ := bind_out h
  try dsimp only at h
  obtain ⟨c_3, g4, h⟩ := bind_out h
  try dsimp only at h
  refine SCode.region (show SOps _ _ _ [0, 1, 2, 3, 4, 5] _ _ from ?_)
  refine SOps.q rfl (.plain rfl) rfl (q_move rfl rfl) ?_
  refine SOps.q rfl (.plain rfl) rfl (q_callr (chargenetlaw16_exampleHolds_1_ok F 1 2 4000 ByteArray.empty 0 c_1 g2) [] rfl rfl fn19 ⟨⟨_, rfl, .inl ⟨rfl, rfl⟩⟩, ⟨_, rfl, .inl ⟨rfl, rfl⟩⟩, ⟨_, rfl, .inl ⟨rfl, rfl⟩⟩, ⟨_, rfl, .inl ⟨rfl, rfl⟩⟩, ⟨_, rfl, .inl ⟨rfl, rfl⟩⟩, trivial⟩ (.inl rfl)) ?_
  refine SOps.q rfl (.plain rfl) rfl (q_move rfl rfl) ?_
  refine SOps.q rfl (.plain rfl) rfl (q_callr (chargenetlaw16_exampleHolds_1_ok F 2 3 6000 (ByteArray.mk #[83, 45, 49]) 1 c_3 g4) [] rfl rfl fn19 ⟨⟨_, rfl, .inl ⟨rfl, rfl⟩⟩, ⟨_, rfl, .inl ⟨rfl, rfl⟩⟩, ⟨_, rfl, .inl ⟨rfl, rfl⟩⟩, ⟨_, rfl, .inl ⟨rfl, rfl⟩⟩, ⟨_, rfl, .inl ⟨rfl, rfl⟩⟩, trivial⟩ (.inl rfl)) ?_
  refine SOps.e rfl (.plain rfl) (e_bsliceL (c := cSProfile) (d0 := dSProfile) [c_1, c_3] rfl rfl rfl rfl sl22 z31 rfl rfl rfl rfl rfl rfl rfl) ?_
  refine SOps.q rfl (.plain rfl) rfl (q_assign rfl rfl) ?_
  refine SOps.sub (st' := ⟨[(1, .c (.raw (.func (.func 19) #[] #[]))), (2, .c (.own 0 ([c_1, c_3]).length))], [.arr 31 11 ([c_1, c_3]).length (gL cSProfile dSProfile ([c_1, c_3]))]⟩) (sub_gen [0] rfl rfl ⟨zc rfl rfl, zc rfl rfl, trivial⟩ ⟨oa rfl, trivial⟩) ?_
  refine SOps.nil ?_
  refine SCode.seq ?_
  refine SCode.seq ?_
  obtain ⟨c_5, g6, h⟩ := bind_out h
  try dsimp only at h
  rcases cond_out h with ⟨g7, h⟩ | ⟨g7, h⟩
  · refine SCode.region (show SOps _ _ _ [0, 1, 2, 3, 4, 5, 6, 7] _ _ from ?_)
    refine SOps.q rfl (.plain rfl) rfl (q_move rfl rfl) ?_
    refine SOps.q rfl (.plain rfl) rfl (q_call (compose_At_ok F ([c_1, c_3]) 1 (ByteArray.mk #[83, 45, 49]) 5 9 c_5 g6) [0] rfl fn11 ⟨⟨_, rfl, .inr (.inl ⟨_, _, _, _, _, _, _, rfl, rfl, rfl, Nat.le_refl _, fun _ _ _ _ => rfl, by decide⟩)⟩, ⟨_, rfl, .inl ⟨rfl, rfl⟩⟩, ⟨_, rfl, .inl ⟨rfl, rfl⟩⟩, ⟨_, rfl, .inl ⟨rfl, rfl⟩⟩, ⟨_, rfl, .inl ⟨rfl, rfl⟩⟩, trivial⟩ (.inr rfl)) ?_
    refine SOps.q rfl (.plain rfl) rfl (q_neq rfl rfl rfl) ?_
    refine SOps.q rfl (.plain rfl) rfl (q_move rfl rfl) ?_
    refine SOps.skip rfl 3 11 false rfl rfl (.inl (gT g7)) rfl ?_
    refine SOps.skip rfl 3 11 false rfl rfl (.inl (gT g7)) rfl ?_
    refine SOps.skip rfl 3 11 false rfl rfl (.inl (gT g7)) rfl ?_
    refine SOps.q rfl (.plain rfl) rfl (q_pick_t rfl rfl g7 rfl) ?_
    refine SOps.sub (st' := ⟨[(1, .c (.raw (.func (.func 19) #[] #[]))), (2, .c (.own 0 ([c_1, c_3]).length)), (15, .c (.bool true))], [.arr 31 11 ([c_1, c_3]).length (gL cSProfile dSProfile ([c_1, c_3]))]⟩) (sub_gen [0] rfl rfl ⟨zc rfl rfl, zc rfl rfl, zc rfl rfl, trivial⟩ ⟨oa rfl, trivial⟩) ?_
    refine SOps.nil ?_
    refine SCode.cond_t rfl rfl ?_
    refine SCode.seq ?_
    refine SCode.region (show SOps _ _ _ [0] _ _ from ?_)
    refine SOps.q rfl (.plain rfl) rfl (q_assign rfl rfl) ?_
    refine SOps.sub (st' := ⟨[(0, .c (.bool false))], []⟩) (sub_gen [] rfl rfl ⟨zc rfl rfl, trivial⟩ trivial) ?_
    refine SOps.nil ?_
    refine SCode.ret ?_
    obtain rfl := Option.some.inj h
    exact ⟨⟨[(0, .c (.bool false))], []⟩, _, sub_gen [] rfl rfl ⟨zc rfl rfl, trivial⟩ trivial, resA1 (v := .c (.bool false)) rfl rfl, rfl⟩
  obtain ⟨c_8, g9, h⟩ := bind_out h
  try dsimp only at h
  refine SCode.region (show SOps _ _ _ [0, 1, 2, 3, 4, 5, 6, 7] _ _ from ?_)
  refine SOps.q rfl (.plain rfl) rfl (q_move rfl rfl) ?_
  refine SOps.q rfl (.plain rfl) rfl (q_call (compose_At_ok F ([c_1, c_3]) 1 (ByteArray.mk #[83, 45, 49]) 5 9 c_5 g6) [0] rfl fn11 ⟨⟨_, rfl, .inr (.inl ⟨_, _, _, _, _, _, _, rfl, rfl, rfl, Nat.le_refl _, fun _ _ _ _ => rfl, by decide⟩)⟩, ⟨_, rfl, .inl ⟨rfl, rfl⟩⟩, ⟨_, rfl, .inl ⟨rfl, rfl⟩⟩, ⟨_, rfl, .inl ⟨rfl, rfl⟩⟩, ⟨_, rfl, .inl ⟨rfl, rfl⟩⟩, trivial⟩ (.inr rfl)) ?_
  refine SOps.q rfl (.plain rfl) rfl (q_neq rfl rfl rfl) ?_
  refine SOps.q rfl (.plain rfl) rfl (q_move rfl rfl) ?_
  refine SOps.q rfl (.guard 3 11 false rfl rfl (gF g7)) rfl (q_move rfl rfl) ?_
  refine SOps.q rfl (.guard 3 11 false rfl rfl (gF g7)) rfl (q_call (compose_At_ok F ([c_1, c_3]) 1 ByteArray.empty 5 9 c_8 g9) [0] rfl fn11 ⟨⟨_, rfl, .inr (.inl ⟨_, _, _, _, _, _, _, rfl, rfl, rfl, Nat.le_refl _, fun _ _ _ _ => rfl, by decide⟩)⟩, ⟨_, rfl, .inl ⟨rfl, rfl⟩⟩, ⟨_, rfl, .inl ⟨rfl, rfl⟩⟩, ⟨_, rfl, .inl ⟨rfl, rfl⟩⟩, ⟨_, rfl, .inl ⟨rfl, rfl⟩⟩, trivial⟩ (.inr rfl)) ?_
  refine SOps.q rfl (.guard 3 11 false rfl rfl (gF g7)) rfl (q_neq rfl rfl rfl) ?_
  refine SOps.q rfl (.plain rfl) rfl (q_pick_f rfl rfl g7 rfl) ?_
  refine SOps.sub (st' := ⟨[(1, .c (.raw (.func (.func 19) #[] #[]))), (2, .c (.own 0 ([c_1, c_3]).length)), (15, .c (.bool ((!decide (c_8 = 4000)))))], [.arr 31 11 ([c_1, c_3]).length (gL cSProfile dSProfile ([c_1, c_3]))]⟩) (sub_gen [0] rfl rfl ⟨zc rfl rfl, zc rfl rfl, zc rfl rfl, trivial⟩ ⟨oa rfl, trivial⟩) ?_
  refine SOps.nil ?_
  rcases cond_out h with ⟨g10, h⟩ | ⟨g10, h⟩
  · refine SCode.cond_t rfl g10 ?_
    refine SCode.seq ?_
    refine SCode.region (show SOps _ _ _ [0] _ _ from ?_)
    refine SOps.q rfl (.plain rfl) rfl (q_assign rfl rfl) ?_
    refine SOps.sub (st' := ⟨[(0, .c (.bool false))], []⟩) (sub_gen [] rfl rfl ⟨zc rfl rfl, trivial⟩ trivial) ?_
    refine SOps.nil ?_
    refine SCode.ret ?_
    obtain rfl := Option.some.inj h
    exact ⟨⟨[(0, .c (.bool false))], []⟩, _, sub_gen [] rfl rfl ⟨zc rfl rfl, trivial⟩ trivial, resA1 (v := .c (.bool false)) rfl rfl, rfl⟩
  refine SCode.cond_f rfl g10 ?_
  refine SCode.skip ?_
  refine SCode.seq ?_
  obtain ⟨c_11, g12, h⟩ := bind_out h
  try dsimp only at h
  obtain ⟨g13, h⟩ := guard_out h
  refine SCode.region (show SOps _ _ _ [0, 1, 2, 3, 4, 5] _ _ from ?_)
  refine SOps.q rfl (.plain rfl) rfl (q_move rfl rfl) ?_
  refine SOps.q rfl (.plain rfl) rfl (q_move rfl rfl) ?_
  refine SOps.q rfl (.plain rfl) rfl (q_callr (chargenetlaw16_exampleHolds_1_ok F 3 1 5000 ByteArray.empty 0 c_11 g12) [] rfl rfl fn19 ⟨⟨_, rfl, .inl ⟨rfl, rfl⟩⟩, ⟨_, rfl, .inl ⟨rfl, rfl⟩⟩, ⟨_, rfl, .inl ⟨rfl, rfl⟩⟩, ⟨_, rfl, .inl ⟨rfl, rfl⟩⟩, ⟨_, rfl, .inl ⟨rfl, rfl⟩⟩, trivial⟩ (.inl rfl)) ?_
  refine SOps.q rfl (.plain rfl) rfl (q_bsliceL (c := cSProfile) (d0 := dSProfile) [c_11] rfl rfl sl22 z31 rfl rfl rfl rfl rfl rfl rfl) ?_
  refine SOps.e rfl (.plain rfl) (e_appendL (c := cSProfile) (d0 := dSProfile) (l := [c_1, c_3]) (l2 := [c_11]) rfl rfl rfl rfl rfl rfl (.inl rfl) sl22 z31 rfl rfl oneSProfile g13.1 g13.2) ?_
  refine SOps.q rfl (.plain rfl) rfl (q_assign rfl rfl) ?_
  refine SOps.sub (st' := ⟨[(2, .c (.own 0 (([c_1, c_3]) ++ ([c_11])).length))], [.arr 31 11 (([c_1, c_3]) ++ ([c_11])).length (gL cSProfile dSProfile (([c_1, c_3]) ++ ([c_11])))]⟩) (sub_gen [1] rfl rfl ⟨zc rfl rfl, trivial⟩ ⟨oa rfl, trivial⟩) ?_
  refine SOps.nil ?_
  refine SCode.seq ?_
  obtain ⟨c_14, g15, h⟩ := bind_out h
  try dsimp only at h
  rcases cond_out h with ⟨g16, h⟩ | ⟨g16, h⟩
  · obtain ⟨c_17, g18, h⟩ := bind_out h
    try dsimp only at h
    rcases cond_out h with ⟨g19, h⟩ | ⟨g19, h⟩
    · obtain ⟨c_20, g21, h⟩ := bind_out h
      try dsimp only at h
      rcases cond_out h with ⟨g22, h⟩ | ⟨g22, h⟩
      · obtain ⟨c_23, g24, h⟩ := bind_out h
        try dsimp only at h
        refine SCode.region (show SOps _ _ _ [0, 1, 2, 3, 4, 5, 6, 7, 8, 9, 10, 11, 12, 13, 14, 15, 16] _ _ from ?_)
        refine SOps.q rfl (.plain rfl) rfl (q_move rfl rfl) ?_
        refine SOps.q rfl (.plain rfl) rfl (q_call (compose_At_ok F (([c_1, c_3]) ++ ([c_11])) 1 (ByteArray.mk #[83, 45, 49]) 5 9 c_14 g15) [0] rfl fn11 ⟨⟨_, rfl, .inr (.inl ⟨_, _, _, _, _, _, _, rfl, rfl, rfl, Nat.le_refl _, fun _ _ _ _ => rfl, by decide⟩)⟩, ⟨_, rfl, .inl ⟨rfl, rfl⟩⟩, ⟨_, rfl, .inl ⟨rfl, rfl⟩⟩, ⟨_, rfl, .inl ⟨rfl, rfl⟩⟩, ⟨_, rfl, .inl ⟨rfl, rfl⟩⟩, trivial⟩ (.inr rfl)) ?_
        refine SOps.q rfl (.plain rfl) rfl (q_eql rfl rfl rfl) ?_
        refine SOps.q rfl (.plain rfl) rfl (q_move rfl rfl) ?_
        refine SOps.q rfl (.guard 3 24 true rfl rfl (gT g16)) rfl (q_move rfl rfl) ?_
        refine SOps.q rfl (.guard 3 24 true rfl rfl (gT g16)) rfl (q_call (compose_At_ok F (([c_1, c_3]) ++ ([c_11])) 1 ByteArray.empty 5 9 c_17 g18) [0] rfl fn11 ⟨⟨_, rfl, .inr (.inl ⟨_, _, _, _, _, _, _, rfl, rfl, rfl, Nat.le_refl _, fun _ _ _ _ => rfl, by decide⟩)⟩, ⟨_, rfl, .inl ⟨rfl, rfl⟩⟩, ⟨_, rfl, .inl ⟨rfl, rfl⟩⟩, ⟨_, rfl, .inl ⟨rfl, rfl⟩⟩, ⟨_, rfl, .inl ⟨rfl, rfl⟩⟩, trivial⟩ (.inr rfl)) ?_
        refine SOps.q rfl (.guard 3 24 true rfl rfl (gT g16)) rfl (q_eql rfl rfl rfl) ?_
        refine SOps.q rfl (.plain rfl) rfl (q_pick_t rfl rfl g16 rfl) ?_
        refine SOps.q rfl (.plain rfl) rfl (q_move rfl rfl) ?_
        refine SOps.q rfl (.guard 8 29 true rfl rfl (gT g19)) rfl (q_call (compose_At_ok F (([] : List SProfile)) 1 ByteArray.empty 5 9 c_20 g21) [] rfl fn11 ⟨⟨_, rfl, .inr (.inr ⟨_, _, rfl, rfl⟩)⟩, ⟨_, rfl, .inl ⟨rfl, rfl⟩⟩, ⟨_, rfl, .inl ⟨rfl, rfl⟩⟩, ⟨_, rfl, .inl ⟨rfl, rfl⟩⟩, ⟨_, rfl, .inl ⟨rfl, rfl⟩⟩, trivial⟩ (.inl rfl)) ?_
        refine SOps.q rfl (.guard 8 29 true rfl rfl (gT g19)) rfl (q_eql rfl rfl rfl) ?_
        refine SOps.q rfl (.plain rfl) rfl (q_pick_t rfl rfl g19 rfl) ?_
        refine SOps.q rfl (.plain rfl) rfl (q_move rfl rfl) ?_
        refine SOps.q rfl (.guard 12 33 true rfl rfl (gT g22)) rfl (q_call (compose_Next_ok F (([] : List SProfile)) 1 ByteArray.empty 5 9 c_23 g24) [] rfl fn20 ⟨⟨_, rfl, .inr (.inr ⟨_, _, rfl, rfl⟩)⟩, ⟨_, rfl, .inl ⟨rfl, rfl⟩⟩, ⟨_, rfl, .inl ⟨rfl, rfl⟩⟩, ⟨_, rfl, .inl ⟨rfl, rfl⟩⟩, ⟨_, rfl, .inl ⟨rfl, rfl⟩⟩, trivial⟩ (.inl rfl)) ?_
        refine SOps.q rfl (.guard 12 33 true rfl rfl (gT g22)) rfl (q_eql rfl rfl rfl) ?_
        refine SOps.q rfl (.plain rfl) rfl (q_pick_t rfl rfl g22 rfl) ?_
        refine SOps.q rfl (.plain rfl) rfl (q_assign rfl rfl) ?_
        refine SOps.sub (st' := ⟨[(0, .c (.bool (decide (c_23 = (-1)))))], []⟩) (sub_gen [] rfl rfl ⟨zc rfl rfl, trivial⟩ trivial) ?_
        refine SOps.nil ?_
        refine SCode.ret ?_
        obtain rfl := Option.some.inj h
        exact ⟨⟨[(0, .c (.bool (decide (c_23 = (-1)))))], []⟩, _, sub_gen [] rfl rfl ⟨zc rfl rfl, trivial⟩ trivial, resA1 (v := .c (.bool (decide (c_23 = (-1))))) rfl rfl, rfl⟩
      refine SCode.region (show SOps _ _ _ [0, 1, 2, 3, 4, 5, 6, 7, 8, 9, 10, 11, 12, 13, 14, 15, 16] _ _ from ?_)
      refine SOps.q rfl (.plain rfl) rfl (q_move rfl rfl) ?_
      refine SOps.q rfl (.plain rfl) rfl (q_call (compose_At_ok F (([c_1, c_3]) ++ ([c_11])) 1 (ByteArray.mk #[83, 45, 49]) 5 9 c_14 g15) [0] rfl fn11 ⟨⟨_, rfl, .inr (.inl ⟨_, _, _, _, _, _, _, rfl, rfl, rfl, Nat.le_refl _, fun _ _ _ _ => rfl, by decide⟩)⟩, ⟨_, rfl, .inl ⟨rfl, rfl⟩⟩, ⟨_, rfl, .inl ⟨rfl, rfl⟩⟩, ⟨_, rfl, .inl ⟨rfl, rfl⟩⟩, ⟨_, rfl, .inl ⟨rfl, rfl⟩⟩, trivial⟩ (.inr rfl)) ?_
      refine SOps.q rfl (.plain rfl) rfl (q_eql rfl rfl rfl) ?_
      refine SOps.q rfl (.plain rfl) rfl (q_move rfl rfl) ?_
      refine SOps.q rfl (.guard 3 24 true rfl rfl (gT g16)) rfl (q_move rfl rfl) ?_
      refine SOps.q rfl (.guard 3 24 true rfl rfl (gT g16)) rfl (q_call (compose_At_ok F (([c_1, c_3]) ++ ([c_11])) 1 ByteArray.empty 5 9 c_17 g18) [0] rfl fn11 ⟨⟨_, rfl, .inr (.inl ⟨_, _, _, _, _, _, _, rfl, rfl, rfl, Nat.le_refl _, fun _ _ _ _ => rfl, by decide⟩)⟩, ⟨_, rfl, .inl ⟨rfl, rfl⟩⟩, ⟨_, rfl, .inl ⟨rfl, rfl⟩⟩, ⟨_, rfl, .inl ⟨rfl, rfl⟩⟩, ⟨_, rfl, .inl ⟨rfl, rfl⟩⟩, trivial⟩ (.inr rfl)) ?_
      refine SOps.q rfl (.guard 3 24 true rfl rfl (gT g16)) rfl (q_eql rfl rfl rfl) ?_
      refine SOps.q rfl (.plain rfl) rfl (q_pick_t rfl rfl g16 rfl) ?_
      refine SOps.q rfl (.plain rfl) rfl (q_move rfl rfl) ?_
      refine SOps.q rfl (.guard 8 29 true rfl rfl (gT g19)) rfl (q_call (compose_At_ok F (([] : List SProfile)) 1 ByteArray.empty 5 9 c_20 g21) [] rfl fn11 ⟨⟨_, rfl, .inr (.inr ⟨_, _, rfl, rfl⟩)⟩, ⟨_, rfl, .inl ⟨rfl, rfl⟩⟩, ⟨_, rfl, .inl ⟨rfl, rfl⟩⟩, ⟨_, rfl, .inl ⟨rfl, rfl⟩⟩, ⟨_, rfl, .inl ⟨rfl, rfl⟩⟩, trivial⟩ (.inl rfl)) ?_
      refine SOps.q rfl (.guard 8 29 true rfl rfl (gT g19)) rfl (q_eql rfl rfl rfl) ?_
      refine SOps.q rfl (.plain rfl) rfl (q_pick_t rfl rfl g19 rfl) ?_
      refine SOps.q rfl (.plain rfl) rfl (q_move rfl rfl) ?_
      refine SOps.skip rfl 12 33 true rfl rfl (.inl (gF g22)) rfl ?_
      refine SOps.skip rfl 12 33 true rfl rfl (.inl (gF g22)) rfl ?_
      refine SOps.q rfl (.plain rfl) rfl (q_pick_f rfl rfl g22 rfl) ?_
      refine SOps.q rfl (.plain rfl) rfl (q_assign rfl rfl) ?_
      refine SOps.sub (st' := ⟨[(0, .c (.bool false))], []⟩) (sub_gen [] rfl rfl ⟨zc rfl rfl, trivial⟩ trivial) ?_
      refine SOps.nil ?_
      refine SCode.ret ?_
      obtain rfl := Option.some.inj h
      exact ⟨⟨[(0, .c (.bool false))], []⟩, _, sub_gen [] rfl rfl ⟨zc rfl rfl, trivial⟩ trivial, resA1 (v := .c (.bool false)) rfl rfl, rfl⟩
    refine SCode.region (show SOps _ _ _ [0, 1, 2, 3, 4, 5, 6, 7, 8, 9, 10, 11, 12, 13, 14, 15, 16] _ _ from ?_)
    refine SOps.q rfl (.plain rfl) rfl (q_move rfl rfl) ?_
    refine SOps.q rfl (.plain rfl) rfl (q_call (compose_At_ok F (([c_1, c_3]) ++ ([c_11])) 1 (ByteArray.mk #[83, 45, 49]) 5 9 c_14 g15) [0] rfl fn11 ⟨⟨_, rfl, .inr (.inl ⟨_, _, _, _, _, _, _, rfl, rfl, rfl, Nat.le_refl _, fun _ _ _ _ => rfl, by decide⟩)⟩, ⟨_, rfl, .inl ⟨rfl, rfl⟩⟩, ⟨_, rfl, .inl ⟨rfl, rfl⟩⟩, ⟨_, rfl, .inl ⟨rfl, rfl⟩⟩, ⟨_, rfl, .inl ⟨rfl, rfl⟩⟩, trivial⟩ (.inr rfl)) ?_
    refine SOps.q rfl (.plain rfl) rfl (q_eql rfl rfl rfl) ?_
    refine SOps.q rfl (.plain rfl) rfl (q_move rfl rfl) ?_
    refine SOps.q rfl (.guard 3 24 true rfl rfl (gT g16)) rfl (q_move rfl rfl) ?_
    refine SOps.q rfl (.guard 3 24 true rfl rfl (gT g16)) rfl (q_call (compose_At_ok F (([c_1, c_3]) ++ ([c_11])) 1 ByteArray.empty 5 9 c_17 g18) [0] rfl fn11 ⟨⟨_, rfl, .inr (.inl ⟨_, _, _, _, _, _, _, rfl, rfl, rfl, Nat.le_refl _, fun _ _ _ _ => rfl, by decide⟩)⟩, ⟨_, rfl, .inl ⟨rfl, rfl⟩⟩, ⟨_, rfl, .inl ⟨rfl, rfl⟩⟩, ⟨_, rfl, .inl ⟨rfl, rfl⟩⟩, ⟨_, rfl, .inl ⟨rfl, rfl⟩⟩, trivial⟩ (.inr rfl)) ?_
    refine SOps.q rfl (.guard 3 24 true rfl rfl (gT g16)) rfl (q_eql rfl rfl rfl) ?_
    refine SOps.q rfl (.plain rfl) rfl (q_pick_t rfl rfl g16 rfl) ?_
    refine SOps.q rfl (.plain rfl) rfl (q_move rfl rfl) ?_
    refine SOps.skip rfl 8 29 true rfl rfl (.inl (gF g19)) rfl ?_
    refine SOps.skip rfl 8 29 true rfl rfl (.inl (gF g19)) rfl ?_
    refine SOps.q rfl (.plain rfl) rfl (q_pick_f rfl rfl g19 rfl) ?_
    refine SOps.q rfl (.plain rfl) rfl (q_move rfl rfl) ?_
    refine SOps.skip rfl 12 33 true rfl rfl (.inl rfl) rfl ?_
    refine SOps.skip rfl 12 33 true rfl rfl (.inl rfl) rfl ?_
    refine SOps.q rfl (.plain rfl) rfl (q_pick_f rfl rfl rfl rfl) ?_
    refine SOps.q rfl (.plain rfl) rfl (q_assign rfl rfl) ?_
    refine SOps.sub (st' := ⟨[(0, .c (.bool false))], []⟩) (sub_gen [] rfl rfl ⟨zc rfl rfl, trivial⟩ trivial) ?_
    refine SOps.nil ?_
    refine SCode.ret ?_
    obtain rfl := Option.some.inj h
    exact ⟨⟨[(0, .c (.bool false))], []⟩, _, sub_gen [] rfl rfl ⟨zc rfl rfl, trivial⟩ trivial, resA1 (v := .c (.bool false)) rfl rfl, rfl⟩
  refine SCode.region (show SOps _ _ _ [0, 1, 2, 3, 4, 5, 6, 7, 8, 9, 10, 11, 12, 13, 14, 15, 16] _ _ from ?_)
  refine SOps.q rfl (.plain rfl) rfl (q_move rfl rfl) ?_
  refine SOps.q rfl (.plain rfl) rfl (q_call (compose_At_ok F (([c_1, c_3]) ++ ([c_11])) 1 (ByteArray.mk #[83, 45, 49]) 5 9 c_14 g15) [0] rfl fn11 ⟨⟨_, rfl, .inr (.inl ⟨_, _, _, _, _, _, _, rfl, rfl, rfl, Nat.le_refl _, fun _ _ _ _ => rfl, by decide⟩)⟩, ⟨_, rfl, .inl ⟨rfl, rfl⟩⟩, ⟨_, rfl, .inl ⟨rfl, rfl⟩⟩, ⟨_, rfl, .inl ⟨rfl, rfl⟩⟩, ⟨_, rfl, .inl ⟨rfl, rfl⟩⟩, trivial⟩ (.inr rfl)) ?_
  refine SOps.q rfl (.plain rfl) rfl (q_eql rfl rfl rfl) ?_
  refine SOps.q rfl (.plain rfl) rfl (q_move rfl rfl) ?_
  refine SOps.skip rfl 3 24 true rfl rfl (.inl (gF g16)) rfl ?_
  refine SOps.skip rfl 3 24 true rfl rfl (.inl (gF g16)) rfl ?_
  refine SOps.skip rfl 3 24 true rfl rfl (.inl (gF g16)) rfl ?_
  refine SOps.q rfl (.plain rfl) rfl (q_pick_f rfl rfl g16 rfl) ?_
  refine SOps.q rfl (.plain rfl) rfl (q_move rfl rfl) ?_
  refine SOps.skip rfl 8 29 true rfl rfl (.inl rfl) rfl ?_
  refine SOps.skip rfl 8 29 true rfl rfl (.inl rfl) rfl ?_
  refine SOps.q rfl (.plain rfl) rfl (q_pick_f rfl rfl rfl rfl) ?_
  refine SOps.q rfl (.plain rfl) rfl (q_move rfl rfl) ?_
  refine SOps.skip rfl 12 33 true rfl rfl (.inl rfl) rfl ?_
  refine SOps.skip rfl 12 33 true rfl rfl (.inl rfl) rfl ?_
  refine SOps.q rfl (.plain rfl) rfl (q_pick_f rfl rfl rfl rfl) ?_
  refine SOps.q rfl (.plain rfl) rfl (q_assign rfl rfl) ?_
  refine SOps.sub (st' := ⟨[(0, .c (.bool false))], []⟩) (sub_gen [] rfl rfl ⟨zc rfl rfl, trivial⟩ trivial) ?_
  refine SOps.nil ?_
  refine SCode.ret ?_
  obtain rfl := Option.some.inj h
  exact ⟨⟨[(0, .c (.bool false))], []⟩, _, sub_gen [] rfl rfl ⟨zc rfl rfl, trivial⟩ trivial, resA1 (v := .c (.bool false)) rfl rfl, rfl⟩
set_option maxRecDepth 100000 in
set_option maxHeartbeats 8000000 in
theorem compose_Series_ok (F : Nat) (a0_l : List SProfile) (a1_conn : Int) (a2_txn : ByteArray) (a3_start : Int) (a4_s : SSpan) (r : (List SStep) × Int) (h : compose_Series F a0_l a1_conn a2_txn a3_start a4_s = some r) :
    SFun Try.prog 15 [] [.c (.vec a0_l.length 11 (gL cSProfile dSProfile a0_l)), .c (.int .i64 a1_conn), .c (.str a2_txn), .c (.int .i64 a3_start), .a [.int .i64 a4_s.From, .int .i64 a4_s.To]] (fun x _ => x = .t [.c (.vec r.1.length 2 (gL cSStep dSStep r.1)), .c (.int .i64 r.2)]) := by
  refine SFun.of (n := 72) Try.func15 rfl rfl rfl ?_
  unfold compose_Series at h
  show SCode _ _ _ ⟨[(0, .c (.vec a0_l.length 11 (gL cSProfile dSProfile a0_l))), (1, .c (.int .i64 a1_conn)), (2, .c (.str a2_txn)), (3, .c (.int .i64 a3_start)), (4, .a [.int .i64 a4_s.From, .int .i64 a4_s.To])], []⟩ _
  refine SCode.seq ?_
  refine SCode.region (show SOps _ _ _ [0, 1, 2] _ _ from ?_)
  refine SOps.e rfl (.plain rfl) (e_box rfl rfl rfl rfl rfl rfl) ?_
  refine SOps.q rfl (.plain rfl) rfl (q_assign rfl rfl) ?_
  refine SOps.q rfl (.plain rfl) rfl (q_assign rfl rfl) ?_
  refine SOps.sub (st' := ⟨[(0, .c (.vec a0_l.length 11 (gL cSProfile dSProfile a0_l))), (1, .c (.int .i64 a1_conn)), (2, .c (.str a2_txn)), (3, .c (.int .i64 a3_start)), (9, .c (.ptr 0 0))], [.box [.int .i64 a4_s.From, .int .i64 a4_s.To]]⟩) (sub_gen [0] rfl rfl ⟨zc rfl rfl, zc rfl rfl, zc rfl rfl, zc rfl rfl, zc rfl rfl, trivial⟩ ⟨⟨_, rfl, ⟨ii rfl rfl, ii rfl rfl, trivial⟩⟩, trivial⟩) ?_
  refine SOps.nil ?_
  refine SCode.seq ?_
  refine SCode.seq ?_
  rcases cond_out h with ⟨g1, h⟩ | ⟨g1, h⟩
  · refine SCode.region (show SOps _ _ _ [0, 1, 2, 3, 4, 5, 6, 7, 8, 9, 10, 11, 12, 13, 14, 15, 16, 17, 18, 19, 20, 21, 22] _ _ from ?_)
    refine SOps.q rfl (.plain rfl) rfl (q_field_ptr rfl rfl fd28_0) ?_
    refine SOps.q rfl (.plain rfl) rfl (q_load_ptr rfl rfl rfl rfl ty3) ?_
    refine SOps.q rfl (.plain rfl) rfl (q_lss rfl rfl rfl) ?_
    refine SOps.q rfl (.plain rfl) rfl (q_move rfl rfl) ?_
    refine SOps.skip rfl 3 18 false rfl rfl (.inl (gT g1)) rfl ?_
    refine SOps.skip rfl 3 18 false rfl rfl (.inl (gT g1)) rfl ?_
    refine SOps.skip rfl 3 18 false rfl rfl (.inl (gT g1)) rfl ?_
    refine SOps.skip rfl 3 18 false rfl rfl (.inl (gT g1)) rfl ?_
    refine SOps.skip rfl 3 18 false rfl rfl (.inl (gT g1)) rfl ?_
    refine SOps.q rfl (.plain rfl) rfl (q_pick_t rfl rfl g1 rfl) ?_
    refine SOps.q rfl (.plain rfl) rfl (q_move rfl rfl) ?_
    refine SOps.skip rfl 10 25 false rfl rfl (.inl rfl) rfl ?_
    refine SOps.skip rfl 10 25 false rfl rfl (.inl rfl) rfl ?_
    refine SOps.skip rfl 10 25 false rfl rfl (.inl rfl) rfl ?_
    refine SOps.q rfl (.plain rfl) rfl (q_pick_t rfl rfl rfl rfl) ?_
    refine SOps.q rfl (.plain rfl) rfl (q_move rfl rfl) ?_
    refine SOps.skip rfl 15 30 false rfl rfl (.inl rfl) rfl ?_
    refine SOps.skip rfl 15 30 false rfl rfl (.inl rfl) rfl ?_
    refine SOps.skip rfl 15 30 false rfl rfl (.inl rfl) rfl ?_
    refine SOps.skip rfl 15 30 false rfl rfl (.inl rfl) rfl ?_
    refine SOps.skip rfl 15 30 false rfl rfl (.inl rfl) rfl ?_
    refine SOps.skip rfl 15 30 false rfl rfl (.inl rfl) rfl ?_
    refine SOps.q rfl (.plain rfl) rfl (q_pick_t rfl rfl rfl rfl) ?_
    refine SOps.sub (st' := ⟨[(0, .c (.vec a0_l.length 11 (gL cSProfile dSProfile a0_l))), (1, .c (.int .i64 a1_conn)), (2, .c (.str a2_txn)), (3, .c (.int .i64 a3_start)), (9, .c (.ptr 0 0)), (37, .c (.bool true))], [.box [.int .i64 a4_s.From, .int .i64 a4_s.To]]⟩) (sub_gen [0] rfl rfl ⟨zc rfl rfl, zc rfl rfl, zc rfl rfl, zc rfl rfl, zc rfl rfl, zc rfl rfl, trivial⟩ ⟨⟨_, rfl, ⟨ii rfl rfl, ii rfl rfl, trivial⟩⟩, trivial⟩) ?_
    refine SOps.nil ?_
    refine SCode.cond_t rfl rfl ?_
    refine SCode.seq ?_
    refine SCode.region (show SOps _ _ _ [0, 1] _ _ from ?_)
    refine SOps.q rfl (.plain rfl) rfl (q_assign rfl rfl) ?_
    refine SOps.q rfl (.plain rfl) rfl (q_assign rfl rfl) ?_
    refine SOps.sub (st' := ⟨[(10, .c (.raw (.slice none 0 0))), (11, .c (.int .i64 2))], []⟩) (sub_gen [] rfl rfl ⟨zc rfl rfl, zc rfl rfl, trivial⟩ trivial) ?_
    refine SOps.nil ?_
    refine SCode.ret ?_
    obtain rfl := Option.some.inj h
    exact ⟨⟨[(10, .c (.vec (([] : List SStep)).length 2 (gL cSStep dSStep (([] : List SStep))))), (11, .c (.int .i64 2))], []⟩, _, sub_gen [] rfl rfl ⟨⟨_, rfl, .inr (.inr (.inr (.inl ⟨_, _, rfl, rfl⟩)))⟩, zc rfl rfl, trivial⟩ trivial, resA2 (v1 := .c (.vec (([] : List SStep)).length 2 (gL cSStep dSStep (([] : List SStep))))) (v2 := .c (.int .i64 2)) rfl rfl rfl, rfl⟩
  rcases cond_out h with ⟨g2, h⟩ | ⟨g2, h⟩
  · refine SCode.region (show SOps _ _ _ [0, 1, 2, 3, 4, 5, 6, 7, 8, 9, 10, 11, 12, 13, 14, 15, 16, 17, 18, 19, 20, 21, 22] _ _ from ?_)
    refine SOps.q rfl (.plain rfl) rfl (q_field_ptr rfl rfl fd28_0) ?_
    refine SOps.q rfl (.plain rfl) rfl (q_load_ptr rfl rfl rfl rfl ty3) ?_
    refine SOps.q rfl (.plain rfl) rfl (q_lss rfl rfl rfl) ?_
    refine SOps.q rfl (.plain rfl) rfl (q_move rfl rfl) ?_
    refine SOps.q rfl (.guard 3 18 false rfl rfl (gF g1)) rfl (q_field_ptr rfl rfl fd28_1) ?_
    refine SOps.q rfl (.guard 3 18 false rfl rfl (gF g1)) rfl (q_load_ptr rfl rfl rfl rfl ty3) ?_
    refine SOps.q rfl (.guard 3 18 false rfl rfl (gF g1)) rfl (q_field_ptr rfl rfl fd28_0) ?_
    refine SOps.q rfl (.guard 3 18 false rfl rfl (gF g1)) rfl (q_load_ptr rfl rfl rfl rfl ty3) ?_
    refine SOps.q rfl (.guard 3 18 false rfl rfl (gF g1)) rfl (q_lss rfl rfl rfl) ?_
    refine SOps.q rfl (.plain rfl) rfl (q_pick_f rfl rfl g1 rfl) ?_
    refine SOps.q rfl (.plain rfl) rfl (q_move rfl rfl) ?_
    refine SOps.skip rfl 10 25 false rfl rfl (.inl (gT g2)) rfl ?_
    refine SOps.skip rfl 10 25 false rfl rfl (.inl (gT g2)) rfl ?_
    refine SOps.skip rfl 10 25 false rfl rfl (.inl (gT g2)) rfl ?_
    refine SOps.q rfl (.plain rfl) rfl (q_pick_t rfl rfl g2 rfl) ?_
    refine SOps.q rfl (.plain rfl) rfl (q_move rfl rfl) ?_
    refine SOps.skip rfl 15 30 false rfl rfl (.inl rfl) rfl ?_
    refine SOps.skip rfl 15 30 false rfl rfl (.inl rfl) rfl ?_
    refine SOps.skip rfl 15 30 false rfl rfl (.inl rfl) rfl ?_
    refine SOps.skip rfl 15 30 false rfl rfl (.inl rfl) rfl ?_
    refine SOps.skip rfl 15 30 false rfl rfl (.inl rfl) rfl ?_
    refine SOps.skip rfl 15 30 false rfl rfl (.inl rfl) rfl ?_
    refine SOps.q rfl (.plain rfl) rfl (q_pick_t rfl rfl rfl rfl) ?_
    refine SOps.sub (st' := ⟨[(0, .c (.vec a0_l.length 11 (gL cSProfile dSProfile a0_l))), (1, .c (.int .i64 a1_conn)), (2, .c (.str a2_txn)), (3, .c (.int .i64 a3_start)), (9, .c (.ptr 0 0)), (37, .c (.bool true))], [.box [.int .i64 a4_s.From, .int .i64 a4_s.To]]⟩) (sub_gen [0] rfl rfl ⟨zc rfl rfl, zc rfl rfl, zc rfl rfl, zc rfl rfl, zc rfl rfl, zc rfl rfl, trivial⟩ ⟨⟨_, rfl, ⟨ii rfl rfl, ii rfl rfl, trivial⟩⟩, trivial⟩) ?_
    refine SOps.nil ?_
    refine SCode.cond_t rfl rfl ?_
    refine SCode.seq ?_
    refine SCode.region (show SOps _ _ _ [0, 1] _ _ from ?_)
    refine SOps.q rfl (.plain rfl) rfl (q_assign rfl rfl) ?_
    refine SOps.q rfl (.plain rfl) rfl (q_assign rfl rfl) ?_
    refine SOps.sub (st' := ⟨[(10, .c (.raw (.slice none 0 0))), (11, .c (.int .i64 2))], []⟩) (sub_gen [] rfl rfl ⟨zc rfl rfl, zc rfl rfl, trivial⟩ trivial) ?_
    refine SOps.nil ?_
    refine SCode.ret ?_
    obtain rfl := Option.some.inj h
    exact ⟨⟨[(10, .c (.vec (([] : List SStep)).length 2 (gL cSStep dSStep (([] : List SStep))))), (11, .c (.int .i64 2))], []⟩, _, sub_gen [] rfl rfl ⟨⟨_, rfl, .inr (.inr (.inr (.inl ⟨_, _, rfl, rfl⟩)))⟩, zc rfl rfl, trivial⟩ trivial, resA2 (v1 := .c (.vec (([] : List SStep)).length 2 (gL cSStep dSStep (([] : List SStep))))) (v2 := .c (.int .i64 2)) rfl rfl rfl, rfl⟩
  rcases cond_out h with ⟨g3, h⟩ | ⟨g3, h⟩
  · refine SCode.region (show SOps _ _ _ [0, 1, 2, 3, 4, 5, 6, 7, 8, 9, 10, 11, 12, 13, 14, 15, 16, 17, 18, 19, 20, 21, 22] _ _ from ?_)
    refine SOps.q rfl (.plain rfl) rfl (q_field_ptr rfl rfl fd28_0) ?_
    refine SOps.q rfl (.plain rfl) rfl (q_load_ptr rfl rfl rfl rfl ty3) ?_
    refine SOps.q rfl (.plain rfl) rfl (q_lss rfl rfl rfl) ?_
    refine SOps.q rfl (.plain rfl) rfl (q_move rfl rfl) ?_
    refine SOps.q rfl (.guard 3 18 false rfl rfl (gF g1)) rfl (q_field_ptr rfl rfl fd28_1) ?_
    refine SOps.q rfl (.guard 3 18 false rfl rfl (gF g1)) rfl (q_load_ptr rfl rfl rfl rfl ty3) ?_
    refine SOps.q rfl (.guard 3 18 false rfl rfl (gF g1)) rfl (q_field_ptr rfl rfl fd28_0) ?_
    refine SOps.q rfl (.guard 3 18 false rfl rfl (gF g1)) rfl (q_load_ptr rfl rfl rfl rfl ty3) ?_
    refine SOps.q rfl (.guard 3 18 false rfl rfl (gF g1)) rfl (q_lss rfl rfl rfl) ?_
    refine SOps.q rfl (.plain rfl) rfl (q_pick_f rfl rfl g1 rfl) ?_
    refine SOps.q rfl (.plain rfl) rfl (q_move rfl rfl) ?_
    refine SOps.q rfl (.guard 10 25 false rfl rfl (gF g2)) rfl (q_field_ptr rfl rfl fd28_1) ?_
    refine SOps.q rfl (.guard 10 25 false rfl rfl (gF g2)) rfl (q_load_ptr rfl rfl rfl rfl ty3) ?_
    refine SOps.q rfl (.guard 10 25 false rfl rfl (gF g2)) rfl (q_gtr rfl rfl rfl) ?_
    refine SOps.q rfl (.plain rfl) rfl (q_pick_f rfl rfl g2 rfl) ?_
    refine SOps.q rfl (.plain rfl) rfl (q_move rfl rfl) ?_
    refine SOps.skip rfl 15 30 false rfl rfl (.inl (gT g3)) rfl ?_
    refine SOps.skip rfl 15 30 false rfl rfl (.inl (gT g3)) rfl ?_
    refine SOps.skip rfl 15 30 false rfl rfl (.inl (gT g3)) rfl ?_
    refine SOps.skip rfl 15 30 false rfl rfl (.inl (gT g3)) rfl ?_
    refine SOps.skip rfl 15 30 false rfl rfl (.inl (gT g3)) rfl ?_
    refine SOps.skip rfl 15 30 false rfl rfl (.inl (gT g3)) rfl ?_
    refine SOps.q rfl (.plain rfl) rfl (q_pick_t rfl rfl g3 rfl) ?_
    refine SOps.sub (st' := ⟨[(0, .c (.vec a0_l.length 11 (gL cSProfile dSProfile a0_l))), (1, .c (.int .i64 a1_conn)), (2, .c (.str a2_txn)), (3, .c (.int .i64 a3_start)), (9, .c (.ptr 0 0)), (37, .c (.bool true))], [.box [.int .i64 a4_s.From, .int .i64 a4_s.To]]⟩) (sub_gen [0] rfl rfl ⟨zc rfl rfl, zc rfl rfl, zc rfl rfl, zc rfl rfl, zc rfl rfl, zc rfl rfl, trivial⟩ ⟨⟨_, rfl, ⟨ii rfl rfl, ii rfl rfl, trivial⟩⟩, trivial⟩) ?_
    refine SOps.nil ?_
    refine SCode.cond_t rfl rfl ?_
    refine SCode.seq ?_
    refine SCode.region (show SOps _ _ _ [0, 1] _ _ from ?_)
    refine SOps.q rfl (.plain rfl) rfl (q_assign rfl rfl) ?_
    refine SOps.q rfl (.plain rfl) rfl (q_assign rfl rfl) ?_
    refine SOps.sub (st' := ⟨[(10, .c (.raw (.slice none 0 0))), (11, .c (.int .i64 2))], []⟩) (sub_gen [] rfl rfl ⟨zc rfl rfl, zc rfl rfl, trivial⟩ trivial) ?_
    refine SOps.nil ?_
    refine SCode.ret ?_
    obtain rfl := Option.some.inj h
    exact ⟨⟨[(10, .c (.vec (([] : List SStep)).length 2 (gL cSStep dSStep (([] : List SStep))))), (11, .c (.int .i64 2))], []⟩, _, sub_gen [] rfl rfl ⟨⟨_, rfl, .inr (.inr (.inr (.inl ⟨_, _, rfl, rfl⟩)))⟩, zc rfl rfl, trivial⟩ trivial, resA2 (v1 := .c (.vec (([] : List SStep)).length 2 (gL cSStep dSStep (([] : List SStep))))) (v2 := .c (.int .i64 2)) rfl rfl rfl, rfl⟩
  refine SCode.region (show SOps _ _ _ [0, 1, 2, 3, 4, 5, 6, 7, 8, 9, 10, 11, 12, 13, 14, 15, 16, 17, 18, 19, 20, 21, 22] _ _ from ?_)
  refine SOps.q rfl (.plain rfl) rfl (q_field_ptr rfl rfl fd28_0) ?_
  refine SOps.q rfl (.plain rfl) rfl (q_load_ptr rfl rfl rfl rfl ty3) ?_
  refine SOps.q rfl (.plain rfl) rfl (q_lss rfl rfl rfl) ?_
  refine SOps.q rfl (.plain rfl) rfl (q_move rfl rfl) ?_
  refine SOps.q rfl (.guard 3 18 false rfl rfl (gF g1)) rfl (q_field_ptr rfl rfl fd28_1) ?_
  refine SOps.q rfl (.guard 3 18 false rfl rfl (gF g1)) rfl (q_load_ptr rfl rfl rfl rfl ty3) ?_
  refine SOps.q rfl (.guard 3 18 false rfl rfl (gF g1)) rfl (q_field_ptr rfl rfl fd28_0) ?_
  refine SOps.q rfl (.guard 3 18 false rfl rfl (gF g1)) rfl (q_load_ptr rfl rfl rfl rfl ty3) ?_
  refine SOps.q rfl (.guard 3 18 false rfl rfl (gF g1)) rfl (q_lss rfl rfl rfl) ?_
  refine SOps.q rfl (.plain rfl) rfl (q_pick_f rfl rfl g1 rfl) ?_
  refine SOps.q rfl (.plain rfl) rfl (q_move rfl rfl) ?_
  refine SOps.q rfl (.guard 10 25 false rfl rfl (gF g2)) rfl (q_field_ptr rfl rfl fd28_1) ?_
  refine SOps.q rfl (.guard 10 25 false rfl rfl (gF g2)) rfl (q_load_ptr rfl rfl rfl rfl ty3) ?_
  refine SOps.q rfl (.guard 10 25 false rfl rfl (gF g2)) rfl (q_gtr rfl rfl rfl) ?_
  refine SOps.q rfl (.plain rfl) rfl (q_pick_f rfl rfl g2 rfl) ?_
  refine SOps.q rfl (.plain rfl) rfl (q_move rfl rfl) ?_
  refine SOps.q rfl (.guard 15 30 false rfl rfl (gF g3)) rfl (q_field_ptr rfl rfl fd28_1) ?_
  refine SOps.q rfl (.guard 15 30 false rfl rfl (gF g3)) rfl (q_load_ptr rfl rfl rfl rfl ty3) ?_
  refine SOps.q rfl (.guard 15 30 false rfl rfl (gF g3)) rfl (q_field_ptr rfl rfl fd28_0) ?_
  refine SOps.q rfl (.guard 15 30 false rfl rfl (gF g3)) rfl (q_load_ptr rfl rfl rfl rfl ty3) ?_
  refine SOps.q rfl (.guard 15 30 false rfl rfl (gF g3)) rfl (q_sub rfl rfl rfl) ?_
  refine SOps.q rfl (.guard 15 30 false rfl rfl (gF g3)) rfl (q_gtr rfl rfl rfl) ?_
  refine SOps.q rfl (.plain rfl) rfl (q_pick_f rfl rfl g3 rfl) ?_
  refine SOps.sub (st' := ⟨[(0, .c (.vec a0_l.length 11 (gL cSProfile dSProfile a0_l))), (1, .c (.int .i64 a1_conn)), (2, .c (.str a2_txn)), (3, .c (.int .i64 a3_start)), (9, .c (.ptr 0 0)), (37, .c (.bool (decide (20160 < IntKind.wrap .i64 (a4_s.To - a4_s.From)))))], [.box [.int .i64 a4_s.From, .int .i64 a4_s.To]]⟩) (sub_gen [0] rfl rfl ⟨zc rfl rfl, zc rfl rfl, zc rfl rfl, zc rfl rfl, zc rfl rfl, zc rfl rfl, trivial⟩ ⟨⟨_, rfl, ⟨ii rfl rfl, ii rfl rfl, trivial⟩⟩, trivial⟩) ?_
  refine SOps.nil ?_
  rcases cond_out h with ⟨g4, h⟩ | ⟨g4, h⟩
  · refine SCode.cond_t rfl g4 ?_
    refine SCode.seq ?_
    refine SCode.region (show SOps _ _ _ [0, 1] _ _ from ?_)
    refine SOps.q rfl (.plain rfl) rfl (q_assign rfl rfl) ?_
    refine SOps.q rfl (.plain rfl) rfl (q_assign rfl rfl) ?_
    refine SOps.sub (st' := ⟨[(10, .c (.raw (.slice none 0 0))), (11, .c (.int .i64 2))], []⟩) (sub_gen [] rfl rfl ⟨zc rfl rfl, zc rfl rfl, trivial⟩ trivial) ?_
    refine SOps.nil ?_
    refine SCode.ret ?_
    obtain rfl := Option.some.inj h
    exact ⟨⟨[(10, .c (.vec (([] : List SStep)).length 2 (gL cSStep dSStep (([] : List SStep))))), (11, .c (.int .i64 2))], []⟩, _, sub_gen [] rfl rfl ⟨⟨_, rfl, .inr (.inr (.inr (.inl ⟨_, _, rfl, rfl⟩)))⟩, zc rfl rfl, trivial⟩ trivial, resA2 (v1 := .c (.vec (([] : List SStep)).length 2 (gL cSStep dSStep (([] : List SStep))))) (v2 := .c (.int .i64 2)) rfl rfl rfl, rfl⟩
  refine SCode.cond_f rfl g4 ?_
  refine SCode.skip ?_
  refine SCode.seq ?_
  obtain ⟨c_5, g6, h⟩ := bind_out h
  try dsimp only at h
  refine SCode.region (show SOps _ _ _ [0, 1, 2, 3, 4] _ _ from ?_)
  refine SOps.q rfl (.plain rfl) rfl (q_move rfl rfl) ?_
  refine SOps.q rfl (.plain rfl) rfl (q_move rfl rfl) ?_
  refine SOps.q rfl (.plain rfl) rfl (q_move rfl rfl) ?_
  refine SOps.q rfl (.plain rfl) rfl (q_call (compose_candidates_ok F a0_l a1_conn a2_txn c_5 g6) [] rfl fn23 ⟨⟨_, rfl, .inl ⟨rfl, rfl⟩⟩, ⟨_, rfl, .inl ⟨rfl, rfl⟩⟩, ⟨_, rfl, .inl ⟨rfl, rfl⟩⟩, trivial⟩ (.inl rfl)) ?_
  refine SOps.q rfl (.plain rfl) rfl (q_assign rfl rfl) ?_
  refine SOps.sub (st' := ⟨[(3, .c (.int .i64 a3_start)), (9, .c (.ptr 0 0)), (12, .c (.vec c_5.length 11 (gL cSProfile dSProfile c_5)))], [.box [.int .i64 a4_s.From, .int .i64 a4_s.To]]⟩) (sub_gen [0] rfl rfl ⟨zc rfl rfl, zc rfl rfl, zc rfl rfl, trivial⟩ ⟨⟨_, rfl, ⟨ii rfl rfl, ii rfl rfl, trivial⟩⟩, trivial⟩) ?_
  refine SOps.nil ?_
  refine SCode.seq ?_
  refine SCode.region (show SOps _ _ _ [0] _ _ from ?_)
  refine SOps.q rfl (.plain rfl) rfl (q_assign rfl rfl) ?_
  refine SOps.nilArrL (T := 46) (k := 2) cSStep dSStep (s := 13) rfl rfl ?_
  refine SOps.sub (st' := ⟨[(3, .c (.int .i64 a3_start)), (9, .c (.ptr 0 0)), (12, .c (.vec c_5.length 11 (gL cSProfile dSProfile c_5))), (13, .c (.own 1 (([] : List SStep)).length))], [.box [.int .i64 a4_s.From, .int .i64 a4_s.To], .arr 46 2 (([] : List SStep)).length (gL cSStep dSStep (([] : List SStep)))]⟩) (sub_gen [0, 1] rfl rfl ⟨zc rfl rfl, zc rfl rfl, zc rfl rfl, zc rfl rfl, trivial⟩ ⟨⟨_, rfl, ⟨ii rfl rfl, ii rfl rfl, trivial⟩⟩, oa rfl, trivial⟩) ?_
  refine SOps.nil ?_
  refine SCode.join (σ := (List SStep)) (S := fun s => ⟨[(13, .c (.own 0 s.length))], [.arr 46 2 s.length (gL cSStep dSStep s)]⟩) (g := fun s => compose_Series_p8 s = some r) ?_ ?_
  rotate_left
  · refine SCode.seq ?_
    refine SCode.region (show SOps _ _ _ [0, 1, 2] _ _ from ?_)
    refine SOps.q rfl (.plain rfl) rfl (q_field_ptr rfl rfl fd28_0) ?_
    refine SOps.q rfl (.plain rfl) rfl (q_load_ptr rfl rfl rfl rfl ty3) ?_
    refine SOps.q rfl (.plain rfl) rfl (q_assign rfl rfl) ?_
    refine SOps.sub (st' := ⟨[(3, .c (.int .i64 a3_start)), (9, .c (.ptr 0 0)), (12, .c (.vec c_5.length 11 (gL cSProfile dSProfile c_5))), (13, .c (.own 1 (([] : List SStep)).length)), (14, .c (.int .i64 a4_s.From))], [.box [.int .i64 a4_s.From, .int .i64 a4_s.To], .arr 46 2 (([] : List SStep)).length (gL cSStep dSStep (([] : List SStep)))]⟩) (sub_gen [0, 1] rfl rfl ⟨zc rfl rfl, zc rfl rfl, zc rfl rfl, zc rfl rfl, zc rfl rfl, trivial⟩ ⟨⟨_, rfl, ⟨ii rfl rfl, ii rfl rfl, trivial⟩⟩, oa rfl, trivial⟩) ?_
    refine SOps.nil ?_
    refine SCode.block ?_
    refine SCode.sub (st' := ⟨[(3, .c (.int .i64 a3_start)), (9, .c (.ptr 0 0)), (12, .c (.vec c_5.length 11 (gL cSProfile dSProfile c_5))), (13, .c (.own 1 ([] : List SStep).length)), (14, .c (.int .i64 a4_s.From))], [.box [.int .i64 a4_s.From, .int .i64 a4_s.To], .arr 46 2 ([] : List SStep).length (gL cSStep dSStep ([] : List SStep))]⟩) (sub_gen [0, 1] rfl rfl ⟨zc rfl rfl, zc rfl rfl, zc rfl rfl, zc rfl rfl, zc rfl rfl, trivial⟩ ⟨⟨_, rfl, ⟨ii rfl rfl, ii rfl rfl, trivial⟩⟩, oa rfl, trivial⟩) ?_
    refine (SCode.loop (σ := Nat × (Int × (List SStep))) (S := fun s => ⟨[(3, .c (.int .i64 a3_start)), (9, .c (.ptr 0 0)), (12, .c (.vec c_5.length 11 (gL cSProfile dSProfile c_5))), (13, .c (.own 1 s.2.2.length)), (14, .c (.int .i64 s.2.1))], [.box [.int .i64 a4_s.From, .int .i64 a4_s.To], .arr 46 2 s.2.2.length (gL cSStep dSStep s.2.2)]⟩) (g := fun s => compose_Series_l27 F a3_start a4_s c_5 s.1 s.2.1 s.2.2 = some r) (μ := fun s => s.1) (F, (a4_s.From, ([] : List SStep))) h ?_)
    rintro ⟨n_27, ⟨t_17, o1_18⟩⟩ h
    replace h : compose_Series_l27 F a3_start a4_s c_5 n_27 t_17 o1_18 = some r := h
    show SCode _ _ _ ⟨[(3, .c (.int .i64 a3_start)), (9, .c (.ptr 0 0)), (12, .c (.vec c_5.length 11 (gL cSProfile dSProfile c_5))), (13, .c (.own 1 o1_18.length)), (14, .c (.int .i64 t_17))], [.box [.int .i64 a4_s.From, .int .i64 a4_s.To], .arr 46 2 o1_18.length (gL cSStep dSStep o1_18)]⟩ _
    cases n_27 with
    | zero => cases h
    | succ n_27 =>
      replace h : compose_Series_b27 F a3_start a4_s c_5 (fun t_17 o1_18 => compose_Series_l27 F a3_start a4_s c_5 n_27 t_17 o1_18) t_17 o1_18 = some r := h
      unfold compose_Series_b27 at h
      refine SCode.seq ?_
      refine SCode.seq ?_
      rcases cond_out h with ⟨g28, h⟩ | ⟨g28, h⟩
      · refine SCode.region (show SOps _ _ _ [0, 1, 2, 3, 4, 5, 6, 7] _ _ from ?_)
        refine SOps.q rfl (.plain rfl) rfl (q_move rfl rfl) ?_
        refine SOps.q rfl (.plain rfl) rfl (q_geq rfl rfl rfl) ?_
        refine SOps.q rfl (.plain rfl) rfl (q_move rfl rfl) ?_
        refine SOps.q rfl (.guard 2 46 true rfl rfl (gT g28)) rfl (q_move rfl rfl) ?_
        refine SOps.q rfl (.guard 2 46 true rfl rfl (gT g28)) rfl (q_field_ptr rfl rfl fd28_1) ?_
        refine SOps.q rfl (.guard 2 46 true rfl rfl (gT g28)) rfl (q_load_ptr rfl rfl rfl rfl ty3) ?_
        refine SOps.q rfl (.guard 2 46 true rfl rfl (gT g28)) rfl (q_lss rfl rfl rfl) ?_
        refine SOps.q rfl (.plain rfl) rfl (q_pick_t rfl rfl g28 rfl) ?_
        refine SOps.sub (st' := ⟨[(3, .c (.int .i64 a3_start)), (9, .c (.ptr 0 0)), (12, .c (.vec c_5.length 11 (gL cSProfile dSProfile c_5))), (13, .c (.own 1 o1_18.length)), (14, .c (.int .i64 t_17)), (51, .c (.bool (decide (t_17 < a4_s.To))))], [.box [.int .i64 a4_s.From, .int .i64 a4_s.To], .arr 46 2 o1_18.length (gL cSStep dSStep o1_18)]⟩) (sub_gen [0, 1] rfl rfl ⟨zc rfl rfl, zc rfl rfl, zc rfl rfl, zc rfl rfl, zc rfl rfl, zc rfl rfl, trivial⟩ ⟨⟨_, rfl, ⟨ii rfl rfl, ii rfl rfl, trivial⟩⟩, oa rfl, trivial⟩) ?_
        refine SOps.nil ?_
        rcases cond_out h with ⟨g29, h⟩ | ⟨g29, h⟩
        · refine SCode.cond_t rfl g29 ?_
          refine SCode.skip ?_
          refine SCode.seq ?_
          refine SCode.block ?_
          refine SCode.seq ?_
          refine SCode.seq ?_
          refine SCode.region (show SOps _ _ _ [0, 1, 2] _ _ from ?_)
          refine SOps.q rfl (.plain rfl) rfl (q_move rfl rfl) ?_
          refine SOps.q rfl (.plain rfl) rfl (q_len_own rfl rfl sl41) ?_
          refine SOps.q rfl (.plain rfl) rfl (q_eql rfl rfl rfl) ?_
          refine SOps.sub (st' := ⟨[(3, .c (.int .i64 a3_start)), (9, .c (.ptr 0 0)), (12, .c (.vec c_5.length 11 (gL cSProfile dSProfile c_5))), (13, .c (.own 1 o1_18.length)), (14, .c (.int .i64 t_17)), (61, .c (.bool (decide (((o1_18).length : Int) = 512))))], [.box [.int .i64 a4_s.From, .int .i64 a4_s.To], .arr 46 2 o1_18.length (gL cSStep dSStep o1_18)]⟩) (sub_gen [0, 1] rfl rfl ⟨zc rfl rfl, zc rfl rfl, zc rfl rfl, zc rfl rfl, zc rfl rfl, zc rfl rfl, trivial⟩ ⟨⟨_, rfl, ⟨ii rfl rfl, ii rfl rfl, trivial⟩⟩, oa rfl, trivial⟩) ?_
          refine SOps.nil ?_
          rcases cond_out h with ⟨g30, h⟩ | ⟨g30, h⟩
          · refine SCode.cond_t rfl g30 ?_
            refine SCode.seq ?_
            refine SCode.region (show SOps _ _ _ [0, 1] _ _ from ?_)
            refine SOps.q rfl (.plain rfl) rfl (q_assign rfl rfl) ?_
            refine SOps.q rfl (.plain rfl) rfl (q_assign rfl rfl) ?_
            refine SOps.sub (st' := ⟨[(10, .c (.raw (.slice none 0 0))), (11, .c (.int .i64 3))], []⟩) (sub_gen [] rfl rfl ⟨zc rfl rfl, zc rfl rfl, trivial⟩ trivial) ?_
            refine SOps.nil ?_
            refine SCode.ret ?_
            obtain rfl := Option.some.inj h
            exact ⟨⟨[(10, .c (.vec (([] : List SStep)).length 2 (gL cSStep dSStep (([] : List SStep))))), (11, .c (.int .i64 3))], []⟩, _, sub_gen [] rfl rfl ⟨⟨_, rfl, .inr (.inr (.inr (.inl ⟨_, _, rfl, rfl⟩)))⟩, zc rfl rfl, trivial⟩ trivial, resA2 (v1 := .c (.vec (([] : List SStep)).length 2 (gL cSStep dSStep (([] : List SStep))))) (v2 := .c (.int .i64 3)) rfl rfl rfl, rfl⟩
          refine SCode.cond_f rfl g30 ?_
          refine SCode.skip ?_
          obtain ⟨c_31, g32, h⟩ := bind_out h
          try dsimp only at h
          obtain ⟨g33, h⟩ := guard_out h
          refine SCode.region (show SOps _ _ _ [0, 1, 2, 3, 4, 5, 6, 7, 8, 9] _ _ from ?_)
          refine SOps.q rfl (.plain rfl) rfl (q_move rfl rfl) ?_
          refine SOps.q rfl (.plain rfl) rfl (q_move rfl rfl) ?_
          refine SOps.q rfl (.plain rfl) rfl (q_move rfl rfl) ?_
          refine SOps.q rfl (.plain rfl) rfl (q_move rfl rfl) ?_
          refine SOps.q rfl (.plain rfl) rfl (q_move rfl rfl) ?_
          refine SOps.q rfl (.plain rfl) rfl (q_call (compose_limit_ok F c_5 a3_start t_17 c_31 g32) [] rfl fn22 ⟨⟨_, rfl, .inl ⟨rfl, rfl⟩⟩, ⟨_, rfl, .inl ⟨rfl, rfl⟩⟩, ⟨_, rfl, .inl ⟨rfl, rfl⟩⟩, trivial⟩ (.inl rfl)) ?_
          refine SOps.q rfl (.plain rfl) rfl (q_build2 rfl rfl pl46 rfl) ?_
          refine SOps.q rfl (.plain rfl) rfl (q_bsliceL (c := cSStep) (d0 := dSStep) [SStep.mk t_17 c_31] rfl rfl sl41 z46 rfl rfl rfl rfl rfl rfl rfl) ?_
          refine SOps.e rfl (.plain rfl) (e_appendL (c := cSStep) (d0 := dSStep) (l := o1_18) (l2 := [SStep.mk t_17 c_31]) rfl rfl rfl rfl rfl rfl (.inl rfl) sl41 z46 rfl rfl oneSStep g33.1 g33.2) ?_
          refine SOps.q rfl (.plain rfl) rfl (q_assign rfl rfl) ?_
          refine SOps.sub (st' := ⟨[(3, .c (.int .i64 a3_start)), (9, .c (.ptr 0 0)), (12, .c (.vec c_5.length 11 (gL cSProfile dSProfile c_5))), (13, .c (.own 1 (o1_18 ++ ([SStep.mk t_17 c_31])).length)), (14, .c (.int .i64 t_17))], [.box [.int .i64 a4_s.From, .int .i64 a4_s.To], .arr 46 2 (o1_18 ++ ([SStep.mk t_17 c_31])).length (gL cSStep dSStep (o1_18 ++ ([SStep.mk t_17 c_31])))]⟩) (sub_gen [0, 2] rfl rfl ⟨zc rfl rfl, zc rfl rfl, zc rfl rfl, zc rfl rfl, zc rfl rfl, trivial⟩ ⟨⟨_, rfl, ⟨ii rfl rfl, ii rfl rfl, trivial⟩⟩, oa rfl, trivial⟩) ?_
          refine SOps.nil ?_
          obtain ⟨c_34, g35, h⟩ := bind_out h
          try dsimp only at h
          refine SCode.region (show SOps _ _ _ [0, 1, 2, 3, 4, 5, 6, 7] _ _ from ?_)
          refine SOps.q rfl (.plain rfl) rfl (q_move rfl rfl) ?_
          refine SOps.q rfl (.plain rfl) rfl (q_move rfl rfl) ?_
          refine SOps.q rfl (.plain rfl) rfl (q_move rfl rfl) ?_
          refine SOps.q rfl (.plain rfl) rfl (q_field_ptr rfl rfl fd28_1) ?_
          refine SOps.q rfl (.plain rfl) rfl (q_load_ptr rfl rfl rfl rfl ty3) ?_
          refine SOps.q rfl (.plain rfl) rfl (q_sub rfl rfl rfl) ?_
          refine SOps.q rfl (.plain rfl) rfl (q_call (compose_next_ok F c_5 a3_start t_17 (IntKind.wrap .i64 (a4_s.To - 1)) c_34 g35) [] rfl fn26 ⟨⟨_, rfl, .inl ⟨rfl, rfl⟩⟩, ⟨_, rfl, .inl ⟨rfl, rfl⟩⟩, ⟨_, rfl, .inl ⟨rfl, rfl⟩⟩, ⟨_, rfl, .inl ⟨rfl, rfl⟩⟩, trivial⟩ (.inl rfl)) ?_
          refine SOps.q rfl (.plain rfl) rfl (q_assign rfl rfl) ?_
          refine SOps.sub (st' := ⟨[(3, .c (.int .i64 a3_start)), (9, .c (.ptr 0 0)), (12, .c (.vec c_5.length 11 (gL cSProfile dSProfile c_5))), (13, .c (.own 1 (o1_18 ++ ([SStep.mk t_17 c_31])).length)), (14, .c (.int .i64 c_34))], [.box [.int .i64 a4_s.From, .int .i64 a4_s.To], .arr 46 2 (o1_18 ++ ([SStep.mk t_17 c_31])).length (gL cSStep dSStep (o1_18 ++ ([SStep.mk t_17 c_31])))]⟩) (sub_gen [0, 1] rfl rfl ⟨zc rfl rfl, zc rfl rfl, zc rfl rfl, zc rfl rfl, zc rfl rfl, trivial⟩ ⟨⟨_, rfl, ⟨ii rfl rfl, ii rfl rfl, trivial⟩⟩, oa rfl, trivial⟩) ?_
          refine SOps.nil ?_
          exact ⟨(n_27, (c_34, o1_18 ++ ([SStep.mk t_17 c_31]))), h, Nat.lt_succ_self n_27, sub_gen [0, 1] rfl rfl ⟨zc rfl rfl, zc rfl rfl, zc rfl rfl, zc rfl rfl, zc rfl rfl, trivial⟩ ⟨⟨_, rfl, ⟨ii rfl rfl, ii rfl rfl, trivial⟩⟩, oa rfl, trivial⟩⟩
        refine SCode.cond_f rfl g29 ?_
        refine SCode.exit ?_
        exact ⟨o1_18, h, sub_gen [1] rfl rfl ⟨zc rfl rfl, trivial⟩ ⟨oa rfl, trivial⟩⟩
      refine SCode.region (show SOps _ _ _ [0, 1, 2, 3, 4, 5, 6, 7] _ _ from ?_)
      refine SOps.q rfl (.plain rfl) rfl (q_move rfl rfl) ?_
      refine SOps.q rfl (.plain rfl) rfl (q_geq rfl rfl rfl) ?_
      refine SOps.q rfl (.plain rfl) rfl (q_move rfl rfl) ?_
      refine SOps.skip rfl 2 46 true rfl rfl (.inl (gF g28)) rfl ?_
      refine SOps.skip rfl 2 46 true rfl rfl (.inl (gF g28)) rfl ?_
      refine SOps.skip rfl 2 46 true rfl rfl (.inl (gF g28)) rfl ?_
      refine SOps.skip rfl 2 46 true rfl rfl (.inl (gF g28)) rfl ?_
      refine SOps.q rfl (.plain rfl) rfl (q_pick_f rfl rfl g28 rfl) ?_
      refine SOps.sub (st' := ⟨[(3, .c (.int .i64 a3_start)), (9, .c (.ptr 0 0)), (12, .c (.vec c_5.length 11 (gL cSProfile dSProfile c_5))), (13, .c (.own 1 o1_18.length)), (14, .c (.int .i64 t_17)), (51, .c (.bool false))], [.box [.int .i64 a4_s.From, .int .i64 a4_s.To], .arr 46 2 o1_18.length (gL cSStep dSStep o1_18)]⟩) (sub_gen [0, 1] rfl rfl ⟨zc rfl rfl, zc rfl rfl, zc rfl rfl, zc rfl rfl, zc rfl rfl, zc rfl rfl, trivial⟩ ⟨⟨_, rfl, ⟨ii rfl rfl, ii rfl rfl, trivial⟩⟩, oa rfl, trivial⟩) ?_
      refine SOps.nil ?_
      refine SCode.cond_f rfl rfl ?_
      refine SCode.exit ?_
      exact ⟨o1_18, h, sub_gen [1] rfl rfl ⟨zc rfl rfl, trivial⟩ ⟨oa rfl, trivial⟩⟩
  rintro o0_7 h
  show SCode _ _ _ ⟨[(13, .c (.own 0 o0_7.length))], [.arr 46 2 o0_7.length (gL cSStep dSStep o0_7)]⟩ _
  replace h : compose_Series_p8 o0_7 = some r := h
  unfold compose_Series_p8 at h
  refine SCode.seq ?_
  refine SCode.region (show SOps _ _ _ [0, 1, 2] _ _ from ?_)
  refine SOps.q rfl (.plain rfl) rfl (q_move rfl rfl) ?_
  refine SOps.q rfl (.plain rfl) rfl (q_assign rfl rfl) ?_
  refine SOps.q rfl (.plain rfl) rfl (q_assign rfl rfl) ?_
  refine SOps.sub (st' := ⟨[(10, .c (.own 0 o0_7.length)), (11, .c (.int .i64 0))], [.arr 46 2 o0_7.length (gL cSStep dSStep o0_7)]⟩) (sub_gen [0] rfl rfl ⟨zc rfl rfl, zc rfl rfl, trivial⟩ ⟨oa rfl, trivial⟩) ?_
  refine SOps.nil ?_
  refine SCode.ret ?_
  obtain rfl := Option.some.inj h
  exact ⟨⟨[(10, .c (.vec o0_7.length 2 (gL cSStep dSStep o0_7))), (11, .c (.int .i64 0))], []⟩, _, sub_gen [] rfl rfl ⟨⟨_, rfl, .inr (.inl ⟨_, _, _, _, _, _, _, rfl, rfl, rfl, Nat.le_refl _, fun _ _ _ _ => rfl, by decide⟩)⟩, zc rfl rfl, trivial⟩ trivial, resA2 (v1 := .c (.vec o0_7.length 2 (gL cSStep dSStep o0_7))) (v2 := .c (.int .i64 0)) rfl rfl rfl, rfl⟩
set_option maxRecDepth 100000 in
set_option maxHeartbeats 8000000 in
theorem chargenetref15_cycle_ok (F : Nat) (a0_kind : Int) (r : Int) (h : chargenetref15_cycle F a0_kind = some r) :
    SFun Try.prog 31 [] [.c (.int .i64 a0_kind)] (fun x _ => x = .c (.int .i64 r)) := by
  refine SFun.of (n := 8) Try.func31 rfl rfl rfl ?_
  unfold chargenetref15_cycle at h
  show SCode _ _ _ ⟨[(0, .c (.int .i64 a0_kind))], []⟩ _
  refine SCode.seq ?_
  refine SCode.region (show SOps _ _ _ [0] _ _ from ?_)
  refine SOps.q rfl (.plain rfl) rfl (q_assign rfl rfl) ?_
  refine SOps.sub (st' := ⟨[(0, .c (.int .i64 a0_kind))], []⟩) (sub_gen [] rfl rfl ⟨zc rfl rfl, trivial⟩ trivial) ?_
  refine SOps.nil ?_
  refine SCode.seq ?_
  refine SCode.seq ?_
  refine SCode.region (show SOps _ _ _ [0] _ _ from ?_)
  refine SOps.q rfl (.plain rfl) rfl (q_move rfl rfl) ?_
  refine SOps.sub (st' := ⟨[(3, .c (.int .i64 a0_kind))], []⟩) (sub_gen [] rfl rfl ⟨zc rfl rfl, trivial⟩ trivial) ?_
  refine SOps.nil ?_
  refine SCode.block ?_
  refine SCode.seq ?_
  refine SCode.region (show SOps _ _ _ [0, 1] _ _ from ?_)
  refine SOps.q rfl (.plain rfl) rfl (q_eql rfl rfl rfl) ?_
  refine SOps.q rfl (.plain rfl) rfl (q_assign rfl rfl) ?_
  refine SOps.sub (st' := ⟨[(3, .c (.int .i64 a0_kind)), (4, .c (.bool (decide (a0_kind = 2))))], []⟩) (sub_gen [] rfl rfl ⟨zc rfl rfl, zc rfl rfl, trivial⟩ trivial) ?_
  refine SOps.nil ?_
  rcases cond_out h with ⟨g1, h⟩ | ⟨g1, h⟩
  · refine SCode.cond_t rfl g1 ?_
    refine SCode.seq ?_
    refine SCode.region (show SOps _ _ _ [0] _ _ from ?_)
    refine SOps.q rfl (.plain rfl) rfl (q_assign rfl rfl) ?_
    refine SOps.sub (st' := ⟨[(2, .c (.int .i64 1440))], []⟩) (sub_gen [] rfl rfl ⟨zc rfl rfl, trivial⟩ trivial) ?_
    refine SOps.nil ?_
    refine SCode.ret ?_
    obtain rfl := Option.some.inj h
    exact ⟨⟨[(2, .c (.int .i64 1440))], []⟩, _, sub_gen [] rfl rfl ⟨zc rfl rfl, trivial⟩ trivial, resA1 (v := .c (.int .i64 1440)) rfl rfl, rfl⟩
  refine SCode.cond_f rfl g1 ?_
  refine SCode.seq ?_
  refine SCode.region (show SOps _ _ _ [0, 1] _ _ from ?_)
  refine SOps.q rfl (.plain rfl) rfl (q_eql rfl rfl rfl) ?_
  refine SOps.q rfl (.plain rfl) rfl (q_assign rfl rfl) ?_
  refine SOps.sub (st' := ⟨[(6, .c (.bool (decide (a0_kind = 3))))], []⟩) (sub_gen [] rfl rfl ⟨zc rfl rfl, trivial⟩ trivial) ?_
  refine SOps.nil ?_
  rcases cond_out h with ⟨g2, h⟩ | ⟨g2, h⟩
  · refine SCode.cond_t rfl g2 ?_
    refine SCode.seq ?_
    refine SCode.region (show SOps _ _ _ [0] _ _ from ?_)
    refine SOps.q rfl (.plain rfl) rfl (q_assign rfl rfl) ?_
    refine SOps.sub (st' := ⟨[(2, .c (.int .i64 10080))], []⟩) (sub_gen [] rfl rfl ⟨zc rfl rfl, trivial⟩ trivial) ?_
    refine SOps.nil ?_
    refine SCode.ret ?_
    obtain rfl := Option.some.inj h
    exact ⟨⟨[(2, .c (.int .i64 10080))], []⟩, _, sub_gen [] rfl rfl ⟨zc rfl rfl, trivial⟩ trivial, resA1 (v := .c (.int .i64 10080)) rfl rfl, rfl⟩
  refine SCode.cond_f rfl g2 ?_
  refine SCode.skip ?_
  refine SCode.seq ?_
  refine SCode.region (show SOps _ _ _ [0] _ _ from ?_)
  refine SOps.q rfl (.plain rfl) rfl (q_assign rfl rfl) ?_
  refine SOps.sub (st' := ⟨[(2, .c (.int .i64 0))], []⟩) (sub_gen [] rfl rfl ⟨zc rfl rfl, trivial⟩ trivial) ?_
  refine SOps.nil ?_
  refine SCode.ret ?_
  obtain rfl := Option.some.inj h
  exact ⟨⟨[(2, .c (.int .i64 0))], []⟩, _, sub_gen [] rfl rfl ⟨zc rfl rfl, trivial⟩ trivial, resA1 (v := .c (.int .i64 0)) rfl rfl, rfl⟩
set_option maxRecDepth 100000 in
set_option maxHeartbeats 8000000 in
theorem chargenetref15_origin_ok (F : Nat) (a0_p : SProfile) (a1_start : Int) (a2_t : Int) (r : Int × Bool) (h : chargenetref15_origin F a0_p a1_start a2_t = some r) :
    SFun Try.prog 21 [] [.a [.int .i64 a0_p.ID, .int .i64 a0_p.Level, .int .i64 a0_p.Purpose, .int .i64 a0_p.Kind, .int .i64 a0_p.Conn, .str a0_p.Txn, .int .i64 a0_p.Span_From, .int .i64 a0_p.Span_To, .int .i64 a0_p.Start, .int .i64 a0_p.Duration, .vec a0_p.Periods.length 2 (gL cSPeriod dSPeriod a0_p.Periods)], .c (.int .i64 a1_start), .c (.int .i64 a2_t)] (fun x _ => x = .t [.c (.int .i64 r.1), .c (.bool r.2)]) := by
  refine SFun.of (n := 32) Try.func21 rfl rfl rfl ?_
  unfold chargenetref15_origin at h
  show SCode _ _ _ ⟨[(0, .a [.int .i64 a0_p.ID, .int .i64 a0_p.Level, .int .i64 a0_p.Purpose, .int .i64 a0_p.Kind, .int .i64 a0_p.Conn, .str a0_p.Txn, .int .i64 a0_p.Span_From, .int .i64 a0_p.Span_To, .int .i64 a0_p.Start, .int .i64 a0_p.Duration, .vec a0_p.Periods.length 2 (gL cSPeriod dSPeriod a0_p.Periods)]), (1, .c (.int .i64 a1_start)), (2, .c (.int .i64 a2_t))], []⟩ _
  refine SCode.seq ?_
  refine SCode.region (show SOps _ _ _ [0, 1, 2] _ _ from ?_)
  refine SOps.e rfl (.plain rfl) (e_box rfl rfl rfl rfl rfl rfl) ?_
  refine SOps.q rfl (.plain rfl) rfl (q_assign rfl rfl) ?_
  refine SOps.q rfl (.plain rfl) rfl (q_assign rfl rfl) ?_
  refine SOps.sub (st' := ⟨[(1, .c (.int .i64 a1_start)), (2, .c (.int .i64 a2_t)), (3, .c (.ptr 0 0))], [.box [.int .i64 a0_p.ID, .int .i64 a0_p.Level, .int .i64 a0_p.Purpose, .int .i64 a0_p.Kind, .int .i64 a0_p.Conn, .str a0_p.Txn, .int .i64 a0_p.Span_From, .int .i64 a0_p.Span_To, .int .i64 a0_p.Start, .int .i64 a0_p.Duration, .vec a0_p.Periods.length 2 (gL cSPeriod dSPeriod a0_p.Periods)]]⟩) (sub_gen [0] rfl rfl ⟨zc rfl rfl, zc rfl rfl, zc rfl rfl, trivial⟩ ⟨⟨_, rfl, ⟨ii rfl rfl, ii rfl rfl, ii rfl rfl, ii rfl rfl, ii rfl rfl, ii rfl rfl, ii rfl rfl, ii rfl rfl, ii rfl rfl, ii rfl rfl, ii rfl rfl, trivial⟩⟩, trivial⟩) ?_
  refine SOps.nil ?_
  refine SCode.seq ?_
  refine SCode.region (show SOps _ _ _ [0, 1, 2] _ _ from ?_)
  refine SOps.q rfl (.plain rfl) rfl (q_field_ptr rfl rfl fd31_7) ?_
  refine SOps.q rfl (.plain rfl) rfl (q_load_ptr rfl rfl rfl rfl ty3) ?_
  refine SOps.q rfl (.plain rfl) rfl (q_assign rfl rfl) ?_
  refine SOps.sub (st' := ⟨[(1, .c (.int .i64 a1_start)), (2, .c (.int .i64 a2_t)), (3, .c (.ptr 0 0)), (8, .c (.int .i64 a0_p.Start))], [.box [.int .i64 a0_p.ID, .int .i64 a0_p.Level, .int .i64 a0_p.Purpose, .int .i64 a0_p.Kind, .int .i64 a0_p.Conn, .str a0_p.Txn, .int .i64 a0_p.Span_From, .int .i64 a0_p.Span_To, .int .i64 a0_p.Start, .int .i64 a0_p.Duration, .vec a0_p.Periods.length 2 (gL cSPeriod dSPeriod a0_p.Periods)]]⟩) (sub_gen [0] rfl rfl ⟨zc rfl rfl, zc rfl rfl, zc rfl rfl, zc rfl rfl, trivial⟩ ⟨⟨_, rfl, ⟨ii rfl rfl, ii rfl rfl, ii rfl rfl, ii rfl rfl, ii rfl rfl, ii rfl rfl, ii rfl rfl, ii rfl rfl, ii rfl rfl, ii rfl rfl, ii rfl rfl, trivial⟩⟩, trivial⟩) ?_
  refine SOps.nil ?_
  refine SCode.join (σ := Int) (S := fun s => ⟨[(2, .c (.int .i64 a2_t)), (3, .c (.ptr 0 0)), (8, .c (.int .i64 s))], [.box [.int .i64 a0_p.ID, .int .i64 a0_p.Level, .int .i64 a0_p.Purpose, .int .i64 a0_p.Kind, .int .i64 a0_p.Conn, .str a0_p.Txn, .int .i64 a0_p.Span_From, .int .i64 a0_p.Span_To, .int .i64 a0_p.Start, .int .i64 a0_p.Duration, .vec a0_p.Periods.length 2 (gL cSPeriod dSPeriod a0_p.Periods)]]⟩) (g := fun s => chargenetref15_origin_p9 F a0_p a2_t s = some r) ?_ ?_
  rotate_left
  · refine SCode.seq ?_
    refine SCode.region (show SOps _ _ _ [0, 1, 2] _ _ from ?_)
    refine SOps.q rfl (.plain rfl) rfl (q_field_ptr rfl rfl fd31_3) ?_
    refine SOps.q rfl (.plain rfl) rfl (q_load_ptr rfl rfl rfl rfl ty3) ?_
    refine SOps.q rfl (.plain rfl) rfl (q_eql rfl rfl rfl) ?_
    refine SOps.sub (st' := ⟨[(1, .c (.int .i64 a1_start)), (2, .c (.int .i64 a2_t)), (3, .c (.ptr 0 0)), (8, .c (.int .i64 a0_p.Start)), (14, .c (.bool (decide (a0_p.Kind = 4))))], [.box [.int .i64 a0_p.ID, .int .i64 a0_p.Level, .int .i64 a0_p.Purpose, .int .i64 a0_p.Kind, .int .i64 a0_p.Conn, .str a0_p.Txn, .int .i64 a0_p.Span_From, .int .i64 a0_p.Span_To, .int .i64 a0_p.Start, .int .i64 a0_p.Duration, .vec a0_p.Periods.length 2 (gL cSPeriod dSPeriod a0_p.Periods)]]⟩) (sub_gen [0] rfl rfl ⟨zc rfl rfl, zc rfl rfl, zc rfl rfl, zc rfl rfl, zc rfl rfl, trivial⟩ ⟨⟨_, rfl, ⟨ii rfl rfl, ii rfl rfl, ii rfl rfl, ii rfl rfl, ii rfl rfl, ii rfl rfl, ii rfl rfl, ii rfl rfl, ii rfl rfl, ii rfl rfl, ii rfl rfl, trivial⟩⟩, trivial⟩) ?_
    refine SOps.nil ?_
    rcases cond_out h with ⟨g10, h⟩ | ⟨g10, h⟩
    · refine SCode.cond_t rfl g10 ?_
      refine SCode.region (show SOps _ _ _ [0, 1] _ _ from ?_)
      refine SOps.q rfl (.plain rfl) rfl (q_move rfl rfl) ?_
      refine SOps.q rfl (.plain rfl) rfl (q_assign rfl rfl) ?_
      refine SOps.sub (st' := ⟨[(2, .c (.int .i64 a2_t)), (3, .c (.ptr 0 0)), (8, .c (.int .i64 a1_start))], [.box [.int .i64 a0_p.ID, .int .i64 a0_p.Level, .int .i64 a0_p.Purpose, .int .i64 a0_p.Kind, .int .i64 a0_p.Conn, .str a0_p.Txn, .int .i64 a0_p.Span_From, .int .i64 a0_p.Span_To, .int .i64 a0_p.Start, .int .i64 a0_p.Duration, .vec a0_p.Periods.length 2 (gL cSPeriod dSPeriod a0_p.Periods)]]⟩) (sub_gen [0] rfl rfl ⟨zc rfl rfl, zc rfl rfl, zc rfl rfl, trivial⟩ ⟨⟨_, rfl, ⟨ii rfl rfl, ii rfl rfl, ii rfl rfl, ii rfl rfl, ii rfl rfl, ii rfl rfl, ii rfl rfl, ii rfl rfl, ii rfl rfl, ii rfl rfl, ii rfl rfl, trivial⟩⟩, trivial⟩) ?_
      refine SOps.nil ?_
      exact ⟨a1_start, h, sub_gen [0] rfl rfl ⟨zc rfl rfl, zc rfl rfl, zc rfl rfl, trivial⟩ ⟨⟨_, rfl, ⟨ii rfl rfl, ii rfl rfl, ii rfl rfl, ii rfl rfl, ii rfl rfl, ii rfl rfl, ii rfl rfl, ii rfl rfl, ii rfl rfl, ii rfl rfl, ii rfl rfl, trivial⟩⟩, trivial⟩⟩
    refine SCode.cond_f rfl g10 ?_
    refine SCode.skip ?_
    exact ⟨a0_p.Start, h, sub_gen [0] rfl rfl ⟨zc rfl rfl, zc rfl rfl, zc rfl rfl, trivial⟩ ⟨⟨_, rfl, ⟨ii rfl rfl, ii rfl rfl, ii rfl rfl, ii rfl rfl, ii rfl rfl, ii rfl rfl, ii rfl rfl, ii rfl rfl, ii rfl rfl, ii rfl rfl, ii rfl rfl, trivial⟩⟩, trivial⟩⟩
  rintro o_1 h
  show SCode _ _ _ ⟨[(2, .c (.int .i64 a2_t)), (3, .c (.ptr 0 0)), (8, .c (.int .i64 o_1))], [.box [.int .i64 a0_p.ID, .int .i64 a0_p.Level, .int .i64 a0_p.Purpose, .int .i64 a0_p.Kind, .int .i64 a0_p.Conn, .str a0_p.Txn, .int .i64 a0_p.Span_From, .int .i64 a0_p.Span_To, .int .i64 a0_p.Start, .int .i64 a0_p.Duration, .vec a0_p.Periods.length 2 (gL cSPeriod dSPeriod a0_p.Periods)]]⟩ _
  replace h : chargenetref15_origin_p9 F a0_p a2_t o_1 = some r := h
  unfold chargenetref15_origin_p9 at h
  refine SCode.seq ?_
  refine SCode.seq ?_
  refine SCode.region (show SOps _ _ _ [0, 1, 2] _ _ from ?_)
  refine SOps.q rfl (.plain rfl) rfl (q_move rfl rfl) ?_
  refine SOps.q rfl (.plain rfl) rfl (q_move rfl rfl) ?_
  refine SOps.q rfl (.plain rfl) rfl (q_gtr rfl rfl rfl) ?_
  refine SOps.sub (st' := ⟨[(2, .c (.int .i64 a2_t)), (3, .c (.ptr 0 0)), (8, .c (.int .i64 o_1)), (18, .c (.bool (decide (a2_t < o_1))))], [.box [.int .i64 a0_p.ID, .int .i64 a0_p.Level, .int .i64 a0_p.Purpose, .int .i64 a0_p.Kind, .int .i64 a0_p.Conn, .str a0_p.Txn, .int .i64 a0_p.Span_From, .int .i64 a0_p.Span_To, .int .i64 a0_p.Start, .int .i64 a0_p.Duration, .vec a0_p.Periods.length 2 (gL cSPeriod dSPeriod a0_p.Periods)]]⟩) (sub_gen [0] rfl rfl ⟨zc rfl rfl, zc rfl rfl, zc rfl rfl, zc rfl rfl, trivial⟩ ⟨⟨_, rfl, ⟨ii rfl rfl, ii rfl rfl, ii rfl rfl, ii rfl rfl, ii rfl rfl, ii rfl rfl, ii rfl rfl, ii rfl rfl, ii rfl rfl, ii rfl rfl, ii rfl rfl, trivial⟩⟩, trivial⟩) ?_
  refine SOps.nil ?_
  rcases cond_out h with ⟨g2, h⟩ | ⟨g2, h⟩
  · refine SCode.cond_t rfl g2 ?_
    refine SCode.seq ?_
    refine SCode.region (show SOps _ _ _ [0, 1] _ _ from ?_)
    refine SOps.q rfl (.plain rfl) rfl (q_assign rfl rfl) ?_
    refine SOps.q rfl (.plain rfl) rfl (q_assign rfl rfl) ?_
    refine SOps.sub (st' := ⟨[(6, .c (.int .i64 0)), (7, .c (.bool false))], []⟩) (sub_gen [] rfl rfl ⟨zc rfl rfl, zc rfl rfl, trivial⟩ trivial) ?_
    refine SOps.nil ?_
    refine SCode.ret ?_
    obtain rfl := Option.some.inj h
    exact ⟨⟨[(6, .c (.int .i64 0)), (7, .c (.bool false))], []⟩, _, sub_gen [] rfl rfl ⟨zc rfl rfl, zc rfl rfl, trivial⟩ trivial, resA2 (v1 := .c (.int .i64 0)) (v2 := .c (.bool false)) rfl rfl rfl, rfl⟩
  refine SCode.cond_f rfl g2 ?_
  refine SCode.skip ?_
  refine SCode.join (σ := Int) (S := fun s => ⟨[(8, .c (.int .i64 s))], []⟩) (g := fun s => chargenetref15_origin_p4 s = some r) ?_ ?_
  rotate_left
  · refine SCode.seq ?_
    obtain ⟨c_5, g6, h⟩ := bind_out h
    try dsimp only at h
    refine SCode.region (show SOps _ _ _ [0, 1, 2, 3] _ _ from ?_)
    refine SOps.q rfl (.plain rfl) rfl (q_field_ptr rfl rfl fd31_3) ?_
    refine SOps.q rfl (.plain rfl) rfl (q_load_ptr rfl rfl rfl rfl ty3) ?_
    refine SOps.q rfl (.plain rfl) rfl (q_call (chargenetref15_cycle_ok F a0_p.Kind c_5 g6) [] rfl fn31 ⟨⟨_, rfl, .inl ⟨rfl, rfl⟩⟩, trivial⟩ (.inl rfl)) ?_
    refine SOps.q rfl (.plain rfl) rfl (q_assign rfl rfl) ?_
    refine SOps.sub (st' := ⟨[(2, .c (.int .i64 a2_t)), (8, .c (.int .i64 o_1)), (9, .c (.int .i64 c_5))], []⟩) (sub_gen [] rfl rfl ⟨zc rfl rfl, zc rfl rfl, zc rfl rfl, trivial⟩ trivial) ?_
    refine SOps.nil ?_
    refine SCode.seq ?_
    refine SCode.region (show SOps _ _ _ [0, 1] _ _ from ?_)
    refine SOps.q rfl (.plain rfl) rfl (q_move rfl rfl) ?_
    refine SOps.q rfl (.plain rfl) rfl (q_gtr rfl rfl rfl) ?_
    refine SOps.sub (st' := ⟨[(2, .c (.int .i64 a2_t)), (8, .c (.int .i64 o_1)), (9, .c (.int .i64 c_5)), (23, .c (.bool (decide (0 < c_5))))], []⟩) (sub_gen [] rfl rfl ⟨zc rfl rfl, zc rfl rfl, zc rfl rfl, zc rfl rfl, trivial⟩ trivial) ?_
    refine SOps.nil ?_
    rcases cond_out h with ⟨g7, h⟩ | ⟨g7, h⟩
    · refine SCode.cond_t rfl g7 ?_
      obtain ⟨g8, h⟩ := guard_out h
      refine SCode.region (show SOps _ _ _ [0, 1, 2, 3, 4, 5, 6, 7] _ _ from ?_)
      refine SOps.q rfl (.plain rfl) rfl (q_move rfl rfl) ?_
      refine SOps.q rfl (.plain rfl) rfl (q_move rfl rfl) ?_
      refine SOps.q rfl (.plain rfl) rfl (q_move rfl rfl) ?_
      refine SOps.q rfl (.plain rfl) rfl (q_sub rfl rfl rfl) ?_
      refine SOps.q rfl (.plain rfl) rfl (q_move rfl rfl) ?_
      refine SOps.q rfl (.plain rfl) rfl (q_rem rfl rfl rfl g8) ?_
      refine SOps.q rfl (.plain rfl) rfl (q_sub rfl rfl rfl) ?_
      refine SOps.q rfl (.plain rfl) rfl (q_assign rfl rfl) ?_
      refine SOps.sub (st' := ⟨[(8, .c (.int .i64 (IntKind.wrap .i64 (a2_t - Int.tmod (IntKind.wrap .i64 (a2_t - o_1)) c_5))))], []⟩) (sub_gen [] rfl rfl ⟨zc rfl rfl, trivial⟩ trivial) ?_
      refine SOps.nil ?_
      exact ⟨IntKind.wrap .i64 (a2_t - Int.tmod (IntKind.wrap .i64 (a2_t - o_1)) c_5), h, sub_gen [] rfl rfl ⟨zc rfl rfl, trivial⟩ trivial⟩
    refine SCode.cond_f rfl g7 ?_
    refine SCode.skip ?_
    exact ⟨o_1, h, sub_gen [] rfl rfl ⟨zc rfl rfl, trivial⟩ trivial⟩
  rintro o_3 h
  show SCode _ _ _ ⟨[(8, .c (.int .i64 o_3))], []⟩ _
  replace h : chargenetref15_origin_p4 o_3 = some r := h
  unfold chargenetref15_origin_p4 at h
  refine SCode.seq ?_
  refine SCode.region (show SOps _ _ _ [0, 1, 2] _ _ from ?_)
  refine SOps.q rfl (.plain rfl) rfl (q_move rfl rfl) ?_
  refine SOps.q rfl (.plain rfl) rfl (q_assign rfl rfl) ?_
  refine SOps.q rfl (.plain rfl) rfl (q_assign rfl rfl) ?_
  refine SOps.sub (st' := ⟨[(6, .c (.int .i64 o_3)), (7, .c (.bool true))], []⟩) (sub_gen [] rfl rfl ⟨zc rfl rfl, zc rfl rfl, trivial⟩ trivial) ?_
  refine SOps.nil ?_
  refine SCode.ret ?_
  obtain rfl := Option.some.inj h
  exact ⟨⟨[(6, .c (.int .i64 o_3)), (7, .c (.bool true))], []⟩, _, sub_gen [] rfl rfl ⟨zc rfl rfl, zc rfl rfl, trivial⟩ trivial, resA2 (v1 := .c (.int .i64 o_3)) (v2 := .c (.bool true)) rfl rfl rfl, rfl⟩
end Go.Proofs.Ytjpooimkhkhgkaa.W
