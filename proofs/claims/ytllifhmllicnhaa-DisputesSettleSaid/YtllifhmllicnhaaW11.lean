/- Written by a program of ours (wip/eng/gen.py): chargenet/cdr.within computes its model. -/
import Derived.Test.YtllifhmllicnhaaFacts
namespace Go.Proofs.Ytllifhmllicnhaa.W
open Go Go.Proofs Go.Proofs.Ytllifhmllicnhaa.E Go.Proofs.Ytllifhmllicnhaa.M
set_option linter.unusedVariables false
theorem cdr_within_ok (F : Nat) (a0_least : Int) (a1_most : Int) (a2_l : List Int) (r : Bool) (h : cdr_within F a0_least a1_most a2_l = some r) :
    SFun Try.prog 11 [] [.c (.int .i64 a0_least), .c (.int .i64 a1_most), .c (.vec a2_l.length 1 (gL (cInt .i64) 0 a2_l))] (fun x _ => x = .c (.bool r)) := by
  refine SFun.of (n := 24) Try.func11 rfl rfl rfl ?_
  unfold cdr_within at h
  show SCode _ _ _ ⟨[(0, .c (.int .i64 a0_least)), (1, .c (.int .i64 a1_most)), (2, .c (.vec a2_l.length 1 (gL (cInt .i64) 0 a2_l)))], []⟩ _
  refine SCode.seq ?_
  refine SCode.region (show SOps _ _ _ [0] _ _ from ?_)
  refine SOps.q rfl (.plain rfl) rfl (q_assign rfl rfl) ?_
  refine SOps.sub (st' := ⟨[(0, .c (.int .i64 a0_least)), (1, .c (.int .i64 a1_most)), (2, .c (.vec a2_l.length 1 (gL (cInt .i64) 0 a2_l)))], []⟩) (sub_gen [] rfl rfl ⟨⟨_, rfl, .inl ⟨rfl, rfl⟩⟩, ⟨_, rfl, .inl ⟨rfl, rfl⟩⟩, ⟨_, rfl, .inl ⟨rfl, rfl⟩⟩, trivial⟩ trivial) ?_
  refine SOps.nil ?_
  refine SCode.join (σ := Unit) (S := fun s => ⟨[], []⟩) (g := fun s => cdr_within_p1 = some r) ?_ ?_
  · rintro ⟨⟩ h
    show SCode _ _ _ ⟨[], []⟩ _
    replace h : cdr_within_p1 = some r := h
    unfold cdr_within_p1 at h
    refine SCode.seq ?_
    refine SCode.region (show SOps _ _ _ [0] _ _ from ?_)
    refine SOps.q rfl (.plain rfl) rfl (q_assign rfl rfl) ?_
    refine SOps.sub (st' := ⟨[(6, .c (.bool true))], []⟩) (sub_gen [] rfl rfl ⟨⟨_, rfl, .inl ⟨rfl, rfl⟩⟩, trivial⟩ trivial) ?_
    refine SOps.nil ?_
    refine SCode.ret ?_
    obtain rfl := Option.some.inj h
    exact ⟨⟨[(6, .c (.bool true))], []⟩, _, sub_gen [] rfl rfl ⟨⟨_, rfl, .inl ⟨rfl, rfl⟩⟩, trivial⟩ trivial, resA1 (v := .c (.bool true)) rfl rfl, rfl⟩
  · refine SCode.seq ?_
    refine SCode.region (show SOps _ _ _ [0, 1, 2] _ _ from ?_)
    refine SOps.q rfl (.plain rfl) rfl (q_move rfl rfl) ?_
    refine SOps.q rfl (.plain rfl) rfl (q_len_vec rfl rfl sl47) ?_
    refine SOps.q rfl (.plain rfl) rfl (q_move rfl rfl) ?_
    refine SOps.sub (st' := ⟨[(0, .c (.int .i64 a0_least)), (1, .c (.int .i64 a1_most)), (9, .c (.vec a2_l.length 1 (gL (cInt .i64) 0 a2_l))), (10, .c (.int .i64 (((a2_l).length : Int)))), (11, .c (.int .i64 0))], []⟩) (sub_gen [] rfl rfl ⟨⟨_, rfl, .inl ⟨rfl, rfl⟩⟩, ⟨_, rfl, .inl ⟨rfl, rfl⟩⟩, ⟨_, rfl, .inl ⟨rfl, rfl⟩⟩, ⟨_, rfl, .inl ⟨rfl, rfl⟩⟩, ⟨_, rfl, .inl ⟨rfl, rfl⟩⟩, trivial⟩ trivial) ?_
    refine SOps.nil ?_
    refine SCode.block ?_
    refine SCode.sub (st' := ⟨[(0, .c (.int .i64 a0_least)), (1, .c (.int .i64 a1_most)), (9, .c (.vec a2_l.length 1 (gL (cInt .i64) 0 a2_l))), (10, .c (.int .i64 (((a2_l).length : Int)))), (11, .c (.int .i64 0))], []⟩) (sub_gen [] rfl rfl ⟨⟨_, rfl, .inl ⟨rfl, rfl⟩⟩, ⟨_, rfl, .inl ⟨rfl, rfl⟩⟩, ⟨_, rfl, .inl ⟨rfl, rfl⟩⟩, ⟨_, rfl, .inl ⟨rfl, rfl⟩⟩, ⟨_, rfl, .inl ⟨rfl, rfl⟩⟩, trivial⟩ trivial) ?_
    refine (SCode.loop (σ := Nat × Int) (S := fun s => ⟨[(0, .c (.int .i64 a0_least)), (1, .c (.int .i64 a1_most)), (9, .c (.vec a2_l.length 1 (gL (cInt .i64) 0 a2_l))), (10, .c (.int .i64 (((a2_l).length : Int)))), (11, .c (.int .i64 s.2))], []⟩) (g := fun s => cdr_within_l11 a0_least a1_most a2_l s.1 s.2 = some r) (μ := fun s => s.1) (F, 0) h ?_)
    rintro ⟨n_11, t11_6⟩ h
    replace h : cdr_within_l11 a0_least a1_most a2_l n_11 t11_6 = some r := h
    show SCode _ _ _ ⟨[(0, .c (.int .i64 a0_least)), (1, .c (.int .i64 a1_most)), (9, .c (.vec a2_l.length 1 (gL (cInt .i64) 0 a2_l))), (10, .c (.int .i64 (((a2_l).length : Int)))), (11, .c (.int .i64 t11_6))], []⟩ _
    cases n_11 with
    | zero => cases h
    | succ n_11 =>
      replace h : cdr_within_b11 a0_least a1_most a2_l (fun t11_6 => cdr_within_l11 a0_least a1_most a2_l n_11 t11_6) t11_6 = some r := h
      unfold cdr_within_b11 at h
      refine SCode.seq ?_
      refine SCode.region (show SOps _ _ _ [0] _ _ from ?_)
      refine SOps.q rfl (.plain rfl) rfl (q_lss rfl rfl rfl) ?_
      refine SOps.sub (st' := ⟨[(0, .c (.int .i64 a0_least)), (1, .c (.int .i64 a1_most)), (9, .c (.vec a2_l.length 1 (gL (cInt .i64) 0 a2_l))), (10, .c (.int .i64 (((a2_l).length : Int)))), (11, .c (.int .i64 t11_6)), (12, .c (.bool (decide (t11_6 < ((a2_l).length : Int)))))], []⟩) (sub_gen [] rfl rfl ⟨⟨_, rfl, .inl ⟨rfl, rfl⟩⟩, ⟨_, rfl, .inl ⟨rfl, rfl⟩⟩, ⟨_, rfl, .inl ⟨rfl, rfl⟩⟩, ⟨_, rfl, .inl ⟨rfl, rfl⟩⟩, ⟨_, rfl, .inl ⟨rfl, rfl⟩⟩, ⟨_, rfl, .inl ⟨rfl, rfl⟩⟩, trivial⟩ trivial) ?_
      refine SOps.nil ?_
      refine SCode.seq ?_
      rcases cond_out h with ⟨g12, h⟩ | ⟨g12, h⟩
      · refine SCode.cond_t rfl g12 ?_
        refine SCode.skip ?_
        refine SCode.seq ?_
        refine SCode.block ?_
        refine SCode.seq ?_
        obtain ⟨g13, h⟩ := guard_out h
        refine SCode.region (show SOps _ _ _ [0, 1, 2] _ _ from ?_)
        refine SOps.q rfl (.plain rfl) rfl (q_index_vec rfl rfl rfl sl47 rfl g13.1 g13.2) ?_
        refine SOps.q rfl (.plain rfl) rfl (q_load_eptr rfl rfl ty3) ?_
        refine SOps.q rfl (.plain rfl) rfl (q_assign rfl rfl) ?_
        refine SOps.sub (st' := ⟨[(0, .c (.int .i64 a0_least)), (1, .c (.int .i64 a1_most)), (8, .c (.int .i64 (a2_l.getD t11_6.toNat 0))), (9, .c (.vec a2_l.length 1 (gL (cInt .i64) 0 a2_l))), (10, .c (.int .i64 (((a2_l).length : Int)))), (11, .c (.int .i64 t11_6))], []⟩) (sub_gen [] rfl rfl ⟨⟨_, rfl, .inl ⟨rfl, rfl⟩⟩, ⟨_, rfl, .inl ⟨rfl, rfl⟩⟩, ⟨_, rfl, .inl ⟨rfl, rfl⟩⟩, ⟨_, rfl, .inl ⟨rfl, rfl⟩⟩, ⟨_, rfl, .inl ⟨rfl, rfl⟩⟩, ⟨_, rfl, .inl ⟨rfl, rfl⟩⟩, trivial⟩ trivial) ?_
        refine SOps.nil ?_
        refine SCode.seq ?_
        rcases cond_out h with ⟨g14, h⟩ | ⟨g14, h⟩
        · refine SCode.region (show SOps _ _ _ [0, 1, 2, 3, 4, 5, 6, 7] _ _ from ?_)
          refine SOps.q rfl (.plain rfl) rfl (q_move rfl rfl) ?_
          refine SOps.q rfl (.plain rfl) rfl (q_move rfl rfl) ?_
          refine SOps.q rfl (.plain rfl) rfl (q_lss rfl rfl rfl) ?_
          refine SOps.q rfl (.plain rfl) rfl (q_move rfl rfl) ?_
          refine SOps.skip rfl 3 18 false rfl rfl (.inl (gT g14)) rfl ?_
          refine SOps.skip rfl 3 18 false rfl rfl (.inl (gT g14)) rfl ?_
          refine SOps.skip rfl 3 18 false rfl rfl (.inl (gT g14)) rfl ?_
          refine SOps.q rfl (.plain rfl) rfl (q_pick_t rfl rfl g14 rfl) ?_
          refine SOps.sub (st' := ⟨[(0, .c (.int .i64 a0_least)), (1, .c (.int .i64 a1_most)), (9, .c (.vec a2_l.length 1 (gL (cInt .i64) 0 a2_l))), (10, .c (.int .i64 (((a2_l).length : Int)))), (11, .c (.int .i64 t11_6)), (22, .c (.bool true))], []⟩) (sub_gen [] rfl rfl ⟨⟨_, rfl, .inl ⟨rfl, rfl⟩⟩, ⟨_, rfl, .inl ⟨rfl, rfl⟩⟩, ⟨_, rfl, .inl ⟨rfl, rfl⟩⟩, ⟨_, rfl, .inl ⟨rfl, rfl⟩⟩, ⟨_, rfl, .inl ⟨rfl, rfl⟩⟩, ⟨_, rfl, .inl ⟨rfl, rfl⟩⟩, trivial⟩ trivial) ?_
          refine SOps.nil ?_
          refine SCode.cond_t rfl rfl ?_
          refine SCode.seq ?_
          refine SCode.region (show SOps _ _ _ [0] _ _ from ?_)
          refine SOps.q rfl (.plain rfl) rfl (q_assign rfl rfl) ?_
          refine SOps.sub (st' := ⟨[(6, .c (.bool false))], []⟩) (sub_gen [] rfl rfl ⟨⟨_, rfl, .inl ⟨rfl, rfl⟩⟩, trivial⟩ trivial) ?_
          refine SOps.nil ?_
          refine SCode.ret ?_
          obtain rfl := Option.some.inj h
          exact ⟨⟨[(6, .c (.bool false))], []⟩, _, sub_gen [] rfl rfl ⟨⟨_, rfl, .inl ⟨rfl, rfl⟩⟩, trivial⟩ trivial, resA1 (v := .c (.bool false)) rfl rfl, rfl⟩
        · refine SCode.region (show SOps _ _ _ [0, 1, 2, 3, 4, 5, 6, 7] _ _ from ?_)
          refine SOps.q rfl (.plain rfl) rfl (q_move rfl rfl) ?_
          refine SOps.q rfl (.plain rfl) rfl (q_move rfl rfl) ?_
          refine SOps.q rfl (.plain rfl) rfl (q_lss rfl rfl rfl) ?_
          refine SOps.q rfl (.plain rfl) rfl (q_move rfl rfl) ?_
          refine SOps.q rfl (.guard 3 18 false rfl rfl (gF g14)) rfl (q_move rfl rfl) ?_
          refine SOps.q rfl (.guard 3 18 false rfl rfl (gF g14)) rfl (q_move rfl rfl) ?_
          refine SOps.q rfl (.guard 3 18 false rfl rfl (gF g14)) rfl (q_gtr rfl rfl rfl) ?_
          refine SOps.q rfl (.plain rfl) rfl (q_pick_f rfl rfl g14 rfl) ?_
          refine SOps.sub (st' := ⟨[(0, .c (.int .i64 a0_least)), (1, .c (.int .i64 a1_most)), (9, .c (.vec a2_l.length 1 (gL (cInt .i64) 0 a2_l))), (10, .c (.int .i64 (((a2_l).length : Int)))), (11, .c (.int .i64 t11_6)), (22, .c (.bool (decide (a1_most < a2_l.getD t11_6.toNat 0))))], []⟩) (sub_gen [] rfl rfl ⟨⟨_, rfl, .inl ⟨rfl, rfl⟩⟩, ⟨_, rfl, .inl ⟨rfl, rfl⟩⟩, ⟨_, rfl, .inl ⟨rfl, rfl⟩⟩, ⟨_, rfl, .inl ⟨rfl, rfl⟩⟩, ⟨_, rfl, .inl ⟨rfl, rfl⟩⟩, ⟨_, rfl, .inl ⟨rfl, rfl⟩⟩, trivial⟩ trivial) ?_
          refine SOps.nil ?_
          rcases cond_out h with ⟨g15, h⟩ | ⟨g15, h⟩
          · refine SCode.cond_t rfl g15 ?_
            refine SCode.seq ?_
            refine SCode.region (show SOps _ _ _ [0] _ _ from ?_)
            refine SOps.q rfl (.plain rfl) rfl (q_assign rfl rfl) ?_
            refine SOps.sub (st' := ⟨[(6, .c (.bool false))], []⟩) (sub_gen [] rfl rfl ⟨⟨_, rfl, .inl ⟨rfl, rfl⟩⟩, trivial⟩ trivial) ?_
            refine SOps.nil ?_
            refine SCode.ret ?_
            obtain rfl := Option.some.inj h
            exact ⟨⟨[(6, .c (.bool false))], []⟩, _, sub_gen [] rfl rfl ⟨⟨_, rfl, .inl ⟨rfl, rfl⟩⟩, trivial⟩ trivial, resA1 (v := .c (.bool false)) rfl rfl, rfl⟩
          · refine SCode.cond_f rfl g15 ?_
            refine SCode.skip ?_
            refine SCode.region (show SOps _ _ _ [0, 1] _ _ from ?_)
            refine SOps.q rfl (.plain rfl) rfl (q_add rfl rfl rfl) ?_
            refine SOps.q rfl (.plain rfl) rfl (q_move rfl rfl) ?_
            refine SOps.sub (st' := ⟨[(0, .c (.int .i64 a0_least)), (1, .c (.int .i64 a1_most)), (9, .c (.vec a2_l.length 1 (gL (cInt .i64) 0 a2_l))), (10, .c (.int .i64 (((a2_l).length : Int)))), (11, .c (.int .i64 (IntKind.wrap .i64 (t11_6 + 1))))], []⟩) (sub_gen [] rfl rfl ⟨⟨_, rfl, .inl ⟨rfl, rfl⟩⟩, ⟨_, rfl, .inl ⟨rfl, rfl⟩⟩, ⟨_, rfl, .inl ⟨rfl, rfl⟩⟩, ⟨_, rfl, .inl ⟨rfl, rfl⟩⟩, ⟨_, rfl, .inl ⟨rfl, rfl⟩⟩, trivial⟩ trivial) ?_
            refine SOps.nil ?_
            exact ⟨(n_11, IntKind.wrap .i64 (t11_6 + 1)), h, Nat.lt_succ_self n_11, sub_gen [] rfl rfl ⟨⟨_, rfl, .inl ⟨rfl, rfl⟩⟩, ⟨_, rfl, .inl ⟨rfl, rfl⟩⟩, ⟨_, rfl, .inl ⟨rfl, rfl⟩⟩, ⟨_, rfl, .inl ⟨rfl, rfl⟩⟩, ⟨_, rfl, .inl ⟨rfl, rfl⟩⟩, trivial⟩ trivial⟩
      · refine SCode.cond_f rfl g12 ?_
        refine SCode.exit ?_
        exact ⟨(), h, sub_gen [] rfl rfl trivial trivial⟩
end Go.Proofs.Ytllifhmllicnhaa.W
