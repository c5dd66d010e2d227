/- Written by a program of ours (wip/eng/gen.py): chargenet/cdr.isCurrency computes its model. -/
import Derived.Test.YtllifhmllicnhaaFacts
namespace Go.Proofs.Ytllifhmllicnhaa.W
open Go Go.Proofs Go.Proofs.Ytllifhmllicnhaa.E Go.Proofs.Ytllifhmllicnhaa.M
set_option linter.unusedVariables false
theorem cdr_isCurrency_ok (F : Nat) (a0_s : ByteArray) (r : Bool) (h : cdr_isCurrency F a0_s = some r) :
    SFun Try.prog 12 [] [.c (.str a0_s)] (fun x _ => x = .c (.bool r)) := by
  refine SFun.of (n := 23) Try.func12 rfl rfl rfl ?_
  unfold cdr_isCurrency at h
  show SCode _ _ _ ⟨[(0, .c (.str a0_s))], []⟩ _
  refine SCode.seq ?_
  refine SCode.region (show SOps _ _ _ [0] _ _ from ?_)
  refine SOps.q rfl (.plain rfl) rfl (q_assign rfl rfl) ?_
  refine SOps.sub (st' := ⟨[(0, .c (.str a0_s))], []⟩) (sub_gen [] rfl rfl ⟨⟨_, rfl, .inl ⟨rfl, rfl⟩⟩, trivial⟩ trivial) ?_
  refine SOps.nil ?_
  refine SCode.seq ?_
  refine SCode.seq ?_
  refine SCode.region (show SOps _ _ _ [0, 1, 2] _ _ from ?_)
  refine SOps.q rfl (.plain rfl) rfl (q_move rfl rfl) ?_
  refine SOps.q rfl (.plain rfl) rfl (q_len_str rfl rfl un9) ?_
  refine SOps.q rfl (.plain rfl) rfl (q_neq rfl rfl rfl) ?_
  refine SOps.sub (st' := ⟨[(0, .c (.str a0_s)), (6, .c (.bool ((!decide ((a0_s.size : Int) = 3)))))], []⟩) (sub_gen [] rfl rfl ⟨⟨_, rfl, .inl ⟨rfl, rfl⟩⟩, ⟨_, rfl, .inl ⟨rfl, rfl⟩⟩, trivial⟩ trivial) ?_
  refine SOps.nil ?_
  rcases cond_out h with ⟨g1, h⟩ | ⟨g1, h⟩
  · refine SCode.cond_t rfl g1 ?_
    refine SCode.seq ?_
    refine SCode.region (show SOps _ _ _ [0] _ _ from ?_)
    refine SOps.q rfl (.plain rfl) rfl (q_assign rfl rfl) ?_
    refine SOps.sub (st' := ⟨[(2, .c (.bool false))], []⟩) (sub_gen [] rfl rfl ⟨⟨_, rfl, .inl ⟨rfl, rfl⟩⟩, trivial⟩ trivial) ?_
    refine SOps.nil ?_
    refine SCode.ret ?_
    obtain rfl := Option.some.inj h
    exact ⟨⟨[(2, .c (.bool false))], []⟩, _, sub_gen [] rfl rfl ⟨⟨_, rfl, .inl ⟨rfl, rfl⟩⟩, trivial⟩ trivial, resA1 (v := .c (.bool false)) rfl rfl, rfl⟩
  · refine SCode.cond_f rfl g1 ?_
    refine SCode.skip ?_
    refine SCode.join (σ := Unit) (S := fun s => ⟨[], []⟩) (g := fun s => cdr_isCurrency_p2 = some r) ?_ ?_
    · rintro ⟨⟩ h
      show SCode _ _ _ ⟨[], []⟩ _
      replace h : cdr_isCurrency_p2 = some r := h
      unfold cdr_isCurrency_p2 at h
      refine SCode.seq ?_
      refine SCode.region (show SOps _ _ _ [0] _ _ from ?_)
      refine SOps.q rfl (.plain rfl) rfl (q_assign rfl rfl) ?_
      refine SOps.sub (st' := ⟨[(2, .c (.bool true))], []⟩) (sub_gen [] rfl rfl ⟨⟨_, rfl, .inl ⟨rfl, rfl⟩⟩, trivial⟩ trivial) ?_
      refine SOps.nil ?_
      refine SCode.ret ?_
      obtain rfl := Option.some.inj h
      exact ⟨⟨[(2, .c (.bool true))], []⟩, _, sub_gen [] rfl rfl ⟨⟨_, rfl, .inl ⟨rfl, rfl⟩⟩, trivial⟩ trivial, resA1 (v := .c (.bool true)) rfl rfl, rfl⟩
    · refine SCode.seq ?_
      refine SCode.region (show SOps _ _ _ [0, 1, 2] _ _ from ?_)
      refine SOps.q rfl (.plain rfl) rfl (q_move rfl rfl) ?_
      refine SOps.q rfl (.plain rfl) rfl (q_len_str rfl rfl un9) ?_
      refine SOps.q rfl (.plain rfl) rfl (q_move rfl rfl) ?_
      refine SOps.sub (st' := ⟨[(0, .c (.str a0_s)), (8, .c (.int .i64 ((a0_s.size : Int)))), (9, .c (.int .i64 0))], []⟩) (sub_gen [] rfl rfl ⟨⟨_, rfl, .inl ⟨rfl, rfl⟩⟩, ⟨_, rfl, .inl ⟨rfl, rfl⟩⟩, ⟨_, rfl, .inl ⟨rfl, rfl⟩⟩, trivial⟩ trivial) ?_
      refine SOps.nil ?_
      refine SCode.block ?_
      refine SCode.sub (st' := ⟨[(0, .c (.str a0_s)), (8, .c (.int .i64 ((a0_s.size : Int)))), (9, .c (.int .i64 0))], []⟩) (sub_gen [] rfl rfl ⟨⟨_, rfl, .inl ⟨rfl, rfl⟩⟩, ⟨_, rfl, .inl ⟨rfl, rfl⟩⟩, ⟨_, rfl, .inl ⟨rfl, rfl⟩⟩, trivial⟩ trivial) ?_
      refine (SCode.loop (σ := Nat × Int) (S := fun s => ⟨[(0, .c (.str a0_s)), (8, .c (.int .i64 ((a0_s.size : Int)))), (9, .c (.int .i64 s.2))], []⟩) (g := fun s => cdr_isCurrency_l14 a0_s s.1 s.2 = some r) (μ := fun s => s.1) (F, 0) h ?_)
      rintro ⟨n_14, t9_8⟩ h
      replace h : cdr_isCurrency_l14 a0_s n_14 t9_8 = some r := h
      show SCode _ _ _ ⟨[(0, .c (.str a0_s)), (8, .c (.int .i64 ((a0_s.size : Int)))), (9, .c (.int .i64 t9_8))], []⟩ _
      cases n_14 with
      | zero => cases h
      | succ n_14 =>
        replace h : cdr_isCurrency_b14 a0_s (fun t9_8 => cdr_isCurrency_l14 a0_s n_14 t9_8) t9_8 = some r := h
        unfold cdr_isCurrency_b14 at h
        refine SCode.seq ?_
        refine SCode.region (show SOps _ _ _ [0] _ _ from ?_)
        refine SOps.q rfl (.plain rfl) rfl (q_lss rfl rfl rfl) ?_
        refine SOps.sub (st' := ⟨[(0, .c (.str a0_s)), (8, .c (.int .i64 ((a0_s.size : Int)))), (9, .c (.int .i64 t9_8)), (10, .c (.bool (decide (t9_8 < (a0_s.size : Int)))))], []⟩) (sub_gen [] rfl rfl ⟨⟨_, rfl, .inl ⟨rfl, rfl⟩⟩, ⟨_, rfl, .inl ⟨rfl, rfl⟩⟩, ⟨_, rfl, .inl ⟨rfl, rfl⟩⟩, ⟨_, rfl, .inl ⟨rfl, rfl⟩⟩, trivial⟩ trivial) ?_
        refine SOps.nil ?_
        refine SCode.seq ?_
        rcases cond_out h with ⟨g15, h⟩ | ⟨g15, h⟩
        · refine SCode.cond_t rfl g15 ?_
          refine SCode.skip ?_
          refine SCode.seq ?_
          refine SCode.block ?_
          refine SCode.seq ?_
          refine SCode.region (show SOps _ _ _ [0, 1] _ _ from ?_)
          refine SOps.q rfl (.plain rfl) rfl (q_move rfl rfl) ?_
          refine SOps.q rfl (.plain rfl) rfl (q_assign rfl rfl) ?_
          refine SOps.sub (st' := ⟨[(0, .c (.str a0_s)), (3, .c (.int .i64 t9_8)), (8, .c (.int .i64 ((a0_s.size : Int)))), (9, .c (.int .i64 t9_8))], []⟩) (sub_gen [] rfl rfl ⟨⟨_, rfl, .inl ⟨rfl, rfl⟩⟩, ⟨_, rfl, .inl ⟨rfl, rfl⟩⟩, ⟨_, rfl, .inl ⟨rfl, rfl⟩⟩, ⟨_, rfl, .inl ⟨rfl, rfl⟩⟩, trivial⟩ trivial) ?_
          refine SOps.nil ?_
          refine SCode.seq ?_
          obtain ⟨g16, h⟩ := guard_out h
          rcases cond_out h with ⟨g17, h⟩ | ⟨g17, h⟩
          · refine SCode.region (show SOps _ _ _ [0, 1, 2, 3, 4, 5, 6, 7, 8, 9] _ _ from ?_)
            refine SOps.q rfl (.plain rfl) rfl (q_move rfl rfl) ?_
            refine SOps.q rfl (.plain rfl) rfl (q_move rfl rfl) ?_
            refine SOps.q rfl (.plain rfl) rfl (q_index_str rfl rfl rfl un9 g16.1 g16.2) ?_
            refine SOps.q rfl (.plain rfl) rfl (q_lss rfl rfl rfl) ?_
            refine SOps.q rfl (.plain rfl) rfl (q_move rfl rfl) ?_
            refine SOps.skip rfl 4 16 false rfl rfl (.inl (gT g17)) rfl ?_
            refine SOps.skip rfl 4 16 false rfl rfl (.inl (gT g17)) rfl ?_
            refine SOps.skip rfl 4 16 false rfl rfl (.inl (gT g17)) rfl ?_
            refine SOps.skip rfl 4 16 false rfl rfl (.inl (gT g17)) rfl ?_
            refine SOps.q rfl (.plain rfl) rfl (q_pick_t rfl rfl g17 rfl) ?_
            refine SOps.sub (st' := ⟨[(0, .c (.str a0_s)), (8, .c (.int .i64 ((a0_s.size : Int)))), (9, .c (.int .i64 t9_8)), (21, .c (.bool true))], []⟩) (sub_gen [] rfl rfl ⟨⟨_, rfl, .inl ⟨rfl, rfl⟩⟩, ⟨_, rfl, .inl ⟨rfl, rfl⟩⟩, ⟨_, rfl, .inl ⟨rfl, rfl⟩⟩, ⟨_, rfl, .inl ⟨rfl, rfl⟩⟩, trivial⟩ trivial) ?_
            refine SOps.nil ?_
            refine SCode.cond_t rfl rfl ?_
            refine SCode.seq ?_
            refine SCode.region (show SOps _ _ _ [0] _ _ from ?_)
            refine SOps.q rfl (.plain rfl) rfl (q_assign rfl rfl) ?_
            refine SOps.sub (st' := ⟨[(2, .c (.bool false))], []⟩) (sub_gen [] rfl rfl ⟨⟨_, rfl, .inl ⟨rfl, rfl⟩⟩, trivial⟩ trivial) ?_
            refine SOps.nil ?_
            refine SCode.ret ?_
            obtain rfl := Option.some.inj h
            exact ⟨⟨[(2, .c (.bool false))], []⟩, _, sub_gen [] rfl rfl ⟨⟨_, rfl, .inl ⟨rfl, rfl⟩⟩, trivial⟩ trivial, resA1 (v := .c (.bool false)) rfl rfl, rfl⟩
          · obtain ⟨g18, h⟩ := guard_out h
            refine SCode.region (show SOps _ _ _ [0, 1, 2, 3, 4, 5, 6, 7, 8, 9] _ _ from ?_)
            refine SOps.q rfl (.plain rfl) rfl (q_move rfl rfl) ?_
            refine SOps.q rfl (.plain rfl) rfl (q_move rfl rfl) ?_
            refine SOps.q rfl (.plain rfl) rfl (q_index_str rfl rfl rfl un9 g16.1 g16.2) ?_
            refine SOps.q rfl (.plain rfl) rfl (q_lss rfl rfl rfl) ?_
            refine SOps.q rfl (.plain rfl) rfl (q_move rfl rfl) ?_
            refine SOps.q rfl (.guard 4 16 false rfl rfl (gF g17)) rfl (q_move rfl rfl) ?_
            refine SOps.q rfl (.guard 4 16 false rfl rfl (gF g17)) rfl (q_move rfl rfl) ?_
            refine SOps.q rfl (.guard 4 16 false rfl rfl (gF g17)) rfl (q_index_str rfl rfl rfl un9 g18.1 g18.2) ?_
            refine SOps.q rfl (.guard 4 16 false rfl rfl (gF g17)) rfl (q_gtr rfl rfl rfl) ?_
            refine SOps.q rfl (.plain rfl) rfl (q_pick_f rfl rfl g17 rfl) ?_
            refine SOps.sub (st' := ⟨[(0, .c (.str a0_s)), (8, .c (.int .i64 ((a0_s.size : Int)))), (9, .c (.int .i64 t9_8)), (21, .c (.bool (decide (90 < sGet a0_s t9_8.toNat))))], []⟩) (sub_gen [] rfl rfl ⟨⟨_, rfl, .inl ⟨rfl, rfl⟩⟩, ⟨_, rfl, .inl ⟨rfl, rfl⟩⟩, ⟨_, rfl, .inl ⟨rfl, rfl⟩⟩, ⟨_, rfl, .inl ⟨rfl, rfl⟩⟩, trivial⟩ trivial) ?_
            refine SOps.nil ?_
            rcases cond_out h with ⟨g19, h⟩ | ⟨g19, h⟩
            · refine SCode.cond_t rfl g19 ?_
              refine SCode.seq ?_
              refine SCode.region (show SOps _ _ _ [0] _ _ from ?_)
              refine SOps.q rfl (.plain rfl) rfl (q_assign rfl rfl) ?_
              refine SOps.sub (st' := ⟨[(2, .c (.bool false))], []⟩) (sub_gen [] rfl rfl ⟨⟨_, rfl, .inl ⟨rfl, rfl⟩⟩, trivial⟩ trivial) ?_
              refine SOps.nil ?_
              refine SCode.ret ?_
              obtain rfl := Option.some.inj h
              exact ⟨⟨[(2, .c (.bool false))], []⟩, _, sub_gen [] rfl rfl ⟨⟨_, rfl, .inl ⟨rfl, rfl⟩⟩, trivial⟩ trivial, resA1 (v := .c (.bool false)) rfl rfl, rfl⟩
            · refine SCode.cond_f rfl g19 ?_
              refine SCode.skip ?_
              refine SCode.region (show SOps _ _ _ [0, 1] _ _ from ?_)
              refine SOps.q rfl (.plain rfl) rfl (q_add rfl rfl rfl) ?_
              refine SOps.q rfl (.plain rfl) rfl (q_move rfl rfl) ?_
              refine SOps.sub (st' := ⟨[(0, .c (.str a0_s)), (8, .c (.int .i64 ((a0_s.size : Int)))), (9, .c (.int .i64 (IntKind.wrap .i64 (t9_8 + 1))))], []⟩) (sub_gen [] rfl rfl ⟨⟨_, rfl, .inl ⟨rfl, rfl⟩⟩, ⟨_, rfl, .inl ⟨rfl, rfl⟩⟩, ⟨_, rfl, .inl ⟨rfl, rfl⟩⟩, trivial⟩ trivial) ?_
              refine SOps.nil ?_
              exact ⟨(n_14, IntKind.wrap .i64 (t9_8 + 1)), h, Nat.lt_succ_self n_14, sub_gen [] rfl rfl ⟨⟨_, rfl, .inl ⟨rfl, rfl⟩⟩, ⟨_, rfl, .inl ⟨rfl, rfl⟩⟩, ⟨_, rfl, .inl ⟨rfl, rfl⟩⟩, trivial⟩ trivial⟩
        · refine SCode.cond_f rfl g15 ?_
          refine SCode.exit ?_
          exact ⟨(), h, sub_gen [] rfl rfl trivial trivial⟩
end Go.Proofs.Ytllifhmllicnhaa.W
