/- Written by a program of ours (wip/eng/gen.py): chargenet/cdr.names computes its model. -/
import Derived.Test.YtllifhmllicnhaaFacts
import Derived.Test.YtllifhmllicnhaaW9
namespace Go.Proofs.Ytllifhmllicnhaa.W
open Go Go.Proofs Go.Proofs.Ytllifhmllicnhaa.E Go.Proofs.Ytllifhmllicnhaa.M
set_option linter.unusedVariables false
theorem cdr_names_ok (F : Nat) (a0_l : List ByteArray) (r : Int) (h : cdr_names F a0_l = some r) :
    SFun Try.prog 10 [] [.c (.vec a0_l.length 1 (gL cStr ByteArray.empty a0_l))] (fun x _ => x = .c (.int .i64 r)) := by
  refine SFun.of (n := 15) Try.func10 rfl rfl rfl ?_
  unfold cdr_names at h
  show SCode _ _ _ ⟨[(0, .c (.vec a0_l.length 1 (gL cStr ByteArray.empty a0_l)))], []⟩ _
  refine SCode.seq ?_
  refine SCode.region (show SOps _ _ _ [0] _ _ from ?_)
  refine SOps.q rfl (.plain rfl) rfl (q_assign rfl rfl) ?_
  refine SOps.sub (st' := ⟨[(0, .c (.vec a0_l.length 1 (gL cStr ByteArray.empty a0_l)))], []⟩) (sub_gen [] rfl rfl ⟨⟨_, rfl, .inl ⟨rfl, rfl⟩⟩, trivial⟩ trivial) ?_
  refine SOps.nil ?_
  refine SCode.join (σ := Unit) (S := fun s => ⟨[], []⟩) (g := fun s => cdr_names_p1 = some r) ?_ ?_
  · rintro ⟨⟩ h
    show SCode _ _ _ ⟨[], []⟩ _
    replace h : cdr_names_p1 = some r := h
    unfold cdr_names_p1 at h
    refine SCode.seq ?_
    refine SCode.region (show SOps _ _ _ [0] _ _ from ?_)
    refine SOps.q rfl (.plain rfl) rfl (q_assign rfl rfl) ?_
    refine SOps.sub (st' := ⟨[(2, .c (.int .i64 0))], []⟩) (sub_gen [] rfl rfl ⟨⟨_, rfl, .inl ⟨rfl, rfl⟩⟩, trivial⟩ trivial) ?_
    refine SOps.nil ?_
    refine SCode.ret ?_
    obtain rfl := Option.some.inj h
    exact ⟨⟨[(2, .c (.int .i64 0))], []⟩, _, sub_gen [] rfl rfl ⟨⟨_, rfl, .inl ⟨rfl, rfl⟩⟩, trivial⟩ trivial, resA1 (v := .c (.int .i64 0)) rfl rfl, rfl⟩
  · refine SCode.seq ?_
    refine SCode.region (show SOps _ _ _ [0, 1, 2] _ _ from ?_)
    refine SOps.q rfl (.plain rfl) rfl (q_move rfl rfl) ?_
    refine SOps.q rfl (.plain rfl) rfl (q_len_vec rfl rfl sl46) ?_
    refine SOps.q rfl (.plain rfl) rfl (q_move rfl rfl) ?_
    refine SOps.sub (st' := ⟨[(5, .c (.vec a0_l.length 1 (gL cStr ByteArray.empty a0_l))), (6, .c (.int .i64 (((a0_l).length : Int)))), (7, .c (.int .i64 0))], []⟩) (sub_gen [] rfl rfl ⟨⟨_, rfl, .inl ⟨rfl, rfl⟩⟩, ⟨_, rfl, .inl ⟨rfl, rfl⟩⟩, ⟨_, rfl, .inl ⟨rfl, rfl⟩⟩, trivial⟩ trivial) ?_
    refine SOps.nil ?_
    refine SCode.block ?_
    refine SCode.sub (st' := ⟨[(5, .c (.vec a0_l.length 1 (gL cStr ByteArray.empty a0_l))), (6, .c (.int .i64 (((a0_l).length : Int)))), (7, .c (.int .i64 0))], []⟩) (sub_gen [] rfl rfl ⟨⟨_, rfl, .inl ⟨rfl, rfl⟩⟩, ⟨_, rfl, .inl ⟨rfl, rfl⟩⟩, ⟨_, rfl, .inl ⟨rfl, rfl⟩⟩, trivial⟩ trivial) ?_
    refine (SCode.loop (σ := Nat × Int) (S := fun s => ⟨[(5, .c (.vec a0_l.length 1 (gL cStr ByteArray.empty a0_l))), (6, .c (.int .i64 (((a0_l).length : Int)))), (7, .c (.int .i64 s.2))], []⟩) (g := fun s => cdr_names_l13 F a0_l s.1 s.2 = some r) (μ := fun s => s.1) (F, 0) h ?_)
    rintro ⟨n_13, t7_7⟩ h
    replace h : cdr_names_l13 F a0_l n_13 t7_7 = some r := h
    show SCode _ _ _ ⟨[(5, .c (.vec a0_l.length 1 (gL cStr ByteArray.empty a0_l))), (6, .c (.int .i64 (((a0_l).length : Int)))), (7, .c (.int .i64 t7_7))], []⟩ _
    cases n_13 with
    | zero => cases h
    | succ n_13 =>
      replace h : cdr_names_b13 F a0_l (fun t7_7 => cdr_names_l13 F a0_l n_13 t7_7) t7_7 = some r := h
      unfold cdr_names_b13 at h
      refine SCode.seq ?_
      refine SCode.region (show SOps _ _ _ [0] _ _ from ?_)
      refine SOps.q rfl (.plain rfl) rfl (q_lss rfl rfl rfl) ?_
      refine SOps.sub (st' := ⟨[(5, .c (.vec a0_l.length 1 (gL cStr ByteArray.empty a0_l))), (6, .c (.int .i64 (((a0_l).length : Int)))), (7, .c (.int .i64 t7_7)), (8, .c (.bool (decide (t7_7 < ((a0_l).length : Int)))))], []⟩) (sub_gen [] rfl rfl ⟨⟨_, rfl, .inl ⟨rfl, rfl⟩⟩, ⟨_, rfl, .inl ⟨rfl, rfl⟩⟩, ⟨_, rfl, .inl ⟨rfl, rfl⟩⟩, ⟨_, rfl, .inl ⟨rfl, rfl⟩⟩, trivial⟩ trivial) ?_
      refine SOps.nil ?_
      refine SCode.seq ?_
      rcases cond_out h with ⟨g14, h⟩ | ⟨g14, h⟩
      · refine SCode.cond_t rfl g14 ?_
        refine SCode.skip ?_
        refine SCode.seq ?_
        refine SCode.block ?_
        refine SCode.seq ?_
        obtain ⟨g15, h⟩ := guard_out h
        refine SCode.region (show SOps _ _ _ [0, 1, 2] _ _ from ?_)
        refine SOps.q rfl (.plain rfl) rfl (q_index_vec rfl rfl rfl sl46 rfl g15.1 g15.2) ?_
        refine SOps.q rfl (.plain rfl) rfl (q_load_eptr rfl rfl ty9) ?_
        refine SOps.q rfl (.plain rfl) rfl (q_assign rfl rfl) ?_
        refine SOps.sub (st' := ⟨[(4, .c (.str (a0_l.getD t7_7.toNat ByteArray.empty))), (5, .c (.vec a0_l.length 1 (gL cStr ByteArray.empty a0_l))), (6, .c (.int .i64 (((a0_l).length : Int)))), (7, .c (.int .i64 t7_7))], []⟩) (sub_gen [] rfl rfl ⟨⟨_, rfl, .inl ⟨rfl, rfl⟩⟩, ⟨_, rfl, .inl ⟨rfl, rfl⟩⟩, ⟨_, rfl, .inl ⟨rfl, rfl⟩⟩, ⟨_, rfl, .inl ⟨rfl, rfl⟩⟩, trivial⟩ trivial) ?_
        refine SOps.nil ?_
        refine SCode.seq ?_
        obtain ⟨c_16, g17, h⟩ := bind_out h
        try dsimp only at h
        refine SCode.region (show SOps _ _ _ [0, 1, 2] _ _ from ?_)
        refine SOps.q rfl (.plain rfl) rfl (q_move rfl rfl) ?_
        refine SOps.q rfl (.plain rfl) rfl (q_call (ident_Valid_ok F (a0_l.getD t7_7.toNat ByteArray.empty) c_16 g17) [] rfl fn9 ⟨⟨_, rfl, .inl ⟨rfl, rfl⟩⟩, trivial⟩ (.inl rfl)) ?_
        refine SOps.q rfl (.plain rfl) rfl (q_not rfl rfl) ?_
        refine SOps.sub (st' := ⟨[(5, .c (.vec a0_l.length 1 (gL cStr ByteArray.empty a0_l))), (6, .c (.int .i64 (((a0_l).length : Int)))), (7, .c (.int .i64 t7_7)), (13, .c (.bool ((!c_16))))], []⟩) (sub_gen [] rfl rfl ⟨⟨_, rfl, .inl ⟨rfl, rfl⟩⟩, ⟨_, rfl, .inl ⟨rfl, rfl⟩⟩, ⟨_, rfl, .inl ⟨rfl, rfl⟩⟩, ⟨_, rfl, .inl ⟨rfl, rfl⟩⟩, trivial⟩ trivial) ?_
        refine SOps.nil ?_
        rcases cond_out h with ⟨g18, h⟩ | ⟨g18, h⟩
        · refine SCode.cond_t rfl g18 ?_
          refine SCode.seq ?_
          refine SCode.region (show SOps _ _ _ [0] _ _ from ?_)
          refine SOps.q rfl (.plain rfl) rfl (q_assign rfl rfl) ?_
          refine SOps.sub (st' := ⟨[(2, .c (.int .i64 4))], []⟩) (sub_gen [] rfl rfl ⟨⟨_, rfl, .inl ⟨rfl, rfl⟩⟩, trivial⟩ trivial) ?_
          refine SOps.nil ?_
          refine SCode.ret ?_
          obtain rfl := Option.some.inj h
          exact ⟨⟨[(2, .c (.int .i64 4))], []⟩, _, sub_gen [] rfl rfl ⟨⟨_, rfl, .inl ⟨rfl, rfl⟩⟩, trivial⟩ trivial, resA1 (v := .c (.int .i64 4)) rfl rfl, rfl⟩
        · refine SCode.cond_f rfl g18 ?_
          refine SCode.skip ?_
          refine SCode.region (show SOps _ _ _ [0, 1] _ _ from ?_)
          refine SOps.q rfl (.plain rfl) rfl (q_add rfl rfl rfl) ?_
          refine SOps.q rfl (.plain rfl) rfl (q_move rfl rfl) ?_
          refine SOps.sub (st' := ⟨[(5, .c (.vec a0_l.length 1 (gL cStr ByteArray.empty a0_l))), (6, .c (.int .i64 (((a0_l).length : Int)))), (7, .c (.int .i64 (IntKind.wrap .i64 (t7_7 + 1))))], []⟩) (sub_gen [] rfl rfl ⟨⟨_, rfl, .inl ⟨rfl, rfl⟩⟩, ⟨_, rfl, .inl ⟨rfl, rfl⟩⟩, ⟨_, rfl, .inl ⟨rfl, rfl⟩⟩, trivial⟩ trivial) ?_
          refine SOps.nil ?_
          exact ⟨(n_13, IntKind.wrap .i64 (t7_7 + 1)), h, Nat.lt_succ_self n_13, sub_gen [] rfl rfl ⟨⟨_, rfl, .inl ⟨rfl, rfl⟩⟩, ⟨_, rfl, .inl ⟨rfl, rfl⟩⟩, ⟨_, rfl, .inl ⟨rfl, rfl⟩⟩, trivial⟩ trivial⟩
      · refine SCode.cond_f rfl g14 ?_
        refine SCode.exit ?_
        exact ⟨(), h, sub_gen [] rfl rfl trivial trivial⟩
end Go.Proofs.Ytllifhmllicnhaa.W
