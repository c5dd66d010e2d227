/- Written by a program of ours (wip/eng/gen.py): chargenet/cdr.validRef computes its model. -/
import Derived.Test.YtllifhmllicnhaaFacts
import Derived.Test.YtllifhmllicnhaaW9
namespace Go.Proofs.Ytllifhmllicnhaa.W
open Go Go.Proofs Go.Proofs.Ytllifhmllicnhaa.E Go.Proofs.Ytllifhmllicnhaa.M
set_option linter.unusedVariables false
theorem cdr_validRef_ok (F : Nat) (a0_c : SCDR) (r : Int) (h : cdr_validRef F a0_c = some r) :
    SFun Try.prog 14 [] [.a [.str a0_c.ID, .str a0_c.Operator, .str a0_c.Provider, .str a0_c.Session, .int .i64 a0_c.Version, .int .i64 a0_c.Start, .int .i64 a0_c.End, .int .i64 a0_c.Energy, .str a0_c.Tariff, .str a0_c.Currency, .vec a0_c.Items.length 7 (gL cSItem dSItem a0_c.Items), .int .i64 a0_c.Total, .bool a0_c.Credit, .str a0_c.Ref]] (fun x _ => x = .c (.int .i64 r)) := by
  refine SFun.of (n := 18) Try.func14 rfl rfl rfl ?_
  unfold cdr_validRef at h
  show SCode _ _ _ ⟨[(0, .a [.str a0_c.ID, .str a0_c.Operator, .str a0_c.Provider, .str a0_c.Session, .int .i64 a0_c.Version, .int .i64 a0_c.Start, .int .i64 a0_c.End, .int .i64 a0_c.Energy, .str a0_c.Tariff, .str a0_c.Currency, .vec a0_c.Items.length 7 (gL cSItem dSItem a0_c.Items), .int .i64 a0_c.Total, .bool a0_c.Credit, .str a0_c.Ref])], []⟩ _
  refine SCode.seq ?_
  refine SCode.region (show SOps _ _ _ [0, 1] _ _ from ?_)
  refine SOps.e rfl (.plain rfl) (e_box rfl rfl rfl rfl rfl rfl) ?_
  refine SOps.q rfl (.plain rfl) rfl (q_assign rfl rfl) ?_
  refine SOps.sub (st' := ⟨[(1, .c (.ptr 0 0))], [.box [.str a0_c.ID, .str a0_c.Operator, .str a0_c.Provider, .str a0_c.Session, .int .i64 a0_c.Version, .int .i64 a0_c.Start, .int .i64 a0_c.End, .int .i64 a0_c.Energy, .str a0_c.Tariff, .str a0_c.Currency, .vec a0_c.Items.length 7 (gL cSItem dSItem a0_c.Items), .int .i64 a0_c.Total, .bool a0_c.Credit, .str a0_c.Ref]]⟩) (sub_gen [0] rfl rfl ⟨⟨_, rfl, .inl ⟨rfl, rfl⟩⟩, trivial⟩ ⟨⟨_, rfl, ⟨.inl ⟨rfl, rfl⟩, .inl ⟨rfl, rfl⟩, .inl ⟨rfl, rfl⟩, .inl ⟨rfl, rfl⟩, .inl ⟨rfl, rfl⟩, .inl ⟨rfl, rfl⟩, .inl ⟨rfl, rfl⟩, .inl ⟨rfl, rfl⟩, .inl ⟨rfl, rfl⟩, .inl ⟨rfl, rfl⟩, .inl ⟨rfl, rfl⟩, .inl ⟨rfl, rfl⟩, .inl ⟨rfl, rfl⟩, .inl ⟨rfl, rfl⟩, trivial⟩⟩, trivial⟩) ?_
  refine SOps.nil ?_
  refine SCode.seq ?_
  refine SCode.seq ?_
  refine SCode.region (show SOps _ _ _ [0, 1, 2] _ _ from ?_)
  refine SOps.q rfl (.plain rfl) rfl (q_field_ptr rfl rfl fd25_12) ?_
  refine SOps.q rfl (.plain rfl) rfl (q_load_ptr rfl rfl rfl rfl ty4) ?_
  refine SOps.q rfl (.plain rfl) rfl (q_not rfl rfl) ?_
  refine SOps.sub (st' := ⟨[(1, .c (.ptr 0 0)), (5, .c (.bool ((!a0_c.Credit))))], [.box [.str a0_c.ID, .str a0_c.Operator, .str a0_c.Provider, .str a0_c.Session, .int .i64 a0_c.Version, .int .i64 a0_c.Start, .int .i64 a0_c.End, .int .i64 a0_c.Energy, .str a0_c.Tariff, .str a0_c.Currency, .vec a0_c.Items.length 7 (gL cSItem dSItem a0_c.Items), .int .i64 a0_c.Total, .bool a0_c.Credit, .str a0_c.Ref]]⟩) (sub_gen [0] rfl rfl ⟨⟨_, rfl, .inl ⟨rfl, rfl⟩⟩, ⟨_, rfl, .inl ⟨rfl, rfl⟩⟩, trivial⟩ ⟨⟨_, rfl, ⟨.inl ⟨rfl, rfl⟩, .inl ⟨rfl, rfl⟩, .inl ⟨rfl, rfl⟩, .inl ⟨rfl, rfl⟩, .inl ⟨rfl, rfl⟩, .inl ⟨rfl, rfl⟩, .inl ⟨rfl, rfl⟩, .inl ⟨rfl, rfl⟩, .inl ⟨rfl, rfl⟩, .inl ⟨rfl, rfl⟩, .inl ⟨rfl, rfl⟩, .inl ⟨rfl, rfl⟩, .inl ⟨rfl, rfl⟩, .inl ⟨rfl, rfl⟩, trivial⟩⟩, trivial⟩) ?_
  refine SOps.nil ?_
  rcases cond_out h with ⟨g1, h⟩ | ⟨g1, h⟩
  · refine SCode.cond_t rfl g1 ?_
    refine SCode.seq ?_
    refine SCode.seq ?_
    refine SCode.region (show SOps _ _ _ [0, 1, 2] _ _ from ?_)
    refine SOps.q rfl (.plain rfl) rfl (q_field_ptr rfl rfl fd25_13) ?_
    refine SOps.q rfl (.plain rfl) rfl (q_load_ptr rfl rfl rfl rfl ty9) ?_
    refine SOps.q rfl (.plain rfl) rfl (q_neqS rfl rfl rfl) ?_
    refine SOps.sub (st' := ⟨[(8, .c (.bool ((!(sEq a0_c.Ref ByteArray.empty)))))], []⟩) (sub_gen [] rfl rfl ⟨⟨_, rfl, .inl ⟨rfl, rfl⟩⟩, trivial⟩ trivial) ?_
    refine SOps.nil ?_
    rcases cond_out h with ⟨g2, h⟩ | ⟨g2, h⟩
    · refine SCode.cond_t rfl g2 ?_
      refine SCode.seq ?_
      refine SCode.region (show SOps _ _ _ [0] _ _ from ?_)
      refine SOps.q rfl (.plain rfl) rfl (q_assign rfl rfl) ?_
      refine SOps.sub (st' := ⟨[(2, .c (.int .i64 1))], []⟩) (sub_gen [] rfl rfl ⟨⟨_, rfl, .inl ⟨rfl, rfl⟩⟩, trivial⟩ trivial) ?_
      refine SOps.nil ?_
      refine SCode.ret ?_
      obtain rfl := Option.some.inj h
      exact ⟨⟨[(2, .c (.int .i64 1))], []⟩, _, sub_gen [] rfl rfl ⟨⟨_, rfl, .inl ⟨rfl, rfl⟩⟩, trivial⟩ trivial, resA1 (v := .c (.int .i64 1)) rfl rfl, rfl⟩
    · refine SCode.cond_f rfl g2 ?_
      refine SCode.skip ?_
      refine SCode.seq ?_
      refine SCode.region (show SOps _ _ _ [0] _ _ from ?_)
      refine SOps.q rfl (.plain rfl) rfl (q_assign rfl rfl) ?_
      refine SOps.sub (st' := ⟨[(2, .c (.int .i64 0))], []⟩) (sub_gen [] rfl rfl ⟨⟨_, rfl, .inl ⟨rfl, rfl⟩⟩, trivial⟩ trivial) ?_
      refine SOps.nil ?_
      refine SCode.ret ?_
      obtain rfl := Option.some.inj h
      exact ⟨⟨[(2, .c (.int .i64 0))], []⟩, _, sub_gen [] rfl rfl ⟨⟨_, rfl, .inl ⟨rfl, rfl⟩⟩, trivial⟩ trivial, resA1 (v := .c (.int .i64 0)) rfl rfl, rfl⟩
  · refine SCode.cond_f rfl g1 ?_
    refine SCode.skip ?_
    refine SCode.seq ?_
    refine SCode.seq ?_
    obtain ⟨c_3, g4, h⟩ := bind_out h
    try dsimp only at h
    refine SCode.region (show SOps _ _ _ [0, 1, 2, 3] _ _ from ?_)
    refine SOps.q rfl (.plain rfl) rfl (q_field_ptr rfl rfl fd25_13) ?_
    refine SOps.q rfl (.plain rfl) rfl (q_load_ptr rfl rfl rfl rfl ty9) ?_
    refine SOps.q rfl (.plain rfl) rfl (q_call (ident_Valid_ok F a0_c.Ref c_3 g4) [] rfl fn9 ⟨⟨_, rfl, .inl ⟨rfl, rfl⟩⟩, trivial⟩ (.inl rfl)) ?_
    refine SOps.q rfl (.plain rfl) rfl (q_not rfl rfl) ?_
    refine SOps.sub (st' := ⟨[(1, .c (.ptr 0 0)), (12, .c (.bool ((!c_3))))], [.box [.str a0_c.ID, .str a0_c.Operator, .str a0_c.Provider, .str a0_c.Session, .int .i64 a0_c.Version, .int .i64 a0_c.Start, .int .i64 a0_c.End, .int .i64 a0_c.Energy, .str a0_c.Tariff, .str a0_c.Currency, .vec a0_c.Items.length 7 (gL cSItem dSItem a0_c.Items), .int .i64 a0_c.Total, .bool a0_c.Credit, .str a0_c.Ref]]⟩) (sub_gen [0] rfl rfl ⟨⟨_, rfl, .inl ⟨rfl, rfl⟩⟩, ⟨_, rfl, .inl ⟨rfl, rfl⟩⟩, trivial⟩ ⟨⟨_, rfl, ⟨.inl ⟨rfl, rfl⟩, .inl ⟨rfl, rfl⟩, .inl ⟨rfl, rfl⟩, .inl ⟨rfl, rfl⟩, .inl ⟨rfl, rfl⟩, .inl ⟨rfl, rfl⟩, .inl ⟨rfl, rfl⟩, .inl ⟨rfl, rfl⟩, .inl ⟨rfl, rfl⟩, .inl ⟨rfl, rfl⟩, .inl ⟨rfl, rfl⟩, .inl ⟨rfl, rfl⟩, .inl ⟨rfl, rfl⟩, .inl ⟨rfl, rfl⟩, trivial⟩⟩, trivial⟩) ?_
    refine SOps.nil ?_
    rcases cond_out h with ⟨g5, h⟩ | ⟨g5, h⟩
    · refine SCode.cond_t rfl g5 ?_
      refine SCode.seq ?_
      refine SCode.region (show SOps _ _ _ [0] _ _ from ?_)
      refine SOps.q rfl (.plain rfl) rfl (q_assign rfl rfl) ?_
      refine SOps.sub (st' := ⟨[(2, .c (.int .i64 4))], []⟩) (sub_gen [] rfl rfl ⟨⟨_, rfl, .inl ⟨rfl, rfl⟩⟩, trivial⟩ trivial) ?_
      refine SOps.nil ?_
      refine SCode.ret ?_
      obtain rfl := Option.some.inj h
      exact ⟨⟨[(2, .c (.int .i64 4))], []⟩, _, sub_gen [] rfl rfl ⟨⟨_, rfl, .inl ⟨rfl, rfl⟩⟩, trivial⟩ trivial, resA1 (v := .c (.int .i64 4)) rfl rfl, rfl⟩
    · refine SCode.cond_f rfl g5 ?_
      refine SCode.skip ?_
      refine SCode.seq ?_
      refine SCode.seq ?_
      refine SCode.region (show SOps _ _ _ [0, 1, 2, 3, 4] _ _ from ?_)
      refine SOps.q rfl (.plain rfl) rfl (q_field_ptr rfl rfl fd25_13) ?_
      refine SOps.q rfl (.plain rfl) rfl (q_load_ptr rfl rfl rfl rfl ty9) ?_
      refine SOps.q rfl (.plain rfl) rfl (q_field_ptr rfl rfl fd25_0) ?_
      refine SOps.q rfl (.plain rfl) rfl (q_load_ptr rfl rfl rfl rfl ty9) ?_
      refine SOps.q rfl (.plain rfl) rfl (q_eqlS rfl rfl rfl) ?_
      refine SOps.sub (st' := ⟨[(17, .c (.bool (sEq a0_c.Ref a0_c.ID)))], []⟩) (sub_gen [] rfl rfl ⟨⟨_, rfl, .inl ⟨rfl, rfl⟩⟩, trivial⟩ trivial) ?_
      refine SOps.nil ?_
      rcases cond_out h with ⟨g6, h⟩ | ⟨g6, h⟩
      · refine SCode.cond_t rfl g6 ?_
        refine SCode.seq ?_
        refine SCode.region (show SOps _ _ _ [0] _ _ from ?_)
        refine SOps.q rfl (.plain rfl) rfl (q_assign rfl rfl) ?_
        refine SOps.sub (st' := ⟨[(2, .c (.int .i64 1))], []⟩) (sub_gen [] rfl rfl ⟨⟨_, rfl, .inl ⟨rfl, rfl⟩⟩, trivial⟩ trivial) ?_
        refine SOps.nil ?_
        refine SCode.ret ?_
        obtain rfl := Option.some.inj h
        exact ⟨⟨[(2, .c (.int .i64 1))], []⟩, _, sub_gen [] rfl rfl ⟨⟨_, rfl, .inl ⟨rfl, rfl⟩⟩, trivial⟩ trivial, resA1 (v := .c (.int .i64 1)) rfl rfl, rfl⟩
      · refine SCode.cond_f rfl g6 ?_
        refine SCode.skip ?_
        refine SCode.seq ?_
        refine SCode.region (show SOps _ _ _ [0] _ _ from ?_)
        refine SOps.q rfl (.plain rfl) rfl (q_assign rfl rfl) ?_
        refine SOps.sub (st' := ⟨[(2, .c (.int .i64 0))], []⟩) (sub_gen [] rfl rfl ⟨⟨_, rfl, .inl ⟨rfl, rfl⟩⟩, trivial⟩ trivial) ?_
        refine SOps.nil ?_
        refine SCode.ret ?_
        obtain rfl := Option.some.inj h
        exact ⟨⟨[(2, .c (.int .i64 0))], []⟩, _, sub_gen [] rfl rfl ⟨⟨_, rfl, .inl ⟨rfl, rfl⟩⟩, trivial⟩ trivial, resA1 (v := .c (.int .i64 0)) rfl rfl, rfl⟩
end Go.Proofs.Ytllifhmllicnhaa.W
