/- Written by a program of ours (wip/eng/gen.py): chargenet/cdr.Valid computes its model. -/
import Derived.Test.YtllifhmllicnhaaFacts
import Derived.Test.YtllifhmllicnhaaW10
import Derived.Test.YtllifhmllicnhaaW11
import Derived.Test.YtllifhmllicnhaaW12
import Derived.Test.YtllifhmllicnhaaW13
import Derived.Test.YtllifhmllicnhaaW14
namespace Go.Proofs.Ytllifhmllicnhaa.W
open Go Go.Proofs Go.Proofs.Ytllifhmllicnhaa.E Go.Proofs.Ytllifhmllicnhaa.M
set_option linter.unusedVariables false
theorem cdr_Valid_ok (F : Nat) (a0_c : SCDR) (r : Int) (h : cdr_Valid F a0_c = some r) :
    SFun Try.prog 8 [] [.a [.str a0_c.ID, .str a0_c.Operator, .str a0_c.Provider, .str a0_c.Session, .int .i64 a0_c.Version, .int .i64 a0_c.Start, .int .i64 a0_c.End, .int .i64 a0_c.Energy, .str a0_c.Tariff, .str a0_c.Currency, .vec a0_c.Items.length 7 (gL cSItem dSItem a0_c.Items), .int .i64 a0_c.Total, .bool a0_c.Credit, .str a0_c.Ref]] (fun x _ => x = .c (.int .i64 r)) := by
  refine SFun.of (n := 64) Try.func8 rfl rfl rfl ?_
  unfold cdr_Valid at h
  show SCode _ _ _ ⟨[(0, .a [.str a0_c.ID, .str a0_c.Operator, .str a0_c.Provider, .str a0_c.Session, .int .i64 a0_c.Version, .int .i64 a0_c.Start, .int .i64 a0_c.End, .int .i64 a0_c.Energy, .str a0_c.Tariff, .str a0_c.Currency, .vec a0_c.Items.length 7 (gL cSItem dSItem a0_c.Items), .int .i64 a0_c.Total, .bool a0_c.Credit, .str a0_c.Ref])], []⟩ _
  refine SCode.seq ?_
  refine SCode.region (show SOps _ _ _ [0, 1] _ _ from ?_)
  refine SOps.e rfl (.plain rfl) (e_box rfl rfl rfl rfl rfl rfl) ?_
  refine SOps.q rfl (.plain rfl) rfl (q_assign rfl rfl) ?_
  refine SOps.sub (st' := ⟨[(1, .c (.ptr 0 0))], [.box [.str a0_c.ID, .str a0_c.Operator, .str a0_c.Provider, .str a0_c.Session, .int .i64 a0_c.Version, .int .i64 a0_c.Start, .int .i64 a0_c.End, .int .i64 a0_c.Energy, .str a0_c.Tariff, .str a0_c.Currency, .vec a0_c.Items.length 7 (gL cSItem dSItem a0_c.Items), .int .i64 a0_c.Total, .bool a0_c.Credit, .str a0_c.Ref]]⟩) (sub_gen [0] rfl rfl ⟨⟨_, rfl, .inl ⟨rfl, rfl⟩⟩, trivial⟩ ⟨⟨_, rfl, ⟨.inl ⟨rfl, rfl⟩, .inl ⟨rfl, rfl⟩, .inl ⟨rfl, rfl⟩, .inl ⟨rfl, rfl⟩, .inl ⟨rfl, rfl⟩, .inl ⟨rfl, rfl⟩, .inl ⟨rfl, rfl⟩, .inl ⟨rfl, rfl⟩, .inl ⟨rfl, rfl⟩, .inl ⟨rfl, rfl⟩, .inl ⟨rfl, rfl⟩, .inl ⟨rfl, rfl⟩, .inl ⟨rfl, rfl⟩, .inl ⟨rfl, rfl⟩, trivial⟩⟩, trivial⟩) ?_
  refine SOps.nil ?_
  refine SCode.seq ?_
  refine SCode.seq ?_
  obtain ⟨c_1, g2, h⟩ := bind_out h
  try dsimp only at h
  refine SCode.region (show SOps _ _ _ [0, 1, 2, 3, 4, 5, 6, 7, 8, 9, 10, 11, 12] _ _ from ?_)
  refine SOps.q rfl (.plain rfl) rfl (q_field_ptr rfl rfl fd25_0) ?_
  refine SOps.q rfl (.plain rfl) rfl (q_load_ptr rfl rfl rfl rfl ty9) ?_
  refine SOps.q rfl (.plain rfl) rfl (q_field_ptr rfl rfl fd25_1) ?_
  refine SOps.q rfl (.plain rfl) rfl (q_load_ptr rfl rfl rfl rfl ty9) ?_
  refine SOps.q rfl (.plain rfl) rfl (q_field_ptr rfl rfl fd25_2) ?_
  refine SOps.q rfl (.plain rfl) rfl (q_load_ptr rfl rfl rfl rfl ty9) ?_
  refine SOps.q rfl (.plain rfl) rfl (q_field_ptr rfl rfl fd25_3) ?_
  refine SOps.q rfl (.plain rfl) rfl (q_load_ptr rfl rfl rfl rfl ty9) ?_
  refine SOps.q rfl (.plain rfl) rfl (q_field_ptr rfl rfl fd25_8) ?_
  refine SOps.q rfl (.plain rfl) rfl (q_load_ptr rfl rfl rfl rfl ty9) ?_
  refine SOps.q rfl (.plain rfl) rfl (q_bsliceL (c := cStr) (d0 := ByteArray.empty) [a0_c.ID, a0_c.Operator, a0_c.Provider, a0_c.Session, a0_c.Tariff] rfl rfl sl46 z9 rfl rfl rfl rfl rfl rfl rfl) ?_
  refine SOps.q rfl (.plain rfl) rfl (q_call (cdr_names_ok F ([a0_c.ID, a0_c.Operator, a0_c.Provider, a0_c.Session, a0_c.Tariff]) c_1 g2) [] rfl fn10 ⟨⟨_, rfl, .inl ⟨rfl, rfl⟩⟩, trivial⟩ (.inl rfl)) ?_
  refine SOps.q rfl (.plain rfl) rfl (q_assign rfl rfl) ?_
  refine SOps.sub (st' := ⟨[(1, .c (.ptr 0 0)), (3, .c (.int .i64 c_1))], [.box [.str a0_c.ID, .str a0_c.Operator, .str a0_c.Provider, .str a0_c.Session, .int .i64 a0_c.Version, .int .i64 a0_c.Start, .int .i64 a0_c.End, .int .i64 a0_c.Energy, .str a0_c.Tariff, .str a0_c.Currency, .vec a0_c.Items.length 7 (gL cSItem dSItem a0_c.Items), .int .i64 a0_c.Total, .bool a0_c.Credit, .str a0_c.Ref]]⟩) (sub_gen [0] rfl rfl ⟨⟨_, rfl, .inl ⟨rfl, rfl⟩⟩, ⟨_, rfl, .inl ⟨rfl, rfl⟩⟩, trivial⟩ ⟨⟨_, rfl, ⟨.inl ⟨rfl, rfl⟩, .inl ⟨rfl, rfl⟩, .inl ⟨rfl, rfl⟩, .inl ⟨rfl, rfl⟩, .inl ⟨rfl, rfl⟩, .inl ⟨rfl, rfl⟩, .inl ⟨rfl, rfl⟩, .inl ⟨rfl, rfl⟩, .inl ⟨rfl, rfl⟩, .inl ⟨rfl, rfl⟩, .inl ⟨rfl, rfl⟩, .inl ⟨rfl, rfl⟩, .inl ⟨rfl, rfl⟩, .inl ⟨rfl, rfl⟩, trivial⟩⟩, trivial⟩) ?_
  refine SOps.nil ?_
  refine SCode.seq ?_
  refine SCode.region (show SOps _ _ _ [0, 1] _ _ from ?_)
  refine SOps.q rfl (.plain rfl) rfl (q_move rfl rfl) ?_
  refine SOps.q rfl (.plain rfl) rfl (q_neq rfl rfl rfl) ?_
  refine SOps.sub (st' := ⟨[(1, .c (.ptr 0 0)), (3, .c (.int .i64 c_1)), (18, .c (.bool ((!decide (c_1 = 0)))))], [.box [.str a0_c.ID, .str a0_c.Operator, .str a0_c.Provider, .str a0_c.Session, .int .i64 a0_c.Version, .int .i64 a0_c.Start, .int .i64 a0_c.End, .int .i64 a0_c.Energy, .str a0_c.Tariff, .str a0_c.Currency, .vec a0_c.Items.length 7 (gL cSItem dSItem a0_c.Items), .int .i64 a0_c.Total, .bool a0_c.Credit, .str a0_c.Ref]]⟩) (sub_gen [0] rfl rfl ⟨⟨_, rfl, .inl ⟨rfl, rfl⟩⟩, ⟨_, rfl, .inl ⟨rfl, rfl⟩⟩, ⟨_, rfl, .inl ⟨rfl, rfl⟩⟩, trivial⟩ ⟨⟨_, rfl, ⟨.inl ⟨rfl, rfl⟩, .inl ⟨rfl, rfl⟩, .inl ⟨rfl, rfl⟩, .inl ⟨rfl, rfl⟩, .inl ⟨rfl, rfl⟩, .inl ⟨rfl, rfl⟩, .inl ⟨rfl, rfl⟩, .inl ⟨rfl, rfl⟩, .inl ⟨rfl, rfl⟩, .inl ⟨rfl, rfl⟩, .inl ⟨rfl, rfl⟩, .inl ⟨rfl, rfl⟩, .inl ⟨rfl, rfl⟩, .inl ⟨rfl, rfl⟩, trivial⟩⟩, trivial⟩) ?_
  refine SOps.nil ?_
  rcases cond_out h with ⟨g3, h⟩ | ⟨g3, h⟩
  · refine SCode.cond_t rfl g3 ?_
    refine SCode.seq ?_
    refine SCode.region (show SOps _ _ _ [0, 1] _ _ from ?_)
    refine SOps.q rfl (.plain rfl) rfl (q_move rfl rfl) ?_
    refine SOps.q rfl (.plain rfl) rfl (q_assign rfl rfl) ?_
    refine SOps.sub (st' := ⟨[(2, .c (.int .i64 c_1))], []⟩) (sub_gen [] rfl rfl ⟨⟨_, rfl, .inl ⟨rfl, rfl⟩⟩, trivial⟩ trivial) ?_
    refine SOps.nil ?_
    refine SCode.ret ?_
    obtain rfl := Option.some.inj h
    exact ⟨⟨[(2, .c (.int .i64 c_1))], []⟩, _, sub_gen [] rfl rfl ⟨⟨_, rfl, .inl ⟨rfl, rfl⟩⟩, trivial⟩ trivial, resA1 (v := .c (.int .i64 c_1)) rfl rfl, rfl⟩
  · refine SCode.cond_f rfl g3 ?_
    refine SCode.skip ?_
    refine SCode.seq ?_
    refine SCode.seq ?_
    refine SCode.region (show SOps _ _ _ [0, 1, 2, 3, 4] _ _ from ?_)
    refine SOps.q rfl (.plain rfl) rfl (q_field_ptr rfl rfl fd25_1) ?_
    refine SOps.q rfl (.plain rfl) rfl (q_load_ptr rfl rfl rfl rfl ty9) ?_
    refine SOps.q rfl (.plain rfl) rfl (q_field_ptr rfl rfl fd25_2) ?_
    refine SOps.q rfl (.plain rfl) rfl (q_load_ptr rfl rfl rfl rfl ty9) ?_
    refine SOps.q rfl (.plain rfl) rfl (q_eqlS rfl rfl rfl) ?_
    refine SOps.sub (st' := ⟨[(1, .c (.ptr 0 0)), (24, .c (.bool (sEq a0_c.Operator a0_c.Provider)))], [.box [.str a0_c.ID, .str a0_c.Operator, .str a0_c.Provider, .str a0_c.Session, .int .i64 a0_c.Version, .int .i64 a0_c.Start, .int .i64 a0_c.End, .int .i64 a0_c.Energy, .str a0_c.Tariff, .str a0_c.Currency, .vec a0_c.Items.length 7 (gL cSItem dSItem a0_c.Items), .int .i64 a0_c.Total, .bool a0_c.Credit, .str a0_c.Ref]]⟩) (sub_gen [0] rfl rfl ⟨⟨_, rfl, .inl ⟨rfl, rfl⟩⟩, ⟨_, rfl, .inl ⟨rfl, rfl⟩⟩, trivial⟩ ⟨⟨_, rfl, ⟨.inl ⟨rfl, rfl⟩, .inl ⟨rfl, rfl⟩, .inl ⟨rfl, rfl⟩, .inl ⟨rfl, rfl⟩, .inl ⟨rfl, rfl⟩, .inl ⟨rfl, rfl⟩, .inl ⟨rfl, rfl⟩, .inl ⟨rfl, rfl⟩, .inl ⟨rfl, rfl⟩, .inl ⟨rfl, rfl⟩, .inl ⟨rfl, rfl⟩, .inl ⟨rfl, rfl⟩, .inl ⟨rfl, rfl⟩, .inl ⟨rfl, rfl⟩, trivial⟩⟩, trivial⟩) ?_
    refine SOps.nil ?_
    rcases cond_out h with ⟨g4, h⟩ | ⟨g4, h⟩
    · refine SCode.cond_t rfl g4 ?_
      refine SCode.seq ?_
      refine SCode.region (show SOps _ _ _ [0] _ _ from ?_)
      refine SOps.q rfl (.plain rfl) rfl (q_assign rfl rfl) ?_
      refine SOps.sub (st' := ⟨[(2, .c (.int .i64 1))], []⟩) (sub_gen [] rfl rfl ⟨⟨_, rfl, .inl ⟨rfl, rfl⟩⟩, trivial⟩ trivial) ?_
      refine SOps.nil ?_
      refine SCode.ret ?_
      obtain rfl := Option.some.inj h
      exact ⟨⟨[(2, .c (.int .i64 1))], []⟩, _, sub_gen [] rfl rfl ⟨⟨_, rfl, .inl ⟨rfl, rfl⟩⟩, trivial⟩ trivial, resA1 (v := .c (.int .i64 1)) rfl rfl, rfl⟩
    · refine SCode.cond_f rfl g4 ?_
      refine SCode.skip ?_
      refine SCode.seq ?_
      refine SCode.seq ?_
      obtain ⟨c_5, g6, h⟩ := bind_out h
      try dsimp only at h
      rcases cond_out h with ⟨g7, h⟩ | ⟨g7, h⟩
      · refine SCode.region (show SOps _ _ _ [0, 1, 2, 3, 4, 5, 6, 7, 8, 9, 10, 11, 12, 13, 14, 15, 16, 17, 18, 19, 20, 21, 22, 23, 24, 25, 26, 27] _ _ from ?_)
        refine SOps.q rfl (.plain rfl) rfl (q_field_ptr rfl rfl fd25_4) ?_
        refine SOps.q rfl (.plain rfl) rfl (q_load_ptr rfl rfl rfl rfl ty3) ?_
        refine SOps.q rfl (.plain rfl) rfl (q_bsliceL (c := (cInt .i64)) (d0 := 0) [a0_c.Version] rfl rfl sl47 z3 rfl rfl rfl rfl rfl rfl rfl) ?_
        refine SOps.q rfl (.plain rfl) rfl (q_call (cdr_within_ok F 1 2147483647 ([a0_c.Version]) c_5 g6) [] rfl fn11 ⟨⟨_, rfl, .inl ⟨rfl, rfl⟩⟩, ⟨_, rfl, .inl ⟨rfl, rfl⟩⟩, ⟨_, rfl, .inl ⟨rfl, rfl⟩⟩, trivial⟩ (.inl rfl)) ?_
        refine SOps.q rfl (.plain rfl) rfl (q_not rfl rfl) ?_
        refine SOps.q rfl (.plain rfl) rfl (q_move rfl rfl) ?_
        refine SOps.skip rfl 5 30 false rfl rfl (.inl (gT g7)) rfl ?_
        refine SOps.skip rfl 5 30 false rfl rfl (.inl (gT g7)) rfl ?_
        refine SOps.skip rfl 5 30 false rfl rfl (.inl (gT g7)) rfl ?_
        refine SOps.skip rfl 5 30 false rfl rfl (.inl (gT g7)) rfl ?_
        refine SOps.skip rfl 5 30 false rfl rfl (.inl (gT g7)) rfl ?_
        refine SOps.skip rfl 5 30 false rfl rfl (.inl (gT g7)) rfl ?_
        refine SOps.skip rfl 5 30 false rfl rfl (.inl (gT g7)) rfl ?_
        refine SOps.q rfl (.plain rfl) rfl (q_pick_t rfl rfl g7 rfl) ?_
        refine SOps.q rfl (.plain rfl) rfl (q_move rfl rfl) ?_
        refine SOps.skip rfl 14 39 false rfl rfl (.inl rfl) rfl ?_
        refine SOps.skip rfl 14 39 false rfl rfl (.inl rfl) rfl ?_
        refine SOps.skip rfl 14 39 false rfl rfl (.inl rfl) rfl ?_
        refine SOps.skip rfl 14 39 false rfl rfl (.inl rfl) rfl ?_
        refine SOps.skip rfl 14 39 false rfl rfl (.inl rfl) rfl ?_
        refine SOps.q rfl (.plain rfl) rfl (q_pick_t rfl rfl rfl rfl) ?_
        refine SOps.q rfl (.plain rfl) rfl (q_move rfl rfl) ?_
        refine SOps.skip rfl 21 46 false rfl rfl (.inl rfl) rfl ?_
        refine SOps.skip rfl 21 46 false rfl rfl (.inl rfl) rfl ?_
        refine SOps.skip rfl 21 46 false rfl rfl (.inl rfl) rfl ?_
        refine SOps.skip rfl 21 46 false rfl rfl (.inl rfl) rfl ?_
        refine SOps.skip rfl 21 46 false rfl rfl (.inl rfl) rfl ?_
        refine SOps.q rfl (.plain rfl) rfl (q_pick_t rfl rfl rfl rfl) ?_
        refine SOps.sub (st' := ⟨[(1, .c (.ptr 0 0)), (52, .c (.bool true))], [.box [.str a0_c.ID, .str a0_c.Operator, .str a0_c.Provider, .str a0_c.Session, .int .i64 a0_c.Version, .int .i64 a0_c.Start, .int .i64 a0_c.End, .int .i64 a0_c.Energy, .str a0_c.Tariff, .str a0_c.Currency, .vec a0_c.Items.length 7 (gL cSItem dSItem a0_c.Items), .int .i64 a0_c.Total, .bool a0_c.Credit, .str a0_c.Ref]]⟩) (sub_gen [0] rfl rfl ⟨⟨_, rfl, .inl ⟨rfl, rfl⟩⟩, ⟨_, rfl, .inl ⟨rfl, rfl⟩⟩, trivial⟩ ⟨⟨_, rfl, ⟨.inl ⟨rfl, rfl⟩, .inl ⟨rfl, rfl⟩, .inl ⟨rfl, rfl⟩, .inl ⟨rfl, rfl⟩, .inl ⟨rfl, rfl⟩, .inl ⟨rfl, rfl⟩, .inl ⟨rfl, rfl⟩, .inl ⟨rfl, rfl⟩, .inl ⟨rfl, rfl⟩, .inl ⟨rfl, rfl⟩, .inl ⟨rfl, rfl⟩, .inl ⟨rfl, rfl⟩, .inl ⟨rfl, rfl⟩, .inl ⟨rfl, rfl⟩, trivial⟩⟩, trivial⟩) ?_
        refine SOps.nil ?_
        refine SCode.cond_t rfl rfl ?_
        refine SCode.seq ?_
        refine SCode.region (show SOps _ _ _ [0] _ _ from ?_)
        refine SOps.q rfl (.plain rfl) rfl (q_assign rfl rfl) ?_
        refine SOps.sub (st' := ⟨[(2, .c (.int .i64 2))], []⟩) (sub_gen [] rfl rfl ⟨⟨_, rfl, .inl ⟨rfl, rfl⟩⟩, trivial⟩ trivial) ?_
        refine SOps.nil ?_
        refine SCode.ret ?_
        obtain rfl := Option.some.inj h
        exact ⟨⟨[(2, .c (.int .i64 2))], []⟩, _, sub_gen [] rfl rfl ⟨⟨_, rfl, .inl ⟨rfl, rfl⟩⟩, trivial⟩ trivial, resA1 (v := .c (.int .i64 2)) rfl rfl, rfl⟩
      · obtain ⟨c_8, g9, h⟩ := bind_out h
        try dsimp only at h
        rcases cond_out h with ⟨g10, h⟩ | ⟨g10, h⟩
        · refine SCode.region (show SOps _ _ _ [0, 1, 2, 3, 4, 5, 6, 7, 8, 9, 10, 11, 12, 13, 14, 15, 16, 17, 18, 19, 20, 21, 22, 23, 24, 25, 26, 27] _ _ from ?_)
          refine SOps.q rfl (.plain rfl) rfl (q_field_ptr rfl rfl fd25_4) ?_
          refine SOps.q rfl (.plain rfl) rfl (q_load_ptr rfl rfl rfl rfl ty3) ?_
          refine SOps.q rfl (.plain rfl) rfl (q_bsliceL (c := (cInt .i64)) (d0 := 0) [a0_c.Version] rfl rfl sl47 z3 rfl rfl rfl rfl rfl rfl rfl) ?_
          refine SOps.q rfl (.plain rfl) rfl (q_call (cdr_within_ok F 1 2147483647 ([a0_c.Version]) c_5 g6) [] rfl fn11 ⟨⟨_, rfl, .inl ⟨rfl, rfl⟩⟩, ⟨_, rfl, .inl ⟨rfl, rfl⟩⟩, ⟨_, rfl, .inl ⟨rfl, rfl⟩⟩, trivial⟩ (.inl rfl)) ?_
          refine SOps.q rfl (.plain rfl) rfl (q_not rfl rfl) ?_
          refine SOps.q rfl (.plain rfl) rfl (q_move rfl rfl) ?_
          refine SOps.q rfl (.guard 5 30 false rfl rfl (gF g7)) rfl (q_field_ptr rfl rfl fd25_5) ?_
          refine SOps.q rfl (.guard 5 30 false rfl rfl (gF g7)) rfl (q_load_ptr rfl rfl rfl rfl ty3) ?_
          refine SOps.q rfl (.guard 5 30 false rfl rfl (gF g7)) rfl (q_field_ptr rfl rfl fd25_6) ?_
          refine SOps.q rfl (.guard 5 30 false rfl rfl (gF g7)) rfl (q_load_ptr rfl rfl rfl rfl ty3) ?_
          refine SOps.q rfl (.guard 5 30 false rfl rfl (gF g7)) rfl (q_bsliceL (c := (cInt .i64)) (d0 := 0) [a0_c.Start, a0_c.End] rfl rfl sl47 z3 rfl rfl rfl rfl rfl rfl rfl) ?_
          refine SOps.q rfl (.guard 5 30 false rfl rfl (gF g7)) rfl (q_call (cdr_within_ok F 0 268435456 ([a0_c.Start, a0_c.End]) c_8 g9) [] rfl fn11 ⟨⟨_, rfl, .inl ⟨rfl, rfl⟩⟩, ⟨_, rfl, .inl ⟨rfl, rfl⟩⟩, ⟨_, rfl, .inl ⟨rfl, rfl⟩⟩, trivial⟩ (.inl rfl)) ?_
          refine SOps.q rfl (.guard 5 30 false rfl rfl (gF g7)) rfl (q_not rfl rfl) ?_
          refine SOps.q rfl (.plain rfl) rfl (q_pick_f rfl rfl g7 rfl) ?_
          refine SOps.q rfl (.plain rfl) rfl (q_move rfl rfl) ?_
          refine SOps.skip rfl 14 39 false rfl rfl (.inl (gT g10)) rfl ?_
          refine SOps.skip rfl 14 39 false rfl rfl (.inl (gT g10)) rfl ?_
          refine SOps.skip rfl 14 39 false rfl rfl (.inl (gT g10)) rfl ?_
          refine SOps.skip rfl 14 39 false rfl rfl (.inl (gT g10)) rfl ?_
          refine SOps.skip rfl 14 39 false rfl rfl (.inl (gT g10)) rfl ?_
          refine SOps.q rfl (.plain rfl) rfl (q_pick_t rfl rfl g10 rfl) ?_
          refine SOps.q rfl (.plain rfl) rfl (q_move rfl rfl) ?_
          refine SOps.skip rfl 21 46 false rfl rfl (.inl rfl) rfl ?_
          refine SOps.skip rfl 21 46 false rfl rfl (.inl rfl) rfl ?_
          refine SOps.skip rfl 21 46 false rfl rfl (.inl rfl) rfl ?_
          refine SOps.skip rfl 21 46 false rfl rfl (.inl rfl) rfl ?_
          refine SOps.skip rfl 21 46 false rfl rfl (.inl rfl) rfl ?_
          refine SOps.q rfl (.plain rfl) rfl (q_pick_t rfl rfl rfl rfl) ?_
          refine SOps.sub (st' := ⟨[(1, .c (.ptr 0 0)), (52, .c (.bool true))], [.box [.str a0_c.ID, .str a0_c.Operator, .str a0_c.Provider, .str a0_c.Session, .int .i64 a0_c.Version, .int .i64 a0_c.Start, .int .i64 a0_c.End, .int .i64 a0_c.Energy, .str a0_c.Tariff, .str a0_c.Currency, .vec a0_c.Items.length 7 (gL cSItem dSItem a0_c.Items), .int .i64 a0_c.Total, .bool a0_c.Credit, .str a0_c.Ref]]⟩) (sub_gen [0] rfl rfl ⟨⟨_, rfl, .inl ⟨rfl, rfl⟩⟩, ⟨_, rfl, .inl ⟨rfl, rfl⟩⟩, trivial⟩ ⟨⟨_, rfl, ⟨.inl ⟨rfl, rfl⟩, .inl ⟨rfl, rfl⟩, .inl ⟨rfl, rfl⟩, .inl ⟨rfl, rfl⟩, .inl ⟨rfl, rfl⟩, .inl ⟨rfl, rfl⟩, .inl ⟨rfl, rfl⟩, .inl ⟨rfl, rfl⟩, .inl ⟨rfl, rfl⟩, .inl ⟨rfl, rfl⟩, .inl ⟨rfl, rfl⟩, .inl ⟨rfl, rfl⟩, .inl ⟨rfl, rfl⟩, .inl ⟨rfl, rfl⟩, trivial⟩⟩, trivial⟩) ?_
          refine SOps.nil ?_
          refine SCode.cond_t rfl rfl ?_
          refine SCode.seq ?_
          refine SCode.region (show SOps _ _ _ [0] _ _ from ?_)
          refine SOps.q rfl (.plain rfl) rfl (q_assign rfl rfl) ?_
          refine SOps.sub (st' := ⟨[(2, .c (.int .i64 2))], []⟩) (sub_gen [] rfl rfl ⟨⟨_, rfl, .inl ⟨rfl, rfl⟩⟩, trivial⟩ trivial) ?_
          refine SOps.nil ?_
          refine SCode.ret ?_
          obtain rfl := Option.some.inj h
          exact ⟨⟨[(2, .c (.int .i64 2))], []⟩, _, sub_gen [] rfl rfl ⟨⟨_, rfl, .inl ⟨rfl, rfl⟩⟩, trivial⟩ trivial, resA1 (v := .c (.int .i64 2)) rfl rfl, rfl⟩
        · rcases cond_out h with ⟨g11, h⟩ | ⟨g11, h⟩
          · refine SCode.region (show SOps _ _ _ [0, 1, 2, 3, 4, 5, 6, 7, 8, 9, 10, 11, 12, 13, 14, 15, 16, 17, 18, 19, 20, 21, 22, 23, 24, 25, 26, 27] _ _ from ?_)
            refine SOps.q rfl (.plain rfl) rfl (q_field_ptr rfl rfl fd25_4) ?_
            refine SOps.q rfl (.plain rfl) rfl (q_load_ptr rfl rfl rfl rfl ty3) ?_
            refine SOps.q rfl (.plain rfl) rfl (q_bsliceL (c := (cInt .i64)) (d0 := 0) [a0_c.Version] rfl rfl sl47 z3 rfl rfl rfl rfl rfl rfl rfl) ?_
            refine SOps.q rfl (.plain rfl) rfl (q_call (cdr_within_ok F 1 2147483647 ([a0_c.Version]) c_5 g6) [] rfl fn11 ⟨⟨_, rfl, .inl ⟨rfl, rfl⟩⟩, ⟨_, rfl, .inl ⟨rfl, rfl⟩⟩, ⟨_, rfl, .inl ⟨rfl, rfl⟩⟩, trivial⟩ (.inl rfl)) ?_
            refine SOps.q rfl (.plain rfl) rfl (q_not rfl rfl) ?_
            refine SOps.q rfl (.plain rfl) rfl (q_move rfl rfl) ?_
            refine SOps.q rfl (.guard 5 30 false rfl rfl (gF g7)) rfl (q_field_ptr rfl rfl fd25_5) ?_
            refine SOps.q rfl (.guard 5 30 false rfl rfl (gF g7)) rfl (q_load_ptr rfl rfl rfl rfl ty3) ?_
            refine SOps.q rfl (.guard 5 30 false rfl rfl (gF g7)) rfl (q_field_ptr rfl rfl fd25_6) ?_
            refine SOps.q rfl (.guard 5 30 false rfl rfl (gF g7)) rfl (q_load_ptr rfl rfl rfl rfl ty3) ?_
            refine SOps.q rfl (.guard 5 30 false rfl rfl (gF g7)) rfl (q_bsliceL (c := (cInt .i64)) (d0 := 0) [a0_c.Start, a0_c.End] rfl rfl sl47 z3 rfl rfl rfl rfl rfl rfl rfl) ?_
            refine SOps.q rfl (.guard 5 30 false rfl rfl (gF g7)) rfl (q_call (cdr_within_ok F 0 268435456 ([a0_c.Start, a0_c.End]) c_8 g9) [] rfl fn11 ⟨⟨_, rfl, .inl ⟨rfl, rfl⟩⟩, ⟨_, rfl, .inl ⟨rfl, rfl⟩⟩, ⟨_, rfl, .inl ⟨rfl, rfl⟩⟩, trivial⟩ (.inl rfl)) ?_
            refine SOps.q rfl (.guard 5 30 false rfl rfl (gF g7)) rfl (q_not rfl rfl) ?_
            refine SOps.q rfl (.plain rfl) rfl (q_pick_f rfl rfl g7 rfl) ?_
            refine SOps.q rfl (.plain rfl) rfl (q_move rfl rfl) ?_
            refine SOps.q rfl (.guard 14 39 false rfl rfl (gF g10)) rfl (q_field_ptr rfl rfl fd25_5) ?_
            refine SOps.q rfl (.guard 14 39 false rfl rfl (gF g10)) rfl (q_load_ptr rfl rfl rfl rfl ty3) ?_
            refine SOps.q rfl (.guard 14 39 false rfl rfl (gF g10)) rfl (q_field_ptr rfl rfl fd25_6) ?_
            refine SOps.q rfl (.guard 14 39 false rfl rfl (gF g10)) rfl (q_load_ptr rfl rfl rfl rfl ty3) ?_
            refine SOps.q rfl (.guard 14 39 false rfl rfl (gF g10)) rfl (q_gtr rfl rfl rfl) ?_
            refine SOps.q rfl (.plain rfl) rfl (q_pick_f rfl rfl g10 rfl) ?_
            refine SOps.q rfl (.plain rfl) rfl (q_move rfl rfl) ?_
            refine SOps.skip rfl 21 46 false rfl rfl (.inl (gT g11)) rfl ?_
            refine SOps.skip rfl 21 46 false rfl rfl (.inl (gT g11)) rfl ?_
            refine SOps.skip rfl 21 46 false rfl rfl (.inl (gT g11)) rfl ?_
            refine SOps.skip rfl 21 46 false rfl rfl (.inl (gT g11)) rfl ?_
            refine SOps.skip rfl 21 46 false rfl rfl (.inl (gT g11)) rfl ?_
            refine SOps.q rfl (.plain rfl) rfl (q_pick_t rfl rfl g11 rfl) ?_
            refine SOps.sub (st' := ⟨[(1, .c (.ptr 0 0)), (52, .c (.bool true))], [.box [.str a0_c.ID, .str a0_c.Operator, .str a0_c.Provider, .str a0_c.Session, .int .i64 a0_c.Version, .int .i64 a0_c.Start, .int .i64 a0_c.End, .int .i64 a0_c.Energy, .str a0_c.Tariff, .str a0_c.Currency, .vec a0_c.Items.length 7 (gL cSItem dSItem a0_c.Items), .int .i64 a0_c.Total, .bool a0_c.Credit, .str a0_c.Ref]]⟩) (sub_gen [0] rfl rfl ⟨⟨_, rfl, .inl ⟨rfl, rfl⟩⟩, ⟨_, rfl, .inl ⟨rfl, rfl⟩⟩, trivial⟩ ⟨⟨_, rfl, ⟨.inl ⟨rfl, rfl⟩, .inl ⟨rfl, rfl⟩, .inl ⟨rfl, rfl⟩, .inl ⟨rfl, rfl⟩, .inl ⟨rfl, rfl⟩, .inl ⟨rfl, rfl⟩, .inl ⟨rfl, rfl⟩, .inl ⟨rfl, rfl⟩, .inl ⟨rfl, rfl⟩, .inl ⟨rfl, rfl⟩, .inl ⟨rfl, rfl⟩, .inl ⟨rfl, rfl⟩, .inl ⟨rfl, rfl⟩, .inl ⟨rfl, rfl⟩, trivial⟩⟩, trivial⟩) ?_
            refine SOps.nil ?_
            refine SCode.cond_t rfl rfl ?_
            refine SCode.seq ?_
            refine SCode.region (show SOps _ _ _ [0] _ _ from ?_)
            refine SOps.q rfl (.plain rfl) rfl (q_assign rfl rfl) ?_
            refine SOps.sub (st' := ⟨[(2, .c (.int .i64 2))], []⟩) (sub_gen [] rfl rfl ⟨⟨_, rfl, .inl ⟨rfl, rfl⟩⟩, trivial⟩ trivial) ?_
            refine SOps.nil ?_
            refine SCode.ret ?_
            obtain rfl := Option.some.inj h
            exact ⟨⟨[(2, .c (.int .i64 2))], []⟩, _, sub_gen [] rfl rfl ⟨⟨_, rfl, .inl ⟨rfl, rfl⟩⟩, trivial⟩ trivial, resA1 (v := .c (.int .i64 2)) rfl rfl, rfl⟩
          · obtain ⟨c_12, g13, h⟩ := bind_out h
            try dsimp only at h
            refine SCode.region (show SOps _ _ _ [0, 1, 2, 3, 4, 5, 6, 7, 8, 9, 10, 11, 12, 13, 14, 15, 16, 17, 18, 19, 20, 21, 22, 23, 24, 25, 26, 27] _ _ from ?_)
            refine SOps.q rfl (.plain rfl) rfl (q_field_ptr rfl rfl fd25_4) ?_
            refine SOps.q rfl (.plain rfl) rfl (q_load_ptr rfl rfl rfl rfl ty3) ?_
            refine SOps.q rfl (.plain rfl) rfl (q_bsliceL (c := (cInt .i64)) (d0 := 0) [a0_c.Version] rfl rfl sl47 z3 rfl rfl rfl rfl rfl rfl rfl) ?_
            refine SOps.q rfl (.plain rfl) rfl (q_call (cdr_within_ok F 1 2147483647 ([a0_c.Version]) c_5 g6) [] rfl fn11 ⟨⟨_, rfl, .inl ⟨rfl, rfl⟩⟩, ⟨_, rfl, .inl ⟨rfl, rfl⟩⟩, ⟨_, rfl, .inl ⟨rfl, rfl⟩⟩, trivial⟩ (.inl rfl)) ?_
            refine SOps.q rfl (.plain rfl) rfl (q_not rfl rfl) ?_
            refine SOps.q rfl (.plain rfl) rfl (q_move rfl rfl) ?_
            refine SOps.q rfl (.guard 5 30 false rfl rfl (gF g7)) rfl (q_field_ptr rfl rfl fd25_5) ?_
            refine SOps.q rfl (.guard 5 30 false rfl rfl (gF g7)) rfl (q_load_ptr rfl rfl rfl rfl ty3) ?_
            refine SOps.q rfl (.guard 5 30 false rfl rfl (gF g7)) rfl (q_field_ptr rfl rfl fd25_6) ?_
            refine SOps.q rfl (.guard 5 30 false rfl rfl (gF g7)) rfl (q_load_ptr rfl rfl rfl rfl ty3) ?_
            refine SOps.q rfl (.guard 5 30 false rfl rfl (gF g7)) rfl (q_bsliceL (c := (cInt .i64)) (d0 := 0) [a0_c.Start, a0_c.End] rfl rfl sl47 z3 rfl rfl rfl rfl rfl rfl rfl) ?_
            refine SOps.q rfl (.guard 5 30 false rfl rfl (gF g7)) rfl (q_call (cdr_within_ok F 0 268435456 ([a0_c.Start, a0_c.End]) c_8 g9) [] rfl fn11 ⟨⟨_, rfl, .inl ⟨rfl, rfl⟩⟩, ⟨_, rfl, .inl ⟨rfl, rfl⟩⟩, ⟨_, rfl, .inl ⟨rfl, rfl⟩⟩, trivial⟩ (.inl rfl)) ?_
            refine SOps.q rfl (.guard 5 30 false rfl rfl (gF g7)) rfl (q_not rfl rfl) ?_
            refine SOps.q rfl (.plain rfl) rfl (q_pick_f rfl rfl g7 rfl) ?_
            refine SOps.q rfl (.plain rfl) rfl (q_move rfl rfl) ?_
            refine SOps.q rfl (.guard 14 39 false rfl rfl (gF g10)) rfl (q_field_ptr rfl rfl fd25_5) ?_
            refine SOps.q rfl (.guard 14 39 false rfl rfl (gF g10)) rfl (q_load_ptr rfl rfl rfl rfl ty3) ?_
            refine SOps.q rfl (.guard 14 39 false rfl rfl (gF g10)) rfl (q_field_ptr rfl rfl fd25_6) ?_
            refine SOps.q rfl (.guard 14 39 false rfl rfl (gF g10)) rfl (q_load_ptr rfl rfl rfl rfl ty3) ?_
            refine SOps.q rfl (.guard 14 39 false rfl rfl (gF g10)) rfl (q_gtr rfl rfl rfl) ?_
            refine SOps.q rfl (.plain rfl) rfl (q_pick_f rfl rfl g10 rfl) ?_
            refine SOps.q rfl (.plain rfl) rfl (q_move rfl rfl) ?_
            refine SOps.q rfl (.guard 21 46 false rfl rfl (gF g11)) rfl (q_field_ptr rfl rfl fd25_7) ?_
            refine SOps.q rfl (.guard 21 46 false rfl rfl (gF g11)) rfl (q_load_ptr rfl rfl rfl rfl ty3) ?_
            refine SOps.q rfl (.guard 21 46 false rfl rfl (gF g11)) rfl (q_bsliceL (c := (cInt .i64)) (d0 := 0) [a0_c.Energy] rfl rfl sl47 z3 rfl rfl rfl rfl rfl rfl rfl) ?_
            refine SOps.q rfl (.guard 21 46 false rfl rfl (gF g11)) rfl (q_call (cdr_within_ok F 0 36028797018963968 ([a0_c.Energy]) c_12 g13) [] rfl fn11 ⟨⟨_, rfl, .inl ⟨rfl, rfl⟩⟩, ⟨_, rfl, .inl ⟨rfl, rfl⟩⟩, ⟨_, rfl, .inl ⟨rfl, rfl⟩⟩, trivial⟩ (.inl rfl)) ?_
            refine SOps.q rfl (.guard 21 46 false rfl rfl (gF g11)) rfl (q_not rfl rfl) ?_
            refine SOps.q rfl (.plain rfl) rfl (q_pick_f rfl rfl g11 rfl) ?_
            refine SOps.sub (st' := ⟨[(1, .c (.ptr 0 0)), (52, .c (.bool ((!c_12))))], [.box [.str a0_c.ID, .str a0_c.Operator, .str a0_c.Provider, .str a0_c.Session, .int .i64 a0_c.Version, .int .i64 a0_c.Start, .int .i64 a0_c.End, .int .i64 a0_c.Energy, .str a0_c.Tariff, .str a0_c.Currency, .vec a0_c.Items.length 7 (gL cSItem dSItem a0_c.Items), .int .i64 a0_c.Total, .bool a0_c.Credit, .str a0_c.Ref]]⟩) (sub_gen [0] rfl rfl ⟨⟨_, rfl, .inl ⟨rfl, rfl⟩⟩, ⟨_, rfl, .inl ⟨rfl, rfl⟩⟩, trivial⟩ ⟨⟨_, rfl, ⟨.inl ⟨rfl, rfl⟩, .inl ⟨rfl, rfl⟩, .inl ⟨rfl, rfl⟩, .inl ⟨rfl, rfl⟩, .inl ⟨rfl, rfl⟩, .inl ⟨rfl, rfl⟩, .inl ⟨rfl, rfl⟩, .inl ⟨rfl, rfl⟩, .inl ⟨rfl, rfl⟩, .inl ⟨rfl, rfl⟩, .inl ⟨rfl, rfl⟩, .inl ⟨rfl, rfl⟩, .inl ⟨rfl, rfl⟩, .inl ⟨rfl, rfl⟩, trivial⟩⟩, trivial⟩) ?_
            refine SOps.nil ?_
            rcases cond_out h with ⟨g14, h⟩ | ⟨g14, h⟩
            · refine SCode.cond_t rfl g14 ?_
              refine SCode.seq ?_
              refine SCode.region (show SOps _ _ _ [0] _ _ from ?_)
              refine SOps.q rfl (.plain rfl) rfl (q_assign rfl rfl) ?_
              refine SOps.sub (st' := ⟨[(2, .c (.int .i64 2))], []⟩) (sub_gen [] rfl rfl ⟨⟨_, rfl, .inl ⟨rfl, rfl⟩⟩, trivial⟩ trivial) ?_
              refine SOps.nil ?_
              refine SCode.ret ?_
              obtain rfl := Option.some.inj h
              exact ⟨⟨[(2, .c (.int .i64 2))], []⟩, _, sub_gen [] rfl rfl ⟨⟨_, rfl, .inl ⟨rfl, rfl⟩⟩, trivial⟩ trivial, resA1 (v := .c (.int .i64 2)) rfl rfl, rfl⟩
            · refine SCode.cond_f rfl g14 ?_
              refine SCode.skip ?_
              refine SCode.seq ?_
              refine SCode.seq ?_
              obtain ⟨c_15, g16, h⟩ := bind_out h
              try dsimp only at h
              refine SCode.region (show SOps _ _ _ [0, 1, 2, 3] _ _ from ?_)
              refine SOps.q rfl (.plain rfl) rfl (q_field_ptr rfl rfl fd25_9) ?_
              refine SOps.q rfl (.plain rfl) rfl (q_load_ptr rfl rfl rfl rfl ty9) ?_
              refine SOps.q rfl (.plain rfl) rfl (q_call (cdr_isCurrency_ok F a0_c.Currency c_15 g16) [] rfl fn12 ⟨⟨_, rfl, .inl ⟨rfl, rfl⟩⟩, trivial⟩ (.inl rfl)) ?_
              refine SOps.q rfl (.plain rfl) rfl (q_not rfl rfl) ?_
              refine SOps.sub (st' := ⟨[(1, .c (.ptr 0 0)), (56, .c (.bool ((!c_15))))], [.box [.str a0_c.ID, .str a0_c.Operator, .str a0_c.Provider, .str a0_c.Session, .int .i64 a0_c.Version, .int .i64 a0_c.Start, .int .i64 a0_c.End, .int .i64 a0_c.Energy, .str a0_c.Tariff, .str a0_c.Currency, .vec a0_c.Items.length 7 (gL cSItem dSItem a0_c.Items), .int .i64 a0_c.Total, .bool a0_c.Credit, .str a0_c.Ref]]⟩) (sub_gen [0] rfl rfl ⟨⟨_, rfl, .inl ⟨rfl, rfl⟩⟩, ⟨_, rfl, .inl ⟨rfl, rfl⟩⟩, trivial⟩ ⟨⟨_, rfl, ⟨.inl ⟨rfl, rfl⟩, .inl ⟨rfl, rfl⟩, .inl ⟨rfl, rfl⟩, .inl ⟨rfl, rfl⟩, .inl ⟨rfl, rfl⟩, .inl ⟨rfl, rfl⟩, .inl ⟨rfl, rfl⟩, .inl ⟨rfl, rfl⟩, .inl ⟨rfl, rfl⟩, .inl ⟨rfl, rfl⟩, .inl ⟨rfl, rfl⟩, .inl ⟨rfl, rfl⟩, .inl ⟨rfl, rfl⟩, .inl ⟨rfl, rfl⟩, trivial⟩⟩, trivial⟩) ?_
              refine SOps.nil ?_
              rcases cond_out h with ⟨g17, h⟩ | ⟨g17, h⟩
              · refine SCode.cond_t rfl g17 ?_
                refine SCode.seq ?_
                refine SCode.region (show SOps _ _ _ [0] _ _ from ?_)
                refine SOps.q rfl (.plain rfl) rfl (q_assign rfl rfl) ?_
                refine SOps.sub (st' := ⟨[(2, .c (.int .i64 21))], []⟩) (sub_gen [] rfl rfl ⟨⟨_, rfl, .inl ⟨rfl, rfl⟩⟩, trivial⟩ trivial) ?_
                refine SOps.nil ?_
                refine SCode.ret ?_
                obtain rfl := Option.some.inj h
                exact ⟨⟨[(2, .c (.int .i64 21))], []⟩, _, sub_gen [] rfl rfl ⟨⟨_, rfl, .inl ⟨rfl, rfl⟩⟩, trivial⟩ trivial, resA1 (v := .c (.int .i64 21)) rfl rfl, rfl⟩
              · refine SCode.cond_f rfl g17 ?_
                refine SCode.skip ?_
                refine SCode.seq ?_
                refine SCode.seq ?_
                obtain ⟨c_18, g19, h⟩ := bind_out h
                try dsimp only at h
                refine SCode.region (show SOps _ _ _ [0, 1, 2] _ _ from ?_)
                refine SOps.q rfl (.plain rfl) rfl (q_load_ptr_all rfl rfl rfl rfl rfl ty25) ?_
                refine SOps.q rfl (.plain rfl) rfl (q_call (cdr_validItems_ok F a0_c c_18 g19) [] rfl fn13 ⟨⟨rfl, rfl⟩, trivial⟩ (.inl rfl)) ?_
                refine SOps.q rfl (.plain rfl) rfl (q_assign rfl rfl) ?_
                refine SOps.sub (st' := ⟨[(1, .c (.ptr 0 0)), (4, .c (.int .i64 c_18))], [.box [.str a0_c.ID, .str a0_c.Operator, .str a0_c.Provider, .str a0_c.Session, .int .i64 a0_c.Version, .int .i64 a0_c.Start, .int .i64 a0_c.End, .int .i64 a0_c.Energy, .str a0_c.Tariff, .str a0_c.Currency, .vec a0_c.Items.length 7 (gL cSItem dSItem a0_c.Items), .int .i64 a0_c.Total, .bool a0_c.Credit, .str a0_c.Ref]]⟩) (sub_gen [0] rfl rfl ⟨⟨_, rfl, .inl ⟨rfl, rfl⟩⟩, ⟨_, rfl, .inl ⟨rfl, rfl⟩⟩, trivial⟩ ⟨⟨_, rfl, ⟨.inl ⟨rfl, rfl⟩, .inl ⟨rfl, rfl⟩, .inl ⟨rfl, rfl⟩, .inl ⟨rfl, rfl⟩, .inl ⟨rfl, rfl⟩, .inl ⟨rfl, rfl⟩, .inl ⟨rfl, rfl⟩, .inl ⟨rfl, rfl⟩, .inl ⟨rfl, rfl⟩, .inl ⟨rfl, rfl⟩, .inl ⟨rfl, rfl⟩, .inl ⟨rfl, rfl⟩, .inl ⟨rfl, rfl⟩, .inl ⟨rfl, rfl⟩, trivial⟩⟩, trivial⟩) ?_
                refine SOps.nil ?_
                refine SCode.seq ?_
                refine SCode.region (show SOps _ _ _ [0, 1] _ _ from ?_)
                refine SOps.q rfl (.plain rfl) rfl (q_move rfl rfl) ?_
                refine SOps.q rfl (.plain rfl) rfl (q_neq rfl rfl rfl) ?_
                refine SOps.sub (st' := ⟨[(1, .c (.ptr 0 0)), (4, .c (.int .i64 c_18)), (60, .c (.bool ((!decide (c_18 = 0)))))], [.box [.str a0_c.ID, .str a0_c.Operator, .str a0_c.Provider, .str a0_c.Session, .int .i64 a0_c.Version, .int .i64 a0_c.Start, .int .i64 a0_c.End, .int .i64 a0_c.Energy, .str a0_c.Tariff, .str a0_c.Currency, .vec a0_c.Items.length 7 (gL cSItem dSItem a0_c.Items), .int .i64 a0_c.Total, .bool a0_c.Credit, .str a0_c.Ref]]⟩) (sub_gen [0] rfl rfl ⟨⟨_, rfl, .inl ⟨rfl, rfl⟩⟩, ⟨_, rfl, .inl ⟨rfl, rfl⟩⟩, ⟨_, rfl, .inl ⟨rfl, rfl⟩⟩, trivial⟩ ⟨⟨_, rfl, ⟨.inl ⟨rfl, rfl⟩, .inl ⟨rfl, rfl⟩, .inl ⟨rfl, rfl⟩, .inl ⟨rfl, rfl⟩, .inl ⟨rfl, rfl⟩, .inl ⟨rfl, rfl⟩, .inl ⟨rfl, rfl⟩, .inl ⟨rfl, rfl⟩, .inl ⟨rfl, rfl⟩, .inl ⟨rfl, rfl⟩, .inl ⟨rfl, rfl⟩, .inl ⟨rfl, rfl⟩, .inl ⟨rfl, rfl⟩, .inl ⟨rfl, rfl⟩, trivial⟩⟩, trivial⟩) ?_
                refine SOps.nil ?_
                rcases cond_out h with ⟨g20, h⟩ | ⟨g20, h⟩
                · refine SCode.cond_t rfl g20 ?_
                  refine SCode.seq ?_
                  refine SCode.region (show SOps _ _ _ [0, 1] _ _ from ?_)
                  refine SOps.q rfl (.plain rfl) rfl (q_move rfl rfl) ?_
                  refine SOps.q rfl (.plain rfl) rfl (q_assign rfl rfl) ?_
                  refine SOps.sub (st' := ⟨[(2, .c (.int .i64 c_18))], []⟩) (sub_gen [] rfl rfl ⟨⟨_, rfl, .inl ⟨rfl, rfl⟩⟩, trivial⟩ trivial) ?_
                  refine SOps.nil ?_
                  refine SCode.ret ?_
                  obtain rfl := Option.some.inj h
                  exact ⟨⟨[(2, .c (.int .i64 c_18))], []⟩, _, sub_gen [] rfl rfl ⟨⟨_, rfl, .inl ⟨rfl, rfl⟩⟩, trivial⟩ trivial, resA1 (v := .c (.int .i64 c_18)) rfl rfl, rfl⟩
                · refine SCode.cond_f rfl g20 ?_
                  refine SCode.skip ?_
                  refine SCode.seq ?_
                  obtain ⟨c_21, g22, h⟩ := bind_out h
                  try dsimp only at h
                  refine SCode.region (show SOps _ _ _ [0, 1, 2] _ _ from ?_)
                  refine SOps.q rfl (.plain rfl) rfl (q_load_ptr_all rfl rfl rfl rfl rfl ty25) ?_
                  refine SOps.q rfl (.plain rfl) rfl (q_call (cdr_validRef_ok F a0_c c_21 g22) [] rfl fn14 ⟨⟨rfl, rfl⟩, trivial⟩ (.inl rfl)) ?_
                  refine SOps.q rfl (.plain rfl) rfl (q_assign rfl rfl) ?_
                  refine SOps.sub (st' := ⟨[(2, .c (.int .i64 c_21))], []⟩) (sub_gen [] rfl rfl ⟨⟨_, rfl, .inl ⟨rfl, rfl⟩⟩, trivial⟩ trivial) ?_
                  refine SOps.nil ?_
                  refine SCode.ret ?_
                  obtain rfl := Option.some.inj h
                  exact ⟨⟨[(2, .c (.int .i64 c_21))], []⟩, _, sub_gen [] rfl rfl ⟨⟨_, rfl, .inl ⟨rfl, rfl⟩⟩, trivial⟩ trivial, resA1 (v := .c (.int .i64 c_21)) rfl rfl, rfl⟩
end Go.Proofs.Ytllifhmllicnhaa.W
