/- Written by a program of ours (wip/eng/gen.py): chargenet/cdr.validItems computes its model. -/
import Derived.Test.YtllifhmllicnhaaFacts
import Derived.Test.YtllifhmllicnhaaW16
namespace Go.Proofs.Ytllifhmllicnhaa.W
open Go Go.Proofs Go.Proofs.Ytllifhmllicnhaa.E Go.Proofs.Ytllifhmllicnhaa.M
set_option linter.unusedVariables false
theorem cdr_validItems_ok (F : Nat) (a0_c : SCDR) (r : Int) (h : cdr_validItems F a0_c = some r) :
    SFun Try.prog 13 [] [.a [.str a0_c.ID, .str a0_c.Operator, .str a0_c.Provider, .str a0_c.Session, .int .i64 a0_c.Version, .int .i64 a0_c.Start, .int .i64 a0_c.End, .int .i64 a0_c.Energy, .str a0_c.Tariff, .str a0_c.Currency, .vec a0_c.Items.length 7 (gL cSItem dSItem a0_c.Items), .int .i64 a0_c.Total, .bool a0_c.Credit, .str a0_c.Ref]] (fun x _ => x = .c (.int .i64 r)) := by
  refine SFun.of (n := 29) Try.func13 rfl rfl rfl ?_
  unfold cdr_validItems at h
  show SCode _ _ _ ⟨[(0, .a [.str a0_c.ID, .str a0_c.Operator, .str a0_c.Provider, .str a0_c.Session, .int .i64 a0_c.Version, .int .i64 a0_c.Start, .int .i64 a0_c.End, .int .i64 a0_c.Energy, .str a0_c.Tariff, .str a0_c.Currency, .vec a0_c.Items.length 7 (gL cSItem dSItem a0_c.Items), .int .i64 a0_c.Total, .bool a0_c.Credit, .str a0_c.Ref])], []⟩ _
  refine SCode.seq ?_
  refine SCode.region (show SOps _ _ _ [0, 1] _ _ from ?_)
  refine SOps.e rfl (.plain rfl) (e_box rfl rfl rfl rfl rfl rfl) ?_
  refine SOps.q rfl (.plain rfl) rfl (q_assign rfl rfl) ?_
  refine SOps.sub (st' := ⟨[(1, .c (.ptr 0 0))], [.box [.str a0_c.ID, .str a0_c.Operator, .str a0_c.Provider, .str a0_c.Session, .int .i64 a0_c.Version, .int .i64 a0_c.Start, .int .i64 a0_c.End, .int .i64 a0_c.Energy, .str a0_c.Tariff, .str a0_c.Currency, .vec a0_c.Items.length 7 (gL cSItem dSItem a0_c.Items), .int .i64 a0_c.Total, .bool a0_c.Credit, .str a0_c.Ref]]⟩) (sub_gen [0] rfl rfl ⟨⟨_, rfl, .inl ⟨rfl, rfl⟩⟩, trivial⟩ ⟨⟨_, rfl, ⟨.inl ⟨rfl, rfl⟩, .inl ⟨rfl, rfl⟩, .inl ⟨rfl, rfl⟩, .inl ⟨rfl, rfl⟩, .inl ⟨rfl, rfl⟩, .inl ⟨rfl, rfl⟩, .inl ⟨rfl, rfl⟩, .inl ⟨rfl, rfl⟩, .inl ⟨rfl, rfl⟩, .inl ⟨rfl, rfl⟩, .inl ⟨rfl, rfl⟩, .inl ⟨rfl, rfl⟩, .inl ⟨rfl, rfl⟩, .inl ⟨rfl, rfl⟩, trivial⟩⟩, trivial⟩) ?_
  refine SOps.nil ?_
  refine SCode.seq ?_
  refine SCode.seq ?_
  refine SCode.region (show SOps _ _ _ [0, 1, 2, 3] _ _ from ?_)
  refine SOps.q rfl (.plain rfl) rfl (q_field_ptr rfl rfl fd25_10) ?_
  refine SOps.q rfl (.plain rfl) rfl (q_load_ptr rfl rfl rfl rfl ty23) ?_
  refine SOps.q rfl (.plain rfl) rfl (q_len_vec rfl rfl sl23) ?_
  refine SOps.q rfl (.plain rfl) rfl (q_gtr rfl rfl rfl) ?_
  refine SOps.sub (st' := ⟨[(1, .c (.ptr 0 0)), (9, .c (.bool (decide (32 < ((a0_c.Items).length : Int)))))], [.box [.str a0_c.ID, .str a0_c.Operator, .str a0_c.Provider, .str a0_c.Session, .int .i64 a0_c.Version, .int .i64 a0_c.Start, .int .i64 a0_c.End, .int .i64 a0_c.Energy, .str a0_c.Tariff, .str a0_c.Currency, .vec a0_c.Items.length 7 (gL cSItem dSItem a0_c.Items), .int .i64 a0_c.Total, .bool a0_c.Credit, .str a0_c.Ref]]⟩) (sub_gen [0] rfl rfl ⟨⟨_, rfl, .inl ⟨rfl, rfl⟩⟩, ⟨_, rfl, .inl ⟨rfl, rfl⟩⟩, trivial⟩ ⟨⟨_, rfl, ⟨.inl ⟨rfl, rfl⟩, .inl ⟨rfl, rfl⟩, .inl ⟨rfl, rfl⟩, .inl ⟨rfl, rfl⟩, .inl ⟨rfl, rfl⟩, .inl ⟨rfl, rfl⟩, .inl ⟨rfl, rfl⟩, .inl ⟨rfl, rfl⟩, .inl ⟨rfl, rfl⟩, .inl ⟨rfl, rfl⟩, .inl ⟨rfl, rfl⟩, .inl ⟨rfl, rfl⟩, .inl ⟨rfl, rfl⟩, .inl ⟨rfl, rfl⟩, trivial⟩⟩, trivial⟩) ?_
  refine SOps.nil ?_
  rcases cond_out h with ⟨g1, h⟩ | ⟨g1, h⟩
  · refine SCode.cond_t rfl g1 ?_
    refine SCode.seq ?_
    refine SCode.region (show SOps _ _ _ [0] _ _ from ?_)
    refine SOps.q rfl (.plain rfl) rfl (q_assign rfl rfl) ?_
    refine SOps.sub (st' := ⟨[(2, .c (.int .i64 3))], []⟩) (sub_gen [] rfl rfl ⟨⟨_, rfl, .inl ⟨rfl, rfl⟩⟩, trivial⟩ trivial) ?_
    refine SOps.nil ?_
    refine SCode.ret ?_
    obtain rfl := Option.some.inj h
    exact ⟨⟨[(2, .c (.int .i64 3))], []⟩, _, sub_gen [] rfl rfl ⟨⟨_, rfl, .inl ⟨rfl, rfl⟩⟩, trivial⟩ trivial, resA1 (v := .c (.int .i64 3)) rfl rfl, rfl⟩
  · refine SCode.cond_f rfl g1 ?_
    refine SCode.skip ?_
    refine SCode.seq ?_
    refine SCode.region (show SOps _ _ _ [0] _ _ from ?_)
    refine SOps.q rfl (.plain rfl) rfl (q_assign rfl rfl) ?_
    refine SOps.sub (st' := ⟨[(1, .c (.ptr 0 0)), (3, .c (.int .i64 0))], [.box [.str a0_c.ID, .str a0_c.Operator, .str a0_c.Provider, .str a0_c.Session, .int .i64 a0_c.Version, .int .i64 a0_c.Start, .int .i64 a0_c.End, .int .i64 a0_c.Energy, .str a0_c.Tariff, .str a0_c.Currency, .vec a0_c.Items.length 7 (gL cSItem dSItem a0_c.Items), .int .i64 a0_c.Total, .bool a0_c.Credit, .str a0_c.Ref]]⟩) (sub_gen [0] rfl rfl ⟨⟨_, rfl, .inl ⟨rfl, rfl⟩⟩, ⟨_, rfl, .inl ⟨rfl, rfl⟩⟩, trivial⟩ ⟨⟨_, rfl, ⟨.inl ⟨rfl, rfl⟩, .inl ⟨rfl, rfl⟩, .inl ⟨rfl, rfl⟩, .inl ⟨rfl, rfl⟩, .inl ⟨rfl, rfl⟩, .inl ⟨rfl, rfl⟩, .inl ⟨rfl, rfl⟩, .inl ⟨rfl, rfl⟩, .inl ⟨rfl, rfl⟩, .inl ⟨rfl, rfl⟩, .inl ⟨rfl, rfl⟩, .inl ⟨rfl, rfl⟩, .inl ⟨rfl, rfl⟩, .inl ⟨rfl, rfl⟩, trivial⟩⟩, trivial⟩) ?_
    refine SOps.nil ?_
    refine SCode.join (σ := Int) (S := fun s => ⟨[(1, .c (.ptr 0 0)), (3, .c (.int .i64 s))], [.box [.str a0_c.ID, .str a0_c.Operator, .str a0_c.Provider, .str a0_c.Session, .int .i64 a0_c.Version, .int .i64 a0_c.Start, .int .i64 a0_c.End, .int .i64 a0_c.Energy, .str a0_c.Tariff, .str a0_c.Currency, .vec a0_c.Items.length 7 (gL cSItem dSItem a0_c.Items), .int .i64 a0_c.Total, .bool a0_c.Credit, .str a0_c.Ref]]⟩) (g := fun s => cdr_validItems_p4 a0_c s = some r) ?_ ?_
    · rintro total_2 h
      show SCode _ _ _ ⟨[(1, .c (.ptr 0 0)), (3, .c (.int .i64 total_2))], [.box [.str a0_c.ID, .str a0_c.Operator, .str a0_c.Provider, .str a0_c.Session, .int .i64 a0_c.Version, .int .i64 a0_c.Start, .int .i64 a0_c.End, .int .i64 a0_c.Energy, .str a0_c.Tariff, .str a0_c.Currency, .vec a0_c.Items.length 7 (gL cSItem dSItem a0_c.Items), .int .i64 a0_c.Total, .bool a0_c.Credit, .str a0_c.Ref]]⟩ _
      replace h : cdr_validItems_p4 a0_c total_2 = some r := h
      unfold cdr_validItems_p4 at h
      refine SCode.seq ?_
      refine SCode.seq ?_
      refine SCode.region (show SOps _ _ _ [0, 1, 2, 3] _ _ from ?_)
      refine SOps.q rfl (.plain rfl) rfl (q_field_ptr rfl rfl fd25_11) ?_
      refine SOps.q rfl (.plain rfl) rfl (q_load_ptr rfl rfl rfl rfl ty3) ?_
      refine SOps.q rfl (.plain rfl) rfl (q_move rfl rfl) ?_
      refine SOps.q rfl (.plain rfl) rfl (q_neq rfl rfl rfl) ?_
      refine SOps.sub (st' := ⟨[(28, .c (.bool ((!decide (a0_c.Total = total_2)))))], []⟩) (sub_gen [] rfl rfl ⟨⟨_, rfl, .inl ⟨rfl, rfl⟩⟩, trivial⟩ trivial) ?_
      refine SOps.nil ?_
      rcases cond_out h with ⟨g3, h⟩ | ⟨g3, h⟩
      · refine SCode.cond_t rfl g3 ?_
        refine SCode.seq ?_
        refine SCode.region (show SOps _ _ _ [0] _ _ from ?_)
        refine SOps.q rfl (.plain rfl) rfl (q_assign rfl rfl) ?_
        refine SOps.sub (st' := ⟨[(2, .c (.int .i64 1))], []⟩) (sub_gen [] rfl rfl ⟨⟨_, rfl, .inl ⟨rfl, rfl⟩⟩, trivial⟩ trivial) ?_
        refine SOps.nil ?_
        refine SCode.ret ?_
        obtain rfl := Option.some.inj h
        exact ⟨⟨[(2, .c (.int .i64 1))], []⟩, _, sub_gen [] rfl rfl ⟨⟨_, rfl, .inl ⟨rfl, rfl⟩⟩, trivial⟩ trivial, resA1 (v := .c (.int .i64 1)) rfl rfl, rfl⟩
      · refine SCode.cond_f rfl g3 ?_
        refine SCode.skip ?_
        refine SCode.seq ?_
        refine SCode.region (show SOps _ _ _ [0] _ _ from ?_)
        refine SOps.q rfl (.plain rfl) rfl (q_assign rfl rfl) ?_
        refine SOps.sub (st' := ⟨[(2, .c (.int .i64 0))], []⟩) (sub_gen [] rfl rfl ⟨⟨_, rfl, .inl ⟨rfl, rfl⟩⟩, trivial⟩ trivial) ?_
        refine SOps.nil ?_
        refine SCode.ret ?_
        obtain rfl := Option.some.inj h
        exact ⟨⟨[(2, .c (.int .i64 0))], []⟩, _, sub_gen [] rfl rfl ⟨⟨_, rfl, .inl ⟨rfl, rfl⟩⟩, trivial⟩ trivial, resA1 (v := .c (.int .i64 0)) rfl rfl, rfl⟩
    · refine SCode.seq ?_
      refine SCode.region (show SOps _ _ _ [0, 1, 2, 3] _ _ from ?_)
      refine SOps.q rfl (.plain rfl) rfl (q_field_ptr rfl rfl fd25_10) ?_
      refine SOps.q rfl (.plain rfl) rfl (q_load_ptr rfl rfl rfl rfl ty23) ?_
      refine SOps.q rfl (.plain rfl) rfl (q_len_vec rfl rfl sl23) ?_
      refine SOps.q rfl (.plain rfl) rfl (q_move rfl rfl) ?_
      refine SOps.sub (st' := ⟨[(1, .c (.ptr 0 0)), (3, .c (.int .i64 0)), (11, .c (.vec a0_c.Items.length 7 (gL cSItem dSItem a0_c.Items))), (12, .c (.int .i64 (((a0_c.Items).length : Int)))), (13, .c (.int .i64 0))], [.box [.str a0_c.ID, .str a0_c.Operator, .str a0_c.Provider, .str a0_c.Session, .int .i64 a0_c.Version, .int .i64 a0_c.Start, .int .i64 a0_c.End, .int .i64 a0_c.Energy, .str a0_c.Tariff, .str a0_c.Currency, .vec a0_c.Items.length 7 (gL cSItem dSItem a0_c.Items), .int .i64 a0_c.Total, .bool a0_c.Credit, .str a0_c.Ref]]⟩) (sub_gen [0] rfl rfl ⟨⟨_, rfl, .inl ⟨rfl, rfl⟩⟩, ⟨_, rfl, .inl ⟨rfl, rfl⟩⟩, ⟨_, rfl, .inl ⟨rfl, rfl⟩⟩, ⟨_, rfl, .inl ⟨rfl, rfl⟩⟩, ⟨_, rfl, .inl ⟨rfl, rfl⟩⟩, trivial⟩ ⟨⟨_, rfl, ⟨.inl ⟨rfl, rfl⟩, .inl ⟨rfl, rfl⟩, .inl ⟨rfl, rfl⟩, .inl ⟨rfl, rfl⟩, .inl ⟨rfl, rfl⟩, .inl ⟨rfl, rfl⟩, .inl ⟨rfl, rfl⟩, .inl ⟨rfl, rfl⟩, .inl ⟨rfl, rfl⟩, .inl ⟨rfl, rfl⟩, .inl ⟨rfl, rfl⟩, .inl ⟨rfl, rfl⟩, .inl ⟨rfl, rfl⟩, .inl ⟨rfl, rfl⟩, trivial⟩⟩, trivial⟩) ?_
      refine SOps.nil ?_
      refine SCode.block ?_
      refine SCode.sub (st' := ⟨[(1, .c (.ptr 0 0)), (3, .c (.int .i64 0)), (11, .c (.vec a0_c.Items.length 7 (gL cSItem dSItem a0_c.Items))), (12, .c (.int .i64 (((a0_c.Items).length : Int)))), (13, .c (.int .i64 0))], [.box [.str a0_c.ID, .str a0_c.Operator, .str a0_c.Provider, .str a0_c.Session, .int .i64 a0_c.Version, .int .i64 a0_c.Start, .int .i64 a0_c.End, .int .i64 a0_c.Energy, .str a0_c.Tariff, .str a0_c.Currency, .vec a0_c.Items.length 7 (gL cSItem dSItem a0_c.Items), .int .i64 a0_c.Total, .bool a0_c.Credit, .str a0_c.Ref]]⟩) (sub_gen [0] rfl rfl ⟨⟨_, rfl, .inl ⟨rfl, rfl⟩⟩, ⟨_, rfl, .inl ⟨rfl, rfl⟩⟩, ⟨_, rfl, .inl ⟨rfl, rfl⟩⟩, ⟨_, rfl, .inl ⟨rfl, rfl⟩⟩, ⟨_, rfl, .inl ⟨rfl, rfl⟩⟩, trivial⟩ ⟨⟨_, rfl, ⟨.inl ⟨rfl, rfl⟩, .inl ⟨rfl, rfl⟩, .inl ⟨rfl, rfl⟩, .inl ⟨rfl, rfl⟩, .inl ⟨rfl, rfl⟩, .inl ⟨rfl, rfl⟩, .inl ⟨rfl, rfl⟩, .inl ⟨rfl, rfl⟩, .inl ⟨rfl, rfl⟩, .inl ⟨rfl, rfl⟩, .inl ⟨rfl, rfl⟩, .inl ⟨rfl, rfl⟩, .inl ⟨rfl, rfl⟩, .inl ⟨rfl, rfl⟩, trivial⟩⟩, trivial⟩) ?_
      refine (SCode.loop (σ := Nat × (Int × Int)) (S := fun s => ⟨[(1, .c (.ptr 0 0)), (3, .c (.int .i64 s.2.1)), (11, .c (.vec a0_c.Items.length 7 (gL cSItem dSItem a0_c.Items))), (12, .c (.int .i64 (((a0_c.Items).length : Int)))), (13, .c (.int .i64 s.2.2))], [.box [.str a0_c.ID, .str a0_c.Operator, .str a0_c.Provider, .str a0_c.Session, .int .i64 a0_c.Version, .int .i64 a0_c.Start, .int .i64 a0_c.End, .int .i64 a0_c.Energy, .str a0_c.Tariff, .str a0_c.Currency, .vec a0_c.Items.length 7 (gL cSItem dSItem a0_c.Items), .int .i64 a0_c.Total, .bool a0_c.Credit, .str a0_c.Ref]]⟩) (g := fun s => cdr_validItems_l17 F a0_c s.1 s.2.1 s.2.2 = some r) (μ := fun s => s.1) (F, (0, 0)) h ?_)
      rintro ⟨n_17, ⟨total_10, t13_11⟩⟩ h
      replace h : cdr_validItems_l17 F a0_c n_17 total_10 t13_11 = some r := h
      show SCode _ _ _ ⟨[(1, .c (.ptr 0 0)), (3, .c (.int .i64 total_10)), (11, .c (.vec a0_c.Items.length 7 (gL cSItem dSItem a0_c.Items))), (12, .c (.int .i64 (((a0_c.Items).length : Int)))), (13, .c (.int .i64 t13_11))], [.box [.str a0_c.ID, .str a0_c.Operator, .str a0_c.Provider, .str a0_c.Session, .int .i64 a0_c.Version, .int .i64 a0_c.Start, .int .i64 a0_c.End, .int .i64 a0_c.Energy, .str a0_c.Tariff, .str a0_c.Currency, .vec a0_c.Items.length 7 (gL cSItem dSItem a0_c.Items), .int .i64 a0_c.Total, .bool a0_c.Credit, .str a0_c.Ref]]⟩ _
      cases n_17 with
      | zero => cases h
      | succ n_17 =>
        replace h : cdr_validItems_b17 F a0_c (fun total_10 t13_11 => cdr_validItems_l17 F a0_c n_17 total_10 t13_11) total_10 t13_11 = some r := h
        unfold cdr_validItems_b17 at h
        refine SCode.seq ?_
        refine SCode.region (show SOps _ _ _ [0] _ _ from ?_)
        refine SOps.q rfl (.plain rfl) rfl (q_lss rfl rfl rfl) ?_
        refine SOps.sub (st' := ⟨[(1, .c (.ptr 0 0)), (3, .c (.int .i64 total_10)), (11, .c (.vec a0_c.Items.length 7 (gL cSItem dSItem a0_c.Items))), (12, .c (.int .i64 (((a0_c.Items).length : Int)))), (13, .c (.int .i64 t13_11)), (14, .c (.bool (decide (t13_11 < ((a0_c.Items).length : Int)))))], [.box [.str a0_c.ID, .str a0_c.Operator, .str a0_c.Provider, .str a0_c.Session, .int .i64 a0_c.Version, .int .i64 a0_c.Start, .int .i64 a0_c.End, .int .i64 a0_c.Energy, .str a0_c.Tariff, .str a0_c.Currency, .vec a0_c.Items.length 7 (gL cSItem dSItem a0_c.Items), .int .i64 a0_c.Total, .bool a0_c.Credit, .str a0_c.Ref]]⟩) (sub_gen [0] rfl rfl ⟨⟨_, rfl, .inl ⟨rfl, rfl⟩⟩, ⟨_, rfl, .inl ⟨rfl, rfl⟩⟩, ⟨_, rfl, .inl ⟨rfl, rfl⟩⟩, ⟨_, rfl, .inl ⟨rfl, rfl⟩⟩, ⟨_, rfl, .inl ⟨rfl, rfl⟩⟩, ⟨_, rfl, .inl ⟨rfl, rfl⟩⟩, trivial⟩ ⟨⟨_, rfl, ⟨.inl ⟨rfl, rfl⟩, .inl ⟨rfl, rfl⟩, .inl ⟨rfl, rfl⟩, .inl ⟨rfl, rfl⟩, .inl ⟨rfl, rfl⟩, .inl ⟨rfl, rfl⟩, .inl ⟨rfl, rfl⟩, .inl ⟨rfl, rfl⟩, .inl ⟨rfl, rfl⟩, .inl ⟨rfl, rfl⟩, .inl ⟨rfl, rfl⟩, .inl ⟨rfl, rfl⟩, .inl ⟨rfl, rfl⟩, .inl ⟨rfl, rfl⟩, trivial⟩⟩, trivial⟩) ?_
        refine SOps.nil ?_
        refine SCode.seq ?_
        rcases cond_out h with ⟨g18, h⟩ | ⟨g18, h⟩
        · refine SCode.cond_t rfl g18 ?_
          refine SCode.skip ?_
          refine SCode.seq ?_
          refine SCode.block ?_
          refine SCode.seq ?_
          obtain ⟨g19, h⟩ := guard_out h
          refine SCode.region (show SOps _ _ _ [0, 1, 2, 3] _ _ from ?_)
          refine SOps.q rfl (.plain rfl) rfl (q_index_vec rfl rfl rfl sl23 rfl g19.1 g19.2) ?_
          refine SOps.q rfl (.plain rfl) rfl (q_load_eptr_all rfl rfl rfl ty40) ?_
          refine SOps.e rfl (.plain rfl) (e_alloc rfl rfl rfl z40) ?_
          refine SOps.e rfl (.plain rfl) (e_store_box rfl rfl rfl rfl rfl ty40 rfl rfl rfl rfl) ?_
          refine SOps.sub (st' := ⟨[(1, .c (.ptr 0 0)), (3, .c (.int .i64 total_10)), (5, .c (.ptr 1 0)), (11, .c (.vec a0_c.Items.length 7 (gL cSItem dSItem a0_c.Items))), (12, .c (.int .i64 (((a0_c.Items).length : Int)))), (13, .c (.int .i64 t13_11))], [.box [.str a0_c.ID, .str a0_c.Operator, .str a0_c.Provider, .str a0_c.Session, .int .i64 a0_c.Version, .int .i64 a0_c.Start, .int .i64 a0_c.End, .int .i64 a0_c.Energy, .str a0_c.Tariff, .str a0_c.Currency, .vec a0_c.Items.length 7 (gL cSItem dSItem a0_c.Items), .int .i64 a0_c.Total, .bool a0_c.Credit, .str a0_c.Ref], .box [.int .i64 ((a0_c.Items.getD t13_11.toNat dSItem).Kind), .int .i64 ((a0_c.Items.getD t13_11.toNat dSItem).Price), .int .i64 ((a0_c.Items.getD t13_11.toNat dSItem).Tax), .int .i64 ((a0_c.Items.getD t13_11.toNat dSItem).Quantity), .int .i64 ((a0_c.Items.getD t13_11.toNat dSItem).Net), .int .i64 ((a0_c.Items.getD t13_11.toNat dSItem).Vat), .int .i64 ((a0_c.Items.getD t13_11.toNat dSItem).Gross)]]⟩) (sub_gen [0, 1] rfl rfl ⟨⟨_, rfl, .inl ⟨rfl, rfl⟩⟩, ⟨_, rfl, .inl ⟨rfl, rfl⟩⟩, ⟨_, rfl, .inl ⟨rfl, rfl⟩⟩, ⟨_, rfl, .inl ⟨rfl, rfl⟩⟩, ⟨_, rfl, .inl ⟨rfl, rfl⟩⟩, ⟨_, rfl, .inl ⟨rfl, rfl⟩⟩, trivial⟩ ⟨⟨_, rfl, ⟨.inl ⟨rfl, rfl⟩, .inl ⟨rfl, rfl⟩, .inl ⟨rfl, rfl⟩, .inl ⟨rfl, rfl⟩, .inl ⟨rfl, rfl⟩, .inl ⟨rfl, rfl⟩, .inl ⟨rfl, rfl⟩, .inl ⟨rfl, rfl⟩, .inl ⟨rfl, rfl⟩, .inl ⟨rfl, rfl⟩, .inl ⟨rfl, rfl⟩, .inl ⟨rfl, rfl⟩, .inl ⟨rfl, rfl⟩, .inl ⟨rfl, rfl⟩, trivial⟩⟩, ⟨_, rfl, ⟨.inl ⟨rfl, rfl⟩, .inl ⟨rfl, rfl⟩, .inl ⟨rfl, rfl⟩, .inl ⟨rfl, rfl⟩, .inl ⟨rfl, rfl⟩, .inl ⟨rfl, rfl⟩, .inl ⟨rfl, rfl⟩, trivial⟩⟩, trivial⟩) ?_
          refine SOps.nil ?_
          refine SCode.seq ?_
          refine SCode.seq ?_
          obtain ⟨c_20, g21, h⟩ := bind_out h
          try dsimp only at h
          refine SCode.region (show SOps _ _ _ [0, 1, 2] _ _ from ?_)
          refine SOps.q rfl (.plain rfl) rfl (q_load_ptr_all rfl rfl rfl rfl rfl ty40) ?_
          refine SOps.q rfl (.plain rfl) rfl (q_call (cdr_validItem_ok F (SItem.mk ((a0_c.Items.getD t13_11.toNat dSItem).Kind) ((a0_c.Items.getD t13_11.toNat dSItem).Price) ((a0_c.Items.getD t13_11.toNat dSItem).Tax) ((a0_c.Items.getD t13_11.toNat dSItem).Quantity) ((a0_c.Items.getD t13_11.toNat dSItem).Net) ((a0_c.Items.getD t13_11.toNat dSItem).Vat) ((a0_c.Items.getD t13_11.toNat dSItem).Gross)) c_20 g21) [] rfl fn16 ⟨⟨rfl, rfl⟩, trivial⟩ (.inl rfl)) ?_
          refine SOps.q rfl (.plain rfl) rfl (q_not rfl rfl) ?_
          refine SOps.sub (st' := ⟨[(1, .c (.ptr 0 0)), (3, .c (.int .i64 total_10)), (5, .c (.ptr 1 0)), (11, .c (.vec a0_c.Items.length 7 (gL cSItem dSItem a0_c.Items))), (12, .c (.int .i64 (((a0_c.Items).length : Int)))), (13, .c (.int .i64 t13_11)), (19, .c (.bool ((!c_20))))], [.box [.str a0_c.ID, .str a0_c.Operator, .str a0_c.Provider, .str a0_c.Session, .int .i64 a0_c.Version, .int .i64 a0_c.Start, .int .i64 a0_c.End, .int .i64 a0_c.Energy, .str a0_c.Tariff, .str a0_c.Currency, .vec a0_c.Items.length 7 (gL cSItem dSItem a0_c.Items), .int .i64 a0_c.Total, .bool a0_c.Credit, .str a0_c.Ref], .box [.int .i64 ((a0_c.Items.getD t13_11.toNat dSItem).Kind), .int .i64 ((a0_c.Items.getD t13_11.toNat dSItem).Price), .int .i64 ((a0_c.Items.getD t13_11.toNat dSItem).Tax), .int .i64 ((a0_c.Items.getD t13_11.toNat dSItem).Quantity), .int .i64 ((a0_c.Items.getD t13_11.toNat dSItem).Net), .int .i64 ((a0_c.Items.getD t13_11.toNat dSItem).Vat), .int .i64 ((a0_c.Items.getD t13_11.toNat dSItem).Gross)]]⟩) (sub_gen [0, 1] rfl rfl ⟨⟨_, rfl, .inl ⟨rfl, rfl⟩⟩, ⟨_, rfl, .inl ⟨rfl, rfl⟩⟩, ⟨_, rfl, .inl ⟨rfl, rfl⟩⟩, ⟨_, rfl, .inl ⟨rfl, rfl⟩⟩, ⟨_, rfl, .inl ⟨rfl, rfl⟩⟩, ⟨_, rfl, .inl ⟨rfl, rfl⟩⟩, ⟨_, rfl, .inl ⟨rfl, rfl⟩⟩, trivial⟩ ⟨⟨_, rfl, ⟨.inl ⟨rfl, rfl⟩, .inl ⟨rfl, rfl⟩, .inl ⟨rfl, rfl⟩, .inl ⟨rfl, rfl⟩, .inl ⟨rfl, rfl⟩, .inl ⟨rfl, rfl⟩, .inl ⟨rfl, rfl⟩, .inl ⟨rfl, rfl⟩, .inl ⟨rfl, rfl⟩, .inl ⟨rfl, rfl⟩, .inl ⟨rfl, rfl⟩, .inl ⟨rfl, rfl⟩, .inl ⟨rfl, rfl⟩, .inl ⟨rfl, rfl⟩, trivial⟩⟩, ⟨_, rfl, ⟨.inl ⟨rfl, rfl⟩, .inl ⟨rfl, rfl⟩, .inl ⟨rfl, rfl⟩, .inl ⟨rfl, rfl⟩, .inl ⟨rfl, rfl⟩, .inl ⟨rfl, rfl⟩, .inl ⟨rfl, rfl⟩, trivial⟩⟩, trivial⟩) ?_
          refine SOps.nil ?_
          rcases cond_out h with ⟨g22, h⟩ | ⟨g22, h⟩
          · refine SCode.cond_t rfl g22 ?_
            refine SCode.seq ?_
            refine SCode.region (show SOps _ _ _ [0] _ _ from ?_)
            refine SOps.q rfl (.plain rfl) rfl (q_assign rfl rfl) ?_
            refine SOps.sub (st' := ⟨[(2, .c (.int .i64 1))], []⟩) (sub_gen [] rfl rfl ⟨⟨_, rfl, .inl ⟨rfl, rfl⟩⟩, trivial⟩ trivial) ?_
            refine SOps.nil ?_
            refine SCode.ret ?_
            obtain rfl := Option.some.inj h
            exact ⟨⟨[(2, .c (.int .i64 1))], []⟩, _, sub_gen [] rfl rfl ⟨⟨_, rfl, .inl ⟨rfl, rfl⟩⟩, trivial⟩ trivial, resA1 (v := .c (.int .i64 1)) rfl rfl, rfl⟩
          · refine SCode.cond_f rfl g22 ?_
            refine SCode.skip ?_
            refine SCode.region (show SOps _ _ _ [0, 1, 2, 3, 4] _ _ from ?_)
            refine SOps.q rfl (.plain rfl) rfl (q_move rfl rfl) ?_
            refine SOps.q rfl (.plain rfl) rfl (q_field_ptr rfl rfl fd40_6) ?_
            refine SOps.q rfl (.plain rfl) rfl (q_load_ptr rfl rfl rfl rfl ty3) ?_
            refine SOps.q rfl (.plain rfl) rfl (q_add rfl rfl rfl) ?_
            refine SOps.q rfl (.plain rfl) rfl (q_assign rfl rfl) ?_
            refine SOps.sub (st' := ⟨[(1, .c (.ptr 0 0)), (3, .c (.int .i64 (IntKind.wrap .i64 (total_10 + (a0_c.Items.getD t13_11.toNat dSItem).Gross)))), (11, .c (.vec a0_c.Items.length 7 (gL cSItem dSItem a0_c.Items))), (12, .c (.int .i64 (((a0_c.Items).length : Int)))), (13, .c (.int .i64 t13_11))], [.box [.str a0_c.ID, .str a0_c.Operator, .str a0_c.Provider, .str a0_c.Session, .int .i64 a0_c.Version, .int .i64 a0_c.Start, .int .i64 a0_c.End, .int .i64 a0_c.Energy, .str a0_c.Tariff, .str a0_c.Currency, .vec a0_c.Items.length 7 (gL cSItem dSItem a0_c.Items), .int .i64 a0_c.Total, .bool a0_c.Credit, .str a0_c.Ref]]⟩) (sub_gen [0] rfl rfl ⟨⟨_, rfl, .inl ⟨rfl, rfl⟩⟩, ⟨_, rfl, .inl ⟨rfl, rfl⟩⟩, ⟨_, rfl, .inl ⟨rfl, rfl⟩⟩, ⟨_, rfl, .inl ⟨rfl, rfl⟩⟩, ⟨_, rfl, .inl ⟨rfl, rfl⟩⟩, trivial⟩ ⟨⟨_, rfl, ⟨.inl ⟨rfl, rfl⟩, .inl ⟨rfl, rfl⟩, .inl ⟨rfl, rfl⟩, .inl ⟨rfl, rfl⟩, .inl ⟨rfl, rfl⟩, .inl ⟨rfl, rfl⟩, .inl ⟨rfl, rfl⟩, .inl ⟨rfl, rfl⟩, .inl ⟨rfl, rfl⟩, .inl ⟨rfl, rfl⟩, .inl ⟨rfl, rfl⟩, .inl ⟨rfl, rfl⟩, .inl ⟨rfl, rfl⟩, .inl ⟨rfl, rfl⟩, trivial⟩⟩, trivial⟩) ?_
            refine SOps.nil ?_
            refine SCode.region (show SOps _ _ _ [0, 1] _ _ from ?_)
            refine SOps.q rfl (.plain rfl) rfl (q_add rfl rfl rfl) ?_
            refine SOps.q rfl (.plain rfl) rfl (q_move rfl rfl) ?_
            refine SOps.sub (st' := ⟨[(1, .c (.ptr 0 0)), (3, .c (.int .i64 (IntKind.wrap .i64 (total_10 + (a0_c.Items.getD t13_11.toNat dSItem).Gross)))), (11, .c (.vec a0_c.Items.length 7 (gL cSItem dSItem a0_c.Items))), (12, .c (.int .i64 (((a0_c.Items).length : Int)))), (13, .c (.int .i64 (IntKind.wrap .i64 (t13_11 + 1))))], [.box [.str a0_c.ID, .str a0_c.Operator, .str a0_c.Provider, .str a0_c.Session, .int .i64 a0_c.Version, .int .i64 a0_c.Start, .int .i64 a0_c.End, .int .i64 a0_c.Energy, .str a0_c.Tariff, .str a0_c.Currency, .vec a0_c.Items.length 7 (gL cSItem dSItem a0_c.Items), .int .i64 a0_c.Total, .bool a0_c.Credit, .str a0_c.Ref]]⟩) (sub_gen [0] rfl rfl ⟨⟨_, rfl, .inl ⟨rfl, rfl⟩⟩, ⟨_, rfl, .inl ⟨rfl, rfl⟩⟩, ⟨_, rfl, .inl ⟨rfl, rfl⟩⟩, ⟨_, rfl, .inl ⟨rfl, rfl⟩⟩, ⟨_, rfl, .inl ⟨rfl, rfl⟩⟩, trivial⟩ ⟨⟨_, rfl, ⟨.inl ⟨rfl, rfl⟩, .inl ⟨rfl, rfl⟩, .inl ⟨rfl, rfl⟩, .inl ⟨rfl, rfl⟩, .inl ⟨rfl, rfl⟩, .inl ⟨rfl, rfl⟩, .inl ⟨rfl, rfl⟩, .inl ⟨rfl, rfl⟩, .inl ⟨rfl, rfl⟩, .inl ⟨rfl, rfl⟩, .inl ⟨rfl, rfl⟩, .inl ⟨rfl, rfl⟩, .inl ⟨rfl, rfl⟩, .inl ⟨rfl, rfl⟩, trivial⟩⟩, trivial⟩) ?_
            refine SOps.nil ?_
            exact ⟨(n_17, (IntKind.wrap .i64 (total_10 + (a0_c.Items.getD t13_11.toNat dSItem).Gross), IntKind.wrap .i64 (t13_11 + 1))), h, Nat.lt_succ_self n_17, sub_gen [0] rfl rfl ⟨⟨_, rfl, .inl ⟨rfl, rfl⟩⟩, ⟨_, rfl, .inl ⟨rfl, rfl⟩⟩, ⟨_, rfl, .inl ⟨rfl, rfl⟩⟩, ⟨_, rfl, .inl ⟨rfl, rfl⟩⟩, ⟨_, rfl, .inl ⟨rfl, rfl⟩⟩, trivial⟩ ⟨⟨_, rfl, ⟨.inl ⟨rfl, rfl⟩, .inl ⟨rfl, rfl⟩, .inl ⟨rfl, rfl⟩, .inl ⟨rfl, rfl⟩, .inl ⟨rfl, rfl⟩, .inl ⟨rfl, rfl⟩, .inl ⟨rfl, rfl⟩, .inl ⟨rfl, rfl⟩, .inl ⟨rfl, rfl⟩, .inl ⟨rfl, rfl⟩, .inl ⟨rfl, rfl⟩, .inl ⟨rfl, rfl⟩, .inl ⟨rfl, rfl⟩, .inl ⟨rfl, rfl⟩, trivial⟩⟩, trivial⟩⟩
        · refine SCode.cond_f rfl g18 ?_
          refine SCode.exit ?_
          exact ⟨total_10, h, sub_gen [0] rfl rfl ⟨⟨_, rfl, .inl ⟨rfl, rfl⟩⟩, ⟨_, rfl, .inl ⟨rfl, rfl⟩⟩, trivial⟩ ⟨⟨_, rfl, ⟨.inl ⟨rfl, rfl⟩, .inl ⟨rfl, rfl⟩, .inl ⟨rfl, rfl⟩, .inl ⟨rfl, rfl⟩, .inl ⟨rfl, rfl⟩, .inl ⟨rfl, rfl⟩, .inl ⟨rfl, rfl⟩, .inl ⟨rfl, rfl⟩, .inl ⟨rfl, rfl⟩, .inl ⟨rfl, rfl⟩, .inl ⟨rfl, rfl⟩, .inl ⟨rfl, rfl⟩, .inl ⟨rfl, rfl⟩, .inl ⟨rfl, rfl⟩, trivial⟩⟩, trivial⟩⟩
end Go.Proofs.Ytllifhmllicnhaa.W
