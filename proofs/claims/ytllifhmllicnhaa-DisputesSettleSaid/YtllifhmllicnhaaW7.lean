/- Written by a program of ours (wip/eng/gen.py): chargenet/dispute.Amount computes its model. -/
import Derived.Test.YtllifhmllicnhaaFacts
namespace Go.Proofs.Ytllifhmllicnhaa.W
open Go Go.Proofs Go.Proofs.Ytllifhmllicnhaa.E Go.Proofs.Ytllifhmllicnhaa.M
set_option linter.unusedVariables false
theorem dispute_Amount_ok (F : Nat) (a0_c : SCDR) (a1_l : List SDispute) (r : Int) (h : dispute_Amount F a0_c a1_l = some r) :
    SFun Try.prog 7 [] [.a [.str a0_c.ID, .str a0_c.Operator, .str a0_c.Provider, .str a0_c.Session, .int .i64 a0_c.Version, .int .i64 a0_c.Start, .int .i64 a0_c.End, .int .i64 a0_c.Energy, .str a0_c.Tariff, .str a0_c.Currency, .vec a0_c.Items.length 7 (gL cSItem dSItem a0_c.Items), .int .i64 a0_c.Total, .bool a0_c.Credit, .str a0_c.Ref], .c (.vec a1_l.length 6 (gL cSDispute dSDispute a1_l))] (fun x _ => x = .c (.int .i64 r)) := by
  refine SFun.of (n := 31) Try.func7 rfl rfl rfl ?_
  unfold dispute_Amount at h
  show SCode _ _ _ ⟨[(0, .a [.str a0_c.ID, .str a0_c.Operator, .str a0_c.Provider, .str a0_c.Session, .int .i64 a0_c.Version, .int .i64 a0_c.Start, .int .i64 a0_c.End, .int .i64 a0_c.Energy, .str a0_c.Tariff, .str a0_c.Currency, .vec a0_c.Items.length 7 (gL cSItem dSItem a0_c.Items), .int .i64 a0_c.Total, .bool a0_c.Credit, .str a0_c.Ref]), (1, .c (.vec a1_l.length 6 (gL cSDispute dSDispute a1_l)))], []⟩ _
  refine SCode.seq ?_
  refine SCode.region (show SOps _ _ _ [0, 1] _ _ from ?_)
  refine SOps.e rfl (.plain rfl) (e_box rfl rfl rfl rfl rfl rfl) ?_
  refine SOps.q rfl (.plain rfl) rfl (q_assign rfl rfl) ?_
  refine SOps.sub (st' := ⟨[(1, .c (.vec a1_l.length 6 (gL cSDispute dSDispute a1_l))), (2, .c (.ptr 0 0))], [.box [.str a0_c.ID, .str a0_c.Operator, .str a0_c.Provider, .str a0_c.Session, .int .i64 a0_c.Version, .int .i64 a0_c.Start, .int .i64 a0_c.End, .int .i64 a0_c.Energy, .str a0_c.Tariff, .str a0_c.Currency, .vec a0_c.Items.length 7 (gL cSItem dSItem a0_c.Items), .int .i64 a0_c.Total, .bool a0_c.Credit, .str a0_c.Ref]]⟩) (sub_gen [0] rfl rfl ⟨⟨_, rfl, .inl ⟨rfl, rfl⟩⟩, ⟨_, rfl, .inl ⟨rfl, rfl⟩⟩, trivial⟩ ⟨⟨_, rfl, ⟨.inl ⟨rfl, rfl⟩, .inl ⟨rfl, rfl⟩, .inl ⟨rfl, rfl⟩, .inl ⟨rfl, rfl⟩, .inl ⟨rfl, rfl⟩, .inl ⟨rfl, rfl⟩, .inl ⟨rfl, rfl⟩, .inl ⟨rfl, rfl⟩, .inl ⟨rfl, rfl⟩, .inl ⟨rfl, rfl⟩, .inl ⟨rfl, rfl⟩, .inl ⟨rfl, rfl⟩, .inl ⟨rfl, rfl⟩, .inl ⟨rfl, rfl⟩, trivial⟩⟩, trivial⟩) ?_
  refine SOps.nil ?_
  refine SCode.join (σ := Unit) (S := fun s => ⟨[(2, .c (.ptr 0 0))], [.box [.str a0_c.ID, .str a0_c.Operator, .str a0_c.Provider, .str a0_c.Session, .int .i64 a0_c.Version, .int .i64 a0_c.Start, .int .i64 a0_c.End, .int .i64 a0_c.Energy, .str a0_c.Tariff, .str a0_c.Currency, .vec a0_c.Items.length 7 (gL cSItem dSItem a0_c.Items), .int .i64 a0_c.Total, .bool a0_c.Credit, .str a0_c.Ref]]⟩) (g := fun s => dispute_Amount_p1 a0_c = some r) ?_ ?_
  · rintro ⟨⟩ h
    show SCode _ _ _ ⟨[(2, .c (.ptr 0 0))], [.box [.str a0_c.ID, .str a0_c.Operator, .str a0_c.Provider, .str a0_c.Session, .int .i64 a0_c.Version, .int .i64 a0_c.Start, .int .i64 a0_c.End, .int .i64 a0_c.Energy, .str a0_c.Tariff, .str a0_c.Currency, .vec a0_c.Items.length 7 (gL cSItem dSItem a0_c.Items), .int .i64 a0_c.Total, .bool a0_c.Credit, .str a0_c.Ref]]⟩ _
    replace h : dispute_Amount_p1 a0_c = some r := h
    unfold dispute_Amount_p1 at h
    refine SCode.seq ?_
    refine SCode.region (show SOps _ _ _ [0, 1, 2] _ _ from ?_)
    refine SOps.q rfl (.plain rfl) rfl (q_field_ptr rfl rfl fd25_11) ?_
    refine SOps.q rfl (.plain rfl) rfl (q_load_ptr rfl rfl rfl rfl ty3) ?_
    refine SOps.q rfl (.plain rfl) rfl (q_assign rfl rfl) ?_
    refine SOps.sub (st' := ⟨[(4, .c (.int .i64 a0_c.Total))], []⟩) (sub_gen [] rfl rfl ⟨⟨_, rfl, .inl ⟨rfl, rfl⟩⟩, trivial⟩ trivial) ?_
    refine SOps.nil ?_
    refine SCode.ret ?_
    obtain rfl := Option.some.inj h
    exact ⟨⟨[(4, .c (.int .i64 a0_c.Total))], []⟩, _, sub_gen [] rfl rfl ⟨⟨_, rfl, .inl ⟨rfl, rfl⟩⟩, trivial⟩ trivial, resA1 (v := .c (.int .i64 a0_c.Total)) rfl rfl, rfl⟩
  · refine SCode.seq ?_
    refine SCode.region (show SOps _ _ _ [0, 1, 2] _ _ from ?_)
    refine SOps.q rfl (.plain rfl) rfl (q_move rfl rfl) ?_
    refine SOps.q rfl (.plain rfl) rfl (q_len_vec rfl rfl sl36) ?_
    refine SOps.q rfl (.plain rfl) rfl (q_move rfl rfl) ?_
    refine SOps.sub (st' := ⟨[(2, .c (.ptr 0 0)), (7, .c (.vec a1_l.length 6 (gL cSDispute dSDispute a1_l))), (8, .c (.int .i64 (((a1_l).length : Int)))), (9, .c (.int .i64 0))], [.box [.str a0_c.ID, .str a0_c.Operator, .str a0_c.Provider, .str a0_c.Session, .int .i64 a0_c.Version, .int .i64 a0_c.Start, .int .i64 a0_c.End, .int .i64 a0_c.Energy, .str a0_c.Tariff, .str a0_c.Currency, .vec a0_c.Items.length 7 (gL cSItem dSItem a0_c.Items), .int .i64 a0_c.Total, .bool a0_c.Credit, .str a0_c.Ref]]⟩) (sub_gen [0] rfl rfl ⟨⟨_, rfl, .inl ⟨rfl, rfl⟩⟩, ⟨_, rfl, .inl ⟨rfl, rfl⟩⟩, ⟨_, rfl, .inl ⟨rfl, rfl⟩⟩, ⟨_, rfl, .inl ⟨rfl, rfl⟩⟩, trivial⟩ ⟨⟨_, rfl, ⟨.inl ⟨rfl, rfl⟩, .inl ⟨rfl, rfl⟩, .inl ⟨rfl, rfl⟩, .inl ⟨rfl, rfl⟩, .inl ⟨rfl, rfl⟩, .inl ⟨rfl, rfl⟩, .inl ⟨rfl, rfl⟩, .inl ⟨rfl, rfl⟩, .inl ⟨rfl, rfl⟩, .inl ⟨rfl, rfl⟩, .inl ⟨rfl, rfl⟩, .inl ⟨rfl, rfl⟩, .inl ⟨rfl, rfl⟩, .inl ⟨rfl, rfl⟩, trivial⟩⟩, trivial⟩) ?_
    refine SOps.nil ?_
    refine SCode.block ?_
    refine SCode.sub (st' := ⟨[(2, .c (.ptr 0 0)), (7, .c (.vec a1_l.length 6 (gL cSDispute dSDispute a1_l))), (8, .c (.int .i64 (((a1_l).length : Int)))), (9, .c (.int .i64 0))], [.box [.str a0_c.ID, .str a0_c.Operator, .str a0_c.Provider, .str a0_c.Session, .int .i64 a0_c.Version, .int .i64 a0_c.Start, .int .i64 a0_c.End, .int .i64 a0_c.Energy, .str a0_c.Tariff, .str a0_c.Currency, .vec a0_c.Items.length 7 (gL cSItem dSItem a0_c.Items), .int .i64 a0_c.Total, .bool a0_c.Credit, .str a0_c.Ref]]⟩) (sub_gen [0] rfl rfl ⟨⟨_, rfl, .inl ⟨rfl, rfl⟩⟩, ⟨_, rfl, .inl ⟨rfl, rfl⟩⟩, ⟨_, rfl, .inl ⟨rfl, rfl⟩⟩, ⟨_, rfl, .inl ⟨rfl, rfl⟩⟩, trivial⟩ ⟨⟨_, rfl, ⟨.inl ⟨rfl, rfl⟩, .inl ⟨rfl, rfl⟩, .inl ⟨rfl, rfl⟩, .inl ⟨rfl, rfl⟩, .inl ⟨rfl, rfl⟩, .inl ⟨rfl, rfl⟩, .inl ⟨rfl, rfl⟩, .inl ⟨rfl, rfl⟩, .inl ⟨rfl, rfl⟩, .inl ⟨rfl, rfl⟩, .inl ⟨rfl, rfl⟩, .inl ⟨rfl, rfl⟩, .inl ⟨rfl, rfl⟩, .inl ⟨rfl, rfl⟩, trivial⟩⟩, trivial⟩) ?_
    refine (SCode.loop (σ := Nat × Int) (S := fun s => ⟨[(2, .c (.ptr 0 0)), (7, .c (.vec a1_l.length 6 (gL cSDispute dSDispute a1_l))), (8, .c (.int .i64 (((a1_l).length : Int)))), (9, .c (.int .i64 s.2))], [.box [.str a0_c.ID, .str a0_c.Operator, .str a0_c.Provider, .str a0_c.Session, .int .i64 a0_c.Version, .int .i64 a0_c.Start, .int .i64 a0_c.End, .int .i64 a0_c.Energy, .str a0_c.Tariff, .str a0_c.Currency, .vec a0_c.Items.length 7 (gL cSItem dSItem a0_c.Items), .int .i64 a0_c.Total, .bool a0_c.Credit, .str a0_c.Ref]]⟩) (g := fun s => dispute_Amount_l13 a0_c a1_l s.1 s.2 = some r) (μ := fun s => s.1) (F, 0) h ?_)
    rintro ⟨n_13, t9_7⟩ h
    replace h : dispute_Amount_l13 a0_c a1_l n_13 t9_7 = some r := h
    show SCode _ _ _ ⟨[(2, .c (.ptr 0 0)), (7, .c (.vec a1_l.length 6 (gL cSDispute dSDispute a1_l))), (8, .c (.int .i64 (((a1_l).length : Int)))), (9, .c (.int .i64 t9_7))], [.box [.str a0_c.ID, .str a0_c.Operator, .str a0_c.Provider, .str a0_c.Session, .int .i64 a0_c.Version, .int .i64 a0_c.Start, .int .i64 a0_c.End, .int .i64 a0_c.Energy, .str a0_c.Tariff, .str a0_c.Currency, .vec a0_c.Items.length 7 (gL cSItem dSItem a0_c.Items), .int .i64 a0_c.Total, .bool a0_c.Credit, .str a0_c.Ref]]⟩ _
    cases n_13 with
    | zero => cases h
    | succ n_13 =>
      replace h : dispute_Amount_b13 a0_c a1_l (fun t9_7 => dispute_Amount_l13 a0_c a1_l n_13 t9_7) t9_7 = some r := h
      unfold dispute_Amount_b13 at h
      refine SCode.seq ?_
      refine SCode.region (show SOps _ _ _ [0] _ _ from ?_)
      refine SOps.q rfl (.plain rfl) rfl (q_lss rfl rfl rfl) ?_
      refine SOps.sub (st' := ⟨[(2, .c (.ptr 0 0)), (7, .c (.vec a1_l.length 6 (gL cSDispute dSDispute a1_l))), (8, .c (.int .i64 (((a1_l).length : Int)))), (9, .c (.int .i64 t9_7)), (10, .c (.bool (decide (t9_7 < ((a1_l).length : Int)))))], [.box [.str a0_c.ID, .str a0_c.Operator, .str a0_c.Provider, .str a0_c.Session, .int .i64 a0_c.Version, .int .i64 a0_c.Start, .int .i64 a0_c.End, .int .i64 a0_c.Energy, .str a0_c.Tariff, .str a0_c.Currency, .vec a0_c.Items.length 7 (gL cSItem dSItem a0_c.Items), .int .i64 a0_c.Total, .bool a0_c.Credit, .str a0_c.Ref]]⟩) (sub_gen [0] rfl rfl ⟨⟨_, rfl, .inl ⟨rfl, rfl⟩⟩, ⟨_, rfl, .inl ⟨rfl, rfl⟩⟩, ⟨_, rfl, .inl ⟨rfl, rfl⟩⟩, ⟨_, rfl, .inl ⟨rfl, rfl⟩⟩, ⟨_, rfl, .inl ⟨rfl, rfl⟩⟩, trivial⟩ ⟨⟨_, rfl, ⟨.inl ⟨rfl, rfl⟩, .inl ⟨rfl, rfl⟩, .inl ⟨rfl, rfl⟩, .inl ⟨rfl, rfl⟩, .inl ⟨rfl, rfl⟩, .inl ⟨rfl, rfl⟩, .inl ⟨rfl, rfl⟩, .inl ⟨rfl, rfl⟩, .inl ⟨rfl, rfl⟩, .inl ⟨rfl, rfl⟩, .inl ⟨rfl, rfl⟩, .inl ⟨rfl, rfl⟩, .inl ⟨rfl, rfl⟩, .inl ⟨rfl, rfl⟩, trivial⟩⟩, trivial⟩) ?_
      refine SOps.nil ?_
      refine SCode.seq ?_
      rcases cond_out h with ⟨g14, h⟩ | ⟨g14, h⟩
      · refine SCode.cond_t rfl g14 ?_
        refine SCode.skip ?_
        refine SCode.join (σ := Unit) (S := fun s => ⟨[(2, .c (.ptr 0 0)), (7, .c (.vec a1_l.length 6 (gL cSDispute dSDispute a1_l))), (8, .c (.int .i64 (((a1_l).length : Int)))), (9, .c (.int .i64 t9_7))], [.box [.str a0_c.ID, .str a0_c.Operator, .str a0_c.Provider, .str a0_c.Session, .int .i64 a0_c.Version, .int .i64 a0_c.Start, .int .i64 a0_c.End, .int .i64 a0_c.Energy, .str a0_c.Tariff, .str a0_c.Currency, .vec a0_c.Items.length 7 (gL cSItem dSItem a0_c.Items), .int .i64 a0_c.Total, .bool a0_c.Credit, .str a0_c.Ref]]⟩) (g := fun s => dispute_Amount_p15 t9_7 (fun t9_7 => dispute_Amount_l13 a0_c a1_l n_13 t9_7) = some r) ?_ ?_
        · rintro ⟨⟩ h
          show SCode _ _ _ ⟨[(2, .c (.ptr 0 0)), (7, .c (.vec a1_l.length 6 (gL cSDispute dSDispute a1_l))), (8, .c (.int .i64 (((a1_l).length : Int)))), (9, .c (.int .i64 t9_7))], [.box [.str a0_c.ID, .str a0_c.Operator, .str a0_c.Provider, .str a0_c.Session, .int .i64 a0_c.Version, .int .i64 a0_c.Start, .int .i64 a0_c.End, .int .i64 a0_c.Energy, .str a0_c.Tariff, .str a0_c.Currency, .vec a0_c.Items.length 7 (gL cSItem dSItem a0_c.Items), .int .i64 a0_c.Total, .bool a0_c.Credit, .str a0_c.Ref]]⟩ _
          replace h : dispute_Amount_p15 t9_7 (fun t9_7 => dispute_Amount_l13 a0_c a1_l n_13 t9_7) = some r := h
          unfold dispute_Amount_p15 at h
          refine SCode.region (show SOps _ _ _ [0, 1] _ _ from ?_)
          refine SOps.q rfl (.plain rfl) rfl (q_add rfl rfl rfl) ?_
          refine SOps.q rfl (.plain rfl) rfl (q_move rfl rfl) ?_
          refine SOps.sub (st' := ⟨[(2, .c (.ptr 0 0)), (7, .c (.vec a1_l.length 6 (gL cSDispute dSDispute a1_l))), (8, .c (.int .i64 (((a1_l).length : Int)))), (9, .c (.int .i64 (IntKind.wrap .i64 (t9_7 + 1))))], [.box [.str a0_c.ID, .str a0_c.Operator, .str a0_c.Provider, .str a0_c.Session, .int .i64 a0_c.Version, .int .i64 a0_c.Start, .int .i64 a0_c.End, .int .i64 a0_c.Energy, .str a0_c.Tariff, .str a0_c.Currency, .vec a0_c.Items.length 7 (gL cSItem dSItem a0_c.Items), .int .i64 a0_c.Total, .bool a0_c.Credit, .str a0_c.Ref]]⟩) (sub_gen [0] rfl rfl ⟨⟨_, rfl, .inl ⟨rfl, rfl⟩⟩, ⟨_, rfl, .inl ⟨rfl, rfl⟩⟩, ⟨_, rfl, .inl ⟨rfl, rfl⟩⟩, ⟨_, rfl, .inl ⟨rfl, rfl⟩⟩, trivial⟩ ⟨⟨_, rfl, ⟨.inl ⟨rfl, rfl⟩, .inl ⟨rfl, rfl⟩, .inl ⟨rfl, rfl⟩, .inl ⟨rfl, rfl⟩, .inl ⟨rfl, rfl⟩, .inl ⟨rfl, rfl⟩, .inl ⟨rfl, rfl⟩, .inl ⟨rfl, rfl⟩, .inl ⟨rfl, rfl⟩, .inl ⟨rfl, rfl⟩, .inl ⟨rfl, rfl⟩, .inl ⟨rfl, rfl⟩, .inl ⟨rfl, rfl⟩, .inl ⟨rfl, rfl⟩, trivial⟩⟩, trivial⟩) ?_
          refine SOps.nil ?_
          exact ⟨(n_13, IntKind.wrap .i64 (t9_7 + 1)), h, Nat.lt_succ_self n_13, sub_gen [0] rfl rfl ⟨⟨_, rfl, .inl ⟨rfl, rfl⟩⟩, ⟨_, rfl, .inl ⟨rfl, rfl⟩⟩, ⟨_, rfl, .inl ⟨rfl, rfl⟩⟩, ⟨_, rfl, .inl ⟨rfl, rfl⟩⟩, trivial⟩ ⟨⟨_, rfl, ⟨.inl ⟨rfl, rfl⟩, .inl ⟨rfl, rfl⟩, .inl ⟨rfl, rfl⟩, .inl ⟨rfl, rfl⟩, .inl ⟨rfl, rfl⟩, .inl ⟨rfl, rfl⟩, .inl ⟨rfl, rfl⟩, .inl ⟨rfl, rfl⟩, .inl ⟨rfl, rfl⟩, .inl ⟨rfl, rfl⟩, .inl ⟨rfl, rfl⟩, .inl ⟨rfl, rfl⟩, .inl ⟨rfl, rfl⟩, .inl ⟨rfl, rfl⟩, trivial⟩⟩, trivial⟩⟩
        · refine SCode.block ?_
          refine SCode.seq ?_
          obtain ⟨g16, h⟩ := guard_out h
          refine SCode.region (show SOps _ _ _ [0, 1, 2, 3] _ _ from ?_)
          refine SOps.q rfl (.plain rfl) rfl (q_index_vec rfl rfl rfl sl36 rfl g16.1 g16.2) ?_
          refine SOps.q rfl (.plain rfl) rfl (q_load_eptr_all rfl rfl rfl ty30) ?_
          refine SOps.e rfl (.plain rfl) (e_alloc rfl rfl rfl z30) ?_
          refine SOps.e rfl (.plain rfl) (e_store_box rfl rfl rfl rfl rfl ty30 rfl rfl rfl rfl) ?_
          refine SOps.sub (st' := ⟨[(2, .c (.ptr 0 0)), (6, .c (.ptr 1 0)), (7, .c (.vec a1_l.length 6 (gL cSDispute dSDispute a1_l))), (8, .c (.int .i64 (((a1_l).length : Int)))), (9, .c (.int .i64 t9_7))], [.box [.str a0_c.ID, .str a0_c.Operator, .str a0_c.Provider, .str a0_c.Session, .int .i64 a0_c.Version, .int .i64 a0_c.Start, .int .i64 a0_c.End, .int .i64 a0_c.Energy, .str a0_c.Tariff, .str a0_c.Currency, .vec a0_c.Items.length 7 (gL cSItem dSItem a0_c.Items), .int .i64 a0_c.Total, .bool a0_c.Credit, .str a0_c.Ref], .box [.str ((a1_l.getD t9_7.toNat dSDispute).CDR), .str ((a1_l.getD t9_7.toNat dSDispute).By), .int .i64 ((a1_l.getD t9_7.toNat dSDispute).State), .int .i64 ((a1_l.getD t9_7.toNat dSDispute).Opened), .int .i64 ((a1_l.getD t9_7.toNat dSDispute).Claim), .int .i64 ((a1_l.getD t9_7.toNat dSDispute).Granted)]]⟩) (sub_gen [0, 1] rfl rfl ⟨⟨_, rfl, .inl ⟨rfl, rfl⟩⟩, ⟨_, rfl, .inl ⟨rfl, rfl⟩⟩, ⟨_, rfl, .inl ⟨rfl, rfl⟩⟩, ⟨_, rfl, .inl ⟨rfl, rfl⟩⟩, ⟨_, rfl, .inl ⟨rfl, rfl⟩⟩, trivial⟩ ⟨⟨_, rfl, ⟨.inl ⟨rfl, rfl⟩, .inl ⟨rfl, rfl⟩, .inl ⟨rfl, rfl⟩, .inl ⟨rfl, rfl⟩, .inl ⟨rfl, rfl⟩, .inl ⟨rfl, rfl⟩, .inl ⟨rfl, rfl⟩, .inl ⟨rfl, rfl⟩, .inl ⟨rfl, rfl⟩, .inl ⟨rfl, rfl⟩, .inl ⟨rfl, rfl⟩, .inl ⟨rfl, rfl⟩, .inl ⟨rfl, rfl⟩, .inl ⟨rfl, rfl⟩, trivial⟩⟩, ⟨_, rfl, ⟨.inl ⟨rfl, rfl⟩, .inl ⟨rfl, rfl⟩, .inl ⟨rfl, rfl⟩, .inl ⟨rfl, rfl⟩, .inl ⟨rfl, rfl⟩, .inl ⟨rfl, rfl⟩, trivial⟩⟩, trivial⟩) ?_
          refine SOps.nil ?_
          refine SCode.seq ?_
          rcases cond_out h with ⟨g17, h⟩ | ⟨g17, h⟩
          · refine SCode.region (show SOps _ _ _ [0, 1, 2, 3, 4, 5, 6, 7, 8, 9] _ _ from ?_)
            refine SOps.q rfl (.plain rfl) rfl (q_field_ptr rfl rfl fd30_0) ?_
            refine SOps.q rfl (.plain rfl) rfl (q_load_ptr rfl rfl rfl rfl ty9) ?_
            refine SOps.q rfl (.plain rfl) rfl (q_field_ptr rfl rfl fd25_0) ?_
            refine SOps.q rfl (.plain rfl) rfl (q_load_ptr rfl rfl rfl rfl ty9) ?_
            refine SOps.q rfl (.plain rfl) rfl (q_eqlS rfl rfl rfl) ?_
            refine SOps.q rfl (.plain rfl) rfl (q_move rfl rfl) ?_
            refine SOps.q rfl (.guard 5 18 true rfl rfl (gT g17)) rfl (q_field_ptr rfl rfl fd30_2) ?_
            refine SOps.q rfl (.guard 5 18 true rfl rfl (gT g17)) rfl (q_load_ptr rfl rfl rfl rfl ty3) ?_
            refine SOps.q rfl (.guard 5 18 true rfl rfl (gT g17)) rfl (q_eql rfl rfl rfl) ?_
            refine SOps.q rfl (.plain rfl) rfl (q_pick_t rfl rfl g17 rfl) ?_
            refine SOps.sub (st' := ⟨[(2, .c (.ptr 0 0)), (6, .c (.ptr 1 0)), (7, .c (.vec a1_l.length 6 (gL cSDispute dSDispute a1_l))), (8, .c (.int .i64 (((a1_l).length : Int)))), (9, .c (.int .i64 t9_7)), (22, .c (.bool (decide ((a1_l.getD t9_7.toNat dSDispute).State = 4))))], [.box [.str a0_c.ID, .str a0_c.Operator, .str a0_c.Provider, .str a0_c.Session, .int .i64 a0_c.Version, .int .i64 a0_c.Start, .int .i64 a0_c.End, .int .i64 a0_c.Energy, .str a0_c.Tariff, .str a0_c.Currency, .vec a0_c.Items.length 7 (gL cSItem dSItem a0_c.Items), .int .i64 a0_c.Total, .bool a0_c.Credit, .str a0_c.Ref], .box [.str ((a1_l.getD t9_7.toNat dSDispute).CDR), .str ((a1_l.getD t9_7.toNat dSDispute).By), .int .i64 ((a1_l.getD t9_7.toNat dSDispute).State), .int .i64 ((a1_l.getD t9_7.toNat dSDispute).Opened), .int .i64 ((a1_l.getD t9_7.toNat dSDispute).Claim), .int .i64 ((a1_l.getD t9_7.toNat dSDispute).Granted)]]⟩) (sub_gen [0, 1] rfl rfl ⟨⟨_, rfl, .inl ⟨rfl, rfl⟩⟩, ⟨_, rfl, .inl ⟨rfl, rfl⟩⟩, ⟨_, rfl, .inl ⟨rfl, rfl⟩⟩, ⟨_, rfl, .inl ⟨rfl, rfl⟩⟩, ⟨_, rfl, .inl ⟨rfl, rfl⟩⟩, ⟨_, rfl, .inl ⟨rfl, rfl⟩⟩, trivial⟩ ⟨⟨_, rfl, ⟨.inl ⟨rfl, rfl⟩, .inl ⟨rfl, rfl⟩, .inl ⟨rfl, rfl⟩, .inl ⟨rfl, rfl⟩, .inl ⟨rfl, rfl⟩, .inl ⟨rfl, rfl⟩, .inl ⟨rfl, rfl⟩, .inl ⟨rfl, rfl⟩, .inl ⟨rfl, rfl⟩, .inl ⟨rfl, rfl⟩, .inl ⟨rfl, rfl⟩, .inl ⟨rfl, rfl⟩, .inl ⟨rfl, rfl⟩, .inl ⟨rfl, rfl⟩, trivial⟩⟩, ⟨_, rfl, ⟨.inl ⟨rfl, rfl⟩, .inl ⟨rfl, rfl⟩, .inl ⟨rfl, rfl⟩, .inl ⟨rfl, rfl⟩, .inl ⟨rfl, rfl⟩, .inl ⟨rfl, rfl⟩, trivial⟩⟩, trivial⟩) ?_
            refine SOps.nil ?_
            rcases cond_out h with ⟨g18, h⟩ | ⟨g18, h⟩
            · refine SCode.cond_t rfl g18 ?_
              refine SCode.seq ?_
              refine SCode.region (show SOps _ _ _ [0, 1, 2, 3, 4, 5] _ _ from ?_)
              refine SOps.q rfl (.plain rfl) rfl (q_field_ptr rfl rfl fd25_11) ?_
              refine SOps.q rfl (.plain rfl) rfl (q_load_ptr rfl rfl rfl rfl ty3) ?_
              refine SOps.q rfl (.plain rfl) rfl (q_field_ptr rfl rfl fd30_5) ?_
              refine SOps.q rfl (.plain rfl) rfl (q_load_ptr rfl rfl rfl rfl ty3) ?_
              refine SOps.q rfl (.plain rfl) rfl (q_sub rfl rfl rfl) ?_
              refine SOps.q rfl (.plain rfl) rfl (q_assign rfl rfl) ?_
              refine SOps.sub (st' := ⟨[(4, .c (.int .i64 (IntKind.wrap .i64 (a0_c.Total - (a1_l.getD t9_7.toNat dSDispute).Granted))))], []⟩) (sub_gen [] rfl rfl ⟨⟨_, rfl, .inl ⟨rfl, rfl⟩⟩, trivial⟩ trivial) ?_
              refine SOps.nil ?_
              refine SCode.ret ?_
              obtain rfl := Option.some.inj h
              exact ⟨⟨[(4, .c (.int .i64 (IntKind.wrap .i64 (a0_c.Total - (a1_l.getD t9_7.toNat dSDispute).Granted))))], []⟩, _, sub_gen [] rfl rfl ⟨⟨_, rfl, .inl ⟨rfl, rfl⟩⟩, trivial⟩ trivial, resA1 (v := .c (.int .i64 (IntKind.wrap .i64 (a0_c.Total - (a1_l.getD t9_7.toNat dSDispute).Granted)))) rfl rfl, rfl⟩
            · refine SCode.cond_f rfl g18 ?_
              refine SCode.skip ?_
              exact ⟨(), h, sub_gen [0] rfl rfl ⟨⟨_, rfl, .inl ⟨rfl, rfl⟩⟩, ⟨_, rfl, .inl ⟨rfl, rfl⟩⟩, ⟨_, rfl, .inl ⟨rfl, rfl⟩⟩, ⟨_, rfl, .inl ⟨rfl, rfl⟩⟩, trivial⟩ ⟨⟨_, rfl, ⟨.inl ⟨rfl, rfl⟩, .inl ⟨rfl, rfl⟩, .inl ⟨rfl, rfl⟩, .inl ⟨rfl, rfl⟩, .inl ⟨rfl, rfl⟩, .inl ⟨rfl, rfl⟩, .inl ⟨rfl, rfl⟩, .inl ⟨rfl, rfl⟩, .inl ⟨rfl, rfl⟩, .inl ⟨rfl, rfl⟩, .inl ⟨rfl, rfl⟩, .inl ⟨rfl, rfl⟩, .inl ⟨rfl, rfl⟩, .inl ⟨rfl, rfl⟩, trivial⟩⟩, trivial⟩⟩
          · refine SCode.region (show SOps _ _ _ [0, 1, 2, 3, 4, 5, 6, 7, 8, 9] _ _ from ?_)
            refine SOps.q rfl (.plain rfl) rfl (q_field_ptr rfl rfl fd30_0) ?_
            refine SOps.q rfl (.plain rfl) rfl (q_load_ptr rfl rfl rfl rfl ty9) ?_
            refine SOps.q rfl (.plain rfl) rfl (q_field_ptr rfl rfl fd25_0) ?_
            refine SOps.q rfl (.plain rfl) rfl (q_load_ptr rfl rfl rfl rfl ty9) ?_
            refine SOps.q rfl (.plain rfl) rfl (q_eqlS rfl rfl rfl) ?_
            refine SOps.q rfl (.plain rfl) rfl (q_move rfl rfl) ?_
            refine SOps.skip rfl 5 18 true rfl rfl (.inl (gF g17)) rfl ?_
            refine SOps.skip rfl 5 18 true rfl rfl (.inl (gF g17)) rfl ?_
            refine SOps.skip rfl 5 18 true rfl rfl (.inl (gF g17)) rfl ?_
            refine SOps.q rfl (.plain rfl) rfl (q_pick_f rfl rfl g17 rfl) ?_
            refine SOps.sub (st' := ⟨[(2, .c (.ptr 0 0)), (6, .c (.ptr 1 0)), (7, .c (.vec a1_l.length 6 (gL cSDispute dSDispute a1_l))), (8, .c (.int .i64 (((a1_l).length : Int)))), (9, .c (.int .i64 t9_7)), (22, .c (.bool false))], [.box [.str a0_c.ID, .str a0_c.Operator, .str a0_c.Provider, .str a0_c.Session, .int .i64 a0_c.Version, .int .i64 a0_c.Start, .int .i64 a0_c.End, .int .i64 a0_c.Energy, .str a0_c.Tariff, .str a0_c.Currency, .vec a0_c.Items.length 7 (gL cSItem dSItem a0_c.Items), .int .i64 a0_c.Total, .bool a0_c.Credit, .str a0_c.Ref], .box [.str ((a1_l.getD t9_7.toNat dSDispute).CDR), .str ((a1_l.getD t9_7.toNat dSDispute).By), .int .i64 ((a1_l.getD t9_7.toNat dSDispute).State), .int .i64 ((a1_l.getD t9_7.toNat dSDispute).Opened), .int .i64 ((a1_l.getD t9_7.toNat dSDispute).Claim), .int .i64 ((a1_l.getD t9_7.toNat dSDispute).Granted)]]⟩) (sub_gen [0, 1] rfl rfl ⟨⟨_, rfl, .inl ⟨rfl, rfl⟩⟩, ⟨_, rfl, .inl ⟨rfl, rfl⟩⟩, ⟨_, rfl, .inl ⟨rfl, rfl⟩⟩, ⟨_, rfl, .inl ⟨rfl, rfl⟩⟩, ⟨_, rfl, .inl ⟨rfl, rfl⟩⟩, ⟨_, rfl, .inl ⟨rfl, rfl⟩⟩, trivial⟩ ⟨⟨_, rfl, ⟨.inl ⟨rfl, rfl⟩, .inl ⟨rfl, rfl⟩, .inl ⟨rfl, rfl⟩, .inl ⟨rfl, rfl⟩, .inl ⟨rfl, rfl⟩, .inl ⟨rfl, rfl⟩, .inl ⟨rfl, rfl⟩, .inl ⟨rfl, rfl⟩, .inl ⟨rfl, rfl⟩, .inl ⟨rfl, rfl⟩, .inl ⟨rfl, rfl⟩, .inl ⟨rfl, rfl⟩, .inl ⟨rfl, rfl⟩, .inl ⟨rfl, rfl⟩, trivial⟩⟩, ⟨_, rfl, ⟨.inl ⟨rfl, rfl⟩, .inl ⟨rfl, rfl⟩, .inl ⟨rfl, rfl⟩, .inl ⟨rfl, rfl⟩, .inl ⟨rfl, rfl⟩, .inl ⟨rfl, rfl⟩, trivial⟩⟩, trivial⟩) ?_
            refine SOps.nil ?_
            refine SCode.cond_f rfl rfl ?_
            refine SCode.skip ?_
            exact ⟨(), h, sub_gen [0] rfl rfl ⟨⟨_, rfl, .inl ⟨rfl, rfl⟩⟩, ⟨_, rfl, .inl ⟨rfl, rfl⟩⟩, ⟨_, rfl, .inl ⟨rfl, rfl⟩⟩, ⟨_, rfl, .inl ⟨rfl, rfl⟩⟩, trivial⟩ ⟨⟨_, rfl, ⟨.inl ⟨rfl, rfl⟩, .inl ⟨rfl, rfl⟩, .inl ⟨rfl, rfl⟩, .inl ⟨rfl, rfl⟩, .inl ⟨rfl, rfl⟩, .inl ⟨rfl, rfl⟩, .inl ⟨rfl, rfl⟩, .inl ⟨rfl, rfl⟩, .inl ⟨rfl, rfl⟩, .inl ⟨rfl, rfl⟩, .inl ⟨rfl, rfl⟩, .inl ⟨rfl, rfl⟩, .inl ⟨rfl, rfl⟩, .inl ⟨rfl, rfl⟩, trivial⟩⟩, trivial⟩⟩
      · refine SCode.cond_f rfl g14 ?_
        refine SCode.exit ?_
        exact ⟨(), h, sub_gen [0] rfl rfl ⟨⟨_, rfl, .inl ⟨rfl, rfl⟩⟩, trivial⟩ ⟨⟨_, rfl, ⟨.inl ⟨rfl, rfl⟩, .inl ⟨rfl, rfl⟩, .inl ⟨rfl, rfl⟩, .inl ⟨rfl, rfl⟩, .inl ⟨rfl, rfl⟩, .inl ⟨rfl, rfl⟩, .inl ⟨rfl, rfl⟩, .inl ⟨rfl, rfl⟩, .inl ⟨rfl, rfl⟩, .inl ⟨rfl, rfl⟩, .inl ⟨rfl, rfl⟩, .inl ⟨rfl, rfl⟩, .inl ⟨rfl, rfl⟩, .inl ⟨rfl, rfl⟩, trivial⟩⟩, trivial⟩⟩
end Go.Proofs.Ytllifhmllicnhaa.W
