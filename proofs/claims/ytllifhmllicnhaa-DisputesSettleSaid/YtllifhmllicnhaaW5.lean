/- Written by a program of ours (wip/eng/gen.py): chargenet/dispute.Open computes its model. -/
import Derived.Test.YtllifhmllicnhaaFacts
import Derived.Test.YtllifhmllicnhaaW8
namespace Go.Proofs.Ytllifhmllicnhaa.W
open Go Go.Proofs Go.Proofs.Ytllifhmllicnhaa.E Go.Proofs.Ytllifhmllicnhaa.M
set_option linter.unusedVariables false
set_option maxHeartbeats 8000000 in
theorem dispute_Open_ok (F : Nat) (a0_c : SCDR) (a1_by : ByteArray) (a2_claim : Int) (a3_now : Int) (r : SDispute × Int) (h : dispute_Open F a0_c a1_by a2_claim a3_now = some r) :
    SFun Try.prog 5 [] [.a [.str a0_c.ID, .str a0_c.Operator, .str a0_c.Provider, .str a0_c.Session, .int .i64 a0_c.Version, .int .i64 a0_c.Start, .int .i64 a0_c.End, .int .i64 a0_c.Energy, .str a0_c.Tariff, .str a0_c.Currency, .vec a0_c.Items.length 7 (gL cSItem dSItem a0_c.Items), .int .i64 a0_c.Total, .bool a0_c.Credit, .str a0_c.Ref], .c (.str a1_by), .c (.int .i64 a2_claim), .c (.int .i64 a3_now)] (fun x _ => x = .t [.a [.str r.1.CDR, .str r.1.By, .int .i64 r.1.State, .int .i64 r.1.Opened, .int .i64 r.1.Claim, .int .i64 r.1.Granted], .c (.int .i64 r.2)]) := by
  refine SFun.of (n := 60) Try.func5 rfl rfl rfl ?_
  unfold dispute_Open at h
  show SCode _ _ _ ⟨[(0, .a [.str a0_c.ID, .str a0_c.Operator, .str a0_c.Provider, .str a0_c.Session, .int .i64 a0_c.Version, .int .i64 a0_c.Start, .int .i64 a0_c.End, .int .i64 a0_c.Energy, .str a0_c.Tariff, .str a0_c.Currency, .vec a0_c.Items.length 7 (gL cSItem dSItem a0_c.Items), .int .i64 a0_c.Total, .bool a0_c.Credit, .str a0_c.Ref]), (1, .c (.str a1_by)), (2, .c (.int .i64 a2_claim)), (3, .c (.int .i64 a3_now))], []⟩ _
  refine SCode.seq ?_
  refine SCode.region (show SOps _ _ _ [0, 1, 2] _ _ from ?_)
  refine SOps.e rfl (.plain rfl) (e_box rfl rfl rfl rfl rfl rfl) ?_
  refine SOps.e rfl (.plain rfl) (e_alloc rfl rfl rfl z30) ?_
  refine SOps.q rfl (.plain rfl) rfl (q_assign rfl rfl) ?_
  refine SOps.sub (st' := ⟨[(1, .c (.str a1_by)), (2, .c (.int .i64 a2_claim)), (3, .c (.int .i64 a3_now)), (4, .c (.ptr 0 0)), (8, .c (.ptr 1 0))], [.box [.str a0_c.ID, .str a0_c.Operator, .str a0_c.Provider, .str a0_c.Session, .int .i64 a0_c.Version, .int .i64 a0_c.Start, .int .i64 a0_c.End, .int .i64 a0_c.Energy, .str a0_c.Tariff, .str a0_c.Currency, .vec a0_c.Items.length 7 (gL cSItem dSItem a0_c.Items), .int .i64 a0_c.Total, .bool a0_c.Credit, .str a0_c.Ref], .box [.str ByteArray.empty, .str ByteArray.empty, .int .i64 0, .int .i64 0, .int .i64 0, .int .i64 0]]⟩) (sub_gen [0, 1] rfl rfl ⟨⟨_, rfl, .inl ⟨rfl, rfl⟩⟩, ⟨_, rfl, .inl ⟨rfl, rfl⟩⟩, ⟨_, rfl, .inl ⟨rfl, rfl⟩⟩, ⟨_, rfl, .inl ⟨rfl, rfl⟩⟩, ⟨_, rfl, .inl ⟨rfl, rfl⟩⟩, trivial⟩ ⟨⟨_, rfl, ⟨.inl ⟨rfl, rfl⟩, .inl ⟨rfl, rfl⟩, .inl ⟨rfl, rfl⟩, .inl ⟨rfl, rfl⟩, .inl ⟨rfl, rfl⟩, .inl ⟨rfl, rfl⟩, .inl ⟨rfl, rfl⟩, .inl ⟨rfl, rfl⟩, .inl ⟨rfl, rfl⟩, .inl ⟨rfl, rfl⟩, .inl ⟨rfl, rfl⟩, .inl ⟨rfl, rfl⟩, .inl ⟨rfl, rfl⟩, .inl ⟨rfl, rfl⟩, trivial⟩⟩, ⟨_, rfl, ⟨.inl ⟨rfl, rfl⟩, .inl ⟨rfl, rfl⟩, .inl ⟨rfl, rfl⟩, .inl ⟨rfl, rfl⟩, .inl ⟨rfl, rfl⟩, .inl ⟨rfl, rfl⟩, trivial⟩⟩, trivial⟩) ?_
  refine SOps.nil ?_
  refine SCode.seq ?_
  refine SCode.seq ?_
  obtain ⟨c_1, g2, h⟩ := bind_out h
  try dsimp only at h
  refine SCode.region (show SOps _ _ _ [0, 1, 2] _ _ from ?_)
  refine SOps.q rfl (.plain rfl) rfl (q_load_ptr_all rfl rfl rfl rfl rfl ty25) ?_
  refine SOps.q rfl (.plain rfl) rfl (q_call (cdr_Valid_ok F a0_c c_1 g2) [] rfl fn8 ⟨⟨rfl, rfl⟩, trivial⟩ (.inl rfl)) ?_
  refine SOps.q rfl (.plain rfl) rfl (q_assign rfl rfl) ?_
  refine SOps.sub (st' := ⟨[(1, .c (.str a1_by)), (2, .c (.int .i64 a2_claim)), (3, .c (.int .i64 a3_now)), (4, .c (.ptr 0 0)), (8, .c (.ptr 1 0)), (10, .c (.int .i64 c_1))], [.box [.str a0_c.ID, .str a0_c.Operator, .str a0_c.Provider, .str a0_c.Session, .int .i64 a0_c.Version, .int .i64 a0_c.Start, .int .i64 a0_c.End, .int .i64 a0_c.Energy, .str a0_c.Tariff, .str a0_c.Currency, .vec a0_c.Items.length 7 (gL cSItem dSItem a0_c.Items), .int .i64 a0_c.Total, .bool a0_c.Credit, .str a0_c.Ref], .box [.str ByteArray.empty, .str ByteArray.empty, .int .i64 0, .int .i64 0, .int .i64 0, .int .i64 0]]⟩) (sub_gen [0, 1] rfl rfl ⟨⟨_, rfl, .inl ⟨rfl, rfl⟩⟩, ⟨_, rfl, .inl ⟨rfl, rfl⟩⟩, ⟨_, rfl, .inl ⟨rfl, rfl⟩⟩, ⟨_, rfl, .inl ⟨rfl, rfl⟩⟩, ⟨_, rfl, .inl ⟨rfl, rfl⟩⟩, ⟨_, rfl, .inl ⟨rfl, rfl⟩⟩, trivial⟩ ⟨⟨_, rfl, ⟨.inl ⟨rfl, rfl⟩, .inl ⟨rfl, rfl⟩, .inl ⟨rfl, rfl⟩, .inl ⟨rfl, rfl⟩, .inl ⟨rfl, rfl⟩, .inl ⟨rfl, rfl⟩, .inl ⟨rfl, rfl⟩, .inl ⟨rfl, rfl⟩, .inl ⟨rfl, rfl⟩, .inl ⟨rfl, rfl⟩, .inl ⟨rfl, rfl⟩, .inl ⟨rfl, rfl⟩, .inl ⟨rfl, rfl⟩, .inl ⟨rfl, rfl⟩, trivial⟩⟩, ⟨_, rfl, ⟨.inl ⟨rfl, rfl⟩, .inl ⟨rfl, rfl⟩, .inl ⟨rfl, rfl⟩, .inl ⟨rfl, rfl⟩, .inl ⟨rfl, rfl⟩, .inl ⟨rfl, rfl⟩, trivial⟩⟩, trivial⟩) ?_
  refine SOps.nil ?_
  refine SCode.seq ?_
  refine SCode.region (show SOps _ _ _ [0, 1] _ _ from ?_)
  refine SOps.q rfl (.plain rfl) rfl (q_move rfl rfl) ?_
  refine SOps.q rfl (.plain rfl) rfl (q_neq rfl rfl rfl) ?_
  refine SOps.sub (st' := ⟨[(1, .c (.str a1_by)), (2, .c (.int .i64 a2_claim)), (3, .c (.int .i64 a3_now)), (4, .c (.ptr 0 0)), (8, .c (.ptr 1 0)), (10, .c (.int .i64 c_1)), (14, .c (.bool ((!decide (c_1 = 0)))))], [.box [.str a0_c.ID, .str a0_c.Operator, .str a0_c.Provider, .str a0_c.Session, .int .i64 a0_c.Version, .int .i64 a0_c.Start, .int .i64 a0_c.End, .int .i64 a0_c.Energy, .str a0_c.Tariff, .str a0_c.Currency, .vec a0_c.Items.length 7 (gL cSItem dSItem a0_c.Items), .int .i64 a0_c.Total, .bool a0_c.Credit, .str a0_c.Ref], .box [.str ByteArray.empty, .str ByteArray.empty, .int .i64 0, .int .i64 0, .int .i64 0, .int .i64 0]]⟩) (sub_gen [0, 1] rfl rfl ⟨⟨_, rfl, .inl ⟨rfl, rfl⟩⟩, ⟨_, rfl, .inl ⟨rfl, rfl⟩⟩, ⟨_, rfl, .inl ⟨rfl, rfl⟩⟩, ⟨_, rfl, .inl ⟨rfl, rfl⟩⟩, ⟨_, rfl, .inl ⟨rfl, rfl⟩⟩, ⟨_, rfl, .inl ⟨rfl, rfl⟩⟩, ⟨_, rfl, .inl ⟨rfl, rfl⟩⟩, trivial⟩ ⟨⟨_, rfl, ⟨.inl ⟨rfl, rfl⟩, .inl ⟨rfl, rfl⟩, .inl ⟨rfl, rfl⟩, .inl ⟨rfl, rfl⟩, .inl ⟨rfl, rfl⟩, .inl ⟨rfl, rfl⟩, .inl ⟨rfl, rfl⟩, .inl ⟨rfl, rfl⟩, .inl ⟨rfl, rfl⟩, .inl ⟨rfl, rfl⟩, .inl ⟨rfl, rfl⟩, .inl ⟨rfl, rfl⟩, .inl ⟨rfl, rfl⟩, .inl ⟨rfl, rfl⟩, trivial⟩⟩, ⟨_, rfl, ⟨.inl ⟨rfl, rfl⟩, .inl ⟨rfl, rfl⟩, .inl ⟨rfl, rfl⟩, .inl ⟨rfl, rfl⟩, .inl ⟨rfl, rfl⟩, .inl ⟨rfl, rfl⟩, trivial⟩⟩, trivial⟩) ?_
  refine SOps.nil ?_
  rcases cond_out h with ⟨g3, h⟩ | ⟨g3, h⟩
  · refine SCode.cond_t rfl g3 ?_
    refine SCode.seq ?_
    refine SCode.region (show SOps _ _ _ [0, 1, 2, 3] _ _ from ?_)
    refine SOps.q rfl (.plain rfl) rfl (q_build2 rfl rfl pl30 rfl) ?_
    refine SOps.q rfl (.plain rfl) rfl (q_move rfl rfl) ?_
    refine SOps.e rfl (.plain rfl) (e_store_box rfl rfl rfl rfl rfl ty30 rfl rfl rfl rfl) ?_
    refine SOps.q rfl (.plain rfl) rfl (q_assign rfl rfl) ?_
    refine SOps.sub (st' := ⟨[(8, .c (.ptr 0 0)), (9, .c (.int .i64 c_1))], [.box [.str ByteArray.empty, .str ByteArray.empty, .int .i64 0, .int .i64 0, .int .i64 0, .int .i64 0]]⟩) (sub_gen [1] rfl rfl ⟨⟨_, rfl, .inl ⟨rfl, rfl⟩⟩, ⟨_, rfl, .inl ⟨rfl, rfl⟩⟩, trivial⟩ ⟨⟨_, rfl, ⟨.inl ⟨rfl, rfl⟩, .inl ⟨rfl, rfl⟩, .inl ⟨rfl, rfl⟩, .inl ⟨rfl, rfl⟩, .inl ⟨rfl, rfl⟩, .inl ⟨rfl, rfl⟩, trivial⟩⟩, trivial⟩) ?_
    refine SOps.nil ?_
    refine SCode.ret ?_
    obtain rfl := Option.some.inj h
    exact ⟨⟨[(8, .c (.ptr 0 0)), (9, .c (.int .i64 c_1))], [.box [.str ByteArray.empty, .str ByteArray.empty, .int .i64 0, .int .i64 0, .int .i64 0, .int .i64 0]]⟩, _, sub_gen [0] rfl rfl ⟨⟨_, rfl, .inl ⟨rfl, rfl⟩⟩, ⟨_, rfl, .inl ⟨rfl, rfl⟩⟩, trivial⟩ ⟨⟨_, rfl, ⟨.inl ⟨rfl, rfl⟩, .inl ⟨rfl, rfl⟩, .inl ⟨rfl, rfl⟩, .inl ⟨rfl, rfl⟩, .inl ⟨rfl, rfl⟩, .inl ⟨rfl, rfl⟩, trivial⟩⟩, trivial⟩, resA2 (v1 := .a [.str ByteArray.empty, .str ByteArray.empty, .int .i64 0, .int .i64 0, .int .i64 0, .int .i64 0]) (v2 := .c (.int .i64 c_1)) rfl ⟨_, rfl, rfl, ty30⟩ rfl, rfl⟩
  · refine SCode.cond_f rfl g3 ?_
    refine SCode.skip ?_
    refine SCode.seq ?_
    refine SCode.seq ?_
    refine SCode.region (show SOps _ _ _ [0, 1] _ _ from ?_)
    refine SOps.q rfl (.plain rfl) rfl (q_field_ptr rfl rfl fd25_12) ?_
    refine SOps.q rfl (.plain rfl) rfl (q_load_ptr rfl rfl rfl rfl ty4) ?_
    refine SOps.sub (st' := ⟨[(1, .c (.str a1_by)), (2, .c (.int .i64 a2_claim)), (3, .c (.int .i64 a3_now)), (4, .c (.ptr 0 0)), (8, .c (.ptr 1 0)), (18, .c (.bool a0_c.Credit))], [.box [.str a0_c.ID, .str a0_c.Operator, .str a0_c.Provider, .str a0_c.Session, .int .i64 a0_c.Version, .int .i64 a0_c.Start, .int .i64 a0_c.End, .int .i64 a0_c.Energy, .str a0_c.Tariff, .str a0_c.Currency, .vec a0_c.Items.length 7 (gL cSItem dSItem a0_c.Items), .int .i64 a0_c.Total, .bool a0_c.Credit, .str a0_c.Ref], .box [.str ByteArray.empty, .str ByteArray.empty, .int .i64 0, .int .i64 0, .int .i64 0, .int .i64 0]]⟩) (sub_gen [0, 1] rfl rfl ⟨⟨_, rfl, .inl ⟨rfl, rfl⟩⟩, ⟨_, rfl, .inl ⟨rfl, rfl⟩⟩, ⟨_, rfl, .inl ⟨rfl, rfl⟩⟩, ⟨_, rfl, .inl ⟨rfl, rfl⟩⟩, ⟨_, rfl, .inl ⟨rfl, rfl⟩⟩, ⟨_, rfl, .inl ⟨rfl, rfl⟩⟩, trivial⟩ ⟨⟨_, rfl, ⟨.inl ⟨rfl, rfl⟩, .inl ⟨rfl, rfl⟩, .inl ⟨rfl, rfl⟩, .inl ⟨rfl, rfl⟩, .inl ⟨rfl, rfl⟩, .inl ⟨rfl, rfl⟩, .inl ⟨rfl, rfl⟩, .inl ⟨rfl, rfl⟩, .inl ⟨rfl, rfl⟩, .inl ⟨rfl, rfl⟩, .inl ⟨rfl, rfl⟩, .inl ⟨rfl, rfl⟩, .inl ⟨rfl, rfl⟩, .inl ⟨rfl, rfl⟩, trivial⟩⟩, ⟨_, rfl, ⟨.inl ⟨rfl, rfl⟩, .inl ⟨rfl, rfl⟩, .inl ⟨rfl, rfl⟩, .inl ⟨rfl, rfl⟩, .inl ⟨rfl, rfl⟩, .inl ⟨rfl, rfl⟩, trivial⟩⟩, trivial⟩) ?_
    refine SOps.nil ?_
    rcases cond_out h with ⟨g4, h⟩ | ⟨g4, h⟩
    · refine SCode.cond_t rfl g4 ?_
      refine SCode.seq ?_
      refine SCode.region (show SOps _ _ _ [0, 1, 2] _ _ from ?_)
      refine SOps.q rfl (.plain rfl) rfl (q_build2 rfl rfl pl30 rfl) ?_
      refine SOps.e rfl (.plain rfl) (e_store_box rfl rfl rfl rfl rfl ty30 rfl rfl rfl rfl) ?_
      refine SOps.q rfl (.plain rfl) rfl (q_assign rfl rfl) ?_
      refine SOps.sub (st' := ⟨[(8, .c (.ptr 0 0)), (9, .c (.int .i64 10))], [.box [.str ByteArray.empty, .str ByteArray.empty, .int .i64 0, .int .i64 0, .int .i64 0, .int .i64 0]]⟩) (sub_gen [1] rfl rfl ⟨⟨_, rfl, .inl ⟨rfl, rfl⟩⟩, ⟨_, rfl, .inl ⟨rfl, rfl⟩⟩, trivial⟩ ⟨⟨_, rfl, ⟨.inl ⟨rfl, rfl⟩, .inl ⟨rfl, rfl⟩, .inl ⟨rfl, rfl⟩, .inl ⟨rfl, rfl⟩, .inl ⟨rfl, rfl⟩, .inl ⟨rfl, rfl⟩, trivial⟩⟩, trivial⟩) ?_
      refine SOps.nil ?_
      refine SCode.ret ?_
      obtain rfl := Option.some.inj h
      exact ⟨⟨[(8, .c (.ptr 0 0)), (9, .c (.int .i64 10))], [.box [.str ByteArray.empty, .str ByteArray.empty, .int .i64 0, .int .i64 0, .int .i64 0, .int .i64 0]]⟩, _, sub_gen [0] rfl rfl ⟨⟨_, rfl, .inl ⟨rfl, rfl⟩⟩, ⟨_, rfl, .inl ⟨rfl, rfl⟩⟩, trivial⟩ ⟨⟨_, rfl, ⟨.inl ⟨rfl, rfl⟩, .inl ⟨rfl, rfl⟩, .inl ⟨rfl, rfl⟩, .inl ⟨rfl, rfl⟩, .inl ⟨rfl, rfl⟩, .inl ⟨rfl, rfl⟩, trivial⟩⟩, trivial⟩, resA2 (v1 := .a [.str ByteArray.empty, .str ByteArray.empty, .int .i64 0, .int .i64 0, .int .i64 0, .int .i64 0]) (v2 := .c (.int .i64 10)) rfl ⟨_, rfl, rfl, ty30⟩ rfl, rfl⟩
    · refine SCode.cond_f rfl g4 ?_
      refine SCode.skip ?_
      refine SCode.seq ?_
      refine SCode.seq ?_
      refine SCode.region (show SOps _ _ _ [0, 1, 2, 3] _ _ from ?_)
      refine SOps.q rfl (.plain rfl) rfl (q_move rfl rfl) ?_
      refine SOps.q rfl (.plain rfl) rfl (q_field_ptr rfl rfl fd25_2) ?_
      refine SOps.q rfl (.plain rfl) rfl (q_load_ptr rfl rfl rfl rfl ty9) ?_
      refine SOps.q rfl (.plain rfl) rfl (q_neqS rfl rfl rfl) ?_
      refine SOps.sub (st' := ⟨[(1, .c (.str a1_by)), (2, .c (.int .i64 a2_claim)), (3, .c (.int .i64 a3_now)), (4, .c (.ptr 0 0)), (8, .c (.ptr 1 0)), (23, .c (.bool ((!(sEq a1_by a0_c.Provider)))))], [.box [.str a0_c.ID, .str a0_c.Operator, .str a0_c.Provider, .str a0_c.Session, .int .i64 a0_c.Version, .int .i64 a0_c.Start, .int .i64 a0_c.End, .int .i64 a0_c.Energy, .str a0_c.Tariff, .str a0_c.Currency, .vec a0_c.Items.length 7 (gL cSItem dSItem a0_c.Items), .int .i64 a0_c.Total, .bool a0_c.Credit, .str a0_c.Ref], .box [.str ByteArray.empty, .str ByteArray.empty, .int .i64 0, .int .i64 0, .int .i64 0, .int .i64 0]]⟩) (sub_gen [0, 1] rfl rfl ⟨⟨_, rfl, .inl ⟨rfl, rfl⟩⟩, ⟨_, rfl, .inl ⟨rfl, rfl⟩⟩, ⟨_, rfl, .inl ⟨rfl, rfl⟩⟩, ⟨_, rfl, .inl ⟨rfl, rfl⟩⟩, ⟨_, rfl, .inl ⟨rfl, rfl⟩⟩, ⟨_, rfl, .inl ⟨rfl, rfl⟩⟩, trivial⟩ ⟨⟨_, rfl, ⟨.inl ⟨rfl, rfl⟩, .inl ⟨rfl, rfl⟩, .inl ⟨rfl, rfl⟩, .inl ⟨rfl, rfl⟩, .inl ⟨rfl, rfl⟩, .inl ⟨rfl, rfl⟩, .inl ⟨rfl, rfl⟩, .inl ⟨rfl, rfl⟩, .inl ⟨rfl, rfl⟩, .inl ⟨rfl, rfl⟩, .inl ⟨rfl, rfl⟩, .inl ⟨rfl, rfl⟩, .inl ⟨rfl, rfl⟩, .inl ⟨rfl, rfl⟩, trivial⟩⟩, ⟨_, rfl, ⟨.inl ⟨rfl, rfl⟩, .inl ⟨rfl, rfl⟩, .inl ⟨rfl, rfl⟩, .inl ⟨rfl, rfl⟩, .inl ⟨rfl, rfl⟩, .inl ⟨rfl, rfl⟩, trivial⟩⟩, trivial⟩) ?_
      refine SOps.nil ?_
      rcases cond_out h with ⟨g5, h⟩ | ⟨g5, h⟩
      · refine SCode.cond_t rfl g5 ?_
        refine SCode.seq ?_
        refine SCode.region (show SOps _ _ _ [0, 1, 2] _ _ from ?_)
        refine SOps.q rfl (.plain rfl) rfl (q_build2 rfl rfl pl30 rfl) ?_
        refine SOps.e rfl (.plain rfl) (e_store_box rfl rfl rfl rfl rfl ty30 rfl rfl rfl rfl) ?_
        refine SOps.q rfl (.plain rfl) rfl (q_assign rfl rfl) ?_
        refine SOps.sub (st' := ⟨[(8, .c (.ptr 0 0)), (9, .c (.int .i64 15))], [.box [.str ByteArray.empty, .str ByteArray.empty, .int .i64 0, .int .i64 0, .int .i64 0, .int .i64 0]]⟩) (sub_gen [1] rfl rfl ⟨⟨_, rfl, .inl ⟨rfl, rfl⟩⟩, ⟨_, rfl, .inl ⟨rfl, rfl⟩⟩, trivial⟩ ⟨⟨_, rfl, ⟨.inl ⟨rfl, rfl⟩, .inl ⟨rfl, rfl⟩, .inl ⟨rfl, rfl⟩, .inl ⟨rfl, rfl⟩, .inl ⟨rfl, rfl⟩, .inl ⟨rfl, rfl⟩, trivial⟩⟩, trivial⟩) ?_
        refine SOps.nil ?_
        refine SCode.ret ?_
        obtain rfl := Option.some.inj h
        exact ⟨⟨[(8, .c (.ptr 0 0)), (9, .c (.int .i64 15))], [.box [.str ByteArray.empty, .str ByteArray.empty, .int .i64 0, .int .i64 0, .int .i64 0, .int .i64 0]]⟩, _, sub_gen [0] rfl rfl ⟨⟨_, rfl, .inl ⟨rfl, rfl⟩⟩, ⟨_, rfl, .inl ⟨rfl, rfl⟩⟩, trivial⟩ ⟨⟨_, rfl, ⟨.inl ⟨rfl, rfl⟩, .inl ⟨rfl, rfl⟩, .inl ⟨rfl, rfl⟩, .inl ⟨rfl, rfl⟩, .inl ⟨rfl, rfl⟩, .inl ⟨rfl, rfl⟩, trivial⟩⟩, trivial⟩, resA2 (v1 := .a [.str ByteArray.empty, .str ByteArray.empty, .int .i64 0, .int .i64 0, .int .i64 0, .int .i64 0]) (v2 := .c (.int .i64 15)) rfl ⟨_, rfl, rfl, ty30⟩ rfl, rfl⟩
      · refine SCode.cond_f rfl g5 ?_
        refine SCode.skip ?_
        refine SCode.seq ?_
        refine SCode.seq ?_
        rcases cond_out h with ⟨g6, h⟩ | ⟨g6, h⟩
        · refine SCode.region (show SOps _ _ _ [0, 1, 2, 3, 4, 5, 6, 7, 8, 9, 10, 11, 12, 13, 14, 15, 16, 17, 18, 19, 20, 21] _ _ from ?_)
          refine SOps.q rfl (.plain rfl) rfl (q_move rfl rfl) ?_
          refine SOps.q rfl (.plain rfl) rfl (q_lss rfl rfl rfl) ?_
          refine SOps.q rfl (.plain rfl) rfl (q_move rfl rfl) ?_
          refine SOps.skip rfl 2 27 false rfl rfl (.inl (gT g6)) rfl ?_
          refine SOps.skip rfl 2 27 false rfl rfl (.inl (gT g6)) rfl ?_
          refine SOps.skip rfl 2 27 false rfl rfl (.inl (gT g6)) rfl ?_
          refine SOps.skip rfl 2 27 false rfl rfl (.inl (gT g6)) rfl ?_
          refine SOps.q rfl (.plain rfl) rfl (q_pick_t rfl rfl g6 rfl) ?_
          refine SOps.q rfl (.plain rfl) rfl (q_move rfl rfl) ?_
          refine SOps.skip rfl 8 33 false rfl rfl (.inl rfl) rfl ?_
          refine SOps.skip rfl 8 33 false rfl rfl (.inl rfl) rfl ?_
          refine SOps.q rfl (.plain rfl) rfl (q_pick_t rfl rfl rfl rfl) ?_
          refine SOps.q rfl (.plain rfl) rfl (q_move rfl rfl) ?_
          refine SOps.skip rfl 12 37 false rfl rfl (.inl rfl) rfl ?_
          refine SOps.skip rfl 12 37 false rfl rfl (.inl rfl) rfl ?_
          refine SOps.skip rfl 12 37 false rfl rfl (.inl rfl) rfl ?_
          refine SOps.skip rfl 12 37 false rfl rfl (.inl rfl) rfl ?_
          refine SOps.q rfl (.plain rfl) rfl (q_pick_t rfl rfl rfl rfl) ?_
          refine SOps.q rfl (.plain rfl) rfl (q_move rfl rfl) ?_
          refine SOps.skip rfl 18 43 false rfl rfl (.inl rfl) rfl ?_
          refine SOps.skip rfl 18 43 false rfl rfl (.inl rfl) rfl ?_
          refine SOps.q rfl (.plain rfl) rfl (q_pick_t rfl rfl rfl rfl) ?_
          refine SOps.sub (st' := ⟨[(1, .c (.str a1_by)), (2, .c (.int .i64 a2_claim)), (3, .c (.int .i64 a3_now)), (4, .c (.ptr 0 0)), (8, .c (.ptr 1 0)), (46, .c (.bool true))], [.box [.str a0_c.ID, .str a0_c.Operator, .str a0_c.Provider, .str a0_c.Session, .int .i64 a0_c.Version, .int .i64 a0_c.Start, .int .i64 a0_c.End, .int .i64 a0_c.Energy, .str a0_c.Tariff, .str a0_c.Currency, .vec a0_c.Items.length 7 (gL cSItem dSItem a0_c.Items), .int .i64 a0_c.Total, .bool a0_c.Credit, .str a0_c.Ref], .box [.str ByteArray.empty, .str ByteArray.empty, .int .i64 0, .int .i64 0, .int .i64 0, .int .i64 0]]⟩) (sub_gen [0, 1] rfl rfl ⟨⟨_, rfl, .inl ⟨rfl, rfl⟩⟩, ⟨_, rfl, .inl ⟨rfl, rfl⟩⟩, ⟨_, rfl, .inl ⟨rfl, rfl⟩⟩, ⟨_, rfl, .inl ⟨rfl, rfl⟩⟩, ⟨_, rfl, .inl ⟨rfl, rfl⟩⟩, ⟨_, rfl, .inl ⟨rfl, rfl⟩⟩, trivial⟩ ⟨⟨_, rfl, ⟨.inl ⟨rfl, rfl⟩, .inl ⟨rfl, rfl⟩, .inl ⟨rfl, rfl⟩, .inl ⟨rfl, rfl⟩, .inl ⟨rfl, rfl⟩, .inl ⟨rfl, rfl⟩, .inl ⟨rfl, rfl⟩, .inl ⟨rfl, rfl⟩, .inl ⟨rfl, rfl⟩, .inl ⟨rfl, rfl⟩, .inl ⟨rfl, rfl⟩, .inl ⟨rfl, rfl⟩, .inl ⟨rfl, rfl⟩, .inl ⟨rfl, rfl⟩, trivial⟩⟩, ⟨_, rfl, ⟨.inl ⟨rfl, rfl⟩, .inl ⟨rfl, rfl⟩, .inl ⟨rfl, rfl⟩, .inl ⟨rfl, rfl⟩, .inl ⟨rfl, rfl⟩, .inl ⟨rfl, rfl⟩, trivial⟩⟩, trivial⟩) ?_
          refine SOps.nil ?_
          refine SCode.cond_t rfl rfl ?_
          refine SCode.seq ?_
          refine SCode.region (show SOps _ _ _ [0, 1, 2] _ _ from ?_)
          refine SOps.q rfl (.plain rfl) rfl (q_build2 rfl rfl pl30 rfl) ?_
          refine SOps.e rfl (.plain rfl) (e_store_box rfl rfl rfl rfl rfl ty30 rfl rfl rfl rfl) ?_
          refine SOps.q rfl (.plain rfl) rfl (q_assign rfl rfl) ?_
          refine SOps.sub (st' := ⟨[(8, .c (.ptr 0 0)), (9, .c (.int .i64 2))], [.box [.str ByteArray.empty, .str ByteArray.empty, .int .i64 0, .int .i64 0, .int .i64 0, .int .i64 0]]⟩) (sub_gen [1] rfl rfl ⟨⟨_, rfl, .inl ⟨rfl, rfl⟩⟩, ⟨_, rfl, .inl ⟨rfl, rfl⟩⟩, trivial⟩ ⟨⟨_, rfl, ⟨.inl ⟨rfl, rfl⟩, .inl ⟨rfl, rfl⟩, .inl ⟨rfl, rfl⟩, .inl ⟨rfl, rfl⟩, .inl ⟨rfl, rfl⟩, .inl ⟨rfl, rfl⟩, trivial⟩⟩, trivial⟩) ?_
          refine SOps.nil ?_
          refine SCode.ret ?_
          obtain rfl := Option.some.inj h
          exact ⟨⟨[(8, .c (.ptr 0 0)), (9, .c (.int .i64 2))], [.box [.str ByteArray.empty, .str ByteArray.empty, .int .i64 0, .int .i64 0, .int .i64 0, .int .i64 0]]⟩, _, sub_gen [0] rfl rfl ⟨⟨_, rfl, .inl ⟨rfl, rfl⟩⟩, ⟨_, rfl, .inl ⟨rfl, rfl⟩⟩, trivial⟩ ⟨⟨_, rfl, ⟨.inl ⟨rfl, rfl⟩, .inl ⟨rfl, rfl⟩, .inl ⟨rfl, rfl⟩, .inl ⟨rfl, rfl⟩, .inl ⟨rfl, rfl⟩, .inl ⟨rfl, rfl⟩, trivial⟩⟩, trivial⟩, resA2 (v1 := .a [.str ByteArray.empty, .str ByteArray.empty, .int .i64 0, .int .i64 0, .int .i64 0, .int .i64 0]) (v2 := .c (.int .i64 2)) rfl ⟨_, rfl, rfl, ty30⟩ rfl, rfl⟩
        · rcases cond_out h with ⟨g7, h⟩ | ⟨g7, h⟩
          · refine SCode.region (show SOps _ _ _ [0, 1, 2, 3, 4, 5, 6, 7, 8, 9, 10, 11, 12, 13, 14, 15, 16, 17, 18, 19, 20, 21] _ _ from ?_)
            refine SOps.q rfl (.plain rfl) rfl (q_move rfl rfl) ?_
            refine SOps.q rfl (.plain rfl) rfl (q_lss rfl rfl rfl) ?_
            refine SOps.q rfl (.plain rfl) rfl (q_move rfl rfl) ?_
            refine SOps.q rfl (.guard 2 27 false rfl rfl (gF g6)) rfl (q_move rfl rfl) ?_
            refine SOps.q rfl (.guard 2 27 false rfl rfl (gF g6)) rfl (q_field_ptr rfl rfl fd25_11) ?_
            refine SOps.q rfl (.guard 2 27 false rfl rfl (gF g6)) rfl (q_load_ptr rfl rfl rfl rfl ty3) ?_
            refine SOps.q rfl (.guard 2 27 false rfl rfl (gF g6)) rfl (q_gtr rfl rfl rfl) ?_
            refine SOps.q rfl (.plain rfl) rfl (q_pick_f rfl rfl g6 rfl) ?_
            refine SOps.q rfl (.plain rfl) rfl (q_move rfl rfl) ?_
            refine SOps.skip rfl 8 33 false rfl rfl (.inl (gT g7)) rfl ?_
            refine SOps.skip rfl 8 33 false rfl rfl (.inl (gT g7)) rfl ?_
            refine SOps.q rfl (.plain rfl) rfl (q_pick_t rfl rfl g7 rfl) ?_
            refine SOps.q rfl (.plain rfl) rfl (q_move rfl rfl) ?_
            refine SOps.skip rfl 12 37 false rfl rfl (.inl rfl) rfl ?_
            refine SOps.skip rfl 12 37 false rfl rfl (.inl rfl) rfl ?_
            refine SOps.skip rfl 12 37 false rfl rfl (.inl rfl) rfl ?_
            refine SOps.skip rfl 12 37 false rfl rfl (.inl rfl) rfl ?_
            refine SOps.q rfl (.plain rfl) rfl (q_pick_t rfl rfl rfl rfl) ?_
            refine SOps.q rfl (.plain rfl) rfl (q_move rfl rfl) ?_
            refine SOps.skip rfl 18 43 false rfl rfl (.inl rfl) rfl ?_
            refine SOps.skip rfl 18 43 false rfl rfl (.inl rfl) rfl ?_
            refine SOps.q rfl (.plain rfl) rfl (q_pick_t rfl rfl rfl rfl) ?_
            refine SOps.sub (st' := ⟨[(1, .c (.str a1_by)), (2, .c (.int .i64 a2_claim)), (3, .c (.int .i64 a3_now)), (4, .c (.ptr 0 0)), (8, .c (.ptr 1 0)), (46, .c (.bool true))], [.box [.str a0_c.ID, .str a0_c.Operator, .str a0_c.Provider, .str a0_c.Session, .int .i64 a0_c.Version, .int .i64 a0_c.Start, .int .i64 a0_c.End, .int .i64 a0_c.Energy, .str a0_c.Tariff, .str a0_c.Currency, .vec a0_c.Items.length 7 (gL cSItem dSItem a0_c.Items), .int .i64 a0_c.Total, .bool a0_c.Credit, .str a0_c.Ref], .box [.str ByteArray.empty, .str ByteArray.empty, .int .i64 0, .int .i64 0, .int .i64 0, .int .i64 0]]⟩) (sub_gen [0, 1] rfl rfl ⟨⟨_, rfl, .inl ⟨rfl, rfl⟩⟩, ⟨_, rfl, .inl ⟨rfl, rfl⟩⟩, ⟨_, rfl, .inl ⟨rfl, rfl⟩⟩, ⟨_, rfl, .inl ⟨rfl, rfl⟩⟩, ⟨_, rfl, .inl ⟨rfl, rfl⟩⟩, ⟨_, rfl, .inl ⟨rfl, rfl⟩⟩, trivial⟩ ⟨⟨_, rfl, ⟨.inl ⟨rfl, rfl⟩, .inl ⟨rfl, rfl⟩, .inl ⟨rfl, rfl⟩, .inl ⟨rfl, rfl⟩, .inl ⟨rfl, rfl⟩, .inl ⟨rfl, rfl⟩, .inl ⟨rfl, rfl⟩, .inl ⟨rfl, rfl⟩, .inl ⟨rfl, rfl⟩, .inl ⟨rfl, rfl⟩, .inl ⟨rfl, rfl⟩, .inl ⟨rfl, rfl⟩, .inl ⟨rfl, rfl⟩, .inl ⟨rfl, rfl⟩, trivial⟩⟩, ⟨_, rfl, ⟨.inl ⟨rfl, rfl⟩, .inl ⟨rfl, rfl⟩, .inl ⟨rfl, rfl⟩, .inl ⟨rfl, rfl⟩, .inl ⟨rfl, rfl⟩, .inl ⟨rfl, rfl⟩, trivial⟩⟩, trivial⟩) ?_
            refine SOps.nil ?_
            refine SCode.cond_t rfl rfl ?_
            refine SCode.seq ?_
            refine SCode.region (show SOps _ _ _ [0, 1, 2] _ _ from ?_)
            refine SOps.q rfl (.plain rfl) rfl (q_build2 rfl rfl pl30 rfl) ?_
            refine SOps.e rfl (.plain rfl) (e_store_box rfl rfl rfl rfl rfl ty30 rfl rfl rfl rfl) ?_
            refine SOps.q rfl (.plain rfl) rfl (q_assign rfl rfl) ?_
            refine SOps.sub (st' := ⟨[(8, .c (.ptr 0 0)), (9, .c (.int .i64 2))], [.box [.str ByteArray.empty, .str ByteArray.empty, .int .i64 0, .int .i64 0, .int .i64 0, .int .i64 0]]⟩) (sub_gen [1] rfl rfl ⟨⟨_, rfl, .inl ⟨rfl, rfl⟩⟩, ⟨_, rfl, .inl ⟨rfl, rfl⟩⟩, trivial⟩ ⟨⟨_, rfl, ⟨.inl ⟨rfl, rfl⟩, .inl ⟨rfl, rfl⟩, .inl ⟨rfl, rfl⟩, .inl ⟨rfl, rfl⟩, .inl ⟨rfl, rfl⟩, .inl ⟨rfl, rfl⟩, trivial⟩⟩, trivial⟩) ?_
            refine SOps.nil ?_
            refine SCode.ret ?_
            obtain rfl := Option.some.inj h
            exact ⟨⟨[(8, .c (.ptr 0 0)), (9, .c (.int .i64 2))], [.box [.str ByteArray.empty, .str ByteArray.empty, .int .i64 0, .int .i64 0, .int .i64 0, .int .i64 0]]⟩, _, sub_gen [0] rfl rfl ⟨⟨_, rfl, .inl ⟨rfl, rfl⟩⟩, ⟨_, rfl, .inl ⟨rfl, rfl⟩⟩, trivial⟩ ⟨⟨_, rfl, ⟨.inl ⟨rfl, rfl⟩, .inl ⟨rfl, rfl⟩, .inl ⟨rfl, rfl⟩, .inl ⟨rfl, rfl⟩, .inl ⟨rfl, rfl⟩, .inl ⟨rfl, rfl⟩, trivial⟩⟩, trivial⟩, resA2 (v1 := .a [.str ByteArray.empty, .str ByteArray.empty, .int .i64 0, .int .i64 0, .int .i64 0, .int .i64 0]) (v2 := .c (.int .i64 2)) rfl ⟨_, rfl, rfl, ty30⟩ rfl, rfl⟩
          · rcases cond_out h with ⟨g8, h⟩ | ⟨g8, h⟩
            · refine SCode.region (show SOps _ _ _ [0, 1, 2, 3, 4, 5, 6, 7, 8, 9, 10, 11, 12, 13, 14, 15, 16, 17, 18, 19, 20, 21] _ _ from ?_)
              refine SOps.q rfl (.plain rfl) rfl (q_move rfl rfl) ?_
              refine SOps.q rfl (.plain rfl) rfl (q_lss rfl rfl rfl) ?_
              refine SOps.q rfl (.plain rfl) rfl (q_move rfl rfl) ?_
              refine SOps.q rfl (.guard 2 27 false rfl rfl (gF g6)) rfl (q_move rfl rfl) ?_
              refine SOps.q rfl (.guard 2 27 false rfl rfl (gF g6)) rfl (q_field_ptr rfl rfl fd25_11) ?_
              refine SOps.q rfl (.guard 2 27 false rfl rfl (gF g6)) rfl (q_load_ptr rfl rfl rfl rfl ty3) ?_
              refine SOps.q rfl (.guard 2 27 false rfl rfl (gF g6)) rfl (q_gtr rfl rfl rfl) ?_
              refine SOps.q rfl (.plain rfl) rfl (q_pick_f rfl rfl g6 rfl) ?_
              refine SOps.q rfl (.plain rfl) rfl (q_move rfl rfl) ?_
              refine SOps.q rfl (.guard 8 33 false rfl rfl (gF g7)) rfl (q_move rfl rfl) ?_
              refine SOps.q rfl (.guard 8 33 false rfl rfl (gF g7)) rfl (q_gtr rfl rfl rfl) ?_
              refine SOps.q rfl (.plain rfl) rfl (q_pick_f rfl rfl g7 rfl) ?_
              refine SOps.q rfl (.plain rfl) rfl (q_move rfl rfl) ?_
              refine SOps.skip rfl 12 37 false rfl rfl (.inl (gT g8)) rfl ?_
              refine SOps.skip rfl 12 37 false rfl rfl (.inl (gT g8)) rfl ?_
              refine SOps.skip rfl 12 37 false rfl rfl (.inl (gT g8)) rfl ?_
              refine SOps.skip rfl 12 37 false rfl rfl (.inl (gT g8)) rfl ?_
              refine SOps.q rfl (.plain rfl) rfl (q_pick_t rfl rfl g8 rfl) ?_
              refine SOps.q rfl (.plain rfl) rfl (q_move rfl rfl) ?_
              refine SOps.skip rfl 18 43 false rfl rfl (.inl rfl) rfl ?_
              refine SOps.skip rfl 18 43 false rfl rfl (.inl rfl) rfl ?_
              refine SOps.q rfl (.plain rfl) rfl (q_pick_t rfl rfl rfl rfl) ?_
              refine SOps.sub (st' := ⟨[(1, .c (.str a1_by)), (2, .c (.int .i64 a2_claim)), (3, .c (.int .i64 a3_now)), (4, .c (.ptr 0 0)), (8, .c (.ptr 1 0)), (46, .c (.bool true))], [.box [.str a0_c.ID, .str a0_c.Operator, .str a0_c.Provider, .str a0_c.Session, .int .i64 a0_c.Version, .int .i64 a0_c.Start, .int .i64 a0_c.End, .int .i64 a0_c.Energy, .str a0_c.Tariff, .str a0_c.Currency, .vec a0_c.Items.length 7 (gL cSItem dSItem a0_c.Items), .int .i64 a0_c.Total, .bool a0_c.Credit, .str a0_c.Ref], .box [.str ByteArray.empty, .str ByteArray.empty, .int .i64 0, .int .i64 0, .int .i64 0, .int .i64 0]]⟩) (sub_gen [0, 1] rfl rfl ⟨⟨_, rfl, .inl ⟨rfl, rfl⟩⟩, ⟨_, rfl, .inl ⟨rfl, rfl⟩⟩, ⟨_, rfl, .inl ⟨rfl, rfl⟩⟩, ⟨_, rfl, .inl ⟨rfl, rfl⟩⟩, ⟨_, rfl, .inl ⟨rfl, rfl⟩⟩, ⟨_, rfl, .inl ⟨rfl, rfl⟩⟩, trivial⟩ ⟨⟨_, rfl, ⟨.inl ⟨rfl, rfl⟩, .inl ⟨rfl, rfl⟩, .inl ⟨rfl, rfl⟩, .inl ⟨rfl, rfl⟩, .inl ⟨rfl, rfl⟩, .inl ⟨rfl, rfl⟩, .inl ⟨rfl, rfl⟩, .inl ⟨rfl, rfl⟩, .inl ⟨rfl, rfl⟩, .inl ⟨rfl, rfl⟩, .inl ⟨rfl, rfl⟩, .inl ⟨rfl, rfl⟩, .inl ⟨rfl, rfl⟩, .inl ⟨rfl, rfl⟩, trivial⟩⟩, ⟨_, rfl, ⟨.inl ⟨rfl, rfl⟩, .inl ⟨rfl, rfl⟩, .inl ⟨rfl, rfl⟩, .inl ⟨rfl, rfl⟩, .inl ⟨rfl, rfl⟩, .inl ⟨rfl, rfl⟩, trivial⟩⟩, trivial⟩) ?_
              refine SOps.nil ?_
              refine SCode.cond_t rfl rfl ?_
              refine SCode.seq ?_
              refine SCode.region (show SOps _ _ _ [0, 1, 2] _ _ from ?_)
              refine SOps.q rfl (.plain rfl) rfl (q_build2 rfl rfl pl30 rfl) ?_
              refine SOps.e rfl (.plain rfl) (e_store_box rfl rfl rfl rfl rfl ty30 rfl rfl rfl rfl) ?_
              refine SOps.q rfl (.plain rfl) rfl (q_assign rfl rfl) ?_
              refine SOps.sub (st' := ⟨[(8, .c (.ptr 0 0)), (9, .c (.int .i64 2))], [.box [.str ByteArray.empty, .str ByteArray.empty, .int .i64 0, .int .i64 0, .int .i64 0, .int .i64 0]]⟩) (sub_gen [1] rfl rfl ⟨⟨_, rfl, .inl ⟨rfl, rfl⟩⟩, ⟨_, rfl, .inl ⟨rfl, rfl⟩⟩, trivial⟩ ⟨⟨_, rfl, ⟨.inl ⟨rfl, rfl⟩, .inl ⟨rfl, rfl⟩, .inl ⟨rfl, rfl⟩, .inl ⟨rfl, rfl⟩, .inl ⟨rfl, rfl⟩, .inl ⟨rfl, rfl⟩, trivial⟩⟩, trivial⟩) ?_
              refine SOps.nil ?_
              refine SCode.ret ?_
              obtain rfl := Option.some.inj h
              exact ⟨⟨[(8, .c (.ptr 0 0)), (9, .c (.int .i64 2))], [.box [.str ByteArray.empty, .str ByteArray.empty, .int .i64 0, .int .i64 0, .int .i64 0, .int .i64 0]]⟩, _, sub_gen [0] rfl rfl ⟨⟨_, rfl, .inl ⟨rfl, rfl⟩⟩, ⟨_, rfl, .inl ⟨rfl, rfl⟩⟩, trivial⟩ ⟨⟨_, rfl, ⟨.inl ⟨rfl, rfl⟩, .inl ⟨rfl, rfl⟩, .inl ⟨rfl, rfl⟩, .inl ⟨rfl, rfl⟩, .inl ⟨rfl, rfl⟩, .inl ⟨rfl, rfl⟩, trivial⟩⟩, trivial⟩, resA2 (v1 := .a [.str ByteArray.empty, .str ByteArray.empty, .int .i64 0, .int .i64 0, .int .i64 0, .int .i64 0]) (v2 := .c (.int .i64 2)) rfl ⟨_, rfl, rfl, ty30⟩ rfl, rfl⟩
            · rcases cond_out h with ⟨g9, h⟩ | ⟨g9, h⟩
              · refine SCode.region (show SOps _ _ _ [0, 1, 2, 3, 4, 5, 6, 7, 8, 9, 10, 11, 12, 13, 14, 15, 16, 17, 18, 19, 20, 21] _ _ from ?_)
                refine SOps.q rfl (.plain rfl) rfl (q_move rfl rfl) ?_
                refine SOps.q rfl (.plain rfl) rfl (q_lss rfl rfl rfl) ?_
                refine SOps.q rfl (.plain rfl) rfl (q_move rfl rfl) ?_
                refine SOps.q rfl (.guard 2 27 false rfl rfl (gF g6)) rfl (q_move rfl rfl) ?_
                refine SOps.q rfl (.guard 2 27 false rfl rfl (gF g6)) rfl (q_field_ptr rfl rfl fd25_11) ?_
                refine SOps.q rfl (.guard 2 27 false rfl rfl (gF g6)) rfl (q_load_ptr rfl rfl rfl rfl ty3) ?_
                refine SOps.q rfl (.guard 2 27 false rfl rfl (gF g6)) rfl (q_gtr rfl rfl rfl) ?_
                refine SOps.q rfl (.plain rfl) rfl (q_pick_f rfl rfl g6 rfl) ?_
                refine SOps.q rfl (.plain rfl) rfl (q_move rfl rfl) ?_
                refine SOps.q rfl (.guard 8 33 false rfl rfl (gF g7)) rfl (q_move rfl rfl) ?_
                refine SOps.q rfl (.guard 8 33 false rfl rfl (gF g7)) rfl (q_gtr rfl rfl rfl) ?_
                refine SOps.q rfl (.plain rfl) rfl (q_pick_f rfl rfl g7 rfl) ?_
                refine SOps.q rfl (.plain rfl) rfl (q_move rfl rfl) ?_
                refine SOps.q rfl (.guard 12 37 false rfl rfl (gF g8)) rfl (q_move rfl rfl) ?_
                refine SOps.q rfl (.guard 12 37 false rfl rfl (gF g8)) rfl (q_field_ptr rfl rfl fd25_6) ?_
                refine SOps.q rfl (.guard 12 37 false rfl rfl (gF g8)) rfl (q_load_ptr rfl rfl rfl rfl ty3) ?_
                refine SOps.q rfl (.guard 12 37 false rfl rfl (gF g8)) rfl (q_lss rfl rfl rfl) ?_
                refine SOps.q rfl (.plain rfl) rfl (q_pick_f rfl rfl g8 rfl) ?_
                refine SOps.q rfl (.plain rfl) rfl (q_move rfl rfl) ?_
                refine SOps.skip rfl 18 43 false rfl rfl (.inl (gT g9)) rfl ?_
                refine SOps.skip rfl 18 43 false rfl rfl (.inl (gT g9)) rfl ?_
                refine SOps.q rfl (.plain rfl) rfl (q_pick_t rfl rfl g9 rfl) ?_
                refine SOps.sub (st' := ⟨[(1, .c (.str a1_by)), (2, .c (.int .i64 a2_claim)), (3, .c (.int .i64 a3_now)), (4, .c (.ptr 0 0)), (8, .c (.ptr 1 0)), (46, .c (.bool true))], [.box [.str a0_c.ID, .str a0_c.Operator, .str a0_c.Provider, .str a0_c.Session, .int .i64 a0_c.Version, .int .i64 a0_c.Start, .int .i64 a0_c.End, .int .i64 a0_c.Energy, .str a0_c.Tariff, .str a0_c.Currency, .vec a0_c.Items.length 7 (gL cSItem dSItem a0_c.Items), .int .i64 a0_c.Total, .bool a0_c.Credit, .str a0_c.Ref], .box [.str ByteArray.empty, .str ByteArray.empty, .int .i64 0, .int .i64 0, .int .i64 0, .int .i64 0]]⟩) (sub_gen [0, 1] rfl rfl ⟨⟨_, rfl, .inl ⟨rfl, rfl⟩⟩, ⟨_, rfl, .inl ⟨rfl, rfl⟩⟩, ⟨_, rfl, .inl ⟨rfl, rfl⟩⟩, ⟨_, rfl, .inl ⟨rfl, rfl⟩⟩, ⟨_, rfl, .inl ⟨rfl, rfl⟩⟩, ⟨_, rfl, .inl ⟨rfl, rfl⟩⟩, trivial⟩ ⟨⟨_, rfl, ⟨.inl ⟨rfl, rfl⟩, .inl ⟨rfl, rfl⟩, .inl ⟨rfl, rfl⟩, .inl ⟨rfl, rfl⟩, .inl ⟨rfl, rfl⟩, .inl ⟨rfl, rfl⟩, .inl ⟨rfl, rfl⟩, .inl ⟨rfl, rfl⟩, .inl ⟨rfl, rfl⟩, .inl ⟨rfl, rfl⟩, .inl ⟨rfl, rfl⟩, .inl ⟨rfl, rfl⟩, .inl ⟨rfl, rfl⟩, .inl ⟨rfl, rfl⟩, trivial⟩⟩, ⟨_, rfl, ⟨.inl ⟨rfl, rfl⟩, .inl ⟨rfl, rfl⟩, .inl ⟨rfl, rfl⟩, .inl ⟨rfl, rfl⟩, .inl ⟨rfl, rfl⟩, .inl ⟨rfl, rfl⟩, trivial⟩⟩, trivial⟩) ?_
                refine SOps.nil ?_
                refine SCode.cond_t rfl rfl ?_
                refine SCode.seq ?_
                refine SCode.region (show SOps _ _ _ [0, 1, 2] _ _ from ?_)
                refine SOps.q rfl (.plain rfl) rfl (q_build2 rfl rfl pl30 rfl) ?_
                refine SOps.e rfl (.plain rfl) (e_store_box rfl rfl rfl rfl rfl ty30 rfl rfl rfl rfl) ?_
                refine SOps.q rfl (.plain rfl) rfl (q_assign rfl rfl) ?_
                refine SOps.sub (st' := ⟨[(8, .c (.ptr 0 0)), (9, .c (.int .i64 2))], [.box [.str ByteArray.empty, .str ByteArray.empty, .int .i64 0, .int .i64 0, .int .i64 0, .int .i64 0]]⟩) (sub_gen [1] rfl rfl ⟨⟨_, rfl, .inl ⟨rfl, rfl⟩⟩, ⟨_, rfl, .inl ⟨rfl, rfl⟩⟩, trivial⟩ ⟨⟨_, rfl, ⟨.inl ⟨rfl, rfl⟩, .inl ⟨rfl, rfl⟩, .inl ⟨rfl, rfl⟩, .inl ⟨rfl, rfl⟩, .inl ⟨rfl, rfl⟩, .inl ⟨rfl, rfl⟩, trivial⟩⟩, trivial⟩) ?_
                refine SOps.nil ?_
                refine SCode.ret ?_
                obtain rfl := Option.some.inj h
                exact ⟨⟨[(8, .c (.ptr 0 0)), (9, .c (.int .i64 2))], [.box [.str ByteArray.empty, .str ByteArray.empty, .int .i64 0, .int .i64 0, .int .i64 0, .int .i64 0]]⟩, _, sub_gen [0] rfl rfl ⟨⟨_, rfl, .inl ⟨rfl, rfl⟩⟩, ⟨_, rfl, .inl ⟨rfl, rfl⟩⟩, trivial⟩ ⟨⟨_, rfl, ⟨.inl ⟨rfl, rfl⟩, .inl ⟨rfl, rfl⟩, .inl ⟨rfl, rfl⟩, .inl ⟨rfl, rfl⟩, .inl ⟨rfl, rfl⟩, .inl ⟨rfl, rfl⟩, trivial⟩⟩, trivial⟩, resA2 (v1 := .a [.str ByteArray.empty, .str ByteArray.empty, .int .i64 0, .int .i64 0, .int .i64 0, .int .i64 0]) (v2 := .c (.int .i64 2)) rfl ⟨_, rfl, rfl, ty30⟩ rfl, rfl⟩
              · refine SCode.region (show SOps _ _ _ [0, 1, 2, 3, 4, 5, 6, 7, 8, 9, 10, 11, 12, 13, 14, 15, 16, 17, 18, 19, 20, 21] _ _ from ?_)
                refine SOps.q rfl (.plain rfl) rfl (q_move rfl rfl) ?_
                refine SOps.q rfl (.plain rfl) rfl (q_lss rfl rfl rfl) ?_
                refine SOps.q rfl (.plain rfl) rfl (q_move rfl rfl) ?_
                refine SOps.q rfl (.guard 2 27 false rfl rfl (gF g6)) rfl (q_move rfl rfl) ?_
                refine SOps.q rfl (.guard 2 27 false rfl rfl (gF g6)) rfl (q_field_ptr rfl rfl fd25_11) ?_
                refine SOps.q rfl (.guard 2 27 false rfl rfl (gF g6)) rfl (q_load_ptr rfl rfl rfl rfl ty3) ?_
                refine SOps.q rfl (.guard 2 27 false rfl rfl (gF g6)) rfl (q_gtr rfl rfl rfl) ?_
                refine SOps.q rfl (.plain rfl) rfl (q_pick_f rfl rfl g6 rfl) ?_
                refine SOps.q rfl (.plain rfl) rfl (q_move rfl rfl) ?_
                refine SOps.q rfl (.guard 8 33 false rfl rfl (gF g7)) rfl (q_move rfl rfl) ?_
                refine SOps.q rfl (.guard 8 33 false rfl rfl (gF g7)) rfl (q_gtr rfl rfl rfl) ?_
                refine SOps.q rfl (.plain rfl) rfl (q_pick_f rfl rfl g7 rfl) ?_
                refine SOps.q rfl (.plain rfl) rfl (q_move rfl rfl) ?_
                refine SOps.q rfl (.guard 12 37 false rfl rfl (gF g8)) rfl (q_move rfl rfl) ?_
                refine SOps.q rfl (.guard 12 37 false rfl rfl (gF g8)) rfl (q_field_ptr rfl rfl fd25_6) ?_
                refine SOps.q rfl (.guard 12 37 false rfl rfl (gF g8)) rfl (q_load_ptr rfl rfl rfl rfl ty3) ?_
                refine SOps.q rfl (.guard 12 37 false rfl rfl (gF g8)) rfl (q_lss rfl rfl rfl) ?_
                refine SOps.q rfl (.plain rfl) rfl (q_pick_f rfl rfl g8 rfl) ?_
                refine SOps.q rfl (.plain rfl) rfl (q_move rfl rfl) ?_
                refine SOps.q rfl (.guard 18 43 false rfl rfl (gF g9)) rfl (q_move rfl rfl) ?_
                refine SOps.q rfl (.guard 18 43 false rfl rfl (gF g9)) rfl (q_gtr rfl rfl rfl) ?_
                refine SOps.q rfl (.plain rfl) rfl (q_pick_f rfl rfl g9 rfl) ?_
                refine SOps.sub (st' := ⟨[(1, .c (.str a1_by)), (2, .c (.int .i64 a2_claim)), (3, .c (.int .i64 a3_now)), (4, .c (.ptr 0 0)), (8, .c (.ptr 1 0)), (46, .c (.bool (decide (268435456 < a3_now))))], [.box [.str a0_c.ID, .str a0_c.Operator, .str a0_c.Provider, .str a0_c.Session, .int .i64 a0_c.Version, .int .i64 a0_c.Start, .int .i64 a0_c.End, .int .i64 a0_c.Energy, .str a0_c.Tariff, .str a0_c.Currency, .vec a0_c.Items.length 7 (gL cSItem dSItem a0_c.Items), .int .i64 a0_c.Total, .bool a0_c.Credit, .str a0_c.Ref], .box [.str ByteArray.empty, .str ByteArray.empty, .int .i64 0, .int .i64 0, .int .i64 0, .int .i64 0]]⟩) (sub_gen [0, 1] rfl rfl ⟨⟨_, rfl, .inl ⟨rfl, rfl⟩⟩, ⟨_, rfl, .inl ⟨rfl, rfl⟩⟩, ⟨_, rfl, .inl ⟨rfl, rfl⟩⟩, ⟨_, rfl, .inl ⟨rfl, rfl⟩⟩, ⟨_, rfl, .inl ⟨rfl, rfl⟩⟩, ⟨_, rfl, .inl ⟨rfl, rfl⟩⟩, trivial⟩ ⟨⟨_, rfl, ⟨.inl ⟨rfl, rfl⟩, .inl ⟨rfl, rfl⟩, .inl ⟨rfl, rfl⟩, .inl ⟨rfl, rfl⟩, .inl ⟨rfl, rfl⟩, .inl ⟨rfl, rfl⟩, .inl ⟨rfl, rfl⟩, .inl ⟨rfl, rfl⟩, .inl ⟨rfl, rfl⟩, .inl ⟨rfl, rfl⟩, .inl ⟨rfl, rfl⟩, .inl ⟨rfl, rfl⟩, .inl ⟨rfl, rfl⟩, .inl ⟨rfl, rfl⟩, trivial⟩⟩, ⟨_, rfl, ⟨.inl ⟨rfl, rfl⟩, .inl ⟨rfl, rfl⟩, .inl ⟨rfl, rfl⟩, .inl ⟨rfl, rfl⟩, .inl ⟨rfl, rfl⟩, .inl ⟨rfl, rfl⟩, trivial⟩⟩, trivial⟩) ?_
                refine SOps.nil ?_
                rcases cond_out h with ⟨g10, h⟩ | ⟨g10, h⟩
                · refine SCode.cond_t rfl g10 ?_
                  refine SCode.seq ?_
                  refine SCode.region (show SOps _ _ _ [0, 1, 2] _ _ from ?_)
                  refine SOps.q rfl (.plain rfl) rfl (q_build2 rfl rfl pl30 rfl) ?_
                  refine SOps.e rfl (.plain rfl) (e_store_box rfl rfl rfl rfl rfl ty30 rfl rfl rfl rfl) ?_
                  refine SOps.q rfl (.plain rfl) rfl (q_assign rfl rfl) ?_
                  refine SOps.sub (st' := ⟨[(8, .c (.ptr 0 0)), (9, .c (.int .i64 2))], [.box [.str ByteArray.empty, .str ByteArray.empty, .int .i64 0, .int .i64 0, .int .i64 0, .int .i64 0]]⟩) (sub_gen [1] rfl rfl ⟨⟨_, rfl, .inl ⟨rfl, rfl⟩⟩, ⟨_, rfl, .inl ⟨rfl, rfl⟩⟩, trivial⟩ ⟨⟨_, rfl, ⟨.inl ⟨rfl, rfl⟩, .inl ⟨rfl, rfl⟩, .inl ⟨rfl, rfl⟩, .inl ⟨rfl, rfl⟩, .inl ⟨rfl, rfl⟩, .inl ⟨rfl, rfl⟩, trivial⟩⟩, trivial⟩) ?_
                  refine SOps.nil ?_
                  refine SCode.ret ?_
                  obtain rfl := Option.some.inj h
                  exact ⟨⟨[(8, .c (.ptr 0 0)), (9, .c (.int .i64 2))], [.box [.str ByteArray.empty, .str ByteArray.empty, .int .i64 0, .int .i64 0, .int .i64 0, .int .i64 0]]⟩, _, sub_gen [0] rfl rfl ⟨⟨_, rfl, .inl ⟨rfl, rfl⟩⟩, ⟨_, rfl, .inl ⟨rfl, rfl⟩⟩, trivial⟩ ⟨⟨_, rfl, ⟨.inl ⟨rfl, rfl⟩, .inl ⟨rfl, rfl⟩, .inl ⟨rfl, rfl⟩, .inl ⟨rfl, rfl⟩, .inl ⟨rfl, rfl⟩, .inl ⟨rfl, rfl⟩, trivial⟩⟩, trivial⟩, resA2 (v1 := .a [.str ByteArray.empty, .str ByteArray.empty, .int .i64 0, .int .i64 0, .int .i64 0, .int .i64 0]) (v2 := .c (.int .i64 2)) rfl ⟨_, rfl, rfl, ty30⟩ rfl, rfl⟩
                · refine SCode.cond_f rfl g10 ?_
                  refine SCode.skip ?_
                  refine SCode.seq ?_
                  refine SCode.seq ?_
                  refine SCode.region (show SOps _ _ _ [0, 1, 2, 3, 4] _ _ from ?_)
                  refine SOps.q rfl (.plain rfl) rfl (q_move rfl rfl) ?_
                  refine SOps.q rfl (.plain rfl) rfl (q_field_ptr rfl rfl fd25_6) ?_
                  refine SOps.q rfl (.plain rfl) rfl (q_load_ptr rfl rfl rfl rfl ty3) ?_
                  refine SOps.q rfl (.plain rfl) rfl (q_add rfl rfl rfl) ?_
                  refine SOps.q rfl (.plain rfl) rfl (q_gtr rfl rfl rfl) ?_
                  refine SOps.sub (st' := ⟨[(1, .c (.str a1_by)), (2, .c (.int .i64 a2_claim)), (3, .c (.int .i64 a3_now)), (4, .c (.ptr 0 0)), (8, .c (.ptr 1 0)), (52, .c (.bool (decide (IntKind.wrap .i64 (a0_c.End + 43200) < a3_now))))], [.box [.str a0_c.ID, .str a0_c.Operator, .str a0_c.Provider, .str a0_c.Session, .int .i64 a0_c.Version, .int .i64 a0_c.Start, .int .i64 a0_c.End, .int .i64 a0_c.Energy, .str a0_c.Tariff, .str a0_c.Currency, .vec a0_c.Items.length 7 (gL cSItem dSItem a0_c.Items), .int .i64 a0_c.Total, .bool a0_c.Credit, .str a0_c.Ref], .box [.str ByteArray.empty, .str ByteArray.empty, .int .i64 0, .int .i64 0, .int .i64 0, .int .i64 0]]⟩) (sub_gen [0, 1] rfl rfl ⟨⟨_, rfl, .inl ⟨rfl, rfl⟩⟩, ⟨_, rfl, .inl ⟨rfl, rfl⟩⟩, ⟨_, rfl, .inl ⟨rfl, rfl⟩⟩, ⟨_, rfl, .inl ⟨rfl, rfl⟩⟩, ⟨_, rfl, .inl ⟨rfl, rfl⟩⟩, ⟨_, rfl, .inl ⟨rfl, rfl⟩⟩, trivial⟩ ⟨⟨_, rfl, ⟨.inl ⟨rfl, rfl⟩, .inl ⟨rfl, rfl⟩, .inl ⟨rfl, rfl⟩, .inl ⟨rfl, rfl⟩, .inl ⟨rfl, rfl⟩, .inl ⟨rfl, rfl⟩, .inl ⟨rfl, rfl⟩, .inl ⟨rfl, rfl⟩, .inl ⟨rfl, rfl⟩, .inl ⟨rfl, rfl⟩, .inl ⟨rfl, rfl⟩, .inl ⟨rfl, rfl⟩, .inl ⟨rfl, rfl⟩, .inl ⟨rfl, rfl⟩, trivial⟩⟩, ⟨_, rfl, ⟨.inl ⟨rfl, rfl⟩, .inl ⟨rfl, rfl⟩, .inl ⟨rfl, rfl⟩, .inl ⟨rfl, rfl⟩, .inl ⟨rfl, rfl⟩, .inl ⟨rfl, rfl⟩, trivial⟩⟩, trivial⟩) ?_
                  refine SOps.nil ?_
                  rcases cond_out h with ⟨g11, h⟩ | ⟨g11, h⟩
                  · refine SCode.cond_t rfl g11 ?_
                    refine SCode.seq ?_
                    refine SCode.region (show SOps _ _ _ [0, 1, 2] _ _ from ?_)
                    refine SOps.q rfl (.plain rfl) rfl (q_build2 rfl rfl pl30 rfl) ?_
                    refine SOps.e rfl (.plain rfl) (e_store_box rfl rfl rfl rfl rfl ty30 rfl rfl rfl rfl) ?_
                    refine SOps.q rfl (.plain rfl) rfl (q_assign rfl rfl) ?_
                    refine SOps.sub (st' := ⟨[(8, .c (.ptr 0 0)), (9, .c (.int .i64 12))], [.box [.str ByteArray.empty, .str ByteArray.empty, .int .i64 0, .int .i64 0, .int .i64 0, .int .i64 0]]⟩) (sub_gen [1] rfl rfl ⟨⟨_, rfl, .inl ⟨rfl, rfl⟩⟩, ⟨_, rfl, .inl ⟨rfl, rfl⟩⟩, trivial⟩ ⟨⟨_, rfl, ⟨.inl ⟨rfl, rfl⟩, .inl ⟨rfl, rfl⟩, .inl ⟨rfl, rfl⟩, .inl ⟨rfl, rfl⟩, .inl ⟨rfl, rfl⟩, .inl ⟨rfl, rfl⟩, trivial⟩⟩, trivial⟩) ?_
                    refine SOps.nil ?_
                    refine SCode.ret ?_
                    obtain rfl := Option.some.inj h
                    exact ⟨⟨[(8, .c (.ptr 0 0)), (9, .c (.int .i64 12))], [.box [.str ByteArray.empty, .str ByteArray.empty, .int .i64 0, .int .i64 0, .int .i64 0, .int .i64 0]]⟩, _, sub_gen [0] rfl rfl ⟨⟨_, rfl, .inl ⟨rfl, rfl⟩⟩, ⟨_, rfl, .inl ⟨rfl, rfl⟩⟩, trivial⟩ ⟨⟨_, rfl, ⟨.inl ⟨rfl, rfl⟩, .inl ⟨rfl, rfl⟩, .inl ⟨rfl, rfl⟩, .inl ⟨rfl, rfl⟩, .inl ⟨rfl, rfl⟩, .inl ⟨rfl, rfl⟩, trivial⟩⟩, trivial⟩, resA2 (v1 := .a [.str ByteArray.empty, .str ByteArray.empty, .int .i64 0, .int .i64 0, .int .i64 0, .int .i64 0]) (v2 := .c (.int .i64 12)) rfl ⟨_, rfl, rfl, ty30⟩ rfl, rfl⟩
                  · refine SCode.cond_f rfl g11 ?_
                    refine SCode.skip ?_
                    refine SCode.seq ?_
                    refine SCode.region (show SOps _ _ _ [0, 1, 2, 3, 4, 5, 6, 7] _ _ from ?_)
                    refine SOps.q rfl (.plain rfl) rfl (q_field_ptr rfl rfl fd25_0) ?_
                    refine SOps.q rfl (.plain rfl) rfl (q_load_ptr rfl rfl rfl rfl ty9) ?_
                    refine SOps.q rfl (.plain rfl) rfl (q_move rfl rfl) ?_
                    refine SOps.q rfl (.plain rfl) rfl (q_move rfl rfl) ?_
                    refine SOps.q rfl (.plain rfl) rfl (q_move rfl rfl) ?_
                    refine SOps.q rfl (.plain rfl) rfl (q_build2 rfl rfl pl30 rfl) ?_
                    refine SOps.e rfl (.plain rfl) (e_store_box rfl rfl rfl rfl rfl ty30 rfl rfl rfl rfl) ?_
                    refine SOps.q rfl (.plain rfl) rfl (q_assign rfl rfl) ?_
                    refine SOps.sub (st' := ⟨[(8, .c (.ptr 0 0)), (9, .c (.int .i64 0))], [.box [.str a0_c.ID, .str a1_by, .int .i64 1, .int .i64 a3_now, .int .i64 a2_claim, .int .i64 0]]⟩) (sub_gen [1] rfl rfl ⟨⟨_, rfl, .inl ⟨rfl, rfl⟩⟩, ⟨_, rfl, .inl ⟨rfl, rfl⟩⟩, trivial⟩ ⟨⟨_, rfl, ⟨.inl ⟨rfl, rfl⟩, .inl ⟨rfl, rfl⟩, .inl ⟨rfl, rfl⟩, .inl ⟨rfl, rfl⟩, .inl ⟨rfl, rfl⟩, .inl ⟨rfl, rfl⟩, trivial⟩⟩, trivial⟩) ?_
                    refine SOps.nil ?_
                    refine SCode.ret ?_
                    obtain rfl := Option.some.inj h
                    exact ⟨⟨[(8, .c (.ptr 0 0)), (9, .c (.int .i64 0))], [.box [.str a0_c.ID, .str a1_by, .int .i64 1, .int .i64 a3_now, .int .i64 a2_claim, .int .i64 0]]⟩, _, sub_gen [0] rfl rfl ⟨⟨_, rfl, .inl ⟨rfl, rfl⟩⟩, ⟨_, rfl, .inl ⟨rfl, rfl⟩⟩, trivial⟩ ⟨⟨_, rfl, ⟨.inl ⟨rfl, rfl⟩, .inl ⟨rfl, rfl⟩, .inl ⟨rfl, rfl⟩, .inl ⟨rfl, rfl⟩, .inl ⟨rfl, rfl⟩, .inl ⟨rfl, rfl⟩, trivial⟩⟩, trivial⟩, resA2 (v1 := .a [.str a0_c.ID, .str a1_by, .int .i64 1, .int .i64 a3_now, .int .i64 a2_claim, .int .i64 0]) (v2 := .c (.int .i64 0)) rfl ⟨_, rfl, rfl, ty30⟩ rfl, rfl⟩
end Go.Proofs.Ytllifhmllicnhaa.W
