/- Written by a program of ours (wip/eng/gen.py): chargenet/chargenettop.DisputesSettle computes its model. -/
import Derived.Test.YtllifhmllicnhaaFacts
import Derived.Test.YtllifhmllicnhaaW4
import Derived.Test.YtllifhmllicnhaaW5
import Derived.Test.YtllifhmllicnhaaW6
import Derived.Test.YtllifhmllicnhaaW7
namespace Go.Proofs.Ytllifhmllicnhaa.W
open Go Go.Proofs Go.Proofs.Ytllifhmllicnhaa.E Go.Proofs.Ytllifhmllicnhaa.M
set_option linter.unusedVariables false
set_option maxHeartbeats 8000000 in
theorem chargenettop_DisputesSettle_ok (F : Nat) (a0_net : Int) (a1_claim : Int) (a2_granted : Int) (r : Bool) (h : chargenettop_DisputesSettle F a0_net a1_claim a2_granted = some r) :
    SFun Try.prog 3 [] [.c (.int .u16 a0_net), .c (.int .u16 a1_claim), .c (.int .u16 a2_granted)] (fun x _ => x = .c (.bool r)) := by
  refine SFun.of (n := 55) Try.func3 rfl rfl rfl ?_
  unfold chargenettop_DisputesSettle at h
  show SCode _ _ _ ⟨[(0, .c (.int .u16 a0_net)), (1, .c (.int .u16 a1_claim)), (2, .c (.int .u16 a2_granted))], []⟩ _
  refine SCode.seq ?_
  refine SCode.region (show SOps _ _ _ [0] _ _ from ?_)
  refine SOps.q rfl (.plain rfl) rfl (q_assign rfl rfl) ?_
  refine SOps.sub (st' := ⟨[(0, .c (.int .u16 a0_net)), (1, .c (.int .u16 a1_claim)), (2, .c (.int .u16 a2_granted))], []⟩) (sub_gen [] rfl rfl ⟨⟨_, rfl, .inl ⟨rfl, rfl⟩⟩, ⟨_, rfl, .inl ⟨rfl, rfl⟩⟩, ⟨_, rfl, .inl ⟨rfl, rfl⟩⟩, trivial⟩ trivial) ?_
  refine SOps.nil ?_
  refine SCode.seq ?_
  obtain ⟨c_1, g2, h⟩ := bind_out h
  try dsimp only at h
  refine SCode.region (show SOps _ _ _ [0, 1, 2, 3, 4] _ _ from ?_)
  refine SOps.q rfl (.plain rfl) rfl (q_move rfl rfl) ?_
  refine SOps.q rfl (.plain rfl) rfl (q_build2 rfl rfl pl28 rfl) ?_
  refine SOps.q rfl (.plain rfl) rfl (q_call (chargenettop_dealt_ok F 0 (SDeal.mk false a0_net 0 0 false) c_1 g2) [] rfl fn4 ⟨⟨_, rfl, .inl ⟨rfl, rfl⟩⟩, ⟨rfl, rfl⟩, trivial⟩ (.inl rfl)) ?_
  refine SOps.e rfl (.plain rfl) (e_alloc rfl rfl rfl z25) ?_
  refine SOps.e rfl (.plain rfl) (e_store_box rfl rfl rfl rfl rfl ty25 rfl rfl rfl rfl) ?_
  refine SOps.sub (st' := ⟨[(0, .c (.int .u16 a0_net)), (1, .c (.int .u16 a1_claim)), (2, .c (.int .u16 a2_granted)), (7, .c (.ptr 0 0))], [.box [.str c_1.ID, .str c_1.Operator, .str c_1.Provider, .str c_1.Session, .int .i64 c_1.Version, .int .i64 c_1.Start, .int .i64 c_1.End, .int .i64 c_1.Energy, .str c_1.Tariff, .str c_1.Currency, .vec c_1.Items.length 7 (gL cSItem dSItem c_1.Items), .int .i64 c_1.Total, .bool c_1.Credit, .str c_1.Ref]]⟩) (sub_gen [0] rfl rfl ⟨⟨_, rfl, .inl ⟨rfl, rfl⟩⟩, ⟨_, rfl, .inl ⟨rfl, rfl⟩⟩, ⟨_, rfl, .inl ⟨rfl, rfl⟩⟩, ⟨_, rfl, .inl ⟨rfl, rfl⟩⟩, trivial⟩ ⟨⟨_, rfl, ⟨.inl ⟨rfl, rfl⟩, .inl ⟨rfl, rfl⟩, .inl ⟨rfl, rfl⟩, .inl ⟨rfl, rfl⟩, .inl ⟨rfl, rfl⟩, .inl ⟨rfl, rfl⟩, .inl ⟨rfl, rfl⟩, .inl ⟨rfl, rfl⟩, .inl ⟨rfl, rfl⟩, .inl ⟨rfl, rfl⟩, .inl ⟨rfl, rfl⟩, .inl ⟨rfl, rfl⟩, .inl ⟨rfl, rfl⟩, .inl ⟨rfl, rfl⟩, trivial⟩⟩, trivial⟩) ?_
  refine SOps.nil ?_
  refine SCode.seq ?_
  refine SCode.seq ?_
  rcases cond_out h with ⟨g3, h⟩ | ⟨g3, h⟩
  · refine SCode.region (show SOps _ _ _ [0, 1, 2, 3, 4, 5, 6, 7, 8, 9, 10, 11, 12, 13, 14, 15] _ _ from ?_)
    refine SOps.q rfl (.plain rfl) rfl (q_move rfl rfl) ?_
    refine SOps.q rfl (.plain rfl) rfl (q_lss rfl rfl rfl) ?_
    refine SOps.q rfl (.plain rfl) rfl (q_move rfl rfl) ?_
    refine SOps.skip rfl 2 15 false rfl rfl (.inl (gT g3)) rfl ?_
    refine SOps.skip rfl 2 15 false rfl rfl (.inl (gT g3)) rfl ?_
    refine SOps.skip rfl 2 15 false rfl rfl (.inl (gT g3)) rfl ?_
    refine SOps.q rfl (.plain rfl) rfl (q_pick_t rfl rfl g3 rfl) ?_
    refine SOps.q rfl (.plain rfl) rfl (q_move rfl rfl) ?_
    refine SOps.skip rfl 7 20 false rfl rfl (.inl rfl) rfl ?_
    refine SOps.skip rfl 7 20 false rfl rfl (.inl rfl) rfl ?_
    refine SOps.q rfl (.plain rfl) rfl (q_pick_t rfl rfl rfl rfl) ?_
    refine SOps.q rfl (.plain rfl) rfl (q_move rfl rfl) ?_
    refine SOps.skip rfl 11 24 false rfl rfl (.inl rfl) rfl ?_
    refine SOps.skip rfl 11 24 false rfl rfl (.inl rfl) rfl ?_
    refine SOps.skip rfl 11 24 false rfl rfl (.inl rfl) rfl ?_
    refine SOps.q rfl (.plain rfl) rfl (q_pick_t rfl rfl rfl rfl) ?_
    refine SOps.sub (st' := ⟨[(0, .c (.int .u16 a0_net)), (1, .c (.int .u16 a1_claim)), (2, .c (.int .u16 a2_granted)), (7, .c (.ptr 0 0)), (28, .c (.bool true))], [.box [.str c_1.ID, .str c_1.Operator, .str c_1.Provider, .str c_1.Session, .int .i64 c_1.Version, .int .i64 c_1.Start, .int .i64 c_1.End, .int .i64 c_1.Energy, .str c_1.Tariff, .str c_1.Currency, .vec c_1.Items.length 7 (gL cSItem dSItem c_1.Items), .int .i64 c_1.Total, .bool c_1.Credit, .str c_1.Ref]]⟩) (sub_gen [0] rfl rfl ⟨⟨_, rfl, .inl ⟨rfl, rfl⟩⟩, ⟨_, rfl, .inl ⟨rfl, rfl⟩⟩, ⟨_, rfl, .inl ⟨rfl, rfl⟩⟩, ⟨_, rfl, .inl ⟨rfl, rfl⟩⟩, ⟨_, rfl, .inl ⟨rfl, rfl⟩⟩, trivial⟩ ⟨⟨_, rfl, ⟨.inl ⟨rfl, rfl⟩, .inl ⟨rfl, rfl⟩, .inl ⟨rfl, rfl⟩, .inl ⟨rfl, rfl⟩, .inl ⟨rfl, rfl⟩, .inl ⟨rfl, rfl⟩, .inl ⟨rfl, rfl⟩, .inl ⟨rfl, rfl⟩, .inl ⟨rfl, rfl⟩, .inl ⟨rfl, rfl⟩, .inl ⟨rfl, rfl⟩, .inl ⟨rfl, rfl⟩, .inl ⟨rfl, rfl⟩, .inl ⟨rfl, rfl⟩, trivial⟩⟩, trivial⟩) ?_
    refine SOps.nil ?_
    refine SCode.cond_t rfl rfl ?_
    refine SCode.seq ?_
    refine SCode.region (show SOps _ _ _ [0] _ _ from ?_)
    refine SOps.q rfl (.plain rfl) rfl (q_assign rfl rfl) ?_
    refine SOps.sub (st' := ⟨[(6, .c (.bool true))], []⟩) (sub_gen [] rfl rfl ⟨⟨_, rfl, .inl ⟨rfl, rfl⟩⟩, trivial⟩ trivial) ?_
    refine SOps.nil ?_
    refine SCode.ret ?_
    obtain rfl := Option.some.inj h
    exact ⟨⟨[(6, .c (.bool true))], []⟩, _, sub_gen [] rfl rfl ⟨⟨_, rfl, .inl ⟨rfl, rfl⟩⟩, trivial⟩ trivial, resA1 (v := .c (.bool true)) rfl rfl, rfl⟩
  · rcases cond_out h with ⟨g4, h⟩ | ⟨g4, h⟩
    · refine SCode.region (show SOps _ _ _ [0, 1, 2, 3, 4, 5, 6, 7, 8, 9, 10, 11, 12, 13, 14, 15] _ _ from ?_)
      refine SOps.q rfl (.plain rfl) rfl (q_move rfl rfl) ?_
      refine SOps.q rfl (.plain rfl) rfl (q_lss rfl rfl rfl) ?_
      refine SOps.q rfl (.plain rfl) rfl (q_move rfl rfl) ?_
      refine SOps.q rfl (.guard 2 15 false rfl rfl (gF g3)) rfl (q_move rfl rfl) ?_
      refine SOps.q rfl (.guard 2 15 false rfl rfl (gF g3)) rfl (q_move rfl rfl) ?_
      refine SOps.q rfl (.guard 2 15 false rfl rfl (gF g3)) rfl (q_gtr rfl rfl rfl) ?_
      refine SOps.q rfl (.plain rfl) rfl (q_pick_f rfl rfl g3 rfl) ?_
      refine SOps.q rfl (.plain rfl) rfl (q_move rfl rfl) ?_
      refine SOps.skip rfl 7 20 false rfl rfl (.inl (gT g4)) rfl ?_
      refine SOps.skip rfl 7 20 false rfl rfl (.inl (gT g4)) rfl ?_
      refine SOps.q rfl (.plain rfl) rfl (q_pick_t rfl rfl g4 rfl) ?_
      refine SOps.q rfl (.plain rfl) rfl (q_move rfl rfl) ?_
      refine SOps.skip rfl 11 24 false rfl rfl (.inl rfl) rfl ?_
      refine SOps.skip rfl 11 24 false rfl rfl (.inl rfl) rfl ?_
      refine SOps.skip rfl 11 24 false rfl rfl (.inl rfl) rfl ?_
      refine SOps.q rfl (.plain rfl) rfl (q_pick_t rfl rfl rfl rfl) ?_
      refine SOps.sub (st' := ⟨[(0, .c (.int .u16 a0_net)), (1, .c (.int .u16 a1_claim)), (2, .c (.int .u16 a2_granted)), (7, .c (.ptr 0 0)), (28, .c (.bool true))], [.box [.str c_1.ID, .str c_1.Operator, .str c_1.Provider, .str c_1.Session, .int .i64 c_1.Version, .int .i64 c_1.Start, .int .i64 c_1.End, .int .i64 c_1.Energy, .str c_1.Tariff, .str c_1.Currency, .vec c_1.Items.length 7 (gL cSItem dSItem c_1.Items), .int .i64 c_1.Total, .bool c_1.Credit, .str c_1.Ref]]⟩) (sub_gen [0] rfl rfl ⟨⟨_, rfl, .inl ⟨rfl, rfl⟩⟩, ⟨_, rfl, .inl ⟨rfl, rfl⟩⟩, ⟨_, rfl, .inl ⟨rfl, rfl⟩⟩, ⟨_, rfl, .inl ⟨rfl, rfl⟩⟩, ⟨_, rfl, .inl ⟨rfl, rfl⟩⟩, trivial⟩ ⟨⟨_, rfl, ⟨.inl ⟨rfl, rfl⟩, .inl ⟨rfl, rfl⟩, .inl ⟨rfl, rfl⟩, .inl ⟨rfl, rfl⟩, .inl ⟨rfl, rfl⟩, .inl ⟨rfl, rfl⟩, .inl ⟨rfl, rfl⟩, .inl ⟨rfl, rfl⟩, .inl ⟨rfl, rfl⟩, .inl ⟨rfl, rfl⟩, .inl ⟨rfl, rfl⟩, .inl ⟨rfl, rfl⟩, .inl ⟨rfl, rfl⟩, .inl ⟨rfl, rfl⟩, trivial⟩⟩, trivial⟩) ?_
      refine SOps.nil ?_
      refine SCode.cond_t rfl rfl ?_
      refine SCode.seq ?_
      refine SCode.region (show SOps _ _ _ [0] _ _ from ?_)
      refine SOps.q rfl (.plain rfl) rfl (q_assign rfl rfl) ?_
      refine SOps.sub (st' := ⟨[(6, .c (.bool true))], []⟩) (sub_gen [] rfl rfl ⟨⟨_, rfl, .inl ⟨rfl, rfl⟩⟩, trivial⟩ trivial) ?_
      refine SOps.nil ?_
      refine SCode.ret ?_
      obtain rfl := Option.some.inj h
      exact ⟨⟨[(6, .c (.bool true))], []⟩, _, sub_gen [] rfl rfl ⟨⟨_, rfl, .inl ⟨rfl, rfl⟩⟩, trivial⟩ trivial, resA1 (v := .c (.bool true)) rfl rfl, rfl⟩
    · rcases cond_out h with ⟨g5, h⟩ | ⟨g5, h⟩
      · refine SCode.region (show SOps _ _ _ [0, 1, 2, 3, 4, 5, 6, 7, 8, 9, 10, 11, 12, 13, 14, 15] _ _ from ?_)
        refine SOps.q rfl (.plain rfl) rfl (q_move rfl rfl) ?_
        refine SOps.q rfl (.plain rfl) rfl (q_lss rfl rfl rfl) ?_
        refine SOps.q rfl (.plain rfl) rfl (q_move rfl rfl) ?_
        refine SOps.q rfl (.guard 2 15 false rfl rfl (gF g3)) rfl (q_move rfl rfl) ?_
        refine SOps.q rfl (.guard 2 15 false rfl rfl (gF g3)) rfl (q_move rfl rfl) ?_
        refine SOps.q rfl (.guard 2 15 false rfl rfl (gF g3)) rfl (q_gtr rfl rfl rfl) ?_
        refine SOps.q rfl (.plain rfl) rfl (q_pick_f rfl rfl g3 rfl) ?_
        refine SOps.q rfl (.plain rfl) rfl (q_move rfl rfl) ?_
        refine SOps.q rfl (.guard 7 20 false rfl rfl (gF g4)) rfl (q_move rfl rfl) ?_
        refine SOps.q rfl (.guard 7 20 false rfl rfl (gF g4)) rfl (q_lss rfl rfl rfl) ?_
        refine SOps.q rfl (.plain rfl) rfl (q_pick_f rfl rfl g4 rfl) ?_
        refine SOps.q rfl (.plain rfl) rfl (q_move rfl rfl) ?_
        refine SOps.skip rfl 11 24 false rfl rfl (.inl (gT g5)) rfl ?_
        refine SOps.skip rfl 11 24 false rfl rfl (.inl (gT g5)) rfl ?_
        refine SOps.skip rfl 11 24 false rfl rfl (.inl (gT g5)) rfl ?_
        refine SOps.q rfl (.plain rfl) rfl (q_pick_t rfl rfl g5 rfl) ?_
        refine SOps.sub (st' := ⟨[(0, .c (.int .u16 a0_net)), (1, .c (.int .u16 a1_claim)), (2, .c (.int .u16 a2_granted)), (7, .c (.ptr 0 0)), (28, .c (.bool true))], [.box [.str c_1.ID, .str c_1.Operator, .str c_1.Provider, .str c_1.Session, .int .i64 c_1.Version, .int .i64 c_1.Start, .int .i64 c_1.End, .int .i64 c_1.Energy, .str c_1.Tariff, .str c_1.Currency, .vec c_1.Items.length 7 (gL cSItem dSItem c_1.Items), .int .i64 c_1.Total, .bool c_1.Credit, .str c_1.Ref]]⟩) (sub_gen [0] rfl rfl ⟨⟨_, rfl, .inl ⟨rfl, rfl⟩⟩, ⟨_, rfl, .inl ⟨rfl, rfl⟩⟩, ⟨_, rfl, .inl ⟨rfl, rfl⟩⟩, ⟨_, rfl, .inl ⟨rfl, rfl⟩⟩, ⟨_, rfl, .inl ⟨rfl, rfl⟩⟩, trivial⟩ ⟨⟨_, rfl, ⟨.inl ⟨rfl, rfl⟩, .inl ⟨rfl, rfl⟩, .inl ⟨rfl, rfl⟩, .inl ⟨rfl, rfl⟩, .inl ⟨rfl, rfl⟩, .inl ⟨rfl, rfl⟩, .inl ⟨rfl, rfl⟩, .inl ⟨rfl, rfl⟩, .inl ⟨rfl, rfl⟩, .inl ⟨rfl, rfl⟩, .inl ⟨rfl, rfl⟩, .inl ⟨rfl, rfl⟩, .inl ⟨rfl, rfl⟩, .inl ⟨rfl, rfl⟩, trivial⟩⟩, trivial⟩) ?_
        refine SOps.nil ?_
        refine SCode.cond_t rfl rfl ?_
        refine SCode.seq ?_
        refine SCode.region (show SOps _ _ _ [0] _ _ from ?_)
        refine SOps.q rfl (.plain rfl) rfl (q_assign rfl rfl) ?_
        refine SOps.sub (st' := ⟨[(6, .c (.bool true))], []⟩) (sub_gen [] rfl rfl ⟨⟨_, rfl, .inl ⟨rfl, rfl⟩⟩, trivial⟩ trivial) ?_
        refine SOps.nil ?_
        refine SCode.ret ?_
        obtain rfl := Option.some.inj h
        exact ⟨⟨[(6, .c (.bool true))], []⟩, _, sub_gen [] rfl rfl ⟨⟨_, rfl, .inl ⟨rfl, rfl⟩⟩, trivial⟩ trivial, resA1 (v := .c (.bool true)) rfl rfl, rfl⟩
      · refine SCode.region (show SOps _ _ _ [0, 1, 2, 3, 4, 5, 6, 7, 8, 9, 10, 11, 12, 13, 14, 15] _ _ from ?_)
        refine SOps.q rfl (.plain rfl) rfl (q_move rfl rfl) ?_
        refine SOps.q rfl (.plain rfl) rfl (q_lss rfl rfl rfl) ?_
        refine SOps.q rfl (.plain rfl) rfl (q_move rfl rfl) ?_
        refine SOps.q rfl (.guard 2 15 false rfl rfl (gF g3)) rfl (q_move rfl rfl) ?_
        refine SOps.q rfl (.guard 2 15 false rfl rfl (gF g3)) rfl (q_move rfl rfl) ?_
        refine SOps.q rfl (.guard 2 15 false rfl rfl (gF g3)) rfl (q_gtr rfl rfl rfl) ?_
        refine SOps.q rfl (.plain rfl) rfl (q_pick_f rfl rfl g3 rfl) ?_
        refine SOps.q rfl (.plain rfl) rfl (q_move rfl rfl) ?_
        refine SOps.q rfl (.guard 7 20 false rfl rfl (gF g4)) rfl (q_move rfl rfl) ?_
        refine SOps.q rfl (.guard 7 20 false rfl rfl (gF g4)) rfl (q_lss rfl rfl rfl) ?_
        refine SOps.q rfl (.plain rfl) rfl (q_pick_f rfl rfl g4 rfl) ?_
        refine SOps.q rfl (.plain rfl) rfl (q_move rfl rfl) ?_
        refine SOps.q rfl (.guard 11 24 false rfl rfl (gF g5)) rfl (q_move rfl rfl) ?_
        refine SOps.q rfl (.guard 11 24 false rfl rfl (gF g5)) rfl (q_move rfl rfl) ?_
        refine SOps.q rfl (.guard 11 24 false rfl rfl (gF g5)) rfl (q_gtr rfl rfl rfl) ?_
        refine SOps.q rfl (.plain rfl) rfl (q_pick_f rfl rfl g5 rfl) ?_
        refine SOps.sub (st' := ⟨[(0, .c (.int .u16 a0_net)), (1, .c (.int .u16 a1_claim)), (2, .c (.int .u16 a2_granted)), (7, .c (.ptr 0 0)), (28, .c (.bool (decide (a1_claim < a2_granted))))], [.box [.str c_1.ID, .str c_1.Operator, .str c_1.Provider, .str c_1.Session, .int .i64 c_1.Version, .int .i64 c_1.Start, .int .i64 c_1.End, .int .i64 c_1.Energy, .str c_1.Tariff, .str c_1.Currency, .vec c_1.Items.length 7 (gL cSItem dSItem c_1.Items), .int .i64 c_1.Total, .bool c_1.Credit, .str c_1.Ref]]⟩) (sub_gen [0] rfl rfl ⟨⟨_, rfl, .inl ⟨rfl, rfl⟩⟩, ⟨_, rfl, .inl ⟨rfl, rfl⟩⟩, ⟨_, rfl, .inl ⟨rfl, rfl⟩⟩, ⟨_, rfl, .inl ⟨rfl, rfl⟩⟩, ⟨_, rfl, .inl ⟨rfl, rfl⟩⟩, trivial⟩ ⟨⟨_, rfl, ⟨.inl ⟨rfl, rfl⟩, .inl ⟨rfl, rfl⟩, .inl ⟨rfl, rfl⟩, .inl ⟨rfl, rfl⟩, .inl ⟨rfl, rfl⟩, .inl ⟨rfl, rfl⟩, .inl ⟨rfl, rfl⟩, .inl ⟨rfl, rfl⟩, .inl ⟨rfl, rfl⟩, .inl ⟨rfl, rfl⟩, .inl ⟨rfl, rfl⟩, .inl ⟨rfl, rfl⟩, .inl ⟨rfl, rfl⟩, .inl ⟨rfl, rfl⟩, trivial⟩⟩, trivial⟩) ?_
        refine SOps.nil ?_
        rcases cond_out h with ⟨g6, h⟩ | ⟨g6, h⟩
        · refine SCode.cond_t rfl g6 ?_
          refine SCode.seq ?_
          refine SCode.region (show SOps _ _ _ [0] _ _ from ?_)
          refine SOps.q rfl (.plain rfl) rfl (q_assign rfl rfl) ?_
          refine SOps.sub (st' := ⟨[(6, .c (.bool true))], []⟩) (sub_gen [] rfl rfl ⟨⟨_, rfl, .inl ⟨rfl, rfl⟩⟩, trivial⟩ trivial) ?_
          refine SOps.nil ?_
          refine SCode.ret ?_
          obtain rfl := Option.some.inj h
          exact ⟨⟨[(6, .c (.bool true))], []⟩, _, sub_gen [] rfl rfl ⟨⟨_, rfl, .inl ⟨rfl, rfl⟩⟩, trivial⟩ trivial, resA1 (v := .c (.bool true)) rfl rfl, rfl⟩
        · refine SCode.cond_f rfl g6 ?_
          refine SCode.skip ?_
          refine SCode.seq ?_
          obtain ⟨c_7, g8, h⟩ := bind_out h
          try dsimp only at h
          refine SCode.region (show SOps _ _ _ [0, 1, 2, 3, 4, 5, 6, 7, 8, 9] _ _ from ?_)
          refine SOps.q rfl (.plain rfl) rfl (q_load_ptr_all rfl rfl rfl rfl rfl ty25) ?_
          refine SOps.q rfl (.plain rfl) rfl (q_move rfl rfl) ?_
          refine SOps.q rfl (.plain rfl) rfl (q_convert rfl rfl un22 un3) ?_
          refine SOps.q rfl (.plain rfl) rfl (q_call (dispute_Open_ok F c_1 (ByteArray.mk #[66]) (IntKind.wrap .i64 a1_claim) 100 c_7 g8) [] rfl fn5 ⟨⟨rfl, rfl⟩, ⟨_, rfl, .inl ⟨rfl, rfl⟩⟩, ⟨_, rfl, .inl ⟨rfl, rfl⟩⟩, ⟨_, rfl, .inl ⟨rfl, rfl⟩⟩, trivial⟩ (.inl rfl)) ?_
          refine SOps.q rfl (.plain rfl) rfl (q_move rfl rfl) ?_
          refine SOps.q rfl (.plain rfl) rfl (q_extract rfl rfl rfl) ?_
          refine SOps.q rfl (.plain rfl) rfl (q_extract rfl rfl rfl) ?_
          refine SOps.e rfl (.plain rfl) (e_alloc rfl rfl rfl z30) ?_
          refine SOps.e rfl (.plain rfl) (e_store_box rfl rfl rfl rfl rfl ty30 rfl rfl rfl rfl) ?_
          refine SOps.q rfl (.plain rfl) rfl (q_assign rfl rfl) ?_
          refine SOps.sub (st' := ⟨[(0, .c (.int .u16 a0_net)), (2, .c (.int .u16 a2_granted)), (7, .c (.ptr 0 0)), (8, .c (.ptr 1 0)), (9, .c (.int .i64 c_7.2))], [.box [.str c_1.ID, .str c_1.Operator, .str c_1.Provider, .str c_1.Session, .int .i64 c_1.Version, .int .i64 c_1.Start, .int .i64 c_1.End, .int .i64 c_1.Energy, .str c_1.Tariff, .str c_1.Currency, .vec c_1.Items.length 7 (gL cSItem dSItem c_1.Items), .int .i64 c_1.Total, .bool c_1.Credit, .str c_1.Ref], .box [.str c_7.1.CDR, .str c_7.1.By, .int .i64 c_7.1.State, .int .i64 c_7.1.Opened, .int .i64 c_7.1.Claim, .int .i64 c_7.1.Granted]]⟩) (sub_gen [0, 1] rfl rfl ⟨⟨_, rfl, .inl ⟨rfl, rfl⟩⟩, ⟨_, rfl, .inl ⟨rfl, rfl⟩⟩, ⟨_, rfl, .inl ⟨rfl, rfl⟩⟩, ⟨_, rfl, .inl ⟨rfl, rfl⟩⟩, ⟨_, rfl, .inl ⟨rfl, rfl⟩⟩, trivial⟩ ⟨⟨_, rfl, ⟨.inl ⟨rfl, rfl⟩, .inl ⟨rfl, rfl⟩, .inl ⟨rfl, rfl⟩, .inl ⟨rfl, rfl⟩, .inl ⟨rfl, rfl⟩, .inl ⟨rfl, rfl⟩, .inl ⟨rfl, rfl⟩, .inl ⟨rfl, rfl⟩, .inl ⟨rfl, rfl⟩, .inl ⟨rfl, rfl⟩, .inl ⟨rfl, rfl⟩, .inl ⟨rfl, rfl⟩, .inl ⟨rfl, rfl⟩, .inl ⟨rfl, rfl⟩, trivial⟩⟩, ⟨_, rfl, ⟨.inl ⟨rfl, rfl⟩, .inl ⟨rfl, rfl⟩, .inl ⟨rfl, rfl⟩, .inl ⟨rfl, rfl⟩, .inl ⟨rfl, rfl⟩, .inl ⟨rfl, rfl⟩, trivial⟩⟩, trivial⟩) ?_
          refine SOps.nil ?_
          refine SCode.seq ?_
          refine SCode.seq ?_
          refine SCode.region (show SOps _ _ _ [0, 1] _ _ from ?_)
          refine SOps.q rfl (.plain rfl) rfl (q_move rfl rfl) ?_
          refine SOps.q rfl (.plain rfl) rfl (q_neq rfl rfl rfl) ?_
          refine SOps.sub (st' := ⟨[(0, .c (.int .u16 a0_net)), (2, .c (.int .u16 a2_granted)), (7, .c (.ptr 0 0)), (8, .c (.ptr 1 0)), (37, .c (.bool ((!decide (c_7.2 = 0)))))], [.box [.str c_1.ID, .str c_1.Operator, .str c_1.Provider, .str c_1.Session, .int .i64 c_1.Version, .int .i64 c_1.Start, .int .i64 c_1.End, .int .i64 c_1.Energy, .str c_1.Tariff, .str c_1.Currency, .vec c_1.Items.length 7 (gL cSItem dSItem c_1.Items), .int .i64 c_1.Total, .bool c_1.Credit, .str c_1.Ref], .box [.str c_7.1.CDR, .str c_7.1.By, .int .i64 c_7.1.State, .int .i64 c_7.1.Opened, .int .i64 c_7.1.Claim, .int .i64 c_7.1.Granted]]⟩) (sub_gen [0, 1] rfl rfl ⟨⟨_, rfl, .inl ⟨rfl, rfl⟩⟩, ⟨_, rfl, .inl ⟨rfl, rfl⟩⟩, ⟨_, rfl, .inl ⟨rfl, rfl⟩⟩, ⟨_, rfl, .inl ⟨rfl, rfl⟩⟩, ⟨_, rfl, .inl ⟨rfl, rfl⟩⟩, trivial⟩ ⟨⟨_, rfl, ⟨.inl ⟨rfl, rfl⟩, .inl ⟨rfl, rfl⟩, .inl ⟨rfl, rfl⟩, .inl ⟨rfl, rfl⟩, .inl ⟨rfl, rfl⟩, .inl ⟨rfl, rfl⟩, .inl ⟨rfl, rfl⟩, .inl ⟨rfl, rfl⟩, .inl ⟨rfl, rfl⟩, .inl ⟨rfl, rfl⟩, .inl ⟨rfl, rfl⟩, .inl ⟨rfl, rfl⟩, .inl ⟨rfl, rfl⟩, .inl ⟨rfl, rfl⟩, trivial⟩⟩, ⟨_, rfl, ⟨.inl ⟨rfl, rfl⟩, .inl ⟨rfl, rfl⟩, .inl ⟨rfl, rfl⟩, .inl ⟨rfl, rfl⟩, .inl ⟨rfl, rfl⟩, .inl ⟨rfl, rfl⟩, trivial⟩⟩, trivial⟩) ?_
          refine SOps.nil ?_
          rcases cond_out h with ⟨g9, h⟩ | ⟨g9, h⟩
          · refine SCode.cond_t rfl g9 ?_
            refine SCode.seq ?_
            refine SCode.region (show SOps _ _ _ [0] _ _ from ?_)
            refine SOps.q rfl (.plain rfl) rfl (q_assign rfl rfl) ?_
            refine SOps.sub (st' := ⟨[(6, .c (.bool false))], []⟩) (sub_gen [] rfl rfl ⟨⟨_, rfl, .inl ⟨rfl, rfl⟩⟩, trivial⟩ trivial) ?_
            refine SOps.nil ?_
            refine SCode.ret ?_
            obtain rfl := Option.some.inj h
            exact ⟨⟨[(6, .c (.bool false))], []⟩, _, sub_gen [] rfl rfl ⟨⟨_, rfl, .inl ⟨rfl, rfl⟩⟩, trivial⟩ trivial, resA1 (v := .c (.bool false)) rfl rfl, rfl⟩
          · refine SCode.cond_f rfl g9 ?_
            refine SCode.skip ?_
            refine SCode.seq ?_
            refine SCode.region (show SOps _ _ _ [0, 1, 2, 3, 4, 5] _ _ from ?_)
            refine SOps.q rfl (.plain rfl) rfl (q_move rfl rfl) ?_
            refine SOps.q rfl (.plain rfl) rfl (q_convert rfl rfl un22 un3) ?_
            refine SOps.q rfl (.plain rfl) rfl (q_field_ptr rfl rfl fd30_2) ?_
            refine SOps.e rfl (.plain rfl) (e_store_box rfl rfl rfl rfl rfl ty3 rfl rfl rfl rfl) ?_
            refine SOps.q rfl (.plain rfl) rfl (q_field_ptr rfl rfl fd30_5) ?_
            refine SOps.e rfl (.plain rfl) (e_store_box rfl rfl rfl rfl rfl ty3 rfl rfl rfl rfl) ?_
            refine SOps.sub (st' := ⟨[(0, .c (.int .u16 a0_net)), (2, .c (.int .u16 a2_granted)), (7, .c (.ptr 0 0)), (8, .c (.ptr 1 0))], [.box [.str c_1.ID, .str c_1.Operator, .str c_1.Provider, .str c_1.Session, .int .i64 c_1.Version, .int .i64 c_1.Start, .int .i64 c_1.End, .int .i64 c_1.Energy, .str c_1.Tariff, .str c_1.Currency, .vec c_1.Items.length 7 (gL cSItem dSItem c_1.Items), .int .i64 c_1.Total, .bool c_1.Credit, .str c_1.Ref], .box [.str c_7.1.CDR, .str c_7.1.By, .int .i64 4, .int .i64 c_7.1.Opened, .int .i64 c_7.1.Claim, .int .i64 (IntKind.wrap .i64 a2_granted)]]⟩) (sub_gen [0, 1] rfl rfl ⟨⟨_, rfl, .inl ⟨rfl, rfl⟩⟩, ⟨_, rfl, .inl ⟨rfl, rfl⟩⟩, ⟨_, rfl, .inl ⟨rfl, rfl⟩⟩, ⟨_, rfl, .inl ⟨rfl, rfl⟩⟩, trivial⟩ ⟨⟨_, rfl, ⟨.inl ⟨rfl, rfl⟩, .inl ⟨rfl, rfl⟩, .inl ⟨rfl, rfl⟩, .inl ⟨rfl, rfl⟩, .inl ⟨rfl, rfl⟩, .inl ⟨rfl, rfl⟩, .inl ⟨rfl, rfl⟩, .inl ⟨rfl, rfl⟩, .inl ⟨rfl, rfl⟩, .inl ⟨rfl, rfl⟩, .inl ⟨rfl, rfl⟩, .inl ⟨rfl, rfl⟩, .inl ⟨rfl, rfl⟩, .inl ⟨rfl, rfl⟩, trivial⟩⟩, ⟨_, rfl, ⟨.inl ⟨rfl, rfl⟩, .inl ⟨rfl, rfl⟩, .inl ⟨rfl, rfl⟩, .inl ⟨rfl, rfl⟩, .inl ⟨rfl, rfl⟩, .inl ⟨rfl, rfl⟩, trivial⟩⟩, trivial⟩) ?_
            refine SOps.nil ?_
            refine SCode.seq ?_
            refine SCode.seq ?_
            obtain ⟨c_10, g11, h⟩ := bind_out h
            try dsimp only at h
            refine SCode.region (show SOps _ _ _ [0, 1, 2] _ _ from ?_)
            refine SOps.q rfl (.plain rfl) rfl (q_load_ptr_all rfl rfl rfl rfl rfl ty30) ?_
            refine SOps.q rfl (.plain rfl) rfl (q_call (dispute_Valid_ok F (SDispute.mk c_7.1.CDR c_7.1.By 4 c_7.1.Opened c_7.1.Claim (IntKind.wrap .i64 a2_granted)) c_10 g11) [] rfl fn6 ⟨⟨rfl, rfl⟩, trivial⟩ (.inl rfl)) ?_
            refine SOps.q rfl (.plain rfl) rfl (q_neq rfl rfl rfl) ?_
            refine SOps.sub (st' := ⟨[(0, .c (.int .u16 a0_net)), (2, .c (.int .u16 a2_granted)), (7, .c (.ptr 0 0)), (8, .c (.ptr 1 0)), (44, .c (.bool ((!decide (c_10 = 0)))))], [.box [.str c_1.ID, .str c_1.Operator, .str c_1.Provider, .str c_1.Session, .int .i64 c_1.Version, .int .i64 c_1.Start, .int .i64 c_1.End, .int .i64 c_1.Energy, .str c_1.Tariff, .str c_1.Currency, .vec c_1.Items.length 7 (gL cSItem dSItem c_1.Items), .int .i64 c_1.Total, .bool c_1.Credit, .str c_1.Ref], .box [.str c_7.1.CDR, .str c_7.1.By, .int .i64 4, .int .i64 c_7.1.Opened, .int .i64 c_7.1.Claim, .int .i64 (IntKind.wrap .i64 a2_granted)]]⟩) (sub_gen [0, 1] rfl rfl ⟨⟨_, rfl, .inl ⟨rfl, rfl⟩⟩, ⟨_, rfl, .inl ⟨rfl, rfl⟩⟩, ⟨_, rfl, .inl ⟨rfl, rfl⟩⟩, ⟨_, rfl, .inl ⟨rfl, rfl⟩⟩, ⟨_, rfl, .inl ⟨rfl, rfl⟩⟩, trivial⟩ ⟨⟨_, rfl, ⟨.inl ⟨rfl, rfl⟩, .inl ⟨rfl, rfl⟩, .inl ⟨rfl, rfl⟩, .inl ⟨rfl, rfl⟩, .inl ⟨rfl, rfl⟩, .inl ⟨rfl, rfl⟩, .inl ⟨rfl, rfl⟩, .inl ⟨rfl, rfl⟩, .inl ⟨rfl, rfl⟩, .inl ⟨rfl, rfl⟩, .inl ⟨rfl, rfl⟩, .inl ⟨rfl, rfl⟩, .inl ⟨rfl, rfl⟩, .inl ⟨rfl, rfl⟩, trivial⟩⟩, ⟨_, rfl, ⟨.inl ⟨rfl, rfl⟩, .inl ⟨rfl, rfl⟩, .inl ⟨rfl, rfl⟩, .inl ⟨rfl, rfl⟩, .inl ⟨rfl, rfl⟩, .inl ⟨rfl, rfl⟩, trivial⟩⟩, trivial⟩) ?_
            refine SOps.nil ?_
            rcases cond_out h with ⟨g12, h⟩ | ⟨g12, h⟩
            · refine SCode.cond_t rfl g12 ?_
              refine SCode.seq ?_
              refine SCode.region (show SOps _ _ _ [0] _ _ from ?_)
              refine SOps.q rfl (.plain rfl) rfl (q_assign rfl rfl) ?_
              refine SOps.sub (st' := ⟨[(6, .c (.bool false))], []⟩) (sub_gen [] rfl rfl ⟨⟨_, rfl, .inl ⟨rfl, rfl⟩⟩, trivial⟩ trivial) ?_
              refine SOps.nil ?_
              refine SCode.ret ?_
              obtain rfl := Option.some.inj h
              exact ⟨⟨[(6, .c (.bool false))], []⟩, _, sub_gen [] rfl rfl ⟨⟨_, rfl, .inl ⟨rfl, rfl⟩⟩, trivial⟩ trivial, resA1 (v := .c (.bool false)) rfl rfl, rfl⟩
            · refine SCode.cond_f rfl g12 ?_
              refine SCode.skip ?_
              refine SCode.seq ?_
              obtain ⟨c_13, g14, h⟩ := bind_out h
              try dsimp only at h
              refine SCode.region (show SOps _ _ _ [0, 1, 2, 3, 4, 5, 6, 7, 8, 9, 10] _ _ from ?_)
              refine SOps.q rfl (.plain rfl) rfl (q_load_ptr_all rfl rfl rfl rfl rfl ty25) ?_
              refine SOps.q rfl (.plain rfl) rfl (q_load_ptr_all rfl rfl rfl rfl rfl ty30) ?_
              refine SOps.q rfl (.plain rfl) rfl (q_bsliceL (c := cSDispute) (d0 := dSDispute) [SDispute.mk c_7.1.CDR c_7.1.By 4 c_7.1.Opened c_7.1.Claim (IntKind.wrap .i64 a2_granted)] rfl rfl sl36 z30 rfl rfl rfl rfl rfl rfl rfl) ?_
              refine SOps.q rfl (.plain rfl) rfl (q_call (dispute_Amount_ok F c_1 ([SDispute.mk c_7.1.CDR c_7.1.By 4 c_7.1.Opened c_7.1.Claim (IntKind.wrap .i64 a2_granted)]) c_13 g14) [] rfl fn7 ⟨⟨rfl, rfl⟩, ⟨_, rfl, .inl ⟨rfl, rfl⟩⟩, trivial⟩ (.inl rfl)) ?_
              refine SOps.q rfl (.plain rfl) rfl (q_move rfl rfl) ?_
              refine SOps.q rfl (.plain rfl) rfl (q_convert rfl rfl un22 un3) ?_
              refine SOps.q rfl (.plain rfl) rfl (q_move rfl rfl) ?_
              refine SOps.q rfl (.plain rfl) rfl (q_convert rfl rfl un22 un3) ?_
              refine SOps.q rfl (.plain rfl) rfl (q_sub rfl rfl rfl) ?_
              refine SOps.q rfl (.plain rfl) rfl (q_eql rfl rfl rfl) ?_
              refine SOps.q rfl (.plain rfl) rfl (q_assign rfl rfl) ?_
              refine SOps.sub (st' := ⟨[(6, .c (.bool (decide (c_13 = IntKind.wrap .i64 (IntKind.wrap .i64 a0_net - IntKind.wrap .i64 a2_granted)))))], []⟩) (sub_gen [] rfl rfl ⟨⟨_, rfl, .inl ⟨rfl, rfl⟩⟩, trivial⟩ trivial) ?_
              refine SOps.nil ?_
              refine SCode.ret ?_
              obtain rfl := Option.some.inj h
              exact ⟨⟨[(6, .c (.bool (decide (c_13 = IntKind.wrap .i64 (IntKind.wrap .i64 a0_net - IntKind.wrap .i64 a2_granted)))))], []⟩, _, sub_gen [] rfl rfl ⟨⟨_, rfl, .inl ⟨rfl, rfl⟩⟩, trivial⟩ trivial, resA1 (v := .c (.bool (decide (c_13 = IntKind.wrap .i64 (IntKind.wrap .i64 a0_net - IntKind.wrap .i64 a2_granted))))) rfl rfl, rfl⟩
end Go.Proofs.Ytllifhmllicnhaa.W
