/- Written by a program of ours (wip/eng/gen.py): chargenet/dispute.Valid computes its model. -/
import Derived.Test.YtllifhmllicnhaaFacts
import Derived.Test.YtllifhmllicnhaaW9
namespace Go.Proofs.Ytllifhmllicnhaa.W
open Go Go.Proofs Go.Proofs.Ytllifhmllicnhaa.E Go.Proofs.Ytllifhmllicnhaa.M
set_option linter.unusedVariables false
theorem dispute_Valid_ok (F : Nat) (a0_d : SDispute) (r : Int) (h : dispute_Valid F a0_d = some r) :
    SFun Try.prog 6 [] [.a [.str a0_d.CDR, .str a0_d.By, .int .i64 a0_d.State, .int .i64 a0_d.Opened, .int .i64 a0_d.Claim, .int .i64 a0_d.Granted]] (fun x _ => x = .c (.int .i64 r)) := by
  refine SFun.of (n := 58) Try.func6 rfl rfl rfl ?_
  unfold dispute_Valid at h
  show SCode _ _ _ ⟨[(0, .a [.str a0_d.CDR, .str a0_d.By, .int .i64 a0_d.State, .int .i64 a0_d.Opened, .int .i64 a0_d.Claim, .int .i64 a0_d.Granted])], []⟩ _
  refine SCode.seq ?_
  refine SCode.region (show SOps _ _ _ [0, 1] _ _ from ?_)
  refine SOps.e rfl (.plain rfl) (e_box rfl rfl rfl rfl rfl rfl) ?_
  refine SOps.q rfl (.plain rfl) rfl (q_assign rfl rfl) ?_
  refine SOps.sub (st' := ⟨[(1, .c (.ptr 0 0))], [.box [.str a0_d.CDR, .str a0_d.By, .int .i64 a0_d.State, .int .i64 a0_d.Opened, .int .i64 a0_d.Claim, .int .i64 a0_d.Granted]]⟩) (sub_gen [0] rfl rfl ⟨⟨_, rfl, .inl ⟨rfl, rfl⟩⟩, trivial⟩ ⟨⟨_, rfl, ⟨.inl ⟨rfl, rfl⟩, .inl ⟨rfl, rfl⟩, .inl ⟨rfl, rfl⟩, .inl ⟨rfl, rfl⟩, .inl ⟨rfl, rfl⟩, .inl ⟨rfl, rfl⟩, trivial⟩⟩, trivial⟩) ?_
  refine SOps.nil ?_
  refine SCode.seq ?_
  refine SCode.seq ?_
  obtain ⟨c_1, g2, h⟩ := bind_out h
  try dsimp only at h
  rcases cond_out h with ⟨g3, h⟩ | ⟨g3, h⟩
  · refine SCode.region (show SOps _ _ _ [0, 1, 2, 3, 4, 5, 6, 7, 8, 9] _ _ from ?_)
    refine SOps.q rfl (.plain rfl) rfl (q_field_ptr rfl rfl fd30_0) ?_
    refine SOps.q rfl (.plain rfl) rfl (q_load_ptr rfl rfl rfl rfl ty9) ?_
    refine SOps.q rfl (.plain rfl) rfl (q_call (ident_Valid_ok F a0_d.CDR c_1 g2) [] rfl fn9 ⟨⟨_, rfl, .inl ⟨rfl, rfl⟩⟩, trivial⟩ (.inl rfl)) ?_
    refine SOps.q rfl (.plain rfl) rfl (q_not rfl rfl) ?_
    refine SOps.q rfl (.plain rfl) rfl (q_move rfl rfl) ?_
    refine SOps.skip rfl 4 7 false rfl rfl (.inl (gT g3)) rfl ?_
    refine SOps.skip rfl 4 7 false rfl rfl (.inl (gT g3)) rfl ?_
    refine SOps.skip rfl 4 7 false rfl rfl (.inl (gT g3)) rfl ?_
    refine SOps.skip rfl 4 7 false rfl rfl (.inl (gT g3)) rfl ?_
    refine SOps.q rfl (.plain rfl) rfl (q_pick_t rfl rfl g3 rfl) ?_
    refine SOps.sub (st' := ⟨[(1, .c (.ptr 0 0)), (12, .c (.bool true))], [.box [.str a0_d.CDR, .str a0_d.By, .int .i64 a0_d.State, .int .i64 a0_d.Opened, .int .i64 a0_d.Claim, .int .i64 a0_d.Granted]]⟩) (sub_gen [0] rfl rfl ⟨⟨_, rfl, .inl ⟨rfl, rfl⟩⟩, ⟨_, rfl, .inl ⟨rfl, rfl⟩⟩, trivial⟩ ⟨⟨_, rfl, ⟨.inl ⟨rfl, rfl⟩, .inl ⟨rfl, rfl⟩, .inl ⟨rfl, rfl⟩, .inl ⟨rfl, rfl⟩, .inl ⟨rfl, rfl⟩, .inl ⟨rfl, rfl⟩, trivial⟩⟩, trivial⟩) ?_
    refine SOps.nil ?_
    refine SCode.cond_t rfl rfl ?_
    refine SCode.seq ?_
    refine SCode.region (show SOps _ _ _ [0] _ _ from ?_)
    refine SOps.q rfl (.plain rfl) rfl (q_assign rfl rfl) ?_
    refine SOps.sub (st' := ⟨[(2, .c (.int .i64 4))], []⟩) (sub_gen [] rfl rfl ⟨⟨_, rfl, .inl ⟨rfl, rfl⟩⟩, trivial⟩ trivial) ?_
    refine SOps.nil ?_
    refine SCode.ret ?_
    obtain rfl := Option.some.inj h
    exact ⟨⟨[(2, .c (.int .i64 4))], []⟩, _, sub_gen [] rfl rfl ⟨⟨_, rfl, .inl ⟨rfl, rfl⟩⟩, trivial⟩ trivial, resA1 (v := .c (.int .i64 4)) rfl rfl, rfl⟩
  · obtain ⟨c_4, g5, h⟩ := bind_out h
    try dsimp only at h
    refine SCode.region (show SOps _ _ _ [0, 1, 2, 3, 4, 5, 6, 7, 8, 9] _ _ from ?_)
    refine SOps.q rfl (.plain rfl) rfl (q_field_ptr rfl rfl fd30_0) ?_
    refine SOps.q rfl (.plain rfl) rfl (q_load_ptr rfl rfl rfl rfl ty9) ?_
    refine SOps.q rfl (.plain rfl) rfl (q_call (ident_Valid_ok F a0_d.CDR c_1 g2) [] rfl fn9 ⟨⟨_, rfl, .inl ⟨rfl, rfl⟩⟩, trivial⟩ (.inl rfl)) ?_
    refine SOps.q rfl (.plain rfl) rfl (q_not rfl rfl) ?_
    refine SOps.q rfl (.plain rfl) rfl (q_move rfl rfl) ?_
    refine SOps.q rfl (.guard 4 7 false rfl rfl (gF g3)) rfl (q_field_ptr rfl rfl fd30_1) ?_
    refine SOps.q rfl (.guard 4 7 false rfl rfl (gF g3)) rfl (q_load_ptr rfl rfl rfl rfl ty9) ?_
    refine SOps.q rfl (.guard 4 7 false rfl rfl (gF g3)) rfl (q_call (ident_Valid_ok F a0_d.By c_4 g5) [] rfl fn9 ⟨⟨_, rfl, .inl ⟨rfl, rfl⟩⟩, trivial⟩ (.inl rfl)) ?_
    refine SOps.q rfl (.guard 4 7 false rfl rfl (gF g3)) rfl (q_not rfl rfl) ?_
    refine SOps.q rfl (.plain rfl) rfl (q_pick_f rfl rfl g3 rfl) ?_
    refine SOps.sub (st' := ⟨[(1, .c (.ptr 0 0)), (12, .c (.bool ((!c_4))))], [.box [.str a0_d.CDR, .str a0_d.By, .int .i64 a0_d.State, .int .i64 a0_d.Opened, .int .i64 a0_d.Claim, .int .i64 a0_d.Granted]]⟩) (sub_gen [0] rfl rfl ⟨⟨_, rfl, .inl ⟨rfl, rfl⟩⟩, ⟨_, rfl, .inl ⟨rfl, rfl⟩⟩, trivial⟩ ⟨⟨_, rfl, ⟨.inl ⟨rfl, rfl⟩, .inl ⟨rfl, rfl⟩, .inl ⟨rfl, rfl⟩, .inl ⟨rfl, rfl⟩, .inl ⟨rfl, rfl⟩, .inl ⟨rfl, rfl⟩, trivial⟩⟩, trivial⟩) ?_
    refine SOps.nil ?_
    rcases cond_out h with ⟨g6, h⟩ | ⟨g6, h⟩
    · refine SCode.cond_t rfl g6 ?_
      refine SCode.seq ?_
      refine SCode.region (show SOps _ _ _ [0] _ _ from ?_)
      refine SOps.q rfl (.plain rfl) rfl (q_assign rfl rfl) ?_
      refine SOps.sub (st' := ⟨[(2, .c (.int .i64 4))], []⟩) (sub_gen [] rfl rfl ⟨⟨_, rfl, .inl ⟨rfl, rfl⟩⟩, trivial⟩ trivial) ?_
      refine SOps.nil ?_
      refine SCode.ret ?_
      obtain rfl := Option.some.inj h
      exact ⟨⟨[(2, .c (.int .i64 4))], []⟩, _, sub_gen [] rfl rfl ⟨⟨_, rfl, .inl ⟨rfl, rfl⟩⟩, trivial⟩ trivial, resA1 (v := .c (.int .i64 4)) rfl rfl, rfl⟩
    · refine SCode.cond_f rfl g6 ?_
      refine SCode.skip ?_
      refine SCode.seq ?_
      refine SCode.seq ?_
      rcases cond_out h with ⟨g7, h⟩ | ⟨g7, h⟩
      · refine SCode.region (show SOps _ _ _ [0, 1, 2, 3, 4, 5, 6, 7, 8, 9, 10, 11, 12, 13, 14, 15, 16, 17] _ _ from ?_)
        refine SOps.q rfl (.plain rfl) rfl (q_field_ptr rfl rfl fd30_2) ?_
        refine SOps.q rfl (.plain rfl) rfl (q_load_ptr rfl rfl rfl rfl ty3) ?_
        refine SOps.q rfl (.plain rfl) rfl (q_lss rfl rfl rfl) ?_
        refine SOps.q rfl (.plain rfl) rfl (q_move rfl rfl) ?_
        refine SOps.skip rfl 3 16 false rfl rfl (.inl (gT g7)) rfl ?_
        refine SOps.skip rfl 3 16 false rfl rfl (.inl (gT g7)) rfl ?_
        refine SOps.skip rfl 3 16 false rfl rfl (.inl (gT g7)) rfl ?_
        refine SOps.q rfl (.plain rfl) rfl (q_pick_t rfl rfl g7 rfl) ?_
        refine SOps.q rfl (.plain rfl) rfl (q_move rfl rfl) ?_
        refine SOps.skip rfl 8 21 false rfl rfl (.inl rfl) rfl ?_
        refine SOps.skip rfl 8 21 false rfl rfl (.inl rfl) rfl ?_
        refine SOps.skip rfl 8 21 false rfl rfl (.inl rfl) rfl ?_
        refine SOps.q rfl (.plain rfl) rfl (q_pick_t rfl rfl rfl rfl) ?_
        refine SOps.q rfl (.plain rfl) rfl (q_move rfl rfl) ?_
        refine SOps.skip rfl 13 26 false rfl rfl (.inl rfl) rfl ?_
        refine SOps.skip rfl 13 26 false rfl rfl (.inl rfl) rfl ?_
        refine SOps.skip rfl 13 26 false rfl rfl (.inl rfl) rfl ?_
        refine SOps.q rfl (.plain rfl) rfl (q_pick_t rfl rfl rfl rfl) ?_
        refine SOps.sub (st' := ⟨[(1, .c (.ptr 0 0)), (30, .c (.bool true))], [.box [.str a0_d.CDR, .str a0_d.By, .int .i64 a0_d.State, .int .i64 a0_d.Opened, .int .i64 a0_d.Claim, .int .i64 a0_d.Granted]]⟩) (sub_gen [0] rfl rfl ⟨⟨_, rfl, .inl ⟨rfl, rfl⟩⟩, ⟨_, rfl, .inl ⟨rfl, rfl⟩⟩, trivial⟩ ⟨⟨_, rfl, ⟨.inl ⟨rfl, rfl⟩, .inl ⟨rfl, rfl⟩, .inl ⟨rfl, rfl⟩, .inl ⟨rfl, rfl⟩, .inl ⟨rfl, rfl⟩, .inl ⟨rfl, rfl⟩, trivial⟩⟩, trivial⟩) ?_
        refine SOps.nil ?_
        refine SCode.cond_t rfl rfl ?_
        refine SCode.seq ?_
        refine SCode.region (show SOps _ _ _ [0] _ _ from ?_)
        refine SOps.q rfl (.plain rfl) rfl (q_assign rfl rfl) ?_
        refine SOps.sub (st' := ⟨[(2, .c (.int .i64 2))], []⟩) (sub_gen [] rfl rfl ⟨⟨_, rfl, .inl ⟨rfl, rfl⟩⟩, trivial⟩ trivial) ?_
        refine SOps.nil ?_
        refine SCode.ret ?_
        obtain rfl := Option.some.inj h
        exact ⟨⟨[(2, .c (.int .i64 2))], []⟩, _, sub_gen [] rfl rfl ⟨⟨_, rfl, .inl ⟨rfl, rfl⟩⟩, trivial⟩ trivial, resA1 (v := .c (.int .i64 2)) rfl rfl, rfl⟩
      · rcases cond_out h with ⟨g8, h⟩ | ⟨g8, h⟩
        · refine SCode.region (show SOps _ _ _ [0, 1, 2, 3, 4, 5, 6, 7, 8, 9, 10, 11, 12, 13, 14, 15, 16, 17] _ _ from ?_)
          refine SOps.q rfl (.plain rfl) rfl (q_field_ptr rfl rfl fd30_2) ?_
          refine SOps.q rfl (.plain rfl) rfl (q_load_ptr rfl rfl rfl rfl ty3) ?_
          refine SOps.q rfl (.plain rfl) rfl (q_lss rfl rfl rfl) ?_
          refine SOps.q rfl (.plain rfl) rfl (q_move rfl rfl) ?_
          refine SOps.q rfl (.guard 3 16 false rfl rfl (gF g7)) rfl (q_field_ptr rfl rfl fd30_2) ?_
          refine SOps.q rfl (.guard 3 16 false rfl rfl (gF g7)) rfl (q_load_ptr rfl rfl rfl rfl ty3) ?_
          refine SOps.q rfl (.guard 3 16 false rfl rfl (gF g7)) rfl (q_gtr rfl rfl rfl) ?_
          refine SOps.q rfl (.plain rfl) rfl (q_pick_f rfl rfl g7 rfl) ?_
          refine SOps.q rfl (.plain rfl) rfl (q_move rfl rfl) ?_
          refine SOps.skip rfl 8 21 false rfl rfl (.inl (gT g8)) rfl ?_
          refine SOps.skip rfl 8 21 false rfl rfl (.inl (gT g8)) rfl ?_
          refine SOps.skip rfl 8 21 false rfl rfl (.inl (gT g8)) rfl ?_
          refine SOps.q rfl (.plain rfl) rfl (q_pick_t rfl rfl g8 rfl) ?_
          refine SOps.q rfl (.plain rfl) rfl (q_move rfl rfl) ?_
          refine SOps.skip rfl 13 26 false rfl rfl (.inl rfl) rfl ?_
          refine SOps.skip rfl 13 26 false rfl rfl (.inl rfl) rfl ?_
          refine SOps.skip rfl 13 26 false rfl rfl (.inl rfl) rfl ?_
          refine SOps.q rfl (.plain rfl) rfl (q_pick_t rfl rfl rfl rfl) ?_
          refine SOps.sub (st' := ⟨[(1, .c (.ptr 0 0)), (30, .c (.bool true))], [.box [.str a0_d.CDR, .str a0_d.By, .int .i64 a0_d.State, .int .i64 a0_d.Opened, .int .i64 a0_d.Claim, .int .i64 a0_d.Granted]]⟩) (sub_gen [0] rfl rfl ⟨⟨_, rfl, .inl ⟨rfl, rfl⟩⟩, ⟨_, rfl, .inl ⟨rfl, rfl⟩⟩, trivial⟩ ⟨⟨_, rfl, ⟨.inl ⟨rfl, rfl⟩, .inl ⟨rfl, rfl⟩, .inl ⟨rfl, rfl⟩, .inl ⟨rfl, rfl⟩, .inl ⟨rfl, rfl⟩, .inl ⟨rfl, rfl⟩, trivial⟩⟩, trivial⟩) ?_
          refine SOps.nil ?_
          refine SCode.cond_t rfl rfl ?_
          refine SCode.seq ?_
          refine SCode.region (show SOps _ _ _ [0] _ _ from ?_)
          refine SOps.q rfl (.plain rfl) rfl (q_assign rfl rfl) ?_
          refine SOps.sub (st' := ⟨[(2, .c (.int .i64 2))], []⟩) (sub_gen [] rfl rfl ⟨⟨_, rfl, .inl ⟨rfl, rfl⟩⟩, trivial⟩ trivial) ?_
          refine SOps.nil ?_
          refine SCode.ret ?_
          obtain rfl := Option.some.inj h
          exact ⟨⟨[(2, .c (.int .i64 2))], []⟩, _, sub_gen [] rfl rfl ⟨⟨_, rfl, .inl ⟨rfl, rfl⟩⟩, trivial⟩ trivial, resA1 (v := .c (.int .i64 2)) rfl rfl, rfl⟩
        · rcases cond_out h with ⟨g9, h⟩ | ⟨g9, h⟩
          · refine SCode.region (show SOps _ _ _ [0, 1, 2, 3, 4, 5, 6, 7, 8, 9, 10, 11, 12, 13, 14, 15, 16, 17] _ _ from ?_)
            refine SOps.q rfl (.plain rfl) rfl (q_field_ptr rfl rfl fd30_2) ?_
            refine SOps.q rfl (.plain rfl) rfl (q_load_ptr rfl rfl rfl rfl ty3) ?_
            refine SOps.q rfl (.plain rfl) rfl (q_lss rfl rfl rfl) ?_
            refine SOps.q rfl (.plain rfl) rfl (q_move rfl rfl) ?_
            refine SOps.q rfl (.guard 3 16 false rfl rfl (gF g7)) rfl (q_field_ptr rfl rfl fd30_2) ?_
            refine SOps.q rfl (.guard 3 16 false rfl rfl (gF g7)) rfl (q_load_ptr rfl rfl rfl rfl ty3) ?_
            refine SOps.q rfl (.guard 3 16 false rfl rfl (gF g7)) rfl (q_gtr rfl rfl rfl) ?_
            refine SOps.q rfl (.plain rfl) rfl (q_pick_f rfl rfl g7 rfl) ?_
            refine SOps.q rfl (.plain rfl) rfl (q_move rfl rfl) ?_
            refine SOps.q rfl (.guard 8 21 false rfl rfl (gF g8)) rfl (q_field_ptr rfl rfl fd30_3) ?_
            refine SOps.q rfl (.guard 8 21 false rfl rfl (gF g8)) rfl (q_load_ptr rfl rfl rfl rfl ty3) ?_
            refine SOps.q rfl (.guard 8 21 false rfl rfl (gF g8)) rfl (q_lss rfl rfl rfl) ?_
            refine SOps.q rfl (.plain rfl) rfl (q_pick_f rfl rfl g8 rfl) ?_
            refine SOps.q rfl (.plain rfl) rfl (q_move rfl rfl) ?_
            refine SOps.skip rfl 13 26 false rfl rfl (.inl (gT g9)) rfl ?_
            refine SOps.skip rfl 13 26 false rfl rfl (.inl (gT g9)) rfl ?_
            refine SOps.skip rfl 13 26 false rfl rfl (.inl (gT g9)) rfl ?_
            refine SOps.q rfl (.plain rfl) rfl (q_pick_t rfl rfl g9 rfl) ?_
            refine SOps.sub (st' := ⟨[(1, .c (.ptr 0 0)), (30, .c (.bool true))], [.box [.str a0_d.CDR, .str a0_d.By, .int .i64 a0_d.State, .int .i64 a0_d.Opened, .int .i64 a0_d.Claim, .int .i64 a0_d.Granted]]⟩) (sub_gen [0] rfl rfl ⟨⟨_, rfl, .inl ⟨rfl, rfl⟩⟩, ⟨_, rfl, .inl ⟨rfl, rfl⟩⟩, trivial⟩ ⟨⟨_, rfl, ⟨.inl ⟨rfl, rfl⟩, .inl ⟨rfl, rfl⟩, .inl ⟨rfl, rfl⟩, .inl ⟨rfl, rfl⟩, .inl ⟨rfl, rfl⟩, .inl ⟨rfl, rfl⟩, trivial⟩⟩, trivial⟩) ?_
            refine SOps.nil ?_
            refine SCode.cond_t rfl rfl ?_
            refine SCode.seq ?_
            refine SCode.region (show SOps _ _ _ [0] _ _ from ?_)
            refine SOps.q rfl (.plain rfl) rfl (q_assign rfl rfl) ?_
            refine SOps.sub (st' := ⟨[(2, .c (.int .i64 2))], []⟩) (sub_gen [] rfl rfl ⟨⟨_, rfl, .inl ⟨rfl, rfl⟩⟩, trivial⟩ trivial) ?_
            refine SOps.nil ?_
            refine SCode.ret ?_
            obtain rfl := Option.some.inj h
            exact ⟨⟨[(2, .c (.int .i64 2))], []⟩, _, sub_gen [] rfl rfl ⟨⟨_, rfl, .inl ⟨rfl, rfl⟩⟩, trivial⟩ trivial, resA1 (v := .c (.int .i64 2)) rfl rfl, rfl⟩
          · refine SCode.region (show SOps _ _ _ [0, 1, 2, 3, 4, 5, 6, 7, 8, 9, 10, 11, 12, 13, 14, 15, 16, 17] _ _ from ?_)
            refine SOps.q rfl (.plain rfl) rfl (q_field_ptr rfl rfl fd30_2) ?_
            refine SOps.q rfl (.plain rfl) rfl (q_load_ptr rfl rfl rfl rfl ty3) ?_
            refine SOps.q rfl (.plain rfl) rfl (q_lss rfl rfl rfl) ?_
            refine SOps.q rfl (.plain rfl) rfl (q_move rfl rfl) ?_
            refine SOps.q rfl (.guard 3 16 false rfl rfl (gF g7)) rfl (q_field_ptr rfl rfl fd30_2) ?_
            refine SOps.q rfl (.guard 3 16 false rfl rfl (gF g7)) rfl (q_load_ptr rfl rfl rfl rfl ty3) ?_
            refine SOps.q rfl (.guard 3 16 false rfl rfl (gF g7)) rfl (q_gtr rfl rfl rfl) ?_
            refine SOps.q rfl (.plain rfl) rfl (q_pick_f rfl rfl g7 rfl) ?_
            refine SOps.q rfl (.plain rfl) rfl (q_move rfl rfl) ?_
            refine SOps.q rfl (.guard 8 21 false rfl rfl (gF g8)) rfl (q_field_ptr rfl rfl fd30_3) ?_
            refine SOps.q rfl (.guard 8 21 false rfl rfl (gF g8)) rfl (q_load_ptr rfl rfl rfl rfl ty3) ?_
            refine SOps.q rfl (.guard 8 21 false rfl rfl (gF g8)) rfl (q_lss rfl rfl rfl) ?_
            refine SOps.q rfl (.plain rfl) rfl (q_pick_f rfl rfl g8 rfl) ?_
            refine SOps.q rfl (.plain rfl) rfl (q_move rfl rfl) ?_
            refine SOps.q rfl (.guard 13 26 false rfl rfl (gF g9)) rfl (q_field_ptr rfl rfl fd30_3) ?_
            refine SOps.q rfl (.guard 13 26 false rfl rfl (gF g9)) rfl (q_load_ptr rfl rfl rfl rfl ty3) ?_
            refine SOps.q rfl (.guard 13 26 false rfl rfl (gF g9)) rfl (q_gtr rfl rfl rfl) ?_
            refine SOps.q rfl (.plain rfl) rfl (q_pick_f rfl rfl g9 rfl) ?_
            refine SOps.sub (st' := ⟨[(1, .c (.ptr 0 0)), (30, .c (.bool (decide (268435456 < a0_d.Opened))))], [.box [.str a0_d.CDR, .str a0_d.By, .int .i64 a0_d.State, .int .i64 a0_d.Opened, .int .i64 a0_d.Claim, .int .i64 a0_d.Granted]]⟩) (sub_gen [0] rfl rfl ⟨⟨_, rfl, .inl ⟨rfl, rfl⟩⟩, ⟨_, rfl, .inl ⟨rfl, rfl⟩⟩, trivial⟩ ⟨⟨_, rfl, ⟨.inl ⟨rfl, rfl⟩, .inl ⟨rfl, rfl⟩, .inl ⟨rfl, rfl⟩, .inl ⟨rfl, rfl⟩, .inl ⟨rfl, rfl⟩, .inl ⟨rfl, rfl⟩, trivial⟩⟩, trivial⟩) ?_
            refine SOps.nil ?_
            rcases cond_out h with ⟨g10, h⟩ | ⟨g10, h⟩
            · refine SCode.cond_t rfl g10 ?_
              refine SCode.seq ?_
              refine SCode.region (show SOps _ _ _ [0] _ _ from ?_)
              refine SOps.q rfl (.plain rfl) rfl (q_assign rfl rfl) ?_
              refine SOps.sub (st' := ⟨[(2, .c (.int .i64 2))], []⟩) (sub_gen [] rfl rfl ⟨⟨_, rfl, .inl ⟨rfl, rfl⟩⟩, trivial⟩ trivial) ?_
              refine SOps.nil ?_
              refine SCode.ret ?_
              obtain rfl := Option.some.inj h
              exact ⟨⟨[(2, .c (.int .i64 2))], []⟩, _, sub_gen [] rfl rfl ⟨⟨_, rfl, .inl ⟨rfl, rfl⟩⟩, trivial⟩ trivial, resA1 (v := .c (.int .i64 2)) rfl rfl, rfl⟩
            · refine SCode.cond_f rfl g10 ?_
              refine SCode.skip ?_
              refine SCode.seq ?_
              refine SCode.seq ?_
              rcases cond_out h with ⟨g11, h⟩ | ⟨g11, h⟩
              · refine SCode.region (show SOps _ _ _ [0, 1, 2, 3, 4, 5, 6, 7, 8, 9, 10, 11, 12, 13, 14, 15, 16, 17, 18, 19] _ _ from ?_)
                refine SOps.q rfl (.plain rfl) rfl (q_field_ptr rfl rfl fd30_4) ?_
                refine SOps.q rfl (.plain rfl) rfl (q_load_ptr rfl rfl rfl rfl ty3) ?_
                refine SOps.q rfl (.plain rfl) rfl (q_lss rfl rfl rfl) ?_
                refine SOps.q rfl (.plain rfl) rfl (q_move rfl rfl) ?_
                refine SOps.skip rfl 3 34 false rfl rfl (.inl (gT g11)) rfl ?_
                refine SOps.skip rfl 3 34 false rfl rfl (.inl (gT g11)) rfl ?_
                refine SOps.skip rfl 3 34 false rfl rfl (.inl (gT g11)) rfl ?_
                refine SOps.q rfl (.plain rfl) rfl (q_pick_t rfl rfl g11 rfl) ?_
                refine SOps.q rfl (.plain rfl) rfl (q_move rfl rfl) ?_
                refine SOps.skip rfl 8 39 false rfl rfl (.inl rfl) rfl ?_
                refine SOps.skip rfl 8 39 false rfl rfl (.inl rfl) rfl ?_
                refine SOps.skip rfl 8 39 false rfl rfl (.inl rfl) rfl ?_
                refine SOps.q rfl (.plain rfl) rfl (q_pick_t rfl rfl rfl rfl) ?_
                refine SOps.q rfl (.plain rfl) rfl (q_move rfl rfl) ?_
                refine SOps.skip rfl 13 44 false rfl rfl (.inl rfl) rfl ?_
                refine SOps.skip rfl 13 44 false rfl rfl (.inl rfl) rfl ?_
                refine SOps.skip rfl 13 44 false rfl rfl (.inl rfl) rfl ?_
                refine SOps.skip rfl 13 44 false rfl rfl (.inl rfl) rfl ?_
                refine SOps.skip rfl 13 44 false rfl rfl (.inl rfl) rfl ?_
                refine SOps.q rfl (.plain rfl) rfl (q_pick_t rfl rfl rfl rfl) ?_
                refine SOps.sub (st' := ⟨[(1, .c (.ptr 0 0)), (50, .c (.bool true))], [.box [.str a0_d.CDR, .str a0_d.By, .int .i64 a0_d.State, .int .i64 a0_d.Opened, .int .i64 a0_d.Claim, .int .i64 a0_d.Granted]]⟩) (sub_gen [0] rfl rfl ⟨⟨_, rfl, .inl ⟨rfl, rfl⟩⟩, ⟨_, rfl, .inl ⟨rfl, rfl⟩⟩, trivial⟩ ⟨⟨_, rfl, ⟨.inl ⟨rfl, rfl⟩, .inl ⟨rfl, rfl⟩, .inl ⟨rfl, rfl⟩, .inl ⟨rfl, rfl⟩, .inl ⟨rfl, rfl⟩, .inl ⟨rfl, rfl⟩, trivial⟩⟩, trivial⟩) ?_
                refine SOps.nil ?_
                refine SCode.cond_t rfl rfl ?_
                refine SCode.seq ?_
                refine SCode.region (show SOps _ _ _ [0] _ _ from ?_)
                refine SOps.q rfl (.plain rfl) rfl (q_assign rfl rfl) ?_
                refine SOps.sub (st' := ⟨[(2, .c (.int .i64 2))], []⟩) (sub_gen [] rfl rfl ⟨⟨_, rfl, .inl ⟨rfl, rfl⟩⟩, trivial⟩ trivial) ?_
                refine SOps.nil ?_
                refine SCode.ret ?_
                obtain rfl := Option.some.inj h
                exact ⟨⟨[(2, .c (.int .i64 2))], []⟩, _, sub_gen [] rfl rfl ⟨⟨_, rfl, .inl ⟨rfl, rfl⟩⟩, trivial⟩ trivial, resA1 (v := .c (.int .i64 2)) rfl rfl, rfl⟩
              · rcases cond_out h with ⟨g12, h⟩ | ⟨g12, h⟩
                · refine SCode.region (show SOps _ _ _ [0, 1, 2, 3, 4, 5, 6, 7, 8, 9, 10, 11, 12, 13, 14, 15, 16, 17, 18, 19] _ _ from ?_)
                  refine SOps.q rfl (.plain rfl) rfl (q_field_ptr rfl rfl fd30_4) ?_
                  refine SOps.q rfl (.plain rfl) rfl (q_load_ptr rfl rfl rfl rfl ty3) ?_
                  refine SOps.q rfl (.plain rfl) rfl (q_lss rfl rfl rfl) ?_
                  refine SOps.q rfl (.plain rfl) rfl (q_move rfl rfl) ?_
                  refine SOps.q rfl (.guard 3 34 false rfl rfl (gF g11)) rfl (q_field_ptr rfl rfl fd30_4) ?_
                  refine SOps.q rfl (.guard 3 34 false rfl rfl (gF g11)) rfl (q_load_ptr rfl rfl rfl rfl ty3) ?_
                  refine SOps.q rfl (.guard 3 34 false rfl rfl (gF g11)) rfl (q_gtr rfl rfl rfl) ?_
                  refine SOps.q rfl (.plain rfl) rfl (q_pick_f rfl rfl g11 rfl) ?_
                  refine SOps.q rfl (.plain rfl) rfl (q_move rfl rfl) ?_
                  refine SOps.skip rfl 8 39 false rfl rfl (.inl (gT g12)) rfl ?_
                  refine SOps.skip rfl 8 39 false rfl rfl (.inl (gT g12)) rfl ?_
                  refine SOps.skip rfl 8 39 false rfl rfl (.inl (gT g12)) rfl ?_
                  refine SOps.q rfl (.plain rfl) rfl (q_pick_t rfl rfl g12 rfl) ?_
                  refine SOps.q rfl (.plain rfl) rfl (q_move rfl rfl) ?_
                  refine SOps.skip rfl 13 44 false rfl rfl (.inl rfl) rfl ?_
                  refine SOps.skip rfl 13 44 false rfl rfl (.inl rfl) rfl ?_
                  refine SOps.skip rfl 13 44 false rfl rfl (.inl rfl) rfl ?_
                  refine SOps.skip rfl 13 44 false rfl rfl (.inl rfl) rfl ?_
                  refine SOps.skip rfl 13 44 false rfl rfl (.inl rfl) rfl ?_
                  refine SOps.q rfl (.plain rfl) rfl (q_pick_t rfl rfl rfl rfl) ?_
                  refine SOps.sub (st' := ⟨[(1, .c (.ptr 0 0)), (50, .c (.bool true))], [.box [.str a0_d.CDR, .str a0_d.By, .int .i64 a0_d.State, .int .i64 a0_d.Opened, .int .i64 a0_d.Claim, .int .i64 a0_d.Granted]]⟩) (sub_gen [0] rfl rfl ⟨⟨_, rfl, .inl ⟨rfl, rfl⟩⟩, ⟨_, rfl, .inl ⟨rfl, rfl⟩⟩, trivial⟩ ⟨⟨_, rfl, ⟨.inl ⟨rfl, rfl⟩, .inl ⟨rfl, rfl⟩, .inl ⟨rfl, rfl⟩, .inl ⟨rfl, rfl⟩, .inl ⟨rfl, rfl⟩, .inl ⟨rfl, rfl⟩, trivial⟩⟩, trivial⟩) ?_
                  refine SOps.nil ?_
                  refine SCode.cond_t rfl rfl ?_
                  refine SCode.seq ?_
                  refine SCode.region (show SOps _ _ _ [0] _ _ from ?_)
                  refine SOps.q rfl (.plain rfl) rfl (q_assign rfl rfl) ?_
                  refine SOps.sub (st' := ⟨[(2, .c (.int .i64 2))], []⟩) (sub_gen [] rfl rfl ⟨⟨_, rfl, .inl ⟨rfl, rfl⟩⟩, trivial⟩ trivial) ?_
                  refine SOps.nil ?_
                  refine SCode.ret ?_
                  obtain rfl := Option.some.inj h
                  exact ⟨⟨[(2, .c (.int .i64 2))], []⟩, _, sub_gen [] rfl rfl ⟨⟨_, rfl, .inl ⟨rfl, rfl⟩⟩, trivial⟩ trivial, resA1 (v := .c (.int .i64 2)) rfl rfl, rfl⟩
                · rcases cond_out h with ⟨g13, h⟩ | ⟨g13, h⟩
                  · refine SCode.region (show SOps _ _ _ [0, 1, 2, 3, 4, 5, 6, 7, 8, 9, 10, 11, 12, 13, 14, 15, 16, 17, 18, 19] _ _ from ?_)
                    refine SOps.q rfl (.plain rfl) rfl (q_field_ptr rfl rfl fd30_4) ?_
                    refine SOps.q rfl (.plain rfl) rfl (q_load_ptr rfl rfl rfl rfl ty3) ?_
                    refine SOps.q rfl (.plain rfl) rfl (q_lss rfl rfl rfl) ?_
                    refine SOps.q rfl (.plain rfl) rfl (q_move rfl rfl) ?_
                    refine SOps.q rfl (.guard 3 34 false rfl rfl (gF g11)) rfl (q_field_ptr rfl rfl fd30_4) ?_
                    refine SOps.q rfl (.guard 3 34 false rfl rfl (gF g11)) rfl (q_load_ptr rfl rfl rfl rfl ty3) ?_
                    refine SOps.q rfl (.guard 3 34 false rfl rfl (gF g11)) rfl (q_gtr rfl rfl rfl) ?_
                    refine SOps.q rfl (.plain rfl) rfl (q_pick_f rfl rfl g11 rfl) ?_
                    refine SOps.q rfl (.plain rfl) rfl (q_move rfl rfl) ?_
                    refine SOps.q rfl (.guard 8 39 false rfl rfl (gF g12)) rfl (q_field_ptr rfl rfl fd30_5) ?_
                    refine SOps.q rfl (.guard 8 39 false rfl rfl (gF g12)) rfl (q_load_ptr rfl rfl rfl rfl ty3) ?_
                    refine SOps.q rfl (.guard 8 39 false rfl rfl (gF g12)) rfl (q_lss rfl rfl rfl) ?_
                    refine SOps.q rfl (.plain rfl) rfl (q_pick_f rfl rfl g12 rfl) ?_
                    refine SOps.q rfl (.plain rfl) rfl (q_move rfl rfl) ?_
                    refine SOps.skip rfl 13 44 false rfl rfl (.inl (gT g13)) rfl ?_
                    refine SOps.skip rfl 13 44 false rfl rfl (.inl (gT g13)) rfl ?_
                    refine SOps.skip rfl 13 44 false rfl rfl (.inl (gT g13)) rfl ?_
                    refine SOps.skip rfl 13 44 false rfl rfl (.inl (gT g13)) rfl ?_
                    refine SOps.skip rfl 13 44 false rfl rfl (.inl (gT g13)) rfl ?_
                    refine SOps.q rfl (.plain rfl) rfl (q_pick_t rfl rfl g13 rfl) ?_
                    refine SOps.sub (st' := ⟨[(1, .c (.ptr 0 0)), (50, .c (.bool true))], [.box [.str a0_d.CDR, .str a0_d.By, .int .i64 a0_d.State, .int .i64 a0_d.Opened, .int .i64 a0_d.Claim, .int .i64 a0_d.Granted]]⟩) (sub_gen [0] rfl rfl ⟨⟨_, rfl, .inl ⟨rfl, rfl⟩⟩, ⟨_, rfl, .inl ⟨rfl, rfl⟩⟩, trivial⟩ ⟨⟨_, rfl, ⟨.inl ⟨rfl, rfl⟩, .inl ⟨rfl, rfl⟩, .inl ⟨rfl, rfl⟩, .inl ⟨rfl, rfl⟩, .inl ⟨rfl, rfl⟩, .inl ⟨rfl, rfl⟩, trivial⟩⟩, trivial⟩) ?_
                    refine SOps.nil ?_
                    refine SCode.cond_t rfl rfl ?_
                    refine SCode.seq ?_
                    refine SCode.region (show SOps _ _ _ [0] _ _ from ?_)
                    refine SOps.q rfl (.plain rfl) rfl (q_assign rfl rfl) ?_
                    refine SOps.sub (st' := ⟨[(2, .c (.int .i64 2))], []⟩) (sub_gen [] rfl rfl ⟨⟨_, rfl, .inl ⟨rfl, rfl⟩⟩, trivial⟩ trivial) ?_
                    refine SOps.nil ?_
                    refine SCode.ret ?_
                    obtain rfl := Option.some.inj h
                    exact ⟨⟨[(2, .c (.int .i64 2))], []⟩, _, sub_gen [] rfl rfl ⟨⟨_, rfl, .inl ⟨rfl, rfl⟩⟩, trivial⟩ trivial, resA1 (v := .c (.int .i64 2)) rfl rfl, rfl⟩
                  · refine SCode.region (show SOps _ _ _ [0, 1, 2, 3, 4, 5, 6, 7, 8, 9, 10, 11, 12, 13, 14, 15, 16, 17, 18, 19] _ _ from ?_)
                    refine SOps.q rfl (.plain rfl) rfl (q_field_ptr rfl rfl fd30_4) ?_
                    refine SOps.q rfl (.plain rfl) rfl (q_load_ptr rfl rfl rfl rfl ty3) ?_
                    refine SOps.q rfl (.plain rfl) rfl (q_lss rfl rfl rfl) ?_
                    refine SOps.q rfl (.plain rfl) rfl (q_move rfl rfl) ?_
                    refine SOps.q rfl (.guard 3 34 false rfl rfl (gF g11)) rfl (q_field_ptr rfl rfl fd30_4) ?_
                    refine SOps.q rfl (.guard 3 34 false rfl rfl (gF g11)) rfl (q_load_ptr rfl rfl rfl rfl ty3) ?_
                    refine SOps.q rfl (.guard 3 34 false rfl rfl (gF g11)) rfl (q_gtr rfl rfl rfl) ?_
                    refine SOps.q rfl (.plain rfl) rfl (q_pick_f rfl rfl g11 rfl) ?_
                    refine SOps.q rfl (.plain rfl) rfl (q_move rfl rfl) ?_
                    refine SOps.q rfl (.guard 8 39 false rfl rfl (gF g12)) rfl (q_field_ptr rfl rfl fd30_5) ?_
                    refine SOps.q rfl (.guard 8 39 false rfl rfl (gF g12)) rfl (q_load_ptr rfl rfl rfl rfl ty3) ?_
                    refine SOps.q rfl (.guard 8 39 false rfl rfl (gF g12)) rfl (q_lss rfl rfl rfl) ?_
                    refine SOps.q rfl (.plain rfl) rfl (q_pick_f rfl rfl g12 rfl) ?_
                    refine SOps.q rfl (.plain rfl) rfl (q_move rfl rfl) ?_
                    refine SOps.q rfl (.guard 13 44 false rfl rfl (gF g13)) rfl (q_field_ptr rfl rfl fd30_5) ?_
                    refine SOps.q rfl (.guard 13 44 false rfl rfl (gF g13)) rfl (q_load_ptr rfl rfl rfl rfl ty3) ?_
                    refine SOps.q rfl (.guard 13 44 false rfl rfl (gF g13)) rfl (q_field_ptr rfl rfl fd30_4) ?_
                    refine SOps.q rfl (.guard 13 44 false rfl rfl (gF g13)) rfl (q_load_ptr rfl rfl rfl rfl ty3) ?_
                    refine SOps.q rfl (.guard 13 44 false rfl rfl (gF g13)) rfl (q_gtr rfl rfl rfl) ?_
                    refine SOps.q rfl (.plain rfl) rfl (q_pick_f rfl rfl g13 rfl) ?_
                    refine SOps.sub (st' := ⟨[(1, .c (.ptr 0 0)), (50, .c (.bool (decide (a0_d.Claim < a0_d.Granted))))], [.box [.str a0_d.CDR, .str a0_d.By, .int .i64 a0_d.State, .int .i64 a0_d.Opened, .int .i64 a0_d.Claim, .int .i64 a0_d.Granted]]⟩) (sub_gen [0] rfl rfl ⟨⟨_, rfl, .inl ⟨rfl, rfl⟩⟩, ⟨_, rfl, .inl ⟨rfl, rfl⟩⟩, trivial⟩ ⟨⟨_, rfl, ⟨.inl ⟨rfl, rfl⟩, .inl ⟨rfl, rfl⟩, .inl ⟨rfl, rfl⟩, .inl ⟨rfl, rfl⟩, .inl ⟨rfl, rfl⟩, .inl ⟨rfl, rfl⟩, trivial⟩⟩, trivial⟩) ?_
                    refine SOps.nil ?_
                    rcases cond_out h with ⟨g14, h⟩ | ⟨g14, h⟩
                    · refine SCode.cond_t rfl g14 ?_
                      refine SCode.seq ?_
                      refine SCode.region (show SOps _ _ _ [0] _ _ from ?_)
                      refine SOps.q rfl (.plain rfl) rfl (q_assign rfl rfl) ?_
                      refine SOps.sub (st' := ⟨[(2, .c (.int .i64 2))], []⟩) (sub_gen [] rfl rfl ⟨⟨_, rfl, .inl ⟨rfl, rfl⟩⟩, trivial⟩ trivial) ?_
                      refine SOps.nil ?_
                      refine SCode.ret ?_
                      obtain rfl := Option.some.inj h
                      exact ⟨⟨[(2, .c (.int .i64 2))], []⟩, _, sub_gen [] rfl rfl ⟨⟨_, rfl, .inl ⟨rfl, rfl⟩⟩, trivial⟩ trivial, resA1 (v := .c (.int .i64 2)) rfl rfl, rfl⟩
                    · refine SCode.cond_f rfl g14 ?_
                      refine SCode.skip ?_
                      refine SCode.seq ?_
                      refine SCode.seq ?_
                      refine SCode.region (show SOps _ _ _ [0, 1, 2, 3, 4, 5, 6] _ _ from ?_)
                      refine SOps.q rfl (.plain rfl) rfl (q_field_ptr rfl rfl fd30_5) ?_
                      refine SOps.q rfl (.plain rfl) rfl (q_load_ptr rfl rfl rfl rfl ty3) ?_
                      refine SOps.q rfl (.plain rfl) rfl (q_eql rfl rfl rfl) ?_
                      refine SOps.q rfl (.plain rfl) rfl (q_field_ptr rfl rfl fd30_2) ?_
                      refine SOps.q rfl (.plain rfl) rfl (q_load_ptr rfl rfl rfl rfl ty3) ?_
                      refine SOps.q rfl (.plain rfl) rfl (q_neq rfl rfl rfl) ?_
                      refine SOps.q rfl (.plain rfl) rfl (q_neqB rfl rfl rfl un4) ?_
                      refine SOps.sub (st' := ⟨[(57, .c (.bool ((!(decide (a0_d.Granted = 0) == (!decide (a0_d.State = 4)))))))], []⟩) (sub_gen [] rfl rfl ⟨⟨_, rfl, .inl ⟨rfl, rfl⟩⟩, trivial⟩ trivial) ?_
                      refine SOps.nil ?_
                      rcases cond_out h with ⟨g15, h⟩ | ⟨g15, h⟩
                      · refine SCode.cond_t rfl g15 ?_
                        refine SCode.seq ?_
                        refine SCode.region (show SOps _ _ _ [0] _ _ from ?_)
                        refine SOps.q rfl (.plain rfl) rfl (q_assign rfl rfl) ?_
                        refine SOps.sub (st' := ⟨[(2, .c (.int .i64 1))], []⟩) (sub_gen [] rfl rfl ⟨⟨_, rfl, .inl ⟨rfl, rfl⟩⟩, trivial⟩ trivial) ?_
                        refine SOps.nil ?_
                        refine SCode.ret ?_
                        obtain rfl := Option.some.inj h
                        exact ⟨⟨[(2, .c (.int .i64 1))], []⟩, _, sub_gen [] rfl rfl ⟨⟨_, rfl, .inl ⟨rfl, rfl⟩⟩, trivial⟩ trivial, resA1 (v := .c (.int .i64 1)) rfl rfl, rfl⟩
                      · refine SCode.cond_f rfl g15 ?_
                        refine SCode.skip ?_
                        refine SCode.seq ?_
                        refine SCode.region (show SOps _ _ _ [0] _ _ from ?_)
                        refine SOps.q rfl (.plain rfl) rfl (q_assign rfl rfl) ?_
                        refine SOps.sub (st' := ⟨[(2, .c (.int .i64 0))], []⟩) (sub_gen [] rfl rfl ⟨⟨_, rfl, .inl ⟨rfl, rfl⟩⟩, trivial⟩ trivial) ?_
                        refine SOps.nil ?_
                        refine SCode.ret ?_
                        obtain rfl := Option.some.inj h
                        exact ⟨⟨[(2, .c (.int .i64 0))], []⟩, _, sub_gen [] rfl rfl ⟨⟨_, rfl, .inl ⟨rfl, rfl⟩⟩, trivial⟩ trivial, resA1 (v := .c (.int .i64 0)) rfl rfl, rfl⟩
end Go.Proofs.Ytllifhmllicnhaa.W
