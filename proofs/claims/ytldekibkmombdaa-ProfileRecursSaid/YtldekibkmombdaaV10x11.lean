/- Written by a program of ours (wip/eng/gen.py): the functions compute their models. -/
import Derived.Test.YtldekibkmombdaaFacts
import Derived.Test.YtldekibkmombdaaV10x10
namespace Go.Proofs.Ytldekibkmombdaa.W
open Go Go.Proofs Go.Proofs.Ytldekibkmombdaa.E Go.Proofs.Ytldekibkmombdaa.M
set_option linter.unusedVariables false
set_option maxHeartbeats 8000000 in
theorem chargenetlaw15_ProfileRecurs_ok (F : Nat) (a0_p : SProfile) (a1_start : Int) (a2_t : Int) (r : Bool) (h : chargenetlaw15_ProfileRecurs F a0_p a1_start a2_t = some r) :
    SFun Try.prog 10 [] [.a [.int .i64 a0_p.ID, .int .i64 a0_p.Level, .int .i64 a0_p.Purpose, .int .i64 a0_p.Kind, .int .i64 a0_p.Conn, .str a0_p.Txn, .int .i64 a0_p.Span_From, .int .i64 a0_p.Span_To, .int .i64 a0_p.Start, .int .i64 a0_p.Duration, .vec a0_p.Periods.length 2 (gL cSPeriod dSPeriod a0_p.Periods)], .c (.int .i64 a1_start), .c (.int .i64 a2_t)] (fun x _ => x = .c (.bool r)) := by
  refine SFun.of (n := 100) Try.func10 rfl rfl rfl ?_
  unfold chargenetlaw15_ProfileRecurs at h
  show SCode _ _ _ ⟨[(0, .a [.int .i64 a0_p.ID, .int .i64 a0_p.Level, .int .i64 a0_p.Purpose, .int .i64 a0_p.Kind, .int .i64 a0_p.Conn, .str a0_p.Txn, .int .i64 a0_p.Span_From, .int .i64 a0_p.Span_To, .int .i64 a0_p.Start, .int .i64 a0_p.Duration, .vec a0_p.Periods.length 2 (gL cSPeriod dSPeriod a0_p.Periods)]), (1, .c (.int .i64 a1_start)), (2, .c (.int .i64 a2_t))], []⟩ _
  refine SCode.seq ?_
  refine SCode.region (show SOps _ _ _ [0, 1] _ _ from ?_)
  refine SOps.e rfl (.plain rfl) (e_box rfl rfl rfl rfl rfl rfl) ?_
  refine SOps.q rfl (.plain rfl) rfl (q_assign rfl rfl) ?_
  refine SOps.sub (st' := ⟨[(1, .c (.int .i64 a1_start)), (2, .c (.int .i64 a2_t)), (3, .c (.ptr 0 0))], [.box [.int .i64 a0_p.ID, .int .i64 a0_p.Level, .int .i64 a0_p.Purpose, .int .i64 a0_p.Kind, .int .i64 a0_p.Conn, .str a0_p.Txn, .int .i64 a0_p.Span_From, .int .i64 a0_p.Span_To, .int .i64 a0_p.Start, .int .i64 a0_p.Duration, .vec a0_p.Periods.length 2 (gL cSPeriod dSPeriod a0_p.Periods)]]⟩) (sub_gen [0] rfl rfl ⟨⟨_, rfl, .inl ⟨rfl, rfl⟩⟩, ⟨_, rfl, .inl ⟨rfl, rfl⟩⟩, ⟨_, rfl, .inl ⟨rfl, rfl⟩⟩, trivial⟩ ⟨⟨_, rfl, ⟨.inl ⟨rfl, rfl⟩, .inl ⟨rfl, rfl⟩, .inl ⟨rfl, rfl⟩, .inl ⟨rfl, rfl⟩, .inl ⟨rfl, rfl⟩, .inl ⟨rfl, rfl⟩, .inl ⟨rfl, rfl⟩, .inl ⟨rfl, rfl⟩, .inl ⟨rfl, rfl⟩, .inl ⟨rfl, rfl⟩, .inl ⟨rfl, rfl⟩, trivial⟩⟩, trivial⟩) ?_
  refine SOps.nil ?_
  refine SCode.seq ?_
  refine SCode.region (show SOps _ _ _ [0, 1, 2, 3, 4] _ _ from ?_)
  refine SOps.q rfl (.plain rfl) rfl (q_field_ptr rfl rfl fd26_6) ?_
  refine SOps.q rfl (.plain rfl) rfl (q_field_ptr rfl rfl fd23_1) ?_
  refine SOps.e rfl (.plain rfl) (e_store_box rfl rfl rfl rfl rfl ty3 rfl rfl rfl rfl) ?_
  refine SOps.q rfl (.plain rfl) rfl (q_field_ptr rfl rfl fd26_8) ?_
  refine SOps.e rfl (.plain rfl) (e_store_box rfl rfl rfl rfl rfl ty3 rfl rfl rfl rfl) ?_
  refine SOps.sub (st' := ⟨[(1, .c (.int .i64 a1_start)), (2, .c (.int .i64 a2_t)), (3, .c (.ptr 0 0))], [.box [.int .i64 a0_p.ID, .int .i64 a0_p.Level, .int .i64 a0_p.Purpose, .int .i64 a0_p.Kind, .int .i64 a0_p.Conn, .str a0_p.Txn, .int .i64 a0_p.Span_From, .int .i64 ((-1)), .int .i64 a0_p.Start, .int .i64 ((-1)), .vec a0_p.Periods.length 2 (gL cSPeriod dSPeriod a0_p.Periods)]]⟩) (sub_gen [0] rfl rfl ⟨⟨_, rfl, .inl ⟨rfl, rfl⟩⟩, ⟨_, rfl, .inl ⟨rfl, rfl⟩⟩, ⟨_, rfl, .inl ⟨rfl, rfl⟩⟩, trivial⟩ ⟨⟨_, rfl, ⟨.inl ⟨rfl, rfl⟩, .inl ⟨rfl, rfl⟩, .inl ⟨rfl, rfl⟩, .inl ⟨rfl, rfl⟩, .inl ⟨rfl, rfl⟩, .inl ⟨rfl, rfl⟩, .inl ⟨rfl, rfl⟩, .inl ⟨rfl, rfl⟩, .inl ⟨rfl, rfl⟩, .inl ⟨rfl, rfl⟩, .inl ⟨rfl, rfl⟩, trivial⟩⟩, trivial⟩) ?_
  refine SOps.nil ?_
  refine SCode.join (σ := Unit) (S := fun s => ⟨[(1, .c (.int .i64 a1_start)), (2, .c (.int .i64 a2_t)), (3, .c (.ptr 0 0))], [.box [.int .i64 a0_p.ID, .int .i64 a0_p.Level, .int .i64 a0_p.Purpose, .int .i64 a0_p.Kind, .int .i64 a0_p.Conn, .str a0_p.Txn, .int .i64 a0_p.Span_From, .int .i64 ((-1)), .int .i64 a0_p.Start, .int .i64 ((-1)), .vec a0_p.Periods.length 2 (gL cSPeriod dSPeriod a0_p.Periods)]]⟩) (g := fun s => chargenetlaw15_ProfileRecurs_p31 F a0_p a1_start a2_t = some r) ?_ ?_
  · rintro ⟨⟩ h
    show SCode _ _ _ ⟨[(1, .c (.int .i64 a1_start)), (2, .c (.int .i64 a2_t)), (3, .c (.ptr 0 0))], [.box [.int .i64 a0_p.ID, .int .i64 a0_p.Level, .int .i64 a0_p.Purpose, .int .i64 a0_p.Kind, .int .i64 a0_p.Conn, .str a0_p.Txn, .int .i64 a0_p.Span_From, .int .i64 ((-1)), .int .i64 a0_p.Start, .int .i64 ((-1)), .vec a0_p.Periods.length 2 (gL cSPeriod dSPeriod a0_p.Periods)]]⟩ _
    replace h : chargenetlaw15_ProfileRecurs_p31 F a0_p a1_start a2_t = some r := h
    unfold chargenetlaw15_ProfileRecurs_p31 at h
    refine SCode.seq ?_
    refine SCode.region (show SOps _ _ _ [0] _ _ from ?_)
    refine SOps.q rfl (.plain rfl) rfl (q_assign rfl rfl) ?_
    refine SOps.sub (st' := ⟨[(1, .c (.int .i64 a1_start)), (2, .c (.int .i64 a2_t)), (3, .c (.ptr 0 0)), (7, .c (.int .i64 1440))], [.box [.int .i64 a0_p.ID, .int .i64 a0_p.Level, .int .i64 a0_p.Purpose, .int .i64 a0_p.Kind, .int .i64 a0_p.Conn, .str a0_p.Txn, .int .i64 a0_p.Span_From, .int .i64 ((-1)), .int .i64 a0_p.Start, .int .i64 ((-1)), .vec a0_p.Periods.length 2 (gL cSPeriod dSPeriod a0_p.Periods)]]⟩) (sub_gen [0] rfl rfl ⟨⟨_, rfl, .inl ⟨rfl, rfl⟩⟩, ⟨_, rfl, .inl ⟨rfl, rfl⟩⟩, ⟨_, rfl, .inl ⟨rfl, rfl⟩⟩, ⟨_, rfl, .inl ⟨rfl, rfl⟩⟩, trivial⟩ ⟨⟨_, rfl, ⟨.inl ⟨rfl, rfl⟩, .inl ⟨rfl, rfl⟩, .inl ⟨rfl, rfl⟩, .inl ⟨rfl, rfl⟩, .inl ⟨rfl, rfl⟩, .inl ⟨rfl, rfl⟩, .inl ⟨rfl, rfl⟩, .inl ⟨rfl, rfl⟩, .inl ⟨rfl, rfl⟩, .inl ⟨rfl, rfl⟩, .inl ⟨rfl, rfl⟩, trivial⟩⟩, trivial⟩) ?_
    refine SOps.nil ?_
    refine SCode.join (σ := Int) (S := fun s => ⟨[(1, .c (.int .i64 a1_start)), (2, .c (.int .i64 a2_t)), (3, .c (.ptr 0 0)), (7, .c (.int .i64 s))], [.box [.int .i64 a0_p.ID, .int .i64 a0_p.Level, .int .i64 a0_p.Purpose, .int .i64 a0_p.Kind, .int .i64 a0_p.Conn, .str a0_p.Txn, .int .i64 a0_p.Span_From, .int .i64 ((-1)), .int .i64 a0_p.Start, .int .i64 ((-1)), .vec a0_p.Periods.length 2 (gL cSPeriod dSPeriod a0_p.Periods)]]⟩) (g := fun s => chargenetlaw15_ProfileRecurs_p29 F a0_p a1_start a2_t s = some r) ?_ ?_
    · rintro c_1 h
      show SCode _ _ _ ⟨[(1, .c (.int .i64 a1_start)), (2, .c (.int .i64 a2_t)), (3, .c (.ptr 0 0)), (7, .c (.int .i64 c_1))], [.box [.int .i64 a0_p.ID, .int .i64 a0_p.Level, .int .i64 a0_p.Purpose, .int .i64 a0_p.Kind, .int .i64 a0_p.Conn, .str a0_p.Txn, .int .i64 a0_p.Span_From, .int .i64 ((-1)), .int .i64 a0_p.Start, .int .i64 ((-1)), .vec a0_p.Periods.length 2 (gL cSPeriod dSPeriod a0_p.Periods)]]⟩ _
      replace h : chargenetlaw15_ProfileRecurs_p29 F a0_p a1_start a2_t c_1 = some r := h
      unfold chargenetlaw15_ProfileRecurs_p29 at h
      refine SCode.seq ?_
      obtain ⟨c_2, g3, h⟩ := bind_out h
      try dsimp only at h
      refine SCode.region (show SOps _ _ _ [0, 1, 2, 3, 4, 5, 6, 7, 8] _ _ from ?_)
      refine SOps.q rfl (.plain rfl) rfl (q_load_ptr_all rfl rfl rfl rfl rfl ty26) ?_
      refine SOps.q rfl (.plain rfl) rfl (q_move rfl rfl) ?_
      refine SOps.q rfl (.plain rfl) rfl (q_move rfl rfl) ?_
      refine SOps.q rfl (.plain rfl) rfl (q_call (profile_Limit_ok F (SProfile.mk a0_p.ID a0_p.Level a0_p.Purpose a0_p.Kind a0_p.Conn a0_p.Txn a0_p.Span_From ((-1)) a0_p.Start ((-1)) a0_p.Periods) a1_start a2_t c_2 g3) [] rfl fn22 ⟨⟨rfl, rfl⟩, ⟨_, rfl, .inl ⟨rfl, rfl⟩⟩, ⟨_, rfl, .inl ⟨rfl, rfl⟩⟩, trivial⟩ (.inl rfl)) ?_
      refine SOps.q rfl (.plain rfl) rfl (q_move rfl rfl) ?_
      refine SOps.q rfl (.plain rfl) rfl (q_extract rfl rfl rfl) ?_
      refine SOps.q rfl (.plain rfl) rfl (q_extract rfl rfl rfl) ?_
      refine SOps.q rfl (.plain rfl) rfl (q_assign rfl rfl) ?_
      refine SOps.q rfl (.plain rfl) rfl (q_assign rfl rfl) ?_
      refine SOps.sub (st' := ⟨[(1, .c (.int .i64 a1_start)), (2, .c (.int .i64 a2_t)), (3, .c (.ptr 0 0)), (7, .c (.int .i64 c_1)), (8, .c (.int .i64 c_2.1)), (9, .c (.bool c_2.2))], [.box [.int .i64 a0_p.ID, .int .i64 a0_p.Level, .int .i64 a0_p.Purpose, .int .i64 a0_p.Kind, .int .i64 a0_p.Conn, .str a0_p.Txn, .int .i64 a0_p.Span_From, .int .i64 ((-1)), .int .i64 a0_p.Start, .int .i64 ((-1)), .vec a0_p.Periods.length 2 (gL cSPeriod dSPeriod a0_p.Periods)]]⟩) (sub_gen [0] rfl rfl ⟨⟨_, rfl, .inl ⟨rfl, rfl⟩⟩, ⟨_, rfl, .inl ⟨rfl, rfl⟩⟩, ⟨_, rfl, .inl ⟨rfl, rfl⟩⟩, ⟨_, rfl, .inl ⟨rfl, rfl⟩⟩, ⟨_, rfl, .inl ⟨rfl, rfl⟩⟩, ⟨_, rfl, .inl ⟨rfl, rfl⟩⟩, trivial⟩ ⟨⟨_, rfl, ⟨.inl ⟨rfl, rfl⟩, .inl ⟨rfl, rfl⟩, .inl ⟨rfl, rfl⟩, .inl ⟨rfl, rfl⟩, .inl ⟨rfl, rfl⟩, .inl ⟨rfl, rfl⟩, .inl ⟨rfl, rfl⟩, .inl ⟨rfl, rfl⟩, .inl ⟨rfl, rfl⟩, .inl ⟨rfl, rfl⟩, .inl ⟨rfl, rfl⟩, trivial⟩⟩, trivial⟩) ?_
      refine SOps.nil ?_
      refine SCode.seq ?_
      obtain ⟨c_4, g5, h⟩ := bind_out h
      try dsimp only at h
      refine SCode.region (show SOps _ _ _ [0, 1, 2, 3, 4, 5, 6, 7, 8, 9, 10] _ _ from ?_)
      refine SOps.q rfl (.plain rfl) rfl (q_load_ptr_all rfl rfl rfl rfl rfl ty26) ?_
      refine SOps.q rfl (.plain rfl) rfl (q_move rfl rfl) ?_
      refine SOps.q rfl (.plain rfl) rfl (q_move rfl rfl) ?_
      refine SOps.q rfl (.plain rfl) rfl (q_move rfl rfl) ?_
      refine SOps.q rfl (.plain rfl) rfl (q_add rfl rfl rfl) ?_
      refine SOps.q rfl (.plain rfl) rfl (q_call (profile_Limit_ok F (SProfile.mk a0_p.ID a0_p.Level a0_p.Purpose a0_p.Kind a0_p.Conn a0_p.Txn a0_p.Span_From ((-1)) a0_p.Start ((-1)) a0_p.Periods) a1_start (IntKind.wrap .i64 (a2_t + c_1)) c_4 g5) [] rfl fn22 ⟨⟨rfl, rfl⟩, ⟨_, rfl, .inl ⟨rfl, rfl⟩⟩, ⟨_, rfl, .inl ⟨rfl, rfl⟩⟩, trivial⟩ (.inl rfl)) ?_
      refine SOps.q rfl (.plain rfl) rfl (q_move rfl rfl) ?_
      refine SOps.q rfl (.plain rfl) rfl (q_extract rfl rfl rfl) ?_
      refine SOps.q rfl (.plain rfl) rfl (q_extract rfl rfl rfl) ?_
      refine SOps.q rfl (.plain rfl) rfl (q_assign rfl rfl) ?_
      refine SOps.q rfl (.plain rfl) rfl (q_assign rfl rfl) ?_
      refine SOps.sub (st' := ⟨[(3, .c (.ptr 0 0)), (8, .c (.int .i64 c_2.1)), (9, .c (.bool c_2.2)), (10, .c (.int .i64 c_4.1)), (11, .c (.bool c_4.2))], [.box [.int .i64 a0_p.ID, .int .i64 a0_p.Level, .int .i64 a0_p.Purpose, .int .i64 a0_p.Kind, .int .i64 a0_p.Conn, .str a0_p.Txn, .int .i64 a0_p.Span_From, .int .i64 ((-1)), .int .i64 a0_p.Start, .int .i64 ((-1)), .vec a0_p.Periods.length 2 (gL cSPeriod dSPeriod a0_p.Periods)]]⟩) (sub_gen [0] rfl rfl ⟨⟨_, rfl, .inl ⟨rfl, rfl⟩⟩, ⟨_, rfl, .inl ⟨rfl, rfl⟩⟩, ⟨_, rfl, .inl ⟨rfl, rfl⟩⟩, ⟨_, rfl, .inl ⟨rfl, rfl⟩⟩, ⟨_, rfl, .inl ⟨rfl, rfl⟩⟩, trivial⟩ ⟨⟨_, rfl, ⟨.inl ⟨rfl, rfl⟩, .inl ⟨rfl, rfl⟩, .inl ⟨rfl, rfl⟩, .inl ⟨rfl, rfl⟩, .inl ⟨rfl, rfl⟩, .inl ⟨rfl, rfl⟩, .inl ⟨rfl, rfl⟩, .inl ⟨rfl, rfl⟩, .inl ⟨rfl, rfl⟩, .inl ⟨rfl, rfl⟩, .inl ⟨rfl, rfl⟩, trivial⟩⟩, trivial⟩) ?_
      refine SOps.nil ?_
      refine SCode.seq ?_
      refine SCode.region (show SOps _ _ _ [0] _ _ from ?_)
      refine SOps.q rfl (.plain rfl) rfl (q_assign rfl rfl) ?_
      refine SOps.sub (st' := ⟨[(3, .c (.ptr 0 0)), (8, .c (.int .i64 c_2.1)), (9, .c (.bool c_2.2)), (10, .c (.int .i64 c_4.1)), (11, .c (.bool c_4.2)), (12, .c (.bool false))], [.box [.int .i64 a0_p.ID, .int .i64 a0_p.Level, .int .i64 a0_p.Purpose, .int .i64 a0_p.Kind, .int .i64 a0_p.Conn, .str a0_p.Txn, .int .i64 a0_p.Span_From, .int .i64 ((-1)), .int .i64 a0_p.Start, .int .i64 ((-1)), .vec a0_p.Periods.length 2 (gL cSPeriod dSPeriod a0_p.Periods)]]⟩) (sub_gen [0] rfl rfl ⟨⟨_, rfl, .inl ⟨rfl, rfl⟩⟩, ⟨_, rfl, .inl ⟨rfl, rfl⟩⟩, ⟨_, rfl, .inl ⟨rfl, rfl⟩⟩, ⟨_, rfl, .inl ⟨rfl, rfl⟩⟩, ⟨_, rfl, .inl ⟨rfl, rfl⟩⟩, ⟨_, rfl, .inl ⟨rfl, rfl⟩⟩, trivial⟩ ⟨⟨_, rfl, ⟨.inl ⟨rfl, rfl⟩, .inl ⟨rfl, rfl⟩, .inl ⟨rfl, rfl⟩, .inl ⟨rfl, rfl⟩, .inl ⟨rfl, rfl⟩, .inl ⟨rfl, rfl⟩, .inl ⟨rfl, rfl⟩, .inl ⟨rfl, rfl⟩, .inl ⟨rfl, rfl⟩, .inl ⟨rfl, rfl⟩, .inl ⟨rfl, rfl⟩, trivial⟩⟩, trivial⟩) ?_
      refine SOps.nil ?_
      refine SCode.join (σ := Bool) (S := fun s => ⟨[(8, .c (.int .i64 c_2.1)), (9, .c (.bool c_2.2)), (10, .c (.int .i64 c_4.1)), (11, .c (.bool c_4.2)), (12, .c (.bool s))], []⟩) (g := fun s => chargenetlaw15_ProfileRecurs_p13 F c_2 c_4 s = some r) ?_ ?_
      · rintro some_6 h
        show SCode _ _ _ ⟨[(8, .c (.int .i64 c_2.1)), (9, .c (.bool c_2.2)), (10, .c (.int .i64 c_4.1)), (11, .c (.bool c_4.2)), (12, .c (.bool some_6))], []⟩ _
        replace h : chargenetlaw15_ProfileRecurs_p13 F c_2 c_4 some_6 = some r := h
        unfold chargenetlaw15_ProfileRecurs_p13 at h
        refine SCode.seq ?_
        rcases cond_out h with ⟨g7, h⟩ | ⟨g7, h⟩
        · rcases cond_out h with ⟨g8, h⟩ | ⟨g8, h⟩
          · rcases cond_out h with ⟨g9, h⟩ | ⟨g9, h⟩
            · rcases cond_out h with ⟨g10, h⟩ | ⟨g10, h⟩
              · obtain ⟨c_11, g12, h⟩ := bind_out h
                try dsimp only at h
                refine SCode.region (show SOps _ _ _ [0, 1, 2, 3, 4, 5, 6, 7, 8, 9, 10, 11, 12, 13, 14, 15] _ _ from ?_)
                refine SOps.q rfl (.plain rfl) rfl (q_move rfl rfl) ?_
                refine SOps.q rfl (.plain rfl) rfl (q_move rfl rfl) ?_
                refine SOps.q rfl (.plain rfl) rfl (q_eql rfl rfl rfl) ?_
                refine SOps.q rfl (.plain rfl) rfl (q_move rfl rfl) ?_
                refine SOps.q rfl (.guard 3 88 true rfl rfl (gT g7)) rfl (q_move rfl rfl) ?_
                refine SOps.q rfl (.plain rfl) rfl (q_pick_t rfl rfl g7 rfl) ?_
                refine SOps.q rfl (.plain rfl) rfl (q_move rfl rfl) ?_
                refine SOps.q rfl (.guard 6 91 true rfl rfl (gT g8)) rfl (q_move rfl rfl) ?_
                refine SOps.q rfl (.plain rfl) rfl (q_pick_t rfl rfl g8 rfl) ?_
                refine SOps.q rfl (.plain rfl) rfl (q_move rfl rfl) ?_
                refine SOps.q rfl (.guard 9 94 true rfl rfl (gT g9)) rfl (q_move rfl rfl) ?_
                refine SOps.q rfl (.plain rfl) rfl (q_pick_t rfl rfl g9 rfl) ?_
                refine SOps.q rfl (.plain rfl) rfl (q_move rfl rfl) ?_
                refine SOps.q rfl (.guard 12 97 true rfl rfl (gT g10)) rfl (q_call (chargenetlaw15_awake_ok F  c_11 g12) [] rfl fn11 trivial (.inl rfl)) ?_
                refine SOps.q rfl (.plain rfl) rfl (q_pick_t rfl rfl g10 rfl) ?_
                refine SOps.q rfl (.plain rfl) rfl (q_assign rfl rfl) ?_
                refine SOps.sub (st' := ⟨[(6, .c (.bool c_11))], []⟩) (sub_gen [] rfl rfl ⟨⟨_, rfl, .inl ⟨rfl, rfl⟩⟩, trivial⟩ trivial) ?_
                refine SOps.nil ?_
                refine SCode.ret ?_
                obtain rfl := Option.some.inj h
                exact ⟨⟨[(6, .c (.bool c_11))], []⟩, _, sub_gen [] rfl rfl ⟨⟨_, rfl, .inl ⟨rfl, rfl⟩⟩, trivial⟩ trivial, resA1 (v := .c (.bool c_11)) rfl rfl, rfl⟩
              · refine SCode.region (show SOps _ _ _ [0, 1, 2, 3, 4, 5, 6, 7, 8, 9, 10, 11, 12, 13, 14, 15] _ _ from ?_)
                refine SOps.q rfl (.plain rfl) rfl (q_move rfl rfl) ?_
                refine SOps.q rfl (.plain rfl) rfl (q_move rfl rfl) ?_
                refine SOps.q rfl (.plain rfl) rfl (q_eql rfl rfl rfl) ?_
                refine SOps.q rfl (.plain rfl) rfl (q_move rfl rfl) ?_
                refine SOps.q rfl (.guard 3 88 true rfl rfl (gT g7)) rfl (q_move rfl rfl) ?_
                refine SOps.q rfl (.plain rfl) rfl (q_pick_t rfl rfl g7 rfl) ?_
                refine SOps.q rfl (.plain rfl) rfl (q_move rfl rfl) ?_
                refine SOps.q rfl (.guard 6 91 true rfl rfl (gT g8)) rfl (q_move rfl rfl) ?_
                refine SOps.q rfl (.plain rfl) rfl (q_pick_t rfl rfl g8 rfl) ?_
                refine SOps.q rfl (.plain rfl) rfl (q_move rfl rfl) ?_
                refine SOps.q rfl (.guard 9 94 true rfl rfl (gT g9)) rfl (q_move rfl rfl) ?_
                refine SOps.q rfl (.plain rfl) rfl (q_pick_t rfl rfl g9 rfl) ?_
                refine SOps.q rfl (.plain rfl) rfl (q_move rfl rfl) ?_
                refine SOps.skip rfl 12 97 true rfl rfl (.inl (gF g10)) rfl ?_
                refine SOps.q rfl (.plain rfl) rfl (q_pick_f rfl rfl g10 rfl) ?_
                refine SOps.q rfl (.plain rfl) rfl (q_assign rfl rfl) ?_
                refine SOps.sub (st' := ⟨[(6, .c (.bool false))], []⟩) (sub_gen [] rfl rfl ⟨⟨_, rfl, .inl ⟨rfl, rfl⟩⟩, trivial⟩ trivial) ?_
                refine SOps.nil ?_
                refine SCode.ret ?_
                obtain rfl := Option.some.inj h
                exact ⟨⟨[(6, .c (.bool false))], []⟩, _, sub_gen [] rfl rfl ⟨⟨_, rfl, .inl ⟨rfl, rfl⟩⟩, trivial⟩ trivial, resA1 (v := .c (.bool false)) rfl rfl, rfl⟩
            · refine SCode.region (show SOps _ _ _ [0, 1, 2, 3, 4, 5, 6, 7, 8, 9, 10, 11, 12, 13, 14, 15] _ _ from ?_)
              refine SOps.q rfl (.plain rfl) rfl (q_move rfl rfl) ?_
              refine SOps.q rfl (.plain rfl) rfl (q_move rfl rfl) ?_
              refine SOps.q rfl (.plain rfl) rfl (q_eql rfl rfl rfl) ?_
              refine SOps.q rfl (.plain rfl) rfl (q_move rfl rfl) ?_
              refine SOps.q rfl (.guard 3 88 true rfl rfl (gT g7)) rfl (q_move rfl rfl) ?_
              refine SOps.q rfl (.plain rfl) rfl (q_pick_t rfl rfl g7 rfl) ?_
              refine SOps.q rfl (.plain rfl) rfl (q_move rfl rfl) ?_
              refine SOps.q rfl (.guard 6 91 true rfl rfl (gT g8)) rfl (q_move rfl rfl) ?_
              refine SOps.q rfl (.plain rfl) rfl (q_pick_t rfl rfl g8 rfl) ?_
              refine SOps.q rfl (.plain rfl) rfl (q_move rfl rfl) ?_
              refine SOps.skip rfl 9 94 true rfl rfl (.inl (gF g9)) rfl ?_
              refine SOps.q rfl (.plain rfl) rfl (q_pick_f rfl rfl g9 rfl) ?_
              refine SOps.q rfl (.plain rfl) rfl (q_move rfl rfl) ?_
              refine SOps.skip rfl 12 97 true rfl rfl (.inl rfl) rfl ?_
              refine SOps.q rfl (.plain rfl) rfl (q_pick_f rfl rfl rfl rfl) ?_
              refine SOps.q rfl (.plain rfl) rfl (q_assign rfl rfl) ?_
              refine SOps.sub (st' := ⟨[(6, .c (.bool false))], []⟩) (sub_gen [] rfl rfl ⟨⟨_, rfl, .inl ⟨rfl, rfl⟩⟩, trivial⟩ trivial) ?_
              refine SOps.nil ?_
              refine SCode.ret ?_
              obtain rfl := Option.some.inj h
              exact ⟨⟨[(6, .c (.bool false))], []⟩, _, sub_gen [] rfl rfl ⟨⟨_, rfl, .inl ⟨rfl, rfl⟩⟩, trivial⟩ trivial, resA1 (v := .c (.bool false)) rfl rfl, rfl⟩
          · refine SCode.region (show SOps _ _ _ [0, 1, 2, 3, 4, 5, 6, 7, 8, 9, 10, 11, 12, 13, 14, 15] _ _ from ?_)
            refine SOps.q rfl (.plain rfl) rfl (q_move rfl rfl) ?_
            refine SOps.q rfl (.plain rfl) rfl (q_move rfl rfl) ?_
            refine SOps.q rfl (.plain rfl) rfl (q_eql rfl rfl rfl) ?_
            refine SOps.q rfl (.plain rfl) rfl (q_move rfl rfl) ?_
            refine SOps.q rfl (.guard 3 88 true rfl rfl (gT g7)) rfl (q_move rfl rfl) ?_
            refine SOps.q rfl (.plain rfl) rfl (q_pick_t rfl rfl g7 rfl) ?_
            refine SOps.q rfl (.plain rfl) rfl (q_move rfl rfl) ?_
            refine SOps.skip rfl 6 91 true rfl rfl (.inl (gF g8)) rfl ?_
            refine SOps.q rfl (.plain rfl) rfl (q_pick_f rfl rfl g8 rfl) ?_
            refine SOps.q rfl (.plain rfl) rfl (q_move rfl rfl) ?_
            refine SOps.skip rfl 9 94 true rfl rfl (.inl rfl) rfl ?_
            refine SOps.q rfl (.plain rfl) rfl (q_pick_f rfl rfl rfl rfl) ?_
            refine SOps.q rfl (.plain rfl) rfl (q_move rfl rfl) ?_
            refine SOps.skip rfl 12 97 true rfl rfl (.inl rfl) rfl ?_
            refine SOps.q rfl (.plain rfl) rfl (q_pick_f rfl rfl rfl rfl) ?_
            refine SOps.q rfl (.plain rfl) rfl (q_assign rfl rfl) ?_
            refine SOps.sub (st' := ⟨[(6, .c (.bool false))], []⟩) (sub_gen [] rfl rfl ⟨⟨_, rfl, .inl ⟨rfl, rfl⟩⟩, trivial⟩ trivial) ?_
            refine SOps.nil ?_
            refine SCode.ret ?_
            obtain rfl := Option.some.inj h
            exact ⟨⟨[(6, .c (.bool false))], []⟩, _, sub_gen [] rfl rfl ⟨⟨_, rfl, .inl ⟨rfl, rfl⟩⟩, trivial⟩ trivial, resA1 (v := .c (.bool false)) rfl rfl, rfl⟩
        · refine SCode.region (show SOps _ _ _ [0, 1, 2, 3, 4, 5, 6, 7, 8, 9, 10, 11, 12, 13, 14, 15] _ _ from ?_)
          refine SOps.q rfl (.plain rfl) rfl (q_move rfl rfl) ?_
          refine SOps.q rfl (.plain rfl) rfl (q_move rfl rfl) ?_
          refine SOps.q rfl (.plain rfl) rfl (q_eql rfl rfl rfl) ?_
          refine SOps.q rfl (.plain rfl) rfl (q_move rfl rfl) ?_
          refine SOps.skip rfl 3 88 true rfl rfl (.inl (gF g7)) rfl ?_
          refine SOps.q rfl (.plain rfl) rfl (q_pick_f rfl rfl g7 rfl) ?_
          refine SOps.q rfl (.plain rfl) rfl (q_move rfl rfl) ?_
          refine SOps.skip rfl 6 91 true rfl rfl (.inl rfl) rfl ?_
          refine SOps.q rfl (.plain rfl) rfl (q_pick_f rfl rfl rfl rfl) ?_
          refine SOps.q rfl (.plain rfl) rfl (q_move rfl rfl) ?_
          refine SOps.skip rfl 9 94 true rfl rfl (.inl rfl) rfl ?_
          refine SOps.q rfl (.plain rfl) rfl (q_pick_f rfl rfl rfl rfl) ?_
          refine SOps.q rfl (.plain rfl) rfl (q_move rfl rfl) ?_
          refine SOps.skip rfl 12 97 true rfl rfl (.inl rfl) rfl ?_
          refine SOps.q rfl (.plain rfl) rfl (q_pick_f rfl rfl rfl rfl) ?_
          refine SOps.q rfl (.plain rfl) rfl (q_assign rfl rfl) ?_
          refine SOps.sub (st' := ⟨[(6, .c (.bool false))], []⟩) (sub_gen [] rfl rfl ⟨⟨_, rfl, .inl ⟨rfl, rfl⟩⟩, trivial⟩ trivial) ?_
          refine SOps.nil ?_
          refine SCode.ret ?_
          obtain rfl := Option.some.inj h
          exact ⟨⟨[(6, .c (.bool false))], []⟩, _, sub_gen [] rfl rfl ⟨⟨_, rfl, .inl ⟨rfl, rfl⟩⟩, trivial⟩ trivial, resA1 (v := .c (.bool false)) rfl rfl, rfl⟩
      · refine SCode.seq ?_
        refine SCode.region (show SOps _ _ _ [0] _ _ from ?_)
        refine SOps.q rfl (.plain rfl) rfl (q_assign rfl rfl) ?_
        refine SOps.sub (st' := ⟨[(3, .c (.ptr 0 0)), (8, .c (.int .i64 c_2.1)), (9, .c (.bool c_2.2)), (10, .c (.int .i64 c_4.1)), (11, .c (.bool c_4.2)), (12, .c (.bool false)), (13, .c (.int .i64 0))], [.box [.int .i64 a0_p.ID, .int .i64 a0_p.Level, .int .i64 a0_p.Purpose, .int .i64 a0_p.Kind, .int .i64 a0_p.Conn, .str a0_p.Txn, .int .i64 a0_p.Span_From, .int .i64 ((-1)), .int .i64 a0_p.Start, .int .i64 ((-1)), .vec a0_p.Periods.length 2 (gL cSPeriod dSPeriod a0_p.Periods)]]⟩) (sub_gen [0] rfl rfl ⟨⟨_, rfl, .inl ⟨rfl, rfl⟩⟩, ⟨_, rfl, .inl ⟨rfl, rfl⟩⟩, ⟨_, rfl, .inl ⟨rfl, rfl⟩⟩, ⟨_, rfl, .inl ⟨rfl, rfl⟩⟩, ⟨_, rfl, .inl ⟨rfl, rfl⟩⟩, ⟨_, rfl, .inl ⟨rfl, rfl⟩⟩, ⟨_, rfl, .inl ⟨rfl, rfl⟩⟩, trivial⟩ ⟨⟨_, rfl, ⟨.inl ⟨rfl, rfl⟩, .inl ⟨rfl, rfl⟩, .inl ⟨rfl, rfl⟩, .inl ⟨rfl, rfl⟩, .inl ⟨rfl, rfl⟩, .inl ⟨rfl, rfl⟩, .inl ⟨rfl, rfl⟩, .inl ⟨rfl, rfl⟩, .inl ⟨rfl, rfl⟩, .inl ⟨rfl, rfl⟩, .inl ⟨rfl, rfl⟩, trivial⟩⟩, trivial⟩) ?_
        refine SOps.nil ?_
        refine SCode.block ?_
        refine SCode.sub (st' := ⟨[(3, .c (.ptr 0 0)), (8, .c (.int .i64 c_2.1)), (9, .c (.bool c_2.2)), (10, .c (.int .i64 c_4.1)), (11, .c (.bool c_4.2)), (12, .c (.bool false)), (13, .c (.int .i64 0))], [.box [.int .i64 a0_p.ID, .int .i64 a0_p.Level, .int .i64 a0_p.Purpose, .int .i64 a0_p.Kind, .int .i64 a0_p.Conn, .str a0_p.Txn, .int .i64 a0_p.Span_From, .int .i64 ((-1)), .int .i64 a0_p.Start, .int .i64 ((-1)), .vec a0_p.Periods.length 2 (gL cSPeriod dSPeriod a0_p.Periods)]]⟩) (sub_gen [0] rfl rfl ⟨⟨_, rfl, .inl ⟨rfl, rfl⟩⟩, ⟨_, rfl, .inl ⟨rfl, rfl⟩⟩, ⟨_, rfl, .inl ⟨rfl, rfl⟩⟩, ⟨_, rfl, .inl ⟨rfl, rfl⟩⟩, ⟨_, rfl, .inl ⟨rfl, rfl⟩⟩, ⟨_, rfl, .inl ⟨rfl, rfl⟩⟩, ⟨_, rfl, .inl ⟨rfl, rfl⟩⟩, trivial⟩ ⟨⟨_, rfl, ⟨.inl ⟨rfl, rfl⟩, .inl ⟨rfl, rfl⟩, .inl ⟨rfl, rfl⟩, .inl ⟨rfl, rfl⟩, .inl ⟨rfl, rfl⟩, .inl ⟨rfl, rfl⟩, .inl ⟨rfl, rfl⟩, .inl ⟨rfl, rfl⟩, .inl ⟨rfl, rfl⟩, .inl ⟨rfl, rfl⟩, .inl ⟨rfl, rfl⟩, trivial⟩⟩, trivial⟩) ?_
        refine (SCode.loop (σ := Nat × (Bool × Int)) (S := fun s => ⟨[(3, .c (.ptr 0 0)), (8, .c (.int .i64 c_2.1)), (9, .c (.bool c_2.2)), (10, .c (.int .i64 c_4.1)), (11, .c (.bool c_4.2)), (12, .c (.bool s.2.1)), (13, .c (.int .i64 s.2.2))], [.box [.int .i64 a0_p.ID, .int .i64 a0_p.Level, .int .i64 a0_p.Purpose, .int .i64 a0_p.Kind, .int .i64 a0_p.Conn, .str a0_p.Txn, .int .i64 a0_p.Span_From, .int .i64 ((-1)), .int .i64 a0_p.Start, .int .i64 ((-1)), .vec a0_p.Periods.length 2 (gL cSPeriod dSPeriod a0_p.Periods)]]⟩) (g := fun s => chargenetlaw15_ProfileRecurs_l23 F a0_p c_2 c_4 s.1 s.2.1 s.2.2 = some r) (μ := fun s => s.1) (F, (false, 0)) h ?_)
        rintro ⟨n_23, ⟨some_16, i_17⟩⟩ h
        replace h : chargenetlaw15_ProfileRecurs_l23 F a0_p c_2 c_4 n_23 some_16 i_17 = some r := h
        show SCode _ _ _ ⟨[(3, .c (.ptr 0 0)), (8, .c (.int .i64 c_2.1)), (9, .c (.bool c_2.2)), (10, .c (.int .i64 c_4.1)), (11, .c (.bool c_4.2)), (12, .c (.bool some_16)), (13, .c (.int .i64 i_17))], [.box [.int .i64 a0_p.ID, .int .i64 a0_p.Level, .int .i64 a0_p.Purpose, .int .i64 a0_p.Kind, .int .i64 a0_p.Conn, .str a0_p.Txn, .int .i64 a0_p.Span_From, .int .i64 ((-1)), .int .i64 a0_p.Start, .int .i64 ((-1)), .vec a0_p.Periods.length 2 (gL cSPeriod dSPeriod a0_p.Periods)]]⟩ _
        cases n_23 with
        | zero => cases h
        | succ n_23 =>
          replace h : chargenetlaw15_ProfileRecurs_b23 F a0_p c_2 c_4 (fun some_16 i_17 => chargenetlaw15_ProfileRecurs_l23 F a0_p c_2 c_4 n_23 some_16 i_17) some_16 i_17 = some r := h
          unfold chargenetlaw15_ProfileRecurs_b23 at h
          refine SCode.seq ?_
          refine SCode.seq ?_
          refine SCode.region (show SOps _ _ _ [0, 1, 2, 3, 4] _ _ from ?_)
          refine SOps.q rfl (.plain rfl) rfl (q_move rfl rfl) ?_
          refine SOps.q rfl (.plain rfl) rfl (q_field_ptr rfl rfl fd26_9) ?_
          refine SOps.q rfl (.plain rfl) rfl (q_load_ptr rfl rfl rfl rfl ty24) ?_
          refine SOps.q rfl (.plain rfl) rfl (q_len_vec rfl rfl sl24) ?_
          refine SOps.q rfl (.plain rfl) rfl (q_lss rfl rfl rfl) ?_
          refine SOps.sub (st' := ⟨[(3, .c (.ptr 0 0)), (8, .c (.int .i64 c_2.1)), (9, .c (.bool c_2.2)), (10, .c (.int .i64 c_4.1)), (11, .c (.bool c_4.2)), (12, .c (.bool some_16)), (13, .c (.int .i64 i_17)), (71, .c (.bool (decide (i_17 < ((a0_p.Periods).length : Int)))))], [.box [.int .i64 a0_p.ID, .int .i64 a0_p.Level, .int .i64 a0_p.Purpose, .int .i64 a0_p.Kind, .int .i64 a0_p.Conn, .str a0_p.Txn, .int .i64 a0_p.Span_From, .int .i64 ((-1)), .int .i64 a0_p.Start, .int .i64 ((-1)), .vec a0_p.Periods.length 2 (gL cSPeriod dSPeriod a0_p.Periods)]]⟩) (sub_gen [0] rfl rfl ⟨⟨_, rfl, .inl ⟨rfl, rfl⟩⟩, ⟨_, rfl, .inl ⟨rfl, rfl⟩⟩, ⟨_, rfl, .inl ⟨rfl, rfl⟩⟩, ⟨_, rfl, .inl ⟨rfl, rfl⟩⟩, ⟨_, rfl, .inl ⟨rfl, rfl⟩⟩, ⟨_, rfl, .inl ⟨rfl, rfl⟩⟩, ⟨_, rfl, .inl ⟨rfl, rfl⟩⟩, ⟨_, rfl, .inl ⟨rfl, rfl⟩⟩, trivial⟩ ⟨⟨_, rfl, ⟨.inl ⟨rfl, rfl⟩, .inl ⟨rfl, rfl⟩, .inl ⟨rfl, rfl⟩, .inl ⟨rfl, rfl⟩, .inl ⟨rfl, rfl⟩, .inl ⟨rfl, rfl⟩, .inl ⟨rfl, rfl⟩, .inl ⟨rfl, rfl⟩, .inl ⟨rfl, rfl⟩, .inl ⟨rfl, rfl⟩, .inl ⟨rfl, rfl⟩, trivial⟩⟩, trivial⟩) ?_
          refine SOps.nil ?_
          rcases cond_out h with ⟨g24, h⟩ | ⟨g24, h⟩
          · refine SCode.cond_t rfl g24 ?_
            refine SCode.skip ?_
            refine SCode.join (σ := Bool) (S := fun s => ⟨[(3, .c (.ptr 0 0)), (8, .c (.int .i64 c_2.1)), (9, .c (.bool c_2.2)), (10, .c (.int .i64 c_4.1)), (11, .c (.bool c_4.2)), (12, .c (.bool s)), (13, .c (.int .i64 i_17))], [.box [.int .i64 a0_p.ID, .int .i64 a0_p.Level, .int .i64 a0_p.Purpose, .int .i64 a0_p.Kind, .int .i64 a0_p.Conn, .str a0_p.Txn, .int .i64 a0_p.Span_From, .int .i64 ((-1)), .int .i64 a0_p.Start, .int .i64 ((-1)), .vec a0_p.Periods.length 2 (gL cSPeriod dSPeriod a0_p.Periods)]]⟩) (g := fun s => chargenetlaw15_ProfileRecurs_p26 i_17 (fun some_16 i_17 => chargenetlaw15_ProfileRecurs_l23 F a0_p c_2 c_4 n_23 some_16 i_17) s = some r) ?_ ?_
            · rintro some_25 h
              show SCode _ _ _ ⟨[(3, .c (.ptr 0 0)), (8, .c (.int .i64 c_2.1)), (9, .c (.bool c_2.2)), (10, .c (.int .i64 c_4.1)), (11, .c (.bool c_4.2)), (12, .c (.bool some_25)), (13, .c (.int .i64 i_17))], [.box [.int .i64 a0_p.ID, .int .i64 a0_p.Level, .int .i64 a0_p.Purpose, .int .i64 a0_p.Kind, .int .i64 a0_p.Conn, .str a0_p.Txn, .int .i64 a0_p.Span_From, .int .i64 ((-1)), .int .i64 a0_p.Start, .int .i64 ((-1)), .vec a0_p.Periods.length 2 (gL cSPeriod dSPeriod a0_p.Periods)]]⟩ _
              replace h : chargenetlaw15_ProfileRecurs_p26 i_17 (fun some_16 i_17 => chargenetlaw15_ProfileRecurs_l23 F a0_p c_2 c_4 n_23 some_16 i_17) some_25 = some r := h
              unfold chargenetlaw15_ProfileRecurs_p26 at h
              refine SCode.region (show SOps _ _ _ [0, 1, 2] _ _ from ?_)
              refine SOps.q rfl (.plain rfl) rfl (q_move rfl rfl) ?_
              refine SOps.q rfl (.plain rfl) rfl (q_add rfl rfl rfl) ?_
              refine SOps.q rfl (.plain rfl) rfl (q_assign rfl rfl) ?_
              refine SOps.sub (st' := ⟨[(3, .c (.ptr 0 0)), (8, .c (.int .i64 c_2.1)), (9, .c (.bool c_2.2)), (10, .c (.int .i64 c_4.1)), (11, .c (.bool c_4.2)), (12, .c (.bool some_25)), (13, .c (.int .i64 (IntKind.wrap .i64 (i_17 + 1))))], [.box [.int .i64 a0_p.ID, .int .i64 a0_p.Level, .int .i64 a0_p.Purpose, .int .i64 a0_p.Kind, .int .i64 a0_p.Conn, .str a0_p.Txn, .int .i64 a0_p.Span_From, .int .i64 ((-1)), .int .i64 a0_p.Start, .int .i64 ((-1)), .vec a0_p.Periods.length 2 (gL cSPeriod dSPeriod a0_p.Periods)]]⟩) (sub_gen [0] rfl rfl ⟨⟨_, rfl, .inl ⟨rfl, rfl⟩⟩, ⟨_, rfl, .inl ⟨rfl, rfl⟩⟩, ⟨_, rfl, .inl ⟨rfl, rfl⟩⟩, ⟨_, rfl, .inl ⟨rfl, rfl⟩⟩, ⟨_, rfl, .inl ⟨rfl, rfl⟩⟩, ⟨_, rfl, .inl ⟨rfl, rfl⟩⟩, ⟨_, rfl, .inl ⟨rfl, rfl⟩⟩, trivial⟩ ⟨⟨_, rfl, ⟨.inl ⟨rfl, rfl⟩, .inl ⟨rfl, rfl⟩, .inl ⟨rfl, rfl⟩, .inl ⟨rfl, rfl⟩, .inl ⟨rfl, rfl⟩, .inl ⟨rfl, rfl⟩, .inl ⟨rfl, rfl⟩, .inl ⟨rfl, rfl⟩, .inl ⟨rfl, rfl⟩, .inl ⟨rfl, rfl⟩, .inl ⟨rfl, rfl⟩, trivial⟩⟩, trivial⟩) ?_
              refine SOps.nil ?_
              exact ⟨(n_23, (some_25, IntKind.wrap .i64 (i_17 + 1))), h, Nat.lt_succ_self n_23, sub_gen [0] rfl rfl ⟨⟨_, rfl, .inl ⟨rfl, rfl⟩⟩, ⟨_, rfl, .inl ⟨rfl, rfl⟩⟩, ⟨_, rfl, .inl ⟨rfl, rfl⟩⟩, ⟨_, rfl, .inl ⟨rfl, rfl⟩⟩, ⟨_, rfl, .inl ⟨rfl, rfl⟩⟩, ⟨_, rfl, .inl ⟨rfl, rfl⟩⟩, ⟨_, rfl, .inl ⟨rfl, rfl⟩⟩, trivial⟩ ⟨⟨_, rfl, ⟨.inl ⟨rfl, rfl⟩, .inl ⟨rfl, rfl⟩, .inl ⟨rfl, rfl⟩, .inl ⟨rfl, rfl⟩, .inl ⟨rfl, rfl⟩, .inl ⟨rfl, rfl⟩, .inl ⟨rfl, rfl⟩, .inl ⟨rfl, rfl⟩, .inl ⟨rfl, rfl⟩, .inl ⟨rfl, rfl⟩, .inl ⟨rfl, rfl⟩, trivial⟩⟩, trivial⟩⟩
            · refine SCode.block ?_
              rcases cond_out h with ⟨g27, h⟩ | ⟨g27, h⟩
              · refine SCode.region (show SOps _ _ _ [0, 1, 2, 3, 4, 5, 6, 7, 8, 9, 10, 11] _ _ from ?_)
                refine SOps.q rfl (.plain rfl) rfl (q_move rfl rfl) ?_
                refine SOps.q rfl (.plain rfl) rfl (q_move rfl rfl) ?_
                refine SOps.skip rfl 1 75 false rfl rfl (.inl (gT g27)) rfl ?_
                refine SOps.skip rfl 1 75 false rfl rfl (.inl (gT g27)) rfl ?_
                refine SOps.skip rfl 1 75 false rfl rfl (.inl (gT g27)) rfl ?_
                refine SOps.skip rfl 1 75 false rfl rfl (.inl (gT g27)) rfl ?_
                refine SOps.skip rfl 1 75 false rfl rfl (.inl (gT g27)) rfl ?_
                refine SOps.skip rfl 1 75 false rfl rfl (.inl (gT g27)) rfl ?_
                refine SOps.skip rfl 1 75 false rfl rfl (.inl (gT g27)) rfl ?_
                refine SOps.skip rfl 1 75 false rfl rfl (.inl (gT g27)) rfl ?_
                refine SOps.q rfl (.plain rfl) rfl (q_pick_t rfl rfl g27 rfl) ?_
                refine SOps.q rfl (.plain rfl) rfl (q_assign rfl rfl) ?_
                refine SOps.sub (st' := ⟨[(3, .c (.ptr 0 0)), (8, .c (.int .i64 c_2.1)), (9, .c (.bool c_2.2)), (10, .c (.int .i64 c_4.1)), (11, .c (.bool c_4.2)), (12, .c (.bool true)), (13, .c (.int .i64 i_17))], [.box [.int .i64 a0_p.ID, .int .i64 a0_p.Level, .int .i64 a0_p.Purpose, .int .i64 a0_p.Kind, .int .i64 a0_p.Conn, .str a0_p.Txn, .int .i64 a0_p.Span_From, .int .i64 ((-1)), .int .i64 a0_p.Start, .int .i64 ((-1)), .vec a0_p.Periods.length 2 (gL cSPeriod dSPeriod a0_p.Periods)]]⟩) (sub_gen [0] rfl rfl ⟨⟨_, rfl, .inl ⟨rfl, rfl⟩⟩, ⟨_, rfl, .inl ⟨rfl, rfl⟩⟩, ⟨_, rfl, .inl ⟨rfl, rfl⟩⟩, ⟨_, rfl, .inl ⟨rfl, rfl⟩⟩, ⟨_, rfl, .inl ⟨rfl, rfl⟩⟩, ⟨_, rfl, .inl ⟨rfl, rfl⟩⟩, ⟨_, rfl, .inl ⟨rfl, rfl⟩⟩, trivial⟩ ⟨⟨_, rfl, ⟨.inl ⟨rfl, rfl⟩, .inl ⟨rfl, rfl⟩, .inl ⟨rfl, rfl⟩, .inl ⟨rfl, rfl⟩, .inl ⟨rfl, rfl⟩, .inl ⟨rfl, rfl⟩, .inl ⟨rfl, rfl⟩, .inl ⟨rfl, rfl⟩, .inl ⟨rfl, rfl⟩, .inl ⟨rfl, rfl⟩, .inl ⟨rfl, rfl⟩, trivial⟩⟩, trivial⟩) ?_
                refine SOps.nil ?_
                exact ⟨true, h, sub_gen [0] rfl rfl ⟨⟨_, rfl, .inl ⟨rfl, rfl⟩⟩, ⟨_, rfl, .inl ⟨rfl, rfl⟩⟩, ⟨_, rfl, .inl ⟨rfl, rfl⟩⟩, ⟨_, rfl, .inl ⟨rfl, rfl⟩⟩, ⟨_, rfl, .inl ⟨rfl, rfl⟩⟩, ⟨_, rfl, .inl ⟨rfl, rfl⟩⟩, ⟨_, rfl, .inl ⟨rfl, rfl⟩⟩, trivial⟩ ⟨⟨_, rfl, ⟨.inl ⟨rfl, rfl⟩, .inl ⟨rfl, rfl⟩, .inl ⟨rfl, rfl⟩, .inl ⟨rfl, rfl⟩, .inl ⟨rfl, rfl⟩, .inl ⟨rfl, rfl⟩, .inl ⟨rfl, rfl⟩, .inl ⟨rfl, rfl⟩, .inl ⟨rfl, rfl⟩, .inl ⟨rfl, rfl⟩, .inl ⟨rfl, rfl⟩, trivial⟩⟩, trivial⟩⟩
              · obtain ⟨g28, h⟩ := guard_out h
                refine SCode.region (show SOps _ _ _ [0, 1, 2, 3, 4, 5, 6, 7, 8, 9, 10, 11] _ _ from ?_)
                refine SOps.q rfl (.plain rfl) rfl (q_move rfl rfl) ?_
                refine SOps.q rfl (.plain rfl) rfl (q_move rfl rfl) ?_
                refine SOps.q rfl (.guard 1 75 false rfl rfl (gF g27)) rfl (q_field_ptr rfl rfl fd26_9) ?_
                refine SOps.q rfl (.guard 1 75 false rfl rfl (gF g27)) rfl (q_load_ptr rfl rfl rfl rfl ty24) ?_
                refine SOps.q rfl (.guard 1 75 false rfl rfl (gF g27)) rfl (q_move rfl rfl) ?_
                refine SOps.q rfl (.guard 1 75 false rfl rfl (gF g27)) rfl (q_index_vec rfl rfl rfl sl24 rfl g28.1 g28.2) ?_
                refine SOps.q rfl (.guard 1 75 false rfl rfl (gF g27)) rfl (q_field_eptr rfl rfl fd47_1 rfl) ?_
                refine SOps.q rfl (.guard 1 75 false rfl rfl (gF g27)) rfl (q_load_eptr rfl rfl ty3) ?_
                refine SOps.q rfl (.guard 1 75 false rfl rfl (gF g27)) rfl (q_move rfl rfl) ?_
                refine SOps.q rfl (.guard 1 75 false rfl rfl (gF g27)) rfl (q_eql rfl rfl rfl) ?_
                refine SOps.q rfl (.plain rfl) rfl (q_pick_f rfl rfl g27 rfl) ?_
                refine SOps.q rfl (.plain rfl) rfl (q_assign rfl rfl) ?_
                refine SOps.sub (st' := ⟨[(3, .c (.ptr 0 0)), (8, .c (.int .i64 c_2.1)), (9, .c (.bool c_2.2)), (10, .c (.int .i64 c_4.1)), (11, .c (.bool c_4.2)), (12, .c (.bool (decide ((a0_p.Periods.getD i_17.toNat dSPeriod).Limit = c_2.1)))), (13, .c (.int .i64 i_17))], [.box [.int .i64 a0_p.ID, .int .i64 a0_p.Level, .int .i64 a0_p.Purpose, .int .i64 a0_p.Kind, .int .i64 a0_p.Conn, .str a0_p.Txn, .int .i64 a0_p.Span_From, .int .i64 ((-1)), .int .i64 a0_p.Start, .int .i64 ((-1)), .vec a0_p.Periods.length 2 (gL cSPeriod dSPeriod a0_p.Periods)]]⟩) (sub_gen [0] rfl rfl ⟨⟨_, rfl, .inl ⟨rfl, rfl⟩⟩, ⟨_, rfl, .inl ⟨rfl, rfl⟩⟩, ⟨_, rfl, .inl ⟨rfl, rfl⟩⟩, ⟨_, rfl, .inl ⟨rfl, rfl⟩⟩, ⟨_, rfl, .inl ⟨rfl, rfl⟩⟩, ⟨_, rfl, .inl ⟨rfl, rfl⟩⟩, ⟨_, rfl, .inl ⟨rfl, rfl⟩⟩, trivial⟩ ⟨⟨_, rfl, ⟨.inl ⟨rfl, rfl⟩, .inl ⟨rfl, rfl⟩, .inl ⟨rfl, rfl⟩, .inl ⟨rfl, rfl⟩, .inl ⟨rfl, rfl⟩, .inl ⟨rfl, rfl⟩, .inl ⟨rfl, rfl⟩, .inl ⟨rfl, rfl⟩, .inl ⟨rfl, rfl⟩, .inl ⟨rfl, rfl⟩, .inl ⟨rfl, rfl⟩, trivial⟩⟩, trivial⟩) ?_
                refine SOps.nil ?_
                exact ⟨decide ((a0_p.Periods.getD i_17.toNat dSPeriod).Limit = c_2.1), h, sub_gen [0] rfl rfl ⟨⟨_, rfl, .inl ⟨rfl, rfl⟩⟩, ⟨_, rfl, .inl ⟨rfl, rfl⟩⟩, ⟨_, rfl, .inl ⟨rfl, rfl⟩⟩, ⟨_, rfl, .inl ⟨rfl, rfl⟩⟩, ⟨_, rfl, .inl ⟨rfl, rfl⟩⟩, ⟨_, rfl, .inl ⟨rfl, rfl⟩⟩, ⟨_, rfl, .inl ⟨rfl, rfl⟩⟩, trivial⟩ ⟨⟨_, rfl, ⟨.inl ⟨rfl, rfl⟩, .inl ⟨rfl, rfl⟩, .inl ⟨rfl, rfl⟩, .inl ⟨rfl, rfl⟩, .inl ⟨rfl, rfl⟩, .inl ⟨rfl, rfl⟩, .inl ⟨rfl, rfl⟩, .inl ⟨rfl, rfl⟩, .inl ⟨rfl, rfl⟩, .inl ⟨rfl, rfl⟩, .inl ⟨rfl, rfl⟩, trivial⟩⟩, trivial⟩⟩
          · refine SCode.cond_f rfl g24 ?_
            refine SCode.exit ?_
            exact ⟨some_16, h, sub_gen [] rfl rfl ⟨⟨_, rfl, .inl ⟨rfl, rfl⟩⟩, ⟨_, rfl, .inl ⟨rfl, rfl⟩⟩, ⟨_, rfl, .inl ⟨rfl, rfl⟩⟩, ⟨_, rfl, .inl ⟨rfl, rfl⟩⟩, ⟨_, rfl, .inl ⟨rfl, rfl⟩⟩, trivial⟩ trivial⟩
    · refine SCode.seq ?_
      refine SCode.region (show SOps _ _ _ [0, 1, 2] _ _ from ?_)
      refine SOps.q rfl (.plain rfl) rfl (q_field_ptr rfl rfl fd26_3) ?_
      refine SOps.q rfl (.plain rfl) rfl (q_load_ptr rfl rfl rfl rfl ty3) ?_
      refine SOps.q rfl (.plain rfl) rfl (q_eql rfl rfl rfl) ?_
      refine SOps.sub (st' := ⟨[(1, .c (.int .i64 a1_start)), (2, .c (.int .i64 a2_t)), (3, .c (.ptr 0 0)), (7, .c (.int .i64 1440)), (50, .c (.bool (decide (a0_p.Kind = 3))))], [.box [.int .i64 a0_p.ID, .int .i64 a0_p.Level, .int .i64 a0_p.Purpose, .int .i64 a0_p.Kind, .int .i64 a0_p.Conn, .str a0_p.Txn, .int .i64 a0_p.Span_From, .int .i64 ((-1)), .int .i64 a0_p.Start, .int .i64 ((-1)), .vec a0_p.Periods.length 2 (gL cSPeriod dSPeriod a0_p.Periods)]]⟩) (sub_gen [0] rfl rfl ⟨⟨_, rfl, .inl ⟨rfl, rfl⟩⟩, ⟨_, rfl, .inl ⟨rfl, rfl⟩⟩, ⟨_, rfl, .inl ⟨rfl, rfl⟩⟩, ⟨_, rfl, .inl ⟨rfl, rfl⟩⟩, ⟨_, rfl, .inl ⟨rfl, rfl⟩⟩, trivial⟩ ⟨⟨_, rfl, ⟨.inl ⟨rfl, rfl⟩, .inl ⟨rfl, rfl⟩, .inl ⟨rfl, rfl⟩, .inl ⟨rfl, rfl⟩, .inl ⟨rfl, rfl⟩, .inl ⟨rfl, rfl⟩, .inl ⟨rfl, rfl⟩, .inl ⟨rfl, rfl⟩, .inl ⟨rfl, rfl⟩, .inl ⟨rfl, rfl⟩, .inl ⟨rfl, rfl⟩, trivial⟩⟩, trivial⟩) ?_
      refine SOps.nil ?_
      rcases cond_out h with ⟨g30, h⟩ | ⟨g30, h⟩
      · refine SCode.cond_t rfl g30 ?_
        refine SCode.region (show SOps _ _ _ [0] _ _ from ?_)
        refine SOps.q rfl (.plain rfl) rfl (q_assign rfl rfl) ?_
        refine SOps.sub (st' := ⟨[(1, .c (.int .i64 a1_start)), (2, .c (.int .i64 a2_t)), (3, .c (.ptr 0 0)), (7, .c (.int .i64 10080))], [.box [.int .i64 a0_p.ID, .int .i64 a0_p.Level, .int .i64 a0_p.Purpose, .int .i64 a0_p.Kind, .int .i64 a0_p.Conn, .str a0_p.Txn, .int .i64 a0_p.Span_From, .int .i64 ((-1)), .int .i64 a0_p.Start, .int .i64 ((-1)), .vec a0_p.Periods.length 2 (gL cSPeriod dSPeriod a0_p.Periods)]]⟩) (sub_gen [0] rfl rfl ⟨⟨_, rfl, .inl ⟨rfl, rfl⟩⟩, ⟨_, rfl, .inl ⟨rfl, rfl⟩⟩, ⟨_, rfl, .inl ⟨rfl, rfl⟩⟩, ⟨_, rfl, .inl ⟨rfl, rfl⟩⟩, trivial⟩ ⟨⟨_, rfl, ⟨.inl ⟨rfl, rfl⟩, .inl ⟨rfl, rfl⟩, .inl ⟨rfl, rfl⟩, .inl ⟨rfl, rfl⟩, .inl ⟨rfl, rfl⟩, .inl ⟨rfl, rfl⟩, .inl ⟨rfl, rfl⟩, .inl ⟨rfl, rfl⟩, .inl ⟨rfl, rfl⟩, .inl ⟨rfl, rfl⟩, .inl ⟨rfl, rfl⟩, trivial⟩⟩, trivial⟩) ?_
        refine SOps.nil ?_
        exact ⟨10080, h, sub_gen [0] rfl rfl ⟨⟨_, rfl, .inl ⟨rfl, rfl⟩⟩, ⟨_, rfl, .inl ⟨rfl, rfl⟩⟩, ⟨_, rfl, .inl ⟨rfl, rfl⟩⟩, ⟨_, rfl, .inl ⟨rfl, rfl⟩⟩, trivial⟩ ⟨⟨_, rfl, ⟨.inl ⟨rfl, rfl⟩, .inl ⟨rfl, rfl⟩, .inl ⟨rfl, rfl⟩, .inl ⟨rfl, rfl⟩, .inl ⟨rfl, rfl⟩, .inl ⟨rfl, rfl⟩, .inl ⟨rfl, rfl⟩, .inl ⟨rfl, rfl⟩, .inl ⟨rfl, rfl⟩, .inl ⟨rfl, rfl⟩, .inl ⟨rfl, rfl⟩, trivial⟩⟩, trivial⟩⟩
      · refine SCode.cond_f rfl g30 ?_
        refine SCode.skip ?_
        exact ⟨1440, h, sub_gen [0] rfl rfl ⟨⟨_, rfl, .inl ⟨rfl, rfl⟩⟩, ⟨_, rfl, .inl ⟨rfl, rfl⟩⟩, ⟨_, rfl, .inl ⟨rfl, rfl⟩⟩, ⟨_, rfl, .inl ⟨rfl, rfl⟩⟩, trivial⟩ ⟨⟨_, rfl, ⟨.inl ⟨rfl, rfl⟩, .inl ⟨rfl, rfl⟩, .inl ⟨rfl, rfl⟩, .inl ⟨rfl, rfl⟩, .inl ⟨rfl, rfl⟩, .inl ⟨rfl, rfl⟩, .inl ⟨rfl, rfl⟩, .inl ⟨rfl, rfl⟩, .inl ⟨rfl, rfl⟩, .inl ⟨rfl, rfl⟩, .inl ⟨rfl, rfl⟩, trivial⟩⟩, trivial⟩⟩
  · refine SCode.seq ?_
    obtain ⟨c_32, g33, h⟩ := bind_out h
    try dsimp only at h
    rcases cond_out h with ⟨g34, h⟩ | ⟨g34, h⟩
    · refine SCode.region (show SOps _ _ _ [0, 1, 2, 3, 4, 5, 6, 7, 8, 9, 10, 11, 12, 13, 14, 15, 16, 17, 18, 19, 20, 21, 22, 23, 24, 25, 26, 27, 28, 29] _ _ from ?_)
      refine SOps.q rfl (.plain rfl) rfl (q_load_ptr_all rfl rfl rfl rfl rfl ty26) ?_
      refine SOps.q rfl (.plain rfl) rfl (q_call (chargenetlaw15_right_ok F (SProfile.mk a0_p.ID a0_p.Level a0_p.Purpose a0_p.Kind a0_p.Conn a0_p.Txn a0_p.Span_From ((-1)) a0_p.Start ((-1)) a0_p.Periods) c_32 g33) [] rfl fn21 ⟨⟨rfl, rfl⟩, trivial⟩ (.inl rfl)) ?_
      refine SOps.q rfl (.plain rfl) rfl (q_not rfl rfl) ?_
      refine SOps.q rfl (.plain rfl) rfl (q_move rfl rfl) ?_
      refine SOps.skip rfl 3 20 false rfl rfl (.inl (gT g34)) rfl ?_
      refine SOps.skip rfl 3 20 false rfl rfl (.inl (gT g34)) rfl ?_
      refine SOps.skip rfl 3 20 false rfl rfl (.inl (gT g34)) rfl ?_
      refine SOps.skip rfl 3 20 false rfl rfl (.inl (gT g34)) rfl ?_
      refine SOps.skip rfl 7 24 true rfl rfl (.inr rfl) rfl ?_
      refine SOps.skip rfl 7 24 true rfl rfl (.inr rfl) rfl ?_
      refine SOps.skip rfl 7 24 true rfl rfl (.inr rfl) rfl ?_
      refine SOps.skip rfl 3 20 false rfl rfl (.inl (gT g34)) rfl ?_
      refine SOps.q rfl (.plain rfl) rfl (q_pick_t rfl rfl g34 rfl) ?_
      refine SOps.q rfl (.plain rfl) rfl (q_move rfl rfl) ?_
      refine SOps.skip rfl 13 30 false rfl rfl (.inl rfl) rfl ?_
      refine SOps.skip rfl 13 30 false rfl rfl (.inl rfl) rfl ?_
      refine SOps.skip rfl 13 30 false rfl rfl (.inl rfl) rfl ?_
      refine SOps.skip rfl 13 30 false rfl rfl (.inl rfl) rfl ?_
      refine SOps.q rfl (.plain rfl) rfl (q_pick_t rfl rfl rfl rfl) ?_
      refine SOps.q rfl (.plain rfl) rfl (q_move rfl rfl) ?_
      refine SOps.skip rfl 19 36 false rfl rfl (.inl rfl) rfl ?_
      refine SOps.skip rfl 19 36 false rfl rfl (.inl rfl) rfl ?_
      refine SOps.skip rfl 19 36 false rfl rfl (.inl rfl) rfl ?_
      refine SOps.skip rfl 19 36 false rfl rfl (.inl rfl) rfl ?_
      refine SOps.skip rfl 19 36 false rfl rfl (.inl rfl) rfl ?_
      refine SOps.q rfl (.plain rfl) rfl (q_pick_t rfl rfl rfl rfl) ?_
      refine SOps.q rfl (.plain rfl) rfl (q_move rfl rfl) ?_
      refine SOps.skip rfl 26 43 false rfl rfl (.inl rfl) rfl ?_
      refine SOps.skip rfl 26 43 false rfl rfl (.inl rfl) rfl ?_
      refine SOps.q rfl (.plain rfl) rfl (q_pick_t rfl rfl rfl rfl) ?_
      refine SOps.sub (st' := ⟨[(1, .c (.int .i64 a1_start)), (2, .c (.int .i64 a2_t)), (3, .c (.ptr 0 0)), (46, .c (.bool true))], [.box [.int .i64 a0_p.ID, .int .i64 a0_p.Level, .int .i64 a0_p.Purpose, .int .i64 a0_p.Kind, .int .i64 a0_p.Conn, .str a0_p.Txn, .int .i64 a0_p.Span_From, .int .i64 ((-1)), .int .i64 a0_p.Start, .int .i64 ((-1)), .vec a0_p.Periods.length 2 (gL cSPeriod dSPeriod a0_p.Periods)]]⟩) (sub_gen [0] rfl rfl ⟨⟨_, rfl, .inl ⟨rfl, rfl⟩⟩, ⟨_, rfl, .inl ⟨rfl, rfl⟩⟩, ⟨_, rfl, .inl ⟨rfl, rfl⟩⟩, ⟨_, rfl, .inl ⟨rfl, rfl⟩⟩, trivial⟩ ⟨⟨_, rfl, ⟨.inl ⟨rfl, rfl⟩, .inl ⟨rfl, rfl⟩, .inl ⟨rfl, rfl⟩, .inl ⟨rfl, rfl⟩, .inl ⟨rfl, rfl⟩, .inl ⟨rfl, rfl⟩, .inl ⟨rfl, rfl⟩, .inl ⟨rfl, rfl⟩, .inl ⟨rfl, rfl⟩, .inl ⟨rfl, rfl⟩, .inl ⟨rfl, rfl⟩, trivial⟩⟩, trivial⟩) ?_
      refine SOps.nil ?_
      refine SCode.cond_t rfl rfl ?_
      refine SCode.seq ?_
      obtain ⟨c_35, g36, h⟩ := bind_out h
      try dsimp only at h
      refine SCode.region (show SOps _ _ _ [0, 1] _ _ from ?_)
      refine SOps.q rfl (.plain rfl) rfl (q_call (chargenetlaw15_awake_ok F  c_35 g36) [] rfl fn11 trivial (.inl rfl)) ?_
      refine SOps.q rfl (.plain rfl) rfl (q_assign rfl rfl) ?_
      refine SOps.sub (st' := ⟨[(6, .c (.bool c_35))], []⟩) (sub_gen [] rfl rfl ⟨⟨_, rfl, .inl ⟨rfl, rfl⟩⟩, trivial⟩ trivial) ?_
      refine SOps.nil ?_
      refine SCode.ret ?_
      obtain rfl := Option.some.inj h
      exact ⟨⟨[(6, .c (.bool c_35))], []⟩, _, sub_gen [] rfl rfl ⟨⟨_, rfl, .inl ⟨rfl, rfl⟩⟩, trivial⟩ trivial, resA1 (v := .c (.bool c_35)) rfl rfl, rfl⟩
    · rcases cond_out h with ⟨g37, h⟩ | ⟨g37, h⟩
      · rcases cond_out h with ⟨g38, h⟩ | ⟨g38, h⟩
        · refine SCode.region (show SOps _ _ _ [0, 1, 2, 3, 4, 5, 6, 7, 8, 9, 10, 11, 12, 13, 14, 15, 16, 17, 18, 19, 20, 21, 22, 23, 24, 25, 26, 27, 28, 29] _ _ from ?_)
          refine SOps.q rfl (.plain rfl) rfl (q_load_ptr_all rfl rfl rfl rfl rfl ty26) ?_
          refine SOps.q rfl (.plain rfl) rfl (q_call (chargenetlaw15_right_ok F (SProfile.mk a0_p.ID a0_p.Level a0_p.Purpose a0_p.Kind a0_p.Conn a0_p.Txn a0_p.Span_From ((-1)) a0_p.Start ((-1)) a0_p.Periods) c_32 g33) [] rfl fn21 ⟨⟨rfl, rfl⟩, trivial⟩ (.inl rfl)) ?_
          refine SOps.q rfl (.plain rfl) rfl (q_not rfl rfl) ?_
          refine SOps.q rfl (.plain rfl) rfl (q_move rfl rfl) ?_
          refine SOps.q rfl (.guard 3 20 false rfl rfl (gF g34)) rfl (q_field_ptr rfl rfl fd26_3) ?_
          refine SOps.q rfl (.guard 3 20 false rfl rfl (gF g34)) rfl (q_load_ptr rfl rfl rfl rfl ty3) ?_
          refine SOps.q rfl (.guard 3 20 false rfl rfl (gF g34)) rfl (q_neq rfl rfl rfl) ?_
          refine SOps.q rfl (.guard 3 20 false rfl rfl (gF g34)) rfl (q_move rfl rfl) ?_
          refine SOps.q rfl (.guard 7 24 true rfl rfl (gT g37)) rfl (q_field_ptr rfl rfl fd26_3) ?_
          refine SOps.q rfl (.guard 7 24 true rfl rfl (gT g37)) rfl (q_load_ptr rfl rfl rfl rfl ty3) ?_
          refine SOps.q rfl (.guard 7 24 true rfl rfl (gT g37)) rfl (q_neq rfl rfl rfl) ?_
          refine SOps.q rfl (.guard 3 20 false rfl rfl (gF g34)) rfl (q_pick_t rfl rfl g37 rfl) ?_
          refine SOps.q rfl (.plain rfl) rfl (q_pick_f rfl rfl g34 rfl) ?_
          refine SOps.q rfl (.plain rfl) rfl (q_move rfl rfl) ?_
          refine SOps.skip rfl 13 30 false rfl rfl (.inl (gT g38)) rfl ?_
          refine SOps.skip rfl 13 30 false rfl rfl (.inl (gT g38)) rfl ?_
          refine SOps.skip rfl 13 30 false rfl rfl (.inl (gT g38)) rfl ?_
          refine SOps.skip rfl 13 30 false rfl rfl (.inl (gT g38)) rfl ?_
          refine SOps.q rfl (.plain rfl) rfl (q_pick_t rfl rfl g38 rfl) ?_
          refine SOps.q rfl (.plain rfl) rfl (q_move rfl rfl) ?_
          refine SOps.skip rfl 19 36 false rfl rfl (.inl rfl) rfl ?_
          refine SOps.skip rfl 19 36 false rfl rfl (.inl rfl) rfl ?_
          refine SOps.skip rfl 19 36 false rfl rfl (.inl rfl) rfl ?_
          refine SOps.skip rfl 19 36 false rfl rfl (.inl rfl) rfl ?_
          refine SOps.skip rfl 19 36 false rfl rfl (.inl rfl) rfl ?_
          refine SOps.q rfl (.plain rfl) rfl (q_pick_t rfl rfl rfl rfl) ?_
          refine SOps.q rfl (.plain rfl) rfl (q_move rfl rfl) ?_
          refine SOps.skip rfl 26 43 false rfl rfl (.inl rfl) rfl ?_
          refine SOps.skip rfl 26 43 false rfl rfl (.inl rfl) rfl ?_
          refine SOps.q rfl (.plain rfl) rfl (q_pick_t rfl rfl rfl rfl) ?_
          refine SOps.sub (st' := ⟨[(1, .c (.int .i64 a1_start)), (2, .c (.int .i64 a2_t)), (3, .c (.ptr 0 0)), (46, .c (.bool true))], [.box [.int .i64 a0_p.ID, .int .i64 a0_p.Level, .int .i64 a0_p.Purpose, .int .i64 a0_p.Kind, .int .i64 a0_p.Conn, .str a0_p.Txn, .int .i64 a0_p.Span_From, .int .i64 ((-1)), .int .i64 a0_p.Start, .int .i64 ((-1)), .vec a0_p.Periods.length 2 (gL cSPeriod dSPeriod a0_p.Periods)]]⟩) (sub_gen [0] rfl rfl ⟨⟨_, rfl, .inl ⟨rfl, rfl⟩⟩, ⟨_, rfl, .inl ⟨rfl, rfl⟩⟩, ⟨_, rfl, .inl ⟨rfl, rfl⟩⟩, ⟨_, rfl, .inl ⟨rfl, rfl⟩⟩, trivial⟩ ⟨⟨_, rfl, ⟨.inl ⟨rfl, rfl⟩, .inl ⟨rfl, rfl⟩, .inl ⟨rfl, rfl⟩, .inl ⟨rfl, rfl⟩, .inl ⟨rfl, rfl⟩, .inl ⟨rfl, rfl⟩, .inl ⟨rfl, rfl⟩, .inl ⟨rfl, rfl⟩, .inl ⟨rfl, rfl⟩, .inl ⟨rfl, rfl⟩, .inl ⟨rfl, rfl⟩, trivial⟩⟩, trivial⟩) ?_
          refine SOps.nil ?_
          refine SCode.cond_t rfl rfl ?_
          refine SCode.seq ?_
          obtain ⟨c_39, g40, h⟩ := bind_out h
          try dsimp only at h
          refine SCode.region (show SOps _ _ _ [0, 1] _ _ from ?_)
          refine SOps.q rfl (.plain rfl) rfl (q_call (chargenetlaw15_awake_ok F  c_39 g40) [] rfl fn11 trivial (.inl rfl)) ?_
          refine SOps.q rfl (.plain rfl) rfl (q_assign rfl rfl) ?_
          refine SOps.sub (st' := ⟨[(6, .c (.bool c_39))], []⟩) (sub_gen [] rfl rfl ⟨⟨_, rfl, .inl ⟨rfl, rfl⟩⟩, trivial⟩ trivial) ?_
          refine SOps.nil ?_
          refine SCode.ret ?_
          obtain rfl := Option.some.inj h
          exact ⟨⟨[(6, .c (.bool c_39))], []⟩, _, sub_gen [] rfl rfl ⟨⟨_, rfl, .inl ⟨rfl, rfl⟩⟩, trivial⟩ trivial, resA1 (v := .c (.bool c_39)) rfl rfl, rfl⟩
        · rcases cond_out h with ⟨g41, h⟩ | ⟨g41, h⟩
          · refine SCode.region (show SOps _ _ _ [0, 1, 2, 3, 4, 5, 6, 7, 8, 9, 10, 11, 12, 13, 14, 15, 16, 17, 18, 19, 20, 21, 22, 23, 24, 25, 26, 27, 28, 29] _ _ from ?_)
            refine SOps.q rfl (.plain rfl) rfl (q_load_ptr_all rfl rfl rfl rfl rfl ty26) ?_
            refine SOps.q rfl (.plain rfl) rfl (q_call (chargenetlaw15_right_ok F (SProfile.mk a0_p.ID a0_p.Level a0_p.Purpose a0_p.Kind a0_p.Conn a0_p.Txn a0_p.Span_From ((-1)) a0_p.Start ((-1)) a0_p.Periods) c_32 g33) [] rfl fn21 ⟨⟨rfl, rfl⟩, trivial⟩ (.inl rfl)) ?_
            refine SOps.q rfl (.plain rfl) rfl (q_not rfl rfl) ?_
            refine SOps.q rfl (.plain rfl) rfl (q_move rfl rfl) ?_
            refine SOps.q rfl (.guard 3 20 false rfl rfl (gF g34)) rfl (q_field_ptr rfl rfl fd26_3) ?_
            refine SOps.q rfl (.guard 3 20 false rfl rfl (gF g34)) rfl (q_load_ptr rfl rfl rfl rfl ty3) ?_
            refine SOps.q rfl (.guard 3 20 false rfl rfl (gF g34)) rfl (q_neq rfl rfl rfl) ?_
            refine SOps.q rfl (.guard 3 20 false rfl rfl (gF g34)) rfl (q_move rfl rfl) ?_
            refine SOps.q rfl (.guard 7 24 true rfl rfl (gT g37)) rfl (q_field_ptr rfl rfl fd26_3) ?_
            refine SOps.q rfl (.guard 7 24 true rfl rfl (gT g37)) rfl (q_load_ptr rfl rfl rfl rfl ty3) ?_
            refine SOps.q rfl (.guard 7 24 true rfl rfl (gT g37)) rfl (q_neq rfl rfl rfl) ?_
            refine SOps.q rfl (.guard 3 20 false rfl rfl (gF g34)) rfl (q_pick_t rfl rfl g37 rfl) ?_
            refine SOps.q rfl (.plain rfl) rfl (q_pick_f rfl rfl g34 rfl) ?_
            refine SOps.q rfl (.plain rfl) rfl (q_move rfl rfl) ?_
            refine SOps.q rfl (.guard 13 30 false rfl rfl (gF g38)) rfl (q_move rfl rfl) ?_
            refine SOps.q rfl (.guard 13 30 false rfl rfl (gF g38)) rfl (q_field_ptr rfl rfl fd26_7) ?_
            refine SOps.q rfl (.guard 13 30 false rfl rfl (gF g38)) rfl (q_load_ptr rfl rfl rfl rfl ty3) ?_
            refine SOps.q rfl (.guard 13 30 false rfl rfl (gF g38)) rfl (q_lss rfl rfl rfl) ?_
            refine SOps.q rfl (.plain rfl) rfl (q_pick_f rfl rfl g38 rfl) ?_
            refine SOps.q rfl (.plain rfl) rfl (q_move rfl rfl) ?_
            refine SOps.skip rfl 19 36 false rfl rfl (.inl (gT g41)) rfl ?_
            refine SOps.skip rfl 19 36 false rfl rfl (.inl (gT g41)) rfl ?_
            refine SOps.skip rfl 19 36 false rfl rfl (.inl (gT g41)) rfl ?_
            refine SOps.skip rfl 19 36 false rfl rfl (.inl (gT g41)) rfl ?_
            refine SOps.skip rfl 19 36 false rfl rfl (.inl (gT g41)) rfl ?_
            refine SOps.q rfl (.plain rfl) rfl (q_pick_t rfl rfl g41 rfl) ?_
            refine SOps.q rfl (.plain rfl) rfl (q_move rfl rfl) ?_
            refine SOps.skip rfl 26 43 false rfl rfl (.inl rfl) rfl ?_
            refine SOps.skip rfl 26 43 false rfl rfl (.inl rfl) rfl ?_
            refine SOps.q rfl (.plain rfl) rfl (q_pick_t rfl rfl rfl rfl) ?_
            refine SOps.sub (st' := ⟨[(1, .c (.int .i64 a1_start)), (2, .c (.int .i64 a2_t)), (3, .c (.ptr 0 0)), (46, .c (.bool true))], [.box [.int .i64 a0_p.ID, .int .i64 a0_p.Level, .int .i64 a0_p.Purpose, .int .i64 a0_p.Kind, .int .i64 a0_p.Conn, .str a0_p.Txn, .int .i64 a0_p.Span_From, .int .i64 ((-1)), .int .i64 a0_p.Start, .int .i64 ((-1)), .vec a0_p.Periods.length 2 (gL cSPeriod dSPeriod a0_p.Periods)]]⟩) (sub_gen [0] rfl rfl ⟨⟨_, rfl, .inl ⟨rfl, rfl⟩⟩, ⟨_, rfl, .inl ⟨rfl, rfl⟩⟩, ⟨_, rfl, .inl ⟨rfl, rfl⟩⟩, ⟨_, rfl, .inl ⟨rfl, rfl⟩⟩, trivial⟩ ⟨⟨_, rfl, ⟨.inl ⟨rfl, rfl⟩, .inl ⟨rfl, rfl⟩, .inl ⟨rfl, rfl⟩, .inl ⟨rfl, rfl⟩, .inl ⟨rfl, rfl⟩, .inl ⟨rfl, rfl⟩, .inl ⟨rfl, rfl⟩, .inl ⟨rfl, rfl⟩, .inl ⟨rfl, rfl⟩, .inl ⟨rfl, rfl⟩, .inl ⟨rfl, rfl⟩, trivial⟩⟩, trivial⟩) ?_
            refine SOps.nil ?_
            refine SCode.cond_t rfl rfl ?_
            refine SCode.seq ?_
            obtain ⟨c_42, g43, h⟩ := bind_out h
            try dsimp only at h
            refine SCode.region (show SOps _ _ _ [0, 1] _ _ from ?_)
            refine SOps.q rfl (.plain rfl) rfl (q_call (chargenetlaw15_awake_ok F  c_42 g43) [] rfl fn11 trivial (.inl rfl)) ?_
            refine SOps.q rfl (.plain rfl) rfl (q_assign rfl rfl) ?_
            refine SOps.sub (st' := ⟨[(6, .c (.bool c_42))], []⟩) (sub_gen [] rfl rfl ⟨⟨_, rfl, .inl ⟨rfl, rfl⟩⟩, trivial⟩ trivial) ?_
            refine SOps.nil ?_
            refine SCode.ret ?_
            obtain rfl := Option.some.inj h
            exact ⟨⟨[(6, .c (.bool c_42))], []⟩, _, sub_gen [] rfl rfl ⟨⟨_, rfl, .inl ⟨rfl, rfl⟩⟩, trivial⟩ trivial, resA1 (v := .c (.bool c_42)) rfl rfl, rfl⟩
          · rcases cond_out h with ⟨g44, h⟩ | ⟨g44, h⟩
            · refine SCode.region (show SOps _ _ _ [0, 1, 2, 3, 4, 5, 6, 7, 8, 9, 10, 11, 12, 13, 14, 15, 16, 17, 18, 19, 20, 21, 22, 23, 24, 25, 26, 27, 28, 29] _ _ from ?_)
              refine SOps.q rfl (.plain rfl) rfl (q_load_ptr_all rfl rfl rfl rfl rfl ty26) ?_
              refine SOps.q rfl (.plain rfl) rfl (q_call (chargenetlaw15_right_ok F (SProfile.mk a0_p.ID a0_p.Level a0_p.Purpose a0_p.Kind a0_p.Conn a0_p.Txn a0_p.Span_From ((-1)) a0_p.Start ((-1)) a0_p.Periods) c_32 g33) [] rfl fn21 ⟨⟨rfl, rfl⟩, trivial⟩ (.inl rfl)) ?_
              refine SOps.q rfl (.plain rfl) rfl (q_not rfl rfl) ?_
              refine SOps.q rfl (.plain rfl) rfl (q_move rfl rfl) ?_
              refine SOps.q rfl (.guard 3 20 false rfl rfl (gF g34)) rfl (q_field_ptr rfl rfl fd26_3) ?_
              refine SOps.q rfl (.guard 3 20 false rfl rfl (gF g34)) rfl (q_load_ptr rfl rfl rfl rfl ty3) ?_
              refine SOps.q rfl (.guard 3 20 false rfl rfl (gF g34)) rfl (q_neq rfl rfl rfl) ?_
              refine SOps.q rfl (.guard 3 20 false rfl rfl (gF g34)) rfl (q_move rfl rfl) ?_
              refine SOps.q rfl (.guard 7 24 true rfl rfl (gT g37)) rfl (q_field_ptr rfl rfl fd26_3) ?_
              refine SOps.q rfl (.guard 7 24 true rfl rfl (gT g37)) rfl (q_load_ptr rfl rfl rfl rfl ty3) ?_
              refine SOps.q rfl (.guard 7 24 true rfl rfl (gT g37)) rfl (q_neq rfl rfl rfl) ?_
              refine SOps.q rfl (.guard 3 20 false rfl rfl (gF g34)) rfl (q_pick_t rfl rfl g37 rfl) ?_
              refine SOps.q rfl (.plain rfl) rfl (q_pick_f rfl rfl g34 rfl) ?_
              refine SOps.q rfl (.plain rfl) rfl (q_move rfl rfl) ?_
              refine SOps.q rfl (.guard 13 30 false rfl rfl (gF g38)) rfl (q_move rfl rfl) ?_
              refine SOps.q rfl (.guard 13 30 false rfl rfl (gF g38)) rfl (q_field_ptr rfl rfl fd26_7) ?_
              refine SOps.q rfl (.guard 13 30 false rfl rfl (gF g38)) rfl (q_load_ptr rfl rfl rfl rfl ty3) ?_
              refine SOps.q rfl (.guard 13 30 false rfl rfl (gF g38)) rfl (q_lss rfl rfl rfl) ?_
              refine SOps.q rfl (.plain rfl) rfl (q_pick_f rfl rfl g38 rfl) ?_
              refine SOps.q rfl (.plain rfl) rfl (q_move rfl rfl) ?_
              refine SOps.q rfl (.guard 19 36 false rfl rfl (gF g41)) rfl (q_move rfl rfl) ?_
              refine SOps.q rfl (.guard 19 36 false rfl rfl (gF g41)) rfl (q_field_ptr rfl rfl fd26_6) ?_
              refine SOps.q rfl (.guard 19 36 false rfl rfl (gF g41)) rfl (q_field_ptr rfl rfl fd23_0) ?_
              refine SOps.q rfl (.guard 19 36 false rfl rfl (gF g41)) rfl (q_load_ptr rfl rfl rfl rfl ty3) ?_
              refine SOps.q rfl (.guard 19 36 false rfl rfl (gF g41)) rfl (q_lss rfl rfl rfl) ?_
              refine SOps.q rfl (.plain rfl) rfl (q_pick_f rfl rfl g41 rfl) ?_
              refine SOps.q rfl (.plain rfl) rfl (q_move rfl rfl) ?_
              refine SOps.skip rfl 26 43 false rfl rfl (.inl (gT g44)) rfl ?_
              refine SOps.skip rfl 26 43 false rfl rfl (.inl (gT g44)) rfl ?_
              refine SOps.q rfl (.plain rfl) rfl (q_pick_t rfl rfl g44 rfl) ?_
              refine SOps.sub (st' := ⟨[(1, .c (.int .i64 a1_start)), (2, .c (.int .i64 a2_t)), (3, .c (.ptr 0 0)), (46, .c (.bool true))], [.box [.int .i64 a0_p.ID, .int .i64 a0_p.Level, .int .i64 a0_p.Purpose, .int .i64 a0_p.Kind, .int .i64 a0_p.Conn, .str a0_p.Txn, .int .i64 a0_p.Span_From, .int .i64 ((-1)), .int .i64 a0_p.Start, .int .i64 ((-1)), .vec a0_p.Periods.length 2 (gL cSPeriod dSPeriod a0_p.Periods)]]⟩) (sub_gen [0] rfl rfl ⟨⟨_, rfl, .inl ⟨rfl, rfl⟩⟩, ⟨_, rfl, .inl ⟨rfl, rfl⟩⟩, ⟨_, rfl, .inl ⟨rfl, rfl⟩⟩, ⟨_, rfl, .inl ⟨rfl, rfl⟩⟩, trivial⟩ ⟨⟨_, rfl, ⟨.inl ⟨rfl, rfl⟩, .inl ⟨rfl, rfl⟩, .inl ⟨rfl, rfl⟩, .inl ⟨rfl, rfl⟩, .inl ⟨rfl, rfl⟩, .inl ⟨rfl, rfl⟩, .inl ⟨rfl, rfl⟩, .inl ⟨rfl, rfl⟩, .inl ⟨rfl, rfl⟩, .inl ⟨rfl, rfl⟩, .inl ⟨rfl, rfl⟩, trivial⟩⟩, trivial⟩) ?_
              refine SOps.nil ?_
              refine SCode.cond_t rfl rfl ?_
              refine SCode.seq ?_
              obtain ⟨c_45, g46, h⟩ := bind_out h
              try dsimp only at h
              refine SCode.region (show SOps _ _ _ [0, 1] _ _ from ?_)
              refine SOps.q rfl (.plain rfl) rfl (q_call (chargenetlaw15_awake_ok F  c_45 g46) [] rfl fn11 trivial (.inl rfl)) ?_
              refine SOps.q rfl (.plain rfl) rfl (q_assign rfl rfl) ?_
              refine SOps.sub (st' := ⟨[(6, .c (.bool c_45))], []⟩) (sub_gen [] rfl rfl ⟨⟨_, rfl, .inl ⟨rfl, rfl⟩⟩, trivial⟩ trivial) ?_
              refine SOps.nil ?_
              refine SCode.ret ?_
              obtain rfl := Option.some.inj h
              exact ⟨⟨[(6, .c (.bool c_45))], []⟩, _, sub_gen [] rfl rfl ⟨⟨_, rfl, .inl ⟨rfl, rfl⟩⟩, trivial⟩ trivial, resA1 (v := .c (.bool c_45)) rfl rfl, rfl⟩
            · refine SCode.region (show SOps _ _ _ [0, 1, 2, 3, 4, 5, 6, 7, 8, 9, 10, 11, 12, 13, 14, 15, 16, 17, 18, 19, 20, 21, 22, 23, 24, 25, 26, 27, 28, 29] _ _ from ?_)
              refine SOps.q rfl (.plain rfl) rfl (q_load_ptr_all rfl rfl rfl rfl rfl ty26) ?_
              refine SOps.q rfl (.plain rfl) rfl (q_call (chargenetlaw15_right_ok F (SProfile.mk a0_p.ID a0_p.Level a0_p.Purpose a0_p.Kind a0_p.Conn a0_p.Txn a0_p.Span_From ((-1)) a0_p.Start ((-1)) a0_p.Periods) c_32 g33) [] rfl fn21 ⟨⟨rfl, rfl⟩, trivial⟩ (.inl rfl)) ?_
              refine SOps.q rfl (.plain rfl) rfl (q_not rfl rfl) ?_
              refine SOps.q rfl (.plain rfl) rfl (q_move rfl rfl) ?_
              refine SOps.q rfl (.guard 3 20 false rfl rfl (gF g34)) rfl (q_field_ptr rfl rfl fd26_3) ?_
              refine SOps.q rfl (.guard 3 20 false rfl rfl (gF g34)) rfl (q_load_ptr rfl rfl rfl rfl ty3) ?_
              refine SOps.q rfl (.guard 3 20 false rfl rfl (gF g34)) rfl (q_neq rfl rfl rfl) ?_
              refine SOps.q rfl (.guard 3 20 false rfl rfl (gF g34)) rfl (q_move rfl rfl) ?_
              refine SOps.q rfl (.guard 7 24 true rfl rfl (gT g37)) rfl (q_field_ptr rfl rfl fd26_3) ?_
              refine SOps.q rfl (.guard 7 24 true rfl rfl (gT g37)) rfl (q_load_ptr rfl rfl rfl rfl ty3) ?_
              refine SOps.q rfl (.guard 7 24 true rfl rfl (gT g37)) rfl (q_neq rfl rfl rfl) ?_
              refine SOps.q rfl (.guard 3 20 false rfl rfl (gF g34)) rfl (q_pick_t rfl rfl g37 rfl) ?_
              refine SOps.q rfl (.plain rfl) rfl (q_pick_f rfl rfl g34 rfl) ?_
              refine SOps.q rfl (.plain rfl) rfl (q_move rfl rfl) ?_
              refine SOps.q rfl (.guard 13 30 false rfl rfl (gF g38)) rfl (q_move rfl rfl) ?_
              refine SOps.q rfl (.guard 13 30 false rfl rfl (gF g38)) rfl (q_field_ptr rfl rfl fd26_7) ?_
              refine SOps.q rfl (.guard 13 30 false rfl rfl (gF g38)) rfl (q_load_ptr rfl rfl rfl rfl ty3) ?_
              refine SOps.q rfl (.guard 13 30 false rfl rfl (gF g38)) rfl (q_lss rfl rfl rfl) ?_
              refine SOps.q rfl (.plain rfl) rfl (q_pick_f rfl rfl g38 rfl) ?_
              refine SOps.q rfl (.plain rfl) rfl (q_move rfl rfl) ?_
              refine SOps.q rfl (.guard 19 36 false rfl rfl (gF g41)) rfl (q_move rfl rfl) ?_
              refine SOps.q rfl (.guard 19 36 false rfl rfl (gF g41)) rfl (q_field_ptr rfl rfl fd26_6) ?_
              refine SOps.q rfl (.guard 19 36 false rfl rfl (gF g41)) rfl (q_field_ptr rfl rfl fd23_0) ?_
              refine SOps.q rfl (.guard 19 36 false rfl rfl (gF g41)) rfl (q_load_ptr rfl rfl rfl rfl ty3) ?_
              refine SOps.q rfl (.guard 19 36 false rfl rfl (gF g41)) rfl (q_lss rfl rfl rfl) ?_
              refine SOps.q rfl (.plain rfl) rfl (q_pick_f rfl rfl g41 rfl) ?_
              refine SOps.q rfl (.plain rfl) rfl (q_move rfl rfl) ?_
              refine SOps.q rfl (.guard 26 43 false rfl rfl (gF g44)) rfl (q_move rfl rfl) ?_
              refine SOps.q rfl (.guard 26 43 false rfl rfl (gF g44)) rfl (q_gtr rfl rfl rfl) ?_
              refine SOps.q rfl (.plain rfl) rfl (q_pick_f rfl rfl g44 rfl) ?_
              refine SOps.sub (st' := ⟨[(1, .c (.int .i64 a1_start)), (2, .c (.int .i64 a2_t)), (3, .c (.ptr 0 0)), (46, .c (.bool (decide (268435456 < a2_t))))], [.box [.int .i64 a0_p.ID, .int .i64 a0_p.Level, .int .i64 a0_p.Purpose, .int .i64 a0_p.Kind, .int .i64 a0_p.Conn, .str a0_p.Txn, .int .i64 a0_p.Span_From, .int .i64 ((-1)), .int .i64 a0_p.Start, .int .i64 ((-1)), .vec a0_p.Periods.length 2 (gL cSPeriod dSPeriod a0_p.Periods)]]⟩) (sub_gen [0] rfl rfl ⟨⟨_, rfl, .inl ⟨rfl, rfl⟩⟩, ⟨_, rfl, .inl ⟨rfl, rfl⟩⟩, ⟨_, rfl, .inl ⟨rfl, rfl⟩⟩, ⟨_, rfl, .inl ⟨rfl, rfl⟩⟩, trivial⟩ ⟨⟨_, rfl, ⟨.inl ⟨rfl, rfl⟩, .inl ⟨rfl, rfl⟩, .inl ⟨rfl, rfl⟩, .inl ⟨rfl, rfl⟩, .inl ⟨rfl, rfl⟩, .inl ⟨rfl, rfl⟩, .inl ⟨rfl, rfl⟩, .inl ⟨rfl, rfl⟩, .inl ⟨rfl, rfl⟩, .inl ⟨rfl, rfl⟩, .inl ⟨rfl, rfl⟩, trivial⟩⟩, trivial⟩) ?_
              refine SOps.nil ?_
              rcases cond_out h with ⟨g47, h⟩ | ⟨g47, h⟩
              · refine SCode.cond_t rfl g47 ?_
                refine SCode.seq ?_
                obtain ⟨c_48, g49, h⟩ := bind_out h
                try dsimp only at h
                refine SCode.region (show SOps _ _ _ [0, 1] _ _ from ?_)
                refine SOps.q rfl (.plain rfl) rfl (q_call (chargenetlaw15_awake_ok F  c_48 g49) [] rfl fn11 trivial (.inl rfl)) ?_
                refine SOps.q rfl (.plain rfl) rfl (q_assign rfl rfl) ?_
                refine SOps.sub (st' := ⟨[(6, .c (.bool c_48))], []⟩) (sub_gen [] rfl rfl ⟨⟨_, rfl, .inl ⟨rfl, rfl⟩⟩, trivial⟩ trivial) ?_
                refine SOps.nil ?_
                refine SCode.ret ?_
                obtain rfl := Option.some.inj h
                exact ⟨⟨[(6, .c (.bool c_48))], []⟩, _, sub_gen [] rfl rfl ⟨⟨_, rfl, .inl ⟨rfl, rfl⟩⟩, trivial⟩ trivial, resA1 (v := .c (.bool c_48)) rfl rfl, rfl⟩
              · refine SCode.cond_f rfl g47 ?_
                refine SCode.skip ?_
                exact ⟨(), h, sub_gen [0] rfl rfl ⟨⟨_, rfl, .inl ⟨rfl, rfl⟩⟩, ⟨_, rfl, .inl ⟨rfl, rfl⟩⟩, ⟨_, rfl, .inl ⟨rfl, rfl⟩⟩, trivial⟩ ⟨⟨_, rfl, ⟨.inl ⟨rfl, rfl⟩, .inl ⟨rfl, rfl⟩, .inl ⟨rfl, rfl⟩, .inl ⟨rfl, rfl⟩, .inl ⟨rfl, rfl⟩, .inl ⟨rfl, rfl⟩, .inl ⟨rfl, rfl⟩, .inl ⟨rfl, rfl⟩, .inl ⟨rfl, rfl⟩, .inl ⟨rfl, rfl⟩, .inl ⟨rfl, rfl⟩, trivial⟩⟩, trivial⟩⟩
      · rcases cond_out h with ⟨g50, h⟩ | ⟨g50, h⟩
        · refine SCode.region (show SOps _ _ _ [0, 1, 2, 3, 4, 5, 6, 7, 8, 9, 10, 11, 12, 13, 14, 15, 16, 17, 18, 19, 20, 21, 22, 23, 24, 25, 26, 27, 28, 29] _ _ from ?_)
          refine SOps.q rfl (.plain rfl) rfl (q_load_ptr_all rfl rfl rfl rfl rfl ty26) ?_
          refine SOps.q rfl (.plain rfl) rfl (q_call (chargenetlaw15_right_ok F (SProfile.mk a0_p.ID a0_p.Level a0_p.Purpose a0_p.Kind a0_p.Conn a0_p.Txn a0_p.Span_From ((-1)) a0_p.Start ((-1)) a0_p.Periods) c_32 g33) [] rfl fn21 ⟨⟨rfl, rfl⟩, trivial⟩ (.inl rfl)) ?_
          refine SOps.q rfl (.plain rfl) rfl (q_not rfl rfl) ?_
          refine SOps.q rfl (.plain rfl) rfl (q_move rfl rfl) ?_
          refine SOps.q rfl (.guard 3 20 false rfl rfl (gF g34)) rfl (q_field_ptr rfl rfl fd26_3) ?_
          refine SOps.q rfl (.guard 3 20 false rfl rfl (gF g34)) rfl (q_load_ptr rfl rfl rfl rfl ty3) ?_
          refine SOps.q rfl (.guard 3 20 false rfl rfl (gF g34)) rfl (q_neq rfl rfl rfl) ?_
          refine SOps.q rfl (.guard 3 20 false rfl rfl (gF g34)) rfl (q_move rfl rfl) ?_
          refine SOps.skip rfl 7 24 true rfl rfl (.inl (gF g37)) rfl ?_
          refine SOps.skip rfl 7 24 true rfl rfl (.inl (gF g37)) rfl ?_
          refine SOps.skip rfl 7 24 true rfl rfl (.inl (gF g37)) rfl ?_
          refine SOps.q rfl (.guard 3 20 false rfl rfl (gF g34)) rfl (q_pick_f rfl rfl g37 rfl) ?_
          refine SOps.q rfl (.plain rfl) rfl (q_pick_f rfl rfl g34 rfl) ?_
          refine SOps.q rfl (.plain rfl) rfl (q_move rfl rfl) ?_
          refine SOps.q rfl (.guard 13 30 false rfl rfl rfl) rfl (q_move rfl rfl) ?_
          refine SOps.q rfl (.guard 13 30 false rfl rfl rfl) rfl (q_field_ptr rfl rfl fd26_7) ?_
          refine SOps.q rfl (.guard 13 30 false rfl rfl rfl) rfl (q_load_ptr rfl rfl rfl rfl ty3) ?_
          refine SOps.q rfl (.guard 13 30 false rfl rfl rfl) rfl (q_lss rfl rfl rfl) ?_
          refine SOps.q rfl (.plain rfl) rfl (q_pick_f rfl rfl rfl rfl) ?_
          refine SOps.q rfl (.plain rfl) rfl (q_move rfl rfl) ?_
          refine SOps.skip rfl 19 36 false rfl rfl (.inl (gT g50)) rfl ?_
          refine SOps.skip rfl 19 36 false rfl rfl (.inl (gT g50)) rfl ?_
          refine SOps.skip rfl 19 36 false rfl rfl (.inl (gT g50)) rfl ?_
          refine SOps.skip rfl 19 36 false rfl rfl (.inl (gT g50)) rfl ?_
          refine SOps.skip rfl 19 36 false rfl rfl (.inl (gT g50)) rfl ?_
          refine SOps.q rfl (.plain rfl) rfl (q_pick_t rfl rfl g50 rfl) ?_
          refine SOps.q rfl (.plain rfl) rfl (q_move rfl rfl) ?_
          refine SOps.skip rfl 26 43 false rfl rfl (.inl rfl) rfl ?_
          refine SOps.skip rfl 26 43 false rfl rfl (.inl rfl) rfl ?_
          refine SOps.q rfl (.plain rfl) rfl (q_pick_t rfl rfl rfl rfl) ?_
          refine SOps.sub (st' := ⟨[(1, .c (.int .i64 a1_start)), (2, .c (.int .i64 a2_t)), (3, .c (.ptr 0 0)), (46, .c (.bool true))], [.box [.int .i64 a0_p.ID, .int .i64 a0_p.Level, .int .i64 a0_p.Purpose, .int .i64 a0_p.Kind, .int .i64 a0_p.Conn, .str a0_p.Txn, .int .i64 a0_p.Span_From, .int .i64 ((-1)), .int .i64 a0_p.Start, .int .i64 ((-1)), .vec a0_p.Periods.length 2 (gL cSPeriod dSPeriod a0_p.Periods)]]⟩) (sub_gen [0] rfl rfl ⟨⟨_, rfl, .inl ⟨rfl, rfl⟩⟩, ⟨_, rfl, .inl ⟨rfl, rfl⟩⟩, ⟨_, rfl, .inl ⟨rfl, rfl⟩⟩, ⟨_, rfl, .inl ⟨rfl, rfl⟩⟩, trivial⟩ ⟨⟨_, rfl, ⟨.inl ⟨rfl, rfl⟩, .inl ⟨rfl, rfl⟩, .inl ⟨rfl, rfl⟩, .inl ⟨rfl, rfl⟩, .inl ⟨rfl, rfl⟩, .inl ⟨rfl, rfl⟩, .inl ⟨rfl, rfl⟩, .inl ⟨rfl, rfl⟩, .inl ⟨rfl, rfl⟩, .inl ⟨rfl, rfl⟩, .inl ⟨rfl, rfl⟩, trivial⟩⟩, trivial⟩) ?_
          refine SOps.nil ?_
          refine SCode.cond_t rfl rfl ?_
          refine SCode.seq ?_
          obtain ⟨c_51, g52, h⟩ := bind_out h
          try dsimp only at h
          refine SCode.region (show SOps _ _ _ [0, 1] _ _ from ?_)
          refine SOps.q rfl (.plain rfl) rfl (q_call (chargenetlaw15_awake_ok F  c_51 g52) [] rfl fn11 trivial (.inl rfl)) ?_
          refine SOps.q rfl (.plain rfl) rfl (q_assign rfl rfl) ?_
          refine SOps.sub (st' := ⟨[(6, .c (.bool c_51))], []⟩) (sub_gen [] rfl rfl ⟨⟨_, rfl, .inl ⟨rfl, rfl⟩⟩, trivial⟩ trivial) ?_
          refine SOps.nil ?_
          refine SCode.ret ?_
          obtain rfl := Option.some.inj h
          exact ⟨⟨[(6, .c (.bool c_51))], []⟩, _, sub_gen [] rfl rfl ⟨⟨_, rfl, .inl ⟨rfl, rfl⟩⟩, trivial⟩ trivial, resA1 (v := .c (.bool c_51)) rfl rfl, rfl⟩
        · rcases cond_out h with ⟨g53, h⟩ | ⟨g53, h⟩
          · refine SCode.region (show SOps _ _ _ [0, 1, 2, 3, 4, 5, 6, 7, 8, 9, 10, 11, 12, 13, 14, 15, 16, 17, 18, 19, 20, 21, 22, 23, 24, 25, 26, 27, 28, 29] _ _ from ?_)
            refine SOps.q rfl (.plain rfl) rfl (q_load_ptr_all rfl rfl rfl rfl rfl ty26) ?_
            refine SOps.q rfl (.plain rfl) rfl (q_call (chargenetlaw15_right_ok F (SProfile.mk a0_p.ID a0_p.Level a0_p.Purpose a0_p.Kind a0_p.Conn a0_p.Txn a0_p.Span_From ((-1)) a0_p.Start ((-1)) a0_p.Periods) c_32 g33) [] rfl fn21 ⟨⟨rfl, rfl⟩, trivial⟩ (.inl rfl)) ?_
            refine SOps.q rfl (.plain rfl) rfl (q_not rfl rfl) ?_
            refine SOps.q rfl (.plain rfl) rfl (q_move rfl rfl) ?_
            refine SOps.q rfl (.guard 3 20 false rfl rfl (gF g34)) rfl (q_field_ptr rfl rfl fd26_3) ?_
            refine SOps.q rfl (.guard 3 20 false rfl rfl (gF g34)) rfl (q_load_ptr rfl rfl rfl rfl ty3) ?_
            refine SOps.q rfl (.guard 3 20 false rfl rfl (gF g34)) rfl (q_neq rfl rfl rfl) ?_
            refine SOps.q rfl (.guard 3 20 false rfl rfl (gF g34)) rfl (q_move rfl rfl) ?_
            refine SOps.skip rfl 7 24 true rfl rfl (.inl (gF g37)) rfl ?_
            refine SOps.skip rfl 7 24 true rfl rfl (.inl (gF g37)) rfl ?_
            refine SOps.skip rfl 7 24 true rfl rfl (.inl (gF g37)) rfl ?_
            refine SOps.q rfl (.guard 3 20 false rfl rfl (gF g34)) rfl (q_pick_f rfl rfl g37 rfl) ?_
            refine SOps.q rfl (.plain rfl) rfl (q_pick_f rfl rfl g34 rfl) ?_
            refine SOps.q rfl (.plain rfl) rfl (q_move rfl rfl) ?_
            refine SOps.q rfl (.guard 13 30 false rfl rfl rfl) rfl (q_move rfl rfl) ?_
            refine SOps.q rfl (.guard 13 30 false rfl rfl rfl) rfl (q_field_ptr rfl rfl fd26_7) ?_
            refine SOps.q rfl (.guard 13 30 false rfl rfl rfl) rfl (q_load_ptr rfl rfl rfl rfl ty3) ?_
            refine SOps.q rfl (.guard 13 30 false rfl rfl rfl) rfl (q_lss rfl rfl rfl) ?_
            refine SOps.q rfl (.plain rfl) rfl (q_pick_f rfl rfl rfl rfl) ?_
            refine SOps.q rfl (.plain rfl) rfl (q_move rfl rfl) ?_
            refine SOps.q rfl (.guard 19 36 false rfl rfl (gF g50)) rfl (q_move rfl rfl) ?_
            refine SOps.q rfl (.guard 19 36 false rfl rfl (gF g50)) rfl (q_field_ptr rfl rfl fd26_6) ?_
            refine SOps.q rfl (.guard 19 36 false rfl rfl (gF g50)) rfl (q_field_ptr rfl rfl fd23_0) ?_
            refine SOps.q rfl (.guard 19 36 false rfl rfl (gF g50)) rfl (q_load_ptr rfl rfl rfl rfl ty3) ?_
            refine SOps.q rfl (.guard 19 36 false rfl rfl (gF g50)) rfl (q_lss rfl rfl rfl) ?_
            refine SOps.q rfl (.plain rfl) rfl (q_pick_f rfl rfl g50 rfl) ?_
            refine SOps.q rfl (.plain rfl) rfl (q_move rfl rfl) ?_
            refine SOps.skip rfl 26 43 false rfl rfl (.inl (gT g53)) rfl ?_
            refine SOps.skip rfl 26 43 false rfl rfl (.inl (gT g53)) rfl ?_
            refine SOps.q rfl (.plain rfl) rfl (q_pick_t rfl rfl g53 rfl) ?_
            refine SOps.sub (st' := ⟨[(1, .c (.int .i64 a1_start)), (2, .c (.int .i64 a2_t)), (3, .c (.ptr 0 0)), (46, .c (.bool true))], [.box [.int .i64 a0_p.ID, .int .i64 a0_p.Level, .int .i64 a0_p.Purpose, .int .i64 a0_p.Kind, .int .i64 a0_p.Conn, .str a0_p.Txn, .int .i64 a0_p.Span_From, .int .i64 ((-1)), .int .i64 a0_p.Start, .int .i64 ((-1)), .vec a0_p.Periods.length 2 (gL cSPeriod dSPeriod a0_p.Periods)]]⟩) (sub_gen [0] rfl rfl ⟨⟨_, rfl, .inl ⟨rfl, rfl⟩⟩, ⟨_, rfl, .inl ⟨rfl, rfl⟩⟩, ⟨_, rfl, .inl ⟨rfl, rfl⟩⟩, ⟨_, rfl, .inl ⟨rfl, rfl⟩⟩, trivial⟩ ⟨⟨_, rfl, ⟨.inl ⟨rfl, rfl⟩, .inl ⟨rfl, rfl⟩, .inl ⟨rfl, rfl⟩, .inl ⟨rfl, rfl⟩, .inl ⟨rfl, rfl⟩, .inl ⟨rfl, rfl⟩, .inl ⟨rfl, rfl⟩, .inl ⟨rfl, rfl⟩, .inl ⟨rfl, rfl⟩, .inl ⟨rfl, rfl⟩, .inl ⟨rfl, rfl⟩, trivial⟩⟩, trivial⟩) ?_
            refine SOps.nil ?_
            refine SCode.cond_t rfl rfl ?_
            refine SCode.seq ?_
            obtain ⟨c_54, g55, h⟩ := bind_out h
            try dsimp only at h
            refine SCode.region (show SOps _ _ _ [0, 1] _ _ from ?_)
            refine SOps.q rfl (.plain rfl) rfl (q_call (chargenetlaw15_awake_ok F  c_54 g55) [] rfl fn11 trivial (.inl rfl)) ?_
            refine SOps.q rfl (.plain rfl) rfl (q_assign rfl rfl) ?_
            refine SOps.sub (st' := ⟨[(6, .c (.bool c_54))], []⟩) (sub_gen [] rfl rfl ⟨⟨_, rfl, .inl ⟨rfl, rfl⟩⟩, trivial⟩ trivial) ?_
            refine SOps.nil ?_
            refine SCode.ret ?_
            obtain rfl := Option.some.inj h
            exact ⟨⟨[(6, .c (.bool c_54))], []⟩, _, sub_gen [] rfl rfl ⟨⟨_, rfl, .inl ⟨rfl, rfl⟩⟩, trivial⟩ trivial, resA1 (v := .c (.bool c_54)) rfl rfl, rfl⟩
          · refine SCode.region (show SOps _ _ _ [0, 1, 2, 3, 4, 5, 6, 7, 8, 9, 10, 11, 12, 13, 14, 15, 16, 17, 18, 19, 20, 21, 22, 23, 24, 25, 26, 27, 28, 29] _ _ from ?_)
            refine SOps.q rfl (.plain rfl) rfl (q_load_ptr_all rfl rfl rfl rfl rfl ty26) ?_
            refine SOps.q rfl (.plain rfl) rfl (q_call (chargenetlaw15_right_ok F (SProfile.mk a0_p.ID a0_p.Level a0_p.Purpose a0_p.Kind a0_p.Conn a0_p.Txn a0_p.Span_From ((-1)) a0_p.Start ((-1)) a0_p.Periods) c_32 g33) [] rfl fn21 ⟨⟨rfl, rfl⟩, trivial⟩ (.inl rfl)) ?_
            refine SOps.q rfl (.plain rfl) rfl (q_not rfl rfl) ?_
            refine SOps.q rfl (.plain rfl) rfl (q_move rfl rfl) ?_
            refine SOps.q rfl (.guard 3 20 false rfl rfl (gF g34)) rfl (q_field_ptr rfl rfl fd26_3) ?_
            refine SOps.q rfl (.guard 3 20 false rfl rfl (gF g34)) rfl (q_load_ptr rfl rfl rfl rfl ty3) ?_
            refine SOps.q rfl (.guard 3 20 false rfl rfl (gF g34)) rfl (q_neq rfl rfl rfl) ?_
            refine SOps.q rfl (.guard 3 20 false rfl rfl (gF g34)) rfl (q_move rfl rfl) ?_
            refine SOps.skip rfl 7 24 true rfl rfl (.inl (gF g37)) rfl ?_
            refine SOps.skip rfl 7 24 true rfl rfl (.inl (gF g37)) rfl ?_
            refine SOps.skip rfl 7 24 true rfl rfl (.inl (gF g37)) rfl ?_
            refine SOps.q rfl (.guard 3 20 false rfl rfl (gF g34)) rfl (q_pick_f rfl rfl g37 rfl) ?_
            refine SOps.q rfl (.plain rfl) rfl (q_pick_f rfl rfl g34 rfl) ?_
            refine SOps.q rfl (.plain rfl) rfl (q_move rfl rfl) ?_
            refine SOps.q rfl (.guard 13 30 false rfl rfl rfl) rfl (q_move rfl rfl) ?_
            refine SOps.q rfl (.guard 13 30 false rfl rfl rfl) rfl (q_field_ptr rfl rfl fd26_7) ?_
            refine SOps.q rfl (.guard 13 30 false rfl rfl rfl) rfl (q_load_ptr rfl rfl rfl rfl ty3) ?_
            refine SOps.q rfl (.guard 13 30 false rfl rfl rfl) rfl (q_lss rfl rfl rfl) ?_
            refine SOps.q rfl (.plain rfl) rfl (q_pick_f rfl rfl rfl rfl) ?_
            refine SOps.q rfl (.plain rfl) rfl (q_move rfl rfl) ?_
            refine SOps.q rfl (.guard 19 36 false rfl rfl (gF g50)) rfl (q_move rfl rfl) ?_
            refine SOps.q rfl (.guard 19 36 false rfl rfl (gF g50)) rfl (q_field_ptr rfl rfl fd26_6) ?_
            refine SOps.q rfl (.guard 19 36 false rfl rfl (gF g50)) rfl (q_field_ptr rfl rfl fd23_0) ?_
            refine SOps.q rfl (.guard 19 36 false rfl rfl (gF g50)) rfl (q_load_ptr rfl rfl rfl rfl ty3) ?_
            refine SOps.q rfl (.guard 19 36 false rfl rfl (gF g50)) rfl (q_lss rfl rfl rfl) ?_
            refine SOps.q rfl (.plain rfl) rfl (q_pick_f rfl rfl g50 rfl) ?_
            refine SOps.q rfl (.plain rfl) rfl (q_move rfl rfl) ?_
            refine SOps.q rfl (.guard 26 43 false rfl rfl (gF g53)) rfl (q_move rfl rfl) ?_
            refine SOps.q rfl (.guard 26 43 false rfl rfl (gF g53)) rfl (q_gtr rfl rfl rfl) ?_
            refine SOps.q rfl (.plain rfl) rfl (q_pick_f rfl rfl g53 rfl) ?_
            refine SOps.sub (st' := ⟨[(1, .c (.int .i64 a1_start)), (2, .c (.int .i64 a2_t)), (3, .c (.ptr 0 0)), (46, .c (.bool (decide (268435456 < a2_t))))], [.box [.int .i64 a0_p.ID, .int .i64 a0_p.Level, .int .i64 a0_p.Purpose, .int .i64 a0_p.Kind, .int .i64 a0_p.Conn, .str a0_p.Txn, .int .i64 a0_p.Span_From, .int .i64 ((-1)), .int .i64 a0_p.Start, .int .i64 ((-1)), .vec a0_p.Periods.length 2 (gL cSPeriod dSPeriod a0_p.Periods)]]⟩) (sub_gen [0] rfl rfl ⟨⟨_, rfl, .inl ⟨rfl, rfl⟩⟩, ⟨_, rfl, .inl ⟨rfl, rfl⟩⟩, ⟨_, rfl, .inl ⟨rfl, rfl⟩⟩, ⟨_, rfl, .inl ⟨rfl, rfl⟩⟩, trivial⟩ ⟨⟨_, rfl, ⟨.inl ⟨rfl, rfl⟩, .inl ⟨rfl, rfl⟩, .inl ⟨rfl, rfl⟩, .inl ⟨rfl, rfl⟩, .inl ⟨rfl, rfl⟩, .inl ⟨rfl, rfl⟩, .inl ⟨rfl, rfl⟩, .inl ⟨rfl, rfl⟩, .inl ⟨rfl, rfl⟩, .inl ⟨rfl, rfl⟩, .inl ⟨rfl, rfl⟩, trivial⟩⟩, trivial⟩) ?_
            refine SOps.nil ?_
            rcases cond_out h with ⟨g56, h⟩ | ⟨g56, h⟩
            · refine SCode.cond_t rfl g56 ?_
              refine SCode.seq ?_
              obtain ⟨c_57, g58, h⟩ := bind_out h
              try dsimp only at h
              refine SCode.region (show SOps _ _ _ [0, 1] _ _ from ?_)
              refine SOps.q rfl (.plain rfl) rfl (q_call (chargenetlaw15_awake_ok F  c_57 g58) [] rfl fn11 trivial (.inl rfl)) ?_
              refine SOps.q rfl (.plain rfl) rfl (q_assign rfl rfl) ?_
              refine SOps.sub (st' := ⟨[(6, .c (.bool c_57))], []⟩) (sub_gen [] rfl rfl ⟨⟨_, rfl, .inl ⟨rfl, rfl⟩⟩, trivial⟩ trivial) ?_
              refine SOps.nil ?_
              refine SCode.ret ?_
              obtain rfl := Option.some.inj h
              exact ⟨⟨[(6, .c (.bool c_57))], []⟩, _, sub_gen [] rfl rfl ⟨⟨_, rfl, .inl ⟨rfl, rfl⟩⟩, trivial⟩ trivial, resA1 (v := .c (.bool c_57)) rfl rfl, rfl⟩
            · refine SCode.cond_f rfl g56 ?_
              refine SCode.skip ?_
              exact ⟨(), h, sub_gen [0] rfl rfl ⟨⟨_, rfl, .inl ⟨rfl, rfl⟩⟩, ⟨_, rfl, .inl ⟨rfl, rfl⟩⟩, ⟨_, rfl, .inl ⟨rfl, rfl⟩⟩, trivial⟩ ⟨⟨_, rfl, ⟨.inl ⟨rfl, rfl⟩, .inl ⟨rfl, rfl⟩, .inl ⟨rfl, rfl⟩, .inl ⟨rfl, rfl⟩, .inl ⟨rfl, rfl⟩, .inl ⟨rfl, rfl⟩, .inl ⟨rfl, rfl⟩, .inl ⟨rfl, rfl⟩, .inl ⟨rfl, rfl⟩, .inl ⟨rfl, rfl⟩, .inl ⟨rfl, rfl⟩, trivial⟩⟩, trivial⟩⟩
end Go.Proofs.Ytldekibkmombdaa.W
