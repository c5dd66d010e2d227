/- Written by a program of ours (wip/eng/gen.py): the functions compute their models. -/
import Derived.Test.YtfbkimhoncfnmaaFacts
namespace Go.Proofs.Ytfbkimhoncfnmaa.W
open Go Go.Proofs Go.Proofs.Ytfbkimhoncfnmaa.E Go.Proofs.Ytfbkimhoncfnmaa.M
set_option linter.unusedVariables false
set_option maxRecDepth 100000 in
set_option maxHeartbeats 8000000 in
theorem profile_numbers_ok (F : Nat) (a0_p : SProfile) (r : Bool) (h : profile_numbers F a0_p = some r) :
    SFun Try.prog 11 [] [.a [.int .i64 a0_p.ID, .int .i64 a0_p.Level, .int .i64 a0_p.Purpose, .int .i64 a0_p.Kind, .int .i64 a0_p.Conn, .str a0_p.Txn, .int .i64 a0_p.Span_From, .int .i64 a0_p.Span_To, .int .i64 a0_p.Start, .int .i64 a0_p.Duration, .vec a0_p.Periods.length 2 (gL cSPeriod dSPeriod a0_p.Periods)]] (fun x _ => x = .c (.bool r)) := by
  refine SFun.of (n := 51) Try.func11 rfl rfl rfl ?_
  unfold profile_numbers at h
  show SCode _ _ _ ⟨[(0, .a [.int .i64 a0_p.ID, .int .i64 a0_p.Level, .int .i64 a0_p.Purpose, .int .i64 a0_p.Kind, .int .i64 a0_p.Conn, .str a0_p.Txn, .int .i64 a0_p.Span_From, .int .i64 a0_p.Span_To, .int .i64 a0_p.Start, .int .i64 a0_p.Duration, .vec a0_p.Periods.length 2 (gL cSPeriod dSPeriod a0_p.Periods)])], []⟩ _
  refine SCode.seq ?_
  refine SCode.region (show SOps _ _ _ [0, 1] _ _ from ?_)
  refine SOps.e rfl (.plain rfl) (e_box rfl rfl rfl rfl rfl rfl) ?_
  refine SOps.q rfl (.plain rfl) rfl (q_assign rfl rfl) ?_
  refine SOps.sub (st' := ⟨[(1, .c (.ptr 0 0))], [.box [.int .i64 a0_p.ID, .int .i64 a0_p.Level, .int .i64 a0_p.Purpose, .int .i64 a0_p.Kind, .int .i64 a0_p.Conn, .str a0_p.Txn, .int .i64 a0_p.Span_From, .int .i64 a0_p.Span_To, .int .i64 a0_p.Start, .int .i64 a0_p.Duration, .vec a0_p.Periods.length 2 (gL cSPeriod dSPeriod a0_p.Periods)]]⟩) (sub_gen [0] rfl rfl ⟨zc rfl rfl, trivial⟩ ⟨⟨_, rfl, ⟨ii rfl rfl, ii rfl rfl, ii rfl rfl, ii rfl rfl, ii rfl rfl, ii rfl rfl, ii rfl rfl, ii rfl rfl, ii rfl rfl, ii rfl rfl, ii rfl rfl, trivial⟩⟩, trivial⟩) ?_
  refine SOps.nil ?_
  refine SCode.seq ?_
  rcases cond_out h with ⟨g1, h⟩ | ⟨g1, h⟩
  · rcases cond_out h with ⟨g2, h⟩ | ⟨g2, h⟩
    · rcases cond_out h with ⟨g3, h⟩ | ⟨g3, h⟩
      · rcases cond_out h with ⟨g4, h⟩ | ⟨g4, h⟩
        · rcases cond_out h with ⟨g5, h⟩ | ⟨g5, h⟩
          · rcases cond_out h with ⟨g6, h⟩ | ⟨g6, h⟩
            · rcases cond_out h with ⟨g7, h⟩ | ⟨g7, h⟩
              · rcases cond_out h with ⟨g8, h⟩ | ⟨g8, h⟩
                · rcases cond_out h with ⟨g9, h⟩ | ⟨g9, h⟩
                  · refine SCode.region (show SOps _ _ _ [0, 1, 2, 3, 4, 5, 6, 7, 8, 9, 10, 11, 12, 13, 14, 15, 16, 17, 18, 19, 20, 21, 22, 23, 24, 25, 26, 27, 28, 29, 30, 31, 32, 33, 34, 35, 36, 37, 38, 39, 40, 41, 42, 43, 44, 45, 46, 47, 48] _ _ from ?_)
                    refine SOps.q rfl (.plain rfl) rfl (q_field_ptr rfl rfl fd29_0) ?_
                    refine SOps.q rfl (.plain rfl) rfl (q_load_ptr rfl rfl rfl rfl ty3) ?_
                    refine SOps.q rfl (.plain rfl) rfl (q_geq rfl rfl rfl) ?_
                    refine SOps.q rfl (.plain rfl) rfl (q_move rfl rfl) ?_
                    refine SOps.q rfl (.guard 3 6 true rfl rfl (gT g1)) rfl (q_field_ptr rfl rfl fd29_0) ?_
                    refine SOps.q rfl (.guard 3 6 true rfl rfl (gT g1)) rfl (q_load_ptr rfl rfl rfl rfl ty3) ?_
                    refine SOps.q rfl (.guard 3 6 true rfl rfl (gT g1)) rfl (q_leq rfl rfl rfl) ?_
                    refine SOps.q rfl (.plain rfl) rfl (q_pick_t rfl rfl g1 rfl) ?_
                    refine SOps.q rfl (.plain rfl) rfl (q_move rfl rfl) ?_
                    refine SOps.q rfl (.guard 8 11 true rfl rfl (gT g2)) rfl (q_field_ptr rfl rfl fd29_1) ?_
                    refine SOps.q rfl (.guard 8 11 true rfl rfl (gT g2)) rfl (q_load_ptr rfl rfl rfl rfl ty3) ?_
                    refine SOps.q rfl (.guard 8 11 true rfl rfl (gT g2)) rfl (q_geq rfl rfl rfl) ?_
                    refine SOps.q rfl (.plain rfl) rfl (q_pick_t rfl rfl g2 rfl) ?_
                    refine SOps.q rfl (.plain rfl) rfl (q_move rfl rfl) ?_
                    refine SOps.q rfl (.guard 13 16 true rfl rfl (gT g3)) rfl (q_field_ptr rfl rfl fd29_1) ?_
                    refine SOps.q rfl (.guard 13 16 true rfl rfl (gT g3)) rfl (q_load_ptr rfl rfl rfl rfl ty3) ?_
                    refine SOps.q rfl (.guard 13 16 true rfl rfl (gT g3)) rfl (q_leq rfl rfl rfl) ?_
                    refine SOps.q rfl (.plain rfl) rfl (q_pick_t rfl rfl g3 rfl) ?_
                    refine SOps.q rfl (.plain rfl) rfl (q_move rfl rfl) ?_
                    refine SOps.q rfl (.guard 18 21 true rfl rfl (gT g4)) rfl (q_field_ptr rfl rfl fd29_2) ?_
                    refine SOps.q rfl (.guard 18 21 true rfl rfl (gT g4)) rfl (q_load_ptr rfl rfl rfl rfl ty3) ?_
                    refine SOps.q rfl (.guard 18 21 true rfl rfl (gT g4)) rfl (q_geq rfl rfl rfl) ?_
                    refine SOps.q rfl (.plain rfl) rfl (q_pick_t rfl rfl g4 rfl) ?_
                    refine SOps.q rfl (.plain rfl) rfl (q_move rfl rfl) ?_
                    refine SOps.q rfl (.guard 23 26 true rfl rfl (gT g5)) rfl (q_field_ptr rfl rfl fd29_2) ?_
                    refine SOps.q rfl (.guard 23 26 true rfl rfl (gT g5)) rfl (q_load_ptr rfl rfl rfl rfl ty3) ?_
                    refine SOps.q rfl (.guard 23 26 true rfl rfl (gT g5)) rfl (q_leq rfl rfl rfl) ?_
                    refine SOps.q rfl (.plain rfl) rfl (q_pick_t rfl rfl g5 rfl) ?_
                    refine SOps.q rfl (.plain rfl) rfl (q_move rfl rfl) ?_
                    refine SOps.q rfl (.guard 28 31 true rfl rfl (gT g6)) rfl (q_field_ptr rfl rfl fd29_3) ?_
                    refine SOps.q rfl (.guard 28 31 true rfl rfl (gT g6)) rfl (q_load_ptr rfl rfl rfl rfl ty3) ?_
                    refine SOps.q rfl (.guard 28 31 true rfl rfl (gT g6)) rfl (q_geq rfl rfl rfl) ?_
                    refine SOps.q rfl (.plain rfl) rfl (q_pick_t rfl rfl g6 rfl) ?_
                    refine SOps.q rfl (.plain rfl) rfl (q_move rfl rfl) ?_
                    refine SOps.q rfl (.guard 33 36 true rfl rfl (gT g7)) rfl (q_field_ptr rfl rfl fd29_3) ?_
                    refine SOps.q rfl (.guard 33 36 true rfl rfl (gT g7)) rfl (q_load_ptr rfl rfl rfl rfl ty3) ?_
                    refine SOps.q rfl (.guard 33 36 true rfl rfl (gT g7)) rfl (q_leq rfl rfl rfl) ?_
                    refine SOps.q rfl (.plain rfl) rfl (q_pick_t rfl rfl g7 rfl) ?_
                    refine SOps.q rfl (.plain rfl) rfl (q_move rfl rfl) ?_
                    refine SOps.q rfl (.guard 38 41 true rfl rfl (gT g8)) rfl (q_field_ptr rfl rfl fd29_4) ?_
                    refine SOps.q rfl (.guard 38 41 true rfl rfl (gT g8)) rfl (q_load_ptr rfl rfl rfl rfl ty3) ?_
                    refine SOps.q rfl (.guard 38 41 true rfl rfl (gT g8)) rfl (q_geq rfl rfl rfl) ?_
                    refine SOps.q rfl (.plain rfl) rfl (q_pick_t rfl rfl g8 rfl) ?_
                    refine SOps.q rfl (.plain rfl) rfl (q_move rfl rfl) ?_
                    refine SOps.q rfl (.guard 43 46 true rfl rfl (gT g9)) rfl (q_field_ptr rfl rfl fd29_4) ?_
                    refine SOps.q rfl (.guard 43 46 true rfl rfl (gT g9)) rfl (q_load_ptr rfl rfl rfl rfl ty3) ?_
                    refine SOps.q rfl (.guard 43 46 true rfl rfl (gT g9)) rfl (q_leq rfl rfl rfl) ?_
                    refine SOps.q rfl (.plain rfl) rfl (q_pick_t rfl rfl g9 rfl) ?_
                    refine SOps.q rfl (.plain rfl) rfl (q_assign rfl rfl) ?_
                    refine SOps.sub (st' := ⟨[(2, .c (.bool (decide (a0_p.Conn ≤ 32))))], []⟩) (sub_gen [] rfl rfl ⟨zc rfl rfl, trivial⟩ trivial) ?_
                    refine SOps.nil ?_
                    refine SCode.ret ?_
                    obtain rfl := Option.some.inj h
                    exact ⟨⟨[(2, .c (.bool (decide (a0_p.Conn ≤ 32))))], []⟩, _, sub_gen [] rfl rfl ⟨zc rfl rfl, trivial⟩ trivial, resA1 (v := .c (.bool (decide (a0_p.Conn ≤ 32)))) rfl rfl, rfl⟩
                  refine SCode.region (show SOps _ _ _ [0, 1, 2, 3, 4, 5, 6, 7, 8, 9, 10, 11, 12, 13, 14, 15, 16, 17, 18, 19, 20, 21, 22, 23, 24, 25, 26, 27, 28, 29, 30, 31, 32, 33, 34, 35, 36, 37, 38, 39, 40, 41, 42, 43, 44, 45, 46, 47, 48] _ _ from ?_)
                  refine SOps.q rfl (.plain rfl) rfl (q_field_ptr rfl rfl fd29_0) ?_
                  refine SOps.q rfl (.plain rfl) rfl (q_load_ptr rfl rfl rfl rfl ty3) ?_
                  refine SOps.q rfl (.plain rfl) rfl (q_geq rfl rfl rfl) ?_
                  refine SOps.q rfl (.plain rfl) rfl (q_move rfl rfl) ?_
                  refine SOps.q rfl (.guard 3 6 true rfl rfl (gT g1)) rfl (q_field_ptr rfl rfl fd29_0) ?_
                  refine SOps.q rfl (.guard 3 6 true rfl rfl (gT g1)) rfl (q_load_ptr rfl rfl rfl rfl ty3) ?_
                  refine SOps.q rfl (.guard 3 6 true rfl rfl (gT g1)) rfl (q_leq rfl rfl rfl) ?_
                  refine SOps.q rfl (.plain rfl) rfl (q_pick_t rfl rfl g1 rfl) ?_
                  refine SOps.q rfl (.plain rfl) rfl (q_move rfl rfl) ?_
                  refine SOps.q rfl (.guard 8 11 true rfl rfl (gT g2)) rfl (q_field_ptr rfl rfl fd29_1) ?_
                  refine SOps.q rfl (.guard 8 11 true rfl rfl (gT g2)) rfl (q_load_ptr rfl rfl rfl rfl ty3) ?_
                  refine SOps.q rfl (.guard 8 11 true rfl rfl (gT g2)) rfl (q_geq rfl rfl rfl) ?_
                  refine SOps.q rfl (.plain rfl) rfl (q_pick_t rfl rfl g2 rfl) ?_
                  refine SOps.q rfl (.plain rfl) rfl (q_move rfl rfl) ?_
                  refine SOps.q rfl (.guard 13 16 true rfl rfl (gT g3)) rfl (q_field_ptr rfl rfl fd29_1) ?_
                  refine SOps.q rfl (.guard 13 16 true rfl rfl (gT g3)) rfl (q_load_ptr rfl rfl rfl rfl ty3) ?_
                  refine SOps.q rfl (.guard 13 16 true rfl rfl (gT g3)) rfl (q_leq rfl rfl rfl) ?_
                  refine SOps.q rfl (.plain rfl) rfl (q_pick_t rfl rfl g3 rfl) ?_
                  refine SOps.q rfl (.plain rfl) rfl (q_move rfl rfl) ?_
                  refine SOps.q rfl (.guard 18 21 true rfl rfl (gT g4)) rfl (q_field_ptr rfl rfl fd29_2) ?_
                  refine SOps.q rfl (.guard 18 21 true rfl rfl (gT g4)) rfl (q_load_ptr rfl rfl rfl rfl ty3) ?_
                  refine SOps.q rfl (.guard 18 21 true rfl rfl (gT g4)) rfl (q_geq rfl rfl rfl) ?_
                  refine SOps.q rfl (.plain rfl) rfl (q_pick_t rfl rfl g4 rfl) ?_
                  refine SOps.q rfl (.plain rfl) rfl (q_move rfl rfl) ?_
                  refine SOps.q rfl (.guard 23 26 true rfl rfl (gT g5)) rfl (q_field_ptr rfl rfl fd29_2) ?_
                  refine SOps.q rfl (.guard 23 26 true rfl rfl (gT g5)) rfl (q_load_ptr rfl rfl rfl rfl ty3) ?_
                  refine SOps.q rfl (.guard 23 26 true rfl rfl (gT g5)) rfl (q_leq rfl rfl rfl) ?_
                  refine SOps.q rfl (.plain rfl) rfl (q_pick_t rfl rfl g5 rfl) ?_
                  refine SOps.q rfl (.plain rfl) rfl (q_move rfl rfl) ?_
                  refine SOps.q rfl (.guard 28 31 true rfl rfl (gT g6)) rfl (q_field_ptr rfl rfl fd29_3) ?_
                  refine SOps.q rfl (.guard 28 31 true rfl rfl (gT g6)) rfl (q_load_ptr rfl rfl rfl rfl ty3) ?_
                  refine SOps.q rfl (.guard 28 31 true rfl rfl (gT g6)) rfl (q_geq rfl rfl rfl) ?_
                  refine SOps.q rfl (.plain rfl) rfl (q_pick_t rfl rfl g6 rfl) ?_
                  refine SOps.q rfl (.plain rfl) rfl (q_move rfl rfl) ?_
                  refine SOps.q rfl (.guard 33 36 true rfl rfl (gT g7)) rfl (q_field_ptr rfl rfl fd29_3) ?_
                  refine SOps.q rfl (.guard 33 36 true rfl rfl (gT g7)) rfl (q_load_ptr rfl rfl rfl rfl ty3) ?_
                  refine SOps.q rfl (.guard 33 36 true rfl rfl (gT g7)) rfl (q_leq rfl rfl rfl) ?_
                  refine SOps.q rfl (.plain rfl) rfl (q_pick_t rfl rfl g7 rfl) ?_
                  refine SOps.q rfl (.plain rfl) rfl (q_move rfl rfl) ?_
                  refine SOps.q rfl (.guard 38 41 true rfl rfl (gT g8)) rfl (q_field_ptr rfl rfl fd29_4) ?_
                  refine SOps.q rfl (.guard 38 41 true rfl rfl (gT g8)) rfl (q_load_ptr rfl rfl rfl rfl ty3) ?_
                  refine SOps.q rfl (.guard 38 41 true rfl rfl (gT g8)) rfl (q_geq rfl rfl rfl) ?_
                  refine SOps.q rfl (.plain rfl) rfl (q_pick_t rfl rfl g8 rfl) ?_
                  refine SOps.q rfl (.plain rfl) rfl (q_move rfl rfl) ?_
                  refine SOps.skip rfl 43 46 true rfl rfl (.inl (gF g9)) rfl ?_
                  refine SOps.skip rfl 43 46 true rfl rfl (.inl (gF g9)) rfl ?_
                  refine SOps.skip rfl 43 46 true rfl rfl (.inl (gF g9)) rfl ?_
                  refine SOps.q rfl (.plain rfl) rfl (q_pick_f rfl rfl g9 rfl) ?_
                  refine SOps.q rfl (.plain rfl) rfl (q_assign rfl rfl) ?_
                  refine SOps.sub (st' := ⟨[(2, .c (.bool false))], []⟩) (sub_gen [] rfl rfl ⟨zc rfl rfl, trivial⟩ trivial) ?_
                  refine SOps.nil ?_
                  refine SCode.ret ?_
                  obtain rfl := Option.some.inj h
                  exact ⟨⟨[(2, .c (.bool false))], []⟩, _, sub_gen [] rfl rfl ⟨zc rfl rfl, trivial⟩ trivial, resA1 (v := .c (.bool false)) rfl rfl, rfl⟩
                refine SCode.region (show SOps _ _ _ [0, 1, 2, 3, 4, 5, 6, 7, 8, 9, 10, 11, 12, 13, 14, 15, 16, 17, 18, 19, 20, 21, 22, 23, 24, 25, 26, 27, 28, 29, 30, 31, 32, 33, 34, 35, 36, 37, 38, 39, 40, 41, 42, 43, 44, 45, 46, 47, 48] _ _ from ?_)
                refine SOps.q rfl (.plain rfl) rfl (q_field_ptr rfl rfl fd29_0) ?_
                refine SOps.q rfl (.plain rfl) rfl (q_load_ptr rfl rfl rfl rfl ty3) ?_
                refine SOps.q rfl (.plain rfl) rfl (q_geq rfl rfl rfl) ?_
                refine SOps.q rfl (.plain rfl) rfl (q_move rfl rfl) ?_
                refine SOps.q rfl (.guard 3 6 true rfl rfl (gT g1)) rfl (q_field_ptr rfl rfl fd29_0) ?_
                refine SOps.q rfl (.guard 3 6 true rfl rfl (gT g1)) rfl (q_load_ptr rfl rfl rfl rfl ty3) ?_
                refine SOps.q rfl (.guard 3 6 true rfl rfl (gT g1)) rfl (q_leq rfl rfl rfl) ?_
                refine SOps.q rfl (.plain rfl) rfl (q_pick_t rfl rfl g1 rfl) ?_
                refine SOps.q rfl (.plain rfl) rfl (q_move rfl rfl) ?_
                refine SOps.q rfl (.guard 8 11 true rfl rfl (gT g2)) rfl (q_field_ptr rfl rfl fd29_1) ?_
                refine SOps.q rfl (.guard 8 11 true rfl rfl (gT g2)) rfl (q_load_ptr rfl rfl rfl rfl ty3) ?_
                refine SOps.q rfl (.guard 8 11 true rfl rfl (gT g2)) rfl (q_geq rfl rfl rfl) ?_
                refine SOps.q rfl (.plain rfl) rfl (q_pick_t rfl rfl g2 rfl) ?_
                refine SOps.q rfl (.plain rfl) rfl (q_move rfl rfl) ?_
                refine SOps.q rfl (.guard 13 16 true rfl rfl (gT g3)) rfl (q_field_ptr rfl rfl fd29_1) ?_
                refine SOps.q rfl (.guard 13 16 true rfl rfl (gT g3)) rfl (q_load_ptr rfl rfl rfl rfl ty3) ?_
                refine SOps.q rfl (.guard 13 16 true rfl rfl (gT g3)) rfl (q_leq rfl rfl rfl) ?_
                refine SOps.q rfl (.plain rfl) rfl (q_pick_t rfl rfl g3 rfl) ?_
                refine SOps.q rfl (.plain rfl) rfl (q_move rfl rfl) ?_
                refine SOps.q rfl (.guard 18 21 true rfl rfl (gT g4)) rfl (q_field_ptr rfl rfl fd29_2) ?_
                refine SOps.q rfl (.guard 18 21 true rfl rfl (gT g4)) rfl (q_load_ptr rfl rfl rfl rfl ty3) ?_
                refine SOps.q rfl (.guard 18 21 true rfl rfl (gT g4)) rfl (q_geq rfl rfl rfl) ?_
                refine SOps.q rfl (.plain rfl) rfl (q_pick_t rfl rfl g4 rfl) ?_
                refine SOps.q rfl (.plain rfl) rfl (q_move rfl rfl) ?_
                refine SOps.q rfl (.guard 23 26 true rfl rfl (gT g5)) rfl (q_field_ptr rfl rfl fd29_2) ?_
                refine SOps.q rfl (.guard 23 26 true rfl rfl (gT g5)) rfl (q_load_ptr rfl rfl rfl rfl ty3) ?_
                refine SOps.q rfl (.guard 23 26 true rfl rfl (gT g5)) rfl (q_leq rfl rfl rfl) ?_
                refine SOps.q rfl (.plain rfl) rfl (q_pick_t rfl rfl g5 rfl) ?_
                refine SOps.q rfl (.plain rfl) rfl (q_move rfl rfl) ?_
                refine SOps.q rfl (.guard 28 31 true rfl rfl (gT g6)) rfl (q_field_ptr rfl rfl fd29_3) ?_
                refine SOps.q rfl (.guard 28 31 true rfl rfl (gT g6)) rfl (q_load_ptr rfl rfl rfl rfl ty3) ?_
                refine SOps.q rfl (.guard 28 31 true rfl rfl (gT g6)) rfl (q_geq rfl rfl rfl) ?_
                refine SOps.q rfl (.plain rfl) rfl (q_pick_t rfl rfl g6 rfl) ?_
                refine SOps.q rfl (.plain rfl) rfl (q_move rfl rfl) ?_
                refine SOps.q rfl (.guard 33 36 true rfl rfl (gT g7)) rfl (q_field_ptr rfl rfl fd29_3) ?_
                refine SOps.q rfl (.guard 33 36 true rfl rfl (gT g7)) rfl (q_load_ptr rfl rfl rfl rfl ty3) ?_
                refine SOps.q rfl (.guard 33 36 true rfl rfl (gT g7)) rfl (q_leq rfl rfl rfl) ?_
                refine SOps.q rfl (.plain rfl) rfl (q_pick_t rfl rfl g7 rfl) ?_
                refine SOps.q rfl (.plain rfl) rfl (q_move rfl rfl) ?_
                refine SOps.skip rfl 38 41 true rfl rfl (.inl (gF g8)) rfl ?_
                refine SOps.skip rfl 38 41 true rfl rfl (.inl (gF g8)) rfl ?_
                refine SOps.skip rfl 38 41 true rfl rfl (.inl (gF g8)) rfl ?_
                refine SOps.q rfl (.plain rfl) rfl (q_pick_f rfl rfl g8 rfl) ?_
                refine SOps.q rfl (.plain rfl) rfl (q_move rfl rfl) ?_
                refine SOps.skip rfl 43 46 true rfl rfl (.inl rfl) rfl ?_
                refine SOps.skip rfl 43 46 true rfl rfl (.inl rfl) rfl ?_
                refine SOps.skip rfl 43 46 true rfl rfl (.inl rfl) rfl ?_
                refine SOps.q rfl (.plain rfl) rfl (q_pick_f rfl rfl rfl rfl) ?_
                refine SOps.q rfl (.plain rfl) rfl (q_assign rfl rfl) ?_
                refine SOps.sub (st' := ⟨[(2, .c (.bool false))], []⟩) (sub_gen [] rfl rfl ⟨zc rfl rfl, trivial⟩ trivial) ?_
                refine SOps.nil ?_
                refine SCode.ret ?_
                obtain rfl := Option.some.inj h
                exact ⟨⟨[(2, .c (.bool false))], []⟩, _, sub_gen [] rfl rfl ⟨zc rfl rfl, trivial⟩ trivial, resA1 (v := .c (.bool false)) rfl rfl, rfl⟩
              refine SCode.region (show SOps _ _ _ [0, 1, 2, 3, 4, 5, 6, 7, 8, 9, 10, 11, 12, 13, 14, 15, 16, 17, 18, 19, 20, 21, 22, 23, 24, 25, 26, 27, 28, 29, 30, 31, 32, 33, 34, 35, 36, 37, 38, 39, 40, 41, 42, 43, 44, 45, 46, 47, 48] _ _ from ?_)
              refine SOps.q rfl (.plain rfl) rfl (q_field_ptr rfl rfl fd29_0) ?_
              refine SOps.q rfl (.plain rfl) rfl (q_load_ptr rfl rfl rfl rfl ty3) ?_
              refine SOps.q rfl (.plain rfl) rfl (q_geq rfl rfl rfl) ?_
              refine SOps.q rfl (.plain rfl) rfl (q_move rfl rfl) ?_
              refine SOps.q rfl (.guard 3 6 true rfl rfl (gT g1)) rfl (q_field_ptr rfl rfl fd29_0) ?_
              refine SOps.q rfl (.guard 3 6 true rfl rfl (gT g1)) rfl (q_load_ptr rfl rfl rfl rfl ty3) ?_
              refine SOps.q rfl (.guard 3 6 true rfl rfl (gT g1)) rfl (q_leq rfl rfl rfl) ?_
              refine SOps.q rfl (.plain rfl) rfl (q_pick_t rfl rfl g1 rfl) ?_
              refine SOps.q rfl (.plain rfl) rfl (q_move rfl rfl) ?_
              refine SOps.q rfl (.guard 8 11 true rfl rfl (gT g2)) rfl (q_field_ptr rfl rfl fd29_1) ?_
              refine SOps.q rfl (.guard 8 11 true rfl rfl (gT g2)) rfl (q_load_ptr rfl rfl rfl rfl ty3) ?_
              refine SOps.q rfl (.guard 8 11 true rfl rfl (gT g2)) rfl (q_geq rfl rfl rfl) ?_
              refine SOps.q rfl (.plain rfl) rfl (q_pick_t rfl rfl g2 rfl) ?_
              refine SOps.q rfl (.plain rfl) rfl (q_move rfl rfl) ?_
              refine SOps.q rfl (.guard 13 16 true rfl rfl (gT g3)) rfl (q_field_ptr rfl rfl fd29_1) ?_
              refine SOps.q rfl (.guard 13 16 true rfl rfl (gT g3)) rfl (q_load_ptr rfl rfl rfl rfl ty3) ?_
              refine SOps.q rfl (.guard 13 16 true rfl rfl (gT g3)) rfl (q_leq rfl rfl rfl) ?_
              refine SOps.q rfl (.plain rfl) rfl (q_pick_t rfl rfl g3 rfl) ?_
              refine SOps.q rfl (.plain rfl) rfl (q_move rfl rfl) ?_
              refine SOps.q rfl (.guard 18 21 true rfl rfl (gT g4)) rfl (q_field_ptr rfl rfl fd29_2) ?_
              refine SOps.q rfl (.guard 18 21 true rfl rfl (gT g4)) rfl (q_load_ptr rfl rfl rfl rfl ty3) ?_
              refine SOps.q rfl (.guard 18 21 true rfl rfl (gT g4)) rfl (q_geq rfl rfl rfl) ?_
              refine SOps.q rfl (.plain rfl) rfl (q_pick_t rfl rfl g4 rfl) ?_
              refine SOps.q rfl (.plain rfl) rfl (q_move rfl rfl) ?_
              refine SOps.q rfl (.guard 23 26 true rfl rfl (gT g5)) rfl (q_field_ptr rfl rfl fd29_2) ?_
              refine SOps.q rfl (.guard 23 26 true rfl rfl (gT g5)) rfl (q_load_ptr rfl rfl rfl rfl ty3) ?_
              refine SOps.q rfl (.guard 23 26 true rfl rfl (gT g5)) rfl (q_leq rfl rfl rfl) ?_
              refine SOps.q rfl (.plain rfl) rfl (q_pick_t rfl rfl g5 rfl) ?_
              refine SOps.q rfl (.plain rfl) rfl (q_move rfl rfl) ?_
              refine SOps.q rfl (.guard 28 31 true rfl rfl (gT g6)) rfl (q_field_ptr rfl rfl fd29_3) ?_
              refine SOps.q rfl (.guard 28 31 true rfl rfl (gT g6)) rfl (q_load_ptr rfl rfl rfl rfl ty3) ?_
              refine SOps.q rfl (.guard 28 31 true rfl rfl (gT g6)) rfl (q_geq rfl rfl rfl) ?_
              refine SOps.q rfl (.plain rfl) rfl (q_pick_t rfl rfl g6 rfl) ?_
              refine SOps.q rfl (.plain rfl) rfl (q_move rfl rfl) ?_
              refine SOps.skip rfl 33 36 true rfl rfl (.inl (gF g7)) rfl ?_
              refine SOps.skip rfl 33 36 true rfl rfl (.inl (gF g7)) rfl ?_
              refine SOps.skip rfl 33 36 true rfl rfl (.inl (gF g7)) rfl ?_
              refine SOps.q rfl (.plain rfl) rfl (q_pick_f rfl rfl g7 rfl) ?_
              refine SOps.q rfl (.plain rfl) rfl (q_move rfl rfl) ?_
              refine SOps.skip rfl 38 41 true rfl rfl (.inl rfl) rfl ?_
              refine SOps.skip rfl 38 41 true rfl rfl (.inl rfl) rfl ?_
              refine SOps.skip rfl 38 41 true rfl rfl (.inl rfl) rfl ?_
              refine SOps.q rfl (.plain rfl) rfl (q_pick_f rfl rfl rfl rfl) ?_
              refine SOps.q rfl (.plain rfl) rfl (q_move rfl rfl) ?_
              refine SOps.skip rfl 43 46 true rfl rfl (.inl rfl) rfl ?_
              refine SOps.skip rfl 43 46 true rfl rfl (.inl rfl) rfl ?_
              refine SOps.skip rfl 43 46 true rfl rfl (.inl rfl) rfl ?_
              refine SOps.q rfl (.plain rfl) rfl (q_pick_f rfl rfl rfl rfl) ?_
              refine SOps.q rfl (.plain rfl) rfl (q_assign rfl rfl) ?_
              refine SOps.sub (st' := ⟨[(2, .c (.bool false))], []⟩) (sub_gen [] rfl rfl ⟨zc rfl rfl, trivial⟩ trivial) ?_
              refine SOps.nil ?_
              refine SCode.ret ?_
              obtain rfl := Option.some.inj h
              exact ⟨⟨[(2, .c (.bool false))], []⟩, _, sub_gen [] rfl rfl ⟨zc rfl rfl, trivial⟩ trivial, resA1 (v := .c (.bool false)) rfl rfl, rfl⟩
            refine SCode.region (show SOps _ _ _ [0, 1, 2, 3, 4, 5, 6, 7, 8, 9, 10, 11, 12, 13, 14, 15, 16, 17, 18, 19, 20, 21, 22, 23, 24, 25, 26, 27, 28, 29, 30, 31, 32, 33, 34, 35, 36, 37, 38, 39, 40, 41, 42, 43, 44, 45, 46, 47, 48] _ _ from ?_)
            refine SOps.q rfl (.plain rfl) rfl (q_field_ptr rfl rfl fd29_0) ?_
            refine SOps.q rfl (.plain rfl) rfl (q_load_ptr rfl rfl rfl rfl ty3) ?_
            refine SOps.q rfl (.plain rfl) rfl (q_geq rfl rfl rfl) ?_
            refine SOps.q rfl (.plain rfl) rfl (q_move rfl rfl) ?_
            refine SOps.q rfl (.guard 3 6 true rfl rfl (gT g1)) rfl (q_field_ptr rfl rfl fd29_0) ?_
            refine SOps.q rfl (.guard 3 6 true rfl rfl (gT g1)) rfl (q_load_ptr rfl rfl rfl rfl ty3) ?_
            refine SOps.q rfl (.guard 3 6 true rfl rfl (gT g1)) rfl (q_leq rfl rfl rfl) ?_
            refine SOps.q rfl (.plain rfl) rfl (q_pick_t rfl rfl g1 rfl) ?_
            refine SOps.q rfl (.plain rfl) rfl (q_move rfl rfl) ?_
            refine SOps.q rfl (.guard 8 11 true rfl rfl (gT g2)) rfl (q_field_ptr rfl rfl fd29_1) ?_
            refine SOps.q rfl (.guard 8 11 true rfl rfl (gT g2)) rfl (q_load_ptr rfl rfl rfl rfl ty3) ?_
            refine SOps.q rfl (.guard 8 11 true rfl rfl (gT g2)) rfl (q_geq rfl rfl rfl) ?_
            refine SOps.q rfl (.plain rfl) rfl (q_pick_t rfl rfl g2 rfl) ?_
            refine SOps.q rfl (.plain rfl) rfl (q_move rfl rfl) ?_
            refine SOps.q rfl (.guard 13 16 true rfl rfl (gT g3)) rfl (q_field_ptr rfl rfl fd29_1) ?_
            refine SOps.q rfl (.guard 13 16 true rfl rfl (gT g3)) rfl (q_load_ptr rfl rfl rfl rfl ty3) ?_
            refine SOps.q rfl (.guard 13 16 true rfl rfl (gT g3)) rfl (q_leq rfl rfl rfl) ?_
            refine SOps.q rfl (.plain rfl) rfl (q_pick_t rfl rfl g3 rfl) ?_
            refine SOps.q rfl (.plain rfl) rfl (q_move rfl rfl) ?_
            refine SOps.q rfl (.guard 18 21 true rfl rfl (gT g4)) rfl (q_field_ptr rfl rfl fd29_2) ?_
            refine SOps.q rfl (.guard 18 21 true rfl rfl (gT g4)) rfl (q_load_ptr rfl rfl rfl rfl ty3) ?_
            refine SOps.q rfl (.guard 18 21 true rfl rfl (gT g4)) rfl (q_geq rfl rfl rfl) ?_
            refine SOps.q rfl (.plain rfl) rfl (q_pick_t rfl rfl g4 rfl) ?_
            refine SOps.q rfl (.plain rfl) rfl (q_move rfl rfl) ?_
            refine SOps.q rfl (.guard 23 26 true rfl rfl (gT g5)) rfl (q_field_ptr rfl rfl fd29_2) ?_
            refine SOps.q rfl (.guard 23 26 true rfl rfl (gT g5)) rfl (q_load_ptr rfl rfl rfl rfl ty3) ?_
            refine SOps.q rfl (.guard 23 26 true rfl rfl (gT g5)) rfl (q_leq rfl rfl rfl) ?_
            refine SOps.q rfl (.plain rfl) rfl (q_pick_t rfl rfl g5 rfl) ?_
            refine SOps.q rfl (.plain rfl) rfl (q_move rfl rfl) ?_
            refine SOps.skip rfl 28 31 true rfl rfl (.inl (gF g6)) rfl ?_
            refine SOps.skip rfl 28 31 true rfl rfl (.inl (gF g6)) rfl ?_
            refine SOps.skip rfl 28 31 true rfl rfl (.inl (gF g6)) rfl ?_
            refine SOps.q rfl (.plain rfl) rfl (q_pick_f rfl rfl g6 rfl) ?_
            refine SOps.q rfl (.plain rfl) rfl (q_move rfl rfl) ?_
            refine SOps.skip rfl 33 36 true rfl rfl (.inl rfl) rfl ?_
            refine SOps.skip rfl 33 36 true rfl rfl (.inl rfl) rfl ?_
            refine SOps.skip rfl 33 36 true rfl rfl (.inl rfl) rfl ?_
            refine SOps.q rfl (.plain rfl) rfl (q_pick_f rfl rfl rfl rfl) ?_
            refine SOps.q rfl (.plain rfl) rfl (q_move rfl rfl) ?_
            refine SOps.skip rfl 38 41 true rfl rfl (.inl rfl) rfl ?_
            refine SOps.skip rfl 38 41 true rfl rfl (.inl rfl) rfl ?_
            refine SOps.skip rfl 38 41 true rfl rfl (.inl rfl) rfl ?_
            refine SOps.q rfl (.plain rfl) rfl (q_pick_f rfl rfl rfl rfl) ?_
            refine SOps.q rfl (.plain rfl) rfl (q_move rfl rfl) ?_
            refine SOps.skip rfl 43 46 true rfl rfl (.inl rfl) rfl ?_
            refine SOps.skip rfl 43 46 true rfl rfl (.inl rfl) rfl ?_
            refine SOps.skip rfl 43 46 true rfl rfl (.inl rfl) rfl ?_
            refine SOps.q rfl (.plain rfl) rfl (q_pick_f rfl rfl rfl rfl) ?_
            refine SOps.q rfl (.plain rfl) rfl (q_assign rfl rfl) ?_
            refine SOps.sub (st' := ⟨[(2, .c (.bool false))], []⟩) (sub_gen [] rfl rfl ⟨zc rfl rfl, trivial⟩ trivial) ?_
            refine SOps.nil ?_
            refine SCode.ret ?_
            obtain rfl := Option.some.inj h
            exact ⟨⟨[(2, .c (.bool false))], []⟩, _, sub_gen [] rfl rfl ⟨zc rfl rfl, trivial⟩ trivial, resA1 (v := .c (.bool false)) rfl rfl, rfl⟩
          refine SCode.region (show SOps _ _ _ [0, 1, 2, 3, 4, 5, 6, 7, 8, 9, 10, 11, 12, 13, 14, 15, 16, 17, 18, 19, 20, 21, 22, 23, 24, 25, 26, 27, 28, 29, 30, 31, 32, 33, 34, 35, 36, 37, 38, 39, 40, 41, 42, 43, 44, 45, 46, 47, 48] _ _ from ?_)
          refine SOps.q rfl (.plain rfl) rfl (q_field_ptr rfl rfl fd29_0) ?_
          refine SOps.q rfl (.plain rfl) rfl (q_load_ptr rfl rfl rfl rfl ty3) ?_
          refine SOps.q rfl (.plain rfl) rfl (q_geq rfl rfl rfl) ?_
          refine SOps.q rfl (.plain rfl) rfl (q_move rfl rfl) ?_
          refine SOps.q rfl (.guard 3 6 true rfl rfl (gT g1)) rfl (q_field_ptr rfl rfl fd29_0) ?_
          refine SOps.q rfl (.guard 3 6 true rfl rfl (gT g1)) rfl (q_load_ptr rfl rfl rfl rfl ty3) ?_
          refine SOps.q rfl (.guard 3 6 true rfl rfl (gT g1)) rfl (q_leq rfl rfl rfl) ?_
          refine SOps.q rfl (.plain rfl) rfl (q_pick_t rfl rfl g1 rfl) ?_
          refine SOps.q rfl (.plain rfl) rfl (q_move rfl rfl) ?_
          refine SOps.q rfl (.guard 8 11 true rfl rfl (gT g2)) rfl (q_field_ptr rfl rfl fd29_1) ?_
          refine SOps.q rfl (.guard 8 11 true rfl rfl (gT g2)) rfl (q_load_ptr rfl rfl rfl rfl ty3) ?_
          refine SOps.q rfl (.guard 8 11 true rfl rfl (gT g2)) rfl (q_geq rfl rfl rfl) ?_
          refine SOps.q rfl (.plain rfl) rfl (q_pick_t rfl rfl g2 rfl) ?_
          refine SOps.q rfl (.plain rfl) rfl (q_move rfl rfl) ?_
          refine SOps.q rfl (.guard 13 16 true rfl rfl (gT g3)) rfl (q_field_ptr rfl rfl fd29_1) ?_
          refine SOps.q rfl (.guard 13 16 true rfl rfl (gT g3)) rfl (q_load_ptr rfl rfl rfl rfl ty3) ?_
          refine SOps.q rfl (.guard 13 16 true rfl rfl (gT g3)) rfl (q_leq rfl rfl rfl) ?_
          refine SOps.q rfl (.plain rfl) rfl (q_pick_t rfl rfl g3 rfl) ?_
          refine SOps.q rfl (.plain rfl) rfl (q_move rfl rfl) ?_
          refine SOps.q rfl (.guard 18 21 true rfl rfl (gT g4)) rfl (q_field_ptr rfl rfl fd29_2) ?_
          refine SOps.q rfl (.guard 18 21 true rfl rfl (gT g4)) rfl (q_load_ptr rfl rfl rfl rfl ty3) ?_
          refine SOps.q rfl (.guard 18 21 true rfl rfl (gT g4)) rfl (q_geq rfl rfl rfl) ?_
          refine SOps.q rfl (.plain rfl) rfl (q_pick_t rfl rfl g4 rfl) ?_
          refine SOps.q rfl (.plain rfl) rfl (q_move rfl rfl) ?_
          refine SOps.skip rfl 23 26 true rfl rfl (.inl (gF g5)) rfl ?_
          refine SOps.skip rfl 23 26 true rfl rfl (.inl (gF g5)) rfl ?_
          refine SOps.skip rfl 23 26 true rfl rfl (.inl (gF g5)) rfl ?_
          refine SOps.q rfl (.plain rfl) rfl (q_pick_f rfl rfl g5 rfl) ?_
          refine SOps.q rfl (.plain rfl) rfl (q_move rfl rfl) ?_
          refine SOps.skip rfl 28 31 true rfl rfl (.inl rfl) rfl ?_
          refine SOps.skip rfl 28 31 true rfl rfl (.inl rfl) rfl ?_
          refine SOps.skip rfl 28 31 true rfl rfl (.inl rfl) rfl ?_
          refine SOps.q rfl (.plain rfl) rfl (q_pick_f rfl rfl rfl rfl) ?_
          refine SOps.q rfl (.plain rfl) rfl (q_move rfl rfl) ?_
          refine SOps.skip rfl 33 36 true rfl rfl (.inl rfl) rfl ?_
          refine SOps.skip rfl 33 36 true rfl rfl (.inl rfl) rfl ?_
          refine SOps.skip rfl 33 36 true rfl rfl (.inl rfl) rfl ?_
          refine SOps.q rfl (.plain rfl) rfl (q_pick_f rfl rfl rfl rfl) ?_
          refine SOps.q rfl (.plain rfl) rfl (q_move rfl rfl) ?_
          refine SOps.skip rfl 38 41 true rfl rfl (.inl rfl) rfl ?_
          refine SOps.skip rfl 38 41 true rfl rfl (.inl rfl) rfl ?_
          refine SOps.skip rfl 38 41 true rfl rfl (.inl rfl) rfl ?_
          refine SOps.q rfl (.plain rfl) rfl (q_pick_f rfl rfl rfl rfl) ?_
          refine SOps.q rfl (.plain rfl) rfl (q_move rfl rfl) ?_
          refine SOps.skip rfl 43 46 true rfl rfl (.inl rfl) rfl ?_
          refine SOps.skip rfl 43 46 true rfl rfl (.inl rfl) rfl ?_
          refine SOps.skip rfl 43 46 true rfl rfl (.inl rfl) rfl ?_
          refine SOps.q rfl (.plain rfl) rfl (q_pick_f rfl rfl rfl rfl) ?_
          refine SOps.q rfl (.plain rfl) rfl (q_assign rfl rfl) ?_
          refine SOps.sub (st' := ⟨[(2, .c (.bool false))], []⟩) (sub_gen [] rfl rfl ⟨zc rfl rfl, trivial⟩ trivial) ?_
          refine SOps.nil ?_
          refine SCode.ret ?_
          obtain rfl := Option.some.inj h
          exact ⟨⟨[(2, .c (.bool false))], []⟩, _, sub_gen [] rfl rfl ⟨zc rfl rfl, trivial⟩ trivial, resA1 (v := .c (.bool false)) rfl rfl, rfl⟩
        refine SCode.region (show SOps _ _ _ [0, 1, 2, 3, 4, 5, 6, 7, 8, 9, 10, 11, 12, 13, 14, 15, 16, 17, 18, 19, 20, 21, 22, 23, 24, 25, 26, 27, 28, 29, 30, 31, 32, 33, 34, 35, 36, 37, 38, 39, 40, 41, 42, 43, 44, 45, 46, 47, 48] _ _ from ?_)
        refine SOps.q rfl (.plain rfl) rfl (q_field_ptr rfl rfl fd29_0) ?_
        refine SOps.q rfl (.plain rfl) rfl (q_load_ptr rfl rfl rfl rfl ty3) ?_
        refine SOps.q rfl (.plain rfl) rfl (q_geq rfl rfl rfl) ?_
        refine SOps.q rfl (.plain rfl) rfl (q_move rfl rfl) ?_
        refine SOps.q rfl (.guard 3 6 true rfl rfl (gT g1)) rfl (q_field_ptr rfl rfl fd29_0) ?_
        refine SOps.q rfl (.guard 3 6 true rfl rfl (gT g1)) rfl (q_load_ptr rfl rfl rfl rfl ty3) ?_
        refine SOps.q rfl (.guard 3 6 true rfl rfl (gT g1)) rfl (q_leq rfl rfl rfl) ?_
        refine SOps.q rfl (.plain rfl) rfl (q_pick_t rfl rfl g1 rfl) ?_
        refine SOps.q rfl (.plain rfl) rfl (q_move rfl rfl) ?_
        refine SOps.q rfl (.guard 8 11 true rfl rfl (gT g2)) rfl (q_field_ptr rfl rfl fd29_1) ?_
        refine SOps.q rfl (.guard 8 11 true rfl rfl (gT g2)) rfl (q_load_ptr rfl rfl rfl rfl ty3) ?_
        refine SOps.q rfl (.guard 8 11 true rfl rfl (gT g2)) rfl (q_geq rfl rfl rfl) ?_
        refine SOps.q rfl (.plain rfl) rfl (q_pick_t rfl rfl g2 rfl) ?_
        refine SOps.q rfl (.plain rfl) rfl (q_move rfl rfl) ?_
        refine SOps.q rfl (.guard 13 16 true rfl rfl (gT g3)) rfl (q_field_ptr rfl rfl fd29_1) ?_
        refine SOps.q rfl (.guard 13 16 true rfl rfl (gT g3)) rfl (q_load_ptr rfl rfl rfl rfl ty3) ?_
        refine SOps.q rfl (.guard 13 16 true rfl rfl (gT g3)) rfl (q_leq rfl rfl rfl) ?_
        refine SOps.q rfl (.plain rfl) rfl (q_pick_t rfl rfl g3 rfl) ?_
        refine SOps.q rfl (.plain rfl) rfl (q_move rfl rfl) ?_
        refine SOps.skip rfl 18 21 true rfl rfl (.inl (gF g4)) rfl ?_
        refine SOps.skip rfl 18 21 true rfl rfl (.inl (gF g4)) rfl ?_
        refine SOps.skip rfl 18 21 true rfl rfl (.inl (gF g4)) rfl ?_
        refine SOps.q rfl (.plain rfl) rfl (q_pick_f rfl rfl g4 rfl) ?_
        refine SOps.q rfl (.plain rfl) rfl (q_move rfl rfl) ?_
        refine SOps.skip rfl 23 26 true rfl rfl (.inl rfl) rfl ?_
        refine SOps.skip rfl 23 26 true rfl rfl (.inl rfl) rfl ?_
        refine SOps.skip rfl 23 26 true rfl rfl (.inl rfl) rfl ?_
        refine SOps.q rfl (.plain rfl) rfl (q_pick_f rfl rfl rfl rfl) ?_
        refine SOps.q rfl (.plain rfl) rfl (q_move rfl rfl) ?_
        refine SOps.skip rfl 28 31 true rfl rfl (.inl rfl) rfl ?_
        refine SOps.skip rfl 28 31 true rfl rfl (.inl rfl) rfl ?_
        refine SOps.skip rfl 28 31 true rfl rfl (.inl rfl) rfl ?_
        refine SOps.q rfl (.plain rfl) rfl (q_pick_f rfl rfl rfl rfl) ?_
        refine SOps.q rfl (.plain rfl) rfl (q_move rfl rfl) ?_
        refine SOps.skip rfl 33 36 true rfl rfl (.inl rfl) rfl ?_
        refine SOps.skip rfl 33 36 true rfl rfl (.inl rfl) rfl ?_
        refine SOps.skip rfl 33 36 true rfl rfl (.inl rfl) rfl ?_
        refine SOps.q rfl (.plain rfl) rfl (q_pick_f rfl rfl rfl rfl) ?_
        refine SOps.q rfl (.plain rfl) rfl (q_move rfl rfl) ?_
        refine SOps.skip rfl 38 41 true rfl rfl (.inl rfl) rfl ?_
        refine SOps.skip rfl 38 41 true rfl rfl (.inl rfl) rfl ?_
        refine SOps.skip rfl 38 41 true rfl rfl (.inl rfl) rfl ?_
        refine SOps.q rfl (.plain rfl) rfl (q_pick_f rfl rfl rfl rfl) ?_
        refine SOps.q rfl (.plain rfl) rfl (q_move rfl rfl) ?_
        refine SOps.skip rfl 43 46 true rfl rfl (.inl rfl) rfl ?_
        refine SOps.skip rfl 43 46 true rfl rfl (.inl rfl) rfl ?_
        refine SOps.skip rfl 43 46 true rfl rfl (.inl rfl) rfl ?_
        refine SOps.q rfl (.plain rfl) rfl (q_pick_f rfl rfl rfl rfl) ?_
        refine SOps.q rfl (.plain rfl) rfl (q_assign rfl rfl) ?_
        refine SOps.sub (st' := ⟨[(2, .c (.bool false))], []⟩) (sub_gen [] rfl rfl ⟨zc rfl rfl, trivial⟩ trivial) ?_
        refine SOps.nil ?_
        refine SCode.ret ?_
        obtain rfl := Option.some.inj h
        exact ⟨⟨[(2, .c (.bool false))], []⟩, _, sub_gen [] rfl rfl ⟨zc rfl rfl, trivial⟩ trivial, resA1 (v := .c (.bool false)) rfl rfl, rfl⟩
      refine SCode.region (show SOps _ _ _ [0, 1, 2, 3, 4, 5, 6, 7, 8, 9, 10, 11, 12, 13, 14, 15, 16, 17, 18, 19, 20, 21, 22, 23, 24, 25, 26, 27, 28, 29, 30, 31, 32, 33, 34, 35, 36, 37, 38, 39, 40, 41, 42, 43, 44, 45, 46, 47, 48] _ _ from ?_)
      refine SOps.q rfl (.plain rfl) rfl (q_field_ptr rfl rfl fd29_0) ?_
      refine SOps.q rfl (.plain rfl) rfl (q_load_ptr rfl rfl rfl rfl ty3) ?_
      refine SOps.q rfl (.plain rfl) rfl (q_geq rfl rfl rfl) ?_
      refine SOps.q rfl (.plain rfl) rfl (q_move rfl rfl) ?_
      refine SOps.q rfl (.guard 3 6 true rfl rfl (gT g1)) rfl (q_field_ptr rfl rfl fd29_0) ?_
      refine SOps.q rfl (.guard 3 6 true rfl rfl (gT g1)) rfl (q_load_ptr rfl rfl rfl rfl ty3) ?_
      refine SOps.q rfl (.guard 3 6 true rfl rfl (gT g1)) rfl (q_leq rfl rfl rfl) ?_
      refine SOps.q rfl (.plain rfl) rfl (q_pick_t rfl rfl g1 rfl) ?_
      refine SOps.q rfl (.plain rfl) rfl (q_move rfl rfl) ?_
      refine SOps.q rfl (.guard 8 11 true rfl rfl (gT g2)) rfl (q_field_ptr rfl rfl fd29_1) ?_
      refine SOps.q rfl (.guard 8 11 true rfl rfl (gT g2)) rfl (q_load_ptr rfl rfl rfl rfl ty3) ?_
      refine SOps.q rfl (.guard 8 11 true rfl rfl (gT g2)) rfl (q_geq rfl rfl rfl) ?_
      refine SOps.q rfl (.plain rfl) rfl (q_pick_t rfl rfl g2 rfl) ?_
      refine SOps.q rfl (.plain rfl) rfl (q_move rfl rfl) ?_
      refine SOps.skip rfl 13 16 true rfl rfl (.inl (gF g3)) rfl ?_
      refine SOps.skip rfl 13 16 true rfl rfl (.inl (gF g3)) rfl ?_
      refine SOps.skip rfl 13 16 true rfl rfl (.inl (gF g3)) rfl ?_
      refine SOps.q rfl (.plain rfl) rfl (q_pick_f rfl rfl g3 rfl) ?_
      refine SOps.q rfl (.plain rfl) rfl (q_move rfl rfl) ?_
      refine SOps.skip rfl 18 21 true rfl rfl (.inl rfl) rfl ?_
      refine SOps.skip rfl 18 21 true rfl rfl (.inl rfl) rfl ?_
      refine SOps.skip rfl 18 21 true rfl rfl (.inl rfl) rfl ?_
      refine SOps.q rfl (.plain rfl) rfl (q_pick_f rfl rfl rfl rfl) ?_
      refine SOps.q rfl (.plain rfl) rfl (q_move rfl rfl) ?_
      refine SOps.skip rfl 23 26 true rfl rfl (.inl rfl) rfl ?_
      refine SOps.skip rfl 23 26 true rfl rfl (.inl rfl) rfl ?_
      refine SOps.skip rfl 23 26 true rfl rfl (.inl rfl) rfl ?_
      refine SOps.q rfl (.plain rfl) rfl (q_pick_f rfl rfl rfl rfl) ?_
      refine SOps.q rfl (.plain rfl) rfl (q_move rfl rfl) ?_
      refine SOps.skip rfl 28 31 true rfl rfl (.inl rfl) rfl ?_
      refine SOps.skip rfl 28 31 true rfl rfl (.inl rfl) rfl ?_
      refine SOps.skip rfl 28 31 true rfl rfl (.inl rfl) rfl ?_
      refine SOps.q rfl (.plain rfl) rfl (q_pick_f rfl rfl rfl rfl) ?_
      refine SOps.q rfl (.plain rfl) rfl (q_move rfl rfl) ?_
      refine SOps.skip rfl 33 36 true rfl rfl (.inl rfl) rfl ?_
      refine SOps.skip rfl 33 36 true rfl rfl (.inl rfl) rfl ?_
      refine SOps.skip rfl 33 36 true rfl rfl (.inl rfl) rfl ?_
      refine SOps.q rfl (.plain rfl) rfl (q_pick_f rfl rfl rfl rfl) ?_
      refine SOps.q rfl (.plain rfl) rfl (q_move rfl rfl) ?_
      refine SOps.skip rfl 38 41 true rfl rfl (.inl rfl) rfl ?_
      refine SOps.skip rfl 38 41 true rfl rfl (.inl rfl) rfl ?_
      refine SOps.skip rfl 38 41 true rfl rfl (.inl rfl) rfl ?_
      refine SOps.q rfl (.plain rfl) rfl (q_pick_f rfl rfl rfl rfl) ?_
      refine SOps.q rfl (.plain rfl) rfl (q_move rfl rfl) ?_
      refine SOps.skip rfl 43 46 true rfl rfl (.inl rfl) rfl ?_
      refine SOps.skip rfl 43 46 true rfl rfl (.inl rfl) rfl ?_
      refine SOps.skip rfl 43 46 true rfl rfl (.inl rfl) rfl ?_
      refine SOps.q rfl (.plain rfl) rfl (q_pick_f rfl rfl rfl rfl) ?_
      refine SOps.q rfl (.plain rfl) rfl (q_assign rfl rfl) ?_
      refine SOps.sub (st' := ⟨[(2, .c (.bool false))], []⟩) (sub_gen [] rfl rfl ⟨zc rfl rfl, trivial⟩ trivial) ?_
      refine SOps.nil ?_
      refine SCode.ret ?_
      obtain rfl := Option.some.inj h
      exact ⟨⟨[(2, .c (.bool false))], []⟩, _, sub_gen [] rfl rfl ⟨zc rfl rfl, trivial⟩ trivial, resA1 (v := .c (.bool false)) rfl rfl, rfl⟩
    refine SCode.region (show SOps _ _ _ [0, 1, 2, 3, 4, 5, 6, 7, 8, 9, 10, 11, 12, 13, 14, 15, 16, 17, 18, 19, 20, 21, 22, 23, 24, 25, 26, 27, 28, 29, 30, 31, 32, 33, 34, 35, 36, 37, 38, 39, 40, 41, 42, 43, 44, 45, 46, 47, 48] _ _ from ?_)
    refine SOps.q rfl (.plain rfl) rfl (q_field_ptr rfl rfl fd29_0) ?_
    refine SOps.q rfl (.plain rfl) rfl (q_load_ptr rfl rfl rfl rfl ty3) ?_
    refine SOps.q rfl (.plain rfl) rfl (q_geq rfl rfl rfl) ?_
    refine SOps.q rfl (.plain rfl) rfl (q_move rfl rfl) ?_
    refine SOps.q rfl (.guard 3 6 true rfl rfl (gT g1)) rfl (q_field_ptr rfl rfl fd29_0) ?_
    refine SOps.q rfl (.guard 3 6 true rfl rfl (gT g1)) rfl (q_load_ptr rfl rfl rfl rfl ty3) ?_
    refine SOps.q rfl (.guard 3 6 true rfl rfl (gT g1)) rfl (q_leq rfl rfl rfl) ?_
    refine SOps.q rfl (.plain rfl) rfl (q_pick_t rfl rfl g1 rfl) ?_
    refine SOps.q rfl (.plain rfl) rfl (q_move rfl rfl) ?_
    refine SOps.skip rfl 8 11 true rfl rfl (.inl (gF g2)) rfl ?_
    refine SOps.skip rfl 8 11 true rfl rfl (.inl (gF g2)) rfl ?_
    refine SOps.skip rfl 8 11 true rfl rfl (.inl (gF g2)) rfl ?_
    refine SOps.q rfl (.plain rfl) rfl (q_pick_f rfl rfl g2 rfl) ?_
    refine SOps.q rfl (.plain rfl) rfl (q_move rfl rfl) ?_
    refine SOps.skip rfl 13 16 true rfl rfl (.inl rfl) rfl ?_
    refine SOps.skip rfl 13 16 true rfl rfl (.inl rfl) rfl ?_
    refine SOps.skip rfl 13 16 true rfl rfl (.inl rfl) rfl ?_
    refine SOps.q rfl (.plain rfl) rfl (q_pick_f rfl rfl rfl rfl) ?_
    refine SOps.q rfl (.plain rfl) rfl (q_move rfl rfl) ?_
    refine SOps.skip rfl 18 21 true rfl rfl (.inl rfl) rfl ?_
    refine SOps.skip rfl 18 21 true rfl rfl (.inl rfl) rfl ?_
    refine SOps.skip rfl 18 21 true rfl rfl (.inl rfl) rfl ?_
    refine SOps.q rfl (.plain rfl) rfl (q_pick_f rfl rfl rfl rfl) ?_
    refine SOps.q rfl (.plain rfl) rfl (q_move rfl rfl) ?_
    refine SOps.skip rfl 23 26 true rfl rfl (.inl rfl) rfl ?_
    refine SOps.skip rfl 23 26 true rfl rfl (.inl rfl) rfl ?_
    refine SOps.skip rfl 23 26 true rfl rfl (.inl rfl) rfl ?_
    refine SOps.q rfl (.plain rfl) rfl (q_pick_f rfl rfl rfl rfl) ?_
    refine SOps.q rfl (.plain rfl) rfl (q_move rfl rfl) ?_
    refine SOps.skip rfl 28 31 true rfl rfl (.inl rfl) rfl ?_
    refine SOps.skip rfl 28 31 true rfl rfl (.inl rfl) rfl ?_
    refine SOps.skip rfl 28 31 true rfl rfl (.inl rfl) rfl ?_
    refine SOps.q rfl (.plain rfl) rfl (q_pick_f rfl rfl rfl rfl) ?_
    refine SOps.q rfl (.plain rfl) rfl (q_move rfl rfl) ?_
    refine SOps.skip rfl 33 36 true rfl rfl (.inl rfl) rfl ?_
    refine SOps.skip rfl 33 36 true rfl rfl (.inl rfl) rfl ?_
    refine SOps.skip rfl 33 36 true rfl rfl (.inl rfl) rfl ?_
    refine SOps.q rfl (.plain rfl) rfl (q_pick_f rfl rfl rfl rfl) ?_
    refine SOps.q rfl (.plain rfl) rfl (q_move rfl rfl) ?_
    refine SOps.skip rfl 38 41 true rfl rfl (.inl rfl) rfl ?_
    refine SOps.skip rfl 38 41 true rfl rfl (.inl rfl) rfl ?_
    refine SOps.skip rfl 38 41 true rfl rfl (.inl rfl) rfl ?_
    refine SOps.q rfl (.plain rfl) rfl (q_pick_f rfl rfl rfl rfl) ?_
    refine SOps.q rfl (.plain rfl) rfl (q_move rfl rfl) ?_
    refine SOps.skip rfl 43 46 true rfl rfl (.inl rfl) rfl ?_
    refine SOps.skip rfl 43 46 true rfl rfl (.inl rfl) rfl ?_
    refine SOps.skip rfl 43 46 true rfl rfl (.inl rfl) rfl ?_
    refine SOps.q rfl (.plain rfl) rfl (q_pick_f rfl rfl rfl rfl) ?_
    refine SOps.q rfl (.plain rfl) rfl (q_assign rfl rfl) ?_
    refine SOps.sub (st' := ⟨[(2, .c (.bool false))], []⟩) (sub_gen [] rfl rfl ⟨zc rfl rfl, trivial⟩ trivial) ?_
    refine SOps.nil ?_
    refine SCode.ret ?_
    obtain rfl := Option.some.inj h
    exact ⟨⟨[(2, .c (.bool false))], []⟩, _, sub_gen [] rfl rfl ⟨zc rfl rfl, trivial⟩ trivial, resA1 (v := .c (.bool false)) rfl rfl, rfl⟩
  refine SCode.region (show SOps _ _ _ [0, 1, 2, 3, 4, 5, 6, 7, 8, 9, 10, 11, 12, 13, 14, 15, 16, 17, 18, 19, 20, 21, 22, 23, 24, 25, 26, 27, 28, 29, 30, 31, 32, 33, 34, 35, 36, 37, 38, 39, 40, 41, 42, 43, 44, 45, 46, 47, 48] _ _ from ?_)
  refine SOps.q rfl (.plain rfl) rfl (q_field_ptr rfl rfl fd29_0) ?_
  refine SOps.q rfl (.plain rfl) rfl (q_load_ptr rfl rfl rfl rfl ty3) ?_
  refine SOps.q rfl (.plain rfl) rfl (q_geq rfl rfl rfl) ?_
  refine SOps.q rfl (.plain rfl) rfl (q_move rfl rfl) ?_
  refine SOps.skip rfl 3 6 true rfl rfl (.inl (gF g1)) rfl ?_
  refine SOps.skip rfl 3 6 true rfl rfl (.inl (gF g1)) rfl ?_
  refine SOps.skip rfl 3 6 true rfl rfl (.inl (gF g1)) rfl ?_
  refine SOps.q rfl (.plain rfl) rfl (q_pick_f rfl rfl g1 rfl) ?_
  refine SOps.q rfl (.plain rfl) rfl (q_move rfl rfl) ?_
  refine SOps.skip rfl 8 11 true rfl rfl (.inl rfl) rfl ?_
  refine SOps.skip rfl 8 11 true rfl rfl (.inl rfl) rfl ?_
  refine SOps.skip rfl 8 11 true rfl rfl (.inl rfl) rfl ?_
  refine SOps.q rfl (.plain rfl) rfl (q_pick_f rfl rfl rfl rfl) ?_
  refine SOps.q rfl (.plain rfl) rfl (q_move rfl rfl) ?_
  refine SOps.skip rfl 13 16 true rfl rfl (.inl rfl) rfl ?_
  refine SOps.skip rfl 13 16 true rfl rfl (.inl rfl) rfl ?_
  refine SOps.skip rfl 13 16 true rfl rfl (.inl rfl) rfl ?_
  refine SOps.q rfl (.plain rfl) rfl (q_pick_f rfl rfl rfl rfl) ?_
  refine SOps.q rfl (.plain rfl) rfl (q_move rfl rfl) ?_
  refine SOps.skip rfl 18 21 true rfl rfl (.inl rfl) rfl ?_
  refine SOps.skip rfl 18 21 true rfl rfl (.inl rfl) rfl ?_
  refine SOps.skip rfl 18 21 true rfl rfl (.inl rfl) rfl ?_
  refine SOps.q rfl (.plain rfl) rfl (q_pick_f rfl rfl rfl rfl) ?_
  refine SOps.q rfl (.plain rfl) rfl (q_move rfl rfl) ?_
  refine SOps.skip rfl 23 26 true rfl rfl (.inl rfl) rfl ?_
  refine SOps.skip rfl 23 26 true rfl rfl (.inl rfl) rfl ?_
  refine SOps.skip rfl 23 26 true rfl rfl (.inl rfl) rfl ?_
  refine SOps.q rfl (.plain rfl) rfl (q_pick_f rfl rfl rfl rfl) ?_
  refine SOps.q rfl (.plain rfl) rfl (q_move rfl rfl) ?_
  refine SOps.skip rfl 28 31 true rfl rfl (.inl rfl) rfl ?_
  refine SOps.skip rfl 28 31 true rfl rfl (.inl rfl) rfl ?_
  refine SOps.skip rfl 28 31 true rfl rfl (.inl rfl) rfl ?_
  refine SOps.q rfl (.plain rfl) rfl (q_pick_f rfl rfl rfl rfl) ?_
  refine SOps.q rfl (.plain rfl) rfl (q_move rfl rfl) ?_
  refine SOps.skip rfl 33 36 true rfl rfl (.inl rfl) rfl ?_
  refine SOps.skip rfl 33 36 true rfl rfl (.inl rfl) rfl ?_
  refine SOps.skip rfl 33 36 true rfl rfl (.inl rfl) rfl ?_
  refine SOps.q rfl (.plain rfl) rfl (q_pick_f rfl rfl rfl rfl) ?_
  refine SOps.q rfl (.plain rfl) rfl (q_move rfl rfl) ?_
  refine SOps.skip rfl 38 41 true rfl rfl (.inl rfl) rfl ?_
  refine SOps.skip rfl 38 41 true rfl rfl (.inl rfl) rfl ?_
  refine SOps.skip rfl 38 41 true rfl rfl (.inl rfl) rfl ?_
  refine SOps.q rfl (.plain rfl) rfl (q_pick_f rfl rfl rfl rfl) ?_
  refine SOps.q rfl (.plain rfl) rfl (q_move rfl rfl) ?_
  refine SOps.skip rfl 43 46 true rfl rfl (.inl rfl) rfl ?_
  refine SOps.skip rfl 43 46 true rfl rfl (.inl rfl) rfl ?_
  refine SOps.skip rfl 43 46 true rfl rfl (.inl rfl) rfl ?_
  refine SOps.q rfl (.plain rfl) rfl (q_pick_f rfl rfl rfl rfl) ?_
  refine SOps.q rfl (.plain rfl) rfl (q_assign rfl rfl) ?_
  refine SOps.sub (st' := ⟨[(2, .c (.bool false))], []⟩) (sub_gen [] rfl rfl ⟨zc rfl rfl, trivial⟩ trivial) ?_
  refine SOps.nil ?_
  refine SCode.ret ?_
  obtain rfl := Option.some.inj h
  exact ⟨⟨[(2, .c (.bool false))], []⟩, _, sub_gen [] rfl rfl ⟨zc rfl rfl, trivial⟩ trivial, resA1 (v := .c (.bool false)) rfl rfl, rfl⟩
set_option maxRecDepth 100000 in
set_option maxHeartbeats 8000000 in
theorem ident_value_ok (F : Nat) (a0_r : Int) (r : Int) (h : ident_value F a0_r = some r) :
    SFun Try.prog 22 [] [.c (.int .i32 a0_r)] (fun x _ => x = .c (.int .i64 r)) := by
  refine SFun.of (n := 35) Try.func22 rfl rfl rfl ?_
  unfold ident_value at h
  show SCode _ _ _ ⟨[(0, .c (.int .i32 a0_r))], []⟩ _
  refine SCode.seq ?_
  refine SCode.region (show SOps _ _ _ [0] _ _ from ?_)
  refine SOps.q rfl (.plain rfl) rfl (q_assign rfl rfl) ?_
  refine SOps.sub (st' := ⟨[(0, .c (.int .i32 a0_r))], []⟩) (sub_gen [] rfl rfl ⟨zc rfl rfl, trivial⟩ trivial) ?_
  refine SOps.nil ?_
  refine SCode.join (σ := Unit) (S := fun s => ⟨[], []⟩) (g := fun s => ident_value_p1 = some r) ?_ ?_
  rotate_left
  · refine SCode.block ?_
    refine SCode.join (σ := Bool) (S := fun s => ⟨[(0, .c (.int .i32 a0_r)), (3, .c (.bool s))], []⟩) (g := fun s => ident_value_p10 a0_r s = some r) ?_ ?_
    rotate_left
    · rcases cond_out h with ⟨g11, h⟩ | ⟨g11, h⟩
      · refine SCode.region (show SOps _ _ _ [0, 1, 2, 3, 4, 5, 6] _ _ from ?_)
        refine SOps.q rfl (.plain rfl) rfl (q_move rfl rfl) ?_
        refine SOps.q rfl (.plain rfl) rfl (q_geq rfl rfl rfl) ?_
        refine SOps.q rfl (.plain rfl) rfl (q_move rfl rfl) ?_
        refine SOps.q rfl (.guard 2 6 true rfl rfl (gT g11)) rfl (q_move rfl rfl) ?_
        refine SOps.q rfl (.guard 2 6 true rfl rfl (gT g11)) rfl (q_leq rfl rfl rfl) ?_
        refine SOps.q rfl (.plain rfl) rfl (q_pick_t rfl rfl g11 rfl) ?_
        refine SOps.q rfl (.plain rfl) rfl (q_assign rfl rfl) ?_
        refine SOps.sub (st' := ⟨[(0, .c (.int .i32 a0_r)), (3, .c (.bool (decide (a0_r ≤ 57))))], []⟩) (sub_gen [] rfl rfl ⟨zc rfl rfl, zc rfl rfl, trivial⟩ trivial) ?_
        refine SOps.nil ?_
        exact ⟨decide (a0_r ≤ 57), h, sub_gen [] rfl rfl ⟨zc rfl rfl, zc rfl rfl, trivial⟩ trivial⟩
      refine SCode.region (show SOps _ _ _ [0, 1, 2, 3, 4, 5, 6] _ _ from ?_)
      refine SOps.q rfl (.plain rfl) rfl (q_move rfl rfl) ?_
      refine SOps.q rfl (.plain rfl) rfl (q_geq rfl rfl rfl) ?_
      refine SOps.q rfl (.plain rfl) rfl (q_move rfl rfl) ?_
      refine SOps.skip rfl 2 6 true rfl rfl (.inl (gF g11)) rfl ?_
      refine SOps.skip rfl 2 6 true rfl rfl (.inl (gF g11)) rfl ?_
      refine SOps.q rfl (.plain rfl) rfl (q_pick_f rfl rfl g11 rfl) ?_
      refine SOps.q rfl (.plain rfl) rfl (q_assign rfl rfl) ?_
      refine SOps.sub (st' := ⟨[(0, .c (.int .i32 a0_r)), (3, .c (.bool false))], []⟩) (sub_gen [] rfl rfl ⟨zc rfl rfl, zc rfl rfl, trivial⟩ trivial) ?_
      refine SOps.nil ?_
      exact ⟨false, h, sub_gen [] rfl rfl ⟨zc rfl rfl, zc rfl rfl, trivial⟩ trivial⟩
    rintro t3_2 h
    show SCode _ _ _ ⟨[(0, .c (.int .i32 a0_r)), (3, .c (.bool t3_2))], []⟩ _
    replace h : ident_value_p10 a0_r t3_2 = some r := h
    unfold ident_value_p10 at h
    rcases cond_out h with ⟨g3, h⟩ | ⟨g3, h⟩
    · refine SCode.cond_t rfl g3 ?_
      refine SCode.seq ?_
      refine SCode.region (show SOps _ _ _ [0, 1, 2, 3] _ _ from ?_)
      refine SOps.q rfl (.plain rfl) rfl (q_move rfl rfl) ?_
      refine SOps.q rfl (.plain rfl) rfl (q_sub rfl rfl rfl) ?_
      refine SOps.q rfl (.plain rfl) rfl (q_convert rfl rfl un21 un3) ?_
      refine SOps.q rfl (.plain rfl) rfl (q_assign rfl rfl) ?_
      refine SOps.sub (st' := ⟨[(2, .c (.int .i64 (IntKind.wrap .i64 (IntKind.wrap .i32 (a0_r - 48)))))], []⟩) (sub_gen [] rfl rfl ⟨zc rfl rfl, trivial⟩ trivial) ?_
      refine SOps.nil ?_
      refine SCode.ret ?_
      obtain rfl := Option.some.inj h
      exact ⟨⟨[(2, .c (.int .i64 (IntKind.wrap .i64 (IntKind.wrap .i32 (a0_r - 48)))))], []⟩, _, sub_gen [] rfl rfl ⟨zc rfl rfl, trivial⟩ trivial, resA1 (v := .c (.int .i64 (IntKind.wrap .i64 (IntKind.wrap .i32 (a0_r - 48))))) rfl rfl, rfl⟩
    refine SCode.cond_f rfl g3 ?_
    refine SCode.join (σ := Bool) (S := fun s => ⟨[(0, .c (.int .i32 a0_r)), (13, .c (.bool s))], []⟩) (g := fun s => ident_value_p8 a0_r s = some r) ?_ ?_
    rotate_left
    · rcases cond_out h with ⟨g9, h⟩ | ⟨g9, h⟩
      · refine SCode.region (show SOps _ _ _ [0, 1, 2, 3, 4, 5, 6] _ _ from ?_)
        refine SOps.q rfl (.plain rfl) rfl (q_move rfl rfl) ?_
        refine SOps.q rfl (.plain rfl) rfl (q_geq rfl rfl rfl) ?_
        refine SOps.q rfl (.plain rfl) rfl (q_move rfl rfl) ?_
        refine SOps.q rfl (.guard 2 16 true rfl rfl (gT g9)) rfl (q_move rfl rfl) ?_
        refine SOps.q rfl (.guard 2 16 true rfl rfl (gT g9)) rfl (q_leq rfl rfl rfl) ?_
        refine SOps.q rfl (.plain rfl) rfl (q_pick_t rfl rfl g9 rfl) ?_
        refine SOps.q rfl (.plain rfl) rfl (q_assign rfl rfl) ?_
        refine SOps.sub (st' := ⟨[(0, .c (.int .i32 a0_r)), (13, .c (.bool (decide (a0_r ≤ 90))))], []⟩) (sub_gen [] rfl rfl ⟨zc rfl rfl, zc rfl rfl, trivial⟩ trivial) ?_
        refine SOps.nil ?_
        exact ⟨decide (a0_r ≤ 90), h, sub_gen [] rfl rfl ⟨zc rfl rfl, zc rfl rfl, trivial⟩ trivial⟩
      refine SCode.region (show SOps _ _ _ [0, 1, 2, 3, 4, 5, 6] _ _ from ?_)
      refine SOps.q rfl (.plain rfl) rfl (q_move rfl rfl) ?_
      refine SOps.q rfl (.plain rfl) rfl (q_geq rfl rfl rfl) ?_
      refine SOps.q rfl (.plain rfl) rfl (q_move rfl rfl) ?_
      refine SOps.skip rfl 2 16 true rfl rfl (.inl (gF g9)) rfl ?_
      refine SOps.skip rfl 2 16 true rfl rfl (.inl (gF g9)) rfl ?_
      refine SOps.q rfl (.plain rfl) rfl (q_pick_f rfl rfl g9 rfl) ?_
      refine SOps.q rfl (.plain rfl) rfl (q_assign rfl rfl) ?_
      refine SOps.sub (st' := ⟨[(0, .c (.int .i32 a0_r)), (13, .c (.bool false))], []⟩) (sub_gen [] rfl rfl ⟨zc rfl rfl, zc rfl rfl, trivial⟩ trivial) ?_
      refine SOps.nil ?_
      exact ⟨false, h, sub_gen [] rfl rfl ⟨zc rfl rfl, zc rfl rfl, trivial⟩ trivial⟩
    rintro t13_4 h
    show SCode _ _ _ ⟨[(0, .c (.int .i32 a0_r)), (13, .c (.bool t13_4))], []⟩ _
    replace h : ident_value_p8 a0_r t13_4 = some r := h
    unfold ident_value_p8 at h
    rcases cond_out h with ⟨g5, h⟩ | ⟨g5, h⟩
    · refine SCode.cond_t rfl g5 ?_
      refine SCode.seq ?_
      refine SCode.region (show SOps _ _ _ [0, 1, 2, 3, 4] _ _ from ?_)
      refine SOps.q rfl (.plain rfl) rfl (q_move rfl rfl) ?_
      refine SOps.q rfl (.plain rfl) rfl (q_sub rfl rfl rfl) ?_
      refine SOps.q rfl (.plain rfl) rfl (q_convert rfl rfl un21 un3) ?_
      refine SOps.q rfl (.plain rfl) rfl (q_add rfl rfl rfl) ?_
      refine SOps.q rfl (.plain rfl) rfl (q_assign rfl rfl) ?_
      refine SOps.sub (st' := ⟨[(2, .c (.int .i64 (IntKind.wrap .i64 (IntKind.wrap .i64 (IntKind.wrap .i32 (a0_r - 65)) + 10))))], []⟩) (sub_gen [] rfl rfl ⟨zc rfl rfl, trivial⟩ trivial) ?_
      refine SOps.nil ?_
      refine SCode.ret ?_
      obtain rfl := Option.some.inj h
      exact ⟨⟨[(2, .c (.int .i64 (IntKind.wrap .i64 (IntKind.wrap .i64 (IntKind.wrap .i32 (a0_r - 65)) + 10))))], []⟩, _, sub_gen [] rfl rfl ⟨zc rfl rfl, trivial⟩ trivial, resA1 (v := .c (.int .i64 (IntKind.wrap .i64 (IntKind.wrap .i64 (IntKind.wrap .i32 (a0_r - 65)) + 10)))) rfl rfl, rfl⟩
    refine SCode.cond_f rfl g5 ?_
    refine SCode.seq ?_
    rcases cond_out h with ⟨g6, h⟩ | ⟨g6, h⟩
    · refine SCode.region (show SOps _ _ _ [0, 1, 2, 3, 4, 5, 6] _ _ from ?_)
      refine SOps.q rfl (.plain rfl) rfl (q_move rfl rfl) ?_
      refine SOps.q rfl (.plain rfl) rfl (q_geq rfl rfl rfl) ?_
      refine SOps.q rfl (.plain rfl) rfl (q_move rfl rfl) ?_
      refine SOps.q rfl (.guard 2 27 true rfl rfl (gT g6)) rfl (q_move rfl rfl) ?_
      refine SOps.q rfl (.guard 2 27 true rfl rfl (gT g6)) rfl (q_leq rfl rfl rfl) ?_
      refine SOps.q rfl (.plain rfl) rfl (q_pick_t rfl rfl g6 rfl) ?_
      refine SOps.q rfl (.plain rfl) rfl (q_assign rfl rfl) ?_
      refine SOps.sub (st' := ⟨[(0, .c (.int .i32 a0_r)), (24, .c (.bool (decide (a0_r ≤ 122))))], []⟩) (sub_gen [] rfl rfl ⟨zc rfl rfl, zc rfl rfl, trivial⟩ trivial) ?_
      refine SOps.nil ?_
      rcases cond_out h with ⟨g7, h⟩ | ⟨g7, h⟩
      · refine SCode.cond_t rfl g7 ?_
        refine SCode.seq ?_
        refine SCode.region (show SOps _ _ _ [0, 1, 2, 3, 4] _ _ from ?_)
        refine SOps.q rfl (.plain rfl) rfl (q_move rfl rfl) ?_
        refine SOps.q rfl (.plain rfl) rfl (q_sub rfl rfl rfl) ?_
        refine SOps.q rfl (.plain rfl) rfl (q_convert rfl rfl un21 un3) ?_
        refine SOps.q rfl (.plain rfl) rfl (q_add rfl rfl rfl) ?_
        refine SOps.q rfl (.plain rfl) rfl (q_assign rfl rfl) ?_
        refine SOps.sub (st' := ⟨[(2, .c (.int .i64 (IntKind.wrap .i64 (IntKind.wrap .i64 (IntKind.wrap .i32 (a0_r - 97)) + 10))))], []⟩) (sub_gen [] rfl rfl ⟨zc rfl rfl, trivial⟩ trivial) ?_
        refine SOps.nil ?_
        refine SCode.ret ?_
        obtain rfl := Option.some.inj h
        exact ⟨⟨[(2, .c (.int .i64 (IntKind.wrap .i64 (IntKind.wrap .i64 (IntKind.wrap .i32 (a0_r - 97)) + 10))))], []⟩, _, sub_gen [] rfl rfl ⟨zc rfl rfl, trivial⟩ trivial, resA1 (v := .c (.int .i64 (IntKind.wrap .i64 (IntKind.wrap .i64 (IntKind.wrap .i32 (a0_r - 97)) + 10)))) rfl rfl, rfl⟩
      refine SCode.cond_f rfl g7 ?_
      refine SCode.skip ?_
      exact ⟨(), h, sub_gen [] rfl rfl trivial trivial⟩
    refine SCode.region (show SOps _ _ _ [0, 1, 2, 3, 4, 5, 6] _ _ from ?_)
    refine SOps.q rfl (.plain rfl) rfl (q_move rfl rfl) ?_
    refine SOps.q rfl (.plain rfl) rfl (q_geq rfl rfl rfl) ?_
    refine SOps.q rfl (.plain rfl) rfl (q_move rfl rfl) ?_
    refine SOps.skip rfl 2 27 true rfl rfl (.inl (gF g6)) rfl ?_
    refine SOps.skip rfl 2 27 true rfl rfl (.inl (gF g6)) rfl ?_
    refine SOps.q rfl (.plain rfl) rfl (q_pick_f rfl rfl g6 rfl) ?_
    refine SOps.q rfl (.plain rfl) rfl (q_assign rfl rfl) ?_
    refine SOps.sub (st' := ⟨[(0, .c (.int .i32 a0_r)), (24, .c (.bool false))], []⟩) (sub_gen [] rfl rfl ⟨zc rfl rfl, zc rfl rfl, trivial⟩ trivial) ?_
    refine SOps.nil ?_
    refine SCode.cond_f rfl rfl ?_
    refine SCode.skip ?_
    exact ⟨(), h, sub_gen [] rfl rfl trivial trivial⟩
  rintro ⟨⟩ h
  show SCode _ _ _ ⟨[], []⟩ _
  replace h : ident_value_p1 = some r := h
  unfold ident_value_p1 at h
  refine SCode.seq ?_
  refine SCode.region (show SOps _ _ _ [0] _ _ from ?_)
  refine SOps.q rfl (.plain rfl) rfl (q_assign rfl rfl) ?_
  refine SOps.sub (st' := ⟨[(2, .c (.int .i64 ((-1))))], []⟩) (sub_gen [] rfl rfl ⟨zc rfl rfl, trivial⟩ trivial) ?_
  refine SOps.nil ?_
  refine SCode.ret ?_
  obtain rfl := Option.some.inj h
  exact ⟨⟨[(2, .c (.int .i64 ((-1))))], []⟩, _, sub_gen [] rfl rfl ⟨zc rfl rfl, trivial⟩ trivial, resA1 (v := .c (.int .i64 ((-1)))) rfl rfl, rfl⟩
set_option maxRecDepth 100000 in
set_option maxHeartbeats 8000000 in
theorem ident_Valid_ok (F : Nat) (a0_s : ByteArray) (r : Bool) (h : ident_Valid F a0_s = some r) :
    SFun Try.prog 12 [] [.c (.str a0_s)] (fun x _ => x = .c (.bool r)) := by
  refine SFun.of (n := 28) Try.func12 rfl rfl rfl ?_
  unfold ident_Valid at h
  show SCode _ _ _ ⟨[(0, .c (.str a0_s))], []⟩ _
  refine SCode.seq ?_
  refine SCode.region (show SOps _ _ _ [0] _ _ from ?_)
  refine SOps.q rfl (.plain rfl) rfl (q_assign rfl rfl) ?_
  refine SOps.sub (st' := ⟨[(0, .c (.str a0_s))], []⟩) (sub_gen [] rfl rfl ⟨zc rfl rfl, trivial⟩ trivial) ?_
  refine SOps.nil ?_
  refine SCode.seq ?_
  refine SCode.seq ?_
  rcases cond_out h with ⟨g1, h⟩ | ⟨g1, h⟩
  · refine SCode.region (show SOps _ _ _ [0, 1, 2, 3, 4, 5, 6, 7] _ _ from ?_)
    refine SOps.q rfl (.plain rfl) rfl (q_move rfl rfl) ?_
    refine SOps.q rfl (.plain rfl) rfl (q_len_str rfl rfl un9) ?_
    refine SOps.q rfl (.plain rfl) rfl (q_lss rfl rfl rfl) ?_
    refine SOps.q rfl (.plain rfl) rfl (q_move rfl rfl) ?_
    refine SOps.skip rfl 3 8 false rfl rfl (.inl (gT g1)) rfl ?_
    refine SOps.skip rfl 3 8 false rfl rfl (.inl (gT g1)) rfl ?_
    refine SOps.skip rfl 3 8 false rfl rfl (.inl (gT g1)) rfl ?_
    refine SOps.q rfl (.plain rfl) rfl (q_pick_t rfl rfl g1 rfl) ?_
    refine SOps.sub (st' := ⟨[(0, .c (.str a0_s)), (12, .c (.bool true))], []⟩) (sub_gen [] rfl rfl ⟨zc rfl rfl, zc rfl rfl, trivial⟩ trivial) ?_
    refine SOps.nil ?_
    refine SCode.cond_t rfl rfl ?_
    refine SCode.seq ?_
    refine SCode.region (show SOps _ _ _ [0] _ _ from ?_)
    refine SOps.q rfl (.plain rfl) rfl (q_assign rfl rfl) ?_
    refine SOps.sub (st' := ⟨[(2, .c (.bool false))], []⟩) (sub_gen [] rfl rfl ⟨zc rfl rfl, trivial⟩ trivial) ?_
    refine SOps.nil ?_
    refine SCode.ret ?_
    obtain rfl := Option.some.inj h
    exact ⟨⟨[(2, .c (.bool false))], []⟩, _, sub_gen [] rfl rfl ⟨zc rfl rfl, trivial⟩ trivial, resA1 (v := .c (.bool false)) rfl rfl, rfl⟩
  refine SCode.region (show SOps _ _ _ [0, 1, 2, 3, 4, 5, 6, 7] _ _ from ?_)
  refine SOps.q rfl (.plain rfl) rfl (q_move rfl rfl) ?_
  refine SOps.q rfl (.plain rfl) rfl (q_len_str rfl rfl un9) ?_
  refine SOps.q rfl (.plain rfl) rfl (q_lss rfl rfl rfl) ?_
  refine SOps.q rfl (.plain rfl) rfl (q_move rfl rfl) ?_
  refine SOps.q rfl (.guard 3 8 false rfl rfl (gF g1)) rfl (q_move rfl rfl) ?_
  refine SOps.q rfl (.guard 3 8 false rfl rfl (gF g1)) rfl (q_len_str rfl rfl un9) ?_
  refine SOps.q rfl (.guard 3 8 false rfl rfl (gF g1)) rfl (q_gtr rfl rfl rfl) ?_
  refine SOps.q rfl (.plain rfl) rfl (q_pick_f rfl rfl g1 rfl) ?_
  refine SOps.sub (st' := ⟨[(0, .c (.str a0_s)), (12, .c (.bool (decide (36 < (a0_s.size : Int)))))], []⟩) (sub_gen [] rfl rfl ⟨zc rfl rfl, zc rfl rfl, trivial⟩ trivial) ?_
  refine SOps.nil ?_
  rcases cond_out h with ⟨g2, h⟩ | ⟨g2, h⟩
  · refine SCode.cond_t rfl g2 ?_
    refine SCode.seq ?_
    refine SCode.region (show SOps _ _ _ [0] _ _ from ?_)
    refine SOps.q rfl (.plain rfl) rfl (q_assign rfl rfl) ?_
    refine SOps.sub (st' := ⟨[(2, .c (.bool false))], []⟩) (sub_gen [] rfl rfl ⟨zc rfl rfl, trivial⟩ trivial) ?_
    refine SOps.nil ?_
    refine SCode.ret ?_
    obtain rfl := Option.some.inj h
    exact ⟨⟨[(2, .c (.bool false))], []⟩, _, sub_gen [] rfl rfl ⟨zc rfl rfl, trivial⟩ trivial, resA1 (v := .c (.bool false)) rfl rfl, rfl⟩
  refine SCode.cond_f rfl g2 ?_
  refine SCode.skip ?_
  refine SCode.join (σ := Unit) (S := fun s => ⟨[], []⟩) (g := fun s => ident_Valid_p3 = some r) ?_ ?_
  rotate_left
  · refine SCode.seq ?_
    refine SCode.region (show SOps _ _ _ [0, 1] _ _ from ?_)
    refine SOps.q rfl (.plain rfl) rfl (q_move rfl rfl) ?_
    refine SOps.e rfl (.plain rfl) (e_range rfl rfl rfl rfl un9) ?_
    refine SOps.sub (st' := ⟨[(14, .c (.ptr 0 0))], [.raw (.stringIter a0_s 0)]⟩) (sub_gen [0] rfl rfl ⟨zc rfl rfl, trivial⟩ ⟨rfl, trivial⟩) ?_
    refine SOps.nil ?_
    refine SCode.block ?_
    refine SCode.sub (st' := ⟨[(14, .c (.ptr 0 0))], [.raw (.stringIter a0_s 0)]⟩) (sub_gen [0] rfl rfl ⟨zc rfl rfl, trivial⟩ ⟨rfl, trivial⟩) ?_
    refine (SCode.loop (σ := Nat × Nat) (S := fun s => ⟨[(14, .c (.ptr 0 0))], [.raw (.stringIter a0_s s.2)]⟩) (g := fun s => ident_Valid_l29 F a0_s s.1 s.2 = some r) (μ := fun s => s.1) (F, 0) h ?_)
    rintro ⟨n_29, pos_17⟩ h
    replace h : ident_Valid_l29 F a0_s n_29 pos_17 = some r := h
    show SCode _ _ _ ⟨[(14, .c (.ptr 0 0))], [.raw (.stringIter a0_s pos_17)]⟩ _
    cases n_29 with
    | zero => cases h
    | succ n_29 =>
      replace h : ident_Valid_b29 F a0_s (fun pos_17 => ident_Valid_l29 F a0_s n_29 pos_17) pos_17 = some r := h
      unfold ident_Valid_b29 at h
      refine SCode.seq ?_
      rcases cond_out h with ⟨g30, h⟩ | ⟨g30, h⟩
      · refine SCode.region (show SOps _ _ _ [0, 1] _ _ from ?_)
        refine SOps.e rfl (.plain rfl) (e_next_t rfl rfl rfl rfl rfl g30) ?_
        refine SOps.q rfl (.plain rfl) rfl (q_extract rfl rfl rfl) ?_
        refine SOps.sub (st' := ⟨[(14, .c (.ptr 0 0)), (15, .t [.c (.bool true), .c (.int .i64 ((pos_17 : Int))), .c (.int .i32 (((Utf8.decode a0_s pos_17).1 : Int)))]), (16, .c (.bool true))], [.raw (.stringIter a0_s (pos_17 + (Utf8.decode a0_s pos_17).2))]⟩) (sub_gen [0] rfl rfl ⟨zc rfl rfl, ⟨rfl, rfl⟩, zc rfl rfl, trivial⟩ ⟨rfl, trivial⟩) ?_
        refine SOps.nil ?_
        refine SCode.seq ?_
        refine SCode.cond_t rfl rfl ?_
        refine SCode.skip ?_
        refine SCode.block ?_
        refine SCode.seq ?_
        refine SCode.region (show SOps _ _ _ [0, 1] _ _ from ?_)
        refine SOps.q rfl (.plain rfl) rfl (q_extract rfl rfl rfl) ?_
        refine SOps.q rfl (.plain rfl) rfl (q_assign rfl rfl) ?_
        refine SOps.sub (st' := ⟨[(4, .c (.int .i32 (((Utf8.decode a0_s pos_17).1 : Int)))), (14, .c (.ptr 0 0))], [.raw (.stringIter a0_s (pos_17 + (Utf8.decode a0_s pos_17).2))]⟩) (sub_gen [0] rfl rfl ⟨zc rfl rfl, zc rfl rfl, trivial⟩ ⟨rfl, trivial⟩) ?_
        refine SOps.nil ?_
        refine SCode.seq ?_
        refine SCode.seq ?_
        refine SCode.region (show SOps _ _ _ [0] _ _ from ?_)
        refine SOps.q rfl (.plain rfl) rfl (q_move rfl rfl) ?_
        refine SOps.sub (st' := ⟨[(4, .c (.int .i32 (((Utf8.decode a0_s pos_17).1 : Int)))), (14, .c (.ptr 0 0)), (18, .c (.int .i32 (((Utf8.decode a0_s pos_17).1 : Int))))], [.raw (.stringIter a0_s (pos_17 + (Utf8.decode a0_s pos_17).2))]⟩) (sub_gen [0] rfl rfl ⟨zc rfl rfl, zc rfl rfl, zc rfl rfl, trivial⟩ ⟨rfl, trivial⟩) ?_
        refine SOps.nil ?_
        refine SCode.block ?_
        refine SCode.join (σ := Bool) (S := fun s => ⟨[(4, .c (.int .i32 (((Utf8.decode a0_s pos_17).1 : Int)))), (14, .c (.ptr 0 0)), (19, .c (.bool s))], [.raw (.stringIter a0_s (pos_17 + (Utf8.decode a0_s pos_17).2))]⟩) (g := fun s => ident_Valid_p36 F a0_s pos_17 (fun pos_17 => ident_Valid_l29 F a0_s n_29 pos_17) s = some r) ?_ ?_
        rotate_left
        · refine SCode.seq ?_
          refine SCode.region (show SOps _ _ _ [0, 1] _ _ from ?_)
          refine SOps.q rfl (.plain rfl) rfl (q_eql rfl rfl rfl) ?_
          refine SOps.q rfl (.plain rfl) rfl (q_assign rfl rfl) ?_
          refine SOps.sub (st' := ⟨[(4, .c (.int .i32 (((Utf8.decode a0_s pos_17).1 : Int)))), (14, .c (.ptr 0 0)), (18, .c (.int .i32 (((Utf8.decode a0_s pos_17).1 : Int)))), (19, .c (.bool (decide (((Utf8.decode a0_s pos_17).1 : Int) = 45))))], [.raw (.stringIter a0_s (pos_17 + (Utf8.decode a0_s pos_17).2))]⟩) (sub_gen [0] rfl rfl ⟨zc rfl rfl, zc rfl rfl, zc rfl rfl, zc rfl rfl, trivial⟩ ⟨rfl, trivial⟩) ?_
          refine SOps.nil ?_
          rcases cond_out h with ⟨g37, h⟩ | ⟨g37, h⟩
          · refine SCode.cond_t rfl g37 ?_
            refine SCode.skip ?_
            exact ⟨decide (((Utf8.decode a0_s pos_17).1 : Int) = 45), h, sub_gen [0] rfl rfl ⟨zc rfl rfl, zc rfl rfl, zc rfl rfl, trivial⟩ ⟨rfl, trivial⟩⟩
          refine SCode.cond_f rfl g37 ?_
          refine SCode.seq ?_
          refine SCode.region (show SOps _ _ _ [0, 1] _ _ from ?_)
          refine SOps.q rfl (.plain rfl) rfl (q_eql rfl rfl rfl) ?_
          refine SOps.q rfl (.plain rfl) rfl (q_assign rfl rfl) ?_
          refine SOps.sub (st' := ⟨[(4, .c (.int .i32 (((Utf8.decode a0_s pos_17).1 : Int)))), (14, .c (.ptr 0 0)), (18, .c (.int .i32 (((Utf8.decode a0_s pos_17).1 : Int)))), (19, .c (.bool (decide (((Utf8.decode a0_s pos_17).1 : Int) = 95))))], [.raw (.stringIter a0_s (pos_17 + (Utf8.decode a0_s pos_17).2))]⟩) (sub_gen [0] rfl rfl ⟨zc rfl rfl, zc rfl rfl, zc rfl rfl, zc rfl rfl, trivial⟩ ⟨rfl, trivial⟩) ?_
          refine SOps.nil ?_
          rcases cond_out h with ⟨g38, h⟩ | ⟨g38, h⟩
          · refine SCode.cond_t rfl g38 ?_
            refine SCode.skip ?_
            exact ⟨decide (((Utf8.decode a0_s pos_17).1 : Int) = 95), h, sub_gen [0] rfl rfl ⟨zc rfl rfl, zc rfl rfl, zc rfl rfl, trivial⟩ ⟨rfl, trivial⟩⟩
          refine SCode.cond_f rfl g38 ?_
          refine SCode.seq ?_
          refine SCode.region (show SOps _ _ _ [0, 1] _ _ from ?_)
          refine SOps.q rfl (.plain rfl) rfl (q_eql rfl rfl rfl) ?_
          refine SOps.q rfl (.plain rfl) rfl (q_assign rfl rfl) ?_
          refine SOps.sub (st' := ⟨[(4, .c (.int .i32 (((Utf8.decode a0_s pos_17).1 : Int)))), (14, .c (.ptr 0 0)), (18, .c (.int .i32 (((Utf8.decode a0_s pos_17).1 : Int)))), (19, .c (.bool (decide (((Utf8.decode a0_s pos_17).1 : Int) = 46))))], [.raw (.stringIter a0_s (pos_17 + (Utf8.decode a0_s pos_17).2))]⟩) (sub_gen [0] rfl rfl ⟨zc rfl rfl, zc rfl rfl, zc rfl rfl, zc rfl rfl, trivial⟩ ⟨rfl, trivial⟩) ?_
          refine SOps.nil ?_
          rcases cond_out h with ⟨g39, h⟩ | ⟨g39, h⟩
          · refine SCode.cond_t rfl g39 ?_
            refine SCode.skip ?_
            exact ⟨decide (((Utf8.decode a0_s pos_17).1 : Int) = 46), h, sub_gen [0] rfl rfl ⟨zc rfl rfl, zc rfl rfl, zc rfl rfl, trivial⟩ ⟨rfl, trivial⟩⟩
          refine SCode.cond_f rfl g39 ?_
          refine SCode.seq ?_
          refine SCode.region (show SOps _ _ _ [0, 1] _ _ from ?_)
          refine SOps.q rfl (.plain rfl) rfl (q_eql rfl rfl rfl) ?_
          refine SOps.q rfl (.plain rfl) rfl (q_assign rfl rfl) ?_
          refine SOps.sub (st' := ⟨[(4, .c (.int .i32 (((Utf8.decode a0_s pos_17).1 : Int)))), (14, .c (.ptr 0 0)), (18, .c (.int .i32 (((Utf8.decode a0_s pos_17).1 : Int)))), (19, .c (.bool (decide (((Utf8.decode a0_s pos_17).1 : Int) = 58))))], [.raw (.stringIter a0_s (pos_17 + (Utf8.decode a0_s pos_17).2))]⟩) (sub_gen [0] rfl rfl ⟨zc rfl rfl, zc rfl rfl, zc rfl rfl, zc rfl rfl, trivial⟩ ⟨rfl, trivial⟩) ?_
          refine SOps.nil ?_
          rcases cond_out h with ⟨g40, h⟩ | ⟨g40, h⟩
          · refine SCode.cond_t rfl g40 ?_
            refine SCode.skip ?_
            exact ⟨decide (((Utf8.decode a0_s pos_17).1 : Int) = 58), h, sub_gen [0] rfl rfl ⟨zc rfl rfl, zc rfl rfl, zc rfl rfl, trivial⟩ ⟨rfl, trivial⟩⟩
          refine SCode.cond_f rfl g40 ?_
          refine SCode.region (show SOps _ _ _ [0, 1] _ _ from ?_)
          refine SOps.q rfl (.plain rfl) rfl (q_eql rfl rfl rfl) ?_
          refine SOps.q rfl (.plain rfl) rfl (q_assign rfl rfl) ?_
          refine SOps.sub (st' := ⟨[(4, .c (.int .i32 (((Utf8.decode a0_s pos_17).1 : Int)))), (14, .c (.ptr 0 0)), (19, .c (.bool (decide (((Utf8.decode a0_s pos_17).1 : Int) = 42))))], [.raw (.stringIter a0_s (pos_17 + (Utf8.decode a0_s pos_17).2))]⟩) (sub_gen [0] rfl rfl ⟨zc rfl rfl, zc rfl rfl, zc rfl rfl, trivial⟩ ⟨rfl, trivial⟩) ?_
          refine SOps.nil ?_
          exact ⟨decide (((Utf8.decode a0_s pos_17).1 : Int) = 42), h, sub_gen [0] rfl rfl ⟨zc rfl rfl, zc rfl rfl, zc rfl rfl, trivial⟩ ⟨rfl, trivial⟩⟩
        rintro t19_31 h
        show SCode _ _ _ ⟨[(4, .c (.int .i32 (((Utf8.decode a0_s pos_17).1 : Int)))), (14, .c (.ptr 0 0)), (19, .c (.bool t19_31))], [.raw (.stringIter a0_s (pos_17 + (Utf8.decode a0_s pos_17).2))]⟩ _
        replace h : ident_Valid_p36 F a0_s pos_17 (fun pos_17 => ident_Valid_l29 F a0_s n_29 pos_17) t19_31 = some r := h
        unfold ident_Valid_p36 at h
        rcases cond_out h with ⟨g32, h⟩ | ⟨g32, h⟩
        · refine SCode.cond_t rfl g32 ?_
          refine SCode.exit ?_
          exact ⟨(n_29, pos_17 + (Utf8.decode a0_s pos_17).2), h, Nat.lt_succ_self n_29, sub_gen [0] rfl rfl ⟨zc rfl rfl, trivial⟩ ⟨rfl, trivial⟩⟩
        refine SCode.cond_f rfl g32 ?_
        refine SCode.skip ?_
        refine SCode.seq ?_
        obtain ⟨c_33, g34, h⟩ := bind_out h
        try dsimp only at h
        refine SCode.region (show SOps _ _ _ [0, 1, 2] _ _ from ?_)
        refine SOps.q rfl (.plain rfl) rfl (q_move rfl rfl) ?_
        refine SOps.q rfl (.plain rfl) rfl (q_call (ident_value_ok F (((Utf8.decode a0_s pos_17).1 : Int)) c_33 g34) [] rfl fn22 ⟨⟨_, rfl, .inl ⟨rfl, rfl⟩⟩, trivial⟩ (.inl rfl)) ?_
        refine SOps.q rfl (.plain rfl) rfl (q_lss rfl rfl rfl) ?_
        refine SOps.sub (st' := ⟨[(14, .c (.ptr 0 0)), (27, .c (.bool (decide (c_33 < 0))))], [.raw (.stringIter a0_s (pos_17 + (Utf8.decode a0_s pos_17).2))]⟩) (sub_gen [0] rfl rfl ⟨zc rfl rfl, zc rfl rfl, trivial⟩ ⟨rfl, trivial⟩) ?_
        refine SOps.nil ?_
        rcases cond_out h with ⟨g35, h⟩ | ⟨g35, h⟩
        · refine SCode.cond_t rfl g35 ?_
          refine SCode.seq ?_
          refine SCode.region (show SOps _ _ _ [0] _ _ from ?_)
          refine SOps.q rfl (.plain rfl) rfl (q_assign rfl rfl) ?_
          refine SOps.sub (st' := ⟨[(2, .c (.bool false))], []⟩) (sub_gen [] rfl rfl ⟨zc rfl rfl, trivial⟩ trivial) ?_
          refine SOps.nil ?_
          refine SCode.ret ?_
          obtain rfl := Option.some.inj h
          exact ⟨⟨[(2, .c (.bool false))], []⟩, _, sub_gen [] rfl rfl ⟨zc rfl rfl, trivial⟩ trivial, resA1 (v := .c (.bool false)) rfl rfl, rfl⟩
        refine SCode.cond_f rfl g35 ?_
        refine SCode.skip ?_
        exact ⟨(n_29, pos_17 + (Utf8.decode a0_s pos_17).2), h, Nat.lt_succ_self n_29, sub_gen [0] rfl rfl ⟨zc rfl rfl, trivial⟩ ⟨rfl, trivial⟩⟩
      refine SCode.region (show SOps _ _ _ [0, 1] _ _ from ?_)
      refine SOps.q rfl (.plain rfl) rfl (q_next_f rfl rfl rfl g30) ?_
      refine SOps.q rfl (.plain rfl) rfl (q_extract rfl rfl rfl) ?_
      refine SOps.sub (st' := ⟨[(14, .c (.ptr 0 0)), (15, .t [.c (.bool false)]), (16, .c (.bool false))], [.raw (.stringIter a0_s pos_17)]⟩) (sub_gen [0] rfl rfl ⟨zc rfl rfl, ⟨rfl, rfl⟩, zc rfl rfl, trivial⟩ ⟨rfl, trivial⟩) ?_
      refine SOps.nil ?_
      refine SCode.seq ?_
      refine SCode.cond_f rfl rfl ?_
      refine SCode.exit ?_
      exact ⟨(), h, sub_gen [] rfl rfl trivial trivial⟩
  rintro ⟨⟩ h
  show SCode _ _ _ ⟨[], []⟩ _
  replace h : ident_Valid_p3 = some r := h
  unfold ident_Valid_p3 at h
  refine SCode.seq ?_
  refine SCode.region (show SOps _ _ _ [0] _ _ from ?_)
  refine SOps.q rfl (.plain rfl) rfl (q_assign rfl rfl) ?_
  refine SOps.sub (st' := ⟨[(2, .c (.bool true))], []⟩) (sub_gen [] rfl rfl ⟨zc rfl rfl, trivial⟩ trivial) ?_
  refine SOps.nil ?_
  refine SCode.ret ?_
  obtain rfl := Option.some.inj h
  exact ⟨⟨[(2, .c (.bool true))], []⟩, _, sub_gen [] rfl rfl ⟨zc rfl rfl, trivial⟩ trivial, resA1 (v := .c (.bool true)) rfl rfl, rfl⟩
set_option maxRecDepth 100000 in
set_option maxHeartbeats 8000000 in
theorem profile_times_ok (F : Nat) (a0_p : SProfile) (r : Bool) (h : profile_times F a0_p = some r) :
    SFun Try.prog 13 [] [.a [.int .i64 a0_p.ID, .int .i64 a0_p.Level, .int .i64 a0_p.Purpose, .int .i64 a0_p.Kind, .int .i64 a0_p.Conn, .str a0_p.Txn, .int .i64 a0_p.Span_From, .int .i64 a0_p.Span_To, .int .i64 a0_p.Start, .int .i64 a0_p.Duration, .vec a0_p.Periods.length 2 (gL cSPeriod dSPeriod a0_p.Periods)]] (fun x _ => x = .c (.bool r)) := by
  refine SFun.of (n := 63) Try.func13 rfl rfl rfl ?_
  unfold profile_times at h
  show SCode _ _ _ ⟨[(0, .a [.int .i64 a0_p.ID, .int .i64 a0_p.Level, .int .i64 a0_p.Purpose, .int .i64 a0_p.Kind, .int .i64 a0_p.Conn, .str a0_p.Txn, .int .i64 a0_p.Span_From, .int .i64 a0_p.Span_To, .int .i64 a0_p.Start, .int .i64 a0_p.Duration, .vec a0_p.Periods.length 2 (gL cSPeriod dSPeriod a0_p.Periods)])], []⟩ _
  refine SCode.seq ?_
  refine SCode.region (show SOps _ _ _ [0, 1] _ _ from ?_)
  refine SOps.e rfl (.plain rfl) (e_box rfl rfl rfl rfl rfl rfl) ?_
  refine SOps.q rfl (.plain rfl) rfl (q_assign rfl rfl) ?_
  refine SOps.sub (st' := ⟨[(1, .c (.ptr 0 0))], [.box [.int .i64 a0_p.ID, .int .i64 a0_p.Level, .int .i64 a0_p.Purpose, .int .i64 a0_p.Kind, .int .i64 a0_p.Conn, .str a0_p.Txn, .int .i64 a0_p.Span_From, .int .i64 a0_p.Span_To, .int .i64 a0_p.Start, .int .i64 a0_p.Duration, .vec a0_p.Periods.length 2 (gL cSPeriod dSPeriod a0_p.Periods)]]⟩) (sub_gen [0] rfl rfl ⟨zc rfl rfl, trivial⟩ ⟨⟨_, rfl, ⟨ii rfl rfl, ii rfl rfl, ii rfl rfl, ii rfl rfl, ii rfl rfl, ii rfl rfl, ii rfl rfl, ii rfl rfl, ii rfl rfl, ii rfl rfl, ii rfl rfl, trivial⟩⟩, trivial⟩) ?_
  refine SOps.nil ?_
  refine SCode.seq ?_
  refine SCode.seq ?_
  rcases cond_out h with ⟨g1, h⟩ | ⟨g1, h⟩
  · refine SCode.region (show SOps _ _ _ [0, 1, 2, 3, 4, 5, 6, 7, 8, 9] _ _ from ?_)
    refine SOps.q rfl (.plain rfl) rfl (q_field_ptr rfl rfl fd29_6) ?_
    refine SOps.q rfl (.plain rfl) rfl (q_field_ptr rfl rfl fd26_0) ?_
    refine SOps.q rfl (.plain rfl) rfl (q_load_ptr rfl rfl rfl rfl ty3) ?_
    refine SOps.q rfl (.plain rfl) rfl (q_lss rfl rfl rfl) ?_
    refine SOps.q rfl (.plain rfl) rfl (q_move rfl rfl) ?_
    refine SOps.skip rfl 4 7 false rfl rfl (.inl (gT g1)) rfl ?_
    refine SOps.skip rfl 4 7 false rfl rfl (.inl (gT g1)) rfl ?_
    refine SOps.skip rfl 4 7 false rfl rfl (.inl (gT g1)) rfl ?_
    refine SOps.skip rfl 4 7 false rfl rfl (.inl (gT g1)) rfl ?_
    refine SOps.q rfl (.plain rfl) rfl (q_pick_t rfl rfl g1 rfl) ?_
    refine SOps.sub (st' := ⟨[(1, .c (.ptr 0 0)), (12, .c (.bool true))], [.box [.int .i64 a0_p.ID, .int .i64 a0_p.Level, .int .i64 a0_p.Purpose, .int .i64 a0_p.Kind, .int .i64 a0_p.Conn, .str a0_p.Txn, .int .i64 a0_p.Span_From, .int .i64 a0_p.Span_To, .int .i64 a0_p.Start, .int .i64 a0_p.Duration, .vec a0_p.Periods.length 2 (gL cSPeriod dSPeriod a0_p.Periods)]]⟩) (sub_gen [0] rfl rfl ⟨zc rfl rfl, zc rfl rfl, trivial⟩ ⟨⟨_, rfl, ⟨ii rfl rfl, ii rfl rfl, ii rfl rfl, ii rfl rfl, ii rfl rfl, ii rfl rfl, ii rfl rfl, ii rfl rfl, ii rfl rfl, ii rfl rfl, ii rfl rfl, trivial⟩⟩, trivial⟩) ?_
    refine SOps.nil ?_
    refine SCode.cond_t rfl rfl ?_
    refine SCode.seq ?_
    refine SCode.region (show SOps _ _ _ [0] _ _ from ?_)
    refine SOps.q rfl (.plain rfl) rfl (q_assign rfl rfl) ?_
    refine SOps.sub (st' := ⟨[(2, .c (.bool false))], []⟩) (sub_gen [] rfl rfl ⟨zc rfl rfl, trivial⟩ trivial) ?_
    refine SOps.nil ?_
    refine SCode.ret ?_
    obtain rfl := Option.some.inj h
    exact ⟨⟨[(2, .c (.bool false))], []⟩, _, sub_gen [] rfl rfl ⟨zc rfl rfl, trivial⟩ trivial, resA1 (v := .c (.bool false)) rfl rfl, rfl⟩
  refine SCode.region (show SOps _ _ _ [0, 1, 2, 3, 4, 5, 6, 7, 8, 9] _ _ from ?_)
  refine SOps.q rfl (.plain rfl) rfl (q_field_ptr rfl rfl fd29_6) ?_
  refine SOps.q rfl (.plain rfl) rfl (q_field_ptr rfl rfl fd26_0) ?_
  refine SOps.q rfl (.plain rfl) rfl (q_load_ptr rfl rfl rfl rfl ty3) ?_
  refine SOps.q rfl (.plain rfl) rfl (q_lss rfl rfl rfl) ?_
  refine SOps.q rfl (.plain rfl) rfl (q_move rfl rfl) ?_
  refine SOps.q rfl (.guard 4 7 false rfl rfl (gF g1)) rfl (q_field_ptr rfl rfl fd29_6) ?_
  refine SOps.q rfl (.guard 4 7 false rfl rfl (gF g1)) rfl (q_field_ptr rfl rfl fd26_0) ?_
  refine SOps.q rfl (.guard 4 7 false rfl rfl (gF g1)) rfl (q_load_ptr rfl rfl rfl rfl ty3) ?_
  refine SOps.q rfl (.guard 4 7 false rfl rfl (gF g1)) rfl (q_gtr rfl rfl rfl) ?_
  refine SOps.q rfl (.plain rfl) rfl (q_pick_f rfl rfl g1 rfl) ?_
  refine SOps.sub (st' := ⟨[(1, .c (.ptr 0 0)), (12, .c (.bool (decide (268435456 < a0_p.Span_From))))], [.box [.int .i64 a0_p.ID, .int .i64 a0_p.Level, .int .i64 a0_p.Purpose, .int .i64 a0_p.Kind, .int .i64 a0_p.Conn, .str a0_p.Txn, .int .i64 a0_p.Span_From, .int .i64 a0_p.Span_To, .int .i64 a0_p.Start, .int .i64 a0_p.Duration, .vec a0_p.Periods.length 2 (gL cSPeriod dSPeriod a0_p.Periods)]]⟩) (sub_gen [0] rfl rfl ⟨zc rfl rfl, zc rfl rfl, trivial⟩ ⟨⟨_, rfl, ⟨ii rfl rfl, ii rfl rfl, ii rfl rfl, ii rfl rfl, ii rfl rfl, ii rfl rfl, ii rfl rfl, ii rfl rfl, ii rfl rfl, ii rfl rfl, ii rfl rfl, trivial⟩⟩, trivial⟩) ?_
  refine SOps.nil ?_
  rcases cond_out h with ⟨g2, h⟩ | ⟨g2, h⟩
  · refine SCode.cond_t rfl g2 ?_
    refine SCode.seq ?_
    refine SCode.region (show SOps _ _ _ [0] _ _ from ?_)
    refine SOps.q rfl (.plain rfl) rfl (q_assign rfl rfl) ?_
    refine SOps.sub (st' := ⟨[(2, .c (.bool false))], []⟩) (sub_gen [] rfl rfl ⟨zc rfl rfl, trivial⟩ trivial) ?_
    refine SOps.nil ?_
    refine SCode.ret ?_
    obtain rfl := Option.some.inj h
    exact ⟨⟨[(2, .c (.bool false))], []⟩, _, sub_gen [] rfl rfl ⟨zc rfl rfl, trivial⟩ trivial, resA1 (v := .c (.bool false)) rfl rfl, rfl⟩
  refine SCode.cond_f rfl g2 ?_
  refine SCode.skip ?_
  refine SCode.join (σ := Unit) (S := fun s => ⟨[(1, .c (.ptr 0 0))], [.box [.int .i64 a0_p.ID, .int .i64 a0_p.Level, .int .i64 a0_p.Purpose, .int .i64 a0_p.Kind, .int .i64 a0_p.Conn, .str a0_p.Txn, .int .i64 a0_p.Span_From, .int .i64 a0_p.Span_To, .int .i64 a0_p.Start, .int .i64 a0_p.Duration, .vec a0_p.Periods.length 2 (gL cSPeriod dSPeriod a0_p.Periods)]]⟩) (g := fun s => profile_times_p10 a0_p = some r) ?_ ?_
  rotate_left
  · refine SCode.seq ?_
    rcases cond_out h with ⟨g11, h⟩ | ⟨g11, h⟩
    · rcases cond_out h with ⟨g12, h⟩ | ⟨g12, h⟩
      · refine SCode.region (show SOps _ _ _ [0, 1, 2, 3, 4, 5, 6, 7, 8, 9, 10, 11, 12, 13, 14, 15, 16, 17, 18] _ _ from ?_)
        refine SOps.q rfl (.plain rfl) rfl (q_field_ptr rfl rfl fd29_6) ?_
        refine SOps.q rfl (.plain rfl) rfl (q_field_ptr rfl rfl fd26_1) ?_
        refine SOps.q rfl (.plain rfl) rfl (q_load_ptr rfl rfl rfl rfl ty3) ?_
        refine SOps.q rfl (.plain rfl) rfl (q_neq rfl rfl rfl) ?_
        refine SOps.q rfl (.plain rfl) rfl (q_move rfl rfl) ?_
        refine SOps.q rfl (.guard 4 17 true rfl rfl (gT g11)) rfl (q_field_ptr rfl rfl fd29_6) ?_
        refine SOps.q rfl (.guard 4 17 true rfl rfl (gT g11)) rfl (q_field_ptr rfl rfl fd26_1) ?_
        refine SOps.q rfl (.guard 4 17 true rfl rfl (gT g11)) rfl (q_load_ptr rfl rfl rfl rfl ty3) ?_
        refine SOps.q rfl (.guard 4 17 true rfl rfl (gT g11)) rfl (q_field_ptr rfl rfl fd29_6) ?_
        refine SOps.q rfl (.guard 4 17 true rfl rfl (gT g11)) rfl (q_field_ptr rfl rfl fd26_0) ?_
        refine SOps.q rfl (.guard 4 17 true rfl rfl (gT g11)) rfl (q_load_ptr rfl rfl rfl rfl ty3) ?_
        refine SOps.q rfl (.guard 4 17 true rfl rfl (gT g11)) rfl (q_lss rfl rfl rfl) ?_
        refine SOps.q rfl (.guard 4 17 true rfl rfl (gT g11)) rfl (q_move rfl rfl) ?_
        refine SOps.skip rfl 12 25 false rfl rfl (.inl (gT g12)) rfl ?_
        refine SOps.skip rfl 12 25 false rfl rfl (.inl (gT g12)) rfl ?_
        refine SOps.skip rfl 12 25 false rfl rfl (.inl (gT g12)) rfl ?_
        refine SOps.skip rfl 12 25 false rfl rfl (.inl (gT g12)) rfl ?_
        refine SOps.q rfl (.guard 4 17 true rfl rfl (gT g11)) rfl (q_pick_t rfl rfl g12 rfl) ?_
        refine SOps.q rfl (.plain rfl) rfl (q_pick_t rfl rfl g11 rfl) ?_
        refine SOps.sub (st' := ⟨[(1, .c (.ptr 0 0)), (31, .c (.bool true))], [.box [.int .i64 a0_p.ID, .int .i64 a0_p.Level, .int .i64 a0_p.Purpose, .int .i64 a0_p.Kind, .int .i64 a0_p.Conn, .str a0_p.Txn, .int .i64 a0_p.Span_From, .int .i64 a0_p.Span_To, .int .i64 a0_p.Start, .int .i64 a0_p.Duration, .vec a0_p.Periods.length 2 (gL cSPeriod dSPeriod a0_p.Periods)]]⟩) (sub_gen [0] rfl rfl ⟨zc rfl rfl, zc rfl rfl, trivial⟩ ⟨⟨_, rfl, ⟨ii rfl rfl, ii rfl rfl, ii rfl rfl, ii rfl rfl, ii rfl rfl, ii rfl rfl, ii rfl rfl, ii rfl rfl, ii rfl rfl, ii rfl rfl, ii rfl rfl, trivial⟩⟩, trivial⟩) ?_
        refine SOps.nil ?_
        refine SCode.cond_t rfl rfl ?_
        refine SCode.seq ?_
        refine SCode.region (show SOps _ _ _ [0] _ _ from ?_)
        refine SOps.q rfl (.plain rfl) rfl (q_assign rfl rfl) ?_
        refine SOps.sub (st' := ⟨[(2, .c (.bool false))], []⟩) (sub_gen [] rfl rfl ⟨zc rfl rfl, trivial⟩ trivial) ?_
        refine SOps.nil ?_
        refine SCode.ret ?_
        obtain rfl := Option.some.inj h
        exact ⟨⟨[(2, .c (.bool false))], []⟩, _, sub_gen [] rfl rfl ⟨zc rfl rfl, trivial⟩ trivial, resA1 (v := .c (.bool false)) rfl rfl, rfl⟩
      refine SCode.region (show SOps _ _ _ [0, 1, 2, 3, 4, 5, 6, 7, 8, 9, 10, 11, 12, 13, 14, 15, 16, 17, 18] _ _ from ?_)
      refine SOps.q rfl (.plain rfl) rfl (q_field_ptr rfl rfl fd29_6) ?_
      refine SOps.q rfl (.plain rfl) rfl (q_field_ptr rfl rfl fd26_1) ?_
      refine SOps.q rfl (.plain rfl) rfl (q_load_ptr rfl rfl rfl rfl ty3) ?_
      refine SOps.q rfl (.plain rfl) rfl (q_neq rfl rfl rfl) ?_
      refine SOps.q rfl (.plain rfl) rfl (q_move rfl rfl) ?_
      refine SOps.q rfl (.guard 4 17 true rfl rfl (gT g11)) rfl (q_field_ptr rfl rfl fd29_6) ?_
      refine SOps.q rfl (.guard 4 17 true rfl rfl (gT g11)) rfl (q_field_ptr rfl rfl fd26_1) ?_
      refine SOps.q rfl (.guard 4 17 true rfl rfl (gT g11)) rfl (q_load_ptr rfl rfl rfl rfl ty3) ?_
      refine SOps.q rfl (.guard 4 17 true rfl rfl (gT g11)) rfl (q_field_ptr rfl rfl fd29_6) ?_
      refine SOps.q rfl (.guard 4 17 true rfl rfl (gT g11)) rfl (q_field_ptr rfl rfl fd26_0) ?_
      refine SOps.q rfl (.guard 4 17 true rfl rfl (gT g11)) rfl (q_load_ptr rfl rfl rfl rfl ty3) ?_
      refine SOps.q rfl (.guard 4 17 true rfl rfl (gT g11)) rfl (q_lss rfl rfl rfl) ?_
      refine SOps.q rfl (.guard 4 17 true rfl rfl (gT g11)) rfl (q_move rfl rfl) ?_
      refine SOps.q rfl (.guard 12 25 false rfl rfl (gF g12)) rfl (q_field_ptr rfl rfl fd29_6) ?_
      refine SOps.q rfl (.guard 12 25 false rfl rfl (gF g12)) rfl (q_field_ptr rfl rfl fd26_1) ?_
      refine SOps.q rfl (.guard 12 25 false rfl rfl (gF g12)) rfl (q_load_ptr rfl rfl rfl rfl ty3) ?_
      refine SOps.q rfl (.guard 12 25 false rfl rfl (gF g12)) rfl (q_gtr rfl rfl rfl) ?_
      refine SOps.q rfl (.guard 4 17 true rfl rfl (gT g11)) rfl (q_pick_f rfl rfl g12 rfl) ?_
      refine SOps.q rfl (.plain rfl) rfl (q_pick_t rfl rfl g11 rfl) ?_
      refine SOps.sub (st' := ⟨[(1, .c (.ptr 0 0)), (31, .c (.bool (decide (268435456 < a0_p.Span_To))))], [.box [.int .i64 a0_p.ID, .int .i64 a0_p.Level, .int .i64 a0_p.Purpose, .int .i64 a0_p.Kind, .int .i64 a0_p.Conn, .str a0_p.Txn, .int .i64 a0_p.Span_From, .int .i64 a0_p.Span_To, .int .i64 a0_p.Start, .int .i64 a0_p.Duration, .vec a0_p.Periods.length 2 (gL cSPeriod dSPeriod a0_p.Periods)]]⟩) (sub_gen [0] rfl rfl ⟨zc rfl rfl, zc rfl rfl, trivial⟩ ⟨⟨_, rfl, ⟨ii rfl rfl, ii rfl rfl, ii rfl rfl, ii rfl rfl, ii rfl rfl, ii rfl rfl, ii rfl rfl, ii rfl rfl, ii rfl rfl, ii rfl rfl, ii rfl rfl, trivial⟩⟩, trivial⟩) ?_
      refine SOps.nil ?_
      rcases cond_out h with ⟨g13, h⟩ | ⟨g13, h⟩
      · refine SCode.cond_t rfl g13 ?_
        refine SCode.seq ?_
        refine SCode.region (show SOps _ _ _ [0] _ _ from ?_)
        refine SOps.q rfl (.plain rfl) rfl (q_assign rfl rfl) ?_
        refine SOps.sub (st' := ⟨[(2, .c (.bool false))], []⟩) (sub_gen [] rfl rfl ⟨zc rfl rfl, trivial⟩ trivial) ?_
        refine SOps.nil ?_
        refine SCode.ret ?_
        obtain rfl := Option.some.inj h
        exact ⟨⟨[(2, .c (.bool false))], []⟩, _, sub_gen [] rfl rfl ⟨zc rfl rfl, trivial⟩ trivial, resA1 (v := .c (.bool false)) rfl rfl, rfl⟩
      refine SCode.cond_f rfl g13 ?_
      refine SCode.skip ?_
      exact ⟨(), h, sub_gen [0] rfl rfl ⟨zc rfl rfl, trivial⟩ ⟨⟨_, rfl, ⟨ii rfl rfl, ii rfl rfl, ii rfl rfl, ii rfl rfl, ii rfl rfl, ii rfl rfl, ii rfl rfl, ii rfl rfl, ii rfl rfl, ii rfl rfl, ii rfl rfl, trivial⟩⟩, trivial⟩⟩
    refine SCode.region (show SOps _ _ _ [0, 1, 2, 3, 4, 5, 6, 7, 8, 9, 10, 11, 12, 13, 14, 15, 16, 17, 18] _ _ from ?_)
    refine SOps.q rfl (.plain rfl) rfl (q_field_ptr rfl rfl fd29_6) ?_
    refine SOps.q rfl (.plain rfl) rfl (q_field_ptr rfl rfl fd26_1) ?_
    refine SOps.q rfl (.plain rfl) rfl (q_load_ptr rfl rfl rfl rfl ty3) ?_
    refine SOps.q rfl (.plain rfl) rfl (q_neq rfl rfl rfl) ?_
    refine SOps.q rfl (.plain rfl) rfl (q_move rfl rfl) ?_
    refine SOps.skip rfl 4 17 true rfl rfl (.inl (gF g11)) rfl ?_
    refine SOps.skip rfl 4 17 true rfl rfl (.inl (gF g11)) rfl ?_
    refine SOps.skip rfl 4 17 true rfl rfl (.inl (gF g11)) rfl ?_
    refine SOps.skip rfl 4 17 true rfl rfl (.inl (gF g11)) rfl ?_
    refine SOps.skip rfl 4 17 true rfl rfl (.inl (gF g11)) rfl ?_
    refine SOps.skip rfl 4 17 true rfl rfl (.inl (gF g11)) rfl ?_
    refine SOps.skip rfl 4 17 true rfl rfl (.inl (gF g11)) rfl ?_
    refine SOps.skip rfl 4 17 true rfl rfl (.inl (gF g11)) rfl ?_
    refine SOps.skip rfl 12 25 false rfl rfl (.inr rfl) rfl ?_
    refine SOps.skip rfl 12 25 false rfl rfl (.inr rfl) rfl ?_
    refine SOps.skip rfl 12 25 false rfl rfl (.inr rfl) rfl ?_
    refine SOps.skip rfl 12 25 false rfl rfl (.inr rfl) rfl ?_
    refine SOps.skip rfl 4 17 true rfl rfl (.inl (gF g11)) rfl ?_
    refine SOps.q rfl (.plain rfl) rfl (q_pick_f rfl rfl g11 rfl) ?_
    refine SOps.sub (st' := ⟨[(1, .c (.ptr 0 0)), (31, .c (.bool false))], [.box [.int .i64 a0_p.ID, .int .i64 a0_p.Level, .int .i64 a0_p.Purpose, .int .i64 a0_p.Kind, .int .i64 a0_p.Conn, .str a0_p.Txn, .int .i64 a0_p.Span_From, .int .i64 a0_p.Span_To, .int .i64 a0_p.Start, .int .i64 a0_p.Duration, .vec a0_p.Periods.length 2 (gL cSPeriod dSPeriod a0_p.Periods)]]⟩) (sub_gen [0] rfl rfl ⟨zc rfl rfl, zc rfl rfl, trivial⟩ ⟨⟨_, rfl, ⟨ii rfl rfl, ii rfl rfl, ii rfl rfl, ii rfl rfl, ii rfl rfl, ii rfl rfl, ii rfl rfl, ii rfl rfl, ii rfl rfl, ii rfl rfl, ii rfl rfl, trivial⟩⟩, trivial⟩) ?_
    refine SOps.nil ?_
    refine SCode.cond_f rfl rfl ?_
    refine SCode.skip ?_
    exact ⟨(), h, sub_gen [0] rfl rfl ⟨zc rfl rfl, trivial⟩ ⟨⟨_, rfl, ⟨ii rfl rfl, ii rfl rfl, ii rfl rfl, ii rfl rfl, ii rfl rfl, ii rfl rfl, ii rfl rfl, ii rfl rfl, ii rfl rfl, ii rfl rfl, ii rfl rfl, trivial⟩⟩, trivial⟩⟩
  rintro ⟨⟩ h
  show SCode _ _ _ ⟨[(1, .c (.ptr 0 0))], [.box [.int .i64 a0_p.ID, .int .i64 a0_p.Level, .int .i64 a0_p.Purpose, .int .i64 a0_p.Kind, .int .i64 a0_p.Conn, .str a0_p.Txn, .int .i64 a0_p.Span_From, .int .i64 a0_p.Span_To, .int .i64 a0_p.Start, .int .i64 a0_p.Duration, .vec a0_p.Periods.length 2 (gL cSPeriod dSPeriod a0_p.Periods)]]⟩ _
  replace h : profile_times_p10 a0_p = some r := h
  unfold profile_times_p10 at h
  refine SCode.join (σ := Unit) (S := fun s => ⟨[(1, .c (.ptr 0 0))], [.box [.int .i64 a0_p.ID, .int .i64 a0_p.Level, .int .i64 a0_p.Purpose, .int .i64 a0_p.Kind, .int .i64 a0_p.Conn, .str a0_p.Txn, .int .i64 a0_p.Span_From, .int .i64 a0_p.Span_To, .int .i64 a0_p.Start, .int .i64 a0_p.Duration, .vec a0_p.Periods.length 2 (gL cSPeriod dSPeriod a0_p.Periods)]]⟩) (g := fun s => profile_times_p5 a0_p = some r) ?_ ?_
  rotate_left
  · refine SCode.seq ?_
    rcases cond_out h with ⟨g6, h⟩ | ⟨g6, h⟩
    · refine SCode.region (show SOps _ _ _ [0, 1, 2, 3, 4, 5, 6, 7, 8, 9, 10, 11, 12, 13, 14, 15, 16, 17] _ _ from ?_)
      refine SOps.q rfl (.plain rfl) rfl (q_field_ptr rfl rfl fd29_7) ?_
      refine SOps.q rfl (.plain rfl) rfl (q_load_ptr rfl rfl rfl rfl ty3) ?_
      refine SOps.q rfl (.plain rfl) rfl (q_lss rfl rfl rfl) ?_
      refine SOps.q rfl (.plain rfl) rfl (q_move rfl rfl) ?_
      refine SOps.skip rfl 3 35 false rfl rfl (.inl (gT g6)) rfl ?_
      refine SOps.skip rfl 3 35 false rfl rfl (.inl (gT g6)) rfl ?_
      refine SOps.skip rfl 3 35 false rfl rfl (.inl (gT g6)) rfl ?_
      refine SOps.q rfl (.plain rfl) rfl (q_pick_t rfl rfl g6 rfl) ?_
      refine SOps.q rfl (.plain rfl) rfl (q_move rfl rfl) ?_
      refine SOps.skip rfl 8 40 false rfl rfl (.inl rfl) rfl ?_
      refine SOps.skip rfl 8 40 false rfl rfl (.inl rfl) rfl ?_
      refine SOps.skip rfl 8 40 false rfl rfl (.inl rfl) rfl ?_
      refine SOps.skip rfl 8 40 false rfl rfl (.inl rfl) rfl ?_
      refine SOps.skip rfl 12 44 true rfl rfl (.inr rfl) rfl ?_
      refine SOps.skip rfl 12 44 true rfl rfl (.inr rfl) rfl ?_
      refine SOps.skip rfl 12 44 true rfl rfl (.inr rfl) rfl ?_
      refine SOps.skip rfl 8 40 false rfl rfl (.inl rfl) rfl ?_
      refine SOps.q rfl (.plain rfl) rfl (q_pick_t rfl rfl rfl rfl) ?_
      refine SOps.sub (st' := ⟨[(1, .c (.ptr 0 0)), (49, .c (.bool true))], [.box [.int .i64 a0_p.ID, .int .i64 a0_p.Level, .int .i64 a0_p.Purpose, .int .i64 a0_p.Kind, .int .i64 a0_p.Conn, .str a0_p.Txn, .int .i64 a0_p.Span_From, .int .i64 a0_p.Span_To, .int .i64 a0_p.Start, .int .i64 a0_p.Duration, .vec a0_p.Periods.length 2 (gL cSPeriod dSPeriod a0_p.Periods)]]⟩) (sub_gen [0] rfl rfl ⟨zc rfl rfl, zc rfl rfl, trivial⟩ ⟨⟨_, rfl, ⟨ii rfl rfl, ii rfl rfl, ii rfl rfl, ii rfl rfl, ii rfl rfl, ii rfl rfl, ii rfl rfl, ii rfl rfl, ii rfl rfl, ii rfl rfl, ii rfl rfl, trivial⟩⟩, trivial⟩) ?_
      refine SOps.nil ?_
      refine SCode.cond_t rfl rfl ?_
      refine SCode.seq ?_
      refine SCode.region (show SOps _ _ _ [0] _ _ from ?_)
      refine SOps.q rfl (.plain rfl) rfl (q_assign rfl rfl) ?_
      refine SOps.sub (st' := ⟨[(2, .c (.bool false))], []⟩) (sub_gen [] rfl rfl ⟨zc rfl rfl, trivial⟩ trivial) ?_
      refine SOps.nil ?_
      refine SCode.ret ?_
      obtain rfl := Option.some.inj h
      exact ⟨⟨[(2, .c (.bool false))], []⟩, _, sub_gen [] rfl rfl ⟨zc rfl rfl, trivial⟩ trivial, resA1 (v := .c (.bool false)) rfl rfl, rfl⟩
    rcases cond_out h with ⟨g7, h⟩ | ⟨g7, h⟩
    · refine SCode.region (show SOps _ _ _ [0, 1, 2, 3, 4, 5, 6, 7, 8, 9, 10, 11, 12, 13, 14, 15, 16, 17] _ _ from ?_)
      refine SOps.q rfl (.plain rfl) rfl (q_field_ptr rfl rfl fd29_7) ?_
      refine SOps.q rfl (.plain rfl) rfl (q_load_ptr rfl rfl rfl rfl ty3) ?_
      refine SOps.q rfl (.plain rfl) rfl (q_lss rfl rfl rfl) ?_
      refine SOps.q rfl (.plain rfl) rfl (q_move rfl rfl) ?_
      refine SOps.q rfl (.guard 3 35 false rfl rfl (gF g6)) rfl (q_field_ptr rfl rfl fd29_7) ?_
      refine SOps.q rfl (.guard 3 35 false rfl rfl (gF g6)) rfl (q_load_ptr rfl rfl rfl rfl ty3) ?_
      refine SOps.q rfl (.guard 3 35 false rfl rfl (gF g6)) rfl (q_gtr rfl rfl rfl) ?_
      refine SOps.q rfl (.plain rfl) rfl (q_pick_f rfl rfl g6 rfl) ?_
      refine SOps.q rfl (.plain rfl) rfl (q_move rfl rfl) ?_
      refine SOps.skip rfl 8 40 false rfl rfl (.inl (gT g7)) rfl ?_
      refine SOps.skip rfl 8 40 false rfl rfl (.inl (gT g7)) rfl ?_
      refine SOps.skip rfl 8 40 false rfl rfl (.inl (gT g7)) rfl ?_
      refine SOps.skip rfl 8 40 false rfl rfl (.inl (gT g7)) rfl ?_
      refine SOps.skip rfl 12 44 true rfl rfl (.inr rfl) rfl ?_
      refine SOps.skip rfl 12 44 true rfl rfl (.inr rfl) rfl ?_
      refine SOps.skip rfl 12 44 true rfl rfl (.inr rfl) rfl ?_
      refine SOps.skip rfl 8 40 false rfl rfl (.inl (gT g7)) rfl ?_
      refine SOps.q rfl (.plain rfl) rfl (q_pick_t rfl rfl g7 rfl) ?_
      refine SOps.sub (st' := ⟨[(1, .c (.ptr 0 0)), (49, .c (.bool true))], [.box [.int .i64 a0_p.ID, .int .i64 a0_p.Level, .int .i64 a0_p.Purpose, .int .i64 a0_p.Kind, .int .i64 a0_p.Conn, .str a0_p.Txn, .int .i64 a0_p.Span_From, .int .i64 a0_p.Span_To, .int .i64 a0_p.Start, .int .i64 a0_p.Duration, .vec a0_p.Periods.length 2 (gL cSPeriod dSPeriod a0_p.Periods)]]⟩) (sub_gen [0] rfl rfl ⟨zc rfl rfl, zc rfl rfl, trivial⟩ ⟨⟨_, rfl, ⟨ii rfl rfl, ii rfl rfl, ii rfl rfl, ii rfl rfl, ii rfl rfl, ii rfl rfl, ii rfl rfl, ii rfl rfl, ii rfl rfl, ii rfl rfl, ii rfl rfl, trivial⟩⟩, trivial⟩) ?_
      refine SOps.nil ?_
      refine SCode.cond_t rfl rfl ?_
      refine SCode.seq ?_
      refine SCode.region (show SOps _ _ _ [0] _ _ from ?_)
      refine SOps.q rfl (.plain rfl) rfl (q_assign rfl rfl) ?_
      refine SOps.sub (st' := ⟨[(2, .c (.bool false))], []⟩) (sub_gen [] rfl rfl ⟨zc rfl rfl, trivial⟩ trivial) ?_
      refine SOps.nil ?_
      refine SCode.ret ?_
      obtain rfl := Option.some.inj h
      exact ⟨⟨[(2, .c (.bool false))], []⟩, _, sub_gen [] rfl rfl ⟨zc rfl rfl, trivial⟩ trivial, resA1 (v := .c (.bool false)) rfl rfl, rfl⟩
    rcases cond_out h with ⟨g8, h⟩ | ⟨g8, h⟩
    · refine SCode.region (show SOps _ _ _ [0, 1, 2, 3, 4, 5, 6, 7, 8, 9, 10, 11, 12, 13, 14, 15, 16, 17] _ _ from ?_)
      refine SOps.q rfl (.plain rfl) rfl (q_field_ptr rfl rfl fd29_7) ?_
      refine SOps.q rfl (.plain rfl) rfl (q_load_ptr rfl rfl rfl rfl ty3) ?_
      refine SOps.q rfl (.plain rfl) rfl (q_lss rfl rfl rfl) ?_
      refine SOps.q rfl (.plain rfl) rfl (q_move rfl rfl) ?_
      refine SOps.q rfl (.guard 3 35 false rfl rfl (gF g6)) rfl (q_field_ptr rfl rfl fd29_7) ?_
      refine SOps.q rfl (.guard 3 35 false rfl rfl (gF g6)) rfl (q_load_ptr rfl rfl rfl rfl ty3) ?_
      refine SOps.q rfl (.guard 3 35 false rfl rfl (gF g6)) rfl (q_gtr rfl rfl rfl) ?_
      refine SOps.q rfl (.plain rfl) rfl (q_pick_f rfl rfl g6 rfl) ?_
      refine SOps.q rfl (.plain rfl) rfl (q_move rfl rfl) ?_
      refine SOps.q rfl (.guard 8 40 false rfl rfl (gF g7)) rfl (q_field_ptr rfl rfl fd29_3) ?_
      refine SOps.q rfl (.guard 8 40 false rfl rfl (gF g7)) rfl (q_load_ptr rfl rfl rfl rfl ty3) ?_
      refine SOps.q rfl (.guard 8 40 false rfl rfl (gF g7)) rfl (q_eql rfl rfl rfl) ?_
      refine SOps.q rfl (.guard 8 40 false rfl rfl (gF g7)) rfl (q_move rfl rfl) ?_
      refine SOps.q rfl (.guard 12 44 true rfl rfl (gT g8)) rfl (q_field_ptr rfl rfl fd29_7) ?_
      refine SOps.q rfl (.guard 12 44 true rfl rfl (gT g8)) rfl (q_load_ptr rfl rfl rfl rfl ty3) ?_
      refine SOps.q rfl (.guard 12 44 true rfl rfl (gT g8)) rfl (q_neq rfl rfl rfl) ?_
      refine SOps.q rfl (.guard 8 40 false rfl rfl (gF g7)) rfl (q_pick_t rfl rfl g8 rfl) ?_
      refine SOps.q rfl (.plain rfl) rfl (q_pick_f rfl rfl g7 rfl) ?_
      refine SOps.sub (st' := ⟨[(1, .c (.ptr 0 0)), (49, .c (.bool ((!decide (a0_p.Start = 0)))))], [.box [.int .i64 a0_p.ID, .int .i64 a0_p.Level, .int .i64 a0_p.Purpose, .int .i64 a0_p.Kind, .int .i64 a0_p.Conn, .str a0_p.Txn, .int .i64 a0_p.Span_From, .int .i64 a0_p.Span_To, .int .i64 a0_p.Start, .int .i64 a0_p.Duration, .vec a0_p.Periods.length 2 (gL cSPeriod dSPeriod a0_p.Periods)]]⟩) (sub_gen [0] rfl rfl ⟨zc rfl rfl, zc rfl rfl, trivial⟩ ⟨⟨_, rfl, ⟨ii rfl rfl, ii rfl rfl, ii rfl rfl, ii rfl rfl, ii rfl rfl, ii rfl rfl, ii rfl rfl, ii rfl rfl, ii rfl rfl, ii rfl rfl, ii rfl rfl, trivial⟩⟩, trivial⟩) ?_
      refine SOps.nil ?_
      rcases cond_out h with ⟨g9, h⟩ | ⟨g9, h⟩
      · refine SCode.cond_t rfl g9 ?_
        refine SCode.seq ?_
        refine SCode.region (show SOps _ _ _ [0] _ _ from ?_)
        refine SOps.q rfl (.plain rfl) rfl (q_assign rfl rfl) ?_
        refine SOps.sub (st' := ⟨[(2, .c (.bool false))], []⟩) (sub_gen [] rfl rfl ⟨zc rfl rfl, trivial⟩ trivial) ?_
        refine SOps.nil ?_
        refine SCode.ret ?_
        obtain rfl := Option.some.inj h
        exact ⟨⟨[(2, .c (.bool false))], []⟩, _, sub_gen [] rfl rfl ⟨zc rfl rfl, trivial⟩ trivial, resA1 (v := .c (.bool false)) rfl rfl, rfl⟩
      refine SCode.cond_f rfl g9 ?_
      refine SCode.skip ?_
      exact ⟨(), h, sub_gen [0] rfl rfl ⟨zc rfl rfl, trivial⟩ ⟨⟨_, rfl, ⟨ii rfl rfl, ii rfl rfl, ii rfl rfl, ii rfl rfl, ii rfl rfl, ii rfl rfl, ii rfl rfl, ii rfl rfl, ii rfl rfl, ii rfl rfl, ii rfl rfl, trivial⟩⟩, trivial⟩⟩
    refine SCode.region (show SOps _ _ _ [0, 1, 2, 3, 4, 5, 6, 7, 8, 9, 10, 11, 12, 13, 14, 15, 16, 17] _ _ from ?_)
    refine SOps.q rfl (.plain rfl) rfl (q_field_ptr rfl rfl fd29_7) ?_
    refine SOps.q rfl (.plain rfl) rfl (q_load_ptr rfl rfl rfl rfl ty3) ?_
    refine SOps.q rfl (.plain rfl) rfl (q_lss rfl rfl rfl) ?_
    refine SOps.q rfl (.plain rfl) rfl (q_move rfl rfl) ?_
    refine SOps.q rfl (.guard 3 35 false rfl rfl (gF g6)) rfl (q_field_ptr rfl rfl fd29_7) ?_
    refine SOps.q rfl (.guard 3 35 false rfl rfl (gF g6)) rfl (q_load_ptr rfl rfl rfl rfl ty3) ?_
    refine SOps.q rfl (.guard 3 35 false rfl rfl (gF g6)) rfl (q_gtr rfl rfl rfl) ?_
    refine SOps.q rfl (.plain rfl) rfl (q_pick_f rfl rfl g6 rfl) ?_
    refine SOps.q rfl (.plain rfl) rfl (q_move rfl rfl) ?_
    refine SOps.q rfl (.guard 8 40 false rfl rfl (gF g7)) rfl (q_field_ptr rfl rfl fd29_3) ?_
    refine SOps.q rfl (.guard 8 40 false rfl rfl (gF g7)) rfl (q_load_ptr rfl rfl rfl rfl ty3) ?_
    refine SOps.q rfl (.guard 8 40 false rfl rfl (gF g7)) rfl (q_eql rfl rfl rfl) ?_
    refine SOps.q rfl (.guard 8 40 false rfl rfl (gF g7)) rfl (q_move rfl rfl) ?_
    refine SOps.skip rfl 12 44 true rfl rfl (.inl (gF g8)) rfl ?_
    refine SOps.skip rfl 12 44 true rfl rfl (.inl (gF g8)) rfl ?_
    refine SOps.skip rfl 12 44 true rfl rfl (.inl (gF g8)) rfl ?_
    refine SOps.q rfl (.guard 8 40 false rfl rfl (gF g7)) rfl (q_pick_f rfl rfl g8 rfl) ?_
    refine SOps.q rfl (.plain rfl) rfl (q_pick_f rfl rfl g7 rfl) ?_
    refine SOps.sub (st' := ⟨[(1, .c (.ptr 0 0)), (49, .c (.bool false))], [.box [.int .i64 a0_p.ID, .int .i64 a0_p.Level, .int .i64 a0_p.Purpose, .int .i64 a0_p.Kind, .int .i64 a0_p.Conn, .str a0_p.Txn, .int .i64 a0_p.Span_From, .int .i64 a0_p.Span_To, .int .i64 a0_p.Start, .int .i64 a0_p.Duration, .vec a0_p.Periods.length 2 (gL cSPeriod dSPeriod a0_p.Periods)]]⟩) (sub_gen [0] rfl rfl ⟨zc rfl rfl, zc rfl rfl, trivial⟩ ⟨⟨_, rfl, ⟨ii rfl rfl, ii rfl rfl, ii rfl rfl, ii rfl rfl, ii rfl rfl, ii rfl rfl, ii rfl rfl, ii rfl rfl, ii rfl rfl, ii rfl rfl, ii rfl rfl, trivial⟩⟩, trivial⟩) ?_
    refine SOps.nil ?_
    refine SCode.cond_f rfl rfl ?_
    refine SCode.skip ?_
    exact ⟨(), h, sub_gen [0] rfl rfl ⟨zc rfl rfl, trivial⟩ ⟨⟨_, rfl, ⟨ii rfl rfl, ii rfl rfl, ii rfl rfl, ii rfl rfl, ii rfl rfl, ii rfl rfl, ii rfl rfl, ii rfl rfl, ii rfl rfl, ii rfl rfl, ii rfl rfl, trivial⟩⟩, trivial⟩⟩
  rintro ⟨⟩ h
  show SCode _ _ _ ⟨[(1, .c (.ptr 0 0))], [.box [.int .i64 a0_p.ID, .int .i64 a0_p.Level, .int .i64 a0_p.Purpose, .int .i64 a0_p.Kind, .int .i64 a0_p.Conn, .str a0_p.Txn, .int .i64 a0_p.Span_From, .int .i64 a0_p.Span_To, .int .i64 a0_p.Start, .int .i64 a0_p.Duration, .vec a0_p.Periods.length 2 (gL cSPeriod dSPeriod a0_p.Periods)]]⟩ _
  replace h : profile_times_p5 a0_p = some r := h
  unfold profile_times_p5 at h
  refine SCode.seq ?_
  rcases cond_out h with ⟨g3, h⟩ | ⟨g3, h⟩
  · refine SCode.region (show SOps _ _ _ [0, 1, 2, 3, 4, 5, 6, 7, 8, 9, 10, 11, 12, 13] _ _ from ?_)
    refine SOps.q rfl (.plain rfl) rfl (q_field_ptr rfl rfl fd29_8) ?_
    refine SOps.q rfl (.plain rfl) rfl (q_load_ptr rfl rfl rfl rfl ty3) ?_
    refine SOps.q rfl (.plain rfl) rfl (q_eql rfl rfl rfl) ?_
    refine SOps.q rfl (.plain rfl) rfl (q_move rfl rfl) ?_
    refine SOps.skip rfl 3 53 false rfl rfl (.inl (gT g3)) rfl ?_
    refine SOps.skip rfl 3 53 false rfl rfl (.inl (gT g3)) rfl ?_
    refine SOps.skip rfl 3 53 false rfl rfl (.inl (gT g3)) rfl ?_
    refine SOps.skip rfl 3 53 false rfl rfl (.inl (gT g3)) rfl ?_
    refine SOps.skip rfl 7 57 true rfl rfl (.inr rfl) rfl ?_
    refine SOps.skip rfl 7 57 true rfl rfl (.inr rfl) rfl ?_
    refine SOps.skip rfl 7 57 true rfl rfl (.inr rfl) rfl ?_
    refine SOps.skip rfl 3 53 false rfl rfl (.inl (gT g3)) rfl ?_
    refine SOps.q rfl (.plain rfl) rfl (q_pick_t rfl rfl g3 rfl) ?_
    refine SOps.q rfl (.plain rfl) rfl (q_assign rfl rfl) ?_
    refine SOps.sub (st' := ⟨[(2, .c (.bool true))], []⟩) (sub_gen [] rfl rfl ⟨zc rfl rfl, trivial⟩ trivial) ?_
    refine SOps.nil ?_
    refine SCode.ret ?_
    obtain rfl := Option.some.inj h
    exact ⟨⟨[(2, .c (.bool true))], []⟩, _, sub_gen [] rfl rfl ⟨zc rfl rfl, trivial⟩ trivial, resA1 (v := .c (.bool true)) rfl rfl, rfl⟩
  rcases cond_out h with ⟨g4, h⟩ | ⟨g4, h⟩
  · refine SCode.region (show SOps _ _ _ [0, 1, 2, 3, 4, 5, 6, 7, 8, 9, 10, 11, 12, 13] _ _ from ?_)
    refine SOps.q rfl (.plain rfl) rfl (q_field_ptr rfl rfl fd29_8) ?_
    refine SOps.q rfl (.plain rfl) rfl (q_load_ptr rfl rfl rfl rfl ty3) ?_
    refine SOps.q rfl (.plain rfl) rfl (q_eql rfl rfl rfl) ?_
    refine SOps.q rfl (.plain rfl) rfl (q_move rfl rfl) ?_
    refine SOps.q rfl (.guard 3 53 false rfl rfl (gF g3)) rfl (q_field_ptr rfl rfl fd29_8) ?_
    refine SOps.q rfl (.guard 3 53 false rfl rfl (gF g3)) rfl (q_load_ptr rfl rfl rfl rfl ty3) ?_
    refine SOps.q rfl (.guard 3 53 false rfl rfl (gF g3)) rfl (q_geq rfl rfl rfl) ?_
    refine SOps.q rfl (.guard 3 53 false rfl rfl (gF g3)) rfl (q_move rfl rfl) ?_
    refine SOps.q rfl (.guard 7 57 true rfl rfl (gT g4)) rfl (q_field_ptr rfl rfl fd29_8) ?_
    refine SOps.q rfl (.guard 7 57 true rfl rfl (gT g4)) rfl (q_load_ptr rfl rfl rfl rfl ty3) ?_
    refine SOps.q rfl (.guard 7 57 true rfl rfl (gT g4)) rfl (q_leq rfl rfl rfl) ?_
    refine SOps.q rfl (.guard 3 53 false rfl rfl (gF g3)) rfl (q_pick_t rfl rfl g4 rfl) ?_
    refine SOps.q rfl (.plain rfl) rfl (q_pick_f rfl rfl g3 rfl) ?_
    refine SOps.q rfl (.plain rfl) rfl (q_assign rfl rfl) ?_
    refine SOps.sub (st' := ⟨[(2, .c (.bool (decide (a0_p.Duration ≤ 268435456))))], []⟩) (sub_gen [] rfl rfl ⟨zc rfl rfl, trivial⟩ trivial) ?_
    refine SOps.nil ?_
    refine SCode.ret ?_
    obtain rfl := Option.some.inj h
    exact ⟨⟨[(2, .c (.bool (decide (a0_p.Duration ≤ 268435456))))], []⟩, _, sub_gen [] rfl rfl ⟨zc rfl rfl, trivial⟩ trivial, resA1 (v := .c (.bool (decide (a0_p.Duration ≤ 268435456)))) rfl rfl, rfl⟩
  refine SCode.region (show SOps _ _ _ [0, 1, 2, 3, 4, 5, 6, 7, 8, 9, 10, 11, 12, 13] _ _ from ?_)
  refine SOps.q rfl (.plain rfl) rfl (q_field_ptr rfl rfl fd29_8) ?_
  refine SOps.q rfl (.plain rfl) rfl (q_load_ptr rfl rfl rfl rfl ty3) ?_
  refine SOps.q rfl (.plain rfl) rfl (q_eql rfl rfl rfl) ?_
  refine SOps.q rfl (.plain rfl) rfl (q_move rfl rfl) ?_
  refine SOps.q rfl (.guard 3 53 false rfl rfl (gF g3)) rfl (q_field_ptr rfl rfl fd29_8) ?_
  refine SOps.q rfl (.guard 3 53 false rfl rfl (gF g3)) rfl (q_load_ptr rfl rfl rfl rfl ty3) ?_
  refine SOps.q rfl (.guard 3 53 false rfl rfl (gF g3)) rfl (q_geq rfl rfl rfl) ?_
  refine SOps.q rfl (.guard 3 53 false rfl rfl (gF g3)) rfl (q_move rfl rfl) ?_
  refine SOps.skip rfl 7 57 true rfl rfl (.inl (gF g4)) rfl ?_
  refine SOps.skip rfl 7 57 true rfl rfl (.inl (gF g4)) rfl ?_
  refine SOps.skip rfl 7 57 true rfl rfl (.inl (gF g4)) rfl ?_
  refine SOps.q rfl (.guard 3 53 false rfl rfl (gF g3)) rfl (q_pick_f rfl rfl g4 rfl) ?_
  refine SOps.q rfl (.plain rfl) rfl (q_pick_f rfl rfl g3 rfl) ?_
  refine SOps.q rfl (.plain rfl) rfl (q_assign rfl rfl) ?_
  refine SOps.sub (st' := ⟨[(2, .c (.bool false))], []⟩) (sub_gen [] rfl rfl ⟨zc rfl rfl, trivial⟩ trivial) ?_
  refine SOps.nil ?_
  refine SCode.ret ?_
  obtain rfl := Option.some.inj h
  exact ⟨⟨[(2, .c (.bool false))], []⟩, _, sub_gen [] rfl rfl ⟨zc rfl rfl, trivial⟩ trivial, resA1 (v := .c (.bool false)) rfl rfl, rfl⟩
end Go.Proofs.Ytfbkimhoncfnmaa.W
