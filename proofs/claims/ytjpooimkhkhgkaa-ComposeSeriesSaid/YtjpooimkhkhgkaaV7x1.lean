/- Written by a program of ours (wip/eng/gen.py): the functions compute their models. -/
import Derived.Test.YtjpooimkhkhgkaaFacts
namespace Go.Proofs.Ytjpooimkhkhgkaa.W
open Go Go.Proofs Go.Proofs.Ytjpooimkhkhgkaa.E Go.Proofs.Ytjpooimkhkhgkaa.M
set_option linter.unusedVariables false
set_option maxRecDepth 100000 in
set_option maxHeartbeats 8000000 in
theorem chargenetref15_first_ok (F : Nat) (a0_p : SProfile) (r : Bool) (h : chargenetref15_first F a0_p = some r) :
    SFun Try.prog 27 [] [.a [.int .i64 a0_p.ID, .int .i64 a0_p.Level, .int .i64 a0_p.Purpose, .int .i64 a0_p.Kind, .int .i64 a0_p.Conn, .str a0_p.Txn, .int .i64 a0_p.Span_From, .int .i64 a0_p.Span_To, .int .i64 a0_p.Start, .int .i64 a0_p.Duration, .vec a0_p.Periods.length 2 (gL cSPeriod dSPeriod a0_p.Periods)]] (fun x _ => x = .c (.bool r)) := by
  refine SFun.of (n := 51) Try.func27 rfl rfl rfl ?_
  unfold chargenetref15_first at h
  show SCode _ _ _ ⟨[(0, .a [.int .i64 a0_p.ID, .int .i64 a0_p.Level, .int .i64 a0_p.Purpose, .int .i64 a0_p.Kind, .int .i64 a0_p.Conn, .str a0_p.Txn, .int .i64 a0_p.Span_From, .int .i64 a0_p.Span_To, .int .i64 a0_p.Start, .int .i64 a0_p.Duration, .vec a0_p.Periods.length 2 (gL cSPeriod dSPeriod a0_p.Periods)])], []⟩ _
  refine SCode.seq ?_
  refine SCode.region (show SOps _ _ _ [0, 1] _ _ from ?_)
  refine SOps.e rfl (.plain rfl) (e_box rfl rfl rfl rfl rfl rfl) ?_
  refine SOps.q rfl (.plain rfl) rfl (q_assign rfl rfl) ?_
  refine SOps.sub (st' := ⟨[(1, .c (.ptr 0 0))], [.box [.int .i64 a0_p.ID, .int .i64 a0_p.Level, .int .i64 a0_p.Purpose, .int .i64 a0_p.Kind, .int .i64 a0_p.Conn, .str a0_p.Txn, .int .i64 a0_p.Span_From, .int .i64 a0_p.Span_To, .int .i64 a0_p.Start, .int .i64 a0_p.Duration, .vec a0_p.Periods.length 2 (gL cSPeriod dSPeriod a0_p.Periods)]]⟩) (sub_gen [0] rfl rfl ⟨zc rfl rfl, trivial⟩ ⟨⟨_, rfl, ⟨ii rfl rfl, ii rfl rfl, ii rfl rfl, ii rfl rfl, ii rfl rfl, ii rfl rfl, ii rfl rfl, ii rfl rfl, ii rfl rfl, ii rfl rfl, ii rfl rfl, trivial⟩⟩, trivial⟩) ?_
  refine SOps.nil ?_
  refine SCode.seq ?_
  rcases cond_out h with ⟨g1, h⟩ | ⟨g1, h⟩
  · rcases cond_out h with ⟨g2, h⟩ | ⟨g2, h⟩
    · rcases cond_out h with ⟨g3, h⟩ | ⟨g3, h⟩
      · rcases cond_out h with ⟨g4, h⟩ | ⟨g4, h⟩
        · rcases cond_out h with ⟨g5, h⟩ | ⟨g5, h⟩
          · rcases cond_out h with ⟨g6, h⟩ | ⟨g6, h⟩
            · rcases cond_out h with ⟨g7, h⟩ | ⟨g7, h⟩
              · rcases cond_out h with ⟨g8, h⟩ | ⟨g8, h⟩
                · rcases cond_out h with ⟨g9, h⟩ | ⟨g9, h⟩
                  · refine SCode.region (show SOps _ _ _ [0, 1, 2, 3, 4, 5, 6, 7, 8, 9, 10, 11, 12, 13, 14, 15, 16, 17, 18, 19, 20, 21, 22, 23, 24, 25, 26, 27, 28, 29, 30, 31, 32, 33, 34, 35, 36, 37, 38, 39, 40, 41, 42, 43, 44, 45, 46, 47, 48] _ _ from ?_)
                    refine SOps.q rfl (.plain rfl) rfl (q_field_ptr rfl rfl fd31_0) ?_
                    refine SOps.q rfl (.plain rfl) rfl (q_load_ptr rfl rfl rfl rfl ty3) ?_
                    refine SOps.q rfl (.plain rfl) rfl (q_geq rfl rfl rfl) ?_
                    refine SOps.q rfl (.plain rfl) rfl (q_move rfl rfl) ?_
                    refine SOps.q rfl (.guard 3 6 true rfl rfl (gT g1)) rfl (q_field_ptr rfl rfl fd31_0) ?_
                    refine SOps.q rfl (.guard 3 6 true rfl rfl (gT g1)) rfl (q_load_ptr rfl rfl rfl rfl ty3) ?_
                    refine SOps.q rfl (.guard 3 6 true rfl rfl (gT g1)) rfl (q_leq rfl rfl rfl) ?_
                    refine SOps.q rfl (.plain rfl) rfl (q_pick_t rfl rfl g1 rfl) ?_
                    refine SOps.q rfl (.plain rfl) rfl (q_move rfl rfl) ?_
                    refine SOps.q rfl (.guard 8 11 true rfl rfl (gT g2)) rfl (q_field_ptr rfl rfl fd31_1) ?_
                    refine SOps.q rfl (.guard 8 11 true rfl rfl (gT g2)) rfl (q_load_ptr rfl rfl rfl rfl ty3) ?_
                    refine SOps.q rfl (.guard 8 11 true rfl rfl (gT g2)) rfl (q_geq rfl rfl rfl) ?_
                    refine SOps.q rfl (.plain rfl) rfl (q_pick_t rfl rfl g2 rfl) ?_
                    refine SOps.q rfl (.plain rfl) rfl (q_move rfl rfl) ?_
                    refine SOps.q rfl (.guard 13 16 true rfl rfl (gT g3)) rfl (q_field_ptr rfl rfl fd31_1) ?_
                    refine SOps.q rfl (.guard 13 16 true rfl rfl (gT g3)) rfl (q_load_ptr rfl rfl rfl rfl ty3) ?_
                    refine SOps.q rfl (.guard 13 16 true rfl rfl (gT g3)) rfl (q_leq rfl rfl rfl) ?_
                    refine SOps.q rfl (.plain rfl) rfl (q_pick_t rfl rfl g3 rfl) ?_
                    refine SOps.q rfl (.plain rfl) rfl (q_move rfl rfl) ?_
                    refine SOps.q rfl (.guard 18 21 true rfl rfl (gT g4)) rfl (q_field_ptr rfl rfl fd31_2) ?_
                    refine SOps.q rfl (.guard 18 21 true rfl rfl (gT g4)) rfl (q_load_ptr rfl rfl rfl rfl ty3) ?_
                    refine SOps.q rfl (.guard 18 21 true rfl rfl (gT g4)) rfl (q_geq rfl rfl rfl) ?_
                    refine SOps.q rfl (.plain rfl) rfl (q_pick_t rfl rfl g4 rfl) ?_
                    refine SOps.q rfl (.plain rfl) rfl (q_move rfl rfl) ?_
                    refine SOps.q rfl (.guard 23 26 true rfl rfl (gT g5)) rfl (q_field_ptr rfl rfl fd31_2) ?_
                    refine SOps.q rfl (.guard 23 26 true rfl rfl (gT g5)) rfl (q_load_ptr rfl rfl rfl rfl ty3) ?_
                    refine SOps.q rfl (.guard 23 26 true rfl rfl (gT g5)) rfl (q_leq rfl rfl rfl) ?_
                    refine SOps.q rfl (.plain rfl) rfl (q_pick_t rfl rfl g5 rfl) ?_
                    refine SOps.q rfl (.plain rfl) rfl (q_move rfl rfl) ?_
                    refine SOps.q rfl (.guard 28 31 true rfl rfl (gT g6)) rfl (q_field_ptr rfl rfl fd31_3) ?_
                    refine SOps.q rfl (.guard 28 31 true rfl rfl (gT g6)) rfl (q_load_ptr rfl rfl rfl rfl ty3) ?_
                    refine SOps.q rfl (.guard 28 31 true rfl rfl (gT g6)) rfl (q_geq rfl rfl rfl) ?_
                    refine SOps.q rfl (.plain rfl) rfl (q_pick_t rfl rfl g6 rfl) ?_
                    refine SOps.q rfl (.plain rfl) rfl (q_move rfl rfl) ?_
                    refine SOps.q rfl (.guard 33 36 true rfl rfl (gT g7)) rfl (q_field_ptr rfl rfl fd31_3) ?_
                    refine SOps.q rfl (.guard 33 36 true rfl rfl (gT g7)) rfl (q_load_ptr rfl rfl rfl rfl ty3) ?_
                    refine SOps.q rfl (.guard 33 36 true rfl rfl (gT g7)) rfl (q_leq rfl rfl rfl) ?_
                    refine SOps.q rfl (.plain rfl) rfl (q_pick_t rfl rfl g7 rfl) ?_
                    refine SOps.q rfl (.plain rfl) rfl (q_move rfl rfl) ?_
                    refine SOps.q rfl (.guard 38 41 true rfl rfl (gT g8)) rfl (q_field_ptr rfl rfl fd31_4) ?_
                    refine SOps.q rfl (.guard 38 41 true rfl rfl (gT g8)) rfl (q_load_ptr rfl rfl rfl rfl ty3) ?_
                    refine SOps.q rfl (.guard 38 41 true rfl rfl (gT g8)) rfl (q_geq rfl rfl rfl) ?_
                    refine SOps.q rfl (.plain rfl) rfl (q_pick_t rfl rfl g8 rfl) ?_
                    refine SOps.q rfl (.plain rfl) rfl (q_move rfl rfl) ?_
                    refine SOps.q rfl (.guard 43 46 true rfl rfl (gT g9)) rfl (q_field_ptr rfl rfl fd31_4) ?_
                    refine SOps.q rfl (.guard 43 46 true rfl rfl (gT g9)) rfl (q_load_ptr rfl rfl rfl rfl ty3) ?_
                    refine SOps.q rfl (.guard 43 46 true rfl rfl (gT g9)) rfl (q_leq rfl rfl rfl) ?_
                    refine SOps.q rfl (.plain rfl) rfl (q_pick_t rfl rfl g9 rfl) ?_
                    refine SOps.q rfl (.plain rfl) rfl (q_assign rfl rfl) ?_
                    refine SOps.sub (st' := ⟨[(2, .c (.bool (decide (a0_p.Conn ≤ 32))))], []⟩) (sub_gen [] rfl rfl ⟨zc rfl rfl, trivial⟩ trivial) ?_
                    refine SOps.nil ?_
                    refine SCode.ret ?_
                    obtain rfl := Option.some.inj h
                    exact ⟨⟨[(2, .c (.bool (decide (a0_p.Conn ≤ 32))))], []⟩, _, sub_gen [] rfl rfl ⟨zc rfl rfl, trivial⟩ trivial, resA1 (v := .c (.bool (decide (a0_p.Conn ≤ 32)))) rfl rfl, rfl⟩
                  refine SCode.region (show SOps _ _ _ [0, 1, 2, 3, 4, 5, 6, 7, 8, 9, 10, 11, 12, 13, 14, 15, 16, 17, 18, 19, 20, 21, 22, 23, 24, 25, 26, 27, 28, 29, 30, 31, 32, 33, 34, 35, 36, 37, 38, 39, 40, 41, 42, 43, 44, 45, 46, 47, 48] _ _ from ?_)
                  refine SOps.q rfl (.plain rfl) rfl (q_field_ptr rfl rfl fd31_0) ?_
                  refine SOps.q rfl (.plain rfl) rfl (q_load_ptr rfl rfl rfl rfl ty3) ?_
                  refine SOps.q rfl (.plain rfl) rfl (q_geq rfl rfl rfl) ?_
                  refine SOps.q rfl (.plain rfl) rfl (q_move rfl rfl) ?_
                  refine SOps.q rfl (.guard 3 6 true rfl rfl (gT g1)) rfl (q_field_ptr rfl rfl fd31_0) ?_
                  refine SOps.q rfl (.guard 3 6 true rfl rfl (gT g1)) rfl (q_load_ptr rfl rfl rfl rfl ty3) ?_
                  refine SOps.q rfl (.guard 3 6 true rfl rfl (gT g1)) rfl (q_leq rfl rfl rfl) ?_
                  refine SOps.q rfl (.plain rfl) rfl (q_pick_t rfl rfl g1 rfl) ?_
                  refine SOps.q rfl (.plain rfl) rfl (q_move rfl rfl) ?_
                  refine SOps.q rfl (.guard 8 11 true rfl rfl (gT g2)) rfl (q_field_ptr rfl rfl fd31_1) ?_
                  refine SOps.q rfl (.guard 8 11 true rfl rfl (gT g2)) rfl (q_load_ptr rfl rfl rfl rfl ty3) ?_
                  refine SOps.q rfl (.guard 8 11 true rfl rfl (gT g2)) rfl (q_geq rfl rfl rfl) ?_
                  refine SOps.q rfl (.plain rfl) rfl (q_pick_t rfl rfl g2 rfl) ?_
                  refine SOps.q rfl (.plain rfl) rfl (q_move rfl rfl) ?_
                  refine SOps.q rfl (.guard 13 16 true rfl rfl (gT g3)) rfl (q_field_ptr rfl rfl fd31_1) ?_
                  refine SOps.q rfl (.guard 13 16 true rfl rfl (gT g3)) rfl (q_load_ptr rfl rfl rfl rfl ty3) ?_
                  refine SOps.q rfl (.guard 13 16 true rfl rfl (gT g3)) rfl (q_leq rfl rfl rfl) ?_
                  refine SOps.q rfl (.plain rfl) rfl (q_pick_t rfl rfl g3 rfl) ?_
                  refine SOps.q rfl (.plain rfl) rfl (q_move rfl rfl) ?_
                  refine SOps.q rfl (.guard 18 21 true rfl rfl (gT g4)) rfl (q_field_ptr rfl rfl fd31_2) ?_
                  refine SOps.q rfl (.guard 18 21 true rfl rfl (gT g4)) rfl (q_load_ptr rfl rfl rfl rfl ty3) ?_
                  refine SOps.q rfl (.guard 18 21 true rfl rfl (gT g4)) rfl (q_geq rfl rfl rfl) ?_
                  refine SOps.q rfl (.plain rfl) rfl (q_pick_t rfl rfl g4 rfl) ?_
                  refine SOps.q rfl (.plain rfl) rfl (q_move rfl rfl) ?_
                  refine SOps.q rfl (.guard 23 26 true rfl rfl (gT g5)) rfl (q_field_ptr rfl rfl fd31_2) ?_
                  refine SOps.q rfl (.guard 23 26 true rfl rfl (gT g5)) rfl (q_load_ptr rfl rfl rfl rfl ty3) ?_
                  refine SOps.q rfl (.guard 23 26 true rfl rfl (gT g5)) rfl (q_leq rfl rfl rfl) ?_
                  refine SOps.q rfl (.plain rfl) rfl (q_pick_t rfl rfl g5 rfl) ?_
                  refine SOps.q rfl (.plain rfl) rfl (q_move rfl rfl) ?_
                  refine SOps.q rfl (.guard 28 31 true rfl rfl (gT g6)) rfl (q_field_ptr rfl rfl fd31_3) ?_
                  refine SOps.q rfl (.guard 28 31 true rfl rfl (gT g6)) rfl (q_load_ptr rfl rfl rfl rfl ty3) ?_
                  refine SOps.q rfl (.guard 28 31 true rfl rfl (gT g6)) rfl (q_geq rfl rfl rfl) ?_
                  refine SOps.q rfl (.plain rfl) rfl (q_pick_t rfl rfl g6 rfl) ?_
                  refine SOps.q rfl (.plain rfl) rfl (q_move rfl rfl) ?_
                  refine SOps.q rfl (.guard 33 36 true rfl rfl (gT g7)) rfl (q_field_ptr rfl rfl fd31_3) ?_
                  refine SOps.q rfl (.guard 33 36 true rfl rfl (gT g7)) rfl (q_load_ptr rfl rfl rfl rfl ty3) ?_
                  refine SOps.q rfl (.guard 33 36 true rfl rfl (gT g7)) rfl (q_leq rfl rfl rfl) ?_
                  refine SOps.q rfl (.plain rfl) rfl (q_pick_t rfl rfl g7 rfl) ?_
                  refine SOps.q rfl (.plain rfl) rfl (q_move rfl rfl) ?_
                  refine SOps.q rfl (.guard 38 41 true rfl rfl (gT g8)) rfl (q_field_ptr rfl rfl fd31_4) ?_
                  refine SOps.q rfl (.guard 38 41 true rfl rfl (gT g8)) rfl (q_load_ptr rfl rfl rfl rfl ty3) ?_
                  refine SOps.q rfl (.guard 38 41 true rfl rfl (gT g8)) rfl (q_geq rfl rfl rfl) ?_
                  refine SOps.q rfl (.plain rfl) rfl (q_pick_t rfl rfl g8 rfl) ?_
                  refine SOps.q rfl (.plain rfl) rfl (q_move rfl rfl) ?_
                  refine SOps.skip rfl 43 46 true rfl rfl (.inl (gF g9)) rfl ?_
                  refine SOps.skip rfl 43 46 true rfl rfl (.inl (gF g9)) rfl ?_
                  refine SOps.skip rfl 43 46 true rfl rfl (.inl (gF g9)) rfl ?_
                  refine SOps.q rfl (.plain rfl) rfl (q_pick_f rfl rfl g9 rfl) ?_
                  refine SOps.q rfl (.plain rfl) rfl (q_assign rfl rfl) ?_
                  refine SOps.sub (st' := ⟨[(2, .c (.bool false))], []⟩) (sub_gen [] rfl rfl ⟨zc rfl rfl, trivial⟩ trivial) ?_
                  refine SOps.nil ?_
                  refine SCode.ret ?_
                  obtain rfl := Option.some.inj h
                  exact ⟨⟨[(2, .c (.bool false))], []⟩, _, sub_gen [] rfl rfl ⟨zc rfl rfl, trivial⟩ trivial, resA1 (v := .c (.bool false)) rfl rfl, rfl⟩
                refine SCode.region (show SOps _ _ _ [0, 1, 2, 3, 4, 5, 6, 7, 8, 9, 10, 11, 12, 13, 14, 15, 16, 17, 18, 19, 20, 21, 22, 23, 24, 25, 26, 27, 28, 29, 30, 31, 32, 33, 34, 35, 36, 37, 38, 39, 40, 41, 42, 43, 44, 45, 46, 47, 48] _ _ from ?_)
                refine SOps.q rfl (.plain rfl) rfl (q_field_ptr rfl rfl fd31_0) ?_
                refine SOps.q rfl (.plain rfl) rfl (q_load_ptr rfl rfl rfl rfl ty3) ?_
                refine SOps.q rfl (.plain rfl) rfl (q_geq rfl rfl rfl) ?_
                refine SOps.q rfl (.plain rfl) rfl (q_move rfl rfl) ?_
                refine SOps.q rfl (.guard 3 6 true rfl rfl (gT g1)) rfl (q_field_ptr rfl rfl fd31_0) ?_
                refine SOps.q rfl (.guard 3 6 true rfl rfl (gT g1)) rfl (q_load_ptr rfl rfl rfl rfl ty3) ?_
                refine SOps.q rfl (.guard 3 6 true rfl rfl (gT g1)) rfl (q_leq rfl rfl rfl) ?_
                refine SOps.q rfl (.plain rfl) rfl (q_pick_t rfl rfl g1 rfl) ?_
                refine SOps.q rfl (.plain rfl) rfl (q_move rfl rfl) ?_
                refine SOps.q rfl (.guard 8 11 true rfl rfl (gT g2)) rfl (q_field_ptr rfl rfl fd31_1) ?_
                refine SOps.q rfl (.guard 8 11 true rfl rfl (gT g2)) rfl (q_load_ptr rfl rfl rfl rfl ty3) ?_
                refine SOps.q rfl (.guard 8 11 true rfl rfl (gT g2)) rfl (q_geq rfl rfl rfl) ?_
                refine SOps.q rfl (.plain rfl) rfl (q_pick_t rfl rfl g2 rfl) ?_
                refine SOps.q rfl (.plain rfl) rfl (q_move rfl rfl) ?_
                refine SOps.q rfl (.guard 13 16 true rfl rfl (gT g3)) rfl (q_field_ptr rfl rfl fd31_1) ?_
                refine SOps.q rfl (.guard 13 16 true rfl rfl (gT g3)) rfl (q_load_ptr rfl rfl rfl rfl ty3) ?_
                refine SOps.q rfl (.guard 13 16 true rfl rfl (gT g3)) rfl (q_leq rfl rfl rfl) ?_
                refine SOps.q rfl (.plain rfl) rfl (q_pick_t rfl rfl g3 rfl) ?_
                refine SOps.q rfl (.plain rfl) rfl (q_move rfl rfl) ?_
                refine SOps.q rfl (.guard 18 21 true rfl rfl (gT g4)) rfl (q_field_ptr rfl rfl fd31_2) ?_
                refine SOps.q rfl (.guard 18 21 true rfl rfl (gT g4)) rfl (q_load_ptr rfl rfl rfl rfl ty3) ?_
                refine SOps.q rfl (.guard 18 21 true rfl rfl (gT g4)) rfl (q_geq rfl rfl rfl) ?_
                refine SOps.q rfl (.plain rfl) rfl (q_pick_t rfl rfl g4 rfl) ?_
                refine SOps.q rfl (.plain rfl) rfl (q_move rfl rfl) ?_
                refine SOps.q rfl (.guard 23 26 true rfl rfl (gT g5)) rfl (q_field_ptr rfl rfl fd31_2) ?_
                refine SOps.q rfl (.guard 23 26 true rfl rfl (gT g5)) rfl (q_load_ptr rfl rfl rfl rfl ty3) ?_
                refine SOps.q rfl (.guard 23 26 true rfl rfl (gT g5)) rfl (q_leq rfl rfl rfl) ?_
                refine SOps.q rfl (.plain rfl) rfl (q_pick_t rfl rfl g5 rfl) ?_
                refine SOps.q rfl (.plain rfl) rfl (q_move rfl rfl) ?_
                refine SOps.q rfl (.guard 28 31 true rfl rfl (gT g6)) rfl (q_field_ptr rfl rfl fd31_3) ?_
                refine SOps.q rfl (.guard 28 31 true rfl rfl (gT g6)) rfl (q_load_ptr rfl rfl rfl rfl ty3) ?_
                refine SOps.q rfl (.guard 28 31 true rfl rfl (gT g6)) rfl (q_geq rfl rfl rfl) ?_
                refine SOps.q rfl (.plain rfl) rfl (q_pick_t rfl rfl g6 rfl) ?_
                refine SOps.q rfl (.plain rfl) rfl (q_move rfl rfl) ?_
                refine SOps.q rfl (.guard 33 36 true rfl rfl (gT g7)) rfl (q_field_ptr rfl rfl fd31_3) ?_
                refine SOps.q rfl (.guard 33 36 true rfl rfl (gT g7)) rfl (q_load_ptr rfl rfl rfl rfl ty3) ?_
                refine SOps.q rfl (.guard 33 36 true rfl rfl (gT g7)) rfl (q_leq rfl rfl rfl) ?_
                refine SOps.q rfl (.plain rfl) rfl (q_pick_t rfl rfl g7 rfl) ?_
                refine SOps.q rfl (.plain rfl) rfl (q_move rfl rfl) ?_
                refine SOps.skip rfl 38 41 true rfl rfl (.inl (gF g8)) rfl ?_
                refine SOps.skip rfl 38 41 true rfl rfl (.inl (gF g8)) rfl ?_
                refine SOps.skip rfl 38 41 true rfl rfl (.inl (gF g8)) rfl ?_
                refine SOps.q rfl (.plain rfl) rfl (q_pick_f rfl rfl g8 rfl) ?_
                refine SOps.q rfl (.plain rfl) rfl (q_move rfl rfl) ?_
                refine SOps.skip rfl 43 46 true rfl rfl (.inl rfl) rfl ?_
                refine SOps.skip rfl 43 46 true rfl rfl (.inl rfl) rfl ?_
                refine SOps.skip rfl 43 46 true rfl rfl (.inl rfl) rfl ?_
                refine SOps.q rfl (.plain rfl) rfl (q_pick_f rfl rfl rfl rfl) ?_
                refine SOps.q rfl (.plain rfl) rfl (q_assign rfl rfl) ?_
                refine SOps.sub (st' := ⟨[(2, .c (.bool false))], []⟩) (sub_gen [] rfl rfl ⟨zc rfl rfl, trivial⟩ trivial) ?_
                refine SOps.nil ?_
                refine SCode.ret ?_
                obtain rfl := Option.some.inj h
                exact ⟨⟨[(2, .c (.bool false))], []⟩, _, sub_gen [] rfl rfl ⟨zc rfl rfl, trivial⟩ trivial, resA1 (v := .c (.bool false)) rfl rfl, rfl⟩
              refine SCode.region (show SOps _ _ _ [0, 1, 2, 3, 4, 5, 6, 7, 8, 9, 10, 11, 12, 13, 14, 15, 16, 17, 18, 19, 20, 21, 22, 23, 24, 25, 26, 27, 28, 29, 30, 31, 32, 33, 34, 35, 36, 37, 38, 39, 40, 41, 42, 43, 44, 45, 46, 47, 48] _ _ from ?_)
              refine SOps.q rfl (.plain rfl) rfl (q_field_ptr rfl rfl fd31_0) ?_
              refine SOps.q rfl (.plain rfl) rfl (q_load_ptr rfl rfl rfl rfl ty3) ?_
              refine SOps.q rfl (.plain rfl) rfl (q_geq rfl rfl rfl) ?_
              refine SOps.q rfl (.plain rfl) rfl (q_move rfl rfl) ?_
              refine SOps.q rfl (.guard 3 6 true rfl rfl (gT g1)) rfl (q_field_ptr rfl rfl fd31_0) ?_
              refine SOps.q rfl (.guard 3 6 true rfl rfl (gT g1)) rfl (q_load_ptr rfl rfl rfl rfl ty3) ?_
              refine SOps.q rfl (.guard 3 6 true rfl rfl (gT g1)) rfl (q_leq rfl rfl rfl) ?_
              refine SOps.q rfl (.plain rfl) rfl (q_pick_t rfl rfl g1 rfl) ?_
              refine SOps.q rfl (.plain rfl) rfl (q_move rfl rfl) ?_
              refine SOps.q rfl (.guard 8 11 true rfl rfl (gT g2)) rfl (q_field_ptr rfl rfl fd31_1) ?_
              refine SOps.q rfl (.guard 8 11 true rfl rfl (gT g2)) rfl (q_load_ptr rfl rfl rfl rfl ty3) ?_
              refine SOps.q rfl (.guard 8 11 true rfl rfl (gT g2)) rfl (q_geq rfl rfl rfl) ?_
              refine SOps.q rfl (.plain rfl) rfl (q_pick_t rfl rfl g2 rfl) ?_
              refine SOps.q rfl (.plain rfl) rfl (q_move rfl rfl) ?_
              refine SOps.q rfl (.guard 13 16 true rfl rfl (gT g3)) rfl (q_field_ptr rfl rfl fd31_1) ?_
              refine SOps.q rfl (.guard 13 16 true rfl rfl (gT g3)) rfl (q_load_ptr rfl rfl rfl rfl ty3) ?_
              refine SOps.q rfl (.guard 13 16 true rfl rfl (gT g3)) rfl (q_leq rfl rfl rfl) ?_
              refine SOps.q rfl (.plain rfl) rfl (q_pick_t rfl rfl g3 rfl) ?_
              refine SOps.q rfl (.plain rfl) rfl (q_move rfl rfl) ?_
              refine SOps.q rfl (.guard 18 21 true rfl rfl (gT g4)) rfl (q_field_ptr rfl rfl fd31_2) ?_
              refine SOps.q rfl (.guard 18 21 true rfl rfl (gT g4)) rfl (q_load_ptr rfl rfl rfl rfl ty3) ?_
              refine SOps.q rfl (.guard 18 21 true rfl rfl (gT g4)) rfl (q_geq rfl rfl rfl) ?_
              refine SOps.q rfl (.plain rfl) rfl (q_pick_t rfl rfl g4 rfl) ?_
              refine SOps.q rfl (.plain rfl) rfl (q_move rfl rfl) ?_
              refine SOps.q rfl (.guard 23 26 true rfl rfl (gT g5)) rfl (q_field_ptr rfl rfl fd31_2) ?_
              refine SOps.q rfl (.guard 23 26 true rfl rfl (gT g5)) rfl (q_load_ptr rfl rfl rfl rfl ty3) ?_
              refine SOps.q rfl (.guard 23 26 true rfl rfl (gT g5)) rfl (q_leq rfl rfl rfl) ?_
              refine SOps.q rfl (.plain rfl) rfl (q_pick_t rfl rfl g5 rfl) ?_
              refine SOps.q rfl (.plain rfl) rfl (q_move rfl rfl) ?_
              refine SOps.q rfl (.guard 28 31 true rfl rfl (gT g6)) rfl (q_field_ptr rfl rfl fd31_3) ?_
              refine SOps.q rfl (.guard 28 31 true rfl rfl (gT g6)) rfl (q_load_ptr rfl rfl rfl rfl ty3) ?_
              refine SOps.q rfl (.guard 28 31 true rfl rfl (gT g6)) rfl (q_geq rfl rfl rfl) ?_
              refine SOps.q rfl (.plain rfl) rfl (q_pick_t rfl rfl g6 rfl) ?_
              refine SOps.q rfl (.plain rfl) rfl (q_move rfl rfl) ?_
              refine SOps.skip rfl 33 36 true rfl rfl (.inl (gF g7)) rfl ?_
              refine SOps.skip rfl 33 36 true rfl rfl (.inl (gF g7)) rfl ?_
              refine SOps.skip rfl 33 36 true rfl rfl (.inl (gF g7)) rfl ?_
              refine SOps.q rfl (.plain rfl) rfl (q_pick_f rfl rfl g7 rfl) ?_
              refine SOps.q rfl (.plain rfl) rfl (q_move rfl rfl) ?_
              refine SOps.skip rfl 38 41 true rfl rfl (.inl rfl) rfl ?_
              refine SOps.skip rfl 38 41 true rfl rfl (.inl rfl) rfl ?_
              refine SOps.skip rfl 38 41 true rfl rfl (.inl rfl) rfl ?_
              refine SOps.q rfl (.plain rfl) rfl (q_pick_f rfl rfl rfl rfl) ?_
              refine SOps.q rfl (.plain rfl) rfl (q_move rfl rfl) ?_
              refine SOps.skip rfl 43 46 true rfl rfl (.inl rfl) rfl ?_
              refine SOps.skip rfl 43 46 true rfl rfl (.inl rfl) rfl ?_
              refine SOps.skip rfl 43 46 true rfl rfl (.inl rfl) rfl ?_
              refine SOps.q rfl (.plain rfl) rfl (q_pick_f rfl rfl rfl rfl) ?_
              refine SOps.q rfl (.plain rfl) rfl (q_assign rfl rfl) ?_
              refine SOps.sub (st' := ⟨[(2, .c (.bool false))], []⟩) (sub_gen [] rfl rfl ⟨zc rfl rfl, trivial⟩ trivial) ?_
              refine SOps.nil ?_
              refine SCode.ret ?_
              obtain rfl := Option.some.inj h
              exact ⟨⟨[(2, .c (.bool false))], []⟩, _, sub_gen [] rfl rfl ⟨zc rfl rfl, trivial⟩ trivial, resA1 (v := .c (.bool false)) rfl rfl, rfl⟩
            refine SCode.region (show SOps _ _ _ [0, 1, 2, 3, 4, 5, 6, 7, 8, 9, 10, 11, 12, 13, 14, 15, 16, 17, 18, 19, 20, 21, 22, 23, 24, 25, 26, 27, 28, 29, 30, 31, 32, 33, 34, 35, 36, 37, 38, 39, 40, 41, 42, 43, 44, 45, 46, 47, 48] _ _ from ?_)
            refine SOps.q rfl (.plain rfl) rfl (q_field_ptr rfl rfl fd31_0) ?_
            refine SOps.q rfl (.plain rfl) rfl (q_load_ptr rfl rfl rfl rfl ty3) ?_
            refine SOps.q rfl (.plain rfl) rfl (q_geq rfl rfl rfl) ?_
            refine SOps.q rfl (.plain rfl) rfl (q_move rfl rfl) ?_
            refine SOps.q rfl (.guard 3 6 true rfl rfl (gT g1)) rfl (q_field_ptr rfl rfl fd31_0) ?_
            refine SOps.q rfl (.guard 3 6 true rfl rfl (gT g1)) rfl (q_load_ptr rfl rfl rfl rfl ty3) ?_
            refine SOps.q rfl (.guard 3 6 true rfl rfl (gT g1)) rfl (q_leq rfl rfl rfl) ?_
            refine SOps.q rfl (.plain rfl) rfl (q_pick_t rfl rfl g1 rfl) ?_
            refine SOps.q rfl (.plain rfl) rfl (q_move rfl rfl) ?_
            refine SOps.q rfl (.guard 8 11 true rfl rfl (gT g2)) rfl (q_field_ptr rfl rfl fd31_1) ?_
            refine SOps.q rfl (.guard 8 11 true rfl rfl (gT g2)) rfl (q_load_ptr rfl rfl rfl rfl ty3) ?_
            refine SOps.q rfl (.guard 8 11 true rfl rfl (gT g2)) rfl (q_geq rfl rfl rfl) ?_
            refine SOps.q rfl (.plain rfl) rfl (q_pick_t rfl rfl g2 rfl) ?_
            refine SOps.q rfl (.plain rfl) rfl (q_move rfl rfl) ?_
            refine SOps.q rfl (.guard 13 16 true rfl rfl (gT g3)) rfl (q_field_ptr rfl rfl fd31_1) ?_
            refine SOps.q rfl (.guard 13 16 true rfl rfl (gT g3)) rfl (q_load_ptr rfl rfl rfl rfl ty3) ?_
            refine SOps.q rfl (.guard 13 16 true rfl rfl (gT g3)) rfl (q_leq rfl rfl rfl) ?_
            refine SOps.q rfl (.plain rfl) rfl (q_pick_t rfl rfl g3 rfl) ?_
            refine SOps.q rfl (.plain rfl) rfl (q_move rfl rfl) ?_
            refine SOps.q rfl (.guard 18 21 true rfl rfl (gT g4)) rfl (q_field_ptr rfl rfl fd31_2) ?_
            refine SOps.q rfl (.guard 18 21 true rfl rfl (gT g4)) rfl (q_load_ptr rfl rfl rfl rfl ty3) ?_
            refine SOps.q rfl (.guard 18 21 true rfl rfl (gT g4)) rfl (q_geq rfl rfl rfl) ?_
            refine SOps.q rfl (.plain rfl) rfl (q_pick_t rfl rfl g4 rfl) ?_
            refine SOps.q rfl (.plain rfl) rfl (q_move rfl rfl) ?_
            refine SOps.q rfl (.guard 23 26 true rfl rfl (gT g5)) rfl (q_field_ptr rfl rfl fd31_2) ?_
            refine SOps.q rfl (.guard 23 26 true rfl rfl (gT g5)) rfl (q_load_ptr rfl rfl rfl rfl ty3) ?_
            refine SOps.q rfl (.guard 23 26 true rfl rfl (gT g5)) rfl (q_leq rfl rfl rfl) ?_
            refine SOps.q rfl (.plain rfl) rfl (q_pick_t rfl rfl g5 rfl) ?_
            refine SOps.q rfl (.plain rfl) rfl (q_move rfl rfl) ?_
            refine SOps.skip rfl 28 31 true rfl rfl (.inl (gF g6)) rfl ?_
            refine SOps.skip rfl 28 31 true rfl rfl (.inl (gF g6)) rfl ?_
            refine SOps.skip rfl 28 31 true rfl rfl (.inl (gF g6)) rfl ?_
            refine SOps.q rfl (.plain rfl) rfl (q_pick_f rfl rfl g6 rfl) ?_
            refine SOps.q rfl (.plain rfl) rfl (q_move rfl rfl) ?_
            refine SOps.skip rfl 33 36 true rfl rfl (.inl rfl) rfl ?_
            refine SOps.skip rfl 33 36 true rfl rfl (.inl rfl) rfl ?_
            refine SOps.skip rfl 33 36 true rfl rfl (.inl rfl) rfl ?_
            refine SOps.q rfl (.plain rfl) rfl (q_pick_f rfl rfl rfl rfl) ?_
            refine SOps.q rfl (.plain rfl) rfl (q_move rfl rfl) ?_
            refine SOps.skip rfl 38 41 true rfl rfl (.inl rfl) rfl ?_
            refine SOps.skip rfl 38 41 true rfl rfl (.inl rfl) rfl ?_
            refine SOps.skip rfl 38 41 true rfl rfl (.inl rfl) rfl ?_
            refine SOps.q rfl (.plain rfl) rfl (q_pick_f rfl rfl rfl rfl) ?_
            refine SOps.q rfl (.plain rfl) rfl (q_move rfl rfl) ?_
            refine SOps.skip rfl 43 46 true rfl rfl (.inl rfl) rfl ?_
            refine SOps.skip rfl 43 46 true rfl rfl (.inl rfl) rfl ?_
            refine SOps.skip rfl 43 46 true rfl rfl (.inl rfl) rfl ?_
            refine SOps.q rfl (.plain rfl) rfl (q_pick_f rfl rfl rfl rfl) ?_
            refine SOps.q rfl (.plain rfl) rfl (q_assign rfl rfl) ?_
            refine SOps.sub (st' := ⟨[(2, .c (.bool false))], []⟩) (sub_gen [] rfl rfl ⟨zc rfl rfl, trivial⟩ trivial) ?_
            refine SOps.nil ?_
            refine SCode.ret ?_
            obtain rfl := Option.some.inj h
            exact ⟨⟨[(2, .c (.bool false))], []⟩, _, sub_gen [] rfl rfl ⟨zc rfl rfl, trivial⟩ trivial, resA1 (v := .c (.bool false)) rfl rfl, rfl⟩
          refine SCode.region (show SOps _ _ _ [0, 1, 2, 3, 4, 5, 6, 7, 8, 9, 10, 11, 12, 13, 14, 15, 16, 17, 18, 19, 20, 21, 22, 23, 24, 25, 26, 27, 28, 29, 30, 31, 32, 33, 34, 35, 36, 37, 38, 39, 40, 41, 42, 43, 44, 45, 46, 47, 48] _ _ from ?_)
          refine SOps.q rfl (.plain rfl) rfl (q_field_ptr rfl rfl fd31_0) ?_
          refine SOps.q rfl (.plain rfl) rfl (q_load_ptr rfl rfl rfl rfl ty3) ?_
          refine SOps.q rfl (.plain rfl) rfl (q_geq rfl rfl rfl) ?_
          refine SOps.q rfl (.plain rfl) rfl (q_move rfl rfl) ?_
          refine SOps.q rfl (.guard 3 6 true rfl rfl (gT g1)) rfl (q_field_ptr rfl rfl fd31_0) ?_
          refine SOps.q rfl (.guard 3 6 true rfl rfl (gT g1)) rfl (q_load_ptr rfl rfl rfl rfl ty3) ?_
          refine SOps.q rfl (.guard 3 6 true rfl rfl (gT g1)) rfl (q_leq rfl rfl rfl) ?_
          refine SOps.q rfl (.plain rfl) rfl (q_pick_t rfl rfl g1 rfl) ?_
          refine SOps.q rfl (.plain rfl) rfl (q_move rfl rfl) ?_
          refine SOps.q rfl (.guard 8 11 true rfl rfl (gT g2)) rfl (q_field_ptr rfl rfl fd31_1) ?_
          refine SOps.q rfl (.guard 8 11 true rfl rfl (gT g2)) rfl (q_load_ptr rfl rfl rfl rfl ty3) ?_
          refine SOps.q rfl (.guard 8 11 true rfl rfl (gT g2)) rfl (q_geq rfl rfl rfl) ?_
          refine SOps.q rfl (.plain rfl) rfl (q_pick_t rfl rfl g2 rfl) ?_
          refine SOps.q rfl (.plain rfl) rfl (q_move rfl rfl) ?_
          refine SOps.q rfl (.guard 13 16 true rfl rfl (gT g3)) rfl (q_field_ptr rfl rfl fd31_1) ?_
          refine SOps.q rfl (.guard 13 16 true rfl rfl (gT g3)) rfl (q_load_ptr rfl rfl rfl rfl ty3) ?_
          refine SOps.q rfl (.guard 13 16 true rfl rfl (gT g3)) rfl (q_leq rfl rfl rfl) ?_
          refine SOps.q rfl (.plain rfl) rfl (q_pick_t rfl rfl g3 rfl) ?_
          refine SOps.q rfl (.plain rfl) rfl (q_move rfl rfl) ?_
          refine SOps.q rfl (.guard 18 21 true rfl rfl (gT g4)) rfl (q_field_ptr rfl rfl fd31_2) ?_
          refine SOps.q rfl (.guard 18 21 true rfl rfl (gT g4)) rfl (q_load_ptr rfl rfl rfl rfl ty3) ?_
          refine SOps.q rfl (.guard 18 21 true rfl rfl (gT g4)) rfl (q_geq rfl rfl rfl) ?_
          refine SOps.q rfl (.plain rfl) rfl (q_pick_t rfl rfl g4 rfl) ?_
          refine SOps.q rfl (.plain rfl) rfl (q_move rfl rfl) ?_
          refine SOps.skip rfl 23 26 true rfl rfl (.inl (gF g5)) rfl ?_
          refine SOps.skip rfl 23 26 true rfl rfl (.inl (gF g5)) rfl ?_
          refine SOps.skip rfl 23 26 true rfl rfl (.inl (gF g5)) rfl ?_
          refine SOps.q rfl (.plain rfl) rfl (q_pick_f rfl rfl g5 rfl) ?_
          refine SOps.q rfl (.plain rfl) rfl (q_move rfl rfl) ?_
          refine SOps.skip rfl 28 31 true rfl rfl (.inl rfl) rfl ?_
          refine SOps.skip rfl 28 31 true rfl rfl (.inl rfl) rfl ?_
          refine SOps.skip rfl 28 31 true rfl rfl (.inl rfl) rfl ?_
          refine SOps.q rfl (.plain rfl) rfl (q_pick_f rfl rfl rfl rfl) ?_
          refine SOps.q rfl (.plain rfl) rfl (q_move rfl rfl) ?_
          refine SOps.skip rfl 33 36 true rfl rfl (.inl rfl) rfl ?_
          refine SOps.skip rfl 33 36 true rfl rfl (.inl rfl) rfl ?_
          refine SOps.skip rfl 33 36 true rfl rfl (.inl rfl) rfl ?_
          refine SOps.q rfl (.plain rfl) rfl (q_pick_f rfl rfl rfl rfl) ?_
          refine SOps.q rfl (.plain rfl) rfl (q_move rfl rfl) ?_
          refine SOps.skip rfl 38 41 true rfl rfl (.inl rfl) rfl ?_
          refine SOps.skip rfl 38 41 true rfl rfl (.inl rfl) rfl ?_
          refine SOps.skip rfl 38 41 true rfl rfl (.inl rfl) rfl ?_
          refine SOps.q rfl (.plain rfl) rfl (q_pick_f rfl rfl rfl rfl) ?_
          refine SOps.q rfl (.plain rfl) rfl (q_move rfl rfl) ?_
          refine SOps.skip rfl 43 46 true rfl rfl (.inl rfl) rfl ?_
          refine SOps.skip rfl 43 46 true rfl rfl (.inl rfl) rfl ?_
          refine SOps.skip rfl 43 46 true rfl rfl (.inl rfl) rfl ?_
          refine SOps.q rfl (.plain rfl) rfl (q_pick_f rfl rfl rfl rfl) ?_
          refine SOps.q rfl (.plain rfl) rfl (q_assign rfl rfl) ?_
          refine SOps.sub (st' := ⟨[(2, .c (.bool false))], []⟩) (sub_gen [] rfl rfl ⟨zc rfl rfl, trivial⟩ trivial) ?_
          refine SOps.nil ?_
          refine SCode.ret ?_
          obtain rfl := Option.some.inj h
          exact ⟨⟨[(2, .c (.bool false))], []⟩, _, sub_gen [] rfl rfl ⟨zc rfl rfl, trivial⟩ trivial, resA1 (v := .c (.bool false)) rfl rfl, rfl⟩
        refine SCode.region (show SOps _ _ _ [0, 1, 2, 3, 4, 5, 6, 7, 8, 9, 10, 11, 12, 13, 14, 15, 16, 17, 18, 19, 20, 21, 22, 23, 24, 25, 26, 27, 28, 29, 30, 31, 32, 33, 34, 35, 36, 37, 38, 39, 40, 41, 42, 43, 44, 45, 46, 47, 48] _ _ from ?_)
        refine SOps.q rfl (.plain rfl) rfl (q_field_ptr rfl rfl fd31_0) ?_
        refine SOps.q rfl (.plain rfl) rfl (q_load_ptr rfl rfl rfl rfl ty3) ?_
        refine SOps.q rfl (.plain rfl) rfl (q_geq rfl rfl rfl) ?_
        refine SOps.q rfl (.plain rfl) rfl (q_move rfl rfl) ?_
        refine SOps.q rfl (.guard 3 6 true rfl rfl (gT g1)) rfl (q_field_ptr rfl rfl fd31_0) ?_
        refine SOps.q rfl (.guard 3 6 true rfl rfl (gT g1)) rfl (q_load_ptr rfl rfl rfl rfl ty3) ?_
        refine SOps.q rfl (.guard 3 6 true rfl rfl (gT g1)) rfl (q_leq rfl rfl rfl) ?_
        refine SOps.q rfl (.plain rfl) rfl (q_pick_t rfl rfl g1 rfl) ?_
        refine SOps.q rfl (.plain rfl) rfl (q_move rfl rfl) ?_
        refine SOps.q rfl (.guard 8 11 true rfl rfl (gT g2)) rfl (q_field_ptr rfl rfl fd31_1) ?_
        refine SOps.q rfl (.guard 8 11 true rfl rfl (gT g2)) rfl (q_load_ptr rfl rfl rfl rfl ty3) ?_
        refine SOps.q rfl (.guard 8 11 true rfl rfl (gT g2)) rfl (q_geq rfl rfl rfl) ?_
        refine SOps.q rfl (.plain rfl) rfl (q_pick_t rfl rfl g2 rfl) ?_
        refine SOps.q rfl (.plain rfl) rfl (q_move rfl rfl) ?_
        refine SOps.q rfl (.guard 13 16 true rfl rfl (gT g3)) rfl (q_field_ptr rfl rfl fd31_1) ?_
        refine SOps.q rfl (.guard 13 16 true rfl rfl (gT g3)) rfl (q_load_ptr rfl rfl rfl rfl ty3) ?_
        refine SOps.q rfl (.guard 13 16 true rfl rfl (gT g3)) rfl (q_leq rfl rfl rfl) ?_
        refine SOps.q rfl (.plain rfl) rfl (q_pick_t rfl rfl g3 rfl) ?_
        refine SOps.q rfl (.plain rfl) rfl (q_move rfl rfl) ?_
        refine SOps.skip rfl 18 21 true rfl rfl (.inl (gF g4)) rfl ?_
        refine SOps.skip rfl 18 21 true rfl rfl (.inl (gF g4)) rfl ?_
        refine SOps.skip rfl 18 21 true rfl rfl (.inl (gF g4)) rfl ?_
        refine SOps.q rfl (.plain rfl) rfl (q_pick_f rfl rfl g4 rfl) ?_
        refine SOps.q rfl (.plain rfl) rfl (q_move rfl rfl) ?_
        refine SOps.skip rfl 23 26 true rfl rfl (.inl rfl) rfl ?_
        refine SOps.skip rfl 23 26 true rfl rfl (.inl rfl) rfl ?_
        refine SOps.skip rfl 23 26 true rfl rfl (.inl rfl) rfl ?_
        refine SOps.q rfl (.plain rfl) rfl (q_pick_f rfl rfl rfl rfl) ?_
        refine SOps.q rfl (.plain rfl) rfl (q_move rfl rfl) ?_
        refine SOps.skip rfl 28 31 true rfl rfl (.inl rfl) rfl ?_
        refine SOps.skip rfl 28 31 true rfl rfl (.inl rfl) rfl ?_
        refine SOps.skip rfl 28 31 true rfl rfl (.inl rfl) rfl ?_
        refine SOps.q rfl (.plain rfl) rfl (q_pick_f rfl rfl rfl rfl) ?_
        refine SOps.q rfl (.plain rfl) rfl (q_move rfl rfl) ?_
        refine SOps.skip rfl 33 36 true rfl rfl (.inl rfl) rfl ?_
        refine SOps.skip rfl 33 36 true rfl rfl (.inl rfl) rfl ?_
        refine SOps.skip rfl 33 36 true rfl rfl (.inl rfl) rfl ?_
        refine SOps.q rfl (.plain rfl) rfl (q_pick_f rfl rfl rfl rfl) ?_
        refine SOps.q rfl (.plain rfl) rfl (q_move rfl rfl) ?_
        refine SOps.skip rfl 38 41 true rfl rfl (.inl rfl) rfl ?_
        refine SOps.skip rfl 38 41 true rfl rfl (.inl rfl) rfl ?_
        refine SOps.skip rfl 38 41 true rfl rfl (.inl rfl) rfl ?_
        refine SOps.q rfl (.plain rfl) rfl (q_pick_f rfl rfl rfl rfl) ?_
        refine SOps.q rfl (.plain rfl) rfl (q_move rfl rfl) ?_
        refine SOps.skip rfl 43 46 true rfl rfl (.inl rfl) rfl ?_
        refine SOps.skip rfl 43 46 true rfl rfl (.inl rfl) rfl ?_
        refine SOps.skip rfl 43 46 true rfl rfl (.inl rfl) rfl ?_
        refine SOps.q rfl (.plain rfl) rfl (q_pick_f rfl rfl rfl rfl) ?_
        refine SOps.q rfl (.plain rfl) rfl (q_assign rfl rfl) ?_
        refine SOps.sub (st' := ⟨[(2, .c (.bool false))], []⟩) (sub_gen [] rfl rfl ⟨zc rfl rfl, trivial⟩ trivial) ?_
        refine SOps.nil ?_
        refine SCode.ret ?_
        obtain rfl := Option.some.inj h
        exact ⟨⟨[(2, .c (.bool false))], []⟩, _, sub_gen [] rfl rfl ⟨zc rfl rfl, trivial⟩ trivial, resA1 (v := .c (.bool false)) rfl rfl, rfl⟩
      refine SCode.region (show SOps _ _ _ [0, 1, 2, 3, 4, 5, 6, 7, 8, 9, 10, 11, 12, 13, 14, 15, 16, 17, 18, 19, 20, 21, 22, 23, 24, 25, 26, 27, 28, 29, 30, 31, 32, 33, 34, 35, 36, 37, 38, 39, 40, 41, 42, 43, 44, 45, 46, 47, 48] _ _ from ?_)
      refine SOps.q rfl (.plain rfl) rfl (q_field_ptr rfl rfl fd31_0) ?_
      refine SOps.q rfl (.plain rfl) rfl (q_load_ptr rfl rfl rfl rfl ty3) ?_
      refine SOps.q rfl (.plain rfl) rfl (q_geq rfl rfl rfl) ?_
      refine SOps.q rfl (.plain rfl) rfl (q_move rfl rfl) ?_
      refine SOps.q rfl (.guard 3 6 true rfl rfl (gT g1)) rfl (q_field_ptr rfl rfl fd31_0) ?_
      refine SOps.q rfl (.guard 3 6 true rfl rfl (gT g1)) rfl (q_load_ptr rfl rfl rfl rfl ty3) ?_
      refine SOps.q rfl (.guard 3 6 true rfl rfl (gT g1)) rfl (q_leq rfl rfl rfl) ?_
      refine SOps.q rfl (.plain rfl) rfl (q_pick_t rfl rfl g1 rfl) ?_
      refine SOps.q rfl (.plain rfl) rfl (q_move rfl rfl) ?_
      refine SOps.q rfl (.guard 8 11 true rfl rfl (gT g2)) rfl (q_field_ptr rfl rfl fd31_1) ?_
      refine SOps.q rfl (.guard 8 11 true rfl rfl (gT g2)) rfl (q_load_ptr rfl rfl rfl rfl ty3) ?_
      refine SOps.q rfl (.guard 8 11 true rfl rfl (gT g2)) rfl (q_geq rfl rfl rfl) ?_
      refine SOps.q rfl (.plain rfl) rfl (q_pick_t rfl rfl g2 rfl) ?_
      refine SOps.q rfl (.plain rfl) rfl (q_move rfl rfl) ?_
      refine SOps.skip rfl 13 16 true rfl rfl (.inl (gF g3)) rfl ?_
      refine SOps.skip rfl 13 16 true rfl rfl (.inl (gF g3)) rfl ?_
      refine SOps.skip rfl 13 16 true rfl rfl (.inl (gF g3)) rfl ?_
      refine SOps.q rfl (.plain rfl) rfl (q_pick_f rfl rfl g3 rfl) ?_
      refine SOps.q rfl (.plain rfl) rfl (q_move rfl rfl) ?_
      refine SOps.skip rfl 18 21 true rfl rfl (.inl rfl) rfl ?_
      refine SOps.skip rfl 18 21 true rfl rfl (.inl rfl) rfl ?_
      refine SOps.skip rfl 18 21 true rfl rfl (.inl rfl) rfl ?_
      refine SOps.q rfl (.plain rfl) rfl (q_pick_f rfl rfl rfl rfl) ?_
      refine SOps.q rfl (.plain rfl) rfl (q_move rfl rfl) ?_
      refine SOps.skip rfl 23 26 true rfl rfl (.inl rfl) rfl ?_
      refine SOps.skip rfl 23 26 true rfl rfl (.inl rfl) rfl ?_
      refine SOps.skip rfl 23 26 true rfl rfl (.inl rfl) rfl ?_
      refine SOps.q rfl (.plain rfl) rfl (q_pick_f rfl rfl rfl rfl) ?_
      refine SOps.q rfl (.plain rfl) rfl (q_move rfl rfl) ?_
      refine SOps.skip rfl 28 31 true rfl rfl (.inl rfl) rfl ?_
      refine SOps.skip rfl 28 31 true rfl rfl (.inl rfl) rfl ?_
      refine SOps.skip rfl 28 31 true rfl rfl (.inl rfl) rfl ?_
      refine SOps.q rfl (.plain rfl) rfl (q_pick_f rfl rfl rfl rfl) ?_
      refine SOps.q rfl (.plain rfl) rfl (q_move rfl rfl) ?_
      refine SOps.skip rfl 33 36 true rfl rfl (.inl rfl) rfl ?_
      refine SOps.skip rfl 33 36 true rfl rfl (.inl rfl) rfl ?_
      refine SOps.skip rfl 33 36 true rfl rfl (.inl rfl) rfl ?_
      refine SOps.q rfl (.plain rfl) rfl (q_pick_f rfl rfl rfl rfl) ?_
      refine SOps.q rfl (.plain rfl) rfl (q_move rfl rfl) ?_
      refine SOps.skip rfl 38 41 true rfl rfl (.inl rfl) rfl ?_
      refine SOps.skip rfl 38 41 true rfl rfl (.inl rfl) rfl ?_
      refine SOps.skip rfl 38 41 true rfl rfl (.inl rfl) rfl ?_
      refine SOps.q rfl (.plain rfl) rfl (q_pick_f rfl rfl rfl rfl) ?_
      refine SOps.q rfl (.plain rfl) rfl (q_move rfl rfl) ?_
      refine SOps.skip rfl 43 46 true rfl rfl (.inl rfl) rfl ?_
      refine SOps.skip rfl 43 46 true rfl rfl (.inl rfl) rfl ?_
      refine SOps.skip rfl 43 46 true rfl rfl (.inl rfl) rfl ?_
      refine SOps.q rfl (.plain rfl) rfl (q_pick_f rfl rfl rfl rfl) ?_
      refine SOps.q rfl (.plain rfl) rfl (q_assign rfl rfl) ?_
      refine SOps.sub (st' := ⟨[(2, .c (.bool false))], []⟩) (sub_gen [] rfl rfl ⟨zc rfl rfl, trivial⟩ trivial) ?_
      refine SOps.nil ?_
      refine SCode.ret ?_
      obtain rfl := Option.some.inj h
      exact ⟨⟨[(2, .c (.bool false))], []⟩, _, sub_gen [] rfl rfl ⟨zc rfl rfl, trivial⟩ trivial, resA1 (v := .c (.bool false)) rfl rfl, rfl⟩
    refine SCode.region (show SOps _ _ _ [0, 1, 2, 3, 4, 5, 6, 7, 8, 9, 10, 11, 12, 13, 14, 15, 16, 17, 18, 19, 20, 21, 22, 23, 24, 25, 26, 27, 28, 29, 30, 31, 32, 33, 34, 35, 36, 37, 38, 39, 40, 41, 42, 43, 44, 45, 46, 47, 48] _ _ from ?_)
    refine SOps.q rfl (.plain rfl) rfl (q_field_ptr rfl rfl fd31_0) ?_
    refine SOps.q rfl (.plain rfl) rfl (q_load_ptr rfl rfl rfl rfl ty3) ?_
    refine SOps.q rfl (.plain rfl) rfl (q_geq rfl rfl rfl) ?_
    refine SOps.q rfl (.plain rfl) rfl (q_move rfl rfl) ?_
    refine SOps.q rfl (.guard 3 6 true rfl rfl (gT g1)) rfl (q_field_ptr rfl rfl fd31_0) ?_
    refine SOps.q rfl (.guard 3 6 true rfl rfl (gT g1)) rfl (q_load_ptr rfl rfl rfl rfl ty3) ?_
    refine SOps.q rfl (.guard 3 6 true rfl rfl (gT g1)) rfl (q_leq rfl rfl rfl) ?_
    refine SOps.q rfl (.plain rfl) rfl (q_pick_t rfl rfl g1 rfl) ?_
    refine SOps.q rfl (.plain rfl) rfl (q_move rfl rfl) ?_
    refine SOps.skip rfl 8 11 true rfl rfl (.inl (gF g2)) rfl ?_
    refine SOps.skip rfl 8 11 true rfl rfl (.inl (gF g2)) rfl ?_
    refine SOps.skip rfl 8 11 true rfl rfl (.inl (gF g2)) rfl ?_
    refine SOps.q rfl (.plain rfl) rfl (q_pick_f rfl rfl g2 rfl) ?_
    refine SOps.q rfl (.plain rfl) rfl (q_move rfl rfl) ?_
    refine SOps.skip rfl 13 16 true rfl rfl (.inl rfl) rfl ?_
    refine SOps.skip rfl 13 16 true rfl rfl (.inl rfl) rfl ?_
    refine SOps.skip rfl 13 16 true rfl rfl (.inl rfl) rfl ?_
    refine SOps.q rfl (.plain rfl) rfl (q_pick_f rfl rfl rfl rfl) ?_
    refine SOps.q rfl (.plain rfl) rfl (q_move rfl rfl) ?_
    refine SOps.skip rfl 18 21 true rfl rfl (.inl rfl) rfl ?_
    refine SOps.skip rfl 18 21 true rfl rfl (.inl rfl) rfl ?_
    refine SOps.skip rfl 18 21 true rfl rfl (.inl rfl) rfl ?_
    refine SOps.q rfl (.plain rfl) rfl (q_pick_f rfl rfl rfl rfl) ?_
    refine SOps.q rfl (.plain rfl) rfl (q_move rfl rfl) ?_
    refine SOps.skip rfl 23 26 true rfl rfl (.inl rfl) rfl ?_
    refine SOps.skip rfl 23 26 true rfl rfl (.inl rfl) rfl ?_
    refine SOps.skip rfl 23 26 true rfl rfl (.inl rfl) rfl ?_
    refine SOps.q rfl (.plain rfl) rfl (q_pick_f rfl rfl rfl rfl) ?_
    refine SOps.q rfl (.plain rfl) rfl (q_move rfl rfl) ?_
    refine SOps.skip rfl 28 31 true rfl rfl (.inl rfl) rfl ?_
    refine SOps.skip rfl 28 31 true rfl rfl (.inl rfl) rfl ?_
    refine SOps.skip rfl 28 31 true rfl rfl (.inl rfl) rfl ?_
    refine SOps.q rfl (.plain rfl) rfl (q_pick_f rfl rfl rfl rfl) ?_
    refine SOps.q rfl (.plain rfl) rfl (q_move rfl rfl) ?_
    refine SOps.skip rfl 33 36 true rfl rfl (.inl rfl) rfl ?_
    refine SOps.skip rfl 33 36 true rfl rfl (.inl rfl) rfl ?_
    refine SOps.skip rfl 33 36 true rfl rfl (.inl rfl) rfl ?_
    refine SOps.q rfl (.plain rfl) rfl (q_pick_f rfl rfl rfl rfl) ?_
    refine SOps.q rfl (.plain rfl) rfl (q_move rfl rfl) ?_
    refine SOps.skip rfl 38 41 true rfl rfl (.inl rfl) rfl ?_
    refine SOps.skip rfl 38 41 true rfl rfl (.inl rfl) rfl ?_
    refine SOps.skip rfl 38 41 true rfl rfl (.inl rfl) rfl ?_
    refine SOps.q rfl (.plain rfl) rfl (q_pick_f rfl rfl rfl rfl) ?_
    refine SOps.q rfl (.plain rfl) rfl (q_move rfl rfl) ?_
    refine SOps.skip rfl 43 46 true rfl rfl (.inl rfl) rfl ?_
    refine SOps.skip rfl 43 46 true rfl rfl (.inl rfl) rfl ?_
    refine SOps.skip rfl 43 46 true rfl rfl (.inl rfl) rfl ?_
    refine SOps.q rfl (.plain rfl) rfl (q_pick_f rfl rfl rfl rfl) ?_
    refine SOps.q rfl (.plain rfl) rfl (q_assign rfl rfl) ?_
    refine SOps.sub (st' := ⟨[(2, .c (.bool false))], []⟩) (sub_gen [] rfl rfl ⟨zc rfl rfl, trivial⟩ trivial) ?_
    refine SOps.nil ?_
    refine SCode.ret ?_
    obtain rfl := Option.some.inj h
    exact ⟨⟨[(2, .c (.bool false))], []⟩, _, sub_gen [] rfl rfl ⟨zc rfl rfl, trivial⟩ trivial, resA1 (v := .c (.bool false)) rfl rfl, rfl⟩
  refine SCode.region (show SOps _ _ _ [0, 1, 2, 3, 4, 5, 6, 7, 8, 9, 10, 11, 12, 13, 14, 15, 16, 17, 18, 19, 20, 21, 22, 23, 24, 25, 26, 27, 28, 29, 30, 31, 32, 33, 34, 35, 36, 37, 38, 39, 40, 41, 42, 43, 44, 45, 46, 47, 48] _ _ from ?_)
  refine SOps.q rfl (.plain rfl) rfl (q_field_ptr rfl rfl fd31_0) ?_
  refine SOps.q rfl (.plain rfl) rfl (q_load_ptr rfl rfl rfl rfl ty3) ?_
  refine SOps.q rfl (.plain rfl) rfl (q_geq rfl rfl rfl) ?_
  refine SOps.q rfl (.plain rfl) rfl (q_move rfl rfl) ?_
  refine SOps.skip rfl 3 6 true rfl rfl (.inl (gF g1)) rfl ?_
  refine SOps.skip rfl 3 6 true rfl rfl (.inl (gF g1)) rfl ?_
  refine SOps.skip rfl 3 6 true rfl rfl (.inl (gF g1)) rfl ?_
  refine SOps.q rfl (.plain rfl) rfl (q_pick_f rfl rfl g1 rfl) ?_
  refine SOps.q rfl (.plain rfl) rfl (q_move rfl rfl) ?_
  refine SOps.skip rfl 8 11 true rfl rfl (.inl rfl) rfl ?_
  refine SOps.skip rfl 8 11 true rfl rfl (.inl rfl) rfl ?_
  refine SOps.skip rfl 8 11 true rfl rfl (.inl rfl) rfl ?_
  refine SOps.q rfl (.plain rfl) rfl (q_pick_f rfl rfl rfl rfl) ?_
  refine SOps.q rfl (.plain rfl) rfl (q_move rfl rfl) ?_
  refine SOps.skip rfl 13 16 true rfl rfl (.inl rfl) rfl ?_
  refine SOps.skip rfl 13 16 true rfl rfl (.inl rfl) rfl ?_
  refine SOps.skip rfl 13 16 true rfl rfl (.inl rfl) rfl ?_
  refine SOps.q rfl (.plain rfl) rfl (q_pick_f rfl rfl rfl rfl) ?_
  refine SOps.q rfl (.plain rfl) rfl (q_move rfl rfl) ?_
  refine SOps.skip rfl 18 21 true rfl rfl (.inl rfl) rfl ?_
  refine SOps.skip rfl 18 21 true rfl rfl (.inl rfl) rfl ?_
  refine SOps.skip rfl 18 21 true rfl rfl (.inl rfl) rfl ?_
  refine SOps.q rfl (.plain rfl) rfl (q_pick_f rfl rfl rfl rfl) ?_
  refine SOps.q rfl (.plain rfl) rfl (q_move rfl rfl) ?_
  refine SOps.skip rfl 23 26 true rfl rfl (.inl rfl) rfl ?_
  refine SOps.skip rfl 23 26 true rfl rfl (.inl rfl) rfl ?_
  refine SOps.skip rfl 23 26 true rfl rfl (.inl rfl) rfl ?_
  refine SOps.q rfl (.plain rfl) rfl (q_pick_f rfl rfl rfl rfl) ?_
  refine SOps.q rfl (.plain rfl) rfl (q_move rfl rfl) ?_
  refine SOps.skip rfl 28 31 true rfl rfl (.inl rfl) rfl ?_
  refine SOps.skip rfl 28 31 true rfl rfl (.inl rfl) rfl ?_
  refine SOps.skip rfl 28 31 true rfl rfl (.inl rfl) rfl ?_
  refine SOps.q rfl (.plain rfl) rfl (q_pick_f rfl rfl rfl rfl) ?_
  refine SOps.q rfl (.plain rfl) rfl (q_move rfl rfl) ?_
  refine SOps.skip rfl 33 36 true rfl rfl (.inl rfl) rfl ?_
  refine SOps.skip rfl 33 36 true rfl rfl (.inl rfl) rfl ?_
  refine SOps.skip rfl 33 36 true rfl rfl (.inl rfl) rfl ?_
  refine SOps.q rfl (.plain rfl) rfl (q_pick_f rfl rfl rfl rfl) ?_
  refine SOps.q rfl (.plain rfl) rfl (q_move rfl rfl) ?_
  refine SOps.skip rfl 38 41 true rfl rfl (.inl rfl) rfl ?_
  refine SOps.skip rfl 38 41 true rfl rfl (.inl rfl) rfl ?_
  refine SOps.skip rfl 38 41 true rfl rfl (.inl rfl) rfl ?_
  refine SOps.q rfl (.plain rfl) rfl (q_pick_f rfl rfl rfl rfl) ?_
  refine SOps.q rfl (.plain rfl) rfl (q_move rfl rfl) ?_
  refine SOps.skip rfl 43 46 true rfl rfl (.inl rfl) rfl ?_
  refine SOps.skip rfl 43 46 true rfl rfl (.inl rfl) rfl ?_
  refine SOps.skip rfl 43 46 true rfl rfl (.inl rfl) rfl ?_
  refine SOps.q rfl (.plain rfl) rfl (q_pick_f rfl rfl rfl rfl) ?_
  refine SOps.q rfl (.plain rfl) rfl (q_assign rfl rfl) ?_
  refine SOps.sub (st' := ⟨[(2, .c (.bool false))], []⟩) (sub_gen [] rfl rfl ⟨zc rfl rfl, trivial⟩ trivial) ?_
  refine SOps.nil ?_
  refine SCode.ret ?_
  obtain rfl := Option.some.inj h
  exact ⟨⟨[(2, .c (.bool false))], []⟩, _, sub_gen [] rfl rfl ⟨zc rfl rfl, trivial⟩ trivial, resA1 (v := .c (.bool false)) rfl rfl, rfl⟩
set_option maxRecDepth 100000 in
set_option maxHeartbeats 8000000 in
theorem chargenetref01_Capital_ok (F : Nat) (a0_c : Int) (r : Int) (h : chargenetref01_Capital F a0_c = some r) :
    SFun Try.prog 44 [] [.c (.int .u8 a0_c)] (fun x _ => x = .c (.int .u8 r)) := by
  refine SFun.of (n := 12) Try.func44 rfl rfl rfl ?_
  unfold chargenetref01_Capital at h
  show SCode _ _ _ ⟨[(0, .c (.int .u8 a0_c))], []⟩ _
  refine SCode.seq ?_
  refine SCode.region (show SOps _ _ _ [0] _ _ from ?_)
  refine SOps.q rfl (.plain rfl) rfl (q_assign rfl rfl) ?_
  refine SOps.sub (st' := ⟨[(0, .c (.int .u8 a0_c))], []⟩) (sub_gen [] rfl rfl ⟨zc rfl rfl, trivial⟩ trivial) ?_
  refine SOps.nil ?_
  refine SCode.join (σ := Unit) (S := fun s => ⟨[(0, .c (.int .u8 a0_c))], []⟩) (g := fun s => chargenetref01_Capital_p1 a0_c = some r) ?_ ?_
  rotate_left
  · refine SCode.seq ?_
    rcases cond_out h with ⟨g2, h⟩ | ⟨g2, h⟩
    · refine SCode.region (show SOps _ _ _ [0, 1, 2, 3, 4, 5] _ _ from ?_)
      refine SOps.q rfl (.plain rfl) rfl (q_move rfl rfl) ?_
      refine SOps.q rfl (.plain rfl) rfl (q_geq rfl rfl rfl) ?_
      refine SOps.q rfl (.plain rfl) rfl (q_move rfl rfl) ?_
      refine SOps.q rfl (.guard 2 5 true rfl rfl (gT g2)) rfl (q_move rfl rfl) ?_
      refine SOps.q rfl (.guard 2 5 true rfl rfl (gT g2)) rfl (q_leq rfl rfl rfl) ?_
      refine SOps.q rfl (.plain rfl) rfl (q_pick_t rfl rfl g2 rfl) ?_
      refine SOps.sub (st' := ⟨[(0, .c (.int .u8 a0_c)), (8, .c (.bool (decide (a0_c ≤ 122))))], []⟩) (sub_gen [] rfl rfl ⟨zc rfl rfl, zc rfl rfl, trivial⟩ trivial) ?_
      refine SOps.nil ?_
      rcases cond_out h with ⟨g3, h⟩ | ⟨g3, h⟩
      · refine SCode.cond_t rfl g3 ?_
        refine SCode.seq ?_
        refine SCode.region (show SOps _ _ _ [0, 1, 2] _ _ from ?_)
        refine SOps.q rfl (.plain rfl) rfl (q_move rfl rfl) ?_
        refine SOps.q rfl (.plain rfl) rfl (q_sub rfl rfl rfl) ?_
        refine SOps.q rfl (.plain rfl) rfl (q_assign rfl rfl) ?_
        refine SOps.sub (st' := ⟨[(2, .c (.int .u8 (IntKind.wrap .u8 (a0_c - 32))))], []⟩) (sub_gen [] rfl rfl ⟨zc rfl rfl, trivial⟩ trivial) ?_
        refine SOps.nil ?_
        refine SCode.ret ?_
        obtain rfl := Option.some.inj h
        exact ⟨⟨[(2, .c (.int .u8 (IntKind.wrap .u8 (a0_c - 32))))], []⟩, _, sub_gen [] rfl rfl ⟨zc rfl rfl, trivial⟩ trivial, resA1 (v := .c (.int .u8 (IntKind.wrap .u8 (a0_c - 32)))) rfl rfl, rfl⟩
      refine SCode.cond_f rfl g3 ?_
      refine SCode.skip ?_
      exact ⟨(), h, sub_gen [] rfl rfl ⟨zc rfl rfl, trivial⟩ trivial⟩
    refine SCode.region (show SOps _ _ _ [0, 1, 2, 3, 4, 5] _ _ from ?_)
    refine SOps.q rfl (.plain rfl) rfl (q_move rfl rfl) ?_
    refine SOps.q rfl (.plain rfl) rfl (q_geq rfl rfl rfl) ?_
    refine SOps.q rfl (.plain rfl) rfl (q_move rfl rfl) ?_
    refine SOps.skip rfl 2 5 true rfl rfl (.inl (gF g2)) rfl ?_
    refine SOps.skip rfl 2 5 true rfl rfl (.inl (gF g2)) rfl ?_
    refine SOps.q rfl (.plain rfl) rfl (q_pick_f rfl rfl g2 rfl) ?_
    refine SOps.sub (st' := ⟨[(0, .c (.int .u8 a0_c)), (8, .c (.bool false))], []⟩) (sub_gen [] rfl rfl ⟨zc rfl rfl, zc rfl rfl, trivial⟩ trivial) ?_
    refine SOps.nil ?_
    refine SCode.cond_f rfl rfl ?_
    refine SCode.skip ?_
    exact ⟨(), h, sub_gen [] rfl rfl ⟨zc rfl rfl, trivial⟩ trivial⟩
  rintro ⟨⟩ h
  show SCode _ _ _ ⟨[(0, .c (.int .u8 a0_c))], []⟩ _
  replace h : chargenetref01_Capital_p1 a0_c = some r := h
  unfold chargenetref01_Capital_p1 at h
  refine SCode.seq ?_
  refine SCode.region (show SOps _ _ _ [0, 1] _ _ from ?_)
  refine SOps.q rfl (.plain rfl) rfl (q_move rfl rfl) ?_
  refine SOps.q rfl (.plain rfl) rfl (q_assign rfl rfl) ?_
  refine SOps.sub (st' := ⟨[(2, .c (.int .u8 a0_c))], []⟩) (sub_gen [] rfl rfl ⟨zc rfl rfl, trivial⟩ trivial) ?_
  refine SOps.nil ?_
  refine SCode.ret ?_
  obtain rfl := Option.some.inj h
  exact ⟨⟨[(2, .c (.int .u8 a0_c))], []⟩, _, sub_gen [] rfl rfl ⟨zc rfl rfl, trivial⟩ trivial, resA1 (v := .c (.int .u8 a0_c)) rfl rfl, rfl⟩
set_option maxRecDepth 100000 in
set_option maxHeartbeats 8000000 in
theorem chargenetref01_Value_ok (F : Nat) (a0_c : Int) (r : Int) (h : chargenetref01_Value F a0_c = some r) :
    SFun Try.prog 39 [] [.c (.int .u8 a0_c)] (fun x _ => x = .c (.int .i64 r)) := by
  refine SFun.of (n := 14) Try.func39 rfl rfl rfl ?_
  unfold chargenetref01_Value at h
  show SCode _ _ _ ⟨[(0, .c (.int .u8 a0_c))], []⟩ _
  refine SCode.seq ?_
  refine SCode.region (show SOps _ _ _ [0] _ _ from ?_)
  refine SOps.q rfl (.plain rfl) rfl (q_assign rfl rfl) ?_
  refine SOps.sub (st' := ⟨[(0, .c (.int .u8 a0_c))], []⟩) (sub_gen [] rfl rfl ⟨zc rfl rfl, trivial⟩ trivial) ?_
  refine SOps.nil ?_
  refine SCode.join (σ := Unit) (S := fun s => ⟨[], []⟩) (g := fun s => chargenetref01_Value_p1 = some r) ?_ ?_
  rotate_left
  · refine SCode.seq ?_
    refine SCode.region (show SOps _ _ _ [0] _ _ from ?_)
    refine SOps.q rfl (.plain rfl) rfl (q_assign rfl rfl) ?_
    refine SOps.sub (st' := ⟨[(0, .c (.int .u8 a0_c)), (3, .c (.int .i64 0))], []⟩) (sub_gen [] rfl rfl ⟨zc rfl rfl, zc rfl rfl, trivial⟩ trivial) ?_
    refine SOps.nil ?_
    refine SCode.block ?_
    refine SCode.sub (st' := ⟨[(0, .c (.int .u8 a0_c)), (3, .c (.int .i64 0))], []⟩) (sub_gen [] rfl rfl ⟨zc rfl rfl, zc rfl rfl, trivial⟩ trivial) ?_
    refine (SCode.loop (σ := Nat × Int) (S := fun s => ⟨[(0, .c (.int .u8 a0_c)), (3, .c (.int .i64 s.2))], []⟩) (g := fun s => chargenetref01_Value_l13 F a0_c s.1 s.2 = some r) (μ := fun s => s.1) (F, 0) h ?_)
    rintro ⟨n_13, v_7⟩ h
    replace h : chargenetref01_Value_l13 F a0_c n_13 v_7 = some r := h
    show SCode _ _ _ ⟨[(0, .c (.int .u8 a0_c)), (3, .c (.int .i64 v_7))], []⟩ _
    cases n_13 with
    | zero => cases h
    | succ n_13 =>
      replace h : chargenetref01_Value_b13 F a0_c (fun v_7 => chargenetref01_Value_l13 F a0_c n_13 v_7) v_7 = some r := h
      unfold chargenetref01_Value_b13 at h
      refine SCode.seq ?_
      refine SCode.seq ?_
      refine SCode.region (show SOps _ _ _ [0, 1] _ _ from ?_)
      refine SOps.q rfl (.plain rfl) rfl (q_move rfl rfl) ?_
      refine SOps.q rfl (.plain rfl) rfl (q_lss rfl rfl rfl) ?_
      refine SOps.sub (st' := ⟨[(0, .c (.int .u8 a0_c)), (3, .c (.int .i64 v_7)), (5, .c (.bool (decide (v_7 < 36))))], []⟩) (sub_gen [] rfl rfl ⟨zc rfl rfl, zc rfl rfl, zc rfl rfl, trivial⟩ trivial) ?_
      refine SOps.nil ?_
      rcases cond_out h with ⟨g14, h⟩ | ⟨g14, h⟩
      · refine SCode.cond_t rfl g14 ?_
        refine SCode.skip ?_
        refine SCode.seq ?_
        refine SCode.block ?_
        refine SCode.seq ?_
        obtain ⟨g15, h⟩ := guard_out h
        obtain ⟨c_16, g17, h⟩ := bind_out h
        try dsimp only at h
        refine SCode.draw (s' := [(12, .c (.bool (decide (sGet (ByteArray.mk #[48, 49, 50, 51, 52, 53, 54, 55, 56, 57, 65, 66, 67, 68, 69, 70, 71, 72, 73, 74, 75, 76, 77, 78, 79, 80, 81, 82, 83, 84, 85, 86, 87, 88, 89, 90]) v_7.toNat = c_16)))), (11, .c (.int .u8 c_16)), (10, .c (.int .u8 a0_c)), (9, .c (.int .u8 (sGet (ByteArray.mk #[48, 49, 50, 51, 52, 53, 54, 55, 56, 57, 65, 66, 67, 68, 69, 70, 71, 72, 73, 74, 75, 76, 77, 78, 79, 80, 81, 82, 83, 84, 85, 86, 87, 88, 89, 90]) v_7.toNat))), (8, .c (.int .i64 v_7)), (0, .c (.int .u8 a0_c)), (3, .c (.int .i64 v_7)), (5, .c (.bool (decide (v_7 < 36))))]) mixed [[], [0], [], [2], [0, 1, 2, 3]] 5 0 rfl rfl ?_ ?_
        · refine QChain.run rfl (.plain rfl) rfl (q_move rfl rfl) ?_
          refine QChain.run rfl (.plain rfl) rfl (q_index_str rfl rfl rfl un9 g15.1 g15.2) ?_
          refine QChain.run rfl (.plain rfl) rfl (q_move rfl rfl) ?_
          refine QChain.run rfl (.plain rfl) rfl (q_call (chargenetref01_Capital_ok F a0_c c_16 g17) [] rfl fn44 ⟨⟨_, rfl, .inl ⟨rfl, rfl⟩⟩, trivial⟩ (.inl rfl)) ?_
          refine QChain.run rfl (.plain rfl) rfl (q_eql rfl rfl rfl) ?_
          exact QChain.nil _ _
        refine (show SOps _ _ _ [] _ _ from ?_)
        refine SOps.sub (st' := ⟨[(0, .c (.int .u8 a0_c)), (3, .c (.int .i64 v_7)), (12, .c (.bool (decide (sGet (ByteArray.mk #[48, 49, 50, 51, 52, 53, 54, 55, 56, 57, 65, 66, 67, 68, 69, 70, 71, 72, 73, 74, 75, 76, 77, 78, 79, 80, 81, 82, 83, 84, 85, 86, 87, 88, 89, 90]) v_7.toNat = c_16))))], []⟩) (sub_gen [] rfl rfl ⟨zc rfl rfl, zc rfl rfl, zc rfl rfl, trivial⟩ trivial) ?_
        refine SOps.nil ?_
        rcases cond_out h with ⟨g18, h⟩ | ⟨g18, h⟩
        · refine SCode.cond_t rfl g18 ?_
          refine SCode.seq ?_
          refine SCode.region (show SOps _ _ _ [0, 1] _ _ from ?_)
          refine SOps.q rfl (.plain rfl) rfl (q_move rfl rfl) ?_
          refine SOps.q rfl (.plain rfl) rfl (q_assign rfl rfl) ?_
          refine SOps.sub (st' := ⟨[(2, .c (.int .i64 v_7))], []⟩) (sub_gen [] rfl rfl ⟨zc rfl rfl, trivial⟩ trivial) ?_
          refine SOps.nil ?_
          refine SCode.ret ?_
          obtain rfl := Option.some.inj h
          exact ⟨⟨[(2, .c (.int .i64 v_7))], []⟩, _, sub_gen [] rfl rfl ⟨zc rfl rfl, trivial⟩ trivial, resA1 (v := .c (.int .i64 v_7)) rfl rfl, rfl⟩
        refine SCode.cond_f rfl g18 ?_
        refine SCode.skip ?_
        refine SCode.region (show SOps _ _ _ [0, 1, 2] _ _ from ?_)
        refine SOps.q rfl (.plain rfl) rfl (q_move rfl rfl) ?_
        refine SOps.q rfl (.plain rfl) rfl (q_add rfl rfl rfl) ?_
        refine SOps.q rfl (.plain rfl) rfl (q_assign rfl rfl) ?_
        refine SOps.sub (st' := ⟨[(0, .c (.int .u8 a0_c)), (3, .c (.int .i64 (IntKind.wrap .i64 (v_7 + 1))))], []⟩) (sub_gen [] rfl rfl ⟨zc rfl rfl, zc rfl rfl, trivial⟩ trivial) ?_
        refine SOps.nil ?_
        exact ⟨(n_13, IntKind.wrap .i64 (v_7 + 1)), h, Nat.lt_succ_self n_13, sub_gen [] rfl rfl ⟨zc rfl rfl, zc rfl rfl, trivial⟩ trivial⟩
      refine SCode.cond_f rfl g14 ?_
      refine SCode.exit ?_
      exact ⟨(), h, sub_gen [] rfl rfl trivial trivial⟩
  rintro ⟨⟩ h
  show SCode _ _ _ ⟨[], []⟩ _
  replace h : chargenetref01_Value_p1 = some r := h
  unfold chargenetref01_Value_p1 at h
  refine SCode.seq ?_
  refine SCode.region (show SOps _ _ _ [0] _ _ from ?_)
  refine SOps.q rfl (.plain rfl) rfl (q_assign rfl rfl) ?_
  refine SOps.sub (st' := ⟨[(2, .c (.int .i64 ((-1))))], []⟩) (sub_gen [] rfl rfl ⟨zc rfl rfl, trivial⟩ trivial) ?_
  refine SOps.nil ?_
  refine SCode.ret ?_
  obtain rfl := Option.some.inj h
  exact ⟨⟨[(2, .c (.int .i64 ((-1))))], []⟩, _, sub_gen [] rfl rfl ⟨zc rfl rfl, trivial⟩ trivial, resA1 (v := .c (.int .i64 ((-1)))) rfl rfl, rfl⟩
set_option maxRecDepth 100000 in
set_option maxHeartbeats 8000000 in
theorem chargenetref01_Valid_ok (F : Nat) (a0_s : ByteArray) (r : Bool) (h : chargenetref01_Valid F a0_s = some r) :
    SFun Try.prog 28 [] [.c (.str a0_s)] (fun x _ => x = .c (.bool r)) := by
  refine SFun.of (n := 45) Try.func28 rfl rfl rfl ?_
  unfold chargenetref01_Valid at h
  show SCode _ _ _ ⟨[(0, .c (.str a0_s))], []⟩ _
  refine SCode.seq ?_
  refine SCode.region (show SOps _ _ _ [0] _ _ from ?_)
  refine SOps.q rfl (.plain rfl) rfl (q_assign rfl rfl) ?_
  refine SOps.sub (st' := ⟨[(0, .c (.str a0_s))], []⟩) (sub_gen [] rfl rfl ⟨zc rfl rfl, trivial⟩ trivial) ?_
  refine SOps.nil ?_
  refine SCode.seq ?_
  refine SCode.seq ?_
  rcases cond_out h with ⟨g1, h⟩ | ⟨g1, h⟩
  · refine SCode.region (show SOps _ _ _ [0, 1, 2, 3, 4, 5, 6, 7] _ _ from ?_)
    refine SOps.q rfl (.plain rfl) rfl (q_move rfl rfl) ?_
    refine SOps.q rfl (.plain rfl) rfl (q_len_str rfl rfl un9) ?_
    refine SOps.q rfl (.plain rfl) rfl (q_lss rfl rfl rfl) ?_
    refine SOps.q rfl (.plain rfl) rfl (q_move rfl rfl) ?_
    refine SOps.skip rfl 3 8 false rfl rfl (.inl (gT g1)) rfl ?_
    refine SOps.skip rfl 3 8 false rfl rfl (.inl (gT g1)) rfl ?_
    refine SOps.skip rfl 3 8 false rfl rfl (.inl (gT g1)) rfl ?_
    refine SOps.q rfl (.plain rfl) rfl (q_pick_t rfl rfl g1 rfl) ?_
    refine SOps.sub (st' := ⟨[(0, .c (.str a0_s)), (12, .c (.bool true))], []⟩) (sub_gen [] rfl rfl ⟨zc rfl rfl, zc rfl rfl, trivial⟩ trivial) ?_
    refine SOps.nil ?_
    refine SCode.cond_t rfl rfl ?_
    refine SCode.seq ?_
    refine SCode.region (show SOps _ _ _ [0] _ _ from ?_)
    refine SOps.q rfl (.plain rfl) rfl (q_assign rfl rfl) ?_
    refine SOps.sub (st' := ⟨[(2, .c (.bool false))], []⟩) (sub_gen [] rfl rfl ⟨zc rfl rfl, trivial⟩ trivial) ?_
    refine SOps.nil ?_
    refine SCode.ret ?_
    obtain rfl := Option.some.inj h
    exact ⟨⟨[(2, .c (.bool false))], []⟩, _, sub_gen [] rfl rfl ⟨zc rfl rfl, trivial⟩ trivial, resA1 (v := .c (.bool false)) rfl rfl, rfl⟩
  refine SCode.region (show SOps _ _ _ [0, 1, 2, 3, 4, 5, 6, 7] _ _ from ?_)
  refine SOps.q rfl (.plain rfl) rfl (q_move rfl rfl) ?_
  refine SOps.q rfl (.plain rfl) rfl (q_len_str rfl rfl un9) ?_
  refine SOps.q rfl (.plain rfl) rfl (q_lss rfl rfl rfl) ?_
  refine SOps.q rfl (.plain rfl) rfl (q_move rfl rfl) ?_
  refine SOps.q rfl (.guard 3 8 false rfl rfl (gF g1)) rfl (q_move rfl rfl) ?_
  refine SOps.q rfl (.guard 3 8 false rfl rfl (gF g1)) rfl (q_len_str rfl rfl un9) ?_
  refine SOps.q rfl (.guard 3 8 false rfl rfl (gF g1)) rfl (q_gtr rfl rfl rfl) ?_
  refine SOps.q rfl (.plain rfl) rfl (q_pick_f rfl rfl g1 rfl) ?_
  refine SOps.sub (st' := ⟨[(0, .c (.str a0_s)), (12, .c (.bool (decide (36 < (a0_s.size : Int)))))], []⟩) (sub_gen [] rfl rfl ⟨zc rfl rfl, zc rfl rfl, trivial⟩ trivial) ?_
  refine SOps.nil ?_
  rcases cond_out h with ⟨g2, h⟩ | ⟨g2, h⟩
  · refine SCode.cond_t rfl g2 ?_
    refine SCode.seq ?_
    refine SCode.region (show SOps _ _ _ [0] _ _ from ?_)
    refine SOps.q rfl (.plain rfl) rfl (q_assign rfl rfl) ?_
    refine SOps.sub (st' := ⟨[(2, .c (.bool false))], []⟩) (sub_gen [] rfl rfl ⟨zc rfl rfl, trivial⟩ trivial) ?_
    refine SOps.nil ?_
    refine SCode.ret ?_
    obtain rfl := Option.some.inj h
    exact ⟨⟨[(2, .c (.bool false))], []⟩, _, sub_gen [] rfl rfl ⟨zc rfl rfl, trivial⟩ trivial, resA1 (v := .c (.bool false)) rfl rfl, rfl⟩
  refine SCode.cond_f rfl g2 ?_
  refine SCode.skip ?_
  refine SCode.join (σ := Unit) (S := fun s => ⟨[], []⟩) (g := fun s => chargenetref01_Valid_p3 = some r) ?_ ?_
  rotate_left
  · refine SCode.seq ?_
    refine SCode.region (show SOps _ _ _ [0] _ _ from ?_)
    refine SOps.q rfl (.plain rfl) rfl (q_assign rfl rfl) ?_
    refine SOps.sub (st' := ⟨[(0, .c (.str a0_s)), (3, .c (.int .i64 0))], []⟩) (sub_gen [] rfl rfl ⟨zc rfl rfl, zc rfl rfl, trivial⟩ trivial) ?_
    refine SOps.nil ?_
    refine SCode.block ?_
    refine SCode.sub (st' := ⟨[(0, .c (.str a0_s)), (3, .c (.int .i64 0))], []⟩) (sub_gen [] rfl rfl ⟨zc rfl rfl, zc rfl rfl, trivial⟩ trivial) ?_
    refine (SCode.loop (σ := Nat × Int) (S := fun s => ⟨[(0, .c (.str a0_s)), (3, .c (.int .i64 s.2))], []⟩) (g := fun s => chargenetref01_Valid_l27 F a0_s s.1 s.2 = some r) (μ := fun s => s.1) (F, 0) h ?_)
    rintro ⟨n_27, i_15⟩ h
    replace h : chargenetref01_Valid_l27 F a0_s n_27 i_15 = some r := h
    show SCode _ _ _ ⟨[(0, .c (.str a0_s)), (3, .c (.int .i64 i_15))], []⟩ _
    cases n_27 with
    | zero => cases h
    | succ n_27 =>
      replace h : chargenetref01_Valid_b27 F a0_s (fun i_15 => chargenetref01_Valid_l27 F a0_s n_27 i_15) i_15 = some r := h
      unfold chargenetref01_Valid_b27 at h
      refine SCode.seq ?_
      refine SCode.seq ?_
      refine SCode.region (show SOps _ _ _ [0, 1, 2, 3] _ _ from ?_)
      refine SOps.q rfl (.plain rfl) rfl (q_move rfl rfl) ?_
      refine SOps.q rfl (.plain rfl) rfl (q_move rfl rfl) ?_
      refine SOps.q rfl (.plain rfl) rfl (q_len_str rfl rfl un9) ?_
      refine SOps.q rfl (.plain rfl) rfl (q_lss rfl rfl rfl) ?_
      refine SOps.sub (st' := ⟨[(0, .c (.str a0_s)), (3, .c (.int .i64 i_15)), (16, .c (.bool (decide (i_15 < (a0_s.size : Int)))))], []⟩) (sub_gen [] rfl rfl ⟨zc rfl rfl, zc rfl rfl, zc rfl rfl, trivial⟩ trivial) ?_
      refine SOps.nil ?_
      rcases cond_out h with ⟨g28, h⟩ | ⟨g28, h⟩
      · refine SCode.cond_t rfl g28 ?_
        refine SCode.skip ?_
        refine SCode.join (σ := Unit) (S := fun s => ⟨[(0, .c (.str a0_s)), (3, .c (.int .i64 i_15))], []⟩) (g := fun s => chargenetref01_Valid_p29 i_15 (fun i_15 => chargenetref01_Valid_l27 F a0_s n_27 i_15) = some r) ?_ ?_
        rotate_left
        · refine SCode.block ?_
          refine SCode.seq ?_
          obtain ⟨g30, h⟩ := guard_out h
          refine SCode.region (show SOps _ _ _ [0, 1, 2, 3] _ _ from ?_)
          refine SOps.q rfl (.plain rfl) rfl (q_move rfl rfl) ?_
          refine SOps.q rfl (.plain rfl) rfl (q_move rfl rfl) ?_
          refine SOps.q rfl (.plain rfl) rfl (q_index_str rfl rfl rfl un9 g30.1 g30.2) ?_
          refine SOps.q rfl (.plain rfl) rfl (q_assign rfl rfl) ?_
          refine SOps.sub (st' := ⟨[(0, .c (.str a0_s)), (3, .c (.int .i64 i_15)), (4, .c (.int .u8 (sGet a0_s i_15.toNat)))], []⟩) (sub_gen [] rfl rfl ⟨zc rfl rfl, zc rfl rfl, zc rfl rfl, trivial⟩ trivial) ?_
          refine SOps.nil ?_
          refine SCode.seq ?_
          obtain ⟨c_31, g32, h⟩ := bind_out h
          try dsimp only at h
          rcases cond_out h with ⟨g33, h⟩ | ⟨g33, h⟩
          · rcases cond_out h with ⟨g34, h⟩ | ⟨g34, h⟩
            · rcases cond_out h with ⟨g35, h⟩ | ⟨g35, h⟩
              · rcases cond_out h with ⟨g36, h⟩ | ⟨g36, h⟩
                · rcases cond_out h with ⟨g37, h⟩ | ⟨g37, h⟩
                  · refine SCode.region (show SOps _ _ _ [0, 1, 2, 3, 4, 5, 6, 7, 8, 9, 10, 11, 12, 13, 14, 15, 16, 17, 18, 19, 20, 21, 22] _ _ from ?_)
                    refine SOps.q rfl (.plain rfl) rfl (q_move rfl rfl) ?_
                    refine SOps.q rfl (.plain rfl) rfl (q_call (chargenetref01_Value_ok F (sGet a0_s i_15.toNat) c_31 g32) [] rfl fn39 ⟨⟨_, rfl, .inl ⟨rfl, rfl⟩⟩, trivial⟩ (.inl rfl)) ?_
                    refine SOps.q rfl (.plain rfl) rfl (q_lss rfl rfl rfl) ?_
                    refine SOps.q rfl (.plain rfl) rfl (q_move rfl rfl) ?_
                    refine SOps.q rfl (.guard 3 25 true rfl rfl (gT g33)) rfl (q_move rfl rfl) ?_
                    refine SOps.q rfl (.guard 3 25 true rfl rfl (gT g33)) rfl (q_neq rfl rfl rfl) ?_
                    refine SOps.q rfl (.plain rfl) rfl (q_pick_t rfl rfl g33 rfl) ?_
                    refine SOps.q rfl (.plain rfl) rfl (q_move rfl rfl) ?_
                    refine SOps.q rfl (.guard 7 29 true rfl rfl (gT g34)) rfl (q_move rfl rfl) ?_
                    refine SOps.q rfl (.guard 7 29 true rfl rfl (gT g34)) rfl (q_neq rfl rfl rfl) ?_
                    refine SOps.q rfl (.plain rfl) rfl (q_pick_t rfl rfl g34 rfl) ?_
                    refine SOps.q rfl (.plain rfl) rfl (q_move rfl rfl) ?_
                    refine SOps.q rfl (.guard 11 33 true rfl rfl (gT g35)) rfl (q_move rfl rfl) ?_
                    refine SOps.q rfl (.guard 11 33 true rfl rfl (gT g35)) rfl (q_neq rfl rfl rfl) ?_
                    refine SOps.q rfl (.plain rfl) rfl (q_pick_t rfl rfl g35 rfl) ?_
                    refine SOps.q rfl (.plain rfl) rfl (q_move rfl rfl) ?_
                    refine SOps.q rfl (.guard 15 37 true rfl rfl (gT g36)) rfl (q_move rfl rfl) ?_
                    refine SOps.q rfl (.guard 15 37 true rfl rfl (gT g36)) rfl (q_neq rfl rfl rfl) ?_
                    refine SOps.q rfl (.plain rfl) rfl (q_pick_t rfl rfl g36 rfl) ?_
                    refine SOps.q rfl (.plain rfl) rfl (q_move rfl rfl) ?_
                    refine SOps.q rfl (.guard 19 41 true rfl rfl (gT g37)) rfl (q_move rfl rfl) ?_
                    refine SOps.q rfl (.guard 19 41 true rfl rfl (gT g37)) rfl (q_neq rfl rfl rfl) ?_
                    refine SOps.q rfl (.plain rfl) rfl (q_pick_t rfl rfl g37 rfl) ?_
                    refine SOps.sub (st' := ⟨[(0, .c (.str a0_s)), (3, .c (.int .i64 i_15)), (44, .c (.bool ((!decide (sGet a0_s i_15.toNat = 42)))))], []⟩) (sub_gen [] rfl rfl ⟨zc rfl rfl, zc rfl rfl, zc rfl rfl, trivial⟩ trivial) ?_
                    refine SOps.nil ?_
                    rcases cond_out h with ⟨g38, h⟩ | ⟨g38, h⟩
                    · refine SCode.cond_t rfl g38 ?_
                      refine SCode.seq ?_
                      refine SCode.region (show SOps _ _ _ [0] _ _ from ?_)
                      refine SOps.q rfl (.plain rfl) rfl (q_assign rfl rfl) ?_
                      refine SOps.sub (st' := ⟨[(2, .c (.bool false))], []⟩) (sub_gen [] rfl rfl ⟨zc rfl rfl, trivial⟩ trivial) ?_
                      refine SOps.nil ?_
                      refine SCode.ret ?_
                      obtain rfl := Option.some.inj h
                      exact ⟨⟨[(2, .c (.bool false))], []⟩, _, sub_gen [] rfl rfl ⟨zc rfl rfl, trivial⟩ trivial, resA1 (v := .c (.bool false)) rfl rfl, rfl⟩
                    refine SCode.cond_f rfl g38 ?_
                    refine SCode.skip ?_
                    exact ⟨(), h, sub_gen [] rfl rfl ⟨zc rfl rfl, zc rfl rfl, trivial⟩ trivial⟩
                  refine SCode.region (show SOps _ _ _ [0, 1, 2, 3, 4, 5, 6, 7, 8, 9, 10, 11, 12, 13, 14, 15, 16, 17, 18, 19, 20, 21, 22] _ _ from ?_)
                  refine SOps.q rfl (.plain rfl) rfl (q_move rfl rfl) ?_
                  refine SOps.q rfl (.plain rfl) rfl (q_call (chargenetref01_Value_ok F (sGet a0_s i_15.toNat) c_31 g32) [] rfl fn39 ⟨⟨_, rfl, .inl ⟨rfl, rfl⟩⟩, trivial⟩ (.inl rfl)) ?_
                  refine SOps.q rfl (.plain rfl) rfl (q_lss rfl rfl rfl) ?_
                  refine SOps.q rfl (.plain rfl) rfl (q_move rfl rfl) ?_
                  refine SOps.q rfl (.guard 3 25 true rfl rfl (gT g33)) rfl (q_move rfl rfl) ?_
                  refine SOps.q rfl (.guard 3 25 true rfl rfl (gT g33)) rfl (q_neq rfl rfl rfl) ?_
                  refine SOps.q rfl (.plain rfl) rfl (q_pick_t rfl rfl g33 rfl) ?_
                  refine SOps.q rfl (.plain rfl) rfl (q_move rfl rfl) ?_
                  refine SOps.q rfl (.guard 7 29 true rfl rfl (gT g34)) rfl (q_move rfl rfl) ?_
                  refine SOps.q rfl (.guard 7 29 true rfl rfl (gT g34)) rfl (q_neq rfl rfl rfl) ?_
                  refine SOps.q rfl (.plain rfl) rfl (q_pick_t rfl rfl g34 rfl) ?_
                  refine SOps.q rfl (.plain rfl) rfl (q_move rfl rfl) ?_
                  refine SOps.q rfl (.guard 11 33 true rfl rfl (gT g35)) rfl (q_move rfl rfl) ?_
                  refine SOps.q rfl (.guard 11 33 true rfl rfl (gT g35)) rfl (q_neq rfl rfl rfl) ?_
                  refine SOps.q rfl (.plain rfl) rfl (q_pick_t rfl rfl g35 rfl) ?_
                  refine SOps.q rfl (.plain rfl) rfl (q_move rfl rfl) ?_
                  refine SOps.q rfl (.guard 15 37 true rfl rfl (gT g36)) rfl (q_move rfl rfl) ?_
                  refine SOps.q rfl (.guard 15 37 true rfl rfl (gT g36)) rfl (q_neq rfl rfl rfl) ?_
                  refine SOps.q rfl (.plain rfl) rfl (q_pick_t rfl rfl g36 rfl) ?_
                  refine SOps.q rfl (.plain rfl) rfl (q_move rfl rfl) ?_
                  refine SOps.skip rfl 19 41 true rfl rfl (.inl (gF g37)) rfl ?_
                  refine SOps.skip rfl 19 41 true rfl rfl (.inl (gF g37)) rfl ?_
                  refine SOps.q rfl (.plain rfl) rfl (q_pick_f rfl rfl g37 rfl) ?_
                  refine SOps.sub (st' := ⟨[(0, .c (.str a0_s)), (3, .c (.int .i64 i_15)), (44, .c (.bool false))], []⟩) (sub_gen [] rfl rfl ⟨zc rfl rfl, zc rfl rfl, zc rfl rfl, trivial⟩ trivial) ?_
                  refine SOps.nil ?_
                  refine SCode.cond_f rfl rfl ?_
                  refine SCode.skip ?_
                  exact ⟨(), h, sub_gen [] rfl rfl ⟨zc rfl rfl, zc rfl rfl, trivial⟩ trivial⟩
                refine SCode.region (show SOps _ _ _ [0, 1, 2, 3, 4, 5, 6, 7, 8, 9, 10, 11, 12, 13, 14, 15, 16, 17, 18, 19, 20, 21, 22] _ _ from ?_)
                refine SOps.q rfl (.plain rfl) rfl (q_move rfl rfl) ?_
                refine SOps.q rfl (.plain rfl) rfl (q_call (chargenetref01_Value_ok F (sGet a0_s i_15.toNat) c_31 g32) [] rfl fn39 ⟨⟨_, rfl, .inl ⟨rfl, rfl⟩⟩, trivial⟩ (.inl rfl)) ?_
                refine SOps.q rfl (.plain rfl) rfl (q_lss rfl rfl rfl) ?_
                refine SOps.q rfl (.plain rfl) rfl (q_move rfl rfl) ?_
                refine SOps.q rfl (.guard 3 25 true rfl rfl (gT g33)) rfl (q_move rfl rfl) ?_
                refine SOps.q rfl (.guard 3 25 true rfl rfl (gT g33)) rfl (q_neq rfl rfl rfl) ?_
                refine SOps.q rfl (.plain rfl) rfl (q_pick_t rfl rfl g33 rfl) ?_
                refine SOps.q rfl (.plain rfl) rfl (q_move rfl rfl) ?_
                refine SOps.q rfl (.guard 7 29 true rfl rfl (gT g34)) rfl (q_move rfl rfl) ?_
                refine SOps.q rfl (.guard 7 29 true rfl rfl (gT g34)) rfl (q_neq rfl rfl rfl) ?_
                refine SOps.q rfl (.plain rfl) rfl (q_pick_t rfl rfl g34 rfl) ?_
                refine SOps.q rfl (.plain rfl) rfl (q_move rfl rfl) ?_
                refine SOps.q rfl (.guard 11 33 true rfl rfl (gT g35)) rfl (q_move rfl rfl) ?_
                refine SOps.q rfl (.guard 11 33 true rfl rfl (gT g35)) rfl (q_neq rfl rfl rfl) ?_
                refine SOps.q rfl (.plain rfl) rfl (q_pick_t rfl rfl g35 rfl) ?_
                refine SOps.q rfl (.plain rfl) rfl (q_move rfl rfl) ?_
                refine SOps.skip rfl 15 37 true rfl rfl (.inl (gF g36)) rfl ?_
                refine SOps.skip rfl 15 37 true rfl rfl (.inl (gF g36)) rfl ?_
                refine SOps.q rfl (.plain rfl) rfl (q_pick_f rfl rfl g36 rfl) ?_
                refine SOps.q rfl (.plain rfl) rfl (q_move rfl rfl) ?_
                refine SOps.skip rfl 19 41 true rfl rfl (.inl rfl) rfl ?_
                refine SOps.skip rfl 19 41 true rfl rfl (.inl rfl) rfl ?_
                refine SOps.q rfl (.plain rfl) rfl (q_pick_f rfl rfl rfl rfl) ?_
                refine SOps.sub (st' := ⟨[(0, .c (.str a0_s)), (3, .c (.int .i64 i_15)), (44, .c (.bool false))], []⟩) (sub_gen [] rfl rfl ⟨zc rfl rfl, zc rfl rfl, zc rfl rfl, trivial⟩ trivial) ?_
                refine SOps.nil ?_
                refine SCode.cond_f rfl rfl ?_
                refine SCode.skip ?_
                exact ⟨(), h, sub_gen [] rfl rfl ⟨zc rfl rfl, zc rfl rfl, trivial⟩ trivial⟩
              refine SCode.region (show SOps _ _ _ [0, 1, 2, 3, 4, 5, 6, 7, 8, 9, 10, 11, 12, 13, 14, 15, 16, 17, 18, 19, 20, 21, 22] _ _ from ?_)
              refine SOps.q rfl (.plain rfl) rfl (q_move rfl rfl) ?_
              refine SOps.q rfl (.plain rfl) rfl (q_call (chargenetref01_Value_ok F (sGet a0_s i_15.toNat) c_31 g32) [] rfl fn39 ⟨⟨_, rfl, .inl ⟨rfl, rfl⟩⟩, trivial⟩ (.inl rfl)) ?_
              refine SOps.q rfl (.plain rfl) rfl (q_lss rfl rfl rfl) ?_
              refine SOps.q rfl (.plain rfl) rfl (q_move rfl rfl) ?_
              refine SOps.q rfl (.guard 3 25 true rfl rfl (gT g33)) rfl (q_move rfl rfl) ?_
              refine SOps.q rfl (.guard 3 25 true rfl rfl (gT g33)) rfl (q_neq rfl rfl rfl) ?_
              refine SOps.q rfl (.plain rfl) rfl (q_pick_t rfl rfl g33 rfl) ?_
              refine SOps.q rfl (.plain rfl) rfl (q_move rfl rfl) ?_
              refine SOps.q rfl (.guard 7 29 true rfl rfl (gT g34)) rfl (q_move rfl rfl) ?_
              refine SOps.q rfl (.guard 7 29 true rfl rfl (gT g34)) rfl (q_neq rfl rfl rfl) ?_
              refine SOps.q rfl (.plain rfl) rfl (q_pick_t rfl rfl g34 rfl) ?_
              refine SOps.q rfl (.plain rfl) rfl (q_move rfl rfl) ?_
              refine SOps.skip rfl 11 33 true rfl rfl (.inl (gF g35)) rfl ?_
              refine SOps.skip rfl 11 33 true rfl rfl (.inl (gF g35)) rfl ?_
              refine SOps.q rfl (.plain rfl) rfl (q_pick_f rfl rfl g35 rfl) ?_
              refine SOps.q rfl (.plain rfl) rfl (q_move rfl rfl) ?_
              refine SOps.skip rfl 15 37 true rfl rfl (.inl rfl) rfl ?_
              refine SOps.skip rfl 15 37 true rfl rfl (.inl rfl) rfl ?_
              refine SOps.q rfl (.plain rfl) rfl (q_pick_f rfl rfl rfl rfl) ?_
              refine SOps.q rfl (.plain rfl) rfl (q_move rfl rfl) ?_
              refine SOps.skip rfl 19 41 true rfl rfl (.inl rfl) rfl ?_
              refine SOps.skip rfl 19 41 true rfl rfl (.inl rfl) rfl ?_
              refine SOps.q rfl (.plain rfl) rfl (q_pick_f rfl rfl rfl rfl) ?_
              refine SOps.sub (st' := ⟨[(0, .c (.str a0_s)), (3, .c (.int .i64 i_15)), (44, .c (.bool false))], []⟩) (sub_gen [] rfl rfl ⟨zc rfl rfl, zc rfl rfl, zc rfl rfl, trivial⟩ trivial) ?_
              refine SOps.nil ?_
              refine SCode.cond_f rfl rfl ?_
              refine SCode.skip ?_
              exact ⟨(), h, sub_gen [] rfl rfl ⟨zc rfl rfl, zc rfl rfl, trivial⟩ trivial⟩
            refine SCode.region (show SOps _ _ _ [0, 1, 2, 3, 4, 5, 6, 7, 8, 9, 10, 11, 12, 13, 14, 15, 16, 17, 18, 19, 20, 21, 22] _ _ from ?_)
            refine SOps.q rfl (.plain rfl) rfl (q_move rfl rfl) ?_
            refine SOps.q rfl (.plain rfl) rfl (q_call (chargenetref01_Value_ok F (sGet a0_s i_15.toNat) c_31 g32) [] rfl fn39 ⟨⟨_, rfl, .inl ⟨rfl, rfl⟩⟩, trivial⟩ (.inl rfl)) ?_
            refine SOps.q rfl (.plain rfl) rfl (q_lss rfl rfl rfl) ?_
            refine SOps.q rfl (.plain rfl) rfl (q_move rfl rfl) ?_
            refine SOps.q rfl (.guard 3 25 true rfl rfl (gT g33)) rfl (q_move rfl rfl) ?_
            refine SOps.q rfl (.guard 3 25 true rfl rfl (gT g33)) rfl (q_neq rfl rfl rfl) ?_
            refine SOps.q rfl (.plain rfl) rfl (q_pick_t rfl rfl g33 rfl) ?_
            refine SOps.q rfl (.plain rfl) rfl (q_move rfl rfl) ?_
            refine SOps.skip rfl 7 29 true rfl rfl (.inl (gF g34)) rfl ?_
            refine SOps.skip rfl 7 29 true rfl rfl (.inl (gF g34)) rfl ?_
            refine SOps.q rfl (.plain rfl) rfl (q_pick_f rfl rfl g34 rfl) ?_
            refine SOps.q rfl (.plain rfl) rfl (q_move rfl rfl) ?_
            refine SOps.skip rfl 11 33 true rfl rfl (.inl rfl) rfl ?_
            refine SOps.skip rfl 11 33 true rfl rfl (.inl rfl) rfl ?_
            refine SOps.q rfl (.plain rfl) rfl (q_pick_f rfl rfl rfl rfl) ?_
            refine SOps.q rfl (.plain rfl) rfl (q_move rfl rfl) ?_
            refine SOps.skip rfl 15 37 true rfl rfl (.inl rfl) rfl ?_
            refine SOps.skip rfl 15 37 true rfl rfl (.inl rfl) rfl ?_
            refine SOps.q rfl (.plain rfl) rfl (q_pick_f rfl rfl rfl rfl) ?_
            refine SOps.q rfl (.plain rfl) rfl (q_move rfl rfl) ?_
            refine SOps.skip rfl 19 41 true rfl rfl (.inl rfl) rfl ?_
            refine SOps.skip rfl 19 41 true rfl rfl (.inl rfl) rfl ?_
            refine SOps.q rfl (.plain rfl) rfl (q_pick_f rfl rfl rfl rfl) ?_
            refine SOps.sub (st' := ⟨[(0, .c (.str a0_s)), (3, .c (.int .i64 i_15)), (44, .c (.bool false))], []⟩) (sub_gen [] rfl rfl ⟨zc rfl rfl, zc rfl rfl, zc rfl rfl, trivial⟩ trivial) ?_
            refine SOps.nil ?_
            refine SCode.cond_f rfl rfl ?_
            refine SCode.skip ?_
            exact ⟨(), h, sub_gen [] rfl rfl ⟨zc rfl rfl, zc rfl rfl, trivial⟩ trivial⟩
          refine SCode.region (show SOps _ _ _ [0, 1, 2, 3, 4, 5, 6, 7, 8, 9, 10, 11, 12, 13, 14, 15, 16, 17, 18, 19, 20, 21, 22] _ _ from ?_)
          refine SOps.q rfl (.plain rfl) rfl (q_move rfl rfl) ?_
          refine SOps.q rfl (.plain rfl) rfl (q_call (chargenetref01_Value_ok F (sGet a0_s i_15.toNat) c_31 g32) [] rfl fn39 ⟨⟨_, rfl, .inl ⟨rfl, rfl⟩⟩, trivial⟩ (.inl rfl)) ?_
          refine SOps.q rfl (.plain rfl) rfl (q_lss rfl rfl rfl) ?_
          refine SOps.q rfl (.plain rfl) rfl (q_move rfl rfl) ?_
          refine SOps.skip rfl 3 25 true rfl rfl (.inl (gF g33)) rfl ?_
          refine SOps.skip rfl 3 25 true rfl rfl (.inl (gF g33)) rfl ?_
          refine SOps.q rfl (.plain rfl) rfl (q_pick_f rfl rfl g33 rfl) ?_
          refine SOps.q rfl (.plain rfl) rfl (q_move rfl rfl) ?_
          refine SOps.skip rfl 7 29 true rfl rfl (.inl rfl) rfl ?_
          refine SOps.skip rfl 7 29 true rfl rfl (.inl rfl) rfl ?_
          refine SOps.q rfl (.plain rfl) rfl (q_pick_f rfl rfl rfl rfl) ?_
          refine SOps.q rfl (.plain rfl) rfl (q_move rfl rfl) ?_
          refine SOps.skip rfl 11 33 true rfl rfl (.inl rfl) rfl ?_
          refine SOps.skip rfl 11 33 true rfl rfl (.inl rfl) rfl ?_
          refine SOps.q rfl (.plain rfl) rfl (q_pick_f rfl rfl rfl rfl) ?_
          refine SOps.q rfl (.plain rfl) rfl (q_move rfl rfl) ?_
          refine SOps.skip rfl 15 37 true rfl rfl (.inl rfl) rfl ?_
          refine SOps.skip rfl 15 37 true rfl rfl (.inl rfl) rfl ?_
          refine SOps.q rfl (.plain rfl) rfl (q_pick_f rfl rfl rfl rfl) ?_
          refine SOps.q rfl (.plain rfl) rfl (q_move rfl rfl) ?_
          refine SOps.skip rfl 19 41 true rfl rfl (.inl rfl) rfl ?_
          refine SOps.skip rfl 19 41 true rfl rfl (.inl rfl) rfl ?_
          refine SOps.q rfl (.plain rfl) rfl (q_pick_f rfl rfl rfl rfl) ?_
          refine SOps.sub (st' := ⟨[(0, .c (.str a0_s)), (3, .c (.int .i64 i_15)), (44, .c (.bool false))], []⟩) (sub_gen [] rfl rfl ⟨zc rfl rfl, zc rfl rfl, zc rfl rfl, trivial⟩ trivial) ?_
          refine SOps.nil ?_
          refine SCode.cond_f rfl rfl ?_
          refine SCode.skip ?_
          exact ⟨(), h, sub_gen [] rfl rfl ⟨zc rfl rfl, zc rfl rfl, trivial⟩ trivial⟩
        rintro ⟨⟩ h
        show SCode _ _ _ ⟨[(0, .c (.str a0_s)), (3, .c (.int .i64 i_15))], []⟩ _
        replace h : chargenetref01_Valid_p29 i_15 (fun i_15 => chargenetref01_Valid_l27 F a0_s n_27 i_15) = some r := h
        unfold chargenetref01_Valid_p29 at h
        refine SCode.region (show SOps _ _ _ [0, 1, 2] _ _ from ?_)
        refine SOps.q rfl (.plain rfl) rfl (q_move rfl rfl) ?_
        refine SOps.q rfl (.plain rfl) rfl (q_add rfl rfl rfl) ?_
        refine SOps.q rfl (.plain rfl) rfl (q_assign rfl rfl) ?_
        refine SOps.sub (st' := ⟨[(0, .c (.str a0_s)), (3, .c (.int .i64 (IntKind.wrap .i64 (i_15 + 1))))], []⟩) (sub_gen [] rfl rfl ⟨zc rfl rfl, zc rfl rfl, trivial⟩ trivial) ?_
        refine SOps.nil ?_
        exact ⟨(n_27, IntKind.wrap .i64 (i_15 + 1)), h, Nat.lt_succ_self n_27, sub_gen [] rfl rfl ⟨zc rfl rfl, zc rfl rfl, trivial⟩ trivial⟩
      refine SCode.cond_f rfl g28 ?_
      refine SCode.exit ?_
      exact ⟨(), h, sub_gen [] rfl rfl trivial trivial⟩
  rintro ⟨⟩ h
  show SCode _ _ _ ⟨[], []⟩ _
  replace h : chargenetref01_Valid_p3 = some r := h
  unfold chargenetref01_Valid_p3 at h
  refine SCode.seq ?_
  refine SCode.region (show SOps _ _ _ [0] _ _ from ?_)
  refine SOps.q rfl (.plain rfl) rfl (q_assign rfl rfl) ?_
  refine SOps.sub (st' := ⟨[(2, .c (.bool true))], []⟩) (sub_gen [] rfl rfl ⟨zc rfl rfl, trivial⟩ trivial) ?_
  refine SOps.nil ?_
  refine SCode.ret ?_
  obtain rfl := Option.some.inj h
  exact ⟨⟨[(2, .c (.bool true))], []⟩, _, sub_gen [] rfl rfl ⟨zc rfl rfl, trivial⟩ trivial, resA1 (v := .c (.bool true)) rfl rfl, rfl⟩
end Go.Proofs.Ytjpooimkhkhgkaa.W
