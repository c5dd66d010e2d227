/- Written by a program of ours (wip/eng/gen.py): the functions compute their models. -/
import Derived.Test.YtoncfkdgddfnlaaFacts
import Derived.Test.YtoncfkdgddfnlaaV5x3
namespace Go.Proofs.Ytoncfkdgddfnlaa.W
open Go Go.Proofs Go.Proofs.Ytoncfkdgddfnlaa.E Go.Proofs.Ytoncfkdgddfnlaa.M
set_option linter.unusedVariables false
set_option maxRecDepth 100000
set_option maxHeartbeats 8000000
theorem chargenetref46_Valid_ok (F : Nat) (a0_c : SCDR) (r : Int) (h : chargenetref46_Valid F a0_c = some r) :
  SFun Try.prog 17 [] [.a (bSCDR a0_c)] (fun x _ => x = ci r) := by
 refine SFun.of (n := 126) Try.func17 rfl rfl rfl ?_
 unfold chargenetref46_Valid at h
 show SCode _ _ _ ⟨[(0, .a (bSCDR a0_c))], []⟩ _
 refine SCode.seq (SCode.region (se rfl rfl (e_box rfl rfl rfl rfl rfl rfl) (sa rfl rfl (SOps.nil (SCode.seq (SCode.seq ?_))))))
 obtain ⟨c_1, g2, h⟩ := bind_out h
 try dsimp only at h
 rcases cond_out h with ⟨g3, h⟩ | ⟨g3, h⟩
 ·refine SCode.region (sq rfl rfl (q_field_ptr rfl rfl fd47_0) (sq rfl rfl (q_load_ptr rfl rfl rfl rfl ty9) (sq rfl rfl (q_call (chargenetref01_Valid_ok F a0_c.ID c_1 g2) [] rfl fn24 ⟨⟨_, rfl, .inl ⟨rfl, rfl⟩⟩, trivial⟩ (.inl rfl)) (sq rfl rfl (q_not rfl rfl) (sm rfl rfl (SOps.skip rfl 4 9 false rfl rfl (.inl (gT g3)) rfl (SOps.skip rfl 4 9 false rfl rfl (.inl (gT g3)) rfl (SOps.skip rfl 4 9 false rfl rfl (.inl (gT g3)) rfl (SOps.skip rfl 4 9 false rfl rfl (.inl (gT g3)) rfl (sq rfl rfl (q_pick_t rfl rfl g3 rfl) (sm rfl rfl (SOps.skip rfl 10 15 false rfl rfl (.inl rfl) rfl (SOps.skip rfl 10 15 false rfl rfl (.inl rfl) rfl (SOps.skip rfl 10 15 false rfl rfl (.inl rfl) rfl (SOps.skip rfl 10 15 false rfl rfl (.inl rfl) rfl ?_)))))))))))))))
  refine sq rfl rfl (q_pick_t rfl rfl rfl rfl) (sm rfl rfl (SOps.skip rfl 16 21 false rfl rfl (.inl rfl) rfl (SOps.skip rfl 16 21 false rfl rfl (.inl rfl) rfl (SOps.skip rfl 16 21 false rfl rfl (.inl rfl) rfl (SOps.skip rfl 16 21 false rfl rfl (.inl rfl) rfl (sq rfl rfl (q_pick_t rfl rfl rfl rfl) (sm rfl rfl (SOps.skip rfl 22 27 false rfl rfl (.inl rfl) rfl (SOps.skip rfl 22 27 false rfl rfl (.inl rfl) rfl (SOps.skip rfl 22 27 false rfl rfl (.inl rfl) rfl (SOps.skip rfl 22 27 false rfl rfl (.inl rfl) rfl (sq rfl rfl (q_pick_t rfl rfl rfl rfl) (SOps.sub (st' := ⟨[(1, .c (.ptr 0 0)), (32, .c (.bool true))], [.box (bSCDR a0_c)]⟩) (sub_gen [0] rfl rfl (zall rfl rfl) ⟨bx rfl rfl rfl, trivial⟩) (SOps.nil (SCode.cond_t rfl rfl ?_)))))))))))))))
  refine SCode.seq (SCode.region (sa rfl rfl (SOps.nil (SCode.ret ?_))))
  obtain rfl := Option.some.inj h
  exact ⟨⟨[(2, ci 4)], []⟩, _, sub_gen [] rfl rfl (zall rfl rfl) trivial, resA1 (v := .c (.int .i64 4)) rfl rfl, rfl⟩
 obtain ⟨c_4, g5, h⟩ := bind_out h
 try dsimp only at h
 rcases cond_out h with ⟨g6, h⟩ | ⟨g6, h⟩
 ·refine SCode.region (sq rfl rfl (q_field_ptr rfl rfl fd47_0) (sq rfl rfl (q_load_ptr rfl rfl rfl rfl ty9) (sq rfl rfl (q_call (chargenetref01_Valid_ok F a0_c.ID c_1 g2) [] rfl fn24 ⟨⟨_, rfl, .inl ⟨rfl, rfl⟩⟩, trivial⟩ (.inl rfl)) (sq rfl rfl (q_not rfl rfl) (sm rfl rfl (SOps.q rfl (.guard 4 9 false rfl rfl (gF g3)) rfl (q_field_ptr rfl rfl fd47_1) (SOps.q rfl (.guard 4 9 false rfl rfl (gF g3)) rfl (q_load_ptr rfl rfl rfl rfl ty9) (SOps.q rfl (.guard 4 9 false rfl rfl (gF g3)) rfl (q_call (chargenetref01_Valid_ok F a0_c.Operator c_4 g5) [] rfl fn24 ⟨⟨_, rfl, .inl ⟨rfl, rfl⟩⟩, trivial⟩ (.inl rfl)) (SOps.q rfl (.guard 4 9 false rfl rfl (gF g3)) rfl (q_not rfl rfl) (sq rfl rfl (q_pick_f rfl rfl g3 rfl) (sm rfl rfl (SOps.skip rfl 10 15 false rfl rfl (.inl (gT g6)) rfl (SOps.skip rfl 10 15 false rfl rfl (.inl (gT g6)) rfl (SOps.skip rfl 10 15 false rfl rfl (.inl (gT g6)) rfl (SOps.skip rfl 10 15 false rfl rfl (.inl (gT g6)) rfl ?_)))))))))))))))
  refine sq rfl rfl (q_pick_t rfl rfl g6 rfl) (sm rfl rfl (SOps.skip rfl 16 21 false rfl rfl (.inl rfl) rfl (SOps.skip rfl 16 21 false rfl rfl (.inl rfl) rfl (SOps.skip rfl 16 21 false rfl rfl (.inl rfl) rfl (SOps.skip rfl 16 21 false rfl rfl (.inl rfl) rfl (sq rfl rfl (q_pick_t rfl rfl rfl rfl) (sm rfl rfl (SOps.skip rfl 22 27 false rfl rfl (.inl rfl) rfl (SOps.skip rfl 22 27 false rfl rfl (.inl rfl) rfl (SOps.skip rfl 22 27 false rfl rfl (.inl rfl) rfl (SOps.skip rfl 22 27 false rfl rfl (.inl rfl) rfl (sq rfl rfl (q_pick_t rfl rfl rfl rfl) (SOps.sub (st' := ⟨[(1, .c (.ptr 0 0)), (32, .c (.bool true))], [.box (bSCDR a0_c)]⟩) (sub_gen [0] rfl rfl (zall rfl rfl) ⟨bx rfl rfl rfl, trivial⟩) (SOps.nil (SCode.cond_t rfl rfl ?_)))))))))))))))
  refine SCode.seq (SCode.region (sa rfl rfl (SOps.nil (SCode.ret ?_))))
  obtain rfl := Option.some.inj h
  exact ⟨⟨[(2, ci 4)], []⟩, _, sub_gen [] rfl rfl (zall rfl rfl) trivial, resA1 (v := .c (.int .i64 4)) rfl rfl, rfl⟩
 obtain ⟨c_7, g8, h⟩ := bind_out h
 try dsimp only at h
 rcases cond_out h with ⟨g9, h⟩ | ⟨g9, h⟩
 ·refine SCode.region (sq rfl rfl (q_field_ptr rfl rfl fd47_0) (sq rfl rfl (q_load_ptr rfl rfl rfl rfl ty9) (sq rfl rfl (q_call (chargenetref01_Valid_ok F a0_c.ID c_1 g2) [] rfl fn24 ⟨⟨_, rfl, .inl ⟨rfl, rfl⟩⟩, trivial⟩ (.inl rfl)) (sq rfl rfl (q_not rfl rfl) (sm rfl rfl (SOps.q rfl (.guard 4 9 false rfl rfl (gF g3)) rfl (q_field_ptr rfl rfl fd47_1) (SOps.q rfl (.guard 4 9 false rfl rfl (gF g3)) rfl (q_load_ptr rfl rfl rfl rfl ty9) (SOps.q rfl (.guard 4 9 false rfl rfl (gF g3)) rfl (q_call (chargenetref01_Valid_ok F a0_c.Operator c_4 g5) [] rfl fn24 ⟨⟨_, rfl, .inl ⟨rfl, rfl⟩⟩, trivial⟩ (.inl rfl)) (SOps.q rfl (.guard 4 9 false rfl rfl (gF g3)) rfl (q_not rfl rfl) (sq rfl rfl (q_pick_f rfl rfl g3 rfl) (sm rfl rfl (SOps.q rfl (.guard 10 15 false rfl rfl (gF g6)) rfl (q_field_ptr rfl rfl fd47_2) (SOps.q rfl (.guard 10 15 false rfl rfl (gF g6)) rfl (q_load_ptr rfl rfl rfl rfl ty9) (SOps.q rfl (.guard 10 15 false rfl rfl (gF g6)) rfl (q_call (chargenetref01_Valid_ok F a0_c.Provider c_7 g8) [] rfl fn24 ⟨⟨_, rfl, .inl ⟨rfl, rfl⟩⟩, trivial⟩ (.inl rfl)) (SOps.q rfl (.guard 10 15 false rfl rfl (gF g6)) rfl (q_not rfl rfl) ?_)))))))))))))))
  refine sq rfl rfl (q_pick_f rfl rfl g6 rfl) (sm rfl rfl (SOps.skip rfl 16 21 false rfl rfl (.inl (gT g9)) rfl (SOps.skip rfl 16 21 false rfl rfl (.inl (gT g9)) rfl (SOps.skip rfl 16 21 false rfl rfl (.inl (gT g9)) rfl (SOps.skip rfl 16 21 false rfl rfl (.inl (gT g9)) rfl (sq rfl rfl (q_pick_t rfl rfl g9 rfl) (sm rfl rfl (SOps.skip rfl 22 27 false rfl rfl (.inl rfl) rfl (SOps.skip rfl 22 27 false rfl rfl (.inl rfl) rfl (SOps.skip rfl 22 27 false rfl rfl (.inl rfl) rfl (SOps.skip rfl 22 27 false rfl rfl (.inl rfl) rfl (sq rfl rfl (q_pick_t rfl rfl rfl rfl) (SOps.sub (st' := ⟨[(1, .c (.ptr 0 0)), (32, .c (.bool true))], [.box (bSCDR a0_c)]⟩) (sub_gen [0] rfl rfl (zall rfl rfl) ⟨bx rfl rfl rfl, trivial⟩) (SOps.nil (SCode.cond_t rfl rfl ?_)))))))))))))))
  refine SCode.seq (SCode.region (sa rfl rfl (SOps.nil (SCode.ret ?_))))
  obtain rfl := Option.some.inj h
  exact ⟨⟨[(2, ci 4)], []⟩, _, sub_gen [] rfl rfl (zall rfl rfl) trivial, resA1 (v := .c (.int .i64 4)) rfl rfl, rfl⟩
 obtain ⟨c_10, g11, h⟩ := bind_out h
 try dsimp only at h
 rcases cond_out h with ⟨g12, h⟩ | ⟨g12, h⟩
 ·refine SCode.region (sq rfl rfl (q_field_ptr rfl rfl fd47_0) (sq rfl rfl (q_load_ptr rfl rfl rfl rfl ty9) (sq rfl rfl (q_call (chargenetref01_Valid_ok F a0_c.ID c_1 g2) [] rfl fn24 ⟨⟨_, rfl, .inl ⟨rfl, rfl⟩⟩, trivial⟩ (.inl rfl)) (sq rfl rfl (q_not rfl rfl) (sm rfl rfl (SOps.q rfl (.guard 4 9 false rfl rfl (gF g3)) rfl (q_field_ptr rfl rfl fd47_1) (SOps.q rfl (.guard 4 9 false rfl rfl (gF g3)) rfl (q_load_ptr rfl rfl rfl rfl ty9) (SOps.q rfl (.guard 4 9 false rfl rfl (gF g3)) rfl (q_call (chargenetref01_Valid_ok F a0_c.Operator c_4 g5) [] rfl fn24 ⟨⟨_, rfl, .inl ⟨rfl, rfl⟩⟩, trivial⟩ (.inl rfl)) (SOps.q rfl (.guard 4 9 false rfl rfl (gF g3)) rfl (q_not rfl rfl) (sq rfl rfl (q_pick_f rfl rfl g3 rfl) (sm rfl rfl (SOps.q rfl (.guard 10 15 false rfl rfl (gF g6)) rfl (q_field_ptr rfl rfl fd47_2) (SOps.q rfl (.guard 10 15 false rfl rfl (gF g6)) rfl (q_load_ptr rfl rfl rfl rfl ty9) (SOps.q rfl (.guard 10 15 false rfl rfl (gF g6)) rfl (q_call (chargenetref01_Valid_ok F a0_c.Provider c_7 g8) [] rfl fn24 ⟨⟨_, rfl, .inl ⟨rfl, rfl⟩⟩, trivial⟩ (.inl rfl)) (SOps.q rfl (.guard 10 15 false rfl rfl (gF g6)) rfl (q_not rfl rfl) ?_)))))))))))))))
  refine sq rfl rfl (q_pick_f rfl rfl g6 rfl) (sm rfl rfl (SOps.q rfl (.guard 16 21 false rfl rfl (gF g9)) rfl (q_field_ptr rfl rfl fd47_3) (SOps.q rfl (.guard 16 21 false rfl rfl (gF g9)) rfl (q_load_ptr rfl rfl rfl rfl ty9) (SOps.q rfl (.guard 16 21 false rfl rfl (gF g9)) rfl (q_call (chargenetref01_Valid_ok F a0_c.Session c_10 g11) [] rfl fn24 ⟨⟨_, rfl, .inl ⟨rfl, rfl⟩⟩, trivial⟩ (.inl rfl)) (SOps.q rfl (.guard 16 21 false rfl rfl (gF g9)) rfl (q_not rfl rfl) (sq rfl rfl (q_pick_f rfl rfl g9 rfl) (sm rfl rfl (SOps.skip rfl 22 27 false rfl rfl (.inl (gT g12)) rfl (SOps.skip rfl 22 27 false rfl rfl (.inl (gT g12)) rfl (SOps.skip rfl 22 27 false rfl rfl (.inl (gT g12)) rfl (SOps.skip rfl 22 27 false rfl rfl (.inl (gT g12)) rfl (sq rfl rfl (q_pick_t rfl rfl g12 rfl) (SOps.sub (st' := ⟨[(1, .c (.ptr 0 0)), (32, .c (.bool true))], [.box (bSCDR a0_c)]⟩) (sub_gen [0] rfl rfl (zall rfl rfl) ⟨bx rfl rfl rfl, trivial⟩) (SOps.nil (SCode.cond_t rfl rfl ?_)))))))))))))))
  refine SCode.seq (SCode.region (sa rfl rfl (SOps.nil (SCode.ret ?_))))
  obtain rfl := Option.some.inj h
  exact ⟨⟨[(2, ci 4)], []⟩, _, sub_gen [] rfl rfl (zall rfl rfl) trivial, resA1 (v := .c (.int .i64 4)) rfl rfl, rfl⟩
 obtain ⟨c_13, g14, h⟩ := bind_out h
 try dsimp only at h
 refine SCode.region (sq rfl rfl (q_field_ptr rfl rfl fd47_0) (sq rfl rfl (q_load_ptr rfl rfl rfl rfl ty9) (sq rfl rfl (q_call (chargenetref01_Valid_ok F a0_c.ID c_1 g2) [] rfl fn24 ⟨⟨_, rfl, .inl ⟨rfl, rfl⟩⟩, trivial⟩ (.inl rfl)) (sq rfl rfl (q_not rfl rfl) (sm rfl rfl (SOps.q rfl (.guard 4 9 false rfl rfl (gF g3)) rfl (q_field_ptr rfl rfl fd47_1) (SOps.q rfl (.guard 4 9 false rfl rfl (gF g3)) rfl (q_load_ptr rfl rfl rfl rfl ty9) (SOps.q rfl (.guard 4 9 false rfl rfl (gF g3)) rfl (q_call (chargenetref01_Valid_ok F a0_c.Operator c_4 g5) [] rfl fn24 ⟨⟨_, rfl, .inl ⟨rfl, rfl⟩⟩, trivial⟩ (.inl rfl)) (SOps.q rfl (.guard 4 9 false rfl rfl (gF g3)) rfl (q_not rfl rfl) (sq rfl rfl (q_pick_f rfl rfl g3 rfl) (sm rfl rfl (SOps.q rfl (.guard 10 15 false rfl rfl (gF g6)) rfl (q_field_ptr rfl rfl fd47_2) (SOps.q rfl (.guard 10 15 false rfl rfl (gF g6)) rfl (q_load_ptr rfl rfl rfl rfl ty9) (SOps.q rfl (.guard 10 15 false rfl rfl (gF g6)) rfl (q_call (chargenetref01_Valid_ok F a0_c.Provider c_7 g8) [] rfl fn24 ⟨⟨_, rfl, .inl ⟨rfl, rfl⟩⟩, trivial⟩ (.inl rfl)) (SOps.q rfl (.guard 10 15 false rfl rfl (gF g6)) rfl (q_not rfl rfl) ?_)))))))))))))))
 refine sq rfl rfl (q_pick_f rfl rfl g6 rfl) (sm rfl rfl (SOps.q rfl (.guard 16 21 false rfl rfl (gF g9)) rfl (q_field_ptr rfl rfl fd47_3) (SOps.q rfl (.guard 16 21 false rfl rfl (gF g9)) rfl (q_load_ptr rfl rfl rfl rfl ty9) (SOps.q rfl (.guard 16 21 false rfl rfl (gF g9)) rfl (q_call (chargenetref01_Valid_ok F a0_c.Session c_10 g11) [] rfl fn24 ⟨⟨_, rfl, .inl ⟨rfl, rfl⟩⟩, trivial⟩ (.inl rfl)) (SOps.q rfl (.guard 16 21 false rfl rfl (gF g9)) rfl (q_not rfl rfl) (sq rfl rfl (q_pick_f rfl rfl g9 rfl) (sm rfl rfl (SOps.q rfl (.guard 22 27 false rfl rfl (gF g12)) rfl (q_field_ptr rfl rfl fd47_8) (SOps.q rfl (.guard 22 27 false rfl rfl (gF g12)) rfl (q_load_ptr rfl rfl rfl rfl ty9) (SOps.q rfl (.guard 22 27 false rfl rfl (gF g12)) rfl (q_call (chargenetref01_Valid_ok F a0_c.Tariff c_13 g14) [] rfl fn24 ⟨⟨_, rfl, .inl ⟨rfl, rfl⟩⟩, trivial⟩ (.inl rfl)) (SOps.q rfl (.guard 22 27 false rfl rfl (gF g12)) rfl (q_not rfl rfl) (sq rfl rfl (q_pick_f rfl rfl g12 rfl) (SOps.sub (st' := ⟨[(1, .c (.ptr 0 0)), (32, .c (.bool ((!c_13))))], [.box (bSCDR a0_c)]⟩) (sub_gen [0] rfl rfl (zall rfl rfl) ⟨bx rfl rfl rfl, trivial⟩) (SOps.nil ?_))))))))))))))
 rcases cond_out h with ⟨g15, h⟩ | ⟨g15, h⟩
 ·refine SCode.cond_t rfl g15 (SCode.seq (SCode.region (sa rfl rfl (SOps.nil (SCode.ret ?_)))))
  obtain rfl := Option.some.inj h
  exact ⟨⟨[(2, ci 4)], []⟩, _, sub_gen [] rfl rfl (zall rfl rfl) trivial, resA1 (v := .c (.int .i64 4)) rfl rfl, rfl⟩
 refine SCode.cond_f rfl g15 (SCode.skip (SCode.seq (SCode.seq (SCode.region (sq rfl rfl (q_field_ptr rfl rfl fd47_1) (sq rfl rfl (q_load_ptr rfl rfl rfl rfl ty9) (sq rfl rfl (q_field_ptr rfl rfl fd47_2) (sq rfl rfl (q_load_ptr rfl rfl rfl rfl ty9) (sq rfl rfl (q_eqlS rfl rfl rfl) (SOps.nil ?_))))))))))
 rcases cond_out h with ⟨g16, h⟩ | ⟨g16, h⟩
 ·refine SCode.cond_t rfl g16 (SCode.seq (SCode.region (sa rfl rfl (SOps.nil (SCode.ret ?_)))))
  obtain rfl := Option.some.inj h
  exact ⟨⟨[(2, ci 1)], []⟩, _, sub_gen [] rfl rfl (zall rfl rfl) trivial, resA1 (v := .c (.int .i64 1)) rfl rfl, rfl⟩
 refine SCode.cond_f rfl g16 (SCode.skip (SCode.seq (SCode.seq ?_)))
 obtain ⟨c_17, g18, h⟩ := bind_out h
 try dsimp only at h
 rcases cond_out h with ⟨g19, h⟩ | ⟨g19, h⟩
 ·refine SCode.region (sq rfl rfl (q_field_ptr rfl rfl fd47_4) (sq rfl rfl (q_load_ptr rfl rfl rfl rfl ty3) (sq rfl rfl (q_call (chargenetref46_in_ok F a0_c.Version 1 2147483647 c_17 g18) [] rfl fn34 ⟨⟨_, rfl, .inl ⟨rfl, rfl⟩⟩, ⟨_, rfl, .inl ⟨rfl, rfl⟩⟩, ⟨_, rfl, .inl ⟨rfl, rfl⟩⟩, trivial⟩ (.inl rfl)) (sq rfl rfl (q_not rfl rfl) (sm rfl rfl (SOps.skip rfl 4 42 false rfl rfl (.inl (gT g19)) rfl (SOps.skip rfl 4 42 false rfl rfl (.inl (gT g19)) rfl (SOps.skip rfl 4 42 false rfl rfl (.inl (gT g19)) rfl (sq rfl rfl (q_pick_t rfl rfl g19 rfl) (sm rfl rfl (SOps.skip rfl 9 47 false rfl rfl (.inl rfl) rfl (SOps.skip rfl 9 47 false rfl rfl (.inl rfl) rfl (SOps.skip rfl 9 47 false rfl rfl (.inl rfl) rfl (SOps.skip rfl 9 47 false rfl rfl (.inl rfl) rfl (SOps.skip rfl 9 47 false rfl rfl (.inl rfl) rfl ?_)))))))))))))))
  refine sq rfl rfl (q_pick_t rfl rfl rfl rfl) (sm rfl rfl (SOps.skip rfl 16 54 false rfl rfl (.inl rfl) rfl (SOps.skip rfl 16 54 false rfl rfl (.inl rfl) rfl (SOps.skip rfl 16 54 false rfl rfl (.inl rfl) rfl (sq rfl rfl (q_pick_t rfl rfl rfl rfl) (sm rfl rfl (SOps.skip rfl 21 59 false rfl rfl (.inl rfl) rfl (SOps.skip rfl 21 59 false rfl rfl (.inl rfl) rfl (SOps.skip rfl 21 59 false rfl rfl (.inl rfl) rfl (SOps.skip rfl 21 59 false rfl rfl (.inl rfl) rfl (sq rfl rfl (q_pick_t rfl rfl rfl rfl) (SOps.sub (st' := ⟨[(1, .c (.ptr 0 0)), (64, .c (.bool true))], [.box (bSCDR a0_c)]⟩) (sub_gen [0] rfl rfl (zall rfl rfl) ⟨bx rfl rfl rfl, trivial⟩) (SOps.nil (SCode.cond_t rfl rfl (SCode.seq ?_)))))))))))))))
  refine SCode.region (sa rfl rfl (SOps.nil (SCode.ret ?_)))
  obtain rfl := Option.some.inj h
  exact ⟨⟨[(2, ci 2)], []⟩, _, sub_gen [] rfl rfl (zall rfl rfl) trivial, resA1 (v := .c (.int .i64 2)) rfl rfl, rfl⟩
 rcases cond_out h with ⟨g20, h⟩ | ⟨g20, h⟩
 ·refine SCode.region (sq rfl rfl (q_field_ptr rfl rfl fd47_4) (sq rfl rfl (q_load_ptr rfl rfl rfl rfl ty3) (sq rfl rfl (q_call (chargenetref46_in_ok F a0_c.Version 1 2147483647 c_17 g18) [] rfl fn34 ⟨⟨_, rfl, .inl ⟨rfl, rfl⟩⟩, ⟨_, rfl, .inl ⟨rfl, rfl⟩⟩, ⟨_, rfl, .inl ⟨rfl, rfl⟩⟩, trivial⟩ (.inl rfl)) (sq rfl rfl (q_not rfl rfl) (sm rfl rfl (SOps.q rfl (.guard 4 42 false rfl rfl (gF g19)) rfl (q_field_ptr rfl rfl fd47_5) (SOps.q rfl (.guard 4 42 false rfl rfl (gF g19)) rfl (q_load_ptr rfl rfl rfl rfl ty3) (SOps.q rfl (.guard 4 42 false rfl rfl (gF g19)) rfl (q_lss rfl rfl rfl) (sq rfl rfl (q_pick_f rfl rfl g19 rfl) (sm rfl rfl (SOps.skip rfl 9 47 false rfl rfl (.inl (gT g20)) rfl (SOps.skip rfl 9 47 false rfl rfl (.inl (gT g20)) rfl (SOps.skip rfl 9 47 false rfl rfl (.inl (gT g20)) rfl (SOps.skip rfl 9 47 false rfl rfl (.inl (gT g20)) rfl (SOps.skip rfl 9 47 false rfl rfl (.inl (gT g20)) rfl ?_)))))))))))))))
  refine sq rfl rfl (q_pick_t rfl rfl g20 rfl) (sm rfl rfl (SOps.skip rfl 16 54 false rfl rfl (.inl rfl) rfl (SOps.skip rfl 16 54 false rfl rfl (.inl rfl) rfl (SOps.skip rfl 16 54 false rfl rfl (.inl rfl) rfl (sq rfl rfl (q_pick_t rfl rfl rfl rfl) (sm rfl rfl (SOps.skip rfl 21 59 false rfl rfl (.inl rfl) rfl (SOps.skip rfl 21 59 false rfl rfl (.inl rfl) rfl (SOps.skip rfl 21 59 false rfl rfl (.inl rfl) rfl (SOps.skip rfl 21 59 false rfl rfl (.inl rfl) rfl (sq rfl rfl (q_pick_t rfl rfl rfl rfl) (SOps.sub (st' := ⟨[(1, .c (.ptr 0 0)), (64, .c (.bool true))], [.box (bSCDR a0_c)]⟩) (sub_gen [0] rfl rfl (zall rfl rfl) ⟨bx rfl rfl rfl, trivial⟩) (SOps.nil (SCode.cond_t rfl rfl (SCode.seq ?_)))))))))))))))
  refine SCode.region (sa rfl rfl (SOps.nil (SCode.ret ?_)))
  obtain rfl := Option.some.inj h
  exact ⟨⟨[(2, ci 2)], []⟩, _, sub_gen [] rfl rfl (zall rfl rfl) trivial, resA1 (v := .c (.int .i64 2)) rfl rfl, rfl⟩
 rcases cond_out h with ⟨g21, h⟩ | ⟨g21, h⟩
 ·refine SCode.region (sq rfl rfl (q_field_ptr rfl rfl fd47_4) (sq rfl rfl (q_load_ptr rfl rfl rfl rfl ty3) (sq rfl rfl (q_call (chargenetref46_in_ok F a0_c.Version 1 2147483647 c_17 g18) [] rfl fn34 ⟨⟨_, rfl, .inl ⟨rfl, rfl⟩⟩, ⟨_, rfl, .inl ⟨rfl, rfl⟩⟩, ⟨_, rfl, .inl ⟨rfl, rfl⟩⟩, trivial⟩ (.inl rfl)) (sq rfl rfl (q_not rfl rfl) (sm rfl rfl (SOps.q rfl (.guard 4 42 false rfl rfl (gF g19)) rfl (q_field_ptr rfl rfl fd47_5) (SOps.q rfl (.guard 4 42 false rfl rfl (gF g19)) rfl (q_load_ptr rfl rfl rfl rfl ty3) (SOps.q rfl (.guard 4 42 false rfl rfl (gF g19)) rfl (q_lss rfl rfl rfl) (sq rfl rfl (q_pick_f rfl rfl g19 rfl) (sm rfl rfl (SOps.q rfl (.guard 9 47 false rfl rfl (gF g20)) rfl (q_field_ptr rfl rfl fd47_5) (SOps.q rfl (.guard 9 47 false rfl rfl (gF g20)) rfl (q_load_ptr rfl rfl rfl rfl ty3) (SOps.q rfl (.guard 9 47 false rfl rfl (gF g20)) rfl (q_field_ptr rfl rfl fd47_6) (SOps.q rfl (.guard 9 47 false rfl rfl (gF g20)) rfl (q_load_ptr rfl rfl rfl rfl ty3) (SOps.q rfl (.guard 9 47 false rfl rfl (gF g20)) rfl (q_gtr rfl rfl rfl) ?_)))))))))))))))
  refine sq rfl rfl (q_pick_f rfl rfl g20 rfl) (sm rfl rfl (SOps.skip rfl 16 54 false rfl rfl (.inl (gT g21)) rfl (SOps.skip rfl 16 54 false rfl rfl (.inl (gT g21)) rfl (SOps.skip rfl 16 54 false rfl rfl (.inl (gT g21)) rfl (sq rfl rfl (q_pick_t rfl rfl g21 rfl) (sm rfl rfl (SOps.skip rfl 21 59 false rfl rfl (.inl rfl) rfl (SOps.skip rfl 21 59 false rfl rfl (.inl rfl) rfl (SOps.skip rfl 21 59 false rfl rfl (.inl rfl) rfl (SOps.skip rfl 21 59 false rfl rfl (.inl rfl) rfl (sq rfl rfl (q_pick_t rfl rfl rfl rfl) (SOps.sub (st' := ⟨[(1, .c (.ptr 0 0)), (64, .c (.bool true))], [.box (bSCDR a0_c)]⟩) (sub_gen [0] rfl rfl (zall rfl rfl) ⟨bx rfl rfl rfl, trivial⟩) (SOps.nil (SCode.cond_t rfl rfl (SCode.seq ?_)))))))))))))))
  refine SCode.region (sa rfl rfl (SOps.nil (SCode.ret ?_)))
  obtain rfl := Option.some.inj h
  exact ⟨⟨[(2, ci 2)], []⟩, _, sub_gen [] rfl rfl (zall rfl rfl) trivial, resA1 (v := .c (.int .i64 2)) rfl rfl, rfl⟩
 rcases cond_out h with ⟨g22, h⟩ | ⟨g22, h⟩
 ·refine SCode.region (sq rfl rfl (q_field_ptr rfl rfl fd47_4) (sq rfl rfl (q_load_ptr rfl rfl rfl rfl ty3) (sq rfl rfl (q_call (chargenetref46_in_ok F a0_c.Version 1 2147483647 c_17 g18) [] rfl fn34 ⟨⟨_, rfl, .inl ⟨rfl, rfl⟩⟩, ⟨_, rfl, .inl ⟨rfl, rfl⟩⟩, ⟨_, rfl, .inl ⟨rfl, rfl⟩⟩, trivial⟩ (.inl rfl)) (sq rfl rfl (q_not rfl rfl) (sm rfl rfl (SOps.q rfl (.guard 4 42 false rfl rfl (gF g19)) rfl (q_field_ptr rfl rfl fd47_5) (SOps.q rfl (.guard 4 42 false rfl rfl (gF g19)) rfl (q_load_ptr rfl rfl rfl rfl ty3) (SOps.q rfl (.guard 4 42 false rfl rfl (gF g19)) rfl (q_lss rfl rfl rfl) (sq rfl rfl (q_pick_f rfl rfl g19 rfl) (sm rfl rfl (SOps.q rfl (.guard 9 47 false rfl rfl (gF g20)) rfl (q_field_ptr rfl rfl fd47_5) (SOps.q rfl (.guard 9 47 false rfl rfl (gF g20)) rfl (q_load_ptr rfl rfl rfl rfl ty3) (SOps.q rfl (.guard 9 47 false rfl rfl (gF g20)) rfl (q_field_ptr rfl rfl fd47_6) (SOps.q rfl (.guard 9 47 false rfl rfl (gF g20)) rfl (q_load_ptr rfl rfl rfl rfl ty3) (SOps.q rfl (.guard 9 47 false rfl rfl (gF g20)) rfl (q_gtr rfl rfl rfl) ?_)))))))))))))))
  refine sq rfl rfl (q_pick_f rfl rfl g20 rfl) (sm rfl rfl (SOps.q rfl (.guard 16 54 false rfl rfl (gF g21)) rfl (q_field_ptr rfl rfl fd47_6) (SOps.q rfl (.guard 16 54 false rfl rfl (gF g21)) rfl (q_load_ptr rfl rfl rfl rfl ty3) (SOps.q rfl (.guard 16 54 false rfl rfl (gF g21)) rfl (q_gtr rfl rfl rfl) (sq rfl rfl (q_pick_f rfl rfl g21 rfl) (sm rfl rfl (SOps.skip rfl 21 59 false rfl rfl (.inl (gT g22)) rfl (SOps.skip rfl 21 59 false rfl rfl (.inl (gT g22)) rfl (SOps.skip rfl 21 59 false rfl rfl (.inl (gT g22)) rfl (SOps.skip rfl 21 59 false rfl rfl (.inl (gT g22)) rfl (sq rfl rfl (q_pick_t rfl rfl g22 rfl) (SOps.sub (st' := ⟨[(1, .c (.ptr 0 0)), (64, .c (.bool true))], [.box (bSCDR a0_c)]⟩) (sub_gen [0] rfl rfl (zall rfl rfl) ⟨bx rfl rfl rfl, trivial⟩) (SOps.nil (SCode.cond_t rfl rfl (SCode.seq ?_)))))))))))))))
  refine SCode.region (sa rfl rfl (SOps.nil (SCode.ret ?_)))
  obtain rfl := Option.some.inj h
  exact ⟨⟨[(2, ci 2)], []⟩, _, sub_gen [] rfl rfl (zall rfl rfl) trivial, resA1 (v := .c (.int .i64 2)) rfl rfl, rfl⟩
 obtain ⟨c_23, g24, h⟩ := bind_out h
 try dsimp only at h
 refine SCode.region (sq rfl rfl (q_field_ptr rfl rfl fd47_4) (sq rfl rfl (q_load_ptr rfl rfl rfl rfl ty3) (sq rfl rfl (q_call (chargenetref46_in_ok F a0_c.Version 1 2147483647 c_17 g18) [] rfl fn34 ⟨⟨_, rfl, .inl ⟨rfl, rfl⟩⟩, ⟨_, rfl, .inl ⟨rfl, rfl⟩⟩, ⟨_, rfl, .inl ⟨rfl, rfl⟩⟩, trivial⟩ (.inl rfl)) (sq rfl rfl (q_not rfl rfl) (sm rfl rfl (SOps.q rfl (.guard 4 42 false rfl rfl (gF g19)) rfl (q_field_ptr rfl rfl fd47_5) (SOps.q rfl (.guard 4 42 false rfl rfl (gF g19)) rfl (q_load_ptr rfl rfl rfl rfl ty3) (SOps.q rfl (.guard 4 42 false rfl rfl (gF g19)) rfl (q_lss rfl rfl rfl) (sq rfl rfl (q_pick_f rfl rfl g19 rfl) (sm rfl rfl (SOps.q rfl (.guard 9 47 false rfl rfl (gF g20)) rfl (q_field_ptr rfl rfl fd47_5) (SOps.q rfl (.guard 9 47 false rfl rfl (gF g20)) rfl (q_load_ptr rfl rfl rfl rfl ty3) (SOps.q rfl (.guard 9 47 false rfl rfl (gF g20)) rfl (q_field_ptr rfl rfl fd47_6) (SOps.q rfl (.guard 9 47 false rfl rfl (gF g20)) rfl (q_load_ptr rfl rfl rfl rfl ty3) (SOps.q rfl (.guard 9 47 false rfl rfl (gF g20)) rfl (q_gtr rfl rfl rfl) ?_)))))))))))))))
 refine sq rfl rfl (q_pick_f rfl rfl g20 rfl) (sm rfl rfl (SOps.q rfl (.guard 16 54 false rfl rfl (gF g21)) rfl (q_field_ptr rfl rfl fd47_6) (SOps.q rfl (.guard 16 54 false rfl rfl (gF g21)) rfl (q_load_ptr rfl rfl rfl rfl ty3) (SOps.q rfl (.guard 16 54 false rfl rfl (gF g21)) rfl (q_gtr rfl rfl rfl) (sq rfl rfl (q_pick_f rfl rfl g21 rfl) (sm rfl rfl (SOps.q rfl (.guard 21 59 false rfl rfl (gF g22)) rfl (q_field_ptr rfl rfl fd47_7) (SOps.q rfl (.guard 21 59 false rfl rfl (gF g22)) rfl (q_load_ptr rfl rfl rfl rfl ty3) (SOps.q rfl (.guard 21 59 false rfl rfl (gF g22)) rfl (q_call (chargenetref46_in_ok F a0_c.Energy 0 36028797018963968 c_23 g24) [] rfl fn34 ⟨⟨_, rfl, .inl ⟨rfl, rfl⟩⟩, ⟨_, rfl, .inl ⟨rfl, rfl⟩⟩, ⟨_, rfl, .inl ⟨rfl, rfl⟩⟩, trivial⟩ (.inl rfl)) (SOps.q rfl (.guard 21 59 false rfl rfl (gF g22)) rfl (q_not rfl rfl) (sq rfl rfl (q_pick_f rfl rfl g22 rfl) (SOps.sub (st' := ⟨[(1, .c (.ptr 0 0)), (64, .c (.bool ((!c_23))))], [.box (bSCDR a0_c)]⟩) (sub_gen [0] rfl rfl (zall rfl rfl) ⟨bx rfl rfl rfl, trivial⟩) (SOps.nil ?_)))))))))))))
 rcases cond_out h with ⟨g25, h⟩ | ⟨g25, h⟩
 ·refine SCode.cond_t rfl g25 (SCode.seq (SCode.region (sa rfl rfl (SOps.nil (SCode.ret ?_)))))
  obtain rfl := Option.some.inj h
  exact ⟨⟨[(2, ci 2)], []⟩, _, sub_gen [] rfl rfl (zall rfl rfl) trivial, resA1 (v := .c (.int .i64 2)) rfl rfl, rfl⟩
 refine SCode.cond_f rfl g25 (SCode.skip (SCode.seq (SCode.seq ?_)))
 obtain ⟨c_26, g27, h⟩ := bind_out h
 try dsimp only at h
 refine SCode.region (sq rfl rfl (q_field_ptr rfl rfl fd47_9) (sq rfl rfl (q_load_ptr rfl rfl rfl rfl ty9) (sq rfl rfl (q_call (chargenetref46_currency_ok F a0_c.Currency c_26 g27) [] rfl fn35 ⟨⟨_, rfl, .inl ⟨rfl, rfl⟩⟩, trivial⟩ (.inl rfl)) (sq rfl rfl (q_not rfl rfl) (SOps.nil ?_)))))
 rcases cond_out h with ⟨g28, h⟩ | ⟨g28, h⟩
 ·refine SCode.cond_t rfl g28 (SCode.seq (SCode.region (sa rfl rfl (SOps.nil (SCode.ret ?_)))))
  obtain rfl := Option.some.inj h
  exact ⟨⟨[(2, ci 21)], []⟩, _, sub_gen [] rfl rfl (zall rfl rfl) trivial, resA1 (v := .c (.int .i64 21)) rfl rfl, rfl⟩
 refine SCode.cond_f rfl g28 (SCode.skip (SCode.seq (SCode.seq (SCode.region (sq rfl rfl (q_field_ptr rfl rfl fd47_10) (sq rfl rfl (q_load_ptr rfl rfl rfl rfl ty45) (sq rfl rfl (q_len_vec rfl rfl sl45) (sq rfl rfl (q_gtr rfl rfl rfl) (SOps.nil ?_)))))))))
 rcases cond_out h with ⟨g29, h⟩ | ⟨g29, h⟩
 ·refine SCode.cond_t rfl g29 (SCode.seq (SCode.region (sa rfl rfl (SOps.nil (SCode.ret ?_)))))
  obtain rfl := Option.some.inj h
  exact ⟨⟨[(2, ci 3)], []⟩, _, sub_gen [] rfl rfl (zall rfl rfl) trivial, resA1 (v := .c (.int .i64 3)) rfl rfl, rfl⟩
 refine SCode.cond_f rfl g29 (SCode.skip (SCode.seq (SCode.region (sa rfl rfl (SOps.nil ?_)))))
 let S5 := fun (sum_30 : Int) => (⟨[(1, .c (.ptr 0 0)), (3, ci sum_30)], [.box (bSCDR a0_c)]⟩ : St)
 refine SCode.join (σ := Int) (S := fun s => (S5 s)) (g := fun s => chargenetref46_Valid_p44 F a0_c s = some r) ?_ ?_
 rotate_left
 ·refine SCode.seq (SCode.region (sa rfl rfl (SOps.nil (SCode.block ?_))))
  let S4 := fun (sum_51 : Int) => fun (i_52 : Int) => (⟨[(1, .c (.ptr 0 0)), (3, ci sum_51), (4, ci i_52)], [.box (bSCDR a0_c)]⟩ : St)
  refine SCode.sub (st' := (S4 0 0)) (sub_gen [0] rfl rfl (zall rfl rfl) ⟨bx rfl rfl rfl, trivial⟩) ?_
  refine (SCode.loop (σ := Nat × (Int × Int)) (S := fun s => (S4 s.2.1 s.2.2)) (g := fun s => chargenetref46_Valid_l59 F a0_c s.1 s.2.1 s.2.2 = some r) (μ := fun s => s.1) (F, (0, 0)) h ?_)
  rintro ⟨n_59, ⟨sum_51, i_52⟩⟩ h
  try dsimp only at h
  show SCode _ _ _ (S4 sum_51 i_52) _
  cases n_59 with
  | zero => cases h
  | succ n_59 =>
   rw [chargenetref46_Valid_l59] at h
   unfold chargenetref46_Valid_b59 at h
   refine SCode.seq (SCode.seq (SCode.region (sm rfl rfl (sq rfl rfl (q_field_ptr rfl rfl fd47_10) (sq rfl rfl (q_load_ptr rfl rfl rfl rfl ty45) (sq rfl rfl (q_len_vec rfl rfl sl45) (sq rfl rfl (q_lss rfl rfl rfl) (SOps.nil ?_))))))))
   rcases cond_out h with ⟨g60, h⟩ | ⟨g60, h⟩
   ·refine SCode.cond_t rfl g60 (SCode.skip (SCode.seq (SCode.block (SCode.seq (SCode.seq ?_)))))
    obtain ⟨g61, h⟩ := guard_out h
    obtain ⟨c_62, g63, h⟩ := bind_out h
    try dsimp only at h
    refine SCode.region (sq rfl rfl (q_field_ptr rfl rfl fd47_10) (sq rfl rfl (q_load_ptr rfl rfl rfl rfl ty45) (sm rfl rfl (sq rfl rfl (q_index_vec rfl rfl rfl sl45 rfl g61.1 g61.2) (sq rfl rfl (q_load_eptr_all rfl rfl rfl ty81) (sq rfl rfl (q_call (chargenetref46_item_ok F (a0_c.Items.getD i_52.toNat dSItem) c_62 g63) [] rfl fn36 ⟨⟨rfl, rfl⟩, trivial⟩ (.inl rfl)) (sq rfl rfl (q_not rfl rfl) (SOps.nil ?_))))))))
    rcases cond_out h with ⟨g64, h⟩ | ⟨g64, h⟩
    ·refine SCode.cond_t rfl g64 (SCode.seq (SCode.region (sa rfl rfl (SOps.nil (SCode.ret ?_)))))
     obtain rfl := Option.some.inj h
     exact ⟨⟨[(2, ci 1)], []⟩, _, sub_gen [] rfl rfl (zall rfl rfl) trivial, resA1 (v := .c (.int .i64 1)) rfl rfl, rfl⟩
    refine SCode.cond_f rfl g64 (SCode.skip ?_)
    obtain ⟨g65, h⟩ := guard_out h
    refine SCode.region (sm rfl rfl (sq rfl rfl (q_field_ptr rfl rfl fd47_10) (sq rfl rfl (q_load_ptr rfl rfl rfl rfl ty45) (sm rfl rfl (sq rfl rfl (q_index_vec rfl rfl rfl sl45 rfl g65.1 g65.2) (sq rfl rfl (q_field_eptr rfl rfl fd81_6 rfl) (sq rfl rfl (q_load_eptr rfl rfl ty3) (sq rfl rfl (q_add rfl rfl rfl) (sa rfl rfl (SOps.sub (st' := ⟨[(1, .c (.ptr 0 0)), (3, ci (IntKind.wrap .i64 (sum_51 + (a0_c.Items.getD i_52.toNat dSItem).Gross))), (4, ci i_52)], [.box (bSCDR a0_c)]⟩) (sub_gen [0] rfl rfl (zall rfl rfl) ⟨bx rfl rfl rfl, trivial⟩) (SOps.nil (SCode.region (sm rfl rfl (sq rfl rfl (q_add rfl rfl rfl) (sa rfl rfl ?_)))))))))))))))
    refine SOps.nil ?_
    exact ⟨(n_59, (IntKind.wrap .i64 (sum_51 + (a0_c.Items.getD i_52.toNat dSItem).Gross), IntKind.wrap .i64 (i_52 + 1))), h, Nat.lt_succ_self n_59, sub_gen [0] rfl rfl (zall rfl rfl) ⟨bx rfl rfl rfl, trivial⟩⟩
   refine SCode.cond_f rfl g60 (SCode.exit ?_)
   exact ⟨sum_51, h, sub_gen [0] rfl rfl (zall rfl rfl) ⟨bx rfl rfl rfl, trivial⟩⟩
 rintro sum_30 h
 show SCode _ _ _ (S5 sum_30) _
 try dsimp only at h
 unfold chargenetref46_Valid_p44 at h
 refine SCode.seq (SCode.seq (SCode.region (sq rfl rfl (q_field_ptr rfl rfl fd47_11) (sq rfl rfl (q_load_ptr rfl rfl rfl rfl ty3) (sm rfl rfl (sq rfl rfl (q_neq rfl rfl rfl) (SOps.nil ?_)))))))
 rcases cond_out h with ⟨g31, h⟩ | ⟨g31, h⟩
 ·refine SCode.cond_t rfl g31 (SCode.seq (SCode.region (sa rfl rfl (SOps.nil (SCode.ret ?_)))))
  obtain rfl := Option.some.inj h
  exact ⟨⟨[(2, ci 1)], []⟩, _, sub_gen [] rfl rfl (zall rfl rfl) trivial, resA1 (v := .c (.int .i64 1)) rfl rfl, rfl⟩
 refine SCode.cond_f rfl g31 (SCode.skip ?_)
 let S3 := (⟨[(1, .c (.ptr 0 0))], [.box (bSCDR a0_c)]⟩ : St)
 refine SCode.join (σ := Unit) (S := fun s => S3) (g := fun s => chargenetref46_Valid_p39 a0_c = some r) ?_ ?_
 rotate_left
 ·refine SCode.seq ?_
  rcases cond_out h with ⟨g40, h⟩ | ⟨g40, h⟩
  ·obtain ⟨c_41, g42, h⟩ := bind_out h
   try dsimp only at h
   refine SCode.region (sq rfl rfl (q_field_ptr rfl rfl fd47_12) (sq rfl rfl (q_load_ptr rfl rfl rfl rfl ty4) (sm rfl rfl (SOps.q rfl (.guard 2 101 true rfl rfl (gT g40)) rfl (q_field_ptr rfl rfl fd47_13) (SOps.q rfl (.guard 2 101 true rfl rfl (gT g40)) rfl (q_load_ptr rfl rfl rfl rfl ty9) (SOps.q rfl (.guard 2 101 true rfl rfl (gT g40)) rfl (q_call (chargenetref01_Valid_ok F a0_c.Ref c_41 g42) [] rfl fn24 ⟨⟨_, rfl, .inl ⟨rfl, rfl⟩⟩, trivial⟩ (.inl rfl)) (SOps.q rfl (.guard 2 101 true rfl rfl (gT g40)) rfl (q_not rfl rfl) (sq rfl rfl (q_pick_t rfl rfl g40 rfl) (SOps.nil ?_)))))))))
   rcases cond_out h with ⟨g43, h⟩ | ⟨g43, h⟩
   ·refine SCode.cond_t rfl g43 (SCode.seq (SCode.region (sa rfl rfl (SOps.nil (SCode.ret ?_)))))
    obtain rfl := Option.some.inj h
    exact ⟨⟨[(2, ci 4)], []⟩, _, sub_gen [] rfl rfl (zall rfl rfl) trivial, resA1 (v := .c (.int .i64 4)) rfl rfl, rfl⟩
   refine SCode.cond_f rfl g43 (SCode.skip ?_)
   exact ⟨(), h, sub_gen [0] rfl rfl (zall rfl rfl) ⟨bx rfl rfl rfl, trivial⟩⟩
  refine SCode.region (sq rfl rfl (q_field_ptr rfl rfl fd47_12) (sq rfl rfl (q_load_ptr rfl rfl rfl rfl ty4) (sm rfl rfl (SOps.skip rfl 2 101 true rfl rfl (.inl (gF g40)) rfl (SOps.skip rfl 2 101 true rfl rfl (.inl (gF g40)) rfl (SOps.skip rfl 2 101 true rfl rfl (.inl (gF g40)) rfl (SOps.skip rfl 2 101 true rfl rfl (.inl (gF g40)) rfl (sq rfl rfl (q_pick_f rfl rfl g40 rfl) (SOps.nil (SCode.cond_f rfl rfl (SCode.skip ?_)))))))))))
  exact ⟨(), h, sub_gen [0] rfl rfl (zall rfl rfl) ⟨bx rfl rfl rfl, trivial⟩⟩
 rintro ⟨⟩ h
 show SCode _ _ _ S3 _
 try dsimp only at h
 unfold chargenetref46_Valid_p39 at h
 let S2 := (⟨[], []⟩ : St)
 refine SCode.join (σ := Unit) (S := fun s => S2) (g := fun s => chargenetref46_Valid_p32 = some r) ?_ ?_
 rotate_left
 ·refine SCode.seq ?_
  rcases cond_out h with ⟨g33, h⟩ | ⟨g33, h⟩
  ·rcases cond_out h with ⟨g34, h⟩ | ⟨g34, h⟩
   ·refine SCode.region (sq rfl rfl (q_field_ptr rfl rfl fd47_12) (sq rfl rfl (q_load_ptr rfl rfl rfl rfl ty4) (sm rfl rfl (SOps.q rfl (.guard 2 109 true rfl rfl (gT g33)) rfl (q_field_ptr rfl rfl fd47_13) (SOps.q rfl (.guard 2 109 true rfl rfl (gT g33)) rfl (q_load_ptr rfl rfl rfl rfl ty9) (SOps.q rfl (.guard 2 109 true rfl rfl (gT g33)) rfl (q_field_ptr rfl rfl fd47_0) (SOps.q rfl (.guard 2 109 true rfl rfl (gT g33)) rfl (q_load_ptr rfl rfl rfl rfl ty9) (SOps.q rfl (.guard 2 109 true rfl rfl (gT g33)) rfl (q_eqlS rfl rfl rfl) (sq rfl rfl (q_pick_t rfl rfl g33 rfl) (sm rfl rfl (SOps.skip rfl 9 116 false rfl rfl (.inl (gT g34)) rfl (SOps.skip rfl 9 116 false rfl rfl (.inl (gT g34)) rfl (SOps.skip rfl 9 116 false rfl rfl (.inl (gT g34)) rfl (SOps.skip rfl 9 116 false rfl rfl (.inl (gT g34)) rfl (SOps.skip rfl 13 120 true rfl rfl (.inr rfl) rfl ?_)))))))))))))))
    refine SOps.skip rfl 13 120 true rfl rfl (.inr rfl) rfl (SOps.skip rfl 13 120 true rfl rfl (.inr rfl) rfl (SOps.skip rfl 9 116 false rfl rfl (.inl (gT g34)) rfl (sq rfl rfl (q_pick_t rfl rfl g34 rfl) (SOps.sub (st' := ⟨[(125, .c (.bool true))], []⟩) (sub_gen [] rfl rfl (zall rfl rfl) trivial) (SOps.nil (SCode.cond_t rfl rfl (SCode.seq (SCode.region (sa rfl rfl (SOps.nil (SCode.ret ?_)))))))))))
    obtain rfl := Option.some.inj h
    exact ⟨⟨[(2, ci 1)], []⟩, _, sub_gen [] rfl rfl (zall rfl rfl) trivial, resA1 (v := .c (.int .i64 1)) rfl rfl, rfl⟩
   rcases cond_out h with ⟨g35, h⟩ | ⟨g35, h⟩
   ·refine SCode.region (sq rfl rfl (q_field_ptr rfl rfl fd47_12) (sq rfl rfl (q_load_ptr rfl rfl rfl rfl ty4) (sm rfl rfl (SOps.q rfl (.guard 2 109 true rfl rfl (gT g33)) rfl (q_field_ptr rfl rfl fd47_13) (SOps.q rfl (.guard 2 109 true rfl rfl (gT g33)) rfl (q_load_ptr rfl rfl rfl rfl ty9) (SOps.q rfl (.guard 2 109 true rfl rfl (gT g33)) rfl (q_field_ptr rfl rfl fd47_0) (SOps.q rfl (.guard 2 109 true rfl rfl (gT g33)) rfl (q_load_ptr rfl rfl rfl rfl ty9) (SOps.q rfl (.guard 2 109 true rfl rfl (gT g33)) rfl (q_eqlS rfl rfl rfl) (sq rfl rfl (q_pick_t rfl rfl g33 rfl) (sm rfl rfl (SOps.q rfl (.guard 9 116 false rfl rfl (gF g34)) rfl (q_field_ptr rfl rfl fd47_12) (SOps.q rfl (.guard 9 116 false rfl rfl (gF g34)) rfl (q_load_ptr rfl rfl rfl rfl ty4) (SOps.q rfl (.guard 9 116 false rfl rfl (gF g34)) rfl (q_not rfl rfl) (SOps.q rfl (.guard 9 116 false rfl rfl (gF g34)) rfl (q_move rfl rfl) (SOps.q rfl (.guard 13 120 true rfl rfl (gT g35)) rfl (q_field_ptr rfl rfl fd47_13) ?_)))))))))))))))
    refine SOps.q rfl (.guard 13 120 true rfl rfl (gT g35)) rfl (q_load_ptr rfl rfl rfl rfl ty9) (SOps.q rfl (.guard 13 120 true rfl rfl (gT g35)) rfl (q_neqS rfl rfl rfl) (SOps.q rfl (.guard 9 116 false rfl rfl (gF g34)) rfl (q_pick_t rfl rfl g35 rfl) (sq rfl rfl (q_pick_f rfl rfl g34 rfl) (SOps.sub (st' := ⟨[(125, .c (.bool ((!(sEq a0_c.Ref ByteArray.empty)))))], []⟩) (sub_gen [] rfl rfl (zall rfl rfl) trivial) (SOps.nil ?_)))))
    rcases cond_out h with ⟨g36, h⟩ | ⟨g36, h⟩
    ·refine SCode.cond_t rfl g36 (SCode.seq (SCode.region (sa rfl rfl (SOps.nil (SCode.ret ?_)))))
     obtain rfl := Option.some.inj h
     exact ⟨⟨[(2, ci 1)], []⟩, _, sub_gen [] rfl rfl (zall rfl rfl) trivial, resA1 (v := .c (.int .i64 1)) rfl rfl, rfl⟩
    refine SCode.cond_f rfl g36 (SCode.skip ?_)
    exact ⟨(), h, sub_gen [] rfl rfl trivial trivial⟩
   refine SCode.region (sq rfl rfl (q_field_ptr rfl rfl fd47_12) (sq rfl rfl (q_load_ptr rfl rfl rfl rfl ty4) (sm rfl rfl (SOps.q rfl (.guard 2 109 true rfl rfl (gT g33)) rfl (q_field_ptr rfl rfl fd47_13) (SOps.q rfl (.guard 2 109 true rfl rfl (gT g33)) rfl (q_load_ptr rfl rfl rfl rfl ty9) (SOps.q rfl (.guard 2 109 true rfl rfl (gT g33)) rfl (q_field_ptr rfl rfl fd47_0) (SOps.q rfl (.guard 2 109 true rfl rfl (gT g33)) rfl (q_load_ptr rfl rfl rfl rfl ty9) (SOps.q rfl (.guard 2 109 true rfl rfl (gT g33)) rfl (q_eqlS rfl rfl rfl) (sq rfl rfl (q_pick_t rfl rfl g33 rfl) (sm rfl rfl (SOps.q rfl (.guard 9 116 false rfl rfl (gF g34)) rfl (q_field_ptr rfl rfl fd47_12) (SOps.q rfl (.guard 9 116 false rfl rfl (gF g34)) rfl (q_load_ptr rfl rfl rfl rfl ty4) (SOps.q rfl (.guard 9 116 false rfl rfl (gF g34)) rfl (q_not rfl rfl) (SOps.q rfl (.guard 9 116 false rfl rfl (gF g34)) rfl (q_move rfl rfl) (SOps.skip rfl 13 120 true rfl rfl (.inl (gF g35)) rfl ?_)))))))))))))))
   refine SOps.skip rfl 13 120 true rfl rfl (.inl (gF g35)) rfl (SOps.skip rfl 13 120 true rfl rfl (.inl (gF g35)) rfl (SOps.q rfl (.guard 9 116 false rfl rfl (gF g34)) rfl (q_pick_f rfl rfl g35 rfl) (sq rfl rfl (q_pick_f rfl rfl g34 rfl) (SOps.sub (st' := ⟨[(125, .c (.bool false))], []⟩) (sub_gen [] rfl rfl (zall rfl rfl) trivial) (SOps.nil (SCode.cond_f rfl rfl (SCode.skip ?_)))))))
   exact ⟨(), h, sub_gen [] rfl rfl trivial trivial⟩
  rcases cond_out h with ⟨g37, h⟩ | ⟨g37, h⟩
  ·refine SCode.region (sq rfl rfl (q_field_ptr rfl rfl fd47_12) (sq rfl rfl (q_load_ptr rfl rfl rfl rfl ty4) (sm rfl rfl (SOps.skip rfl 2 109 true rfl rfl (.inl (gF g33)) rfl (SOps.skip rfl 2 109 true rfl rfl (.inl (gF g33)) rfl (SOps.skip rfl 2 109 true rfl rfl (.inl (gF g33)) rfl (SOps.skip rfl 2 109 true rfl rfl (.inl (gF g33)) rfl (SOps.skip rfl 2 109 true rfl rfl (.inl (gF g33)) rfl (sq rfl rfl (q_pick_f rfl rfl g33 rfl) (sm rfl rfl (SOps.q rfl (.guard 9 116 false rfl rfl rfl) rfl (q_field_ptr rfl rfl fd47_12) (SOps.q rfl (.guard 9 116 false rfl rfl rfl) rfl (q_load_ptr rfl rfl rfl rfl ty4) (SOps.q rfl (.guard 9 116 false rfl rfl rfl) rfl (q_not rfl rfl) (SOps.q rfl (.guard 9 116 false rfl rfl rfl) rfl (q_move rfl rfl) (SOps.q rfl (.guard 13 120 true rfl rfl (gT g37)) rfl (q_field_ptr rfl rfl fd47_13) ?_)))))))))))))))
   refine SOps.q rfl (.guard 13 120 true rfl rfl (gT g37)) rfl (q_load_ptr rfl rfl rfl rfl ty9) (SOps.q rfl (.guard 13 120 true rfl rfl (gT g37)) rfl (q_neqS rfl rfl rfl) (SOps.q rfl (.guard 9 116 false rfl rfl rfl) rfl (q_pick_t rfl rfl g37 rfl) (sq rfl rfl (q_pick_f rfl rfl rfl rfl) (SOps.sub (st' := ⟨[(125, .c (.bool ((!(sEq a0_c.Ref ByteArray.empty)))))], []⟩) (sub_gen [] rfl rfl (zall rfl rfl) trivial) (SOps.nil ?_)))))
   rcases cond_out h with ⟨g38, h⟩ | ⟨g38, h⟩
   ·refine SCode.cond_t rfl g38 (SCode.seq (SCode.region (sa rfl rfl (SOps.nil (SCode.ret ?_)))))
    obtain rfl := Option.some.inj h
    exact ⟨⟨[(2, ci 1)], []⟩, _, sub_gen [] rfl rfl (zall rfl rfl) trivial, resA1 (v := .c (.int .i64 1)) rfl rfl, rfl⟩
   refine SCode.cond_f rfl g38 (SCode.skip ?_)
   exact ⟨(), h, sub_gen [] rfl rfl trivial trivial⟩
  refine SCode.region (sq rfl rfl (q_field_ptr rfl rfl fd47_12) (sq rfl rfl (q_load_ptr rfl rfl rfl rfl ty4) (sm rfl rfl (SOps.skip rfl 2 109 true rfl rfl (.inl (gF g33)) rfl (SOps.skip rfl 2 109 true rfl rfl (.inl (gF g33)) rfl (SOps.skip rfl 2 109 true rfl rfl (.inl (gF g33)) rfl (SOps.skip rfl 2 109 true rfl rfl (.inl (gF g33)) rfl (SOps.skip rfl 2 109 true rfl rfl (.inl (gF g33)) rfl (sq rfl rfl (q_pick_f rfl rfl g33 rfl) (sm rfl rfl (SOps.q rfl (.guard 9 116 false rfl rfl rfl) rfl (q_field_ptr rfl rfl fd47_12) (SOps.q rfl (.guard 9 116 false rfl rfl rfl) rfl (q_load_ptr rfl rfl rfl rfl ty4) (SOps.q rfl (.guard 9 116 false rfl rfl rfl) rfl (q_not rfl rfl) (SOps.q rfl (.guard 9 116 false rfl rfl rfl) rfl (q_move rfl rfl) (SOps.skip rfl 13 120 true rfl rfl (.inl (gF g37)) rfl ?_)))))))))))))))
  refine SOps.skip rfl 13 120 true rfl rfl (.inl (gF g37)) rfl (SOps.skip rfl 13 120 true rfl rfl (.inl (gF g37)) rfl (SOps.q rfl (.guard 9 116 false rfl rfl rfl) rfl (q_pick_f rfl rfl g37 rfl) (sq rfl rfl (q_pick_f rfl rfl rfl rfl) (SOps.sub (st' := ⟨[(125, .c (.bool false))], []⟩) (sub_gen [] rfl rfl (zall rfl rfl) trivial) (SOps.nil (SCode.cond_f rfl rfl (SCode.skip ?_)))))))
  exact ⟨(), h, sub_gen [] rfl rfl trivial trivial⟩
 rintro ⟨⟩ h
 show SCode _ _ _ S2 _
 try dsimp only at h
 unfold chargenetref46_Valid_p32 at h
 refine SCode.seq (SCode.region (sa rfl rfl (SOps.nil (SCode.ret ?_))))
 obtain rfl := Option.some.inj h
 exact ⟨⟨[(2, ci 0)], []⟩, _, sub_gen [] rfl rfl (zall rfl rfl) trivial, resA1 (v := .c (.int .i64 0)) rfl rfl, rfl⟩
theorem chargenetref49_currency_ok (F : Nat) (a0_s : ByteArray) (r : Bool) (h : chargenetref49_currency F a0_s = some r) :
  SFun Try.prog 25 [] [.c (.str a0_s)] (fun x _ => x = .c (.bool r)) := by
 refine SFun.of (n := 23) Try.func25 rfl rfl rfl ?_
 unfold chargenetref49_currency at h
 show SCode _ _ _ ⟨[(0, .c (.str a0_s))], []⟩ _
 refine SCode.seq (SCode.region (sa rfl rfl (SOps.nil (SCode.seq (SCode.seq (SCode.region (sm rfl rfl (sq rfl rfl (q_len_str rfl rfl un9) (sq rfl rfl (q_neq rfl rfl rfl) (SOps.nil ?_))))))))))
 rcases cond_out h with ⟨g1, h⟩ | ⟨g1, h⟩
 ·refine SCode.cond_t rfl g1 (SCode.seq (SCode.region (sa rfl rfl (SOps.nil (SCode.ret ?_)))))
  obtain rfl := Option.some.inj h
  exact ⟨⟨[(2, .c (.bool false))], []⟩, _, sub_gen [] rfl rfl (zall rfl rfl) trivial, resA1 (v := .c (.bool false)) rfl rfl, rfl⟩
 refine SCode.cond_f rfl g1 (SCode.skip ?_)
 let S3 := (⟨[], []⟩ : St)
 refine SCode.join (σ := Unit) (S := fun s => S3) (g := fun s => chargenetref49_currency_p2 = some r) ?_ ?_
 rotate_left
 ·refine SCode.seq (SCode.region (sm rfl rfl (sq rfl rfl (q_len_str rfl rfl un9) (sm rfl rfl (SOps.nil (SCode.block ?_))))))
  let S2 := fun (t9_8 : Int) => (⟨[(0, .c (.str a0_s)), (8, ci ((a0_s.size : Int))), (9, ci t9_8)], []⟩ : St)
  refine SCode.sub (st' := (S2 0)) (sub_gen [] rfl rfl (zall rfl rfl) trivial) ?_
  refine (SCode.loop (σ := Nat × Int) (S := fun s => (S2 s.2)) (g := fun s => chargenetref49_currency_l14 a0_s s.1 s.2 = some r) (μ := fun s => s.1) (F, 0) h ?_)
  rintro ⟨n_14, t9_8⟩ h
  try dsimp only at h
  show SCode _ _ _ (S2 t9_8) _
  cases n_14 with
  | zero => cases h
  | succ n_14 =>
   rw [chargenetref49_currency_l14] at h
   unfold chargenetref49_currency_b14 at h
   refine SCode.seq (SCode.region (sq rfl rfl (q_lss rfl rfl rfl) (SOps.nil (SCode.seq ?_))))
   rcases cond_out h with ⟨g15, h⟩ | ⟨g15, h⟩
   ·refine SCode.cond_t rfl g15 (SCode.skip (SCode.seq (SCode.block (SCode.seq (SCode.region (sm rfl rfl (sa rfl rfl (SOps.nil (SCode.seq ?_)))))))))
    obtain ⟨g16, h⟩ := guard_out h
    rcases cond_out h with ⟨g17, h⟩ | ⟨g17, h⟩
    ·refine SCode.region (sm rfl rfl (sm rfl rfl (sq rfl rfl (q_index_str rfl rfl rfl un9 g16.1 g16.2) (sq rfl rfl (q_lss rfl rfl rfl) (sm rfl rfl (SOps.skip rfl 4 16 false rfl rfl (.inl (gT g17)) rfl (SOps.skip rfl 4 16 false rfl rfl (.inl (gT g17)) rfl (SOps.skip rfl 4 16 false rfl rfl (.inl (gT g17)) rfl (SOps.skip rfl 4 16 false rfl rfl (.inl (gT g17)) rfl (sq rfl rfl (q_pick_t rfl rfl g17 rfl) (SOps.nil (SCode.cond_t rfl rfl (SCode.seq (SCode.region (sa rfl rfl ?_)))))))))))))))
     refine SOps.nil (SCode.ret ?_)
     obtain rfl := Option.some.inj h
     exact ⟨⟨[(2, .c (.bool false))], []⟩, _, sub_gen [] rfl rfl (zall rfl rfl) trivial, resA1 (v := .c (.bool false)) rfl rfl, rfl⟩
    obtain ⟨g18, h⟩ := guard_out h
    refine SCode.region (sm rfl rfl (sm rfl rfl (sq rfl rfl (q_index_str rfl rfl rfl un9 g16.1 g16.2) (sq rfl rfl (q_lss rfl rfl rfl) (sm rfl rfl (SOps.q rfl (.guard 4 16 false rfl rfl (gF g17)) rfl (q_move rfl rfl) (SOps.q rfl (.guard 4 16 false rfl rfl (gF g17)) rfl (q_move rfl rfl) (SOps.q rfl (.guard 4 16 false rfl rfl (gF g17)) rfl (q_index_str rfl rfl rfl un9 g18.1 g18.2) (SOps.q rfl (.guard 4 16 false rfl rfl (gF g17)) rfl (q_gtr rfl rfl rfl) (sq rfl rfl (q_pick_f rfl rfl g17 rfl) (SOps.nil ?_)))))))))))
    rcases cond_out h with ⟨g19, h⟩ | ⟨g19, h⟩
    ·refine SCode.cond_t rfl g19 (SCode.seq (SCode.region (sa rfl rfl (SOps.nil (SCode.ret ?_)))))
     obtain rfl := Option.some.inj h
     exact ⟨⟨[(2, .c (.bool false))], []⟩, _, sub_gen [] rfl rfl (zall rfl rfl) trivial, resA1 (v := .c (.bool false)) rfl rfl, rfl⟩
    refine SCode.cond_f rfl g19 (SCode.skip (SCode.region (sq rfl rfl (q_add rfl rfl rfl) (sm rfl rfl (SOps.nil ?_)))))
    exact ⟨(n_14, IntKind.wrap .i64 (t9_8 + 1)), h, Nat.lt_succ_self n_14, sub_gen [] rfl rfl (zall rfl rfl) trivial⟩
   refine SCode.cond_f rfl g15 (SCode.exit ?_)
   exact ⟨(), h, sub_gen [] rfl rfl trivial trivial⟩
 rintro ⟨⟩ h
 show SCode _ _ _ S3 _
 try dsimp only at h
 unfold chargenetref49_currency_p2 at h
 refine SCode.seq (SCode.region (sa rfl rfl (SOps.nil (SCode.ret ?_))))
 obtain rfl := Option.some.inj h
 exact ⟨⟨[(2, .c (.bool true))], []⟩, _, sub_gen [] rfl rfl (zall rfl rfl) trivial, resA1 (v := .c (.bool true)) rfl rfl, rfl⟩
theorem chargenetref47_Valid_ok (F : Nat) (a0_d : SDispute) (r : Int) (h : chargenetref47_Valid F a0_d = some r) :
  SFun Try.prog 32 [] [.a (bSDispute a0_d)] (fun x _ => x = ci r) := by
 refine SFun.of (n := 60) Try.func32 rfl rfl rfl ?_
 unfold chargenetref47_Valid at h
 show SCode _ _ _ ⟨[(0, .a (bSDispute a0_d))], []⟩ _
 refine SCode.seq (SCode.region (se rfl rfl (e_box rfl rfl rfl rfl rfl rfl) (sa rfl rfl (SOps.nil (SCode.seq (SCode.seq ?_))))))
 obtain ⟨c_1, g2, h⟩ := bind_out h
 try dsimp only at h
 rcases cond_out h with ⟨g3, h⟩ | ⟨g3, h⟩
 ·refine SCode.region (sq rfl rfl (q_field_ptr rfl rfl fd72_0) (sq rfl rfl (q_load_ptr rfl rfl rfl rfl ty9) (sq rfl rfl (q_call (chargenetref01_Valid_ok F a0_d.CDR c_1 g2) [] rfl fn24 ⟨⟨_, rfl, .inl ⟨rfl, rfl⟩⟩, trivial⟩ (.inl rfl)) (sq rfl rfl (q_not rfl rfl) (sm rfl rfl (SOps.skip rfl 4 7 false rfl rfl (.inl (gT g3)) rfl (SOps.skip rfl 4 7 false rfl rfl (.inl (gT g3)) rfl (SOps.skip rfl 4 7 false rfl rfl (.inl (gT g3)) rfl (SOps.skip rfl 4 7 false rfl rfl (.inl (gT g3)) rfl (sq rfl rfl (q_pick_t rfl rfl g3 rfl) (SOps.nil (SCode.cond_t rfl rfl (SCode.seq (SCode.region (sa rfl rfl ?_)))))))))))))))
  refine SOps.nil (SCode.ret ?_)
  obtain rfl := Option.some.inj h
  exact ⟨⟨[(2, ci 4)], []⟩, _, sub_gen [] rfl rfl (zall rfl rfl) trivial, resA1 (v := .c (.int .i64 4)) rfl rfl, rfl⟩
 obtain ⟨c_4, g5, h⟩ := bind_out h
 try dsimp only at h
 refine SCode.region (sq rfl rfl (q_field_ptr rfl rfl fd72_0) (sq rfl rfl (q_load_ptr rfl rfl rfl rfl ty9) (sq rfl rfl (q_call (chargenetref01_Valid_ok F a0_d.CDR c_1 g2) [] rfl fn24 ⟨⟨_, rfl, .inl ⟨rfl, rfl⟩⟩, trivial⟩ (.inl rfl)) (sq rfl rfl (q_not rfl rfl) (sm rfl rfl (SOps.q rfl (.guard 4 7 false rfl rfl (gF g3)) rfl (q_field_ptr rfl rfl fd72_1) (SOps.q rfl (.guard 4 7 false rfl rfl (gF g3)) rfl (q_load_ptr rfl rfl rfl rfl ty9) (SOps.q rfl (.guard 4 7 false rfl rfl (gF g3)) rfl (q_call (chargenetref01_Valid_ok F a0_d.By c_4 g5) [] rfl fn24 ⟨⟨_, rfl, .inl ⟨rfl, rfl⟩⟩, trivial⟩ (.inl rfl)) (SOps.q rfl (.guard 4 7 false rfl rfl (gF g3)) rfl (q_not rfl rfl) (sq rfl rfl (q_pick_f rfl rfl g3 rfl) (SOps.nil ?_)))))))))))
 rcases cond_out h with ⟨g6, h⟩ | ⟨g6, h⟩
 ·refine SCode.cond_t rfl g6 (SCode.seq (SCode.region (sa rfl rfl (SOps.nil (SCode.ret ?_)))))
  obtain rfl := Option.some.inj h
  exact ⟨⟨[(2, ci 4)], []⟩, _, sub_gen [] rfl rfl (zall rfl rfl) trivial, resA1 (v := .c (.int .i64 4)) rfl rfl, rfl⟩
 refine SCode.cond_f rfl g6 (SCode.skip (SCode.seq (SCode.seq ?_)))
 rcases cond_out h with ⟨g7, h⟩ | ⟨g7, h⟩
 ·refine SCode.region (sq rfl rfl (q_field_ptr rfl rfl fd72_2) (sq rfl rfl (q_load_ptr rfl rfl rfl rfl ty3) (sq rfl rfl (q_lss rfl rfl rfl) (sm rfl rfl (SOps.skip rfl 3 16 false rfl rfl (.inl (gT g7)) rfl (SOps.skip rfl 3 16 false rfl rfl (.inl (gT g7)) rfl (SOps.skip rfl 3 16 false rfl rfl (.inl (gT g7)) rfl (sq rfl rfl (q_pick_t rfl rfl g7 rfl) (sm rfl rfl (SOps.skip rfl 8 21 false rfl rfl (.inl rfl) rfl (SOps.skip rfl 8 21 false rfl rfl (.inl rfl) rfl (SOps.skip rfl 8 21 false rfl rfl (.inl rfl) rfl (sq rfl rfl (q_pick_t rfl rfl rfl rfl) (sm rfl rfl (SOps.skip rfl 13 26 false rfl rfl (.inl rfl) rfl ?_)))))))))))))))
  refine SOps.skip rfl 13 26 false rfl rfl (.inl rfl) rfl (SOps.skip rfl 13 26 false rfl rfl (.inl rfl) rfl (sq rfl rfl (q_pick_t rfl rfl rfl rfl) (sm rfl rfl (SOps.skip rfl 18 31 false rfl rfl (.inl rfl) rfl (SOps.skip rfl 18 31 false rfl rfl (.inl rfl) rfl (SOps.skip rfl 18 31 false rfl rfl (.inl rfl) rfl (sq rfl rfl (q_pick_t rfl rfl rfl rfl) (sm rfl rfl (SOps.skip rfl 23 36 false rfl rfl (.inl rfl) rfl (SOps.skip rfl 23 36 false rfl rfl (.inl rfl) rfl (SOps.skip rfl 23 36 false rfl rfl (.inl rfl) rfl (sq rfl rfl (q_pick_t rfl rfl rfl rfl) (sm rfl rfl (SOps.skip rfl 28 41 false rfl rfl (.inl rfl) rfl (SOps.skip rfl 28 41 false rfl rfl (.inl rfl) rfl ?_)))))))))))))))
  refine SOps.skip rfl 28 41 false rfl rfl (.inl rfl) rfl (sq rfl rfl (q_pick_t rfl rfl rfl rfl) (sm rfl rfl (SOps.skip rfl 33 46 false rfl rfl (.inl rfl) rfl (SOps.skip rfl 33 46 false rfl rfl (.inl rfl) rfl (SOps.skip rfl 33 46 false rfl rfl (.inl rfl) rfl (SOps.skip rfl 33 46 false rfl rfl (.inl rfl) rfl (SOps.skip rfl 33 46 false rfl rfl (.inl rfl) rfl (sq rfl rfl (q_pick_t rfl rfl rfl rfl) (SOps.sub (st' := ⟨[(1, .c (.ptr 0 0)), (52, .c (.bool true))], [.box (bSDispute a0_d)]⟩) (sub_gen [0] rfl rfl (zall rfl rfl) ⟨bx rfl rfl rfl, trivial⟩) (SOps.nil (SCode.cond_t rfl rfl (SCode.seq (SCode.region (sa rfl rfl (SOps.nil ?_)))))))))))))))
  refine SCode.ret ?_
  obtain rfl := Option.some.inj h
  exact ⟨⟨[(2, ci 2)], []⟩, _, sub_gen [] rfl rfl (zall rfl rfl) trivial, resA1 (v := .c (.int .i64 2)) rfl rfl, rfl⟩
 rcases cond_out h with ⟨g8, h⟩ | ⟨g8, h⟩
 ·refine SCode.region (sq rfl rfl (q_field_ptr rfl rfl fd72_2) (sq rfl rfl (q_load_ptr rfl rfl rfl rfl ty3) (sq rfl rfl (q_lss rfl rfl rfl) (sm rfl rfl (SOps.q rfl (.guard 3 16 false rfl rfl (gF g7)) rfl (q_field_ptr rfl rfl fd72_2) (SOps.q rfl (.guard 3 16 false rfl rfl (gF g7)) rfl (q_load_ptr rfl rfl rfl rfl ty3) (SOps.q rfl (.guard 3 16 false rfl rfl (gF g7)) rfl (q_gtr rfl rfl rfl) (sq rfl rfl (q_pick_f rfl rfl g7 rfl) (sm rfl rfl (SOps.skip rfl 8 21 false rfl rfl (.inl (gT g8)) rfl (SOps.skip rfl 8 21 false rfl rfl (.inl (gT g8)) rfl (SOps.skip rfl 8 21 false rfl rfl (.inl (gT g8)) rfl (sq rfl rfl (q_pick_t rfl rfl g8 rfl) (sm rfl rfl (SOps.skip rfl 13 26 false rfl rfl (.inl rfl) rfl ?_)))))))))))))))
  refine SOps.skip rfl 13 26 false rfl rfl (.inl rfl) rfl (SOps.skip rfl 13 26 false rfl rfl (.inl rfl) rfl (sq rfl rfl (q_pick_t rfl rfl rfl rfl) (sm rfl rfl (SOps.skip rfl 18 31 false rfl rfl (.inl rfl) rfl (SOps.skip rfl 18 31 false rfl rfl (.inl rfl) rfl (SOps.skip rfl 18 31 false rfl rfl (.inl rfl) rfl (sq rfl rfl (q_pick_t rfl rfl rfl rfl) (sm rfl rfl (SOps.skip rfl 23 36 false rfl rfl (.inl rfl) rfl (SOps.skip rfl 23 36 false rfl rfl (.inl rfl) rfl (SOps.skip rfl 23 36 false rfl rfl (.inl rfl) rfl (sq rfl rfl (q_pick_t rfl rfl rfl rfl) (sm rfl rfl (SOps.skip rfl 28 41 false rfl rfl (.inl rfl) rfl (SOps.skip rfl 28 41 false rfl rfl (.inl rfl) rfl ?_)))))))))))))))
  refine SOps.skip rfl 28 41 false rfl rfl (.inl rfl) rfl (sq rfl rfl (q_pick_t rfl rfl rfl rfl) (sm rfl rfl (SOps.skip rfl 33 46 false rfl rfl (.inl rfl) rfl (SOps.skip rfl 33 46 false rfl rfl (.inl rfl) rfl (SOps.skip rfl 33 46 false rfl rfl (.inl rfl) rfl (SOps.skip rfl 33 46 false rfl rfl (.inl rfl) rfl (SOps.skip rfl 33 46 false rfl rfl (.inl rfl) rfl (sq rfl rfl (q_pick_t rfl rfl rfl rfl) (SOps.sub (st' := ⟨[(1, .c (.ptr 0 0)), (52, .c (.bool true))], [.box (bSDispute a0_d)]⟩) (sub_gen [0] rfl rfl (zall rfl rfl) ⟨bx rfl rfl rfl, trivial⟩) (SOps.nil (SCode.cond_t rfl rfl (SCode.seq (SCode.region (sa rfl rfl (SOps.nil ?_)))))))))))))))
  refine SCode.ret ?_
  obtain rfl := Option.some.inj h
  exact ⟨⟨[(2, ci 2)], []⟩, _, sub_gen [] rfl rfl (zall rfl rfl) trivial, resA1 (v := .c (.int .i64 2)) rfl rfl, rfl⟩
 rcases cond_out h with ⟨g9, h⟩ | ⟨g9, h⟩
 ·refine SCode.region (sq rfl rfl (q_field_ptr rfl rfl fd72_2) (sq rfl rfl (q_load_ptr rfl rfl rfl rfl ty3) (sq rfl rfl (q_lss rfl rfl rfl) (sm rfl rfl (SOps.q rfl (.guard 3 16 false rfl rfl (gF g7)) rfl (q_field_ptr rfl rfl fd72_2) (SOps.q rfl (.guard 3 16 false rfl rfl (gF g7)) rfl (q_load_ptr rfl rfl rfl rfl ty3) (SOps.q rfl (.guard 3 16 false rfl rfl (gF g7)) rfl (q_gtr rfl rfl rfl) (sq rfl rfl (q_pick_f rfl rfl g7 rfl) (sm rfl rfl (SOps.q rfl (.guard 8 21 false rfl rfl (gF g8)) rfl (q_field_ptr rfl rfl fd72_3) (SOps.q rfl (.guard 8 21 false rfl rfl (gF g8)) rfl (q_load_ptr rfl rfl rfl rfl ty3) (SOps.q rfl (.guard 8 21 false rfl rfl (gF g8)) rfl (q_lss rfl rfl rfl) (sq rfl rfl (q_pick_f rfl rfl g8 rfl) (sm rfl rfl (SOps.skip rfl 13 26 false rfl rfl (.inl (gT g9)) rfl ?_)))))))))))))))
  refine SOps.skip rfl 13 26 false rfl rfl (.inl (gT g9)) rfl (SOps.skip rfl 13 26 false rfl rfl (.inl (gT g9)) rfl (sq rfl rfl (q_pick_t rfl rfl g9 rfl) (sm rfl rfl (SOps.skip rfl 18 31 false rfl rfl (.inl rfl) rfl (SOps.skip rfl 18 31 false rfl rfl (.inl rfl) rfl (SOps.skip rfl 18 31 false rfl rfl (.inl rfl) rfl (sq rfl rfl (q_pick_t rfl rfl rfl rfl) (sm rfl rfl (SOps.skip rfl 23 36 false rfl rfl (.inl rfl) rfl (SOps.skip rfl 23 36 false rfl rfl (.inl rfl) rfl (SOps.skip rfl 23 36 false rfl rfl (.inl rfl) rfl (sq rfl rfl (q_pick_t rfl rfl rfl rfl) (sm rfl rfl (SOps.skip rfl 28 41 false rfl rfl (.inl rfl) rfl (SOps.skip rfl 28 41 false rfl rfl (.inl rfl) rfl ?_)))))))))))))))
  refine SOps.skip rfl 28 41 false rfl rfl (.inl rfl) rfl (sq rfl rfl (q_pick_t rfl rfl rfl rfl) (sm rfl rfl (SOps.skip rfl 33 46 false rfl rfl (.inl rfl) rfl (SOps.skip rfl 33 46 false rfl rfl (.inl rfl) rfl (SOps.skip rfl 33 46 false rfl rfl (.inl rfl) rfl (SOps.skip rfl 33 46 false rfl rfl (.inl rfl) rfl (SOps.skip rfl 33 46 false rfl rfl (.inl rfl) rfl (sq rfl rfl (q_pick_t rfl rfl rfl rfl) (SOps.sub (st' := ⟨[(1, .c (.ptr 0 0)), (52, .c (.bool true))], [.box (bSDispute a0_d)]⟩) (sub_gen [0] rfl rfl (zall rfl rfl) ⟨bx rfl rfl rfl, trivial⟩) (SOps.nil (SCode.cond_t rfl rfl (SCode.seq (SCode.region (sa rfl rfl (SOps.nil ?_)))))))))))))))
  refine SCode.ret ?_
  obtain rfl := Option.some.inj h
  exact ⟨⟨[(2, ci 2)], []⟩, _, sub_gen [] rfl rfl (zall rfl rfl) trivial, resA1 (v := .c (.int .i64 2)) rfl rfl, rfl⟩
 rcases cond_out h with ⟨g10, h⟩ | ⟨g10, h⟩
 ·refine SCode.region (sq rfl rfl (q_field_ptr rfl rfl fd72_2) (sq rfl rfl (q_load_ptr rfl rfl rfl rfl ty3) (sq rfl rfl (q_lss rfl rfl rfl) (sm rfl rfl (SOps.q rfl (.guard 3 16 false rfl rfl (gF g7)) rfl (q_field_ptr rfl rfl fd72_2) (SOps.q rfl (.guard 3 16 false rfl rfl (gF g7)) rfl (q_load_ptr rfl rfl rfl rfl ty3) (SOps.q rfl (.guard 3 16 false rfl rfl (gF g7)) rfl (q_gtr rfl rfl rfl) (sq rfl rfl (q_pick_f rfl rfl g7 rfl) (sm rfl rfl (SOps.q rfl (.guard 8 21 false rfl rfl (gF g8)) rfl (q_field_ptr rfl rfl fd72_3) (SOps.q rfl (.guard 8 21 false rfl rfl (gF g8)) rfl (q_load_ptr rfl rfl rfl rfl ty3) (SOps.q rfl (.guard 8 21 false rfl rfl (gF g8)) rfl (q_lss rfl rfl rfl) (sq rfl rfl (q_pick_f rfl rfl g8 rfl) (sm rfl rfl (SOps.q rfl (.guard 13 26 false rfl rfl (gF g9)) rfl (q_field_ptr rfl rfl fd72_3) ?_)))))))))))))))
  refine SOps.q rfl (.guard 13 26 false rfl rfl (gF g9)) rfl (q_load_ptr rfl rfl rfl rfl ty3) (SOps.q rfl (.guard 13 26 false rfl rfl (gF g9)) rfl (q_gtr rfl rfl rfl) (sq rfl rfl (q_pick_f rfl rfl g9 rfl) (sm rfl rfl (SOps.skip rfl 18 31 false rfl rfl (.inl (gT g10)) rfl (SOps.skip rfl 18 31 false rfl rfl (.inl (gT g10)) rfl (SOps.skip rfl 18 31 false rfl rfl (.inl (gT g10)) rfl (sq rfl rfl (q_pick_t rfl rfl g10 rfl) (sm rfl rfl (SOps.skip rfl 23 36 false rfl rfl (.inl rfl) rfl (SOps.skip rfl 23 36 false rfl rfl (.inl rfl) rfl (SOps.skip rfl 23 36 false rfl rfl (.inl rfl) rfl (sq rfl rfl (q_pick_t rfl rfl rfl rfl) (sm rfl rfl (SOps.skip rfl 28 41 false rfl rfl (.inl rfl) rfl (SOps.skip rfl 28 41 false rfl rfl (.inl rfl) rfl ?_)))))))))))))))
  refine SOps.skip rfl 28 41 false rfl rfl (.inl rfl) rfl (sq rfl rfl (q_pick_t rfl rfl rfl rfl) (sm rfl rfl (SOps.skip rfl 33 46 false rfl rfl (.inl rfl) rfl (SOps.skip rfl 33 46 false rfl rfl (.inl rfl) rfl (SOps.skip rfl 33 46 false rfl rfl (.inl rfl) rfl (SOps.skip rfl 33 46 false rfl rfl (.inl rfl) rfl (SOps.skip rfl 33 46 false rfl rfl (.inl rfl) rfl (sq rfl rfl (q_pick_t rfl rfl rfl rfl) (SOps.sub (st' := ⟨[(1, .c (.ptr 0 0)), (52, .c (.bool true))], [.box (bSDispute a0_d)]⟩) (sub_gen [0] rfl rfl (zall rfl rfl) ⟨bx rfl rfl rfl, trivial⟩) (SOps.nil (SCode.cond_t rfl rfl (SCode.seq (SCode.region (sa rfl rfl (SOps.nil ?_)))))))))))))))
  refine SCode.ret ?_
  obtain rfl := Option.some.inj h
  exact ⟨⟨[(2, ci 2)], []⟩, _, sub_gen [] rfl rfl (zall rfl rfl) trivial, resA1 (v := .c (.int .i64 2)) rfl rfl, rfl⟩
 rcases cond_out h with ⟨g11, h⟩ | ⟨g11, h⟩
 ·refine SCode.region (sq rfl rfl (q_field_ptr rfl rfl fd72_2) (sq rfl rfl (q_load_ptr rfl rfl rfl rfl ty3) (sq rfl rfl (q_lss rfl rfl rfl) (sm rfl rfl (SOps.q rfl (.guard 3 16 false rfl rfl (gF g7)) rfl (q_field_ptr rfl rfl fd72_2) (SOps.q rfl (.guard 3 16 false rfl rfl (gF g7)) rfl (q_load_ptr rfl rfl rfl rfl ty3) (SOps.q rfl (.guard 3 16 false rfl rfl (gF g7)) rfl (q_gtr rfl rfl rfl) (sq rfl rfl (q_pick_f rfl rfl g7 rfl) (sm rfl rfl (SOps.q rfl (.guard 8 21 false rfl rfl (gF g8)) rfl (q_field_ptr rfl rfl fd72_3) (SOps.q rfl (.guard 8 21 false rfl rfl (gF g8)) rfl (q_load_ptr rfl rfl rfl rfl ty3) (SOps.q rfl (.guard 8 21 false rfl rfl (gF g8)) rfl (q_lss rfl rfl rfl) (sq rfl rfl (q_pick_f rfl rfl g8 rfl) (sm rfl rfl (SOps.q rfl (.guard 13 26 false rfl rfl (gF g9)) rfl (q_field_ptr rfl rfl fd72_3) ?_)))))))))))))))
  refine SOps.q rfl (.guard 13 26 false rfl rfl (gF g9)) rfl (q_load_ptr rfl rfl rfl rfl ty3) (SOps.q rfl (.guard 13 26 false rfl rfl (gF g9)) rfl (q_gtr rfl rfl rfl) (sq rfl rfl (q_pick_f rfl rfl g9 rfl) (sm rfl rfl (SOps.q rfl (.guard 18 31 false rfl rfl (gF g10)) rfl (q_field_ptr rfl rfl fd72_4) (SOps.q rfl (.guard 18 31 false rfl rfl (gF g10)) rfl (q_load_ptr rfl rfl rfl rfl ty3) (SOps.q rfl (.guard 18 31 false rfl rfl (gF g10)) rfl (q_lss rfl rfl rfl) (sq rfl rfl (q_pick_f rfl rfl g10 rfl) (sm rfl rfl (SOps.skip rfl 23 36 false rfl rfl (.inl (gT g11)) rfl (SOps.skip rfl 23 36 false rfl rfl (.inl (gT g11)) rfl (SOps.skip rfl 23 36 false rfl rfl (.inl (gT g11)) rfl (sq rfl rfl (q_pick_t rfl rfl g11 rfl) (sm rfl rfl (SOps.skip rfl 28 41 false rfl rfl (.inl rfl) rfl (SOps.skip rfl 28 41 false rfl rfl (.inl rfl) rfl ?_)))))))))))))))
  refine SOps.skip rfl 28 41 false rfl rfl (.inl rfl) rfl (sq rfl rfl (q_pick_t rfl rfl rfl rfl) (sm rfl rfl (SOps.skip rfl 33 46 false rfl rfl (.inl rfl) rfl (SOps.skip rfl 33 46 false rfl rfl (.inl rfl) rfl (SOps.skip rfl 33 46 false rfl rfl (.inl rfl) rfl (SOps.skip rfl 33 46 false rfl rfl (.inl rfl) rfl (SOps.skip rfl 33 46 false rfl rfl (.inl rfl) rfl (sq rfl rfl (q_pick_t rfl rfl rfl rfl) (SOps.sub (st' := ⟨[(1, .c (.ptr 0 0)), (52, .c (.bool true))], [.box (bSDispute a0_d)]⟩) (sub_gen [0] rfl rfl (zall rfl rfl) ⟨bx rfl rfl rfl, trivial⟩) (SOps.nil (SCode.cond_t rfl rfl (SCode.seq (SCode.region (sa rfl rfl (SOps.nil ?_)))))))))))))))
  refine SCode.ret ?_
  obtain rfl := Option.some.inj h
  exact ⟨⟨[(2, ci 2)], []⟩, _, sub_gen [] rfl rfl (zall rfl rfl) trivial, resA1 (v := .c (.int .i64 2)) rfl rfl, rfl⟩
 rcases cond_out h with ⟨g12, h⟩ | ⟨g12, h⟩
 ·refine SCode.region (sq rfl rfl (q_field_ptr rfl rfl fd72_2) (sq rfl rfl (q_load_ptr rfl rfl rfl rfl ty3) (sq rfl rfl (q_lss rfl rfl rfl) (sm rfl rfl (SOps.q rfl (.guard 3 16 false rfl rfl (gF g7)) rfl (q_field_ptr rfl rfl fd72_2) (SOps.q rfl (.guard 3 16 false rfl rfl (gF g7)) rfl (q_load_ptr rfl rfl rfl rfl ty3) (SOps.q rfl (.guard 3 16 false rfl rfl (gF g7)) rfl (q_gtr rfl rfl rfl) (sq rfl rfl (q_pick_f rfl rfl g7 rfl) (sm rfl rfl (SOps.q rfl (.guard 8 21 false rfl rfl (gF g8)) rfl (q_field_ptr rfl rfl fd72_3) (SOps.q rfl (.guard 8 21 false rfl rfl (gF g8)) rfl (q_load_ptr rfl rfl rfl rfl ty3) (SOps.q rfl (.guard 8 21 false rfl rfl (gF g8)) rfl (q_lss rfl rfl rfl) (sq rfl rfl (q_pick_f rfl rfl g8 rfl) (sm rfl rfl (SOps.q rfl (.guard 13 26 false rfl rfl (gF g9)) rfl (q_field_ptr rfl rfl fd72_3) ?_)))))))))))))))
  refine SOps.q rfl (.guard 13 26 false rfl rfl (gF g9)) rfl (q_load_ptr rfl rfl rfl rfl ty3) (SOps.q rfl (.guard 13 26 false rfl rfl (gF g9)) rfl (q_gtr rfl rfl rfl) (sq rfl rfl (q_pick_f rfl rfl g9 rfl) (sm rfl rfl (SOps.q rfl (.guard 18 31 false rfl rfl (gF g10)) rfl (q_field_ptr rfl rfl fd72_4) (SOps.q rfl (.guard 18 31 false rfl rfl (gF g10)) rfl (q_load_ptr rfl rfl rfl rfl ty3) (SOps.q rfl (.guard 18 31 false rfl rfl (gF g10)) rfl (q_lss rfl rfl rfl) (sq rfl rfl (q_pick_f rfl rfl g10 rfl) (sm rfl rfl (SOps.q rfl (.guard 23 36 false rfl rfl (gF g11)) rfl (q_field_ptr rfl rfl fd72_4) (SOps.q rfl (.guard 23 36 false rfl rfl (gF g11)) rfl (q_load_ptr rfl rfl rfl rfl ty3) (SOps.q rfl (.guard 23 36 false rfl rfl (gF g11)) rfl (q_gtr rfl rfl rfl) (sq rfl rfl (q_pick_f rfl rfl g11 rfl) (sm rfl rfl (SOps.skip rfl 28 41 false rfl rfl (.inl (gT g12)) rfl (SOps.skip rfl 28 41 false rfl rfl (.inl (gT g12)) rfl ?_)))))))))))))))
  refine SOps.skip rfl 28 41 false rfl rfl (.inl (gT g12)) rfl (sq rfl rfl (q_pick_t rfl rfl g12 rfl) (sm rfl rfl (SOps.skip rfl 33 46 false rfl rfl (.inl rfl) rfl (SOps.skip rfl 33 46 false rfl rfl (.inl rfl) rfl (SOps.skip rfl 33 46 false rfl rfl (.inl rfl) rfl (SOps.skip rfl 33 46 false rfl rfl (.inl rfl) rfl (SOps.skip rfl 33 46 false rfl rfl (.inl rfl) rfl (sq rfl rfl (q_pick_t rfl rfl rfl rfl) (SOps.sub (st' := ⟨[(1, .c (.ptr 0 0)), (52, .c (.bool true))], [.box (bSDispute a0_d)]⟩) (sub_gen [0] rfl rfl (zall rfl rfl) ⟨bx rfl rfl rfl, trivial⟩) (SOps.nil (SCode.cond_t rfl rfl (SCode.seq (SCode.region (sa rfl rfl (SOps.nil ?_)))))))))))))))
  refine SCode.ret ?_
  obtain rfl := Option.some.inj h
  exact ⟨⟨[(2, ci 2)], []⟩, _, sub_gen [] rfl rfl (zall rfl rfl) trivial, resA1 (v := .c (.int .i64 2)) rfl rfl, rfl⟩
 rcases cond_out h with ⟨g13, h⟩ | ⟨g13, h⟩
 ·refine SCode.region (sq rfl rfl (q_field_ptr rfl rfl fd72_2) (sq rfl rfl (q_load_ptr rfl rfl rfl rfl ty3) (sq rfl rfl (q_lss rfl rfl rfl) (sm rfl rfl (SOps.q rfl (.guard 3 16 false rfl rfl (gF g7)) rfl (q_field_ptr rfl rfl fd72_2) (SOps.q rfl (.guard 3 16 false rfl rfl (gF g7)) rfl (q_load_ptr rfl rfl rfl rfl ty3) (SOps.q rfl (.guard 3 16 false rfl rfl (gF g7)) rfl (q_gtr rfl rfl rfl) (sq rfl rfl (q_pick_f rfl rfl g7 rfl) (sm rfl rfl (SOps.q rfl (.guard 8 21 false rfl rfl (gF g8)) rfl (q_field_ptr rfl rfl fd72_3) (SOps.q rfl (.guard 8 21 false rfl rfl (gF g8)) rfl (q_load_ptr rfl rfl rfl rfl ty3) (SOps.q rfl (.guard 8 21 false rfl rfl (gF g8)) rfl (q_lss rfl rfl rfl) (sq rfl rfl (q_pick_f rfl rfl g8 rfl) (sm rfl rfl (SOps.q rfl (.guard 13 26 false rfl rfl (gF g9)) rfl (q_field_ptr rfl rfl fd72_3) ?_)))))))))))))))
  refine SOps.q rfl (.guard 13 26 false rfl rfl (gF g9)) rfl (q_load_ptr rfl rfl rfl rfl ty3) (SOps.q rfl (.guard 13 26 false rfl rfl (gF g9)) rfl (q_gtr rfl rfl rfl) (sq rfl rfl (q_pick_f rfl rfl g9 rfl) (sm rfl rfl (SOps.q rfl (.guard 18 31 false rfl rfl (gF g10)) rfl (q_field_ptr rfl rfl fd72_4) (SOps.q rfl (.guard 18 31 false rfl rfl (gF g10)) rfl (q_load_ptr rfl rfl rfl rfl ty3) (SOps.q rfl (.guard 18 31 false rfl rfl (gF g10)) rfl (q_lss rfl rfl rfl) (sq rfl rfl (q_pick_f rfl rfl g10 rfl) (sm rfl rfl (SOps.q rfl (.guard 23 36 false rfl rfl (gF g11)) rfl (q_field_ptr rfl rfl fd72_4) (SOps.q rfl (.guard 23 36 false rfl rfl (gF g11)) rfl (q_load_ptr rfl rfl rfl rfl ty3) (SOps.q rfl (.guard 23 36 false rfl rfl (gF g11)) rfl (q_gtr rfl rfl rfl) (sq rfl rfl (q_pick_f rfl rfl g11 rfl) (sm rfl rfl (SOps.q rfl (.guard 28 41 false rfl rfl (gF g12)) rfl (q_field_ptr rfl rfl fd72_5) (SOps.q rfl (.guard 28 41 false rfl rfl (gF g12)) rfl (q_load_ptr rfl rfl rfl rfl ty3) ?_)))))))))))))))
  refine SOps.q rfl (.guard 28 41 false rfl rfl (gF g12)) rfl (q_lss rfl rfl rfl) (sq rfl rfl (q_pick_f rfl rfl g12 rfl) (sm rfl rfl (SOps.skip rfl 33 46 false rfl rfl (.inl (gT g13)) rfl (SOps.skip rfl 33 46 false rfl rfl (.inl (gT g13)) rfl (SOps.skip rfl 33 46 false rfl rfl (.inl (gT g13)) rfl (SOps.skip rfl 33 46 false rfl rfl (.inl (gT g13)) rfl (SOps.skip rfl 33 46 false rfl rfl (.inl (gT g13)) rfl (sq rfl rfl (q_pick_t rfl rfl g13 rfl) (SOps.sub (st' := ⟨[(1, .c (.ptr 0 0)), (52, .c (.bool true))], [.box (bSDispute a0_d)]⟩) (sub_gen [0] rfl rfl (zall rfl rfl) ⟨bx rfl rfl rfl, trivial⟩) (SOps.nil (SCode.cond_t rfl rfl (SCode.seq (SCode.region (sa rfl rfl (SOps.nil ?_)))))))))))))))
  refine SCode.ret ?_
  obtain rfl := Option.some.inj h
  exact ⟨⟨[(2, ci 2)], []⟩, _, sub_gen [] rfl rfl (zall rfl rfl) trivial, resA1 (v := .c (.int .i64 2)) rfl rfl, rfl⟩
 refine SCode.region (sq rfl rfl (q_field_ptr rfl rfl fd72_2) (sq rfl rfl (q_load_ptr rfl rfl rfl rfl ty3) (sq rfl rfl (q_lss rfl rfl rfl) (sm rfl rfl (SOps.q rfl (.guard 3 16 false rfl rfl (gF g7)) rfl (q_field_ptr rfl rfl fd72_2) (SOps.q rfl (.guard 3 16 false rfl rfl (gF g7)) rfl (q_load_ptr rfl rfl rfl rfl ty3) (SOps.q rfl (.guard 3 16 false rfl rfl (gF g7)) rfl (q_gtr rfl rfl rfl) (sq rfl rfl (q_pick_f rfl rfl g7 rfl) (sm rfl rfl (SOps.q rfl (.guard 8 21 false rfl rfl (gF g8)) rfl (q_field_ptr rfl rfl fd72_3) (SOps.q rfl (.guard 8 21 false rfl rfl (gF g8)) rfl (q_load_ptr rfl rfl rfl rfl ty3) (SOps.q rfl (.guard 8 21 false rfl rfl (gF g8)) rfl (q_lss rfl rfl rfl) (sq rfl rfl (q_pick_f rfl rfl g8 rfl) (sm rfl rfl (SOps.q rfl (.guard 13 26 false rfl rfl (gF g9)) rfl (q_field_ptr rfl rfl fd72_3) ?_)))))))))))))))
 refine SOps.q rfl (.guard 13 26 false rfl rfl (gF g9)) rfl (q_load_ptr rfl rfl rfl rfl ty3) (SOps.q rfl (.guard 13 26 false rfl rfl (gF g9)) rfl (q_gtr rfl rfl rfl) (sq rfl rfl (q_pick_f rfl rfl g9 rfl) (sm rfl rfl (SOps.q rfl (.guard 18 31 false rfl rfl (gF g10)) rfl (q_field_ptr rfl rfl fd72_4) (SOps.q rfl (.guard 18 31 false rfl rfl (gF g10)) rfl (q_load_ptr rfl rfl rfl rfl ty3) (SOps.q rfl (.guard 18 31 false rfl rfl (gF g10)) rfl (q_lss rfl rfl rfl) (sq rfl rfl (q_pick_f rfl rfl g10 rfl) (sm rfl rfl (SOps.q rfl (.guard 23 36 false rfl rfl (gF g11)) rfl (q_field_ptr rfl rfl fd72_4) (SOps.q rfl (.guard 23 36 false rfl rfl (gF g11)) rfl (q_load_ptr rfl rfl rfl rfl ty3) (SOps.q rfl (.guard 23 36 false rfl rfl (gF g11)) rfl (q_gtr rfl rfl rfl) (sq rfl rfl (q_pick_f rfl rfl g11 rfl) (sm rfl rfl (SOps.q rfl (.guard 28 41 false rfl rfl (gF g12)) rfl (q_field_ptr rfl rfl fd72_5) (SOps.q rfl (.guard 28 41 false rfl rfl (gF g12)) rfl (q_load_ptr rfl rfl rfl rfl ty3) ?_)))))))))))))))
 refine SOps.q rfl (.guard 28 41 false rfl rfl (gF g12)) rfl (q_lss rfl rfl rfl) (sq rfl rfl (q_pick_f rfl rfl g12 rfl) (sm rfl rfl (SOps.q rfl (.guard 33 46 false rfl rfl (gF g13)) rfl (q_field_ptr rfl rfl fd72_5) (SOps.q rfl (.guard 33 46 false rfl rfl (gF g13)) rfl (q_load_ptr rfl rfl rfl rfl ty3) (SOps.q rfl (.guard 33 46 false rfl rfl (gF g13)) rfl (q_field_ptr rfl rfl fd72_4) (SOps.q rfl (.guard 33 46 false rfl rfl (gF g13)) rfl (q_load_ptr rfl rfl rfl rfl ty3) (SOps.q rfl (.guard 33 46 false rfl rfl (gF g13)) rfl (q_gtr rfl rfl rfl) (sq rfl rfl (q_pick_f rfl rfl g13 rfl) (SOps.sub (st' := ⟨[(1, .c (.ptr 0 0)), (52, .c (.bool (decide (a0_d.Claim < a0_d.Granted))))], [.box (bSDispute a0_d)]⟩) (sub_gen [0] rfl rfl (zall rfl rfl) ⟨bx rfl rfl rfl, trivial⟩) (SOps.nil ?_))))))))))
 rcases cond_out h with ⟨g14, h⟩ | ⟨g14, h⟩
 ·refine SCode.cond_t rfl g14 (SCode.seq (SCode.region (sa rfl rfl (SOps.nil (SCode.ret ?_)))))
  obtain rfl := Option.some.inj h
  exact ⟨⟨[(2, ci 2)], []⟩, _, sub_gen [] rfl rfl (zall rfl rfl) trivial, resA1 (v := .c (.int .i64 2)) rfl rfl, rfl⟩
 refine SCode.cond_f rfl g14 (SCode.skip (SCode.seq (SCode.seq (SCode.region (sq rfl rfl (q_field_ptr rfl rfl fd72_5) (sq rfl rfl (q_load_ptr rfl rfl rfl rfl ty3) (sq rfl rfl (q_neq rfl rfl rfl) (sq rfl rfl (q_field_ptr rfl rfl fd72_2) (sq rfl rfl (q_load_ptr rfl rfl rfl rfl ty3) (sq rfl rfl (q_eql rfl rfl rfl) (sq rfl rfl (q_neqB rfl rfl rfl un4) (SOps.nil ?_))))))))))))
 rcases cond_out h with ⟨g15, h⟩ | ⟨g15, h⟩
 ·refine SCode.cond_t rfl g15 (SCode.seq (SCode.region (sa rfl rfl (SOps.nil (SCode.ret ?_)))))
  obtain rfl := Option.some.inj h
  exact ⟨⟨[(2, ci 1)], []⟩, _, sub_gen [] rfl rfl (zall rfl rfl) trivial, resA1 (v := .c (.int .i64 1)) rfl rfl, rfl⟩
 refine SCode.cond_f rfl g15 (SCode.skip (SCode.seq (SCode.region (sa rfl rfl (SOps.nil (SCode.ret ?_))))))
 obtain rfl := Option.some.inj h
 exact ⟨⟨[(2, ci 0)], []⟩, _, sub_gen [] rfl rfl (zall rfl rfl) trivial, resA1 (v := .c (.int .i64 0)) rfl rfl, rfl⟩
theorem chargenetref47_Amount_ok (F : Nat) (a0_c : SCDR) (a1_l : List SDispute) (r : Int) (h : chargenetref47_Amount F a0_c a1_l = some r) :
  SFun Try.prog 33 [] [.a (bSCDR a0_c), .c (vSDispute a1_l)] (fun x _ => x = ci r) := by
 refine SFun.of (n := 38) Try.func33 rfl rfl rfl ?_
 unfold chargenetref47_Amount at h
 show SCode _ _ _ ⟨[(0, .a (bSCDR a0_c)), (1, .c (vSDispute a1_l))], []⟩ _
 refine SCode.seq (SCode.region (se rfl rfl (e_box rfl rfl rfl rfl rfl rfl) (sa rfl rfl (SOps.nil ?_))))
 let S9 := (⟨[(2, .c (.ptr 0 0))], [.box (bSCDR a0_c)]⟩ : St)
 refine SCode.join (σ := Unit) (S := fun s => S9) (g := fun s => chargenetref47_Amount_p1 a0_c = some r) ?_ ?_
 rotate_left
 ·refine SCode.seq (SCode.region (sa rfl rfl (SOps.nil (SCode.block ?_))))
  let S8 := fun (i_9 : Int) => (⟨[(1, .c (vSDispute a1_l)), (2, .c (.ptr 0 0)), (5, ci i_9)], [.box (bSCDR a0_c)]⟩ : St)
  refine SCode.sub (st' := (S8 0)) (sub_gen [0] rfl rfl (zall rfl rfl) ⟨bx rfl rfl rfl, trivial⟩) ?_
  refine (SCode.loop (σ := Nat × Int) (S := fun s => (S8 s.2)) (g := fun s => chargenetref47_Amount_l17 a0_c a1_l s.1 s.2 = some r) (μ := fun s => s.1) (F, 0) h ?_)
  rintro ⟨n_17, i_9⟩ h
  try dsimp only at h
  show SCode _ _ _ (S8 i_9) _
  cases n_17 with
  | zero => cases h
  | succ n_17 =>
   rw [chargenetref47_Amount_l17] at h
   unfold chargenetref47_Amount_b17 at h
   refine SCode.seq (SCode.seq (SCode.region (sm rfl rfl (sm rfl rfl (sq rfl rfl (q_len_vec rfl rfl sl37) (sq rfl rfl (q_lss rfl rfl rfl) (SOps.nil ?_)))))))
   rcases cond_out h with ⟨g18, h⟩ | ⟨g18, h⟩
   ·refine SCode.cond_t rfl g18 (SCode.skip ?_)
    let S7 := (⟨[(1, .c (vSDispute a1_l)), (2, .c (.ptr 0 0)), (5, ci i_9)], [.box (bSCDR a0_c)]⟩ : St)
    refine SCode.join (σ := Unit) (S := fun s => S7) (g := fun s => chargenetref47_Amount_p19 i_9 (fun i_9 => chargenetref47_Amount_l17 a0_c a1_l n_17 i_9) = some r) ?_ ?_
    rotate_left
    ·refine SCode.block (SCode.seq (SCode.sub (st' := ⟨[(1, .c (vSDispute a1_l)), (2, .c (.ptr 0 0)), (5, ci i_9)], [.box (bSCDR a0_c)]⟩) (sub_gen [0] rfl rfl (zall rfl rfl) ⟨bx rfl rfl rfl, trivial⟩) ?_))
     obtain ⟨g20, h⟩ := guard_out h
     rcases cond_out h with ⟨g21, h⟩ | ⟨g21, h⟩
     ·obtain ⟨g22, h⟩ := guard_out h
      refine SCode.drawK mixed [[], [], [0, 1], [0, 1, 2], [0, 1, 2, 3], [], [5], [0, 1, 2, 3, 4, 5, 6], [0, 1, 2, 3, 4, 5, 6, 7], [0, 1, 2, 3, 4, 5, 6, 7, 8], [0, 1, 2, 3, 4, 5, 6, 7, 8], [0, 1, 2, 3, 4, 5, 6, 7, 8, 9, 10], [0, 1, 2, 3, 4, 5, 6, 7, 8, 9, 10, 11], [0, 1, 2, 3, 4, 5, 6, 7, 8, 9, 10, 11, 12], [0, 1, 2, 3, 4, 5, 6, 7, 8, 9, 10, 11, 12, 13], [0, 1, 2, 3, 4, 5, 6, 7, 8, 9, 10, 11, 12, 13, 14]] 16 0 rfl rfl (qm rfl rfl (qm rfl rfl (qr rfl rfl (q_index_vec rfl rfl rfl sl37 rfl g20.1 g20.2) (qr rfl rfl (q_field_eptr rfl rfl fd72_0 rfl) (qr rfl rfl (q_load_eptr rfl rfl ty9) (qr rfl rfl (q_field_ptr rfl rfl fd47_0) (qr rfl rfl (q_load_ptr rfl rfl rfl rfl ty9) (qr rfl rfl (q_eqlS rfl rfl rfl) (qm rfl rfl (QK.run rfl (.guard 8 20 true rfl rfl (gT g21)) rfl (q_move rfl rfl) (QK.run rfl (.guard 8 20 true rfl rfl (gT g21)) rfl (q_move rfl rfl) (QK.run rfl (.guard 8 20 true rfl rfl (gT g21)) rfl (q_index_vec rfl rfl rfl sl37 rfl g22.1 g22.2) (QK.run rfl (.guard 8 20 true rfl rfl (gT g21)) rfl (q_field_eptr rfl rfl fd72_2 rfl) (QK.run rfl (.guard 8 20 true rfl rfl (gT g21)) rfl (q_load_eptr rfl rfl ty3) (QK.run rfl (.guard 8 20 true rfl rfl (gT g21)) rfl (q_eql rfl rfl rfl) ?_)))))))))))))))
      refine qr rfl rfl (q_pick_t rfl rfl g21 rfl) (QK.nil (SOps.sub (st' := ⟨[(1, .c (vSDispute a1_l)), (2, .c (.ptr 0 0)), (5, ci i_9), (27, .c (.bool (decide ((a1_l.getD i_9.toNat dSDispute).State = 4))))], [.box (bSCDR a0_c)]⟩) (sub_gen [0] rfl rfl (zall rfl rfl) ⟨bx rfl rfl rfl, trivial⟩) (SOps.nil ?_)))
      rcases cond_out h with ⟨g23, h⟩ | ⟨g23, h⟩
      ·refine SCode.cond_t rfl g23 (SCode.seq ?_)
       obtain ⟨g24, h⟩ := guard_out h
       refine SCode.drawK mixed [[], [0], [], [], [2, 3], [2, 3, 4], [2, 3, 4, 5], [0, 1, 2, 3, 4, 5, 6], [0, 1, 2, 3, 4, 5, 6, 7]] 9 0 rfl rfl (qr rfl rfl (q_field_ptr rfl rfl fd47_11) (qr rfl rfl (q_load_ptr rfl rfl rfl rfl ty3) (qm rfl rfl (qm rfl rfl (qr rfl rfl (q_index_vec rfl rfl rfl sl37 rfl g24.1 g24.2) (qr rfl rfl (q_field_eptr rfl rfl fd72_5 rfl) (qr rfl rfl (q_load_eptr rfl rfl ty3) (qr rfl rfl (q_sub rfl rfl rfl) (qr rfl rfl (q_assign rfl rfl) (QK.nil (SOps.sub (st' := ⟨[(4, ci (IntKind.wrap .i64 (a0_c.Total - (a1_l.getD i_9.toNat dSDispute).Granted)))], []⟩) (sub_gen [] rfl rfl (zall rfl rfl) trivial) (SOps.nil (SCode.ret ?_)))))))))))))
       obtain rfl := Option.some.inj h
       exact ⟨⟨[(4, ci (IntKind.wrap .i64 (a0_c.Total - (a1_l.getD i_9.toNat dSDispute).Granted)))], []⟩, _, sub_gen [] rfl rfl (zall rfl rfl) trivial, resA1 (v := .c (.int .i64 (IntKind.wrap .i64 (a0_c.Total - (a1_l.getD i_9.toNat dSDispute).Granted)))) rfl rfl, rfl⟩
      refine SCode.cond_f rfl g23 (SCode.skip ?_)
      exact ⟨(), h, sub_gen [0] rfl rfl (zall rfl rfl) ⟨bx rfl rfl rfl, trivial⟩⟩
     refine SCode.drawK mixed [[], [], [0, 1], [0, 1, 2], [0, 1, 2, 3], [], [5], [0, 1, 2, 3, 4, 5, 6], [0, 1, 2, 3, 4, 5, 6, 7], [0, 1, 2, 3, 4, 5, 6, 7, 8], [0, 1, 2, 3, 4, 5, 6, 7, 8], [0, 1, 2, 3, 4, 5, 6, 7, 8, 9, 10], [0, 1, 2, 3, 4, 5, 6, 7, 8, 9, 10, 11], [0, 1, 2, 3, 4, 5, 6, 7, 8, 9, 10, 11, 12], [0, 1, 2, 3, 4, 5, 6, 7, 8, 9, 10, 11, 12, 13], [0, 1, 2, 3, 4, 5, 6, 7, 8, 9, 10, 11, 12, 13, 14]] 16 0 rfl rfl (qm rfl rfl (qm rfl rfl (qr rfl rfl (q_index_vec rfl rfl rfl sl37 rfl g20.1 g20.2) (qr rfl rfl (q_field_eptr rfl rfl fd72_0 rfl) (qr rfl rfl (q_load_eptr rfl rfl ty9) (qr rfl rfl (q_field_ptr rfl rfl fd47_0) (qr rfl rfl (q_load_ptr rfl rfl rfl rfl ty9) (qr rfl rfl (q_eqlS rfl rfl rfl) (qm rfl rfl (QK.skip rfl ⟨8, 20, true, rfl, rfl, (.inl (gF g21))⟩ rfl (QK.skip rfl ⟨8, 20, true, rfl, rfl, (.inl (gF g21))⟩ rfl (QK.skip rfl ⟨8, 20, true, rfl, rfl, (.inl (gF g21))⟩ rfl (QK.skip rfl ⟨8, 20, true, rfl, rfl, (.inl (gF g21))⟩ rfl (QK.skip rfl ⟨8, 20, true, rfl, rfl, (.inl (gF g21))⟩ rfl (QK.skip rfl ⟨8, 20, true, rfl, rfl, (.inl (gF g21))⟩ rfl ?_)))))))))))))))
     refine qr rfl rfl (q_pick_f rfl rfl g21 rfl) (QK.nil (SOps.sub (st' := ⟨[(1, .c (vSDispute a1_l)), (2, .c (.ptr 0 0)), (5, ci i_9), (27, .c (.bool false))], [.box (bSCDR a0_c)]⟩) (sub_gen [0] rfl rfl (zall rfl rfl) ⟨bx rfl rfl rfl, trivial⟩) (SOps.nil (SCode.cond_f rfl rfl (SCode.skip ?_)))))
     exact ⟨(), h, sub_gen [0] rfl rfl (zall rfl rfl) ⟨bx rfl rfl rfl, trivial⟩⟩
    rintro ⟨⟩ h
    show SCode _ _ _ S7 _
    try dsimp only at h
    unfold chargenetref47_Amount_p19 at h
    refine SCode.region (sm rfl rfl (sq rfl rfl (q_add rfl rfl rfl) (sa rfl rfl (SOps.nil ?_))))
    exact ⟨(n_17, IntKind.wrap .i64 (i_9 + 1)), h, Nat.lt_succ_self n_17, sub_gen [0] rfl rfl (zall rfl rfl) ⟨bx rfl rfl rfl, trivial⟩⟩
   refine SCode.cond_f rfl g18 (SCode.exit ?_)
   exact ⟨(), h, sub_gen [0] rfl rfl (zall rfl rfl) ⟨bx rfl rfl rfl, trivial⟩⟩
 rintro ⟨⟩ h
 show SCode _ _ _ S9 _
 try dsimp only at h
 unfold chargenetref47_Amount_p1 at h
 refine SCode.seq (SCode.region (sq rfl rfl (q_field_ptr rfl rfl fd47_11) (sq rfl rfl (q_load_ptr rfl rfl rfl rfl ty3) (sa rfl rfl (SOps.nil (SCode.ret ?_))))))
 obtain rfl := Option.some.inj h
 exact ⟨⟨[(4, ci a0_c.Total)], []⟩, _, sub_gen [] rfl rfl (zall rfl rfl) trivial, resA1 (v := .c (.int .i64 a0_c.Total)) rfl rfl, rfl⟩
end Go.Proofs.Ytoncfkdgddfnlaa.W
