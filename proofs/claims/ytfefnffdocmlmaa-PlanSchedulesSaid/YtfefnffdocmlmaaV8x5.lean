/- Written by a program of ours (wip/eng/gen.py): the functions compute their models. -/
import Derived.Test.YtfefnffdocmlmaaFacts
import Derived.Test.YtfefnffdocmlmaaV8x4
namespace Go.Proofs.Ytfefnffdocmlmaa.W
open Go Go.Proofs Go.Proofs.Ytfefnffdocmlmaa.E Go.Proofs.Ytfefnffdocmlmaa.M
set_option linter.unusedVariables false
set_option maxRecDepth 100000
set_option maxHeartbeats 8000000
theorem chargenetlaw18_exampleHolds_ok (F : Nat)  (r : Bool) (h : chargenetlaw18_exampleHolds F  = some r) :
  SFun Try.prog 10 [] [] (fun x _ => x = .c (.bool r)) := by
 refine SFun.of (n := 65) Try.func10 rfl rfl rfl ?_
 unfold chargenetlaw18_exampleHolds at h
 show SCode _ _ _ ⟨[], []⟩ _
 refine SCode.seq (SCode.region (sa rfl rfl (SOps.nil (SCode.seq (SCode.region (sq rfl rfl (q_build2 rfl rfl pl39 rfl) (se rfl rfl (e_alloc rfl rfl rfl z39) (se rfl rfl (e_store_box rfl rfl rfl rfl rfl ty39 rfl rfl rfl rfl) (SOps.nil (SCode.seq (SCode.region (sq rfl rfl (q_bsliceL (c := (cInt .i64)) (d0 := 0) [(-1)] rfl rfl sl22 z3 rfl rfl rfl rfl rfl rfl rfl) (sq rfl rfl (q_bsliceL (c := (cInt .i64)) (d0 := 0) [1500] rfl rfl sl22 z3 rfl rfl rfl rfl rfl rfl rfl) (sq rfl rfl (q_bsliceL (c := (cVec 1 (cInt .i64) 0)) (d0 := []) [[1500]] rfl rfl sl23 z22 rfl rfl rfl rfl rfl rfl rfl) (sq rfl rfl (q_load_ptr_all rfl rfl rfl rfl rfl ty39) ?_)))))))))))))))
 refine sq rfl rfl (q_load_ptr_all rfl rfl rfl rfl rfl ty39) (sq rfl rfl (q_bsliceL (c := cSDemand) (d0 := dSDemand) [SDemand.mk 0 7000 60000 0 60, SDemand.mk 0 7000 60000 0 60] rfl rfl sl24 z39 rfl rfl rfl rfl rfl rfl rfl) (sq rfl rfl (q_build2 rfl rfl pl26 rfl) (se rfl rfl (e_alloc rfl rfl rfl z26) (se rfl rfl (e_store_box rfl rfl rfl rfl rfl ty26 rfl rfl rfl rfl) (SOps.nil (SCode.seq ?_))))))
 obtain ⟨c_1, g2, h⟩ := bind_out h
 try dsimp only at h
 refine SCode.region (sq rfl rfl (q_load_ptr_all rfl rfl rfl rfl rfl ty26) (sq rfl rfl (q_call (plan_Fair_ok F (SProblem.mk ([(-1)]) ([[1500]]) 0 60 ([SDemand.mk 0 7000 60000 0 60, SDemand.mk 0 7000 60000 0 60])) c_1 g2) [] rfl fn16 ⟨⟨rfl, rfl⟩, trivial⟩ (.inl rfl)) (sm rfl rfl (sq rfl rfl (q_extract rfl rfl rfl) (sq rfl rfl (q_extract rfl rfl rfl) (sa rfl rfl (sa rfl rfl (SOps.sub (st' := ⟨[(2, .c (.ptr 0 0)), (3, .c (vI c_1.1)), (4, ci c_1.2)], [.box [vI ([(-1)]), vR ([[1500]]), .int .i64 0, .int .i64 60, vSDemand ([SDemand.mk 0 7000 60000 0 60, SDemand.mk 0 7000 60000 0 60])]]⟩) (sub_gen [1] rfl rfl (zall rfl rfl) ⟨bx rfl rfl rfl, trivial⟩) (SOps.nil (SCode.seq ?_))))))))))
 obtain ⟨c_3, g4, h⟩ := bind_out h
 try dsimp only at h
 refine SCode.region (sq rfl rfl (q_load_ptr_all rfl rfl rfl rfl rfl ty26) (sq rfl rfl (q_bsliceL (c := (cInt .i64)) (d0 := 0) [90000, 1] rfl rfl sl22 z3 rfl rfl rfl rfl rfl rfl rfl) (sq rfl rfl (q_call (plan_Feasible_ok F (SProblem.mk ([(-1)]) ([[1500]]) 0 60 ([SDemand.mk 0 7000 60000 0 60, SDemand.mk 0 7000 60000 0 60])) ([90000, 1]) c_3 g4) [] rfl fn14 ⟨⟨rfl, rfl⟩, ⟨_, rfl, .inl ⟨rfl, rfl⟩⟩, trivial⟩ (.inl rfl)) (sm rfl rfl (sq rfl rfl (q_extract rfl rfl rfl) (sq rfl rfl (q_extract rfl rfl rfl) (sa rfl rfl (sa rfl rfl (SOps.nil (SCode.seq ?_))))))))))
 obtain ⟨c_5, g6, h⟩ := bind_out h
 try dsimp only at h
 refine SCode.region (sq rfl rfl (q_load_ptr_all rfl rfl rfl rfl rfl ty26) (sq rfl rfl (q_bsliceL (c := (cInt .i64)) (d0 := 0) [90000, 1] rfl rfl sl22 z3 rfl rfl rfl rfl rfl rfl rfl) (sq rfl rfl (q_call (plan_Schedule_ok F (SProblem.mk ([(-1)]) ([[1500]]) 0 60 ([SDemand.mk 0 7000 60000 0 60, SDemand.mk 0 7000 60000 0 60])) ([90000, 1]) c_5 g6) [] rfl fn20 ⟨⟨rfl, rfl⟩, ⟨_, rfl, .inl ⟨rfl, rfl⟩⟩, trivial⟩ (.inl rfl)) (sm rfl rfl (sq rfl rfl (q_extract rfl rfl rfl) (sq rfl rfl (q_extract rfl rfl rfl) (sa rfl rfl (sa rfl rfl (SOps.nil (SCode.seq ?_))))))))))
 rcases cond_out h with ⟨g7, h⟩ | ⟨g7, h⟩
 ·rcases cond_out h with ⟨g8, h⟩ | ⟨g8, h⟩
  ·obtain ⟨g9, h⟩ := guard_out h
   rcases cond_out h with ⟨g10, h⟩ | ⟨g10, h⟩
   ·obtain ⟨g11, h⟩ := guard_out h
    rcases cond_out h with ⟨g12, h⟩ | ⟨g12, h⟩
    ·rcases cond_out h with ⟨g13, h⟩ | ⟨g13, h⟩
     ·rcases cond_out h with ⟨g14, h⟩ | ⟨g14, h⟩
      ·refine SCode.region (sm rfl rfl (sq rfl rfl (q_eql rfl rfl rfl) (sm rfl rfl (SOps.q rfl (.guard 2 36 true rfl rfl (gT g7)) rfl (q_move rfl rfl) (SOps.q rfl (.guard 2 36 true rfl rfl (gT g7)) rfl (q_len_vec rfl rfl sl22) (SOps.q rfl (.guard 2 36 true rfl rfl (gT g7)) rfl (q_eql rfl rfl rfl) (sq rfl rfl (q_pick_t rfl rfl g7 rfl) (sm rfl rfl (SOps.q rfl (.guard 7 41 true rfl rfl (gT g8)) rfl (q_move rfl rfl) (SOps.q rfl (.guard 7 41 true rfl rfl (gT g8)) rfl (q_index_vec rfl rfl rfl sl22 rfl g9.1 g9.2) (SOps.q rfl (.guard 7 41 true rfl rfl (gT g8)) rfl (q_load_eptr rfl rfl ty3) (SOps.q rfl (.guard 7 41 true rfl rfl (gT g8)) rfl (q_eql rfl rfl rfl) (sq rfl rfl (q_pick_t rfl rfl g8 rfl) (sm rfl rfl (SOps.q rfl (.guard 13 47 true rfl rfl (gT g10)) rfl (q_move rfl rfl) ?_)))))))))))))))
       refine SOps.q rfl (.guard 13 47 true rfl rfl (gT g10)) rfl (q_index_vec rfl rfl rfl sl22 rfl g11.1 g11.2) (SOps.q rfl (.guard 13 47 true rfl rfl (gT g10)) rfl (q_load_eptr rfl rfl ty3) (SOps.q rfl (.guard 13 47 true rfl rfl (gT g10)) rfl (q_eql rfl rfl rfl) (sq rfl rfl (q_pick_t rfl rfl g10 rfl) (sm rfl rfl (SOps.q rfl (.guard 19 53 true rfl rfl (gT g12)) rfl (q_move rfl rfl) (SOps.q rfl (.guard 19 53 true rfl rfl (gT g12)) rfl (q_eql rfl rfl rfl) (sq rfl rfl (q_pick_t rfl rfl g12 rfl) (sm rfl rfl (SOps.q rfl (.guard 23 57 true rfl rfl (gT g13)) rfl (q_move rfl rfl) (SOps.q rfl (.guard 23 57 true rfl rfl (gT g13)) rfl (q_not rfl rfl) (sq rfl rfl (q_pick_t rfl rfl g13 rfl) (sm rfl rfl (SOps.q rfl (.guard 27 61 true rfl rfl (gT g14)) rfl (q_move rfl rfl) (SOps.q rfl (.guard 27 61 true rfl rfl (gT g14)) rfl (q_eql rfl rfl rfl) (sq rfl rfl (q_pick_t rfl rfl g14 rfl) ?_)))))))))))))))
       refine sa rfl rfl (SOps.sub (st' := ⟨[(0, .c (.bool (decide (c_5.2 = 3))))], []⟩) (sub_gen [] rfl rfl (zall rfl rfl) trivial) (SOps.nil (SCode.ret ?_)))
       obtain rfl := Option.some.inj h
       exact ⟨⟨[(0, .c (.bool (decide (c_5.2 = 3))))], []⟩, _, sub_gen [] rfl rfl (zall rfl rfl) trivial, resA1 (v := .c (.bool (decide (c_5.2 = 3)))) rfl rfl, rfl⟩
      refine SCode.region (sm rfl rfl (sq rfl rfl (q_eql rfl rfl rfl) (sm rfl rfl (SOps.q rfl (.guard 2 36 true rfl rfl (gT g7)) rfl (q_move rfl rfl) (SOps.q rfl (.guard 2 36 true rfl rfl (gT g7)) rfl (q_len_vec rfl rfl sl22) (SOps.q rfl (.guard 2 36 true rfl rfl (gT g7)) rfl (q_eql rfl rfl rfl) (sq rfl rfl (q_pick_t rfl rfl g7 rfl) (sm rfl rfl (SOps.q rfl (.guard 7 41 true rfl rfl (gT g8)) rfl (q_move rfl rfl) (SOps.q rfl (.guard 7 41 true rfl rfl (gT g8)) rfl (q_index_vec rfl rfl rfl sl22 rfl g9.1 g9.2) (SOps.q rfl (.guard 7 41 true rfl rfl (gT g8)) rfl (q_load_eptr rfl rfl ty3) (SOps.q rfl (.guard 7 41 true rfl rfl (gT g8)) rfl (q_eql rfl rfl rfl) (sq rfl rfl (q_pick_t rfl rfl g8 rfl) (sm rfl rfl (SOps.q rfl (.guard 13 47 true rfl rfl (gT g10)) rfl (q_move rfl rfl) ?_)))))))))))))))
      refine SOps.q rfl (.guard 13 47 true rfl rfl (gT g10)) rfl (q_index_vec rfl rfl rfl sl22 rfl g11.1 g11.2) (SOps.q rfl (.guard 13 47 true rfl rfl (gT g10)) rfl (q_load_eptr rfl rfl ty3) (SOps.q rfl (.guard 13 47 true rfl rfl (gT g10)) rfl (q_eql rfl rfl rfl) (sq rfl rfl (q_pick_t rfl rfl g10 rfl) (sm rfl rfl (SOps.q rfl (.guard 19 53 true rfl rfl (gT g12)) rfl (q_move rfl rfl) (SOps.q rfl (.guard 19 53 true rfl rfl (gT g12)) rfl (q_eql rfl rfl rfl) (sq rfl rfl (q_pick_t rfl rfl g12 rfl) (sm rfl rfl (SOps.q rfl (.guard 23 57 true rfl rfl (gT g13)) rfl (q_move rfl rfl) (SOps.q rfl (.guard 23 57 true rfl rfl (gT g13)) rfl (q_not rfl rfl) (sq rfl rfl (q_pick_t rfl rfl g13 rfl) (sm rfl rfl (SOps.skip rfl 27 61 true rfl rfl (.inl (gF g14)) rfl (SOps.skip rfl 27 61 true rfl rfl (.inl (gF g14)) rfl (sq rfl rfl (q_pick_f rfl rfl g14 rfl) ?_)))))))))))))))
      refine sa rfl rfl (SOps.sub (st' := ⟨[(0, .c (.bool false))], []⟩) (sub_gen [] rfl rfl (zall rfl rfl) trivial) (SOps.nil (SCode.ret ?_)))
      obtain rfl := Option.some.inj h
      exact ⟨⟨[(0, .c (.bool false))], []⟩, _, sub_gen [] rfl rfl (zall rfl rfl) trivial, resA1 (v := .c (.bool false)) rfl rfl, rfl⟩
     refine SCode.region (sm rfl rfl (sq rfl rfl (q_eql rfl rfl rfl) (sm rfl rfl (SOps.q rfl (.guard 2 36 true rfl rfl (gT g7)) rfl (q_move rfl rfl) (SOps.q rfl (.guard 2 36 true rfl rfl (gT g7)) rfl (q_len_vec rfl rfl sl22) (SOps.q rfl (.guard 2 36 true rfl rfl (gT g7)) rfl (q_eql rfl rfl rfl) (sq rfl rfl (q_pick_t rfl rfl g7 rfl) (sm rfl rfl (SOps.q rfl (.guard 7 41 true rfl rfl (gT g8)) rfl (q_move rfl rfl) (SOps.q rfl (.guard 7 41 true rfl rfl (gT g8)) rfl (q_index_vec rfl rfl rfl sl22 rfl g9.1 g9.2) (SOps.q rfl (.guard 7 41 true rfl rfl (gT g8)) rfl (q_load_eptr rfl rfl ty3) (SOps.q rfl (.guard 7 41 true rfl rfl (gT g8)) rfl (q_eql rfl rfl rfl) (sq rfl rfl (q_pick_t rfl rfl g8 rfl) (sm rfl rfl (SOps.q rfl (.guard 13 47 true rfl rfl (gT g10)) rfl (q_move rfl rfl) ?_)))))))))))))))
     refine SOps.q rfl (.guard 13 47 true rfl rfl (gT g10)) rfl (q_index_vec rfl rfl rfl sl22 rfl g11.1 g11.2) (SOps.q rfl (.guard 13 47 true rfl rfl (gT g10)) rfl (q_load_eptr rfl rfl ty3) (SOps.q rfl (.guard 13 47 true rfl rfl (gT g10)) rfl (q_eql rfl rfl rfl) (sq rfl rfl (q_pick_t rfl rfl g10 rfl) (sm rfl rfl (SOps.q rfl (.guard 19 53 true rfl rfl (gT g12)) rfl (q_move rfl rfl) (SOps.q rfl (.guard 19 53 true rfl rfl (gT g12)) rfl (q_eql rfl rfl rfl) (sq rfl rfl (q_pick_t rfl rfl g12 rfl) (sm rfl rfl (SOps.skip rfl 23 57 true rfl rfl (.inl (gF g13)) rfl (SOps.skip rfl 23 57 true rfl rfl (.inl (gF g13)) rfl (sq rfl rfl (q_pick_f rfl rfl g13 rfl) (sm rfl rfl (SOps.skip rfl 27 61 true rfl rfl (.inl rfl) rfl (SOps.skip rfl 27 61 true rfl rfl (.inl rfl) rfl (sq rfl rfl (q_pick_f rfl rfl rfl rfl) ?_)))))))))))))))
     refine sa rfl rfl (SOps.sub (st' := ⟨[(0, .c (.bool false))], []⟩) (sub_gen [] rfl rfl (zall rfl rfl) trivial) (SOps.nil (SCode.ret ?_)))
     obtain rfl := Option.some.inj h
     exact ⟨⟨[(0, .c (.bool false))], []⟩, _, sub_gen [] rfl rfl (zall rfl rfl) trivial, resA1 (v := .c (.bool false)) rfl rfl, rfl⟩
    refine SCode.region (sm rfl rfl (sq rfl rfl (q_eql rfl rfl rfl) (sm rfl rfl (SOps.q rfl (.guard 2 36 true rfl rfl (gT g7)) rfl (q_move rfl rfl) (SOps.q rfl (.guard 2 36 true rfl rfl (gT g7)) rfl (q_len_vec rfl rfl sl22) (SOps.q rfl (.guard 2 36 true rfl rfl (gT g7)) rfl (q_eql rfl rfl rfl) (sq rfl rfl (q_pick_t rfl rfl g7 rfl) (sm rfl rfl (SOps.q rfl (.guard 7 41 true rfl rfl (gT g8)) rfl (q_move rfl rfl) (SOps.q rfl (.guard 7 41 true rfl rfl (gT g8)) rfl (q_index_vec rfl rfl rfl sl22 rfl g9.1 g9.2) (SOps.q rfl (.guard 7 41 true rfl rfl (gT g8)) rfl (q_load_eptr rfl rfl ty3) (SOps.q rfl (.guard 7 41 true rfl rfl (gT g8)) rfl (q_eql rfl rfl rfl) (sq rfl rfl (q_pick_t rfl rfl g8 rfl) (sm rfl rfl (SOps.q rfl (.guard 13 47 true rfl rfl (gT g10)) rfl (q_move rfl rfl) ?_)))))))))))))))
    refine SOps.q rfl (.guard 13 47 true rfl rfl (gT g10)) rfl (q_index_vec rfl rfl rfl sl22 rfl g11.1 g11.2) (SOps.q rfl (.guard 13 47 true rfl rfl (gT g10)) rfl (q_load_eptr rfl rfl ty3) (SOps.q rfl (.guard 13 47 true rfl rfl (gT g10)) rfl (q_eql rfl rfl rfl) (sq rfl rfl (q_pick_t rfl rfl g10 rfl) (sm rfl rfl (SOps.skip rfl 19 53 true rfl rfl (.inl (gF g12)) rfl (SOps.skip rfl 19 53 true rfl rfl (.inl (gF g12)) rfl (sq rfl rfl (q_pick_f rfl rfl g12 rfl) (sm rfl rfl (SOps.skip rfl 23 57 true rfl rfl (.inl rfl) rfl (SOps.skip rfl 23 57 true rfl rfl (.inl rfl) rfl (sq rfl rfl (q_pick_f rfl rfl rfl rfl) (sm rfl rfl (SOps.skip rfl 27 61 true rfl rfl (.inl rfl) rfl (SOps.skip rfl 27 61 true rfl rfl (.inl rfl) rfl (sq rfl rfl (q_pick_f rfl rfl rfl rfl) ?_)))))))))))))))
    refine sa rfl rfl (SOps.sub (st' := ⟨[(0, .c (.bool false))], []⟩) (sub_gen [] rfl rfl (zall rfl rfl) trivial) (SOps.nil (SCode.ret ?_)))
    obtain rfl := Option.some.inj h
    exact ⟨⟨[(0, .c (.bool false))], []⟩, _, sub_gen [] rfl rfl (zall rfl rfl) trivial, resA1 (v := .c (.bool false)) rfl rfl, rfl⟩
   refine SCode.region (sm rfl rfl (sq rfl rfl (q_eql rfl rfl rfl) (sm rfl rfl (SOps.q rfl (.guard 2 36 true rfl rfl (gT g7)) rfl (q_move rfl rfl) (SOps.q rfl (.guard 2 36 true rfl rfl (gT g7)) rfl (q_len_vec rfl rfl sl22) (SOps.q rfl (.guard 2 36 true rfl rfl (gT g7)) rfl (q_eql rfl rfl rfl) (sq rfl rfl (q_pick_t rfl rfl g7 rfl) (sm rfl rfl (SOps.q rfl (.guard 7 41 true rfl rfl (gT g8)) rfl (q_move rfl rfl) (SOps.q rfl (.guard 7 41 true rfl rfl (gT g8)) rfl (q_index_vec rfl rfl rfl sl22 rfl g9.1 g9.2) (SOps.q rfl (.guard 7 41 true rfl rfl (gT g8)) rfl (q_load_eptr rfl rfl ty3) (SOps.q rfl (.guard 7 41 true rfl rfl (gT g8)) rfl (q_eql rfl rfl rfl) (sq rfl rfl (q_pick_t rfl rfl g8 rfl) (sm rfl rfl (SOps.skip rfl 13 47 true rfl rfl (.inl (gF g10)) rfl ?_)))))))))))))))
   refine SOps.skip rfl 13 47 true rfl rfl (.inl (gF g10)) rfl (SOps.skip rfl 13 47 true rfl rfl (.inl (gF g10)) rfl (SOps.skip rfl 13 47 true rfl rfl (.inl (gF g10)) rfl (sq rfl rfl (q_pick_f rfl rfl g10 rfl) (sm rfl rfl (SOps.skip rfl 19 53 true rfl rfl (.inl rfl) rfl (SOps.skip rfl 19 53 true rfl rfl (.inl rfl) rfl (sq rfl rfl (q_pick_f rfl rfl rfl rfl) (sm rfl rfl (SOps.skip rfl 23 57 true rfl rfl (.inl rfl) rfl (SOps.skip rfl 23 57 true rfl rfl (.inl rfl) rfl (sq rfl rfl (q_pick_f rfl rfl rfl rfl) (sm rfl rfl (SOps.skip rfl 27 61 true rfl rfl (.inl rfl) rfl (SOps.skip rfl 27 61 true rfl rfl (.inl rfl) rfl (sq rfl rfl (q_pick_f rfl rfl rfl rfl) ?_)))))))))))))))
   refine sa rfl rfl (SOps.sub (st' := ⟨[(0, .c (.bool false))], []⟩) (sub_gen [] rfl rfl (zall rfl rfl) trivial) (SOps.nil (SCode.ret ?_)))
   obtain rfl := Option.some.inj h
   exact ⟨⟨[(0, .c (.bool false))], []⟩, _, sub_gen [] rfl rfl (zall rfl rfl) trivial, resA1 (v := .c (.bool false)) rfl rfl, rfl⟩
  refine SCode.region (sm rfl rfl (sq rfl rfl (q_eql rfl rfl rfl) (sm rfl rfl (SOps.q rfl (.guard 2 36 true rfl rfl (gT g7)) rfl (q_move rfl rfl) (SOps.q rfl (.guard 2 36 true rfl rfl (gT g7)) rfl (q_len_vec rfl rfl sl22) (SOps.q rfl (.guard 2 36 true rfl rfl (gT g7)) rfl (q_eql rfl rfl rfl) (sq rfl rfl (q_pick_t rfl rfl g7 rfl) (sm rfl rfl (SOps.skip rfl 7 41 true rfl rfl (.inl (gF g8)) rfl (SOps.skip rfl 7 41 true rfl rfl (.inl (gF g8)) rfl (SOps.skip rfl 7 41 true rfl rfl (.inl (gF g8)) rfl (SOps.skip rfl 7 41 true rfl rfl (.inl (gF g8)) rfl (sq rfl rfl (q_pick_f rfl rfl g8 rfl) (sm rfl rfl (SOps.skip rfl 13 47 true rfl rfl (.inl rfl) rfl ?_)))))))))))))))
  refine SOps.skip rfl 13 47 true rfl rfl (.inl rfl) rfl (SOps.skip rfl 13 47 true rfl rfl (.inl rfl) rfl (SOps.skip rfl 13 47 true rfl rfl (.inl rfl) rfl (sq rfl rfl (q_pick_f rfl rfl rfl rfl) (sm rfl rfl (SOps.skip rfl 19 53 true rfl rfl (.inl rfl) rfl (SOps.skip rfl 19 53 true rfl rfl (.inl rfl) rfl (sq rfl rfl (q_pick_f rfl rfl rfl rfl) (sm rfl rfl (SOps.skip rfl 23 57 true rfl rfl (.inl rfl) rfl (SOps.skip rfl 23 57 true rfl rfl (.inl rfl) rfl (sq rfl rfl (q_pick_f rfl rfl rfl rfl) (sm rfl rfl (SOps.skip rfl 27 61 true rfl rfl (.inl rfl) rfl (SOps.skip rfl 27 61 true rfl rfl (.inl rfl) rfl (sq rfl rfl (q_pick_f rfl rfl rfl rfl) ?_)))))))))))))))
  refine sa rfl rfl (SOps.sub (st' := ⟨[(0, .c (.bool false))], []⟩) (sub_gen [] rfl rfl (zall rfl rfl) trivial) (SOps.nil (SCode.ret ?_)))
  obtain rfl := Option.some.inj h
  exact ⟨⟨[(0, .c (.bool false))], []⟩, _, sub_gen [] rfl rfl (zall rfl rfl) trivial, resA1 (v := .c (.bool false)) rfl rfl, rfl⟩
 refine SCode.region (sm rfl rfl (sq rfl rfl (q_eql rfl rfl rfl) (sm rfl rfl (SOps.skip rfl 2 36 true rfl rfl (.inl (gF g7)) rfl (SOps.skip rfl 2 36 true rfl rfl (.inl (gF g7)) rfl (SOps.skip rfl 2 36 true rfl rfl (.inl (gF g7)) rfl (sq rfl rfl (q_pick_f rfl rfl g7 rfl) (sm rfl rfl (SOps.skip rfl 7 41 true rfl rfl (.inl rfl) rfl (SOps.skip rfl 7 41 true rfl rfl (.inl rfl) rfl (SOps.skip rfl 7 41 true rfl rfl (.inl rfl) rfl (SOps.skip rfl 7 41 true rfl rfl (.inl rfl) rfl (sq rfl rfl (q_pick_f rfl rfl rfl rfl) (sm rfl rfl (SOps.skip rfl 13 47 true rfl rfl (.inl rfl) rfl ?_)))))))))))))))
 refine SOps.skip rfl 13 47 true rfl rfl (.inl rfl) rfl (SOps.skip rfl 13 47 true rfl rfl (.inl rfl) rfl (SOps.skip rfl 13 47 true rfl rfl (.inl rfl) rfl (sq rfl rfl (q_pick_f rfl rfl rfl rfl) (sm rfl rfl (SOps.skip rfl 19 53 true rfl rfl (.inl rfl) rfl (SOps.skip rfl 19 53 true rfl rfl (.inl rfl) rfl (sq rfl rfl (q_pick_f rfl rfl rfl rfl) (sm rfl rfl (SOps.skip rfl 23 57 true rfl rfl (.inl rfl) rfl (SOps.skip rfl 23 57 true rfl rfl (.inl rfl) rfl (sq rfl rfl (q_pick_f rfl rfl rfl rfl) (sm rfl rfl (SOps.skip rfl 27 61 true rfl rfl (.inl rfl) rfl (SOps.skip rfl 27 61 true rfl rfl (.inl rfl) rfl (sq rfl rfl (q_pick_f rfl rfl rfl rfl) ?_)))))))))))))))
 refine sa rfl rfl (SOps.sub (st' := ⟨[(0, .c (.bool false))], []⟩) (sub_gen [] rfl rfl (zall rfl rfl) trivial) (SOps.nil (SCode.ret ?_)))
 obtain rfl := Option.some.inj h
 exact ⟨⟨[(0, .c (.bool false))], []⟩, _, sub_gen [] rfl rfl (zall rfl rfl) trivial, resA1 (v := .c (.bool false)) rfl rfl, rfl⟩
theorem chargenetref18_Valid_ok (F : Nat) (a0_p : SProblem) (r : Int) (h : chargenetref18_Valid F a0_p = some r) :
  SFun Try.prog 12 [] [.a (bSProblem a0_p)] (fun x _ => x = ci r) := by
 refine SFun.of (n := 165) Try.func12 rfl rfl rfl ?_
 unfold chargenetref18_Valid at h
 show SCode _ _ _ ⟨[(0, .a (bSProblem a0_p))], []⟩ _
 refine SCode.seq (SCode.region (se rfl rfl (e_box rfl rfl rfl rfl rfl rfl) (sa rfl rfl (SOps.nil (SCode.seq (SCode.sub (st' := ⟨[(1, .c (.ptr 0 0))], [.box (bSProblem a0_p)]⟩) (sub_gen [0] rfl rfl (zall rfl rfl) ⟨bx rfl rfl rfl, trivial⟩) (SCode.drawK mixed [[], [0], [0, 1], [], [3], [3, 4], [0, 1, 2], [0, 1, 2, 3, 4, 5, 6]] 8 0 rfl rfl (qr rfl rfl (q_field_ptr rfl rfl fd26_1) (qr rfl rfl (q_load_ptr rfl rfl rfl rfl ty23) (qr rfl rfl (q_len_vec rfl rfl sl23) (qr rfl rfl (q_field_ptr rfl rfl fd26_0) (qr rfl rfl (q_load_ptr rfl rfl rfl rfl ty22) (qr rfl rfl (q_len_vec rfl rfl sl22) (qr rfl rfl (q_assign rfl rfl) (qr rfl rfl (q_assign rfl rfl) ?_)))))))))))))))
 refine QK.nil (SOps.sub (st' := ⟨[(1, .c (.ptr 0 0)), (3, ci (((a0_p.Caps).length : Int))), (4, ci (((a0_p.Parents).length : Int)))], [.box (bSProblem a0_p)]⟩) (sub_gen [0] rfl rfl (zall rfl rfl) ⟨bx rfl rfl rfl, trivial⟩) (SOps.nil (SCode.seq (SCode.seq ?_))))
 rcases cond_out h with ⟨g1, h⟩ | ⟨g1, h⟩
 ·refine SCode.region (sm rfl rfl (sq rfl rfl (q_gtr rfl rfl rfl) (sm rfl rfl (SOps.skip rfl 2 21 false rfl rfl (.inl (gT g1)) rfl (SOps.skip rfl 2 21 false rfl rfl (.inl (gT g1)) rfl (sq rfl rfl (q_pick_t rfl rfl g1 rfl) (sm rfl rfl (SOps.skip rfl 6 25 false rfl rfl (.inl rfl) rfl (SOps.skip rfl 6 25 false rfl rfl (.inl rfl) rfl (SOps.skip rfl 6 25 false rfl rfl (.inl rfl) rfl (SOps.skip rfl 6 25 false rfl rfl (.inl rfl) rfl (sq rfl rfl (q_pick_t rfl rfl rfl rfl) (sm rfl rfl (SOps.skip rfl 12 31 false rfl rfl (.inl rfl) rfl (SOps.skip rfl 12 31 false rfl rfl (.inl rfl) rfl ?_)))))))))))))))
  refine SOps.skip rfl 12 31 false rfl rfl (.inl rfl) rfl (SOps.skip rfl 12 31 false rfl rfl (.inl rfl) rfl (SOps.skip rfl 12 31 false rfl rfl (.inl rfl) rfl (SOps.skip rfl 12 31 false rfl rfl (.inl rfl) rfl (SOps.skip rfl 12 31 false rfl rfl (.inl rfl) rfl (SOps.skip rfl 12 31 false rfl rfl (.inl rfl) rfl (SOps.skip rfl 12 31 false rfl rfl (.inl rfl) rfl (sq rfl rfl (q_pick_t rfl rfl rfl rfl) (SOps.sub (st' := ⟨[(1, .c (.ptr 0 0)), (3, ci (((a0_p.Caps).length : Int))), (4, ci (((a0_p.Parents).length : Int))), (41, .c (.bool true))], [.box (bSProblem a0_p)]⟩) (sub_gen [0] rfl rfl (zall rfl rfl) ⟨bx rfl rfl rfl, trivial⟩) (SOps.nil (SCode.cond_t rfl rfl (SCode.seq (SCode.region (sa rfl rfl (SOps.nil (SCode.ret ?_)))))))))))))))
  obtain rfl := Option.some.inj h
  exact ⟨⟨[(2, ci 3)], []⟩, _, sub_gen [] rfl rfl (zall rfl rfl) trivial, resA1 (v := .c (.int .i64 3)) rfl rfl, rfl⟩
 rcases cond_out h with ⟨g2, h⟩ | ⟨g2, h⟩
 ·refine SCode.region (sm rfl rfl (sq rfl rfl (q_gtr rfl rfl rfl) (sm rfl rfl (SOps.q rfl (.guard 2 21 false rfl rfl (gF g1)) rfl (q_move rfl rfl) (SOps.q rfl (.guard 2 21 false rfl rfl (gF g1)) rfl (q_gtr rfl rfl rfl) (sq rfl rfl (q_pick_f rfl rfl g1 rfl) (sm rfl rfl (SOps.skip rfl 6 25 false rfl rfl (.inl (gT g2)) rfl (SOps.skip rfl 6 25 false rfl rfl (.inl (gT g2)) rfl (SOps.skip rfl 6 25 false rfl rfl (.inl (gT g2)) rfl (SOps.skip rfl 6 25 false rfl rfl (.inl (gT g2)) rfl (sq rfl rfl (q_pick_t rfl rfl g2 rfl) (sm rfl rfl (SOps.skip rfl 12 31 false rfl rfl (.inl rfl) rfl (SOps.skip rfl 12 31 false rfl rfl (.inl rfl) rfl ?_)))))))))))))))
  refine SOps.skip rfl 12 31 false rfl rfl (.inl rfl) rfl (SOps.skip rfl 12 31 false rfl rfl (.inl rfl) rfl (SOps.skip rfl 12 31 false rfl rfl (.inl rfl) rfl (SOps.skip rfl 12 31 false rfl rfl (.inl rfl) rfl (SOps.skip rfl 12 31 false rfl rfl (.inl rfl) rfl (SOps.skip rfl 12 31 false rfl rfl (.inl rfl) rfl (SOps.skip rfl 12 31 false rfl rfl (.inl rfl) rfl (sq rfl rfl (q_pick_t rfl rfl rfl rfl) (SOps.sub (st' := ⟨[(1, .c (.ptr 0 0)), (3, ci (((a0_p.Caps).length : Int))), (4, ci (((a0_p.Parents).length : Int))), (41, .c (.bool true))], [.box (bSProblem a0_p)]⟩) (sub_gen [0] rfl rfl (zall rfl rfl) ⟨bx rfl rfl rfl, trivial⟩) (SOps.nil (SCode.cond_t rfl rfl (SCode.seq (SCode.region (sa rfl rfl (SOps.nil (SCode.ret ?_)))))))))))))))
  obtain rfl := Option.some.inj h
  exact ⟨⟨[(2, ci 3)], []⟩, _, sub_gen [] rfl rfl (zall rfl rfl) trivial, resA1 (v := .c (.int .i64 3)) rfl rfl, rfl⟩
 rcases cond_out h with ⟨g3, h⟩ | ⟨g3, h⟩
 ·refine SCode.region (sm rfl rfl (sq rfl rfl (q_gtr rfl rfl rfl) (sm rfl rfl (SOps.q rfl (.guard 2 21 false rfl rfl (gF g1)) rfl (q_move rfl rfl) (SOps.q rfl (.guard 2 21 false rfl rfl (gF g1)) rfl (q_gtr rfl rfl rfl) (sq rfl rfl (q_pick_f rfl rfl g1 rfl) (sm rfl rfl (SOps.q rfl (.guard 6 25 false rfl rfl (gF g2)) rfl (q_field_ptr rfl rfl fd26_4) (SOps.q rfl (.guard 6 25 false rfl rfl (gF g2)) rfl (q_load_ptr rfl rfl rfl rfl ty24) (SOps.q rfl (.guard 6 25 false rfl rfl (gF g2)) rfl (q_len_vec rfl rfl sl24) (SOps.q rfl (.guard 6 25 false rfl rfl (gF g2)) rfl (q_gtr rfl rfl rfl) (sq rfl rfl (q_pick_f rfl rfl g2 rfl) (sm rfl rfl (SOps.skip rfl 12 31 false rfl rfl (.inl (gT g3)) rfl (SOps.skip rfl 12 31 false rfl rfl (.inl (gT g3)) rfl ?_)))))))))))))))
  refine SOps.skip rfl 12 31 false rfl rfl (.inl (gT g3)) rfl (SOps.skip rfl 12 31 false rfl rfl (.inl (gT g3)) rfl (SOps.skip rfl 12 31 false rfl rfl (.inl (gT g3)) rfl (SOps.skip rfl 12 31 false rfl rfl (.inl (gT g3)) rfl (SOps.skip rfl 12 31 false rfl rfl (.inl (gT g3)) rfl (SOps.skip rfl 12 31 false rfl rfl (.inl (gT g3)) rfl (SOps.skip rfl 12 31 false rfl rfl (.inl (gT g3)) rfl (sq rfl rfl (q_pick_t rfl rfl g3 rfl) (SOps.sub (st' := ⟨[(1, .c (.ptr 0 0)), (3, ci (((a0_p.Caps).length : Int))), (4, ci (((a0_p.Parents).length : Int))), (41, .c (.bool true))], [.box (bSProblem a0_p)]⟩) (sub_gen [0] rfl rfl (zall rfl rfl) ⟨bx rfl rfl rfl, trivial⟩) (SOps.nil (SCode.cond_t rfl rfl (SCode.seq (SCode.region (sa rfl rfl (SOps.nil (SCode.ret ?_)))))))))))))))
  obtain rfl := Option.some.inj h
  exact ⟨⟨[(2, ci 3)], []⟩, _, sub_gen [] rfl rfl (zall rfl rfl) trivial, resA1 (v := .c (.int .i64 3)) rfl rfl, rfl⟩
 refine SCode.region (sm rfl rfl (sq rfl rfl (q_gtr rfl rfl rfl) (sm rfl rfl (SOps.q rfl (.guard 2 21 false rfl rfl (gF g1)) rfl (q_move rfl rfl) (SOps.q rfl (.guard 2 21 false rfl rfl (gF g1)) rfl (q_gtr rfl rfl rfl) (sq rfl rfl (q_pick_f rfl rfl g1 rfl) (sm rfl rfl (SOps.q rfl (.guard 6 25 false rfl rfl (gF g2)) rfl (q_field_ptr rfl rfl fd26_4) (SOps.q rfl (.guard 6 25 false rfl rfl (gF g2)) rfl (q_load_ptr rfl rfl rfl rfl ty24) (SOps.q rfl (.guard 6 25 false rfl rfl (gF g2)) rfl (q_len_vec rfl rfl sl24) (SOps.q rfl (.guard 6 25 false rfl rfl (gF g2)) rfl (q_gtr rfl rfl rfl) (sq rfl rfl (q_pick_f rfl rfl g2 rfl) (sm rfl rfl (SOps.q rfl (.guard 12 31 false rfl rfl (gF g3)) rfl (q_field_ptr rfl rfl fd26_4) (SOps.q rfl (.guard 12 31 false rfl rfl (gF g3)) rfl (q_load_ptr rfl rfl rfl rfl ty24) ?_)))))))))))))))
 refine SOps.q rfl (.guard 12 31 false rfl rfl (gF g3)) rfl (q_len_vec rfl rfl sl24) (SOps.q rfl (.guard 12 31 false rfl rfl (gF g3)) rfl (q_add rfl rfl rfl) (SOps.q rfl (.guard 12 31 false rfl rfl (gF g3)) rfl (q_move rfl rfl) (SOps.q rfl (.guard 12 31 false rfl rfl (gF g3)) rfl (q_move rfl rfl) (SOps.q rfl (.guard 12 31 false rfl rfl (gF g3)) rfl (q_mul rfl rfl rfl) (SOps.q rfl (.guard 12 31 false rfl rfl (gF g3)) rfl (q_add rfl rfl rfl) (SOps.q rfl (.guard 12 31 false rfl rfl (gF g3)) rfl (q_gtr rfl rfl rfl) (sq rfl rfl (q_pick_f rfl rfl g3 rfl) (SOps.sub (st' := ⟨[(1, .c (.ptr 0 0)), (3, ci (((a0_p.Caps).length : Int))), (4, ci (((a0_p.Parents).length : Int))), (41, .c (.bool (decide (256 < IntKind.wrap .i64 (IntKind.wrap .i64 (2 + ((a0_p.Demands).length : Int)) + IntKind.wrap .i64 (((a0_p.Caps).length : Int) * ((a0_p.Parents).length : Int)))))))], [.box (bSProblem a0_p)]⟩) (sub_gen [0] rfl rfl (zall rfl rfl) ⟨bx rfl rfl rfl, trivial⟩) (SOps.nil ?_)))))))))
 rcases cond_out h with ⟨g4, h⟩ | ⟨g4, h⟩
 ·refine SCode.cond_t rfl g4 (SCode.seq (SCode.region (sa rfl rfl (SOps.nil (SCode.ret ?_)))))
  obtain rfl := Option.some.inj h
  exact ⟨⟨[(2, ci 3)], []⟩, _, sub_gen [] rfl rfl (zall rfl rfl) trivial, resA1 (v := .c (.int .i64 3)) rfl rfl, rfl⟩
 refine SCode.cond_f rfl g4 (SCode.skip (SCode.seq (SCode.seq (SCode.region (sm rfl rfl (sq rfl rfl (q_eql rfl rfl rfl) (SOps.nil ?_)))))))
 rcases cond_out h with ⟨g5, h⟩ | ⟨g5, h⟩
 ·refine SCode.cond_t rfl g5 (SCode.seq (SCode.region (sa rfl rfl (SOps.nil (SCode.ret ?_)))))
  obtain rfl := Option.some.inj h
  exact ⟨⟨[(2, ci 1)], []⟩, _, sub_gen [] rfl rfl (zall rfl rfl) trivial, resA1 (v := .c (.int .i64 1)) rfl rfl, rfl⟩
 refine SCode.cond_f rfl g5 (SCode.skip ?_)
 let S27 := (⟨[(1, .c (.ptr 0 0)), (3, ci (((a0_p.Caps).length : Int))), (4, ci (((a0_p.Parents).length : Int)))], [.box (bSProblem a0_p)]⟩ : St)
 refine SCode.join (σ := Unit) (S := fun s => S27) (g := fun s => chargenetref18_Valid_p104 F a0_p = some r) ?_ ?_
 rotate_left
 ·refine SCode.seq (SCode.region (sq rfl rfl (q_field_ptr rfl rfl fd26_0) (sq rfl rfl (q_load_ptr rfl rfl rfl rfl ty22) (sq rfl rfl (q_len_vec rfl rfl sl22) (sm rfl rfl (SOps.nil (SCode.block ?_)))))))
  let S26 := fun (t47_109 : Int) => (⟨[(1, .c (.ptr 0 0)), (3, ci (((a0_p.Caps).length : Int))), (4, ci (((a0_p.Parents).length : Int))), (45, .c (vI a0_p.Parents)), (46, ci (((a0_p.Parents).length : Int))), (47, ci t47_109)], [.box (bSProblem a0_p)]⟩ : St)
  refine SCode.sub (st' := (S26 0)) (sub_gen [0] rfl rfl (zall rfl rfl) ⟨bx rfl rfl rfl, trivial⟩) ?_
  refine (SCode.loop (σ := Nat × Int) (S := fun s => (S26 s.2)) (g := fun s => chargenetref18_Valid_l114 F a0_p s.1 s.2 = some r) (μ := fun s => s.1) (F, 0) h ?_)
  rintro ⟨n_114, t47_109⟩ h
  try dsimp only at h
  show SCode _ _ _ (S26 t47_109) _
  cases n_114 with
  | zero => cases h
  | succ n_114 =>
   rw [chargenetref18_Valid_l114] at h
   unfold chargenetref18_Valid_b114 at h
   refine SCode.seq (SCode.region (sq rfl rfl (q_lss rfl rfl rfl) (SOps.nil (SCode.seq ?_))))
   rcases cond_out h with ⟨g115, h⟩ | ⟨g115, h⟩
   ·refine SCode.cond_t rfl g115 (SCode.skip (SCode.seq (SCode.block (SCode.seq ?_))))
    obtain ⟨g116, h⟩ := guard_out h
    refine SCode.region (sm rfl rfl (sq rfl rfl (q_index_vec rfl rfl rfl sl22 rfl g116.1 g116.2) (sq rfl rfl (q_load_eptr rfl rfl ty3) (sa rfl rfl (sa rfl rfl (SOps.nil (SCode.seq ?_)))))))
    rcases cond_out h with ⟨g117, h⟩ | ⟨g117, h⟩
    ·refine SCode.region (sm rfl rfl (sq rfl rfl (q_lss rfl rfl rfl) (sm rfl rfl (SOps.skip rfl 2 54 false rfl rfl (.inl (gT g117)) rfl (SOps.skip rfl 2 54 false rfl rfl (.inl (gT g117)) rfl (SOps.skip rfl 2 54 false rfl rfl (.inl (gT g117)) rfl (sq rfl rfl (q_pick_t rfl rfl g117 rfl) (SOps.nil (SCode.cond_t rfl rfl (SCode.seq (SCode.region (sa rfl rfl (SOps.nil (SCode.ret ?_))))))))))))))
     obtain rfl := Option.some.inj h
     exact ⟨⟨[(2, ci 1)], []⟩, _, sub_gen [] rfl rfl (zall rfl rfl) trivial, resA1 (v := .c (.int .i64 1)) rfl rfl, rfl⟩
    refine SCode.region (sm rfl rfl (sq rfl rfl (q_lss rfl rfl rfl) (sm rfl rfl (SOps.q rfl (.guard 2 54 false rfl rfl (gF g117)) rfl (q_move rfl rfl) (SOps.q rfl (.guard 2 54 false rfl rfl (gF g117)) rfl (q_move rfl rfl) (SOps.q rfl (.guard 2 54 false rfl rfl (gF g117)) rfl (q_geq rfl rfl rfl) (sq rfl rfl (q_pick_f rfl rfl g117 rfl) (SOps.nil ?_))))))))
    rcases cond_out h with ⟨g118, h⟩ | ⟨g118, h⟩
    ·refine SCode.cond_t rfl g118 (SCode.seq (SCode.region (sa rfl rfl (SOps.nil (SCode.ret ?_)))))
     obtain rfl := Option.some.inj h
     exact ⟨⟨[(2, ci 1)], []⟩, _, sub_gen [] rfl rfl (zall rfl rfl) trivial, resA1 (v := .c (.int .i64 1)) rfl rfl, rfl⟩
    refine SCode.cond_f rfl g118 (SCode.skip (SCode.region (sq rfl rfl (q_add rfl rfl rfl) (sm rfl rfl (SOps.nil ?_)))))
    exact ⟨(n_114, IntKind.wrap .i64 (t47_109 + 1)), h, Nat.lt_succ_self n_114, sub_gen [0] rfl rfl (zall rfl rfl) ⟨bx rfl rfl rfl, trivial⟩⟩
   refine SCode.cond_f rfl g115 (SCode.exit ?_)
   exact ⟨(), h, sub_gen [0] rfl rfl (zall rfl rfl) ⟨bx rfl rfl rfl, trivial⟩⟩
 rintro ⟨⟩ h
 show SCode _ _ _ S27 _
 try dsimp only at h
 unfold chargenetref18_Valid_p104 at h
 let S25 := (⟨[(1, .c (.ptr 0 0)), (3, ci (((a0_p.Caps).length : Int))), (4, ci (((a0_p.Parents).length : Int)))], [.box (bSProblem a0_p)]⟩ : St)
 refine SCode.join (σ := Unit) (S := fun s => S25) (g := fun s => chargenetref18_Valid_p47 F a0_p = some r) ?_ ?_
 rotate_left
 ·refine SCode.seq (SCode.region (sq rfl rfl (q_field_ptr rfl rfl fd26_1) (sq rfl rfl (q_load_ptr rfl rfl rfl rfl ty23) (sq rfl rfl (q_len_vec rfl rfl sl23) (sm rfl rfl (SOps.nil (SCode.block ?_)))))))
  let S24 := fun (t63_66 : Int) => (⟨[(1, .c (.ptr 0 0)), (3, ci (((a0_p.Caps).length : Int))), (4, ci (((a0_p.Parents).length : Int))), (61, .c (vR a0_p.Caps)), (62, ci (((a0_p.Caps).length : Int))), (63, ci t63_66)], [.box (bSProblem a0_p)]⟩ : St)
  refine SCode.sub (st' := (S24 0)) (sub_gen [0] rfl rfl (zall rfl rfl) ⟨bx rfl rfl rfl, trivial⟩) ?_
  refine (SCode.loop (σ := Nat × Int) (S := fun s => (S24 s.2)) (g := fun s => chargenetref18_Valid_l85 F a0_p s.1 s.2 = some r) (μ := fun s => s.1) (F, 0) h ?_)
  rintro ⟨n_85, t63_66⟩ h
  try dsimp only at h
  show SCode _ _ _ (S24 t63_66) _
  cases n_85 with
  | zero => cases h
  | succ n_85 =>
   rw [chargenetref18_Valid_l85] at h
   unfold chargenetref18_Valid_b85 at h
   refine SCode.seq (SCode.region (sq rfl rfl (q_lss rfl rfl rfl) (SOps.nil (SCode.seq ?_))))
   rcases cond_out h with ⟨g86, h⟩ | ⟨g86, h⟩
   ·refine SCode.cond_t rfl g86 (SCode.skip ?_)
    let S23 := (⟨[(1, .c (.ptr 0 0)), (3, ci (((a0_p.Caps).length : Int))), (4, ci (((a0_p.Parents).length : Int))), (61, .c (vR a0_p.Caps)), (62, ci (((a0_p.Caps).length : Int))), (63, ci t63_66)], [.box (bSProblem a0_p)]⟩ : St)
    refine SCode.join (σ := Unit) (S := fun s => S23) (g := fun s => chargenetref18_Valid_p87 t63_66 (fun t63_66 => chargenetref18_Valid_l85 F a0_p n_85 t63_66) = some r) ?_ ?_
    rotate_left
    ·refine SCode.block (SCode.seq ?_)
     obtain ⟨g88, h⟩ := guard_out h
     refine SCode.region (sq rfl rfl (q_index_vec rfl rfl rfl sl23 rfl g88.1 g88.2) (sq rfl rfl (q_load_eptr rfl rfl ty22) (sa rfl rfl (SOps.nil (SCode.seq (SCode.seq (SCode.region (sm rfl rfl (sq rfl rfl (q_len_vec rfl rfl sl22) (sm rfl rfl (sq rfl rfl (q_neq rfl rfl rfl) (SOps.nil ?_))))))))))))
     rcases cond_out h with ⟨g89, h⟩ | ⟨g89, h⟩
     ·refine SCode.cond_t rfl g89 (SCode.seq (SCode.region (sa rfl rfl (SOps.nil (SCode.ret ?_)))))
      obtain rfl := Option.some.inj h
      exact ⟨⟨[(2, ci 1)], []⟩, _, sub_gen [] rfl rfl (zall rfl rfl) trivial, resA1 (v := .c (.int .i64 1)) rfl rfl, rfl⟩
     refine SCode.cond_f rfl g89 (SCode.skip (SCode.seq (SCode.region (sm rfl rfl (sq rfl rfl (q_len_vec rfl rfl sl22) (sm rfl rfl (SOps.nil (SCode.block ?_))))))))
     let S22 := fun (t73_94 : Int) => (⟨[(1, .c (.ptr 0 0)), (3, ci (((a0_p.Caps).length : Int))), (4, ci (((a0_p.Parents).length : Int))), (61, .c (vR a0_p.Caps)), (62, ci (((a0_p.Caps).length : Int))), (63, ci t63_66), (71, .c (vI (a0_p.Caps.getD t63_66.toNat ([])))), (72, ci (((a0_p.Caps.getD t63_66.toNat ([])).length : Int))), (73, ci t73_94)], [.box (bSProblem a0_p)]⟩ : St)
     refine SCode.sub (st' := (S22 0)) (sub_gen [0] rfl rfl (zall rfl rfl) ⟨bx rfl rfl rfl, trivial⟩) ?_
     refine (SCode.loop (σ := Nat × Int) (S := fun s => (S22 s.2)) (g := fun s => chargenetref18_Valid_l99 a0_p t63_66 (fun t63_66 => chargenetref18_Valid_l85 F a0_p n_85 t63_66) s.1 s.2 = some r) (μ := fun s => s.1) (F, 0) h ?_)
     rintro ⟨n_99, t73_94⟩ h
     try dsimp only at h
     show SCode _ _ _ (S22 t73_94) _
     cases n_99 with
     | zero => cases h
     | succ n_99 =>
      rw [chargenetref18_Valid_l99] at h
      unfold chargenetref18_Valid_b99 at h
      refine SCode.seq (SCode.region (sq rfl rfl (q_lss rfl rfl rfl) (SOps.nil (SCode.seq ?_))))
      rcases cond_out h with ⟨g100, h⟩ | ⟨g100, h⟩
      ·refine SCode.cond_t rfl g100 (SCode.skip (SCode.seq (SCode.block (SCode.seq ?_))))
       obtain ⟨g101, h⟩ := guard_out h
       refine SCode.region (sq rfl rfl (q_index_vec rfl rfl rfl sl22 rfl g101.1 g101.2) (sq rfl rfl (q_load_eptr rfl rfl ty3) (sa rfl rfl (SOps.nil (SCode.seq ?_)))))
       rcases cond_out h with ⟨g102, h⟩ | ⟨g102, h⟩
       ·refine SCode.region (sm rfl rfl (sq rfl rfl (q_lss rfl rfl rfl) (sm rfl rfl (SOps.skip rfl 2 79 false rfl rfl (.inl (gT g102)) rfl (SOps.skip rfl 2 79 false rfl rfl (.inl (gT g102)) rfl (sq rfl rfl (q_pick_t rfl rfl g102 rfl) (SOps.nil (SCode.cond_t rfl rfl (SCode.seq (SCode.region (sa rfl rfl (SOps.nil (SCode.ret ?_)))))))))))))
        obtain rfl := Option.some.inj h
        exact ⟨⟨[(2, ci 1)], []⟩, _, sub_gen [] rfl rfl (zall rfl rfl) trivial, resA1 (v := .c (.int .i64 1)) rfl rfl, rfl⟩
       refine SCode.region (sm rfl rfl (sq rfl rfl (q_lss rfl rfl rfl) (sm rfl rfl (SOps.q rfl (.guard 2 79 false rfl rfl (gF g102)) rfl (q_move rfl rfl) (SOps.q rfl (.guard 2 79 false rfl rfl (gF g102)) rfl (q_gtr rfl rfl rfl) (sq rfl rfl (q_pick_f rfl rfl g102 rfl) (SOps.nil ?_)))))))
       rcases cond_out h with ⟨g103, h⟩ | ⟨g103, h⟩
       ·refine SCode.cond_t rfl g103 (SCode.seq (SCode.region (sa rfl rfl (SOps.nil (SCode.ret ?_)))))
        obtain rfl := Option.some.inj h
        exact ⟨⟨[(2, ci 1)], []⟩, _, sub_gen [] rfl rfl (zall rfl rfl) trivial, resA1 (v := .c (.int .i64 1)) rfl rfl, rfl⟩
       refine SCode.cond_f rfl g103 (SCode.skip (SCode.region (sq rfl rfl (q_add rfl rfl rfl) (sm rfl rfl (SOps.nil ?_)))))
       exact ⟨(n_99, IntKind.wrap .i64 (t73_94 + 1)), h, Nat.lt_succ_self n_99, sub_gen [0] rfl rfl (zall rfl rfl) ⟨bx rfl rfl rfl, trivial⟩⟩
      refine SCode.cond_f rfl g100 (SCode.exit ?_)
      exact ⟨(), h, sub_gen [0] rfl rfl (zall rfl rfl) ⟨bx rfl rfl rfl, trivial⟩⟩
    rintro ⟨⟩ h
    show SCode _ _ _ S23 _
    try dsimp only at h
    unfold chargenetref18_Valid_p87 at h
    refine SCode.region (sq rfl rfl (q_add rfl rfl rfl) (sm rfl rfl (SOps.nil ?_)))
    exact ⟨(n_85, IntKind.wrap .i64 (t63_66 + 1)), h, Nat.lt_succ_self n_85, sub_gen [0] rfl rfl (zall rfl rfl) ⟨bx rfl rfl rfl, trivial⟩⟩
   refine SCode.cond_f rfl g86 (SCode.exit ?_)
   exact ⟨(), h, sub_gen [0] rfl rfl (zall rfl rfl) ⟨bx rfl rfl rfl, trivial⟩⟩
 rintro ⟨⟩ h
 show SCode _ _ _ S25 _
 try dsimp only at h
 unfold chargenetref18_Valid_p47 at h
 refine SCode.seq (SCode.seq ?_)
 rcases cond_out h with ⟨g6, h⟩ | ⟨g6, h⟩
 ·refine SCode.region (sq rfl rfl (q_field_ptr rfl rfl fd26_2) (sq rfl rfl (q_load_ptr rfl rfl rfl rfl ty3) (sq rfl rfl (q_lss rfl rfl rfl) (sm rfl rfl (SOps.skip rfl 3 88 false rfl rfl (.inl (gT g6)) rfl (SOps.skip rfl 3 88 false rfl rfl (.inl (gT g6)) rfl (SOps.skip rfl 3 88 false rfl rfl (.inl (gT g6)) rfl (sq rfl rfl (q_pick_t rfl rfl g6 rfl) (sm rfl rfl (SOps.skip rfl 8 93 false rfl rfl (.inl rfl) rfl (SOps.skip rfl 8 93 false rfl rfl (.inl rfl) rfl (SOps.skip rfl 8 93 false rfl rfl (.inl rfl) rfl (sq rfl rfl (q_pick_t rfl rfl rfl rfl) (sm rfl rfl (SOps.skip rfl 13 98 false rfl rfl (.inl rfl) rfl ?_)))))))))))))))
  refine SOps.skip rfl 13 98 false rfl rfl (.inl rfl) rfl (SOps.skip rfl 13 98 false rfl rfl (.inl rfl) rfl (sq rfl rfl (q_pick_t rfl rfl rfl rfl) (sm rfl rfl (SOps.skip rfl 18 103 false rfl rfl (.inl rfl) rfl (SOps.skip rfl 18 103 false rfl rfl (.inl rfl) rfl (SOps.skip rfl 18 103 false rfl rfl (.inl rfl) rfl (SOps.skip rfl 18 103 false rfl rfl (.inl rfl) rfl (SOps.skip rfl 18 103 false rfl rfl (.inl rfl) rfl (SOps.skip rfl 18 103 false rfl rfl (.inl rfl) rfl (SOps.skip rfl 18 103 false rfl rfl (.inl rfl) rfl (SOps.skip rfl 18 103 false rfl rfl (.inl rfl) rfl (sq rfl rfl (q_pick_t rfl rfl rfl rfl) (SOps.sub (st' := ⟨[(1, .c (.ptr 0 0)), (4, ci (((a0_p.Parents).length : Int))), (112, .c (.bool true))], [.box (bSProblem a0_p)]⟩) (sub_gen [0] rfl rfl (zall rfl rfl) ⟨bx rfl rfl rfl, trivial⟩) (SOps.nil (SCode.cond_t rfl rfl ?_)))))))))))))))
  refine SCode.seq (SCode.region (sa rfl rfl (SOps.nil (SCode.ret ?_))))
  obtain rfl := Option.some.inj h
  exact ⟨⟨[(2, ci 2)], []⟩, _, sub_gen [] rfl rfl (zall rfl rfl) trivial, resA1 (v := .c (.int .i64 2)) rfl rfl, rfl⟩
 rcases cond_out h with ⟨g7, h⟩ | ⟨g7, h⟩
 ·refine SCode.region (sq rfl rfl (q_field_ptr rfl rfl fd26_2) (sq rfl rfl (q_load_ptr rfl rfl rfl rfl ty3) (sq rfl rfl (q_lss rfl rfl rfl) (sm rfl rfl (SOps.q rfl (.guard 3 88 false rfl rfl (gF g6)) rfl (q_field_ptr rfl rfl fd26_2) (SOps.q rfl (.guard 3 88 false rfl rfl (gF g6)) rfl (q_load_ptr rfl rfl rfl rfl ty3) (SOps.q rfl (.guard 3 88 false rfl rfl (gF g6)) rfl (q_gtr rfl rfl rfl) (sq rfl rfl (q_pick_f rfl rfl g6 rfl) (sm rfl rfl (SOps.skip rfl 8 93 false rfl rfl (.inl (gT g7)) rfl (SOps.skip rfl 8 93 false rfl rfl (.inl (gT g7)) rfl (SOps.skip rfl 8 93 false rfl rfl (.inl (gT g7)) rfl (sq rfl rfl (q_pick_t rfl rfl g7 rfl) (sm rfl rfl (SOps.skip rfl 13 98 false rfl rfl (.inl rfl) rfl ?_)))))))))))))))
  refine SOps.skip rfl 13 98 false rfl rfl (.inl rfl) rfl (SOps.skip rfl 13 98 false rfl rfl (.inl rfl) rfl (sq rfl rfl (q_pick_t rfl rfl rfl rfl) (sm rfl rfl (SOps.skip rfl 18 103 false rfl rfl (.inl rfl) rfl (SOps.skip rfl 18 103 false rfl rfl (.inl rfl) rfl (SOps.skip rfl 18 103 false rfl rfl (.inl rfl) rfl (SOps.skip rfl 18 103 false rfl rfl (.inl rfl) rfl (SOps.skip rfl 18 103 false rfl rfl (.inl rfl) rfl (SOps.skip rfl 18 103 false rfl rfl (.inl rfl) rfl (SOps.skip rfl 18 103 false rfl rfl (.inl rfl) rfl (SOps.skip rfl 18 103 false rfl rfl (.inl rfl) rfl (sq rfl rfl (q_pick_t rfl rfl rfl rfl) (SOps.sub (st' := ⟨[(1, .c (.ptr 0 0)), (4, ci (((a0_p.Parents).length : Int))), (112, .c (.bool true))], [.box (bSProblem a0_p)]⟩) (sub_gen [0] rfl rfl (zall rfl rfl) ⟨bx rfl rfl rfl, trivial⟩) (SOps.nil (SCode.cond_t rfl rfl ?_)))))))))))))))
  refine SCode.seq (SCode.region (sa rfl rfl (SOps.nil (SCode.ret ?_))))
  obtain rfl := Option.some.inj h
  exact ⟨⟨[(2, ci 2)], []⟩, _, sub_gen [] rfl rfl (zall rfl rfl) trivial, resA1 (v := .c (.int .i64 2)) rfl rfl, rfl⟩
 rcases cond_out h with ⟨g8, h⟩ | ⟨g8, h⟩
 ·refine SCode.region (sq rfl rfl (q_field_ptr rfl rfl fd26_2) (sq rfl rfl (q_load_ptr rfl rfl rfl rfl ty3) (sq rfl rfl (q_lss rfl rfl rfl) (sm rfl rfl (SOps.q rfl (.guard 3 88 false rfl rfl (gF g6)) rfl (q_field_ptr rfl rfl fd26_2) (SOps.q rfl (.guard 3 88 false rfl rfl (gF g6)) rfl (q_load_ptr rfl rfl rfl rfl ty3) (SOps.q rfl (.guard 3 88 false rfl rfl (gF g6)) rfl (q_gtr rfl rfl rfl) (sq rfl rfl (q_pick_f rfl rfl g6 rfl) (sm rfl rfl (SOps.q rfl (.guard 8 93 false rfl rfl (gF g7)) rfl (q_field_ptr rfl rfl fd26_3) (SOps.q rfl (.guard 8 93 false rfl rfl (gF g7)) rfl (q_load_ptr rfl rfl rfl rfl ty3) (SOps.q rfl (.guard 8 93 false rfl rfl (gF g7)) rfl (q_lss rfl rfl rfl) (sq rfl rfl (q_pick_f rfl rfl g7 rfl) (sm rfl rfl (SOps.skip rfl 13 98 false rfl rfl (.inl (gT g8)) rfl ?_)))))))))))))))
  refine SOps.skip rfl 13 98 false rfl rfl (.inl (gT g8)) rfl (SOps.skip rfl 13 98 false rfl rfl (.inl (gT g8)) rfl (sq rfl rfl (q_pick_t rfl rfl g8 rfl) (sm rfl rfl (SOps.skip rfl 18 103 false rfl rfl (.inl rfl) rfl (SOps.skip rfl 18 103 false rfl rfl (.inl rfl) rfl (SOps.skip rfl 18 103 false rfl rfl (.inl rfl) rfl (SOps.skip rfl 18 103 false rfl rfl (.inl rfl) rfl (SOps.skip rfl 18 103 false rfl rfl (.inl rfl) rfl (SOps.skip rfl 18 103 false rfl rfl (.inl rfl) rfl (SOps.skip rfl 18 103 false rfl rfl (.inl rfl) rfl (SOps.skip rfl 18 103 false rfl rfl (.inl rfl) rfl (sq rfl rfl (q_pick_t rfl rfl rfl rfl) (SOps.sub (st' := ⟨[(1, .c (.ptr 0 0)), (4, ci (((a0_p.Parents).length : Int))), (112, .c (.bool true))], [.box (bSProblem a0_p)]⟩) (sub_gen [0] rfl rfl (zall rfl rfl) ⟨bx rfl rfl rfl, trivial⟩) (SOps.nil (SCode.cond_t rfl rfl ?_)))))))))))))))
  refine SCode.seq (SCode.region (sa rfl rfl (SOps.nil (SCode.ret ?_))))
  obtain rfl := Option.some.inj h
  exact ⟨⟨[(2, ci 2)], []⟩, _, sub_gen [] rfl rfl (zall rfl rfl) trivial, resA1 (v := .c (.int .i64 2)) rfl rfl, rfl⟩
 rcases cond_out h with ⟨g9, h⟩ | ⟨g9, h⟩
 ·refine SCode.region (sq rfl rfl (q_field_ptr rfl rfl fd26_2) (sq rfl rfl (q_load_ptr rfl rfl rfl rfl ty3) (sq rfl rfl (q_lss rfl rfl rfl) (sm rfl rfl (SOps.q rfl (.guard 3 88 false rfl rfl (gF g6)) rfl (q_field_ptr rfl rfl fd26_2) (SOps.q rfl (.guard 3 88 false rfl rfl (gF g6)) rfl (q_load_ptr rfl rfl rfl rfl ty3) (SOps.q rfl (.guard 3 88 false rfl rfl (gF g6)) rfl (q_gtr rfl rfl rfl) (sq rfl rfl (q_pick_f rfl rfl g6 rfl) (sm rfl rfl (SOps.q rfl (.guard 8 93 false rfl rfl (gF g7)) rfl (q_field_ptr rfl rfl fd26_3) (SOps.q rfl (.guard 8 93 false rfl rfl (gF g7)) rfl (q_load_ptr rfl rfl rfl rfl ty3) (SOps.q rfl (.guard 8 93 false rfl rfl (gF g7)) rfl (q_lss rfl rfl rfl) (sq rfl rfl (q_pick_f rfl rfl g7 rfl) (sm rfl rfl (SOps.q rfl (.guard 13 98 false rfl rfl (gF g8)) rfl (q_field_ptr rfl rfl fd26_3) ?_)))))))))))))))
  refine SOps.q rfl (.guard 13 98 false rfl rfl (gF g8)) rfl (q_load_ptr rfl rfl rfl rfl ty3) (SOps.q rfl (.guard 13 98 false rfl rfl (gF g8)) rfl (q_gtr rfl rfl rfl) (sq rfl rfl (q_pick_f rfl rfl g8 rfl) (sm rfl rfl (SOps.skip rfl 18 103 false rfl rfl (.inl (gT g9)) rfl (SOps.skip rfl 18 103 false rfl rfl (.inl (gT g9)) rfl (SOps.skip rfl 18 103 false rfl rfl (.inl (gT g9)) rfl (SOps.skip rfl 18 103 false rfl rfl (.inl (gT g9)) rfl (SOps.skip rfl 18 103 false rfl rfl (.inl (gT g9)) rfl (SOps.skip rfl 18 103 false rfl rfl (.inl (gT g9)) rfl (SOps.skip rfl 18 103 false rfl rfl (.inl (gT g9)) rfl (SOps.skip rfl 18 103 false rfl rfl (.inl (gT g9)) rfl (sq rfl rfl (q_pick_t rfl rfl g9 rfl) (SOps.sub (st' := ⟨[(1, .c (.ptr 0 0)), (4, ci (((a0_p.Parents).length : Int))), (112, .c (.bool true))], [.box (bSProblem a0_p)]⟩) (sub_gen [0] rfl rfl (zall rfl rfl) ⟨bx rfl rfl rfl, trivial⟩) (SOps.nil (SCode.cond_t rfl rfl ?_)))))))))))))))
  refine SCode.seq (SCode.region (sa rfl rfl (SOps.nil (SCode.ret ?_))))
  obtain rfl := Option.some.inj h
  exact ⟨⟨[(2, ci 2)], []⟩, _, sub_gen [] rfl rfl (zall rfl rfl) trivial, resA1 (v := .c (.int .i64 2)) rfl rfl, rfl⟩
 refine SCode.region (sq rfl rfl (q_field_ptr rfl rfl fd26_2) (sq rfl rfl (q_load_ptr rfl rfl rfl rfl ty3) (sq rfl rfl (q_lss rfl rfl rfl) (sm rfl rfl (SOps.q rfl (.guard 3 88 false rfl rfl (gF g6)) rfl (q_field_ptr rfl rfl fd26_2) (SOps.q rfl (.guard 3 88 false rfl rfl (gF g6)) rfl (q_load_ptr rfl rfl rfl rfl ty3) (SOps.q rfl (.guard 3 88 false rfl rfl (gF g6)) rfl (q_gtr rfl rfl rfl) (sq rfl rfl (q_pick_f rfl rfl g6 rfl) (sm rfl rfl (SOps.q rfl (.guard 8 93 false rfl rfl (gF g7)) rfl (q_field_ptr rfl rfl fd26_3) (SOps.q rfl (.guard 8 93 false rfl rfl (gF g7)) rfl (q_load_ptr rfl rfl rfl rfl ty3) (SOps.q rfl (.guard 8 93 false rfl rfl (gF g7)) rfl (q_lss rfl rfl rfl) (sq rfl rfl (q_pick_f rfl rfl g7 rfl) (sm rfl rfl (SOps.q rfl (.guard 13 98 false rfl rfl (gF g8)) rfl (q_field_ptr rfl rfl fd26_3) ?_)))))))))))))))
 refine SOps.q rfl (.guard 13 98 false rfl rfl (gF g8)) rfl (q_load_ptr rfl rfl rfl rfl ty3) (SOps.q rfl (.guard 13 98 false rfl rfl (gF g8)) rfl (q_gtr rfl rfl rfl) (sq rfl rfl (q_pick_f rfl rfl g8 rfl) (sm rfl rfl (SOps.q rfl (.guard 18 103 false rfl rfl (gF g9)) rfl (q_field_ptr rfl rfl fd26_2) (SOps.q rfl (.guard 18 103 false rfl rfl (gF g9)) rfl (q_load_ptr rfl rfl rfl rfl ty3) (SOps.q rfl (.guard 18 103 false rfl rfl (gF g9)) rfl (q_move rfl rfl) (SOps.q rfl (.guard 18 103 false rfl rfl (gF g9)) rfl (q_field_ptr rfl rfl fd26_3) (SOps.q rfl (.guard 18 103 false rfl rfl (gF g9)) rfl (q_load_ptr rfl rfl rfl rfl ty3) (SOps.q rfl (.guard 18 103 false rfl rfl (gF g9)) rfl (q_mul rfl rfl rfl) (SOps.q rfl (.guard 18 103 false rfl rfl (gF g9)) rfl (q_add rfl rfl rfl) (SOps.q rfl (.guard 18 103 false rfl rfl (gF g9)) rfl (q_gtr rfl rfl rfl) (sq rfl rfl (q_pick_f rfl rfl g9 rfl) (SOps.sub (st' := ⟨[(1, .c (.ptr 0 0)), (4, ci (((a0_p.Parents).length : Int))), (112, .c (.bool (decide (268435456 < IntKind.wrap .i64 (a0_p.From + IntKind.wrap .i64 (((a0_p.Caps).length : Int) * a0_p.Length))))))], [.box (bSProblem a0_p)]⟩) (sub_gen [0] rfl rfl (zall rfl rfl) ⟨bx rfl rfl rfl, trivial⟩) (SOps.nil ?_))))))))))))))
 rcases cond_out h with ⟨g10, h⟩ | ⟨g10, h⟩
 ·refine SCode.cond_t rfl g10 (SCode.seq (SCode.region (sa rfl rfl (SOps.nil (SCode.ret ?_)))))
  obtain rfl := Option.some.inj h
  exact ⟨⟨[(2, ci 2)], []⟩, _, sub_gen [] rfl rfl (zall rfl rfl) trivial, resA1 (v := .c (.int .i64 2)) rfl rfl, rfl⟩
 refine SCode.cond_f rfl g10 (SCode.skip ?_)
 let S14 := (⟨[], []⟩ : St)
 refine SCode.join (σ := Unit) (S := fun s => S14) (g := fun s => chargenetref18_Valid_p11 = some r) ?_ ?_
 rotate_left
 ·refine SCode.seq (SCode.region (sq rfl rfl (q_field_ptr rfl rfl fd26_4) (sq rfl rfl (q_load_ptr rfl rfl rfl rfl ty24) (sq rfl rfl (q_len_vec rfl rfl sl24) (sm rfl rfl (SOps.nil (SCode.block ?_)))))))
  let S13 := fun (t116_23 : Int) => (⟨[(4, ci (((a0_p.Parents).length : Int))), (114, .c (vSDemand a0_p.Demands)), (115, ci (((a0_p.Demands).length : Int))), (116, ci t116_23)], []⟩ : St)
  refine SCode.sub (st' := (S13 0)) (sub_gen [] rfl rfl (zall rfl rfl) trivial) ?_
  refine (SCode.loop (σ := Nat × Int) (S := fun s => (S13 s.2)) (g := fun s => chargenetref18_Valid_l35 a0_p s.1 s.2 = some r) (μ := fun s => s.1) (F, 0) h ?_)
  rintro ⟨n_35, t116_23⟩ h
  try dsimp only at h
  show SCode _ _ _ (S13 t116_23) _
  cases n_35 with
  | zero => cases h
  | succ n_35 =>
   rw [chargenetref18_Valid_l35] at h
   unfold chargenetref18_Valid_b35 at h
   refine SCode.seq (SCode.region (sq rfl rfl (q_lss rfl rfl rfl) (SOps.nil (SCode.seq ?_))))
   rcases cond_out h with ⟨g36, h⟩ | ⟨g36, h⟩
   ·refine SCode.cond_t rfl g36 (SCode.skip (SCode.seq (SCode.block (SCode.seq ?_))))
    obtain ⟨g37, h⟩ := guard_out h
    refine SCode.region (sq rfl rfl (q_index_vec rfl rfl rfl sl24 rfl g37.1 g37.2) (sq rfl rfl (q_load_eptr_all rfl rfl rfl ty39) (se rfl rfl (e_alloc rfl rfl rfl z39) (se rfl rfl (e_store_box rfl rfl rfl rfl rfl ty39 rfl rfl rfl rfl) (SOps.nil (SCode.seq (SCode.seq ?_)))))))
    rcases cond_out h with ⟨g38, h⟩ | ⟨g38, h⟩
    ·refine SCode.region (sq rfl rfl (q_field_ptr rfl rfl fd39_0) (sq rfl rfl (q_load_ptr rfl rfl rfl rfl ty3) (sq rfl rfl (q_lss rfl rfl rfl) (sm rfl rfl (SOps.skip rfl 3 123 false rfl rfl (.inl (gT g38)) rfl (SOps.skip rfl 3 123 false rfl rfl (.inl (gT g38)) rfl (SOps.skip rfl 3 123 false rfl rfl (.inl (gT g38)) rfl (SOps.skip rfl 3 123 false rfl rfl (.inl (gT g38)) rfl (sq rfl rfl (q_pick_t rfl rfl g38 rfl) (SOps.nil (SCode.cond_t rfl rfl (SCode.seq (SCode.region (sa rfl rfl (SOps.nil ?_)))))))))))))))
     refine SCode.ret ?_
     obtain rfl := Option.some.inj h
     exact ⟨⟨[(2, ci 1)], []⟩, _, sub_gen [] rfl rfl (zall rfl rfl) trivial, resA1 (v := .c (.int .i64 1)) rfl rfl, rfl⟩
    refine SCode.region (sq rfl rfl (q_field_ptr rfl rfl fd39_0) (sq rfl rfl (q_load_ptr rfl rfl rfl rfl ty3) (sq rfl rfl (q_lss rfl rfl rfl) (sm rfl rfl (SOps.q rfl (.guard 3 123 false rfl rfl (gF g38)) rfl (q_field_ptr rfl rfl fd39_0) (SOps.q rfl (.guard 3 123 false rfl rfl (gF g38)) rfl (q_load_ptr rfl rfl rfl rfl ty3) (SOps.q rfl (.guard 3 123 false rfl rfl (gF g38)) rfl (q_move rfl rfl) (SOps.q rfl (.guard 3 123 false rfl rfl (gF g38)) rfl (q_geq rfl rfl rfl) (sq rfl rfl (q_pick_f rfl rfl g38 rfl) (SOps.nil ?_))))))))))
    rcases cond_out h with ⟨g39, h⟩ | ⟨g39, h⟩
    ·refine SCode.cond_t rfl g39 (SCode.seq (SCode.region (sa rfl rfl (SOps.nil (SCode.ret ?_)))))
     obtain rfl := Option.some.inj h
     exact ⟨⟨[(2, ci 1)], []⟩, _, sub_gen [] rfl rfl (zall rfl rfl) trivial, resA1 (v := .c (.int .i64 1)) rfl rfl, rfl⟩
    refine SCode.cond_f rfl g39 (SCode.skip (SCode.seq ?_))
    rcases cond_out h with ⟨g40, h⟩ | ⟨g40, h⟩
    ·refine SCode.region (sq rfl rfl (q_field_ptr rfl rfl fd39_1) (sq rfl rfl (q_load_ptr rfl rfl rfl rfl ty3) (sq rfl rfl (q_lss rfl rfl rfl) (sm rfl rfl (SOps.skip rfl 3 132 false rfl rfl (.inl (gT g40)) rfl (SOps.skip rfl 3 132 false rfl rfl (.inl (gT g40)) rfl (SOps.skip rfl 3 132 false rfl rfl (.inl (gT g40)) rfl (sq rfl rfl (q_pick_t rfl rfl g40 rfl) (sm rfl rfl (SOps.skip rfl 8 137 false rfl rfl (.inl rfl) rfl (SOps.skip rfl 8 137 false rfl rfl (.inl rfl) rfl (SOps.skip rfl 8 137 false rfl rfl (.inl rfl) rfl (sq rfl rfl (q_pick_t rfl rfl rfl rfl) (sm rfl rfl (SOps.skip rfl 13 142 false rfl rfl (.inl rfl) rfl ?_)))))))))))))))
     refine SOps.skip rfl 13 142 false rfl rfl (.inl rfl) rfl (SOps.skip rfl 13 142 false rfl rfl (.inl rfl) rfl (sq rfl rfl (q_pick_t rfl rfl rfl rfl) (sm rfl rfl (SOps.skip rfl 18 147 false rfl rfl (.inl rfl) rfl (SOps.skip rfl 18 147 false rfl rfl (.inl rfl) rfl (SOps.skip rfl 18 147 false rfl rfl (.inl rfl) rfl (sq rfl rfl (q_pick_t rfl rfl rfl rfl) (sm rfl rfl (SOps.skip rfl 23 152 false rfl rfl (.inl rfl) rfl (SOps.skip rfl 23 152 false rfl rfl (.inl rfl) rfl (SOps.skip rfl 23 152 false rfl rfl (.inl rfl) rfl (SOps.skip rfl 23 152 false rfl rfl (.inl rfl) rfl (SOps.skip rfl 23 152 false rfl rfl (.inl rfl) rfl (sq rfl rfl (q_pick_t rfl rfl rfl rfl) (sm rfl rfl ?_)))))))))))))))
     refine SOps.skip rfl 30 159 false rfl rfl (.inl rfl) rfl (SOps.skip rfl 30 159 false rfl rfl (.inl rfl) rfl (SOps.skip rfl 30 159 false rfl rfl (.inl rfl) rfl (sq rfl rfl (q_pick_t rfl rfl rfl rfl) (SOps.sub (st' := ⟨[(4, ci (((a0_p.Parents).length : Int))), (114, .c (vSDemand a0_p.Demands)), (115, ci (((a0_p.Demands).length : Int))), (116, ci t116_23), (163, .c (.bool true))], []⟩) (sub_gen [] rfl rfl (zall rfl rfl) trivial) (SOps.nil (SCode.cond_t rfl rfl (SCode.seq (SCode.region (sa rfl rfl (SOps.nil (SCode.ret ?_)))))))))))
     obtain rfl := Option.some.inj h
     exact ⟨⟨[(2, ci 2)], []⟩, _, sub_gen [] rfl rfl (zall rfl rfl) trivial, resA1 (v := .c (.int .i64 2)) rfl rfl, rfl⟩
    rcases cond_out h with ⟨g41, h⟩ | ⟨g41, h⟩
    ·refine SCode.region (sq rfl rfl (q_field_ptr rfl rfl fd39_1) (sq rfl rfl (q_load_ptr rfl rfl rfl rfl ty3) (sq rfl rfl (q_lss rfl rfl rfl) (sm rfl rfl (SOps.q rfl (.guard 3 132 false rfl rfl (gF g40)) rfl (q_field_ptr rfl rfl fd39_1) (SOps.q rfl (.guard 3 132 false rfl rfl (gF g40)) rfl (q_load_ptr rfl rfl rfl rfl ty3) (SOps.q rfl (.guard 3 132 false rfl rfl (gF g40)) rfl (q_gtr rfl rfl rfl) (sq rfl rfl (q_pick_f rfl rfl g40 rfl) (sm rfl rfl (SOps.skip rfl 8 137 false rfl rfl (.inl (gT g41)) rfl (SOps.skip rfl 8 137 false rfl rfl (.inl (gT g41)) rfl (SOps.skip rfl 8 137 false rfl rfl (.inl (gT g41)) rfl (sq rfl rfl (q_pick_t rfl rfl g41 rfl) (sm rfl rfl (SOps.skip rfl 13 142 false rfl rfl (.inl rfl) rfl ?_)))))))))))))))
     refine SOps.skip rfl 13 142 false rfl rfl (.inl rfl) rfl (SOps.skip rfl 13 142 false rfl rfl (.inl rfl) rfl (sq rfl rfl (q_pick_t rfl rfl rfl rfl) (sm rfl rfl (SOps.skip rfl 18 147 false rfl rfl (.inl rfl) rfl (SOps.skip rfl 18 147 false rfl rfl (.inl rfl) rfl (SOps.skip rfl 18 147 false rfl rfl (.inl rfl) rfl (sq rfl rfl (q_pick_t rfl rfl rfl rfl) (sm rfl rfl (SOps.skip rfl 23 152 false rfl rfl (.inl rfl) rfl (SOps.skip rfl 23 152 false rfl rfl (.inl rfl) rfl (SOps.skip rfl 23 152 false rfl rfl (.inl rfl) rfl (SOps.skip rfl 23 152 false rfl rfl (.inl rfl) rfl (SOps.skip rfl 23 152 false rfl rfl (.inl rfl) rfl (sq rfl rfl (q_pick_t rfl rfl rfl rfl) (sm rfl rfl ?_)))))))))))))))
     refine SOps.skip rfl 30 159 false rfl rfl (.inl rfl) rfl (SOps.skip rfl 30 159 false rfl rfl (.inl rfl) rfl (SOps.skip rfl 30 159 false rfl rfl (.inl rfl) rfl (sq rfl rfl (q_pick_t rfl rfl rfl rfl) (SOps.sub (st' := ⟨[(4, ci (((a0_p.Parents).length : Int))), (114, .c (vSDemand a0_p.Demands)), (115, ci (((a0_p.Demands).length : Int))), (116, ci t116_23), (163, .c (.bool true))], []⟩) (sub_gen [] rfl rfl (zall rfl rfl) trivial) (SOps.nil (SCode.cond_t rfl rfl (SCode.seq (SCode.region (sa rfl rfl (SOps.nil (SCode.ret ?_)))))))))))
     obtain rfl := Option.some.inj h
     exact ⟨⟨[(2, ci 2)], []⟩, _, sub_gen [] rfl rfl (zall rfl rfl) trivial, resA1 (v := .c (.int .i64 2)) rfl rfl, rfl⟩
    rcases cond_out h with ⟨g42, h⟩ | ⟨g42, h⟩
    ·refine SCode.region (sq rfl rfl (q_field_ptr rfl rfl fd39_1) (sq rfl rfl (q_load_ptr rfl rfl rfl rfl ty3) (sq rfl rfl (q_lss rfl rfl rfl) (sm rfl rfl (SOps.q rfl (.guard 3 132 false rfl rfl (gF g40)) rfl (q_field_ptr rfl rfl fd39_1) (SOps.q rfl (.guard 3 132 false rfl rfl (gF g40)) rfl (q_load_ptr rfl rfl rfl rfl ty3) (SOps.q rfl (.guard 3 132 false rfl rfl (gF g40)) rfl (q_gtr rfl rfl rfl) (sq rfl rfl (q_pick_f rfl rfl g40 rfl) (sm rfl rfl (SOps.q rfl (.guard 8 137 false rfl rfl (gF g41)) rfl (q_field_ptr rfl rfl fd39_2) (SOps.q rfl (.guard 8 137 false rfl rfl (gF g41)) rfl (q_load_ptr rfl rfl rfl rfl ty3) (SOps.q rfl (.guard 8 137 false rfl rfl (gF g41)) rfl (q_lss rfl rfl rfl) (sq rfl rfl (q_pick_f rfl rfl g41 rfl) (sm rfl rfl (SOps.skip rfl 13 142 false rfl rfl (.inl (gT g42)) rfl ?_)))))))))))))))
     refine SOps.skip rfl 13 142 false rfl rfl (.inl (gT g42)) rfl (SOps.skip rfl 13 142 false rfl rfl (.inl (gT g42)) rfl (sq rfl rfl (q_pick_t rfl rfl g42 rfl) (sm rfl rfl (SOps.skip rfl 18 147 false rfl rfl (.inl rfl) rfl (SOps.skip rfl 18 147 false rfl rfl (.inl rfl) rfl (SOps.skip rfl 18 147 false rfl rfl (.inl rfl) rfl (sq rfl rfl (q_pick_t rfl rfl rfl rfl) (sm rfl rfl (SOps.skip rfl 23 152 false rfl rfl (.inl rfl) rfl (SOps.skip rfl 23 152 false rfl rfl (.inl rfl) rfl (SOps.skip rfl 23 152 false rfl rfl (.inl rfl) rfl (SOps.skip rfl 23 152 false rfl rfl (.inl rfl) rfl (SOps.skip rfl 23 152 false rfl rfl (.inl rfl) rfl (sq rfl rfl (q_pick_t rfl rfl rfl rfl) (sm rfl rfl ?_)))))))))))))))
     refine SOps.skip rfl 30 159 false rfl rfl (.inl rfl) rfl (SOps.skip rfl 30 159 false rfl rfl (.inl rfl) rfl (SOps.skip rfl 30 159 false rfl rfl (.inl rfl) rfl (sq rfl rfl (q_pick_t rfl rfl rfl rfl) (SOps.sub (st' := ⟨[(4, ci (((a0_p.Parents).length : Int))), (114, .c (vSDemand a0_p.Demands)), (115, ci (((a0_p.Demands).length : Int))), (116, ci t116_23), (163, .c (.bool true))], []⟩) (sub_gen [] rfl rfl (zall rfl rfl) trivial) (SOps.nil (SCode.cond_t rfl rfl (SCode.seq (SCode.region (sa rfl rfl (SOps.nil (SCode.ret ?_)))))))))))
     obtain rfl := Option.some.inj h
     exact ⟨⟨[(2, ci 2)], []⟩, _, sub_gen [] rfl rfl (zall rfl rfl) trivial, resA1 (v := .c (.int .i64 2)) rfl rfl, rfl⟩
    rcases cond_out h with ⟨g43, h⟩ | ⟨g43, h⟩
    ·refine SCode.region (sq rfl rfl (q_field_ptr rfl rfl fd39_1) (sq rfl rfl (q_load_ptr rfl rfl rfl rfl ty3) (sq rfl rfl (q_lss rfl rfl rfl) (sm rfl rfl (SOps.q rfl (.guard 3 132 false rfl rfl (gF g40)) rfl (q_field_ptr rfl rfl fd39_1) (SOps.q rfl (.guard 3 132 false rfl rfl (gF g40)) rfl (q_load_ptr rfl rfl rfl rfl ty3) (SOps.q rfl (.guard 3 132 false rfl rfl (gF g40)) rfl (q_gtr rfl rfl rfl) (sq rfl rfl (q_pick_f rfl rfl g40 rfl) (sm rfl rfl (SOps.q rfl (.guard 8 137 false rfl rfl (gF g41)) rfl (q_field_ptr rfl rfl fd39_2) (SOps.q rfl (.guard 8 137 false rfl rfl (gF g41)) rfl (q_load_ptr rfl rfl rfl rfl ty3) (SOps.q rfl (.guard 8 137 false rfl rfl (gF g41)) rfl (q_lss rfl rfl rfl) (sq rfl rfl (q_pick_f rfl rfl g41 rfl) (sm rfl rfl (SOps.q rfl (.guard 13 142 false rfl rfl (gF g42)) rfl (q_field_ptr rfl rfl fd39_2) ?_)))))))))))))))
     refine SOps.q rfl (.guard 13 142 false rfl rfl (gF g42)) rfl (q_load_ptr rfl rfl rfl rfl ty3) (SOps.q rfl (.guard 13 142 false rfl rfl (gF g42)) rfl (q_gtr rfl rfl rfl) (sq rfl rfl (q_pick_f rfl rfl g42 rfl) (sm rfl rfl (SOps.skip rfl 18 147 false rfl rfl (.inl (gT g43)) rfl (SOps.skip rfl 18 147 false rfl rfl (.inl (gT g43)) rfl (SOps.skip rfl 18 147 false rfl rfl (.inl (gT g43)) rfl (sq rfl rfl (q_pick_t rfl rfl g43 rfl) (sm rfl rfl (SOps.skip rfl 23 152 false rfl rfl (.inl rfl) rfl (SOps.skip rfl 23 152 false rfl rfl (.inl rfl) rfl (SOps.skip rfl 23 152 false rfl rfl (.inl rfl) rfl (SOps.skip rfl 23 152 false rfl rfl (.inl rfl) rfl (SOps.skip rfl 23 152 false rfl rfl (.inl rfl) rfl (sq rfl rfl (q_pick_t rfl rfl rfl rfl) (sm rfl rfl ?_)))))))))))))))
     refine SOps.skip rfl 30 159 false rfl rfl (.inl rfl) rfl (SOps.skip rfl 30 159 false rfl rfl (.inl rfl) rfl (SOps.skip rfl 30 159 false rfl rfl (.inl rfl) rfl (sq rfl rfl (q_pick_t rfl rfl rfl rfl) (SOps.sub (st' := ⟨[(4, ci (((a0_p.Parents).length : Int))), (114, .c (vSDemand a0_p.Demands)), (115, ci (((a0_p.Demands).length : Int))), (116, ci t116_23), (163, .c (.bool true))], []⟩) (sub_gen [] rfl rfl (zall rfl rfl) trivial) (SOps.nil (SCode.cond_t rfl rfl (SCode.seq (SCode.region (sa rfl rfl (SOps.nil (SCode.ret ?_)))))))))))
     obtain rfl := Option.some.inj h
     exact ⟨⟨[(2, ci 2)], []⟩, _, sub_gen [] rfl rfl (zall rfl rfl) trivial, resA1 (v := .c (.int .i64 2)) rfl rfl, rfl⟩
    rcases cond_out h with ⟨g44, h⟩ | ⟨g44, h⟩
    ·refine SCode.region (sq rfl rfl (q_field_ptr rfl rfl fd39_1) (sq rfl rfl (q_load_ptr rfl rfl rfl rfl ty3) (sq rfl rfl (q_lss rfl rfl rfl) (sm rfl rfl (SOps.q rfl (.guard 3 132 false rfl rfl (gF g40)) rfl (q_field_ptr rfl rfl fd39_1) (SOps.q rfl (.guard 3 132 false rfl rfl (gF g40)) rfl (q_load_ptr rfl rfl rfl rfl ty3) (SOps.q rfl (.guard 3 132 false rfl rfl (gF g40)) rfl (q_gtr rfl rfl rfl) (sq rfl rfl (q_pick_f rfl rfl g40 rfl) (sm rfl rfl (SOps.q rfl (.guard 8 137 false rfl rfl (gF g41)) rfl (q_field_ptr rfl rfl fd39_2) (SOps.q rfl (.guard 8 137 false rfl rfl (gF g41)) rfl (q_load_ptr rfl rfl rfl rfl ty3) (SOps.q rfl (.guard 8 137 false rfl rfl (gF g41)) rfl (q_lss rfl rfl rfl) (sq rfl rfl (q_pick_f rfl rfl g41 rfl) (sm rfl rfl (SOps.q rfl (.guard 13 142 false rfl rfl (gF g42)) rfl (q_field_ptr rfl rfl fd39_2) ?_)))))))))))))))
     refine SOps.q rfl (.guard 13 142 false rfl rfl (gF g42)) rfl (q_load_ptr rfl rfl rfl rfl ty3) (SOps.q rfl (.guard 13 142 false rfl rfl (gF g42)) rfl (q_gtr rfl rfl rfl) (sq rfl rfl (q_pick_f rfl rfl g42 rfl) (sm rfl rfl (SOps.q rfl (.guard 18 147 false rfl rfl (gF g43)) rfl (q_field_ptr rfl rfl fd39_3) (SOps.q rfl (.guard 18 147 false rfl rfl (gF g43)) rfl (q_load_ptr rfl rfl rfl rfl ty3) (SOps.q rfl (.guard 18 147 false rfl rfl (gF g43)) rfl (q_lss rfl rfl rfl) (sq rfl rfl (q_pick_f rfl rfl g43 rfl) (sm rfl rfl (SOps.skip rfl 23 152 false rfl rfl (.inl (gT g44)) rfl (SOps.skip rfl 23 152 false rfl rfl (.inl (gT g44)) rfl (SOps.skip rfl 23 152 false rfl rfl (.inl (gT g44)) rfl (SOps.skip rfl 23 152 false rfl rfl (.inl (gT g44)) rfl (SOps.skip rfl 23 152 false rfl rfl (.inl (gT g44)) rfl (sq rfl rfl (q_pick_t rfl rfl g44 rfl) (sm rfl rfl ?_)))))))))))))))
     refine SOps.skip rfl 30 159 false rfl rfl (.inl rfl) rfl (SOps.skip rfl 30 159 false rfl rfl (.inl rfl) rfl (SOps.skip rfl 30 159 false rfl rfl (.inl rfl) rfl (sq rfl rfl (q_pick_t rfl rfl rfl rfl) (SOps.sub (st' := ⟨[(4, ci (((a0_p.Parents).length : Int))), (114, .c (vSDemand a0_p.Demands)), (115, ci (((a0_p.Demands).length : Int))), (116, ci t116_23), (163, .c (.bool true))], []⟩) (sub_gen [] rfl rfl (zall rfl rfl) trivial) (SOps.nil (SCode.cond_t rfl rfl (SCode.seq (SCode.region (sa rfl rfl (SOps.nil (SCode.ret ?_)))))))))))
     obtain rfl := Option.some.inj h
     exact ⟨⟨[(2, ci 2)], []⟩, _, sub_gen [] rfl rfl (zall rfl rfl) trivial, resA1 (v := .c (.int .i64 2)) rfl rfl, rfl⟩
    rcases cond_out h with ⟨g45, h⟩ | ⟨g45, h⟩
    ·refine SCode.region (sq rfl rfl (q_field_ptr rfl rfl fd39_1) (sq rfl rfl (q_load_ptr rfl rfl rfl rfl ty3) (sq rfl rfl (q_lss rfl rfl rfl) (sm rfl rfl (SOps.q rfl (.guard 3 132 false rfl rfl (gF g40)) rfl (q_field_ptr rfl rfl fd39_1) (SOps.q rfl (.guard 3 132 false rfl rfl (gF g40)) rfl (q_load_ptr rfl rfl rfl rfl ty3) (SOps.q rfl (.guard 3 132 false rfl rfl (gF g40)) rfl (q_gtr rfl rfl rfl) (sq rfl rfl (q_pick_f rfl rfl g40 rfl) (sm rfl rfl (SOps.q rfl (.guard 8 137 false rfl rfl (gF g41)) rfl (q_field_ptr rfl rfl fd39_2) (SOps.q rfl (.guard 8 137 false rfl rfl (gF g41)) rfl (q_load_ptr rfl rfl rfl rfl ty3) (SOps.q rfl (.guard 8 137 false rfl rfl (gF g41)) rfl (q_lss rfl rfl rfl) (sq rfl rfl (q_pick_f rfl rfl g41 rfl) (sm rfl rfl (SOps.q rfl (.guard 13 142 false rfl rfl (gF g42)) rfl (q_field_ptr rfl rfl fd39_2) ?_)))))))))))))))
     refine SOps.q rfl (.guard 13 142 false rfl rfl (gF g42)) rfl (q_load_ptr rfl rfl rfl rfl ty3) (SOps.q rfl (.guard 13 142 false rfl rfl (gF g42)) rfl (q_gtr rfl rfl rfl) (sq rfl rfl (q_pick_f rfl rfl g42 rfl) (sm rfl rfl (SOps.q rfl (.guard 18 147 false rfl rfl (gF g43)) rfl (q_field_ptr rfl rfl fd39_3) (SOps.q rfl (.guard 18 147 false rfl rfl (gF g43)) rfl (q_load_ptr rfl rfl rfl rfl ty3) (SOps.q rfl (.guard 18 147 false rfl rfl (gF g43)) rfl (q_lss rfl rfl rfl) (sq rfl rfl (q_pick_f rfl rfl g43 rfl) (sm rfl rfl (SOps.q rfl (.guard 23 152 false rfl rfl (gF g44)) rfl (q_field_ptr rfl rfl fd39_4) (SOps.q rfl (.guard 23 152 false rfl rfl (gF g44)) rfl (q_load_ptr rfl rfl rfl rfl ty3) (SOps.q rfl (.guard 23 152 false rfl rfl (gF g44)) rfl (q_field_ptr rfl rfl fd39_3) (SOps.q rfl (.guard 23 152 false rfl rfl (gF g44)) rfl (q_load_ptr rfl rfl rfl rfl ty3) (SOps.q rfl (.guard 23 152 false rfl rfl (gF g44)) rfl (q_lss rfl rfl rfl) (sq rfl rfl (q_pick_f rfl rfl g44 rfl) (sm rfl rfl ?_)))))))))))))))
     refine SOps.skip rfl 30 159 false rfl rfl (.inl (gT g45)) rfl (SOps.skip rfl 30 159 false rfl rfl (.inl (gT g45)) rfl (SOps.skip rfl 30 159 false rfl rfl (.inl (gT g45)) rfl (sq rfl rfl (q_pick_t rfl rfl g45 rfl) (SOps.sub (st' := ⟨[(4, ci (((a0_p.Parents).length : Int))), (114, .c (vSDemand a0_p.Demands)), (115, ci (((a0_p.Demands).length : Int))), (116, ci t116_23), (163, .c (.bool true))], []⟩) (sub_gen [] rfl rfl (zall rfl rfl) trivial) (SOps.nil (SCode.cond_t rfl rfl (SCode.seq (SCode.region (sa rfl rfl (SOps.nil (SCode.ret ?_)))))))))))
     obtain rfl := Option.some.inj h
     exact ⟨⟨[(2, ci 2)], []⟩, _, sub_gen [] rfl rfl (zall rfl rfl) trivial, resA1 (v := .c (.int .i64 2)) rfl rfl, rfl⟩
    refine SCode.region (sq rfl rfl (q_field_ptr rfl rfl fd39_1) (sq rfl rfl (q_load_ptr rfl rfl rfl rfl ty3) (sq rfl rfl (q_lss rfl rfl rfl) (sm rfl rfl (SOps.q rfl (.guard 3 132 false rfl rfl (gF g40)) rfl (q_field_ptr rfl rfl fd39_1) (SOps.q rfl (.guard 3 132 false rfl rfl (gF g40)) rfl (q_load_ptr rfl rfl rfl rfl ty3) (SOps.q rfl (.guard 3 132 false rfl rfl (gF g40)) rfl (q_gtr rfl rfl rfl) (sq rfl rfl (q_pick_f rfl rfl g40 rfl) (sm rfl rfl (SOps.q rfl (.guard 8 137 false rfl rfl (gF g41)) rfl (q_field_ptr rfl rfl fd39_2) (SOps.q rfl (.guard 8 137 false rfl rfl (gF g41)) rfl (q_load_ptr rfl rfl rfl rfl ty3) (SOps.q rfl (.guard 8 137 false rfl rfl (gF g41)) rfl (q_lss rfl rfl rfl) (sq rfl rfl (q_pick_f rfl rfl g41 rfl) (sm rfl rfl (SOps.q rfl (.guard 13 142 false rfl rfl (gF g42)) rfl (q_field_ptr rfl rfl fd39_2) ?_)))))))))))))))
    refine SOps.q rfl (.guard 13 142 false rfl rfl (gF g42)) rfl (q_load_ptr rfl rfl rfl rfl ty3) (SOps.q rfl (.guard 13 142 false rfl rfl (gF g42)) rfl (q_gtr rfl rfl rfl) (sq rfl rfl (q_pick_f rfl rfl g42 rfl) (sm rfl rfl (SOps.q rfl (.guard 18 147 false rfl rfl (gF g43)) rfl (q_field_ptr rfl rfl fd39_3) (SOps.q rfl (.guard 18 147 false rfl rfl (gF g43)) rfl (q_load_ptr rfl rfl rfl rfl ty3) (SOps.q rfl (.guard 18 147 false rfl rfl (gF g43)) rfl (q_lss rfl rfl rfl) (sq rfl rfl (q_pick_f rfl rfl g43 rfl) (sm rfl rfl (SOps.q rfl (.guard 23 152 false rfl rfl (gF g44)) rfl (q_field_ptr rfl rfl fd39_4) (SOps.q rfl (.guard 23 152 false rfl rfl (gF g44)) rfl (q_load_ptr rfl rfl rfl rfl ty3) (SOps.q rfl (.guard 23 152 false rfl rfl (gF g44)) rfl (q_field_ptr rfl rfl fd39_3) (SOps.q rfl (.guard 23 152 false rfl rfl (gF g44)) rfl (q_load_ptr rfl rfl rfl rfl ty3) (SOps.q rfl (.guard 23 152 false rfl rfl (gF g44)) rfl (q_lss rfl rfl rfl) (sq rfl rfl (q_pick_f rfl rfl g44 rfl) (sm rfl rfl ?_)))))))))))))))
    refine SOps.q rfl (.guard 30 159 false rfl rfl (gF g45)) rfl (q_field_ptr rfl rfl fd39_4) (SOps.q rfl (.guard 30 159 false rfl rfl (gF g45)) rfl (q_load_ptr rfl rfl rfl rfl ty3) (SOps.q rfl (.guard 30 159 false rfl rfl (gF g45)) rfl (q_gtr rfl rfl rfl) (sq rfl rfl (q_pick_f rfl rfl g45 rfl) (SOps.sub (st' := ⟨[(4, ci (((a0_p.Parents).length : Int))), (114, .c (vSDemand a0_p.Demands)), (115, ci (((a0_p.Demands).length : Int))), (116, ci t116_23), (163, .c (.bool (decide (268435456 < (a0_p.Demands.getD t116_23.toNat dSDemand).Depart))))], []⟩) (sub_gen [] rfl rfl (zall rfl rfl) trivial) (SOps.nil ?_)))))
    rcases cond_out h with ⟨g46, h⟩ | ⟨g46, h⟩
    ·refine SCode.cond_t rfl g46 (SCode.seq (SCode.region (sa rfl rfl (SOps.nil (SCode.ret ?_)))))
     obtain rfl := Option.some.inj h
     exact ⟨⟨[(2, ci 2)], []⟩, _, sub_gen [] rfl rfl (zall rfl rfl) trivial, resA1 (v := .c (.int .i64 2)) rfl rfl, rfl⟩
    refine SCode.cond_f rfl g46 (SCode.skip (SCode.region (sq rfl rfl (q_add rfl rfl rfl) (sm rfl rfl (SOps.nil ?_)))))
    exact ⟨(n_35, IntKind.wrap .i64 (t116_23 + 1)), h, Nat.lt_succ_self n_35, sub_gen [] rfl rfl (zall rfl rfl) trivial⟩
   refine SCode.cond_f rfl g36 (SCode.exit ?_)
   exact ⟨(), h, sub_gen [] rfl rfl trivial trivial⟩
 rintro ⟨⟩ h
 show SCode _ _ _ S14 _
 try dsimp only at h
 unfold chargenetref18_Valid_p11 at h
 refine SCode.seq (SCode.region (sa rfl rfl (SOps.nil (SCode.ret ?_))))
 obtain rfl := Option.some.inj h
 exact ⟨⟨[(2, ci 0)], []⟩, _, sub_gen [] rfl rfl (zall rfl rfl) trivial, resA1 (v := .c (.int .i64 0)) rfl rfl, rfl⟩
theorem chargenetlaw18_Small_ok (F : Nat) (a0_p : SProblem) (r : Bool) (h : chargenetlaw18_Small F a0_p = some r) :
  SFun Try.prog 13 [] [.a (bSProblem a0_p)] (fun x _ => x = .c (.bool r)) := by
 refine SFun.of (n := 24) Try.func13 rfl rfl rfl ?_
 unfold chargenetlaw18_Small at h
 show SCode _ _ _ ⟨[(0, .a (bSProblem a0_p))], []⟩ _
 refine SCode.seq (SCode.region (se rfl rfl (e_box rfl rfl rfl rfl rfl rfl) (sa rfl rfl (SOps.nil (SCode.seq ?_)))))
 rcases cond_out h with ⟨g1, h⟩ | ⟨g1, h⟩
 ·rcases cond_out h with ⟨g2, h⟩ | ⟨g2, h⟩
  ·rcases cond_out h with ⟨g3, h⟩ | ⟨g3, h⟩
   ·obtain ⟨c_4, g5, h⟩ := bind_out h
    try dsimp only at h
    refine SCode.region (sq rfl rfl (q_field_ptr rfl rfl fd26_4) (sq rfl rfl (q_load_ptr rfl rfl rfl rfl ty24) (sq rfl rfl (q_len_vec rfl rfl sl24) (sq rfl rfl (q_leq rfl rfl rfl) (sm rfl rfl (SOps.q rfl (.guard 4 7 true rfl rfl (gT g1)) rfl (q_field_ptr rfl rfl fd26_1) (SOps.q rfl (.guard 4 7 true rfl rfl (gT g1)) rfl (q_load_ptr rfl rfl rfl rfl ty23) (SOps.q rfl (.guard 4 7 true rfl rfl (gT g1)) rfl (q_len_vec rfl rfl sl23) (SOps.q rfl (.guard 4 7 true rfl rfl (gT g1)) rfl (q_leq rfl rfl rfl) (sq rfl rfl (q_pick_t rfl rfl g1 rfl) (sm rfl rfl (SOps.q rfl (.guard 10 13 true rfl rfl (gT g2)) rfl (q_field_ptr rfl rfl fd26_0) (SOps.q rfl (.guard 10 13 true rfl rfl (gT g2)) rfl (q_load_ptr rfl rfl rfl rfl ty22) (SOps.q rfl (.guard 10 13 true rfl rfl (gT g2)) rfl (q_len_vec rfl rfl sl22) (SOps.q rfl (.guard 10 13 true rfl rfl (gT g2)) rfl (q_leq rfl rfl rfl) ?_)))))))))))))))
    refine sq rfl rfl (q_pick_t rfl rfl g2 rfl) (sm rfl rfl (SOps.q rfl (.guard 16 19 true rfl rfl (gT g3)) rfl (q_load_ptr_all rfl rfl rfl rfl rfl ty26) (SOps.q rfl (.guard 16 19 true rfl rfl (gT g3)) rfl (q_call (chargenetref18_Valid_ok F a0_p c_4 g5) [] rfl fn12 ⟨⟨rfl, rfl⟩, trivial⟩ (.inl rfl)) (SOps.q rfl (.guard 16 19 true rfl rfl (gT g3)) rfl (q_eql rfl rfl rfl) (sq rfl rfl (q_pick_t rfl rfl g3 rfl) (sa rfl rfl (SOps.sub (st' := ⟨[(2, .c (.bool (decide (c_4 = 0))))], []⟩) (sub_gen [] rfl rfl (zall rfl rfl) trivial) (SOps.nil (SCode.ret ?_)))))))))
    obtain rfl := Option.some.inj h
    exact ⟨⟨[(2, .c (.bool (decide (c_4 = 0))))], []⟩, _, sub_gen [] rfl rfl (zall rfl rfl) trivial, resA1 (v := .c (.bool (decide (c_4 = 0)))) rfl rfl, rfl⟩
   refine SCode.region (sq rfl rfl (q_field_ptr rfl rfl fd26_4) (sq rfl rfl (q_load_ptr rfl rfl rfl rfl ty24) (sq rfl rfl (q_len_vec rfl rfl sl24) (sq rfl rfl (q_leq rfl rfl rfl) (sm rfl rfl (SOps.q rfl (.guard 4 7 true rfl rfl (gT g1)) rfl (q_field_ptr rfl rfl fd26_1) (SOps.q rfl (.guard 4 7 true rfl rfl (gT g1)) rfl (q_load_ptr rfl rfl rfl rfl ty23) (SOps.q rfl (.guard 4 7 true rfl rfl (gT g1)) rfl (q_len_vec rfl rfl sl23) (SOps.q rfl (.guard 4 7 true rfl rfl (gT g1)) rfl (q_leq rfl rfl rfl) (sq rfl rfl (q_pick_t rfl rfl g1 rfl) (sm rfl rfl (SOps.q rfl (.guard 10 13 true rfl rfl (gT g2)) rfl (q_field_ptr rfl rfl fd26_0) (SOps.q rfl (.guard 10 13 true rfl rfl (gT g2)) rfl (q_load_ptr rfl rfl rfl rfl ty22) (SOps.q rfl (.guard 10 13 true rfl rfl (gT g2)) rfl (q_len_vec rfl rfl sl22) (SOps.q rfl (.guard 10 13 true rfl rfl (gT g2)) rfl (q_leq rfl rfl rfl) ?_)))))))))))))))
   refine sq rfl rfl (q_pick_t rfl rfl g2 rfl) (sm rfl rfl (SOps.skip rfl 16 19 true rfl rfl (.inl (gF g3)) rfl (SOps.skip rfl 16 19 true rfl rfl (.inl (gF g3)) rfl (SOps.skip rfl 16 19 true rfl rfl (.inl (gF g3)) rfl (sq rfl rfl (q_pick_f rfl rfl g3 rfl) (sa rfl rfl (SOps.sub (st' := ⟨[(2, .c (.bool false))], []⟩) (sub_gen [] rfl rfl (zall rfl rfl) trivial) (SOps.nil (SCode.ret ?_)))))))))
   obtain rfl := Option.some.inj h
   exact ⟨⟨[(2, .c (.bool false))], []⟩, _, sub_gen [] rfl rfl (zall rfl rfl) trivial, resA1 (v := .c (.bool false)) rfl rfl, rfl⟩
  refine SCode.region (sq rfl rfl (q_field_ptr rfl rfl fd26_4) (sq rfl rfl (q_load_ptr rfl rfl rfl rfl ty24) (sq rfl rfl (q_len_vec rfl rfl sl24) (sq rfl rfl (q_leq rfl rfl rfl) (sm rfl rfl (SOps.q rfl (.guard 4 7 true rfl rfl (gT g1)) rfl (q_field_ptr rfl rfl fd26_1) (SOps.q rfl (.guard 4 7 true rfl rfl (gT g1)) rfl (q_load_ptr rfl rfl rfl rfl ty23) (SOps.q rfl (.guard 4 7 true rfl rfl (gT g1)) rfl (q_len_vec rfl rfl sl23) (SOps.q rfl (.guard 4 7 true rfl rfl (gT g1)) rfl (q_leq rfl rfl rfl) (sq rfl rfl (q_pick_t rfl rfl g1 rfl) (sm rfl rfl (SOps.skip rfl 10 13 true rfl rfl (.inl (gF g2)) rfl (SOps.skip rfl 10 13 true rfl rfl (.inl (gF g2)) rfl (SOps.skip rfl 10 13 true rfl rfl (.inl (gF g2)) rfl (SOps.skip rfl 10 13 true rfl rfl (.inl (gF g2)) rfl ?_)))))))))))))))
  refine sq rfl rfl (q_pick_f rfl rfl g2 rfl) (sm rfl rfl (SOps.skip rfl 16 19 true rfl rfl (.inl rfl) rfl (SOps.skip rfl 16 19 true rfl rfl (.inl rfl) rfl (SOps.skip rfl 16 19 true rfl rfl (.inl rfl) rfl (sq rfl rfl (q_pick_f rfl rfl rfl rfl) (sa rfl rfl (SOps.sub (st' := ⟨[(2, .c (.bool false))], []⟩) (sub_gen [] rfl rfl (zall rfl rfl) trivial) (SOps.nil (SCode.ret ?_)))))))))
  obtain rfl := Option.some.inj h
  exact ⟨⟨[(2, .c (.bool false))], []⟩, _, sub_gen [] rfl rfl (zall rfl rfl) trivial, resA1 (v := .c (.bool false)) rfl rfl, rfl⟩
 refine SCode.region (sq rfl rfl (q_field_ptr rfl rfl fd26_4) (sq rfl rfl (q_load_ptr rfl rfl rfl rfl ty24) (sq rfl rfl (q_len_vec rfl rfl sl24) (sq rfl rfl (q_leq rfl rfl rfl) (sm rfl rfl (SOps.skip rfl 4 7 true rfl rfl (.inl (gF g1)) rfl (SOps.skip rfl 4 7 true rfl rfl (.inl (gF g1)) rfl (SOps.skip rfl 4 7 true rfl rfl (.inl (gF g1)) rfl (SOps.skip rfl 4 7 true rfl rfl (.inl (gF g1)) rfl (sq rfl rfl (q_pick_f rfl rfl g1 rfl) (sm rfl rfl (SOps.skip rfl 10 13 true rfl rfl (.inl rfl) rfl (SOps.skip rfl 10 13 true rfl rfl (.inl rfl) rfl (SOps.skip rfl 10 13 true rfl rfl (.inl rfl) rfl (SOps.skip rfl 10 13 true rfl rfl (.inl rfl) rfl ?_)))))))))))))))
 refine sq rfl rfl (q_pick_f rfl rfl rfl rfl) (sm rfl rfl (SOps.skip rfl 16 19 true rfl rfl (.inl rfl) rfl (SOps.skip rfl 16 19 true rfl rfl (.inl rfl) rfl (SOps.skip rfl 16 19 true rfl rfl (.inl rfl) rfl (sq rfl rfl (q_pick_f rfl rfl rfl rfl) (sa rfl rfl (SOps.sub (st' := ⟨[(2, .c (.bool false))], []⟩) (sub_gen [] rfl rfl (zall rfl rfl) trivial) (SOps.nil (SCode.ret ?_)))))))))
 obtain rfl := Option.some.inj h
 exact ⟨⟨[(2, .c (.bool false))], []⟩, _, sub_gen [] rfl rfl (zall rfl rfl) trivial, resA1 (v := .c (.bool false)) rfl rfl, rfl⟩
theorem chargenetref18_energies_ok (F : Nat) (a0_p : SProblem) (a1_energy : List Int) (r : Int) (h : chargenetref18_energies F a0_p a1_energy = some r) :
  SFun Try.prog 28 [] [.a (bSProblem a0_p), .c (vI a1_energy)] (fun x _ => x = ci r) := by
 refine SFun.of (n := 32) Try.func28 rfl rfl rfl ?_
 unfold chargenetref18_energies at h
 show SCode _ _ _ ⟨[(0, .a (bSProblem a0_p)), (1, .c (vI a1_energy))], []⟩ _
 refine SCode.seq (SCode.region (se rfl rfl (e_box rfl rfl rfl rfl rfl rfl) (sa rfl rfl (SOps.nil (SCode.seq (SCode.seq ?_))))))
 obtain ⟨c_1, g2, h⟩ := bind_out h
 try dsimp only at h
 refine SCode.region (sq rfl rfl (q_load_ptr_all rfl rfl rfl rfl rfl ty26) (sq rfl rfl (q_call (chargenetref18_Valid_ok F a0_p c_1 g2) [] rfl fn12 ⟨⟨rfl, rfl⟩, trivial⟩ (.inl rfl)) (sa rfl rfl (SOps.nil (SCode.seq (SCode.region (sm rfl rfl (sq rfl rfl (q_neq rfl rfl rfl) (SOps.nil ?_)))))))))
 rcases cond_out h with ⟨g3, h⟩ | ⟨g3, h⟩
 ·refine SCode.cond_t rfl g3 (SCode.seq (SCode.region (sm rfl rfl (sa rfl rfl (SOps.nil (SCode.ret ?_))))))
  obtain rfl := Option.some.inj h
  exact ⟨⟨[(4, ci c_1)], []⟩, _, sub_gen [] rfl rfl (zall rfl rfl) trivial, resA1 (v := .c (.int .i64 c_1)) rfl rfl, rfl⟩
 refine SCode.cond_f rfl g3 (SCode.skip (SCode.seq (SCode.seq (SCode.region (sm rfl rfl (sq rfl rfl (q_len_vec rfl rfl sl22) (sq rfl rfl (q_field_ptr rfl rfl fd26_4) (sq rfl rfl (q_load_ptr rfl rfl rfl rfl ty24) (sq rfl rfl (q_len_vec rfl rfl sl24) (sq rfl rfl (q_neq rfl rfl rfl) (SOps.nil ?_)))))))))))
 rcases cond_out h with ⟨g4, h⟩ | ⟨g4, h⟩
 ·refine SCode.cond_t rfl g4 (SCode.seq (SCode.region (sa rfl rfl (SOps.nil (SCode.ret ?_)))))
  obtain rfl := Option.some.inj h
  exact ⟨⟨[(4, ci 1)], []⟩, _, sub_gen [] rfl rfl (zall rfl rfl) trivial, resA1 (v := .c (.int .i64 1)) rfl rfl, rfl⟩
 refine SCode.cond_f rfl g4 (SCode.skip ?_)
 let S3 := (⟨[], []⟩ : St)
 refine SCode.join (σ := Unit) (S := fun s => S3) (g := fun s => chargenetref18_energies_p5 = some r) ?_ ?_
 rotate_left
 ·refine SCode.seq (SCode.region (sm rfl rfl (sq rfl rfl (q_len_vec rfl rfl sl22) (sm rfl rfl (SOps.nil (SCode.block ?_))))))
  let S2 := fun (t21_10 : Int) => (⟨[(19, .c (vI a1_energy)), (20, ci (((a1_energy).length : Int))), (21, ci t21_10)], []⟩ : St)
  refine SCode.sub (st' := (S2 0)) (sub_gen [] rfl rfl (zall rfl rfl) trivial) ?_
  refine (SCode.loop (σ := Nat × Int) (S := fun s => (S2 s.2)) (g := fun s => chargenetref18_energies_l15 a1_energy s.1 s.2 = some r) (μ := fun s => s.1) (F, 0) h ?_)
  rintro ⟨n_15, t21_10⟩ h
  try dsimp only at h
  show SCode _ _ _ (S2 t21_10) _
  cases n_15 with
  | zero => cases h
  | succ n_15 =>
   rw [chargenetref18_energies_l15] at h
   unfold chargenetref18_energies_b15 at h
   refine SCode.seq (SCode.region (sq rfl rfl (q_lss rfl rfl rfl) (SOps.nil (SCode.seq ?_))))
   rcases cond_out h with ⟨g16, h⟩ | ⟨g16, h⟩
   ·refine SCode.cond_t rfl g16 (SCode.skip (SCode.seq (SCode.block (SCode.seq ?_))))
    obtain ⟨g17, h⟩ := guard_out h
    refine SCode.region (sq rfl rfl (q_index_vec rfl rfl rfl sl22 rfl g17.1 g17.2) (sq rfl rfl (q_load_eptr rfl rfl ty3) (sa rfl rfl (SOps.nil (SCode.seq ?_)))))
    rcases cond_out h with ⟨g18, h⟩ | ⟨g18, h⟩
    ·refine SCode.region (sm rfl rfl (sq rfl rfl (q_lss rfl rfl rfl) (sm rfl rfl (SOps.skip rfl 2 27 false rfl rfl (.inl (gT g18)) rfl (SOps.skip rfl 2 27 false rfl rfl (.inl (gT g18)) rfl (sq rfl rfl (q_pick_t rfl rfl g18 rfl) (SOps.nil (SCode.cond_t rfl rfl (SCode.seq (SCode.region (sa rfl rfl (SOps.nil (SCode.ret ?_)))))))))))))
     obtain rfl := Option.some.inj h
     exact ⟨⟨[(4, ci 1)], []⟩, _, sub_gen [] rfl rfl (zall rfl rfl) trivial, resA1 (v := .c (.int .i64 1)) rfl rfl, rfl⟩
    refine SCode.region (sm rfl rfl (sq rfl rfl (q_lss rfl rfl rfl) (sm rfl rfl (SOps.q rfl (.guard 2 27 false rfl rfl (gF g18)) rfl (q_move rfl rfl) (SOps.q rfl (.guard 2 27 false rfl rfl (gF g18)) rfl (q_gtr rfl rfl rfl) (sq rfl rfl (q_pick_f rfl rfl g18 rfl) (SOps.nil ?_)))))))
    rcases cond_out h with ⟨g19, h⟩ | ⟨g19, h⟩
    ·refine SCode.cond_t rfl g19 (SCode.seq (SCode.region (sa rfl rfl (SOps.nil (SCode.ret ?_)))))
     obtain rfl := Option.some.inj h
     exact ⟨⟨[(4, ci 1)], []⟩, _, sub_gen [] rfl rfl (zall rfl rfl) trivial, resA1 (v := .c (.int .i64 1)) rfl rfl, rfl⟩
    refine SCode.cond_f rfl g19 (SCode.skip (SCode.region (sq rfl rfl (q_add rfl rfl rfl) (sm rfl rfl (SOps.nil ?_)))))
    exact ⟨(n_15, IntKind.wrap .i64 (t21_10 + 1)), h, Nat.lt_succ_self n_15, sub_gen [] rfl rfl (zall rfl rfl) trivial⟩
   refine SCode.cond_f rfl g16 (SCode.exit ?_)
   exact ⟨(), h, sub_gen [] rfl rfl trivial trivial⟩
 rintro ⟨⟩ h
 show SCode _ _ _ S3 _
 try dsimp only at h
 unfold chargenetref18_energies_p5 at h
 refine SCode.seq (SCode.region (sa rfl rfl (SOps.nil (SCode.ret ?_))))
 obtain rfl := Option.some.inj h
 exact ⟨⟨[(4, ci 0)], []⟩, _, sub_gen [] rfl rfl (zall rfl rfl) trivial, resA1 (v := .c (.int .i64 0)) rfl rfl, rfl⟩
theorem chargenetref09_Valid_ok (F : Nat) (a0_n : SNet) (r : Int) (h : chargenetref09_Valid F a0_n = some r) :
  SFun Try.prog 62 [] [.a (bSNet a0_n)] (fun x _ => x = ci r) := by
 refine SFun.of (n := 64) Try.func62 rfl rfl rfl ?_
 unfold chargenetref09_Valid at h
 show SCode _ _ _ ⟨[(0, .a (bSNet a0_n))], []⟩ _
 refine SCode.seq (SCode.region (se rfl rfl (e_box rfl rfl rfl rfl rfl rfl) (sa rfl rfl (SOps.nil (SCode.seq (SCode.seq (SCode.region (sq rfl rfl (q_field_ptr rfl rfl fd49_0) (sq rfl rfl (q_load_ptr rfl rfl rfl rfl ty3) (sq rfl rfl (q_lss rfl rfl rfl) (SOps.nil ?_)))))))))))
 rcases cond_out h with ⟨g1, h⟩ | ⟨g1, h⟩
 ·refine SCode.cond_t rfl g1 (SCode.seq (SCode.region (sa rfl rfl (SOps.nil (SCode.ret ?_)))))
  obtain rfl := Option.some.inj h
  exact ⟨⟨[(2, ci 2)], []⟩, _, sub_gen [] rfl rfl (zall rfl rfl) trivial, resA1 (v := .c (.int .i64 2)) rfl rfl, rfl⟩
 refine SCode.cond_f rfl g1 (SCode.skip (SCode.seq (SCode.seq ?_)))
 rcases cond_out h with ⟨g2, h⟩ | ⟨g2, h⟩
 ·refine SCode.region (sq rfl rfl (q_field_ptr rfl rfl fd49_0) (sq rfl rfl (q_load_ptr rfl rfl rfl rfl ty3) (sq rfl rfl (q_gtr rfl rfl rfl) (sm rfl rfl (SOps.skip rfl 3 11 false rfl rfl (.inl (gT g2)) rfl (SOps.skip rfl 3 11 false rfl rfl (.inl (gT g2)) rfl (SOps.skip rfl 3 11 false rfl rfl (.inl (gT g2)) rfl (SOps.skip rfl 3 11 false rfl rfl (.inl (gT g2)) rfl (sq rfl rfl (q_pick_t rfl rfl g2 rfl) (SOps.nil (SCode.cond_t rfl rfl (SCode.seq (SCode.region (sa rfl rfl (SOps.nil ?_)))))))))))))))
  refine SCode.ret ?_
  obtain rfl := Option.some.inj h
  exact ⟨⟨[(2, ci 3)], []⟩, _, sub_gen [] rfl rfl (zall rfl rfl) trivial, resA1 (v := .c (.int .i64 3)) rfl rfl, rfl⟩
 refine SCode.region (sq rfl rfl (q_field_ptr rfl rfl fd49_0) (sq rfl rfl (q_load_ptr rfl rfl rfl rfl ty3) (sq rfl rfl (q_gtr rfl rfl rfl) (sm rfl rfl (SOps.q rfl (.guard 3 11 false rfl rfl (gF g2)) rfl (q_field_ptr rfl rfl fd49_1) (SOps.q rfl (.guard 3 11 false rfl rfl (gF g2)) rfl (q_load_ptr rfl rfl rfl rfl ty47) (SOps.q rfl (.guard 3 11 false rfl rfl (gF g2)) rfl (q_len_vec rfl rfl sl47) (SOps.q rfl (.guard 3 11 false rfl rfl (gF g2)) rfl (q_gtr rfl rfl rfl) (sq rfl rfl (q_pick_f rfl rfl g2 rfl) (SOps.nil ?_))))))))))
 rcases cond_out h with ⟨g3, h⟩ | ⟨g3, h⟩
 ·refine SCode.cond_t rfl g3 (SCode.seq (SCode.region (sa rfl rfl (SOps.nil (SCode.ret ?_)))))
  obtain rfl := Option.some.inj h
  exact ⟨⟨[(2, ci 3)], []⟩, _, sub_gen [] rfl rfl (zall rfl rfl) trivial, resA1 (v := .c (.int .i64 3)) rfl rfl, rfl⟩
 refine SCode.cond_f rfl g3 (SCode.skip ?_)
 let S3 := (⟨[], []⟩ : St)
 refine SCode.join (σ := Unit) (S := fun s => S3) (g := fun s => chargenetref09_Valid_p4 = some r) ?_ ?_
 rotate_left
 ·refine SCode.seq (SCode.region (sa rfl rfl (SOps.nil (SCode.block ?_))))
  let S2 := fun (i_14 : Int) => (⟨[(1, .c (.ptr 0 0)), (3, ci i_14)], [.box (bSNet a0_n)]⟩ : St)
  refine SCode.sub (st' := (S2 0)) (sub_gen [0] rfl rfl (zall rfl rfl) ⟨bx rfl rfl rfl, trivial⟩) ?_
  refine (SCode.loop (σ := Nat × Int) (S := fun s => (S2 s.2)) (g := fun s => chargenetref09_Valid_l24 a0_n s.1 s.2 = some r) (μ := fun s => s.1) (F, 0) h ?_)
  rintro ⟨n_24, i_14⟩ h
  try dsimp only at h
  show SCode _ _ _ (S2 i_14) _
  cases n_24 with
  | zero => cases h
  | succ n_24 =>
   rw [chargenetref09_Valid_l24] at h
   unfold chargenetref09_Valid_b24 at h
   refine SCode.seq (SCode.seq (SCode.region (sm rfl rfl (sq rfl rfl (q_field_ptr rfl rfl fd49_1) (sq rfl rfl (q_load_ptr rfl rfl rfl rfl ty47) (sq rfl rfl (q_len_vec rfl rfl sl47) (sq rfl rfl (q_lss rfl rfl rfl) (SOps.nil ?_))))))))
   rcases cond_out h with ⟨g25, h⟩ | ⟨g25, h⟩
   ·refine SCode.cond_t rfl g25 (SCode.skip (SCode.seq (SCode.block (SCode.seq ?_))))
    obtain ⟨g26, h⟩ := guard_out h
    refine SCode.region (sq rfl rfl (q_field_ptr rfl rfl fd49_1) (sq rfl rfl (q_load_ptr rfl rfl rfl rfl ty47) (sm rfl rfl (sq rfl rfl (q_index_vec rfl rfl rfl sl47 rfl g26.1 g26.2) (sq rfl rfl (q_load_eptr_all rfl rfl rfl ty63) (se rfl rfl (e_alloc rfl rfl rfl z63) (se rfl rfl (e_store_box rfl rfl rfl rfl rfl ty63 rfl rfl rfl rfl) (SOps.nil (SCode.seq (SCode.seq ?_))))))))))
    rcases cond_out h with ⟨g27, h⟩ | ⟨g27, h⟩
    ·refine SCode.region (sq rfl rfl (q_field_ptr rfl rfl fd63_0) (sq rfl rfl (q_load_ptr rfl rfl rfl rfl ty3) (sq rfl rfl (q_lss rfl rfl rfl) (sm rfl rfl (SOps.skip rfl 3 32 false rfl rfl (.inl (gT g27)) rfl (SOps.skip rfl 3 32 false rfl rfl (.inl (gT g27)) rfl (SOps.skip rfl 3 32 false rfl rfl (.inl (gT g27)) rfl (SOps.skip rfl 3 32 false rfl rfl (.inl (gT g27)) rfl (SOps.skip rfl 3 32 false rfl rfl (.inl (gT g27)) rfl (sq rfl rfl (q_pick_t rfl rfl g27 rfl) (sm rfl rfl (SOps.skip rfl 10 39 false rfl rfl (.inl rfl) rfl (SOps.skip rfl 10 39 false rfl rfl (.inl rfl) rfl (SOps.skip rfl 10 39 false rfl rfl (.inl rfl) rfl (sq rfl rfl (q_pick_t rfl rfl rfl rfl) ?_)))))))))))))))
     refine sm rfl rfl (SOps.skip rfl 15 44 false rfl rfl (.inl rfl) rfl (SOps.skip rfl 15 44 false rfl rfl (.inl rfl) rfl (SOps.skip rfl 15 44 false rfl rfl (.inl rfl) rfl (SOps.skip rfl 15 44 false rfl rfl (.inl rfl) rfl (SOps.skip rfl 15 44 false rfl rfl (.inl rfl) rfl (sq rfl rfl (q_pick_t rfl rfl rfl rfl) (SOps.sub (st' := ⟨[(1, .c (.ptr 0 0)), (3, ci i_14), (4, .c (.ptr 1 0)), (50, .c (.bool true))], [.box (bSNet a0_n), .box (bSArc (a0_n.Arcs.getD i_14.toNat dSArc))]⟩) (sub_gen [0, 1] rfl rfl (zall rfl rfl) ⟨bx rfl rfl rfl, bx rfl rfl rfl, trivial⟩) (SOps.nil (SCode.cond_t rfl rfl (SCode.seq (SCode.region (sa rfl rfl (SOps.nil (SCode.ret ?_))))))))))))))
     obtain rfl := Option.some.inj h
     exact ⟨⟨[(2, ci 2)], []⟩, _, sub_gen [] rfl rfl (zall rfl rfl) trivial, resA1 (v := .c (.int .i64 2)) rfl rfl, rfl⟩
    rcases cond_out h with ⟨g28, h⟩ | ⟨g28, h⟩
    ·refine SCode.region (sq rfl rfl (q_field_ptr rfl rfl fd63_0) (sq rfl rfl (q_load_ptr rfl rfl rfl rfl ty3) (sq rfl rfl (q_lss rfl rfl rfl) (sm rfl rfl (SOps.q rfl (.guard 3 32 false rfl rfl (gF g27)) rfl (q_field_ptr rfl rfl fd63_0) (SOps.q rfl (.guard 3 32 false rfl rfl (gF g27)) rfl (q_load_ptr rfl rfl rfl rfl ty3) (SOps.q rfl (.guard 3 32 false rfl rfl (gF g27)) rfl (q_field_ptr rfl rfl fd49_0) (SOps.q rfl (.guard 3 32 false rfl rfl (gF g27)) rfl (q_load_ptr rfl rfl rfl rfl ty3) (SOps.q rfl (.guard 3 32 false rfl rfl (gF g27)) rfl (q_geq rfl rfl rfl) (sq rfl rfl (q_pick_f rfl rfl g27 rfl) (sm rfl rfl (SOps.skip rfl 10 39 false rfl rfl (.inl (gT g28)) rfl (SOps.skip rfl 10 39 false rfl rfl (.inl (gT g28)) rfl (SOps.skip rfl 10 39 false rfl rfl (.inl (gT g28)) rfl (sq rfl rfl (q_pick_t rfl rfl g28 rfl) ?_)))))))))))))))
     refine sm rfl rfl (SOps.skip rfl 15 44 false rfl rfl (.inl rfl) rfl (SOps.skip rfl 15 44 false rfl rfl (.inl rfl) rfl (SOps.skip rfl 15 44 false rfl rfl (.inl rfl) rfl (SOps.skip rfl 15 44 false rfl rfl (.inl rfl) rfl (SOps.skip rfl 15 44 false rfl rfl (.inl rfl) rfl (sq rfl rfl (q_pick_t rfl rfl rfl rfl) (SOps.sub (st' := ⟨[(1, .c (.ptr 0 0)), (3, ci i_14), (4, .c (.ptr 1 0)), (50, .c (.bool true))], [.box (bSNet a0_n), .box (bSArc (a0_n.Arcs.getD i_14.toNat dSArc))]⟩) (sub_gen [0, 1] rfl rfl (zall rfl rfl) ⟨bx rfl rfl rfl, bx rfl rfl rfl, trivial⟩) (SOps.nil (SCode.cond_t rfl rfl (SCode.seq (SCode.region (sa rfl rfl (SOps.nil (SCode.ret ?_))))))))))))))
     obtain rfl := Option.some.inj h
     exact ⟨⟨[(2, ci 2)], []⟩, _, sub_gen [] rfl rfl (zall rfl rfl) trivial, resA1 (v := .c (.int .i64 2)) rfl rfl, rfl⟩
    rcases cond_out h with ⟨g29, h⟩ | ⟨g29, h⟩
    ·refine SCode.region (sq rfl rfl (q_field_ptr rfl rfl fd63_0) (sq rfl rfl (q_load_ptr rfl rfl rfl rfl ty3) (sq rfl rfl (q_lss rfl rfl rfl) (sm rfl rfl (SOps.q rfl (.guard 3 32 false rfl rfl (gF g27)) rfl (q_field_ptr rfl rfl fd63_0) (SOps.q rfl (.guard 3 32 false rfl rfl (gF g27)) rfl (q_load_ptr rfl rfl rfl rfl ty3) (SOps.q rfl (.guard 3 32 false rfl rfl (gF g27)) rfl (q_field_ptr rfl rfl fd49_0) (SOps.q rfl (.guard 3 32 false rfl rfl (gF g27)) rfl (q_load_ptr rfl rfl rfl rfl ty3) (SOps.q rfl (.guard 3 32 false rfl rfl (gF g27)) rfl (q_geq rfl rfl rfl) (sq rfl rfl (q_pick_f rfl rfl g27 rfl) (sm rfl rfl (SOps.q rfl (.guard 10 39 false rfl rfl (gF g28)) rfl (q_field_ptr rfl rfl fd63_1) (SOps.q rfl (.guard 10 39 false rfl rfl (gF g28)) rfl (q_load_ptr rfl rfl rfl rfl ty3) (SOps.q rfl (.guard 10 39 false rfl rfl (gF g28)) rfl (q_lss rfl rfl rfl) (sq rfl rfl (q_pick_f rfl rfl g28 rfl) ?_)))))))))))))))
     refine sm rfl rfl (SOps.skip rfl 15 44 false rfl rfl (.inl (gT g29)) rfl (SOps.skip rfl 15 44 false rfl rfl (.inl (gT g29)) rfl (SOps.skip rfl 15 44 false rfl rfl (.inl (gT g29)) rfl (SOps.skip rfl 15 44 false rfl rfl (.inl (gT g29)) rfl (SOps.skip rfl 15 44 false rfl rfl (.inl (gT g29)) rfl (sq rfl rfl (q_pick_t rfl rfl g29 rfl) (SOps.sub (st' := ⟨[(1, .c (.ptr 0 0)), (3, ci i_14), (4, .c (.ptr 1 0)), (50, .c (.bool true))], [.box (bSNet a0_n), .box (bSArc (a0_n.Arcs.getD i_14.toNat dSArc))]⟩) (sub_gen [0, 1] rfl rfl (zall rfl rfl) ⟨bx rfl rfl rfl, bx rfl rfl rfl, trivial⟩) (SOps.nil (SCode.cond_t rfl rfl (SCode.seq (SCode.region (sa rfl rfl (SOps.nil (SCode.ret ?_))))))))))))))
     obtain rfl := Option.some.inj h
     exact ⟨⟨[(2, ci 2)], []⟩, _, sub_gen [] rfl rfl (zall rfl rfl) trivial, resA1 (v := .c (.int .i64 2)) rfl rfl, rfl⟩
    refine SCode.region (sq rfl rfl (q_field_ptr rfl rfl fd63_0) (sq rfl rfl (q_load_ptr rfl rfl rfl rfl ty3) (sq rfl rfl (q_lss rfl rfl rfl) (sm rfl rfl (SOps.q rfl (.guard 3 32 false rfl rfl (gF g27)) rfl (q_field_ptr rfl rfl fd63_0) (SOps.q rfl (.guard 3 32 false rfl rfl (gF g27)) rfl (q_load_ptr rfl rfl rfl rfl ty3) (SOps.q rfl (.guard 3 32 false rfl rfl (gF g27)) rfl (q_field_ptr rfl rfl fd49_0) (SOps.q rfl (.guard 3 32 false rfl rfl (gF g27)) rfl (q_load_ptr rfl rfl rfl rfl ty3) (SOps.q rfl (.guard 3 32 false rfl rfl (gF g27)) rfl (q_geq rfl rfl rfl) (sq rfl rfl (q_pick_f rfl rfl g27 rfl) (sm rfl rfl (SOps.q rfl (.guard 10 39 false rfl rfl (gF g28)) rfl (q_field_ptr rfl rfl fd63_1) (SOps.q rfl (.guard 10 39 false rfl rfl (gF g28)) rfl (q_load_ptr rfl rfl rfl rfl ty3) (SOps.q rfl (.guard 10 39 false rfl rfl (gF g28)) rfl (q_lss rfl rfl rfl) (sq rfl rfl (q_pick_f rfl rfl g28 rfl) ?_)))))))))))))))
    refine sm rfl rfl (SOps.q rfl (.guard 15 44 false rfl rfl (gF g29)) rfl (q_field_ptr rfl rfl fd63_1) (SOps.q rfl (.guard 15 44 false rfl rfl (gF g29)) rfl (q_load_ptr rfl rfl rfl rfl ty3) (SOps.q rfl (.guard 15 44 false rfl rfl (gF g29)) rfl (q_field_ptr rfl rfl fd49_0) (SOps.q rfl (.guard 15 44 false rfl rfl (gF g29)) rfl (q_load_ptr rfl rfl rfl rfl ty3) (SOps.q rfl (.guard 15 44 false rfl rfl (gF g29)) rfl (q_geq rfl rfl rfl) (sq rfl rfl (q_pick_f rfl rfl g29 rfl) (SOps.sub (st' := ⟨[(1, .c (.ptr 0 0)), (3, ci i_14), (4, .c (.ptr 1 0)), (50, .c (.bool (decide (a0_n.Nodes ≤ (a0_n.Arcs.getD i_14.toNat dSArc).To))))], [.box (bSNet a0_n), .box (bSArc (a0_n.Arcs.getD i_14.toNat dSArc))]⟩) (sub_gen [0, 1] rfl rfl (zall rfl rfl) ⟨bx rfl rfl rfl, bx rfl rfl rfl, trivial⟩) (SOps.nil ?_))))))))
    rcases cond_out h with ⟨g30, h⟩ | ⟨g30, h⟩
    ·refine SCode.cond_t rfl g30 (SCode.seq (SCode.region (sa rfl rfl (SOps.nil (SCode.ret ?_)))))
     obtain rfl := Option.some.inj h
     exact ⟨⟨[(2, ci 2)], []⟩, _, sub_gen [] rfl rfl (zall rfl rfl) trivial, resA1 (v := .c (.int .i64 2)) rfl rfl, rfl⟩
    refine SCode.cond_f rfl g30 (SCode.skip (SCode.seq (SCode.seq (SCode.region (sq rfl rfl (q_field_ptr rfl rfl fd63_0) (sq rfl rfl (q_load_ptr rfl rfl rfl rfl ty3) (sq rfl rfl (q_field_ptr rfl rfl fd63_1) (sq rfl rfl (q_load_ptr rfl rfl rfl rfl ty3) (sq rfl rfl (q_eql rfl rfl rfl) (SOps.nil ?_))))))))))
    rcases cond_out h with ⟨g31, h⟩ | ⟨g31, h⟩
    ·refine SCode.cond_t rfl g31 (SCode.seq (SCode.region (sa rfl rfl (SOps.nil (SCode.ret ?_)))))
     obtain rfl := Option.some.inj h
     exact ⟨⟨[(2, ci 1)], []⟩, _, sub_gen [] rfl rfl (zall rfl rfl) trivial, resA1 (v := .c (.int .i64 1)) rfl rfl, rfl⟩
    refine SCode.cond_f rfl g31 (SCode.skip (SCode.seq ?_))
    rcases cond_out h with ⟨g32, h⟩ | ⟨g32, h⟩
    ·refine SCode.region (sq rfl rfl (q_field_ptr rfl rfl fd63_2) (sq rfl rfl (q_load_ptr rfl rfl rfl rfl ty3) (sq rfl rfl (q_lss rfl rfl rfl) (sm rfl rfl (SOps.skip rfl 3 59 false rfl rfl (.inl (gT g32)) rfl (SOps.skip rfl 3 59 false rfl rfl (.inl (gT g32)) rfl (SOps.skip rfl 3 59 false rfl rfl (.inl (gT g32)) rfl (sq rfl rfl (q_pick_t rfl rfl g32 rfl) (SOps.nil (SCode.cond_t rfl rfl (SCode.seq (SCode.region (sa rfl rfl (SOps.nil (SCode.ret ?_)))))))))))))))
     obtain rfl := Option.some.inj h
     exact ⟨⟨[(2, ci 2)], []⟩, _, sub_gen [] rfl rfl (zall rfl rfl) trivial, resA1 (v := .c (.int .i64 2)) rfl rfl, rfl⟩
    refine SCode.region (sq rfl rfl (q_field_ptr rfl rfl fd63_2) (sq rfl rfl (q_load_ptr rfl rfl rfl rfl ty3) (sq rfl rfl (q_lss rfl rfl rfl) (sm rfl rfl (SOps.q rfl (.guard 3 59 false rfl rfl (gF g32)) rfl (q_field_ptr rfl rfl fd63_2) (SOps.q rfl (.guard 3 59 false rfl rfl (gF g32)) rfl (q_load_ptr rfl rfl rfl rfl ty3) (SOps.q rfl (.guard 3 59 false rfl rfl (gF g32)) rfl (q_gtr rfl rfl rfl) (sq rfl rfl (q_pick_f rfl rfl g32 rfl) (SOps.nil ?_)))))))))
    rcases cond_out h with ⟨g33, h⟩ | ⟨g33, h⟩
    ·refine SCode.cond_t rfl g33 (SCode.seq (SCode.region (sa rfl rfl (SOps.nil (SCode.ret ?_)))))
     obtain rfl := Option.some.inj h
     exact ⟨⟨[(2, ci 2)], []⟩, _, sub_gen [] rfl rfl (zall rfl rfl) trivial, resA1 (v := .c (.int .i64 2)) rfl rfl, rfl⟩
    refine SCode.cond_f rfl g33 (SCode.skip (SCode.region (sm rfl rfl (sq rfl rfl (q_add rfl rfl rfl) (sa rfl rfl (SOps.nil ?_))))))
    exact ⟨(n_24, IntKind.wrap .i64 (i_14 + 1)), h, Nat.lt_succ_self n_24, sub_gen [0] rfl rfl (zall rfl rfl) ⟨bx rfl rfl rfl, trivial⟩⟩
   refine SCode.cond_f rfl g25 (SCode.exit ?_)
   exact ⟨(), h, sub_gen [] rfl rfl trivial trivial⟩
 rintro ⟨⟩ h
 show SCode _ _ _ S3 _
 try dsimp only at h
 unfold chargenetref09_Valid_p4 at h
 refine SCode.seq (SCode.region (sa rfl rfl (SOps.nil (SCode.ret ?_))))
 obtain rfl := Option.some.inj h
 exact ⟨⟨[(2, ci 0)], []⟩, _, sub_gen [] rfl rfl (zall rfl rfl) trivial, resA1 (v := .c (.int .i64 0)) rfl rfl, rfl⟩
theorem chargenetref09_Ends_ok (F : Nat) (a0_n : SNet) (a1_source : Int) (a2_sink : Int) (r : Int) (h : chargenetref09_Ends F a0_n a1_source a2_sink = some r) :
  SFun Try.prog 52 [] [.a (bSNet a0_n), ci a1_source, ci a2_sink] (fun x _ => x = ci r) := by
 refine SFun.of (n := 36) Try.func52 rfl rfl rfl ?_
 unfold chargenetref09_Ends at h
 show SCode _ _ _ ⟨[(0, .a (bSNet a0_n)), (1, ci a1_source), (2, ci a2_sink)], []⟩ _
 refine SCode.seq (SCode.region (se rfl rfl (e_box rfl rfl rfl rfl rfl rfl) (sa rfl rfl (SOps.nil (SCode.seq (SCode.seq ?_))))))
 obtain ⟨c_1, g2, h⟩ := bind_out h
 try dsimp only at h
 refine SCode.region (sq rfl rfl (q_load_ptr_all rfl rfl rfl rfl rfl ty49) (sq rfl rfl (q_call (chargenetref09_Valid_ok F a0_n c_1 g2) [] rfl fn62 ⟨⟨rfl, rfl⟩, trivial⟩ (.inl rfl)) (sa rfl rfl (SOps.nil (SCode.seq (SCode.region (sm rfl rfl (sq rfl rfl (q_neq rfl rfl rfl) (SOps.nil ?_)))))))))
 rcases cond_out h with ⟨g3, h⟩ | ⟨g3, h⟩
 ·refine SCode.cond_t rfl g3 (SCode.seq (SCode.region (sm rfl rfl (sa rfl rfl (SOps.nil (SCode.ret ?_))))))
  obtain rfl := Option.some.inj h
  exact ⟨⟨[(6, ci c_1)], []⟩, _, sub_gen [] rfl rfl (zall rfl rfl) trivial, resA1 (v := .c (.int .i64 c_1)) rfl rfl, rfl⟩
 refine SCode.cond_f rfl g3 (SCode.skip (SCode.seq (SCode.seq ?_)))
 rcases cond_out h with ⟨g4, h⟩ | ⟨g4, h⟩
 ·refine SCode.region (sm rfl rfl (sq rfl rfl (q_lss rfl rfl rfl) (sm rfl rfl (SOps.skip rfl 2 15 false rfl rfl (.inl (gT g4)) rfl (SOps.skip rfl 2 15 false rfl rfl (.inl (gT g4)) rfl (SOps.skip rfl 2 15 false rfl rfl (.inl (gT g4)) rfl (SOps.skip rfl 2 15 false rfl rfl (.inl (gT g4)) rfl (sq rfl rfl (q_pick_t rfl rfl g4 rfl) (sm rfl rfl (SOps.skip rfl 8 21 false rfl rfl (.inl rfl) rfl (SOps.skip rfl 8 21 false rfl rfl (.inl rfl) rfl (sq rfl rfl (q_pick_t rfl rfl rfl rfl) (sm rfl rfl (SOps.skip rfl 12 25 false rfl rfl (.inl rfl) rfl (SOps.skip rfl 12 25 false rfl rfl (.inl rfl) rfl ?_)))))))))))))))
  refine SOps.skip rfl 12 25 false rfl rfl (.inl rfl) rfl (SOps.skip rfl 12 25 false rfl rfl (.inl rfl) rfl (sq rfl rfl (q_pick_t rfl rfl rfl rfl) (sm rfl rfl (SOps.skip rfl 18 31 false rfl rfl (.inl rfl) rfl (SOps.skip rfl 18 31 false rfl rfl (.inl rfl) rfl (SOps.skip rfl 18 31 false rfl rfl (.inl rfl) rfl (sq rfl rfl (q_pick_t rfl rfl rfl rfl) (SOps.sub (st' := ⟨[(35, .c (.bool true))], []⟩) (sub_gen [] rfl rfl (zall rfl rfl) trivial) (SOps.nil (SCode.cond_t rfl rfl (SCode.seq (SCode.region (sa rfl rfl (SOps.nil (SCode.ret ?_)))))))))))))))
  obtain rfl := Option.some.inj h
  exact ⟨⟨[(6, ci 2)], []⟩, _, sub_gen [] rfl rfl (zall rfl rfl) trivial, resA1 (v := .c (.int .i64 2)) rfl rfl, rfl⟩
 rcases cond_out h with ⟨g5, h⟩ | ⟨g5, h⟩
 ·refine SCode.region (sm rfl rfl (sq rfl rfl (q_lss rfl rfl rfl) (sm rfl rfl (SOps.q rfl (.guard 2 15 false rfl rfl (gF g4)) rfl (q_move rfl rfl) (SOps.q rfl (.guard 2 15 false rfl rfl (gF g4)) rfl (q_field_ptr rfl rfl fd49_0) (SOps.q rfl (.guard 2 15 false rfl rfl (gF g4)) rfl (q_load_ptr rfl rfl rfl rfl ty3) (SOps.q rfl (.guard 2 15 false rfl rfl (gF g4)) rfl (q_geq rfl rfl rfl) (sq rfl rfl (q_pick_f rfl rfl g4 rfl) (sm rfl rfl (SOps.skip rfl 8 21 false rfl rfl (.inl (gT g5)) rfl (SOps.skip rfl 8 21 false rfl rfl (.inl (gT g5)) rfl (sq rfl rfl (q_pick_t rfl rfl g5 rfl) (sm rfl rfl (SOps.skip rfl 12 25 false rfl rfl (.inl rfl) rfl (SOps.skip rfl 12 25 false rfl rfl (.inl rfl) rfl ?_)))))))))))))))
  refine SOps.skip rfl 12 25 false rfl rfl (.inl rfl) rfl (SOps.skip rfl 12 25 false rfl rfl (.inl rfl) rfl (sq rfl rfl (q_pick_t rfl rfl rfl rfl) (sm rfl rfl (SOps.skip rfl 18 31 false rfl rfl (.inl rfl) rfl (SOps.skip rfl 18 31 false rfl rfl (.inl rfl) rfl (SOps.skip rfl 18 31 false rfl rfl (.inl rfl) rfl (sq rfl rfl (q_pick_t rfl rfl rfl rfl) (SOps.sub (st' := ⟨[(35, .c (.bool true))], []⟩) (sub_gen [] rfl rfl (zall rfl rfl) trivial) (SOps.nil (SCode.cond_t rfl rfl (SCode.seq (SCode.region (sa rfl rfl (SOps.nil (SCode.ret ?_)))))))))))))))
  obtain rfl := Option.some.inj h
  exact ⟨⟨[(6, ci 2)], []⟩, _, sub_gen [] rfl rfl (zall rfl rfl) trivial, resA1 (v := .c (.int .i64 2)) rfl rfl, rfl⟩
 rcases cond_out h with ⟨g6, h⟩ | ⟨g6, h⟩
 ·refine SCode.region (sm rfl rfl (sq rfl rfl (q_lss rfl rfl rfl) (sm rfl rfl (SOps.q rfl (.guard 2 15 false rfl rfl (gF g4)) rfl (q_move rfl rfl) (SOps.q rfl (.guard 2 15 false rfl rfl (gF g4)) rfl (q_field_ptr rfl rfl fd49_0) (SOps.q rfl (.guard 2 15 false rfl rfl (gF g4)) rfl (q_load_ptr rfl rfl rfl rfl ty3) (SOps.q rfl (.guard 2 15 false rfl rfl (gF g4)) rfl (q_geq rfl rfl rfl) (sq rfl rfl (q_pick_f rfl rfl g4 rfl) (sm rfl rfl (SOps.q rfl (.guard 8 21 false rfl rfl (gF g5)) rfl (q_move rfl rfl) (SOps.q rfl (.guard 8 21 false rfl rfl (gF g5)) rfl (q_lss rfl rfl rfl) (sq rfl rfl (q_pick_f rfl rfl g5 rfl) (sm rfl rfl (SOps.skip rfl 12 25 false rfl rfl (.inl (gT g6)) rfl (SOps.skip rfl 12 25 false rfl rfl (.inl (gT g6)) rfl ?_)))))))))))))))
  refine SOps.skip rfl 12 25 false rfl rfl (.inl (gT g6)) rfl (SOps.skip rfl 12 25 false rfl rfl (.inl (gT g6)) rfl (sq rfl rfl (q_pick_t rfl rfl g6 rfl) (sm rfl rfl (SOps.skip rfl 18 31 false rfl rfl (.inl rfl) rfl (SOps.skip rfl 18 31 false rfl rfl (.inl rfl) rfl (SOps.skip rfl 18 31 false rfl rfl (.inl rfl) rfl (sq rfl rfl (q_pick_t rfl rfl rfl rfl) (SOps.sub (st' := ⟨[(35, .c (.bool true))], []⟩) (sub_gen [] rfl rfl (zall rfl rfl) trivial) (SOps.nil (SCode.cond_t rfl rfl (SCode.seq (SCode.region (sa rfl rfl (SOps.nil (SCode.ret ?_)))))))))))))))
  obtain rfl := Option.some.inj h
  exact ⟨⟨[(6, ci 2)], []⟩, _, sub_gen [] rfl rfl (zall rfl rfl) trivial, resA1 (v := .c (.int .i64 2)) rfl rfl, rfl⟩
 rcases cond_out h with ⟨g7, h⟩ | ⟨g7, h⟩
 ·refine SCode.region (sm rfl rfl (sq rfl rfl (q_lss rfl rfl rfl) (sm rfl rfl (SOps.q rfl (.guard 2 15 false rfl rfl (gF g4)) rfl (q_move rfl rfl) (SOps.q rfl (.guard 2 15 false rfl rfl (gF g4)) rfl (q_field_ptr rfl rfl fd49_0) (SOps.q rfl (.guard 2 15 false rfl rfl (gF g4)) rfl (q_load_ptr rfl rfl rfl rfl ty3) (SOps.q rfl (.guard 2 15 false rfl rfl (gF g4)) rfl (q_geq rfl rfl rfl) (sq rfl rfl (q_pick_f rfl rfl g4 rfl) (sm rfl rfl (SOps.q rfl (.guard 8 21 false rfl rfl (gF g5)) rfl (q_move rfl rfl) (SOps.q rfl (.guard 8 21 false rfl rfl (gF g5)) rfl (q_lss rfl rfl rfl) (sq rfl rfl (q_pick_f rfl rfl g5 rfl) (sm rfl rfl (SOps.q rfl (.guard 12 25 false rfl rfl (gF g6)) rfl (q_move rfl rfl) (SOps.q rfl (.guard 12 25 false rfl rfl (gF g6)) rfl (q_field_ptr rfl rfl fd49_0) ?_)))))))))))))))
  refine SOps.q rfl (.guard 12 25 false rfl rfl (gF g6)) rfl (q_load_ptr rfl rfl rfl rfl ty3) (SOps.q rfl (.guard 12 25 false rfl rfl (gF g6)) rfl (q_geq rfl rfl rfl) (sq rfl rfl (q_pick_f rfl rfl g6 rfl) (sm rfl rfl (SOps.skip rfl 18 31 false rfl rfl (.inl (gT g7)) rfl (SOps.skip rfl 18 31 false rfl rfl (.inl (gT g7)) rfl (SOps.skip rfl 18 31 false rfl rfl (.inl (gT g7)) rfl (sq rfl rfl (q_pick_t rfl rfl g7 rfl) (SOps.sub (st' := ⟨[(35, .c (.bool true))], []⟩) (sub_gen [] rfl rfl (zall rfl rfl) trivial) (SOps.nil (SCode.cond_t rfl rfl (SCode.seq (SCode.region (sa rfl rfl (SOps.nil (SCode.ret ?_)))))))))))))))
  obtain rfl := Option.some.inj h
  exact ⟨⟨[(6, ci 2)], []⟩, _, sub_gen [] rfl rfl (zall rfl rfl) trivial, resA1 (v := .c (.int .i64 2)) rfl rfl, rfl⟩
 refine SCode.region (sm rfl rfl (sq rfl rfl (q_lss rfl rfl rfl) (sm rfl rfl (SOps.q rfl (.guard 2 15 false rfl rfl (gF g4)) rfl (q_move rfl rfl) (SOps.q rfl (.guard 2 15 false rfl rfl (gF g4)) rfl (q_field_ptr rfl rfl fd49_0) (SOps.q rfl (.guard 2 15 false rfl rfl (gF g4)) rfl (q_load_ptr rfl rfl rfl rfl ty3) (SOps.q rfl (.guard 2 15 false rfl rfl (gF g4)) rfl (q_geq rfl rfl rfl) (sq rfl rfl (q_pick_f rfl rfl g4 rfl) (sm rfl rfl (SOps.q rfl (.guard 8 21 false rfl rfl (gF g5)) rfl (q_move rfl rfl) (SOps.q rfl (.guard 8 21 false rfl rfl (gF g5)) rfl (q_lss rfl rfl rfl) (sq rfl rfl (q_pick_f rfl rfl g5 rfl) (sm rfl rfl (SOps.q rfl (.guard 12 25 false rfl rfl (gF g6)) rfl (q_move rfl rfl) (SOps.q rfl (.guard 12 25 false rfl rfl (gF g6)) rfl (q_field_ptr rfl rfl fd49_0) ?_)))))))))))))))
 refine SOps.q rfl (.guard 12 25 false rfl rfl (gF g6)) rfl (q_load_ptr rfl rfl rfl rfl ty3) (SOps.q rfl (.guard 12 25 false rfl rfl (gF g6)) rfl (q_geq rfl rfl rfl) (sq rfl rfl (q_pick_f rfl rfl g6 rfl) (sm rfl rfl (SOps.q rfl (.guard 18 31 false rfl rfl (gF g7)) rfl (q_move rfl rfl) (SOps.q rfl (.guard 18 31 false rfl rfl (gF g7)) rfl (q_move rfl rfl) (SOps.q rfl (.guard 18 31 false rfl rfl (gF g7)) rfl (q_eql rfl rfl rfl) (sq rfl rfl (q_pick_f rfl rfl g7 rfl) (SOps.sub (st' := ⟨[(35, .c (.bool (decide (a1_source = a2_sink))))], []⟩) (sub_gen [] rfl rfl (zall rfl rfl) trivial) (SOps.nil ?_)))))))))
 rcases cond_out h with ⟨g8, h⟩ | ⟨g8, h⟩
 ·refine SCode.cond_t rfl g8 (SCode.seq (SCode.region (sa rfl rfl (SOps.nil (SCode.ret ?_)))))
  obtain rfl := Option.some.inj h
  exact ⟨⟨[(6, ci 2)], []⟩, _, sub_gen [] rfl rfl (zall rfl rfl) trivial, resA1 (v := .c (.int .i64 2)) rfl rfl, rfl⟩
 refine SCode.cond_f rfl g8 (SCode.skip (SCode.seq (SCode.region (sa rfl rfl (SOps.nil (SCode.ret ?_))))))
 obtain rfl := Option.some.inj h
 exact ⟨⟨[(6, ci 0)], []⟩, _, sub_gen [] rfl rfl (zall rfl rfl) trivial, resA1 (v := .c (.int .i64 0)) rfl rfl, rfl⟩
end Go.Proofs.Ytfefnffdocmlmaa.W
