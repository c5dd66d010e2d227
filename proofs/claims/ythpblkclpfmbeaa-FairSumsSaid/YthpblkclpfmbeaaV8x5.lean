/- Written by a program of ours (wip/eng/gen.py): the functions compute their models. -/
import Derived.Test.YthpblkclpfmbeaaFacts
import Derived.Test.YthpblkclpfmbeaaV8x4
namespace Go.Proofs.Ythpblkclpfmbeaa.W
open Go Go.Proofs Go.Proofs.Ythpblkclpfmbeaa.E Go.Proofs.Ythpblkclpfmbeaa.M
set_option linter.unusedVariables false
theorem hush31_fair_Fill_f1_nil : Hush Try.prog 31 := Hush.of Try.func31 rfl rfl rfl rfl rfl rfl rfl rfl rfl rfl if20
set_option maxRecDepth 100000 in
set_option maxHeartbeats 8000000 in
theorem fair_Fill_f1_nil_ok (F : Nat) (a0_caps : List Int) (r : (List Int) × Int) (h : fair_Fill_f1_nil F a0_caps = some r) :
    SFun Try.prog 19 [] [.c (.vec a0_caps.length 1 (gL (cInt .i64) 0 a0_caps)), .c (.raw .nilFunc)] (fun x _ => x = .t [.c (.vec r.1.length 1 (gL (cInt .i64) 0 r.1)), .c (.int .i64 r.2)]) := by
  refine SFun.ofD (n := 56) Try.func19 hush31_fair_Fill_f1_nil fn31 rfl rfl rfl rfl rfl rfl rfl rfl rfl rfl ?_
  unfold fair_Fill_f1_nil at h
  show SCode _ _ _ ⟨[(0, .c (.vec a0_caps.length 1 (gL (cInt .i64) 0 a0_caps))), (1, .c (.raw .nilFunc))], []⟩ _
  refine SCode.region (show SOps _ _ _ [0, 1] _ _ from ?_)
  refine SOps.e rfl (.plain rfl) (e_alloc rfl rfl rfl z22) ?_
  refine SOps.e rfl (.plain rfl) (e_alloc rfl rfl rfl z24) ?_
  refine SOps.sub (st' := ⟨[(0, .c (.vec a0_caps.length 1 (gL (cInt .i64) 0 a0_caps))), (1, .c (.raw .nilFunc)), (4, .c (.ptr 0 0)), (5, .c (.ptr 1 0))], [.box [.raw (.slice none 0 0)], .box [.int .i64 0]]⟩) (sub_gen [0, 1] rfl rfl ⟨zc rfl rfl, zc rfl rfl, zc rfl rfl, zc rfl rfl, trivial⟩ ⟨⟨_, rfl, ⟨ii rfl rfl, trivial⟩⟩, ⟨_, rfl, ⟨ii rfl rfl, trivial⟩⟩, trivial⟩) ?_
  refine SOps.nil ?_
  refine ⟨rfl, ?_⟩
  show SCode _ _ _ ⟨[(0, .c (.vec a0_caps.length 1 (gL (cInt .i64) 0 a0_caps))), (1, .c (.raw .nilFunc)), (4, .c (.ptr 0 0)), (5, .c (.ptr 1 0))], [.box [.raw (.slice none 0 0)], .box [.int .i64 0]]⟩ _
  refine SCode.seq ?_
  refine SCode.seq ?_
  refine SCode.region (show SOps _ _ _ [0, 1] _ _ from ?_)
  refine SOps.q rfl (.plain rfl) rfl (q_move rfl rfl) ?_
  refine SOps.q rfl (.plain rfl) rfl (q_eqlF (b := true) rfl rfl rfl rfl fb35) ?_
  refine SOps.sub (st' := ⟨[(0, .c (.vec a0_caps.length 1 (gL (cInt .i64) 0 a0_caps))), (1, .c (.raw .nilFunc)), (4, .c (.ptr 0 0)), (5, .c (.ptr 1 0)), (12, .c (.bool true))], [.box [.raw (.slice none 0 0)], .box [.int .i64 0]]⟩) (sub_gen [0, 1] rfl rfl ⟨zc rfl rfl, zc rfl rfl, zc rfl rfl, zc rfl rfl, zc rfl rfl, trivial⟩ ⟨⟨_, rfl, ⟨ii rfl rfl, trivial⟩⟩, ⟨_, rfl, ⟨ii rfl rfl, trivial⟩⟩, trivial⟩) ?_
  refine SOps.nil ?_
  refine SCode.cond_t rfl rfl ?_
  refine SCode.seq ?_
  refine SCode.region (show SOps _ _ _ [0, 1] _ _ from ?_)
  refine SOps.e rfl (.plain rfl) (e_store_box rfl rfl rfl rfl rfl ty22 rfl rfl rfl rfl) ?_
  refine SOps.e rfl (.plain rfl) (e_store_box rfl rfl rfl rfl rfl ty24 rfl rfl rfl rfl) ?_
  refine SOps.sub (st' := ⟨[(4, .c (.ptr 0 0)), (5, .c (.ptr 1 0))], [.box [.raw (.slice none 0 0)], .box [.int .i64 1]]⟩) (sub_gen [0, 1] rfl rfl ⟨zc rfl rfl, zc rfl rfl, trivial⟩ ⟨⟨_, rfl, ⟨ii rfl rfl, trivial⟩⟩, ⟨_, rfl, ⟨ii rfl rfl, trivial⟩⟩, trivial⟩) ?_
  refine SOps.nil ?_
  refine SCode.ret ?_
  obtain rfl := Option.some.inj h
  exact ⟨⟨[(4, .c (.ptr 0 0)), (5, .c (.ptr 1 0))], [.box [.vec (([] : List Int)).length 1 (gL (cInt .i64) 0 (([] : List Int)))], .box [.int .i64 1]]⟩, _, sub_gen [0, 1] rfl rfl ⟨zc rfl rfl, zc rfl rfl, trivial⟩ ⟨⟨_, rfl, ⟨.inr (.inr (.inr (.inl ⟨_, _, rfl, rfl⟩))), trivial⟩⟩, ⟨_, rfl, ⟨ii rfl rfl, trivial⟩⟩, trivial⟩, resA2 (v1 := .c (.vec (([] : List Int)).length 1 (gL (cInt .i64) 0 (([] : List Int))))) (v2 := .c (.int .i64 1)) rfl ⟨_, rfl, rfl, ty22⟩ ⟨_, rfl, rfl, ty24⟩, rfl⟩
set_option maxRecDepth 100000 in
set_option maxHeartbeats 8000000 in
theorem chargenetlaw10_exampleHolds_1_ok (F : Nat) (a0_l : List Int) (r : Bool) (h : chargenetlaw10_exampleHolds_1 F a0_l = some r) :
    SFun Try.prog 21 [] [.c (.vec a0_l.length 1 (gL (cInt .i64) 0 a0_l))] (fun x _ => x = .c (.bool r)) := by
  refine SFun.of (n := 22) Try.func21 rfl rfl rfl ?_
  unfold chargenetlaw10_exampleHolds_1 at h
  show SCode _ _ _ ⟨[(0, .c (.vec a0_l.length 1 (gL (cInt .i64) 0 a0_l)))], []⟩ _
  refine SCode.seq ?_
  refine SCode.region (show SOps _ _ _ [0] _ _ from ?_)
  refine SOps.q rfl (.plain rfl) rfl (q_assign rfl rfl) ?_
  refine SOps.sub (st' := ⟨[(0, .c (.vec a0_l.length 1 (gL (cInt .i64) 0 a0_l)))], []⟩) (sub_gen [] rfl rfl ⟨zc rfl rfl, trivial⟩ trivial) ?_
  refine SOps.nil ?_
  refine SCode.seq ?_
  rcases cond_out h with ⟨g1, h⟩ | ⟨g1, h⟩
  · obtain ⟨g2, h⟩ := guard_out h
    rcases cond_out h with ⟨g3, h⟩ | ⟨g3, h⟩
    · obtain ⟨g4, h⟩ := guard_out h
      obtain ⟨g5, h⟩ := guard_out h
      refine SCode.draw (s' := [(2, .c (.bool (decide (IntKind.wrap .i64 (a0_l.getD (0 : Int).toNat 0 + a0_l.getD (1 : Int).toNat 0) ≤ 6)))), (21, .c (.bool (decide (IntKind.wrap .i64 (a0_l.getD (0 : Int).toNat 0 + a0_l.getD (1 : Int).toNat 0) ≤ 6)))), (20, .c (.bool (decide (IntKind.wrap .i64 (a0_l.getD (0 : Int).toNat 0 + a0_l.getD (1 : Int).toNat 0) ≤ 6)))), (19, .c (.int .i64 (IntKind.wrap .i64 (a0_l.getD (0 : Int).toNat 0 + a0_l.getD (1 : Int).toNat 0)))), (18, .c (.int .i64 (a0_l.getD (1 : Int).toNat 0))), (17, .c (.eptr 1 ((cInt .i64) (a0_l.getD (1 : Int).toNat 0)) 0)), (16, .c (.vec a0_l.length 1 (gL (cInt .i64) 0 a0_l))), (15, .c (.int .i64 (a0_l.getD (0 : Int).toNat 0))), (14, .c (.eptr 1 ((cInt .i64) (a0_l.getD (0 : Int).toNat 0)) 0)), (13, .c (.vec a0_l.length 1 (gL (cInt .i64) 0 a0_l))), (12, .c (.bool (decide (a0_l.getD (0 : Int).toNat 0 ≤ 2)))), (11, .c (.bool (decide (a0_l.getD (0 : Int).toNat 0 ≤ 2)))), (10, .c (.bool (decide (a0_l.getD (0 : Int).toNat 0 ≤ 2)))), (9, .c (.int .i64 (a0_l.getD (0 : Int).toNat 0))), (8, .c (.eptr 1 ((cInt .i64) (a0_l.getD (0 : Int).toNat 0)) 0)), (7, .c (.vec a0_l.length 1 (gL (cInt .i64) 0 a0_l))), (6, .c (.bool (decide (((a0_l).length : Int) = 2)))), (5, .c (.bool (decide (((a0_l).length : Int) = 2)))), (4, .c (.int .i64 (((a0_l).length : Int)))), (3, .c (.vec a0_l.length 1 (gL (cInt .i64) 0 a0_l))), (0, .c (.vec a0_l.length 1 (gL (cInt .i64) 0 a0_l)))]) mixed [[], [0], [0, 1], [0, 1, 2], [0, 1, 2, 3], [0, 1, 2, 3, 4], [0, 1, 2, 3, 4, 5], [0, 1, 2, 3, 4, 5, 6], [0, 1, 2, 3, 4, 5, 6, 7], [0, 1, 2, 3, 4, 5, 6, 7, 8], [0, 1, 2, 3, 4, 5, 6, 7, 8, 9], [0, 1, 2, 3, 4, 5, 6, 7, 8, 9, 10], [0, 1, 2, 3, 4, 5, 6, 7, 8, 9, 10, 11], [0, 1, 2, 3, 4, 5, 6, 7, 8, 9], [0, 1, 2, 3, 4, 5, 6, 7, 8, 9, 13], [0, 1, 2, 3, 4, 5, 6, 7, 8, 9, 13, 14], [0, 1, 2, 3, 4, 5, 6, 7, 8, 9, 10, 11, 12, 13, 14, 15], [0, 1, 2, 3, 4, 5, 6, 7, 8, 9, 10, 11, 12, 13, 14, 15, 16], [0, 1, 2, 3, 4, 5, 6, 7, 8, 9, 10, 11, 12, 13, 14, 15, 16, 17], [0, 1, 2, 3, 4, 5, 6, 7, 8, 9, 10, 11, 12, 13, 14, 15, 16, 17, 18]] 20 0 rfl rfl ?_ ?_
      · refine QChain.run rfl (.plain rfl) rfl (q_move rfl rfl) ?_
        refine QChain.run rfl (.plain rfl) rfl (q_len_vec rfl rfl sl22) ?_
        refine QChain.run rfl (.plain rfl) rfl (q_eql rfl rfl rfl) ?_
        refine QChain.run rfl (.plain rfl) rfl (q_move rfl rfl) ?_
        refine QChain.run rfl (.guard 3 6 true rfl rfl (gT g1)) rfl (q_move rfl rfl) ?_
        refine QChain.run rfl (.guard 3 6 true rfl rfl (gT g1)) rfl (q_index_vec rfl rfl rfl sl22 rfl g2.1 g2.2) ?_
        refine QChain.run rfl (.guard 3 6 true rfl rfl (gT g1)) rfl (q_load_eptr rfl rfl ty3) ?_
        refine QChain.run rfl (.guard 3 6 true rfl rfl (gT g1)) rfl (q_leq rfl rfl rfl) ?_
        refine QChain.run rfl (.plain rfl) rfl (q_pick_t rfl rfl g1 rfl) ?_
        refine QChain.run rfl (.plain rfl) rfl (q_move rfl rfl) ?_
        refine QChain.run rfl (.guard 9 12 true rfl rfl (gT g3)) rfl (q_move rfl rfl) ?_
        refine QChain.run rfl (.guard 9 12 true rfl rfl (gT g3)) rfl (q_index_vec rfl rfl rfl sl22 rfl g4.1 g4.2) ?_
        refine QChain.run rfl (.guard 9 12 true rfl rfl (gT g3)) rfl (q_load_eptr rfl rfl ty3) ?_
        refine QChain.run rfl (.guard 9 12 true rfl rfl (gT g3)) rfl (q_move rfl rfl) ?_
        refine QChain.run rfl (.guard 9 12 true rfl rfl (gT g3)) rfl (q_index_vec rfl rfl rfl sl22 rfl g5.1 g5.2) ?_
        refine QChain.run rfl (.guard 9 12 true rfl rfl (gT g3)) rfl (q_load_eptr rfl rfl ty3) ?_
        refine QChain.run rfl (.guard 9 12 true rfl rfl (gT g3)) rfl (q_add rfl rfl rfl) ?_
        refine QChain.run rfl (.guard 9 12 true rfl rfl (gT g3)) rfl (q_leq rfl rfl rfl) ?_
        refine QChain.run rfl (.plain rfl) rfl (q_pick_t rfl rfl g3 rfl) ?_
        refine QChain.run rfl (.plain rfl) rfl (q_assign rfl rfl) ?_
        exact QChain.nil _ _
      refine (show SOps _ _ _ [] _ _ from ?_)
      refine SOps.sub (st' := ⟨[(2, .c (.bool (decide (IntKind.wrap .i64 (a0_l.getD (0 : Int).toNat 0 + a0_l.getD (1 : Int).toNat 0) ≤ 6))))], []⟩) (sub_gen [] rfl rfl ⟨zc rfl rfl, trivial⟩ trivial) ?_
      refine SOps.nil ?_
      refine SCode.ret ?_
      obtain rfl := Option.some.inj h
      exact ⟨⟨[(2, .c (.bool (decide (IntKind.wrap .i64 (a0_l.getD (0 : Int).toNat 0 + a0_l.getD (1 : Int).toNat 0) ≤ 6))))], []⟩, _, sub_gen [] rfl rfl ⟨zc rfl rfl, trivial⟩ trivial, resA1 (v := .c (.bool (decide (IntKind.wrap .i64 (a0_l.getD (0 : Int).toNat 0 + a0_l.getD (1 : Int).toNat 0) ≤ 6)))) rfl rfl, rfl⟩
    refine SCode.draw (s' := [(2, .c (.bool false)), (21, .c (.bool false)), (20, .c (.raw (.tuple #[]))), (19, .c (.raw (.tuple #[]))), (18, .c (.raw (.tuple #[]))), (17, .c (.raw (.tuple #[]))), (16, .c (.raw (.tuple #[]))), (15, .c (.raw (.tuple #[]))), (14, .c (.raw (.tuple #[]))), (13, .c (.raw (.tuple #[]))), (12, .c (.bool (decide (a0_l.getD (0 : Int).toNat 0 ≤ 2)))), (11, .c (.bool (decide (a0_l.getD (0 : Int).toNat 0 ≤ 2)))), (10, .c (.bool (decide (a0_l.getD (0 : Int).toNat 0 ≤ 2)))), (9, .c (.int .i64 (a0_l.getD (0 : Int).toNat 0))), (8, .c (.eptr 1 ((cInt .i64) (a0_l.getD (0 : Int).toNat 0)) 0)), (7, .c (.vec a0_l.length 1 (gL (cInt .i64) 0 a0_l))), (6, .c (.bool (decide (((a0_l).length : Int) = 2)))), (5, .c (.bool (decide (((a0_l).length : Int) = 2)))), (4, .c (.int .i64 (((a0_l).length : Int)))), (3, .c (.vec a0_l.length 1 (gL (cInt .i64) 0 a0_l))), (0, .c (.vec a0_l.length 1 (gL (cInt .i64) 0 a0_l)))]) mixed [[], [0], [0, 1], [0, 1, 2], [0, 1, 2, 3], [0, 1, 2, 3, 4], [0, 1, 2, 3, 4, 5], [0, 1, 2, 3, 4, 5, 6], [0, 1, 2, 3, 4, 5, 6, 7], [0, 1, 2, 3, 4, 5, 6, 7, 8], [0, 1, 2, 3, 4, 5, 6, 7, 8, 9], [0, 1, 2, 3, 4, 5, 6, 7, 8, 9, 10], [0, 1, 2, 3, 4, 5, 6, 7, 8, 9, 10, 11], [0, 1, 2, 3, 4, 5, 6, 7, 8, 9], [0, 1, 2, 3, 4, 5, 6, 7, 8, 9, 13], [0, 1, 2, 3, 4, 5, 6, 7, 8, 9, 13, 14], [0, 1, 2, 3, 4, 5, 6, 7, 8, 9, 10, 11, 12, 13, 14, 15], [0, 1, 2, 3, 4, 5, 6, 7, 8, 9, 10, 11, 12, 13, 14, 15, 16], [0, 1, 2, 3, 4, 5, 6, 7, 8, 9, 10, 11, 12, 13, 14, 15, 16, 17], [0, 1, 2, 3, 4, 5, 6, 7, 8, 9, 10, 11, 12, 13, 14, 15, 16, 17, 18]] 20 0 rfl rfl ?_ ?_
    · refine QChain.run rfl (.plain rfl) rfl (q_move rfl rfl) ?_
      refine QChain.run rfl (.plain rfl) rfl (q_len_vec rfl rfl sl22) ?_
      refine QChain.run rfl (.plain rfl) rfl (q_eql rfl rfl rfl) ?_
      refine QChain.run rfl (.plain rfl) rfl (q_move rfl rfl) ?_
      refine QChain.run rfl (.guard 3 6 true rfl rfl (gT g1)) rfl (q_move rfl rfl) ?_
      refine QChain.run rfl (.guard 3 6 true rfl rfl (gT g1)) rfl (q_index_vec rfl rfl rfl sl22 rfl g2.1 g2.2) ?_
      refine QChain.run rfl (.guard 3 6 true rfl rfl (gT g1)) rfl (q_load_eptr rfl rfl ty3) ?_
      refine QChain.run rfl (.guard 3 6 true rfl rfl (gT g1)) rfl (q_leq rfl rfl rfl) ?_
      refine QChain.run rfl (.plain rfl) rfl (q_pick_t rfl rfl g1 rfl) ?_
      refine QChain.run rfl (.plain rfl) rfl (q_move rfl rfl) ?_
      refine QChain.skip rfl ⟨9, 12, true, rfl, rfl, (.inl (gF g3))⟩ rfl ?_
      refine QChain.skip rfl ⟨9, 12, true, rfl, rfl, (.inl (gF g3))⟩ rfl ?_
      refine QChain.skip rfl ⟨9, 12, true, rfl, rfl, (.inl (gF g3))⟩ rfl ?_
      refine QChain.skip rfl ⟨9, 12, true, rfl, rfl, (.inl (gF g3))⟩ rfl ?_
      refine QChain.skip rfl ⟨9, 12, true, rfl, rfl, (.inl (gF g3))⟩ rfl ?_
      refine QChain.skip rfl ⟨9, 12, true, rfl, rfl, (.inl (gF g3))⟩ rfl ?_
      refine QChain.skip rfl ⟨9, 12, true, rfl, rfl, (.inl (gF g3))⟩ rfl ?_
      refine QChain.skip rfl ⟨9, 12, true, rfl, rfl, (.inl (gF g3))⟩ rfl ?_
      refine QChain.run rfl (.plain rfl) rfl (q_pick_f rfl rfl g3 rfl) ?_
      refine QChain.run rfl (.plain rfl) rfl (q_assign rfl rfl) ?_
      exact QChain.nil _ _
    refine (show SOps _ _ _ [] _ _ from ?_)
    refine SOps.sub (st' := ⟨[(2, .c (.bool false))], []⟩) (sub_gen [] rfl rfl ⟨zc rfl rfl, trivial⟩ trivial) ?_
    refine SOps.nil ?_
    refine SCode.ret ?_
    obtain rfl := Option.some.inj h
    exact ⟨⟨[(2, .c (.bool false))], []⟩, _, sub_gen [] rfl rfl ⟨zc rfl rfl, trivial⟩ trivial, resA1 (v := .c (.bool false)) rfl rfl, rfl⟩
  refine SCode.draw (s' := [(2, .c (.bool false)), (21, .c (.bool false)), (20, .c (.raw (.tuple #[]))), (19, .c (.raw (.tuple #[]))), (18, .c (.raw (.tuple #[]))), (17, .c (.raw (.tuple #[]))), (16, .c (.raw (.tuple #[]))), (15, .c (.raw (.tuple #[]))), (14, .c (.raw (.tuple #[]))), (13, .c (.raw (.tuple #[]))), (12, .c (.bool false)), (11, .c (.bool false)), (10, .c (.raw (.tuple #[]))), (9, .c (.raw (.tuple #[]))), (8, .c (.raw (.tuple #[]))), (7, .c (.raw (.tuple #[]))), (6, .c (.bool (decide (((a0_l).length : Int) = 2)))), (5, .c (.bool (decide (((a0_l).length : Int) = 2)))), (4, .c (.int .i64 (((a0_l).length : Int)))), (3, .c (.vec a0_l.length 1 (gL (cInt .i64) 0 a0_l))), (0, .c (.vec a0_l.length 1 (gL (cInt .i64) 0 a0_l)))]) mixed [[], [0], [0, 1], [0, 1, 2], [0, 1, 2, 3], [0, 1, 2, 3, 4], [0, 1, 2, 3, 4, 5], [0, 1, 2, 3, 4, 5, 6], [0, 1, 2, 3, 4, 5, 6, 7], [0, 1, 2, 3, 4, 5, 6, 7, 8], [0, 1, 2, 3, 4, 5, 6, 7, 8, 9], [0, 1, 2, 3, 4, 5, 6, 7, 8, 9, 10], [0, 1, 2, 3, 4, 5, 6, 7, 8, 9, 10, 11], [0, 1, 2, 3, 4, 5, 6, 7, 8, 9], [0, 1, 2, 3, 4, 5, 6, 7, 8, 9, 13], [0, 1, 2, 3, 4, 5, 6, 7, 8, 9, 13, 14], [0, 1, 2, 3, 4, 5, 6, 7, 8, 9, 10, 11, 12, 13, 14, 15], [0, 1, 2, 3, 4, 5, 6, 7, 8, 9, 10, 11, 12, 13, 14, 15, 16], [0, 1, 2, 3, 4, 5, 6, 7, 8, 9, 10, 11, 12, 13, 14, 15, 16, 17], [0, 1, 2, 3, 4, 5, 6, 7, 8, 9, 10, 11, 12, 13, 14, 15, 16, 17, 18]] 20 0 rfl rfl ?_ ?_
  · refine QChain.run rfl (.plain rfl) rfl (q_move rfl rfl) ?_
    refine QChain.run rfl (.plain rfl) rfl (q_len_vec rfl rfl sl22) ?_
    refine QChain.run rfl (.plain rfl) rfl (q_eql rfl rfl rfl) ?_
    refine QChain.run rfl (.plain rfl) rfl (q_move rfl rfl) ?_
    refine QChain.skip rfl ⟨3, 6, true, rfl, rfl, (.inl (gF g1))⟩ rfl ?_
    refine QChain.skip rfl ⟨3, 6, true, rfl, rfl, (.inl (gF g1))⟩ rfl ?_
    refine QChain.skip rfl ⟨3, 6, true, rfl, rfl, (.inl (gF g1))⟩ rfl ?_
    refine QChain.skip rfl ⟨3, 6, true, rfl, rfl, (.inl (gF g1))⟩ rfl ?_
    refine QChain.run rfl (.plain rfl) rfl (q_pick_f rfl rfl g1 rfl) ?_
    refine QChain.run rfl (.plain rfl) rfl (q_move rfl rfl) ?_
    refine QChain.skip rfl ⟨9, 12, true, rfl, rfl, (.inl rfl)⟩ rfl ?_
    refine QChain.skip rfl ⟨9, 12, true, rfl, rfl, (.inl rfl)⟩ rfl ?_
    refine QChain.skip rfl ⟨9, 12, true, rfl, rfl, (.inl rfl)⟩ rfl ?_
    refine QChain.skip rfl ⟨9, 12, true, rfl, rfl, (.inl rfl)⟩ rfl ?_
    refine QChain.skip rfl ⟨9, 12, true, rfl, rfl, (.inl rfl)⟩ rfl ?_
    refine QChain.skip rfl ⟨9, 12, true, rfl, rfl, (.inl rfl)⟩ rfl ?_
    refine QChain.skip rfl ⟨9, 12, true, rfl, rfl, (.inl rfl)⟩ rfl ?_
    refine QChain.skip rfl ⟨9, 12, true, rfl, rfl, (.inl rfl)⟩ rfl ?_
    refine QChain.run rfl (.plain rfl) rfl (q_pick_f rfl rfl rfl rfl) ?_
    refine QChain.run rfl (.plain rfl) rfl (q_assign rfl rfl) ?_
    exact QChain.nil _ _
  refine (show SOps _ _ _ [] _ _ from ?_)
  refine SOps.sub (st' := ⟨[(2, .c (.bool false))], []⟩) (sub_gen [] rfl rfl ⟨zc rfl rfl, trivial⟩ trivial) ?_
  refine SOps.nil ?_
  refine SCode.ret ?_
  obtain rfl := Option.some.inj h
  exact ⟨⟨[(2, .c (.bool false))], []⟩, _, sub_gen [] rfl rfl ⟨zc rfl rfl, trivial⟩ trivial, resA1 (v := .c (.bool false)) rfl rfl, rfl⟩
set_option maxRecDepth 100000 in
set_option maxHeartbeats 8000000 in
theorem fair_division_raise_f0_pr21_ok (F : Nat) (a0_v_caps : List Int) (a0_v_x : List Int) (a0_v_active : List Bool) (a0_v_trial : List Int) (a1_d : Int) (r : List Int) (h : fair_division_raise_f0_pr21 F a0_v_caps a0_v_x a0_v_active a0_v_trial a1_d = some r) :
    SFun Try.prog 40 [.box [.vec a0_v_caps.length 1 (gL (cInt .i64) 0 a0_v_caps), .raw (.func (.func 21) #[] #[]), .own 1 a0_v_x.length, .own 2 a0_v_active.length, .own 3 a0_v_trial.length], .arr 3 1 a0_v_x.length (gL (cInt .i64) 0 a0_v_x), .arr 4 1 a0_v_active.length (gL cBool false a0_v_active), .arr 3 1 a0_v_trial.length (gL (cInt .i64) 0 a0_v_trial)] [.c (.ptr 0 0), .c (.int .i64 a1_d)] (fun x os => x = .t [] ∧ os = [.box [.vec a0_v_caps.length 1 (gL (cInt .i64) 0 a0_v_caps), .raw (.func (.func 21) #[] #[]), .own 1 a0_v_x.length, .own 2 a0_v_active.length, .own 3 r.length], .arr 3 1 a0_v_x.length (gL (cInt .i64) 0 a0_v_x), .arr 4 1 a0_v_active.length (gL cBool false a0_v_active), .arr 3 1 r.length (gL (cInt .i64) 0 r)]) := by
  refine SFun.of (n := 43) Try.func40 rfl rfl rfl ?_
  unfold fair_division_raise_f0_pr21 at h
  show SCode _ _ _ ⟨[(0, .c (.ptr 0 0)), (1, .c (.int .i64 a1_d))], [.box [.vec a0_v_caps.length 1 (gL (cInt .i64) 0 a0_v_caps), .raw (.func (.func 21) #[] #[]), .own 1 a0_v_x.length, .own 2 a0_v_active.length, .own 3 a0_v_trial.length], .arr 3 1 a0_v_x.length (gL (cInt .i64) 0 a0_v_x), .arr 4 1 a0_v_active.length (gL cBool false a0_v_active), .arr 3 1 a0_v_trial.length (gL (cInt .i64) 0 a0_v_trial)]⟩ _
  refine SCode.seq ?_
  refine SCode.region (show SOps _ _ _ [0, 1, 2, 3, 4, 5] _ _ from ?_)
  refine SOps.q rfl (.plain rfl) rfl (q_move rfl rfl) ?_
  refine SOps.q rfl (.plain rfl) rfl (q_nilCheck rfl rfl rfl) ?_
  refine SOps.q rfl (.plain rfl) rfl (q_field_ptr rfl rfl fd54_2) ?_
  refine SOps.q rfl (.plain rfl) rfl (q_load_ptr rfl rfl rfl rfl ty22) ?_
  refine SOps.q rfl (.plain rfl) rfl (q_len_own rfl rfl sl22) ?_
  refine SOps.q rfl (.plain rfl) rfl (q_move rfl rfl) ?_
  refine SOps.sub (st' := ⟨[(0, .c (.ptr 0 0)), (1, .c (.int .i64 a1_d)), (9, .c (.own 1 a0_v_x.length)), (10, .c (.int .i64 (((a0_v_x).length : Int)))), (11, .c (.int .i64 0))], [.box [.vec a0_v_caps.length 1 (gL (cInt .i64) 0 a0_v_caps), .raw (.func (.func 21) #[] #[]), .own 1 a0_v_x.length, .own 2 a0_v_active.length, .own 3 a0_v_trial.length], .arr 3 1 a0_v_x.length (gL (cInt .i64) 0 a0_v_x), .arr 4 1 a0_v_active.length (gL cBool false a0_v_active), .arr 3 1 a0_v_trial.length (gL (cInt .i64) 0 a0_v_trial)]⟩) (sub_gen [0, 1, 2, 3] rfl rfl ⟨zc rfl rfl, zc rfl rfl, zc rfl rfl, zc rfl rfl, zc rfl rfl, trivial⟩ ⟨⟨_, rfl, ⟨ii rfl rfl, ii rfl rfl, ii rfl rfl, ii rfl rfl, ii rfl rfl, trivial⟩⟩, oa rfl, oa rfl, oa rfl, trivial⟩) ?_
  refine SOps.nil ?_
  refine SCode.block ?_
  refine SCode.sub (st' := ⟨[(0, .c (.ptr 0 0)), (1, .c (.int .i64 a1_d)), (9, .c (.own 1 a0_v_x.length)), (10, .c (.int .i64 (((a0_v_x).length : Int)))), (11, .c (.int .i64 0))], [.box [.vec a0_v_caps.length 1 (gL (cInt .i64) 0 a0_v_caps), .raw (.func (.func 21) #[] #[]), .own 1 a0_v_x.length, .own 2 a0_v_active.length, .own 3 a0_v_trial.length], .arr 3 1 a0_v_x.length (gL (cInt .i64) 0 a0_v_x), .arr 4 1 a0_v_active.length (gL cBool false a0_v_active), .arr 3 1 a0_v_trial.length (gL (cInt .i64) 0 a0_v_trial)]⟩) (sub_gen [0, 1, 2, 3] rfl rfl ⟨zc rfl rfl, zc rfl rfl, zc rfl rfl, zc rfl rfl, zc rfl rfl, trivial⟩ ⟨⟨_, rfl, ⟨ii rfl rfl, ii rfl rfl, ii rfl rfl, ii rfl rfl, ii rfl rfl, trivial⟩⟩, oa rfl, oa rfl, oa rfl, trivial⟩) ?_
  refine (SCode.loop (σ := Nat × (Int × (List Int))) (S := fun s => ⟨[(0, .c (.ptr 0 0)), (1, .c (.int .i64 a1_d)), (9, .c (.own 1 a0_v_x.length)), (10, .c (.int .i64 (((a0_v_x).length : Int)))), (11, .c (.int .i64 s.2.1))], [.box [.vec a0_v_caps.length 1 (gL (cInt .i64) 0 a0_v_caps), .raw (.func (.func 21) #[] #[]), .own 1 a0_v_x.length, .own 2 a0_v_active.length, .own 3 s.2.2.length], .arr 3 1 a0_v_x.length (gL (cInt .i64) 0 a0_v_x), .arr 4 1 a0_v_active.length (gL cBool false a0_v_active), .arr 3 1 s.2.2.length (gL (cInt .i64) 0 s.2.2)]⟩) (g := fun s => fair_division_raise_f0_pr21_l23 F a0_v_caps a0_v_x a0_v_active a1_d s.1 s.2.1 s.2.2 = some r) (μ := fun s => s.1) (F, (0, a0_v_trial)) h ?_)
  rintro ⟨n_23, ⟨t11_11, o3_12⟩⟩ h
  replace h : fair_division_raise_f0_pr21_l23 F a0_v_caps a0_v_x a0_v_active a1_d n_23 t11_11 o3_12 = some r := h
  show SCode _ _ _ ⟨[(0, .c (.ptr 0 0)), (1, .c (.int .i64 a1_d)), (9, .c (.own 1 a0_v_x.length)), (10, .c (.int .i64 (((a0_v_x).length : Int)))), (11, .c (.int .i64 t11_11))], [.box [.vec a0_v_caps.length 1 (gL (cInt .i64) 0 a0_v_caps), .raw (.func (.func 21) #[] #[]), .own 1 a0_v_x.length, .own 2 a0_v_active.length, .own 3 o3_12.length], .arr 3 1 a0_v_x.length (gL (cInt .i64) 0 a0_v_x), .arr 4 1 a0_v_active.length (gL cBool false a0_v_active), .arr 3 1 o3_12.length (gL (cInt .i64) 0 o3_12)]⟩ _
  cases n_23 with
  | zero => cases h
  | succ n_23 =>
    replace h : fair_division_raise_f0_pr21_b23 F a0_v_caps a0_v_x a0_v_active a1_d (fun t11_11 o3_12 => fair_division_raise_f0_pr21_l23 F a0_v_caps a0_v_x a0_v_active a1_d n_23 t11_11 o3_12) t11_11 o3_12 = some r := h
    unfold fair_division_raise_f0_pr21_b23 at h
    refine SCode.seq ?_
    refine SCode.region (show SOps _ _ _ [0] _ _ from ?_)
    refine SOps.q rfl (.plain rfl) rfl (q_lss rfl rfl rfl) ?_
    refine SOps.sub (st' := ⟨[(0, .c (.ptr 0 0)), (1, .c (.int .i64 a1_d)), (9, .c (.own 1 a0_v_x.length)), (10, .c (.int .i64 (((a0_v_x).length : Int)))), (11, .c (.int .i64 t11_11)), (12, .c (.bool (decide (t11_11 < ((a0_v_x).length : Int)))))], [.box [.vec a0_v_caps.length 1 (gL (cInt .i64) 0 a0_v_caps), .raw (.func (.func 21) #[] #[]), .own 1 a0_v_x.length, .own 2 a0_v_active.length, .own 3 o3_12.length], .arr 3 1 a0_v_x.length (gL (cInt .i64) 0 a0_v_x), .arr 4 1 a0_v_active.length (gL cBool false a0_v_active), .arr 3 1 o3_12.length (gL (cInt .i64) 0 o3_12)]⟩) (sub_gen [0, 1, 2, 3] rfl rfl ⟨zc rfl rfl, zc rfl rfl, zc rfl rfl, zc rfl rfl, zc rfl rfl, zc rfl rfl, trivial⟩ ⟨⟨_, rfl, ⟨ii rfl rfl, ii rfl rfl, ii rfl rfl, ii rfl rfl, ii rfl rfl, trivial⟩⟩, oa rfl, oa rfl, oa rfl, trivial⟩) ?_
    refine SOps.nil ?_
    refine SCode.seq ?_
    rcases cond_out h with ⟨g24, h⟩ | ⟨g24, h⟩
    · refine SCode.cond_t rfl g24 ?_
      refine SCode.skip ?_
      refine SCode.seq ?_
      refine SCode.block ?_
      refine SCode.seq ?_
      obtain ⟨g25, h⟩ := guard_out h
      refine SCode.region (show SOps _ _ _ [0, 1, 2, 3, 4] _ _ from ?_)
      refine SOps.q rfl (.plain rfl) rfl (q_move rfl rfl) ?_
      refine SOps.q rfl (.plain rfl) rfl (q_index_own rfl rfl rfl sl22 g25.1 g25.2) ?_
      refine SOps.q rfl (.plain rfl) rfl (q_load_aptr rfl rfl rfl (toNat_lt g25) rfl ty3) ?_
      refine SOps.q rfl (.plain rfl) rfl (q_assign rfl rfl) ?_
      refine SOps.q rfl (.plain rfl) rfl (q_assign rfl rfl) ?_
      refine SOps.sub (st' := ⟨[(0, .c (.ptr 0 0)), (1, .c (.int .i64 a1_d)), (4, .c (.int .i64 t11_11)), (5, .c (.int .i64 (a0_v_x.getD t11_11.toNat 0))), (9, .c (.own 1 a0_v_x.length)), (10, .c (.int .i64 (((a0_v_x).length : Int)))), (11, .c (.int .i64 t11_11))], [.box [.vec a0_v_caps.length 1 (gL (cInt .i64) 0 a0_v_caps), .raw (.func (.func 21) #[] #[]), .own 1 a0_v_x.length, .own 2 a0_v_active.length, .own 3 o3_12.length], .arr 3 1 a0_v_x.length (gL (cInt .i64) 0 a0_v_x), .arr 4 1 a0_v_active.length (gL cBool false a0_v_active), .arr 3 1 o3_12.length (gL (cInt .i64) 0 o3_12)]⟩) (sub_gen [0, 1, 2, 3] rfl rfl ⟨zc rfl rfl, zc rfl rfl, zc rfl rfl, zc rfl rfl, zc rfl rfl, zc rfl rfl, zc rfl rfl, trivial⟩ ⟨⟨_, rfl, ⟨ii rfl rfl, ii rfl rfl, ii rfl rfl, ii rfl rfl, ii rfl rfl, trivial⟩⟩, oa rfl, oa rfl, oa rfl, trivial⟩) ?_
      refine SOps.nil ?_
      refine SCode.join (σ := Int) (S := fun s => ⟨[(0, .c (.ptr 0 0)), (1, .c (.int .i64 a1_d)), (4, .c (.int .i64 t11_11)), (5, .c (.int .i64 s)), (9, .c (.own 1 a0_v_x.length)), (10, .c (.int .i64 (((a0_v_x).length : Int)))), (11, .c (.int .i64 t11_11))], [.box [.vec a0_v_caps.length 1 (gL (cInt .i64) 0 a0_v_caps), .raw (.func (.func 21) #[] #[]), .own 1 a0_v_x.length, .own 2 a0_v_active.length, .own 3 o3_12.length], .arr 3 1 a0_v_x.length (gL (cInt .i64) 0 a0_v_x), .arr 4 1 a0_v_active.length (gL cBool false a0_v_active), .arr 3 1 o3_12.length (gL (cInt .i64) 0 o3_12)]⟩) (g := fun s => fair_division_raise_f0_pr21_p28 t11_11 o3_12 (fun t11_11 o3_12 => fair_division_raise_f0_pr21_l23 F a0_v_caps a0_v_x a0_v_active a1_d n_23 t11_11 o3_12) s = some r) ?_ ?_
      rotate_left
      · refine SCode.seq ?_
        obtain ⟨g29, h⟩ := guard_out h
        refine SCode.region (show SOps _ _ _ [0, 1, 2, 3, 4, 5, 6] _ _ from ?_)
        refine SOps.q rfl (.plain rfl) rfl (q_move rfl rfl) ?_
        refine SOps.q rfl (.plain rfl) rfl (q_nilCheck rfl rfl rfl) ?_
        refine SOps.q rfl (.plain rfl) rfl (q_field_ptr rfl rfl fd54_3) ?_
        refine SOps.q rfl (.plain rfl) rfl (q_load_ptr rfl rfl rfl rfl ty52) ?_
        refine SOps.q rfl (.plain rfl) rfl (q_move rfl rfl) ?_
        refine SOps.q rfl (.plain rfl) rfl (q_index_own rfl rfl rfl sl52 g29.1 g29.2) ?_
        refine SOps.q rfl (.plain rfl) rfl (q_load_aptr rfl rfl rfl (toNat_lt g29) rfl ty4) ?_
        refine SOps.sub (st' := ⟨[(0, .c (.ptr 0 0)), (1, .c (.int .i64 a1_d)), (4, .c (.int .i64 t11_11)), (5, .c (.int .i64 (a0_v_x.getD t11_11.toNat 0))), (9, .c (.own 1 a0_v_x.length)), (10, .c (.int .i64 (((a0_v_x).length : Int)))), (11, .c (.int .i64 t11_11)), (22, .c (.bool (a0_v_active.getD t11_11.toNat false)))], [.box [.vec a0_v_caps.length 1 (gL (cInt .i64) 0 a0_v_caps), .raw (.func (.func 21) #[] #[]), .own 1 a0_v_x.length, .own 2 a0_v_active.length, .own 3 o3_12.length], .arr 3 1 a0_v_x.length (gL (cInt .i64) 0 a0_v_x), .arr 4 1 a0_v_active.length (gL cBool false a0_v_active), .arr 3 1 o3_12.length (gL (cInt .i64) 0 o3_12)]⟩) (sub_gen [0, 1, 2, 3] rfl rfl ⟨zc rfl rfl, zc rfl rfl, zc rfl rfl, zc rfl rfl, zc rfl rfl, zc rfl rfl, zc rfl rfl, zc rfl rfl, trivial⟩ ⟨⟨_, rfl, ⟨ii rfl rfl, ii rfl rfl, ii rfl rfl, ii rfl rfl, ii rfl rfl, trivial⟩⟩, oa rfl, oa rfl, oa rfl, trivial⟩) ?_
        refine SOps.nil ?_
        rcases cond_out h with ⟨g30, h⟩ | ⟨g30, h⟩
        · refine SCode.cond_t rfl g30 ?_
          obtain ⟨g31, h⟩ := guard_out h
          obtain ⟨c_32, g33, h⟩ := bind_out h
          try dsimp only at h
          refine SCode.region (show SOps _ _ _ [0, 1, 2, 3, 4, 5, 6, 7, 8, 9, 10, 11, 12] _ _ from ?_)
          refine SOps.q rfl (.plain rfl) rfl (q_move rfl rfl) ?_
          refine SOps.q rfl (.plain rfl) rfl (q_move rfl rfl) ?_
          refine SOps.q rfl (.plain rfl) rfl (q_add rfl rfl rfl) ?_
          refine SOps.q rfl (.plain rfl) rfl (q_move rfl rfl) ?_
          refine SOps.q rfl (.plain rfl) rfl (q_nilCheck rfl rfl rfl) ?_
          refine SOps.q rfl (.plain rfl) rfl (q_field_ptr rfl rfl fd54_0) ?_
          refine SOps.q rfl (.plain rfl) rfl (q_load_ptr rfl rfl rfl rfl ty22) ?_
          refine SOps.q rfl (.plain rfl) rfl (q_move rfl rfl) ?_
          refine SOps.q rfl (.plain rfl) rfl (q_index_vec rfl rfl rfl sl22 rfl g31.1 g31.2) ?_
          refine SOps.q rfl (.plain rfl) rfl (q_load_eptr rfl rfl ty3) ?_
          refine SOps.q rfl (.plain rfl) rfl (q_bsliceL (c := (cInt .i64)) (d0 := 0) [a0_v_caps.getD t11_11.toNat 0] rfl rfl sl22 z3 rfl rfl rfl rfl rfl rfl rfl) ?_
          refine SOps.q rfl (.plain rfl) rfl (q_call (fair_least_int_ok F (IntKind.wrap .i64 (a0_v_x.getD t11_11.toNat 0 + a1_d)) ([a0_v_caps.getD t11_11.toNat 0]) c_32 g33) [] rfl fn24 ⟨⟨_, rfl, .inl ⟨rfl, rfl⟩⟩, ⟨_, rfl, .inl ⟨rfl, rfl⟩⟩, trivial⟩ (.inl rfl)) ?_
          refine SOps.q rfl (.plain rfl) rfl (q_assign rfl rfl) ?_
          refine SOps.sub (st' := ⟨[(0, .c (.ptr 0 0)), (1, .c (.int .i64 a1_d)), (4, .c (.int .i64 t11_11)), (5, .c (.int .i64 c_32)), (9, .c (.own 1 a0_v_x.length)), (10, .c (.int .i64 (((a0_v_x).length : Int)))), (11, .c (.int .i64 t11_11))], [.box [.vec a0_v_caps.length 1 (gL (cInt .i64) 0 a0_v_caps), .raw (.func (.func 21) #[] #[]), .own 1 a0_v_x.length, .own 2 a0_v_active.length, .own 3 o3_12.length], .arr 3 1 a0_v_x.length (gL (cInt .i64) 0 a0_v_x), .arr 4 1 a0_v_active.length (gL cBool false a0_v_active), .arr 3 1 o3_12.length (gL (cInt .i64) 0 o3_12)]⟩) (sub_gen [0, 1, 2, 3] rfl rfl ⟨zc rfl rfl, zc rfl rfl, zc rfl rfl, zc rfl rfl, zc rfl rfl, zc rfl rfl, zc rfl rfl, trivial⟩ ⟨⟨_, rfl, ⟨ii rfl rfl, ii rfl rfl, ii rfl rfl, ii rfl rfl, ii rfl rfl, trivial⟩⟩, oa rfl, oa rfl, oa rfl, trivial⟩) ?_
          refine SOps.nil ?_
          exact ⟨c_32, h, sub_gen [0, 1, 2, 3] rfl rfl ⟨zc rfl rfl, zc rfl rfl, zc rfl rfl, zc rfl rfl, zc rfl rfl, zc rfl rfl, zc rfl rfl, trivial⟩ ⟨⟨_, rfl, ⟨ii rfl rfl, ii rfl rfl, ii rfl rfl, ii rfl rfl, ii rfl rfl, trivial⟩⟩, oa rfl, oa rfl, oa rfl, trivial⟩⟩
        refine SCode.cond_f rfl g30 ?_
        refine SCode.skip ?_
        exact ⟨a0_v_x.getD t11_11.toNat 0, h, sub_gen [0, 1, 2, 3] rfl rfl ⟨zc rfl rfl, zc rfl rfl, zc rfl rfl, zc rfl rfl, zc rfl rfl, zc rfl rfl, zc rfl rfl, trivial⟩ ⟨⟨_, rfl, ⟨ii rfl rfl, ii rfl rfl, ii rfl rfl, ii rfl rfl, ii rfl rfl, trivial⟩⟩, oa rfl, oa rfl, oa rfl, trivial⟩⟩
      rintro n_26 h
      show SCode _ _ _ ⟨[(0, .c (.ptr 0 0)), (1, .c (.int .i64 a1_d)), (4, .c (.int .i64 t11_11)), (5, .c (.int .i64 n_26)), (9, .c (.own 1 a0_v_x.length)), (10, .c (.int .i64 (((a0_v_x).length : Int)))), (11, .c (.int .i64 t11_11))], [.box [.vec a0_v_caps.length 1 (gL (cInt .i64) 0 a0_v_caps), .raw (.func (.func 21) #[] #[]), .own 1 a0_v_x.length, .own 2 a0_v_active.length, .own 3 o3_12.length], .arr 3 1 a0_v_x.length (gL (cInt .i64) 0 a0_v_x), .arr 4 1 a0_v_active.length (gL cBool false a0_v_active), .arr 3 1 o3_12.length (gL (cInt .i64) 0 o3_12)]⟩ _
      replace h : fair_division_raise_f0_pr21_p28 t11_11 o3_12 (fun t11_11 o3_12 => fair_division_raise_f0_pr21_l23 F a0_v_caps a0_v_x a0_v_active a1_d n_23 t11_11 o3_12) n_26 = some r := h
      unfold fair_division_raise_f0_pr21_p28 at h
      obtain ⟨g27, h⟩ := guard_out h
      refine SCode.region (show SOps _ _ _ [0, 1, 2, 3, 4, 5, 6, 7] _ _ from ?_)
      refine SOps.q rfl (.plain rfl) rfl (q_move rfl rfl) ?_
      refine SOps.q rfl (.plain rfl) rfl (q_nilCheck rfl rfl rfl) ?_
      refine SOps.q rfl (.plain rfl) rfl (q_field_ptr rfl rfl fd54_4) ?_
      refine SOps.q rfl (.plain rfl) rfl (q_load_ptr rfl rfl rfl rfl ty22) ?_
      refine SOps.q rfl (.plain rfl) rfl (q_move rfl rfl) ?_
      refine SOps.q rfl (.plain rfl) rfl (q_move rfl rfl) ?_
      refine SOps.q rfl (.plain rfl) rfl (q_index_own rfl rfl rfl sl22 g27.1 g27.2) ?_
      refine SOps.e rfl (.plain rfl) (e_storeL n_26 rfl rfl rfl rfl rfl (toNat_lt g27) ty3 rfl rfl rfl rfl rfl rfl) ?_
      refine SOps.sub (st' := ⟨[(0, .c (.ptr 0 0)), (1, .c (.int .i64 a1_d)), (9, .c (.own 1 a0_v_x.length)), (10, .c (.int .i64 (((a0_v_x).length : Int)))), (11, .c (.int .i64 t11_11))], [.box [.vec a0_v_caps.length 1 (gL (cInt .i64) 0 a0_v_caps), .raw (.func (.func 21) #[] #[]), .own 1 a0_v_x.length, .own 2 a0_v_active.length, .own 3 (o3_12.set t11_11.toNat n_26).length], .arr 3 1 a0_v_x.length (gL (cInt .i64) 0 a0_v_x), .arr 4 1 a0_v_active.length (gL cBool false a0_v_active), .arr 3 1 (o3_12.set t11_11.toNat n_26).length (gL (cInt .i64) 0 (o3_12.set t11_11.toNat n_26))]⟩) (sub_gen [0, 1, 2, 3] rfl rfl ⟨zc rfl rfl, zc rfl rfl, zc rfl rfl, zc rfl rfl, zc rfl rfl, trivial⟩ ⟨⟨_, rfl, ⟨ii rfl rfl, ii rfl rfl, ii rfl rfl, ii rfl rfl, .inl ⟨rfl, congrArg (Cell.own 3) (List.length_set : (o3_12.set t11_11.toNat n_26).length = o3_12.length).symm⟩, trivial⟩⟩, oa rfl, oa rfl, oa rfl, trivial⟩) ?_
      refine SOps.nil ?_
      refine SCode.region (show SOps _ _ _ [0, 1] _ _ from ?_)
      refine SOps.q rfl (.plain rfl) rfl (q_add rfl rfl rfl) ?_
      refine SOps.q rfl (.plain rfl) rfl (q_move rfl rfl) ?_
      refine SOps.sub (st' := ⟨[(0, .c (.ptr 0 0)), (1, .c (.int .i64 a1_d)), (9, .c (.own 1 a0_v_x.length)), (10, .c (.int .i64 (((a0_v_x).length : Int)))), (11, .c (.int .i64 (IntKind.wrap .i64 (t11_11 + 1))))], [.box [.vec a0_v_caps.length 1 (gL (cInt .i64) 0 a0_v_caps), .raw (.func (.func 21) #[] #[]), .own 1 a0_v_x.length, .own 2 a0_v_active.length, .own 3 (o3_12.set t11_11.toNat n_26).length], .arr 3 1 a0_v_x.length (gL (cInt .i64) 0 a0_v_x), .arr 4 1 a0_v_active.length (gL cBool false a0_v_active), .arr 3 1 (o3_12.set t11_11.toNat n_26).length (gL (cInt .i64) 0 (o3_12.set t11_11.toNat n_26))]⟩) (sub_gen [0, 1, 2, 3] rfl rfl ⟨zc rfl rfl, zc rfl rfl, zc rfl rfl, zc rfl rfl, zc rfl rfl, trivial⟩ ⟨⟨_, rfl, ⟨ii rfl rfl, ii rfl rfl, ii rfl rfl, ii rfl rfl, ii rfl rfl, trivial⟩⟩, oa rfl, oa rfl, oa rfl, trivial⟩) ?_
      refine SOps.nil ?_
      exact ⟨(n_23, (IntKind.wrap .i64 (t11_11 + 1), o3_12.set t11_11.toNat n_26)), h, Nat.lt_succ_self n_23, sub_gen [0, 1, 2, 3] rfl rfl ⟨zc rfl rfl, zc rfl rfl, zc rfl rfl, zc rfl rfl, zc rfl rfl, trivial⟩ ⟨⟨_, rfl, ⟨ii rfl rfl, ii rfl rfl, ii rfl rfl, ii rfl rfl, ii rfl rfl, trivial⟩⟩, oa rfl, oa rfl, oa rfl, trivial⟩⟩
    refine SCode.cond_f rfl g24 ?_
    refine SCode.exit ?_
    obtain rfl := Option.some.inj h
    exact ⟨⟨[], [.box [.vec a0_v_caps.length 1 (gL (cInt .i64) 0 a0_v_caps), .raw (.func (.func 21) #[] #[]), .own 1 a0_v_x.length, .own 2 a0_v_active.length, .own 3 o3_12.length], .arr 3 1 a0_v_x.length (gL (cInt .i64) 0 a0_v_x), .arr 4 1 a0_v_active.length (gL cBool false a0_v_active), .arr 3 1 o3_12.length (gL (cInt .i64) 0 o3_12)]⟩, _, sub_gen [0, 1, 2, 3] rfl rfl trivial ⟨⟨_, rfl, ⟨ii rfl rfl, ii rfl rfl, ii rfl rfl, ii rfl rfl, ii rfl rfl, trivial⟩⟩, oa rfl, oa rfl, oa rfl, trivial⟩, resA0 rfl, ⟨rfl, rfl⟩⟩
set_option maxRecDepth 100000 in
set_option maxHeartbeats 8000000 in
theorem fair_division_raisable_f0_pr21_ok (F : Nat) (a0_v_caps : List Int) (a0_v_x : List Int) (a0_v_active : List Bool) (a0_v_trial : List Int) (a1_d : Int) (r : Bool × (List Int)) (h : fair_division_raisable_f0_pr21 F a0_v_caps a0_v_x a0_v_active a0_v_trial a1_d = some r) :
    SFun Try.prog 39 [.box [.vec a0_v_caps.length 1 (gL (cInt .i64) 0 a0_v_caps), .raw (.func (.func 21) #[] #[]), .own 1 a0_v_x.length, .own 2 a0_v_active.length, .own 3 a0_v_trial.length], .arr 3 1 a0_v_x.length (gL (cInt .i64) 0 a0_v_x), .arr 4 1 a0_v_active.length (gL cBool false a0_v_active), .arr 3 1 a0_v_trial.length (gL (cInt .i64) 0 a0_v_trial)] [.c (.ptr 0 0), .c (.int .i64 a1_d)] (fun x os => x = .c (.bool r.1) ∧ os = [.box [.vec a0_v_caps.length 1 (gL (cInt .i64) 0 a0_v_caps), .raw (.func (.func 21) #[] #[]), .own 1 a0_v_x.length, .own 2 a0_v_active.length, .own 3 r.2.length], .arr 3 1 a0_v_x.length (gL (cInt .i64) 0 a0_v_x), .arr 4 1 a0_v_active.length (gL cBool false a0_v_active), .arr 3 1 r.2.length (gL (cInt .i64) 0 r.2)]) := by
  refine SFun.of (n := 17) Try.func39 rfl rfl rfl ?_
  unfold fair_division_raisable_f0_pr21 at h
  show SCode _ _ _ ⟨[(0, .c (.ptr 0 0)), (1, .c (.int .i64 a1_d))], [.box [.vec a0_v_caps.length 1 (gL (cInt .i64) 0 a0_v_caps), .raw (.func (.func 21) #[] #[]), .own 1 a0_v_x.length, .own 2 a0_v_active.length, .own 3 a0_v_trial.length], .arr 3 1 a0_v_x.length (gL (cInt .i64) 0 a0_v_x), .arr 4 1 a0_v_active.length (gL cBool false a0_v_active), .arr 3 1 a0_v_trial.length (gL (cInt .i64) 0 a0_v_trial)]⟩ _
  refine SCode.seq ?_
  refine SCode.region (show SOps _ _ _ [0] _ _ from ?_)
  refine SOps.q rfl (.plain rfl) rfl (q_assign rfl rfl) ?_
  refine SOps.sub (st' := ⟨[(0, .c (.ptr 0 0)), (1, .c (.int .i64 a1_d))], [.box [.vec a0_v_caps.length 1 (gL (cInt .i64) 0 a0_v_caps), .raw (.func (.func 21) #[] #[]), .own 1 a0_v_x.length, .own 2 a0_v_active.length, .own 3 a0_v_trial.length], .arr 3 1 a0_v_x.length (gL (cInt .i64) 0 a0_v_x), .arr 4 1 a0_v_active.length (gL cBool false a0_v_active), .arr 3 1 a0_v_trial.length (gL (cInt .i64) 0 a0_v_trial)]⟩) (sub_gen [0, 1, 2, 3] rfl rfl ⟨zc rfl rfl, zc rfl rfl, trivial⟩ ⟨⟨_, rfl, ⟨ii rfl rfl, ii rfl rfl, ii rfl rfl, ii rfl rfl, ii rfl rfl, trivial⟩⟩, oa rfl, oa rfl, oa rfl, trivial⟩) ?_
  refine SOps.nil ?_
  refine SCode.seq ?_
  obtain ⟨c_1, g2, h⟩ := bind_out h
  try dsimp only at h
  refine SCode.region (show SOps _ _ _ [0, 1, 2] _ _ from ?_)
  refine SOps.q rfl (.plain rfl) rfl (q_move rfl rfl) ?_
  refine SOps.q rfl (.plain rfl) rfl (q_move rfl rfl) ?_
  refine SOps.e rfl (.plain rfl) (e_call (fair_division_raise_f0_pr21_ok F a0_v_caps a0_v_x a0_v_active a0_v_trial a1_d c_1 g2) [0, 1, 2, 3] rfl fn40 rfl rfl rfl rfl rfl rfl rfl rfl) ?_
  refine SOps.sub (st' := ⟨[(0, .c (.ptr 0 0))], [.box [.vec a0_v_caps.length 1 (gL (cInt .i64) 0 a0_v_caps), .raw (.func (.func 21) #[] #[]), .own 1 a0_v_x.length, .own 2 a0_v_active.length, .own 3 c_1.length], .arr 3 1 a0_v_x.length (gL (cInt .i64) 0 a0_v_x), .arr 4 1 a0_v_active.length (gL cBool false a0_v_active), .arr 3 1 c_1.length (gL (cInt .i64) 0 c_1)]⟩) (sub_gen [0, 1, 2, 3] rfl rfl ⟨zc rfl rfl, trivial⟩ ⟨⟨_, rfl, ⟨ii rfl rfl, ii rfl rfl, ii rfl rfl, ii rfl rfl, ii rfl rfl, trivial⟩⟩, oa rfl, oa rfl, oa rfl, trivial⟩) ?_
  refine SOps.nil ?_
  refine SCode.seq ?_
  obtain ⟨c_3, g4, h⟩ := bind_out h
  try dsimp only at h
  refine SCode.draw (s' := [(4, .c (.bool c_3)), (16, .c (.bool c_3)), (15, .c (.own 3 c_1.length)), (14, .c (.ptr 0 4)), (13, .c (.ptr 0 0)), (12, .c (.ptr 0 0)), (11, .c (.raw (.func (.func 21) #[] #[]))), (10, .c (.ptr 0 1)), (9, .c (.ptr 0 0)), (8, .c (.ptr 0 0)), (0, .c (.ptr 0 0))]) mixed [[], [0], [0, 1], [0, 1, 2], [], [4], [4, 5], [4, 5, 6], [0, 1, 2, 3, 4, 5, 6, 7], [0, 1, 2, 3, 4, 5, 6, 7, 8]] 10 0 rfl rfl ?_ ?_
  · refine QChain.run rfl (.plain rfl) rfl (q_move rfl rfl) ?_
    refine QChain.run rfl (.plain rfl) rfl (q_nilCheck rfl rfl rfl) ?_
    refine QChain.run rfl (.plain rfl) rfl (q_field_ptr rfl rfl fd54_1) ?_
    refine QChain.run rfl (.plain rfl) rfl (q_load_ptr rfl rfl rfl rfl ty35) ?_
    refine QChain.run rfl (.plain rfl) rfl (q_move rfl rfl) ?_
    refine QChain.run rfl (.plain rfl) rfl (q_nilCheck rfl rfl rfl) ?_
    refine QChain.run rfl (.plain rfl) rfl (q_field_ptr rfl rfl fd54_4) ?_
    refine QChain.run rfl (.plain rfl) rfl (q_load_ptr rfl rfl rfl rfl ty22) ?_
    refine QChain.run rfl (.plain rfl) rfl (q_callr (chargenetlaw10_exampleHolds_1_ok F c_1 c_3 g4) [3] rfl rfl fn21 ⟨⟨_, rfl, .inr (.inl ⟨_, _, _, _, _, _, _, rfl, rfl, rfl, Nat.le_refl _, fun _ _ _ _ => rfl, (.head _)⟩)⟩, trivial⟩ (.inr rfl)) ?_
    refine QChain.run rfl (.plain rfl) rfl (q_assign rfl rfl) ?_
    exact QChain.nil _ _
  refine (show SOps _ _ _ [] _ _ from ?_)
  refine SOps.sub (st' := ⟨[(4, .c (.bool c_3))], [.box [.vec a0_v_caps.length 1 (gL (cInt .i64) 0 a0_v_caps), .raw (.func (.func 21) #[] #[]), .own 1 a0_v_x.length, .own 2 a0_v_active.length, .own 3 c_1.length], .arr 3 1 a0_v_x.length (gL (cInt .i64) 0 a0_v_x), .arr 4 1 a0_v_active.length (gL cBool false a0_v_active), .arr 3 1 c_1.length (gL (cInt .i64) 0 c_1)]⟩) (sub_gen [0, 1, 2, 3] rfl rfl ⟨zc rfl rfl, trivial⟩ ⟨⟨_, rfl, ⟨ii rfl rfl, ii rfl rfl, ii rfl rfl, ii rfl rfl, ii rfl rfl, trivial⟩⟩, oa rfl, oa rfl, oa rfl, trivial⟩) ?_
  refine SOps.nil ?_
  refine SCode.ret ?_
  obtain rfl := Option.some.inj h
  exact ⟨⟨[(4, .c (.bool c_3))], [.box [.vec a0_v_caps.length 1 (gL (cInt .i64) 0 a0_v_caps), .raw (.func (.func 21) #[] #[]), .own 1 a0_v_x.length, .own 2 a0_v_active.length, .own 3 c_1.length], .arr 3 1 a0_v_x.length (gL (cInt .i64) 0 a0_v_x), .arr 4 1 a0_v_active.length (gL cBool false a0_v_active), .arr 3 1 c_1.length (gL (cInt .i64) 0 c_1)]⟩, _, sub_gen [0, 1, 2, 3] rfl rfl ⟨zc rfl rfl, trivial⟩ ⟨⟨_, rfl, ⟨ii rfl rfl, ii rfl rfl, ii rfl rfl, ii rfl rfl, ii rfl rfl, trivial⟩⟩, oa rfl, oa rfl, oa rfl, trivial⟩, resA1 (v := .c (.bool c_3)) rfl rfl, ⟨rfl, rfl⟩⟩
set_option maxRecDepth 100000 in
set_option maxHeartbeats 8000000 in
theorem fair_division_together_f0_pr21_ok (F : Nat) (a0_v_caps : List Int) (a0_v_x : List Int) (a0_v_active : List Bool) (a0_v_trial : List Int) (r : (List Int) × (List Int)) (h : fair_division_together_f0_pr21 F a0_v_caps a0_v_x a0_v_active a0_v_trial = some r) :
    SFun Try.prog 32 [.box [.vec a0_v_caps.length 1 (gL (cInt .i64) 0 a0_v_caps), .raw (.func (.func 21) #[] #[]), .own 1 a0_v_x.length, .own 2 a0_v_active.length, .own 3 a0_v_trial.length], .arr 3 1 a0_v_x.length (gL (cInt .i64) 0 a0_v_x), .arr 4 1 a0_v_active.length (gL cBool false a0_v_active), .arr 3 1 a0_v_trial.length (gL (cInt .i64) 0 a0_v_trial)] [.c (.ptr 0 0)] (fun x os => x = .t [] ∧ os = [.box [.vec a0_v_caps.length 1 (gL (cInt .i64) 0 a0_v_caps), .raw (.func (.func 21) #[] #[]), .own 1 r.1.length, .own 2 a0_v_active.length, .own 3 r.2.length], .arr 3 1 r.1.length (gL (cInt .i64) 0 r.1), .arr 4 1 a0_v_active.length (gL cBool false a0_v_active), .arr 3 1 r.2.length (gL (cInt .i64) 0 r.2)]) := by
  refine SFun.of (n := 74) Try.func32 rfl rfl rfl ?_
  unfold fair_division_together_f0_pr21 at h
  show SCode _ _ _ ⟨[(0, .c (.ptr 0 0))], [.box [.vec a0_v_caps.length 1 (gL (cInt .i64) 0 a0_v_caps), .raw (.func (.func 21) #[] #[]), .own 1 a0_v_x.length, .own 2 a0_v_active.length, .own 3 a0_v_trial.length], .arr 3 1 a0_v_x.length (gL (cInt .i64) 0 a0_v_x), .arr 4 1 a0_v_active.length (gL cBool false a0_v_active), .arr 3 1 a0_v_trial.length (gL (cInt .i64) 0 a0_v_trial)]⟩ _
  refine SCode.seq ?_
  refine SCode.region (show SOps _ _ _ [0] _ _ from ?_)
  refine SOps.q rfl (.plain rfl) rfl (q_assign rfl rfl) ?_
  refine SOps.sub (st' := ⟨[(0, .c (.ptr 0 0)), (2, .c (.int .i64 0))], [.box [.vec a0_v_caps.length 1 (gL (cInt .i64) 0 a0_v_caps), .raw (.func (.func 21) #[] #[]), .own 1 a0_v_x.length, .own 2 a0_v_active.length, .own 3 a0_v_trial.length], .arr 3 1 a0_v_x.length (gL (cInt .i64) 0 a0_v_x), .arr 4 1 a0_v_active.length (gL cBool false a0_v_active), .arr 3 1 a0_v_trial.length (gL (cInt .i64) 0 a0_v_trial)]⟩) (sub_gen [0, 1, 2, 3] rfl rfl ⟨zc rfl rfl, zc rfl rfl, trivial⟩ ⟨⟨_, rfl, ⟨ii rfl rfl, ii rfl rfl, ii rfl rfl, ii rfl rfl, ii rfl rfl, trivial⟩⟩, oa rfl, oa rfl, oa rfl, trivial⟩) ?_
  refine SOps.nil ?_
  refine SCode.join (σ := Int) (S := fun s => ⟨[(0, .c (.ptr 0 0)), (2, .c (.int .i64 s))], [.box [.vec a0_v_caps.length 1 (gL (cInt .i64) 0 a0_v_caps), .raw (.func (.func 21) #[] #[]), .own 1 a0_v_x.length, .own 2 a0_v_active.length, .own 3 a0_v_trial.length], .arr 3 1 a0_v_x.length (gL (cInt .i64) 0 a0_v_x), .arr 4 1 a0_v_active.length (gL cBool false a0_v_active), .arr 3 1 a0_v_trial.length (gL (cInt .i64) 0 a0_v_trial)]⟩) (g := fun s => fair_division_together_f0_pr21_p32 F a0_v_caps a0_v_x a0_v_active a0_v_trial s = some r) ?_ ?_
  rotate_left
  · refine SCode.seq ?_
    refine SCode.region (show SOps _ _ _ [0, 1, 2, 3, 4, 5] _ _ from ?_)
    refine SOps.q rfl (.plain rfl) rfl (q_move rfl rfl) ?_
    refine SOps.q rfl (.plain rfl) rfl (q_nilCheck rfl rfl rfl) ?_
    refine SOps.q rfl (.plain rfl) rfl (q_field_ptr rfl rfl fd54_2) ?_
    refine SOps.q rfl (.plain rfl) rfl (q_load_ptr rfl rfl rfl rfl ty22) ?_
    refine SOps.q rfl (.plain rfl) rfl (q_len_own rfl rfl sl22) ?_
    refine SOps.q rfl (.plain rfl) rfl (q_move rfl rfl) ?_
    refine SOps.sub (st' := ⟨[(0, .c (.ptr 0 0)), (2, .c (.int .i64 0)), (11, .c (.own 1 a0_v_x.length)), (12, .c (.int .i64 (((a0_v_x).length : Int)))), (13, .c (.int .i64 0))], [.box [.vec a0_v_caps.length 1 (gL (cInt .i64) 0 a0_v_caps), .raw (.func (.func 21) #[] #[]), .own 1 a0_v_x.length, .own 2 a0_v_active.length, .own 3 a0_v_trial.length], .arr 3 1 a0_v_x.length (gL (cInt .i64) 0 a0_v_x), .arr 4 1 a0_v_active.length (gL cBool false a0_v_active), .arr 3 1 a0_v_trial.length (gL (cInt .i64) 0 a0_v_trial)]⟩) (sub_gen [0, 1, 2, 3] rfl rfl ⟨zc rfl rfl, zc rfl rfl, zc rfl rfl, zc rfl rfl, zc rfl rfl, trivial⟩ ⟨⟨_, rfl, ⟨ii rfl rfl, ii rfl rfl, ii rfl rfl, ii rfl rfl, ii rfl rfl, trivial⟩⟩, oa rfl, oa rfl, oa rfl, trivial⟩) ?_
    refine SOps.nil ?_
    refine SCode.block ?_
    refine SCode.sub (st' := ⟨[(0, .c (.ptr 0 0)), (2, .c (.int .i64 0)), (11, .c (.own 1 a0_v_x.length)), (12, .c (.int .i64 (((a0_v_x).length : Int)))), (13, .c (.int .i64 0))], [.box [.vec a0_v_caps.length 1 (gL (cInt .i64) 0 a0_v_caps), .raw (.func (.func 21) #[] #[]), .own 1 a0_v_x.length, .own 2 a0_v_active.length, .own 3 a0_v_trial.length], .arr 3 1 a0_v_x.length (gL (cInt .i64) 0 a0_v_x), .arr 4 1 a0_v_active.length (gL cBool false a0_v_active), .arr 3 1 a0_v_trial.length (gL (cInt .i64) 0 a0_v_trial)]⟩) (sub_gen [0, 1, 2, 3] rfl rfl ⟨zc rfl rfl, zc rfl rfl, zc rfl rfl, zc rfl rfl, zc rfl rfl, trivial⟩ ⟨⟨_, rfl, ⟨ii rfl rfl, ii rfl rfl, ii rfl rfl, ii rfl rfl, ii rfl rfl, trivial⟩⟩, oa rfl, oa rfl, oa rfl, trivial⟩) ?_
    refine (SCode.loop (σ := Nat × (Int × Int)) (S := fun s => ⟨[(0, .c (.ptr 0 0)), (2, .c (.int .i64 s.2.1)), (11, .c (.own 1 a0_v_x.length)), (12, .c (.int .i64 (((a0_v_x).length : Int)))), (13, .c (.int .i64 s.2.2))], [.box [.vec a0_v_caps.length 1 (gL (cInt .i64) 0 a0_v_caps), .raw (.func (.func 21) #[] #[]), .own 1 a0_v_x.length, .own 2 a0_v_active.length, .own 3 a0_v_trial.length], .arr 3 1 a0_v_x.length (gL (cInt .i64) 0 a0_v_x), .arr 4 1 a0_v_active.length (gL cBool false a0_v_active), .arr 3 1 a0_v_trial.length (gL (cInt .i64) 0 a0_v_trial)]⟩) (g := fun s => fair_division_together_f0_pr21_l49 F a0_v_caps a0_v_x a0_v_active a0_v_trial s.1 s.2.1 s.2.2 = some r) (μ := fun s => s.1) (F, (0, 0)) h ?_)
    rintro ⟨n_49, ⟨most_40, t13_41⟩⟩ h
    replace h : fair_division_together_f0_pr21_l49 F a0_v_caps a0_v_x a0_v_active a0_v_trial n_49 most_40 t13_41 = some r := h
    show SCode _ _ _ ⟨[(0, .c (.ptr 0 0)), (2, .c (.int .i64 most_40)), (11, .c (.own 1 a0_v_x.length)), (12, .c (.int .i64 (((a0_v_x).length : Int)))), (13, .c (.int .i64 t13_41))], [.box [.vec a0_v_caps.length 1 (gL (cInt .i64) 0 a0_v_caps), .raw (.func (.func 21) #[] #[]), .own 1 a0_v_x.length, .own 2 a0_v_active.length, .own 3 a0_v_trial.length], .arr 3 1 a0_v_x.length (gL (cInt .i64) 0 a0_v_x), .arr 4 1 a0_v_active.length (gL cBool false a0_v_active), .arr 3 1 a0_v_trial.length (gL (cInt .i64) 0 a0_v_trial)]⟩ _
    cases n_49 with
    | zero => cases h
    | succ n_49 =>
      replace h : fair_division_together_f0_pr21_b49 F a0_v_caps a0_v_x a0_v_active a0_v_trial (fun most_40 t13_41 => fair_division_together_f0_pr21_l49 F a0_v_caps a0_v_x a0_v_active a0_v_trial n_49 most_40 t13_41) most_40 t13_41 = some r := h
      unfold fair_division_together_f0_pr21_b49 at h
      refine SCode.seq ?_
      refine SCode.region (show SOps _ _ _ [0] _ _ from ?_)
      refine SOps.q rfl (.plain rfl) rfl (q_lss rfl rfl rfl) ?_
      refine SOps.sub (st' := ⟨[(0, .c (.ptr 0 0)), (2, .c (.int .i64 most_40)), (11, .c (.own 1 a0_v_x.length)), (12, .c (.int .i64 (((a0_v_x).length : Int)))), (13, .c (.int .i64 t13_41)), (14, .c (.bool (decide (t13_41 < ((a0_v_x).length : Int)))))], [.box [.vec a0_v_caps.length 1 (gL (cInt .i64) 0 a0_v_caps), .raw (.func (.func 21) #[] #[]), .own 1 a0_v_x.length, .own 2 a0_v_active.length, .own 3 a0_v_trial.length], .arr 3 1 a0_v_x.length (gL (cInt .i64) 0 a0_v_x), .arr 4 1 a0_v_active.length (gL cBool false a0_v_active), .arr 3 1 a0_v_trial.length (gL (cInt .i64) 0 a0_v_trial)]⟩) (sub_gen [0, 1, 2, 3] rfl rfl ⟨zc rfl rfl, zc rfl rfl, zc rfl rfl, zc rfl rfl, zc rfl rfl, zc rfl rfl, trivial⟩ ⟨⟨_, rfl, ⟨ii rfl rfl, ii rfl rfl, ii rfl rfl, ii rfl rfl, ii rfl rfl, trivial⟩⟩, oa rfl, oa rfl, oa rfl, trivial⟩) ?_
      refine SOps.nil ?_
      refine SCode.seq ?_
      rcases cond_out h with ⟨g50, h⟩ | ⟨g50, h⟩
      · refine SCode.cond_t rfl g50 ?_
        refine SCode.skip ?_
        refine SCode.join (σ := Int) (S := fun s => ⟨[(0, .c (.ptr 0 0)), (2, .c (.int .i64 s)), (11, .c (.own 1 a0_v_x.length)), (12, .c (.int .i64 (((a0_v_x).length : Int)))), (13, .c (.int .i64 t13_41))], [.box [.vec a0_v_caps.length 1 (gL (cInt .i64) 0 a0_v_caps), .raw (.func (.func 21) #[] #[]), .own 1 a0_v_x.length, .own 2 a0_v_active.length, .own 3 a0_v_trial.length], .arr 3 1 a0_v_x.length (gL (cInt .i64) 0 a0_v_x), .arr 4 1 a0_v_active.length (gL cBool false a0_v_active), .arr 3 1 a0_v_trial.length (gL (cInt .i64) 0 a0_v_trial)]⟩) (g := fun s => fair_division_together_f0_pr21_p52 t13_41 (fun most_40 t13_41 => fair_division_together_f0_pr21_l49 F a0_v_caps a0_v_x a0_v_active a0_v_trial n_49 most_40 t13_41) s = some r) ?_ ?_
        rotate_left
        · refine SCode.block ?_
          refine SCode.seq ?_
          obtain ⟨g53, h⟩ := guard_out h
          refine SCode.region (show SOps _ _ _ [0, 1, 2, 3, 4] _ _ from ?_)
          refine SOps.q rfl (.plain rfl) rfl (q_move rfl rfl) ?_
          refine SOps.q rfl (.plain rfl) rfl (q_index_own rfl rfl rfl sl22 g53.1 g53.2) ?_
          refine SOps.q rfl (.plain rfl) rfl (q_load_aptr rfl rfl rfl (toNat_lt g53) rfl ty3) ?_
          refine SOps.q rfl (.plain rfl) rfl (q_assign rfl rfl) ?_
          refine SOps.q rfl (.plain rfl) rfl (q_assign rfl rfl) ?_
          refine SOps.sub (st' := ⟨[(0, .c (.ptr 0 0)), (2, .c (.int .i64 most_40)), (3, .c (.int .i64 t13_41)), (4, .c (.int .i64 (a0_v_x.getD t13_41.toNat 0))), (11, .c (.own 1 a0_v_x.length)), (12, .c (.int .i64 (((a0_v_x).length : Int)))), (13, .c (.int .i64 t13_41))], [.box [.vec a0_v_caps.length 1 (gL (cInt .i64) 0 a0_v_caps), .raw (.func (.func 21) #[] #[]), .own 1 a0_v_x.length, .own 2 a0_v_active.length, .own 3 a0_v_trial.length], .arr 3 1 a0_v_x.length (gL (cInt .i64) 0 a0_v_x), .arr 4 1 a0_v_active.length (gL cBool false a0_v_active), .arr 3 1 a0_v_trial.length (gL (cInt .i64) 0 a0_v_trial)]⟩) (sub_gen [0, 1, 2, 3] rfl rfl ⟨zc rfl rfl, zc rfl rfl, zc rfl rfl, zc rfl rfl, zc rfl rfl, zc rfl rfl, zc rfl rfl, trivial⟩ ⟨⟨_, rfl, ⟨ii rfl rfl, ii rfl rfl, ii rfl rfl, ii rfl rfl, ii rfl rfl, trivial⟩⟩, oa rfl, oa rfl, oa rfl, trivial⟩) ?_
          refine SOps.nil ?_
          refine SCode.seq ?_
          obtain ⟨g54, h⟩ := guard_out h
          refine SCode.region (show SOps _ _ _ [0, 1, 2, 3, 4, 5, 6] _ _ from ?_)
          refine SOps.q rfl (.plain rfl) rfl (q_move rfl rfl) ?_
          refine SOps.q rfl (.plain rfl) rfl (q_nilCheck rfl rfl rfl) ?_
          refine SOps.q rfl (.plain rfl) rfl (q_field_ptr rfl rfl fd54_3) ?_
          refine SOps.q rfl (.plain rfl) rfl (q_load_ptr rfl rfl rfl rfl ty52) ?_
          refine SOps.q rfl (.plain rfl) rfl (q_move rfl rfl) ?_
          refine SOps.q rfl (.plain rfl) rfl (q_index_own rfl rfl rfl sl52 g54.1 g54.2) ?_
          refine SOps.q rfl (.plain rfl) rfl (q_load_aptr rfl rfl rfl (toNat_lt g54) rfl ty4) ?_
          refine SOps.sub (st' := ⟨[(0, .c (.ptr 0 0)), (2, .c (.int .i64 most_40)), (3, .c (.int .i64 t13_41)), (4, .c (.int .i64 (a0_v_x.getD t13_41.toNat 0))), (11, .c (.own 1 a0_v_x.length)), (12, .c (.int .i64 (((a0_v_x).length : Int)))), (13, .c (.int .i64 t13_41)), (24, .c (.bool (a0_v_active.getD t13_41.toNat false)))], [.box [.vec a0_v_caps.length 1 (gL (cInt .i64) 0 a0_v_caps), .raw (.func (.func 21) #[] #[]), .own 1 a0_v_x.length, .own 2 a0_v_active.length, .own 3 a0_v_trial.length], .arr 3 1 a0_v_x.length (gL (cInt .i64) 0 a0_v_x), .arr 4 1 a0_v_active.length (gL cBool false a0_v_active), .arr 3 1 a0_v_trial.length (gL (cInt .i64) 0 a0_v_trial)]⟩) (sub_gen [0, 1, 2, 3] rfl rfl ⟨zc rfl rfl, zc rfl rfl, zc rfl rfl, zc rfl rfl, zc rfl rfl, zc rfl rfl, zc rfl rfl, zc rfl rfl, trivial⟩ ⟨⟨_, rfl, ⟨ii rfl rfl, ii rfl rfl, ii rfl rfl, ii rfl rfl, ii rfl rfl, trivial⟩⟩, oa rfl, oa rfl, oa rfl, trivial⟩) ?_
          refine SOps.nil ?_
          rcases cond_out h with ⟨g55, h⟩ | ⟨g55, h⟩
          · refine SCode.cond_t rfl g55 ?_
            obtain ⟨g56, h⟩ := guard_out h
            refine SCode.region (show SOps _ _ _ [0, 1, 2, 3, 4, 5, 6, 7, 8, 9, 10, 11] _ _ from ?_)
            refine SOps.q rfl (.plain rfl) rfl (q_move rfl rfl) ?_
            refine SOps.q rfl (.plain rfl) rfl (q_move rfl rfl) ?_
            refine SOps.q rfl (.plain rfl) rfl (q_nilCheck rfl rfl rfl) ?_
            refine SOps.q rfl (.plain rfl) rfl (q_field_ptr rfl rfl fd54_0) ?_
            refine SOps.q rfl (.plain rfl) rfl (q_load_ptr rfl rfl rfl rfl ty22) ?_
            refine SOps.q rfl (.plain rfl) rfl (q_move rfl rfl) ?_
            refine SOps.q rfl (.plain rfl) rfl (q_index_vec rfl rfl rfl sl22 rfl g56.1 g56.2) ?_
            refine SOps.q rfl (.plain rfl) rfl (q_load_eptr rfl rfl ty3) ?_
            refine SOps.q rfl (.plain rfl) rfl (q_move rfl rfl) ?_
            refine SOps.q rfl (.plain rfl) rfl (q_sub rfl rfl rfl) ?_
            refine SOps.q rfl (.plain rfl) rfl (q_max rfl rfl rfl) ?_
            refine SOps.q rfl (.plain rfl) rfl (q_assign rfl rfl) ?_
            refine SOps.sub (st' := ⟨[(0, .c (.ptr 0 0)), (2, .c (.int .i64 ((if most_40 < IntKind.wrap .i64 (a0_v_caps.getD t13_41.toNat 0 - a0_v_x.getD t13_41.toNat 0) then IntKind.wrap .i64 (a0_v_caps.getD t13_41.toNat 0 - a0_v_x.getD t13_41.toNat 0) else most_40)))), (11, .c (.own 1 a0_v_x.length)), (12, .c (.int .i64 (((a0_v_x).length : Int)))), (13, .c (.int .i64 t13_41))], [.box [.vec a0_v_caps.length 1 (gL (cInt .i64) 0 a0_v_caps), .raw (.func (.func 21) #[] #[]), .own 1 a0_v_x.length, .own 2 a0_v_active.length, .own 3 a0_v_trial.length], .arr 3 1 a0_v_x.length (gL (cInt .i64) 0 a0_v_x), .arr 4 1 a0_v_active.length (gL cBool false a0_v_active), .arr 3 1 a0_v_trial.length (gL (cInt .i64) 0 a0_v_trial)]⟩) (sub_gen [0, 1, 2, 3] rfl rfl ⟨zc rfl rfl, zc rfl rfl, zc rfl rfl, zc rfl rfl, zc rfl rfl, trivial⟩ ⟨⟨_, rfl, ⟨ii rfl rfl, ii rfl rfl, ii rfl rfl, ii rfl rfl, ii rfl rfl, trivial⟩⟩, oa rfl, oa rfl, oa rfl, trivial⟩) ?_
            refine SOps.nil ?_
            exact ⟨(if most_40 < IntKind.wrap .i64 (a0_v_caps.getD t13_41.toNat 0 - a0_v_x.getD t13_41.toNat 0) then IntKind.wrap .i64 (a0_v_caps.getD t13_41.toNat 0 - a0_v_x.getD t13_41.toNat 0) else most_40), h, sub_gen [0, 1, 2, 3] rfl rfl ⟨zc rfl rfl, zc rfl rfl, zc rfl rfl, zc rfl rfl, zc rfl rfl, trivial⟩ ⟨⟨_, rfl, ⟨ii rfl rfl, ii rfl rfl, ii rfl rfl, ii rfl rfl, ii rfl rfl, trivial⟩⟩, oa rfl, oa rfl, oa rfl, trivial⟩⟩
          refine SCode.cond_f rfl g55 ?_
          refine SCode.skip ?_
          exact ⟨most_40, h, sub_gen [0, 1, 2, 3] rfl rfl ⟨zc rfl rfl, zc rfl rfl, zc rfl rfl, zc rfl rfl, zc rfl rfl, trivial⟩ ⟨⟨_, rfl, ⟨ii rfl rfl, ii rfl rfl, ii rfl rfl, ii rfl rfl, ii rfl rfl, trivial⟩⟩, oa rfl, oa rfl, oa rfl, trivial⟩⟩
        rintro most_51 h
        show SCode _ _ _ ⟨[(0, .c (.ptr 0 0)), (2, .c (.int .i64 most_51)), (11, .c (.own 1 a0_v_x.length)), (12, .c (.int .i64 (((a0_v_x).length : Int)))), (13, .c (.int .i64 t13_41))], [.box [.vec a0_v_caps.length 1 (gL (cInt .i64) 0 a0_v_caps), .raw (.func (.func 21) #[] #[]), .own 1 a0_v_x.length, .own 2 a0_v_active.length, .own 3 a0_v_trial.length], .arr 3 1 a0_v_x.length (gL (cInt .i64) 0 a0_v_x), .arr 4 1 a0_v_active.length (gL cBool false a0_v_active), .arr 3 1 a0_v_trial.length (gL (cInt .i64) 0 a0_v_trial)]⟩ _
        replace h : fair_division_together_f0_pr21_p52 t13_41 (fun most_40 t13_41 => fair_division_together_f0_pr21_l49 F a0_v_caps a0_v_x a0_v_active a0_v_trial n_49 most_40 t13_41) most_51 = some r := h
        unfold fair_division_together_f0_pr21_p52 at h
        refine SCode.region (show SOps _ _ _ [0, 1] _ _ from ?_)
        refine SOps.q rfl (.plain rfl) rfl (q_add rfl rfl rfl) ?_
        refine SOps.q rfl (.plain rfl) rfl (q_move rfl rfl) ?_
        refine SOps.sub (st' := ⟨[(0, .c (.ptr 0 0)), (2, .c (.int .i64 most_51)), (11, .c (.own 1 a0_v_x.length)), (12, .c (.int .i64 (((a0_v_x).length : Int)))), (13, .c (.int .i64 (IntKind.wrap .i64 (t13_41 + 1))))], [.box [.vec a0_v_caps.length 1 (gL (cInt .i64) 0 a0_v_caps), .raw (.func (.func 21) #[] #[]), .own 1 a0_v_x.length, .own 2 a0_v_active.length, .own 3 a0_v_trial.length], .arr 3 1 a0_v_x.length (gL (cInt .i64) 0 a0_v_x), .arr 4 1 a0_v_active.length (gL cBool false a0_v_active), .arr 3 1 a0_v_trial.length (gL (cInt .i64) 0 a0_v_trial)]⟩) (sub_gen [0, 1, 2, 3] rfl rfl ⟨zc rfl rfl, zc rfl rfl, zc rfl rfl, zc rfl rfl, zc rfl rfl, trivial⟩ ⟨⟨_, rfl, ⟨ii rfl rfl, ii rfl rfl, ii rfl rfl, ii rfl rfl, ii rfl rfl, trivial⟩⟩, oa rfl, oa rfl, oa rfl, trivial⟩) ?_
        refine SOps.nil ?_
        exact ⟨(n_49, (most_51, IntKind.wrap .i64 (t13_41 + 1))), h, Nat.lt_succ_self n_49, sub_gen [0, 1, 2, 3] rfl rfl ⟨zc rfl rfl, zc rfl rfl, zc rfl rfl, zc rfl rfl, zc rfl rfl, trivial⟩ ⟨⟨_, rfl, ⟨ii rfl rfl, ii rfl rfl, ii rfl rfl, ii rfl rfl, ii rfl rfl, trivial⟩⟩, oa rfl, oa rfl, oa rfl, trivial⟩⟩
      refine SCode.cond_f rfl g50 ?_
      refine SCode.exit ?_
      exact ⟨most_40, h, sub_gen [0, 1, 2, 3] rfl rfl ⟨zc rfl rfl, zc rfl rfl, trivial⟩ ⟨⟨_, rfl, ⟨ii rfl rfl, ii rfl rfl, ii rfl rfl, ii rfl rfl, ii rfl rfl, trivial⟩⟩, oa rfl, oa rfl, oa rfl, trivial⟩⟩
  rintro most_1 h
  show SCode _ _ _ ⟨[(0, .c (.ptr 0 0)), (2, .c (.int .i64 most_1))], [.box [.vec a0_v_caps.length 1 (gL (cInt .i64) 0 a0_v_caps), .raw (.func (.func 21) #[] #[]), .own 1 a0_v_x.length, .own 2 a0_v_active.length, .own 3 a0_v_trial.length], .arr 3 1 a0_v_x.length (gL (cInt .i64) 0 a0_v_x), .arr 4 1 a0_v_active.length (gL cBool false a0_v_active), .arr 3 1 a0_v_trial.length (gL (cInt .i64) 0 a0_v_trial)]⟩ _
  replace h : fair_division_together_f0_pr21_p32 F a0_v_caps a0_v_x a0_v_active a0_v_trial most_1 = some r := h
  unfold fair_division_together_f0_pr21_p32 at h
  refine SCode.seq ?_
  refine SCode.region (show SOps _ _ _ [0, 1] _ _ from ?_)
  refine SOps.q rfl (.plain rfl) rfl (q_move rfl rfl) ?_
  refine SOps.q rfl (.plain rfl) rfl (q_assign rfl rfl) ?_
  refine SOps.sub (st' := ⟨[(0, .c (.ptr 0 0)), (2, .c (.int .i64 most_1)), (5, .c (.int .i64 most_1))], [.box [.vec a0_v_caps.length 1 (gL (cInt .i64) 0 a0_v_caps), .raw (.func (.func 21) #[] #[]), .own 1 a0_v_x.length, .own 2 a0_v_active.length, .own 3 a0_v_trial.length], .arr 3 1 a0_v_x.length (gL (cInt .i64) 0 a0_v_x), .arr 4 1 a0_v_active.length (gL cBool false a0_v_active), .arr 3 1 a0_v_trial.length (gL (cInt .i64) 0 a0_v_trial)]⟩) (sub_gen [0, 1, 2, 3] rfl rfl ⟨zc rfl rfl, zc rfl rfl, zc rfl rfl, trivial⟩ ⟨⟨_, rfl, ⟨ii rfl rfl, ii rfl rfl, ii rfl rfl, ii rfl rfl, ii rfl rfl, trivial⟩⟩, oa rfl, oa rfl, oa rfl, trivial⟩) ?_
  refine SOps.nil ?_
  refine SCode.join (σ := Int × (List Int)) (S := fun s => ⟨[(0, .c (.ptr 0 0)), (5, .c (.int .i64 s.1))], [.box [.vec a0_v_caps.length 1 (gL (cInt .i64) 0 a0_v_caps), .raw (.func (.func 21) #[] #[]), .own 1 a0_v_x.length, .own 2 a0_v_active.length, .own 3 s.2.length], .arr 3 1 a0_v_x.length (gL (cInt .i64) 0 a0_v_x), .arr 4 1 a0_v_active.length (gL cBool false a0_v_active), .arr 3 1 s.2.length (gL (cInt .i64) 0 s.2)]⟩) (g := fun s => fair_division_together_f0_pr21_p6 F a0_v_caps a0_v_x a0_v_active s.1 s.2 = some r) ?_ ?_
  rotate_left
  · refine SCode.join (σ := Bool × (List Int)) (S := fun s => ⟨[(0, .c (.ptr 0 0)), (2, .c (.int .i64 most_1)), (5, .c (.int .i64 most_1)), (45, .c (.bool s.1))], [.box [.vec a0_v_caps.length 1 (gL (cInt .i64) 0 a0_v_caps), .raw (.func (.func 21) #[] #[]), .own 1 a0_v_x.length, .own 2 a0_v_active.length, .own 3 s.2.length], .arr 3 1 a0_v_x.length (gL (cInt .i64) 0 a0_v_x), .arr 4 1 a0_v_active.length (gL cBool false a0_v_active), .arr 3 1 s.2.length (gL (cInt .i64) 0 s.2)]⟩) (g := fun s => fair_division_together_f0_pr21_p28 F a0_v_caps a0_v_x a0_v_active most_1 s.1 s.2 = some r) ?_ ?_
    rotate_left
    · rcases cond_out h with ⟨g29, h⟩ | ⟨g29, h⟩
      · obtain ⟨c_30, g31, h⟩ := bind_out h
        try dsimp only at h
        refine SCode.region (show SOps _ _ _ [0, 1, 2, 3, 4, 5, 6, 7] _ _ from ?_)
        refine SOps.q rfl (.plain rfl) rfl (q_move rfl rfl) ?_
        refine SOps.q rfl (.plain rfl) rfl (q_gtr rfl rfl rfl) ?_
        refine SOps.q rfl (.plain rfl) rfl (q_move rfl rfl) ?_
        refine SOps.q rfl (.guard 2 40 true rfl rfl (gT g29)) rfl (q_move rfl rfl) ?_
        refine SOps.q rfl (.guard 2 40 true rfl rfl (gT g29)) rfl (q_move rfl rfl) ?_
        refine SOps.e rfl (.guard 2 40 true rfl rfl (gT g29)) (e_call (fair_division_raisable_f0_pr21_ok F a0_v_caps a0_v_x a0_v_active a0_v_trial most_1 c_30 g31) [0, 1, 2, 3] rfl fn39 rfl rfl rfl rfl rfl rfl rfl rfl) ?_
        refine SOps.q rfl (.guard 2 40 true rfl rfl (gT g29)) rfl (q_not rfl rfl) ?_
        refine SOps.q rfl (.plain rfl) rfl (q_pick_t rfl rfl g29 rfl) ?_
        refine SOps.sub (st' := ⟨[(0, .c (.ptr 0 0)), (2, .c (.int .i64 most_1)), (5, .c (.int .i64 most_1)), (45, .c (.bool ((!c_30.1))))], [.box [.vec a0_v_caps.length 1 (gL (cInt .i64) 0 a0_v_caps), .raw (.func (.func 21) #[] #[]), .own 1 a0_v_x.length, .own 2 a0_v_active.length, .own 3 c_30.2.length], .arr 3 1 a0_v_x.length (gL (cInt .i64) 0 a0_v_x), .arr 4 1 a0_v_active.length (gL cBool false a0_v_active), .arr 3 1 c_30.2.length (gL (cInt .i64) 0 c_30.2)]⟩) (sub_gen [0, 1, 2, 3] rfl rfl ⟨zc rfl rfl, zc rfl rfl, zc rfl rfl, zc rfl rfl, trivial⟩ ⟨⟨_, rfl, ⟨ii rfl rfl, ii rfl rfl, ii rfl rfl, ii rfl rfl, ii rfl rfl, trivial⟩⟩, oa rfl, oa rfl, oa rfl, trivial⟩) ?_
        refine SOps.nil ?_
        exact ⟨((!c_30.1), c_30.2), h, sub_gen [0, 1, 2, 3] rfl rfl ⟨zc rfl rfl, zc rfl rfl, zc rfl rfl, zc rfl rfl, trivial⟩ ⟨⟨_, rfl, ⟨ii rfl rfl, ii rfl rfl, ii rfl rfl, ii rfl rfl, ii rfl rfl, trivial⟩⟩, oa rfl, oa rfl, oa rfl, trivial⟩⟩
      refine SCode.region (show SOps _ _ _ [0, 1, 2, 3, 4, 5, 6, 7] _ _ from ?_)
      refine SOps.q rfl (.plain rfl) rfl (q_move rfl rfl) ?_
      refine SOps.q rfl (.plain rfl) rfl (q_gtr rfl rfl rfl) ?_
      refine SOps.q rfl (.plain rfl) rfl (q_move rfl rfl) ?_
      refine SOps.skip rfl 2 40 true rfl rfl (.inl (gF g29)) rfl ?_
      refine SOps.skip rfl 2 40 true rfl rfl (.inl (gF g29)) rfl ?_
      refine SOps.skip rfl 2 40 true rfl rfl (.inl (gF g29)) rfl ?_
      refine SOps.skip rfl 2 40 true rfl rfl (.inl (gF g29)) rfl ?_
      refine SOps.q rfl (.plain rfl) rfl (q_pick_f rfl rfl g29 rfl) ?_
      refine SOps.sub (st' := ⟨[(0, .c (.ptr 0 0)), (2, .c (.int .i64 most_1)), (5, .c (.int .i64 most_1)), (45, .c (.bool false))], [.box [.vec a0_v_caps.length 1 (gL (cInt .i64) 0 a0_v_caps), .raw (.func (.func 21) #[] #[]), .own 1 a0_v_x.length, .own 2 a0_v_active.length, .own 3 a0_v_trial.length], .arr 3 1 a0_v_x.length (gL (cInt .i64) 0 a0_v_x), .arr 4 1 a0_v_active.length (gL cBool false a0_v_active), .arr 3 1 a0_v_trial.length (gL (cInt .i64) 0 a0_v_trial)]⟩) (sub_gen [0, 1, 2, 3] rfl rfl ⟨zc rfl rfl, zc rfl rfl, zc rfl rfl, zc rfl rfl, trivial⟩ ⟨⟨_, rfl, ⟨ii rfl rfl, ii rfl rfl, ii rfl rfl, ii rfl rfl, ii rfl rfl, trivial⟩⟩, oa rfl, oa rfl, oa rfl, trivial⟩) ?_
      refine SOps.nil ?_
      exact ⟨(false, a0_v_trial), h, sub_gen [0, 1, 2, 3] rfl rfl ⟨zc rfl rfl, zc rfl rfl, zc rfl rfl, zc rfl rfl, trivial⟩ ⟨⟨_, rfl, ⟨ii rfl rfl, ii rfl rfl, ii rfl rfl, ii rfl rfl, ii rfl rfl, trivial⟩⟩, oa rfl, oa rfl, oa rfl, trivial⟩⟩
    rintro ⟨t45_7, o3_8⟩ h
    show SCode _ _ _ ⟨[(0, .c (.ptr 0 0)), (2, .c (.int .i64 most_1)), (5, .c (.int .i64 most_1)), (45, .c (.bool t45_7))], [.box [.vec a0_v_caps.length 1 (gL (cInt .i64) 0 a0_v_caps), .raw (.func (.func 21) #[] #[]), .own 1 a0_v_x.length, .own 2 a0_v_active.length, .own 3 o3_8.length], .arr 3 1 a0_v_x.length (gL (cInt .i64) 0 a0_v_x), .arr 4 1 a0_v_active.length (gL cBool false a0_v_active), .arr 3 1 o3_8.length (gL (cInt .i64) 0 o3_8)]⟩ _
    replace h : fair_division_together_f0_pr21_p28 F a0_v_caps a0_v_x a0_v_active most_1 t45_7 o3_8 = some r := h
    unfold fair_division_together_f0_pr21_p28 at h
    rcases cond_out h with ⟨g9, h⟩ | ⟨g9, h⟩
    · refine SCode.cond_t rfl g9 ?_
      refine SCode.seq ?_
      refine SCode.region (show SOps _ _ _ [0] _ _ from ?_)
      refine SOps.q rfl (.plain rfl) rfl (q_assign rfl rfl) ?_
      refine SOps.sub (st' := ⟨[(0, .c (.ptr 0 0)), (2, .c (.int .i64 most_1)), (5, .c (.int .i64 0))], [.box [.vec a0_v_caps.length 1 (gL (cInt .i64) 0 a0_v_caps), .raw (.func (.func 21) #[] #[]), .own 1 a0_v_x.length, .own 2 a0_v_active.length, .own 3 o3_8.length], .arr 3 1 a0_v_x.length (gL (cInt .i64) 0 a0_v_x), .arr 4 1 a0_v_active.length (gL cBool false a0_v_active), .arr 3 1 o3_8.length (gL (cInt .i64) 0 o3_8)]⟩) (sub_gen [0, 1, 2, 3] rfl rfl ⟨zc rfl rfl, zc rfl rfl, zc rfl rfl, trivial⟩ ⟨⟨_, rfl, ⟨ii rfl rfl, ii rfl rfl, ii rfl rfl, ii rfl rfl, ii rfl rfl, trivial⟩⟩, oa rfl, oa rfl, oa rfl, trivial⟩) ?_
      refine SOps.nil ?_
      refine SCode.seq ?_
      refine SCode.region (show SOps _ _ _ [0, 1] _ _ from ?_)
      refine SOps.q rfl (.plain rfl) rfl (q_move rfl rfl) ?_
      refine SOps.q rfl (.plain rfl) rfl (q_assign rfl rfl) ?_
      refine SOps.sub (st' := ⟨[(0, .c (.ptr 0 0)), (5, .c (.int .i64 0)), (6, .c (.int .i64 most_1))], [.box [.vec a0_v_caps.length 1 (gL (cInt .i64) 0 a0_v_caps), .raw (.func (.func 21) #[] #[]), .own 1 a0_v_x.length, .own 2 a0_v_active.length, .own 3 o3_8.length], .arr 3 1 a0_v_x.length (gL (cInt .i64) 0 a0_v_x), .arr 4 1 a0_v_active.length (gL cBool false a0_v_active), .arr 3 1 o3_8.length (gL (cInt .i64) 0 o3_8)]⟩) (sub_gen [0, 1, 2, 3] rfl rfl ⟨zc rfl rfl, zc rfl rfl, zc rfl rfl, trivial⟩ ⟨⟨_, rfl, ⟨ii rfl rfl, ii rfl rfl, ii rfl rfl, ii rfl rfl, ii rfl rfl, trivial⟩⟩, oa rfl, oa rfl, oa rfl, trivial⟩) ?_
      refine SOps.nil ?_
      refine SCode.block ?_
      refine SCode.sub (st' := ⟨[(0, .c (.ptr 0 0)), (5, .c (.int .i64 0)), (6, .c (.int .i64 most_1))], [.box [.vec a0_v_caps.length 1 (gL (cInt .i64) 0 a0_v_caps), .raw (.func (.func 21) #[] #[]), .own 1 a0_v_x.length, .own 2 a0_v_active.length, .own 3 o3_8.length], .arr 3 1 a0_v_x.length (gL (cInt .i64) 0 a0_v_x), .arr 4 1 a0_v_active.length (gL cBool false a0_v_active), .arr 3 1 o3_8.length (gL (cInt .i64) 0 o3_8)]⟩) (sub_gen [0, 1, 2, 3] rfl rfl ⟨zc rfl rfl, zc rfl rfl, zc rfl rfl, trivial⟩ ⟨⟨_, rfl, ⟨ii rfl rfl, ii rfl rfl, ii rfl rfl, ii rfl rfl, ii rfl rfl, trivial⟩⟩, oa rfl, oa rfl, oa rfl, trivial⟩) ?_
      refine (SCode.loop (σ := Nat × (Int × Int × (List Int))) (S := fun s => ⟨[(0, .c (.ptr 0 0)), (5, .c (.int .i64 s.2.1)), (6, .c (.int .i64 s.2.2.1))], [.box [.vec a0_v_caps.length 1 (gL (cInt .i64) 0 a0_v_caps), .raw (.func (.func 21) #[] #[]), .own 1 a0_v_x.length, .own 2 a0_v_active.length, .own 3 s.2.2.2.length], .arr 3 1 a0_v_x.length (gL (cInt .i64) 0 a0_v_x), .arr 4 1 a0_v_active.length (gL cBool false a0_v_active), .arr 3 1 s.2.2.2.length (gL (cInt .i64) 0 s.2.2.2)]⟩) (g := fun s => fair_division_together_f0_pr21_l23 F a0_v_caps a0_v_x a0_v_active s.1 s.2.1 s.2.2.1 s.2.2.2 = some r) (μ := fun s => s.1) (F, (0, most_1, o3_8)) h ?_)
      rintro ⟨n_23, ⟨d_16, bad_17, o3_18⟩⟩ h
      replace h : fair_division_together_f0_pr21_l23 F a0_v_caps a0_v_x a0_v_active n_23 d_16 bad_17 o3_18 = some r := h
      show SCode _ _ _ ⟨[(0, .c (.ptr 0 0)), (5, .c (.int .i64 d_16)), (6, .c (.int .i64 bad_17))], [.box [.vec a0_v_caps.length 1 (gL (cInt .i64) 0 a0_v_caps), .raw (.func (.func 21) #[] #[]), .own 1 a0_v_x.length, .own 2 a0_v_active.length, .own 3 o3_18.length], .arr 3 1 a0_v_x.length (gL (cInt .i64) 0 a0_v_x), .arr 4 1 a0_v_active.length (gL cBool false a0_v_active), .arr 3 1 o3_18.length (gL (cInt .i64) 0 o3_18)]⟩ _
      cases n_23 with
      | zero => cases h
      | succ n_23 =>
        replace h : fair_division_together_f0_pr21_b23 F a0_v_caps a0_v_x a0_v_active (fun d_16 bad_17 o3_18 => fair_division_together_f0_pr21_l23 F a0_v_caps a0_v_x a0_v_active n_23 d_16 bad_17 o3_18) d_16 bad_17 o3_18 = some r := h
        unfold fair_division_together_f0_pr21_b23 at h
        refine SCode.seq ?_
        refine SCode.seq ?_
        refine SCode.region (show SOps _ _ _ [0, 1, 2, 3] _ _ from ?_)
        refine SOps.q rfl (.plain rfl) rfl (q_move rfl rfl) ?_
        refine SOps.q rfl (.plain rfl) rfl (q_move rfl rfl) ?_
        refine SOps.q rfl (.plain rfl) rfl (q_sub rfl rfl rfl) ?_
        refine SOps.q rfl (.plain rfl) rfl (q_gtr rfl rfl rfl) ?_
        refine SOps.sub (st' := ⟨[(0, .c (.ptr 0 0)), (5, .c (.int .i64 d_16)), (6, .c (.int .i64 bad_17)), (50, .c (.bool (decide (1 < IntKind.wrap .i64 (bad_17 - d_16)))))], [.box [.vec a0_v_caps.length 1 (gL (cInt .i64) 0 a0_v_caps), .raw (.func (.func 21) #[] #[]), .own 1 a0_v_x.length, .own 2 a0_v_active.length, .own 3 o3_18.length], .arr 3 1 a0_v_x.length (gL (cInt .i64) 0 a0_v_x), .arr 4 1 a0_v_active.length (gL cBool false a0_v_active), .arr 3 1 o3_18.length (gL (cInt .i64) 0 o3_18)]⟩) (sub_gen [0, 1, 2, 3] rfl rfl ⟨zc rfl rfl, zc rfl rfl, zc rfl rfl, zc rfl rfl, trivial⟩ ⟨⟨_, rfl, ⟨ii rfl rfl, ii rfl rfl, ii rfl rfl, ii rfl rfl, ii rfl rfl, trivial⟩⟩, oa rfl, oa rfl, oa rfl, trivial⟩) ?_
        refine SOps.nil ?_
        rcases cond_out h with ⟨g24, h⟩ | ⟨g24, h⟩
        · refine SCode.cond_t rfl g24 ?_
          refine SCode.skip ?_
          refine SCode.block ?_
          refine SCode.seq ?_
          refine SCode.region (show SOps _ _ _ [0, 1, 2, 3, 4, 5, 6] _ _ from ?_)
          refine SOps.q rfl (.plain rfl) rfl (q_move rfl rfl) ?_
          refine SOps.q rfl (.plain rfl) rfl (q_move rfl rfl) ?_
          refine SOps.q rfl (.plain rfl) rfl (q_move rfl rfl) ?_
          refine SOps.q rfl (.plain rfl) rfl (q_sub rfl rfl rfl) ?_
          refine SOps.q rfl (.plain rfl) rfl (q_quo rfl rfl rfl (by decide)) ?_
          refine SOps.q rfl (.plain rfl) rfl (q_add rfl rfl rfl) ?_
          refine SOps.q rfl (.plain rfl) rfl (q_assign rfl rfl) ?_
          refine SOps.sub (st' := ⟨[(0, .c (.ptr 0 0)), (5, .c (.int .i64 d_16)), (6, .c (.int .i64 bad_17)), (7, .c (.int .i64 (IntKind.wrap .i64 (d_16 + IntKind.wrap .i64 (Int.tdiv (IntKind.wrap .i64 (bad_17 - d_16)) 2)))))], [.box [.vec a0_v_caps.length 1 (gL (cInt .i64) 0 a0_v_caps), .raw (.func (.func 21) #[] #[]), .own 1 a0_v_x.length, .own 2 a0_v_active.length, .own 3 o3_18.length], .arr 3 1 a0_v_x.length (gL (cInt .i64) 0 a0_v_x), .arr 4 1 a0_v_active.length (gL cBool false a0_v_active), .arr 3 1 o3_18.length (gL (cInt .i64) 0 o3_18)]⟩) (sub_gen [0, 1, 2, 3] rfl rfl ⟨zc rfl rfl, zc rfl rfl, zc rfl rfl, zc rfl rfl, trivial⟩ ⟨⟨_, rfl, ⟨ii rfl rfl, ii rfl rfl, ii rfl rfl, ii rfl rfl, ii rfl rfl, trivial⟩⟩, oa rfl, oa rfl, oa rfl, trivial⟩) ?_
          refine SOps.nil ?_
          refine SCode.seq ?_
          obtain ⟨c_25, g26, h⟩ := bind_out h
          try dsimp only at h
          refine SCode.region (show SOps _ _ _ [0, 1, 2] _ _ from ?_)
          refine SOps.q rfl (.plain rfl) rfl (q_move rfl rfl) ?_
          refine SOps.q rfl (.plain rfl) rfl (q_move rfl rfl) ?_
          refine SOps.e rfl (.plain rfl) (e_call (fair_division_raisable_f0_pr21_ok F a0_v_caps a0_v_x a0_v_active o3_18 (IntKind.wrap .i64 (d_16 + IntKind.wrap .i64 (Int.tdiv (IntKind.wrap .i64 (bad_17 - d_16)) 2))) c_25 g26) [0, 1, 2, 3] rfl fn39 rfl rfl rfl rfl rfl rfl rfl rfl) ?_
          refine SOps.sub (st' := ⟨[(0, .c (.ptr 0 0)), (5, .c (.int .i64 d_16)), (6, .c (.int .i64 bad_17)), (7, .c (.int .i64 (IntKind.wrap .i64 (d_16 + IntKind.wrap .i64 (Int.tdiv (IntKind.wrap .i64 (bad_17 - d_16)) 2))))), (59, .c (.bool c_25.1))], [.box [.vec a0_v_caps.length 1 (gL (cInt .i64) 0 a0_v_caps), .raw (.func (.func 21) #[] #[]), .own 1 a0_v_x.length, .own 2 a0_v_active.length, .own 3 c_25.2.length], .arr 3 1 a0_v_x.length (gL (cInt .i64) 0 a0_v_x), .arr 4 1 a0_v_active.length (gL cBool false a0_v_active), .arr 3 1 c_25.2.length (gL (cInt .i64) 0 c_25.2)]⟩) (sub_gen [0, 1, 2, 3] rfl rfl ⟨zc rfl rfl, zc rfl rfl, zc rfl rfl, zc rfl rfl, zc rfl rfl, trivial⟩ ⟨⟨_, rfl, ⟨ii rfl rfl, ii rfl rfl, ii rfl rfl, ii rfl rfl, ii rfl rfl, trivial⟩⟩, oa rfl, oa rfl, oa rfl, trivial⟩) ?_
          refine SOps.nil ?_
          rcases cond_out h with ⟨g27, h⟩ | ⟨g27, h⟩
          · refine SCode.cond_t rfl g27 ?_
            refine SCode.region (show SOps _ _ _ [0, 1] _ _ from ?_)
            refine SOps.q rfl (.plain rfl) rfl (q_move rfl rfl) ?_
            refine SOps.q rfl (.plain rfl) rfl (q_assign rfl rfl) ?_
            refine SOps.sub (st' := ⟨[(0, .c (.ptr 0 0)), (5, .c (.int .i64 (IntKind.wrap .i64 (d_16 + IntKind.wrap .i64 (Int.tdiv (IntKind.wrap .i64 (bad_17 - d_16)) 2))))), (6, .c (.int .i64 bad_17))], [.box [.vec a0_v_caps.length 1 (gL (cInt .i64) 0 a0_v_caps), .raw (.func (.func 21) #[] #[]), .own 1 a0_v_x.length, .own 2 a0_v_active.length, .own 3 c_25.2.length], .arr 3 1 a0_v_x.length (gL (cInt .i64) 0 a0_v_x), .arr 4 1 a0_v_active.length (gL cBool false a0_v_active), .arr 3 1 c_25.2.length (gL (cInt .i64) 0 c_25.2)]⟩) (sub_gen [0, 1, 2, 3] rfl rfl ⟨zc rfl rfl, zc rfl rfl, zc rfl rfl, trivial⟩ ⟨⟨_, rfl, ⟨ii rfl rfl, ii rfl rfl, ii rfl rfl, ii rfl rfl, ii rfl rfl, trivial⟩⟩, oa rfl, oa rfl, oa rfl, trivial⟩) ?_
            refine SOps.nil ?_
            exact ⟨(n_23, (IntKind.wrap .i64 (d_16 + IntKind.wrap .i64 (Int.tdiv (IntKind.wrap .i64 (bad_17 - d_16)) 2)), bad_17, c_25.2)), h, Nat.lt_succ_self n_23, sub_gen [0, 1, 2, 3] rfl rfl ⟨zc rfl rfl, zc rfl rfl, zc rfl rfl, trivial⟩ ⟨⟨_, rfl, ⟨ii rfl rfl, ii rfl rfl, ii rfl rfl, ii rfl rfl, ii rfl rfl, trivial⟩⟩, oa rfl, oa rfl, oa rfl, trivial⟩⟩
          refine SCode.cond_f rfl g27 ?_
          refine SCode.region (show SOps _ _ _ [0, 1] _ _ from ?_)
          refine SOps.q rfl (.plain rfl) rfl (q_move rfl rfl) ?_
          refine SOps.q rfl (.plain rfl) rfl (q_assign rfl rfl) ?_
          refine SOps.sub (st' := ⟨[(0, .c (.ptr 0 0)), (5, .c (.int .i64 d_16)), (6, .c (.int .i64 (IntKind.wrap .i64 (d_16 + IntKind.wrap .i64 (Int.tdiv (IntKind.wrap .i64 (bad_17 - d_16)) 2)))))], [.box [.vec a0_v_caps.length 1 (gL (cInt .i64) 0 a0_v_caps), .raw (.func (.func 21) #[] #[]), .own 1 a0_v_x.length, .own 2 a0_v_active.length, .own 3 c_25.2.length], .arr 3 1 a0_v_x.length (gL (cInt .i64) 0 a0_v_x), .arr 4 1 a0_v_active.length (gL cBool false a0_v_active), .arr 3 1 c_25.2.length (gL (cInt .i64) 0 c_25.2)]⟩) (sub_gen [0, 1, 2, 3] rfl rfl ⟨zc rfl rfl, zc rfl rfl, zc rfl rfl, trivial⟩ ⟨⟨_, rfl, ⟨ii rfl rfl, ii rfl rfl, ii rfl rfl, ii rfl rfl, ii rfl rfl, trivial⟩⟩, oa rfl, oa rfl, oa rfl, trivial⟩) ?_
          refine SOps.nil ?_
          exact ⟨(n_23, (d_16, IntKind.wrap .i64 (d_16 + IntKind.wrap .i64 (Int.tdiv (IntKind.wrap .i64 (bad_17 - d_16)) 2)), c_25.2)), h, Nat.lt_succ_self n_23, sub_gen [0, 1, 2, 3] rfl rfl ⟨zc rfl rfl, zc rfl rfl, zc rfl rfl, trivial⟩ ⟨⟨_, rfl, ⟨ii rfl rfl, ii rfl rfl, ii rfl rfl, ii rfl rfl, ii rfl rfl, trivial⟩⟩, oa rfl, oa rfl, oa rfl, trivial⟩⟩
        refine SCode.cond_f rfl g24 ?_
        refine SCode.exit ?_
        exact ⟨(d_16, o3_18), h, sub_gen [0, 1, 2, 3] rfl rfl ⟨zc rfl rfl, zc rfl rfl, trivial⟩ ⟨⟨_, rfl, ⟨ii rfl rfl, ii rfl rfl, ii rfl rfl, ii rfl rfl, ii rfl rfl, trivial⟩⟩, oa rfl, oa rfl, oa rfl, trivial⟩⟩
    refine SCode.cond_f rfl g9 ?_
    refine SCode.skip ?_
    exact ⟨(most_1, o3_8), h, sub_gen [0, 1, 2, 3] rfl rfl ⟨zc rfl rfl, zc rfl rfl, trivial⟩ ⟨⟨_, rfl, ⟨ii rfl rfl, ii rfl rfl, ii rfl rfl, ii rfl rfl, ii rfl rfl, trivial⟩⟩, oa rfl, oa rfl, oa rfl, trivial⟩⟩
  rintro ⟨d_2, o3_3⟩ h
  show SCode _ _ _ ⟨[(0, .c (.ptr 0 0)), (5, .c (.int .i64 d_2))], [.box [.vec a0_v_caps.length 1 (gL (cInt .i64) 0 a0_v_caps), .raw (.func (.func 21) #[] #[]), .own 1 a0_v_x.length, .own 2 a0_v_active.length, .own 3 o3_3.length], .arr 3 1 a0_v_x.length (gL (cInt .i64) 0 a0_v_x), .arr 4 1 a0_v_active.length (gL cBool false a0_v_active), .arr 3 1 o3_3.length (gL (cInt .i64) 0 o3_3)]⟩ _
  replace h : fair_division_together_f0_pr21_p6 F a0_v_caps a0_v_x a0_v_active d_2 o3_3 = some r := h
  unfold fair_division_together_f0_pr21_p6 at h
  refine SCode.seq ?_
  obtain ⟨c_4, g5, h⟩ := bind_out h
  try dsimp only at h
  refine SCode.region (show SOps _ _ _ [0, 1, 2] _ _ from ?_)
  refine SOps.q rfl (.plain rfl) rfl (q_move rfl rfl) ?_
  refine SOps.q rfl (.plain rfl) rfl (q_move rfl rfl) ?_
  refine SOps.e rfl (.plain rfl) (e_call (fair_division_raise_f0_pr21_ok F a0_v_caps a0_v_x a0_v_active o3_3 d_2 c_4 g5) [0, 1, 2, 3] rfl fn40 rfl rfl rfl rfl rfl rfl rfl rfl) ?_
  refine SOps.sub (st' := ⟨[(0, .c (.ptr 0 0))], [.box [.vec a0_v_caps.length 1 (gL (cInt .i64) 0 a0_v_caps), .raw (.func (.func 21) #[] #[]), .own 1 a0_v_x.length, .own 2 a0_v_active.length, .own 3 c_4.length], .arr 3 1 a0_v_x.length (gL (cInt .i64) 0 a0_v_x), .arr 4 1 a0_v_active.length (gL cBool false a0_v_active), .arr 3 1 c_4.length (gL (cInt .i64) 0 c_4)]⟩) (sub_gen [0, 1, 2, 3] rfl rfl ⟨zc rfl rfl, trivial⟩ ⟨⟨_, rfl, ⟨ii rfl rfl, ii rfl rfl, ii rfl rfl, ii rfl rfl, ii rfl rfl, trivial⟩⟩, oa rfl, oa rfl, oa rfl, trivial⟩) ?_
  refine SOps.nil ?_
  refine SCode.draw (s' := [(72, .c (.own 3 c_4.length)), (71, .c (.ptr 0 4)), (70, .c (.ptr 0 0)), (69, .c (.ptr 0 0)), (68, .c (.own 1 a0_v_x.length)), (67, .c (.ptr 0 2)), (66, .c (.ptr 0 0)), (65, .c (.ptr 0 0)), (0, .c (.ptr 0 0))]) mixed [[], [0], [0, 1], [0, 1, 2], [], [4], [4, 5], [4, 5, 6], [0, 1, 2, 3, 4, 5, 6, 7]] 8 1 rfl rfl ?_ ?_
  · refine QChain.run rfl (.plain rfl) rfl (q_move rfl rfl) ?_
    refine QChain.run rfl (.plain rfl) rfl (q_nilCheck rfl rfl rfl) ?_
    refine QChain.run rfl (.plain rfl) rfl (q_field_ptr rfl rfl fd54_2) ?_
    refine QChain.run rfl (.plain rfl) rfl (q_load_ptr rfl rfl rfl rfl ty22) ?_
    refine QChain.run rfl (.plain rfl) rfl (q_move rfl rfl) ?_
    refine QChain.run rfl (.plain rfl) rfl (q_nilCheck rfl rfl rfl) ?_
    refine QChain.run rfl (.plain rfl) rfl (q_field_ptr rfl rfl fd54_4) ?_
    refine QChain.run rfl (.plain rfl) rfl (q_load_ptr rfl rfl rfl rfl ty22) ?_
    exact QChain.nil _ _
  refine (show SOps _ _ _ [8] _ _ from ?_)
  refine SOps.e rfl (.plain rfl) (e_copyL (c := (cInt .i64)) (d0 := 0) (l := a0_v_x) (s := c_4) (lo := 0) (n := (a0_v_x).length) (m := min (c_4).length ((a0_v_x).length)) rfl rfl rfl (.inr ⟨rfl, rfl⟩) rfl rfl (.inr (.inr ⟨_, _, rfl, rfl⟩)) sl22 rfl oneInt (Nat.le_of_eq (Nat.zero_add _)) rfl) ?_
  refine SOps.sub (st' := ⟨[], [.box [.vec a0_v_caps.length 1 (gL (cInt .i64) 0 a0_v_caps), .raw (.func (.func 21) #[] #[]), .own 1 (copyL a0_v_x 0 ((a0_v_x).length) c_4).length, .own 2 a0_v_active.length, .own 3 c_4.length], .arr 3 1 (copyL a0_v_x 0 ((a0_v_x).length) c_4).length (gL (cInt .i64) 0 (copyL a0_v_x 0 ((a0_v_x).length) c_4)), .arr 4 1 a0_v_active.length (gL cBool false a0_v_active), .arr 3 1 c_4.length (gL (cInt .i64) 0 c_4)]⟩) (sub_gen [0, 1, 2, 3] rfl rfl trivial ⟨⟨_, rfl, ⟨ii rfl rfl, ii rfl rfl, .inl ⟨rfl, congrArg (Cell.own 1) (copyL_len (l := a0_v_x) (s := c_4) (lo := 0) (n := (a0_v_x).length) (Nat.le_of_eq (Nat.zero_add _))).symm⟩, ii rfl rfl, ii rfl rfl, trivial⟩⟩, oa rfl, oa rfl, oa rfl, trivial⟩) ?_
  refine SOps.nil ?_
  obtain rfl := Option.some.inj h
  exact ⟨⟨[], [.box [.vec a0_v_caps.length 1 (gL (cInt .i64) 0 a0_v_caps), .raw (.func (.func 21) #[] #[]), .own 1 (copyL a0_v_x 0 ((a0_v_x).length) c_4).length, .own 2 a0_v_active.length, .own 3 c_4.length], .arr 3 1 (copyL a0_v_x 0 ((a0_v_x).length) c_4).length (gL (cInt .i64) 0 (copyL a0_v_x 0 ((a0_v_x).length) c_4)), .arr 4 1 a0_v_active.length (gL cBool false a0_v_active), .arr 3 1 c_4.length (gL (cInt .i64) 0 c_4)]⟩, _, sub_gen [0, 1, 2, 3] rfl rfl trivial ⟨⟨_, rfl, ⟨ii rfl rfl, ii rfl rfl, ii rfl rfl, ii rfl rfl, ii rfl rfl, trivial⟩⟩, oa rfl, oa rfl, oa rfl, trivial⟩, resA0 rfl, ⟨rfl, rfl⟩⟩
end Go.Proofs.Ythpblkclpfmbeaa.W
