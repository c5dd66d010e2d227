/- Written by a program of ours (wip/eng/gen.py): the functions compute their models. -/
import Derived.Test.YtggfgdohbeoabaaFacts
import Derived.Test.YtggfgdohbeoabaaV9x3
namespace Go.Proofs.Ytggfgdohbeoabaa.W
open Go Go.Proofs Go.Proofs.Ytggfgdohbeoabaa.E Go.Proofs.Ytggfgdohbeoabaa.M
set_option linter.unusedVariables false
set_option maxRecDepth 100000 in
set_option maxHeartbeats 8000000 in
theorem chargenetlaw39_exampleHolds_ok (F : Nat)  (r : Bool) (h : chargenetlaw39_exampleHolds F  = some r) :
    SFun Try.prog 11 [] [] (fun x _ => x = .c (.bool r)) := by
  refine SFun.of (n := 83) Try.func11 rfl rfl rfl ?_
  unfold chargenetlaw39_exampleHolds at h
  show SCode _ _ _ ⟨[], []⟩ _
  refine SCode.seq ?_
  refine SCode.region (show SOps _ _ _ [0] _ _ from ?_)
  refine SOps.q rfl (.plain rfl) rfl (q_assign rfl rfl) ?_
  refine SOps.sub (st' := ⟨[], []⟩) (sub_gen [] rfl rfl trivial trivial) ?_
  refine SOps.nil ?_
  refine SCode.seq ?_
  refine SCode.region (show SOps _ _ _ [0, 1, 2, 3, 4, 5] _ _ from ?_)
  refine SOps.q rfl (.plain rfl) rfl (q_bsliceL (c := (cInt .i64)) (d0 := 0) [1, 5] rfl rfl sl48 z3 rfl rfl rfl rfl rfl rfl rfl) ?_
  refine SOps.q rfl (.plain rfl) rfl (q_build2 rfl rfl pl51 rfl) ?_
  refine SOps.q rfl (.plain rfl) rfl (q_bsliceL (c := (cInt .i64)) (d0 := 0) [5] rfl rfl sl48 z3 rfl rfl rfl rfl rfl rfl rfl) ?_
  refine SOps.q rfl (.plain rfl) rfl (q_build2 rfl rfl pl51 rfl) ?_
  refine SOps.q rfl (.plain rfl) rfl (q_bsliceL (c := cSRole) (d0 := dSRole) [SRole.mk (ByteArray.mk #[97, 108, 108]) ([1, 5]) ByteArray.empty false, SRole.mk (ByteArray.mk #[110, 111]) ([5]) (ByteArray.mk #[83, 49]) true] rfl rfl sl22 z51 rfl rfl rfl rfl rfl rfl rfl) ?_
  refine SOps.q rfl (.plain rfl) rfl (q_assign rfl rfl) ?_
  refine SOps.sub (st' := ⟨[(1, .c (.vec ([SRole.mk (ByteArray.mk #[97, 108, 108]) ([1, 5]) ByteArray.empty false, SRole.mk (ByteArray.mk #[110, 111]) ([5]) (ByteArray.mk #[83, 49]) true]).length 4 (gL cSRole dSRole ([SRole.mk (ByteArray.mk #[97, 108, 108]) ([1, 5]) ByteArray.empty false, SRole.mk (ByteArray.mk #[110, 111]) ([5]) (ByteArray.mk #[83, 49]) true]))))], []⟩) (sub_gen [] rfl rfl ⟨zc rfl rfl, trivial⟩ trivial) ?_
  refine SOps.nil ?_
  refine SCode.seq ?_
  refine SCode.region (show SOps _ _ _ [0, 1, 2, 3, 4, 5, 6, 7] _ _ from ?_)
  refine SOps.q rfl (.plain rfl) rfl (q_build2 rfl rfl pl35 rfl) ?_
  refine SOps.q rfl (.plain rfl) rfl (q_build2 rfl rfl pl37 rfl) ?_
  refine SOps.q rfl (.plain rfl) rfl (q_build2 rfl rfl pl35 rfl) ?_
  refine SOps.q rfl (.plain rfl) rfl (q_build2 rfl rfl pl37 rfl) ?_
  refine SOps.q rfl (.plain rfl) rfl (q_build2 rfl rfl pl35 rfl) ?_
  refine SOps.q rfl (.plain rfl) rfl (q_build2 rfl rfl pl37 rfl) ?_
  refine SOps.q rfl (.plain rfl) rfl (q_bsliceL (c := cSGrant) (d0 := dSGrant) [SGrant.mk (ByteArray.mk #[117]) (ByteArray.mk #[97, 108, 108]) 0 10, SGrant.mk (ByteArray.mk #[117]) (ByteArray.mk #[97, 108, 108]) 10 ((-1)), SGrant.mk (ByteArray.mk #[117]) (ByteArray.mk #[110, 111]) 5 ((-1))] rfl rfl sl23 z37 rfl rfl rfl rfl rfl rfl rfl) ?_
  refine SOps.q rfl (.plain rfl) rfl (q_assign rfl rfl) ?_
  refine SOps.sub (st' := ⟨[(1, .c (.vec ([SRole.mk (ByteArray.mk #[97, 108, 108]) ([1, 5]) ByteArray.empty false, SRole.mk (ByteArray.mk #[110, 111]) ([5]) (ByteArray.mk #[83, 49]) true]).length 4 (gL cSRole dSRole ([SRole.mk (ByteArray.mk #[97, 108, 108]) ([1, 5]) ByteArray.empty false, SRole.mk (ByteArray.mk #[110, 111]) ([5]) (ByteArray.mk #[83, 49]) true])))), (2, .c (.vec ([SGrant.mk (ByteArray.mk #[117]) (ByteArray.mk #[97, 108, 108]) 0 10, SGrant.mk (ByteArray.mk #[117]) (ByteArray.mk #[97, 108, 108]) 10 ((-1)), SGrant.mk (ByteArray.mk #[117]) (ByteArray.mk #[110, 111]) 5 ((-1))]).length 4 (gL cSGrant dSGrant ([SGrant.mk (ByteArray.mk #[117]) (ByteArray.mk #[97, 108, 108]) 0 10, SGrant.mk (ByteArray.mk #[117]) (ByteArray.mk #[97, 108, 108]) 10 ((-1)), SGrant.mk (ByteArray.mk #[117]) (ByteArray.mk #[110, 111]) 5 ((-1))]))))], []⟩) (sub_gen [] rfl rfl ⟨zc rfl rfl, zc rfl rfl, trivial⟩ trivial) ?_
  refine SOps.nil ?_
  refine SCode.seq ?_
  refine SCode.seq ?_
  obtain ⟨c_1, g2, h⟩ := bind_out h
  try dsimp only at h
  rcases cond_out h with ⟨g3, h⟩ | ⟨g3, h⟩
  · refine SCode.region (show SOps _ _ _ [0, 1, 2, 3, 4, 5, 6, 7, 8, 9, 10, 11, 12, 13, 14, 15, 16, 17, 18, 19, 20, 21, 22, 23, 24, 25] _ _ from ?_)
    refine SOps.q rfl (.plain rfl) rfl (q_move rfl rfl) ?_
    refine SOps.q rfl (.plain rfl) rfl (q_move rfl rfl) ?_
    refine SOps.q rfl (.plain rfl) rfl (q_call (access_Valid_ok F ([SRole.mk (ByteArray.mk #[97, 108, 108]) ([1, 5]) ByteArray.empty false, SRole.mk (ByteArray.mk #[110, 111]) ([5]) (ByteArray.mk #[83, 49]) true]) ([SGrant.mk (ByteArray.mk #[117]) (ByteArray.mk #[97, 108, 108]) 0 10, SGrant.mk (ByteArray.mk #[117]) (ByteArray.mk #[97, 108, 108]) 10 ((-1)), SGrant.mk (ByteArray.mk #[117]) (ByteArray.mk #[110, 111]) 5 ((-1))]) c_1 g2) [] rfl fn12 ⟨⟨_, rfl, .inl ⟨rfl, rfl⟩⟩, ⟨_, rfl, .inl ⟨rfl, rfl⟩⟩, trivial⟩ (.inl rfl)) ?_
    refine SOps.q rfl (.plain rfl) rfl (q_neq rfl rfl rfl) ?_
    refine SOps.q rfl (.plain rfl) rfl (q_move rfl rfl) ?_
    refine SOps.skip rfl 4 23 false rfl rfl (.inl (gT g3)) rfl ?_
    refine SOps.skip rfl 4 23 false rfl rfl (.inl (gT g3)) rfl ?_
    refine SOps.skip rfl 4 23 false rfl rfl (.inl (gT g3)) rfl ?_
    refine SOps.skip rfl 4 23 false rfl rfl (.inl (gT g3)) rfl ?_
    refine SOps.q rfl (.plain rfl) rfl (q_pick_t rfl rfl g3 rfl) ?_
    refine SOps.q rfl (.plain rfl) rfl (q_move rfl rfl) ?_
    refine SOps.skip rfl 10 29 false rfl rfl (.inl rfl) rfl ?_
    refine SOps.skip rfl 10 29 false rfl rfl (.inl rfl) rfl ?_
    refine SOps.skip rfl 10 29 false rfl rfl (.inl rfl) rfl ?_
    refine SOps.q rfl (.plain rfl) rfl (q_pick_t rfl rfl rfl rfl) ?_
    refine SOps.q rfl (.plain rfl) rfl (q_move rfl rfl) ?_
    refine SOps.skip rfl 15 34 false rfl rfl (.inl rfl) rfl ?_
    refine SOps.skip rfl 15 34 false rfl rfl (.inl rfl) rfl ?_
    refine SOps.skip rfl 15 34 false rfl rfl (.inl rfl) rfl ?_
    refine SOps.skip rfl 15 34 false rfl rfl (.inl rfl) rfl ?_
    refine SOps.q rfl (.plain rfl) rfl (q_pick_t rfl rfl rfl rfl) ?_
    refine SOps.q rfl (.plain rfl) rfl (q_move rfl rfl) ?_
    refine SOps.skip rfl 21 40 false rfl rfl (.inl rfl) rfl ?_
    refine SOps.skip rfl 21 40 false rfl rfl (.inl rfl) rfl ?_
    refine SOps.skip rfl 21 40 false rfl rfl (.inl rfl) rfl ?_
    refine SOps.q rfl (.plain rfl) rfl (q_pick_t rfl rfl rfl rfl) ?_
    refine SOps.sub (st' := ⟨[(1, .c (.vec ([SRole.mk (ByteArray.mk #[97, 108, 108]) ([1, 5]) ByteArray.empty false, SRole.mk (ByteArray.mk #[110, 111]) ([5]) (ByteArray.mk #[83, 49]) true]).length 4 (gL cSRole dSRole ([SRole.mk (ByteArray.mk #[97, 108, 108]) ([1, 5]) ByteArray.empty false, SRole.mk (ByteArray.mk #[110, 111]) ([5]) (ByteArray.mk #[83, 49]) true])))), (2, .c (.vec ([SGrant.mk (ByteArray.mk #[117]) (ByteArray.mk #[97, 108, 108]) 0 10, SGrant.mk (ByteArray.mk #[117]) (ByteArray.mk #[97, 108, 108]) 10 ((-1)), SGrant.mk (ByteArray.mk #[117]) (ByteArray.mk #[110, 111]) 5 ((-1))]).length 4 (gL cSGrant dSGrant ([SGrant.mk (ByteArray.mk #[117]) (ByteArray.mk #[97, 108, 108]) 0 10, SGrant.mk (ByteArray.mk #[117]) (ByteArray.mk #[97, 108, 108]) 10 ((-1)), SGrant.mk (ByteArray.mk #[117]) (ByteArray.mk #[110, 111]) 5 ((-1))])))), (44, .c (.bool true))], []⟩) (sub_gen [] rfl rfl ⟨zc rfl rfl, zc rfl rfl, zc rfl rfl, trivial⟩ trivial) ?_
    refine SOps.nil ?_
    refine SCode.cond_t rfl rfl ?_
    refine SCode.seq ?_
    refine SCode.region (show SOps _ _ _ [0] _ _ from ?_)
    refine SOps.q rfl (.plain rfl) rfl (q_assign rfl rfl) ?_
    refine SOps.sub (st' := ⟨[(0, .c (.bool false))], []⟩) (sub_gen [] rfl rfl ⟨zc rfl rfl, trivial⟩ trivial) ?_
    refine SOps.nil ?_
    refine SCode.ret ?_
    obtain rfl := Option.some.inj h
    exact ⟨⟨[(0, .c (.bool false))], []⟩, _, sub_gen [] rfl rfl ⟨zc rfl rfl, trivial⟩ trivial, resA1 (v := .c (.bool false)) rfl rfl, rfl⟩
  obtain ⟨c_4, g5, h⟩ := bind_out h
  try dsimp only at h
  rcases cond_out h with ⟨g6, h⟩ | ⟨g6, h⟩
  · refine SCode.region (show SOps _ _ _ [0, 1, 2, 3, 4, 5, 6, 7, 8, 9, 10, 11, 12, 13, 14, 15, 16, 17, 18, 19, 20, 21, 22, 23, 24, 25] _ _ from ?_)
    refine SOps.q rfl (.plain rfl) rfl (q_move rfl rfl) ?_
    refine SOps.q rfl (.plain rfl) rfl (q_move rfl rfl) ?_
    refine SOps.q rfl (.plain rfl) rfl (q_call (access_Valid_ok F ([SRole.mk (ByteArray.mk #[97, 108, 108]) ([1, 5]) ByteArray.empty false, SRole.mk (ByteArray.mk #[110, 111]) ([5]) (ByteArray.mk #[83, 49]) true]) ([SGrant.mk (ByteArray.mk #[117]) (ByteArray.mk #[97, 108, 108]) 0 10, SGrant.mk (ByteArray.mk #[117]) (ByteArray.mk #[97, 108, 108]) 10 ((-1)), SGrant.mk (ByteArray.mk #[117]) (ByteArray.mk #[110, 111]) 5 ((-1))]) c_1 g2) [] rfl fn12 ⟨⟨_, rfl, .inl ⟨rfl, rfl⟩⟩, ⟨_, rfl, .inl ⟨rfl, rfl⟩⟩, trivial⟩ (.inl rfl)) ?_
    refine SOps.q rfl (.plain rfl) rfl (q_neq rfl rfl rfl) ?_
    refine SOps.q rfl (.plain rfl) rfl (q_move rfl rfl) ?_
    refine SOps.q rfl (.guard 4 23 false rfl rfl (gF g3)) rfl (q_move rfl rfl) ?_
    refine SOps.q rfl (.guard 4 23 false rfl rfl (gF g3)) rfl (q_move rfl rfl) ?_
    refine SOps.q rfl (.guard 4 23 false rfl rfl (gF g3)) rfl (q_call (access_Allowed_ok F ([SRole.mk (ByteArray.mk #[97, 108, 108]) ([1, 5]) ByteArray.empty false, SRole.mk (ByteArray.mk #[110, 111]) ([5]) (ByteArray.mk #[83, 49]) true]) ([SGrant.mk (ByteArray.mk #[117]) (ByteArray.mk #[97, 108, 108]) 0 10, SGrant.mk (ByteArray.mk #[117]) (ByteArray.mk #[97, 108, 108]) 10 ((-1)), SGrant.mk (ByteArray.mk #[117]) (ByteArray.mk #[110, 111]) 5 ((-1))]) (ByteArray.mk #[117]) 5 (ByteArray.mk #[83, 50]) 5 c_4 g5) [] rfl fn14 ⟨⟨_, rfl, .inl ⟨rfl, rfl⟩⟩, ⟨_, rfl, .inl ⟨rfl, rfl⟩⟩, ⟨_, rfl, .inl ⟨rfl, rfl⟩⟩, ⟨_, rfl, .inl ⟨rfl, rfl⟩⟩, ⟨_, rfl, .inl ⟨rfl, rfl⟩⟩, ⟨_, rfl, .inl ⟨rfl, rfl⟩⟩, trivial⟩ (.inl rfl)) ?_
    refine SOps.q rfl (.guard 4 23 false rfl rfl (gF g3)) rfl (q_not rfl rfl) ?_
    refine SOps.q rfl (.plain rfl) rfl (q_pick_f rfl rfl g3 rfl) ?_
    refine SOps.q rfl (.plain rfl) rfl (q_move rfl rfl) ?_
    refine SOps.skip rfl 10 29 false rfl rfl (.inl (gT g6)) rfl ?_
    refine SOps.skip rfl 10 29 false rfl rfl (.inl (gT g6)) rfl ?_
    refine SOps.skip rfl 10 29 false rfl rfl (.inl (gT g6)) rfl ?_
    refine SOps.q rfl (.plain rfl) rfl (q_pick_t rfl rfl g6 rfl) ?_
    refine SOps.q rfl (.plain rfl) rfl (q_move rfl rfl) ?_
    refine SOps.skip rfl 15 34 false rfl rfl (.inl rfl) rfl ?_
    refine SOps.skip rfl 15 34 false rfl rfl (.inl rfl) rfl ?_
    refine SOps.skip rfl 15 34 false rfl rfl (.inl rfl) rfl ?_
    refine SOps.skip rfl 15 34 false rfl rfl (.inl rfl) rfl ?_
    refine SOps.q rfl (.plain rfl) rfl (q_pick_t rfl rfl rfl rfl) ?_
    refine SOps.q rfl (.plain rfl) rfl (q_move rfl rfl) ?_
    refine SOps.skip rfl 21 40 false rfl rfl (.inl rfl) rfl ?_
    refine SOps.skip rfl 21 40 false rfl rfl (.inl rfl) rfl ?_
    refine SOps.skip rfl 21 40 false rfl rfl (.inl rfl) rfl ?_
    refine SOps.q rfl (.plain rfl) rfl (q_pick_t rfl rfl rfl rfl) ?_
    refine SOps.sub (st' := ⟨[(1, .c (.vec ([SRole.mk (ByteArray.mk #[97, 108, 108]) ([1, 5]) ByteArray.empty false, SRole.mk (ByteArray.mk #[110, 111]) ([5]) (ByteArray.mk #[83, 49]) true]).length 4 (gL cSRole dSRole ([SRole.mk (ByteArray.mk #[97, 108, 108]) ([1, 5]) ByteArray.empty false, SRole.mk (ByteArray.mk #[110, 111]) ([5]) (ByteArray.mk #[83, 49]) true])))), (2, .c (.vec ([SGrant.mk (ByteArray.mk #[117]) (ByteArray.mk #[97, 108, 108]) 0 10, SGrant.mk (ByteArray.mk #[117]) (ByteArray.mk #[97, 108, 108]) 10 ((-1)), SGrant.mk (ByteArray.mk #[117]) (ByteArray.mk #[110, 111]) 5 ((-1))]).length 4 (gL cSGrant dSGrant ([SGrant.mk (ByteArray.mk #[117]) (ByteArray.mk #[97, 108, 108]) 0 10, SGrant.mk (ByteArray.mk #[117]) (ByteArray.mk #[97, 108, 108]) 10 ((-1)), SGrant.mk (ByteArray.mk #[117]) (ByteArray.mk #[110, 111]) 5 ((-1))])))), (44, .c (.bool true))], []⟩) (sub_gen [] rfl rfl ⟨zc rfl rfl, zc rfl rfl, zc rfl rfl, trivial⟩ trivial) ?_
    refine SOps.nil ?_
    refine SCode.cond_t rfl rfl ?_
    refine SCode.seq ?_
    refine SCode.region (show SOps _ _ _ [0] _ _ from ?_)
    refine SOps.q rfl (.plain rfl) rfl (q_assign rfl rfl) ?_
    refine SOps.sub (st' := ⟨[(0, .c (.bool false))], []⟩) (sub_gen [] rfl rfl ⟨zc rfl rfl, trivial⟩ trivial) ?_
    refine SOps.nil ?_
    refine SCode.ret ?_
    obtain rfl := Option.some.inj h
    exact ⟨⟨[(0, .c (.bool false))], []⟩, _, sub_gen [] rfl rfl ⟨zc rfl rfl, trivial⟩ trivial, resA1 (v := .c (.bool false)) rfl rfl, rfl⟩
  obtain ⟨c_7, g8, h⟩ := bind_out h
  try dsimp only at h
  rcases cond_out h with ⟨g9, h⟩ | ⟨g9, h⟩
  · refine SCode.region (show SOps _ _ _ [0, 1, 2, 3, 4, 5, 6, 7, 8, 9, 10, 11, 12, 13, 14, 15, 16, 17, 18, 19, 20, 21, 22, 23, 24, 25] _ _ from ?_)
    refine SOps.q rfl (.plain rfl) rfl (q_move rfl rfl) ?_
    refine SOps.q rfl (.plain rfl) rfl (q_move rfl rfl) ?_
    refine SOps.q rfl (.plain rfl) rfl (q_call (access_Valid_ok F ([SRole.mk (ByteArray.mk #[97, 108, 108]) ([1, 5]) ByteArray.empty false, SRole.mk (ByteArray.mk #[110, 111]) ([5]) (ByteArray.mk #[83, 49]) true]) ([SGrant.mk (ByteArray.mk #[117]) (ByteArray.mk #[97, 108, 108]) 0 10, SGrant.mk (ByteArray.mk #[117]) (ByteArray.mk #[97, 108, 108]) 10 ((-1)), SGrant.mk (ByteArray.mk #[117]) (ByteArray.mk #[110, 111]) 5 ((-1))]) c_1 g2) [] rfl fn12 ⟨⟨_, rfl, .inl ⟨rfl, rfl⟩⟩, ⟨_, rfl, .inl ⟨rfl, rfl⟩⟩, trivial⟩ (.inl rfl)) ?_
    refine SOps.q rfl (.plain rfl) rfl (q_neq rfl rfl rfl) ?_
    refine SOps.q rfl (.plain rfl) rfl (q_move rfl rfl) ?_
    refine SOps.q rfl (.guard 4 23 false rfl rfl (gF g3)) rfl (q_move rfl rfl) ?_
    refine SOps.q rfl (.guard 4 23 false rfl rfl (gF g3)) rfl (q_move rfl rfl) ?_
    refine SOps.q rfl (.guard 4 23 false rfl rfl (gF g3)) rfl (q_call (access_Allowed_ok F ([SRole.mk (ByteArray.mk #[97, 108, 108]) ([1, 5]) ByteArray.empty false, SRole.mk (ByteArray.mk #[110, 111]) ([5]) (ByteArray.mk #[83, 49]) true]) ([SGrant.mk (ByteArray.mk #[117]) (ByteArray.mk #[97, 108, 108]) 0 10, SGrant.mk (ByteArray.mk #[117]) (ByteArray.mk #[97, 108, 108]) 10 ((-1)), SGrant.mk (ByteArray.mk #[117]) (ByteArray.mk #[110, 111]) 5 ((-1))]) (ByteArray.mk #[117]) 5 (ByteArray.mk #[83, 50]) 5 c_4 g5) [] rfl fn14 ⟨⟨_, rfl, .inl ⟨rfl, rfl⟩⟩, ⟨_, rfl, .inl ⟨rfl, rfl⟩⟩, ⟨_, rfl, .inl ⟨rfl, rfl⟩⟩, ⟨_, rfl, .inl ⟨rfl, rfl⟩⟩, ⟨_, rfl, .inl ⟨rfl, rfl⟩⟩, ⟨_, rfl, .inl ⟨rfl, rfl⟩⟩, trivial⟩ (.inl rfl)) ?_
    refine SOps.q rfl (.guard 4 23 false rfl rfl (gF g3)) rfl (q_not rfl rfl) ?_
    refine SOps.q rfl (.plain rfl) rfl (q_pick_f rfl rfl g3 rfl) ?_
    refine SOps.q rfl (.plain rfl) rfl (q_move rfl rfl) ?_
    refine SOps.q rfl (.guard 10 29 false rfl rfl (gF g6)) rfl (q_move rfl rfl) ?_
    refine SOps.q rfl (.guard 10 29 false rfl rfl (gF g6)) rfl (q_move rfl rfl) ?_
    refine SOps.q rfl (.guard 10 29 false rfl rfl (gF g6)) rfl (q_call (access_Allowed_ok F ([SRole.mk (ByteArray.mk #[97, 108, 108]) ([1, 5]) ByteArray.empty false, SRole.mk (ByteArray.mk #[110, 111]) ([5]) (ByteArray.mk #[83, 49]) true]) ([SGrant.mk (ByteArray.mk #[117]) (ByteArray.mk #[97, 108, 108]) 0 10, SGrant.mk (ByteArray.mk #[117]) (ByteArray.mk #[97, 108, 108]) 10 ((-1)), SGrant.mk (ByteArray.mk #[117]) (ByteArray.mk #[110, 111]) 5 ((-1))]) (ByteArray.mk #[117]) 5 (ByteArray.mk #[83, 49, 48]) 5 c_7 g8) [] rfl fn14 ⟨⟨_, rfl, .inl ⟨rfl, rfl⟩⟩, ⟨_, rfl, .inl ⟨rfl, rfl⟩⟩, ⟨_, rfl, .inl ⟨rfl, rfl⟩⟩, ⟨_, rfl, .inl ⟨rfl, rfl⟩⟩, ⟨_, rfl, .inl ⟨rfl, rfl⟩⟩, ⟨_, rfl, .inl ⟨rfl, rfl⟩⟩, trivial⟩ (.inl rfl)) ?_
    refine SOps.q rfl (.plain rfl) rfl (q_pick_f rfl rfl g6 rfl) ?_
    refine SOps.q rfl (.plain rfl) rfl (q_move rfl rfl) ?_
    refine SOps.skip rfl 15 34 false rfl rfl (.inl (gT g9)) rfl ?_
    refine SOps.skip rfl 15 34 false rfl rfl (.inl (gT g9)) rfl ?_
    refine SOps.skip rfl 15 34 false rfl rfl (.inl (gT g9)) rfl ?_
    refine SOps.skip rfl 15 34 false rfl rfl (.inl (gT g9)) rfl ?_
    refine SOps.q rfl (.plain rfl) rfl (q_pick_t rfl rfl g9 rfl) ?_
    refine SOps.q rfl (.plain rfl) rfl (q_move rfl rfl) ?_
    refine SOps.skip rfl 21 40 false rfl rfl (.inl rfl) rfl ?_
    refine SOps.skip rfl 21 40 false rfl rfl (.inl rfl) rfl ?_
    refine SOps.skip rfl 21 40 false rfl rfl (.inl rfl) rfl ?_
    refine SOps.q rfl (.plain rfl) rfl (q_pick_t rfl rfl rfl rfl) ?_
    refine SOps.sub (st' := ⟨[(1, .c (.vec ([SRole.mk (ByteArray.mk #[97, 108, 108]) ([1, 5]) ByteArray.empty false, SRole.mk (ByteArray.mk #[110, 111]) ([5]) (ByteArray.mk #[83, 49]) true]).length 4 (gL cSRole dSRole ([SRole.mk (ByteArray.mk #[97, 108, 108]) ([1, 5]) ByteArray.empty false, SRole.mk (ByteArray.mk #[110, 111]) ([5]) (ByteArray.mk #[83, 49]) true])))), (2, .c (.vec ([SGrant.mk (ByteArray.mk #[117]) (ByteArray.mk #[97, 108, 108]) 0 10, SGrant.mk (ByteArray.mk #[117]) (ByteArray.mk #[97, 108, 108]) 10 ((-1)), SGrant.mk (ByteArray.mk #[117]) (ByteArray.mk #[110, 111]) 5 ((-1))]).length 4 (gL cSGrant dSGrant ([SGrant.mk (ByteArray.mk #[117]) (ByteArray.mk #[97, 108, 108]) 0 10, SGrant.mk (ByteArray.mk #[117]) (ByteArray.mk #[97, 108, 108]) 10 ((-1)), SGrant.mk (ByteArray.mk #[117]) (ByteArray.mk #[110, 111]) 5 ((-1))])))), (44, .c (.bool true))], []⟩) (sub_gen [] rfl rfl ⟨zc rfl rfl, zc rfl rfl, zc rfl rfl, trivial⟩ trivial) ?_
    refine SOps.nil ?_
    refine SCode.cond_t rfl rfl ?_
    refine SCode.seq ?_
    refine SCode.region (show SOps _ _ _ [0] _ _ from ?_)
    refine SOps.q rfl (.plain rfl) rfl (q_assign rfl rfl) ?_
    refine SOps.sub (st' := ⟨[(0, .c (.bool false))], []⟩) (sub_gen [] rfl rfl ⟨zc rfl rfl, trivial⟩ trivial) ?_
    refine SOps.nil ?_
    refine SCode.ret ?_
    obtain rfl := Option.some.inj h
    exact ⟨⟨[(0, .c (.bool false))], []⟩, _, sub_gen [] rfl rfl ⟨zc rfl rfl, trivial⟩ trivial, resA1 (v := .c (.bool false)) rfl rfl, rfl⟩
  obtain ⟨c_10, g11, h⟩ := bind_out h
  try dsimp only at h
  rcases cond_out h with ⟨g12, h⟩ | ⟨g12, h⟩
  · refine SCode.region (show SOps _ _ _ [0, 1, 2, 3, 4, 5, 6, 7, 8, 9, 10, 11, 12, 13, 14, 15, 16, 17, 18, 19, 20, 21, 22, 23, 24, 25] _ _ from ?_)
    refine SOps.q rfl (.plain rfl) rfl (q_move rfl rfl) ?_
    refine SOps.q rfl (.plain rfl) rfl (q_move rfl rfl) ?_
    refine SOps.q rfl (.plain rfl) rfl (q_call (access_Valid_ok F ([SRole.mk (ByteArray.mk #[97, 108, 108]) ([1, 5]) ByteArray.empty false, SRole.mk (ByteArray.mk #[110, 111]) ([5]) (ByteArray.mk #[83, 49]) true]) ([SGrant.mk (ByteArray.mk #[117]) (ByteArray.mk #[97, 108, 108]) 0 10, SGrant.mk (ByteArray.mk #[117]) (ByteArray.mk #[97, 108, 108]) 10 ((-1)), SGrant.mk (ByteArray.mk #[117]) (ByteArray.mk #[110, 111]) 5 ((-1))]) c_1 g2) [] rfl fn12 ⟨⟨_, rfl, .inl ⟨rfl, rfl⟩⟩, ⟨_, rfl, .inl ⟨rfl, rfl⟩⟩, trivial⟩ (.inl rfl)) ?_
    refine SOps.q rfl (.plain rfl) rfl (q_neq rfl rfl rfl) ?_
    refine SOps.q rfl (.plain rfl) rfl (q_move rfl rfl) ?_
    refine SOps.q rfl (.guard 4 23 false rfl rfl (gF g3)) rfl (q_move rfl rfl) ?_
    refine SOps.q rfl (.guard 4 23 false rfl rfl (gF g3)) rfl (q_move rfl rfl) ?_
    refine SOps.q rfl (.guard 4 23 false rfl rfl (gF g3)) rfl (q_call (access_Allowed_ok F ([SRole.mk (ByteArray.mk #[97, 108, 108]) ([1, 5]) ByteArray.empty false, SRole.mk (ByteArray.mk #[110, 111]) ([5]) (ByteArray.mk #[83, 49]) true]) ([SGrant.mk (ByteArray.mk #[117]) (ByteArray.mk #[97, 108, 108]) 0 10, SGrant.mk (ByteArray.mk #[117]) (ByteArray.mk #[97, 108, 108]) 10 ((-1)), SGrant.mk (ByteArray.mk #[117]) (ByteArray.mk #[110, 111]) 5 ((-1))]) (ByteArray.mk #[117]) 5 (ByteArray.mk #[83, 50]) 5 c_4 g5) [] rfl fn14 ⟨⟨_, rfl, .inl ⟨rfl, rfl⟩⟩, ⟨_, rfl, .inl ⟨rfl, rfl⟩⟩, ⟨_, rfl, .inl ⟨rfl, rfl⟩⟩, ⟨_, rfl, .inl ⟨rfl, rfl⟩⟩, ⟨_, rfl, .inl ⟨rfl, rfl⟩⟩, ⟨_, rfl, .inl ⟨rfl, rfl⟩⟩, trivial⟩ (.inl rfl)) ?_
    refine SOps.q rfl (.guard 4 23 false rfl rfl (gF g3)) rfl (q_not rfl rfl) ?_
    refine SOps.q rfl (.plain rfl) rfl (q_pick_f rfl rfl g3 rfl) ?_
    refine SOps.q rfl (.plain rfl) rfl (q_move rfl rfl) ?_
    refine SOps.q rfl (.guard 10 29 false rfl rfl (gF g6)) rfl (q_move rfl rfl) ?_
    refine SOps.q rfl (.guard 10 29 false rfl rfl (gF g6)) rfl (q_move rfl rfl) ?_
    refine SOps.q rfl (.guard 10 29 false rfl rfl (gF g6)) rfl (q_call (access_Allowed_ok F ([SRole.mk (ByteArray.mk #[97, 108, 108]) ([1, 5]) ByteArray.empty false, SRole.mk (ByteArray.mk #[110, 111]) ([5]) (ByteArray.mk #[83, 49]) true]) ([SGrant.mk (ByteArray.mk #[117]) (ByteArray.mk #[97, 108, 108]) 0 10, SGrant.mk (ByteArray.mk #[117]) (ByteArray.mk #[97, 108, 108]) 10 ((-1)), SGrant.mk (ByteArray.mk #[117]) (ByteArray.mk #[110, 111]) 5 ((-1))]) (ByteArray.mk #[117]) 5 (ByteArray.mk #[83, 49, 48]) 5 c_7 g8) [] rfl fn14 ⟨⟨_, rfl, .inl ⟨rfl, rfl⟩⟩, ⟨_, rfl, .inl ⟨rfl, rfl⟩⟩, ⟨_, rfl, .inl ⟨rfl, rfl⟩⟩, ⟨_, rfl, .inl ⟨rfl, rfl⟩⟩, ⟨_, rfl, .inl ⟨rfl, rfl⟩⟩, ⟨_, rfl, .inl ⟨rfl, rfl⟩⟩, trivial⟩ (.inl rfl)) ?_
    refine SOps.q rfl (.plain rfl) rfl (q_pick_f rfl rfl g6 rfl) ?_
    refine SOps.q rfl (.plain rfl) rfl (q_move rfl rfl) ?_
    refine SOps.q rfl (.guard 15 34 false rfl rfl (gF g9)) rfl (q_move rfl rfl) ?_
    refine SOps.q rfl (.guard 15 34 false rfl rfl (gF g9)) rfl (q_move rfl rfl) ?_
    refine SOps.q rfl (.guard 15 34 false rfl rfl (gF g9)) rfl (q_call (access_Allowed_ok F ([SRole.mk (ByteArray.mk #[97, 108, 108]) ([1, 5]) ByteArray.empty false, SRole.mk (ByteArray.mk #[110, 111]) ([5]) (ByteArray.mk #[83, 49]) true]) ([SGrant.mk (ByteArray.mk #[117]) (ByteArray.mk #[97, 108, 108]) 0 10, SGrant.mk (ByteArray.mk #[117]) (ByteArray.mk #[97, 108, 108]) 10 ((-1)), SGrant.mk (ByteArray.mk #[117]) (ByteArray.mk #[110, 111]) 5 ((-1))]) (ByteArray.mk #[117]) 5 (ByteArray.mk #[83, 49, 48]) 4 c_10 g11) [] rfl fn14 ⟨⟨_, rfl, .inl ⟨rfl, rfl⟩⟩, ⟨_, rfl, .inl ⟨rfl, rfl⟩⟩, ⟨_, rfl, .inl ⟨rfl, rfl⟩⟩, ⟨_, rfl, .inl ⟨rfl, rfl⟩⟩, ⟨_, rfl, .inl ⟨rfl, rfl⟩⟩, ⟨_, rfl, .inl ⟨rfl, rfl⟩⟩, trivial⟩ (.inl rfl)) ?_
    refine SOps.q rfl (.guard 15 34 false rfl rfl (gF g9)) rfl (q_not rfl rfl) ?_
    refine SOps.q rfl (.plain rfl) rfl (q_pick_f rfl rfl g9 rfl) ?_
    refine SOps.q rfl (.plain rfl) rfl (q_move rfl rfl) ?_
    refine SOps.skip rfl 21 40 false rfl rfl (.inl (gT g12)) rfl ?_
    refine SOps.skip rfl 21 40 false rfl rfl (.inl (gT g12)) rfl ?_
    refine SOps.skip rfl 21 40 false rfl rfl (.inl (gT g12)) rfl ?_
    refine SOps.q rfl (.plain rfl) rfl (q_pick_t rfl rfl g12 rfl) ?_
    refine SOps.sub (st' := ⟨[(1, .c (.vec ([SRole.mk (ByteArray.mk #[97, 108, 108]) ([1, 5]) ByteArray.empty false, SRole.mk (ByteArray.mk #[110, 111]) ([5]) (ByteArray.mk #[83, 49]) true]).length 4 (gL cSRole dSRole ([SRole.mk (ByteArray.mk #[97, 108, 108]) ([1, 5]) ByteArray.empty false, SRole.mk (ByteArray.mk #[110, 111]) ([5]) (ByteArray.mk #[83, 49]) true])))), (2, .c (.vec ([SGrant.mk (ByteArray.mk #[117]) (ByteArray.mk #[97, 108, 108]) 0 10, SGrant.mk (ByteArray.mk #[117]) (ByteArray.mk #[97, 108, 108]) 10 ((-1)), SGrant.mk (ByteArray.mk #[117]) (ByteArray.mk #[110, 111]) 5 ((-1))]).length 4 (gL cSGrant dSGrant ([SGrant.mk (ByteArray.mk #[117]) (ByteArray.mk #[97, 108, 108]) 0 10, SGrant.mk (ByteArray.mk #[117]) (ByteArray.mk #[97, 108, 108]) 10 ((-1)), SGrant.mk (ByteArray.mk #[117]) (ByteArray.mk #[110, 111]) 5 ((-1))])))), (44, .c (.bool true))], []⟩) (sub_gen [] rfl rfl ⟨zc rfl rfl, zc rfl rfl, zc rfl rfl, trivial⟩ trivial) ?_
    refine SOps.nil ?_
    refine SCode.cond_t rfl rfl ?_
    refine SCode.seq ?_
    refine SCode.region (show SOps _ _ _ [0] _ _ from ?_)
    refine SOps.q rfl (.plain rfl) rfl (q_assign rfl rfl) ?_
    refine SOps.sub (st' := ⟨[(0, .c (.bool false))], []⟩) (sub_gen [] rfl rfl ⟨zc rfl rfl, trivial⟩ trivial) ?_
    refine SOps.nil ?_
    refine SCode.ret ?_
    obtain rfl := Option.some.inj h
    exact ⟨⟨[(0, .c (.bool false))], []⟩, _, sub_gen [] rfl rfl ⟨zc rfl rfl, trivial⟩ trivial, resA1 (v := .c (.bool false)) rfl rfl, rfl⟩
  obtain ⟨c_13, g14, h⟩ := bind_out h
  try dsimp only at h
  refine SCode.region (show SOps _ _ _ [0, 1, 2, 3, 4, 5, 6, 7, 8, 9, 10, 11, 12, 13, 14, 15, 16, 17, 18, 19, 20, 21, 22, 23, 24, 25] _ _ from ?_)
  refine SOps.q rfl (.plain rfl) rfl (q_move rfl rfl) ?_
  refine SOps.q rfl (.plain rfl) rfl (q_move rfl rfl) ?_
  refine SOps.q rfl (.plain rfl) rfl (q_call (access_Valid_ok F ([SRole.mk (ByteArray.mk #[97, 108, 108]) ([1, 5]) ByteArray.empty false, SRole.mk (ByteArray.mk #[110, 111]) ([5]) (ByteArray.mk #[83, 49]) true]) ([SGrant.mk (ByteArray.mk #[117]) (ByteArray.mk #[97, 108, 108]) 0 10, SGrant.mk (ByteArray.mk #[117]) (ByteArray.mk #[97, 108, 108]) 10 ((-1)), SGrant.mk (ByteArray.mk #[117]) (ByteArray.mk #[110, 111]) 5 ((-1))]) c_1 g2) [] rfl fn12 ⟨⟨_, rfl, .inl ⟨rfl, rfl⟩⟩, ⟨_, rfl, .inl ⟨rfl, rfl⟩⟩, trivial⟩ (.inl rfl)) ?_
  refine SOps.q rfl (.plain rfl) rfl (q_neq rfl rfl rfl) ?_
  refine SOps.q rfl (.plain rfl) rfl (q_move rfl rfl) ?_
  refine SOps.q rfl (.guard 4 23 false rfl rfl (gF g3)) rfl (q_move rfl rfl) ?_
  refine SOps.q rfl (.guard 4 23 false rfl rfl (gF g3)) rfl (q_move rfl rfl) ?_
  refine SOps.q rfl (.guard 4 23 false rfl rfl (gF g3)) rfl (q_call (access_Allowed_ok F ([SRole.mk (ByteArray.mk #[97, 108, 108]) ([1, 5]) ByteArray.empty false, SRole.mk (ByteArray.mk #[110, 111]) ([5]) (ByteArray.mk #[83, 49]) true]) ([SGrant.mk (ByteArray.mk #[117]) (ByteArray.mk #[97, 108, 108]) 0 10, SGrant.mk (ByteArray.mk #[117]) (ByteArray.mk #[97, 108, 108]) 10 ((-1)), SGrant.mk (ByteArray.mk #[117]) (ByteArray.mk #[110, 111]) 5 ((-1))]) (ByteArray.mk #[117]) 5 (ByteArray.mk #[83, 50]) 5 c_4 g5) [] rfl fn14 ⟨⟨_, rfl, .inl ⟨rfl, rfl⟩⟩, ⟨_, rfl, .inl ⟨rfl, rfl⟩⟩, ⟨_, rfl, .inl ⟨rfl, rfl⟩⟩, ⟨_, rfl, .inl ⟨rfl, rfl⟩⟩, ⟨_, rfl, .inl ⟨rfl, rfl⟩⟩, ⟨_, rfl, .inl ⟨rfl, rfl⟩⟩, trivial⟩ (.inl rfl)) ?_
  refine SOps.q rfl (.guard 4 23 false rfl rfl (gF g3)) rfl (q_not rfl rfl) ?_
  refine SOps.q rfl (.plain rfl) rfl (q_pick_f rfl rfl g3 rfl) ?_
  refine SOps.q rfl (.plain rfl) rfl (q_move rfl rfl) ?_
  refine SOps.q rfl (.guard 10 29 false rfl rfl (gF g6)) rfl (q_move rfl rfl) ?_
  refine SOps.q rfl (.guard 10 29 false rfl rfl (gF g6)) rfl (q_move rfl rfl) ?_
  refine SOps.q rfl (.guard 10 29 false rfl rfl (gF g6)) rfl (q_call (access_Allowed_ok F ([SRole.mk (ByteArray.mk #[97, 108, 108]) ([1, 5]) ByteArray.empty false, SRole.mk (ByteArray.mk #[110, 111]) ([5]) (ByteArray.mk #[83, 49]) true]) ([SGrant.mk (ByteArray.mk #[117]) (ByteArray.mk #[97, 108, 108]) 0 10, SGrant.mk (ByteArray.mk #[117]) (ByteArray.mk #[97, 108, 108]) 10 ((-1)), SGrant.mk (ByteArray.mk #[117]) (ByteArray.mk #[110, 111]) 5 ((-1))]) (ByteArray.mk #[117]) 5 (ByteArray.mk #[83, 49, 48]) 5 c_7 g8) [] rfl fn14 ⟨⟨_, rfl, .inl ⟨rfl, rfl⟩⟩, ⟨_, rfl, .inl ⟨rfl, rfl⟩⟩, ⟨_, rfl, .inl ⟨rfl, rfl⟩⟩, ⟨_, rfl, .inl ⟨rfl, rfl⟩⟩, ⟨_, rfl, .inl ⟨rfl, rfl⟩⟩, ⟨_, rfl, .inl ⟨rfl, rfl⟩⟩, trivial⟩ (.inl rfl)) ?_
  refine SOps.q rfl (.plain rfl) rfl (q_pick_f rfl rfl g6 rfl) ?_
  refine SOps.q rfl (.plain rfl) rfl (q_move rfl rfl) ?_
  refine SOps.q rfl (.guard 15 34 false rfl rfl (gF g9)) rfl (q_move rfl rfl) ?_
  refine SOps.q rfl (.guard 15 34 false rfl rfl (gF g9)) rfl (q_move rfl rfl) ?_
  refine SOps.q rfl (.guard 15 34 false rfl rfl (gF g9)) rfl (q_call (access_Allowed_ok F ([SRole.mk (ByteArray.mk #[97, 108, 108]) ([1, 5]) ByteArray.empty false, SRole.mk (ByteArray.mk #[110, 111]) ([5]) (ByteArray.mk #[83, 49]) true]) ([SGrant.mk (ByteArray.mk #[117]) (ByteArray.mk #[97, 108, 108]) 0 10, SGrant.mk (ByteArray.mk #[117]) (ByteArray.mk #[97, 108, 108]) 10 ((-1)), SGrant.mk (ByteArray.mk #[117]) (ByteArray.mk #[110, 111]) 5 ((-1))]) (ByteArray.mk #[117]) 5 (ByteArray.mk #[83, 49, 48]) 4 c_10 g11) [] rfl fn14 ⟨⟨_, rfl, .inl ⟨rfl, rfl⟩⟩, ⟨_, rfl, .inl ⟨rfl, rfl⟩⟩, ⟨_, rfl, .inl ⟨rfl, rfl⟩⟩, ⟨_, rfl, .inl ⟨rfl, rfl⟩⟩, ⟨_, rfl, .inl ⟨rfl, rfl⟩⟩, ⟨_, rfl, .inl ⟨rfl, rfl⟩⟩, trivial⟩ (.inl rfl)) ?_
  refine SOps.q rfl (.guard 15 34 false rfl rfl (gF g9)) rfl (q_not rfl rfl) ?_
  refine SOps.q rfl (.plain rfl) rfl (q_pick_f rfl rfl g9 rfl) ?_
  refine SOps.q rfl (.plain rfl) rfl (q_move rfl rfl) ?_
  refine SOps.q rfl (.guard 21 40 false rfl rfl (gF g12)) rfl (q_move rfl rfl) ?_
  refine SOps.q rfl (.guard 21 40 false rfl rfl (gF g12)) rfl (q_move rfl rfl) ?_
  refine SOps.q rfl (.guard 21 40 false rfl rfl (gF g12)) rfl (q_call (access_Allowed_ok F ([SRole.mk (ByteArray.mk #[97, 108, 108]) ([1, 5]) ByteArray.empty false, SRole.mk (ByteArray.mk #[110, 111]) ([5]) (ByteArray.mk #[83, 49]) true]) ([SGrant.mk (ByteArray.mk #[117]) (ByteArray.mk #[97, 108, 108]) 0 10, SGrant.mk (ByteArray.mk #[117]) (ByteArray.mk #[97, 108, 108]) 10 ((-1)), SGrant.mk (ByteArray.mk #[117]) (ByteArray.mk #[110, 111]) 5 ((-1))]) (ByteArray.mk #[117]) 2 (ByteArray.mk #[83, 50]) 5 c_13 g14) [] rfl fn14 ⟨⟨_, rfl, .inl ⟨rfl, rfl⟩⟩, ⟨_, rfl, .inl ⟨rfl, rfl⟩⟩, ⟨_, rfl, .inl ⟨rfl, rfl⟩⟩, ⟨_, rfl, .inl ⟨rfl, rfl⟩⟩, ⟨_, rfl, .inl ⟨rfl, rfl⟩⟩, ⟨_, rfl, .inl ⟨rfl, rfl⟩⟩, trivial⟩ (.inl rfl)) ?_
  refine SOps.q rfl (.plain rfl) rfl (q_pick_f rfl rfl g12 rfl) ?_
  refine SOps.sub (st' := ⟨[(1, .c (.vec ([SRole.mk (ByteArray.mk #[97, 108, 108]) ([1, 5]) ByteArray.empty false, SRole.mk (ByteArray.mk #[110, 111]) ([5]) (ByteArray.mk #[83, 49]) true]).length 4 (gL cSRole dSRole ([SRole.mk (ByteArray.mk #[97, 108, 108]) ([1, 5]) ByteArray.empty false, SRole.mk (ByteArray.mk #[110, 111]) ([5]) (ByteArray.mk #[83, 49]) true])))), (2, .c (.vec ([SGrant.mk (ByteArray.mk #[117]) (ByteArray.mk #[97, 108, 108]) 0 10, SGrant.mk (ByteArray.mk #[117]) (ByteArray.mk #[97, 108, 108]) 10 ((-1)), SGrant.mk (ByteArray.mk #[117]) (ByteArray.mk #[110, 111]) 5 ((-1))]).length 4 (gL cSGrant dSGrant ([SGrant.mk (ByteArray.mk #[117]) (ByteArray.mk #[97, 108, 108]) 0 10, SGrant.mk (ByteArray.mk #[117]) (ByteArray.mk #[97, 108, 108]) 10 ((-1)), SGrant.mk (ByteArray.mk #[117]) (ByteArray.mk #[110, 111]) 5 ((-1))])))), (44, .c (.bool c_13))], []⟩) (sub_gen [] rfl rfl ⟨zc rfl rfl, zc rfl rfl, zc rfl rfl, trivial⟩ trivial) ?_
  refine SOps.nil ?_
  rcases cond_out h with ⟨g15, h⟩ | ⟨g15, h⟩
  · refine SCode.cond_t rfl g15 ?_
    refine SCode.seq ?_
    refine SCode.region (show SOps _ _ _ [0] _ _ from ?_)
    refine SOps.q rfl (.plain rfl) rfl (q_assign rfl rfl) ?_
    refine SOps.sub (st' := ⟨[(0, .c (.bool false))], []⟩) (sub_gen [] rfl rfl ⟨zc rfl rfl, trivial⟩ trivial) ?_
    refine SOps.nil ?_
    refine SCode.ret ?_
    obtain rfl := Option.some.inj h
    exact ⟨⟨[(0, .c (.bool false))], []⟩, _, sub_gen [] rfl rfl ⟨zc rfl rfl, trivial⟩ trivial, resA1 (v := .c (.bool false)) rfl rfl, rfl⟩
  refine SCode.cond_f rfl g15 ?_
  refine SCode.skip ?_
  refine SCode.seq ?_
  obtain ⟨c_16, g17, h⟩ := bind_out h
  try dsimp only at h
  refine SCode.region (show SOps _ _ _ [0, 1, 2, 3, 4, 5, 6] _ _ from ?_)
  refine SOps.q rfl (.plain rfl) rfl (q_move rfl rfl) ?_
  refine SOps.q rfl (.plain rfl) rfl (q_call (access_Take_ok F ([SGrant.mk (ByteArray.mk #[117]) (ByteArray.mk #[97, 108, 108]) 0 10, SGrant.mk (ByteArray.mk #[117]) (ByteArray.mk #[97, 108, 108]) 10 ((-1)), SGrant.mk (ByteArray.mk #[117]) (ByteArray.mk #[110, 111]) 5 ((-1))]) (ByteArray.mk #[117]) (ByteArray.mk #[110, 111]) 5 c_16 g17) [] rfl fn19 ⟨⟨_, rfl, .inl ⟨rfl, rfl⟩⟩, ⟨_, rfl, .inl ⟨rfl, rfl⟩⟩, ⟨_, rfl, .inl ⟨rfl, rfl⟩⟩, ⟨_, rfl, .inl ⟨rfl, rfl⟩⟩, trivial⟩ (.inl rfl)) ?_
  refine SOps.q rfl (.plain rfl) rfl (q_move rfl rfl) ?_
  refine SOps.q rfl (.plain rfl) rfl (q_extract rfl rfl rfl) ?_
  refine SOps.q rfl (.plain rfl) rfl (q_extract rfl rfl rfl) ?_
  refine SOps.q rfl (.plain rfl) rfl (q_assign rfl rfl) ?_
  refine SOps.q rfl (.plain rfl) rfl (q_assign rfl rfl) ?_
  refine SOps.sub (st' := ⟨[(1, .c (.vec ([SRole.mk (ByteArray.mk #[97, 108, 108]) ([1, 5]) ByteArray.empty false, SRole.mk (ByteArray.mk #[110, 111]) ([5]) (ByteArray.mk #[83, 49]) true]).length 4 (gL cSRole dSRole ([SRole.mk (ByteArray.mk #[97, 108, 108]) ([1, 5]) ByteArray.empty false, SRole.mk (ByteArray.mk #[110, 111]) ([5]) (ByteArray.mk #[83, 49]) true])))), (2, .c (.vec ([SGrant.mk (ByteArray.mk #[117]) (ByteArray.mk #[97, 108, 108]) 0 10, SGrant.mk (ByteArray.mk #[117]) (ByteArray.mk #[97, 108, 108]) 10 ((-1)), SGrant.mk (ByteArray.mk #[117]) (ByteArray.mk #[110, 111]) 5 ((-1))]).length 4 (gL cSGrant dSGrant ([SGrant.mk (ByteArray.mk #[117]) (ByteArray.mk #[97, 108, 108]) 0 10, SGrant.mk (ByteArray.mk #[117]) (ByteArray.mk #[97, 108, 108]) 10 ((-1)), SGrant.mk (ByteArray.mk #[117]) (ByteArray.mk #[110, 111]) 5 ((-1))])))), (3, .c (.vec c_16.1.length 4 (gL cSGrant dSGrant c_16.1))), (4, .c (.int .i64 c_16.2))], []⟩) (sub_gen [] rfl rfl ⟨zc rfl rfl, zc rfl rfl, zc rfl rfl, zc rfl rfl, trivial⟩ trivial) ?_
  refine SOps.nil ?_
  refine SCode.seq ?_
  obtain ⟨c_18, g19, h⟩ := bind_out h
  try dsimp only at h
  refine SCode.region (show SOps _ _ _ [0, 1, 2, 3, 4, 5, 6, 7, 8, 9] _ _ from ?_)
  refine SOps.q rfl (.plain rfl) rfl (q_move rfl rfl) ?_
  refine SOps.q rfl (.plain rfl) rfl (q_move rfl rfl) ?_
  refine SOps.q rfl (.plain rfl) rfl (q_build2 rfl rfl pl35 rfl) ?_
  refine SOps.q rfl (.plain rfl) rfl (q_build2 rfl rfl pl37 rfl) ?_
  refine SOps.q rfl (.plain rfl) rfl (q_call (access_Give_ok F ([SRole.mk (ByteArray.mk #[97, 108, 108]) ([1, 5]) ByteArray.empty false, SRole.mk (ByteArray.mk #[110, 111]) ([5]) (ByteArray.mk #[83, 49]) true]) ([SGrant.mk (ByteArray.mk #[117]) (ByteArray.mk #[97, 108, 108]) 0 10, SGrant.mk (ByteArray.mk #[117]) (ByteArray.mk #[97, 108, 108]) 10 ((-1)), SGrant.mk (ByteArray.mk #[117]) (ByteArray.mk #[110, 111]) 5 ((-1))]) (SGrant.mk (ByteArray.mk #[117]) (ByteArray.mk #[120]) 0 ((-1))) c_18 g19) [] rfl fn16 ⟨⟨_, rfl, .inl ⟨rfl, rfl⟩⟩, ⟨_, rfl, .inl ⟨rfl, rfl⟩⟩, ⟨rfl, rfl⟩, trivial⟩ (.inl rfl)) ?_
  refine SOps.q rfl (.plain rfl) rfl (q_move rfl rfl) ?_
  refine SOps.q rfl (.plain rfl) rfl (q_extract rfl rfl rfl) ?_
  refine SOps.q rfl (.plain rfl) rfl (q_extract rfl rfl rfl) ?_
  refine SOps.q rfl (.plain rfl) rfl (q_assign rfl rfl) ?_
  refine SOps.q rfl (.plain rfl) rfl (q_assign rfl rfl) ?_
  refine SOps.sub (st' := ⟨[(1, .c (.vec ([SRole.mk (ByteArray.mk #[97, 108, 108]) ([1, 5]) ByteArray.empty false, SRole.mk (ByteArray.mk #[110, 111]) ([5]) (ByteArray.mk #[83, 49]) true]).length 4 (gL cSRole dSRole ([SRole.mk (ByteArray.mk #[97, 108, 108]) ([1, 5]) ByteArray.empty false, SRole.mk (ByteArray.mk #[110, 111]) ([5]) (ByteArray.mk #[83, 49]) true])))), (3, .c (.vec c_16.1.length 4 (gL cSGrant dSGrant c_16.1))), (4, .c (.int .i64 c_16.2)), (6, .c (.int .i64 c_18.2))], []⟩) (sub_gen [] rfl rfl ⟨zc rfl rfl, zc rfl rfl, zc rfl rfl, zc rfl rfl, trivial⟩ trivial) ?_
  refine SOps.nil ?_
  refine SCode.seq ?_
  rcases cond_out h with ⟨g20, h⟩ | ⟨g20, h⟩
  · rcases cond_out h with ⟨g21, h⟩ | ⟨g21, h⟩
    · obtain ⟨g22, h⟩ := guard_out h
      rcases cond_out h with ⟨g23, h⟩ | ⟨g23, h⟩
      · rcases cond_out h with ⟨g24, h⟩ | ⟨g24, h⟩
        · obtain ⟨c_25, g26, h⟩ := bind_out h
          try dsimp only at h
          refine SCode.region (show SOps _ _ _ [0, 1, 2, 3, 4, 5, 6, 7, 8, 9, 10, 11, 12, 13, 14, 15, 16, 17, 18, 19, 20, 21, 22, 23, 24, 25] _ _ from ?_)
          refine SOps.q rfl (.plain rfl) rfl (q_move rfl rfl) ?_
          refine SOps.q rfl (.plain rfl) rfl (q_eql rfl rfl rfl) ?_
          refine SOps.q rfl (.plain rfl) rfl (q_move rfl rfl) ?_
          refine SOps.q rfl (.guard 2 60 true rfl rfl (gT g20)) rfl (q_move rfl rfl) ?_
          refine SOps.q rfl (.guard 2 60 true rfl rfl (gT g20)) rfl (q_len_vec rfl rfl sl23) ?_
          refine SOps.q rfl (.guard 2 60 true rfl rfl (gT g20)) rfl (q_eql rfl rfl rfl) ?_
          refine SOps.q rfl (.plain rfl) rfl (q_pick_t rfl rfl g20 rfl) ?_
          refine SOps.q rfl (.plain rfl) rfl (q_move rfl rfl) ?_
          refine SOps.q rfl (.guard 7 65 true rfl rfl (gT g21)) rfl (q_move rfl rfl) ?_
          refine SOps.q rfl (.guard 7 65 true rfl rfl (gT g21)) rfl (q_index_vec rfl rfl rfl sl23 rfl g22.1 g22.2) ?_
          refine SOps.q rfl (.guard 7 65 true rfl rfl (gT g21)) rfl (q_field_eptr rfl rfl fd37_2 rfl) ?_
          refine SOps.q rfl (.guard 7 65 true rfl rfl (gT g21)) rfl (q_load_eptr_all rfl rfl rfl ty35) ?_
          refine SOps.q rfl (.guard 7 65 true rfl rfl (gT g21)) rfl (q_build2 rfl rfl pl35 rfl) ?_
          refine SOps.q rfl (.guard 7 65 true rfl rfl (gT g21)) rfl (q_eqAgg (neg := false) rfl (.inl rfl) rfl rfl eqt35 rfl) ?_
          refine SOps.q rfl (.plain rfl) rfl (q_pick_t rfl rfl g21 rfl) ?_
          refine SOps.q rfl (.plain rfl) rfl (q_move rfl rfl) ?_
          refine SOps.q rfl (.guard 15 73 true rfl rfl (gT g23)) rfl (q_move rfl rfl) ?_
          refine SOps.q rfl (.guard 15 73 true rfl rfl (gT g23)) rfl (q_eql rfl rfl rfl) ?_
          refine SOps.q rfl (.plain rfl) rfl (q_pick_t rfl rfl g23 rfl) ?_
          refine SOps.q rfl (.plain rfl) rfl (q_move rfl rfl) ?_
          refine SOps.q rfl (.guard 19 77 true rfl rfl (gT g24)) rfl (q_move rfl rfl) ?_
          refine SOps.q rfl (.guard 19 77 true rfl rfl (gT g24)) rfl (q_call (access_Users_ok F ([SRole.mk (ByteArray.mk #[97, 108, 108]) ([1, 5]) ByteArray.empty false, SRole.mk (ByteArray.mk #[110, 111]) ([5]) (ByteArray.mk #[83, 49]) true]) (([] : List SGrant)) 5 (ByteArray.mk #[83]) 5 c_25 g26) [] rfl fn21 ⟨⟨_, rfl, .inl ⟨rfl, rfl⟩⟩, ⟨_, rfl, .inr (.inr ⟨_, _, rfl, rfl⟩)⟩, ⟨_, rfl, .inl ⟨rfl, rfl⟩⟩, ⟨_, rfl, .inl ⟨rfl, rfl⟩⟩, ⟨_, rfl, .inl ⟨rfl, rfl⟩⟩, trivial⟩ (.inl rfl)) ?_
          refine SOps.q rfl (.guard 19 77 true rfl rfl (gT g24)) rfl (q_len_vec rfl rfl sl44) ?_
          refine SOps.q rfl (.guard 19 77 true rfl rfl (gT g24)) rfl (q_eql rfl rfl rfl) ?_
          refine SOps.q rfl (.plain rfl) rfl (q_pick_t rfl rfl g24 rfl) ?_
          refine SOps.q rfl (.plain rfl) rfl (q_assign rfl rfl) ?_
          refine SOps.sub (st' := ⟨[(0, .c (.bool (decide (((c_25).length : Int) = 0))))], []⟩) (sub_gen [] rfl rfl ⟨zc rfl rfl, trivial⟩ trivial) ?_
          refine SOps.nil ?_
          refine SCode.ret ?_
          obtain rfl := Option.some.inj h
          exact ⟨⟨[(0, .c (.bool (decide (((c_25).length : Int) = 0))))], []⟩, _, sub_gen [] rfl rfl ⟨zc rfl rfl, trivial⟩ trivial, resA1 (v := .c (.bool (decide (((c_25).length : Int) = 0)))) rfl rfl, rfl⟩
        refine SCode.region (show SOps _ _ _ [0, 1, 2, 3, 4, 5, 6, 7, 8, 9, 10, 11, 12, 13, 14, 15, 16, 17, 18, 19, 20, 21, 22, 23, 24, 25] _ _ from ?_)
        refine SOps.q rfl (.plain rfl) rfl (q_move rfl rfl) ?_
        refine SOps.q rfl (.plain rfl) rfl (q_eql rfl rfl rfl) ?_
        refine SOps.q rfl (.plain rfl) rfl (q_move rfl rfl) ?_
        refine SOps.q rfl (.guard 2 60 true rfl rfl (gT g20)) rfl (q_move rfl rfl) ?_
        refine SOps.q rfl (.guard 2 60 true rfl rfl (gT g20)) rfl (q_len_vec rfl rfl sl23) ?_
        refine SOps.q rfl (.guard 2 60 true rfl rfl (gT g20)) rfl (q_eql rfl rfl rfl) ?_
        refine SOps.q rfl (.plain rfl) rfl (q_pick_t rfl rfl g20 rfl) ?_
        refine SOps.q rfl (.plain rfl) rfl (q_move rfl rfl) ?_
        refine SOps.q rfl (.guard 7 65 true rfl rfl (gT g21)) rfl (q_move rfl rfl) ?_
        refine SOps.q rfl (.guard 7 65 true rfl rfl (gT g21)) rfl (q_index_vec rfl rfl rfl sl23 rfl g22.1 g22.2) ?_
        refine SOps.q rfl (.guard 7 65 true rfl rfl (gT g21)) rfl (q_field_eptr rfl rfl fd37_2 rfl) ?_
        refine SOps.q rfl (.guard 7 65 true rfl rfl (gT g21)) rfl (q_load_eptr_all rfl rfl rfl ty35) ?_
        refine SOps.q rfl (.guard 7 65 true rfl rfl (gT g21)) rfl (q_build2 rfl rfl pl35 rfl) ?_
        refine SOps.q rfl (.guard 7 65 true rfl rfl (gT g21)) rfl (q_eqAgg (neg := false) rfl (.inl rfl) rfl rfl eqt35 rfl) ?_
        refine SOps.q rfl (.plain rfl) rfl (q_pick_t rfl rfl g21 rfl) ?_
        refine SOps.q rfl (.plain rfl) rfl (q_move rfl rfl) ?_
        refine SOps.q rfl (.guard 15 73 true rfl rfl (gT g23)) rfl (q_move rfl rfl) ?_
        refine SOps.q rfl (.guard 15 73 true rfl rfl (gT g23)) rfl (q_eql rfl rfl rfl) ?_
        refine SOps.q rfl (.plain rfl) rfl (q_pick_t rfl rfl g23 rfl) ?_
        refine SOps.q rfl (.plain rfl) rfl (q_move rfl rfl) ?_
        refine SOps.skip rfl 19 77 true rfl rfl (.inl (gF g24)) rfl ?_
        refine SOps.skip rfl 19 77 true rfl rfl (.inl (gF g24)) rfl ?_
        refine SOps.skip rfl 19 77 true rfl rfl (.inl (gF g24)) rfl ?_
        refine SOps.skip rfl 19 77 true rfl rfl (.inl (gF g24)) rfl ?_
        refine SOps.q rfl (.plain rfl) rfl (q_pick_f rfl rfl g24 rfl) ?_
        refine SOps.q rfl (.plain rfl) rfl (q_assign rfl rfl) ?_
        refine SOps.sub (st' := ⟨[(0, .c (.bool false))], []⟩) (sub_gen [] rfl rfl ⟨zc rfl rfl, trivial⟩ trivial) ?_
        refine SOps.nil ?_
        refine SCode.ret ?_
        obtain rfl := Option.some.inj h
        exact ⟨⟨[(0, .c (.bool false))], []⟩, _, sub_gen [] rfl rfl ⟨zc rfl rfl, trivial⟩ trivial, resA1 (v := .c (.bool false)) rfl rfl, rfl⟩
      refine SCode.region (show SOps _ _ _ [0, 1, 2, 3, 4, 5, 6, 7, 8, 9, 10, 11, 12, 13, 14, 15, 16, 17, 18, 19, 20, 21, 22, 23, 24, 25] _ _ from ?_)
      refine SOps.q rfl (.plain rfl) rfl (q_move rfl rfl) ?_
      refine SOps.q rfl (.plain rfl) rfl (q_eql rfl rfl rfl) ?_
      refine SOps.q rfl (.plain rfl) rfl (q_move rfl rfl) ?_
      refine SOps.q rfl (.guard 2 60 true rfl rfl (gT g20)) rfl (q_move rfl rfl) ?_
      refine SOps.q rfl (.guard 2 60 true rfl rfl (gT g20)) rfl (q_len_vec rfl rfl sl23) ?_
      refine SOps.q rfl (.guard 2 60 true rfl rfl (gT g20)) rfl (q_eql rfl rfl rfl) ?_
      refine SOps.q rfl (.plain rfl) rfl (q_pick_t rfl rfl g20 rfl) ?_
      refine SOps.q rfl (.plain rfl) rfl (q_move rfl rfl) ?_
      refine SOps.q rfl (.guard 7 65 true rfl rfl (gT g21)) rfl (q_move rfl rfl) ?_
      refine SOps.q rfl (.guard 7 65 true rfl rfl (gT g21)) rfl (q_index_vec rfl rfl rfl sl23 rfl g22.1 g22.2) ?_
      refine SOps.q rfl (.guard 7 65 true rfl rfl (gT g21)) rfl (q_field_eptr rfl rfl fd37_2 rfl) ?_
      refine SOps.q rfl (.guard 7 65 true rfl rfl (gT g21)) rfl (q_load_eptr_all rfl rfl rfl ty35) ?_
      refine SOps.q rfl (.guard 7 65 true rfl rfl (gT g21)) rfl (q_build2 rfl rfl pl35 rfl) ?_
      refine SOps.q rfl (.guard 7 65 true rfl rfl (gT g21)) rfl (q_eqAgg (neg := false) rfl (.inl rfl) rfl rfl eqt35 rfl) ?_
      refine SOps.q rfl (.plain rfl) rfl (q_pick_t rfl rfl g21 rfl) ?_
      refine SOps.q rfl (.plain rfl) rfl (q_move rfl rfl) ?_
      refine SOps.skip rfl 15 73 true rfl rfl (.inl (gF g23)) rfl ?_
      refine SOps.skip rfl 15 73 true rfl rfl (.inl (gF g23)) rfl ?_
      refine SOps.q rfl (.plain rfl) rfl (q_pick_f rfl rfl g23 rfl) ?_
      refine SOps.q rfl (.plain rfl) rfl (q_move rfl rfl) ?_
      refine SOps.skip rfl 19 77 true rfl rfl (.inl rfl) rfl ?_
      refine SOps.skip rfl 19 77 true rfl rfl (.inl rfl) rfl ?_
      refine SOps.skip rfl 19 77 true rfl rfl (.inl rfl) rfl ?_
      refine SOps.skip rfl 19 77 true rfl rfl (.inl rfl) rfl ?_
      refine SOps.q rfl (.plain rfl) rfl (q_pick_f rfl rfl rfl rfl) ?_
      refine SOps.q rfl (.plain rfl) rfl (q_assign rfl rfl) ?_
      refine SOps.sub (st' := ⟨[(0, .c (.bool false))], []⟩) (sub_gen [] rfl rfl ⟨zc rfl rfl, trivial⟩ trivial) ?_
      refine SOps.nil ?_
      refine SCode.ret ?_
      obtain rfl := Option.some.inj h
      exact ⟨⟨[(0, .c (.bool false))], []⟩, _, sub_gen [] rfl rfl ⟨zc rfl rfl, trivial⟩ trivial, resA1 (v := .c (.bool false)) rfl rfl, rfl⟩
    refine SCode.region (show SOps _ _ _ [0, 1, 2, 3, 4, 5, 6, 7, 8, 9, 10, 11, 12, 13, 14, 15, 16, 17, 18, 19, 20, 21, 22, 23, 24, 25] _ _ from ?_)
    refine SOps.q rfl (.plain rfl) rfl (q_move rfl rfl) ?_
    refine SOps.q rfl (.plain rfl) rfl (q_eql rfl rfl rfl) ?_
    refine SOps.q rfl (.plain rfl) rfl (q_move rfl rfl) ?_
    refine SOps.q rfl (.guard 2 60 true rfl rfl (gT g20)) rfl (q_move rfl rfl) ?_
    refine SOps.q rfl (.guard 2 60 true rfl rfl (gT g20)) rfl (q_len_vec rfl rfl sl23) ?_
    refine SOps.q rfl (.guard 2 60 true rfl rfl (gT g20)) rfl (q_eql rfl rfl rfl) ?_
    refine SOps.q rfl (.plain rfl) rfl (q_pick_t rfl rfl g20 rfl) ?_
    refine SOps.q rfl (.plain rfl) rfl (q_move rfl rfl) ?_
    refine SOps.skip rfl 7 65 true rfl rfl (.inl (gF g21)) rfl ?_
    refine SOps.skip rfl 7 65 true rfl rfl (.inl (gF g21)) rfl ?_
    refine SOps.skip rfl 7 65 true rfl rfl (.inl (gF g21)) rfl ?_
    refine SOps.skip rfl 7 65 true rfl rfl (.inl (gF g21)) rfl ?_
    refine SOps.skip rfl 7 65 true rfl rfl (.inl (gF g21)) rfl ?_
    refine SOps.skip rfl 7 65 true rfl rfl (.inl (gF g21)) rfl ?_
    refine SOps.q rfl (.plain rfl) rfl (q_pick_f rfl rfl g21 rfl) ?_
    refine SOps.q rfl (.plain rfl) rfl (q_move rfl rfl) ?_
    refine SOps.skip rfl 15 73 true rfl rfl (.inl rfl) rfl ?_
    refine SOps.skip rfl 15 73 true rfl rfl (.inl rfl) rfl ?_
    refine SOps.q rfl (.plain rfl) rfl (q_pick_f rfl rfl rfl rfl) ?_
    refine SOps.q rfl (.plain rfl) rfl (q_move rfl rfl) ?_
    refine SOps.skip rfl 19 77 true rfl rfl (.inl rfl) rfl ?_
    refine SOps.skip rfl 19 77 true rfl rfl (.inl rfl) rfl ?_
    refine SOps.skip rfl 19 77 true rfl rfl (.inl rfl) rfl ?_
    refine SOps.skip rfl 19 77 true rfl rfl (.inl rfl) rfl ?_
    refine SOps.q rfl (.plain rfl) rfl (q_pick_f rfl rfl rfl rfl) ?_
    refine SOps.q rfl (.plain rfl) rfl (q_assign rfl rfl) ?_
    refine SOps.sub (st' := ⟨[(0, .c (.bool false))], []⟩) (sub_gen [] rfl rfl ⟨zc rfl rfl, trivial⟩ trivial) ?_
    refine SOps.nil ?_
    refine SCode.ret ?_
    obtain rfl := Option.some.inj h
    exact ⟨⟨[(0, .c (.bool false))], []⟩, _, sub_gen [] rfl rfl ⟨zc rfl rfl, trivial⟩ trivial, resA1 (v := .c (.bool false)) rfl rfl, rfl⟩
  refine SCode.region (show SOps _ _ _ [0, 1, 2, 3, 4, 5, 6, 7, 8, 9, 10, 11, 12, 13, 14, 15, 16, 17, 18, 19, 20, 21, 22, 23, 24, 25] _ _ from ?_)
  refine SOps.q rfl (.plain rfl) rfl (q_move rfl rfl) ?_
  refine SOps.q rfl (.plain rfl) rfl (q_eql rfl rfl rfl) ?_
  refine SOps.q rfl (.plain rfl) rfl (q_move rfl rfl) ?_
  refine SOps.skip rfl 2 60 true rfl rfl (.inl (gF g20)) rfl ?_
  refine SOps.skip rfl 2 60 true rfl rfl (.inl (gF g20)) rfl ?_
  refine SOps.skip rfl 2 60 true rfl rfl (.inl (gF g20)) rfl ?_
  refine SOps.q rfl (.plain rfl) rfl (q_pick_f rfl rfl g20 rfl) ?_
  refine SOps.q rfl (.plain rfl) rfl (q_move rfl rfl) ?_
  refine SOps.skip rfl 7 65 true rfl rfl (.inl rfl) rfl ?_
  refine SOps.skip rfl 7 65 true rfl rfl (.inl rfl) rfl ?_
  refine SOps.skip rfl 7 65 true rfl rfl (.inl rfl) rfl ?_
  refine SOps.skip rfl 7 65 true rfl rfl (.inl rfl) rfl ?_
  refine SOps.skip rfl 7 65 true rfl rfl (.inl rfl) rfl ?_
  refine SOps.skip rfl 7 65 true rfl rfl (.inl rfl) rfl ?_
  refine SOps.q rfl (.plain rfl) rfl (q_pick_f rfl rfl rfl rfl) ?_
  refine SOps.q rfl (.plain rfl) rfl (q_move rfl rfl) ?_
  refine SOps.skip rfl 15 73 true rfl rfl (.inl rfl) rfl ?_
  refine SOps.skip rfl 15 73 true rfl rfl (.inl rfl) rfl ?_
  refine SOps.q rfl (.plain rfl) rfl (q_pick_f rfl rfl rfl rfl) ?_
  refine SOps.q rfl (.plain rfl) rfl (q_move rfl rfl) ?_
  refine SOps.skip rfl 19 77 true rfl rfl (.inl rfl) rfl ?_
  refine SOps.skip rfl 19 77 true rfl rfl (.inl rfl) rfl ?_
  refine SOps.skip rfl 19 77 true rfl rfl (.inl rfl) rfl ?_
  refine SOps.skip rfl 19 77 true rfl rfl (.inl rfl) rfl ?_
  refine SOps.q rfl (.plain rfl) rfl (q_pick_f rfl rfl rfl rfl) ?_
  refine SOps.q rfl (.plain rfl) rfl (q_assign rfl rfl) ?_
  refine SOps.sub (st' := ⟨[(0, .c (.bool false))], []⟩) (sub_gen [] rfl rfl ⟨zc rfl rfl, trivial⟩ trivial) ?_
  refine SOps.nil ?_
  refine SCode.ret ?_
  obtain rfl := Option.some.inj h
  exact ⟨⟨[(0, .c (.bool false))], []⟩, _, sub_gen [] rfl rfl ⟨zc rfl rfl, trivial⟩ trivial, resA1 (v := .c (.bool false)) rfl rfl, rfl⟩
set_option maxRecDepth 100000 in
set_option maxHeartbeats 8000000 in
theorem chargenetref39_Same_ok (F : Nat) (a0_a : List SGrant) (a1_b : List SGrant) (r : Bool) (h : chargenetref39_Same F a0_a a1_b = some r) :
    SFun Try.prog 18 [] [.c (.vec a0_a.length 4 (gL cSGrant dSGrant a0_a)), .c (.vec a1_b.length 4 (gL cSGrant dSGrant a1_b))] (fun x _ => x = .c (.bool r)) := by
  refine SFun.of (n := 26) Try.func18 rfl rfl rfl ?_
  unfold chargenetref39_Same at h
  show SCode _ _ _ ⟨[(0, .c (.vec a0_a.length 4 (gL cSGrant dSGrant a0_a))), (1, .c (.vec a1_b.length 4 (gL cSGrant dSGrant a1_b)))], []⟩ _
  refine SCode.seq ?_
  refine SCode.region (show SOps _ _ _ [0] _ _ from ?_)
  refine SOps.q rfl (.plain rfl) rfl (q_assign rfl rfl) ?_
  refine SOps.sub (st' := ⟨[(0, .c (.vec a0_a.length 4 (gL cSGrant dSGrant a0_a))), (1, .c (.vec a1_b.length 4 (gL cSGrant dSGrant a1_b)))], []⟩) (sub_gen [] rfl rfl ⟨zc rfl rfl, zc rfl rfl, trivial⟩ trivial) ?_
  refine SOps.nil ?_
  refine SCode.seq ?_
  refine SCode.seq ?_
  refine SCode.region (show SOps _ _ _ [0, 1, 2, 3, 4] _ _ from ?_)
  refine SOps.q rfl (.plain rfl) rfl (q_move rfl rfl) ?_
  refine SOps.q rfl (.plain rfl) rfl (q_len_vec rfl rfl sl23) ?_
  refine SOps.q rfl (.plain rfl) rfl (q_move rfl rfl) ?_
  refine SOps.q rfl (.plain rfl) rfl (q_len_vec rfl rfl sl23) ?_
  refine SOps.q rfl (.plain rfl) rfl (q_neq rfl rfl rfl) ?_
  refine SOps.sub (st' := ⟨[(0, .c (.vec a0_a.length 4 (gL cSGrant dSGrant a0_a))), (1, .c (.vec a1_b.length 4 (gL cSGrant dSGrant a1_b))), (10, .c (.bool ((!decide (((a0_a).length : Int) = ((a1_b).length : Int))))))], []⟩) (sub_gen [] rfl rfl ⟨zc rfl rfl, zc rfl rfl, zc rfl rfl, trivial⟩ trivial) ?_
  refine SOps.nil ?_
  rcases cond_out h with ⟨g1, h⟩ | ⟨g1, h⟩
  · refine SCode.cond_t rfl g1 ?_
    refine SCode.seq ?_
    refine SCode.region (show SOps _ _ _ [0] _ _ from ?_)
    refine SOps.q rfl (.plain rfl) rfl (q_assign rfl rfl) ?_
    refine SOps.sub (st' := ⟨[(4, .c (.bool false))], []⟩) (sub_gen [] rfl rfl ⟨zc rfl rfl, trivial⟩ trivial) ?_
    refine SOps.nil ?_
    refine SCode.ret ?_
    obtain rfl := Option.some.inj h
    exact ⟨⟨[(4, .c (.bool false))], []⟩, _, sub_gen [] rfl rfl ⟨zc rfl rfl, trivial⟩ trivial, resA1 (v := .c (.bool false)) rfl rfl, rfl⟩
  refine SCode.cond_f rfl g1 ?_
  refine SCode.skip ?_
  refine SCode.join (σ := Unit) (S := fun s => ⟨[], []⟩) (g := fun s => chargenetref39_Same_p2 = some r) ?_ ?_
  rotate_left
  · refine SCode.seq ?_
    refine SCode.region (show SOps _ _ _ [0] _ _ from ?_)
    refine SOps.q rfl (.plain rfl) rfl (q_assign rfl rfl) ?_
    refine SOps.sub (st' := ⟨[(0, .c (.vec a0_a.length 4 (gL cSGrant dSGrant a0_a))), (1, .c (.vec a1_b.length 4 (gL cSGrant dSGrant a1_b))), (5, .c (.int .i64 0))], []⟩) (sub_gen [] rfl rfl ⟨zc rfl rfl, zc rfl rfl, zc rfl rfl, trivial⟩ trivial) ?_
    refine SOps.nil ?_
    refine SCode.block ?_
    refine SCode.sub (st' := ⟨[(0, .c (.vec a0_a.length 4 (gL cSGrant dSGrant a0_a))), (1, .c (.vec a1_b.length 4 (gL cSGrant dSGrant a1_b))), (5, .c (.int .i64 0))], []⟩) (sub_gen [] rfl rfl ⟨zc rfl rfl, zc rfl rfl, zc rfl rfl, trivial⟩ trivial) ?_
    refine (SCode.loop (σ := Nat × Int) (S := fun s => ⟨[(0, .c (.vec a0_a.length 4 (gL cSGrant dSGrant a0_a))), (1, .c (.vec a1_b.length 4 (gL cSGrant dSGrant a1_b))), (5, .c (.int .i64 s.2))], []⟩) (g := fun s => chargenetref39_Same_l12 a0_a a1_b s.1 s.2 = some r) (μ := fun s => s.1) (F, 0) h ?_)
    rintro ⟨n_12, i_7⟩ h
    replace h : chargenetref39_Same_l12 a0_a a1_b n_12 i_7 = some r := h
    show SCode _ _ _ ⟨[(0, .c (.vec a0_a.length 4 (gL cSGrant dSGrant a0_a))), (1, .c (.vec a1_b.length 4 (gL cSGrant dSGrant a1_b))), (5, .c (.int .i64 i_7))], []⟩ _
    cases n_12 with
    | zero => cases h
    | succ n_12 =>
      replace h : chargenetref39_Same_b12 a0_a a1_b (fun i_7 => chargenetref39_Same_l12 a0_a a1_b n_12 i_7) i_7 = some r := h
      unfold chargenetref39_Same_b12 at h
      refine SCode.seq ?_
      refine SCode.seq ?_
      refine SCode.region (show SOps _ _ _ [0, 1, 2, 3] _ _ from ?_)
      refine SOps.q rfl (.plain rfl) rfl (q_move rfl rfl) ?_
      refine SOps.q rfl (.plain rfl) rfl (q_move rfl rfl) ?_
      refine SOps.q rfl (.plain rfl) rfl (q_len_vec rfl rfl sl23) ?_
      refine SOps.q rfl (.plain rfl) rfl (q_lss rfl rfl rfl) ?_
      refine SOps.sub (st' := ⟨[(0, .c (.vec a0_a.length 4 (gL cSGrant dSGrant a0_a))), (1, .c (.vec a1_b.length 4 (gL cSGrant dSGrant a1_b))), (5, .c (.int .i64 i_7)), (14, .c (.bool (decide (i_7 < ((a0_a).length : Int)))))], []⟩) (sub_gen [] rfl rfl ⟨zc rfl rfl, zc rfl rfl, zc rfl rfl, zc rfl rfl, trivial⟩ trivial) ?_
      refine SOps.nil ?_
      rcases cond_out h with ⟨g13, h⟩ | ⟨g13, h⟩
      · refine SCode.cond_t rfl g13 ?_
        refine SCode.skip ?_
        refine SCode.seq ?_
        refine SCode.block ?_
        refine SCode.seq ?_
        obtain ⟨g14, h⟩ := guard_out h
        obtain ⟨g15, h⟩ := guard_out h
        refine SCode.draw (s' := [(25, .c (.bool ((xor true (sEq ((a0_a.getD i_7.toNat dSGrant).User) ((a1_b.getD i_7.toNat dSGrant).User) && (sEq ((a0_a.getD i_7.toNat dSGrant).Role) ((a1_b.getD i_7.toNat dSGrant).Role) && (decide ((a0_a.getD i_7.toNat dSGrant).Span_From = (a1_b.getD i_7.toNat dSGrant).Span_From) && (decide ((a0_a.getD i_7.toNat dSGrant).Span_To = (a1_b.getD i_7.toNat dSGrant).Span_To) && true)))))))), (24, .a [.str ((a1_b.getD i_7.toNat dSGrant).User), .str ((a1_b.getD i_7.toNat dSGrant).Role), .int .i64 ((a1_b.getD i_7.toNat dSGrant).Span_From), .int .i64 ((a1_b.getD i_7.toNat dSGrant).Span_To)]), (23, .c (.eptr 4 (cSGrant (a1_b.getD i_7.toNat dSGrant)) 0)), (22, .c (.int .i64 i_7)), (21, .c (.vec a1_b.length 4 (gL cSGrant dSGrant a1_b))), (20, .a [.str ((a0_a.getD i_7.toNat dSGrant).User), .str ((a0_a.getD i_7.toNat dSGrant).Role), .int .i64 ((a0_a.getD i_7.toNat dSGrant).Span_From), .int .i64 ((a0_a.getD i_7.toNat dSGrant).Span_To)]), (19, .c (.eptr 4 (cSGrant (a0_a.getD i_7.toNat dSGrant)) 0)), (18, .c (.int .i64 i_7)), (17, .c (.vec a0_a.length 4 (gL cSGrant dSGrant a0_a))), (0, .c (.vec a0_a.length 4 (gL cSGrant dSGrant a0_a))), (1, .c (.vec a1_b.length 4 (gL cSGrant dSGrant a1_b))), (5, .c (.int .i64 i_7)), (14, .c (.bool (decide (i_7 < ((a0_a).length : Int)))))]) mixed [[], [], [0, 1], [0, 1, 2], [], [], [4, 5], [4, 5, 6], [0, 1, 2, 3, 4, 5, 6, 7]] 9 0 rfl rfl ?_ ?_
        · refine QChain.run rfl (.plain rfl) rfl (q_move rfl rfl) ?_
          refine QChain.run rfl (.plain rfl) rfl (q_move rfl rfl) ?_
          refine QChain.run rfl (.plain rfl) rfl (q_index_vec rfl rfl rfl sl23 rfl g14.1 g14.2) ?_
          refine QChain.run rfl (.plain rfl) rfl (q_load_eptr_all rfl rfl rfl ty37) ?_
          refine QChain.run rfl (.plain rfl) rfl (q_move rfl rfl) ?_
          refine QChain.run rfl (.plain rfl) rfl (q_move rfl rfl) ?_
          refine QChain.run rfl (.plain rfl) rfl (q_index_vec rfl rfl rfl sl23 rfl g15.1 g15.2) ?_
          refine QChain.run rfl (.plain rfl) rfl (q_load_eptr_all rfl rfl rfl ty37) ?_
          refine QChain.run rfl (.plain rfl) rfl (q_eqAgg (neg := true) rfl (.inr rfl) rfl rfl eqt37 rfl) ?_
          exact QChain.nil _ _
        refine (show SOps _ _ _ [] _ _ from ?_)
        refine SOps.sub (st' := ⟨[(0, .c (.vec a0_a.length 4 (gL cSGrant dSGrant a0_a))), (1, .c (.vec a1_b.length 4 (gL cSGrant dSGrant a1_b))), (5, .c (.int .i64 i_7)), (25, .c (.bool ((xor true (sEq ((a0_a.getD i_7.toNat dSGrant).User) ((a1_b.getD i_7.toNat dSGrant).User) && (sEq ((a0_a.getD i_7.toNat dSGrant).Role) ((a1_b.getD i_7.toNat dSGrant).Role) && (decide ((a0_a.getD i_7.toNat dSGrant).Span_From = (a1_b.getD i_7.toNat dSGrant).Span_From) && (decide ((a0_a.getD i_7.toNat dSGrant).Span_To = (a1_b.getD i_7.toNat dSGrant).Span_To) && true))))))))], []⟩) (sub_gen [] rfl rfl ⟨zc rfl rfl, zc rfl rfl, zc rfl rfl, zc rfl rfl, trivial⟩ trivial) ?_
        refine SOps.nil ?_
        rcases cond_out h with ⟨g16, h⟩ | ⟨g16, h⟩
        · refine SCode.cond_t rfl g16 ?_
          refine SCode.seq ?_
          refine SCode.region (show SOps _ _ _ [0] _ _ from ?_)
          refine SOps.q rfl (.plain rfl) rfl (q_assign rfl rfl) ?_
          refine SOps.sub (st' := ⟨[(4, .c (.bool false))], []⟩) (sub_gen [] rfl rfl ⟨zc rfl rfl, trivial⟩ trivial) ?_
          refine SOps.nil ?_
          refine SCode.ret ?_
          obtain rfl := Option.some.inj h
          exact ⟨⟨[(4, .c (.bool false))], []⟩, _, sub_gen [] rfl rfl ⟨zc rfl rfl, trivial⟩ trivial, resA1 (v := .c (.bool false)) rfl rfl, rfl⟩
        refine SCode.cond_f rfl g16 ?_
        refine SCode.skip ?_
        refine SCode.region (show SOps _ _ _ [0, 1, 2] _ _ from ?_)
        refine SOps.q rfl (.plain rfl) rfl (q_move rfl rfl) ?_
        refine SOps.q rfl (.plain rfl) rfl (q_add rfl rfl rfl) ?_
        refine SOps.q rfl (.plain rfl) rfl (q_assign rfl rfl) ?_
        refine SOps.sub (st' := ⟨[(0, .c (.vec a0_a.length 4 (gL cSGrant dSGrant a0_a))), (1, .c (.vec a1_b.length 4 (gL cSGrant dSGrant a1_b))), (5, .c (.int .i64 (IntKind.wrap .i64 (i_7 + 1))))], []⟩) (sub_gen [] rfl rfl ⟨zc rfl rfl, zc rfl rfl, zc rfl rfl, trivial⟩ trivial) ?_
        refine SOps.nil ?_
        exact ⟨(n_12, IntKind.wrap .i64 (i_7 + 1)), h, Nat.lt_succ_self n_12, sub_gen [] rfl rfl ⟨zc rfl rfl, zc rfl rfl, zc rfl rfl, trivial⟩ trivial⟩
      refine SCode.cond_f rfl g13 ?_
      refine SCode.exit ?_
      exact ⟨(), h, sub_gen [] rfl rfl trivial trivial⟩
  rintro ⟨⟩ h
  show SCode _ _ _ ⟨[], []⟩ _
  replace h : chargenetref39_Same_p2 = some r := h
  unfold chargenetref39_Same_p2 at h
  refine SCode.seq ?_
  refine SCode.region (show SOps _ _ _ [0] _ _ from ?_)
  refine SOps.q rfl (.plain rfl) rfl (q_assign rfl rfl) ?_
  refine SOps.sub (st' := ⟨[(4, .c (.bool true))], []⟩) (sub_gen [] rfl rfl ⟨zc rfl rfl, trivial⟩ trivial) ?_
  refine SOps.nil ?_
  refine SCode.ret ?_
  obtain rfl := Option.some.inj h
  exact ⟨⟨[(4, .c (.bool true))], []⟩, _, sub_gen [] rfl rfl ⟨zc rfl rfl, trivial⟩ trivial, resA1 (v := .c (.bool true)) rfl rfl, rfl⟩
end Go.Proofs.Ytggfgdohbeoabaa.W
