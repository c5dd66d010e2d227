/- Written by a program of ours (wip/eng/gen.py): the functions compute their models. -/
import Derived.Test.YtggfgdohbeoabaaFacts
import Derived.Test.YtggfgdohbeoabaaV8x3
namespace Go.Proofs.Ytggfgdohbeoabaa.W
open Go Go.Proofs Go.Proofs.Ytggfgdohbeoabaa.E Go.Proofs.Ytggfgdohbeoabaa.M
set_option linter.unusedVariables false
set_option maxRecDepth 100000 in
set_option maxHeartbeats 8000000 in
theorem chargenetlaw39_exampleHolds_ok (F : Nat)  (r : Bool) (h : chargenetlaw39_exampleHolds F  = some r) :
    SFun Try.prog 11 [] [] (fun x _ => x = .c (.bool r)) := by
  refine SFun.of (n := 83) Try.func11 rfl rfl rfl ?_
  unfold chargenetlaw39_exampleHolds at h
  show SCode _ _ _ ⟨[], []⟩ _
  refine SCode.seq ?_
  refine SCode.region (show SOps _ _ _ [0] _ _ from ?_)
  refine SOps.q rfl (.plain rfl) rfl (q_assign rfl rfl) ?_
  refine SOps.sub (st' := ⟨[], []⟩) (sub_gen [] rfl rfl trivial trivial) ?_
  refine SOps.nil ?_
  refine SCode.seq ?_
  refine SCode.region (show SOps _ _ _ [0, 1, 2, 3, 4, 5] _ _ from ?_)
  refine SOps.q rfl (.plain rfl) rfl (q_bsliceL (c := (cInt .i64)) (d0 := 0) [1, 5] rfl rfl sl48 z3 rfl rfl rfl rfl rfl rfl rfl) ?_
  refine SOps.q rfl (.plain rfl) rfl (q_build2 rfl rfl pl51 rfl) ?_
  refine SOps.q rfl (.plain rfl) rfl (q_bsliceL (c := (cInt .i64)) (d0 := 0) [5] rfl rfl sl48 z3 rfl rfl rfl rfl rfl rfl rfl) ?_
  refine SOps.q rfl (.plain rfl) rfl (q_build2 rfl rfl pl51 rfl) ?_
  refine SOps.q rfl (.plain rfl) rfl (q_bsliceL (c := cSRole) (d0 := dSRole) [SRole.mk (ByteArray.mk #[97, 108, 108]) ([1, 5]) ByteArray.empty false, SRole.mk (ByteArray.mk #[110, 111]) ([5]) (ByteArray.mk #[83, 49]) true] rfl rfl sl22 z51 rfl rfl rfl rfl rfl rfl rfl) ?_
  refine SOps.q rfl (.plain rfl) rfl (q_assign rfl rfl) ?_
  refine SOps.sub (st' := ⟨[(1, .c (.vec ([SRole.mk (ByteArray.mk #[97, 108, 108]) ([1, 5]) ByteArray.empty false, SRole.mk (ByteArray.mk #[110, 111]) ([5]) (ByteArray.mk #[83, 49]) true]).length 4 (gL cSRole dSRole ([SRole.mk (ByteArray.mk #[97, 108, 108]) ([1, 5]) ByteArray.empty false, SRole.mk (ByteArray.mk #[110, 111]) ([5]) (ByteArray.mk #[83, 49]) true]))))], []⟩) (sub_gen [] rfl rfl ⟨zc rfl rfl, trivial⟩ trivial) ?_
  refine SOps.nil ?_
  refine SCode.seq ?_
  refine SCode.region (show SOps _ _ _ [0, 1, 2, 3, 4, 5, 6, 7] _ _ from ?_)
  refine SOps.q rfl (.plain rfl) rfl (q_build2 rfl rfl pl35 rfl) ?_
  refine SOps.q rfl (.plain rfl) rfl (q_build2 rfl rfl pl37 rfl) ?_
  refine SOps.q rfl (.plain rfl) rfl (q_build2 rfl rfl pl35 rfl) ?_
  refine SOps.q rfl (.plain rfl) rfl (q_build2 rfl rfl pl37 rfl) ?_
  refine SOps.q rfl (.plain rfl) rfl (q_build2 rfl rfl pl35 rfl) ?_
  refine SOps.q rfl (.plain rfl) rfl (q_build2 rfl rfl pl37 rfl) ?_
  refine SOps.q rfl (.plain rfl) rfl (q_bsliceL (c := cSGrant) (d0 := dSGrant) [SGrant.mk (ByteArray.mk #[117]) (ByteArray.mk #[97, 108, 108]) 0 10, SGrant.mk (ByteArray.mk #[117]) (ByteArray.mk #[97, 108, 108]) 10 ((-1)), SGrant.mk (ByteArray.mk #[117]) (ByteArray.mk #[110, 111]) 5 ((-1))] rfl rfl sl23 z37 rfl rfl rfl rfl rfl rfl rfl) ?_
  refine SOps.q rfl (.plain rfl) rfl (q_assign rfl rfl) ?_
  refine SOps.sub (st' := ⟨[(1, .c (.vec ([SRole.mk (ByteArray.mk #[97, 108, 108]) ([1, 5]) ByteArray.empty false, SRole.mk (ByteArray.mk #[110, 111]) ([5]) (ByteArray.mk #[83, 49]) true]).length 4 (gL cSRole dSRole ([SRole.mk (ByteArray.mk #[97, 108, 108]) ([1, 5]) ByteArray.empty false, SRole.mk (ByteArray.mk #[110, 111]) ([5]) (ByteArray.mk #[83, 49]) true])))), (2, .c (.vec ([SGrant.mk (ByteArray.mk #[117]) (ByteArray.mk #[97, 108, 108]) 0 10, SGrant.mk (ByteArray.mk #[117]) (ByteArray.mk #[97, 108, 108]) 10 ((-1)), SGrant.mk (ByteArray.mk #[117]) (ByteArray.mk #[110, 111]) 5 ((-1))]).length 4 (gL cSGrant dSGrant ([SGrant.mk (ByteArray.mk #[117]) (ByteArray.mk #[97, 108, 108]) 0 10, SGrant.mk (ByteArray.mk #[117]) (ByteArray.mk #[97, 108, 108]) 10 ((-1)), SGrant.mk (ByteArray.mk #[117]) (ByteArray.mk #[110, 111]) 5 ((-1))]))))], []⟩) (sub_gen [] rfl rfl ⟨zc rfl rfl, zc rfl rfl, trivial⟩ trivial) ?_
  refine SOps.nil ?_
  refine SCode.seq ?_
  refine SCode.seq ?_
  obtain ⟨c_1, g2, h⟩ := bind_out h
  try dsimp only at h
  rcases cond_out h with ⟨g3, h⟩ | ⟨g3, h⟩
  · refine SCode.region (show SOps _ _ _ [0, 1, 2, 3, 4, 5, 6, 7, 8, 9, 10, 11, 12, 13, 14, 15, 16, 17, 18, 19, 20, 21, 22, 23, 24, 25] _ _ from ?_)
    refine SOps.q rfl (.plain rfl) rfl (q_move rfl rfl) ?_
    refine SOps.q rfl (.plain rfl) rfl (q_move rfl rfl) ?_
    refine SOps.q rfl (.plain rfl) rfl (q_call (access_Valid_ok F ([SRole.mk (ByteArray.mk #[97, 108, 108]) ([1, 5]) ByteArray.empty false, SRole.mk (ByteArray.mk #[110, 111]) ([5]) (ByteArray.mk #[83, 49]) true]) ([SGrant.mk (ByteArray.mk #[117]) (ByteArray.mk #[97, 108, 108]) 0 10, SGrant.mk (ByteArray.mk #[117]) (ByteArray.mk #[97, 108, 108]) 10 ((-1)), SGrant.mk (ByteArray.mk #[117]) (ByteArray.mk #[110, 111]) 5 ((-1))]) c_1 g2) [] rfl fn12 ⟨⟨_, rfl, .inl ⟨rfl, rfl⟩⟩, ⟨_, rfl, .inl ⟨rfl, rfl⟩⟩, trivial⟩ (.inl rfl)) ?_
    refine SOps.q rfl (.plain rfl) rfl (q_neq rfl rfl rfl) ?_
    refine SOps.q rfl (.plain rfl) rfl (q_move rfl rfl) ?_
    refine SOps.skip rfl 4 23 false rfl rfl (.inl (gT g3)) rfl ?_
    refine SOps.skip rfl 4 23 false rfl rfl (.inl (gT g3)) rfl ?_
    refine SOps.skip rfl 4 23 false rfl rfl (.inl (gT g3)) rfl ?_
    refine SOps.skip rfl 4 23 false rfl rfl (.inl (gT g3)) rfl ?_
    refine SOps.q rfl (.plain rfl) rfl (q_pick_t rfl rfl g3 rfl) ?_
    refine SOps.q rfl (.plain rfl) rfl (q_move rfl rfl) ?_
    refine SOps.skip rfl 10 29 false rfl rfl (.inl rfl) rfl ?_
    refine SOps.skip rfl 10 29 false rfl rfl (.inl rfl) rfl ?_
    refine SOps.skip rfl 10 29 false rfl rfl (.inl rfl) rfl ?_
    refine SOps.q rfl (.plain rfl) rfl (q_pick_t rfl rfl rfl rfl) ?_
    refine SOps.q rfl (.plain rfl) rfl (q_move rfl rfl) ?_
    refine SOps.skip rfl 15 34 false rfl rfl (.inl rfl) rfl ?_
    refine SOps.skip rfl 15 34 false rfl rfl (.inl rfl) rfl ?_
    refine SOps.skip rfl 15 34 false rfl rfl (.inl rfl) rfl ?_
    refine SOps.skip rfl 15 34 false rfl rfl (.inl rfl) rfl ?_
    refine SOps.q rfl (.plain rfl) rfl (q_pick_t rfl rfl rfl rfl) ?_
    refine SOps.q rfl (.plain rfl) rfl (q_move rfl rfl) ?_
    refine SOps.skip rfl 21 40 false rfl rfl (.inl rfl) rfl ?_
    refine SOps.skip rfl 21 40 false rfl rfl (.inl rfl) rfl ?_
    refine SOps.skip rfl 21 40 false rfl rfl (.inl rfl) rfl ?_
    refine SOps.q rfl (.plain rfl) rfl (q_pick_t rfl rfl rfl rfl) ?_
    refine SOps.sub (st' := ⟨[(1, .c (.vec ([SRole.mk (ByteArray.mk #[97, 108, 108]) ([1, 5]) ByteArray.empty false, SRole.mk (ByteArray.mk #[110, 111]) ([5]) (ByteArray.mk #[83, 49]) true]).length 4 (gL cSRole dSRole ([SRole.mk (ByteArray.mk #[97, 108, 108]) ([1, 5]) ByteArray.empty false, SRole.mk (ByteArray.mk #[110, 111]) ([5]) (ByteArray.mk #[83, 49]) true])))), (2, .c (.vec ([SGrant.mk (ByteArray.mk #[117]) (ByteArray.mk #[97, 108, 108]) 0 10, SGrant.mk (ByteArray.mk #[117]) (ByteArray.mk #[97, 108, 108]) 10 ((-1)), SGrant.mk (ByteArray.mk #[117]) (ByteArray.mk #[110, 111]) 5 ((-1))]).length 4 (gL cSGrant dSGrant ([SGrant.mk (ByteArray.mk #[117]) (ByteArray.mk #[97, 108, 108]) 0 10, SGrant.mk (ByteArray.mk #[117]) (ByteArray.mk #[97, 108, 108]) 10 ((-1)), SGrant.mk (ByteArray.mk #[117]) (ByteArray.mk #[110, 111]) 5 ((-1))])))), (44, .c (.bool true))], []⟩) (sub_gen [] rfl rfl ⟨zc rfl rfl, zc rfl rfl, zc rfl rfl, trivial⟩ trivial) ?_
    refine SOps.nil ?_
    refine SCode.cond_t rfl rfl ?_
    refine SCode.seq ?_
    refine SCode.region (show SOps _ _ _ [0] _ _ from ?_)
    refine SOps.q rfl (.plain rfl) rfl (q_assign rfl rfl) ?_
    refine SOps.sub (st' := ⟨[(0, .c (.bool false))], []⟩) (sub_gen [] rfl rfl ⟨zc rfl rfl, trivial⟩ trivial) ?_
    refine SOps.nil ?_
    refine SCode.ret ?_
    obtain rfl := Option.some.inj h
    exact ⟨⟨[(0, .c (.bool false))], []⟩, _, sub_gen [] rfl rfl ⟨zc rfl rfl, trivial⟩ trivial, resA1 (v := .c (.bool false)) rfl rfl, rfl⟩
  obtain ⟨c_4, g5, h⟩ := bind_out h
  try dsimp only at h
  rcases cond_out h with ⟨g6, h⟩ | ⟨g6, h⟩
  · refine SCode.region (show SOps _ _ _ [0, 1, 2, 3, 4, 5, 6, 7, 8, 9, 10, 11, 12, 13, 14, 15, 16, 17, 18, 19, 20, 21, 22, 23, 24, 25] _ _ from ?_)
    refine SOps.q rfl (.plain rfl) rfl (q_move rfl rfl) ?_
    refine SOps.q rfl (.plain rfl) rfl (q_move rfl rfl) ?_
    refine SOps.q rfl (.plain rfl) rfl (q_call (access_Valid_ok F ([SRole.mk (ByteArray.mk #[97, 108, 108]) ([1, 5]) ByteArray.empty false, SRole.mk (ByteArray.mk #[110, 111]) ([5]) (ByteArray.mk #[83, 49]) true]) ([SGrant.mk (ByteArray.mk #[117]) (ByteArray.mk #[97, 108, 108]) 0 10, SGrant.mk (ByteArray.mk #[117]) (ByteArray.mk #[97, 108, 108]) 10 ((-1)), SGrant.mk (ByteArray.mk #[117]) (ByteArray.mk #[110, 111]) 5 ((-1))]) c_1 g2) [] rfl fn12 ⟨⟨_, rfl, .inl ⟨rfl, rfl⟩⟩, ⟨_, rfl, .inl ⟨rfl, rfl⟩⟩, trivial⟩ (.inl rfl)) ?_
    refine SOps.q rfl (.plain rfl) rfl (q_neq rfl rfl rfl) ?_
    refine SOps.q rfl (.plain rfl) rfl (q_move rfl rfl) ?_
    refine SOps.q rfl (.guard 4 23 false rfl rfl (gF g3)) rfl (q_move rfl rfl) ?_
    refine SOps.q rfl (.guard 4 23 false rfl rfl (gF g3)) rfl (q_move rfl rfl) ?_
    refine SOps.q rfl (.guard 4 23 false rfl rfl (gF g3)) rfl (q_call (access_Allowed_ok F ([SRole.mk (ByteArray.mk #[97, 108, 108]) ([1, 5]) ByteArray.empty false, SRole.mk (ByteArray.mk #[110, 111]) ([5]) (ByteArray.mk #[83, 49]) true]) ([SGrant.mk (ByteArray.mk #[117]) (ByteArray.mk #[97, 108, 108]) 0 10, SGrant.mk (ByteArray.mk #[117]) (ByteArray.mk #[97, 108, 108]) 10 ((-1)), SGrant.mk (ByteArray.mk #[117]) (ByteArray.mk #[110, 111]) 5 ((-1))]) (ByteArray.mk #[117]) 5 (ByteArray.mk #[83, 50]) 5 c_4 g5) [] rfl fn14 ⟨⟨_, rfl, .inl ⟨rfl, rfl⟩⟩, ⟨_, rfl, .inl ⟨rfl, rfl⟩⟩, ⟨_, rfl, .inl ⟨rfl, rfl⟩⟩, ⟨_, rfl, .inl ⟨rfl, rfl⟩⟩, ⟨_, rfl, .inl ⟨rfl, rfl⟩⟩, ⟨_, rfl, .inl ⟨rfl, rfl⟩⟩, trivial⟩ (.inl rfl)) ?_
    refine SOps.q rfl (.guard 4 23 false rfl rfl (gF g3)) rfl (q_not rfl rfl) ?_
    refine SOps.q rfl (.plain rfl) rfl (q_pick_f rfl rfl g3 rfl) ?_
    refine SOps.q rfl (.plain rfl) rfl (q_move rfl rfl) ?_
    refine SOps.skip rfl 10 29 false rfl rfl (.inl (gT g6)) rfl ?_
    refine SOps.skip rfl 10 29 false rfl rfl (.inl (gT g6)) rfl ?_
    refine SOps.skip rfl 10 29 false rfl rfl (.inl (gT g6)) rfl ?_
    refine SOps.q rfl (.plain rfl) rfl (q_pick_t rfl rfl g6 rfl) ?_
    refine SOps.q rfl (.plain rfl) rfl (q_move rfl rfl) ?_
    refine SOps.skip rfl 15 34 false rfl rfl (.inl rfl) rfl ?_
    refine SOps.skip rfl 15 34 false rfl rfl (.inl rfl) rfl ?_
    refine SOps.skip rfl 15 34 false rfl rfl (.inl rfl) rfl ?_
    refine SOps.skip rfl 15 34 false rfl rfl (.inl rfl) rfl ?_
    refine SOps.q rfl (.plain rfl) rfl (q_pick_t rfl rfl rfl rfl) ?_
    refine SOps.q rfl (.plain rfl) rfl (q_move rfl rfl) ?_
    refine SOps.skip rfl 21 40 false rfl rfl (.inl rfl) rfl ?_
    refine SOps.skip rfl 21 40 false rfl rfl (.inl rfl) rfl ?_
    refine SOps.skip rfl 21 40 false rfl rfl (.inl rfl) rfl ?_
    refine SOps.q rfl (.plain rfl) rfl (q_pick_t rfl rfl rfl rfl) ?_
    refine SOps.sub (st' := ⟨[(1, .c (.vec ([SRole.mk (ByteArray.mk #[97, 108, 108]) ([1, 5]) ByteArray.empty false, SRole.mk (ByteArray.mk #[110, 111]) ([5]) (ByteArray.mk #[83, 49]) true]).length 4 (gL cSRole dSRole ([SRole.mk (ByteArray.mk #[97, 108, 108]) ([1, 5]) ByteArray.empty false, SRole.mk (ByteArray.mk #[110, 111]) ([5]) (ByteArray.mk #[83, 49]) true])))), (2, .c (.vec ([SGrant.mk (ByteArray.mk #[117]) (ByteArray.mk #[97, 108, 108]) 0 10, SGrant.mk (ByteArray.mk #[117]) (ByteArray.mk #[97, 108, 108]) 10 ((-1)), SGrant.mk (ByteArray.mk #[117]) (ByteArray.mk #[110, 111]) 5 ((-1))]).length 4 (gL cSGrant dSGrant ([SGrant.mk (ByteArray.mk #[117]) (ByteArray.mk #[97, 108, 108]) 0 10, SGrant.mk (ByteArray.mk #[117]) (ByteArray.mk #[97, 108, 108]) 10 ((-1)), SGrant.mk (ByteArray.mk #[117]) (ByteArray.mk #[110, 111]) 5 ((-1))])))), (44, .c (.bool true))], []⟩) (sub_gen [] rfl rfl ⟨zc rfl rfl, zc rfl rfl, zc rfl rfl, trivial⟩ trivial) ?_
    refine SOps.nil ?_
    refine SCode.cond_t rfl rfl ?_
    refine SCode.seq ?_
    refine SCode.region (show SOps _ _ _ [0] _ _ from ?_)
    refine SOps.q rfl (.plain rfl) rfl (q_assign rfl rfl) ?_
    refine SOps.sub (st' := ⟨[(0, .c (.bool false))], []⟩) (sub_gen [] rfl rfl ⟨zc rfl rfl, trivial⟩ trivial) ?_
    refine SOps.nil ?_
    refine SCode.ret ?_
    obtain rfl := Option.some.inj h
    exact ⟨⟨[(0, .c (.bool false))], []⟩, _, sub_gen [] rfl rfl ⟨zc rfl rfl, trivial⟩ trivial, resA1 (v := .c (.bool false)) rfl rfl, rfl⟩
  obtain ⟨c_7, g8, h⟩ := bind_out h
  try dsimp only at h
  rcases cond_out h with ⟨g9, h⟩ | ⟨g9, h⟩
  · refine SCode.region (show SOps _ _ _ [0, 1, 2, 3, 4, 5, 6, 7, 8, 9, 10, 11, 12, 13, 14, 15, 16, 17, 18, 19, 20, 21, 22, 23, 24, 25] _ _ from ?_)
    refine SOps.q rfl (.plain rfl) rfl (q_move rfl rfl) ?_
    refine SOps.q rfl (.plain rfl) rfl (q_move rfl rfl) ?_
    refine SOps.q rfl (.plain rfl) rfl (q_call (access_Valid_ok F ([SRole.mk (ByteArray.mk #[97, 108, 108]) ([1, 5]) ByteArray.empty false, SRole.mk (ByteArray.mk #[110, 111]) ([5]) (ByteArray.mk #[83, 49]) true]) ([SGrant.mk (ByteArray.mk #[117]) (ByteArray.mk #[97, 108, 108]) 0 10, SGrant.mk (ByteArray.mk #[117]) (ByteArray.mk #[97, 108, 108]) 10 ((-1)), SGrant.mk (ByteArray.mk #[117]) (ByteArray.mk #[110, 111]) 5 ((-1))]) c_1 g2) [] rfl fn12 ⟨⟨_, rfl, .inl ⟨rfl, rfl⟩⟩, ⟨_, rfl, .inl ⟨rfl, rfl⟩⟩, trivial⟩ (.inl rfl)) ?_
    refine SOps.q rfl (.plain rfl) rfl (q_neq rfl rfl rfl) ?_
    refine SOps.q rfl (.plain rfl) rfl (q_move rfl rfl) ?_
    refine SOps.q rfl (.guard 4 23 false rfl rfl (gF g3)) rfl (q_move rfl rfl) ?_
    refine SOps.q rfl (.guard 4 23 false rfl rfl (gF g3)) rfl (q_move rfl rfl) ?_
    refine SOps.q rfl (.guard 4 23 false rfl rfl (gF g3)) rfl (q_call (access_Allowed_ok F ([SRole.mk (ByteArray.mk #[97, 108, 108]) ([1, 5]) ByteArray.empty false, SRole.mk (ByteArray.mk #[110, 111]) ([5]) (ByteArray.mk #[83, 49]) true]) ([SGrant.mk (ByteArray.mk #[117]) (ByteArray.mk #[97, 108, 108]) 0 10, SGrant.mk (ByteArray.mk #[117]) (ByteArray.mk #[97, 108, 108]) 10 ((-1)), SGrant.mk (ByteArray.mk #[117]) (ByteArray.mk #[110, 111]) 5 ((-1))]) (ByteArray.mk #[117]) 5 (ByteArray.mk #[83, 50]) 5 c_4 g5) [] rfl fn14 ⟨⟨_, rfl, .inl ⟨rfl, rfl⟩⟩, ⟨_, rfl, .inl ⟨rfl, rfl⟩⟩, ⟨_, rfl, .inl ⟨rfl, rfl⟩⟩, ⟨_, rfl, .inl ⟨rfl, rfl⟩⟩, ⟨_, rfl, .inl ⟨rfl, rfl⟩⟩, ⟨_, rfl, .inl ⟨rfl, rfl⟩⟩, trivial⟩ (.inl rfl)) ?_
    refine SOps.q rfl (.guard 4 23 false rfl rfl (gF g3)) rfl (q_not rfl rfl) ?_
    refine SOps.q rfl (.plain rfl) rfl (q_pick_f rfl rfl g3 rfl) ?_
    refine SOps.q rfl (.plain rfl) rfl (q_move rfl rfl) ?_
    refine SOps.q rfl (.guard 10 29 false rfl rfl (gF g6)) rfl (q_move rfl rfl) ?_
    refine SOps.q rfl (.guard 10 29 false rfl rfl (gF g6)) rfl (q_move rfl rfl) ?_
    refine SOps.q rfl (.guard 10 29 false rfl rfl (gF g6)) rfl (q_call (access_Allowed_ok F ([SRole.mk (ByteArray.mk #[97, 108, 108]) ([1, 5]) ByteArray.empty false, SRole.mk (ByteArray.mk #[110, 111]) ([5]) (ByteArray.mk #[83, 49]) true]) ([SGrant.mk (ByteArray.mk #[117]) (ByteArray.mk #[97, 108, 108]) 0 10, SGrant.mk (ByteArray.mk #[117]) (ByteArray.mk #[97, 108, 108]) 10 ((-1)), SGrant.mk (ByteArray.mk #[117]) (ByteArray.mk #[110, 111]) 5 ((-1))]) (ByteArray.mk #[117]) 5 (ByteArray.mk #[83, 49, 48]) 5 c_7 g8) [] rfl fn14 ⟨⟨_, rfl, .inl ⟨rfl, rfl⟩⟩, ⟨_, rfl, .inl ⟨rfl, rfl⟩⟩, ⟨_, rfl, .inl ⟨rfl, rfl⟩⟩, ⟨_, rfl, .inl ⟨rfl, rfl⟩⟩, ⟨_, rfl, .inl ⟨rfl, rfl⟩⟩, ⟨_, rfl, .inl ⟨rfl, rfl⟩⟩, trivial⟩ (.inl rfl)) ?_
    refine SOps.q rfl (.plain rfl) rfl (q_pick_f rfl rfl g6 rfl) ?_
    refine SOps.q rfl (.plain rfl) rfl (q_move rfl rfl) ?_
    refine SOps.skip rfl 15 34 false rfl rfl (.inl (gT g9)) rfl ?_
    refine SOps.skip rfl 15 34 false rfl rfl (.inl (gT g9)) rfl ?_
    refine SOps.skip rfl 15 34 false rfl rfl (.inl (gT g9)) rfl ?_
    refine SOps.skip rfl 15 34 false rfl rfl (.inl (gT g9)) rfl ?_
    refine SOps.q rfl (.plain rfl) rfl (q_pick_t rfl rfl g9 rfl) ?_
    refine SOps.q rfl (.plain rfl) rfl (q_move rfl rfl) ?_
    refine SOps.skip rfl 21 40 false rfl rfl (.inl rfl) rfl ?_
    refine SOps.skip rfl 21 40 false rfl rfl (.inl rfl) rfl ?_
    refine SOps.skip rfl 21 40 false rfl rfl (.inl rfl) rfl ?_
    refine SOps.q rfl (.plain rfl) rfl (q_pick_t rfl rfl rfl rfl) ?_
    refine SOps.sub (st' := ⟨[(1, .c (.vec ([SRole.mk (ByteArray.mk #[97, 108, 108]) ([1, 5]) ByteArray.empty false, SRole.mk (ByteArray.mk #[110, 111]) ([5]) (ByteArray.mk #[83, 49]) true]).length 4 (gL cSRole dSRole ([SRole.mk (ByteArray.mk #[97, 108, 108]) ([1, 5]) ByteArray.empty false, SRole.mk (ByteArray.mk #[110, 111]) ([5]) (ByteArray.mk #[83, 49]) true])))), (2, .c (.vec ([SGrant.mk (ByteArray.mk #[117]) (ByteArray.mk #[97, 108, 108]) 0 10, SGrant.mk (ByteArray.mk #[117]) (ByteArray.mk #[97, 108, 108]) 10 ((-1)), SGrant.mk (ByteArray.mk #[117]) (ByteArray.mk #[110, 111]) 5 ((-1))]).length 4 (gL cSGrant dSGrant ([SGrant.mk (ByteArray.mk #[117]) (ByteArray.mk #[97, 108, 108]) 0 10, SGrant.mk (ByteArray.mk #[117]) (ByteArray.mk #[97, 108, 108]) 10 ((-1)), SGrant.mk (ByteArray.mk #[117]) (ByteArray.mk #[110, 111]) 5 ((-1))])))), (44, .c (.bool true))], []⟩) (sub_gen [] rfl rfl ⟨zc rfl rfl, zc rfl rfl, zc rfl rfl, trivial⟩ trivial) ?_
    refine SOps.nil ?_
    refine SCode.cond_t rfl rfl ?_
    refine SCode.seq ?_
    refine SCode.region (show SOps _ _ _ [0] _ _ from ?_)
    refine SOps.q rfl (.plain rfl) rfl (q_assign rfl rfl) ?_
    refine SOps.sub (st' := ⟨[(0, .c (.bool false))], []⟩) (sub_gen [] rfl rfl ⟨zc rfl rfl, trivial⟩ trivial) ?_
    refine SOps.nil ?_
    refine SCode.ret ?_
    obtain rfl := Option.some.inj h
    exact ⟨⟨[(0, .c (.bool false))], []⟩, _, sub_gen [] rfl rfl ⟨zc rfl rfl, trivial⟩ trivial, resA1 (v := .c (.bool false)) rfl rfl, rfl⟩
  obtain ⟨c_10, g11, h⟩ := bind_out h
  try dsimp only at h
  rcases cond_out h with ⟨g12, h⟩ | ⟨g12, h⟩
  · refine SCode.region (show SOps _ _ _ [0, 1, 2, 3, 4, 5, 6, 7, 8, 9, 10, 11, 12, 13, 14, 15, 16, 17, 18, 19, 20, 21, 22, 23, 24, 25] _ _ from ?_)
    refine SOps.q rfl (.plain rfl) rfl (q_move rfl rfl) ?_
    refine SOps.q rfl (.plain rfl) rfl (q_move rfl rfl) ?_
    refine SOps.q rfl (.plain rfl) rfl (q_call (access_Valid_ok F ([SRole.mk (ByteArray.mk #[97, 108, 108]) ([1, 5]) ByteArray.empty false, SRole.mk (ByteArray.mk #[110, 111]) ([5]) (ByteArray.mk #[83, 49]) true]) ([SGrant.mk (ByteArray.mk #[117]) (ByteArray.mk #[97, 108, 108]) 0 10, SGrant.mk (ByteArray.mk #[117]) (ByteArray.mk #[97, 108, 108]) 10 ((-1)), SGrant.mk (ByteArray.mk #[117]) (ByteArray.mk #[110, 111]) 5 ((-1))]) c_1 g2) [] rfl fn12 ⟨⟨_, rfl, .inl ⟨rfl, rfl⟩⟩, ⟨_, rfl, .inl ⟨rfl, rfl⟩⟩, trivial⟩ (.inl rfl)) ?_
    refine SOps.q rfl (.plain rfl) rfl (q_neq rfl rfl rfl) ?_
    refine SOps.q rfl (.plain rfl) rfl (q_move rfl rfl) ?_
    refine SOps.q rfl (.guard 4 23 false rfl rfl (gF g3)) rfl (q_move rfl rfl) ?_
    refine SOps.q rfl (.guard 4 23 false rfl rfl (gF g3)) rfl (q_move rfl rfl) ?_
    refine SOps.q rfl (.guard 4 23 false rfl rfl (gF g3)) rfl (q_call (access_Allowed_ok F ([SRole.mk (ByteArray.mk #[97, 108, 108]) ([1, 5]) ByteArray.empty false, SRole.mk (ByteArray.mk #[110, 111]) ([5]) (ByteArray.mk #[83, 49]) true]) ([SGrant.mk (ByteArray.mk #[117]) (ByteArray.mk #[97, 108, 108]) 0 10, SGrant.mk (ByteArray.mk #[117]) (ByteArray.mk #[97, 108, 108]) 10 ((-1)), SGrant.mk (ByteArray.mk #[117]) (ByteArray.mk #[110, 111]) 5 ((-1))]) (ByteArray.mk #[117]) 5 (ByteArray.mk #[83, 50]) 5 c_4 g5) [] rfl fn14 ⟨⟨_, rfl, .inl ⟨rfl, rfl⟩⟩, ⟨_, rfl, .inl ⟨rfl, rfl⟩⟩, ⟨_, rfl, .inl ⟨rfl, rfl⟩⟩, ⟨_, rfl, .inl ⟨rfl, rfl⟩⟩, ⟨_, rfl, .inl ⟨rfl, rfl⟩⟩, ⟨_, rfl, .inl ⟨rfl, rfl⟩⟩, trivial⟩ (.inl rfl)) ?_
    refine SOps.q rfl (.guard 4 23 false rfl rfl (gF g3)) rfl (q_not rfl rfl) ?_
    refine SOps.q rfl (.plain rfl) rfl (q_pick_f rfl rfl g3 rfl) ?_
    refine SOps.q rfl (.plain rfl) rfl (q_move rfl rfl) ?_
    refine SOps.q rfl (.guard 10 29 false rfl rfl (gF g6)) rfl (q_move rfl rfl) ?_
    refine SOps.q rfl (.guard 10 29 false rfl rfl (gF g6)) rfl (q_move rfl rfl) ?_
    refine SOps.q rfl (.guard 10 29 false rfl rfl (gF g6)) rfl (q_call (access_Allowed_ok F ([SRole.mk (ByteArray.mk #[97, 108, 108]) ([1, 5]) ByteArray.empty false, SRole.mk (ByteArray.mk #[110, 111]) ([5]) (ByteArray.mk #[83, 49]) true]) ([SGrant.mk (ByteArray.mk #[117]) (ByteArray.mk #[97, 108, 108]) 0 10, SGrant.mk (ByteArray.mk #[117]) (ByteArray.mk #[97, 108, 108]) 10 ((-1)), SGrant.mk (ByteArray.mk #[117]) (ByteArray.mk #[110, 111]) 5 ((-1))]) (ByteArray.mk #[117]) 5 (ByteArray.mk #[83, 49, 48]) 5 c_7 g8) [] rfl fn14 ⟨⟨_, rfl, .inl ⟨rfl, rfl⟩⟩, ⟨_, rfl, .inl ⟨rfl, rfl⟩⟩, ⟨_, rfl, .inl ⟨rfl, rfl⟩⟩, ⟨_, rfl, .inl ⟨rfl, rfl⟩⟩, ⟨_, rfl, .inl ⟨rfl, rfl⟩⟩, ⟨_, rfl, .inl ⟨rfl, rfl⟩⟩, trivial⟩ (.inl rfl)) ?_
    refine SOps.q rfl (.plain rfl) rfl (q_pick_f rfl rfl g6 rfl) ?_
    refine SOps.q rfl (.plain rfl) rfl (q_move rfl rfl) ?_
    refine SOps.q rfl (.guard 15 34 false rfl rfl (gF g9)) rfl (q_move rfl rfl) ?_
    refine SOps.q rfl (.guard 15 34 false rfl rfl (gF g9)) rfl (q_move rfl rfl) ?_
    refine SOps.q rfl (.guard 15 34 false rfl rfl (gF g9)) rfl (q_call (access_Allowed_ok F ([SRole.mk (ByteArray.mk #[97, 108, 108]) ([1, 5]) ByteArray.empty false, SRole.mk (ByteArray.mk #[110, 111]) ([5]) (ByteArray.mk #[83, 49]) true]) ([SGrant.mk (ByteArray.mk #[117]) (ByteArray.mk #[97, 108, 108]) 0 10, SGrant.mk (ByteArray.mk #[117]) (ByteArray.mk #[97, 108, 108]) 10 ((-1)), SGrant.mk (ByteArray.mk #[117]) (ByteArray.mk #[110, 111]) 5 ((-1))]) (ByteArray.mk #[117]) 5 (ByteArray.mk #[83, 49, 48]) 4 c_10 g11) [] rfl fn14 ⟨⟨_, rfl, .inl ⟨rfl, rfl⟩⟩, ⟨_, rfl, .inl ⟨rfl, rfl⟩⟩, ⟨_, rfl, .inl ⟨rfl, rfl⟩⟩, ⟨_, rfl, .inl ⟨rfl, rfl⟩⟩, ⟨_, rfl, .inl ⟨rfl, rfl⟩⟩, ⟨_, rfl, .inl ⟨rfl, rfl⟩⟩, trivial⟩ (.inl rfl)) ?_
    refine SOps.q rfl (.guard 15 34 false rfl rfl (gF g9)) rfl (q_not rfl rfl) ?_
    refine SOps.q rfl (.plain rfl) rfl (q_pick_f rfl rfl g9 rfl) ?_
    refine SOps.q rfl (.plain rfl) rfl (q_move rfl rfl) ?_
    refine SOps.skip rfl 21 40 false rfl rfl (.inl (gT g12)) rfl ?_
    refine SOps.skip rfl 21 40 false rfl rfl (.inl (gT g12)) rfl ?_
    refine SOps.skip rfl 21 40 false rfl rfl (.inl (gT g12)) rfl ?_
    refine SOps.q rfl (.plain rfl) rfl (q_pick_t rfl rfl g12 rfl) ?_
    refine SOps.sub (st' := ⟨[(1, .c (.vec ([SRole.mk (ByteArray.mk #[97, 108, 108]) ([1, 5]) ByteArray.empty false, SRole.mk (ByteArray.mk #[110, 111]) ([5]) (ByteArray.mk #[83, 49]) true]).length 4 (gL cSRole dSRole ([SRole.mk (ByteArray.mk #[97, 108, 108]) ([1, 5]) ByteArray.empty false, SRole.mk (ByteArray.mk #[110, 111]) ([5]) (ByteArray.mk #[83, 49]) true])))), (2, .c (.vec ([SGrant.mk (ByteArray.mk #[117]) (ByteArray.mk #[97, 108, 108]) 0 10, SGrant.mk (ByteArray.mk #[117]) (ByteArray.mk #[97, 108, 108]) 10 ((-1)), SGrant.mk (ByteArray.mk #[117]) (ByteArray.mk #[110, 111]) 5 ((-1))]).length 4 (gL cSGrant dSGrant ([SGrant.mk (ByteArray.mk #[117]) (ByteArray.mk #[97, 108, 108]) 0 10, SGrant.mk (ByteArray.mk #[117]) (ByteArray.mk #[97, 108, 108]) 10 ((-1)), SGrant.mk (ByteArray.mk #[117]) (ByteArray.mk #[110, 111]) 5 ((-1))])))), (44, .c (.bool true))], []⟩) (sub_gen [] rfl rfl ⟨zc rfl rfl, zc rfl rfl, zc rfl rfl, trivial⟩ trivial) ?_
    refine SOps.nil ?_
    refine SCode.cond_t rfl rfl ?_
    refine SCode.seq ?_
    refine SCode.region (show SOps _ _ _ [0] _ _ from ?_)
    refine SOps.q rfl (.plain rfl) rfl (q_assign rfl rfl) ?_
    refine SOps.sub (st' := ⟨[(0, .c (.bool false))], []⟩) (sub_gen [] rfl rfl ⟨zc rfl rfl, trivial⟩ trivial) ?_
    refine SOps.nil ?_
    refine SCode.ret ?_
    obtain rfl := Option.some.inj h
    exact ⟨⟨[(0, .c (.bool false))], []⟩, _, sub_gen [] rfl rfl ⟨zc rfl rfl, trivial⟩ trivial, resA1 (v := .c (.bool false)) rfl rfl, rfl⟩
  obtain ⟨c_13, g14, h⟩ := bind_out h
  try dsimp only at h
  refine SCode.region (show SOps _ _ _ [0, 1, 2, 3, 4, 5, 6, 7, 8, 9, 10, 11, 12, 13, 14, 15, 16, 17, 18, 19, 20, 21, 22, 23, 24, 25] _ _ from ?_)
  refine SOps.q rfl (.plain rfl) rfl (q_move rfl rfl) ?_
  refine SOps.q rfl (.plain rfl) rfl (q_move rfl rfl) ?_
  refine SOps.q rfl (.plain rfl) rfl (q_call (access_Valid_ok F ([SRole.mk (ByteArray.mk #[97, 108, 108]) ([1, 5]) ByteArray.empty false, SRole.mk (ByteArray.mk #[110, 111]) ([5]) (ByteArray.mk #[83, 49]) true]) ([SGrant.mk (ByteArray.mk #[117]) (ByteArray.mk #[97, 108, 108]) 0 10, SGrant.mk (ByteArray.mk #[117]) (ByteArray.mk #[97, 108, 108]) 10 ((-1)), SGrant.mk (ByteArray.mk #[117]) (ByteArray.mk #[110, 111]) 5 ((-1))]) c_1 g2) [] rfl fn12 ⟨⟨_, rfl, .inl ⟨rfl, rfl⟩⟩, ⟨_, rfl, .inl ⟨rfl, rfl⟩⟩, trivial⟩ (.inl rfl)) ?_
  refine SOps.q rfl (.plain rfl) rfl (q_neq rfl rfl rfl) ?_
  refine SOps.q rfl (.plain rfl) rfl (q_move rfl rfl) ?_
  refine SOps.q rfl (.guard 4 23 false rfl rfl (gF g3)) rfl (q_move rfl rfl) ?_
  refine SOps.q rfl (.guard 4 23 false rfl rfl (gF g3)) rfl (q_move rfl rfl) ?_
  refine SOps.q rfl (.guard 4 23 false rfl rfl (gF g3)) rfl (q_call (access_Allowed_ok F ([SRole.mk (ByteArray.mk #[97, 108, 108]) ([1, 5]) ByteArray.empty false, SRole.mk (ByteArray.mk #[110, 111]) ([5]) (ByteArray.mk #[83, 49]) true]) ([SGrant.mk (ByteArray.mk #[117]) (ByteArray.mk #[97, 108, 108]) 0 10, SGrant.mk (ByteArray.mk #[117]) (ByteArray.mk #[97, 108, 108]) 10 ((-1)), SGrant.mk (ByteArray.mk #[117]) (ByteArray.mk #[110, 111]) 5 ((-1))]) (ByteArray.mk #[117]) 5 (ByteArray.mk #[83, 50]) 5 c_4 g5) [] rfl fn14 ⟨⟨_, rfl, .inl ⟨rfl, rfl⟩⟩, ⟨_, rfl, .inl ⟨rfl, rfl⟩⟩, ⟨_, rfl, .inl ⟨rfl, rfl⟩⟩, ⟨_, rfl, .inl ⟨rfl, rfl⟩⟩, ⟨_, rfl, .inl ⟨rfl, rfl⟩⟩, ⟨_, rfl, .inl ⟨rfl, rfl⟩⟩, trivial⟩ (.inl rfl)) ?_
  refine SOps.q rfl (.guard 4 23 false rfl rfl (gF g3)) rfl (q_not rfl rfl) ?_
  refine SOps.q rfl (.plain rfl) rfl (q_pick_f rfl rfl g3 rfl) ?_
  refine SOps.q rfl (.plain rfl) rfl (q_move rfl rfl) ?_
  refine SOps.q rfl (.guard 10 29 false rfl rfl (gF g6)) rfl (q_move rfl rfl) ?_
  refine SOps.q rfl (.guard 10 29 false rfl rfl (gF g6)) rfl (q_move rfl rfl) ?_
  refine SOps.q rfl (.guard 10 29 false rfl rfl (gF g6)) rfl (q_call (access_Allowed_ok F ([SRole.mk (ByteArray.mk #[97, 108, 108]) ([1, 5]) ByteArray.empty false, SRole.mk (ByteArray.mk #[110, 111]) ([5]) (ByteArray.mk #[83, 49]) true]) ([SGrant.mk (ByteArray.mk #[117]) (ByteArray.mk #[97, 108, 108]) 0 10, SGrant.mk (ByteArray.mk #[117]) (ByteArray.mk #[97, 108, 108]) 10 ((-1)), SGrant.mk (ByteArray.mk #[117]) (ByteArray.mk #[110, 111]) 5 ((-1))]) (ByteArray.mk #[117]) 5 (ByteArray.mk #[83, 49, 48]) 5 c_7 g8) [] rfl fn14 ⟨⟨_, rfl, .inl ⟨rfl, rfl⟩⟩, ⟨_, rfl, .inl ⟨rfl, rfl⟩⟩, ⟨_, rfl, .inl ⟨rfl, rfl⟩⟩, ⟨_, rfl, .inl ⟨rfl, rfl⟩⟩, ⟨_, rfl, .inl ⟨rfl, rfl⟩⟩, ⟨_, rfl, .inl ⟨rfl, rfl⟩⟩, trivial⟩ (.inl rfl)) ?_
  refine SOps.q rfl (.plain rfl) rfl (q_pick_f rfl rfl g6 rfl) ?_
  refine SOps.q rfl (.plain rfl) rfl (q_move rfl rfl) ?_
  refine SOps.q rfl (.guard 15 34 false rfl rfl (gF g9)) rfl (q_move rfl rfl) ?_
  refine SOps.q rfl (.guard 15 34 false rfl rfl (gF g9)) rfl (q_move rfl rfl) ?_
  refine SOps.q rfl (.guard 15 34 false rfl rfl (gF g9)) rfl (q_call (access_Allowed_ok F ([SRole.mk (ByteArray.mk #[97, 108, 108]) ([1, 5]) ByteArray.empty false, SRole.mk (ByteArray.mk #[110, 111]) ([5]) (ByteArray.mk #[83, 49]) true]) ([SGrant.mk (ByteArray.mk #[117]) (ByteArray.mk #[97, 108, 108]) 0 10, SGrant.mk (ByteArray.mk #[117]) (ByteArray.mk #[97, 108, 108]) 10 ((-1)), SGrant.mk (ByteArray.mk #[117]) (ByteArray.mk #[110, 111]) 5 ((-1))]) (ByteArray.mk #[117]) 5 (ByteArray.mk #[83, 49, 48]) 4 c_10 g11) [] rfl fn14 ⟨⟨_, rfl, .inl ⟨rfl, rfl⟩⟩, ⟨_, rfl, .inl ⟨rfl, rfl⟩⟩, ⟨_, rfl, .inl ⟨rfl, rfl⟩⟩, ⟨_, rfl, .inl ⟨rfl, rfl⟩⟩, ⟨_, rfl, .inl ⟨rfl, rfl⟩⟩, ⟨_, rfl, .inl ⟨rfl, rfl⟩⟩, trivial⟩ (.inl rfl)) ?_
  refine SOps.q rfl (.guard 15 34 false rfl rfl (gF g9)) rfl (q_not rfl rfl) ?_
  refine SOps.q rfl (.plain rfl) rfl (q_pick_f rfl rfl g9 rfl) ?_
  refine SOps.q rfl (.plain rfl) rfl (q_move rfl rfl) ?_
  refine SOps.q rfl (.guard 21 40 false rfl rfl (gF g12)) rfl (q_move rfl rfl) ?_
  refine SOps.q rfl (.guard 21 40 false rfl rfl (gF g12)) rfl (q_move rfl rfl) ?_
  refine SOps.q rfl (.guard 21 40 false rfl rfl (gF g12)) rfl (q_call (access_Allowed_ok F ([SRole.mk (ByteArray.mk #[97, 108, 108]) ([1, 5]) ByteArray.empty false, SRole.mk (ByteArray.mk #[110, 111]) ([5]) (ByteArray.mk #[83, 49]) true]) ([SGrant.mk (ByteArray.mk #[117]) (ByteArray.mk #[97, 108, 108]) 0 10, SGrant.mk (ByteArray.mk #[117]) (ByteArray.mk #[97, 108, 108]) 10 ((-1)), SGrant.mk (ByteArray.mk #[117]) (ByteArray.mk #[110, 111]) 5 ((-1))]) (ByteArray.mk #[117]) 2 (ByteArray.mk #[83, 50]) 5 c_13 g14) [] rfl fn14 ⟨⟨_, rfl, .inl ⟨rfl, rfl⟩⟩, ⟨_, rfl, .inl ⟨rfl, rfl⟩⟩, ⟨_, rfl, .inl ⟨rfl, rfl⟩⟩, ⟨_, rfl, .inl ⟨rfl, rfl⟩⟩, ⟨_, rfl, .inl ⟨rfl, rfl⟩⟩, ⟨_, rfl, .inl ⟨rfl, rfl⟩⟩, trivial⟩ (.inl rfl)) ?_
  refine SOps.q rfl (.plain rfl) rfl (q_pick_f rfl rfl g12 rfl) ?_
  refine SOps.sub (st' := ⟨[(1, .c (.vec ([SRole.mk (ByteArray.mk #[97, 108, 108]) ([1, 5]) ByteArray.empty false, SRole.mk (ByteArray.mk #[110, 111]) ([5]) (ByteArray.mk #[83, 49]) true]).length 4 (gL cSRole dSRole ([SRole.mk (ByteArray.mk #[97, 108, 108]) ([1, 5]) ByteArray.empty false, SRole.mk (ByteArray.mk #[110, 111]) ([5]) (ByteArray.mk #[83, 49]) true])))), (2, .c (.vec ([SGrant.mk (ByteArray.mk #[117]) (ByteArray.mk #[97, 108, 108]) 0 10, SGrant.mk (ByteArray.mk #[117]) (ByteArray.mk #[97, 108, 108]) 10 ((-1)), SGrant.mk (ByteArray.mk #[117]) (ByteArray.mk #[110, 111]) 5 ((-1))]).length 4 (gL cSGrant dSGrant ([SGrant.mk (ByteArray.mk #[117]) (ByteArray.mk #[97, 108, 108]) 0 10, SGrant.mk (ByteArray.mk #[117]) (ByteArray.mk #[97, 108, 108]) 10 ((-1)), SGrant.mk (ByteArray.mk #[117]) (ByteArray.mk #[110, 111]) 5 ((-1))])))), (44, .c (.bool c_13))], []⟩) (sub_gen [] rfl rfl ⟨zc rfl rfl, zc rfl rfl, zc rfl rfl, trivial⟩ trivial) ?_
  refine SOps.nil ?_
  rcases cond_out h with ⟨g15, h⟩ | ⟨g15, h⟩
  · refine SCode.cond_t rfl g15 ?_
    refine SCode.seq ?_
    refine SCode.region (show SOps _ _ _ [0] _ _ from ?_)
    refine SOps.q rfl (.plain rfl) rfl (q_assign rfl rfl) ?_
    refine SOps.sub (st' := ⟨[(0, .c (.bool false))], []⟩) (sub_gen [] rfl rfl ⟨zc rfl rfl, trivial⟩ trivial) ?_
    refine SOps.nil ?_
    refine SCode.ret ?_
    obtain rfl := Option.some.inj h
    exact ⟨⟨[(0, .c (.bool false))], []⟩, _, sub_gen [] rfl rfl ⟨zc rfl rfl, trivial⟩ trivial, resA1 (v := .c (.bool false)) rfl rfl, rfl⟩
  refine SCode.cond_f rfl g15 ?_
  refine SCode.skip ?_
  refine SCode.seq ?_
  obtain ⟨c_16, g17, h⟩ := bind_out h
  try dsimp only at h
  refine SCode.region (show SOps _ _ _ [0, 1, 2, 3, 4, 5, 6] _ _ from ?_)
  refine SOps.q rfl (.plain rfl) rfl (q_move rfl rfl) ?_
  refine SOps.q rfl (.plain rfl) rfl (q_call (access_Take_ok F ([SGrant.mk (ByteArray.mk #[117]) (ByteArray.mk #[97, 108, 108]) 0 10, SGrant.mk (ByteArray.mk #[117]) (ByteArray.mk #[97, 108, 108]) 10 ((-1)), SGrant.mk (ByteArray.mk #[117]) (ByteArray.mk #[110, 111]) 5 ((-1))]) (ByteArray.mk #[117]) (ByteArray.mk #[110, 111]) 5 c_16 g17) [] rfl fn19 ⟨⟨_, rfl, .inl ⟨rfl, rfl⟩⟩, ⟨_, rfl, .inl ⟨rfl, rfl⟩⟩, ⟨_, rfl, .inl ⟨rfl, rfl⟩⟩, ⟨_, rfl, .inl ⟨rfl, rfl⟩⟩, trivial⟩ (.inl rfl)) ?_
  refine SOps.q rfl (.plain rfl) rfl (q_move rfl rfl) ?_
  refine SOps.q rfl (.plain rfl) rfl (q_extract rfl rfl rfl) ?_
  refine SOps.q rfl (.plain rfl) rfl (q_extract rfl rfl rfl) ?_
  refine SOps.q rfl (.plain rfl) rfl (q_assign rfl rfl) ?_
  refine SOps.q rfl (.plain rfl) rfl (q_assign rfl rfl) ?_
  refine SOps.sub (st' := ⟨[(1, .c (.vec ([SRole.mk (ByteArray.mk #[97, 108, 108]) ([1, 5]) ByteArray.empty false, SRole.mk (ByteArray.mk #[110, 111]) ([5]) (ByteArray.mk #[83, 49]) true]).length 4 (gL cSRole dSRole ([SRole.mk (ByteArray.mk #[97, 108, 108]) ([1, 5]) ByteArray.empty false, SRole.mk (ByteArray.mk #[110, 111]) ([5]) (ByteArray.mk #[83, 49]) true])))), (2, .c (.vec ([SGrant.mk (ByteArray.mk #[117]) (ByteArray.mk #[97, 108, 108]) 0 10, SGrant.mk (ByteArray.mk #[117]) (ByteArray.mk #[97, 108, 108]) 10 ((-1)), SGrant.mk (ByteArray.mk #[117]) (ByteArray.mk #[110, 111]) 5 ((-1))]).length 4 (gL cSGrant dSGrant ([SGrant.mk (ByteArray.mk #[117]) (ByteArray.mk #[97, 108, 108]) 0 10, SGrant.mk (ByteArray.mk #[117]) (ByteArray.mk #[97, 108, 108]) 10 ((-1)), SGrant.mk (ByteArray.mk #[117]) (ByteArray.mk #[110, 111]) 5 ((-1))])))), (3, .c (.vec c_16.1.length 4 (gL cSGrant dSGrant c_16.1))), (4, .c (.int .i64 c_16.2))], []⟩) (sub_gen [] rfl rfl ⟨zc rfl rfl, zc rfl rfl, zc rfl rfl, zc rfl rfl, trivial⟩ trivial) ?_
  refine SOps.nil ?_
  refine SCode.seq ?_
  obtain ⟨c_18, g19, h⟩ := bind_out h
  try dsimp only at h
  refine SCode.region (show SOps _ _ _ [0, 1, 2, 3, 4, 5, 6, 7, 8, 9] _ _ from ?_)
  refine SOps.q rfl (.plain rfl) rfl (q_move rfl rfl) ?_
  refine SOps.q rfl (.plain rfl) rfl (q_move rfl rfl) ?_
  refine SOps.q rfl (.plain rfl) rfl (q_build2 rfl rfl pl35 rfl) ?_
  refine SOps.q rfl (.plain rfl) rfl (q_build2 rfl rfl pl37 rfl) ?_
  refine SOps.q rfl (.plain rfl) rfl (q_call (access_Give_ok F ([SRole.mk (ByteArray.mk #[97, 108, 108]) ([1, 5]) ByteArray.empty false, SRole.mk (ByteArray.mk #[110, 111]) ([5]) (ByteArray.mk #[83, 49]) true]) ([SGrant.mk (ByteArray.mk #[117]) (ByteArray.mk #[97, 108, 108]) 0 10, SGrant.mk (ByteArray.mk #[117]) (ByteArray.mk #[97, 108, 108]) 10 ((-1)), SGrant.mk (ByteArray.mk #[117]) (ByteArray.mk #[110, 111]) 5 ((-1))]) (SGrant.mk (ByteArray.mk #[117]) (ByteArray.mk #[120]) 0 ((-1))) c_18 g19) [] rfl fn16 ⟨⟨_, rfl, .inl ⟨rfl, rfl⟩⟩, ⟨_, rfl, .inl ⟨rfl, rfl⟩⟩, ⟨rfl, rfl⟩, trivial⟩ (.inl rfl)) ?_
  refine SOps.q rfl (.plain rfl) rfl (q_move rfl rfl) ?_
  refine SOps.q rfl (.plain rfl) rfl (q_extract rfl rfl rfl) ?_
  refine SOps.q rfl (.plain rfl) rfl (q_extract rfl rfl rfl) ?_
  refine SOps.q rfl (.plain rfl) rfl (q_assign rfl rfl) ?_
  refine SOps.q rfl (.plain rfl) rfl (q_assign rfl rfl) ?_
  refine SOps.sub (st' := ⟨[(1, .c (.vec ([SRole.mk (ByteArray.mk #[97, 108, 108]) ([1, 5]) ByteArray.empty false, SRole.mk (ByteArray.mk #[110, 111]) ([5]) (ByteArray.mk #[83, 49]) true]).length 4 (gL cSRole dSRole ([SRole.mk (ByteArray.mk #[97, 108, 108]) ([1, 5]) ByteArray.empty false, SRole.mk (ByteArray.mk #[110, 111]) ([5]) (ByteArray.mk #[83, 49]) true])))), (3, .c (.vec c_16.1.length 4 (gL cSGrant dSGrant c_16.1))), (4, .c (.int .i64 c_16.2)), (6, .c (.int .i64 c_18.2))], []⟩) (sub_gen [] rfl rfl ⟨zc rfl rfl, zc rfl rfl, zc rfl rfl, zc rfl rfl, trivial⟩ trivial) ?_
  refine SOps.nil ?_
  refine SCode.seq ?_
  rcases cond_out h with ⟨g20, h⟩ | ⟨g20, h⟩
  · rcases cond_out h with ⟨g21, h⟩ | ⟨g21, h⟩
    · obtain ⟨g22, h⟩ := guard_out h
      rcases cond_out h with ⟨g23, h⟩ | ⟨g23, h⟩
      · rcases cond_out h with ⟨g24, h⟩ | ⟨g24, h⟩
        · obtain ⟨c_25, g26, h⟩ := bind_out h
          try dsimp only at h
          refine SCode.region (show SOps _ _ _ [0, 1, 2, 3, 4, 5, 6, 7, 8, 9, 10, 11, 12, 13, 14, 15, 16, 17, 18, 19, 20, 21, 22, 23, 24, 25] _ _ from ?_)
          refine SOps.q rfl (.plain rfl) rfl (q_move rfl rfl) ?_
          refine SOps.q rfl (.plain rfl) rfl (q_eql rfl rfl rfl) ?_
          refine SOps.q rfl (.plain rfl) rfl (q_move rfl rfl) ?_
          refine SOps.q rfl (.guard 2 60 true rfl rfl (gT g20)) rfl (q_move rfl rfl) ?_
          refine SOps.q rfl (.guard 2 60 true rfl rfl (gT g20)) rfl (q_len_vec rfl rfl sl23) ?_
          refine SOps.q rfl (.guard 2 60 true rfl rfl (gT g20)) rfl (q_eql rfl rfl rfl) ?_
          refine SOps.q rfl (.plain rfl) rfl (q_pick_t rfl rfl g20 rfl) ?_
          refine SOps.q rfl (.plain rfl) rfl (q_move rfl rfl) ?_
          refine SOps.q rfl (.guard 7 65 true rfl rfl (gT g21)) rfl (q_move rfl rfl) ?_
          refine SOps.q rfl (.guard 7 65 true rfl rfl (gT g21)) rfl (q_index_vec rfl rfl rfl sl23 rfl g22.1 g22.2) ?_
          refine SOps.q rfl (.guard 7 65 true rfl rfl (gT g21)) rfl (q_field_eptr rfl rfl fd37_2 rfl) ?_
          refine SOps.q rfl (.guard 7 65 true rfl rfl (gT g21)) rfl (q_load_eptr_all rfl rfl rfl ty35) ?_
          refine SOps.q rfl (.guard 7 65 true rfl rfl (gT g21)) rfl (q_build2 rfl rfl pl35 rfl) ?_
          refine SOps.q rfl (.guard 7 65 true rfl rfl (gT g21)) rfl (q_eqAgg (neg := false) rfl (.inl rfl) rfl rfl eqt35 rfl) ?_
          refine SOps.q rfl (.plain rfl) rfl (q_pick_t rfl rfl g21 rfl) ?_
          refine SOps.q rfl (.plain rfl) rfl (q_move rfl rfl) ?_
          refine SOps.q rfl (.guard 15 73 true rfl rfl (gT g23)) rfl (q_move rfl rfl) ?_
          refine SOps.q rfl (.guard 15 73 true rfl rfl (gT g23)) rfl (q_eql rfl rfl rfl) ?_
          refine SOps.q rfl (.plain rfl) rfl (q_pick_t rfl rfl g23 rfl) ?_
          refine SOps.q rfl (.plain rfl) rfl (q_move rfl rfl) ?_
          refine SOps.q rfl (.guard 19 77 true rfl rfl (gT g24)) rfl (q_move rfl rfl) ?_
          refine SOps.q rfl (.guard 19 77 true rfl rfl (gT g24)) rfl (q_call (access_Users_ok F ([SRole.mk (ByteArray.mk #[97, 108, 108]) ([1, 5]) ByteArray.empty false, SRole.mk (ByteArray.mk #[110, 111]) ([5]) (ByteArray.mk #[83, 49]) true]) (([] : List SGrant)) 5 (ByteArray.mk #[83]) 5 c_25 g26) [] rfl fn21 ⟨⟨_, rfl, .inl ⟨rfl, rfl⟩⟩, ⟨_, rfl, .inr (.inr ⟨_, _, rfl, rfl⟩)⟩, ⟨_, rfl, .inl ⟨rfl, rfl⟩⟩, ⟨_, rfl, .inl ⟨rfl, rfl⟩⟩, ⟨_, rfl, .inl ⟨rfl, rfl⟩⟩, trivial⟩ (.inl rfl)) ?_
          refine SOps.q rfl (.guard 19 77 true rfl rfl (gT g24)) rfl (q_len_vec rfl rfl sl44) ?_
          refine SOps.q rfl (.guard 19 77 true rfl rfl (gT g24)) rfl (q_eql rfl rfl rfl) ?_
          refine SOps.q rfl (.plain rfl) rfl (q_pick_t rfl rfl g24 rfl) ?_
          refine SOps.q rfl (.plain rfl) rfl (q_assign rfl rfl) ?_
          refine SOps.sub (st' := ⟨[(0, .c (.bool (decide (((c_25).length : Int) = 0))))], []⟩) (sub_gen [] rfl rfl ⟨zc rfl rfl, trivial⟩ trivial) ?_
          refine SOps.nil ?_
          refine SCode.ret ?_
          obtain rfl := Option.some.inj h
          exact ⟨⟨[(0, .c (.bool (decide (((c_25).length : Int) = 0))))], []⟩, _, sub_gen [] rfl rfl ⟨zc rfl rfl, trivial⟩ trivial, resA1 (v := .c (.bool (decide (((c_25).length : Int) = 0)))) rfl rfl, rfl⟩
        refine SCode.region (show SOps _ _ _ [0, 1, 2, 3, 4, 5, 6, 7, 8, 9, 10, 11, 12, 13, 14, 15, 16, 17, 18, 19, 20, 21, 22, 23, 24, 25] _ _ from ?_)
        refine SOps.q rfl (.plain rfl) rfl (q_move rfl rfl) ?_
        refine SOps.q rfl (.plain rfl) rfl (q_eql rfl rfl rfl) ?_
        refine SOps.q rfl (.plain rfl) rfl (q_move rfl rfl) ?_
        refine SOps.q rfl (.guard 2 60 true rfl rfl (gT g20)) rfl (q_move rfl rfl) ?_
        refine SOps.q rfl (.guard 2 60 true rfl rfl (gT g20)) rfl (q_len_vec rfl rfl sl23) ?_
        refine SOps.q rfl (.guard 2 60 true rfl rfl (gT g20)) rfl (q_eql rfl rfl rfl) ?_
        refine SOps.q rfl (.plain rfl) rfl (q_pick_t rfl rfl g20 rfl) ?_
        refine SOps.q rfl (.plain rfl) rfl (q_move rfl rfl) ?_
        refine SOps.q rfl (.guard 7 65 true rfl rfl (gT g21)) rfl (q_move rfl rfl) ?_
        refine SOps.q rfl (.guard 7 65 true rfl rfl (gT g21)) rfl (q_index_vec rfl rfl rfl sl23 rfl g22.1 g22.2) ?_
        refine SOps.q rfl (.guard 7 65 true rfl rfl (gT g21)) rfl (q_field_eptr rfl rfl fd37_2 rfl) ?_
        refine SOps.q rfl (.guard 7 65 true rfl rfl (gT g21)) rfl (q_load_eptr_all rfl rfl rfl ty35) ?_
        refine SOps.q rfl (.guard 7 65 true rfl rfl (gT g21)) rfl (q_build2 rfl rfl pl35 rfl) ?_
        refine SOps.q rfl (.guard 7 65 true rfl rfl (gT g21)) rfl (q_eqAgg (neg := false) rfl (.inl rfl) rfl rfl eqt35 rfl) ?_
        refine SOps.q rfl (.plain rfl) rfl (q_pick_t rfl rfl g21 rfl) ?_
        refine SOps.q rfl (.plain rfl) rfl (q_move rfl rfl) ?_
        refine SOps.q rfl (.guard 15 73 true rfl rfl (gT g23)) rfl (q_move rfl rfl) ?_
        refine SOps.q rfl (.guard 15 73 true rfl rfl (gT g23)) rfl (q_eql rfl rfl rfl) ?_
        refine SOps.q rfl (.plain rfl) rfl (q_pick_t rfl rfl g23 rfl) ?_
        refine SOps.q rfl (.plain rfl) rfl (q_move rfl rfl) ?_
        refine SOps.skip rfl 19 77 true rfl rfl (.inl (gF g24)) rfl ?_
        refine SOps.skip rfl 19 77 true rfl rfl (.inl (gF g24)) rfl ?_
        refine SOps.skip rfl 19 77 true rfl rfl (.inl (gF g24)) rfl ?_
        refine SOps.skip rfl 19 77 true rfl rfl (.inl (gF g24)) rfl ?_
        refine SOps.q rfl (.plain rfl) rfl (q_pick_f rfl rfl g24 rfl) ?_
        refine SOps.q rfl (.plain rfl) rfl (q_assign rfl rfl) ?_
        refine SOps.sub (st' := ⟨[(0, .c (.bool false))], []⟩) (sub_gen [] rfl rfl ⟨zc rfl rfl, trivial⟩ trivial) ?_
        refine SOps.nil ?_
        refine SCode.ret ?_
        obtain rfl := Option.some.inj h
        exact ⟨⟨[(0, .c (.bool false))], []⟩, _, sub_gen [] rfl rfl ⟨zc rfl rfl, trivial⟩ trivial, resA1 (v := .c (.bool false)) rfl rfl, rfl⟩
      refine SCode.region (show SOps _ _ _ [0, 1, 2, 3, 4, 5, 6, 7, 8, 9, 10, 11, 12, 13, 14, 15, 16, 17, 18, 19, 20, 21, 22, 23, 24, 25] _ _ from ?_)
      refine SOps.q rfl (.plain rfl) rfl (q_move rfl rfl) ?_
      refine SOps.q rfl (.plain rfl) rfl (q_eql rfl rfl rfl) ?_
      refine SOps.q rfl (.plain rfl) rfl (q_move rfl rfl) ?_
      refine SOps.q rfl (.guard 2 60 true rfl rfl (gT g20)) rfl (q_move rfl rfl) ?_
      refine SOps.q rfl (.guard 2 60 true rfl rfl (gT g20)) rfl (q_len_vec rfl rfl sl23) ?_
      refine SOps.q rfl (.guard 2 60 true rfl rfl (gT g20)) rfl (q_eql rfl rfl rfl) ?_
      refine SOps.q rfl (.plain rfl) rfl (q_pick_t rfl rfl g20 rfl) ?_
      refine SOps.q rfl (.plain rfl) rfl (q_move rfl rfl) ?_
      refine SOps.q rfl (.guard 7 65 true rfl rfl (gT g21)) rfl (q_move rfl rfl) ?_
      refine SOps.q rfl (.guard 7 65 true rfl rfl (gT g21)) rfl (q_index_vec rfl rfl rfl sl23 rfl g22.1 g22.2) ?_
      refine SOps.q rfl (.guard 7 65 true rfl rfl (gT g21)) rfl (q_field_eptr rfl rfl fd37_2 rfl) ?_
      refine SOps.q rfl (.guard 7 65 true rfl rfl (gT g21)) rfl (q_load_eptr_all rfl rfl rfl ty35) ?_
      refine SOps.q rfl (.guard 7 65 true rfl rfl (gT g21)) rfl (q_build2 rfl rfl pl35 rfl) ?_
      refine SOps.q rfl (.guard 7 65 true rfl rfl (gT g21)) rfl (q_eqAgg (neg := false) rfl (.inl rfl) rfl rfl eqt35 rfl) ?_
      refine SOps.q rfl (.plain rfl) rfl (q_pick_t rfl rfl g21 rfl) ?_
      refine SOps.q rfl (.plain rfl) rfl (q_move rfl rfl) ?_
      refine SOps.skip rfl 15 73 true rfl rfl (.inl (gF g23)) rfl ?_
      refine SOps.skip rfl 15 73 true rfl rfl (.inl (gF g23)) rfl ?_
      refine SOps.q rfl (.plain rfl) rfl (q_pick_f rfl rfl g23 rfl) ?_
      refine SOps.q rfl (.plain rfl) rfl (q_move rfl rfl) ?_
      refine SOps.skip rfl 19 77 true rfl rfl (.inl rfl) rfl ?_
      refine SOps.skip rfl 19 77 true rfl rfl (.inl rfl) rfl ?_
      refine SOps.skip rfl 19 77 true rfl rfl (.inl rfl) rfl ?_
      refine SOps.skip rfl 19 77 true rfl rfl (.inl rfl) rfl ?_
      refine SOps.q rfl (.plain rfl) rfl (q_pick_f rfl rfl rfl rfl) ?_
      refine SOps.q rfl (.plain rfl) rfl (q_assign rfl rfl) ?_
      refine SOps.sub (st' := ⟨[(0, .c (.bool false))], []⟩) (sub_gen [] rfl rfl ⟨zc rfl rfl, trivial⟩ trivial) ?_
      refine SOps.nil ?_
      refine SCode.ret ?_
      obtain rfl := Option.some.inj h
      exact ⟨⟨[(0, .c (.bool false))], []⟩, _, sub_gen [] rfl rfl ⟨zc rfl rfl, trivial⟩ trivial, resA1 (v := .c (.bool false)) rfl rfl, rfl⟩
    refine SCode.region (show SOps _ _ _ [0, 1, 2, 3, 4, 5, 6, 7, 8, 9, 10, 11, 12, 13, 14, 15, 16, 17, 18, 19, 20, 21, 22, 23, 24, 25] _ _ from ?_)
    refine SOps.q rfl (.plain rfl) rfl (q_move rfl rfl) ?_
    refine SOps.q rfl (.plain rfl) rfl (q_eql rfl rfl rfl) ?_
    refine SOps.q rfl (.plain rfl) rfl (q_move rfl rfl) ?_
    refine SOps.q rfl (.guard 2 60 true rfl rfl (gT g20)) rfl (q_move rfl rfl) ?_
    refine SOps.q rfl (.guard 2 60 true rfl rfl (gT g20)) rfl (q_len_vec rfl rfl sl23) ?_
    refine SOps.q rfl (.guard 2 60 true rfl rfl (gT g20)) rfl (q_eql rfl rfl rfl) ?_
    refine SOps.q rfl (.plain rfl) rfl (q_pick_t rfl rfl g20 rfl) ?_
    refine SOps.q rfl (.plain rfl) rfl (q_move rfl rfl) ?_
    refine SOps.skip rfl 7 65 true rfl rfl (.inl (gF g21)) rfl ?_
    refine SOps.skip rfl 7 65 true rfl rfl (.inl (gF g21)) rfl ?_
    refine SOps.skip rfl 7 65 true rfl rfl (.inl (gF g21)) rfl ?_
    refine SOps.skip rfl 7 65 true rfl rfl (.inl (gF g21)) rfl ?_
    refine SOps.skip rfl 7 65 true rfl rfl (.inl (gF g21)) rfl ?_
    refine SOps.skip rfl 7 65 true rfl rfl (.inl (gF g21)) rfl ?_
    refine SOps.q rfl (.plain rfl) rfl (q_pick_f rfl rfl g21 rfl) ?_
    refine SOps.q rfl (.plain rfl) rfl (q_move rfl rfl) ?_
    refine SOps.skip rfl 15 73 true rfl rfl (.inl rfl) rfl ?_
    refine SOps.skip rfl 15 73 true rfl rfl (.inl rfl) rfl ?_
    refine SOps.q rfl (.plain rfl) rfl (q_pick_f rfl rfl rfl rfl) ?_
    refine SOps.q rfl (.plain rfl) rfl (q_move rfl rfl) ?_
    refine SOps.skip rfl 19 77 true rfl rfl (.inl rfl) rfl ?_
    refine SOps.skip rfl 19 77 true rfl rfl (.inl rfl) rfl ?_
    refine SOps.skip rfl 19 77 true rfl rfl (.inl rfl) rfl ?_
    refine SOps.skip rfl 19 77 true rfl rfl (.inl rfl) rfl ?_
    refine SOps.q rfl (.plain rfl) rfl (q_pick_f rfl rfl rfl rfl) ?_
    refine SOps.q rfl (.plain rfl) rfl (q_assign rfl rfl) ?_
    refine SOps.sub (st' := ⟨[(0, .c (.bool false))], []⟩) (sub_gen [] rfl rfl ⟨zc rfl rfl, trivial⟩ trivial) ?_
    refine SOps.nil ?_
    refine SCode.ret ?_
    obtain rfl := Option.some.inj h
    exact ⟨⟨[(0, .c (.bool false))], []⟩, _, sub_gen [] rfl rfl ⟨zc rfl rfl, trivial⟩ trivial, resA1 (v := .c (.bool false)) rfl rfl, rfl⟩
  refine SCode.region (show SOps _ _ _ [0, 1, 2, 3, 4, 5, 6, 7, 8, 9, 10, 11, 12, 13, 14, 15, 16, 17, 18, 19, 20, 21, 22, 23, 24, 25] _ _ from ?_)
  refine SOps.q rfl (.plain rfl) rfl (q_move rfl rfl) ?_
  refine SOps.q rfl (.plain rfl) rfl (q_eql rfl rfl rfl) ?_
  refine SOps.q rfl (.plain rfl) rfl (q_move rfl rfl) ?_
  refine SOps.skip rfl 2 60 true rfl rfl (.inl (gF g20)) rfl ?_
  refine SOps.skip rfl 2 60 true rfl rfl (.inl (gF g20)) rfl ?_
  refine SOps.skip rfl 2 60 true rfl rfl (.inl (gF g20)) rfl ?_
  refine SOps.q rfl (.plain rfl) rfl (q_pick_f rfl rfl g20 rfl) ?_
  refine SOps.q rfl (.plain rfl) rfl (q_move rfl rfl) ?_
  refine SOps.skip rfl 7 65 true rfl rfl (.inl rfl) rfl ?_
  refine SOps.skip rfl 7 65 true rfl rfl (.inl rfl) rfl ?_
  refine SOps.skip rfl 7 65 true rfl rfl (.inl rfl) rfl ?_
  refine SOps.skip rfl 7 65 true rfl rfl (.inl rfl) rfl ?_
  refine SOps.skip rfl 7 65 true rfl rfl (.inl rfl) rfl ?_
  refine SOps.skip rfl 7 65 true rfl rfl (.inl rfl) rfl ?_
  refine SOps.q rfl (.plain rfl) rfl (q_pick_f rfl rfl rfl rfl) ?_
  refine SOps.q rfl (.plain rfl) rfl (q_move rfl rfl) ?_
  refine SOps.skip rfl 15 73 true rfl rfl (.inl rfl) rfl ?_
  refine SOps.skip rfl 15 73 true rfl rfl (.inl rfl) rfl ?_
  refine SOps.q rfl (.plain rfl) rfl (q_pick_f rfl rfl rfl rfl) ?_
  refine SOps.q rfl (.plain rfl) rfl (q_move rfl rfl) ?_
  refine SOps.skip rfl 19 77 true rfl rfl (.inl rfl) rfl ?_
  refine SOps.skip rfl 19 77 true rfl rfl (.inl rfl) rfl ?_
  refine SOps.skip rfl 19 77 true rfl rfl (.inl rfl) rfl ?_
  refine SOps.skip rfl 19 77 true rfl rfl (.inl rfl) rfl ?_
  refine SOps.q rfl (.plain rfl) rfl (q_pick_f rfl rfl rfl rfl) ?_
  refine SOps.q rfl (.plain rfl) rfl (q_assign rfl rfl) ?_
  refine SOps.sub (st' := ⟨[(0, .c (.bool false))], []⟩) (sub_gen [] rfl rfl ⟨zc rfl rfl, trivial⟩ trivial) ?_
  refine SOps.nil ?_
  refine SCode.ret ?_
  obtain rfl := Option.some.inj h
  exact ⟨⟨[(0, .c (.bool false))], []⟩, _, sub_gen [] rfl rfl ⟨zc rfl rfl, trivial⟩ trivial, resA1 (v := .c (.bool false)) rfl rfl, rfl⟩
set_option maxRecDepth 100000 in
set_option maxHeartbeats 8000000 in
theorem chargenetlaw39_deny_ok (F : Nat) (a0_roles : List SRole) (a1_name : ByteArray) (r : Bool) (h : chargenetlaw39_deny F a0_roles a1_name = some r) :
    SFun Try.prog 23 [] [.c (.vec a0_roles.length 4 (gL cSRole dSRole a0_roles)), .c (.str a1_name)] (fun x _ => x = .c (.bool r)) := by
  refine SFun.of (n := 24) Try.func23 rfl rfl rfl ?_
  unfold chargenetlaw39_deny at h
  show SCode _ _ _ ⟨[(0, .c (.vec a0_roles.length 4 (gL cSRole dSRole a0_roles))), (1, .c (.str a1_name))], []⟩ _
  refine SCode.seq ?_
  refine SCode.region (show SOps _ _ _ [0] _ _ from ?_)
  refine SOps.q rfl (.plain rfl) rfl (q_assign rfl rfl) ?_
  refine SOps.sub (st' := ⟨[(0, .c (.vec a0_roles.length 4 (gL cSRole dSRole a0_roles))), (1, .c (.str a1_name))], []⟩) (sub_gen [] rfl rfl ⟨zc rfl rfl, zc rfl rfl, trivial⟩ trivial) ?_
  refine SOps.nil ?_
  refine SCode.join (σ := Unit) (S := fun s => ⟨[], []⟩) (g := fun s => chargenetlaw39_deny_p1 = some r) ?_ ?_
  rotate_left
  · refine SCode.seq ?_
    refine SCode.region (show SOps _ _ _ [0, 1, 2] _ _ from ?_)
    refine SOps.q rfl (.plain rfl) rfl (q_move rfl rfl) ?_
    refine SOps.q rfl (.plain rfl) rfl (q_len_vec rfl rfl sl22) ?_
    refine SOps.q rfl (.plain rfl) rfl (q_move rfl rfl) ?_
    refine SOps.sub (st' := ⟨[(0, .c (.vec a0_roles.length 4 (gL cSRole dSRole a0_roles))), (1, .c (.str a1_name)), (7, .c (.int .i64 (((a0_roles).length : Int)))), (8, .c (.int .i64 0))], []⟩) (sub_gen [] rfl rfl ⟨zc rfl rfl, zc rfl rfl, zc rfl rfl, zc rfl rfl, trivial⟩ trivial) ?_
    refine SOps.nil ?_
    refine SCode.block ?_
    refine SCode.sub (st' := ⟨[(0, .c (.vec a0_roles.length 4 (gL cSRole dSRole a0_roles))), (1, .c (.str a1_name)), (7, .c (.int .i64 (((a0_roles).length : Int)))), (8, .c (.int .i64 0))], []⟩) (sub_gen [] rfl rfl ⟨zc rfl rfl, zc rfl rfl, zc rfl rfl, zc rfl rfl, trivial⟩ trivial) ?_
    refine (SCode.loop (σ := Nat × Int) (S := fun s => ⟨[(0, .c (.vec a0_roles.length 4 (gL cSRole dSRole a0_roles))), (1, .c (.str a1_name)), (7, .c (.int .i64 (((a0_roles).length : Int)))), (8, .c (.int .i64 s.2))], []⟩) (g := fun s => chargenetlaw39_deny_l11 a0_roles a1_name s.1 s.2 = some r) (μ := fun s => s.1) (F, 0) h ?_)
    rintro ⟨n_11, t8_6⟩ h
    replace h : chargenetlaw39_deny_l11 a0_roles a1_name n_11 t8_6 = some r := h
    show SCode _ _ _ ⟨[(0, .c (.vec a0_roles.length 4 (gL cSRole dSRole a0_roles))), (1, .c (.str a1_name)), (7, .c (.int .i64 (((a0_roles).length : Int)))), (8, .c (.int .i64 t8_6))], []⟩ _
    cases n_11 with
    | zero => cases h
    | succ n_11 =>
      replace h : chargenetlaw39_deny_b11 a0_roles a1_name (fun t8_6 => chargenetlaw39_deny_l11 a0_roles a1_name n_11 t8_6) t8_6 = some r := h
      unfold chargenetlaw39_deny_b11 at h
      refine SCode.seq ?_
      refine SCode.region (show SOps _ _ _ [0] _ _ from ?_)
      refine SOps.q rfl (.plain rfl) rfl (q_lss rfl rfl rfl) ?_
      refine SOps.sub (st' := ⟨[(0, .c (.vec a0_roles.length 4 (gL cSRole dSRole a0_roles))), (1, .c (.str a1_name)), (7, .c (.int .i64 (((a0_roles).length : Int)))), (8, .c (.int .i64 t8_6)), (9, .c (.bool (decide (t8_6 < ((a0_roles).length : Int)))))], []⟩) (sub_gen [] rfl rfl ⟨zc rfl rfl, zc rfl rfl, zc rfl rfl, zc rfl rfl, zc rfl rfl, trivial⟩ trivial) ?_
      refine SOps.nil ?_
      refine SCode.seq ?_
      rcases cond_out h with ⟨g12, h⟩ | ⟨g12, h⟩
      · refine SCode.cond_t rfl g12 ?_
        refine SCode.skip ?_
        refine SCode.seq ?_
        refine SCode.block ?_
        refine SCode.seq ?_
        refine SCode.region (show SOps _ _ _ [0, 1] _ _ from ?_)
        refine SOps.q rfl (.plain rfl) rfl (q_move rfl rfl) ?_
        refine SOps.q rfl (.plain rfl) rfl (q_assign rfl rfl) ?_
        refine SOps.sub (st' := ⟨[(0, .c (.vec a0_roles.length 4 (gL cSRole dSRole a0_roles))), (1, .c (.str a1_name)), (5, .c (.int .i64 t8_6)), (7, .c (.int .i64 (((a0_roles).length : Int)))), (8, .c (.int .i64 t8_6))], []⟩) (sub_gen [] rfl rfl ⟨zc rfl rfl, zc rfl rfl, zc rfl rfl, zc rfl rfl, zc rfl rfl, trivial⟩ trivial) ?_
        refine SOps.nil ?_
        refine SCode.seq ?_
        obtain ⟨g13, h⟩ := guard_out h
        refine SCode.region (show SOps _ _ _ [0, 1, 2, 3, 4, 5, 6] _ _ from ?_)
        refine SOps.q rfl (.plain rfl) rfl (q_move rfl rfl) ?_
        refine SOps.q rfl (.plain rfl) rfl (q_move rfl rfl) ?_
        refine SOps.q rfl (.plain rfl) rfl (q_index_vec rfl rfl rfl sl22 rfl g13.1 g13.2) ?_
        refine SOps.q rfl (.plain rfl) rfl (q_field_eptr rfl rfl fd51_0 rfl) ?_
        refine SOps.q rfl (.plain rfl) rfl (q_load_eptr rfl rfl ty9) ?_
        refine SOps.q rfl (.plain rfl) rfl (q_move rfl rfl) ?_
        refine SOps.q rfl (.plain rfl) rfl (q_eqlS rfl rfl rfl) ?_
        refine SOps.sub (st' := ⟨[(0, .c (.vec a0_roles.length 4 (gL cSRole dSRole a0_roles))), (1, .c (.str a1_name)), (5, .c (.int .i64 t8_6)), (7, .c (.int .i64 (((a0_roles).length : Int)))), (8, .c (.int .i64 t8_6)), (17, .c (.bool (sEq ((a0_roles.getD t8_6.toNat dSRole).Name) a1_name)))], []⟩) (sub_gen [] rfl rfl ⟨zc rfl rfl, zc rfl rfl, zc rfl rfl, zc rfl rfl, zc rfl rfl, zc rfl rfl, trivial⟩ trivial) ?_
        refine SOps.nil ?_
        rcases cond_out h with ⟨g14, h⟩ | ⟨g14, h⟩
        · refine SCode.cond_t rfl g14 ?_
          refine SCode.seq ?_
          obtain ⟨g15, h⟩ := guard_out h
          refine SCode.region (show SOps _ _ _ [0, 1, 2, 3, 4, 5] _ _ from ?_)
          refine SOps.q rfl (.plain rfl) rfl (q_move rfl rfl) ?_
          refine SOps.q rfl (.plain rfl) rfl (q_move rfl rfl) ?_
          refine SOps.q rfl (.plain rfl) rfl (q_index_vec rfl rfl rfl sl22 rfl g15.1 g15.2) ?_
          refine SOps.q rfl (.plain rfl) rfl (q_field_eptr rfl rfl fd51_3 rfl) ?_
          refine SOps.q rfl (.plain rfl) rfl (q_load_eptr rfl rfl ty4) ?_
          refine SOps.q rfl (.plain rfl) rfl (q_assign rfl rfl) ?_
          refine SOps.sub (st' := ⟨[(4, .c (.bool ((a0_roles.getD t8_6.toNat dSRole).Deny)))], []⟩) (sub_gen [] rfl rfl ⟨zc rfl rfl, trivial⟩ trivial) ?_
          refine SOps.nil ?_
          refine SCode.ret ?_
          obtain rfl := Option.some.inj h
          exact ⟨⟨[(4, .c (.bool ((a0_roles.getD t8_6.toNat dSRole).Deny)))], []⟩, _, sub_gen [] rfl rfl ⟨zc rfl rfl, trivial⟩ trivial, resA1 (v := .c (.bool ((a0_roles.getD t8_6.toNat dSRole).Deny))) rfl rfl, rfl⟩
        refine SCode.cond_f rfl g14 ?_
        refine SCode.skip ?_
        refine SCode.region (show SOps _ _ _ [0, 1] _ _ from ?_)
        refine SOps.q rfl (.plain rfl) rfl (q_add rfl rfl rfl) ?_
        refine SOps.q rfl (.plain rfl) rfl (q_move rfl rfl) ?_
        refine SOps.sub (st' := ⟨[(0, .c (.vec a0_roles.length 4 (gL cSRole dSRole a0_roles))), (1, .c (.str a1_name)), (7, .c (.int .i64 (((a0_roles).length : Int)))), (8, .c (.int .i64 (IntKind.wrap .i64 (t8_6 + 1))))], []⟩) (sub_gen [] rfl rfl ⟨zc rfl rfl, zc rfl rfl, zc rfl rfl, zc rfl rfl, trivial⟩ trivial) ?_
        refine SOps.nil ?_
        exact ⟨(n_11, IntKind.wrap .i64 (t8_6 + 1)), h, Nat.lt_succ_self n_11, sub_gen [] rfl rfl ⟨zc rfl rfl, zc rfl rfl, zc rfl rfl, zc rfl rfl, trivial⟩ trivial⟩
      refine SCode.cond_f rfl g12 ?_
      refine SCode.exit ?_
      exact ⟨(), h, sub_gen [] rfl rfl trivial trivial⟩
  rintro ⟨⟩ h
  show SCode _ _ _ ⟨[], []⟩ _
  replace h : chargenetlaw39_deny_p1 = some r := h
  unfold chargenetlaw39_deny_p1 at h
  refine SCode.seq ?_
  refine SCode.region (show SOps _ _ _ [0] _ _ from ?_)
  refine SOps.q rfl (.plain rfl) rfl (q_assign rfl rfl) ?_
  refine SOps.sub (st' := ⟨[(4, .c (.bool false))], []⟩) (sub_gen [] rfl rfl ⟨zc rfl rfl, trivial⟩ trivial) ?_
  refine SOps.nil ?_
  refine SCode.ret ?_
  obtain rfl := Option.some.inj h
  exact ⟨⟨[(4, .c (.bool false))], []⟩, _, sub_gen [] rfl rfl ⟨zc rfl rfl, trivial⟩ trivial, resA1 (v := .c (.bool false)) rfl rfl, rfl⟩
set_option maxRecDepth 100000 in
set_option maxHeartbeats 8000000 in
theorem chargenetlaw39_AccessDenies_ok (F : Nat) (a0_x : SCase) (a1_g : SGrant) (a2_q : SAsk) (r : Bool) (h : chargenetlaw39_AccessDenies F a0_x a1_g a2_q = some r) :
    SFun Try.prog 8 [] [.a [.vec a0_x.Roles.length 4 (gL cSRole dSRole a0_x.Roles), .vec a0_x.Grants.length 4 (gL cSGrant dSGrant a0_x.Grants)], .a [.str a1_g.User, .str a1_g.Role, .int .i64 a1_g.Span_From, .int .i64 a1_g.Span_To], .a [.str a2_q.User, .int .i64 a2_q.Action, .str a2_q.Object, .int .i64 a2_q.Now]] (fun x _ => x = .c (.bool r)) := by
  refine SFun.of (n := 73) Try.func8 rfl rfl rfl ?_
  unfold chargenetlaw39_AccessDenies at h
  show SCode _ _ _ ⟨[(0, .a [.vec a0_x.Roles.length 4 (gL cSRole dSRole a0_x.Roles), .vec a0_x.Grants.length 4 (gL cSGrant dSGrant a0_x.Grants)]), (1, .a [.str a1_g.User, .str a1_g.Role, .int .i64 a1_g.Span_From, .int .i64 a1_g.Span_To]), (2, .a [.str a2_q.User, .int .i64 a2_q.Action, .str a2_q.Object, .int .i64 a2_q.Now])], []⟩ _
  refine SCode.seq ?_
  refine SCode.region (show SOps _ _ _ [0, 1, 2, 3] _ _ from ?_)
  refine SOps.e rfl (.plain rfl) (e_box rfl rfl rfl rfl rfl rfl) ?_
  refine SOps.e rfl (.plain rfl) (e_box rfl rfl rfl rfl rfl rfl) ?_
  refine SOps.e rfl (.plain rfl) (e_box rfl rfl rfl rfl rfl rfl) ?_
  refine SOps.q rfl (.plain rfl) rfl (q_assign rfl rfl) ?_
  refine SOps.sub (st' := ⟨[(3, .c (.ptr 0 0)), (4, .c (.ptr 1 0)), (5, .c (.ptr 2 0))], [.box [.vec a0_x.Roles.length 4 (gL cSRole dSRole a0_x.Roles), .vec a0_x.Grants.length 4 (gL cSGrant dSGrant a0_x.Grants)], .box [.str a1_g.User, .str a1_g.Role, .int .i64 a1_g.Span_From, .int .i64 a1_g.Span_To], .box [.str a2_q.User, .int .i64 a2_q.Action, .str a2_q.Object, .int .i64 a2_q.Now]]⟩) (sub_gen [0, 1, 2] rfl rfl ⟨zc rfl rfl, zc rfl rfl, zc rfl rfl, trivial⟩ ⟨⟨_, rfl, ⟨ii rfl rfl, ii rfl rfl, trivial⟩⟩, ⟨_, rfl, ⟨ii rfl rfl, ii rfl rfl, ii rfl rfl, ii rfl rfl, trivial⟩⟩, ⟨_, rfl, ⟨ii rfl rfl, ii rfl rfl, ii rfl rfl, ii rfl rfl, trivial⟩⟩, trivial⟩) ?_
  refine SOps.nil ?_
  refine SCode.seq ?_
  refine SCode.seq ?_
  obtain ⟨c_1, g2, h⟩ := bind_out h
  try dsimp only at h
  refine SCode.region (show SOps _ _ _ [0, 1, 2] _ _ from ?_)
  refine SOps.q rfl (.plain rfl) rfl (q_load_ptr_all rfl rfl rfl rfl rfl ty25) ?_
  refine SOps.q rfl (.plain rfl) rfl (q_call (chargenetlaw39_small_ok F a0_x c_1 g2) [] rfl fn10 ⟨⟨rfl, rfl⟩, trivial⟩ (.inl rfl)) ?_
  refine SOps.q rfl (.plain rfl) rfl (q_not rfl rfl) ?_
  refine SOps.sub (st' := ⟨[(3, .c (.ptr 0 0)), (4, .c (.ptr 1 0)), (5, .c (.ptr 2 0)), (13, .c (.bool ((!c_1))))], [.box [.vec a0_x.Roles.length 4 (gL cSRole dSRole a0_x.Roles), .vec a0_x.Grants.length 4 (gL cSGrant dSGrant a0_x.Grants)], .box [.str a1_g.User, .str a1_g.Role, .int .i64 a1_g.Span_From, .int .i64 a1_g.Span_To], .box [.str a2_q.User, .int .i64 a2_q.Action, .str a2_q.Object, .int .i64 a2_q.Now]]⟩) (sub_gen [0, 1, 2] rfl rfl ⟨zc rfl rfl, zc rfl rfl, zc rfl rfl, zc rfl rfl, trivial⟩ ⟨⟨_, rfl, ⟨ii rfl rfl, ii rfl rfl, trivial⟩⟩, ⟨_, rfl, ⟨ii rfl rfl, ii rfl rfl, ii rfl rfl, ii rfl rfl, trivial⟩⟩, ⟨_, rfl, ⟨ii rfl rfl, ii rfl rfl, ii rfl rfl, ii rfl rfl, trivial⟩⟩, trivial⟩) ?_
  refine SOps.nil ?_
  rcases cond_out h with ⟨g3, h⟩ | ⟨g3, h⟩
  · refine SCode.cond_t rfl g3 ?_
    refine SCode.seq ?_
    obtain ⟨c_4, g5, h⟩ := bind_out h
    try dsimp only at h
    refine SCode.region (show SOps _ _ _ [0, 1] _ _ from ?_)
    refine SOps.q rfl (.plain rfl) rfl (q_call (chargenetlaw39_exampleHolds_ok F  c_4 g5) [] rfl fn11 trivial (.inl rfl)) ?_
    refine SOps.q rfl (.plain rfl) rfl (q_assign rfl rfl) ?_
    refine SOps.sub (st' := ⟨[(6, .c (.bool c_4))], []⟩) (sub_gen [] rfl rfl ⟨zc rfl rfl, trivial⟩ trivial) ?_
    refine SOps.nil ?_
    refine SCode.ret ?_
    obtain rfl := Option.some.inj h
    exact ⟨⟨[(6, .c (.bool c_4))], []⟩, _, sub_gen [] rfl rfl ⟨zc rfl rfl, trivial⟩ trivial, resA1 (v := .c (.bool c_4)) rfl rfl, rfl⟩
  refine SCode.cond_f rfl g3 ?_
  refine SCode.skip ?_
  refine SCode.seq ?_
  obtain ⟨c_6, g7, h⟩ := bind_out h
  try dsimp only at h
  refine SCode.region (show SOps _ _ _ [0, 1, 2, 3, 4, 5, 6, 7, 8, 9, 10] _ _ from ?_)
  refine SOps.q rfl (.plain rfl) rfl (q_field_ptr rfl rfl fd25_0) ?_
  refine SOps.q rfl (.plain rfl) rfl (q_load_ptr rfl rfl rfl rfl ty22) ?_
  refine SOps.q rfl (.plain rfl) rfl (q_field_ptr rfl rfl fd25_1) ?_
  refine SOps.q rfl (.plain rfl) rfl (q_load_ptr rfl rfl rfl rfl ty23) ?_
  refine SOps.q rfl (.plain rfl) rfl (q_load_ptr_all rfl rfl rfl rfl rfl ty37) ?_
  refine SOps.q rfl (.plain rfl) rfl (q_call (access_Give_ok F a0_x.Roles a0_x.Grants a1_g c_6 g7) [] rfl fn16 ⟨⟨_, rfl, .inl ⟨rfl, rfl⟩⟩, ⟨_, rfl, .inl ⟨rfl, rfl⟩⟩, ⟨rfl, rfl⟩, trivial⟩ (.inl rfl)) ?_
  refine SOps.q rfl (.plain rfl) rfl (q_move rfl rfl) ?_
  refine SOps.q rfl (.plain rfl) rfl (q_extract rfl rfl rfl) ?_
  refine SOps.q rfl (.plain rfl) rfl (q_extract rfl rfl rfl) ?_
  refine SOps.q rfl (.plain rfl) rfl (q_assign rfl rfl) ?_
  refine SOps.q rfl (.plain rfl) rfl (q_assign rfl rfl) ?_
  refine SOps.sub (st' := ⟨[(3, .c (.ptr 0 0)), (4, .c (.ptr 1 0)), (5, .c (.ptr 2 0)), (7, .c (.vec c_6.1.length 4 (gL cSGrant dSGrant c_6.1))), (8, .c (.int .i64 c_6.2))], [.box [.vec a0_x.Roles.length 4 (gL cSRole dSRole a0_x.Roles), .vec a0_x.Grants.length 4 (gL cSGrant dSGrant a0_x.Grants)], .box [.str a1_g.User, .str a1_g.Role, .int .i64 a1_g.Span_From, .int .i64 a1_g.Span_To], .box [.str a2_q.User, .int .i64 a2_q.Action, .str a2_q.Object, .int .i64 a2_q.Now]]⟩) (sub_gen [0, 1, 2] rfl rfl ⟨zc rfl rfl, zc rfl rfl, zc rfl rfl, zc rfl rfl, zc rfl rfl, trivial⟩ ⟨⟨_, rfl, ⟨ii rfl rfl, ii rfl rfl, trivial⟩⟩, ⟨_, rfl, ⟨ii rfl rfl, ii rfl rfl, ii rfl rfl, ii rfl rfl, trivial⟩⟩, ⟨_, rfl, ⟨ii rfl rfl, ii rfl rfl, ii rfl rfl, ii rfl rfl, trivial⟩⟩, trivial⟩) ?_
  refine SOps.nil ?_
  refine SCode.seq ?_
  refine SCode.seq ?_
  refine SCode.region (show SOps _ _ _ [0, 1] _ _ from ?_)
  refine SOps.q rfl (.plain rfl) rfl (q_move rfl rfl) ?_
  refine SOps.q rfl (.plain rfl) rfl (q_neq rfl rfl rfl) ?_
  refine SOps.sub (st' := ⟨[(3, .c (.ptr 0 0)), (4, .c (.ptr 1 0)), (5, .c (.ptr 2 0)), (7, .c (.vec c_6.1.length 4 (gL cSGrant dSGrant c_6.1))), (25, .c (.bool ((!decide (c_6.2 = 0)))))], [.box [.vec a0_x.Roles.length 4 (gL cSRole dSRole a0_x.Roles), .vec a0_x.Grants.length 4 (gL cSGrant dSGrant a0_x.Grants)], .box [.str a1_g.User, .str a1_g.Role, .int .i64 a1_g.Span_From, .int .i64 a1_g.Span_To], .box [.str a2_q.User, .int .i64 a2_q.Action, .str a2_q.Object, .int .i64 a2_q.Now]]⟩) (sub_gen [0, 1, 2] rfl rfl ⟨zc rfl rfl, zc rfl rfl, zc rfl rfl, zc rfl rfl, zc rfl rfl, trivial⟩ ⟨⟨_, rfl, ⟨ii rfl rfl, ii rfl rfl, trivial⟩⟩, ⟨_, rfl, ⟨ii rfl rfl, ii rfl rfl, ii rfl rfl, ii rfl rfl, trivial⟩⟩, ⟨_, rfl, ⟨ii rfl rfl, ii rfl rfl, ii rfl rfl, ii rfl rfl, trivial⟩⟩, trivial⟩) ?_
  refine SOps.nil ?_
  rcases cond_out h with ⟨g8, h⟩ | ⟨g8, h⟩
  · refine SCode.cond_t rfl g8 ?_
    refine SCode.seq ?_
    obtain ⟨c_9, g10, h⟩ := bind_out h
    try dsimp only at h
    refine SCode.region (show SOps _ _ _ [0, 1] _ _ from ?_)
    refine SOps.q rfl (.plain rfl) rfl (q_call (chargenetlaw39_exampleHolds_ok F  c_9 g10) [] rfl fn11 trivial (.inl rfl)) ?_
    refine SOps.q rfl (.plain rfl) rfl (q_assign rfl rfl) ?_
    refine SOps.sub (st' := ⟨[(6, .c (.bool c_9))], []⟩) (sub_gen [] rfl rfl ⟨zc rfl rfl, trivial⟩ trivial) ?_
    refine SOps.nil ?_
    refine SCode.ret ?_
    obtain rfl := Option.some.inj h
    exact ⟨⟨[(6, .c (.bool c_9))], []⟩, _, sub_gen [] rfl rfl ⟨zc rfl rfl, trivial⟩ trivial, resA1 (v := .c (.bool c_9)) rfl rfl, rfl⟩
  refine SCode.cond_f rfl g8 ?_
  refine SCode.skip ?_
  refine SCode.seq ?_
  obtain ⟨c_11, g12, h⟩ := bind_out h
  try dsimp only at h
  refine SCode.region (show SOps _ _ _ [0, 1, 2, 3, 4, 5, 6, 7, 8, 9, 10, 11, 12, 13] _ _ from ?_)
  refine SOps.q rfl (.plain rfl) rfl (q_field_ptr rfl rfl fd25_0) ?_
  refine SOps.q rfl (.plain rfl) rfl (q_load_ptr rfl rfl rfl rfl ty22) ?_
  refine SOps.q rfl (.plain rfl) rfl (q_field_ptr rfl rfl fd25_1) ?_
  refine SOps.q rfl (.plain rfl) rfl (q_load_ptr rfl rfl rfl rfl ty23) ?_
  refine SOps.q rfl (.plain rfl) rfl (q_field_ptr rfl rfl fd31_0) ?_
  refine SOps.q rfl (.plain rfl) rfl (q_load_ptr rfl rfl rfl rfl ty9) ?_
  refine SOps.q rfl (.plain rfl) rfl (q_field_ptr rfl rfl fd31_1) ?_
  refine SOps.q rfl (.plain rfl) rfl (q_load_ptr rfl rfl rfl rfl ty3) ?_
  refine SOps.q rfl (.plain rfl) rfl (q_field_ptr rfl rfl fd31_2) ?_
  refine SOps.q rfl (.plain rfl) rfl (q_load_ptr rfl rfl rfl rfl ty9) ?_
  refine SOps.q rfl (.plain rfl) rfl (q_field_ptr rfl rfl fd31_3) ?_
  refine SOps.q rfl (.plain rfl) rfl (q_load_ptr rfl rfl rfl rfl ty3) ?_
  refine SOps.q rfl (.plain rfl) rfl (q_call (access_Allowed_ok F a0_x.Roles a0_x.Grants a2_q.User a2_q.Action a2_q.Object a2_q.Now c_11 g12) [] rfl fn14 ⟨⟨_, rfl, .inl ⟨rfl, rfl⟩⟩, ⟨_, rfl, .inl ⟨rfl, rfl⟩⟩, ⟨_, rfl, .inl ⟨rfl, rfl⟩⟩, ⟨_, rfl, .inl ⟨rfl, rfl⟩⟩, ⟨_, rfl, .inl ⟨rfl, rfl⟩⟩, ⟨_, rfl, .inl ⟨rfl, rfl⟩⟩, trivial⟩ (.inl rfl)) ?_
  refine SOps.q rfl (.plain rfl) rfl (q_assign rfl rfl) ?_
  refine SOps.sub (st' := ⟨[(3, .c (.ptr 0 0)), (4, .c (.ptr 1 0)), (5, .c (.ptr 2 0)), (7, .c (.vec c_6.1.length 4 (gL cSGrant dSGrant c_6.1))), (9, .c (.bool c_11))], [.box [.vec a0_x.Roles.length 4 (gL cSRole dSRole a0_x.Roles), .vec a0_x.Grants.length 4 (gL cSGrant dSGrant a0_x.Grants)], .box [.str a1_g.User, .str a1_g.Role, .int .i64 a1_g.Span_From, .int .i64 a1_g.Span_To], .box [.str a2_q.User, .int .i64 a2_q.Action, .str a2_q.Object, .int .i64 a2_q.Now]]⟩) (sub_gen [0, 1, 2] rfl rfl ⟨zc rfl rfl, zc rfl rfl, zc rfl rfl, zc rfl rfl, zc rfl rfl, trivial⟩ ⟨⟨_, rfl, ⟨ii rfl rfl, ii rfl rfl, trivial⟩⟩, ⟨_, rfl, ⟨ii rfl rfl, ii rfl rfl, ii rfl rfl, ii rfl rfl, trivial⟩⟩, ⟨_, rfl, ⟨ii rfl rfl, ii rfl rfl, ii rfl rfl, ii rfl rfl, trivial⟩⟩, trivial⟩) ?_
  refine SOps.nil ?_
  refine SCode.seq ?_
  obtain ⟨c_13, g14, h⟩ := bind_out h
  try dsimp only at h
  refine SCode.region (show SOps _ _ _ [0, 1, 2, 3, 4, 5, 6, 7, 8, 9, 10, 11, 12] _ _ from ?_)
  refine SOps.q rfl (.plain rfl) rfl (q_field_ptr rfl rfl fd25_0) ?_
  refine SOps.q rfl (.plain rfl) rfl (q_load_ptr rfl rfl rfl rfl ty22) ?_
  refine SOps.q rfl (.plain rfl) rfl (q_move rfl rfl) ?_
  refine SOps.q rfl (.plain rfl) rfl (q_field_ptr rfl rfl fd31_0) ?_
  refine SOps.q rfl (.plain rfl) rfl (q_load_ptr rfl rfl rfl rfl ty9) ?_
  refine SOps.q rfl (.plain rfl) rfl (q_field_ptr rfl rfl fd31_1) ?_
  refine SOps.q rfl (.plain rfl) rfl (q_load_ptr rfl rfl rfl rfl ty3) ?_
  refine SOps.q rfl (.plain rfl) rfl (q_field_ptr rfl rfl fd31_2) ?_
  refine SOps.q rfl (.plain rfl) rfl (q_load_ptr rfl rfl rfl rfl ty9) ?_
  refine SOps.q rfl (.plain rfl) rfl (q_field_ptr rfl rfl fd31_3) ?_
  refine SOps.q rfl (.plain rfl) rfl (q_load_ptr rfl rfl rfl rfl ty3) ?_
  refine SOps.q rfl (.plain rfl) rfl (q_call (access_Allowed_ok F a0_x.Roles c_6.1 a2_q.User a2_q.Action a2_q.Object a2_q.Now c_13 g14) [] rfl fn14 ⟨⟨_, rfl, .inl ⟨rfl, rfl⟩⟩, ⟨_, rfl, .inl ⟨rfl, rfl⟩⟩, ⟨_, rfl, .inl ⟨rfl, rfl⟩⟩, ⟨_, rfl, .inl ⟨rfl, rfl⟩⟩, ⟨_, rfl, .inl ⟨rfl, rfl⟩⟩, ⟨_, rfl, .inl ⟨rfl, rfl⟩⟩, trivial⟩ (.inl rfl)) ?_
  refine SOps.q rfl (.plain rfl) rfl (q_assign rfl rfl) ?_
  refine SOps.sub (st' := ⟨[(3, .c (.ptr 0 0)), (4, .c (.ptr 1 0)), (9, .c (.bool c_11)), (10, .c (.bool c_13))], [.box [.vec a0_x.Roles.length 4 (gL cSRole dSRole a0_x.Roles), .vec a0_x.Grants.length 4 (gL cSGrant dSGrant a0_x.Grants)], .box [.str a1_g.User, .str a1_g.Role, .int .i64 a1_g.Span_From, .int .i64 a1_g.Span_To]]⟩) (sub_gen [0, 1] rfl rfl ⟨zc rfl rfl, zc rfl rfl, zc rfl rfl, zc rfl rfl, trivial⟩ ⟨⟨_, rfl, ⟨ii rfl rfl, ii rfl rfl, trivial⟩⟩, ⟨_, rfl, ⟨ii rfl rfl, ii rfl rfl, ii rfl rfl, ii rfl rfl, trivial⟩⟩, trivial⟩) ?_
  refine SOps.nil ?_
  refine SCode.seq ?_
  refine SCode.seq ?_
  obtain ⟨c_15, g16, h⟩ := bind_out h
  try dsimp only at h
  refine SCode.region (show SOps _ _ _ [0, 1, 2, 3, 4] _ _ from ?_)
  refine SOps.q rfl (.plain rfl) rfl (q_field_ptr rfl rfl fd25_0) ?_
  refine SOps.q rfl (.plain rfl) rfl (q_load_ptr rfl rfl rfl rfl ty22) ?_
  refine SOps.q rfl (.plain rfl) rfl (q_field_ptr rfl rfl fd37_1) ?_
  refine SOps.q rfl (.plain rfl) rfl (q_load_ptr rfl rfl rfl rfl ty9) ?_
  refine SOps.q rfl (.plain rfl) rfl (q_call (chargenetlaw39_deny_ok F a0_x.Roles a1_g.Role c_15 g16) [] rfl fn23 ⟨⟨_, rfl, .inl ⟨rfl, rfl⟩⟩, ⟨_, rfl, .inl ⟨rfl, rfl⟩⟩, trivial⟩ (.inl rfl)) ?_
  refine SOps.sub (st' := ⟨[(9, .c (.bool c_11)), (10, .c (.bool c_13)), (56, .c (.bool c_15))], []⟩) (sub_gen [] rfl rfl ⟨zc rfl rfl, zc rfl rfl, zc rfl rfl, trivial⟩ trivial) ?_
  refine SOps.nil ?_
  rcases cond_out h with ⟨g17, h⟩ | ⟨g17, h⟩
  · refine SCode.cond_t rfl g17 ?_
    refine SCode.seq ?_
    rcases cond_out h with ⟨g18, h⟩ | ⟨g18, h⟩
    · obtain ⟨c_19, g20, h⟩ := bind_out h
      try dsimp only at h
      refine SCode.region (show SOps _ _ _ [0, 1, 2, 3, 4, 5, 6, 7, 8] _ _ from ?_)
      refine SOps.q rfl (.plain rfl) rfl (q_move rfl rfl) ?_
      refine SOps.q rfl (.plain rfl) rfl (q_move rfl rfl) ?_
      refine SOps.skip rfl 1 58 false rfl rfl (.inl (gT g18)) rfl ?_
      refine SOps.skip rfl 1 58 false rfl rfl (.inl (gT g18)) rfl ?_
      refine SOps.q rfl (.plain rfl) rfl (q_pick_t rfl rfl g18 rfl) ?_
      refine SOps.q rfl (.plain rfl) rfl (q_move rfl rfl) ?_
      refine SOps.q rfl (.guard 5 62 true rfl rfl rfl) rfl (q_call (chargenetlaw39_exampleHolds_ok F  c_19 g20) [] rfl fn11 trivial (.inl rfl)) ?_
      refine SOps.q rfl (.plain rfl) rfl (q_pick_t rfl rfl rfl rfl) ?_
      refine SOps.q rfl (.plain rfl) rfl (q_assign rfl rfl) ?_
      refine SOps.sub (st' := ⟨[(6, .c (.bool c_19))], []⟩) (sub_gen [] rfl rfl ⟨zc rfl rfl, trivial⟩ trivial) ?_
      refine SOps.nil ?_
      refine SCode.ret ?_
      obtain rfl := Option.some.inj h
      exact ⟨⟨[(6, .c (.bool c_19))], []⟩, _, sub_gen [] rfl rfl ⟨zc rfl rfl, trivial⟩ trivial, resA1 (v := .c (.bool c_19)) rfl rfl, rfl⟩
    rcases cond_out h with ⟨g21, h⟩ | ⟨g21, h⟩
    · obtain ⟨c_22, g23, h⟩ := bind_out h
      try dsimp only at h
      refine SCode.region (show SOps _ _ _ [0, 1, 2, 3, 4, 5, 6, 7, 8] _ _ from ?_)
      refine SOps.q rfl (.plain rfl) rfl (q_move rfl rfl) ?_
      refine SOps.q rfl (.plain rfl) rfl (q_move rfl rfl) ?_
      refine SOps.q rfl (.guard 1 58 false rfl rfl (gF g18)) rfl (q_move rfl rfl) ?_
      refine SOps.q rfl (.guard 1 58 false rfl rfl (gF g18)) rfl (q_not rfl rfl) ?_
      refine SOps.q rfl (.plain rfl) rfl (q_pick_f rfl rfl g18 rfl) ?_
      refine SOps.q rfl (.plain rfl) rfl (q_move rfl rfl) ?_
      refine SOps.q rfl (.guard 5 62 true rfl rfl (gT g21)) rfl (q_call (chargenetlaw39_exampleHolds_ok F  c_22 g23) [] rfl fn11 trivial (.inl rfl)) ?_
      refine SOps.q rfl (.plain rfl) rfl (q_pick_t rfl rfl g21 rfl) ?_
      refine SOps.q rfl (.plain rfl) rfl (q_assign rfl rfl) ?_
      refine SOps.sub (st' := ⟨[(6, .c (.bool c_22))], []⟩) (sub_gen [] rfl rfl ⟨zc rfl rfl, trivial⟩ trivial) ?_
      refine SOps.nil ?_
      refine SCode.ret ?_
      obtain rfl := Option.some.inj h
      exact ⟨⟨[(6, .c (.bool c_22))], []⟩, _, sub_gen [] rfl rfl ⟨zc rfl rfl, trivial⟩ trivial, resA1 (v := .c (.bool c_22)) rfl rfl, rfl⟩
    refine SCode.region (show SOps _ _ _ [0, 1, 2, 3, 4, 5, 6, 7, 8] _ _ from ?_)
    refine SOps.q rfl (.plain rfl) rfl (q_move rfl rfl) ?_
    refine SOps.q rfl (.plain rfl) rfl (q_move rfl rfl) ?_
    refine SOps.q rfl (.guard 1 58 false rfl rfl (gF g18)) rfl (q_move rfl rfl) ?_
    refine SOps.q rfl (.guard 1 58 false rfl rfl (gF g18)) rfl (q_not rfl rfl) ?_
    refine SOps.q rfl (.plain rfl) rfl (q_pick_f rfl rfl g18 rfl) ?_
    refine SOps.q rfl (.plain rfl) rfl (q_move rfl rfl) ?_
    refine SOps.skip rfl 5 62 true rfl rfl (.inl (gF g21)) rfl ?_
    refine SOps.q rfl (.plain rfl) rfl (q_pick_f rfl rfl g21 rfl) ?_
    refine SOps.q rfl (.plain rfl) rfl (q_assign rfl rfl) ?_
    refine SOps.sub (st' := ⟨[(6, .c (.bool false))], []⟩) (sub_gen [] rfl rfl ⟨zc rfl rfl, trivial⟩ trivial) ?_
    refine SOps.nil ?_
    refine SCode.ret ?_
    obtain rfl := Option.some.inj h
    exact ⟨⟨[(6, .c (.bool false))], []⟩, _, sub_gen [] rfl rfl ⟨zc rfl rfl, trivial⟩ trivial, resA1 (v := .c (.bool false)) rfl rfl, rfl⟩
  refine SCode.cond_f rfl g17 ?_
  refine SCode.skip ?_
  refine SCode.seq ?_
  rcases cond_out h with ⟨g24, h⟩ | ⟨g24, h⟩
  · obtain ⟨c_25, g26, h⟩ := bind_out h
    try dsimp only at h
    refine SCode.region (show SOps _ _ _ [0, 1, 2, 3, 4, 5, 6, 7, 8] _ _ from ?_)
    refine SOps.q rfl (.plain rfl) rfl (q_move rfl rfl) ?_
    refine SOps.q rfl (.plain rfl) rfl (q_not rfl rfl) ?_
    refine SOps.q rfl (.plain rfl) rfl (q_move rfl rfl) ?_
    refine SOps.skip rfl 2 67 false rfl rfl (.inl (gT g24)) rfl ?_
    refine SOps.q rfl (.plain rfl) rfl (q_pick_t rfl rfl g24 rfl) ?_
    refine SOps.q rfl (.plain rfl) rfl (q_move rfl rfl) ?_
    refine SOps.q rfl (.guard 5 70 true rfl rfl rfl) rfl (q_call (chargenetlaw39_exampleHolds_ok F  c_25 g26) [] rfl fn11 trivial (.inl rfl)) ?_
    refine SOps.q rfl (.plain rfl) rfl (q_pick_t rfl rfl rfl rfl) ?_
    refine SOps.q rfl (.plain rfl) rfl (q_assign rfl rfl) ?_
    refine SOps.sub (st' := ⟨[(6, .c (.bool c_25))], []⟩) (sub_gen [] rfl rfl ⟨zc rfl rfl, trivial⟩ trivial) ?_
    refine SOps.nil ?_
    refine SCode.ret ?_
    obtain rfl := Option.some.inj h
    exact ⟨⟨[(6, .c (.bool c_25))], []⟩, _, sub_gen [] rfl rfl ⟨zc rfl rfl, trivial⟩ trivial, resA1 (v := .c (.bool c_25)) rfl rfl, rfl⟩
  rcases cond_out h with ⟨g27, h⟩ | ⟨g27, h⟩
  · obtain ⟨c_28, g29, h⟩ := bind_out h
    try dsimp only at h
    refine SCode.region (show SOps _ _ _ [0, 1, 2, 3, 4, 5, 6, 7, 8] _ _ from ?_)
    refine SOps.q rfl (.plain rfl) rfl (q_move rfl rfl) ?_
    refine SOps.q rfl (.plain rfl) rfl (q_not rfl rfl) ?_
    refine SOps.q rfl (.plain rfl) rfl (q_move rfl rfl) ?_
    refine SOps.q rfl (.guard 2 67 false rfl rfl (gF g24)) rfl (q_move rfl rfl) ?_
    refine SOps.q rfl (.plain rfl) rfl (q_pick_f rfl rfl g24 rfl) ?_
    refine SOps.q rfl (.plain rfl) rfl (q_move rfl rfl) ?_
    refine SOps.q rfl (.guard 5 70 true rfl rfl (gT g27)) rfl (q_call (chargenetlaw39_exampleHolds_ok F  c_28 g29) [] rfl fn11 trivial (.inl rfl)) ?_
    refine SOps.q rfl (.plain rfl) rfl (q_pick_t rfl rfl g27 rfl) ?_
    refine SOps.q rfl (.plain rfl) rfl (q_assign rfl rfl) ?_
    refine SOps.sub (st' := ⟨[(6, .c (.bool c_28))], []⟩) (sub_gen [] rfl rfl ⟨zc rfl rfl, trivial⟩ trivial) ?_
    refine SOps.nil ?_
    refine SCode.ret ?_
    obtain rfl := Option.some.inj h
    exact ⟨⟨[(6, .c (.bool c_28))], []⟩, _, sub_gen [] rfl rfl ⟨zc rfl rfl, trivial⟩ trivial, resA1 (v := .c (.bool c_28)) rfl rfl, rfl⟩
  refine SCode.region (show SOps _ _ _ [0, 1, 2, 3, 4, 5, 6, 7, 8] _ _ from ?_)
  refine SOps.q rfl (.plain rfl) rfl (q_move rfl rfl) ?_
  refine SOps.q rfl (.plain rfl) rfl (q_not rfl rfl) ?_
  refine SOps.q rfl (.plain rfl) rfl (q_move rfl rfl) ?_
  refine SOps.q rfl (.guard 2 67 false rfl rfl (gF g24)) rfl (q_move rfl rfl) ?_
  refine SOps.q rfl (.plain rfl) rfl (q_pick_f rfl rfl g24 rfl) ?_
  refine SOps.q rfl (.plain rfl) rfl (q_move rfl rfl) ?_
  refine SOps.skip rfl 5 70 true rfl rfl (.inl (gF g27)) rfl ?_
  refine SOps.q rfl (.plain rfl) rfl (q_pick_f rfl rfl g27 rfl) ?_
  refine SOps.q rfl (.plain rfl) rfl (q_assign rfl rfl) ?_
  refine SOps.sub (st' := ⟨[(6, .c (.bool false))], []⟩) (sub_gen [] rfl rfl ⟨zc rfl rfl, trivial⟩ trivial) ?_
  refine SOps.nil ?_
  refine SCode.ret ?_
  obtain rfl := Option.some.inj h
  exact ⟨⟨[(6, .c (.bool false))], []⟩, _, sub_gen [] rfl rfl ⟨zc rfl rfl, trivial⟩ trivial, resA1 (v := .c (.bool false)) rfl rfl, rfl⟩
end Go.Proofs.Ytggfgdohbeoabaa.W
