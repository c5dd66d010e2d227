/- Written by a program of ours (wip/eng/gen.py): the functions compute their models. -/
import Derived.Test.YtggfgdohbeoabaaFacts
import Derived.Test.YtggfgdohbeoabaaV7x3
namespace Go.Proofs.Ytggfgdohbeoabaa.W
open Go Go.Proofs Go.Proofs.Ytggfgdohbeoabaa.E Go.Proofs.Ytggfgdohbeoabaa.M
set_option linter.unusedVariables false
set_option maxRecDepth 100000 in
set_option maxHeartbeats 8000000 in
theorem chargenetlaw39_exampleHolds_ok (F : Nat)  (r : Bool) (h : chargenetlaw39_exampleHolds F  = some r) :
    SFun Try.prog 11 [] [] (fun x _ => x = .c (.bool r)) := by
  refine SFun.of (n := 83) Try.func11 rfl rfl rfl ?_
  unfold chargenetlaw39_exampleHolds at h
  show SCode _ _ _ ⟨[], []⟩ _
  refine SCode.seq ?_
  refine SCode.region (show SOps _ _ _ [0] _ _ from ?_)
  refine SOps.q rfl (.plain rfl) rfl (q_assign rfl rfl) ?_
  refine SOps.sub (st' := ⟨[], []⟩) (sub_gen [] rfl rfl trivial trivial) ?_
  refine SOps.nil ?_
  refine SCode.seq ?_
  refine SCode.region (show SOps _ _ _ [0, 1, 2, 3, 4, 5] _ _ from ?_)
  refine SOps.q rfl (.plain rfl) rfl (q_bsliceL (c := (cInt .i64)) (d0 := 0) [1, 5] rfl rfl sl48 z3 rfl rfl rfl rfl rfl rfl rfl) ?_
  refine SOps.q rfl (.plain rfl) rfl (q_build2 rfl rfl pl51 rfl) ?_
  refine SOps.q rfl (.plain rfl) rfl (q_bsliceL (c := (cInt .i64)) (d0 := 0) [5] rfl rfl sl48 z3 rfl rfl rfl rfl rfl rfl rfl) ?_
  refine SOps.q rfl (.plain rfl) rfl (q_build2 rfl rfl pl51 rfl) ?_
  refine SOps.q rfl (.plain rfl) rfl (q_bsliceL (c := cSRole) (d0 := dSRole) [SRole.mk (ByteArray.mk #[97, 108, 108]) ([1, 5]) ByteArray.empty false, SRole.mk (ByteArray.mk #[110, 111]) ([5]) (ByteArray.mk #[83, 49]) true] rfl rfl sl22 z51 rfl rfl rfl rfl rfl rfl rfl) ?_
  refine SOps.q rfl (.plain rfl) rfl (q_assign rfl rfl) ?_
  refine SOps.sub (st' := ⟨[(1, .c (.vec ([SRole.mk (ByteArray.mk #[97, 108, 108]) ([1, 5]) ByteArray.empty false, SRole.mk (ByteArray.mk #[110, 111]) ([5]) (ByteArray.mk #[83, 49]) true]).length 4 (gL cSRole dSRole ([SRole.mk (ByteArray.mk #[97, 108, 108]) ([1, 5]) ByteArray.empty false, SRole.mk (ByteArray.mk #[110, 111]) ([5]) (ByteArray.mk #[83, 49]) true]))))], []⟩) (sub_gen [] rfl rfl ⟨zc rfl rfl, trivial⟩ trivial) ?_
  refine SOps.nil ?_
  refine SCode.seq ?_
  refine SCode.region (show SOps _ _ _ [0, 1, 2, 3, 4, 5, 6, 7] _ _ from ?_)
  refine SOps.q rfl (.plain rfl) rfl (q_build2 rfl rfl pl35 rfl) ?_
  refine SOps.q rfl (.plain rfl) rfl (q_build2 rfl rfl pl37 rfl) ?_
  refine SOps.q rfl (.plain rfl) rfl (q_build2 rfl rfl pl35 rfl) ?_
  refine SOps.q rfl (.plain rfl) rfl (q_build2 rfl rfl pl37 rfl) ?_
  refine SOps.q rfl (.plain rfl) rfl (q_build2 rfl rfl pl35 rfl) ?_
  refine SOps.q rfl (.plain rfl) rfl (q_build2 rfl rfl pl37 rfl) ?_
  refine SOps.q rfl (.plain rfl) rfl (q_bsliceL (c := cSGrant) (d0 := dSGrant) [SGrant.mk (ByteArray.mk #[117]) (ByteArray.mk #[97, 108, 108]) 0 10, SGrant.mk (ByteArray.mk #[117]) (ByteArray.mk #[97, 108, 108]) 10 ((-1)), SGrant.mk (ByteArray.mk #[117]) (ByteArray.mk #[110, 111]) 5 ((-1))] rfl rfl sl23 z37 rfl rfl rfl rfl rfl rfl rfl) ?_
  refine SOps.q rfl (.plain rfl) rfl (q_assign rfl rfl) ?_
  refine SOps.sub (st' := ⟨[(1, .c (.vec ([SRole.mk (ByteArray.mk #[97, 108, 108]) ([1, 5]) ByteArray.empty false, SRole.mk (ByteArray.mk #[110, 111]) ([5]) (ByteArray.mk #[83, 49]) true]).length 4 (gL cSRole dSRole ([SRole.mk (ByteArray.mk #[97, 108, 108]) ([1, 5]) ByteArray.empty false, SRole.mk (ByteArray.mk #[110, 111]) ([5]) (ByteArray.mk #[83, 49]) true])))), (2, .c (.vec ([SGrant.mk (ByteArray.mk #[117]) (ByteArray.mk #[97, 108, 108]) 0 10, SGrant.mk (ByteArray.mk #[117]) (ByteArray.mk #[97, 108, 108]) 10 ((-1)), SGrant.mk (ByteArray.mk #[117]) (ByteArray.mk #[110, 111]) 5 ((-1))]).length 4 (gL cSGrant dSGrant ([SGrant.mk (ByteArray.mk #[117]) (ByteArray.mk #[97, 108, 108]) 0 10, SGrant.mk (ByteArray.mk #[117]) (ByteArray.mk #[97, 108, 108]) 10 ((-1)), SGrant.mk (ByteArray.mk #[117]) (ByteArray.mk #[110, 111]) 5 ((-1))]))))], []⟩) (sub_gen [] rfl rfl ⟨zc rfl rfl, zc rfl rfl, trivial⟩ trivial) ?_
  refine SOps.nil ?_
  refine SCode.seq ?_
  refine SCode.seq ?_
  obtain ⟨c_1, g2, h⟩ := bind_out h
  try dsimp only at h
  rcases cond_out h with ⟨g3, h⟩ | ⟨g3, h⟩
  · refine SCode.region (show SOps _ _ _ [0, 1, 2, 3, 4, 5, 6, 7, 8, 9, 10, 11, 12, 13, 14, 15, 16, 17, 18, 19, 20, 21, 22, 23, 24, 25] _ _ from ?_)
    refine SOps.q rfl (.plain rfl) rfl (q_move rfl rfl) ?_
    refine SOps.q rfl (.plain rfl) rfl (q_move rfl rfl) ?_
    refine SOps.q rfl (.plain rfl) rfl (q_call (access_Valid_ok F ([SRole.mk (ByteArray.mk #[97, 108, 108]) ([1, 5]) ByteArray.empty false, SRole.mk (ByteArray.mk #[110, 111]) ([5]) (ByteArray.mk #[83, 49]) true]) ([SGrant.mk (ByteArray.mk #[117]) (ByteArray.mk #[97, 108, 108]) 0 10, SGrant.mk (ByteArray.mk #[117]) (ByteArray.mk #[97, 108, 108]) 10 ((-1)), SGrant.mk (ByteArray.mk #[117]) (ByteArray.mk #[110, 111]) 5 ((-1))]) c_1 g2) [] rfl fn12 ⟨⟨_, rfl, .inl ⟨rfl, rfl⟩⟩, ⟨_, rfl, .inl ⟨rfl, rfl⟩⟩, trivial⟩ (.inl rfl)) ?_
    refine SOps.q rfl (.plain rfl) rfl (q_neq rfl rfl rfl) ?_
    refine SOps.q rfl (.plain rfl) rfl (q_move rfl rfl) ?_
    refine SOps.skip rfl 4 23 false rfl rfl (.inl (gT g3)) rfl ?_
    refine SOps.skip rfl 4 23 false rfl rfl (.inl (gT g3)) rfl ?_
    refine SOps.skip rfl 4 23 false rfl rfl (.inl (gT g3)) rfl ?_
    refine SOps.skip rfl 4 23 false rfl rfl (.inl (gT g3)) rfl ?_
    refine SOps.q rfl (.plain rfl) rfl (q_pick_t rfl rfl g3 rfl) ?_
    refine SOps.q rfl (.plain rfl) rfl (q_move rfl rfl) ?_
    refine SOps.skip rfl 10 29 false rfl rfl (.inl rfl) rfl ?_
    refine SOps.skip rfl 10 29 false rfl rfl (.inl rfl) rfl ?_
    refine SOps.skip rfl 10 29 false rfl rfl (.inl rfl) rfl ?_
    refine SOps.q rfl (.plain rfl) rfl (q_pick_t rfl rfl rfl rfl) ?_
    refine SOps.q rfl (.plain rfl) rfl (q_move rfl rfl) ?_
    refine SOps.skip rfl 15 34 false rfl rfl (.inl rfl) rfl ?_
    refine SOps.skip rfl 15 34 false rfl rfl (.inl rfl) rfl ?_
    refine SOps.skip rfl 15 34 false rfl rfl (.inl rfl) rfl ?_
    refine SOps.skip rfl 15 34 false rfl rfl (.inl rfl) rfl ?_
    refine SOps.q rfl (.plain rfl) rfl (q_pick_t rfl rfl rfl rfl) ?_
    refine SOps.q rfl (.plain rfl) rfl (q_move rfl rfl) ?_
    refine SOps.skip rfl 21 40 false rfl rfl (.inl rfl) rfl ?_
    refine SOps.skip rfl 21 40 false rfl rfl (.inl rfl) rfl ?_
    refine SOps.skip rfl 21 40 false rfl rfl (.inl rfl) rfl ?_
    refine SOps.q rfl (.plain rfl) rfl (q_pick_t rfl rfl rfl rfl) ?_
    refine SOps.sub (st' := ⟨[(1, .c (.vec ([SRole.mk (ByteArray.mk #[97, 108, 108]) ([1, 5]) ByteArray.empty false, SRole.mk (ByteArray.mk #[110, 111]) ([5]) (ByteArray.mk #[83, 49]) true]).length 4 (gL cSRole dSRole ([SRole.mk (ByteArray.mk #[97, 108, 108]) ([1, 5]) ByteArray.empty false, SRole.mk (ByteArray.mk #[110, 111]) ([5]) (ByteArray.mk #[83, 49]) true])))), (2, .c (.vec ([SGrant.mk (ByteArray.mk #[117]) (ByteArray.mk #[97, 108, 108]) 0 10, SGrant.mk (ByteArray.mk #[117]) (ByteArray.mk #[97, 108, 108]) 10 ((-1)), SGrant.mk (ByteArray.mk #[117]) (ByteArray.mk #[110, 111]) 5 ((-1))]).length 4 (gL cSGrant dSGrant ([SGrant.mk (ByteArray.mk #[117]) (ByteArray.mk #[97, 108, 108]) 0 10, SGrant.mk (ByteArray.mk #[117]) (ByteArray.mk #[97, 108, 108]) 10 ((-1)), SGrant.mk (ByteArray.mk #[117]) (ByteArray.mk #[110, 111]) 5 ((-1))])))), (44, .c (.bool true))], []⟩) (sub_gen [] rfl rfl ⟨zc rfl rfl, zc rfl rfl, zc rfl rfl, trivial⟩ trivial) ?_
    refine SOps.nil ?_
    refine SCode.cond_t rfl rfl ?_
    refine SCode.seq ?_
    refine SCode.region (show SOps _ _ _ [0] _ _ from ?_)
    refine SOps.q rfl (.plain rfl) rfl (q_assign rfl rfl) ?_
    refine SOps.sub (st' := ⟨[(0, .c (.bool false))], []⟩) (sub_gen [] rfl rfl ⟨zc rfl rfl, trivial⟩ trivial) ?_
    refine SOps.nil ?_
    refine SCode.ret ?_
    obtain rfl := Option.some.inj h
    exact ⟨⟨[(0, .c (.bool false))], []⟩, _, sub_gen [] rfl rfl ⟨zc rfl rfl, trivial⟩ trivial, resA1 (v := .c (.bool false)) rfl rfl, rfl⟩
  obtain ⟨c_4, g5, h⟩ := bind_out h
  try dsimp only at h
  rcases cond_out h with ⟨g6, h⟩ | ⟨g6, h⟩
  · refine SCode.region (show SOps _ _ _ [0, 1, 2, 3, 4, 5, 6, 7, 8, 9, 10, 11, 12, 13, 14, 15, 16, 17, 18, 19, 20, 21, 22, 23, 24, 25] _ _ from ?_)
    refine SOps.q rfl (.plain rfl) rfl (q_move rfl rfl) ?_
    refine SOps.q rfl (.plain rfl) rfl (q_move rfl rfl) ?_
    refine SOps.q rfl (.plain rfl) rfl (q_call (access_Valid_ok F ([SRole.mk (ByteArray.mk #[97, 108, 108]) ([1, 5]) ByteArray.empty false, SRole.mk (ByteArray.mk #[110, 111]) ([5]) (ByteArray.mk #[83, 49]) true]) ([SGrant.mk (ByteArray.mk #[117]) (ByteArray.mk #[97, 108, 108]) 0 10, SGrant.mk (ByteArray.mk #[117]) (ByteArray.mk #[97, 108, 108]) 10 ((-1)), SGrant.mk (ByteArray.mk #[117]) (ByteArray.mk #[110, 111]) 5 ((-1))]) c_1 g2) [] rfl fn12 ⟨⟨_, rfl, .inl ⟨rfl, rfl⟩⟩, ⟨_, rfl, .inl ⟨rfl, rfl⟩⟩, trivial⟩ (.inl rfl)) ?_
    refine SOps.q rfl (.plain rfl) rfl (q_neq rfl rfl rfl) ?_
    refine SOps.q rfl (.plain rfl) rfl (q_move rfl rfl) ?_
    refine SOps.q rfl (.guard 4 23 false rfl rfl (gF g3)) rfl (q_move rfl rfl) ?_
    refine SOps.q rfl (.guard 4 23 false rfl rfl (gF g3)) rfl (q_move rfl rfl) ?_
    refine SOps.q rfl (.guard 4 23 false rfl rfl (gF g3)) rfl (q_call (access_Allowed_ok F ([SRole.mk (ByteArray.mk #[97, 108, 108]) ([1, 5]) ByteArray.empty false, SRole.mk (ByteArray.mk #[110, 111]) ([5]) (ByteArray.mk #[83, 49]) true]) ([SGrant.mk (ByteArray.mk #[117]) (ByteArray.mk #[97, 108, 108]) 0 10, SGrant.mk (ByteArray.mk #[117]) (ByteArray.mk #[97, 108, 108]) 10 ((-1)), SGrant.mk (ByteArray.mk #[117]) (ByteArray.mk #[110, 111]) 5 ((-1))]) (ByteArray.mk #[117]) 5 (ByteArray.mk #[83, 50]) 5 c_4 g5) [] rfl fn14 ⟨⟨_, rfl, .inl ⟨rfl, rfl⟩⟩, ⟨_, rfl, .inl ⟨rfl, rfl⟩⟩, ⟨_, rfl, .inl ⟨rfl, rfl⟩⟩, ⟨_, rfl, .inl ⟨rfl, rfl⟩⟩, ⟨_, rfl, .inl ⟨rfl, rfl⟩⟩, ⟨_, rfl, .inl ⟨rfl, rfl⟩⟩, trivial⟩ (.inl rfl)) ?_
    refine SOps.q rfl (.guard 4 23 false rfl rfl (gF g3)) rfl (q_not rfl rfl) ?_
    refine SOps.q rfl (.plain rfl) rfl (q_pick_f rfl rfl g3 rfl) ?_
    refine SOps.q rfl (.plain rfl) rfl (q_move rfl rfl) ?_
    refine SOps.skip rfl 10 29 false rfl rfl (.inl (gT g6)) rfl ?_
    refine SOps.skip rfl 10 29 false rfl rfl (.inl (gT g6)) rfl ?_
    refine SOps.skip rfl 10 29 false rfl rfl (.inl (gT g6)) rfl ?_
    refine SOps.q rfl (.plain rfl) rfl (q_pick_t rfl rfl g6 rfl) ?_
    refine SOps.q rfl (.plain rfl) rfl (q_move rfl rfl) ?_
    refine SOps.skip rfl 15 34 false rfl rfl (.inl rfl) rfl ?_
    refine SOps.skip rfl 15 34 false rfl rfl (.inl rfl) rfl ?_
    refine SOps.skip rfl 15 34 false rfl rfl (.inl rfl) rfl ?_
    refine SOps.skip rfl 15 34 false rfl rfl (.inl rfl) rfl ?_
    refine SOps.q rfl (.plain rfl) rfl (q_pick_t rfl rfl rfl rfl) ?_
    refine SOps.q rfl (.plain rfl) rfl (q_move rfl rfl) ?_
    refine SOps.skip rfl 21 40 false rfl rfl (.inl rfl) rfl ?_
    refine SOps.skip rfl 21 40 false rfl rfl (.inl rfl) rfl ?_
    refine SOps.skip rfl 21 40 false rfl rfl (.inl rfl) rfl ?_
    refine SOps.q rfl (.plain rfl) rfl (q_pick_t rfl rfl rfl rfl) ?_
    refine SOps.sub (st' := ⟨[(1, .c (.vec ([SRole.mk (ByteArray.mk #[97, 108, 108]) ([1, 5]) ByteArray.empty false, SRole.mk (ByteArray.mk #[110, 111]) ([5]) (ByteArray.mk #[83, 49]) true]).length 4 (gL cSRole dSRole ([SRole.mk (ByteArray.mk #[97, 108, 108]) ([1, 5]) ByteArray.empty false, SRole.mk (ByteArray.mk #[110, 111]) ([5]) (ByteArray.mk #[83, 49]) true])))), (2, .c (.vec ([SGrant.mk (ByteArray.mk #[117]) (ByteArray.mk #[97, 108, 108]) 0 10, SGrant.mk (ByteArray.mk #[117]) (ByteArray.mk #[97, 108, 108]) 10 ((-1)), SGrant.mk (ByteArray.mk #[117]) (ByteArray.mk #[110, 111]) 5 ((-1))]).length 4 (gL cSGrant dSGrant ([SGrant.mk (ByteArray.mk #[117]) (ByteArray.mk #[97, 108, 108]) 0 10, SGrant.mk (ByteArray.mk #[117]) (ByteArray.mk #[97, 108, 108]) 10 ((-1)), SGrant.mk (ByteArray.mk #[117]) (ByteArray.mk #[110, 111]) 5 ((-1))])))), (44, .c (.bool true))], []⟩) (sub_gen [] rfl rfl ⟨zc rfl rfl, zc rfl rfl, zc rfl rfl, trivial⟩ trivial) ?_
    refine SOps.nil ?_
    refine SCode.cond_t rfl rfl ?_
    refine SCode.seq ?_
    refine SCode.region (show SOps _ _ _ [0] _ _ from ?_)
    refine SOps.q rfl (.plain rfl) rfl (q_assign rfl rfl) ?_
    refine SOps.sub (st' := ⟨[(0, .c (.bool false))], []⟩) (sub_gen [] rfl rfl ⟨zc rfl rfl, trivial⟩ trivial) ?_
    refine SOps.nil ?_
    refine SCode.ret ?_
    obtain rfl := Option.some.inj h
    exact ⟨⟨[(0, .c (.bool false))], []⟩, _, sub_gen [] rfl rfl ⟨zc rfl rfl, trivial⟩ trivial, resA1 (v := .c (.bool false)) rfl rfl, rfl⟩
  obtain ⟨c_7, g8, h⟩ := bind_out h
  try dsimp only at h
  rcases cond_out h with ⟨g9, h⟩ | ⟨g9, h⟩
  · refine SCode.region (show SOps _ _ _ [0, 1, 2, 3, 4, 5, 6, 7, 8, 9, 10, 11, 12, 13, 14, 15, 16, 17, 18, 19, 20, 21, 22, 23, 24, 25] _ _ from ?_)
    refine SOps.q rfl (.plain rfl) rfl (q_move rfl rfl) ?_
    refine SOps.q rfl (.plain rfl) rfl (q_move rfl rfl) ?_
    refine SOps.q rfl (.plain rfl) rfl (q_call (access_Valid_ok F ([SRole.mk (ByteArray.mk #[97, 108, 108]) ([1, 5]) ByteArray.empty false, SRole.mk (ByteArray.mk #[110, 111]) ([5]) (ByteArray.mk #[83, 49]) true]) ([SGrant.mk (ByteArray.mk #[117]) (ByteArray.mk #[97, 108, 108]) 0 10, SGrant.mk (ByteArray.mk #[117]) (ByteArray.mk #[97, 108, 108]) 10 ((-1)), SGrant.mk (ByteArray.mk #[117]) (ByteArray.mk #[110, 111]) 5 ((-1))]) c_1 g2) [] rfl fn12 ⟨⟨_, rfl, .inl ⟨rfl, rfl⟩⟩, ⟨_, rfl, .inl ⟨rfl, rfl⟩⟩, trivial⟩ (.inl rfl)) ?_
    refine SOps.q rfl (.plain rfl) rfl (q_neq rfl rfl rfl) ?_
    refine SOps.q rfl (.plain rfl) rfl (q_move rfl rfl) ?_
    refine SOps.q rfl (.guard 4 23 false rfl rfl (gF g3)) rfl (q_move rfl rfl) ?_
    refine SOps.q rfl (.guard 4 23 false rfl rfl (gF g3)) rfl (q_move rfl rfl) ?_
    refine SOps.q rfl (.guard 4 23 false rfl rfl (gF g3)) rfl (q_call (access_Allowed_ok F ([SRole.mk (ByteArray.mk #[97, 108, 108]) ([1, 5]) ByteArray.empty false, SRole.mk (ByteArray.mk #[110, 111]) ([5]) (ByteArray.mk #[83, 49]) true]) ([SGrant.mk (ByteArray.mk #[117]) (ByteArray.mk #[97, 108, 108]) 0 10, SGrant.mk (ByteArray.mk #[117]) (ByteArray.mk #[97, 108, 108]) 10 ((-1)), SGrant.mk (ByteArray.mk #[117]) (ByteArray.mk #[110, 111]) 5 ((-1))]) (ByteArray.mk #[117]) 5 (ByteArray.mk #[83, 50]) 5 c_4 g5) [] rfl fn14 ⟨⟨_, rfl, .inl ⟨rfl, rfl⟩⟩, ⟨_, rfl, .inl ⟨rfl, rfl⟩⟩, ⟨_, rfl, .inl ⟨rfl, rfl⟩⟩, ⟨_, rfl, .inl ⟨rfl, rfl⟩⟩, ⟨_, rfl, .inl ⟨rfl, rfl⟩⟩, ⟨_, rfl, .inl ⟨rfl, rfl⟩⟩, trivial⟩ (.inl rfl)) ?_
    refine SOps.q rfl (.guard 4 23 false rfl rfl (gF g3)) rfl (q_not rfl rfl) ?_
    refine SOps.q rfl (.plain rfl) rfl (q_pick_f rfl rfl g3 rfl) ?_
    refine SOps.q rfl (.plain rfl) rfl (q_move rfl rfl) ?_
    refine SOps.q rfl (.guard 10 29 false rfl rfl (gF g6)) rfl (q_move rfl rfl) ?_
    refine SOps.q rfl (.guard 10 29 false rfl rfl (gF g6)) rfl (q_move rfl rfl) ?_
    refine SOps.q rfl (.guard 10 29 false rfl rfl (gF g6)) rfl (q_call (access_Allowed_ok F ([SRole.mk (ByteArray.mk #[97, 108, 108]) ([1, 5]) ByteArray.empty false, SRole.mk (ByteArray.mk #[110, 111]) ([5]) (ByteArray.mk #[83, 49]) true]) ([SGrant.mk (ByteArray.mk #[117]) (ByteArray.mk #[97, 108, 108]) 0 10, SGrant.mk (ByteArray.mk #[117]) (ByteArray.mk #[97, 108, 108]) 10 ((-1)), SGrant.mk (ByteArray.mk #[117]) (ByteArray.mk #[110, 111]) 5 ((-1))]) (ByteArray.mk #[117]) 5 (ByteArray.mk #[83, 49, 48]) 5 c_7 g8) [] rfl fn14 ⟨⟨_, rfl, .inl ⟨rfl, rfl⟩⟩, ⟨_, rfl, .inl ⟨rfl, rfl⟩⟩, ⟨_, rfl, .inl ⟨rfl, rfl⟩⟩, ⟨_, rfl, .inl ⟨rfl, rfl⟩⟩, ⟨_, rfl, .inl ⟨rfl, rfl⟩⟩, ⟨_, rfl, .inl ⟨rfl, rfl⟩⟩, trivial⟩ (.inl rfl)) ?_
    refine SOps.q rfl (.plain rfl) rfl (q_pick_f rfl rfl g6 rfl) ?_
    refine SOps.q rfl (.plain rfl) rfl (q_move rfl rfl) ?_
    refine SOps.skip rfl 15 34 false rfl rfl (.inl (gT g9)) rfl ?_
    refine SOps.skip rfl 15 34 false rfl rfl (.inl (gT g9)) rfl ?_
    refine SOps.skip rfl 15 34 false rfl rfl (.inl (gT g9)) rfl ?_
    refine SOps.skip rfl 15 34 false rfl rfl (.inl (gT g9)) rfl ?_
    refine SOps.q rfl (.plain rfl) rfl (q_pick_t rfl rfl g9 rfl) ?_
    refine SOps.q rfl (.plain rfl) rfl (q_move rfl rfl) ?_
    refine SOps.skip rfl 21 40 false rfl rfl (.inl rfl) rfl ?_
    refine SOps.skip rfl 21 40 false rfl rfl (.inl rfl) rfl ?_
    refine SOps.skip rfl 21 40 false rfl rfl (.inl rfl) rfl ?_
    refine SOps.q rfl (.plain rfl) rfl (q_pick_t rfl rfl rfl rfl) ?_
    refine SOps.sub (st' := ⟨[(1, .c (.vec ([SRole.mk (ByteArray.mk #[97, 108, 108]) ([1, 5]) ByteArray.empty false, SRole.mk (ByteArray.mk #[110, 111]) ([5]) (ByteArray.mk #[83, 49]) true]).length 4 (gL cSRole dSRole ([SRole.mk (ByteArray.mk #[97, 108, 108]) ([1, 5]) ByteArray.empty false, SRole.mk (ByteArray.mk #[110, 111]) ([5]) (ByteArray.mk #[83, 49]) true])))), (2, .c (.vec ([SGrant.mk (ByteArray.mk #[117]) (ByteArray.mk #[97, 108, 108]) 0 10, SGrant.mk (ByteArray.mk #[117]) (ByteArray.mk #[97, 108, 108]) 10 ((-1)), SGrant.mk (ByteArray.mk #[117]) (ByteArray.mk #[110, 111]) 5 ((-1))]).length 4 (gL cSGrant dSGrant ([SGrant.mk (ByteArray.mk #[117]) (ByteArray.mk #[97, 108, 108]) 0 10, SGrant.mk (ByteArray.mk #[117]) (ByteArray.mk #[97, 108, 108]) 10 ((-1)), SGrant.mk (ByteArray.mk #[117]) (ByteArray.mk #[110, 111]) 5 ((-1))])))), (44, .c (.bool true))], []⟩) (sub_gen [] rfl rfl ⟨zc rfl rfl, zc rfl rfl, zc rfl rfl, trivial⟩ trivial) ?_
    refine SOps.nil ?_
    refine SCode.cond_t rfl rfl ?_
    refine SCode.seq ?_
    refine SCode.region (show SOps _ _ _ [0] _ _ from ?_)
    refine SOps.q rfl (.plain rfl) rfl (q_assign rfl rfl) ?_
    refine SOps.sub (st' := ⟨[(0, .c (.bool false))], []⟩) (sub_gen [] rfl rfl ⟨zc rfl rfl, trivial⟩ trivial) ?_
    refine SOps.nil ?_
    refine SCode.ret ?_
    obtain rfl := Option.some.inj h
    exact ⟨⟨[(0, .c (.bool false))], []⟩, _, sub_gen [] rfl rfl ⟨zc rfl rfl, trivial⟩ trivial, resA1 (v := .c (.bool false)) rfl rfl, rfl⟩
  obtain ⟨c_10, g11, h⟩ := bind_out h
  try dsimp only at h
  rcases cond_out h with ⟨g12, h⟩ | ⟨g12, h⟩
  · refine SCode.region (show SOps _ _ _ [0, 1, 2, 3, 4, 5, 6, 7, 8, 9, 10, 11, 12, 13, 14, 15, 16, 17, 18, 19, 20, 21, 22, 23, 24, 25] _ _ from ?_)
    refine SOps.q rfl (.plain rfl) rfl (q_move rfl rfl) ?_
    refine SOps.q rfl (.plain rfl) rfl (q_move rfl rfl) ?_
    refine SOps.q rfl (.plain rfl) rfl (q_call (access_Valid_ok F ([SRole.mk (ByteArray.mk #[97, 108, 108]) ([1, 5]) ByteArray.empty false, SRole.mk (ByteArray.mk #[110, 111]) ([5]) (ByteArray.mk #[83, 49]) true]) ([SGrant.mk (ByteArray.mk #[117]) (ByteArray.mk #[97, 108, 108]) 0 10, SGrant.mk (ByteArray.mk #[117]) (ByteArray.mk #[97, 108, 108]) 10 ((-1)), SGrant.mk (ByteArray.mk #[117]) (ByteArray.mk #[110, 111]) 5 ((-1))]) c_1 g2) [] rfl fn12 ⟨⟨_, rfl, .inl ⟨rfl, rfl⟩⟩, ⟨_, rfl, .inl ⟨rfl, rfl⟩⟩, trivial⟩ (.inl rfl)) ?_
    refine SOps.q rfl (.plain rfl) rfl (q_neq rfl rfl rfl) ?_
    refine SOps.q rfl (.plain rfl) rfl (q_move rfl rfl) ?_
    refine SOps.q rfl (.guard 4 23 false rfl rfl (gF g3)) rfl (q_move rfl rfl) ?_
    refine SOps.q rfl (.guard 4 23 false rfl rfl (gF g3)) rfl (q_move rfl rfl) ?_
    refine SOps.q rfl (.guard 4 23 false rfl rfl (gF g3)) rfl (q_call (access_Allowed_ok F ([SRole.mk (ByteArray.mk #[97, 108, 108]) ([1, 5]) ByteArray.empty false, SRole.mk (ByteArray.mk #[110, 111]) ([5]) (ByteArray.mk #[83, 49]) true]) ([SGrant.mk (ByteArray.mk #[117]) (ByteArray.mk #[97, 108, 108]) 0 10, SGrant.mk (ByteArray.mk #[117]) (ByteArray.mk #[97, 108, 108]) 10 ((-1)), SGrant.mk (ByteArray.mk #[117]) (ByteArray.mk #[110, 111]) 5 ((-1))]) (ByteArray.mk #[117]) 5 (ByteArray.mk #[83, 50]) 5 c_4 g5) [] rfl fn14 ⟨⟨_, rfl, .inl ⟨rfl, rfl⟩⟩, ⟨_, rfl, .inl ⟨rfl, rfl⟩⟩, ⟨_, rfl, .inl ⟨rfl, rfl⟩⟩, ⟨_, rfl, .inl ⟨rfl, rfl⟩⟩, ⟨_, rfl, .inl ⟨rfl, rfl⟩⟩, ⟨_, rfl, .inl ⟨rfl, rfl⟩⟩, trivial⟩ (.inl rfl)) ?_
    refine SOps.q rfl (.guard 4 23 false rfl rfl (gF g3)) rfl (q_not rfl rfl) ?_
    refine SOps.q rfl (.plain rfl) rfl (q_pick_f rfl rfl g3 rfl) ?_
    refine SOps.q rfl (.plain rfl) rfl (q_move rfl rfl) ?_
    refine SOps.q rfl (.guard 10 29 false rfl rfl (gF g6)) rfl (q_move rfl rfl) ?_
    refine SOps.q rfl (.guard 10 29 false rfl rfl (gF g6)) rfl (q_move rfl rfl) ?_
    refine SOps.q rfl (.guard 10 29 false rfl rfl (gF g6)) rfl (q_call (access_Allowed_ok F ([SRole.mk (ByteArray.mk #[97, 108, 108]) ([1, 5]) ByteArray.empty false, SRole.mk (ByteArray.mk #[110, 111]) ([5]) (ByteArray.mk #[83, 49]) true]) ([SGrant.mk (ByteArray.mk #[117]) (ByteArray.mk #[97, 108, 108]) 0 10, SGrant.mk (ByteArray.mk #[117]) (ByteArray.mk #[97, 108, 108]) 10 ((-1)), SGrant.mk (ByteArray.mk #[117]) (ByteArray.mk #[110, 111]) 5 ((-1))]) (ByteArray.mk #[117]) 5 (ByteArray.mk #[83, 49, 48]) 5 c_7 g8) [] rfl fn14 ⟨⟨_, rfl, .inl ⟨rfl, rfl⟩⟩, ⟨_, rfl, .inl ⟨rfl, rfl⟩⟩, ⟨_, rfl, .inl ⟨rfl, rfl⟩⟩, ⟨_, rfl, .inl ⟨rfl, rfl⟩⟩, ⟨_, rfl, .inl ⟨rfl, rfl⟩⟩, ⟨_, rfl, .inl ⟨rfl, rfl⟩⟩, trivial⟩ (.inl rfl)) ?_
    refine SOps.q rfl (.plain rfl) rfl (q_pick_f rfl rfl g6 rfl) ?_
    refine SOps.q rfl (.plain rfl) rfl (q_move rfl rfl) ?_
    refine SOps.q rfl (.guard 15 34 false rfl rfl (gF g9)) rfl (q_move rfl rfl) ?_
    refine SOps.q rfl (.guard 15 34 false rfl rfl (gF g9)) rfl (q_move rfl rfl) ?_
    refine SOps.q rfl (.guard 15 34 false rfl rfl (gF g9)) rfl (q_call (access_Allowed_ok F ([SRole.mk (ByteArray.mk #[97, 108, 108]) ([1, 5]) ByteArray.empty false, SRole.mk (ByteArray.mk #[110, 111]) ([5]) (ByteArray.mk #[83, 49]) true]) ([SGrant.mk (ByteArray.mk #[117]) (ByteArray.mk #[97, 108, 108]) 0 10, SGrant.mk (ByteArray.mk #[117]) (ByteArray.mk #[97, 108, 108]) 10 ((-1)), SGrant.mk (ByteArray.mk #[117]) (ByteArray.mk #[110, 111]) 5 ((-1))]) (ByteArray.mk #[117]) 5 (ByteArray.mk #[83, 49, 48]) 4 c_10 g11) [] rfl fn14 ⟨⟨_, rfl, .inl ⟨rfl, rfl⟩⟩, ⟨_, rfl, .inl ⟨rfl, rfl⟩⟩, ⟨_, rfl, .inl ⟨rfl, rfl⟩⟩, ⟨_, rfl, .inl ⟨rfl, rfl⟩⟩, ⟨_, rfl, .inl ⟨rfl, rfl⟩⟩, ⟨_, rfl, .inl ⟨rfl, rfl⟩⟩, trivial⟩ (.inl rfl)) ?_
    refine SOps.q rfl (.guard 15 34 false rfl rfl (gF g9)) rfl (q_not rfl rfl) ?_
    refine SOps.q rfl (.plain rfl) rfl (q_pick_f rfl rfl g9 rfl) ?_
    refine SOps.q rfl (.plain rfl) rfl (q_move rfl rfl) ?_
    refine SOps.skip rfl 21 40 false rfl rfl (.inl (gT g12)) rfl ?_
    refine SOps.skip rfl 21 40 false rfl rfl (.inl (gT g12)) rfl ?_
    refine SOps.skip rfl 21 40 false rfl rfl (.inl (gT g12)) rfl ?_
    refine SOps.q rfl (.plain rfl) rfl (q_pick_t rfl rfl g12 rfl) ?_
    refine SOps.sub (st' := ⟨[(1, .c (.vec ([SRole.mk (ByteArray.mk #[97, 108, 108]) ([1, 5]) ByteArray.empty false, SRole.mk (ByteArray.mk #[110, 111]) ([5]) (ByteArray.mk #[83, 49]) true]).length 4 (gL cSRole dSRole ([SRole.mk (ByteArray.mk #[97, 108, 108]) ([1, 5]) ByteArray.empty false, SRole.mk (ByteArray.mk #[110, 111]) ([5]) (ByteArray.mk #[83, 49]) true])))), (2, .c (.vec ([SGrant.mk (ByteArray.mk #[117]) (ByteArray.mk #[97, 108, 108]) 0 10, SGrant.mk (ByteArray.mk #[117]) (ByteArray.mk #[97, 108, 108]) 10 ((-1)), SGrant.mk (ByteArray.mk #[117]) (ByteArray.mk #[110, 111]) 5 ((-1))]).length 4 (gL cSGrant dSGrant ([SGrant.mk (ByteArray.mk #[117]) (ByteArray.mk #[97, 108, 108]) 0 10, SGrant.mk (ByteArray.mk #[117]) (ByteArray.mk #[97, 108, 108]) 10 ((-1)), SGrant.mk (ByteArray.mk #[117]) (ByteArray.mk #[110, 111]) 5 ((-1))])))), (44, .c (.bool true))], []⟩) (sub_gen [] rfl rfl ⟨zc rfl rfl, zc rfl rfl, zc rfl rfl, trivial⟩ trivial) ?_
    refine SOps.nil ?_
    refine SCode.cond_t rfl rfl ?_
    refine SCode.seq ?_
    refine SCode.region (show SOps _ _ _ [0] _ _ from ?_)
    refine SOps.q rfl (.plain rfl) rfl (q_assign rfl rfl) ?_
    refine SOps.sub (st' := ⟨[(0, .c (.bool false))], []⟩) (sub_gen [] rfl rfl ⟨zc rfl rfl, trivial⟩ trivial) ?_
    refine SOps.nil ?_
    refine SCode.ret ?_
    obtain rfl := Option.some.inj h
    exact ⟨⟨[(0, .c (.bool false))], []⟩, _, sub_gen [] rfl rfl ⟨zc rfl rfl, trivial⟩ trivial, resA1 (v := .c (.bool false)) rfl rfl, rfl⟩
  obtain ⟨c_13, g14, h⟩ := bind_out h
  try dsimp only at h
  refine SCode.region (show SOps _ _ _ [0, 1, 2, 3, 4, 5, 6, 7, 8, 9, 10, 11, 12, 13, 14, 15, 16, 17, 18, 19, 20, 21, 22, 23, 24, 25] _ _ from ?_)
  refine SOps.q rfl (.plain rfl) rfl (q_move rfl rfl) ?_
  refine SOps.q rfl (.plain rfl) rfl (q_move rfl rfl) ?_
  refine SOps.q rfl (.plain rfl) rfl (q_call (access_Valid_ok F ([SRole.mk (ByteArray.mk #[97, 108, 108]) ([1, 5]) ByteArray.empty false, SRole.mk (ByteArray.mk #[110, 111]) ([5]) (ByteArray.mk #[83, 49]) true]) ([SGrant.mk (ByteArray.mk #[117]) (ByteArray.mk #[97, 108, 108]) 0 10, SGrant.mk (ByteArray.mk #[117]) (ByteArray.mk #[97, 108, 108]) 10 ((-1)), SGrant.mk (ByteArray.mk #[117]) (ByteArray.mk #[110, 111]) 5 ((-1))]) c_1 g2) [] rfl fn12 ⟨⟨_, rfl, .inl ⟨rfl, rfl⟩⟩, ⟨_, rfl, .inl ⟨rfl, rfl⟩⟩, trivial⟩ (.inl rfl)) ?_
  refine SOps.q rfl (.plain rfl) rfl (q_neq rfl rfl rfl) ?_
  refine SOps.q rfl (.plain rfl) rfl (q_move rfl rfl) ?_
  refine SOps.q rfl (.guard 4 23 false rfl rfl (gF g3)) rfl (q_move rfl rfl) ?_
  refine SOps.q rfl (.guard 4 23 false rfl rfl (gF g3)) rfl (q_move rfl rfl) ?_
  refine SOps.q rfl (.guard 4 23 false rfl rfl (gF g3)) rfl (q_call (access_Allowed_ok F ([SRole.mk (ByteArray.mk #[97, 108, 108]) ([1, 5]) ByteArray.empty false, SRole.mk (ByteArray.mk #[110, 111]) ([5]) (ByteArray.mk #[83, 49]) true]) ([SGrant.mk (ByteArray.mk #[117]) (ByteArray.mk #[97, 108, 108]) 0 10, SGrant.mk (ByteArray.mk #[117]) (ByteArray.mk #[97, 108, 108]) 10 ((-1)), SGrant.mk (ByteArray.mk #[117]) (ByteArray.mk #[110, 111]) 5 ((-1))]) (ByteArray.mk #[117]) 5 (ByteArray.mk #[83, 50]) 5 c_4 g5) [] rfl fn14 ⟨⟨_, rfl, .inl ⟨rfl, rfl⟩⟩, ⟨_, rfl, .inl ⟨rfl, rfl⟩⟩, ⟨_, rfl, .inl ⟨rfl, rfl⟩⟩, ⟨_, rfl, .inl ⟨rfl, rfl⟩⟩, ⟨_, rfl, .inl ⟨rfl, rfl⟩⟩, ⟨_, rfl, .inl ⟨rfl, rfl⟩⟩, trivial⟩ (.inl rfl)) ?_
  refine SOps.q rfl (.guard 4 23 false rfl rfl (gF g3)) rfl (q_not rfl rfl) ?_
  refine SOps.q rfl (.plain rfl) rfl (q_pick_f rfl rfl g3 rfl) ?_
  refine SOps.q rfl (.plain rfl) rfl (q_move rfl rfl) ?_
  refine SOps.q rfl (.guard 10 29 false rfl rfl (gF g6)) rfl (q_move rfl rfl) ?_
  refine SOps.q rfl (.guard 10 29 false rfl rfl (gF g6)) rfl (q_move rfl rfl) ?_
  refine SOps.q rfl (.guard 10 29 false rfl rfl (gF g6)) rfl (q_call (access_Allowed_ok F ([SRole.mk (ByteArray.mk #[97, 108, 108]) ([1, 5]) ByteArray.empty false, SRole.mk (ByteArray.mk #[110, 111]) ([5]) (ByteArray.mk #[83, 49]) true]) ([SGrant.mk (ByteArray.mk #[117]) (ByteArray.mk #[97, 108, 108]) 0 10, SGrant.mk (ByteArray.mk #[117]) (ByteArray.mk #[97, 108, 108]) 10 ((-1)), SGrant.mk (ByteArray.mk #[117]) (ByteArray.mk #[110, 111]) 5 ((-1))]) (ByteArray.mk #[117]) 5 (ByteArray.mk #[83, 49, 48]) 5 c_7 g8) [] rfl fn14 ⟨⟨_, rfl, .inl ⟨rfl, rfl⟩⟩, ⟨_, rfl, .inl ⟨rfl, rfl⟩⟩, ⟨_, rfl, .inl ⟨rfl, rfl⟩⟩, ⟨_, rfl, .inl ⟨rfl, rfl⟩⟩, ⟨_, rfl, .inl ⟨rfl, rfl⟩⟩, ⟨_, rfl, .inl ⟨rfl, rfl⟩⟩, trivial⟩ (.inl rfl)) ?_
  refine SOps.q rfl (.plain rfl) rfl (q_pick_f rfl rfl g6 rfl) ?_
  refine SOps.q rfl (.plain rfl) rfl (q_move rfl rfl) ?_
  refine SOps.q rfl (.guard 15 34 false rfl rfl (gF g9)) rfl (q_move rfl rfl) ?_
  refine SOps.q rfl (.guard 15 34 false rfl rfl (gF g9)) rfl (q_move rfl rfl) ?_
  refine SOps.q rfl (.guard 15 34 false rfl rfl (gF g9)) rfl (q_call (access_Allowed_ok F ([SRole.mk (ByteArray.mk #[97, 108, 108]) ([1, 5]) ByteArray.empty false, SRole.mk (ByteArray.mk #[110, 111]) ([5]) (ByteArray.mk #[83, 49]) true]) ([SGrant.mk (ByteArray.mk #[117]) (ByteArray.mk #[97, 108, 108]) 0 10, SGrant.mk (ByteArray.mk #[117]) (ByteArray.mk #[97, 108, 108]) 10 ((-1)), SGrant.mk (ByteArray.mk #[117]) (ByteArray.mk #[110, 111]) 5 ((-1))]) (ByteArray.mk #[117]) 5 (ByteArray.mk #[83, 49, 48]) 4 c_10 g11) [] rfl fn14 ⟨⟨_, rfl, .inl ⟨rfl, rfl⟩⟩, ⟨_, rfl, .inl ⟨rfl, rfl⟩⟩, ⟨_, rfl, .inl ⟨rfl, rfl⟩⟩, ⟨_, rfl, .inl ⟨rfl, rfl⟩⟩, ⟨_, rfl, .inl ⟨rfl, rfl⟩⟩, ⟨_, rfl, .inl ⟨rfl, rfl⟩⟩, trivial⟩ (.inl rfl)) ?_
  refine SOps.q rfl (.guard 15 34 false rfl rfl (gF g9)) rfl (q_not rfl rfl) ?_
  refine SOps.q rfl (.plain rfl) rfl (q_pick_f rfl rfl g9 rfl) ?_
  refine SOps.q rfl (.plain rfl) rfl (q_move rfl rfl) ?_
  refine SOps.q rfl (.guard 21 40 false rfl rfl (gF g12)) rfl (q_move rfl rfl) ?_
  refine SOps.q rfl (.guard 21 40 false rfl rfl (gF g12)) rfl (q_move rfl rfl) ?_
  refine SOps.q rfl (.guard 21 40 false rfl rfl (gF g12)) rfl (q_call (access_Allowed_ok F ([SRole.mk (ByteArray.mk #[97, 108, 108]) ([1, 5]) ByteArray.empty false, SRole.mk (ByteArray.mk #[110, 111]) ([5]) (ByteArray.mk #[83, 49]) true]) ([SGrant.mk (ByteArray.mk #[117]) (ByteArray.mk #[97, 108, 108]) 0 10, SGrant.mk (ByteArray.mk #[117]) (ByteArray.mk #[97, 108, 108]) 10 ((-1)), SGrant.mk (ByteArray.mk #[117]) (ByteArray.mk #[110, 111]) 5 ((-1))]) (ByteArray.mk #[117]) 2 (ByteArray.mk #[83, 50]) 5 c_13 g14) [] rfl fn14 ⟨⟨_, rfl, .inl ⟨rfl, rfl⟩⟩, ⟨_, rfl, .inl ⟨rfl, rfl⟩⟩, ⟨_, rfl, .inl ⟨rfl, rfl⟩⟩, ⟨_, rfl, .inl ⟨rfl, rfl⟩⟩, ⟨_, rfl, .inl ⟨rfl, rfl⟩⟩, ⟨_, rfl, .inl ⟨rfl, rfl⟩⟩, trivial⟩ (.inl rfl)) ?_
  refine SOps.q rfl (.plain rfl) rfl (q_pick_f rfl rfl g12 rfl) ?_
  refine SOps.sub (st' := ⟨[(1, .c (.vec ([SRole.mk (ByteArray.mk #[97, 108, 108]) ([1, 5]) ByteArray.empty false, SRole.mk (ByteArray.mk #[110, 111]) ([5]) (ByteArray.mk #[83, 49]) true]).length 4 (gL cSRole dSRole ([SRole.mk (ByteArray.mk #[97, 108, 108]) ([1, 5]) ByteArray.empty false, SRole.mk (ByteArray.mk #[110, 111]) ([5]) (ByteArray.mk #[83, 49]) true])))), (2, .c (.vec ([SGrant.mk (ByteArray.mk #[117]) (ByteArray.mk #[97, 108, 108]) 0 10, SGrant.mk (ByteArray.mk #[117]) (ByteArray.mk #[97, 108, 108]) 10 ((-1)), SGrant.mk (ByteArray.mk #[117]) (ByteArray.mk #[110, 111]) 5 ((-1))]).length 4 (gL cSGrant dSGrant ([SGrant.mk (ByteArray.mk #[117]) (ByteArray.mk #[97, 108, 108]) 0 10, SGrant.mk (ByteArray.mk #[117]) (ByteArray.mk #[97, 108, 108]) 10 ((-1)), SGrant.mk (ByteArray.mk #[117]) (ByteArray.mk #[110, 111]) 5 ((-1))])))), (44, .c (.bool c_13))], []⟩) (sub_gen [] rfl rfl ⟨zc rfl rfl, zc rfl rfl, zc rfl rfl, trivial⟩ trivial) ?_
  refine SOps.nil ?_
  rcases cond_out h with ⟨g15, h⟩ | ⟨g15, h⟩
  · refine SCode.cond_t rfl g15 ?_
    refine SCode.seq ?_
    refine SCode.region (show SOps _ _ _ [0] _ _ from ?_)
    refine SOps.q rfl (.plain rfl) rfl (q_assign rfl rfl) ?_
    refine SOps.sub (st' := ⟨[(0, .c (.bool false))], []⟩) (sub_gen [] rfl rfl ⟨zc rfl rfl, trivial⟩ trivial) ?_
    refine SOps.nil ?_
    refine SCode.ret ?_
    obtain rfl := Option.some.inj h
    exact ⟨⟨[(0, .c (.bool false))], []⟩, _, sub_gen [] rfl rfl ⟨zc rfl rfl, trivial⟩ trivial, resA1 (v := .c (.bool false)) rfl rfl, rfl⟩
  refine SCode.cond_f rfl g15 ?_
  refine SCode.skip ?_
  refine SCode.seq ?_
  obtain ⟨c_16, g17, h⟩ := bind_out h
  try dsimp only at h
  refine SCode.region (show SOps _ _ _ [0, 1, 2, 3, 4, 5, 6] _ _ from ?_)
  refine SOps.q rfl (.plain rfl) rfl (q_move rfl rfl) ?_
  refine SOps.q rfl (.plain rfl) rfl (q_call (access_Take_ok F ([SGrant.mk (ByteArray.mk #[117]) (ByteArray.mk #[97, 108, 108]) 0 10, SGrant.mk (ByteArray.mk #[117]) (ByteArray.mk #[97, 108, 108]) 10 ((-1)), SGrant.mk (ByteArray.mk #[117]) (ByteArray.mk #[110, 111]) 5 ((-1))]) (ByteArray.mk #[117]) (ByteArray.mk #[110, 111]) 5 c_16 g17) [] rfl fn19 ⟨⟨_, rfl, .inl ⟨rfl, rfl⟩⟩, ⟨_, rfl, .inl ⟨rfl, rfl⟩⟩, ⟨_, rfl, .inl ⟨rfl, rfl⟩⟩, ⟨_, rfl, .inl ⟨rfl, rfl⟩⟩, trivial⟩ (.inl rfl)) ?_
  refine SOps.q rfl (.plain rfl) rfl (q_move rfl rfl) ?_
  refine SOps.q rfl (.plain rfl) rfl (q_extract rfl rfl rfl) ?_
  refine SOps.q rfl (.plain rfl) rfl (q_extract rfl rfl rfl) ?_
  refine SOps.q rfl (.plain rfl) rfl (q_assign rfl rfl) ?_
  refine SOps.q rfl (.plain rfl) rfl (q_assign rfl rfl) ?_
  refine SOps.sub (st' := ⟨[(1, .c (.vec ([SRole.mk (ByteArray.mk #[97, 108, 108]) ([1, 5]) ByteArray.empty false, SRole.mk (ByteArray.mk #[110, 111]) ([5]) (ByteArray.mk #[83, 49]) true]).length 4 (gL cSRole dSRole ([SRole.mk (ByteArray.mk #[97, 108, 108]) ([1, 5]) ByteArray.empty false, SRole.mk (ByteArray.mk #[110, 111]) ([5]) (ByteArray.mk #[83, 49]) true])))), (2, .c (.vec ([SGrant.mk (ByteArray.mk #[117]) (ByteArray.mk #[97, 108, 108]) 0 10, SGrant.mk (ByteArray.mk #[117]) (ByteArray.mk #[97, 108, 108]) 10 ((-1)), SGrant.mk (ByteArray.mk #[117]) (ByteArray.mk #[110, 111]) 5 ((-1))]).length 4 (gL cSGrant dSGrant ([SGrant.mk (ByteArray.mk #[117]) (ByteArray.mk #[97, 108, 108]) 0 10, SGrant.mk (ByteArray.mk #[117]) (ByteArray.mk #[97, 108, 108]) 10 ((-1)), SGrant.mk (ByteArray.mk #[117]) (ByteArray.mk #[110, 111]) 5 ((-1))])))), (3, .c (.vec c_16.1.length 4 (gL cSGrant dSGrant c_16.1))), (4, .c (.int .i64 c_16.2))], []⟩) (sub_gen [] rfl rfl ⟨zc rfl rfl, zc rfl rfl, zc rfl rfl, zc rfl rfl, trivial⟩ trivial) ?_
  refine SOps.nil ?_
  refine SCode.seq ?_
  obtain ⟨c_18, g19, h⟩ := bind_out h
  try dsimp only at h
  refine SCode.region (show SOps _ _ _ [0, 1, 2, 3, 4, 5, 6, 7, 8, 9] _ _ from ?_)
  refine SOps.q rfl (.plain rfl) rfl (q_move rfl rfl) ?_
  refine SOps.q rfl (.plain rfl) rfl (q_move rfl rfl) ?_
  refine SOps.q rfl (.plain rfl) rfl (q_build2 rfl rfl pl35 rfl) ?_
  refine SOps.q rfl (.plain rfl) rfl (q_build2 rfl rfl pl37 rfl) ?_
  refine SOps.q rfl (.plain rfl) rfl (q_call (access_Give_ok F ([SRole.mk (ByteArray.mk #[97, 108, 108]) ([1, 5]) ByteArray.empty false, SRole.mk (ByteArray.mk #[110, 111]) ([5]) (ByteArray.mk #[83, 49]) true]) ([SGrant.mk (ByteArray.mk #[117]) (ByteArray.mk #[97, 108, 108]) 0 10, SGrant.mk (ByteArray.mk #[117]) (ByteArray.mk #[97, 108, 108]) 10 ((-1)), SGrant.mk (ByteArray.mk #[117]) (ByteArray.mk #[110, 111]) 5 ((-1))]) (SGrant.mk (ByteArray.mk #[117]) (ByteArray.mk #[120]) 0 ((-1))) c_18 g19) [] rfl fn16 ⟨⟨_, rfl, .inl ⟨rfl, rfl⟩⟩, ⟨_, rfl, .inl ⟨rfl, rfl⟩⟩, ⟨rfl, rfl⟩, trivial⟩ (.inl rfl)) ?_
  refine SOps.q rfl (.plain rfl) rfl (q_move rfl rfl) ?_
  refine SOps.q rfl (.plain rfl) rfl (q_extract rfl rfl rfl) ?_
  refine SOps.q rfl (.plain rfl) rfl (q_extract rfl rfl rfl) ?_
  refine SOps.q rfl (.plain rfl) rfl (q_assign rfl rfl) ?_
  refine SOps.q rfl (.plain rfl) rfl (q_assign rfl rfl) ?_
  refine SOps.sub (st' := ⟨[(1, .c (.vec ([SRole.mk (ByteArray.mk #[97, 108, 108]) ([1, 5]) ByteArray.empty false, SRole.mk (ByteArray.mk #[110, 111]) ([5]) (ByteArray.mk #[83, 49]) true]).length 4 (gL cSRole dSRole ([SRole.mk (ByteArray.mk #[97, 108, 108]) ([1, 5]) ByteArray.empty false, SRole.mk (ByteArray.mk #[110, 111]) ([5]) (ByteArray.mk #[83, 49]) true])))), (3, .c (.vec c_16.1.length 4 (gL cSGrant dSGrant c_16.1))), (4, .c (.int .i64 c_16.2)), (6, .c (.int .i64 c_18.2))], []⟩) (sub_gen [] rfl rfl ⟨zc rfl rfl, zc rfl rfl, zc rfl rfl, zc rfl rfl, trivial⟩ trivial) ?_
  refine SOps.nil ?_
  refine SCode.seq ?_
  rcases cond_out h with ⟨g20, h⟩ | ⟨g20, h⟩
  · rcases cond_out h with ⟨g21, h⟩ | ⟨g21, h⟩
    · obtain ⟨g22, h⟩ := guard_out h
      rcases cond_out h with ⟨g23, h⟩ | ⟨g23, h⟩
      · rcases cond_out h with ⟨g24, h⟩ | ⟨g24, h⟩
        · obtain ⟨c_25, g26, h⟩ := bind_out h
          try dsimp only at h
          refine SCode.region (show SOps _ _ _ [0, 1, 2, 3, 4, 5, 6, 7, 8, 9, 10, 11, 12, 13, 14, 15, 16, 17, 18, 19, 20, 21, 22, 23, 24, 25] _ _ from ?_)
          refine SOps.q rfl (.plain rfl) rfl (q_move rfl rfl) ?_
          refine SOps.q rfl (.plain rfl) rfl (q_eql rfl rfl rfl) ?_
          refine SOps.q rfl (.plain rfl) rfl (q_move rfl rfl) ?_
          refine SOps.q rfl (.guard 2 60 true rfl rfl (gT g20)) rfl (q_move rfl rfl) ?_
          refine SOps.q rfl (.guard 2 60 true rfl rfl (gT g20)) rfl (q_len_vec rfl rfl sl23) ?_
          refine SOps.q rfl (.guard 2 60 true rfl rfl (gT g20)) rfl (q_eql rfl rfl rfl) ?_
          refine SOps.q rfl (.plain rfl) rfl (q_pick_t rfl rfl g20 rfl) ?_
          refine SOps.q rfl (.plain rfl) rfl (q_move rfl rfl) ?_
          refine SOps.q rfl (.guard 7 65 true rfl rfl (gT g21)) rfl (q_move rfl rfl) ?_
          refine SOps.q rfl (.guard 7 65 true rfl rfl (gT g21)) rfl (q_index_vec rfl rfl rfl sl23 rfl g22.1 g22.2) ?_
          refine SOps.q rfl (.guard 7 65 true rfl rfl (gT g21)) rfl (q_field_eptr rfl rfl fd37_2 rfl) ?_
          refine SOps.q rfl (.guard 7 65 true rfl rfl (gT g21)) rfl (q_load_eptr_all rfl rfl rfl ty35) ?_
          refine SOps.q rfl (.guard 7 65 true rfl rfl (gT g21)) rfl (q_build2 rfl rfl pl35 rfl) ?_
          refine SOps.q rfl (.guard 7 65 true rfl rfl (gT g21)) rfl (q_eqAgg (neg := false) rfl (.inl rfl) rfl rfl eqt35 rfl) ?_
          refine SOps.q rfl (.plain rfl) rfl (q_pick_t rfl rfl g21 rfl) ?_
          refine SOps.q rfl (.plain rfl) rfl (q_move rfl rfl) ?_
          refine SOps.q rfl (.guard 15 73 true rfl rfl (gT g23)) rfl (q_move rfl rfl) ?_
          refine SOps.q rfl (.guard 15 73 true rfl rfl (gT g23)) rfl (q_eql rfl rfl rfl) ?_
          refine SOps.q rfl (.plain rfl) rfl (q_pick_t rfl rfl g23 rfl) ?_
          refine SOps.q rfl (.plain rfl) rfl (q_move rfl rfl) ?_
          refine SOps.q rfl (.guard 19 77 true rfl rfl (gT g24)) rfl (q_move rfl rfl) ?_
          refine SOps.q rfl (.guard 19 77 true rfl rfl (gT g24)) rfl (q_call (access_Users_ok F ([SRole.mk (ByteArray.mk #[97, 108, 108]) ([1, 5]) ByteArray.empty false, SRole.mk (ByteArray.mk #[110, 111]) ([5]) (ByteArray.mk #[83, 49]) true]) (([] : List SGrant)) 5 (ByteArray.mk #[83]) 5 c_25 g26) [] rfl fn21 ⟨⟨_, rfl, .inl ⟨rfl, rfl⟩⟩, ⟨_, rfl, .inr (.inr ⟨_, _, rfl, rfl⟩)⟩, ⟨_, rfl, .inl ⟨rfl, rfl⟩⟩, ⟨_, rfl, .inl ⟨rfl, rfl⟩⟩, ⟨_, rfl, .inl ⟨rfl, rfl⟩⟩, trivial⟩ (.inl rfl)) ?_
          refine SOps.q rfl (.guard 19 77 true rfl rfl (gT g24)) rfl (q_len_vec rfl rfl sl44) ?_
          refine SOps.q rfl (.guard 19 77 true rfl rfl (gT g24)) rfl (q_eql rfl rfl rfl) ?_
          refine SOps.q rfl (.plain rfl) rfl (q_pick_t rfl rfl g24 rfl) ?_
          refine SOps.q rfl (.plain rfl) rfl (q_assign rfl rfl) ?_
          refine SOps.sub (st' := ⟨[(0, .c (.bool (decide (((c_25).length : Int) = 0))))], []⟩) (sub_gen [] rfl rfl ⟨zc rfl rfl, trivial⟩ trivial) ?_
          refine SOps.nil ?_
          refine SCode.ret ?_
          obtain rfl := Option.some.inj h
          exact ⟨⟨[(0, .c (.bool (decide (((c_25).length : Int) = 0))))], []⟩, _, sub_gen [] rfl rfl ⟨zc rfl rfl, trivial⟩ trivial, resA1 (v := .c (.bool (decide (((c_25).length : Int) = 0)))) rfl rfl, rfl⟩
        refine SCode.region (show SOps _ _ _ [0, 1, 2, 3, 4, 5, 6, 7, 8, 9, 10, 11, 12, 13, 14, 15, 16, 17, 18, 19, 20, 21, 22, 23, 24, 25] _ _ from ?_)
        refine SOps.q rfl (.plain rfl) rfl (q_move rfl rfl) ?_
        refine SOps.q rfl (.plain rfl) rfl (q_eql rfl rfl rfl) ?_
        refine SOps.q rfl (.plain rfl) rfl (q_move rfl rfl) ?_
        refine SOps.q rfl (.guard 2 60 true rfl rfl (gT g20)) rfl (q_move rfl rfl) ?_
        refine SOps.q rfl (.guard 2 60 true rfl rfl (gT g20)) rfl (q_len_vec rfl rfl sl23) ?_
        refine SOps.q rfl (.guard 2 60 true rfl rfl (gT g20)) rfl (q_eql rfl rfl rfl) ?_
        refine SOps.q rfl (.plain rfl) rfl (q_pick_t rfl rfl g20 rfl) ?_
        refine SOps.q rfl (.plain rfl) rfl (q_move rfl rfl) ?_
        refine SOps.q rfl (.guard 7 65 true rfl rfl (gT g21)) rfl (q_move rfl rfl) ?_
        refine SOps.q rfl (.guard 7 65 true rfl rfl (gT g21)) rfl (q_index_vec rfl rfl rfl sl23 rfl g22.1 g22.2) ?_
        refine SOps.q rfl (.guard 7 65 true rfl rfl (gT g21)) rfl (q_field_eptr rfl rfl fd37_2 rfl) ?_
        refine SOps.q rfl (.guard 7 65 true rfl rfl (gT g21)) rfl (q_load_eptr_all rfl rfl rfl ty35) ?_
        refine SOps.q rfl (.guard 7 65 true rfl rfl (gT g21)) rfl (q_build2 rfl rfl pl35 rfl) ?_
        refine SOps.q rfl (.guard 7 65 true rfl rfl (gT g21)) rfl (q_eqAgg (neg := false) rfl (.inl rfl) rfl rfl eqt35 rfl) ?_
        refine SOps.q rfl (.plain rfl) rfl (q_pick_t rfl rfl g21 rfl) ?_
        refine SOps.q rfl (.plain rfl) rfl (q_move rfl rfl) ?_
        refine SOps.q rfl (.guard 15 73 true rfl rfl (gT g23)) rfl (q_move rfl rfl) ?_
        refine SOps.q rfl (.guard 15 73 true rfl rfl (gT g23)) rfl (q_eql rfl rfl rfl) ?_
        refine SOps.q rfl (.plain rfl) rfl (q_pick_t rfl rfl g23 rfl) ?_
        refine SOps.q rfl (.plain rfl) rfl (q_move rfl rfl) ?_
        refine SOps.skip rfl 19 77 true rfl rfl (.inl (gF g24)) rfl ?_
        refine SOps.skip rfl 19 77 true rfl rfl (.inl (gF g24)) rfl ?_
        refine SOps.skip rfl 19 77 true rfl rfl (.inl (gF g24)) rfl ?_
        refine SOps.skip rfl 19 77 true rfl rfl (.inl (gF g24)) rfl ?_
        refine SOps.q rfl (.plain rfl) rfl (q_pick_f rfl rfl g24 rfl) ?_
        refine SOps.q rfl (.plain rfl) rfl (q_assign rfl rfl) ?_
        refine SOps.sub (st' := ⟨[(0, .c (.bool false))], []⟩) (sub_gen [] rfl rfl ⟨zc rfl rfl, trivial⟩ trivial) ?_
        refine SOps.nil ?_
        refine SCode.ret ?_
        obtain rfl := Option.some.inj h
        exact ⟨⟨[(0, .c (.bool false))], []⟩, _, sub_gen [] rfl rfl ⟨zc rfl rfl, trivial⟩ trivial, resA1 (v := .c (.bool false)) rfl rfl, rfl⟩
      refine SCode.region (show SOps _ _ _ [0, 1, 2, 3, 4, 5, 6, 7, 8, 9, 10, 11, 12, 13, 14, 15, 16, 17, 18, 19, 20, 21, 22, 23, 24, 25] _ _ from ?_)
      refine SOps.q rfl (.plain rfl) rfl (q_move rfl rfl) ?_
      refine SOps.q rfl (.plain rfl) rfl (q_eql rfl rfl rfl) ?_
      refine SOps.q rfl (.plain rfl) rfl (q_move rfl rfl) ?_
      refine SOps.q rfl (.guard 2 60 true rfl rfl (gT g20)) rfl (q_move rfl rfl) ?_
      refine SOps.q rfl (.guard 2 60 true rfl rfl (gT g20)) rfl (q_len_vec rfl rfl sl23) ?_
      refine SOps.q rfl (.guard 2 60 true rfl rfl (gT g20)) rfl (q_eql rfl rfl rfl) ?_
      refine SOps.q rfl (.plain rfl) rfl (q_pick_t rfl rfl g20 rfl) ?_
      refine SOps.q rfl (.plain rfl) rfl (q_move rfl rfl) ?_
      refine SOps.q rfl (.guard 7 65 true rfl rfl (gT g21)) rfl (q_move rfl rfl) ?_
      refine SOps.q rfl (.guard 7 65 true rfl rfl (gT g21)) rfl (q_index_vec rfl rfl rfl sl23 rfl g22.1 g22.2) ?_
      refine SOps.q rfl (.guard 7 65 true rfl rfl (gT g21)) rfl (q_field_eptr rfl rfl fd37_2 rfl) ?_
      refine SOps.q rfl (.guard 7 65 true rfl rfl (gT g21)) rfl (q_load_eptr_all rfl rfl rfl ty35) ?_
      refine SOps.q rfl (.guard 7 65 true rfl rfl (gT g21)) rfl (q_build2 rfl rfl pl35 rfl) ?_
      refine SOps.q rfl (.guard 7 65 true rfl rfl (gT g21)) rfl (q_eqAgg (neg := false) rfl (.inl rfl) rfl rfl eqt35 rfl) ?_
      refine SOps.q rfl (.plain rfl) rfl (q_pick_t rfl rfl g21 rfl) ?_
      refine SOps.q rfl (.plain rfl) rfl (q_move rfl rfl) ?_
      refine SOps.skip rfl 15 73 true rfl rfl (.inl (gF g23)) rfl ?_
      refine SOps.skip rfl 15 73 true rfl rfl (.inl (gF g23)) rfl ?_
      refine SOps.q rfl (.plain rfl) rfl (q_pick_f rfl rfl g23 rfl) ?_
      refine SOps.q rfl (.plain rfl) rfl (q_move rfl rfl) ?_
      refine SOps.skip rfl 19 77 true rfl rfl (.inl rfl) rfl ?_
      refine SOps.skip rfl 19 77 true rfl rfl (.inl rfl) rfl ?_
      refine SOps.skip rfl 19 77 true rfl rfl (.inl rfl) rfl ?_
      refine SOps.skip rfl 19 77 true rfl rfl (.inl rfl) rfl ?_
      refine SOps.q rfl (.plain rfl) rfl (q_pick_f rfl rfl rfl rfl) ?_
      refine SOps.q rfl (.plain rfl) rfl (q_assign rfl rfl) ?_
      refine SOps.sub (st' := ⟨[(0, .c (.bool false))], []⟩) (sub_gen [] rfl rfl ⟨zc rfl rfl, trivial⟩ trivial) ?_
      refine SOps.nil ?_
      refine SCode.ret ?_
      obtain rfl := Option.some.inj h
      exact ⟨⟨[(0, .c (.bool false))], []⟩, _, sub_gen [] rfl rfl ⟨zc rfl rfl, trivial⟩ trivial, resA1 (v := .c (.bool false)) rfl rfl, rfl⟩
    refine SCode.region (show SOps _ _ _ [0, 1, 2, 3, 4, 5, 6, 7, 8, 9, 10, 11, 12, 13, 14, 15, 16, 17, 18, 19, 20, 21, 22, 23, 24, 25] _ _ from ?_)
    refine SOps.q rfl (.plain rfl) rfl (q_move rfl rfl) ?_
    refine SOps.q rfl (.plain rfl) rfl (q_eql rfl rfl rfl) ?_
    refine SOps.q rfl (.plain rfl) rfl (q_move rfl rfl) ?_
    refine SOps.q rfl (.guard 2 60 true rfl rfl (gT g20)) rfl (q_move rfl rfl) ?_
    refine SOps.q rfl (.guard 2 60 true rfl rfl (gT g20)) rfl (q_len_vec rfl rfl sl23) ?_
    refine SOps.q rfl (.guard 2 60 true rfl rfl (gT g20)) rfl (q_eql rfl rfl rfl) ?_
    refine SOps.q rfl (.plain rfl) rfl (q_pick_t rfl rfl g20 rfl) ?_
    refine SOps.q rfl (.plain rfl) rfl (q_move rfl rfl) ?_
    refine SOps.skip rfl 7 65 true rfl rfl (.inl (gF g21)) rfl ?_
    refine SOps.skip rfl 7 65 true rfl rfl (.inl (gF g21)) rfl ?_
    refine SOps.skip rfl 7 65 true rfl rfl (.inl (gF g21)) rfl ?_
    refine SOps.skip rfl 7 65 true rfl rfl (.inl (gF g21)) rfl ?_
    refine SOps.skip rfl 7 65 true rfl rfl (.inl (gF g21)) rfl ?_
    refine SOps.skip rfl 7 65 true rfl rfl (.inl (gF g21)) rfl ?_
    refine SOps.q rfl (.plain rfl) rfl (q_pick_f rfl rfl g21 rfl) ?_
    refine SOps.q rfl (.plain rfl) rfl (q_move rfl rfl) ?_
    refine SOps.skip rfl 15 73 true rfl rfl (.inl rfl) rfl ?_
    refine SOps.skip rfl 15 73 true rfl rfl (.inl rfl) rfl ?_
    refine SOps.q rfl (.plain rfl) rfl (q_pick_f rfl rfl rfl rfl) ?_
    refine SOps.q rfl (.plain rfl) rfl (q_move rfl rfl) ?_
    refine SOps.skip rfl 19 77 true rfl rfl (.inl rfl) rfl ?_
    refine SOps.skip rfl 19 77 true rfl rfl (.inl rfl) rfl ?_
    refine SOps.skip rfl 19 77 true rfl rfl (.inl rfl) rfl ?_
    refine SOps.skip rfl 19 77 true rfl rfl (.inl rfl) rfl ?_
    refine SOps.q rfl (.plain rfl) rfl (q_pick_f rfl rfl rfl rfl) ?_
    refine SOps.q rfl (.plain rfl) rfl (q_assign rfl rfl) ?_
    refine SOps.sub (st' := ⟨[(0, .c (.bool false))], []⟩) (sub_gen [] rfl rfl ⟨zc rfl rfl, trivial⟩ trivial) ?_
    refine SOps.nil ?_
    refine SCode.ret ?_
    obtain rfl := Option.some.inj h
    exact ⟨⟨[(0, .c (.bool false))], []⟩, _, sub_gen [] rfl rfl ⟨zc rfl rfl, trivial⟩ trivial, resA1 (v := .c (.bool false)) rfl rfl, rfl⟩
  refine SCode.region (show SOps _ _ _ [0, 1, 2, 3, 4, 5, 6, 7, 8, 9, 10, 11, 12, 13, 14, 15, 16, 17, 18, 19, 20, 21, 22, 23, 24, 25] _ _ from ?_)
  refine SOps.q rfl (.plain rfl) rfl (q_move rfl rfl) ?_
  refine SOps.q rfl (.plain rfl) rfl (q_eql rfl rfl rfl) ?_
  refine SOps.q rfl (.plain rfl) rfl (q_move rfl rfl) ?_
  refine SOps.skip rfl 2 60 true rfl rfl (.inl (gF g20)) rfl ?_
  refine SOps.skip rfl 2 60 true rfl rfl (.inl (gF g20)) rfl ?_
  refine SOps.skip rfl 2 60 true rfl rfl (.inl (gF g20)) rfl ?_
  refine SOps.q rfl (.plain rfl) rfl (q_pick_f rfl rfl g20 rfl) ?_
  refine SOps.q rfl (.plain rfl) rfl (q_move rfl rfl) ?_
  refine SOps.skip rfl 7 65 true rfl rfl (.inl rfl) rfl ?_
  refine SOps.skip rfl 7 65 true rfl rfl (.inl rfl) rfl ?_
  refine SOps.skip rfl 7 65 true rfl rfl (.inl rfl) rfl ?_
  refine SOps.skip rfl 7 65 true rfl rfl (.inl rfl) rfl ?_
  refine SOps.skip rfl 7 65 true rfl rfl (.inl rfl) rfl ?_
  refine SOps.skip rfl 7 65 true rfl rfl (.inl rfl) rfl ?_
  refine SOps.q rfl (.plain rfl) rfl (q_pick_f rfl rfl rfl rfl) ?_
  refine SOps.q rfl (.plain rfl) rfl (q_move rfl rfl) ?_
  refine SOps.skip rfl 15 73 true rfl rfl (.inl rfl) rfl ?_
  refine SOps.skip rfl 15 73 true rfl rfl (.inl rfl) rfl ?_
  refine SOps.q rfl (.plain rfl) rfl (q_pick_f rfl rfl rfl rfl) ?_
  refine SOps.q rfl (.plain rfl) rfl (q_move rfl rfl) ?_
  refine SOps.skip rfl 19 77 true rfl rfl (.inl rfl) rfl ?_
  refine SOps.skip rfl 19 77 true rfl rfl (.inl rfl) rfl ?_
  refine SOps.skip rfl 19 77 true rfl rfl (.inl rfl) rfl ?_
  refine SOps.skip rfl 19 77 true rfl rfl (.inl rfl) rfl ?_
  refine SOps.q rfl (.plain rfl) rfl (q_pick_f rfl rfl rfl rfl) ?_
  refine SOps.q rfl (.plain rfl) rfl (q_assign rfl rfl) ?_
  refine SOps.sub (st' := ⟨[(0, .c (.bool false))], []⟩) (sub_gen [] rfl rfl ⟨zc rfl rfl, trivial⟩ trivial) ?_
  refine SOps.nil ?_
  refine SCode.ret ?_
  obtain rfl := Option.some.inj h
  exact ⟨⟨[(0, .c (.bool false))], []⟩, _, sub_gen [] rfl rfl ⟨zc rfl rfl, trivial⟩ trivial, resA1 (v := .c (.bool false)) rfl rfl, rfl⟩
set_option maxRecDepth 100000 in
set_option maxHeartbeats 8000000 in
theorem chargenetref39_named_ok (F : Nat) (a0_roles : List SRole) (a1_name : ByteArray) (r : Int) (h : chargenetref39_named F a0_roles a1_name = some r) :
    SFun Try.prog 32 [] [.c (.vec a0_roles.length 4 (gL cSRole dSRole a0_roles)), .c (.str a1_name)] (fun x _ => x = .c (.int .i64 r)) := by
  refine SFun.of (n := 20) Try.func32 rfl rfl rfl ?_
  unfold chargenetref39_named at h
  show SCode _ _ _ ⟨[(0, .c (.vec a0_roles.length 4 (gL cSRole dSRole a0_roles))), (1, .c (.str a1_name))], []⟩ _
  refine SCode.seq ?_
  refine SCode.region (show SOps _ _ _ [0] _ _ from ?_)
  refine SOps.q rfl (.plain rfl) rfl (q_assign rfl rfl) ?_
  refine SOps.sub (st' := ⟨[(0, .c (.vec a0_roles.length 4 (gL cSRole dSRole a0_roles))), (1, .c (.str a1_name))], []⟩) (sub_gen [] rfl rfl ⟨zc rfl rfl, zc rfl rfl, trivial⟩ trivial) ?_
  refine SOps.nil ?_
  refine SCode.join (σ := Unit) (S := fun s => ⟨[], []⟩) (g := fun s => chargenetref39_named_p1 = some r) ?_ ?_
  rotate_left
  · refine SCode.seq ?_
    refine SCode.region (show SOps _ _ _ [0] _ _ from ?_)
    refine SOps.q rfl (.plain rfl) rfl (q_assign rfl rfl) ?_
    refine SOps.sub (st' := ⟨[(0, .c (.vec a0_roles.length 4 (gL cSRole dSRole a0_roles))), (1, .c (.str a1_name)), (5, .c (.int .i64 0))], []⟩) (sub_gen [] rfl rfl ⟨zc rfl rfl, zc rfl rfl, zc rfl rfl, trivial⟩ trivial) ?_
    refine SOps.nil ?_
    refine SCode.block ?_
    refine SCode.sub (st' := ⟨[(0, .c (.vec a0_roles.length 4 (gL cSRole dSRole a0_roles))), (1, .c (.str a1_name)), (5, .c (.int .i64 0))], []⟩) (sub_gen [] rfl rfl ⟨zc rfl rfl, zc rfl rfl, zc rfl rfl, trivial⟩ trivial) ?_
    refine (SCode.loop (σ := Nat × Int) (S := fun s => ⟨[(0, .c (.vec a0_roles.length 4 (gL cSRole dSRole a0_roles))), (1, .c (.str a1_name)), (5, .c (.int .i64 s.2))], []⟩) (g := fun s => chargenetref39_named_l9 a0_roles a1_name s.1 s.2 = some r) (μ := fun s => s.1) (F, 0) h ?_)
    rintro ⟨n_9, i_5⟩ h
    replace h : chargenetref39_named_l9 a0_roles a1_name n_9 i_5 = some r := h
    show SCode _ _ _ ⟨[(0, .c (.vec a0_roles.length 4 (gL cSRole dSRole a0_roles))), (1, .c (.str a1_name)), (5, .c (.int .i64 i_5))], []⟩ _
    cases n_9 with
    | zero => cases h
    | succ n_9 =>
      replace h : chargenetref39_named_b9 a0_roles a1_name (fun i_5 => chargenetref39_named_l9 a0_roles a1_name n_9 i_5) i_5 = some r := h
      unfold chargenetref39_named_b9 at h
      refine SCode.seq ?_
      refine SCode.seq ?_
      refine SCode.region (show SOps _ _ _ [0, 1, 2, 3] _ _ from ?_)
      refine SOps.q rfl (.plain rfl) rfl (q_move rfl rfl) ?_
      refine SOps.q rfl (.plain rfl) rfl (q_move rfl rfl) ?_
      refine SOps.q rfl (.plain rfl) rfl (q_len_vec rfl rfl sl22) ?_
      refine SOps.q rfl (.plain rfl) rfl (q_lss rfl rfl rfl) ?_
      refine SOps.sub (st' := ⟨[(0, .c (.vec a0_roles.length 4 (gL cSRole dSRole a0_roles))), (1, .c (.str a1_name)), (5, .c (.int .i64 i_5)), (9, .c (.bool (decide (i_5 < ((a0_roles).length : Int)))))], []⟩) (sub_gen [] rfl rfl ⟨zc rfl rfl, zc rfl rfl, zc rfl rfl, zc rfl rfl, trivial⟩ trivial) ?_
      refine SOps.nil ?_
      rcases cond_out h with ⟨g10, h⟩ | ⟨g10, h⟩
      · refine SCode.cond_t rfl g10 ?_
        refine SCode.skip ?_
        refine SCode.seq ?_
        refine SCode.block ?_
        refine SCode.seq ?_
        obtain ⟨g11, h⟩ := guard_out h
        refine SCode.region (show SOps _ _ _ [0, 1, 2, 3, 4, 5, 6] _ _ from ?_)
        refine SOps.q rfl (.plain rfl) rfl (q_move rfl rfl) ?_
        refine SOps.q rfl (.plain rfl) rfl (q_move rfl rfl) ?_
        refine SOps.q rfl (.plain rfl) rfl (q_index_vec rfl rfl rfl sl22 rfl g11.1 g11.2) ?_
        refine SOps.q rfl (.plain rfl) rfl (q_field_eptr rfl rfl fd51_0 rfl) ?_
        refine SOps.q rfl (.plain rfl) rfl (q_load_eptr rfl rfl ty9) ?_
        refine SOps.q rfl (.plain rfl) rfl (q_move rfl rfl) ?_
        refine SOps.q rfl (.plain rfl) rfl (q_eqlS rfl rfl rfl) ?_
        refine SOps.sub (st' := ⟨[(0, .c (.vec a0_roles.length 4 (gL cSRole dSRole a0_roles))), (1, .c (.str a1_name)), (5, .c (.int .i64 i_5)), (18, .c (.bool (sEq ((a0_roles.getD i_5.toNat dSRole).Name) a1_name)))], []⟩) (sub_gen [] rfl rfl ⟨zc rfl rfl, zc rfl rfl, zc rfl rfl, zc rfl rfl, trivial⟩ trivial) ?_
        refine SOps.nil ?_
        rcases cond_out h with ⟨g12, h⟩ | ⟨g12, h⟩
        · refine SCode.cond_t rfl g12 ?_
          refine SCode.seq ?_
          refine SCode.region (show SOps _ _ _ [0, 1] _ _ from ?_)
          refine SOps.q rfl (.plain rfl) rfl (q_move rfl rfl) ?_
          refine SOps.q rfl (.plain rfl) rfl (q_assign rfl rfl) ?_
          refine SOps.sub (st' := ⟨[(4, .c (.int .i64 i_5))], []⟩) (sub_gen [] rfl rfl ⟨zc rfl rfl, trivial⟩ trivial) ?_
          refine SOps.nil ?_
          refine SCode.ret ?_
          obtain rfl := Option.some.inj h
          exact ⟨⟨[(4, .c (.int .i64 i_5))], []⟩, _, sub_gen [] rfl rfl ⟨zc rfl rfl, trivial⟩ trivial, resA1 (v := .c (.int .i64 i_5)) rfl rfl, rfl⟩
        refine SCode.cond_f rfl g12 ?_
        refine SCode.skip ?_
        refine SCode.region (show SOps _ _ _ [0, 1, 2] _ _ from ?_)
        refine SOps.q rfl (.plain rfl) rfl (q_move rfl rfl) ?_
        refine SOps.q rfl (.plain rfl) rfl (q_add rfl rfl rfl) ?_
        refine SOps.q rfl (.plain rfl) rfl (q_assign rfl rfl) ?_
        refine SOps.sub (st' := ⟨[(0, .c (.vec a0_roles.length 4 (gL cSRole dSRole a0_roles))), (1, .c (.str a1_name)), (5, .c (.int .i64 (IntKind.wrap .i64 (i_5 + 1))))], []⟩) (sub_gen [] rfl rfl ⟨zc rfl rfl, zc rfl rfl, zc rfl rfl, trivial⟩ trivial) ?_
        refine SOps.nil ?_
        exact ⟨(n_9, IntKind.wrap .i64 (i_5 + 1)), h, Nat.lt_succ_self n_9, sub_gen [] rfl rfl ⟨zc rfl rfl, zc rfl rfl, zc rfl rfl, trivial⟩ trivial⟩
      refine SCode.cond_f rfl g10 ?_
      refine SCode.exit ?_
      exact ⟨(), h, sub_gen [] rfl rfl trivial trivial⟩
  rintro ⟨⟩ h
  show SCode _ _ _ ⟨[], []⟩ _
  replace h : chargenetref39_named_p1 = some r := h
  unfold chargenetref39_named_p1 at h
  refine SCode.seq ?_
  refine SCode.region (show SOps _ _ _ [0] _ _ from ?_)
  refine SOps.q rfl (.plain rfl) rfl (q_assign rfl rfl) ?_
  refine SOps.sub (st' := ⟨[(4, .c (.int .i64 ((-1))))], []⟩) (sub_gen [] rfl rfl ⟨zc rfl rfl, trivial⟩ trivial) ?_
  refine SOps.nil ?_
  refine SCode.ret ?_
  obtain rfl := Option.some.inj h
  exact ⟨⟨[(4, .c (.int .i64 ((-1))))], []⟩, _, sub_gen [] rfl rfl ⟨zc rfl rfl, trivial⟩ trivial, resA1 (v := .c (.int .i64 ((-1)))) rfl rfl, rfl⟩
set_option maxRecDepth 100000 in
set_option maxHeartbeats 8000000 in
theorem chargenetref01_Capital_ok (F : Nat) (a0_c : Int) (r : Int) (h : chargenetref01_Capital F a0_c = some r) :
    SFun Try.prog 59 [] [.c (.int .u8 a0_c)] (fun x _ => x = .c (.int .u8 r)) := by
  refine SFun.of (n := 12) Try.func59 rfl rfl rfl ?_
  unfold chargenetref01_Capital at h
  show SCode _ _ _ ⟨[(0, .c (.int .u8 a0_c))], []⟩ _
  refine SCode.seq ?_
  refine SCode.region (show SOps _ _ _ [0] _ _ from ?_)
  refine SOps.q rfl (.plain rfl) rfl (q_assign rfl rfl) ?_
  refine SOps.sub (st' := ⟨[(0, .c (.int .u8 a0_c))], []⟩) (sub_gen [] rfl rfl ⟨zc rfl rfl, trivial⟩ trivial) ?_
  refine SOps.nil ?_
  refine SCode.join (σ := Unit) (S := fun s => ⟨[(0, .c (.int .u8 a0_c))], []⟩) (g := fun s => chargenetref01_Capital_p1 a0_c = some r) ?_ ?_
  rotate_left
  · refine SCode.seq ?_
    rcases cond_out h with ⟨g2, h⟩ | ⟨g2, h⟩
    · refine SCode.region (show SOps _ _ _ [0, 1, 2, 3, 4, 5] _ _ from ?_)
      refine SOps.q rfl (.plain rfl) rfl (q_move rfl rfl) ?_
      refine SOps.q rfl (.plain rfl) rfl (q_geq rfl rfl rfl) ?_
      refine SOps.q rfl (.plain rfl) rfl (q_move rfl rfl) ?_
      refine SOps.q rfl (.guard 2 5 true rfl rfl (gT g2)) rfl (q_move rfl rfl) ?_
      refine SOps.q rfl (.guard 2 5 true rfl rfl (gT g2)) rfl (q_leq rfl rfl rfl) ?_
      refine SOps.q rfl (.plain rfl) rfl (q_pick_t rfl rfl g2 rfl) ?_
      refine SOps.sub (st' := ⟨[(0, .c (.int .u8 a0_c)), (8, .c (.bool (decide (a0_c ≤ 122))))], []⟩) (sub_gen [] rfl rfl ⟨zc rfl rfl, zc rfl rfl, trivial⟩ trivial) ?_
      refine SOps.nil ?_
      rcases cond_out h with ⟨g3, h⟩ | ⟨g3, h⟩
      · refine SCode.cond_t rfl g3 ?_
        refine SCode.seq ?_
        refine SCode.region (show SOps _ _ _ [0, 1, 2] _ _ from ?_)
        refine SOps.q rfl (.plain rfl) rfl (q_move rfl rfl) ?_
        refine SOps.q rfl (.plain rfl) rfl (q_sub rfl rfl rfl) ?_
        refine SOps.q rfl (.plain rfl) rfl (q_assign rfl rfl) ?_
        refine SOps.sub (st' := ⟨[(2, .c (.int .u8 (IntKind.wrap .u8 (a0_c - 32))))], []⟩) (sub_gen [] rfl rfl ⟨zc rfl rfl, trivial⟩ trivial) ?_
        refine SOps.nil ?_
        refine SCode.ret ?_
        obtain rfl := Option.some.inj h
        exact ⟨⟨[(2, .c (.int .u8 (IntKind.wrap .u8 (a0_c - 32))))], []⟩, _, sub_gen [] rfl rfl ⟨zc rfl rfl, trivial⟩ trivial, resA1 (v := .c (.int .u8 (IntKind.wrap .u8 (a0_c - 32)))) rfl rfl, rfl⟩
      refine SCode.cond_f rfl g3 ?_
      refine SCode.skip ?_
      exact ⟨(), h, sub_gen [] rfl rfl ⟨zc rfl rfl, trivial⟩ trivial⟩
    refine SCode.region (show SOps _ _ _ [0, 1, 2, 3, 4, 5] _ _ from ?_)
    refine SOps.q rfl (.plain rfl) rfl (q_move rfl rfl) ?_
    refine SOps.q rfl (.plain rfl) rfl (q_geq rfl rfl rfl) ?_
    refine SOps.q rfl (.plain rfl) rfl (q_move rfl rfl) ?_
    refine SOps.skip rfl 2 5 true rfl rfl (.inl (gF g2)) rfl ?_
    refine SOps.skip rfl 2 5 true rfl rfl (.inl (gF g2)) rfl ?_
    refine SOps.q rfl (.plain rfl) rfl (q_pick_f rfl rfl g2 rfl) ?_
    refine SOps.sub (st' := ⟨[(0, .c (.int .u8 a0_c)), (8, .c (.bool false))], []⟩) (sub_gen [] rfl rfl ⟨zc rfl rfl, zc rfl rfl, trivial⟩ trivial) ?_
    refine SOps.nil ?_
    refine SCode.cond_f rfl rfl ?_
    refine SCode.skip ?_
    exact ⟨(), h, sub_gen [] rfl rfl ⟨zc rfl rfl, trivial⟩ trivial⟩
  rintro ⟨⟩ h
  show SCode _ _ _ ⟨[(0, .c (.int .u8 a0_c))], []⟩ _
  replace h : chargenetref01_Capital_p1 a0_c = some r := h
  unfold chargenetref01_Capital_p1 at h
  refine SCode.seq ?_
  refine SCode.region (show SOps _ _ _ [0, 1] _ _ from ?_)
  refine SOps.q rfl (.plain rfl) rfl (q_move rfl rfl) ?_
  refine SOps.q rfl (.plain rfl) rfl (q_assign rfl rfl) ?_
  refine SOps.sub (st' := ⟨[(2, .c (.int .u8 a0_c))], []⟩) (sub_gen [] rfl rfl ⟨zc rfl rfl, trivial⟩ trivial) ?_
  refine SOps.nil ?_
  refine SCode.ret ?_
  obtain rfl := Option.some.inj h
  exact ⟨⟨[(2, .c (.int .u8 a0_c))], []⟩, _, sub_gen [] rfl rfl ⟨zc rfl rfl, trivial⟩ trivial, resA1 (v := .c (.int .u8 a0_c)) rfl rfl, rfl⟩
set_option maxRecDepth 100000 in
set_option maxHeartbeats 8000000 in
theorem chargenetref01_Value_ok (F : Nat) (a0_c : Int) (r : Int) (h : chargenetref01_Value F a0_c = some r) :
    SFun Try.prog 45 [] [.c (.int .u8 a0_c)] (fun x _ => x = .c (.int .i64 r)) := by
  refine SFun.of (n := 14) Try.func45 rfl rfl rfl ?_
  unfold chargenetref01_Value at h
  show SCode _ _ _ ⟨[(0, .c (.int .u8 a0_c))], []⟩ _
  refine SCode.seq ?_
  refine SCode.region (show SOps _ _ _ [0] _ _ from ?_)
  refine SOps.q rfl (.plain rfl) rfl (q_assign rfl rfl) ?_
  refine SOps.sub (st' := ⟨[(0, .c (.int .u8 a0_c))], []⟩) (sub_gen [] rfl rfl ⟨zc rfl rfl, trivial⟩ trivial) ?_
  refine SOps.nil ?_
  refine SCode.join (σ := Unit) (S := fun s => ⟨[], []⟩) (g := fun s => chargenetref01_Value_p1 = some r) ?_ ?_
  rotate_left
  · refine SCode.seq ?_
    refine SCode.region (show SOps _ _ _ [0] _ _ from ?_)
    refine SOps.q rfl (.plain rfl) rfl (q_assign rfl rfl) ?_
    refine SOps.sub (st' := ⟨[(0, .c (.int .u8 a0_c)), (3, .c (.int .i64 0))], []⟩) (sub_gen [] rfl rfl ⟨zc rfl rfl, zc rfl rfl, trivial⟩ trivial) ?_
    refine SOps.nil ?_
    refine SCode.block ?_
    refine SCode.sub (st' := ⟨[(0, .c (.int .u8 a0_c)), (3, .c (.int .i64 0))], []⟩) (sub_gen [] rfl rfl ⟨zc rfl rfl, zc rfl rfl, trivial⟩ trivial) ?_
    refine (SCode.loop (σ := Nat × Int) (S := fun s => ⟨[(0, .c (.int .u8 a0_c)), (3, .c (.int .i64 s.2))], []⟩) (g := fun s => chargenetref01_Value_l13 F a0_c s.1 s.2 = some r) (μ := fun s => s.1) (F, 0) h ?_)
    rintro ⟨n_13, v_7⟩ h
    replace h : chargenetref01_Value_l13 F a0_c n_13 v_7 = some r := h
    show SCode _ _ _ ⟨[(0, .c (.int .u8 a0_c)), (3, .c (.int .i64 v_7))], []⟩ _
    cases n_13 with
    | zero => cases h
    | succ n_13 =>
      replace h : chargenetref01_Value_b13 F a0_c (fun v_7 => chargenetref01_Value_l13 F a0_c n_13 v_7) v_7 = some r := h
      unfold chargenetref01_Value_b13 at h
      refine SCode.seq ?_
      refine SCode.seq ?_
      refine SCode.region (show SOps _ _ _ [0, 1] _ _ from ?_)
      refine SOps.q rfl (.plain rfl) rfl (q_move rfl rfl) ?_
      refine SOps.q rfl (.plain rfl) rfl (q_lss rfl rfl rfl) ?_
      refine SOps.sub (st' := ⟨[(0, .c (.int .u8 a0_c)), (3, .c (.int .i64 v_7)), (5, .c (.bool (decide (v_7 < 36))))], []⟩) (sub_gen [] rfl rfl ⟨zc rfl rfl, zc rfl rfl, zc rfl rfl, trivial⟩ trivial) ?_
      refine SOps.nil ?_
      rcases cond_out h with ⟨g14, h⟩ | ⟨g14, h⟩
      · refine SCode.cond_t rfl g14 ?_
        refine SCode.skip ?_
        refine SCode.seq ?_
        refine SCode.block ?_
        refine SCode.seq ?_
        obtain ⟨g15, h⟩ := guard_out h
        obtain ⟨c_16, g17, h⟩ := bind_out h
        try dsimp only at h
        refine SCode.draw (s' := [(12, .c (.bool (decide (sGet (ByteArray.mk #[48, 49, 50, 51, 52, 53, 54, 55, 56, 57, 65, 66, 67, 68, 69, 70, 71, 72, 73, 74, 75, 76, 77, 78, 79, 80, 81, 82, 83, 84, 85, 86, 87, 88, 89, 90]) v_7.toNat = c_16)))), (11, .c (.int .u8 c_16)), (10, .c (.int .u8 a0_c)), (9, .c (.int .u8 (sGet (ByteArray.mk #[48, 49, 50, 51, 52, 53, 54, 55, 56, 57, 65, 66, 67, 68, 69, 70, 71, 72, 73, 74, 75, 76, 77, 78, 79, 80, 81, 82, 83, 84, 85, 86, 87, 88, 89, 90]) v_7.toNat))), (8, .c (.int .i64 v_7)), (0, .c (.int .u8 a0_c)), (3, .c (.int .i64 v_7)), (5, .c (.bool (decide (v_7 < 36))))]) mixed [[], [0], [], [2], [0, 1, 2, 3]] 5 0 rfl rfl ?_ ?_
        · refine QChain.run rfl (.plain rfl) rfl (q_move rfl rfl) ?_
          refine QChain.run rfl (.plain rfl) rfl (q_index_str rfl rfl rfl un9 g15.1 g15.2) ?_
          refine QChain.run rfl (.plain rfl) rfl (q_move rfl rfl) ?_
          refine QChain.run rfl (.plain rfl) rfl (q_call (chargenetref01_Capital_ok F a0_c c_16 g17) [] rfl fn59 ⟨⟨_, rfl, .inl ⟨rfl, rfl⟩⟩, trivial⟩ (.inl rfl)) ?_
          refine QChain.run rfl (.plain rfl) rfl (q_eql rfl rfl rfl) ?_
          exact QChain.nil _ _
        refine (show SOps _ _ _ [] _ _ from ?_)
        refine SOps.sub (st' := ⟨[(0, .c (.int .u8 a0_c)), (3, .c (.int .i64 v_7)), (12, .c (.bool (decide (sGet (ByteArray.mk #[48, 49, 50, 51, 52, 53, 54, 55, 56, 57, 65, 66, 67, 68, 69, 70, 71, 72, 73, 74, 75, 76, 77, 78, 79, 80, 81, 82, 83, 84, 85, 86, 87, 88, 89, 90]) v_7.toNat = c_16))))], []⟩) (sub_gen [] rfl rfl ⟨zc rfl rfl, zc rfl rfl, zc rfl rfl, trivial⟩ trivial) ?_
        refine SOps.nil ?_
        rcases cond_out h with ⟨g18, h⟩ | ⟨g18, h⟩
        · refine SCode.cond_t rfl g18 ?_
          refine SCode.seq ?_
          refine SCode.region (show SOps _ _ _ [0, 1] _ _ from ?_)
          refine SOps.q rfl (.plain rfl) rfl (q_move rfl rfl) ?_
          refine SOps.q rfl (.plain rfl) rfl (q_assign rfl rfl) ?_
          refine SOps.sub (st' := ⟨[(2, .c (.int .i64 v_7))], []⟩) (sub_gen [] rfl rfl ⟨zc rfl rfl, trivial⟩ trivial) ?_
          refine SOps.nil ?_
          refine SCode.ret ?_
          obtain rfl := Option.some.inj h
          exact ⟨⟨[(2, .c (.int .i64 v_7))], []⟩, _, sub_gen [] rfl rfl ⟨zc rfl rfl, trivial⟩ trivial, resA1 (v := .c (.int .i64 v_7)) rfl rfl, rfl⟩
        refine SCode.cond_f rfl g18 ?_
        refine SCode.skip ?_
        refine SCode.region (show SOps _ _ _ [0, 1, 2] _ _ from ?_)
        refine SOps.q rfl (.plain rfl) rfl (q_move rfl rfl) ?_
        refine SOps.q rfl (.plain rfl) rfl (q_add rfl rfl rfl) ?_
        refine SOps.q rfl (.plain rfl) rfl (q_assign rfl rfl) ?_
        refine SOps.sub (st' := ⟨[(0, .c (.int .u8 a0_c)), (3, .c (.int .i64 (IntKind.wrap .i64 (v_7 + 1))))], []⟩) (sub_gen [] rfl rfl ⟨zc rfl rfl, zc rfl rfl, trivial⟩ trivial) ?_
        refine SOps.nil ?_
        exact ⟨(n_13, IntKind.wrap .i64 (v_7 + 1)), h, Nat.lt_succ_self n_13, sub_gen [] rfl rfl ⟨zc rfl rfl, zc rfl rfl, trivial⟩ trivial⟩
      refine SCode.cond_f rfl g14 ?_
      refine SCode.exit ?_
      exact ⟨(), h, sub_gen [] rfl rfl trivial trivial⟩
  rintro ⟨⟩ h
  show SCode _ _ _ ⟨[], []⟩ _
  replace h : chargenetref01_Value_p1 = some r := h
  unfold chargenetref01_Value_p1 at h
  refine SCode.seq ?_
  refine SCode.region (show SOps _ _ _ [0] _ _ from ?_)
  refine SOps.q rfl (.plain rfl) rfl (q_assign rfl rfl) ?_
  refine SOps.sub (st' := ⟨[(2, .c (.int .i64 ((-1))))], []⟩) (sub_gen [] rfl rfl ⟨zc rfl rfl, trivial⟩ trivial) ?_
  refine SOps.nil ?_
  refine SCode.ret ?_
  obtain rfl := Option.some.inj h
  exact ⟨⟨[(2, .c (.int .i64 ((-1))))], []⟩, _, sub_gen [] rfl rfl ⟨zc rfl rfl, trivial⟩ trivial, resA1 (v := .c (.int .i64 ((-1)))) rfl rfl, rfl⟩
set_option maxRecDepth 100000 in
set_option maxHeartbeats 8000000 in
theorem chargenetref01_Valid_ok (F : Nat) (a0_s : ByteArray) (r : Bool) (h : chargenetref01_Valid F a0_s = some r) :
    SFun Try.prog 40 [] [.c (.str a0_s)] (fun x _ => x = .c (.bool r)) := by
  refine SFun.of (n := 45) Try.func40 rfl rfl rfl ?_
  unfold chargenetref01_Valid at h
  show SCode _ _ _ ⟨[(0, .c (.str a0_s))], []⟩ _
  refine SCode.seq ?_
  refine SCode.region (show SOps _ _ _ [0] _ _ from ?_)
  refine SOps.q rfl (.plain rfl) rfl (q_assign rfl rfl) ?_
  refine SOps.sub (st' := ⟨[(0, .c (.str a0_s))], []⟩) (sub_gen [] rfl rfl ⟨zc rfl rfl, trivial⟩ trivial) ?_
  refine SOps.nil ?_
  refine SCode.seq ?_
  refine SCode.seq ?_
  rcases cond_out h with ⟨g1, h⟩ | ⟨g1, h⟩
  · refine SCode.region (show SOps _ _ _ [0, 1, 2, 3, 4, 5, 6, 7] _ _ from ?_)
    refine SOps.q rfl (.plain rfl) rfl (q_move rfl rfl) ?_
    refine SOps.q rfl (.plain rfl) rfl (q_len_str rfl rfl un9) ?_
    refine SOps.q rfl (.plain rfl) rfl (q_lss rfl rfl rfl) ?_
    refine SOps.q rfl (.plain rfl) rfl (q_move rfl rfl) ?_
    refine SOps.skip rfl 3 8 false rfl rfl (.inl (gT g1)) rfl ?_
    refine SOps.skip rfl 3 8 false rfl rfl (.inl (gT g1)) rfl ?_
    refine SOps.skip rfl 3 8 false rfl rfl (.inl (gT g1)) rfl ?_
    refine SOps.q rfl (.plain rfl) rfl (q_pick_t rfl rfl g1 rfl) ?_
    refine SOps.sub (st' := ⟨[(0, .c (.str a0_s)), (12, .c (.bool true))], []⟩) (sub_gen [] rfl rfl ⟨zc rfl rfl, zc rfl rfl, trivial⟩ trivial) ?_
    refine SOps.nil ?_
    refine SCode.cond_t rfl rfl ?_
    refine SCode.seq ?_
    refine SCode.region (show SOps _ _ _ [0] _ _ from ?_)
    refine SOps.q rfl (.plain rfl) rfl (q_assign rfl rfl) ?_
    refine SOps.sub (st' := ⟨[(2, .c (.bool false))], []⟩) (sub_gen [] rfl rfl ⟨zc rfl rfl, trivial⟩ trivial) ?_
    refine SOps.nil ?_
    refine SCode.ret ?_
    obtain rfl := Option.some.inj h
    exact ⟨⟨[(2, .c (.bool false))], []⟩, _, sub_gen [] rfl rfl ⟨zc rfl rfl, trivial⟩ trivial, resA1 (v := .c (.bool false)) rfl rfl, rfl⟩
  refine SCode.region (show SOps _ _ _ [0, 1, 2, 3, 4, 5, 6, 7] _ _ from ?_)
  refine SOps.q rfl (.plain rfl) rfl (q_move rfl rfl) ?_
  refine SOps.q rfl (.plain rfl) rfl (q_len_str rfl rfl un9) ?_
  refine SOps.q rfl (.plain rfl) rfl (q_lss rfl rfl rfl) ?_
  refine SOps.q rfl (.plain rfl) rfl (q_move rfl rfl) ?_
  refine SOps.q rfl (.guard 3 8 false rfl rfl (gF g1)) rfl (q_move rfl rfl) ?_
  refine SOps.q rfl (.guard 3 8 false rfl rfl (gF g1)) rfl (q_len_str rfl rfl un9) ?_
  refine SOps.q rfl (.guard 3 8 false rfl rfl (gF g1)) rfl (q_gtr rfl rfl rfl) ?_
  refine SOps.q rfl (.plain rfl) rfl (q_pick_f rfl rfl g1 rfl) ?_
  refine SOps.sub (st' := ⟨[(0, .c (.str a0_s)), (12, .c (.bool (decide (36 < (a0_s.size : Int)))))], []⟩) (sub_gen [] rfl rfl ⟨zc rfl rfl, zc rfl rfl, trivial⟩ trivial) ?_
  refine SOps.nil ?_
  rcases cond_out h with ⟨g2, h⟩ | ⟨g2, h⟩
  · refine SCode.cond_t rfl g2 ?_
    refine SCode.seq ?_
    refine SCode.region (show SOps _ _ _ [0] _ _ from ?_)
    refine SOps.q rfl (.plain rfl) rfl (q_assign rfl rfl) ?_
    refine SOps.sub (st' := ⟨[(2, .c (.bool false))], []⟩) (sub_gen [] rfl rfl ⟨zc rfl rfl, trivial⟩ trivial) ?_
    refine SOps.nil ?_
    refine SCode.ret ?_
    obtain rfl := Option.some.inj h
    exact ⟨⟨[(2, .c (.bool false))], []⟩, _, sub_gen [] rfl rfl ⟨zc rfl rfl, trivial⟩ trivial, resA1 (v := .c (.bool false)) rfl rfl, rfl⟩
  refine SCode.cond_f rfl g2 ?_
  refine SCode.skip ?_
  refine SCode.join (σ := Unit) (S := fun s => ⟨[], []⟩) (g := fun s => chargenetref01_Valid_p3 = some r) ?_ ?_
  rotate_left
  · refine SCode.seq ?_
    refine SCode.region (show SOps _ _ _ [0] _ _ from ?_)
    refine SOps.q rfl (.plain rfl) rfl (q_assign rfl rfl) ?_
    refine SOps.sub (st' := ⟨[(0, .c (.str a0_s)), (3, .c (.int .i64 0))], []⟩) (sub_gen [] rfl rfl ⟨zc rfl rfl, zc rfl rfl, trivial⟩ trivial) ?_
    refine SOps.nil ?_
    refine SCode.block ?_
    refine SCode.sub (st' := ⟨[(0, .c (.str a0_s)), (3, .c (.int .i64 0))], []⟩) (sub_gen [] rfl rfl ⟨zc rfl rfl, zc rfl rfl, trivial⟩ trivial) ?_
    refine (SCode.loop (σ := Nat × Int) (S := fun s => ⟨[(0, .c (.str a0_s)), (3, .c (.int .i64 s.2))], []⟩) (g := fun s => chargenetref01_Valid_l27 F a0_s s.1 s.2 = some r) (μ := fun s => s.1) (F, 0) h ?_)
    rintro ⟨n_27, i_15⟩ h
    replace h : chargenetref01_Valid_l27 F a0_s n_27 i_15 = some r := h
    show SCode _ _ _ ⟨[(0, .c (.str a0_s)), (3, .c (.int .i64 i_15))], []⟩ _
    cases n_27 with
    | zero => cases h
    | succ n_27 =>
      replace h : chargenetref01_Valid_b27 F a0_s (fun i_15 => chargenetref01_Valid_l27 F a0_s n_27 i_15) i_15 = some r := h
      unfold chargenetref01_Valid_b27 at h
      refine SCode.seq ?_
      refine SCode.seq ?_
      refine SCode.region (show SOps _ _ _ [0, 1, 2, 3] _ _ from ?_)
      refine SOps.q rfl (.plain rfl) rfl (q_move rfl rfl) ?_
      refine SOps.q rfl (.plain rfl) rfl (q_move rfl rfl) ?_
      refine SOps.q rfl (.plain rfl) rfl (q_len_str rfl rfl un9) ?_
      refine SOps.q rfl (.plain rfl) rfl (q_lss rfl rfl rfl) ?_
      refine SOps.sub (st' := ⟨[(0, .c (.str a0_s)), (3, .c (.int .i64 i_15)), (16, .c (.bool (decide (i_15 < (a0_s.size : Int)))))], []⟩) (sub_gen [] rfl rfl ⟨zc rfl rfl, zc rfl rfl, zc rfl rfl, trivial⟩ trivial) ?_
      refine SOps.nil ?_
      rcases cond_out h with ⟨g28, h⟩ | ⟨g28, h⟩
      · refine SCode.cond_t rfl g28 ?_
        refine SCode.skip ?_
        refine SCode.join (σ := Unit) (S := fun s => ⟨[(0, .c (.str a0_s)), (3, .c (.int .i64 i_15))], []⟩) (g := fun s => chargenetref01_Valid_p29 i_15 (fun i_15 => chargenetref01_Valid_l27 F a0_s n_27 i_15) = some r) ?_ ?_
        rotate_left
        · refine SCode.block ?_
          refine SCode.seq ?_
          obtain ⟨g30, h⟩ := guard_out h
          refine SCode.region (show SOps _ _ _ [0, 1, 2, 3] _ _ from ?_)
          refine SOps.q rfl (.plain rfl) rfl (q_move rfl rfl) ?_
          refine SOps.q rfl (.plain rfl) rfl (q_move rfl rfl) ?_
          refine SOps.q rfl (.plain rfl) rfl (q_index_str rfl rfl rfl un9 g30.1 g30.2) ?_
          refine SOps.q rfl (.plain rfl) rfl (q_assign rfl rfl) ?_
          refine SOps.sub (st' := ⟨[(0, .c (.str a0_s)), (3, .c (.int .i64 i_15)), (4, .c (.int .u8 (sGet a0_s i_15.toNat)))], []⟩) (sub_gen [] rfl rfl ⟨zc rfl rfl, zc rfl rfl, zc rfl rfl, trivial⟩ trivial) ?_
          refine SOps.nil ?_
          refine SCode.seq ?_
          obtain ⟨c_31, g32, h⟩ := bind_out h
          try dsimp only at h
          rcases cond_out h with ⟨g33, h⟩ | ⟨g33, h⟩
          · rcases cond_out h with ⟨g34, h⟩ | ⟨g34, h⟩
            · rcases cond_out h with ⟨g35, h⟩ | ⟨g35, h⟩
              · rcases cond_out h with ⟨g36, h⟩ | ⟨g36, h⟩
                · rcases cond_out h with ⟨g37, h⟩ | ⟨g37, h⟩
                  · refine SCode.region (show SOps _ _ _ [0, 1, 2, 3, 4, 5, 6, 7, 8, 9, 10, 11, 12, 13, 14, 15, 16, 17, 18, 19, 20, 21, 22] _ _ from ?_)
                    refine SOps.q rfl (.plain rfl) rfl (q_move rfl rfl) ?_
                    refine SOps.q rfl (.plain rfl) rfl (q_call (chargenetref01_Value_ok F (sGet a0_s i_15.toNat) c_31 g32) [] rfl fn45 ⟨⟨_, rfl, .inl ⟨rfl, rfl⟩⟩, trivial⟩ (.inl rfl)) ?_
                    refine SOps.q rfl (.plain rfl) rfl (q_lss rfl rfl rfl) ?_
                    refine SOps.q rfl (.plain rfl) rfl (q_move rfl rfl) ?_
                    refine SOps.q rfl (.guard 3 25 true rfl rfl (gT g33)) rfl (q_move rfl rfl) ?_
                    refine SOps.q rfl (.guard 3 25 true rfl rfl (gT g33)) rfl (q_neq rfl rfl rfl) ?_
                    refine SOps.q rfl (.plain rfl) rfl (q_pick_t rfl rfl g33 rfl) ?_
                    refine SOps.q rfl (.plain rfl) rfl (q_move rfl rfl) ?_
                    refine SOps.q rfl (.guard 7 29 true rfl rfl (gT g34)) rfl (q_move rfl rfl) ?_
                    refine SOps.q rfl (.guard 7 29 true rfl rfl (gT g34)) rfl (q_neq rfl rfl rfl) ?_
                    refine SOps.q rfl (.plain rfl) rfl (q_pick_t rfl rfl g34 rfl) ?_
                    refine SOps.q rfl (.plain rfl) rfl (q_move rfl rfl) ?_
                    refine SOps.q rfl (.guard 11 33 true rfl rfl (gT g35)) rfl (q_move rfl rfl) ?_
                    refine SOps.q rfl (.guard 11 33 true rfl rfl (gT g35)) rfl (q_neq rfl rfl rfl) ?_
                    refine SOps.q rfl (.plain rfl) rfl (q_pick_t rfl rfl g35 rfl) ?_
                    refine SOps.q rfl (.plain rfl) rfl (q_move rfl rfl) ?_
                    refine SOps.q rfl (.guard 15 37 true rfl rfl (gT g36)) rfl (q_move rfl rfl) ?_
                    refine SOps.q rfl (.guard 15 37 true rfl rfl (gT g36)) rfl (q_neq rfl rfl rfl) ?_
                    refine SOps.q rfl (.plain rfl) rfl (q_pick_t rfl rfl g36 rfl) ?_
                    refine SOps.q rfl (.plain rfl) rfl (q_move rfl rfl) ?_
                    refine SOps.q rfl (.guard 19 41 true rfl rfl (gT g37)) rfl (q_move rfl rfl) ?_
                    refine SOps.q rfl (.guard 19 41 true rfl rfl (gT g37)) rfl (q_neq rfl rfl rfl) ?_
                    refine SOps.q rfl (.plain rfl) rfl (q_pick_t rfl rfl g37 rfl) ?_
                    refine SOps.sub (st' := ⟨[(0, .c (.str a0_s)), (3, .c (.int .i64 i_15)), (44, .c (.bool ((!decide (sGet a0_s i_15.toNat = 42)))))], []⟩) (sub_gen [] rfl rfl ⟨zc rfl rfl, zc rfl rfl, zc rfl rfl, trivial⟩ trivial) ?_
                    refine SOps.nil ?_
                    rcases cond_out h with ⟨g38, h⟩ | ⟨g38, h⟩
                    · refine SCode.cond_t rfl g38 ?_
                      refine SCode.seq ?_
                      refine SCode.region (show SOps _ _ _ [0] _ _ from ?_)
                      refine SOps.q rfl (.plain rfl) rfl (q_assign rfl rfl) ?_
                      refine SOps.sub (st' := ⟨[(2, .c (.bool false))], []⟩) (sub_gen [] rfl rfl ⟨zc rfl rfl, trivial⟩ trivial) ?_
                      refine SOps.nil ?_
                      refine SCode.ret ?_
                      obtain rfl := Option.some.inj h
                      exact ⟨⟨[(2, .c (.bool false))], []⟩, _, sub_gen [] rfl rfl ⟨zc rfl rfl, trivial⟩ trivial, resA1 (v := .c (.bool false)) rfl rfl, rfl⟩
                    refine SCode.cond_f rfl g38 ?_
                    refine SCode.skip ?_
                    exact ⟨(), h, sub_gen [] rfl rfl ⟨zc rfl rfl, zc rfl rfl, trivial⟩ trivial⟩
                  refine SCode.region (show SOps _ _ _ [0, 1, 2, 3, 4, 5, 6, 7, 8, 9, 10, 11, 12, 13, 14, 15, 16, 17, 18, 19, 20, 21, 22] _ _ from ?_)
                  refine SOps.q rfl (.plain rfl) rfl (q_move rfl rfl) ?_
                  refine SOps.q rfl (.plain rfl) rfl (q_call (chargenetref01_Value_ok F (sGet a0_s i_15.toNat) c_31 g32) [] rfl fn45 ⟨⟨_, rfl, .inl ⟨rfl, rfl⟩⟩, trivial⟩ (.inl rfl)) ?_
                  refine SOps.q rfl (.plain rfl) rfl (q_lss rfl rfl rfl) ?_
                  refine SOps.q rfl (.plain rfl) rfl (q_move rfl rfl) ?_
                  refine SOps.q rfl (.guard 3 25 true rfl rfl (gT g33)) rfl (q_move rfl rfl) ?_
                  refine SOps.q rfl (.guard 3 25 true rfl rfl (gT g33)) rfl (q_neq rfl rfl rfl) ?_
                  refine SOps.q rfl (.plain rfl) rfl (q_pick_t rfl rfl g33 rfl) ?_
                  refine SOps.q rfl (.plain rfl) rfl (q_move rfl rfl) ?_
                  refine SOps.q rfl (.guard 7 29 true rfl rfl (gT g34)) rfl (q_move rfl rfl) ?_
                  refine SOps.q rfl (.guard 7 29 true rfl rfl (gT g34)) rfl (q_neq rfl rfl rfl) ?_
                  refine SOps.q rfl (.plain rfl) rfl (q_pick_t rfl rfl g34 rfl) ?_
                  refine SOps.q rfl (.plain rfl) rfl (q_move rfl rfl) ?_
                  refine SOps.q rfl (.guard 11 33 true rfl rfl (gT g35)) rfl (q_move rfl rfl) ?_
                  refine SOps.q rfl (.guard 11 33 true rfl rfl (gT g35)) rfl (q_neq rfl rfl rfl) ?_
                  refine SOps.q rfl (.plain rfl) rfl (q_pick_t rfl rfl g35 rfl) ?_
                  refine SOps.q rfl (.plain rfl) rfl (q_move rfl rfl) ?_
                  refine SOps.q rfl (.guard 15 37 true rfl rfl (gT g36)) rfl (q_move rfl rfl) ?_
                  refine SOps.q rfl (.guard 15 37 true rfl rfl (gT g36)) rfl (q_neq rfl rfl rfl) ?_
                  refine SOps.q rfl (.plain rfl) rfl (q_pick_t rfl rfl g36 rfl) ?_
                  refine SOps.q rfl (.plain rfl) rfl (q_move rfl rfl) ?_
                  refine SOps.skip rfl 19 41 true rfl rfl (.inl (gF g37)) rfl ?_
                  refine SOps.skip rfl 19 41 true rfl rfl (.inl (gF g37)) rfl ?_
                  refine SOps.q rfl (.plain rfl) rfl (q_pick_f rfl rfl g37 rfl) ?_
                  refine SOps.sub (st' := ⟨[(0, .c (.str a0_s)), (3, .c (.int .i64 i_15)), (44, .c (.bool false))], []⟩) (sub_gen [] rfl rfl ⟨zc rfl rfl, zc rfl rfl, zc rfl rfl, trivial⟩ trivial) ?_
                  refine SOps.nil ?_
                  refine SCode.cond_f rfl rfl ?_
                  refine SCode.skip ?_
                  exact ⟨(), h, sub_gen [] rfl rfl ⟨zc rfl rfl, zc rfl rfl, trivial⟩ trivial⟩
                refine SCode.region (show SOps _ _ _ [0, 1, 2, 3, 4, 5, 6, 7, 8, 9, 10, 11, 12, 13, 14, 15, 16, 17, 18, 19, 20, 21, 22] _ _ from ?_)
                refine SOps.q rfl (.plain rfl) rfl (q_move rfl rfl) ?_
                refine SOps.q rfl (.plain rfl) rfl (q_call (chargenetref01_Value_ok F (sGet a0_s i_15.toNat) c_31 g32) [] rfl fn45 ⟨⟨_, rfl, .inl ⟨rfl, rfl⟩⟩, trivial⟩ (.inl rfl)) ?_
                refine SOps.q rfl (.plain rfl) rfl (q_lss rfl rfl rfl) ?_
                refine SOps.q rfl (.plain rfl) rfl (q_move rfl rfl) ?_
                refine SOps.q rfl (.guard 3 25 true rfl rfl (gT g33)) rfl (q_move rfl rfl) ?_
                refine SOps.q rfl (.guard 3 25 true rfl rfl (gT g33)) rfl (q_neq rfl rfl rfl) ?_
                refine SOps.q rfl (.plain rfl) rfl (q_pick_t rfl rfl g33 rfl) ?_
                refine SOps.q rfl (.plain rfl) rfl (q_move rfl rfl) ?_
                refine SOps.q rfl (.guard 7 29 true rfl rfl (gT g34)) rfl (q_move rfl rfl) ?_
                refine SOps.q rfl (.guard 7 29 true rfl rfl (gT g34)) rfl (q_neq rfl rfl rfl) ?_
                refine SOps.q rfl (.plain rfl) rfl (q_pick_t rfl rfl g34 rfl) ?_
                refine SOps.q rfl (.plain rfl) rfl (q_move rfl rfl) ?_
                refine SOps.q rfl (.guard 11 33 true rfl rfl (gT g35)) rfl (q_move rfl rfl) ?_
                refine SOps.q rfl (.guard 11 33 true rfl rfl (gT g35)) rfl (q_neq rfl rfl rfl) ?_
                refine SOps.q rfl (.plain rfl) rfl (q_pick_t rfl rfl g35 rfl) ?_
                refine SOps.q rfl (.plain rfl) rfl (q_move rfl rfl) ?_
                refine SOps.skip rfl 15 37 true rfl rfl (.inl (gF g36)) rfl ?_
                refine SOps.skip rfl 15 37 true rfl rfl (.inl (gF g36)) rfl ?_
                refine SOps.q rfl (.plain rfl) rfl (q_pick_f rfl rfl g36 rfl) ?_
                refine SOps.q rfl (.plain rfl) rfl (q_move rfl rfl) ?_
                refine SOps.skip rfl 19 41 true rfl rfl (.inl rfl) rfl ?_
                refine SOps.skip rfl 19 41 true rfl rfl (.inl rfl) rfl ?_
                refine SOps.q rfl (.plain rfl) rfl (q_pick_f rfl rfl rfl rfl) ?_
                refine SOps.sub (st' := ⟨[(0, .c (.str a0_s)), (3, .c (.int .i64 i_15)), (44, .c (.bool false))], []⟩) (sub_gen [] rfl rfl ⟨zc rfl rfl, zc rfl rfl, zc rfl rfl, trivial⟩ trivial) ?_
                refine SOps.nil ?_
                refine SCode.cond_f rfl rfl ?_
                refine SCode.skip ?_
                exact ⟨(), h, sub_gen [] rfl rfl ⟨zc rfl rfl, zc rfl rfl, trivial⟩ trivial⟩
              refine SCode.region (show SOps _ _ _ [0, 1, 2, 3, 4, 5, 6, 7, 8, 9, 10, 11, 12, 13, 14, 15, 16, 17, 18, 19, 20, 21, 22] _ _ from ?_)
              refine SOps.q rfl (.plain rfl) rfl (q_move rfl rfl) ?_
              refine SOps.q rfl (.plain rfl) rfl (q_call (chargenetref01_Value_ok F (sGet a0_s i_15.toNat) c_31 g32) [] rfl fn45 ⟨⟨_, rfl, .inl ⟨rfl, rfl⟩⟩, trivial⟩ (.inl rfl)) ?_
              refine SOps.q rfl (.plain rfl) rfl (q_lss rfl rfl rfl) ?_
              refine SOps.q rfl (.plain rfl) rfl (q_move rfl rfl) ?_
              refine SOps.q rfl (.guard 3 25 true rfl rfl (gT g33)) rfl (q_move rfl rfl) ?_
              refine SOps.q rfl (.guard 3 25 true rfl rfl (gT g33)) rfl (q_neq rfl rfl rfl) ?_
              refine SOps.q rfl (.plain rfl) rfl (q_pick_t rfl rfl g33 rfl) ?_
              refine SOps.q rfl (.plain rfl) rfl (q_move rfl rfl) ?_
              refine SOps.q rfl (.guard 7 29 true rfl rfl (gT g34)) rfl (q_move rfl rfl) ?_
              refine SOps.q rfl (.guard 7 29 true rfl rfl (gT g34)) rfl (q_neq rfl rfl rfl) ?_
              refine SOps.q rfl (.plain rfl) rfl (q_pick_t rfl rfl g34 rfl) ?_
              refine SOps.q rfl (.plain rfl) rfl (q_move rfl rfl) ?_
              refine SOps.skip rfl 11 33 true rfl rfl (.inl (gF g35)) rfl ?_
              refine SOps.skip rfl 11 33 true rfl rfl (.inl (gF g35)) rfl ?_
              refine SOps.q rfl (.plain rfl) rfl (q_pick_f rfl rfl g35 rfl) ?_
              refine SOps.q rfl (.plain rfl) rfl (q_move rfl rfl) ?_
              refine SOps.skip rfl 15 37 true rfl rfl (.inl rfl) rfl ?_
              refine SOps.skip rfl 15 37 true rfl rfl (.inl rfl) rfl ?_
              refine SOps.q rfl (.plain rfl) rfl (q_pick_f rfl rfl rfl rfl) ?_
              refine SOps.q rfl (.plain rfl) rfl (q_move rfl rfl) ?_
              refine SOps.skip rfl 19 41 true rfl rfl (.inl rfl) rfl ?_
              refine SOps.skip rfl 19 41 true rfl rfl (.inl rfl) rfl ?_
              refine SOps.q rfl (.plain rfl) rfl (q_pick_f rfl rfl rfl rfl) ?_
              refine SOps.sub (st' := ⟨[(0, .c (.str a0_s)), (3, .c (.int .i64 i_15)), (44, .c (.bool false))], []⟩) (sub_gen [] rfl rfl ⟨zc rfl rfl, zc rfl rfl, zc rfl rfl, trivial⟩ trivial) ?_
              refine SOps.nil ?_
              refine SCode.cond_f rfl rfl ?_
              refine SCode.skip ?_
              exact ⟨(), h, sub_gen [] rfl rfl ⟨zc rfl rfl, zc rfl rfl, trivial⟩ trivial⟩
            refine SCode.region (show SOps _ _ _ [0, 1, 2, 3, 4, 5, 6, 7, 8, 9, 10, 11, 12, 13, 14, 15, 16, 17, 18, 19, 20, 21, 22] _ _ from ?_)
            refine SOps.q rfl (.plain rfl) rfl (q_move rfl rfl) ?_
            refine SOps.q rfl (.plain rfl) rfl (q_call (chargenetref01_Value_ok F (sGet a0_s i_15.toNat) c_31 g32) [] rfl fn45 ⟨⟨_, rfl, .inl ⟨rfl, rfl⟩⟩, trivial⟩ (.inl rfl)) ?_
            refine SOps.q rfl (.plain rfl) rfl (q_lss rfl rfl rfl) ?_
            refine SOps.q rfl (.plain rfl) rfl (q_move rfl rfl) ?_
            refine SOps.q rfl (.guard 3 25 true rfl rfl (gT g33)) rfl (q_move rfl rfl) ?_
            refine SOps.q rfl (.guard 3 25 true rfl rfl (gT g33)) rfl (q_neq rfl rfl rfl) ?_
            refine SOps.q rfl (.plain rfl) rfl (q_pick_t rfl rfl g33 rfl) ?_
            refine SOps.q rfl (.plain rfl) rfl (q_move rfl rfl) ?_
            refine SOps.skip rfl 7 29 true rfl rfl (.inl (gF g34)) rfl ?_
            refine SOps.skip rfl 7 29 true rfl rfl (.inl (gF g34)) rfl ?_
            refine SOps.q rfl (.plain rfl) rfl (q_pick_f rfl rfl g34 rfl) ?_
            refine SOps.q rfl (.plain rfl) rfl (q_move rfl rfl) ?_
            refine SOps.skip rfl 11 33 true rfl rfl (.inl rfl) rfl ?_
            refine SOps.skip rfl 11 33 true rfl rfl (.inl rfl) rfl ?_
            refine SOps.q rfl (.plain rfl) rfl (q_pick_f rfl rfl rfl rfl) ?_
            refine SOps.q rfl (.plain rfl) rfl (q_move rfl rfl) ?_
            refine SOps.skip rfl 15 37 true rfl rfl (.inl rfl) rfl ?_
            refine SOps.skip rfl 15 37 true rfl rfl (.inl rfl) rfl ?_
            refine SOps.q rfl (.plain rfl) rfl (q_pick_f rfl rfl rfl rfl) ?_
            refine SOps.q rfl (.plain rfl) rfl (q_move rfl rfl) ?_
            refine SOps.skip rfl 19 41 true rfl rfl (.inl rfl) rfl ?_
            refine SOps.skip rfl 19 41 true rfl rfl (.inl rfl) rfl ?_
            refine SOps.q rfl (.plain rfl) rfl (q_pick_f rfl rfl rfl rfl) ?_
            refine SOps.sub (st' := ⟨[(0, .c (.str a0_s)), (3, .c (.int .i64 i_15)), (44, .c (.bool false))], []⟩) (sub_gen [] rfl rfl ⟨zc rfl rfl, zc rfl rfl, zc rfl rfl, trivial⟩ trivial) ?_
            refine SOps.nil ?_
            refine SCode.cond_f rfl rfl ?_
            refine SCode.skip ?_
            exact ⟨(), h, sub_gen [] rfl rfl ⟨zc rfl rfl, zc rfl rfl, trivial⟩ trivial⟩
          refine SCode.region (show SOps _ _ _ [0, 1, 2, 3, 4, 5, 6, 7, 8, 9, 10, 11, 12, 13, 14, 15, 16, 17, 18, 19, 20, 21, 22] _ _ from ?_)
          refine SOps.q rfl (.plain rfl) rfl (q_move rfl rfl) ?_
          refine SOps.q rfl (.plain rfl) rfl (q_call (chargenetref01_Value_ok F (sGet a0_s i_15.toNat) c_31 g32) [] rfl fn45 ⟨⟨_, rfl, .inl ⟨rfl, rfl⟩⟩, trivial⟩ (.inl rfl)) ?_
          refine SOps.q rfl (.plain rfl) rfl (q_lss rfl rfl rfl) ?_
          refine SOps.q rfl (.plain rfl) rfl (q_move rfl rfl) ?_
          refine SOps.skip rfl 3 25 true rfl rfl (.inl (gF g33)) rfl ?_
          refine SOps.skip rfl 3 25 true rfl rfl (.inl (gF g33)) rfl ?_
          refine SOps.q rfl (.plain rfl) rfl (q_pick_f rfl rfl g33 rfl) ?_
          refine SOps.q rfl (.plain rfl) rfl (q_move rfl rfl) ?_
          refine SOps.skip rfl 7 29 true rfl rfl (.inl rfl) rfl ?_
          refine SOps.skip rfl 7 29 true rfl rfl (.inl rfl) rfl ?_
          refine SOps.q rfl (.plain rfl) rfl (q_pick_f rfl rfl rfl rfl) ?_
          refine SOps.q rfl (.plain rfl) rfl (q_move rfl rfl) ?_
          refine SOps.skip rfl 11 33 true rfl rfl (.inl rfl) rfl ?_
          refine SOps.skip rfl 11 33 true rfl rfl (.inl rfl) rfl ?_
          refine SOps.q rfl (.plain rfl) rfl (q_pick_f rfl rfl rfl rfl) ?_
          refine SOps.q rfl (.plain rfl) rfl (q_move rfl rfl) ?_
          refine SOps.skip rfl 15 37 true rfl rfl (.inl rfl) rfl ?_
          refine SOps.skip rfl 15 37 true rfl rfl (.inl rfl) rfl ?_
          refine SOps.q rfl (.plain rfl) rfl (q_pick_f rfl rfl rfl rfl) ?_
          refine SOps.q rfl (.plain rfl) rfl (q_move rfl rfl) ?_
          refine SOps.skip rfl 19 41 true rfl rfl (.inl rfl) rfl ?_
          refine SOps.skip rfl 19 41 true rfl rfl (.inl rfl) rfl ?_
          refine SOps.q rfl (.plain rfl) rfl (q_pick_f rfl rfl rfl rfl) ?_
          refine SOps.sub (st' := ⟨[(0, .c (.str a0_s)), (3, .c (.int .i64 i_15)), (44, .c (.bool false))], []⟩) (sub_gen [] rfl rfl ⟨zc rfl rfl, zc rfl rfl, zc rfl rfl, trivial⟩ trivial) ?_
          refine SOps.nil ?_
          refine SCode.cond_f rfl rfl ?_
          refine SCode.skip ?_
          exact ⟨(), h, sub_gen [] rfl rfl ⟨zc rfl rfl, zc rfl rfl, trivial⟩ trivial⟩
        rintro ⟨⟩ h
        show SCode _ _ _ ⟨[(0, .c (.str a0_s)), (3, .c (.int .i64 i_15))], []⟩ _
        replace h : chargenetref01_Valid_p29 i_15 (fun i_15 => chargenetref01_Valid_l27 F a0_s n_27 i_15) = some r := h
        unfold chargenetref01_Valid_p29 at h
        refine SCode.region (show SOps _ _ _ [0, 1, 2] _ _ from ?_)
        refine SOps.q rfl (.plain rfl) rfl (q_move rfl rfl) ?_
        refine SOps.q rfl (.plain rfl) rfl (q_add rfl rfl rfl) ?_
        refine SOps.q rfl (.plain rfl) rfl (q_assign rfl rfl) ?_
        refine SOps.sub (st' := ⟨[(0, .c (.str a0_s)), (3, .c (.int .i64 (IntKind.wrap .i64 (i_15 + 1))))], []⟩) (sub_gen [] rfl rfl ⟨zc rfl rfl, zc rfl rfl, trivial⟩ trivial) ?_
        refine SOps.nil ?_
        exact ⟨(n_27, IntKind.wrap .i64 (i_15 + 1)), h, Nat.lt_succ_self n_27, sub_gen [] rfl rfl ⟨zc rfl rfl, zc rfl rfl, trivial⟩ trivial⟩
      refine SCode.cond_f rfl g28 ?_
      refine SCode.exit ?_
      exact ⟨(), h, sub_gen [] rfl rfl trivial trivial⟩
  rintro ⟨⟩ h
  show SCode _ _ _ ⟨[], []⟩ _
  replace h : chargenetref01_Valid_p3 = some r := h
  unfold chargenetref01_Valid_p3 at h
  refine SCode.seq ?_
  refine SCode.region (show SOps _ _ _ [0] _ _ from ?_)
  refine SOps.q rfl (.plain rfl) rfl (q_assign rfl rfl) ?_
  refine SOps.sub (st' := ⟨[(2, .c (.bool true))], []⟩) (sub_gen [] rfl rfl ⟨zc rfl rfl, trivial⟩ trivial) ?_
  refine SOps.nil ?_
  refine SCode.ret ?_
  obtain rfl := Option.some.inj h
  exact ⟨⟨[(2, .c (.bool true))], []⟩, _, sub_gen [] rfl rfl ⟨zc rfl rfl, trivial⟩ trivial, resA1 (v := .c (.bool true)) rfl rfl, rfl⟩
end Go.Proofs.Ytggfgdohbeoabaa.W
