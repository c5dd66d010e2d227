/- Written by a program of ours (wip/eng/gen.py): the functions compute their models. -/
import Derived.Test.YtfbkimhoncfnmaaFacts
import Derived.Test.YtfbkimhoncfnmaaV3x8
namespace Go.Proofs.Ytfbkimhoncfnmaa.W
open Go Go.Proofs Go.Proofs.Ytfbkimhoncfnmaa.E Go.Proofs.Ytfbkimhoncfnmaa.M
set_option linter.unusedVariables false
set_option maxRecDepth 100000 in
set_option maxHeartbeats 8000000 in
theorem chargenettop_ProfilesCompose_ok (F : Nat) (a0_x : SComposed) (a1_clear : Int) (r : Bool) (h : chargenettop_ProfilesCompose F a0_x a1_clear = some r) :
    SFun Try.prog 3 [] [.a [.vec a0_x.L.length 11 (gL cSProfile dSProfile a0_x.L), .int .i64 a0_x.Conn, .str a0_x.Txn, .int .i64 a0_x.Start, .int .i64 a0_x.T, .int .i64 a0_x.Length], .c (.int .u8 a1_clear)] (fun x _ => x = .c (.bool r)) := by
  refine SFun.of (n := 210) Try.func3 rfl rfl rfl ?_
  unfold chargenettop_ProfilesCompose at h
  show SCode _ _ _ ⟨[(0, .a [.vec a0_x.L.length 11 (gL cSProfile dSProfile a0_x.L), .int .i64 a0_x.Conn, .str a0_x.Txn, .int .i64 a0_x.Start, .int .i64 a0_x.T, .int .i64 a0_x.Length]), (1, .c (.int .u8 a1_clear))], []⟩ _
  refine SCode.seq ?_
  refine SCode.region (show SOps _ _ _ [0, 1] _ _ from ?_)
  refine SOps.e rfl (.plain rfl) (e_box rfl rfl rfl rfl rfl rfl) ?_
  refine SOps.q rfl (.plain rfl) rfl (q_assign rfl rfl) ?_
  refine SOps.sub (st' := ⟨[(1, .c (.int .u8 a1_clear)), (2, .c (.ptr 0 0))], [.box [.vec a0_x.L.length 11 (gL cSProfile dSProfile a0_x.L), .int .i64 a0_x.Conn, .str a0_x.Txn, .int .i64 a0_x.Start, .int .i64 a0_x.T, .int .i64 a0_x.Length]]⟩) (sub_gen [0] rfl rfl ⟨zc rfl rfl, zc rfl rfl, trivial⟩ ⟨⟨_, rfl, ⟨ii rfl rfl, ii rfl rfl, ii rfl rfl, ii rfl rfl, ii rfl rfl, ii rfl rfl, trivial⟩⟩, trivial⟩) ?_
  refine SOps.nil ?_
  refine SCode.seq ?_
  refine SCode.seq ?_
  rcases cond_out h with ⟨g1, h⟩ | ⟨g1, h⟩
  · refine SCode.region (show SOps _ _ _ [0, 1, 2, 3, 4, 5, 6, 7, 8, 9, 10, 11, 12, 13, 14, 15, 16, 17, 18, 19, 20, 21, 22, 23, 24, 25, 26, 27, 28, 29, 30, 31, 32, 33] _ _ from ?_)
    refine SOps.q rfl (.plain rfl) rfl (q_field_ptr rfl rfl fd24_0) ?_
    refine SOps.q rfl (.plain rfl) rfl (q_load_ptr rfl rfl rfl rfl ty22) ?_
    refine SOps.q rfl (.plain rfl) rfl (q_len_vec rfl rfl sl22) ?_
    refine SOps.q rfl (.plain rfl) rfl (q_gtr rfl rfl rfl) ?_
    refine SOps.q rfl (.plain rfl) rfl (q_move rfl rfl) ?_
    refine SOps.skip rfl 4 26 false rfl rfl (.inl (gT g1)) rfl ?_
    refine SOps.skip rfl 4 26 false rfl rfl (.inl (gT g1)) rfl ?_
    refine SOps.skip rfl 4 26 false rfl rfl (.inl (gT g1)) rfl ?_
    refine SOps.q rfl (.plain rfl) rfl (q_pick_t rfl rfl g1 rfl) ?_
    refine SOps.q rfl (.plain rfl) rfl (q_move rfl rfl) ?_
    refine SOps.skip rfl 9 31 false rfl rfl (.inl rfl) rfl ?_
    refine SOps.skip rfl 9 31 false rfl rfl (.inl rfl) rfl ?_
    refine SOps.skip rfl 9 31 false rfl rfl (.inl rfl) rfl ?_
    refine SOps.q rfl (.plain rfl) rfl (q_pick_t rfl rfl rfl rfl) ?_
    refine SOps.q rfl (.plain rfl) rfl (q_move rfl rfl) ?_
    refine SOps.skip rfl 14 36 false rfl rfl (.inl rfl) rfl ?_
    refine SOps.skip rfl 14 36 false rfl rfl (.inl rfl) rfl ?_
    refine SOps.skip rfl 14 36 false rfl rfl (.inl rfl) rfl ?_
    refine SOps.q rfl (.plain rfl) rfl (q_pick_t rfl rfl rfl rfl) ?_
    refine SOps.q rfl (.plain rfl) rfl (q_move rfl rfl) ?_
    refine SOps.skip rfl 19 41 false rfl rfl (.inl rfl) rfl ?_
    refine SOps.skip rfl 19 41 false rfl rfl (.inl rfl) rfl ?_
    refine SOps.skip rfl 19 41 false rfl rfl (.inl rfl) rfl ?_
    refine SOps.q rfl (.plain rfl) rfl (q_pick_t rfl rfl rfl rfl) ?_
    refine SOps.q rfl (.plain rfl) rfl (q_move rfl rfl) ?_
    refine SOps.skip rfl 24 46 false rfl rfl (.inl rfl) rfl ?_
    refine SOps.skip rfl 24 46 false rfl rfl (.inl rfl) rfl ?_
    refine SOps.skip rfl 24 46 false rfl rfl (.inl rfl) rfl ?_
    refine SOps.q rfl (.plain rfl) rfl (q_pick_t rfl rfl rfl rfl) ?_
    refine SOps.q rfl (.plain rfl) rfl (q_move rfl rfl) ?_
    refine SOps.skip rfl 29 51 false rfl rfl (.inl rfl) rfl ?_
    refine SOps.skip rfl 29 51 false rfl rfl (.inl rfl) rfl ?_
    refine SOps.skip rfl 29 51 false rfl rfl (.inl rfl) rfl ?_
    refine SOps.q rfl (.plain rfl) rfl (q_pick_t rfl rfl rfl rfl) ?_
    refine SOps.sub (st' := ⟨[(1, .c (.int .u8 a1_clear)), (2, .c (.ptr 0 0)), (55, .c (.bool true))], [.box [.vec a0_x.L.length 11 (gL cSProfile dSProfile a0_x.L), .int .i64 a0_x.Conn, .str a0_x.Txn, .int .i64 a0_x.Start, .int .i64 a0_x.T, .int .i64 a0_x.Length]]⟩) (sub_gen [0] rfl rfl ⟨zc rfl rfl, zc rfl rfl, zc rfl rfl, trivial⟩ ⟨⟨_, rfl, ⟨ii rfl rfl, ii rfl rfl, ii rfl rfl, ii rfl rfl, ii rfl rfl, ii rfl rfl, trivial⟩⟩, trivial⟩) ?_
    refine SOps.nil ?_
    refine SCode.cond_t rfl rfl ?_
    refine SCode.seq ?_
    refine SCode.region (show SOps _ _ _ [0] _ _ from ?_)
    refine SOps.q rfl (.plain rfl) rfl (q_assign rfl rfl) ?_
    refine SOps.sub (st' := ⟨[(4, .c (.bool true))], []⟩) (sub_gen [] rfl rfl ⟨zc rfl rfl, trivial⟩ trivial) ?_
    refine SOps.nil ?_
    refine SCode.ret ?_
    obtain rfl := Option.some.inj h
    exact ⟨⟨[(4, .c (.bool true))], []⟩, _, sub_gen [] rfl rfl ⟨zc rfl rfl, trivial⟩ trivial, resA1 (v := .c (.bool true)) rfl rfl, rfl⟩
  rcases cond_out h with ⟨g2, h⟩ | ⟨g2, h⟩
  · refine SCode.region (show SOps _ _ _ [0, 1, 2, 3, 4, 5, 6, 7, 8, 9, 10, 11, 12, 13, 14, 15, 16, 17, 18, 19, 20, 21, 22, 23, 24, 25, 26, 27, 28, 29, 30, 31, 32, 33] _ _ from ?_)
    refine SOps.q rfl (.plain rfl) rfl (q_field_ptr rfl rfl fd24_0) ?_
    refine SOps.q rfl (.plain rfl) rfl (q_load_ptr rfl rfl rfl rfl ty22) ?_
    refine SOps.q rfl (.plain rfl) rfl (q_len_vec rfl rfl sl22) ?_
    refine SOps.q rfl (.plain rfl) rfl (q_gtr rfl rfl rfl) ?_
    refine SOps.q rfl (.plain rfl) rfl (q_move rfl rfl) ?_
    refine SOps.q rfl (.guard 4 26 false rfl rfl (gF g1)) rfl (q_field_ptr rfl rfl fd24_5) ?_
    refine SOps.q rfl (.guard 4 26 false rfl rfl (gF g1)) rfl (q_load_ptr rfl rfl rfl rfl ty3) ?_
    refine SOps.q rfl (.guard 4 26 false rfl rfl (gF g1)) rfl (q_lss rfl rfl rfl) ?_
    refine SOps.q rfl (.plain rfl) rfl (q_pick_f rfl rfl g1 rfl) ?_
    refine SOps.q rfl (.plain rfl) rfl (q_move rfl rfl) ?_
    refine SOps.skip rfl 9 31 false rfl rfl (.inl (gT g2)) rfl ?_
    refine SOps.skip rfl 9 31 false rfl rfl (.inl (gT g2)) rfl ?_
    refine SOps.skip rfl 9 31 false rfl rfl (.inl (gT g2)) rfl ?_
    refine SOps.q rfl (.plain rfl) rfl (q_pick_t rfl rfl g2 rfl) ?_
    refine SOps.q rfl (.plain rfl) rfl (q_move rfl rfl) ?_
    refine SOps.skip rfl 14 36 false rfl rfl (.inl rfl) rfl ?_
    refine SOps.skip rfl 14 36 false rfl rfl (.inl rfl) rfl ?_
    refine SOps.skip rfl 14 36 false rfl rfl (.inl rfl) rfl ?_
    refine SOps.q rfl (.plain rfl) rfl (q_pick_t rfl rfl rfl rfl) ?_
    refine SOps.q rfl (.plain rfl) rfl (q_move rfl rfl) ?_
    refine SOps.skip rfl 19 41 false rfl rfl (.inl rfl) rfl ?_
    refine SOps.skip rfl 19 41 false rfl rfl (.inl rfl) rfl ?_
    refine SOps.skip rfl 19 41 false rfl rfl (.inl rfl) rfl ?_
    refine SOps.q rfl (.plain rfl) rfl (q_pick_t rfl rfl rfl rfl) ?_
    refine SOps.q rfl (.plain rfl) rfl (q_move rfl rfl) ?_
    refine SOps.skip rfl 24 46 false rfl rfl (.inl rfl) rfl ?_
    refine SOps.skip rfl 24 46 false rfl rfl (.inl rfl) rfl ?_
    refine SOps.skip rfl 24 46 false rfl rfl (.inl rfl) rfl ?_
    refine SOps.q rfl (.plain rfl) rfl (q_pick_t rfl rfl rfl rfl) ?_
    refine SOps.q rfl (.plain rfl) rfl (q_move rfl rfl) ?_
    refine SOps.skip rfl 29 51 false rfl rfl (.inl rfl) rfl ?_
    refine SOps.skip rfl 29 51 false rfl rfl (.inl rfl) rfl ?_
    refine SOps.skip rfl 29 51 false rfl rfl (.inl rfl) rfl ?_
    refine SOps.q rfl (.plain rfl) rfl (q_pick_t rfl rfl rfl rfl) ?_
    refine SOps.sub (st' := ⟨[(1, .c (.int .u8 a1_clear)), (2, .c (.ptr 0 0)), (55, .c (.bool true))], [.box [.vec a0_x.L.length 11 (gL cSProfile dSProfile a0_x.L), .int .i64 a0_x.Conn, .str a0_x.Txn, .int .i64 a0_x.Start, .int .i64 a0_x.T, .int .i64 a0_x.Length]]⟩) (sub_gen [0] rfl rfl ⟨zc rfl rfl, zc rfl rfl, zc rfl rfl, trivial⟩ ⟨⟨_, rfl, ⟨ii rfl rfl, ii rfl rfl, ii rfl rfl, ii rfl rfl, ii rfl rfl, ii rfl rfl, trivial⟩⟩, trivial⟩) ?_
    refine SOps.nil ?_
    refine SCode.cond_t rfl rfl ?_
    refine SCode.seq ?_
    refine SCode.region (show SOps _ _ _ [0] _ _ from ?_)
    refine SOps.q rfl (.plain rfl) rfl (q_assign rfl rfl) ?_
    refine SOps.sub (st' := ⟨[(4, .c (.bool true))], []⟩) (sub_gen [] rfl rfl ⟨zc rfl rfl, trivial⟩ trivial) ?_
    refine SOps.nil ?_
    refine SCode.ret ?_
    obtain rfl := Option.some.inj h
    exact ⟨⟨[(4, .c (.bool true))], []⟩, _, sub_gen [] rfl rfl ⟨zc rfl rfl, trivial⟩ trivial, resA1 (v := .c (.bool true)) rfl rfl, rfl⟩
  rcases cond_out h with ⟨g3, h⟩ | ⟨g3, h⟩
  · refine SCode.region (show SOps _ _ _ [0, 1, 2, 3, 4, 5, 6, 7, 8, 9, 10, 11, 12, 13, 14, 15, 16, 17, 18, 19, 20, 21, 22, 23, 24, 25, 26, 27, 28, 29, 30, 31, 32, 33] _ _ from ?_)
    refine SOps.q rfl (.plain rfl) rfl (q_field_ptr rfl rfl fd24_0) ?_
    refine SOps.q rfl (.plain rfl) rfl (q_load_ptr rfl rfl rfl rfl ty22) ?_
    refine SOps.q rfl (.plain rfl) rfl (q_len_vec rfl rfl sl22) ?_
    refine SOps.q rfl (.plain rfl) rfl (q_gtr rfl rfl rfl) ?_
    refine SOps.q rfl (.plain rfl) rfl (q_move rfl rfl) ?_
    refine SOps.q rfl (.guard 4 26 false rfl rfl (gF g1)) rfl (q_field_ptr rfl rfl fd24_5) ?_
    refine SOps.q rfl (.guard 4 26 false rfl rfl (gF g1)) rfl (q_load_ptr rfl rfl rfl rfl ty3) ?_
    refine SOps.q rfl (.guard 4 26 false rfl rfl (gF g1)) rfl (q_lss rfl rfl rfl) ?_
    refine SOps.q rfl (.plain rfl) rfl (q_pick_f rfl rfl g1 rfl) ?_
    refine SOps.q rfl (.plain rfl) rfl (q_move rfl rfl) ?_
    refine SOps.q rfl (.guard 9 31 false rfl rfl (gF g2)) rfl (q_field_ptr rfl rfl fd24_5) ?_
    refine SOps.q rfl (.guard 9 31 false rfl rfl (gF g2)) rfl (q_load_ptr rfl rfl rfl rfl ty3) ?_
    refine SOps.q rfl (.guard 9 31 false rfl rfl (gF g2)) rfl (q_gtr rfl rfl rfl) ?_
    refine SOps.q rfl (.plain rfl) rfl (q_pick_f rfl rfl g2 rfl) ?_
    refine SOps.q rfl (.plain rfl) rfl (q_move rfl rfl) ?_
    refine SOps.skip rfl 14 36 false rfl rfl (.inl (gT g3)) rfl ?_
    refine SOps.skip rfl 14 36 false rfl rfl (.inl (gT g3)) rfl ?_
    refine SOps.skip rfl 14 36 false rfl rfl (.inl (gT g3)) rfl ?_
    refine SOps.q rfl (.plain rfl) rfl (q_pick_t rfl rfl g3 rfl) ?_
    refine SOps.q rfl (.plain rfl) rfl (q_move rfl rfl) ?_
    refine SOps.skip rfl 19 41 false rfl rfl (.inl rfl) rfl ?_
    refine SOps.skip rfl 19 41 false rfl rfl (.inl rfl) rfl ?_
    refine SOps.skip rfl 19 41 false rfl rfl (.inl rfl) rfl ?_
    refine SOps.q rfl (.plain rfl) rfl (q_pick_t rfl rfl rfl rfl) ?_
    refine SOps.q rfl (.plain rfl) rfl (q_move rfl rfl) ?_
    refine SOps.skip rfl 24 46 false rfl rfl (.inl rfl) rfl ?_
    refine SOps.skip rfl 24 46 false rfl rfl (.inl rfl) rfl ?_
    refine SOps.skip rfl 24 46 false rfl rfl (.inl rfl) rfl ?_
    refine SOps.q rfl (.plain rfl) rfl (q_pick_t rfl rfl rfl rfl) ?_
    refine SOps.q rfl (.plain rfl) rfl (q_move rfl rfl) ?_
    refine SOps.skip rfl 29 51 false rfl rfl (.inl rfl) rfl ?_
    refine SOps.skip rfl 29 51 false rfl rfl (.inl rfl) rfl ?_
    refine SOps.skip rfl 29 51 false rfl rfl (.inl rfl) rfl ?_
    refine SOps.q rfl (.plain rfl) rfl (q_pick_t rfl rfl rfl rfl) ?_
    refine SOps.sub (st' := ⟨[(1, .c (.int .u8 a1_clear)), (2, .c (.ptr 0 0)), (55, .c (.bool true))], [.box [.vec a0_x.L.length 11 (gL cSProfile dSProfile a0_x.L), .int .i64 a0_x.Conn, .str a0_x.Txn, .int .i64 a0_x.Start, .int .i64 a0_x.T, .int .i64 a0_x.Length]]⟩) (sub_gen [0] rfl rfl ⟨zc rfl rfl, zc rfl rfl, zc rfl rfl, trivial⟩ ⟨⟨_, rfl, ⟨ii rfl rfl, ii rfl rfl, ii rfl rfl, ii rfl rfl, ii rfl rfl, ii rfl rfl, trivial⟩⟩, trivial⟩) ?_
    refine SOps.nil ?_
    refine SCode.cond_t rfl rfl ?_
    refine SCode.seq ?_
    refine SCode.region (show SOps _ _ _ [0] _ _ from ?_)
    refine SOps.q rfl (.plain rfl) rfl (q_assign rfl rfl) ?_
    refine SOps.sub (st' := ⟨[(4, .c (.bool true))], []⟩) (sub_gen [] rfl rfl ⟨zc rfl rfl, trivial⟩ trivial) ?_
    refine SOps.nil ?_
    refine SCode.ret ?_
    obtain rfl := Option.some.inj h
    exact ⟨⟨[(4, .c (.bool true))], []⟩, _, sub_gen [] rfl rfl ⟨zc rfl rfl, trivial⟩ trivial, resA1 (v := .c (.bool true)) rfl rfl, rfl⟩
  rcases cond_out h with ⟨g4, h⟩ | ⟨g4, h⟩
  · refine SCode.region (show SOps _ _ _ [0, 1, 2, 3, 4, 5, 6, 7, 8, 9, 10, 11, 12, 13, 14, 15, 16, 17, 18, 19, 20, 21, 22, 23, 24, 25, 26, 27, 28, 29, 30, 31, 32, 33] _ _ from ?_)
    refine SOps.q rfl (.plain rfl) rfl (q_field_ptr rfl rfl fd24_0) ?_
    refine SOps.q rfl (.plain rfl) rfl (q_load_ptr rfl rfl rfl rfl ty22) ?_
    refine SOps.q rfl (.plain rfl) rfl (q_len_vec rfl rfl sl22) ?_
    refine SOps.q rfl (.plain rfl) rfl (q_gtr rfl rfl rfl) ?_
    refine SOps.q rfl (.plain rfl) rfl (q_move rfl rfl) ?_
    refine SOps.q rfl (.guard 4 26 false rfl rfl (gF g1)) rfl (q_field_ptr rfl rfl fd24_5) ?_
    refine SOps.q rfl (.guard 4 26 false rfl rfl (gF g1)) rfl (q_load_ptr rfl rfl rfl rfl ty3) ?_
    refine SOps.q rfl (.guard 4 26 false rfl rfl (gF g1)) rfl (q_lss rfl rfl rfl) ?_
    refine SOps.q rfl (.plain rfl) rfl (q_pick_f rfl rfl g1 rfl) ?_
    refine SOps.q rfl (.plain rfl) rfl (q_move rfl rfl) ?_
    refine SOps.q rfl (.guard 9 31 false rfl rfl (gF g2)) rfl (q_field_ptr rfl rfl fd24_5) ?_
    refine SOps.q rfl (.guard 9 31 false rfl rfl (gF g2)) rfl (q_load_ptr rfl rfl rfl rfl ty3) ?_
    refine SOps.q rfl (.guard 9 31 false rfl rfl (gF g2)) rfl (q_gtr rfl rfl rfl) ?_
    refine SOps.q rfl (.plain rfl) rfl (q_pick_f rfl rfl g2 rfl) ?_
    refine SOps.q rfl (.plain rfl) rfl (q_move rfl rfl) ?_
    refine SOps.q rfl (.guard 14 36 false rfl rfl (gF g3)) rfl (q_field_ptr rfl rfl fd24_4) ?_
    refine SOps.q rfl (.guard 14 36 false rfl rfl (gF g3)) rfl (q_load_ptr rfl rfl rfl rfl ty3) ?_
    refine SOps.q rfl (.guard 14 36 false rfl rfl (gF g3)) rfl (q_lss rfl rfl rfl) ?_
    refine SOps.q rfl (.plain rfl) rfl (q_pick_f rfl rfl g3 rfl) ?_
    refine SOps.q rfl (.plain rfl) rfl (q_move rfl rfl) ?_
    refine SOps.skip rfl 19 41 false rfl rfl (.inl (gT g4)) rfl ?_
    refine SOps.skip rfl 19 41 false rfl rfl (.inl (gT g4)) rfl ?_
    refine SOps.skip rfl 19 41 false rfl rfl (.inl (gT g4)) rfl ?_
    refine SOps.q rfl (.plain rfl) rfl (q_pick_t rfl rfl g4 rfl) ?_
    refine SOps.q rfl (.plain rfl) rfl (q_move rfl rfl) ?_
    refine SOps.skip rfl 24 46 false rfl rfl (.inl rfl) rfl ?_
    refine SOps.skip rfl 24 46 false rfl rfl (.inl rfl) rfl ?_
    refine SOps.skip rfl 24 46 false rfl rfl (.inl rfl) rfl ?_
    refine SOps.q rfl (.plain rfl) rfl (q_pick_t rfl rfl rfl rfl) ?_
    refine SOps.q rfl (.plain rfl) rfl (q_move rfl rfl) ?_
    refine SOps.skip rfl 29 51 false rfl rfl (.inl rfl) rfl ?_
    refine SOps.skip rfl 29 51 false rfl rfl (.inl rfl) rfl ?_
    refine SOps.skip rfl 29 51 false rfl rfl (.inl rfl) rfl ?_
    refine SOps.q rfl (.plain rfl) rfl (q_pick_t rfl rfl rfl rfl) ?_
    refine SOps.sub (st' := ⟨[(1, .c (.int .u8 a1_clear)), (2, .c (.ptr 0 0)), (55, .c (.bool true))], [.box [.vec a0_x.L.length 11 (gL cSProfile dSProfile a0_x.L), .int .i64 a0_x.Conn, .str a0_x.Txn, .int .i64 a0_x.Start, .int .i64 a0_x.T, .int .i64 a0_x.Length]]⟩) (sub_gen [0] rfl rfl ⟨zc rfl rfl, zc rfl rfl, zc rfl rfl, trivial⟩ ⟨⟨_, rfl, ⟨ii rfl rfl, ii rfl rfl, ii rfl rfl, ii rfl rfl, ii rfl rfl, ii rfl rfl, trivial⟩⟩, trivial⟩) ?_
    refine SOps.nil ?_
    refine SCode.cond_t rfl rfl ?_
    refine SCode.seq ?_
    refine SCode.region (show SOps _ _ _ [0] _ _ from ?_)
    refine SOps.q rfl (.plain rfl) rfl (q_assign rfl rfl) ?_
    refine SOps.sub (st' := ⟨[(4, .c (.bool true))], []⟩) (sub_gen [] rfl rfl ⟨zc rfl rfl, trivial⟩ trivial) ?_
    refine SOps.nil ?_
    refine SCode.ret ?_
    obtain rfl := Option.some.inj h
    exact ⟨⟨[(4, .c (.bool true))], []⟩, _, sub_gen [] rfl rfl ⟨zc rfl rfl, trivial⟩ trivial, resA1 (v := .c (.bool true)) rfl rfl, rfl⟩
  rcases cond_out h with ⟨g5, h⟩ | ⟨g5, h⟩
  · refine SCode.region (show SOps _ _ _ [0, 1, 2, 3, 4, 5, 6, 7, 8, 9, 10, 11, 12, 13, 14, 15, 16, 17, 18, 19, 20, 21, 22, 23, 24, 25, 26, 27, 28, 29, 30, 31, 32, 33] _ _ from ?_)
    refine SOps.q rfl (.plain rfl) rfl (q_field_ptr rfl rfl fd24_0) ?_
    refine SOps.q rfl (.plain rfl) rfl (q_load_ptr rfl rfl rfl rfl ty22) ?_
    refine SOps.q rfl (.plain rfl) rfl (q_len_vec rfl rfl sl22) ?_
    refine SOps.q rfl (.plain rfl) rfl (q_gtr rfl rfl rfl) ?_
    refine SOps.q rfl (.plain rfl) rfl (q_move rfl rfl) ?_
    refine SOps.q rfl (.guard 4 26 false rfl rfl (gF g1)) rfl (q_field_ptr rfl rfl fd24_5) ?_
    refine SOps.q rfl (.guard 4 26 false rfl rfl (gF g1)) rfl (q_load_ptr rfl rfl rfl rfl ty3) ?_
    refine SOps.q rfl (.guard 4 26 false rfl rfl (gF g1)) rfl (q_lss rfl rfl rfl) ?_
    refine SOps.q rfl (.plain rfl) rfl (q_pick_f rfl rfl g1 rfl) ?_
    refine SOps.q rfl (.plain rfl) rfl (q_move rfl rfl) ?_
    refine SOps.q rfl (.guard 9 31 false rfl rfl (gF g2)) rfl (q_field_ptr rfl rfl fd24_5) ?_
    refine SOps.q rfl (.guard 9 31 false rfl rfl (gF g2)) rfl (q_load_ptr rfl rfl rfl rfl ty3) ?_
    refine SOps.q rfl (.guard 9 31 false rfl rfl (gF g2)) rfl (q_gtr rfl rfl rfl) ?_
    refine SOps.q rfl (.plain rfl) rfl (q_pick_f rfl rfl g2 rfl) ?_
    refine SOps.q rfl (.plain rfl) rfl (q_move rfl rfl) ?_
    refine SOps.q rfl (.guard 14 36 false rfl rfl (gF g3)) rfl (q_field_ptr rfl rfl fd24_4) ?_
    refine SOps.q rfl (.guard 14 36 false rfl rfl (gF g3)) rfl (q_load_ptr rfl rfl rfl rfl ty3) ?_
    refine SOps.q rfl (.guard 14 36 false rfl rfl (gF g3)) rfl (q_lss rfl rfl rfl) ?_
    refine SOps.q rfl (.plain rfl) rfl (q_pick_f rfl rfl g3 rfl) ?_
    refine SOps.q rfl (.plain rfl) rfl (q_move rfl rfl) ?_
    refine SOps.q rfl (.guard 19 41 false rfl rfl (gF g4)) rfl (q_field_ptr rfl rfl fd24_4) ?_
    refine SOps.q rfl (.guard 19 41 false rfl rfl (gF g4)) rfl (q_load_ptr rfl rfl rfl rfl ty3) ?_
    refine SOps.q rfl (.guard 19 41 false rfl rfl (gF g4)) rfl (q_gtr rfl rfl rfl) ?_
    refine SOps.q rfl (.plain rfl) rfl (q_pick_f rfl rfl g4 rfl) ?_
    refine SOps.q rfl (.plain rfl) rfl (q_move rfl rfl) ?_
    refine SOps.skip rfl 24 46 false rfl rfl (.inl (gT g5)) rfl ?_
    refine SOps.skip rfl 24 46 false rfl rfl (.inl (gT g5)) rfl ?_
    refine SOps.skip rfl 24 46 false rfl rfl (.inl (gT g5)) rfl ?_
    refine SOps.q rfl (.plain rfl) rfl (q_pick_t rfl rfl g5 rfl) ?_
    refine SOps.q rfl (.plain rfl) rfl (q_move rfl rfl) ?_
    refine SOps.skip rfl 29 51 false rfl rfl (.inl rfl) rfl ?_
    refine SOps.skip rfl 29 51 false rfl rfl (.inl rfl) rfl ?_
    refine SOps.skip rfl 29 51 false rfl rfl (.inl rfl) rfl ?_
    refine SOps.q rfl (.plain rfl) rfl (q_pick_t rfl rfl rfl rfl) ?_
    refine SOps.sub (st' := ⟨[(1, .c (.int .u8 a1_clear)), (2, .c (.ptr 0 0)), (55, .c (.bool true))], [.box [.vec a0_x.L.length 11 (gL cSProfile dSProfile a0_x.L), .int .i64 a0_x.Conn, .str a0_x.Txn, .int .i64 a0_x.Start, .int .i64 a0_x.T, .int .i64 a0_x.Length]]⟩) (sub_gen [0] rfl rfl ⟨zc rfl rfl, zc rfl rfl, zc rfl rfl, trivial⟩ ⟨⟨_, rfl, ⟨ii rfl rfl, ii rfl rfl, ii rfl rfl, ii rfl rfl, ii rfl rfl, ii rfl rfl, trivial⟩⟩, trivial⟩) ?_
    refine SOps.nil ?_
    refine SCode.cond_t rfl rfl ?_
    refine SCode.seq ?_
    refine SCode.region (show SOps _ _ _ [0] _ _ from ?_)
    refine SOps.q rfl (.plain rfl) rfl (q_assign rfl rfl) ?_
    refine SOps.sub (st' := ⟨[(4, .c (.bool true))], []⟩) (sub_gen [] rfl rfl ⟨zc rfl rfl, trivial⟩ trivial) ?_
    refine SOps.nil ?_
    refine SCode.ret ?_
    obtain rfl := Option.some.inj h
    exact ⟨⟨[(4, .c (.bool true))], []⟩, _, sub_gen [] rfl rfl ⟨zc rfl rfl, trivial⟩ trivial, resA1 (v := .c (.bool true)) rfl rfl, rfl⟩
  rcases cond_out h with ⟨g6, h⟩ | ⟨g6, h⟩
  · refine SCode.region (show SOps _ _ _ [0, 1, 2, 3, 4, 5, 6, 7, 8, 9, 10, 11, 12, 13, 14, 15, 16, 17, 18, 19, 20, 21, 22, 23, 24, 25, 26, 27, 28, 29, 30, 31, 32, 33] _ _ from ?_)
    refine SOps.q rfl (.plain rfl) rfl (q_field_ptr rfl rfl fd24_0) ?_
    refine SOps.q rfl (.plain rfl) rfl (q_load_ptr rfl rfl rfl rfl ty22) ?_
    refine SOps.q rfl (.plain rfl) rfl (q_len_vec rfl rfl sl22) ?_
    refine SOps.q rfl (.plain rfl) rfl (q_gtr rfl rfl rfl) ?_
    refine SOps.q rfl (.plain rfl) rfl (q_move rfl rfl) ?_
    refine SOps.q rfl (.guard 4 26 false rfl rfl (gF g1)) rfl (q_field_ptr rfl rfl fd24_5) ?_
    refine SOps.q rfl (.guard 4 26 false rfl rfl (gF g1)) rfl (q_load_ptr rfl rfl rfl rfl ty3) ?_
    refine SOps.q rfl (.guard 4 26 false rfl rfl (gF g1)) rfl (q_lss rfl rfl rfl) ?_
    refine SOps.q rfl (.plain rfl) rfl (q_pick_f rfl rfl g1 rfl) ?_
    refine SOps.q rfl (.plain rfl) rfl (q_move rfl rfl) ?_
    refine SOps.q rfl (.guard 9 31 false rfl rfl (gF g2)) rfl (q_field_ptr rfl rfl fd24_5) ?_
    refine SOps.q rfl (.guard 9 31 false rfl rfl (gF g2)) rfl (q_load_ptr rfl rfl rfl rfl ty3) ?_
    refine SOps.q rfl (.guard 9 31 false rfl rfl (gF g2)) rfl (q_gtr rfl rfl rfl) ?_
    refine SOps.q rfl (.plain rfl) rfl (q_pick_f rfl rfl g2 rfl) ?_
    refine SOps.q rfl (.plain rfl) rfl (q_move rfl rfl) ?_
    refine SOps.q rfl (.guard 14 36 false rfl rfl (gF g3)) rfl (q_field_ptr rfl rfl fd24_4) ?_
    refine SOps.q rfl (.guard 14 36 false rfl rfl (gF g3)) rfl (q_load_ptr rfl rfl rfl rfl ty3) ?_
    refine SOps.q rfl (.guard 14 36 false rfl rfl (gF g3)) rfl (q_lss rfl rfl rfl) ?_
    refine SOps.q rfl (.plain rfl) rfl (q_pick_f rfl rfl g3 rfl) ?_
    refine SOps.q rfl (.plain rfl) rfl (q_move rfl rfl) ?_
    refine SOps.q rfl (.guard 19 41 false rfl rfl (gF g4)) rfl (q_field_ptr rfl rfl fd24_4) ?_
    refine SOps.q rfl (.guard 19 41 false rfl rfl (gF g4)) rfl (q_load_ptr rfl rfl rfl rfl ty3) ?_
    refine SOps.q rfl (.guard 19 41 false rfl rfl (gF g4)) rfl (q_gtr rfl rfl rfl) ?_
    refine SOps.q rfl (.plain rfl) rfl (q_pick_f rfl rfl g4 rfl) ?_
    refine SOps.q rfl (.plain rfl) rfl (q_move rfl rfl) ?_
    refine SOps.q rfl (.guard 24 46 false rfl rfl (gF g5)) rfl (q_field_ptr rfl rfl fd24_3) ?_
    refine SOps.q rfl (.guard 24 46 false rfl rfl (gF g5)) rfl (q_load_ptr rfl rfl rfl rfl ty3) ?_
    refine SOps.q rfl (.guard 24 46 false rfl rfl (gF g5)) rfl (q_lss rfl rfl rfl) ?_
    refine SOps.q rfl (.plain rfl) rfl (q_pick_f rfl rfl g5 rfl) ?_
    refine SOps.q rfl (.plain rfl) rfl (q_move rfl rfl) ?_
    refine SOps.skip rfl 29 51 false rfl rfl (.inl (gT g6)) rfl ?_
    refine SOps.skip rfl 29 51 false rfl rfl (.inl (gT g6)) rfl ?_
    refine SOps.skip rfl 29 51 false rfl rfl (.inl (gT g6)) rfl ?_
    refine SOps.q rfl (.plain rfl) rfl (q_pick_t rfl rfl g6 rfl) ?_
    refine SOps.sub (st' := ⟨[(1, .c (.int .u8 a1_clear)), (2, .c (.ptr 0 0)), (55, .c (.bool true))], [.box [.vec a0_x.L.length 11 (gL cSProfile dSProfile a0_x.L), .int .i64 a0_x.Conn, .str a0_x.Txn, .int .i64 a0_x.Start, .int .i64 a0_x.T, .int .i64 a0_x.Length]]⟩) (sub_gen [0] rfl rfl ⟨zc rfl rfl, zc rfl rfl, zc rfl rfl, trivial⟩ ⟨⟨_, rfl, ⟨ii rfl rfl, ii rfl rfl, ii rfl rfl, ii rfl rfl, ii rfl rfl, ii rfl rfl, trivial⟩⟩, trivial⟩) ?_
    refine SOps.nil ?_
    refine SCode.cond_t rfl rfl ?_
    refine SCode.seq ?_
    refine SCode.region (show SOps _ _ _ [0] _ _ from ?_)
    refine SOps.q rfl (.plain rfl) rfl (q_assign rfl rfl) ?_
    refine SOps.sub (st' := ⟨[(4, .c (.bool true))], []⟩) (sub_gen [] rfl rfl ⟨zc rfl rfl, trivial⟩ trivial) ?_
    refine SOps.nil ?_
    refine SCode.ret ?_
    obtain rfl := Option.some.inj h
    exact ⟨⟨[(4, .c (.bool true))], []⟩, _, sub_gen [] rfl rfl ⟨zc rfl rfl, trivial⟩ trivial, resA1 (v := .c (.bool true)) rfl rfl, rfl⟩
  refine SCode.region (show SOps _ _ _ [0, 1, 2, 3, 4, 5, 6, 7, 8, 9, 10, 11, 12, 13, 14, 15, 16, 17, 18, 19, 20, 21, 22, 23, 24, 25, 26, 27, 28, 29, 30, 31, 32, 33] _ _ from ?_)
  refine SOps.q rfl (.plain rfl) rfl (q_field_ptr rfl rfl fd24_0) ?_
  refine SOps.q rfl (.plain rfl) rfl (q_load_ptr rfl rfl rfl rfl ty22) ?_
  refine SOps.q rfl (.plain rfl) rfl (q_len_vec rfl rfl sl22) ?_
  refine SOps.q rfl (.plain rfl) rfl (q_gtr rfl rfl rfl) ?_
  refine SOps.q rfl (.plain rfl) rfl (q_move rfl rfl) ?_
  refine SOps.q rfl (.guard 4 26 false rfl rfl (gF g1)) rfl (q_field_ptr rfl rfl fd24_5) ?_
  refine SOps.q rfl (.guard 4 26 false rfl rfl (gF g1)) rfl (q_load_ptr rfl rfl rfl rfl ty3) ?_
  refine SOps.q rfl (.guard 4 26 false rfl rfl (gF g1)) rfl (q_lss rfl rfl rfl) ?_
  refine SOps.q rfl (.plain rfl) rfl (q_pick_f rfl rfl g1 rfl) ?_
  refine SOps.q rfl (.plain rfl) rfl (q_move rfl rfl) ?_
  refine SOps.q rfl (.guard 9 31 false rfl rfl (gF g2)) rfl (q_field_ptr rfl rfl fd24_5) ?_
  refine SOps.q rfl (.guard 9 31 false rfl rfl (gF g2)) rfl (q_load_ptr rfl rfl rfl rfl ty3) ?_
  refine SOps.q rfl (.guard 9 31 false rfl rfl (gF g2)) rfl (q_gtr rfl rfl rfl) ?_
  refine SOps.q rfl (.plain rfl) rfl (q_pick_f rfl rfl g2 rfl) ?_
  refine SOps.q rfl (.plain rfl) rfl (q_move rfl rfl) ?_
  refine SOps.q rfl (.guard 14 36 false rfl rfl (gF g3)) rfl (q_field_ptr rfl rfl fd24_4) ?_
  refine SOps.q rfl (.guard 14 36 false rfl rfl (gF g3)) rfl (q_load_ptr rfl rfl rfl rfl ty3) ?_
  refine SOps.q rfl (.guard 14 36 false rfl rfl (gF g3)) rfl (q_lss rfl rfl rfl) ?_
  refine SOps.q rfl (.plain rfl) rfl (q_pick_f rfl rfl g3 rfl) ?_
  refine SOps.q rfl (.plain rfl) rfl (q_move rfl rfl) ?_
  refine SOps.q rfl (.guard 19 41 false rfl rfl (gF g4)) rfl (q_field_ptr rfl rfl fd24_4) ?_
  refine SOps.q rfl (.guard 19 41 false rfl rfl (gF g4)) rfl (q_load_ptr rfl rfl rfl rfl ty3) ?_
  refine SOps.q rfl (.guard 19 41 false rfl rfl (gF g4)) rfl (q_gtr rfl rfl rfl) ?_
  refine SOps.q rfl (.plain rfl) rfl (q_pick_f rfl rfl g4 rfl) ?_
  refine SOps.q rfl (.plain rfl) rfl (q_move rfl rfl) ?_
  refine SOps.q rfl (.guard 24 46 false rfl rfl (gF g5)) rfl (q_field_ptr rfl rfl fd24_3) ?_
  refine SOps.q rfl (.guard 24 46 false rfl rfl (gF g5)) rfl (q_load_ptr rfl rfl rfl rfl ty3) ?_
  refine SOps.q rfl (.guard 24 46 false rfl rfl (gF g5)) rfl (q_lss rfl rfl rfl) ?_
  refine SOps.q rfl (.plain rfl) rfl (q_pick_f rfl rfl g5 rfl) ?_
  refine SOps.q rfl (.plain rfl) rfl (q_move rfl rfl) ?_
  refine SOps.q rfl (.guard 29 51 false rfl rfl (gF g6)) rfl (q_field_ptr rfl rfl fd24_3) ?_
  refine SOps.q rfl (.guard 29 51 false rfl rfl (gF g6)) rfl (q_load_ptr rfl rfl rfl rfl ty3) ?_
  refine SOps.q rfl (.guard 29 51 false rfl rfl (gF g6)) rfl (q_gtr rfl rfl rfl) ?_
  refine SOps.q rfl (.plain rfl) rfl (q_pick_f rfl rfl g6 rfl) ?_
  refine SOps.sub (st' := ⟨[(1, .c (.int .u8 a1_clear)), (2, .c (.ptr 0 0)), (55, .c (.bool (decide (1000000 < a0_x.Start))))], [.box [.vec a0_x.L.length 11 (gL cSProfile dSProfile a0_x.L), .int .i64 a0_x.Conn, .str a0_x.Txn, .int .i64 a0_x.Start, .int .i64 a0_x.T, .int .i64 a0_x.Length]]⟩) (sub_gen [0] rfl rfl ⟨zc rfl rfl, zc rfl rfl, zc rfl rfl, trivial⟩ ⟨⟨_, rfl, ⟨ii rfl rfl, ii rfl rfl, ii rfl rfl, ii rfl rfl, ii rfl rfl, ii rfl rfl, trivial⟩⟩, trivial⟩) ?_
  refine SOps.nil ?_
  rcases cond_out h with ⟨g7, h⟩ | ⟨g7, h⟩
  · refine SCode.cond_t rfl g7 ?_
    refine SCode.seq ?_
    refine SCode.region (show SOps _ _ _ [0] _ _ from ?_)
    refine SOps.q rfl (.plain rfl) rfl (q_assign rfl rfl) ?_
    refine SOps.sub (st' := ⟨[(4, .c (.bool true))], []⟩) (sub_gen [] rfl rfl ⟨zc rfl rfl, trivial⟩ trivial) ?_
    refine SOps.nil ?_
    refine SCode.ret ?_
    obtain rfl := Option.some.inj h
    exact ⟨⟨[(4, .c (.bool true))], []⟩, _, sub_gen [] rfl rfl ⟨zc rfl rfl, trivial⟩ trivial, resA1 (v := .c (.bool true)) rfl rfl, rfl⟩
  refine SCode.cond_f rfl g7 ?_
  refine SCode.skip ?_
  refine SCode.seq ?_
  refine SCode.region (show SOps _ _ _ [0] _ _ from ?_)
  refine SOps.q rfl (.plain rfl) rfl (q_assign rfl rfl) ?_
  refine SOps.sub (st' := ⟨[(1, .c (.int .u8 a1_clear)), (2, .c (.ptr 0 0)), (5, .c (.raw (.slice none 0 0)))], [.box [.vec a0_x.L.length 11 (gL cSProfile dSProfile a0_x.L), .int .i64 a0_x.Conn, .str a0_x.Txn, .int .i64 a0_x.Start, .int .i64 a0_x.T, .int .i64 a0_x.Length]]⟩) (sub_gen [0] rfl rfl ⟨zc rfl rfl, zc rfl rfl, zc rfl rfl, trivial⟩ ⟨⟨_, rfl, ⟨ii rfl rfl, ii rfl rfl, ii rfl rfl, ii rfl rfl, ii rfl rfl, ii rfl rfl, trivial⟩⟩, trivial⟩) ?_
  refine SOps.nil ?_
  refine SCode.join (σ := (List SProfile)) (S := fun s => ⟨[(1, .c (.int .u8 a1_clear)), (2, .c (.ptr 0 0)), (5, .c (.vec s.length 11 (gL cSProfile dSProfile s)))], [.box [.vec a0_x.L.length 11 (gL cSProfile dSProfile a0_x.L), .int .i64 a0_x.Conn, .str a0_x.Txn, .int .i64 a0_x.Start, .int .i64 a0_x.T, .int .i64 a0_x.Length]]⟩) (g := fun s => chargenettop_ProfilesCompose_p66 F a0_x a1_clear s = some r) ?_ ?_
  rotate_left
  · refine SCode.seq ?_
    refine SCode.region (show SOps _ _ _ [0, 1, 2, 3] _ _ from ?_)
    refine SOps.q rfl (.plain rfl) rfl (q_field_ptr rfl rfl fd24_0) ?_
    refine SOps.q rfl (.plain rfl) rfl (q_load_ptr rfl rfl rfl rfl ty22) ?_
    refine SOps.q rfl (.plain rfl) rfl (q_len_vec rfl rfl sl22) ?_
    refine SOps.q rfl (.plain rfl) rfl (q_move rfl rfl) ?_
    refine SOps.sub (st' := ⟨[(1, .c (.int .u8 a1_clear)), (2, .c (.ptr 0 0)), (5, .c (.raw (.slice none 0 0))), (57, .c (.vec a0_x.L.length 11 (gL cSProfile dSProfile a0_x.L))), (58, .c (.int .i64 (((a0_x.L).length : Int)))), (59, .c (.int .i64 0))], [.box [.vec a0_x.L.length 11 (gL cSProfile dSProfile a0_x.L), .int .i64 a0_x.Conn, .str a0_x.Txn, .int .i64 a0_x.Start, .int .i64 a0_x.T, .int .i64 a0_x.Length]]⟩) (sub_gen [0] rfl rfl ⟨zc rfl rfl, zc rfl rfl, zc rfl rfl, zc rfl rfl, zc rfl rfl, zc rfl rfl, trivial⟩ ⟨⟨_, rfl, ⟨ii rfl rfl, ii rfl rfl, ii rfl rfl, ii rfl rfl, ii rfl rfl, ii rfl rfl, trivial⟩⟩, trivial⟩) ?_
    refine SOps.nil ?_
    refine SCode.block ?_
    refine SCode.sub (st' := ⟨[(1, .c (.int .u8 a1_clear)), (2, .c (.ptr 0 0)), (5, .c (.vec ([] : List SProfile).length 11 (gL cSProfile dSProfile ([] : List SProfile)))), (57, .c (.vec a0_x.L.length 11 (gL cSProfile dSProfile a0_x.L))), (58, .c (.int .i64 (((a0_x.L).length : Int)))), (59, .c (.int .i64 0))], [.box [.vec a0_x.L.length 11 (gL cSProfile dSProfile a0_x.L), .int .i64 a0_x.Conn, .str a0_x.Txn, .int .i64 a0_x.Start, .int .i64 a0_x.T, .int .i64 a0_x.Length]]⟩) (sub_gen [0] rfl rfl ⟨zc rfl rfl, zc rfl rfl, ⟨_, rfl, .inr (.inr (.inr (.inl ⟨_, _, rfl, rfl⟩)))⟩, zc rfl rfl, zc rfl rfl, zc rfl rfl, trivial⟩ ⟨⟨_, rfl, ⟨ii rfl rfl, ii rfl rfl, ii rfl rfl, ii rfl rfl, ii rfl rfl, ii rfl rfl, trivial⟩⟩, trivial⟩) ?_
    refine (SCode.loop (σ := Nat × ((List SProfile) × Int × Int)) (S := fun s => ⟨[(1, .c (.int .u8 a1_clear)), (2, .c (.ptr 0 0)), (5, .c (.vec s.2.1.length 11 (gL cSProfile dSProfile s.2.1))), (57, .c (.vec a0_x.L.length 11 (gL cSProfile dSProfile a0_x.L))), (58, .c (.int .i64 s.2.2.1)), (59, .c (.int .i64 s.2.2.2))], [.box [.vec a0_x.L.length 11 (gL cSProfile dSProfile a0_x.L), .int .i64 a0_x.Conn, .str a0_x.Txn, .int .i64 a0_x.Start, .int .i64 a0_x.T, .int .i64 a0_x.Length]]⟩) (g := fun s => chargenettop_ProfilesCompose_l117 F a0_x a1_clear s.1 s.2.1 s.2.2.1 s.2.2.2 = some r) (μ := fun s => s.1) (F, ([], ((a0_x.L).length : Int), 0)) h ?_)
    rintro ⟨n_117, ⟨l_91, t58_92, t59_93⟩⟩ h
    replace h : chargenettop_ProfilesCompose_l117 F a0_x a1_clear n_117 l_91 t58_92 t59_93 = some r := h
    show SCode _ _ _ ⟨[(1, .c (.int .u8 a1_clear)), (2, .c (.ptr 0 0)), (5, .c (.vec l_91.length 11 (gL cSProfile dSProfile l_91))), (57, .c (.vec a0_x.L.length 11 (gL cSProfile dSProfile a0_x.L))), (58, .c (.int .i64 t58_92)), (59, .c (.int .i64 t59_93))], [.box [.vec a0_x.L.length 11 (gL cSProfile dSProfile a0_x.L), .int .i64 a0_x.Conn, .str a0_x.Txn, .int .i64 a0_x.Start, .int .i64 a0_x.T, .int .i64 a0_x.Length]]⟩ _
    cases n_117 with
    | zero => cases h
    | succ n_117 =>
      replace h : chargenettop_ProfilesCompose_b117 F a0_x a1_clear (fun l_91 t58_92 t59_93 => chargenettop_ProfilesCompose_l117 F a0_x a1_clear n_117 l_91 t58_92 t59_93) l_91 t58_92 t59_93 = some r := h
      unfold chargenettop_ProfilesCompose_b117 at h
      refine SCode.seq ?_
      refine SCode.region (show SOps _ _ _ [0] _ _ from ?_)
      refine SOps.q rfl (.plain rfl) rfl (q_lss rfl rfl rfl) ?_
      refine SOps.sub (st' := ⟨[(1, .c (.int .u8 a1_clear)), (2, .c (.ptr 0 0)), (5, .c (.vec l_91.length 11 (gL cSProfile dSProfile l_91))), (57, .c (.vec a0_x.L.length 11 (gL cSProfile dSProfile a0_x.L))), (58, .c (.int .i64 t58_92)), (59, .c (.int .i64 t59_93)), (60, .c (.bool (decide (t59_93 < t58_92))))], [.box [.vec a0_x.L.length 11 (gL cSProfile dSProfile a0_x.L), .int .i64 a0_x.Conn, .str a0_x.Txn, .int .i64 a0_x.Start, .int .i64 a0_x.T, .int .i64 a0_x.Length]]⟩) (sub_gen [0] rfl rfl ⟨zc rfl rfl, zc rfl rfl, zc rfl rfl, zc rfl rfl, zc rfl rfl, zc rfl rfl, zc rfl rfl, trivial⟩ ⟨⟨_, rfl, ⟨ii rfl rfl, ii rfl rfl, ii rfl rfl, ii rfl rfl, ii rfl rfl, ii rfl rfl, trivial⟩⟩, trivial⟩) ?_
      refine SOps.nil ?_
      refine SCode.seq ?_
      rcases cond_out h with ⟨g118, h⟩ | ⟨g118, h⟩
      · refine SCode.cond_t rfl g118 ?_
        refine SCode.skip ?_
        refine SCode.join (σ := (List SProfile)) (S := fun s => ⟨[(1, .c (.int .u8 a1_clear)), (2, .c (.ptr 0 0)), (5, .c (.vec s.length 11 (gL cSProfile dSProfile s))), (57, .c (.vec a0_x.L.length 11 (gL cSProfile dSProfile a0_x.L))), (58, .c (.int .i64 t58_92)), (59, .c (.int .i64 t59_93))], [.box [.vec a0_x.L.length 11 (gL cSProfile dSProfile a0_x.L), .int .i64 a0_x.Conn, .str a0_x.Txn, .int .i64 a0_x.Start, .int .i64 a0_x.T, .int .i64 a0_x.Length]]⟩) (g := fun s => chargenettop_ProfilesCompose_p120 t58_92 t59_93 (fun l_91 t58_92 t59_93 => chargenettop_ProfilesCompose_l117 F a0_x a1_clear n_117 l_91 t58_92 t59_93) s = some r) ?_ ?_
        rotate_left
        · refine SCode.block ?_
          refine SCode.seq ?_
          obtain ⟨g121, h⟩ := guard_out h
          refine SCode.region (show SOps _ _ _ [0, 1, 2, 3, 4, 5] _ _ from ?_)
          refine SOps.q rfl (.plain rfl) rfl (q_move rfl rfl) ?_
          refine SOps.q rfl (.plain rfl) rfl (q_index_vec rfl rfl rfl sl22 rfl g121.1 g121.2) ?_
          refine SOps.q rfl (.plain rfl) rfl (q_load_eptr_all rfl rfl rfl ty29) ?_
          refine SOps.e rfl (.plain rfl) (e_alloc rfl rfl rfl z29) ?_
          refine SOps.q rfl (.plain rfl) rfl (q_assign rfl rfl) ?_
          refine SOps.e rfl (.plain rfl) (e_store_box rfl rfl rfl rfl rfl ty29 rfl rfl rfl rfl) ?_
          refine SOps.sub (st' := ⟨[(1, .c (.int .u8 a1_clear)), (2, .c (.ptr 0 0)), (5, .c (.vec l_91.length 11 (gL cSProfile dSProfile l_91))), (6, .c (.int .i64 t59_93)), (7, .c (.ptr 1 0)), (57, .c (.vec a0_x.L.length 11 (gL cSProfile dSProfile a0_x.L))), (58, .c (.int .i64 t58_92)), (59, .c (.int .i64 t59_93))], [.box [.vec a0_x.L.length 11 (gL cSProfile dSProfile a0_x.L), .int .i64 a0_x.Conn, .str a0_x.Txn, .int .i64 a0_x.Start, .int .i64 a0_x.T, .int .i64 a0_x.Length], .box [.int .i64 ((a0_x.L.getD t59_93.toNat dSProfile).ID), .int .i64 ((a0_x.L.getD t59_93.toNat dSProfile).Level), .int .i64 ((a0_x.L.getD t59_93.toNat dSProfile).Purpose), .int .i64 ((a0_x.L.getD t59_93.toNat dSProfile).Kind), .int .i64 ((a0_x.L.getD t59_93.toNat dSProfile).Conn), .str ((a0_x.L.getD t59_93.toNat dSProfile).Txn), .int .i64 ((a0_x.L.getD t59_93.toNat dSProfile).Span_From), .int .i64 ((a0_x.L.getD t59_93.toNat dSProfile).Span_To), .int .i64 ((a0_x.L.getD t59_93.toNat dSProfile).Start), .int .i64 ((a0_x.L.getD t59_93.toNat dSProfile).Duration), .vec ((a0_x.L.getD t59_93.toNat dSProfile).Periods).length 2 (gL cSPeriod dSPeriod ((a0_x.L.getD t59_93.toNat dSProfile).Periods))]]⟩) (sub_gen [0, 1] rfl rfl ⟨zc rfl rfl, zc rfl rfl, zc rfl rfl, zc rfl rfl, zc rfl rfl, zc rfl rfl, zc rfl rfl, zc rfl rfl, trivial⟩ ⟨⟨_, rfl, ⟨ii rfl rfl, ii rfl rfl, ii rfl rfl, ii rfl rfl, ii rfl rfl, ii rfl rfl, trivial⟩⟩, ⟨_, rfl, ⟨ii rfl rfl, ii rfl rfl, ii rfl rfl, ii rfl rfl, ii rfl rfl, ii rfl rfl, ii rfl rfl, ii rfl rfl, ii rfl rfl, ii rfl rfl, ii rfl rfl, trivial⟩⟩, trivial⟩) ?_
          refine SOps.nil ?_
          refine SCode.join (σ := Unit) (S := fun s => ⟨[(1, .c (.int .u8 a1_clear)), (2, .c (.ptr 0 0)), (5, .c (.vec l_91.length 11 (gL cSProfile dSProfile l_91))), (7, .c (.ptr 1 0)), (57, .c (.vec a0_x.L.length 11 (gL cSProfile dSProfile a0_x.L))), (58, .c (.int .i64 t58_92)), (59, .c (.int .i64 t59_93))], [.box [.vec a0_x.L.length 11 (gL cSProfile dSProfile a0_x.L), .int .i64 a0_x.Conn, .str a0_x.Txn, .int .i64 a0_x.Start, .int .i64 a0_x.T, .int .i64 a0_x.Length], .box [.int .i64 ((a0_x.L.getD t59_93.toNat dSProfile).ID), .int .i64 ((a0_x.L.getD t59_93.toNat dSProfile).Level), .int .i64 ((a0_x.L.getD t59_93.toNat dSProfile).Purpose), .int .i64 ((a0_x.L.getD t59_93.toNat dSProfile).Kind), .int .i64 ((a0_x.L.getD t59_93.toNat dSProfile).Conn), .str ((a0_x.L.getD t59_93.toNat dSProfile).Txn), .int .i64 ((a0_x.L.getD t59_93.toNat dSProfile).Span_From), .int .i64 ((a0_x.L.getD t59_93.toNat dSProfile).Span_To), .int .i64 ((a0_x.L.getD t59_93.toNat dSProfile).Start), .int .i64 ((a0_x.L.getD t59_93.toNat dSProfile).Duration), .vec ((a0_x.L.getD t59_93.toNat dSProfile).Periods).length 2 (gL cSPeriod dSPeriod ((a0_x.L.getD t59_93.toNat dSProfile).Periods))]]⟩) (g := fun s => chargenettop_ProfilesCompose_p128 F a0_x l_91 t58_92 t59_93 (fun l_91 t58_92 t59_93 => chargenettop_ProfilesCompose_l117 F a0_x a1_clear n_117 l_91 t58_92 t59_93) = some r) ?_ ?_
          rotate_left
          · refine SCode.seq ?_
            obtain ⟨g129, h⟩ := guard_out h
            refine SCode.region (show SOps _ _ _ [0, 1, 2, 3, 4, 5] _ _ from ?_)
            refine SOps.q rfl (.plain rfl) rfl (q_field_ptr rfl rfl fd24_0) ?_
            refine SOps.q rfl (.plain rfl) rfl (q_load_ptr rfl rfl rfl rfl ty22) ?_
            refine SOps.q rfl (.plain rfl) rfl (q_move rfl rfl) ?_
            refine SOps.q rfl (.plain rfl) rfl (q_slice_h rfl rfl rfl sl22 g129.1 g129.2) ?_
            refine SOps.q rfl (.plain rfl) rfl (q_len_vec rfl rfl sl22) ?_
            refine SOps.q rfl (.plain rfl) rfl (q_move rfl rfl) ?_
            refine SOps.sub (st' := ⟨[(1, .c (.int .u8 a1_clear)), (2, .c (.ptr 0 0)), (5, .c (.vec l_91.length 11 (gL cSProfile dSProfile l_91))), (7, .c (.ptr 1 0)), (57, .c (.vec a0_x.L.length 11 (gL cSProfile dSProfile a0_x.L))), (58, .c (.int .i64 t58_92)), (59, .c (.int .i64 t59_93)), (67, .c (.vec (subL a0_x.L 0 (t59_93 : Int).toNat).length 11 (gL cSProfile dSProfile (subL a0_x.L 0 (t59_93 : Int).toNat)))), (68, .c (.int .i64 (((subL a0_x.L 0 (t59_93 : Int).toNat).length : Int)))), (69, .c (.int .i64 0))], [.box [.vec a0_x.L.length 11 (gL cSProfile dSProfile a0_x.L), .int .i64 a0_x.Conn, .str a0_x.Txn, .int .i64 a0_x.Start, .int .i64 a0_x.T, .int .i64 a0_x.Length], .box [.int .i64 ((a0_x.L.getD t59_93.toNat dSProfile).ID), .int .i64 ((a0_x.L.getD t59_93.toNat dSProfile).Level), .int .i64 ((a0_x.L.getD t59_93.toNat dSProfile).Purpose), .int .i64 ((a0_x.L.getD t59_93.toNat dSProfile).Kind), .int .i64 ((a0_x.L.getD t59_93.toNat dSProfile).Conn), .str ((a0_x.L.getD t59_93.toNat dSProfile).Txn), .int .i64 ((a0_x.L.getD t59_93.toNat dSProfile).Span_From), .int .i64 ((a0_x.L.getD t59_93.toNat dSProfile).Span_To), .int .i64 ((a0_x.L.getD t59_93.toNat dSProfile).Start), .int .i64 ((a0_x.L.getD t59_93.toNat dSProfile).Duration), .vec ((a0_x.L.getD t59_93.toNat dSProfile).Periods).length 2 (gL cSPeriod dSPeriod ((a0_x.L.getD t59_93.toNat dSProfile).Periods))]]⟩) (sub_gen [0, 1] rfl rfl ⟨zc rfl rfl, zc rfl rfl, zc rfl rfl, zc rfl rfl, zc rfl rfl, zc rfl rfl, zc rfl rfl, zc rfl rfl, zc rfl rfl, zc rfl rfl, trivial⟩ ⟨⟨_, rfl, ⟨ii rfl rfl, ii rfl rfl, ii rfl rfl, ii rfl rfl, ii rfl rfl, ii rfl rfl, trivial⟩⟩, ⟨_, rfl, ⟨ii rfl rfl, ii rfl rfl, ii rfl rfl, ii rfl rfl, ii rfl rfl, ii rfl rfl, ii rfl rfl, ii rfl rfl, ii rfl rfl, ii rfl rfl, ii rfl rfl, trivial⟩⟩, trivial⟩) ?_
            refine SOps.nil ?_
            refine SCode.block ?_
            refine SCode.sub (st' := ⟨[(1, .c (.int .u8 a1_clear)), (2, .c (.ptr 0 0)), (5, .c (.vec l_91.length 11 (gL cSProfile dSProfile l_91))), (7, .c (.ptr 1 0)), (57, .c (.vec a0_x.L.length 11 (gL cSProfile dSProfile a0_x.L))), (58, .c (.int .i64 t58_92)), (59, .c (.int .i64 t59_93)), (67, .c (.vec (subL a0_x.L 0 (t59_93 : Int).toNat).length 11 (gL cSProfile dSProfile (subL a0_x.L 0 (t59_93 : Int).toNat)))), (68, .c (.int .i64 (((subL a0_x.L 0 (t59_93 : Int).toNat).length : Int)))), (69, .c (.int .i64 0))], [.box [.vec a0_x.L.length 11 (gL cSProfile dSProfile a0_x.L), .int .i64 a0_x.Conn, .str a0_x.Txn, .int .i64 a0_x.Start, .int .i64 a0_x.T, .int .i64 a0_x.Length], .box [.int .i64 ((a0_x.L.getD t59_93.toNat dSProfile).ID), .int .i64 ((a0_x.L.getD t59_93.toNat dSProfile).Level), .int .i64 ((a0_x.L.getD t59_93.toNat dSProfile).Purpose), .int .i64 ((a0_x.L.getD t59_93.toNat dSProfile).Kind), .int .i64 ((a0_x.L.getD t59_93.toNat dSProfile).Conn), .str ((a0_x.L.getD t59_93.toNat dSProfile).Txn), .int .i64 ((a0_x.L.getD t59_93.toNat dSProfile).Span_From), .int .i64 ((a0_x.L.getD t59_93.toNat dSProfile).Span_To), .int .i64 ((a0_x.L.getD t59_93.toNat dSProfile).Start), .int .i64 ((a0_x.L.getD t59_93.toNat dSProfile).Duration), .vec ((a0_x.L.getD t59_93.toNat dSProfile).Periods).length 2 (gL cSPeriod dSPeriod ((a0_x.L.getD t59_93.toNat dSProfile).Periods))]]⟩) (sub_gen [0, 1] rfl rfl ⟨zc rfl rfl, zc rfl rfl, zc rfl rfl, zc rfl rfl, zc rfl rfl, zc rfl rfl, zc rfl rfl, zc rfl rfl, zc rfl rfl, zc rfl rfl, trivial⟩ ⟨⟨_, rfl, ⟨ii rfl rfl, ii rfl rfl, ii rfl rfl, ii rfl rfl, ii rfl rfl, ii rfl rfl, trivial⟩⟩, ⟨_, rfl, ⟨ii rfl rfl, ii rfl rfl, ii rfl rfl, ii rfl rfl, ii rfl rfl, ii rfl rfl, ii rfl rfl, ii rfl rfl, ii rfl rfl, ii rfl rfl, ii rfl rfl, trivial⟩⟩, trivial⟩) ?_
            refine (SCode.loop (σ := Nat × Int) (S := fun s => ⟨[(1, .c (.int .u8 a1_clear)), (2, .c (.ptr 0 0)), (5, .c (.vec l_91.length 11 (gL cSProfile dSProfile l_91))), (7, .c (.ptr 1 0)), (57, .c (.vec a0_x.L.length 11 (gL cSProfile dSProfile a0_x.L))), (58, .c (.int .i64 t58_92)), (59, .c (.int .i64 t59_93)), (67, .c (.vec (subL a0_x.L 0 (t59_93 : Int).toNat).length 11 (gL cSProfile dSProfile (subL a0_x.L 0 (t59_93 : Int).toNat)))), (68, .c (.int .i64 (((subL a0_x.L 0 (t59_93 : Int).toNat).length : Int)))), (69, .c (.int .i64 s.2))], [.box [.vec a0_x.L.length 11 (gL cSProfile dSProfile a0_x.L), .int .i64 a0_x.Conn, .str a0_x.Txn, .int .i64 a0_x.Start, .int .i64 a0_x.T, .int .i64 a0_x.Length], .box [.int .i64 ((a0_x.L.getD t59_93.toNat dSProfile).ID), .int .i64 ((a0_x.L.getD t59_93.toNat dSProfile).Level), .int .i64 ((a0_x.L.getD t59_93.toNat dSProfile).Purpose), .int .i64 ((a0_x.L.getD t59_93.toNat dSProfile).Kind), .int .i64 ((a0_x.L.getD t59_93.toNat dSProfile).Conn), .str ((a0_x.L.getD t59_93.toNat dSProfile).Txn), .int .i64 ((a0_x.L.getD t59_93.toNat dSProfile).Span_From), .int .i64 ((a0_x.L.getD t59_93.toNat dSProfile).Span_To), .int .i64 ((a0_x.L.getD t59_93.toNat dSProfile).Start), .int .i64 ((a0_x.L.getD t59_93.toNat dSProfile).Duration), .vec ((a0_x.L.getD t59_93.toNat dSProfile).Periods).length 2 (gL cSPeriod dSPeriod ((a0_x.L.getD t59_93.toNat dSProfile).Periods))]]⟩) (g := fun s => chargenettop_ProfilesCompose_l137 F a0_x l_91 t58_92 t59_93 (fun l_91 t58_92 t59_93 => chargenettop_ProfilesCompose_l117 F a0_x a1_clear n_117 l_91 t58_92 t59_93) s.1 s.2 = some r) (μ := fun s => s.1) (F, 0) h ?_)
            rintro ⟨n_137, t69_133⟩ h
            replace h : chargenettop_ProfilesCompose_l137 F a0_x l_91 t58_92 t59_93 (fun l_91 t58_92 t59_93 => chargenettop_ProfilesCompose_l117 F a0_x a1_clear n_117 l_91 t58_92 t59_93) n_137 t69_133 = some r := h
            show SCode _ _ _ ⟨[(1, .c (.int .u8 a1_clear)), (2, .c (.ptr 0 0)), (5, .c (.vec l_91.length 11 (gL cSProfile dSProfile l_91))), (7, .c (.ptr 1 0)), (57, .c (.vec a0_x.L.length 11 (gL cSProfile dSProfile a0_x.L))), (58, .c (.int .i64 t58_92)), (59, .c (.int .i64 t59_93)), (67, .c (.vec (subL a0_x.L 0 (t59_93 : Int).toNat).length 11 (gL cSProfile dSProfile (subL a0_x.L 0 (t59_93 : Int).toNat)))), (68, .c (.int .i64 (((subL a0_x.L 0 (t59_93 : Int).toNat).length : Int)))), (69, .c (.int .i64 t69_133))], [.box [.vec a0_x.L.length 11 (gL cSProfile dSProfile a0_x.L), .int .i64 a0_x.Conn, .str a0_x.Txn, .int .i64 a0_x.Start, .int .i64 a0_x.T, .int .i64 a0_x.Length], .box [.int .i64 ((a0_x.L.getD t59_93.toNat dSProfile).ID), .int .i64 ((a0_x.L.getD t59_93.toNat dSProfile).Level), .int .i64 ((a0_x.L.getD t59_93.toNat dSProfile).Purpose), .int .i64 ((a0_x.L.getD t59_93.toNat dSProfile).Kind), .int .i64 ((a0_x.L.getD t59_93.toNat dSProfile).Conn), .str ((a0_x.L.getD t59_93.toNat dSProfile).Txn), .int .i64 ((a0_x.L.getD t59_93.toNat dSProfile).Span_From), .int .i64 ((a0_x.L.getD t59_93.toNat dSProfile).Span_To), .int .i64 ((a0_x.L.getD t59_93.toNat dSProfile).Start), .int .i64 ((a0_x.L.getD t59_93.toNat dSProfile).Duration), .vec ((a0_x.L.getD t59_93.toNat dSProfile).Periods).length 2 (gL cSPeriod dSPeriod ((a0_x.L.getD t59_93.toNat dSProfile).Periods))]]⟩ _
            cases n_137 with
            | zero => cases h
            | succ n_137 =>
              replace h : chargenettop_ProfilesCompose_b137 F a0_x l_91 t58_92 t59_93 (fun l_91 t58_92 t59_93 => chargenettop_ProfilesCompose_l117 F a0_x a1_clear n_117 l_91 t58_92 t59_93) (fun t69_133 => chargenettop_ProfilesCompose_l137 F a0_x l_91 t58_92 t59_93 (fun l_91 t58_92 t59_93 => chargenettop_ProfilesCompose_l117 F a0_x a1_clear n_117 l_91 t58_92 t59_93) n_137 t69_133) t69_133 = some r := h
              unfold chargenettop_ProfilesCompose_b137 at h
              refine SCode.seq ?_
              refine SCode.region (show SOps _ _ _ [0] _ _ from ?_)
              refine SOps.q rfl (.plain rfl) rfl (q_lss rfl rfl rfl) ?_
              refine SOps.sub (st' := ⟨[(1, .c (.int .u8 a1_clear)), (2, .c (.ptr 0 0)), (5, .c (.vec l_91.length 11 (gL cSProfile dSProfile l_91))), (7, .c (.ptr 1 0)), (57, .c (.vec a0_x.L.length 11 (gL cSProfile dSProfile a0_x.L))), (58, .c (.int .i64 t58_92)), (59, .c (.int .i64 t59_93)), (67, .c (.vec (subL a0_x.L 0 (t59_93 : Int).toNat).length 11 (gL cSProfile dSProfile (subL a0_x.L 0 (t59_93 : Int).toNat)))), (68, .c (.int .i64 (((subL a0_x.L 0 (t59_93 : Int).toNat).length : Int)))), (69, .c (.int .i64 t69_133)), (70, .c (.bool (decide (t69_133 < ((subL a0_x.L 0 (t59_93 : Int).toNat).length : Int)))))], [.box [.vec a0_x.L.length 11 (gL cSProfile dSProfile a0_x.L), .int .i64 a0_x.Conn, .str a0_x.Txn, .int .i64 a0_x.Start, .int .i64 a0_x.T, .int .i64 a0_x.Length], .box [.int .i64 ((a0_x.L.getD t59_93.toNat dSProfile).ID), .int .i64 ((a0_x.L.getD t59_93.toNat dSProfile).Level), .int .i64 ((a0_x.L.getD t59_93.toNat dSProfile).Purpose), .int .i64 ((a0_x.L.getD t59_93.toNat dSProfile).Kind), .int .i64 ((a0_x.L.getD t59_93.toNat dSProfile).Conn), .str ((a0_x.L.getD t59_93.toNat dSProfile).Txn), .int .i64 ((a0_x.L.getD t59_93.toNat dSProfile).Span_From), .int .i64 ((a0_x.L.getD t59_93.toNat dSProfile).Span_To), .int .i64 ((a0_x.L.getD t59_93.toNat dSProfile).Start), .int .i64 ((a0_x.L.getD t59_93.toNat dSProfile).Duration), .vec ((a0_x.L.getD t59_93.toNat dSProfile).Periods).length 2 (gL cSPeriod dSPeriod ((a0_x.L.getD t59_93.toNat dSProfile).Periods))]]⟩) (sub_gen [0, 1] rfl rfl ⟨zc rfl rfl, zc rfl rfl, zc rfl rfl, zc rfl rfl, zc rfl rfl, zc rfl rfl, zc rfl rfl, zc rfl rfl, zc rfl rfl, zc rfl rfl, zc rfl rfl, trivial⟩ ⟨⟨_, rfl, ⟨ii rfl rfl, ii rfl rfl, ii rfl rfl, ii rfl rfl, ii rfl rfl, ii rfl rfl, trivial⟩⟩, ⟨_, rfl, ⟨ii rfl rfl, ii rfl rfl, ii rfl rfl, ii rfl rfl, ii rfl rfl, ii rfl rfl, ii rfl rfl, ii rfl rfl, ii rfl rfl, ii rfl rfl, ii rfl rfl, trivial⟩⟩, trivial⟩) ?_
              refine SOps.nil ?_
              refine SCode.seq ?_
              rcases cond_out h with ⟨g138, h⟩ | ⟨g138, h⟩
              · refine SCode.cond_t rfl g138 ?_
                refine SCode.skip ?_
                refine SCode.seq ?_
                refine SCode.block ?_
                refine SCode.seq ?_
                obtain ⟨g139, h⟩ := guard_out h
                refine SCode.region (show SOps _ _ _ [0, 1, 2, 3] _ _ from ?_)
                refine SOps.q rfl (.plain rfl) rfl (q_index_vec rfl rfl rfl sl22 rfl g139.1 g139.2) ?_
                refine SOps.q rfl (.plain rfl) rfl (q_load_eptr_all rfl rfl rfl ty29) ?_
                refine SOps.e rfl (.plain rfl) (e_alloc rfl rfl rfl z29) ?_
                refine SOps.e rfl (.plain rfl) (e_store_box rfl rfl rfl rfl rfl ty29 rfl rfl rfl rfl) ?_
                refine SOps.sub (st' := ⟨[(1, .c (.int .u8 a1_clear)), (2, .c (.ptr 0 0)), (5, .c (.vec l_91.length 11 (gL cSProfile dSProfile l_91))), (7, .c (.ptr 1 0)), (9, .c (.ptr 2 0)), (57, .c (.vec a0_x.L.length 11 (gL cSProfile dSProfile a0_x.L))), (58, .c (.int .i64 t58_92)), (59, .c (.int .i64 t59_93)), (67, .c (.vec (subL a0_x.L 0 (t59_93 : Int).toNat).length 11 (gL cSProfile dSProfile (subL a0_x.L 0 (t59_93 : Int).toNat)))), (68, .c (.int .i64 (((subL a0_x.L 0 (t59_93 : Int).toNat).length : Int)))), (69, .c (.int .i64 t69_133))], [.box [.vec a0_x.L.length 11 (gL cSProfile dSProfile a0_x.L), .int .i64 a0_x.Conn, .str a0_x.Txn, .int .i64 a0_x.Start, .int .i64 a0_x.T, .int .i64 a0_x.Length], .box [.int .i64 ((a0_x.L.getD t59_93.toNat dSProfile).ID), .int .i64 ((a0_x.L.getD t59_93.toNat dSProfile).Level), .int .i64 ((a0_x.L.getD t59_93.toNat dSProfile).Purpose), .int .i64 ((a0_x.L.getD t59_93.toNat dSProfile).Kind), .int .i64 ((a0_x.L.getD t59_93.toNat dSProfile).Conn), .str ((a0_x.L.getD t59_93.toNat dSProfile).Txn), .int .i64 ((a0_x.L.getD t59_93.toNat dSProfile).Span_From), .int .i64 ((a0_x.L.getD t59_93.toNat dSProfile).Span_To), .int .i64 ((a0_x.L.getD t59_93.toNat dSProfile).Start), .int .i64 ((a0_x.L.getD t59_93.toNat dSProfile).Duration), .vec ((a0_x.L.getD t59_93.toNat dSProfile).Periods).length 2 (gL cSPeriod dSPeriod ((a0_x.L.getD t59_93.toNat dSProfile).Periods))], .box [.int .i64 (((subL a0_x.L 0 (t59_93 : Int).toNat).getD t69_133.toNat dSProfile).ID), .int .i64 (((subL a0_x.L 0 (t59_93 : Int).toNat).getD t69_133.toNat dSProfile).Level), .int .i64 (((subL a0_x.L 0 (t59_93 : Int).toNat).getD t69_133.toNat dSProfile).Purpose), .int .i64 (((subL a0_x.L 0 (t59_93 : Int).toNat).getD t69_133.toNat dSProfile).Kind), .int .i64 (((subL a0_x.L 0 (t59_93 : Int).toNat).getD t69_133.toNat dSProfile).Conn), .str (((subL a0_x.L 0 (t59_93 : Int).toNat).getD t69_133.toNat dSProfile).Txn), .int .i64 (((subL a0_x.L 0 (t59_93 : Int).toNat).getD t69_133.toNat dSProfile).Span_From), .int .i64 (((subL a0_x.L 0 (t59_93 : Int).toNat).getD t69_133.toNat dSProfile).Span_To), .int .i64 (((subL a0_x.L 0 (t59_93 : Int).toNat).getD t69_133.toNat dSProfile).Start), .int .i64 (((subL a0_x.L 0 (t59_93 : Int).toNat).getD t69_133.toNat dSProfile).Duration), .vec (((subL a0_x.L 0 (t59_93 : Int).toNat).getD t69_133.toNat dSProfile).Periods).length 2 (gL cSPeriod dSPeriod (((subL a0_x.L 0 (t59_93 : Int).toNat).getD t69_133.toNat dSProfile).Periods))]]⟩) (sub_gen [0, 1, 2] rfl rfl ⟨zc rfl rfl, zc rfl rfl, zc rfl rfl, zc rfl rfl, zc rfl rfl, zc rfl rfl, zc rfl rfl, zc rfl rfl, zc rfl rfl, zc rfl rfl, zc rfl rfl, trivial⟩ ⟨⟨_, rfl, ⟨ii rfl rfl, ii rfl rfl, ii rfl rfl, ii rfl rfl, ii rfl rfl, ii rfl rfl, trivial⟩⟩, ⟨_, rfl, ⟨ii rfl rfl, ii rfl rfl, ii rfl rfl, ii rfl rfl, ii rfl rfl, ii rfl rfl, ii rfl rfl, ii rfl rfl, ii rfl rfl, ii rfl rfl, ii rfl rfl, trivial⟩⟩, ⟨_, rfl, ⟨ii rfl rfl, ii rfl rfl, ii rfl rfl, ii rfl rfl, ii rfl rfl, ii rfl rfl, ii rfl rfl, ii rfl rfl, ii rfl rfl, ii rfl rfl, ii rfl rfl, trivial⟩⟩, trivial⟩) ?_
                refine SOps.nil ?_
                refine SCode.seq ?_
                refine SCode.region (show SOps _ _ _ [0, 1, 2, 3, 4] _ _ from ?_)
                refine SOps.q rfl (.plain rfl) rfl (q_field_ptr rfl rfl fd29_0) ?_
                refine SOps.q rfl (.plain rfl) rfl (q_load_ptr rfl rfl rfl rfl ty3) ?_
                refine SOps.q rfl (.plain rfl) rfl (q_field_ptr rfl rfl fd29_0) ?_
                refine SOps.q rfl (.plain rfl) rfl (q_load_ptr rfl rfl rfl rfl ty3) ?_
                refine SOps.q rfl (.plain rfl) rfl (q_eql rfl rfl rfl) ?_
                refine SOps.sub (st' := ⟨[(1, .c (.int .u8 a1_clear)), (2, .c (.ptr 0 0)), (5, .c (.vec l_91.length 11 (gL cSProfile dSProfile l_91))), (7, .c (.ptr 1 0)), (57, .c (.vec a0_x.L.length 11 (gL cSProfile dSProfile a0_x.L))), (58, .c (.int .i64 t58_92)), (59, .c (.int .i64 t59_93)), (67, .c (.vec (subL a0_x.L 0 (t59_93 : Int).toNat).length 11 (gL cSProfile dSProfile (subL a0_x.L 0 (t59_93 : Int).toNat)))), (68, .c (.int .i64 (((subL a0_x.L 0 (t59_93 : Int).toNat).length : Int)))), (69, .c (.int .i64 t69_133)), (77, .c (.bool (decide (((subL a0_x.L 0 (t59_93 : Int).toNat).getD t69_133.toNat dSProfile).ID = (a0_x.L.getD t59_93.toNat dSProfile).ID))))], [.box [.vec a0_x.L.length 11 (gL cSProfile dSProfile a0_x.L), .int .i64 a0_x.Conn, .str a0_x.Txn, .int .i64 a0_x.Start, .int .i64 a0_x.T, .int .i64 a0_x.Length], .box [.int .i64 ((a0_x.L.getD t59_93.toNat dSProfile).ID), .int .i64 ((a0_x.L.getD t59_93.toNat dSProfile).Level), .int .i64 ((a0_x.L.getD t59_93.toNat dSProfile).Purpose), .int .i64 ((a0_x.L.getD t59_93.toNat dSProfile).Kind), .int .i64 ((a0_x.L.getD t59_93.toNat dSProfile).Conn), .str ((a0_x.L.getD t59_93.toNat dSProfile).Txn), .int .i64 ((a0_x.L.getD t59_93.toNat dSProfile).Span_From), .int .i64 ((a0_x.L.getD t59_93.toNat dSProfile).Span_To), .int .i64 ((a0_x.L.getD t59_93.toNat dSProfile).Start), .int .i64 ((a0_x.L.getD t59_93.toNat dSProfile).Duration), .vec ((a0_x.L.getD t59_93.toNat dSProfile).Periods).length 2 (gL cSPeriod dSPeriod ((a0_x.L.getD t59_93.toNat dSProfile).Periods))]]⟩) (sub_gen [0, 1] rfl rfl ⟨zc rfl rfl, zc rfl rfl, zc rfl rfl, zc rfl rfl, zc rfl rfl, zc rfl rfl, zc rfl rfl, zc rfl rfl, zc rfl rfl, zc rfl rfl, zc rfl rfl, trivial⟩ ⟨⟨_, rfl, ⟨ii rfl rfl, ii rfl rfl, ii rfl rfl, ii rfl rfl, ii rfl rfl, ii rfl rfl, trivial⟩⟩, ⟨_, rfl, ⟨ii rfl rfl, ii rfl rfl, ii rfl rfl, ii rfl rfl, ii rfl rfl, ii rfl rfl, ii rfl rfl, ii rfl rfl, ii rfl rfl, ii rfl rfl, ii rfl rfl, trivial⟩⟩, trivial⟩) ?_
                refine SOps.nil ?_
                rcases cond_out h with ⟨g140, h⟩ | ⟨g140, h⟩
                · refine SCode.cond_t rfl g140 ?_
                  refine SCode.seq ?_
                  refine SCode.region (show SOps _ _ _ [0] _ _ from ?_)
                  refine SOps.q rfl (.plain rfl) rfl (q_assign rfl rfl) ?_
                  refine SOps.sub (st' := ⟨[(4, .c (.bool true))], []⟩) (sub_gen [] rfl rfl ⟨zc rfl rfl, trivial⟩ trivial) ?_
                  refine SOps.nil ?_
                  refine SCode.ret ?_
                  obtain rfl := Option.some.inj h
                  exact ⟨⟨[(4, .c (.bool true))], []⟩, _, sub_gen [] rfl rfl ⟨zc rfl rfl, trivial⟩ trivial, resA1 (v := .c (.bool true)) rfl rfl, rfl⟩
                refine SCode.cond_f rfl g140 ?_
                refine SCode.skip ?_
                refine SCode.region (show SOps _ _ _ [0, 1] _ _ from ?_)
                refine SOps.q rfl (.plain rfl) rfl (q_add rfl rfl rfl) ?_
                refine SOps.q rfl (.plain rfl) rfl (q_move rfl rfl) ?_
                refine SOps.sub (st' := ⟨[(1, .c (.int .u8 a1_clear)), (2, .c (.ptr 0 0)), (5, .c (.vec l_91.length 11 (gL cSProfile dSProfile l_91))), (7, .c (.ptr 1 0)), (57, .c (.vec a0_x.L.length 11 (gL cSProfile dSProfile a0_x.L))), (58, .c (.int .i64 t58_92)), (59, .c (.int .i64 t59_93)), (67, .c (.vec (subL a0_x.L 0 (t59_93 : Int).toNat).length 11 (gL cSProfile dSProfile (subL a0_x.L 0 (t59_93 : Int).toNat)))), (68, .c (.int .i64 (((subL a0_x.L 0 (t59_93 : Int).toNat).length : Int)))), (69, .c (.int .i64 (IntKind.wrap .i64 (t69_133 + 1))))], [.box [.vec a0_x.L.length 11 (gL cSProfile dSProfile a0_x.L), .int .i64 a0_x.Conn, .str a0_x.Txn, .int .i64 a0_x.Start, .int .i64 a0_x.T, .int .i64 a0_x.Length], .box [.int .i64 ((a0_x.L.getD t59_93.toNat dSProfile).ID), .int .i64 ((a0_x.L.getD t59_93.toNat dSProfile).Level), .int .i64 ((a0_x.L.getD t59_93.toNat dSProfile).Purpose), .int .i64 ((a0_x.L.getD t59_93.toNat dSProfile).Kind), .int .i64 ((a0_x.L.getD t59_93.toNat dSProfile).Conn), .str ((a0_x.L.getD t59_93.toNat dSProfile).Txn), .int .i64 ((a0_x.L.getD t59_93.toNat dSProfile).Span_From), .int .i64 ((a0_x.L.getD t59_93.toNat dSProfile).Span_To), .int .i64 ((a0_x.L.getD t59_93.toNat dSProfile).Start), .int .i64 ((a0_x.L.getD t59_93.toNat dSProfile).Duration), .vec ((a0_x.L.getD t59_93.toNat dSProfile).Periods).length 2 (gL cSPeriod dSPeriod ((a0_x.L.getD t59_93.toNat dSProfile).Periods))]]⟩) (sub_gen [0, 1] rfl rfl ⟨zc rfl rfl, zc rfl rfl, zc rfl rfl, zc rfl rfl, zc rfl rfl, zc rfl rfl, zc rfl rfl, zc rfl rfl, zc rfl rfl, zc rfl rfl, trivial⟩ ⟨⟨_, rfl, ⟨ii rfl rfl, ii rfl rfl, ii rfl rfl, ii rfl rfl, ii rfl rfl, ii rfl rfl, trivial⟩⟩, ⟨_, rfl, ⟨ii rfl rfl, ii rfl rfl, ii rfl rfl, ii rfl rfl, ii rfl rfl, ii rfl rfl, ii rfl rfl, ii rfl rfl, ii rfl rfl, ii rfl rfl, ii rfl rfl, trivial⟩⟩, trivial⟩) ?_
                refine SOps.nil ?_
                exact ⟨(n_137, IntKind.wrap .i64 (t69_133 + 1)), h, Nat.lt_succ_self n_137, sub_gen [0, 1] rfl rfl ⟨zc rfl rfl, zc rfl rfl, zc rfl rfl, zc rfl rfl, zc rfl rfl, zc rfl rfl, zc rfl rfl, zc rfl rfl, zc rfl rfl, zc rfl rfl, trivial⟩ ⟨⟨_, rfl, ⟨ii rfl rfl, ii rfl rfl, ii rfl rfl, ii rfl rfl, ii rfl rfl, ii rfl rfl, trivial⟩⟩, ⟨_, rfl, ⟨ii rfl rfl, ii rfl rfl, ii rfl rfl, ii rfl rfl, ii rfl rfl, ii rfl rfl, ii rfl rfl, ii rfl rfl, ii rfl rfl, ii rfl rfl, ii rfl rfl, trivial⟩⟩, trivial⟩⟩
              refine SCode.cond_f rfl g138 ?_
              refine SCode.exit ?_
              exact ⟨(), h, sub_gen [0, 1] rfl rfl ⟨zc rfl rfl, zc rfl rfl, zc rfl rfl, zc rfl rfl, zc rfl rfl, zc rfl rfl, zc rfl rfl, trivial⟩ ⟨⟨_, rfl, ⟨ii rfl rfl, ii rfl rfl, ii rfl rfl, ii rfl rfl, ii rfl rfl, ii rfl rfl, trivial⟩⟩, ⟨_, rfl, ⟨ii rfl rfl, ii rfl rfl, ii rfl rfl, ii rfl rfl, ii rfl rfl, ii rfl rfl, ii rfl rfl, ii rfl rfl, ii rfl rfl, ii rfl rfl, ii rfl rfl, trivial⟩⟩, trivial⟩⟩
          rintro ⟨⟩ h
          show SCode _ _ _ ⟨[(1, .c (.int .u8 a1_clear)), (2, .c (.ptr 0 0)), (5, .c (.vec l_91.length 11 (gL cSProfile dSProfile l_91))), (7, .c (.ptr 1 0)), (57, .c (.vec a0_x.L.length 11 (gL cSProfile dSProfile a0_x.L))), (58, .c (.int .i64 t58_92)), (59, .c (.int .i64 t59_93))], [.box [.vec a0_x.L.length 11 (gL cSProfile dSProfile a0_x.L), .int .i64 a0_x.Conn, .str a0_x.Txn, .int .i64 a0_x.Start, .int .i64 a0_x.T, .int .i64 a0_x.Length], .box [.int .i64 ((a0_x.L.getD t59_93.toNat dSProfile).ID), .int .i64 ((a0_x.L.getD t59_93.toNat dSProfile).Level), .int .i64 ((a0_x.L.getD t59_93.toNat dSProfile).Purpose), .int .i64 ((a0_x.L.getD t59_93.toNat dSProfile).Kind), .int .i64 ((a0_x.L.getD t59_93.toNat dSProfile).Conn), .str ((a0_x.L.getD t59_93.toNat dSProfile).Txn), .int .i64 ((a0_x.L.getD t59_93.toNat dSProfile).Span_From), .int .i64 ((a0_x.L.getD t59_93.toNat dSProfile).Span_To), .int .i64 ((a0_x.L.getD t59_93.toNat dSProfile).Start), .int .i64 ((a0_x.L.getD t59_93.toNat dSProfile).Duration), .vec ((a0_x.L.getD t59_93.toNat dSProfile).Periods).length 2 (gL cSPeriod dSPeriod ((a0_x.L.getD t59_93.toNat dSProfile).Periods))]]⟩ _
          replace h : chargenettop_ProfilesCompose_p128 F a0_x l_91 t58_92 t59_93 (fun l_91 t58_92 t59_93 => chargenettop_ProfilesCompose_l117 F a0_x a1_clear n_117 l_91 t58_92 t59_93) = some r := h
          unfold chargenettop_ProfilesCompose_p128 at h
          refine SCode.seq ?_
          refine SCode.region (show SOps _ _ _ [0] _ _ from ?_)
          refine SOps.q rfl (.plain rfl) rfl (q_assign rfl rfl) ?_
          refine SOps.sub (st' := ⟨[(1, .c (.int .u8 a1_clear)), (2, .c (.ptr 0 0)), (5, .c (.vec l_91.length 11 (gL cSProfile dSProfile l_91))), (7, .c (.ptr 1 0)), (57, .c (.vec a0_x.L.length 11 (gL cSProfile dSProfile a0_x.L))), (58, .c (.int .i64 t58_92)), (59, .c (.int .i64 t59_93))], [.box [.vec a0_x.L.length 11 (gL cSProfile dSProfile a0_x.L), .int .i64 a0_x.Conn, .str a0_x.Txn, .int .i64 a0_x.Start, .int .i64 a0_x.T, .int .i64 a0_x.Length], .box [.int .i64 ((a0_x.L.getD t59_93.toNat dSProfile).ID), .int .i64 ((a0_x.L.getD t59_93.toNat dSProfile).Level), .int .i64 ((a0_x.L.getD t59_93.toNat dSProfile).Purpose), .int .i64 ((a0_x.L.getD t59_93.toNat dSProfile).Kind), .int .i64 ((a0_x.L.getD t59_93.toNat dSProfile).Conn), .str ((a0_x.L.getD t59_93.toNat dSProfile).Txn), .int .i64 ((a0_x.L.getD t59_93.toNat dSProfile).Span_From), .int .i64 ((a0_x.L.getD t59_93.toNat dSProfile).Span_To), .int .i64 ((a0_x.L.getD t59_93.toNat dSProfile).Start), .int .i64 ((a0_x.L.getD t59_93.toNat dSProfile).Duration), .vec ((a0_x.L.getD t59_93.toNat dSProfile).Periods).length 2 (gL cSPeriod dSPeriod ((a0_x.L.getD t59_93.toNat dSProfile).Periods))]]⟩) (sub_gen [0, 1] rfl rfl ⟨zc rfl rfl, zc rfl rfl, zc rfl rfl, zc rfl rfl, zc rfl rfl, zc rfl rfl, zc rfl rfl, trivial⟩ ⟨⟨_, rfl, ⟨ii rfl rfl, ii rfl rfl, ii rfl rfl, ii rfl rfl, ii rfl rfl, ii rfl rfl, trivial⟩⟩, ⟨_, rfl, ⟨ii rfl rfl, ii rfl rfl, ii rfl rfl, ii rfl rfl, ii rfl rfl, ii rfl rfl, ii rfl rfl, ii rfl rfl, ii rfl rfl, ii rfl rfl, ii rfl rfl, trivial⟩⟩, trivial⟩) ?_
          refine SOps.nil ?_
          refine SCode.seq ?_
          refine SCode.seq ?_
          obtain ⟨c_122, g123, h⟩ := bind_out h
          try dsimp only at h
          refine SCode.region (show SOps _ _ _ [0, 1, 2] _ _ from ?_)
          refine SOps.q rfl (.plain rfl) rfl (q_load_ptr_all rfl rfl rfl rfl rfl ty29) ?_
          refine SOps.q rfl (.plain rfl) rfl (q_call (profile_Valid_ok F (a0_x.L.getD t59_93.toNat dSProfile) c_122 g123) [] rfl fn4 ⟨⟨rfl, rfl⟩, trivial⟩ (.inl rfl)) ?_
          refine SOps.q rfl (.plain rfl) rfl (q_neq rfl rfl rfl) ?_
          refine SOps.sub (st' := ⟨[(1, .c (.int .u8 a1_clear)), (2, .c (.ptr 0 0)), (5, .c (.vec l_91.length 11 (gL cSProfile dSProfile l_91))), (7, .c (.ptr 1 0)), (57, .c (.vec a0_x.L.length 11 (gL cSProfile dSProfile a0_x.L))), (58, .c (.int .i64 t58_92)), (59, .c (.int .i64 t59_93)), (81, .c (.bool ((!decide (c_122 = 0)))))], [.box [.vec a0_x.L.length 11 (gL cSProfile dSProfile a0_x.L), .int .i64 a0_x.Conn, .str a0_x.Txn, .int .i64 a0_x.Start, .int .i64 a0_x.T, .int .i64 a0_x.Length], .box [.int .i64 ((a0_x.L.getD t59_93.toNat dSProfile).ID), .int .i64 ((a0_x.L.getD t59_93.toNat dSProfile).Level), .int .i64 ((a0_x.L.getD t59_93.toNat dSProfile).Purpose), .int .i64 ((a0_x.L.getD t59_93.toNat dSProfile).Kind), .int .i64 ((a0_x.L.getD t59_93.toNat dSProfile).Conn), .str ((a0_x.L.getD t59_93.toNat dSProfile).Txn), .int .i64 ((a0_x.L.getD t59_93.toNat dSProfile).Span_From), .int .i64 ((a0_x.L.getD t59_93.toNat dSProfile).Span_To), .int .i64 ((a0_x.L.getD t59_93.toNat dSProfile).Start), .int .i64 ((a0_x.L.getD t59_93.toNat dSProfile).Duration), .vec ((a0_x.L.getD t59_93.toNat dSProfile).Periods).length 2 (gL cSPeriod dSPeriod ((a0_x.L.getD t59_93.toNat dSProfile).Periods))]]⟩) (sub_gen [0, 1] rfl rfl ⟨zc rfl rfl, zc rfl rfl, zc rfl rfl, zc rfl rfl, zc rfl rfl, zc rfl rfl, zc rfl rfl, zc rfl rfl, trivial⟩ ⟨⟨_, rfl, ⟨ii rfl rfl, ii rfl rfl, ii rfl rfl, ii rfl rfl, ii rfl rfl, ii rfl rfl, trivial⟩⟩, ⟨_, rfl, ⟨ii rfl rfl, ii rfl rfl, ii rfl rfl, ii rfl rfl, ii rfl rfl, ii rfl rfl, ii rfl rfl, ii rfl rfl, ii rfl rfl, ii rfl rfl, ii rfl rfl, trivial⟩⟩, trivial⟩) ?_
          refine SOps.nil ?_
          rcases cond_out h with ⟨g124, h⟩ | ⟨g124, h⟩
          · refine SCode.cond_t rfl g124 ?_
            refine SCode.seq ?_
            refine SCode.region (show SOps _ _ _ [0] _ _ from ?_)
            refine SOps.q rfl (.plain rfl) rfl (q_assign rfl rfl) ?_
            refine SOps.sub (st' := ⟨[(4, .c (.bool true))], []⟩) (sub_gen [] rfl rfl ⟨zc rfl rfl, trivial⟩ trivial) ?_
            refine SOps.nil ?_
            refine SCode.ret ?_
            obtain rfl := Option.some.inj h
            exact ⟨⟨[(4, .c (.bool true))], []⟩, _, sub_gen [] rfl rfl ⟨zc rfl rfl, trivial⟩ trivial, resA1 (v := .c (.bool true)) rfl rfl, rfl⟩
          refine SCode.cond_f rfl g124 ?_
          refine SCode.skip ?_
          refine SCode.seq ?_
          obtain ⟨c_125, g126, h⟩ := bind_out h
          try dsimp only at h
          refine SCode.region (show SOps _ _ _ [0, 1, 2, 3, 4, 5, 6, 7] _ _ from ?_)
          refine SOps.q rfl (.plain rfl) rfl (q_move rfl rfl) ?_
          refine SOps.q rfl (.plain rfl) rfl (q_load_ptr_all rfl rfl rfl rfl rfl ty29) ?_
          refine SOps.q rfl (.plain rfl) rfl (q_call (profile_Put_ok F l_91 (a0_x.L.getD t59_93.toNat dSProfile) c_125 g126) [] rfl fn5 ⟨⟨_, rfl, .inl ⟨rfl, rfl⟩⟩, ⟨rfl, rfl⟩, trivial⟩ (.inl rfl)) ?_
          refine SOps.q rfl (.plain rfl) rfl (q_move rfl rfl) ?_
          refine SOps.q rfl (.plain rfl) rfl (q_extract rfl rfl rfl) ?_
          refine SOps.q rfl (.plain rfl) rfl (q_extract rfl rfl rfl) ?_
          refine SOps.q rfl (.plain rfl) rfl (q_assign rfl rfl) ?_
          refine SOps.q rfl (.plain rfl) rfl (q_assign rfl rfl) ?_
          refine SOps.sub (st' := ⟨[(1, .c (.int .u8 a1_clear)), (2, .c (.ptr 0 0)), (5, .c (.vec c_125.1.length 11 (gL cSProfile dSProfile c_125.1))), (10, .c (.int .i64 c_125.2)), (57, .c (.vec a0_x.L.length 11 (gL cSProfile dSProfile a0_x.L))), (58, .c (.int .i64 t58_92)), (59, .c (.int .i64 t59_93))], [.box [.vec a0_x.L.length 11 (gL cSProfile dSProfile a0_x.L), .int .i64 a0_x.Conn, .str a0_x.Txn, .int .i64 a0_x.Start, .int .i64 a0_x.T, .int .i64 a0_x.Length]]⟩) (sub_gen [0] rfl rfl ⟨zc rfl rfl, zc rfl rfl, zc rfl rfl, zc rfl rfl, zc rfl rfl, zc rfl rfl, zc rfl rfl, trivial⟩ ⟨⟨_, rfl, ⟨ii rfl rfl, ii rfl rfl, ii rfl rfl, ii rfl rfl, ii rfl rfl, ii rfl rfl, trivial⟩⟩, trivial⟩) ?_
          refine SOps.nil ?_
          refine SCode.seq ?_
          refine SCode.region (show SOps _ _ _ [0, 1] _ _ from ?_)
          refine SOps.q rfl (.plain rfl) rfl (q_move rfl rfl) ?_
          refine SOps.q rfl (.plain rfl) rfl (q_neq rfl rfl rfl) ?_
          refine SOps.sub (st' := ⟨[(1, .c (.int .u8 a1_clear)), (2, .c (.ptr 0 0)), (5, .c (.vec c_125.1.length 11 (gL cSProfile dSProfile c_125.1))), (57, .c (.vec a0_x.L.length 11 (gL cSProfile dSProfile a0_x.L))), (58, .c (.int .i64 t58_92)), (59, .c (.int .i64 t59_93)), (89, .c (.bool ((!decide (c_125.2 = 0)))))], [.box [.vec a0_x.L.length 11 (gL cSProfile dSProfile a0_x.L), .int .i64 a0_x.Conn, .str a0_x.Txn, .int .i64 a0_x.Start, .int .i64 a0_x.T, .int .i64 a0_x.Length]]⟩) (sub_gen [0] rfl rfl ⟨zc rfl rfl, zc rfl rfl, zc rfl rfl, zc rfl rfl, zc rfl rfl, zc rfl rfl, zc rfl rfl, trivial⟩ ⟨⟨_, rfl, ⟨ii rfl rfl, ii rfl rfl, ii rfl rfl, ii rfl rfl, ii rfl rfl, ii rfl rfl, trivial⟩⟩, trivial⟩) ?_
          refine SOps.nil ?_
          rcases cond_out h with ⟨g127, h⟩ | ⟨g127, h⟩
          · refine SCode.cond_t rfl g127 ?_
            refine SCode.seq ?_
            refine SCode.region (show SOps _ _ _ [0] _ _ from ?_)
            refine SOps.q rfl (.plain rfl) rfl (q_assign rfl rfl) ?_
            refine SOps.sub (st' := ⟨[(4, .c (.bool false))], []⟩) (sub_gen [] rfl rfl ⟨zc rfl rfl, trivial⟩ trivial) ?_
            refine SOps.nil ?_
            refine SCode.ret ?_
            obtain rfl := Option.some.inj h
            exact ⟨⟨[(4, .c (.bool false))], []⟩, _, sub_gen [] rfl rfl ⟨zc rfl rfl, trivial⟩ trivial, resA1 (v := .c (.bool false)) rfl rfl, rfl⟩
          refine SCode.cond_f rfl g127 ?_
          refine SCode.skip ?_
          exact ⟨c_125.1, h, sub_gen [0] rfl rfl ⟨zc rfl rfl, zc rfl rfl, zc rfl rfl, zc rfl rfl, zc rfl rfl, zc rfl rfl, trivial⟩ ⟨⟨_, rfl, ⟨ii rfl rfl, ii rfl rfl, ii rfl rfl, ii rfl rfl, ii rfl rfl, ii rfl rfl, trivial⟩⟩, trivial⟩⟩
        rintro l_119 h
        show SCode _ _ _ ⟨[(1, .c (.int .u8 a1_clear)), (2, .c (.ptr 0 0)), (5, .c (.vec l_119.length 11 (gL cSProfile dSProfile l_119))), (57, .c (.vec a0_x.L.length 11 (gL cSProfile dSProfile a0_x.L))), (58, .c (.int .i64 t58_92)), (59, .c (.int .i64 t59_93))], [.box [.vec a0_x.L.length 11 (gL cSProfile dSProfile a0_x.L), .int .i64 a0_x.Conn, .str a0_x.Txn, .int .i64 a0_x.Start, .int .i64 a0_x.T, .int .i64 a0_x.Length]]⟩ _
        replace h : chargenettop_ProfilesCompose_p120 t58_92 t59_93 (fun l_91 t58_92 t59_93 => chargenettop_ProfilesCompose_l117 F a0_x a1_clear n_117 l_91 t58_92 t59_93) l_119 = some r := h
        unfold chargenettop_ProfilesCompose_p120 at h
        refine SCode.region (show SOps _ _ _ [0, 1] _ _ from ?_)
        refine SOps.q rfl (.plain rfl) rfl (q_add rfl rfl rfl) ?_
        refine SOps.q rfl (.plain rfl) rfl (q_move rfl rfl) ?_
        refine SOps.sub (st' := ⟨[(1, .c (.int .u8 a1_clear)), (2, .c (.ptr 0 0)), (5, .c (.vec l_119.length 11 (gL cSProfile dSProfile l_119))), (57, .c (.vec a0_x.L.length 11 (gL cSProfile dSProfile a0_x.L))), (58, .c (.int .i64 t58_92)), (59, .c (.int .i64 (IntKind.wrap .i64 (t59_93 + 1))))], [.box [.vec a0_x.L.length 11 (gL cSProfile dSProfile a0_x.L), .int .i64 a0_x.Conn, .str a0_x.Txn, .int .i64 a0_x.Start, .int .i64 a0_x.T, .int .i64 a0_x.Length]]⟩) (sub_gen [0] rfl rfl ⟨zc rfl rfl, zc rfl rfl, zc rfl rfl, zc rfl rfl, zc rfl rfl, zc rfl rfl, trivial⟩ ⟨⟨_, rfl, ⟨ii rfl rfl, ii rfl rfl, ii rfl rfl, ii rfl rfl, ii rfl rfl, ii rfl rfl, trivial⟩⟩, trivial⟩) ?_
        refine SOps.nil ?_
        exact ⟨(n_117, (l_119, t58_92, IntKind.wrap .i64 (t59_93 + 1))), h, Nat.lt_succ_self n_117, sub_gen [0] rfl rfl ⟨zc rfl rfl, zc rfl rfl, zc rfl rfl, zc rfl rfl, zc rfl rfl, zc rfl rfl, trivial⟩ ⟨⟨_, rfl, ⟨ii rfl rfl, ii rfl rfl, ii rfl rfl, ii rfl rfl, ii rfl rfl, ii rfl rfl, trivial⟩⟩, trivial⟩⟩
      refine SCode.cond_f rfl g118 ?_
      refine SCode.exit ?_
      exact ⟨l_91, h, sub_gen [0] rfl rfl ⟨zc rfl rfl, zc rfl rfl, zc rfl rfl, trivial⟩ ⟨⟨_, rfl, ⟨ii rfl rfl, ii rfl rfl, ii rfl rfl, ii rfl rfl, ii rfl rfl, ii rfl rfl, trivial⟩⟩, trivial⟩⟩
  rintro l_8 h
  show SCode _ _ _ ⟨[(1, .c (.int .u8 a1_clear)), (2, .c (.ptr 0 0)), (5, .c (.vec l_8.length 11 (gL cSProfile dSProfile l_8)))], [.box [.vec a0_x.L.length 11 (gL cSProfile dSProfile a0_x.L), .int .i64 a0_x.Conn, .str a0_x.Txn, .int .i64 a0_x.Start, .int .i64 a0_x.T, .int .i64 a0_x.Length]]⟩ _
  replace h : chargenettop_ProfilesCompose_p66 F a0_x a1_clear l_8 = some r := h
  unfold chargenettop_ProfilesCompose_p66 at h
  refine SCode.seq ?_
  refine SCode.region (show SOps _ _ _ [0, 1, 2, 3, 4, 5, 6, 7, 8, 9] _ _ from ?_)
  refine SOps.q rfl (.plain rfl) rfl (q_field_ptr rfl rfl fd24_4) ?_
  refine SOps.q rfl (.plain rfl) rfl (q_load_ptr rfl rfl rfl rfl ty3) ?_
  refine SOps.q rfl (.plain rfl) rfl (q_field_ptr rfl rfl fd24_4) ?_
  refine SOps.q rfl (.plain rfl) rfl (q_load_ptr rfl rfl rfl rfl ty3) ?_
  refine SOps.q rfl (.plain rfl) rfl (q_field_ptr rfl rfl fd24_5) ?_
  refine SOps.q rfl (.plain rfl) rfl (q_load_ptr rfl rfl rfl rfl ty3) ?_
  refine SOps.q rfl (.plain rfl) rfl (q_add rfl rfl rfl) ?_
  refine SOps.q rfl (.plain rfl) rfl (q_build2 rfl rfl pl26 rfl) ?_
  refine SOps.e rfl (.plain rfl) (e_alloc rfl rfl rfl z26) ?_
  refine SOps.e rfl (.plain rfl) (e_store_box rfl rfl rfl rfl rfl ty26 rfl rfl rfl rfl) ?_
  refine SOps.sub (st' := ⟨[(1, .c (.int .u8 a1_clear)), (2, .c (.ptr 0 0)), (5, .c (.vec l_8.length 11 (gL cSProfile dSProfile l_8))), (11, .c (.ptr 1 0))], [.box [.vec a0_x.L.length 11 (gL cSProfile dSProfile a0_x.L), .int .i64 a0_x.Conn, .str a0_x.Txn, .int .i64 a0_x.Start, .int .i64 a0_x.T, .int .i64 a0_x.Length], .box [.int .i64 a0_x.T, .int .i64 (IntKind.wrap .i64 (a0_x.T + a0_x.Length))]]⟩) (sub_gen [0, 1] rfl rfl ⟨zc rfl rfl, zc rfl rfl, zc rfl rfl, zc rfl rfl, trivial⟩ ⟨⟨_, rfl, ⟨ii rfl rfl, ii rfl rfl, ii rfl rfl, ii rfl rfl, ii rfl rfl, ii rfl rfl, trivial⟩⟩, ⟨_, rfl, ⟨ii rfl rfl, ii rfl rfl, trivial⟩⟩, trivial⟩) ?_
  refine SOps.nil ?_
  refine SCode.seq ?_
  obtain ⟨c_9, g10, h⟩ := bind_out h
  try dsimp only at h
  refine SCode.region (show SOps _ _ _ [0, 1, 2, 3, 4, 5, 6, 7, 8, 9, 10, 11, 12, 13] _ _ from ?_)
  refine SOps.q rfl (.plain rfl) rfl (q_move rfl rfl) ?_
  refine SOps.q rfl (.plain rfl) rfl (q_field_ptr rfl rfl fd24_1) ?_
  refine SOps.q rfl (.plain rfl) rfl (q_load_ptr rfl rfl rfl rfl ty3) ?_
  refine SOps.q rfl (.plain rfl) rfl (q_field_ptr rfl rfl fd24_2) ?_
  refine SOps.q rfl (.plain rfl) rfl (q_load_ptr rfl rfl rfl rfl ty9) ?_
  refine SOps.q rfl (.plain rfl) rfl (q_field_ptr rfl rfl fd24_3) ?_
  refine SOps.q rfl (.plain rfl) rfl (q_load_ptr rfl rfl rfl rfl ty3) ?_
  refine SOps.q rfl (.plain rfl) rfl (q_load_ptr_all rfl rfl rfl rfl rfl ty26) ?_
  refine SOps.q rfl (.plain rfl) rfl (q_call (compose_Series_ok F l_8 a0_x.Conn a0_x.Txn a0_x.Start (SSpan.mk a0_x.T (IntKind.wrap .i64 (a0_x.T + a0_x.Length))) c_9 g10) [] rfl fn6 ⟨⟨_, rfl, .inl ⟨rfl, rfl⟩⟩, ⟨_, rfl, .inl ⟨rfl, rfl⟩⟩, ⟨_, rfl, .inl ⟨rfl, rfl⟩⟩, ⟨_, rfl, .inl ⟨rfl, rfl⟩⟩, ⟨rfl, rfl⟩, trivial⟩ (.inl rfl)) ?_
  refine SOps.q rfl (.plain rfl) rfl (q_move rfl rfl) ?_
  refine SOps.q rfl (.plain rfl) rfl (q_extract rfl rfl rfl) ?_
  refine SOps.q rfl (.plain rfl) rfl (q_extract rfl rfl rfl) ?_
  refine SOps.q rfl (.plain rfl) rfl (q_assign rfl rfl) ?_
  refine SOps.q rfl (.plain rfl) rfl (q_assign rfl rfl) ?_
  refine SOps.sub (st' := ⟨[(1, .c (.int .u8 a1_clear)), (2, .c (.ptr 0 0)), (5, .c (.vec l_8.length 11 (gL cSProfile dSProfile l_8))), (11, .c (.ptr 1 0)), (12, .c (.vec c_9.1.length 2 (gL cSStep dSStep c_9.1))), (13, .c (.int .i64 c_9.2))], [.box [.vec a0_x.L.length 11 (gL cSProfile dSProfile a0_x.L), .int .i64 a0_x.Conn, .str a0_x.Txn, .int .i64 a0_x.Start, .int .i64 a0_x.T, .int .i64 a0_x.Length], .box [.int .i64 a0_x.T, .int .i64 (IntKind.wrap .i64 (a0_x.T + a0_x.Length))]]⟩) (sub_gen [0, 1] rfl rfl ⟨zc rfl rfl, zc rfl rfl, zc rfl rfl, zc rfl rfl, zc rfl rfl, zc rfl rfl, trivial⟩ ⟨⟨_, rfl, ⟨ii rfl rfl, ii rfl rfl, ii rfl rfl, ii rfl rfl, ii rfl rfl, ii rfl rfl, trivial⟩⟩, ⟨_, rfl, ⟨ii rfl rfl, ii rfl rfl, trivial⟩⟩, trivial⟩) ?_
  refine SOps.nil ?_
  refine SCode.seq ?_
  refine SCode.seq ?_
  refine SCode.region (show SOps _ _ _ [0, 1] _ _ from ?_)
  refine SOps.q rfl (.plain rfl) rfl (q_move rfl rfl) ?_
  refine SOps.q rfl (.plain rfl) rfl (q_neq rfl rfl rfl) ?_
  refine SOps.sub (st' := ⟨[(1, .c (.int .u8 a1_clear)), (2, .c (.ptr 0 0)), (5, .c (.vec l_8.length 11 (gL cSProfile dSProfile l_8))), (11, .c (.ptr 1 0)), (12, .c (.vec c_9.1.length 2 (gL cSStep dSStep c_9.1))), (13, .c (.int .i64 c_9.2)), (112, .c (.bool ((!decide (c_9.2 = 0)))))], [.box [.vec a0_x.L.length 11 (gL cSProfile dSProfile a0_x.L), .int .i64 a0_x.Conn, .str a0_x.Txn, .int .i64 a0_x.Start, .int .i64 a0_x.T, .int .i64 a0_x.Length], .box [.int .i64 a0_x.T, .int .i64 (IntKind.wrap .i64 (a0_x.T + a0_x.Length))]]⟩) (sub_gen [0, 1] rfl rfl ⟨zc rfl rfl, zc rfl rfl, zc rfl rfl, zc rfl rfl, zc rfl rfl, zc rfl rfl, zc rfl rfl, trivial⟩ ⟨⟨_, rfl, ⟨ii rfl rfl, ii rfl rfl, ii rfl rfl, ii rfl rfl, ii rfl rfl, ii rfl rfl, trivial⟩⟩, ⟨_, rfl, ⟨ii rfl rfl, ii rfl rfl, trivial⟩⟩, trivial⟩) ?_
  refine SOps.nil ?_
  rcases cond_out h with ⟨g11, h⟩ | ⟨g11, h⟩
  · refine SCode.cond_t rfl g11 ?_
    refine SCode.seq ?_
    refine SCode.region (show SOps _ _ _ [0, 1, 2] _ _ from ?_)
    refine SOps.q rfl (.plain rfl) rfl (q_move rfl rfl) ?_
    refine SOps.q rfl (.plain rfl) rfl (q_eql rfl rfl rfl) ?_
    refine SOps.q rfl (.plain rfl) rfl (q_assign rfl rfl) ?_
    refine SOps.sub (st' := ⟨[(4, .c (.bool (decide (c_9.2 = 3))))], []⟩) (sub_gen [] rfl rfl ⟨zc rfl rfl, trivial⟩ trivial) ?_
    refine SOps.nil ?_
    refine SCode.ret ?_
    obtain rfl := Option.some.inj h
    exact ⟨⟨[(4, .c (.bool (decide (c_9.2 = 3))))], []⟩, _, sub_gen [] rfl rfl ⟨zc rfl rfl, trivial⟩ trivial, resA1 (v := .c (.bool (decide (c_9.2 = 3)))) rfl rfl, rfl⟩
  refine SCode.cond_f rfl g11 ?_
  refine SCode.skip ?_
  refine SCode.seq ?_
  obtain ⟨c_12, g13, h⟩ := bind_out h
  try dsimp only at h
  refine SCode.region (show SOps _ _ _ [0, 1, 2, 3, 4, 5, 6, 7] _ _ from ?_)
  refine SOps.q rfl (.plain rfl) rfl (q_move rfl rfl) ?_
  refine SOps.q rfl (.plain rfl) rfl (q_load_ptr_all rfl rfl rfl rfl rfl ty26) ?_
  refine SOps.q rfl (.plain rfl) rfl (q_call (series_Energy_ok F c_9.1 (SSpan.mk a0_x.T (IntKind.wrap .i64 (a0_x.T + a0_x.Length))) c_12 g13) [] rfl fn7 ⟨⟨_, rfl, .inl ⟨rfl, rfl⟩⟩, ⟨rfl, rfl⟩, trivial⟩ (.inl rfl)) ?_
  refine SOps.q rfl (.plain rfl) rfl (q_move rfl rfl) ?_
  refine SOps.q rfl (.plain rfl) rfl (q_extract rfl rfl rfl) ?_
  refine SOps.q rfl (.plain rfl) rfl (q_extract rfl rfl rfl) ?_
  refine SOps.q rfl (.plain rfl) rfl (q_assign rfl rfl) ?_
  refine SOps.q rfl (.plain rfl) rfl (q_assign rfl rfl) ?_
  refine SOps.sub (st' := ⟨[(1, .c (.int .u8 a1_clear)), (2, .c (.ptr 0 0)), (5, .c (.vec l_8.length 11 (gL cSProfile dSProfile l_8))), (11, .c (.ptr 1 0)), (13, .c (.int .i64 c_12.2)), (14, .c (.int .i64 c_12.1))], [.box [.vec a0_x.L.length 11 (gL cSProfile dSProfile a0_x.L), .int .i64 a0_x.Conn, .str a0_x.Txn, .int .i64 a0_x.Start, .int .i64 a0_x.T, .int .i64 a0_x.Length], .box [.int .i64 a0_x.T, .int .i64 (IntKind.wrap .i64 (a0_x.T + a0_x.Length))]]⟩) (sub_gen [0, 1] rfl rfl ⟨zc rfl rfl, zc rfl rfl, zc rfl rfl, zc rfl rfl, zc rfl rfl, zc rfl rfl, trivial⟩ ⟨⟨_, rfl, ⟨ii rfl rfl, ii rfl rfl, ii rfl rfl, ii rfl rfl, ii rfl rfl, ii rfl rfl, trivial⟩⟩, ⟨_, rfl, ⟨ii rfl rfl, ii rfl rfl, trivial⟩⟩, trivial⟩) ?_
  refine SOps.nil ?_
  refine SCode.seq ?_
  refine SCode.seq ?_
  refine SCode.region (show SOps _ _ _ [0, 1] _ _ from ?_)
  refine SOps.q rfl (.plain rfl) rfl (q_move rfl rfl) ?_
  refine SOps.q rfl (.plain rfl) rfl (q_neq rfl rfl rfl) ?_
  refine SOps.sub (st' := ⟨[(1, .c (.int .u8 a1_clear)), (2, .c (.ptr 0 0)), (5, .c (.vec l_8.length 11 (gL cSProfile dSProfile l_8))), (11, .c (.ptr 1 0)), (14, .c (.int .i64 c_12.1)), (122, .c (.bool ((!decide (c_12.2 = 0)))))], [.box [.vec a0_x.L.length 11 (gL cSProfile dSProfile a0_x.L), .int .i64 a0_x.Conn, .str a0_x.Txn, .int .i64 a0_x.Start, .int .i64 a0_x.T, .int .i64 a0_x.Length], .box [.int .i64 a0_x.T, .int .i64 (IntKind.wrap .i64 (a0_x.T + a0_x.Length))]]⟩) (sub_gen [0, 1] rfl rfl ⟨zc rfl rfl, zc rfl rfl, zc rfl rfl, zc rfl rfl, zc rfl rfl, zc rfl rfl, trivial⟩ ⟨⟨_, rfl, ⟨ii rfl rfl, ii rfl rfl, ii rfl rfl, ii rfl rfl, ii rfl rfl, ii rfl rfl, trivial⟩⟩, ⟨_, rfl, ⟨ii rfl rfl, ii rfl rfl, trivial⟩⟩, trivial⟩) ?_
  refine SOps.nil ?_
  rcases cond_out h with ⟨g14, h⟩ | ⟨g14, h⟩
  · refine SCode.cond_t rfl g14 ?_
    refine SCode.seq ?_
    refine SCode.region (show SOps _ _ _ [0] _ _ from ?_)
    refine SOps.q rfl (.plain rfl) rfl (q_assign rfl rfl) ?_
    refine SOps.sub (st' := ⟨[(4, .c (.bool false))], []⟩) (sub_gen [] rfl rfl ⟨zc rfl rfl, trivial⟩ trivial) ?_
    refine SOps.nil ?_
    refine SCode.ret ?_
    obtain rfl := Option.some.inj h
    exact ⟨⟨[(4, .c (.bool false))], []⟩, _, sub_gen [] rfl rfl ⟨zc rfl rfl, trivial⟩ trivial, resA1 (v := .c (.bool false)) rfl rfl, rfl⟩
  refine SCode.cond_f rfl g14 ?_
  refine SCode.skip ?_
  refine SCode.seq ?_
  refine SCode.region (show SOps _ _ _ [0] _ _ from ?_)
  refine SOps.q rfl (.plain rfl) rfl (q_assign rfl rfl) ?_
  refine SOps.sub (st' := ⟨[(1, .c (.int .u8 a1_clear)), (2, .c (.ptr 0 0)), (5, .c (.vec l_8.length 11 (gL cSProfile dSProfile l_8))), (11, .c (.ptr 1 0)), (14, .c (.int .i64 c_12.1)), (15, .c (.int .i64 0))], [.box [.vec a0_x.L.length 11 (gL cSProfile dSProfile a0_x.L), .int .i64 a0_x.Conn, .str a0_x.Txn, .int .i64 a0_x.Start, .int .i64 a0_x.T, .int .i64 a0_x.Length], .box [.int .i64 a0_x.T, .int .i64 (IntKind.wrap .i64 (a0_x.T + a0_x.Length))]]⟩) (sub_gen [0, 1] rfl rfl ⟨zc rfl rfl, zc rfl rfl, zc rfl rfl, zc rfl rfl, zc rfl rfl, zc rfl rfl, trivial⟩ ⟨⟨_, rfl, ⟨ii rfl rfl, ii rfl rfl, ii rfl rfl, ii rfl rfl, ii rfl rfl, ii rfl rfl, trivial⟩⟩, ⟨_, rfl, ⟨ii rfl rfl, ii rfl rfl, trivial⟩⟩, trivial⟩) ?_
  refine SOps.nil ?_
  refine SCode.join (σ := Int) (S := fun s => ⟨[(1, .c (.int .u8 a1_clear)), (2, .c (.ptr 0 0)), (5, .c (.vec l_8.length 11 (gL cSProfile dSProfile l_8))), (11, .c (.ptr 1 0)), (14, .c (.int .i64 c_12.1)), (15, .c (.int .i64 s))], [.box [.vec a0_x.L.length 11 (gL cSProfile dSProfile a0_x.L), .int .i64 a0_x.Conn, .str a0_x.Txn, .int .i64 a0_x.Start, .int .i64 a0_x.T, .int .i64 a0_x.Length], .box [.int .i64 a0_x.T, .int .i64 (IntKind.wrap .i64 (a0_x.T + a0_x.Length))]]⟩) (g := fun s => chargenettop_ProfilesCompose_p53 F a0_x a1_clear l_8 c_12 s = some r) ?_ ?_
  rotate_left
  · refine SCode.seq ?_
    refine SCode.region (show SOps _ _ _ [0, 1, 2] _ _ from ?_)
    refine SOps.q rfl (.plain rfl) rfl (q_field_ptr rfl rfl fd26_0) ?_
    refine SOps.q rfl (.plain rfl) rfl (q_load_ptr rfl rfl rfl rfl ty3) ?_
    refine SOps.q rfl (.plain rfl) rfl (q_assign rfl rfl) ?_
    refine SOps.sub (st' := ⟨[(1, .c (.int .u8 a1_clear)), (2, .c (.ptr 0 0)), (5, .c (.vec l_8.length 11 (gL cSProfile dSProfile l_8))), (11, .c (.ptr 1 0)), (14, .c (.int .i64 c_12.1)), (15, .c (.int .i64 0)), (16, .c (.int .i64 a0_x.T))], [.box [.vec a0_x.L.length 11 (gL cSProfile dSProfile a0_x.L), .int .i64 a0_x.Conn, .str a0_x.Txn, .int .i64 a0_x.Start, .int .i64 a0_x.T, .int .i64 a0_x.Length], .box [.int .i64 a0_x.T, .int .i64 (IntKind.wrap .i64 (a0_x.T + a0_x.Length))]]⟩) (sub_gen [0, 1] rfl rfl ⟨zc rfl rfl, zc rfl rfl, zc rfl rfl, zc rfl rfl, zc rfl rfl, zc rfl rfl, zc rfl rfl, trivial⟩ ⟨⟨_, rfl, ⟨ii rfl rfl, ii rfl rfl, ii rfl rfl, ii rfl rfl, ii rfl rfl, ii rfl rfl, trivial⟩⟩, ⟨_, rfl, ⟨ii rfl rfl, ii rfl rfl, trivial⟩⟩, trivial⟩) ?_
    refine SOps.nil ?_
    refine SCode.block ?_
    refine SCode.sub (st' := ⟨[(1, .c (.int .u8 a1_clear)), (2, .c (.ptr 0 0)), (5, .c (.vec l_8.length 11 (gL cSProfile dSProfile l_8))), (11, .c (.ptr 1 0)), (14, .c (.int .i64 c_12.1)), (15, .c (.int .i64 0)), (16, .c (.int .i64 a0_x.T))], [.box [.vec a0_x.L.length 11 (gL cSProfile dSProfile a0_x.L), .int .i64 a0_x.Conn, .str a0_x.Txn, .int .i64 a0_x.Start, .int .i64 a0_x.T, .int .i64 a0_x.Length], .box [.int .i64 a0_x.T, .int .i64 (IntKind.wrap .i64 (a0_x.T + a0_x.Length))]]⟩) (sub_gen [0, 1] rfl rfl ⟨zc rfl rfl, zc rfl rfl, zc rfl rfl, zc rfl rfl, zc rfl rfl, zc rfl rfl, zc rfl rfl, trivial⟩ ⟨⟨_, rfl, ⟨ii rfl rfl, ii rfl rfl, ii rfl rfl, ii rfl rfl, ii rfl rfl, ii rfl rfl, trivial⟩⟩, ⟨_, rfl, ⟨ii rfl rfl, ii rfl rfl, trivial⟩⟩, trivial⟩) ?_
    refine (SCode.loop (σ := Nat × (Int × Int)) (S := fun s => ⟨[(1, .c (.int .u8 a1_clear)), (2, .c (.ptr 0 0)), (5, .c (.vec l_8.length 11 (gL cSProfile dSProfile l_8))), (11, .c (.ptr 1 0)), (14, .c (.int .i64 c_12.1)), (15, .c (.int .i64 s.2.1)), (16, .c (.int .i64 s.2.2))], [.box [.vec a0_x.L.length 11 (gL cSProfile dSProfile a0_x.L), .int .i64 a0_x.Conn, .str a0_x.Txn, .int .i64 a0_x.Start, .int .i64 a0_x.T, .int .i64 a0_x.Length], .box [.int .i64 a0_x.T, .int .i64 (IntKind.wrap .i64 (a0_x.T + a0_x.Length))]]⟩) (g := fun s => chargenettop_ProfilesCompose_l62 F a0_x a1_clear l_8 c_12 s.1 s.2.1 s.2.2 = some r) (μ := fun s => s.1) (F, (0, a0_x.T)) h ?_)
    rintro ⟨n_62, ⟨sum_57, t_58⟩⟩ h
    replace h : chargenettop_ProfilesCompose_l62 F a0_x a1_clear l_8 c_12 n_62 sum_57 t_58 = some r := h
    show SCode _ _ _ ⟨[(1, .c (.int .u8 a1_clear)), (2, .c (.ptr 0 0)), (5, .c (.vec l_8.length 11 (gL cSProfile dSProfile l_8))), (11, .c (.ptr 1 0)), (14, .c (.int .i64 c_12.1)), (15, .c (.int .i64 sum_57)), (16, .c (.int .i64 t_58))], [.box [.vec a0_x.L.length 11 (gL cSProfile dSProfile a0_x.L), .int .i64 a0_x.Conn, .str a0_x.Txn, .int .i64 a0_x.Start, .int .i64 a0_x.T, .int .i64 a0_x.Length], .box [.int .i64 a0_x.T, .int .i64 (IntKind.wrap .i64 (a0_x.T + a0_x.Length))]]⟩ _
    cases n_62 with
    | zero => cases h
    | succ n_62 =>
      replace h : chargenettop_ProfilesCompose_b62 F a0_x a1_clear l_8 c_12 (fun sum_57 t_58 => chargenettop_ProfilesCompose_l62 F a0_x a1_clear l_8 c_12 n_62 sum_57 t_58) sum_57 t_58 = some r := h
      unfold chargenettop_ProfilesCompose_b62 at h
      refine SCode.seq ?_
      refine SCode.seq ?_
      refine SCode.region (show SOps _ _ _ [0, 1, 2, 3] _ _ from ?_)
      refine SOps.q rfl (.plain rfl) rfl (q_move rfl rfl) ?_
      refine SOps.q rfl (.plain rfl) rfl (q_field_ptr rfl rfl fd26_1) ?_
      refine SOps.q rfl (.plain rfl) rfl (q_load_ptr rfl rfl rfl rfl ty3) ?_
      refine SOps.q rfl (.plain rfl) rfl (q_lss rfl rfl rfl) ?_
      refine SOps.sub (st' := ⟨[(1, .c (.int .u8 a1_clear)), (2, .c (.ptr 0 0)), (5, .c (.vec l_8.length 11 (gL cSProfile dSProfile l_8))), (11, .c (.ptr 1 0)), (14, .c (.int .i64 c_12.1)), (15, .c (.int .i64 sum_57)), (16, .c (.int .i64 t_58)), (128, .c (.bool (decide (t_58 < IntKind.wrap .i64 (a0_x.T + a0_x.Length)))))], [.box [.vec a0_x.L.length 11 (gL cSProfile dSProfile a0_x.L), .int .i64 a0_x.Conn, .str a0_x.Txn, .int .i64 a0_x.Start, .int .i64 a0_x.T, .int .i64 a0_x.Length], .box [.int .i64 a0_x.T, .int .i64 (IntKind.wrap .i64 (a0_x.T + a0_x.Length))]]⟩) (sub_gen [0, 1] rfl rfl ⟨zc rfl rfl, zc rfl rfl, zc rfl rfl, zc rfl rfl, zc rfl rfl, zc rfl rfl, zc rfl rfl, zc rfl rfl, trivial⟩ ⟨⟨_, rfl, ⟨ii rfl rfl, ii rfl rfl, ii rfl rfl, ii rfl rfl, ii rfl rfl, ii rfl rfl, trivial⟩⟩, ⟨_, rfl, ⟨ii rfl rfl, ii rfl rfl, trivial⟩⟩, trivial⟩) ?_
      refine SOps.nil ?_
      rcases cond_out h with ⟨g63, h⟩ | ⟨g63, h⟩
      · refine SCode.cond_t rfl g63 ?_
        refine SCode.skip ?_
        refine SCode.seq ?_
        refine SCode.block ?_
        obtain ⟨c_64, g65, h⟩ := bind_out h
        try dsimp only at h
        refine SCode.region (show SOps _ _ _ [0, 1, 2, 3, 4, 5, 6, 7, 8, 9, 10, 11] _ _ from ?_)
        refine SOps.q rfl (.plain rfl) rfl (q_move rfl rfl) ?_
        refine SOps.q rfl (.plain rfl) rfl (q_move rfl rfl) ?_
        refine SOps.q rfl (.plain rfl) rfl (q_field_ptr rfl rfl fd24_1) ?_
        refine SOps.q rfl (.plain rfl) rfl (q_load_ptr rfl rfl rfl rfl ty3) ?_
        refine SOps.q rfl (.plain rfl) rfl (q_field_ptr rfl rfl fd24_2) ?_
        refine SOps.q rfl (.plain rfl) rfl (q_load_ptr rfl rfl rfl rfl ty9) ?_
        refine SOps.q rfl (.plain rfl) rfl (q_field_ptr rfl rfl fd24_3) ?_
        refine SOps.q rfl (.plain rfl) rfl (q_load_ptr rfl rfl rfl rfl ty3) ?_
        refine SOps.q rfl (.plain rfl) rfl (q_move rfl rfl) ?_
        refine SOps.q rfl (.plain rfl) rfl (q_call (compose_At_ok F l_8 a0_x.Conn a0_x.Txn a0_x.Start t_58 c_64 g65) [] rfl fn8 ⟨⟨_, rfl, .inl ⟨rfl, rfl⟩⟩, ⟨_, rfl, .inl ⟨rfl, rfl⟩⟩, ⟨_, rfl, .inl ⟨rfl, rfl⟩⟩, ⟨_, rfl, .inl ⟨rfl, rfl⟩⟩, ⟨_, rfl, .inl ⟨rfl, rfl⟩⟩, trivial⟩ (.inl rfl)) ?_
        refine SOps.q rfl (.plain rfl) rfl (q_add rfl rfl rfl) ?_
        refine SOps.q rfl (.plain rfl) rfl (q_assign rfl rfl) ?_
        refine SOps.sub (st' := ⟨[(1, .c (.int .u8 a1_clear)), (2, .c (.ptr 0 0)), (5, .c (.vec l_8.length 11 (gL cSProfile dSProfile l_8))), (11, .c (.ptr 1 0)), (14, .c (.int .i64 c_12.1)), (15, .c (.int .i64 (IntKind.wrap .i64 (sum_57 + c_64)))), (16, .c (.int .i64 t_58))], [.box [.vec a0_x.L.length 11 (gL cSProfile dSProfile a0_x.L), .int .i64 a0_x.Conn, .str a0_x.Txn, .int .i64 a0_x.Start, .int .i64 a0_x.T, .int .i64 a0_x.Length], .box [.int .i64 a0_x.T, .int .i64 (IntKind.wrap .i64 (a0_x.T + a0_x.Length))]]⟩) (sub_gen [0, 1] rfl rfl ⟨zc rfl rfl, zc rfl rfl, zc rfl rfl, zc rfl rfl, zc rfl rfl, zc rfl rfl, zc rfl rfl, trivial⟩ ⟨⟨_, rfl, ⟨ii rfl rfl, ii rfl rfl, ii rfl rfl, ii rfl rfl, ii rfl rfl, ii rfl rfl, trivial⟩⟩, ⟨_, rfl, ⟨ii rfl rfl, ii rfl rfl, trivial⟩⟩, trivial⟩) ?_
        refine SOps.nil ?_
        refine SCode.region (show SOps _ _ _ [0, 1, 2] _ _ from ?_)
        refine SOps.q rfl (.plain rfl) rfl (q_move rfl rfl) ?_
        refine SOps.q rfl (.plain rfl) rfl (q_add rfl rfl rfl) ?_
        refine SOps.q rfl (.plain rfl) rfl (q_assign rfl rfl) ?_
        refine SOps.sub (st' := ⟨[(1, .c (.int .u8 a1_clear)), (2, .c (.ptr 0 0)), (5, .c (.vec l_8.length 11 (gL cSProfile dSProfile l_8))), (11, .c (.ptr 1 0)), (14, .c (.int .i64 c_12.1)), (15, .c (.int .i64 (IntKind.wrap .i64 (sum_57 + c_64)))), (16, .c (.int .i64 (IntKind.wrap .i64 (t_58 + 1))))], [.box [.vec a0_x.L.length 11 (gL cSProfile dSProfile a0_x.L), .int .i64 a0_x.Conn, .str a0_x.Txn, .int .i64 a0_x.Start, .int .i64 a0_x.T, .int .i64 a0_x.Length], .box [.int .i64 a0_x.T, .int .i64 (IntKind.wrap .i64 (a0_x.T + a0_x.Length))]]⟩) (sub_gen [0, 1] rfl rfl ⟨zc rfl rfl, zc rfl rfl, zc rfl rfl, zc rfl rfl, zc rfl rfl, zc rfl rfl, zc rfl rfl, trivial⟩ ⟨⟨_, rfl, ⟨ii rfl rfl, ii rfl rfl, ii rfl rfl, ii rfl rfl, ii rfl rfl, ii rfl rfl, trivial⟩⟩, ⟨_, rfl, ⟨ii rfl rfl, ii rfl rfl, trivial⟩⟩, trivial⟩) ?_
        refine SOps.nil ?_
        exact ⟨(n_62, (IntKind.wrap .i64 (sum_57 + c_64), IntKind.wrap .i64 (t_58 + 1))), h, Nat.lt_succ_self n_62, sub_gen [0, 1] rfl rfl ⟨zc rfl rfl, zc rfl rfl, zc rfl rfl, zc rfl rfl, zc rfl rfl, zc rfl rfl, zc rfl rfl, trivial⟩ ⟨⟨_, rfl, ⟨ii rfl rfl, ii rfl rfl, ii rfl rfl, ii rfl rfl, ii rfl rfl, ii rfl rfl, trivial⟩⟩, ⟨_, rfl, ⟨ii rfl rfl, ii rfl rfl, trivial⟩⟩, trivial⟩⟩
      refine SCode.cond_f rfl g63 ?_
      refine SCode.exit ?_
      exact ⟨sum_57, h, sub_gen [0, 1] rfl rfl ⟨zc rfl rfl, zc rfl rfl, zc rfl rfl, zc rfl rfl, zc rfl rfl, zc rfl rfl, trivial⟩ ⟨⟨_, rfl, ⟨ii rfl rfl, ii rfl rfl, ii rfl rfl, ii rfl rfl, ii rfl rfl, ii rfl rfl, trivial⟩⟩, ⟨_, rfl, ⟨ii rfl rfl, ii rfl rfl, trivial⟩⟩, trivial⟩⟩
  rintro sum_15 h
  show SCode _ _ _ ⟨[(1, .c (.int .u8 a1_clear)), (2, .c (.ptr 0 0)), (5, .c (.vec l_8.length 11 (gL cSProfile dSProfile l_8))), (11, .c (.ptr 1 0)), (14, .c (.int .i64 c_12.1)), (15, .c (.int .i64 sum_15))], [.box [.vec a0_x.L.length 11 (gL cSProfile dSProfile a0_x.L), .int .i64 a0_x.Conn, .str a0_x.Txn, .int .i64 a0_x.Start, .int .i64 a0_x.T, .int .i64 a0_x.Length], .box [.int .i64 a0_x.T, .int .i64 (IntKind.wrap .i64 (a0_x.T + a0_x.Length))]]⟩ _
  replace h : chargenettop_ProfilesCompose_p53 F a0_x a1_clear l_8 c_12 sum_15 = some r := h
  unfold chargenettop_ProfilesCompose_p53 at h
  refine SCode.seq ?_
  refine SCode.seq ?_
  rcases cond_out h with ⟨g16, h⟩ | ⟨g16, h⟩
  · refine SCode.region (show SOps _ _ _ [0, 1, 2, 3, 4, 5, 6, 7] _ _ from ?_)
    refine SOps.q rfl (.plain rfl) rfl (q_move rfl rfl) ?_
    refine SOps.q rfl (.plain rfl) rfl (q_move rfl rfl) ?_
    refine SOps.q rfl (.plain rfl) rfl (q_neq rfl rfl rfl) ?_
    refine SOps.q rfl (.plain rfl) rfl (q_move rfl rfl) ?_
    refine SOps.skip rfl 3 145 false rfl rfl (.inl (gT g16)) rfl ?_
    refine SOps.skip rfl 3 145 false rfl rfl (.inl (gT g16)) rfl ?_
    refine SOps.skip rfl 3 145 false rfl rfl (.inl (gT g16)) rfl ?_
    refine SOps.q rfl (.plain rfl) rfl (q_pick_t rfl rfl g16 rfl) ?_
    refine SOps.sub (st' := ⟨[(1, .c (.int .u8 a1_clear)), (2, .c (.ptr 0 0)), (5, .c (.vec l_8.length 11 (gL cSProfile dSProfile l_8))), (11, .c (.ptr 1 0)), (14, .c (.int .i64 c_12.1)), (15, .c (.int .i64 sum_15)), (149, .c (.bool true))], [.box [.vec a0_x.L.length 11 (gL cSProfile dSProfile a0_x.L), .int .i64 a0_x.Conn, .str a0_x.Txn, .int .i64 a0_x.Start, .int .i64 a0_x.T, .int .i64 a0_x.Length], .box [.int .i64 a0_x.T, .int .i64 (IntKind.wrap .i64 (a0_x.T + a0_x.Length))]]⟩) (sub_gen [0, 1] rfl rfl ⟨zc rfl rfl, zc rfl rfl, zc rfl rfl, zc rfl rfl, zc rfl rfl, zc rfl rfl, zc rfl rfl, trivial⟩ ⟨⟨_, rfl, ⟨ii rfl rfl, ii rfl rfl, ii rfl rfl, ii rfl rfl, ii rfl rfl, ii rfl rfl, trivial⟩⟩, ⟨_, rfl, ⟨ii rfl rfl, ii rfl rfl, trivial⟩⟩, trivial⟩) ?_
    refine SOps.nil ?_
    refine SCode.cond_t rfl rfl ?_
    refine SCode.seq ?_
    rcases cond_out h with ⟨g17, h⟩ | ⟨g17, h⟩
    · obtain ⟨c_18, g19, h⟩ := bind_out h
      try dsimp only at h
      refine SCode.region (show SOps _ _ _ [0, 1, 2, 3, 4, 5, 6, 7] _ _ from ?_)
      refine SOps.q rfl (.plain rfl) rfl (q_move rfl rfl) ?_
      refine SOps.q rfl (.plain rfl) rfl (q_move rfl rfl) ?_
      refine SOps.q rfl (.plain rfl) rfl (q_eql rfl rfl rfl) ?_
      refine SOps.q rfl (.plain rfl) rfl (q_move rfl rfl) ?_
      refine SOps.q rfl (.guard 3 153 true rfl rfl (gT g17)) rfl (q_call (compose_At_ok F (([] : List SProfile)) 1 ByteArray.empty 5 9 c_18 g19) [] rfl fn8 ⟨⟨_, rfl, .inr (.inr ⟨_, _, rfl, rfl⟩)⟩, ⟨_, rfl, .inl ⟨rfl, rfl⟩⟩, ⟨_, rfl, .inl ⟨rfl, rfl⟩⟩, ⟨_, rfl, .inl ⟨rfl, rfl⟩⟩, ⟨_, rfl, .inl ⟨rfl, rfl⟩⟩, trivial⟩ (.inl rfl)) ?_
      refine SOps.q rfl (.guard 3 153 true rfl rfl (gT g17)) rfl (q_eql rfl rfl rfl) ?_
      refine SOps.q rfl (.plain rfl) rfl (q_pick_t rfl rfl g17 rfl) ?_
      refine SOps.q rfl (.plain rfl) rfl (q_assign rfl rfl) ?_
      refine SOps.sub (st' := ⟨[(4, .c (.bool (decide (c_18 = 1073741824))))], []⟩) (sub_gen [] rfl rfl ⟨zc rfl rfl, trivial⟩ trivial) ?_
      refine SOps.nil ?_
      refine SCode.ret ?_
      obtain rfl := Option.some.inj h
      exact ⟨⟨[(4, .c (.bool (decide (c_18 = 1073741824))))], []⟩, _, sub_gen [] rfl rfl ⟨zc rfl rfl, trivial⟩ trivial, resA1 (v := .c (.bool (decide (c_18 = 1073741824)))) rfl rfl, rfl⟩
    refine SCode.region (show SOps _ _ _ [0, 1, 2, 3, 4, 5, 6, 7] _ _ from ?_)
    refine SOps.q rfl (.plain rfl) rfl (q_move rfl rfl) ?_
    refine SOps.q rfl (.plain rfl) rfl (q_move rfl rfl) ?_
    refine SOps.q rfl (.plain rfl) rfl (q_eql rfl rfl rfl) ?_
    refine SOps.q rfl (.plain rfl) rfl (q_move rfl rfl) ?_
    refine SOps.skip rfl 3 153 true rfl rfl (.inl (gF g17)) rfl ?_
    refine SOps.skip rfl 3 153 true rfl rfl (.inl (gF g17)) rfl ?_
    refine SOps.q rfl (.plain rfl) rfl (q_pick_f rfl rfl g17 rfl) ?_
    refine SOps.q rfl (.plain rfl) rfl (q_assign rfl rfl) ?_
    refine SOps.sub (st' := ⟨[(4, .c (.bool false))], []⟩) (sub_gen [] rfl rfl ⟨zc rfl rfl, trivial⟩ trivial) ?_
    refine SOps.nil ?_
    refine SCode.ret ?_
    obtain rfl := Option.some.inj h
    exact ⟨⟨[(4, .c (.bool false))], []⟩, _, sub_gen [] rfl rfl ⟨zc rfl rfl, trivial⟩ trivial, resA1 (v := .c (.bool false)) rfl rfl, rfl⟩
  refine SCode.region (show SOps _ _ _ [0, 1, 2, 3, 4, 5, 6, 7] _ _ from ?_)
  refine SOps.q rfl (.plain rfl) rfl (q_move rfl rfl) ?_
  refine SOps.q rfl (.plain rfl) rfl (q_move rfl rfl) ?_
  refine SOps.q rfl (.plain rfl) rfl (q_neq rfl rfl rfl) ?_
  refine SOps.q rfl (.plain rfl) rfl (q_move rfl rfl) ?_
  refine SOps.q rfl (.guard 3 145 false rfl rfl (gF g16)) rfl (q_move rfl rfl) ?_
  refine SOps.q rfl (.guard 3 145 false rfl rfl (gF g16)) rfl (q_len_vec rfl rfl sl22) ?_
  refine SOps.q rfl (.guard 3 145 false rfl rfl (gF g16)) rfl (q_eql rfl rfl rfl) ?_
  refine SOps.q rfl (.plain rfl) rfl (q_pick_f rfl rfl g16 rfl) ?_
  refine SOps.sub (st' := ⟨[(1, .c (.int .u8 a1_clear)), (2, .c (.ptr 0 0)), (5, .c (.vec l_8.length 11 (gL cSProfile dSProfile l_8))), (11, .c (.ptr 1 0)), (14, .c (.int .i64 c_12.1)), (15, .c (.int .i64 sum_15)), (149, .c (.bool (decide (((l_8).length : Int) = 0))))], [.box [.vec a0_x.L.length 11 (gL cSProfile dSProfile a0_x.L), .int .i64 a0_x.Conn, .str a0_x.Txn, .int .i64 a0_x.Start, .int .i64 a0_x.T, .int .i64 a0_x.Length], .box [.int .i64 a0_x.T, .int .i64 (IntKind.wrap .i64 (a0_x.T + a0_x.Length))]]⟩) (sub_gen [0, 1] rfl rfl ⟨zc rfl rfl, zc rfl rfl, zc rfl rfl, zc rfl rfl, zc rfl rfl, zc rfl rfl, zc rfl rfl, trivial⟩ ⟨⟨_, rfl, ⟨ii rfl rfl, ii rfl rfl, ii rfl rfl, ii rfl rfl, ii rfl rfl, ii rfl rfl, trivial⟩⟩, ⟨_, rfl, ⟨ii rfl rfl, ii rfl rfl, trivial⟩⟩, trivial⟩) ?_
  refine SOps.nil ?_
  rcases cond_out h with ⟨g20, h⟩ | ⟨g20, h⟩
  · refine SCode.cond_t rfl g20 ?_
    refine SCode.seq ?_
    rcases cond_out h with ⟨g21, h⟩ | ⟨g21, h⟩
    · obtain ⟨c_22, g23, h⟩ := bind_out h
      try dsimp only at h
      refine SCode.region (show SOps _ _ _ [0, 1, 2, 3, 4, 5, 6, 7] _ _ from ?_)
      refine SOps.q rfl (.plain rfl) rfl (q_move rfl rfl) ?_
      refine SOps.q rfl (.plain rfl) rfl (q_move rfl rfl) ?_
      refine SOps.q rfl (.plain rfl) rfl (q_eql rfl rfl rfl) ?_
      refine SOps.q rfl (.plain rfl) rfl (q_move rfl rfl) ?_
      refine SOps.q rfl (.guard 3 153 true rfl rfl (gT g21)) rfl (q_call (compose_At_ok F (([] : List SProfile)) 1 ByteArray.empty 5 9 c_22 g23) [] rfl fn8 ⟨⟨_, rfl, .inr (.inr ⟨_, _, rfl, rfl⟩)⟩, ⟨_, rfl, .inl ⟨rfl, rfl⟩⟩, ⟨_, rfl, .inl ⟨rfl, rfl⟩⟩, ⟨_, rfl, .inl ⟨rfl, rfl⟩⟩, ⟨_, rfl, .inl ⟨rfl, rfl⟩⟩, trivial⟩ (.inl rfl)) ?_
      refine SOps.q rfl (.guard 3 153 true rfl rfl (gT g21)) rfl (q_eql rfl rfl rfl) ?_
      refine SOps.q rfl (.plain rfl) rfl (q_pick_t rfl rfl g21 rfl) ?_
      refine SOps.q rfl (.plain rfl) rfl (q_assign rfl rfl) ?_
      refine SOps.sub (st' := ⟨[(4, .c (.bool (decide (c_22 = 1073741824))))], []⟩) (sub_gen [] rfl rfl ⟨zc rfl rfl, trivial⟩ trivial) ?_
      refine SOps.nil ?_
      refine SCode.ret ?_
      obtain rfl := Option.some.inj h
      exact ⟨⟨[(4, .c (.bool (decide (c_22 = 1073741824))))], []⟩, _, sub_gen [] rfl rfl ⟨zc rfl rfl, trivial⟩ trivial, resA1 (v := .c (.bool (decide (c_22 = 1073741824)))) rfl rfl, rfl⟩
    refine SCode.region (show SOps _ _ _ [0, 1, 2, 3, 4, 5, 6, 7] _ _ from ?_)
    refine SOps.q rfl (.plain rfl) rfl (q_move rfl rfl) ?_
    refine SOps.q rfl (.plain rfl) rfl (q_move rfl rfl) ?_
    refine SOps.q rfl (.plain rfl) rfl (q_eql rfl rfl rfl) ?_
    refine SOps.q rfl (.plain rfl) rfl (q_move rfl rfl) ?_
    refine SOps.skip rfl 3 153 true rfl rfl (.inl (gF g21)) rfl ?_
    refine SOps.skip rfl 3 153 true rfl rfl (.inl (gF g21)) rfl ?_
    refine SOps.q rfl (.plain rfl) rfl (q_pick_f rfl rfl g21 rfl) ?_
    refine SOps.q rfl (.plain rfl) rfl (q_assign rfl rfl) ?_
    refine SOps.sub (st' := ⟨[(4, .c (.bool false))], []⟩) (sub_gen [] rfl rfl ⟨zc rfl rfl, trivial⟩ trivial) ?_
    refine SOps.nil ?_
    refine SCode.ret ?_
    obtain rfl := Option.some.inj h
    exact ⟨⟨[(4, .c (.bool false))], []⟩, _, sub_gen [] rfl rfl ⟨zc rfl rfl, trivial⟩ trivial, resA1 (v := .c (.bool false)) rfl rfl, rfl⟩
  refine SCode.cond_f rfl g20 ?_
  refine SCode.skip ?_
  refine SCode.seq ?_
  obtain ⟨g24, h⟩ := guard_out h
  obtain ⟨g25, h⟩ := guard_out h
  refine SCode.region (show SOps _ _ _ [0, 1, 2, 3, 4, 5, 6, 7, 8, 9] _ _ from ?_)
  refine SOps.q rfl (.plain rfl) rfl (q_move rfl rfl) ?_
  refine SOps.q rfl (.plain rfl) rfl (q_move rfl rfl) ?_
  refine SOps.q rfl (.plain rfl) rfl (q_convert rfl rfl un5 un3) ?_
  refine SOps.q rfl (.plain rfl) rfl (q_move rfl rfl) ?_
  refine SOps.q rfl (.plain rfl) rfl (q_len_vec rfl rfl sl22) ?_
  refine SOps.q rfl (.plain rfl) rfl (q_rem rfl rfl rfl g24) ?_
  refine SOps.q rfl (.plain rfl) rfl (q_index_vec rfl rfl rfl sl22 rfl g25.1 g25.2) ?_
  refine SOps.q rfl (.plain rfl) rfl (q_field_eptr rfl rfl fd29_0 rfl) ?_
  refine SOps.q rfl (.plain rfl) rfl (q_load_eptr rfl rfl ty3) ?_
  refine SOps.q rfl (.plain rfl) rfl (q_assign rfl rfl) ?_
  refine SOps.sub (st' := ⟨[(2, .c (.ptr 0 0)), (5, .c (.vec l_8.length 11 (gL cSProfile dSProfile l_8))), (11, .c (.ptr 1 0)), (17, .c (.int .i64 ((l_8.getD (Int.tmod (IntKind.wrap .i64 a1_clear) (((l_8).length : Int))).toNat dSProfile).ID)))], [.box [.vec a0_x.L.length 11 (gL cSProfile dSProfile a0_x.L), .int .i64 a0_x.Conn, .str a0_x.Txn, .int .i64 a0_x.Start, .int .i64 a0_x.T, .int .i64 a0_x.Length], .box [.int .i64 a0_x.T, .int .i64 (IntKind.wrap .i64 (a0_x.T + a0_x.Length))]]⟩) (sub_gen [0, 1] rfl rfl ⟨zc rfl rfl, zc rfl rfl, zc rfl rfl, zc rfl rfl, trivial⟩ ⟨⟨_, rfl, ⟨ii rfl rfl, ii rfl rfl, ii rfl rfl, ii rfl rfl, ii rfl rfl, ii rfl rfl, trivial⟩⟩, ⟨_, rfl, ⟨ii rfl rfl, ii rfl rfl, trivial⟩⟩, trivial⟩) ?_
  refine SOps.nil ?_
  refine SCode.seq ?_
  obtain ⟨c_26, g27, h⟩ := bind_out h
  try dsimp only at h
  refine SCode.region (show SOps _ _ _ [0, 1, 2, 3, 4, 5, 6, 7] _ _ from ?_)
  refine SOps.q rfl (.plain rfl) rfl (q_move rfl rfl) ?_
  refine SOps.q rfl (.plain rfl) rfl (q_move rfl rfl) ?_
  refine SOps.q rfl (.plain rfl) rfl (q_call (profile_Clear_ok F l_8 ((l_8.getD (Int.tmod (IntKind.wrap .i64 a1_clear) (((l_8).length : Int))).toNat dSProfile).ID) c_26 g27) [] rfl fn9 ⟨⟨_, rfl, .inl ⟨rfl, rfl⟩⟩, ⟨_, rfl, .inl ⟨rfl, rfl⟩⟩, trivial⟩ (.inl rfl)) ?_
  refine SOps.q rfl (.plain rfl) rfl (q_move rfl rfl) ?_
  refine SOps.q rfl (.plain rfl) rfl (q_extract rfl rfl rfl) ?_
  refine SOps.q rfl (.plain rfl) rfl (q_extract rfl rfl rfl) ?_
  refine SOps.q rfl (.plain rfl) rfl (q_assign rfl rfl) ?_
  refine SOps.q rfl (.plain rfl) rfl (q_assign rfl rfl) ?_
  refine SOps.sub (st' := ⟨[(2, .c (.ptr 0 0)), (5, .c (.vec l_8.length 11 (gL cSProfile dSProfile l_8))), (11, .c (.ptr 1 0)), (13, .c (.int .i64 c_26.2)), (17, .c (.int .i64 ((l_8.getD (Int.tmod (IntKind.wrap .i64 a1_clear) (((l_8).length : Int))).toNat dSProfile).ID))), (18, .c (.vec c_26.1.length 11 (gL cSProfile dSProfile c_26.1)))], [.box [.vec a0_x.L.length 11 (gL cSProfile dSProfile a0_x.L), .int .i64 a0_x.Conn, .str a0_x.Txn, .int .i64 a0_x.Start, .int .i64 a0_x.T, .int .i64 a0_x.Length], .box [.int .i64 a0_x.T, .int .i64 (IntKind.wrap .i64 (a0_x.T + a0_x.Length))]]⟩) (sub_gen [0, 1] rfl rfl ⟨zc rfl rfl, zc rfl rfl, zc rfl rfl, zc rfl rfl, zc rfl rfl, zc rfl rfl, trivial⟩ ⟨⟨_, rfl, ⟨ii rfl rfl, ii rfl rfl, ii rfl rfl, ii rfl rfl, ii rfl rfl, ii rfl rfl, trivial⟩⟩, ⟨_, rfl, ⟨ii rfl rfl, ii rfl rfl, trivial⟩⟩, trivial⟩) ?_
  refine SOps.nil ?_
  refine SCode.seq ?_
  refine SCode.seq ?_
  rcases cond_out h with ⟨g28, h⟩ | ⟨g28, h⟩
  · refine SCode.region (show SOps _ _ _ [0, 1, 2, 3, 4, 5, 6, 7, 8, 9] _ _ from ?_)
    refine SOps.q rfl (.plain rfl) rfl (q_move rfl rfl) ?_
    refine SOps.q rfl (.plain rfl) rfl (q_neq rfl rfl rfl) ?_
    refine SOps.q rfl (.plain rfl) rfl (q_move rfl rfl) ?_
    refine SOps.skip rfl 2 174 false rfl rfl (.inl (gT g28)) rfl ?_
    refine SOps.skip rfl 2 174 false rfl rfl (.inl (gT g28)) rfl ?_
    refine SOps.skip rfl 2 174 false rfl rfl (.inl (gT g28)) rfl ?_
    refine SOps.skip rfl 2 174 false rfl rfl (.inl (gT g28)) rfl ?_
    refine SOps.skip rfl 2 174 false rfl rfl (.inl (gT g28)) rfl ?_
    refine SOps.skip rfl 2 174 false rfl rfl (.inl (gT g28)) rfl ?_
    refine SOps.q rfl (.plain rfl) rfl (q_pick_t rfl rfl g28 rfl) ?_
    refine SOps.sub (st' := ⟨[(2, .c (.ptr 0 0)), (11, .c (.ptr 1 0)), (17, .c (.int .i64 ((l_8.getD (Int.tmod (IntKind.wrap .i64 a1_clear) (((l_8).length : Int))).toNat dSProfile).ID))), (18, .c (.vec c_26.1.length 11 (gL cSProfile dSProfile c_26.1))), (181, .c (.bool true))], [.box [.vec a0_x.L.length 11 (gL cSProfile dSProfile a0_x.L), .int .i64 a0_x.Conn, .str a0_x.Txn, .int .i64 a0_x.Start, .int .i64 a0_x.T, .int .i64 a0_x.Length], .box [.int .i64 a0_x.T, .int .i64 (IntKind.wrap .i64 (a0_x.T + a0_x.Length))]]⟩) (sub_gen [0, 1] rfl rfl ⟨zc rfl rfl, zc rfl rfl, zc rfl rfl, zc rfl rfl, zc rfl rfl, trivial⟩ ⟨⟨_, rfl, ⟨ii rfl rfl, ii rfl rfl, ii rfl rfl, ii rfl rfl, ii rfl rfl, ii rfl rfl, trivial⟩⟩, ⟨_, rfl, ⟨ii rfl rfl, ii rfl rfl, trivial⟩⟩, trivial⟩) ?_
    refine SOps.nil ?_
    refine SCode.cond_t rfl rfl ?_
    refine SCode.seq ?_
    refine SCode.region (show SOps _ _ _ [0] _ _ from ?_)
    refine SOps.q rfl (.plain rfl) rfl (q_assign rfl rfl) ?_
    refine SOps.sub (st' := ⟨[(4, .c (.bool false))], []⟩) (sub_gen [] rfl rfl ⟨zc rfl rfl, trivial⟩ trivial) ?_
    refine SOps.nil ?_
    refine SCode.ret ?_
    obtain rfl := Option.some.inj h
    exact ⟨⟨[(4, .c (.bool false))], []⟩, _, sub_gen [] rfl rfl ⟨zc rfl rfl, trivial⟩ trivial, resA1 (v := .c (.bool false)) rfl rfl, rfl⟩
  refine SCode.region (show SOps _ _ _ [0, 1, 2, 3, 4, 5, 6, 7, 8, 9] _ _ from ?_)
  refine SOps.q rfl (.plain rfl) rfl (q_move rfl rfl) ?_
  refine SOps.q rfl (.plain rfl) rfl (q_neq rfl rfl rfl) ?_
  refine SOps.q rfl (.plain rfl) rfl (q_move rfl rfl) ?_
  refine SOps.q rfl (.guard 2 174 false rfl rfl (gF g28)) rfl (q_move rfl rfl) ?_
  refine SOps.q rfl (.guard 2 174 false rfl rfl (gF g28)) rfl (q_len_vec rfl rfl sl22) ?_
  refine SOps.q rfl (.guard 2 174 false rfl rfl (gF g28)) rfl (q_move rfl rfl) ?_
  refine SOps.q rfl (.guard 2 174 false rfl rfl (gF g28)) rfl (q_len_vec rfl rfl sl22) ?_
  refine SOps.q rfl (.guard 2 174 false rfl rfl (gF g28)) rfl (q_sub rfl rfl rfl) ?_
  refine SOps.q rfl (.guard 2 174 false rfl rfl (gF g28)) rfl (q_neq rfl rfl rfl) ?_
  refine SOps.q rfl (.plain rfl) rfl (q_pick_f rfl rfl g28 rfl) ?_
  refine SOps.sub (st' := ⟨[(2, .c (.ptr 0 0)), (11, .c (.ptr 1 0)), (17, .c (.int .i64 ((l_8.getD (Int.tmod (IntKind.wrap .i64 a1_clear) (((l_8).length : Int))).toNat dSProfile).ID))), (18, .c (.vec c_26.1.length 11 (gL cSProfile dSProfile c_26.1))), (181, .c (.bool ((!decide (((c_26.1).length : Int) = IntKind.wrap .i64 (((l_8).length : Int) - 1))))))], [.box [.vec a0_x.L.length 11 (gL cSProfile dSProfile a0_x.L), .int .i64 a0_x.Conn, .str a0_x.Txn, .int .i64 a0_x.Start, .int .i64 a0_x.T, .int .i64 a0_x.Length], .box [.int .i64 a0_x.T, .int .i64 (IntKind.wrap .i64 (a0_x.T + a0_x.Length))]]⟩) (sub_gen [0, 1] rfl rfl ⟨zc rfl rfl, zc rfl rfl, zc rfl rfl, zc rfl rfl, zc rfl rfl, trivial⟩ ⟨⟨_, rfl, ⟨ii rfl rfl, ii rfl rfl, ii rfl rfl, ii rfl rfl, ii rfl rfl, ii rfl rfl, trivial⟩⟩, ⟨_, rfl, ⟨ii rfl rfl, ii rfl rfl, trivial⟩⟩, trivial⟩) ?_
  refine SOps.nil ?_
  rcases cond_out h with ⟨g29, h⟩ | ⟨g29, h⟩
  · refine SCode.cond_t rfl g29 ?_
    refine SCode.seq ?_
    refine SCode.region (show SOps _ _ _ [0] _ _ from ?_)
    refine SOps.q rfl (.plain rfl) rfl (q_assign rfl rfl) ?_
    refine SOps.sub (st' := ⟨[(4, .c (.bool false))], []⟩) (sub_gen [] rfl rfl ⟨zc rfl rfl, trivial⟩ trivial) ?_
    refine SOps.nil ?_
    refine SCode.ret ?_
    obtain rfl := Option.some.inj h
    exact ⟨⟨[(4, .c (.bool false))], []⟩, _, sub_gen [] rfl rfl ⟨zc rfl rfl, trivial⟩ trivial, resA1 (v := .c (.bool false)) rfl rfl, rfl⟩
  refine SCode.cond_f rfl g29 ?_
  refine SCode.skip ?_
  refine SCode.join (σ := Unit) (S := fun s => ⟨[], []⟩) (g := fun s => chargenettop_ProfilesCompose_p32 F = some r) ?_ ?_
  rotate_left
  · refine SCode.seq ?_
    refine SCode.region (show SOps _ _ _ [0, 1, 2] _ _ from ?_)
    refine SOps.q rfl (.plain rfl) rfl (q_field_ptr rfl rfl fd26_0) ?_
    refine SOps.q rfl (.plain rfl) rfl (q_load_ptr rfl rfl rfl rfl ty3) ?_
    refine SOps.q rfl (.plain rfl) rfl (q_assign rfl rfl) ?_
    refine SOps.sub (st' := ⟨[(2, .c (.ptr 0 0)), (11, .c (.ptr 1 0)), (17, .c (.int .i64 ((l_8.getD (Int.tmod (IntKind.wrap .i64 a1_clear) (((l_8).length : Int))).toNat dSProfile).ID))), (18, .c (.vec c_26.1.length 11 (gL cSProfile dSProfile c_26.1))), (19, .c (.int .i64 a0_x.T))], [.box [.vec a0_x.L.length 11 (gL cSProfile dSProfile a0_x.L), .int .i64 a0_x.Conn, .str a0_x.Txn, .int .i64 a0_x.Start, .int .i64 a0_x.T, .int .i64 a0_x.Length], .box [.int .i64 a0_x.T, .int .i64 (IntKind.wrap .i64 (a0_x.T + a0_x.Length))]]⟩) (sub_gen [0, 1] rfl rfl ⟨zc rfl rfl, zc rfl rfl, zc rfl rfl, zc rfl rfl, zc rfl rfl, trivial⟩ ⟨⟨_, rfl, ⟨ii rfl rfl, ii rfl rfl, ii rfl rfl, ii rfl rfl, ii rfl rfl, ii rfl rfl, trivial⟩⟩, ⟨_, rfl, ⟨ii rfl rfl, ii rfl rfl, trivial⟩⟩, trivial⟩) ?_
    refine SOps.nil ?_
    refine SCode.block ?_
    refine SCode.sub (st' := ⟨[(2, .c (.ptr 0 0)), (11, .c (.ptr 1 0)), (17, .c (.int .i64 ((l_8.getD (Int.tmod (IntKind.wrap .i64 a1_clear) (((l_8).length : Int))).toNat dSProfile).ID))), (18, .c (.vec c_26.1.length 11 (gL cSProfile dSProfile c_26.1))), (19, .c (.int .i64 a0_x.T))], [.box [.vec a0_x.L.length 11 (gL cSProfile dSProfile a0_x.L), .int .i64 a0_x.Conn, .str a0_x.Txn, .int .i64 a0_x.Start, .int .i64 a0_x.T, .int .i64 a0_x.Length], .box [.int .i64 a0_x.T, .int .i64 (IntKind.wrap .i64 (a0_x.T + a0_x.Length))]]⟩) (sub_gen [0, 1] rfl rfl ⟨zc rfl rfl, zc rfl rfl, zc rfl rfl, zc rfl rfl, zc rfl rfl, trivial⟩ ⟨⟨_, rfl, ⟨ii rfl rfl, ii rfl rfl, ii rfl rfl, ii rfl rfl, ii rfl rfl, ii rfl rfl, trivial⟩⟩, ⟨_, rfl, ⟨ii rfl rfl, ii rfl rfl, trivial⟩⟩, trivial⟩) ?_
    refine (SCode.loop (σ := Nat × Int) (S := fun s => ⟨[(2, .c (.ptr 0 0)), (11, .c (.ptr 1 0)), (17, .c (.int .i64 ((l_8.getD (Int.tmod (IntKind.wrap .i64 a1_clear) (((l_8).length : Int))).toNat dSProfile).ID))), (18, .c (.vec c_26.1.length 11 (gL cSProfile dSProfile c_26.1))), (19, .c (.int .i64 s.2))], [.box [.vec a0_x.L.length 11 (gL cSProfile dSProfile a0_x.L), .int .i64 a0_x.Conn, .str a0_x.Txn, .int .i64 a0_x.Start, .int .i64 a0_x.T, .int .i64 a0_x.Length], .box [.int .i64 a0_x.T, .int .i64 (IntKind.wrap .i64 (a0_x.T + a0_x.Length))]]⟩) (g := fun s => chargenettop_ProfilesCompose_l46 F a0_x a1_clear l_8 c_26 s.1 s.2 = some r) (μ := fun s => s.1) (F, a0_x.T) h ?_)
    rintro ⟨n_46, t_39⟩ h
    replace h : chargenettop_ProfilesCompose_l46 F a0_x a1_clear l_8 c_26 n_46 t_39 = some r := h
    show SCode _ _ _ ⟨[(2, .c (.ptr 0 0)), (11, .c (.ptr 1 0)), (17, .c (.int .i64 ((l_8.getD (Int.tmod (IntKind.wrap .i64 a1_clear) (((l_8).length : Int))).toNat dSProfile).ID))), (18, .c (.vec c_26.1.length 11 (gL cSProfile dSProfile c_26.1))), (19, .c (.int .i64 t_39))], [.box [.vec a0_x.L.length 11 (gL cSProfile dSProfile a0_x.L), .int .i64 a0_x.Conn, .str a0_x.Txn, .int .i64 a0_x.Start, .int .i64 a0_x.T, .int .i64 a0_x.Length], .box [.int .i64 a0_x.T, .int .i64 (IntKind.wrap .i64 (a0_x.T + a0_x.Length))]]⟩ _
    cases n_46 with
    | zero => cases h
    | succ n_46 =>
      replace h : chargenettop_ProfilesCompose_b46 F a0_x a1_clear l_8 c_26 (fun t_39 => chargenettop_ProfilesCompose_l46 F a0_x a1_clear l_8 c_26 n_46 t_39) t_39 = some r := h
      unfold chargenettop_ProfilesCompose_b46 at h
      refine SCode.seq ?_
      refine SCode.seq ?_
      refine SCode.region (show SOps _ _ _ [0, 1, 2, 3] _ _ from ?_)
      refine SOps.q rfl (.plain rfl) rfl (q_move rfl rfl) ?_
      refine SOps.q rfl (.plain rfl) rfl (q_field_ptr rfl rfl fd26_1) ?_
      refine SOps.q rfl (.plain rfl) rfl (q_load_ptr rfl rfl rfl rfl ty3) ?_
      refine SOps.q rfl (.plain rfl) rfl (q_lss rfl rfl rfl) ?_
      refine SOps.sub (st' := ⟨[(2, .c (.ptr 0 0)), (11, .c (.ptr 1 0)), (17, .c (.int .i64 ((l_8.getD (Int.tmod (IntKind.wrap .i64 a1_clear) (((l_8).length : Int))).toNat dSProfile).ID))), (18, .c (.vec c_26.1.length 11 (gL cSProfile dSProfile c_26.1))), (19, .c (.int .i64 t_39)), (187, .c (.bool (decide (t_39 < IntKind.wrap .i64 (a0_x.T + a0_x.Length)))))], [.box [.vec a0_x.L.length 11 (gL cSProfile dSProfile a0_x.L), .int .i64 a0_x.Conn, .str a0_x.Txn, .int .i64 a0_x.Start, .int .i64 a0_x.T, .int .i64 a0_x.Length], .box [.int .i64 a0_x.T, .int .i64 (IntKind.wrap .i64 (a0_x.T + a0_x.Length))]]⟩) (sub_gen [0, 1] rfl rfl ⟨zc rfl rfl, zc rfl rfl, zc rfl rfl, zc rfl rfl, zc rfl rfl, zc rfl rfl, trivial⟩ ⟨⟨_, rfl, ⟨ii rfl rfl, ii rfl rfl, ii rfl rfl, ii rfl rfl, ii rfl rfl, ii rfl rfl, trivial⟩⟩, ⟨_, rfl, ⟨ii rfl rfl, ii rfl rfl, trivial⟩⟩, trivial⟩) ?_
      refine SOps.nil ?_
      rcases cond_out h with ⟨g47, h⟩ | ⟨g47, h⟩
      · refine SCode.cond_t rfl g47 ?_
        refine SCode.skip ?_
        refine SCode.join (σ := Unit) (S := fun s => ⟨[(2, .c (.ptr 0 0)), (11, .c (.ptr 1 0)), (17, .c (.int .i64 ((l_8.getD (Int.tmod (IntKind.wrap .i64 a1_clear) (((l_8).length : Int))).toNat dSProfile).ID))), (18, .c (.vec c_26.1.length 11 (gL cSProfile dSProfile c_26.1))), (19, .c (.int .i64 t_39))], [.box [.vec a0_x.L.length 11 (gL cSProfile dSProfile a0_x.L), .int .i64 a0_x.Conn, .str a0_x.Txn, .int .i64 a0_x.Start, .int .i64 a0_x.T, .int .i64 a0_x.Length], .box [.int .i64 a0_x.T, .int .i64 (IntKind.wrap .i64 (a0_x.T + a0_x.Length))]]⟩) (g := fun s => chargenettop_ProfilesCompose_p48 t_39 (fun t_39 => chargenettop_ProfilesCompose_l46 F a0_x a1_clear l_8 c_26 n_46 t_39) = some r) ?_ ?_
        rotate_left
        · refine SCode.block ?_
          refine SCode.seq ?_
          obtain ⟨c_49, g50, h⟩ := bind_out h
          try dsimp only at h
          refine SCode.region (show SOps _ _ _ [0, 1, 2, 3, 4, 5, 6, 7, 8, 9, 10, 11, 12, 13] _ _ from ?_)
          refine SOps.q rfl (.plain rfl) rfl (q_move rfl rfl) ?_
          refine SOps.q rfl (.plain rfl) rfl (q_field_ptr rfl rfl fd24_1) ?_
          refine SOps.q rfl (.plain rfl) rfl (q_load_ptr rfl rfl rfl rfl ty3) ?_
          refine SOps.q rfl (.plain rfl) rfl (q_field_ptr rfl rfl fd24_2) ?_
          refine SOps.q rfl (.plain rfl) rfl (q_load_ptr rfl rfl rfl rfl ty9) ?_
          refine SOps.q rfl (.plain rfl) rfl (q_field_ptr rfl rfl fd24_3) ?_
          refine SOps.q rfl (.plain rfl) rfl (q_load_ptr rfl rfl rfl rfl ty3) ?_
          refine SOps.q rfl (.plain rfl) rfl (q_move rfl rfl) ?_
          refine SOps.q rfl (.plain rfl) rfl (q_call (compose_Why_ok F c_26.1 a0_x.Conn a0_x.Txn a0_x.Start t_39 c_49 g50) [] rfl fn10 ⟨⟨_, rfl, .inl ⟨rfl, rfl⟩⟩, ⟨_, rfl, .inl ⟨rfl, rfl⟩⟩, ⟨_, rfl, .inl ⟨rfl, rfl⟩⟩, ⟨_, rfl, .inl ⟨rfl, rfl⟩⟩, ⟨_, rfl, .inl ⟨rfl, rfl⟩⟩, trivial⟩ (.inl rfl)) ?_
          refine SOps.q rfl (.plain rfl) rfl (q_move rfl rfl) ?_
          refine SOps.q rfl (.plain rfl) rfl (q_extract rfl rfl rfl) ?_
          refine SOps.q rfl (.plain rfl) rfl (q_extract rfl rfl rfl) ?_
          refine SOps.q rfl (.plain rfl) rfl (q_assign rfl rfl) ?_
          refine SOps.q rfl (.plain rfl) rfl (q_assign rfl rfl) ?_
          refine SOps.sub (st' := ⟨[(2, .c (.ptr 0 0)), (11, .c (.ptr 1 0)), (17, .c (.int .i64 ((l_8.getD (Int.tmod (IntKind.wrap .i64 a1_clear) (((l_8).length : Int))).toNat dSProfile).ID))), (18, .c (.vec c_26.1.length 11 (gL cSProfile dSProfile c_26.1))), (19, .c (.int .i64 t_39)), (20, .c (.int .i64 c_49.1)), (21, .c (.bool c_49.2))], [.box [.vec a0_x.L.length 11 (gL cSProfile dSProfile a0_x.L), .int .i64 a0_x.Conn, .str a0_x.Txn, .int .i64 a0_x.Start, .int .i64 a0_x.T, .int .i64 a0_x.Length], .box [.int .i64 a0_x.T, .int .i64 (IntKind.wrap .i64 (a0_x.T + a0_x.Length))]]⟩) (sub_gen [0, 1] rfl rfl ⟨zc rfl rfl, zc rfl rfl, zc rfl rfl, zc rfl rfl, zc rfl rfl, zc rfl rfl, zc rfl rfl, trivial⟩ ⟨⟨_, rfl, ⟨ii rfl rfl, ii rfl rfl, ii rfl rfl, ii rfl rfl, ii rfl rfl, ii rfl rfl, trivial⟩⟩, ⟨_, rfl, ⟨ii rfl rfl, ii rfl rfl, trivial⟩⟩, trivial⟩) ?_
          refine SOps.nil ?_
          refine SCode.seq ?_
          rcases cond_out h with ⟨g51, h⟩ | ⟨g51, h⟩
          · refine SCode.region (show SOps _ _ _ [0, 1, 2, 3, 4, 5] _ _ from ?_)
            refine SOps.q rfl (.plain rfl) rfl (q_move rfl rfl) ?_
            refine SOps.q rfl (.plain rfl) rfl (q_move rfl rfl) ?_
            refine SOps.q rfl (.guard 1 203 true rfl rfl (gT g51)) rfl (q_move rfl rfl) ?_
            refine SOps.q rfl (.guard 1 203 true rfl rfl (gT g51)) rfl (q_move rfl rfl) ?_
            refine SOps.q rfl (.guard 1 203 true rfl rfl (gT g51)) rfl (q_eql rfl rfl rfl) ?_
            refine SOps.q rfl (.plain rfl) rfl (q_pick_t rfl rfl g51 rfl) ?_
            refine SOps.sub (st' := ⟨[(2, .c (.ptr 0 0)), (11, .c (.ptr 1 0)), (17, .c (.int .i64 ((l_8.getD (Int.tmod (IntKind.wrap .i64 a1_clear) (((l_8).length : Int))).toNat dSProfile).ID))), (18, .c (.vec c_26.1.length 11 (gL cSProfile dSProfile c_26.1))), (19, .c (.int .i64 t_39)), (207, .c (.bool (decide (c_49.1 = (l_8.getD (Int.tmod (IntKind.wrap .i64 a1_clear) (((l_8).length : Int))).toNat dSProfile).ID))))], [.box [.vec a0_x.L.length 11 (gL cSProfile dSProfile a0_x.L), .int .i64 a0_x.Conn, .str a0_x.Txn, .int .i64 a0_x.Start, .int .i64 a0_x.T, .int .i64 a0_x.Length], .box [.int .i64 a0_x.T, .int .i64 (IntKind.wrap .i64 (a0_x.T + a0_x.Length))]]⟩) (sub_gen [0, 1] rfl rfl ⟨zc rfl rfl, zc rfl rfl, zc rfl rfl, zc rfl rfl, zc rfl rfl, zc rfl rfl, trivial⟩ ⟨⟨_, rfl, ⟨ii rfl rfl, ii rfl rfl, ii rfl rfl, ii rfl rfl, ii rfl rfl, ii rfl rfl, trivial⟩⟩, ⟨_, rfl, ⟨ii rfl rfl, ii rfl rfl, trivial⟩⟩, trivial⟩) ?_
            refine SOps.nil ?_
            rcases cond_out h with ⟨g52, h⟩ | ⟨g52, h⟩
            · refine SCode.cond_t rfl g52 ?_
              refine SCode.seq ?_
              refine SCode.region (show SOps _ _ _ [0] _ _ from ?_)
              refine SOps.q rfl (.plain rfl) rfl (q_assign rfl rfl) ?_
              refine SOps.sub (st' := ⟨[(4, .c (.bool false))], []⟩) (sub_gen [] rfl rfl ⟨zc rfl rfl, trivial⟩ trivial) ?_
              refine SOps.nil ?_
              refine SCode.ret ?_
              obtain rfl := Option.some.inj h
              exact ⟨⟨[(4, .c (.bool false))], []⟩, _, sub_gen [] rfl rfl ⟨zc rfl rfl, trivial⟩ trivial, resA1 (v := .c (.bool false)) rfl rfl, rfl⟩
            refine SCode.cond_f rfl g52 ?_
            refine SCode.skip ?_
            exact ⟨(), h, sub_gen [0, 1] rfl rfl ⟨zc rfl rfl, zc rfl rfl, zc rfl rfl, zc rfl rfl, zc rfl rfl, trivial⟩ ⟨⟨_, rfl, ⟨ii rfl rfl, ii rfl rfl, ii rfl rfl, ii rfl rfl, ii rfl rfl, ii rfl rfl, trivial⟩⟩, ⟨_, rfl, ⟨ii rfl rfl, ii rfl rfl, trivial⟩⟩, trivial⟩⟩
          refine SCode.region (show SOps _ _ _ [0, 1, 2, 3, 4, 5] _ _ from ?_)
          refine SOps.q rfl (.plain rfl) rfl (q_move rfl rfl) ?_
          refine SOps.q rfl (.plain rfl) rfl (q_move rfl rfl) ?_
          refine SOps.skip rfl 1 203 true rfl rfl (.inl (gF g51)) rfl ?_
          refine SOps.skip rfl 1 203 true rfl rfl (.inl (gF g51)) rfl ?_
          refine SOps.skip rfl 1 203 true rfl rfl (.inl (gF g51)) rfl ?_
          refine SOps.q rfl (.plain rfl) rfl (q_pick_f rfl rfl g51 rfl) ?_
          refine SOps.sub (st' := ⟨[(2, .c (.ptr 0 0)), (11, .c (.ptr 1 0)), (17, .c (.int .i64 ((l_8.getD (Int.tmod (IntKind.wrap .i64 a1_clear) (((l_8).length : Int))).toNat dSProfile).ID))), (18, .c (.vec c_26.1.length 11 (gL cSProfile dSProfile c_26.1))), (19, .c (.int .i64 t_39)), (207, .c (.bool false))], [.box [.vec a0_x.L.length 11 (gL cSProfile dSProfile a0_x.L), .int .i64 a0_x.Conn, .str a0_x.Txn, .int .i64 a0_x.Start, .int .i64 a0_x.T, .int .i64 a0_x.Length], .box [.int .i64 a0_x.T, .int .i64 (IntKind.wrap .i64 (a0_x.T + a0_x.Length))]]⟩) (sub_gen [0, 1] rfl rfl ⟨zc rfl rfl, zc rfl rfl, zc rfl rfl, zc rfl rfl, zc rfl rfl, zc rfl rfl, trivial⟩ ⟨⟨_, rfl, ⟨ii rfl rfl, ii rfl rfl, ii rfl rfl, ii rfl rfl, ii rfl rfl, ii rfl rfl, trivial⟩⟩, ⟨_, rfl, ⟨ii rfl rfl, ii rfl rfl, trivial⟩⟩, trivial⟩) ?_
          refine SOps.nil ?_
          refine SCode.cond_f rfl rfl ?_
          refine SCode.skip ?_
          exact ⟨(), h, sub_gen [0, 1] rfl rfl ⟨zc rfl rfl, zc rfl rfl, zc rfl rfl, zc rfl rfl, zc rfl rfl, trivial⟩ ⟨⟨_, rfl, ⟨ii rfl rfl, ii rfl rfl, ii rfl rfl, ii rfl rfl, ii rfl rfl, ii rfl rfl, trivial⟩⟩, ⟨_, rfl, ⟨ii rfl rfl, ii rfl rfl, trivial⟩⟩, trivial⟩⟩
        rintro ⟨⟩ h
        show SCode _ _ _ ⟨[(2, .c (.ptr 0 0)), (11, .c (.ptr 1 0)), (17, .c (.int .i64 ((l_8.getD (Int.tmod (IntKind.wrap .i64 a1_clear) (((l_8).length : Int))).toNat dSProfile).ID))), (18, .c (.vec c_26.1.length 11 (gL cSProfile dSProfile c_26.1))), (19, .c (.int .i64 t_39))], [.box [.vec a0_x.L.length 11 (gL cSProfile dSProfile a0_x.L), .int .i64 a0_x.Conn, .str a0_x.Txn, .int .i64 a0_x.Start, .int .i64 a0_x.T, .int .i64 a0_x.Length], .box [.int .i64 a0_x.T, .int .i64 (IntKind.wrap .i64 (a0_x.T + a0_x.Length))]]⟩ _
        replace h : chargenettop_ProfilesCompose_p48 t_39 (fun t_39 => chargenettop_ProfilesCompose_l46 F a0_x a1_clear l_8 c_26 n_46 t_39) = some r := h
        unfold chargenettop_ProfilesCompose_p48 at h
        refine SCode.region (show SOps _ _ _ [0, 1, 2] _ _ from ?_)
        refine SOps.q rfl (.plain rfl) rfl (q_move rfl rfl) ?_
        refine SOps.q rfl (.plain rfl) rfl (q_add rfl rfl rfl) ?_
        refine SOps.q rfl (.plain rfl) rfl (q_assign rfl rfl) ?_
        refine SOps.sub (st' := ⟨[(2, .c (.ptr 0 0)), (11, .c (.ptr 1 0)), (17, .c (.int .i64 ((l_8.getD (Int.tmod (IntKind.wrap .i64 a1_clear) (((l_8).length : Int))).toNat dSProfile).ID))), (18, .c (.vec c_26.1.length 11 (gL cSProfile dSProfile c_26.1))), (19, .c (.int .i64 (IntKind.wrap .i64 (t_39 + 1))))], [.box [.vec a0_x.L.length 11 (gL cSProfile dSProfile a0_x.L), .int .i64 a0_x.Conn, .str a0_x.Txn, .int .i64 a0_x.Start, .int .i64 a0_x.T, .int .i64 a0_x.Length], .box [.int .i64 a0_x.T, .int .i64 (IntKind.wrap .i64 (a0_x.T + a0_x.Length))]]⟩) (sub_gen [0, 1] rfl rfl ⟨zc rfl rfl, zc rfl rfl, zc rfl rfl, zc rfl rfl, zc rfl rfl, trivial⟩ ⟨⟨_, rfl, ⟨ii rfl rfl, ii rfl rfl, ii rfl rfl, ii rfl rfl, ii rfl rfl, ii rfl rfl, trivial⟩⟩, ⟨_, rfl, ⟨ii rfl rfl, ii rfl rfl, trivial⟩⟩, trivial⟩) ?_
        refine SOps.nil ?_
        exact ⟨(n_46, IntKind.wrap .i64 (t_39 + 1)), h, Nat.lt_succ_self n_46, sub_gen [0, 1] rfl rfl ⟨zc rfl rfl, zc rfl rfl, zc rfl rfl, zc rfl rfl, zc rfl rfl, trivial⟩ ⟨⟨_, rfl, ⟨ii rfl rfl, ii rfl rfl, ii rfl rfl, ii rfl rfl, ii rfl rfl, ii rfl rfl, trivial⟩⟩, ⟨_, rfl, ⟨ii rfl rfl, ii rfl rfl, trivial⟩⟩, trivial⟩⟩
      refine SCode.cond_f rfl g47 ?_
      refine SCode.exit ?_
      exact ⟨(), h, sub_gen [] rfl rfl trivial trivial⟩
  rintro ⟨⟩ h
  show SCode _ _ _ ⟨[], []⟩ _
  replace h : chargenettop_ProfilesCompose_p32 F = some r := h
  unfold chargenettop_ProfilesCompose_p32 at h
  refine SCode.seq ?_
  obtain ⟨c_30, g31, h⟩ := bind_out h
  try dsimp only at h
  refine SCode.region (show SOps _ _ _ [0, 1, 2] _ _ from ?_)
  refine SOps.q rfl (.plain rfl) rfl (q_call (compose_At_ok F (([] : List SProfile)) 1 ByteArray.empty 5 9 c_30 g31) [] rfl fn8 ⟨⟨_, rfl, .inr (.inr ⟨_, _, rfl, rfl⟩)⟩, ⟨_, rfl, .inl ⟨rfl, rfl⟩⟩, ⟨_, rfl, .inl ⟨rfl, rfl⟩⟩, ⟨_, rfl, .inl ⟨rfl, rfl⟩⟩, ⟨_, rfl, .inl ⟨rfl, rfl⟩⟩, trivial⟩ (.inl rfl)) ?_
  refine SOps.q rfl (.plain rfl) rfl (q_eql rfl rfl rfl) ?_
  refine SOps.q rfl (.plain rfl) rfl (q_assign rfl rfl) ?_
  refine SOps.sub (st' := ⟨[(4, .c (.bool (decide (c_30 = 1073741824))))], []⟩) (sub_gen [] rfl rfl ⟨zc rfl rfl, trivial⟩ trivial) ?_
  refine SOps.nil ?_
  refine SCode.ret ?_
  obtain rfl := Option.some.inj h
  exact ⟨⟨[(4, .c (.bool (decide (c_30 = 1073741824))))], []⟩, _, sub_gen [] rfl rfl ⟨zc rfl rfl, trivial⟩ trivial, resA1 (v := .c (.bool (decide (c_30 = 1073741824)))) rfl rfl, rfl⟩
end Go.Proofs.Ytfbkimhoncfnmaa.W
