/- Written by a program of ours (wip/eng/gen.py): the functions compute their models. -/
import Derived.Test.YtcccjpkfifefaaaFacts
import Derived.Test.YtcccjpkfifefaaaV7x1
import Derived.Test.YtcccjpkfifefaaaShelf
namespace Go.Proofs.Ytcccjpkfifefaaa.W
open Go Go.Proofs Go.Proofs.Ytcccjpkfifefaaa.E Go.Proofs.Ytcccjpkfifefaaa.M
set_option linter.unusedVariables false
set_option maxRecDepth 100000 in
set_option maxHeartbeats 8000000 in
theorem curtail_Put_ok (F : Nat) (a0_l : List SCurtail) (a1_c : SCurtail) (r : (List SCurtail) × Int) (h : curtail_Put F a0_l a1_c = some r) :
    SFun Try.prog 12 [] [.c (.vec a0_l.length 7 (gL cSCurtail dSCurtail a0_l)), .a [.str a1_c.Name, .int .i64 a1_c.Version, .int .i64 a1_c.Feeder, .int .i64 a1_c.Span_From, .int .i64 a1_c.Span_To, .int .i64 a1_c.Total, .bool a1_c.Cancelled]] (fun x _ => x = .t [.c (.vec r.1.length 7 (gL cSCurtail dSCurtail r.1)), .c (.int .i64 r.2)]) := by
  refine SFun.of (n := 84) Try.func12 rfl rfl rfl ?_
  unfold curtail_Put at h
  show SCode _ _ _ ⟨[(0, .c (.vec a0_l.length 7 (gL cSCurtail dSCurtail a0_l))), (1, .a [.str a1_c.Name, .int .i64 a1_c.Version, .int .i64 a1_c.Feeder, .int .i64 a1_c.Span_From, .int .i64 a1_c.Span_To, .int .i64 a1_c.Total, .bool a1_c.Cancelled])], []⟩ _
  refine SCode.seq ?_
  refine SCode.region (show SOps _ _ _ [0, 1, 2] _ _ from ?_)
  refine SOps.e rfl (.plain rfl) (e_box rfl rfl rfl rfl rfl rfl) ?_
  refine SOps.q rfl (.plain rfl) rfl (q_assign rfl rfl) ?_
  refine SOps.q rfl (.plain rfl) rfl (q_assign rfl rfl) ?_
  refine SOps.sub (st' := ⟨[(0, .c (.vec a0_l.length 7 (gL cSCurtail dSCurtail a0_l))), (3, .c (.ptr 0 0))], [.box [.str a1_c.Name, .int .i64 a1_c.Version, .int .i64 a1_c.Feeder, .int .i64 a1_c.Span_From, .int .i64 a1_c.Span_To, .int .i64 a1_c.Total, .bool a1_c.Cancelled]]⟩) (sub_gen [0] rfl rfl ⟨zc rfl rfl, zc rfl rfl, trivial⟩ ⟨⟨_, rfl, ⟨ii rfl rfl, ii rfl rfl, ii rfl rfl, ii rfl rfl, ii rfl rfl, ii rfl rfl, ii rfl rfl, trivial⟩⟩, trivial⟩) ?_
  refine SOps.nil ?_
  refine SCode.seq ?_
  refine SCode.seq ?_
  obtain ⟨c_1, g2, h⟩ := bind_out h
  try dsimp only at h
  refine SCode.region (show SOps _ _ _ [0, 1, 2] _ _ from ?_)
  refine SOps.q rfl (.plain rfl) rfl (q_load_ptr_all rfl rfl rfl rfl rfl ty25) ?_
  refine SOps.q rfl (.plain rfl) rfl (q_call (curtail_check_ok F a1_c 32 c_1 g2) [] rfl fn23 ⟨⟨rfl, rfl⟩, ⟨_, rfl, .inl ⟨rfl, rfl⟩⟩, trivial⟩ (.inl rfl)) ?_
  refine SOps.q rfl (.plain rfl) rfl (q_assign rfl rfl) ?_
  refine SOps.sub (st' := ⟨[(0, .c (.vec a0_l.length 7 (gL cSCurtail dSCurtail a0_l))), (3, .c (.ptr 0 0)), (6, .c (.int .i64 c_1))], [.box [.str a1_c.Name, .int .i64 a1_c.Version, .int .i64 a1_c.Feeder, .int .i64 a1_c.Span_From, .int .i64 a1_c.Span_To, .int .i64 a1_c.Total, .bool a1_c.Cancelled]]⟩) (sub_gen [0] rfl rfl ⟨zc rfl rfl, zc rfl rfl, zc rfl rfl, trivial⟩ ⟨⟨_, rfl, ⟨ii rfl rfl, ii rfl rfl, ii rfl rfl, ii rfl rfl, ii rfl rfl, ii rfl rfl, ii rfl rfl, trivial⟩⟩, trivial⟩) ?_
  refine SOps.nil ?_
  refine SCode.seq ?_
  refine SCode.region (show SOps _ _ _ [0, 1] _ _ from ?_)
  refine SOps.q rfl (.plain rfl) rfl (q_move rfl rfl) ?_
  refine SOps.q rfl (.plain rfl) rfl (q_neq rfl rfl rfl) ?_
  refine SOps.sub (st' := ⟨[(0, .c (.vec a0_l.length 7 (gL cSCurtail dSCurtail a0_l))), (3, .c (.ptr 0 0)), (6, .c (.int .i64 c_1)), (11, .c (.bool ((!decide (c_1 = 0)))))], [.box [.str a1_c.Name, .int .i64 a1_c.Version, .int .i64 a1_c.Feeder, .int .i64 a1_c.Span_From, .int .i64 a1_c.Span_To, .int .i64 a1_c.Total, .bool a1_c.Cancelled]]⟩) (sub_gen [0] rfl rfl ⟨zc rfl rfl, zc rfl rfl, zc rfl rfl, zc rfl rfl, trivial⟩ ⟨⟨_, rfl, ⟨ii rfl rfl, ii rfl rfl, ii rfl rfl, ii rfl rfl, ii rfl rfl, ii rfl rfl, ii rfl rfl, trivial⟩⟩, trivial⟩) ?_
  refine SOps.nil ?_
  rcases cond_out h with ⟨g3, h⟩ | ⟨g3, h⟩
  · refine SCode.cond_t rfl g3 ?_
    refine SCode.seq ?_
    refine SCode.region (show SOps _ _ _ [0, 1, 2, 3] _ _ from ?_)
    refine SOps.q rfl (.plain rfl) rfl (q_move rfl rfl) ?_
    refine SOps.q rfl (.plain rfl) rfl (q_move rfl rfl) ?_
    refine SOps.q rfl (.plain rfl) rfl (q_assign rfl rfl) ?_
    refine SOps.q rfl (.plain rfl) rfl (q_assign rfl rfl) ?_
    refine SOps.sub (st' := ⟨[(4, .c (.vec a0_l.length 7 (gL cSCurtail dSCurtail a0_l))), (5, .c (.int .i64 c_1))], []⟩) (sub_gen [] rfl rfl ⟨zc rfl rfl, zc rfl rfl, trivial⟩ trivial) ?_
    refine SOps.nil ?_
    refine SCode.ret ?_
    obtain rfl := Option.some.inj h
    exact ⟨⟨[(4, .c (.vec a0_l.length 7 (gL cSCurtail dSCurtail a0_l))), (5, .c (.int .i64 c_1))], []⟩, _, sub_gen [] rfl rfl ⟨zc rfl rfl, zc rfl rfl, trivial⟩ trivial, resA2 (v1 := .c (.vec a0_l.length 7 (gL cSCurtail dSCurtail a0_l))) (v2 := .c (.int .i64 c_1)) rfl rfl rfl, rfl⟩
  refine SCode.cond_f rfl g3 ?_
  refine SCode.skip ?_
  refine SCode.seq ?_
  refine SCode.region (show SOps _ _ _ [0] _ _ from ?_)
  refine SOps.q rfl (.plain rfl) rfl (q_assign rfl rfl) ?_
  refine SOps.sub (st' := ⟨[(0, .c (.vec a0_l.length 7 (gL cSCurtail dSCurtail a0_l))), (3, .c (.ptr 0 0)), (7, .c (.int .i64 0))], [.box [.str a1_c.Name, .int .i64 a1_c.Version, .int .i64 a1_c.Feeder, .int .i64 a1_c.Span_From, .int .i64 a1_c.Span_To, .int .i64 a1_c.Total, .bool a1_c.Cancelled]]⟩) (sub_gen [0] rfl rfl ⟨zc rfl rfl, zc rfl rfl, zc rfl rfl, trivial⟩ ⟨⟨_, rfl, ⟨ii rfl rfl, ii rfl rfl, ii rfl rfl, ii rfl rfl, ii rfl rfl, ii rfl rfl, ii rfl rfl, trivial⟩⟩, trivial⟩) ?_
  refine SOps.nil ?_
  refine SCode.join (σ := Int) (S := fun s => ⟨[(0, .c (.vec a0_l.length 7 (gL cSCurtail dSCurtail a0_l))), (3, .c (.ptr 0 0)), (7, .c (.int .i64 s))], [.box [.str a1_c.Name, .int .i64 a1_c.Version, .int .i64 a1_c.Feeder, .int .i64 a1_c.Span_From, .int .i64 a1_c.Span_To, .int .i64 a1_c.Total, .bool a1_c.Cancelled]]⟩) (g := fun s => curtail_Put_p21 F a0_l a1_c s = some r) ?_ ?_
  rotate_left
  · refine SCode.block ?_
    refine SCode.sub (st' := ⟨[(0, .c (.vec a0_l.length 7 (gL cSCurtail dSCurtail a0_l))), (3, .c (.ptr 0 0)), (7, .c (.int .i64 0))], [.box [.str a1_c.Name, .int .i64 a1_c.Version, .int .i64 a1_c.Feeder, .int .i64 a1_c.Span_From, .int .i64 a1_c.Span_To, .int .i64 a1_c.Total, .bool a1_c.Cancelled]]⟩) (sub_gen [0] rfl rfl ⟨zc rfl rfl, zc rfl rfl, zc rfl rfl, trivial⟩ ⟨⟨_, rfl, ⟨ii rfl rfl, ii rfl rfl, ii rfl rfl, ii rfl rfl, ii rfl rfl, ii rfl rfl, ii rfl rfl, trivial⟩⟩, trivial⟩) ?_
    refine (SCode.loop (σ := Nat × Int) (S := fun s => ⟨[(0, .c (.vec a0_l.length 7 (gL cSCurtail dSCurtail a0_l))), (3, .c (.ptr 0 0)), (7, .c (.int .i64 s.2))], [.box [.str a1_c.Name, .int .i64 a1_c.Version, .int .i64 a1_c.Feeder, .int .i64 a1_c.Span_From, .int .i64 a1_c.Span_To, .int .i64 a1_c.Total, .bool a1_c.Cancelled]]⟩) (g := fun s => curtail_Put_l29 F a0_l a1_c s.1 s.2 = some r) (μ := fun s => s.1) (F, 0) h ?_)
    rintro ⟨n_29, i_25⟩ h
    replace h : curtail_Put_l29 F a0_l a1_c n_29 i_25 = some r := h
    show SCode _ _ _ ⟨[(0, .c (.vec a0_l.length 7 (gL cSCurtail dSCurtail a0_l))), (3, .c (.ptr 0 0)), (7, .c (.int .i64 i_25))], [.box [.str a1_c.Name, .int .i64 a1_c.Version, .int .i64 a1_c.Feeder, .int .i64 a1_c.Span_From, .int .i64 a1_c.Span_To, .int .i64 a1_c.Total, .bool a1_c.Cancelled]]⟩ _
    cases n_29 with
    | zero => cases h
    | succ n_29 =>
      replace h : curtail_Put_b29 F a0_l a1_c (fun i_25 => curtail_Put_l29 F a0_l a1_c n_29 i_25) i_25 = some r := h
      unfold curtail_Put_b29 at h
      refine SCode.seq ?_
      refine SCode.seq ?_
      rcases cond_out h with ⟨g30, h⟩ | ⟨g30, h⟩
      · obtain ⟨g31, h⟩ := guard_out h
        refine SCode.draw (s' := [(27, .c (.bool (sLt ((a0_l.getD i_25.toNat dSCurtail).Name) a1_c.Name))), (26, .c (.bool (sLt ((a0_l.getD i_25.toNat dSCurtail).Name) a1_c.Name))), (25, .c (.str a1_c.Name)), (24, .c (.ptr 0 0)), (23, .c (.str ((a0_l.getD i_25.toNat dSCurtail).Name))), (22, .c (.eptr 7 (cSCurtail (a0_l.getD i_25.toNat dSCurtail)) 0)), (21, .c (.eptr 7 (cSCurtail (a0_l.getD i_25.toNat dSCurtail)) 0)), (20, .c (.int .i64 i_25)), (19, .c (.vec a0_l.length 7 (gL cSCurtail dSCurtail a0_l))), (18, .c (.bool (decide (i_25 < ((a0_l).length : Int))))), (17, .c (.bool (decide (i_25 < ((a0_l).length : Int))))), (16, .c (.int .i64 (((a0_l).length : Int)))), (15, .c (.vec a0_l.length 7 (gL cSCurtail dSCurtail a0_l))), (14, .c (.int .i64 i_25)), (0, .c (.vec a0_l.length 7 (gL cSCurtail dSCurtail a0_l))), (3, .c (.ptr 0 0)), (7, .c (.int .i64 i_25))]) mixed [[], [], [1], [0, 1, 2], [0, 1, 2, 3], [0, 1, 2, 3, 4], [0, 1, 2, 3, 4], [0, 1, 2, 3, 4, 5, 6], [0, 1, 2, 3, 4, 5, 6, 7], [0, 1, 2, 3, 4, 5, 6, 7, 8], [0, 1, 2, 3, 4], [0, 1, 2, 3, 4, 10], [0, 1, 2, 3, 4, 5, 6, 7, 8, 9, 10, 11], [0, 1, 2, 3, 4, 5, 6, 7, 8, 9, 10, 11, 12]] 14 0 rfl rfl ?_ ?_
        · refine QChain.run rfl (.plain rfl) rfl (q_move rfl rfl) ?_
          refine QChain.run rfl (.plain rfl) rfl (q_move rfl rfl) ?_
          refine QChain.run rfl (.plain rfl) rfl (q_len_vec rfl rfl sl34) ?_
          refine QChain.run rfl (.plain rfl) rfl (q_lss rfl rfl rfl) ?_
          refine QChain.run rfl (.plain rfl) rfl (q_move rfl rfl) ?_
          refine QChain.run rfl (.guard 4 18 true rfl rfl (gT g30)) rfl (q_move rfl rfl) ?_
          refine QChain.run rfl (.guard 4 18 true rfl rfl (gT g30)) rfl (q_move rfl rfl) ?_
          refine QChain.run rfl (.guard 4 18 true rfl rfl (gT g30)) rfl (q_index_vec rfl rfl rfl sl34 rfl g31.1 g31.2) ?_
          refine QChain.run rfl (.guard 4 18 true rfl rfl (gT g30)) rfl (q_field_eptr rfl rfl fd25_0 rfl) ?_
          refine QChain.run rfl (.guard 4 18 true rfl rfl (gT g30)) rfl (q_load_eptr rfl rfl ty9) ?_
          refine QChain.run rfl (.guard 4 18 true rfl rfl (gT g30)) rfl (q_field_ptr rfl rfl fd25_0) ?_
          refine QChain.run rfl (.guard 4 18 true rfl rfl (gT g30)) rfl (q_load_ptr rfl rfl rfl rfl ty9) ?_
          refine QChain.run rfl (.guard 4 18 true rfl rfl (gT g30)) rfl (q_lssS rfl rfl rfl) ?_
          refine QChain.run rfl (.plain rfl) rfl (q_pick_t rfl rfl g30 rfl) ?_
          exact QChain.nil _ _
        refine (show SOps _ _ _ [] _ _ from ?_)
        refine SOps.sub (st' := ⟨[(0, .c (.vec a0_l.length 7 (gL cSCurtail dSCurtail a0_l))), (3, .c (.ptr 0 0)), (7, .c (.int .i64 i_25)), (27, .c (.bool (sLt ((a0_l.getD i_25.toNat dSCurtail).Name) a1_c.Name)))], [.box [.str a1_c.Name, .int .i64 a1_c.Version, .int .i64 a1_c.Feeder, .int .i64 a1_c.Span_From, .int .i64 a1_c.Span_To, .int .i64 a1_c.Total, .bool a1_c.Cancelled]]⟩) (sub_gen [0] rfl rfl ⟨zc rfl rfl, zc rfl rfl, zc rfl rfl, zc rfl rfl, trivial⟩ ⟨⟨_, rfl, ⟨ii rfl rfl, ii rfl rfl, ii rfl rfl, ii rfl rfl, ii rfl rfl, ii rfl rfl, ii rfl rfl, trivial⟩⟩, trivial⟩) ?_
        refine SOps.nil ?_
        rcases cond_out h with ⟨g32, h⟩ | ⟨g32, h⟩
        · refine SCode.cond_t rfl g32 ?_
          refine SCode.skip ?_
          refine SCode.block ?_
          refine SCode.region (show SOps _ _ _ [0, 1, 2] _ _ from ?_)
          refine SOps.q rfl (.plain rfl) rfl (q_move rfl rfl) ?_
          refine SOps.q rfl (.plain rfl) rfl (q_add rfl rfl rfl) ?_
          refine SOps.q rfl (.plain rfl) rfl (q_assign rfl rfl) ?_
          refine SOps.sub (st' := ⟨[(0, .c (.vec a0_l.length 7 (gL cSCurtail dSCurtail a0_l))), (3, .c (.ptr 0 0)), (7, .c (.int .i64 (IntKind.wrap .i64 (i_25 + 1))))], [.box [.str a1_c.Name, .int .i64 a1_c.Version, .int .i64 a1_c.Feeder, .int .i64 a1_c.Span_From, .int .i64 a1_c.Span_To, .int .i64 a1_c.Total, .bool a1_c.Cancelled]]⟩) (sub_gen [0] rfl rfl ⟨zc rfl rfl, zc rfl rfl, zc rfl rfl, trivial⟩ ⟨⟨_, rfl, ⟨ii rfl rfl, ii rfl rfl, ii rfl rfl, ii rfl rfl, ii rfl rfl, ii rfl rfl, ii rfl rfl, trivial⟩⟩, trivial⟩) ?_
          refine SOps.nil ?_
          exact ⟨(n_29, IntKind.wrap .i64 (i_25 + 1)), h, Nat.lt_succ_self n_29, sub_gen [0] rfl rfl ⟨zc rfl rfl, zc rfl rfl, zc rfl rfl, trivial⟩ ⟨⟨_, rfl, ⟨ii rfl rfl, ii rfl rfl, ii rfl rfl, ii rfl rfl, ii rfl rfl, ii rfl rfl, ii rfl rfl, trivial⟩⟩, trivial⟩⟩
        refine SCode.cond_f rfl g32 ?_
        refine SCode.exit ?_
        exact ⟨i_25, h, sub_gen [0] rfl rfl ⟨zc rfl rfl, zc rfl rfl, zc rfl rfl, trivial⟩ ⟨⟨_, rfl, ⟨ii rfl rfl, ii rfl rfl, ii rfl rfl, ii rfl rfl, ii rfl rfl, ii rfl rfl, ii rfl rfl, trivial⟩⟩, trivial⟩⟩
      refine SCode.draw (s' := [(27, .c (.bool false)), (26, .c (.raw (.tuple #[]))), (25, .c (.raw (.tuple #[]))), (24, .c (.raw (.tuple #[]))), (23, .c (.raw (.tuple #[]))), (22, .c (.raw (.tuple #[]))), (21, .c (.raw (.tuple #[]))), (20, .c (.raw (.tuple #[]))), (19, .c (.raw (.tuple #[]))), (18, .c (.bool (decide (i_25 < ((a0_l).length : Int))))), (17, .c (.bool (decide (i_25 < ((a0_l).length : Int))))), (16, .c (.int .i64 (((a0_l).length : Int)))), (15, .c (.vec a0_l.length 7 (gL cSCurtail dSCurtail a0_l))), (14, .c (.int .i64 i_25)), (0, .c (.vec a0_l.length 7 (gL cSCurtail dSCurtail a0_l))), (3, .c (.ptr 0 0)), (7, .c (.int .i64 i_25))]) mixed [[], [], [1], [0, 1, 2], [0, 1, 2, 3], [0, 1, 2, 3, 4], [0, 1, 2, 3, 4], [0, 1, 2, 3, 4, 5, 6], [0, 1, 2, 3, 4, 5, 6, 7], [0, 1, 2, 3, 4, 5, 6, 7, 8], [0, 1, 2, 3, 4], [0, 1, 2, 3, 4, 10], [0, 1, 2, 3, 4, 5, 6, 7, 8, 9, 10, 11], [0, 1, 2, 3, 4, 5, 6, 7, 8, 9, 10, 11, 12]] 14 0 rfl rfl ?_ ?_
      · refine QChain.run rfl (.plain rfl) rfl (q_move rfl rfl) ?_
        refine QChain.run rfl (.plain rfl) rfl (q_move rfl rfl) ?_
        refine QChain.run rfl (.plain rfl) rfl (q_len_vec rfl rfl sl34) ?_
        refine QChain.run rfl (.plain rfl) rfl (q_lss rfl rfl rfl) ?_
        refine QChain.run rfl (.plain rfl) rfl (q_move rfl rfl) ?_
        refine QChain.skip rfl ⟨4, 18, true, rfl, rfl, (.inl (gF g30))⟩ rfl ?_
        refine QChain.skip rfl ⟨4, 18, true, rfl, rfl, (.inl (gF g30))⟩ rfl ?_
        refine QChain.skip rfl ⟨4, 18, true, rfl, rfl, (.inl (gF g30))⟩ rfl ?_
        refine QChain.skip rfl ⟨4, 18, true, rfl, rfl, (.inl (gF g30))⟩ rfl ?_
        refine QChain.skip rfl ⟨4, 18, true, rfl, rfl, (.inl (gF g30))⟩ rfl ?_
        refine QChain.skip rfl ⟨4, 18, true, rfl, rfl, (.inl (gF g30))⟩ rfl ?_
        refine QChain.skip rfl ⟨4, 18, true, rfl, rfl, (.inl (gF g30))⟩ rfl ?_
        refine QChain.skip rfl ⟨4, 18, true, rfl, rfl, (.inl (gF g30))⟩ rfl ?_
        refine QChain.run rfl (.plain rfl) rfl (q_pick_f rfl rfl g30 rfl) ?_
        exact QChain.nil _ _
      refine (show SOps _ _ _ [] _ _ from ?_)
      refine SOps.sub (st' := ⟨[(0, .c (.vec a0_l.length 7 (gL cSCurtail dSCurtail a0_l))), (3, .c (.ptr 0 0)), (7, .c (.int .i64 i_25)), (27, .c (.bool false))], [.box [.str a1_c.Name, .int .i64 a1_c.Version, .int .i64 a1_c.Feeder, .int .i64 a1_c.Span_From, .int .i64 a1_c.Span_To, .int .i64 a1_c.Total, .bool a1_c.Cancelled]]⟩) (sub_gen [0] rfl rfl ⟨zc rfl rfl, zc rfl rfl, zc rfl rfl, zc rfl rfl, trivial⟩ ⟨⟨_, rfl, ⟨ii rfl rfl, ii rfl rfl, ii rfl rfl, ii rfl rfl, ii rfl rfl, ii rfl rfl, ii rfl rfl, trivial⟩⟩, trivial⟩) ?_
      refine SOps.nil ?_
      refine SCode.cond_f rfl rfl ?_
      refine SCode.exit ?_
      exact ⟨i_25, h, sub_gen [0] rfl rfl ⟨zc rfl rfl, zc rfl rfl, zc rfl rfl, trivial⟩ ⟨⟨_, rfl, ⟨ii rfl rfl, ii rfl rfl, ii rfl rfl, ii rfl rfl, ii rfl rfl, ii rfl rfl, ii rfl rfl, trivial⟩⟩, trivial⟩⟩
  rintro i_4 h
  show SCode _ _ _ ⟨[(0, .c (.vec a0_l.length 7 (gL cSCurtail dSCurtail a0_l))), (3, .c (.ptr 0 0)), (7, .c (.int .i64 i_4))], [.box [.str a1_c.Name, .int .i64 a1_c.Version, .int .i64 a1_c.Feeder, .int .i64 a1_c.Span_From, .int .i64 a1_c.Span_To, .int .i64 a1_c.Total, .bool a1_c.Cancelled]]⟩ _
  replace h : curtail_Put_p21 F a0_l a1_c i_4 = some r := h
  unfold curtail_Put_p21 at h
  refine SCode.seq ?_
  refine SCode.join (σ := Bool) (S := fun s => ⟨[(0, .c (.vec a0_l.length 7 (gL cSCurtail dSCurtail a0_l))), (3, .c (.ptr 0 0)), (7, .c (.int .i64 i_4)), (43, .c (.bool s))], [.box [.str a1_c.Name, .int .i64 a1_c.Version, .int .i64 a1_c.Feeder, .int .i64 a1_c.Span_From, .int .i64 a1_c.Span_To, .int .i64 a1_c.Total, .bool a1_c.Cancelled]]⟩) (g := fun s => curtail_Put_p18 F a0_l a1_c i_4 s = some r) ?_ ?_
  rotate_left
  · rcases cond_out h with ⟨g19, h⟩ | ⟨g19, h⟩
    · obtain ⟨g20, h⟩ := guard_out h
      refine SCode.draw (s' := [(43, .c (.bool (sEq ((a0_l.getD i_4.toNat dSCurtail).Name) a1_c.Name))), (42, .c (.bool (sEq ((a0_l.getD i_4.toNat dSCurtail).Name) a1_c.Name))), (41, .c (.str a1_c.Name)), (40, .c (.ptr 0 0)), (39, .c (.str ((a0_l.getD i_4.toNat dSCurtail).Name))), (38, .c (.eptr 7 (cSCurtail (a0_l.getD i_4.toNat dSCurtail)) 0)), (37, .c (.eptr 7 (cSCurtail (a0_l.getD i_4.toNat dSCurtail)) 0)), (36, .c (.int .i64 i_4)), (35, .c (.vec a0_l.length 7 (gL cSCurtail dSCurtail a0_l))), (34, .c (.bool (decide (i_4 < ((a0_l).length : Int))))), (33, .c (.bool (decide (i_4 < ((a0_l).length : Int))))), (32, .c (.int .i64 (((a0_l).length : Int)))), (31, .c (.vec a0_l.length 7 (gL cSCurtail dSCurtail a0_l))), (30, .c (.int .i64 i_4)), (0, .c (.vec a0_l.length 7 (gL cSCurtail dSCurtail a0_l))), (3, .c (.ptr 0 0)), (7, .c (.int .i64 i_4))]) mixed [[], [], [1], [0, 1, 2], [0, 1, 2, 3], [0, 1, 2, 3, 4], [0, 1, 2, 3, 4], [0, 1, 2, 3, 4, 5, 6], [0, 1, 2, 3, 4, 5, 6, 7], [0, 1, 2, 3, 4, 5, 6, 7, 8], [0, 1, 2, 3, 4], [0, 1, 2, 3, 4, 10], [0, 1, 2, 3, 4, 5, 6, 7, 8, 9, 10, 11], [0, 1, 2, 3, 4, 5, 6, 7, 8, 9, 10, 11, 12]] 14 0 rfl rfl ?_ ?_
      · refine QChain.run rfl (.plain rfl) rfl (q_move rfl rfl) ?_
        refine QChain.run rfl (.plain rfl) rfl (q_move rfl rfl) ?_
        refine QChain.run rfl (.plain rfl) rfl (q_len_vec rfl rfl sl34) ?_
        refine QChain.run rfl (.plain rfl) rfl (q_lss rfl rfl rfl) ?_
        refine QChain.run rfl (.plain rfl) rfl (q_move rfl rfl) ?_
        refine QChain.run rfl (.guard 4 34 true rfl rfl (gT g19)) rfl (q_move rfl rfl) ?_
        refine QChain.run rfl (.guard 4 34 true rfl rfl (gT g19)) rfl (q_move rfl rfl) ?_
        refine QChain.run rfl (.guard 4 34 true rfl rfl (gT g19)) rfl (q_index_vec rfl rfl rfl sl34 rfl g20.1 g20.2) ?_
        refine QChain.run rfl (.guard 4 34 true rfl rfl (gT g19)) rfl (q_field_eptr rfl rfl fd25_0 rfl) ?_
        refine QChain.run rfl (.guard 4 34 true rfl rfl (gT g19)) rfl (q_load_eptr rfl rfl ty9) ?_
        refine QChain.run rfl (.guard 4 34 true rfl rfl (gT g19)) rfl (q_field_ptr rfl rfl fd25_0) ?_
        refine QChain.run rfl (.guard 4 34 true rfl rfl (gT g19)) rfl (q_load_ptr rfl rfl rfl rfl ty9) ?_
        refine QChain.run rfl (.guard 4 34 true rfl rfl (gT g19)) rfl (q_eqlS rfl rfl rfl) ?_
        refine QChain.run rfl (.plain rfl) rfl (q_pick_t rfl rfl g19 rfl) ?_
        exact QChain.nil _ _
      refine (show SOps _ _ _ [] _ _ from ?_)
      refine SOps.sub (st' := ⟨[(0, .c (.vec a0_l.length 7 (gL cSCurtail dSCurtail a0_l))), (3, .c (.ptr 0 0)), (7, .c (.int .i64 i_4)), (43, .c (.bool (sEq ((a0_l.getD i_4.toNat dSCurtail).Name) a1_c.Name)))], [.box [.str a1_c.Name, .int .i64 a1_c.Version, .int .i64 a1_c.Feeder, .int .i64 a1_c.Span_From, .int .i64 a1_c.Span_To, .int .i64 a1_c.Total, .bool a1_c.Cancelled]]⟩) (sub_gen [0] rfl rfl ⟨zc rfl rfl, zc rfl rfl, zc rfl rfl, zc rfl rfl, trivial⟩ ⟨⟨_, rfl, ⟨ii rfl rfl, ii rfl rfl, ii rfl rfl, ii rfl rfl, ii rfl rfl, ii rfl rfl, ii rfl rfl, trivial⟩⟩, trivial⟩) ?_
      refine SOps.nil ?_
      exact ⟨sEq ((a0_l.getD i_4.toNat dSCurtail).Name) a1_c.Name, h, sub_gen [0] rfl rfl ⟨zc rfl rfl, zc rfl rfl, zc rfl rfl, zc rfl rfl, trivial⟩ ⟨⟨_, rfl, ⟨ii rfl rfl, ii rfl rfl, ii rfl rfl, ii rfl rfl, ii rfl rfl, ii rfl rfl, ii rfl rfl, trivial⟩⟩, trivial⟩⟩
    refine SCode.draw (s' := [(43, .c (.bool false)), (42, .c (.raw (.tuple #[]))), (41, .c (.raw (.tuple #[]))), (40, .c (.raw (.tuple #[]))), (39, .c (.raw (.tuple #[]))), (38, .c (.raw (.tuple #[]))), (37, .c (.raw (.tuple #[]))), (36, .c (.raw (.tuple #[]))), (35, .c (.raw (.tuple #[]))), (34, .c (.bool (decide (i_4 < ((a0_l).length : Int))))), (33, .c (.bool (decide (i_4 < ((a0_l).length : Int))))), (32, .c (.int .i64 (((a0_l).length : Int)))), (31, .c (.vec a0_l.length 7 (gL cSCurtail dSCurtail a0_l))), (30, .c (.int .i64 i_4)), (0, .c (.vec a0_l.length 7 (gL cSCurtail dSCurtail a0_l))), (3, .c (.ptr 0 0)), (7, .c (.int .i64 i_4))]) mixed [[], [], [1], [0, 1, 2], [0, 1, 2, 3], [0, 1, 2, 3, 4], [0, 1, 2, 3, 4], [0, 1, 2, 3, 4, 5, 6], [0, 1, 2, 3, 4, 5, 6, 7], [0, 1, 2, 3, 4, 5, 6, 7, 8], [0, 1, 2, 3, 4], [0, 1, 2, 3, 4, 10], [0, 1, 2, 3, 4, 5, 6, 7, 8, 9, 10, 11], [0, 1, 2, 3, 4, 5, 6, 7, 8, 9, 10, 11, 12]] 14 0 rfl rfl ?_ ?_
    · refine QChain.run rfl (.plain rfl) rfl (q_move rfl rfl) ?_
      refine QChain.run rfl (.plain rfl) rfl (q_move rfl rfl) ?_
      refine QChain.run rfl (.plain rfl) rfl (q_len_vec rfl rfl sl34) ?_
      refine QChain.run rfl (.plain rfl) rfl (q_lss rfl rfl rfl) ?_
      refine QChain.run rfl (.plain rfl) rfl (q_move rfl rfl) ?_
      refine QChain.skip rfl ⟨4, 34, true, rfl, rfl, (.inl (gF g19))⟩ rfl ?_
      refine QChain.skip rfl ⟨4, 34, true, rfl, rfl, (.inl (gF g19))⟩ rfl ?_
      refine QChain.skip rfl ⟨4, 34, true, rfl, rfl, (.inl (gF g19))⟩ rfl ?_
      refine QChain.skip rfl ⟨4, 34, true, rfl, rfl, (.inl (gF g19))⟩ rfl ?_
      refine QChain.skip rfl ⟨4, 34, true, rfl, rfl, (.inl (gF g19))⟩ rfl ?_
      refine QChain.skip rfl ⟨4, 34, true, rfl, rfl, (.inl (gF g19))⟩ rfl ?_
      refine QChain.skip rfl ⟨4, 34, true, rfl, rfl, (.inl (gF g19))⟩ rfl ?_
      refine QChain.skip rfl ⟨4, 34, true, rfl, rfl, (.inl (gF g19))⟩ rfl ?_
      refine QChain.run rfl (.plain rfl) rfl (q_pick_f rfl rfl g19 rfl) ?_
      exact QChain.nil _ _
    refine (show SOps _ _ _ [] _ _ from ?_)
    refine SOps.sub (st' := ⟨[(0, .c (.vec a0_l.length 7 (gL cSCurtail dSCurtail a0_l))), (3, .c (.ptr 0 0)), (7, .c (.int .i64 i_4)), (43, .c (.bool false))], [.box [.str a1_c.Name, .int .i64 a1_c.Version, .int .i64 a1_c.Feeder, .int .i64 a1_c.Span_From, .int .i64 a1_c.Span_To, .int .i64 a1_c.Total, .bool a1_c.Cancelled]]⟩) (sub_gen [0] rfl rfl ⟨zc rfl rfl, zc rfl rfl, zc rfl rfl, zc rfl rfl, trivial⟩ ⟨⟨_, rfl, ⟨ii rfl rfl, ii rfl rfl, ii rfl rfl, ii rfl rfl, ii rfl rfl, ii rfl rfl, ii rfl rfl, trivial⟩⟩, trivial⟩) ?_
    refine SOps.nil ?_
    exact ⟨false, h, sub_gen [0] rfl rfl ⟨zc rfl rfl, zc rfl rfl, zc rfl rfl, zc rfl rfl, trivial⟩ ⟨⟨_, rfl, ⟨ii rfl rfl, ii rfl rfl, ii rfl rfl, ii rfl rfl, ii rfl rfl, ii rfl rfl, ii rfl rfl, trivial⟩⟩, trivial⟩⟩
  rintro t43_5 h
  show SCode _ _ _ ⟨[(0, .c (.vec a0_l.length 7 (gL cSCurtail dSCurtail a0_l))), (3, .c (.ptr 0 0)), (7, .c (.int .i64 i_4)), (43, .c (.bool t43_5))], [.box [.str a1_c.Name, .int .i64 a1_c.Version, .int .i64 a1_c.Feeder, .int .i64 a1_c.Span_From, .int .i64 a1_c.Span_To, .int .i64 a1_c.Total, .bool a1_c.Cancelled]]⟩ _
  replace h : curtail_Put_p18 F a0_l a1_c i_4 t43_5 = some r := h
  unfold curtail_Put_p18 at h
  rcases cond_out h with ⟨g6, h⟩ | ⟨g6, h⟩
  · refine SCode.cond_t rfl g6 ?_
    refine SCode.seq ?_
    refine SCode.block ?_
    refine SCode.seq ?_
    obtain ⟨g7, h⟩ := guard_out h
    refine SCode.draw (s' := [(44, .c (.bool (decide (a1_c.Version < (a0_l.getD i_4.toNat dSCurtail).Version)))), (52, .c (.bool (decide (a1_c.Version < (a0_l.getD i_4.toNat dSCurtail).Version)))), (51, .c (.int .i64 ((a0_l.getD i_4.toNat dSCurtail).Version))), (50, .c (.eptr 7 (cSCurtail (a0_l.getD i_4.toNat dSCurtail)) 1)), (49, .c (.eptr 7 (cSCurtail (a0_l.getD i_4.toNat dSCurtail)) 0)), (48, .c (.int .i64 i_4)), (47, .c (.vec a0_l.length 7 (gL cSCurtail dSCurtail a0_l))), (46, .c (.int .i64 a1_c.Version)), (45, .c (.ptr 0 1)), (0, .c (.vec a0_l.length 7 (gL cSCurtail dSCurtail a0_l))), (3, .c (.ptr 0 0)), (7, .c (.int .i64 i_4)), (43, .c (.bool t43_5))]) mixed [[], [0], [], [], [2, 3], [2, 3, 4], [2, 3, 4, 5], [0, 1, 2, 3, 4, 5, 6], [0, 1, 2, 3, 4, 5, 6, 7]] 9 0 rfl rfl ?_ ?_
    · refine QChain.run rfl (.plain rfl) rfl (q_field_ptr rfl rfl fd25_1) ?_
      refine QChain.run rfl (.plain rfl) rfl (q_load_ptr rfl rfl rfl rfl ty3) ?_
      refine QChain.run rfl (.plain rfl) rfl (q_move rfl rfl) ?_
      refine QChain.run rfl (.plain rfl) rfl (q_move rfl rfl) ?_
      refine QChain.run rfl (.plain rfl) rfl (q_index_vec rfl rfl rfl sl34 rfl g7.1 g7.2) ?_
      refine QChain.run rfl (.plain rfl) rfl (q_field_eptr rfl rfl fd25_1 rfl) ?_
      refine QChain.run rfl (.plain rfl) rfl (q_load_eptr rfl rfl ty3) ?_
      refine QChain.run rfl (.plain rfl) rfl (q_lss rfl rfl rfl) ?_
      refine QChain.run rfl (.plain rfl) rfl (q_assign rfl rfl) ?_
      exact QChain.nil _ _
    refine (show SOps _ _ _ [] _ _ from ?_)
    refine SOps.sub (st' := ⟨[(0, .c (.vec a0_l.length 7 (gL cSCurtail dSCurtail a0_l))), (3, .c (.ptr 0 0)), (7, .c (.int .i64 i_4)), (44, .c (.bool (decide (a1_c.Version < (a0_l.getD i_4.toNat dSCurtail).Version))))], [.box [.str a1_c.Name, .int .i64 a1_c.Version, .int .i64 a1_c.Feeder, .int .i64 a1_c.Span_From, .int .i64 a1_c.Span_To, .int .i64 a1_c.Total, .bool a1_c.Cancelled]]⟩) (sub_gen [0] rfl rfl ⟨zc rfl rfl, zc rfl rfl, zc rfl rfl, zc rfl rfl, trivial⟩ ⟨⟨_, rfl, ⟨ii rfl rfl, ii rfl rfl, ii rfl rfl, ii rfl rfl, ii rfl rfl, ii rfl rfl, ii rfl rfl, trivial⟩⟩, trivial⟩) ?_
    refine SOps.nil ?_
    rcases cond_out h with ⟨g8, h⟩ | ⟨g8, h⟩
    · refine SCode.cond_t rfl g8 ?_
      refine SCode.seq ?_
      refine SCode.region (show SOps _ _ _ [0, 1, 2] _ _ from ?_)
      refine SOps.q rfl (.plain rfl) rfl (q_move rfl rfl) ?_
      refine SOps.q rfl (.plain rfl) rfl (q_assign rfl rfl) ?_
      refine SOps.q rfl (.plain rfl) rfl (q_assign rfl rfl) ?_
      refine SOps.sub (st' := ⟨[(4, .c (.vec a0_l.length 7 (gL cSCurtail dSCurtail a0_l))), (5, .c (.int .i64 11))], []⟩) (sub_gen [] rfl rfl ⟨zc rfl rfl, zc rfl rfl, trivial⟩ trivial) ?_
      refine SOps.nil ?_
      refine SCode.ret ?_
      obtain rfl := Option.some.inj h
      exact ⟨⟨[(4, .c (.vec a0_l.length 7 (gL cSCurtail dSCurtail a0_l))), (5, .c (.int .i64 11))], []⟩, _, sub_gen [] rfl rfl ⟨zc rfl rfl, zc rfl rfl, trivial⟩ trivial, resA2 (v1 := .c (.vec a0_l.length 7 (gL cSCurtail dSCurtail a0_l))) (v2 := .c (.int .i64 11)) rfl rfl rfl, rfl⟩
    refine SCode.cond_f rfl g8 ?_
    refine SCode.seq ?_
    obtain ⟨g9, h⟩ := guard_out h
    refine SCode.draw (s' := [(54, .c (.bool (decide ((a0_l.getD i_4.toNat dSCurtail).Version < a1_c.Version)))), (62, .c (.bool (decide ((a0_l.getD i_4.toNat dSCurtail).Version < a1_c.Version)))), (61, .c (.int .i64 ((a0_l.getD i_4.toNat dSCurtail).Version))), (60, .c (.eptr 7 (cSCurtail (a0_l.getD i_4.toNat dSCurtail)) 1)), (59, .c (.eptr 7 (cSCurtail (a0_l.getD i_4.toNat dSCurtail)) 0)), (58, .c (.int .i64 i_4)), (57, .c (.vec a0_l.length 7 (gL cSCurtail dSCurtail a0_l))), (56, .c (.int .i64 a1_c.Version)), (55, .c (.ptr 0 1)), (0, .c (.vec a0_l.length 7 (gL cSCurtail dSCurtail a0_l))), (3, .c (.ptr 0 0)), (7, .c (.int .i64 i_4)), (44, .c (.bool (decide (a1_c.Version < (a0_l.getD i_4.toNat dSCurtail).Version))))]) mixed [[], [0], [], [], [2, 3], [2, 3, 4], [2, 3, 4, 5], [0, 1, 2, 3, 4, 5, 6], [0, 1, 2, 3, 4, 5, 6, 7]] 9 0 rfl rfl ?_ ?_
    · refine QChain.run rfl (.plain rfl) rfl (q_field_ptr rfl rfl fd25_1) ?_
      refine QChain.run rfl (.plain rfl) rfl (q_load_ptr rfl rfl rfl rfl ty3) ?_
      refine QChain.run rfl (.plain rfl) rfl (q_move rfl rfl) ?_
      refine QChain.run rfl (.plain rfl) rfl (q_move rfl rfl) ?_
      refine QChain.run rfl (.plain rfl) rfl (q_index_vec rfl rfl rfl sl34 rfl g9.1 g9.2) ?_
      refine QChain.run rfl (.plain rfl) rfl (q_field_eptr rfl rfl fd25_1 rfl) ?_
      refine QChain.run rfl (.plain rfl) rfl (q_load_eptr rfl rfl ty3) ?_
      refine QChain.run rfl (.plain rfl) rfl (q_gtr rfl rfl rfl) ?_
      refine QChain.run rfl (.plain rfl) rfl (q_assign rfl rfl) ?_
      exact QChain.nil _ _
    refine (show SOps _ _ _ [] _ _ from ?_)
    refine SOps.sub (st' := ⟨[(0, .c (.vec a0_l.length 7 (gL cSCurtail dSCurtail a0_l))), (3, .c (.ptr 0 0)), (7, .c (.int .i64 i_4)), (54, .c (.bool (decide ((a0_l.getD i_4.toNat dSCurtail).Version < a1_c.Version))))], [.box [.str a1_c.Name, .int .i64 a1_c.Version, .int .i64 a1_c.Feeder, .int .i64 a1_c.Span_From, .int .i64 a1_c.Span_To, .int .i64 a1_c.Total, .bool a1_c.Cancelled]]⟩) (sub_gen [0] rfl rfl ⟨zc rfl rfl, zc rfl rfl, zc rfl rfl, zc rfl rfl, trivial⟩ ⟨⟨_, rfl, ⟨ii rfl rfl, ii rfl rfl, ii rfl rfl, ii rfl rfl, ii rfl rfl, ii rfl rfl, ii rfl rfl, trivial⟩⟩, trivial⟩) ?_
    refine SOps.nil ?_
    rcases cond_out h with ⟨g10, h⟩ | ⟨g10, h⟩
    · refine SCode.cond_t rfl g10 ?_
      refine SCode.seq ?_
      obtain ⟨c_11, g12, h⟩ := bind_out h
      try dsimp only at h
      refine SCode.region (show SOps _ _ _ [0, 1, 2, 3, 4, 5] _ _ from ?_)
      refine SOps.q rfl (.plain rfl) rfl (q_move rfl rfl) ?_
      refine SOps.q rfl (.plain rfl) rfl (q_move rfl rfl) ?_
      refine SOps.q rfl (.plain rfl) rfl (q_load_ptr_all rfl rfl rfl rfl rfl ty25) ?_
      refine SOps.q rfl (.plain rfl) rfl (q_call (curtail_replace_ok F a0_l i_4 a1_c c_11 g12) [] rfl fn25 ⟨⟨_, rfl, .inl ⟨rfl, rfl⟩⟩, ⟨_, rfl, .inl ⟨rfl, rfl⟩⟩, ⟨rfl, rfl⟩, trivial⟩ (.inl rfl)) ?_
      refine SOps.q rfl (.plain rfl) rfl (q_assign rfl rfl) ?_
      refine SOps.q rfl (.plain rfl) rfl (q_assign rfl rfl) ?_
      refine SOps.sub (st' := ⟨[(4, .c (.vec c_11.length 7 (gL cSCurtail dSCurtail c_11))), (5, .c (.int .i64 0))], []⟩) (sub_gen [] rfl rfl ⟨zc rfl rfl, zc rfl rfl, trivial⟩ trivial) ?_
      refine SOps.nil ?_
      refine SCode.ret ?_
      obtain rfl := Option.some.inj h
      exact ⟨⟨[(4, .c (.vec c_11.length 7 (gL cSCurtail dSCurtail c_11))), (5, .c (.int .i64 0))], []⟩, _, sub_gen [] rfl rfl ⟨zc rfl rfl, zc rfl rfl, trivial⟩ trivial, resA2 (v1 := .c (.vec c_11.length 7 (gL cSCurtail dSCurtail c_11))) (v2 := .c (.int .i64 0)) rfl rfl rfl, rfl⟩
    refine SCode.cond_f rfl g10 ?_
    refine SCode.seq ?_
    obtain ⟨g13, h⟩ := guard_out h
    refine SCode.draw (s' := [(67, .c (.bool ((xor true (sEq a1_c.Name ((a0_l.getD i_4.toNat dSCurtail).Name) && (decide (a1_c.Version = (a0_l.getD i_4.toNat dSCurtail).Version) && (decide (a1_c.Feeder = (a0_l.getD i_4.toNat dSCurtail).Feeder) && (decide (a1_c.Span_From = (a0_l.getD i_4.toNat dSCurtail).Span_From) && (decide (a1_c.Span_To = (a0_l.getD i_4.toNat dSCurtail).Span_To) && (decide (a1_c.Total = (a0_l.getD i_4.toNat dSCurtail).Total) && ((a1_c.Cancelled == (a0_l.getD i_4.toNat dSCurtail).Cancelled) && true))))))))))), (73, .c (.bool ((xor true (sEq a1_c.Name ((a0_l.getD i_4.toNat dSCurtail).Name) && (decide (a1_c.Version = (a0_l.getD i_4.toNat dSCurtail).Version) && (decide (a1_c.Feeder = (a0_l.getD i_4.toNat dSCurtail).Feeder) && (decide (a1_c.Span_From = (a0_l.getD i_4.toNat dSCurtail).Span_From) && (decide (a1_c.Span_To = (a0_l.getD i_4.toNat dSCurtail).Span_To) && (decide (a1_c.Total = (a0_l.getD i_4.toNat dSCurtail).Total) && ((a1_c.Cancelled == (a0_l.getD i_4.toNat dSCurtail).Cancelled) && true))))))))))), (72, .a [.str ((a0_l.getD i_4.toNat dSCurtail).Name), .int .i64 ((a0_l.getD i_4.toNat dSCurtail).Version), .int .i64 ((a0_l.getD i_4.toNat dSCurtail).Feeder), .int .i64 ((a0_l.getD i_4.toNat dSCurtail).Span_From), .int .i64 ((a0_l.getD i_4.toNat dSCurtail).Span_To), .int .i64 ((a0_l.getD i_4.toNat dSCurtail).Total), .bool ((a0_l.getD i_4.toNat dSCurtail).Cancelled)]), (71, .c (.eptr 7 (cSCurtail (a0_l.getD i_4.toNat dSCurtail)) 0)), (70, .c (.int .i64 i_4)), (69, .c (.vec a0_l.length 7 (gL cSCurtail dSCurtail a0_l))), (68, .a [.str a1_c.Name, .int .i64 a1_c.Version, .int .i64 a1_c.Feeder, .int .i64 a1_c.Span_From, .int .i64 a1_c.Span_To, .int .i64 a1_c.Total, .bool a1_c.Cancelled]), (0, .c (.vec a0_l.length 7 (gL cSCurtail dSCurtail a0_l))), (3, .c (.ptr 0 0)), (7, .c (.int .i64 i_4)), (54, .c (.bool (decide ((a0_l.getD i_4.toNat dSCurtail).Version < a1_c.Version))))]) mixed [[], [], [], [1, 2], [1, 2, 3], [0, 1, 2, 3, 4], [0, 1, 2, 3, 4, 5]] 7 0 rfl rfl ?_ ?_
    · refine QChain.run rfl (.plain rfl) rfl (q_load_ptr_all rfl rfl rfl rfl rfl ty25) ?_
      refine QChain.run rfl (.plain rfl) rfl (q_move rfl rfl) ?_
      refine QChain.run rfl (.plain rfl) rfl (q_move rfl rfl) ?_
      refine QChain.run rfl (.plain rfl) rfl (q_index_vec rfl rfl rfl sl34 rfl g13.1 g13.2) ?_
      refine QChain.run rfl (.plain rfl) rfl (q_load_eptr_all rfl rfl rfl ty25) ?_
      refine QChain.run rfl (.plain rfl) rfl (q_eqAgg (neg := true) rfl (.inr rfl) rfl rfl eqt25 rfl) ?_
      refine QChain.run rfl (.plain rfl) rfl (q_assign rfl rfl) ?_
      exact QChain.nil _ _
    refine (show SOps _ _ _ [] _ _ from ?_)
    refine SOps.sub (st' := ⟨[(0, .c (.vec a0_l.length 7 (gL cSCurtail dSCurtail a0_l))), (67, .c (.bool ((xor true (sEq a1_c.Name ((a0_l.getD i_4.toNat dSCurtail).Name) && (decide (a1_c.Version = (a0_l.getD i_4.toNat dSCurtail).Version) && (decide (a1_c.Feeder = (a0_l.getD i_4.toNat dSCurtail).Feeder) && (decide (a1_c.Span_From = (a0_l.getD i_4.toNat dSCurtail).Span_From) && (decide (a1_c.Span_To = (a0_l.getD i_4.toNat dSCurtail).Span_To) && (decide (a1_c.Total = (a0_l.getD i_4.toNat dSCurtail).Total) && ((a1_c.Cancelled == (a0_l.getD i_4.toNat dSCurtail).Cancelled) && true)))))))))))], []⟩) (sub_gen [] rfl rfl ⟨zc rfl rfl, zc rfl rfl, trivial⟩ trivial) ?_
    refine SOps.nil ?_
    rcases cond_out h with ⟨g14, h⟩ | ⟨g14, h⟩
    · refine SCode.cond_t rfl g14 ?_
      refine SCode.seq ?_
      refine SCode.region (show SOps _ _ _ [0, 1, 2] _ _ from ?_)
      refine SOps.q rfl (.plain rfl) rfl (q_move rfl rfl) ?_
      refine SOps.q rfl (.plain rfl) rfl (q_assign rfl rfl) ?_
      refine SOps.q rfl (.plain rfl) rfl (q_assign rfl rfl) ?_
      refine SOps.sub (st' := ⟨[(4, .c (.vec a0_l.length 7 (gL cSCurtail dSCurtail a0_l))), (5, .c (.int .i64 23))], []⟩) (sub_gen [] rfl rfl ⟨zc rfl rfl, zc rfl rfl, trivial⟩ trivial) ?_
      refine SOps.nil ?_
      refine SCode.ret ?_
      obtain rfl := Option.some.inj h
      exact ⟨⟨[(4, .c (.vec a0_l.length 7 (gL cSCurtail dSCurtail a0_l))), (5, .c (.int .i64 23))], []⟩, _, sub_gen [] rfl rfl ⟨zc rfl rfl, zc rfl rfl, trivial⟩ trivial, resA2 (v1 := .c (.vec a0_l.length 7 (gL cSCurtail dSCurtail a0_l))) (v2 := .c (.int .i64 23)) rfl rfl rfl, rfl⟩
    refine SCode.cond_f rfl g14 ?_
    refine SCode.skip ?_
    refine SCode.seq ?_
    refine SCode.region (show SOps _ _ _ [0, 1, 2] _ _ from ?_)
    refine SOps.q rfl (.plain rfl) rfl (q_move rfl rfl) ?_
    refine SOps.q rfl (.plain rfl) rfl (q_assign rfl rfl) ?_
    refine SOps.q rfl (.plain rfl) rfl (q_assign rfl rfl) ?_
    refine SOps.sub (st' := ⟨[(4, .c (.vec a0_l.length 7 (gL cSCurtail dSCurtail a0_l))), (5, .c (.int .i64 0))], []⟩) (sub_gen [] rfl rfl ⟨zc rfl rfl, zc rfl rfl, trivial⟩ trivial) ?_
    refine SOps.nil ?_
    refine SCode.ret ?_
    obtain rfl := Option.some.inj h
    exact ⟨⟨[(4, .c (.vec a0_l.length 7 (gL cSCurtail dSCurtail a0_l))), (5, .c (.int .i64 0))], []⟩, _, sub_gen [] rfl rfl ⟨zc rfl rfl, zc rfl rfl, trivial⟩ trivial, resA2 (v1 := .c (.vec a0_l.length 7 (gL cSCurtail dSCurtail a0_l))) (v2 := .c (.int .i64 0)) rfl rfl rfl, rfl⟩
  refine SCode.cond_f rfl g6 ?_
  refine SCode.skip ?_
  refine SCode.seq ?_
  refine SCode.seq ?_
  refine SCode.region (show SOps _ _ _ [0, 1, 2] _ _ from ?_)
  refine SOps.q rfl (.plain rfl) rfl (q_move rfl rfl) ?_
  refine SOps.q rfl (.plain rfl) rfl (q_len_vec rfl rfl sl34) ?_
  refine SOps.q rfl (.plain rfl) rfl (q_geq rfl rfl rfl) ?_
  refine SOps.sub (st' := ⟨[(0, .c (.vec a0_l.length 7 (gL cSCurtail dSCurtail a0_l))), (3, .c (.ptr 0 0)), (7, .c (.int .i64 i_4)), (78, .c (.bool (decide (64 ≤ ((a0_l).length : Int)))))], [.box [.str a1_c.Name, .int .i64 a1_c.Version, .int .i64 a1_c.Feeder, .int .i64 a1_c.Span_From, .int .i64 a1_c.Span_To, .int .i64 a1_c.Total, .bool a1_c.Cancelled]]⟩) (sub_gen [0] rfl rfl ⟨zc rfl rfl, zc rfl rfl, zc rfl rfl, zc rfl rfl, trivial⟩ ⟨⟨_, rfl, ⟨ii rfl rfl, ii rfl rfl, ii rfl rfl, ii rfl rfl, ii rfl rfl, ii rfl rfl, ii rfl rfl, trivial⟩⟩, trivial⟩) ?_
  refine SOps.nil ?_
  rcases cond_out h with ⟨g15, h⟩ | ⟨g15, h⟩
  · refine SCode.cond_t rfl g15 ?_
    refine SCode.seq ?_
    refine SCode.region (show SOps _ _ _ [0, 1, 2] _ _ from ?_)
    refine SOps.q rfl (.plain rfl) rfl (q_move rfl rfl) ?_
    refine SOps.q rfl (.plain rfl) rfl (q_assign rfl rfl) ?_
    refine SOps.q rfl (.plain rfl) rfl (q_assign rfl rfl) ?_
    refine SOps.sub (st' := ⟨[(4, .c (.vec a0_l.length 7 (gL cSCurtail dSCurtail a0_l))), (5, .c (.int .i64 3))], []⟩) (sub_gen [] rfl rfl ⟨zc rfl rfl, zc rfl rfl, trivial⟩ trivial) ?_
    refine SOps.nil ?_
    refine SCode.ret ?_
    obtain rfl := Option.some.inj h
    exact ⟨⟨[(4, .c (.vec a0_l.length 7 (gL cSCurtail dSCurtail a0_l))), (5, .c (.int .i64 3))], []⟩, _, sub_gen [] rfl rfl ⟨zc rfl rfl, zc rfl rfl, trivial⟩ trivial, resA2 (v1 := .c (.vec a0_l.length 7 (gL cSCurtail dSCurtail a0_l))) (v2 := .c (.int .i64 3)) rfl rfl rfl, rfl⟩
  refine SCode.cond_f rfl g15 ?_
  refine SCode.skip ?_
  refine SCode.seq ?_
  obtain ⟨c_16, g17, h⟩ := bind_out h
  try dsimp only at h
  refine SCode.region (show SOps _ _ _ [0, 1, 2, 3, 4, 5] _ _ from ?_)
  refine SOps.q rfl (.plain rfl) rfl (q_move rfl rfl) ?_
  refine SOps.q rfl (.plain rfl) rfl (q_move rfl rfl) ?_
  refine SOps.q rfl (.plain rfl) rfl (q_load_ptr_all rfl rfl rfl rfl rfl ty25) ?_
  refine SOps.q rfl (.plain rfl) rfl (q_call (curtail_insert_ok F a0_l i_4 a1_c c_16 g17) [] rfl fn26 ⟨⟨_, rfl, .inl ⟨rfl, rfl⟩⟩, ⟨_, rfl, .inl ⟨rfl, rfl⟩⟩, ⟨rfl, rfl⟩, trivial⟩ (.inl rfl)) ?_
  refine SOps.q rfl (.plain rfl) rfl (q_assign rfl rfl) ?_
  refine SOps.q rfl (.plain rfl) rfl (q_assign rfl rfl) ?_
  refine SOps.sub (st' := ⟨[(4, .c (.vec c_16.length 7 (gL cSCurtail dSCurtail c_16))), (5, .c (.int .i64 0))], []⟩) (sub_gen [] rfl rfl ⟨zc rfl rfl, zc rfl rfl, trivial⟩ trivial) ?_
  refine SOps.nil ?_
  refine SCode.ret ?_
  obtain rfl := Option.some.inj h
  exact ⟨⟨[(4, .c (.vec c_16.length 7 (gL cSCurtail dSCurtail c_16))), (5, .c (.int .i64 0))], []⟩, _, sub_gen [] rfl rfl ⟨zc rfl rfl, zc rfl rfl, trivial⟩ trivial, resA2 (v1 := .c (.vec c_16.length 7 (gL cSCurtail dSCurtail c_16))) (v2 := .c (.int .i64 0)) rfl rfl rfl, rfl⟩
set_option maxRecDepth 100000 in
set_option maxHeartbeats 8000000 in
theorem slices_Equal_api_Curtail_api_Curtail_ok (F : Nat) (a0_s1 : List SCurtail) (a1_s2 : List SCurtail) (r : Bool) (h : slices_Equal_api_Curtail_api_Curtail F a0_s1 a1_s2 = some r) :
    SFun Try.prog 14 [] [.c (.vec a0_s1.length 7 (gL cSCurtail dSCurtail a0_s1)), .c (.vec a1_s2.length 7 (gL cSCurtail dSCurtail a1_s2))] (fun x _ => x = .c (.bool r)) := by
  refine SFun.of (n := 26) Try.func14 rfl rfl rfl ?_
  unfold slices_Equal_api_Curtail_api_Curtail at h
  show SCode _ _ _ ⟨[(0, .c (.vec a0_s1.length 7 (gL cSCurtail dSCurtail a0_s1))), (1, .c (.vec a1_s2.length 7 (gL cSCurtail dSCurtail a1_s2)))], []⟩ _
  refine SCode.seq ?_
  refine SCode.region (show SOps _ _ _ [0] _ _ from ?_)
  refine SOps.q rfl (.plain rfl) rfl (q_assign rfl rfl) ?_
  refine SOps.sub (st' := ⟨[(0, .c (.vec a0_s1.length 7 (gL cSCurtail dSCurtail a0_s1))), (1, .c (.vec a1_s2.length 7 (gL cSCurtail dSCurtail a1_s2)))], []⟩) (sub_gen [] rfl rfl ⟨zc rfl rfl, zc rfl rfl, trivial⟩ trivial) ?_
  refine SOps.nil ?_
  refine SCode.seq ?_
  refine SCode.seq ?_
  refine SCode.region (show SOps _ _ _ [0, 1, 2, 3, 4] _ _ from ?_)
  refine SOps.q rfl (.plain rfl) rfl (q_move rfl rfl) ?_
  refine SOps.q rfl (.plain rfl) rfl (q_len_vec rfl rfl sl34) ?_
  refine SOps.q rfl (.plain rfl) rfl (q_move rfl rfl) ?_
  refine SOps.q rfl (.plain rfl) rfl (q_len_vec rfl rfl sl34) ?_
  refine SOps.q rfl (.plain rfl) rfl (q_neq rfl rfl rfl) ?_
  refine SOps.sub (st' := ⟨[(0, .c (.vec a0_s1.length 7 (gL cSCurtail dSCurtail a0_s1))), (1, .c (.vec a1_s2.length 7 (gL cSCurtail dSCurtail a1_s2))), (10, .c (.bool ((!decide (((a0_s1).length : Int) = ((a1_s2).length : Int))))))], []⟩) (sub_gen [] rfl rfl ⟨zc rfl rfl, zc rfl rfl, zc rfl rfl, trivial⟩ trivial) ?_
  refine SOps.nil ?_
  rcases cond_out h with ⟨g1, h⟩ | ⟨g1, h⟩
  · refine SCode.cond_t rfl g1 ?_
    refine SCode.seq ?_
    refine SCode.region (show SOps _ _ _ [0] _ _ from ?_)
    refine SOps.q rfl (.plain rfl) rfl (q_assign rfl rfl) ?_
    refine SOps.sub (st' := ⟨[(4, .c (.bool false))], []⟩) (sub_gen [] rfl rfl ⟨zc rfl rfl, trivial⟩ trivial) ?_
    refine SOps.nil ?_
    refine SCode.ret ?_
    obtain rfl := Option.some.inj h
    exact ⟨⟨[(4, .c (.bool false))], []⟩, _, sub_gen [] rfl rfl ⟨zc rfl rfl, trivial⟩ trivial, resA1 (v := .c (.bool false)) rfl rfl, rfl⟩
  refine SCode.cond_f rfl g1 ?_
  refine SCode.skip ?_
  refine SCode.join (σ := Unit) (S := fun s => ⟨[], []⟩) (g := fun s => slices_Equal_api_Curtail_api_Curtail_p2 = some r) ?_ ?_
  rotate_left
  · refine SCode.seq ?_
    refine SCode.region (show SOps _ _ _ [0, 1, 2] _ _ from ?_)
    refine SOps.q rfl (.plain rfl) rfl (q_move rfl rfl) ?_
    refine SOps.q rfl (.plain rfl) rfl (q_len_vec rfl rfl sl34) ?_
    refine SOps.q rfl (.plain rfl) rfl (q_move rfl rfl) ?_
    refine SOps.sub (st' := ⟨[(0, .c (.vec a0_s1.length 7 (gL cSCurtail dSCurtail a0_s1))), (1, .c (.vec a1_s2.length 7 (gL cSCurtail dSCurtail a1_s2))), (12, .c (.int .i64 (((a0_s1).length : Int)))), (13, .c (.int .i64 0))], []⟩) (sub_gen [] rfl rfl ⟨zc rfl rfl, zc rfl rfl, zc rfl rfl, zc rfl rfl, trivial⟩ trivial) ?_
    refine SOps.nil ?_
    refine SCode.block ?_
    refine SCode.sub (st' := ⟨[(0, .c (.vec a0_s1.length 7 (gL cSCurtail dSCurtail a0_s1))), (1, .c (.vec a1_s2.length 7 (gL cSCurtail dSCurtail a1_s2))), (12, .c (.int .i64 (((a0_s1).length : Int)))), (13, .c (.int .i64 0))], []⟩) (sub_gen [] rfl rfl ⟨zc rfl rfl, zc rfl rfl, zc rfl rfl, zc rfl rfl, trivial⟩ trivial) ?_
    refine (SCode.loop (σ := Nat × Int) (S := fun s => ⟨[(0, .c (.vec a0_s1.length 7 (gL cSCurtail dSCurtail a0_s1))), (1, .c (.vec a1_s2.length 7 (gL cSCurtail dSCurtail a1_s2))), (12, .c (.int .i64 (((a0_s1).length : Int)))), (13, .c (.int .i64 s.2))], []⟩) (g := fun s => slices_Equal_api_Curtail_api_Curtail_l12 a0_s1 a1_s2 s.1 s.2 = some r) (μ := fun s => s.1) (F, 0) h ?_)
    rintro ⟨n_12, t13_7⟩ h
    replace h : slices_Equal_api_Curtail_api_Curtail_l12 a0_s1 a1_s2 n_12 t13_7 = some r := h
    show SCode _ _ _ ⟨[(0, .c (.vec a0_s1.length 7 (gL cSCurtail dSCurtail a0_s1))), (1, .c (.vec a1_s2.length 7 (gL cSCurtail dSCurtail a1_s2))), (12, .c (.int .i64 (((a0_s1).length : Int)))), (13, .c (.int .i64 t13_7))], []⟩ _
    cases n_12 with
    | zero => cases h
    | succ n_12 =>
      replace h : slices_Equal_api_Curtail_api_Curtail_b12 a0_s1 a1_s2 (fun t13_7 => slices_Equal_api_Curtail_api_Curtail_l12 a0_s1 a1_s2 n_12 t13_7) t13_7 = some r := h
      unfold slices_Equal_api_Curtail_api_Curtail_b12 at h
      refine SCode.seq ?_
      refine SCode.region (show SOps _ _ _ [0] _ _ from ?_)
      refine SOps.q rfl (.plain rfl) rfl (q_lss rfl rfl rfl) ?_
      refine SOps.sub (st' := ⟨[(0, .c (.vec a0_s1.length 7 (gL cSCurtail dSCurtail a0_s1))), (1, .c (.vec a1_s2.length 7 (gL cSCurtail dSCurtail a1_s2))), (12, .c (.int .i64 (((a0_s1).length : Int)))), (13, .c (.int .i64 t13_7)), (14, .c (.bool (decide (t13_7 < ((a0_s1).length : Int)))))], []⟩) (sub_gen [] rfl rfl ⟨zc rfl rfl, zc rfl rfl, zc rfl rfl, zc rfl rfl, zc rfl rfl, trivial⟩ trivial) ?_
      refine SOps.nil ?_
      refine SCode.seq ?_
      rcases cond_out h with ⟨g13, h⟩ | ⟨g13, h⟩
      · refine SCode.cond_t rfl g13 ?_
        refine SCode.skip ?_
        refine SCode.seq ?_
        refine SCode.block ?_
        refine SCode.seq ?_
        refine SCode.region (show SOps _ _ _ [0, 1] _ _ from ?_)
        refine SOps.q rfl (.plain rfl) rfl (q_move rfl rfl) ?_
        refine SOps.q rfl (.plain rfl) rfl (q_assign rfl rfl) ?_
        refine SOps.sub (st' := ⟨[(0, .c (.vec a0_s1.length 7 (gL cSCurtail dSCurtail a0_s1))), (1, .c (.vec a1_s2.length 7 (gL cSCurtail dSCurtail a1_s2))), (5, .c (.int .i64 t13_7)), (12, .c (.int .i64 (((a0_s1).length : Int)))), (13, .c (.int .i64 t13_7))], []⟩) (sub_gen [] rfl rfl ⟨zc rfl rfl, zc rfl rfl, zc rfl rfl, zc rfl rfl, zc rfl rfl, trivial⟩ trivial) ?_
        refine SOps.nil ?_
        refine SCode.seq ?_
        obtain ⟨g14, h⟩ := guard_out h
        obtain ⟨g15, h⟩ := guard_out h
        refine SCode.draw (s' := [(24, .c (.bool ((xor true (sEq ((a0_s1.getD t13_7.toNat dSCurtail).Name) ((a1_s2.getD t13_7.toNat dSCurtail).Name) && (decide ((a0_s1.getD t13_7.toNat dSCurtail).Version = (a1_s2.getD t13_7.toNat dSCurtail).Version) && (decide ((a0_s1.getD t13_7.toNat dSCurtail).Feeder = (a1_s2.getD t13_7.toNat dSCurtail).Feeder) && (decide ((a0_s1.getD t13_7.toNat dSCurtail).Span_From = (a1_s2.getD t13_7.toNat dSCurtail).Span_From) && (decide ((a0_s1.getD t13_7.toNat dSCurtail).Span_To = (a1_s2.getD t13_7.toNat dSCurtail).Span_To) && (decide ((a0_s1.getD t13_7.toNat dSCurtail).Total = (a1_s2.getD t13_7.toNat dSCurtail).Total) && (((a0_s1.getD t13_7.toNat dSCurtail).Cancelled == (a1_s2.getD t13_7.toNat dSCurtail).Cancelled) && true))))))))))), (23, .a [.str ((a1_s2.getD t13_7.toNat dSCurtail).Name), .int .i64 ((a1_s2.getD t13_7.toNat dSCurtail).Version), .int .i64 ((a1_s2.getD t13_7.toNat dSCurtail).Feeder), .int .i64 ((a1_s2.getD t13_7.toNat dSCurtail).Span_From), .int .i64 ((a1_s2.getD t13_7.toNat dSCurtail).Span_To), .int .i64 ((a1_s2.getD t13_7.toNat dSCurtail).Total), .bool ((a1_s2.getD t13_7.toNat dSCurtail).Cancelled)]), (22, .c (.eptr 7 (cSCurtail (a1_s2.getD t13_7.toNat dSCurtail)) 0)), (21, .c (.int .i64 t13_7)), (20, .c (.vec a1_s2.length 7 (gL cSCurtail dSCurtail a1_s2))), (19, .a [.str ((a0_s1.getD t13_7.toNat dSCurtail).Name), .int .i64 ((a0_s1.getD t13_7.toNat dSCurtail).Version), .int .i64 ((a0_s1.getD t13_7.toNat dSCurtail).Feeder), .int .i64 ((a0_s1.getD t13_7.toNat dSCurtail).Span_From), .int .i64 ((a0_s1.getD t13_7.toNat dSCurtail).Span_To), .int .i64 ((a0_s1.getD t13_7.toNat dSCurtail).Total), .bool ((a0_s1.getD t13_7.toNat dSCurtail).Cancelled)]), (18, .c (.eptr 7 (cSCurtail (a0_s1.getD t13_7.toNat dSCurtail)) 0)), (17, .c (.int .i64 t13_7)), (16, .c (.vec a0_s1.length 7 (gL cSCurtail dSCurtail a0_s1))), (0, .c (.vec a0_s1.length 7 (gL cSCurtail dSCurtail a0_s1))), (1, .c (.vec a1_s2.length 7 (gL cSCurtail dSCurtail a1_s2))), (5, .c (.int .i64 t13_7)), (12, .c (.int .i64 (((a0_s1).length : Int)))), (13, .c (.int .i64 t13_7))]) mixed [[], [], [0, 1], [0, 1, 2], [], [], [4, 5], [4, 5, 6], [0, 1, 2, 3, 4, 5, 6, 7]] 9 0 rfl rfl ?_ ?_
        · refine QChain.run rfl (.plain rfl) rfl (q_move rfl rfl) ?_
          refine QChain.run rfl (.plain rfl) rfl (q_move rfl rfl) ?_
          refine QChain.run rfl (.plain rfl) rfl (q_index_vec rfl rfl rfl sl34 rfl g14.1 g14.2) ?_
          refine QChain.run rfl (.plain rfl) rfl (q_load_eptr_all rfl rfl rfl ty25) ?_
          refine QChain.run rfl (.plain rfl) rfl (q_move rfl rfl) ?_
          refine QChain.run rfl (.plain rfl) rfl (q_move rfl rfl) ?_
          refine QChain.run rfl (.plain rfl) rfl (q_index_vec rfl rfl rfl sl34 rfl g15.1 g15.2) ?_
          refine QChain.run rfl (.plain rfl) rfl (q_load_eptr_all rfl rfl rfl ty25) ?_
          refine QChain.run rfl (.plain rfl) rfl (q_eqAgg (neg := true) rfl (.inr rfl) rfl rfl eqt25 rfl) ?_
          exact QChain.nil _ _
        refine (show SOps _ _ _ [] _ _ from ?_)
        refine SOps.sub (st' := ⟨[(0, .c (.vec a0_s1.length 7 (gL cSCurtail dSCurtail a0_s1))), (1, .c (.vec a1_s2.length 7 (gL cSCurtail dSCurtail a1_s2))), (12, .c (.int .i64 (((a0_s1).length : Int)))), (13, .c (.int .i64 t13_7)), (24, .c (.bool ((xor true (sEq ((a0_s1.getD t13_7.toNat dSCurtail).Name) ((a1_s2.getD t13_7.toNat dSCurtail).Name) && (decide ((a0_s1.getD t13_7.toNat dSCurtail).Version = (a1_s2.getD t13_7.toNat dSCurtail).Version) && (decide ((a0_s1.getD t13_7.toNat dSCurtail).Feeder = (a1_s2.getD t13_7.toNat dSCurtail).Feeder) && (decide ((a0_s1.getD t13_7.toNat dSCurtail).Span_From = (a1_s2.getD t13_7.toNat dSCurtail).Span_From) && (decide ((a0_s1.getD t13_7.toNat dSCurtail).Span_To = (a1_s2.getD t13_7.toNat dSCurtail).Span_To) && (decide ((a0_s1.getD t13_7.toNat dSCurtail).Total = (a1_s2.getD t13_7.toNat dSCurtail).Total) && (((a0_s1.getD t13_7.toNat dSCurtail).Cancelled == (a1_s2.getD t13_7.toNat dSCurtail).Cancelled) && true)))))))))))], []⟩) (sub_gen [] rfl rfl ⟨zc rfl rfl, zc rfl rfl, zc rfl rfl, zc rfl rfl, zc rfl rfl, trivial⟩ trivial) ?_
        refine SOps.nil ?_
        rcases cond_out h with ⟨g16, h⟩ | ⟨g16, h⟩
        · refine SCode.cond_t rfl g16 ?_
          refine SCode.seq ?_
          refine SCode.region (show SOps _ _ _ [0] _ _ from ?_)
          refine SOps.q rfl (.plain rfl) rfl (q_assign rfl rfl) ?_
          refine SOps.sub (st' := ⟨[(4, .c (.bool false))], []⟩) (sub_gen [] rfl rfl ⟨zc rfl rfl, trivial⟩ trivial) ?_
          refine SOps.nil ?_
          refine SCode.ret ?_
          obtain rfl := Option.some.inj h
          exact ⟨⟨[(4, .c (.bool false))], []⟩, _, sub_gen [] rfl rfl ⟨zc rfl rfl, trivial⟩ trivial, resA1 (v := .c (.bool false)) rfl rfl, rfl⟩
        refine SCode.cond_f rfl g16 ?_
        refine SCode.skip ?_
        refine SCode.region (show SOps _ _ _ [0, 1] _ _ from ?_)
        refine SOps.q rfl (.plain rfl) rfl (q_add rfl rfl rfl) ?_
        refine SOps.q rfl (.plain rfl) rfl (q_move rfl rfl) ?_
        refine SOps.sub (st' := ⟨[(0, .c (.vec a0_s1.length 7 (gL cSCurtail dSCurtail a0_s1))), (1, .c (.vec a1_s2.length 7 (gL cSCurtail dSCurtail a1_s2))), (12, .c (.int .i64 (((a0_s1).length : Int)))), (13, .c (.int .i64 (IntKind.wrap .i64 (t13_7 + 1))))], []⟩) (sub_gen [] rfl rfl ⟨zc rfl rfl, zc rfl rfl, zc rfl rfl, zc rfl rfl, trivial⟩ trivial) ?_
        refine SOps.nil ?_
        exact ⟨(n_12, IntKind.wrap .i64 (t13_7 + 1)), h, Nat.lt_succ_self n_12, sub_gen [] rfl rfl ⟨zc rfl rfl, zc rfl rfl, zc rfl rfl, zc rfl rfl, trivial⟩ trivial⟩
      refine SCode.cond_f rfl g13 ?_
      refine SCode.exit ?_
      exact ⟨(), h, sub_gen [] rfl rfl trivial trivial⟩
  rintro ⟨⟩ h
  show SCode _ _ _ ⟨[], []⟩ _
  replace h : slices_Equal_api_Curtail_api_Curtail_p2 = some r := h
  unfold slices_Equal_api_Curtail_api_Curtail_p2 at h
  refine SCode.seq ?_
  refine SCode.region (show SOps _ _ _ [0] _ _ from ?_)
  refine SOps.q rfl (.plain rfl) rfl (q_assign rfl rfl) ?_
  refine SOps.sub (st' := ⟨[(4, .c (.bool true))], []⟩) (sub_gen [] rfl rfl ⟨zc rfl rfl, trivial⟩ trivial) ?_
  refine SOps.nil ?_
  refine SCode.ret ?_
  obtain rfl := Option.some.inj h
  exact ⟨⟨[(4, .c (.bool true))], []⟩, _, sub_gen [] rfl rfl ⟨zc rfl rfl, trivial⟩ trivial, resA1 (v := .c (.bool true)) rfl rfl, rfl⟩
set_option maxRecDepth 100000 in
set_option maxHeartbeats 8000000 in
theorem curtail_At_ok (F : Nat) (a0_l : List SCurtail) (a1_feeder : Int) (a2_t : Int) (r : Int) (h : curtail_At F a0_l a1_feeder a2_t = some r) :
    SFun Try.prog 16 [] [.c (.vec a0_l.length 7 (gL cSCurtail dSCurtail a0_l)), .c (.int .i64 a1_feeder), .c (.int .i64 a2_t)] (fun x _ => x = .c (.int .i64 r)) := by
  refine SFun.of (n := 45) Try.func16 rfl rfl rfl ?_
  unfold curtail_At at h
  show SCode _ _ _ ⟨[(0, .c (.vec a0_l.length 7 (gL cSCurtail dSCurtail a0_l))), (1, .c (.int .i64 a1_feeder)), (2, .c (.int .i64 a2_t))], []⟩ _
  refine SCode.seq ?_
  refine SCode.region (show SOps _ _ _ [0] _ _ from ?_)
  refine SOps.q rfl (.plain rfl) rfl (q_assign rfl rfl) ?_
  refine SOps.sub (st' := ⟨[(0, .c (.vec a0_l.length 7 (gL cSCurtail dSCurtail a0_l))), (1, .c (.int .i64 a1_feeder)), (2, .c (.int .i64 a2_t))], []⟩) (sub_gen [] rfl rfl ⟨zc rfl rfl, zc rfl rfl, zc rfl rfl, trivial⟩ trivial) ?_
  refine SOps.nil ?_
  refine SCode.seq ?_
  refine SCode.region (show SOps _ _ _ [0] _ _ from ?_)
  refine SOps.q rfl (.plain rfl) rfl (q_assign rfl rfl) ?_
  refine SOps.sub (st' := ⟨[(0, .c (.vec a0_l.length 7 (gL cSCurtail dSCurtail a0_l))), (1, .c (.int .i64 a1_feeder)), (2, .c (.int .i64 a2_t)), (7, .c (.int .i64 1073741824))], []⟩) (sub_gen [] rfl rfl ⟨zc rfl rfl, zc rfl rfl, zc rfl rfl, zc rfl rfl, trivial⟩ trivial) ?_
  refine SOps.nil ?_
  refine SCode.join (σ := Int) (S := fun s => ⟨[(7, .c (.int .i64 s))], []⟩) (g := fun s => curtail_At_p2 s = some r) ?_ ?_
  rotate_left
  · refine SCode.seq ?_
    refine SCode.region (show SOps _ _ _ [0, 1, 2] _ _ from ?_)
    refine SOps.q rfl (.plain rfl) rfl (q_move rfl rfl) ?_
    refine SOps.q rfl (.plain rfl) rfl (q_len_vec rfl rfl sl34) ?_
    refine SOps.q rfl (.plain rfl) rfl (q_move rfl rfl) ?_
    refine SOps.sub (st' := ⟨[(1, .c (.int .i64 a1_feeder)), (2, .c (.int .i64 a2_t)), (7, .c (.int .i64 1073741824)), (10, .c (.vec a0_l.length 7 (gL cSCurtail dSCurtail a0_l))), (11, .c (.int .i64 (((a0_l).length : Int)))), (12, .c (.int .i64 0))], []⟩) (sub_gen [] rfl rfl ⟨zc rfl rfl, zc rfl rfl, zc rfl rfl, zc rfl rfl, zc rfl rfl, zc rfl rfl, trivial⟩ trivial) ?_
    refine SOps.nil ?_
    refine SCode.block ?_
    refine SCode.sub (st' := ⟨[(1, .c (.int .i64 a1_feeder)), (2, .c (.int .i64 a2_t)), (7, .c (.int .i64 1073741824)), (10, .c (.vec a0_l.length 7 (gL cSCurtail dSCurtail a0_l))), (11, .c (.int .i64 (((a0_l).length : Int)))), (12, .c (.int .i64 0))], []⟩) (sub_gen [] rfl rfl ⟨zc rfl rfl, zc rfl rfl, zc rfl rfl, zc rfl rfl, zc rfl rfl, zc rfl rfl, trivial⟩ trivial) ?_
    refine (SCode.loop (σ := Nat × (Int × Int)) (S := fun s => ⟨[(1, .c (.int .i64 a1_feeder)), (2, .c (.int .i64 a2_t)), (7, .c (.int .i64 s.2.1)), (10, .c (.vec a0_l.length 7 (gL cSCurtail dSCurtail a0_l))), (11, .c (.int .i64 (((a0_l).length : Int)))), (12, .c (.int .i64 s.2.2))], []⟩) (g := fun s => curtail_At_l21 a0_l a1_feeder a2_t s.1 s.2.1 s.2.2 = some r) (μ := fun s => s.1) (F, (1073741824, 0)) h ?_)
    rintro ⟨n_21, ⟨limit_11, t12_12⟩⟩ h
    replace h : curtail_At_l21 a0_l a1_feeder a2_t n_21 limit_11 t12_12 = some r := h
    show SCode _ _ _ ⟨[(1, .c (.int .i64 a1_feeder)), (2, .c (.int .i64 a2_t)), (7, .c (.int .i64 limit_11)), (10, .c (.vec a0_l.length 7 (gL cSCurtail dSCurtail a0_l))), (11, .c (.int .i64 (((a0_l).length : Int)))), (12, .c (.int .i64 t12_12))], []⟩ _
    cases n_21 with
    | zero => cases h
    | succ n_21 =>
      replace h : curtail_At_b21 a0_l a1_feeder a2_t (fun limit_11 t12_12 => curtail_At_l21 a0_l a1_feeder a2_t n_21 limit_11 t12_12) limit_11 t12_12 = some r := h
      unfold curtail_At_b21 at h
      refine SCode.seq ?_
      refine SCode.region (show SOps _ _ _ [0] _ _ from ?_)
      refine SOps.q rfl (.plain rfl) rfl (q_lss rfl rfl rfl) ?_
      refine SOps.sub (st' := ⟨[(1, .c (.int .i64 a1_feeder)), (2, .c (.int .i64 a2_t)), (7, .c (.int .i64 limit_11)), (10, .c (.vec a0_l.length 7 (gL cSCurtail dSCurtail a0_l))), (11, .c (.int .i64 (((a0_l).length : Int)))), (12, .c (.int .i64 t12_12)), (13, .c (.bool (decide (t12_12 < ((a0_l).length : Int)))))], []⟩) (sub_gen [] rfl rfl ⟨zc rfl rfl, zc rfl rfl, zc rfl rfl, zc rfl rfl, zc rfl rfl, zc rfl rfl, zc rfl rfl, trivial⟩ trivial) ?_
      refine SOps.nil ?_
      refine SCode.seq ?_
      rcases cond_out h with ⟨g22, h⟩ | ⟨g22, h⟩
      · refine SCode.cond_t rfl g22 ?_
        refine SCode.skip ?_
        refine SCode.join (σ := Int) (S := fun s => ⟨[(1, .c (.int .i64 a1_feeder)), (2, .c (.int .i64 a2_t)), (7, .c (.int .i64 s)), (10, .c (.vec a0_l.length 7 (gL cSCurtail dSCurtail a0_l))), (11, .c (.int .i64 (((a0_l).length : Int)))), (12, .c (.int .i64 t12_12))], []⟩) (g := fun s => curtail_At_p24 t12_12 (fun limit_11 t12_12 => curtail_At_l21 a0_l a1_feeder a2_t n_21 limit_11 t12_12) s = some r) ?_ ?_
        rotate_left
        · refine SCode.block ?_
          refine SCode.seq ?_
          obtain ⟨g25, h⟩ := guard_out h
          refine SCode.region (show SOps _ _ _ [0, 1, 2, 3] _ _ from ?_)
          refine SOps.q rfl (.plain rfl) rfl (q_index_vec rfl rfl rfl sl34 rfl g25.1 g25.2) ?_
          refine SOps.q rfl (.plain rfl) rfl (q_load_eptr_all rfl rfl rfl ty25) ?_
          refine SOps.e rfl (.plain rfl) (e_alloc rfl rfl rfl z25) ?_
          refine SOps.e rfl (.plain rfl) (e_store_box rfl rfl rfl rfl rfl ty25 rfl rfl rfl rfl) ?_
          refine SOps.sub (st' := ⟨[(1, .c (.int .i64 a1_feeder)), (2, .c (.int .i64 a2_t)), (7, .c (.int .i64 limit_11)), (9, .c (.ptr 0 0)), (10, .c (.vec a0_l.length 7 (gL cSCurtail dSCurtail a0_l))), (11, .c (.int .i64 (((a0_l).length : Int)))), (12, .c (.int .i64 t12_12))], [.box [.str ((a0_l.getD t12_12.toNat dSCurtail).Name), .int .i64 ((a0_l.getD t12_12.toNat dSCurtail).Version), .int .i64 ((a0_l.getD t12_12.toNat dSCurtail).Feeder), .int .i64 ((a0_l.getD t12_12.toNat dSCurtail).Span_From), .int .i64 ((a0_l.getD t12_12.toNat dSCurtail).Span_To), .int .i64 ((a0_l.getD t12_12.toNat dSCurtail).Total), .bool ((a0_l.getD t12_12.toNat dSCurtail).Cancelled)]]⟩) (sub_gen [0] rfl rfl ⟨zc rfl rfl, zc rfl rfl, zc rfl rfl, zc rfl rfl, zc rfl rfl, zc rfl rfl, zc rfl rfl, trivial⟩ ⟨⟨_, rfl, ⟨ii rfl rfl, ii rfl rfl, ii rfl rfl, ii rfl rfl, ii rfl rfl, ii rfl rfl, ii rfl rfl, trivial⟩⟩, trivial⟩) ?_
          refine SOps.nil ?_
          refine SCode.seq ?_
          rcases cond_out h with ⟨g26, h⟩ | ⟨g26, h⟩
          · rcases cond_out h with ⟨g27, h⟩ | ⟨g27, h⟩
            · rcases cond_out h with ⟨g28, h⟩ | ⟨g28, h⟩
              · refine SCode.region (show SOps _ _ _ [0, 1, 2, 3, 4, 5, 6, 7, 8, 9, 10, 11, 12, 13, 14, 15, 16, 17, 18, 19, 20, 21, 22] _ _ from ?_)
                refine SOps.q rfl (.plain rfl) rfl (q_field_ptr rfl rfl fd25_2) ?_
                refine SOps.q rfl (.plain rfl) rfl (q_load_ptr rfl rfl rfl rfl ty3) ?_
                refine SOps.q rfl (.plain rfl) rfl (q_move rfl rfl) ?_
                refine SOps.q rfl (.plain rfl) rfl (q_eql rfl rfl rfl) ?_
                refine SOps.q rfl (.plain rfl) rfl (q_move rfl rfl) ?_
                refine SOps.q rfl (.guard 4 20 true rfl rfl (gT g26)) rfl (q_field_ptr rfl rfl fd25_5) ?_
                refine SOps.q rfl (.guard 4 20 true rfl rfl (gT g26)) rfl (q_load_ptr rfl rfl rfl rfl ty4) ?_
                refine SOps.q rfl (.guard 4 20 true rfl rfl (gT g26)) rfl (q_not rfl rfl) ?_
                refine SOps.q rfl (.plain rfl) rfl (q_pick_t rfl rfl g26 rfl) ?_
                refine SOps.q rfl (.plain rfl) rfl (q_move rfl rfl) ?_
                refine SOps.q rfl (.guard 9 25 true rfl rfl (gT g27)) rfl (q_field_ptr rfl rfl fd25_3) ?_
                refine SOps.q rfl (.guard 9 25 true rfl rfl (gT g27)) rfl (q_field_ptr rfl rfl fd23_0) ?_
                refine SOps.q rfl (.guard 9 25 true rfl rfl (gT g27)) rfl (q_load_ptr rfl rfl rfl rfl ty3) ?_
                refine SOps.q rfl (.guard 9 25 true rfl rfl (gT g27)) rfl (q_move rfl rfl) ?_
                refine SOps.q rfl (.guard 9 25 true rfl rfl (gT g27)) rfl (q_leq rfl rfl rfl) ?_
                refine SOps.q rfl (.plain rfl) rfl (q_pick_t rfl rfl g27 rfl) ?_
                refine SOps.q rfl (.plain rfl) rfl (q_move rfl rfl) ?_
                refine SOps.q rfl (.guard 16 32 true rfl rfl (gT g28)) rfl (q_move rfl rfl) ?_
                refine SOps.q rfl (.guard 16 32 true rfl rfl (gT g28)) rfl (q_field_ptr rfl rfl fd25_3) ?_
                refine SOps.q rfl (.guard 16 32 true rfl rfl (gT g28)) rfl (q_field_ptr rfl rfl fd23_1) ?_
                refine SOps.q rfl (.guard 16 32 true rfl rfl (gT g28)) rfl (q_load_ptr rfl rfl rfl rfl ty3) ?_
                refine SOps.q rfl (.guard 16 32 true rfl rfl (gT g28)) rfl (q_lss rfl rfl rfl) ?_
                refine SOps.q rfl (.plain rfl) rfl (q_pick_t rfl rfl g28 rfl) ?_
                refine SOps.sub (st' := ⟨[(1, .c (.int .i64 a1_feeder)), (2, .c (.int .i64 a2_t)), (7, .c (.int .i64 limit_11)), (9, .c (.ptr 0 0)), (10, .c (.vec a0_l.length 7 (gL cSCurtail dSCurtail a0_l))), (11, .c (.int .i64 (((a0_l).length : Int)))), (12, .c (.int .i64 t12_12)), (38, .c (.bool (decide (a2_t < (a0_l.getD t12_12.toNat dSCurtail).Span_To))))], [.box [.str ((a0_l.getD t12_12.toNat dSCurtail).Name), .int .i64 ((a0_l.getD t12_12.toNat dSCurtail).Version), .int .i64 ((a0_l.getD t12_12.toNat dSCurtail).Feeder), .int .i64 ((a0_l.getD t12_12.toNat dSCurtail).Span_From), .int .i64 ((a0_l.getD t12_12.toNat dSCurtail).Span_To), .int .i64 ((a0_l.getD t12_12.toNat dSCurtail).Total), .bool ((a0_l.getD t12_12.toNat dSCurtail).Cancelled)]]⟩) (sub_gen [0] rfl rfl ⟨zc rfl rfl, zc rfl rfl, zc rfl rfl, zc rfl rfl, zc rfl rfl, zc rfl rfl, zc rfl rfl, zc rfl rfl, trivial⟩ ⟨⟨_, rfl, ⟨ii rfl rfl, ii rfl rfl, ii rfl rfl, ii rfl rfl, ii rfl rfl, ii rfl rfl, ii rfl rfl, trivial⟩⟩, trivial⟩) ?_
                refine SOps.nil ?_
                rcases cond_out h with ⟨g29, h⟩ | ⟨g29, h⟩
                · refine SCode.cond_t rfl g29 ?_
                  refine SCode.region (show SOps _ _ _ [0, 1, 2, 3, 4] _ _ from ?_)
                  refine SOps.q rfl (.plain rfl) rfl (q_move rfl rfl) ?_
                  refine SOps.q rfl (.plain rfl) rfl (q_field_ptr rfl rfl fd25_4) ?_
                  refine SOps.q rfl (.plain rfl) rfl (q_load_ptr rfl rfl rfl rfl ty3) ?_
                  refine SOps.q rfl (.plain rfl) rfl (q_min rfl rfl rfl) ?_
                  refine SOps.q rfl (.plain rfl) rfl (q_assign rfl rfl) ?_
                  refine SOps.sub (st' := ⟨[(1, .c (.int .i64 a1_feeder)), (2, .c (.int .i64 a2_t)), (7, .c (.int .i64 ((if (a0_l.getD t12_12.toNat dSCurtail).Total < limit_11 then (a0_l.getD t12_12.toNat dSCurtail).Total else limit_11)))), (10, .c (.vec a0_l.length 7 (gL cSCurtail dSCurtail a0_l))), (11, .c (.int .i64 (((a0_l).length : Int)))), (12, .c (.int .i64 t12_12))], []⟩) (sub_gen [] rfl rfl ⟨zc rfl rfl, zc rfl rfl, zc rfl rfl, zc rfl rfl, zc rfl rfl, zc rfl rfl, trivial⟩ trivial) ?_
                  refine SOps.nil ?_
                  exact ⟨(if (a0_l.getD t12_12.toNat dSCurtail).Total < limit_11 then (a0_l.getD t12_12.toNat dSCurtail).Total else limit_11), h, sub_gen [] rfl rfl ⟨zc rfl rfl, zc rfl rfl, zc rfl rfl, zc rfl rfl, zc rfl rfl, zc rfl rfl, trivial⟩ trivial⟩
                refine SCode.cond_f rfl g29 ?_
                refine SCode.skip ?_
                exact ⟨limit_11, h, sub_gen [] rfl rfl ⟨zc rfl rfl, zc rfl rfl, zc rfl rfl, zc rfl rfl, zc rfl rfl, zc rfl rfl, trivial⟩ trivial⟩
              refine SCode.region (show SOps _ _ _ [0, 1, 2, 3, 4, 5, 6, 7, 8, 9, 10, 11, 12, 13, 14, 15, 16, 17, 18, 19, 20, 21, 22] _ _ from ?_)
              refine SOps.q rfl (.plain rfl) rfl (q_field_ptr rfl rfl fd25_2) ?_
              refine SOps.q rfl (.plain rfl) rfl (q_load_ptr rfl rfl rfl rfl ty3) ?_
              refine SOps.q rfl (.plain rfl) rfl (q_move rfl rfl) ?_
              refine SOps.q rfl (.plain rfl) rfl (q_eql rfl rfl rfl) ?_
              refine SOps.q rfl (.plain rfl) rfl (q_move rfl rfl) ?_
              refine SOps.q rfl (.guard 4 20 true rfl rfl (gT g26)) rfl (q_field_ptr rfl rfl fd25_5) ?_
              refine SOps.q rfl (.guard 4 20 true rfl rfl (gT g26)) rfl (q_load_ptr rfl rfl rfl rfl ty4) ?_
              refine SOps.q rfl (.guard 4 20 true rfl rfl (gT g26)) rfl (q_not rfl rfl) ?_
              refine SOps.q rfl (.plain rfl) rfl (q_pick_t rfl rfl g26 rfl) ?_
              refine SOps.q rfl (.plain rfl) rfl (q_move rfl rfl) ?_
              refine SOps.q rfl (.guard 9 25 true rfl rfl (gT g27)) rfl (q_field_ptr rfl rfl fd25_3) ?_
              refine SOps.q rfl (.guard 9 25 true rfl rfl (gT g27)) rfl (q_field_ptr rfl rfl fd23_0) ?_
              refine SOps.q rfl (.guard 9 25 true rfl rfl (gT g27)) rfl (q_load_ptr rfl rfl rfl rfl ty3) ?_
              refine SOps.q rfl (.guard 9 25 true rfl rfl (gT g27)) rfl (q_move rfl rfl) ?_
              refine SOps.q rfl (.guard 9 25 true rfl rfl (gT g27)) rfl (q_leq rfl rfl rfl) ?_
              refine SOps.q rfl (.plain rfl) rfl (q_pick_t rfl rfl g27 rfl) ?_
              refine SOps.q rfl (.plain rfl) rfl (q_move rfl rfl) ?_
              refine SOps.skip rfl 16 32 true rfl rfl (.inl (gF g28)) rfl ?_
              refine SOps.skip rfl 16 32 true rfl rfl (.inl (gF g28)) rfl ?_
              refine SOps.skip rfl 16 32 true rfl rfl (.inl (gF g28)) rfl ?_
              refine SOps.skip rfl 16 32 true rfl rfl (.inl (gF g28)) rfl ?_
              refine SOps.skip rfl 16 32 true rfl rfl (.inl (gF g28)) rfl ?_
              refine SOps.q rfl (.plain rfl) rfl (q_pick_f rfl rfl g28 rfl) ?_
              refine SOps.sub (st' := ⟨[(1, .c (.int .i64 a1_feeder)), (2, .c (.int .i64 a2_t)), (7, .c (.int .i64 limit_11)), (9, .c (.ptr 0 0)), (10, .c (.vec a0_l.length 7 (gL cSCurtail dSCurtail a0_l))), (11, .c (.int .i64 (((a0_l).length : Int)))), (12, .c (.int .i64 t12_12)), (38, .c (.bool false))], [.box [.str ((a0_l.getD t12_12.toNat dSCurtail).Name), .int .i64 ((a0_l.getD t12_12.toNat dSCurtail).Version), .int .i64 ((a0_l.getD t12_12.toNat dSCurtail).Feeder), .int .i64 ((a0_l.getD t12_12.toNat dSCurtail).Span_From), .int .i64 ((a0_l.getD t12_12.toNat dSCurtail).Span_To), .int .i64 ((a0_l.getD t12_12.toNat dSCurtail).Total), .bool ((a0_l.getD t12_12.toNat dSCurtail).Cancelled)]]⟩) (sub_gen [0] rfl rfl ⟨zc rfl rfl, zc rfl rfl, zc rfl rfl, zc rfl rfl, zc rfl rfl, zc rfl rfl, zc rfl rfl, zc rfl rfl, trivial⟩ ⟨⟨_, rfl, ⟨ii rfl rfl, ii rfl rfl, ii rfl rfl, ii rfl rfl, ii rfl rfl, ii rfl rfl, ii rfl rfl, trivial⟩⟩, trivial⟩) ?_
              refine SOps.nil ?_
              refine SCode.cond_f rfl rfl ?_
              refine SCode.skip ?_
              exact ⟨limit_11, h, sub_gen [] rfl rfl ⟨zc rfl rfl, zc rfl rfl, zc rfl rfl, zc rfl rfl, zc rfl rfl, zc rfl rfl, trivial⟩ trivial⟩
            refine SCode.region (show SOps _ _ _ [0, 1, 2, 3, 4, 5, 6, 7, 8, 9, 10, 11, 12, 13, 14, 15, 16, 17, 18, 19, 20, 21, 22] _ _ from ?_)
            refine SOps.q rfl (.plain rfl) rfl (q_field_ptr rfl rfl fd25_2) ?_
            refine SOps.q rfl (.plain rfl) rfl (q_load_ptr rfl rfl rfl rfl ty3) ?_
            refine SOps.q rfl (.plain rfl) rfl (q_move rfl rfl) ?_
            refine SOps.q rfl (.plain rfl) rfl (q_eql rfl rfl rfl) ?_
            refine SOps.q rfl (.plain rfl) rfl (q_move rfl rfl) ?_
            refine SOps.q rfl (.guard 4 20 true rfl rfl (gT g26)) rfl (q_field_ptr rfl rfl fd25_5) ?_
            refine SOps.q rfl (.guard 4 20 true rfl rfl (gT g26)) rfl (q_load_ptr rfl rfl rfl rfl ty4) ?_
            refine SOps.q rfl (.guard 4 20 true rfl rfl (gT g26)) rfl (q_not rfl rfl) ?_
            refine SOps.q rfl (.plain rfl) rfl (q_pick_t rfl rfl g26 rfl) ?_
            refine SOps.q rfl (.plain rfl) rfl (q_move rfl rfl) ?_
            refine SOps.skip rfl 9 25 true rfl rfl (.inl (gF g27)) rfl ?_
            refine SOps.skip rfl 9 25 true rfl rfl (.inl (gF g27)) rfl ?_
            refine SOps.skip rfl 9 25 true rfl rfl (.inl (gF g27)) rfl ?_
            refine SOps.skip rfl 9 25 true rfl rfl (.inl (gF g27)) rfl ?_
            refine SOps.skip rfl 9 25 true rfl rfl (.inl (gF g27)) rfl ?_
            refine SOps.q rfl (.plain rfl) rfl (q_pick_f rfl rfl g27 rfl) ?_
            refine SOps.q rfl (.plain rfl) rfl (q_move rfl rfl) ?_
            refine SOps.skip rfl 16 32 true rfl rfl (.inl rfl) rfl ?_
            refine SOps.skip rfl 16 32 true rfl rfl (.inl rfl) rfl ?_
            refine SOps.skip rfl 16 32 true rfl rfl (.inl rfl) rfl ?_
            refine SOps.skip rfl 16 32 true rfl rfl (.inl rfl) rfl ?_
            refine SOps.skip rfl 16 32 true rfl rfl (.inl rfl) rfl ?_
            refine SOps.q rfl (.plain rfl) rfl (q_pick_f rfl rfl rfl rfl) ?_
            refine SOps.sub (st' := ⟨[(1, .c (.int .i64 a1_feeder)), (2, .c (.int .i64 a2_t)), (7, .c (.int .i64 limit_11)), (9, .c (.ptr 0 0)), (10, .c (.vec a0_l.length 7 (gL cSCurtail dSCurtail a0_l))), (11, .c (.int .i64 (((a0_l).length : Int)))), (12, .c (.int .i64 t12_12)), (38, .c (.bool false))], [.box [.str ((a0_l.getD t12_12.toNat dSCurtail).Name), .int .i64 ((a0_l.getD t12_12.toNat dSCurtail).Version), .int .i64 ((a0_l.getD t12_12.toNat dSCurtail).Feeder), .int .i64 ((a0_l.getD t12_12.toNat dSCurtail).Span_From), .int .i64 ((a0_l.getD t12_12.toNat dSCurtail).Span_To), .int .i64 ((a0_l.getD t12_12.toNat dSCurtail).Total), .bool ((a0_l.getD t12_12.toNat dSCurtail).Cancelled)]]⟩) (sub_gen [0] rfl rfl ⟨zc rfl rfl, zc rfl rfl, zc rfl rfl, zc rfl rfl, zc rfl rfl, zc rfl rfl, zc rfl rfl, zc rfl rfl, trivial⟩ ⟨⟨_, rfl, ⟨ii rfl rfl, ii rfl rfl, ii rfl rfl, ii rfl rfl, ii rfl rfl, ii rfl rfl, ii rfl rfl, trivial⟩⟩, trivial⟩) ?_
            refine SOps.nil ?_
            refine SCode.cond_f rfl rfl ?_
            refine SCode.skip ?_
            exact ⟨limit_11, h, sub_gen [] rfl rfl ⟨zc rfl rfl, zc rfl rfl, zc rfl rfl, zc rfl rfl, zc rfl rfl, zc rfl rfl, trivial⟩ trivial⟩
          refine SCode.region (show SOps _ _ _ [0, 1, 2, 3, 4, 5, 6, 7, 8, 9, 10, 11, 12, 13, 14, 15, 16, 17, 18, 19, 20, 21, 22] _ _ from ?_)
          refine SOps.q rfl (.plain rfl) rfl (q_field_ptr rfl rfl fd25_2) ?_
          refine SOps.q rfl (.plain rfl) rfl (q_load_ptr rfl rfl rfl rfl ty3) ?_
          refine SOps.q rfl (.plain rfl) rfl (q_move rfl rfl) ?_
          refine SOps.q rfl (.plain rfl) rfl (q_eql rfl rfl rfl) ?_
          refine SOps.q rfl (.plain rfl) rfl (q_move rfl rfl) ?_
          refine SOps.skip rfl 4 20 true rfl rfl (.inl (gF g26)) rfl ?_
          refine SOps.skip rfl 4 20 true rfl rfl (.inl (gF g26)) rfl ?_
          refine SOps.skip rfl 4 20 true rfl rfl (.inl (gF g26)) rfl ?_
          refine SOps.q rfl (.plain rfl) rfl (q_pick_f rfl rfl g26 rfl) ?_
          refine SOps.q rfl (.plain rfl) rfl (q_move rfl rfl) ?_
          refine SOps.skip rfl 9 25 true rfl rfl (.inl rfl) rfl ?_
          refine SOps.skip rfl 9 25 true rfl rfl (.inl rfl) rfl ?_
          refine SOps.skip rfl 9 25 true rfl rfl (.inl rfl) rfl ?_
          refine SOps.skip rfl 9 25 true rfl rfl (.inl rfl) rfl ?_
          refine SOps.skip rfl 9 25 true rfl rfl (.inl rfl) rfl ?_
          refine SOps.q rfl (.plain rfl) rfl (q_pick_f rfl rfl rfl rfl) ?_
          refine SOps.q rfl (.plain rfl) rfl (q_move rfl rfl) ?_
          refine SOps.skip rfl 16 32 true rfl rfl (.inl rfl) rfl ?_
          refine SOps.skip rfl 16 32 true rfl rfl (.inl rfl) rfl ?_
          refine SOps.skip rfl 16 32 true rfl rfl (.inl rfl) rfl ?_
          refine SOps.skip rfl 16 32 true rfl rfl (.inl rfl) rfl ?_
          refine SOps.skip rfl 16 32 true rfl rfl (.inl rfl) rfl ?_
          refine SOps.q rfl (.plain rfl) rfl (q_pick_f rfl rfl rfl rfl) ?_
          refine SOps.sub (st' := ⟨[(1, .c (.int .i64 a1_feeder)), (2, .c (.int .i64 a2_t)), (7, .c (.int .i64 limit_11)), (9, .c (.ptr 0 0)), (10, .c (.vec a0_l.length 7 (gL cSCurtail dSCurtail a0_l))), (11, .c (.int .i64 (((a0_l).length : Int)))), (12, .c (.int .i64 t12_12)), (38, .c (.bool false))], [.box [.str ((a0_l.getD t12_12.toNat dSCurtail).Name), .int .i64 ((a0_l.getD t12_12.toNat dSCurtail).Version), .int .i64 ((a0_l.getD t12_12.toNat dSCurtail).Feeder), .int .i64 ((a0_l.getD t12_12.toNat dSCurtail).Span_From), .int .i64 ((a0_l.getD t12_12.toNat dSCurtail).Span_To), .int .i64 ((a0_l.getD t12_12.toNat dSCurtail).Total), .bool ((a0_l.getD t12_12.toNat dSCurtail).Cancelled)]]⟩) (sub_gen [0] rfl rfl ⟨zc rfl rfl, zc rfl rfl, zc rfl rfl, zc rfl rfl, zc rfl rfl, zc rfl rfl, zc rfl rfl, zc rfl rfl, trivial⟩ ⟨⟨_, rfl, ⟨ii rfl rfl, ii rfl rfl, ii rfl rfl, ii rfl rfl, ii rfl rfl, ii rfl rfl, ii rfl rfl, trivial⟩⟩, trivial⟩) ?_
          refine SOps.nil ?_
          refine SCode.cond_f rfl rfl ?_
          refine SCode.skip ?_
          exact ⟨limit_11, h, sub_gen [] rfl rfl ⟨zc rfl rfl, zc rfl rfl, zc rfl rfl, zc rfl rfl, zc rfl rfl, zc rfl rfl, trivial⟩ trivial⟩
        rintro limit_23 h
        show SCode _ _ _ ⟨[(1, .c (.int .i64 a1_feeder)), (2, .c (.int .i64 a2_t)), (7, .c (.int .i64 limit_23)), (10, .c (.vec a0_l.length 7 (gL cSCurtail dSCurtail a0_l))), (11, .c (.int .i64 (((a0_l).length : Int)))), (12, .c (.int .i64 t12_12))], []⟩ _
        replace h : curtail_At_p24 t12_12 (fun limit_11 t12_12 => curtail_At_l21 a0_l a1_feeder a2_t n_21 limit_11 t12_12) limit_23 = some r := h
        unfold curtail_At_p24 at h
        refine SCode.region (show SOps _ _ _ [0, 1] _ _ from ?_)
        refine SOps.q rfl (.plain rfl) rfl (q_add rfl rfl rfl) ?_
        refine SOps.q rfl (.plain rfl) rfl (q_move rfl rfl) ?_
        refine SOps.sub (st' := ⟨[(1, .c (.int .i64 a1_feeder)), (2, .c (.int .i64 a2_t)), (7, .c (.int .i64 limit_23)), (10, .c (.vec a0_l.length 7 (gL cSCurtail dSCurtail a0_l))), (11, .c (.int .i64 (((a0_l).length : Int)))), (12, .c (.int .i64 (IntKind.wrap .i64 (t12_12 + 1))))], []⟩) (sub_gen [] rfl rfl ⟨zc rfl rfl, zc rfl rfl, zc rfl rfl, zc rfl rfl, zc rfl rfl, zc rfl rfl, trivial⟩ trivial) ?_
        refine SOps.nil ?_
        exact ⟨(n_21, (limit_23, IntKind.wrap .i64 (t12_12 + 1))), h, Nat.lt_succ_self n_21, sub_gen [] rfl rfl ⟨zc rfl rfl, zc rfl rfl, zc rfl rfl, zc rfl rfl, zc rfl rfl, zc rfl rfl, trivial⟩ trivial⟩
      refine SCode.cond_f rfl g22 ?_
      refine SCode.exit ?_
      exact ⟨limit_11, h, sub_gen [] rfl rfl ⟨zc rfl rfl, trivial⟩ trivial⟩
  rintro limit_1 h
  show SCode _ _ _ ⟨[(7, .c (.int .i64 limit_1))], []⟩ _
  replace h : curtail_At_p2 limit_1 = some r := h
  unfold curtail_At_p2 at h
  refine SCode.seq ?_
  refine SCode.region (show SOps _ _ _ [0, 1] _ _ from ?_)
  refine SOps.q rfl (.plain rfl) rfl (q_move rfl rfl) ?_
  refine SOps.q rfl (.plain rfl) rfl (q_assign rfl rfl) ?_
  refine SOps.sub (st' := ⟨[(6, .c (.int .i64 limit_1))], []⟩) (sub_gen [] rfl rfl ⟨zc rfl rfl, trivial⟩ trivial) ?_
  refine SOps.nil ?_
  refine SCode.ret ?_
  obtain rfl := Option.some.inj h
  exact ⟨⟨[(6, .c (.int .i64 limit_1))], []⟩, _, sub_gen [] rfl rfl ⟨zc rfl rfl, trivial⟩ trivial, resA1 (v := .c (.int .i64 limit_1)) rfl rfl, rfl⟩
theorem slices_Sort_int_int_ok (F : Nat) (a0_x : List Int) (r : List Int) (h : slices_Sort_int_int F a0_x = some r) :
    SFun Try.prog 27 [.arr 3 1 a0_x.length (gL (cInt .i64) 0 a0_x)] [.c (.own 0 a0_x.length)] (fun x os => x = .t [] ∧ os = [.arr 3 1 r.length (gL (cInt .i64) 0 r)]) := by
  obtain ⟨hg, h⟩ := guard_out h
  obtain rfl := Option.some.inj h
  exact sfun_sort (fun blk off cap zs w => Try.slices_Sort_int blk off cap zs w) (fun p cap w => Try.slices_Sort_int_none p cap w) a0_x hg
set_option maxRecDepth 100000 in
set_option maxHeartbeats 8000000 in
theorem slices_Compact_int_int_ok (F : Nat) (a0_s : List Int) (r : List Int) (h : slices_Compact_int_int F a0_s = some r) :
    SFun Try.prog 28 [.arr 3 1 a0_s.length (gL (cInt .i64) 0 a0_s)] [.c (.own 0 a0_s.length)] (fun x os => x = .c (.own 0 r.length) ∧ os = [.arr 3 1 r.length (gL (cInt .i64) 0 r)]) := by
  refine SFun.of (n := 61) Try.func28 rfl rfl rfl ?_
  unfold slices_Compact_int_int at h
  show SCode _ _ _ ⟨[(0, .c (.own 0 a0_s.length))], [.arr 3 1 a0_s.length (gL (cInt .i64) 0 a0_s)]⟩ _
  refine SCode.seq ?_
  refine SCode.region (show SOps _ _ _ [0] _ _ from ?_)
  refine SOps.q rfl (.plain rfl) rfl (q_assign rfl rfl) ?_
  refine SOps.sub (st' := ⟨[(0, .c (.own 0 a0_s.length))], [.arr 3 1 a0_s.length (gL (cInt .i64) 0 a0_s)]⟩) (sub_gen [0] rfl rfl ⟨zc rfl rfl, trivial⟩ ⟨oa rfl, trivial⟩) ?_
  refine SOps.nil ?_
  refine SCode.seq ?_
  refine SCode.seq ?_
  refine SCode.region (show SOps _ _ _ [0, 1, 2] _ _ from ?_)
  refine SOps.q rfl (.plain rfl) rfl (q_move rfl rfl) ?_
  refine SOps.q rfl (.plain rfl) rfl (q_len_own rfl rfl sl54) ?_
  refine SOps.q rfl (.plain rfl) rfl (q_lss rfl rfl rfl) ?_
  refine SOps.sub (st' := ⟨[(0, .c (.own 0 a0_s.length)), (8, .c (.bool (decide (((a0_s).length : Int) < 2))))], [.arr 3 1 a0_s.length (gL (cInt .i64) 0 a0_s)]⟩) (sub_gen [0] rfl rfl ⟨zc rfl rfl, zc rfl rfl, trivial⟩ ⟨oa rfl, trivial⟩) ?_
  refine SOps.nil ?_
  rcases cond_out h with ⟨g1, h⟩ | ⟨g1, h⟩
  · refine SCode.cond_t rfl g1 ?_
    refine SCode.seq ?_
    refine SCode.region (show SOps _ _ _ [0, 1] _ _ from ?_)
    refine SOps.q rfl (.plain rfl) rfl (q_move rfl rfl) ?_
    refine SOps.q rfl (.plain rfl) rfl (q_assign rfl rfl) ?_
    refine SOps.sub (st' := ⟨[(2, .c (.own 0 a0_s.length))], [.arr 3 1 a0_s.length (gL (cInt .i64) 0 a0_s)]⟩) (sub_gen [0] rfl rfl ⟨zc rfl rfl, trivial⟩ ⟨oa rfl, trivial⟩) ?_
    refine SOps.nil ?_
    refine SCode.ret ?_
    obtain rfl := Option.some.inj h
    exact ⟨⟨[(2, .c (.own 0 a0_s.length))], [.arr 3 1 a0_s.length (gL (cInt .i64) 0 a0_s)]⟩, _, sub_gen [0] rfl rfl ⟨zc rfl rfl, trivial⟩ ⟨oa rfl, trivial⟩, resA1 (v := .c (.own 0 a0_s.length)) rfl rfl, ⟨rfl, rfl⟩⟩
  refine SCode.cond_f rfl g1 ?_
  refine SCode.skip ?_
  refine SCode.join (σ := Unit) (S := fun s => ⟨[(0, .c (.own 0 a0_s.length))], [.arr 3 1 a0_s.length (gL (cInt .i64) 0 a0_s)]⟩) (g := fun s => slices_Compact_int_int_p2 a0_s = some r) ?_ ?_
  rotate_left
  · refine SCode.seq ?_
    refine SCode.region (show SOps _ _ _ [0] _ _ from ?_)
    refine SOps.q rfl (.plain rfl) rfl (q_assign rfl rfl) ?_
    refine SOps.sub (st' := ⟨[(0, .c (.own 0 a0_s.length)), (3, .c (.int .i64 1))], [.arr 3 1 a0_s.length (gL (cInt .i64) 0 a0_s)]⟩) (sub_gen [0] rfl rfl ⟨zc rfl rfl, zc rfl rfl, trivial⟩ ⟨oa rfl, trivial⟩) ?_
    refine SOps.nil ?_
    refine SCode.block ?_
    refine SCode.sub (st' := ⟨[(0, .c (.own 0 a0_s.length)), (3, .c (.int .i64 1))], [.arr 3 1 a0_s.length (gL (cInt .i64) 0 a0_s)]⟩) (sub_gen [0] rfl rfl ⟨zc rfl rfl, zc rfl rfl, trivial⟩ ⟨oa rfl, trivial⟩) ?_
    refine (SCode.loop (σ := Nat × Int) (S := fun s => ⟨[(0, .c (.own 0 a0_s.length)), (3, .c (.int .i64 s.2))], [.arr 3 1 a0_s.length (gL (cInt .i64) 0 a0_s)]⟩) (g := fun s => slices_Compact_int_int_l90 F a0_s s.1 s.2 = some r) (μ := fun s => s.1) (F, 1) h ?_)
    rintro ⟨n_90, k_46⟩ h
    replace h : slices_Compact_int_int_l90 F a0_s n_90 k_46 = some r := h
    show SCode _ _ _ ⟨[(0, .c (.own 0 a0_s.length)), (3, .c (.int .i64 k_46))], [.arr 3 1 a0_s.length (gL (cInt .i64) 0 a0_s)]⟩ _
    cases n_90 with
    | zero => cases h
    | succ n_90 =>
      replace h : slices_Compact_int_int_b90 F a0_s (fun k_46 => slices_Compact_int_int_l90 F a0_s n_90 k_46) k_46 = some r := h
      unfold slices_Compact_int_int_b90 at h
      refine SCode.seq ?_
      refine SCode.seq ?_
      refine SCode.region (show SOps _ _ _ [0, 1, 2, 3] _ _ from ?_)
      refine SOps.q rfl (.plain rfl) rfl (q_move rfl rfl) ?_
      refine SOps.q rfl (.plain rfl) rfl (q_move rfl rfl) ?_
      refine SOps.q rfl (.plain rfl) rfl (q_len_own rfl rfl sl54) ?_
      refine SOps.q rfl (.plain rfl) rfl (q_lss rfl rfl rfl) ?_
      refine SOps.sub (st' := ⟨[(0, .c (.own 0 a0_s.length)), (3, .c (.int .i64 k_46)), (13, .c (.bool (decide (k_46 < ((a0_s).length : Int)))))], [.arr 3 1 a0_s.length (gL (cInt .i64) 0 a0_s)]⟩) (sub_gen [0] rfl rfl ⟨zc rfl rfl, zc rfl rfl, zc rfl rfl, trivial⟩ ⟨oa rfl, trivial⟩) ?_
      refine SOps.nil ?_
      rcases cond_out h with ⟨g91, h⟩ | ⟨g91, h⟩
      · refine SCode.cond_t rfl g91 ?_
        refine SCode.skip ?_
        refine SCode.join (σ := Unit) (S := fun s => ⟨[(0, .c (.own 0 a0_s.length)), (3, .c (.int .i64 k_46))], [.arr 3 1 a0_s.length (gL (cInt .i64) 0 a0_s)]⟩) (g := fun s => slices_Compact_int_int_p92 k_46 (fun k_46 => slices_Compact_int_int_l90 F a0_s n_90 k_46) = some r) ?_ ?_
        rotate_left
        · refine SCode.block ?_
          refine SCode.seq ?_
          obtain ⟨g93, h⟩ := guard_out h
          obtain ⟨g94, h⟩ := guard_out h
          refine SCode.draw (s' := [(25, .c (.bool (decide (a0_s.getD k_46.toNat 0 = a0_s.getD ((IntKind.wrap .i64 (k_46 - 1)).toNat) 0)))), (24, .c (.int .i64 (a0_s.getD ((IntKind.wrap .i64 (k_46 - 1)).toNat) 0))), (23, .c (.aptr 0 1 ((IntKind.wrap .i64 (k_46 - 1)).toNat) 0)), (22, .c (.int .i64 (IntKind.wrap .i64 (k_46 - 1)))), (21, .c (.int .i64 k_46)), (20, .c (.own 0 a0_s.length)), (19, .c (.int .i64 (a0_s.getD k_46.toNat 0))), (18, .c (.aptr 0 1 k_46.toNat 0)), (17, .c (.int .i64 k_46)), (16, .c (.own 0 a0_s.length)), (0, .c (.own 0 a0_s.length)), (3, .c (.int .i64 k_46)), (13, .c (.bool (decide (k_46 < ((a0_s).length : Int)))))]) mixed [[], [], [0, 1], [0, 1, 2], [], [], [5], [4, 5, 6], [4, 5, 6, 7], [0, 1, 2, 3, 4, 5, 6, 7, 8]] 10 0 rfl rfl ?_ ?_
          · refine QChain.run rfl (.plain rfl) rfl (q_move rfl rfl) ?_
            refine QChain.run rfl (.plain rfl) rfl (q_move rfl rfl) ?_
            refine QChain.run rfl (.plain rfl) rfl (q_index_own rfl rfl rfl sl54 g93.1 g93.2) ?_
            refine QChain.run rfl (.plain rfl) rfl (q_load_aptr rfl rfl rfl (toNat_lt g93) rfl ty3) ?_
            refine QChain.run rfl (.plain rfl) rfl (q_move rfl rfl) ?_
            refine QChain.run rfl (.plain rfl) rfl (q_move rfl rfl) ?_
            refine QChain.run rfl (.plain rfl) rfl (q_sub rfl rfl rfl) ?_
            refine QChain.run rfl (.plain rfl) rfl (q_index_own rfl rfl rfl sl54 g94.1 g94.2) ?_
            refine QChain.run rfl (.plain rfl) rfl (q_load_aptr rfl rfl rfl (toNat_lt g94) rfl ty3) ?_
            refine QChain.run rfl (.plain rfl) rfl (q_eql rfl rfl rfl) ?_
            exact QChain.nil _ _
          refine (show SOps _ _ _ [] _ _ from ?_)
          refine SOps.sub (st' := ⟨[(0, .c (.own 0 a0_s.length)), (3, .c (.int .i64 k_46)), (25, .c (.bool (decide (a0_s.getD k_46.toNat 0 = a0_s.getD ((IntKind.wrap .i64 (k_46 - 1)).toNat) 0))))], [.arr 3 1 a0_s.length (gL (cInt .i64) 0 a0_s)]⟩) (sub_gen [0] rfl rfl ⟨zc rfl rfl, zc rfl rfl, zc rfl rfl, trivial⟩ ⟨oa rfl, trivial⟩) ?_
          refine SOps.nil ?_
          rcases cond_out h with ⟨g95, h⟩ | ⟨g95, h⟩
          · refine SCode.cond_t rfl g95 ?_
            refine SCode.seq ?_
            obtain ⟨g96, h⟩ := guard_out h
            refine SCode.region (show SOps _ _ _ [0, 1, 2, 3] _ _ from ?_)
            refine SOps.q rfl (.plain rfl) rfl (q_move rfl rfl) ?_
            refine SOps.q rfl (.plain rfl) rfl (q_move rfl rfl) ?_
            refine SOps.q rfl (.plain rfl) rfl (q_own_l rfl rfl rfl rfl sl54 g96.1 g96.2) ?_
            refine SOps.q rfl (.plain rfl) rfl (q_assign rfl rfl) ?_
            refine SOps.sub (st' := ⟨[(0, .c (.own 0 a0_s.length)), (3, .c (.int .i64 k_46)), (4, .c (.sub 0 ((k_46 : Int).toNat) ((a0_s).length - (k_46 : Int).toNat) 1))], [.arr 3 1 a0_s.length (gL (cInt .i64) 0 a0_s)]⟩) (sub_gen [0] rfl rfl ⟨zc rfl rfl, zc rfl rfl, zc rfl rfl, trivial⟩ ⟨oa rfl, trivial⟩) ?_
            refine SOps.nil ?_
            refine SCode.join (σ := Int × (List Int)) (S := fun s => ⟨[(0, .c (.own 0 s.2.length)), (3, .c (.int .i64 s.1))], [.arr 3 1 s.2.length (gL (cInt .i64) 0 s.2)]⟩) (g := fun s => slices_Compact_int_int_p102 s.1 s.2 = some r) ?_ ?_
            rotate_left
            · refine SCode.seq ?_
              refine SCode.region (show SOps _ _ _ [0] _ _ from ?_)
              refine SOps.q rfl (.plain rfl) rfl (q_assign rfl rfl) ?_
              refine SOps.sub (st' := ⟨[(0, .c (.own 0 a0_s.length)), (3, .c (.int .i64 k_46)), (4, .c (.sub 0 ((k_46 : Int).toNat) ((a0_s).length - (k_46 : Int).toNat) 1)), (5, .c (.int .i64 1))], [.arr 3 1 a0_s.length (gL (cInt .i64) 0 a0_s)]⟩) (sub_gen [0] rfl rfl ⟨zc rfl rfl, zc rfl rfl, zc rfl rfl, zc rfl rfl, trivial⟩ ⟨oa rfl, trivial⟩) ?_
              refine SOps.nil ?_
              refine SCode.block ?_
              refine SCode.sub (st' := ⟨[(0, .c (.own 0 a0_s.length)), (3, .c (.int .i64 k_46)), (4, .c (.sub 0 ((k_46 : Int).toNat) ((a0_s).length - (k_46 : Int).toNat) 1)), (5, .c (.int .i64 1))], [.arr 3 1 a0_s.length (gL (cInt .i64) 0 a0_s)]⟩) (sub_gen [0] rfl rfl ⟨zc rfl rfl, zc rfl rfl, zc rfl rfl, zc rfl rfl, trivial⟩ ⟨oa rfl, trivial⟩) ?_
              refine (SCode.loop (σ := Nat × (Int × Int × (List Int))) (S := fun s => ⟨[(0, .c (.own 0 s.2.2.2.length)), (3, .c (.int .i64 s.2.1)), (4, .c (.sub 0 ((k_46 : Int).toNat) ((a0_s).length - (k_46 : Int).toNat) 1)), (5, .c (.int .i64 s.2.2.1))], [.arr 3 1 s.2.2.2.length (gL (cInt .i64) 0 s.2.2.2)]⟩) (g := fun s => slices_Compact_int_int_l124 a0_s k_46 s.1 s.2.1 s.2.2.1 s.2.2.2 = some r) (μ := fun s => s.1) (F, (k_46, 1, a0_s)) h ?_)
              rintro ⟨n_124, ⟨k_112, k2_113, o0_114⟩⟩ h
              replace h : slices_Compact_int_int_l124 a0_s k_46 n_124 k_112 k2_113 o0_114 = some r := h
              show SCode _ _ _ ⟨[(0, .c (.own 0 o0_114.length)), (3, .c (.int .i64 k_112)), (4, .c (.sub 0 ((k_46 : Int).toNat) ((a0_s).length - (k_46 : Int).toNat) 1)), (5, .c (.int .i64 k2_113))], [.arr 3 1 o0_114.length (gL (cInt .i64) 0 o0_114)]⟩ _
              cases n_124 with
              | zero => cases h
              | succ n_124 =>
                replace h : slices_Compact_int_int_b124 a0_s k_46 (fun k_112 k2_113 o0_114 => slices_Compact_int_int_l124 a0_s k_46 n_124 k_112 k2_113 o0_114) k_112 k2_113 o0_114 = some r := h
                unfold slices_Compact_int_int_b124 at h
                refine SCode.seq ?_
                refine SCode.seq ?_
                refine SCode.region (show SOps _ _ _ [0, 1, 2, 3] _ _ from ?_)
                refine SOps.q rfl (.plain rfl) rfl (q_move rfl rfl) ?_
                refine SOps.q rfl (.plain rfl) rfl (q_move rfl rfl) ?_
                refine SOps.q rfl (.plain rfl) rfl (q_len_sub rfl rfl sl54) ?_
                refine SOps.q rfl (.plain rfl) rfl (q_lss rfl rfl rfl) ?_
                refine SOps.sub (st' := ⟨[(0, .c (.own 0 o0_114.length)), (3, .c (.int .i64 k_112)), (4, .c (.sub 0 ((k_46 : Int).toNat) ((a0_s).length - (k_46 : Int).toNat) 1)), (5, .c (.int .i64 k2_113)), (32, .c (.bool (decide (k2_113 < (((a0_s).length - (k_46 : Int).toNat : Nat) : Int)))))], [.arr 3 1 o0_114.length (gL (cInt .i64) 0 o0_114)]⟩) (sub_gen [0] rfl rfl ⟨zc rfl rfl, zc rfl rfl, zc rfl rfl, zc rfl rfl, zc rfl rfl, trivial⟩ ⟨oa rfl, trivial⟩) ?_
                refine SOps.nil ?_
                rcases cond_out h with ⟨g125, h⟩ | ⟨g125, h⟩
                · refine SCode.cond_t rfl g125 ?_
                  refine SCode.skip ?_
                  refine SCode.join (σ := Int × (List Int)) (S := fun s => ⟨[(0, .c (.own 0 s.2.length)), (3, .c (.int .i64 s.1)), (4, .c (.sub 0 ((k_46 : Int).toNat) ((a0_s).length - (k_46 : Int).toNat) 1)), (5, .c (.int .i64 k2_113))], [.arr 3 1 s.2.length (gL (cInt .i64) 0 s.2)]⟩) (g := fun s => slices_Compact_int_int_p128 k2_113 (fun k_112 k2_113 o0_114 => slices_Compact_int_int_l124 a0_s k_46 n_124 k_112 k2_113 o0_114) s.1 s.2 = some r) ?_ ?_
                  rotate_left
                  · refine SCode.block ?_
                    refine SCode.seq ?_
                    obtain ⟨g129, h⟩ := guard_out h
                    obtain ⟨g130, h⟩ := guard_out h
                    refine SCode.draw (s' := [(44, .c (.bool ((!decide (o0_114.getD ((k_46 : Int).toNat + k2_113.toNat) 0 = o0_114.getD ((k_46 : Int).toNat + (IntKind.wrap .i64 (k2_113 - 1)).toNat) 0))))), (43, .c (.int .i64 (o0_114.getD ((k_46 : Int).toNat + (IntKind.wrap .i64 (k2_113 - 1)).toNat) 0))), (42, .c (.aptr 0 1 ((k_46 : Int).toNat + (IntKind.wrap .i64 (k2_113 - 1)).toNat) 0)), (41, .c (.int .i64 (IntKind.wrap .i64 (k2_113 - 1)))), (40, .c (.int .i64 k2_113)), (39, .c (.sub 0 ((k_46 : Int).toNat) ((a0_s).length - (k_46 : Int).toNat) 1)), (38, .c (.int .i64 (o0_114.getD ((k_46 : Int).toNat + k2_113.toNat) 0))), (37, .c (.aptr 0 1 ((k_46 : Int).toNat + k2_113.toNat) 0)), (36, .c (.int .i64 k2_113)), (35, .c (.sub 0 ((k_46 : Int).toNat) ((a0_s).length - (k_46 : Int).toNat) 1)), (0, .c (.own 0 o0_114.length)), (3, .c (.int .i64 k_112)), (4, .c (.sub 0 ((k_46 : Int).toNat) ((a0_s).length - (k_46 : Int).toNat) 1)), (5, .c (.int .i64 k2_113)), (32, .c (.bool (decide (k2_113 < (((a0_s).length - (k_46 : Int).toNat : Nat) : Int)))))]) mixed [[], [], [0, 1], [0, 1, 2], [], [], [5], [4, 5, 6], [4, 5, 6, 7], [0, 1, 2, 3, 4, 5, 6, 7, 8]] 10 0 rfl rfl ?_ ?_
                    · refine QChain.run rfl (.plain rfl) rfl (q_move rfl rfl) ?_
                      refine QChain.run rfl (.plain rfl) rfl (q_move rfl rfl) ?_
                      refine QChain.run rfl (.plain rfl) rfl (q_index_sub rfl rfl rfl sl54 g129.1 g129.2.1) ?_
                      refine QChain.run rfl (.plain rfl) rfl (q_load_aptr rfl rfl rfl g129.2.2 rfl ty3) ?_
                      refine QChain.run rfl (.plain rfl) rfl (q_move rfl rfl) ?_
                      refine QChain.run rfl (.plain rfl) rfl (q_move rfl rfl) ?_
                      refine QChain.run rfl (.plain rfl) rfl (q_sub rfl rfl rfl) ?_
                      refine QChain.run rfl (.plain rfl) rfl (q_index_sub rfl rfl rfl sl54 g130.1 g130.2.1) ?_
                      refine QChain.run rfl (.plain rfl) rfl (q_load_aptr rfl rfl rfl g130.2.2 rfl ty3) ?_
                      refine QChain.run rfl (.plain rfl) rfl (q_neq rfl rfl rfl) ?_
                      exact QChain.nil _ _
                    refine (show SOps _ _ _ [] _ _ from ?_)
                    refine SOps.sub (st' := ⟨[(0, .c (.own 0 o0_114.length)), (3, .c (.int .i64 k_112)), (4, .c (.sub 0 ((k_46 : Int).toNat) ((a0_s).length - (k_46 : Int).toNat) 1)), (5, .c (.int .i64 k2_113)), (44, .c (.bool ((!decide (o0_114.getD ((k_46 : Int).toNat + k2_113.toNat) 0 = o0_114.getD ((k_46 : Int).toNat + (IntKind.wrap .i64 (k2_113 - 1)).toNat) 0)))))], [.arr 3 1 o0_114.length (gL (cInt .i64) 0 o0_114)]⟩) (sub_gen [0] rfl rfl ⟨zc rfl rfl, zc rfl rfl, zc rfl rfl, zc rfl rfl, zc rfl rfl, trivial⟩ ⟨oa rfl, trivial⟩) ?_
                    refine SOps.nil ?_
                    rcases cond_out h with ⟨g131, h⟩ | ⟨g131, h⟩
                    · refine SCode.cond_t rfl g131 ?_
                      refine SCode.seq ?_
                      obtain ⟨g132, h⟩ := guard_out h
                      obtain ⟨g133, h⟩ := guard_out h
                      refine SCode.region (show SOps _ _ _ [0, 1, 2, 3, 4, 5, 6, 7] _ _ from ?_)
                      refine SOps.q rfl (.plain rfl) rfl (q_move rfl rfl) ?_
                      refine SOps.q rfl (.plain rfl) rfl (q_move rfl rfl) ?_
                      refine SOps.q rfl (.plain rfl) rfl (q_move rfl rfl) ?_
                      refine SOps.q rfl (.plain rfl) rfl (q_move rfl rfl) ?_
                      refine SOps.q rfl (.plain rfl) rfl (q_index_sub rfl rfl rfl sl54 g132.1 g132.2.1) ?_
                      refine SOps.q rfl (.plain rfl) rfl (q_load_aptr rfl rfl rfl g132.2.2 rfl ty3) ?_
                      refine SOps.q rfl (.plain rfl) rfl (q_index_own rfl rfl rfl sl54 g133.1 g133.2) ?_
                      refine SOps.e rfl (.plain rfl) (e_storeL (o0_114.getD ((k_46 : Int).toNat + k2_113.toNat) 0) rfl rfl rfl rfl rfl (toNat_lt g133) ty3 rfl rfl rfl rfl rfl rfl) ?_
                      refine SOps.sub (st' := ⟨[(0, .c (.own 0 (o0_114.set k_112.toNat (o0_114.getD ((k_46 : Int).toNat + k2_113.toNat) 0)).length)), (3, .c (.int .i64 k_112)), (4, .c (.sub 0 ((k_46 : Int).toNat) ((a0_s).length - (k_46 : Int).toNat) 1)), (5, .c (.int .i64 k2_113))], [.arr 3 1 (o0_114.set k_112.toNat (o0_114.getD ((k_46 : Int).toNat + k2_113.toNat) 0)).length (gL (cInt .i64) 0 (o0_114.set k_112.toNat (o0_114.getD ((k_46 : Int).toNat + k2_113.toNat) 0)))]⟩) (sub_gen [0] rfl rfl ⟨⟨_, rfl, .inl ⟨rfl, congrArg (Cell.own 0) (List.length_set : (o0_114.set k_112.toNat (o0_114.getD ((k_46 : Int).toNat + k2_113.toNat) 0)).length = o0_114.length).symm⟩⟩, zc rfl rfl, zc rfl rfl, zc rfl rfl, trivial⟩ ⟨oa rfl, trivial⟩) ?_
                      refine SOps.nil ?_
                      refine SCode.region (show SOps _ _ _ [0, 1, 2] _ _ from ?_)
                      refine SOps.q rfl (.plain rfl) rfl (q_move rfl rfl) ?_
                      refine SOps.q rfl (.plain rfl) rfl (q_add rfl rfl rfl) ?_
                      refine SOps.q rfl (.plain rfl) rfl (q_assign rfl rfl) ?_
                      refine SOps.sub (st' := ⟨[(0, .c (.own 0 (o0_114.set k_112.toNat (o0_114.getD ((k_46 : Int).toNat + k2_113.toNat) 0)).length)), (3, .c (.int .i64 (IntKind.wrap .i64 (k_112 + 1)))), (4, .c (.sub 0 ((k_46 : Int).toNat) ((a0_s).length - (k_46 : Int).toNat) 1)), (5, .c (.int .i64 k2_113))], [.arr 3 1 (o0_114.set k_112.toNat (o0_114.getD ((k_46 : Int).toNat + k2_113.toNat) 0)).length (gL (cInt .i64) 0 (o0_114.set k_112.toNat (o0_114.getD ((k_46 : Int).toNat + k2_113.toNat) 0)))]⟩) (sub_gen [0] rfl rfl ⟨zc rfl rfl, zc rfl rfl, zc rfl rfl, zc rfl rfl, trivial⟩ ⟨oa rfl, trivial⟩) ?_
                      refine SOps.nil ?_
                      exact ⟨(IntKind.wrap .i64 (k_112 + 1), o0_114.set k_112.toNat (o0_114.getD ((k_46 : Int).toNat + k2_113.toNat) 0)), h, sub_gen [0] rfl rfl ⟨zc rfl rfl, zc rfl rfl, zc rfl rfl, zc rfl rfl, trivial⟩ ⟨oa rfl, trivial⟩⟩
                    refine SCode.cond_f rfl g131 ?_
                    refine SCode.skip ?_
                    exact ⟨(k_112, o0_114), h, sub_gen [0] rfl rfl ⟨zc rfl rfl, zc rfl rfl, zc rfl rfl, zc rfl rfl, trivial⟩ ⟨oa rfl, trivial⟩⟩
                  rintro ⟨k_126, o0_127⟩ h
                  show SCode _ _ _ ⟨[(0, .c (.own 0 o0_127.length)), (3, .c (.int .i64 k_126)), (4, .c (.sub 0 ((k_46 : Int).toNat) ((a0_s).length - (k_46 : Int).toNat) 1)), (5, .c (.int .i64 k2_113))], [.arr 3 1 o0_127.length (gL (cInt .i64) 0 o0_127)]⟩ _
                  replace h : slices_Compact_int_int_p128 k2_113 (fun k_112 k2_113 o0_114 => slices_Compact_int_int_l124 a0_s k_46 n_124 k_112 k2_113 o0_114) k_126 o0_127 = some r := h
                  unfold slices_Compact_int_int_p128 at h
                  refine SCode.region (show SOps _ _ _ [0, 1, 2] _ _ from ?_)
                  refine SOps.q rfl (.plain rfl) rfl (q_move rfl rfl) ?_
                  refine SOps.q rfl (.plain rfl) rfl (q_add rfl rfl rfl) ?_
                  refine SOps.q rfl (.plain rfl) rfl (q_assign rfl rfl) ?_
                  refine SOps.sub (st' := ⟨[(0, .c (.own 0 o0_127.length)), (3, .c (.int .i64 k_126)), (4, .c (.sub 0 ((k_46 : Int).toNat) ((a0_s).length - (k_46 : Int).toNat) 1)), (5, .c (.int .i64 (IntKind.wrap .i64 (k2_113 + 1))))], [.arr 3 1 o0_127.length (gL (cInt .i64) 0 o0_127)]⟩) (sub_gen [0] rfl rfl ⟨zc rfl rfl, zc rfl rfl, zc rfl rfl, zc rfl rfl, trivial⟩ ⟨oa rfl, trivial⟩) ?_
                  refine SOps.nil ?_
                  exact ⟨(n_124, (k_126, IntKind.wrap .i64 (k2_113 + 1), o0_127)), h, Nat.lt_succ_self n_124, sub_gen [0] rfl rfl ⟨zc rfl rfl, zc rfl rfl, zc rfl rfl, zc rfl rfl, trivial⟩ ⟨oa rfl, trivial⟩⟩
                refine SCode.cond_f rfl g125 ?_
                refine SCode.exit ?_
                exact ⟨(k_112, o0_114), h, sub_gen [0] rfl rfl ⟨zc rfl rfl, zc rfl rfl, trivial⟩ ⟨oa rfl, trivial⟩⟩
            rintro ⟨k_97, o0_98⟩ h
            show SCode _ _ _ ⟨[(0, .c (.own 0 o0_98.length)), (3, .c (.int .i64 k_97))], [.arr 3 1 o0_98.length (gL (cInt .i64) 0 o0_98)]⟩ _
            replace h : slices_Compact_int_int_p102 k_97 o0_98 = some r := h
            unfold slices_Compact_int_int_p102 at h
            refine SCode.seq ?_
            obtain ⟨g99, h⟩ := guard_out h
            obtain ⟨g100, h⟩ := guard_out h
            refine SCode.region (show SOps _ _ _ [0, 1, 2, 3] _ _ from ?_)
            refine SOps.q rfl (.plain rfl) rfl (q_move rfl rfl) ?_
            refine SOps.q rfl (.plain rfl) rfl (q_move rfl rfl) ?_
            refine SOps.q rfl (.plain rfl) rfl (q_own_l rfl rfl rfl rfl sl54 g99.1 g99.2) ?_
            refine SOps.e rfl (.plain rfl) (e_clearL (c := (cInt .i64)) (d0 := 0) (l := o0_98) (lo := (k_97 : Int).toNat) (n := (o0_98).length - (k_97 : Int).toNat) rfl rfl rfl (.inl rfl) rfl sl54 z3 rfl rfl rfl oneInt g100) ?_
            refine SOps.sub (st' := ⟨[(0, .c (.own 0 (copyL o0_98 ((k_97 : Int).toNat) ((o0_98).length - (k_97 : Int).toNat) (List.replicate ((o0_98).length - (k_97 : Int).toNat) 0)).length)), (3, .c (.int .i64 k_97))], [.arr 3 1 (copyL o0_98 ((k_97 : Int).toNat) ((o0_98).length - (k_97 : Int).toNat) (List.replicate ((o0_98).length - (k_97 : Int).toNat) 0)).length (gL (cInt .i64) 0 (copyL o0_98 ((k_97 : Int).toNat) ((o0_98).length - (k_97 : Int).toNat) (List.replicate ((o0_98).length - (k_97 : Int).toNat) 0)))]⟩) (sub_gen [0] rfl rfl ⟨⟨_, rfl, .inl ⟨rfl, congrArg (Cell.own 0) (copyL_len (l := o0_98) (s := List.replicate ((o0_98).length - (k_97 : Int).toNat) 0) (lo := (k_97 : Int).toNat) (n := (o0_98).length - (k_97 : Int).toNat) g100).symm⟩⟩, zc rfl rfl, trivial⟩ ⟨oa rfl, trivial⟩) ?_
            refine SOps.nil ?_
            refine SCode.seq ?_
            obtain ⟨g101, h⟩ := guard_out h
            refine SCode.region (show SOps _ _ _ [0, 1, 2, 3] _ _ from ?_)
            refine SOps.q rfl (.plain rfl) rfl (q_move rfl rfl) ?_
            refine SOps.q rfl (.plain rfl) rfl (q_move rfl rfl) ?_
            refine SOps.q rfl (.plain rfl) rfl (q_own_h rfl rfl rfl rfl sl54 g101.1 g101.2) ?_
            refine SOps.sub (st' := ⟨[(3, .c (.int .i64 k_97)), (58, .c (.int .i64 k_97)), (59, .c (.own 0 ((copyL o0_98 ((k_97 : Int).toNat) ((o0_98).length - (k_97 : Int).toNat) (List.replicate ((o0_98).length - (k_97 : Int).toNat) 0)).take (k_97 : Int).toNat).length))], [.arr 3 1 ((copyL o0_98 ((k_97 : Int).toNat) ((o0_98).length - (k_97 : Int).toNat) (List.replicate ((o0_98).length - (k_97 : Int).toNat) 0)).take (k_97 : Int).toNat).length (gL (cInt .i64) 0 ((copyL o0_98 ((k_97 : Int).toNat) ((o0_98).length - (k_97 : Int).toNat) (List.replicate ((o0_98).length - (k_97 : Int).toNat) 0)).take (k_97 : Int).toNat))]⟩) (sub_gen [0] rfl rfl ⟨zc rfl rfl, zc rfl rfl, ⟨_, rfl, .inl ⟨rfl, congrArg (Cell.own 0) (take_len (copyL o0_98 ((k_97 : Int).toNat) ((o0_98).length - (k_97 : Int).toNat) (List.replicate ((o0_98).length - (k_97 : Int).toNat) 0)) g101.1 g101.2)⟩⟩, trivial⟩ ⟨(take_osub (copyL o0_98 ((k_97 : Int).toNat) ((o0_98).length - (k_97 : Int).toNat) (List.replicate ((o0_98).length - (k_97 : Int).toNat) 0)) rfl g101.1 g101.2), trivial⟩) ?_
            refine SOps.q rfl (.plain rfl) rfl (q_assign rfl rfl) ?_
            refine SOps.sub (st' := ⟨[(2, .c (.own 0 ((copyL o0_98 ((k_97 : Int).toNat) ((o0_98).length - (k_97 : Int).toNat) (List.replicate ((o0_98).length - (k_97 : Int).toNat) 0)).take (k_97 : Int).toNat).length))], [.arr 3 1 ((copyL o0_98 ((k_97 : Int).toNat) ((o0_98).length - (k_97 : Int).toNat) (List.replicate ((o0_98).length - (k_97 : Int).toNat) 0)).take (k_97 : Int).toNat).length (gL (cInt .i64) 0 ((copyL o0_98 ((k_97 : Int).toNat) ((o0_98).length - (k_97 : Int).toNat) (List.replicate ((o0_98).length - (k_97 : Int).toNat) 0)).take (k_97 : Int).toNat))]⟩) (sub_gen [0] rfl rfl ⟨zc rfl rfl, trivial⟩ ⟨oa rfl, trivial⟩) ?_
            refine SOps.nil ?_
            refine SCode.ret ?_
            obtain rfl := Option.some.inj h
            exact ⟨⟨[(2, .c (.own 0 ((copyL o0_98 ((k_97 : Int).toNat) ((o0_98).length - (k_97 : Int).toNat) (List.replicate ((o0_98).length - (k_97 : Int).toNat) 0)).take (k_97 : Int).toNat).length))], [.arr 3 1 ((copyL o0_98 ((k_97 : Int).toNat) ((o0_98).length - (k_97 : Int).toNat) (List.replicate ((o0_98).length - (k_97 : Int).toNat) 0)).take (k_97 : Int).toNat).length (gL (cInt .i64) 0 ((copyL o0_98 ((k_97 : Int).toNat) ((o0_98).length - (k_97 : Int).toNat) (List.replicate ((o0_98).length - (k_97 : Int).toNat) 0)).take (k_97 : Int).toNat))]⟩, _, sub_gen [0] rfl rfl ⟨zc rfl rfl, trivial⟩ ⟨oa rfl, trivial⟩, resA1 (v := .c (.own 0 ((copyL o0_98 ((k_97 : Int).toNat) ((o0_98).length - (k_97 : Int).toNat) (List.replicate ((o0_98).length - (k_97 : Int).toNat) 0)).take (k_97 : Int).toNat).length)) rfl rfl, ⟨rfl, rfl⟩⟩
          refine SCode.cond_f rfl g95 ?_
          refine SCode.skip ?_
          exact ⟨(), h, sub_gen [0] rfl rfl ⟨zc rfl rfl, zc rfl rfl, trivial⟩ ⟨oa rfl, trivial⟩⟩
        rintro ⟨⟩ h
        show SCode _ _ _ ⟨[(0, .c (.own 0 a0_s.length)), (3, .c (.int .i64 k_46))], [.arr 3 1 a0_s.length (gL (cInt .i64) 0 a0_s)]⟩ _
        replace h : slices_Compact_int_int_p92 k_46 (fun k_46 => slices_Compact_int_int_l90 F a0_s n_90 k_46) = some r := h
        unfold slices_Compact_int_int_p92 at h
        refine SCode.region (show SOps _ _ _ [0, 1, 2] _ _ from ?_)
        refine SOps.q rfl (.plain rfl) rfl (q_move rfl rfl) ?_
        refine SOps.q rfl (.plain rfl) rfl (q_add rfl rfl rfl) ?_
        refine SOps.q rfl (.plain rfl) rfl (q_assign rfl rfl) ?_
        refine SOps.sub (st' := ⟨[(0, .c (.own 0 a0_s.length)), (3, .c (.int .i64 (IntKind.wrap .i64 (k_46 + 1))))], [.arr 3 1 a0_s.length (gL (cInt .i64) 0 a0_s)]⟩) (sub_gen [0] rfl rfl ⟨zc rfl rfl, zc rfl rfl, trivial⟩ ⟨oa rfl, trivial⟩) ?_
        refine SOps.nil ?_
        exact ⟨(n_90, IntKind.wrap .i64 (k_46 + 1)), h, Nat.lt_succ_self n_90, sub_gen [0] rfl rfl ⟨zc rfl rfl, zc rfl rfl, trivial⟩ ⟨oa rfl, trivial⟩⟩
      refine SCode.cond_f rfl g91 ?_
      refine SCode.exit ?_
      exact ⟨(), h, sub_gen [0] rfl rfl ⟨zc rfl rfl, trivial⟩ ⟨oa rfl, trivial⟩⟩
  rintro ⟨⟩ h
  show SCode _ _ _ ⟨[(0, .c (.own 0 a0_s.length))], [.arr 3 1 a0_s.length (gL (cInt .i64) 0 a0_s)]⟩ _
  replace h : slices_Compact_int_int_p2 a0_s = some r := h
  unfold slices_Compact_int_int_p2 at h
  refine SCode.seq ?_
  refine SCode.region (show SOps _ _ _ [0, 1] _ _ from ?_)
  refine SOps.q rfl (.plain rfl) rfl (q_move rfl rfl) ?_
  refine SOps.q rfl (.plain rfl) rfl (q_assign rfl rfl) ?_
  refine SOps.sub (st' := ⟨[(2, .c (.own 0 a0_s.length))], [.arr 3 1 a0_s.length (gL (cInt .i64) 0 a0_s)]⟩) (sub_gen [0] rfl rfl ⟨zc rfl rfl, trivial⟩ ⟨oa rfl, trivial⟩) ?_
  refine SOps.nil ?_
  refine SCode.ret ?_
  obtain rfl := Option.some.inj h
  exact ⟨⟨[(2, .c (.own 0 a0_s.length))], [.arr 3 1 a0_s.length (gL (cInt .i64) 0 a0_s)]⟩, _, sub_gen [0] rfl rfl ⟨zc rfl rfl, trivial⟩ ⟨oa rfl, trivial⟩, resA1 (v := .c (.own 0 a0_s.length)) rfl rfl, ⟨rfl, rfl⟩⟩
end Go.Proofs.Ytcccjpkfifefaaa.W
