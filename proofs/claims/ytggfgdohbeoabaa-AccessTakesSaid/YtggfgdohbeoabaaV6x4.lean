/- Written by a program of ours (wip/eng/gen.py): the functions compute their models. -/
import Derived.Test.YtggfgdohbeoabaaFacts
import Derived.Test.YtggfgdohbeoabaaV6x3
namespace Go.Proofs.Ytggfgdohbeoabaa.W
open Go Go.Proofs Go.Proofs.Ytggfgdohbeoabaa.E Go.Proofs.Ytggfgdohbeoabaa.M
set_option linter.unusedVariables false
set_option maxRecDepth 100000 in
set_option maxHeartbeats 8000000 in
theorem chargenetref39_Same_ok (F : Nat) (a0_a : List SGrant) (a1_b : List SGrant) (r : Bool) (h : chargenetref39_Same F a0_a a1_b = some r) :
    SFun Try.prog 18 [] [.c (.vec a0_a.length 4 (gL cSGrant dSGrant a0_a)), .c (.vec a1_b.length 4 (gL cSGrant dSGrant a1_b))] (fun x _ => x = .c (.bool r)) := by
  refine SFun.of (n := 26) Try.func18 rfl rfl rfl ?_
  unfold chargenetref39_Same at h
  show SCode _ _ _ ⟨[(0, .c (.vec a0_a.length 4 (gL cSGrant dSGrant a0_a))), (1, .c (.vec a1_b.length 4 (gL cSGrant dSGrant a1_b)))], []⟩ _
  refine SCode.seq ?_
  refine SCode.region (show SOps _ _ _ [0] _ _ from ?_)
  refine SOps.q rfl (.plain rfl) rfl (q_assign rfl rfl) ?_
  refine SOps.sub (st' := ⟨[(0, .c (.vec a0_a.length 4 (gL cSGrant dSGrant a0_a))), (1, .c (.vec a1_b.length 4 (gL cSGrant dSGrant a1_b)))], []⟩) (sub_gen [] rfl rfl ⟨zc rfl rfl, zc rfl rfl, trivial⟩ trivial) ?_
  refine SOps.nil ?_
  refine SCode.seq ?_
  refine SCode.seq ?_
  refine SCode.region (show SOps _ _ _ [0, 1, 2, 3, 4] _ _ from ?_)
  refine SOps.q rfl (.plain rfl) rfl (q_move rfl rfl) ?_
  refine SOps.q rfl (.plain rfl) rfl (q_len_vec rfl rfl sl23) ?_
  refine SOps.q rfl (.plain rfl) rfl (q_move rfl rfl) ?_
  refine SOps.q rfl (.plain rfl) rfl (q_len_vec rfl rfl sl23) ?_
  refine SOps.q rfl (.plain rfl) rfl (q_neq rfl rfl rfl) ?_
  refine SOps.sub (st' := ⟨[(0, .c (.vec a0_a.length 4 (gL cSGrant dSGrant a0_a))), (1, .c (.vec a1_b.length 4 (gL cSGrant dSGrant a1_b))), (10, .c (.bool ((!decide (((a0_a).length : Int) = ((a1_b).length : Int))))))], []⟩) (sub_gen [] rfl rfl ⟨zc rfl rfl, zc rfl rfl, zc rfl rfl, trivial⟩ trivial) ?_
  refine SOps.nil ?_
  rcases cond_out h with ⟨g1, h⟩ | ⟨g1, h⟩
  · refine SCode.cond_t rfl g1 ?_
    refine SCode.seq ?_
    refine SCode.region (show SOps _ _ _ [0] _ _ from ?_)
    refine SOps.q rfl (.plain rfl) rfl (q_assign rfl rfl) ?_
    refine SOps.sub (st' := ⟨[(4, .c (.bool false))], []⟩) (sub_gen [] rfl rfl ⟨zc rfl rfl, trivial⟩ trivial) ?_
    refine SOps.nil ?_
    refine SCode.ret ?_
    obtain rfl := Option.some.inj h
    exact ⟨⟨[(4, .c (.bool false))], []⟩, _, sub_gen [] rfl rfl ⟨zc rfl rfl, trivial⟩ trivial, resA1 (v := .c (.bool false)) rfl rfl, rfl⟩
  refine SCode.cond_f rfl g1 ?_
  refine SCode.skip ?_
  refine SCode.join (σ := Unit) (S := fun s => ⟨[], []⟩) (g := fun s => chargenetref39_Same_p2 = some r) ?_ ?_
  rotate_left
  · refine SCode.seq ?_
    refine SCode.region (show SOps _ _ _ [0] _ _ from ?_)
    refine SOps.q rfl (.plain rfl) rfl (q_assign rfl rfl) ?_
    refine SOps.sub (st' := ⟨[(0, .c (.vec a0_a.length 4 (gL cSGrant dSGrant a0_a))), (1, .c (.vec a1_b.length 4 (gL cSGrant dSGrant a1_b))), (5, .c (.int .i64 0))], []⟩) (sub_gen [] rfl rfl ⟨zc rfl rfl, zc rfl rfl, zc rfl rfl, trivial⟩ trivial) ?_
    refine SOps.nil ?_
    refine SCode.block ?_
    refine SCode.sub (st' := ⟨[(0, .c (.vec a0_a.length 4 (gL cSGrant dSGrant a0_a))), (1, .c (.vec a1_b.length 4 (gL cSGrant dSGrant a1_b))), (5, .c (.int .i64 0))], []⟩) (sub_gen [] rfl rfl ⟨zc rfl rfl, zc rfl rfl, zc rfl rfl, trivial⟩ trivial) ?_
    refine (SCode.loop (σ := Nat × Int) (S := fun s => ⟨[(0, .c (.vec a0_a.length 4 (gL cSGrant dSGrant a0_a))), (1, .c (.vec a1_b.length 4 (gL cSGrant dSGrant a1_b))), (5, .c (.int .i64 s.2))], []⟩) (g := fun s => chargenetref39_Same_l12 a0_a a1_b s.1 s.2 = some r) (μ := fun s => s.1) (F, 0) h ?_)
    rintro ⟨n_12, i_7⟩ h
    replace h : chargenetref39_Same_l12 a0_a a1_b n_12 i_7 = some r := h
    show SCode _ _ _ ⟨[(0, .c (.vec a0_a.length 4 (gL cSGrant dSGrant a0_a))), (1, .c (.vec a1_b.length 4 (gL cSGrant dSGrant a1_b))), (5, .c (.int .i64 i_7))], []⟩ _
    cases n_12 with
    | zero => cases h
    | succ n_12 =>
      replace h : chargenetref39_Same_b12 a0_a a1_b (fun i_7 => chargenetref39_Same_l12 a0_a a1_b n_12 i_7) i_7 = some r := h
      unfold chargenetref39_Same_b12 at h
      refine SCode.seq ?_
      refine SCode.seq ?_
      refine SCode.region (show SOps _ _ _ [0, 1, 2, 3] _ _ from ?_)
      refine SOps.q rfl (.plain rfl) rfl (q_move rfl rfl) ?_
      refine SOps.q rfl (.plain rfl) rfl (q_move rfl rfl) ?_
      refine SOps.q rfl (.plain rfl) rfl (q_len_vec rfl rfl sl23) ?_
      refine SOps.q rfl (.plain rfl) rfl (q_lss rfl rfl rfl) ?_
      refine SOps.sub (st' := ⟨[(0, .c (.vec a0_a.length 4 (gL cSGrant dSGrant a0_a))), (1, .c (.vec a1_b.length 4 (gL cSGrant dSGrant a1_b))), (5, .c (.int .i64 i_7)), (14, .c (.bool (decide (i_7 < ((a0_a).length : Int)))))], []⟩) (sub_gen [] rfl rfl ⟨zc rfl rfl, zc rfl rfl, zc rfl rfl, zc rfl rfl, trivial⟩ trivial) ?_
      refine SOps.nil ?_
      rcases cond_out h with ⟨g13, h⟩ | ⟨g13, h⟩
      · refine SCode.cond_t rfl g13 ?_
        refine SCode.skip ?_
        refine SCode.seq ?_
        refine SCode.block ?_
        refine SCode.seq ?_
        obtain ⟨g14, h⟩ := guard_out h
        obtain ⟨g15, h⟩ := guard_out h
        refine SCode.draw (s' := [(25, .c (.bool ((xor true (sEq ((a0_a.getD i_7.toNat dSGrant).User) ((a1_b.getD i_7.toNat dSGrant).User) && (sEq ((a0_a.getD i_7.toNat dSGrant).Role) ((a1_b.getD i_7.toNat dSGrant).Role) && (decide ((a0_a.getD i_7.toNat dSGrant).Span_From = (a1_b.getD i_7.toNat dSGrant).Span_From) && (decide ((a0_a.getD i_7.toNat dSGrant).Span_To = (a1_b.getD i_7.toNat dSGrant).Span_To) && true)))))))), (24, .a [.str ((a1_b.getD i_7.toNat dSGrant).User), .str ((a1_b.getD i_7.toNat dSGrant).Role), .int .i64 ((a1_b.getD i_7.toNat dSGrant).Span_From), .int .i64 ((a1_b.getD i_7.toNat dSGrant).Span_To)]), (23, .c (.eptr 4 (cSGrant (a1_b.getD i_7.toNat dSGrant)) 0)), (22, .c (.int .i64 i_7)), (21, .c (.vec a1_b.length 4 (gL cSGrant dSGrant a1_b))), (20, .a [.str ((a0_a.getD i_7.toNat dSGrant).User), .str ((a0_a.getD i_7.toNat dSGrant).Role), .int .i64 ((a0_a.getD i_7.toNat dSGrant).Span_From), .int .i64 ((a0_a.getD i_7.toNat dSGrant).Span_To)]), (19, .c (.eptr 4 (cSGrant (a0_a.getD i_7.toNat dSGrant)) 0)), (18, .c (.int .i64 i_7)), (17, .c (.vec a0_a.length 4 (gL cSGrant dSGrant a0_a))), (0, .c (.vec a0_a.length 4 (gL cSGrant dSGrant a0_a))), (1, .c (.vec a1_b.length 4 (gL cSGrant dSGrant a1_b))), (5, .c (.int .i64 i_7)), (14, .c (.bool (decide (i_7 < ((a0_a).length : Int)))))]) mixed [[], [], [0, 1], [0, 1, 2], [], [], [4, 5], [4, 5, 6], [0, 1, 2, 3, 4, 5, 6, 7]] 9 0 rfl rfl ?_ ?_
        · refine QChain.run rfl (.plain rfl) rfl (q_move rfl rfl) ?_
          refine QChain.run rfl (.plain rfl) rfl (q_move rfl rfl) ?_
          refine QChain.run rfl (.plain rfl) rfl (q_index_vec rfl rfl rfl sl23 rfl g14.1 g14.2) ?_
          refine QChain.run rfl (.plain rfl) rfl (q_load_eptr_all rfl rfl rfl ty37) ?_
          refine QChain.run rfl (.plain rfl) rfl (q_move rfl rfl) ?_
          refine QChain.run rfl (.plain rfl) rfl (q_move rfl rfl) ?_
          refine QChain.run rfl (.plain rfl) rfl (q_index_vec rfl rfl rfl sl23 rfl g15.1 g15.2) ?_
          refine QChain.run rfl (.plain rfl) rfl (q_load_eptr_all rfl rfl rfl ty37) ?_
          refine QChain.run rfl (.plain rfl) rfl (q_eqAgg (neg := true) rfl (.inr rfl) rfl rfl eqt37 rfl) ?_
          exact QChain.nil _ _
        refine (show SOps _ _ _ [] _ _ from ?_)
        refine SOps.sub (st' := ⟨[(0, .c (.vec a0_a.length 4 (gL cSGrant dSGrant a0_a))), (1, .c (.vec a1_b.length 4 (gL cSGrant dSGrant a1_b))), (5, .c (.int .i64 i_7)), (25, .c (.bool ((xor true (sEq ((a0_a.getD i_7.toNat dSGrant).User) ((a1_b.getD i_7.toNat dSGrant).User) && (sEq ((a0_a.getD i_7.toNat dSGrant).Role) ((a1_b.getD i_7.toNat dSGrant).Role) && (decide ((a0_a.getD i_7.toNat dSGrant).Span_From = (a1_b.getD i_7.toNat dSGrant).Span_From) && (decide ((a0_a.getD i_7.toNat dSGrant).Span_To = (a1_b.getD i_7.toNat dSGrant).Span_To) && true))))))))], []⟩) (sub_gen [] rfl rfl ⟨zc rfl rfl, zc rfl rfl, zc rfl rfl, zc rfl rfl, trivial⟩ trivial) ?_
        refine SOps.nil ?_
        rcases cond_out h with ⟨g16, h⟩ | ⟨g16, h⟩
        · refine SCode.cond_t rfl g16 ?_
          refine SCode.seq ?_
          refine SCode.region (show SOps _ _ _ [0] _ _ from ?_)
          refine SOps.q rfl (.plain rfl) rfl (q_assign rfl rfl) ?_
          refine SOps.sub (st' := ⟨[(4, .c (.bool false))], []⟩) (sub_gen [] rfl rfl ⟨zc rfl rfl, trivial⟩ trivial) ?_
          refine SOps.nil ?_
          refine SCode.ret ?_
          obtain rfl := Option.some.inj h
          exact ⟨⟨[(4, .c (.bool false))], []⟩, _, sub_gen [] rfl rfl ⟨zc rfl rfl, trivial⟩ trivial, resA1 (v := .c (.bool false)) rfl rfl, rfl⟩
        refine SCode.cond_f rfl g16 ?_
        refine SCode.skip ?_
        refine SCode.region (show SOps _ _ _ [0, 1, 2] _ _ from ?_)
        refine SOps.q rfl (.plain rfl) rfl (q_move rfl rfl) ?_
        refine SOps.q rfl (.plain rfl) rfl (q_add rfl rfl rfl) ?_
        refine SOps.q rfl (.plain rfl) rfl (q_assign rfl rfl) ?_
        refine SOps.sub (st' := ⟨[(0, .c (.vec a0_a.length 4 (gL cSGrant dSGrant a0_a))), (1, .c (.vec a1_b.length 4 (gL cSGrant dSGrant a1_b))), (5, .c (.int .i64 (IntKind.wrap .i64 (i_7 + 1))))], []⟩) (sub_gen [] rfl rfl ⟨zc rfl rfl, zc rfl rfl, zc rfl rfl, trivial⟩ trivial) ?_
        refine SOps.nil ?_
        exact ⟨(n_12, IntKind.wrap .i64 (i_7 + 1)), h, Nat.lt_succ_self n_12, sub_gen [] rfl rfl ⟨zc rfl rfl, zc rfl rfl, zc rfl rfl, trivial⟩ trivial⟩
      refine SCode.cond_f rfl g13 ?_
      refine SCode.exit ?_
      exact ⟨(), h, sub_gen [] rfl rfl trivial trivial⟩
  rintro ⟨⟩ h
  show SCode _ _ _ ⟨[], []⟩ _
  replace h : chargenetref39_Same_p2 = some r := h
  unfold chargenetref39_Same_p2 at h
  refine SCode.seq ?_
  refine SCode.region (show SOps _ _ _ [0] _ _ from ?_)
  refine SOps.q rfl (.plain rfl) rfl (q_assign rfl rfl) ?_
  refine SOps.sub (st' := ⟨[(4, .c (.bool true))], []⟩) (sub_gen [] rfl rfl ⟨zc rfl rfl, trivial⟩ trivial) ?_
  refine SOps.nil ?_
  refine SCode.ret ?_
  obtain rfl := Option.some.inj h
  exact ⟨⟨[(4, .c (.bool true))], []⟩, _, sub_gen [] rfl rfl ⟨zc rfl rfl, trivial⟩ trivial, resA1 (v := .c (.bool true)) rfl rfl, rfl⟩
set_option maxRecDepth 100000 in
set_option maxHeartbeats 8000000 in
theorem chargenetref39_holds_ok (F : Nat) (a0_g : SGrant) (a1_now : Int) (r : Bool) (h : chargenetref39_holds F a0_g a1_now = some r) :
    SFun Try.prog 31 [] [.a [.str a0_g.User, .str a0_g.Role, .int .i64 a0_g.Span_From, .int .i64 a0_g.Span_To], .c (.int .i64 a1_now)] (fun x _ => x = .c (.bool r)) := by
  refine SFun.of (n := 23) Try.func31 rfl rfl rfl ?_
  unfold chargenetref39_holds at h
  show SCode _ _ _ ⟨[(0, .a [.str a0_g.User, .str a0_g.Role, .int .i64 a0_g.Span_From, .int .i64 a0_g.Span_To]), (1, .c (.int .i64 a1_now))], []⟩ _
  refine SCode.seq ?_
  refine SCode.region (show SOps _ _ _ [0, 1] _ _ from ?_)
  refine SOps.e rfl (.plain rfl) (e_box rfl rfl rfl rfl rfl rfl) ?_
  refine SOps.q rfl (.plain rfl) rfl (q_assign rfl rfl) ?_
  refine SOps.sub (st' := ⟨[(1, .c (.int .i64 a1_now)), (2, .c (.ptr 0 0))], [.box [.str a0_g.User, .str a0_g.Role, .int .i64 a0_g.Span_From, .int .i64 a0_g.Span_To]]⟩) (sub_gen [0] rfl rfl ⟨zc rfl rfl, zc rfl rfl, trivial⟩ ⟨⟨_, rfl, ⟨ii rfl rfl, ii rfl rfl, ii rfl rfl, ii rfl rfl, trivial⟩⟩, trivial⟩) ?_
  refine SOps.nil ?_
  refine SCode.seq ?_
  rcases cond_out h with ⟨g1, h⟩ | ⟨g1, h⟩
  · rcases cond_out h with ⟨g2, h⟩ | ⟨g2, h⟩
    · refine SCode.region (show SOps _ _ _ [0, 1, 2, 3, 4, 5, 6, 7, 8, 9, 10, 11, 12, 13, 14, 15, 16, 17, 18] _ _ from ?_)
      refine SOps.q rfl (.plain rfl) rfl (q_field_ptr rfl rfl fd37_2) ?_
      refine SOps.q rfl (.plain rfl) rfl (q_field_ptr rfl rfl fd35_0) ?_
      refine SOps.q rfl (.plain rfl) rfl (q_load_ptr rfl rfl rfl rfl ty3) ?_
      refine SOps.q rfl (.plain rfl) rfl (q_move rfl rfl) ?_
      refine SOps.q rfl (.plain rfl) rfl (q_leq rfl rfl rfl) ?_
      refine SOps.q rfl (.plain rfl) rfl (q_move rfl rfl) ?_
      refine SOps.q rfl (.guard 5 10 true rfl rfl (gT g1)) rfl (q_field_ptr rfl rfl fd37_2) ?_
      refine SOps.q rfl (.guard 5 10 true rfl rfl (gT g1)) rfl (q_field_ptr rfl rfl fd35_1) ?_
      refine SOps.q rfl (.guard 5 10 true rfl rfl (gT g1)) rfl (q_load_ptr rfl rfl rfl rfl ty3) ?_
      refine SOps.q rfl (.guard 5 10 true rfl rfl (gT g1)) rfl (q_eql rfl rfl rfl) ?_
      refine SOps.q rfl (.guard 5 10 true rfl rfl (gT g1)) rfl (q_move rfl rfl) ?_
      refine SOps.skip rfl 10 15 false rfl rfl (.inl (gT g2)) rfl ?_
      refine SOps.skip rfl 10 15 false rfl rfl (.inl (gT g2)) rfl ?_
      refine SOps.skip rfl 10 15 false rfl rfl (.inl (gT g2)) rfl ?_
      refine SOps.skip rfl 10 15 false rfl rfl (.inl (gT g2)) rfl ?_
      refine SOps.skip rfl 10 15 false rfl rfl (.inl (gT g2)) rfl ?_
      refine SOps.q rfl (.guard 5 10 true rfl rfl (gT g1)) rfl (q_pick_t rfl rfl g2 rfl) ?_
      refine SOps.q rfl (.plain rfl) rfl (q_pick_t rfl rfl g1 rfl) ?_
      refine SOps.q rfl (.plain rfl) rfl (q_assign rfl rfl) ?_
      refine SOps.sub (st' := ⟨[(4, .c (.bool true))], []⟩) (sub_gen [] rfl rfl ⟨zc rfl rfl, trivial⟩ trivial) ?_
      refine SOps.nil ?_
      refine SCode.ret ?_
      obtain rfl := Option.some.inj h
      exact ⟨⟨[(4, .c (.bool true))], []⟩, _, sub_gen [] rfl rfl ⟨zc rfl rfl, trivial⟩ trivial, resA1 (v := .c (.bool true)) rfl rfl, rfl⟩
    refine SCode.region (show SOps _ _ _ [0, 1, 2, 3, 4, 5, 6, 7, 8, 9, 10, 11, 12, 13, 14, 15, 16, 17, 18] _ _ from ?_)
    refine SOps.q rfl (.plain rfl) rfl (q_field_ptr rfl rfl fd37_2) ?_
    refine SOps.q rfl (.plain rfl) rfl (q_field_ptr rfl rfl fd35_0) ?_
    refine SOps.q rfl (.plain rfl) rfl (q_load_ptr rfl rfl rfl rfl ty3) ?_
    refine SOps.q rfl (.plain rfl) rfl (q_move rfl rfl) ?_
    refine SOps.q rfl (.plain rfl) rfl (q_leq rfl rfl rfl) ?_
    refine SOps.q rfl (.plain rfl) rfl (q_move rfl rfl) ?_
    refine SOps.q rfl (.guard 5 10 true rfl rfl (gT g1)) rfl (q_field_ptr rfl rfl fd37_2) ?_
    refine SOps.q rfl (.guard 5 10 true rfl rfl (gT g1)) rfl (q_field_ptr rfl rfl fd35_1) ?_
    refine SOps.q rfl (.guard 5 10 true rfl rfl (gT g1)) rfl (q_load_ptr rfl rfl rfl rfl ty3) ?_
    refine SOps.q rfl (.guard 5 10 true rfl rfl (gT g1)) rfl (q_eql rfl rfl rfl) ?_
    refine SOps.q rfl (.guard 5 10 true rfl rfl (gT g1)) rfl (q_move rfl rfl) ?_
    refine SOps.q rfl (.guard 10 15 false rfl rfl (gF g2)) rfl (q_move rfl rfl) ?_
    refine SOps.q rfl (.guard 10 15 false rfl rfl (gF g2)) rfl (q_field_ptr rfl rfl fd37_2) ?_
    refine SOps.q rfl (.guard 10 15 false rfl rfl (gF g2)) rfl (q_field_ptr rfl rfl fd35_1) ?_
    refine SOps.q rfl (.guard 10 15 false rfl rfl (gF g2)) rfl (q_load_ptr rfl rfl rfl rfl ty3) ?_
    refine SOps.q rfl (.guard 10 15 false rfl rfl (gF g2)) rfl (q_lss rfl rfl rfl) ?_
    refine SOps.q rfl (.guard 5 10 true rfl rfl (gT g1)) rfl (q_pick_f rfl rfl g2 rfl) ?_
    refine SOps.q rfl (.plain rfl) rfl (q_pick_t rfl rfl g1 rfl) ?_
    refine SOps.q rfl (.plain rfl) rfl (q_assign rfl rfl) ?_
    refine SOps.sub (st' := ⟨[(4, .c (.bool (decide (a1_now < a0_g.Span_To))))], []⟩) (sub_gen [] rfl rfl ⟨zc rfl rfl, trivial⟩ trivial) ?_
    refine SOps.nil ?_
    refine SCode.ret ?_
    obtain rfl := Option.some.inj h
    exact ⟨⟨[(4, .c (.bool (decide (a1_now < a0_g.Span_To))))], []⟩, _, sub_gen [] rfl rfl ⟨zc rfl rfl, trivial⟩ trivial, resA1 (v := .c (.bool (decide (a1_now < a0_g.Span_To)))) rfl rfl, rfl⟩
  refine SCode.region (show SOps _ _ _ [0, 1, 2, 3, 4, 5, 6, 7, 8, 9, 10, 11, 12, 13, 14, 15, 16, 17, 18] _ _ from ?_)
  refine SOps.q rfl (.plain rfl) rfl (q_field_ptr rfl rfl fd37_2) ?_
  refine SOps.q rfl (.plain rfl) rfl (q_field_ptr rfl rfl fd35_0) ?_
  refine SOps.q rfl (.plain rfl) rfl (q_load_ptr rfl rfl rfl rfl ty3) ?_
  refine SOps.q rfl (.plain rfl) rfl (q_move rfl rfl) ?_
  refine SOps.q rfl (.plain rfl) rfl (q_leq rfl rfl rfl) ?_
  refine SOps.q rfl (.plain rfl) rfl (q_move rfl rfl) ?_
  refine SOps.skip rfl 5 10 true rfl rfl (.inl (gF g1)) rfl ?_
  refine SOps.skip rfl 5 10 true rfl rfl (.inl (gF g1)) rfl ?_
  refine SOps.skip rfl 5 10 true rfl rfl (.inl (gF g1)) rfl ?_
  refine SOps.skip rfl 5 10 true rfl rfl (.inl (gF g1)) rfl ?_
  refine SOps.skip rfl 5 10 true rfl rfl (.inl (gF g1)) rfl ?_
  refine SOps.skip rfl 10 15 false rfl rfl (.inr rfl) rfl ?_
  refine SOps.skip rfl 10 15 false rfl rfl (.inr rfl) rfl ?_
  refine SOps.skip rfl 10 15 false rfl rfl (.inr rfl) rfl ?_
  refine SOps.skip rfl 10 15 false rfl rfl (.inr rfl) rfl ?_
  refine SOps.skip rfl 10 15 false rfl rfl (.inr rfl) rfl ?_
  refine SOps.skip rfl 5 10 true rfl rfl (.inl (gF g1)) rfl ?_
  refine SOps.q rfl (.plain rfl) rfl (q_pick_f rfl rfl g1 rfl) ?_
  refine SOps.q rfl (.plain rfl) rfl (q_assign rfl rfl) ?_
  refine SOps.sub (st' := ⟨[(4, .c (.bool false))], []⟩) (sub_gen [] rfl rfl ⟨zc rfl rfl, trivial⟩ trivial) ?_
  refine SOps.nil ?_
  refine SCode.ret ?_
  obtain rfl := Option.some.inj h
  exact ⟨⟨[(4, .c (.bool false))], []⟩, _, sub_gen [] rfl rfl ⟨zc rfl rfl, trivial⟩ trivial, resA1 (v := .c (.bool false)) rfl rfl, rfl⟩
set_option maxRecDepth 100000 in
set_option maxHeartbeats 8000000 in
theorem chargenetref02_Right_ok (F : Nat) (a0_t : Int) (r : Bool) (h : chargenetref02_Right F a0_t = some r) :
    SFun Try.prog 36 [] [.c (.int .i64 a0_t)] (fun x _ => x = .c (.bool r)) := by
  refine SFun.of (n := 9) Try.func36 rfl rfl rfl ?_
  unfold chargenetref02_Right at h
  show SCode _ _ _ ⟨[(0, .c (.int .i64 a0_t))], []⟩ _
  refine SCode.seq ?_
  refine SCode.region (show SOps _ _ _ [0] _ _ from ?_)
  refine SOps.q rfl (.plain rfl) rfl (q_assign rfl rfl) ?_
  refine SOps.sub (st' := ⟨[(0, .c (.int .i64 a0_t))], []⟩) (sub_gen [] rfl rfl ⟨zc rfl rfl, trivial⟩ trivial) ?_
  refine SOps.nil ?_
  refine SCode.seq ?_
  rcases cond_out h with ⟨g1, h⟩ | ⟨g1, h⟩
  · refine SCode.region (show SOps _ _ _ [0, 1, 2, 3, 4, 5, 6] _ _ from ?_)
    refine SOps.q rfl (.plain rfl) rfl (q_move rfl rfl) ?_
    refine SOps.q rfl (.plain rfl) rfl (q_geq rfl rfl rfl) ?_
    refine SOps.q rfl (.plain rfl) rfl (q_move rfl rfl) ?_
    refine SOps.q rfl (.guard 2 5 true rfl rfl (gT g1)) rfl (q_move rfl rfl) ?_
    refine SOps.q rfl (.guard 2 5 true rfl rfl (gT g1)) rfl (q_leq rfl rfl rfl) ?_
    refine SOps.q rfl (.plain rfl) rfl (q_pick_t rfl rfl g1 rfl) ?_
    refine SOps.q rfl (.plain rfl) rfl (q_assign rfl rfl) ?_
    refine SOps.sub (st' := ⟨[(2, .c (.bool (decide (a0_t ≤ 268435456))))], []⟩) (sub_gen [] rfl rfl ⟨zc rfl rfl, trivial⟩ trivial) ?_
    refine SOps.nil ?_
    refine SCode.ret ?_
    obtain rfl := Option.some.inj h
    exact ⟨⟨[(2, .c (.bool (decide (a0_t ≤ 268435456))))], []⟩, _, sub_gen [] rfl rfl ⟨zc rfl rfl, trivial⟩ trivial, resA1 (v := .c (.bool (decide (a0_t ≤ 268435456)))) rfl rfl, rfl⟩
  refine SCode.region (show SOps _ _ _ [0, 1, 2, 3, 4, 5, 6] _ _ from ?_)
  refine SOps.q rfl (.plain rfl) rfl (q_move rfl rfl) ?_
  refine SOps.q rfl (.plain rfl) rfl (q_geq rfl rfl rfl) ?_
  refine SOps.q rfl (.plain rfl) rfl (q_move rfl rfl) ?_
  refine SOps.skip rfl 2 5 true rfl rfl (.inl (gF g1)) rfl ?_
  refine SOps.skip rfl 2 5 true rfl rfl (.inl (gF g1)) rfl ?_
  refine SOps.q rfl (.plain rfl) rfl (q_pick_f rfl rfl g1 rfl) ?_
  refine SOps.q rfl (.plain rfl) rfl (q_assign rfl rfl) ?_
  refine SOps.sub (st' := ⟨[(2, .c (.bool false))], []⟩) (sub_gen [] rfl rfl ⟨zc rfl rfl, trivial⟩ trivial) ?_
  refine SOps.nil ?_
  refine SCode.ret ?_
  obtain rfl := Option.some.inj h
  exact ⟨⟨[(2, .c (.bool false))], []⟩, _, sub_gen [] rfl rfl ⟨zc rfl rfl, trivial⟩ trivial, resA1 (v := .c (.bool false)) rfl rfl, rfl⟩
set_option maxRecDepth 100000 in
set_option maxHeartbeats 8000000 in
theorem chargenetref39_Take_ok (F : Nat) (a0_grants : List SGrant) (a1_user : ByteArray) (a2_role : ByteArray) (a3_now : Int) (r : (List SGrant) × Int) (h : chargenetref39_Take F a0_grants a1_user a2_role a3_now = some r) :
    SFun Try.prog 20 [] [.c (.vec a0_grants.length 4 (gL cSGrant dSGrant a0_grants)), .c (.str a1_user), .c (.str a2_role), .c (.int .i64 a3_now)] (fun x _ => x = .t [.c (.vec r.1.length 4 (gL cSGrant dSGrant r.1)), .c (.int .i64 r.2)]) := by
  refine SFun.of (n := 53) Try.func20 rfl rfl rfl ?_
  unfold chargenetref39_Take at h
  show SCode _ _ _ ⟨[(0, .c (.vec a0_grants.length 4 (gL cSGrant dSGrant a0_grants))), (1, .c (.str a1_user)), (2, .c (.str a2_role)), (3, .c (.int .i64 a3_now))], []⟩ _
  refine SCode.seq ?_
  refine SCode.region (show SOps _ _ _ [0, 1] _ _ from ?_)
  refine SOps.q rfl (.plain rfl) rfl (q_assign rfl rfl) ?_
  refine SOps.q rfl (.plain rfl) rfl (q_assign rfl rfl) ?_
  refine SOps.sub (st' := ⟨[(0, .c (.vec a0_grants.length 4 (gL cSGrant dSGrant a0_grants))), (1, .c (.str a1_user)), (2, .c (.str a2_role)), (3, .c (.int .i64 a3_now))], []⟩) (sub_gen [] rfl rfl ⟨zc rfl rfl, zc rfl rfl, zc rfl rfl, zc rfl rfl, trivial⟩ trivial) ?_
  refine SOps.nil ?_
  refine SCode.seq ?_
  refine SCode.seq ?_
  obtain ⟨c_1, g2, h⟩ := bind_out h
  try dsimp only at h
  refine SCode.region (show SOps _ _ _ [0, 1, 2] _ _ from ?_)
  refine SOps.q rfl (.plain rfl) rfl (q_move rfl rfl) ?_
  refine SOps.q rfl (.plain rfl) rfl (q_call (chargenetref02_Right_ok F a3_now c_1 g2) [] rfl fn36 ⟨⟨_, rfl, .inl ⟨rfl, rfl⟩⟩, trivial⟩ (.inl rfl)) ?_
  refine SOps.q rfl (.plain rfl) rfl (q_not rfl rfl) ?_
  refine SOps.sub (st' := ⟨[(0, .c (.vec a0_grants.length 4 (gL cSGrant dSGrant a0_grants))), (1, .c (.str a1_user)), (2, .c (.str a2_role)), (3, .c (.int .i64 a3_now)), (15, .c (.bool ((!c_1))))], []⟩) (sub_gen [] rfl rfl ⟨zc rfl rfl, zc rfl rfl, zc rfl rfl, zc rfl rfl, zc rfl rfl, trivial⟩ trivial) ?_
  refine SOps.nil ?_
  rcases cond_out h with ⟨g3, h⟩ | ⟨g3, h⟩
  · refine SCode.cond_t rfl g3 ?_
    refine SCode.seq ?_
    refine SCode.region (show SOps _ _ _ [0, 1, 2] _ _ from ?_)
    refine SOps.q rfl (.plain rfl) rfl (q_move rfl rfl) ?_
    refine SOps.q rfl (.plain rfl) rfl (q_assign rfl rfl) ?_
    refine SOps.q rfl (.plain rfl) rfl (q_assign rfl rfl) ?_
    refine SOps.sub (st' := ⟨[(8, .c (.vec a0_grants.length 4 (gL cSGrant dSGrant a0_grants))), (9, .c (.int .i64 2))], []⟩) (sub_gen [] rfl rfl ⟨zc rfl rfl, zc rfl rfl, trivial⟩ trivial) ?_
    refine SOps.nil ?_
    refine SCode.ret ?_
    obtain rfl := Option.some.inj h
    exact ⟨⟨[(8, .c (.vec a0_grants.length 4 (gL cSGrant dSGrant a0_grants))), (9, .c (.int .i64 2))], []⟩, _, sub_gen [] rfl rfl ⟨zc rfl rfl, zc rfl rfl, trivial⟩ trivial, resA2 (v1 := .c (.vec a0_grants.length 4 (gL cSGrant dSGrant a0_grants))) (v2 := .c (.int .i64 2)) rfl rfl rfl, rfl⟩
  refine SCode.cond_f rfl g3 ?_
  refine SCode.skip ?_
  refine SCode.join (σ := Unit) (S := fun s => ⟨[(0, .c (.vec a0_grants.length 4 (gL cSGrant dSGrant a0_grants)))], []⟩) (g := fun s => chargenetref39_Take_p4 a0_grants = some r) ?_ ?_
  rotate_left
  · refine SCode.seq ?_
    refine SCode.region (show SOps _ _ _ [0] _ _ from ?_)
    refine SOps.q rfl (.plain rfl) rfl (q_assign rfl rfl) ?_
    refine SOps.sub (st' := ⟨[(0, .c (.vec a0_grants.length 4 (gL cSGrant dSGrant a0_grants))), (1, .c (.str a1_user)), (2, .c (.str a2_role)), (3, .c (.int .i64 a3_now)), (10, .c (.int .i64 0))], []⟩) (sub_gen [] rfl rfl ⟨zc rfl rfl, zc rfl rfl, zc rfl rfl, zc rfl rfl, zc rfl rfl, trivial⟩ trivial) ?_
    refine SOps.nil ?_
    refine SCode.block ?_
    refine SCode.sub (st' := ⟨[(0, .c (.vec a0_grants.length 4 (gL cSGrant dSGrant a0_grants))), (1, .c (.str a1_user)), (2, .c (.str a2_role)), (3, .c (.int .i64 a3_now)), (10, .c (.int .i64 0))], []⟩) (sub_gen [] rfl rfl ⟨zc rfl rfl, zc rfl rfl, zc rfl rfl, zc rfl rfl, zc rfl rfl, trivial⟩ trivial) ?_
    refine (SCode.loop (σ := Nat × Int) (S := fun s => ⟨[(0, .c (.vec a0_grants.length 4 (gL cSGrant dSGrant a0_grants))), (1, .c (.str a1_user)), (2, .c (.str a2_role)), (3, .c (.int .i64 a3_now)), (10, .c (.int .i64 s.2))], []⟩) (g := fun s => chargenetref39_Take_l28 F a0_grants a1_user a2_role a3_now s.1 s.2 = some r) (μ := fun s => s.1) (F, 0) h ?_)
    rintro ⟨n_28, i_16⟩ h
    replace h : chargenetref39_Take_l28 F a0_grants a1_user a2_role a3_now n_28 i_16 = some r := h
    show SCode _ _ _ ⟨[(0, .c (.vec a0_grants.length 4 (gL cSGrant dSGrant a0_grants))), (1, .c (.str a1_user)), (2, .c (.str a2_role)), (3, .c (.int .i64 a3_now)), (10, .c (.int .i64 i_16))], []⟩ _
    cases n_28 with
    | zero => cases h
    | succ n_28 =>
      replace h : chargenetref39_Take_b28 F a0_grants a1_user a2_role a3_now (fun i_16 => chargenetref39_Take_l28 F a0_grants a1_user a2_role a3_now n_28 i_16) i_16 = some r := h
      unfold chargenetref39_Take_b28 at h
      refine SCode.seq ?_
      refine SCode.seq ?_
      refine SCode.region (show SOps _ _ _ [0, 1, 2, 3] _ _ from ?_)
      refine SOps.q rfl (.plain rfl) rfl (q_move rfl rfl) ?_
      refine SOps.q rfl (.plain rfl) rfl (q_move rfl rfl) ?_
      refine SOps.q rfl (.plain rfl) rfl (q_len_vec rfl rfl sl23) ?_
      refine SOps.q rfl (.plain rfl) rfl (q_lss rfl rfl rfl) ?_
      refine SOps.sub (st' := ⟨[(0, .c (.vec a0_grants.length 4 (gL cSGrant dSGrant a0_grants))), (1, .c (.str a1_user)), (2, .c (.str a2_role)), (3, .c (.int .i64 a3_now)), (10, .c (.int .i64 i_16)), (20, .c (.bool (decide (i_16 < ((a0_grants).length : Int)))))], []⟩) (sub_gen [] rfl rfl ⟨zc rfl rfl, zc rfl rfl, zc rfl rfl, zc rfl rfl, zc rfl rfl, zc rfl rfl, trivial⟩ trivial) ?_
      refine SOps.nil ?_
      rcases cond_out h with ⟨g29, h⟩ | ⟨g29, h⟩
      · refine SCode.cond_t rfl g29 ?_
        refine SCode.skip ?_
        refine SCode.seq ?_
        refine SCode.block ?_
        refine SCode.seq ?_
        obtain ⟨g30, h⟩ := guard_out h
        refine SCode.region (show SOps _ _ _ [0, 1, 2, 3, 4, 5] _ _ from ?_)
        refine SOps.q rfl (.plain rfl) rfl (q_move rfl rfl) ?_
        refine SOps.q rfl (.plain rfl) rfl (q_move rfl rfl) ?_
        refine SOps.q rfl (.plain rfl) rfl (q_index_vec rfl rfl rfl sl23 rfl g30.1 g30.2) ?_
        refine SOps.q rfl (.plain rfl) rfl (q_load_eptr_all rfl rfl rfl ty37) ?_
        refine SOps.e rfl (.plain rfl) (e_alloc rfl rfl rfl z37) ?_
        refine SOps.e rfl (.plain rfl) (e_store_box rfl rfl rfl rfl rfl ty37 rfl rfl rfl rfl) ?_
        refine SOps.sub (st' := ⟨[(0, .c (.vec a0_grants.length 4 (gL cSGrant dSGrant a0_grants))), (1, .c (.str a1_user)), (2, .c (.str a2_role)), (3, .c (.int .i64 a3_now)), (10, .c (.int .i64 i_16)), (11, .c (.ptr 0 0))], [.box [.str ((a0_grants.getD i_16.toNat dSGrant).User), .str ((a0_grants.getD i_16.toNat dSGrant).Role), .int .i64 ((a0_grants.getD i_16.toNat dSGrant).Span_From), .int .i64 ((a0_grants.getD i_16.toNat dSGrant).Span_To)]]⟩) (sub_gen [0] rfl rfl ⟨zc rfl rfl, zc rfl rfl, zc rfl rfl, zc rfl rfl, zc rfl rfl, zc rfl rfl, trivial⟩ ⟨⟨_, rfl, ⟨ii rfl rfl, ii rfl rfl, ii rfl rfl, ii rfl rfl, trivial⟩⟩, trivial⟩) ?_
        refine SOps.nil ?_
        refine SCode.join (σ := Bool) (S := fun s => ⟨[(0, .c (.vec a0_grants.length 4 (gL cSGrant dSGrant a0_grants))), (1, .c (.str a1_user)), (2, .c (.str a2_role)), (3, .c (.int .i64 a3_now)), (10, .c (.int .i64 i_16)), (41, .c (.bool s))], []⟩) (g := fun s => chargenetref39_Take_p35 a0_grants a3_now i_16 (fun i_16 => chargenetref39_Take_l28 F a0_grants a1_user a2_role a3_now n_28 i_16) s = some r) ?_ ?_
        rotate_left
        · rcases cond_out h with ⟨g36, h⟩ | ⟨g36, h⟩
          · rcases cond_out h with ⟨g37, h⟩ | ⟨g37, h⟩
            · obtain ⟨c_38, g39, h⟩ := bind_out h
              try dsimp only at h
              refine SCode.region (show SOps _ _ _ [0, 1, 2, 3, 4, 5, 6, 7, 8, 9, 10, 11, 12, 13, 14] _ _ from ?_)
              refine SOps.q rfl (.plain rfl) rfl (q_field_ptr rfl rfl fd37_0) ?_
              refine SOps.q rfl (.plain rfl) rfl (q_load_ptr rfl rfl rfl rfl ty9) ?_
              refine SOps.q rfl (.plain rfl) rfl (q_move rfl rfl) ?_
              refine SOps.q rfl (.plain rfl) rfl (q_eqlS rfl rfl rfl) ?_
              refine SOps.q rfl (.plain rfl) rfl (q_move rfl rfl) ?_
              refine SOps.q rfl (.guard 4 31 true rfl rfl (gT g36)) rfl (q_field_ptr rfl rfl fd37_1) ?_
              refine SOps.q rfl (.guard 4 31 true rfl rfl (gT g36)) rfl (q_load_ptr rfl rfl rfl rfl ty9) ?_
              refine SOps.q rfl (.guard 4 31 true rfl rfl (gT g36)) rfl (q_move rfl rfl) ?_
              refine SOps.q rfl (.guard 4 31 true rfl rfl (gT g36)) rfl (q_eqlS rfl rfl rfl) ?_
              refine SOps.q rfl (.plain rfl) rfl (q_pick_t rfl rfl g36 rfl) ?_
              refine SOps.q rfl (.plain rfl) rfl (q_move rfl rfl) ?_
              refine SOps.q rfl (.guard 10 37 true rfl rfl (gT g37)) rfl (q_load_ptr_all rfl rfl rfl rfl rfl ty37) ?_
              refine SOps.q rfl (.guard 10 37 true rfl rfl (gT g37)) rfl (q_move rfl rfl) ?_
              refine SOps.q rfl (.guard 10 37 true rfl rfl (gT g37)) rfl (q_call (chargenetref39_holds_ok F (a0_grants.getD i_16.toNat dSGrant) a3_now c_38 g39) [] rfl fn31 ⟨⟨rfl, rfl⟩, ⟨_, rfl, .inl ⟨rfl, rfl⟩⟩, trivial⟩ (.inl rfl)) ?_
              refine SOps.q rfl (.plain rfl) rfl (q_pick_t rfl rfl g37 rfl) ?_
              refine SOps.sub (st' := ⟨[(0, .c (.vec a0_grants.length 4 (gL cSGrant dSGrant a0_grants))), (1, .c (.str a1_user)), (2, .c (.str a2_role)), (3, .c (.int .i64 a3_now)), (10, .c (.int .i64 i_16)), (41, .c (.bool c_38))], []⟩) (sub_gen [] rfl rfl ⟨zc rfl rfl, zc rfl rfl, zc rfl rfl, zc rfl rfl, zc rfl rfl, zc rfl rfl, trivial⟩ trivial) ?_
              refine SOps.nil ?_
              exact ⟨c_38, h, sub_gen [] rfl rfl ⟨zc rfl rfl, zc rfl rfl, zc rfl rfl, zc rfl rfl, zc rfl rfl, zc rfl rfl, trivial⟩ trivial⟩
            refine SCode.region (show SOps _ _ _ [0, 1, 2, 3, 4, 5, 6, 7, 8, 9, 10, 11, 12, 13, 14] _ _ from ?_)
            refine SOps.q rfl (.plain rfl) rfl (q_field_ptr rfl rfl fd37_0) ?_
            refine SOps.q rfl (.plain rfl) rfl (q_load_ptr rfl rfl rfl rfl ty9) ?_
            refine SOps.q rfl (.plain rfl) rfl (q_move rfl rfl) ?_
            refine SOps.q rfl (.plain rfl) rfl (q_eqlS rfl rfl rfl) ?_
            refine SOps.q rfl (.plain rfl) rfl (q_move rfl rfl) ?_
            refine SOps.q rfl (.guard 4 31 true rfl rfl (gT g36)) rfl (q_field_ptr rfl rfl fd37_1) ?_
            refine SOps.q rfl (.guard 4 31 true rfl rfl (gT g36)) rfl (q_load_ptr rfl rfl rfl rfl ty9) ?_
            refine SOps.q rfl (.guard 4 31 true rfl rfl (gT g36)) rfl (q_move rfl rfl) ?_
            refine SOps.q rfl (.guard 4 31 true rfl rfl (gT g36)) rfl (q_eqlS rfl rfl rfl) ?_
            refine SOps.q rfl (.plain rfl) rfl (q_pick_t rfl rfl g36 rfl) ?_
            refine SOps.q rfl (.plain rfl) rfl (q_move rfl rfl) ?_
            refine SOps.skip rfl 10 37 true rfl rfl (.inl (gF g37)) rfl ?_
            refine SOps.skip rfl 10 37 true rfl rfl (.inl (gF g37)) rfl ?_
            refine SOps.skip rfl 10 37 true rfl rfl (.inl (gF g37)) rfl ?_
            refine SOps.q rfl (.plain rfl) rfl (q_pick_f rfl rfl g37 rfl) ?_
            refine SOps.sub (st' := ⟨[(0, .c (.vec a0_grants.length 4 (gL cSGrant dSGrant a0_grants))), (1, .c (.str a1_user)), (2, .c (.str a2_role)), (3, .c (.int .i64 a3_now)), (10, .c (.int .i64 i_16)), (41, .c (.bool false))], []⟩) (sub_gen [] rfl rfl ⟨zc rfl rfl, zc rfl rfl, zc rfl rfl, zc rfl rfl, zc rfl rfl, zc rfl rfl, trivial⟩ trivial) ?_
            refine SOps.nil ?_
            exact ⟨false, h, sub_gen [] rfl rfl ⟨zc rfl rfl, zc rfl rfl, zc rfl rfl, zc rfl rfl, zc rfl rfl, zc rfl rfl, trivial⟩ trivial⟩
          refine SCode.region (show SOps _ _ _ [0, 1, 2, 3, 4, 5, 6, 7, 8, 9, 10, 11, 12, 13, 14] _ _ from ?_)
          refine SOps.q rfl (.plain rfl) rfl (q_field_ptr rfl rfl fd37_0) ?_
          refine SOps.q rfl (.plain rfl) rfl (q_load_ptr rfl rfl rfl rfl ty9) ?_
          refine SOps.q rfl (.plain rfl) rfl (q_move rfl rfl) ?_
          refine SOps.q rfl (.plain rfl) rfl (q_eqlS rfl rfl rfl) ?_
          refine SOps.q rfl (.plain rfl) rfl (q_move rfl rfl) ?_
          refine SOps.skip rfl 4 31 true rfl rfl (.inl (gF g36)) rfl ?_
          refine SOps.skip rfl 4 31 true rfl rfl (.inl (gF g36)) rfl ?_
          refine SOps.skip rfl 4 31 true rfl rfl (.inl (gF g36)) rfl ?_
          refine SOps.skip rfl 4 31 true rfl rfl (.inl (gF g36)) rfl ?_
          refine SOps.q rfl (.plain rfl) rfl (q_pick_f rfl rfl g36 rfl) ?_
          refine SOps.q rfl (.plain rfl) rfl (q_move rfl rfl) ?_
          refine SOps.skip rfl 10 37 true rfl rfl (.inl rfl) rfl ?_
          refine SOps.skip rfl 10 37 true rfl rfl (.inl rfl) rfl ?_
          refine SOps.skip rfl 10 37 true rfl rfl (.inl rfl) rfl ?_
          refine SOps.q rfl (.plain rfl) rfl (q_pick_f rfl rfl rfl rfl) ?_
          refine SOps.sub (st' := ⟨[(0, .c (.vec a0_grants.length 4 (gL cSGrant dSGrant a0_grants))), (1, .c (.str a1_user)), (2, .c (.str a2_role)), (3, .c (.int .i64 a3_now)), (10, .c (.int .i64 i_16)), (41, .c (.bool false))], []⟩) (sub_gen [] rfl rfl ⟨zc rfl rfl, zc rfl rfl, zc rfl rfl, zc rfl rfl, zc rfl rfl, zc rfl rfl, trivial⟩ trivial) ?_
          refine SOps.nil ?_
          exact ⟨false, h, sub_gen [] rfl rfl ⟨zc rfl rfl, zc rfl rfl, zc rfl rfl, zc rfl rfl, zc rfl rfl, zc rfl rfl, trivial⟩ trivial⟩
        rintro t41_31 h
        show SCode _ _ _ ⟨[(0, .c (.vec a0_grants.length 4 (gL cSGrant dSGrant a0_grants))), (1, .c (.str a1_user)), (2, .c (.str a2_role)), (3, .c (.int .i64 a3_now)), (10, .c (.int .i64 i_16)), (41, .c (.bool t41_31))], []⟩ _
        replace h : chargenetref39_Take_p35 a0_grants a3_now i_16 (fun i_16 => chargenetref39_Take_l28 F a0_grants a1_user a2_role a3_now n_28 i_16) t41_31 = some r := h
        unfold chargenetref39_Take_p35 at h
        rcases cond_out h with ⟨g32, h⟩ | ⟨g32, h⟩
        · refine SCode.cond_t rfl g32 ?_
          refine SCode.seq ?_
          obtain ⟨g33, h⟩ := guard_out h
          refine SCode.region (show SOps _ _ _ [0, 1, 2, 3] _ _ from ?_)
          refine SOps.e rfl (.plain rfl) (e_bslice0L (α := SGrant) (c := cSGrant) (d0 := dSGrant) rfl rfl rfl rfl sl23) ?_
          refine SOps.q rfl (.plain rfl) rfl (q_move rfl rfl) ?_
          refine SOps.e rfl (.plain rfl) (e_appendL (c := cSGrant) (d0 := dSGrant) (l := ([] : List SGrant)) (l2 := a0_grants) rfl rfl rfl rfl rfl rfl (.inl rfl) sl23 z37 rfl rfl oneSGrant g33.1 g33.2) ?_
          refine SOps.q rfl (.plain rfl) rfl (q_assign rfl rfl) ?_
          refine SOps.sub (st' := ⟨[(3, .c (.int .i64 a3_now)), (10, .c (.int .i64 i_16)), (12, .c (.own 0 ((([] : List SGrant)) ++ a0_grants).length))], [.arr 37 4 ((([] : List SGrant)) ++ a0_grants).length (gL cSGrant dSGrant ((([] : List SGrant)) ++ a0_grants))]⟩) (sub_gen [1] rfl rfl ⟨zc rfl rfl, zc rfl rfl, zc rfl rfl, trivial⟩ ⟨oa rfl, trivial⟩) ?_
          refine SOps.nil ?_
          refine SCode.seq ?_
          obtain ⟨g34, h⟩ := guard_out h
          refine SCode.region (show SOps _ _ _ [0, 1, 2, 3, 4, 5, 6] _ _ from ?_)
          refine SOps.q rfl (.plain rfl) rfl (q_move rfl rfl) ?_
          refine SOps.q rfl (.plain rfl) rfl (q_move rfl rfl) ?_
          refine SOps.q rfl (.plain rfl) rfl (q_move rfl rfl) ?_
          refine SOps.q rfl (.plain rfl) rfl (q_index_own rfl rfl rfl sl23 g34.1 g34.2) ?_
          refine SOps.q rfl (.plain rfl) rfl (q_field_aptr rfl rfl fd37_2) ?_
          refine SOps.q rfl (.plain rfl) rfl (q_field_aptr rfl rfl fd35_1) ?_
          refine SOps.e rfl (.plain rfl) (e_storeL (SGrant.mk ((((([] : List SGrant)) ++ a0_grants).getD i_16.toNat dSGrant).User) ((((([] : List SGrant)) ++ a0_grants).getD i_16.toNat dSGrant).Role) ((((([] : List SGrant)) ++ a0_grants).getD i_16.toNat dSGrant).Span_From) a3_now) rfl rfl rfl rfl rfl (toNat_lt g34) ty3 rfl rfl rfl rfl rfl rfl) ?_
          refine SOps.sub (st' := ⟨[(12, .c (.own 0 (((([] : List SGrant)) ++ a0_grants).set i_16.toNat (SGrant.mk ((((([] : List SGrant)) ++ a0_grants).getD i_16.toNat dSGrant).User) ((((([] : List SGrant)) ++ a0_grants).getD i_16.toNat dSGrant).Role) ((((([] : List SGrant)) ++ a0_grants).getD i_16.toNat dSGrant).Span_From) a3_now)).length))], [.arr 37 4 (((([] : List SGrant)) ++ a0_grants).set i_16.toNat (SGrant.mk ((((([] : List SGrant)) ++ a0_grants).getD i_16.toNat dSGrant).User) ((((([] : List SGrant)) ++ a0_grants).getD i_16.toNat dSGrant).Role) ((((([] : List SGrant)) ++ a0_grants).getD i_16.toNat dSGrant).Span_From) a3_now)).length (gL cSGrant dSGrant (((([] : List SGrant)) ++ a0_grants).set i_16.toNat (SGrant.mk ((((([] : List SGrant)) ++ a0_grants).getD i_16.toNat dSGrant).User) ((((([] : List SGrant)) ++ a0_grants).getD i_16.toNat dSGrant).Role) ((((([] : List SGrant)) ++ a0_grants).getD i_16.toNat dSGrant).Span_From) a3_now)))]⟩) (sub_gen [0] rfl rfl ⟨⟨_, rfl, .inl ⟨rfl, congrArg (Cell.own 0) (List.length_set : (((([] : List SGrant)) ++ a0_grants).set i_16.toNat (SGrant.mk ((((([] : List SGrant)) ++ a0_grants).getD i_16.toNat dSGrant).User) ((((([] : List SGrant)) ++ a0_grants).getD i_16.toNat dSGrant).Role) ((((([] : List SGrant)) ++ a0_grants).getD i_16.toNat dSGrant).Span_From) a3_now)).length = ((([] : List SGrant)) ++ a0_grants).length).symm⟩⟩, trivial⟩ ⟨oa rfl, trivial⟩) ?_
          refine SOps.nil ?_
          refine SCode.seq ?_
          refine SCode.region (show SOps _ _ _ [0, 1, 2] _ _ from ?_)
          refine SOps.q rfl (.plain rfl) rfl (q_move rfl rfl) ?_
          refine SOps.q rfl (.plain rfl) rfl (q_assign rfl rfl) ?_
          refine SOps.q rfl (.plain rfl) rfl (q_assign rfl rfl) ?_
          refine SOps.sub (st' := ⟨[(8, .c (.own 0 (((([] : List SGrant)) ++ a0_grants).set i_16.toNat (SGrant.mk ((((([] : List SGrant)) ++ a0_grants).getD i_16.toNat dSGrant).User) ((((([] : List SGrant)) ++ a0_grants).getD i_16.toNat dSGrant).Role) ((((([] : List SGrant)) ++ a0_grants).getD i_16.toNat dSGrant).Span_From) a3_now)).length)), (9, .c (.int .i64 0))], [.arr 37 4 (((([] : List SGrant)) ++ a0_grants).set i_16.toNat (SGrant.mk ((((([] : List SGrant)) ++ a0_grants).getD i_16.toNat dSGrant).User) ((((([] : List SGrant)) ++ a0_grants).getD i_16.toNat dSGrant).Role) ((((([] : List SGrant)) ++ a0_grants).getD i_16.toNat dSGrant).Span_From) a3_now)).length (gL cSGrant dSGrant (((([] : List SGrant)) ++ a0_grants).set i_16.toNat (SGrant.mk ((((([] : List SGrant)) ++ a0_grants).getD i_16.toNat dSGrant).User) ((((([] : List SGrant)) ++ a0_grants).getD i_16.toNat dSGrant).Role) ((((([] : List SGrant)) ++ a0_grants).getD i_16.toNat dSGrant).Span_From) a3_now)))]⟩) (sub_gen [0] rfl rfl ⟨zc rfl rfl, zc rfl rfl, trivial⟩ ⟨oa rfl, trivial⟩) ?_
          refine SOps.nil ?_
          refine SCode.ret ?_
          obtain rfl := Option.some.inj h
          exact ⟨⟨[(8, .c (.vec (((([] : List SGrant)) ++ a0_grants).set i_16.toNat (SGrant.mk ((((([] : List SGrant)) ++ a0_grants).getD i_16.toNat dSGrant).User) ((((([] : List SGrant)) ++ a0_grants).getD i_16.toNat dSGrant).Role) ((((([] : List SGrant)) ++ a0_grants).getD i_16.toNat dSGrant).Span_From) a3_now)).length 4 (gL cSGrant dSGrant (((([] : List SGrant)) ++ a0_grants).set i_16.toNat (SGrant.mk ((((([] : List SGrant)) ++ a0_grants).getD i_16.toNat dSGrant).User) ((((([] : List SGrant)) ++ a0_grants).getD i_16.toNat dSGrant).Role) ((((([] : List SGrant)) ++ a0_grants).getD i_16.toNat dSGrant).Span_From) a3_now))))), (9, .c (.int .i64 0))], []⟩, _, sub_gen [] rfl rfl ⟨⟨_, rfl, .inr (.inl ⟨_, _, _, _, _, _, _, rfl, rfl, rfl, Nat.le_refl _, fun _ _ _ _ => rfl, by decide⟩)⟩, zc rfl rfl, trivial⟩ trivial, resA2 (v1 := .c (.vec (((([] : List SGrant)) ++ a0_grants).set i_16.toNat (SGrant.mk ((((([] : List SGrant)) ++ a0_grants).getD i_16.toNat dSGrant).User) ((((([] : List SGrant)) ++ a0_grants).getD i_16.toNat dSGrant).Role) ((((([] : List SGrant)) ++ a0_grants).getD i_16.toNat dSGrant).Span_From) a3_now)).length 4 (gL cSGrant dSGrant (((([] : List SGrant)) ++ a0_grants).set i_16.toNat (SGrant.mk ((((([] : List SGrant)) ++ a0_grants).getD i_16.toNat dSGrant).User) ((((([] : List SGrant)) ++ a0_grants).getD i_16.toNat dSGrant).Role) ((((([] : List SGrant)) ++ a0_grants).getD i_16.toNat dSGrant).Span_From) a3_now))))) (v2 := .c (.int .i64 0)) rfl rfl rfl, rfl⟩
        refine SCode.cond_f rfl g32 ?_
        refine SCode.skip ?_
        refine SCode.region (show SOps _ _ _ [0, 1, 2] _ _ from ?_)
        refine SOps.q rfl (.plain rfl) rfl (q_move rfl rfl) ?_
        refine SOps.q rfl (.plain rfl) rfl (q_add rfl rfl rfl) ?_
        refine SOps.q rfl (.plain rfl) rfl (q_assign rfl rfl) ?_
        refine SOps.sub (st' := ⟨[(0, .c (.vec a0_grants.length 4 (gL cSGrant dSGrant a0_grants))), (1, .c (.str a1_user)), (2, .c (.str a2_role)), (3, .c (.int .i64 a3_now)), (10, .c (.int .i64 (IntKind.wrap .i64 (i_16 + 1))))], []⟩) (sub_gen [] rfl rfl ⟨zc rfl rfl, zc rfl rfl, zc rfl rfl, zc rfl rfl, zc rfl rfl, trivial⟩ trivial) ?_
        refine SOps.nil ?_
        exact ⟨(n_28, IntKind.wrap .i64 (i_16 + 1)), h, Nat.lt_succ_self n_28, sub_gen [] rfl rfl ⟨zc rfl rfl, zc rfl rfl, zc rfl rfl, zc rfl rfl, zc rfl rfl, trivial⟩ trivial⟩
      refine SCode.cond_f rfl g29 ?_
      refine SCode.exit ?_
      exact ⟨(), h, sub_gen [] rfl rfl ⟨zc rfl rfl, trivial⟩ trivial⟩
  rintro ⟨⟩ h
  show SCode _ _ _ ⟨[(0, .c (.vec a0_grants.length 4 (gL cSGrant dSGrant a0_grants)))], []⟩ _
  replace h : chargenetref39_Take_p4 a0_grants = some r := h
  unfold chargenetref39_Take_p4 at h
  refine SCode.seq ?_
  refine SCode.region (show SOps _ _ _ [0, 1, 2] _ _ from ?_)
  refine SOps.q rfl (.plain rfl) rfl (q_move rfl rfl) ?_
  refine SOps.q rfl (.plain rfl) rfl (q_assign rfl rfl) ?_
  refine SOps.q rfl (.plain rfl) rfl (q_assign rfl rfl) ?_
  refine SOps.sub (st' := ⟨[(8, .c (.vec a0_grants.length 4 (gL cSGrant dSGrant a0_grants))), (9, .c (.int .i64 8))], []⟩) (sub_gen [] rfl rfl ⟨zc rfl rfl, zc rfl rfl, trivial⟩ trivial) ?_
  refine SOps.nil ?_
  refine SCode.ret ?_
  obtain rfl := Option.some.inj h
  exact ⟨⟨[(8, .c (.vec a0_grants.length 4 (gL cSGrant dSGrant a0_grants))), (9, .c (.int .i64 8))], []⟩, _, sub_gen [] rfl rfl ⟨zc rfl rfl, zc rfl rfl, trivial⟩ trivial, resA2 (v1 := .c (.vec a0_grants.length 4 (gL cSGrant dSGrant a0_grants))) (v2 := .c (.int .i64 8)) rfl rfl rfl, rfl⟩
set_option maxRecDepth 100000 in
set_option maxHeartbeats 8000000 in
theorem chargenetlaw39_AccessTakes_ok (F : Nat) (a0_grants : List SGrant) (a1_q : SAsk) (a2_role : ByteArray) (r : Bool) (h : chargenetlaw39_AccessTakes F a0_grants a1_q a2_role = some r) :
    SFun Try.prog 6 [] [.c (.vec a0_grants.length 4 (gL cSGrant dSGrant a0_grants)), .a [.str a1_q.User, .int .i64 a1_q.Action, .str a1_q.Object, .int .i64 a1_q.Now], .c (.str a2_role)] (fun x _ => x = .c (.bool r)) := by
  refine SFun.of (n := 46) Try.func6 rfl rfl rfl ?_
  unfold chargenetlaw39_AccessTakes at h
  show SCode _ _ _ ⟨[(0, .c (.vec a0_grants.length 4 (gL cSGrant dSGrant a0_grants))), (1, .a [.str a1_q.User, .int .i64 a1_q.Action, .str a1_q.Object, .int .i64 a1_q.Now]), (2, .c (.str a2_role))], []⟩ _
  refine SCode.seq ?_
  refine SCode.region (show SOps _ _ _ [0, 1] _ _ from ?_)
  refine SOps.e rfl (.plain rfl) (e_box rfl rfl rfl rfl rfl rfl) ?_
  refine SOps.q rfl (.plain rfl) rfl (q_assign rfl rfl) ?_
  refine SOps.sub (st' := ⟨[(0, .c (.vec a0_grants.length 4 (gL cSGrant dSGrant a0_grants))), (2, .c (.str a2_role)), (4, .c (.ptr 0 0))], [.box [.str a1_q.User, .int .i64 a1_q.Action, .str a1_q.Object, .int .i64 a1_q.Now]]⟩) (sub_gen [0] rfl rfl ⟨zc rfl rfl, zc rfl rfl, zc rfl rfl, trivial⟩ ⟨⟨_, rfl, ⟨ii rfl rfl, ii rfl rfl, ii rfl rfl, ii rfl rfl, trivial⟩⟩, trivial⟩) ?_
  refine SOps.nil ?_
  refine SCode.seq ?_
  refine SCode.seq ?_
  refine SCode.region (show SOps _ _ _ [0, 1, 2] _ _ from ?_)
  refine SOps.q rfl (.plain rfl) rfl (q_move rfl rfl) ?_
  refine SOps.q rfl (.plain rfl) rfl (q_len_vec rfl rfl sl23) ?_
  refine SOps.q rfl (.plain rfl) rfl (q_gtr rfl rfl rfl) ?_
  refine SOps.sub (st' := ⟨[(0, .c (.vec a0_grants.length 4 (gL cSGrant dSGrant a0_grants))), (2, .c (.str a2_role)), (4, .c (.ptr 0 0)), (13, .c (.bool (decide (300 < ((a0_grants).length : Int)))))], [.box [.str a1_q.User, .int .i64 a1_q.Action, .str a1_q.Object, .int .i64 a1_q.Now]]⟩) (sub_gen [0] rfl rfl ⟨zc rfl rfl, zc rfl rfl, zc rfl rfl, zc rfl rfl, trivial⟩ ⟨⟨_, rfl, ⟨ii rfl rfl, ii rfl rfl, ii rfl rfl, ii rfl rfl, trivial⟩⟩, trivial⟩) ?_
  refine SOps.nil ?_
  rcases cond_out h with ⟨g1, h⟩ | ⟨g1, h⟩
  · refine SCode.cond_t rfl g1 ?_
    refine SCode.seq ?_
    obtain ⟨c_2, g3, h⟩ := bind_out h
    try dsimp only at h
    refine SCode.region (show SOps _ _ _ [0, 1] _ _ from ?_)
    refine SOps.q rfl (.plain rfl) rfl (q_call (chargenetlaw39_exampleHolds_ok F  c_2 g3) [] rfl fn11 trivial (.inl rfl)) ?_
    refine SOps.q rfl (.plain rfl) rfl (q_assign rfl rfl) ?_
    refine SOps.sub (st' := ⟨[(6, .c (.bool c_2))], []⟩) (sub_gen [] rfl rfl ⟨zc rfl rfl, trivial⟩ trivial) ?_
    refine SOps.nil ?_
    refine SCode.ret ?_
    obtain rfl := Option.some.inj h
    exact ⟨⟨[(6, .c (.bool c_2))], []⟩, _, sub_gen [] rfl rfl ⟨zc rfl rfl, trivial⟩ trivial, resA1 (v := .c (.bool c_2)) rfl rfl, rfl⟩
  refine SCode.cond_f rfl g1 ?_
  refine SCode.skip ?_
  refine SCode.seq ?_
  obtain ⟨c_4, g5, h⟩ := bind_out h
  try dsimp only at h
  refine SCode.region (show SOps _ _ _ [0, 1, 2, 3, 4, 5, 6, 7, 8, 9, 10, 11] _ _ from ?_)
  refine SOps.q rfl (.plain rfl) rfl (q_move rfl rfl) ?_
  refine SOps.q rfl (.plain rfl) rfl (q_field_ptr rfl rfl fd31_0) ?_
  refine SOps.q rfl (.plain rfl) rfl (q_load_ptr rfl rfl rfl rfl ty9) ?_
  refine SOps.q rfl (.plain rfl) rfl (q_move rfl rfl) ?_
  refine SOps.q rfl (.plain rfl) rfl (q_field_ptr rfl rfl fd31_3) ?_
  refine SOps.q rfl (.plain rfl) rfl (q_load_ptr rfl rfl rfl rfl ty3) ?_
  refine SOps.q rfl (.plain rfl) rfl (q_call (access_Take_ok F a0_grants a1_q.User a2_role a1_q.Now c_4 g5) [] rfl fn19 ⟨⟨_, rfl, .inl ⟨rfl, rfl⟩⟩, ⟨_, rfl, .inl ⟨rfl, rfl⟩⟩, ⟨_, rfl, .inl ⟨rfl, rfl⟩⟩, ⟨_, rfl, .inl ⟨rfl, rfl⟩⟩, trivial⟩ (.inl rfl)) ?_
  refine SOps.q rfl (.plain rfl) rfl (q_move rfl rfl) ?_
  refine SOps.q rfl (.plain rfl) rfl (q_extract rfl rfl rfl) ?_
  refine SOps.q rfl (.plain rfl) rfl (q_extract rfl rfl rfl) ?_
  refine SOps.q rfl (.plain rfl) rfl (q_assign rfl rfl) ?_
  refine SOps.q rfl (.plain rfl) rfl (q_assign rfl rfl) ?_
  refine SOps.sub (st' := ⟨[(0, .c (.vec a0_grants.length 4 (gL cSGrant dSGrant a0_grants))), (2, .c (.str a2_role)), (4, .c (.ptr 0 0)), (7, .c (.vec c_4.1.length 4 (gL cSGrant dSGrant c_4.1))), (8, .c (.int .i64 c_4.2))], [.box [.str a1_q.User, .int .i64 a1_q.Action, .str a1_q.Object, .int .i64 a1_q.Now]]⟩) (sub_gen [0] rfl rfl ⟨zc rfl rfl, zc rfl rfl, zc rfl rfl, zc rfl rfl, zc rfl rfl, trivial⟩ ⟨⟨_, rfl, ⟨ii rfl rfl, ii rfl rfl, ii rfl rfl, ii rfl rfl, trivial⟩⟩, trivial⟩) ?_
  refine SOps.nil ?_
  refine SCode.seq ?_
  obtain ⟨c_6, g7, h⟩ := bind_out h
  try dsimp only at h
  refine SCode.region (show SOps _ _ _ [0, 1, 2, 3, 4, 5, 6, 7, 8, 9, 10, 11] _ _ from ?_)
  refine SOps.q rfl (.plain rfl) rfl (q_move rfl rfl) ?_
  refine SOps.q rfl (.plain rfl) rfl (q_field_ptr rfl rfl fd31_0) ?_
  refine SOps.q rfl (.plain rfl) rfl (q_load_ptr rfl rfl rfl rfl ty9) ?_
  refine SOps.q rfl (.plain rfl) rfl (q_move rfl rfl) ?_
  refine SOps.q rfl (.plain rfl) rfl (q_field_ptr rfl rfl fd31_3) ?_
  refine SOps.q rfl (.plain rfl) rfl (q_load_ptr rfl rfl rfl rfl ty3) ?_
  refine SOps.q rfl (.plain rfl) rfl (q_call (chargenetref39_Take_ok F a0_grants a1_q.User a2_role a1_q.Now c_6 g7) [] rfl fn20 ⟨⟨_, rfl, .inl ⟨rfl, rfl⟩⟩, ⟨_, rfl, .inl ⟨rfl, rfl⟩⟩, ⟨_, rfl, .inl ⟨rfl, rfl⟩⟩, ⟨_, rfl, .inl ⟨rfl, rfl⟩⟩, trivial⟩ (.inl rfl)) ?_
  refine SOps.q rfl (.plain rfl) rfl (q_move rfl rfl) ?_
  refine SOps.q rfl (.plain rfl) rfl (q_extract rfl rfl rfl) ?_
  refine SOps.q rfl (.plain rfl) rfl (q_extract rfl rfl rfl) ?_
  refine SOps.q rfl (.plain rfl) rfl (q_assign rfl rfl) ?_
  refine SOps.q rfl (.plain rfl) rfl (q_assign rfl rfl) ?_
  refine SOps.sub (st' := ⟨[(7, .c (.vec c_4.1.length 4 (gL cSGrant dSGrant c_4.1))), (8, .c (.int .i64 c_4.2)), (9, .c (.vec c_6.1.length 4 (gL cSGrant dSGrant c_6.1))), (10, .c (.int .i64 c_6.2))], []⟩) (sub_gen [] rfl rfl ⟨zc rfl rfl, zc rfl rfl, zc rfl rfl, zc rfl rfl, trivial⟩ trivial) ?_
  refine SOps.nil ?_
  refine SCode.seq ?_
  rcases cond_out h with ⟨g8, h⟩ | ⟨g8, h⟩
  · obtain ⟨c_9, g10, h⟩ := bind_out h
    try dsimp only at h
    rcases cond_out h with ⟨g11, h⟩ | ⟨g11, h⟩
    · obtain ⟨c_12, g13, h⟩ := bind_out h
      try dsimp only at h
      refine SCode.region (show SOps _ _ _ [0, 1, 2, 3, 4, 5, 6, 7, 8, 9, 10, 11] _ _ from ?_)
      refine SOps.q rfl (.plain rfl) rfl (q_move rfl rfl) ?_
      refine SOps.q rfl (.plain rfl) rfl (q_move rfl rfl) ?_
      refine SOps.q rfl (.plain rfl) rfl (q_eql rfl rfl rfl) ?_
      refine SOps.q rfl (.plain rfl) rfl (q_move rfl rfl) ?_
      refine SOps.q rfl (.guard 3 38 true rfl rfl (gT g8)) rfl (q_move rfl rfl) ?_
      refine SOps.q rfl (.guard 3 38 true rfl rfl (gT g8)) rfl (q_move rfl rfl) ?_
      refine SOps.q rfl (.guard 3 38 true rfl rfl (gT g8)) rfl (q_call (chargenetref39_Same_ok F c_4.1 c_6.1 c_9 g10) [] rfl fn18 ⟨⟨_, rfl, .inl ⟨rfl, rfl⟩⟩, ⟨_, rfl, .inl ⟨rfl, rfl⟩⟩, trivial⟩ (.inl rfl)) ?_
      refine SOps.q rfl (.plain rfl) rfl (q_pick_t rfl rfl g8 rfl) ?_
      refine SOps.q rfl (.plain rfl) rfl (q_move rfl rfl) ?_
      refine SOps.q rfl (.guard 8 43 true rfl rfl (gT g11)) rfl (q_call (chargenetlaw39_exampleHolds_ok F  c_12 g13) [] rfl fn11 trivial (.inl rfl)) ?_
      refine SOps.q rfl (.plain rfl) rfl (q_pick_t rfl rfl g11 rfl) ?_
      refine SOps.q rfl (.plain rfl) rfl (q_assign rfl rfl) ?_
      refine SOps.sub (st' := ⟨[(6, .c (.bool c_12))], []⟩) (sub_gen [] rfl rfl ⟨zc rfl rfl, trivial⟩ trivial) ?_
      refine SOps.nil ?_
      refine SCode.ret ?_
      obtain rfl := Option.some.inj h
      exact ⟨⟨[(6, .c (.bool c_12))], []⟩, _, sub_gen [] rfl rfl ⟨zc rfl rfl, trivial⟩ trivial, resA1 (v := .c (.bool c_12)) rfl rfl, rfl⟩
    refine SCode.region (show SOps _ _ _ [0, 1, 2, 3, 4, 5, 6, 7, 8, 9, 10, 11] _ _ from ?_)
    refine SOps.q rfl (.plain rfl) rfl (q_move rfl rfl) ?_
    refine SOps.q rfl (.plain rfl) rfl (q_move rfl rfl) ?_
    refine SOps.q rfl (.plain rfl) rfl (q_eql rfl rfl rfl) ?_
    refine SOps.q rfl (.plain rfl) rfl (q_move rfl rfl) ?_
    refine SOps.q rfl (.guard 3 38 true rfl rfl (gT g8)) rfl (q_move rfl rfl) ?_
    refine SOps.q rfl (.guard 3 38 true rfl rfl (gT g8)) rfl (q_move rfl rfl) ?_
    refine SOps.q rfl (.guard 3 38 true rfl rfl (gT g8)) rfl (q_call (chargenetref39_Same_ok F c_4.1 c_6.1 c_9 g10) [] rfl fn18 ⟨⟨_, rfl, .inl ⟨rfl, rfl⟩⟩, ⟨_, rfl, .inl ⟨rfl, rfl⟩⟩, trivial⟩ (.inl rfl)) ?_
    refine SOps.q rfl (.plain rfl) rfl (q_pick_t rfl rfl g8 rfl) ?_
    refine SOps.q rfl (.plain rfl) rfl (q_move rfl rfl) ?_
    refine SOps.skip rfl 8 43 true rfl rfl (.inl (gF g11)) rfl ?_
    refine SOps.q rfl (.plain rfl) rfl (q_pick_f rfl rfl g11 rfl) ?_
    refine SOps.q rfl (.plain rfl) rfl (q_assign rfl rfl) ?_
    refine SOps.sub (st' := ⟨[(6, .c (.bool false))], []⟩) (sub_gen [] rfl rfl ⟨zc rfl rfl, trivial⟩ trivial) ?_
    refine SOps.nil ?_
    refine SCode.ret ?_
    obtain rfl := Option.some.inj h
    exact ⟨⟨[(6, .c (.bool false))], []⟩, _, sub_gen [] rfl rfl ⟨zc rfl rfl, trivial⟩ trivial, resA1 (v := .c (.bool false)) rfl rfl, rfl⟩
  refine SCode.region (show SOps _ _ _ [0, 1, 2, 3, 4, 5, 6, 7, 8, 9, 10, 11] _ _ from ?_)
  refine SOps.q rfl (.plain rfl) rfl (q_move rfl rfl) ?_
  refine SOps.q rfl (.plain rfl) rfl (q_move rfl rfl) ?_
  refine SOps.q rfl (.plain rfl) rfl (q_eql rfl rfl rfl) ?_
  refine SOps.q rfl (.plain rfl) rfl (q_move rfl rfl) ?_
  refine SOps.skip rfl 3 38 true rfl rfl (.inl (gF g8)) rfl ?_
  refine SOps.skip rfl 3 38 true rfl rfl (.inl (gF g8)) rfl ?_
  refine SOps.skip rfl 3 38 true rfl rfl (.inl (gF g8)) rfl ?_
  refine SOps.q rfl (.plain rfl) rfl (q_pick_f rfl rfl g8 rfl) ?_
  refine SOps.q rfl (.plain rfl) rfl (q_move rfl rfl) ?_
  refine SOps.skip rfl 8 43 true rfl rfl (.inl rfl) rfl ?_
  refine SOps.q rfl (.plain rfl) rfl (q_pick_f rfl rfl rfl rfl) ?_
  refine SOps.q rfl (.plain rfl) rfl (q_assign rfl rfl) ?_
  refine SOps.sub (st' := ⟨[(6, .c (.bool false))], []⟩) (sub_gen [] rfl rfl ⟨zc rfl rfl, trivial⟩ trivial) ?_
  refine SOps.nil ?_
  refine SCode.ret ?_
  obtain rfl := Option.some.inj h
  exact ⟨⟨[(6, .c (.bool false))], []⟩, _, sub_gen [] rfl rfl ⟨zc rfl rfl, trivial⟩ trivial, resA1 (v := .c (.bool false)) rfl rfl, rfl⟩
end Go.Proofs.Ytggfgdohbeoabaa.W
