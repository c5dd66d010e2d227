/- Written by a program of ours (wip/eng/gen.py): the functions compute their models. -/
import Derived.Test.YtcccjpkfifefaaaFacts
import Derived.Test.YtcccjpkfifefaaaV4x5
namespace Go.Proofs.Ytcccjpkfifefaaa.W
open Go Go.Proofs Go.Proofs.Ytcccjpkfifefaaa.E Go.Proofs.Ytcccjpkfifefaaa.M
set_option linter.unusedVariables false
set_option maxRecDepth 100000 in
set_option maxHeartbeats 8000000 in
theorem chargenetref13_Put_ok (F : Nat) (a0_l : List SCurtail) (a1_c : SCurtail) (r : (List SCurtail) × Int) (h : chargenetref13_Put F a0_l a1_c = some r) :
    SFun Try.prog 13 [] [.c (.vec a0_l.length 7 (gL cSCurtail dSCurtail a0_l)), .a [.str a1_c.Name, .int .i64 a1_c.Version, .int .i64 a1_c.Feeder, .int .i64 a1_c.Span_From, .int .i64 a1_c.Span_To, .int .i64 a1_c.Total, .bool a1_c.Cancelled]] (fun x _ => x = .t [.c (.vec r.1.length 7 (gL cSCurtail dSCurtail r.1)), .c (.int .i64 r.2)]) := by
  refine SFun.of (n := 94) Try.func13 rfl rfl rfl ?_
  unfold chargenetref13_Put at h
  show SCode _ _ _ ⟨[(0, .c (.vec a0_l.length 7 (gL cSCurtail dSCurtail a0_l))), (1, .a [.str a1_c.Name, .int .i64 a1_c.Version, .int .i64 a1_c.Feeder, .int .i64 a1_c.Span_From, .int .i64 a1_c.Span_To, .int .i64 a1_c.Total, .bool a1_c.Cancelled])], []⟩ _
  refine SCode.seq ?_
  refine SCode.region (show SOps _ _ _ [0, 1, 2] _ _ from ?_)
  refine SOps.e rfl (.plain rfl) (e_box rfl rfl rfl rfl rfl rfl) ?_
  refine SOps.q rfl (.plain rfl) rfl (q_assign rfl rfl) ?_
  refine SOps.q rfl (.plain rfl) rfl (q_assign rfl rfl) ?_
  refine SOps.sub (st' := ⟨[(0, .c (.vec a0_l.length 7 (gL cSCurtail dSCurtail a0_l))), (3, .c (.ptr 0 0))], [.box [.str a1_c.Name, .int .i64 a1_c.Version, .int .i64 a1_c.Feeder, .int .i64 a1_c.Span_From, .int .i64 a1_c.Span_To, .int .i64 a1_c.Total, .bool a1_c.Cancelled]]⟩) (sub_gen [0] rfl rfl ⟨zc rfl rfl, zc rfl rfl, trivial⟩ ⟨⟨_, rfl, ⟨ii rfl rfl, ii rfl rfl, ii rfl rfl, ii rfl rfl, ii rfl rfl, ii rfl rfl, ii rfl rfl, trivial⟩⟩, trivial⟩) ?_
  refine SOps.nil ?_
  refine SCode.seq ?_
  refine SCode.seq ?_
  obtain ⟨c_1, g2, h⟩ := bind_out h
  try dsimp only at h
  refine SCode.region (show SOps _ _ _ [0, 1, 2] _ _ from ?_)
  refine SOps.q rfl (.plain rfl) rfl (q_load_ptr_all rfl rfl rfl rfl rfl ty25) ?_
  refine SOps.q rfl (.plain rfl) rfl (q_call (chargenetref13_right_ok F a1_c 32 c_1 g2) [] rfl fn24 ⟨⟨rfl, rfl⟩, ⟨_, rfl, .inl ⟨rfl, rfl⟩⟩, trivial⟩ (.inl rfl)) ?_
  refine SOps.q rfl (.plain rfl) rfl (q_assign rfl rfl) ?_
  refine SOps.sub (st' := ⟨[(0, .c (.vec a0_l.length 7 (gL cSCurtail dSCurtail a0_l))), (3, .c (.ptr 0 0)), (6, .c (.int .i64 c_1))], [.box [.str a1_c.Name, .int .i64 a1_c.Version, .int .i64 a1_c.Feeder, .int .i64 a1_c.Span_From, .int .i64 a1_c.Span_To, .int .i64 a1_c.Total, .bool a1_c.Cancelled]]⟩) (sub_gen [0] rfl rfl ⟨zc rfl rfl, zc rfl rfl, zc rfl rfl, trivial⟩ ⟨⟨_, rfl, ⟨ii rfl rfl, ii rfl rfl, ii rfl rfl, ii rfl rfl, ii rfl rfl, ii rfl rfl, ii rfl rfl, trivial⟩⟩, trivial⟩) ?_
  refine SOps.nil ?_
  refine SCode.seq ?_
  refine SCode.region (show SOps _ _ _ [0, 1] _ _ from ?_)
  refine SOps.q rfl (.plain rfl) rfl (q_move rfl rfl) ?_
  refine SOps.q rfl (.plain rfl) rfl (q_neq rfl rfl rfl) ?_
  refine SOps.sub (st' := ⟨[(0, .c (.vec a0_l.length 7 (gL cSCurtail dSCurtail a0_l))), (3, .c (.ptr 0 0)), (6, .c (.int .i64 c_1)), (13, .c (.bool ((!decide (c_1 = 0)))))], [.box [.str a1_c.Name, .int .i64 a1_c.Version, .int .i64 a1_c.Feeder, .int .i64 a1_c.Span_From, .int .i64 a1_c.Span_To, .int .i64 a1_c.Total, .bool a1_c.Cancelled]]⟩) (sub_gen [0] rfl rfl ⟨zc rfl rfl, zc rfl rfl, zc rfl rfl, zc rfl rfl, trivial⟩ ⟨⟨_, rfl, ⟨ii rfl rfl, ii rfl rfl, ii rfl rfl, ii rfl rfl, ii rfl rfl, ii rfl rfl, ii rfl rfl, trivial⟩⟩, trivial⟩) ?_
  refine SOps.nil ?_
  rcases cond_out h with ⟨g3, h⟩ | ⟨g3, h⟩
  · refine SCode.cond_t rfl g3 ?_
    refine SCode.seq ?_
    refine SCode.region (show SOps _ _ _ [0, 1, 2, 3] _ _ from ?_)
    refine SOps.q rfl (.plain rfl) rfl (q_move rfl rfl) ?_
    refine SOps.q rfl (.plain rfl) rfl (q_move rfl rfl) ?_
    refine SOps.q rfl (.plain rfl) rfl (q_assign rfl rfl) ?_
    refine SOps.q rfl (.plain rfl) rfl (q_assign rfl rfl) ?_
    refine SOps.sub (st' := ⟨[(4, .c (.vec a0_l.length 7 (gL cSCurtail dSCurtail a0_l))), (5, .c (.int .i64 c_1))], []⟩) (sub_gen [] rfl rfl ⟨zc rfl rfl, zc rfl rfl, trivial⟩ trivial) ?_
    refine SOps.nil ?_
    refine SCode.ret ?_
    obtain rfl := Option.some.inj h
    exact ⟨⟨[(4, .c (.vec a0_l.length 7 (gL cSCurtail dSCurtail a0_l))), (5, .c (.int .i64 c_1))], []⟩, _, sub_gen [] rfl rfl ⟨zc rfl rfl, zc rfl rfl, trivial⟩ trivial, resA2 (v1 := .c (.vec a0_l.length 7 (gL cSCurtail dSCurtail a0_l))) (v2 := .c (.int .i64 c_1)) rfl rfl rfl, rfl⟩
  refine SCode.cond_f rfl g3 ?_
  refine SCode.skip ?_
  refine SCode.seq ?_
  refine SCode.region (show SOps _ _ _ [0] _ _ from ?_)
  refine SOps.q rfl (.plain rfl) rfl (q_assign rfl rfl) ?_
  refine SOps.nilArrL (T := 25) (k := 7) cSCurtail dSCurtail (s := 7) rfl rfl ?_
  refine SOps.sub (st' := ⟨[(0, .c (.vec a0_l.length 7 (gL cSCurtail dSCurtail a0_l))), (3, .c (.ptr 0 0)), (7, .c (.own 1 (([] : List SCurtail)).length))], [.box [.str a1_c.Name, .int .i64 a1_c.Version, .int .i64 a1_c.Feeder, .int .i64 a1_c.Span_From, .int .i64 a1_c.Span_To, .int .i64 a1_c.Total, .bool a1_c.Cancelled], .arr 25 7 (([] : List SCurtail)).length (gL cSCurtail dSCurtail (([] : List SCurtail)))]⟩) (sub_gen [0, 1] rfl rfl ⟨zc rfl rfl, zc rfl rfl, zc rfl rfl, trivial⟩ ⟨⟨_, rfl, ⟨ii rfl rfl, ii rfl rfl, ii rfl rfl, ii rfl rfl, ii rfl rfl, ii rfl rfl, ii rfl rfl, trivial⟩⟩, oa rfl, trivial⟩) ?_
  refine SOps.nil ?_
  refine SCode.seq ?_
  refine SCode.region (show SOps _ _ _ [0] _ _ from ?_)
  refine SOps.q rfl (.plain rfl) rfl (q_assign rfl rfl) ?_
  refine SOps.sub (st' := ⟨[(0, .c (.vec a0_l.length 7 (gL cSCurtail dSCurtail a0_l))), (3, .c (.ptr 0 0)), (7, .c (.own 1 (([] : List SCurtail)).length)), (8, .c (.bool false))], [.box [.str a1_c.Name, .int .i64 a1_c.Version, .int .i64 a1_c.Feeder, .int .i64 a1_c.Span_From, .int .i64 a1_c.Span_To, .int .i64 a1_c.Total, .bool a1_c.Cancelled], .arr 25 7 (([] : List SCurtail)).length (gL cSCurtail dSCurtail (([] : List SCurtail)))]⟩) (sub_gen [0, 1] rfl rfl ⟨zc rfl rfl, zc rfl rfl, zc rfl rfl, zc rfl rfl, trivial⟩ ⟨⟨_, rfl, ⟨ii rfl rfl, ii rfl rfl, ii rfl rfl, ii rfl rfl, ii rfl rfl, ii rfl rfl, ii rfl rfl, trivial⟩⟩, oa rfl, trivial⟩) ?_
  refine SOps.nil ?_
  refine SCode.join (σ := Bool × (List SCurtail)) (S := fun s => ⟨[(0, .c (.vec a0_l.length 7 (gL cSCurtail dSCurtail a0_l))), (3, .c (.ptr 0 0)), (7, .c (.own 1 s.2.length)), (8, .c (.bool s.1))], [.box [.str a1_c.Name, .int .i64 a1_c.Version, .int .i64 a1_c.Feeder, .int .i64 a1_c.Span_From, .int .i64 a1_c.Span_To, .int .i64 a1_c.Total, .bool a1_c.Cancelled], .arr 25 7 s.2.length (gL cSCurtail dSCurtail s.2)]⟩) (g := fun s => chargenetref13_Put_p11 a0_l a1_c s.1 s.2 = some r) ?_ ?_
  rotate_left
  · refine SCode.seq ?_
    refine SCode.region (show SOps _ _ _ [0] _ _ from ?_)
    refine SOps.q rfl (.plain rfl) rfl (q_assign rfl rfl) ?_
    refine SOps.sub (st' := ⟨[(0, .c (.vec a0_l.length 7 (gL cSCurtail dSCurtail a0_l))), (3, .c (.ptr 0 0)), (7, .c (.own 1 (([] : List SCurtail)).length)), (8, .c (.bool false)), (9, .c (.int .i64 0))], [.box [.str a1_c.Name, .int .i64 a1_c.Version, .int .i64 a1_c.Feeder, .int .i64 a1_c.Span_From, .int .i64 a1_c.Span_To, .int .i64 a1_c.Total, .bool a1_c.Cancelled], .arr 25 7 (([] : List SCurtail)).length (gL cSCurtail dSCurtail (([] : List SCurtail)))]⟩) (sub_gen [0, 1] rfl rfl ⟨zc rfl rfl, zc rfl rfl, zc rfl rfl, zc rfl rfl, zc rfl rfl, trivial⟩ ⟨⟨_, rfl, ⟨ii rfl rfl, ii rfl rfl, ii rfl rfl, ii rfl rfl, ii rfl rfl, ii rfl rfl, ii rfl rfl, trivial⟩⟩, oa rfl, trivial⟩) ?_
    refine SOps.nil ?_
    refine SCode.block ?_
    refine SCode.sub (st' := ⟨[(0, .c (.vec a0_l.length 7 (gL cSCurtail dSCurtail a0_l))), (3, .c (.ptr 0 0)), (7, .c (.own 1 ([] : List SCurtail).length)), (8, .c (.bool false)), (9, .c (.int .i64 0))], [.box [.str a1_c.Name, .int .i64 a1_c.Version, .int .i64 a1_c.Feeder, .int .i64 a1_c.Span_From, .int .i64 a1_c.Span_To, .int .i64 a1_c.Total, .bool a1_c.Cancelled], .arr 25 7 ([] : List SCurtail).length (gL cSCurtail dSCurtail ([] : List SCurtail))]⟩) (sub_gen [0, 1] rfl rfl ⟨zc rfl rfl, zc rfl rfl, zc rfl rfl, zc rfl rfl, zc rfl rfl, trivial⟩ ⟨⟨_, rfl, ⟨ii rfl rfl, ii rfl rfl, ii rfl rfl, ii rfl rfl, ii rfl rfl, ii rfl rfl, ii rfl rfl, trivial⟩⟩, oa rfl, trivial⟩) ?_
    refine (SCode.loop (σ := Nat × (Bool × Int × (List SCurtail))) (S := fun s => ⟨[(0, .c (.vec a0_l.length 7 (gL cSCurtail dSCurtail a0_l))), (3, .c (.ptr 0 0)), (7, .c (.own 1 s.2.2.2.length)), (8, .c (.bool s.2.1)), (9, .c (.int .i64 s.2.2.1))], [.box [.str a1_c.Name, .int .i64 a1_c.Version, .int .i64 a1_c.Feeder, .int .i64 a1_c.Span_From, .int .i64 a1_c.Span_To, .int .i64 a1_c.Total, .bool a1_c.Cancelled], .arr 25 7 s.2.2.2.length (gL cSCurtail dSCurtail s.2.2.2)]⟩) (g := fun s => chargenetref13_Put_l60 a0_l a1_c s.1 s.2.1 s.2.2.1 s.2.2.2 = some r) (μ := fun s => s.1) (F, (false, 0, ([] : List SCurtail))) h ?_)
    rintro ⟨n_60, ⟨done_34, i_35, o1_36⟩⟩ h
    replace h : chargenetref13_Put_l60 a0_l a1_c n_60 done_34 i_35 o1_36 = some r := h
    show SCode _ _ _ ⟨[(0, .c (.vec a0_l.length 7 (gL cSCurtail dSCurtail a0_l))), (3, .c (.ptr 0 0)), (7, .c (.own 1 o1_36.length)), (8, .c (.bool done_34)), (9, .c (.int .i64 i_35))], [.box [.str a1_c.Name, .int .i64 a1_c.Version, .int .i64 a1_c.Feeder, .int .i64 a1_c.Span_From, .int .i64 a1_c.Span_To, .int .i64 a1_c.Total, .bool a1_c.Cancelled], .arr 25 7 o1_36.length (gL cSCurtail dSCurtail o1_36)]⟩ _
    cases n_60 with
    | zero => cases h
    | succ n_60 =>
      replace h : chargenetref13_Put_b60 a0_l a1_c (fun done_34 i_35 o1_36 => chargenetref13_Put_l60 a0_l a1_c n_60 done_34 i_35 o1_36) done_34 i_35 o1_36 = some r := h
      unfold chargenetref13_Put_b60 at h
      refine SCode.seq ?_
      refine SCode.seq ?_
      refine SCode.region (show SOps _ _ _ [0, 1, 2, 3] _ _ from ?_)
      refine SOps.q rfl (.plain rfl) rfl (q_move rfl rfl) ?_
      refine SOps.q rfl (.plain rfl) rfl (q_move rfl rfl) ?_
      refine SOps.q rfl (.plain rfl) rfl (q_len_vec rfl rfl sl34) ?_
      refine SOps.q rfl (.plain rfl) rfl (q_lss rfl rfl rfl) ?_
      refine SOps.sub (st' := ⟨[(0, .c (.vec a0_l.length 7 (gL cSCurtail dSCurtail a0_l))), (3, .c (.ptr 0 0)), (7, .c (.own 1 o1_36.length)), (8, .c (.bool done_34)), (9, .c (.int .i64 i_35)), (19, .c (.bool (decide (i_35 < ((a0_l).length : Int)))))], [.box [.str a1_c.Name, .int .i64 a1_c.Version, .int .i64 a1_c.Feeder, .int .i64 a1_c.Span_From, .int .i64 a1_c.Span_To, .int .i64 a1_c.Total, .bool a1_c.Cancelled], .arr 25 7 o1_36.length (gL cSCurtail dSCurtail o1_36)]⟩) (sub_gen [0, 1] rfl rfl ⟨zc rfl rfl, zc rfl rfl, zc rfl rfl, zc rfl rfl, zc rfl rfl, zc rfl rfl, trivial⟩ ⟨⟨_, rfl, ⟨ii rfl rfl, ii rfl rfl, ii rfl rfl, ii rfl rfl, ii rfl rfl, ii rfl rfl, ii rfl rfl, trivial⟩⟩, oa rfl, trivial⟩) ?_
      refine SOps.nil ?_
      rcases cond_out h with ⟨g61, h⟩ | ⟨g61, h⟩
      · refine SCode.cond_t rfl g61 ?_
        refine SCode.skip ?_
        refine SCode.join (σ := Bool × (List SCurtail)) (S := fun s => ⟨[(0, .c (.vec a0_l.length 7 (gL cSCurtail dSCurtail a0_l))), (3, .c (.ptr 0 0)), (7, .c (.own 1 s.2.length)), (8, .c (.bool s.1)), (9, .c (.int .i64 i_35))], [.box [.str a1_c.Name, .int .i64 a1_c.Version, .int .i64 a1_c.Feeder, .int .i64 a1_c.Span_From, .int .i64 a1_c.Span_To, .int .i64 a1_c.Total, .bool a1_c.Cancelled], .arr 25 7 s.2.length (gL cSCurtail dSCurtail s.2)]⟩) (g := fun s => chargenetref13_Put_p64 i_35 (fun done_34 i_35 o1_36 => chargenetref13_Put_l60 a0_l a1_c n_60 done_34 i_35 o1_36) s.1 s.2 = some r) ?_ ?_
        rotate_left
        · refine SCode.block ?_
          refine SCode.seq ?_
          refine SCode.seq ?_
          obtain ⟨g65, h⟩ := guard_out h
          refine SCode.draw (s' := [(29, .c (.bool (sEq ((a0_l.getD i_35.toNat dSCurtail).Name) a1_c.Name))), (28, .c (.str a1_c.Name)), (27, .c (.ptr 0 0)), (26, .c (.str ((a0_l.getD i_35.toNat dSCurtail).Name))), (25, .c (.eptr 7 (cSCurtail (a0_l.getD i_35.toNat dSCurtail)) 0)), (24, .c (.eptr 7 (cSCurtail (a0_l.getD i_35.toNat dSCurtail)) 0)), (23, .c (.int .i64 i_35)), (22, .c (.vec a0_l.length 7 (gL cSCurtail dSCurtail a0_l))), (0, .c (.vec a0_l.length 7 (gL cSCurtail dSCurtail a0_l))), (3, .c (.ptr 0 0)), (7, .c (.own 1 o1_36.length)), (8, .c (.bool done_34)), (9, .c (.int .i64 i_35)), (19, .c (.bool (decide (i_35 < ((a0_l).length : Int)))))]) mixed [[], [], [0, 1], [0, 1, 2], [0, 1, 2, 3], [], [5], [0, 1, 2, 3, 4, 5, 6]] 8 0 rfl rfl ?_ ?_
          · refine QChain.run rfl (.plain rfl) rfl (q_move rfl rfl) ?_
            refine QChain.run rfl (.plain rfl) rfl (q_move rfl rfl) ?_
            refine QChain.run rfl (.plain rfl) rfl (q_index_vec rfl rfl rfl sl34 rfl g65.1 g65.2) ?_
            refine QChain.run rfl (.plain rfl) rfl (q_field_eptr rfl rfl fd25_0 rfl) ?_
            refine QChain.run rfl (.plain rfl) rfl (q_load_eptr rfl rfl ty9) ?_
            refine QChain.run rfl (.plain rfl) rfl (q_field_ptr rfl rfl fd25_0) ?_
            refine QChain.run rfl (.plain rfl) rfl (q_load_ptr rfl rfl rfl rfl ty9) ?_
            refine QChain.run rfl (.plain rfl) rfl (q_eqlS rfl rfl rfl) ?_
            exact QChain.nil _ _
          refine (show SOps _ _ _ [] _ _ from ?_)
          refine SOps.sub (st' := ⟨[(0, .c (.vec a0_l.length 7 (gL cSCurtail dSCurtail a0_l))), (3, .c (.ptr 0 0)), (7, .c (.own 1 o1_36.length)), (8, .c (.bool done_34)), (9, .c (.int .i64 i_35)), (29, .c (.bool (sEq ((a0_l.getD i_35.toNat dSCurtail).Name) a1_c.Name)))], [.box [.str a1_c.Name, .int .i64 a1_c.Version, .int .i64 a1_c.Feeder, .int .i64 a1_c.Span_From, .int .i64 a1_c.Span_To, .int .i64 a1_c.Total, .bool a1_c.Cancelled], .arr 25 7 o1_36.length (gL cSCurtail dSCurtail o1_36)]⟩) (sub_gen [0, 1] rfl rfl ⟨zc rfl rfl, zc rfl rfl, zc rfl rfl, zc rfl rfl, zc rfl rfl, zc rfl rfl, trivial⟩ ⟨⟨_, rfl, ⟨ii rfl rfl, ii rfl rfl, ii rfl rfl, ii rfl rfl, ii rfl rfl, ii rfl rfl, ii rfl rfl, trivial⟩⟩, oa rfl, trivial⟩) ?_
          refine SOps.nil ?_
          rcases cond_out h with ⟨g66, h⟩ | ⟨g66, h⟩
          · refine SCode.cond_t rfl g66 ?_
            refine SCode.seq ?_
            refine SCode.seq ?_
            obtain ⟨g67, h⟩ := guard_out h
            refine SCode.draw (s' := [(37, .c (.bool (decide (a1_c.Version < (a0_l.getD i_35.toNat dSCurtail).Version)))), (36, .c (.int .i64 ((a0_l.getD i_35.toNat dSCurtail).Version))), (35, .c (.eptr 7 (cSCurtail (a0_l.getD i_35.toNat dSCurtail)) 1)), (34, .c (.eptr 7 (cSCurtail (a0_l.getD i_35.toNat dSCurtail)) 0)), (33, .c (.int .i64 i_35)), (32, .c (.vec a0_l.length 7 (gL cSCurtail dSCurtail a0_l))), (31, .c (.int .i64 a1_c.Version)), (30, .c (.ptr 0 1)), (0, .c (.vec a0_l.length 7 (gL cSCurtail dSCurtail a0_l))), (3, .c (.ptr 0 0)), (7, .c (.own 1 o1_36.length)), (8, .c (.bool done_34)), (9, .c (.int .i64 i_35)), (29, .c (.bool (sEq ((a0_l.getD i_35.toNat dSCurtail).Name) a1_c.Name)))]) mixed [[], [0], [], [], [2, 3], [2, 3, 4], [2, 3, 4, 5], [0, 1, 2, 3, 4, 5, 6]] 8 0 rfl rfl ?_ ?_
            · refine QChain.run rfl (.plain rfl) rfl (q_field_ptr rfl rfl fd25_1) ?_
              refine QChain.run rfl (.plain rfl) rfl (q_load_ptr rfl rfl rfl rfl ty3) ?_
              refine QChain.run rfl (.plain rfl) rfl (q_move rfl rfl) ?_
              refine QChain.run rfl (.plain rfl) rfl (q_move rfl rfl) ?_
              refine QChain.run rfl (.plain rfl) rfl (q_index_vec rfl rfl rfl sl34 rfl g67.1 g67.2) ?_
              refine QChain.run rfl (.plain rfl) rfl (q_field_eptr rfl rfl fd25_1 rfl) ?_
              refine QChain.run rfl (.plain rfl) rfl (q_load_eptr rfl rfl ty3) ?_
              refine QChain.run rfl (.plain rfl) rfl (q_lss rfl rfl rfl) ?_
              exact QChain.nil _ _
            refine (show SOps _ _ _ [] _ _ from ?_)
            refine SOps.sub (st' := ⟨[(0, .c (.vec a0_l.length 7 (gL cSCurtail dSCurtail a0_l))), (3, .c (.ptr 0 0)), (7, .c (.own 1 o1_36.length)), (9, .c (.int .i64 i_35)), (37, .c (.bool (decide (a1_c.Version < (a0_l.getD i_35.toNat dSCurtail).Version))))], [.box [.str a1_c.Name, .int .i64 a1_c.Version, .int .i64 a1_c.Feeder, .int .i64 a1_c.Span_From, .int .i64 a1_c.Span_To, .int .i64 a1_c.Total, .bool a1_c.Cancelled], .arr 25 7 o1_36.length (gL cSCurtail dSCurtail o1_36)]⟩) (sub_gen [0, 1] rfl rfl ⟨zc rfl rfl, zc rfl rfl, zc rfl rfl, zc rfl rfl, zc rfl rfl, trivial⟩ ⟨⟨_, rfl, ⟨ii rfl rfl, ii rfl rfl, ii rfl rfl, ii rfl rfl, ii rfl rfl, ii rfl rfl, ii rfl rfl, trivial⟩⟩, oa rfl, trivial⟩) ?_
            refine SOps.nil ?_
            rcases cond_out h with ⟨g68, h⟩ | ⟨g68, h⟩
            · refine SCode.cond_t rfl g68 ?_
              refine SCode.seq ?_
              refine SCode.region (show SOps _ _ _ [0, 1, 2] _ _ from ?_)
              refine SOps.q rfl (.plain rfl) rfl (q_move rfl rfl) ?_
              refine SOps.q rfl (.plain rfl) rfl (q_assign rfl rfl) ?_
              refine SOps.q rfl (.plain rfl) rfl (q_assign rfl rfl) ?_
              refine SOps.sub (st' := ⟨[(4, .c (.vec a0_l.length 7 (gL cSCurtail dSCurtail a0_l))), (5, .c (.int .i64 11))], []⟩) (sub_gen [] rfl rfl ⟨zc rfl rfl, zc rfl rfl, trivial⟩ trivial) ?_
              refine SOps.nil ?_
              refine SCode.ret ?_
              obtain rfl := Option.some.inj h
              exact ⟨⟨[(4, .c (.vec a0_l.length 7 (gL cSCurtail dSCurtail a0_l))), (5, .c (.int .i64 11))], []⟩, _, sub_gen [] rfl rfl ⟨zc rfl rfl, zc rfl rfl, trivial⟩ trivial, resA2 (v1 := .c (.vec a0_l.length 7 (gL cSCurtail dSCurtail a0_l))) (v2 := .c (.int .i64 11)) rfl rfl rfl, rfl⟩
            refine SCode.cond_f rfl g68 ?_
            refine SCode.skip ?_
            refine SCode.join (σ := Unit) (S := fun s => ⟨[(0, .c (.vec a0_l.length 7 (gL cSCurtail dSCurtail a0_l))), (3, .c (.ptr 0 0)), (7, .c (.own 1 o1_36.length)), (9, .c (.int .i64 i_35))], [.box [.str a1_c.Name, .int .i64 a1_c.Version, .int .i64 a1_c.Feeder, .int .i64 a1_c.Span_From, .int .i64 a1_c.Span_To, .int .i64 a1_c.Total, .bool a1_c.Cancelled], .arr 25 7 o1_36.length (gL cSCurtail dSCurtail o1_36)]⟩) (g := fun s => chargenetref13_Put_p70 a1_c i_35 o1_36 (fun done_34 i_35 o1_36 => chargenetref13_Put_l60 a0_l a1_c n_60 done_34 i_35 o1_36) = some r) ?_ ?_
            rotate_left
            · refine SCode.seq ?_
              obtain ⟨g71, h⟩ := guard_out h
              rcases cond_out h with ⟨g72, h⟩ | ⟨g72, h⟩
              · obtain ⟨g73, h⟩ := guard_out h
                refine SCode.draw (s' := [(54, .c (.bool ((xor true (sEq a1_c.Name ((a0_l.getD i_35.toNat dSCurtail).Name) && (decide (a1_c.Version = (a0_l.getD i_35.toNat dSCurtail).Version) && (decide (a1_c.Feeder = (a0_l.getD i_35.toNat dSCurtail).Feeder) && (decide (a1_c.Span_From = (a0_l.getD i_35.toNat dSCurtail).Span_From) && (decide (a1_c.Span_To = (a0_l.getD i_35.toNat dSCurtail).Span_To) && (decide (a1_c.Total = (a0_l.getD i_35.toNat dSCurtail).Total) && ((a1_c.Cancelled == (a0_l.getD i_35.toNat dSCurtail).Cancelled) && true))))))))))), (53, .c (.bool ((xor true (sEq a1_c.Name ((a0_l.getD i_35.toNat dSCurtail).Name) && (decide (a1_c.Version = (a0_l.getD i_35.toNat dSCurtail).Version) && (decide (a1_c.Feeder = (a0_l.getD i_35.toNat dSCurtail).Feeder) && (decide (a1_c.Span_From = (a0_l.getD i_35.toNat dSCurtail).Span_From) && (decide (a1_c.Span_To = (a0_l.getD i_35.toNat dSCurtail).Span_To) && (decide (a1_c.Total = (a0_l.getD i_35.toNat dSCurtail).Total) && ((a1_c.Cancelled == (a0_l.getD i_35.toNat dSCurtail).Cancelled) && true))))))))))), (52, .a [.str ((a0_l.getD i_35.toNat dSCurtail).Name), .int .i64 ((a0_l.getD i_35.toNat dSCurtail).Version), .int .i64 ((a0_l.getD i_35.toNat dSCurtail).Feeder), .int .i64 ((a0_l.getD i_35.toNat dSCurtail).Span_From), .int .i64 ((a0_l.getD i_35.toNat dSCurtail).Span_To), .int .i64 ((a0_l.getD i_35.toNat dSCurtail).Total), .bool ((a0_l.getD i_35.toNat dSCurtail).Cancelled)]), (51, .c (.eptr 7 (cSCurtail (a0_l.getD i_35.toNat dSCurtail)) 0)), (50, .c (.int .i64 i_35)), (49, .c (.vec a0_l.length 7 (gL cSCurtail dSCurtail a0_l))), (48, .a [.str a1_c.Name, .int .i64 a1_c.Version, .int .i64 a1_c.Feeder, .int .i64 a1_c.Span_From, .int .i64 a1_c.Span_To, .int .i64 a1_c.Total, .bool a1_c.Cancelled]), (47, .c (.bool (decide (a1_c.Version = (a0_l.getD i_35.toNat dSCurtail).Version)))), (46, .c (.bool (decide (a1_c.Version = (a0_l.getD i_35.toNat dSCurtail).Version)))), (45, .c (.int .i64 ((a0_l.getD i_35.toNat dSCurtail).Version))), (44, .c (.eptr 7 (cSCurtail (a0_l.getD i_35.toNat dSCurtail)) 1)), (43, .c (.eptr 7 (cSCurtail (a0_l.getD i_35.toNat dSCurtail)) 0)), (42, .c (.int .i64 i_35)), (41, .c (.vec a0_l.length 7 (gL cSCurtail dSCurtail a0_l))), (40, .c (.int .i64 a1_c.Version)), (39, .c (.ptr 0 1)), (0, .c (.vec a0_l.length 7 (gL cSCurtail dSCurtail a0_l))), (3, .c (.ptr 0 0)), (7, .c (.own 1 o1_36.length)), (9, .c (.int .i64 i_35)), (37, .c (.bool (decide (a1_c.Version < (a0_l.getD i_35.toNat dSCurtail).Version))))]) mixed [[], [0], [], [], [2, 3], [2, 3, 4], [2, 3, 4, 5], [0, 1, 2, 3, 4, 5, 6], [0, 1, 2, 3, 4, 5, 6, 7], [0, 1, 2, 3, 4, 5, 6, 7, 8], [0, 1, 2, 3, 4, 5, 6, 7, 8], [0, 1, 2, 3, 4, 5, 6, 7, 8], [0, 1, 2, 3, 4, 5, 6, 7, 8, 10, 11], [0, 1, 2, 3, 4, 5, 6, 7, 8, 10, 11, 12], [0, 1, 2, 3, 4, 5, 6, 7, 8, 9, 10, 11, 12, 13], [0, 1, 2, 3, 4, 5, 6, 7, 8, 9, 10, 11, 12, 13, 14]] 16 0 rfl rfl ?_ ?_
                · refine QChain.run rfl (.plain rfl) rfl (q_field_ptr rfl rfl fd25_1) ?_
                  refine QChain.run rfl (.plain rfl) rfl (q_load_ptr rfl rfl rfl rfl ty3) ?_
                  refine QChain.run rfl (.plain rfl) rfl (q_move rfl rfl) ?_
                  refine QChain.run rfl (.plain rfl) rfl (q_move rfl rfl) ?_
                  refine QChain.run rfl (.plain rfl) rfl (q_index_vec rfl rfl rfl sl34 rfl g71.1 g71.2) ?_
                  refine QChain.run rfl (.plain rfl) rfl (q_field_eptr rfl rfl fd25_1 rfl) ?_
                  refine QChain.run rfl (.plain rfl) rfl (q_load_eptr rfl rfl ty3) ?_
                  refine QChain.run rfl (.plain rfl) rfl (q_eql rfl rfl rfl) ?_
                  refine QChain.run rfl (.plain rfl) rfl (q_move rfl rfl) ?_
                  refine QChain.run rfl (.guard 8 47 true rfl rfl (gT g72)) rfl (q_load_ptr_all rfl rfl rfl rfl rfl ty25) ?_
                  refine QChain.run rfl (.guard 8 47 true rfl rfl (gT g72)) rfl (q_move rfl rfl) ?_
                  refine QChain.run rfl (.guard 8 47 true rfl rfl (gT g72)) rfl (q_move rfl rfl) ?_
                  refine QChain.run rfl (.guard 8 47 true rfl rfl (gT g72)) rfl (q_index_vec rfl rfl rfl sl34 rfl g73.1 g73.2) ?_
                  refine QChain.run rfl (.guard 8 47 true rfl rfl (gT g72)) rfl (q_load_eptr_all rfl rfl rfl ty25) ?_
                  refine QChain.run rfl (.guard 8 47 true rfl rfl (gT g72)) rfl (q_eqAgg (neg := true) rfl (.inr rfl) rfl rfl eqt25 rfl) ?_
                  refine QChain.run rfl (.plain rfl) rfl (q_pick_t rfl rfl g72 rfl) ?_
                  exact QChain.nil _ _
                refine (show SOps _ _ _ [] _ _ from ?_)
                refine SOps.sub (st' := ⟨[(0, .c (.vec a0_l.length 7 (gL cSCurtail dSCurtail a0_l))), (3, .c (.ptr 0 0)), (7, .c (.own 1 o1_36.length)), (9, .c (.int .i64 i_35)), (54, .c (.bool ((xor true (sEq a1_c.Name ((a0_l.getD i_35.toNat dSCurtail).Name) && (decide (a1_c.Version = (a0_l.getD i_35.toNat dSCurtail).Version) && (decide (a1_c.Feeder = (a0_l.getD i_35.toNat dSCurtail).Feeder) && (decide (a1_c.Span_From = (a0_l.getD i_35.toNat dSCurtail).Span_From) && (decide (a1_c.Span_To = (a0_l.getD i_35.toNat dSCurtail).Span_To) && (decide (a1_c.Total = (a0_l.getD i_35.toNat dSCurtail).Total) && ((a1_c.Cancelled == (a0_l.getD i_35.toNat dSCurtail).Cancelled) && true)))))))))))], [.box [.str a1_c.Name, .int .i64 a1_c.Version, .int .i64 a1_c.Feeder, .int .i64 a1_c.Span_From, .int .i64 a1_c.Span_To, .int .i64 a1_c.Total, .bool a1_c.Cancelled], .arr 25 7 o1_36.length (gL cSCurtail dSCurtail o1_36)]⟩) (sub_gen [0, 1] rfl rfl ⟨zc rfl rfl, zc rfl rfl, zc rfl rfl, zc rfl rfl, zc rfl rfl, trivial⟩ ⟨⟨_, rfl, ⟨ii rfl rfl, ii rfl rfl, ii rfl rfl, ii rfl rfl, ii rfl rfl, ii rfl rfl, ii rfl rfl, trivial⟩⟩, oa rfl, trivial⟩) ?_
                refine SOps.nil ?_
                rcases cond_out h with ⟨g74, h⟩ | ⟨g74, h⟩
                · refine SCode.cond_t rfl g74 ?_
                  refine SCode.seq ?_
                  refine SCode.region (show SOps _ _ _ [0, 1, 2] _ _ from ?_)
                  refine SOps.q rfl (.plain rfl) rfl (q_move rfl rfl) ?_
                  refine SOps.q rfl (.plain rfl) rfl (q_assign rfl rfl) ?_
                  refine SOps.q rfl (.plain rfl) rfl (q_assign rfl rfl) ?_
                  refine SOps.sub (st' := ⟨[(4, .c (.vec a0_l.length 7 (gL cSCurtail dSCurtail a0_l))), (5, .c (.int .i64 23))], []⟩) (sub_gen [] rfl rfl ⟨zc rfl rfl, zc rfl rfl, trivial⟩ trivial) ?_
                  refine SOps.nil ?_
                  refine SCode.ret ?_
                  obtain rfl := Option.some.inj h
                  exact ⟨⟨[(4, .c (.vec a0_l.length 7 (gL cSCurtail dSCurtail a0_l))), (5, .c (.int .i64 23))], []⟩, _, sub_gen [] rfl rfl ⟨zc rfl rfl, zc rfl rfl, trivial⟩ trivial, resA2 (v1 := .c (.vec a0_l.length 7 (gL cSCurtail dSCurtail a0_l))) (v2 := .c (.int .i64 23)) rfl rfl rfl, rfl⟩
                refine SCode.cond_f rfl g74 ?_
                refine SCode.skip ?_
                exact ⟨(), h, sub_gen [0, 1] rfl rfl ⟨zc rfl rfl, zc rfl rfl, zc rfl rfl, zc rfl rfl, trivial⟩ ⟨⟨_, rfl, ⟨ii rfl rfl, ii rfl rfl, ii rfl rfl, ii rfl rfl, ii rfl rfl, ii rfl rfl, ii rfl rfl, trivial⟩⟩, oa rfl, trivial⟩⟩
              refine SCode.draw (s' := [(54, .c (.bool false)), (53, .c (.raw (.tuple #[]))), (52, .c (.raw (.tuple #[]))), (51, .c (.raw (.tuple #[]))), (50, .c (.raw (.tuple #[]))), (49, .c (.raw (.tuple #[]))), (48, .c (.raw (.tuple #[]))), (47, .c (.bool (decide (a1_c.Version = (a0_l.getD i_35.toNat dSCurtail).Version)))), (46, .c (.bool (decide (a1_c.Version = (a0_l.getD i_35.toNat dSCurtail).Version)))), (45, .c (.int .i64 ((a0_l.getD i_35.toNat dSCurtail).Version))), (44, .c (.eptr 7 (cSCurtail (a0_l.getD i_35.toNat dSCurtail)) 1)), (43, .c (.eptr 7 (cSCurtail (a0_l.getD i_35.toNat dSCurtail)) 0)), (42, .c (.int .i64 i_35)), (41, .c (.vec a0_l.length 7 (gL cSCurtail dSCurtail a0_l))), (40, .c (.int .i64 a1_c.Version)), (39, .c (.ptr 0 1)), (0, .c (.vec a0_l.length 7 (gL cSCurtail dSCurtail a0_l))), (3, .c (.ptr 0 0)), (7, .c (.own 1 o1_36.length)), (9, .c (.int .i64 i_35)), (37, .c (.bool (decide (a1_c.Version < (a0_l.getD i_35.toNat dSCurtail).Version))))]) mixed [[], [0], [], [], [2, 3], [2, 3, 4], [2, 3, 4, 5], [0, 1, 2, 3, 4, 5, 6], [0, 1, 2, 3, 4, 5, 6, 7], [0, 1, 2, 3, 4, 5, 6, 7, 8], [0, 1, 2, 3, 4, 5, 6, 7, 8], [0, 1, 2, 3, 4, 5, 6, 7, 8], [0, 1, 2, 3, 4, 5, 6, 7, 8, 10, 11], [0, 1, 2, 3, 4, 5, 6, 7, 8, 10, 11, 12], [0, 1, 2, 3, 4, 5, 6, 7, 8, 9, 10, 11, 12, 13], [0, 1, 2, 3, 4, 5, 6, 7, 8, 9, 10, 11, 12, 13, 14]] 16 0 rfl rfl ?_ ?_
              · refine QChain.run rfl (.plain rfl) rfl (q_field_ptr rfl rfl fd25_1) ?_
                refine QChain.run rfl (.plain rfl) rfl (q_load_ptr rfl rfl rfl rfl ty3) ?_
                refine QChain.run rfl (.plain rfl) rfl (q_move rfl rfl) ?_
                refine QChain.run rfl (.plain rfl) rfl (q_move rfl rfl) ?_
                refine QChain.run rfl (.plain rfl) rfl (q_index_vec rfl rfl rfl sl34 rfl g71.1 g71.2) ?_
                refine QChain.run rfl (.plain rfl) rfl (q_field_eptr rfl rfl fd25_1 rfl) ?_
                refine QChain.run rfl (.plain rfl) rfl (q_load_eptr rfl rfl ty3) ?_
                refine QChain.run rfl (.plain rfl) rfl (q_eql rfl rfl rfl) ?_
                refine QChain.run rfl (.plain rfl) rfl (q_move rfl rfl) ?_
                refine QChain.skip rfl ⟨8, 47, true, rfl, rfl, (.inl (gF g72))⟩ rfl ?_
                refine QChain.skip rfl ⟨8, 47, true, rfl, rfl, (.inl (gF g72))⟩ rfl ?_
                refine QChain.skip rfl ⟨8, 47, true, rfl, rfl, (.inl (gF g72))⟩ rfl ?_
                refine QChain.skip rfl ⟨8, 47, true, rfl, rfl, (.inl (gF g72))⟩ rfl ?_
                refine QChain.skip rfl ⟨8, 47, true, rfl, rfl, (.inl (gF g72))⟩ rfl ?_
                refine QChain.skip rfl ⟨8, 47, true, rfl, rfl, (.inl (gF g72))⟩ rfl ?_
                refine QChain.run rfl (.plain rfl) rfl (q_pick_f rfl rfl g72 rfl) ?_
                exact QChain.nil _ _
              refine (show SOps _ _ _ [] _ _ from ?_)
              refine SOps.sub (st' := ⟨[(0, .c (.vec a0_l.length 7 (gL cSCurtail dSCurtail a0_l))), (3, .c (.ptr 0 0)), (7, .c (.own 1 o1_36.length)), (9, .c (.int .i64 i_35)), (54, .c (.bool false))], [.box [.str a1_c.Name, .int .i64 a1_c.Version, .int .i64 a1_c.Feeder, .int .i64 a1_c.Span_From, .int .i64 a1_c.Span_To, .int .i64 a1_c.Total, .bool a1_c.Cancelled], .arr 25 7 o1_36.length (gL cSCurtail dSCurtail o1_36)]⟩) (sub_gen [0, 1] rfl rfl ⟨zc rfl rfl, zc rfl rfl, zc rfl rfl, zc rfl rfl, zc rfl rfl, trivial⟩ ⟨⟨_, rfl, ⟨ii rfl rfl, ii rfl rfl, ii rfl rfl, ii rfl rfl, ii rfl rfl, ii rfl rfl, ii rfl rfl, trivial⟩⟩, oa rfl, trivial⟩) ?_
              refine SOps.nil ?_
              refine SCode.cond_f rfl rfl ?_
              refine SCode.skip ?_
              exact ⟨(), h, sub_gen [0, 1] rfl rfl ⟨zc rfl rfl, zc rfl rfl, zc rfl rfl, zc rfl rfl, trivial⟩ ⟨⟨_, rfl, ⟨ii rfl rfl, ii rfl rfl, ii rfl rfl, ii rfl rfl, ii rfl rfl, ii rfl rfl, ii rfl rfl, trivial⟩⟩, oa rfl, trivial⟩⟩
            rintro ⟨⟩ h
            show SCode _ _ _ ⟨[(0, .c (.vec a0_l.length 7 (gL cSCurtail dSCurtail a0_l))), (3, .c (.ptr 0 0)), (7, .c (.own 1 o1_36.length)), (9, .c (.int .i64 i_35))], [.box [.str a1_c.Name, .int .i64 a1_c.Version, .int .i64 a1_c.Feeder, .int .i64 a1_c.Span_From, .int .i64 a1_c.Span_To, .int .i64 a1_c.Total, .bool a1_c.Cancelled], .arr 25 7 o1_36.length (gL cSCurtail dSCurtail o1_36)]⟩ _
            replace h : chargenetref13_Put_p70 a1_c i_35 o1_36 (fun done_34 i_35 o1_36 => chargenetref13_Put_l60 a0_l a1_c n_60 done_34 i_35 o1_36) = some r := h
            unfold chargenetref13_Put_p70 at h
            refine SCode.seq ?_
            obtain ⟨g69, h⟩ := guard_out h
            refine SCode.region (show SOps _ _ _ [0, 1, 2, 3, 4] _ _ from ?_)
            refine SOps.q rfl (.plain rfl) rfl (q_move rfl rfl) ?_
            refine SOps.q rfl (.plain rfl) rfl (q_load_ptr_all rfl rfl rfl rfl rfl ty25) ?_
            refine SOps.q rfl (.plain rfl) rfl (q_bsliceL (c := cSCurtail) (d0 := dSCurtail) [a1_c] rfl rfl sl34 z25 rfl rfl rfl rfl rfl rfl rfl) ?_
            refine SOps.e rfl (.plain rfl) (e_appendL (c := cSCurtail) (d0 := dSCurtail) (l := o1_36) (l2 := [a1_c]) rfl rfl rfl rfl rfl rfl (.inl rfl) sl34 z25 rfl rfl oneSCurtail g69.1 g69.2) ?_
            refine SOps.q rfl (.plain rfl) rfl (q_assign rfl rfl) ?_
            refine SOps.sub (st' := ⟨[(0, .c (.vec a0_l.length 7 (gL cSCurtail dSCurtail a0_l))), (3, .c (.ptr 0 0)), (7, .c (.own 1 (o1_36 ++ ([a1_c])).length)), (9, .c (.int .i64 i_35))], [.box [.str a1_c.Name, .int .i64 a1_c.Version, .int .i64 a1_c.Feeder, .int .i64 a1_c.Span_From, .int .i64 a1_c.Span_To, .int .i64 a1_c.Total, .bool a1_c.Cancelled], .arr 25 7 (o1_36 ++ ([a1_c])).length (gL cSCurtail dSCurtail (o1_36 ++ ([a1_c])))]⟩) (sub_gen [0, 2] rfl rfl ⟨zc rfl rfl, zc rfl rfl, zc rfl rfl, zc rfl rfl, trivial⟩ ⟨⟨_, rfl, ⟨ii rfl rfl, ii rfl rfl, ii rfl rfl, ii rfl rfl, ii rfl rfl, ii rfl rfl, ii rfl rfl, trivial⟩⟩, oa rfl, trivial⟩) ?_
            refine SOps.nil ?_
            refine SCode.seq ?_
            refine SCode.region (show SOps _ _ _ [0] _ _ from ?_)
            refine SOps.q rfl (.plain rfl) rfl (q_assign rfl rfl) ?_
            refine SOps.sub (st' := ⟨[(0, .c (.vec a0_l.length 7 (gL cSCurtail dSCurtail a0_l))), (3, .c (.ptr 0 0)), (7, .c (.own 1 (o1_36 ++ ([a1_c])).length)), (8, .c (.bool true)), (9, .c (.int .i64 i_35))], [.box [.str a1_c.Name, .int .i64 a1_c.Version, .int .i64 a1_c.Feeder, .int .i64 a1_c.Span_From, .int .i64 a1_c.Span_To, .int .i64 a1_c.Total, .bool a1_c.Cancelled], .arr 25 7 (o1_36 ++ ([a1_c])).length (gL cSCurtail dSCurtail (o1_36 ++ ([a1_c])))]⟩) (sub_gen [0, 1] rfl rfl ⟨zc rfl rfl, zc rfl rfl, zc rfl rfl, zc rfl rfl, zc rfl rfl, trivial⟩ ⟨⟨_, rfl, ⟨ii rfl rfl, ii rfl rfl, ii rfl rfl, ii rfl rfl, ii rfl rfl, ii rfl rfl, ii rfl rfl, trivial⟩⟩, oa rfl, trivial⟩) ?_
            refine SOps.nil ?_
            refine SCode.exit ?_
            exact ⟨(true, o1_36 ++ ([a1_c])), h, sub_gen [0, 1] rfl rfl ⟨zc rfl rfl, zc rfl rfl, zc rfl rfl, zc rfl rfl, zc rfl rfl, trivial⟩ ⟨⟨_, rfl, ⟨ii rfl rfl, ii rfl rfl, ii rfl rfl, ii rfl rfl, ii rfl rfl, ii rfl rfl, ii rfl rfl, trivial⟩⟩, oa rfl, trivial⟩⟩
          refine SCode.cond_f rfl g66 ?_
          refine SCode.skip ?_
          refine SCode.join (σ := Bool × (List SCurtail)) (S := fun s => ⟨[(0, .c (.vec a0_l.length 7 (gL cSCurtail dSCurtail a0_l))), (3, .c (.ptr 0 0)), (7, .c (.own 1 s.2.length)), (8, .c (.bool s.1)), (9, .c (.int .i64 i_35))], [.box [.str a1_c.Name, .int .i64 a1_c.Version, .int .i64 a1_c.Feeder, .int .i64 a1_c.Span_From, .int .i64 a1_c.Span_To, .int .i64 a1_c.Total, .bool a1_c.Cancelled], .arr 25 7 s.2.length (gL cSCurtail dSCurtail s.2)]⟩) (g := fun s => chargenetref13_Put_p79 a0_l i_35 (fun done_34 i_35 o1_36 => chargenetref13_Put_l60 a0_l a1_c n_60 done_34 i_35 o1_36) s.1 s.2 = some r) ?_ ?_
          rotate_left
          · refine SCode.seq ?_
            rcases cond_out h with ⟨g80, h⟩ | ⟨g80, h⟩
            · obtain ⟨g81, h⟩ := guard_out h
              refine SCode.draw (s' := [(71, .c (.bool ((!(sLt ((a0_l.getD i_35.toNat dSCurtail).Name) a1_c.Name || sEq ((a0_l.getD i_35.toNat dSCurtail).Name) a1_c.Name))))), (70, .c (.bool ((!(sLt ((a0_l.getD i_35.toNat dSCurtail).Name) a1_c.Name || sEq ((a0_l.getD i_35.toNat dSCurtail).Name) a1_c.Name))))), (69, .c (.str a1_c.Name)), (68, .c (.ptr 0 0)), (67, .c (.str ((a0_l.getD i_35.toNat dSCurtail).Name))), (66, .c (.eptr 7 (cSCurtail (a0_l.getD i_35.toNat dSCurtail)) 0)), (65, .c (.eptr 7 (cSCurtail (a0_l.getD i_35.toNat dSCurtail)) 0)), (64, .c (.int .i64 i_35)), (63, .c (.vec a0_l.length 7 (gL cSCurtail dSCurtail a0_l))), (62, .c (.bool ((!done_34)))), (61, .c (.bool ((!done_34)))), (60, .c (.bool done_34)), (0, .c (.vec a0_l.length 7 (gL cSCurtail dSCurtail a0_l))), (3, .c (.ptr 0 0)), (7, .c (.own 1 o1_36.length)), (8, .c (.bool done_34)), (9, .c (.int .i64 i_35)), (29, .c (.bool (sEq ((a0_l.getD i_35.toNat dSCurtail).Name) a1_c.Name)))]) mixed [[], [0], [0, 1], [0, 1, 2], [0, 1, 2], [0, 1, 2, 3, 4], [0, 1, 2, 3, 4, 5], [0, 1, 2, 3, 4, 5, 6], [0, 1, 2], [0, 1, 2, 8], [0, 1, 2, 3, 4, 5, 6, 7, 8, 9], [0, 1, 2, 3, 4, 5, 6, 7, 8, 9, 10]] 12 0 rfl rfl ?_ ?_
              · refine QChain.run rfl (.plain rfl) rfl (q_move rfl rfl) ?_
                refine QChain.run rfl (.plain rfl) rfl (q_not rfl rfl) ?_
                refine QChain.run rfl (.plain rfl) rfl (q_move rfl rfl) ?_
                refine QChain.run rfl (.guard 2 62 true rfl rfl (gT g80)) rfl (q_move rfl rfl) ?_
                refine QChain.run rfl (.guard 2 62 true rfl rfl (gT g80)) rfl (q_move rfl rfl) ?_
                refine QChain.run rfl (.guard 2 62 true rfl rfl (gT g80)) rfl (q_index_vec rfl rfl rfl sl34 rfl g81.1 g81.2) ?_
                refine QChain.run rfl (.guard 2 62 true rfl rfl (gT g80)) rfl (q_field_eptr rfl rfl fd25_0 rfl) ?_
                refine QChain.run rfl (.guard 2 62 true rfl rfl (gT g80)) rfl (q_load_eptr rfl rfl ty9) ?_
                refine QChain.run rfl (.guard 2 62 true rfl rfl (gT g80)) rfl (q_field_ptr rfl rfl fd25_0) ?_
                refine QChain.run rfl (.guard 2 62 true rfl rfl (gT g80)) rfl (q_load_ptr rfl rfl rfl rfl ty9) ?_
                refine QChain.run rfl (.guard 2 62 true rfl rfl (gT g80)) rfl (q_gtrS rfl rfl rfl) ?_
                refine QChain.run rfl (.plain rfl) rfl (q_pick_t rfl rfl g80 rfl) ?_
                exact QChain.nil _ _
              refine (show SOps _ _ _ [] _ _ from ?_)
              refine SOps.sub (st' := ⟨[(0, .c (.vec a0_l.length 7 (gL cSCurtail dSCurtail a0_l))), (3, .c (.ptr 0 0)), (7, .c (.own 1 o1_36.length)), (8, .c (.bool done_34)), (9, .c (.int .i64 i_35)), (71, .c (.bool ((!(sLt ((a0_l.getD i_35.toNat dSCurtail).Name) a1_c.Name || sEq ((a0_l.getD i_35.toNat dSCurtail).Name) a1_c.Name)))))], [.box [.str a1_c.Name, .int .i64 a1_c.Version, .int .i64 a1_c.Feeder, .int .i64 a1_c.Span_From, .int .i64 a1_c.Span_To, .int .i64 a1_c.Total, .bool a1_c.Cancelled], .arr 25 7 o1_36.length (gL cSCurtail dSCurtail o1_36)]⟩) (sub_gen [0, 1] rfl rfl ⟨zc rfl rfl, zc rfl rfl, zc rfl rfl, zc rfl rfl, zc rfl rfl, zc rfl rfl, trivial⟩ ⟨⟨_, rfl, ⟨ii rfl rfl, ii rfl rfl, ii rfl rfl, ii rfl rfl, ii rfl rfl, ii rfl rfl, ii rfl rfl, trivial⟩⟩, oa rfl, trivial⟩) ?_
              refine SOps.nil ?_
              rcases cond_out h with ⟨g82, h⟩ | ⟨g82, h⟩
              · refine SCode.cond_t rfl g82 ?_
                refine SCode.seq ?_
                obtain ⟨g83, h⟩ := guard_out h
                refine SCode.region (show SOps _ _ _ [0, 1, 2, 3, 4] _ _ from ?_)
                refine SOps.q rfl (.plain rfl) rfl (q_move rfl rfl) ?_
                refine SOps.q rfl (.plain rfl) rfl (q_load_ptr_all rfl rfl rfl rfl rfl ty25) ?_
                refine SOps.q rfl (.plain rfl) rfl (q_bsliceL (c := cSCurtail) (d0 := dSCurtail) [a1_c] rfl rfl sl34 z25 rfl rfl rfl rfl rfl rfl rfl) ?_
                refine SOps.e rfl (.plain rfl) (e_appendL (c := cSCurtail) (d0 := dSCurtail) (l := o1_36) (l2 := [a1_c]) rfl rfl rfl rfl rfl rfl (.inl rfl) sl34 z25 rfl rfl oneSCurtail g83.1 g83.2) ?_
                refine SOps.q rfl (.plain rfl) rfl (q_assign rfl rfl) ?_
                refine SOps.sub (st' := ⟨[(0, .c (.vec a0_l.length 7 (gL cSCurtail dSCurtail a0_l))), (3, .c (.ptr 0 0)), (7, .c (.own 1 (o1_36 ++ ([a1_c])).length)), (9, .c (.int .i64 i_35))], [.box [.str a1_c.Name, .int .i64 a1_c.Version, .int .i64 a1_c.Feeder, .int .i64 a1_c.Span_From, .int .i64 a1_c.Span_To, .int .i64 a1_c.Total, .bool a1_c.Cancelled], .arr 25 7 (o1_36 ++ ([a1_c])).length (gL cSCurtail dSCurtail (o1_36 ++ ([a1_c])))]⟩) (sub_gen [0, 2] rfl rfl ⟨zc rfl rfl, zc rfl rfl, zc rfl rfl, zc rfl rfl, trivial⟩ ⟨⟨_, rfl, ⟨ii rfl rfl, ii rfl rfl, ii rfl rfl, ii rfl rfl, ii rfl rfl, ii rfl rfl, ii rfl rfl, trivial⟩⟩, oa rfl, trivial⟩) ?_
                refine SOps.nil ?_
                refine SCode.region (show SOps _ _ _ [0] _ _ from ?_)
                refine SOps.q rfl (.plain rfl) rfl (q_assign rfl rfl) ?_
                refine SOps.sub (st' := ⟨[(0, .c (.vec a0_l.length 7 (gL cSCurtail dSCurtail a0_l))), (3, .c (.ptr 0 0)), (7, .c (.own 1 (o1_36 ++ ([a1_c])).length)), (8, .c (.bool true)), (9, .c (.int .i64 i_35))], [.box [.str a1_c.Name, .int .i64 a1_c.Version, .int .i64 a1_c.Feeder, .int .i64 a1_c.Span_From, .int .i64 a1_c.Span_To, .int .i64 a1_c.Total, .bool a1_c.Cancelled], .arr 25 7 (o1_36 ++ ([a1_c])).length (gL cSCurtail dSCurtail (o1_36 ++ ([a1_c])))]⟩) (sub_gen [0, 1] rfl rfl ⟨zc rfl rfl, zc rfl rfl, zc rfl rfl, zc rfl rfl, zc rfl rfl, trivial⟩ ⟨⟨_, rfl, ⟨ii rfl rfl, ii rfl rfl, ii rfl rfl, ii rfl rfl, ii rfl rfl, ii rfl rfl, ii rfl rfl, trivial⟩⟩, oa rfl, trivial⟩) ?_
                refine SOps.nil ?_
                exact ⟨(true, o1_36 ++ ([a1_c])), h, sub_gen [0, 1] rfl rfl ⟨zc rfl rfl, zc rfl rfl, zc rfl rfl, zc rfl rfl, zc rfl rfl, trivial⟩ ⟨⟨_, rfl, ⟨ii rfl rfl, ii rfl rfl, ii rfl rfl, ii rfl rfl, ii rfl rfl, ii rfl rfl, ii rfl rfl, trivial⟩⟩, oa rfl, trivial⟩⟩
              refine SCode.cond_f rfl g82 ?_
              refine SCode.skip ?_
              exact ⟨(done_34, o1_36), h, sub_gen [0, 1] rfl rfl ⟨zc rfl rfl, zc rfl rfl, zc rfl rfl, zc rfl rfl, zc rfl rfl, trivial⟩ ⟨⟨_, rfl, ⟨ii rfl rfl, ii rfl rfl, ii rfl rfl, ii rfl rfl, ii rfl rfl, ii rfl rfl, ii rfl rfl, trivial⟩⟩, oa rfl, trivial⟩⟩
            refine SCode.draw (s' := [(71, .c (.bool false)), (70, .c (.raw (.tuple #[]))), (69, .c (.raw (.tuple #[]))), (68, .c (.raw (.tuple #[]))), (67, .c (.raw (.tuple #[]))), (66, .c (.raw (.tuple #[]))), (65, .c (.raw (.tuple #[]))), (64, .c (.raw (.tuple #[]))), (63, .c (.raw (.tuple #[]))), (62, .c (.bool ((!done_34)))), (61, .c (.bool ((!done_34)))), (60, .c (.bool done_34)), (0, .c (.vec a0_l.length 7 (gL cSCurtail dSCurtail a0_l))), (3, .c (.ptr 0 0)), (7, .c (.own 1 o1_36.length)), (8, .c (.bool done_34)), (9, .c (.int .i64 i_35)), (29, .c (.bool (sEq ((a0_l.getD i_35.toNat dSCurtail).Name) a1_c.Name)))]) mixed [[], [0], [0, 1], [0, 1, 2], [0, 1, 2], [0, 1, 2, 3, 4], [0, 1, 2, 3, 4, 5], [0, 1, 2, 3, 4, 5, 6], [0, 1, 2], [0, 1, 2, 8], [0, 1, 2, 3, 4, 5, 6, 7, 8, 9], [0, 1, 2, 3, 4, 5, 6, 7, 8, 9, 10]] 12 0 rfl rfl ?_ ?_
            · refine QChain.run rfl (.plain rfl) rfl (q_move rfl rfl) ?_
              refine QChain.run rfl (.plain rfl) rfl (q_not rfl rfl) ?_
              refine QChain.run rfl (.plain rfl) rfl (q_move rfl rfl) ?_
              refine QChain.skip rfl ⟨2, 62, true, rfl, rfl, (.inl (gF g80))⟩ rfl ?_
              refine QChain.skip rfl ⟨2, 62, true, rfl, rfl, (.inl (gF g80))⟩ rfl ?_
              refine QChain.skip rfl ⟨2, 62, true, rfl, rfl, (.inl (gF g80))⟩ rfl ?_
              refine QChain.skip rfl ⟨2, 62, true, rfl, rfl, (.inl (gF g80))⟩ rfl ?_
              refine QChain.skip rfl ⟨2, 62, true, rfl, rfl, (.inl (gF g80))⟩ rfl ?_
              refine QChain.skip rfl ⟨2, 62, true, rfl, rfl, (.inl (gF g80))⟩ rfl ?_
              refine QChain.skip rfl ⟨2, 62, true, rfl, rfl, (.inl (gF g80))⟩ rfl ?_
              refine QChain.skip rfl ⟨2, 62, true, rfl, rfl, (.inl (gF g80))⟩ rfl ?_
              refine QChain.run rfl (.plain rfl) rfl (q_pick_f rfl rfl g80 rfl) ?_
              exact QChain.nil _ _
            refine (show SOps _ _ _ [] _ _ from ?_)
            refine SOps.sub (st' := ⟨[(0, .c (.vec a0_l.length 7 (gL cSCurtail dSCurtail a0_l))), (3, .c (.ptr 0 0)), (7, .c (.own 1 o1_36.length)), (8, .c (.bool done_34)), (9, .c (.int .i64 i_35)), (71, .c (.bool false))], [.box [.str a1_c.Name, .int .i64 a1_c.Version, .int .i64 a1_c.Feeder, .int .i64 a1_c.Span_From, .int .i64 a1_c.Span_To, .int .i64 a1_c.Total, .bool a1_c.Cancelled], .arr 25 7 o1_36.length (gL cSCurtail dSCurtail o1_36)]⟩) (sub_gen [0, 1] rfl rfl ⟨zc rfl rfl, zc rfl rfl, zc rfl rfl, zc rfl rfl, zc rfl rfl, zc rfl rfl, trivial⟩ ⟨⟨_, rfl, ⟨ii rfl rfl, ii rfl rfl, ii rfl rfl, ii rfl rfl, ii rfl rfl, ii rfl rfl, ii rfl rfl, trivial⟩⟩, oa rfl, trivial⟩) ?_
            refine SOps.nil ?_
            refine SCode.cond_f rfl rfl ?_
            refine SCode.skip ?_
            exact ⟨(done_34, o1_36), h, sub_gen [0, 1] rfl rfl ⟨zc rfl rfl, zc rfl rfl, zc rfl rfl, zc rfl rfl, zc rfl rfl, trivial⟩ ⟨⟨_, rfl, ⟨ii rfl rfl, ii rfl rfl, ii rfl rfl, ii rfl rfl, ii rfl rfl, ii rfl rfl, ii rfl rfl, trivial⟩⟩, oa rfl, trivial⟩⟩
          rintro ⟨done_75, o1_76⟩ h
          show SCode _ _ _ ⟨[(0, .c (.vec a0_l.length 7 (gL cSCurtail dSCurtail a0_l))), (3, .c (.ptr 0 0)), (7, .c (.own 1 o1_76.length)), (8, .c (.bool done_75)), (9, .c (.int .i64 i_35))], [.box [.str a1_c.Name, .int .i64 a1_c.Version, .int .i64 a1_c.Feeder, .int .i64 a1_c.Span_From, .int .i64 a1_c.Span_To, .int .i64 a1_c.Total, .bool a1_c.Cancelled], .arr 25 7 o1_76.length (gL cSCurtail dSCurtail o1_76)]⟩ _
          replace h : chargenetref13_Put_p79 a0_l i_35 (fun done_34 i_35 o1_36 => chargenetref13_Put_l60 a0_l a1_c n_60 done_34 i_35 o1_36) done_75 o1_76 = some r := h
          unfold chargenetref13_Put_p79 at h
          obtain ⟨g77, h⟩ := guard_out h
          obtain ⟨g78, h⟩ := guard_out h
          refine SCode.region (show SOps _ _ _ [0, 1, 2, 3, 4, 5, 6, 7] _ _ from ?_)
          refine SOps.q rfl (.plain rfl) rfl (q_move rfl rfl) ?_
          refine SOps.q rfl (.plain rfl) rfl (q_move rfl rfl) ?_
          refine SOps.q rfl (.plain rfl) rfl (q_move rfl rfl) ?_
          refine SOps.q rfl (.plain rfl) rfl (q_index_vec rfl rfl rfl sl34 rfl g77.1 g77.2) ?_
          refine SOps.q rfl (.plain rfl) rfl (q_load_eptr_all rfl rfl rfl ty25) ?_
          refine SOps.q rfl (.plain rfl) rfl (q_bsliceL (c := cSCurtail) (d0 := dSCurtail) [a0_l.getD i_35.toNat dSCurtail] rfl rfl sl34 z25 rfl rfl rfl rfl rfl rfl rfl) ?_
          refine SOps.e rfl (.plain rfl) (e_appendL (c := cSCurtail) (d0 := dSCurtail) (l := o1_76) (l2 := [a0_l.getD i_35.toNat dSCurtail]) rfl rfl rfl rfl rfl rfl (.inl rfl) sl34 z25 rfl rfl oneSCurtail g78.1 g78.2) ?_
          refine SOps.q rfl (.plain rfl) rfl (q_assign rfl rfl) ?_
          refine SOps.sub (st' := ⟨[(0, .c (.vec a0_l.length 7 (gL cSCurtail dSCurtail a0_l))), (3, .c (.ptr 0 0)), (7, .c (.own 1 (o1_76 ++ ([a0_l.getD i_35.toNat dSCurtail])).length)), (8, .c (.bool done_75)), (9, .c (.int .i64 i_35))], [.box [.str a1_c.Name, .int .i64 a1_c.Version, .int .i64 a1_c.Feeder, .int .i64 a1_c.Span_From, .int .i64 a1_c.Span_To, .int .i64 a1_c.Total, .bool a1_c.Cancelled], .arr 25 7 (o1_76 ++ ([a0_l.getD i_35.toNat dSCurtail])).length (gL cSCurtail dSCurtail (o1_76 ++ ([a0_l.getD i_35.toNat dSCurtail])))]⟩) (sub_gen [0, 2] rfl rfl ⟨zc rfl rfl, zc rfl rfl, zc rfl rfl, zc rfl rfl, zc rfl rfl, trivial⟩ ⟨⟨_, rfl, ⟨ii rfl rfl, ii rfl rfl, ii rfl rfl, ii rfl rfl, ii rfl rfl, ii rfl rfl, ii rfl rfl, trivial⟩⟩, oa rfl, trivial⟩) ?_
          refine SOps.nil ?_
          exact ⟨(done_75, o1_76 ++ ([a0_l.getD i_35.toNat dSCurtail])), h, sub_gen [0, 1] rfl rfl ⟨zc rfl rfl, zc rfl rfl, zc rfl rfl, zc rfl rfl, zc rfl rfl, trivial⟩ ⟨⟨_, rfl, ⟨ii rfl rfl, ii rfl rfl, ii rfl rfl, ii rfl rfl, ii rfl rfl, ii rfl rfl, ii rfl rfl, trivial⟩⟩, oa rfl, trivial⟩⟩
        rintro ⟨done_62, o1_63⟩ h
        show SCode _ _ _ ⟨[(0, .c (.vec a0_l.length 7 (gL cSCurtail dSCurtail a0_l))), (3, .c (.ptr 0 0)), (7, .c (.own 1 o1_63.length)), (8, .c (.bool done_62)), (9, .c (.int .i64 i_35))], [.box [.str a1_c.Name, .int .i64 a1_c.Version, .int .i64 a1_c.Feeder, .int .i64 a1_c.Span_From, .int .i64 a1_c.Span_To, .int .i64 a1_c.Total, .bool a1_c.Cancelled], .arr 25 7 o1_63.length (gL cSCurtail dSCurtail o1_63)]⟩ _
        replace h : chargenetref13_Put_p64 i_35 (fun done_34 i_35 o1_36 => chargenetref13_Put_l60 a0_l a1_c n_60 done_34 i_35 o1_36) done_62 o1_63 = some r := h
        unfold chargenetref13_Put_p64 at h
        refine SCode.region (show SOps _ _ _ [0, 1, 2] _ _ from ?_)
        refine SOps.q rfl (.plain rfl) rfl (q_move rfl rfl) ?_
        refine SOps.q rfl (.plain rfl) rfl (q_add rfl rfl rfl) ?_
        refine SOps.q rfl (.plain rfl) rfl (q_assign rfl rfl) ?_
        refine SOps.sub (st' := ⟨[(0, .c (.vec a0_l.length 7 (gL cSCurtail dSCurtail a0_l))), (3, .c (.ptr 0 0)), (7, .c (.own 1 o1_63.length)), (8, .c (.bool done_62)), (9, .c (.int .i64 (IntKind.wrap .i64 (i_35 + 1))))], [.box [.str a1_c.Name, .int .i64 a1_c.Version, .int .i64 a1_c.Feeder, .int .i64 a1_c.Span_From, .int .i64 a1_c.Span_To, .int .i64 a1_c.Total, .bool a1_c.Cancelled], .arr 25 7 o1_63.length (gL cSCurtail dSCurtail o1_63)]⟩) (sub_gen [0, 1] rfl rfl ⟨zc rfl rfl, zc rfl rfl, zc rfl rfl, zc rfl rfl, zc rfl rfl, trivial⟩ ⟨⟨_, rfl, ⟨ii rfl rfl, ii rfl rfl, ii rfl rfl, ii rfl rfl, ii rfl rfl, ii rfl rfl, ii rfl rfl, trivial⟩⟩, oa rfl, trivial⟩) ?_
        refine SOps.nil ?_
        exact ⟨(n_60, (done_62, IntKind.wrap .i64 (i_35 + 1), o1_63)), h, Nat.lt_succ_self n_60, sub_gen [0, 1] rfl rfl ⟨zc rfl rfl, zc rfl rfl, zc rfl rfl, zc rfl rfl, zc rfl rfl, trivial⟩ ⟨⟨_, rfl, ⟨ii rfl rfl, ii rfl rfl, ii rfl rfl, ii rfl rfl, ii rfl rfl, ii rfl rfl, ii rfl rfl, trivial⟩⟩, oa rfl, trivial⟩⟩
      refine SCode.cond_f rfl g61 ?_
      refine SCode.exit ?_
      exact ⟨(done_34, o1_36), h, sub_gen [0, 1] rfl rfl ⟨zc rfl rfl, zc rfl rfl, zc rfl rfl, zc rfl rfl, trivial⟩ ⟨⟨_, rfl, ⟨ii rfl rfl, ii rfl rfl, ii rfl rfl, ii rfl rfl, ii rfl rfl, ii rfl rfl, ii rfl rfl, trivial⟩⟩, oa rfl, trivial⟩⟩
  rintro ⟨done_4, o1_5⟩ h
  show SCode _ _ _ ⟨[(0, .c (.vec a0_l.length 7 (gL cSCurtail dSCurtail a0_l))), (3, .c (.ptr 0 0)), (7, .c (.own 1 o1_5.length)), (8, .c (.bool done_4))], [.box [.str a1_c.Name, .int .i64 a1_c.Version, .int .i64 a1_c.Feeder, .int .i64 a1_c.Span_From, .int .i64 a1_c.Span_To, .int .i64 a1_c.Total, .bool a1_c.Cancelled], .arr 25 7 o1_5.length (gL cSCurtail dSCurtail o1_5)]⟩ _
  replace h : chargenetref13_Put_p11 a0_l a1_c done_4 o1_5 = some r := h
  unfold chargenetref13_Put_p11 at h
  refine SCode.join (σ := (List SCurtail)) (S := fun s => ⟨[(0, .c (.vec a0_l.length 7 (gL cSCurtail dSCurtail a0_l))), (7, .c (.own 0 s.length))], [.arr 25 7 s.length (gL cSCurtail dSCurtail s)]⟩) (g := fun s => chargenetref13_Put_p8 a0_l s = some r) ?_ ?_
  rotate_left
  · refine SCode.seq ?_
    refine SCode.region (show SOps _ _ _ [0, 1] _ _ from ?_)
    refine SOps.q rfl (.plain rfl) rfl (q_move rfl rfl) ?_
    refine SOps.q rfl (.plain rfl) rfl (q_not rfl rfl) ?_
    refine SOps.sub (st' := ⟨[(0, .c (.vec a0_l.length 7 (gL cSCurtail dSCurtail a0_l))), (3, .c (.ptr 0 0)), (7, .c (.own 1 o1_5.length)), (84, .c (.bool ((!done_4))))], [.box [.str a1_c.Name, .int .i64 a1_c.Version, .int .i64 a1_c.Feeder, .int .i64 a1_c.Span_From, .int .i64 a1_c.Span_To, .int .i64 a1_c.Total, .bool a1_c.Cancelled], .arr 25 7 o1_5.length (gL cSCurtail dSCurtail o1_5)]⟩) (sub_gen [0, 1] rfl rfl ⟨zc rfl rfl, zc rfl rfl, zc rfl rfl, zc rfl rfl, trivial⟩ ⟨⟨_, rfl, ⟨ii rfl rfl, ii rfl rfl, ii rfl rfl, ii rfl rfl, ii rfl rfl, ii rfl rfl, ii rfl rfl, trivial⟩⟩, oa rfl, trivial⟩) ?_
    refine SOps.nil ?_
    rcases cond_out h with ⟨g9, h⟩ | ⟨g9, h⟩
    · refine SCode.cond_t rfl g9 ?_
      obtain ⟨g10, h⟩ := guard_out h
      refine SCode.region (show SOps _ _ _ [0, 1, 2, 3, 4] _ _ from ?_)
      refine SOps.q rfl (.plain rfl) rfl (q_move rfl rfl) ?_
      refine SOps.q rfl (.plain rfl) rfl (q_load_ptr_all rfl rfl rfl rfl rfl ty25) ?_
      refine SOps.q rfl (.plain rfl) rfl (q_bsliceL (c := cSCurtail) (d0 := dSCurtail) [a1_c] rfl rfl sl34 z25 rfl rfl rfl rfl rfl rfl rfl) ?_
      refine SOps.e rfl (.plain rfl) (e_appendL (c := cSCurtail) (d0 := dSCurtail) (l := o1_5) (l2 := [a1_c]) rfl rfl rfl rfl rfl rfl (.inl rfl) sl34 z25 rfl rfl oneSCurtail g10.1 g10.2) ?_
      refine SOps.q rfl (.plain rfl) rfl (q_assign rfl rfl) ?_
      refine SOps.sub (st' := ⟨[(0, .c (.vec a0_l.length 7 (gL cSCurtail dSCurtail a0_l))), (7, .c (.own 0 (o1_5 ++ ([a1_c])).length))], [.arr 25 7 (o1_5 ++ ([a1_c])).length (gL cSCurtail dSCurtail (o1_5 ++ ([a1_c])))]⟩) (sub_gen [2] rfl rfl ⟨zc rfl rfl, zc rfl rfl, trivial⟩ ⟨oa rfl, trivial⟩) ?_
      refine SOps.nil ?_
      exact ⟨o1_5 ++ ([a1_c]), h, sub_gen [0] rfl rfl ⟨zc rfl rfl, zc rfl rfl, trivial⟩ ⟨oa rfl, trivial⟩⟩
    refine SCode.cond_f rfl g9 ?_
    refine SCode.skip ?_
    exact ⟨o1_5, h, sub_gen [1] rfl rfl ⟨zc rfl rfl, zc rfl rfl, trivial⟩ ⟨oa rfl, trivial⟩⟩
  rintro o0_6 h
  show SCode _ _ _ ⟨[(0, .c (.vec a0_l.length 7 (gL cSCurtail dSCurtail a0_l))), (7, .c (.own 0 o0_6.length))], [.arr 25 7 o0_6.length (gL cSCurtail dSCurtail o0_6)]⟩ _
  replace h : chargenetref13_Put_p8 a0_l o0_6 = some r := h
  unfold chargenetref13_Put_p8 at h
  refine SCode.seq ?_
  refine SCode.seq ?_
  refine SCode.region (show SOps _ _ _ [0, 1, 2] _ _ from ?_)
  refine SOps.q rfl (.plain rfl) rfl (q_move rfl rfl) ?_
  refine SOps.q rfl (.plain rfl) rfl (q_len_own rfl rfl sl34) ?_
  refine SOps.q rfl (.plain rfl) rfl (q_gtr rfl rfl rfl) ?_
  refine SOps.sub (st' := ⟨[(0, .c (.vec a0_l.length 7 (gL cSCurtail dSCurtail a0_l))), (7, .c (.own 0 o0_6.length)), (91, .c (.bool (decide (64 < ((o0_6).length : Int)))))], [.arr 25 7 o0_6.length (gL cSCurtail dSCurtail o0_6)]⟩) (sub_gen [0] rfl rfl ⟨zc rfl rfl, zc rfl rfl, zc rfl rfl, trivial⟩ ⟨oa rfl, trivial⟩) ?_
  refine SOps.nil ?_
  rcases cond_out h with ⟨g7, h⟩ | ⟨g7, h⟩
  · refine SCode.cond_t rfl g7 ?_
    refine SCode.seq ?_
    refine SCode.region (show SOps _ _ _ [0, 1, 2] _ _ from ?_)
    refine SOps.q rfl (.plain rfl) rfl (q_move rfl rfl) ?_
    refine SOps.q rfl (.plain rfl) rfl (q_assign rfl rfl) ?_
    refine SOps.q rfl (.plain rfl) rfl (q_assign rfl rfl) ?_
    refine SOps.sub (st' := ⟨[(4, .c (.vec a0_l.length 7 (gL cSCurtail dSCurtail a0_l))), (5, .c (.int .i64 3))], []⟩) (sub_gen [] rfl rfl ⟨zc rfl rfl, zc rfl rfl, trivial⟩ trivial) ?_
    refine SOps.nil ?_
    refine SCode.ret ?_
    obtain rfl := Option.some.inj h
    exact ⟨⟨[(4, .c (.vec a0_l.length 7 (gL cSCurtail dSCurtail a0_l))), (5, .c (.int .i64 3))], []⟩, _, sub_gen [] rfl rfl ⟨zc rfl rfl, zc rfl rfl, trivial⟩ trivial, resA2 (v1 := .c (.vec a0_l.length 7 (gL cSCurtail dSCurtail a0_l))) (v2 := .c (.int .i64 3)) rfl rfl rfl, rfl⟩
  refine SCode.cond_f rfl g7 ?_
  refine SCode.skip ?_
  refine SCode.seq ?_
  refine SCode.region (show SOps _ _ _ [0, 1, 2] _ _ from ?_)
  refine SOps.q rfl (.plain rfl) rfl (q_move rfl rfl) ?_
  refine SOps.q rfl (.plain rfl) rfl (q_assign rfl rfl) ?_
  refine SOps.q rfl (.plain rfl) rfl (q_assign rfl rfl) ?_
  refine SOps.sub (st' := ⟨[(4, .c (.own 0 o0_6.length)), (5, .c (.int .i64 0))], [.arr 25 7 o0_6.length (gL cSCurtail dSCurtail o0_6)]⟩) (sub_gen [0] rfl rfl ⟨zc rfl rfl, zc rfl rfl, trivial⟩ ⟨oa rfl, trivial⟩) ?_
  refine SOps.nil ?_
  refine SCode.ret ?_
  obtain rfl := Option.some.inj h
  exact ⟨⟨[(4, .c (.vec o0_6.length 7 (gL cSCurtail dSCurtail o0_6))), (5, .c (.int .i64 0))], []⟩, _, sub_gen [] rfl rfl ⟨⟨_, rfl, .inr (.inl ⟨_, _, _, _, _, _, _, rfl, rfl, rfl, Nat.le_refl _, fun _ _ _ _ => rfl, by decide⟩)⟩, zc rfl rfl, trivial⟩ trivial, resA2 (v1 := .c (.vec o0_6.length 7 (gL cSCurtail dSCurtail o0_6))) (v2 := .c (.int .i64 0)) rfl rfl rfl, rfl⟩
set_option maxRecDepth 100000 in
set_option maxHeartbeats 8000000 in
theorem chargenetlaw13_CurtailPut_ok (F : Nat) (a0_l : List SCurtail) (r : Bool) (h : chargenetlaw13_CurtailPut F a0_l = some r) :
    SFun Try.prog 4 [] [.c (.vec a0_l.length 7 (gL cSCurtail dSCurtail a0_l))] (fun x _ => x = .c (.bool r)) := by
  refine SFun.of (n := 46) Try.func4 rfl rfl rfl ?_
  unfold chargenetlaw13_CurtailPut at h
  show SCode _ _ _ ⟨[(0, .c (.vec a0_l.length 7 (gL cSCurtail dSCurtail a0_l)))], []⟩ _
  refine SCode.seq ?_
  refine SCode.region (show SOps _ _ _ [0] _ _ from ?_)
  refine SOps.q rfl (.plain rfl) rfl (q_assign rfl rfl) ?_
  refine SOps.sub (st' := ⟨[(0, .c (.vec a0_l.length 7 (gL cSCurtail dSCurtail a0_l)))], []⟩) (sub_gen [] rfl rfl ⟨zc rfl rfl, trivial⟩ trivial) ?_
  refine SOps.nil ?_
  refine SCode.seq ?_
  refine SCode.seq ?_
  refine SCode.region (show SOps _ _ _ [0, 1, 2] _ _ from ?_)
  refine SOps.q rfl (.plain rfl) rfl (q_move rfl rfl) ?_
  refine SOps.q rfl (.plain rfl) rfl (q_len_vec rfl rfl sl34) ?_
  refine SOps.q rfl (.plain rfl) rfl (q_gtr rfl rfl rfl) ?_
  refine SOps.sub (st' := ⟨[(0, .c (.vec a0_l.length 7 (gL cSCurtail dSCurtail a0_l))), (10, .c (.bool (decide (100 < ((a0_l).length : Int)))))], []⟩) (sub_gen [] rfl rfl ⟨zc rfl rfl, zc rfl rfl, trivial⟩ trivial) ?_
  refine SOps.nil ?_
  rcases cond_out h with ⟨g1, h⟩ | ⟨g1, h⟩
  · refine SCode.cond_t rfl g1 ?_
    refine SCode.seq ?_
    obtain ⟨c_2, g3, h⟩ := bind_out h
    try dsimp only at h
    refine SCode.region (show SOps _ _ _ [0, 1] _ _ from ?_)
    refine SOps.q rfl (.plain rfl) rfl (q_call (chargenetlaw13_exampleHolds_ok F  c_2 g3) [] rfl fn9 trivial (.inl rfl)) ?_
    refine SOps.q rfl (.plain rfl) rfl (q_assign rfl rfl) ?_
    refine SOps.sub (st' := ⟨[(2, .c (.bool c_2))], []⟩) (sub_gen [] rfl rfl ⟨zc rfl rfl, trivial⟩ trivial) ?_
    refine SOps.nil ?_
    refine SCode.ret ?_
    obtain rfl := Option.some.inj h
    exact ⟨⟨[(2, .c (.bool c_2))], []⟩, _, sub_gen [] rfl rfl ⟨zc rfl rfl, trivial⟩ trivial, resA1 (v := .c (.bool c_2)) rfl rfl, rfl⟩
  refine SCode.cond_f rfl g1 ?_
  refine SCode.skip ?_
  refine SCode.seq ?_
  refine SCode.region (show SOps _ _ _ [0, 1] _ _ from ?_)
  refine SOps.q rfl (.plain rfl) rfl (q_assign rfl rfl) ?_
  refine SOps.q rfl (.plain rfl) rfl (q_assign rfl rfl) ?_
  refine SOps.sub (st' := ⟨[(0, .c (.vec a0_l.length 7 (gL cSCurtail dSCurtail a0_l))), (3, .c (.raw (.slice none 0 0))), (4, .c (.raw (.slice none 0 0)))], []⟩) (sub_gen [] rfl rfl ⟨zc rfl rfl, zc rfl rfl, zc rfl rfl, trivial⟩ trivial) ?_
  refine SOps.nil ?_
  refine SCode.join (σ := Unit) (S := fun s => ⟨[], []⟩) (g := fun s => chargenetlaw13_CurtailPut_p6 F = some r) ?_ ?_
  rotate_left
  · refine SCode.seq ?_
    refine SCode.region (show SOps _ _ _ [0, 1, 2] _ _ from ?_)
    refine SOps.q rfl (.plain rfl) rfl (q_move rfl rfl) ?_
    refine SOps.q rfl (.plain rfl) rfl (q_len_vec rfl rfl sl34) ?_
    refine SOps.q rfl (.plain rfl) rfl (q_move rfl rfl) ?_
    refine SOps.sub (st' := ⟨[(0, .c (.vec a0_l.length 7 (gL cSCurtail dSCurtail a0_l))), (3, .c (.raw (.slice none 0 0))), (4, .c (.raw (.slice none 0 0))), (13, .c (.int .i64 (((a0_l).length : Int)))), (14, .c (.int .i64 0))], []⟩) (sub_gen [] rfl rfl ⟨zc rfl rfl, zc rfl rfl, zc rfl rfl, zc rfl rfl, zc rfl rfl, trivial⟩ trivial) ?_
    refine SOps.nil ?_
    refine SCode.block ?_
    refine SCode.sub (st' := ⟨[(0, .c (.vec a0_l.length 7 (gL cSCurtail dSCurtail a0_l))), (3, .c (.vec ([] : List SCurtail).length 7 (gL cSCurtail dSCurtail ([] : List SCurtail)))), (4, .c (.vec ([] : List SCurtail).length 7 (gL cSCurtail dSCurtail ([] : List SCurtail)))), (13, .c (.int .i64 (((a0_l).length : Int)))), (14, .c (.int .i64 0))], []⟩) (sub_gen [] rfl rfl ⟨zc rfl rfl, ⟨_, rfl, .inr (.inr (.inr (.inl ⟨_, _, rfl, rfl⟩)))⟩, ⟨_, rfl, .inr (.inr (.inr (.inl ⟨_, _, rfl, rfl⟩)))⟩, zc rfl rfl, zc rfl rfl, trivial⟩ trivial) ?_
    refine (SCode.loop (σ := Nat × ((List SCurtail) × (List SCurtail) × Int)) (S := fun s => ⟨[(0, .c (.vec a0_l.length 7 (gL cSCurtail dSCurtail a0_l))), (3, .c (.vec s.2.1.length 7 (gL cSCurtail dSCurtail s.2.1))), (4, .c (.vec s.2.2.1.length 7 (gL cSCurtail dSCurtail s.2.2.1))), (13, .c (.int .i64 (((a0_l).length : Int)))), (14, .c (.int .i64 s.2.2.2))], []⟩) (g := fun s => chargenetlaw13_CurtailPut_l32 F a0_l s.1 s.2.1 s.2.2.1 s.2.2.2 = some r) (μ := fun s => s.1) (F, ([], [], 0)) h ?_)
    rintro ⟨n_32, ⟨a_18, b_19, t14_20⟩⟩ h
    replace h : chargenetlaw13_CurtailPut_l32 F a0_l n_32 a_18 b_19 t14_20 = some r := h
    show SCode _ _ _ ⟨[(0, .c (.vec a0_l.length 7 (gL cSCurtail dSCurtail a0_l))), (3, .c (.vec a_18.length 7 (gL cSCurtail dSCurtail a_18))), (4, .c (.vec b_19.length 7 (gL cSCurtail dSCurtail b_19))), (13, .c (.int .i64 (((a0_l).length : Int)))), (14, .c (.int .i64 t14_20))], []⟩ _
    cases n_32 with
    | zero => cases h
    | succ n_32 =>
      replace h : chargenetlaw13_CurtailPut_b32 F a0_l (fun a_18 b_19 t14_20 => chargenetlaw13_CurtailPut_l32 F a0_l n_32 a_18 b_19 t14_20) a_18 b_19 t14_20 = some r := h
      unfold chargenetlaw13_CurtailPut_b32 at h
      refine SCode.seq ?_
      refine SCode.region (show SOps _ _ _ [0] _ _ from ?_)
      refine SOps.q rfl (.plain rfl) rfl (q_lss rfl rfl rfl) ?_
      refine SOps.sub (st' := ⟨[(0, .c (.vec a0_l.length 7 (gL cSCurtail dSCurtail a0_l))), (3, .c (.vec a_18.length 7 (gL cSCurtail dSCurtail a_18))), (4, .c (.vec b_19.length 7 (gL cSCurtail dSCurtail b_19))), (13, .c (.int .i64 (((a0_l).length : Int)))), (14, .c (.int .i64 t14_20)), (15, .c (.bool (decide (t14_20 < ((a0_l).length : Int)))))], []⟩) (sub_gen [] rfl rfl ⟨zc rfl rfl, zc rfl rfl, zc rfl rfl, zc rfl rfl, zc rfl rfl, zc rfl rfl, trivial⟩ trivial) ?_
      refine SOps.nil ?_
      refine SCode.seq ?_
      rcases cond_out h with ⟨g33, h⟩ | ⟨g33, h⟩
      · refine SCode.cond_t rfl g33 ?_
        refine SCode.skip ?_
        refine SCode.seq ?_
        refine SCode.block ?_
        refine SCode.seq ?_
        refine SCode.region (show SOps _ _ _ [0, 1] _ _ from ?_)
        refine SOps.q rfl (.plain rfl) rfl (q_move rfl rfl) ?_
        refine SOps.q rfl (.plain rfl) rfl (q_assign rfl rfl) ?_
        refine SOps.sub (st' := ⟨[(0, .c (.vec a0_l.length 7 (gL cSCurtail dSCurtail a0_l))), (3, .c (.vec a_18.length 7 (gL cSCurtail dSCurtail a_18))), (4, .c (.vec b_19.length 7 (gL cSCurtail dSCurtail b_19))), (5, .c (.int .i64 t14_20)), (13, .c (.int .i64 (((a0_l).length : Int)))), (14, .c (.int .i64 t14_20))], []⟩) (sub_gen [] rfl rfl ⟨zc rfl rfl, zc rfl rfl, zc rfl rfl, zc rfl rfl, zc rfl rfl, zc rfl rfl, trivial⟩ trivial) ?_
        refine SOps.nil ?_
        refine SCode.seq ?_
        refine SCode.region (show SOps _ _ _ [0, 1] _ _ from ?_)
        refine SOps.q rfl (.plain rfl) rfl (q_assign rfl rfl) ?_
        refine SOps.q rfl (.plain rfl) rfl (q_assign rfl rfl) ?_
        refine SOps.sub (st' := ⟨[(0, .c (.vec a0_l.length 7 (gL cSCurtail dSCurtail a0_l))), (3, .c (.vec a_18.length 7 (gL cSCurtail dSCurtail a_18))), (4, .c (.vec b_19.length 7 (gL cSCurtail dSCurtail b_19))), (5, .c (.int .i64 t14_20)), (13, .c (.int .i64 (((a0_l).length : Int)))), (14, .c (.int .i64 t14_20))], []⟩) (sub_gen [] rfl rfl ⟨zc rfl rfl, zc rfl rfl, zc rfl rfl, zc rfl rfl, zc rfl rfl, zc rfl rfl, trivial⟩ trivial) ?_
        refine SOps.nil ?_
        refine SCode.seq ?_
        obtain ⟨g34, h⟩ := guard_out h
        obtain ⟨c_35, g36, h⟩ := bind_out h
        try dsimp only at h
        refine SCode.region (show SOps _ _ _ [0, 1, 2, 3, 4, 5, 6, 7, 8, 9, 10] _ _ from ?_)
        refine SOps.q rfl (.plain rfl) rfl (q_move rfl rfl) ?_
        refine SOps.q rfl (.plain rfl) rfl (q_move rfl rfl) ?_
        refine SOps.q rfl (.plain rfl) rfl (q_move rfl rfl) ?_
        refine SOps.q rfl (.plain rfl) rfl (q_index_vec rfl rfl rfl sl34 rfl g34.1 g34.2) ?_
        refine SOps.q rfl (.plain rfl) rfl (q_load_eptr_all rfl rfl rfl ty25) ?_
        refine SOps.q rfl (.plain rfl) rfl (q_call (curtail_Put_ok F a_18 (a0_l.getD t14_20.toNat dSCurtail) c_35 g36) [] rfl fn12 ⟨⟨_, rfl, .inl ⟨rfl, rfl⟩⟩, ⟨rfl, rfl⟩, trivial⟩ (.inl rfl)) ?_
        refine SOps.q rfl (.plain rfl) rfl (q_move rfl rfl) ?_
        refine SOps.q rfl (.plain rfl) rfl (q_extract rfl rfl rfl) ?_
        refine SOps.q rfl (.plain rfl) rfl (q_extract rfl rfl rfl) ?_
        refine SOps.q rfl (.plain rfl) rfl (q_assign rfl rfl) ?_
        refine SOps.q rfl (.plain rfl) rfl (q_assign rfl rfl) ?_
        refine SOps.sub (st' := ⟨[(0, .c (.vec a0_l.length 7 (gL cSCurtail dSCurtail a0_l))), (3, .c (.vec c_35.1.length 7 (gL cSCurtail dSCurtail c_35.1))), (4, .c (.vec b_19.length 7 (gL cSCurtail dSCurtail b_19))), (5, .c (.int .i64 t14_20)), (6, .c (.int .i64 c_35.2)), (13, .c (.int .i64 (((a0_l).length : Int)))), (14, .c (.int .i64 t14_20))], []⟩) (sub_gen [] rfl rfl ⟨zc rfl rfl, zc rfl rfl, zc rfl rfl, zc rfl rfl, zc rfl rfl, zc rfl rfl, zc rfl rfl, trivial⟩ trivial) ?_
        refine SOps.nil ?_
        refine SCode.seq ?_
        obtain ⟨g37, h⟩ := guard_out h
        obtain ⟨c_38, g39, h⟩ := bind_out h
        try dsimp only at h
        refine SCode.region (show SOps _ _ _ [0, 1, 2, 3, 4, 5, 6, 7, 8, 9, 10] _ _ from ?_)
        refine SOps.q rfl (.plain rfl) rfl (q_move rfl rfl) ?_
        refine SOps.q rfl (.plain rfl) rfl (q_move rfl rfl) ?_
        refine SOps.q rfl (.plain rfl) rfl (q_move rfl rfl) ?_
        refine SOps.q rfl (.plain rfl) rfl (q_index_vec rfl rfl rfl sl34 rfl g37.1 g37.2) ?_
        refine SOps.q rfl (.plain rfl) rfl (q_load_eptr_all rfl rfl rfl ty25) ?_
        refine SOps.q rfl (.plain rfl) rfl (q_call (chargenetref13_Put_ok F b_19 (a0_l.getD t14_20.toNat dSCurtail) c_38 g39) [] rfl fn13 ⟨⟨_, rfl, .inl ⟨rfl, rfl⟩⟩, ⟨rfl, rfl⟩, trivial⟩ (.inl rfl)) ?_
        refine SOps.q rfl (.plain rfl) rfl (q_move rfl rfl) ?_
        refine SOps.q rfl (.plain rfl) rfl (q_extract rfl rfl rfl) ?_
        refine SOps.q rfl (.plain rfl) rfl (q_extract rfl rfl rfl) ?_
        refine SOps.q rfl (.plain rfl) rfl (q_assign rfl rfl) ?_
        refine SOps.q rfl (.plain rfl) rfl (q_assign rfl rfl) ?_
        refine SOps.sub (st' := ⟨[(0, .c (.vec a0_l.length 7 (gL cSCurtail dSCurtail a0_l))), (3, .c (.vec c_35.1.length 7 (gL cSCurtail dSCurtail c_35.1))), (4, .c (.vec c_38.1.length 7 (gL cSCurtail dSCurtail c_38.1))), (6, .c (.int .i64 c_35.2)), (7, .c (.int .i64 c_38.2)), (13, .c (.int .i64 (((a0_l).length : Int)))), (14, .c (.int .i64 t14_20))], []⟩) (sub_gen [] rfl rfl ⟨zc rfl rfl, zc rfl rfl, zc rfl rfl, zc rfl rfl, zc rfl rfl, zc rfl rfl, zc rfl rfl, trivial⟩ trivial) ?_
        refine SOps.nil ?_
        refine SCode.seq ?_
        rcases cond_out h with ⟨g40, h⟩ | ⟨g40, h⟩
        · refine SCode.region (show SOps _ _ _ [0, 1, 2, 3, 4, 5, 6, 7, 8] _ _ from ?_)
          refine SOps.q rfl (.plain rfl) rfl (q_move rfl rfl) ?_
          refine SOps.q rfl (.plain rfl) rfl (q_move rfl rfl) ?_
          refine SOps.q rfl (.plain rfl) rfl (q_neq rfl rfl rfl) ?_
          refine SOps.q rfl (.plain rfl) rfl (q_move rfl rfl) ?_
          refine SOps.skip rfl 3 38 false rfl rfl (.inl (gT g40)) rfl ?_
          refine SOps.skip rfl 3 38 false rfl rfl (.inl (gT g40)) rfl ?_
          refine SOps.skip rfl 3 38 false rfl rfl (.inl (gT g40)) rfl ?_
          refine SOps.skip rfl 3 38 false rfl rfl (.inl (gT g40)) rfl ?_
          refine SOps.q rfl (.plain rfl) rfl (q_pick_t rfl rfl g40 rfl) ?_
          refine SOps.sub (st' := ⟨[(0, .c (.vec a0_l.length 7 (gL cSCurtail dSCurtail a0_l))), (3, .c (.vec c_35.1.length 7 (gL cSCurtail dSCurtail c_35.1))), (4, .c (.vec c_38.1.length 7 (gL cSCurtail dSCurtail c_38.1))), (13, .c (.int .i64 (((a0_l).length : Int)))), (14, .c (.int .i64 t14_20)), (43, .c (.bool true))], []⟩) (sub_gen [] rfl rfl ⟨zc rfl rfl, zc rfl rfl, zc rfl rfl, zc rfl rfl, zc rfl rfl, zc rfl rfl, trivial⟩ trivial) ?_
          refine SOps.nil ?_
          refine SCode.cond_t rfl rfl ?_
          refine SCode.seq ?_
          refine SCode.region (show SOps _ _ _ [0] _ _ from ?_)
          refine SOps.q rfl (.plain rfl) rfl (q_assign rfl rfl) ?_
          refine SOps.sub (st' := ⟨[(2, .c (.bool false))], []⟩) (sub_gen [] rfl rfl ⟨zc rfl rfl, trivial⟩ trivial) ?_
          refine SOps.nil ?_
          refine SCode.ret ?_
          obtain rfl := Option.some.inj h
          exact ⟨⟨[(2, .c (.bool false))], []⟩, _, sub_gen [] rfl rfl ⟨zc rfl rfl, trivial⟩ trivial, resA1 (v := .c (.bool false)) rfl rfl, rfl⟩
        obtain ⟨c_41, g42, h⟩ := bind_out h
        try dsimp only at h
        refine SCode.region (show SOps _ _ _ [0, 1, 2, 3, 4, 5, 6, 7, 8] _ _ from ?_)
        refine SOps.q rfl (.plain rfl) rfl (q_move rfl rfl) ?_
        refine SOps.q rfl (.plain rfl) rfl (q_move rfl rfl) ?_
        refine SOps.q rfl (.plain rfl) rfl (q_neq rfl rfl rfl) ?_
        refine SOps.q rfl (.plain rfl) rfl (q_move rfl rfl) ?_
        refine SOps.q rfl (.guard 3 38 false rfl rfl (gF g40)) rfl (q_move rfl rfl) ?_
        refine SOps.q rfl (.guard 3 38 false rfl rfl (gF g40)) rfl (q_move rfl rfl) ?_
        refine SOps.q rfl (.guard 3 38 false rfl rfl (gF g40)) rfl (q_call (slices_Equal_api_Curtail_api_Curtail_ok F c_35.1 c_38.1 c_41 g42) [] rfl fn14 ⟨⟨_, rfl, .inl ⟨rfl, rfl⟩⟩, ⟨_, rfl, .inl ⟨rfl, rfl⟩⟩, trivial⟩ (.inl rfl)) ?_
        refine SOps.q rfl (.guard 3 38 false rfl rfl (gF g40)) rfl (q_not rfl rfl) ?_
        refine SOps.q rfl (.plain rfl) rfl (q_pick_f rfl rfl g40 rfl) ?_
        refine SOps.sub (st' := ⟨[(0, .c (.vec a0_l.length 7 (gL cSCurtail dSCurtail a0_l))), (3, .c (.vec c_35.1.length 7 (gL cSCurtail dSCurtail c_35.1))), (4, .c (.vec c_38.1.length 7 (gL cSCurtail dSCurtail c_38.1))), (13, .c (.int .i64 (((a0_l).length : Int)))), (14, .c (.int .i64 t14_20)), (43, .c (.bool ((!c_41))))], []⟩) (sub_gen [] rfl rfl ⟨zc rfl rfl, zc rfl rfl, zc rfl rfl, zc rfl rfl, zc rfl rfl, zc rfl rfl, trivial⟩ trivial) ?_
        refine SOps.nil ?_
        rcases cond_out h with ⟨g43, h⟩ | ⟨g43, h⟩
        · refine SCode.cond_t rfl g43 ?_
          refine SCode.seq ?_
          refine SCode.region (show SOps _ _ _ [0] _ _ from ?_)
          refine SOps.q rfl (.plain rfl) rfl (q_assign rfl rfl) ?_
          refine SOps.sub (st' := ⟨[(2, .c (.bool false))], []⟩) (sub_gen [] rfl rfl ⟨zc rfl rfl, trivial⟩ trivial) ?_
          refine SOps.nil ?_
          refine SCode.ret ?_
          obtain rfl := Option.some.inj h
          exact ⟨⟨[(2, .c (.bool false))], []⟩, _, sub_gen [] rfl rfl ⟨zc rfl rfl, trivial⟩ trivial, resA1 (v := .c (.bool false)) rfl rfl, rfl⟩
        refine SCode.cond_f rfl g43 ?_
        refine SCode.skip ?_
        refine SCode.region (show SOps _ _ _ [0, 1] _ _ from ?_)
        refine SOps.q rfl (.plain rfl) rfl (q_add rfl rfl rfl) ?_
        refine SOps.q rfl (.plain rfl) rfl (q_move rfl rfl) ?_
        refine SOps.sub (st' := ⟨[(0, .c (.vec a0_l.length 7 (gL cSCurtail dSCurtail a0_l))), (3, .c (.vec c_35.1.length 7 (gL cSCurtail dSCurtail c_35.1))), (4, .c (.vec c_38.1.length 7 (gL cSCurtail dSCurtail c_38.1))), (13, .c (.int .i64 (((a0_l).length : Int)))), (14, .c (.int .i64 (IntKind.wrap .i64 (t14_20 + 1))))], []⟩) (sub_gen [] rfl rfl ⟨zc rfl rfl, zc rfl rfl, zc rfl rfl, zc rfl rfl, zc rfl rfl, trivial⟩ trivial) ?_
        refine SOps.nil ?_
        exact ⟨(n_32, (c_35.1, c_38.1, IntKind.wrap .i64 (t14_20 + 1))), h, Nat.lt_succ_self n_32, sub_gen [] rfl rfl ⟨zc rfl rfl, zc rfl rfl, zc rfl rfl, zc rfl rfl, zc rfl rfl, trivial⟩ trivial⟩
      refine SCode.cond_f rfl g33 ?_
      refine SCode.exit ?_
      exact ⟨(), h, sub_gen [] rfl rfl trivial trivial⟩
  rintro ⟨⟩ h
  show SCode _ _ _ ⟨[], []⟩ _
  replace h : chargenetlaw13_CurtailPut_p6 F = some r := h
  unfold chargenetlaw13_CurtailPut_p6 at h
  refine SCode.seq ?_
  obtain ⟨c_4, g5, h⟩ := bind_out h
  try dsimp only at h
  refine SCode.region (show SOps _ _ _ [0, 1] _ _ from ?_)
  refine SOps.q rfl (.plain rfl) rfl (q_call (chargenetlaw13_exampleHolds_ok F  c_4 g5) [] rfl fn9 trivial (.inl rfl)) ?_
  refine SOps.q rfl (.plain rfl) rfl (q_assign rfl rfl) ?_
  refine SOps.sub (st' := ⟨[(2, .c (.bool c_4))], []⟩) (sub_gen [] rfl rfl ⟨zc rfl rfl, trivial⟩ trivial) ?_
  refine SOps.nil ?_
  refine SCode.ret ?_
  obtain rfl := Option.some.inj h
  exact ⟨⟨[(2, .c (.bool c_4))], []⟩, _, sub_gen [] rfl rfl ⟨zc rfl rfl, trivial⟩ trivial, resA1 (v := .c (.bool c_4)) rfl rfl, rfl⟩
end Go.Proofs.Ytcccjpkfifefaaa.W
