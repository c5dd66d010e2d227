/- Written by a program of ours (wip/eng/gen.py): the functions compute their models. -/
import Derived.Test.YthpblkclpfmbeaaFacts
import Derived.Test.YthpblkclpfmbeaaV7x2
namespace Go.Proofs.Ythpblkclpfmbeaa.W
open Go Go.Proofs Go.Proofs.Ythpblkclpfmbeaa.E Go.Proofs.Ythpblkclpfmbeaa.M
set_option linter.unusedVariables false
theorem hush31_fair_Fill_f1_34 : Hush Try.prog 31 := Hush.of Try.func31 rfl rfl rfl rfl rfl rfl rfl rfl rfl rfl if20
set_option maxRecDepth 100000 in
set_option maxHeartbeats 8000000 in
theorem fair_Fill_f1_34_ok (F : Nat) (a0_caps : List Int) (a1f0 : Int) (r : (List Int) × Int) (h : fair_Fill_f1_34 F a0_caps a1f0 = some r) :
    SFun Try.prog 19 [] [.c (vI a0_caps), .c (.fn 34 1 (cellsG [.eptr 1 ((cInt .i64) a1f0) 0]))] (fun x _ => x = .t [.c (vI r.1), .c (.int .i64 r.2)]) := by
  refine SFun.ofD (n := 56) Try.func19 hush31_fair_Fill_f1_34 fn31 rfl rfl rfl rfl rfl rfl rfl rfl rfl rfl ?_
  unfold fair_Fill_f1_34 at h
  show SCode _ _ _ ⟨[(0, .c (vI a0_caps)), (1, .c (.fn 34 1 (cellsG [.eptr 1 ((cInt .i64) a1f0) 0])))], []⟩ _
  refine SCode.region (show SOps _ _ _ [0, 1] _ _ from ?_)
  refine SOps.e rfl (.plain rfl) (e_alloc rfl rfl rfl z22) ?_
  refine SOps.e rfl (.plain rfl) (e_alloc rfl rfl rfl z24) ?_
  refine SOps.sub (st' := ⟨[(0, .c (vI a0_caps)), (1, .c (.fn 34 1 (cellsG [.eptr 1 ((cInt .i64) a1f0) 0]))), (4, .c (.ptr 0 0)), (5, .c (.ptr 1 0))], [.box [.raw (.slice none 0 0)], .box [.int .i64 0]]⟩) (sub_gen [0, 1] rfl rfl ⟨zc rfl rfl, zc rfl rfl, zc rfl rfl, zc rfl rfl, trivial⟩ ⟨⟨_, rfl, ⟨ii rfl rfl, trivial⟩⟩, ⟨_, rfl, ⟨ii rfl rfl, trivial⟩⟩, trivial⟩) ?_
  refine SOps.nil ?_
  refine ⟨rfl, ?_⟩
  show SCode _ _ _ ⟨[(0, .c (vI a0_caps)), (1, .c (.fn 34 1 (cellsG [.eptr 1 ((cInt .i64) a1f0) 0]))), (4, .c (.ptr 0 0)), (5, .c (.ptr 1 0))], [.box [.raw (.slice none 0 0)], .box [.int .i64 0]]⟩ _
  refine SCode.seq ?_
  refine SCode.seq ?_
  refine SCode.region (show SOps _ _ _ [0, 1] _ _ from ?_)
  refine SOps.q rfl (.plain rfl) rfl (q_move rfl rfl) ?_
  refine SOps.q rfl (.plain rfl) rfl (q_eqlF (b := false) rfl rfl rfl rfl fb35) ?_
  refine SOps.sub (st' := ⟨[(0, .c (vI a0_caps)), (1, .c (.fn 34 1 (cellsG [.eptr 1 ((cInt .i64) a1f0) 0]))), (4, .c (.ptr 0 0)), (5, .c (.ptr 1 0)), (12, .c (.bool false))], [.box [.raw (.slice none 0 0)], .box [.int .i64 0]]⟩) (sub_gen [0, 1] rfl rfl ⟨zc rfl rfl, zc rfl rfl, zc rfl rfl, zc rfl rfl, zc rfl rfl, trivial⟩ ⟨⟨_, rfl, ⟨ii rfl rfl, trivial⟩⟩, ⟨_, rfl, ⟨ii rfl rfl, trivial⟩⟩, trivial⟩) ?_
  refine SOps.nil ?_
  refine SCode.cond_f rfl rfl ?_
  refine SCode.skip ?_
  refine SCode.seq ?_
  refine SCode.seq ?_
  obtain ⟨c_1, g2, h⟩ := bind_out h
  try dsimp only at h
  refine SCode.region (show SOps _ _ _ [0, 1, 2] _ _ from ?_)
  refine SOps.q rfl (.plain rfl) rfl (q_move rfl rfl) ?_
  refine SOps.q rfl (.plain rfl) rfl (q_call (fair_check_ok F a0_caps c_1 g2) [] rfl fn22 ⟨⟨_, rfl, .inl ⟨rfl, rfl⟩⟩, trivial⟩ (.inl rfl)) ?_
  refine SOps.q rfl (.plain rfl) rfl (q_assign rfl rfl) ?_
  refine SOps.sub (st' := ⟨[(0, .c (vI a0_caps)), (1, .c (.fn 34 1 (cellsG [.eptr 1 ((cInt .i64) a1f0) 0]))), (4, .c (.ptr 0 0)), (5, .c (.ptr 1 0)), (6, .c (.int .i64 c_1))], [.box [.raw (.slice none 0 0)], .box [.int .i64 0]]⟩) (sub_gen [0, 1] rfl rfl ⟨zc rfl rfl, zc rfl rfl, zc rfl rfl, zc rfl rfl, zc rfl rfl, trivial⟩ ⟨⟨_, rfl, ⟨ii rfl rfl, trivial⟩⟩, ⟨_, rfl, ⟨ii rfl rfl, trivial⟩⟩, trivial⟩) ?_
  refine SOps.nil ?_
  refine SCode.seq ?_
  refine SCode.region (show SOps _ _ _ [0, 1] _ _ from ?_)
  refine SOps.q rfl (.plain rfl) rfl (q_move rfl rfl) ?_
  refine SOps.q rfl (.plain rfl) rfl (q_neq rfl rfl rfl) ?_
  refine SOps.sub (st' := ⟨[(0, .c (vI a0_caps)), (1, .c (.fn 34 1 (cellsG [.eptr 1 ((cInt .i64) a1f0) 0]))), (4, .c (.ptr 0 0)), (5, .c (.ptr 1 0)), (6, .c (.int .i64 c_1)), (16, .c (.bool ((!decide (c_1 = 0)))))], [.box [.raw (.slice none 0 0)], .box [.int .i64 0]]⟩) (sub_gen [0, 1] rfl rfl ⟨zc rfl rfl, zc rfl rfl, zc rfl rfl, zc rfl rfl, zc rfl rfl, zc rfl rfl, trivial⟩ ⟨⟨_, rfl, ⟨ii rfl rfl, trivial⟩⟩, ⟨_, rfl, ⟨ii rfl rfl, trivial⟩⟩, trivial⟩) ?_
  refine SOps.nil ?_
  rcases cond_out h with ⟨g3, h⟩ | ⟨g3, h⟩
  · refine SCode.cond_t rfl g3 ?_
    refine SCode.seq ?_
    refine SCode.region (show SOps _ _ _ [0, 1, 2] _ _ from ?_)
    refine SOps.q rfl (.plain rfl) rfl (q_move rfl rfl) ?_
    refine SOps.e rfl (.plain rfl) (e_store_box rfl rfl rfl rfl rfl ty22 rfl rfl rfl rfl) ?_
    refine SOps.e rfl (.plain rfl) (e_store_box rfl rfl rfl rfl rfl ty24 rfl rfl rfl rfl) ?_
    refine SOps.sub (st' := ⟨[(4, .c (.ptr 0 0)), (5, .c (.ptr 1 0))], [.box [.raw (.slice none 0 0)], .box [.int .i64 c_1]]⟩) (sub_gen [0, 1] rfl rfl ⟨zc rfl rfl, zc rfl rfl, trivial⟩ ⟨⟨_, rfl, ⟨ii rfl rfl, trivial⟩⟩, ⟨_, rfl, ⟨ii rfl rfl, trivial⟩⟩, trivial⟩) ?_
    refine SOps.nil ?_
    refine SCode.ret ?_
    obtain rfl := Option.some.inj h
    exact ⟨⟨[(4, .c (.ptr 0 0)), (5, .c (.ptr 1 0))], [.box [vI (([] : List Int))], .box [.int .i64 c_1]]⟩, _, sub_gen [0, 1] rfl rfl ⟨zc rfl rfl, zc rfl rfl, trivial⟩ ⟨⟨_, rfl, ⟨.inr (.inr (.inr (.inl ⟨_, _, rfl, rfl⟩))), trivial⟩⟩, ⟨_, rfl, ⟨ii rfl rfl, trivial⟩⟩, trivial⟩, resA2 (v1 := .c (vI (([] : List Int)))) (v2 := .c (.int .i64 c_1)) rfl ⟨_, rfl, rfl, ty22⟩ ⟨_, rfl, rfl, ty24⟩, rfl⟩
  refine SCode.cond_f rfl g3 ?_
  refine SCode.skip ?_
  refine SCode.seq ?_
  refine SCode.region (show SOps _ _ _ [0, 1, 2] _ _ from ?_)
  refine SOps.q rfl (.plain rfl) rfl (q_move rfl rfl) ?_
  refine SOps.q rfl (.plain rfl) rfl (q_len_vec rfl rfl sl22) ?_
  refine SOps.q rfl (.plain rfl) rfl (q_assign rfl rfl) ?_
  refine SOps.sub (st' := ⟨[(0, .c (vI a0_caps)), (1, .c (.fn 34 1 (cellsG [.eptr 1 ((cInt .i64) a1f0) 0]))), (4, .c (.ptr 0 0)), (5, .c (.ptr 1 0)), (7, .c (.int .i64 (((a0_caps).length : Int))))], [.box [.raw (.slice none 0 0)], .box [.int .i64 0]]⟩) (sub_gen [0, 1] rfl rfl ⟨zc rfl rfl, zc rfl rfl, zc rfl rfl, zc rfl rfl, zc rfl rfl, trivial⟩ ⟨⟨_, rfl, ⟨ii rfl rfl, trivial⟩⟩, ⟨_, rfl, ⟨ii rfl rfl, trivial⟩⟩, trivial⟩) ?_
  refine SOps.nil ?_
  refine SCode.seq ?_
  obtain ⟨g4, h⟩ := guard_out h
  obtain ⟨g5, h⟩ := guard_out h
  obtain ⟨g6, h⟩ := guard_out h
  let ob1 : Ob := .box [.raw (.slice none 0 0)]
  let ob2 : Ob := aI 3 (List.replicate (((a0_caps).length : Int)).toNat (0 : Int))
  let ob4 : Ob := aB 4 (List.replicate (((a0_caps).length : Int)).toNat (false : Bool))
  let ob8 : Ob := .box [.raw (.slice none 0 0), .raw .nilFunc, .raw (.slice none 0 0), .raw (.slice none 0 0), .raw (.slice none 0 0)]
  let ob9 : Ob := .box [vI a0_caps, .fn 34 1 (cellsG [.eptr 1 ((cInt .i64) a1f0) 0]), .own 2 (List.replicate (((a0_caps).length : Int)).toNat (0 : Int)).length, .own 3 (List.replicate (((a0_caps).length : Int)).toNat (false : Bool)).length, .own 4 (List.replicate (((a0_caps).length : Int)).toNat (0 : Int)).length]
  let ob12 : Ob := .box [vI a0_caps, .fn 34 1 (cellsG [.eptr 1 ((cInt .i64) a1f0) 0]), .own 2 (List.replicate (((a0_caps).length : Int)).toNat (0 : Int)).length, .own 3 (List.replicate (((a0_caps).length : Int)).toNat (false : Bool)).length, .own 5 (List.replicate (((a0_caps).length : Int)).toNat (0 : Int)).length]
  let ob16 : Ob := .box [vI a0_caps, .fn 34 1 (cellsG [.eptr 1 ((cInt .i64) a1f0) 0]), .own 2 (List.replicate (((a0_caps).length : Int)).toNat (0 : Int)).length, .own 4 (List.replicate (((a0_caps).length : Int)).toNat (false : Bool)).length, .own 3 (List.replicate (((a0_caps).length : Int)).toNat (0 : Int)).length]
  let ob19 : Ob := .box [vI a0_caps, .fn 34 1 (cellsG [.eptr 1 ((cInt .i64) a1f0) 0]), .own 2 (List.replicate (((a0_caps).length : Int)).toNat (0 : Int)).length, .own 5 (List.replicate (((a0_caps).length : Int)).toNat (false : Bool)).length, .own 3 (List.replicate (((a0_caps).length : Int)).toNat (0 : Int)).length]
  let ob21 : Ob := .box [vI a0_caps, .fn 34 1 (cellsG [.eptr 1 ((cInt .i64) a1f0) 0]), .own 2 (List.replicate (((a0_caps).length : Int)).toNat (0 : Int)).length, .own 4 (List.replicate (((a0_caps).length : Int)).toNat (false : Bool)).length, .own 5 (List.replicate (((a0_caps).length : Int)).toNat (0 : Int)).length]
  let ob23 : Ob := .box [vI a0_caps, .fn 34 1 (cellsG [.eptr 1 ((cInt .i64) a1f0) 0]), .own 2 (List.replicate (((a0_caps).length : Int)).toNat (0 : Int)).length, .own 5 (List.replicate (((a0_caps).length : Int)).toNat (false : Bool)).length, .own 4 (List.replicate (((a0_caps).length : Int)).toNat (0 : Int)).length]
  let ob26 : Ob := .box [vI a0_caps, .fn 34 1 (cellsG [.eptr 1 ((cInt .i64) a1f0) 0]), .own 3 (List.replicate (((a0_caps).length : Int)).toNat (0 : Int)).length, .own 2 (List.replicate (((a0_caps).length : Int)).toNat (false : Bool)).length, .own 4 (List.replicate (((a0_caps).length : Int)).toNat (0 : Int)).length]
  let ob28 : Ob := .box [vI a0_caps, .fn 34 1 (cellsG [.eptr 1 ((cInt .i64) a1f0) 0]), .own 3 (List.replicate (((a0_caps).length : Int)).toNat (0 : Int)).length, .own 2 (List.replicate (((a0_caps).length : Int)).toNat (false : Bool)).length, .own 5 (List.replicate (((a0_caps).length : Int)).toNat (0 : Int)).length]
  let ob30 : Ob := .box [vI a0_caps, .fn 34 1 (cellsG [.eptr 1 ((cInt .i64) a1f0) 0]), .own 4 (List.replicate (((a0_caps).length : Int)).toNat (0 : Int)).length, .own 2 (List.replicate (((a0_caps).length : Int)).toNat (false : Bool)).length, .own 3 (List.replicate (((a0_caps).length : Int)).toNat (0 : Int)).length]
  let ob32 : Ob := .box [vI a0_caps, .fn 34 1 (cellsG [.eptr 1 ((cInt .i64) a1f0) 0]), .own 5 (List.replicate (((a0_caps).length : Int)).toNat (0 : Int)).length, .own 2 (List.replicate (((a0_caps).length : Int)).toNat (false : Bool)).length, .own 3 (List.replicate (((a0_caps).length : Int)).toNat (0 : Int)).length]
  let ob34 : Ob := .box [vI a0_caps, .fn 34 1 (cellsG [.eptr 1 ((cInt .i64) a1f0) 0]), .own 4 (List.replicate (((a0_caps).length : Int)).toNat (0 : Int)).length, .own 2 (List.replicate (((a0_caps).length : Int)).toNat (false : Bool)).length, .own 5 (List.replicate (((a0_caps).length : Int)).toNat (0 : Int)).length]
  let ob36 : Ob := .box [vI a0_caps, .fn 34 1 (cellsG [.eptr 1 ((cInt .i64) a1f0) 0]), .own 5 (List.replicate (((a0_caps).length : Int)).toNat (0 : Int)).length, .own 2 (List.replicate (((a0_caps).length : Int)).toNat (false : Bool)).length, .own 4 (List.replicate (((a0_caps).length : Int)).toNat (0 : Int)).length]
  let ob38 : Ob := .box [vI a0_caps, .fn 34 1 (cellsG [.eptr 1 ((cInt .i64) a1f0) 0]), .own 3 (List.replicate (((a0_caps).length : Int)).toNat (0 : Int)).length, .own 4 (List.replicate (((a0_caps).length : Int)).toNat (false : Bool)).length, .own 2 (List.replicate (((a0_caps).length : Int)).toNat (0 : Int)).length]
  let ob40 : Ob := .box [vI a0_caps, .fn 34 1 (cellsG [.eptr 1 ((cInt .i64) a1f0) 0]), .own 3 (List.replicate (((a0_caps).length : Int)).toNat (0 : Int)).length, .own 5 (List.replicate (((a0_caps).length : Int)).toNat (false : Bool)).length, .own 2 (List.replicate (((a0_caps).length : Int)).toNat (0 : Int)).length]
  let ob42 : Ob := .box [vI a0_caps, .fn 34 1 (cellsG [.eptr 1 ((cInt .i64) a1f0) 0]), .own 4 (List.replicate (((a0_caps).length : Int)).toNat (0 : Int)).length, .own 3 (List.replicate (((a0_caps).length : Int)).toNat (false : Bool)).length, .own 2 (List.replicate (((a0_caps).length : Int)).toNat (0 : Int)).length]
  let ob44 : Ob := .box [vI a0_caps, .fn 34 1 (cellsG [.eptr 1 ((cInt .i64) a1f0) 0]), .own 5 (List.replicate (((a0_caps).length : Int)).toNat (0 : Int)).length, .own 3 (List.replicate (((a0_caps).length : Int)).toNat (false : Bool)).length, .own 2 (List.replicate (((a0_caps).length : Int)).toNat (0 : Int)).length]
  let ob46 : Ob := .box [vI a0_caps, .fn 34 1 (cellsG [.eptr 1 ((cInt .i64) a1f0) 0]), .own 4 (List.replicate (((a0_caps).length : Int)).toNat (0 : Int)).length, .own 5 (List.replicate (((a0_caps).length : Int)).toNat (false : Bool)).length, .own 2 (List.replicate (((a0_caps).length : Int)).toNat (0 : Int)).length]
  let ob48 : Ob := .box [vI a0_caps, .fn 34 1 (cellsG [.eptr 1 ((cInt .i64) a1f0) 0]), .own 5 (List.replicate (((a0_caps).length : Int)).toNat (0 : Int)).length, .own 4 (List.replicate (((a0_caps).length : Int)).toNat (false : Bool)).length, .own 2 (List.replicate (((a0_caps).length : Int)).toNat (0 : Int)).length]
  let ob50 : Ob := .box [vI a0_caps, .fn 34 1 (cellsG [.eptr 1 ((cInt .i64) a1f0) 0]), .own 3 (List.replicate (((a0_caps).length : Int)).toNat (0 : Int)).length, .own 4 (List.replicate (((a0_caps).length : Int)).toNat (false : Bool)).length, .own 5 (List.replicate (((a0_caps).length : Int)).toNat (0 : Int)).length]
  let ob52 : Ob := .box [vI a0_caps, .fn 34 1 (cellsG [.eptr 1 ((cInt .i64) a1f0) 0]), .own 3 (List.replicate (((a0_caps).length : Int)).toNat (0 : Int)).length, .own 5 (List.replicate (((a0_caps).length : Int)).toNat (false : Bool)).length, .own 4 (List.replicate (((a0_caps).length : Int)).toNat (0 : Int)).length]
  let ob54 : Ob := .box [vI a0_caps, .fn 34 1 (cellsG [.eptr 1 ((cInt .i64) a1f0) 0]), .own 4 (List.replicate (((a0_caps).length : Int)).toNat (0 : Int)).length, .own 3 (List.replicate (((a0_caps).length : Int)).toNat (false : Bool)).length, .own 5 (List.replicate (((a0_caps).length : Int)).toNat (0 : Int)).length]
  let ob56 : Ob := .box [vI a0_caps, .fn 34 1 (cellsG [.eptr 1 ((cInt .i64) a1f0) 0]), .own 5 (List.replicate (((a0_caps).length : Int)).toNat (0 : Int)).length, .own 3 (List.replicate (((a0_caps).length : Int)).toNat (false : Bool)).length, .own 4 (List.replicate (((a0_caps).length : Int)).toNat (0 : Int)).length]
  let ob58 : Ob := .box [vI a0_caps, .fn 34 1 (cellsG [.eptr 1 ((cInt .i64) a1f0) 0]), .own 4 (List.replicate (((a0_caps).length : Int)).toNat (0 : Int)).length, .own 5 (List.replicate (((a0_caps).length : Int)).toNat (false : Bool)).length, .own 3 (List.replicate (((a0_caps).length : Int)).toNat (0 : Int)).length]
  let ob60 : Ob := .box [vI a0_caps, .fn 34 1 (cellsG [.eptr 1 ((cInt .i64) a1f0) 0]), .own 5 (List.replicate (((a0_caps).length : Int)).toNat (0 : Int)).length, .own 4 (List.replicate (((a0_caps).length : Int)).toNat (false : Bool)).length, .own 3 (List.replicate (((a0_caps).length : Int)).toNat (0 : Int)).length]
  let av3 : AV := .c (.own 2 (List.replicate (((a0_caps).length : Int)).toNat (0 : Int)).length)
  let av5 : AV := .c (.own 3 (List.replicate (((a0_caps).length : Int)).toNat (false : Bool)).length)
  let av6 : AV := .c (.own 4 (List.replicate (((a0_caps).length : Int)).toNat (0 : Int)).length)
  let av7 : AV := .a [vI a0_caps, .fn 34 1 (cellsG [.eptr 1 ((cInt .i64) a1f0) 0]), .own 2 (List.replicate (((a0_caps).length : Int)).toNat (0 : Int)).length, .own 3 (List.replicate (((a0_caps).length : Int)).toNat (false : Bool)).length, .own 4 (List.replicate (((a0_caps).length : Int)).toNat (0 : Int)).length]
  let av10 : AV := .c (.own 5 (List.replicate (((a0_caps).length : Int)).toNat (0 : Int)).length)
  let av11 : AV := .a [vI a0_caps, .fn 34 1 (cellsG [.eptr 1 ((cInt .i64) a1f0) 0]), .own 2 (List.replicate (((a0_caps).length : Int)).toNat (0 : Int)).length, .own 3 (List.replicate (((a0_caps).length : Int)).toNat (false : Bool)).length, .own 5 (List.replicate (((a0_caps).length : Int)).toNat (0 : Int)).length]
  let av13 : AV := .c (.own 3 (List.replicate (((a0_caps).length : Int)).toNat (0 : Int)).length)
  let av14 : AV := .c (.own 4 (List.replicate (((a0_caps).length : Int)).toNat (false : Bool)).length)
  let av15 : AV := .a [vI a0_caps, .fn 34 1 (cellsG [.eptr 1 ((cInt .i64) a1f0) 0]), .own 2 (List.replicate (((a0_caps).length : Int)).toNat (0 : Int)).length, .own 4 (List.replicate (((a0_caps).length : Int)).toNat (false : Bool)).length, .own 3 (List.replicate (((a0_caps).length : Int)).toNat (0 : Int)).length]
  let av17 : AV := .c (.own 5 (List.replicate (((a0_caps).length : Int)).toNat (false : Bool)).length)
  let av18 : AV := .a [vI a0_caps, .fn 34 1 (cellsG [.eptr 1 ((cInt .i64) a1f0) 0]), .own 2 (List.replicate (((a0_caps).length : Int)).toNat (0 : Int)).length, .own 5 (List.replicate (((a0_caps).length : Int)).toNat (false : Bool)).length, .own 3 (List.replicate (((a0_caps).length : Int)).toNat (0 : Int)).length]
  let av20 : AV := .a [vI a0_caps, .fn 34 1 (cellsG [.eptr 1 ((cInt .i64) a1f0) 0]), .own 2 (List.replicate (((a0_caps).length : Int)).toNat (0 : Int)).length, .own 4 (List.replicate (((a0_caps).length : Int)).toNat (false : Bool)).length, .own 5 (List.replicate (((a0_caps).length : Int)).toNat (0 : Int)).length]
  let av22 : AV := .a [vI a0_caps, .fn 34 1 (cellsG [.eptr 1 ((cInt .i64) a1f0) 0]), .own 2 (List.replicate (((a0_caps).length : Int)).toNat (0 : Int)).length, .own 5 (List.replicate (((a0_caps).length : Int)).toNat (false : Bool)).length, .own 4 (List.replicate (((a0_caps).length : Int)).toNat (0 : Int)).length]
  let av24 : AV := .c (.own 2 (List.replicate (((a0_caps).length : Int)).toNat (false : Bool)).length)
  let av25 : AV := .a [vI a0_caps, .fn 34 1 (cellsG [.eptr 1 ((cInt .i64) a1f0) 0]), .own 3 (List.replicate (((a0_caps).length : Int)).toNat (0 : Int)).length, .own 2 (List.replicate (((a0_caps).length : Int)).toNat (false : Bool)).length, .own 4 (List.replicate (((a0_caps).length : Int)).toNat (0 : Int)).length]
  let av27 : AV := .a [vI a0_caps, .fn 34 1 (cellsG [.eptr 1 ((cInt .i64) a1f0) 0]), .own 3 (List.replicate (((a0_caps).length : Int)).toNat (0 : Int)).length, .own 2 (List.replicate (((a0_caps).length : Int)).toNat (false : Bool)).length, .own 5 (List.replicate (((a0_caps).length : Int)).toNat (0 : Int)).length]
  let av29 : AV := .a [vI a0_caps, .fn 34 1 (cellsG [.eptr 1 ((cInt .i64) a1f0) 0]), .own 4 (List.replicate (((a0_caps).length : Int)).toNat (0 : Int)).length, .own 2 (List.replicate (((a0_caps).length : Int)).toNat (false : Bool)).length, .own 3 (List.replicate (((a0_caps).length : Int)).toNat (0 : Int)).length]
  let av31 : AV := .a [vI a0_caps, .fn 34 1 (cellsG [.eptr 1 ((cInt .i64) a1f0) 0]), .own 5 (List.replicate (((a0_caps).length : Int)).toNat (0 : Int)).length, .own 2 (List.replicate (((a0_caps).length : Int)).toNat (false : Bool)).length, .own 3 (List.replicate (((a0_caps).length : Int)).toNat (0 : Int)).length]
  let av33 : AV := .a [vI a0_caps, .fn 34 1 (cellsG [.eptr 1 ((cInt .i64) a1f0) 0]), .own 4 (List.replicate (((a0_caps).length : Int)).toNat (0 : Int)).length, .own 2 (List.replicate (((a0_caps).length : Int)).toNat (false : Bool)).length, .own 5 (List.replicate (((a0_caps).length : Int)).toNat (0 : Int)).length]
  let av35 : AV := .a [vI a0_caps, .fn 34 1 (cellsG [.eptr 1 ((cInt .i64) a1f0) 0]), .own 5 (List.replicate (((a0_caps).length : Int)).toNat (0 : Int)).length, .own 2 (List.replicate (((a0_caps).length : Int)).toNat (false : Bool)).length, .own 4 (List.replicate (((a0_caps).length : Int)).toNat (0 : Int)).length]
  let av37 : AV := .a [vI a0_caps, .fn 34 1 (cellsG [.eptr 1 ((cInt .i64) a1f0) 0]), .own 3 (List.replicate (((a0_caps).length : Int)).toNat (0 : Int)).length, .own 4 (List.replicate (((a0_caps).length : Int)).toNat (false : Bool)).length, .own 2 (List.replicate (((a0_caps).length : Int)).toNat (0 : Int)).length]
  let av39 : AV := .a [vI a0_caps, .fn 34 1 (cellsG [.eptr 1 ((cInt .i64) a1f0) 0]), .own 3 (List.replicate (((a0_caps).length : Int)).toNat (0 : Int)).length, .own 5 (List.replicate (((a0_caps).length : Int)).toNat (false : Bool)).length, .own 2 (List.replicate (((a0_caps).length : Int)).toNat (0 : Int)).length]
  let av41 : AV := .a [vI a0_caps, .fn 34 1 (cellsG [.eptr 1 ((cInt .i64) a1f0) 0]), .own 4 (List.replicate (((a0_caps).length : Int)).toNat (0 : Int)).length, .own 3 (List.replicate (((a0_caps).length : Int)).toNat (false : Bool)).length, .own 2 (List.replicate (((a0_caps).length : Int)).toNat (0 : Int)).length]
  let av43 : AV := .a [vI a0_caps, .fn 34 1 (cellsG [.eptr 1 ((cInt .i64) a1f0) 0]), .own 5 (List.replicate (((a0_caps).length : Int)).toNat (0 : Int)).length, .own 3 (List.replicate (((a0_caps).length : Int)).toNat (false : Bool)).length, .own 2 (List.replicate (((a0_caps).length : Int)).toNat (0 : Int)).length]
  let av45 : AV := .a [vI a0_caps, .fn 34 1 (cellsG [.eptr 1 ((cInt .i64) a1f0) 0]), .own 4 (List.replicate (((a0_caps).length : Int)).toNat (0 : Int)).length, .own 5 (List.replicate (((a0_caps).length : Int)).toNat (false : Bool)).length, .own 2 (List.replicate (((a0_caps).length : Int)).toNat (0 : Int)).length]
  let av47 : AV := .a [vI a0_caps, .fn 34 1 (cellsG [.eptr 1 ((cInt .i64) a1f0) 0]), .own 5 (List.replicate (((a0_caps).length : Int)).toNat (0 : Int)).length, .own 4 (List.replicate (((a0_caps).length : Int)).toNat (false : Bool)).length, .own 2 (List.replicate (((a0_caps).length : Int)).toNat (0 : Int)).length]
  let av49 : AV := .a [vI a0_caps, .fn 34 1 (cellsG [.eptr 1 ((cInt .i64) a1f0) 0]), .own 3 (List.replicate (((a0_caps).length : Int)).toNat (0 : Int)).length, .own 4 (List.replicate (((a0_caps).length : Int)).toNat (false : Bool)).length, .own 5 (List.replicate (((a0_caps).length : Int)).toNat (0 : Int)).length]
  let av51 : AV := .a [vI a0_caps, .fn 34 1 (cellsG [.eptr 1 ((cInt .i64) a1f0) 0]), .own 3 (List.replicate (((a0_caps).length : Int)).toNat (0 : Int)).length, .own 5 (List.replicate (((a0_caps).length : Int)).toNat (false : Bool)).length, .own 4 (List.replicate (((a0_caps).length : Int)).toNat (0 : Int)).length]
  let av53 : AV := .a [vI a0_caps, .fn 34 1 (cellsG [.eptr 1 ((cInt .i64) a1f0) 0]), .own 4 (List.replicate (((a0_caps).length : Int)).toNat (0 : Int)).length, .own 3 (List.replicate (((a0_caps).length : Int)).toNat (false : Bool)).length, .own 5 (List.replicate (((a0_caps).length : Int)).toNat (0 : Int)).length]
  let av55 : AV := .a [vI a0_caps, .fn 34 1 (cellsG [.eptr 1 ((cInt .i64) a1f0) 0]), .own 5 (List.replicate (((a0_caps).length : Int)).toNat (0 : Int)).length, .own 3 (List.replicate (((a0_caps).length : Int)).toNat (false : Bool)).length, .own 4 (List.replicate (((a0_caps).length : Int)).toNat (0 : Int)).length]
  let av57 : AV := .a [vI a0_caps, .fn 34 1 (cellsG [.eptr 1 ((cInt .i64) a1f0) 0]), .own 4 (List.replicate (((a0_caps).length : Int)).toNat (0 : Int)).length, .own 5 (List.replicate (((a0_caps).length : Int)).toNat (false : Bool)).length, .own 3 (List.replicate (((a0_caps).length : Int)).toNat (0 : Int)).length]
  let av59 : AV := .a [vI a0_caps, .fn 34 1 (cellsG [.eptr 1 ((cInt .i64) a1f0) 0]), .own 5 (List.replicate (((a0_caps).length : Int)).toNat (0 : Int)).length, .own 4 (List.replicate (((a0_caps).length : Int)).toNat (false : Bool)).length, .own 3 (List.replicate (((a0_caps).length : Int)).toNat (0 : Int)).length]
  refine SCode.draw2 (sH := [(26, .c (.int .i64 (((a0_caps).length : Int)))), (24, .c (.int .i64 (((a0_caps).length : Int)))), (22, .c (.int .i64 (((a0_caps).length : Int)))), (21, .c (.fn 34 1 (cellsG [.eptr 1 ((cInt .i64) a1f0) 0]))), (20, .c (vI a0_caps)), (0, .c (vI a0_caps)), (1, .c (.fn 34 1 (cellsG [.eptr 1 ((cInt .i64) a1f0) 0]))), (4, .c (.ptr 0 0)), (5, .c (.ptr 1 0)), (7, .c (.int .i64 (((a0_caps).length : Int))))]) mixed [[], [], [], [2], [], [4], [], [6], [0, 1, 2, 3, 4, 5, 6, 7], [], [0, 1, 2, 3, 4, 5, 6, 7, 8, 9]] [3, 5, 7, 8, 9, 10] (fun h => List.getD ([] : List (List Nat)) h []) rfl ?_ ⟨[(1, .c (.fn 34 1 (cellsG [.eptr 1 ((cInt .i64) a1f0) 0]))), (4, .c (.ptr 0 0)), (5, .c (.ptr 1 0)), (7, .c (.int .i64 (((a0_caps).length : Int)))), (8, .c (.ptr 2 0))], [.box [.raw (.slice none 0 0)], .box [.int .i64 0], .box [vI a0_caps, .fn 34 1 (cellsG [.eptr 1 ((cInt .i64) a1f0) 0]), .own 3 (List.replicate (((a0_caps).length : Int)).toNat (0 : Int)).length, .own 4 (List.replicate (((a0_caps).length : Int)).toNat (false : Bool)).length, .own 5 (List.replicate (((a0_caps).length : Int)).toNat (0 : Int)).length], aI 3 (List.replicate (((a0_caps).length : Int)).toNat (0 : Int)), aB 4 (List.replicate (((a0_caps).length : Int)).toNat (false : Bool)), aI 3 (List.replicate (((a0_caps).length : Int)).toNat (0 : Int))]⟩ ?_ ?_
  · refine HChain.run rfl rfl (.plain rfl) rfl (fun f x => q_move rfl rfl) ?_
    refine HChain.run rfl rfl (.plain rfl) rfl (fun f x => q_move rfl rfl) ?_
    refine HChain.run rfl rfl (.plain rfl) rfl (fun f x => q_move rfl rfl) ?_
    refine HChain.tail rfl ?_
    refine HChain.run rfl rfl (.plain rfl) rfl (fun f x => q_move rfl rfl) ?_
    refine HChain.tail rfl ?_
    refine HChain.run rfl rfl (.plain rfl) rfl (fun f x => q_move rfl rfl) ?_
    refine HChain.tail rfl ?_
    refine HChain.tail rfl ?_
    refine HChain.tail rfl ?_
    refine HChain.tail rfl ?_
    exact HChain.nil _ _
  · refine TTree.node 3 [5, 7, 9] rfl ?_
    refine AllP.cons ?_ ?_
    · refine TStep.d (objs' := [ob1, .box [.int .i64 0], ob2]) (v := av3) [] 23 rfl rfl rfl rfl rfl (fun s2 => by refine EOp.eq (e_makeL (c := (cInt .i64)) (d0 := 0) rfl rfl rfl rfl rfl sl22 z3 rfl rfl rfl g4.1 (Int.le_refl _) g4.2.1 g4.2.2) ?_; rfl) ?_
      refine ⟨rfl, ⟨⟨trivial, .inr rfl⟩, .inr rfl⟩, ?_⟩
      refine TTree.node 5 [7, 9] rfl ?_
      refine AllP.cons ?_ ?_
      · refine TStep.d (objs' := [ob1, .box [.int .i64 0], ob2, ob4]) (v := av5) [] 25 rfl rfl rfl rfl rfl (fun s2 => by refine EOp.eq (e_makeL (c := cBool) (d0 := false) rfl rfl rfl rfl rfl sl52 z4 rfl rfl rfl g5.1 (Int.le_refl _) g5.2.1 g5.2.2) ?_; rfl) ?_
        refine ⟨rfl, ⟨⟨trivial, .inr rfl⟩, .inr rfl⟩, ?_⟩
        refine TTree.node 7 [9] rfl ?_
        refine AllP.cons ?_ ?_
        · refine TStep.d (objs' := [ob1, .box [.int .i64 0], ob2, ob4, ob2]) (v := av6) [] 27 rfl rfl rfl rfl rfl (fun s2 => by refine EOp.eq (e_makeL (c := (cInt .i64)) (d0 := 0) rfl rfl rfl rfl rfl sl22 z3 rfl rfl rfl g6.1 (Int.le_refl _) g6.2.1 g6.2.2) ?_; rfl) ?_
          refine ⟨rfl, ⟨⟨trivial, .inr rfl⟩, .inr rfl⟩, ?_⟩
          refine TTree.node 8 [9] rfl ?_
          refine AllP.cons ?_ ?_
          · refine TStep.d (objs' := [ob1, .box [.int .i64 0], ob2, ob4, ob2]) (v := av7) [] 28 rfl rfl rfl rfl rfl (fun s2 => by refine EOp.eq (EOp.qd rfl rfl (q_build2 rfl rfl pl54 rfl)) ?_; rfl) ?_
            refine ⟨rfl, ⟨⟨trivial, .inr rfl⟩, .inr rfl⟩, ?_⟩
            refine TTree.node 9 [] rfl ?_
            refine AllP.cons ?_ ?_
            · refine TStep.d (objs' := [ob1, .box [.int .i64 0], ob2, ob4, ob2, ob8]) (v := .c (.ptr 5 0)) [] 8 rfl rfl rfl rfl rfl (fun s2 => by refine EOp.eq (e_alloc rfl rfl rfl z54) ?_; rfl) ?_
              refine ⟨rfl, ⟨⟨trivial, .inr rfl⟩, .inr rfl⟩, ?_⟩
              refine TTree.node 10 [] rfl ?_
              refine AllP.cons ?_ ?_
              · refine TStep.n (objs' := [ob1, .box [.int .i64 0], ob2, ob4, ob2, ob9]) [] rfl rfl rfl rfl (fun s2 => by refine EOp.eq (e_store_box rfl rfl rfl rfl rfl ty54 rfl rfl rfl rfl) ?_; rfl) ?_
                refine ⟨rfl, ⟨⟨trivial, .inr rfl⟩, .inr rfl⟩, ?_⟩
                exact TTree.leaf rfl (sub_gen [0, 1, 5, 2, 3, 4] rfl rfl ⟨zc rfl rfl, zc rfl rfl, zc rfl rfl, zc rfl rfl, zc rfl rfl, trivial⟩ ⟨⟨_, rfl, ⟨ii rfl rfl, trivial⟩⟩, ⟨_, rfl, ⟨ii rfl rfl, trivial⟩⟩, ⟨_, rfl, ⟨ii rfl rfl, ii rfl rfl, ii rfl rfl, ii rfl rfl, ii rfl rfl, trivial⟩⟩, oa rfl, oa rfl, oa rfl, trivial⟩)
              exact AllP.nil
            exact AllP.nil
          refine AllP.cons ?_ ?_
          · refine TStep.d (objs' := [ob1, .box [.int .i64 0], ob2, ob4, ob2, ob8]) (v := .c (.ptr 5 0)) [] 8 rfl rfl rfl rfl rfl (fun s2 => by refine EOp.eq (e_alloc rfl rfl rfl z54) ?_; rfl) ?_
            refine ⟨rfl, ⟨⟨trivial, .inr rfl⟩, .inr rfl⟩, ?_⟩
            refine TTree.node 8 [] rfl ?_
            refine AllP.cons ?_ ?_
            · refine TStep.d (objs' := [ob1, .box [.int .i64 0], ob2, ob4, ob2, ob8]) (v := av7) [] 28 rfl rfl rfl rfl rfl (fun s2 => by refine EOp.eq (EOp.qd rfl rfl (q_build2 rfl rfl pl54 rfl)) ?_; rfl) ?_
              refine ⟨rfl, ⟨⟨trivial, .inr rfl⟩, .inr rfl⟩, ?_⟩
              refine TTree.node 10 [] rfl ?_
              refine AllP.cons ?_ ?_
              · refine TStep.n (objs' := [ob1, .box [.int .i64 0], ob2, ob4, ob2, ob9]) [] rfl rfl rfl rfl (fun s2 => by refine EOp.eq (e_store_box rfl rfl rfl rfl rfl ty54 rfl rfl rfl rfl) ?_; rfl) ?_
                refine ⟨rfl, ⟨⟨trivial, .inr rfl⟩, .inr rfl⟩, ?_⟩
                exact TTree.leaf rfl (sub_gen [0, 1, 5, 2, 3, 4] rfl rfl ⟨zc rfl rfl, zc rfl rfl, zc rfl rfl, zc rfl rfl, zc rfl rfl, trivial⟩ ⟨⟨_, rfl, ⟨ii rfl rfl, trivial⟩⟩, ⟨_, rfl, ⟨ii rfl rfl, trivial⟩⟩, ⟨_, rfl, ⟨ii rfl rfl, ii rfl rfl, ii rfl rfl, ii rfl rfl, ii rfl rfl, trivial⟩⟩, oa rfl, oa rfl, oa rfl, trivial⟩)
              exact AllP.nil
            exact AllP.nil
          exact AllP.nil
        refine AllP.cons ?_ ?_
        · refine TStep.d (objs' := [ob1, .box [.int .i64 0], ob2, ob4, ob8]) (v := .c (.ptr 4 0)) [] 8 rfl rfl rfl rfl rfl (fun s2 => by refine EOp.eq (e_alloc rfl rfl rfl z54) ?_; rfl) ?_
          refine ⟨rfl, ⟨⟨trivial, .inr rfl⟩, .inr rfl⟩, ?_⟩
          refine TTree.node 7 [] rfl ?_
          refine AllP.cons ?_ ?_
          · refine TStep.d (objs' := [ob1, .box [.int .i64 0], ob2, ob4, ob8, ob2]) (v := av10) [] 27 rfl rfl rfl rfl rfl (fun s2 => by refine EOp.eq (e_makeL (c := (cInt .i64)) (d0 := 0) rfl rfl rfl rfl rfl sl22 z3 rfl rfl rfl g6.1 (Int.le_refl _) g6.2.1 g6.2.2) ?_; rfl) ?_
            refine ⟨rfl, ⟨⟨trivial, .inr rfl⟩, .inr rfl⟩, ?_⟩
            refine TTree.node 8 [] rfl ?_
            refine AllP.cons ?_ ?_
            · refine TStep.d (objs' := [ob1, .box [.int .i64 0], ob2, ob4, ob8, ob2]) (v := av11) [] 28 rfl rfl rfl rfl rfl (fun s2 => by refine EOp.eq (EOp.qd rfl rfl (q_build2 rfl rfl pl54 rfl)) ?_; rfl) ?_
              refine ⟨rfl, ⟨⟨trivial, .inr rfl⟩, .inr rfl⟩, ?_⟩
              refine TTree.node 10 [] rfl ?_
              refine AllP.cons ?_ ?_
              · refine TStep.n (objs' := [ob1, .box [.int .i64 0], ob2, ob4, ob12, ob2]) [] rfl rfl rfl rfl (fun s2 => by refine EOp.eq (e_store_box rfl rfl rfl rfl rfl ty54 rfl rfl rfl rfl) ?_; rfl) ?_
                refine ⟨rfl, ⟨⟨trivial, .inr rfl⟩, .inr rfl⟩, ?_⟩
                exact TTree.leaf rfl (sub_gen [0, 1, 4, 2, 3, 5] rfl rfl ⟨zc rfl rfl, zc rfl rfl, zc rfl rfl, zc rfl rfl, zc rfl rfl, trivial⟩ ⟨⟨_, rfl, ⟨ii rfl rfl, trivial⟩⟩, ⟨_, rfl, ⟨ii rfl rfl, trivial⟩⟩, ⟨_, rfl, ⟨ii rfl rfl, ii rfl rfl, ii rfl rfl, ii rfl rfl, ii rfl rfl, trivial⟩⟩, oa rfl, oa rfl, oa rfl, trivial⟩)
              exact AllP.nil
            exact AllP.nil
          exact AllP.nil
        exact AllP.nil
      refine AllP.cons ?_ ?_
      · refine TStep.d (objs' := [ob1, .box [.int .i64 0], ob2, ob2]) (v := av13) [] 27 rfl rfl rfl rfl rfl (fun s2 => by refine EOp.eq (e_makeL (c := (cInt .i64)) (d0 := 0) rfl rfl rfl rfl rfl sl22 z3 rfl rfl rfl g6.1 (Int.le_refl _) g6.2.1 g6.2.2) ?_; rfl) ?_
        refine ⟨rfl, ⟨⟨trivial, .inr rfl⟩, .inr rfl⟩, ?_⟩
        refine TTree.node 5 [9] rfl ?_
        refine AllP.cons ?_ ?_
        · refine TStep.d (objs' := [ob1, .box [.int .i64 0], ob2, ob2, ob4]) (v := av14) [] 25 rfl rfl rfl rfl rfl (fun s2 => by refine EOp.eq (e_makeL (c := cBool) (d0 := false) rfl rfl rfl rfl rfl sl52 z4 rfl rfl rfl g5.1 (Int.le_refl _) g5.2.1 g5.2.2) ?_; rfl) ?_
          refine ⟨rfl, ⟨⟨trivial, .inr rfl⟩, .inr rfl⟩, ?_⟩
          refine TTree.node 8 [9] rfl ?_
          refine AllP.cons ?_ ?_
          · refine TStep.d (objs' := [ob1, .box [.int .i64 0], ob2, ob2, ob4]) (v := av15) [] 28 rfl rfl rfl rfl rfl (fun s2 => by refine EOp.eq (EOp.qd rfl rfl (q_build2 rfl rfl pl54 rfl)) ?_; rfl) ?_
            refine ⟨rfl, ⟨⟨trivial, .inr rfl⟩, .inr rfl⟩, ?_⟩
            refine TTree.node 9 [] rfl ?_
            refine AllP.cons ?_ ?_
            · refine TStep.d (objs' := [ob1, .box [.int .i64 0], ob2, ob2, ob4, ob8]) (v := .c (.ptr 5 0)) [] 8 rfl rfl rfl rfl rfl (fun s2 => by refine EOp.eq (e_alloc rfl rfl rfl z54) ?_; rfl) ?_
              refine ⟨rfl, ⟨⟨trivial, .inr rfl⟩, .inr rfl⟩, ?_⟩
              refine TTree.node 10 [] rfl ?_
              refine AllP.cons ?_ ?_
              · refine TStep.n (objs' := [ob1, .box [.int .i64 0], ob2, ob2, ob4, ob16]) [] rfl rfl rfl rfl (fun s2 => by refine EOp.eq (e_store_box rfl rfl rfl rfl rfl ty54 rfl rfl rfl rfl) ?_; rfl) ?_
                refine ⟨rfl, ⟨⟨trivial, .inr rfl⟩, .inr rfl⟩, ?_⟩
                exact TTree.leaf rfl (sub_gen [0, 1, 5, 2, 4, 3] rfl rfl ⟨zc rfl rfl, zc rfl rfl, zc rfl rfl, zc rfl rfl, zc rfl rfl, trivial⟩ ⟨⟨_, rfl, ⟨ii rfl rfl, trivial⟩⟩, ⟨_, rfl, ⟨ii rfl rfl, trivial⟩⟩, ⟨_, rfl, ⟨ii rfl rfl, ii rfl rfl, ii rfl rfl, ii rfl rfl, ii rfl rfl, trivial⟩⟩, oa rfl, oa rfl, oa rfl, trivial⟩)
              exact AllP.nil
            exact AllP.nil
          refine AllP.cons ?_ ?_
          · refine TStep.d (objs' := [ob1, .box [.int .i64 0], ob2, ob2, ob4, ob8]) (v := .c (.ptr 5 0)) [] 8 rfl rfl rfl rfl rfl (fun s2 => by refine EOp.eq (e_alloc rfl rfl rfl z54) ?_; rfl) ?_
            refine ⟨rfl, ⟨⟨trivial, .inr rfl⟩, .inr rfl⟩, ?_⟩
            refine TTree.node 8 [] rfl ?_
            refine AllP.cons ?_ ?_
            · refine TStep.d (objs' := [ob1, .box [.int .i64 0], ob2, ob2, ob4, ob8]) (v := av15) [] 28 rfl rfl rfl rfl rfl (fun s2 => by refine EOp.eq (EOp.qd rfl rfl (q_build2 rfl rfl pl54 rfl)) ?_; rfl) ?_
              refine ⟨rfl, ⟨⟨trivial, .inr rfl⟩, .inr rfl⟩, ?_⟩
              refine TTree.node 10 [] rfl ?_
              refine AllP.cons ?_ ?_
              · refine TStep.n (objs' := [ob1, .box [.int .i64 0], ob2, ob2, ob4, ob16]) [] rfl rfl rfl rfl (fun s2 => by refine EOp.eq (e_store_box rfl rfl rfl rfl rfl ty54 rfl rfl rfl rfl) ?_; rfl) ?_
                refine ⟨rfl, ⟨⟨trivial, .inr rfl⟩, .inr rfl⟩, ?_⟩
                exact TTree.leaf rfl (sub_gen [0, 1, 5, 2, 4, 3] rfl rfl ⟨zc rfl rfl, zc rfl rfl, zc rfl rfl, zc rfl rfl, zc rfl rfl, trivial⟩ ⟨⟨_, rfl, ⟨ii rfl rfl, trivial⟩⟩, ⟨_, rfl, ⟨ii rfl rfl, trivial⟩⟩, ⟨_, rfl, ⟨ii rfl rfl, ii rfl rfl, ii rfl rfl, ii rfl rfl, ii rfl rfl, trivial⟩⟩, oa rfl, oa rfl, oa rfl, trivial⟩)
              exact AllP.nil
            exact AllP.nil
          exact AllP.nil
        refine AllP.cons ?_ ?_
        · refine TStep.d (objs' := [ob1, .box [.int .i64 0], ob2, ob2, ob8]) (v := .c (.ptr 4 0)) [] 8 rfl rfl rfl rfl rfl (fun s2 => by refine EOp.eq (e_alloc rfl rfl rfl z54) ?_; rfl) ?_
          refine ⟨rfl, ⟨⟨trivial, .inr rfl⟩, .inr rfl⟩, ?_⟩
          refine TTree.node 5 [] rfl ?_
          refine AllP.cons ?_ ?_
          · refine TStep.d (objs' := [ob1, .box [.int .i64 0], ob2, ob2, ob8, ob4]) (v := av17) [] 25 rfl rfl rfl rfl rfl (fun s2 => by refine EOp.eq (e_makeL (c := cBool) (d0 := false) rfl rfl rfl rfl rfl sl52 z4 rfl rfl rfl g5.1 (Int.le_refl _) g5.2.1 g5.2.2) ?_; rfl) ?_
            refine ⟨rfl, ⟨⟨trivial, .inr rfl⟩, .inr rfl⟩, ?_⟩
            refine TTree.node 8 [] rfl ?_
            refine AllP.cons ?_ ?_
            · refine TStep.d (objs' := [ob1, .box [.int .i64 0], ob2, ob2, ob8, ob4]) (v := av18) [] 28 rfl rfl rfl rfl rfl (fun s2 => by refine EOp.eq (EOp.qd rfl rfl (q_build2 rfl rfl pl54 rfl)) ?_; rfl) ?_
              refine ⟨rfl, ⟨⟨trivial, .inr rfl⟩, .inr rfl⟩, ?_⟩
              refine TTree.node 10 [] rfl ?_
              refine AllP.cons ?_ ?_
              · refine TStep.n (objs' := [ob1, .box [.int .i64 0], ob2, ob2, ob19, ob4]) [] rfl rfl rfl rfl (fun s2 => by refine EOp.eq (e_store_box rfl rfl rfl rfl rfl ty54 rfl rfl rfl rfl) ?_; rfl) ?_
                refine ⟨rfl, ⟨⟨trivial, .inr rfl⟩, .inr rfl⟩, ?_⟩
                exact TTree.leaf rfl (sub_gen [0, 1, 4, 2, 5, 3] rfl rfl ⟨zc rfl rfl, zc rfl rfl, zc rfl rfl, zc rfl rfl, zc rfl rfl, trivial⟩ ⟨⟨_, rfl, ⟨ii rfl rfl, trivial⟩⟩, ⟨_, rfl, ⟨ii rfl rfl, trivial⟩⟩, ⟨_, rfl, ⟨ii rfl rfl, ii rfl rfl, ii rfl rfl, ii rfl rfl, ii rfl rfl, trivial⟩⟩, oa rfl, oa rfl, oa rfl, trivial⟩)
              exact AllP.nil
            exact AllP.nil
          exact AllP.nil
        exact AllP.nil
      refine AllP.cons ?_ ?_
      · refine TStep.d (objs' := [ob1, .box [.int .i64 0], ob2, ob8]) (v := .c (.ptr 3 0)) [] 8 rfl rfl rfl rfl rfl (fun s2 => by refine EOp.eq (e_alloc rfl rfl rfl z54) ?_; rfl) ?_
        refine ⟨rfl, ⟨⟨trivial, .inr rfl⟩, .inr rfl⟩, ?_⟩
        refine TTree.node 5 [7] rfl ?_
        refine AllP.cons ?_ ?_
        · refine TStep.d (objs' := [ob1, .box [.int .i64 0], ob2, ob8, ob4]) (v := av14) [] 25 rfl rfl rfl rfl rfl (fun s2 => by refine EOp.eq (e_makeL (c := cBool) (d0 := false) rfl rfl rfl rfl rfl sl52 z4 rfl rfl rfl g5.1 (Int.le_refl _) g5.2.1 g5.2.2) ?_; rfl) ?_
          refine ⟨rfl, ⟨⟨trivial, .inr rfl⟩, .inr rfl⟩, ?_⟩
          refine TTree.node 7 [] rfl ?_
          refine AllP.cons ?_ ?_
          · refine TStep.d (objs' := [ob1, .box [.int .i64 0], ob2, ob8, ob4, ob2]) (v := av10) [] 27 rfl rfl rfl rfl rfl (fun s2 => by refine EOp.eq (e_makeL (c := (cInt .i64)) (d0 := 0) rfl rfl rfl rfl rfl sl22 z3 rfl rfl rfl g6.1 (Int.le_refl _) g6.2.1 g6.2.2) ?_; rfl) ?_
            refine ⟨rfl, ⟨⟨trivial, .inr rfl⟩, .inr rfl⟩, ?_⟩
            refine TTree.node 8 [] rfl ?_
            refine AllP.cons ?_ ?_
            · refine TStep.d (objs' := [ob1, .box [.int .i64 0], ob2, ob8, ob4, ob2]) (v := av20) [] 28 rfl rfl rfl rfl rfl (fun s2 => by refine EOp.eq (EOp.qd rfl rfl (q_build2 rfl rfl pl54 rfl)) ?_; rfl) ?_
              refine ⟨rfl, ⟨⟨trivial, .inr rfl⟩, .inr rfl⟩, ?_⟩
              refine TTree.node 10 [] rfl ?_
              refine AllP.cons ?_ ?_
              · refine TStep.n (objs' := [ob1, .box [.int .i64 0], ob2, ob21, ob4, ob2]) [] rfl rfl rfl rfl (fun s2 => by refine EOp.eq (e_store_box rfl rfl rfl rfl rfl ty54 rfl rfl rfl rfl) ?_; rfl) ?_
                refine ⟨rfl, ⟨⟨trivial, .inr rfl⟩, .inr rfl⟩, ?_⟩
                exact TTree.leaf rfl (sub_gen [0, 1, 3, 2, 4, 5] rfl rfl ⟨zc rfl rfl, zc rfl rfl, zc rfl rfl, zc rfl rfl, zc rfl rfl, trivial⟩ ⟨⟨_, rfl, ⟨ii rfl rfl, trivial⟩⟩, ⟨_, rfl, ⟨ii rfl rfl, trivial⟩⟩, ⟨_, rfl, ⟨ii rfl rfl, ii rfl rfl, ii rfl rfl, ii rfl rfl, ii rfl rfl, trivial⟩⟩, oa rfl, oa rfl, oa rfl, trivial⟩)
              exact AllP.nil
            exact AllP.nil
          exact AllP.nil
        refine AllP.cons ?_ ?_
        · refine TStep.d (objs' := [ob1, .box [.int .i64 0], ob2, ob8, ob2]) (v := av6) [] 27 rfl rfl rfl rfl rfl (fun s2 => by refine EOp.eq (e_makeL (c := (cInt .i64)) (d0 := 0) rfl rfl rfl rfl rfl sl22 z3 rfl rfl rfl g6.1 (Int.le_refl _) g6.2.1 g6.2.2) ?_; rfl) ?_
          refine ⟨rfl, ⟨⟨trivial, .inr rfl⟩, .inr rfl⟩, ?_⟩
          refine TTree.node 5 [] rfl ?_
          refine AllP.cons ?_ ?_
          · refine TStep.d (objs' := [ob1, .box [.int .i64 0], ob2, ob8, ob2, ob4]) (v := av17) [] 25 rfl rfl rfl rfl rfl (fun s2 => by refine EOp.eq (e_makeL (c := cBool) (d0 := false) rfl rfl rfl rfl rfl sl52 z4 rfl rfl rfl g5.1 (Int.le_refl _) g5.2.1 g5.2.2) ?_; rfl) ?_
            refine ⟨rfl, ⟨⟨trivial, .inr rfl⟩, .inr rfl⟩, ?_⟩
            refine TTree.node 8 [] rfl ?_
            refine AllP.cons ?_ ?_
            · refine TStep.d (objs' := [ob1, .box [.int .i64 0], ob2, ob8, ob2, ob4]) (v := av22) [] 28 rfl rfl rfl rfl rfl (fun s2 => by refine EOp.eq (EOp.qd rfl rfl (q_build2 rfl rfl pl54 rfl)) ?_; rfl) ?_
              refine ⟨rfl, ⟨⟨trivial, .inr rfl⟩, .inr rfl⟩, ?_⟩
              refine TTree.node 10 [] rfl ?_
              refine AllP.cons ?_ ?_
              · refine TStep.n (objs' := [ob1, .box [.int .i64 0], ob2, ob23, ob2, ob4]) [] rfl rfl rfl rfl (fun s2 => by refine EOp.eq (e_store_box rfl rfl rfl rfl rfl ty54 rfl rfl rfl rfl) ?_; rfl) ?_
                refine ⟨rfl, ⟨⟨trivial, .inr rfl⟩, .inr rfl⟩, ?_⟩
                exact TTree.leaf rfl (sub_gen [0, 1, 3, 2, 5, 4] rfl rfl ⟨zc rfl rfl, zc rfl rfl, zc rfl rfl, zc rfl rfl, zc rfl rfl, trivial⟩ ⟨⟨_, rfl, ⟨ii rfl rfl, trivial⟩⟩, ⟨_, rfl, ⟨ii rfl rfl, trivial⟩⟩, ⟨_, rfl, ⟨ii rfl rfl, ii rfl rfl, ii rfl rfl, ii rfl rfl, ii rfl rfl, trivial⟩⟩, oa rfl, oa rfl, oa rfl, trivial⟩)
              exact AllP.nil
            exact AllP.nil
          exact AllP.nil
        exact AllP.nil
      exact AllP.nil
    refine AllP.cons ?_ ?_
    · refine TStep.d (objs' := [ob1, .box [.int .i64 0], ob4]) (v := av24) [] 25 rfl rfl rfl rfl rfl (fun s2 => by refine EOp.eq (e_makeL (c := cBool) (d0 := false) rfl rfl rfl rfl rfl sl52 z4 rfl rfl rfl g5.1 (Int.le_refl _) g5.2.1 g5.2.2) ?_; rfl) ?_
      refine ⟨rfl, ⟨⟨trivial, .inr rfl⟩, .inr rfl⟩, ?_⟩
      refine TTree.node 3 [7, 9] rfl ?_
      refine AllP.cons ?_ ?_
      · refine TStep.d (objs' := [ob1, .box [.int .i64 0], ob4, ob2]) (v := av13) [] 23 rfl rfl rfl rfl rfl (fun s2 => by refine EOp.eq (e_makeL (c := (cInt .i64)) (d0 := 0) rfl rfl rfl rfl rfl sl22 z3 rfl rfl rfl g4.1 (Int.le_refl _) g4.2.1 g4.2.2) ?_; rfl) ?_
        refine ⟨rfl, ⟨⟨trivial, .inr rfl⟩, .inr rfl⟩, ?_⟩
        refine TTree.node 7 [9] rfl ?_
        refine AllP.cons ?_ ?_
        · refine TStep.d (objs' := [ob1, .box [.int .i64 0], ob4, ob2, ob2]) (v := av6) [] 27 rfl rfl rfl rfl rfl (fun s2 => by refine EOp.eq (e_makeL (c := (cInt .i64)) (d0 := 0) rfl rfl rfl rfl rfl sl22 z3 rfl rfl rfl g6.1 (Int.le_refl _) g6.2.1 g6.2.2) ?_; rfl) ?_
          refine ⟨rfl, ⟨⟨trivial, .inr rfl⟩, .inr rfl⟩, ?_⟩
          refine TTree.node 8 [9] rfl ?_
          refine AllP.cons ?_ ?_
          · refine TStep.d (objs' := [ob1, .box [.int .i64 0], ob4, ob2, ob2]) (v := av25) [] 28 rfl rfl rfl rfl rfl (fun s2 => by refine EOp.eq (EOp.qd rfl rfl (q_build2 rfl rfl pl54 rfl)) ?_; rfl) ?_
            refine ⟨rfl, ⟨⟨trivial, .inr rfl⟩, .inr rfl⟩, ?_⟩
            refine TTree.node 9 [] rfl ?_
            refine AllP.cons ?_ ?_
            · refine TStep.d (objs' := [ob1, .box [.int .i64 0], ob4, ob2, ob2, ob8]) (v := .c (.ptr 5 0)) [] 8 rfl rfl rfl rfl rfl (fun s2 => by refine EOp.eq (e_alloc rfl rfl rfl z54) ?_; rfl) ?_
              refine ⟨rfl, ⟨⟨trivial, .inr rfl⟩, .inr rfl⟩, ?_⟩
              refine TTree.node 10 [] rfl ?_
              refine AllP.cons ?_ ?_
              · refine TStep.n (objs' := [ob1, .box [.int .i64 0], ob4, ob2, ob2, ob26]) [] rfl rfl rfl rfl (fun s2 => by refine EOp.eq (e_store_box rfl rfl rfl rfl rfl ty54 rfl rfl rfl rfl) ?_; rfl) ?_
                refine ⟨rfl, ⟨⟨trivial, .inr rfl⟩, .inr rfl⟩, ?_⟩
                exact TTree.leaf rfl (sub_gen [0, 1, 5, 3, 2, 4] rfl rfl ⟨zc rfl rfl, zc rfl rfl, zc rfl rfl, zc rfl rfl, zc rfl rfl, trivial⟩ ⟨⟨_, rfl, ⟨ii rfl rfl, trivial⟩⟩, ⟨_, rfl, ⟨ii rfl rfl, trivial⟩⟩, ⟨_, rfl, ⟨ii rfl rfl, ii rfl rfl, ii rfl rfl, ii rfl rfl, ii rfl rfl, trivial⟩⟩, oa rfl, oa rfl, oa rfl, trivial⟩)
              exact AllP.nil
            exact AllP.nil
          refine AllP.cons ?_ ?_
          · refine TStep.d (objs' := [ob1, .box [.int .i64 0], ob4, ob2, ob2, ob8]) (v := .c (.ptr 5 0)) [] 8 rfl rfl rfl rfl rfl (fun s2 => by refine EOp.eq (e_alloc rfl rfl rfl z54) ?_; rfl) ?_
            refine ⟨rfl, ⟨⟨trivial, .inr rfl⟩, .inr rfl⟩, ?_⟩
            refine TTree.node 8 [] rfl ?_
            refine AllP.cons ?_ ?_
            · refine TStep.d (objs' := [ob1, .box [.int .i64 0], ob4, ob2, ob2, ob8]) (v := av25) [] 28 rfl rfl rfl rfl rfl (fun s2 => by refine EOp.eq (EOp.qd rfl rfl (q_build2 rfl rfl pl54 rfl)) ?_; rfl) ?_
              refine ⟨rfl, ⟨⟨trivial, .inr rfl⟩, .inr rfl⟩, ?_⟩
              refine TTree.node 10 [] rfl ?_
              refine AllP.cons ?_ ?_
              · refine TStep.n (objs' := [ob1, .box [.int .i64 0], ob4, ob2, ob2, ob26]) [] rfl rfl rfl rfl (fun s2 => by refine EOp.eq (e_store_box rfl rfl rfl rfl rfl ty54 rfl rfl rfl rfl) ?_; rfl) ?_
                refine ⟨rfl, ⟨⟨trivial, .inr rfl⟩, .inr rfl⟩, ?_⟩
                exact TTree.leaf rfl (sub_gen [0, 1, 5, 3, 2, 4] rfl rfl ⟨zc rfl rfl, zc rfl rfl, zc rfl rfl, zc rfl rfl, zc rfl rfl, trivial⟩ ⟨⟨_, rfl, ⟨ii rfl rfl, trivial⟩⟩, ⟨_, rfl, ⟨ii rfl rfl, trivial⟩⟩, ⟨_, rfl, ⟨ii rfl rfl, ii rfl rfl, ii rfl rfl, ii rfl rfl, ii rfl rfl, trivial⟩⟩, oa rfl, oa rfl, oa rfl, trivial⟩)
              exact AllP.nil
            exact AllP.nil
          exact AllP.nil
        refine AllP.cons ?_ ?_
        · refine TStep.d (objs' := [ob1, .box [.int .i64 0], ob4, ob2, ob8]) (v := .c (.ptr 4 0)) [] 8 rfl rfl rfl rfl rfl (fun s2 => by refine EOp.eq (e_alloc rfl rfl rfl z54) ?_; rfl) ?_
          refine ⟨rfl, ⟨⟨trivial, .inr rfl⟩, .inr rfl⟩, ?_⟩
          refine TTree.node 7 [] rfl ?_
          refine AllP.cons ?_ ?_
          · refine TStep.d (objs' := [ob1, .box [.int .i64 0], ob4, ob2, ob8, ob2]) (v := av10) [] 27 rfl rfl rfl rfl rfl (fun s2 => by refine EOp.eq (e_makeL (c := (cInt .i64)) (d0 := 0) rfl rfl rfl rfl rfl sl22 z3 rfl rfl rfl g6.1 (Int.le_refl _) g6.2.1 g6.2.2) ?_; rfl) ?_
            refine ⟨rfl, ⟨⟨trivial, .inr rfl⟩, .inr rfl⟩, ?_⟩
            refine TTree.node 8 [] rfl ?_
            refine AllP.cons ?_ ?_
            · refine TStep.d (objs' := [ob1, .box [.int .i64 0], ob4, ob2, ob8, ob2]) (v := av27) [] 28 rfl rfl rfl rfl rfl (fun s2 => by refine EOp.eq (EOp.qd rfl rfl (q_build2 rfl rfl pl54 rfl)) ?_; rfl) ?_
              refine ⟨rfl, ⟨⟨trivial, .inr rfl⟩, .inr rfl⟩, ?_⟩
              refine TTree.node 10 [] rfl ?_
              refine AllP.cons ?_ ?_
              · refine TStep.n (objs' := [ob1, .box [.int .i64 0], ob4, ob2, ob28, ob2]) [] rfl rfl rfl rfl (fun s2 => by refine EOp.eq (e_store_box rfl rfl rfl rfl rfl ty54 rfl rfl rfl rfl) ?_; rfl) ?_
                refine ⟨rfl, ⟨⟨trivial, .inr rfl⟩, .inr rfl⟩, ?_⟩
                exact TTree.leaf rfl (sub_gen [0, 1, 4, 3, 2, 5] rfl rfl ⟨zc rfl rfl, zc rfl rfl, zc rfl rfl, zc rfl rfl, zc rfl rfl, trivial⟩ ⟨⟨_, rfl, ⟨ii rfl rfl, trivial⟩⟩, ⟨_, rfl, ⟨ii rfl rfl, trivial⟩⟩, ⟨_, rfl, ⟨ii rfl rfl, ii rfl rfl, ii rfl rfl, ii rfl rfl, ii rfl rfl, trivial⟩⟩, oa rfl, oa rfl, oa rfl, trivial⟩)
              exact AllP.nil
            exact AllP.nil
          exact AllP.nil
        exact AllP.nil
      refine AllP.cons ?_ ?_
      · refine TStep.d (objs' := [ob1, .box [.int .i64 0], ob4, ob2]) (v := av13) [] 27 rfl rfl rfl rfl rfl (fun s2 => by refine EOp.eq (e_makeL (c := (cInt .i64)) (d0 := 0) rfl rfl rfl rfl rfl sl22 z3 rfl rfl rfl g6.1 (Int.le_refl _) g6.2.1 g6.2.2) ?_; rfl) ?_
        refine ⟨rfl, ⟨⟨trivial, .inr rfl⟩, .inr rfl⟩, ?_⟩
        refine TTree.node 3 [9] rfl ?_
        refine AllP.cons ?_ ?_
        · refine TStep.d (objs' := [ob1, .box [.int .i64 0], ob4, ob2, ob2]) (v := av6) [] 23 rfl rfl rfl rfl rfl (fun s2 => by refine EOp.eq (e_makeL (c := (cInt .i64)) (d0 := 0) rfl rfl rfl rfl rfl sl22 z3 rfl rfl rfl g4.1 (Int.le_refl _) g4.2.1 g4.2.2) ?_; rfl) ?_
          refine ⟨rfl, ⟨⟨trivial, .inr rfl⟩, .inr rfl⟩, ?_⟩
          refine TTree.node 8 [9] rfl ?_
          refine AllP.cons ?_ ?_
          · refine TStep.d (objs' := [ob1, .box [.int .i64 0], ob4, ob2, ob2]) (v := av29) [] 28 rfl rfl rfl rfl rfl (fun s2 => by refine EOp.eq (EOp.qd rfl rfl (q_build2 rfl rfl pl54 rfl)) ?_; rfl) ?_
            refine ⟨rfl, ⟨⟨trivial, .inr rfl⟩, .inr rfl⟩, ?_⟩
            refine TTree.node 9 [] rfl ?_
            refine AllP.cons ?_ ?_
            · refine TStep.d (objs' := [ob1, .box [.int .i64 0], ob4, ob2, ob2, ob8]) (v := .c (.ptr 5 0)) [] 8 rfl rfl rfl rfl rfl (fun s2 => by refine EOp.eq (e_alloc rfl rfl rfl z54) ?_; rfl) ?_
              refine ⟨rfl, ⟨⟨trivial, .inr rfl⟩, .inr rfl⟩, ?_⟩
              refine TTree.node 10 [] rfl ?_
              refine AllP.cons ?_ ?_
              · refine TStep.n (objs' := [ob1, .box [.int .i64 0], ob4, ob2, ob2, ob30]) [] rfl rfl rfl rfl (fun s2 => by refine EOp.eq (e_store_box rfl rfl rfl rfl rfl ty54 rfl rfl rfl rfl) ?_; rfl) ?_
                refine ⟨rfl, ⟨⟨trivial, .inr rfl⟩, .inr rfl⟩, ?_⟩
                exact TTree.leaf rfl (sub_gen [0, 1, 5, 4, 2, 3] rfl rfl ⟨zc rfl rfl, zc rfl rfl, zc rfl rfl, zc rfl rfl, zc rfl rfl, trivial⟩ ⟨⟨_, rfl, ⟨ii rfl rfl, trivial⟩⟩, ⟨_, rfl, ⟨ii rfl rfl, trivial⟩⟩, ⟨_, rfl, ⟨ii rfl rfl, ii rfl rfl, ii rfl rfl, ii rfl rfl, ii rfl rfl, trivial⟩⟩, oa rfl, oa rfl, oa rfl, trivial⟩)
              exact AllP.nil
            exact AllP.nil
          refine AllP.cons ?_ ?_
          · refine TStep.d (objs' := [ob1, .box [.int .i64 0], ob4, ob2, ob2, ob8]) (v := .c (.ptr 5 0)) [] 8 rfl rfl rfl rfl rfl (fun s2 => by refine EOp.eq (e_alloc rfl rfl rfl z54) ?_; rfl) ?_
            refine ⟨rfl, ⟨⟨trivial, .inr rfl⟩, .inr rfl⟩, ?_⟩
            refine TTree.node 8 [] rfl ?_
            refine AllP.cons ?_ ?_
            · refine TStep.d (objs' := [ob1, .box [.int .i64 0], ob4, ob2, ob2, ob8]) (v := av29) [] 28 rfl rfl rfl rfl rfl (fun s2 => by refine EOp.eq (EOp.qd rfl rfl (q_build2 rfl rfl pl54 rfl)) ?_; rfl) ?_
              refine ⟨rfl, ⟨⟨trivial, .inr rfl⟩, .inr rfl⟩, ?_⟩
              refine TTree.node 10 [] rfl ?_
              refine AllP.cons ?_ ?_
              · refine TStep.n (objs' := [ob1, .box [.int .i64 0], ob4, ob2, ob2, ob30]) [] rfl rfl rfl rfl (fun s2 => by refine EOp.eq (e_store_box rfl rfl rfl rfl rfl ty54 rfl rfl rfl rfl) ?_; rfl) ?_
                refine ⟨rfl, ⟨⟨trivial, .inr rfl⟩, .inr rfl⟩, ?_⟩
                exact TTree.leaf rfl (sub_gen [0, 1, 5, 4, 2, 3] rfl rfl ⟨zc rfl rfl, zc rfl rfl, zc rfl rfl, zc rfl rfl, zc rfl rfl, trivial⟩ ⟨⟨_, rfl, ⟨ii rfl rfl, trivial⟩⟩, ⟨_, rfl, ⟨ii rfl rfl, trivial⟩⟩, ⟨_, rfl, ⟨ii rfl rfl, ii rfl rfl, ii rfl rfl, ii rfl rfl, ii rfl rfl, trivial⟩⟩, oa rfl, oa rfl, oa rfl, trivial⟩)
              exact AllP.nil
            exact AllP.nil
          exact AllP.nil
        refine AllP.cons ?_ ?_
        · refine TStep.d (objs' := [ob1, .box [.int .i64 0], ob4, ob2, ob8]) (v := .c (.ptr 4 0)) [] 8 rfl rfl rfl rfl rfl (fun s2 => by refine EOp.eq (e_alloc rfl rfl rfl z54) ?_; rfl) ?_
          refine ⟨rfl, ⟨⟨trivial, .inr rfl⟩, .inr rfl⟩, ?_⟩
          refine TTree.node 3 [] rfl ?_
          refine AllP.cons ?_ ?_
          · refine TStep.d (objs' := [ob1, .box [.int .i64 0], ob4, ob2, ob8, ob2]) (v := av10) [] 23 rfl rfl rfl rfl rfl (fun s2 => by refine EOp.eq (e_makeL (c := (cInt .i64)) (d0 := 0) rfl rfl rfl rfl rfl sl22 z3 rfl rfl rfl g4.1 (Int.le_refl _) g4.2.1 g4.2.2) ?_; rfl) ?_
            refine ⟨rfl, ⟨⟨trivial, .inr rfl⟩, .inr rfl⟩, ?_⟩
            refine TTree.node 8 [] rfl ?_
            refine AllP.cons ?_ ?_
            · refine TStep.d (objs' := [ob1, .box [.int .i64 0], ob4, ob2, ob8, ob2]) (v := av31) [] 28 rfl rfl rfl rfl rfl (fun s2 => by refine EOp.eq (EOp.qd rfl rfl (q_build2 rfl rfl pl54 rfl)) ?_; rfl) ?_
              refine ⟨rfl, ⟨⟨trivial, .inr rfl⟩, .inr rfl⟩, ?_⟩
              refine TTree.node 10 [] rfl ?_
              refine AllP.cons ?_ ?_
              · refine TStep.n (objs' := [ob1, .box [.int .i64 0], ob4, ob2, ob32, ob2]) [] rfl rfl rfl rfl (fun s2 => by refine EOp.eq (e_store_box rfl rfl rfl rfl rfl ty54 rfl rfl rfl rfl) ?_; rfl) ?_
                refine ⟨rfl, ⟨⟨trivial, .inr rfl⟩, .inr rfl⟩, ?_⟩
                exact TTree.leaf rfl (sub_gen [0, 1, 4, 5, 2, 3] rfl rfl ⟨zc rfl rfl, zc rfl rfl, zc rfl rfl, zc rfl rfl, zc rfl rfl, trivial⟩ ⟨⟨_, rfl, ⟨ii rfl rfl, trivial⟩⟩, ⟨_, rfl, ⟨ii rfl rfl, trivial⟩⟩, ⟨_, rfl, ⟨ii rfl rfl, ii rfl rfl, ii rfl rfl, ii rfl rfl, ii rfl rfl, trivial⟩⟩, oa rfl, oa rfl, oa rfl, trivial⟩)
              exact AllP.nil
            exact AllP.nil
          exact AllP.nil
        exact AllP.nil
      refine AllP.cons ?_ ?_
      · refine TStep.d (objs' := [ob1, .box [.int .i64 0], ob4, ob8]) (v := .c (.ptr 3 0)) [] 8 rfl rfl rfl rfl rfl (fun s2 => by refine EOp.eq (e_alloc rfl rfl rfl z54) ?_; rfl) ?_
        refine ⟨rfl, ⟨⟨trivial, .inr rfl⟩, .inr rfl⟩, ?_⟩
        refine TTree.node 3 [7] rfl ?_
        refine AllP.cons ?_ ?_
        · refine TStep.d (objs' := [ob1, .box [.int .i64 0], ob4, ob8, ob2]) (v := av6) [] 23 rfl rfl rfl rfl rfl (fun s2 => by refine EOp.eq (e_makeL (c := (cInt .i64)) (d0 := 0) rfl rfl rfl rfl rfl sl22 z3 rfl rfl rfl g4.1 (Int.le_refl _) g4.2.1 g4.2.2) ?_; rfl) ?_
          refine ⟨rfl, ⟨⟨trivial, .inr rfl⟩, .inr rfl⟩, ?_⟩
          refine TTree.node 7 [] rfl ?_
          refine AllP.cons ?_ ?_
          · refine TStep.d (objs' := [ob1, .box [.int .i64 0], ob4, ob8, ob2, ob2]) (v := av10) [] 27 rfl rfl rfl rfl rfl (fun s2 => by refine EOp.eq (e_makeL (c := (cInt .i64)) (d0 := 0) rfl rfl rfl rfl rfl sl22 z3 rfl rfl rfl g6.1 (Int.le_refl _) g6.2.1 g6.2.2) ?_; rfl) ?_
            refine ⟨rfl, ⟨⟨trivial, .inr rfl⟩, .inr rfl⟩, ?_⟩
            refine TTree.node 8 [] rfl ?_
            refine AllP.cons ?_ ?_
            · refine TStep.d (objs' := [ob1, .box [.int .i64 0], ob4, ob8, ob2, ob2]) (v := av33) [] 28 rfl rfl rfl rfl rfl (fun s2 => by refine EOp.eq (EOp.qd rfl rfl (q_build2 rfl rfl pl54 rfl)) ?_; rfl) ?_
              refine ⟨rfl, ⟨⟨trivial, .inr rfl⟩, .inr rfl⟩, ?_⟩
              refine TTree.node 10 [] rfl ?_
              refine AllP.cons ?_ ?_
              · refine TStep.n (objs' := [ob1, .box [.int .i64 0], ob4, ob34, ob2, ob2]) [] rfl rfl rfl rfl (fun s2 => by refine EOp.eq (e_store_box rfl rfl rfl rfl rfl ty54 rfl rfl rfl rfl) ?_; rfl) ?_
                refine ⟨rfl, ⟨⟨trivial, .inr rfl⟩, .inr rfl⟩, ?_⟩
                exact TTree.leaf rfl (sub_gen [0, 1, 3, 4, 2, 5] rfl rfl ⟨zc rfl rfl, zc rfl rfl, zc rfl rfl, zc rfl rfl, zc rfl rfl, trivial⟩ ⟨⟨_, rfl, ⟨ii rfl rfl, trivial⟩⟩, ⟨_, rfl, ⟨ii rfl rfl, trivial⟩⟩, ⟨_, rfl, ⟨ii rfl rfl, ii rfl rfl, ii rfl rfl, ii rfl rfl, ii rfl rfl, trivial⟩⟩, oa rfl, oa rfl, oa rfl, trivial⟩)
              exact AllP.nil
            exact AllP.nil
          exact AllP.nil
        refine AllP.cons ?_ ?_
        · refine TStep.d (objs' := [ob1, .box [.int .i64 0], ob4, ob8, ob2]) (v := av6) [] 27 rfl rfl rfl rfl rfl (fun s2 => by refine EOp.eq (e_makeL (c := (cInt .i64)) (d0 := 0) rfl rfl rfl rfl rfl sl22 z3 rfl rfl rfl g6.1 (Int.le_refl _) g6.2.1 g6.2.2) ?_; rfl) ?_
          refine ⟨rfl, ⟨⟨trivial, .inr rfl⟩, .inr rfl⟩, ?_⟩
          refine TTree.node 3 [] rfl ?_
          refine AllP.cons ?_ ?_
          · refine TStep.d (objs' := [ob1, .box [.int .i64 0], ob4, ob8, ob2, ob2]) (v := av10) [] 23 rfl rfl rfl rfl rfl (fun s2 => by refine EOp.eq (e_makeL (c := (cInt .i64)) (d0 := 0) rfl rfl rfl rfl rfl sl22 z3 rfl rfl rfl g4.1 (Int.le_refl _) g4.2.1 g4.2.2) ?_; rfl) ?_
            refine ⟨rfl, ⟨⟨trivial, .inr rfl⟩, .inr rfl⟩, ?_⟩
            refine TTree.node 8 [] rfl ?_
            refine AllP.cons ?_ ?_
            · refine TStep.d (objs' := [ob1, .box [.int .i64 0], ob4, ob8, ob2, ob2]) (v := av35) [] 28 rfl rfl rfl rfl rfl (fun s2 => by refine EOp.eq (EOp.qd rfl rfl (q_build2 rfl rfl pl54 rfl)) ?_; rfl) ?_
              refine ⟨rfl, ⟨⟨trivial, .inr rfl⟩, .inr rfl⟩, ?_⟩
              refine TTree.node 10 [] rfl ?_
              refine AllP.cons ?_ ?_
              · refine TStep.n (objs' := [ob1, .box [.int .i64 0], ob4, ob36, ob2, ob2]) [] rfl rfl rfl rfl (fun s2 => by refine EOp.eq (e_store_box rfl rfl rfl rfl rfl ty54 rfl rfl rfl rfl) ?_; rfl) ?_
                refine ⟨rfl, ⟨⟨trivial, .inr rfl⟩, .inr rfl⟩, ?_⟩
                exact TTree.leaf rfl (sub_gen [0, 1, 3, 5, 2, 4] rfl rfl ⟨zc rfl rfl, zc rfl rfl, zc rfl rfl, zc rfl rfl, zc rfl rfl, trivial⟩ ⟨⟨_, rfl, ⟨ii rfl rfl, trivial⟩⟩, ⟨_, rfl, ⟨ii rfl rfl, trivial⟩⟩, ⟨_, rfl, ⟨ii rfl rfl, ii rfl rfl, ii rfl rfl, ii rfl rfl, ii rfl rfl, trivial⟩⟩, oa rfl, oa rfl, oa rfl, trivial⟩)
              exact AllP.nil
            exact AllP.nil
          exact AllP.nil
        exact AllP.nil
      exact AllP.nil
    refine AllP.cons ?_ ?_
    · refine TStep.d (objs' := [ob1, .box [.int .i64 0], ob2]) (v := av3) [] 27 rfl rfl rfl rfl rfl (fun s2 => by refine EOp.eq (e_makeL (c := (cInt .i64)) (d0 := 0) rfl rfl rfl rfl rfl sl22 z3 rfl rfl rfl g6.1 (Int.le_refl _) g6.2.1 g6.2.2) ?_; rfl) ?_
      refine ⟨rfl, ⟨⟨trivial, .inr rfl⟩, .inr rfl⟩, ?_⟩
      refine TTree.node 3 [5, 9] rfl ?_
      refine AllP.cons ?_ ?_
      · refine TStep.d (objs' := [ob1, .box [.int .i64 0], ob2, ob2]) (v := av13) [] 23 rfl rfl rfl rfl rfl (fun s2 => by refine EOp.eq (e_makeL (c := (cInt .i64)) (d0 := 0) rfl rfl rfl rfl rfl sl22 z3 rfl rfl rfl g4.1 (Int.le_refl _) g4.2.1 g4.2.2) ?_; rfl) ?_
        refine ⟨rfl, ⟨⟨trivial, .inr rfl⟩, .inr rfl⟩, ?_⟩
        refine TTree.node 5 [9] rfl ?_
        refine AllP.cons ?_ ?_
        · refine TStep.d (objs' := [ob1, .box [.int .i64 0], ob2, ob2, ob4]) (v := av14) [] 25 rfl rfl rfl rfl rfl (fun s2 => by refine EOp.eq (e_makeL (c := cBool) (d0 := false) rfl rfl rfl rfl rfl sl52 z4 rfl rfl rfl g5.1 (Int.le_refl _) g5.2.1 g5.2.2) ?_; rfl) ?_
          refine ⟨rfl, ⟨⟨trivial, .inr rfl⟩, .inr rfl⟩, ?_⟩
          refine TTree.node 8 [9] rfl ?_
          refine AllP.cons ?_ ?_
          · refine TStep.d (objs' := [ob1, .box [.int .i64 0], ob2, ob2, ob4]) (v := av37) [] 28 rfl rfl rfl rfl rfl (fun s2 => by refine EOp.eq (EOp.qd rfl rfl (q_build2 rfl rfl pl54 rfl)) ?_; rfl) ?_
            refine ⟨rfl, ⟨⟨trivial, .inr rfl⟩, .inr rfl⟩, ?_⟩
            refine TTree.node 9 [] rfl ?_
            refine AllP.cons ?_ ?_
            · refine TStep.d (objs' := [ob1, .box [.int .i64 0], ob2, ob2, ob4, ob8]) (v := .c (.ptr 5 0)) [] 8 rfl rfl rfl rfl rfl (fun s2 => by refine EOp.eq (e_alloc rfl rfl rfl z54) ?_; rfl) ?_
              refine ⟨rfl, ⟨⟨trivial, .inr rfl⟩, .inr rfl⟩, ?_⟩
              refine TTree.node 10 [] rfl ?_
              refine AllP.cons ?_ ?_
              · refine TStep.n (objs' := [ob1, .box [.int .i64 0], ob2, ob2, ob4, ob38]) [] rfl rfl rfl rfl (fun s2 => by refine EOp.eq (e_store_box rfl rfl rfl rfl rfl ty54 rfl rfl rfl rfl) ?_; rfl) ?_
                refine ⟨rfl, ⟨⟨trivial, .inr rfl⟩, .inr rfl⟩, ?_⟩
                exact TTree.leaf rfl (sub_gen [0, 1, 5, 3, 4, 2] rfl rfl ⟨zc rfl rfl, zc rfl rfl, zc rfl rfl, zc rfl rfl, zc rfl rfl, trivial⟩ ⟨⟨_, rfl, ⟨ii rfl rfl, trivial⟩⟩, ⟨_, rfl, ⟨ii rfl rfl, trivial⟩⟩, ⟨_, rfl, ⟨ii rfl rfl, ii rfl rfl, ii rfl rfl, ii rfl rfl, ii rfl rfl, trivial⟩⟩, oa rfl, oa rfl, oa rfl, trivial⟩)
              exact AllP.nil
            exact AllP.nil
          refine AllP.cons ?_ ?_
          · refine TStep.d (objs' := [ob1, .box [.int .i64 0], ob2, ob2, ob4, ob8]) (v := .c (.ptr 5 0)) [] 8 rfl rfl rfl rfl rfl (fun s2 => by refine EOp.eq (e_alloc rfl rfl rfl z54) ?_; rfl) ?_
            refine ⟨rfl, ⟨⟨trivial, .inr rfl⟩, .inr rfl⟩, ?_⟩
            refine TTree.node 8 [] rfl ?_
            refine AllP.cons ?_ ?_
            · refine TStep.d (objs' := [ob1, .box [.int .i64 0], ob2, ob2, ob4, ob8]) (v := av37) [] 28 rfl rfl rfl rfl rfl (fun s2 => by refine EOp.eq (EOp.qd rfl rfl (q_build2 rfl rfl pl54 rfl)) ?_; rfl) ?_
              refine ⟨rfl, ⟨⟨trivial, .inr rfl⟩, .inr rfl⟩, ?_⟩
              refine TTree.node 10 [] rfl ?_
              refine AllP.cons ?_ ?_
              · refine TStep.n (objs' := [ob1, .box [.int .i64 0], ob2, ob2, ob4, ob38]) [] rfl rfl rfl rfl (fun s2 => by refine EOp.eq (e_store_box rfl rfl rfl rfl rfl ty54 rfl rfl rfl rfl) ?_; rfl) ?_
                refine ⟨rfl, ⟨⟨trivial, .inr rfl⟩, .inr rfl⟩, ?_⟩
                exact TTree.leaf rfl (sub_gen [0, 1, 5, 3, 4, 2] rfl rfl ⟨zc rfl rfl, zc rfl rfl, zc rfl rfl, zc rfl rfl, zc rfl rfl, trivial⟩ ⟨⟨_, rfl, ⟨ii rfl rfl, trivial⟩⟩, ⟨_, rfl, ⟨ii rfl rfl, trivial⟩⟩, ⟨_, rfl, ⟨ii rfl rfl, ii rfl rfl, ii rfl rfl, ii rfl rfl, ii rfl rfl, trivial⟩⟩, oa rfl, oa rfl, oa rfl, trivial⟩)
              exact AllP.nil
            exact AllP.nil
          exact AllP.nil
        refine AllP.cons ?_ ?_
        · refine TStep.d (objs' := [ob1, .box [.int .i64 0], ob2, ob2, ob8]) (v := .c (.ptr 4 0)) [] 8 rfl rfl rfl rfl rfl (fun s2 => by refine EOp.eq (e_alloc rfl rfl rfl z54) ?_; rfl) ?_
          refine ⟨rfl, ⟨⟨trivial, .inr rfl⟩, .inr rfl⟩, ?_⟩
          refine TTree.node 5 [] rfl ?_
          refine AllP.cons ?_ ?_
          · refine TStep.d (objs' := [ob1, .box [.int .i64 0], ob2, ob2, ob8, ob4]) (v := av17) [] 25 rfl rfl rfl rfl rfl (fun s2 => by refine EOp.eq (e_makeL (c := cBool) (d0 := false) rfl rfl rfl rfl rfl sl52 z4 rfl rfl rfl g5.1 (Int.le_refl _) g5.2.1 g5.2.2) ?_; rfl) ?_
            refine ⟨rfl, ⟨⟨trivial, .inr rfl⟩, .inr rfl⟩, ?_⟩
            refine TTree.node 8 [] rfl ?_
            refine AllP.cons ?_ ?_
            · refine TStep.d (objs' := [ob1, .box [.int .i64 0], ob2, ob2, ob8, ob4]) (v := av39) [] 28 rfl rfl rfl rfl rfl (fun s2 => by refine EOp.eq (EOp.qd rfl rfl (q_build2 rfl rfl pl54 rfl)) ?_; rfl) ?_
              refine ⟨rfl, ⟨⟨trivial, .inr rfl⟩, .inr rfl⟩, ?_⟩
              refine TTree.node 10 [] rfl ?_
              refine AllP.cons ?_ ?_
              · refine TStep.n (objs' := [ob1, .box [.int .i64 0], ob2, ob2, ob40, ob4]) [] rfl rfl rfl rfl (fun s2 => by refine EOp.eq (e_store_box rfl rfl rfl rfl rfl ty54 rfl rfl rfl rfl) ?_; rfl) ?_
                refine ⟨rfl, ⟨⟨trivial, .inr rfl⟩, .inr rfl⟩, ?_⟩
                exact TTree.leaf rfl (sub_gen [0, 1, 4, 3, 5, 2] rfl rfl ⟨zc rfl rfl, zc rfl rfl, zc rfl rfl, zc rfl rfl, zc rfl rfl, trivial⟩ ⟨⟨_, rfl, ⟨ii rfl rfl, trivial⟩⟩, ⟨_, rfl, ⟨ii rfl rfl, trivial⟩⟩, ⟨_, rfl, ⟨ii rfl rfl, ii rfl rfl, ii rfl rfl, ii rfl rfl, ii rfl rfl, trivial⟩⟩, oa rfl, oa rfl, oa rfl, trivial⟩)
              exact AllP.nil
            exact AllP.nil
          exact AllP.nil
        exact AllP.nil
      refine AllP.cons ?_ ?_
      · refine TStep.d (objs' := [ob1, .box [.int .i64 0], ob2, ob4]) (v := av5) [] 25 rfl rfl rfl rfl rfl (fun s2 => by refine EOp.eq (e_makeL (c := cBool) (d0 := false) rfl rfl rfl rfl rfl sl52 z4 rfl rfl rfl g5.1 (Int.le_refl _) g5.2.1 g5.2.2) ?_; rfl) ?_
        refine ⟨rfl, ⟨⟨trivial, .inr rfl⟩, .inr rfl⟩, ?_⟩
        refine TTree.node 3 [9] rfl ?_
        refine AllP.cons ?_ ?_
        · refine TStep.d (objs' := [ob1, .box [.int .i64 0], ob2, ob4, ob2]) (v := av6) [] 23 rfl rfl rfl rfl rfl (fun s2 => by refine EOp.eq (e_makeL (c := (cInt .i64)) (d0 := 0) rfl rfl rfl rfl rfl sl22 z3 rfl rfl rfl g4.1 (Int.le_refl _) g4.2.1 g4.2.2) ?_; rfl) ?_
          refine ⟨rfl, ⟨⟨trivial, .inr rfl⟩, .inr rfl⟩, ?_⟩
          refine TTree.node 8 [9] rfl ?_
          refine AllP.cons ?_ ?_
          · refine TStep.d (objs' := [ob1, .box [.int .i64 0], ob2, ob4, ob2]) (v := av41) [] 28 rfl rfl rfl rfl rfl (fun s2 => by refine EOp.eq (EOp.qd rfl rfl (q_build2 rfl rfl pl54 rfl)) ?_; rfl) ?_
            refine ⟨rfl, ⟨⟨trivial, .inr rfl⟩, .inr rfl⟩, ?_⟩
            refine TTree.node 9 [] rfl ?_
            refine AllP.cons ?_ ?_
            · refine TStep.d (objs' := [ob1, .box [.int .i64 0], ob2, ob4, ob2, ob8]) (v := .c (.ptr 5 0)) [] 8 rfl rfl rfl rfl rfl (fun s2 => by refine EOp.eq (e_alloc rfl rfl rfl z54) ?_; rfl) ?_
              refine ⟨rfl, ⟨⟨trivial, .inr rfl⟩, .inr rfl⟩, ?_⟩
              refine TTree.node 10 [] rfl ?_
              refine AllP.cons ?_ ?_
              · refine TStep.n (objs' := [ob1, .box [.int .i64 0], ob2, ob4, ob2, ob42]) [] rfl rfl rfl rfl (fun s2 => by refine EOp.eq (e_store_box rfl rfl rfl rfl rfl ty54 rfl rfl rfl rfl) ?_; rfl) ?_
                refine ⟨rfl, ⟨⟨trivial, .inr rfl⟩, .inr rfl⟩, ?_⟩
                exact TTree.leaf rfl (sub_gen [0, 1, 5, 4, 3, 2] rfl rfl ⟨zc rfl rfl, zc rfl rfl, zc rfl rfl, zc rfl rfl, zc rfl rfl, trivial⟩ ⟨⟨_, rfl, ⟨ii rfl rfl, trivial⟩⟩, ⟨_, rfl, ⟨ii rfl rfl, trivial⟩⟩, ⟨_, rfl, ⟨ii rfl rfl, ii rfl rfl, ii rfl rfl, ii rfl rfl, ii rfl rfl, trivial⟩⟩, oa rfl, oa rfl, oa rfl, trivial⟩)
              exact AllP.nil
            exact AllP.nil
          refine AllP.cons ?_ ?_
          · refine TStep.d (objs' := [ob1, .box [.int .i64 0], ob2, ob4, ob2, ob8]) (v := .c (.ptr 5 0)) [] 8 rfl rfl rfl rfl rfl (fun s2 => by refine EOp.eq (e_alloc rfl rfl rfl z54) ?_; rfl) ?_
            refine ⟨rfl, ⟨⟨trivial, .inr rfl⟩, .inr rfl⟩, ?_⟩
            refine TTree.node 8 [] rfl ?_
            refine AllP.cons ?_ ?_
            · refine TStep.d (objs' := [ob1, .box [.int .i64 0], ob2, ob4, ob2, ob8]) (v := av41) [] 28 rfl rfl rfl rfl rfl (fun s2 => by refine EOp.eq (EOp.qd rfl rfl (q_build2 rfl rfl pl54 rfl)) ?_; rfl) ?_
              refine ⟨rfl, ⟨⟨trivial, .inr rfl⟩, .inr rfl⟩, ?_⟩
              refine TTree.node 10 [] rfl ?_
              refine AllP.cons ?_ ?_
              · refine TStep.n (objs' := [ob1, .box [.int .i64 0], ob2, ob4, ob2, ob42]) [] rfl rfl rfl rfl (fun s2 => by refine EOp.eq (e_store_box rfl rfl rfl rfl rfl ty54 rfl rfl rfl rfl) ?_; rfl) ?_
                refine ⟨rfl, ⟨⟨trivial, .inr rfl⟩, .inr rfl⟩, ?_⟩
                exact TTree.leaf rfl (sub_gen [0, 1, 5, 4, 3, 2] rfl rfl ⟨zc rfl rfl, zc rfl rfl, zc rfl rfl, zc rfl rfl, zc rfl rfl, trivial⟩ ⟨⟨_, rfl, ⟨ii rfl rfl, trivial⟩⟩, ⟨_, rfl, ⟨ii rfl rfl, trivial⟩⟩, ⟨_, rfl, ⟨ii rfl rfl, ii rfl rfl, ii rfl rfl, ii rfl rfl, ii rfl rfl, trivial⟩⟩, oa rfl, oa rfl, oa rfl, trivial⟩)
              exact AllP.nil
            exact AllP.nil
          exact AllP.nil
        refine AllP.cons ?_ ?_
        · refine TStep.d (objs' := [ob1, .box [.int .i64 0], ob2, ob4, ob8]) (v := .c (.ptr 4 0)) [] 8 rfl rfl rfl rfl rfl (fun s2 => by refine EOp.eq (e_alloc rfl rfl rfl z54) ?_; rfl) ?_
          refine ⟨rfl, ⟨⟨trivial, .inr rfl⟩, .inr rfl⟩, ?_⟩
          refine TTree.node 3 [] rfl ?_
          refine AllP.cons ?_ ?_
          · refine TStep.d (objs' := [ob1, .box [.int .i64 0], ob2, ob4, ob8, ob2]) (v := av10) [] 23 rfl rfl rfl rfl rfl (fun s2 => by refine EOp.eq (e_makeL (c := (cInt .i64)) (d0 := 0) rfl rfl rfl rfl rfl sl22 z3 rfl rfl rfl g4.1 (Int.le_refl _) g4.2.1 g4.2.2) ?_; rfl) ?_
            refine ⟨rfl, ⟨⟨trivial, .inr rfl⟩, .inr rfl⟩, ?_⟩
            refine TTree.node 8 [] rfl ?_
            refine AllP.cons ?_ ?_
            · refine TStep.d (objs' := [ob1, .box [.int .i64 0], ob2, ob4, ob8, ob2]) (v := av43) [] 28 rfl rfl rfl rfl rfl (fun s2 => by refine EOp.eq (EOp.qd rfl rfl (q_build2 rfl rfl pl54 rfl)) ?_; rfl) ?_
              refine ⟨rfl, ⟨⟨trivial, .inr rfl⟩, .inr rfl⟩, ?_⟩
              refine TTree.node 10 [] rfl ?_
              refine AllP.cons ?_ ?_
              · refine TStep.n (objs' := [ob1, .box [.int .i64 0], ob2, ob4, ob44, ob2]) [] rfl rfl rfl rfl (fun s2 => by refine EOp.eq (e_store_box rfl rfl rfl rfl rfl ty54 rfl rfl rfl rfl) ?_; rfl) ?_
                refine ⟨rfl, ⟨⟨trivial, .inr rfl⟩, .inr rfl⟩, ?_⟩
                exact TTree.leaf rfl (sub_gen [0, 1, 4, 5, 3, 2] rfl rfl ⟨zc rfl rfl, zc rfl rfl, zc rfl rfl, zc rfl rfl, zc rfl rfl, trivial⟩ ⟨⟨_, rfl, ⟨ii rfl rfl, trivial⟩⟩, ⟨_, rfl, ⟨ii rfl rfl, trivial⟩⟩, ⟨_, rfl, ⟨ii rfl rfl, ii rfl rfl, ii rfl rfl, ii rfl rfl, ii rfl rfl, trivial⟩⟩, oa rfl, oa rfl, oa rfl, trivial⟩)
              exact AllP.nil
            exact AllP.nil
          exact AllP.nil
        exact AllP.nil
      refine AllP.cons ?_ ?_
      · refine TStep.d (objs' := [ob1, .box [.int .i64 0], ob2, ob8]) (v := .c (.ptr 3 0)) [] 8 rfl rfl rfl rfl rfl (fun s2 => by refine EOp.eq (e_alloc rfl rfl rfl z54) ?_; rfl) ?_
        refine ⟨rfl, ⟨⟨trivial, .inr rfl⟩, .inr rfl⟩, ?_⟩
        refine TTree.node 3 [5] rfl ?_
        refine AllP.cons ?_ ?_
        · refine TStep.d (objs' := [ob1, .box [.int .i64 0], ob2, ob8, ob2]) (v := av6) [] 23 rfl rfl rfl rfl rfl (fun s2 => by refine EOp.eq (e_makeL (c := (cInt .i64)) (d0 := 0) rfl rfl rfl rfl rfl sl22 z3 rfl rfl rfl g4.1 (Int.le_refl _) g4.2.1 g4.2.2) ?_; rfl) ?_
          refine ⟨rfl, ⟨⟨trivial, .inr rfl⟩, .inr rfl⟩, ?_⟩
          refine TTree.node 5 [] rfl ?_
          refine AllP.cons ?_ ?_
          · refine TStep.d (objs' := [ob1, .box [.int .i64 0], ob2, ob8, ob2, ob4]) (v := av17) [] 25 rfl rfl rfl rfl rfl (fun s2 => by refine EOp.eq (e_makeL (c := cBool) (d0 := false) rfl rfl rfl rfl rfl sl52 z4 rfl rfl rfl g5.1 (Int.le_refl _) g5.2.1 g5.2.2) ?_; rfl) ?_
            refine ⟨rfl, ⟨⟨trivial, .inr rfl⟩, .inr rfl⟩, ?_⟩
            refine TTree.node 8 [] rfl ?_
            refine AllP.cons ?_ ?_
            · refine TStep.d (objs' := [ob1, .box [.int .i64 0], ob2, ob8, ob2, ob4]) (v := av45) [] 28 rfl rfl rfl rfl rfl (fun s2 => by refine EOp.eq (EOp.qd rfl rfl (q_build2 rfl rfl pl54 rfl)) ?_; rfl) ?_
              refine ⟨rfl, ⟨⟨trivial, .inr rfl⟩, .inr rfl⟩, ?_⟩
              refine TTree.node 10 [] rfl ?_
              refine AllP.cons ?_ ?_
              · refine TStep.n (objs' := [ob1, .box [.int .i64 0], ob2, ob46, ob2, ob4]) [] rfl rfl rfl rfl (fun s2 => by refine EOp.eq (e_store_box rfl rfl rfl rfl rfl ty54 rfl rfl rfl rfl) ?_; rfl) ?_
                refine ⟨rfl, ⟨⟨trivial, .inr rfl⟩, .inr rfl⟩, ?_⟩
                exact TTree.leaf rfl (sub_gen [0, 1, 3, 4, 5, 2] rfl rfl ⟨zc rfl rfl, zc rfl rfl, zc rfl rfl, zc rfl rfl, zc rfl rfl, trivial⟩ ⟨⟨_, rfl, ⟨ii rfl rfl, trivial⟩⟩, ⟨_, rfl, ⟨ii rfl rfl, trivial⟩⟩, ⟨_, rfl, ⟨ii rfl rfl, ii rfl rfl, ii rfl rfl, ii rfl rfl, ii rfl rfl, trivial⟩⟩, oa rfl, oa rfl, oa rfl, trivial⟩)
              exact AllP.nil
            exact AllP.nil
          exact AllP.nil
        refine AllP.cons ?_ ?_
        · refine TStep.d (objs' := [ob1, .box [.int .i64 0], ob2, ob8, ob4]) (v := av14) [] 25 rfl rfl rfl rfl rfl (fun s2 => by refine EOp.eq (e_makeL (c := cBool) (d0 := false) rfl rfl rfl rfl rfl sl52 z4 rfl rfl rfl g5.1 (Int.le_refl _) g5.2.1 g5.2.2) ?_; rfl) ?_
          refine ⟨rfl, ⟨⟨trivial, .inr rfl⟩, .inr rfl⟩, ?_⟩
          refine TTree.node 3 [] rfl ?_
          refine AllP.cons ?_ ?_
          · refine TStep.d (objs' := [ob1, .box [.int .i64 0], ob2, ob8, ob4, ob2]) (v := av10) [] 23 rfl rfl rfl rfl rfl (fun s2 => by refine EOp.eq (e_makeL (c := (cInt .i64)) (d0 := 0) rfl rfl rfl rfl rfl sl22 z3 rfl rfl rfl g4.1 (Int.le_refl _) g4.2.1 g4.2.2) ?_; rfl) ?_
            refine ⟨rfl, ⟨⟨trivial, .inr rfl⟩, .inr rfl⟩, ?_⟩
            refine TTree.node 8 [] rfl ?_
            refine AllP.cons ?_ ?_
            · refine TStep.d (objs' := [ob1, .box [.int .i64 0], ob2, ob8, ob4, ob2]) (v := av47) [] 28 rfl rfl rfl rfl rfl (fun s2 => by refine EOp.eq (EOp.qd rfl rfl (q_build2 rfl rfl pl54 rfl)) ?_; rfl) ?_
              refine ⟨rfl, ⟨⟨trivial, .inr rfl⟩, .inr rfl⟩, ?_⟩
              refine TTree.node 10 [] rfl ?_
              refine AllP.cons ?_ ?_
              · refine TStep.n (objs' := [ob1, .box [.int .i64 0], ob2, ob48, ob4, ob2]) [] rfl rfl rfl rfl (fun s2 => by refine EOp.eq (e_store_box rfl rfl rfl rfl rfl ty54 rfl rfl rfl rfl) ?_; rfl) ?_
                refine ⟨rfl, ⟨⟨trivial, .inr rfl⟩, .inr rfl⟩, ?_⟩
                exact TTree.leaf rfl (sub_gen [0, 1, 3, 5, 4, 2] rfl rfl ⟨zc rfl rfl, zc rfl rfl, zc rfl rfl, zc rfl rfl, zc rfl rfl, trivial⟩ ⟨⟨_, rfl, ⟨ii rfl rfl, trivial⟩⟩, ⟨_, rfl, ⟨ii rfl rfl, trivial⟩⟩, ⟨_, rfl, ⟨ii rfl rfl, ii rfl rfl, ii rfl rfl, ii rfl rfl, ii rfl rfl, trivial⟩⟩, oa rfl, oa rfl, oa rfl, trivial⟩)
              exact AllP.nil
            exact AllP.nil
          exact AllP.nil
        exact AllP.nil
      exact AllP.nil
    refine AllP.cons ?_ ?_
    · refine TStep.d (objs' := [ob1, .box [.int .i64 0], ob8]) (v := .c (.ptr 2 0)) [] 8 rfl rfl rfl rfl rfl (fun s2 => by refine EOp.eq (e_alloc rfl rfl rfl z54) ?_; rfl) ?_
      refine ⟨rfl, ⟨⟨trivial, .inr rfl⟩, .inr rfl⟩, ?_⟩
      refine TTree.node 3 [5, 7] rfl ?_
      refine AllP.cons ?_ ?_
      · refine TStep.d (objs' := [ob1, .box [.int .i64 0], ob8, ob2]) (v := av13) [] 23 rfl rfl rfl rfl rfl (fun s2 => by refine EOp.eq (e_makeL (c := (cInt .i64)) (d0 := 0) rfl rfl rfl rfl rfl sl22 z3 rfl rfl rfl g4.1 (Int.le_refl _) g4.2.1 g4.2.2) ?_; rfl) ?_
        refine ⟨rfl, ⟨⟨trivial, .inr rfl⟩, .inr rfl⟩, ?_⟩
        refine TTree.node 5 [7] rfl ?_
        refine AllP.cons ?_ ?_
        · refine TStep.d (objs' := [ob1, .box [.int .i64 0], ob8, ob2, ob4]) (v := av14) [] 25 rfl rfl rfl rfl rfl (fun s2 => by refine EOp.eq (e_makeL (c := cBool) (d0 := false) rfl rfl rfl rfl rfl sl52 z4 rfl rfl rfl g5.1 (Int.le_refl _) g5.2.1 g5.2.2) ?_; rfl) ?_
          refine ⟨rfl, ⟨⟨trivial, .inr rfl⟩, .inr rfl⟩, ?_⟩
          refine TTree.node 7 [] rfl ?_
          refine AllP.cons ?_ ?_
          · refine TStep.d (objs' := [ob1, .box [.int .i64 0], ob8, ob2, ob4, ob2]) (v := av10) [] 27 rfl rfl rfl rfl rfl (fun s2 => by refine EOp.eq (e_makeL (c := (cInt .i64)) (d0 := 0) rfl rfl rfl rfl rfl sl22 z3 rfl rfl rfl g6.1 (Int.le_refl _) g6.2.1 g6.2.2) ?_; rfl) ?_
            refine ⟨rfl, ⟨⟨trivial, .inr rfl⟩, .inr rfl⟩, ?_⟩
            refine TTree.node 8 [] rfl ?_
            refine AllP.cons ?_ ?_
            · refine TStep.d (objs' := [ob1, .box [.int .i64 0], ob8, ob2, ob4, ob2]) (v := av49) [] 28 rfl rfl rfl rfl rfl (fun s2 => by refine EOp.eq (EOp.qd rfl rfl (q_build2 rfl rfl pl54 rfl)) ?_; rfl) ?_
              refine ⟨rfl, ⟨⟨trivial, .inr rfl⟩, .inr rfl⟩, ?_⟩
              refine TTree.node 10 [] rfl ?_
              refine AllP.cons ?_ ?_
              · refine TStep.n (objs' := [ob1, .box [.int .i64 0], ob50, ob2, ob4, ob2]) [] rfl rfl rfl rfl (fun s2 => by refine EOp.eq (e_store_box rfl rfl rfl rfl rfl ty54 rfl rfl rfl rfl) ?_; rfl) ?_
                refine ⟨rfl, ⟨⟨trivial, .inr rfl⟩, .inr rfl⟩, ?_⟩
                exact TTree.leaf rfl (sub_gen [0, 1, 2, 3, 4, 5] rfl rfl ⟨zc rfl rfl, zc rfl rfl, zc rfl rfl, zc rfl rfl, zc rfl rfl, trivial⟩ ⟨⟨_, rfl, ⟨ii rfl rfl, trivial⟩⟩, ⟨_, rfl, ⟨ii rfl rfl, trivial⟩⟩, ⟨_, rfl, ⟨ii rfl rfl, ii rfl rfl, ii rfl rfl, ii rfl rfl, ii rfl rfl, trivial⟩⟩, oa rfl, oa rfl, oa rfl, trivial⟩)
              exact AllP.nil
            exact AllP.nil
          exact AllP.nil
        refine AllP.cons ?_ ?_
        · refine TStep.d (objs' := [ob1, .box [.int .i64 0], ob8, ob2, ob2]) (v := av6) [] 27 rfl rfl rfl rfl rfl (fun s2 => by refine EOp.eq (e_makeL (c := (cInt .i64)) (d0 := 0) rfl rfl rfl rfl rfl sl22 z3 rfl rfl rfl g6.1 (Int.le_refl _) g6.2.1 g6.2.2) ?_; rfl) ?_
          refine ⟨rfl, ⟨⟨trivial, .inr rfl⟩, .inr rfl⟩, ?_⟩
          refine TTree.node 5 [] rfl ?_
          refine AllP.cons ?_ ?_
          · refine TStep.d (objs' := [ob1, .box [.int .i64 0], ob8, ob2, ob2, ob4]) (v := av17) [] 25 rfl rfl rfl rfl rfl (fun s2 => by refine EOp.eq (e_makeL (c := cBool) (d0 := false) rfl rfl rfl rfl rfl sl52 z4 rfl rfl rfl g5.1 (Int.le_refl _) g5.2.1 g5.2.2) ?_; rfl) ?_
            refine ⟨rfl, ⟨⟨trivial, .inr rfl⟩, .inr rfl⟩, ?_⟩
            refine TTree.node 8 [] rfl ?_
            refine AllP.cons ?_ ?_
            · refine TStep.d (objs' := [ob1, .box [.int .i64 0], ob8, ob2, ob2, ob4]) (v := av51) [] 28 rfl rfl rfl rfl rfl (fun s2 => by refine EOp.eq (EOp.qd rfl rfl (q_build2 rfl rfl pl54 rfl)) ?_; rfl) ?_
              refine ⟨rfl, ⟨⟨trivial, .inr rfl⟩, .inr rfl⟩, ?_⟩
              refine TTree.node 10 [] rfl ?_
              refine AllP.cons ?_ ?_
              · refine TStep.n (objs' := [ob1, .box [.int .i64 0], ob52, ob2, ob2, ob4]) [] rfl rfl rfl rfl (fun s2 => by refine EOp.eq (e_store_box rfl rfl rfl rfl rfl ty54 rfl rfl rfl rfl) ?_; rfl) ?_
                refine ⟨rfl, ⟨⟨trivial, .inr rfl⟩, .inr rfl⟩, ?_⟩
                exact TTree.leaf rfl (sub_gen [0, 1, 2, 3, 5, 4] rfl rfl ⟨zc rfl rfl, zc rfl rfl, zc rfl rfl, zc rfl rfl, zc rfl rfl, trivial⟩ ⟨⟨_, rfl, ⟨ii rfl rfl, trivial⟩⟩, ⟨_, rfl, ⟨ii rfl rfl, trivial⟩⟩, ⟨_, rfl, ⟨ii rfl rfl, ii rfl rfl, ii rfl rfl, ii rfl rfl, ii rfl rfl, trivial⟩⟩, oa rfl, oa rfl, oa rfl, trivial⟩)
              exact AllP.nil
            exact AllP.nil
          exact AllP.nil
        exact AllP.nil
      refine AllP.cons ?_ ?_
      · refine TStep.d (objs' := [ob1, .box [.int .i64 0], ob8, ob4]) (v := av5) [] 25 rfl rfl rfl rfl rfl (fun s2 => by refine EOp.eq (e_makeL (c := cBool) (d0 := false) rfl rfl rfl rfl rfl sl52 z4 rfl rfl rfl g5.1 (Int.le_refl _) g5.2.1 g5.2.2) ?_; rfl) ?_
        refine ⟨rfl, ⟨⟨trivial, .inr rfl⟩, .inr rfl⟩, ?_⟩
        refine TTree.node 3 [7] rfl ?_
        refine AllP.cons ?_ ?_
        · refine TStep.d (objs' := [ob1, .box [.int .i64 0], ob8, ob4, ob2]) (v := av6) [] 23 rfl rfl rfl rfl rfl (fun s2 => by refine EOp.eq (e_makeL (c := (cInt .i64)) (d0 := 0) rfl rfl rfl rfl rfl sl22 z3 rfl rfl rfl g4.1 (Int.le_refl _) g4.2.1 g4.2.2) ?_; rfl) ?_
          refine ⟨rfl, ⟨⟨trivial, .inr rfl⟩, .inr rfl⟩, ?_⟩
          refine TTree.node 7 [] rfl ?_
          refine AllP.cons ?_ ?_
          · refine TStep.d (objs' := [ob1, .box [.int .i64 0], ob8, ob4, ob2, ob2]) (v := av10) [] 27 rfl rfl rfl rfl rfl (fun s2 => by refine EOp.eq (e_makeL (c := (cInt .i64)) (d0 := 0) rfl rfl rfl rfl rfl sl22 z3 rfl rfl rfl g6.1 (Int.le_refl _) g6.2.1 g6.2.2) ?_; rfl) ?_
            refine ⟨rfl, ⟨⟨trivial, .inr rfl⟩, .inr rfl⟩, ?_⟩
            refine TTree.node 8 [] rfl ?_
            refine AllP.cons ?_ ?_
            · refine TStep.d (objs' := [ob1, .box [.int .i64 0], ob8, ob4, ob2, ob2]) (v := av53) [] 28 rfl rfl rfl rfl rfl (fun s2 => by refine EOp.eq (EOp.qd rfl rfl (q_build2 rfl rfl pl54 rfl)) ?_; rfl) ?_
              refine ⟨rfl, ⟨⟨trivial, .inr rfl⟩, .inr rfl⟩, ?_⟩
              refine TTree.node 10 [] rfl ?_
              refine AllP.cons ?_ ?_
              · refine TStep.n (objs' := [ob1, .box [.int .i64 0], ob54, ob4, ob2, ob2]) [] rfl rfl rfl rfl (fun s2 => by refine EOp.eq (e_store_box rfl rfl rfl rfl rfl ty54 rfl rfl rfl rfl) ?_; rfl) ?_
                refine ⟨rfl, ⟨⟨trivial, .inr rfl⟩, .inr rfl⟩, ?_⟩
                exact TTree.leaf rfl (sub_gen [0, 1, 2, 4, 3, 5] rfl rfl ⟨zc rfl rfl, zc rfl rfl, zc rfl rfl, zc rfl rfl, zc rfl rfl, trivial⟩ ⟨⟨_, rfl, ⟨ii rfl rfl, trivial⟩⟩, ⟨_, rfl, ⟨ii rfl rfl, trivial⟩⟩, ⟨_, rfl, ⟨ii rfl rfl, ii rfl rfl, ii rfl rfl, ii rfl rfl, ii rfl rfl, trivial⟩⟩, oa rfl, oa rfl, oa rfl, trivial⟩)
              exact AllP.nil
            exact AllP.nil
          exact AllP.nil
        refine AllP.cons ?_ ?_
        · refine TStep.d (objs' := [ob1, .box [.int .i64 0], ob8, ob4, ob2]) (v := av6) [] 27 rfl rfl rfl rfl rfl (fun s2 => by refine EOp.eq (e_makeL (c := (cInt .i64)) (d0 := 0) rfl rfl rfl rfl rfl sl22 z3 rfl rfl rfl g6.1 (Int.le_refl _) g6.2.1 g6.2.2) ?_; rfl) ?_
          refine ⟨rfl, ⟨⟨trivial, .inr rfl⟩, .inr rfl⟩, ?_⟩
          refine TTree.node 3 [] rfl ?_
          refine AllP.cons ?_ ?_
          · refine TStep.d (objs' := [ob1, .box [.int .i64 0], ob8, ob4, ob2, ob2]) (v := av10) [] 23 rfl rfl rfl rfl rfl (fun s2 => by refine EOp.eq (e_makeL (c := (cInt .i64)) (d0 := 0) rfl rfl rfl rfl rfl sl22 z3 rfl rfl rfl g4.1 (Int.le_refl _) g4.2.1 g4.2.2) ?_; rfl) ?_
            refine ⟨rfl, ⟨⟨trivial, .inr rfl⟩, .inr rfl⟩, ?_⟩
            refine TTree.node 8 [] rfl ?_
            refine AllP.cons ?_ ?_
            · refine TStep.d (objs' := [ob1, .box [.int .i64 0], ob8, ob4, ob2, ob2]) (v := av55) [] 28 rfl rfl rfl rfl rfl (fun s2 => by refine EOp.eq (EOp.qd rfl rfl (q_build2 rfl rfl pl54 rfl)) ?_; rfl) ?_
              refine ⟨rfl, ⟨⟨trivial, .inr rfl⟩, .inr rfl⟩, ?_⟩
              refine TTree.node 10 [] rfl ?_
              refine AllP.cons ?_ ?_
              · refine TStep.n (objs' := [ob1, .box [.int .i64 0], ob56, ob4, ob2, ob2]) [] rfl rfl rfl rfl (fun s2 => by refine EOp.eq (e_store_box rfl rfl rfl rfl rfl ty54 rfl rfl rfl rfl) ?_; rfl) ?_
                refine ⟨rfl, ⟨⟨trivial, .inr rfl⟩, .inr rfl⟩, ?_⟩
                exact TTree.leaf rfl (sub_gen [0, 1, 2, 5, 3, 4] rfl rfl ⟨zc rfl rfl, zc rfl rfl, zc rfl rfl, zc rfl rfl, zc rfl rfl, trivial⟩ ⟨⟨_, rfl, ⟨ii rfl rfl, trivial⟩⟩, ⟨_, rfl, ⟨ii rfl rfl, trivial⟩⟩, ⟨_, rfl, ⟨ii rfl rfl, ii rfl rfl, ii rfl rfl, ii rfl rfl, ii rfl rfl, trivial⟩⟩, oa rfl, oa rfl, oa rfl, trivial⟩)
              exact AllP.nil
            exact AllP.nil
          exact AllP.nil
        exact AllP.nil
      refine AllP.cons ?_ ?_
      · refine TStep.d (objs' := [ob1, .box [.int .i64 0], ob8, ob2]) (v := av13) [] 27 rfl rfl rfl rfl rfl (fun s2 => by refine EOp.eq (e_makeL (c := (cInt .i64)) (d0 := 0) rfl rfl rfl rfl rfl sl22 z3 rfl rfl rfl g6.1 (Int.le_refl _) g6.2.1 g6.2.2) ?_; rfl) ?_
        refine ⟨rfl, ⟨⟨trivial, .inr rfl⟩, .inr rfl⟩, ?_⟩
        refine TTree.node 3 [5] rfl ?_
        refine AllP.cons ?_ ?_
        · refine TStep.d (objs' := [ob1, .box [.int .i64 0], ob8, ob2, ob2]) (v := av6) [] 23 rfl rfl rfl rfl rfl (fun s2 => by refine EOp.eq (e_makeL (c := (cInt .i64)) (d0 := 0) rfl rfl rfl rfl rfl sl22 z3 rfl rfl rfl g4.1 (Int.le_refl _) g4.2.1 g4.2.2) ?_; rfl) ?_
          refine ⟨rfl, ⟨⟨trivial, .inr rfl⟩, .inr rfl⟩, ?_⟩
          refine TTree.node 5 [] rfl ?_
          refine AllP.cons ?_ ?_
          · refine TStep.d (objs' := [ob1, .box [.int .i64 0], ob8, ob2, ob2, ob4]) (v := av17) [] 25 rfl rfl rfl rfl rfl (fun s2 => by refine EOp.eq (e_makeL (c := cBool) (d0 := false) rfl rfl rfl rfl rfl sl52 z4 rfl rfl rfl g5.1 (Int.le_refl _) g5.2.1 g5.2.2) ?_; rfl) ?_
            refine ⟨rfl, ⟨⟨trivial, .inr rfl⟩, .inr rfl⟩, ?_⟩
            refine TTree.node 8 [] rfl ?_
            refine AllP.cons ?_ ?_
            · refine TStep.d (objs' := [ob1, .box [.int .i64 0], ob8, ob2, ob2, ob4]) (v := av57) [] 28 rfl rfl rfl rfl rfl (fun s2 => by refine EOp.eq (EOp.qd rfl rfl (q_build2 rfl rfl pl54 rfl)) ?_; rfl) ?_
              refine ⟨rfl, ⟨⟨trivial, .inr rfl⟩, .inr rfl⟩, ?_⟩
              refine TTree.node 10 [] rfl ?_
              refine AllP.cons ?_ ?_
              · refine TStep.n (objs' := [ob1, .box [.int .i64 0], ob58, ob2, ob2, ob4]) [] rfl rfl rfl rfl (fun s2 => by refine EOp.eq (e_store_box rfl rfl rfl rfl rfl ty54 rfl rfl rfl rfl) ?_; rfl) ?_
                refine ⟨rfl, ⟨⟨trivial, .inr rfl⟩, .inr rfl⟩, ?_⟩
                exact TTree.leaf rfl (sub_gen [0, 1, 2, 4, 5, 3] rfl rfl ⟨zc rfl rfl, zc rfl rfl, zc rfl rfl, zc rfl rfl, zc rfl rfl, trivial⟩ ⟨⟨_, rfl, ⟨ii rfl rfl, trivial⟩⟩, ⟨_, rfl, ⟨ii rfl rfl, trivial⟩⟩, ⟨_, rfl, ⟨ii rfl rfl, ii rfl rfl, ii rfl rfl, ii rfl rfl, ii rfl rfl, trivial⟩⟩, oa rfl, oa rfl, oa rfl, trivial⟩)
              exact AllP.nil
            exact AllP.nil
          exact AllP.nil
        refine AllP.cons ?_ ?_
        · refine TStep.d (objs' := [ob1, .box [.int .i64 0], ob8, ob2, ob4]) (v := av14) [] 25 rfl rfl rfl rfl rfl (fun s2 => by refine EOp.eq (e_makeL (c := cBool) (d0 := false) rfl rfl rfl rfl rfl sl52 z4 rfl rfl rfl g5.1 (Int.le_refl _) g5.2.1 g5.2.2) ?_; rfl) ?_
          refine ⟨rfl, ⟨⟨trivial, .inr rfl⟩, .inr rfl⟩, ?_⟩
          refine TTree.node 3 [] rfl ?_
          refine AllP.cons ?_ ?_
          · refine TStep.d (objs' := [ob1, .box [.int .i64 0], ob8, ob2, ob4, ob2]) (v := av10) [] 23 rfl rfl rfl rfl rfl (fun s2 => by refine EOp.eq (e_makeL (c := (cInt .i64)) (d0 := 0) rfl rfl rfl rfl rfl sl22 z3 rfl rfl rfl g4.1 (Int.le_refl _) g4.2.1 g4.2.2) ?_; rfl) ?_
            refine ⟨rfl, ⟨⟨trivial, .inr rfl⟩, .inr rfl⟩, ?_⟩
            refine TTree.node 8 [] rfl ?_
            refine AllP.cons ?_ ?_
            · refine TStep.d (objs' := [ob1, .box [.int .i64 0], ob8, ob2, ob4, ob2]) (v := av59) [] 28 rfl rfl rfl rfl rfl (fun s2 => by refine EOp.eq (EOp.qd rfl rfl (q_build2 rfl rfl pl54 rfl)) ?_; rfl) ?_
              refine ⟨rfl, ⟨⟨trivial, .inr rfl⟩, .inr rfl⟩, ?_⟩
              refine TTree.node 10 [] rfl ?_
              refine AllP.cons ?_ ?_
              · refine TStep.n (objs' := [ob1, .box [.int .i64 0], ob60, ob2, ob4, ob2]) [] rfl rfl rfl rfl (fun s2 => by refine EOp.eq (e_store_box rfl rfl rfl rfl rfl ty54 rfl rfl rfl rfl) ?_; rfl) ?_
                refine ⟨rfl, ⟨⟨trivial, .inr rfl⟩, .inr rfl⟩, ?_⟩
                exact TTree.leaf rfl (sub_gen [0, 1, 2, 5, 4, 3] rfl rfl ⟨zc rfl rfl, zc rfl rfl, zc rfl rfl, zc rfl rfl, zc rfl rfl, trivial⟩ ⟨⟨_, rfl, ⟨ii rfl rfl, trivial⟩⟩, ⟨_, rfl, ⟨ii rfl rfl, trivial⟩⟩, ⟨_, rfl, ⟨ii rfl rfl, ii rfl rfl, ii rfl rfl, ii rfl rfl, ii rfl rfl, trivial⟩⟩, oa rfl, oa rfl, oa rfl, trivial⟩)
              exact AllP.nil
            exact AllP.nil
          exact AllP.nil
        exact AllP.nil
      exact AllP.nil
    exact AllP.nil
  refine SCode.seq ?_
  refine SCode.seq ?_
  obtain ⟨c_7, g8, h⟩ := bind_out h
  try dsimp only at h
  refine SCode.region (show SOps _ _ _ [0, 1, 2, 3, 4] _ _ from ?_)
  refine SOps.q rfl (.plain rfl) rfl (q_move rfl rfl) ?_
  refine SOps.q rfl (.plain rfl) rfl (q_field_ptr rfl rfl fd54_4) ?_
  refine SOps.q rfl (.plain rfl) rfl (q_load_ptr rfl rfl rfl rfl ty22) ?_
  refine SOps.q rfl (.plain rfl) rfl (q_callv (cs := [.eptr 1 ((cInt .i64) a1f0) 0]) (chargenetlaw10_sum_1_ok F (List.replicate (((a0_caps).length : Int)).toNat (0 : Int)) a1f0 c_7 g8) [5] rfl rfl fn34 ⟨⟨_, rfl, .inr (.inl ⟨_, _, _, _, _, _, _, rfl, rfl, rfl, Nat.le_refl _, fun _ _ _ _ => rfl, (.head _)⟩)⟩, ⟨_, rfl, .inl ⟨rfl, rfl⟩⟩, trivial⟩ (.inr rfl)) ?_
  refine SOps.q rfl (.plain rfl) rfl (q_not rfl rfl) ?_
  refine SOps.sub (st' := ⟨[(4, .c (.ptr 0 0)), (5, .c (.ptr 1 0)), (7, .c (.int .i64 (((a0_caps).length : Int)))), (8, .c (.ptr 2 0)), (33, .c (.bool ((!c_7))))], [.box [.raw (.slice none 0 0)], .box [.int .i64 0], .box [vI a0_caps, .fn 34 1 (cellsG [.eptr 1 ((cInt .i64) a1f0) 0]), .own 3 (List.replicate (((a0_caps).length : Int)).toNat (0 : Int)).length, .own 4 (List.replicate (((a0_caps).length : Int)).toNat (false : Bool)).length, .own 5 (List.replicate (((a0_caps).length : Int)).toNat (0 : Int)).length], aI 3 (List.replicate (((a0_caps).length : Int)).toNat (0 : Int)), aB 4 (List.replicate (((a0_caps).length : Int)).toNat (false : Bool)), aI 3 (List.replicate (((a0_caps).length : Int)).toNat (0 : Int))]⟩) (sub_gen [0, 1, 2, 3, 4, 5] rfl rfl ⟨zc rfl rfl, zc rfl rfl, zc rfl rfl, zc rfl rfl, zc rfl rfl, trivial⟩ ⟨⟨_, rfl, ⟨ii rfl rfl, trivial⟩⟩, ⟨_, rfl, ⟨ii rfl rfl, trivial⟩⟩, ⟨_, rfl, ⟨ii rfl rfl, ii rfl rfl, ii rfl rfl, ii rfl rfl, ii rfl rfl, trivial⟩⟩, oa rfl, oa rfl, oa rfl, trivial⟩) ?_
  refine SOps.nil ?_
  rcases cond_out h with ⟨g9, h⟩ | ⟨g9, h⟩
  · refine SCode.cond_t rfl g9 ?_
    refine SCode.seq ?_
    refine SCode.region (show SOps _ _ _ [0, 1, 2, 3] _ _ from ?_)
    refine SOps.q rfl (.plain rfl) rfl (q_field_ptr rfl rfl fd54_2) ?_
    refine SOps.q rfl (.plain rfl) rfl (q_load_ptr rfl rfl rfl rfl ty22) ?_
    refine SOps.e rfl (.plain rfl) (e_store_box rfl rfl rfl rfl rfl ty22 rfl rfl rfl rfl) ?_
    refine SOps.e rfl (.plain rfl) (e_store_box rfl rfl rfl rfl rfl ty24 rfl rfl rfl rfl) ?_
    refine SOps.sub (st' := ⟨[(4, .c (.ptr 0 0)), (5, .c (.ptr 2 0))], [.box [.own 1 (List.replicate (((a0_caps).length : Int)).toNat (0 : Int)).length], aI 3 (List.replicate (((a0_caps).length : Int)).toNat (0 : Int)), .box [.int .i64 0]]⟩) (sub_gen [0, 3, 1] rfl rfl ⟨zc rfl rfl, zc rfl rfl, trivial⟩ ⟨⟨_, rfl, ⟨ii rfl rfl, trivial⟩⟩, oa rfl, ⟨_, rfl, ⟨ii rfl rfl, trivial⟩⟩, trivial⟩) ?_
    refine SOps.nil ?_
    refine SCode.ret ?_
    obtain rfl := Option.some.inj h
    exact ⟨⟨[(4, .c (.ptr 0 0)), (5, .c (.ptr 1 0))], [.box [vI (List.replicate (((a0_caps).length : Int)).toNat (0 : Int))], .box [.int .i64 0]]⟩, _, sub_gen [0, 2] rfl rfl ⟨zc rfl rfl, zc rfl rfl, trivial⟩ ⟨⟨_, rfl, ⟨.inr (.inl ⟨_, _, _, _, _, _, _, rfl, rfl, rfl, Nat.le_refl _, fun _ _ _ _ => rfl, by decide⟩), trivial⟩⟩, ⟨_, rfl, ⟨ii rfl rfl, trivial⟩⟩, trivial⟩, resA2 (v1 := .c (vI (List.replicate (((a0_caps).length : Int)).toNat (0 : Int)))) (v2 := .c (.int .i64 0)) rfl ⟨_, rfl, rfl, ty22⟩ ⟨_, rfl, rfl, ty24⟩, rfl⟩
  refine SCode.cond_f rfl g9 ?_
  refine SCode.skip ?_
  refine SCode.join (σ := (List Bool)) (S := fun s => ⟨[(4, .c (.ptr 0 0)), (5, .c (.ptr 1 0)), (7, .c (.int .i64 (((a0_caps).length : Int)))), (8, .c (.ptr 2 0))], [.box [.raw (.slice none 0 0)], .box [.int .i64 0], .box [vI a0_caps, .fn 34 1 (cellsG [.eptr 1 ((cInt .i64) a1f0) 0]), .own 3 (List.replicate (((a0_caps).length : Int)).toNat (0 : Int)).length, .own 4 s.length, .own 5 (List.replicate (((a0_caps).length : Int)).toNat (0 : Int)).length], aI 3 (List.replicate (((a0_caps).length : Int)).toNat (0 : Int)), aB 4 s, aI 3 (List.replicate (((a0_caps).length : Int)).toNat (0 : Int))]⟩) (g := fun s => fair_Fill_f1_34_p38 F a0_caps a1f0 s = some r) ?_ ?_
  rotate_left
  · refine SCode.seq ?_
    refine SCode.region (show SOps _ _ _ [0, 1, 2, 3] _ _ from ?_)
    refine SOps.q rfl (.plain rfl) rfl (q_field_ptr rfl rfl fd54_3) ?_
    refine SOps.q rfl (.plain rfl) rfl (q_load_ptr rfl rfl rfl rfl ty52) ?_
    refine SOps.q rfl (.plain rfl) rfl (q_len_own rfl rfl sl52) ?_
    refine SOps.q rfl (.plain rfl) rfl (q_move rfl rfl) ?_
    refine SOps.sub (st' := ⟨[(4, .c (.ptr 0 0)), (5, .c (.ptr 1 0)), (7, .c (.int .i64 (((a0_caps).length : Int)))), (8, .c (.ptr 2 0)), (38, .c (.int .i64 (((List.replicate (((a0_caps).length : Int)).toNat (false : Bool)).length : Int)))), (39, .c (.int .i64 0))], [.box [.raw (.slice none 0 0)], .box [.int .i64 0], .box [vI a0_caps, .fn 34 1 (cellsG [.eptr 1 ((cInt .i64) a1f0) 0]), .own 3 (List.replicate (((a0_caps).length : Int)).toNat (0 : Int)).length, .own 4 (List.replicate (((a0_caps).length : Int)).toNat (false : Bool)).length, .own 5 (List.replicate (((a0_caps).length : Int)).toNat (0 : Int)).length], aI 3 (List.replicate (((a0_caps).length : Int)).toNat (0 : Int)), aB 4 (List.replicate (((a0_caps).length : Int)).toNat (false : Bool)), aI 3 (List.replicate (((a0_caps).length : Int)).toNat (0 : Int))]⟩) (sub_gen [0, 1, 2, 3, 4, 5] rfl rfl ⟨zc rfl rfl, zc rfl rfl, zc rfl rfl, zc rfl rfl, zc rfl rfl, zc rfl rfl, trivial⟩ ⟨⟨_, rfl, ⟨ii rfl rfl, trivial⟩⟩, ⟨_, rfl, ⟨ii rfl rfl, trivial⟩⟩, ⟨_, rfl, ⟨ii rfl rfl, ii rfl rfl, ii rfl rfl, ii rfl rfl, ii rfl rfl, trivial⟩⟩, oa rfl, oa rfl, oa rfl, trivial⟩) ?_
    refine SOps.nil ?_
    refine SCode.block ?_
    refine SCode.sub (st' := ⟨[(4, .c (.ptr 0 0)), (5, .c (.ptr 1 0)), (7, .c (.int .i64 (((a0_caps).length : Int)))), (8, .c (.ptr 2 0)), (38, .c (.int .i64 (((List.replicate (((a0_caps).length : Int)).toNat (false : Bool)).length : Int)))), (39, .c (.int .i64 0))], [.box [.raw (.slice none 0 0)], .box [.int .i64 0], .box [vI a0_caps, .fn 34 1 (cellsG [.eptr 1 ((cInt .i64) a1f0) 0]), .own 3 (List.replicate (((a0_caps).length : Int)).toNat (0 : Int)).length, .own 4 (List.replicate (((a0_caps).length : Int)).toNat (false : Bool)).length, .own 5 (List.replicate (((a0_caps).length : Int)).toNat (0 : Int)).length], aI 3 (List.replicate (((a0_caps).length : Int)).toNat (0 : Int)), aB 4 (List.replicate (((a0_caps).length : Int)).toNat (false : Bool)), aI 3 (List.replicate (((a0_caps).length : Int)).toNat (0 : Int))]⟩) (sub_gen [0, 1, 2, 3, 4, 5] rfl rfl ⟨zc rfl rfl, zc rfl rfl, zc rfl rfl, zc rfl rfl, zc rfl rfl, zc rfl rfl, trivial⟩ ⟨⟨_, rfl, ⟨ii rfl rfl, trivial⟩⟩, ⟨_, rfl, ⟨ii rfl rfl, trivial⟩⟩, ⟨_, rfl, ⟨ii rfl rfl, ii rfl rfl, ii rfl rfl, ii rfl rfl, ii rfl rfl, trivial⟩⟩, oa rfl, oa rfl, oa rfl, trivial⟩) ?_
    refine (SCode.loop (σ := Nat × (Int × (List Bool))) (S := fun s => ⟨[(4, .c (.ptr 0 0)), (5, .c (.ptr 1 0)), (7, .c (.int .i64 (((a0_caps).length : Int)))), (8, .c (.ptr 2 0)), (38, .c (.int .i64 (((List.replicate (((a0_caps).length : Int)).toNat (false : Bool)).length : Int)))), (39, .c (.int .i64 s.2.1))], [.box [.raw (.slice none 0 0)], .box [.int .i64 0], .box [vI a0_caps, .fn 34 1 (cellsG [.eptr 1 ((cInt .i64) a1f0) 0]), .own 3 (List.replicate (((a0_caps).length : Int)).toNat (0 : Int)).length, .own 4 s.2.2.length, .own 5 (List.replicate (((a0_caps).length : Int)).toNat (0 : Int)).length], aI 3 (List.replicate (((a0_caps).length : Int)).toNat (0 : Int)), aB 4 s.2.2, aI 3 (List.replicate (((a0_caps).length : Int)).toNat (0 : Int))]⟩) (g := fun s => fair_Fill_f1_34_l45 F a0_caps a1f0 s.1 s.2.1 s.2.2 = some r) (μ := fun s => s.1) (F, (0, List.replicate (((a0_caps).length : Int)).toNat (false : Bool))) h ?_)
    rintro ⟨n_45, ⟨t39_41, o4_42⟩⟩ h
    replace h : fair_Fill_f1_34_l45 F a0_caps a1f0 n_45 t39_41 o4_42 = some r := h
    show SCode _ _ _ ⟨[(4, .c (.ptr 0 0)), (5, .c (.ptr 1 0)), (7, .c (.int .i64 (((a0_caps).length : Int)))), (8, .c (.ptr 2 0)), (38, .c (.int .i64 (((List.replicate (((a0_caps).length : Int)).toNat (false : Bool)).length : Int)))), (39, .c (.int .i64 t39_41))], [.box [.raw (.slice none 0 0)], .box [.int .i64 0], .box [vI a0_caps, .fn 34 1 (cellsG [.eptr 1 ((cInt .i64) a1f0) 0]), .own 3 (List.replicate (((a0_caps).length : Int)).toNat (0 : Int)).length, .own 4 o4_42.length, .own 5 (List.replicate (((a0_caps).length : Int)).toNat (0 : Int)).length], aI 3 (List.replicate (((a0_caps).length : Int)).toNat (0 : Int)), aB 4 o4_42, aI 3 (List.replicate (((a0_caps).length : Int)).toNat (0 : Int))]⟩ _
    cases n_45 with
    | zero => cases h
    | succ n_45 =>
      replace h : fair_Fill_f1_34_b45 F a0_caps a1f0 (fun t39_41 o4_42 => fair_Fill_f1_34_l45 F a0_caps a1f0 n_45 t39_41 o4_42) t39_41 o4_42 = some r := h
      unfold fair_Fill_f1_34_b45 at h
      refine SCode.seq ?_
      refine SCode.region (show SOps _ _ _ [0] _ _ from ?_)
      refine SOps.q rfl (.plain rfl) rfl (q_lss rfl rfl rfl) ?_
      refine SOps.sub (st' := ⟨[(4, .c (.ptr 0 0)), (5, .c (.ptr 1 0)), (7, .c (.int .i64 (((a0_caps).length : Int)))), (8, .c (.ptr 2 0)), (38, .c (.int .i64 (((List.replicate (((a0_caps).length : Int)).toNat (false : Bool)).length : Int)))), (39, .c (.int .i64 t39_41)), (40, .c (.bool (decide (t39_41 < ((List.replicate (((a0_caps).length : Int)).toNat (false : Bool)).length : Int)))))], [.box [.raw (.slice none 0 0)], .box [.int .i64 0], .box [vI a0_caps, .fn 34 1 (cellsG [.eptr 1 ((cInt .i64) a1f0) 0]), .own 3 (List.replicate (((a0_caps).length : Int)).toNat (0 : Int)).length, .own 4 o4_42.length, .own 5 (List.replicate (((a0_caps).length : Int)).toNat (0 : Int)).length], aI 3 (List.replicate (((a0_caps).length : Int)).toNat (0 : Int)), aB 4 o4_42, aI 3 (List.replicate (((a0_caps).length : Int)).toNat (0 : Int))]⟩) (sub_gen [0, 1, 2, 3, 4, 5] rfl rfl ⟨zc rfl rfl, zc rfl rfl, zc rfl rfl, zc rfl rfl, zc rfl rfl, zc rfl rfl, zc rfl rfl, trivial⟩ ⟨⟨_, rfl, ⟨ii rfl rfl, trivial⟩⟩, ⟨_, rfl, ⟨ii rfl rfl, trivial⟩⟩, ⟨_, rfl, ⟨ii rfl rfl, ii rfl rfl, ii rfl rfl, ii rfl rfl, ii rfl rfl, trivial⟩⟩, oa rfl, oa rfl, oa rfl, trivial⟩) ?_
      refine SOps.nil ?_
      refine SCode.seq ?_
      rcases cond_out h with ⟨g46, h⟩ | ⟨g46, h⟩
      · refine SCode.cond_t rfl g46 ?_
        refine SCode.skip ?_
        refine SCode.seq ?_
        refine SCode.block ?_
        refine SCode.seq ?_
        refine SCode.region (show SOps _ _ _ [0, 1] _ _ from ?_)
        refine SOps.q rfl (.plain rfl) rfl (q_move rfl rfl) ?_
        refine SOps.q rfl (.plain rfl) rfl (q_assign rfl rfl) ?_
        refine SOps.sub (st' := ⟨[(4, .c (.ptr 0 0)), (5, .c (.ptr 1 0)), (7, .c (.int .i64 (((a0_caps).length : Int)))), (8, .c (.ptr 2 0)), (9, .c (.int .i64 t39_41)), (38, .c (.int .i64 (((List.replicate (((a0_caps).length : Int)).toNat (false : Bool)).length : Int)))), (39, .c (.int .i64 t39_41))], [.box [.raw (.slice none 0 0)], .box [.int .i64 0], .box [vI a0_caps, .fn 34 1 (cellsG [.eptr 1 ((cInt .i64) a1f0) 0]), .own 3 (List.replicate (((a0_caps).length : Int)).toNat (0 : Int)).length, .own 4 o4_42.length, .own 5 (List.replicate (((a0_caps).length : Int)).toNat (0 : Int)).length], aI 3 (List.replicate (((a0_caps).length : Int)).toNat (0 : Int)), aB 4 o4_42, aI 3 (List.replicate (((a0_caps).length : Int)).toNat (0 : Int))]⟩) (sub_gen [0, 1, 2, 3, 4, 5] rfl rfl ⟨zc rfl rfl, zc rfl rfl, zc rfl rfl, zc rfl rfl, zc rfl rfl, zc rfl rfl, zc rfl rfl, trivial⟩ ⟨⟨_, rfl, ⟨ii rfl rfl, trivial⟩⟩, ⟨_, rfl, ⟨ii rfl rfl, trivial⟩⟩, ⟨_, rfl, ⟨ii rfl rfl, ii rfl rfl, ii rfl rfl, ii rfl rfl, ii rfl rfl, trivial⟩⟩, oa rfl, oa rfl, oa rfl, trivial⟩) ?_
        refine SOps.nil ?_
        obtain ⟨g47, h⟩ := guard_out h
        refine SCode.region (show SOps _ _ _ [0, 1, 2, 3, 4] _ _ from ?_)
        refine SOps.q rfl (.plain rfl) rfl (q_field_ptr rfl rfl fd54_3) ?_
        refine SOps.q rfl (.plain rfl) rfl (q_load_ptr rfl rfl rfl rfl ty52) ?_
        refine SOps.q rfl (.plain rfl) rfl (q_move rfl rfl) ?_
        refine SOps.q rfl (.plain rfl) rfl (q_index_own rfl rfl rfl sl52 g47.1 g47.2) ?_
        refine SOps.e rfl (.plain rfl) (e_storeL true rfl rfl rfl rfl rfl (toNat_lt g47) ty4 rfl rfl rfl rfl rfl rfl) ?_
        refine SOps.sub (st' := ⟨[(4, .c (.ptr 0 0)), (5, .c (.ptr 1 0)), (7, .c (.int .i64 (((a0_caps).length : Int)))), (8, .c (.ptr 2 0)), (38, .c (.int .i64 (((List.replicate (((a0_caps).length : Int)).toNat (false : Bool)).length : Int)))), (39, .c (.int .i64 t39_41))], [.box [.raw (.slice none 0 0)], .box [.int .i64 0], .box [vI a0_caps, .fn 34 1 (cellsG [.eptr 1 ((cInt .i64) a1f0) 0]), .own 3 (List.replicate (((a0_caps).length : Int)).toNat (0 : Int)).length, .own 4 (o4_42.set t39_41.toNat true).length, .own 5 (List.replicate (((a0_caps).length : Int)).toNat (0 : Int)).length], aI 3 (List.replicate (((a0_caps).length : Int)).toNat (0 : Int)), aB 4 (o4_42.set t39_41.toNat true), aI 3 (List.replicate (((a0_caps).length : Int)).toNat (0 : Int))]⟩) (sub_gen [0, 1, 2, 3, 4, 5] rfl rfl ⟨zc rfl rfl, zc rfl rfl, zc rfl rfl, zc rfl rfl, zc rfl rfl, zc rfl rfl, trivial⟩ ⟨⟨_, rfl, ⟨ii rfl rfl, trivial⟩⟩, ⟨_, rfl, ⟨ii rfl rfl, trivial⟩⟩, ⟨_, rfl, ⟨ii rfl rfl, ii rfl rfl, ii rfl rfl, .inl ⟨rfl, congrArg (Cell.own 4) (List.length_set : (o4_42.set t39_41.toNat true).length = o4_42.length).symm⟩, ii rfl rfl, trivial⟩⟩, oa rfl, oa rfl, oa rfl, trivial⟩) ?_
        refine SOps.nil ?_
        refine SCode.region (show SOps _ _ _ [0, 1] _ _ from ?_)
        refine SOps.q rfl (.plain rfl) rfl (q_add rfl rfl rfl) ?_
        refine SOps.q rfl (.plain rfl) rfl (q_move rfl rfl) ?_
        refine SOps.sub (st' := ⟨[(4, .c (.ptr 0 0)), (5, .c (.ptr 1 0)), (7, .c (.int .i64 (((a0_caps).length : Int)))), (8, .c (.ptr 2 0)), (38, .c (.int .i64 (((List.replicate (((a0_caps).length : Int)).toNat (false : Bool)).length : Int)))), (39, .c (.int .i64 (IntKind.wrap .i64 (t39_41 + 1))))], [.box [.raw (.slice none 0 0)], .box [.int .i64 0], .box [vI a0_caps, .fn 34 1 (cellsG [.eptr 1 ((cInt .i64) a1f0) 0]), .own 3 (List.replicate (((a0_caps).length : Int)).toNat (0 : Int)).length, .own 4 (o4_42.set t39_41.toNat true).length, .own 5 (List.replicate (((a0_caps).length : Int)).toNat (0 : Int)).length], aI 3 (List.replicate (((a0_caps).length : Int)).toNat (0 : Int)), aB 4 (o4_42.set t39_41.toNat true), aI 3 (List.replicate (((a0_caps).length : Int)).toNat (0 : Int))]⟩) (sub_gen [0, 1, 2, 3, 4, 5] rfl rfl ⟨zc rfl rfl, zc rfl rfl, zc rfl rfl, zc rfl rfl, zc rfl rfl, zc rfl rfl, trivial⟩ ⟨⟨_, rfl, ⟨ii rfl rfl, trivial⟩⟩, ⟨_, rfl, ⟨ii rfl rfl, trivial⟩⟩, ⟨_, rfl, ⟨ii rfl rfl, ii rfl rfl, ii rfl rfl, ii rfl rfl, ii rfl rfl, trivial⟩⟩, oa rfl, oa rfl, oa rfl, trivial⟩) ?_
        refine SOps.nil ?_
        exact ⟨(n_45, (IntKind.wrap .i64 (t39_41 + 1), o4_42.set t39_41.toNat true)), h, Nat.lt_succ_self n_45, sub_gen [0, 1, 2, 3, 4, 5] rfl rfl ⟨zc rfl rfl, zc rfl rfl, zc rfl rfl, zc rfl rfl, zc rfl rfl, zc rfl rfl, trivial⟩ ⟨⟨_, rfl, ⟨ii rfl rfl, trivial⟩⟩, ⟨_, rfl, ⟨ii rfl rfl, trivial⟩⟩, ⟨_, rfl, ⟨ii rfl rfl, ii rfl rfl, ii rfl rfl, ii rfl rfl, ii rfl rfl, trivial⟩⟩, oa rfl, oa rfl, oa rfl, trivial⟩⟩
      refine SCode.cond_f rfl g46 ?_
      refine SCode.exit ?_
      exact ⟨o4_42, h, sub_gen [0, 1, 2, 3, 4, 5] rfl rfl ⟨zc rfl rfl, zc rfl rfl, zc rfl rfl, zc rfl rfl, trivial⟩ ⟨⟨_, rfl, ⟨ii rfl rfl, trivial⟩⟩, ⟨_, rfl, ⟨ii rfl rfl, trivial⟩⟩, ⟨_, rfl, ⟨ii rfl rfl, ii rfl rfl, ii rfl rfl, ii rfl rfl, ii rfl rfl, trivial⟩⟩, oa rfl, oa rfl, oa rfl, trivial⟩⟩
  rintro o4_10 h
  show SCode _ _ _ ⟨[(4, .c (.ptr 0 0)), (5, .c (.ptr 1 0)), (7, .c (.int .i64 (((a0_caps).length : Int)))), (8, .c (.ptr 2 0))], [.box [.raw (.slice none 0 0)], .box [.int .i64 0], .box [vI a0_caps, .fn 34 1 (cellsG [.eptr 1 ((cInt .i64) a1f0) 0]), .own 3 (List.replicate (((a0_caps).length : Int)).toNat (0 : Int)).length, .own 4 o4_10.length, .own 5 (List.replicate (((a0_caps).length : Int)).toNat (0 : Int)).length], aI 3 (List.replicate (((a0_caps).length : Int)).toNat (0 : Int)), aB 4 o4_10, aI 3 (List.replicate (((a0_caps).length : Int)).toNat (0 : Int))]⟩ _
  replace h : fair_Fill_f1_34_p38 F a0_caps a1f0 o4_10 = some r := h
  unfold fair_Fill_f1_34_p38 at h
  refine SCode.join (σ := (List Int) × (List Bool) × (List Int)) (S := fun s => ⟨[(4, .c (.ptr 0 0)), (5, .c (.ptr 1 0)), (8, .c (.ptr 2 0))], [.box [.raw (.slice none 0 0)], .box [.int .i64 0], .box [vI a0_caps, .fn 34 1 (cellsG [.eptr 1 ((cInt .i64) a1f0) 0]), .own 3 s.1.length, .own 4 s.2.1.length, .own 5 s.2.2.length], aI 3 s.1, aB 4 s.2.1, aI 3 s.2.2]⟩) (g := fun s => fair_Fill_f1_34_p14 s.1 s.2.1 s.2.2 = some r) ?_ ?_
  rotate_left
  · refine SCode.seq ?_
    refine SCode.region (show SOps _ _ _ [0, 1] _ _ from ?_)
    refine SOps.q rfl (.plain rfl) rfl (q_move rfl rfl) ?_
    refine SOps.q rfl (.plain rfl) rfl (q_move rfl rfl) ?_
    refine SOps.sub (st' := ⟨[(4, .c (.ptr 0 0)), (5, .c (.ptr 1 0)), (8, .c (.ptr 2 0)), (47, .c (.int .i64 (((a0_caps).length : Int)))), (48, .c (.int .i64 0))], [.box [.raw (.slice none 0 0)], .box [.int .i64 0], .box [vI a0_caps, .fn 34 1 (cellsG [.eptr 1 ((cInt .i64) a1f0) 0]), .own 3 (List.replicate (((a0_caps).length : Int)).toNat (0 : Int)).length, .own 4 o4_10.length, .own 5 (List.replicate (((a0_caps).length : Int)).toNat (0 : Int)).length], aI 3 (List.replicate (((a0_caps).length : Int)).toNat (0 : Int)), aB 4 o4_10, aI 3 (List.replicate (((a0_caps).length : Int)).toNat (0 : Int))]⟩) (sub_gen [0, 1, 2, 3, 4, 5] rfl rfl ⟨zc rfl rfl, zc rfl rfl, zc rfl rfl, zc rfl rfl, zc rfl rfl, trivial⟩ ⟨⟨_, rfl, ⟨ii rfl rfl, trivial⟩⟩, ⟨_, rfl, ⟨ii rfl rfl, trivial⟩⟩, ⟨_, rfl, ⟨ii rfl rfl, ii rfl rfl, ii rfl rfl, ii rfl rfl, ii rfl rfl, trivial⟩⟩, oa rfl, oa rfl, oa rfl, trivial⟩) ?_
    refine SOps.nil ?_
    refine SCode.block ?_
    refine SCode.sub (st' := ⟨[(4, .c (.ptr 0 0)), (5, .c (.ptr 1 0)), (8, .c (.ptr 2 0)), (47, .c (.int .i64 (((a0_caps).length : Int)))), (48, .c (.int .i64 0))], [.box [.raw (.slice none 0 0)], .box [.int .i64 0], .box [vI a0_caps, .fn 34 1 (cellsG [.eptr 1 ((cInt .i64) a1f0) 0]), .own 3 (List.replicate (((a0_caps).length : Int)).toNat (0 : Int)).length, .own 4 o4_10.length, .own 5 (List.replicate (((a0_caps).length : Int)).toNat (0 : Int)).length], aI 3 (List.replicate (((a0_caps).length : Int)).toNat (0 : Int)), aB 4 o4_10, aI 3 (List.replicate (((a0_caps).length : Int)).toNat (0 : Int))]⟩) (sub_gen [0, 1, 2, 3, 4, 5] rfl rfl ⟨zc rfl rfl, zc rfl rfl, zc rfl rfl, zc rfl rfl, zc rfl rfl, trivial⟩ ⟨⟨_, rfl, ⟨ii rfl rfl, trivial⟩⟩, ⟨_, rfl, ⟨ii rfl rfl, trivial⟩⟩, ⟨_, rfl, ⟨ii rfl rfl, ii rfl rfl, ii rfl rfl, ii rfl rfl, ii rfl rfl, trivial⟩⟩, oa rfl, oa rfl, oa rfl, trivial⟩) ?_
    refine (SCode.loop (σ := Nat × (Int × (List Int) × (List Bool) × (List Int))) (S := fun s => ⟨[(4, .c (.ptr 0 0)), (5, .c (.ptr 1 0)), (8, .c (.ptr 2 0)), (47, .c (.int .i64 (((a0_caps).length : Int)))), (48, .c (.int .i64 s.2.1))], [.box [.raw (.slice none 0 0)], .box [.int .i64 0], .box [vI a0_caps, .fn 34 1 (cellsG [.eptr 1 ((cInt .i64) a1f0) 0]), .own 3 s.2.2.1.length, .own 4 s.2.2.2.1.length, .own 5 s.2.2.2.2.length], aI 3 s.2.2.1, aB 4 s.2.2.2.1, aI 3 s.2.2.2.2]⟩) (g := fun s => fair_Fill_f1_34_l31 F a0_caps a1f0 s.1 s.2.1 s.2.2.1 s.2.2.2.1 s.2.2.2.2 = some r) (μ := fun s => s.1) (F, (0, List.replicate (((a0_caps).length : Int)).toNat (0 : Int), o4_10, List.replicate (((a0_caps).length : Int)).toNat (0 : Int))) h ?_)
    rintro ⟨n_31, ⟨t48_21, o3_22, o4_23, o5_24⟩⟩ h
    replace h : fair_Fill_f1_34_l31 F a0_caps a1f0 n_31 t48_21 o3_22 o4_23 o5_24 = some r := h
    show SCode _ _ _ ⟨[(4, .c (.ptr 0 0)), (5, .c (.ptr 1 0)), (8, .c (.ptr 2 0)), (47, .c (.int .i64 (((a0_caps).length : Int)))), (48, .c (.int .i64 t48_21))], [.box [.raw (.slice none 0 0)], .box [.int .i64 0], .box [vI a0_caps, .fn 34 1 (cellsG [.eptr 1 ((cInt .i64) a1f0) 0]), .own 3 o3_22.length, .own 4 o4_23.length, .own 5 o5_24.length], aI 3 o3_22, aB 4 o4_23, aI 3 o5_24]⟩ _
    cases n_31 with
    | zero => cases h
    | succ n_31 =>
      replace h : fair_Fill_f1_34_b31 F a0_caps a1f0 (fun t48_21 o3_22 o4_23 o5_24 => fair_Fill_f1_34_l31 F a0_caps a1f0 n_31 t48_21 o3_22 o4_23 o5_24) t48_21 o3_22 o4_23 o5_24 = some r := h
      unfold fair_Fill_f1_34_b31 at h
      refine SCode.seq ?_
      refine SCode.region (show SOps _ _ _ [0] _ _ from ?_)
      refine SOps.q rfl (.plain rfl) rfl (q_lss rfl rfl rfl) ?_
      refine SOps.sub (st' := ⟨[(4, .c (.ptr 0 0)), (5, .c (.ptr 1 0)), (8, .c (.ptr 2 0)), (47, .c (.int .i64 (((a0_caps).length : Int)))), (48, .c (.int .i64 t48_21)), (49, .c (.bool (decide (t48_21 < ((a0_caps).length : Int)))))], [.box [.raw (.slice none 0 0)], .box [.int .i64 0], .box [vI a0_caps, .fn 34 1 (cellsG [.eptr 1 ((cInt .i64) a1f0) 0]), .own 3 o3_22.length, .own 4 o4_23.length, .own 5 o5_24.length], aI 3 o3_22, aB 4 o4_23, aI 3 o5_24]⟩) (sub_gen [0, 1, 2, 3, 4, 5] rfl rfl ⟨zc rfl rfl, zc rfl rfl, zc rfl rfl, zc rfl rfl, zc rfl rfl, zc rfl rfl, trivial⟩ ⟨⟨_, rfl, ⟨ii rfl rfl, trivial⟩⟩, ⟨_, rfl, ⟨ii rfl rfl, trivial⟩⟩, ⟨_, rfl, ⟨ii rfl rfl, ii rfl rfl, ii rfl rfl, ii rfl rfl, ii rfl rfl, trivial⟩⟩, oa rfl, oa rfl, oa rfl, trivial⟩) ?_
      refine SOps.nil ?_
      refine SCode.seq ?_
      rcases cond_out h with ⟨g32, h⟩ | ⟨g32, h⟩
      · refine SCode.cond_t rfl g32 ?_
        refine SCode.skip ?_
        refine SCode.seq ?_
        refine SCode.block ?_
        refine SCode.seq ?_
        obtain ⟨c_33, g34, h⟩ := bind_out h
        try dsimp only at h
        refine SCode.region (show SOps _ _ _ [0] _ _ from ?_)
        refine SOps.e rfl (.plain rfl) (e_call (fair_division_together_f0_p34_ok F a0_caps a1f0 o3_22 o4_23 o5_24 c_33 g34) [2, 3, 4, 5] rfl fn32 rfl rfl rfl rfl rfl rfl rfl rfl) ?_
        refine SOps.sub (st' := ⟨[(4, .c (.ptr 0 0)), (5, .c (.ptr 1 0)), (8, .c (.ptr 2 0)), (47, .c (.int .i64 (((a0_caps).length : Int)))), (48, .c (.int .i64 t48_21))], [.box [.raw (.slice none 0 0)], .box [.int .i64 0], .box [vI a0_caps, .fn 34 1 (cellsG [.eptr 1 ((cInt .i64) a1f0) 0]), .own 3 c_33.1.length, .own 4 o4_23.length, .own 5 c_33.2.length], aI 3 c_33.1, aB 4 o4_23, aI 3 c_33.2]⟩) (sub_gen [0, 1, 2, 3, 4, 5] rfl rfl ⟨zc rfl rfl, zc rfl rfl, zc rfl rfl, zc rfl rfl, zc rfl rfl, trivial⟩ ⟨⟨_, rfl, ⟨ii rfl rfl, trivial⟩⟩, ⟨_, rfl, ⟨ii rfl rfl, trivial⟩⟩, ⟨_, rfl, ⟨ii rfl rfl, ii rfl rfl, ii rfl rfl, ii rfl rfl, ii rfl rfl, trivial⟩⟩, oa rfl, oa rfl, oa rfl, trivial⟩) ?_
        refine SOps.nil ?_
        refine SCode.seq ?_
        obtain ⟨c_35, g36, h⟩ := bind_out h
        try dsimp only at h
        refine SCode.region (show SOps _ _ _ [0, 1] _ _ from ?_)
        refine SOps.e rfl (.plain rfl) (e_call (fair_division_single_f0_p34_ok F a0_caps a1f0 c_33.1 o4_23 c_33.2 c_35 g36) [2, 3, 4, 5] rfl fn33 rfl rfl rfl rfl rfl rfl rfl rfl) ?_
        refine SOps.q rfl (.plain rfl) rfl (q_not rfl rfl) ?_
        refine SOps.sub (st' := ⟨[(4, .c (.ptr 0 0)), (5, .c (.ptr 1 0)), (8, .c (.ptr 2 0)), (47, .c (.int .i64 (((a0_caps).length : Int)))), (48, .c (.int .i64 t48_21)), (52, .c (.bool ((!c_35.1))))], [.box [.raw (.slice none 0 0)], .box [.int .i64 0], .box [vI a0_caps, .fn 34 1 (cellsG [.eptr 1 ((cInt .i64) a1f0) 0]), .own 3 c_35.2.1.length, .own 4 c_35.2.2.1.length, .own 5 c_35.2.2.2.length], aI 3 c_35.2.1, aB 4 c_35.2.2.1, aI 3 c_35.2.2.2]⟩) (sub_gen [0, 1, 2, 3, 4, 5] rfl rfl ⟨zc rfl rfl, zc rfl rfl, zc rfl rfl, zc rfl rfl, zc rfl rfl, zc rfl rfl, trivial⟩ ⟨⟨_, rfl, ⟨ii rfl rfl, trivial⟩⟩, ⟨_, rfl, ⟨ii rfl rfl, trivial⟩⟩, ⟨_, rfl, ⟨ii rfl rfl, ii rfl rfl, ii rfl rfl, ii rfl rfl, ii rfl rfl, trivial⟩⟩, oa rfl, oa rfl, oa rfl, trivial⟩) ?_
        refine SOps.nil ?_
        rcases cond_out h with ⟨g37, h⟩ | ⟨g37, h⟩
        · refine SCode.cond_t rfl g37 ?_
          refine SCode.exit ?_
          exact ⟨(c_35.2.1, c_35.2.2.1, c_35.2.2.2), h, sub_gen [0, 1, 2, 3, 4, 5] rfl rfl ⟨zc rfl rfl, zc rfl rfl, zc rfl rfl, trivial⟩ ⟨⟨_, rfl, ⟨ii rfl rfl, trivial⟩⟩, ⟨_, rfl, ⟨ii rfl rfl, trivial⟩⟩, ⟨_, rfl, ⟨ii rfl rfl, ii rfl rfl, ii rfl rfl, ii rfl rfl, ii rfl rfl, trivial⟩⟩, oa rfl, oa rfl, oa rfl, trivial⟩⟩
        refine SCode.cond_f rfl g37 ?_
        refine SCode.skip ?_
        refine SCode.region (show SOps _ _ _ [0, 1] _ _ from ?_)
        refine SOps.q rfl (.plain rfl) rfl (q_add rfl rfl rfl) ?_
        refine SOps.q rfl (.plain rfl) rfl (q_move rfl rfl) ?_
        refine SOps.sub (st' := ⟨[(4, .c (.ptr 0 0)), (5, .c (.ptr 1 0)), (8, .c (.ptr 2 0)), (47, .c (.int .i64 (((a0_caps).length : Int)))), (48, .c (.int .i64 (IntKind.wrap .i64 (t48_21 + 1))))], [.box [.raw (.slice none 0 0)], .box [.int .i64 0], .box [vI a0_caps, .fn 34 1 (cellsG [.eptr 1 ((cInt .i64) a1f0) 0]), .own 3 c_35.2.1.length, .own 4 c_35.2.2.1.length, .own 5 c_35.2.2.2.length], aI 3 c_35.2.1, aB 4 c_35.2.2.1, aI 3 c_35.2.2.2]⟩) (sub_gen [0, 1, 2, 3, 4, 5] rfl rfl ⟨zc rfl rfl, zc rfl rfl, zc rfl rfl, zc rfl rfl, zc rfl rfl, trivial⟩ ⟨⟨_, rfl, ⟨ii rfl rfl, trivial⟩⟩, ⟨_, rfl, ⟨ii rfl rfl, trivial⟩⟩, ⟨_, rfl, ⟨ii rfl rfl, ii rfl rfl, ii rfl rfl, ii rfl rfl, ii rfl rfl, trivial⟩⟩, oa rfl, oa rfl, oa rfl, trivial⟩) ?_
        refine SOps.nil ?_
        exact ⟨(n_31, (IntKind.wrap .i64 (t48_21 + 1), c_35.2.1, c_35.2.2.1, c_35.2.2.2)), h, Nat.lt_succ_self n_31, sub_gen [0, 1, 2, 3, 4, 5] rfl rfl ⟨zc rfl rfl, zc rfl rfl, zc rfl rfl, zc rfl rfl, zc rfl rfl, trivial⟩ ⟨⟨_, rfl, ⟨ii rfl rfl, trivial⟩⟩, ⟨_, rfl, ⟨ii rfl rfl, trivial⟩⟩, ⟨_, rfl, ⟨ii rfl rfl, ii rfl rfl, ii rfl rfl, ii rfl rfl, ii rfl rfl, trivial⟩⟩, oa rfl, oa rfl, oa rfl, trivial⟩⟩
      refine SCode.cond_f rfl g32 ?_
      refine SCode.exit ?_
      exact ⟨(o3_22, o4_23, o5_24), h, sub_gen [0, 1, 2, 3, 4, 5] rfl rfl ⟨zc rfl rfl, zc rfl rfl, zc rfl rfl, trivial⟩ ⟨⟨_, rfl, ⟨ii rfl rfl, trivial⟩⟩, ⟨_, rfl, ⟨ii rfl rfl, trivial⟩⟩, ⟨_, rfl, ⟨ii rfl rfl, ii rfl rfl, ii rfl rfl, ii rfl rfl, ii rfl rfl, trivial⟩⟩, oa rfl, oa rfl, oa rfl, trivial⟩⟩
  rintro ⟨o3_11, o4_12, o5_13⟩ h
  show SCode _ _ _ ⟨[(4, .c (.ptr 0 0)), (5, .c (.ptr 1 0)), (8, .c (.ptr 2 0))], [.box [.raw (.slice none 0 0)], .box [.int .i64 0], .box [vI a0_caps, .fn 34 1 (cellsG [.eptr 1 ((cInt .i64) a1f0) 0]), .own 3 o3_11.length, .own 4 o4_12.length, .own 5 o5_13.length], aI 3 o3_11, aB 4 o4_12, aI 3 o5_13]⟩ _
  replace h : fair_Fill_f1_34_p14 o3_11 o4_12 o5_13 = some r := h
  unfold fair_Fill_f1_34_p14 at h
  refine SCode.seq ?_
  refine SCode.region (show SOps _ _ _ [0, 1, 2, 3] _ _ from ?_)
  refine SOps.q rfl (.plain rfl) rfl (q_field_ptr rfl rfl fd54_2) ?_
  refine SOps.q rfl (.plain rfl) rfl (q_load_ptr rfl rfl rfl rfl ty22) ?_
  refine SOps.e rfl (.plain rfl) (e_store_box rfl rfl rfl rfl rfl ty22 rfl rfl rfl rfl) ?_
  refine SOps.e rfl (.plain rfl) (e_store_box rfl rfl rfl rfl rfl ty24 rfl rfl rfl rfl) ?_
  refine SOps.sub (st' := ⟨[(4, .c (.ptr 0 0)), (5, .c (.ptr 2 0))], [.box [.own 1 o3_11.length], aI 3 o3_11, .box [.int .i64 0]]⟩) (sub_gen [0, 3, 1] rfl rfl ⟨zc rfl rfl, zc rfl rfl, trivial⟩ ⟨⟨_, rfl, ⟨ii rfl rfl, trivial⟩⟩, oa rfl, ⟨_, rfl, ⟨ii rfl rfl, trivial⟩⟩, trivial⟩) ?_
  refine SOps.nil ?_
  refine SCode.ret ?_
  obtain rfl := Option.some.inj h
  exact ⟨⟨[(4, .c (.ptr 0 0)), (5, .c (.ptr 1 0))], [.box [vI o3_11], .box [.int .i64 0]]⟩, _, sub_gen [0, 2] rfl rfl ⟨zc rfl rfl, zc rfl rfl, trivial⟩ ⟨⟨_, rfl, ⟨.inr (.inl ⟨_, _, _, _, _, _, _, rfl, rfl, rfl, Nat.le_refl _, fun _ _ _ _ => rfl, by decide⟩), trivial⟩⟩, ⟨_, rfl, ⟨ii rfl rfl, trivial⟩⟩, trivial⟩, resA2 (v1 := .c (vI o3_11)) (v2 := .c (.int .i64 0)) rfl ⟨_, rfl, rfl, ty22⟩ ⟨_, rfl, rfl, ty24⟩, rfl⟩
end Go.Proofs.Ythpblkclpfmbeaa.W
