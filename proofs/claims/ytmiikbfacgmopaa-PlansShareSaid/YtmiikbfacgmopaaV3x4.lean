/- Written by a program of ours (wip/eng/gen.py): the functions compute their models. -/
import Derived.Test.YtmiikbfacgmopaaFacts
import Derived.Test.YtmiikbfacgmopaaV3x3
namespace Go.Proofs.Ytmiikbfacgmopaa.W
open Go Go.Proofs Go.Proofs.Ytmiikbfacgmopaa.E Go.Proofs.Ytmiikbfacgmopaa.M
set_option linter.unusedVariables false
set_option maxRecDepth 100000
set_option maxHeartbeats 8000000
theorem hush20_fair_Fill_f1_11 : Hush Try.prog 20 := Hush.of Try.func20 rfl rfl rfl rfl rfl rfl rfl rfl rfl rfl if20
theorem fair_Fill_f1_11_ok (F : Nat) (a0_caps : List Int) (a1b_Nodes : Int) (a1b_Arcs : List SArc) (r : (List Int) × Int × (List SArc)) (h : fair_Fill_f1_11 F a0_caps a1b_Nodes a1b_Arcs = some r) :
  SFun Try.prog 10 [.box [.int .i64 a1b_Nodes, .own 1 a1b_Arcs.length], aSArc 54 a1b_Arcs] [.c (vI a0_caps), .c (.fnp 11 0)] (fun x os => x = .t [.c (vI r.1), .c (.int .i64 r.2.1)] ∧ os = [.box [.int .i64 a1b_Nodes, .own 1 r.2.2.length], aSArc 54 r.2.2, .box [vI r.1], .box [.int .i64 r.2.1]]) := by
 refine SFun.ofD (n := 56) Try.func10 hush20_fair_Fill_f1_11 fn20 rfl rfl rfl rfl rfl rfl rfl rfl rfl rfl ?_
 unfold fair_Fill_f1_11 at h
 show SCode _ _ _ ⟨[(0, .c (vI a0_caps)), (1, .c (.fnp 11 0))], [.box [.int .i64 a1b_Nodes, .own 1 a1b_Arcs.length], aSArc 54 a1b_Arcs]⟩ _
 refine SCode.region (se rfl rfl (e_alloc rfl rfl rfl z22) (se rfl rfl (e_alloc rfl rfl rfl z29) (SOps.sub (st' := ⟨[(0, .c (vI a0_caps)), (1, .c (.fnp 11 0)), (4, .c (.ptr 2 0)), (5, .c (.ptr 3 0))], [.box [.int .i64 a1b_Nodes, .own 1 a1b_Arcs.length], aSArc 54 a1b_Arcs, .box [.raw (.slice none 0 0)], .box [.int .i64 0]]⟩) (sub_gen [0, 1, 2, 3] rfl rfl (zall rfl rfl) ⟨bx rfl rfl rfl, oa rfl, bx rfl rfl rfl, bx rfl rfl rfl, trivial⟩) (SOps.nil ?_))))
 refine ⟨rfl, ?_⟩
 show SCode _ _ _ ⟨[(0, .c (vI a0_caps)), (1, .c (.fnp 11 0)), (4, .c (.ptr 2 0)), (5, .c (.ptr 3 0))], [.box [.int .i64 a1b_Nodes, .own 1 a1b_Arcs.length], aSArc 54 a1b_Arcs, .box [.raw (.slice none 0 0)], .box [.int .i64 0]]⟩ _
 refine SCode.seq (SCode.seq (SCode.region (sm rfl rfl (sq rfl rfl (q_eqlF (b := false) rfl rfl rfl rfl fb45) (SOps.nil (SCode.cond_f rfl rfl (SCode.skip (SCode.seq (SCode.seq ?_)))))))))
 obtain ⟨c_1, g2, h⟩ := bind_out h
 try dsimp only at h
 refine SCode.region (sm rfl rfl (sq rfl rfl (q_call (fair_check_ok F a0_caps c_1 g2) [] rfl fn13 ⟨⟨_, rfl, .inl ⟨rfl, rfl⟩⟩, trivial⟩ (.inl rfl)) (sa rfl rfl (SOps.nil (SCode.seq (SCode.region (sm rfl rfl (sq rfl rfl (q_neq rfl rfl rfl) (SOps.nil ?_)))))))))
 rcases cond_out h with ⟨g3, h⟩ | ⟨g3, h⟩
 ·refine SCode.cond_t rfl g3 (SCode.seq (SCode.region (sm rfl rfl (se rfl rfl (e_store_box rfl rfl rfl rfl rfl ty22 rfl rfl rfl rfl) (se rfl rfl (e_store_box rfl rfl rfl rfl rfl ty29 rfl rfl rfl rfl) (SOps.nil (SCode.ret ?_)))))))
  obtain rfl := Option.some.inj h
  exact ⟨⟨[(4, .c (.ptr 2 0)), (5, .c (.ptr 3 0))], [.box [.int .i64 a1b_Nodes, .own 1 a1b_Arcs.length], aSArc 54 a1b_Arcs, .box [vI (([] : List Int))], .box [.int .i64 c_1]]⟩, _, sub_gen [0, 1, 2, 3] rfl rfl (zall rfl rfl) ⟨bx rfl rfl rfl, oa rfl, ⟨_, rfl, ⟨.inr (.inr (.inr (.inl ⟨_, _, rfl, rfl⟩))), trivial⟩⟩, bx rfl rfl rfl, trivial⟩, resA2 (v1 := .c (vI (([] : List Int)))) (v2 := .c (.int .i64 c_1)) rfl ⟨_, rfl, rfl, ty22⟩ ⟨_, rfl, rfl, ty29⟩, ⟨rfl, rfl⟩⟩
 refine SCode.cond_f rfl g3 (SCode.skip (SCode.seq (SCode.region (sm rfl rfl (sq rfl rfl (q_len_vec rfl rfl sl22) (sa rfl rfl (SOps.nil (SCode.seq (SCode.sub (st' := ⟨[(0, .c (vI a0_caps)), (1, .c (.fnp 11 0)), (4, .c (.ptr 2 0)), (5, .c (.ptr 3 0)), (7, ci (((a0_caps).length : Int)))], [.box [.int .i64 a1b_Nodes, .own 1 a1b_Arcs.length], aSArc 54 a1b_Arcs, .box [.raw (.slice none 0 0)], .box [.int .i64 0]]⟩) (sub_gen [0, 1, 2, 3] rfl rfl (zall rfl rfl) ⟨bx rfl rfl rfl, oa rfl, bx rfl rfl rfl, bx rfl rfl rfl, trivial⟩) ?_)))))))))
 obtain ⟨g4, h⟩ := guard_out h
 obtain ⟨g5, h⟩ := guard_out h
 obtain ⟨g6, h⟩ := guard_out h
 let ob1 : Ob := .box [.int .i64 a1b_Nodes, .own 1 a1b_Arcs.length]
 let ob2 : Ob := .box [.raw (.slice none 0 0)]
 let ob4 : Ob := aI 3 (List.replicate (((a0_caps).length : Int)).toNat (0 : Int))
 let ob6 : Ob := aB 4 (List.replicate (((a0_caps).length : Int)).toNat (false : Bool))
 let ob10 : Ob := .box [.raw (.slice none 0 0), .raw .nilFunc, .raw (.slice none 0 0), .raw (.slice none 0 0), .raw (.slice none 0 0)]
 let ob11 : Ob := .box [vI a0_caps, .fnp 11 0, .own 4 (List.replicate (((a0_caps).length : Int)).toNat (0 : Int)).length, .own 5 (List.replicate (((a0_caps).length : Int)).toNat (false : Bool)).length, .own 6 (List.replicate (((a0_caps).length : Int)).toNat (0 : Int)).length]
 let ob14 : Ob := .box [vI a0_caps, .fnp 11 0, .own 4 (List.replicate (((a0_caps).length : Int)).toNat (0 : Int)).length, .own 5 (List.replicate (((a0_caps).length : Int)).toNat (false : Bool)).length, .own 7 (List.replicate (((a0_caps).length : Int)).toNat (0 : Int)).length]
 let ob18 : Ob := .box [vI a0_caps, .fnp 11 0, .own 4 (List.replicate (((a0_caps).length : Int)).toNat (0 : Int)).length, .own 6 (List.replicate (((a0_caps).length : Int)).toNat (false : Bool)).length, .own 5 (List.replicate (((a0_caps).length : Int)).toNat (0 : Int)).length]
 let ob21 : Ob := .box [vI a0_caps, .fnp 11 0, .own 4 (List.replicate (((a0_caps).length : Int)).toNat (0 : Int)).length, .own 7 (List.replicate (((a0_caps).length : Int)).toNat (false : Bool)).length, .own 5 (List.replicate (((a0_caps).length : Int)).toNat (0 : Int)).length]
 let ob23 : Ob := .box [vI a0_caps, .fnp 11 0, .own 4 (List.replicate (((a0_caps).length : Int)).toNat (0 : Int)).length, .own 6 (List.replicate (((a0_caps).length : Int)).toNat (false : Bool)).length, .own 7 (List.replicate (((a0_caps).length : Int)).toNat (0 : Int)).length]
 let ob25 : Ob := .box [vI a0_caps, .fnp 11 0, .own 4 (List.replicate (((a0_caps).length : Int)).toNat (0 : Int)).length, .own 7 (List.replicate (((a0_caps).length : Int)).toNat (false : Bool)).length, .own 6 (List.replicate (((a0_caps).length : Int)).toNat (0 : Int)).length]
 let ob28 : Ob := .box [vI a0_caps, .fnp 11 0, .own 5 (List.replicate (((a0_caps).length : Int)).toNat (0 : Int)).length, .own 4 (List.replicate (((a0_caps).length : Int)).toNat (false : Bool)).length, .own 6 (List.replicate (((a0_caps).length : Int)).toNat (0 : Int)).length]
 let ob30 : Ob := .box [vI a0_caps, .fnp 11 0, .own 5 (List.replicate (((a0_caps).length : Int)).toNat (0 : Int)).length, .own 4 (List.replicate (((a0_caps).length : Int)).toNat (false : Bool)).length, .own 7 (List.replicate (((a0_caps).length : Int)).toNat (0 : Int)).length]
 let ob32 : Ob := .box [vI a0_caps, .fnp 11 0, .own 6 (List.replicate (((a0_caps).length : Int)).toNat (0 : Int)).length, .own 4 (List.replicate (((a0_caps).length : Int)).toNat (false : Bool)).length, .own 5 (List.replicate (((a0_caps).length : Int)).toNat (0 : Int)).length]
 let ob34 : Ob := .box [vI a0_caps, .fnp 11 0, .own 7 (List.replicate (((a0_caps).length : Int)).toNat (0 : Int)).length, .own 4 (List.replicate (((a0_caps).length : Int)).toNat (false : Bool)).length, .own 5 (List.replicate (((a0_caps).length : Int)).toNat (0 : Int)).length]
 let ob36 : Ob := .box [vI a0_caps, .fnp 11 0, .own 6 (List.replicate (((a0_caps).length : Int)).toNat (0 : Int)).length, .own 4 (List.replicate (((a0_caps).length : Int)).toNat (false : Bool)).length, .own 7 (List.replicate (((a0_caps).length : Int)).toNat (0 : Int)).length]
 let ob38 : Ob := .box [vI a0_caps, .fnp 11 0, .own 7 (List.replicate (((a0_caps).length : Int)).toNat (0 : Int)).length, .own 4 (List.replicate (((a0_caps).length : Int)).toNat (false : Bool)).length, .own 6 (List.replicate (((a0_caps).length : Int)).toNat (0 : Int)).length]
 let ob40 : Ob := .box [vI a0_caps, .fnp 11 0, .own 5 (List.replicate (((a0_caps).length : Int)).toNat (0 : Int)).length, .own 6 (List.replicate (((a0_caps).length : Int)).toNat (false : Bool)).length, .own 4 (List.replicate (((a0_caps).length : Int)).toNat (0 : Int)).length]
 let ob42 : Ob := .box [vI a0_caps, .fnp 11 0, .own 5 (List.replicate (((a0_caps).length : Int)).toNat (0 : Int)).length, .own 7 (List.replicate (((a0_caps).length : Int)).toNat (false : Bool)).length, .own 4 (List.replicate (((a0_caps).length : Int)).toNat (0 : Int)).length]
 let ob44 : Ob := .box [vI a0_caps, .fnp 11 0, .own 6 (List.replicate (((a0_caps).length : Int)).toNat (0 : Int)).length, .own 5 (List.replicate (((a0_caps).length : Int)).toNat (false : Bool)).length, .own 4 (List.replicate (((a0_caps).length : Int)).toNat (0 : Int)).length]
 let ob46 : Ob := .box [vI a0_caps, .fnp 11 0, .own 7 (List.replicate (((a0_caps).length : Int)).toNat (0 : Int)).length, .own 5 (List.replicate (((a0_caps).length : Int)).toNat (false : Bool)).length, .own 4 (List.replicate (((a0_caps).length : Int)).toNat (0 : Int)).length]
 let ob48 : Ob := .box [vI a0_caps, .fnp 11 0, .own 6 (List.replicate (((a0_caps).length : Int)).toNat (0 : Int)).length, .own 7 (List.replicate (((a0_caps).length : Int)).toNat (false : Bool)).length, .own 4 (List.replicate (((a0_caps).length : Int)).toNat (0 : Int)).length]
 let ob50 : Ob := .box [vI a0_caps, .fnp 11 0, .own 7 (List.replicate (((a0_caps).length : Int)).toNat (0 : Int)).length, .own 6 (List.replicate (((a0_caps).length : Int)).toNat (false : Bool)).length, .own 4 (List.replicate (((a0_caps).length : Int)).toNat (0 : Int)).length]
 let ob52 : Ob := .box [vI a0_caps, .fnp 11 0, .own 5 (List.replicate (((a0_caps).length : Int)).toNat (0 : Int)).length, .own 6 (List.replicate (((a0_caps).length : Int)).toNat (false : Bool)).length, .own 7 (List.replicate (((a0_caps).length : Int)).toNat (0 : Int)).length]
 let ob54 : Ob := .box [vI a0_caps, .fnp 11 0, .own 5 (List.replicate (((a0_caps).length : Int)).toNat (0 : Int)).length, .own 7 (List.replicate (((a0_caps).length : Int)).toNat (false : Bool)).length, .own 6 (List.replicate (((a0_caps).length : Int)).toNat (0 : Int)).length]
 let ob56 : Ob := .box [vI a0_caps, .fnp 11 0, .own 6 (List.replicate (((a0_caps).length : Int)).toNat (0 : Int)).length, .own 5 (List.replicate (((a0_caps).length : Int)).toNat (false : Bool)).length, .own 7 (List.replicate (((a0_caps).length : Int)).toNat (0 : Int)).length]
 let ob58 : Ob := .box [vI a0_caps, .fnp 11 0, .own 7 (List.replicate (((a0_caps).length : Int)).toNat (0 : Int)).length, .own 5 (List.replicate (((a0_caps).length : Int)).toNat (false : Bool)).length, .own 6 (List.replicate (((a0_caps).length : Int)).toNat (0 : Int)).length]
 let ob60 : Ob := .box [vI a0_caps, .fnp 11 0, .own 6 (List.replicate (((a0_caps).length : Int)).toNat (0 : Int)).length, .own 7 (List.replicate (((a0_caps).length : Int)).toNat (false : Bool)).length, .own 5 (List.replicate (((a0_caps).length : Int)).toNat (0 : Int)).length]
 let ob62 : Ob := .box [vI a0_caps, .fnp 11 0, .own 7 (List.replicate (((a0_caps).length : Int)).toNat (0 : Int)).length, .own 6 (List.replicate (((a0_caps).length : Int)).toNat (false : Bool)).length, .own 5 (List.replicate (((a0_caps).length : Int)).toNat (0 : Int)).length]
 let av5 : AV := .c (.own 4 (List.replicate (((a0_caps).length : Int)).toNat (0 : Int)).length)
 let av7 : AV := .c (.own 5 (List.replicate (((a0_caps).length : Int)).toNat (false : Bool)).length)
 let av8 : AV := .c (.own 6 (List.replicate (((a0_caps).length : Int)).toNat (0 : Int)).length)
 let av9 : AV := .a [vI a0_caps, .fnp 11 0, .own 4 (List.replicate (((a0_caps).length : Int)).toNat (0 : Int)).length, .own 5 (List.replicate (((a0_caps).length : Int)).toNat (false : Bool)).length, .own 6 (List.replicate (((a0_caps).length : Int)).toNat (0 : Int)).length]
 let av12 : AV := .c (.own 7 (List.replicate (((a0_caps).length : Int)).toNat (0 : Int)).length)
 let av13 : AV := .a [vI a0_caps, .fnp 11 0, .own 4 (List.replicate (((a0_caps).length : Int)).toNat (0 : Int)).length, .own 5 (List.replicate (((a0_caps).length : Int)).toNat (false : Bool)).length, .own 7 (List.replicate (((a0_caps).length : Int)).toNat (0 : Int)).length]
 let av15 : AV := .c (.own 5 (List.replicate (((a0_caps).length : Int)).toNat (0 : Int)).length)
 let av16 : AV := .c (.own 6 (List.replicate (((a0_caps).length : Int)).toNat (false : Bool)).length)
 let av17 : AV := .a [vI a0_caps, .fnp 11 0, .own 4 (List.replicate (((a0_caps).length : Int)).toNat (0 : Int)).length, .own 6 (List.replicate (((a0_caps).length : Int)).toNat (false : Bool)).length, .own 5 (List.replicate (((a0_caps).length : Int)).toNat (0 : Int)).length]
 let av19 : AV := .c (.own 7 (List.replicate (((a0_caps).length : Int)).toNat (false : Bool)).length)
 let av20 : AV := .a [vI a0_caps, .fnp 11 0, .own 4 (List.replicate (((a0_caps).length : Int)).toNat (0 : Int)).length, .own 7 (List.replicate (((a0_caps).length : Int)).toNat (false : Bool)).length, .own 5 (List.replicate (((a0_caps).length : Int)).toNat (0 : Int)).length]
 let av22 : AV := .a [vI a0_caps, .fnp 11 0, .own 4 (List.replicate (((a0_caps).length : Int)).toNat (0 : Int)).length, .own 6 (List.replicate (((a0_caps).length : Int)).toNat (false : Bool)).length, .own 7 (List.replicate (((a0_caps).length : Int)).toNat (0 : Int)).length]
 let av24 : AV := .a [vI a0_caps, .fnp 11 0, .own 4 (List.replicate (((a0_caps).length : Int)).toNat (0 : Int)).length, .own 7 (List.replicate (((a0_caps).length : Int)).toNat (false : Bool)).length, .own 6 (List.replicate (((a0_caps).length : Int)).toNat (0 : Int)).length]
 let av26 : AV := .c (.own 4 (List.replicate (((a0_caps).length : Int)).toNat (false : Bool)).length)
 let av27 : AV := .a [vI a0_caps, .fnp 11 0, .own 5 (List.replicate (((a0_caps).length : Int)).toNat (0 : Int)).length, .own 4 (List.replicate (((a0_caps).length : Int)).toNat (false : Bool)).length, .own 6 (List.replicate (((a0_caps).length : Int)).toNat (0 : Int)).length]
 let av29 : AV := .a [vI a0_caps, .fnp 11 0, .own 5 (List.replicate (((a0_caps).length : Int)).toNat (0 : Int)).length, .own 4 (List.replicate (((a0_caps).length : Int)).toNat (false : Bool)).length, .own 7 (List.replicate (((a0_caps).length : Int)).toNat (0 : Int)).length]
 let av31 : AV := .a [vI a0_caps, .fnp 11 0, .own 6 (List.replicate (((a0_caps).length : Int)).toNat (0 : Int)).length, .own 4 (List.replicate (((a0_caps).length : Int)).toNat (false : Bool)).length, .own 5 (List.replicate (((a0_caps).length : Int)).toNat (0 : Int)).length]
 let av33 : AV := .a [vI a0_caps, .fnp 11 0, .own 7 (List.replicate (((a0_caps).length : Int)).toNat (0 : Int)).length, .own 4 (List.replicate (((a0_caps).length : Int)).toNat (false : Bool)).length, .own 5 (List.replicate (((a0_caps).length : Int)).toNat (0 : Int)).length]
 let av35 : AV := .a [vI a0_caps, .fnp 11 0, .own 6 (List.replicate (((a0_caps).length : Int)).toNat (0 : Int)).length, .own 4 (List.replicate (((a0_caps).length : Int)).toNat (false : Bool)).length, .own 7 (List.replicate (((a0_caps).length : Int)).toNat (0 : Int)).length]
 let av37 : AV := .a [vI a0_caps, .fnp 11 0, .own 7 (List.replicate (((a0_caps).length : Int)).toNat (0 : Int)).length, .own 4 (List.replicate (((a0_caps).length : Int)).toNat (false : Bool)).length, .own 6 (List.replicate (((a0_caps).length : Int)).toNat (0 : Int)).length]
 let av39 : AV := .a [vI a0_caps, .fnp 11 0, .own 5 (List.replicate (((a0_caps).length : Int)).toNat (0 : Int)).length, .own 6 (List.replicate (((a0_caps).length : Int)).toNat (false : Bool)).length, .own 4 (List.replicate (((a0_caps).length : Int)).toNat (0 : Int)).length]
 let av41 : AV := .a [vI a0_caps, .fnp 11 0, .own 5 (List.replicate (((a0_caps).length : Int)).toNat (0 : Int)).length, .own 7 (List.replicate (((a0_caps).length : Int)).toNat (false : Bool)).length, .own 4 (List.replicate (((a0_caps).length : Int)).toNat (0 : Int)).length]
 let av43 : AV := .a [vI a0_caps, .fnp 11 0, .own 6 (List.replicate (((a0_caps).length : Int)).toNat (0 : Int)).length, .own 5 (List.replicate (((a0_caps).length : Int)).toNat (false : Bool)).length, .own 4 (List.replicate (((a0_caps).length : Int)).toNat (0 : Int)).length]
 let av45 : AV := .a [vI a0_caps, .fnp 11 0, .own 7 (List.replicate (((a0_caps).length : Int)).toNat (0 : Int)).length, .own 5 (List.replicate (((a0_caps).length : Int)).toNat (false : Bool)).length, .own 4 (List.replicate (((a0_caps).length : Int)).toNat (0 : Int)).length]
 let av47 : AV := .a [vI a0_caps, .fnp 11 0, .own 6 (List.replicate (((a0_caps).length : Int)).toNat (0 : Int)).length, .own 7 (List.replicate (((a0_caps).length : Int)).toNat (false : Bool)).length, .own 4 (List.replicate (((a0_caps).length : Int)).toNat (0 : Int)).length]
 let av49 : AV := .a [vI a0_caps, .fnp 11 0, .own 7 (List.replicate (((a0_caps).length : Int)).toNat (0 : Int)).length, .own 6 (List.replicate (((a0_caps).length : Int)).toNat (false : Bool)).length, .own 4 (List.replicate (((a0_caps).length : Int)).toNat (0 : Int)).length]
 let av51 : AV := .a [vI a0_caps, .fnp 11 0, .own 5 (List.replicate (((a0_caps).length : Int)).toNat (0 : Int)).length, .own 6 (List.replicate (((a0_caps).length : Int)).toNat (false : Bool)).length, .own 7 (List.replicate (((a0_caps).length : Int)).toNat (0 : Int)).length]
 let av53 : AV := .a [vI a0_caps, .fnp 11 0, .own 5 (List.replicate (((a0_caps).length : Int)).toNat (0 : Int)).length, .own 7 (List.replicate (((a0_caps).length : Int)).toNat (false : Bool)).length, .own 6 (List.replicate (((a0_caps).length : Int)).toNat (0 : Int)).length]
 let av55 : AV := .a [vI a0_caps, .fnp 11 0, .own 6 (List.replicate (((a0_caps).length : Int)).toNat (0 : Int)).length, .own 5 (List.replicate (((a0_caps).length : Int)).toNat (false : Bool)).length, .own 7 (List.replicate (((a0_caps).length : Int)).toNat (0 : Int)).length]
 let av57 : AV := .a [vI a0_caps, .fnp 11 0, .own 7 (List.replicate (((a0_caps).length : Int)).toNat (0 : Int)).length, .own 5 (List.replicate (((a0_caps).length : Int)).toNat (false : Bool)).length, .own 6 (List.replicate (((a0_caps).length : Int)).toNat (0 : Int)).length]
 let av59 : AV := .a [vI a0_caps, .fnp 11 0, .own 6 (List.replicate (((a0_caps).length : Int)).toNat (0 : Int)).length, .own 7 (List.replicate (((a0_caps).length : Int)).toNat (false : Bool)).length, .own 5 (List.replicate (((a0_caps).length : Int)).toNat (0 : Int)).length]
 let av61 : AV := .a [vI a0_caps, .fnp 11 0, .own 7 (List.replicate (((a0_caps).length : Int)).toNat (0 : Int)).length, .own 6 (List.replicate (((a0_caps).length : Int)).toNat (false : Bool)).length, .own 5 (List.replicate (((a0_caps).length : Int)).toNat (0 : Int)).length]
 let obs3 : List Ob := [ob1, aSArc 54 a1b_Arcs, ob2, .box [.int .i64 0]]
 let y1 := ((a0_caps).length : Int)
 let y2 := List.replicate y1.toNat (0 : Int)
 refine SCode.draw2 (sH := [(26, ci y1), (24, ci y1), (22, ci y1), (21, .c (.fnp 11 0)), (20, .c (vI a0_caps)), (0, .c (vI a0_caps)), (1, .c (.fnp 11 0)), (4, .c (.ptr 2 0)), (5, .c (.ptr 3 0)), (7, ci y1)]) mixed [[], [], [], [2], [], [4], [], [6], [0, 1, 2, 3, 4, 5, 6, 7], [], [0, 1, 2, 3, 4, 5, 6, 7, 8, 9]] [3, 5, 7, 8, 9, 10] (fun h => List.getD ([] : List (List Nat)) h []) rfl ?_ ⟨[(1, .c (.fnp 11 0)), (4, .c (.ptr 2 0)), (5, .c (.ptr 3 0)), (7, ci y1), (8, .c (.ptr 4 0))], [.box [.int .i64 a1b_Nodes, .own 1 a1b_Arcs.length], aSArc 54 a1b_Arcs, .box [.raw (.slice none 0 0)], .box [.int .i64 0], .box [vI a0_caps, .fnp 11 0, .own 5 y2.length, .own 6 (List.replicate y1.toNat (false : Bool)).length, .own 7 y2.length], aI 3 y2, aB 4 (List.replicate y1.toNat (false : Bool)), aI 3 y2]⟩ ?_ ?_
 ·refine HChain.run rfl rfl (.plain rfl) rfl (fun f x => q_move rfl rfl) (HChain.run rfl rfl (.plain rfl) rfl (fun f x => q_move rfl rfl) (HChain.run rfl rfl (.plain rfl) rfl (fun f x => q_move rfl rfl) (HChain.tail rfl (HChain.run rfl rfl (.plain rfl) rfl (fun f x => q_move rfl rfl) (HChain.tail rfl (HChain.run rfl rfl (.plain rfl) rfl (fun f x => q_move rfl rfl) (HChain.tail rfl (HChain.tail rfl (HChain.tail rfl (HChain.tail rfl ?_))))))))))
  exact HChain.nil _ _
 ·refine TTree.node 3 [5, 7, 9] rfl (AllP.cons ?_ (AllP.cons ?_ (AllP.cons ?_ (AllP.cons ?_ AllP.nil))))
  ·refine td (objs' := obs3 ++ [ob4]) (v := av5) 23 rfl rfl rfl rfl rfl (fun _ => EOp.eq (e_makeL (c := (cInt .i64)) (d0 := 0) rfl rfl rfl rfl rfl sl22 z3 rfl rfl rfl g4.1 (Int.le_refl _) g4.2.1 g4.2.2) rfl) rfl rfl ?_
   refine TTree.node 5 [7, 9] rfl (AllP.cons ?_ (AllP.cons ?_ (AllP.cons ?_ AllP.nil)))
   ·refine td (objs' := obs3 ++ [ob4, ob6]) (v := av7) 25 rfl rfl rfl rfl rfl (fun _ => EOp.eq (e_makeL (c := cBool) (d0 := false) rfl rfl rfl rfl rfl sl55 z4 rfl rfl rfl g5.1 (Int.le_refl _) g5.2.1 g5.2.2) rfl) rfl rfl ?_
    refine TTree.node 7 [9] rfl (AllP.cons ?_ (AllP.cons ?_ AllP.nil))
    ·refine td (objs' := obs3 ++ [ob4, ob6, ob4]) (v := av8) 27 rfl rfl rfl rfl rfl (fun _ => EOp.eq (e_makeL (c := (cInt .i64)) (d0 := 0) rfl rfl rfl rfl rfl sl22 z3 rfl rfl rfl g6.1 (Int.le_refl _) g6.2.1 g6.2.2) rfl) rfl rfl ?_
     refine TTree.node 8 [9] rfl (AllP.cons ?_ (AllP.cons ?_ AllP.nil))
     ·refine td (objs' := obs3 ++ [ob4, ob6, ob4]) (v := av9) 28 rfl rfl rfl rfl rfl (fun _ => EOp.eq (EOp.qd rfl rfl (q_build2 rfl rfl pl57 rfl)) rfl) rfl rfl ?_
      refine t1 9 rfl (td (objs' := obs3 ++ [ob4, ob6, ob4, ob10]) (v := .c (.ptr 7 0)) 8 rfl rfl rfl rfl rfl (fun _ => EOp.eq (e_alloc rfl rfl rfl z57) rfl) rfl rfl ?_)
      refine t1 10 rfl (tn (objs' := obs3 ++ [ob4, ob6, ob4, ob11]) rfl rfl rfl rfl (fun _ => EOp.eq (e_store_box rfl rfl rfl rfl rfl ty57 rfl rfl rfl rfl) rfl) rfl rfl ?_)
      exact tl rfl (sub_gen [0, 1, 2, 3, 7, 4, 5, 6] rfl rfl (zall rfl rfl) ⟨bx rfl rfl rfl, oa rfl, bx rfl rfl rfl, bx rfl rfl rfl, bx rfl rfl rfl, oa rfl, oa rfl, oa rfl, trivial⟩)
     ·refine td (objs' := obs3 ++ [ob4, ob6, ob4, ob10]) (v := .c (.ptr 7 0)) 8 rfl rfl rfl rfl rfl (fun _ => EOp.eq (e_alloc rfl rfl rfl z57) rfl) rfl rfl ?_
      refine t1 8 rfl (td (objs' := obs3 ++ [ob4, ob6, ob4, ob10]) (v := av9) 28 rfl rfl rfl rfl rfl (fun _ => EOp.eq (EOp.qd rfl rfl (q_build2 rfl rfl pl57 rfl)) rfl) rfl rfl ?_)
      refine t1 10 rfl (tn (objs' := obs3 ++ [ob4, ob6, ob4, ob11]) rfl rfl rfl rfl (fun _ => EOp.eq (e_store_box rfl rfl rfl rfl rfl ty57 rfl rfl rfl rfl) rfl) rfl rfl ?_)
      exact tl rfl (sub_gen [0, 1, 2, 3, 7, 4, 5, 6] rfl rfl (zall rfl rfl) ⟨bx rfl rfl rfl, oa rfl, bx rfl rfl rfl, bx rfl rfl rfl, bx rfl rfl rfl, oa rfl, oa rfl, oa rfl, trivial⟩)
    ·refine td (objs' := obs3 ++ [ob4, ob6, ob10]) (v := .c (.ptr 6 0)) 8 rfl rfl rfl rfl rfl (fun _ => EOp.eq (e_alloc rfl rfl rfl z57) rfl) rfl rfl ?_
     refine t1 7 rfl (td (objs' := obs3 ++ [ob4, ob6, ob10, ob4]) (v := av12) 27 rfl rfl rfl rfl rfl (fun _ => EOp.eq (e_makeL (c := (cInt .i64)) (d0 := 0) rfl rfl rfl rfl rfl sl22 z3 rfl rfl rfl g6.1 (Int.le_refl _) g6.2.1 g6.2.2) rfl) rfl rfl ?_)
     refine t1 8 rfl (td (objs' := obs3 ++ [ob4, ob6, ob10, ob4]) (v := av13) 28 rfl rfl rfl rfl rfl (fun _ => EOp.eq (EOp.qd rfl rfl (q_build2 rfl rfl pl57 rfl)) rfl) rfl rfl ?_)
     refine t1 10 rfl (tn (objs' := obs3 ++ [ob4, ob6, ob14, ob4]) rfl rfl rfl rfl (fun _ => EOp.eq (e_store_box rfl rfl rfl rfl rfl ty57 rfl rfl rfl rfl) rfl) rfl rfl ?_)
     exact tl rfl (sub_gen [0, 1, 2, 3, 6, 4, 5, 7] rfl rfl (zall rfl rfl) ⟨bx rfl rfl rfl, oa rfl, bx rfl rfl rfl, bx rfl rfl rfl, bx rfl rfl rfl, oa rfl, oa rfl, oa rfl, trivial⟩)
   ·refine td (objs' := obs3 ++ [ob4, ob4]) (v := av15) 27 rfl rfl rfl rfl rfl (fun _ => EOp.eq (e_makeL (c := (cInt .i64)) (d0 := 0) rfl rfl rfl rfl rfl sl22 z3 rfl rfl rfl g6.1 (Int.le_refl _) g6.2.1 g6.2.2) rfl) rfl rfl ?_
    refine TTree.node 5 [9] rfl (AllP.cons ?_ (AllP.cons ?_ AllP.nil))
    ·refine td (objs' := obs3 ++ [ob4, ob4, ob6]) (v := av16) 25 rfl rfl rfl rfl rfl (fun _ => EOp.eq (e_makeL (c := cBool) (d0 := false) rfl rfl rfl rfl rfl sl55 z4 rfl rfl rfl g5.1 (Int.le_refl _) g5.2.1 g5.2.2) rfl) rfl rfl ?_
     refine TTree.node 8 [9] rfl (AllP.cons ?_ (AllP.cons ?_ AllP.nil))
     ·refine td (objs' := obs3 ++ [ob4, ob4, ob6]) (v := av17) 28 rfl rfl rfl rfl rfl (fun _ => EOp.eq (EOp.qd rfl rfl (q_build2 rfl rfl pl57 rfl)) rfl) rfl rfl ?_
      refine t1 9 rfl (td (objs' := obs3 ++ [ob4, ob4, ob6, ob10]) (v := .c (.ptr 7 0)) 8 rfl rfl rfl rfl rfl (fun _ => EOp.eq (e_alloc rfl rfl rfl z57) rfl) rfl rfl ?_)
      refine t1 10 rfl (tn (objs' := obs3 ++ [ob4, ob4, ob6, ob18]) rfl rfl rfl rfl (fun _ => EOp.eq (e_store_box rfl rfl rfl rfl rfl ty57 rfl rfl rfl rfl) rfl) rfl rfl ?_)
      exact tl rfl (sub_gen [0, 1, 2, 3, 7, 4, 6, 5] rfl rfl (zall rfl rfl) ⟨bx rfl rfl rfl, oa rfl, bx rfl rfl rfl, bx rfl rfl rfl, bx rfl rfl rfl, oa rfl, oa rfl, oa rfl, trivial⟩)
     ·refine td (objs' := obs3 ++ [ob4, ob4, ob6, ob10]) (v := .c (.ptr 7 0)) 8 rfl rfl rfl rfl rfl (fun _ => EOp.eq (e_alloc rfl rfl rfl z57) rfl) rfl rfl ?_
      refine t1 8 rfl (td (objs' := obs3 ++ [ob4, ob4, ob6, ob10]) (v := av17) 28 rfl rfl rfl rfl rfl (fun _ => EOp.eq (EOp.qd rfl rfl (q_build2 rfl rfl pl57 rfl)) rfl) rfl rfl ?_)
      refine t1 10 rfl (tn (objs' := obs3 ++ [ob4, ob4, ob6, ob18]) rfl rfl rfl rfl (fun _ => EOp.eq (e_store_box rfl rfl rfl rfl rfl ty57 rfl rfl rfl rfl) rfl) rfl rfl ?_)
      exact tl rfl (sub_gen [0, 1, 2, 3, 7, 4, 6, 5] rfl rfl (zall rfl rfl) ⟨bx rfl rfl rfl, oa rfl, bx rfl rfl rfl, bx rfl rfl rfl, bx rfl rfl rfl, oa rfl, oa rfl, oa rfl, trivial⟩)
    ·refine td (objs' := obs3 ++ [ob4, ob4, ob10]) (v := .c (.ptr 6 0)) 8 rfl rfl rfl rfl rfl (fun _ => EOp.eq (e_alloc rfl rfl rfl z57) rfl) rfl rfl ?_
     refine t1 5 rfl (td (objs' := obs3 ++ [ob4, ob4, ob10, ob6]) (v := av19) 25 rfl rfl rfl rfl rfl (fun _ => EOp.eq (e_makeL (c := cBool) (d0 := false) rfl rfl rfl rfl rfl sl55 z4 rfl rfl rfl g5.1 (Int.le_refl _) g5.2.1 g5.2.2) rfl) rfl rfl ?_)
     refine t1 8 rfl (td (objs' := obs3 ++ [ob4, ob4, ob10, ob6]) (v := av20) 28 rfl rfl rfl rfl rfl (fun _ => EOp.eq (EOp.qd rfl rfl (q_build2 rfl rfl pl57 rfl)) rfl) rfl rfl ?_)
     refine t1 10 rfl (tn (objs' := obs3 ++ [ob4, ob4, ob21, ob6]) rfl rfl rfl rfl (fun _ => EOp.eq (e_store_box rfl rfl rfl rfl rfl ty57 rfl rfl rfl rfl) rfl) rfl rfl ?_)
     exact tl rfl (sub_gen [0, 1, 2, 3, 6, 4, 7, 5] rfl rfl (zall rfl rfl) ⟨bx rfl rfl rfl, oa rfl, bx rfl rfl rfl, bx rfl rfl rfl, bx rfl rfl rfl, oa rfl, oa rfl, oa rfl, trivial⟩)
   ·refine td (objs' := obs3 ++ [ob4, ob10]) (v := .c (.ptr 5 0)) 8 rfl rfl rfl rfl rfl (fun _ => EOp.eq (e_alloc rfl rfl rfl z57) rfl) rfl rfl ?_
    refine TTree.node 5 [7] rfl (AllP.cons ?_ (AllP.cons ?_ AllP.nil))
    ·refine td (objs' := obs3 ++ [ob4, ob10, ob6]) (v := av16) 25 rfl rfl rfl rfl rfl (fun _ => EOp.eq (e_makeL (c := cBool) (d0 := false) rfl rfl rfl rfl rfl sl55 z4 rfl rfl rfl g5.1 (Int.le_refl _) g5.2.1 g5.2.2) rfl) rfl rfl ?_
     refine t1 7 rfl (td (objs' := obs3 ++ [ob4, ob10, ob6, ob4]) (v := av12) 27 rfl rfl rfl rfl rfl (fun _ => EOp.eq (e_makeL (c := (cInt .i64)) (d0 := 0) rfl rfl rfl rfl rfl sl22 z3 rfl rfl rfl g6.1 (Int.le_refl _) g6.2.1 g6.2.2) rfl) rfl rfl ?_)
     refine t1 8 rfl (td (objs' := obs3 ++ [ob4, ob10, ob6, ob4]) (v := av22) 28 rfl rfl rfl rfl rfl (fun _ => EOp.eq (EOp.qd rfl rfl (q_build2 rfl rfl pl57 rfl)) rfl) rfl rfl ?_)
     refine t1 10 rfl (tn (objs' := obs3 ++ [ob4, ob23, ob6, ob4]) rfl rfl rfl rfl (fun _ => EOp.eq (e_store_box rfl rfl rfl rfl rfl ty57 rfl rfl rfl rfl) rfl) rfl rfl ?_)
     exact tl rfl (sub_gen [0, 1, 2, 3, 5, 4, 6, 7] rfl rfl (zall rfl rfl) ⟨bx rfl rfl rfl, oa rfl, bx rfl rfl rfl, bx rfl rfl rfl, bx rfl rfl rfl, oa rfl, oa rfl, oa rfl, trivial⟩)
    ·refine td (objs' := obs3 ++ [ob4, ob10, ob4]) (v := av8) 27 rfl rfl rfl rfl rfl (fun _ => EOp.eq (e_makeL (c := (cInt .i64)) (d0 := 0) rfl rfl rfl rfl rfl sl22 z3 rfl rfl rfl g6.1 (Int.le_refl _) g6.2.1 g6.2.2) rfl) rfl rfl ?_
     refine t1 5 rfl (td (objs' := obs3 ++ [ob4, ob10, ob4, ob6]) (v := av19) 25 rfl rfl rfl rfl rfl (fun _ => EOp.eq (e_makeL (c := cBool) (d0 := false) rfl rfl rfl rfl rfl sl55 z4 rfl rfl rfl g5.1 (Int.le_refl _) g5.2.1 g5.2.2) rfl) rfl rfl ?_)
     refine t1 8 rfl (td (objs' := obs3 ++ [ob4, ob10, ob4, ob6]) (v := av24) 28 rfl rfl rfl rfl rfl (fun _ => EOp.eq (EOp.qd rfl rfl (q_build2 rfl rfl pl57 rfl)) rfl) rfl rfl ?_)
     refine t1 10 rfl (tn (objs' := obs3 ++ [ob4, ob25, ob4, ob6]) rfl rfl rfl rfl (fun _ => EOp.eq (e_store_box rfl rfl rfl rfl rfl ty57 rfl rfl rfl rfl) rfl) rfl rfl ?_)
     exact tl rfl (sub_gen [0, 1, 2, 3, 5, 4, 7, 6] rfl rfl (zall rfl rfl) ⟨bx rfl rfl rfl, oa rfl, bx rfl rfl rfl, bx rfl rfl rfl, bx rfl rfl rfl, oa rfl, oa rfl, oa rfl, trivial⟩)
  ·refine td (objs' := obs3 ++ [ob6]) (v := av26) 25 rfl rfl rfl rfl rfl (fun _ => EOp.eq (e_makeL (c := cBool) (d0 := false) rfl rfl rfl rfl rfl sl55 z4 rfl rfl rfl g5.1 (Int.le_refl _) g5.2.1 g5.2.2) rfl) rfl rfl ?_
   refine TTree.node 3 [7, 9] rfl (AllP.cons ?_ (AllP.cons ?_ (AllP.cons ?_ AllP.nil)))
   ·refine td (objs' := obs3 ++ [ob6, ob4]) (v := av15) 23 rfl rfl rfl rfl rfl (fun _ => EOp.eq (e_makeL (c := (cInt .i64)) (d0 := 0) rfl rfl rfl rfl rfl sl22 z3 rfl rfl rfl g4.1 (Int.le_refl _) g4.2.1 g4.2.2) rfl) rfl rfl ?_
    refine TTree.node 7 [9] rfl (AllP.cons ?_ (AllP.cons ?_ AllP.nil))
    ·refine td (objs' := obs3 ++ [ob6, ob4, ob4]) (v := av8) 27 rfl rfl rfl rfl rfl (fun _ => EOp.eq (e_makeL (c := (cInt .i64)) (d0 := 0) rfl rfl rfl rfl rfl sl22 z3 rfl rfl rfl g6.1 (Int.le_refl _) g6.2.1 g6.2.2) rfl) rfl rfl ?_
     refine TTree.node 8 [9] rfl (AllP.cons ?_ (AllP.cons ?_ AllP.nil))
     ·refine td (objs' := obs3 ++ [ob6, ob4, ob4]) (v := av27) 28 rfl rfl rfl rfl rfl (fun _ => EOp.eq (EOp.qd rfl rfl (q_build2 rfl rfl pl57 rfl)) rfl) rfl rfl ?_
      refine t1 9 rfl (td (objs' := obs3 ++ [ob6, ob4, ob4, ob10]) (v := .c (.ptr 7 0)) 8 rfl rfl rfl rfl rfl (fun _ => EOp.eq (e_alloc rfl rfl rfl z57) rfl) rfl rfl ?_)
      refine t1 10 rfl (tn (objs' := obs3 ++ [ob6, ob4, ob4, ob28]) rfl rfl rfl rfl (fun _ => EOp.eq (e_store_box rfl rfl rfl rfl rfl ty57 rfl rfl rfl rfl) rfl) rfl rfl ?_)
      exact tl rfl (sub_gen [0, 1, 2, 3, 7, 5, 4, 6] rfl rfl (zall rfl rfl) ⟨bx rfl rfl rfl, oa rfl, bx rfl rfl rfl, bx rfl rfl rfl, bx rfl rfl rfl, oa rfl, oa rfl, oa rfl, trivial⟩)
     ·refine td (objs' := obs3 ++ [ob6, ob4, ob4, ob10]) (v := .c (.ptr 7 0)) 8 rfl rfl rfl rfl rfl (fun _ => EOp.eq (e_alloc rfl rfl rfl z57) rfl) rfl rfl ?_
      refine t1 8 rfl (td (objs' := obs3 ++ [ob6, ob4, ob4, ob10]) (v := av27) 28 rfl rfl rfl rfl rfl (fun _ => EOp.eq (EOp.qd rfl rfl (q_build2 rfl rfl pl57 rfl)) rfl) rfl rfl ?_)
      refine t1 10 rfl (tn (objs' := obs3 ++ [ob6, ob4, ob4, ob28]) rfl rfl rfl rfl (fun _ => EOp.eq (e_store_box rfl rfl rfl rfl rfl ty57 rfl rfl rfl rfl) rfl) rfl rfl ?_)
      exact tl rfl (sub_gen [0, 1, 2, 3, 7, 5, 4, 6] rfl rfl (zall rfl rfl) ⟨bx rfl rfl rfl, oa rfl, bx rfl rfl rfl, bx rfl rfl rfl, bx rfl rfl rfl, oa rfl, oa rfl, oa rfl, trivial⟩)
    ·refine td (objs' := obs3 ++ [ob6, ob4, ob10]) (v := .c (.ptr 6 0)) 8 rfl rfl rfl rfl rfl (fun _ => EOp.eq (e_alloc rfl rfl rfl z57) rfl) rfl rfl ?_
     refine t1 7 rfl (td (objs' := obs3 ++ [ob6, ob4, ob10, ob4]) (v := av12) 27 rfl rfl rfl rfl rfl (fun _ => EOp.eq (e_makeL (c := (cInt .i64)) (d0 := 0) rfl rfl rfl rfl rfl sl22 z3 rfl rfl rfl g6.1 (Int.le_refl _) g6.2.1 g6.2.2) rfl) rfl rfl ?_)
     refine t1 8 rfl (td (objs' := obs3 ++ [ob6, ob4, ob10, ob4]) (v := av29) 28 rfl rfl rfl rfl rfl (fun _ => EOp.eq (EOp.qd rfl rfl (q_build2 rfl rfl pl57 rfl)) rfl) rfl rfl ?_)
     refine t1 10 rfl (tn (objs' := obs3 ++ [ob6, ob4, ob30, ob4]) rfl rfl rfl rfl (fun _ => EOp.eq (e_store_box rfl rfl rfl rfl rfl ty57 rfl rfl rfl rfl) rfl) rfl rfl ?_)
     exact tl rfl (sub_gen [0, 1, 2, 3, 6, 5, 4, 7] rfl rfl (zall rfl rfl) ⟨bx rfl rfl rfl, oa rfl, bx rfl rfl rfl, bx rfl rfl rfl, bx rfl rfl rfl, oa rfl, oa rfl, oa rfl, trivial⟩)
   ·refine td (objs' := obs3 ++ [ob6, ob4]) (v := av15) 27 rfl rfl rfl rfl rfl (fun _ => EOp.eq (e_makeL (c := (cInt .i64)) (d0 := 0) rfl rfl rfl rfl rfl sl22 z3 rfl rfl rfl g6.1 (Int.le_refl _) g6.2.1 g6.2.2) rfl) rfl rfl ?_
    refine TTree.node 3 [9] rfl (AllP.cons ?_ (AllP.cons ?_ AllP.nil))
    ·refine td (objs' := obs3 ++ [ob6, ob4, ob4]) (v := av8) 23 rfl rfl rfl rfl rfl (fun _ => EOp.eq (e_makeL (c := (cInt .i64)) (d0 := 0) rfl rfl rfl rfl rfl sl22 z3 rfl rfl rfl g4.1 (Int.le_refl _) g4.2.1 g4.2.2) rfl) rfl rfl ?_
     refine TTree.node 8 [9] rfl (AllP.cons ?_ (AllP.cons ?_ AllP.nil))
     ·refine td (objs' := obs3 ++ [ob6, ob4, ob4]) (v := av31) 28 rfl rfl rfl rfl rfl (fun _ => EOp.eq (EOp.qd rfl rfl (q_build2 rfl rfl pl57 rfl)) rfl) rfl rfl ?_
      refine t1 9 rfl (td (objs' := obs3 ++ [ob6, ob4, ob4, ob10]) (v := .c (.ptr 7 0)) 8 rfl rfl rfl rfl rfl (fun _ => EOp.eq (e_alloc rfl rfl rfl z57) rfl) rfl rfl ?_)
      refine t1 10 rfl (tn (objs' := obs3 ++ [ob6, ob4, ob4, ob32]) rfl rfl rfl rfl (fun _ => EOp.eq (e_store_box rfl rfl rfl rfl rfl ty57 rfl rfl rfl rfl) rfl) rfl rfl ?_)
      exact tl rfl (sub_gen [0, 1, 2, 3, 7, 6, 4, 5] rfl rfl (zall rfl rfl) ⟨bx rfl rfl rfl, oa rfl, bx rfl rfl rfl, bx rfl rfl rfl, bx rfl rfl rfl, oa rfl, oa rfl, oa rfl, trivial⟩)
     ·refine td (objs' := obs3 ++ [ob6, ob4, ob4, ob10]) (v := .c (.ptr 7 0)) 8 rfl rfl rfl rfl rfl (fun _ => EOp.eq (e_alloc rfl rfl rfl z57) rfl) rfl rfl ?_
      refine t1 8 rfl (td (objs' := obs3 ++ [ob6, ob4, ob4, ob10]) (v := av31) 28 rfl rfl rfl rfl rfl (fun _ => EOp.eq (EOp.qd rfl rfl (q_build2 rfl rfl pl57 rfl)) rfl) rfl rfl ?_)
      refine t1 10 rfl (tn (objs' := obs3 ++ [ob6, ob4, ob4, ob32]) rfl rfl rfl rfl (fun _ => EOp.eq (e_store_box rfl rfl rfl rfl rfl ty57 rfl rfl rfl rfl) rfl) rfl rfl ?_)
      exact tl rfl (sub_gen [0, 1, 2, 3, 7, 6, 4, 5] rfl rfl (zall rfl rfl) ⟨bx rfl rfl rfl, oa rfl, bx rfl rfl rfl, bx rfl rfl rfl, bx rfl rfl rfl, oa rfl, oa rfl, oa rfl, trivial⟩)
    ·refine td (objs' := obs3 ++ [ob6, ob4, ob10]) (v := .c (.ptr 6 0)) 8 rfl rfl rfl rfl rfl (fun _ => EOp.eq (e_alloc rfl rfl rfl z57) rfl) rfl rfl ?_
     refine t1 3 rfl (td (objs' := obs3 ++ [ob6, ob4, ob10, ob4]) (v := av12) 23 rfl rfl rfl rfl rfl (fun _ => EOp.eq (e_makeL (c := (cInt .i64)) (d0 := 0) rfl rfl rfl rfl rfl sl22 z3 rfl rfl rfl g4.1 (Int.le_refl _) g4.2.1 g4.2.2) rfl) rfl rfl ?_)
     refine t1 8 rfl (td (objs' := obs3 ++ [ob6, ob4, ob10, ob4]) (v := av33) 28 rfl rfl rfl rfl rfl (fun _ => EOp.eq (EOp.qd rfl rfl (q_build2 rfl rfl pl57 rfl)) rfl) rfl rfl ?_)
     refine t1 10 rfl (tn (objs' := obs3 ++ [ob6, ob4, ob34, ob4]) rfl rfl rfl rfl (fun _ => EOp.eq (e_store_box rfl rfl rfl rfl rfl ty57 rfl rfl rfl rfl) rfl) rfl rfl ?_)
     exact tl rfl (sub_gen [0, 1, 2, 3, 6, 7, 4, 5] rfl rfl (zall rfl rfl) ⟨bx rfl rfl rfl, oa rfl, bx rfl rfl rfl, bx rfl rfl rfl, bx rfl rfl rfl, oa rfl, oa rfl, oa rfl, trivial⟩)
   ·refine td (objs' := obs3 ++ [ob6, ob10]) (v := .c (.ptr 5 0)) 8 rfl rfl rfl rfl rfl (fun _ => EOp.eq (e_alloc rfl rfl rfl z57) rfl) rfl rfl ?_
    refine TTree.node 3 [7] rfl (AllP.cons ?_ (AllP.cons ?_ AllP.nil))
    ·refine td (objs' := obs3 ++ [ob6, ob10, ob4]) (v := av8) 23 rfl rfl rfl rfl rfl (fun _ => EOp.eq (e_makeL (c := (cInt .i64)) (d0 := 0) rfl rfl rfl rfl rfl sl22 z3 rfl rfl rfl g4.1 (Int.le_refl _) g4.2.1 g4.2.2) rfl) rfl rfl ?_
     refine t1 7 rfl (td (objs' := obs3 ++ [ob6, ob10, ob4, ob4]) (v := av12) 27 rfl rfl rfl rfl rfl (fun _ => EOp.eq (e_makeL (c := (cInt .i64)) (d0 := 0) rfl rfl rfl rfl rfl sl22 z3 rfl rfl rfl g6.1 (Int.le_refl _) g6.2.1 g6.2.2) rfl) rfl rfl ?_)
     refine t1 8 rfl (td (objs' := obs3 ++ [ob6, ob10, ob4, ob4]) (v := av35) 28 rfl rfl rfl rfl rfl (fun _ => EOp.eq (EOp.qd rfl rfl (q_build2 rfl rfl pl57 rfl)) rfl) rfl rfl ?_)
     refine t1 10 rfl (tn (objs' := obs3 ++ [ob6, ob36, ob4, ob4]) rfl rfl rfl rfl (fun _ => EOp.eq (e_store_box rfl rfl rfl rfl rfl ty57 rfl rfl rfl rfl) rfl) rfl rfl ?_)
     exact tl rfl (sub_gen [0, 1, 2, 3, 5, 6, 4, 7] rfl rfl (zall rfl rfl) ⟨bx rfl rfl rfl, oa rfl, bx rfl rfl rfl, bx rfl rfl rfl, bx rfl rfl rfl, oa rfl, oa rfl, oa rfl, trivial⟩)
    ·refine td (objs' := obs3 ++ [ob6, ob10, ob4]) (v := av8) 27 rfl rfl rfl rfl rfl (fun _ => EOp.eq (e_makeL (c := (cInt .i64)) (d0 := 0) rfl rfl rfl rfl rfl sl22 z3 rfl rfl rfl g6.1 (Int.le_refl _) g6.2.1 g6.2.2) rfl) rfl rfl ?_
     refine t1 3 rfl (td (objs' := obs3 ++ [ob6, ob10, ob4, ob4]) (v := av12) 23 rfl rfl rfl rfl rfl (fun _ => EOp.eq (e_makeL (c := (cInt .i64)) (d0 := 0) rfl rfl rfl rfl rfl sl22 z3 rfl rfl rfl g4.1 (Int.le_refl _) g4.2.1 g4.2.2) rfl) rfl rfl ?_)
     refine t1 8 rfl (td (objs' := obs3 ++ [ob6, ob10, ob4, ob4]) (v := av37) 28 rfl rfl rfl rfl rfl (fun _ => EOp.eq (EOp.qd rfl rfl (q_build2 rfl rfl pl57 rfl)) rfl) rfl rfl ?_)
     refine t1 10 rfl (tn (objs' := obs3 ++ [ob6, ob38, ob4, ob4]) rfl rfl rfl rfl (fun _ => EOp.eq (e_store_box rfl rfl rfl rfl rfl ty57 rfl rfl rfl rfl) rfl) rfl rfl ?_)
     exact tl rfl (sub_gen [0, 1, 2, 3, 5, 7, 4, 6] rfl rfl (zall rfl rfl) ⟨bx rfl rfl rfl, oa rfl, bx rfl rfl rfl, bx rfl rfl rfl, bx rfl rfl rfl, oa rfl, oa rfl, oa rfl, trivial⟩)
  ·refine td (objs' := obs3 ++ [ob4]) (v := av5) 27 rfl rfl rfl rfl rfl (fun _ => EOp.eq (e_makeL (c := (cInt .i64)) (d0 := 0) rfl rfl rfl rfl rfl sl22 z3 rfl rfl rfl g6.1 (Int.le_refl _) g6.2.1 g6.2.2) rfl) rfl rfl ?_
   refine TTree.node 3 [5, 9] rfl (AllP.cons ?_ (AllP.cons ?_ (AllP.cons ?_ AllP.nil)))
   ·refine td (objs' := obs3 ++ [ob4, ob4]) (v := av15) 23 rfl rfl rfl rfl rfl (fun _ => EOp.eq (e_makeL (c := (cInt .i64)) (d0 := 0) rfl rfl rfl rfl rfl sl22 z3 rfl rfl rfl g4.1 (Int.le_refl _) g4.2.1 g4.2.2) rfl) rfl rfl ?_
    refine TTree.node 5 [9] rfl (AllP.cons ?_ (AllP.cons ?_ AllP.nil))
    ·refine td (objs' := obs3 ++ [ob4, ob4, ob6]) (v := av16) 25 rfl rfl rfl rfl rfl (fun _ => EOp.eq (e_makeL (c := cBool) (d0 := false) rfl rfl rfl rfl rfl sl55 z4 rfl rfl rfl g5.1 (Int.le_refl _) g5.2.1 g5.2.2) rfl) rfl rfl ?_
     refine TTree.node 8 [9] rfl (AllP.cons ?_ (AllP.cons ?_ AllP.nil))
     ·refine td (objs' := obs3 ++ [ob4, ob4, ob6]) (v := av39) 28 rfl rfl rfl rfl rfl (fun _ => EOp.eq (EOp.qd rfl rfl (q_build2 rfl rfl pl57 rfl)) rfl) rfl rfl ?_
      refine t1 9 rfl (td (objs' := obs3 ++ [ob4, ob4, ob6, ob10]) (v := .c (.ptr 7 0)) 8 rfl rfl rfl rfl rfl (fun _ => EOp.eq (e_alloc rfl rfl rfl z57) rfl) rfl rfl ?_)
      refine t1 10 rfl (tn (objs' := obs3 ++ [ob4, ob4, ob6, ob40]) rfl rfl rfl rfl (fun _ => EOp.eq (e_store_box rfl rfl rfl rfl rfl ty57 rfl rfl rfl rfl) rfl) rfl rfl ?_)
      exact tl rfl (sub_gen [0, 1, 2, 3, 7, 5, 6, 4] rfl rfl (zall rfl rfl) ⟨bx rfl rfl rfl, oa rfl, bx rfl rfl rfl, bx rfl rfl rfl, bx rfl rfl rfl, oa rfl, oa rfl, oa rfl, trivial⟩)
     ·refine td (objs' := obs3 ++ [ob4, ob4, ob6, ob10]) (v := .c (.ptr 7 0)) 8 rfl rfl rfl rfl rfl (fun _ => EOp.eq (e_alloc rfl rfl rfl z57) rfl) rfl rfl ?_
      refine t1 8 rfl (td (objs' := obs3 ++ [ob4, ob4, ob6, ob10]) (v := av39) 28 rfl rfl rfl rfl rfl (fun _ => EOp.eq (EOp.qd rfl rfl (q_build2 rfl rfl pl57 rfl)) rfl) rfl rfl ?_)
      refine t1 10 rfl (tn (objs' := obs3 ++ [ob4, ob4, ob6, ob40]) rfl rfl rfl rfl (fun _ => EOp.eq (e_store_box rfl rfl rfl rfl rfl ty57 rfl rfl rfl rfl) rfl) rfl rfl ?_)
      exact tl rfl (sub_gen [0, 1, 2, 3, 7, 5, 6, 4] rfl rfl (zall rfl rfl) ⟨bx rfl rfl rfl, oa rfl, bx rfl rfl rfl, bx rfl rfl rfl, bx rfl rfl rfl, oa rfl, oa rfl, oa rfl, trivial⟩)
    ·refine td (objs' := obs3 ++ [ob4, ob4, ob10]) (v := .c (.ptr 6 0)) 8 rfl rfl rfl rfl rfl (fun _ => EOp.eq (e_alloc rfl rfl rfl z57) rfl) rfl rfl ?_
     refine t1 5 rfl (td (objs' := obs3 ++ [ob4, ob4, ob10, ob6]) (v := av19) 25 rfl rfl rfl rfl rfl (fun _ => EOp.eq (e_makeL (c := cBool) (d0 := false) rfl rfl rfl rfl rfl sl55 z4 rfl rfl rfl g5.1 (Int.le_refl _) g5.2.1 g5.2.2) rfl) rfl rfl ?_)
     refine t1 8 rfl (td (objs' := obs3 ++ [ob4, ob4, ob10, ob6]) (v := av41) 28 rfl rfl rfl rfl rfl (fun _ => EOp.eq (EOp.qd rfl rfl (q_build2 rfl rfl pl57 rfl)) rfl) rfl rfl ?_)
     refine t1 10 rfl (tn (objs' := obs3 ++ [ob4, ob4, ob42, ob6]) rfl rfl rfl rfl (fun _ => EOp.eq (e_store_box rfl rfl rfl rfl rfl ty57 rfl rfl rfl rfl) rfl) rfl rfl ?_)
     exact tl rfl (sub_gen [0, 1, 2, 3, 6, 5, 7, 4] rfl rfl (zall rfl rfl) ⟨bx rfl rfl rfl, oa rfl, bx rfl rfl rfl, bx rfl rfl rfl, bx rfl rfl rfl, oa rfl, oa rfl, oa rfl, trivial⟩)
   ·refine td (objs' := obs3 ++ [ob4, ob6]) (v := av7) 25 rfl rfl rfl rfl rfl (fun _ => EOp.eq (e_makeL (c := cBool) (d0 := false) rfl rfl rfl rfl rfl sl55 z4 rfl rfl rfl g5.1 (Int.le_refl _) g5.2.1 g5.2.2) rfl) rfl rfl ?_
    refine TTree.node 3 [9] rfl (AllP.cons ?_ (AllP.cons ?_ AllP.nil))
    ·refine td (objs' := obs3 ++ [ob4, ob6, ob4]) (v := av8) 23 rfl rfl rfl rfl rfl (fun _ => EOp.eq (e_makeL (c := (cInt .i64)) (d0 := 0) rfl rfl rfl rfl rfl sl22 z3 rfl rfl rfl g4.1 (Int.le_refl _) g4.2.1 g4.2.2) rfl) rfl rfl ?_
     refine TTree.node 8 [9] rfl (AllP.cons ?_ (AllP.cons ?_ AllP.nil))
     ·refine td (objs' := obs3 ++ [ob4, ob6, ob4]) (v := av43) 28 rfl rfl rfl rfl rfl (fun _ => EOp.eq (EOp.qd rfl rfl (q_build2 rfl rfl pl57 rfl)) rfl) rfl rfl ?_
      refine t1 9 rfl (td (objs' := obs3 ++ [ob4, ob6, ob4, ob10]) (v := .c (.ptr 7 0)) 8 rfl rfl rfl rfl rfl (fun _ => EOp.eq (e_alloc rfl rfl rfl z57) rfl) rfl rfl ?_)
      refine t1 10 rfl (tn (objs' := obs3 ++ [ob4, ob6, ob4, ob44]) rfl rfl rfl rfl (fun _ => EOp.eq (e_store_box rfl rfl rfl rfl rfl ty57 rfl rfl rfl rfl) rfl) rfl rfl ?_)
      exact tl rfl (sub_gen [0, 1, 2, 3, 7, 6, 5, 4] rfl rfl (zall rfl rfl) ⟨bx rfl rfl rfl, oa rfl, bx rfl rfl rfl, bx rfl rfl rfl, bx rfl rfl rfl, oa rfl, oa rfl, oa rfl, trivial⟩)
     ·refine td (objs' := obs3 ++ [ob4, ob6, ob4, ob10]) (v := .c (.ptr 7 0)) 8 rfl rfl rfl rfl rfl (fun _ => EOp.eq (e_alloc rfl rfl rfl z57) rfl) rfl rfl ?_
      refine t1 8 rfl (td (objs' := obs3 ++ [ob4, ob6, ob4, ob10]) (v := av43) 28 rfl rfl rfl rfl rfl (fun _ => EOp.eq (EOp.qd rfl rfl (q_build2 rfl rfl pl57 rfl)) rfl) rfl rfl ?_)
      refine t1 10 rfl (tn (objs' := obs3 ++ [ob4, ob6, ob4, ob44]) rfl rfl rfl rfl (fun _ => EOp.eq (e_store_box rfl rfl rfl rfl rfl ty57 rfl rfl rfl rfl) rfl) rfl rfl ?_)
      exact tl rfl (sub_gen [0, 1, 2, 3, 7, 6, 5, 4] rfl rfl (zall rfl rfl) ⟨bx rfl rfl rfl, oa rfl, bx rfl rfl rfl, bx rfl rfl rfl, bx rfl rfl rfl, oa rfl, oa rfl, oa rfl, trivial⟩)
    ·refine td (objs' := obs3 ++ [ob4, ob6, ob10]) (v := .c (.ptr 6 0)) 8 rfl rfl rfl rfl rfl (fun _ => EOp.eq (e_alloc rfl rfl rfl z57) rfl) rfl rfl ?_
     refine t1 3 rfl (td (objs' := obs3 ++ [ob4, ob6, ob10, ob4]) (v := av12) 23 rfl rfl rfl rfl rfl (fun _ => EOp.eq (e_makeL (c := (cInt .i64)) (d0 := 0) rfl rfl rfl rfl rfl sl22 z3 rfl rfl rfl g4.1 (Int.le_refl _) g4.2.1 g4.2.2) rfl) rfl rfl ?_)
     refine t1 8 rfl (td (objs' := obs3 ++ [ob4, ob6, ob10, ob4]) (v := av45) 28 rfl rfl rfl rfl rfl (fun _ => EOp.eq (EOp.qd rfl rfl (q_build2 rfl rfl pl57 rfl)) rfl) rfl rfl ?_)
     refine t1 10 rfl (tn (objs' := obs3 ++ [ob4, ob6, ob46, ob4]) rfl rfl rfl rfl (fun _ => EOp.eq (e_store_box rfl rfl rfl rfl rfl ty57 rfl rfl rfl rfl) rfl) rfl rfl ?_)
     exact tl rfl (sub_gen [0, 1, 2, 3, 6, 7, 5, 4] rfl rfl (zall rfl rfl) ⟨bx rfl rfl rfl, oa rfl, bx rfl rfl rfl, bx rfl rfl rfl, bx rfl rfl rfl, oa rfl, oa rfl, oa rfl, trivial⟩)
   ·refine td (objs' := obs3 ++ [ob4, ob10]) (v := .c (.ptr 5 0)) 8 rfl rfl rfl rfl rfl (fun _ => EOp.eq (e_alloc rfl rfl rfl z57) rfl) rfl rfl ?_
    refine TTree.node 3 [5] rfl (AllP.cons ?_ (AllP.cons ?_ AllP.nil))
    ·refine td (objs' := obs3 ++ [ob4, ob10, ob4]) (v := av8) 23 rfl rfl rfl rfl rfl (fun _ => EOp.eq (e_makeL (c := (cInt .i64)) (d0 := 0) rfl rfl rfl rfl rfl sl22 z3 rfl rfl rfl g4.1 (Int.le_refl _) g4.2.1 g4.2.2) rfl) rfl rfl ?_
     refine t1 5 rfl (td (objs' := obs3 ++ [ob4, ob10, ob4, ob6]) (v := av19) 25 rfl rfl rfl rfl rfl (fun _ => EOp.eq (e_makeL (c := cBool) (d0 := false) rfl rfl rfl rfl rfl sl55 z4 rfl rfl rfl g5.1 (Int.le_refl _) g5.2.1 g5.2.2) rfl) rfl rfl ?_)
     refine t1 8 rfl (td (objs' := obs3 ++ [ob4, ob10, ob4, ob6]) (v := av47) 28 rfl rfl rfl rfl rfl (fun _ => EOp.eq (EOp.qd rfl rfl (q_build2 rfl rfl pl57 rfl)) rfl) rfl rfl ?_)
     refine t1 10 rfl (tn (objs' := obs3 ++ [ob4, ob48, ob4, ob6]) rfl rfl rfl rfl (fun _ => EOp.eq (e_store_box rfl rfl rfl rfl rfl ty57 rfl rfl rfl rfl) rfl) rfl rfl ?_)
     exact tl rfl (sub_gen [0, 1, 2, 3, 5, 6, 7, 4] rfl rfl (zall rfl rfl) ⟨bx rfl rfl rfl, oa rfl, bx rfl rfl rfl, bx rfl rfl rfl, bx rfl rfl rfl, oa rfl, oa rfl, oa rfl, trivial⟩)
    ·refine td (objs' := obs3 ++ [ob4, ob10, ob6]) (v := av16) 25 rfl rfl rfl rfl rfl (fun _ => EOp.eq (e_makeL (c := cBool) (d0 := false) rfl rfl rfl rfl rfl sl55 z4 rfl rfl rfl g5.1 (Int.le_refl _) g5.2.1 g5.2.2) rfl) rfl rfl ?_
     refine t1 3 rfl (td (objs' := obs3 ++ [ob4, ob10, ob6, ob4]) (v := av12) 23 rfl rfl rfl rfl rfl (fun _ => EOp.eq (e_makeL (c := (cInt .i64)) (d0 := 0) rfl rfl rfl rfl rfl sl22 z3 rfl rfl rfl g4.1 (Int.le_refl _) g4.2.1 g4.2.2) rfl) rfl rfl ?_)
     refine t1 8 rfl (td (objs' := obs3 ++ [ob4, ob10, ob6, ob4]) (v := av49) 28 rfl rfl rfl rfl rfl (fun _ => EOp.eq (EOp.qd rfl rfl (q_build2 rfl rfl pl57 rfl)) rfl) rfl rfl ?_)
     refine t1 10 rfl (tn (objs' := obs3 ++ [ob4, ob50, ob6, ob4]) rfl rfl rfl rfl (fun _ => EOp.eq (e_store_box rfl rfl rfl rfl rfl ty57 rfl rfl rfl rfl) rfl) rfl rfl ?_)
     exact tl rfl (sub_gen [0, 1, 2, 3, 5, 7, 6, 4] rfl rfl (zall rfl rfl) ⟨bx rfl rfl rfl, oa rfl, bx rfl rfl rfl, bx rfl rfl rfl, bx rfl rfl rfl, oa rfl, oa rfl, oa rfl, trivial⟩)
  ·refine td (objs' := obs3 ++ [ob10]) (v := .c (.ptr 4 0)) 8 rfl rfl rfl rfl rfl (fun _ => EOp.eq (e_alloc rfl rfl rfl z57) rfl) rfl rfl ?_
   refine TTree.node 3 [5, 7] rfl (AllP.cons ?_ (AllP.cons ?_ (AllP.cons ?_ AllP.nil)))
   ·refine td (objs' := obs3 ++ [ob10, ob4]) (v := av15) 23 rfl rfl rfl rfl rfl (fun _ => EOp.eq (e_makeL (c := (cInt .i64)) (d0 := 0) rfl rfl rfl rfl rfl sl22 z3 rfl rfl rfl g4.1 (Int.le_refl _) g4.2.1 g4.2.2) rfl) rfl rfl ?_
    refine TTree.node 5 [7] rfl (AllP.cons ?_ (AllP.cons ?_ AllP.nil))
    ·refine td (objs' := obs3 ++ [ob10, ob4, ob6]) (v := av16) 25 rfl rfl rfl rfl rfl (fun _ => EOp.eq (e_makeL (c := cBool) (d0 := false) rfl rfl rfl rfl rfl sl55 z4 rfl rfl rfl g5.1 (Int.le_refl _) g5.2.1 g5.2.2) rfl) rfl rfl ?_
     refine t1 7 rfl (td (objs' := obs3 ++ [ob10, ob4, ob6, ob4]) (v := av12) 27 rfl rfl rfl rfl rfl (fun _ => EOp.eq (e_makeL (c := (cInt .i64)) (d0 := 0) rfl rfl rfl rfl rfl sl22 z3 rfl rfl rfl g6.1 (Int.le_refl _) g6.2.1 g6.2.2) rfl) rfl rfl ?_)
     refine t1 8 rfl (td (objs' := obs3 ++ [ob10, ob4, ob6, ob4]) (v := av51) 28 rfl rfl rfl rfl rfl (fun _ => EOp.eq (EOp.qd rfl rfl (q_build2 rfl rfl pl57 rfl)) rfl) rfl rfl ?_)
     refine t1 10 rfl (tn (objs' := obs3 ++ [ob52, ob4, ob6, ob4]) rfl rfl rfl rfl (fun _ => EOp.eq (e_store_box rfl rfl rfl rfl rfl ty57 rfl rfl rfl rfl) rfl) rfl rfl ?_)
     exact tl rfl (sub_gen [0, 1, 2, 3, 4, 5, 6, 7] rfl rfl (zall rfl rfl) ⟨bx rfl rfl rfl, oa rfl, bx rfl rfl rfl, bx rfl rfl rfl, bx rfl rfl rfl, oa rfl, oa rfl, oa rfl, trivial⟩)
    ·refine td (objs' := obs3 ++ [ob10, ob4, ob4]) (v := av8) 27 rfl rfl rfl rfl rfl (fun _ => EOp.eq (e_makeL (c := (cInt .i64)) (d0 := 0) rfl rfl rfl rfl rfl sl22 z3 rfl rfl rfl g6.1 (Int.le_refl _) g6.2.1 g6.2.2) rfl) rfl rfl ?_
     refine t1 5 rfl (td (objs' := obs3 ++ [ob10, ob4, ob4, ob6]) (v := av19) 25 rfl rfl rfl rfl rfl (fun _ => EOp.eq (e_makeL (c := cBool) (d0 := false) rfl rfl rfl rfl rfl sl55 z4 rfl rfl rfl g5.1 (Int.le_refl _) g5.2.1 g5.2.2) rfl) rfl rfl ?_)
     refine t1 8 rfl (td (objs' := obs3 ++ [ob10, ob4, ob4, ob6]) (v := av53) 28 rfl rfl rfl rfl rfl (fun _ => EOp.eq (EOp.qd rfl rfl (q_build2 rfl rfl pl57 rfl)) rfl) rfl rfl ?_)
     refine t1 10 rfl (tn (objs' := obs3 ++ [ob54, ob4, ob4, ob6]) rfl rfl rfl rfl (fun _ => EOp.eq (e_store_box rfl rfl rfl rfl rfl ty57 rfl rfl rfl rfl) rfl) rfl rfl ?_)
     exact tl rfl (sub_gen [0, 1, 2, 3, 4, 5, 7, 6] rfl rfl (zall rfl rfl) ⟨bx rfl rfl rfl, oa rfl, bx rfl rfl rfl, bx rfl rfl rfl, bx rfl rfl rfl, oa rfl, oa rfl, oa rfl, trivial⟩)
   ·refine td (objs' := obs3 ++ [ob10, ob6]) (v := av7) 25 rfl rfl rfl rfl rfl (fun _ => EOp.eq (e_makeL (c := cBool) (d0 := false) rfl rfl rfl rfl rfl sl55 z4 rfl rfl rfl g5.1 (Int.le_refl _) g5.2.1 g5.2.2) rfl) rfl rfl ?_
    refine TTree.node 3 [7] rfl (AllP.cons ?_ (AllP.cons ?_ AllP.nil))
    ·refine td (objs' := obs3 ++ [ob10, ob6, ob4]) (v := av8) 23 rfl rfl rfl rfl rfl (fun _ => EOp.eq (e_makeL (c := (cInt .i64)) (d0 := 0) rfl rfl rfl rfl rfl sl22 z3 rfl rfl rfl g4.1 (Int.le_refl _) g4.2.1 g4.2.2) rfl) rfl rfl ?_
     refine t1 7 rfl (td (objs' := obs3 ++ [ob10, ob6, ob4, ob4]) (v := av12) 27 rfl rfl rfl rfl rfl (fun _ => EOp.eq (e_makeL (c := (cInt .i64)) (d0 := 0) rfl rfl rfl rfl rfl sl22 z3 rfl rfl rfl g6.1 (Int.le_refl _) g6.2.1 g6.2.2) rfl) rfl rfl ?_)
     refine t1 8 rfl (td (objs' := obs3 ++ [ob10, ob6, ob4, ob4]) (v := av55) 28 rfl rfl rfl rfl rfl (fun _ => EOp.eq (EOp.qd rfl rfl (q_build2 rfl rfl pl57 rfl)) rfl) rfl rfl ?_)
     refine t1 10 rfl (tn (objs' := obs3 ++ [ob56, ob6, ob4, ob4]) rfl rfl rfl rfl (fun _ => EOp.eq (e_store_box rfl rfl rfl rfl rfl ty57 rfl rfl rfl rfl) rfl) rfl rfl ?_)
     exact tl rfl (sub_gen [0, 1, 2, 3, 4, 6, 5, 7] rfl rfl (zall rfl rfl) ⟨bx rfl rfl rfl, oa rfl, bx rfl rfl rfl, bx rfl rfl rfl, bx rfl rfl rfl, oa rfl, oa rfl, oa rfl, trivial⟩)
    ·refine td (objs' := obs3 ++ [ob10, ob6, ob4]) (v := av8) 27 rfl rfl rfl rfl rfl (fun _ => EOp.eq (e_makeL (c := (cInt .i64)) (d0 := 0) rfl rfl rfl rfl rfl sl22 z3 rfl rfl rfl g6.1 (Int.le_refl _) g6.2.1 g6.2.2) rfl) rfl rfl ?_
     refine t1 3 rfl (td (objs' := obs3 ++ [ob10, ob6, ob4, ob4]) (v := av12) 23 rfl rfl rfl rfl rfl (fun _ => EOp.eq (e_makeL (c := (cInt .i64)) (d0 := 0) rfl rfl rfl rfl rfl sl22 z3 rfl rfl rfl g4.1 (Int.le_refl _) g4.2.1 g4.2.2) rfl) rfl rfl ?_)
     refine t1 8 rfl (td (objs' := obs3 ++ [ob10, ob6, ob4, ob4]) (v := av57) 28 rfl rfl rfl rfl rfl (fun _ => EOp.eq (EOp.qd rfl rfl (q_build2 rfl rfl pl57 rfl)) rfl) rfl rfl ?_)
     refine t1 10 rfl (tn (objs' := obs3 ++ [ob58, ob6, ob4, ob4]) rfl rfl rfl rfl (fun _ => EOp.eq (e_store_box rfl rfl rfl rfl rfl ty57 rfl rfl rfl rfl) rfl) rfl rfl ?_)
     exact tl rfl (sub_gen [0, 1, 2, 3, 4, 7, 5, 6] rfl rfl (zall rfl rfl) ⟨bx rfl rfl rfl, oa rfl, bx rfl rfl rfl, bx rfl rfl rfl, bx rfl rfl rfl, oa rfl, oa rfl, oa rfl, trivial⟩)
   ·refine td (objs' := obs3 ++ [ob10, ob4]) (v := av15) 27 rfl rfl rfl rfl rfl (fun _ => EOp.eq (e_makeL (c := (cInt .i64)) (d0 := 0) rfl rfl rfl rfl rfl sl22 z3 rfl rfl rfl g6.1 (Int.le_refl _) g6.2.1 g6.2.2) rfl) rfl rfl ?_
    refine TTree.node 3 [5] rfl (AllP.cons ?_ (AllP.cons ?_ AllP.nil))
    ·refine td (objs' := obs3 ++ [ob10, ob4, ob4]) (v := av8) 23 rfl rfl rfl rfl rfl (fun _ => EOp.eq (e_makeL (c := (cInt .i64)) (d0 := 0) rfl rfl rfl rfl rfl sl22 z3 rfl rfl rfl g4.1 (Int.le_refl _) g4.2.1 g4.2.2) rfl) rfl rfl ?_
     refine t1 5 rfl (td (objs' := obs3 ++ [ob10, ob4, ob4, ob6]) (v := av19) 25 rfl rfl rfl rfl rfl (fun _ => EOp.eq (e_makeL (c := cBool) (d0 := false) rfl rfl rfl rfl rfl sl55 z4 rfl rfl rfl g5.1 (Int.le_refl _) g5.2.1 g5.2.2) rfl) rfl rfl ?_)
     refine t1 8 rfl (td (objs' := obs3 ++ [ob10, ob4, ob4, ob6]) (v := av59) 28 rfl rfl rfl rfl rfl (fun _ => EOp.eq (EOp.qd rfl rfl (q_build2 rfl rfl pl57 rfl)) rfl) rfl rfl ?_)
     refine t1 10 rfl (tn (objs' := obs3 ++ [ob60, ob4, ob4, ob6]) rfl rfl rfl rfl (fun _ => EOp.eq (e_store_box rfl rfl rfl rfl rfl ty57 rfl rfl rfl rfl) rfl) rfl rfl ?_)
     exact tl rfl (sub_gen [0, 1, 2, 3, 4, 6, 7, 5] rfl rfl (zall rfl rfl) ⟨bx rfl rfl rfl, oa rfl, bx rfl rfl rfl, bx rfl rfl rfl, bx rfl rfl rfl, oa rfl, oa rfl, oa rfl, trivial⟩)
    ·refine td (objs' := obs3 ++ [ob10, ob4, ob6]) (v := av16) 25 rfl rfl rfl rfl rfl (fun _ => EOp.eq (e_makeL (c := cBool) (d0 := false) rfl rfl rfl rfl rfl sl55 z4 rfl rfl rfl g5.1 (Int.le_refl _) g5.2.1 g5.2.2) rfl) rfl rfl ?_
     refine t1 3 rfl (td (objs' := obs3 ++ [ob10, ob4, ob6, ob4]) (v := av12) 23 rfl rfl rfl rfl rfl (fun _ => EOp.eq (e_makeL (c := (cInt .i64)) (d0 := 0) rfl rfl rfl rfl rfl sl22 z3 rfl rfl rfl g4.1 (Int.le_refl _) g4.2.1 g4.2.2) rfl) rfl rfl ?_)
     refine t1 8 rfl (td (objs' := obs3 ++ [ob10, ob4, ob6, ob4]) (v := av61) 28 rfl rfl rfl rfl rfl (fun _ => EOp.eq (EOp.qd rfl rfl (q_build2 rfl rfl pl57 rfl)) rfl) rfl rfl ?_)
     refine t1 10 rfl (tn (objs' := obs3 ++ [ob62, ob4, ob6, ob4]) rfl rfl rfl rfl (fun _ => EOp.eq (e_store_box rfl rfl rfl rfl rfl ty57 rfl rfl rfl rfl) rfl) rfl rfl ?_)
     exact tl rfl (sub_gen [0, 1, 2, 3, 4, 7, 6, 5] rfl rfl (zall rfl rfl) ⟨bx rfl rfl rfl, oa rfl, bx rfl rfl rfl, bx rfl rfl rfl, bx rfl rfl rfl, oa rfl, oa rfl, oa rfl, trivial⟩)
 refine SCode.seq (SCode.seq ?_)
 obtain ⟨c_7, g8, h⟩ := bind_out h
 try dsimp only at h
 refine SCode.region (sm rfl rfl (sq rfl rfl (q_field_ptr rfl rfl fd57_4) (sq rfl rfl (q_load_ptr rfl rfl rfl rfl ty22) (se rfl rfl (e_callP (plan_Fair_1_ok F (List.replicate (((a0_caps).length : Int)).toNat (0 : Int)) a1b_Nodes a1b_Arcs c_7 g8) [0, 1] [7] rfl rfl fn11 rfl rfl rfl rfl rfl rfl rfl rfl (nrs ⟨rfl, fun _ _ => nrSArc _ _, trivial⟩) ⟨.inr (.inl ⟨_, _, _, _, _, _, _, rfl, rfl, rfl, Nat.le_refl _, fun _ _ _ _ => rfl, (.head _)⟩), .inl ⟨rfl, rfl⟩, trivial⟩) (sq rfl rfl (q_not rfl rfl) (SOps.nil ?_))))))
 rcases cond_out h with ⟨g9, h⟩ | ⟨g9, h⟩
 ·refine SCode.cond_t rfl g9 (SCode.seq (SCode.region (sq rfl rfl (q_field_ptr rfl rfl fd57_2) (sq rfl rfl (q_load_ptr rfl rfl rfl rfl ty22) (se rfl rfl (e_store_box rfl rfl rfl rfl rfl ty22 rfl rfl rfl rfl) (se rfl rfl (e_store_box rfl rfl rfl rfl rfl ty29 rfl rfl rfl rfl) (SOps.nil (SCode.ret ?_))))))))
  obtain rfl := Option.some.inj h
  exact ⟨⟨[(4, .c (.ptr 2 0)), (5, .c (.ptr 3 0))], [.box [.int .i64 a1b_Nodes, .own 1 c_7.2.length], aSArc 54 c_7.2, .box [vI (List.replicate (((a0_caps).length : Int)).toNat (0 : Int))], .box [.int .i64 0]]⟩, _, sub_gen [0, 1, 2, 3] rfl rfl (zall rfl rfl) ⟨bx rfl rfl rfl, oa rfl, ⟨_, rfl, ⟨.inr (.inl ⟨_, _, _, _, _, _, _, rfl, rfl, rfl, Nat.le_refl _, fun _ _ _ _ => rfl, nm rfl⟩), trivial⟩⟩, bx rfl rfl rfl, trivial⟩, resA2 (v1 := .c (vI (List.replicate (((a0_caps).length : Int)).toNat (0 : Int)))) (v2 := .c (.int .i64 0)) rfl ⟨_, rfl, rfl, ty22⟩ ⟨_, rfl, rfl, ty29⟩, ⟨rfl, rfl⟩⟩
 refine SCode.cond_f rfl g9 (SCode.skip ?_)
 let S6 := fun (o6_10 : List Bool) => (⟨[(4, .c (.ptr 2 0)), (5, .c (.ptr 3 0)), (7, ci (((a0_caps).length : Int))), (8, .c (.ptr 4 0))], [.box [.int .i64 a1b_Nodes, .own 1 c_7.2.length], aSArc 54 c_7.2, .box [.raw (.slice none 0 0)], .box [.int .i64 0], .box [vI a0_caps, .fnp 11 0, .own 5 (List.replicate (((a0_caps).length : Int)).toNat (0 : Int)).length, .own 6 o6_10.length, .own 7 (List.replicate (((a0_caps).length : Int)).toNat (0 : Int)).length], aI 3 (List.replicate (((a0_caps).length : Int)).toNat (0 : Int)), aB 4 o6_10, aI 3 (List.replicate (((a0_caps).length : Int)).toNat (0 : Int))]⟩ : St)
 refine SCode.join (σ := (List Bool)) (S := fun s => (S6 s)) (g := fun s => fair_Fill_f1_11_p40 F a0_caps a1b_Nodes c_7 s = some r) ?_ ?_
 rotate_left
 ·refine SCode.seq (SCode.region (sq rfl rfl (q_field_ptr rfl rfl fd57_3) (sq rfl rfl (q_load_ptr rfl rfl rfl rfl ty55) (sq rfl rfl (q_len_own rfl rfl sl55) (sm rfl rfl (SOps.nil (SCode.block ?_)))))))
  let S5 := fun (t39_43 : Int) => fun (o6_44 : List Bool) => (⟨[(4, .c (.ptr 2 0)), (5, .c (.ptr 3 0)), (7, ci (((a0_caps).length : Int))), (8, .c (.ptr 4 0)), (38, ci (((List.replicate (((a0_caps).length : Int)).toNat (false : Bool)).length : Int))), (39, ci t39_43)], [.box [.int .i64 a1b_Nodes, .own 1 c_7.2.length], aSArc 54 c_7.2, .box [.raw (.slice none 0 0)], .box [.int .i64 0], .box [vI a0_caps, .fnp 11 0, .own 5 (List.replicate (((a0_caps).length : Int)).toNat (0 : Int)).length, .own 6 o6_44.length, .own 7 (List.replicate (((a0_caps).length : Int)).toNat (0 : Int)).length], aI 3 (List.replicate (((a0_caps).length : Int)).toNat (0 : Int)), aB 4 o6_44, aI 3 (List.replicate (((a0_caps).length : Int)).toNat (0 : Int))]⟩ : St)
  refine SCode.sub (st' := (S5 0 (List.replicate (((a0_caps).length : Int)).toNat (false : Bool)))) (sub_gen [0, 1, 2, 3, 4, 5, 6, 7] rfl rfl (zall rfl rfl) ⟨bx rfl rfl rfl, oa rfl, bx rfl rfl rfl, bx rfl rfl rfl, bx rfl rfl rfl, oa rfl, oa rfl, oa rfl, trivial⟩) ?_
  refine (SCode.loop (σ := Nat × (Int × (List Bool))) (S := fun s => (S5 s.2.1 s.2.2)) (g := fun s => fair_Fill_f1_11_l47 F a0_caps a1b_Nodes c_7 s.1 s.2.1 s.2.2 = some r) (μ := fun s => s.1) (F, (0, List.replicate (((a0_caps).length : Int)).toNat (false : Bool))) h ?_)
  rintro ⟨n_47, ⟨t39_43, o6_44⟩⟩ h
  try dsimp only at h
  show SCode _ _ _ (S5 t39_43 o6_44) _
  cases n_47 with
  | zero => cases h
  | succ n_47 =>
   rw [fair_Fill_f1_11_l47] at h
   unfold fair_Fill_f1_11_b47 at h
   refine SCode.seq (SCode.region (sq rfl rfl (q_lss rfl rfl rfl) (SOps.nil (SCode.seq ?_))))
   rcases cond_out h with ⟨g48, h⟩ | ⟨g48, h⟩
   ·refine SCode.cond_t rfl g48 (SCode.skip (SCode.seq (SCode.block (SCode.seq (SCode.region (sm rfl rfl (sa rfl rfl (SOps.nil ?_))))))))
    obtain ⟨g49, h⟩ := guard_out h
    refine SCode.region (sq rfl rfl (q_field_ptr rfl rfl fd57_3) (sq rfl rfl (q_load_ptr rfl rfl rfl rfl ty55) (sm rfl rfl (sq rfl rfl (q_index_own rfl rfl rfl sl55 g49.1 g49.2) (se rfl rfl (e_storeL true rfl rfl rfl rfl rfl (toNat_lt g49) ty4 rfl rfl rfl rfl rfl rfl) ?_)))))
    let y3 := List.replicate (((a0_caps).length : Int)).toNat (0 : Int)
    refine SOps.sub (st' := ⟨[(4, .c (.ptr 2 0)), (5, .c (.ptr 3 0)), (7, ci (((a0_caps).length : Int))), (8, .c (.ptr 4 0)), (38, ci (((List.replicate (((a0_caps).length : Int)).toNat (false : Bool)).length : Int))), (39, ci t39_43)], [.box [.int .i64 a1b_Nodes, .own 1 c_7.2.length], aSArc 54 c_7.2, .box [.raw (.slice none 0 0)], .box [.int .i64 0], .box [vI a0_caps, .fnp 11 0, .own 5 y3.length, .own 6 (o6_44.set t39_43.toNat true).length, .own 7 y3.length], aI 3 y3, aB 4 (o6_44.set t39_43.toNat true), aI 3 y3]⟩) (sub_gen [0, 1, 2, 3, 4, 5, 6, 7] rfl rfl (zall rfl rfl) ⟨bx rfl rfl rfl, oa rfl, bx rfl rfl rfl, bx rfl rfl rfl, ⟨_, rfl, ⟨ii rfl rfl, ii rfl rfl, ii rfl rfl, .inl ⟨rfl, congrArg (Cell.own 6) (List.length_set : (o6_44.set t39_43.toNat true).length = o6_44.length).symm⟩, ii rfl rfl, trivial⟩⟩, oa rfl, oa rfl, oa rfl, trivial⟩) (SOps.nil (SCode.region (sq rfl rfl (q_add rfl rfl rfl) (sm rfl rfl (SOps.nil ?_)))))
    exact ⟨(n_47, (IntKind.wrap .i64 (t39_43 + 1), o6_44.set t39_43.toNat true)), h, Nat.lt_succ_self n_47, sub_gen [0, 1, 2, 3, 4, 5, 6, 7] rfl rfl (zall rfl rfl) ⟨bx rfl rfl rfl, oa rfl, bx rfl rfl rfl, bx rfl rfl rfl, bx rfl rfl rfl, oa rfl, oa rfl, oa rfl, trivial⟩⟩
   refine SCode.cond_f rfl g48 (SCode.exit ?_)
   exact ⟨o6_44, h, sub_gen [0, 1, 2, 3, 4, 5, 6, 7] rfl rfl (zall rfl rfl) ⟨bx rfl rfl rfl, oa rfl, bx rfl rfl rfl, bx rfl rfl rfl, bx rfl rfl rfl, oa rfl, oa rfl, oa rfl, trivial⟩⟩
 rintro o6_10 h
 show SCode _ _ _ (S6 o6_10) _
 try dsimp only at h
 unfold fair_Fill_f1_11_p40 at h
 let S4 := fun (o1_11 : List SArc) => fun (o5_12 : List Int) => fun (o6_13 : List Bool) => fun (o7_14 : List Int) => (⟨[(4, .c (.ptr 2 0)), (5, .c (.ptr 3 0)), (8, .c (.ptr 4 0))], [.box [.int .i64 a1b_Nodes, .own 1 o1_11.length], aSArc 54 o1_11, .box [.raw (.slice none 0 0)], .box [.int .i64 0], .box [vI a0_caps, .fnp 11 0, .own 5 o5_12.length, .own 6 o6_13.length, .own 7 o7_14.length], aI 3 o5_12, aB 4 o6_13, aI 3 o7_14]⟩ : St)
 refine SCode.join (σ := (List SArc) × (List Int) × (List Bool) × (List Int)) (S := fun s => (S4 s.1 s.2.1 s.2.2.1 s.2.2.2)) (g := fun s => fair_Fill_f1_11_p15 s.1 s.2.1 s.2.2.1 s.2.2.2 = some r) ?_ ?_
 rotate_left
 ·refine SCode.seq (SCode.region (sm rfl rfl (sm rfl rfl (SOps.nil (SCode.block ?_)))))
  let S3 := fun (t48_22 : Int) => fun (o1_23 : List SArc) => fun (o5_24 : List Int) => fun (o6_25 : List Bool) => fun (o7_26 : List Int) => (⟨[(4, .c (.ptr 2 0)), (5, .c (.ptr 3 0)), (8, .c (.ptr 4 0)), (47, ci (((a0_caps).length : Int))), (48, ci t48_22)], [.box [.int .i64 a1b_Nodes, .own 1 o1_23.length], aSArc 54 o1_23, .box [.raw (.slice none 0 0)], .box [.int .i64 0], .box [vI a0_caps, .fnp 11 0, .own 5 o5_24.length, .own 6 o6_25.length, .own 7 o7_26.length], aI 3 o5_24, aB 4 o6_25, aI 3 o7_26]⟩ : St)
  refine SCode.sub (st' := (S3 0 c_7.2 (List.replicate (((a0_caps).length : Int)).toNat (0 : Int)) o6_10 (List.replicate (((a0_caps).length : Int)).toNat (0 : Int)))) (sub_gen [0, 1, 2, 3, 4, 5, 6, 7] rfl rfl (zall rfl rfl) ⟨bx rfl rfl rfl, oa rfl, bx rfl rfl rfl, bx rfl rfl rfl, bx rfl rfl rfl, oa rfl, oa rfl, oa rfl, trivial⟩) ?_
  refine (SCode.loop (σ := Nat × (Int × (List SArc) × (List Int) × (List Bool) × (List Int))) (S := fun s => (S3 s.2.1 s.2.2.1 s.2.2.2.1 s.2.2.2.2.1 s.2.2.2.2.2)) (g := fun s => fair_Fill_f1_11_l33 F a0_caps a1b_Nodes s.1 s.2.1 s.2.2.1 s.2.2.2.1 s.2.2.2.2.1 s.2.2.2.2.2 = some r) (μ := fun s => s.1) (F, (0, c_7.2, List.replicate (((a0_caps).length : Int)).toNat (0 : Int), o6_10, List.replicate (((a0_caps).length : Int)).toNat (0 : Int))) h ?_)
  rintro ⟨n_33, ⟨t48_22, o1_23, o5_24, o6_25, o7_26⟩⟩ h
  try dsimp only at h
  show SCode _ _ _ (S3 t48_22 o1_23 o5_24 o6_25 o7_26) _
  cases n_33 with
  | zero => cases h
  | succ n_33 =>
   rw [fair_Fill_f1_11_l33] at h
   unfold fair_Fill_f1_11_b33 at h
   refine SCode.seq (SCode.region (sq rfl rfl (q_lss rfl rfl rfl) (SOps.nil (SCode.seq ?_))))
   rcases cond_out h with ⟨g34, h⟩ | ⟨g34, h⟩
   ·refine SCode.cond_t rfl g34 (SCode.skip (SCode.seq (SCode.block (SCode.seq ?_))))
    obtain ⟨c_35, g36, h⟩ := bind_out h
    try dsimp only at h
    refine SCode.region (se rfl rfl (e_call (fair_division_together_f0_p11_ok F a0_caps a1b_Nodes o1_23 o5_24 o6_25 o7_26 c_35 g36) [4, 0, 1, 5, 6, 7] rfl fn21 rfl rfl rfl rfl rfl rfl rfl rfl) (SOps.nil (SCode.seq ?_)))
    obtain ⟨c_37, g38, h⟩ := bind_out h
    try dsimp only at h
    refine SCode.region (se rfl rfl (e_call (fair_division_single_f0_p11_ok F a0_caps a1b_Nodes c_35.1 c_35.2.1 o6_25 c_35.2.2 c_37 g38) [4, 0, 1, 5, 6, 7] rfl fn22 rfl rfl rfl rfl rfl rfl rfl rfl) (sq rfl rfl (q_not rfl rfl) (SOps.nil ?_)))
    rcases cond_out h with ⟨g39, h⟩ | ⟨g39, h⟩
    ·refine SCode.cond_t rfl g39 (SCode.exit ?_)
     exact ⟨(c_37.2.1, c_37.2.2.1, c_37.2.2.2.1, c_37.2.2.2.2), h, sub_gen [0, 1, 2, 3, 4, 5, 6, 7] rfl rfl (zall rfl rfl) ⟨bx rfl rfl rfl, oa rfl, bx rfl rfl rfl, bx rfl rfl rfl, bx rfl rfl rfl, oa rfl, oa rfl, oa rfl, trivial⟩⟩
    refine SCode.cond_f rfl g39 (SCode.skip (SCode.region (sq rfl rfl (q_add rfl rfl rfl) (sm rfl rfl (SOps.nil ?_)))))
    exact ⟨(n_33, (IntKind.wrap .i64 (t48_22 + 1), c_37.2.1, c_37.2.2.1, c_37.2.2.2.1, c_37.2.2.2.2)), h, Nat.lt_succ_self n_33, sub_gen [0, 1, 2, 3, 4, 5, 6, 7] rfl rfl (zall rfl rfl) ⟨bx rfl rfl rfl, oa rfl, bx rfl rfl rfl, bx rfl rfl rfl, bx rfl rfl rfl, oa rfl, oa rfl, oa rfl, trivial⟩⟩
   refine SCode.cond_f rfl g34 (SCode.exit ?_)
   exact ⟨(o1_23, o5_24, o6_25, o7_26), h, sub_gen [0, 1, 2, 3, 4, 5, 6, 7] rfl rfl (zall rfl rfl) ⟨bx rfl rfl rfl, oa rfl, bx rfl rfl rfl, bx rfl rfl rfl, bx rfl rfl rfl, oa rfl, oa rfl, oa rfl, trivial⟩⟩
 rintro ⟨o1_11, o5_12, o6_13, o7_14⟩ h
 show SCode _ _ _ (S4 o1_11 o5_12 o6_13 o7_14) _
 try dsimp only at h
 unfold fair_Fill_f1_11_p15 at h
 refine SCode.seq (SCode.region (sq rfl rfl (q_field_ptr rfl rfl fd57_2) (sq rfl rfl (q_load_ptr rfl rfl rfl rfl ty22) (se rfl rfl (e_store_box rfl rfl rfl rfl rfl ty22 rfl rfl rfl rfl) (se rfl rfl (e_store_box rfl rfl rfl rfl rfl ty29 rfl rfl rfl rfl) (SOps.nil (SCode.ret ?_)))))))
 obtain rfl := Option.some.inj h
 exact ⟨⟨[(4, .c (.ptr 2 0)), (5, .c (.ptr 3 0))], [.box [.int .i64 a1b_Nodes, .own 1 o1_11.length], aSArc 54 o1_11, .box [vI o5_12], .box [.int .i64 0]]⟩, _, sub_gen [0, 1, 2, 3] rfl rfl (zall rfl rfl) ⟨bx rfl rfl rfl, oa rfl, ⟨_, rfl, ⟨.inr (.inl ⟨_, _, _, _, _, _, _, rfl, rfl, rfl, Nat.le_refl _, fun _ _ _ _ => rfl, nm rfl⟩), trivial⟩⟩, bx rfl rfl rfl, trivial⟩, resA2 (v1 := .c (vI o5_12)) (v2 := .c (.int .i64 0)) rfl ⟨_, rfl, rfl, ty22⟩ ⟨_, rfl, rfl, ty29⟩, ⟨rfl, rfl⟩⟩
theorem plan_Fair_ok (F : Nat) (a0_p : SProblem) (r : (List Int) × Int) (h : plan_Fair F a0_p = some r) :
  SFun Try.prog 4 [] [.a (bSProblem a0_p)] (fun x _ => x = .t [.c (vI r.1), .c (.int .i64 r.2)]) := by
 refine SFun.of (n := 34) Try.func4 rfl rfl rfl ?_
 unfold plan_Fair at h
 show SCode _ _ _ ⟨[(0, .a (bSProblem a0_p))], []⟩ _
 refine SCode.seq (SCode.region (se rfl rfl (e_box rfl rfl rfl rfl rfl rfl) (sa rfl rfl (sa rfl rfl (SOps.nil (SCode.seq (SCode.seq ?_)))))))
 obtain ⟨c_1, g2, h⟩ := bind_out h
 try dsimp only at h
 refine SCode.region (sq rfl rfl (q_load_ptr_all rfl rfl rfl rfl rfl ty26) (sq rfl rfl (q_call (plan_Valid_ok F a0_p c_1 g2) [] rfl fn8 ⟨⟨rfl, rfl⟩, trivial⟩ (.inl rfl)) (sa rfl rfl (SOps.nil (SCode.seq (SCode.region (sm rfl rfl (sq rfl rfl (q_neq rfl rfl rfl) (SOps.nil ?_)))))))))
 rcases cond_out h with ⟨g3, h⟩ | ⟨g3, h⟩
 ·refine SCode.cond_t rfl g3 (SCode.seq (SCode.region (sm rfl rfl (sa rfl rfl (sa rfl rfl (SOps.nil (SCode.ret ?_)))))))
  obtain rfl := Option.some.inj h
  exact ⟨⟨[(2, .c (vI (([] : List Int)))), (3, ci c_1)], []⟩, _, sub_gen [] rfl rfl ⟨⟨_, rfl, .inr (.inr (.inr (.inl ⟨_, _, rfl, rfl⟩)))⟩, zc rfl rfl, trivial⟩ trivial, resA2 (v1 := .c (vI (([] : List Int)))) (v2 := .c (.int .i64 c_1)) rfl rfl rfl, rfl⟩
 refine SCode.cond_f rfl g3 (SCode.skip (SCode.seq ?_))
 obtain ⟨c_4, g5, h⟩ := bind_out h
 try dsimp only at h
 refine SCode.region (sq rfl rfl (q_load_ptr_all rfl rfl rfl rfl rfl ty26) (se rfl rfl (e_call (plan_network_own_ok F a0_p c_4 g5) [] rfl fn9 rfl rfl rfl rfl rfl rfl rfl rfl) (se rfl rfl (e_alloc rfl rfl rfl z40) (se rfl rfl (e_store_box rfl rfl rfl rfl rfl ty40 rfl rfl rfl rfl) (SOps.nil (SCode.seq (SCode.region (sa rfl rfl (SOps.nilArrL (T := 3) (k := 1) (cInt .i64) 0 (s := 6) rfl rfl (SOps.nil ?_))))))))))
 let S3 := fun (o2_6 : List Int) => (⟨[(5, .c (.ptr 0 0)), (6, .c (.own 2 o2_6.length))], [.box [.int .i64 c_4.Nodes, .own 1 c_4.Arcs.length], aSArc 54 c_4.Arcs, aI 3 o2_6]⟩ : St)
 refine SCode.join (σ := (List Int)) (S := fun s => (S3 s)) (g := fun s => plan_Fair_p9 F c_4 s = some r) ?_ ?_
 rotate_left
 ·refine SCode.seq (SCode.region (sq rfl rfl (q_field_ptr rfl rfl fd26_4) (sq rfl rfl (q_load_ptr rfl rfl rfl rfl ty24) (sq rfl rfl (q_len_vec rfl rfl sl24) (sm rfl rfl (SOps.nil (SCode.block ?_)))))))
  let S2 := fun (t19_13 : Int) => fun (o2_14 : List Int) => (⟨[(5, .c (.ptr 0 0)), (6, .c (.own 2 o2_14.length)), (17, .c (vSDemand a0_p.Demands)), (18, ci (((a0_p.Demands).length : Int))), (19, ci t19_13)], [.box [.int .i64 c_4.Nodes, .own 1 c_4.Arcs.length], aSArc 54 c_4.Arcs, aI 3 o2_14]⟩ : St)
  refine SCode.sub (st' := (S2 0 (([] : List Int)))) (sub_gen [3, 1, 4] rfl rfl (zall rfl rfl) ⟨bx rfl rfl rfl, oa rfl, oa rfl, trivial⟩) ?_
  refine (SCode.loop (σ := Nat × (Int × (List Int))) (S := fun s => (S2 s.2.1 s.2.2)) (g := fun s => plan_Fair_l18 F a0_p c_4 s.1 s.2.1 s.2.2 = some r) (μ := fun s => s.1) (F, (0, ([] : List Int))) h ?_)
  rintro ⟨n_18, ⟨t19_13, o2_14⟩⟩ h
  try dsimp only at h
  show SCode _ _ _ (S2 t19_13 o2_14) _
  cases n_18 with
  | zero => cases h
  | succ n_18 =>
   rw [plan_Fair_l18] at h
   unfold plan_Fair_b18 at h
   refine SCode.seq (SCode.region (sq rfl rfl (q_lss rfl rfl rfl) (SOps.nil (SCode.seq ?_))))
   rcases cond_out h with ⟨g19, h⟩ | ⟨g19, h⟩
   ·refine SCode.cond_t rfl g19 (SCode.skip (SCode.seq (SCode.block (SCode.seq ?_))))
    obtain ⟨g20, h⟩ := guard_out h
    refine SCode.region (sq rfl rfl (q_index_vec rfl rfl rfl sl24 rfl g20.1 g20.2) (sq rfl rfl (q_load_eptr_all rfl rfl rfl ty28) (se rfl rfl (e_alloc rfl rfl rfl z28) (se rfl rfl (e_store_box rfl rfl rfl rfl rfl ty28 rfl rfl rfl rfl) (SOps.nil ?_)))))
    obtain ⟨g21, h⟩ := guard_out h
    refine SCode.region (sm rfl rfl (sq rfl rfl (q_field_ptr rfl rfl fd28_2) (sq rfl rfl (q_load_ptr rfl rfl rfl rfl ty3) (sq rfl rfl (q_bsliceL (c := (cInt .i64)) (d0 := 0) [(a0_p.Demands.getD t19_13.toNat dSDemand).Energy] rfl rfl sl22 z3 rfl rfl rfl rfl rfl rfl rfl) (se rfl rfl (e_appendL (c := (cInt .i64)) (d0 := 0) (l := o2_14) (l2 := [(a0_p.Demands.getD t19_13.toNat dSDemand).Energy]) rfl rfl rfl rfl rfl rfl (.inl rfl) sl22 z3 rfl rfl oneInt g21.1 g21.2) (sa rfl rfl (SOps.sub (st' := ⟨[(5, .c (.ptr 0 0)), (6, .c (.own 2 (o2_14 ++ ([(a0_p.Demands.getD t19_13.toNat dSDemand).Energy])).length)), (17, .c (vSDemand a0_p.Demands)), (18, ci (((a0_p.Demands).length : Int))), (19, ci t19_13)], [.box [.int .i64 c_4.Nodes, .own 1 c_4.Arcs.length], aSArc 54 c_4.Arcs, aI 3 (o2_14 ++ ([(a0_p.Demands.getD t19_13.toNat dSDemand).Energy]))]⟩) (sub_gen [0, 1, 4] rfl rfl (zall rfl rfl) ⟨bx rfl rfl rfl, oa rfl, oa rfl, trivial⟩) (SOps.nil (SCode.region (sq rfl rfl (q_add rfl rfl rfl) (sm rfl rfl (SOps.nil ?_))))))))))))
    exact ⟨(n_18, (IntKind.wrap .i64 (t19_13 + 1), o2_14 ++ ([(a0_p.Demands.getD t19_13.toNat dSDemand).Energy]))), h, Nat.lt_succ_self n_18, sub_gen [0, 1, 2] rfl rfl (zall rfl rfl) ⟨bx rfl rfl rfl, oa rfl, oa rfl, trivial⟩⟩
   refine SCode.cond_f rfl g19 (SCode.exit ?_)
   exact ⟨o2_14, h, sub_gen [0, 1, 2] rfl rfl (zall rfl rfl) ⟨bx rfl rfl rfl, oa rfl, oa rfl, trivial⟩⟩
 rintro o2_6 h
 show SCode _ _ _ (S3 o2_6) _
 try dsimp only at h
 unfold plan_Fair_p9 at h
 refine SCode.seq (SCode.sub (st' := ⟨[(5, .c (.ptr 0 0)), (6, .c (vI o2_6))], [.box [.int .i64 c_4.Nodes, .own 1 c_4.Arcs.length], aSArc 54 c_4.Arcs]⟩) (sub_gen [0, 1] rfl rfl ⟨zc rfl rfl, ⟨_, rfl, .inr (.inl ⟨_, _, _, _, _, _, _, rfl, rfl, rfl, Nat.le_refl _, fun _ _ _ _ => rfl, nm rfl⟩)⟩, trivial⟩ ⟨bx rfl rfl rfl, oa rfl, trivial⟩) ?_)
 obtain ⟨c_7, g8, h⟩ := bind_out h
 try dsimp only at h
 refine SCode.region (sm rfl rfl (sq rfl rfl (q_makeFuncP rfl rfl) (se rfl rfl (e_call (fair_Fill_f1_11_ok F o2_6 c_4.Nodes c_4.Arcs c_7 g8) [0, 1] rfl fn10 rfl rfl rfl rfl rfl rfl rfl rfl) (sq rfl rfl (q_extract rfl rfl rfl) (sq rfl rfl (q_extract rfl rfl rfl) (sa rfl rfl (sa rfl rfl (SOps.nil (SCode.ret ?_)))))))))
 obtain rfl := Option.some.inj h
 exact ⟨⟨[(2, .c (vI c_7.1)), (3, ci c_7.2.1)], []⟩, _, sub_gen [] rfl rfl (zall rfl rfl) trivial, resA2 (v1 := .c (vI c_7.1)) (v2 := .c (.int .i64 c_7.2.1)) rfl rfl rfl, rfl⟩
theorem fair_below_ok (F : Nat) (a0_m : Int) (a1_caps : List Int) (r : Int) (h : fair_below F a0_m a1_caps = some r) :
  SFun Try.prog 14 [] [ci a0_m, .c (vI a1_caps)] (fun x _ => x = ci r) := by
 refine SFun.of (n := 22) Try.func14 rfl rfl rfl ?_
 unfold fair_below at h
 show SCode _ _ _ ⟨[(0, ci a0_m), (1, .c (vI a1_caps))], []⟩ _
 refine SCode.seq (SCode.region (sa rfl rfl (SOps.nil (SCode.seq (SCode.region (sa rfl rfl (SOps.nil ?_)))))))
 let S3 := fun (sum_1 : Int) => (⟨[(5, ci sum_1)], []⟩ : St)
 refine SCode.join (σ := Int) (S := fun s => (S3 s)) (g := fun s => fair_below_p2 s = some r) ?_ ?_
 rotate_left
 ·refine SCode.seq (SCode.region (sm rfl rfl (sq rfl rfl (q_len_vec rfl rfl sl22) (sm rfl rfl (SOps.nil (SCode.block ?_))))))
  let S2 := fun (sum_7 : Int) => fun (t10_8 : Int) => (⟨[(0, ci a0_m), (5, ci sum_7), (8, .c (vI a1_caps)), (9, ci (((a1_caps).length : Int))), (10, ci t10_8)], []⟩ : St)
  refine SCode.sub (st' := (S2 0 0)) (sub_gen [] rfl rfl (zall rfl rfl) trivial) ?_
  refine (SCode.loop (σ := Nat × (Int × Int)) (S := fun s => (S2 s.2.1 s.2.2)) (g := fun s => fair_below_l13 F a0_m a1_caps s.1 s.2.1 s.2.2 = some r) (μ := fun s => s.1) (F, (0, 0)) h ?_)
  rintro ⟨n_13, ⟨sum_7, t10_8⟩⟩ h
  try dsimp only at h
  show SCode _ _ _ (S2 sum_7 t10_8) _
  cases n_13 with
  | zero => cases h
  | succ n_13 =>
   rw [fair_below_l13] at h
   unfold fair_below_b13 at h
   refine SCode.seq (SCode.region (sq rfl rfl (q_lss rfl rfl rfl) (SOps.nil (SCode.seq ?_))))
   rcases cond_out h with ⟨g14, h⟩ | ⟨g14, h⟩
   ·refine SCode.cond_t rfl g14 (SCode.skip (SCode.seq (SCode.block (SCode.seq ?_))))
    obtain ⟨g15, h⟩ := guard_out h
    refine SCode.region (sq rfl rfl (q_index_vec rfl rfl rfl sl22 rfl g15.1 g15.2) (sq rfl rfl (q_load_eptr rfl rfl ty3) (sa rfl rfl (SOps.nil ?_))))
    obtain ⟨c_16, g17, h⟩ := bind_out h
    try dsimp only at h
    refine SCode.region (sm rfl rfl (sm rfl rfl (sm rfl rfl (sq rfl rfl (q_bsliceL (c := (cInt .i64)) (d0 := 0) [a1_caps.getD t10_8.toNat 0] rfl rfl sl22 z3 rfl rfl rfl rfl rfl rfl rfl) (sq rfl rfl (q_call (fair_least_int_ok F a0_m ([a1_caps.getD t10_8.toNat 0]) c_16 g17) [] rfl fn16 ⟨⟨_, rfl, .inl ⟨rfl, rfl⟩⟩, ⟨_, rfl, .inl ⟨rfl, rfl⟩⟩, trivial⟩ (.inl rfl)) (sq rfl rfl (q_add rfl rfl rfl) (sa rfl rfl (SOps.nil (SCode.region (sq rfl rfl (q_add rfl rfl rfl) (sm rfl rfl (SOps.nil ?_))))))))))))
    exact ⟨(n_13, (IntKind.wrap .i64 (sum_7 + c_16), IntKind.wrap .i64 (t10_8 + 1))), h, Nat.lt_succ_self n_13, sub_gen [] rfl rfl (zall rfl rfl) trivial⟩
   refine SCode.cond_f rfl g14 (SCode.exit ?_)
   exact ⟨sum_7, h, sub_gen [] rfl rfl (zall rfl rfl) trivial⟩
 rintro sum_1 h
 show SCode _ _ _ (S3 sum_1) _
 try dsimp only at h
 unfold fair_below_p2 at h
 refine SCode.seq (SCode.region (sm rfl rfl (sa rfl rfl (SOps.nil (SCode.ret ?_)))))
 obtain rfl := Option.some.inj h
 exact ⟨⟨[(4, ci sum_1)], []⟩, _, sub_gen [] rfl rfl (zall rfl rfl) trivial, resA1 (v := .c (.int .i64 sum_1)) rfl rfl, rfl⟩
theorem slices_Clone_int_int_ok (F : Nat) (a0_s : List Int) (r : List Int) (h : slices_Clone_int_int F a0_s = some r) :
  SFun Try.prog 15 [] [.c (vI a0_s)] (fun x _ => x = .c (vI r)) := by
 refine SFun.of (n := 8) Try.func15 rfl rfl rfl ?_
 unfold slices_Clone_int_int at h
 show SCode _ _ _ ⟨[(0, .c (vI a0_s))], []⟩ _
 refine SCode.seq (SCode.region (sa rfl rfl (SOps.nil (SCode.seq (SCode.seq (SCode.region (sm rfl rfl ?_)))))))
 refine SOps.nilcmp rfl (.plain rfl) rfl rfl rfl rfl rfl us22 (by decide) (fun hl => ?_) ?_
 ·obtain rfl := List.length_eq_zero_iff.1 hl
  obtain ⟨_, h⟩ := guard_out h
  refine SOps.nil (SCode.cond_t rfl rfl (SCode.seq (SCode.region (sa rfl rfl (SOps.nil (SCode.ret ?_))))))
  obtain rfl := Option.some.inj h
  exact ⟨⟨[(2, .c (vI (([] : List Int))))], []⟩, _, sub_gen [] rfl rfl ⟨⟨_, rfl, .inr (.inr (.inr (.inl ⟨_, _, rfl, rfl⟩)))⟩, trivial⟩ trivial, resA1 (v := .c (vI (([] : List Int)))) rfl rfl, rfl⟩
 refine SOps.nil (SCode.cond_f rfl rfl (SCode.skip (SCode.seq ?_)))
 obtain ⟨g1, h⟩ := guard_out h
 refine SCode.region (se rfl rfl (e_bslice0L (α := Int) (c := (cInt .i64)) (d0 := 0) rfl rfl rfl rfl sl22) (sm rfl rfl (se rfl rfl (e_appendL (c := (cInt .i64)) (d0 := 0) (l := ([] : List Int)) (l2 := a0_s) rfl rfl rfl rfl rfl rfl (.inl rfl) sl22 z3 rfl rfl oneInt g1.1 g1.2) (sa rfl rfl (SOps.sub (st' := ⟨[(2, .c (.own 0 ((([] : List Int)) ++ a0_s).length))], [aI 3 ((([] : List Int)) ++ a0_s)]⟩) (sub_gen [1] rfl rfl (zall rfl rfl) ⟨oa rfl, trivial⟩) (SOps.nil (SCode.ret ?_)))))))
 obtain rfl := Option.some.inj h
 exact ⟨⟨[(2, .c (vI ((([] : List Int)) ++ a0_s)))], []⟩, _, sub_gen [] rfl rfl ⟨⟨_, rfl, .inr (.inl ⟨_, _, _, _, _, _, _, rfl, rfl, rfl, Nat.le_refl _, fun _ _ _ _ => rfl, nm rfl⟩)⟩, trivial⟩ trivial, resA1 (v := .c (vI ((([] : List Int)) ++ a0_s))) rfl rfl, rfl⟩
theorem fair_Share_ok (F : Nat) (a0_total : Int) (a1_caps : List Int) (r : (List Int) × Int) (h : fair_Share F a0_total a1_caps = some r) :
  SFun Try.prog 5 [] [ci a0_total, .c (vI a1_caps)] (fun x _ => x = .t [.c (vI r.1), .c (.int .i64 r.2)]) := by
 refine SFun.of (n := 83) Try.func5 rfl rfl rfl ?_
 unfold fair_Share at h
 show SCode _ _ _ ⟨[(0, ci a0_total), (1, .c (vI a1_caps))], []⟩ _
 refine SCode.seq (SCode.region (sa rfl rfl (sa rfl rfl (SOps.nil (SCode.seq (SCode.seq (SCode.region (sm rfl rfl (sq rfl rfl (q_lss rfl rfl rfl) (SOps.nil ?_))))))))))
 rcases cond_out h with ⟨g1, h⟩ | ⟨g1, h⟩
 ·refine SCode.cond_t rfl g1 (SCode.seq (SCode.region (sa rfl rfl (sa rfl rfl (SOps.nil (SCode.ret ?_))))))
  obtain rfl := Option.some.inj h
  exact ⟨⟨[(4, .c (vI (([] : List Int)))), (5, ci 2)], []⟩, _, sub_gen [] rfl rfl ⟨⟨_, rfl, .inr (.inr (.inr (.inl ⟨_, _, rfl, rfl⟩)))⟩, zc rfl rfl, trivial⟩ trivial, resA2 (v1 := .c (vI (([] : List Int)))) (v2 := .c (.int .i64 2)) rfl rfl rfl, rfl⟩
 refine SCode.cond_f rfl g1 (SCode.skip (SCode.seq (SCode.seq ?_)))
 obtain ⟨c_2, g3, h⟩ := bind_out h
 try dsimp only at h
 refine SCode.region (sm rfl rfl (sq rfl rfl (q_call (fair_check_ok F a1_caps c_2 g3) [] rfl fn13 ⟨⟨_, rfl, .inl ⟨rfl, rfl⟩⟩, trivial⟩ (.inl rfl)) (sa rfl rfl (SOps.nil (SCode.seq (SCode.region (sm rfl rfl (sq rfl rfl (q_neq rfl rfl rfl) (SOps.nil ?_)))))))))
 rcases cond_out h with ⟨g4, h⟩ | ⟨g4, h⟩
 ·refine SCode.cond_t rfl g4 (SCode.seq (SCode.region (sm rfl rfl (sa rfl rfl (sa rfl rfl (SOps.nil (SCode.ret ?_)))))))
  obtain rfl := Option.some.inj h
  exact ⟨⟨[(4, .c (vI (([] : List Int)))), (5, ci c_2)], []⟩, _, sub_gen [] rfl rfl ⟨⟨_, rfl, .inr (.inr (.inr (.inl ⟨_, _, rfl, rfl⟩)))⟩, zc rfl rfl, trivial⟩ trivial, resA2 (v1 := .c (vI (([] : List Int)))) (v2 := .c (.int .i64 c_2)) rfl rfl rfl, rfl⟩
 refine SCode.cond_f rfl g4 (SCode.skip (SCode.seq (SCode.seq ?_)))
 obtain ⟨c_5, g6, h⟩ := bind_out h
 try dsimp only at h
 refine SCode.region (sm rfl rfl (sq rfl rfl (q_call (fair_below_ok F 1099511627776 a1_caps c_5 g6) [] rfl fn14 ⟨⟨_, rfl, .inl ⟨rfl, rfl⟩⟩, ⟨_, rfl, .inl ⟨rfl, rfl⟩⟩, trivial⟩ (.inl rfl)) (sm rfl rfl (sq rfl rfl (q_leq rfl rfl rfl) (SOps.nil ?_)))))
 rcases cond_out h with ⟨g7, h⟩ | ⟨g7, h⟩
 ·refine SCode.cond_t rfl g7 (SCode.seq ?_)
  obtain ⟨c_8, g9, h⟩ := bind_out h
  try dsimp only at h
  refine SCode.region (sm rfl rfl (sq rfl rfl (q_call (slices_Clone_int_int_ok F a1_caps c_8 g9) [] rfl fn15 ⟨⟨_, rfl, .inl ⟨rfl, rfl⟩⟩, trivial⟩ (.inl rfl)) (sa rfl rfl (sa rfl rfl (SOps.nil (SCode.ret ?_))))))
  obtain rfl := Option.some.inj h
  exact ⟨⟨[(4, .c (vI c_8)), (5, ci 0)], []⟩, _, sub_gen [] rfl rfl (zall rfl rfl) trivial, resA2 (v1 := .c (vI c_8)) (v2 := .c (.int .i64 0)) rfl rfl rfl, rfl⟩
 refine SCode.cond_f rfl g7 (SCode.skip (SCode.seq (SCode.region (sa rfl rfl (SOps.nil ?_)))))
 let S12 := fun (m_10 : Int) => (⟨[(0, ci a0_total), (1, .c (vI a1_caps)), (7, ci m_10)], []⟩ : St)
 refine SCode.join (σ := Int) (S := fun s => (S12 s)) (g := fun s => fair_Share_p56 F a0_total a1_caps s = some r) ?_ ?_
 rotate_left
 ·refine SCode.seq (SCode.region (sa rfl rfl (SOps.nil (SCode.block ?_))))
  let S11 := fun (m_62 : Int) => fun (bad_63 : Int) => (⟨[(0, ci a0_total), (1, .c (vI a1_caps)), (7, ci m_62), (8, ci bad_63)], []⟩ : St)
  refine SCode.sub (st' := (S11 0 1099511627776)) (sub_gen [] rfl rfl (zall rfl rfl) trivial) ?_
  refine (SCode.loop (σ := Nat × (Int × Int)) (S := fun s => (S11 s.2.1 s.2.2)) (g := fun s => fair_Share_l68 F a0_total a1_caps s.1 s.2.1 s.2.2 = some r) (μ := fun s => s.1) (F, (0, 1099511627776)) h ?_)
  rintro ⟨n_68, ⟨m_62, bad_63⟩⟩ h
  try dsimp only at h
  show SCode _ _ _ (S11 m_62 bad_63) _
  cases n_68 with
  | zero => cases h
  | succ n_68 =>
   rw [fair_Share_l68] at h
   unfold fair_Share_b68 at h
   refine SCode.seq (SCode.seq (SCode.region (sm rfl rfl (sm rfl rfl (sq rfl rfl (q_sub rfl rfl rfl) (sq rfl rfl (q_gtr rfl rfl rfl) (SOps.nil ?_)))))))
   rcases cond_out h with ⟨g69, h⟩ | ⟨g69, h⟩
   ·refine SCode.cond_t rfl g69 (SCode.skip (SCode.block (SCode.seq (SCode.region (sm rfl rfl (sm rfl rfl (sm rfl rfl (sq rfl rfl (q_sub rfl rfl rfl) (sq rfl rfl (q_quo rfl rfl rfl (by decide)) (sq rfl rfl (q_add rfl rfl rfl) (sa rfl rfl (SOps.nil (SCode.seq ?_)))))))))))))
    obtain ⟨c_70, g71, h⟩ := bind_out h
    try dsimp only at h
    refine SCode.region (sm rfl rfl (sm rfl rfl (sq rfl rfl (q_call (fair_below_ok F (IntKind.wrap .i64 (m_62 + IntKind.wrap .i64 (Int.tdiv (IntKind.wrap .i64 (bad_63 - m_62)) 2))) a1_caps c_70 g71) [] rfl fn14 ⟨⟨_, rfl, .inl ⟨rfl, rfl⟩⟩, ⟨_, rfl, .inl ⟨rfl, rfl⟩⟩, trivial⟩ (.inl rfl)) (sm rfl rfl (sq rfl rfl (q_leq rfl rfl rfl) (SOps.nil ?_))))))
    rcases cond_out h with ⟨g72, h⟩ | ⟨g72, h⟩
    ·refine SCode.cond_t rfl g72 (SCode.region (sm rfl rfl (sa rfl rfl (SOps.sub (st' := ⟨[(0, ci a0_total), (1, .c (vI a1_caps)), (7, ci (IntKind.wrap .i64 (m_62 + IntKind.wrap .i64 (Int.tdiv (IntKind.wrap .i64 (bad_63 - m_62)) 2)))), (8, ci bad_63)], []⟩) (sub_gen [] rfl rfl (zall rfl rfl) trivial) (SOps.nil ?_)))))
     exact ⟨(n_68, (IntKind.wrap .i64 (m_62 + IntKind.wrap .i64 (Int.tdiv (IntKind.wrap .i64 (bad_63 - m_62)) 2)), bad_63)), h, Nat.lt_succ_self n_68, sub_gen [] rfl rfl (zall rfl rfl) trivial⟩
    refine SCode.cond_f rfl g72 (SCode.region (sm rfl rfl (sa rfl rfl (SOps.sub (st' := ⟨[(0, ci a0_total), (1, .c (vI a1_caps)), (7, ci m_62), (8, ci (IntKind.wrap .i64 (m_62 + IntKind.wrap .i64 (Int.tdiv (IntKind.wrap .i64 (bad_63 - m_62)) 2))))], []⟩) (sub_gen [] rfl rfl (zall rfl rfl) trivial) (SOps.nil ?_)))))
    exact ⟨(n_68, (m_62, IntKind.wrap .i64 (m_62 + IntKind.wrap .i64 (Int.tdiv (IntKind.wrap .i64 (bad_63 - m_62)) 2)))), h, Nat.lt_succ_self n_68, sub_gen [] rfl rfl (zall rfl rfl) trivial⟩
   refine SCode.cond_f rfl g69 (SCode.exit ?_)
   exact ⟨m_62, h, sub_gen [] rfl rfl (zall rfl rfl) trivial⟩
 rintro m_10 h
 show SCode _ _ _ (S12 m_10) _
 try dsimp only at h
 unfold fair_Share_p56 at h
 refine SCode.seq ?_
 obtain ⟨c_11, g12, h⟩ := bind_out h
 try dsimp only at h
 refine SCode.region (sm rfl rfl (sm rfl rfl (sm rfl rfl (sq rfl rfl (q_call (fair_below_ok F m_10 a1_caps c_11 g12) [] rfl fn14 ⟨⟨_, rfl, .inl ⟨rfl, rfl⟩⟩, ⟨_, rfl, .inl ⟨rfl, rfl⟩⟩, trivial⟩ (.inl rfl)) (sq rfl rfl (q_sub rfl rfl rfl) (sa rfl rfl (SOps.nil (SCode.seq ?_))))))))
 obtain ⟨g13, h⟩ := guard_out h
 refine SCode.region (sm rfl rfl (sq rfl rfl (q_len_vec rfl rfl sl22) (se rfl rfl (e_makeL (c := (cInt .i64)) (d0 := 0) rfl rfl rfl rfl rfl sl22 z3 rfl rfl rfl g13.1 (Int.le_refl _) g13.2.1 g13.2.2) (sa rfl rfl (SOps.nil ?_)))))
 let S10 := fun (o0_14 : List Int) => (⟨[(11, .c (.own 0 o0_14.length))], [aI 3 o0_14]⟩ : St)
 refine SCode.join (σ := (List Int)) (S := fun s => (S10 s)) (g := fun s => fair_Share_p15 s = some r) ?_ ?_
 rotate_left
 ·refine SCode.seq (SCode.region (sm rfl rfl (sq rfl rfl (q_len_vec rfl rfl sl22) (sm rfl rfl (SOps.nil (SCode.block ?_))))))
  let S9 := fun (rest_28 : Int) => fun (t54_29 : Int) => fun (o0_30 : List Int) => (⟨[(7, ci m_10), (10, ci rest_28), (11, .c (.own 0 o0_30.length)), (52, .c (vI a1_caps)), (53, ci (((a1_caps).length : Int))), (54, ci t54_29)], [aI 3 o0_30]⟩ : St)
  refine SCode.sub (st' := (S9 (IntKind.wrap .i64 (a0_total - c_11)) 0 (List.replicate (((a1_caps).length : Int)).toNat (0 : Int)))) (sub_gen [0] rfl rfl (zall rfl rfl) ⟨oa rfl, trivial⟩) ?_
  refine (SCode.loop (σ := Nat × (Int × Int × (List Int))) (S := fun s => (S9 s.2.1 s.2.2.1 s.2.2.2)) (g := fun s => fair_Share_l43 F a1_caps m_10 s.1 s.2.1 s.2.2.1 s.2.2.2 = some r) (μ := fun s => s.1) (F, (IntKind.wrap .i64 (a0_total - c_11), 0, List.replicate (((a1_caps).length : Int)).toNat (0 : Int))) h ?_)
  rintro ⟨n_43, ⟨rest_28, t54_29, o0_30⟩⟩ h
  try dsimp only at h
  show SCode _ _ _ (S9 rest_28 t54_29 o0_30) _
  cases n_43 with
  | zero => cases h
  | succ n_43 =>
   rw [fair_Share_l43] at h
   unfold fair_Share_b43 at h
   refine SCode.seq (SCode.region (sq rfl rfl (q_lss rfl rfl rfl) (SOps.nil (SCode.seq ?_))))
   rcases cond_out h with ⟨g44, h⟩ | ⟨g44, h⟩
   ·refine SCode.cond_t rfl g44 (SCode.skip ?_)
    let S8 := fun (rest_45 : Int) => fun (o0_46 : List Int) => (⟨[(7, ci m_10), (10, ci rest_45), (11, .c (.own 0 o0_46.length)), (52, .c (vI a1_caps)), (53, ci (((a1_caps).length : Int))), (54, ci t54_29)], [aI 3 o0_46]⟩ : St)
    refine SCode.join (σ := Int × (List Int)) (S := fun s => (S8 s.1 s.2)) (g := fun s => fair_Share_p47 t54_29 (fun rest_28 t54_29 o0_30 => fair_Share_l43 F a1_caps m_10 n_43 rest_28 t54_29 o0_30) s.1 s.2 = some r) ?_ ?_
    rotate_left
    ·refine SCode.block (SCode.seq ?_)
     obtain ⟨g48, h⟩ := guard_out h
     refine SCode.region (sm rfl rfl (sq rfl rfl (q_index_vec rfl rfl rfl sl22 rfl g48.1 g48.2) (sq rfl rfl (q_load_eptr rfl rfl ty3) (sa rfl rfl (sa rfl rfl (SOps.nil (SCode.seq ?_)))))))
     obtain ⟨c_49, g50, h⟩ := bind_out h
     try dsimp only at h
     obtain ⟨g51, h⟩ := guard_out h
     refine SCode.region (sm rfl rfl (sm rfl rfl (sm rfl rfl (sm rfl rfl (sq rfl rfl (q_bsliceL (c := (cInt .i64)) (d0 := 0) [a1_caps.getD t54_29.toNat 0] rfl rfl sl22 z3 rfl rfl rfl rfl rfl rfl rfl) (sq rfl rfl (q_call (fair_least_int_ok F m_10 ([a1_caps.getD t54_29.toNat 0]) c_49 g50) [] rfl fn16 ⟨⟨_, rfl, .inl ⟨rfl, rfl⟩⟩, ⟨_, rfl, .inl ⟨rfl, rfl⟩⟩, trivial⟩ (.inl rfl)) (sq rfl rfl (q_index_own rfl rfl rfl sl22 g51.1 g51.2) (se rfl rfl (e_storeL c_49 rfl rfl rfl rfl rfl (toNat_lt g51) ty3 rfl rfl rfl rfl rfl rfl) (SOps.sub (st' := ⟨[(7, ci m_10), (10, ci rest_28), (11, .c (.own 0 (o0_30.set t54_29.toNat c_49).length)), (12, ci t54_29), (13, ci (a1_caps.getD t54_29.toNat 0)), (52, .c (vI a1_caps)), (53, ci (((a1_caps).length : Int))), (54, ci t54_29)], [aI 3 (o0_30.set t54_29.toNat c_49)]⟩) (sub_gen [0] rfl rfl ⟨zc rfl rfl, zc rfl rfl, ⟨_, rfl, .inl ⟨rfl, congrArg (Cell.own 0) (List.length_set : (o0_30.set t54_29.toNat c_49).length = o0_30.length).symm⟩⟩, zc rfl rfl, zc rfl rfl, zc rfl rfl, zc rfl rfl, zc rfl rfl, trivial⟩ ⟨oa rfl, trivial⟩) (SOps.nil (SCode.seq ?_)))))))))))
     rcases cond_out h with ⟨g52, h⟩ | ⟨g52, h⟩
     ·refine SCode.region (sm rfl rfl (sq rfl rfl (q_gtr rfl rfl rfl) (sm rfl rfl (SOps.q rfl (.guard 2 68 true rfl rfl (gT g52)) rfl (q_move rfl rfl) (SOps.q rfl (.guard 2 68 true rfl rfl (gT g52)) rfl (q_move rfl rfl) (SOps.q rfl (.guard 2 68 true rfl rfl (gT g52)) rfl (q_gtr rfl rfl rfl) (sq rfl rfl (q_pick_t rfl rfl g52 rfl) (SOps.nil ?_))))))))
      rcases cond_out h with ⟨g53, h⟩ | ⟨g53, h⟩
      ·refine SCode.cond_t rfl g53 (SCode.seq ?_)
       obtain ⟨g54, h⟩ := guard_out h
       obtain ⟨g55, h⟩ := guard_out h
       refine SCode.region (sm rfl rfl (sm rfl rfl (sq rfl rfl (q_index_own rfl rfl rfl sl22 g54.1 g54.2) (sq rfl rfl (q_load_aptr rfl rfl rfl (toNat_lt g54) rfl ty3) (sq rfl rfl (q_add rfl rfl rfl) (sq rfl rfl (q_index_own rfl rfl rfl sl22 g55.1 g55.2) (se rfl rfl (e_storeL (IntKind.wrap .i64 ((o0_30.set t54_29.toNat c_49).getD t54_29.toNat 0 + 1)) rfl rfl rfl rfl rfl (toNat_lt g55) ty3 rfl rfl rfl rfl rfl rfl) ?_)))))))
       let y1 := (o0_30.set t54_29.toNat c_49).set t54_29.toNat (IntKind.wrap .i64 ((o0_30.set t54_29.toNat c_49).getD t54_29.toNat 0 + 1))
       refine SOps.sub (st' := ⟨[(7, ci m_10), (10, ci rest_28), (11, .c (.own 0 y1.length)), (52, .c (vI a1_caps)), (53, ci (((a1_caps).length : Int))), (54, ci t54_29)], [aI 3 y1]⟩) (sub_gen [0] rfl rfl ⟨zc rfl rfl, zc rfl rfl, ⟨_, rfl, .inl ⟨rfl, congrArg (Cell.own 0) (List.length_set : y1.length = (o0_30.set t54_29.toNat c_49).length).symm⟩⟩, zc rfl rfl, zc rfl rfl, zc rfl rfl, trivial⟩ ⟨oa rfl, trivial⟩) (SOps.nil (SCode.region (sm rfl rfl (sq rfl rfl (q_sub rfl rfl rfl) (sa rfl rfl (SOps.nil ?_))))))
       exact ⟨(IntKind.wrap .i64 (rest_28 - 1), (o0_30.set t54_29.toNat c_49).set t54_29.toNat (IntKind.wrap .i64 ((o0_30.set t54_29.toNat c_49).getD t54_29.toNat 0 + 1))), h, sub_gen [0] rfl rfl (zall rfl rfl) ⟨oa rfl, trivial⟩⟩
      refine SCode.cond_f rfl g53 (SCode.skip ?_)
      exact ⟨(rest_28, o0_30.set t54_29.toNat c_49), h, sub_gen [0] rfl rfl (zall rfl rfl) ⟨oa rfl, trivial⟩⟩
     refine SCode.region (sm rfl rfl (sq rfl rfl (q_gtr rfl rfl rfl) (sm rfl rfl (SOps.skip rfl 2 68 true rfl rfl (.inl (gF g52)) rfl (SOps.skip rfl 2 68 true rfl rfl (.inl (gF g52)) rfl (SOps.skip rfl 2 68 true rfl rfl (.inl (gF g52)) rfl (sq rfl rfl (q_pick_f rfl rfl g52 rfl) (SOps.nil (SCode.cond_f rfl rfl (SCode.skip ?_))))))))))
     exact ⟨(rest_28, o0_30.set t54_29.toNat c_49), h, sub_gen [0] rfl rfl (zall rfl rfl) ⟨oa rfl, trivial⟩⟩
    rintro ⟨rest_45, o0_46⟩ h
    show SCode _ _ _ (S8 rest_45 o0_46) _
    try dsimp only at h
    unfold fair_Share_p47 at h
    refine SCode.region (sq rfl rfl (q_add rfl rfl rfl) (sm rfl rfl (SOps.nil ?_)))
    exact ⟨(n_43, (rest_45, IntKind.wrap .i64 (t54_29 + 1), o0_46)), h, Nat.lt_succ_self n_43, sub_gen [0] rfl rfl (zall rfl rfl) ⟨oa rfl, trivial⟩⟩
   refine SCode.cond_f rfl g44 (SCode.exit ?_)
   exact ⟨o0_30, h, sub_gen [0] rfl rfl (zall rfl rfl) ⟨oa rfl, trivial⟩⟩
 rintro o0_14 h
 show SCode _ _ _ (S10 o0_14) _
 try dsimp only at h
 unfold fair_Share_p15 at h
 refine SCode.seq (SCode.region (sm rfl rfl (sa rfl rfl (sa rfl rfl (SOps.nil (SCode.ret ?_))))))
 obtain rfl := Option.some.inj h
 exact ⟨⟨[(4, .c (vI o0_14)), (5, ci 0)], []⟩, _, sub_gen [] rfl rfl ⟨⟨_, rfl, .inr (.inl ⟨_, _, _, _, _, _, _, rfl, rfl, rfl, Nat.le_refl _, fun _ _ _ _ => rfl, nm rfl⟩)⟩, zc rfl rfl, trivial⟩ trivial, resA2 (v1 := .c (vI o0_14)) (v2 := .c (.int .i64 0)) rfl rfl rfl, rfl⟩
theorem plan_check_ok (F : Nat) (a0_p : SProblem) (a1_energy : List Int) (r : Int) (h : plan_check F a0_p a1_energy = some r) :
  SFun Try.prog 17 [] [.a (bSProblem a0_p), .c (vI a1_energy)] (fun x _ => x = ci r) := by
 refine SFun.of (n := 32) Try.func17 rfl rfl rfl ?_
 unfold plan_check at h
 show SCode _ _ _ ⟨[(0, .a (bSProblem a0_p)), (1, .c (vI a1_energy))], []⟩ _
 refine SCode.seq (SCode.region (se rfl rfl (e_box rfl rfl rfl rfl rfl rfl) (sa rfl rfl (SOps.nil (SCode.seq (SCode.seq ?_))))))
 obtain ⟨c_1, g2, h⟩ := bind_out h
 try dsimp only at h
 refine SCode.region (sq rfl rfl (q_load_ptr_all rfl rfl rfl rfl rfl ty26) (sq rfl rfl (q_call (plan_Valid_ok F a0_p c_1 g2) [] rfl fn8 ⟨⟨rfl, rfl⟩, trivial⟩ (.inl rfl)) (sa rfl rfl (SOps.nil (SCode.seq (SCode.region (sm rfl rfl (sq rfl rfl (q_neq rfl rfl rfl) (SOps.nil ?_)))))))))
 rcases cond_out h with ⟨g3, h⟩ | ⟨g3, h⟩
 ·refine SCode.cond_t rfl g3 (SCode.seq (SCode.region (sm rfl rfl (sa rfl rfl (SOps.nil (SCode.ret ?_))))))
  obtain rfl := Option.some.inj h
  exact ⟨⟨[(4, ci c_1)], []⟩, _, sub_gen [] rfl rfl (zall rfl rfl) trivial, resA1 (v := .c (.int .i64 c_1)) rfl rfl, rfl⟩
 refine SCode.cond_f rfl g3 (SCode.skip (SCode.seq (SCode.seq (SCode.region (sm rfl rfl (sq rfl rfl (q_len_vec rfl rfl sl22) (sq rfl rfl (q_field_ptr rfl rfl fd26_4) (sq rfl rfl (q_load_ptr rfl rfl rfl rfl ty24) (sq rfl rfl (q_len_vec rfl rfl sl24) (sq rfl rfl (q_neq rfl rfl rfl) (SOps.nil ?_)))))))))))
 rcases cond_out h with ⟨g4, h⟩ | ⟨g4, h⟩
 ·refine SCode.cond_t rfl g4 (SCode.seq (SCode.region (sa rfl rfl (SOps.nil (SCode.ret ?_)))))
  obtain rfl := Option.some.inj h
  exact ⟨⟨[(4, ci 1)], []⟩, _, sub_gen [] rfl rfl (zall rfl rfl) trivial, resA1 (v := .c (.int .i64 1)) rfl rfl, rfl⟩
 refine SCode.cond_f rfl g4 (SCode.skip ?_)
 let S3 := (⟨[], []⟩ : St)
 refine SCode.join (σ := Unit) (S := fun s => S3) (g := fun s => plan_check_p5 = some r) ?_ ?_
 rotate_left
 ·refine SCode.seq (SCode.region (sm rfl rfl (sq rfl rfl (q_len_vec rfl rfl sl22) (sm rfl rfl (SOps.nil (SCode.block ?_))))))
  let S2 := fun (t21_10 : Int) => (⟨[(19, .c (vI a1_energy)), (20, ci (((a1_energy).length : Int))), (21, ci t21_10)], []⟩ : St)
  refine SCode.sub (st' := (S2 0)) (sub_gen [] rfl rfl (zall rfl rfl) trivial) ?_
  refine (SCode.loop (σ := Nat × Int) (S := fun s => (S2 s.2)) (g := fun s => plan_check_l15 a1_energy s.1 s.2 = some r) (μ := fun s => s.1) (F, 0) h ?_)
  rintro ⟨n_15, t21_10⟩ h
  try dsimp only at h
  show SCode _ _ _ (S2 t21_10) _
  cases n_15 with
  | zero => cases h
  | succ n_15 =>
   rw [plan_check_l15] at h
   unfold plan_check_b15 at h
   refine SCode.seq (SCode.region (sq rfl rfl (q_lss rfl rfl rfl) (SOps.nil (SCode.seq ?_))))
   rcases cond_out h with ⟨g16, h⟩ | ⟨g16, h⟩
   ·refine SCode.cond_t rfl g16 (SCode.skip (SCode.seq (SCode.block (SCode.seq ?_))))
    obtain ⟨g17, h⟩ := guard_out h
    refine SCode.region (sq rfl rfl (q_index_vec rfl rfl rfl sl22 rfl g17.1 g17.2) (sq rfl rfl (q_load_eptr rfl rfl ty3) (sa rfl rfl (SOps.nil (SCode.seq ?_)))))
    rcases cond_out h with ⟨g18, h⟩ | ⟨g18, h⟩
    ·refine SCode.region (sm rfl rfl (sq rfl rfl (q_lss rfl rfl rfl) (sm rfl rfl (SOps.skip rfl 2 27 false rfl rfl (.inl (gT g18)) rfl (SOps.skip rfl 2 27 false rfl rfl (.inl (gT g18)) rfl (sq rfl rfl (q_pick_t rfl rfl g18 rfl) (SOps.nil (SCode.cond_t rfl rfl (SCode.seq (SCode.region (sa rfl rfl (SOps.nil (SCode.ret ?_)))))))))))))
     obtain rfl := Option.some.inj h
     exact ⟨⟨[(4, ci 1)], []⟩, _, sub_gen [] rfl rfl (zall rfl rfl) trivial, resA1 (v := .c (.int .i64 1)) rfl rfl, rfl⟩
    refine SCode.region (sm rfl rfl (sq rfl rfl (q_lss rfl rfl rfl) (sm rfl rfl (SOps.q rfl (.guard 2 27 false rfl rfl (gF g18)) rfl (q_move rfl rfl) (SOps.q rfl (.guard 2 27 false rfl rfl (gF g18)) rfl (q_gtr rfl rfl rfl) (sq rfl rfl (q_pick_f rfl rfl g18 rfl) (SOps.nil ?_)))))))
    rcases cond_out h with ⟨g19, h⟩ | ⟨g19, h⟩
    ·refine SCode.cond_t rfl g19 (SCode.seq (SCode.region (sa rfl rfl (SOps.nil (SCode.ret ?_)))))
     obtain rfl := Option.some.inj h
     exact ⟨⟨[(4, ci 1)], []⟩, _, sub_gen [] rfl rfl (zall rfl rfl) trivial, resA1 (v := .c (.int .i64 1)) rfl rfl, rfl⟩
    refine SCode.cond_f rfl g19 (SCode.skip (SCode.region (sq rfl rfl (q_add rfl rfl rfl) (sm rfl rfl (SOps.nil ?_)))))
    exact ⟨(n_15, IntKind.wrap .i64 (t21_10 + 1)), h, Nat.lt_succ_self n_15, sub_gen [] rfl rfl (zall rfl rfl) trivial⟩
   refine SCode.cond_f rfl g16 (SCode.exit ?_)
   exact ⟨(), h, sub_gen [] rfl rfl trivial trivial⟩
 rintro ⟨⟩ h
 show SCode _ _ _ S3 _
 try dsimp only at h
 unfold plan_check_p5 at h
 refine SCode.seq (SCode.region (sa rfl rfl (SOps.nil (SCode.ret ?_))))
 obtain rfl := Option.some.inj h
 exact ⟨⟨[(4, ci 0)], []⟩, _, sub_gen [] rfl rfl (zall rfl rfl) trivial, resA1 (v := .c (.int .i64 0)) rfl rfl, rfl⟩
end Go.Proofs.Ytmiikbfacgmopaa.W
