/- Written by a program of ours (wip/eng/gen.py): the functions compute their models. -/
import Derived.Test.YtfefnffdocmlmaaFacts
import Derived.Test.YtfefnffdocmlmaaV7x3
namespace Go.Proofs.Ytfefnffdocmlmaa.W
open Go Go.Proofs Go.Proofs.Ytfefnffdocmlmaa.E Go.Proofs.Ytfefnffdocmlmaa.M
set_option linter.unusedVariables false
set_option maxRecDepth 100000
set_option maxHeartbeats 8000000
theorem hush41_fair_Fill_f1_31 : Hush Try.prog 41 := Hush.of Try.func41 rfl rfl rfl rfl rfl rfl rfl rfl rfl rfl if20
theorem fair_Fill_f1_31_ok (F : Nat) (a0_caps : List Int) (a1b_Nodes : Int) (a1b_Arcs : List SArc) (r : (List Int) × Int × (List SArc)) (h : fair_Fill_f1_31 F a0_caps a1b_Nodes a1b_Arcs = some r) :
  SFun Try.prog 30 [.box [.int .i64 a1b_Nodes, .own 1 a1b_Arcs.length], aSArc 63 a1b_Arcs] [.c (vI a0_caps), .c (.fnp 31 0)] (fun x os => x = .t [.c (vI r.1), .c (.int .i64 r.2.1)] ∧ os = [.box [.int .i64 a1b_Nodes, .own 1 r.2.2.length], aSArc 63 r.2.2, .box [vI r.1], .box [.int .i64 r.2.1]]) := by
 refine SFun.ofD (n := 56) Try.func30 hush41_fair_Fill_f1_31 fn41 rfl rfl rfl rfl rfl rfl rfl rfl rfl rfl ?_
 unfold fair_Fill_f1_31 at h
 show SCode _ _ _ ⟨[(0, .c (vI a0_caps)), (1, .c (.fnp 31 0))], [.box [.int .i64 a1b_Nodes, .own 1 a1b_Arcs.length], aSArc 63 a1b_Arcs]⟩ _
 refine SCode.region (se rfl rfl (e_alloc rfl rfl rfl z22) (se rfl rfl (e_alloc rfl rfl rfl z28) (SOps.sub (st' := ⟨[(0, .c (vI a0_caps)), (1, .c (.fnp 31 0)), (4, .c (.ptr 2 0)), (5, .c (.ptr 3 0))], [.box [.int .i64 a1b_Nodes, .own 1 a1b_Arcs.length], aSArc 63 a1b_Arcs, .box [.raw (.slice none 0 0)], .box [.int .i64 0]]⟩) (sub_gen [0, 1, 2, 3] rfl rfl (zall rfl rfl) ⟨bx rfl rfl rfl, oa rfl, bx rfl rfl rfl, bx rfl rfl rfl, trivial⟩) (SOps.nil ?_))))
 refine ⟨rfl, ?_⟩
 show SCode _ _ _ ⟨[(0, .c (vI a0_caps)), (1, .c (.fnp 31 0)), (4, .c (.ptr 2 0)), (5, .c (.ptr 3 0))], [.box [.int .i64 a1b_Nodes, .own 1 a1b_Arcs.length], aSArc 63 a1b_Arcs, .box [.raw (.slice none 0 0)], .box [.int .i64 0]]⟩ _
 refine SCode.seq (SCode.seq (SCode.region (sm rfl rfl (sq rfl rfl (q_eqlF (b := false) rfl rfl rfl rfl fb52) (SOps.nil (SCode.cond_f rfl rfl (SCode.skip (SCode.seq (SCode.seq ?_)))))))))
 obtain ⟨c_1, g2, h⟩ := bind_out h
 try dsimp only at h
 refine SCode.region (sm rfl rfl (sq rfl rfl (q_call (fair_check_ok F a0_caps c_1 g2) [] rfl fn42 ⟨⟨_, rfl, .inl ⟨rfl, rfl⟩⟩, trivial⟩ (.inl rfl)) (sa rfl rfl (SOps.nil (SCode.seq (SCode.region (sm rfl rfl (sq rfl rfl (q_neq rfl rfl rfl) (SOps.nil ?_)))))))))
 rcases cond_out h with ⟨g3, h⟩ | ⟨g3, h⟩
 ·refine SCode.cond_t rfl g3 (SCode.seq (SCode.region (sm rfl rfl (se rfl rfl (e_store_box rfl rfl rfl rfl rfl ty22 rfl rfl rfl rfl) (se rfl rfl (e_store_box rfl rfl rfl rfl rfl ty28 rfl rfl rfl rfl) (SOps.nil (SCode.ret ?_)))))))
  obtain rfl := Option.some.inj h
  exact ⟨⟨[(4, .c (.ptr 2 0)), (5, .c (.ptr 3 0))], [.box [.int .i64 a1b_Nodes, .own 1 a1b_Arcs.length], aSArc 63 a1b_Arcs, .box [vI (([] : List Int))], .box [.int .i64 c_1]]⟩, _, sub_gen [0, 1, 2, 3] rfl rfl (zall rfl rfl) ⟨bx rfl rfl rfl, oa rfl, ⟨_, rfl, ⟨.inr (.inr (.inr (.inl ⟨_, _, rfl, rfl⟩))), trivial⟩⟩, bx rfl rfl rfl, trivial⟩, resA2 (v1 := .c (vI (([] : List Int)))) (v2 := .c (.int .i64 c_1)) rfl ⟨_, rfl, rfl, ty22⟩ ⟨_, rfl, rfl, ty28⟩, ⟨rfl, rfl⟩⟩
 refine SCode.cond_f rfl g3 (SCode.skip (SCode.seq (SCode.region (sm rfl rfl (sq rfl rfl (q_len_vec rfl rfl sl22) (sa rfl rfl (SOps.nil (SCode.seq (SCode.sub (st' := ⟨[(0, .c (vI a0_caps)), (1, .c (.fnp 31 0)), (4, .c (.ptr 2 0)), (5, .c (.ptr 3 0)), (7, ci (((a0_caps).length : Int)))], [.box [.int .i64 a1b_Nodes, .own 1 a1b_Arcs.length], aSArc 63 a1b_Arcs, .box [.raw (.slice none 0 0)], .box [.int .i64 0]]⟩) (sub_gen [0, 1, 2, 3] rfl rfl (zall rfl rfl) ⟨bx rfl rfl rfl, oa rfl, bx rfl rfl rfl, bx rfl rfl rfl, trivial⟩) ?_)))))))))
 obtain ⟨g4, h⟩ := guard_out h
 obtain ⟨g5, h⟩ := guard_out h
 obtain ⟨g6, h⟩ := guard_out h
 let ob1 : Ob := .box [.int .i64 a1b_Nodes, .own 1 a1b_Arcs.length]
 let ob2 : Ob := .box [.raw (.slice none 0 0)]
 let ob4 : Ob := aI 3 (List.replicate (((a0_caps).length : Int)).toNat (0 : Int))
 let ob6 : Ob := aB 4 (List.replicate (((a0_caps).length : Int)).toNat (false : Bool))
 let ob10 : Ob := .box [.raw (.slice none 0 0), .raw .nilFunc, .raw (.slice none 0 0), .raw (.slice none 0 0), .raw (.slice none 0 0)]
 let ob11 : Ob := .box [vI a0_caps, .fnp 31 0, .own 4 (List.replicate (((a0_caps).length : Int)).toNat (0 : Int)).length, .own 5 (List.replicate (((a0_caps).length : Int)).toNat (false : Bool)).length, .own 6 (List.replicate (((a0_caps).length : Int)).toNat (0 : Int)).length]
 let ob14 : Ob := .box [vI a0_caps, .fnp 31 0, .own 4 (List.replicate (((a0_caps).length : Int)).toNat (0 : Int)).length, .own 5 (List.replicate (((a0_caps).length : Int)).toNat (false : Bool)).length, .own 7 (List.replicate (((a0_caps).length : Int)).toNat (0 : Int)).length]
 let ob18 : Ob := .box [vI a0_caps, .fnp 31 0, .own 4 (List.replicate (((a0_caps).length : Int)).toNat (0 : Int)).length, .own 6 (List.replicate (((a0_caps).length : Int)).toNat (false : Bool)).length, .own 5 (List.replicate (((a0_caps).length : Int)).toNat (0 : Int)).length]
 let ob21 : Ob := .box [vI a0_caps, .fnp 31 0, .own 4 (List.replicate (((a0_caps).length : Int)).toNat (0 : Int)).length, .own 7 (List.replicate (((a0_caps).length : Int)).toNat (false : Bool)).length, .own 5 (List.replicate (((a0_caps).length : Int)).toNat (0 : Int)).length]
 let ob23 : Ob := .box [vI a0_caps, .fnp 31 0, .own 4 (List.replicate (((a0_caps).length : Int)).toNat (0 : Int)).length, .own 6 (List.replicate (((a0_caps).length : Int)).toNat (false : Bool)).length, .own 7 (List.replicate (((a0_caps).length : Int)).toNat (0 : Int)).length]
 let ob25 : Ob := .box [vI a0_caps, .fnp 31 0, .own 4 (List.replicate (((a0_caps).length : Int)).toNat (0 : Int)).length, .own 7 (List.replicate (((a0_caps).length : Int)).toNat (false : Bool)).length, .own 6 (List.replicate (((a0_caps).length : Int)).toNat (0 : Int)).length]
 let ob28 : Ob := .box [vI a0_caps, .fnp 31 0, .own 5 (List.replicate (((a0_caps).length : Int)).toNat (0 : Int)).length, .own 4 (List.replicate (((a0_caps).length : Int)).toNat (false : Bool)).length, .own 6 (List.replicate (((a0_caps).length : Int)).toNat (0 : Int)).length]
 let ob30 : Ob := .box [vI a0_caps, .fnp 31 0, .own 5 (List.replicate (((a0_caps).length : Int)).toNat (0 : Int)).length, .own 4 (List.replicate (((a0_caps).length : Int)).toNat (false : Bool)).length, .own 7 (List.replicate (((a0_caps).length : Int)).toNat (0 : Int)).length]
 let ob32 : Ob := .box [vI a0_caps, .fnp 31 0, .own 6 (List.replicate (((a0_caps).length : Int)).toNat (0 : Int)).length, .own 4 (List.replicate (((a0_caps).length : Int)).toNat (false : Bool)).length, .own 5 (List.replicate (((a0_caps).length : Int)).toNat (0 : Int)).length]
 let ob34 : Ob := .box [vI a0_caps, .fnp 31 0, .own 7 (List.replicate (((a0_caps).length : Int)).toNat (0 : Int)).length, .own 4 (List.replicate (((a0_caps).length : Int)).toNat (false : Bool)).length, .own 5 (List.replicate (((a0_caps).length : Int)).toNat (0 : Int)).length]
 let ob36 : Ob := .box [vI a0_caps, .fnp 31 0, .own 6 (List.replicate (((a0_caps).length : Int)).toNat (0 : Int)).length, .own 4 (List.replicate (((a0_caps).length : Int)).toNat (false : Bool)).length, .own 7 (List.replicate (((a0_caps).length : Int)).toNat (0 : Int)).length]
 let ob38 : Ob := .box [vI a0_caps, .fnp 31 0, .own 7 (List.replicate (((a0_caps).length : Int)).toNat (0 : Int)).length, .own 4 (List.replicate (((a0_caps).length : Int)).toNat (false : Bool)).length, .own 6 (List.replicate (((a0_caps).length : Int)).toNat (0 : Int)).length]
 let ob40 : Ob := .box [vI a0_caps, .fnp 31 0, .own 5 (List.replicate (((a0_caps).length : Int)).toNat (0 : Int)).length, .own 6 (List.replicate (((a0_caps).length : Int)).toNat (false : Bool)).length, .own 4 (List.replicate (((a0_caps).length : Int)).toNat (0 : Int)).length]
 let ob42 : Ob := .box [vI a0_caps, .fnp 31 0, .own 5 (List.replicate (((a0_caps).length : Int)).toNat (0 : Int)).length, .own 7 (List.replicate (((a0_caps).length : Int)).toNat (false : Bool)).length, .own 4 (List.replicate (((a0_caps).length : Int)).toNat (0 : Int)).length]
 let ob44 : Ob := .box [vI a0_caps, .fnp 31 0, .own 6 (List.replicate (((a0_caps).length : Int)).toNat (0 : Int)).length, .own 5 (List.replicate (((a0_caps).length : Int)).toNat (false : Bool)).length, .own 4 (List.replicate (((a0_caps).length : Int)).toNat (0 : Int)).length]
 let ob46 : Ob := .box [vI a0_caps, .fnp 31 0, .own 7 (List.replicate (((a0_caps).length : Int)).toNat (0 : Int)).length, .own 5 (List.replicate (((a0_caps).length : Int)).toNat (false : Bool)).length, .own 4 (List.replicate (((a0_caps).length : Int)).toNat (0 : Int)).length]
 let ob48 : Ob := .box [vI a0_caps, .fnp 31 0, .own 6 (List.replicate (((a0_caps).length : Int)).toNat (0 : Int)).length, .own 7 (List.replicate (((a0_caps).length : Int)).toNat (false : Bool)).length, .own 4 (List.replicate (((a0_caps).length : Int)).toNat (0 : Int)).length]
 let ob50 : Ob := .box [vI a0_caps, .fnp 31 0, .own 7 (List.replicate (((a0_caps).length : Int)).toNat (0 : Int)).length, .own 6 (List.replicate (((a0_caps).length : Int)).toNat (false : Bool)).length, .own 4 (List.replicate (((a0_caps).length : Int)).toNat (0 : Int)).length]
 let ob52 : Ob := .box [vI a0_caps, .fnp 31 0, .own 5 (List.replicate (((a0_caps).length : Int)).toNat (0 : Int)).length, .own 6 (List.replicate (((a0_caps).length : Int)).toNat (false : Bool)).length, .own 7 (List.replicate (((a0_caps).length : Int)).toNat (0 : Int)).length]
 let ob54 : Ob := .box [vI a0_caps, .fnp 31 0, .own 5 (List.replicate (((a0_caps).length : Int)).toNat (0 : Int)).length, .own 7 (List.replicate (((a0_caps).length : Int)).toNat (false : Bool)).length, .own 6 (List.replicate (((a0_caps).length : Int)).toNat (0 : Int)).length]
 let ob56 : Ob := .box [vI a0_caps, .fnp 31 0, .own 6 (List.replicate (((a0_caps).length : Int)).toNat (0 : Int)).length, .own 5 (List.replicate (((a0_caps).length : Int)).toNat (false : Bool)).length, .own 7 (List.replicate (((a0_caps).length : Int)).toNat (0 : Int)).length]
 let ob58 : Ob := .box [vI a0_caps, .fnp 31 0, .own 7 (List.replicate (((a0_caps).length : Int)).toNat (0 : Int)).length, .own 5 (List.replicate (((a0_caps).length : Int)).toNat (false : Bool)).length, .own 6 (List.replicate (((a0_caps).length : Int)).toNat (0 : Int)).length]
 let ob60 : Ob := .box [vI a0_caps, .fnp 31 0, .own 6 (List.replicate (((a0_caps).length : Int)).toNat (0 : Int)).length, .own 7 (List.replicate (((a0_caps).length : Int)).toNat (false : Bool)).length, .own 5 (List.replicate (((a0_caps).length : Int)).toNat (0 : Int)).length]
 let ob62 : Ob := .box [vI a0_caps, .fnp 31 0, .own 7 (List.replicate (((a0_caps).length : Int)).toNat (0 : Int)).length, .own 6 (List.replicate (((a0_caps).length : Int)).toNat (false : Bool)).length, .own 5 (List.replicate (((a0_caps).length : Int)).toNat (0 : Int)).length]
 let av5 : AV := .c (.own 4 (List.replicate (((a0_caps).length : Int)).toNat (0 : Int)).length)
 let av7 : AV := .c (.own 5 (List.replicate (((a0_caps).length : Int)).toNat (false : Bool)).length)
 let av8 : AV := .c (.own 6 (List.replicate (((a0_caps).length : Int)).toNat (0 : Int)).length)
 let av9 : AV := .a [vI a0_caps, .fnp 31 0, .own 4 (List.replicate (((a0_caps).length : Int)).toNat (0 : Int)).length, .own 5 (List.replicate (((a0_caps).length : Int)).toNat (false : Bool)).length, .own 6 (List.replicate (((a0_caps).length : Int)).toNat (0 : Int)).length]
 let av12 : AV := .c (.own 7 (List.replicate (((a0_caps).length : Int)).toNat (0 : Int)).length)
 let av13 : AV := .a [vI a0_caps, .fnp 31 0, .own 4 (List.replicate (((a0_caps).length : Int)).toNat (0 : Int)).length, .own 5 (List.replicate (((a0_caps).length : Int)).toNat (false : Bool)).length, .own 7 (List.replicate (((a0_caps).length : Int)).toNat (0 : Int)).length]
 let av15 : AV := .c (.own 5 (List.replicate (((a0_caps).length : Int)).toNat (0 : Int)).length)
 let av16 : AV := .c (.own 6 (List.replicate (((a0_caps).length : Int)).toNat (false : Bool)).length)
 let av17 : AV := .a [vI a0_caps, .fnp 31 0, .own 4 (List.replicate (((a0_caps).length : Int)).toNat (0 : Int)).length, .own 6 (List.replicate (((a0_caps).length : Int)).toNat (false : Bool)).length, .own 5 (List.replicate (((a0_caps).length : Int)).toNat (0 : Int)).length]
 let av19 : AV := .c (.own 7 (List.replicate (((a0_caps).length : Int)).toNat (false : Bool)).length)
 let av20 : AV := .a [vI a0_caps, .fnp 31 0, .own 4 (List.replicate (((a0_caps).length : Int)).toNat (0 : Int)).length, .own 7 (List.replicate (((a0_caps).length : Int)).toNat (false : Bool)).length, .own 5 (List.replicate (((a0_caps).length : Int)).toNat (0 : Int)).length]
 let av22 : AV := .a [vI a0_caps, .fnp 31 0, .own 4 (List.replicate (((a0_caps).length : Int)).toNat (0 : Int)).length, .own 6 (List.replicate (((a0_caps).length : Int)).toNat (false : Bool)).length, .own 7 (List.replicate (((a0_caps).length : Int)).toNat (0 : Int)).length]
 let av24 : AV := .a [vI a0_caps, .fnp 31 0, .own 4 (List.replicate (((a0_caps).length : Int)).toNat (0 : Int)).length, .own 7 (List.replicate (((a0_caps).length : Int)).toNat (false : Bool)).length, .own 6 (List.replicate (((a0_caps).length : Int)).toNat (0 : Int)).length]
 let av26 : AV := .c (.own 4 (List.replicate (((a0_caps).length : Int)).toNat (false : Bool)).length)
 let av27 : AV := .a [vI a0_caps, .fnp 31 0, .own 5 (List.replicate (((a0_caps).length : Int)).toNat (0 : Int)).length, .own 4 (List.replicate (((a0_caps).length : Int)).toNat (false : Bool)).length, .own 6 (List.replicate (((a0_caps).length : Int)).toNat (0 : Int)).length]
 let av29 : AV := .a [vI a0_caps, .fnp 31 0, .own 5 (List.replicate (((a0_caps).length : Int)).toNat (0 : Int)).length, .own 4 (List.replicate (((a0_caps).length : Int)).toNat (false : Bool)).length, .own 7 (List.replicate (((a0_caps).length : Int)).toNat (0 : Int)).length]
 let av31 : AV := .a [vI a0_caps, .fnp 31 0, .own 6 (List.replicate (((a0_caps).length : Int)).toNat (0 : Int)).length, .own 4 (List.replicate (((a0_caps).length : Int)).toNat (false : Bool)).length, .own 5 (List.replicate (((a0_caps).length : Int)).toNat (0 : Int)).length]
 let av33 : AV := .a [vI a0_caps, .fnp 31 0, .own 7 (List.replicate (((a0_caps).length : Int)).toNat (0 : Int)).length, .own 4 (List.replicate (((a0_caps).length : Int)).toNat (false : Bool)).length, .own 5 (List.replicate (((a0_caps).length : Int)).toNat (0 : Int)).length]
 let av35 : AV := .a [vI a0_caps, .fnp 31 0, .own 6 (List.replicate (((a0_caps).length : Int)).toNat (0 : Int)).length, .own 4 (List.replicate (((a0_caps).length : Int)).toNat (false : Bool)).length, .own 7 (List.replicate (((a0_caps).length : Int)).toNat (0 : Int)).length]
 let av37 : AV := .a [vI a0_caps, .fnp 31 0, .own 7 (List.replicate (((a0_caps).length : Int)).toNat (0 : Int)).length, .own 4 (List.replicate (((a0_caps).length : Int)).toNat (false : Bool)).length, .own 6 (List.replicate (((a0_caps).length : Int)).toNat (0 : Int)).length]
 let av39 : AV := .a [vI a0_caps, .fnp 31 0, .own 5 (List.replicate (((a0_caps).length : Int)).toNat (0 : Int)).length, .own 6 (List.replicate (((a0_caps).length : Int)).toNat (false : Bool)).length, .own 4 (List.replicate (((a0_caps).length : Int)).toNat (0 : Int)).length]
 let av41 : AV := .a [vI a0_caps, .fnp 31 0, .own 5 (List.replicate (((a0_caps).length : Int)).toNat (0 : Int)).length, .own 7 (List.replicate (((a0_caps).length : Int)).toNat (false : Bool)).length, .own 4 (List.replicate (((a0_caps).length : Int)).toNat (0 : Int)).length]
 let av43 : AV := .a [vI a0_caps, .fnp 31 0, .own 6 (List.replicate (((a0_caps).length : Int)).toNat (0 : Int)).length, .own 5 (List.replicate (((a0_caps).length : Int)).toNat (false : Bool)).length, .own 4 (List.replicate (((a0_caps).length : Int)).toNat (0 : Int)).length]
 let av45 : AV := .a [vI a0_caps, .fnp 31 0, .own 7 (List.replicate (((a0_caps).length : Int)).toNat (0 : Int)).length, .own 5 (List.replicate (((a0_caps).length : Int)).toNat (false : Bool)).length, .own 4 (List.replicate (((a0_caps).length : Int)).toNat (0 : Int)).length]
 let av47 : AV := .a [vI a0_caps, .fnp 31 0, .own 6 (List.replicate (((a0_caps).length : Int)).toNat (0 : Int)).length, .own 7 (List.replicate (((a0_caps).length : Int)).toNat (false : Bool)).length, .own 4 (List.replicate (((a0_caps).length : Int)).toNat (0 : Int)).length]
 let av49 : AV := .a [vI a0_caps, .fnp 31 0, .own 7 (List.replicate (((a0_caps).length : Int)).toNat (0 : Int)).length, .own 6 (List.replicate (((a0_caps).length : Int)).toNat (false : Bool)).length, .own 4 (List.replicate (((a0_caps).length : Int)).toNat (0 : Int)).length]
 let av51 : AV := .a [vI a0_caps, .fnp 31 0, .own 5 (List.replicate (((a0_caps).length : Int)).toNat (0 : Int)).length, .own 6 (List.replicate (((a0_caps).length : Int)).toNat (false : Bool)).length, .own 7 (List.replicate (((a0_caps).length : Int)).toNat (0 : Int)).length]
 let av53 : AV := .a [vI a0_caps, .fnp 31 0, .own 5 (List.replicate (((a0_caps).length : Int)).toNat (0 : Int)).length, .own 7 (List.replicate (((a0_caps).length : Int)).toNat (false : Bool)).length, .own 6 (List.replicate (((a0_caps).length : Int)).toNat (0 : Int)).length]
 let av55 : AV := .a [vI a0_caps, .fnp 31 0, .own 6 (List.replicate (((a0_caps).length : Int)).toNat (0 : Int)).length, .own 5 (List.replicate (((a0_caps).length : Int)).toNat (false : Bool)).length, .own 7 (List.replicate (((a0_caps).length : Int)).toNat (0 : Int)).length]
 let av57 : AV := .a [vI a0_caps, .fnp 31 0, .own 7 (List.replicate (((a0_caps).length : Int)).toNat (0 : Int)).length, .own 5 (List.replicate (((a0_caps).length : Int)).toNat (false : Bool)).length, .own 6 (List.replicate (((a0_caps).length : Int)).toNat (0 : Int)).length]
 let av59 : AV := .a [vI a0_caps, .fnp 31 0, .own 6 (List.replicate (((a0_caps).length : Int)).toNat (0 : Int)).length, .own 7 (List.replicate (((a0_caps).length : Int)).toNat (false : Bool)).length, .own 5 (List.replicate (((a0_caps).length : Int)).toNat (0 : Int)).length]
 let av61 : AV := .a [vI a0_caps, .fnp 31 0, .own 7 (List.replicate (((a0_caps).length : Int)).toNat (0 : Int)).length, .own 6 (List.replicate (((a0_caps).length : Int)).toNat (false : Bool)).length, .own 5 (List.replicate (((a0_caps).length : Int)).toNat (0 : Int)).length]
 let obs3 : List Ob := [ob1, aSArc 63 a1b_Arcs, ob2, .box [.int .i64 0]]
 let y1 := ((a0_caps).length : Int)
 let y2 := List.replicate y1.toNat (0 : Int)
 refine SCode.draw2 (sH := [(26, ci y1), (24, ci y1), (22, ci y1), (21, .c (.fnp 31 0)), (20, .c (vI a0_caps)), (0, .c (vI a0_caps)), (1, .c (.fnp 31 0)), (4, .c (.ptr 2 0)), (5, .c (.ptr 3 0)), (7, ci y1)]) mixed [[], [], [], [2], [], [4], [], [6], [0, 1, 2, 3, 4, 5, 6, 7], [], [0, 1, 2, 3, 4, 5, 6, 7, 8, 9]] [3, 5, 7, 8, 9, 10] (fun h => List.getD ([] : List (List Nat)) h []) rfl ?_ ⟨[(1, .c (.fnp 31 0)), (4, .c (.ptr 2 0)), (5, .c (.ptr 3 0)), (7, ci y1), (8, .c (.ptr 4 0))], [.box [.int .i64 a1b_Nodes, .own 1 a1b_Arcs.length], aSArc 63 a1b_Arcs, .box [.raw (.slice none 0 0)], .box [.int .i64 0], .box [vI a0_caps, .fnp 31 0, .own 5 y2.length, .own 6 (List.replicate y1.toNat (false : Bool)).length, .own 7 y2.length], aI 3 y2, aB 4 (List.replicate y1.toNat (false : Bool)), aI 3 y2]⟩ ?_ ?_
 ·refine HChain.run rfl rfl (.plain rfl) rfl (fun f x => q_move rfl rfl) (HChain.run rfl rfl (.plain rfl) rfl (fun f x => q_move rfl rfl) (HChain.run rfl rfl (.plain rfl) rfl (fun f x => q_move rfl rfl) (HChain.tail rfl (HChain.run rfl rfl (.plain rfl) rfl (fun f x => q_move rfl rfl) (HChain.tail rfl (HChain.run rfl rfl (.plain rfl) rfl (fun f x => q_move rfl rfl) (HChain.tail rfl (HChain.tail rfl (HChain.tail rfl (HChain.tail rfl ?_))))))))))
  exact HChain.nil _ _
 ·refine TTree.node 3 [5, 7, 9] rfl (AllP.cons ?_ (AllP.cons ?_ (AllP.cons ?_ (AllP.cons ?_ AllP.nil))))
  ·refine td (objs' := obs3 ++ [ob4]) (v := av5) 23 rfl rfl rfl rfl rfl (fun _ => EOp.eq (e_makeL (c := (cInt .i64)) (d0 := 0) rfl rfl rfl rfl rfl sl22 z3 rfl rfl rfl g4.1 (Int.le_refl _) g4.2.1 g4.2.2) rfl) rfl rfl ?_
   refine TTree.node 5 [7, 9] rfl (AllP.cons ?_ (AllP.cons ?_ (AllP.cons ?_ AllP.nil)))
   ·refine td (objs' := obs3 ++ [ob4, ob6]) (v := av7) 25 rfl rfl rfl rfl rfl (fun _ => EOp.eq (e_makeL (c := cBool) (d0 := false) rfl rfl rfl rfl rfl sl53 z4 rfl rfl rfl g5.1 (Int.le_refl _) g5.2.1 g5.2.2) rfl) rfl rfl ?_
    refine TTree.node 7 [9] rfl (AllP.cons ?_ (AllP.cons ?_ AllP.nil))
    ·refine td (objs' := obs3 ++ [ob4, ob6, ob4]) (v := av8) 27 rfl rfl rfl rfl rfl (fun _ => EOp.eq (e_makeL (c := (cInt .i64)) (d0 := 0) rfl rfl rfl rfl rfl sl22 z3 rfl rfl rfl g6.1 (Int.le_refl _) g6.2.1 g6.2.2) rfl) rfl rfl ?_
     refine TTree.node 8 [9] rfl (AllP.cons ?_ (AllP.cons ?_ AllP.nil))
     ·refine td (objs' := obs3 ++ [ob4, ob6, ob4]) (v := av9) 28 rfl rfl rfl rfl rfl (fun _ => EOp.eq (EOp.qd rfl rfl (q_build2 rfl rfl pl68 rfl)) rfl) rfl rfl ?_
      refine t1 9 rfl (td (objs' := obs3 ++ [ob4, ob6, ob4, ob10]) (v := .c (.ptr 7 0)) 8 rfl rfl rfl rfl rfl (fun _ => EOp.eq (e_alloc rfl rfl rfl z68) rfl) rfl rfl ?_)
      refine t1 10 rfl (tn (objs' := obs3 ++ [ob4, ob6, ob4, ob11]) rfl rfl rfl rfl (fun _ => EOp.eq (e_store_box rfl rfl rfl rfl rfl ty68 rfl rfl rfl rfl) rfl) rfl rfl ?_)
      exact tl rfl (sub_gen [0, 1, 2, 3, 7, 4, 5, 6] rfl rfl (zall rfl rfl) ⟨bx rfl rfl rfl, oa rfl, bx rfl rfl rfl, bx rfl rfl rfl, bx rfl rfl rfl, oa rfl, oa rfl, oa rfl, trivial⟩)
     ·refine td (objs' := obs3 ++ [ob4, ob6, ob4, ob10]) (v := .c (.ptr 7 0)) 8 rfl rfl rfl rfl rfl (fun _ => EOp.eq (e_alloc rfl rfl rfl z68) rfl) rfl rfl ?_
      refine t1 8 rfl (td (objs' := obs3 ++ [ob4, ob6, ob4, ob10]) (v := av9) 28 rfl rfl rfl rfl rfl (fun _ => EOp.eq (EOp.qd rfl rfl (q_build2 rfl rfl pl68 rfl)) rfl) rfl rfl ?_)
      refine t1 10 rfl (tn (objs' := obs3 ++ [ob4, ob6, ob4, ob11]) rfl rfl rfl rfl (fun _ => EOp.eq (e_store_box rfl rfl rfl rfl rfl ty68 rfl rfl rfl rfl) rfl) rfl rfl ?_)
      exact tl rfl (sub_gen [0, 1, 2, 3, 7, 4, 5, 6] rfl rfl (zall rfl rfl) ⟨bx rfl rfl rfl, oa rfl, bx rfl rfl rfl, bx rfl rfl rfl, bx rfl rfl rfl, oa rfl, oa rfl, oa rfl, trivial⟩)
    ·refine td (objs' := obs3 ++ [ob4, ob6, ob10]) (v := .c (.ptr 6 0)) 8 rfl rfl rfl rfl rfl (fun _ => EOp.eq (e_alloc rfl rfl rfl z68) rfl) rfl rfl ?_
     refine t1 7 rfl (td (objs' := obs3 ++ [ob4, ob6, ob10, ob4]) (v := av12) 27 rfl rfl rfl rfl rfl (fun _ => EOp.eq (e_makeL (c := (cInt .i64)) (d0 := 0) rfl rfl rfl rfl rfl sl22 z3 rfl rfl rfl g6.1 (Int.le_refl _) g6.2.1 g6.2.2) rfl) rfl rfl ?_)
     refine t1 8 rfl (td (objs' := obs3 ++ [ob4, ob6, ob10, ob4]) (v := av13) 28 rfl rfl rfl rfl rfl (fun _ => EOp.eq (EOp.qd rfl rfl (q_build2 rfl rfl pl68 rfl)) rfl) rfl rfl ?_)
     refine t1 10 rfl (tn (objs' := obs3 ++ [ob4, ob6, ob14, ob4]) rfl rfl rfl rfl (fun _ => EOp.eq (e_store_box rfl rfl rfl rfl rfl ty68 rfl rfl rfl rfl) rfl) rfl rfl ?_)
     exact tl rfl (sub_gen [0, 1, 2, 3, 6, 4, 5, 7] rfl rfl (zall rfl rfl) ⟨bx rfl rfl rfl, oa rfl, bx rfl rfl rfl, bx rfl rfl rfl, bx rfl rfl rfl, oa rfl, oa rfl, oa rfl, trivial⟩)
   ·refine td (objs' := obs3 ++ [ob4, ob4]) (v := av15) 27 rfl rfl rfl rfl rfl (fun _ => EOp.eq (e_makeL (c := (cInt .i64)) (d0 := 0) rfl rfl rfl rfl rfl sl22 z3 rfl rfl rfl g6.1 (Int.le_refl _) g6.2.1 g6.2.2) rfl) rfl rfl ?_
    refine TTree.node 5 [9] rfl (AllP.cons ?_ (AllP.cons ?_ AllP.nil))
    ·refine td (objs' := obs3 ++ [ob4, ob4, ob6]) (v := av16) 25 rfl rfl rfl rfl rfl (fun _ => EOp.eq (e_makeL (c := cBool) (d0 := false) rfl rfl rfl rfl rfl sl53 z4 rfl rfl rfl g5.1 (Int.le_refl _) g5.2.1 g5.2.2) rfl) rfl rfl ?_
     refine TTree.node 8 [9] rfl (AllP.cons ?_ (AllP.cons ?_ AllP.nil))
     ·refine td (objs' := obs3 ++ [ob4, ob4, ob6]) (v := av17) 28 rfl rfl rfl rfl rfl (fun _ => EOp.eq (EOp.qd rfl rfl (q_build2 rfl rfl pl68 rfl)) rfl) rfl rfl ?_
      refine t1 9 rfl (td (objs' := obs3 ++ [ob4, ob4, ob6, ob10]) (v := .c (.ptr 7 0)) 8 rfl rfl rfl rfl rfl (fun _ => EOp.eq (e_alloc rfl rfl rfl z68) rfl) rfl rfl ?_)
      refine t1 10 rfl (tn (objs' := obs3 ++ [ob4, ob4, ob6, ob18]) rfl rfl rfl rfl (fun _ => EOp.eq (e_store_box rfl rfl rfl rfl rfl ty68 rfl rfl rfl rfl) rfl) rfl rfl ?_)
      exact tl rfl (sub_gen [0, 1, 2, 3, 7, 4, 6, 5] rfl rfl (zall rfl rfl) ⟨bx rfl rfl rfl, oa rfl, bx rfl rfl rfl, bx rfl rfl rfl, bx rfl rfl rfl, oa rfl, oa rfl, oa rfl, trivial⟩)
     ·refine td (objs' := obs3 ++ [ob4, ob4, ob6, ob10]) (v := .c (.ptr 7 0)) 8 rfl rfl rfl rfl rfl (fun _ => EOp.eq (e_alloc rfl rfl rfl z68) rfl) rfl rfl ?_
      refine t1 8 rfl (td (objs' := obs3 ++ [ob4, ob4, ob6, ob10]) (v := av17) 28 rfl rfl rfl rfl rfl (fun _ => EOp.eq (EOp.qd rfl rfl (q_build2 rfl rfl pl68 rfl)) rfl) rfl rfl ?_)
      refine t1 10 rfl (tn (objs' := obs3 ++ [ob4, ob4, ob6, ob18]) rfl rfl rfl rfl (fun _ => EOp.eq (e_store_box rfl rfl rfl rfl rfl ty68 rfl rfl rfl rfl) rfl) rfl rfl ?_)
      exact tl rfl (sub_gen [0, 1, 2, 3, 7, 4, 6, 5] rfl rfl (zall rfl rfl) ⟨bx rfl rfl rfl, oa rfl, bx rfl rfl rfl, bx rfl rfl rfl, bx rfl rfl rfl, oa rfl, oa rfl, oa rfl, trivial⟩)
    ·refine td (objs' := obs3 ++ [ob4, ob4, ob10]) (v := .c (.ptr 6 0)) 8 rfl rfl rfl rfl rfl (fun _ => EOp.eq (e_alloc rfl rfl rfl z68) rfl) rfl rfl ?_
     refine t1 5 rfl (td (objs' := obs3 ++ [ob4, ob4, ob10, ob6]) (v := av19) 25 rfl rfl rfl rfl rfl (fun _ => EOp.eq (e_makeL (c := cBool) (d0 := false) rfl rfl rfl rfl rfl sl53 z4 rfl rfl rfl g5.1 (Int.le_refl _) g5.2.1 g5.2.2) rfl) rfl rfl ?_)
     refine t1 8 rfl (td (objs' := obs3 ++ [ob4, ob4, ob10, ob6]) (v := av20) 28 rfl rfl rfl rfl rfl (fun _ => EOp.eq (EOp.qd rfl rfl (q_build2 rfl rfl pl68 rfl)) rfl) rfl rfl ?_)
     refine t1 10 rfl (tn (objs' := obs3 ++ [ob4, ob4, ob21, ob6]) rfl rfl rfl rfl (fun _ => EOp.eq (e_store_box rfl rfl rfl rfl rfl ty68 rfl rfl rfl rfl) rfl) rfl rfl ?_)
     exact tl rfl (sub_gen [0, 1, 2, 3, 6, 4, 7, 5] rfl rfl (zall rfl rfl) ⟨bx rfl rfl rfl, oa rfl, bx rfl rfl rfl, bx rfl rfl rfl, bx rfl rfl rfl, oa rfl, oa rfl, oa rfl, trivial⟩)
   ·refine td (objs' := obs3 ++ [ob4, ob10]) (v := .c (.ptr 5 0)) 8 rfl rfl rfl rfl rfl (fun _ => EOp.eq (e_alloc rfl rfl rfl z68) rfl) rfl rfl ?_
    refine TTree.node 5 [7] rfl (AllP.cons ?_ (AllP.cons ?_ AllP.nil))
    ·refine td (objs' := obs3 ++ [ob4, ob10, ob6]) (v := av16) 25 rfl rfl rfl rfl rfl (fun _ => EOp.eq (e_makeL (c := cBool) (d0 := false) rfl rfl rfl rfl rfl sl53 z4 rfl rfl rfl g5.1 (Int.le_refl _) g5.2.1 g5.2.2) rfl) rfl rfl ?_
     refine t1 7 rfl (td (objs' := obs3 ++ [ob4, ob10, ob6, ob4]) (v := av12) 27 rfl rfl rfl rfl rfl (fun _ => EOp.eq (e_makeL (c := (cInt .i64)) (d0 := 0) rfl rfl rfl rfl rfl sl22 z3 rfl rfl rfl g6.1 (Int.le_refl _) g6.2.1 g6.2.2) rfl) rfl rfl ?_)
     refine t1 8 rfl (td (objs' := obs3 ++ [ob4, ob10, ob6, ob4]) (v := av22) 28 rfl rfl rfl rfl rfl (fun _ => EOp.eq (EOp.qd rfl rfl (q_build2 rfl rfl pl68 rfl)) rfl) rfl rfl ?_)
     refine t1 10 rfl (tn (objs' := obs3 ++ [ob4, ob23, ob6, ob4]) rfl rfl rfl rfl (fun _ => EOp.eq (e_store_box rfl rfl rfl rfl rfl ty68 rfl rfl rfl rfl) rfl) rfl rfl ?_)
     exact tl rfl (sub_gen [0, 1, 2, 3, 5, 4, 6, 7] rfl rfl (zall rfl rfl) ⟨bx rfl rfl rfl, oa rfl, bx rfl rfl rfl, bx rfl rfl rfl, bx rfl rfl rfl, oa rfl, oa rfl, oa rfl, trivial⟩)
    ·refine td (objs' := obs3 ++ [ob4, ob10, ob4]) (v := av8) 27 rfl rfl rfl rfl rfl (fun _ => EOp.eq (e_makeL (c := (cInt .i64)) (d0 := 0) rfl rfl rfl rfl rfl sl22 z3 rfl rfl rfl g6.1 (Int.le_refl _) g6.2.1 g6.2.2) rfl) rfl rfl ?_
     refine t1 5 rfl (td (objs' := obs3 ++ [ob4, ob10, ob4, ob6]) (v := av19) 25 rfl rfl rfl rfl rfl (fun _ => EOp.eq (e_makeL (c := cBool) (d0 := false) rfl rfl rfl rfl rfl sl53 z4 rfl rfl rfl g5.1 (Int.le_refl _) g5.2.1 g5.2.2) rfl) rfl rfl ?_)
     refine t1 8 rfl (td (objs' := obs3 ++ [ob4, ob10, ob4, ob6]) (v := av24) 28 rfl rfl rfl rfl rfl (fun _ => EOp.eq (EOp.qd rfl rfl (q_build2 rfl rfl pl68 rfl)) rfl) rfl rfl ?_)
     refine t1 10 rfl (tn (objs' := obs3 ++ [ob4, ob25, ob4, ob6]) rfl rfl rfl rfl (fun _ => EOp.eq (e_store_box rfl rfl rfl rfl rfl ty68 rfl rfl rfl rfl) rfl) rfl rfl ?_)
     exact tl rfl (sub_gen [0, 1, 2, 3, 5, 4, 7, 6] rfl rfl (zall rfl rfl) ⟨bx rfl rfl rfl, oa rfl, bx rfl rfl rfl, bx rfl rfl rfl, bx rfl rfl rfl, oa rfl, oa rfl, oa rfl, trivial⟩)
  ·refine td (objs' := obs3 ++ [ob6]) (v := av26) 25 rfl rfl rfl rfl rfl (fun _ => EOp.eq (e_makeL (c := cBool) (d0 := false) rfl rfl rfl rfl rfl sl53 z4 rfl rfl rfl g5.1 (Int.le_refl _) g5.2.1 g5.2.2) rfl) rfl rfl ?_
   refine TTree.node 3 [7, 9] rfl (AllP.cons ?_ (AllP.cons ?_ (AllP.cons ?_ AllP.nil)))
   ·refine td (objs' := obs3 ++ [ob6, ob4]) (v := av15) 23 rfl rfl rfl rfl rfl (fun _ => EOp.eq (e_makeL (c := (cInt .i64)) (d0 := 0) rfl rfl rfl rfl rfl sl22 z3 rfl rfl rfl g4.1 (Int.le_refl _) g4.2.1 g4.2.2) rfl) rfl rfl ?_
    refine TTree.node 7 [9] rfl (AllP.cons ?_ (AllP.cons ?_ AllP.nil))
    ·refine td (objs' := obs3 ++ [ob6, ob4, ob4]) (v := av8) 27 rfl rfl rfl rfl rfl (fun _ => EOp.eq (e_makeL (c := (cInt .i64)) (d0 := 0) rfl rfl rfl rfl rfl sl22 z3 rfl rfl rfl g6.1 (Int.le_refl _) g6.2.1 g6.2.2) rfl) rfl rfl ?_
     refine TTree.node 8 [9] rfl (AllP.cons ?_ (AllP.cons ?_ AllP.nil))
     ·refine td (objs' := obs3 ++ [ob6, ob4, ob4]) (v := av27) 28 rfl rfl rfl rfl rfl (fun _ => EOp.eq (EOp.qd rfl rfl (q_build2 rfl rfl pl68 rfl)) rfl) rfl rfl ?_
      refine t1 9 rfl (td (objs' := obs3 ++ [ob6, ob4, ob4, ob10]) (v := .c (.ptr 7 0)) 8 rfl rfl rfl rfl rfl (fun _ => EOp.eq (e_alloc rfl rfl rfl z68) rfl) rfl rfl ?_)
      refine t1 10 rfl (tn (objs' := obs3 ++ [ob6, ob4, ob4, ob28]) rfl rfl rfl rfl (fun _ => EOp.eq (e_store_box rfl rfl rfl rfl rfl ty68 rfl rfl rfl rfl) rfl) rfl rfl ?_)
      exact tl rfl (sub_gen [0, 1, 2, 3, 7, 5, 4, 6] rfl rfl (zall rfl rfl) ⟨bx rfl rfl rfl, oa rfl, bx rfl rfl rfl, bx rfl rfl rfl, bx rfl rfl rfl, oa rfl, oa rfl, oa rfl, trivial⟩)
     ·refine td (objs' := obs3 ++ [ob6, ob4, ob4, ob10]) (v := .c (.ptr 7 0)) 8 rfl rfl rfl rfl rfl (fun _ => EOp.eq (e_alloc rfl rfl rfl z68) rfl) rfl rfl ?_
      refine t1 8 rfl (td (objs' := obs3 ++ [ob6, ob4, ob4, ob10]) (v := av27) 28 rfl rfl rfl rfl rfl (fun _ => EOp.eq (EOp.qd rfl rfl (q_build2 rfl rfl pl68 rfl)) rfl) rfl rfl ?_)
      refine t1 10 rfl (tn (objs' := obs3 ++ [ob6, ob4, ob4, ob28]) rfl rfl rfl rfl (fun _ => EOp.eq (e_store_box rfl rfl rfl rfl rfl ty68 rfl rfl rfl rfl) rfl) rfl rfl ?_)
      exact tl rfl (sub_gen [0, 1, 2, 3, 7, 5, 4, 6] rfl rfl (zall rfl rfl) ⟨bx rfl rfl rfl, oa rfl, bx rfl rfl rfl, bx rfl rfl rfl, bx rfl rfl rfl, oa rfl, oa rfl, oa rfl, trivial⟩)
    ·refine td (objs' := obs3 ++ [ob6, ob4, ob10]) (v := .c (.ptr 6 0)) 8 rfl rfl rfl rfl rfl (fun _ => EOp.eq (e_alloc rfl rfl rfl z68) rfl) rfl rfl ?_
     refine t1 7 rfl (td (objs' := obs3 ++ [ob6, ob4, ob10, ob4]) (v := av12) 27 rfl rfl rfl rfl rfl (fun _ => EOp.eq (e_makeL (c := (cInt .i64)) (d0 := 0) rfl rfl rfl rfl rfl sl22 z3 rfl rfl rfl g6.1 (Int.le_refl _) g6.2.1 g6.2.2) rfl) rfl rfl ?_)
     refine t1 8 rfl (td (objs' := obs3 ++ [ob6, ob4, ob10, ob4]) (v := av29) 28 rfl rfl rfl rfl rfl (fun _ => EOp.eq (EOp.qd rfl rfl (q_build2 rfl rfl pl68 rfl)) rfl) rfl rfl ?_)
     refine t1 10 rfl (tn (objs' := obs3 ++ [ob6, ob4, ob30, ob4]) rfl rfl rfl rfl (fun _ => EOp.eq (e_store_box rfl rfl rfl rfl rfl ty68 rfl rfl rfl rfl) rfl) rfl rfl ?_)
     exact tl rfl (sub_gen [0, 1, 2, 3, 6, 5, 4, 7] rfl rfl (zall rfl rfl) ⟨bx rfl rfl rfl, oa rfl, bx rfl rfl rfl, bx rfl rfl rfl, bx rfl rfl rfl, oa rfl, oa rfl, oa rfl, trivial⟩)
   ·refine td (objs' := obs3 ++ [ob6, ob4]) (v := av15) 27 rfl rfl rfl rfl rfl (fun _ => EOp.eq (e_makeL (c := (cInt .i64)) (d0 := 0) rfl rfl rfl rfl rfl sl22 z3 rfl rfl rfl g6.1 (Int.le_refl _) g6.2.1 g6.2.2) rfl) rfl rfl ?_
    refine TTree.node 3 [9] rfl (AllP.cons ?_ (AllP.cons ?_ AllP.nil))
    ·refine td (objs' := obs3 ++ [ob6, ob4, ob4]) (v := av8) 23 rfl rfl rfl rfl rfl (fun _ => EOp.eq (e_makeL (c := (cInt .i64)) (d0 := 0) rfl rfl rfl rfl rfl sl22 z3 rfl rfl rfl g4.1 (Int.le_refl _) g4.2.1 g4.2.2) rfl) rfl rfl ?_
     refine TTree.node 8 [9] rfl (AllP.cons ?_ (AllP.cons ?_ AllP.nil))
     ·refine td (objs' := obs3 ++ [ob6, ob4, ob4]) (v := av31) 28 rfl rfl rfl rfl rfl (fun _ => EOp.eq (EOp.qd rfl rfl (q_build2 rfl rfl pl68 rfl)) rfl) rfl rfl ?_
      refine t1 9 rfl (td (objs' := obs3 ++ [ob6, ob4, ob4, ob10]) (v := .c (.ptr 7 0)) 8 rfl rfl rfl rfl rfl (fun _ => EOp.eq (e_alloc rfl rfl rfl z68) rfl) rfl rfl ?_)
      refine t1 10 rfl (tn (objs' := obs3 ++ [ob6, ob4, ob4, ob32]) rfl rfl rfl rfl (fun _ => EOp.eq (e_store_box rfl rfl rfl rfl rfl ty68 rfl rfl rfl rfl) rfl) rfl rfl ?_)
      exact tl rfl (sub_gen [0, 1, 2, 3, 7, 6, 4, 5] rfl rfl (zall rfl rfl) ⟨bx rfl rfl rfl, oa rfl, bx rfl rfl rfl, bx rfl rfl rfl, bx rfl rfl rfl, oa rfl, oa rfl, oa rfl, trivial⟩)
     ·refine td (objs' := obs3 ++ [ob6, ob4, ob4, ob10]) (v := .c (.ptr 7 0)) 8 rfl rfl rfl rfl rfl (fun _ => EOp.eq (e_alloc rfl rfl rfl z68) rfl) rfl rfl ?_
      refine t1 8 rfl (td (objs' := obs3 ++ [ob6, ob4, ob4, ob10]) (v := av31) 28 rfl rfl rfl rfl rfl (fun _ => EOp.eq (EOp.qd rfl rfl (q_build2 rfl rfl pl68 rfl)) rfl) rfl rfl ?_)
      refine t1 10 rfl (tn (objs' := obs3 ++ [ob6, ob4, ob4, ob32]) rfl rfl rfl rfl (fun _ => EOp.eq (e_store_box rfl rfl rfl rfl rfl ty68 rfl rfl rfl rfl) rfl) rfl rfl ?_)
      exact tl rfl (sub_gen [0, 1, 2, 3, 7, 6, 4, 5] rfl rfl (zall rfl rfl) ⟨bx rfl rfl rfl, oa rfl, bx rfl rfl rfl, bx rfl rfl rfl, bx rfl rfl rfl, oa rfl, oa rfl, oa rfl, trivial⟩)
    ·refine td (objs' := obs3 ++ [ob6, ob4, ob10]) (v := .c (.ptr 6 0)) 8 rfl rfl rfl rfl rfl (fun _ => EOp.eq (e_alloc rfl rfl rfl z68) rfl) rfl rfl ?_
     refine t1 3 rfl (td (objs' := obs3 ++ [ob6, ob4, ob10, ob4]) (v := av12) 23 rfl rfl rfl rfl rfl (fun _ => EOp.eq (e_makeL (c := (cInt .i64)) (d0 := 0) rfl rfl rfl rfl rfl sl22 z3 rfl rfl rfl g4.1 (Int.le_refl _) g4.2.1 g4.2.2) rfl) rfl rfl ?_)
     refine t1 8 rfl (td (objs' := obs3 ++ [ob6, ob4, ob10, ob4]) (v := av33) 28 rfl rfl rfl rfl rfl (fun _ => EOp.eq (EOp.qd rfl rfl (q_build2 rfl rfl pl68 rfl)) rfl) rfl rfl ?_)
     refine t1 10 rfl (tn (objs' := obs3 ++ [ob6, ob4, ob34, ob4]) rfl rfl rfl rfl (fun _ => EOp.eq (e_store_box rfl rfl rfl rfl rfl ty68 rfl rfl rfl rfl) rfl) rfl rfl ?_)
     exact tl rfl (sub_gen [0, 1, 2, 3, 6, 7, 4, 5] rfl rfl (zall rfl rfl) ⟨bx rfl rfl rfl, oa rfl, bx rfl rfl rfl, bx rfl rfl rfl, bx rfl rfl rfl, oa rfl, oa rfl, oa rfl, trivial⟩)
   ·refine td (objs' := obs3 ++ [ob6, ob10]) (v := .c (.ptr 5 0)) 8 rfl rfl rfl rfl rfl (fun _ => EOp.eq (e_alloc rfl rfl rfl z68) rfl) rfl rfl ?_
    refine TTree.node 3 [7] rfl (AllP.cons ?_ (AllP.cons ?_ AllP.nil))
    ·refine td (objs' := obs3 ++ [ob6, ob10, ob4]) (v := av8) 23 rfl rfl rfl rfl rfl (fun _ => EOp.eq (e_makeL (c := (cInt .i64)) (d0 := 0) rfl rfl rfl rfl rfl sl22 z3 rfl rfl rfl g4.1 (Int.le_refl _) g4.2.1 g4.2.2) rfl) rfl rfl ?_
     refine t1 7 rfl (td (objs' := obs3 ++ [ob6, ob10, ob4, ob4]) (v := av12) 27 rfl rfl rfl rfl rfl (fun _ => EOp.eq (e_makeL (c := (cInt .i64)) (d0 := 0) rfl rfl rfl rfl rfl sl22 z3 rfl rfl rfl g6.1 (Int.le_refl _) g6.2.1 g6.2.2) rfl) rfl rfl ?_)
     refine t1 8 rfl (td (objs' := obs3 ++ [ob6, ob10, ob4, ob4]) (v := av35) 28 rfl rfl rfl rfl rfl (fun _ => EOp.eq (EOp.qd rfl rfl (q_build2 rfl rfl pl68 rfl)) rfl) rfl rfl ?_)
     refine t1 10 rfl (tn (objs' := obs3 ++ [ob6, ob36, ob4, ob4]) rfl rfl rfl rfl (fun _ => EOp.eq (e_store_box rfl rfl rfl rfl rfl ty68 rfl rfl rfl rfl) rfl) rfl rfl ?_)
     exact tl rfl (sub_gen [0, 1, 2, 3, 5, 6, 4, 7] rfl rfl (zall rfl rfl) ⟨bx rfl rfl rfl, oa rfl, bx rfl rfl rfl, bx rfl rfl rfl, bx rfl rfl rfl, oa rfl, oa rfl, oa rfl, trivial⟩)
    ·refine td (objs' := obs3 ++ [ob6, ob10, ob4]) (v := av8) 27 rfl rfl rfl rfl rfl (fun _ => EOp.eq (e_makeL (c := (cInt .i64)) (d0 := 0) rfl rfl rfl rfl rfl sl22 z3 rfl rfl rfl g6.1 (Int.le_refl _) g6.2.1 g6.2.2) rfl) rfl rfl ?_
     refine t1 3 rfl (td (objs' := obs3 ++ [ob6, ob10, ob4, ob4]) (v := av12) 23 rfl rfl rfl rfl rfl (fun _ => EOp.eq (e_makeL (c := (cInt .i64)) (d0 := 0) rfl rfl rfl rfl rfl sl22 z3 rfl rfl rfl g4.1 (Int.le_refl _) g4.2.1 g4.2.2) rfl) rfl rfl ?_)
     refine t1 8 rfl (td (objs' := obs3 ++ [ob6, ob10, ob4, ob4]) (v := av37) 28 rfl rfl rfl rfl rfl (fun _ => EOp.eq (EOp.qd rfl rfl (q_build2 rfl rfl pl68 rfl)) rfl) rfl rfl ?_)
     refine t1 10 rfl (tn (objs' := obs3 ++ [ob6, ob38, ob4, ob4]) rfl rfl rfl rfl (fun _ => EOp.eq (e_store_box rfl rfl rfl rfl rfl ty68 rfl rfl rfl rfl) rfl) rfl rfl ?_)
     exact tl rfl (sub_gen [0, 1, 2, 3, 5, 7, 4, 6] rfl rfl (zall rfl rfl) ⟨bx rfl rfl rfl, oa rfl, bx rfl rfl rfl, bx rfl rfl rfl, bx rfl rfl rfl, oa rfl, oa rfl, oa rfl, trivial⟩)
  ·refine td (objs' := obs3 ++ [ob4]) (v := av5) 27 rfl rfl rfl rfl rfl (fun _ => EOp.eq (e_makeL (c := (cInt .i64)) (d0 := 0) rfl rfl rfl rfl rfl sl22 z3 rfl rfl rfl g6.1 (Int.le_refl _) g6.2.1 g6.2.2) rfl) rfl rfl ?_
   refine TTree.node 3 [5, 9] rfl (AllP.cons ?_ (AllP.cons ?_ (AllP.cons ?_ AllP.nil)))
   ·refine td (objs' := obs3 ++ [ob4, ob4]) (v := av15) 23 rfl rfl rfl rfl rfl (fun _ => EOp.eq (e_makeL (c := (cInt .i64)) (d0 := 0) rfl rfl rfl rfl rfl sl22 z3 rfl rfl rfl g4.1 (Int.le_refl _) g4.2.1 g4.2.2) rfl) rfl rfl ?_
    refine TTree.node 5 [9] rfl (AllP.cons ?_ (AllP.cons ?_ AllP.nil))
    ·refine td (objs' := obs3 ++ [ob4, ob4, ob6]) (v := av16) 25 rfl rfl rfl rfl rfl (fun _ => EOp.eq (e_makeL (c := cBool) (d0 := false) rfl rfl rfl rfl rfl sl53 z4 rfl rfl rfl g5.1 (Int.le_refl _) g5.2.1 g5.2.2) rfl) rfl rfl ?_
     refine TTree.node 8 [9] rfl (AllP.cons ?_ (AllP.cons ?_ AllP.nil))
     ·refine td (objs' := obs3 ++ [ob4, ob4, ob6]) (v := av39) 28 rfl rfl rfl rfl rfl (fun _ => EOp.eq (EOp.qd rfl rfl (q_build2 rfl rfl pl68 rfl)) rfl) rfl rfl ?_
      refine t1 9 rfl (td (objs' := obs3 ++ [ob4, ob4, ob6, ob10]) (v := .c (.ptr 7 0)) 8 rfl rfl rfl rfl rfl (fun _ => EOp.eq (e_alloc rfl rfl rfl z68) rfl) rfl rfl ?_)
      refine t1 10 rfl (tn (objs' := obs3 ++ [ob4, ob4, ob6, ob40]) rfl rfl rfl rfl (fun _ => EOp.eq (e_store_box rfl rfl rfl rfl rfl ty68 rfl rfl rfl rfl) rfl) rfl rfl ?_)
      exact tl rfl (sub_gen [0, 1, 2, 3, 7, 5, 6, 4] rfl rfl (zall rfl rfl) ⟨bx rfl rfl rfl, oa rfl, bx rfl rfl rfl, bx rfl rfl rfl, bx rfl rfl rfl, oa rfl, oa rfl, oa rfl, trivial⟩)
     ·refine td (objs' := obs3 ++ [ob4, ob4, ob6, ob10]) (v := .c (.ptr 7 0)) 8 rfl rfl rfl rfl rfl (fun _ => EOp.eq (e_alloc rfl rfl rfl z68) rfl) rfl rfl ?_
      refine t1 8 rfl (td (objs' := obs3 ++ [ob4, ob4, ob6, ob10]) (v := av39) 28 rfl rfl rfl rfl rfl (fun _ => EOp.eq (EOp.qd rfl rfl (q_build2 rfl rfl pl68 rfl)) rfl) rfl rfl ?_)
      refine t1 10 rfl (tn (objs' := obs3 ++ [ob4, ob4, ob6, ob40]) rfl rfl rfl rfl (fun _ => EOp.eq (e_store_box rfl rfl rfl rfl rfl ty68 rfl rfl rfl rfl) rfl) rfl rfl ?_)
      exact tl rfl (sub_gen [0, 1, 2, 3, 7, 5, 6, 4] rfl rfl (zall rfl rfl) ⟨bx rfl rfl rfl, oa rfl, bx rfl rfl rfl, bx rfl rfl rfl, bx rfl rfl rfl, oa rfl, oa rfl, oa rfl, trivial⟩)
    ·refine td (objs' := obs3 ++ [ob4, ob4, ob10]) (v := .c (.ptr 6 0)) 8 rfl rfl rfl rfl rfl (fun _ => EOp.eq (e_alloc rfl rfl rfl z68) rfl) rfl rfl ?_
     refine t1 5 rfl (td (objs' := obs3 ++ [ob4, ob4, ob10, ob6]) (v := av19) 25 rfl rfl rfl rfl rfl (fun _ => EOp.eq (e_makeL (c := cBool) (d0 := false) rfl rfl rfl rfl rfl sl53 z4 rfl rfl rfl g5.1 (Int.le_refl _) g5.2.1 g5.2.2) rfl) rfl rfl ?_)
     refine t1 8 rfl (td (objs' := obs3 ++ [ob4, ob4, ob10, ob6]) (v := av41) 28 rfl rfl rfl rfl rfl (fun _ => EOp.eq (EOp.qd rfl rfl (q_build2 rfl rfl pl68 rfl)) rfl) rfl rfl ?_)
     refine t1 10 rfl (tn (objs' := obs3 ++ [ob4, ob4, ob42, ob6]) rfl rfl rfl rfl (fun _ => EOp.eq (e_store_box rfl rfl rfl rfl rfl ty68 rfl rfl rfl rfl) rfl) rfl rfl ?_)
     exact tl rfl (sub_gen [0, 1, 2, 3, 6, 5, 7, 4] rfl rfl (zall rfl rfl) ⟨bx rfl rfl rfl, oa rfl, bx rfl rfl rfl, bx rfl rfl rfl, bx rfl rfl rfl, oa rfl, oa rfl, oa rfl, trivial⟩)
   ·refine td (objs' := obs3 ++ [ob4, ob6]) (v := av7) 25 rfl rfl rfl rfl rfl (fun _ => EOp.eq (e_makeL (c := cBool) (d0 := false) rfl rfl rfl rfl rfl sl53 z4 rfl rfl rfl g5.1 (Int.le_refl _) g5.2.1 g5.2.2) rfl) rfl rfl ?_
    refine TTree.node 3 [9] rfl (AllP.cons ?_ (AllP.cons ?_ AllP.nil))
    ·refine td (objs' := obs3 ++ [ob4, ob6, ob4]) (v := av8) 23 rfl rfl rfl rfl rfl (fun _ => EOp.eq (e_makeL (c := (cInt .i64)) (d0 := 0) rfl rfl rfl rfl rfl sl22 z3 rfl rfl rfl g4.1 (Int.le_refl _) g4.2.1 g4.2.2) rfl) rfl rfl ?_
     refine TTree.node 8 [9] rfl (AllP.cons ?_ (AllP.cons ?_ AllP.nil))
     ·refine td (objs' := obs3 ++ [ob4, ob6, ob4]) (v := av43) 28 rfl rfl rfl rfl rfl (fun _ => EOp.eq (EOp.qd rfl rfl (q_build2 rfl rfl pl68 rfl)) rfl) rfl rfl ?_
      refine t1 9 rfl (td (objs' := obs3 ++ [ob4, ob6, ob4, ob10]) (v := .c (.ptr 7 0)) 8 rfl rfl rfl rfl rfl (fun _ => EOp.eq (e_alloc rfl rfl rfl z68) rfl) rfl rfl ?_)
      refine t1 10 rfl (tn (objs' := obs3 ++ [ob4, ob6, ob4, ob44]) rfl rfl rfl rfl (fun _ => EOp.eq (e_store_box rfl rfl rfl rfl rfl ty68 rfl rfl rfl rfl) rfl) rfl rfl ?_)
      exact tl rfl (sub_gen [0, 1, 2, 3, 7, 6, 5, 4] rfl rfl (zall rfl rfl) ⟨bx rfl rfl rfl, oa rfl, bx rfl rfl rfl, bx rfl rfl rfl, bx rfl rfl rfl, oa rfl, oa rfl, oa rfl, trivial⟩)
     ·refine td (objs' := obs3 ++ [ob4, ob6, ob4, ob10]) (v := .c (.ptr 7 0)) 8 rfl rfl rfl rfl rfl (fun _ => EOp.eq (e_alloc rfl rfl rfl z68) rfl) rfl rfl ?_
      refine t1 8 rfl (td (objs' := obs3 ++ [ob4, ob6, ob4, ob10]) (v := av43) 28 rfl rfl rfl rfl rfl (fun _ => EOp.eq (EOp.qd rfl rfl (q_build2 rfl rfl pl68 rfl)) rfl) rfl rfl ?_)
      refine t1 10 rfl (tn (objs' := obs3 ++ [ob4, ob6, ob4, ob44]) rfl rfl rfl rfl (fun _ => EOp.eq (e_store_box rfl rfl rfl rfl rfl ty68 rfl rfl rfl rfl) rfl) rfl rfl ?_)
      exact tl rfl (sub_gen [0, 1, 2, 3, 7, 6, 5, 4] rfl rfl (zall rfl rfl) ⟨bx rfl rfl rfl, oa rfl, bx rfl rfl rfl, bx rfl rfl rfl, bx rfl rfl rfl, oa rfl, oa rfl, oa rfl, trivial⟩)
    ·refine td (objs' := obs3 ++ [ob4, ob6, ob10]) (v := .c (.ptr 6 0)) 8 rfl rfl rfl rfl rfl (fun _ => EOp.eq (e_alloc rfl rfl rfl z68) rfl) rfl rfl ?_
     refine t1 3 rfl (td (objs' := obs3 ++ [ob4, ob6, ob10, ob4]) (v := av12) 23 rfl rfl rfl rfl rfl (fun _ => EOp.eq (e_makeL (c := (cInt .i64)) (d0 := 0) rfl rfl rfl rfl rfl sl22 z3 rfl rfl rfl g4.1 (Int.le_refl _) g4.2.1 g4.2.2) rfl) rfl rfl ?_)
     refine t1 8 rfl (td (objs' := obs3 ++ [ob4, ob6, ob10, ob4]) (v := av45) 28 rfl rfl rfl rfl rfl (fun _ => EOp.eq (EOp.qd rfl rfl (q_build2 rfl rfl pl68 rfl)) rfl) rfl rfl ?_)
     refine t1 10 rfl (tn (objs' := obs3 ++ [ob4, ob6, ob46, ob4]) rfl rfl rfl rfl (fun _ => EOp.eq (e_store_box rfl rfl rfl rfl rfl ty68 rfl rfl rfl rfl) rfl) rfl rfl ?_)
     exact tl rfl (sub_gen [0, 1, 2, 3, 6, 7, 5, 4] rfl rfl (zall rfl rfl) ⟨bx rfl rfl rfl, oa rfl, bx rfl rfl rfl, bx rfl rfl rfl, bx rfl rfl rfl, oa rfl, oa rfl, oa rfl, trivial⟩)
   ·refine td (objs' := obs3 ++ [ob4, ob10]) (v := .c (.ptr 5 0)) 8 rfl rfl rfl rfl rfl (fun _ => EOp.eq (e_alloc rfl rfl rfl z68) rfl) rfl rfl ?_
    refine TTree.node 3 [5] rfl (AllP.cons ?_ (AllP.cons ?_ AllP.nil))
    ·refine td (objs' := obs3 ++ [ob4, ob10, ob4]) (v := av8) 23 rfl rfl rfl rfl rfl (fun _ => EOp.eq (e_makeL (c := (cInt .i64)) (d0 := 0) rfl rfl rfl rfl rfl sl22 z3 rfl rfl rfl g4.1 (Int.le_refl _) g4.2.1 g4.2.2) rfl) rfl rfl ?_
     refine t1 5 rfl (td (objs' := obs3 ++ [ob4, ob10, ob4, ob6]) (v := av19) 25 rfl rfl rfl rfl rfl (fun _ => EOp.eq (e_makeL (c := cBool) (d0 := false) rfl rfl rfl rfl rfl sl53 z4 rfl rfl rfl g5.1 (Int.le_refl _) g5.2.1 g5.2.2) rfl) rfl rfl ?_)
     refine t1 8 rfl (td (objs' := obs3 ++ [ob4, ob10, ob4, ob6]) (v := av47) 28 rfl rfl rfl rfl rfl (fun _ => EOp.eq (EOp.qd rfl rfl (q_build2 rfl rfl pl68 rfl)) rfl) rfl rfl ?_)
     refine t1 10 rfl (tn (objs' := obs3 ++ [ob4, ob48, ob4, ob6]) rfl rfl rfl rfl (fun _ => EOp.eq (e_store_box rfl rfl rfl rfl rfl ty68 rfl rfl rfl rfl) rfl) rfl rfl ?_)
     exact tl rfl (sub_gen [0, 1, 2, 3, 5, 6, 7, 4] rfl rfl (zall rfl rfl) ⟨bx rfl rfl rfl, oa rfl, bx rfl rfl rfl, bx rfl rfl rfl, bx rfl rfl rfl, oa rfl, oa rfl, oa rfl, trivial⟩)
    ·refine td (objs' := obs3 ++ [ob4, ob10, ob6]) (v := av16) 25 rfl rfl rfl rfl rfl (fun _ => EOp.eq (e_makeL (c := cBool) (d0 := false) rfl rfl rfl rfl rfl sl53 z4 rfl rfl rfl g5.1 (Int.le_refl _) g5.2.1 g5.2.2) rfl) rfl rfl ?_
     refine t1 3 rfl (td (objs' := obs3 ++ [ob4, ob10, ob6, ob4]) (v := av12) 23 rfl rfl rfl rfl rfl (fun _ => EOp.eq (e_makeL (c := (cInt .i64)) (d0 := 0) rfl rfl rfl rfl rfl sl22 z3 rfl rfl rfl g4.1 (Int.le_refl _) g4.2.1 g4.2.2) rfl) rfl rfl ?_)
     refine t1 8 rfl (td (objs' := obs3 ++ [ob4, ob10, ob6, ob4]) (v := av49) 28 rfl rfl rfl rfl rfl (fun _ => EOp.eq (EOp.qd rfl rfl (q_build2 rfl rfl pl68 rfl)) rfl) rfl rfl ?_)
     refine t1 10 rfl (tn (objs' := obs3 ++ [ob4, ob50, ob6, ob4]) rfl rfl rfl rfl (fun _ => EOp.eq (e_store_box rfl rfl rfl rfl rfl ty68 rfl rfl rfl rfl) rfl) rfl rfl ?_)
     exact tl rfl (sub_gen [0, 1, 2, 3, 5, 7, 6, 4] rfl rfl (zall rfl rfl) ⟨bx rfl rfl rfl, oa rfl, bx rfl rfl rfl, bx rfl rfl rfl, bx rfl rfl rfl, oa rfl, oa rfl, oa rfl, trivial⟩)
  ·refine td (objs' := obs3 ++ [ob10]) (v := .c (.ptr 4 0)) 8 rfl rfl rfl rfl rfl (fun _ => EOp.eq (e_alloc rfl rfl rfl z68) rfl) rfl rfl ?_
   refine TTree.node 3 [5, 7] rfl (AllP.cons ?_ (AllP.cons ?_ (AllP.cons ?_ AllP.nil)))
   ·refine td (objs' := obs3 ++ [ob10, ob4]) (v := av15) 23 rfl rfl rfl rfl rfl (fun _ => EOp.eq (e_makeL (c := (cInt .i64)) (d0 := 0) rfl rfl rfl rfl rfl sl22 z3 rfl rfl rfl g4.1 (Int.le_refl _) g4.2.1 g4.2.2) rfl) rfl rfl ?_
    refine TTree.node 5 [7] rfl (AllP.cons ?_ (AllP.cons ?_ AllP.nil))
    ·refine td (objs' := obs3 ++ [ob10, ob4, ob6]) (v := av16) 25 rfl rfl rfl rfl rfl (fun _ => EOp.eq (e_makeL (c := cBool) (d0 := false) rfl rfl rfl rfl rfl sl53 z4 rfl rfl rfl g5.1 (Int.le_refl _) g5.2.1 g5.2.2) rfl) rfl rfl ?_
     refine t1 7 rfl (td (objs' := obs3 ++ [ob10, ob4, ob6, ob4]) (v := av12) 27 rfl rfl rfl rfl rfl (fun _ => EOp.eq (e_makeL (c := (cInt .i64)) (d0 := 0) rfl rfl rfl rfl rfl sl22 z3 rfl rfl rfl g6.1 (Int.le_refl _) g6.2.1 g6.2.2) rfl) rfl rfl ?_)
     refine t1 8 rfl (td (objs' := obs3 ++ [ob10, ob4, ob6, ob4]) (v := av51) 28 rfl rfl rfl rfl rfl (fun _ => EOp.eq (EOp.qd rfl rfl (q_build2 rfl rfl pl68 rfl)) rfl) rfl rfl ?_)
     refine t1 10 rfl (tn (objs' := obs3 ++ [ob52, ob4, ob6, ob4]) rfl rfl rfl rfl (fun _ => EOp.eq (e_store_box rfl rfl rfl rfl rfl ty68 rfl rfl rfl rfl) rfl) rfl rfl ?_)
     exact tl rfl (sub_gen [0, 1, 2, 3, 4, 5, 6, 7] rfl rfl (zall rfl rfl) ⟨bx rfl rfl rfl, oa rfl, bx rfl rfl rfl, bx rfl rfl rfl, bx rfl rfl rfl, oa rfl, oa rfl, oa rfl, trivial⟩)
    ·refine td (objs' := obs3 ++ [ob10, ob4, ob4]) (v := av8) 27 rfl rfl rfl rfl rfl (fun _ => EOp.eq (e_makeL (c := (cInt .i64)) (d0 := 0) rfl rfl rfl rfl rfl sl22 z3 rfl rfl rfl g6.1 (Int.le_refl _) g6.2.1 g6.2.2) rfl) rfl rfl ?_
     refine t1 5 rfl (td (objs' := obs3 ++ [ob10, ob4, ob4, ob6]) (v := av19) 25 rfl rfl rfl rfl rfl (fun _ => EOp.eq (e_makeL (c := cBool) (d0 := false) rfl rfl rfl rfl rfl sl53 z4 rfl rfl rfl g5.1 (Int.le_refl _) g5.2.1 g5.2.2) rfl) rfl rfl ?_)
     refine t1 8 rfl (td (objs' := obs3 ++ [ob10, ob4, ob4, ob6]) (v := av53) 28 rfl rfl rfl rfl rfl (fun _ => EOp.eq (EOp.qd rfl rfl (q_build2 rfl rfl pl68 rfl)) rfl) rfl rfl ?_)
     refine t1 10 rfl (tn (objs' := obs3 ++ [ob54, ob4, ob4, ob6]) rfl rfl rfl rfl (fun _ => EOp.eq (e_store_box rfl rfl rfl rfl rfl ty68 rfl rfl rfl rfl) rfl) rfl rfl ?_)
     exact tl rfl (sub_gen [0, 1, 2, 3, 4, 5, 7, 6] rfl rfl (zall rfl rfl) ⟨bx rfl rfl rfl, oa rfl, bx rfl rfl rfl, bx rfl rfl rfl, bx rfl rfl rfl, oa rfl, oa rfl, oa rfl, trivial⟩)
   ·refine td (objs' := obs3 ++ [ob10, ob6]) (v := av7) 25 rfl rfl rfl rfl rfl (fun _ => EOp.eq (e_makeL (c := cBool) (d0 := false) rfl rfl rfl rfl rfl sl53 z4 rfl rfl rfl g5.1 (Int.le_refl _) g5.2.1 g5.2.2) rfl) rfl rfl ?_
    refine TTree.node 3 [7] rfl (AllP.cons ?_ (AllP.cons ?_ AllP.nil))
    ·refine td (objs' := obs3 ++ [ob10, ob6, ob4]) (v := av8) 23 rfl rfl rfl rfl rfl (fun _ => EOp.eq (e_makeL (c := (cInt .i64)) (d0 := 0) rfl rfl rfl rfl rfl sl22 z3 rfl rfl rfl g4.1 (Int.le_refl _) g4.2.1 g4.2.2) rfl) rfl rfl ?_
     refine t1 7 rfl (td (objs' := obs3 ++ [ob10, ob6, ob4, ob4]) (v := av12) 27 rfl rfl rfl rfl rfl (fun _ => EOp.eq (e_makeL (c := (cInt .i64)) (d0 := 0) rfl rfl rfl rfl rfl sl22 z3 rfl rfl rfl g6.1 (Int.le_refl _) g6.2.1 g6.2.2) rfl) rfl rfl ?_)
     refine t1 8 rfl (td (objs' := obs3 ++ [ob10, ob6, ob4, ob4]) (v := av55) 28 rfl rfl rfl rfl rfl (fun _ => EOp.eq (EOp.qd rfl rfl (q_build2 rfl rfl pl68 rfl)) rfl) rfl rfl ?_)
     refine t1 10 rfl (tn (objs' := obs3 ++ [ob56, ob6, ob4, ob4]) rfl rfl rfl rfl (fun _ => EOp.eq (e_store_box rfl rfl rfl rfl rfl ty68 rfl rfl rfl rfl) rfl) rfl rfl ?_)
     exact tl rfl (sub_gen [0, 1, 2, 3, 4, 6, 5, 7] rfl rfl (zall rfl rfl) ⟨bx rfl rfl rfl, oa rfl, bx rfl rfl rfl, bx rfl rfl rfl, bx rfl rfl rfl, oa rfl, oa rfl, oa rfl, trivial⟩)
    ·refine td (objs' := obs3 ++ [ob10, ob6, ob4]) (v := av8) 27 rfl rfl rfl rfl rfl (fun _ => EOp.eq (e_makeL (c := (cInt .i64)) (d0 := 0) rfl rfl rfl rfl rfl sl22 z3 rfl rfl rfl g6.1 (Int.le_refl _) g6.2.1 g6.2.2) rfl) rfl rfl ?_
     refine t1 3 rfl (td (objs' := obs3 ++ [ob10, ob6, ob4, ob4]) (v := av12) 23 rfl rfl rfl rfl rfl (fun _ => EOp.eq (e_makeL (c := (cInt .i64)) (d0 := 0) rfl rfl rfl rfl rfl sl22 z3 rfl rfl rfl g4.1 (Int.le_refl _) g4.2.1 g4.2.2) rfl) rfl rfl ?_)
     refine t1 8 rfl (td (objs' := obs3 ++ [ob10, ob6, ob4, ob4]) (v := av57) 28 rfl rfl rfl rfl rfl (fun _ => EOp.eq (EOp.qd rfl rfl (q_build2 rfl rfl pl68 rfl)) rfl) rfl rfl ?_)
     refine t1 10 rfl (tn (objs' := obs3 ++ [ob58, ob6, ob4, ob4]) rfl rfl rfl rfl (fun _ => EOp.eq (e_store_box rfl rfl rfl rfl rfl ty68 rfl rfl rfl rfl) rfl) rfl rfl ?_)
     exact tl rfl (sub_gen [0, 1, 2, 3, 4, 7, 5, 6] rfl rfl (zall rfl rfl) ⟨bx rfl rfl rfl, oa rfl, bx rfl rfl rfl, bx rfl rfl rfl, bx rfl rfl rfl, oa rfl, oa rfl, oa rfl, trivial⟩)
   ·refine td (objs' := obs3 ++ [ob10, ob4]) (v := av15) 27 rfl rfl rfl rfl rfl (fun _ => EOp.eq (e_makeL (c := (cInt .i64)) (d0 := 0) rfl rfl rfl rfl rfl sl22 z3 rfl rfl rfl g6.1 (Int.le_refl _) g6.2.1 g6.2.2) rfl) rfl rfl ?_
    refine TTree.node 3 [5] rfl (AllP.cons ?_ (AllP.cons ?_ AllP.nil))
    ·refine td (objs' := obs3 ++ [ob10, ob4, ob4]) (v := av8) 23 rfl rfl rfl rfl rfl (fun _ => EOp.eq (e_makeL (c := (cInt .i64)) (d0 := 0) rfl rfl rfl rfl rfl sl22 z3 rfl rfl rfl g4.1 (Int.le_refl _) g4.2.1 g4.2.2) rfl) rfl rfl ?_
     refine t1 5 rfl (td (objs' := obs3 ++ [ob10, ob4, ob4, ob6]) (v := av19) 25 rfl rfl rfl rfl rfl (fun _ => EOp.eq (e_makeL (c := cBool) (d0 := false) rfl rfl rfl rfl rfl sl53 z4 rfl rfl rfl g5.1 (Int.le_refl _) g5.2.1 g5.2.2) rfl) rfl rfl ?_)
     refine t1 8 rfl (td (objs' := obs3 ++ [ob10, ob4, ob4, ob6]) (v := av59) 28 rfl rfl rfl rfl rfl (fun _ => EOp.eq (EOp.qd rfl rfl (q_build2 rfl rfl pl68 rfl)) rfl) rfl rfl ?_)
     refine t1 10 rfl (tn (objs' := obs3 ++ [ob60, ob4, ob4, ob6]) rfl rfl rfl rfl (fun _ => EOp.eq (e_store_box rfl rfl rfl rfl rfl ty68 rfl rfl rfl rfl) rfl) rfl rfl ?_)
     exact tl rfl (sub_gen [0, 1, 2, 3, 4, 6, 7, 5] rfl rfl (zall rfl rfl) ⟨bx rfl rfl rfl, oa rfl, bx rfl rfl rfl, bx rfl rfl rfl, bx rfl rfl rfl, oa rfl, oa rfl, oa rfl, trivial⟩)
    ·refine td (objs' := obs3 ++ [ob10, ob4, ob6]) (v := av16) 25 rfl rfl rfl rfl rfl (fun _ => EOp.eq (e_makeL (c := cBool) (d0 := false) rfl rfl rfl rfl rfl sl53 z4 rfl rfl rfl g5.1 (Int.le_refl _) g5.2.1 g5.2.2) rfl) rfl rfl ?_
     refine t1 3 rfl (td (objs' := obs3 ++ [ob10, ob4, ob6, ob4]) (v := av12) 23 rfl rfl rfl rfl rfl (fun _ => EOp.eq (e_makeL (c := (cInt .i64)) (d0 := 0) rfl rfl rfl rfl rfl sl22 z3 rfl rfl rfl g4.1 (Int.le_refl _) g4.2.1 g4.2.2) rfl) rfl rfl ?_)
     refine t1 8 rfl (td (objs' := obs3 ++ [ob10, ob4, ob6, ob4]) (v := av61) 28 rfl rfl rfl rfl rfl (fun _ => EOp.eq (EOp.qd rfl rfl (q_build2 rfl rfl pl68 rfl)) rfl) rfl rfl ?_)
     refine t1 10 rfl (tn (objs' := obs3 ++ [ob62, ob4, ob6, ob4]) rfl rfl rfl rfl (fun _ => EOp.eq (e_store_box rfl rfl rfl rfl rfl ty68 rfl rfl rfl rfl) rfl) rfl rfl ?_)
     exact tl rfl (sub_gen [0, 1, 2, 3, 4, 7, 6, 5] rfl rfl (zall rfl rfl) ⟨bx rfl rfl rfl, oa rfl, bx rfl rfl rfl, bx rfl rfl rfl, bx rfl rfl rfl, oa rfl, oa rfl, oa rfl, trivial⟩)
 refine SCode.seq (SCode.seq ?_)
 obtain ⟨c_7, g8, h⟩ := bind_out h
 try dsimp only at h
 refine SCode.region (sm rfl rfl (sq rfl rfl (q_field_ptr rfl rfl fd68_4) (sq rfl rfl (q_load_ptr rfl rfl rfl rfl ty22) (se rfl rfl (e_callP (plan_Fair_1_ok F (List.replicate (((a0_caps).length : Int)).toNat (0 : Int)) a1b_Nodes a1b_Arcs c_7 g8) [0, 1] [7] rfl rfl fn31 rfl rfl rfl rfl rfl rfl rfl rfl (nrs ⟨rfl, fun _ _ => nrSArc _ _, trivial⟩) ⟨.inr (.inl ⟨_, _, _, _, _, _, _, rfl, rfl, rfl, Nat.le_refl _, fun _ _ _ _ => rfl, (.head _)⟩), .inl ⟨rfl, rfl⟩, trivial⟩) (sq rfl rfl (q_not rfl rfl) (SOps.nil ?_))))))
 rcases cond_out h with ⟨g9, h⟩ | ⟨g9, h⟩
 ·refine SCode.cond_t rfl g9 (SCode.seq (SCode.region (sq rfl rfl (q_field_ptr rfl rfl fd68_2) (sq rfl rfl (q_load_ptr rfl rfl rfl rfl ty22) (se rfl rfl (e_store_box rfl rfl rfl rfl rfl ty22 rfl rfl rfl rfl) (se rfl rfl (e_store_box rfl rfl rfl rfl rfl ty28 rfl rfl rfl rfl) (SOps.nil (SCode.ret ?_))))))))
  obtain rfl := Option.some.inj h
  exact ⟨⟨[(4, .c (.ptr 2 0)), (5, .c (.ptr 3 0))], [.box [.int .i64 a1b_Nodes, .own 1 c_7.2.length], aSArc 63 c_7.2, .box [vI (List.replicate (((a0_caps).length : Int)).toNat (0 : Int))], .box [.int .i64 0]]⟩, _, sub_gen [0, 1, 2, 3] rfl rfl (zall rfl rfl) ⟨bx rfl rfl rfl, oa rfl, ⟨_, rfl, ⟨.inr (.inl ⟨_, _, _, _, _, _, _, rfl, rfl, rfl, Nat.le_refl _, fun _ _ _ _ => rfl, nm rfl⟩), trivial⟩⟩, bx rfl rfl rfl, trivial⟩, resA2 (v1 := .c (vI (List.replicate (((a0_caps).length : Int)).toNat (0 : Int)))) (v2 := .c (.int .i64 0)) rfl ⟨_, rfl, rfl, ty22⟩ ⟨_, rfl, rfl, ty28⟩, ⟨rfl, rfl⟩⟩
 refine SCode.cond_f rfl g9 (SCode.skip ?_)
 let S6 := fun (o6_10 : List Bool) => (⟨[(4, .c (.ptr 2 0)), (5, .c (.ptr 3 0)), (7, ci (((a0_caps).length : Int))), (8, .c (.ptr 4 0))], [.box [.int .i64 a1b_Nodes, .own 1 c_7.2.length], aSArc 63 c_7.2, .box [.raw (.slice none 0 0)], .box [.int .i64 0], .box [vI a0_caps, .fnp 31 0, .own 5 (List.replicate (((a0_caps).length : Int)).toNat (0 : Int)).length, .own 6 o6_10.length, .own 7 (List.replicate (((a0_caps).length : Int)).toNat (0 : Int)).length], aI 3 (List.replicate (((a0_caps).length : Int)).toNat (0 : Int)), aB 4 o6_10, aI 3 (List.replicate (((a0_caps).length : Int)).toNat (0 : Int))]⟩ : St)
 refine SCode.join (σ := (List Bool)) (S := fun s => (S6 s)) (g := fun s => fair_Fill_f1_31_p40 F a0_caps a1b_Nodes c_7 s = some r) ?_ ?_
 rotate_left
 ·refine SCode.seq (SCode.region (sq rfl rfl (q_field_ptr rfl rfl fd68_3) (sq rfl rfl (q_load_ptr rfl rfl rfl rfl ty53) (sq rfl rfl (q_len_own rfl rfl sl53) (sm rfl rfl (SOps.nil (SCode.block ?_)))))))
  let S5 := fun (t39_43 : Int) => fun (o6_44 : List Bool) => (⟨[(4, .c (.ptr 2 0)), (5, .c (.ptr 3 0)), (7, ci (((a0_caps).length : Int))), (8, .c (.ptr 4 0)), (38, ci (((List.replicate (((a0_caps).length : Int)).toNat (false : Bool)).length : Int))), (39, ci t39_43)], [.box [.int .i64 a1b_Nodes, .own 1 c_7.2.length], aSArc 63 c_7.2, .box [.raw (.slice none 0 0)], .box [.int .i64 0], .box [vI a0_caps, .fnp 31 0, .own 5 (List.replicate (((a0_caps).length : Int)).toNat (0 : Int)).length, .own 6 o6_44.length, .own 7 (List.replicate (((a0_caps).length : Int)).toNat (0 : Int)).length], aI 3 (List.replicate (((a0_caps).length : Int)).toNat (0 : Int)), aB 4 o6_44, aI 3 (List.replicate (((a0_caps).length : Int)).toNat (0 : Int))]⟩ : St)
  refine SCode.sub (st' := (S5 0 (List.replicate (((a0_caps).length : Int)).toNat (false : Bool)))) (sub_gen [0, 1, 2, 3, 4, 5, 6, 7] rfl rfl (zall rfl rfl) ⟨bx rfl rfl rfl, oa rfl, bx rfl rfl rfl, bx rfl rfl rfl, bx rfl rfl rfl, oa rfl, oa rfl, oa rfl, trivial⟩) ?_
  refine (SCode.loop (σ := Nat × (Int × (List Bool))) (S := fun s => (S5 s.2.1 s.2.2)) (g := fun s => fair_Fill_f1_31_l47 F a0_caps a1b_Nodes c_7 s.1 s.2.1 s.2.2 = some r) (μ := fun s => s.1) (F, (0, List.replicate (((a0_caps).length : Int)).toNat (false : Bool))) h ?_)
  rintro ⟨n_47, ⟨t39_43, o6_44⟩⟩ h
  try dsimp only at h
  show SCode _ _ _ (S5 t39_43 o6_44) _
  cases n_47 with
  | zero => cases h
  | succ n_47 =>
   rw [fair_Fill_f1_31_l47] at h
   unfold fair_Fill_f1_31_b47 at h
   refine SCode.seq (SCode.region (sq rfl rfl (q_lss rfl rfl rfl) (SOps.nil (SCode.seq ?_))))
   rcases cond_out h with ⟨g48, h⟩ | ⟨g48, h⟩
   ·refine SCode.cond_t rfl g48 (SCode.skip (SCode.seq (SCode.block (SCode.seq (SCode.region (sm rfl rfl (sa rfl rfl (SOps.nil ?_))))))))
    obtain ⟨g49, h⟩ := guard_out h
    refine SCode.region (sq rfl rfl (q_field_ptr rfl rfl fd68_3) (sq rfl rfl (q_load_ptr rfl rfl rfl rfl ty53) (sm rfl rfl (sq rfl rfl (q_index_own rfl rfl rfl sl53 g49.1 g49.2) (se rfl rfl (e_storeL true rfl rfl rfl rfl rfl (toNat_lt g49) ty4 rfl rfl rfl rfl rfl rfl) ?_)))))
    let y3 := List.replicate (((a0_caps).length : Int)).toNat (0 : Int)
    refine SOps.sub (st' := ⟨[(4, .c (.ptr 2 0)), (5, .c (.ptr 3 0)), (7, ci (((a0_caps).length : Int))), (8, .c (.ptr 4 0)), (38, ci (((List.replicate (((a0_caps).length : Int)).toNat (false : Bool)).length : Int))), (39, ci t39_43)], [.box [.int .i64 a1b_Nodes, .own 1 c_7.2.length], aSArc 63 c_7.2, .box [.raw (.slice none 0 0)], .box [.int .i64 0], .box [vI a0_caps, .fnp 31 0, .own 5 y3.length, .own 6 (o6_44.set t39_43.toNat true).length, .own 7 y3.length], aI 3 y3, aB 4 (o6_44.set t39_43.toNat true), aI 3 y3]⟩) (sub_gen [0, 1, 2, 3, 4, 5, 6, 7] rfl rfl (zall rfl rfl) ⟨bx rfl rfl rfl, oa rfl, bx rfl rfl rfl, bx rfl rfl rfl, ⟨_, rfl, ⟨ii rfl rfl, ii rfl rfl, ii rfl rfl, .inl ⟨rfl, congrArg (Cell.own 6) (List.length_set : (o6_44.set t39_43.toNat true).length = o6_44.length).symm⟩, ii rfl rfl, trivial⟩⟩, oa rfl, oa rfl, oa rfl, trivial⟩) (SOps.nil (SCode.region (sq rfl rfl (q_add rfl rfl rfl) (sm rfl rfl (SOps.nil ?_)))))
    exact ⟨(n_47, (IntKind.wrap .i64 (t39_43 + 1), o6_44.set t39_43.toNat true)), h, Nat.lt_succ_self n_47, sub_gen [0, 1, 2, 3, 4, 5, 6, 7] rfl rfl (zall rfl rfl) ⟨bx rfl rfl rfl, oa rfl, bx rfl rfl rfl, bx rfl rfl rfl, bx rfl rfl rfl, oa rfl, oa rfl, oa rfl, trivial⟩⟩
   refine SCode.cond_f rfl g48 (SCode.exit ?_)
   exact ⟨o6_44, h, sub_gen [0, 1, 2, 3, 4, 5, 6, 7] rfl rfl (zall rfl rfl) ⟨bx rfl rfl rfl, oa rfl, bx rfl rfl rfl, bx rfl rfl rfl, bx rfl rfl rfl, oa rfl, oa rfl, oa rfl, trivial⟩⟩
 rintro o6_10 h
 show SCode _ _ _ (S6 o6_10) _
 try dsimp only at h
 unfold fair_Fill_f1_31_p40 at h
 let S4 := fun (o1_11 : List SArc) => fun (o5_12 : List Int) => fun (o6_13 : List Bool) => fun (o7_14 : List Int) => (⟨[(4, .c (.ptr 2 0)), (5, .c (.ptr 3 0)), (8, .c (.ptr 4 0))], [.box [.int .i64 a1b_Nodes, .own 1 o1_11.length], aSArc 63 o1_11, .box [.raw (.slice none 0 0)], .box [.int .i64 0], .box [vI a0_caps, .fnp 31 0, .own 5 o5_12.length, .own 6 o6_13.length, .own 7 o7_14.length], aI 3 o5_12, aB 4 o6_13, aI 3 o7_14]⟩ : St)
 refine SCode.join (σ := (List SArc) × (List Int) × (List Bool) × (List Int)) (S := fun s => (S4 s.1 s.2.1 s.2.2.1 s.2.2.2)) (g := fun s => fair_Fill_f1_31_p15 s.1 s.2.1 s.2.2.1 s.2.2.2 = some r) ?_ ?_
 rotate_left
 ·refine SCode.seq (SCode.region (sm rfl rfl (sm rfl rfl (SOps.nil (SCode.block ?_)))))
  let S3 := fun (t48_22 : Int) => fun (o1_23 : List SArc) => fun (o5_24 : List Int) => fun (o6_25 : List Bool) => fun (o7_26 : List Int) => (⟨[(4, .c (.ptr 2 0)), (5, .c (.ptr 3 0)), (8, .c (.ptr 4 0)), (47, ci (((a0_caps).length : Int))), (48, ci t48_22)], [.box [.int .i64 a1b_Nodes, .own 1 o1_23.length], aSArc 63 o1_23, .box [.raw (.slice none 0 0)], .box [.int .i64 0], .box [vI a0_caps, .fnp 31 0, .own 5 o5_24.length, .own 6 o6_25.length, .own 7 o7_26.length], aI 3 o5_24, aB 4 o6_25, aI 3 o7_26]⟩ : St)
  refine SCode.sub (st' := (S3 0 c_7.2 (List.replicate (((a0_caps).length : Int)).toNat (0 : Int)) o6_10 (List.replicate (((a0_caps).length : Int)).toNat (0 : Int)))) (sub_gen [0, 1, 2, 3, 4, 5, 6, 7] rfl rfl (zall rfl rfl) ⟨bx rfl rfl rfl, oa rfl, bx rfl rfl rfl, bx rfl rfl rfl, bx rfl rfl rfl, oa rfl, oa rfl, oa rfl, trivial⟩) ?_
  refine (SCode.loop (σ := Nat × (Int × (List SArc) × (List Int) × (List Bool) × (List Int))) (S := fun s => (S3 s.2.1 s.2.2.1 s.2.2.2.1 s.2.2.2.2.1 s.2.2.2.2.2)) (g := fun s => fair_Fill_f1_31_l33 F a0_caps a1b_Nodes s.1 s.2.1 s.2.2.1 s.2.2.2.1 s.2.2.2.2.1 s.2.2.2.2.2 = some r) (μ := fun s => s.1) (F, (0, c_7.2, List.replicate (((a0_caps).length : Int)).toNat (0 : Int), o6_10, List.replicate (((a0_caps).length : Int)).toNat (0 : Int))) h ?_)
  rintro ⟨n_33, ⟨t48_22, o1_23, o5_24, o6_25, o7_26⟩⟩ h
  try dsimp only at h
  show SCode _ _ _ (S3 t48_22 o1_23 o5_24 o6_25 o7_26) _
  cases n_33 with
  | zero => cases h
  | succ n_33 =>
   rw [fair_Fill_f1_31_l33] at h
   unfold fair_Fill_f1_31_b33 at h
   refine SCode.seq (SCode.region (sq rfl rfl (q_lss rfl rfl rfl) (SOps.nil (SCode.seq ?_))))
   rcases cond_out h with ⟨g34, h⟩ | ⟨g34, h⟩
   ·refine SCode.cond_t rfl g34 (SCode.skip (SCode.seq (SCode.block (SCode.seq ?_))))
    obtain ⟨c_35, g36, h⟩ := bind_out h
    try dsimp only at h
    refine SCode.region (se rfl rfl (e_call (fair_division_together_f0_p31_ok F a0_caps a1b_Nodes o1_23 o5_24 o6_25 o7_26 c_35 g36) [4, 0, 1, 5, 6, 7] rfl fn43 rfl rfl rfl rfl rfl rfl rfl rfl) (SOps.nil (SCode.seq ?_)))
    obtain ⟨c_37, g38, h⟩ := bind_out h
    try dsimp only at h
    refine SCode.region (se rfl rfl (e_call (fair_division_single_f0_p31_ok F a0_caps a1b_Nodes c_35.1 c_35.2.1 o6_25 c_35.2.2 c_37 g38) [4, 0, 1, 5, 6, 7] rfl fn44 rfl rfl rfl rfl rfl rfl rfl rfl) (sq rfl rfl (q_not rfl rfl) (SOps.nil ?_)))
    rcases cond_out h with ⟨g39, h⟩ | ⟨g39, h⟩
    ·refine SCode.cond_t rfl g39 (SCode.exit ?_)
     exact ⟨(c_37.2.1, c_37.2.2.1, c_37.2.2.2.1, c_37.2.2.2.2), h, sub_gen [0, 1, 2, 3, 4, 5, 6, 7] rfl rfl (zall rfl rfl) ⟨bx rfl rfl rfl, oa rfl, bx rfl rfl rfl, bx rfl rfl rfl, bx rfl rfl rfl, oa rfl, oa rfl, oa rfl, trivial⟩⟩
    refine SCode.cond_f rfl g39 (SCode.skip (SCode.region (sq rfl rfl (q_add rfl rfl rfl) (sm rfl rfl (SOps.nil ?_)))))
    exact ⟨(n_33, (IntKind.wrap .i64 (t48_22 + 1), c_37.2.1, c_37.2.2.1, c_37.2.2.2.1, c_37.2.2.2.2)), h, Nat.lt_succ_self n_33, sub_gen [0, 1, 2, 3, 4, 5, 6, 7] rfl rfl (zall rfl rfl) ⟨bx rfl rfl rfl, oa rfl, bx rfl rfl rfl, bx rfl rfl rfl, bx rfl rfl rfl, oa rfl, oa rfl, oa rfl, trivial⟩⟩
   refine SCode.cond_f rfl g34 (SCode.exit ?_)
   exact ⟨(o1_23, o5_24, o6_25, o7_26), h, sub_gen [0, 1, 2, 3, 4, 5, 6, 7] rfl rfl (zall rfl rfl) ⟨bx rfl rfl rfl, oa rfl, bx rfl rfl rfl, bx rfl rfl rfl, bx rfl rfl rfl, oa rfl, oa rfl, oa rfl, trivial⟩⟩
 rintro ⟨o1_11, o5_12, o6_13, o7_14⟩ h
 show SCode _ _ _ (S4 o1_11 o5_12 o6_13 o7_14) _
 try dsimp only at h
 unfold fair_Fill_f1_31_p15 at h
 refine SCode.seq (SCode.region (sq rfl rfl (q_field_ptr rfl rfl fd68_2) (sq rfl rfl (q_load_ptr rfl rfl rfl rfl ty22) (se rfl rfl (e_store_box rfl rfl rfl rfl rfl ty22 rfl rfl rfl rfl) (se rfl rfl (e_store_box rfl rfl rfl rfl rfl ty28 rfl rfl rfl rfl) (SOps.nil (SCode.ret ?_)))))))
 obtain rfl := Option.some.inj h
 exact ⟨⟨[(4, .c (.ptr 2 0)), (5, .c (.ptr 3 0))], [.box [.int .i64 a1b_Nodes, .own 1 o1_11.length], aSArc 63 o1_11, .box [vI o5_12], .box [.int .i64 0]]⟩, _, sub_gen [0, 1, 2, 3] rfl rfl (zall rfl rfl) ⟨bx rfl rfl rfl, oa rfl, ⟨_, rfl, ⟨.inr (.inl ⟨_, _, _, _, _, _, _, rfl, rfl, rfl, Nat.le_refl _, fun _ _ _ _ => rfl, nm rfl⟩), trivial⟩⟩, bx rfl rfl rfl, trivial⟩, resA2 (v1 := .c (vI o5_12)) (v2 := .c (.int .i64 0)) rfl ⟨_, rfl, rfl, ty22⟩ ⟨_, rfl, rfl, ty28⟩, ⟨rfl, rfl⟩⟩
theorem plan_Fair_ok (F : Nat) (a0_p : SProblem) (r : (List Int) × Int) (h : plan_Fair F a0_p = some r) :
  SFun Try.prog 16 [] [.a (bSProblem a0_p)] (fun x _ => x = .t [.c (vI r.1), .c (.int .i64 r.2)]) := by
 refine SFun.of (n := 34) Try.func16 rfl rfl rfl ?_
 unfold plan_Fair at h
 show SCode _ _ _ ⟨[(0, .a (bSProblem a0_p))], []⟩ _
 refine SCode.seq (SCode.region (se rfl rfl (e_box rfl rfl rfl rfl rfl rfl) (sa rfl rfl (sa rfl rfl (SOps.nil (SCode.seq (SCode.seq ?_)))))))
 obtain ⟨c_1, g2, h⟩ := bind_out h
 try dsimp only at h
 refine SCode.region (sq rfl rfl (q_load_ptr_all rfl rfl rfl rfl rfl ty26) (sq rfl rfl (q_call (plan_Valid_ok F a0_p c_1 g2) [] rfl fn11 ⟨⟨rfl, rfl⟩, trivial⟩ (.inl rfl)) (sa rfl rfl (SOps.nil (SCode.seq (SCode.region (sm rfl rfl (sq rfl rfl (q_neq rfl rfl rfl) (SOps.nil ?_)))))))))
 rcases cond_out h with ⟨g3, h⟩ | ⟨g3, h⟩
 ·refine SCode.cond_t rfl g3 (SCode.seq (SCode.region (sm rfl rfl (sa rfl rfl (sa rfl rfl (SOps.nil (SCode.ret ?_)))))))
  obtain rfl := Option.some.inj h
  exact ⟨⟨[(2, .c (vI (([] : List Int)))), (3, ci c_1)], []⟩, _, sub_gen [] rfl rfl ⟨⟨_, rfl, .inr (.inr (.inr (.inl ⟨_, _, rfl, rfl⟩)))⟩, zc rfl rfl, trivial⟩ trivial, resA2 (v1 := .c (vI (([] : List Int)))) (v2 := .c (.int .i64 c_1)) rfl rfl rfl, rfl⟩
 refine SCode.cond_f rfl g3 (SCode.skip (SCode.seq ?_))
 obtain ⟨c_4, g5, h⟩ := bind_out h
 try dsimp only at h
 refine SCode.region (sq rfl rfl (q_load_ptr_all rfl rfl rfl rfl rfl ty26) (se rfl rfl (e_call (plan_network_own_ok F a0_p c_4 g5) [] rfl fn27 rfl rfl rfl rfl rfl rfl rfl rfl) (se rfl rfl (e_alloc rfl rfl rfl z49) (se rfl rfl (e_store_box rfl rfl rfl rfl rfl ty49 rfl rfl rfl rfl) (SOps.nil (SCode.seq (SCode.region (sa rfl rfl (SOps.nilArrL (T := 3) (k := 1) (cInt .i64) 0 (s := 6) rfl rfl (SOps.nil ?_))))))))))
 let S3 := fun (o2_6 : List Int) => (⟨[(5, .c (.ptr 0 0)), (6, .c (.own 2 o2_6.length))], [.box [.int .i64 c_4.Nodes, .own 1 c_4.Arcs.length], aSArc 63 c_4.Arcs, aI 3 o2_6]⟩ : St)
 refine SCode.join (σ := (List Int)) (S := fun s => (S3 s)) (g := fun s => plan_Fair_p9 F c_4 s = some r) ?_ ?_
 rotate_left
 ·refine SCode.seq (SCode.region (sq rfl rfl (q_field_ptr rfl rfl fd26_4) (sq rfl rfl (q_load_ptr rfl rfl rfl rfl ty24) (sq rfl rfl (q_len_vec rfl rfl sl24) (sm rfl rfl (SOps.nil (SCode.block ?_)))))))
  let S2 := fun (t19_13 : Int) => fun (o2_14 : List Int) => (⟨[(5, .c (.ptr 0 0)), (6, .c (.own 2 o2_14.length)), (17, .c (vSDemand a0_p.Demands)), (18, ci (((a0_p.Demands).length : Int))), (19, ci t19_13)], [.box [.int .i64 c_4.Nodes, .own 1 c_4.Arcs.length], aSArc 63 c_4.Arcs, aI 3 o2_14]⟩ : St)
  refine SCode.sub (st' := (S2 0 (([] : List Int)))) (sub_gen [3, 1, 4] rfl rfl (zall rfl rfl) ⟨bx rfl rfl rfl, oa rfl, oa rfl, trivial⟩) ?_
  refine (SCode.loop (σ := Nat × (Int × (List Int))) (S := fun s => (S2 s.2.1 s.2.2)) (g := fun s => plan_Fair_l18 F a0_p c_4 s.1 s.2.1 s.2.2 = some r) (μ := fun s => s.1) (F, (0, ([] : List Int))) h ?_)
  rintro ⟨n_18, ⟨t19_13, o2_14⟩⟩ h
  try dsimp only at h
  show SCode _ _ _ (S2 t19_13 o2_14) _
  cases n_18 with
  | zero => cases h
  | succ n_18 =>
   rw [plan_Fair_l18] at h
   unfold plan_Fair_b18 at h
   refine SCode.seq (SCode.region (sq rfl rfl (q_lss rfl rfl rfl) (SOps.nil (SCode.seq ?_))))
   rcases cond_out h with ⟨g19, h⟩ | ⟨g19, h⟩
   ·refine SCode.cond_t rfl g19 (SCode.skip (SCode.seq (SCode.block (SCode.seq ?_))))
    obtain ⟨g20, h⟩ := guard_out h
    refine SCode.region (sq rfl rfl (q_index_vec rfl rfl rfl sl24 rfl g20.1 g20.2) (sq rfl rfl (q_load_eptr_all rfl rfl rfl ty39) (se rfl rfl (e_alloc rfl rfl rfl z39) (se rfl rfl (e_store_box rfl rfl rfl rfl rfl ty39 rfl rfl rfl rfl) (SOps.nil ?_)))))
    obtain ⟨g21, h⟩ := guard_out h
    refine SCode.region (sm rfl rfl (sq rfl rfl (q_field_ptr rfl rfl fd39_2) (sq rfl rfl (q_load_ptr rfl rfl rfl rfl ty3) (sq rfl rfl (q_bsliceL (c := (cInt .i64)) (d0 := 0) [(a0_p.Demands.getD t19_13.toNat dSDemand).Energy] rfl rfl sl22 z3 rfl rfl rfl rfl rfl rfl rfl) (se rfl rfl (e_appendL (c := (cInt .i64)) (d0 := 0) (l := o2_14) (l2 := [(a0_p.Demands.getD t19_13.toNat dSDemand).Energy]) rfl rfl rfl rfl rfl rfl (.inl rfl) sl22 z3 rfl rfl oneInt g21.1 g21.2) (sa rfl rfl (SOps.sub (st' := ⟨[(5, .c (.ptr 0 0)), (6, .c (.own 2 (o2_14 ++ ([(a0_p.Demands.getD t19_13.toNat dSDemand).Energy])).length)), (17, .c (vSDemand a0_p.Demands)), (18, ci (((a0_p.Demands).length : Int))), (19, ci t19_13)], [.box [.int .i64 c_4.Nodes, .own 1 c_4.Arcs.length], aSArc 63 c_4.Arcs, aI 3 (o2_14 ++ ([(a0_p.Demands.getD t19_13.toNat dSDemand).Energy]))]⟩) (sub_gen [0, 1, 4] rfl rfl (zall rfl rfl) ⟨bx rfl rfl rfl, oa rfl, oa rfl, trivial⟩) (SOps.nil (SCode.region (sq rfl rfl (q_add rfl rfl rfl) (sm rfl rfl (SOps.nil ?_))))))))))))
    exact ⟨(n_18, (IntKind.wrap .i64 (t19_13 + 1), o2_14 ++ ([(a0_p.Demands.getD t19_13.toNat dSDemand).Energy]))), h, Nat.lt_succ_self n_18, sub_gen [0, 1, 2] rfl rfl (zall rfl rfl) ⟨bx rfl rfl rfl, oa rfl, oa rfl, trivial⟩⟩
   refine SCode.cond_f rfl g19 (SCode.exit ?_)
   exact ⟨o2_14, h, sub_gen [0, 1, 2] rfl rfl (zall rfl rfl) ⟨bx rfl rfl rfl, oa rfl, oa rfl, trivial⟩⟩
 rintro o2_6 h
 show SCode _ _ _ (S3 o2_6) _
 try dsimp only at h
 unfold plan_Fair_p9 at h
 refine SCode.seq (SCode.sub (st' := ⟨[(5, .c (.ptr 0 0)), (6, .c (vI o2_6))], [.box [.int .i64 c_4.Nodes, .own 1 c_4.Arcs.length], aSArc 63 c_4.Arcs]⟩) (sub_gen [0, 1] rfl rfl ⟨zc rfl rfl, ⟨_, rfl, .inr (.inl ⟨_, _, _, _, _, _, _, rfl, rfl, rfl, Nat.le_refl _, fun _ _ _ _ => rfl, nm rfl⟩)⟩, trivial⟩ ⟨bx rfl rfl rfl, oa rfl, trivial⟩) ?_)
 obtain ⟨c_7, g8, h⟩ := bind_out h
 try dsimp only at h
 refine SCode.region (sm rfl rfl (sq rfl rfl (q_makeFuncP rfl rfl) (se rfl rfl (e_call (fair_Fill_f1_31_ok F o2_6 c_4.Nodes c_4.Arcs c_7 g8) [0, 1] rfl fn30 rfl rfl rfl rfl rfl rfl rfl rfl) (sq rfl rfl (q_extract rfl rfl rfl) (sq rfl rfl (q_extract rfl rfl rfl) (sa rfl rfl (sa rfl rfl (SOps.nil (SCode.ret ?_)))))))))
 obtain rfl := Option.some.inj h
 exact ⟨⟨[(2, .c (vI c_7.1)), (3, ci c_7.2.1)], []⟩, _, sub_gen [] rfl rfl (zall rfl rfl) trivial, resA2 (v1 := .c (vI c_7.1)) (v2 := .c (.int .i64 c_7.2.1)) rfl rfl rfl, rfl⟩
theorem plan_Schedule_ok (F : Nat) (a0_p : SProblem) (a1_energy : List Int) (r : (List (List Int)) × Int) (h : plan_Schedule F a0_p a1_energy = some r) :
  SFun Try.prog 20 [] [.a (bSProblem a0_p), .c (vI a1_energy)] (fun x _ => x = .t [.c (vR r.1), .c (.int .i64 r.2)]) := by
 refine SFun.of (n := 76) Try.func20 rfl rfl rfl ?_
 unfold plan_Schedule at h
 show SCode _ _ _ ⟨[(0, .a (bSProblem a0_p)), (1, .c (vI a1_energy))], []⟩ _
 refine SCode.seq (SCode.region (se rfl rfl (e_box rfl rfl rfl rfl rfl rfl) (sa rfl rfl (sa rfl rfl (SOps.nil (SCode.seq (SCode.seq ?_)))))))
 obtain ⟨c_1, g2, h⟩ := bind_out h
 try dsimp only at h
 refine SCode.region (sq rfl rfl (q_load_ptr_all rfl rfl rfl rfl rfl ty26) (sm rfl rfl (sq rfl rfl (q_call (plan_check_ok F a0_p a1_energy c_1 g2) [] rfl fn25 ⟨⟨rfl, rfl⟩, ⟨_, rfl, .inl ⟨rfl, rfl⟩⟩, trivial⟩ (.inl rfl)) (sa rfl rfl (SOps.nil (SCode.seq (SCode.region (sm rfl rfl (sq rfl rfl (q_neq rfl rfl rfl) (SOps.nil ?_))))))))))
 rcases cond_out h with ⟨g3, h⟩ | ⟨g3, h⟩
 ·refine SCode.cond_t rfl g3 (SCode.seq (SCode.region (sm rfl rfl (sa rfl rfl (sa rfl rfl (SOps.nil (SCode.ret ?_)))))))
  obtain rfl := Option.some.inj h
  exact ⟨⟨[(4, .c (vR (([] : List (List Int))))), (5, ci c_1)], []⟩, _, sub_gen [] rfl rfl ⟨⟨_, rfl, .inr (.inr (.inr (.inl ⟨_, _, rfl, rfl⟩)))⟩, zc rfl rfl, trivial⟩ trivial, resA2 (v1 := .c (vR (([] : List (List Int))))) (v2 := .c (.int .i64 c_1)) rfl rfl rfl, rfl⟩
 refine SCode.cond_f rfl g3 (SCode.skip (SCode.seq ?_))
 obtain ⟨c_4, g5, h⟩ := bind_out h
 try dsimp only at h
 obtain ⟨c_6, g7, h⟩ := bind_out h
 try dsimp only at h
 obtain ⟨g8, h⟩ := guard_out h
 refine SCode.region (sq rfl rfl (q_load_ptr_all rfl rfl rfl rfl rfl ty26) (se rfl rfl (e_call (plan_network_own_ok F a0_p c_4 g5) [] rfl fn27 rfl rfl rfl rfl rfl rfl rfl rfl) (sm rfl rfl (se rfl rfl (e_call (plan_route_ok F c_4 a1_energy c_6 g7) [1] rfl fn26 rfl rfl rfl rfl rfl rfl rfl rfl) (sm rfl rfl (sq rfl rfl (q_extract rfl rfl rfl) (sq rfl rfl (q_extract rfl rfl rfl) (sa rfl rfl (sa rfl rfl (SOps.sub (st' := ⟨[(2, .c (.ptr 0 0)), (7, .c (vI c_6.1)), (8, .c (.bool c_6.2.1))], [.box (bSProblem a0_p)]⟩) (sub_gen [0] rfl rfl (zall rfl rfl) ⟨bx rfl rfl rfl, trivial⟩) (SOps.nil (SCode.seq (SCode.seq (SCode.region (sm rfl rfl ?_)))))))))))))))
 refine sq rfl rfl (q_not rfl rfl) (SOps.nil ?_)
 rcases cond_out h with ⟨g9, h⟩ | ⟨g9, h⟩
 ·refine SCode.cond_t rfl g9 (SCode.seq (SCode.region (sa rfl rfl (sa rfl rfl (SOps.nil (SCode.ret ?_))))))
  obtain rfl := Option.some.inj h
  exact ⟨⟨[(4, .c (vR (([] : List (List Int))))), (5, ci 3)], []⟩, _, sub_gen [] rfl rfl ⟨⟨_, rfl, .inr (.inr (.inr (.inl ⟨_, _, rfl, rfl⟩)))⟩, zc rfl rfl, trivial⟩ trivial, resA2 (v1 := .c (vR (([] : List (List Int))))) (v2 := .c (.int .i64 3)) rfl rfl rfl, rfl⟩
 refine SCode.cond_f rfl g9 (SCode.skip (SCode.seq (SCode.region (sq rfl rfl (q_field_ptr rfl rfl fd26_4) (sq rfl rfl (q_load_ptr rfl rfl rfl rfl ty24) (sq rfl rfl (q_len_vec rfl rfl sl24) (sa rfl rfl (SOps.nil (SCode.seq ?_)))))))))
 obtain ⟨g10, h⟩ := guard_out h
 refine SCode.region (sq rfl rfl (q_field_ptr rfl rfl fd26_4) (sq rfl rfl (q_load_ptr rfl rfl rfl rfl ty24) (sq rfl rfl (q_len_vec rfl rfl sl24) (se rfl rfl (e_makeRows (T := 3) (k := 1) (cInt .i64) 0 rfl rfl rfl rfl rfl sl23 z22 g10.1 (Int.le_refl _) g10.2.1 g10.2.2) (sa rfl rfl ?_)))))
 let y1 := List.replicate (((a0_p.Demands).length : Int)).toNat ([] : List Int)
 refine SOps.sub (st' := ⟨[(2, .c (.ptr 0 0)), (7, .c (vI c_6.1)), (9, ci (((a0_p.Demands).length : Int))), (10, .c (.own 1 y1.length))], [.box (bSProblem a0_p), .rows 22 3 1 y1.length (rLen y1) (rGet (cInt .i64) 0 y1) none]⟩) (sub_gen [0, 1] rfl rfl (zall rfl rfl) ⟨bx rfl rfl rfl, ⟨none, rfl, trivial⟩, trivial⟩) (SOps.nil ?_)
 let S57 := fun (o0_11 : List (List Int)) => (⟨[(10, .c (.own 0 o0_11.length))], [.rows 22 3 1 o0_11.length (rLen o0_11) (rGet (cInt .i64) 0 o0_11) none]⟩ : St)
 refine SCode.join (σ := (List (List Int))) (S := fun s => (S57 s)) (g := fun s => plan_Schedule_p12 s = some r) ?_ ?_
 rotate_left
 ·refine SCode.seq (SCode.region (sq rfl rfl (q_field_ptr rfl rfl fd26_4) (sq rfl rfl (q_load_ptr rfl rfl rfl rfl ty24) (sq rfl rfl (q_len_vec rfl rfl sl24) (sm rfl rfl ?_)))))
  let y2 := List.replicate (((a0_p.Demands).length : Int)).toNat ([] : List Int)
  refine SOps.sub (st' := ⟨[(2, .c (.ptr 0 0)), (7, .c (vI c_6.1)), (9, ci (((a0_p.Demands).length : Int))), (10, .c (.own 1 y2.length)), (37, .c (vSDemand a0_p.Demands)), (38, ci (((a0_p.Demands).length : Int))), (39, ci 0)], [.box (bSProblem a0_p), .rows 22 3 1 y2.length (rLen y2) (rGet (cInt .i64) 0 y2) none]⟩) (sub_gen [0, 1] rfl rfl (zall rfl rfl) ⟨bx rfl rfl rfl, ⟨none, rfl, trivial⟩, trivial⟩) (SOps.nil (SCode.block ?_))
  let S56 := fun (next_63 : Int) => fun (t39_64 : Int) => fun (o1_65 : List (List Int)) => (⟨[(2, .c (.ptr 0 0)), (7, .c (vI c_6.1)), (9, ci next_63), (10, .c (.own 1 o1_65.length)), (37, .c (vSDemand a0_p.Demands)), (38, ci (((a0_p.Demands).length : Int))), (39, ci t39_64)], [.box (bSProblem a0_p), .rows 22 3 1 o1_65.length (rLen o1_65) (rGet (cInt .i64) 0 o1_65) none]⟩ : St)
  refine SCode.sub (st' := (S56 (((a0_p.Demands).length : Int)) 0 (List.replicate (((a0_p.Demands).length : Int)).toNat ([] : List Int)))) (sub_gen [0, 1] rfl rfl (zall rfl rfl) ⟨bx rfl rfl rfl, ⟨none, rfl, trivial⟩, trivial⟩) ?_
  refine (SCode.loop (σ := Nat × (Int × Int × (List (List Int)))) (S := fun s => (S56 s.2.1 s.2.2.1 s.2.2.2)) (g := fun s => plan_Schedule_l116 F a0_p c_6 s.1 s.2.1 s.2.2.1 s.2.2.2 = some r) (μ := fun s => s.1) (F, (((a0_p.Demands).length : Int), 0, List.replicate (((a0_p.Demands).length : Int)).toNat ([] : List Int))) h ?_)
  rintro ⟨n_116, ⟨next_63, t39_64, o1_65⟩⟩ h
  try dsimp only at h
  show SCode _ _ _ (S56 next_63 t39_64 o1_65) _
  cases n_116 with
  | zero => cases h
  | succ n_116 =>
   rw [plan_Schedule_l116] at h
   unfold plan_Schedule_b116 at h
   refine SCode.seq (SCode.region (sq rfl rfl (q_lss rfl rfl rfl) (SOps.sub (st' := ⟨[(2, .c (.ptr 0 0)), (7, .c (vI c_6.1)), (9, ci next_63), (10, .c (.own 1 o1_65.length)), (37, .c (vSDemand a0_p.Demands)), (38, ci (((a0_p.Demands).length : Int))), (39, ci t39_64), (40, .c (.bool (decide (t39_64 < ((a0_p.Demands).length : Int)))))], [.box (bSProblem a0_p), .rows 22 3 1 o1_65.length (rLen o1_65) (rGet (cInt .i64) 0 o1_65) none]⟩) (sub_gen [0, 1] rfl rfl (zall rfl rfl) ⟨bx rfl rfl rfl, ⟨none, rfl, trivial⟩, trivial⟩) (SOps.nil (SCode.seq ?_)))))
   rcases cond_out h with ⟨g117, h⟩ | ⟨g117, h⟩
   ·refine SCode.cond_t rfl g117 (SCode.skip ?_)
    let S55 := fun (next_118 : Int) => fun (o1_119 : List (List Int)) => (⟨[(2, .c (.ptr 0 0)), (7, .c (vI c_6.1)), (9, ci next_118), (10, .c (.own 1 o1_119.length)), (37, .c (vSDemand a0_p.Demands)), (38, ci (((a0_p.Demands).length : Int))), (39, ci t39_64)], [.box (bSProblem a0_p), .rows 22 3 1 o1_119.length (rLen o1_119) (rGet (cInt .i64) 0 o1_119) none]⟩ : St)
    refine SCode.join (σ := Int × (List (List Int))) (S := fun s => (S55 s.1 s.2)) (g := fun s => plan_Schedule_p120 t39_64 (fun next_63 t39_64 o1_65 => plan_Schedule_l116 F a0_p c_6 n_116 next_63 t39_64 o1_65) s.1 s.2 = some r) ?_ ?_
    rotate_left
    ·refine SCode.block (SCode.seq ?_)
     obtain ⟨g121, h⟩ := guard_out h
     refine SCode.region (sm rfl rfl (sq rfl rfl (q_index_vec rfl rfl rfl sl24 rfl g121.1 g121.2) (sq rfl rfl (q_load_eptr_all rfl rfl rfl ty39) (se rfl rfl (e_alloc rfl rfl rfl z39) (sa rfl rfl (se rfl rfl (e_store_box rfl rfl rfl rfl rfl ty39 rfl rfl rfl rfl) (SOps.sub (st' := ⟨[(2, .c (.ptr 0 0)), (7, .c (vI c_6.1)), (9, ci next_63), (10, .c (.own 1 o1_65.length)), (11, ci t39_64), (12, .c (.ptr 2 0)), (37, .c (vSDemand a0_p.Demands)), (38, ci (((a0_p.Demands).length : Int))), (39, ci t39_64)], [.box (bSProblem a0_p), .rows 22 3 1 o1_65.length (rLen o1_65) (rGet (cInt .i64) 0 o1_65) none, .box (bSDemand (a0_p.Demands.getD t39_64.toNat dSDemand))]⟩) (sub_gen [0, 1, 2] rfl rfl (zall rfl rfl) ⟨bx rfl rfl rfl, ⟨none, rfl, trivial⟩, bx rfl rfl rfl, trivial⟩) (SOps.nil (SCode.seq ?_)))))))))
     obtain ⟨g124, h⟩ := guard_out h
     refine SCode.sub (st' := ⟨[(2, .c (.ptr 0 0)), (7, .c (vI c_6.1)), (9, ci next_63), (10, .c (.own 1 o1_65.length)), (11, ci t39_64), (12, .c (.ptr 2 0)), (37, .c (vSDemand a0_p.Demands)), (38, ci (((a0_p.Demands).length : Int))), (39, ci t39_64)], [.box (bSProblem a0_p), .rows 22 3 1 o1_65.length (rLen o1_65) (rGet (cInt .i64) 0 o1_65) (some (t39_64.toNat, .own 3 (o1_65.getD t39_64.toNat []).length)), .box (bSDemand (a0_p.Demands.getD t39_64.toNat dSDemand)), aI 3 (o1_65.getD t39_64.toNat [])]⟩) (Sub.focus (F := 1) (h := t39_64.toNat) rfl (toNat_lt g124)) ?_
     obtain ⟨g125, h⟩ := guard_out h
     obtain ⟨g126, h⟩ := guard_out h
     refine SCode.region (sm rfl rfl (sm rfl rfl (sq rfl rfl (q_field_ptr rfl rfl fd26_1) (sq rfl rfl (q_load_ptr rfl rfl rfl rfl ty23) (sq rfl rfl (q_len_vec rfl rfl sl23) (se rfl rfl (e_makeL (c := (cInt .i64)) (d0 := 0) rfl rfl rfl rfl rfl sl22 z3 rfl rfl rfl g125.1 (Int.le_refl _) g125.2.1 g125.2.2) (sq rfl rfl (q_index_own rfl rfl rfl sl23 g126.1 g126.2) (se rfl rfl (e_store_hole rfl rfl rfl rfl rfl (toNat_lt g126) ty22 rfl) ?_))))))))
     let y3 := o1_65.set t39_64.toNat (List.replicate (((a0_p.Caps).length : Int)).toNat (0 : Int))
     refine SOps.sub (st' := ⟨[(2, .c (.ptr 0 0)), (7, .c (vI c_6.1)), (9, ci next_63), (10, .c (.own 1 y3.length)), (11, ci t39_64), (12, .c (.ptr 2 0)), (37, .c (vSDemand a0_p.Demands)), (38, ci (((a0_p.Demands).length : Int))), (39, ci t39_64)], [.box (bSProblem a0_p), .rows 22 3 1 y3.length (rLen y3) (rGet (cInt .i64) 0 y3) none, .box (bSDemand (a0_p.Demands.getD t39_64.toNat dSDemand))]⟩) (Sub.trans (Sub.unfocusL (F := 1) (j := 4) rfl rfl rfl) (sub_gen [0, 1, 2] rfl rfl ⟨zc rfl rfl, zc rfl rfl, zc rfl rfl, ⟨_, rfl, .inl ⟨rfl, congrArg (Cell.own 1) (List.length_set : y3.length = o1_65.length).symm⟩⟩, zc rfl rfl, zc rfl rfl, zc rfl rfl, zc rfl rfl, zc rfl rfl, trivial⟩ ⟨bx rfl rfl rfl, ⟨none, rfl, trivial⟩, bx rfl rfl rfl, trivial⟩)) (SOps.nil (SCode.seq (SCode.region (sq rfl rfl (q_field_ptr rfl rfl fd26_1) (sq rfl rfl (q_load_ptr rfl rfl rfl rfl ty23) (sq rfl rfl (q_len_vec rfl rfl sl23) (sm rfl rfl ?_)))))))
     let y4 := o1_65.set t39_64.toNat (List.replicate (((a0_p.Caps).length : Int)).toNat (0 : Int))
     refine SOps.sub (st' := ⟨[(2, .c (.ptr 0 0)), (7, .c (vI c_6.1)), (9, ci next_63), (10, .c (.own 1 y4.length)), (11, ci t39_64), (12, .c (.ptr 2 0)), (37, .c (vSDemand a0_p.Demands)), (38, ci (((a0_p.Demands).length : Int))), (39, ci t39_64), (53, ci (((a0_p.Caps).length : Int))), (54, ci 0)], [.box (bSProblem a0_p), .rows 22 3 1 y4.length (rLen y4) (rGet (cInt .i64) 0 y4) none, .box (bSDemand (a0_p.Demands.getD t39_64.toNat dSDemand))]⟩) (sub_gen [0, 1, 2] rfl rfl (zall rfl rfl) ⟨bx rfl rfl rfl, ⟨none, rfl, trivial⟩, bx rfl rfl rfl, trivial⟩) (SOps.nil (SCode.block ?_))
     let S54 := fun (next_139 : Int) => fun (t54_140 : Int) => fun (o1_141 : List (List Int)) => (⟨[(2, .c (.ptr 0 0)), (7, .c (vI c_6.1)), (9, ci next_139), (10, .c (.own 1 o1_141.length)), (11, ci t39_64), (12, .c (.ptr 2 0)), (37, .c (vSDemand a0_p.Demands)), (38, ci (((a0_p.Demands).length : Int))), (39, ci t39_64), (53, ci (((a0_p.Caps).length : Int))), (54, ci t54_140)], [.box (bSProblem a0_p), .rows 22 3 1 o1_141.length (rLen o1_141) (rGet (cInt .i64) 0 o1_141) none, .box (bSDemand (a0_p.Demands.getD t39_64.toNat dSDemand))]⟩ : St)
     refine SCode.sub (st' := (S54 next_63 0 (o1_65.set t39_64.toNat (List.replicate (((a0_p.Caps).length : Int)).toNat (0 : Int))))) (sub_gen [0, 1, 2] rfl rfl (zall rfl rfl) ⟨bx rfl rfl rfl, ⟨none, rfl, trivial⟩, bx rfl rfl rfl, trivial⟩) ?_
     refine (SCode.loop (σ := Nat × (Int × Int × (List (List Int)))) (S := fun s => (S54 s.2.1 s.2.2.1 s.2.2.2)) (g := fun s => plan_Schedule_l154 F a0_p c_6 t39_64 (fun next_63 t39_64 o1_65 => plan_Schedule_l116 F a0_p c_6 n_116 next_63 t39_64 o1_65) s.1 s.2.1 s.2.2.1 s.2.2.2 = some r) (μ := fun s => s.1) (F, (next_63, 0, o1_65.set t39_64.toNat (List.replicate (((a0_p.Caps).length : Int)).toNat (0 : Int)))) h ?_)
     rintro ⟨n_154, ⟨next_139, t54_140, o1_141⟩⟩ h
     try dsimp only at h
     show SCode _ _ _ (S54 next_139 t54_140 o1_141) _
     cases n_154 with
     | zero => cases h
     | succ n_154 =>
      rw [plan_Schedule_l154] at h
      unfold plan_Schedule_b154 at h
      refine SCode.seq (SCode.region (sq rfl rfl (q_lss rfl rfl rfl) (SOps.sub (st' := ⟨[(2, .c (.ptr 0 0)), (7, .c (vI c_6.1)), (9, ci next_139), (10, .c (.own 1 o1_141.length)), (11, ci t39_64), (12, .c (.ptr 2 0)), (37, .c (vSDemand a0_p.Demands)), (38, ci (((a0_p.Demands).length : Int))), (39, ci t39_64), (53, ci (((a0_p.Caps).length : Int))), (54, ci t54_140), (55, .c (.bool (decide (t54_140 < ((a0_p.Caps).length : Int)))))], [.box (bSProblem a0_p), .rows 22 3 1 o1_141.length (rLen o1_141) (rGet (cInt .i64) 0 o1_141) none, .box (bSDemand (a0_p.Demands.getD t39_64.toNat dSDemand))]⟩) (sub_gen [0, 1, 2] rfl rfl (zall rfl rfl) ⟨bx rfl rfl rfl, ⟨none, rfl, trivial⟩, bx rfl rfl rfl, trivial⟩) (SOps.nil (SCode.seq ?_)))))
      rcases cond_out h with ⟨g155, h⟩ | ⟨g155, h⟩
      ·refine SCode.cond_t rfl g155 (SCode.skip ?_)
       let S53 := fun (next_156 : Int) => fun (o1_157 : List (List Int)) => (⟨[(2, .c (.ptr 0 0)), (7, .c (vI c_6.1)), (9, ci next_156), (10, .c (.own 1 o1_157.length)), (11, ci t39_64), (12, .c (.ptr 2 0)), (37, .c (vSDemand a0_p.Demands)), (38, ci (((a0_p.Demands).length : Int))), (39, ci t39_64), (53, ci (((a0_p.Caps).length : Int))), (54, ci t54_140)], [.box (bSProblem a0_p), .rows 22 3 1 o1_157.length (rLen o1_157) (rGet (cInt .i64) 0 o1_157) none, .box (bSDemand (a0_p.Demands.getD t39_64.toNat dSDemand))]⟩ : St)
       refine SCode.join (σ := Int × (List (List Int))) (S := fun s => (S53 s.1 s.2)) (g := fun s => plan_Schedule_p158 t54_140 (fun next_139 t54_140 o1_141 => plan_Schedule_l154 F a0_p c_6 t39_64 (fun next_63 t39_64 o1_65 => plan_Schedule_l116 F a0_p c_6 n_116 next_63 t39_64 o1_65) n_154 next_139 t54_140 o1_141) s.1 s.2 = some r) ?_ ?_
       rotate_left
       ·refine SCode.block (SCode.seq (SCode.region (sm rfl rfl (sa rfl rfl (SOps.sub (st' := ⟨[(2, .c (.ptr 0 0)), (7, .c (vI c_6.1)), (9, ci next_139), (10, .c (.own 1 o1_141.length)), (11, ci t39_64), (12, .c (.ptr 2 0)), (13, ci t54_140), (37, .c (vSDemand a0_p.Demands)), (38, ci (((a0_p.Demands).length : Int))), (39, ci t39_64), (53, ci (((a0_p.Caps).length : Int))), (54, ci t54_140)], [.box (bSProblem a0_p), .rows 22 3 1 o1_141.length (rLen o1_141) (rGet (cInt .i64) 0 o1_141) none, .box (bSDemand (a0_p.Demands.getD t39_64.toNat dSDemand))]⟩) (sub_gen [0, 1, 2] rfl rfl (zall rfl rfl) ⟨bx rfl rfl rfl, ⟨none, rfl, trivial⟩, bx rfl rfl rfl, trivial⟩) (SOps.nil (SCode.seq ?_)))))))
        obtain ⟨c_159, g160, h⟩ := bind_out h
        try dsimp only at h
        refine SCode.region (sq rfl rfl (q_load_ptr_all rfl rfl rfl rfl rfl ty26) (sq rfl rfl (q_load_ptr_all rfl rfl rfl rfl rfl ty39) (sm rfl rfl (sq rfl rfl (q_call (plan_usable_ok F a0_p (a0_p.Demands.getD t39_64.toNat dSDemand) t54_140 c_159 g160) [] rfl fn36 ⟨⟨rfl, rfl⟩, ⟨rfl, rfl⟩, ⟨_, rfl, .inl ⟨rfl, rfl⟩⟩, trivial⟩ (.inl rfl)) (SOps.sub (st' := ⟨[(2, .c (.ptr 0 0)), (7, .c (vI c_6.1)), (9, ci next_139), (10, .c (.own 1 o1_141.length)), (11, ci t39_64), (12, .c (.ptr 2 0)), (13, ci t54_140), (37, .c (vSDemand a0_p.Demands)), (38, ci (((a0_p.Demands).length : Int))), (39, ci t39_64), (53, ci (((a0_p.Caps).length : Int))), (54, ci t54_140), (60, .c (.bool c_159))], [.box (bSProblem a0_p), .rows 22 3 1 o1_141.length (rLen o1_141) (rGet (cInt .i64) 0 o1_141) none, .box (bSDemand (a0_p.Demands.getD t39_64.toNat dSDemand))]⟩) (sub_gen [0, 1, 2] rfl rfl (zall rfl rfl) ⟨bx rfl rfl rfl, ⟨none, rfl, trivial⟩, bx rfl rfl rfl, trivial⟩) (SOps.nil ?_))))))
        rcases cond_out h with ⟨g161, h⟩ | ⟨g161, h⟩
        ·refine SCode.cond_t rfl g161 (SCode.seq ?_)
         obtain ⟨g163, h⟩ := guard_out h
         refine SCode.sub (st' := ⟨[(2, .c (.ptr 0 0)), (7, .c (vI c_6.1)), (9, ci next_139), (10, .c (.own 1 o1_141.length)), (11, ci t39_64), (12, .c (.ptr 2 0)), (13, ci t54_140), (37, .c (vSDemand a0_p.Demands)), (38, ci (((a0_p.Demands).length : Int))), (39, ci t39_64), (53, ci (((a0_p.Caps).length : Int))), (54, ci t54_140), (60, .c (.bool c_159))], [.box (bSProblem a0_p), .rows 22 3 1 o1_141.length (rLen o1_141) (rGet (cInt .i64) 0 o1_141) (some (t39_64.toNat, .own 3 (o1_141.getD t39_64.toNat []).length)), .box (bSDemand (a0_p.Demands.getD t39_64.toNat dSDemand)), aI 3 (o1_141.getD t39_64.toNat [])]⟩) (Sub.focus (F := 1) (h := t39_64.toNat) rfl (toNat_lt g163)) ?_
         obtain ⟨g164, h⟩ := guard_out h
         obtain ⟨g165, h⟩ := guard_out h
         obtain ⟨g166, h⟩ := guard_out h
         refine SCode.drawK mixed [[], [], [0, 1], [0, 1, 2], [], [], [], [5, 6], [5, 6, 7], [0, 1, 2, 3, 4, 5, 6, 7, 8], [0, 1, 2, 3, 4, 5, 6, 7, 8, 9]] 10 1 rfl rfl (qm rfl rfl (qm rfl rfl (qr rfl rfl (q_index_own rfl rfl rfl sl23 g164.1 g164.2) (qr rfl rfl (q_load_hole rfl rfl rfl (toNat_lt g164) ty22) (qm rfl rfl (qm rfl rfl (qm rfl rfl (qr rfl rfl (q_index_vec rfl rfl rfl sl22 rfl g165.1 g165.2) (qr rfl rfl (q_load_eptr rfl rfl ty3) (qr rfl rfl (q_index_own rfl rfl rfl sl22 g166.1 g166.2) (QK.nil (se rfl rfl (e_storeL (c_6.1.getD next_139.toNat 0) rfl rfl rfl rfl rfl (toNat_lt g166) ty3 rfl rfl rfl rfl rfl rfl) ?_))))))))))))
         let y5 := o1_141.set t39_64.toNat ((o1_141.getD t39_64.toNat []).set t54_140.toNat (c_6.1.getD next_139.toNat 0))
         refine SOps.sub (st' := ⟨[(2, .c (.ptr 0 0)), (7, .c (vI c_6.1)), (9, ci next_139), (10, .c (.own 1 y5.length)), (11, ci t39_64), (12, .c (.ptr 2 0)), (37, .c (vSDemand a0_p.Demands)), (38, ci (((a0_p.Demands).length : Int))), (39, ci t39_64), (53, ci (((a0_p.Caps).length : Int))), (54, ci t54_140)], [.box (bSProblem a0_p), .rows 22 3 1 y5.length (rLen y5) (rGet (cInt .i64) 0 y5) none, .box (bSDemand (a0_p.Demands.getD t39_64.toNat dSDemand))]⟩) (Sub.trans (Sub.unfocusL (F := 1) (j := 3) (List.length_set : ((o1_141.getD t39_64.toNat []).set t54_140.toNat (c_6.1.getD next_139.toNat 0)).length = (o1_141.getD t39_64.toNat []).length) rfl rfl) (sub_gen [0, 1, 2] rfl rfl ⟨zc rfl rfl, zc rfl rfl, zc rfl rfl, ⟨_, rfl, .inl ⟨rfl, congrArg (Cell.own 1) (List.length_set : y5.length = o1_141.length).symm⟩⟩, zc rfl rfl, zc rfl rfl, zc rfl rfl, zc rfl rfl, zc rfl rfl, zc rfl rfl, zc rfl rfl, trivial⟩ ⟨bx rfl rfl rfl, ⟨none, rfl, trivial⟩, bx rfl rfl rfl, trivial⟩)) (SOps.nil (SCode.region (sm rfl rfl (sq rfl rfl (q_add rfl rfl rfl) (sa rfl rfl ?_)))))
         let y6 := o1_141.set t39_64.toNat ((o1_141.getD t39_64.toNat []).set t54_140.toNat (c_6.1.getD next_139.toNat 0))
         refine SOps.sub (st' := ⟨[(2, .c (.ptr 0 0)), (7, .c (vI c_6.1)), (9, ci (IntKind.wrap .i64 (next_139 + 1))), (10, .c (.own 1 y6.length)), (11, ci t39_64), (12, .c (.ptr 2 0)), (37, .c (vSDemand a0_p.Demands)), (38, ci (((a0_p.Demands).length : Int))), (39, ci t39_64), (53, ci (((a0_p.Caps).length : Int))), (54, ci t54_140)], [.box (bSProblem a0_p), .rows 22 3 1 y6.length (rLen y6) (rGet (cInt .i64) 0 y6) none, .box (bSDemand (a0_p.Demands.getD t39_64.toNat dSDemand))]⟩) (sub_gen [0, 1, 2] rfl rfl (zall rfl rfl) ⟨bx rfl rfl rfl, ⟨none, rfl, trivial⟩, bx rfl rfl rfl, trivial⟩) (SOps.nil ?_)
         exact ⟨(IntKind.wrap .i64 (next_139 + 1), o1_141.set t39_64.toNat ((o1_141.getD t39_64.toNat []).set t54_140.toNat (c_6.1.getD next_139.toNat 0))), h, sub_gen [0, 1, 2] rfl rfl (zall rfl rfl) ⟨bx rfl rfl rfl, ⟨none, rfl, trivial⟩, bx rfl rfl rfl, trivial⟩⟩
        refine SCode.cond_f rfl g161 (SCode.skip ?_)
        exact ⟨(next_139, o1_141), h, sub_gen [0, 1, 2] rfl rfl (zall rfl rfl) ⟨bx rfl rfl rfl, ⟨none, rfl, trivial⟩, bx rfl rfl rfl, trivial⟩⟩
       rintro ⟨next_156, o1_157⟩ h
       show SCode _ _ _ (S53 next_156 o1_157) _
       try dsimp only at h
       unfold plan_Schedule_p158 at h
       refine SCode.region (sq rfl rfl (q_add rfl rfl rfl) (sm rfl rfl (SOps.sub (st' := ⟨[(2, .c (.ptr 0 0)), (7, .c (vI c_6.1)), (9, ci next_156), (10, .c (.own 1 o1_157.length)), (11, ci t39_64), (12, .c (.ptr 2 0)), (37, .c (vSDemand a0_p.Demands)), (38, ci (((a0_p.Demands).length : Int))), (39, ci t39_64), (53, ci (((a0_p.Caps).length : Int))), (54, ci (IntKind.wrap .i64 (t54_140 + 1)))], [.box (bSProblem a0_p), .rows 22 3 1 o1_157.length (rLen o1_157) (rGet (cInt .i64) 0 o1_157) none, .box (bSDemand (a0_p.Demands.getD t39_64.toNat dSDemand))]⟩) (sub_gen [0, 1, 2] rfl rfl (zall rfl rfl) ⟨bx rfl rfl rfl, ⟨none, rfl, trivial⟩, bx rfl rfl rfl, trivial⟩) (SOps.nil ?_))))
       exact ⟨(n_154, (next_156, IntKind.wrap .i64 (t54_140 + 1), o1_157)), h, Nat.lt_succ_self n_154, sub_gen [0, 1, 2] rfl rfl (zall rfl rfl) ⟨bx rfl rfl rfl, ⟨none, rfl, trivial⟩, bx rfl rfl rfl, trivial⟩⟩
      refine SCode.cond_f rfl g155 (SCode.exit ?_)
      exact ⟨(next_139, o1_141), h, sub_gen [0, 1] rfl rfl (zall rfl rfl) ⟨bx rfl rfl rfl, ⟨none, rfl, trivial⟩, trivial⟩⟩
    rintro ⟨next_118, o1_119⟩ h
    show SCode _ _ _ (S55 next_118 o1_119) _
    try dsimp only at h
    unfold plan_Schedule_p120 at h
    refine SCode.region (sq rfl rfl (q_add rfl rfl rfl) (sm rfl rfl (SOps.sub (st' := ⟨[(2, .c (.ptr 0 0)), (7, .c (vI c_6.1)), (9, ci next_118), (10, .c (.own 1 o1_119.length)), (37, .c (vSDemand a0_p.Demands)), (38, ci (((a0_p.Demands).length : Int))), (39, ci (IntKind.wrap .i64 (t39_64 + 1)))], [.box (bSProblem a0_p), .rows 22 3 1 o1_119.length (rLen o1_119) (rGet (cInt .i64) 0 o1_119) none]⟩) (sub_gen [0, 1] rfl rfl (zall rfl rfl) ⟨bx rfl rfl rfl, ⟨none, rfl, trivial⟩, trivial⟩) (SOps.nil ?_))))
    exact ⟨(n_116, (next_118, IntKind.wrap .i64 (t39_64 + 1), o1_119)), h, Nat.lt_succ_self n_116, sub_gen [0, 1] rfl rfl (zall rfl rfl) ⟨bx rfl rfl rfl, ⟨none, rfl, trivial⟩, trivial⟩⟩
   refine SCode.cond_f rfl g117 (SCode.exit ?_)
   exact ⟨o1_65, h, sub_gen [1] rfl rfl (zall rfl rfl) ⟨⟨none, rfl, trivial⟩, trivial⟩⟩
 rintro o0_11 h
 show SCode _ _ _ (S57 o0_11) _
 try dsimp only at h
 unfold plan_Schedule_p12 at h
 refine SCode.seq (SCode.region (sm rfl rfl (sa rfl rfl (sa rfl rfl (SOps.sub (st' := ⟨[(4, .c (.own 0 o0_11.length)), (5, ci 0)], [.rows 22 3 1 o0_11.length (rLen o0_11) (rGet (cInt .i64) 0 o0_11) none]⟩) (sub_gen [0] rfl rfl (zall rfl rfl) ⟨⟨none, rfl, trivial⟩, trivial⟩) (SOps.nil (SCode.ret ?_)))))))
 obtain rfl := Option.some.inj h
 exact ⟨⟨[(4, .c (vR o0_11)), (5, ci 0)], []⟩, _, sub_gen [] rfl rfl ⟨⟨_, rfl, .inr (.inr (.inr (.inr (.inr (.inl ⟨_, _, _, _, _, _, _, _, _, rfl, rfl, rfl, Nat.le_refl _, fun _ _ => ⟨_, rfl, fun _ _ _ _ => rfl⟩, by decide⟩)))))⟩, zc rfl rfl, trivial⟩ trivial, resA2 (v1 := .c (vR o0_11)) (v2 := .c (.int .i64 0)) rfl rfl rfl, rfl⟩
end Go.Proofs.Ytfefnffdocmlmaa.W
