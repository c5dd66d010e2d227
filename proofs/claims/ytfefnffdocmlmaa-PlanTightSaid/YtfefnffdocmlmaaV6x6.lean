/- Written by a program of ours (wip/eng/gen.py): the functions compute their models. -/
import Derived.Test.YtfefnffdocmlmaaFacts
import Derived.Test.YtfefnffdocmlmaaV6x5
namespace Go.Proofs.Ytfefnffdocmlmaa.W
open Go Go.Proofs Go.Proofs.Ytfefnffdocmlmaa.E Go.Proofs.Ytfefnffdocmlmaa.M
set_option linter.unusedVariables false
theorem hush41_fair_Fill_f1_31 : Hush Try.prog 41 := Hush.of Try.func41 rfl rfl rfl rfl rfl rfl rfl rfl rfl rfl if20
set_option maxRecDepth 100000 in
set_option maxHeartbeats 8000000 in
theorem fair_Fill_f1_31_ok (F : Nat) (a0_caps : List Int) (a1b_Nodes : Int) (a1b_Arcs : List SArc) (r : (List Int) × Int × (List SArc)) (h : fair_Fill_f1_31 F a0_caps a1b_Nodes a1b_Arcs = some r) :
  SFun Try.prog 30 [.box [.int .i64 a1b_Nodes, .own 1 a1b_Arcs.length], aSArc 63 a1b_Arcs] [.c (vI a0_caps), .c (.fnp 31 0)] (fun x os => x = .t [.c (vI r.1), .c (.int .i64 r.2.1)] ∧ os = [.box [.int .i64 a1b_Nodes, .own 1 r.2.2.length], aSArc 63 r.2.2, .box [vI r.1], .box [.int .i64 r.2.1]]) := by
 refine SFun.ofD (n := 56) Try.func30 hush41_fair_Fill_f1_31 fn41 rfl rfl rfl rfl rfl rfl rfl rfl rfl rfl ?_
 unfold fair_Fill_f1_31 at h
 show SCode _ _ _ ⟨[(0, .c (vI a0_caps)), (1, .c (.fnp 31 0))], [.box [.int .i64 a1b_Nodes, .own 1 a1b_Arcs.length], aSArc 63 a1b_Arcs]⟩ _
 refine SCode.region (show SOps _ _ _ [0, 1] _ _ from ?_)
 refine se rfl rfl (e_alloc rfl rfl rfl z22) (se rfl rfl (e_alloc rfl rfl rfl z28) (SOps.sub (st' := ⟨[(0, .c (vI a0_caps)), (1, .c (.fnp 31 0)), (4, .c (.ptr 2 0)), (5, .c (.ptr 3 0))], [.box [.int .i64 a1b_Nodes, .own 1 a1b_Arcs.length], aSArc 63 a1b_Arcs, .box [.raw (.slice none 0 0)], .box [.int .i64 0]]⟩) (sub_gen [0, 1, 2, 3] rfl rfl (zall rfl rfl) ⟨bx rfl rfl rfl, oa rfl, bx rfl rfl rfl, bx rfl rfl rfl, trivial⟩) (SOps.nil ?_)))
 refine ⟨rfl, ?_⟩
 show SCode _ _ _ ⟨[(0, .c (vI a0_caps)), (1, .c (.fnp 31 0)), (4, .c (.ptr 2 0)), (5, .c (.ptr 3 0))], [.box [.int .i64 a1b_Nodes, .own 1 a1b_Arcs.length], aSArc 63 a1b_Arcs, .box [.raw (.slice none 0 0)], .box [.int .i64 0]]⟩ _
 refine SCode.seq (SCode.seq ?_)
 refine SCode.region (show SOps _ _ _ [0, 1] _ _ from ?_)
 refine sm rfl rfl rfl rfl rfl (sq rfl rfl rfl (q_eqlF (b := false) rfl rfl rfl rfl fb52) (SOps.nil (SCode.cond_f rfl rfl (SCode.skip (SCode.seq (SCode.seq ?_))))))
 obtain ⟨c_1, g2, h⟩ := bind_out h
 try dsimp only at h
 refine SCode.region (show SOps _ _ _ [0, 1, 2] _ _ from ?_)
 refine sm rfl rfl rfl rfl rfl (sq rfl rfl rfl (q_call (fair_check_ok F a0_caps c_1 g2) [] rfl fn42 ⟨⟨_, rfl, .inl ⟨rfl, rfl⟩⟩, trivial⟩ (.inl rfl)) (sa rfl rfl rfl rfl rfl (SOps.nil (SCode.seq ?_))))
 refine SCode.region (show SOps _ _ _ [0, 1] _ _ from ?_)
 refine sm rfl rfl rfl rfl rfl (sq rfl rfl rfl (q_neq rfl rfl rfl) (SOps.nil ?_))
 rcases cond_out h with ⟨g3, h⟩ | ⟨g3, h⟩
 ·refine SCode.cond_t rfl g3 (SCode.seq ?_)
  refine SCode.region (show SOps _ _ _ [0, 1, 2] _ _ from ?_)
  refine sm rfl rfl rfl rfl rfl (se rfl rfl (e_store_box rfl rfl rfl rfl rfl ty22 rfl rfl rfl rfl) (se rfl rfl (e_store_box rfl rfl rfl rfl rfl ty28 rfl rfl rfl rfl) (SOps.nil (SCode.ret ?_))))
  obtain rfl := Option.some.inj h
  exact ⟨⟨[(4, .c (.ptr 2 0)), (5, .c (.ptr 3 0))], [.box [.int .i64 a1b_Nodes, .own 1 a1b_Arcs.length], aSArc 63 a1b_Arcs, .box [vI (([] : List Int))], .box [.int .i64 c_1]]⟩, _, sub_gen [0, 1, 2, 3] rfl rfl (zall rfl rfl) ⟨bx rfl rfl rfl, oa rfl, ⟨_, rfl, ⟨.inr (.inr (.inr (.inl ⟨_, _, rfl, rfl⟩))), trivial⟩⟩, bx rfl rfl rfl, trivial⟩, resA2 (v1 := .c (vI (([] : List Int)))) (v2 := .c (.int .i64 c_1)) rfl ⟨_, rfl, rfl, ty22⟩ ⟨_, rfl, rfl, ty28⟩, ⟨rfl, rfl⟩⟩
 refine SCode.cond_f rfl g3 (SCode.skip (SCode.seq ?_))
 refine SCode.region (show SOps _ _ _ [0, 1, 2] _ _ from ?_)
 refine sm rfl rfl rfl rfl rfl (sq rfl rfl rfl (q_len_vec rfl rfl sl22) (sa rfl rfl rfl rfl rfl (SOps.nil (SCode.seq (SCode.sub (st' := ⟨[(0, .c (vI a0_caps)), (1, .c (.fnp 31 0)), (4, .c (.ptr 2 0)), (5, .c (.ptr 3 0)), (7, ci (((a0_caps).length : Int)))], [.box [.int .i64 a1b_Nodes, .own 1 a1b_Arcs.length], aSArc 63 a1b_Arcs, .box [.raw (.slice none 0 0)], .box [.int .i64 0]]⟩) (sub_gen [0, 1, 2, 3] rfl rfl (zall rfl rfl) ⟨bx rfl rfl rfl, oa rfl, bx rfl rfl rfl, bx rfl rfl rfl, trivial⟩) ?_)))))
 obtain ⟨g4, h⟩ := guard_out h
 obtain ⟨g5, h⟩ := guard_out h
 obtain ⟨g6, h⟩ := guard_out h
 let ob1 : Ob := .box [.int .i64 a1b_Nodes, .own 1 a1b_Arcs.length]
 let ob2 : Ob := .box [.raw (.slice none 0 0)]
 let ob3 : Ob := aI 3 (List.replicate (((a0_caps).length : Int)).toNat (0 : Int))
 let ob5 : Ob := aB 4 (List.replicate (((a0_caps).length : Int)).toNat (false : Bool))
 let ob9 : Ob := .box [.raw (.slice none 0 0), .raw .nilFunc, .raw (.slice none 0 0), .raw (.slice none 0 0), .raw (.slice none 0 0)]
 let ob10 : Ob := .box [vI a0_caps, .fnp 31 0, .own 4 (List.replicate (((a0_caps).length : Int)).toNat (0 : Int)).length, .own 5 (List.replicate (((a0_caps).length : Int)).toNat (false : Bool)).length, .own 6 (List.replicate (((a0_caps).length : Int)).toNat (0 : Int)).length]
 let ob13 : Ob := .box [vI a0_caps, .fnp 31 0, .own 4 (List.replicate (((a0_caps).length : Int)).toNat (0 : Int)).length, .own 5 (List.replicate (((a0_caps).length : Int)).toNat (false : Bool)).length, .own 7 (List.replicate (((a0_caps).length : Int)).toNat (0 : Int)).length]
 let ob17 : Ob := .box [vI a0_caps, .fnp 31 0, .own 4 (List.replicate (((a0_caps).length : Int)).toNat (0 : Int)).length, .own 6 (List.replicate (((a0_caps).length : Int)).toNat (false : Bool)).length, .own 5 (List.replicate (((a0_caps).length : Int)).toNat (0 : Int)).length]
 let ob20 : Ob := .box [vI a0_caps, .fnp 31 0, .own 4 (List.replicate (((a0_caps).length : Int)).toNat (0 : Int)).length, .own 7 (List.replicate (((a0_caps).length : Int)).toNat (false : Bool)).length, .own 5 (List.replicate (((a0_caps).length : Int)).toNat (0 : Int)).length]
 let ob22 : Ob := .box [vI a0_caps, .fnp 31 0, .own 4 (List.replicate (((a0_caps).length : Int)).toNat (0 : Int)).length, .own 6 (List.replicate (((a0_caps).length : Int)).toNat (false : Bool)).length, .own 7 (List.replicate (((a0_caps).length : Int)).toNat (0 : Int)).length]
 let ob24 : Ob := .box [vI a0_caps, .fnp 31 0, .own 4 (List.replicate (((a0_caps).length : Int)).toNat (0 : Int)).length, .own 7 (List.replicate (((a0_caps).length : Int)).toNat (false : Bool)).length, .own 6 (List.replicate (((a0_caps).length : Int)).toNat (0 : Int)).length]
 let ob27 : Ob := .box [vI a0_caps, .fnp 31 0, .own 5 (List.replicate (((a0_caps).length : Int)).toNat (0 : Int)).length, .own 4 (List.replicate (((a0_caps).length : Int)).toNat (false : Bool)).length, .own 6 (List.replicate (((a0_caps).length : Int)).toNat (0 : Int)).length]
 let ob29 : Ob := .box [vI a0_caps, .fnp 31 0, .own 5 (List.replicate (((a0_caps).length : Int)).toNat (0 : Int)).length, .own 4 (List.replicate (((a0_caps).length : Int)).toNat (false : Bool)).length, .own 7 (List.replicate (((a0_caps).length : Int)).toNat (0 : Int)).length]
 let ob31 : Ob := .box [vI a0_caps, .fnp 31 0, .own 6 (List.replicate (((a0_caps).length : Int)).toNat (0 : Int)).length, .own 4 (List.replicate (((a0_caps).length : Int)).toNat (false : Bool)).length, .own 5 (List.replicate (((a0_caps).length : Int)).toNat (0 : Int)).length]
 let ob33 : Ob := .box [vI a0_caps, .fnp 31 0, .own 7 (List.replicate (((a0_caps).length : Int)).toNat (0 : Int)).length, .own 4 (List.replicate (((a0_caps).length : Int)).toNat (false : Bool)).length, .own 5 (List.replicate (((a0_caps).length : Int)).toNat (0 : Int)).length]
 let ob35 : Ob := .box [vI a0_caps, .fnp 31 0, .own 6 (List.replicate (((a0_caps).length : Int)).toNat (0 : Int)).length, .own 4 (List.replicate (((a0_caps).length : Int)).toNat (false : Bool)).length, .own 7 (List.replicate (((a0_caps).length : Int)).toNat (0 : Int)).length]
 let ob37 : Ob := .box [vI a0_caps, .fnp 31 0, .own 7 (List.replicate (((a0_caps).length : Int)).toNat (0 : Int)).length, .own 4 (List.replicate (((a0_caps).length : Int)).toNat (false : Bool)).length, .own 6 (List.replicate (((a0_caps).length : Int)).toNat (0 : Int)).length]
 let ob39 : Ob := .box [vI a0_caps, .fnp 31 0, .own 5 (List.replicate (((a0_caps).length : Int)).toNat (0 : Int)).length, .own 6 (List.replicate (((a0_caps).length : Int)).toNat (false : Bool)).length, .own 4 (List.replicate (((a0_caps).length : Int)).toNat (0 : Int)).length]
 let ob41 : Ob := .box [vI a0_caps, .fnp 31 0, .own 5 (List.replicate (((a0_caps).length : Int)).toNat (0 : Int)).length, .own 7 (List.replicate (((a0_caps).length : Int)).toNat (false : Bool)).length, .own 4 (List.replicate (((a0_caps).length : Int)).toNat (0 : Int)).length]
 let ob43 : Ob := .box [vI a0_caps, .fnp 31 0, .own 6 (List.replicate (((a0_caps).length : Int)).toNat (0 : Int)).length, .own 5 (List.replicate (((a0_caps).length : Int)).toNat (false : Bool)).length, .own 4 (List.replicate (((a0_caps).length : Int)).toNat (0 : Int)).length]
 let ob45 : Ob := .box [vI a0_caps, .fnp 31 0, .own 7 (List.replicate (((a0_caps).length : Int)).toNat (0 : Int)).length, .own 5 (List.replicate (((a0_caps).length : Int)).toNat (false : Bool)).length, .own 4 (List.replicate (((a0_caps).length : Int)).toNat (0 : Int)).length]
 let ob47 : Ob := .box [vI a0_caps, .fnp 31 0, .own 6 (List.replicate (((a0_caps).length : Int)).toNat (0 : Int)).length, .own 7 (List.replicate (((a0_caps).length : Int)).toNat (false : Bool)).length, .own 4 (List.replicate (((a0_caps).length : Int)).toNat (0 : Int)).length]
 let ob49 : Ob := .box [vI a0_caps, .fnp 31 0, .own 7 (List.replicate (((a0_caps).length : Int)).toNat (0 : Int)).length, .own 6 (List.replicate (((a0_caps).length : Int)).toNat (false : Bool)).length, .own 4 (List.replicate (((a0_caps).length : Int)).toNat (0 : Int)).length]
 let ob51 : Ob := .box [vI a0_caps, .fnp 31 0, .own 5 (List.replicate (((a0_caps).length : Int)).toNat (0 : Int)).length, .own 6 (List.replicate (((a0_caps).length : Int)).toNat (false : Bool)).length, .own 7 (List.replicate (((a0_caps).length : Int)).toNat (0 : Int)).length]
 let ob53 : Ob := .box [vI a0_caps, .fnp 31 0, .own 5 (List.replicate (((a0_caps).length : Int)).toNat (0 : Int)).length, .own 7 (List.replicate (((a0_caps).length : Int)).toNat (false : Bool)).length, .own 6 (List.replicate (((a0_caps).length : Int)).toNat (0 : Int)).length]
 let ob55 : Ob := .box [vI a0_caps, .fnp 31 0, .own 6 (List.replicate (((a0_caps).length : Int)).toNat (0 : Int)).length, .own 5 (List.replicate (((a0_caps).length : Int)).toNat (false : Bool)).length, .own 7 (List.replicate (((a0_caps).length : Int)).toNat (0 : Int)).length]
 let ob57 : Ob := .box [vI a0_caps, .fnp 31 0, .own 7 (List.replicate (((a0_caps).length : Int)).toNat (0 : Int)).length, .own 5 (List.replicate (((a0_caps).length : Int)).toNat (false : Bool)).length, .own 6 (List.replicate (((a0_caps).length : Int)).toNat (0 : Int)).length]
 let ob59 : Ob := .box [vI a0_caps, .fnp 31 0, .own 6 (List.replicate (((a0_caps).length : Int)).toNat (0 : Int)).length, .own 7 (List.replicate (((a0_caps).length : Int)).toNat (false : Bool)).length, .own 5 (List.replicate (((a0_caps).length : Int)).toNat (0 : Int)).length]
 let ob61 : Ob := .box [vI a0_caps, .fnp 31 0, .own 7 (List.replicate (((a0_caps).length : Int)).toNat (0 : Int)).length, .own 6 (List.replicate (((a0_caps).length : Int)).toNat (false : Bool)).length, .own 5 (List.replicate (((a0_caps).length : Int)).toNat (0 : Int)).length]
 let av4 : AV := .c (.own 4 (List.replicate (((a0_caps).length : Int)).toNat (0 : Int)).length)
 let av6 : AV := .c (.own 5 (List.replicate (((a0_caps).length : Int)).toNat (false : Bool)).length)
 let av7 : AV := .c (.own 6 (List.replicate (((a0_caps).length : Int)).toNat (0 : Int)).length)
 let av8 : AV := .a [vI a0_caps, .fnp 31 0, .own 4 (List.replicate (((a0_caps).length : Int)).toNat (0 : Int)).length, .own 5 (List.replicate (((a0_caps).length : Int)).toNat (false : Bool)).length, .own 6 (List.replicate (((a0_caps).length : Int)).toNat (0 : Int)).length]
 let av11 : AV := .c (.own 7 (List.replicate (((a0_caps).length : Int)).toNat (0 : Int)).length)
 let av12 : AV := .a [vI a0_caps, .fnp 31 0, .own 4 (List.replicate (((a0_caps).length : Int)).toNat (0 : Int)).length, .own 5 (List.replicate (((a0_caps).length : Int)).toNat (false : Bool)).length, .own 7 (List.replicate (((a0_caps).length : Int)).toNat (0 : Int)).length]
 let av14 : AV := .c (.own 5 (List.replicate (((a0_caps).length : Int)).toNat (0 : Int)).length)
 let av15 : AV := .c (.own 6 (List.replicate (((a0_caps).length : Int)).toNat (false : Bool)).length)
 let av16 : AV := .a [vI a0_caps, .fnp 31 0, .own 4 (List.replicate (((a0_caps).length : Int)).toNat (0 : Int)).length, .own 6 (List.replicate (((a0_caps).length : Int)).toNat (false : Bool)).length, .own 5 (List.replicate (((a0_caps).length : Int)).toNat (0 : Int)).length]
 let av18 : AV := .c (.own 7 (List.replicate (((a0_caps).length : Int)).toNat (false : Bool)).length)
 let av19 : AV := .a [vI a0_caps, .fnp 31 0, .own 4 (List.replicate (((a0_caps).length : Int)).toNat (0 : Int)).length, .own 7 (List.replicate (((a0_caps).length : Int)).toNat (false : Bool)).length, .own 5 (List.replicate (((a0_caps).length : Int)).toNat (0 : Int)).length]
 let av21 : AV := .a [vI a0_caps, .fnp 31 0, .own 4 (List.replicate (((a0_caps).length : Int)).toNat (0 : Int)).length, .own 6 (List.replicate (((a0_caps).length : Int)).toNat (false : Bool)).length, .own 7 (List.replicate (((a0_caps).length : Int)).toNat (0 : Int)).length]
 let av23 : AV := .a [vI a0_caps, .fnp 31 0, .own 4 (List.replicate (((a0_caps).length : Int)).toNat (0 : Int)).length, .own 7 (List.replicate (((a0_caps).length : Int)).toNat (false : Bool)).length, .own 6 (List.replicate (((a0_caps).length : Int)).toNat (0 : Int)).length]
 let av25 : AV := .c (.own 4 (List.replicate (((a0_caps).length : Int)).toNat (false : Bool)).length)
 let av26 : AV := .a [vI a0_caps, .fnp 31 0, .own 5 (List.replicate (((a0_caps).length : Int)).toNat (0 : Int)).length, .own 4 (List.replicate (((a0_caps).length : Int)).toNat (false : Bool)).length, .own 6 (List.replicate (((a0_caps).length : Int)).toNat (0 : Int)).length]
 let av28 : AV := .a [vI a0_caps, .fnp 31 0, .own 5 (List.replicate (((a0_caps).length : Int)).toNat (0 : Int)).length, .own 4 (List.replicate (((a0_caps).length : Int)).toNat (false : Bool)).length, .own 7 (List.replicate (((a0_caps).length : Int)).toNat (0 : Int)).length]
 let av30 : AV := .a [vI a0_caps, .fnp 31 0, .own 6 (List.replicate (((a0_caps).length : Int)).toNat (0 : Int)).length, .own 4 (List.replicate (((a0_caps).length : Int)).toNat (false : Bool)).length, .own 5 (List.replicate (((a0_caps).length : Int)).toNat (0 : Int)).length]
 let av32 : AV := .a [vI a0_caps, .fnp 31 0, .own 7 (List.replicate (((a0_caps).length : Int)).toNat (0 : Int)).length, .own 4 (List.replicate (((a0_caps).length : Int)).toNat (false : Bool)).length, .own 5 (List.replicate (((a0_caps).length : Int)).toNat (0 : Int)).length]
 let av34 : AV := .a [vI a0_caps, .fnp 31 0, .own 6 (List.replicate (((a0_caps).length : Int)).toNat (0 : Int)).length, .own 4 (List.replicate (((a0_caps).length : Int)).toNat (false : Bool)).length, .own 7 (List.replicate (((a0_caps).length : Int)).toNat (0 : Int)).length]
 let av36 : AV := .a [vI a0_caps, .fnp 31 0, .own 7 (List.replicate (((a0_caps).length : Int)).toNat (0 : Int)).length, .own 4 (List.replicate (((a0_caps).length : Int)).toNat (false : Bool)).length, .own 6 (List.replicate (((a0_caps).length : Int)).toNat (0 : Int)).length]
 let av38 : AV := .a [vI a0_caps, .fnp 31 0, .own 5 (List.replicate (((a0_caps).length : Int)).toNat (0 : Int)).length, .own 6 (List.replicate (((a0_caps).length : Int)).toNat (false : Bool)).length, .own 4 (List.replicate (((a0_caps).length : Int)).toNat (0 : Int)).length]
 let av40 : AV := .a [vI a0_caps, .fnp 31 0, .own 5 (List.replicate (((a0_caps).length : Int)).toNat (0 : Int)).length, .own 7 (List.replicate (((a0_caps).length : Int)).toNat (false : Bool)).length, .own 4 (List.replicate (((a0_caps).length : Int)).toNat (0 : Int)).length]
 let av42 : AV := .a [vI a0_caps, .fnp 31 0, .own 6 (List.replicate (((a0_caps).length : Int)).toNat (0 : Int)).length, .own 5 (List.replicate (((a0_caps).length : Int)).toNat (false : Bool)).length, .own 4 (List.replicate (((a0_caps).length : Int)).toNat (0 : Int)).length]
 let av44 : AV := .a [vI a0_caps, .fnp 31 0, .own 7 (List.replicate (((a0_caps).length : Int)).toNat (0 : Int)).length, .own 5 (List.replicate (((a0_caps).length : Int)).toNat (false : Bool)).length, .own 4 (List.replicate (((a0_caps).length : Int)).toNat (0 : Int)).length]
 let av46 : AV := .a [vI a0_caps, .fnp 31 0, .own 6 (List.replicate (((a0_caps).length : Int)).toNat (0 : Int)).length, .own 7 (List.replicate (((a0_caps).length : Int)).toNat (false : Bool)).length, .own 4 (List.replicate (((a0_caps).length : Int)).toNat (0 : Int)).length]
 let av48 : AV := .a [vI a0_caps, .fnp 31 0, .own 7 (List.replicate (((a0_caps).length : Int)).toNat (0 : Int)).length, .own 6 (List.replicate (((a0_caps).length : Int)).toNat (false : Bool)).length, .own 4 (List.replicate (((a0_caps).length : Int)).toNat (0 : Int)).length]
 let av50 : AV := .a [vI a0_caps, .fnp 31 0, .own 5 (List.replicate (((a0_caps).length : Int)).toNat (0 : Int)).length, .own 6 (List.replicate (((a0_caps).length : Int)).toNat (false : Bool)).length, .own 7 (List.replicate (((a0_caps).length : Int)).toNat (0 : Int)).length]
 let av52 : AV := .a [vI a0_caps, .fnp 31 0, .own 5 (List.replicate (((a0_caps).length : Int)).toNat (0 : Int)).length, .own 7 (List.replicate (((a0_caps).length : Int)).toNat (false : Bool)).length, .own 6 (List.replicate (((a0_caps).length : Int)).toNat (0 : Int)).length]
 let av54 : AV := .a [vI a0_caps, .fnp 31 0, .own 6 (List.replicate (((a0_caps).length : Int)).toNat (0 : Int)).length, .own 5 (List.replicate (((a0_caps).length : Int)).toNat (false : Bool)).length, .own 7 (List.replicate (((a0_caps).length : Int)).toNat (0 : Int)).length]
 let av56 : AV := .a [vI a0_caps, .fnp 31 0, .own 7 (List.replicate (((a0_caps).length : Int)).toNat (0 : Int)).length, .own 5 (List.replicate (((a0_caps).length : Int)).toNat (false : Bool)).length, .own 6 (List.replicate (((a0_caps).length : Int)).toNat (0 : Int)).length]
 let av58 : AV := .a [vI a0_caps, .fnp 31 0, .own 6 (List.replicate (((a0_caps).length : Int)).toNat (0 : Int)).length, .own 7 (List.replicate (((a0_caps).length : Int)).toNat (false : Bool)).length, .own 5 (List.replicate (((a0_caps).length : Int)).toNat (0 : Int)).length]
 let av60 : AV := .a [vI a0_caps, .fnp 31 0, .own 7 (List.replicate (((a0_caps).length : Int)).toNat (0 : Int)).length, .own 6 (List.replicate (((a0_caps).length : Int)).toNat (false : Bool)).length, .own 5 (List.replicate (((a0_caps).length : Int)).toNat (0 : Int)).length]
 refine SCode.draw2 (sH := [(26, ci (((a0_caps).length : Int))), (24, ci (((a0_caps).length : Int))), (22, ci (((a0_caps).length : Int))), (21, .c (.fnp 31 0)), (20, .c (vI a0_caps)), (0, .c (vI a0_caps)), (1, .c (.fnp 31 0)), (4, .c (.ptr 2 0)), (5, .c (.ptr 3 0)), (7, ci (((a0_caps).length : Int)))]) mixed [[], [], [], [2], [], [4], [], [6], [0, 1, 2, 3, 4, 5, 6, 7], [], [0, 1, 2, 3, 4, 5, 6, 7, 8, 9]] [3, 5, 7, 8, 9, 10] (fun h => List.getD ([] : List (List Nat)) h []) rfl ?_ ⟨[(1, .c (.fnp 31 0)), (4, .c (.ptr 2 0)), (5, .c (.ptr 3 0)), (7, ci (((a0_caps).length : Int))), (8, .c (.ptr 4 0))], [.box [.int .i64 a1b_Nodes, .own 1 a1b_Arcs.length], aSArc 63 a1b_Arcs, .box [.raw (.slice none 0 0)], .box [.int .i64 0], .box [vI a0_caps, .fnp 31 0, .own 5 (List.replicate (((a0_caps).length : Int)).toNat (0 : Int)).length, .own 6 (List.replicate (((a0_caps).length : Int)).toNat (false : Bool)).length, .own 7 (List.replicate (((a0_caps).length : Int)).toNat (0 : Int)).length], aI 3 (List.replicate (((a0_caps).length : Int)).toNat (0 : Int)), aB 4 (List.replicate (((a0_caps).length : Int)).toNat (false : Bool)), aI 3 (List.replicate (((a0_caps).length : Int)).toNat (0 : Int))]⟩ ?_ ?_
 ·refine HChain.run rfl rfl (.plain rfl) rfl (fun f x => q_move rfl rfl) (HChain.run rfl rfl (.plain rfl) rfl (fun f x => q_move rfl rfl) (HChain.run rfl rfl (.plain rfl) rfl (fun f x => q_move rfl rfl) (HChain.tail rfl (HChain.run rfl rfl (.plain rfl) rfl (fun f x => q_move rfl rfl) (HChain.tail rfl (HChain.run rfl rfl (.plain rfl) rfl (fun f x => q_move rfl rfl) (HChain.tail rfl (HChain.tail rfl (HChain.tail rfl ?_)))))))))
  refine HChain.tail rfl ?_
  exact HChain.nil _ _
 ·refine TTree.node 3 [5, 7, 9] rfl ?_
  refine AllP.cons ?_ ?_
  ·refine TStep.d (objs' := [ob1, aSArc 63 a1b_Arcs, ob2, .box [.int .i64 0], ob3]) (v := av4) [] 23 rfl rfl rfl rfl rfl (fun s2 => by refine EOp.eq (e_makeL (c := (cInt .i64)) (d0 := 0) rfl rfl rfl rfl rfl sl22 z3 rfl rfl rfl g4.1 (Int.le_refl _) g4.2.1 g4.2.2) ?_; rfl) ?_
   refine ⟨rfl, ⟨⟨⟨⟨trivial, .inr rfl⟩, .inr rfl⟩, .inr rfl⟩, .inr rfl⟩, ?_⟩
   refine TTree.node 5 [7, 9] rfl ?_
   refine AllP.cons ?_ ?_
   ·refine TStep.d (objs' := [ob1, aSArc 63 a1b_Arcs, ob2, .box [.int .i64 0], ob3, ob5]) (v := av6) [] 25 rfl rfl rfl rfl rfl (fun s2 => by refine EOp.eq (e_makeL (c := cBool) (d0 := false) rfl rfl rfl rfl rfl sl53 z4 rfl rfl rfl g5.1 (Int.le_refl _) g5.2.1 g5.2.2) ?_; rfl) ?_
    refine ⟨rfl, ⟨⟨⟨⟨trivial, .inr rfl⟩, .inr rfl⟩, .inr rfl⟩, .inr rfl⟩, ?_⟩
    refine TTree.node 7 [9] rfl ?_
    refine AllP.cons ?_ ?_
    ·refine TStep.d (objs' := [ob1, aSArc 63 a1b_Arcs, ob2, .box [.int .i64 0], ob3, ob5, ob3]) (v := av7) [] 27 rfl rfl rfl rfl rfl (fun s2 => by refine EOp.eq (e_makeL (c := (cInt .i64)) (d0 := 0) rfl rfl rfl rfl rfl sl22 z3 rfl rfl rfl g6.1 (Int.le_refl _) g6.2.1 g6.2.2) ?_; rfl) ?_
     refine ⟨rfl, ⟨⟨⟨⟨trivial, .inr rfl⟩, .inr rfl⟩, .inr rfl⟩, .inr rfl⟩, ?_⟩
     refine TTree.node 8 [9] rfl ?_
     refine AllP.cons ?_ ?_
     ·refine TStep.d (objs' := [ob1, aSArc 63 a1b_Arcs, ob2, .box [.int .i64 0], ob3, ob5, ob3]) (v := av8) [] 28 rfl rfl rfl rfl rfl (fun s2 => by refine EOp.eq (EOp.qd rfl rfl (q_build2 rfl rfl pl68 rfl)) ?_; rfl) ?_
      refine ⟨rfl, ⟨⟨⟨⟨trivial, .inr rfl⟩, .inr rfl⟩, .inr rfl⟩, .inr rfl⟩, ?_⟩
      refine TTree.node 9 [] rfl ?_
      refine AllP.cons ?_ ?_
      ·refine TStep.d (objs' := [ob1, aSArc 63 a1b_Arcs, ob2, .box [.int .i64 0], ob3, ob5, ob3, ob9]) (v := .c (.ptr 7 0)) [] 8 rfl rfl rfl rfl rfl (fun s2 => by refine EOp.eq (e_alloc rfl rfl rfl z68) ?_; rfl) ?_
       refine ⟨rfl, ⟨⟨⟨⟨trivial, .inr rfl⟩, .inr rfl⟩, .inr rfl⟩, .inr rfl⟩, ?_⟩
       refine TTree.node 10 [] rfl ?_
       refine AllP.cons ?_ ?_
       ·refine TStep.n (objs' := [ob1, aSArc 63 a1b_Arcs, ob2, .box [.int .i64 0], ob3, ob5, ob3, ob10]) [] rfl rfl rfl rfl (fun s2 => by refine EOp.eq (e_store_box rfl rfl rfl rfl rfl ty68 rfl rfl rfl rfl) ?_; rfl) ?_
        refine ⟨rfl, ⟨⟨⟨⟨trivial, .inr rfl⟩, .inr rfl⟩, .inr rfl⟩, .inr rfl⟩, ?_⟩
        exact TTree.leaf rfl (sub_gen [0, 1, 2, 3, 7, 4, 5, 6] rfl rfl (zall rfl rfl) ⟨bx rfl rfl rfl, oa rfl, bx rfl rfl rfl, bx rfl rfl rfl, bx rfl rfl rfl, oa rfl, oa rfl, oa rfl, trivial⟩)
       exact AllP.nil
      exact AllP.nil
     refine AllP.cons ?_ ?_
     ·refine TStep.d (objs' := [ob1, aSArc 63 a1b_Arcs, ob2, .box [.int .i64 0], ob3, ob5, ob3, ob9]) (v := .c (.ptr 7 0)) [] 8 rfl rfl rfl rfl rfl (fun s2 => by refine EOp.eq (e_alloc rfl rfl rfl z68) ?_; rfl) ?_
      refine ⟨rfl, ⟨⟨⟨⟨trivial, .inr rfl⟩, .inr rfl⟩, .inr rfl⟩, .inr rfl⟩, ?_⟩
      refine TTree.node 8 [] rfl ?_
      refine AllP.cons ?_ ?_
      ·refine TStep.d (objs' := [ob1, aSArc 63 a1b_Arcs, ob2, .box [.int .i64 0], ob3, ob5, ob3, ob9]) (v := av8) [] 28 rfl rfl rfl rfl rfl (fun s2 => by refine EOp.eq (EOp.qd rfl rfl (q_build2 rfl rfl pl68 rfl)) ?_; rfl) ?_
       refine ⟨rfl, ⟨⟨⟨⟨trivial, .inr rfl⟩, .inr rfl⟩, .inr rfl⟩, .inr rfl⟩, ?_⟩
       refine TTree.node 10 [] rfl ?_
       refine AllP.cons ?_ ?_
       ·refine TStep.n (objs' := [ob1, aSArc 63 a1b_Arcs, ob2, .box [.int .i64 0], ob3, ob5, ob3, ob10]) [] rfl rfl rfl rfl (fun s2 => by refine EOp.eq (e_store_box rfl rfl rfl rfl rfl ty68 rfl rfl rfl rfl) ?_; rfl) ?_
        refine ⟨rfl, ⟨⟨⟨⟨trivial, .inr rfl⟩, .inr rfl⟩, .inr rfl⟩, .inr rfl⟩, ?_⟩
        exact TTree.leaf rfl (sub_gen [0, 1, 2, 3, 7, 4, 5, 6] rfl rfl (zall rfl rfl) ⟨bx rfl rfl rfl, oa rfl, bx rfl rfl rfl, bx rfl rfl rfl, bx rfl rfl rfl, oa rfl, oa rfl, oa rfl, trivial⟩)
       exact AllP.nil
      exact AllP.nil
     exact AllP.nil
    refine AllP.cons ?_ ?_
    ·refine TStep.d (objs' := [ob1, aSArc 63 a1b_Arcs, ob2, .box [.int .i64 0], ob3, ob5, ob9]) (v := .c (.ptr 6 0)) [] 8 rfl rfl rfl rfl rfl (fun s2 => by refine EOp.eq (e_alloc rfl rfl rfl z68) ?_; rfl) ?_
     refine ⟨rfl, ⟨⟨⟨⟨trivial, .inr rfl⟩, .inr rfl⟩, .inr rfl⟩, .inr rfl⟩, ?_⟩
     refine TTree.node 7 [] rfl ?_
     refine AllP.cons ?_ ?_
     ·refine TStep.d (objs' := [ob1, aSArc 63 a1b_Arcs, ob2, .box [.int .i64 0], ob3, ob5, ob9, ob3]) (v := av11) [] 27 rfl rfl rfl rfl rfl (fun s2 => by refine EOp.eq (e_makeL (c := (cInt .i64)) (d0 := 0) rfl rfl rfl rfl rfl sl22 z3 rfl rfl rfl g6.1 (Int.le_refl _) g6.2.1 g6.2.2) ?_; rfl) ?_
      refine ⟨rfl, ⟨⟨⟨⟨trivial, .inr rfl⟩, .inr rfl⟩, .inr rfl⟩, .inr rfl⟩, ?_⟩
      refine TTree.node 8 [] rfl ?_
      refine AllP.cons ?_ ?_
      ·refine TStep.d (objs' := [ob1, aSArc 63 a1b_Arcs, ob2, .box [.int .i64 0], ob3, ob5, ob9, ob3]) (v := av12) [] 28 rfl rfl rfl rfl rfl (fun s2 => by refine EOp.eq (EOp.qd rfl rfl (q_build2 rfl rfl pl68 rfl)) ?_; rfl) ?_
       refine ⟨rfl, ⟨⟨⟨⟨trivial, .inr rfl⟩, .inr rfl⟩, .inr rfl⟩, .inr rfl⟩, ?_⟩
       refine TTree.node 10 [] rfl ?_
       refine AllP.cons ?_ ?_
       ·refine TStep.n (objs' := [ob1, aSArc 63 a1b_Arcs, ob2, .box [.int .i64 0], ob3, ob5, ob13, ob3]) [] rfl rfl rfl rfl (fun s2 => by refine EOp.eq (e_store_box rfl rfl rfl rfl rfl ty68 rfl rfl rfl rfl) ?_; rfl) ?_
        refine ⟨rfl, ⟨⟨⟨⟨trivial, .inr rfl⟩, .inr rfl⟩, .inr rfl⟩, .inr rfl⟩, ?_⟩
        exact TTree.leaf rfl (sub_gen [0, 1, 2, 3, 6, 4, 5, 7] rfl rfl (zall rfl rfl) ⟨bx rfl rfl rfl, oa rfl, bx rfl rfl rfl, bx rfl rfl rfl, bx rfl rfl rfl, oa rfl, oa rfl, oa rfl, trivial⟩)
       exact AllP.nil
      exact AllP.nil
     exact AllP.nil
    exact AllP.nil
   refine AllP.cons ?_ ?_
   ·refine TStep.d (objs' := [ob1, aSArc 63 a1b_Arcs, ob2, .box [.int .i64 0], ob3, ob3]) (v := av14) [] 27 rfl rfl rfl rfl rfl (fun s2 => by refine EOp.eq (e_makeL (c := (cInt .i64)) (d0 := 0) rfl rfl rfl rfl rfl sl22 z3 rfl rfl rfl g6.1 (Int.le_refl _) g6.2.1 g6.2.2) ?_; rfl) ?_
    refine ⟨rfl, ⟨⟨⟨⟨trivial, .inr rfl⟩, .inr rfl⟩, .inr rfl⟩, .inr rfl⟩, ?_⟩
    refine TTree.node 5 [9] rfl ?_
    refine AllP.cons ?_ ?_
    ·refine TStep.d (objs' := [ob1, aSArc 63 a1b_Arcs, ob2, .box [.int .i64 0], ob3, ob3, ob5]) (v := av15) [] 25 rfl rfl rfl rfl rfl (fun s2 => by refine EOp.eq (e_makeL (c := cBool) (d0 := false) rfl rfl rfl rfl rfl sl53 z4 rfl rfl rfl g5.1 (Int.le_refl _) g5.2.1 g5.2.2) ?_; rfl) ?_
     refine ⟨rfl, ⟨⟨⟨⟨trivial, .inr rfl⟩, .inr rfl⟩, .inr rfl⟩, .inr rfl⟩, ?_⟩
     refine TTree.node 8 [9] rfl ?_
     refine AllP.cons ?_ ?_
     ·refine TStep.d (objs' := [ob1, aSArc 63 a1b_Arcs, ob2, .box [.int .i64 0], ob3, ob3, ob5]) (v := av16) [] 28 rfl rfl rfl rfl rfl (fun s2 => by refine EOp.eq (EOp.qd rfl rfl (q_build2 rfl rfl pl68 rfl)) ?_; rfl) ?_
      refine ⟨rfl, ⟨⟨⟨⟨trivial, .inr rfl⟩, .inr rfl⟩, .inr rfl⟩, .inr rfl⟩, ?_⟩
      refine TTree.node 9 [] rfl ?_
      refine AllP.cons ?_ ?_
      ·refine TStep.d (objs' := [ob1, aSArc 63 a1b_Arcs, ob2, .box [.int .i64 0], ob3, ob3, ob5, ob9]) (v := .c (.ptr 7 0)) [] 8 rfl rfl rfl rfl rfl (fun s2 => by refine EOp.eq (e_alloc rfl rfl rfl z68) ?_; rfl) ?_
       refine ⟨rfl, ⟨⟨⟨⟨trivial, .inr rfl⟩, .inr rfl⟩, .inr rfl⟩, .inr rfl⟩, ?_⟩
       refine TTree.node 10 [] rfl ?_
       refine AllP.cons ?_ ?_
       ·refine TStep.n (objs' := [ob1, aSArc 63 a1b_Arcs, ob2, .box [.int .i64 0], ob3, ob3, ob5, ob17]) [] rfl rfl rfl rfl (fun s2 => by refine EOp.eq (e_store_box rfl rfl rfl rfl rfl ty68 rfl rfl rfl rfl) ?_; rfl) ?_
        refine ⟨rfl, ⟨⟨⟨⟨trivial, .inr rfl⟩, .inr rfl⟩, .inr rfl⟩, .inr rfl⟩, ?_⟩
        exact TTree.leaf rfl (sub_gen [0, 1, 2, 3, 7, 4, 6, 5] rfl rfl (zall rfl rfl) ⟨bx rfl rfl rfl, oa rfl, bx rfl rfl rfl, bx rfl rfl rfl, bx rfl rfl rfl, oa rfl, oa rfl, oa rfl, trivial⟩)
       exact AllP.nil
      exact AllP.nil
     refine AllP.cons ?_ ?_
     ·refine TStep.d (objs' := [ob1, aSArc 63 a1b_Arcs, ob2, .box [.int .i64 0], ob3, ob3, ob5, ob9]) (v := .c (.ptr 7 0)) [] 8 rfl rfl rfl rfl rfl (fun s2 => by refine EOp.eq (e_alloc rfl rfl rfl z68) ?_; rfl) ?_
      refine ⟨rfl, ⟨⟨⟨⟨trivial, .inr rfl⟩, .inr rfl⟩, .inr rfl⟩, .inr rfl⟩, ?_⟩
      refine TTree.node 8 [] rfl ?_
      refine AllP.cons ?_ ?_
      ·refine TStep.d (objs' := [ob1, aSArc 63 a1b_Arcs, ob2, .box [.int .i64 0], ob3, ob3, ob5, ob9]) (v := av16) [] 28 rfl rfl rfl rfl rfl (fun s2 => by refine EOp.eq (EOp.qd rfl rfl (q_build2 rfl rfl pl68 rfl)) ?_; rfl) ?_
       refine ⟨rfl, ⟨⟨⟨⟨trivial, .inr rfl⟩, .inr rfl⟩, .inr rfl⟩, .inr rfl⟩, ?_⟩
       refine TTree.node 10 [] rfl ?_
       refine AllP.cons ?_ ?_
       ·refine TStep.n (objs' := [ob1, aSArc 63 a1b_Arcs, ob2, .box [.int .i64 0], ob3, ob3, ob5, ob17]) [] rfl rfl rfl rfl (fun s2 => by refine EOp.eq (e_store_box rfl rfl rfl rfl rfl ty68 rfl rfl rfl rfl) ?_; rfl) ?_
        refine ⟨rfl, ⟨⟨⟨⟨trivial, .inr rfl⟩, .inr rfl⟩, .inr rfl⟩, .inr rfl⟩, ?_⟩
        exact TTree.leaf rfl (sub_gen [0, 1, 2, 3, 7, 4, 6, 5] rfl rfl (zall rfl rfl) ⟨bx rfl rfl rfl, oa rfl, bx rfl rfl rfl, bx rfl rfl rfl, bx rfl rfl rfl, oa rfl, oa rfl, oa rfl, trivial⟩)
       exact AllP.nil
      exact AllP.nil
     exact AllP.nil
    refine AllP.cons ?_ ?_
    ·refine TStep.d (objs' := [ob1, aSArc 63 a1b_Arcs, ob2, .box [.int .i64 0], ob3, ob3, ob9]) (v := .c (.ptr 6 0)) [] 8 rfl rfl rfl rfl rfl (fun s2 => by refine EOp.eq (e_alloc rfl rfl rfl z68) ?_; rfl) ?_
     refine ⟨rfl, ⟨⟨⟨⟨trivial, .inr rfl⟩, .inr rfl⟩, .inr rfl⟩, .inr rfl⟩, ?_⟩
     refine TTree.node 5 [] rfl ?_
     refine AllP.cons ?_ ?_
     ·refine TStep.d (objs' := [ob1, aSArc 63 a1b_Arcs, ob2, .box [.int .i64 0], ob3, ob3, ob9, ob5]) (v := av18) [] 25 rfl rfl rfl rfl rfl (fun s2 => by refine EOp.eq (e_makeL (c := cBool) (d0 := false) rfl rfl rfl rfl rfl sl53 z4 rfl rfl rfl g5.1 (Int.le_refl _) g5.2.1 g5.2.2) ?_; rfl) ?_
      refine ⟨rfl, ⟨⟨⟨⟨trivial, .inr rfl⟩, .inr rfl⟩, .inr rfl⟩, .inr rfl⟩, ?_⟩
      refine TTree.node 8 [] rfl ?_
      refine AllP.cons ?_ ?_
      ·refine TStep.d (objs' := [ob1, aSArc 63 a1b_Arcs, ob2, .box [.int .i64 0], ob3, ob3, ob9, ob5]) (v := av19) [] 28 rfl rfl rfl rfl rfl (fun s2 => by refine EOp.eq (EOp.qd rfl rfl (q_build2 rfl rfl pl68 rfl)) ?_; rfl) ?_
       refine ⟨rfl, ⟨⟨⟨⟨trivial, .inr rfl⟩, .inr rfl⟩, .inr rfl⟩, .inr rfl⟩, ?_⟩
       refine TTree.node 10 [] rfl ?_
       refine AllP.cons ?_ ?_
       ·refine TStep.n (objs' := [ob1, aSArc 63 a1b_Arcs, ob2, .box [.int .i64 0], ob3, ob3, ob20, ob5]) [] rfl rfl rfl rfl (fun s2 => by refine EOp.eq (e_store_box rfl rfl rfl rfl rfl ty68 rfl rfl rfl rfl) ?_; rfl) ?_
        refine ⟨rfl, ⟨⟨⟨⟨trivial, .inr rfl⟩, .inr rfl⟩, .inr rfl⟩, .inr rfl⟩, ?_⟩
        exact TTree.leaf rfl (sub_gen [0, 1, 2, 3, 6, 4, 7, 5] rfl rfl (zall rfl rfl) ⟨bx rfl rfl rfl, oa rfl, bx rfl rfl rfl, bx rfl rfl rfl, bx rfl rfl rfl, oa rfl, oa rfl, oa rfl, trivial⟩)
       exact AllP.nil
      exact AllP.nil
     exact AllP.nil
    exact AllP.nil
   refine AllP.cons ?_ ?_
   ·refine TStep.d (objs' := [ob1, aSArc 63 a1b_Arcs, ob2, .box [.int .i64 0], ob3, ob9]) (v := .c (.ptr 5 0)) [] 8 rfl rfl rfl rfl rfl (fun s2 => by refine EOp.eq (e_alloc rfl rfl rfl z68) ?_; rfl) ?_
    refine ⟨rfl, ⟨⟨⟨⟨trivial, .inr rfl⟩, .inr rfl⟩, .inr rfl⟩, .inr rfl⟩, ?_⟩
    refine TTree.node 5 [7] rfl ?_
    refine AllP.cons ?_ ?_
    ·refine TStep.d (objs' := [ob1, aSArc 63 a1b_Arcs, ob2, .box [.int .i64 0], ob3, ob9, ob5]) (v := av15) [] 25 rfl rfl rfl rfl rfl (fun s2 => by refine EOp.eq (e_makeL (c := cBool) (d0 := false) rfl rfl rfl rfl rfl sl53 z4 rfl rfl rfl g5.1 (Int.le_refl _) g5.2.1 g5.2.2) ?_; rfl) ?_
     refine ⟨rfl, ⟨⟨⟨⟨trivial, .inr rfl⟩, .inr rfl⟩, .inr rfl⟩, .inr rfl⟩, ?_⟩
     refine TTree.node 7 [] rfl ?_
     refine AllP.cons ?_ ?_
     ·refine TStep.d (objs' := [ob1, aSArc 63 a1b_Arcs, ob2, .box [.int .i64 0], ob3, ob9, ob5, ob3]) (v := av11) [] 27 rfl rfl rfl rfl rfl (fun s2 => by refine EOp.eq (e_makeL (c := (cInt .i64)) (d0 := 0) rfl rfl rfl rfl rfl sl22 z3 rfl rfl rfl g6.1 (Int.le_refl _) g6.2.1 g6.2.2) ?_; rfl) ?_
      refine ⟨rfl, ⟨⟨⟨⟨trivial, .inr rfl⟩, .inr rfl⟩, .inr rfl⟩, .inr rfl⟩, ?_⟩
      refine TTree.node 8 [] rfl ?_
      refine AllP.cons ?_ ?_
      ·refine TStep.d (objs' := [ob1, aSArc 63 a1b_Arcs, ob2, .box [.int .i64 0], ob3, ob9, ob5, ob3]) (v := av21) [] 28 rfl rfl rfl rfl rfl (fun s2 => by refine EOp.eq (EOp.qd rfl rfl (q_build2 rfl rfl pl68 rfl)) ?_; rfl) ?_
       refine ⟨rfl, ⟨⟨⟨⟨trivial, .inr rfl⟩, .inr rfl⟩, .inr rfl⟩, .inr rfl⟩, ?_⟩
       refine TTree.node 10 [] rfl ?_
       refine AllP.cons ?_ ?_
       ·refine TStep.n (objs' := [ob1, aSArc 63 a1b_Arcs, ob2, .box [.int .i64 0], ob3, ob22, ob5, ob3]) [] rfl rfl rfl rfl (fun s2 => by refine EOp.eq (e_store_box rfl rfl rfl rfl rfl ty68 rfl rfl rfl rfl) ?_; rfl) ?_
        refine ⟨rfl, ⟨⟨⟨⟨trivial, .inr rfl⟩, .inr rfl⟩, .inr rfl⟩, .inr rfl⟩, ?_⟩
        exact TTree.leaf rfl (sub_gen [0, 1, 2, 3, 5, 4, 6, 7] rfl rfl (zall rfl rfl) ⟨bx rfl rfl rfl, oa rfl, bx rfl rfl rfl, bx rfl rfl rfl, bx rfl rfl rfl, oa rfl, oa rfl, oa rfl, trivial⟩)
       exact AllP.nil
      exact AllP.nil
     exact AllP.nil
    refine AllP.cons ?_ ?_
    ·refine TStep.d (objs' := [ob1, aSArc 63 a1b_Arcs, ob2, .box [.int .i64 0], ob3, ob9, ob3]) (v := av7) [] 27 rfl rfl rfl rfl rfl (fun s2 => by refine EOp.eq (e_makeL (c := (cInt .i64)) (d0 := 0) rfl rfl rfl rfl rfl sl22 z3 rfl rfl rfl g6.1 (Int.le_refl _) g6.2.1 g6.2.2) ?_; rfl) ?_
     refine ⟨rfl, ⟨⟨⟨⟨trivial, .inr rfl⟩, .inr rfl⟩, .inr rfl⟩, .inr rfl⟩, ?_⟩
     refine TTree.node 5 [] rfl ?_
     refine AllP.cons ?_ ?_
     ·refine TStep.d (objs' := [ob1, aSArc 63 a1b_Arcs, ob2, .box [.int .i64 0], ob3, ob9, ob3, ob5]) (v := av18) [] 25 rfl rfl rfl rfl rfl (fun s2 => by refine EOp.eq (e_makeL (c := cBool) (d0 := false) rfl rfl rfl rfl rfl sl53 z4 rfl rfl rfl g5.1 (Int.le_refl _) g5.2.1 g5.2.2) ?_; rfl) ?_
      refine ⟨rfl, ⟨⟨⟨⟨trivial, .inr rfl⟩, .inr rfl⟩, .inr rfl⟩, .inr rfl⟩, ?_⟩
      refine TTree.node 8 [] rfl ?_
      refine AllP.cons ?_ ?_
      ·refine TStep.d (objs' := [ob1, aSArc 63 a1b_Arcs, ob2, .box [.int .i64 0], ob3, ob9, ob3, ob5]) (v := av23) [] 28 rfl rfl rfl rfl rfl (fun s2 => by refine EOp.eq (EOp.qd rfl rfl (q_build2 rfl rfl pl68 rfl)) ?_; rfl) ?_
       refine ⟨rfl, ⟨⟨⟨⟨trivial, .inr rfl⟩, .inr rfl⟩, .inr rfl⟩, .inr rfl⟩, ?_⟩
       refine TTree.node 10 [] rfl ?_
       refine AllP.cons ?_ ?_
       ·refine TStep.n (objs' := [ob1, aSArc 63 a1b_Arcs, ob2, .box [.int .i64 0], ob3, ob24, ob3, ob5]) [] rfl rfl rfl rfl (fun s2 => by refine EOp.eq (e_store_box rfl rfl rfl rfl rfl ty68 rfl rfl rfl rfl) ?_; rfl) ?_
        refine ⟨rfl, ⟨⟨⟨⟨trivial, .inr rfl⟩, .inr rfl⟩, .inr rfl⟩, .inr rfl⟩, ?_⟩
        exact TTree.leaf rfl (sub_gen [0, 1, 2, 3, 5, 4, 7, 6] rfl rfl (zall rfl rfl) ⟨bx rfl rfl rfl, oa rfl, bx rfl rfl rfl, bx rfl rfl rfl, bx rfl rfl rfl, oa rfl, oa rfl, oa rfl, trivial⟩)
       exact AllP.nil
      exact AllP.nil
     exact AllP.nil
    exact AllP.nil
   exact AllP.nil
  refine AllP.cons ?_ ?_
  ·refine TStep.d (objs' := [ob1, aSArc 63 a1b_Arcs, ob2, .box [.int .i64 0], ob5]) (v := av25) [] 25 rfl rfl rfl rfl rfl (fun s2 => by refine EOp.eq (e_makeL (c := cBool) (d0 := false) rfl rfl rfl rfl rfl sl53 z4 rfl rfl rfl g5.1 (Int.le_refl _) g5.2.1 g5.2.2) ?_; rfl) ?_
   refine ⟨rfl, ⟨⟨⟨⟨trivial, .inr rfl⟩, .inr rfl⟩, .inr rfl⟩, .inr rfl⟩, ?_⟩
   refine TTree.node 3 [7, 9] rfl ?_
   refine AllP.cons ?_ ?_
   ·refine TStep.d (objs' := [ob1, aSArc 63 a1b_Arcs, ob2, .box [.int .i64 0], ob5, ob3]) (v := av14) [] 23 rfl rfl rfl rfl rfl (fun s2 => by refine EOp.eq (e_makeL (c := (cInt .i64)) (d0 := 0) rfl rfl rfl rfl rfl sl22 z3 rfl rfl rfl g4.1 (Int.le_refl _) g4.2.1 g4.2.2) ?_; rfl) ?_
    refine ⟨rfl, ⟨⟨⟨⟨trivial, .inr rfl⟩, .inr rfl⟩, .inr rfl⟩, .inr rfl⟩, ?_⟩
    refine TTree.node 7 [9] rfl ?_
    refine AllP.cons ?_ ?_
    ·refine TStep.d (objs' := [ob1, aSArc 63 a1b_Arcs, ob2, .box [.int .i64 0], ob5, ob3, ob3]) (v := av7) [] 27 rfl rfl rfl rfl rfl (fun s2 => by refine EOp.eq (e_makeL (c := (cInt .i64)) (d0 := 0) rfl rfl rfl rfl rfl sl22 z3 rfl rfl rfl g6.1 (Int.le_refl _) g6.2.1 g6.2.2) ?_; rfl) ?_
     refine ⟨rfl, ⟨⟨⟨⟨trivial, .inr rfl⟩, .inr rfl⟩, .inr rfl⟩, .inr rfl⟩, ?_⟩
     refine TTree.node 8 [9] rfl ?_
     refine AllP.cons ?_ ?_
     ·refine TStep.d (objs' := [ob1, aSArc 63 a1b_Arcs, ob2, .box [.int .i64 0], ob5, ob3, ob3]) (v := av26) [] 28 rfl rfl rfl rfl rfl (fun s2 => by refine EOp.eq (EOp.qd rfl rfl (q_build2 rfl rfl pl68 rfl)) ?_; rfl) ?_
      refine ⟨rfl, ⟨⟨⟨⟨trivial, .inr rfl⟩, .inr rfl⟩, .inr rfl⟩, .inr rfl⟩, ?_⟩
      refine TTree.node 9 [] rfl ?_
      refine AllP.cons ?_ ?_
      ·refine TStep.d (objs' := [ob1, aSArc 63 a1b_Arcs, ob2, .box [.int .i64 0], ob5, ob3, ob3, ob9]) (v := .c (.ptr 7 0)) [] 8 rfl rfl rfl rfl rfl (fun s2 => by refine EOp.eq (e_alloc rfl rfl rfl z68) ?_; rfl) ?_
       refine ⟨rfl, ⟨⟨⟨⟨trivial, .inr rfl⟩, .inr rfl⟩, .inr rfl⟩, .inr rfl⟩, ?_⟩
       refine TTree.node 10 [] rfl ?_
       refine AllP.cons ?_ ?_
       ·refine TStep.n (objs' := [ob1, aSArc 63 a1b_Arcs, ob2, .box [.int .i64 0], ob5, ob3, ob3, ob27]) [] rfl rfl rfl rfl (fun s2 => by refine EOp.eq (e_store_box rfl rfl rfl rfl rfl ty68 rfl rfl rfl rfl) ?_; rfl) ?_
        refine ⟨rfl, ⟨⟨⟨⟨trivial, .inr rfl⟩, .inr rfl⟩, .inr rfl⟩, .inr rfl⟩, ?_⟩
        exact TTree.leaf rfl (sub_gen [0, 1, 2, 3, 7, 5, 4, 6] rfl rfl (zall rfl rfl) ⟨bx rfl rfl rfl, oa rfl, bx rfl rfl rfl, bx rfl rfl rfl, bx rfl rfl rfl, oa rfl, oa rfl, oa rfl, trivial⟩)
       exact AllP.nil
      exact AllP.nil
     refine AllP.cons ?_ ?_
     ·refine TStep.d (objs' := [ob1, aSArc 63 a1b_Arcs, ob2, .box [.int .i64 0], ob5, ob3, ob3, ob9]) (v := .c (.ptr 7 0)) [] 8 rfl rfl rfl rfl rfl (fun s2 => by refine EOp.eq (e_alloc rfl rfl rfl z68) ?_; rfl) ?_
      refine ⟨rfl, ⟨⟨⟨⟨trivial, .inr rfl⟩, .inr rfl⟩, .inr rfl⟩, .inr rfl⟩, ?_⟩
      refine TTree.node 8 [] rfl ?_
      refine AllP.cons ?_ ?_
      ·refine TStep.d (objs' := [ob1, aSArc 63 a1b_Arcs, ob2, .box [.int .i64 0], ob5, ob3, ob3, ob9]) (v := av26) [] 28 rfl rfl rfl rfl rfl (fun s2 => by refine EOp.eq (EOp.qd rfl rfl (q_build2 rfl rfl pl68 rfl)) ?_; rfl) ?_
       refine ⟨rfl, ⟨⟨⟨⟨trivial, .inr rfl⟩, .inr rfl⟩, .inr rfl⟩, .inr rfl⟩, ?_⟩
       refine TTree.node 10 [] rfl ?_
       refine AllP.cons ?_ ?_
       ·refine TStep.n (objs' := [ob1, aSArc 63 a1b_Arcs, ob2, .box [.int .i64 0], ob5, ob3, ob3, ob27]) [] rfl rfl rfl rfl (fun s2 => by refine EOp.eq (e_store_box rfl rfl rfl rfl rfl ty68 rfl rfl rfl rfl) ?_; rfl) ?_
        refine ⟨rfl, ⟨⟨⟨⟨trivial, .inr rfl⟩, .inr rfl⟩, .inr rfl⟩, .inr rfl⟩, ?_⟩
        exact TTree.leaf rfl (sub_gen [0, 1, 2, 3, 7, 5, 4, 6] rfl rfl (zall rfl rfl) ⟨bx rfl rfl rfl, oa rfl, bx rfl rfl rfl, bx rfl rfl rfl, bx rfl rfl rfl, oa rfl, oa rfl, oa rfl, trivial⟩)
       exact AllP.nil
      exact AllP.nil
     exact AllP.nil
    refine AllP.cons ?_ ?_
    ·refine TStep.d (objs' := [ob1, aSArc 63 a1b_Arcs, ob2, .box [.int .i64 0], ob5, ob3, ob9]) (v := .c (.ptr 6 0)) [] 8 rfl rfl rfl rfl rfl (fun s2 => by refine EOp.eq (e_alloc rfl rfl rfl z68) ?_; rfl) ?_
     refine ⟨rfl, ⟨⟨⟨⟨trivial, .inr rfl⟩, .inr rfl⟩, .inr rfl⟩, .inr rfl⟩, ?_⟩
     refine TTree.node 7 [] rfl ?_
     refine AllP.cons ?_ ?_
     ·refine TStep.d (objs' := [ob1, aSArc 63 a1b_Arcs, ob2, .box [.int .i64 0], ob5, ob3, ob9, ob3]) (v := av11) [] 27 rfl rfl rfl rfl rfl (fun s2 => by refine EOp.eq (e_makeL (c := (cInt .i64)) (d0 := 0) rfl rfl rfl rfl rfl sl22 z3 rfl rfl rfl g6.1 (Int.le_refl _) g6.2.1 g6.2.2) ?_; rfl) ?_
      refine ⟨rfl, ⟨⟨⟨⟨trivial, .inr rfl⟩, .inr rfl⟩, .inr rfl⟩, .inr rfl⟩, ?_⟩
      refine TTree.node 8 [] rfl ?_
      refine AllP.cons ?_ ?_
      ·refine TStep.d (objs' := [ob1, aSArc 63 a1b_Arcs, ob2, .box [.int .i64 0], ob5, ob3, ob9, ob3]) (v := av28) [] 28 rfl rfl rfl rfl rfl (fun s2 => by refine EOp.eq (EOp.qd rfl rfl (q_build2 rfl rfl pl68 rfl)) ?_; rfl) ?_
       refine ⟨rfl, ⟨⟨⟨⟨trivial, .inr rfl⟩, .inr rfl⟩, .inr rfl⟩, .inr rfl⟩, ?_⟩
       refine TTree.node 10 [] rfl ?_
       refine AllP.cons ?_ ?_
       ·refine TStep.n (objs' := [ob1, aSArc 63 a1b_Arcs, ob2, .box [.int .i64 0], ob5, ob3, ob29, ob3]) [] rfl rfl rfl rfl (fun s2 => by refine EOp.eq (e_store_box rfl rfl rfl rfl rfl ty68 rfl rfl rfl rfl) ?_; rfl) ?_
        refine ⟨rfl, ⟨⟨⟨⟨trivial, .inr rfl⟩, .inr rfl⟩, .inr rfl⟩, .inr rfl⟩, ?_⟩
        exact TTree.leaf rfl (sub_gen [0, 1, 2, 3, 6, 5, 4, 7] rfl rfl (zall rfl rfl) ⟨bx rfl rfl rfl, oa rfl, bx rfl rfl rfl, bx rfl rfl rfl, bx rfl rfl rfl, oa rfl, oa rfl, oa rfl, trivial⟩)
       exact AllP.nil
      exact AllP.nil
     exact AllP.nil
    exact AllP.nil
   refine AllP.cons ?_ ?_
   ·refine TStep.d (objs' := [ob1, aSArc 63 a1b_Arcs, ob2, .box [.int .i64 0], ob5, ob3]) (v := av14) [] 27 rfl rfl rfl rfl rfl (fun s2 => by refine EOp.eq (e_makeL (c := (cInt .i64)) (d0 := 0) rfl rfl rfl rfl rfl sl22 z3 rfl rfl rfl g6.1 (Int.le_refl _) g6.2.1 g6.2.2) ?_; rfl) ?_
    refine ⟨rfl, ⟨⟨⟨⟨trivial, .inr rfl⟩, .inr rfl⟩, .inr rfl⟩, .inr rfl⟩, ?_⟩
    refine TTree.node 3 [9] rfl ?_
    refine AllP.cons ?_ ?_
    ·refine TStep.d (objs' := [ob1, aSArc 63 a1b_Arcs, ob2, .box [.int .i64 0], ob5, ob3, ob3]) (v := av7) [] 23 rfl rfl rfl rfl rfl (fun s2 => by refine EOp.eq (e_makeL (c := (cInt .i64)) (d0 := 0) rfl rfl rfl rfl rfl sl22 z3 rfl rfl rfl g4.1 (Int.le_refl _) g4.2.1 g4.2.2) ?_; rfl) ?_
     refine ⟨rfl, ⟨⟨⟨⟨trivial, .inr rfl⟩, .inr rfl⟩, .inr rfl⟩, .inr rfl⟩, ?_⟩
     refine TTree.node 8 [9] rfl ?_
     refine AllP.cons ?_ ?_
     ·refine TStep.d (objs' := [ob1, aSArc 63 a1b_Arcs, ob2, .box [.int .i64 0], ob5, ob3, ob3]) (v := av30) [] 28 rfl rfl rfl rfl rfl (fun s2 => by refine EOp.eq (EOp.qd rfl rfl (q_build2 rfl rfl pl68 rfl)) ?_; rfl) ?_
      refine ⟨rfl, ⟨⟨⟨⟨trivial, .inr rfl⟩, .inr rfl⟩, .inr rfl⟩, .inr rfl⟩, ?_⟩
      refine TTree.node 9 [] rfl ?_
      refine AllP.cons ?_ ?_
      ·refine TStep.d (objs' := [ob1, aSArc 63 a1b_Arcs, ob2, .box [.int .i64 0], ob5, ob3, ob3, ob9]) (v := .c (.ptr 7 0)) [] 8 rfl rfl rfl rfl rfl (fun s2 => by refine EOp.eq (e_alloc rfl rfl rfl z68) ?_; rfl) ?_
       refine ⟨rfl, ⟨⟨⟨⟨trivial, .inr rfl⟩, .inr rfl⟩, .inr rfl⟩, .inr rfl⟩, ?_⟩
       refine TTree.node 10 [] rfl ?_
       refine AllP.cons ?_ ?_
       ·refine TStep.n (objs' := [ob1, aSArc 63 a1b_Arcs, ob2, .box [.int .i64 0], ob5, ob3, ob3, ob31]) [] rfl rfl rfl rfl (fun s2 => by refine EOp.eq (e_store_box rfl rfl rfl rfl rfl ty68 rfl rfl rfl rfl) ?_; rfl) ?_
        refine ⟨rfl, ⟨⟨⟨⟨trivial, .inr rfl⟩, .inr rfl⟩, .inr rfl⟩, .inr rfl⟩, ?_⟩
        exact TTree.leaf rfl (sub_gen [0, 1, 2, 3, 7, 6, 4, 5] rfl rfl (zall rfl rfl) ⟨bx rfl rfl rfl, oa rfl, bx rfl rfl rfl, bx rfl rfl rfl, bx rfl rfl rfl, oa rfl, oa rfl, oa rfl, trivial⟩)
       exact AllP.nil
      exact AllP.nil
     refine AllP.cons ?_ ?_
     ·refine TStep.d (objs' := [ob1, aSArc 63 a1b_Arcs, ob2, .box [.int .i64 0], ob5, ob3, ob3, ob9]) (v := .c (.ptr 7 0)) [] 8 rfl rfl rfl rfl rfl (fun s2 => by refine EOp.eq (e_alloc rfl rfl rfl z68) ?_; rfl) ?_
      refine ⟨rfl, ⟨⟨⟨⟨trivial, .inr rfl⟩, .inr rfl⟩, .inr rfl⟩, .inr rfl⟩, ?_⟩
      refine TTree.node 8 [] rfl ?_
      refine AllP.cons ?_ ?_
      ·refine TStep.d (objs' := [ob1, aSArc 63 a1b_Arcs, ob2, .box [.int .i64 0], ob5, ob3, ob3, ob9]) (v := av30) [] 28 rfl rfl rfl rfl rfl (fun s2 => by refine EOp.eq (EOp.qd rfl rfl (q_build2 rfl rfl pl68 rfl)) ?_; rfl) ?_
       refine ⟨rfl, ⟨⟨⟨⟨trivial, .inr rfl⟩, .inr rfl⟩, .inr rfl⟩, .inr rfl⟩, ?_⟩
       refine TTree.node 10 [] rfl ?_
       refine AllP.cons ?_ ?_
       ·refine TStep.n (objs' := [ob1, aSArc 63 a1b_Arcs, ob2, .box [.int .i64 0], ob5, ob3, ob3, ob31]) [] rfl rfl rfl rfl (fun s2 => by refine EOp.eq (e_store_box rfl rfl rfl rfl rfl ty68 rfl rfl rfl rfl) ?_; rfl) ?_
        refine ⟨rfl, ⟨⟨⟨⟨trivial, .inr rfl⟩, .inr rfl⟩, .inr rfl⟩, .inr rfl⟩, ?_⟩
        exact TTree.leaf rfl (sub_gen [0, 1, 2, 3, 7, 6, 4, 5] rfl rfl (zall rfl rfl) ⟨bx rfl rfl rfl, oa rfl, bx rfl rfl rfl, bx rfl rfl rfl, bx rfl rfl rfl, oa rfl, oa rfl, oa rfl, trivial⟩)
       exact AllP.nil
      exact AllP.nil
     exact AllP.nil
    refine AllP.cons ?_ ?_
    ·refine TStep.d (objs' := [ob1, aSArc 63 a1b_Arcs, ob2, .box [.int .i64 0], ob5, ob3, ob9]) (v := .c (.ptr 6 0)) [] 8 rfl rfl rfl rfl rfl (fun s2 => by refine EOp.eq (e_alloc rfl rfl rfl z68) ?_; rfl) ?_
     refine ⟨rfl, ⟨⟨⟨⟨trivial, .inr rfl⟩, .inr rfl⟩, .inr rfl⟩, .inr rfl⟩, ?_⟩
     refine TTree.node 3 [] rfl ?_
     refine AllP.cons ?_ ?_
     ·refine TStep.d (objs' := [ob1, aSArc 63 a1b_Arcs, ob2, .box [.int .i64 0], ob5, ob3, ob9, ob3]) (v := av11) [] 23 rfl rfl rfl rfl rfl (fun s2 => by refine EOp.eq (e_makeL (c := (cInt .i64)) (d0 := 0) rfl rfl rfl rfl rfl sl22 z3 rfl rfl rfl g4.1 (Int.le_refl _) g4.2.1 g4.2.2) ?_; rfl) ?_
      refine ⟨rfl, ⟨⟨⟨⟨trivial, .inr rfl⟩, .inr rfl⟩, .inr rfl⟩, .inr rfl⟩, ?_⟩
      refine TTree.node 8 [] rfl ?_
      refine AllP.cons ?_ ?_
      ·refine TStep.d (objs' := [ob1, aSArc 63 a1b_Arcs, ob2, .box [.int .i64 0], ob5, ob3, ob9, ob3]) (v := av32) [] 28 rfl rfl rfl rfl rfl (fun s2 => by refine EOp.eq (EOp.qd rfl rfl (q_build2 rfl rfl pl68 rfl)) ?_; rfl) ?_
       refine ⟨rfl, ⟨⟨⟨⟨trivial, .inr rfl⟩, .inr rfl⟩, .inr rfl⟩, .inr rfl⟩, ?_⟩
       refine TTree.node 10 [] rfl ?_
       refine AllP.cons ?_ ?_
       ·refine TStep.n (objs' := [ob1, aSArc 63 a1b_Arcs, ob2, .box [.int .i64 0], ob5, ob3, ob33, ob3]) [] rfl rfl rfl rfl (fun s2 => by refine EOp.eq (e_store_box rfl rfl rfl rfl rfl ty68 rfl rfl rfl rfl) ?_; rfl) ?_
        refine ⟨rfl, ⟨⟨⟨⟨trivial, .inr rfl⟩, .inr rfl⟩, .inr rfl⟩, .inr rfl⟩, ?_⟩
        exact TTree.leaf rfl (sub_gen [0, 1, 2, 3, 6, 7, 4, 5] rfl rfl (zall rfl rfl) ⟨bx rfl rfl rfl, oa rfl, bx rfl rfl rfl, bx rfl rfl rfl, bx rfl rfl rfl, oa rfl, oa rfl, oa rfl, trivial⟩)
       exact AllP.nil
      exact AllP.nil
     exact AllP.nil
    exact AllP.nil
   refine AllP.cons ?_ ?_
   ·refine TStep.d (objs' := [ob1, aSArc 63 a1b_Arcs, ob2, .box [.int .i64 0], ob5, ob9]) (v := .c (.ptr 5 0)) [] 8 rfl rfl rfl rfl rfl (fun s2 => by refine EOp.eq (e_alloc rfl rfl rfl z68) ?_; rfl) ?_
    refine ⟨rfl, ⟨⟨⟨⟨trivial, .inr rfl⟩, .inr rfl⟩, .inr rfl⟩, .inr rfl⟩, ?_⟩
    refine TTree.node 3 [7] rfl ?_
    refine AllP.cons ?_ ?_
    ·refine TStep.d (objs' := [ob1, aSArc 63 a1b_Arcs, ob2, .box [.int .i64 0], ob5, ob9, ob3]) (v := av7) [] 23 rfl rfl rfl rfl rfl (fun s2 => by refine EOp.eq (e_makeL (c := (cInt .i64)) (d0 := 0) rfl rfl rfl rfl rfl sl22 z3 rfl rfl rfl g4.1 (Int.le_refl _) g4.2.1 g4.2.2) ?_; rfl) ?_
     refine ⟨rfl, ⟨⟨⟨⟨trivial, .inr rfl⟩, .inr rfl⟩, .inr rfl⟩, .inr rfl⟩, ?_⟩
     refine TTree.node 7 [] rfl ?_
     refine AllP.cons ?_ ?_
     ·refine TStep.d (objs' := [ob1, aSArc 63 a1b_Arcs, ob2, .box [.int .i64 0], ob5, ob9, ob3, ob3]) (v := av11) [] 27 rfl rfl rfl rfl rfl (fun s2 => by refine EOp.eq (e_makeL (c := (cInt .i64)) (d0 := 0) rfl rfl rfl rfl rfl sl22 z3 rfl rfl rfl g6.1 (Int.le_refl _) g6.2.1 g6.2.2) ?_; rfl) ?_
      refine ⟨rfl, ⟨⟨⟨⟨trivial, .inr rfl⟩, .inr rfl⟩, .inr rfl⟩, .inr rfl⟩, ?_⟩
      refine TTree.node 8 [] rfl ?_
      refine AllP.cons ?_ ?_
      ·refine TStep.d (objs' := [ob1, aSArc 63 a1b_Arcs, ob2, .box [.int .i64 0], ob5, ob9, ob3, ob3]) (v := av34) [] 28 rfl rfl rfl rfl rfl (fun s2 => by refine EOp.eq (EOp.qd rfl rfl (q_build2 rfl rfl pl68 rfl)) ?_; rfl) ?_
       refine ⟨rfl, ⟨⟨⟨⟨trivial, .inr rfl⟩, .inr rfl⟩, .inr rfl⟩, .inr rfl⟩, ?_⟩
       refine TTree.node 10 [] rfl ?_
       refine AllP.cons ?_ ?_
       ·refine TStep.n (objs' := [ob1, aSArc 63 a1b_Arcs, ob2, .box [.int .i64 0], ob5, ob35, ob3, ob3]) [] rfl rfl rfl rfl (fun s2 => by refine EOp.eq (e_store_box rfl rfl rfl rfl rfl ty68 rfl rfl rfl rfl) ?_; rfl) ?_
        refine ⟨rfl, ⟨⟨⟨⟨trivial, .inr rfl⟩, .inr rfl⟩, .inr rfl⟩, .inr rfl⟩, ?_⟩
        exact TTree.leaf rfl (sub_gen [0, 1, 2, 3, 5, 6, 4, 7] rfl rfl (zall rfl rfl) ⟨bx rfl rfl rfl, oa rfl, bx rfl rfl rfl, bx rfl rfl rfl, bx rfl rfl rfl, oa rfl, oa rfl, oa rfl, trivial⟩)
       exact AllP.nil
      exact AllP.nil
     exact AllP.nil
    refine AllP.cons ?_ ?_
    ·refine TStep.d (objs' := [ob1, aSArc 63 a1b_Arcs, ob2, .box [.int .i64 0], ob5, ob9, ob3]) (v := av7) [] 27 rfl rfl rfl rfl rfl (fun s2 => by refine EOp.eq (e_makeL (c := (cInt .i64)) (d0 := 0) rfl rfl rfl rfl rfl sl22 z3 rfl rfl rfl g6.1 (Int.le_refl _) g6.2.1 g6.2.2) ?_; rfl) ?_
     refine ⟨rfl, ⟨⟨⟨⟨trivial, .inr rfl⟩, .inr rfl⟩, .inr rfl⟩, .inr rfl⟩, ?_⟩
     refine TTree.node 3 [] rfl ?_
     refine AllP.cons ?_ ?_
     ·refine TStep.d (objs' := [ob1, aSArc 63 a1b_Arcs, ob2, .box [.int .i64 0], ob5, ob9, ob3, ob3]) (v := av11) [] 23 rfl rfl rfl rfl rfl (fun s2 => by refine EOp.eq (e_makeL (c := (cInt .i64)) (d0 := 0) rfl rfl rfl rfl rfl sl22 z3 rfl rfl rfl g4.1 (Int.le_refl _) g4.2.1 g4.2.2) ?_; rfl) ?_
      refine ⟨rfl, ⟨⟨⟨⟨trivial, .inr rfl⟩, .inr rfl⟩, .inr rfl⟩, .inr rfl⟩, ?_⟩
      refine TTree.node 8 [] rfl ?_
      refine AllP.cons ?_ ?_
      ·refine TStep.d (objs' := [ob1, aSArc 63 a1b_Arcs, ob2, .box [.int .i64 0], ob5, ob9, ob3, ob3]) (v := av36) [] 28 rfl rfl rfl rfl rfl (fun s2 => by refine EOp.eq (EOp.qd rfl rfl (q_build2 rfl rfl pl68 rfl)) ?_; rfl) ?_
       refine ⟨rfl, ⟨⟨⟨⟨trivial, .inr rfl⟩, .inr rfl⟩, .inr rfl⟩, .inr rfl⟩, ?_⟩
       refine TTree.node 10 [] rfl ?_
       refine AllP.cons ?_ ?_
       ·refine TStep.n (objs' := [ob1, aSArc 63 a1b_Arcs, ob2, .box [.int .i64 0], ob5, ob37, ob3, ob3]) [] rfl rfl rfl rfl (fun s2 => by refine EOp.eq (e_store_box rfl rfl rfl rfl rfl ty68 rfl rfl rfl rfl) ?_; rfl) ?_
        refine ⟨rfl, ⟨⟨⟨⟨trivial, .inr rfl⟩, .inr rfl⟩, .inr rfl⟩, .inr rfl⟩, ?_⟩
        exact TTree.leaf rfl (sub_gen [0, 1, 2, 3, 5, 7, 4, 6] rfl rfl (zall rfl rfl) ⟨bx rfl rfl rfl, oa rfl, bx rfl rfl rfl, bx rfl rfl rfl, bx rfl rfl rfl, oa rfl, oa rfl, oa rfl, trivial⟩)
       exact AllP.nil
      exact AllP.nil
     exact AllP.nil
    exact AllP.nil
   exact AllP.nil
  refine AllP.cons ?_ ?_
  ·refine TStep.d (objs' := [ob1, aSArc 63 a1b_Arcs, ob2, .box [.int .i64 0], ob3]) (v := av4) [] 27 rfl rfl rfl rfl rfl (fun s2 => by refine EOp.eq (e_makeL (c := (cInt .i64)) (d0 := 0) rfl rfl rfl rfl rfl sl22 z3 rfl rfl rfl g6.1 (Int.le_refl _) g6.2.1 g6.2.2) ?_; rfl) ?_
   refine ⟨rfl, ⟨⟨⟨⟨trivial, .inr rfl⟩, .inr rfl⟩, .inr rfl⟩, .inr rfl⟩, ?_⟩
   refine TTree.node 3 [5, 9] rfl ?_
   refine AllP.cons ?_ ?_
   ·refine TStep.d (objs' := [ob1, aSArc 63 a1b_Arcs, ob2, .box [.int .i64 0], ob3, ob3]) (v := av14) [] 23 rfl rfl rfl rfl rfl (fun s2 => by refine EOp.eq (e_makeL (c := (cInt .i64)) (d0 := 0) rfl rfl rfl rfl rfl sl22 z3 rfl rfl rfl g4.1 (Int.le_refl _) g4.2.1 g4.2.2) ?_; rfl) ?_
    refine ⟨rfl, ⟨⟨⟨⟨trivial, .inr rfl⟩, .inr rfl⟩, .inr rfl⟩, .inr rfl⟩, ?_⟩
    refine TTree.node 5 [9] rfl ?_
    refine AllP.cons ?_ ?_
    ·refine TStep.d (objs' := [ob1, aSArc 63 a1b_Arcs, ob2, .box [.int .i64 0], ob3, ob3, ob5]) (v := av15) [] 25 rfl rfl rfl rfl rfl (fun s2 => by refine EOp.eq (e_makeL (c := cBool) (d0 := false) rfl rfl rfl rfl rfl sl53 z4 rfl rfl rfl g5.1 (Int.le_refl _) g5.2.1 g5.2.2) ?_; rfl) ?_
     refine ⟨rfl, ⟨⟨⟨⟨trivial, .inr rfl⟩, .inr rfl⟩, .inr rfl⟩, .inr rfl⟩, ?_⟩
     refine TTree.node 8 [9] rfl ?_
     refine AllP.cons ?_ ?_
     ·refine TStep.d (objs' := [ob1, aSArc 63 a1b_Arcs, ob2, .box [.int .i64 0], ob3, ob3, ob5]) (v := av38) [] 28 rfl rfl rfl rfl rfl (fun s2 => by refine EOp.eq (EOp.qd rfl rfl (q_build2 rfl rfl pl68 rfl)) ?_; rfl) ?_
      refine ⟨rfl, ⟨⟨⟨⟨trivial, .inr rfl⟩, .inr rfl⟩, .inr rfl⟩, .inr rfl⟩, ?_⟩
      refine TTree.node 9 [] rfl ?_
      refine AllP.cons ?_ ?_
      ·refine TStep.d (objs' := [ob1, aSArc 63 a1b_Arcs, ob2, .box [.int .i64 0], ob3, ob3, ob5, ob9]) (v := .c (.ptr 7 0)) [] 8 rfl rfl rfl rfl rfl (fun s2 => by refine EOp.eq (e_alloc rfl rfl rfl z68) ?_; rfl) ?_
       refine ⟨rfl, ⟨⟨⟨⟨trivial, .inr rfl⟩, .inr rfl⟩, .inr rfl⟩, .inr rfl⟩, ?_⟩
       refine TTree.node 10 [] rfl ?_
       refine AllP.cons ?_ ?_
       ·refine TStep.n (objs' := [ob1, aSArc 63 a1b_Arcs, ob2, .box [.int .i64 0], ob3, ob3, ob5, ob39]) [] rfl rfl rfl rfl (fun s2 => by refine EOp.eq (e_store_box rfl rfl rfl rfl rfl ty68 rfl rfl rfl rfl) ?_; rfl) ?_
        refine ⟨rfl, ⟨⟨⟨⟨trivial, .inr rfl⟩, .inr rfl⟩, .inr rfl⟩, .inr rfl⟩, ?_⟩
        exact TTree.leaf rfl (sub_gen [0, 1, 2, 3, 7, 5, 6, 4] rfl rfl (zall rfl rfl) ⟨bx rfl rfl rfl, oa rfl, bx rfl rfl rfl, bx rfl rfl rfl, bx rfl rfl rfl, oa rfl, oa rfl, oa rfl, trivial⟩)
       exact AllP.nil
      exact AllP.nil
     refine AllP.cons ?_ ?_
     ·refine TStep.d (objs' := [ob1, aSArc 63 a1b_Arcs, ob2, .box [.int .i64 0], ob3, ob3, ob5, ob9]) (v := .c (.ptr 7 0)) [] 8 rfl rfl rfl rfl rfl (fun s2 => by refine EOp.eq (e_alloc rfl rfl rfl z68) ?_; rfl) ?_
      refine ⟨rfl, ⟨⟨⟨⟨trivial, .inr rfl⟩, .inr rfl⟩, .inr rfl⟩, .inr rfl⟩, ?_⟩
      refine TTree.node 8 [] rfl ?_
      refine AllP.cons ?_ ?_
      ·refine TStep.d (objs' := [ob1, aSArc 63 a1b_Arcs, ob2, .box [.int .i64 0], ob3, ob3, ob5, ob9]) (v := av38) [] 28 rfl rfl rfl rfl rfl (fun s2 => by refine EOp.eq (EOp.qd rfl rfl (q_build2 rfl rfl pl68 rfl)) ?_; rfl) ?_
       refine ⟨rfl, ⟨⟨⟨⟨trivial, .inr rfl⟩, .inr rfl⟩, .inr rfl⟩, .inr rfl⟩, ?_⟩
       refine TTree.node 10 [] rfl ?_
       refine AllP.cons ?_ ?_
       ·refine TStep.n (objs' := [ob1, aSArc 63 a1b_Arcs, ob2, .box [.int .i64 0], ob3, ob3, ob5, ob39]) [] rfl rfl rfl rfl (fun s2 => by refine EOp.eq (e_store_box rfl rfl rfl rfl rfl ty68 rfl rfl rfl rfl) ?_; rfl) ?_
        refine ⟨rfl, ⟨⟨⟨⟨trivial, .inr rfl⟩, .inr rfl⟩, .inr rfl⟩, .inr rfl⟩, ?_⟩
        exact TTree.leaf rfl (sub_gen [0, 1, 2, 3, 7, 5, 6, 4] rfl rfl (zall rfl rfl) ⟨bx rfl rfl rfl, oa rfl, bx rfl rfl rfl, bx rfl rfl rfl, bx rfl rfl rfl, oa rfl, oa rfl, oa rfl, trivial⟩)
       exact AllP.nil
      exact AllP.nil
     exact AllP.nil
    refine AllP.cons ?_ ?_
    ·refine TStep.d (objs' := [ob1, aSArc 63 a1b_Arcs, ob2, .box [.int .i64 0], ob3, ob3, ob9]) (v := .c (.ptr 6 0)) [] 8 rfl rfl rfl rfl rfl (fun s2 => by refine EOp.eq (e_alloc rfl rfl rfl z68) ?_; rfl) ?_
     refine ⟨rfl, ⟨⟨⟨⟨trivial, .inr rfl⟩, .inr rfl⟩, .inr rfl⟩, .inr rfl⟩, ?_⟩
     refine TTree.node 5 [] rfl ?_
     refine AllP.cons ?_ ?_
     ·refine TStep.d (objs' := [ob1, aSArc 63 a1b_Arcs, ob2, .box [.int .i64 0], ob3, ob3, ob9, ob5]) (v := av18) [] 25 rfl rfl rfl rfl rfl (fun s2 => by refine EOp.eq (e_makeL (c := cBool) (d0 := false) rfl rfl rfl rfl rfl sl53 z4 rfl rfl rfl g5.1 (Int.le_refl _) g5.2.1 g5.2.2) ?_; rfl) ?_
      refine ⟨rfl, ⟨⟨⟨⟨trivial, .inr rfl⟩, .inr rfl⟩, .inr rfl⟩, .inr rfl⟩, ?_⟩
      refine TTree.node 8 [] rfl ?_
      refine AllP.cons ?_ ?_
      ·refine TStep.d (objs' := [ob1, aSArc 63 a1b_Arcs, ob2, .box [.int .i64 0], ob3, ob3, ob9, ob5]) (v := av40) [] 28 rfl rfl rfl rfl rfl (fun s2 => by refine EOp.eq (EOp.qd rfl rfl (q_build2 rfl rfl pl68 rfl)) ?_; rfl) ?_
       refine ⟨rfl, ⟨⟨⟨⟨trivial, .inr rfl⟩, .inr rfl⟩, .inr rfl⟩, .inr rfl⟩, ?_⟩
       refine TTree.node 10 [] rfl ?_
       refine AllP.cons ?_ ?_
       ·refine TStep.n (objs' := [ob1, aSArc 63 a1b_Arcs, ob2, .box [.int .i64 0], ob3, ob3, ob41, ob5]) [] rfl rfl rfl rfl (fun s2 => by refine EOp.eq (e_store_box rfl rfl rfl rfl rfl ty68 rfl rfl rfl rfl) ?_; rfl) ?_
        refine ⟨rfl, ⟨⟨⟨⟨trivial, .inr rfl⟩, .inr rfl⟩, .inr rfl⟩, .inr rfl⟩, ?_⟩
        exact TTree.leaf rfl (sub_gen [0, 1, 2, 3, 6, 5, 7, 4] rfl rfl (zall rfl rfl) ⟨bx rfl rfl rfl, oa rfl, bx rfl rfl rfl, bx rfl rfl rfl, bx rfl rfl rfl, oa rfl, oa rfl, oa rfl, trivial⟩)
       exact AllP.nil
      exact AllP.nil
     exact AllP.nil
    exact AllP.nil
   refine AllP.cons ?_ ?_
   ·refine TStep.d (objs' := [ob1, aSArc 63 a1b_Arcs, ob2, .box [.int .i64 0], ob3, ob5]) (v := av6) [] 25 rfl rfl rfl rfl rfl (fun s2 => by refine EOp.eq (e_makeL (c := cBool) (d0 := false) rfl rfl rfl rfl rfl sl53 z4 rfl rfl rfl g5.1 (Int.le_refl _) g5.2.1 g5.2.2) ?_; rfl) ?_
    refine ⟨rfl, ⟨⟨⟨⟨trivial, .inr rfl⟩, .inr rfl⟩, .inr rfl⟩, .inr rfl⟩, ?_⟩
    refine TTree.node 3 [9] rfl ?_
    refine AllP.cons ?_ ?_
    ·refine TStep.d (objs' := [ob1, aSArc 63 a1b_Arcs, ob2, .box [.int .i64 0], ob3, ob5, ob3]) (v := av7) [] 23 rfl rfl rfl rfl rfl (fun s2 => by refine EOp.eq (e_makeL (c := (cInt .i64)) (d0 := 0) rfl rfl rfl rfl rfl sl22 z3 rfl rfl rfl g4.1 (Int.le_refl _) g4.2.1 g4.2.2) ?_; rfl) ?_
     refine ⟨rfl, ⟨⟨⟨⟨trivial, .inr rfl⟩, .inr rfl⟩, .inr rfl⟩, .inr rfl⟩, ?_⟩
     refine TTree.node 8 [9] rfl ?_
     refine AllP.cons ?_ ?_
     ·refine TStep.d (objs' := [ob1, aSArc 63 a1b_Arcs, ob2, .box [.int .i64 0], ob3, ob5, ob3]) (v := av42) [] 28 rfl rfl rfl rfl rfl (fun s2 => by refine EOp.eq (EOp.qd rfl rfl (q_build2 rfl rfl pl68 rfl)) ?_; rfl) ?_
      refine ⟨rfl, ⟨⟨⟨⟨trivial, .inr rfl⟩, .inr rfl⟩, .inr rfl⟩, .inr rfl⟩, ?_⟩
      refine TTree.node 9 [] rfl ?_
      refine AllP.cons ?_ ?_
      ·refine TStep.d (objs' := [ob1, aSArc 63 a1b_Arcs, ob2, .box [.int .i64 0], ob3, ob5, ob3, ob9]) (v := .c (.ptr 7 0)) [] 8 rfl rfl rfl rfl rfl (fun s2 => by refine EOp.eq (e_alloc rfl rfl rfl z68) ?_; rfl) ?_
       refine ⟨rfl, ⟨⟨⟨⟨trivial, .inr rfl⟩, .inr rfl⟩, .inr rfl⟩, .inr rfl⟩, ?_⟩
       refine TTree.node 10 [] rfl ?_
       refine AllP.cons ?_ ?_
       ·refine TStep.n (objs' := [ob1, aSArc 63 a1b_Arcs, ob2, .box [.int .i64 0], ob3, ob5, ob3, ob43]) [] rfl rfl rfl rfl (fun s2 => by refine EOp.eq (e_store_box rfl rfl rfl rfl rfl ty68 rfl rfl rfl rfl) ?_; rfl) ?_
        refine ⟨rfl, ⟨⟨⟨⟨trivial, .inr rfl⟩, .inr rfl⟩, .inr rfl⟩, .inr rfl⟩, ?_⟩
        exact TTree.leaf rfl (sub_gen [0, 1, 2, 3, 7, 6, 5, 4] rfl rfl (zall rfl rfl) ⟨bx rfl rfl rfl, oa rfl, bx rfl rfl rfl, bx rfl rfl rfl, bx rfl rfl rfl, oa rfl, oa rfl, oa rfl, trivial⟩)
       exact AllP.nil
      exact AllP.nil
     refine AllP.cons ?_ ?_
     ·refine TStep.d (objs' := [ob1, aSArc 63 a1b_Arcs, ob2, .box [.int .i64 0], ob3, ob5, ob3, ob9]) (v := .c (.ptr 7 0)) [] 8 rfl rfl rfl rfl rfl (fun s2 => by refine EOp.eq (e_alloc rfl rfl rfl z68) ?_; rfl) ?_
      refine ⟨rfl, ⟨⟨⟨⟨trivial, .inr rfl⟩, .inr rfl⟩, .inr rfl⟩, .inr rfl⟩, ?_⟩
      refine TTree.node 8 [] rfl ?_
      refine AllP.cons ?_ ?_
      ·refine TStep.d (objs' := [ob1, aSArc 63 a1b_Arcs, ob2, .box [.int .i64 0], ob3, ob5, ob3, ob9]) (v := av42) [] 28 rfl rfl rfl rfl rfl (fun s2 => by refine EOp.eq (EOp.qd rfl rfl (q_build2 rfl rfl pl68 rfl)) ?_; rfl) ?_
       refine ⟨rfl, ⟨⟨⟨⟨trivial, .inr rfl⟩, .inr rfl⟩, .inr rfl⟩, .inr rfl⟩, ?_⟩
       refine TTree.node 10 [] rfl ?_
       refine AllP.cons ?_ ?_
       ·refine TStep.n (objs' := [ob1, aSArc 63 a1b_Arcs, ob2, .box [.int .i64 0], ob3, ob5, ob3, ob43]) [] rfl rfl rfl rfl (fun s2 => by refine EOp.eq (e_store_box rfl rfl rfl rfl rfl ty68 rfl rfl rfl rfl) ?_; rfl) ?_
        refine ⟨rfl, ⟨⟨⟨⟨trivial, .inr rfl⟩, .inr rfl⟩, .inr rfl⟩, .inr rfl⟩, ?_⟩
        exact TTree.leaf rfl (sub_gen [0, 1, 2, 3, 7, 6, 5, 4] rfl rfl (zall rfl rfl) ⟨bx rfl rfl rfl, oa rfl, bx rfl rfl rfl, bx rfl rfl rfl, bx rfl rfl rfl, oa rfl, oa rfl, oa rfl, trivial⟩)
       exact AllP.nil
      exact AllP.nil
     exact AllP.nil
    refine AllP.cons ?_ ?_
    ·refine TStep.d (objs' := [ob1, aSArc 63 a1b_Arcs, ob2, .box [.int .i64 0], ob3, ob5, ob9]) (v := .c (.ptr 6 0)) [] 8 rfl rfl rfl rfl rfl (fun s2 => by refine EOp.eq (e_alloc rfl rfl rfl z68) ?_; rfl) ?_
     refine ⟨rfl, ⟨⟨⟨⟨trivial, .inr rfl⟩, .inr rfl⟩, .inr rfl⟩, .inr rfl⟩, ?_⟩
     refine TTree.node 3 [] rfl ?_
     refine AllP.cons ?_ ?_
     ·refine TStep.d (objs' := [ob1, aSArc 63 a1b_Arcs, ob2, .box [.int .i64 0], ob3, ob5, ob9, ob3]) (v := av11) [] 23 rfl rfl rfl rfl rfl (fun s2 => by refine EOp.eq (e_makeL (c := (cInt .i64)) (d0 := 0) rfl rfl rfl rfl rfl sl22 z3 rfl rfl rfl g4.1 (Int.le_refl _) g4.2.1 g4.2.2) ?_; rfl) ?_
      refine ⟨rfl, ⟨⟨⟨⟨trivial, .inr rfl⟩, .inr rfl⟩, .inr rfl⟩, .inr rfl⟩, ?_⟩
      refine TTree.node 8 [] rfl ?_
      refine AllP.cons ?_ ?_
      ·refine TStep.d (objs' := [ob1, aSArc 63 a1b_Arcs, ob2, .box [.int .i64 0], ob3, ob5, ob9, ob3]) (v := av44) [] 28 rfl rfl rfl rfl rfl (fun s2 => by refine EOp.eq (EOp.qd rfl rfl (q_build2 rfl rfl pl68 rfl)) ?_; rfl) ?_
       refine ⟨rfl, ⟨⟨⟨⟨trivial, .inr rfl⟩, .inr rfl⟩, .inr rfl⟩, .inr rfl⟩, ?_⟩
       refine TTree.node 10 [] rfl ?_
       refine AllP.cons ?_ ?_
       ·refine TStep.n (objs' := [ob1, aSArc 63 a1b_Arcs, ob2, .box [.int .i64 0], ob3, ob5, ob45, ob3]) [] rfl rfl rfl rfl (fun s2 => by refine EOp.eq (e_store_box rfl rfl rfl rfl rfl ty68 rfl rfl rfl rfl) ?_; rfl) ?_
        refine ⟨rfl, ⟨⟨⟨⟨trivial, .inr rfl⟩, .inr rfl⟩, .inr rfl⟩, .inr rfl⟩, ?_⟩
        exact TTree.leaf rfl (sub_gen [0, 1, 2, 3, 6, 7, 5, 4] rfl rfl (zall rfl rfl) ⟨bx rfl rfl rfl, oa rfl, bx rfl rfl rfl, bx rfl rfl rfl, bx rfl rfl rfl, oa rfl, oa rfl, oa rfl, trivial⟩)
       exact AllP.nil
      exact AllP.nil
     exact AllP.nil
    exact AllP.nil
   refine AllP.cons ?_ ?_
   ·refine TStep.d (objs' := [ob1, aSArc 63 a1b_Arcs, ob2, .box [.int .i64 0], ob3, ob9]) (v := .c (.ptr 5 0)) [] 8 rfl rfl rfl rfl rfl (fun s2 => by refine EOp.eq (e_alloc rfl rfl rfl z68) ?_; rfl) ?_
    refine ⟨rfl, ⟨⟨⟨⟨trivial, .inr rfl⟩, .inr rfl⟩, .inr rfl⟩, .inr rfl⟩, ?_⟩
    refine TTree.node 3 [5] rfl ?_
    refine AllP.cons ?_ ?_
    ·refine TStep.d (objs' := [ob1, aSArc 63 a1b_Arcs, ob2, .box [.int .i64 0], ob3, ob9, ob3]) (v := av7) [] 23 rfl rfl rfl rfl rfl (fun s2 => by refine EOp.eq (e_makeL (c := (cInt .i64)) (d0 := 0) rfl rfl rfl rfl rfl sl22 z3 rfl rfl rfl g4.1 (Int.le_refl _) g4.2.1 g4.2.2) ?_; rfl) ?_
     refine ⟨rfl, ⟨⟨⟨⟨trivial, .inr rfl⟩, .inr rfl⟩, .inr rfl⟩, .inr rfl⟩, ?_⟩
     refine TTree.node 5 [] rfl ?_
     refine AllP.cons ?_ ?_
     ·refine TStep.d (objs' := [ob1, aSArc 63 a1b_Arcs, ob2, .box [.int .i64 0], ob3, ob9, ob3, ob5]) (v := av18) [] 25 rfl rfl rfl rfl rfl (fun s2 => by refine EOp.eq (e_makeL (c := cBool) (d0 := false) rfl rfl rfl rfl rfl sl53 z4 rfl rfl rfl g5.1 (Int.le_refl _) g5.2.1 g5.2.2) ?_; rfl) ?_
      refine ⟨rfl, ⟨⟨⟨⟨trivial, .inr rfl⟩, .inr rfl⟩, .inr rfl⟩, .inr rfl⟩, ?_⟩
      refine TTree.node 8 [] rfl ?_
      refine AllP.cons ?_ ?_
      ·refine TStep.d (objs' := [ob1, aSArc 63 a1b_Arcs, ob2, .box [.int .i64 0], ob3, ob9, ob3, ob5]) (v := av46) [] 28 rfl rfl rfl rfl rfl (fun s2 => by refine EOp.eq (EOp.qd rfl rfl (q_build2 rfl rfl pl68 rfl)) ?_; rfl) ?_
       refine ⟨rfl, ⟨⟨⟨⟨trivial, .inr rfl⟩, .inr rfl⟩, .inr rfl⟩, .inr rfl⟩, ?_⟩
       refine TTree.node 10 [] rfl ?_
       refine AllP.cons ?_ ?_
       ·refine TStep.n (objs' := [ob1, aSArc 63 a1b_Arcs, ob2, .box [.int .i64 0], ob3, ob47, ob3, ob5]) [] rfl rfl rfl rfl (fun s2 => by refine EOp.eq (e_store_box rfl rfl rfl rfl rfl ty68 rfl rfl rfl rfl) ?_; rfl) ?_
        refine ⟨rfl, ⟨⟨⟨⟨trivial, .inr rfl⟩, .inr rfl⟩, .inr rfl⟩, .inr rfl⟩, ?_⟩
        exact TTree.leaf rfl (sub_gen [0, 1, 2, 3, 5, 6, 7, 4] rfl rfl (zall rfl rfl) ⟨bx rfl rfl rfl, oa rfl, bx rfl rfl rfl, bx rfl rfl rfl, bx rfl rfl rfl, oa rfl, oa rfl, oa rfl, trivial⟩)
       exact AllP.nil
      exact AllP.nil
     exact AllP.nil
    refine AllP.cons ?_ ?_
    ·refine TStep.d (objs' := [ob1, aSArc 63 a1b_Arcs, ob2, .box [.int .i64 0], ob3, ob9, ob5]) (v := av15) [] 25 rfl rfl rfl rfl rfl (fun s2 => by refine EOp.eq (e_makeL (c := cBool) (d0 := false) rfl rfl rfl rfl rfl sl53 z4 rfl rfl rfl g5.1 (Int.le_refl _) g5.2.1 g5.2.2) ?_; rfl) ?_
     refine ⟨rfl, ⟨⟨⟨⟨trivial, .inr rfl⟩, .inr rfl⟩, .inr rfl⟩, .inr rfl⟩, ?_⟩
     refine TTree.node 3 [] rfl ?_
     refine AllP.cons ?_ ?_
     ·refine TStep.d (objs' := [ob1, aSArc 63 a1b_Arcs, ob2, .box [.int .i64 0], ob3, ob9, ob5, ob3]) (v := av11) [] 23 rfl rfl rfl rfl rfl (fun s2 => by refine EOp.eq (e_makeL (c := (cInt .i64)) (d0 := 0) rfl rfl rfl rfl rfl sl22 z3 rfl rfl rfl g4.1 (Int.le_refl _) g4.2.1 g4.2.2) ?_; rfl) ?_
      refine ⟨rfl, ⟨⟨⟨⟨trivial, .inr rfl⟩, .inr rfl⟩, .inr rfl⟩, .inr rfl⟩, ?_⟩
      refine TTree.node 8 [] rfl ?_
      refine AllP.cons ?_ ?_
      ·refine TStep.d (objs' := [ob1, aSArc 63 a1b_Arcs, ob2, .box [.int .i64 0], ob3, ob9, ob5, ob3]) (v := av48) [] 28 rfl rfl rfl rfl rfl (fun s2 => by refine EOp.eq (EOp.qd rfl rfl (q_build2 rfl rfl pl68 rfl)) ?_; rfl) ?_
       refine ⟨rfl, ⟨⟨⟨⟨trivial, .inr rfl⟩, .inr rfl⟩, .inr rfl⟩, .inr rfl⟩, ?_⟩
       refine TTree.node 10 [] rfl ?_
       refine AllP.cons ?_ ?_
       ·refine TStep.n (objs' := [ob1, aSArc 63 a1b_Arcs, ob2, .box [.int .i64 0], ob3, ob49, ob5, ob3]) [] rfl rfl rfl rfl (fun s2 => by refine EOp.eq (e_store_box rfl rfl rfl rfl rfl ty68 rfl rfl rfl rfl) ?_; rfl) ?_
        refine ⟨rfl, ⟨⟨⟨⟨trivial, .inr rfl⟩, .inr rfl⟩, .inr rfl⟩, .inr rfl⟩, ?_⟩
        exact TTree.leaf rfl (sub_gen [0, 1, 2, 3, 5, 7, 6, 4] rfl rfl (zall rfl rfl) ⟨bx rfl rfl rfl, oa rfl, bx rfl rfl rfl, bx rfl rfl rfl, bx rfl rfl rfl, oa rfl, oa rfl, oa rfl, trivial⟩)
       exact AllP.nil
      exact AllP.nil
     exact AllP.nil
    exact AllP.nil
   exact AllP.nil
  refine AllP.cons ?_ ?_
  ·refine TStep.d (objs' := [ob1, aSArc 63 a1b_Arcs, ob2, .box [.int .i64 0], ob9]) (v := .c (.ptr 4 0)) [] 8 rfl rfl rfl rfl rfl (fun s2 => by refine EOp.eq (e_alloc rfl rfl rfl z68) ?_; rfl) ?_
   refine ⟨rfl, ⟨⟨⟨⟨trivial, .inr rfl⟩, .inr rfl⟩, .inr rfl⟩, .inr rfl⟩, ?_⟩
   refine TTree.node 3 [5, 7] rfl ?_
   refine AllP.cons ?_ ?_
   ·refine TStep.d (objs' := [ob1, aSArc 63 a1b_Arcs, ob2, .box [.int .i64 0], ob9, ob3]) (v := av14) [] 23 rfl rfl rfl rfl rfl (fun s2 => by refine EOp.eq (e_makeL (c := (cInt .i64)) (d0 := 0) rfl rfl rfl rfl rfl sl22 z3 rfl rfl rfl g4.1 (Int.le_refl _) g4.2.1 g4.2.2) ?_; rfl) ?_
    refine ⟨rfl, ⟨⟨⟨⟨trivial, .inr rfl⟩, .inr rfl⟩, .inr rfl⟩, .inr rfl⟩, ?_⟩
    refine TTree.node 5 [7] rfl ?_
    refine AllP.cons ?_ ?_
    ·refine TStep.d (objs' := [ob1, aSArc 63 a1b_Arcs, ob2, .box [.int .i64 0], ob9, ob3, ob5]) (v := av15) [] 25 rfl rfl rfl rfl rfl (fun s2 => by refine EOp.eq (e_makeL (c := cBool) (d0 := false) rfl rfl rfl rfl rfl sl53 z4 rfl rfl rfl g5.1 (Int.le_refl _) g5.2.1 g5.2.2) ?_; rfl) ?_
     refine ⟨rfl, ⟨⟨⟨⟨trivial, .inr rfl⟩, .inr rfl⟩, .inr rfl⟩, .inr rfl⟩, ?_⟩
     refine TTree.node 7 [] rfl ?_
     refine AllP.cons ?_ ?_
     ·refine TStep.d (objs' := [ob1, aSArc 63 a1b_Arcs, ob2, .box [.int .i64 0], ob9, ob3, ob5, ob3]) (v := av11) [] 27 rfl rfl rfl rfl rfl (fun s2 => by refine EOp.eq (e_makeL (c := (cInt .i64)) (d0 := 0) rfl rfl rfl rfl rfl sl22 z3 rfl rfl rfl g6.1 (Int.le_refl _) g6.2.1 g6.2.2) ?_; rfl) ?_
      refine ⟨rfl, ⟨⟨⟨⟨trivial, .inr rfl⟩, .inr rfl⟩, .inr rfl⟩, .inr rfl⟩, ?_⟩
      refine TTree.node 8 [] rfl ?_
      refine AllP.cons ?_ ?_
      ·refine TStep.d (objs' := [ob1, aSArc 63 a1b_Arcs, ob2, .box [.int .i64 0], ob9, ob3, ob5, ob3]) (v := av50) [] 28 rfl rfl rfl rfl rfl (fun s2 => by refine EOp.eq (EOp.qd rfl rfl (q_build2 rfl rfl pl68 rfl)) ?_; rfl) ?_
       refine ⟨rfl, ⟨⟨⟨⟨trivial, .inr rfl⟩, .inr rfl⟩, .inr rfl⟩, .inr rfl⟩, ?_⟩
       refine TTree.node 10 [] rfl ?_
       refine AllP.cons ?_ ?_
       ·refine TStep.n (objs' := [ob1, aSArc 63 a1b_Arcs, ob2, .box [.int .i64 0], ob51, ob3, ob5, ob3]) [] rfl rfl rfl rfl (fun s2 => by refine EOp.eq (e_store_box rfl rfl rfl rfl rfl ty68 rfl rfl rfl rfl) ?_; rfl) ?_
        refine ⟨rfl, ⟨⟨⟨⟨trivial, .inr rfl⟩, .inr rfl⟩, .inr rfl⟩, .inr rfl⟩, ?_⟩
        exact TTree.leaf rfl (sub_gen [0, 1, 2, 3, 4, 5, 6, 7] rfl rfl (zall rfl rfl) ⟨bx rfl rfl rfl, oa rfl, bx rfl rfl rfl, bx rfl rfl rfl, bx rfl rfl rfl, oa rfl, oa rfl, oa rfl, trivial⟩)
       exact AllP.nil
      exact AllP.nil
     exact AllP.nil
    refine AllP.cons ?_ ?_
    ·refine TStep.d (objs' := [ob1, aSArc 63 a1b_Arcs, ob2, .box [.int .i64 0], ob9, ob3, ob3]) (v := av7) [] 27 rfl rfl rfl rfl rfl (fun s2 => by refine EOp.eq (e_makeL (c := (cInt .i64)) (d0 := 0) rfl rfl rfl rfl rfl sl22 z3 rfl rfl rfl g6.1 (Int.le_refl _) g6.2.1 g6.2.2) ?_; rfl) ?_
     refine ⟨rfl, ⟨⟨⟨⟨trivial, .inr rfl⟩, .inr rfl⟩, .inr rfl⟩, .inr rfl⟩, ?_⟩
     refine TTree.node 5 [] rfl ?_
     refine AllP.cons ?_ ?_
     ·refine TStep.d (objs' := [ob1, aSArc 63 a1b_Arcs, ob2, .box [.int .i64 0], ob9, ob3, ob3, ob5]) (v := av18) [] 25 rfl rfl rfl rfl rfl (fun s2 => by refine EOp.eq (e_makeL (c := cBool) (d0 := false) rfl rfl rfl rfl rfl sl53 z4 rfl rfl rfl g5.1 (Int.le_refl _) g5.2.1 g5.2.2) ?_; rfl) ?_
      refine ⟨rfl, ⟨⟨⟨⟨trivial, .inr rfl⟩, .inr rfl⟩, .inr rfl⟩, .inr rfl⟩, ?_⟩
      refine TTree.node 8 [] rfl ?_
      refine AllP.cons ?_ ?_
      ·refine TStep.d (objs' := [ob1, aSArc 63 a1b_Arcs, ob2, .box [.int .i64 0], ob9, ob3, ob3, ob5]) (v := av52) [] 28 rfl rfl rfl rfl rfl (fun s2 => by refine EOp.eq (EOp.qd rfl rfl (q_build2 rfl rfl pl68 rfl)) ?_; rfl) ?_
       refine ⟨rfl, ⟨⟨⟨⟨trivial, .inr rfl⟩, .inr rfl⟩, .inr rfl⟩, .inr rfl⟩, ?_⟩
       refine TTree.node 10 [] rfl ?_
       refine AllP.cons ?_ ?_
       ·refine TStep.n (objs' := [ob1, aSArc 63 a1b_Arcs, ob2, .box [.int .i64 0], ob53, ob3, ob3, ob5]) [] rfl rfl rfl rfl (fun s2 => by refine EOp.eq (e_store_box rfl rfl rfl rfl rfl ty68 rfl rfl rfl rfl) ?_; rfl) ?_
        refine ⟨rfl, ⟨⟨⟨⟨trivial, .inr rfl⟩, .inr rfl⟩, .inr rfl⟩, .inr rfl⟩, ?_⟩
        exact TTree.leaf rfl (sub_gen [0, 1, 2, 3, 4, 5, 7, 6] rfl rfl (zall rfl rfl) ⟨bx rfl rfl rfl, oa rfl, bx rfl rfl rfl, bx rfl rfl rfl, bx rfl rfl rfl, oa rfl, oa rfl, oa rfl, trivial⟩)
       exact AllP.nil
      exact AllP.nil
     exact AllP.nil
    exact AllP.nil
   refine AllP.cons ?_ ?_
   ·refine TStep.d (objs' := [ob1, aSArc 63 a1b_Arcs, ob2, .box [.int .i64 0], ob9, ob5]) (v := av6) [] 25 rfl rfl rfl rfl rfl (fun s2 => by refine EOp.eq (e_makeL (c := cBool) (d0 := false) rfl rfl rfl rfl rfl sl53 z4 rfl rfl rfl g5.1 (Int.le_refl _) g5.2.1 g5.2.2) ?_; rfl) ?_
    refine ⟨rfl, ⟨⟨⟨⟨trivial, .inr rfl⟩, .inr rfl⟩, .inr rfl⟩, .inr rfl⟩, ?_⟩
    refine TTree.node 3 [7] rfl ?_
    refine AllP.cons ?_ ?_
    ·refine TStep.d (objs' := [ob1, aSArc 63 a1b_Arcs, ob2, .box [.int .i64 0], ob9, ob5, ob3]) (v := av7) [] 23 rfl rfl rfl rfl rfl (fun s2 => by refine EOp.eq (e_makeL (c := (cInt .i64)) (d0 := 0) rfl rfl rfl rfl rfl sl22 z3 rfl rfl rfl g4.1 (Int.le_refl _) g4.2.1 g4.2.2) ?_; rfl) ?_
     refine ⟨rfl, ⟨⟨⟨⟨trivial, .inr rfl⟩, .inr rfl⟩, .inr rfl⟩, .inr rfl⟩, ?_⟩
     refine TTree.node 7 [] rfl ?_
     refine AllP.cons ?_ ?_
     ·refine TStep.d (objs' := [ob1, aSArc 63 a1b_Arcs, ob2, .box [.int .i64 0], ob9, ob5, ob3, ob3]) (v := av11) [] 27 rfl rfl rfl rfl rfl (fun s2 => by refine EOp.eq (e_makeL (c := (cInt .i64)) (d0 := 0) rfl rfl rfl rfl rfl sl22 z3 rfl rfl rfl g6.1 (Int.le_refl _) g6.2.1 g6.2.2) ?_; rfl) ?_
      refine ⟨rfl, ⟨⟨⟨⟨trivial, .inr rfl⟩, .inr rfl⟩, .inr rfl⟩, .inr rfl⟩, ?_⟩
      refine TTree.node 8 [] rfl ?_
      refine AllP.cons ?_ ?_
      ·refine TStep.d (objs' := [ob1, aSArc 63 a1b_Arcs, ob2, .box [.int .i64 0], ob9, ob5, ob3, ob3]) (v := av54) [] 28 rfl rfl rfl rfl rfl (fun s2 => by refine EOp.eq (EOp.qd rfl rfl (q_build2 rfl rfl pl68 rfl)) ?_; rfl) ?_
       refine ⟨rfl, ⟨⟨⟨⟨trivial, .inr rfl⟩, .inr rfl⟩, .inr rfl⟩, .inr rfl⟩, ?_⟩
       refine TTree.node 10 [] rfl ?_
       refine AllP.cons ?_ ?_
       ·refine TStep.n (objs' := [ob1, aSArc 63 a1b_Arcs, ob2, .box [.int .i64 0], ob55, ob5, ob3, ob3]) [] rfl rfl rfl rfl (fun s2 => by refine EOp.eq (e_store_box rfl rfl rfl rfl rfl ty68 rfl rfl rfl rfl) ?_; rfl) ?_
        refine ⟨rfl, ⟨⟨⟨⟨trivial, .inr rfl⟩, .inr rfl⟩, .inr rfl⟩, .inr rfl⟩, ?_⟩
        exact TTree.leaf rfl (sub_gen [0, 1, 2, 3, 4, 6, 5, 7] rfl rfl (zall rfl rfl) ⟨bx rfl rfl rfl, oa rfl, bx rfl rfl rfl, bx rfl rfl rfl, bx rfl rfl rfl, oa rfl, oa rfl, oa rfl, trivial⟩)
       exact AllP.nil
      exact AllP.nil
     exact AllP.nil
    refine AllP.cons ?_ ?_
    ·refine TStep.d (objs' := [ob1, aSArc 63 a1b_Arcs, ob2, .box [.int .i64 0], ob9, ob5, ob3]) (v := av7) [] 27 rfl rfl rfl rfl rfl (fun s2 => by refine EOp.eq (e_makeL (c := (cInt .i64)) (d0 := 0) rfl rfl rfl rfl rfl sl22 z3 rfl rfl rfl g6.1 (Int.le_refl _) g6.2.1 g6.2.2) ?_; rfl) ?_
     refine ⟨rfl, ⟨⟨⟨⟨trivial, .inr rfl⟩, .inr rfl⟩, .inr rfl⟩, .inr rfl⟩, ?_⟩
     refine TTree.node 3 [] rfl ?_
     refine AllP.cons ?_ ?_
     ·refine TStep.d (objs' := [ob1, aSArc 63 a1b_Arcs, ob2, .box [.int .i64 0], ob9, ob5, ob3, ob3]) (v := av11) [] 23 rfl rfl rfl rfl rfl (fun s2 => by refine EOp.eq (e_makeL (c := (cInt .i64)) (d0 := 0) rfl rfl rfl rfl rfl sl22 z3 rfl rfl rfl g4.1 (Int.le_refl _) g4.2.1 g4.2.2) ?_; rfl) ?_
      refine ⟨rfl, ⟨⟨⟨⟨trivial, .inr rfl⟩, .inr rfl⟩, .inr rfl⟩, .inr rfl⟩, ?_⟩
      refine TTree.node 8 [] rfl ?_
      refine AllP.cons ?_ ?_
      ·refine TStep.d (objs' := [ob1, aSArc 63 a1b_Arcs, ob2, .box [.int .i64 0], ob9, ob5, ob3, ob3]) (v := av56) [] 28 rfl rfl rfl rfl rfl (fun s2 => by refine EOp.eq (EOp.qd rfl rfl (q_build2 rfl rfl pl68 rfl)) ?_; rfl) ?_
       refine ⟨rfl, ⟨⟨⟨⟨trivial, .inr rfl⟩, .inr rfl⟩, .inr rfl⟩, .inr rfl⟩, ?_⟩
       refine TTree.node 10 [] rfl ?_
       refine AllP.cons ?_ ?_
       ·refine TStep.n (objs' := [ob1, aSArc 63 a1b_Arcs, ob2, .box [.int .i64 0], ob57, ob5, ob3, ob3]) [] rfl rfl rfl rfl (fun s2 => by refine EOp.eq (e_store_box rfl rfl rfl rfl rfl ty68 rfl rfl rfl rfl) ?_; rfl) ?_
        refine ⟨rfl, ⟨⟨⟨⟨trivial, .inr rfl⟩, .inr rfl⟩, .inr rfl⟩, .inr rfl⟩, ?_⟩
        exact TTree.leaf rfl (sub_gen [0, 1, 2, 3, 4, 7, 5, 6] rfl rfl (zall rfl rfl) ⟨bx rfl rfl rfl, oa rfl, bx rfl rfl rfl, bx rfl rfl rfl, bx rfl rfl rfl, oa rfl, oa rfl, oa rfl, trivial⟩)
       exact AllP.nil
      exact AllP.nil
     exact AllP.nil
    exact AllP.nil
   refine AllP.cons ?_ ?_
   ·refine TStep.d (objs' := [ob1, aSArc 63 a1b_Arcs, ob2, .box [.int .i64 0], ob9, ob3]) (v := av14) [] 27 rfl rfl rfl rfl rfl (fun s2 => by refine EOp.eq (e_makeL (c := (cInt .i64)) (d0 := 0) rfl rfl rfl rfl rfl sl22 z3 rfl rfl rfl g6.1 (Int.le_refl _) g6.2.1 g6.2.2) ?_; rfl) ?_
    refine ⟨rfl, ⟨⟨⟨⟨trivial, .inr rfl⟩, .inr rfl⟩, .inr rfl⟩, .inr rfl⟩, ?_⟩
    refine TTree.node 3 [5] rfl ?_
    refine AllP.cons ?_ ?_
    ·refine TStep.d (objs' := [ob1, aSArc 63 a1b_Arcs, ob2, .box [.int .i64 0], ob9, ob3, ob3]) (v := av7) [] 23 rfl rfl rfl rfl rfl (fun s2 => by refine EOp.eq (e_makeL (c := (cInt .i64)) (d0 := 0) rfl rfl rfl rfl rfl sl22 z3 rfl rfl rfl g4.1 (Int.le_refl _) g4.2.1 g4.2.2) ?_; rfl) ?_
     refine ⟨rfl, ⟨⟨⟨⟨trivial, .inr rfl⟩, .inr rfl⟩, .inr rfl⟩, .inr rfl⟩, ?_⟩
     refine TTree.node 5 [] rfl ?_
     refine AllP.cons ?_ ?_
     ·refine TStep.d (objs' := [ob1, aSArc 63 a1b_Arcs, ob2, .box [.int .i64 0], ob9, ob3, ob3, ob5]) (v := av18) [] 25 rfl rfl rfl rfl rfl (fun s2 => by refine EOp.eq (e_makeL (c := cBool) (d0 := false) rfl rfl rfl rfl rfl sl53 z4 rfl rfl rfl g5.1 (Int.le_refl _) g5.2.1 g5.2.2) ?_; rfl) ?_
      refine ⟨rfl, ⟨⟨⟨⟨trivial, .inr rfl⟩, .inr rfl⟩, .inr rfl⟩, .inr rfl⟩, ?_⟩
      refine TTree.node 8 [] rfl ?_
      refine AllP.cons ?_ ?_
      ·refine TStep.d (objs' := [ob1, aSArc 63 a1b_Arcs, ob2, .box [.int .i64 0], ob9, ob3, ob3, ob5]) (v := av58) [] 28 rfl rfl rfl rfl rfl (fun s2 => by refine EOp.eq (EOp.qd rfl rfl (q_build2 rfl rfl pl68 rfl)) ?_; rfl) ?_
       refine ⟨rfl, ⟨⟨⟨⟨trivial, .inr rfl⟩, .inr rfl⟩, .inr rfl⟩, .inr rfl⟩, ?_⟩
       refine TTree.node 10 [] rfl ?_
       refine AllP.cons ?_ ?_
       ·refine TStep.n (objs' := [ob1, aSArc 63 a1b_Arcs, ob2, .box [.int .i64 0], ob59, ob3, ob3, ob5]) [] rfl rfl rfl rfl (fun s2 => by refine EOp.eq (e_store_box rfl rfl rfl rfl rfl ty68 rfl rfl rfl rfl) ?_; rfl) ?_
        refine ⟨rfl, ⟨⟨⟨⟨trivial, .inr rfl⟩, .inr rfl⟩, .inr rfl⟩, .inr rfl⟩, ?_⟩
        exact TTree.leaf rfl (sub_gen [0, 1, 2, 3, 4, 6, 7, 5] rfl rfl (zall rfl rfl) ⟨bx rfl rfl rfl, oa rfl, bx rfl rfl rfl, bx rfl rfl rfl, bx rfl rfl rfl, oa rfl, oa rfl, oa rfl, trivial⟩)
       exact AllP.nil
      exact AllP.nil
     exact AllP.nil
    refine AllP.cons ?_ ?_
    ·refine TStep.d (objs' := [ob1, aSArc 63 a1b_Arcs, ob2, .box [.int .i64 0], ob9, ob3, ob5]) (v := av15) [] 25 rfl rfl rfl rfl rfl (fun s2 => by refine EOp.eq (e_makeL (c := cBool) (d0 := false) rfl rfl rfl rfl rfl sl53 z4 rfl rfl rfl g5.1 (Int.le_refl _) g5.2.1 g5.2.2) ?_; rfl) ?_
     refine ⟨rfl, ⟨⟨⟨⟨trivial, .inr rfl⟩, .inr rfl⟩, .inr rfl⟩, .inr rfl⟩, ?_⟩
     refine TTree.node 3 [] rfl ?_
     refine AllP.cons ?_ ?_
     ·refine TStep.d (objs' := [ob1, aSArc 63 a1b_Arcs, ob2, .box [.int .i64 0], ob9, ob3, ob5, ob3]) (v := av11) [] 23 rfl rfl rfl rfl rfl (fun s2 => by refine EOp.eq (e_makeL (c := (cInt .i64)) (d0 := 0) rfl rfl rfl rfl rfl sl22 z3 rfl rfl rfl g4.1 (Int.le_refl _) g4.2.1 g4.2.2) ?_; rfl) ?_
      refine ⟨rfl, ⟨⟨⟨⟨trivial, .inr rfl⟩, .inr rfl⟩, .inr rfl⟩, .inr rfl⟩, ?_⟩
      refine TTree.node 8 [] rfl ?_
      refine AllP.cons ?_ ?_
      ·refine TStep.d (objs' := [ob1, aSArc 63 a1b_Arcs, ob2, .box [.int .i64 0], ob9, ob3, ob5, ob3]) (v := av60) [] 28 rfl rfl rfl rfl rfl (fun s2 => by refine EOp.eq (EOp.qd rfl rfl (q_build2 rfl rfl pl68 rfl)) ?_; rfl) ?_
       refine ⟨rfl, ⟨⟨⟨⟨trivial, .inr rfl⟩, .inr rfl⟩, .inr rfl⟩, .inr rfl⟩, ?_⟩
       refine TTree.node 10 [] rfl ?_
       refine AllP.cons ?_ ?_
       ·refine TStep.n (objs' := [ob1, aSArc 63 a1b_Arcs, ob2, .box [.int .i64 0], ob61, ob3, ob5, ob3]) [] rfl rfl rfl rfl (fun s2 => by refine EOp.eq (e_store_box rfl rfl rfl rfl rfl ty68 rfl rfl rfl rfl) ?_; rfl) ?_
        refine ⟨rfl, ⟨⟨⟨⟨trivial, .inr rfl⟩, .inr rfl⟩, .inr rfl⟩, .inr rfl⟩, ?_⟩
        exact TTree.leaf rfl (sub_gen [0, 1, 2, 3, 4, 7, 6, 5] rfl rfl (zall rfl rfl) ⟨bx rfl rfl rfl, oa rfl, bx rfl rfl rfl, bx rfl rfl rfl, bx rfl rfl rfl, oa rfl, oa rfl, oa rfl, trivial⟩)
       exact AllP.nil
      exact AllP.nil
     exact AllP.nil
    exact AllP.nil
   exact AllP.nil
  exact AllP.nil
 refine SCode.seq (SCode.seq ?_)
 obtain ⟨c_7, g8, h⟩ := bind_out h
 try dsimp only at h
 refine SCode.region (show SOps _ _ _ [0, 1, 2, 3, 4] _ _ from ?_)
 refine sm rfl rfl rfl rfl rfl (sq rfl rfl rfl (q_field_ptr rfl rfl fd68_4) (sq rfl rfl rfl (q_load_ptr rfl rfl rfl rfl ty22) (se rfl rfl (e_callP (plan_Fair_1_ok F (List.replicate (((a0_caps).length : Int)).toNat (0 : Int)) a1b_Nodes a1b_Arcs c_7 g8) [0, 1] [7] rfl rfl fn31 rfl rfl rfl rfl rfl rfl rfl rfl (nrs ⟨rfl, fun _ _ => nrSArc _ _, trivial⟩) ⟨.inr (.inl ⟨_, _, _, _, _, _, _, rfl, rfl, rfl, Nat.le_refl _, fun _ _ _ _ => rfl, (.head _)⟩), .inl ⟨rfl, rfl⟩, trivial⟩) (sq rfl rfl rfl (q_not rfl rfl) (SOps.nil ?_)))))
 rcases cond_out h with ⟨g9, h⟩ | ⟨g9, h⟩
 ·refine SCode.cond_t rfl g9 (SCode.seq ?_)
  refine SCode.region (show SOps _ _ _ [0, 1, 2, 3] _ _ from ?_)
  refine sq rfl rfl rfl (q_field_ptr rfl rfl fd68_2) (sq rfl rfl rfl (q_load_ptr rfl rfl rfl rfl ty22) (se rfl rfl (e_store_box rfl rfl rfl rfl rfl ty22 rfl rfl rfl rfl) (se rfl rfl (e_store_box rfl rfl rfl rfl rfl ty28 rfl rfl rfl rfl) (SOps.nil (SCode.ret ?_)))))
  obtain rfl := Option.some.inj h
  exact ⟨⟨[(4, .c (.ptr 2 0)), (5, .c (.ptr 3 0))], [.box [.int .i64 a1b_Nodes, .own 1 c_7.2.length], aSArc 63 c_7.2, .box [vI (List.replicate (((a0_caps).length : Int)).toNat (0 : Int))], .box [.int .i64 0]]⟩, _, sub_gen [0, 1, 2, 3] rfl rfl (zall rfl rfl) ⟨bx rfl rfl rfl, oa rfl, ⟨_, rfl, ⟨.inr (.inl ⟨_, _, _, _, _, _, _, rfl, rfl, rfl, Nat.le_refl _, fun _ _ _ _ => rfl, nm rfl⟩), trivial⟩⟩, bx rfl rfl rfl, trivial⟩, resA2 (v1 := .c (vI (List.replicate (((a0_caps).length : Int)).toNat (0 : Int)))) (v2 := .c (.int .i64 0)) rfl ⟨_, rfl, rfl, ty22⟩ ⟨_, rfl, rfl, ty28⟩, ⟨rfl, rfl⟩⟩
 refine SCode.cond_f rfl g9 (SCode.skip ?_)
 refine SCode.join (σ := (List Bool)) (S := fun s => ⟨[(4, .c (.ptr 2 0)), (5, .c (.ptr 3 0)), (7, ci (((a0_caps).length : Int))), (8, .c (.ptr 4 0))], [.box [.int .i64 a1b_Nodes, .own 1 c_7.2.length], aSArc 63 c_7.2, .box [.raw (.slice none 0 0)], .box [.int .i64 0], .box [vI a0_caps, .fnp 31 0, .own 5 (List.replicate (((a0_caps).length : Int)).toNat (0 : Int)).length, .own 6 s.length, .own 7 (List.replicate (((a0_caps).length : Int)).toNat (0 : Int)).length], aI 3 (List.replicate (((a0_caps).length : Int)).toNat (0 : Int)), aB 4 s, aI 3 (List.replicate (((a0_caps).length : Int)).toNat (0 : Int))]⟩) (g := fun s => fair_Fill_f1_31_p40 F a0_caps a1b_Nodes c_7 s = some r) ?_ ?_
 rotate_left
 ·refine SCode.seq ?_
  refine SCode.region (show SOps _ _ _ [0, 1, 2, 3] _ _ from ?_)
  refine sq rfl rfl rfl (q_field_ptr rfl rfl fd68_3) (sq rfl rfl rfl (q_load_ptr rfl rfl rfl rfl ty53) (sq rfl rfl rfl (q_len_own rfl rfl sl53) (sm rfl rfl rfl rfl rfl (SOps.nil (SCode.block (SCode.sub (st' := ⟨[(4, .c (.ptr 2 0)), (5, .c (.ptr 3 0)), (7, ci (((a0_caps).length : Int))), (8, .c (.ptr 4 0)), (38, ci (((List.replicate (((a0_caps).length : Int)).toNat (false : Bool)).length : Int))), (39, ci 0)], [.box [.int .i64 a1b_Nodes, .own 1 c_7.2.length], aSArc 63 c_7.2, .box [.raw (.slice none 0 0)], .box [.int .i64 0], .box [vI a0_caps, .fnp 31 0, .own 5 (List.replicate (((a0_caps).length : Int)).toNat (0 : Int)).length, .own 6 (List.replicate (((a0_caps).length : Int)).toNat (false : Bool)).length, .own 7 (List.replicate (((a0_caps).length : Int)).toNat (0 : Int)).length], aI 3 (List.replicate (((a0_caps).length : Int)).toNat (0 : Int)), aB 4 (List.replicate (((a0_caps).length : Int)).toNat (false : Bool)), aI 3 (List.replicate (((a0_caps).length : Int)).toNat (0 : Int))]⟩) (sub_gen [0, 1, 2, 3, 4, 5, 6, 7] rfl rfl (zall rfl rfl) ⟨bx rfl rfl rfl, oa rfl, bx rfl rfl rfl, bx rfl rfl rfl, bx rfl rfl rfl, oa rfl, oa rfl, oa rfl, trivial⟩) ?_))))))
  refine (SCode.loop (σ := Nat × (Int × (List Bool))) (S := fun s => ⟨[(4, .c (.ptr 2 0)), (5, .c (.ptr 3 0)), (7, ci (((a0_caps).length : Int))), (8, .c (.ptr 4 0)), (38, ci (((List.replicate (((a0_caps).length : Int)).toNat (false : Bool)).length : Int))), (39, ci s.2.1)], [.box [.int .i64 a1b_Nodes, .own 1 c_7.2.length], aSArc 63 c_7.2, .box [.raw (.slice none 0 0)], .box [.int .i64 0], .box [vI a0_caps, .fnp 31 0, .own 5 (List.replicate (((a0_caps).length : Int)).toNat (0 : Int)).length, .own 6 s.2.2.length, .own 7 (List.replicate (((a0_caps).length : Int)).toNat (0 : Int)).length], aI 3 (List.replicate (((a0_caps).length : Int)).toNat (0 : Int)), aB 4 s.2.2, aI 3 (List.replicate (((a0_caps).length : Int)).toNat (0 : Int))]⟩) (g := fun s => fair_Fill_f1_31_l47 F a0_caps a1b_Nodes c_7 s.1 s.2.1 s.2.2 = some r) (μ := fun s => s.1) (F, (0, List.replicate (((a0_caps).length : Int)).toNat (false : Bool))) h ?_)
  rintro ⟨n_47, ⟨t39_43, o6_44⟩⟩ h
  replace h : fair_Fill_f1_31_l47 F a0_caps a1b_Nodes c_7 n_47 t39_43 o6_44 = some r := h
  show SCode _ _ _ ⟨[(4, .c (.ptr 2 0)), (5, .c (.ptr 3 0)), (7, ci (((a0_caps).length : Int))), (8, .c (.ptr 4 0)), (38, ci (((List.replicate (((a0_caps).length : Int)).toNat (false : Bool)).length : Int))), (39, ci t39_43)], [.box [.int .i64 a1b_Nodes, .own 1 c_7.2.length], aSArc 63 c_7.2, .box [.raw (.slice none 0 0)], .box [.int .i64 0], .box [vI a0_caps, .fnp 31 0, .own 5 (List.replicate (((a0_caps).length : Int)).toNat (0 : Int)).length, .own 6 o6_44.length, .own 7 (List.replicate (((a0_caps).length : Int)).toNat (0 : Int)).length], aI 3 (List.replicate (((a0_caps).length : Int)).toNat (0 : Int)), aB 4 o6_44, aI 3 (List.replicate (((a0_caps).length : Int)).toNat (0 : Int))]⟩ _
  cases n_47 with
  | zero => cases h
  | succ n_47 =>
   replace h : fair_Fill_f1_31_b47 F a0_caps a1b_Nodes c_7 (fun t39_43 o6_44 => fair_Fill_f1_31_l47 F a0_caps a1b_Nodes c_7 n_47 t39_43 o6_44) t39_43 o6_44 = some r := h
   unfold fair_Fill_f1_31_b47 at h
   refine SCode.seq ?_
   refine SCode.region (show SOps _ _ _ [0] _ _ from ?_)
   refine sq rfl rfl rfl (q_lss rfl rfl rfl) (SOps.nil (SCode.seq ?_))
   rcases cond_out h with ⟨g48, h⟩ | ⟨g48, h⟩
   ·refine SCode.cond_t rfl g48 (SCode.skip (SCode.seq (SCode.block (SCode.seq ?_))))
    refine SCode.region (show SOps _ _ _ [0, 1] _ _ from ?_)
    refine sm rfl rfl rfl rfl rfl (sa rfl rfl rfl rfl rfl (SOps.nil ?_))
    obtain ⟨g49, h⟩ := guard_out h
    refine SCode.region (show SOps _ _ _ [0, 1, 2, 3, 4] _ _ from ?_)
    refine sq rfl rfl rfl (q_field_ptr rfl rfl fd68_3) (sq rfl rfl rfl (q_load_ptr rfl rfl rfl rfl ty53) (sm rfl rfl rfl rfl rfl (sq rfl rfl rfl (q_index_own rfl rfl rfl sl53 g49.1 g49.2) (se rfl rfl (e_storeL true rfl rfl rfl rfl rfl (toNat_lt g49) ty4 rfl rfl rfl rfl rfl rfl) (SOps.sub (st' := ⟨[(4, .c (.ptr 2 0)), (5, .c (.ptr 3 0)), (7, ci (((a0_caps).length : Int))), (8, .c (.ptr 4 0)), (38, ci (((List.replicate (((a0_caps).length : Int)).toNat (false : Bool)).length : Int))), (39, ci t39_43)], [.box [.int .i64 a1b_Nodes, .own 1 c_7.2.length], aSArc 63 c_7.2, .box [.raw (.slice none 0 0)], .box [.int .i64 0], .box [vI a0_caps, .fnp 31 0, .own 5 (List.replicate (((a0_caps).length : Int)).toNat (0 : Int)).length, .own 6 (o6_44.set t39_43.toNat true).length, .own 7 (List.replicate (((a0_caps).length : Int)).toNat (0 : Int)).length], aI 3 (List.replicate (((a0_caps).length : Int)).toNat (0 : Int)), aB 4 (o6_44.set t39_43.toNat true), aI 3 (List.replicate (((a0_caps).length : Int)).toNat (0 : Int))]⟩) (sub_gen [0, 1, 2, 3, 4, 5, 6, 7] rfl rfl (zall rfl rfl) ⟨bx rfl rfl rfl, oa rfl, bx rfl rfl rfl, bx rfl rfl rfl, ⟨_, rfl, ⟨ii rfl rfl, ii rfl rfl, ii rfl rfl, .inl ⟨rfl, congrArg (Cell.own 6) (List.length_set : (o6_44.set t39_43.toNat true).length = o6_44.length).symm⟩, ii rfl rfl, trivial⟩⟩, oa rfl, oa rfl, oa rfl, trivial⟩) (SOps.nil ?_))))))
    refine SCode.region (show SOps _ _ _ [0, 1] _ _ from ?_)
    refine sq rfl rfl rfl (q_add rfl rfl rfl) (sm rfl rfl rfl rfl rfl (SOps.nil ?_))
    exact ⟨(n_47, (IntKind.wrap .i64 (t39_43 + 1), o6_44.set t39_43.toNat true)), h, Nat.lt_succ_self n_47, sub_gen [0, 1, 2, 3, 4, 5, 6, 7] rfl rfl (zall rfl rfl) ⟨bx rfl rfl rfl, oa rfl, bx rfl rfl rfl, bx rfl rfl rfl, bx rfl rfl rfl, oa rfl, oa rfl, oa rfl, trivial⟩⟩
   refine SCode.cond_f rfl g48 (SCode.exit ?_)
   exact ⟨o6_44, h, sub_gen [0, 1, 2, 3, 4, 5, 6, 7] rfl rfl (zall rfl rfl) ⟨bx rfl rfl rfl, oa rfl, bx rfl rfl rfl, bx rfl rfl rfl, bx rfl rfl rfl, oa rfl, oa rfl, oa rfl, trivial⟩⟩
 rintro o6_10 h
 show SCode _ _ _ ⟨[(4, .c (.ptr 2 0)), (5, .c (.ptr 3 0)), (7, ci (((a0_caps).length : Int))), (8, .c (.ptr 4 0))], [.box [.int .i64 a1b_Nodes, .own 1 c_7.2.length], aSArc 63 c_7.2, .box [.raw (.slice none 0 0)], .box [.int .i64 0], .box [vI a0_caps, .fnp 31 0, .own 5 (List.replicate (((a0_caps).length : Int)).toNat (0 : Int)).length, .own 6 o6_10.length, .own 7 (List.replicate (((a0_caps).length : Int)).toNat (0 : Int)).length], aI 3 (List.replicate (((a0_caps).length : Int)).toNat (0 : Int)), aB 4 o6_10, aI 3 (List.replicate (((a0_caps).length : Int)).toNat (0 : Int))]⟩ _
 replace h : fair_Fill_f1_31_p40 F a0_caps a1b_Nodes c_7 o6_10 = some r := h
 unfold fair_Fill_f1_31_p40 at h
 refine SCode.join (σ := (List SArc) × (List Int) × (List Bool) × (List Int)) (S := fun s => ⟨[(4, .c (.ptr 2 0)), (5, .c (.ptr 3 0)), (8, .c (.ptr 4 0))], [.box [.int .i64 a1b_Nodes, .own 1 s.1.length], aSArc 63 s.1, .box [.raw (.slice none 0 0)], .box [.int .i64 0], .box [vI a0_caps, .fnp 31 0, .own 5 s.2.1.length, .own 6 s.2.2.1.length, .own 7 s.2.2.2.length], aI 3 s.2.1, aB 4 s.2.2.1, aI 3 s.2.2.2]⟩) (g := fun s => fair_Fill_f1_31_p15 s.1 s.2.1 s.2.2.1 s.2.2.2 = some r) ?_ ?_
 rotate_left
 ·refine SCode.seq ?_
  refine SCode.region (show SOps _ _ _ [0, 1] _ _ from ?_)
  refine sm rfl rfl rfl rfl rfl (sm rfl rfl rfl rfl rfl (SOps.nil (SCode.block (SCode.sub (st' := ⟨[(4, .c (.ptr 2 0)), (5, .c (.ptr 3 0)), (8, .c (.ptr 4 0)), (47, ci (((a0_caps).length : Int))), (48, ci 0)], [.box [.int .i64 a1b_Nodes, .own 1 c_7.2.length], aSArc 63 c_7.2, .box [.raw (.slice none 0 0)], .box [.int .i64 0], .box [vI a0_caps, .fnp 31 0, .own 5 (List.replicate (((a0_caps).length : Int)).toNat (0 : Int)).length, .own 6 o6_10.length, .own 7 (List.replicate (((a0_caps).length : Int)).toNat (0 : Int)).length], aI 3 (List.replicate (((a0_caps).length : Int)).toNat (0 : Int)), aB 4 o6_10, aI 3 (List.replicate (((a0_caps).length : Int)).toNat (0 : Int))]⟩) (sub_gen [0, 1, 2, 3, 4, 5, 6, 7] rfl rfl (zall rfl rfl) ⟨bx rfl rfl rfl, oa rfl, bx rfl rfl rfl, bx rfl rfl rfl, bx rfl rfl rfl, oa rfl, oa rfl, oa rfl, trivial⟩) ?_))))
  refine (SCode.loop (σ := Nat × (Int × (List SArc) × (List Int) × (List Bool) × (List Int))) (S := fun s => ⟨[(4, .c (.ptr 2 0)), (5, .c (.ptr 3 0)), (8, .c (.ptr 4 0)), (47, ci (((a0_caps).length : Int))), (48, ci s.2.1)], [.box [.int .i64 a1b_Nodes, .own 1 s.2.2.1.length], aSArc 63 s.2.2.1, .box [.raw (.slice none 0 0)], .box [.int .i64 0], .box [vI a0_caps, .fnp 31 0, .own 5 s.2.2.2.1.length, .own 6 s.2.2.2.2.1.length, .own 7 s.2.2.2.2.2.length], aI 3 s.2.2.2.1, aB 4 s.2.2.2.2.1, aI 3 s.2.2.2.2.2]⟩) (g := fun s => fair_Fill_f1_31_l33 F a0_caps a1b_Nodes s.1 s.2.1 s.2.2.1 s.2.2.2.1 s.2.2.2.2.1 s.2.2.2.2.2 = some r) (μ := fun s => s.1) (F, (0, c_7.2, List.replicate (((a0_caps).length : Int)).toNat (0 : Int), o6_10, List.replicate (((a0_caps).length : Int)).toNat (0 : Int))) h ?_)
  rintro ⟨n_33, ⟨t48_22, o1_23, o5_24, o6_25, o7_26⟩⟩ h
  replace h : fair_Fill_f1_31_l33 F a0_caps a1b_Nodes n_33 t48_22 o1_23 o5_24 o6_25 o7_26 = some r := h
  show SCode _ _ _ ⟨[(4, .c (.ptr 2 0)), (5, .c (.ptr 3 0)), (8, .c (.ptr 4 0)), (47, ci (((a0_caps).length : Int))), (48, ci t48_22)], [.box [.int .i64 a1b_Nodes, .own 1 o1_23.length], aSArc 63 o1_23, .box [.raw (.slice none 0 0)], .box [.int .i64 0], .box [vI a0_caps, .fnp 31 0, .own 5 o5_24.length, .own 6 o6_25.length, .own 7 o7_26.length], aI 3 o5_24, aB 4 o6_25, aI 3 o7_26]⟩ _
  cases n_33 with
  | zero => cases h
  | succ n_33 =>
   replace h : fair_Fill_f1_31_b33 F a0_caps a1b_Nodes (fun t48_22 o1_23 o5_24 o6_25 o7_26 => fair_Fill_f1_31_l33 F a0_caps a1b_Nodes n_33 t48_22 o1_23 o5_24 o6_25 o7_26) t48_22 o1_23 o5_24 o6_25 o7_26 = some r := h
   unfold fair_Fill_f1_31_b33 at h
   refine SCode.seq ?_
   refine SCode.region (show SOps _ _ _ [0] _ _ from ?_)
   refine sq rfl rfl rfl (q_lss rfl rfl rfl) (SOps.nil (SCode.seq ?_))
   rcases cond_out h with ⟨g34, h⟩ | ⟨g34, h⟩
   ·refine SCode.cond_t rfl g34 (SCode.skip (SCode.seq (SCode.block (SCode.seq ?_))))
    obtain ⟨c_35, g36, h⟩ := bind_out h
    try dsimp only at h
    refine SCode.region (show SOps _ _ _ [0] _ _ from ?_)
    refine se rfl rfl (e_call (fair_division_together_f0_p31_ok F a0_caps a1b_Nodes o1_23 o5_24 o6_25 o7_26 c_35 g36) [4, 0, 1, 5, 6, 7] rfl fn43 rfl rfl rfl rfl rfl rfl rfl rfl) (SOps.nil (SCode.seq ?_))
    obtain ⟨c_37, g38, h⟩ := bind_out h
    try dsimp only at h
    refine SCode.region (show SOps _ _ _ [0, 1] _ _ from ?_)
    refine se rfl rfl (e_call (fair_division_single_f0_p31_ok F a0_caps a1b_Nodes c_35.1 c_35.2.1 o6_25 c_35.2.2 c_37 g38) [4, 0, 1, 5, 6, 7] rfl fn44 rfl rfl rfl rfl rfl rfl rfl rfl) (sq rfl rfl rfl (q_not rfl rfl) (SOps.nil ?_))
    rcases cond_out h with ⟨g39, h⟩ | ⟨g39, h⟩
    ·refine SCode.cond_t rfl g39 (SCode.exit ?_)
     exact ⟨(c_37.2.1, c_37.2.2.1, c_37.2.2.2.1, c_37.2.2.2.2), h, sub_gen [0, 1, 2, 3, 4, 5, 6, 7] rfl rfl (zall rfl rfl) ⟨bx rfl rfl rfl, oa rfl, bx rfl rfl rfl, bx rfl rfl rfl, bx rfl rfl rfl, oa rfl, oa rfl, oa rfl, trivial⟩⟩
    refine SCode.cond_f rfl g39 (SCode.skip ?_)
    refine SCode.region (show SOps _ _ _ [0, 1] _ _ from ?_)
    refine sq rfl rfl rfl (q_add rfl rfl rfl) (sm rfl rfl rfl rfl rfl (SOps.nil ?_))
    exact ⟨(n_33, (IntKind.wrap .i64 (t48_22 + 1), c_37.2.1, c_37.2.2.1, c_37.2.2.2.1, c_37.2.2.2.2)), h, Nat.lt_succ_self n_33, sub_gen [0, 1, 2, 3, 4, 5, 6, 7] rfl rfl (zall rfl rfl) ⟨bx rfl rfl rfl, oa rfl, bx rfl rfl rfl, bx rfl rfl rfl, bx rfl rfl rfl, oa rfl, oa rfl, oa rfl, trivial⟩⟩
   refine SCode.cond_f rfl g34 (SCode.exit ?_)
   exact ⟨(o1_23, o5_24, o6_25, o7_26), h, sub_gen [0, 1, 2, 3, 4, 5, 6, 7] rfl rfl (zall rfl rfl) ⟨bx rfl rfl rfl, oa rfl, bx rfl rfl rfl, bx rfl rfl rfl, bx rfl rfl rfl, oa rfl, oa rfl, oa rfl, trivial⟩⟩
 rintro ⟨o1_11, o5_12, o6_13, o7_14⟩ h
 show SCode _ _ _ ⟨[(4, .c (.ptr 2 0)), (5, .c (.ptr 3 0)), (8, .c (.ptr 4 0))], [.box [.int .i64 a1b_Nodes, .own 1 o1_11.length], aSArc 63 o1_11, .box [.raw (.slice none 0 0)], .box [.int .i64 0], .box [vI a0_caps, .fnp 31 0, .own 5 o5_12.length, .own 6 o6_13.length, .own 7 o7_14.length], aI 3 o5_12, aB 4 o6_13, aI 3 o7_14]⟩ _
 replace h : fair_Fill_f1_31_p15 o1_11 o5_12 o6_13 o7_14 = some r := h
 unfold fair_Fill_f1_31_p15 at h
 refine SCode.seq ?_
 refine SCode.region (show SOps _ _ _ [0, 1, 2, 3] _ _ from ?_)
 refine sq rfl rfl rfl (q_field_ptr rfl rfl fd68_2) (sq rfl rfl rfl (q_load_ptr rfl rfl rfl rfl ty22) (se rfl rfl (e_store_box rfl rfl rfl rfl rfl ty22 rfl rfl rfl rfl) (se rfl rfl (e_store_box rfl rfl rfl rfl rfl ty28 rfl rfl rfl rfl) (SOps.nil (SCode.ret ?_)))))
 obtain rfl := Option.some.inj h
 exact ⟨⟨[(4, .c (.ptr 2 0)), (5, .c (.ptr 3 0))], [.box [.int .i64 a1b_Nodes, .own 1 o1_11.length], aSArc 63 o1_11, .box [vI o5_12], .box [.int .i64 0]]⟩, _, sub_gen [0, 1, 2, 3] rfl rfl (zall rfl rfl) ⟨bx rfl rfl rfl, oa rfl, ⟨_, rfl, ⟨.inr (.inl ⟨_, _, _, _, _, _, _, rfl, rfl, rfl, Nat.le_refl _, fun _ _ _ _ => rfl, nm rfl⟩), trivial⟩⟩, bx rfl rfl rfl, trivial⟩, resA2 (v1 := .c (vI o5_12)) (v2 := .c (.int .i64 0)) rfl ⟨_, rfl, rfl, ty22⟩ ⟨_, rfl, rfl, ty28⟩, ⟨rfl, rfl⟩⟩
set_option maxRecDepth 100000 in
set_option maxHeartbeats 8000000 in
theorem plan_Fair_ok (F : Nat) (a0_p : SProblem) (r : (List Int) × Int) (h : plan_Fair F a0_p = some r) :
  SFun Try.prog 16 [] [.a (bSProblem a0_p)] (fun x _ => x = .t [.c (vI r.1), .c (.int .i64 r.2)]) := by
 refine SFun.of (n := 34) Try.func16 rfl rfl rfl ?_
 unfold plan_Fair at h
 show SCode _ _ _ ⟨[(0, .a (bSProblem a0_p))], []⟩ _
 refine SCode.seq ?_
 refine SCode.region (show SOps _ _ _ [0, 1, 2] _ _ from ?_)
 refine se rfl rfl (e_box rfl rfl rfl rfl rfl rfl) (sa rfl rfl rfl rfl rfl (sa rfl rfl rfl rfl rfl (SOps.nil (SCode.seq (SCode.seq ?_)))))
 obtain ⟨c_1, g2, h⟩ := bind_out h
 try dsimp only at h
 refine SCode.region (show SOps _ _ _ [0, 1, 2] _ _ from ?_)
 refine sq rfl rfl rfl (q_load_ptr_all rfl rfl rfl rfl rfl ty26) (sq rfl rfl rfl (q_call (plan_Valid_ok F a0_p c_1 g2) [] rfl fn11 ⟨⟨rfl, rfl⟩, trivial⟩ (.inl rfl)) (sa rfl rfl rfl rfl rfl (SOps.nil (SCode.seq ?_))))
 refine SCode.region (show SOps _ _ _ [0, 1] _ _ from ?_)
 refine sm rfl rfl rfl rfl rfl (sq rfl rfl rfl (q_neq rfl rfl rfl) (SOps.nil ?_))
 rcases cond_out h with ⟨g3, h⟩ | ⟨g3, h⟩
 ·refine SCode.cond_t rfl g3 (SCode.seq ?_)
  refine SCode.region (show SOps _ _ _ [0, 1, 2] _ _ from ?_)
  refine sm rfl rfl rfl rfl rfl (sa rfl rfl rfl rfl rfl (sa rfl rfl rfl rfl rfl (SOps.nil (SCode.ret ?_))))
  obtain rfl := Option.some.inj h
  exact ⟨⟨[(2, .c (vI (([] : List Int)))), (3, ci c_1)], []⟩, _, sub_gen [] rfl rfl ⟨⟨_, rfl, .inr (.inr (.inr (.inl ⟨_, _, rfl, rfl⟩)))⟩, zc rfl rfl, trivial⟩ trivial, resA2 (v1 := .c (vI (([] : List Int)))) (v2 := .c (.int .i64 c_1)) rfl rfl rfl, rfl⟩
 refine SCode.cond_f rfl g3 (SCode.skip (SCode.seq ?_))
 obtain ⟨c_4, g5, h⟩ := bind_out h
 try dsimp only at h
 refine SCode.region (show SOps _ _ _ [0, 1, 2, 3] _ _ from ?_)
 refine sq rfl rfl rfl (q_load_ptr_all rfl rfl rfl rfl rfl ty26) (se rfl rfl (e_call (plan_network_own_ok F a0_p c_4 g5) [] rfl fn27 rfl rfl rfl rfl rfl rfl rfl rfl) (se rfl rfl (e_alloc rfl rfl rfl z49) (se rfl rfl (e_store_box rfl rfl rfl rfl rfl ty49 rfl rfl rfl rfl) (SOps.nil (SCode.seq ?_)))))
 refine SCode.region (show SOps _ _ _ [0] _ _ from ?_)
 refine sa rfl rfl rfl rfl rfl (SOps.nilArrL (T := 3) (k := 1) (cInt .i64) 0 (s := 6) rfl rfl (SOps.nil ?_))
 refine SCode.join (σ := (List Int)) (S := fun s => ⟨[(5, .c (.ptr 0 0)), (6, .c (.own 2 s.length))], [.box [.int .i64 c_4.Nodes, .own 1 c_4.Arcs.length], aSArc 63 c_4.Arcs, aI 3 s]⟩) (g := fun s => plan_Fair_p9 F c_4 s = some r) ?_ ?_
 rotate_left
 ·refine SCode.seq ?_
  refine SCode.region (show SOps _ _ _ [0, 1, 2, 3] _ _ from ?_)
  refine sq rfl rfl rfl (q_field_ptr rfl rfl fd26_4) (sq rfl rfl rfl (q_load_ptr rfl rfl rfl rfl ty24) (sq rfl rfl rfl (q_len_vec rfl rfl sl24) (sm rfl rfl rfl rfl rfl (SOps.nil (SCode.block (SCode.sub (st' := ⟨[(5, .c (.ptr 0 0)), (6, .c (.own 2 ([] : List Int).length)), (17, .c (vSDemand a0_p.Demands)), (18, ci (((a0_p.Demands).length : Int))), (19, ci 0)], [.box [.int .i64 c_4.Nodes, .own 1 c_4.Arcs.length], aSArc 63 c_4.Arcs, aI 3 ([] : List Int)]⟩) (sub_gen [3, 1, 4] rfl rfl (zall rfl rfl) ⟨bx rfl rfl rfl, oa rfl, oa rfl, trivial⟩) ?_))))))
  refine (SCode.loop (σ := Nat × (Int × (List Int))) (S := fun s => ⟨[(5, .c (.ptr 0 0)), (6, .c (.own 2 s.2.2.length)), (17, .c (vSDemand a0_p.Demands)), (18, ci (((a0_p.Demands).length : Int))), (19, ci s.2.1)], [.box [.int .i64 c_4.Nodes, .own 1 c_4.Arcs.length], aSArc 63 c_4.Arcs, aI 3 s.2.2]⟩) (g := fun s => plan_Fair_l18 F a0_p c_4 s.1 s.2.1 s.2.2 = some r) (μ := fun s => s.1) (F, (0, ([] : List Int))) h ?_)
  rintro ⟨n_18, ⟨t19_13, o2_14⟩⟩ h
  replace h : plan_Fair_l18 F a0_p c_4 n_18 t19_13 o2_14 = some r := h
  show SCode _ _ _ ⟨[(5, .c (.ptr 0 0)), (6, .c (.own 2 o2_14.length)), (17, .c (vSDemand a0_p.Demands)), (18, ci (((a0_p.Demands).length : Int))), (19, ci t19_13)], [.box [.int .i64 c_4.Nodes, .own 1 c_4.Arcs.length], aSArc 63 c_4.Arcs, aI 3 o2_14]⟩ _
  cases n_18 with
  | zero => cases h
  | succ n_18 =>
   replace h : plan_Fair_b18 F a0_p c_4 (fun t19_13 o2_14 => plan_Fair_l18 F a0_p c_4 n_18 t19_13 o2_14) t19_13 o2_14 = some r := h
   unfold plan_Fair_b18 at h
   refine SCode.seq ?_
   refine SCode.region (show SOps _ _ _ [0] _ _ from ?_)
   refine sq rfl rfl rfl (q_lss rfl rfl rfl) (SOps.nil (SCode.seq ?_))
   rcases cond_out h with ⟨g19, h⟩ | ⟨g19, h⟩
   ·refine SCode.cond_t rfl g19 (SCode.skip (SCode.seq (SCode.block (SCode.seq ?_))))
    obtain ⟨g20, h⟩ := guard_out h
    refine SCode.region (show SOps _ _ _ [0, 1, 2, 3] _ _ from ?_)
    refine sq rfl rfl rfl (q_index_vec rfl rfl rfl sl24 rfl g20.1 g20.2) (sq rfl rfl rfl (q_load_eptr_all rfl rfl rfl ty39) (se rfl rfl (e_alloc rfl rfl rfl z39) (se rfl rfl (e_store_box rfl rfl rfl rfl rfl ty39 rfl rfl rfl rfl) (SOps.nil ?_))))
    obtain ⟨g21, h⟩ := guard_out h
    refine SCode.region (show SOps _ _ _ [0, 1, 2, 3, 4, 5] _ _ from ?_)
    refine sm rfl rfl rfl rfl rfl (sq rfl rfl rfl (q_field_ptr rfl rfl fd39_2) (sq rfl rfl rfl (q_load_ptr rfl rfl rfl rfl ty3) (sq rfl rfl rfl (q_bsliceL (c := (cInt .i64)) (d0 := 0) [(a0_p.Demands.getD t19_13.toNat dSDemand).Energy] rfl rfl sl22 z3 rfl rfl rfl rfl rfl rfl rfl) (se rfl rfl (e_appendL (c := (cInt .i64)) (d0 := 0) (l := o2_14) (l2 := [(a0_p.Demands.getD t19_13.toNat dSDemand).Energy]) rfl rfl rfl rfl rfl rfl (.inl rfl) sl22 z3 rfl rfl oneInt g21.1 g21.2) (sa rfl rfl rfl rfl rfl (SOps.sub (st' := ⟨[(5, .c (.ptr 0 0)), (6, .c (.own 2 (o2_14 ++ ([(a0_p.Demands.getD t19_13.toNat dSDemand).Energy])).length)), (17, .c (vSDemand a0_p.Demands)), (18, ci (((a0_p.Demands).length : Int))), (19, ci t19_13)], [.box [.int .i64 c_4.Nodes, .own 1 c_4.Arcs.length], aSArc 63 c_4.Arcs, aI 3 (o2_14 ++ ([(a0_p.Demands.getD t19_13.toNat dSDemand).Energy]))]⟩) (sub_gen [0, 1, 4] rfl rfl (zall rfl rfl) ⟨bx rfl rfl rfl, oa rfl, oa rfl, trivial⟩) (SOps.nil ?_)))))))
    refine SCode.region (show SOps _ _ _ [0, 1] _ _ from ?_)
    refine sq rfl rfl rfl (q_add rfl rfl rfl) (sm rfl rfl rfl rfl rfl (SOps.nil ?_))
    exact ⟨(n_18, (IntKind.wrap .i64 (t19_13 + 1), o2_14 ++ ([(a0_p.Demands.getD t19_13.toNat dSDemand).Energy]))), h, Nat.lt_succ_self n_18, sub_gen [0, 1, 2] rfl rfl (zall rfl rfl) ⟨bx rfl rfl rfl, oa rfl, oa rfl, trivial⟩⟩
   refine SCode.cond_f rfl g19 (SCode.exit ?_)
   exact ⟨o2_14, h, sub_gen [0, 1, 2] rfl rfl (zall rfl rfl) ⟨bx rfl rfl rfl, oa rfl, oa rfl, trivial⟩⟩
 rintro o2_6 h
 show SCode _ _ _ ⟨[(5, .c (.ptr 0 0)), (6, .c (.own 2 o2_6.length))], [.box [.int .i64 c_4.Nodes, .own 1 c_4.Arcs.length], aSArc 63 c_4.Arcs, aI 3 o2_6]⟩ _
 replace h : plan_Fair_p9 F c_4 o2_6 = some r := h
 unfold plan_Fair_p9 at h
 refine SCode.seq (SCode.sub (st' := ⟨[(5, .c (.ptr 0 0)), (6, .c (vI o2_6))], [.box [.int .i64 c_4.Nodes, .own 1 c_4.Arcs.length], aSArc 63 c_4.Arcs]⟩) (sub_gen [0, 1] rfl rfl ⟨zc rfl rfl, ⟨_, rfl, .inr (.inl ⟨_, _, _, _, _, _, _, rfl, rfl, rfl, Nat.le_refl _, fun _ _ _ _ => rfl, nm rfl⟩)⟩, trivial⟩ ⟨bx rfl rfl rfl, oa rfl, trivial⟩) ?_)
 obtain ⟨c_7, g8, h⟩ := bind_out h
 try dsimp only at h
 refine SCode.region (show SOps _ _ _ [0, 1, 2, 3, 4, 5, 6] _ _ from ?_)
 refine sm rfl rfl rfl rfl rfl (sq rfl rfl rfl (q_makeFuncP rfl rfl) (se rfl rfl (e_call (fair_Fill_f1_31_ok F o2_6 c_4.Nodes c_4.Arcs c_7 g8) [0, 1] rfl fn30 rfl rfl rfl rfl rfl rfl rfl rfl) (sq rfl rfl rfl (q_extract rfl rfl rfl) (sq rfl rfl rfl (q_extract rfl rfl rfl) (sa rfl rfl rfl rfl rfl (sa rfl rfl rfl rfl rfl (SOps.nil (SCode.ret ?_))))))))
 obtain rfl := Option.some.inj h
 exact ⟨⟨[(2, .c (vI c_7.1)), (3, ci c_7.2.1)], []⟩, _, sub_gen [] rfl rfl (zall rfl rfl) trivial, resA2 (v1 := .c (vI c_7.1)) (v2 := .c (.int .i64 c_7.2.1)) rfl rfl rfl, rfl⟩
end Go.Proofs.Ytfefnffdocmlmaa.W
