/- Written by a program of ours (wip/eng/gen.py): the functions compute their models. -/
import Derived.Test.YtfefnffdocmlmaaFacts
import Derived.Test.YtfefnffdocmlmaaV6x2
namespace Go.Proofs.Ytfefnffdocmlmaa.W
open Go Go.Proofs Go.Proofs.Ytfefnffdocmlmaa.E Go.Proofs.Ytfefnffdocmlmaa.M
set_option linter.unusedVariables false
set_option maxRecDepth 100000 in
set_option maxHeartbeats 8000000 in
theorem flow_build_own_ok (F : Nat) (a0_n : SNet) (r : (List SEdge) × (List (List Int)) × (List Int) × (List Int)) (h : flow_build_own F a0_n = some r) :
  SFun Try.prog 48 [] [.a (bSNet a0_n)] (fun x os => x = .c (.ptr 0 0) ∧ os = [.box [.own 1 r.1.length, vR r.2.1, .own 2 r.2.2.1.length, .own 3 r.2.2.2.length], aSEdge 75 r.1, aI 3 r.2.2.1, aI 3 r.2.2.2]) := by
 refine SFun.of (n := 83) Try.func48 rfl rfl rfl ?_
 unfold flow_build_own at h
 show SCode _ _ _ ⟨[(0, .a (bSNet a0_n))], []⟩ _
 refine SCode.seq ?_
 refine SCode.region (show SOps _ _ _ [0, 1] _ _ from ?_)
 refine se rfl rfl (e_box rfl rfl rfl rfl rfl rfl) (sa rfl rfl rfl rfl rfl (SOps.nil (SCode.seq (SCode.sub (st' := ⟨[(1, .c (.ptr 0 0))], [.box (bSNet a0_n)]⟩) (sub_gen [0] rfl rfl (zall rfl rfl) ⟨bx rfl rfl rfl, trivial⟩) ?_))))
 obtain ⟨g1, h⟩ := guard_out h
 obtain ⟨g2, h⟩ := guard_out h
 obtain ⟨g3, h⟩ := guard_out h
 let ob301 : Ob := .rows 22 3 1 (List.replicate a0_n.Nodes.toNat ([] : List Int)).length (rLen (List.replicate a0_n.Nodes.toNat ([] : List Int))) (rGet (cInt .i64) 0 (List.replicate a0_n.Nodes.toNat ([] : List Int))) none
 let ob303 : Ob := aI 3 (List.replicate a0_n.Nodes.toNat (0 : Int))
 let ob307 : Ob := .box [.raw (.slice none 0 0), .own 1 (List.replicate a0_n.Nodes.toNat ([] : List Int)).length, .own 2 (List.replicate a0_n.Nodes.toNat (0 : Int)).length, .own 3 (List.replicate a0_n.Nodes.toNat (0 : Int)).length]
 let ob309 : Ob := .box [.raw (.slice none 0 0), .own 1 (List.replicate a0_n.Nodes.toNat ([] : List Int)).length, .own 3 (List.replicate a0_n.Nodes.toNat (0 : Int)).length, .own 2 (List.replicate a0_n.Nodes.toNat (0 : Int)).length]
 let ob313 : Ob := .box [.raw (.slice none 0 0), .own 2 (List.replicate a0_n.Nodes.toNat ([] : List Int)).length, .own 1 (List.replicate a0_n.Nodes.toNat (0 : Int)).length, .own 3 (List.replicate a0_n.Nodes.toNat (0 : Int)).length]
 let ob316 : Ob := .box [.raw (.slice none 0 0), .own 3 (List.replicate a0_n.Nodes.toNat ([] : List Int)).length, .own 1 (List.replicate a0_n.Nodes.toNat (0 : Int)).length, .own 2 (List.replicate a0_n.Nodes.toNat (0 : Int)).length]
 let ob318 : Ob := .box [.raw (.slice none 0 0), .own 2 (List.replicate a0_n.Nodes.toNat ([] : List Int)).length, .own 3 (List.replicate a0_n.Nodes.toNat (0 : Int)).length, .own 1 (List.replicate a0_n.Nodes.toNat (0 : Int)).length]
 let ob320 : Ob := .box [.raw (.slice none 0 0), .own 3 (List.replicate a0_n.Nodes.toNat ([] : List Int)).length, .own 2 (List.replicate a0_n.Nodes.toNat (0 : Int)).length, .own 1 (List.replicate a0_n.Nodes.toNat (0 : Int)).length]
 let av302 : AV := .c (.own 1 (List.replicate a0_n.Nodes.toNat ([] : List Int)).length)
 let av304 : AV := .c (.own 2 (List.replicate a0_n.Nodes.toNat (0 : Int)).length)
 let av305 : AV := .c (.own 3 (List.replicate a0_n.Nodes.toNat (0 : Int)).length)
 let av306 : AV := .a [.raw (.slice none 0 0), .own 1 (List.replicate a0_n.Nodes.toNat ([] : List Int)).length, .own 2 (List.replicate a0_n.Nodes.toNat (0 : Int)).length, .own 3 (List.replicate a0_n.Nodes.toNat (0 : Int)).length]
 let av308 : AV := .a [.raw (.slice none 0 0), .own 1 (List.replicate a0_n.Nodes.toNat ([] : List Int)).length, .own 3 (List.replicate a0_n.Nodes.toNat (0 : Int)).length, .own 2 (List.replicate a0_n.Nodes.toNat (0 : Int)).length]
 let av310 : AV := .c (.own 1 (List.replicate a0_n.Nodes.toNat (0 : Int)).length)
 let av311 : AV := .c (.own 2 (List.replicate a0_n.Nodes.toNat ([] : List Int)).length)
 let av312 : AV := .a [.raw (.slice none 0 0), .own 2 (List.replicate a0_n.Nodes.toNat ([] : List Int)).length, .own 1 (List.replicate a0_n.Nodes.toNat (0 : Int)).length, .own 3 (List.replicate a0_n.Nodes.toNat (0 : Int)).length]
 let av314 : AV := .c (.own 3 (List.replicate a0_n.Nodes.toNat ([] : List Int)).length)
 let av315 : AV := .a [.raw (.slice none 0 0), .own 3 (List.replicate a0_n.Nodes.toNat ([] : List Int)).length, .own 1 (List.replicate a0_n.Nodes.toNat (0 : Int)).length, .own 2 (List.replicate a0_n.Nodes.toNat (0 : Int)).length]
 let av317 : AV := .a [.raw (.slice none 0 0), .own 2 (List.replicate a0_n.Nodes.toNat ([] : List Int)).length, .own 3 (List.replicate a0_n.Nodes.toNat (0 : Int)).length, .own 1 (List.replicate a0_n.Nodes.toNat (0 : Int)).length]
 let av319 : AV := .a [.raw (.slice none 0 0), .own 3 (List.replicate a0_n.Nodes.toNat ([] : List Int)).length, .own 2 (List.replicate a0_n.Nodes.toNat (0 : Int)).length, .own 1 (List.replicate a0_n.Nodes.toNat (0 : Int)).length]
 refine SCode.draw2 (sH := [(13, ci a0_n.Nodes), (12, .c (.ptr 0 0)), (10, ci a0_n.Nodes), (9, .c (.ptr 0 0)), (7, ci a0_n.Nodes), (6, .c (.ptr 0 0)), (1, .c (.ptr 0 0))]) mixed [[], [0], [0, 1], [], [3], [3, 4], [], [6], [6, 7], [0, 1, 2, 3, 4, 5, 6, 7, 8], [0, 1, 2, 3, 4, 5, 6, 7, 8, 9], [0, 1, 2, 3, 4, 5, 6, 7, 8, 9, 10]] [2, 5, 8, 9, 10, 11] (fun h => List.getD ([] : List (List Nat)) h []) rfl ?_ ⟨[(1, .c (.ptr 0 0)), (3, .c (.ptr 1 0))], [.box (bSNet a0_n), .box [.own 2 (([] : List SEdge)).length, .own 3 (List.replicate a0_n.Nodes.toNat ([] : List Int)).length, .own 4 (List.replicate a0_n.Nodes.toNat (0 : Int)).length, .own 5 (List.replicate a0_n.Nodes.toNat (0 : Int)).length], aSEdge 75 (([] : List SEdge)), .rows 22 3 1 (List.replicate a0_n.Nodes.toNat ([] : List Int)).length (rLen (List.replicate a0_n.Nodes.toNat ([] : List Int))) (rGet (cInt .i64) 0 (List.replicate a0_n.Nodes.toNat ([] : List Int))) none, aI 3 (List.replicate a0_n.Nodes.toNat (0 : Int)), aI 3 (List.replicate a0_n.Nodes.toNat (0 : Int))]⟩ ?_ ?_
 ·refine HChain.run rfl rfl (.plain rfl) rfl (fun f x => q_field_ptr rfl rfl fd49_0) (HChain.run rfl rfl (.plain rfl) rfl (fun f x => q_load_ptr rfl rfl rfl rfl ty3) (HChain.tail rfl (HChain.run rfl rfl (.plain rfl) rfl (fun f x => q_field_ptr rfl rfl fd49_0) (HChain.run rfl rfl (.plain rfl) rfl (fun f x => q_load_ptr rfl rfl rfl rfl ty3) (HChain.tail rfl (HChain.run rfl rfl (.plain rfl) rfl (fun f x => q_field_ptr rfl rfl fd49_0) (HChain.run rfl rfl (.plain rfl) rfl (fun f x => q_load_ptr rfl rfl rfl rfl ty3) (HChain.tail rfl (HChain.tail rfl ?_)))))))))
  refine HChain.tail rfl (HChain.tail rfl ?_)
  exact HChain.nil _ _
 ·refine TTree.node 2 [5, 8] rfl ?_
  refine AllP.cons ?_ ?_
  ·refine TStep.d (objs' := [.box (bSNet a0_n), ob301]) (v := av302) [] 8 rfl rfl rfl rfl rfl (fun s2 => by refine EOp.eq (e_makeRows (T := 3) (k := 1) (cInt .i64) 0 rfl rfl rfl rfl rfl sl23 z22 g1.1 (Int.le_refl _) g1.2.1 g1.2.2) ?_; rfl) ?_
   refine ⟨rfl, ⟨trivial, .inr rfl⟩, ?_⟩
   refine TTree.node 5 [8] rfl ?_
   refine AllP.cons ?_ ?_
   ·refine TStep.d (objs' := [.box (bSNet a0_n), ob301, ob303]) (v := av304) [] 11 rfl rfl rfl rfl rfl (fun s2 => by refine EOp.eq (e_makeL (c := (cInt .i64)) (d0 := 0) rfl rfl rfl rfl rfl sl22 z3 rfl rfl rfl g2.1 (Int.le_refl _) g2.2.1 g2.2.2) ?_; rfl) ?_
    refine ⟨rfl, ⟨trivial, .inr rfl⟩, ?_⟩
    refine TTree.node 8 [] rfl ?_
    refine AllP.cons ?_ ?_
    ·refine TStep.d (objs' := [.box (bSNet a0_n), ob301, ob303, ob303]) (v := av305) [] 14 rfl rfl rfl rfl rfl (fun s2 => by refine EOp.eq (e_makeL (c := (cInt .i64)) (d0 := 0) rfl rfl rfl rfl rfl sl22 z3 rfl rfl rfl g3.1 (Int.le_refl _) g3.2.1 g3.2.2) ?_; rfl) ?_
     refine ⟨rfl, ⟨trivial, .inr rfl⟩, ?_⟩
     refine TTree.node 9 [] rfl ?_
     refine AllP.cons ?_ ?_
     ·refine TStep.d (objs' := [.box (bSNet a0_n), ob301, ob303, ob303]) (v := av306) [] 15 rfl rfl rfl rfl rfl (fun s2 => by refine EOp.eq (EOp.qd rfl rfl (q_build2 rfl rfl pl78 rfl)) ?_; rfl) ?_
      refine ⟨rfl, ⟨trivial, .inr rfl⟩, ?_⟩
      refine TTree.node 10 [] rfl ?_
      refine AllP.cons ?_ ?_
      ·refine TStep.d (objs' := [.box (bSNet a0_n), ob301, ob303, ob303, ob307]) (v := .c (.ptr 4 0)) [] 16 rfl rfl rfl rfl rfl (fun s2 => by refine EOp.eq (e_box rfl rfl rfl rfl rfl rfl) ?_; rfl) ?_
       refine ⟨rfl, ⟨trivial, .inr rfl⟩, ?_⟩
       refine TTree.node 11 [] rfl ?_
       refine AllP.cons ?_ ?_
       ·refine TStep.d (objs' := [.box (bSNet a0_n), ob301, ob303, ob303, ob307]) (v := .c (.ptr 4 0)) [] 3 rfl rfl rfl rfl rfl (fun s2 => by refine EOp.eq (EOp.qd rfl rfl (q_assign rfl rfl)) ?_; rfl) ?_
        refine ⟨rfl, ⟨trivial, .inr rfl⟩, ?_⟩
        exact TTree.leaf rfl (Sub.trans (Sub.nilBox (id := 4) (j := 0) (T := 75) (k := 2) (g := gL cSEdge dSEdge ([] : List SEdge)) rfl rfl) (sub_gen [0, 4, 5, 1, 2, 3] rfl rfl (zall rfl rfl) ⟨bx rfl rfl rfl, bx rfl rfl rfl, oa rfl, ⟨none, rfl, trivial⟩, oa rfl, oa rfl, trivial⟩))
       exact AllP.nil
      exact AllP.nil
     exact AllP.nil
    exact AllP.nil
   refine AllP.cons ?_ ?_
   ·refine TStep.d (objs' := [.box (bSNet a0_n), ob301, ob303]) (v := av304) [] 14 rfl rfl rfl rfl rfl (fun s2 => by refine EOp.eq (e_makeL (c := (cInt .i64)) (d0 := 0) rfl rfl rfl rfl rfl sl22 z3 rfl rfl rfl g3.1 (Int.le_refl _) g3.2.1 g3.2.2) ?_; rfl) ?_
    refine ⟨rfl, ⟨trivial, .inr rfl⟩, ?_⟩
    refine TTree.node 5 [] rfl ?_
    refine AllP.cons ?_ ?_
    ·refine TStep.d (objs' := [.box (bSNet a0_n), ob301, ob303, ob303]) (v := av305) [] 11 rfl rfl rfl rfl rfl (fun s2 => by refine EOp.eq (e_makeL (c := (cInt .i64)) (d0 := 0) rfl rfl rfl rfl rfl sl22 z3 rfl rfl rfl g2.1 (Int.le_refl _) g2.2.1 g2.2.2) ?_; rfl) ?_
     refine ⟨rfl, ⟨trivial, .inr rfl⟩, ?_⟩
     refine TTree.node 9 [] rfl ?_
     refine AllP.cons ?_ ?_
     ·refine TStep.d (objs' := [.box (bSNet a0_n), ob301, ob303, ob303]) (v := av308) [] 15 rfl rfl rfl rfl rfl (fun s2 => by refine EOp.eq (EOp.qd rfl rfl (q_build2 rfl rfl pl78 rfl)) ?_; rfl) ?_
      refine ⟨rfl, ⟨trivial, .inr rfl⟩, ?_⟩
      refine TTree.node 10 [] rfl ?_
      refine AllP.cons ?_ ?_
      ·refine TStep.d (objs' := [.box (bSNet a0_n), ob301, ob303, ob303, ob309]) (v := .c (.ptr 4 0)) [] 16 rfl rfl rfl rfl rfl (fun s2 => by refine EOp.eq (e_box rfl rfl rfl rfl rfl rfl) ?_; rfl) ?_
       refine ⟨rfl, ⟨trivial, .inr rfl⟩, ?_⟩
       refine TTree.node 11 [] rfl ?_
       refine AllP.cons ?_ ?_
       ·refine TStep.d (objs' := [.box (bSNet a0_n), ob301, ob303, ob303, ob309]) (v := .c (.ptr 4 0)) [] 3 rfl rfl rfl rfl rfl (fun s2 => by refine EOp.eq (EOp.qd rfl rfl (q_assign rfl rfl)) ?_; rfl) ?_
        refine ⟨rfl, ⟨trivial, .inr rfl⟩, ?_⟩
        exact TTree.leaf rfl (Sub.trans (Sub.nilBox (id := 4) (j := 0) (T := 75) (k := 2) (g := gL cSEdge dSEdge ([] : List SEdge)) rfl rfl) (sub_gen [0, 4, 5, 1, 3, 2] rfl rfl (zall rfl rfl) ⟨bx rfl rfl rfl, bx rfl rfl rfl, oa rfl, ⟨none, rfl, trivial⟩, oa rfl, oa rfl, trivial⟩))
       exact AllP.nil
      exact AllP.nil
     exact AllP.nil
    exact AllP.nil
   exact AllP.nil
  refine AllP.cons ?_ ?_
  ·refine TStep.d (objs' := [.box (bSNet a0_n), ob303]) (v := av310) [] 11 rfl rfl rfl rfl rfl (fun s2 => by refine EOp.eq (e_makeL (c := (cInt .i64)) (d0 := 0) rfl rfl rfl rfl rfl sl22 z3 rfl rfl rfl g2.1 (Int.le_refl _) g2.2.1 g2.2.2) ?_; rfl) ?_
   refine ⟨rfl, ⟨trivial, .inr rfl⟩, ?_⟩
   refine TTree.node 2 [8] rfl ?_
   refine AllP.cons ?_ ?_
   ·refine TStep.d (objs' := [.box (bSNet a0_n), ob303, ob301]) (v := av311) [] 8 rfl rfl rfl rfl rfl (fun s2 => by refine EOp.eq (e_makeRows (T := 3) (k := 1) (cInt .i64) 0 rfl rfl rfl rfl rfl sl23 z22 g1.1 (Int.le_refl _) g1.2.1 g1.2.2) ?_; rfl) ?_
    refine ⟨rfl, ⟨trivial, .inr rfl⟩, ?_⟩
    refine TTree.node 8 [] rfl ?_
    refine AllP.cons ?_ ?_
    ·refine TStep.d (objs' := [.box (bSNet a0_n), ob303, ob301, ob303]) (v := av305) [] 14 rfl rfl rfl rfl rfl (fun s2 => by refine EOp.eq (e_makeL (c := (cInt .i64)) (d0 := 0) rfl rfl rfl rfl rfl sl22 z3 rfl rfl rfl g3.1 (Int.le_refl _) g3.2.1 g3.2.2) ?_; rfl) ?_
     refine ⟨rfl, ⟨trivial, .inr rfl⟩, ?_⟩
     refine TTree.node 9 [] rfl ?_
     refine AllP.cons ?_ ?_
     ·refine TStep.d (objs' := [.box (bSNet a0_n), ob303, ob301, ob303]) (v := av312) [] 15 rfl rfl rfl rfl rfl (fun s2 => by refine EOp.eq (EOp.qd rfl rfl (q_build2 rfl rfl pl78 rfl)) ?_; rfl) ?_
      refine ⟨rfl, ⟨trivial, .inr rfl⟩, ?_⟩
      refine TTree.node 10 [] rfl ?_
      refine AllP.cons ?_ ?_
      ·refine TStep.d (objs' := [.box (bSNet a0_n), ob303, ob301, ob303, ob313]) (v := .c (.ptr 4 0)) [] 16 rfl rfl rfl rfl rfl (fun s2 => by refine EOp.eq (e_box rfl rfl rfl rfl rfl rfl) ?_; rfl) ?_
       refine ⟨rfl, ⟨trivial, .inr rfl⟩, ?_⟩
       refine TTree.node 11 [] rfl ?_
       refine AllP.cons ?_ ?_
       ·refine TStep.d (objs' := [.box (bSNet a0_n), ob303, ob301, ob303, ob313]) (v := .c (.ptr 4 0)) [] 3 rfl rfl rfl rfl rfl (fun s2 => by refine EOp.eq (EOp.qd rfl rfl (q_assign rfl rfl)) ?_; rfl) ?_
        refine ⟨rfl, ⟨trivial, .inr rfl⟩, ?_⟩
        exact TTree.leaf rfl (Sub.trans (Sub.nilBox (id := 4) (j := 0) (T := 75) (k := 2) (g := gL cSEdge dSEdge ([] : List SEdge)) rfl rfl) (sub_gen [0, 4, 5, 2, 1, 3] rfl rfl (zall rfl rfl) ⟨bx rfl rfl rfl, bx rfl rfl rfl, oa rfl, ⟨none, rfl, trivial⟩, oa rfl, oa rfl, trivial⟩))
       exact AllP.nil
      exact AllP.nil
     exact AllP.nil
    exact AllP.nil
   refine AllP.cons ?_ ?_
   ·refine TStep.d (objs' := [.box (bSNet a0_n), ob303, ob303]) (v := av304) [] 14 rfl rfl rfl rfl rfl (fun s2 => by refine EOp.eq (e_makeL (c := (cInt .i64)) (d0 := 0) rfl rfl rfl rfl rfl sl22 z3 rfl rfl rfl g3.1 (Int.le_refl _) g3.2.1 g3.2.2) ?_; rfl) ?_
    refine ⟨rfl, ⟨trivial, .inr rfl⟩, ?_⟩
    refine TTree.node 2 [] rfl ?_
    refine AllP.cons ?_ ?_
    ·refine TStep.d (objs' := [.box (bSNet a0_n), ob303, ob303, ob301]) (v := av314) [] 8 rfl rfl rfl rfl rfl (fun s2 => by refine EOp.eq (e_makeRows (T := 3) (k := 1) (cInt .i64) 0 rfl rfl rfl rfl rfl sl23 z22 g1.1 (Int.le_refl _) g1.2.1 g1.2.2) ?_; rfl) ?_
     refine ⟨rfl, ⟨trivial, .inr rfl⟩, ?_⟩
     refine TTree.node 9 [] rfl ?_
     refine AllP.cons ?_ ?_
     ·refine TStep.d (objs' := [.box (bSNet a0_n), ob303, ob303, ob301]) (v := av315) [] 15 rfl rfl rfl rfl rfl (fun s2 => by refine EOp.eq (EOp.qd rfl rfl (q_build2 rfl rfl pl78 rfl)) ?_; rfl) ?_
      refine ⟨rfl, ⟨trivial, .inr rfl⟩, ?_⟩
      refine TTree.node 10 [] rfl ?_
      refine AllP.cons ?_ ?_
      ·refine TStep.d (objs' := [.box (bSNet a0_n), ob303, ob303, ob301, ob316]) (v := .c (.ptr 4 0)) [] 16 rfl rfl rfl rfl rfl (fun s2 => by refine EOp.eq (e_box rfl rfl rfl rfl rfl rfl) ?_; rfl) ?_
       refine ⟨rfl, ⟨trivial, .inr rfl⟩, ?_⟩
       refine TTree.node 11 [] rfl ?_
       refine AllP.cons ?_ ?_
       ·refine TStep.d (objs' := [.box (bSNet a0_n), ob303, ob303, ob301, ob316]) (v := .c (.ptr 4 0)) [] 3 rfl rfl rfl rfl rfl (fun s2 => by refine EOp.eq (EOp.qd rfl rfl (q_assign rfl rfl)) ?_; rfl) ?_
        refine ⟨rfl, ⟨trivial, .inr rfl⟩, ?_⟩
        exact TTree.leaf rfl (Sub.trans (Sub.nilBox (id := 4) (j := 0) (T := 75) (k := 2) (g := gL cSEdge dSEdge ([] : List SEdge)) rfl rfl) (sub_gen [0, 4, 5, 3, 1, 2] rfl rfl (zall rfl rfl) ⟨bx rfl rfl rfl, bx rfl rfl rfl, oa rfl, ⟨none, rfl, trivial⟩, oa rfl, oa rfl, trivial⟩))
       exact AllP.nil
      exact AllP.nil
     exact AllP.nil
    exact AllP.nil
   exact AllP.nil
  refine AllP.cons ?_ ?_
  ·refine TStep.d (objs' := [.box (bSNet a0_n), ob303]) (v := av310) [] 14 rfl rfl rfl rfl rfl (fun s2 => by refine EOp.eq (e_makeL (c := (cInt .i64)) (d0 := 0) rfl rfl rfl rfl rfl sl22 z3 rfl rfl rfl g3.1 (Int.le_refl _) g3.2.1 g3.2.2) ?_; rfl) ?_
   refine ⟨rfl, ⟨trivial, .inr rfl⟩, ?_⟩
   refine TTree.node 2 [5] rfl ?_
   refine AllP.cons ?_ ?_
   ·refine TStep.d (objs' := [.box (bSNet a0_n), ob303, ob301]) (v := av311) [] 8 rfl rfl rfl rfl rfl (fun s2 => by refine EOp.eq (e_makeRows (T := 3) (k := 1) (cInt .i64) 0 rfl rfl rfl rfl rfl sl23 z22 g1.1 (Int.le_refl _) g1.2.1 g1.2.2) ?_; rfl) ?_
    refine ⟨rfl, ⟨trivial, .inr rfl⟩, ?_⟩
    refine TTree.node 5 [] rfl ?_
    refine AllP.cons ?_ ?_
    ·refine TStep.d (objs' := [.box (bSNet a0_n), ob303, ob301, ob303]) (v := av305) [] 11 rfl rfl rfl rfl rfl (fun s2 => by refine EOp.eq (e_makeL (c := (cInt .i64)) (d0 := 0) rfl rfl rfl rfl rfl sl22 z3 rfl rfl rfl g2.1 (Int.le_refl _) g2.2.1 g2.2.2) ?_; rfl) ?_
     refine ⟨rfl, ⟨trivial, .inr rfl⟩, ?_⟩
     refine TTree.node 9 [] rfl ?_
     refine AllP.cons ?_ ?_
     ·refine TStep.d (objs' := [.box (bSNet a0_n), ob303, ob301, ob303]) (v := av317) [] 15 rfl rfl rfl rfl rfl (fun s2 => by refine EOp.eq (EOp.qd rfl rfl (q_build2 rfl rfl pl78 rfl)) ?_; rfl) ?_
      refine ⟨rfl, ⟨trivial, .inr rfl⟩, ?_⟩
      refine TTree.node 10 [] rfl ?_
      refine AllP.cons ?_ ?_
      ·refine TStep.d (objs' := [.box (bSNet a0_n), ob303, ob301, ob303, ob318]) (v := .c (.ptr 4 0)) [] 16 rfl rfl rfl rfl rfl (fun s2 => by refine EOp.eq (e_box rfl rfl rfl rfl rfl rfl) ?_; rfl) ?_
       refine ⟨rfl, ⟨trivial, .inr rfl⟩, ?_⟩
       refine TTree.node 11 [] rfl ?_
       refine AllP.cons ?_ ?_
       ·refine TStep.d (objs' := [.box (bSNet a0_n), ob303, ob301, ob303, ob318]) (v := .c (.ptr 4 0)) [] 3 rfl rfl rfl rfl rfl (fun s2 => by refine EOp.eq (EOp.qd rfl rfl (q_assign rfl rfl)) ?_; rfl) ?_
        refine ⟨rfl, ⟨trivial, .inr rfl⟩, ?_⟩
        exact TTree.leaf rfl (Sub.trans (Sub.nilBox (id := 4) (j := 0) (T := 75) (k := 2) (g := gL cSEdge dSEdge ([] : List SEdge)) rfl rfl) (sub_gen [0, 4, 5, 2, 3, 1] rfl rfl (zall rfl rfl) ⟨bx rfl rfl rfl, bx rfl rfl rfl, oa rfl, ⟨none, rfl, trivial⟩, oa rfl, oa rfl, trivial⟩))
       exact AllP.nil
      exact AllP.nil
     exact AllP.nil
    exact AllP.nil
   refine AllP.cons ?_ ?_
   ·refine TStep.d (objs' := [.box (bSNet a0_n), ob303, ob303]) (v := av304) [] 11 rfl rfl rfl rfl rfl (fun s2 => by refine EOp.eq (e_makeL (c := (cInt .i64)) (d0 := 0) rfl rfl rfl rfl rfl sl22 z3 rfl rfl rfl g2.1 (Int.le_refl _) g2.2.1 g2.2.2) ?_; rfl) ?_
    refine ⟨rfl, ⟨trivial, .inr rfl⟩, ?_⟩
    refine TTree.node 2 [] rfl ?_
    refine AllP.cons ?_ ?_
    ·refine TStep.d (objs' := [.box (bSNet a0_n), ob303, ob303, ob301]) (v := av314) [] 8 rfl rfl rfl rfl rfl (fun s2 => by refine EOp.eq (e_makeRows (T := 3) (k := 1) (cInt .i64) 0 rfl rfl rfl rfl rfl sl23 z22 g1.1 (Int.le_refl _) g1.2.1 g1.2.2) ?_; rfl) ?_
     refine ⟨rfl, ⟨trivial, .inr rfl⟩, ?_⟩
     refine TTree.node 9 [] rfl ?_
     refine AllP.cons ?_ ?_
     ·refine TStep.d (objs' := [.box (bSNet a0_n), ob303, ob303, ob301]) (v := av319) [] 15 rfl rfl rfl rfl rfl (fun s2 => by refine EOp.eq (EOp.qd rfl rfl (q_build2 rfl rfl pl78 rfl)) ?_; rfl) ?_
      refine ⟨rfl, ⟨trivial, .inr rfl⟩, ?_⟩
      refine TTree.node 10 [] rfl ?_
      refine AllP.cons ?_ ?_
      ·refine TStep.d (objs' := [.box (bSNet a0_n), ob303, ob303, ob301, ob320]) (v := .c (.ptr 4 0)) [] 16 rfl rfl rfl rfl rfl (fun s2 => by refine EOp.eq (e_box rfl rfl rfl rfl rfl rfl) ?_; rfl) ?_
       refine ⟨rfl, ⟨trivial, .inr rfl⟩, ?_⟩
       refine TTree.node 11 [] rfl ?_
       refine AllP.cons ?_ ?_
       ·refine TStep.d (objs' := [.box (bSNet a0_n), ob303, ob303, ob301, ob320]) (v := .c (.ptr 4 0)) [] 3 rfl rfl rfl rfl rfl (fun s2 => by refine EOp.eq (EOp.qd rfl rfl (q_assign rfl rfl)) ?_; rfl) ?_
        refine ⟨rfl, ⟨trivial, .inr rfl⟩, ?_⟩
        exact TTree.leaf rfl (Sub.trans (Sub.nilBox (id := 4) (j := 0) (T := 75) (k := 2) (g := gL cSEdge dSEdge ([] : List SEdge)) rfl rfl) (sub_gen [0, 4, 5, 3, 2, 1] rfl rfl (zall rfl rfl) ⟨bx rfl rfl rfl, bx rfl rfl rfl, oa rfl, ⟨none, rfl, trivial⟩, oa rfl, oa rfl, trivial⟩))
       exact AllP.nil
      exact AllP.nil
     exact AllP.nil
    exact AllP.nil
   exact AllP.nil
  exact AllP.nil
 refine SCode.join (σ := (List SEdge) × (List (List Int))) (S := fun s => ⟨[(3, .c (.ptr 0 0))], [.box [.own 1 s.1.length, .own 2 s.2.length, .own 3 (List.replicate a0_n.Nodes.toNat (0 : Int)).length, .own 4 (List.replicate a0_n.Nodes.toNat (0 : Int)).length], aSEdge 75 s.1, .rows 22 3 1 s.2.length (rLen s.2) (rGet (cInt .i64) 0 s.2) none, aI 3 (List.replicate a0_n.Nodes.toNat (0 : Int)), aI 3 (List.replicate a0_n.Nodes.toNat (0 : Int))]⟩) (g := fun s => flow_build_own_p6 a0_n s.1 s.2 = some r) ?_ ?_
 rotate_left
 ·refine SCode.seq ?_
  refine SCode.region (show SOps _ _ _ [0, 1, 2, 3] _ _ from ?_)
  refine sq rfl rfl rfl (q_field_ptr rfl rfl fd49_1) (sq rfl rfl rfl (q_load_ptr rfl rfl rfl rfl ty47) (sq rfl rfl rfl (q_len_vec rfl rfl sl47) (sm rfl rfl rfl rfl rfl (SOps.sub (st' := ⟨[(3, .c (.ptr 0 0)), (18, .c (vSArc a0_n.Arcs)), (19, ci (((a0_n.Arcs).length : Int))), (20, ci 0)], [.box [.own 1 (([] : List SEdge)).length, .own 2 (List.replicate a0_n.Nodes.toNat ([] : List Int)).length, .own 3 (List.replicate a0_n.Nodes.toNat (0 : Int)).length, .own 4 (List.replicate a0_n.Nodes.toNat (0 : Int)).length], aSEdge 75 (([] : List SEdge)), .rows 22 3 1 (List.replicate a0_n.Nodes.toNat ([] : List Int)).length (rLen (List.replicate a0_n.Nodes.toNat ([] : List Int))) (rGet (cInt .i64) 0 (List.replicate a0_n.Nodes.toNat ([] : List Int))) none, aI 3 (List.replicate a0_n.Nodes.toNat (0 : Int)), aI 3 (List.replicate a0_n.Nodes.toNat (0 : Int))]⟩) (sub_gen [1, 2, 3, 4, 5] rfl rfl (zall rfl rfl) ⟨bx rfl rfl rfl, oa rfl, ⟨none, rfl, trivial⟩, oa rfl, oa rfl, trivial⟩) (SOps.nil (SCode.block (SCode.sub (st' := ⟨[(3, .c (.ptr 0 0)), (18, .c (vSArc a0_n.Arcs)), (19, ci (((a0_n.Arcs).length : Int))), (20, ci 0)], [.box [.own 1 ([] : List SEdge).length, .own 2 (List.replicate a0_n.Nodes.toNat ([] : List Int)).length, .own 3 (List.replicate a0_n.Nodes.toNat (0 : Int)).length, .own 4 (List.replicate a0_n.Nodes.toNat (0 : Int)).length], aSEdge 75 ([] : List SEdge), .rows 22 3 1 (List.replicate a0_n.Nodes.toNat ([] : List Int)).length (rLen (List.replicate a0_n.Nodes.toNat ([] : List Int))) (rGet (cInt .i64) 0 (List.replicate a0_n.Nodes.toNat ([] : List Int))) none, aI 3 (List.replicate a0_n.Nodes.toNat (0 : Int)), aI 3 (List.replicate a0_n.Nodes.toNat (0 : Int))]⟩) (sub_gen [0, 1, 2, 3, 4] rfl rfl (zall rfl rfl) ⟨bx rfl rfl rfl, oa rfl, ⟨none, rfl, trivial⟩, oa rfl, oa rfl, trivial⟩) ?_)))))))
  refine (SCode.loop (σ := Nat × (Int × (List SEdge) × (List (List Int)))) (S := fun s => ⟨[(3, .c (.ptr 0 0)), (18, .c (vSArc a0_n.Arcs)), (19, ci (((a0_n.Arcs).length : Int))), (20, ci s.2.1)], [.box [.own 1 s.2.2.1.length, .own 2 s.2.2.2.length, .own 3 (List.replicate a0_n.Nodes.toNat (0 : Int)).length, .own 4 (List.replicate a0_n.Nodes.toNat (0 : Int)).length], aSEdge 75 s.2.2.1, .rows 22 3 1 s.2.2.2.length (rLen s.2.2.2) (rGet (cInt .i64) 0 s.2.2.2) none, aI 3 (List.replicate a0_n.Nodes.toNat (0 : Int)), aI 3 (List.replicate a0_n.Nodes.toNat (0 : Int))]⟩) (g := fun s => flow_build_own_l36 a0_n s.1 s.2.1 s.2.2.1 s.2.2.2 = some r) (μ := fun s => s.1) (F, (0, ([] : List SEdge), List.replicate a0_n.Nodes.toNat ([] : List Int))) h ?_)
  rintro ⟨n_36, ⟨t20_20, o1_21, o2_22⟩⟩ h
  replace h : flow_build_own_l36 a0_n n_36 t20_20 o1_21 o2_22 = some r := h
  show SCode _ _ _ ⟨[(3, .c (.ptr 0 0)), (18, .c (vSArc a0_n.Arcs)), (19, ci (((a0_n.Arcs).length : Int))), (20, ci t20_20)], [.box [.own 1 o1_21.length, .own 2 o2_22.length, .own 3 (List.replicate a0_n.Nodes.toNat (0 : Int)).length, .own 4 (List.replicate a0_n.Nodes.toNat (0 : Int)).length], aSEdge 75 o1_21, .rows 22 3 1 o2_22.length (rLen o2_22) (rGet (cInt .i64) 0 o2_22) none, aI 3 (List.replicate a0_n.Nodes.toNat (0 : Int)), aI 3 (List.replicate a0_n.Nodes.toNat (0 : Int))]⟩ _
  cases n_36 with
  | zero => cases h
  | succ n_36 =>
   replace h : flow_build_own_b36 a0_n (fun t20_20 o1_21 o2_22 => flow_build_own_l36 a0_n n_36 t20_20 o1_21 o2_22) t20_20 o1_21 o2_22 = some r := h
   unfold flow_build_own_b36 at h
   refine SCode.seq ?_
   refine SCode.region (show SOps _ _ _ [0] _ _ from ?_)
   refine sq rfl rfl rfl (q_lss rfl rfl rfl) (SOps.sub (st' := ⟨[(3, .c (.ptr 0 0)), (18, .c (vSArc a0_n.Arcs)), (19, ci (((a0_n.Arcs).length : Int))), (20, ci t20_20), (21, .c (.bool (decide (t20_20 < ((a0_n.Arcs).length : Int)))))], [.box [.own 1 o1_21.length, .own 2 o2_22.length, .own 3 (List.replicate a0_n.Nodes.toNat (0 : Int)).length, .own 4 (List.replicate a0_n.Nodes.toNat (0 : Int)).length], aSEdge 75 o1_21, .rows 22 3 1 o2_22.length (rLen o2_22) (rGet (cInt .i64) 0 o2_22) none, aI 3 (List.replicate a0_n.Nodes.toNat (0 : Int)), aI 3 (List.replicate a0_n.Nodes.toNat (0 : Int))]⟩) (sub_gen [0, 1, 2, 3, 4] rfl rfl (zall rfl rfl) ⟨bx rfl rfl rfl, oa rfl, ⟨none, rfl, trivial⟩, oa rfl, oa rfl, trivial⟩) (SOps.nil (SCode.seq ?_)))
   rcases cond_out h with ⟨g37, h⟩ | ⟨g37, h⟩
   ·refine SCode.cond_t rfl g37 (SCode.skip (SCode.seq (SCode.block (SCode.seq ?_))))
    obtain ⟨g38, h⟩ := guard_out h
    refine SCode.region (show SOps _ _ _ [0, 1, 2, 3, 4, 5] _ _ from ?_)
    refine sm rfl rfl rfl rfl rfl (sq rfl rfl rfl (q_index_vec rfl rfl rfl sl47 rfl g38.1 g38.2) (sq rfl rfl rfl (q_load_eptr_all rfl rfl rfl ty63) (se rfl rfl (e_alloc rfl rfl rfl z63) (sa rfl rfl rfl rfl rfl (se rfl rfl (e_store_box rfl rfl rfl rfl rfl ty63 rfl rfl rfl rfl) (SOps.sub (st' := ⟨[(3, .c (.ptr 0 0)), (4, ci t20_20), (5, .c (.ptr 5 0)), (18, .c (vSArc a0_n.Arcs)), (19, ci (((a0_n.Arcs).length : Int))), (20, ci t20_20)], [.box [.own 1 o1_21.length, .own 2 o2_22.length, .own 3 (List.replicate a0_n.Nodes.toNat (0 : Int)).length, .own 4 (List.replicate a0_n.Nodes.toNat (0 : Int)).length], aSEdge 75 o1_21, .rows 22 3 1 o2_22.length (rLen o2_22) (rGet (cInt .i64) 0 o2_22) none, aI 3 (List.replicate a0_n.Nodes.toNat (0 : Int)), aI 3 (List.replicate a0_n.Nodes.toNat (0 : Int)), .box (bSArc (a0_n.Arcs.getD t20_20.toNat dSArc))]⟩) (sub_gen [0, 1, 2, 3, 4, 5] rfl rfl (zall rfl rfl) ⟨bx rfl rfl rfl, oa rfl, ⟨none, rfl, trivial⟩, oa rfl, oa rfl, bx rfl rfl rfl, trivial⟩) (SOps.nil (SCode.seq ?_))))))))
    obtain ⟨g39, h⟩ := guard_out h
    let ob294 : Ob := .box [.own 1 o1_21.length, .own 2 o2_22.length, .own 3 (List.replicate a0_n.Nodes.toNat (0 : Int)).length, .own 4 (List.replicate a0_n.Nodes.toNat (0 : Int)).length]
    let ob295 : Ob := .rows 22 3 1 o2_22.length (rLen o2_22) (rGet (cInt .i64) 0 o2_22) none
    let ob296 : Ob := aI 3 (List.replicate a0_n.Nodes.toNat (0 : Int))
    let ob297 : Ob := .box (bSArc (a0_n.Arcs.getD t20_20.toNat dSArc))
    let ob298 : Ob := aSEdge 75 (o1_21 ++ ([SEdge.mk ((a0_n.Arcs.getD t20_20.toNat dSArc).To) ((a0_n.Arcs.getD t20_20.toNat dSArc).Cap), SEdge.mk ((a0_n.Arcs.getD t20_20.toNat dSArc).From) 0]))
    let ob300 : Ob := .box [.own 6 (o1_21 ++ ([SEdge.mk ((a0_n.Arcs.getD t20_20.toNat dSArc).To) ((a0_n.Arcs.getD t20_20.toNat dSArc).Cap), SEdge.mk ((a0_n.Arcs.getD t20_20.toNat dSArc).From) 0])).length, .own 2 o2_22.length, .own 3 (List.replicate a0_n.Nodes.toNat (0 : Int)).length, .own 4 (List.replicate a0_n.Nodes.toNat (0 : Int)).length]
    let av299 : AV := .c (.own 6 (o1_21 ++ ([SEdge.mk ((a0_n.Arcs.getD t20_20.toNat dSArc).To) ((a0_n.Arcs.getD t20_20.toNat dSArc).Cap), SEdge.mk ((a0_n.Arcs.getD t20_20.toNat dSArc).From) 0])).length)
    refine SCode.draw2 (sH := [(38, .c (vSEdge ([SEdge.mk ((a0_n.Arcs.getD t20_20.toNat dSArc).To) ((a0_n.Arcs.getD t20_20.toNat dSArc).Cap), SEdge.mk ((a0_n.Arcs.getD t20_20.toNat dSArc).From) 0]))), (37, .a [.int .i64 ((a0_n.Arcs.getD t20_20.toNat dSArc).From), .int .i64 0]), (36, ci ((a0_n.Arcs.getD t20_20.toNat dSArc).From)), (35, .c (.ptr 5 0)), (34, .a [.int .i64 ((a0_n.Arcs.getD t20_20.toNat dSArc).To), .int .i64 ((a0_n.Arcs.getD t20_20.toNat dSArc).Cap)]), (33, ci ((a0_n.Arcs.getD t20_20.toNat dSArc).Cap)), (32, .c (.ptr 5 2)), (31, ci ((a0_n.Arcs.getD t20_20.toNat dSArc).To)), (30, .c (.ptr 5 1)), (29, .c (.own 1 o1_21.length)), (28, .c (.ptr 0 0)), (27, .c (.ptr 0 0)), (26, .c (.ptr 0 0)), (25, .c (.ptr 0 0)), (3, .c (.ptr 0 0)), (4, ci t20_20), (5, .c (.ptr 5 0)), (18, .c (vSArc a0_n.Arcs)), (19, ci (((a0_n.Arcs).length : Int))), (20, ci t20_20)]) mixed [[], [], [1], [1, 2], [1, 2, 3], [], [5], [], [7], [5, 6, 7, 8], [], [10], [10, 11], [5, 6, 7, 8, 9, 10, 11, 12], [1, 2, 3, 4, 5, 6, 7, 8, 9, 10, 11, 12, 13], [0, 1, 2, 3, 4, 5, 6, 7, 8, 9, 10, 11, 12, 13, 14], [0, 1, 2, 3, 4, 5, 6, 7, 8, 9, 10, 11, 12, 13, 14, 15], [0, 1, 2, 3, 4, 5, 6, 7, 8, 9, 10, 11, 12, 13, 14, 15, 16]] [14, 15, 16, 17] (fun h => List.getD [[1]] h []) rfl ?_ ⟨[(3, .c (.ptr 0 0)), (4, ci t20_20), (5, .c (.ptr 5 0)), (18, .c (vSArc a0_n.Arcs)), (19, ci (((a0_n.Arcs).length : Int))), (20, ci t20_20)], [.box [.own 1 (o1_21 ++ ([SEdge.mk ((a0_n.Arcs.getD t20_20.toNat dSArc).To) ((a0_n.Arcs.getD t20_20.toNat dSArc).Cap), SEdge.mk ((a0_n.Arcs.getD t20_20.toNat dSArc).From) 0])).length, .own 2 o2_22.length, .own 3 (List.replicate a0_n.Nodes.toNat (0 : Int)).length, .own 4 (List.replicate a0_n.Nodes.toNat (0 : Int)).length], aSEdge 75 (o1_21 ++ ([SEdge.mk ((a0_n.Arcs.getD t20_20.toNat dSArc).To) ((a0_n.Arcs.getD t20_20.toNat dSArc).Cap), SEdge.mk ((a0_n.Arcs.getD t20_20.toNat dSArc).From) 0])), .rows 22 3 1 o2_22.length (rLen o2_22) (rGet (cInt .i64) 0 o2_22) none, aI 3 (List.replicate a0_n.Nodes.toNat (0 : Int)), aI 3 (List.replicate a0_n.Nodes.toNat (0 : Int)), .box (bSArc (a0_n.Arcs.getD t20_20.toNat dSArc))]⟩ ?_ ?_
    ·refine HChain.run rfl rfl (.plain rfl) rfl (fun f x => q_move rfl rfl) (HChain.run rfl rfl (.plain rfl) rfl (fun f x => q_move rfl rfl) (HChain.run rfl rfl (.plain rfl) rfl (fun f x => q_nilCheck rfl rfl rfl) (HChain.run rfl rfl (.plain rfl) rfl (fun f x => q_field_ptr rfl rfl fd78_0) (HChain.run rfl rfl (.plain rfl) rfl (fun f x => q_load_ptr rfl rfl rfl rfl ty76) (HChain.run rfl rfl (.plain rfl) rfl (fun f x => q_field_ptr rfl rfl fd63_1) (HChain.run rfl rfl (.plain rfl) rfl (fun f x => q_load_ptr rfl rfl rfl rfl ty3) (HChain.run rfl rfl (.plain rfl) rfl (fun f x => q_field_ptr rfl rfl fd63_2) (HChain.run rfl rfl (.plain rfl) rfl (fun f x => q_load_ptr rfl rfl rfl rfl ty3) (HChain.run rfl rfl (.plain rfl) rfl (fun f x => q_build2 rfl rfl pl75 rfl) ?_)))))))))
     refine HChain.run rfl rfl (.plain rfl) rfl (fun f x => q_field_ptr rfl rfl fd63_0) (HChain.run rfl rfl (.plain rfl) rfl (fun f x => q_load_ptr rfl rfl rfl rfl ty3) (HChain.run rfl rfl (.plain rfl) rfl (fun f x => q_build2 rfl rfl pl75 rfl) (HChain.run rfl rfl (.plain rfl) rfl (fun f x => q_bsliceL (c := cSEdge) (d0 := dSEdge) [SEdge.mk ((a0_n.Arcs.getD t20_20.toNat dSArc).To) ((a0_n.Arcs.getD t20_20.toNat dSArc).Cap), SEdge.mk ((a0_n.Arcs.getD t20_20.toNat dSArc).From) 0] rfl rfl sl76 z75 rfl rfl rfl rfl rfl rfl rfl) (HChain.tail rfl (HChain.tail rfl (HChain.tail rfl (HChain.tail rfl ?_)))))))
     exact HChain.nil _ _
    ·refine TTree.node 14 [] rfl ?_
     refine AllP.cons ?_ ?_
     ·refine TStep.d (objs' := [ob294, .dead, ob295, ob296, ob296, ob297, ob298]) (v := av299) [1] 39 rfl rfl rfl rfl rfl (fun s2 => by refine EOp.eq (e_appendL (c := cSEdge) (d0 := dSEdge) (l := o1_21) (l2 := [SEdge.mk ((a0_n.Arcs.getD t20_20.toNat dSArc).To) ((a0_n.Arcs.getD t20_20.toNat dSArc).Cap), SEdge.mk ((a0_n.Arcs.getD t20_20.toNat dSArc).From) 0]) rfl rfl rfl rfl rfl rfl (.inl rfl) sl76 z75 rfl rfl oneSEdge g39.1 g39.2) ?_; rfl) ?_
      refine ⟨rfl, ⟨⟨⟨⟨⟨⟨trivial, .inr rfl⟩, .inl rfl⟩, .inr rfl⟩, .inr rfl⟩, .inr rfl⟩, .inr rfl⟩, ?_⟩
      refine TTree.node 15 [] rfl ?_
      refine AllP.cons ?_ ?_
      ·refine TStep.d (objs' := [ob294, .dead, ob295, ob296, ob296, ob297, ob298]) (v := .c (.ptr 0 0)) [] 40 rfl rfl rfl rfl rfl (fun s2 => by refine EOp.eq (EOp.qd rfl rfl (q_nilCheck rfl rfl rfl)) ?_; rfl) ?_
       refine ⟨rfl, ⟨⟨⟨⟨⟨⟨trivial, .inr rfl⟩, .inr rfl⟩, .inr rfl⟩, .inr rfl⟩, .inr rfl⟩, .inr rfl⟩, ?_⟩
       refine TTree.node 16 [] rfl ?_
       refine AllP.cons ?_ ?_
       ·refine TStep.d (objs' := [ob294, .dead, ob295, ob296, ob296, ob297, ob298]) (v := .c (.ptr 0 0)) [] 41 rfl rfl rfl rfl rfl (fun s2 => by refine EOp.eq (EOp.qd rfl rfl (q_field_ptr rfl rfl fd78_0)) ?_; rfl) ?_
        refine ⟨rfl, ⟨⟨⟨⟨⟨⟨trivial, .inr rfl⟩, .inr rfl⟩, .inr rfl⟩, .inr rfl⟩, .inr rfl⟩, .inr rfl⟩, ?_⟩
        refine TTree.node 17 [] rfl ?_
        refine AllP.cons ?_ ?_
        ·refine TStep.n (objs' := [ob300, .dead, ob295, ob296, ob296, ob297, ob298]) [0] rfl rfl rfl rfl (fun s2 => by refine EOp.eq (e_store_box rfl rfl rfl rfl rfl ty76 rfl rfl rfl rfl) ?_; rfl) ?_
         refine ⟨rfl, ⟨⟨⟨⟨⟨⟨trivial, .inl rfl⟩, .inr rfl⟩, .inr rfl⟩, .inr rfl⟩, .inr rfl⟩, .inr rfl⟩, ?_⟩
         exact TTree.leaf rfl (sub_gen [0, 6, 2, 3, 4, 5] rfl rfl (zall rfl rfl) ⟨bx rfl rfl rfl, oa rfl, ⟨none, rfl, trivial⟩, oa rfl, oa rfl, bx rfl rfl rfl, trivial⟩)
        exact AllP.nil
       exact AllP.nil
      exact AllP.nil
     exact AllP.nil
    refine SCode.seq ?_
    obtain ⟨g41, h⟩ := guard_out h
    refine SCode.sub (st' := ⟨[(3, .c (.ptr 0 0)), (4, ci t20_20), (5, .c (.ptr 5 0)), (18, .c (vSArc a0_n.Arcs)), (19, ci (((a0_n.Arcs).length : Int))), (20, ci t20_20)], [.box [.own 1 (o1_21 ++ ([SEdge.mk ((a0_n.Arcs.getD t20_20.toNat dSArc).To) ((a0_n.Arcs.getD t20_20.toNat dSArc).Cap), SEdge.mk ((a0_n.Arcs.getD t20_20.toNat dSArc).From) 0])).length, .own 2 o2_22.length, .own 3 (List.replicate a0_n.Nodes.toNat (0 : Int)).length, .own 4 (List.replicate a0_n.Nodes.toNat (0 : Int)).length], aSEdge 75 (o1_21 ++ ([SEdge.mk ((a0_n.Arcs.getD t20_20.toNat dSArc).To) ((a0_n.Arcs.getD t20_20.toNat dSArc).Cap), SEdge.mk ((a0_n.Arcs.getD t20_20.toNat dSArc).From) 0])), .rows 22 3 1 o2_22.length (rLen o2_22) (rGet (cInt .i64) 0 o2_22) (some ((((a0_n.Arcs.getD t20_20.toNat dSArc).From).toNat), .own 6 (o2_22.getD (((a0_n.Arcs.getD t20_20.toNat dSArc).From).toNat) []).length)), aI 3 (List.replicate a0_n.Nodes.toNat (0 : Int)), aI 3 (List.replicate a0_n.Nodes.toNat (0 : Int)), .box (bSArc (a0_n.Arcs.getD t20_20.toNat dSArc)), aI 3 (o2_22.getD (((a0_n.Arcs.getD t20_20.toNat dSArc).From).toNat) [])]⟩) (Sub.focus (F := 2) (h := ((a0_n.Arcs.getD t20_20.toNat dSArc).From).toNat) rfl (toNat_lt g41)) ?_
    obtain ⟨g42, h⟩ := guard_out h
    obtain ⟨g43, h⟩ := guard_out h
    obtain ⟨g44, h⟩ := guard_out h
    let ob285 : Ob := .box [.own 1 (o1_21 ++ ([SEdge.mk ((a0_n.Arcs.getD t20_20.toNat dSArc).To) ((a0_n.Arcs.getD t20_20.toNat dSArc).Cap), SEdge.mk ((a0_n.Arcs.getD t20_20.toNat dSArc).From) 0])).length, .own 2 o2_22.length, .own 3 (List.replicate a0_n.Nodes.toNat (0 : Int)).length, .own 4 (List.replicate a0_n.Nodes.toNat (0 : Int)).length]
    let ob286 : Ob := aSEdge 75 (o1_21 ++ ([SEdge.mk ((a0_n.Arcs.getD t20_20.toNat dSArc).To) ((a0_n.Arcs.getD t20_20.toNat dSArc).Cap), SEdge.mk ((a0_n.Arcs.getD t20_20.toNat dSArc).From) 0]))
    let ob287 : Ob := .rows 22 3 1 o2_22.length (rLen o2_22) (rGet (cInt .i64) 0 o2_22) (some ((((a0_n.Arcs.getD t20_20.toNat dSArc).From).toNat), .own 6 (o2_22.getD (((a0_n.Arcs.getD t20_20.toNat dSArc).From).toNat) []).length))
    let ob288 : Ob := aI 3 (List.replicate a0_n.Nodes.toNat (0 : Int))
    let ob289 : Ob := .box (bSArc (a0_n.Arcs.getD t20_20.toNat dSArc))
    let ob290 : Ob := aI 3 ((o2_22.getD (((a0_n.Arcs.getD t20_20.toNat dSArc).From).toNat) []) ++ ([IntKind.wrap .i64 (2 * t20_20)]))
    let ob293 : Ob := .rows 22 3 1 o2_22.length (rLen o2_22) (rGet (cInt .i64) 0 o2_22) (some ((((a0_n.Arcs.getD t20_20.toNat dSArc).From).toNat), .own 7 ((o2_22.getD (((a0_n.Arcs.getD t20_20.toNat dSArc).From).toNat) []) ++ ([IntKind.wrap .i64 (2 * t20_20)])).length))
    let av291 : AV := .c (.own 7 ((o2_22.getD (((a0_n.Arcs.getD t20_20.toNat dSArc).From).toNat) []) ++ ([IntKind.wrap .i64 (2 * t20_20)])).length)
    let av292 : AV := .c (.aptr 2 1 (((a0_n.Arcs.getD t20_20.toNat dSArc).From).toNat) 0)
    refine SCode.draw2 (sH := [(58, .c (vI ([IntKind.wrap .i64 (2 * t20_20)]))), (57, ci (IntKind.wrap .i64 (2 * t20_20))), (56, ci t20_20), (55, .c (.own 6 (o2_22.getD (((a0_n.Arcs.getD t20_20.toNat dSArc).From).toNat) []).length)), (54, .c (.aptr 2 1 (((a0_n.Arcs.getD t20_20.toNat dSArc).From).toNat) 0)), (53, ci ((a0_n.Arcs.getD t20_20.toNat dSArc).From)), (52, .c (.ptr 5 0)), (51, .c (.own 2 o2_22.length)), (50, .c (.ptr 0 1)), (49, .c (.ptr 0 0)), (48, .c (.ptr 0 0)), (47, ci ((a0_n.Arcs.getD t20_20.toNat dSArc).From)), (46, .c (.ptr 5 0)), (45, .c (.own 2 o2_22.length)), (44, .c (.ptr 0 1)), (43, .c (.ptr 0 0)), (42, .c (.ptr 0 0)), (3, .c (.ptr 0 0)), (4, ci t20_20), (5, .c (.ptr 5 0)), (18, .c (vSArc a0_n.Arcs)), (19, ci (((a0_n.Arcs).length : Int))), (20, ci t20_20)]) mixed [[], [0], [0, 1], [0, 1, 2], [], [4], [], [6], [6, 7], [6, 7, 8], [], [10], [6, 7, 8, 9, 10, 11], [6, 7, 8, 9, 10, 11, 12], [], [14], [14, 15], [6, 7, 8, 9, 10, 11, 12, 13, 14, 15, 16], [0, 1, 2, 3, 4, 5, 6, 7, 8, 9, 10, 11, 12, 13, 14, 15, 16, 17], [0, 1, 2, 3, 4, 5, 6, 7, 8, 9, 10, 11, 12, 13, 14, 15, 16, 17, 18]] [17, 18, 19] (fun h => List.getD [[6], [6], [6], [6], [6], [6]] h []) rfl ?_ ⟨[(3, .c (.ptr 0 0)), (4, ci t20_20), (5, .c (.ptr 5 0)), (18, .c (vSArc a0_n.Arcs)), (19, ci (((a0_n.Arcs).length : Int))), (20, ci t20_20)], [.box [.own 1 (o1_21 ++ ([SEdge.mk ((a0_n.Arcs.getD t20_20.toNat dSArc).To) ((a0_n.Arcs.getD t20_20.toNat dSArc).Cap), SEdge.mk ((a0_n.Arcs.getD t20_20.toNat dSArc).From) 0])).length, .own 2 (o2_22.set (((a0_n.Arcs.getD t20_20.toNat dSArc).From).toNat) ((o2_22.getD (((a0_n.Arcs.getD t20_20.toNat dSArc).From).toNat) []) ++ ([IntKind.wrap .i64 (2 * t20_20)]))).length, .own 3 (List.replicate a0_n.Nodes.toNat (0 : Int)).length, .own 4 (List.replicate a0_n.Nodes.toNat (0 : Int)).length], aSEdge 75 (o1_21 ++ ([SEdge.mk ((a0_n.Arcs.getD t20_20.toNat dSArc).To) ((a0_n.Arcs.getD t20_20.toNat dSArc).Cap), SEdge.mk ((a0_n.Arcs.getD t20_20.toNat dSArc).From) 0])), .rows 22 3 1 (o2_22.set (((a0_n.Arcs.getD t20_20.toNat dSArc).From).toNat) ((o2_22.getD (((a0_n.Arcs.getD t20_20.toNat dSArc).From).toNat) []) ++ ([IntKind.wrap .i64 (2 * t20_20)]))).length (rLen (o2_22.set (((a0_n.Arcs.getD t20_20.toNat dSArc).From).toNat) ((o2_22.getD (((a0_n.Arcs.getD t20_20.toNat dSArc).From).toNat) []) ++ ([IntKind.wrap .i64 (2 * t20_20)])))) (rGet (cInt .i64) 0 (o2_22.set (((a0_n.Arcs.getD t20_20.toNat dSArc).From).toNat) ((o2_22.getD (((a0_n.Arcs.getD t20_20.toNat dSArc).From).toNat) []) ++ ([IntKind.wrap .i64 (2 * t20_20)])))) none, aI 3 (List.replicate a0_n.Nodes.toNat (0 : Int)), aI 3 (List.replicate a0_n.Nodes.toNat (0 : Int)), .box (bSArc (a0_n.Arcs.getD t20_20.toNat dSArc))]⟩ ?_ ?_
    ·refine HChain.run rfl rfl (.plain rfl) rfl (fun f x => q_move rfl rfl) (HChain.run rfl rfl (.plain rfl) rfl (fun f x => q_nilCheck rfl rfl rfl) (HChain.run rfl rfl (.plain rfl) rfl (fun f x => q_field_ptr rfl rfl fd78_1) (HChain.run rfl rfl (.plain rfl) rfl (fun f x => q_load_ptr rfl rfl rfl rfl ty23) (HChain.run rfl rfl (.plain rfl) rfl (fun f x => q_field_ptr rfl rfl fd63_0) (HChain.run rfl rfl (.plain rfl) rfl (fun f x => q_load_ptr rfl rfl rfl rfl ty3) (HChain.run rfl rfl (.plain rfl) rfl (fun f x => q_move rfl rfl) (HChain.run rfl rfl (.plain rfl) rfl (fun f x => q_nilCheck rfl rfl rfl) (HChain.run rfl rfl (.plain rfl) rfl (fun f x => q_field_ptr rfl rfl fd78_1) (HChain.run rfl rfl (.plain rfl) rfl (fun f x => q_load_ptr rfl rfl rfl rfl ty23) ?_)))))))))
     refine HChain.run rfl rfl (.plain rfl) rfl (fun f x => q_field_ptr rfl rfl fd63_0) (HChain.run rfl rfl (.plain rfl) rfl (fun f x => q_load_ptr rfl rfl rfl rfl ty3) (HChain.run rfl rfl (.plain rfl) rfl (fun f x => q_index_own rfl rfl rfl sl23 g42.1 g42.2) (HChain.run rfl rfl (.plain rfl) rfl (fun f x => q_load_hole rfl rfl rfl (toNat_lt g42) ty22) (HChain.run rfl rfl (.plain rfl) rfl (fun f x => q_move rfl rfl) (HChain.run rfl rfl (.plain rfl) rfl (fun f x => q_mul rfl rfl rfl) (HChain.run rfl rfl (.plain rfl) rfl (fun f x => q_bsliceL (c := (cInt .i64)) (d0 := 0) [IntKind.wrap .i64 (2 * t20_20)] rfl rfl sl22 z3 rfl rfl rfl rfl rfl rfl rfl) (HChain.tail rfl (HChain.tail rfl (HChain.tail rfl ?_)))))))))
     exact HChain.nil _ _
    ·refine TTree.node 17 [] rfl ?_
     refine AllP.cons ?_ ?_
     ·refine TStep.d (objs' := [ob285, ob286, ob287, ob288, ob288, ob289, .dead, ob290]) (v := av291) [6] 59 rfl rfl rfl rfl rfl (fun s2 => by refine EOp.eq (e_appendL (c := (cInt .i64)) (d0 := 0) (l := o2_22.getD (((a0_n.Arcs.getD t20_20.toNat dSArc).From).toNat) []) (l2 := [IntKind.wrap .i64 (2 * t20_20)]) rfl rfl rfl rfl rfl rfl (.inl rfl) sl22 z3 rfl rfl oneInt g43.1 g43.2) ?_; rfl) ?_
      refine ⟨rfl, ⟨⟨⟨⟨⟨⟨⟨trivial, .inr rfl⟩, .inr rfl⟩, .inr rfl⟩, .inr rfl⟩, .inr rfl⟩, .inr rfl⟩, .inl rfl⟩, ?_⟩
      refine TTree.node 18 [] rfl ?_
      refine AllP.cons ?_ ?_
      ·refine TStep.d (objs' := [ob285, ob286, ob287, ob288, ob288, ob289, .dead, ob290]) (v := av292) [] 60 rfl rfl rfl rfl rfl (fun s2 => by refine EOp.eq (EOp.qd rfl rfl (q_index_own rfl rfl rfl sl23 g44.1 g44.2)) ?_; rfl) ?_
       refine ⟨rfl, ⟨⟨⟨⟨⟨⟨⟨trivial, .inr rfl⟩, .inr rfl⟩, .inr rfl⟩, .inr rfl⟩, .inr rfl⟩, .inr rfl⟩, .inr rfl⟩, ?_⟩
       refine TTree.node 19 [] rfl ?_
       refine AllP.cons ?_ ?_
       ·refine TStep.n (objs' := [ob285, ob286, ob293, ob288, ob288, ob289, .dead, ob290]) [2] rfl rfl rfl rfl (fun s2 => by refine EOp.eq (e_store_hole rfl rfl rfl rfl rfl (toNat_lt g44) ty22 rfl) ?_; rfl) ?_
        refine ⟨rfl, ⟨⟨⟨⟨⟨⟨⟨trivial, .inr rfl⟩, .inr rfl⟩, .inl rfl⟩, .inr rfl⟩, .inr rfl⟩, .inr rfl⟩, .inr rfl⟩, ?_⟩
        exact TTree.leaf rfl (Sub.trans (Sub.unfocusL (F := 2) (j := 7) rfl rfl rfl) (sub_gen [0, 1, 2, 3, 4, 5] rfl rfl (zall rfl rfl) ⟨⟨_, rfl, ⟨ii rfl rfl, .inl ⟨rfl, congrArg (Cell.own 2) (List.length_set : (o2_22.set (((a0_n.Arcs.getD t20_20.toNat dSArc).From).toNat) ((o2_22.getD (((a0_n.Arcs.getD t20_20.toNat dSArc).From).toNat) []) ++ ([IntKind.wrap .i64 (2 * t20_20)]))).length = o2_22.length).symm⟩, ii rfl rfl, ii rfl rfl, trivial⟩⟩, oa rfl, ⟨none, rfl, trivial⟩, oa rfl, oa rfl, bx rfl rfl rfl, trivial⟩))
       exact AllP.nil
      exact AllP.nil
     exact AllP.nil
    obtain ⟨g46, h⟩ := guard_out h
    refine SCode.sub (st' := ⟨[(3, .c (.ptr 0 0)), (4, ci t20_20), (5, .c (.ptr 5 0)), (18, .c (vSArc a0_n.Arcs)), (19, ci (((a0_n.Arcs).length : Int))), (20, ci t20_20)], [.box [.own 1 (o1_21 ++ ([SEdge.mk ((a0_n.Arcs.getD t20_20.toNat dSArc).To) ((a0_n.Arcs.getD t20_20.toNat dSArc).Cap), SEdge.mk ((a0_n.Arcs.getD t20_20.toNat dSArc).From) 0])).length, .own 2 (o2_22.set (((a0_n.Arcs.getD t20_20.toNat dSArc).From).toNat) ((o2_22.getD (((a0_n.Arcs.getD t20_20.toNat dSArc).From).toNat) []) ++ ([IntKind.wrap .i64 (2 * t20_20)]))).length, .own 3 (List.replicate a0_n.Nodes.toNat (0 : Int)).length, .own 4 (List.replicate a0_n.Nodes.toNat (0 : Int)).length], aSEdge 75 (o1_21 ++ ([SEdge.mk ((a0_n.Arcs.getD t20_20.toNat dSArc).To) ((a0_n.Arcs.getD t20_20.toNat dSArc).Cap), SEdge.mk ((a0_n.Arcs.getD t20_20.toNat dSArc).From) 0])), .rows 22 3 1 (o2_22.set (((a0_n.Arcs.getD t20_20.toNat dSArc).From).toNat) ((o2_22.getD (((a0_n.Arcs.getD t20_20.toNat dSArc).From).toNat) []) ++ ([IntKind.wrap .i64 (2 * t20_20)]))).length (rLen (o2_22.set (((a0_n.Arcs.getD t20_20.toNat dSArc).From).toNat) ((o2_22.getD (((a0_n.Arcs.getD t20_20.toNat dSArc).From).toNat) []) ++ ([IntKind.wrap .i64 (2 * t20_20)])))) (rGet (cInt .i64) 0 (o2_22.set (((a0_n.Arcs.getD t20_20.toNat dSArc).From).toNat) ((o2_22.getD (((a0_n.Arcs.getD t20_20.toNat dSArc).From).toNat) []) ++ ([IntKind.wrap .i64 (2 * t20_20)])))) (some ((((a0_n.Arcs.getD t20_20.toNat dSArc).To).toNat), .own 6 ((o2_22.set (((a0_n.Arcs.getD t20_20.toNat dSArc).From).toNat) ((o2_22.getD (((a0_n.Arcs.getD t20_20.toNat dSArc).From).toNat) []) ++ ([IntKind.wrap .i64 (2 * t20_20)]))).getD (((a0_n.Arcs.getD t20_20.toNat dSArc).To).toNat) []).length)), aI 3 (List.replicate a0_n.Nodes.toNat (0 : Int)), aI 3 (List.replicate a0_n.Nodes.toNat (0 : Int)), .box (bSArc (a0_n.Arcs.getD t20_20.toNat dSArc)), aI 3 ((o2_22.set (((a0_n.Arcs.getD t20_20.toNat dSArc).From).toNat) ((o2_22.getD (((a0_n.Arcs.getD t20_20.toNat dSArc).From).toNat) []) ++ ([IntKind.wrap .i64 (2 * t20_20)]))).getD (((a0_n.Arcs.getD t20_20.toNat dSArc).To).toNat) [])]⟩) (Sub.focus (F := 2) (h := ((a0_n.Arcs.getD t20_20.toNat dSArc).To).toNat) rfl (toNat_lt g46)) ?_
    obtain ⟨g47, h⟩ := guard_out h
    obtain ⟨g48, h⟩ := guard_out h
    obtain ⟨g49, h⟩ := guard_out h
    let ob276 : Ob := .box [.own 1 (o1_21 ++ ([SEdge.mk ((a0_n.Arcs.getD t20_20.toNat dSArc).To) ((a0_n.Arcs.getD t20_20.toNat dSArc).Cap), SEdge.mk ((a0_n.Arcs.getD t20_20.toNat dSArc).From) 0])).length, .own 2 (o2_22.set (((a0_n.Arcs.getD t20_20.toNat dSArc).From).toNat) ((o2_22.getD (((a0_n.Arcs.getD t20_20.toNat dSArc).From).toNat) []) ++ ([IntKind.wrap .i64 (2 * t20_20)]))).length, .own 3 (List.replicate a0_n.Nodes.toNat (0 : Int)).length, .own 4 (List.replicate a0_n.Nodes.toNat (0 : Int)).length]
    let ob277 : Ob := aSEdge 75 (o1_21 ++ ([SEdge.mk ((a0_n.Arcs.getD t20_20.toNat dSArc).To) ((a0_n.Arcs.getD t20_20.toNat dSArc).Cap), SEdge.mk ((a0_n.Arcs.getD t20_20.toNat dSArc).From) 0]))
    let ob278 : Ob := .rows 22 3 1 (o2_22.set (((a0_n.Arcs.getD t20_20.toNat dSArc).From).toNat) ((o2_22.getD (((a0_n.Arcs.getD t20_20.toNat dSArc).From).toNat) []) ++ ([IntKind.wrap .i64 (2 * t20_20)]))).length (rLen (o2_22.set (((a0_n.Arcs.getD t20_20.toNat dSArc).From).toNat) ((o2_22.getD (((a0_n.Arcs.getD t20_20.toNat dSArc).From).toNat) []) ++ ([IntKind.wrap .i64 (2 * t20_20)])))) (rGet (cInt .i64) 0 (o2_22.set (((a0_n.Arcs.getD t20_20.toNat dSArc).From).toNat) ((o2_22.getD (((a0_n.Arcs.getD t20_20.toNat dSArc).From).toNat) []) ++ ([IntKind.wrap .i64 (2 * t20_20)])))) (some ((((a0_n.Arcs.getD t20_20.toNat dSArc).To).toNat), .own 6 ((o2_22.set (((a0_n.Arcs.getD t20_20.toNat dSArc).From).toNat) ((o2_22.getD (((a0_n.Arcs.getD t20_20.toNat dSArc).From).toNat) []) ++ ([IntKind.wrap .i64 (2 * t20_20)]))).getD (((a0_n.Arcs.getD t20_20.toNat dSArc).To).toNat) []).length))
    let ob279 : Ob := aI 3 (List.replicate a0_n.Nodes.toNat (0 : Int))
    let ob280 : Ob := .box (bSArc (a0_n.Arcs.getD t20_20.toNat dSArc))
    let ob281 : Ob := aI 3 (((o2_22.set (((a0_n.Arcs.getD t20_20.toNat dSArc).From).toNat) ((o2_22.getD (((a0_n.Arcs.getD t20_20.toNat dSArc).From).toNat) []) ++ ([IntKind.wrap .i64 (2 * t20_20)]))).getD (((a0_n.Arcs.getD t20_20.toNat dSArc).To).toNat) []) ++ ([IntKind.wrap .i64 (IntKind.wrap .i64 (2 * t20_20) + 1)]))
    let ob284 : Ob := .rows 22 3 1 (o2_22.set (((a0_n.Arcs.getD t20_20.toNat dSArc).From).toNat) ((o2_22.getD (((a0_n.Arcs.getD t20_20.toNat dSArc).From).toNat) []) ++ ([IntKind.wrap .i64 (2 * t20_20)]))).length (rLen (o2_22.set (((a0_n.Arcs.getD t20_20.toNat dSArc).From).toNat) ((o2_22.getD (((a0_n.Arcs.getD t20_20.toNat dSArc).From).toNat) []) ++ ([IntKind.wrap .i64 (2 * t20_20)])))) (rGet (cInt .i64) 0 (o2_22.set (((a0_n.Arcs.getD t20_20.toNat dSArc).From).toNat) ((o2_22.getD (((a0_n.Arcs.getD t20_20.toNat dSArc).From).toNat) []) ++ ([IntKind.wrap .i64 (2 * t20_20)])))) (some ((((a0_n.Arcs.getD t20_20.toNat dSArc).To).toNat), .own 7 (((o2_22.set (((a0_n.Arcs.getD t20_20.toNat dSArc).From).toNat) ((o2_22.getD (((a0_n.Arcs.getD t20_20.toNat dSArc).From).toNat) []) ++ ([IntKind.wrap .i64 (2 * t20_20)]))).getD (((a0_n.Arcs.getD t20_20.toNat dSArc).To).toNat) []) ++ ([IntKind.wrap .i64 (IntKind.wrap .i64 (2 * t20_20) + 1)])).length))
    let av282 : AV := .c (.own 7 (((o2_22.set (((a0_n.Arcs.getD t20_20.toNat dSArc).From).toNat) ((o2_22.getD (((a0_n.Arcs.getD t20_20.toNat dSArc).From).toNat) []) ++ ([IntKind.wrap .i64 (2 * t20_20)]))).getD (((a0_n.Arcs.getD t20_20.toNat dSArc).To).toNat) []) ++ ([IntKind.wrap .i64 (IntKind.wrap .i64 (2 * t20_20) + 1)])).length)
    let av283 : AV := .c (.aptr 2 1 (((a0_n.Arcs.getD t20_20.toNat dSArc).To).toNat) 0)
    refine SCode.draw2 (sH := [(78, .c (vI ([IntKind.wrap .i64 (IntKind.wrap .i64 (2 * t20_20) + 1)]))), (77, ci (IntKind.wrap .i64 (IntKind.wrap .i64 (2 * t20_20) + 1))), (76, ci (IntKind.wrap .i64 (2 * t20_20))), (75, ci t20_20), (74, .c (.own 6 ((o2_22.set (((a0_n.Arcs.getD t20_20.toNat dSArc).From).toNat) ((o2_22.getD (((a0_n.Arcs.getD t20_20.toNat dSArc).From).toNat) []) ++ ([IntKind.wrap .i64 (2 * t20_20)]))).getD (((a0_n.Arcs.getD t20_20.toNat dSArc).To).toNat) []).length)), (73, .c (.aptr 2 1 (((a0_n.Arcs.getD t20_20.toNat dSArc).To).toNat) 0)), (72, ci ((a0_n.Arcs.getD t20_20.toNat dSArc).To)), (71, .c (.ptr 5 1)), (70, .c (.own 2 (o2_22.set (((a0_n.Arcs.getD t20_20.toNat dSArc).From).toNat) ((o2_22.getD (((a0_n.Arcs.getD t20_20.toNat dSArc).From).toNat) []) ++ ([IntKind.wrap .i64 (2 * t20_20)]))).length)), (69, .c (.ptr 0 1)), (68, .c (.ptr 0 0)), (67, .c (.ptr 0 0)), (66, ci ((a0_n.Arcs.getD t20_20.toNat dSArc).To)), (65, .c (.ptr 5 1)), (64, .c (.own 2 (o2_22.set (((a0_n.Arcs.getD t20_20.toNat dSArc).From).toNat) ((o2_22.getD (((a0_n.Arcs.getD t20_20.toNat dSArc).From).toNat) []) ++ ([IntKind.wrap .i64 (2 * t20_20)]))).length)), (63, .c (.ptr 0 1)), (62, .c (.ptr 0 0)), (61, .c (.ptr 0 0)), (3, .c (.ptr 0 0)), (4, ci t20_20), (5, .c (.ptr 5 0)), (18, .c (vSArc a0_n.Arcs)), (19, ci (((a0_n.Arcs).length : Int))), (20, ci t20_20)]) mixed [[], [0], [0, 1], [0, 1, 2], [], [4], [], [6], [6, 7], [6, 7, 8], [], [10], [6, 7, 8, 9, 10, 11], [6, 7, 8, 9, 10, 11, 12], [], [14], [14, 15], [14, 15, 16], [6, 7, 8, 9, 10, 11, 12, 13, 14, 15, 16, 17], [0, 1, 2, 3, 4, 5, 6, 7, 8, 9, 10, 11, 12, 13, 14, 15, 16, 17, 18], [0, 1, 2, 3, 4, 5, 6, 7, 8, 9, 10, 11, 12, 13, 14, 15, 16, 17, 18, 19]] [18, 19, 20] (fun h => List.getD [[6], [6], [6], [6], [6], [6]] h []) rfl ?_ ⟨[(3, .c (.ptr 0 0)), (18, .c (vSArc a0_n.Arcs)), (19, ci (((a0_n.Arcs).length : Int))), (20, ci t20_20)], [.box [.own 1 (o1_21 ++ ([SEdge.mk ((a0_n.Arcs.getD t20_20.toNat dSArc).To) ((a0_n.Arcs.getD t20_20.toNat dSArc).Cap), SEdge.mk ((a0_n.Arcs.getD t20_20.toNat dSArc).From) 0])).length, .own 2 ((o2_22.set (((a0_n.Arcs.getD t20_20.toNat dSArc).From).toNat) ((o2_22.getD (((a0_n.Arcs.getD t20_20.toNat dSArc).From).toNat) []) ++ ([IntKind.wrap .i64 (2 * t20_20)]))).set (((a0_n.Arcs.getD t20_20.toNat dSArc).To).toNat) (((o2_22.set (((a0_n.Arcs.getD t20_20.toNat dSArc).From).toNat) ((o2_22.getD (((a0_n.Arcs.getD t20_20.toNat dSArc).From).toNat) []) ++ ([IntKind.wrap .i64 (2 * t20_20)]))).getD (((a0_n.Arcs.getD t20_20.toNat dSArc).To).toNat) []) ++ ([IntKind.wrap .i64 (IntKind.wrap .i64 (2 * t20_20) + 1)]))).length, .own 3 (List.replicate a0_n.Nodes.toNat (0 : Int)).length, .own 4 (List.replicate a0_n.Nodes.toNat (0 : Int)).length], aSEdge 75 (o1_21 ++ ([SEdge.mk ((a0_n.Arcs.getD t20_20.toNat dSArc).To) ((a0_n.Arcs.getD t20_20.toNat dSArc).Cap), SEdge.mk ((a0_n.Arcs.getD t20_20.toNat dSArc).From) 0])), .rows 22 3 1 ((o2_22.set (((a0_n.Arcs.getD t20_20.toNat dSArc).From).toNat) ((o2_22.getD (((a0_n.Arcs.getD t20_20.toNat dSArc).From).toNat) []) ++ ([IntKind.wrap .i64 (2 * t20_20)]))).set (((a0_n.Arcs.getD t20_20.toNat dSArc).To).toNat) (((o2_22.set (((a0_n.Arcs.getD t20_20.toNat dSArc).From).toNat) ((o2_22.getD (((a0_n.Arcs.getD t20_20.toNat dSArc).From).toNat) []) ++ ([IntKind.wrap .i64 (2 * t20_20)]))).getD (((a0_n.Arcs.getD t20_20.toNat dSArc).To).toNat) []) ++ ([IntKind.wrap .i64 (IntKind.wrap .i64 (2 * t20_20) + 1)]))).length (rLen ((o2_22.set (((a0_n.Arcs.getD t20_20.toNat dSArc).From).toNat) ((o2_22.getD (((a0_n.Arcs.getD t20_20.toNat dSArc).From).toNat) []) ++ ([IntKind.wrap .i64 (2 * t20_20)]))).set (((a0_n.Arcs.getD t20_20.toNat dSArc).To).toNat) (((o2_22.set (((a0_n.Arcs.getD t20_20.toNat dSArc).From).toNat) ((o2_22.getD (((a0_n.Arcs.getD t20_20.toNat dSArc).From).toNat) []) ++ ([IntKind.wrap .i64 (2 * t20_20)]))).getD (((a0_n.Arcs.getD t20_20.toNat dSArc).To).toNat) []) ++ ([IntKind.wrap .i64 (IntKind.wrap .i64 (2 * t20_20) + 1)])))) (rGet (cInt .i64) 0 ((o2_22.set (((a0_n.Arcs.getD t20_20.toNat dSArc).From).toNat) ((o2_22.getD (((a0_n.Arcs.getD t20_20.toNat dSArc).From).toNat) []) ++ ([IntKind.wrap .i64 (2 * t20_20)]))).set (((a0_n.Arcs.getD t20_20.toNat dSArc).To).toNat) (((o2_22.set (((a0_n.Arcs.getD t20_20.toNat dSArc).From).toNat) ((o2_22.getD (((a0_n.Arcs.getD t20_20.toNat dSArc).From).toNat) []) ++ ([IntKind.wrap .i64 (2 * t20_20)]))).getD (((a0_n.Arcs.getD t20_20.toNat dSArc).To).toNat) []) ++ ([IntKind.wrap .i64 (IntKind.wrap .i64 (2 * t20_20) + 1)])))) none, aI 3 (List.replicate a0_n.Nodes.toNat (0 : Int)), aI 3 (List.replicate a0_n.Nodes.toNat (0 : Int))]⟩ ?_ ?_
    ·refine HChain.run rfl rfl (.plain rfl) rfl (fun f x => q_move rfl rfl) (HChain.run rfl rfl (.plain rfl) rfl (fun f x => q_nilCheck rfl rfl rfl) (HChain.run rfl rfl (.plain rfl) rfl (fun f x => q_field_ptr rfl rfl fd78_1) (HChain.run rfl rfl (.plain rfl) rfl (fun f x => q_load_ptr rfl rfl rfl rfl ty23) (HChain.run rfl rfl (.plain rfl) rfl (fun f x => q_field_ptr rfl rfl fd63_1) (HChain.run rfl rfl (.plain rfl) rfl (fun f x => q_load_ptr rfl rfl rfl rfl ty3) (HChain.run rfl rfl (.plain rfl) rfl (fun f x => q_move rfl rfl) (HChain.run rfl rfl (.plain rfl) rfl (fun f x => q_nilCheck rfl rfl rfl) (HChain.run rfl rfl (.plain rfl) rfl (fun f x => q_field_ptr rfl rfl fd78_1) (HChain.run rfl rfl (.plain rfl) rfl (fun f x => q_load_ptr rfl rfl rfl rfl ty23) ?_)))))))))
     refine HChain.run rfl rfl (.plain rfl) rfl (fun f x => q_field_ptr rfl rfl fd63_1) (HChain.run rfl rfl (.plain rfl) rfl (fun f x => q_load_ptr rfl rfl rfl rfl ty3) (HChain.run rfl rfl (.plain rfl) rfl (fun f x => q_index_own rfl rfl rfl sl23 g47.1 g47.2) (HChain.run rfl rfl (.plain rfl) rfl (fun f x => q_load_hole rfl rfl rfl (toNat_lt g47) ty22) (HChain.run rfl rfl (.plain rfl) rfl (fun f x => q_move rfl rfl) (HChain.run rfl rfl (.plain rfl) rfl (fun f x => q_mul rfl rfl rfl) (HChain.run rfl rfl (.plain rfl) rfl (fun f x => q_add rfl rfl rfl) (HChain.run rfl rfl (.plain rfl) rfl (fun f x => q_bsliceL (c := (cInt .i64)) (d0 := 0) [IntKind.wrap .i64 (IntKind.wrap .i64 (2 * t20_20) + 1)] rfl rfl sl22 z3 rfl rfl rfl rfl rfl rfl rfl) (HChain.tail rfl (HChain.tail rfl ?_)))))))))
     refine HChain.tail rfl ?_
     exact HChain.nil _ _
    ·refine TTree.node 18 [] rfl ?_
     refine AllP.cons ?_ ?_
     ·refine TStep.d (objs' := [ob276, ob277, ob278, ob279, ob279, ob280, .dead, ob281]) (v := av282) [6] 79 rfl rfl rfl rfl rfl (fun s2 => by refine EOp.eq (e_appendL (c := (cInt .i64)) (d0 := 0) (l := (o2_22.set (((a0_n.Arcs.getD t20_20.toNat dSArc).From).toNat) ((o2_22.getD (((a0_n.Arcs.getD t20_20.toNat dSArc).From).toNat) []) ++ ([IntKind.wrap .i64 (2 * t20_20)]))).getD (((a0_n.Arcs.getD t20_20.toNat dSArc).To).toNat) []) (l2 := [IntKind.wrap .i64 (IntKind.wrap .i64 (2 * t20_20) + 1)]) rfl rfl rfl rfl rfl rfl (.inl rfl) sl22 z3 rfl rfl oneInt g48.1 g48.2) ?_; rfl) ?_
      refine ⟨rfl, ⟨⟨⟨⟨⟨⟨⟨trivial, .inr rfl⟩, .inr rfl⟩, .inr rfl⟩, .inr rfl⟩, .inr rfl⟩, .inr rfl⟩, .inl rfl⟩, ?_⟩
      refine TTree.node 19 [] rfl ?_
      refine AllP.cons ?_ ?_
      ·refine TStep.d (objs' := [ob276, ob277, ob278, ob279, ob279, ob280, .dead, ob281]) (v := av283) [] 80 rfl rfl rfl rfl rfl (fun s2 => by refine EOp.eq (EOp.qd rfl rfl (q_index_own rfl rfl rfl sl23 g49.1 g49.2)) ?_; rfl) ?_
       refine ⟨rfl, ⟨⟨⟨⟨⟨⟨⟨trivial, .inr rfl⟩, .inr rfl⟩, .inr rfl⟩, .inr rfl⟩, .inr rfl⟩, .inr rfl⟩, .inr rfl⟩, ?_⟩
       refine TTree.node 20 [] rfl ?_
       refine AllP.cons ?_ ?_
       ·refine TStep.n (objs' := [ob276, ob277, ob284, ob279, ob279, ob280, .dead, ob281]) [2] rfl rfl rfl rfl (fun s2 => by refine EOp.eq (e_store_hole rfl rfl rfl rfl rfl (toNat_lt g49) ty22 rfl) ?_; rfl) ?_
        refine ⟨rfl, ⟨⟨⟨⟨⟨⟨⟨trivial, .inr rfl⟩, .inr rfl⟩, .inl rfl⟩, .inr rfl⟩, .inr rfl⟩, .inr rfl⟩, .inr rfl⟩, ?_⟩
        exact TTree.leaf rfl (Sub.trans (Sub.unfocusL (F := 2) (j := 7) rfl rfl rfl) (sub_gen [0, 1, 2, 3, 4] rfl rfl (zall rfl rfl) ⟨⟨_, rfl, ⟨ii rfl rfl, .inl ⟨rfl, congrArg (Cell.own 2) (List.length_set : ((o2_22.set (((a0_n.Arcs.getD t20_20.toNat dSArc).From).toNat) ((o2_22.getD (((a0_n.Arcs.getD t20_20.toNat dSArc).From).toNat) []) ++ ([IntKind.wrap .i64 (2 * t20_20)]))).set (((a0_n.Arcs.getD t20_20.toNat dSArc).To).toNat) (((o2_22.set (((a0_n.Arcs.getD t20_20.toNat dSArc).From).toNat) ((o2_22.getD (((a0_n.Arcs.getD t20_20.toNat dSArc).From).toNat) []) ++ ([IntKind.wrap .i64 (2 * t20_20)]))).getD (((a0_n.Arcs.getD t20_20.toNat dSArc).To).toNat) []) ++ ([IntKind.wrap .i64 (IntKind.wrap .i64 (2 * t20_20) + 1)]))).length = (o2_22.set (((a0_n.Arcs.getD t20_20.toNat dSArc).From).toNat) ((o2_22.getD (((a0_n.Arcs.getD t20_20.toNat dSArc).From).toNat) []) ++ ([IntKind.wrap .i64 (2 * t20_20)]))).length).symm⟩, ii rfl rfl, ii rfl rfl, trivial⟩⟩, oa rfl, ⟨none, rfl, trivial⟩, oa rfl, oa rfl, trivial⟩))
       exact AllP.nil
      exact AllP.nil
     exact AllP.nil
    refine SCode.region (show SOps _ _ _ [0, 1] _ _ from ?_)
    refine sq rfl rfl rfl (q_add rfl rfl rfl) (sm rfl rfl rfl rfl rfl (SOps.sub (st' := ⟨[(3, .c (.ptr 0 0)), (18, .c (vSArc a0_n.Arcs)), (19, ci (((a0_n.Arcs).length : Int))), (20, ci (IntKind.wrap .i64 (t20_20 + 1)))], [.box [.own 1 (o1_21 ++ ([SEdge.mk ((a0_n.Arcs.getD t20_20.toNat dSArc).To) ((a0_n.Arcs.getD t20_20.toNat dSArc).Cap), SEdge.mk ((a0_n.Arcs.getD t20_20.toNat dSArc).From) 0])).length, .own 2 ((o2_22.set (((a0_n.Arcs.getD t20_20.toNat dSArc).From).toNat) ((o2_22.getD (((a0_n.Arcs.getD t20_20.toNat dSArc).From).toNat) []) ++ ([IntKind.wrap .i64 (2 * t20_20)]))).set (((a0_n.Arcs.getD t20_20.toNat dSArc).To).toNat) (((o2_22.set (((a0_n.Arcs.getD t20_20.toNat dSArc).From).toNat) ((o2_22.getD (((a0_n.Arcs.getD t20_20.toNat dSArc).From).toNat) []) ++ ([IntKind.wrap .i64 (2 * t20_20)]))).getD (((a0_n.Arcs.getD t20_20.toNat dSArc).To).toNat) []) ++ ([IntKind.wrap .i64 (IntKind.wrap .i64 (2 * t20_20) + 1)]))).length, .own 3 (List.replicate a0_n.Nodes.toNat (0 : Int)).length, .own 4 (List.replicate a0_n.Nodes.toNat (0 : Int)).length], aSEdge 75 (o1_21 ++ ([SEdge.mk ((a0_n.Arcs.getD t20_20.toNat dSArc).To) ((a0_n.Arcs.getD t20_20.toNat dSArc).Cap), SEdge.mk ((a0_n.Arcs.getD t20_20.toNat dSArc).From) 0])), .rows 22 3 1 ((o2_22.set (((a0_n.Arcs.getD t20_20.toNat dSArc).From).toNat) ((o2_22.getD (((a0_n.Arcs.getD t20_20.toNat dSArc).From).toNat) []) ++ ([IntKind.wrap .i64 (2 * t20_20)]))).set (((a0_n.Arcs.getD t20_20.toNat dSArc).To).toNat) (((o2_22.set (((a0_n.Arcs.getD t20_20.toNat dSArc).From).toNat) ((o2_22.getD (((a0_n.Arcs.getD t20_20.toNat dSArc).From).toNat) []) ++ ([IntKind.wrap .i64 (2 * t20_20)]))).getD (((a0_n.Arcs.getD t20_20.toNat dSArc).To).toNat) []) ++ ([IntKind.wrap .i64 (IntKind.wrap .i64 (2 * t20_20) + 1)]))).length (rLen ((o2_22.set (((a0_n.Arcs.getD t20_20.toNat dSArc).From).toNat) ((o2_22.getD (((a0_n.Arcs.getD t20_20.toNat dSArc).From).toNat) []) ++ ([IntKind.wrap .i64 (2 * t20_20)]))).set (((a0_n.Arcs.getD t20_20.toNat dSArc).To).toNat) (((o2_22.set (((a0_n.Arcs.getD t20_20.toNat dSArc).From).toNat) ((o2_22.getD (((a0_n.Arcs.getD t20_20.toNat dSArc).From).toNat) []) ++ ([IntKind.wrap .i64 (2 * t20_20)]))).getD (((a0_n.Arcs.getD t20_20.toNat dSArc).To).toNat) []) ++ ([IntKind.wrap .i64 (IntKind.wrap .i64 (2 * t20_20) + 1)])))) (rGet (cInt .i64) 0 ((o2_22.set (((a0_n.Arcs.getD t20_20.toNat dSArc).From).toNat) ((o2_22.getD (((a0_n.Arcs.getD t20_20.toNat dSArc).From).toNat) []) ++ ([IntKind.wrap .i64 (2 * t20_20)]))).set (((a0_n.Arcs.getD t20_20.toNat dSArc).To).toNat) (((o2_22.set (((a0_n.Arcs.getD t20_20.toNat dSArc).From).toNat) ((o2_22.getD (((a0_n.Arcs.getD t20_20.toNat dSArc).From).toNat) []) ++ ([IntKind.wrap .i64 (2 * t20_20)]))).getD (((a0_n.Arcs.getD t20_20.toNat dSArc).To).toNat) []) ++ ([IntKind.wrap .i64 (IntKind.wrap .i64 (2 * t20_20) + 1)])))) none, aI 3 (List.replicate a0_n.Nodes.toNat (0 : Int)), aI 3 (List.replicate a0_n.Nodes.toNat (0 : Int))]⟩) (sub_gen [0, 1, 2, 3, 4] rfl rfl (zall rfl rfl) ⟨bx rfl rfl rfl, oa rfl, ⟨none, rfl, trivial⟩, oa rfl, oa rfl, trivial⟩) (SOps.nil ?_)))
    exact ⟨(n_36, (IntKind.wrap .i64 (t20_20 + 1), o1_21 ++ ([SEdge.mk ((a0_n.Arcs.getD t20_20.toNat dSArc).To) ((a0_n.Arcs.getD t20_20.toNat dSArc).Cap), SEdge.mk ((a0_n.Arcs.getD t20_20.toNat dSArc).From) 0]), (o2_22.set (((a0_n.Arcs.getD t20_20.toNat dSArc).From).toNat) ((o2_22.getD (((a0_n.Arcs.getD t20_20.toNat dSArc).From).toNat) []) ++ ([IntKind.wrap .i64 (2 * t20_20)]))).set (((a0_n.Arcs.getD t20_20.toNat dSArc).To).toNat) (((o2_22.set (((a0_n.Arcs.getD t20_20.toNat dSArc).From).toNat) ((o2_22.getD (((a0_n.Arcs.getD t20_20.toNat dSArc).From).toNat) []) ++ ([IntKind.wrap .i64 (2 * t20_20)]))).getD (((a0_n.Arcs.getD t20_20.toNat dSArc).To).toNat) []) ++ ([IntKind.wrap .i64 (IntKind.wrap .i64 (2 * t20_20) + 1)])))), h, Nat.lt_succ_self n_36, sub_gen [0, 1, 2, 3, 4] rfl rfl (zall rfl rfl) ⟨bx rfl rfl rfl, oa rfl, ⟨none, rfl, trivial⟩, oa rfl, oa rfl, trivial⟩⟩
   refine SCode.cond_f rfl g37 (SCode.exit ?_)
   exact ⟨(o1_21, o2_22), h, sub_gen [0, 1, 2, 3, 4] rfl rfl (zall rfl rfl) ⟨bx rfl rfl rfl, oa rfl, ⟨none, rfl, trivial⟩, oa rfl, oa rfl, trivial⟩⟩
 rintro ⟨o1_4, o2_5⟩ h
 show SCode _ _ _ ⟨[(3, .c (.ptr 0 0))], [.box [.own 1 o1_4.length, .own 2 o2_5.length, .own 3 (List.replicate a0_n.Nodes.toNat (0 : Int)).length, .own 4 (List.replicate a0_n.Nodes.toNat (0 : Int)).length], aSEdge 75 o1_4, .rows 22 3 1 o2_5.length (rLen o2_5) (rGet (cInt .i64) 0 o2_5) none, aI 3 (List.replicate a0_n.Nodes.toNat (0 : Int)), aI 3 (List.replicate a0_n.Nodes.toNat (0 : Int))]⟩ _
 replace h : flow_build_own_p6 a0_n o1_4 o2_5 = some r := h
 unfold flow_build_own_p6 at h
 refine SCode.seq ?_
 refine SCode.region (show SOps _ _ _ [0, 1] _ _ from ?_)
 refine sm rfl rfl rfl rfl rfl (sa rfl rfl rfl rfl rfl (SOps.sub (st' := ⟨[(2, .c (.ptr 0 0))], [.box [.own 1 o1_4.length, .own 2 o2_5.length, .own 3 (List.replicate a0_n.Nodes.toNat (0 : Int)).length, .own 4 (List.replicate a0_n.Nodes.toNat (0 : Int)).length], aSEdge 75 o1_4, .rows 22 3 1 o2_5.length (rLen o2_5) (rGet (cInt .i64) 0 o2_5) none, aI 3 (List.replicate a0_n.Nodes.toNat (0 : Int)), aI 3 (List.replicate a0_n.Nodes.toNat (0 : Int))]⟩) (sub_gen [0, 1, 2, 3, 4] rfl rfl (zall rfl rfl) ⟨bx rfl rfl rfl, oa rfl, ⟨none, rfl, trivial⟩, oa rfl, oa rfl, trivial⟩) (SOps.nil (SCode.ret ?_))))
 obtain rfl := Option.some.inj h
 exact ⟨⟨[(2, .c (.ptr 0 0))], [.box [.own 1 o1_4.length, vR o2_5, .own 2 (List.replicate a0_n.Nodes.toNat (0 : Int)).length, .own 3 (List.replicate a0_n.Nodes.toNat (0 : Int)).length], aSEdge 75 o1_4, aI 3 (List.replicate a0_n.Nodes.toNat (0 : Int)), aI 3 (List.replicate a0_n.Nodes.toNat (0 : Int))]⟩, _, sub_gen [0, 1, 3, 4] rfl rfl (zall rfl rfl) ⟨⟨_, rfl, ⟨ii rfl rfl, .inr (.inr (.inr (.inr (.inr ⟨_, _, _, _, _, _, _, _, _, rfl, rfl, rfl, Nat.le_refl _, fun _ _ => ⟨_, rfl, fun _ _ _ _ => rfl⟩, by decide⟩)))), ii rfl rfl, ii rfl rfl, trivial⟩⟩, oa rfl, oa rfl, oa rfl, trivial⟩, resA1 (v := .c (.ptr 0 0)) rfl rfl, ⟨rfl, rfl⟩⟩
set_option maxRecDepth 100000 in
set_option maxHeartbeats 8000000 in
theorem flow_Max_own_ok (F : Nat) (a0_n : SNet) (a1_source : Int) (a2_sink : Int) (r : Int × (List Int) × Int) (h : flow_Max_own F a0_n a1_source a2_sink = some r) :
  SFun Try.prog 40 [] [.a (bSNet a0_n), ci a1_source, ci a2_sink] (fun x os => x = .t [.c (.int .i64 r.1), .c (.own 0 r.2.1.length), .c (.int .i64 r.2.2)] ∧ os = [aI 3 r.2.1]) := by
 refine SFun.of (n := 52) Try.func40 rfl rfl rfl ?_
 unfold flow_Max_own at h
 show SCode _ _ _ ⟨[(0, .a (bSNet a0_n)), (1, ci a1_source), (2, ci a2_sink)], []⟩ _
 refine SCode.seq ?_
 refine SCode.region (show SOps _ _ _ [0, 1, 2, 3] _ _ from ?_)
 refine se rfl rfl (e_box rfl rfl rfl rfl rfl rfl) (sa rfl rfl rfl rfl rfl (sa rfl rfl rfl rfl rfl (SOps.nilArrL (T := 3) (k := 1) (cInt .i64) 0 (s := 7) rfl rfl (sa rfl rfl rfl rfl rfl (SOps.nil (SCode.seq (SCode.seq ?_)))))))
 obtain ⟨c_1, g2, h⟩ := bind_out h
 try dsimp only at h
 refine SCode.region (show SOps _ _ _ [0, 1, 2, 3, 4] _ _ from ?_)
 refine sq rfl rfl rfl (q_load_ptr_all rfl rfl rfl rfl rfl ty49) (sm rfl rfl rfl rfl rfl (sm rfl rfl rfl rfl rfl (sq rfl rfl rfl (q_call (flow_valid_ok F a0_n a1_source a2_sink c_1 g2) [] rfl fn47 ⟨⟨rfl, rfl⟩, ⟨_, rfl, .inl ⟨rfl, rfl⟩⟩, ⟨_, rfl, .inl ⟨rfl, rfl⟩⟩, trivial⟩ (.inl rfl)) (sa rfl rfl rfl rfl rfl (SOps.nil (SCode.seq ?_))))))
 refine SCode.region (show SOps _ _ _ [0, 1] _ _ from ?_)
 refine sm rfl rfl rfl rfl rfl (sq rfl rfl rfl (q_neq rfl rfl rfl) (SOps.nil ?_))
 rcases cond_out h with ⟨g3, h⟩ | ⟨g3, h⟩
 ·refine SCode.cond_t rfl g3 (SCode.seq ?_)
  refine SCode.region (show SOps _ _ _ [0, 1, 2, 3] _ _ from ?_)
  refine sm rfl rfl rfl rfl rfl (sa rfl rfl rfl rfl rfl (sa rfl rfl rfl rfl rfl (SOps.nilArrL (T := 3) (k := 1) (cInt .i64) 0 (s := 7) rfl rfl (sa rfl rfl rfl rfl rfl (SOps.nil (SCode.ret ?_))))))
  obtain rfl := Option.some.inj h
  exact ⟨⟨[(6, ci 0), (7, .c (.own 0 (([] : List Int)).length)), (8, ci c_1)], [aI 3 (([] : List Int))]⟩, _, sub_gen [2] rfl rfl (zall rfl rfl) ⟨oa rfl, trivial⟩, resA3 (v1 := .c (.int .i64 0)) (v2 := .c (.own 0 (([] : List Int)).length)) (v3 := .c (.int .i64 c_1)) rfl rfl rfl rfl, ⟨rfl, rfl⟩⟩
 refine SCode.cond_f rfl g3 (SCode.skip (SCode.seq ?_))
 obtain ⟨c_4, g5, h⟩ := bind_out h
 try dsimp only at h
 refine SCode.region (show SOps _ _ _ [0, 1, 2] _ _ from ?_)
 refine sq rfl rfl rfl (q_load_ptr_all rfl rfl rfl rfl rfl ty49) (se rfl rfl (e_call (flow_build_own_ok F a0_n c_4 g5) [] rfl fn48 rfl rfl rfl rfl rfl rfl rfl rfl) (sa rfl rfl rfl rfl rfl (SOps.nil (SCode.seq ?_))))
 obtain ⟨c_6, g7, h⟩ := bind_out h
 try dsimp only at h
 refine SCode.region (show SOps _ _ _ [0, 1, 2, 3, 4] _ _ from ?_)
 refine sm rfl rfl rfl rfl rfl (sm rfl rfl rfl rfl rfl (sm rfl rfl rfl rfl rfl (se rfl rfl (e_call (flow_graph_run_ok F c_4.1 c_4.2.1 c_4.2.2.1 c_4.2.2.2 a1_source a2_sink c_6 g7) [2, 3, 4, 5] rfl fn49 rfl rfl rfl rfl rfl rfl rfl rfl) (sa rfl rfl rfl rfl rfl (SOps.sub (st' := ⟨[(3, .c (.ptr 0 0)), (10, .c (.ptr 1 0)), (11, ci c_6.1)], [.box (bSNet a0_n), .box [.own 2 c_6.2.1.length, vR c_4.2.1, .own 3 c_6.2.2.1.length, .own 4 c_6.2.2.2.length], aSEdge 75 c_6.2.1, aI 3 c_6.2.2.1, aI 3 c_6.2.2.2]⟩) (sub_gen [0, 2, 3, 4, 5] rfl rfl (zall rfl rfl) ⟨bx rfl rfl rfl, bx rfl rfl rfl, oa rfl, oa rfl, oa rfl, trivial⟩) (SOps.nil (SCode.seq ?_)))))))
 obtain ⟨g8, h⟩ := guard_out h
 refine SCode.region (show SOps _ _ _ [0, 1, 2, 3, 4] _ _ from ?_)
 refine sq rfl rfl rfl (q_field_ptr rfl rfl fd49_1) (sq rfl rfl rfl (q_load_ptr rfl rfl rfl rfl ty47) (sq rfl rfl rfl (q_len_vec rfl rfl sl47) (se rfl rfl (e_makeL (c := (cInt .i64)) (d0 := 0) rfl rfl rfl rfl rfl sl22 z3 rfl rfl rfl g8.1 (Int.le_refl _) g8.2.1 g8.2.2) (sa rfl rfl rfl rfl rfl (SOps.nil ?_)))))
 refine SCode.join (σ := (List Int)) (S := fun s => ⟨[(11, ci c_6.1), (12, .c (.own 0 s.length))], [aI 3 s]⟩) (g := fun s => flow_Max_own_p10 c_6 s = some r) ?_ ?_
 rotate_left
 ·refine SCode.seq ?_
  refine SCode.region (show SOps _ _ _ [0, 1, 2] _ _ from ?_)
  refine sm rfl rfl rfl rfl rfl (sq rfl rfl rfl (q_len_own rfl rfl sl22) (sm rfl rfl rfl rfl rfl (SOps.nil (SCode.block (SCode.sub (st' := ⟨[(10, .c (.ptr 0 0)), (11, ci c_6.1), (12, .c (.own 4 (List.replicate (((a0_n.Arcs).length : Int)).toNat (0 : Int)).length)), (32, ci (((List.replicate (((a0_n.Arcs).length : Int)).toNat (0 : Int)).length : Int))), (33, ci 0)], [.box [.own 1 c_6.2.1.length, vR c_4.2.1, .own 2 c_6.2.2.1.length, .own 3 c_6.2.2.2.length], aSEdge 75 c_6.2.1, aI 3 c_6.2.2.1, aI 3 c_6.2.2.2, aI 3 (List.replicate (((a0_n.Arcs).length : Int)).toNat (0 : Int))]⟩) (sub_gen [1, 2, 3, 4, 5] rfl rfl (zall rfl rfl) ⟨bx rfl rfl rfl, oa rfl, oa rfl, oa rfl, oa rfl, trivial⟩) ?_)))))
  refine (SCode.loop (σ := Nat × (Int × (List Int))) (S := fun s => ⟨[(10, .c (.ptr 0 0)), (11, ci c_6.1), (12, .c (.own 4 s.2.2.length)), (32, ci (((List.replicate (((a0_n.Arcs).length : Int)).toNat (0 : Int)).length : Int))), (33, ci s.2.1)], [.box [.own 1 c_6.2.1.length, vR c_4.2.1, .own 2 c_6.2.2.1.length, .own 3 c_6.2.2.2.length], aSEdge 75 c_6.2.1, aI 3 c_6.2.2.1, aI 3 c_6.2.2.2, aI 3 s.2.2]⟩) (g := fun s => flow_Max_own_l19 a0_n c_6 s.1 s.2.1 s.2.2 = some r) (μ := fun s => s.1) (F, (0, List.replicate (((a0_n.Arcs).length : Int)).toNat (0 : Int))) h ?_)
  rintro ⟨n_19, ⟨t33_14, o4_15⟩⟩ h
  replace h : flow_Max_own_l19 a0_n c_6 n_19 t33_14 o4_15 = some r := h
  show SCode _ _ _ ⟨[(10, .c (.ptr 0 0)), (11, ci c_6.1), (12, .c (.own 4 o4_15.length)), (32, ci (((List.replicate (((a0_n.Arcs).length : Int)).toNat (0 : Int)).length : Int))), (33, ci t33_14)], [.box [.own 1 c_6.2.1.length, vR c_4.2.1, .own 2 c_6.2.2.1.length, .own 3 c_6.2.2.2.length], aSEdge 75 c_6.2.1, aI 3 c_6.2.2.1, aI 3 c_6.2.2.2, aI 3 o4_15]⟩ _
  cases n_19 with
  | zero => cases h
  | succ n_19 =>
   replace h : flow_Max_own_b19 a0_n c_6 (fun t33_14 o4_15 => flow_Max_own_l19 a0_n c_6 n_19 t33_14 o4_15) t33_14 o4_15 = some r := h
   unfold flow_Max_own_b19 at h
   refine SCode.seq ?_
   refine SCode.region (show SOps _ _ _ [0] _ _ from ?_)
   refine sq rfl rfl rfl (q_lss rfl rfl rfl) (SOps.nil (SCode.seq ?_))
   rcases cond_out h with ⟨g20, h⟩ | ⟨g20, h⟩
   ·refine SCode.cond_t rfl g20 (SCode.skip (SCode.seq (SCode.block (SCode.seq ?_))))
    refine SCode.region (show SOps _ _ _ [0, 1] _ _ from ?_)
    refine sm rfl rfl rfl rfl rfl (sa rfl rfl rfl rfl rfl (SOps.nil ?_))
    obtain ⟨g21, h⟩ := guard_out h
    obtain ⟨g22, h⟩ := guard_out h
    refine SCode.region (show SOps _ _ _ [0, 1, 2, 3, 4, 5, 6, 7, 8, 9, 10, 11, 12, 13] _ _ from ?_)
    refine sm rfl rfl rfl rfl rfl (sm rfl rfl rfl rfl rfl (sm rfl rfl rfl rfl rfl (sq rfl rfl rfl (q_nilCheck rfl rfl rfl) (sq rfl rfl rfl (q_field_ptr rfl rfl fd78_0) (sq rfl rfl rfl (q_load_ptr rfl rfl rfl rfl ty76) (sm rfl rfl rfl rfl rfl (sq rfl rfl rfl (q_mul rfl rfl rfl) (sq rfl rfl rfl (q_add rfl rfl rfl) (sq rfl rfl rfl (q_index_own rfl rfl rfl sl76 g21.1 g21.2) ?_)))))))))
    refine sq rfl rfl rfl (q_field_aptr rfl rfl fd75_1) (sq rfl rfl rfl (q_load_aptr rfl rfl rfl (toNat_lt g21) rfl ty3) (sq rfl rfl rfl (q_index_own rfl rfl rfl sl22 g22.1 g22.2) (se rfl rfl (e_storeL ((c_6.2.1.getD ((IntKind.wrap .i64 (IntKind.wrap .i64 (2 * t33_14) + 1)).toNat) dSEdge).room) rfl rfl rfl rfl rfl (toNat_lt g22) ty3 rfl rfl rfl rfl rfl rfl) (SOps.sub (st' := ⟨[(10, .c (.ptr 0 0)), (11, ci c_6.1), (12, .c (.own 4 (o4_15.set t33_14.toNat ((c_6.2.1.getD ((IntKind.wrap .i64 (IntKind.wrap .i64 (2 * t33_14) + 1)).toNat) dSEdge).room)).length)), (32, ci (((List.replicate (((a0_n.Arcs).length : Int)).toNat (0 : Int)).length : Int))), (33, ci t33_14)], [.box [.own 1 c_6.2.1.length, vR c_4.2.1, .own 2 c_6.2.2.1.length, .own 3 c_6.2.2.2.length], aSEdge 75 c_6.2.1, aI 3 c_6.2.2.1, aI 3 c_6.2.2.2, aI 3 (o4_15.set t33_14.toNat ((c_6.2.1.getD ((IntKind.wrap .i64 (IntKind.wrap .i64 (2 * t33_14) + 1)).toNat) dSEdge).room))]⟩) (sub_gen [0, 1, 2, 3, 4] rfl rfl ⟨zc rfl rfl, zc rfl rfl, ⟨_, rfl, .inl ⟨rfl, congrArg (Cell.own 4) (List.length_set : (o4_15.set t33_14.toNat ((c_6.2.1.getD ((IntKind.wrap .i64 (IntKind.wrap .i64 (2 * t33_14) + 1)).toNat) dSEdge).room)).length = o4_15.length).symm⟩⟩, zc rfl rfl, zc rfl rfl, trivial⟩ ⟨bx rfl rfl rfl, oa rfl, oa rfl, oa rfl, oa rfl, trivial⟩) (SOps.nil ?_)))))
    refine SCode.region (show SOps _ _ _ [0, 1] _ _ from ?_)
    refine sq rfl rfl rfl (q_add rfl rfl rfl) (sm rfl rfl rfl rfl rfl (SOps.nil ?_))
    exact ⟨(n_19, (IntKind.wrap .i64 (t33_14 + 1), o4_15.set t33_14.toNat ((c_6.2.1.getD ((IntKind.wrap .i64 (IntKind.wrap .i64 (2 * t33_14) + 1)).toNat) dSEdge).room))), h, Nat.lt_succ_self n_19, sub_gen [0, 1, 2, 3, 4] rfl rfl (zall rfl rfl) ⟨bx rfl rfl rfl, oa rfl, oa rfl, oa rfl, oa rfl, trivial⟩⟩
   refine SCode.cond_f rfl g20 (SCode.exit ?_)
   exact ⟨o4_15, h, sub_gen [4] rfl rfl (zall rfl rfl) ⟨oa rfl, trivial⟩⟩
 rintro o0_9 h
 show SCode _ _ _ ⟨[(11, ci c_6.1), (12, .c (.own 0 o0_9.length))], [aI 3 o0_9]⟩ _
 replace h : flow_Max_own_p10 c_6 o0_9 = some r := h
 unfold flow_Max_own_p10 at h
 refine SCode.seq ?_
 refine SCode.region (show SOps _ _ _ [0, 1, 2, 3, 4] _ _ from ?_)
 refine sm rfl rfl rfl rfl rfl (sm rfl rfl rfl rfl rfl (sa rfl rfl rfl rfl rfl (sa rfl rfl rfl rfl rfl (sa rfl rfl rfl rfl rfl (SOps.nil (SCode.ret ?_))))))
 obtain rfl := Option.some.inj h
 exact ⟨⟨[(6, ci c_6.1), (7, .c (.own 0 o0_9.length)), (8, ci 0)], [aI 3 o0_9]⟩, _, sub_gen [0] rfl rfl (zall rfl rfl) ⟨oa rfl, trivial⟩, resA3 (v1 := .c (.int .i64 c_6.1)) (v2 := .c (.own 0 o0_9.length)) (v3 := .c (.int .i64 0)) rfl rfl rfl rfl, ⟨rfl, rfl⟩⟩
set_option maxRecDepth 100000 in
set_option maxHeartbeats 8000000 in
theorem plan_route_ok (F : Nat) (a0_n : SNet) (a1_energy : List Int) (r : (List Int) × Bool × (List SArc)) (h : plan_route F a0_n a1_energy = some r) :
  SFun Try.prog 26 [aSArc 63 a0_n.Arcs] [.a [.int .i64 a0_n.Nodes, .own 0 a0_n.Arcs.length], .c (vI a1_energy)] (fun x os => x = .t [.c (vI r.1), .c (.bool r.2.1)] ∧ os = [aSArc 63 r.2.2]) := by
 refine SFun.of (n := 43) Try.func26 rfl rfl rfl ?_
 unfold plan_route at h
 show SCode _ _ _ ⟨[(0, .a [.int .i64 a0_n.Nodes, .own 0 a0_n.Arcs.length]), (1, .c (vI a1_energy))], [aSArc 63 a0_n.Arcs]⟩ _
 refine SCode.seq ?_
 refine SCode.region (show SOps _ _ _ [0, 1, 2] _ _ from ?_)
 refine se rfl rfl (e_box rfl rfl rfl rfl rfl rfl) (sa rfl rfl rfl rfl rfl (sa rfl rfl rfl rfl rfl (SOps.nil (SCode.seq ?_))))
 refine SCode.region (show SOps _ _ _ [0] _ _ from ?_)
 refine sa rfl rfl rfl rfl rfl (SOps.nil ?_)
 refine SCode.join (σ := Int × (List SArc)) (S := fun s => ⟨[(2, .c (.ptr 1 0)), (6, ci s.1)], [aSArc 63 s.2, .box [.int .i64 a0_n.Nodes, .own 0 s.2.length]]⟩) (g := fun s => plan_route_p6 F a0_n s.1 s.2 = some r) ?_ ?_
 rotate_left
 ·refine SCode.seq ?_
  refine SCode.region (show SOps _ _ _ [0, 1, 2] _ _ from ?_)
  refine sm rfl rfl rfl rfl rfl (sq rfl rfl rfl (q_len_vec rfl rfl sl22) (sm rfl rfl rfl rfl rfl (SOps.nil (SCode.block (SCode.sub (st' := ⟨[(2, .c (.ptr 1 0)), (6, ci 0), (12, .c (vI a1_energy)), (13, ci (((a1_energy).length : Int))), (14, ci 0)], [aSArc 63 a0_n.Arcs, .box [.int .i64 a0_n.Nodes, .own 0 a0_n.Arcs.length]]⟩) (sub_gen [0, 1] rfl rfl (zall rfl rfl) ⟨oa rfl, bx rfl rfl rfl, trivial⟩) ?_)))))
  refine (SCode.loop (σ := Nat × (Int × Int × (List SArc))) (S := fun s => ⟨[(2, .c (.ptr 1 0)), (6, ci s.2.1), (12, .c (vI a1_energy)), (13, ci (((a1_energy).length : Int))), (14, ci s.2.2.1)], [aSArc 63 s.2.2.2, .box [.int .i64 a0_n.Nodes, .own 0 s.2.2.2.length]]⟩) (g := fun s => plan_route_l16 F a0_n a1_energy s.1 s.2.1 s.2.2.1 s.2.2.2 = some r) (μ := fun s => s.1) (F, (0, 0, a0_n.Arcs)) h ?_)
  rintro ⟨n_16, ⟨total_10, t14_11, o0_12⟩⟩ h
  replace h : plan_route_l16 F a0_n a1_energy n_16 total_10 t14_11 o0_12 = some r := h
  show SCode _ _ _ ⟨[(2, .c (.ptr 1 0)), (6, ci total_10), (12, .c (vI a1_energy)), (13, ci (((a1_energy).length : Int))), (14, ci t14_11)], [aSArc 63 o0_12, .box [.int .i64 a0_n.Nodes, .own 0 o0_12.length]]⟩ _
  cases n_16 with
  | zero => cases h
  | succ n_16 =>
   replace h : plan_route_b16 F a0_n a1_energy (fun total_10 t14_11 o0_12 => plan_route_l16 F a0_n a1_energy n_16 total_10 t14_11 o0_12) total_10 t14_11 o0_12 = some r := h
   unfold plan_route_b16 at h
   refine SCode.seq ?_
   refine SCode.region (show SOps _ _ _ [0] _ _ from ?_)
   refine sq rfl rfl rfl (q_lss rfl rfl rfl) (SOps.nil (SCode.seq ?_))
   rcases cond_out h with ⟨g17, h⟩ | ⟨g17, h⟩
   ·refine SCode.cond_t rfl g17 (SCode.skip (SCode.seq (SCode.block (SCode.seq ?_))))
    obtain ⟨g18, h⟩ := guard_out h
    refine SCode.region (show SOps _ _ _ [0, 1, 2, 3, 4] _ _ from ?_)
    refine sm rfl rfl rfl rfl rfl (sq rfl rfl rfl (q_index_vec rfl rfl rfl sl22 rfl g18.1 g18.2) (sq rfl rfl rfl (q_load_eptr rfl rfl ty3) (sa rfl rfl rfl rfl rfl (sa rfl rfl rfl rfl rfl (SOps.nil (SCode.seq ?_))))))
    obtain ⟨g19, h⟩ := guard_out h
    refine SCode.region (show SOps _ _ _ [0, 1, 2, 3, 4, 5, 6] _ _ from ?_)
    refine sq rfl rfl rfl (q_field_ptr rfl rfl fd49_1) (sq rfl rfl rfl (q_load_ptr rfl rfl rfl rfl ty47) (sm rfl rfl rfl rfl rfl (sm rfl rfl rfl rfl rfl (sq rfl rfl rfl (q_index_own rfl rfl rfl sl47 g19.1 g19.2) (sq rfl rfl rfl (q_field_aptr rfl rfl fd63_2) (se rfl rfl (e_storeL (SArc.mk ((o0_12.getD t14_11.toNat dSArc).From) ((o0_12.getD t14_11.toNat dSArc).To) (a1_energy.getD t14_11.toNat 0)) rfl rfl rfl rfl rfl (toNat_lt g19) ty3 rfl rfl rfl rfl rfl rfl) (SOps.sub (st' := ⟨[(2, .c (.ptr 1 0)), (6, ci total_10), (8, ci (a1_energy.getD t14_11.toNat 0)), (12, .c (vI a1_energy)), (13, ci (((a1_energy).length : Int))), (14, ci t14_11)], [aSArc 63 (o0_12.set t14_11.toNat (SArc.mk ((o0_12.getD t14_11.toNat dSArc).From) ((o0_12.getD t14_11.toNat dSArc).To) (a1_energy.getD t14_11.toNat 0))), .box [.int .i64 a0_n.Nodes, .own 0 (o0_12.set t14_11.toNat (SArc.mk ((o0_12.getD t14_11.toNat dSArc).From) ((o0_12.getD t14_11.toNat dSArc).To) (a1_energy.getD t14_11.toNat 0))).length]]⟩) (sub_gen [0, 1] rfl rfl (zall rfl rfl) ⟨oa rfl, ⟨_, rfl, ⟨ii rfl rfl, .inl ⟨rfl, congrArg (Cell.own 0) (List.length_set : (o0_12.set t14_11.toNat (SArc.mk ((o0_12.getD t14_11.toNat dSArc).From) ((o0_12.getD t14_11.toNat dSArc).To) (a1_energy.getD t14_11.toNat 0))).length = o0_12.length).symm⟩, trivial⟩⟩, trivial⟩) (SOps.nil ?_))))))))
    refine SCode.region (show SOps _ _ _ [0, 1, 2, 3] _ _ from ?_)
    refine sm rfl rfl rfl rfl rfl (sm rfl rfl rfl rfl rfl (sq rfl rfl rfl (q_add rfl rfl rfl) (sa rfl rfl rfl rfl rfl (SOps.nil ?_))))
    refine SCode.region (show SOps _ _ _ [0, 1] _ _ from ?_)
    refine sq rfl rfl rfl (q_add rfl rfl rfl) (sm rfl rfl rfl rfl rfl (SOps.nil ?_))
    exact ⟨(n_16, (IntKind.wrap .i64 (total_10 + a1_energy.getD t14_11.toNat 0), IntKind.wrap .i64 (t14_11 + 1), o0_12.set t14_11.toNat (SArc.mk ((o0_12.getD t14_11.toNat dSArc).From) ((o0_12.getD t14_11.toNat dSArc).To) (a1_energy.getD t14_11.toNat 0)))), h, Nat.lt_succ_self n_16, sub_gen [0, 1] rfl rfl (zall rfl rfl) ⟨oa rfl, bx rfl rfl rfl, trivial⟩⟩
   refine SCode.cond_f rfl g17 (SCode.exit ?_)
   exact ⟨(total_10, o0_12), h, sub_gen [0, 1] rfl rfl (zall rfl rfl) ⟨oa rfl, bx rfl rfl rfl, trivial⟩⟩
 rintro ⟨total_1, o0_2⟩ h
 show SCode _ _ _ ⟨[(2, .c (.ptr 1 0)), (6, ci total_1)], [aSArc 63 o0_2, .box [.int .i64 a0_n.Nodes, .own 0 o0_2.length]]⟩ _
 replace h : plan_route_p6 F a0_n total_1 o0_2 = some r := h
 unfold plan_route_p6 at h
 refine SCode.seq ?_
 obtain ⟨c_3, g4, h⟩ := bind_out h
 try dsimp only at h
 refine SCode.region (show SOps _ _ _ [0, 1, 2, 3, 4, 5, 6, 7, 8] _ _ from ?_)
 refine sq rfl rfl rfl (q_load_ptr_all rfl rfl rfl rfl rfl ty49) (se rfl rfl (e_callL (flow_Max_own_ok F (SNet.mk a0_n.Nodes o0_2) 0 1 c_3 g4) [] [0] rfl fn40 rfl rfl rfl rfl rfl rfl rfl rfl (nrs ⟨fun _ _ => rfl, trivial⟩) ⟨⟨.inl ⟨rfl, rfl⟩, .inr (.inl ⟨_, _, _, _, _, _, _, rfl, rfl, rfl, Nat.le_refl _, fun _ _ _ _ => rfl, (.head _)⟩), trivial⟩, .inl ⟨rfl, rfl⟩, .inl ⟨rfl, rfl⟩, trivial⟩) (sm rfl rfl rfl rfl rfl (sq rfl rfl rfl (q_extract rfl rfl rfl) (sq rfl rfl rfl (q_extract rfl rfl rfl) (sq rfl rfl rfl (q_extract rfl rfl rfl) (sa rfl rfl rfl rfl rfl (sa rfl rfl rfl rfl rfl (sa rfl rfl rfl rfl rfl (SOps.nil ?_)))))))))
 refine SCode.seq ?_
 rcases cond_out h with ⟨g5, h⟩ | ⟨g5, h⟩
 ·refine SCode.region (show SOps _ _ _ [0, 1, 2, 3, 4, 5, 6, 7, 8, 9] _ _ from ?_)
  refine sm rfl rfl rfl rfl rfl (sm rfl rfl rfl rfl rfl (sq rfl rfl rfl (q_eql rfl rfl rfl) (sm rfl rfl rfl rfl rfl (SOps.q rfl (.guard 3 38 true rfl rfl (gT g5)) rfl (q_move rfl rfl) (SOps.q rfl (.guard 3 38 true rfl rfl (gT g5)) rfl (q_move rfl rfl) (SOps.q rfl (.guard 3 38 true rfl rfl (gT g5)) rfl (q_eql rfl rfl rfl) (sq rfl rfl rfl (q_pick_t rfl rfl g5 rfl) (sa rfl rfl rfl rfl rfl (sa rfl rfl rfl rfl rfl ?_)))))))))
  refine SOps.sub (st' := ⟨[(4, .c (.own 1 c_3.2.1.length)), (5, .c (.bool (decide (c_3.1 = total_1))))], [aSArc 63 o0_2, aI 3 c_3.2.1]⟩) (sub_gen [0, 2] rfl rfl (zall rfl rfl) ⟨oa rfl, oa rfl, trivial⟩) (SOps.nil (SCode.ret ?_))
  obtain rfl := Option.some.inj h
  exact ⟨⟨[(4, .c (vI c_3.2.1)), (5, .c (.bool (decide (c_3.1 = total_1))))], [aSArc 63 o0_2]⟩, _, sub_gen [0] rfl rfl ⟨⟨_, rfl, .inr (.inl ⟨_, _, _, _, _, _, _, rfl, rfl, rfl, Nat.le_refl _, fun _ _ _ _ => rfl, nm rfl⟩)⟩, zc rfl rfl, trivial⟩ ⟨oa rfl, trivial⟩, resA2 (v1 := .c (vI c_3.2.1)) (v2 := .c (.bool (decide (c_3.1 = total_1)))) rfl rfl rfl, ⟨rfl, rfl⟩⟩
 refine SCode.region (show SOps _ _ _ [0, 1, 2, 3, 4, 5, 6, 7, 8, 9] _ _ from ?_)
 refine sm rfl rfl rfl rfl rfl (sm rfl rfl rfl rfl rfl (sq rfl rfl rfl (q_eql rfl rfl rfl) (sm rfl rfl rfl rfl rfl (SOps.skip rfl 3 38 true rfl rfl (.inl (gF g5)) rfl (SOps.skip rfl 3 38 true rfl rfl (.inl (gF g5)) rfl (SOps.skip rfl 3 38 true rfl rfl (.inl (gF g5)) rfl (sq rfl rfl rfl (q_pick_f rfl rfl g5 rfl) (sa rfl rfl rfl rfl rfl (sa rfl rfl rfl rfl rfl ?_)))))))))
 refine SOps.sub (st' := ⟨[(4, .c (.own 1 c_3.2.1.length)), (5, .c (.bool false))], [aSArc 63 o0_2, aI 3 c_3.2.1]⟩) (sub_gen [0, 2] rfl rfl (zall rfl rfl) ⟨oa rfl, oa rfl, trivial⟩) (SOps.nil (SCode.ret ?_))
 obtain rfl := Option.some.inj h
 exact ⟨⟨[(4, .c (vI c_3.2.1)), (5, .c (.bool false))], [aSArc 63 o0_2]⟩, _, sub_gen [0] rfl rfl ⟨⟨_, rfl, .inr (.inl ⟨_, _, _, _, _, _, _, rfl, rfl, rfl, Nat.le_refl _, fun _ _ _ _ => rfl, nm rfl⟩)⟩, zc rfl rfl, trivial⟩ ⟨oa rfl, trivial⟩, resA2 (v1 := .c (vI c_3.2.1)) (v2 := .c (.bool false)) rfl rfl rfl, ⟨rfl, rfl⟩⟩
set_option maxRecDepth 100000 in
set_option maxHeartbeats 8000000 in
theorem plan_usable_ok (F : Nat) (a0_p : SProblem) (a1_d : SDemand) (a2_slot : Int) (r : Bool) (h : plan_usable F a0_p a1_d a2_slot = some r) :
  SFun Try.prog 36 [] [.a (bSProblem a0_p), .a (bSDemand a1_d), ci a2_slot] (fun x _ => x = .c (.bool r)) := by
 refine SFun.of (n := 28) Try.func36 rfl rfl rfl ?_
 unfold plan_usable at h
 show SCode _ _ _ ⟨[(0, .a (bSProblem a0_p)), (1, .a (bSDemand a1_d)), (2, ci a2_slot)], []⟩ _
 refine SCode.seq ?_
 refine SCode.region (show SOps _ _ _ [0, 1, 2] _ _ from ?_)
 refine se rfl rfl (e_box rfl rfl rfl rfl rfl rfl) (se rfl rfl (e_box rfl rfl rfl rfl rfl rfl) (sa rfl rfl rfl rfl rfl (SOps.nil (SCode.seq ?_))))
 refine SCode.region (show SOps _ _ _ [0, 1, 2, 3, 4, 5, 6, 7] _ _ from ?_)
 refine sq rfl rfl rfl (q_field_ptr rfl rfl fd26_2) (sq rfl rfl rfl (q_load_ptr rfl rfl rfl rfl ty3) (sm rfl rfl rfl rfl rfl (sq rfl rfl rfl (q_field_ptr rfl rfl fd26_3) (sq rfl rfl rfl (q_load_ptr rfl rfl rfl rfl ty3) (sq rfl rfl rfl (q_mul rfl rfl rfl) (sq rfl rfl rfl (q_add rfl rfl rfl) (sa rfl rfl rfl rfl rfl (SOps.nil (SCode.seq ?_)))))))))
 rcases cond_out h with ⟨g1, h⟩ | ⟨g1, h⟩
 ·refine SCode.region (show SOps _ _ _ [0, 1, 2, 3, 4, 5, 6, 7, 8, 9, 10, 11, 12, 13] _ _ from ?_)
  refine sq rfl rfl rfl (q_field_ptr rfl rfl fd39_3) (sq rfl rfl rfl (q_load_ptr rfl rfl rfl rfl ty3) (sm rfl rfl rfl rfl rfl (sq rfl rfl rfl (q_leq rfl rfl rfl) (sm rfl rfl rfl rfl rfl (SOps.q rfl (.guard 4 19 true rfl rfl (gT g1)) rfl (q_move rfl rfl) (SOps.q rfl (.guard 4 19 true rfl rfl (gT g1)) rfl (q_field_ptr rfl rfl fd26_3) (SOps.q rfl (.guard 4 19 true rfl rfl (gT g1)) rfl (q_load_ptr rfl rfl rfl rfl ty3) (SOps.q rfl (.guard 4 19 true rfl rfl (gT g1)) rfl (q_add rfl rfl rfl) (SOps.q rfl (.guard 4 19 true rfl rfl (gT g1)) rfl (q_field_ptr rfl rfl fd39_4) ?_)))))))))
  refine SOps.q rfl (.guard 4 19 true rfl rfl (gT g1)) rfl (q_load_ptr rfl rfl rfl rfl ty3) (SOps.q rfl (.guard 4 19 true rfl rfl (gT g1)) rfl (q_leq rfl rfl rfl) (sq rfl rfl rfl (q_pick_t rfl rfl g1 rfl) (sa rfl rfl rfl rfl rfl (SOps.sub (st' := ⟨[(6, .c (.bool (decide (IntKind.wrap .i64 (IntKind.wrap .i64 (a0_p.From + IntKind.wrap .i64 (a2_slot * a0_p.Length)) + a0_p.Length) ≤ a1_d.Depart))))], []⟩) (sub_gen [] rfl rfl (zall rfl rfl) trivial) (SOps.nil (SCode.ret ?_))))))
  obtain rfl := Option.some.inj h
  exact ⟨⟨[(6, .c (.bool (decide (IntKind.wrap .i64 (IntKind.wrap .i64 (a0_p.From + IntKind.wrap .i64 (a2_slot * a0_p.Length)) + a0_p.Length) ≤ a1_d.Depart))))], []⟩, _, sub_gen [] rfl rfl (zall rfl rfl) trivial, resA1 (v := .c (.bool (decide (IntKind.wrap .i64 (IntKind.wrap .i64 (a0_p.From + IntKind.wrap .i64 (a2_slot * a0_p.Length)) + a0_p.Length) ≤ a1_d.Depart)))) rfl rfl, rfl⟩
 refine SCode.region (show SOps _ _ _ [0, 1, 2, 3, 4, 5, 6, 7, 8, 9, 10, 11, 12, 13] _ _ from ?_)
 refine sq rfl rfl rfl (q_field_ptr rfl rfl fd39_3) (sq rfl rfl rfl (q_load_ptr rfl rfl rfl rfl ty3) (sm rfl rfl rfl rfl rfl (sq rfl rfl rfl (q_leq rfl rfl rfl) (sm rfl rfl rfl rfl rfl (SOps.skip rfl 4 19 true rfl rfl (.inl (gF g1)) rfl (SOps.skip rfl 4 19 true rfl rfl (.inl (gF g1)) rfl (SOps.skip rfl 4 19 true rfl rfl (.inl (gF g1)) rfl (SOps.skip rfl 4 19 true rfl rfl (.inl (gF g1)) rfl (SOps.skip rfl 4 19 true rfl rfl (.inl (gF g1)) rfl ?_)))))))))
 refine SOps.skip rfl 4 19 true rfl rfl (.inl (gF g1)) rfl (SOps.skip rfl 4 19 true rfl rfl (.inl (gF g1)) rfl (sq rfl rfl rfl (q_pick_f rfl rfl g1 rfl) (sa rfl rfl rfl rfl rfl (SOps.sub (st' := ⟨[(6, .c (.bool false))], []⟩) (sub_gen [] rfl rfl (zall rfl rfl) trivial) (SOps.nil (SCode.ret ?_))))))
 obtain rfl := Option.some.inj h
 exact ⟨⟨[(6, .c (.bool false))], []⟩, _, sub_gen [] rfl rfl (zall rfl rfl) trivial, resA1 (v := .c (.bool false)) rfl rfl, rfl⟩
end Go.Proofs.Ytfefnffdocmlmaa.W
