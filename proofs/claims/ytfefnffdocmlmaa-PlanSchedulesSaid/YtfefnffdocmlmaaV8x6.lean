/- Written by a program of ours (wip/eng/gen.py): the functions compute their models. -/
import Derived.Test.YtfefnffdocmlmaaFacts
import Derived.Test.YtfefnffdocmlmaaV8x5
namespace Go.Proofs.Ytfefnffdocmlmaa.W
open Go Go.Proofs Go.Proofs.Ytfefnffdocmlmaa.E Go.Proofs.Ytfefnffdocmlmaa.M
set_option linter.unusedVariables false
set_option maxRecDepth 100000
set_option maxHeartbeats 8000000
theorem chargenetref09_search_ok (F : Nat) (a0_n : SNet) (a1_source : Int) (a2_l : List Int) (r : (List Int) × (List Int)) (h : chargenetref09_search F a0_n a1_source a2_l = some r) :
  SFun Try.prog 53 [aI 3 a2_l] [.a (bSNet a0_n), ci a1_source, .c (.own 0 a2_l.length)] (fun x os => x = .t [.c (vI r.1), .c (vI r.2)] ∧ os = [aI 3 a2_l]) := by
 refine SFun.of (n := 117) Try.func53 rfl rfl rfl ?_
 unfold chargenetref09_search at h
 show SCode _ _ _ ⟨[(0, .a (bSNet a0_n)), (1, ci a1_source), (2, .c (.own 0 a2_l.length))], [aI 3 a2_l]⟩ _
 refine SCode.seq (SCode.region (se rfl rfl (e_box rfl rfl rfl rfl rfl rfl) (sa rfl rfl (sa rfl rfl (SOps.nil (SCode.seq ?_))))))
 obtain ⟨g1, h⟩ := guard_out h
 refine SCode.region (sq rfl rfl (q_field_ptr rfl rfl fd49_0) (sq rfl rfl (q_load_ptr rfl rfl rfl rfl ty3) (se rfl rfl (e_makeL (c := (cInt .i64)) (d0 := 0) rfl rfl rfl rfl rfl sl22 z3 rfl rfl rfl g1.1 (Int.le_refl _) g1.2.1 g1.2.2) (sa rfl rfl (SOps.nil (SCode.seq ?_))))))
 obtain ⟨g2, h⟩ := guard_out h
 refine SCode.region (sq rfl rfl (q_field_ptr rfl rfl fd49_0) (sq rfl rfl (q_load_ptr rfl rfl rfl rfl ty3) (se rfl rfl (e_makeL (c := (cInt .i64)) (d0 := 0) rfl rfl rfl rfl rfl sl22 z3 rfl rfl rfl g2.1 (Int.le_refl _) g2.2.1 g2.2.2) (sa rfl rfl (SOps.nil (SCode.seq ?_))))))
 obtain ⟨g3, h⟩ := guard_out h
 refine SCode.region (sm rfl rfl (sm rfl rfl (sq rfl rfl (q_index_own rfl rfl rfl sl22 g3.1 g3.2) (se rfl rfl (e_storeL 1 rfl rfl rfl rfl rfl (toNat_lt g3) ty3 rfl rfl rfl rfl rfl rfl) ?_))))
 let y1 := List.replicate a0_n.Nodes.toNat (0 : Int)
 refine SOps.sub (st' := ⟨[(2, .c (.own 0 a2_l.length)), (3, .c (.ptr 1 0)), (8, .c (.own 2 y1.length)), (9, .c (.own 3 (y1.set a1_source.toNat 1).length))], [aI 3 a2_l, .box (bSNet a0_n), aI 3 y1, aI 3 (y1.set a1_source.toNat 1)]⟩) (sub_gen [0, 1, 2, 3] rfl rfl ⟨zc rfl rfl, zc rfl rfl, zc rfl rfl, ⟨_, rfl, .inl ⟨rfl, congrArg (Cell.own 3) (List.length_set : (y1.set a1_source.toNat 1).length = y1.length).symm⟩⟩, trivial⟩ ⟨oa rfl, bx rfl rfl rfl, oa rfl, oa rfl, trivial⟩) (SOps.nil ?_)
 let S693 := fun (o1_4 : List Int) => fun (o2_5 : List Int) => (⟨[(8, .c (.own 1 o1_4.length)), (9, .c (.own 2 o2_5.length))], [aI 3 a2_l, aI 3 o1_4, aI 3 o2_5]⟩ : St)
 refine SCode.join (σ := (List Int) × (List Int)) (S := fun s => (S693 s.1 s.2)) (g := fun s => chargenetref09_search_p6 s.1 s.2 = some r) ?_ ?_
 rotate_left
 ·refine SCode.seq (SCode.region (sa rfl rfl (SOps.nil (SCode.block ?_))))
  let S692 := fun (d_111 : Int) => fun (o2_112 : List Int) => fun (o3_113 : List Int) => (⟨[(2, .c (.own 0 a2_l.length)), (3, .c (.ptr 1 0)), (8, .c (.own 2 o2_112.length)), (9, .c (.own 3 o3_113.length)), (10, ci d_111)], [aI 3 a2_l, .box (bSNet a0_n), aI 3 o2_112, aI 3 o3_113]⟩ : St)
  refine SCode.sub (st' := (S692 1 (List.replicate a0_n.Nodes.toNat (0 : Int)) ((List.replicate a0_n.Nodes.toNat (0 : Int)).set a1_source.toNat 1))) (sub_gen [0, 1, 2, 3] rfl rfl (zall rfl rfl) ⟨oa rfl, bx rfl rfl rfl, oa rfl, oa rfl, trivial⟩) ?_
  refine (SCode.loop (σ := Nat × (Int × (List Int) × (List Int))) (S := fun s => (S692 s.2.1 s.2.2.1 s.2.2.2)) (g := fun s => chargenetref09_search_l218 F a0_n a2_l s.1 s.2.1 s.2.2.1 s.2.2.2 = some r) (μ := fun s => s.1) (F, (1, List.replicate a0_n.Nodes.toNat (0 : Int), (List.replicate a0_n.Nodes.toNat (0 : Int)).set a1_source.toNat 1)) h ?_)
  rintro ⟨n_218, ⟨d_111, o2_112, o3_113⟩⟩ h
  try dsimp only at h
  show SCode _ _ _ (S692 d_111 o2_112 o3_113) _
  cases n_218 with
  | zero => cases h
  | succ n_218 =>
   rw [chargenetref09_search_l218] at h
   unfold chargenetref09_search_b218 at h
   refine SCode.seq (SCode.seq (SCode.region (sm rfl rfl (sq rfl rfl (q_field_ptr rfl rfl fd49_0) (sq rfl rfl (q_load_ptr rfl rfl rfl rfl ty3) (sq rfl rfl (q_leq rfl rfl rfl) (SOps.nil ?_)))))))
   rcases cond_out h with ⟨g219, h⟩ | ⟨g219, h⟩
   ·refine SCode.cond_t rfl g219 (SCode.skip ?_)
    let S691 := fun (o2_220 : List Int) => fun (o3_221 : List Int) => (⟨[(2, .c (.own 0 a2_l.length)), (3, .c (.ptr 1 0)), (8, .c (.own 2 o2_220.length)), (9, .c (.own 3 o3_221.length)), (10, ci d_111)], [aI 3 a2_l, .box (bSNet a0_n), aI 3 o2_220, aI 3 o3_221]⟩ : St)
    refine SCode.join (σ := (List Int) × (List Int)) (S := fun s => (S691 s.1 s.2)) (g := fun s => chargenetref09_search_p222 d_111 (fun d_111 o2_112 o3_113 => chargenetref09_search_l218 F a0_n a2_l n_218 d_111 o2_112 o3_113) s.1 s.2 = some r) ?_ ?_
    rotate_left
    ·refine SCode.block (SCode.seq (SCode.region (sa rfl rfl (SOps.nil ?_))))
     let S690 := fun (done_223 : Bool) => fun (o2_224 : List Int) => fun (o3_225 : List Int) => (⟨[(2, .c (.own 0 a2_l.length)), (3, .c (.ptr 1 0)), (8, .c (.own 2 o2_224.length)), (9, .c (.own 3 o3_225.length)), (10, ci d_111), (11, .c (.bool done_223))], [aI 3 a2_l, .box (bSNet a0_n), aI 3 o2_224, aI 3 o3_225]⟩ : St)
     refine SCode.join (σ := Bool × (List Int) × (List Int)) (S := fun s => (S690 s.1 s.2.1 s.2.2)) (g := fun s => chargenetref09_search_p227 d_111 (fun d_111 o2_112 o3_113 => chargenetref09_search_l218 F a0_n a2_l n_218 d_111 o2_112 o3_113) s.1 s.2.1 s.2.2 = some r) ?_ ?_
     rotate_left
     ·refine SCode.seq (SCode.region (sa rfl rfl (SOps.nil (SCode.block ?_))))
      let S689 := fun (done_258 : Bool) => fun (i_259 : Int) => fun (o2_260 : List Int) => fun (o3_261 : List Int) => (⟨[(2, .c (.own 0 a2_l.length)), (3, .c (.ptr 1 0)), (8, .c (.own 2 o2_260.length)), (9, .c (.own 3 o3_261.length)), (10, ci d_111), (11, .c (.bool done_258)), (12, ci i_259)], [aI 3 a2_l, .box (bSNet a0_n), aI 3 o2_260, aI 3 o3_261]⟩ : St)
      refine SCode.sub (st' := (S689 true 0 o2_112 o3_113)) (sub_gen [0, 1, 2, 3] rfl rfl (zall rfl rfl) ⟨oa rfl, bx rfl rfl rfl, oa rfl, oa rfl, trivial⟩) ?_
      refine (SCode.loop (σ := Nat × (Bool × Int × (List Int) × (List Int))) (S := fun s => (S689 s.2.1 s.2.2.1 s.2.2.2.1 s.2.2.2.2)) (g := fun s => chargenetref09_search_l292 a0_n a2_l d_111 (fun d_111 o2_112 o3_113 => chargenetref09_search_l218 F a0_n a2_l n_218 d_111 o2_112 o3_113) s.1 s.2.1 s.2.2.1 s.2.2.2.1 s.2.2.2.2 = some r) (μ := fun s => s.1) (F, (true, 0, o2_112, o3_113)) h ?_)
      rintro ⟨n_292, ⟨done_258, i_259, o2_260, o3_261⟩⟩ h
      try dsimp only at h
      show SCode _ _ _ (S689 done_258 i_259 o2_260 o3_261) _
      cases n_292 with
      | zero => cases h
      | succ n_292 =>
       rw [chargenetref09_search_l292] at h
       unfold chargenetref09_search_b292 at h
       refine SCode.seq (SCode.seq (SCode.region (sm rfl rfl (sq rfl rfl (q_field_ptr rfl rfl fd49_1) (sq rfl rfl (q_load_ptr rfl rfl rfl rfl ty47) (sq rfl rfl (q_len_vec rfl rfl sl47) (sq rfl rfl (q_lss rfl rfl rfl) (SOps.nil ?_))))))))
       rcases cond_out h with ⟨g293, h⟩ | ⟨g293, h⟩
       ·refine SCode.cond_t rfl g293 (SCode.skip ?_)
        let S688 := fun (done_294 : Bool) => fun (o2_295 : List Int) => fun (o3_296 : List Int) => (⟨[(2, .c (.own 0 a2_l.length)), (3, .c (.ptr 1 0)), (8, .c (.own 2 o2_295.length)), (9, .c (.own 3 o3_296.length)), (10, ci d_111), (11, .c (.bool done_294)), (12, ci i_259)], [aI 3 a2_l, .box (bSNet a0_n), aI 3 o2_295, aI 3 o3_296]⟩ : St)
        refine SCode.join (σ := Bool × (List Int) × (List Int)) (S := fun s => (S688 s.1 s.2.1 s.2.2)) (g := fun s => chargenetref09_search_p297 i_259 (fun done_258 i_259 o2_260 o3_261 => chargenetref09_search_l292 a0_n a2_l d_111 (fun d_111 o2_112 o3_113 => chargenetref09_search_l218 F a0_n a2_l n_218 d_111 o2_112 o3_113) n_292 done_258 i_259 o2_260 o3_261) s.1 s.2.1 s.2.2 = some r) ?_ ?_
        rotate_left
        ·refine SCode.block (SCode.seq ?_)
         obtain ⟨g298, h⟩ := guard_out h
         refine SCode.region (sq rfl rfl (q_field_ptr rfl rfl fd49_1) (sq rfl rfl (q_load_ptr rfl rfl rfl rfl ty47) (sm rfl rfl (sq rfl rfl (q_index_vec rfl rfl rfl sl47 rfl g298.1 g298.2) (sq rfl rfl (q_load_eptr_all rfl rfl rfl ty63) (se rfl rfl (e_alloc rfl rfl rfl z63) (se rfl rfl (e_store_box rfl rfl rfl rfl rfl ty63 rfl rfl rfl rfl) (SOps.nil ?_))))))))
         let S687 := fun (done_299 : Bool) => fun (o2_300 : List Int) => fun (o3_301 : List Int) => (⟨[(2, .c (.own 0 a2_l.length)), (3, .c (.ptr 1 0)), (8, .c (.own 2 o2_300.length)), (9, .c (.own 3 o3_301.length)), (10, ci d_111), (11, .c (.bool done_299)), (12, ci i_259), (13, .c (.ptr 4 0))], [aI 3 a2_l, .box (bSNet a0_n), aI 3 o2_300, aI 3 o3_301, .box (bSArc (a0_n.Arcs.getD i_259.toNat dSArc))]⟩ : St)
         refine SCode.join (σ := Bool × (List Int) × (List Int)) (S := fun s => (S687 s.1 s.2.1 s.2.2)) (g := fun s => chargenetref09_search_p312 a0_n a2_l d_111 i_259 (fun done_258 i_259 o2_260 o3_261 => chargenetref09_search_l292 a0_n a2_l d_111 (fun d_111 o2_112 o3_113 => chargenetref09_search_l218 F a0_n a2_l n_218 d_111 o2_112 o3_113) n_292 done_258 i_259 o2_260 o3_261) s.1 s.2.1 s.2.2 = some r) ?_ ?_
         rotate_left
         ·let S686 := fun (t64_313 : Bool) => (⟨[(2, .c (.own 0 a2_l.length)), (3, .c (.ptr 1 0)), (8, .c (.own 2 o2_260.length)), (9, .c (.own 3 o3_261.length)), (10, ci d_111), (11, .c (.bool done_258)), (12, ci i_259), (13, .c (.ptr 4 0)), (64, .c (.bool t64_313))], [aI 3 a2_l, .box (bSNet a0_n), aI 3 o2_260, aI 3 o3_261, .box (bSArc (a0_n.Arcs.getD i_259.toNat dSArc))]⟩ : St)
          refine SCode.join (σ := Bool) (S := fun s => (S686 s)) (g := fun s => chargenetref09_search_p317 a0_n a2_l d_111 done_258 i_259 o2_260 o3_261 (fun done_258 i_259 o2_260 o3_261 => chargenetref09_search_l292 a0_n a2_l d_111 (fun d_111 o2_112 o3_113 => chargenetref09_search_l218 F a0_n a2_l n_218 d_111 o2_112 o3_113) n_292 done_258 i_259 o2_260 o3_261) s = some r) ?_ ?_
          rotate_left
          ·refine SCode.sub (st' := ⟨[(2, .c (.own 0 a2_l.length)), (3, .c (.ptr 1 0)), (8, .c (.own 2 o2_260.length)), (9, .c (.own 3 o3_261.length)), (10, ci d_111), (11, .c (.bool done_258)), (12, ci i_259), (13, .c (.ptr 4 0))], [aI 3 a2_l, .box (bSNet a0_n), aI 3 o2_260, aI 3 o3_261, .box (bSArc (a0_n.Arcs.getD i_259.toNat dSArc))]⟩) (sub_gen [0, 1, 2, 3, 4] rfl rfl (zall rfl rfl) ⟨oa rfl, bx rfl rfl rfl, oa rfl, oa rfl, bx rfl rfl rfl, trivial⟩) ?_
           obtain ⟨g318, h⟩ := guard_out h
           rcases cond_out h with ⟨g319, h⟩ | ⟨g319, h⟩
           ·obtain ⟨g320, h⟩ := guard_out h
            rcases cond_out h with ⟨g321, h⟩ | ⟨g321, h⟩
            ·obtain ⟨g322, h⟩ := guard_out h
             refine SCode.drawK mixed [[], [], [1], [0, 1, 2], [0, 1, 2, 3], [], [0, 1, 2, 3, 4, 5], [0, 1, 2, 3, 4, 5, 6], [0, 1, 2, 3, 4, 5, 6, 7], [0, 1, 2, 3, 4, 5, 6, 7], [0, 1, 2, 3, 4, 5, 6, 7, 9], [0, 1, 2, 3, 4, 5, 6, 7, 8, 9, 10], [0, 1, 2, 3, 4, 5, 6, 7, 8, 9, 10, 11], [0, 1, 2, 3, 4, 5, 6, 7, 8, 9, 10, 11, 12], [0, 1, 2, 3, 4, 5, 6, 7, 8, 9, 10, 11, 12, 13], [0, 1, 2, 3, 4, 5, 6, 7, 8, 9, 10, 11, 12, 13, 14], [0, 1, 2, 3, 4, 5, 6, 7, 8, 9, 10, 11, 12, 13, 14, 15], [0, 1, 2, 3, 4, 5, 6, 7, 8, 9, 10, 11, 12, 13, 14, 15], [0, 1, 2, 3, 4, 5, 6, 7, 8, 9, 10, 11, 12, 13, 14, 15, 16, 17], [0, 1, 2, 3, 4, 5, 6, 7, 8, 9, 10, 11, 12, 13, 14, 15, 16, 17, 18], [0, 1, 2, 3, 4, 5, 6, 7, 8, 9, 10, 11, 12, 13, 14, 15], [0, 1, 2, 3, 4, 5, 6, 7, 8, 9, 10, 11, 12, 13, 14, 15, 20], [0, 1, 2, 3, 4, 5, 6, 7, 8, 9, 10, 11, 12, 13, 14, 15, 16, 17, 18, 19, 20, 21], [0, 1, 2, 3, 4, 5, 6, 7, 8, 9, 10, 11, 12, 13, 14, 15, 16, 17, 18, 19, 20, 21, 22]] 24 0 rfl rfl (qm rfl rfl (qr rfl rfl (q_field_ptr rfl rfl fd63_0) (qr rfl rfl (q_load_ptr rfl rfl rfl rfl ty3) (qr rfl rfl (q_index_own rfl rfl rfl sl22 g318.1 g318.2) (qr rfl rfl (q_load_aptr rfl rfl rfl (toNat_lt g318) rfl ty3) (qm rfl rfl (qr rfl rfl (q_eql rfl rfl rfl) (qm rfl rfl (QK.run rfl (.guard 7 48 true rfl rfl (gT g319)) rfl (q_move rfl rfl) (QK.run rfl (.guard 7 48 true rfl rfl (gT g319)) rfl (q_field_ptr rfl rfl fd63_1) (QK.run rfl (.guard 7 48 true rfl rfl (gT g319)) rfl (q_load_ptr rfl rfl rfl rfl ty3) (QK.run rfl (.guard 7 48 true rfl rfl (gT g319)) rfl (q_index_own rfl rfl rfl sl22 g320.1 g320.2) (QK.run rfl (.guard 7 48 true rfl rfl (gT g319)) rfl (q_load_aptr rfl rfl rfl (toNat_lt g320) rfl ty3) (QK.run rfl (.guard 7 48 true rfl rfl (gT g319)) rfl (q_eql rfl rfl rfl) (qr rfl rfl (q_pick_t rfl rfl g319 rfl) ?_)))))))))))))))
             refine qm rfl rfl (QK.run rfl (.guard 15 56 true rfl rfl (gT g321)) rfl (q_move rfl rfl) (QK.run rfl (.guard 15 56 true rfl rfl (gT g321)) rfl (q_move rfl rfl) (QK.run rfl (.guard 15 56 true rfl rfl (gT g321)) rfl (q_index_own rfl rfl rfl sl22 g322.1 g322.2) (QK.run rfl (.guard 15 56 true rfl rfl (gT g321)) rfl (q_load_aptr rfl rfl rfl (toNat_lt g322) rfl ty3) (QK.run rfl (.guard 15 56 true rfl rfl (gT g321)) rfl (q_field_ptr rfl rfl fd63_2) (QK.run rfl (.guard 15 56 true rfl rfl (gT g321)) rfl (q_load_ptr rfl rfl rfl rfl ty3) (QK.run rfl (.guard 15 56 true rfl rfl (gT g321)) rfl (q_lss rfl rfl rfl) (qr rfl rfl (q_pick_t rfl rfl g321 rfl) (QK.nil (SOps.sub (st' := ⟨[(2, .c (.own 0 a2_l.length)), (3, .c (.ptr 1 0)), (8, .c (.own 2 o2_260.length)), (9, .c (.own 3 o3_261.length)), (10, ci d_111), (11, .c (.bool done_258)), (12, ci i_259), (13, .c (.ptr 4 0)), (64, .c (.bool (decide (a2_l.getD i_259.toNat 0 < (a0_n.Arcs.getD i_259.toNat dSArc).Cap))))], [aI 3 a2_l, .box (bSNet a0_n), aI 3 o2_260, aI 3 o3_261, .box (bSArc (a0_n.Arcs.getD i_259.toNat dSArc))]⟩) (sub_gen [0, 1, 2, 3, 4] rfl rfl (zall rfl rfl) ⟨oa rfl, bx rfl rfl rfl, oa rfl, oa rfl, bx rfl rfl rfl, trivial⟩) (SOps.nil ?_)))))))))))
             exact ⟨decide (a2_l.getD i_259.toNat 0 < (a0_n.Arcs.getD i_259.toNat dSArc).Cap), h, sub_gen [0, 1, 2, 3, 4] rfl rfl (zall rfl rfl) ⟨oa rfl, bx rfl rfl rfl, oa rfl, oa rfl, bx rfl rfl rfl, trivial⟩⟩
            refine SCode.drawK mixed [[], [], [1], [0, 1, 2], [0, 1, 2, 3], [], [0, 1, 2, 3, 4, 5], [0, 1, 2, 3, 4, 5, 6], [0, 1, 2, 3, 4, 5, 6, 7], [0, 1, 2, 3, 4, 5, 6, 7], [0, 1, 2, 3, 4, 5, 6, 7, 9], [0, 1, 2, 3, 4, 5, 6, 7, 8, 9, 10], [0, 1, 2, 3, 4, 5, 6, 7, 8, 9, 10, 11], [0, 1, 2, 3, 4, 5, 6, 7, 8, 9, 10, 11, 12], [0, 1, 2, 3, 4, 5, 6, 7, 8, 9, 10, 11, 12, 13], [0, 1, 2, 3, 4, 5, 6, 7, 8, 9, 10, 11, 12, 13, 14], [0, 1, 2, 3, 4, 5, 6, 7, 8, 9, 10, 11, 12, 13, 14, 15], [0, 1, 2, 3, 4, 5, 6, 7, 8, 9, 10, 11, 12, 13, 14, 15], [0, 1, 2, 3, 4, 5, 6, 7, 8, 9, 10, 11, 12, 13, 14, 15, 16, 17], [0, 1, 2, 3, 4, 5, 6, 7, 8, 9, 10, 11, 12, 13, 14, 15, 16, 17, 18], [0, 1, 2, 3, 4, 5, 6, 7, 8, 9, 10, 11, 12, 13, 14, 15], [0, 1, 2, 3, 4, 5, 6, 7, 8, 9, 10, 11, 12, 13, 14, 15, 20], [0, 1, 2, 3, 4, 5, 6, 7, 8, 9, 10, 11, 12, 13, 14, 15, 16, 17, 18, 19, 20, 21], [0, 1, 2, 3, 4, 5, 6, 7, 8, 9, 10, 11, 12, 13, 14, 15, 16, 17, 18, 19, 20, 21, 22]] 24 0 rfl rfl (qm rfl rfl (qr rfl rfl (q_field_ptr rfl rfl fd63_0) (qr rfl rfl (q_load_ptr rfl rfl rfl rfl ty3) (qr rfl rfl (q_index_own rfl rfl rfl sl22 g318.1 g318.2) (qr rfl rfl (q_load_aptr rfl rfl rfl (toNat_lt g318) rfl ty3) (qm rfl rfl (qr rfl rfl (q_eql rfl rfl rfl) (qm rfl rfl (QK.run rfl (.guard 7 48 true rfl rfl (gT g319)) rfl (q_move rfl rfl) (QK.run rfl (.guard 7 48 true rfl rfl (gT g319)) rfl (q_field_ptr rfl rfl fd63_1) (QK.run rfl (.guard 7 48 true rfl rfl (gT g319)) rfl (q_load_ptr rfl rfl rfl rfl ty3) (QK.run rfl (.guard 7 48 true rfl rfl (gT g319)) rfl (q_index_own rfl rfl rfl sl22 g320.1 g320.2) (QK.run rfl (.guard 7 48 true rfl rfl (gT g319)) rfl (q_load_aptr rfl rfl rfl (toNat_lt g320) rfl ty3) (QK.run rfl (.guard 7 48 true rfl rfl (gT g319)) rfl (q_eql rfl rfl rfl) (qr rfl rfl (q_pick_t rfl rfl g319 rfl) ?_)))))))))))))))
            refine qm rfl rfl (QK.skip rfl ⟨15, 56, true, rfl, rfl, (.inl (gF g321))⟩ rfl (QK.skip rfl ⟨15, 56, true, rfl, rfl, (.inl (gF g321))⟩ rfl (QK.skip rfl ⟨15, 56, true, rfl, rfl, (.inl (gF g321))⟩ rfl (QK.skip rfl ⟨15, 56, true, rfl, rfl, (.inl (gF g321))⟩ rfl (QK.skip rfl ⟨15, 56, true, rfl, rfl, (.inl (gF g321))⟩ rfl (QK.skip rfl ⟨15, 56, true, rfl, rfl, (.inl (gF g321))⟩ rfl (QK.skip rfl ⟨15, 56, true, rfl, rfl, (.inl (gF g321))⟩ rfl (qr rfl rfl (q_pick_f rfl rfl g321 rfl) (QK.nil (SOps.sub (st' := ⟨[(2, .c (.own 0 a2_l.length)), (3, .c (.ptr 1 0)), (8, .c (.own 2 o2_260.length)), (9, .c (.own 3 o3_261.length)), (10, ci d_111), (11, .c (.bool done_258)), (12, ci i_259), (13, .c (.ptr 4 0)), (64, .c (.bool false))], [aI 3 a2_l, .box (bSNet a0_n), aI 3 o2_260, aI 3 o3_261, .box (bSArc (a0_n.Arcs.getD i_259.toNat dSArc))]⟩) (sub_gen [0, 1, 2, 3, 4] rfl rfl (zall rfl rfl) ⟨oa rfl, bx rfl rfl rfl, oa rfl, oa rfl, bx rfl rfl rfl, trivial⟩) (SOps.nil ?_)))))))))))
            exact ⟨false, h, sub_gen [0, 1, 2, 3, 4] rfl rfl (zall rfl rfl) ⟨oa rfl, bx rfl rfl rfl, oa rfl, oa rfl, bx rfl rfl rfl, trivial⟩⟩
           refine SCode.drawK mixed [[], [], [1], [0, 1, 2], [0, 1, 2, 3], [], [0, 1, 2, 3, 4, 5], [0, 1, 2, 3, 4, 5, 6], [0, 1, 2, 3, 4, 5, 6, 7], [0, 1, 2, 3, 4, 5, 6, 7], [0, 1, 2, 3, 4, 5, 6, 7, 9], [0, 1, 2, 3, 4, 5, 6, 7, 8, 9, 10], [0, 1, 2, 3, 4, 5, 6, 7, 8, 9, 10, 11], [0, 1, 2, 3, 4, 5, 6, 7, 8, 9, 10, 11, 12], [0, 1, 2, 3, 4, 5, 6, 7, 8, 9, 10, 11, 12, 13], [0, 1, 2, 3, 4, 5, 6, 7, 8, 9, 10, 11, 12, 13, 14], [0, 1, 2, 3, 4, 5, 6, 7, 8, 9, 10, 11, 12, 13, 14, 15], [0, 1, 2, 3, 4, 5, 6, 7, 8, 9, 10, 11, 12, 13, 14, 15], [0, 1, 2, 3, 4, 5, 6, 7, 8, 9, 10, 11, 12, 13, 14, 15, 16, 17], [0, 1, 2, 3, 4, 5, 6, 7, 8, 9, 10, 11, 12, 13, 14, 15, 16, 17, 18], [0, 1, 2, 3, 4, 5, 6, 7, 8, 9, 10, 11, 12, 13, 14, 15], [0, 1, 2, 3, 4, 5, 6, 7, 8, 9, 10, 11, 12, 13, 14, 15, 20], [0, 1, 2, 3, 4, 5, 6, 7, 8, 9, 10, 11, 12, 13, 14, 15, 16, 17, 18, 19, 20, 21], [0, 1, 2, 3, 4, 5, 6, 7, 8, 9, 10, 11, 12, 13, 14, 15, 16, 17, 18, 19, 20, 21, 22]] 24 0 rfl rfl (qm rfl rfl (qr rfl rfl (q_field_ptr rfl rfl fd63_0) (qr rfl rfl (q_load_ptr rfl rfl rfl rfl ty3) (qr rfl rfl (q_index_own rfl rfl rfl sl22 g318.1 g318.2) (qr rfl rfl (q_load_aptr rfl rfl rfl (toNat_lt g318) rfl ty3) (qm rfl rfl (qr rfl rfl (q_eql rfl rfl rfl) (qm rfl rfl (QK.skip rfl ⟨7, 48, true, rfl, rfl, (.inl (gF g319))⟩ rfl (QK.skip rfl ⟨7, 48, true, rfl, rfl, (.inl (gF g319))⟩ rfl (QK.skip rfl ⟨7, 48, true, rfl, rfl, (.inl (gF g319))⟩ rfl (QK.skip rfl ⟨7, 48, true, rfl, rfl, (.inl (gF g319))⟩ rfl (QK.skip rfl ⟨7, 48, true, rfl, rfl, (.inl (gF g319))⟩ rfl (QK.skip rfl ⟨7, 48, true, rfl, rfl, (.inl (gF g319))⟩ rfl (qr rfl rfl (q_pick_f rfl rfl g319 rfl) ?_)))))))))))))))
           refine qm rfl rfl (QK.skip rfl ⟨15, 56, true, rfl, rfl, (.inl rfl)⟩ rfl (QK.skip rfl ⟨15, 56, true, rfl, rfl, (.inl rfl)⟩ rfl (QK.skip rfl ⟨15, 56, true, rfl, rfl, (.inl rfl)⟩ rfl (QK.skip rfl ⟨15, 56, true, rfl, rfl, (.inl rfl)⟩ rfl (QK.skip rfl ⟨15, 56, true, rfl, rfl, (.inl rfl)⟩ rfl (QK.skip rfl ⟨15, 56, true, rfl, rfl, (.inl rfl)⟩ rfl (QK.skip rfl ⟨15, 56, true, rfl, rfl, (.inl rfl)⟩ rfl (qr rfl rfl (q_pick_f rfl rfl rfl rfl) (QK.nil (SOps.sub (st' := ⟨[(2, .c (.own 0 a2_l.length)), (3, .c (.ptr 1 0)), (8, .c (.own 2 o2_260.length)), (9, .c (.own 3 o3_261.length)), (10, ci d_111), (11, .c (.bool done_258)), (12, ci i_259), (13, .c (.ptr 4 0)), (64, .c (.bool false))], [aI 3 a2_l, .box (bSNet a0_n), aI 3 o2_260, aI 3 o3_261, .box (bSArc (a0_n.Arcs.getD i_259.toNat dSArc))]⟩) (sub_gen [0, 1, 2, 3, 4] rfl rfl (zall rfl rfl) ⟨oa rfl, bx rfl rfl rfl, oa rfl, oa rfl, bx rfl rfl rfl, trivial⟩) (SOps.nil ?_)))))))))))
           exact ⟨false, h, sub_gen [0, 1, 2, 3, 4] rfl rfl (zall rfl rfl) ⟨oa rfl, bx rfl rfl rfl, oa rfl, oa rfl, bx rfl rfl rfl, trivial⟩⟩
          rintro t64_313 h
          show SCode _ _ _ (S686 t64_313) _
          try dsimp only at h
          unfold chargenetref09_search_p317 at h
          rcases cond_out h with ⟨g314, h⟩ | ⟨g314, h⟩
          ·refine SCode.cond_t rfl g314 (SCode.seq ?_)
           obtain ⟨g315, h⟩ := guard_out h
           obtain ⟨g316, h⟩ := guard_out h
           let ob2220 : Ob := .box (bSArc (a0_n.Arcs.getD i_259.toNat dSArc))
           let ob2222 : Ob := aI 3 (o3_261.set (((a0_n.Arcs.getD i_259.toNat dSArc).To).toNat) (IntKind.wrap .i64 (d_111 + 1)))
           let ob2224 : Ob := aI 3 (o2_260.set (((a0_n.Arcs.getD i_259.toNat dSArc).To).toNat) (IntKind.wrap .i64 (i_259 + 1)))
           let av2223 : AV := .c (.aptr 2 1 (((a0_n.Arcs.getD i_259.toNat dSArc).To).toNat) 0)
           let y2 := a0_n.Arcs.getD i_259.toNat dSArc
           refine SCode.draw2 (sH := [(75, .c (.aptr 3 1 ((y2.To).toNat) 0)), (74, ci (IntKind.wrap .i64 (i_259 + 1))), (73, ci i_259), (72, ci (IntKind.wrap .i64 (d_111 + 1))), (71, ci d_111), (70, ci (y2.To)), (69, .c (.ptr 4 1)), (68, .c (.own 2 o2_260.length)), (67, ci (y2.To)), (66, .c (.ptr 4 1)), (65, .c (.own 3 o3_261.length)), (2, .c (.own 0 a2_l.length)), (3, .c (.ptr 1 0)), (8, .c (.own 2 o2_260.length)), (9, .c (.own 3 o3_261.length)), (10, ci d_111), (11, .c (.bool done_258)), (12, ci i_259), (13, .c (.ptr 4 0)), (64, .c (.bool t64_313))]) mixed [[], [], [1], [], [], [4], [], [6], [], [8], [0, 1, 2, 6, 7], [0, 1, 2, 6, 7, 10], [0, 1, 2, 3, 4, 5, 6, 7, 8, 9, 10, 11], [0, 1, 2, 3, 4, 5, 6, 7, 8, 9, 10, 11, 12]] [11, 12, 13] (fun h => List.getD [[], [], [], [3], [3], [3], [], [], [3], [3]] h []) rfl ?_ ⟨[(2, .c (.own 0 a2_l.length)), (3, .c (.ptr 1 0)), (8, .c (.own 2 (o2_260.set ((y2.To).toNat) (IntKind.wrap .i64 (i_259 + 1))).length)), (9, .c (.own 3 (o3_261.set ((y2.To).toNat) (IntKind.wrap .i64 (d_111 + 1))).length)), (10, ci d_111), (12, ci i_259), (13, .c (.ptr 4 0))], [aI 3 a2_l, .box (bSNet a0_n), aI 3 (o2_260.set ((y2.To).toNat) (IntKind.wrap .i64 (i_259 + 1))), aI 3 (o3_261.set ((y2.To).toNat) (IntKind.wrap .i64 (d_111 + 1))), .box (bSArc y2)]⟩ ?_ ?_
           ·refine HChain.run rfl rfl (.plain rfl) rfl (fun f x => q_move rfl rfl) (HChain.run rfl rfl (.plain rfl) rfl (fun f x => q_field_ptr rfl rfl fd63_1) (HChain.run rfl rfl (.plain rfl) rfl (fun f x => q_load_ptr rfl rfl rfl rfl ty3) (HChain.run rfl rfl (.plain rfl) rfl (fun f x => q_move rfl rfl) (HChain.run rfl rfl (.plain rfl) rfl (fun f x => q_field_ptr rfl rfl fd63_1) (HChain.run rfl rfl (.plain rfl) rfl (fun f x => q_load_ptr rfl rfl rfl rfl ty3) (HChain.run rfl rfl (.plain rfl) rfl (fun f x => q_move rfl rfl) (HChain.run rfl rfl (.plain rfl) rfl (fun f x => q_add rfl rfl rfl) (HChain.run rfl rfl (.plain rfl) rfl (fun f x => q_move rfl rfl) (HChain.run rfl rfl (.plain rfl) rfl (fun f x => q_add rfl rfl rfl) (HChain.run rfl rfl (.plain rfl) rfl (fun f x => q_index_own rfl rfl rfl sl22 g315.1 g315.2) (HChain.tail rfl (HChain.tail rfl (HChain.tail rfl ?_)))))))))))))
            exact HChain.nil _ _
           ·refine t1 11 rfl (TStep.n (objs' := [aI 3 a2_l, .box (bSNet a0_n), aI 3 o2_260, ob2222, ob2220]) [3] rfl rfl rfl rfl (fun s2 => by refine EOp.eq (e_storeL (IntKind.wrap .i64 (d_111 + 1)) rfl rfl rfl rfl rfl (toNat_lt g315) ty3 rfl rfl rfl rfl rfl rfl) ?_; rfl) ⟨rfl, ⟨⟨⟨⟨⟨trivial, .inr rfl⟩, .inr rfl⟩, .inr rfl⟩, .inl rfl⟩, .inr rfl⟩, ?_⟩)
            refine t1 12 rfl (td (objs' := [aI 3 a2_l, .box (bSNet a0_n), aI 3 o2_260, ob2222, ob2220]) (v := av2223) 76 rfl rfl rfl rfl rfl (fun _ => EOp.eq (EOp.qd rfl rfl (q_index_own rfl rfl rfl sl22 g316.1 g316.2)) rfl) rfl rfl ?_)
            refine t1 13 rfl (TStep.n (objs' := [aI 3 a2_l, .box (bSNet a0_n), ob2224, ob2222, ob2220]) [2] rfl rfl rfl rfl (fun s2 => by refine EOp.eq (e_storeL (IntKind.wrap .i64 (i_259 + 1)) rfl rfl rfl rfl rfl (toNat_lt g316) ty3 rfl rfl rfl rfl rfl rfl) ?_; rfl) ⟨rfl, ⟨⟨⟨⟨⟨trivial, .inr rfl⟩, .inr rfl⟩, .inl rfl⟩, .inr rfl⟩, .inr rfl⟩, ?_⟩)
            exact tl rfl (sub_gen [0, 1, 2, 3, 4] rfl rfl ⟨zc rfl rfl, zc rfl rfl, ⟨_, rfl, .inl ⟨rfl, congrArg (Cell.own 2) (List.length_set : (o2_260.set (((a0_n.Arcs.getD i_259.toNat dSArc).To).toNat) (IntKind.wrap .i64 (i_259 + 1))).length = o2_260.length).symm⟩⟩, ⟨_, rfl, .inl ⟨rfl, congrArg (Cell.own 3) (List.length_set : (o3_261.set (((a0_n.Arcs.getD i_259.toNat dSArc).To).toNat) (IntKind.wrap .i64 (d_111 + 1))).length = o3_261.length).symm⟩⟩, zc rfl rfl, zc rfl rfl, zc rfl rfl, trivial⟩ ⟨oa rfl, bx rfl rfl rfl, oa rfl, oa rfl, bx rfl rfl rfl, trivial⟩)
           refine SCode.region (sa rfl rfl (SOps.nil ?_))
           exact ⟨(false, o2_260.set (((a0_n.Arcs.getD i_259.toNat dSArc).To).toNat) (IntKind.wrap .i64 (i_259 + 1)), o3_261.set (((a0_n.Arcs.getD i_259.toNat dSArc).To).toNat) (IntKind.wrap .i64 (d_111 + 1))), h, sub_gen [0, 1, 2, 3, 4] rfl rfl (zall rfl rfl) ⟨oa rfl, bx rfl rfl rfl, oa rfl, oa rfl, bx rfl rfl rfl, trivial⟩⟩
          refine SCode.cond_f rfl g314 (SCode.skip ?_)
          exact ⟨(done_258, o2_260, o3_261), h, sub_gen [0, 1, 2, 3, 4] rfl rfl (zall rfl rfl) ⟨oa rfl, bx rfl rfl rfl, oa rfl, oa rfl, bx rfl rfl rfl, trivial⟩⟩
         rintro ⟨done_299, o2_300, o3_301⟩ h
         show SCode _ _ _ (S687 done_299 o2_300 o3_301) _
         try dsimp only at h
         unfold chargenetref09_search_p312 at h
         let S685 := fun (t98_302 : Bool) => (⟨[(2, .c (.own 0 a2_l.length)), (3, .c (.ptr 1 0)), (8, .c (.own 2 o2_300.length)), (9, .c (.own 3 o3_301.length)), (10, ci d_111), (11, .c (.bool done_299)), (12, ci i_259), (13, .c (.ptr 4 0)), (98, .c (.bool t98_302))], [aI 3 a2_l, .box (bSNet a0_n), aI 3 o2_300, aI 3 o3_301, .box (bSArc (a0_n.Arcs.getD i_259.toNat dSArc))]⟩ : St)
         refine SCode.join (σ := Bool) (S := fun s => (S685 s)) (g := fun s => chargenetref09_search_p306 a0_n d_111 i_259 (fun done_258 i_259 o2_260 o3_261 => chargenetref09_search_l292 a0_n a2_l d_111 (fun d_111 o2_112 o3_113 => chargenetref09_search_l218 F a0_n a2_l n_218 d_111 o2_112 o3_113) n_292 done_258 i_259 o2_260 o3_261) done_299 o2_300 o3_301 s = some r) ?_ ?_
         rotate_left
         ·obtain ⟨g307, h⟩ := guard_out h
          rcases cond_out h with ⟨g308, h⟩ | ⟨g308, h⟩
          ·obtain ⟨g309, h⟩ := guard_out h
           rcases cond_out h with ⟨g310, h⟩ | ⟨g310, h⟩
           ·obtain ⟨g311, h⟩ := guard_out h
            refine SCode.region (sm rfl rfl (sq rfl rfl (q_field_ptr rfl rfl fd63_1) (sq rfl rfl (q_load_ptr rfl rfl rfl rfl ty3) (sq rfl rfl (q_index_own rfl rfl rfl sl22 g307.1 g307.2) (sq rfl rfl (q_load_aptr rfl rfl rfl (toNat_lt g307) rfl ty3) (sm rfl rfl (sq rfl rfl (q_eql rfl rfl rfl) (sm rfl rfl (SOps.q rfl (.guard 7 84 true rfl rfl (gT g308)) rfl (q_move rfl rfl) (SOps.q rfl (.guard 7 84 true rfl rfl (gT g308)) rfl (q_field_ptr rfl rfl fd63_0) (SOps.q rfl (.guard 7 84 true rfl rfl (gT g308)) rfl (q_load_ptr rfl rfl rfl rfl ty3) (SOps.q rfl (.guard 7 84 true rfl rfl (gT g308)) rfl (q_index_own rfl rfl rfl sl22 g309.1 g309.2) (SOps.q rfl (.guard 7 84 true rfl rfl (gT g308)) rfl (q_load_aptr rfl rfl rfl (toNat_lt g309) rfl ty3) (SOps.q rfl (.guard 7 84 true rfl rfl (gT g308)) rfl (q_eql rfl rfl rfl) (sq rfl rfl (q_pick_t rfl rfl g308 rfl) ?_)))))))))))))))
            refine sm rfl rfl (SOps.q rfl (.guard 15 92 true rfl rfl (gT g310)) rfl (q_move rfl rfl) (SOps.q rfl (.guard 15 92 true rfl rfl (gT g310)) rfl (q_move rfl rfl) (SOps.q rfl (.guard 15 92 true rfl rfl (gT g310)) rfl (q_index_own rfl rfl rfl sl22 g311.1 g311.2) (SOps.q rfl (.guard 15 92 true rfl rfl (gT g310)) rfl (q_load_aptr rfl rfl rfl (toNat_lt g311) rfl ty3) (SOps.q rfl (.guard 15 92 true rfl rfl (gT g310)) rfl (q_gtr rfl rfl rfl) (sq rfl rfl (q_pick_t rfl rfl g310 rfl) (SOps.sub (st' := ⟨[(2, .c (.own 0 a2_l.length)), (3, .c (.ptr 1 0)), (8, .c (.own 2 o2_300.length)), (9, .c (.own 3 o3_301.length)), (10, ci d_111), (11, .c (.bool done_299)), (12, ci i_259), (13, .c (.ptr 4 0)), (98, .c (.bool (decide (0 < a2_l.getD i_259.toNat 0))))], [aI 3 a2_l, .box (bSNet a0_n), aI 3 o2_300, aI 3 o3_301, .box (bSArc (a0_n.Arcs.getD i_259.toNat dSArc))]⟩) (sub_gen [0, 1, 2, 3, 4] rfl rfl (zall rfl rfl) ⟨oa rfl, bx rfl rfl rfl, oa rfl, oa rfl, bx rfl rfl rfl, trivial⟩) (SOps.nil ?_))))))))
            exact ⟨decide (0 < a2_l.getD i_259.toNat 0), h, sub_gen [0, 1, 2, 3, 4] rfl rfl (zall rfl rfl) ⟨oa rfl, bx rfl rfl rfl, oa rfl, oa rfl, bx rfl rfl rfl, trivial⟩⟩
           refine SCode.region (sm rfl rfl (sq rfl rfl (q_field_ptr rfl rfl fd63_1) (sq rfl rfl (q_load_ptr rfl rfl rfl rfl ty3) (sq rfl rfl (q_index_own rfl rfl rfl sl22 g307.1 g307.2) (sq rfl rfl (q_load_aptr rfl rfl rfl (toNat_lt g307) rfl ty3) (sm rfl rfl (sq rfl rfl (q_eql rfl rfl rfl) (sm rfl rfl (SOps.q rfl (.guard 7 84 true rfl rfl (gT g308)) rfl (q_move rfl rfl) (SOps.q rfl (.guard 7 84 true rfl rfl (gT g308)) rfl (q_field_ptr rfl rfl fd63_0) (SOps.q rfl (.guard 7 84 true rfl rfl (gT g308)) rfl (q_load_ptr rfl rfl rfl rfl ty3) (SOps.q rfl (.guard 7 84 true rfl rfl (gT g308)) rfl (q_index_own rfl rfl rfl sl22 g309.1 g309.2) (SOps.q rfl (.guard 7 84 true rfl rfl (gT g308)) rfl (q_load_aptr rfl rfl rfl (toNat_lt g309) rfl ty3) (SOps.q rfl (.guard 7 84 true rfl rfl (gT g308)) rfl (q_eql rfl rfl rfl) (sq rfl rfl (q_pick_t rfl rfl g308 rfl) ?_)))))))))))))))
           refine sm rfl rfl (SOps.skip rfl 15 92 true rfl rfl (.inl (gF g310)) rfl (SOps.skip rfl 15 92 true rfl rfl (.inl (gF g310)) rfl (SOps.skip rfl 15 92 true rfl rfl (.inl (gF g310)) rfl (SOps.skip rfl 15 92 true rfl rfl (.inl (gF g310)) rfl (SOps.skip rfl 15 92 true rfl rfl (.inl (gF g310)) rfl (sq rfl rfl (q_pick_f rfl rfl g310 rfl) (SOps.sub (st' := ⟨[(2, .c (.own 0 a2_l.length)), (3, .c (.ptr 1 0)), (8, .c (.own 2 o2_300.length)), (9, .c (.own 3 o3_301.length)), (10, ci d_111), (11, .c (.bool done_299)), (12, ci i_259), (13, .c (.ptr 4 0)), (98, .c (.bool false))], [aI 3 a2_l, .box (bSNet a0_n), aI 3 o2_300, aI 3 o3_301, .box (bSArc (a0_n.Arcs.getD i_259.toNat dSArc))]⟩) (sub_gen [0, 1, 2, 3, 4] rfl rfl (zall rfl rfl) ⟨oa rfl, bx rfl rfl rfl, oa rfl, oa rfl, bx rfl rfl rfl, trivial⟩) (SOps.nil ?_))))))))
           exact ⟨false, h, sub_gen [0, 1, 2, 3, 4] rfl rfl (zall rfl rfl) ⟨oa rfl, bx rfl rfl rfl, oa rfl, oa rfl, bx rfl rfl rfl, trivial⟩⟩
          refine SCode.region (sm rfl rfl (sq rfl rfl (q_field_ptr rfl rfl fd63_1) (sq rfl rfl (q_load_ptr rfl rfl rfl rfl ty3) (sq rfl rfl (q_index_own rfl rfl rfl sl22 g307.1 g307.2) (sq rfl rfl (q_load_aptr rfl rfl rfl (toNat_lt g307) rfl ty3) (sm rfl rfl (sq rfl rfl (q_eql rfl rfl rfl) (sm rfl rfl (SOps.skip rfl 7 84 true rfl rfl (.inl (gF g308)) rfl (SOps.skip rfl 7 84 true rfl rfl (.inl (gF g308)) rfl (SOps.skip rfl 7 84 true rfl rfl (.inl (gF g308)) rfl (SOps.skip rfl 7 84 true rfl rfl (.inl (gF g308)) rfl (SOps.skip rfl 7 84 true rfl rfl (.inl (gF g308)) rfl (SOps.skip rfl 7 84 true rfl rfl (.inl (gF g308)) rfl (sq rfl rfl (q_pick_f rfl rfl g308 rfl) ?_)))))))))))))))
          refine sm rfl rfl (SOps.skip rfl 15 92 true rfl rfl (.inl rfl) rfl (SOps.skip rfl 15 92 true rfl rfl (.inl rfl) rfl (SOps.skip rfl 15 92 true rfl rfl (.inl rfl) rfl (SOps.skip rfl 15 92 true rfl rfl (.inl rfl) rfl (SOps.skip rfl 15 92 true rfl rfl (.inl rfl) rfl (sq rfl rfl (q_pick_f rfl rfl rfl rfl) (SOps.sub (st' := ⟨[(2, .c (.own 0 a2_l.length)), (3, .c (.ptr 1 0)), (8, .c (.own 2 o2_300.length)), (9, .c (.own 3 o3_301.length)), (10, ci d_111), (11, .c (.bool done_299)), (12, ci i_259), (13, .c (.ptr 4 0)), (98, .c (.bool false))], [aI 3 a2_l, .box (bSNet a0_n), aI 3 o2_300, aI 3 o3_301, .box (bSArc (a0_n.Arcs.getD i_259.toNat dSArc))]⟩) (sub_gen [0, 1, 2, 3, 4] rfl rfl (zall rfl rfl) ⟨oa rfl, bx rfl rfl rfl, oa rfl, oa rfl, bx rfl rfl rfl, trivial⟩) (SOps.nil ?_))))))))
          exact ⟨false, h, sub_gen [0, 1, 2, 3, 4] rfl rfl (zall rfl rfl) ⟨oa rfl, bx rfl rfl rfl, oa rfl, oa rfl, bx rfl rfl rfl, trivial⟩⟩
         rintro t98_302 h
         show SCode _ _ _ (S685 t98_302) _
         try dsimp only at h
         unfold chargenetref09_search_p306 at h
         rcases cond_out h with ⟨g303, h⟩ | ⟨g303, h⟩
         ·refine SCode.cond_t rfl g303 (SCode.seq ?_)
          obtain ⟨g304, h⟩ := guard_out h
          obtain ⟨g305, h⟩ := guard_out h
          let ob2215 : Ob := .box (bSArc (a0_n.Arcs.getD i_259.toNat dSArc))
          let ob2217 : Ob := aI 3 (o3_301.set (((a0_n.Arcs.getD i_259.toNat dSArc).From).toNat) (IntKind.wrap .i64 (d_111 + 1)))
          let ob2219 : Ob := aI 3 (o2_300.set (((a0_n.Arcs.getD i_259.toNat dSArc).From).toNat) (IntKind.wrap .i64 (IntKind.wrap .i64 (0 - i_259) - 1)))
          let av2218 : AV := .c (.aptr 2 1 (((a0_n.Arcs.getD i_259.toNat dSArc).From).toNat) 0)
          let y3 := (a0_n.Arcs.getD i_259.toNat dSArc).From
          let y4 := IntKind.wrap .i64 (IntKind.wrap .i64 (0 - i_259) - 1)
          refine SCode.draw2 (sH := [(110, .c (.aptr 3 1 (y3.toNat) 0)), (109, ci y4), (108, ci (IntKind.wrap .i64 (0 - i_259))), (107, ci i_259), (106, ci (IntKind.wrap .i64 (d_111 + 1))), (105, ci d_111), (104, ci y3), (103, .c (.ptr 4 0)), (102, .c (.own 2 o2_300.length)), (101, ci y3), (100, .c (.ptr 4 0)), (99, .c (.own 3 o3_301.length)), (2, .c (.own 0 a2_l.length)), (3, .c (.ptr 1 0)), (8, .c (.own 2 o2_300.length)), (9, .c (.own 3 o3_301.length)), (10, ci d_111), (11, .c (.bool done_299)), (12, ci i_259), (13, .c (.ptr 4 0)), (98, .c (.bool t98_302))]) mixed [[], [], [1], [], [], [4], [], [6], [], [8], [8, 9], [0, 1, 2, 6, 7], [0, 1, 2, 6, 7, 11], [0, 1, 2, 3, 4, 5, 6, 7, 8, 9, 10, 11, 12], [0, 1, 2, 3, 4, 5, 6, 7, 8, 9, 10, 11, 12, 13]] [12, 13, 14] (fun h => List.getD [[], [], [], [3], [3], [3], [], [], [3], [3], [3]] h []) rfl ?_ ⟨[(2, .c (.own 0 a2_l.length)), (3, .c (.ptr 1 0)), (8, .c (.own 2 (o2_300.set (y3.toNat) y4).length)), (9, .c (.own 3 (o3_301.set (y3.toNat) (IntKind.wrap .i64 (d_111 + 1))).length)), (10, ci d_111), (12, ci i_259)], [aI 3 a2_l, .box (bSNet a0_n), aI 3 (o2_300.set (y3.toNat) y4), aI 3 (o3_301.set (y3.toNat) (IntKind.wrap .i64 (d_111 + 1)))]⟩ ?_ ?_
          ·refine HChain.run rfl rfl (.plain rfl) rfl (fun f x => q_move rfl rfl) (HChain.run rfl rfl (.plain rfl) rfl (fun f x => q_field_ptr rfl rfl fd63_0) (HChain.run rfl rfl (.plain rfl) rfl (fun f x => q_load_ptr rfl rfl rfl rfl ty3) (HChain.run rfl rfl (.plain rfl) rfl (fun f x => q_move rfl rfl) (HChain.run rfl rfl (.plain rfl) rfl (fun f x => q_field_ptr rfl rfl fd63_0) (HChain.run rfl rfl (.plain rfl) rfl (fun f x => q_load_ptr rfl rfl rfl rfl ty3) (HChain.run rfl rfl (.plain rfl) rfl (fun f x => q_move rfl rfl) (HChain.run rfl rfl (.plain rfl) rfl (fun f x => q_add rfl rfl rfl) (HChain.run rfl rfl (.plain rfl) rfl (fun f x => q_move rfl rfl) (HChain.run rfl rfl (.plain rfl) rfl (fun f x => q_neg rfl rfl) (HChain.run rfl rfl (.plain rfl) rfl (fun f x => q_sub rfl rfl rfl) (HChain.run rfl rfl (.plain rfl) rfl (fun f x => q_index_own rfl rfl rfl sl22 g304.1 g304.2) (HChain.tail rfl (HChain.tail rfl (HChain.tail rfl ?_))))))))))))))
           exact HChain.nil _ _
          ·refine t1 12 rfl (TStep.n (objs' := [aI 3 a2_l, .box (bSNet a0_n), aI 3 o2_300, ob2217, ob2215]) [3] rfl rfl rfl rfl (fun s2 => by refine EOp.eq (e_storeL (IntKind.wrap .i64 (d_111 + 1)) rfl rfl rfl rfl rfl (toNat_lt g304) ty3 rfl rfl rfl rfl rfl rfl) ?_; rfl) ⟨rfl, ⟨⟨⟨⟨⟨trivial, .inr rfl⟩, .inr rfl⟩, .inr rfl⟩, .inl rfl⟩, .inr rfl⟩, ?_⟩)
           refine t1 13 rfl (td (objs' := [aI 3 a2_l, .box (bSNet a0_n), aI 3 o2_300, ob2217, ob2215]) (v := av2218) 111 rfl rfl rfl rfl rfl (fun _ => EOp.eq (EOp.qd rfl rfl (q_index_own rfl rfl rfl sl22 g305.1 g305.2)) rfl) rfl rfl ?_)
           refine t1 14 rfl (TStep.n (objs' := [aI 3 a2_l, .box (bSNet a0_n), ob2219, ob2217, ob2215]) [2] rfl rfl rfl rfl (fun s2 => by refine EOp.eq (e_storeL (IntKind.wrap .i64 (IntKind.wrap .i64 (0 - i_259) - 1)) rfl rfl rfl rfl rfl (toNat_lt g305) ty3 rfl rfl rfl rfl rfl rfl) ?_; rfl) ⟨rfl, ⟨⟨⟨⟨⟨trivial, .inr rfl⟩, .inr rfl⟩, .inl rfl⟩, .inr rfl⟩, .inr rfl⟩, ?_⟩)
           exact tl rfl (sub_gen [0, 1, 2, 3] rfl rfl ⟨zc rfl rfl, zc rfl rfl, ⟨_, rfl, .inl ⟨rfl, congrArg (Cell.own 2) (List.length_set : (o2_300.set (((a0_n.Arcs.getD i_259.toNat dSArc).From).toNat) (IntKind.wrap .i64 (IntKind.wrap .i64 (0 - i_259) - 1))).length = o2_300.length).symm⟩⟩, ⟨_, rfl, .inl ⟨rfl, congrArg (Cell.own 3) (List.length_set : (o3_301.set (((a0_n.Arcs.getD i_259.toNat dSArc).From).toNat) (IntKind.wrap .i64 (d_111 + 1))).length = o3_301.length).symm⟩⟩, zc rfl rfl, zc rfl rfl, trivial⟩ ⟨oa rfl, bx rfl rfl rfl, oa rfl, oa rfl, trivial⟩)
          refine SCode.region (sa rfl rfl (SOps.nil ?_))
          exact ⟨(false, o2_300.set (((a0_n.Arcs.getD i_259.toNat dSArc).From).toNat) (IntKind.wrap .i64 (IntKind.wrap .i64 (0 - i_259) - 1)), o3_301.set (((a0_n.Arcs.getD i_259.toNat dSArc).From).toNat) (IntKind.wrap .i64 (d_111 + 1))), h, sub_gen [0, 1, 2, 3] rfl rfl (zall rfl rfl) ⟨oa rfl, bx rfl rfl rfl, oa rfl, oa rfl, trivial⟩⟩
         refine SCode.cond_f rfl g303 (SCode.skip ?_)
         exact ⟨(done_299, o2_300, o3_301), h, sub_gen [0, 1, 2, 3] rfl rfl (zall rfl rfl) ⟨oa rfl, bx rfl rfl rfl, oa rfl, oa rfl, trivial⟩⟩
        rintro ⟨done_294, o2_295, o3_296⟩ h
        show SCode _ _ _ (S688 done_294 o2_295 o3_296) _
        try dsimp only at h
        unfold chargenetref09_search_p297 at h
        refine SCode.region (sm rfl rfl (sq rfl rfl (q_add rfl rfl rfl) (sa rfl rfl (SOps.nil ?_))))
        exact ⟨(n_292, (done_294, IntKind.wrap .i64 (i_259 + 1), o2_295, o3_296)), h, Nat.lt_succ_self n_292, sub_gen [0, 1, 2, 3] rfl rfl (zall rfl rfl) ⟨oa rfl, bx rfl rfl rfl, oa rfl, oa rfl, trivial⟩⟩
       refine SCode.cond_f rfl g293 (SCode.exit ?_)
       exact ⟨(done_258, o2_260, o3_261), h, sub_gen [0, 1, 2, 3] rfl rfl (zall rfl rfl) ⟨oa rfl, bx rfl rfl rfl, oa rfl, oa rfl, trivial⟩⟩
     rintro ⟨done_223, o2_224, o3_225⟩ h
     show SCode _ _ _ (S690 done_223 o2_224 o3_225) _
     try dsimp only at h
     unfold chargenetref09_search_p227 at h
     refine SCode.seq (SCode.region (sm rfl rfl (SOps.nil ?_)))
     rcases cond_out h with ⟨g226, h⟩ | ⟨g226, h⟩
     ·refine SCode.cond_t rfl g226 (SCode.seq (SCode.region (sm rfl rfl (sm rfl rfl (sa rfl rfl (sa rfl rfl (SOps.nil (SCode.ret ?_))))))))
      obtain rfl := Option.some.inj h
      exact ⟨⟨[(6, .c (vI o2_224)), (7, .c (vI o3_225))], [aI 3 a2_l]⟩, _, sub_gen [0] rfl rfl ⟨⟨_, rfl, .inr (.inl ⟨_, _, _, _, _, _, _, rfl, rfl, rfl, Nat.le_refl _, fun _ _ _ _ => rfl, nm rfl⟩)⟩, ⟨_, rfl, .inr (.inl ⟨_, _, _, _, _, _, _, rfl, rfl, rfl, Nat.le_refl _, fun _ _ _ _ => rfl, nm rfl⟩)⟩, trivial⟩ ⟨oa rfl, trivial⟩, resA2 (v1 := .c (vI o2_224)) (v2 := .c (vI o3_225)) rfl rfl rfl, ⟨rfl, rfl⟩⟩
     refine SCode.cond_f rfl g226 (SCode.skip ?_)
     exact ⟨(o2_224, o3_225), h, sub_gen [0, 1, 2, 3] rfl rfl (zall rfl rfl) ⟨oa rfl, bx rfl rfl rfl, oa rfl, oa rfl, trivial⟩⟩
    rintro ⟨o2_220, o3_221⟩ h
    show SCode _ _ _ (S691 o2_220 o3_221) _
    try dsimp only at h
    unfold chargenetref09_search_p222 at h
    refine SCode.region (sm rfl rfl (sq rfl rfl (q_add rfl rfl rfl) (sa rfl rfl (SOps.nil ?_))))
    exact ⟨(n_218, (IntKind.wrap .i64 (d_111 + 1), o2_220, o3_221)), h, Nat.lt_succ_self n_218, sub_gen [0, 1, 2, 3] rfl rfl (zall rfl rfl) ⟨oa rfl, bx rfl rfl rfl, oa rfl, oa rfl, trivial⟩⟩
   refine SCode.cond_f rfl g219 (SCode.exit ?_)
   exact ⟨(o2_112, o3_113), h, sub_gen [0, 2, 3] rfl rfl (zall rfl rfl) ⟨oa rfl, oa rfl, oa rfl, trivial⟩⟩
 rintro ⟨o1_4, o2_5⟩ h
 show SCode _ _ _ (S693 o1_4 o2_5) _
 try dsimp only at h
 unfold chargenetref09_search_p6 at h
 refine SCode.seq (SCode.region (sm rfl rfl (sm rfl rfl (sa rfl rfl (sa rfl rfl (SOps.nil (SCode.ret ?_)))))))
 obtain rfl := Option.some.inj h
 exact ⟨⟨[(6, .c (vI o1_4)), (7, .c (vI o2_5))], [aI 3 a2_l]⟩, _, sub_gen [0] rfl rfl ⟨⟨_, rfl, .inr (.inl ⟨_, _, _, _, _, _, _, rfl, rfl, rfl, Nat.le_refl _, fun _ _ _ _ => rfl, nm rfl⟩)⟩, ⟨_, rfl, .inr (.inl ⟨_, _, _, _, _, _, _, rfl, rfl, rfl, Nat.le_refl _, fun _ _ _ _ => rfl, nm rfl⟩)⟩, trivial⟩ ⟨oa rfl, trivial⟩, resA2 (v1 := .c (vI o1_4)) (v2 := .c (vI o2_5)) rfl rfl rfl, ⟨rfl, rfl⟩⟩
theorem chargenetref09_spare_ok (F : Nat) (a0_n : SNet) (a1_l : List Int) (a2_by : List Int) (a3_source : Int) (a4_sink : Int) (r : Int) (h : chargenetref09_spare F a0_n a1_l a2_by a3_source a4_sink = some r) :
  SFun Try.prog 54 [] [.a (bSNet a0_n), .c (vI a1_l), .c (vI a2_by), ci a3_source, ci a4_sink] (fun x _ => x = ci r) := by
 refine SFun.of (n := 67) Try.func54 rfl rfl rfl ?_
 unfold chargenetref09_spare at h
 show SCode _ _ _ ⟨[(0, .a (bSNet a0_n)), (1, .c (vI a1_l)), (2, .c (vI a2_by)), (3, ci a3_source), (4, ci a4_sink)], []⟩ _
 refine SCode.seq (SCode.region (se rfl rfl (e_box rfl rfl rfl rfl rfl rfl) (sa rfl rfl (SOps.nil (SCode.seq (SCode.region (sa rfl rfl (SOps.nil ?_))))))))
 let S3 := fun (d_1 : Int) => (⟨[(11, ci d_1)], []⟩ : St)
 refine SCode.join (σ := Int) (S := fun s => (S3 s)) (g := fun s => chargenetref09_spare_p2 s = some r) ?_ ?_
 rotate_left
 ·refine SCode.seq (SCode.region (sm rfl rfl (sa rfl rfl (SOps.nil (SCode.block ?_)))))
  let S2 := fun (d_15 : Int) => fun (v_16 : Int) => (⟨[(1, .c (vI a1_l)), (2, .c (vI a2_by)), (3, ci a3_source), (5, .c (.ptr 0 0)), (11, ci d_15), (12, ci v_16)], [.box (bSNet a0_n)]⟩ : St)
  refine SCode.sub (st' := (S2 1099511627776 a4_sink)) (sub_gen [0] rfl rfl (zall rfl rfl) ⟨bx rfl rfl rfl, trivial⟩) ?_
  refine (SCode.loop (σ := Nat × (Int × Int)) (S := fun s => (S2 s.2.1 s.2.2)) (g := fun s => chargenetref09_spare_l27 a0_n a1_l a2_by a3_source s.1 s.2.1 s.2.2 = some r) (μ := fun s => s.1) (F, (1099511627776, a4_sink)) h ?_)
  rintro ⟨n_27, ⟨d_15, v_16⟩⟩ h
  try dsimp only at h
  show SCode _ _ _ (S2 d_15 v_16) _
  cases n_27 with
  | zero => cases h
  | succ n_27 =>
   rw [chargenetref09_spare_l27] at h
   unfold chargenetref09_spare_b27 at h
   refine SCode.seq (SCode.seq (SCode.region (sm rfl rfl (sm rfl rfl (sq rfl rfl (q_neq rfl rfl rfl) (SOps.nil ?_))))))
   rcases cond_out h with ⟨g28, h⟩ | ⟨g28, h⟩
   ·refine SCode.cond_t rfl g28 (SCode.skip (SCode.block (SCode.seq ?_)))
    obtain ⟨g29, h⟩ := guard_out h
    refine SCode.region (sm rfl rfl (sm rfl rfl (sq rfl rfl (q_index_vec rfl rfl rfl sl22 rfl g29.1 g29.2) (sq rfl rfl (q_load_eptr rfl rfl ty3) (sq rfl rfl (q_gtr rfl rfl rfl) (SOps.nil ?_))))))
    rcases cond_out h with ⟨g30, h⟩ | ⟨g30, h⟩
    ·refine SCode.cond_t rfl g30 (SCode.seq ?_)
     obtain ⟨g31, h⟩ := guard_out h
     refine SCode.region (sm rfl rfl (sm rfl rfl (sq rfl rfl (q_index_vec rfl rfl rfl sl22 rfl g31.1 g31.2) (sq rfl rfl (q_load_eptr rfl rfl ty3) (sq rfl rfl (q_sub rfl rfl rfl) (sa rfl rfl (SOps.nil (SCode.seq (SCode.sub (st' := ⟨[(1, .c (vI a1_l)), (2, .c (vI a2_by)), (3, ci a3_source), (5, .c (.ptr 0 0)), (11, ci d_15), (13, ci (IntKind.wrap .i64 (a2_by.getD v_16.toNat 0 - 1)))], [.box (bSNet a0_n)]⟩) (sub_gen [0] rfl rfl (zall rfl rfl) ⟨bx rfl rfl rfl, trivial⟩) ?_)))))))))
     obtain ⟨g32, h⟩ := guard_out h
     obtain ⟨g33, h⟩ := guard_out h
     refine SCode.drawK mixed [[], [], [1], [], [1, 2, 3], [1, 2, 3, 4], [1, 2, 3, 4, 5], [], [], [7, 8], [7, 8, 9], [1, 2, 3, 4, 5, 6, 7, 8, 9, 10], [0, 1, 2, 3, 4, 5, 6, 7, 8, 9, 10, 11], [0, 1, 2, 3, 4, 5, 6, 7, 8, 9, 10, 11, 12]] 14 0 rfl rfl (qm rfl rfl (qr rfl rfl (q_field_ptr rfl rfl fd49_1) (qr rfl rfl (q_load_ptr rfl rfl rfl rfl ty47) (qm rfl rfl (qr rfl rfl (q_index_vec rfl rfl rfl sl47 rfl g32.1 g32.2) (qr rfl rfl (q_field_eptr rfl rfl fd63_2 rfl) (qr rfl rfl (q_load_eptr rfl rfl ty3) (qm rfl rfl (qm rfl rfl (qr rfl rfl (q_index_vec rfl rfl rfl sl22 rfl g33.1 g33.2) (qr rfl rfl (q_load_eptr rfl rfl ty3) (qr rfl rfl (q_sub rfl rfl rfl) (qr rfl rfl (q_min rfl rfl rfl) (qr rfl rfl (q_assign rfl rfl) (QK.nil ?_)))))))))))))))
     let y1 := IntKind.wrap .i64 (a2_by.getD v_16.toNat 0 - 1)
     refine SOps.sub (st' := ⟨[(1, .c (vI a1_l)), (2, .c (vI a2_by)), (3, ci a3_source), (5, .c (.ptr 0 0)), (11, ci ((if IntKind.wrap .i64 ((a0_n.Arcs.getD y1.toNat dSArc).Cap - a1_l.getD y1.toNat 0) < d_15 then IntKind.wrap .i64 ((a0_n.Arcs.getD y1.toNat dSArc).Cap - a1_l.getD y1.toNat 0) else d_15))), (13, ci y1)], [.box (bSNet a0_n)]⟩) (sub_gen [0] rfl rfl (zall rfl rfl) ⟨bx rfl rfl rfl, trivial⟩) (SOps.nil ?_)
     obtain ⟨g34, h⟩ := guard_out h
     refine SCode.region (sq rfl rfl (q_field_ptr rfl rfl fd49_1) (sq rfl rfl (q_load_ptr rfl rfl rfl rfl ty47) (sm rfl rfl (sq rfl rfl (q_index_vec rfl rfl rfl sl47 rfl g34.1 g34.2) (sq rfl rfl (q_field_eptr rfl rfl fd63_0 rfl) (sq rfl rfl (q_load_eptr rfl rfl ty3) (sa rfl rfl (SOps.nil ?_))))))))
     let y2 := IntKind.wrap .i64 (a2_by.getD v_16.toNat 0 - 1)
     exact ⟨(n_27, ((if IntKind.wrap .i64 ((a0_n.Arcs.getD y2.toNat dSArc).Cap - a1_l.getD y2.toNat 0) < d_15 then IntKind.wrap .i64 ((a0_n.Arcs.getD y2.toNat dSArc).Cap - a1_l.getD y2.toNat 0) else d_15), (a0_n.Arcs.getD y2.toNat dSArc).From)), h, Nat.lt_succ_self n_27, sub_gen [0] rfl rfl (zall rfl rfl) ⟨bx rfl rfl rfl, trivial⟩⟩
    refine SCode.cond_f rfl g30 (SCode.seq ?_)
    obtain ⟨g35, h⟩ := guard_out h
    refine SCode.region (sm rfl rfl (sm rfl rfl (sq rfl rfl (q_index_vec rfl rfl rfl sl22 rfl g35.1 g35.2) (sq rfl rfl (q_load_eptr rfl rfl ty3) (sq rfl rfl (q_neg rfl rfl) (sq rfl rfl (q_sub rfl rfl rfl) (sa rfl rfl (SOps.nil (SCode.seq ?_)))))))))
    obtain ⟨g36, h⟩ := guard_out h
    refine SCode.region (sm rfl rfl (sm rfl rfl (sm rfl rfl (sq rfl rfl (q_index_vec rfl rfl rfl sl22 rfl g36.1 g36.2) (sq rfl rfl (q_load_eptr rfl rfl ty3) (sq rfl rfl (q_min rfl rfl rfl) (sa rfl rfl ?_)))))))
    let y3 := IntKind.wrap .i64 (IntKind.wrap .i64 (0 - a2_by.getD v_16.toNat 0) - 1)
    refine SOps.sub (st' := ⟨[(1, .c (vI a1_l)), (2, .c (vI a2_by)), (3, ci a3_source), (5, .c (.ptr 0 0)), (11, ci ((if a1_l.getD y3.toNat 0 < d_15 then a1_l.getD y3.toNat 0 else d_15))), (14, ci y3)], [.box (bSNet a0_n)]⟩) (sub_gen [0] rfl rfl (zall rfl rfl) ⟨bx rfl rfl rfl, trivial⟩) (SOps.nil ?_)
    obtain ⟨g37, h⟩ := guard_out h
    refine SCode.region (sq rfl rfl (q_field_ptr rfl rfl fd49_1) (sq rfl rfl (q_load_ptr rfl rfl rfl rfl ty47) (sm rfl rfl (sq rfl rfl (q_index_vec rfl rfl rfl sl47 rfl g37.1 g37.2) (sq rfl rfl (q_field_eptr rfl rfl fd63_1 rfl) (sq rfl rfl (q_load_eptr rfl rfl ty3) (sa rfl rfl (SOps.nil ?_))))))))
    let y4 := IntKind.wrap .i64 (IntKind.wrap .i64 (0 - a2_by.getD v_16.toNat 0) - 1)
    exact ⟨(n_27, ((if a1_l.getD y4.toNat 0 < d_15 then a1_l.getD y4.toNat 0 else d_15), (a0_n.Arcs.getD y4.toNat dSArc).To)), h, Nat.lt_succ_self n_27, sub_gen [0] rfl rfl (zall rfl rfl) ⟨bx rfl rfl rfl, trivial⟩⟩
   refine SCode.cond_f rfl g28 (SCode.exit ?_)
   exact ⟨d_15, h, sub_gen [] rfl rfl (zall rfl rfl) trivial⟩
 rintro d_1 h
 show SCode _ _ _ (S3 d_1) _
 try dsimp only at h
 unfold chargenetref09_spare_p2 at h
 refine SCode.seq (SCode.region (sm rfl rfl (sa rfl rfl (SOps.nil (SCode.ret ?_)))))
 obtain rfl := Option.some.inj h
 exact ⟨⟨[(10, ci d_1)], []⟩, _, sub_gen [] rfl rfl (zall rfl rfl) trivial, resA1 (v := .c (.int .i64 d_1)) rfl rfl, rfl⟩
theorem chargenetref09_push_ok (F : Nat) (a0_n : SNet) (a1_l : List Int) (a2_by : List Int) (a3_source : Int) (a4_sink : Int) (a5_d : Int) (r : List Int) (h : chargenetref09_push F a0_n a1_l a2_by a3_source a4_sink a5_d = some r) :
  SFun Try.prog 55 [aI 3 a1_l] [.a (bSNet a0_n), .c (.own 0 a1_l.length), .c (vI a2_by), ci a3_source, ci a4_sink, ci a5_d] (fun x os => x = .t [] ∧ os = [aI 3 r]) := by
 refine SFun.of (n := 65) Try.func55 rfl rfl rfl ?_
 unfold chargenetref09_push at h
 show SCode _ _ _ ⟨[(0, .a (bSNet a0_n)), (1, .c (.own 0 a1_l.length)), (2, .c (vI a2_by)), (3, ci a3_source), (4, ci a4_sink), (5, ci a5_d)], [aI 3 a1_l]⟩ _
 refine SCode.seq (SCode.region (se rfl rfl (e_box rfl rfl rfl rfl rfl rfl) (SOps.nil (SCode.seq (SCode.region (sm rfl rfl (sa rfl rfl (SOps.nil (SCode.block ?_)))))))))
 let S1 := fun (v_14 : Int) => fun (o0_15 : List Int) => (⟨[(1, .c (.own 0 o0_15.length)), (2, .c (vI a2_by)), (3, ci a3_source), (5, ci a5_d), (6, .c (.ptr 1 0)), (12, ci v_14)], [aI 3 o0_15, .box (bSNet a0_n)]⟩ : St)
 refine SCode.sub (st' := (S1 a4_sink a1_l)) (sub_gen [0, 1] rfl rfl (zall rfl rfl) ⟨oa rfl, bx rfl rfl rfl, trivial⟩) ?_
 refine (SCode.loop (σ := Nat × (Int × (List Int))) (S := fun s => (S1 s.2.1 s.2.2)) (g := fun s => chargenetref09_push_l27 a0_n a2_by a3_source a5_d s.1 s.2.1 s.2.2 = some r) (μ := fun s => s.1) (F, (a4_sink, a1_l)) h ?_)
 rintro ⟨n_27, ⟨v_14, o0_15⟩⟩ h
 try dsimp only at h
 show SCode _ _ _ (S1 v_14 o0_15) _
 cases n_27 with
 | zero => cases h
 | succ n_27 =>
  rw [chargenetref09_push_l27] at h
  unfold chargenetref09_push_b27 at h
  refine SCode.seq (SCode.seq (SCode.region (sm rfl rfl (sm rfl rfl (sq rfl rfl (q_neq rfl rfl rfl) (SOps.nil ?_))))))
  rcases cond_out h with ⟨g28, h⟩ | ⟨g28, h⟩
  ·refine SCode.cond_t rfl g28 (SCode.skip (SCode.block (SCode.seq ?_)))
   obtain ⟨g29, h⟩ := guard_out h
   refine SCode.region (sm rfl rfl (sm rfl rfl (sq rfl rfl (q_index_vec rfl rfl rfl sl22 rfl g29.1 g29.2) (sq rfl rfl (q_load_eptr rfl rfl ty3) (sq rfl rfl (q_gtr rfl rfl rfl) (SOps.nil ?_))))))
   rcases cond_out h with ⟨g30, h⟩ | ⟨g30, h⟩
   ·refine SCode.cond_t rfl g30 (SCode.seq ?_)
    obtain ⟨g31, h⟩ := guard_out h
    refine SCode.region (sm rfl rfl (sm rfl rfl (sq rfl rfl (q_index_vec rfl rfl rfl sl22 rfl g31.1 g31.2) (sq rfl rfl (q_load_eptr rfl rfl ty3) (sq rfl rfl (q_sub rfl rfl rfl) (sa rfl rfl (SOps.nil (SCode.seq ?_))))))))
    obtain ⟨g32, h⟩ := guard_out h
    obtain ⟨g33, h⟩ := guard_out h
    refine SCode.region (sm rfl rfl (sm rfl rfl (sm rfl rfl (sm rfl rfl (sq rfl rfl (q_index_own rfl rfl rfl sl22 g32.1 g32.2) (sq rfl rfl (q_load_aptr rfl rfl rfl (toNat_lt g32) rfl ty3) (sm rfl rfl (sq rfl rfl (q_add rfl rfl rfl) (sq rfl rfl (q_index_own rfl rfl rfl sl22 g33.1 g33.2) (se rfl rfl (e_storeL (IntKind.wrap .i64 (o0_15.getD ((IntKind.wrap .i64 (a2_by.getD v_14.toNat 0 - 1)).toNat) 0 + a5_d)) rfl rfl rfl rfl rfl (toNat_lt g33) ty3 rfl rfl rfl rfl rfl rfl) ?_))))))))))
    let y1 := o0_15.set ((IntKind.wrap .i64 (a2_by.getD v_14.toNat 0 - 1)).toNat) (IntKind.wrap .i64 (o0_15.getD ((IntKind.wrap .i64 (a2_by.getD v_14.toNat 0 - 1)).toNat) 0 + a5_d))
    refine SOps.sub (st' := ⟨[(1, .c (.own 0 y1.length)), (2, .c (vI a2_by)), (3, ci a3_source), (5, ci a5_d), (6, .c (.ptr 1 0)), (13, ci (IntKind.wrap .i64 (a2_by.getD v_14.toNat 0 - 1)))], [aI 3 y1, .box (bSNet a0_n)]⟩) (sub_gen [0, 1] rfl rfl ⟨⟨_, rfl, .inl ⟨rfl, congrArg (Cell.own 0) (List.length_set : y1.length = o0_15.length).symm⟩⟩, zc rfl rfl, zc rfl rfl, zc rfl rfl, zc rfl rfl, zc rfl rfl, trivial⟩ ⟨oa rfl, bx rfl rfl rfl, trivial⟩) (SOps.nil ?_)
    obtain ⟨g34, h⟩ := guard_out h
    refine SCode.region (sq rfl rfl (q_field_ptr rfl rfl fd49_1) (sq rfl rfl (q_load_ptr rfl rfl rfl rfl ty47) (sm rfl rfl (sq rfl rfl (q_index_vec rfl rfl rfl sl47 rfl g34.1 g34.2) (sq rfl rfl (q_field_eptr rfl rfl fd63_0 rfl) (sq rfl rfl (q_load_eptr rfl rfl ty3) (sa rfl rfl (SOps.nil ?_))))))))
    exact ⟨(n_27, ((a0_n.Arcs.getD (IntKind.wrap .i64 (a2_by.getD v_14.toNat 0 - 1)).toNat dSArc).From, o0_15.set ((IntKind.wrap .i64 (a2_by.getD v_14.toNat 0 - 1)).toNat) (IntKind.wrap .i64 (o0_15.getD ((IntKind.wrap .i64 (a2_by.getD v_14.toNat 0 - 1)).toNat) 0 + a5_d)))), h, Nat.lt_succ_self n_27, sub_gen [0, 1] rfl rfl (zall rfl rfl) ⟨oa rfl, bx rfl rfl rfl, trivial⟩⟩
   refine SCode.cond_f rfl g30 (SCode.seq ?_)
   obtain ⟨g35, h⟩ := guard_out h
   refine SCode.region (sm rfl rfl (sm rfl rfl (sq rfl rfl (q_index_vec rfl rfl rfl sl22 rfl g35.1 g35.2) (sq rfl rfl (q_load_eptr rfl rfl ty3) (sq rfl rfl (q_neg rfl rfl) (sq rfl rfl (q_sub rfl rfl rfl) (sa rfl rfl (SOps.nil (SCode.seq ?_)))))))))
   obtain ⟨g36, h⟩ := guard_out h
   obtain ⟨g37, h⟩ := guard_out h
   refine SCode.region (sm rfl rfl (sm rfl rfl (sm rfl rfl (sm rfl rfl (sq rfl rfl (q_index_own rfl rfl rfl sl22 g36.1 g36.2) (sq rfl rfl (q_load_aptr rfl rfl rfl (toNat_lt g36) rfl ty3) (sm rfl rfl (sq rfl rfl (q_sub rfl rfl rfl) (sq rfl rfl (q_index_own rfl rfl rfl sl22 g37.1 g37.2) (se rfl rfl (e_storeL (IntKind.wrap .i64 (o0_15.getD ((IntKind.wrap .i64 (IntKind.wrap .i64 (0 - a2_by.getD v_14.toNat 0) - 1)).toNat) 0 - a5_d)) rfl rfl rfl rfl rfl (toNat_lt g37) ty3 rfl rfl rfl rfl rfl rfl) ?_))))))))))
   let y2 := o0_15.set ((IntKind.wrap .i64 (IntKind.wrap .i64 (0 - a2_by.getD v_14.toNat 0) - 1)).toNat) (IntKind.wrap .i64 (o0_15.getD ((IntKind.wrap .i64 (IntKind.wrap .i64 (0 - a2_by.getD v_14.toNat 0) - 1)).toNat) 0 - a5_d))
   refine SOps.sub (st' := ⟨[(1, .c (.own 0 y2.length)), (2, .c (vI a2_by)), (3, ci a3_source), (5, ci a5_d), (6, .c (.ptr 1 0)), (14, ci (IntKind.wrap .i64 (IntKind.wrap .i64 (0 - a2_by.getD v_14.toNat 0) - 1)))], [aI 3 y2, .box (bSNet a0_n)]⟩) (sub_gen [0, 1] rfl rfl ⟨⟨_, rfl, .inl ⟨rfl, congrArg (Cell.own 0) (List.length_set : y2.length = o0_15.length).symm⟩⟩, zc rfl rfl, zc rfl rfl, zc rfl rfl, zc rfl rfl, zc rfl rfl, trivial⟩ ⟨oa rfl, bx rfl rfl rfl, trivial⟩) (SOps.nil ?_)
   obtain ⟨g38, h⟩ := guard_out h
   refine SCode.region (sq rfl rfl (q_field_ptr rfl rfl fd49_1) (sq rfl rfl (q_load_ptr rfl rfl rfl rfl ty47) (sm rfl rfl (sq rfl rfl (q_index_vec rfl rfl rfl sl47 rfl g38.1 g38.2) (sq rfl rfl (q_field_eptr rfl rfl fd63_1 rfl) (sq rfl rfl (q_load_eptr rfl rfl ty3) (sa rfl rfl (SOps.nil ?_))))))))
   let y3 := IntKind.wrap .i64 (IntKind.wrap .i64 (0 - a2_by.getD v_14.toNat 0) - 1)
   exact ⟨(n_27, ((a0_n.Arcs.getD y3.toNat dSArc).To, o0_15.set (y3.toNat) (IntKind.wrap .i64 (o0_15.getD (y3.toNat) 0 - a5_d)))), h, Nat.lt_succ_self n_27, sub_gen [0, 1] rfl rfl (zall rfl rfl) ⟨oa rfl, bx rfl rfl rfl, trivial⟩⟩
  refine SCode.cond_f rfl g28 (SCode.exit ?_)
  obtain rfl := Option.some.inj h
  exact ⟨⟨[], [aI 3 o0_15]⟩, _, sub_gen [0] rfl rfl trivial ⟨oa rfl, trivial⟩, resA0 rfl, ⟨rfl, rfl⟩⟩
theorem chargenetref09_Max_ok (F : Nat) (a0_n : SNet) (a1_source : Int) (a2_sink : Int) (r : Int × (List Int) × Int) (h : chargenetref09_Max F a0_n a1_source a2_sink = some r) :
  SFun Try.prog 45 [] [.a (bSNet a0_n), ci a1_source, ci a2_sink] (fun x _ => x = .t [.c (.int .i64 r.1), .c (vI r.2.1), .c (.int .i64 r.2.2)]) := by
 refine SFun.of (n := 56) Try.func45 rfl rfl rfl ?_
 unfold chargenetref09_Max at h
 show SCode _ _ _ ⟨[(0, .a (bSNet a0_n)), (1, ci a1_source), (2, ci a2_sink)], []⟩ _
 refine SCode.seq (SCode.region (se rfl rfl (e_box rfl rfl rfl rfl rfl rfl) (sa rfl rfl (sa rfl rfl (sa rfl rfl (SOps.nil (SCode.seq (SCode.seq ?_))))))))
 obtain ⟨c_1, g2, h⟩ := bind_out h
 try dsimp only at h
 refine SCode.region (sq rfl rfl (q_load_ptr_all rfl rfl rfl rfl rfl ty49) (sm rfl rfl (sm rfl rfl (sq rfl rfl (q_call (chargenetref09_Ends_ok F a0_n a1_source a2_sink c_1 g2) [] rfl fn52 ⟨⟨rfl, rfl⟩, ⟨_, rfl, .inl ⟨rfl, rfl⟩⟩, ⟨_, rfl, .inl ⟨rfl, rfl⟩⟩, trivial⟩ (.inl rfl)) (sa rfl rfl (SOps.nil (SCode.seq (SCode.region (sm rfl rfl (sq rfl rfl (q_neq rfl rfl rfl) (SOps.nil ?_)))))))))))
 rcases cond_out h with ⟨g3, h⟩ | ⟨g3, h⟩
 ·refine SCode.cond_t rfl g3 (SCode.seq (SCode.region (sm rfl rfl (sa rfl rfl (sa rfl rfl (sa rfl rfl (SOps.nil (SCode.ret ?_))))))))
  obtain rfl := Option.some.inj h
  exact ⟨⟨[(6, ci 0), (7, .c (vI (([] : List Int)))), (8, ci c_1)], []⟩, _, sub_gen [] rfl rfl ⟨zc rfl rfl, ⟨_, rfl, .inr (.inr (.inr (.inl ⟨_, _, rfl, rfl⟩)))⟩, zc rfl rfl, trivial⟩ trivial, resA3 (v1 := .c (.int .i64 0)) (v2 := .c (vI (([] : List Int)))) (v3 := .c (.int .i64 c_1)) rfl rfl rfl rfl, rfl⟩
 refine SCode.cond_f rfl g3 (SCode.skip (SCode.seq ?_))
 obtain ⟨g4, h⟩ := guard_out h
 refine SCode.region (sq rfl rfl (q_field_ptr rfl rfl fd49_1) (sq rfl rfl (q_load_ptr rfl rfl rfl rfl ty47) (sq rfl rfl (q_len_vec rfl rfl sl47) (se rfl rfl (e_makeL (c := (cInt .i64)) (d0 := 0) rfl rfl rfl rfl rfl sl22 z3 rfl rfl rfl g4.1 (Int.le_refl _) g4.2.1 g4.2.2) (sa rfl rfl (SOps.nil (SCode.seq (SCode.region (sa rfl rfl (SOps.nil (SCode.block ?_)))))))))))
 let S1 := fun (value_14 : Int) => fun (o1_15 : List Int) => (⟨[(1, ci a1_source), (2, ci a2_sink), (3, .c (.ptr 0 0)), (10, .c (.own 1 o1_15.length)), (11, ci value_14)], [.box (bSNet a0_n), aI 3 o1_15]⟩ : St)
 refine SCode.sub (st' := (S1 0 (List.replicate (((a0_n.Arcs).length : Int)).toNat (0 : Int)))) (sub_gen [0, 1] rfl rfl (zall rfl rfl) ⟨bx rfl rfl rfl, oa rfl, trivial⟩) ?_
 refine (SCode.loop (σ := Nat × (Int × (List Int))) (S := fun s => (S1 s.2.1 s.2.2)) (g := fun s => chargenetref09_Max_l25 F a0_n a1_source a2_sink s.1 s.2.1 s.2.2 = some r) (μ := fun s => s.1) (F, (0, List.replicate (((a0_n.Arcs).length : Int)).toNat (0 : Int))) h ?_)
 rintro ⟨n_25, ⟨value_14, o1_15⟩⟩ h
 try dsimp only at h
 show SCode _ _ _ (S1 value_14 o1_15) _
 cases n_25 with
 | zero => cases h
 | succ n_25 =>
  rw [chargenetref09_Max_l25] at h
  unfold chargenetref09_Max_b25 at h
  refine SCode.block (SCode.seq ?_)
  obtain ⟨c_26, g27, h⟩ := bind_out h
  try dsimp only at h
  refine SCode.region (sq rfl rfl (q_load_ptr_all rfl rfl rfl rfl rfl ty49) (sm rfl rfl (sm rfl rfl (se rfl rfl (e_call (chargenetref09_search_ok F a0_n a1_source o1_15 c_26 g27) [1] rfl fn53 rfl rfl rfl rfl rfl rfl rfl rfl) (sm rfl rfl (sq rfl rfl (q_extract rfl rfl rfl) (sq rfl rfl (q_extract rfl rfl rfl) (sa rfl rfl (sa rfl rfl (SOps.nil (SCode.seq (SCode.seq ?_))))))))))))
  obtain ⟨g28, h⟩ := guard_out h
  refine SCode.region (sm rfl rfl (sm rfl rfl (sq rfl rfl (q_index_vec rfl rfl rfl sl22 rfl g28.1 g28.2) (sq rfl rfl (q_load_eptr rfl rfl ty3) (sq rfl rfl (q_eql rfl rfl rfl) (SOps.nil ?_))))))
  rcases cond_out h with ⟨g29, h⟩ | ⟨g29, h⟩
  ·refine SCode.cond_t rfl g29 (SCode.seq (SCode.region (sm rfl rfl (sm rfl rfl (sa rfl rfl (sa rfl rfl (sa rfl rfl (SOps.sub (st' := ⟨[(6, ci value_14), (7, .c (.own 0 o1_15.length)), (8, ci 0)], [aI 3 o1_15]⟩) (sub_gen [1] rfl rfl (zall rfl rfl) ⟨oa rfl, trivial⟩) (SOps.nil (SCode.ret ?_))))))))))
   obtain rfl := Option.some.inj h
   exact ⟨⟨[(6, ci value_14), (7, .c (vI o1_15)), (8, ci 0)], []⟩, _, sub_gen [] rfl rfl ⟨zc rfl rfl, ⟨_, rfl, .inr (.inl ⟨_, _, _, _, _, _, _, rfl, rfl, rfl, Nat.le_refl _, fun _ _ _ _ => rfl, nm rfl⟩)⟩, zc rfl rfl, trivial⟩ trivial, resA3 (v1 := .c (.int .i64 value_14)) (v2 := .c (vI o1_15)) (v3 := .c (.int .i64 0)) rfl rfl rfl rfl, rfl⟩
  refine SCode.cond_f rfl g29 (SCode.skip (SCode.seq ?_))
  obtain ⟨c_30, g31, h⟩ := bind_out h
  try dsimp only at h
  refine SCode.region (sq rfl rfl (q_load_ptr_all rfl rfl rfl rfl rfl ty49) (sm rfl rfl (sm rfl rfl (sm rfl rfl (sm rfl rfl (sq rfl rfl (q_call (chargenetref09_spare_ok F a0_n o1_15 c_26.1 a1_source a2_sink c_30 g31) [1] rfl fn54 ⟨⟨rfl, rfl⟩, ⟨_, rfl, .inr (.inl ⟨_, _, _, _, _, _, _, rfl, rfl, rfl, Nat.le_refl _, fun _ _ _ _ => rfl, (.head _)⟩)⟩, ⟨_, rfl, .inl ⟨rfl, rfl⟩⟩, ⟨_, rfl, .inl ⟨rfl, rfl⟩⟩, ⟨_, rfl, .inl ⟨rfl, rfl⟩⟩, trivial⟩ (.inr rfl)) (sa rfl rfl (SOps.sub (st' := ⟨[(1, ci a1_source), (2, ci a2_sink), (3, .c (.ptr 0 0)), (10, .c (.own 1 o1_15.length)), (11, ci value_14), (12, .c (vI c_26.1)), (14, ci c_30)], [.box (bSNet a0_n), aI 3 o1_15]⟩) (sub_gen [0, 1] rfl rfl (zall rfl rfl) ⟨bx rfl rfl rfl, oa rfl, trivial⟩) (SOps.nil (SCode.seq ?_))))))))))
  obtain ⟨c_32, g33, h⟩ := bind_out h
  try dsimp only at h
  obtain ⟨g34, h⟩ := guard_out h
  refine SCode.region (sq rfl rfl (q_load_ptr_all rfl rfl rfl rfl rfl ty49) (sm rfl rfl (sm rfl rfl (sm rfl rfl (sm rfl rfl (sm rfl rfl (se rfl rfl (e_call (chargenetref09_push_ok F a0_n o1_15 c_26.1 a1_source a2_sink c_30 c_32 g33) [1] rfl fn55 rfl rfl rfl rfl rfl rfl rfl rfl) (SOps.sub (st' := ⟨[(1, ci a1_source), (2, ci a2_sink), (3, .c (.ptr 0 0)), (10, .c (.own 1 c_32.length)), (11, ci value_14), (14, ci c_30)], [.box (bSNet a0_n), aI 3 c_32]⟩) (sub_gen [0, 1] rfl rfl ⟨zc rfl rfl, zc rfl rfl, zc rfl rfl, ⟨_, rfl, .inl ⟨rfl, congrArg (Cell.own 1) g34.symm⟩⟩, zc rfl rfl, zc rfl rfl, trivial⟩ ⟨bx rfl rfl rfl, oa rfl, trivial⟩) (SOps.nil (SCode.region (sm rfl rfl (sm rfl rfl (sq rfl rfl (q_add rfl rfl rfl) (sa rfl rfl (SOps.nil ?_)))))))))))))))
  exact ⟨(n_25, (IntKind.wrap .i64 (value_14 + c_30), c_32)), h, Nat.lt_succ_self n_25, sub_gen [0, 1] rfl rfl (zall rfl rfl) ⟨bx rfl rfl rfl, oa rfl, trivial⟩⟩
theorem chargenetref18_Usable_ok (F : Nat) (a0_p : SProblem) (a1_d : SDemand) (a2_t : Int) (r : Bool) (h : chargenetref18_Usable F a0_p a1_d a2_t = some r) :
  SFun Try.prog 38 [] [.a (bSProblem a0_p), .a (bSDemand a1_d), ci a2_t] (fun x _ => x = .c (.bool r)) := by
 refine SFun.of (n := 28) Try.func38 rfl rfl rfl ?_
 unfold chargenetref18_Usable at h
 show SCode _ _ _ ⟨[(0, .a (bSProblem a0_p)), (1, .a (bSDemand a1_d)), (2, ci a2_t)], []⟩ _
 refine SCode.seq (SCode.region (se rfl rfl (e_box rfl rfl rfl rfl rfl rfl) (se rfl rfl (e_box rfl rfl rfl rfl rfl rfl) (sa rfl rfl (SOps.nil (SCode.seq (SCode.region (sq rfl rfl (q_field_ptr rfl rfl fd26_2) (sq rfl rfl (q_load_ptr rfl rfl rfl rfl ty3) (sm rfl rfl (sq rfl rfl (q_field_ptr rfl rfl fd26_3) (sq rfl rfl (q_load_ptr rfl rfl rfl rfl ty3) (sq rfl rfl (q_mul rfl rfl rfl) (sq rfl rfl (q_add rfl rfl rfl) (sa rfl rfl ?_)))))))))))))))
 refine SOps.nil (SCode.seq ?_)
 rcases cond_out h with ⟨g1, h⟩ | ⟨g1, h⟩
 ·refine SCode.region (sq rfl rfl (q_field_ptr rfl rfl fd39_3) (sq rfl rfl (q_load_ptr rfl rfl rfl rfl ty3) (sm rfl rfl (sq rfl rfl (q_leq rfl rfl rfl) (sm rfl rfl (SOps.q rfl (.guard 4 19 true rfl rfl (gT g1)) rfl (q_move rfl rfl) (SOps.q rfl (.guard 4 19 true rfl rfl (gT g1)) rfl (q_field_ptr rfl rfl fd26_3) (SOps.q rfl (.guard 4 19 true rfl rfl (gT g1)) rfl (q_load_ptr rfl rfl rfl rfl ty3) (SOps.q rfl (.guard 4 19 true rfl rfl (gT g1)) rfl (q_add rfl rfl rfl) (SOps.q rfl (.guard 4 19 true rfl rfl (gT g1)) rfl (q_field_ptr rfl rfl fd39_4) (SOps.q rfl (.guard 4 19 true rfl rfl (gT g1)) rfl (q_load_ptr rfl rfl rfl rfl ty3) (SOps.q rfl (.guard 4 19 true rfl rfl (gT g1)) rfl (q_leq rfl rfl rfl) (sq rfl rfl (q_pick_t rfl rfl g1 rfl) (sa rfl rfl (SOps.sub (st' := ⟨[(6, .c (.bool (decide (IntKind.wrap .i64 (IntKind.wrap .i64 (a0_p.From + IntKind.wrap .i64 (a2_t * a0_p.Length)) + a0_p.Length) ≤ a1_d.Depart))))], []⟩) (sub_gen [] rfl rfl (zall rfl rfl) trivial) ?_)))))))))))))))
  refine SOps.nil (SCode.ret ?_)
  obtain rfl := Option.some.inj h
  exact ⟨⟨[(6, .c (.bool (decide (IntKind.wrap .i64 (IntKind.wrap .i64 (a0_p.From + IntKind.wrap .i64 (a2_t * a0_p.Length)) + a0_p.Length) ≤ a1_d.Depart))))], []⟩, _, sub_gen [] rfl rfl (zall rfl rfl) trivial, resA1 (v := .c (.bool (decide (IntKind.wrap .i64 (IntKind.wrap .i64 (a0_p.From + IntKind.wrap .i64 (a2_t * a0_p.Length)) + a0_p.Length) ≤ a1_d.Depart)))) rfl rfl, rfl⟩
 refine SCode.region (sq rfl rfl (q_field_ptr rfl rfl fd39_3) (sq rfl rfl (q_load_ptr rfl rfl rfl rfl ty3) (sm rfl rfl (sq rfl rfl (q_leq rfl rfl rfl) (sm rfl rfl (SOps.skip rfl 4 19 true rfl rfl (.inl (gF g1)) rfl (SOps.skip rfl 4 19 true rfl rfl (.inl (gF g1)) rfl (SOps.skip rfl 4 19 true rfl rfl (.inl (gF g1)) rfl (SOps.skip rfl 4 19 true rfl rfl (.inl (gF g1)) rfl (SOps.skip rfl 4 19 true rfl rfl (.inl (gF g1)) rfl (SOps.skip rfl 4 19 true rfl rfl (.inl (gF g1)) rfl (SOps.skip rfl 4 19 true rfl rfl (.inl (gF g1)) rfl (sq rfl rfl (q_pick_f rfl rfl g1 rfl) (sa rfl rfl (SOps.sub (st' := ⟨[(6, .c (.bool false))], []⟩) (sub_gen [] rfl rfl (zall rfl rfl) trivial) ?_)))))))))))))))
 refine SOps.nil (SCode.ret ?_)
 obtain rfl := Option.some.inj h
 exact ⟨⟨[(6, .c (.bool false))], []⟩, _, sub_gen [] rfl rfl (zall rfl rfl) trivial, resA1 (v := .c (.bool false)) rfl rfl, rfl⟩
theorem chargenetref18_node_ok (F : Nat) (a0_p : SProblem) (a1_t : Int) (a2_f : Int) (r : Int) (h : chargenetref18_node F a0_p a1_t a2_f = some r) :
  SFun Try.prog 56 [] [.a (bSProblem a0_p), ci a1_t, ci a2_f] (fun x _ => x = ci r) := by
 refine SFun.of (n := 19) Try.func56 rfl rfl rfl ?_
 unfold chargenetref18_node at h
 show SCode _ _ _ ⟨[(0, .a (bSProblem a0_p)), (1, ci a1_t), (2, ci a2_f)], []⟩ _
 refine SCode.seq (SCode.region (se rfl rfl (e_box rfl rfl rfl rfl rfl rfl) (sa rfl rfl (SOps.nil (SCode.seq (SCode.region (sq rfl rfl (q_field_ptr rfl rfl fd26_4) (sq rfl rfl (q_load_ptr rfl rfl rfl rfl ty24) (sq rfl rfl (q_len_vec rfl rfl sl24) (sq rfl rfl (q_add rfl rfl rfl) (sm rfl rfl (sq rfl rfl (q_field_ptr rfl rfl fd26_0) (sq rfl rfl (q_load_ptr rfl rfl rfl rfl ty22) (sq rfl rfl (q_len_vec rfl rfl sl22) (sq rfl rfl (q_mul rfl rfl rfl) ?_)))))))))))))))
 refine sq rfl rfl (q_add rfl rfl rfl) (sm rfl rfl (sq rfl rfl (q_add rfl rfl rfl) (sa rfl rfl (SOps.nil (SCode.ret ?_)))))
 obtain rfl := Option.some.inj h
 let y1 := IntKind.wrap .i64 (IntKind.wrap .i64 (IntKind.wrap .i64 (2 + ((a0_p.Demands).length : Int)) + IntKind.wrap .i64 (a1_t * ((a0_p.Parents).length : Int))) + a2_f)
 exact ⟨⟨[(6, ci y1)], []⟩, _, sub_gen [] rfl rfl (zall rfl rfl) trivial, resA1 (v := .c (.int .i64 y1)) rfl rfl, rfl⟩
theorem chargenetref18_network_ok (F : Nat) (a0_p : SProblem) (a1_energy : List Int) (r : SNet) (h : chargenetref18_network F a0_p a1_energy = some r) :
  SFun Try.prog 46 [] [.a (bSProblem a0_p), .c (vI a1_energy)] (fun x _ => x = .a (bSNet r)) := by
 refine SFun.of (n := 125) Try.func46 rfl rfl rfl ?_
 unfold chargenetref18_network at h
 show SCode _ _ _ ⟨[(0, .a (bSProblem a0_p)), (1, .c (vI a1_energy))], []⟩ _
 refine SCode.seq (SCode.region (se rfl rfl (e_box rfl rfl rfl rfl rfl rfl) (se rfl rfl (e_alloc rfl rfl rfl z49) (SOps.sub (st' := ⟨[(1, .c (vI a1_energy)), (2, .c (.ptr 0 0)), (4, .c (.ptr 1 0))], [.box (bSProblem a0_p), .box [.int .i64 0, .own 2 (([] : List SArc)).length], aSArc 63 (([] : List SArc))]⟩) (Sub.trans (Sub.nilBox (id := 1) (j := 1) (T := 63) (k := 3) (g := gL cSArc dSArc ([] : List SArc)) rfl rfl) (sub_gen [0, 1, 2] rfl rfl (zall rfl rfl) ⟨bx rfl rfl rfl, bx rfl rfl rfl, oa rfl, trivial⟩)) (SOps.nil (SCode.seq (SCode.region (sq rfl rfl (q_field_ptr rfl rfl fd26_4) (sq rfl rfl (q_load_ptr rfl rfl rfl rfl ty24) (sq rfl rfl (q_len_vec rfl rfl sl24) (sq rfl rfl (q_add rfl rfl rfl) (sq rfl rfl (q_field_ptr rfl rfl fd26_1) (sq rfl rfl (q_load_ptr rfl rfl rfl rfl ty23) (sq rfl rfl (q_len_vec rfl rfl sl23) (sq rfl rfl (q_field_ptr rfl rfl fd26_0) ?_)))))))))))))))
 refine sq rfl rfl (q_load_ptr rfl rfl rfl rfl ty22) (sq rfl rfl (q_len_vec rfl rfl sl22) (sq rfl rfl (q_mul rfl rfl rfl) (sq rfl rfl (q_add rfl rfl rfl) (sq rfl rfl (q_build2 rfl rfl pl49 rfl) (se rfl rfl (e_alloc rfl rfl rfl z49) (se rfl rfl (e_store_box rfl rfl rfl rfl rfl ty49 rfl rfl rfl rfl) (SOps.sub (st' := ⟨[(1, .c (vI a1_energy)), (2, .c (.ptr 0 0)), (4, .c (.ptr 1 0)), (5, .c (.ptr 3 0))], [.box (bSProblem a0_p), .box [.int .i64 0, .own 2 (([] : List SArc)).length], aSArc 63 (([] : List SArc)), .box [.int .i64 (IntKind.wrap .i64 (IntKind.wrap .i64 (2 + ((a0_p.Demands).length : Int)) + IntKind.wrap .i64 (((a0_p.Caps).length : Int) * ((a0_p.Parents).length : Int)))), .own 4 (([] : List SArc)).length], aSArc 63 (([] : List SArc))]⟩) (Sub.trans (Sub.nilBox (id := 3) (j := 1) (T := 63) (k := 3) (g := gL cSArc dSArc ([] : List SArc)) rfl rfl) (sub_gen [0, 1, 2, 3, 4] rfl rfl (zall rfl rfl) ⟨bx rfl rfl rfl, bx rfl rfl rfl, oa rfl, bx rfl rfl rfl, oa rfl, trivial⟩)) (SOps.nil ?_))))))))
 let S150 := fun (o4_1 : List SArc) => (⟨[(2, .c (.ptr 0 0)), (4, .c (.ptr 1 0)), (5, .c (.ptr 3 0))], [.box (bSProblem a0_p), .box [.int .i64 0, .own 2 (([] : List SArc)).length], aSArc 63 (([] : List SArc)), .box [.int .i64 (IntKind.wrap .i64 (IntKind.wrap .i64 (2 + ((a0_p.Demands).length : Int)) + IntKind.wrap .i64 (((a0_p.Caps).length : Int) * ((a0_p.Parents).length : Int)))), .own 4 o4_1.length], aSArc 63 o4_1]⟩ : St)
 refine SCode.join (σ := (List SArc)) (S := fun s => (S150 s)) (g := fun s => chargenetref18_network_p136 F a0_p s = some r) ?_ ?_
 rotate_left
 ·refine SCode.seq (SCode.region (sq rfl rfl (q_field_ptr rfl rfl fd26_4) (sq rfl rfl (q_load_ptr rfl rfl rfl rfl ty24) (sq rfl rfl (q_len_vec rfl rfl sl24) (sm rfl rfl (SOps.nil (SCode.block ?_)))))))
  let S149 := fun (t30_173 : Int) => fun (o4_174 : List SArc) => (⟨[(1, .c (vI a1_energy)), (2, .c (.ptr 0 0)), (4, .c (.ptr 1 0)), (5, .c (.ptr 3 0)), (28, .c (vSDemand a0_p.Demands)), (29, ci (((a0_p.Demands).length : Int))), (30, ci t30_173)], [.box (bSProblem a0_p), .box [.int .i64 0, .own 2 (([] : List SArc)).length], aSArc 63 (([] : List SArc)), .box [.int .i64 (IntKind.wrap .i64 (IntKind.wrap .i64 (2 + ((a0_p.Demands).length : Int)) + IntKind.wrap .i64 (((a0_p.Caps).length : Int) * ((a0_p.Parents).length : Int)))), .own 4 o4_174.length], aSArc 63 o4_174]⟩ : St)
  refine SCode.sub (st' := (S149 0 (([] : List SArc)))) (sub_gen [0, 1, 2, 3, 4] rfl rfl (zall rfl rfl) ⟨bx rfl rfl rfl, bx rfl rfl rfl, oa rfl, bx rfl rfl rfl, oa rfl, trivial⟩) ?_
  refine (SCode.loop (σ := Nat × (Int × (List SArc))) (S := fun s => (S149 s.2.1 s.2.2)) (g := fun s => chargenetref18_network_l211 F a0_p a1_energy s.1 s.2.1 s.2.2 = some r) (μ := fun s => s.1) (F, (0, ([] : List SArc))) h ?_)
  rintro ⟨n_211, ⟨t30_173, o4_174⟩⟩ h
  try dsimp only at h
  show SCode _ _ _ (S149 t30_173 o4_174) _
  cases n_211 with
  | zero => cases h
  | succ n_211 =>
   rw [chargenetref18_network_l211] at h
   unfold chargenetref18_network_b211 at h
   refine SCode.seq (SCode.region (sq rfl rfl (q_lss rfl rfl rfl) (SOps.nil (SCode.seq ?_))))
   rcases cond_out h with ⟨g212, h⟩ | ⟨g212, h⟩
   ·refine SCode.cond_t rfl g212 (SCode.skip ?_)
    let S148 := fun (o4_213 : List SArc) => (⟨[(1, .c (vI a1_energy)), (2, .c (.ptr 0 0)), (4, .c (.ptr 1 0)), (5, .c (.ptr 3 0)), (28, .c (vSDemand a0_p.Demands)), (29, ci (((a0_p.Demands).length : Int))), (30, ci t30_173)], [.box (bSProblem a0_p), .box [.int .i64 0, .own 2 (([] : List SArc)).length], aSArc 63 (([] : List SArc)), .box [.int .i64 (IntKind.wrap .i64 (IntKind.wrap .i64 (2 + ((a0_p.Demands).length : Int)) + IntKind.wrap .i64 (((a0_p.Caps).length : Int) * ((a0_p.Parents).length : Int)))), .own 4 o4_213.length], aSArc 63 o4_213]⟩ : St)
    refine SCode.join (σ := (List SArc)) (S := fun s => (S148 s)) (g := fun s => chargenetref18_network_p214 t30_173 (fun t30_173 o4_174 => chargenetref18_network_l211 F a0_p a1_energy n_211 t30_173 o4_174) s = some r) ?_ ?_
    rotate_left
    ·refine SCode.block (SCode.seq ?_)
     obtain ⟨g215, h⟩ := guard_out h
     refine SCode.region (sm rfl rfl (sq rfl rfl (q_index_vec rfl rfl rfl sl24 rfl g215.1 g215.2) (sq rfl rfl (q_load_eptr_all rfl rfl rfl ty39) (se rfl rfl (e_alloc rfl rfl rfl z39) (sa rfl rfl (se rfl rfl (e_store_box rfl rfl rfl rfl rfl ty39 rfl rfl rfl rfl) (SOps.nil (SCode.seq (SCode.sub (st' := ⟨[(1, .c (vI a1_energy)), (2, .c (.ptr 0 0)), (4, .c (.ptr 1 0)), (5, .c (.ptr 3 0)), (6, ci t30_173), (7, .c (.ptr 5 0)), (28, .c (vSDemand a0_p.Demands)), (29, ci (((a0_p.Demands).length : Int))), (30, ci t30_173)], [.box (bSProblem a0_p), .box [.int .i64 0, .own 2 (([] : List SArc)).length], aSArc 63 (([] : List SArc)), .box [.int .i64 (IntKind.wrap .i64 (IntKind.wrap .i64 (2 + ((a0_p.Demands).length : Int)) + IntKind.wrap .i64 (((a0_p.Caps).length : Int) * ((a0_p.Parents).length : Int)))), .own 4 o4_174.length], aSArc 63 o4_174, .box (bSDemand (a0_p.Demands.getD t30_173.toNat dSDemand))]⟩) (sub_gen [0, 1, 2, 3, 4, 5] rfl rfl (zall rfl rfl) ⟨bx rfl rfl rfl, bx rfl rfl rfl, oa rfl, bx rfl rfl rfl, oa rfl, bx rfl rfl rfl, trivial⟩) ?_)))))))))
     obtain ⟨g216, h⟩ := guard_out h
     obtain ⟨g217, h⟩ := guard_out h
     refine SCode.drawK mixed [[], [0], [], [2], [], [], [4, 5], [4, 5, 6], [2, 3, 4, 5, 6, 7], [2, 3, 4, 5, 6, 7, 8], [0, 1, 2, 3, 4, 5, 6, 7, 8, 9], [0, 1, 2, 3, 4, 5, 6, 7, 8, 9, 10], [0, 1, 2, 3, 4, 5, 6, 7, 8, 9, 10, 11]] 10 3 rfl rfl (qr rfl rfl (q_field_ptr rfl rfl fd49_1) (qr rfl rfl (q_load_ptr rfl rfl rfl rfl ty47) (qm rfl rfl (qr rfl rfl (q_add rfl rfl rfl) (qm rfl rfl (qm rfl rfl (qr rfl rfl (q_index_vec rfl rfl rfl sl22 rfl g216.1 g216.2) (qr rfl rfl (q_load_eptr rfl rfl ty3) (qr rfl rfl (q_build2 rfl rfl pl63 rfl) (qr rfl rfl (q_bsliceL (c := cSArc) (d0 := dSArc) [SArc.mk 0 (IntKind.wrap .i64 (2 + t30_173)) (a1_energy.getD t30_173.toNat 0)] rfl rfl sl47 z63 rfl rfl rfl rfl rfl rfl rfl) (QK.nil (se rfl rfl (e_appendL (c := cSArc) (d0 := dSArc) (l := o4_174) (l2 := [SArc.mk 0 (IntKind.wrap .i64 (2 + t30_173)) (a1_energy.getD t30_173.toNat 0)]) rfl rfl rfl rfl rfl rfl (.inl rfl) sl47 z63 rfl rfl oneSArc g217.1 g217.2) (sq rfl rfl (q_field_ptr rfl rfl fd49_1) (se rfl rfl (e_store_box rfl rfl rfl rfl rfl ty47 rfl rfl rfl rfl) ?_))))))))))))))
     let y1 := o4_174 ++ ([SArc.mk 0 (IntKind.wrap .i64 (2 + t30_173)) (a1_energy.getD t30_173.toNat 0)])
     refine SOps.sub (st' := ⟨[(1, .c (vI a1_energy)), (2, .c (.ptr 0 0)), (4, .c (.ptr 1 0)), (5, .c (.ptr 3 0)), (6, ci t30_173), (7, .c (.ptr 5 0)), (28, .c (vSDemand a0_p.Demands)), (29, ci (((a0_p.Demands).length : Int))), (30, ci t30_173)], [.box (bSProblem a0_p), .box [.int .i64 0, .own 2 (([] : List SArc)).length], aSArc 63 (([] : List SArc)), .box [.int .i64 (IntKind.wrap .i64 (IntKind.wrap .i64 (2 + ((a0_p.Demands).length : Int)) + IntKind.wrap .i64 (((a0_p.Caps).length : Int) * ((a0_p.Parents).length : Int)))), .own 4 y1.length], aSArc 63 y1, .box (bSDemand (a0_p.Demands.getD t30_173.toNat dSDemand))]⟩) (sub_gen [0, 1, 2, 3, 6, 5] rfl rfl (zall rfl rfl) ⟨bx rfl rfl rfl, bx rfl rfl rfl, oa rfl, bx rfl rfl rfl, oa rfl, bx rfl rfl rfl, trivial⟩) (SOps.nil (SCode.seq (SCode.region (sq rfl rfl (q_field_ptr rfl rfl fd26_1) (sq rfl rfl (q_load_ptr rfl rfl rfl rfl ty23) (sq rfl rfl (q_len_vec rfl rfl sl23) (sm rfl rfl (SOps.nil (SCode.block ?_)))))))))
     let S147 := fun (t50_227 : Int) => fun (o4_228 : List SArc) => (⟨[(1, .c (vI a1_energy)), (2, .c (.ptr 0 0)), (4, .c (.ptr 1 0)), (5, .c (.ptr 3 0)), (6, ci t30_173), (7, .c (.ptr 5 0)), (28, .c (vSDemand a0_p.Demands)), (29, ci (((a0_p.Demands).length : Int))), (30, ci t30_173), (49, ci (((a0_p.Caps).length : Int))), (50, ci t50_227)], [.box (bSProblem a0_p), .box [.int .i64 0, .own 2 (([] : List SArc)).length], aSArc 63 (([] : List SArc)), .box [.int .i64 (IntKind.wrap .i64 (IntKind.wrap .i64 (2 + ((a0_p.Demands).length : Int)) + IntKind.wrap .i64 (((a0_p.Caps).length : Int) * ((a0_p.Parents).length : Int)))), .own 4 o4_228.length], aSArc 63 o4_228, .box (bSDemand (a0_p.Demands.getD t30_173.toNat dSDemand))]⟩ : St)
     refine SCode.sub (st' := (S147 0 (o4_174 ++ ([SArc.mk 0 (IntKind.wrap .i64 (2 + t30_173)) (a1_energy.getD t30_173.toNat 0)])))) (sub_gen [0, 1, 2, 3, 4, 5] rfl rfl (zall rfl rfl) ⟨bx rfl rfl rfl, bx rfl rfl rfl, oa rfl, bx rfl rfl rfl, oa rfl, bx rfl rfl rfl, trivial⟩) ?_
     refine (SCode.loop (σ := Nat × (Int × (List SArc))) (S := fun s => (S147 s.2.1 s.2.2)) (g := fun s => chargenetref18_network_l238 F a0_p t30_173 (fun t30_173 o4_174 => chargenetref18_network_l211 F a0_p a1_energy n_211 t30_173 o4_174) s.1 s.2.1 s.2.2 = some r) (μ := fun s => s.1) (F, (0, o4_174 ++ ([SArc.mk 0 (IntKind.wrap .i64 (2 + t30_173)) (a1_energy.getD t30_173.toNat 0)]))) h ?_)
     rintro ⟨n_238, ⟨t50_227, o4_228⟩⟩ h
     try dsimp only at h
     show SCode _ _ _ (S147 t50_227 o4_228) _
     cases n_238 with
     | zero => cases h
     | succ n_238 =>
      rw [chargenetref18_network_l238] at h
      unfold chargenetref18_network_b238 at h
      refine SCode.seq (SCode.region (sq rfl rfl (q_lss rfl rfl rfl) (SOps.nil (SCode.seq ?_))))
      rcases cond_out h with ⟨g239, h⟩ | ⟨g239, h⟩
      ·refine SCode.cond_t rfl g239 (SCode.skip ?_)
       let S146 := fun (o4_240 : List SArc) => (⟨[(1, .c (vI a1_energy)), (2, .c (.ptr 0 0)), (4, .c (.ptr 1 0)), (5, .c (.ptr 3 0)), (6, ci t30_173), (7, .c (.ptr 5 0)), (28, .c (vSDemand a0_p.Demands)), (29, ci (((a0_p.Demands).length : Int))), (30, ci t30_173), (49, ci (((a0_p.Caps).length : Int))), (50, ci t50_227)], [.box (bSProblem a0_p), .box [.int .i64 0, .own 2 (([] : List SArc)).length], aSArc 63 (([] : List SArc)), .box [.int .i64 (IntKind.wrap .i64 (IntKind.wrap .i64 (2 + ((a0_p.Demands).length : Int)) + IntKind.wrap .i64 (((a0_p.Caps).length : Int) * ((a0_p.Parents).length : Int)))), .own 4 o4_240.length], aSArc 63 o4_240, .box (bSDemand (a0_p.Demands.getD t30_173.toNat dSDemand))]⟩ : St)
       refine SCode.join (σ := (List SArc)) (S := fun s => (S146 s)) (g := fun s => chargenetref18_network_p241 t50_227 (fun t50_227 o4_228 => chargenetref18_network_l238 F a0_p t30_173 (fun t30_173 o4_174 => chargenetref18_network_l211 F a0_p a1_energy n_211 t30_173 o4_174) n_238 t50_227 o4_228) s = some r) ?_ ?_
       rotate_left
       ·refine SCode.block (SCode.seq (SCode.region (sm rfl rfl (sa rfl rfl (SOps.nil (SCode.seq ?_))))))
        obtain ⟨c_242, g243, h⟩ := bind_out h
        try dsimp only at h
        refine SCode.region (sq rfl rfl (q_load_ptr_all rfl rfl rfl rfl rfl ty26) (sq rfl rfl (q_load_ptr_all rfl rfl rfl rfl rfl ty39) (sm rfl rfl (sq rfl rfl (q_call (chargenetref18_Usable_ok F a0_p (a0_p.Demands.getD t30_173.toNat dSDemand) t50_227 c_242 g243) [] rfl fn38 ⟨⟨rfl, rfl⟩, ⟨rfl, rfl⟩, ⟨_, rfl, .inl ⟨rfl, rfl⟩⟩, trivial⟩ (.inl rfl)) (SOps.nil ?_)))))
        rcases cond_out h with ⟨g244, h⟩ | ⟨g244, h⟩
        ·refine SCode.cond_t rfl g244 (SCode.sub (st' := ⟨[(1, .c (vI a1_energy)), (2, .c (.ptr 0 0)), (4, .c (.ptr 1 0)), (5, .c (.ptr 3 0)), (6, ci t30_173), (7, .c (.ptr 5 0)), (8, ci t50_227), (28, .c (vSDemand a0_p.Demands)), (29, ci (((a0_p.Demands).length : Int))), (30, ci t30_173), (49, ci (((a0_p.Caps).length : Int))), (50, ci t50_227)], [.box (bSProblem a0_p), .box [.int .i64 0, .own 2 (([] : List SArc)).length], aSArc 63 (([] : List SArc)), .box [.int .i64 (IntKind.wrap .i64 (IntKind.wrap .i64 (2 + ((a0_p.Demands).length : Int)) + IntKind.wrap .i64 (((a0_p.Caps).length : Int) * ((a0_p.Parents).length : Int)))), .own 4 o4_228.length], aSArc 63 o4_228, .box (bSDemand (a0_p.Demands.getD t30_173.toNat dSDemand))]⟩) (sub_gen [0, 1, 2, 3, 4, 5] rfl rfl (zall rfl rfl) ⟨bx rfl rfl rfl, bx rfl rfl rfl, oa rfl, bx rfl rfl rfl, oa rfl, bx rfl rfl rfl, trivial⟩) ?_)
         obtain ⟨c_245, g246, h⟩ := bind_out h
         try dsimp only at h
         obtain ⟨g247, h⟩ := guard_out h
         refine SCode.drawK mixed [[], [0], [], [2], [], [], [], [6], [4, 5, 6, 7], [], [9], [], [11], [9, 10, 11, 12], [2, 3, 4, 5, 6, 7, 8, 9, 10, 11, 12, 13], [2, 3, 4, 5, 6, 7, 8, 9, 10, 11, 12, 13, 14], [0, 1, 2, 3, 4, 5, 6, 7, 8, 9, 10, 11, 12, 13, 14, 15], [0, 1, 2, 3, 4, 5, 6, 7, 8, 9, 10, 11, 12, 13, 14, 15, 16], [0, 1, 2, 3, 4, 5, 6, 7, 8, 9, 10, 11, 12, 13, 14, 15, 16, 17]] 16 3 rfl rfl (qr rfl rfl (q_field_ptr rfl rfl fd49_1) (qr rfl rfl (q_load_ptr rfl rfl rfl rfl ty47) (qm rfl rfl (qr rfl rfl (q_add rfl rfl rfl) (qr rfl rfl (q_load_ptr_all rfl rfl rfl rfl rfl ty26) (qm rfl rfl (qr rfl rfl (q_field_ptr rfl rfl fd39_0) (qr rfl rfl (q_load_ptr rfl rfl rfl rfl ty3) (qr rfl rfl (q_call (chargenetref18_node_ok F a0_p t50_227 ((a0_p.Demands.getD t30_173.toNat dSDemand).Feeder) c_245 g246) [] rfl fn56 ⟨⟨rfl, rfl⟩, ⟨_, rfl, .inl ⟨rfl, rfl⟩⟩, ⟨_, rfl, .inl ⟨rfl, rfl⟩⟩, trivial⟩ (.inl rfl)) (qr rfl rfl (q_field_ptr rfl rfl fd39_1) (qr rfl rfl (q_load_ptr rfl rfl rfl rfl ty3) (qr rfl rfl (q_field_ptr rfl rfl fd26_3) (qr rfl rfl (q_load_ptr rfl rfl rfl rfl ty3) (qr rfl rfl (q_mul rfl rfl rfl) (qr rfl rfl (q_build2 rfl rfl pl63 rfl) ?_)))))))))))))))
         refine qr rfl rfl (q_bsliceL (c := cSArc) (d0 := dSArc) [SArc.mk (IntKind.wrap .i64 (2 + t30_173)) c_245 (IntKind.wrap .i64 ((a0_p.Demands.getD t30_173.toNat dSDemand).Max * a0_p.Length))] rfl rfl sl47 z63 rfl rfl rfl rfl rfl rfl rfl) (QK.nil (se rfl rfl (e_appendL (c := cSArc) (d0 := dSArc) (l := o4_228) (l2 := [SArc.mk (IntKind.wrap .i64 (2 + t30_173)) c_245 (IntKind.wrap .i64 ((a0_p.Demands.getD t30_173.toNat dSDemand).Max * a0_p.Length))]) rfl rfl rfl rfl rfl rfl (.inl rfl) sl47 z63 rfl rfl oneSArc g247.1 g247.2) (sq rfl rfl (q_field_ptr rfl rfl fd49_1) (se rfl rfl (e_store_box rfl rfl rfl rfl rfl ty47 rfl rfl rfl rfl) ?_))))
         let y2 := o4_228 ++ ([SArc.mk (IntKind.wrap .i64 (2 + t30_173)) c_245 (IntKind.wrap .i64 ((a0_p.Demands.getD t30_173.toNat dSDemand).Max * a0_p.Length))])
         refine SOps.sub (st' := ⟨[(1, .c (vI a1_energy)), (2, .c (.ptr 0 0)), (4, .c (.ptr 1 0)), (5, .c (.ptr 3 0)), (6, ci t30_173), (7, .c (.ptr 5 0)), (28, .c (vSDemand a0_p.Demands)), (29, ci (((a0_p.Demands).length : Int))), (30, ci t30_173), (49, ci (((a0_p.Caps).length : Int))), (50, ci t50_227)], [.box (bSProblem a0_p), .box [.int .i64 0, .own 2 (([] : List SArc)).length], aSArc 63 (([] : List SArc)), .box [.int .i64 (IntKind.wrap .i64 (IntKind.wrap .i64 (2 + ((a0_p.Demands).length : Int)) + IntKind.wrap .i64 (((a0_p.Caps).length : Int) * ((a0_p.Parents).length : Int)))), .own 4 y2.length], aSArc 63 y2, .box (bSDemand (a0_p.Demands.getD t30_173.toNat dSDemand))]⟩) (sub_gen [0, 1, 2, 3, 6, 5] rfl rfl (zall rfl rfl) ⟨bx rfl rfl rfl, bx rfl rfl rfl, oa rfl, bx rfl rfl rfl, oa rfl, bx rfl rfl rfl, trivial⟩) (SOps.nil ?_)
         exact ⟨o4_228 ++ ([SArc.mk (IntKind.wrap .i64 (2 + t30_173)) c_245 (IntKind.wrap .i64 ((a0_p.Demands.getD t30_173.toNat dSDemand).Max * a0_p.Length))]), h, sub_gen [0, 1, 2, 3, 4, 5] rfl rfl (zall rfl rfl) ⟨bx rfl rfl rfl, bx rfl rfl rfl, oa rfl, bx rfl rfl rfl, oa rfl, bx rfl rfl rfl, trivial⟩⟩
        refine SCode.cond_f rfl g244 (SCode.skip ?_)
        exact ⟨o4_228, h, sub_gen [0, 1, 2, 3, 4, 5] rfl rfl (zall rfl rfl) ⟨bx rfl rfl rfl, bx rfl rfl rfl, oa rfl, bx rfl rfl rfl, oa rfl, bx rfl rfl rfl, trivial⟩⟩
       rintro o4_240 h
       show SCode _ _ _ (S146 o4_240) _
       try dsimp only at h
       unfold chargenetref18_network_p241 at h
       refine SCode.region (sq rfl rfl (q_add rfl rfl rfl) (sm rfl rfl (SOps.nil ?_)))
       exact ⟨(n_238, (IntKind.wrap .i64 (t50_227 + 1), o4_240)), h, Nat.lt_succ_self n_238, sub_gen [0, 1, 2, 3, 4, 5] rfl rfl (zall rfl rfl) ⟨bx rfl rfl rfl, bx rfl rfl rfl, oa rfl, bx rfl rfl rfl, oa rfl, bx rfl rfl rfl, trivial⟩⟩
      refine SCode.cond_f rfl g239 (SCode.exit ?_)
      exact ⟨o4_228, h, sub_gen [0, 1, 2, 3, 4] rfl rfl (zall rfl rfl) ⟨bx rfl rfl rfl, bx rfl rfl rfl, oa rfl, bx rfl rfl rfl, oa rfl, trivial⟩⟩
    rintro o4_213 h
    show SCode _ _ _ (S148 o4_213) _
    try dsimp only at h
    unfold chargenetref18_network_p214 at h
    refine SCode.region (sq rfl rfl (q_add rfl rfl rfl) (sm rfl rfl (SOps.nil ?_)))
    exact ⟨(n_211, (IntKind.wrap .i64 (t30_173 + 1), o4_213)), h, Nat.lt_succ_self n_211, sub_gen [0, 1, 2, 3, 4] rfl rfl (zall rfl rfl) ⟨bx rfl rfl rfl, bx rfl rfl rfl, oa rfl, bx rfl rfl rfl, oa rfl, trivial⟩⟩
   refine SCode.cond_f rfl g212 (SCode.exit ?_)
   exact ⟨o4_174, h, sub_gen [0, 1, 2, 3, 4] rfl rfl (zall rfl rfl) ⟨bx rfl rfl rfl, bx rfl rfl rfl, oa rfl, bx rfl rfl rfl, oa rfl, trivial⟩⟩
 rintro o4_1 h
 show SCode _ _ _ (S150 o4_1) _
 try dsimp only at h
 unfold chargenetref18_network_p136 at h
 let S121 := fun (o3_2 : List SArc) => (⟨[(4, .c (.ptr 0 0)), (5, .c (.ptr 2 0))], [.box [.int .i64 0, .own 1 (([] : List SArc)).length], aSArc 63 (([] : List SArc)), .box [.int .i64 (IntKind.wrap .i64 (IntKind.wrap .i64 (2 + ((a0_p.Demands).length : Int)) + IntKind.wrap .i64 (((a0_p.Caps).length : Int) * ((a0_p.Parents).length : Int)))), .own 3 o3_2.length], aSArc 63 o3_2]⟩ : St)
 refine SCode.join (σ := (List SArc)) (S := fun s => (S121 s)) (g := fun s => chargenetref18_network_p3 a0_p s = some r) ?_ ?_
 rotate_left
 ·refine SCode.seq (SCode.region (sq rfl rfl (q_field_ptr rfl rfl fd26_1) (sq rfl rfl (q_load_ptr rfl rfl rfl rfl ty23) (sq rfl rfl (q_len_vec rfl rfl sl23) (sm rfl rfl (SOps.nil (SCode.block ?_)))))))
  let S120 := fun (t80_47 : Int) => fun (o4_48 : List SArc) => (⟨[(2, .c (.ptr 0 0)), (4, .c (.ptr 1 0)), (5, .c (.ptr 3 0)), (78, .c (vR a0_p.Caps)), (79, ci (((a0_p.Caps).length : Int))), (80, ci t80_47)], [.box (bSProblem a0_p), .box [.int .i64 0, .own 2 (([] : List SArc)).length], aSArc 63 (([] : List SArc)), .box [.int .i64 (IntKind.wrap .i64 (IntKind.wrap .i64 (2 + ((a0_p.Demands).length : Int)) + IntKind.wrap .i64 (((a0_p.Caps).length : Int) * ((a0_p.Parents).length : Int)))), .own 4 o4_48.length], aSArc 63 o4_48]⟩ : St)
  refine SCode.sub (st' := (S120 0 o4_1)) (sub_gen [0, 1, 2, 3, 4] rfl rfl (zall rfl rfl) ⟨bx rfl rfl rfl, bx rfl rfl rfl, oa rfl, bx rfl rfl rfl, oa rfl, trivial⟩) ?_
  refine (SCode.loop (σ := Nat × (Int × (List SArc))) (S := fun s => (S120 s.2.1 s.2.2)) (g := fun s => chargenetref18_network_l92 F a0_p s.1 s.2.1 s.2.2 = some r) (μ := fun s => s.1) (F, (0, o4_1)) h ?_)
  rintro ⟨n_92, ⟨t80_47, o4_48⟩⟩ h
  try dsimp only at h
  show SCode _ _ _ (S120 t80_47 o4_48) _
  cases n_92 with
  | zero => cases h
  | succ n_92 =>
   rw [chargenetref18_network_l92] at h
   unfold chargenetref18_network_b92 at h
   refine SCode.seq (SCode.region (sq rfl rfl (q_lss rfl rfl rfl) (SOps.nil (SCode.seq ?_))))
   rcases cond_out h with ⟨g93, h⟩ | ⟨g93, h⟩
   ·refine SCode.cond_t rfl g93 (SCode.skip ?_)
    let S119 := fun (o4_94 : List SArc) => (⟨[(2, .c (.ptr 0 0)), (4, .c (.ptr 1 0)), (5, .c (.ptr 3 0)), (78, .c (vR a0_p.Caps)), (79, ci (((a0_p.Caps).length : Int))), (80, ci t80_47)], [.box (bSProblem a0_p), .box [.int .i64 0, .own 2 (([] : List SArc)).length], aSArc 63 (([] : List SArc)), .box [.int .i64 (IntKind.wrap .i64 (IntKind.wrap .i64 (2 + ((a0_p.Demands).length : Int)) + IntKind.wrap .i64 (((a0_p.Caps).length : Int) * ((a0_p.Parents).length : Int)))), .own 4 o4_94.length], aSArc 63 o4_94]⟩ : St)
    refine SCode.join (σ := (List SArc)) (S := fun s => (S119 s)) (g := fun s => chargenetref18_network_p95 t80_47 (fun t80_47 o4_48 => chargenetref18_network_l92 F a0_p n_92 t80_47 o4_48) s = some r) ?_ ?_
    rotate_left
    ·refine SCode.block (SCode.seq ?_)
     obtain ⟨g96, h⟩ := guard_out h
     refine SCode.region (sm rfl rfl (sq rfl rfl (q_index_vec rfl rfl rfl sl23 rfl g96.1 g96.2) (sq rfl rfl (q_load_eptr rfl rfl ty22) (sa rfl rfl (sa rfl rfl (SOps.nil (SCode.seq (SCode.region (sm rfl rfl (sq rfl rfl (q_len_vec rfl rfl sl22) (sm rfl rfl (SOps.nil (SCode.block ?_)))))))))))))
     let S118 := fun (t87_109 : Int) => fun (o4_110 : List SArc) => (⟨[(2, .c (.ptr 0 0)), (4, .c (.ptr 1 0)), (5, .c (.ptr 3 0)), (9, ci t80_47), (78, .c (vR a0_p.Caps)), (79, ci (((a0_p.Caps).length : Int))), (80, ci t80_47), (85, .c (vI (a0_p.Caps.getD t80_47.toNat ([])))), (86, ci (((a0_p.Caps.getD t80_47.toNat ([])).length : Int))), (87, ci t87_109)], [.box (bSProblem a0_p), .box [.int .i64 0, .own 2 (([] : List SArc)).length], aSArc 63 (([] : List SArc)), .box [.int .i64 (IntKind.wrap .i64 (IntKind.wrap .i64 (2 + ((a0_p.Demands).length : Int)) + IntKind.wrap .i64 (((a0_p.Caps).length : Int) * ((a0_p.Parents).length : Int)))), .own 4 o4_110.length], aSArc 63 o4_110]⟩ : St)
     refine SCode.sub (st' := (S118 0 o4_48)) (sub_gen [0, 1, 2, 3, 4] rfl rfl (zall rfl rfl) ⟨bx rfl rfl rfl, bx rfl rfl rfl, oa rfl, bx rfl rfl rfl, oa rfl, trivial⟩) ?_
     refine (SCode.loop (σ := Nat × (Int × (List SArc))) (S := fun s => (S118 s.2.1 s.2.2)) (g := fun s => chargenetref18_network_l123 F a0_p t80_47 (fun t80_47 o4_48 => chargenetref18_network_l92 F a0_p n_92 t80_47 o4_48) s.1 s.2.1 s.2.2 = some r) (μ := fun s => s.1) (F, (0, o4_48)) h ?_)
     rintro ⟨n_123, ⟨t87_109, o4_110⟩⟩ h
     try dsimp only at h
     show SCode _ _ _ (S118 t87_109 o4_110) _
     cases n_123 with
     | zero => cases h
     | succ n_123 =>
      rw [chargenetref18_network_l123] at h
      unfold chargenetref18_network_b123 at h
      refine SCode.seq (SCode.region (sq rfl rfl (q_lss rfl rfl rfl) (SOps.nil (SCode.seq ?_))))
      rcases cond_out h with ⟨g124, h⟩ | ⟨g124, h⟩
      ·refine SCode.cond_t rfl g124 (SCode.skip (SCode.seq (SCode.block (SCode.seq ?_))))
       obtain ⟨g125, h⟩ := guard_out h
       refine SCode.region (sm rfl rfl (sq rfl rfl (q_index_vec rfl rfl rfl sl22 rfl g125.1 g125.2) (sq rfl rfl (q_load_eptr rfl rfl ty3) (sa rfl rfl (sa rfl rfl (SOps.nil (SCode.seq (SCode.region (sa rfl rfl (SOps.nil ?_))))))))))
       let S117 := fun (to_126 : Int) => (⟨[(2, .c (.ptr 0 0)), (4, .c (.ptr 1 0)), (5, .c (.ptr 3 0)), (9, ci t80_47), (11, ci t87_109), (12, ci ((a0_p.Caps.getD t80_47.toNat ([])).getD t87_109.toNat 0)), (13, ci to_126), (78, .c (vR a0_p.Caps)), (79, ci (((a0_p.Caps).length : Int))), (80, ci t80_47), (85, .c (vI (a0_p.Caps.getD t80_47.toNat ([])))), (86, ci (((a0_p.Caps.getD t80_47.toNat ([])).length : Int))), (87, ci t87_109)], [.box (bSProblem a0_p), .box [.int .i64 0, .own 2 (([] : List SArc)).length], aSArc 63 (([] : List SArc)), .box [.int .i64 (IntKind.wrap .i64 (IntKind.wrap .i64 (2 + ((a0_p.Demands).length : Int)) + IntKind.wrap .i64 (((a0_p.Caps).length : Int) * ((a0_p.Parents).length : Int)))), .own 4 o4_110.length], aSArc 63 o4_110]⟩ : St)
       refine SCode.join (σ := Int) (S := fun s => (S117 s)) (g := fun s => chargenetref18_network_p130 F a0_p t80_47 t87_109 o4_110 (fun t87_109 o4_110 => chargenetref18_network_l123 F a0_p t80_47 (fun t80_47 o4_48 => chargenetref18_network_l92 F a0_p n_92 t80_47 o4_48) n_123 t87_109 o4_110) s = some r) ?_ ?_
       rotate_left
       ·refine SCode.seq ?_
        obtain ⟨g131, h⟩ := guard_out h
        refine SCode.region (sq rfl rfl (q_field_ptr rfl rfl fd26_0) (sq rfl rfl (q_load_ptr rfl rfl rfl rfl ty22) (sm rfl rfl (sq rfl rfl (q_index_vec rfl rfl rfl sl22 rfl g131.1 g131.2) (sq rfl rfl (q_load_eptr rfl rfl ty3) (sq rfl rfl (q_geq rfl rfl rfl) (SOps.nil ?_)))))))
        rcases cond_out h with ⟨g132, h⟩ | ⟨g132, h⟩
        ·refine SCode.cond_t rfl g132 (SCode.sub (st' := ⟨[(2, .c (.ptr 0 0)), (4, .c (.ptr 1 0)), (5, .c (.ptr 3 0)), (9, ci t80_47), (11, ci t87_109), (12, ci ((a0_p.Caps.getD t80_47.toNat ([])).getD t87_109.toNat 0)), (78, .c (vR a0_p.Caps)), (79, ci (((a0_p.Caps).length : Int))), (80, ci t80_47), (85, .c (vI (a0_p.Caps.getD t80_47.toNat ([])))), (86, ci (((a0_p.Caps.getD t80_47.toNat ([])).length : Int))), (87, ci t87_109)], [.box (bSProblem a0_p), .box [.int .i64 0, .own 2 (([] : List SArc)).length], aSArc 63 (([] : List SArc)), .box [.int .i64 (IntKind.wrap .i64 (IntKind.wrap .i64 (2 + ((a0_p.Demands).length : Int)) + IntKind.wrap .i64 (((a0_p.Caps).length : Int) * ((a0_p.Parents).length : Int)))), .own 4 o4_110.length], aSArc 63 o4_110]⟩) (sub_gen [0, 1, 2, 3, 4] rfl rfl (zall rfl rfl) ⟨bx rfl rfl rfl, bx rfl rfl rfl, oa rfl, bx rfl rfl rfl, oa rfl, trivial⟩) ?_)
         obtain ⟨g133, h⟩ := guard_out h
         obtain ⟨c_134, g135, h⟩ := bind_out h
         try dsimp only at h
         refine SCode.drawK mixed [[], [], [], [2], [], [2, 3, 4], [2, 3, 4, 5], [0, 1, 2, 3, 4, 5, 6], [0, 1, 2, 3, 4, 5, 6, 7]] 9 0 rfl rfl (qr rfl rfl (q_load_ptr_all rfl rfl rfl rfl rfl ty26) (qm rfl rfl (qr rfl rfl (q_field_ptr rfl rfl fd26_0) (qr rfl rfl (q_load_ptr rfl rfl rfl rfl ty22) (qm rfl rfl (qr rfl rfl (q_index_vec rfl rfl rfl sl22 rfl g133.1 g133.2) (qr rfl rfl (q_load_eptr rfl rfl ty3) (qr rfl rfl (q_call (chargenetref18_node_ok F a0_p t80_47 (a0_p.Parents.getD t87_109.toNat 0) c_134 g135) [] rfl fn56 ⟨⟨rfl, rfl⟩, ⟨_, rfl, .inl ⟨rfl, rfl⟩⟩, ⟨_, rfl, .inl ⟨rfl, rfl⟩⟩, trivial⟩ (.inl rfl)) (qr rfl rfl (q_assign rfl rfl) (QK.nil (SOps.sub (st' := ⟨[(2, .c (.ptr 0 0)), (4, .c (.ptr 1 0)), (5, .c (.ptr 3 0)), (9, ci t80_47), (11, ci t87_109), (12, ci ((a0_p.Caps.getD t80_47.toNat ([])).getD t87_109.toNat 0)), (13, ci c_134), (78, .c (vR a0_p.Caps)), (79, ci (((a0_p.Caps).length : Int))), (80, ci t80_47), (85, .c (vI (a0_p.Caps.getD t80_47.toNat ([])))), (86, ci (((a0_p.Caps.getD t80_47.toNat ([])).length : Int))), (87, ci t87_109)], [.box (bSProblem a0_p), .box [.int .i64 0, .own 2 (([] : List SArc)).length], aSArc 63 (([] : List SArc)), .box [.int .i64 (IntKind.wrap .i64 (IntKind.wrap .i64 (2 + ((a0_p.Demands).length : Int)) + IntKind.wrap .i64 (((a0_p.Caps).length : Int) * ((a0_p.Parents).length : Int)))), .own 4 o4_110.length], aSArc 63 o4_110]⟩) (sub_gen [0, 1, 2, 3, 4] rfl rfl (zall rfl rfl) ⟨bx rfl rfl rfl, bx rfl rfl rfl, oa rfl, bx rfl rfl rfl, oa rfl, trivial⟩) (SOps.nil ?_))))))))))))
         exact ⟨c_134, h, sub_gen [0, 1, 2, 3, 4] rfl rfl (zall rfl rfl) ⟨bx rfl rfl rfl, bx rfl rfl rfl, oa rfl, bx rfl rfl rfl, oa rfl, trivial⟩⟩
        refine SCode.cond_f rfl g132 (SCode.skip ?_)
        exact ⟨1, h, sub_gen [0, 1, 2, 3, 4] rfl rfl (zall rfl rfl) ⟨bx rfl rfl rfl, bx rfl rfl rfl, oa rfl, bx rfl rfl rfl, oa rfl, trivial⟩⟩
       rintro to_126 h
       show SCode _ _ _ (S117 to_126) _
       try dsimp only at h
       unfold chargenetref18_network_p130 at h
       obtain ⟨c_127, g128, h⟩ := bind_out h
       try dsimp only at h
       obtain ⟨g129, h⟩ := guard_out h
       refine SCode.drawK mixed [[], [0], [], [], [], [2, 3, 4], [], [], [], [8], [7, 8, 9], [7, 8, 9, 10], [2, 3, 4, 5, 6, 7, 8, 9, 10, 11], [2, 3, 4, 5, 6, 7, 8, 9, 10, 11, 12], [0, 1, 2, 3, 4, 5, 6, 7, 8, 9, 10, 11, 12, 13], [0, 1, 2, 3, 4, 5, 6, 7, 8, 9, 10, 11, 12, 13, 14], [0, 1, 2, 3, 4, 5, 6, 7, 8, 9, 10, 11, 12, 13, 14, 15]] 14 3 rfl rfl (qr rfl rfl (q_field_ptr rfl rfl fd49_1) (qr rfl rfl (q_load_ptr rfl rfl rfl rfl ty47) (qr rfl rfl (q_load_ptr_all rfl rfl rfl rfl rfl ty26) (qm rfl rfl (qm rfl rfl (qr rfl rfl (q_call (chargenetref18_node_ok F a0_p t80_47 t87_109 c_127 g128) [] rfl fn56 ⟨⟨rfl, rfl⟩, ⟨_, rfl, .inl ⟨rfl, rfl⟩⟩, ⟨_, rfl, .inl ⟨rfl, rfl⟩⟩, trivial⟩ (.inl rfl)) (qm rfl rfl (qm rfl rfl (qr rfl rfl (q_field_ptr rfl rfl fd26_3) (qr rfl rfl (q_load_ptr rfl rfl rfl rfl ty3) (qr rfl rfl (q_mul rfl rfl rfl) (qr rfl rfl (q_min rfl rfl rfl) (qr rfl rfl (q_build2 rfl rfl pl63 rfl) (qr rfl rfl (q_bsliceL (c := cSArc) (d0 := dSArc) [SArc.mk c_127 to_126 ((if 1099511627776 < IntKind.wrap .i64 ((a0_p.Caps.getD t80_47.toNat ([])).getD t87_109.toNat 0 * a0_p.Length) then 1099511627776 else IntKind.wrap .i64 ((a0_p.Caps.getD t80_47.toNat ([])).getD t87_109.toNat 0 * a0_p.Length)))] rfl rfl sl47 z63 rfl rfl rfl rfl rfl rfl rfl) (QK.nil ?_)))))))))))))))
       refine se rfl rfl (e_appendL (c := cSArc) (d0 := dSArc) (l := o4_110) (l2 := [SArc.mk c_127 to_126 ((if 1099511627776 < IntKind.wrap .i64 ((a0_p.Caps.getD t80_47.toNat ([])).getD t87_109.toNat 0 * a0_p.Length) then 1099511627776 else IntKind.wrap .i64 ((a0_p.Caps.getD t80_47.toNat ([])).getD t87_109.toNat 0 * a0_p.Length)))]) rfl rfl rfl rfl rfl rfl (.inl rfl) sl47 z63 rfl rfl oneSArc g129.1 g129.2) (sq rfl rfl (q_field_ptr rfl rfl fd49_1) (se rfl rfl (e_store_box rfl rfl rfl rfl rfl ty47 rfl rfl rfl rfl) ?_))
       let y3 := (a0_p.Caps.getD t80_47.toNat ([])).getD t87_109.toNat 0 * a0_p.Length
       refine SOps.sub (st' := ⟨[(2, .c (.ptr 0 0)), (4, .c (.ptr 1 0)), (5, .c (.ptr 3 0)), (9, ci t80_47), (78, .c (vR a0_p.Caps)), (79, ci (((a0_p.Caps).length : Int))), (80, ci t80_47), (85, .c (vI (a0_p.Caps.getD t80_47.toNat ([])))), (86, ci (((a0_p.Caps.getD t80_47.toNat ([])).length : Int))), (87, ci t87_109)], [.box (bSProblem a0_p), .box [.int .i64 0, .own 2 (([] : List SArc)).length], aSArc 63 (([] : List SArc)), .box [.int .i64 (IntKind.wrap .i64 (IntKind.wrap .i64 (2 + ((a0_p.Demands).length : Int)) + IntKind.wrap .i64 (((a0_p.Caps).length : Int) * ((a0_p.Parents).length : Int)))), .own 4 (o4_110 ++ ([SArc.mk c_127 to_126 ((if 1099511627776 < IntKind.wrap .i64 y3 then 1099511627776 else IntKind.wrap .i64 y3))])).length], aSArc 63 (o4_110 ++ ([SArc.mk c_127 to_126 ((if 1099511627776 < IntKind.wrap .i64 y3 then 1099511627776 else IntKind.wrap .i64 y3))]))]⟩) (sub_gen [0, 1, 2, 3, 5] rfl rfl (zall rfl rfl) ⟨bx rfl rfl rfl, bx rfl rfl rfl, oa rfl, bx rfl rfl rfl, oa rfl, trivial⟩) (SOps.nil (SCode.region (sq rfl rfl (q_add rfl rfl rfl) (sm rfl rfl (SOps.nil ?_)))))
       exact ⟨(n_123, (IntKind.wrap .i64 (t87_109 + 1), o4_110 ++ ([SArc.mk c_127 to_126 ((if 1099511627776 < IntKind.wrap .i64 ((a0_p.Caps.getD t80_47.toNat ([])).getD t87_109.toNat 0 * a0_p.Length) then 1099511627776 else IntKind.wrap .i64 ((a0_p.Caps.getD t80_47.toNat ([])).getD t87_109.toNat 0 * a0_p.Length)))]))), h, Nat.lt_succ_self n_123, sub_gen [0, 1, 2, 3, 4] rfl rfl (zall rfl rfl) ⟨bx rfl rfl rfl, bx rfl rfl rfl, oa rfl, bx rfl rfl rfl, oa rfl, trivial⟩⟩
      refine SCode.cond_f rfl g124 (SCode.exit ?_)
      exact ⟨o4_110, h, sub_gen [0, 1, 2, 3, 4] rfl rfl (zall rfl rfl) ⟨bx rfl rfl rfl, bx rfl rfl rfl, oa rfl, bx rfl rfl rfl, oa rfl, trivial⟩⟩
    rintro o4_94 h
    show SCode _ _ _ (S119 o4_94) _
    try dsimp only at h
    unfold chargenetref18_network_p95 at h
    refine SCode.region (sq rfl rfl (q_add rfl rfl rfl) (sm rfl rfl (SOps.nil ?_)))
    exact ⟨(n_92, (IntKind.wrap .i64 (t80_47 + 1), o4_94)), h, Nat.lt_succ_self n_92, sub_gen [0, 1, 2, 3, 4] rfl rfl (zall rfl rfl) ⟨bx rfl rfl rfl, bx rfl rfl rfl, oa rfl, bx rfl rfl rfl, oa rfl, trivial⟩⟩
   refine SCode.cond_f rfl g93 (SCode.exit ?_)
   exact ⟨o4_48, h, sub_gen [1, 2, 3, 4] rfl rfl (zall rfl rfl) ⟨bx rfl rfl rfl, oa rfl, bx rfl rfl rfl, oa rfl, trivial⟩⟩
 rintro o3_2 h
 show SCode _ _ _ (S121 o3_2) _
 try dsimp only at h
 unfold chargenetref18_network_p3 at h
 refine SCode.seq (SCode.region (sq rfl rfl (q_load_ptr_all rfl rfl rfl rfl rfl ty49) (se rfl rfl (e_store_box rfl rfl rfl rfl rfl ty49 rfl rfl rfl rfl) (SOps.nil (SCode.ret ?_)))))
 obtain rfl := Option.some.inj h
 let y4 := IntKind.wrap .i64 (IntKind.wrap .i64 (2 + ((a0_p.Demands).length : Int)) + IntKind.wrap .i64 (((a0_p.Caps).length : Int) * ((a0_p.Parents).length : Int)))
 exact ⟨⟨[(4, .c (.ptr 0 0))], [.box [.int .i64 y4, vSArc ((SNet.mk y4 o3_2).Arcs)]]⟩, _, sub_gen [0] rfl rfl (zall rfl rfl) ⟨⟨_, rfl, ⟨ii rfl rfl, .inr (.inl ⟨_, _, _, _, _, _, _, rfl, rfl, rfl, Nat.le_refl _, fun _ _ _ _ => rfl, nm rfl⟩), trivial⟩⟩, trivial⟩, resA1 (v := .a [.int .i64 y4, vSArc ((SNet.mk y4 o3_2).Arcs)]) rfl ⟨_, rfl, rfl, ty49⟩, rfl⟩
theorem chargenetref18_flows_ok (F : Nat) (a0_p : SProblem) (a1_energy : List Int) (r : Int × (List Int)) (h : chargenetref18_flows F a0_p a1_energy = some r) :
  SFun Try.prog 37 [] [.a (bSProblem a0_p), .c (vI a1_energy)] (fun x _ => x = .t [.c (.int .i64 r.1), .c (vI r.2)]) := by
 refine SFun.of (n := 19) Try.func37 rfl rfl rfl ?_
 unfold chargenetref18_flows at h
 show SCode _ _ _ ⟨[(0, .a (bSProblem a0_p)), (1, .c (vI a1_energy))], []⟩ _
 refine SCode.seq (SCode.region (se rfl rfl (e_box rfl rfl rfl rfl rfl rfl) (sa rfl rfl (sa rfl rfl (SOps.nil (SCode.seq ?_))))))
 obtain ⟨c_1, g2, h⟩ := bind_out h
 try dsimp only at h
 obtain ⟨c_3, g4, h⟩ := bind_out h
 try dsimp only at h
 refine SCode.region (sq rfl rfl (q_load_ptr_all rfl rfl rfl rfl rfl ty26) (sm rfl rfl (sq rfl rfl (q_call (chargenetref18_network_ok F a0_p a1_energy c_1 g2) [] rfl fn46 ⟨⟨rfl, rfl⟩, ⟨_, rfl, .inl ⟨rfl, rfl⟩⟩, trivial⟩ (.inl rfl)) (sq rfl rfl (q_call (chargenetref09_Max_ok F (SNet.mk c_1.Nodes c_1.Arcs) 0 1 c_3 g4) [] rfl fn45 ⟨⟨rfl, rfl⟩, ⟨_, rfl, .inl ⟨rfl, rfl⟩⟩, ⟨_, rfl, .inl ⟨rfl, rfl⟩⟩, trivial⟩ (.inl rfl)) (sm rfl rfl (sq rfl rfl (q_extract rfl rfl rfl) (sq rfl rfl (q_extract rfl rfl rfl) (sq rfl rfl (q_extract rfl rfl rfl) (sa rfl rfl (sa rfl rfl (sa rfl rfl (SOps.nil (SCode.seq (SCode.region (sm rfl rfl ?_)))))))))))))))
 refine sm rfl rfl (sa rfl rfl (sa rfl rfl (SOps.sub (st' := ⟨[(4, ci c_3.1), (5, .c (vI c_3.2.1))], []⟩) (sub_gen [] rfl rfl (zall rfl rfl) trivial) (SOps.nil (SCode.ret ?_)))))
 obtain rfl := Option.some.inj h
 exact ⟨⟨[(4, ci c_3.1), (5, .c (vI c_3.2.1))], []⟩, _, sub_gen [] rfl rfl (zall rfl rfl) trivial, resA2 (v1 := .c (.int .i64 c_3.1)) (v2 := .c (vI c_3.2.1)) rfl rfl rfl, rfl⟩
end Go.Proofs.Ytfefnffdocmlmaa.W
