/- Written by a program of ours (wip/eng/gen.py): the functions compute their models. -/
import Derived.Test.YtfefnffdocmlmaaFacts
import Derived.Test.YtfefnffdocmlmaaV7x1
namespace Go.Proofs.Ytfefnffdocmlmaa.W
open Go Go.Proofs Go.Proofs.Ytfefnffdocmlmaa.E Go.Proofs.Ytfefnffdocmlmaa.M
set_option linter.unusedVariables false
set_option maxRecDepth 100000
set_option maxHeartbeats 8000000
theorem flow_graph_push_ok (F : Nat) : ∀ (a0_g_edges : List SEdge) (a0_g_out : List (List Int)) (a0_g_level : List Int) (a0_g_turn : List Int) (a1_u : Int) (a2_sink : Int) (a3_most : Int) (r : Int × (List SEdge) × (List Int)) (h : flow_graph_push F a0_g_edges a0_g_out a0_g_level a0_g_turn a1_u a2_sink a3_most = some r),
  SFun Try.prog 60 [.box [.own 1 a0_g_edges.length, vR a0_g_out, .own 2 a0_g_level.length, .own 3 a0_g_turn.length], aSEdge 75 a0_g_edges, aI 3 a0_g_level, aI 3 a0_g_turn] [.c (.ptr 0 0), ci a1_u, ci a2_sink, ci a3_most] (fun x os => x = ci r.1 ∧ os = [.box [.own 1 r.2.1.length, vR a0_g_out, .own 2 a0_g_level.length, .own 3 r.2.2.length], aSEdge 75 r.2.1, aI 3 a0_g_level, aI 3 r.2.2]) := by
 induction F with
 | zero => intro a0_g_edges a0_g_out a0_g_level a0_g_turn a1_u a2_sink a3_most r h; exact absurd (show (none : Option (Int × (List SEdge) × (List Int))) = some r from h) (by simp)
 | succ F ih =>
  intro a0_g_edges a0_g_out a0_g_level a0_g_turn a1_u a2_sink a3_most r h
  replace h : flow_graph_push_r F (fun a0_g_edges a0_g_out a0_g_level a0_g_turn a1_u a2_sink a3_most => flow_graph_push F a0_g_edges a0_g_out a0_g_level a0_g_turn a1_u a2_sink a3_most) a0_g_edges a0_g_out a0_g_level a0_g_turn a1_u a2_sink a3_most = some r := h
  obtain ⟨rec_, hrec_⟩ : ∃ g : (List SEdge) → (List (List Int)) → (List Int) → (List Int) → Int → Int → Int → Option (Int × (List SEdge) × (List Int)), g = fun a0_g_edges a0_g_out a0_g_level a0_g_turn a1_u a2_sink a3_most => flow_graph_push F a0_g_edges a0_g_out a0_g_level a0_g_turn a1_u a2_sink a3_most := ⟨_, rfl⟩
  rw [← hrec_] at h
  replace ih : ∀ (a0_g_edges : List SEdge) (a0_g_out : List (List Int)) (a0_g_level : List Int) (a0_g_turn : List Int) (a1_u : Int) (a2_sink : Int) (a3_most : Int) (r : Int × (List SEdge) × (List Int)) (h : rec_ a0_g_edges a0_g_out a0_g_level a0_g_turn a1_u a2_sink a3_most = some r), SFun Try.prog 60 [.box [.own 1 a0_g_edges.length, vR a0_g_out, .own 2 a0_g_level.length, .own 3 a0_g_turn.length], aSEdge 75 a0_g_edges, aI 3 a0_g_level, aI 3 a0_g_turn] [.c (.ptr 0 0), ci a1_u, ci a2_sink, ci a3_most] (fun x os => x = ci r.1 ∧ os = [.box [.own 1 r.2.1.length, vR a0_g_out, .own 2 a0_g_level.length, .own 3 r.2.2.length], aSEdge 75 r.2.1, aI 3 a0_g_level, aI 3 r.2.2]) := by subst hrec_; exact ih
  clear hrec_
  refine SFun.of (n := 134) Try.func60 rfl rfl rfl ?_
  unfold flow_graph_push_r at h
  show SCode _ _ _ ⟨[(0, .c (.ptr 0 0)), (1, ci a1_u), (2, ci a2_sink), (3, ci a3_most)], [.box [.own 1 a0_g_edges.length, vR a0_g_out, .own 2 a0_g_level.length, .own 3 a0_g_turn.length], aSEdge 75 a0_g_edges, aI 3 a0_g_level, aI 3 a0_g_turn]⟩ _
  refine SCode.seq (SCode.region (sa rfl rfl (SOps.nil (SCode.seq (SCode.seq (SCode.region (sm rfl rfl (sm rfl rfl (sq rfl rfl (q_eql rfl rfl rfl) (SOps.nil ?_))))))))))
  rcases cond_out h with ⟨g1, h⟩ | ⟨g1, h⟩
  ·refine SCode.cond_t rfl g1 (SCode.seq (SCode.region (sm rfl rfl (sa rfl rfl (SOps.nil (SCode.ret ?_))))))
   obtain rfl := Option.some.inj h
   exact ⟨⟨[(8, ci a3_most)], [.box [.own 1 a0_g_edges.length, vR a0_g_out, .own 2 a0_g_level.length, .own 3 a0_g_turn.length], aSEdge 75 a0_g_edges, aI 3 a0_g_level, aI 3 a0_g_turn]⟩, _, sub_gen [0, 1, 2, 3] rfl rfl (zall rfl rfl) ⟨bx rfl rfl rfl, oa rfl, oa rfl, oa rfl, trivial⟩, resA1 (v := .c (.int .i64 a3_most)) rfl rfl, ⟨rfl, rfl⟩⟩
  refine SCode.cond_f rfl g1 (SCode.skip ?_)
  let S9 := fun (o1_2 : List SEdge) => fun (o3_3 : List Int) => (⟨[], [.box [.own 1 o1_2.length, vR a0_g_out, .own 2 a0_g_level.length, .own 3 o3_3.length], aSEdge 75 o1_2, aI 3 a0_g_level, aI 3 o3_3]⟩ : St)
  refine SCode.join (σ := (List SEdge) × (List Int)) (S := fun s => (S9 s.1 s.2)) (g := fun s => flow_graph_push_p4 s.1 s.2 = some r) ?_ ?_
  rotate_left
  ·refine SCode.block ?_
   let S8 := fun (o1_30 : List SEdge) => fun (o3_31 : List Int) => (⟨[(0, .c (.ptr 0 0)), (1, ci a1_u), (2, ci a2_sink), (3, ci a3_most)], [.box [.own 1 o1_30.length, vR a0_g_out, .own 2 a0_g_level.length, .own 3 o3_31.length], aSEdge 75 o1_30, aI 3 a0_g_level, aI 3 o3_31]⟩ : St)
   refine SCode.sub (st' := (S8 a0_g_edges a0_g_turn)) (sub_gen [0, 1, 2, 3] rfl rfl (zall rfl rfl) ⟨bx rfl rfl rfl, oa rfl, oa rfl, oa rfl, trivial⟩) ?_
   refine (SCode.loop (σ := Nat × ((List SEdge) × (List Int))) (S := fun s => (S8 s.2.1 s.2.2)) (g := fun s => flow_graph_push_l57 a0_g_out a0_g_level a1_u a2_sink a3_most rec_ s.1 s.2.1 s.2.2 = some r) (μ := fun s => s.1) (F, (a0_g_edges, a0_g_turn)) h ?_)
   rintro ⟨n_57, ⟨o1_30, o3_31⟩⟩ h
   try dsimp only at h
   show SCode _ _ _ (S8 o1_30 o3_31) _
   cases n_57 with
   | zero => cases h
   | succ n_57 =>
    rw [flow_graph_push_l57] at h
    unfold flow_graph_push_b57 at h
    refine SCode.seq (SCode.seq ?_)
    obtain ⟨g58, h⟩ := guard_out h
    obtain ⟨g59, h⟩ := guard_out h
    refine SCode.drawK mixed [[], [0], [0, 1], [0, 1, 2], [], [0, 1, 2, 3, 4], [0, 1, 2, 3, 4, 5], [], [7], [7, 8], [7, 8, 9], [], [7, 8, 9, 10, 11], [7, 8, 9, 10, 11, 12], [7, 8, 9, 10, 11, 12, 13], [0, 1, 2, 3, 4, 5, 6, 7, 8, 9, 10, 11, 12, 13, 14]] 16 0 rfl rfl (qm rfl rfl (qr rfl rfl (q_nilCheck rfl rfl rfl) (qr rfl rfl (q_field_ptr rfl rfl fd78_3) (qr rfl rfl (q_load_ptr rfl rfl rfl rfl ty22) (qm rfl rfl (qr rfl rfl (q_index_own rfl rfl rfl sl22 g58.1 g58.2) (qr rfl rfl (q_load_aptr rfl rfl rfl (toNat_lt g58) rfl ty3) (qm rfl rfl (qr rfl rfl (q_nilCheck rfl rfl rfl) (qr rfl rfl (q_field_ptr rfl rfl fd78_1) (qr rfl rfl (q_load_ptr rfl rfl rfl rfl ty23) (qm rfl rfl (qr rfl rfl (q_index_vec rfl rfl rfl sl23 rfl g59.1 g59.2) (qr rfl rfl (q_load_eptr rfl rfl ty22) (qr rfl rfl (q_len_vec rfl rfl sl22) ?_)))))))))))))))
    refine qr rfl rfl (q_lss rfl rfl rfl) (QK.nil (SOps.sub (st' := ⟨[(0, .c (.ptr 0 0)), (1, ci a1_u), (2, ci a2_sink), (3, ci a3_most), (31, .c (.bool (decide (o3_31.getD a1_u.toNat 0 < ((a0_g_out.getD a1_u.toNat ([])).length : Int)))))], [.box [.own 1 o1_30.length, vR a0_g_out, .own 2 a0_g_level.length, .own 3 o3_31.length], aSEdge 75 o1_30, aI 3 a0_g_level, aI 3 o3_31]⟩) (sub_gen [0, 1, 2, 3] rfl rfl (zall rfl rfl) ⟨bx rfl rfl rfl, oa rfl, oa rfl, oa rfl, trivial⟩) (SOps.nil ?_)))
    rcases cond_out h with ⟨g60, h⟩ | ⟨g60, h⟩
    ·refine SCode.cond_t rfl g60 (SCode.skip ?_)
     let S7 := fun (o1_61 : List SEdge) => fun (o3_62 : List Int) => (⟨[(0, .c (.ptr 0 0)), (1, ci a1_u), (2, ci a2_sink), (3, ci a3_most)], [.box [.own 1 o1_61.length, vR a0_g_out, .own 2 a0_g_level.length, .own 3 o3_62.length], aSEdge 75 o1_61, aI 3 a0_g_level, aI 3 o3_62]⟩ : St)
     refine SCode.join (σ := (List SEdge) × (List Int)) (S := fun s => (S7 s.1 s.2)) (g := fun s => flow_graph_push_p65 a1_u (fun o1_30 o3_31 => flow_graph_push_l57 a0_g_out a0_g_level a1_u a2_sink a3_most rec_ n_57 o1_30 o3_31) s.1 s.2 = some r) ?_ ?_
     rotate_left
     ·refine SCode.block (SCode.seq ?_)
      obtain ⟨g66, h⟩ := guard_out h
      obtain ⟨g67, h⟩ := guard_out h
      obtain ⟨g68, h⟩ := guard_out h
      refine SCode.drawK mixed [[], [0], [0, 1], [0, 1, 2], [], [0, 1, 2, 3, 4], [0, 1, 2, 3, 4, 5], [], [7], [7, 8], [7, 8, 9], [], [7, 8, 9, 10, 11], [7, 8, 9, 10, 11, 12], [0, 1, 2, 3, 4, 5, 6, 7, 8, 9, 10, 11, 12, 13], [0, 1, 2, 3, 4, 5, 6, 7, 8, 9, 10, 11, 12, 13, 14], [0, 1, 2, 3, 4, 5, 6, 7, 8, 9, 10, 11, 12, 13, 14, 15]] 17 0 rfl rfl (qm rfl rfl (qr rfl rfl (q_nilCheck rfl rfl rfl) (qr rfl rfl (q_field_ptr rfl rfl fd78_1) (qr rfl rfl (q_load_ptr rfl rfl rfl rfl ty23) (qm rfl rfl (qr rfl rfl (q_index_vec rfl rfl rfl sl23 rfl g66.1 g66.2) (qr rfl rfl (q_load_eptr rfl rfl ty22) (qm rfl rfl (qr rfl rfl (q_nilCheck rfl rfl rfl) (qr rfl rfl (q_field_ptr rfl rfl fd78_3) (qr rfl rfl (q_load_ptr rfl rfl rfl rfl ty22) (qm rfl rfl (qr rfl rfl (q_index_own rfl rfl rfl sl22 g67.1 g67.2) (qr rfl rfl (q_load_aptr rfl rfl rfl (toNat_lt g67) rfl ty3) (qr rfl rfl (q_index_vec rfl rfl rfl sl22 rfl g68.1 g68.2) ?_)))))))))))))))
      refine qr rfl rfl (q_load_eptr rfl rfl ty3) (qr rfl rfl (q_assign rfl rfl) (QK.nil (SOps.sub (st' := ⟨[(0, .c (.ptr 0 0)), (1, ci a1_u), (2, ci a2_sink), (3, ci a3_most), (9, ci ((a0_g_out.getD a1_u.toNat ([])).getD (o3_31.getD a1_u.toNat 0).toNat 0))], [.box [.own 1 o1_30.length, vR a0_g_out, .own 2 a0_g_level.length, .own 3 o3_31.length], aSEdge 75 o1_30, aI 3 a0_g_level, aI 3 o3_31]⟩) (sub_gen [0, 1, 2, 3] rfl rfl (zall rfl rfl) ⟨bx rfl rfl rfl, oa rfl, oa rfl, oa rfl, trivial⟩) (SOps.nil (SCode.seq ?_)))))
      obtain ⟨g69, h⟩ := guard_out h
      refine SCode.region (sm rfl rfl (sq rfl rfl (q_nilCheck rfl rfl rfl) (sq rfl rfl (q_field_ptr rfl rfl fd78_0) (sq rfl rfl (q_load_ptr rfl rfl rfl rfl ty76) (sm rfl rfl (sq rfl rfl (q_index_own rfl rfl rfl sl76 g69.1 g69.2) (sq rfl rfl (q_field_aptr rfl rfl fd75_0) (sq rfl rfl (q_load_aptr rfl rfl rfl (toNat_lt g69) rfl ty3) (sa rfl rfl (SOps.nil (SCode.seq (SCode.seq (SCode.sub (st' := ⟨[(0, .c (.ptr 0 0)), (1, ci a1_u), (2, ci a2_sink), (3, ci a3_most), (9, ci ((a0_g_out.getD a1_u.toNat ([])).getD (o3_31.getD a1_u.toNat 0).toNat 0)), (10, ci ((o1_30.getD (((a0_g_out.getD a1_u.toNat ([])).getD (o3_31.getD a1_u.toNat 0).toNat 0).toNat) dSEdge).to))], [.box [.own 1 o1_30.length, vR a0_g_out, .own 2 a0_g_level.length, .own 3 o3_31.length], aSEdge 75 o1_30, aI 3 a0_g_level, aI 3 o3_31]⟩) (sub_gen [0, 1, 2, 3] rfl rfl (zall rfl rfl) ⟨bx rfl rfl rfl, oa rfl, oa rfl, oa rfl, trivial⟩) ?_)))))))))))))
      obtain ⟨g70, h⟩ := guard_out h
      rcases cond_out h with ⟨g71, h⟩ | ⟨g71, h⟩
      ·refine SCode.drawK mixed [[], [0], [0, 1], [0, 1, 2], [], [0, 1, 2, 3, 4], [0, 1, 2, 3, 4, 5], [0, 1, 2, 3, 4, 5, 6], [0, 1, 2, 3, 4, 5, 6, 7], [0, 1, 2, 3, 4, 5, 6, 7, 8], [0, 1, 2, 3, 4, 5, 6, 7, 8, 9], [0, 1, 2, 3, 4, 5, 6, 7, 8, 9, 10], [0, 1, 2, 3, 4, 5, 6, 7, 8, 9, 10, 11], [0, 1, 2, 3, 4, 5, 6, 7, 8, 9, 10, 11, 12], [0, 1, 2, 3, 4, 5, 6, 7, 8, 9], [0, 1, 2, 3, 4, 5, 6, 7, 8, 9, 10, 11, 12, 13, 14], [0, 1, 2, 3, 4, 5, 6, 7, 8, 9, 10, 11, 12, 13, 14, 15], [0, 1, 2, 3, 4, 5, 6, 7, 8, 9], [0, 1, 2, 3, 4, 5, 6, 7, 8, 9, 17], [0, 1, 2, 3, 4, 5, 6, 7, 8, 9, 17, 18], [0, 1, 2, 3, 4, 5, 6, 7, 8, 9, 17, 18, 19], [0, 1, 2, 3, 4, 5, 6, 7, 8, 9], [0, 1, 2, 3, 4, 5, 6, 7, 8, 9, 17, 18, 19, 20, 21], [0, 1, 2, 3, 4, 5, 6, 7, 8, 9, 17, 18, 19, 20, 21, 22], [0, 1, 2, 3, 4, 5, 6, 7, 8, 9, 17, 18, 19, 20, 21, 22, 23], [0, 1, 2, 3, 4, 5, 6, 7, 8, 9, 10, 11, 12, 13, 14, 15, 16, 17, 18, 19, 20, 21, 22, 23, 24], [0, 1, 2, 3, 4, 5, 6, 7, 8, 9, 10, 11, 12, 13, 14, 15, 16, 17, 18, 19, 20, 21, 22, 23, 24, 25]] 27 0 rfl rfl (qm rfl rfl (qr rfl rfl (q_nilCheck rfl rfl rfl) (qr rfl rfl (q_field_ptr rfl rfl fd78_0) (qr rfl rfl (q_load_ptr rfl rfl rfl rfl ty76) (qm rfl rfl (qr rfl rfl (q_index_own rfl rfl rfl sl76 g70.1 g70.2) (qr rfl rfl (q_field_aptr rfl rfl fd75_1) (qr rfl rfl (q_load_aptr rfl rfl rfl (toNat_lt g70) rfl ty3) (qr rfl rfl (q_eql rfl rfl rfl) (qm rfl rfl (QK.skip rfl ⟨9, 74, false, rfl, rfl, (.inl (gT g71))⟩ rfl (QK.skip rfl ⟨9, 74, false, rfl, rfl, (.inl (gT g71))⟩ rfl (QK.skip rfl ⟨9, 74, false, rfl, rfl, (.inl (gT g71))⟩ rfl (QK.skip rfl ⟨9, 74, false, rfl, rfl, (.inl (gT g71))⟩ rfl (QK.skip rfl ⟨9, 74, false, rfl, rfl, (.inl (gT g71))⟩ rfl ?_)))))))))))))))
       refine QK.skip rfl ⟨9, 74, false, rfl, rfl, (.inl (gT g71))⟩ rfl (QK.skip rfl ⟨9, 74, false, rfl, rfl, (.inl (gT g71))⟩ rfl (QK.skip rfl ⟨9, 74, false, rfl, rfl, (.inl (gT g71))⟩ rfl (QK.skip rfl ⟨9, 74, false, rfl, rfl, (.inl (gT g71))⟩ rfl (QK.skip rfl ⟨9, 74, false, rfl, rfl, (.inl (gT g71))⟩ rfl (QK.skip rfl ⟨9, 74, false, rfl, rfl, (.inl (gT g71))⟩ rfl (QK.skip rfl ⟨9, 74, false, rfl, rfl, (.inl (gT g71))⟩ rfl (QK.skip rfl ⟨9, 74, false, rfl, rfl, (.inl (gT g71))⟩ rfl (QK.skip rfl ⟨9, 74, false, rfl, rfl, (.inl (gT g71))⟩ rfl (QK.skip rfl ⟨9, 74, false, rfl, rfl, (.inl (gT g71))⟩ rfl (QK.skip rfl ⟨9, 74, false, rfl, rfl, (.inl (gT g71))⟩ rfl (qr rfl rfl (q_pick_t rfl rfl g71 rfl) (QK.nil (SOps.sub (st' := ⟨[(0, .c (.ptr 0 0)), (1, ci a1_u), (2, ci a2_sink), (3, ci a3_most), (9, ci ((a0_g_out.getD a1_u.toNat ([])).getD (o3_31.getD a1_u.toNat 0).toNat 0)), (10, ci ((o1_30.getD (((a0_g_out.getD a1_u.toNat ([])).getD (o3_31.getD a1_u.toNat 0).toNat 0).toNat) dSEdge).to)), (91, .c (.bool true))], [.box [.own 1 o1_30.length, vR a0_g_out, .own 2 a0_g_level.length, .own 3 o3_31.length], aSEdge 75 o1_30, aI 3 a0_g_level, aI 3 o3_31]⟩) (sub_gen [0, 1, 2, 3] rfl rfl (zall rfl rfl) ⟨bx rfl rfl rfl, oa rfl, oa rfl, oa rfl, trivial⟩) (SOps.nil (SCode.cond_t rfl rfl ?_)))))))))))))))
       refine SCode.exit ?_
       exact ⟨(o1_30, o3_31), h, sub_gen [0, 1, 2, 3] rfl rfl (zall rfl rfl) ⟨bx rfl rfl rfl, oa rfl, oa rfl, oa rfl, trivial⟩⟩
      obtain ⟨g72, h⟩ := guard_out h
      obtain ⟨g73, h⟩ := guard_out h
      refine SCode.drawK mixed [[], [0], [0, 1], [0, 1, 2], [], [0, 1, 2, 3, 4], [0, 1, 2, 3, 4, 5], [0, 1, 2, 3, 4, 5, 6], [0, 1, 2, 3, 4, 5, 6, 7], [0, 1, 2, 3, 4, 5, 6, 7, 8], [0, 1, 2, 3, 4, 5, 6, 7, 8, 9], [0, 1, 2, 3, 4, 5, 6, 7, 8, 9, 10], [0, 1, 2, 3, 4, 5, 6, 7, 8, 9, 10, 11], [0, 1, 2, 3, 4, 5, 6, 7, 8, 9, 10, 11, 12], [0, 1, 2, 3, 4, 5, 6, 7, 8, 9], [0, 1, 2, 3, 4, 5, 6, 7, 8, 9, 10, 11, 12, 13, 14], [0, 1, 2, 3, 4, 5, 6, 7, 8, 9, 10, 11, 12, 13, 14, 15], [0, 1, 2, 3, 4, 5, 6, 7, 8, 9], [0, 1, 2, 3, 4, 5, 6, 7, 8, 9, 17], [0, 1, 2, 3, 4, 5, 6, 7, 8, 9, 17, 18], [0, 1, 2, 3, 4, 5, 6, 7, 8, 9, 17, 18, 19], [0, 1, 2, 3, 4, 5, 6, 7, 8, 9], [0, 1, 2, 3, 4, 5, 6, 7, 8, 9, 17, 18, 19, 20, 21], [0, 1, 2, 3, 4, 5, 6, 7, 8, 9, 17, 18, 19, 20, 21, 22], [0, 1, 2, 3, 4, 5, 6, 7, 8, 9, 17, 18, 19, 20, 21, 22, 23], [0, 1, 2, 3, 4, 5, 6, 7, 8, 9, 10, 11, 12, 13, 14, 15, 16, 17, 18, 19, 20, 21, 22, 23, 24], [0, 1, 2, 3, 4, 5, 6, 7, 8, 9, 10, 11, 12, 13, 14, 15, 16, 17, 18, 19, 20, 21, 22, 23, 24, 25]] 27 0 rfl rfl (qm rfl rfl (qr rfl rfl (q_nilCheck rfl rfl rfl) (qr rfl rfl (q_field_ptr rfl rfl fd78_0) (qr rfl rfl (q_load_ptr rfl rfl rfl rfl ty76) (qm rfl rfl (qr rfl rfl (q_index_own rfl rfl rfl sl76 g70.1 g70.2) (qr rfl rfl (q_field_aptr rfl rfl fd75_1) (qr rfl rfl (q_load_aptr rfl rfl rfl (toNat_lt g70) rfl ty3) (qr rfl rfl (q_eql rfl rfl rfl) (qm rfl rfl (QK.run rfl (.guard 9 74 false rfl rfl (gF g71)) rfl (q_move rfl rfl) (QK.run rfl (.guard 9 74 false rfl rfl (gF g71)) rfl (q_nilCheck rfl rfl rfl) (QK.run rfl (.guard 9 74 false rfl rfl (gF g71)) rfl (q_field_ptr rfl rfl fd78_2) (QK.run rfl (.guard 9 74 false rfl rfl (gF g71)) rfl (q_load_ptr rfl rfl rfl rfl ty22) (QK.run rfl (.guard 9 74 false rfl rfl (gF g71)) rfl (q_move rfl rfl) ?_)))))))))))))))
      refine QK.run rfl (.guard 9 74 false rfl rfl (gF g71)) rfl (q_index_own rfl rfl rfl sl22 g72.1 g72.2) (QK.run rfl (.guard 9 74 false rfl rfl (gF g71)) rfl (q_load_aptr rfl rfl rfl (toNat_lt g72) rfl ty3) (QK.run rfl (.guard 9 74 false rfl rfl (gF g71)) rfl (q_move rfl rfl) (QK.run rfl (.guard 9 74 false rfl rfl (gF g71)) rfl (q_nilCheck rfl rfl rfl) (QK.run rfl (.guard 9 74 false rfl rfl (gF g71)) rfl (q_field_ptr rfl rfl fd78_2) (QK.run rfl (.guard 9 74 false rfl rfl (gF g71)) rfl (q_load_ptr rfl rfl rfl rfl ty22) (QK.run rfl (.guard 9 74 false rfl rfl (gF g71)) rfl (q_move rfl rfl) (QK.run rfl (.guard 9 74 false rfl rfl (gF g71)) rfl (q_index_own rfl rfl rfl sl22 g73.1 g73.2) (QK.run rfl (.guard 9 74 false rfl rfl (gF g71)) rfl (q_load_aptr rfl rfl rfl (toNat_lt g73) rfl ty3) (QK.run rfl (.guard 9 74 false rfl rfl (gF g71)) rfl (q_add rfl rfl rfl) (QK.run rfl (.guard 9 74 false rfl rfl (gF g71)) rfl (q_neq rfl rfl rfl) (qr rfl rfl (q_pick_f rfl rfl g71 rfl) (QK.nil ?_))))))))))))
      let y1 := (a0_g_out.getD a1_u.toNat ([])).getD (o3_31.getD a1_u.toNat 0).toNat 0
      refine SOps.sub (st' := ⟨[(0, .c (.ptr 0 0)), (1, ci a1_u), (2, ci a2_sink), (3, ci a3_most), (9, ci y1), (10, ci ((o1_30.getD (y1.toNat) dSEdge).to)), (91, .c (.bool ((!decide (a0_g_level.getD (((o1_30.getD (y1.toNat) dSEdge).to).toNat) 0 = IntKind.wrap .i64 (a0_g_level.getD a1_u.toNat 0 + 1))))))], [.box [.own 1 o1_30.length, vR a0_g_out, .own 2 a0_g_level.length, .own 3 o3_31.length], aSEdge 75 o1_30, aI 3 a0_g_level, aI 3 o3_31]⟩) (sub_gen [0, 1, 2, 3] rfl rfl (zall rfl rfl) ⟨bx rfl rfl rfl, oa rfl, oa rfl, oa rfl, trivial⟩) (SOps.nil ?_)
      rcases cond_out h with ⟨g74, h⟩ | ⟨g74, h⟩
      ·refine SCode.cond_t rfl g74 (SCode.exit ?_)
       exact ⟨(o1_30, o3_31), h, sub_gen [0, 1, 2, 3] rfl rfl (zall rfl rfl) ⟨bx rfl rfl rfl, oa rfl, oa rfl, oa rfl, trivial⟩⟩
      refine SCode.cond_f rfl g74 (SCode.skip (SCode.seq ?_))
      obtain ⟨g75, h⟩ := guard_out h
      obtain ⟨c_76, g77, h⟩ := bind_out h
      try dsimp only at h
      refine SCode.region (sm rfl rfl (sm rfl rfl (sm rfl rfl (sm rfl rfl (sm rfl rfl (sq rfl rfl (q_nilCheck rfl rfl rfl) (sq rfl rfl (q_field_ptr rfl rfl fd78_0) (sq rfl rfl (q_load_ptr rfl rfl rfl rfl ty76) (sm rfl rfl (sq rfl rfl (q_index_own rfl rfl rfl sl76 g75.1 g75.2) (sq rfl rfl (q_field_aptr rfl rfl fd75_1) (sq rfl rfl (q_load_aptr rfl rfl rfl (toNat_lt g75) rfl ty3) (sq rfl rfl (q_min rfl rfl rfl) ?_)))))))))))))
      let y2 := o1_30.getD (((a0_g_out.getD a1_u.toNat ([])).getD (o3_31.getD a1_u.toNat 0).toNat 0).toNat) dSEdge
      refine se rfl rfl (e_call (ih o1_30 a0_g_out a0_g_level o3_31 (y2.to) a2_sink ((if y2.room < a3_most then y2.room else a3_most)) c_76 g77) [0, 1, 2, 3] rfl fn60 rfl rfl rfl rfl rfl rfl rfl rfl) (sa rfl rfl (SOps.nil (SCode.seq (SCode.region (sm rfl rfl (sq rfl rfl (q_gtr rfl rfl rfl) (SOps.nil ?_)))))))
      rcases cond_out h with ⟨g78, h⟩ | ⟨g78, h⟩
      ·refine SCode.cond_t rfl g78 (SCode.seq ?_)
       obtain ⟨g79, h⟩ := guard_out h
       obtain ⟨g80, h⟩ := guard_out h
       refine SCode.region (sm rfl rfl (sq rfl rfl (q_nilCheck rfl rfl rfl) (sq rfl rfl (q_field_ptr rfl rfl fd78_0) (sq rfl rfl (q_load_ptr rfl rfl rfl rfl ty76) (sm rfl rfl (sq rfl rfl (q_index_own rfl rfl rfl sl76 g79.1 g79.2) (sq rfl rfl (q_field_aptr rfl rfl fd75_1) (sq rfl rfl (q_load_aptr rfl rfl rfl (toNat_lt g79) rfl ty3) (sm rfl rfl (sq rfl rfl (q_sub rfl rfl rfl) (sq rfl rfl (q_index_own rfl rfl rfl sl76 g80.1 g80.2) (sq rfl rfl (q_field_aptr rfl rfl fd75_1) (se rfl rfl (e_storeL (SEdge.mk ((c_76.2.1.getD (((a0_g_out.getD a1_u.toNat ([])).getD (o3_31.getD a1_u.toNat 0).toNat 0).toNat) dSEdge).to) (IntKind.wrap .i64 ((c_76.2.1.getD (((a0_g_out.getD a1_u.toNat ([])).getD (o3_31.getD a1_u.toNat 0).toNat 0).toNat) dSEdge).room - c_76.1))) rfl rfl rfl rfl rfl (toNat_lt g80) ty3 rfl rfl rfl rfl rfl rfl) ?_)))))))))))))
       let y3 := c_76.2.1.set (((a0_g_out.getD a1_u.toNat ([])).getD (o3_31.getD a1_u.toNat 0).toNat 0).toNat) (SEdge.mk ((c_76.2.1.getD (((a0_g_out.getD a1_u.toNat ([])).getD (o3_31.getD a1_u.toNat 0).toNat 0).toNat) dSEdge).to) (IntKind.wrap .i64 ((c_76.2.1.getD (((a0_g_out.getD a1_u.toNat ([])).getD (o3_31.getD a1_u.toNat 0).toNat 0).toNat) dSEdge).room - c_76.1)))
       refine SOps.sub (st' := ⟨[(0, .c (.ptr 0 0)), (9, ci ((a0_g_out.getD a1_u.toNat ([])).getD (o3_31.getD a1_u.toNat 0).toNat 0)), (11, ci c_76.1)], [.box [.own 1 y3.length, vR a0_g_out, .own 2 a0_g_level.length, .own 3 c_76.2.2.length], aSEdge 75 y3, aI 3 a0_g_level, aI 3 c_76.2.2]⟩) (sub_gen [0, 1, 2, 3] rfl rfl (zall rfl rfl) ⟨⟨_, rfl, ⟨.inl ⟨rfl, congrArg (Cell.own 1) (List.length_set : y3.length = c_76.2.1.length).symm⟩, ii rfl rfl, ii rfl rfl, ii rfl rfl, trivial⟩⟩, oa rfl, oa rfl, oa rfl, trivial⟩) (SOps.nil (SCode.seq ?_))
       obtain ⟨g81, h⟩ := guard_out h
       obtain ⟨g82, h⟩ := guard_out h
       refine SCode.region (sm rfl rfl (sq rfl rfl (q_nilCheck rfl rfl rfl) (sq rfl rfl (q_field_ptr rfl rfl fd78_0) (sq rfl rfl (q_load_ptr rfl rfl rfl rfl ty76) (sm rfl rfl (sq rfl rfl (q_xor rfl rfl rfl) (sq rfl rfl (q_index_own rfl rfl rfl sl76 g81.1 g81.2) (sq rfl rfl (q_field_aptr rfl rfl fd75_1) (sq rfl rfl (q_load_aptr rfl rfl rfl (toNat_lt g81) rfl ty3) (sm rfl rfl (sq rfl rfl (q_add rfl rfl rfl) (sq rfl rfl (q_index_own rfl rfl rfl sl76 g82.1 g82.2) (sq rfl rfl (q_field_aptr rfl rfl fd75_1) ?_)))))))))))))
       let y4 := (a0_g_out.getD a1_u.toNat ([])).getD (o3_31.getD a1_u.toNat 0).toNat 0
       let y5 := (c_76.2.1.set (y4.toNat) (SEdge.mk ((c_76.2.1.getD (y4.toNat) dSEdge).to) (IntKind.wrap .i64 ((c_76.2.1.getD (y4.toNat) dSEdge).room - c_76.1)))).getD ((iXor .i64 y4 1).toNat) dSEdge
       refine se rfl rfl (e_storeL (SEdge.mk (y5.to) (IntKind.wrap .i64 (y5.room + c_76.1))) rfl rfl rfl rfl rfl (toNat_lt g82) ty3 rfl rfl rfl rfl rfl rfl) ?_
       let y6 := c_76.2.1.set (((a0_g_out.getD a1_u.toNat ([])).getD (o3_31.getD a1_u.toNat 0).toNat 0).toNat) (SEdge.mk ((c_76.2.1.getD (((a0_g_out.getD a1_u.toNat ([])).getD (o3_31.getD a1_u.toNat 0).toNat 0).toNat) dSEdge).to) (IntKind.wrap .i64 ((c_76.2.1.getD (((a0_g_out.getD a1_u.toNat ([])).getD (o3_31.getD a1_u.toNat 0).toNat 0).toNat) dSEdge).room - c_76.1)))
       let y7 := y6.set ((iXor .i64 ((a0_g_out.getD a1_u.toNat ([])).getD (o3_31.getD a1_u.toNat 0).toNat 0) 1).toNat) (SEdge.mk ((y6.getD ((iXor .i64 ((a0_g_out.getD a1_u.toNat ([])).getD (o3_31.getD a1_u.toNat 0).toNat 0) 1).toNat) dSEdge).to) (IntKind.wrap .i64 ((y6.getD ((iXor .i64 ((a0_g_out.getD a1_u.toNat ([])).getD (o3_31.getD a1_u.toNat 0).toNat 0) 1).toNat) dSEdge).room + c_76.1)))
       refine SOps.sub (st' := ⟨[(11, ci c_76.1)], [.box [.own 1 y7.length, vR a0_g_out, .own 2 a0_g_level.length, .own 3 c_76.2.2.length], aSEdge 75 y7, aI 3 a0_g_level, aI 3 c_76.2.2]⟩) (sub_gen [0, 1, 2, 3] rfl rfl (zall rfl rfl) ⟨⟨_, rfl, ⟨.inl ⟨rfl, congrArg (Cell.own 1) (List.length_set : y7.length = y6.length).symm⟩, ii rfl rfl, ii rfl rfl, ii rfl rfl, trivial⟩⟩, oa rfl, oa rfl, oa rfl, trivial⟩) (SOps.nil (SCode.seq (SCode.region (sm rfl rfl (sa rfl rfl (SOps.nil (SCode.ret ?_)))))))
       obtain rfl := Option.some.inj h
       let y8 := c_76.2.1.set (((a0_g_out.getD a1_u.toNat ([])).getD (o3_31.getD a1_u.toNat 0).toNat 0).toNat) (SEdge.mk ((c_76.2.1.getD (((a0_g_out.getD a1_u.toNat ([])).getD (o3_31.getD a1_u.toNat 0).toNat 0).toNat) dSEdge).to) (IntKind.wrap .i64 ((c_76.2.1.getD (((a0_g_out.getD a1_u.toNat ([])).getD (o3_31.getD a1_u.toNat 0).toNat 0).toNat) dSEdge).room - c_76.1)))
       let y9 := (iXor .i64 ((a0_g_out.getD a1_u.toNat ([])).getD (o3_31.getD a1_u.toNat 0).toNat 0) 1).toNat
       let y10 := y8.set y9 (SEdge.mk ((y8.getD y9 dSEdge).to) (IntKind.wrap .i64 ((y8.getD y9 dSEdge).room + c_76.1)))
       exact ⟨⟨[(8, ci c_76.1)], [.box [.own 1 y10.length, vR a0_g_out, .own 2 a0_g_level.length, .own 3 c_76.2.2.length], aSEdge 75 y10, aI 3 a0_g_level, aI 3 c_76.2.2]⟩, _, sub_gen [0, 1, 2, 3] rfl rfl (zall rfl rfl) ⟨bx rfl rfl rfl, oa rfl, oa rfl, oa rfl, trivial⟩, resA1 (v := .c (.int .i64 c_76.1)) rfl rfl, ⟨rfl, rfl⟩⟩
      refine SCode.cond_f rfl g78 (SCode.skip ?_)
      exact ⟨(c_76.2.1, c_76.2.2), h, sub_gen [0, 1, 2, 3] rfl rfl (zall rfl rfl) ⟨bx rfl rfl rfl, oa rfl, oa rfl, oa rfl, trivial⟩⟩
     rintro ⟨o1_61, o3_62⟩ h
     show SCode _ _ _ (S7 o1_61 o3_62) _
     try dsimp only at h
     unfold flow_graph_push_p65 at h
     obtain ⟨g63, h⟩ := guard_out h
     obtain ⟨g64, h⟩ := guard_out h
     refine SCode.region (sm rfl rfl (sq rfl rfl (q_nilCheck rfl rfl rfl) (sq rfl rfl (q_field_ptr rfl rfl fd78_3) (sq rfl rfl (q_load_ptr rfl rfl rfl rfl ty22) (sm rfl rfl (sq rfl rfl (q_index_own rfl rfl rfl sl22 g63.1 g63.2) (sq rfl rfl (q_load_aptr rfl rfl rfl (toNat_lt g63) rfl ty3) (sq rfl rfl (q_add rfl rfl rfl) (sq rfl rfl (q_index_own rfl rfl rfl sl22 g64.1 g64.2) (se rfl rfl (e_storeL (IntKind.wrap .i64 (o3_62.getD a1_u.toNat 0 + 1)) rfl rfl rfl rfl rfl (toNat_lt g64) ty3 rfl rfl rfl rfl rfl rfl) ?_))))))))))
     let y11 := o3_62.set a1_u.toNat (IntKind.wrap .i64 (o3_62.getD a1_u.toNat 0 + 1))
     refine SOps.sub (st' := ⟨[(0, .c (.ptr 0 0)), (1, ci a1_u), (2, ci a2_sink), (3, ci a3_most)], [.box [.own 1 o1_61.length, vR a0_g_out, .own 2 a0_g_level.length, .own 3 y11.length], aSEdge 75 o1_61, aI 3 a0_g_level, aI 3 y11]⟩) (sub_gen [0, 1, 2, 3] rfl rfl (zall rfl rfl) ⟨⟨_, rfl, ⟨ii rfl rfl, ii rfl rfl, ii rfl rfl, .inl ⟨rfl, congrArg (Cell.own 3) (List.length_set : y11.length = o3_62.length).symm⟩, trivial⟩⟩, oa rfl, oa rfl, oa rfl, trivial⟩) (SOps.nil ?_)
     exact ⟨(n_57, (o1_61, o3_62.set a1_u.toNat (IntKind.wrap .i64 (o3_62.getD a1_u.toNat 0 + 1)))), h, Nat.lt_succ_self n_57, sub_gen [0, 1, 2, 3] rfl rfl (zall rfl rfl) ⟨bx rfl rfl rfl, oa rfl, oa rfl, oa rfl, trivial⟩⟩
    refine SCode.cond_f rfl g60 (SCode.exit ?_)
    exact ⟨(o1_30, o3_31), h, sub_gen [0, 1, 2, 3] rfl rfl trivial ⟨bx rfl rfl rfl, oa rfl, oa rfl, oa rfl, trivial⟩⟩
  rintro ⟨o1_2, o3_3⟩ h
  show SCode _ _ _ (S9 o1_2 o3_3) _
  try dsimp only at h
  unfold flow_graph_push_p4 at h
  refine SCode.seq (SCode.region (sa rfl rfl (SOps.nil (SCode.ret ?_))))
  obtain rfl := Option.some.inj h
  exact ⟨⟨[(8, ci 0)], [.box [.own 1 o1_2.length, vR a0_g_out, .own 2 a0_g_level.length, .own 3 o3_3.length], aSEdge 75 o1_2, aI 3 a0_g_level, aI 3 o3_3]⟩, _, sub_gen [0, 1, 2, 3] rfl rfl (zall rfl rfl) ⟨bx rfl rfl rfl, oa rfl, oa rfl, oa rfl, trivial⟩, resA1 (v := .c (.int .i64 0)) rfl rfl, ⟨rfl, rfl⟩⟩
theorem flow_graph_run_ok (F : Nat) (a0_g_edges : List SEdge) (a0_g_out : List (List Int)) (a0_g_level : List Int) (a0_g_turn : List Int) (a1_source : Int) (a2_sink : Int) (r : Int × (List SEdge) × (List Int) × (List Int)) (h : flow_graph_run F a0_g_edges a0_g_out a0_g_level a0_g_turn a1_source a2_sink = some r) :
  SFun Try.prog 49 [.box [.own 1 a0_g_edges.length, vR a0_g_out, .own 2 a0_g_level.length, .own 3 a0_g_turn.length], aSEdge 75 a0_g_edges, aI 3 a0_g_level, aI 3 a0_g_turn] [.c (.ptr 0 0), ci a1_source, ci a2_sink] (fun x os => x = ci r.1 ∧ os = [.box [.own 1 r.2.1.length, vR a0_g_out, .own 2 r.2.2.1.length, .own 3 r.2.2.2.length], aSEdge 75 r.2.1, aI 3 r.2.2.1, aI 3 r.2.2.2]) := by
 refine SFun.of (n := 27) Try.func49 rfl rfl rfl ?_
 unfold flow_graph_run at h
 show SCode _ _ _ ⟨[(0, .c (.ptr 0 0)), (1, ci a1_source), (2, ci a2_sink)], [.box [.own 1 a0_g_edges.length, vR a0_g_out, .own 2 a0_g_level.length, .own 3 a0_g_turn.length], aSEdge 75 a0_g_edges, aI 3 a0_g_level, aI 3 a0_g_turn]⟩ _
 refine SCode.seq (SCode.region (sa rfl rfl (SOps.nil (SCode.seq (SCode.region (sa rfl rfl (SOps.nil ?_)))))))
 let S9 := fun (value_1 : Int) => fun (o1_2 : List SEdge) => fun (o2_3 : List Int) => fun (o3_4 : List Int) => (⟨[(7, ci value_1)], [.box [.own 1 o1_2.length, vR a0_g_out, .own 2 o2_3.length, .own 3 o3_4.length], aSEdge 75 o1_2, aI 3 o2_3, aI 3 o3_4]⟩ : St)
 refine SCode.join (σ := Int × (List SEdge) × (List Int) × (List Int)) (S := fun s => (S9 s.1 s.2.1 s.2.2.1 s.2.2.2)) (g := fun s => flow_graph_run_p5 s.1 s.2.1 s.2.2.1 s.2.2.2 = some r) ?_ ?_
 rotate_left
 ·refine SCode.block ?_
  let S8 := fun (value_43 : Int) => fun (o1_44 : List SEdge) => fun (o2_45 : List Int) => fun (o3_46 : List Int) => (⟨[(0, .c (.ptr 0 0)), (1, ci a1_source), (2, ci a2_sink), (7, ci value_43)], [.box [.own 1 o1_44.length, vR a0_g_out, .own 2 o2_45.length, .own 3 o3_46.length], aSEdge 75 o1_44, aI 3 o2_45, aI 3 o3_46]⟩ : St)
  refine SCode.sub (st' := (S8 0 a0_g_edges a0_g_level a0_g_turn)) (sub_gen [0, 1, 2, 3] rfl rfl (zall rfl rfl) ⟨bx rfl rfl rfl, oa rfl, oa rfl, oa rfl, trivial⟩) ?_
  refine (SCode.loop (σ := Nat × (Int × (List SEdge) × (List Int) × (List Int))) (S := fun s => (S8 s.2.1 s.2.2.1 s.2.2.2.1 s.2.2.2.2)) (g := fun s => flow_graph_run_l66 F a0_g_out a1_source a2_sink s.1 s.2.1 s.2.2.1 s.2.2.2.1 s.2.2.2.2 = some r) (μ := fun s => s.1) (F, (0, a0_g_edges, a0_g_level, a0_g_turn)) h ?_)
  rintro ⟨n_66, ⟨value_43, o1_44, o2_45, o3_46⟩⟩ h
  try dsimp only at h
  show SCode _ _ _ (S8 value_43 o1_44 o2_45 o3_46) _
  cases n_66 with
  | zero => cases h
  | succ n_66 =>
   rw [flow_graph_run_l66] at h
   unfold flow_graph_run_b66 at h
   refine SCode.seq (SCode.seq ?_)
   obtain ⟨c_67, g68, h⟩ := bind_out h
   try dsimp only at h
   refine SCode.region (sm rfl rfl (sm rfl rfl (sm rfl rfl (se rfl rfl (e_call (flow_graph_search_ok F o1_44 a0_g_out o2_45 o3_46 a1_source a2_sink c_67 g68) [0, 1, 2, 3] rfl fn59 rfl rfl rfl rfl rfl rfl rfl rfl) (SOps.nil ?_)))))
   rcases cond_out h with ⟨g69, h⟩ | ⟨g69, h⟩
   ·refine SCode.cond_t rfl g69 (SCode.skip (SCode.block (SCode.seq ?_)))
    obtain ⟨c_70, g71, h⟩ := bind_out h
    try dsimp only at h
    refine SCode.region (sm rfl rfl (sm rfl rfl (sm rfl rfl (se rfl rfl (e_call (flow_graph_push_ok F o1_44 a0_g_out c_67.2.1 c_67.2.2 a1_source a2_sink 4611686018427387904 c_70 g71) [0, 1, 2, 3] rfl fn60 rfl rfl rfl rfl rfl rfl rfl rfl) (sa rfl rfl (SOps.nil (SCode.block ?_)))))))
    let S7 := fun (value_75 : Int) => fun (n_76 : Int) => fun (o1_77 : List SEdge) => fun (o3_78 : List Int) => (⟨[(0, .c (.ptr 0 0)), (1, ci a1_source), (2, ci a2_sink), (7, ci value_75), (8, ci n_76)], [.box [.own 1 o1_77.length, vR a0_g_out, .own 2 c_67.2.1.length, .own 3 o3_78.length], aSEdge 75 o1_77, aI 3 c_67.2.1, aI 3 o3_78]⟩ : St)
    refine SCode.sub (st' := (S7 value_43 c_70.1 c_70.2.1 c_70.2.2)) (sub_gen [0, 1, 2, 3] rfl rfl (zall rfl rfl) ⟨bx rfl rfl rfl, oa rfl, oa rfl, oa rfl, trivial⟩) ?_
    refine (SCode.loop (σ := Nat × (Int × Int × (List SEdge) × (List Int))) (S := fun s => (S7 s.2.1 s.2.2.1 s.2.2.2.1 s.2.2.2.2)) (g := fun s => flow_graph_run_l82 F a0_g_out a1_source a2_sink (fun value_43 o1_44 o2_45 o3_46 => flow_graph_run_l66 F a0_g_out a1_source a2_sink n_66 value_43 o1_44 o2_45 o3_46) c_67 s.1 s.2.1 s.2.2.1 s.2.2.2.1 s.2.2.2.2 = some r) (μ := fun s => s.1) (F, (value_43, c_70.1, c_70.2.1, c_70.2.2)) h ?_)
    rintro ⟨n_82, ⟨value_75, n_76, o1_77, o3_78⟩⟩ h
    try dsimp only at h
    show SCode _ _ _ (S7 value_75 n_76 o1_77 o3_78) _
    cases n_82 with
    | zero => cases h
    | succ n_82 =>
     rw [flow_graph_run_l82] at h
     unfold flow_graph_run_b82 at h
     refine SCode.seq (SCode.seq (SCode.region (sm rfl rfl (sq rfl rfl (q_gtr rfl rfl rfl) (SOps.nil ?_)))))
     rcases cond_out h with ⟨g83, h⟩ | ⟨g83, h⟩
     ·refine SCode.cond_t rfl g83 (SCode.skip (SCode.seq (SCode.block (SCode.region (sm rfl rfl (sm rfl rfl (sq rfl rfl (q_add rfl rfl rfl) (sa rfl rfl (SOps.nil ?_)))))))))
      obtain ⟨c_84, g85, h⟩ := bind_out h
      try dsimp only at h
      refine SCode.region (sm rfl rfl (sm rfl rfl (sm rfl rfl (se rfl rfl (e_call (flow_graph_push_ok F o1_77 a0_g_out c_67.2.1 o3_78 a1_source a2_sink 4611686018427387904 c_84 g85) [0, 1, 2, 3] rfl fn60 rfl rfl rfl rfl rfl rfl rfl rfl) (sa rfl rfl (SOps.nil ?_))))))
      exact ⟨(n_82, (IntKind.wrap .i64 (value_75 + n_76), c_84.1, c_84.2.1, c_84.2.2)), h, Nat.lt_succ_self n_82, sub_gen [0, 1, 2, 3] rfl rfl (zall rfl rfl) ⟨bx rfl rfl rfl, oa rfl, oa rfl, oa rfl, trivial⟩⟩
     refine SCode.cond_f rfl g83 (SCode.exit ?_)
     exact ⟨(n_66, (value_75, o1_77, c_67.2.1, o3_78)), h, Nat.lt_succ_self n_66, sub_gen [0, 1, 2, 3] rfl rfl (zall rfl rfl) ⟨bx rfl rfl rfl, oa rfl, oa rfl, oa rfl, trivial⟩⟩
   refine SCode.cond_f rfl g69 (SCode.exit ?_)
   exact ⟨(value_43, o1_44, c_67.2.1, c_67.2.2), h, sub_gen [0, 1, 2, 3] rfl rfl (zall rfl rfl) ⟨bx rfl rfl rfl, oa rfl, oa rfl, oa rfl, trivial⟩⟩
 rintro ⟨value_1, o1_2, o2_3, o3_4⟩ h
 show SCode _ _ _ (S9 value_1 o1_2 o2_3 o3_4) _
 try dsimp only at h
 unfold flow_graph_run_p5 at h
 refine SCode.seq (SCode.region (sm rfl rfl (sa rfl rfl (SOps.nil (SCode.ret ?_)))))
 obtain rfl := Option.some.inj h
 exact ⟨⟨[(6, ci value_1)], [.box [.own 1 o1_2.length, vR a0_g_out, .own 2 o2_3.length, .own 3 o3_4.length], aSEdge 75 o1_2, aI 3 o2_3, aI 3 o3_4]⟩, _, sub_gen [0, 1, 2, 3] rfl rfl (zall rfl rfl) ⟨bx rfl rfl rfl, oa rfl, oa rfl, oa rfl, trivial⟩, resA1 (v := .c (.int .i64 value_1)) rfl rfl, ⟨rfl, rfl⟩⟩
theorem flow_build_own_ok (F : Nat) (a0_n : SNet) (r : (List SEdge) × (List (List Int)) × (List Int) × (List Int)) (h : flow_build_own F a0_n = some r) :
  SFun Try.prog 48 [] [.a (bSNet a0_n)] (fun x os => x = .c (.ptr 0 0) ∧ os = [.box [.own 1 r.1.length, vR r.2.1, .own 2 r.2.2.1.length, .own 3 r.2.2.2.length], aSEdge 75 r.1, aI 3 r.2.2.1, aI 3 r.2.2.2]) := by
 refine SFun.of (n := 83) Try.func48 rfl rfl rfl ?_
 unfold flow_build_own at h
 show SCode _ _ _ ⟨[(0, .a (bSNet a0_n))], []⟩ _
 refine SCode.seq (SCode.region (se rfl rfl (e_box rfl rfl rfl rfl rfl rfl) (sa rfl rfl (SOps.nil (SCode.seq (SCode.sub (st' := ⟨[(1, .c (.ptr 0 0))], [.box (bSNet a0_n)]⟩) (sub_gen [0] rfl rfl (zall rfl rfl) ⟨bx rfl rfl rfl, trivial⟩) ?_))))))
 obtain ⟨g1, h⟩ := guard_out h
 obtain ⟨g2, h⟩ := guard_out h
 obtain ⟨g3, h⟩ := guard_out h
 let ob366 : Ob := .rows 22 3 1 (List.replicate a0_n.Nodes.toNat ([] : List Int)).length (rLen (List.replicate a0_n.Nodes.toNat ([] : List Int))) (rGet (cInt .i64) 0 (List.replicate a0_n.Nodes.toNat ([] : List Int))) none
 let ob368 : Ob := aI 3 (List.replicate a0_n.Nodes.toNat (0 : Int))
 let ob372 : Ob := .box [.raw (.slice none 0 0), .own 1 (List.replicate a0_n.Nodes.toNat ([] : List Int)).length, .own 2 (List.replicate a0_n.Nodes.toNat (0 : Int)).length, .own 3 (List.replicate a0_n.Nodes.toNat (0 : Int)).length]
 let ob374 : Ob := .box [.raw (.slice none 0 0), .own 1 (List.replicate a0_n.Nodes.toNat ([] : List Int)).length, .own 3 (List.replicate a0_n.Nodes.toNat (0 : Int)).length, .own 2 (List.replicate a0_n.Nodes.toNat (0 : Int)).length]
 let ob378 : Ob := .box [.raw (.slice none 0 0), .own 2 (List.replicate a0_n.Nodes.toNat ([] : List Int)).length, .own 1 (List.replicate a0_n.Nodes.toNat (0 : Int)).length, .own 3 (List.replicate a0_n.Nodes.toNat (0 : Int)).length]
 let ob381 : Ob := .box [.raw (.slice none 0 0), .own 3 (List.replicate a0_n.Nodes.toNat ([] : List Int)).length, .own 1 (List.replicate a0_n.Nodes.toNat (0 : Int)).length, .own 2 (List.replicate a0_n.Nodes.toNat (0 : Int)).length]
 let ob383 : Ob := .box [.raw (.slice none 0 0), .own 2 (List.replicate a0_n.Nodes.toNat ([] : List Int)).length, .own 3 (List.replicate a0_n.Nodes.toNat (0 : Int)).length, .own 1 (List.replicate a0_n.Nodes.toNat (0 : Int)).length]
 let ob385 : Ob := .box [.raw (.slice none 0 0), .own 3 (List.replicate a0_n.Nodes.toNat ([] : List Int)).length, .own 2 (List.replicate a0_n.Nodes.toNat (0 : Int)).length, .own 1 (List.replicate a0_n.Nodes.toNat (0 : Int)).length]
 let av367 : AV := .c (.own 1 (List.replicate a0_n.Nodes.toNat ([] : List Int)).length)
 let av369 : AV := .c (.own 2 (List.replicate a0_n.Nodes.toNat (0 : Int)).length)
 let av370 : AV := .c (.own 3 (List.replicate a0_n.Nodes.toNat (0 : Int)).length)
 let av371 : AV := .a [.raw (.slice none 0 0), .own 1 (List.replicate a0_n.Nodes.toNat ([] : List Int)).length, .own 2 (List.replicate a0_n.Nodes.toNat (0 : Int)).length, .own 3 (List.replicate a0_n.Nodes.toNat (0 : Int)).length]
 let av373 : AV := .a [.raw (.slice none 0 0), .own 1 (List.replicate a0_n.Nodes.toNat ([] : List Int)).length, .own 3 (List.replicate a0_n.Nodes.toNat (0 : Int)).length, .own 2 (List.replicate a0_n.Nodes.toNat (0 : Int)).length]
 let av375 : AV := .c (.own 1 (List.replicate a0_n.Nodes.toNat (0 : Int)).length)
 let av376 : AV := .c (.own 2 (List.replicate a0_n.Nodes.toNat ([] : List Int)).length)
 let av377 : AV := .a [.raw (.slice none 0 0), .own 2 (List.replicate a0_n.Nodes.toNat ([] : List Int)).length, .own 1 (List.replicate a0_n.Nodes.toNat (0 : Int)).length, .own 3 (List.replicate a0_n.Nodes.toNat (0 : Int)).length]
 let av379 : AV := .c (.own 3 (List.replicate a0_n.Nodes.toNat ([] : List Int)).length)
 let av380 : AV := .a [.raw (.slice none 0 0), .own 3 (List.replicate a0_n.Nodes.toNat ([] : List Int)).length, .own 1 (List.replicate a0_n.Nodes.toNat (0 : Int)).length, .own 2 (List.replicate a0_n.Nodes.toNat (0 : Int)).length]
 let av382 : AV := .a [.raw (.slice none 0 0), .own 2 (List.replicate a0_n.Nodes.toNat ([] : List Int)).length, .own 3 (List.replicate a0_n.Nodes.toNat (0 : Int)).length, .own 1 (List.replicate a0_n.Nodes.toNat (0 : Int)).length]
 let av384 : AV := .a [.raw (.slice none 0 0), .own 3 (List.replicate a0_n.Nodes.toNat ([] : List Int)).length, .own 2 (List.replicate a0_n.Nodes.toNat (0 : Int)).length, .own 1 (List.replicate a0_n.Nodes.toNat (0 : Int)).length]
 let y1 := List.replicate a0_n.Nodes.toNat ([] : List Int)
 let y2 := List.replicate a0_n.Nodes.toNat (0 : Int)
 refine SCode.draw2 (sH := [(13, ci a0_n.Nodes), (12, .c (.ptr 0 0)), (10, ci a0_n.Nodes), (9, .c (.ptr 0 0)), (7, ci a0_n.Nodes), (6, .c (.ptr 0 0)), (1, .c (.ptr 0 0))]) mixed [[], [0], [0, 1], [], [3], [3, 4], [], [6], [6, 7], [0, 1, 2, 3, 4, 5, 6, 7, 8], [0, 1, 2, 3, 4, 5, 6, 7, 8, 9], [0, 1, 2, 3, 4, 5, 6, 7, 8, 9, 10]] [2, 5, 8, 9, 10, 11] (fun h => List.getD ([] : List (List Nat)) h []) rfl ?_ ⟨[(1, .c (.ptr 0 0)), (3, .c (.ptr 1 0))], [.box (bSNet a0_n), .box [.own 2 (([] : List SEdge)).length, .own 3 y1.length, .own 4 y2.length, .own 5 y2.length], aSEdge 75 (([] : List SEdge)), .rows 22 3 1 y1.length (rLen y1) (rGet (cInt .i64) 0 y1) none, aI 3 y2, aI 3 y2]⟩ ?_ ?_
 ·refine HChain.run rfl rfl (.plain rfl) rfl (fun f x => q_field_ptr rfl rfl fd49_0) (HChain.run rfl rfl (.plain rfl) rfl (fun f x => q_load_ptr rfl rfl rfl rfl ty3) (HChain.tail rfl (HChain.run rfl rfl (.plain rfl) rfl (fun f x => q_field_ptr rfl rfl fd49_0) (HChain.run rfl rfl (.plain rfl) rfl (fun f x => q_load_ptr rfl rfl rfl rfl ty3) (HChain.tail rfl (HChain.run rfl rfl (.plain rfl) rfl (fun f x => q_field_ptr rfl rfl fd49_0) (HChain.run rfl rfl (.plain rfl) rfl (fun f x => q_load_ptr rfl rfl rfl rfl ty3) (HChain.tail rfl (HChain.tail rfl (HChain.tail rfl (HChain.tail rfl ?_)))))))))))
  exact HChain.nil _ _
 ·refine TTree.node 2 [5, 8] rfl (AllP.cons ?_ (AllP.cons ?_ (AllP.cons ?_ AllP.nil)))
  ·refine td (objs' := [.box (bSNet a0_n), ob366]) (v := av367) 8 rfl rfl rfl rfl rfl (fun _ => EOp.eq (e_makeRows (T := 3) (k := 1) (cInt .i64) 0 rfl rfl rfl rfl rfl sl23 z22 g1.1 (Int.le_refl _) g1.2.1 g1.2.2) rfl) rfl rfl ?_
   refine TTree.node 5 [8] rfl (AllP.cons ?_ (AllP.cons ?_ AllP.nil))
   ·refine td (objs' := [.box (bSNet a0_n), ob366, ob368]) (v := av369) 11 rfl rfl rfl rfl rfl (fun _ => EOp.eq (e_makeL (c := (cInt .i64)) (d0 := 0) rfl rfl rfl rfl rfl sl22 z3 rfl rfl rfl g2.1 (Int.le_refl _) g2.2.1 g2.2.2) rfl) rfl rfl ?_
    refine t1 8 rfl (td (objs' := [.box (bSNet a0_n), ob366, ob368, ob368]) (v := av370) 14 rfl rfl rfl rfl rfl (fun _ => EOp.eq (e_makeL (c := (cInt .i64)) (d0 := 0) rfl rfl rfl rfl rfl sl22 z3 rfl rfl rfl g3.1 (Int.le_refl _) g3.2.1 g3.2.2) rfl) rfl rfl ?_)
    refine t1 9 rfl (td (objs' := [.box (bSNet a0_n), ob366, ob368, ob368]) (v := av371) 15 rfl rfl rfl rfl rfl (fun _ => EOp.eq (EOp.qd rfl rfl (q_build2 rfl rfl pl78 rfl)) rfl) rfl rfl ?_)
    refine t1 10 rfl (td (objs' := [.box (bSNet a0_n), ob366, ob368, ob368, ob372]) (v := .c (.ptr 4 0)) 16 rfl rfl rfl rfl rfl (fun _ => EOp.eq (e_box rfl rfl rfl rfl rfl rfl) rfl) rfl rfl ?_)
    refine t1 11 rfl (td (objs' := [.box (bSNet a0_n), ob366, ob368, ob368, ob372]) (v := .c (.ptr 4 0)) 3 rfl rfl rfl rfl rfl (fun _ => EOp.eq (EOp.qd rfl rfl (q_assign rfl rfl)) rfl) rfl rfl ?_)
    exact tl rfl (Sub.trans (Sub.nilBox (id := 4) (j := 0) (T := 75) (k := 2) (g := gL cSEdge dSEdge ([] : List SEdge)) rfl rfl) (sub_gen [0, 4, 5, 1, 2, 3] rfl rfl (zall rfl rfl) ⟨bx rfl rfl rfl, bx rfl rfl rfl, oa rfl, ⟨none, rfl, trivial⟩, oa rfl, oa rfl, trivial⟩))
   ·refine td (objs' := [.box (bSNet a0_n), ob366, ob368]) (v := av369) 14 rfl rfl rfl rfl rfl (fun _ => EOp.eq (e_makeL (c := (cInt .i64)) (d0 := 0) rfl rfl rfl rfl rfl sl22 z3 rfl rfl rfl g3.1 (Int.le_refl _) g3.2.1 g3.2.2) rfl) rfl rfl ?_
    refine t1 5 rfl (td (objs' := [.box (bSNet a0_n), ob366, ob368, ob368]) (v := av370) 11 rfl rfl rfl rfl rfl (fun _ => EOp.eq (e_makeL (c := (cInt .i64)) (d0 := 0) rfl rfl rfl rfl rfl sl22 z3 rfl rfl rfl g2.1 (Int.le_refl _) g2.2.1 g2.2.2) rfl) rfl rfl ?_)
    refine t1 9 rfl (td (objs' := [.box (bSNet a0_n), ob366, ob368, ob368]) (v := av373) 15 rfl rfl rfl rfl rfl (fun _ => EOp.eq (EOp.qd rfl rfl (q_build2 rfl rfl pl78 rfl)) rfl) rfl rfl ?_)
    refine t1 10 rfl (td (objs' := [.box (bSNet a0_n), ob366, ob368, ob368, ob374]) (v := .c (.ptr 4 0)) 16 rfl rfl rfl rfl rfl (fun _ => EOp.eq (e_box rfl rfl rfl rfl rfl rfl) rfl) rfl rfl ?_)
    refine t1 11 rfl (td (objs' := [.box (bSNet a0_n), ob366, ob368, ob368, ob374]) (v := .c (.ptr 4 0)) 3 rfl rfl rfl rfl rfl (fun _ => EOp.eq (EOp.qd rfl rfl (q_assign rfl rfl)) rfl) rfl rfl ?_)
    exact tl rfl (Sub.trans (Sub.nilBox (id := 4) (j := 0) (T := 75) (k := 2) (g := gL cSEdge dSEdge ([] : List SEdge)) rfl rfl) (sub_gen [0, 4, 5, 1, 3, 2] rfl rfl (zall rfl rfl) ⟨bx rfl rfl rfl, bx rfl rfl rfl, oa rfl, ⟨none, rfl, trivial⟩, oa rfl, oa rfl, trivial⟩))
  ·refine td (objs' := [.box (bSNet a0_n), ob368]) (v := av375) 11 rfl rfl rfl rfl rfl (fun _ => EOp.eq (e_makeL (c := (cInt .i64)) (d0 := 0) rfl rfl rfl rfl rfl sl22 z3 rfl rfl rfl g2.1 (Int.le_refl _) g2.2.1 g2.2.2) rfl) rfl rfl ?_
   refine TTree.node 2 [8] rfl (AllP.cons ?_ (AllP.cons ?_ AllP.nil))
   ·refine td (objs' := [.box (bSNet a0_n), ob368, ob366]) (v := av376) 8 rfl rfl rfl rfl rfl (fun _ => EOp.eq (e_makeRows (T := 3) (k := 1) (cInt .i64) 0 rfl rfl rfl rfl rfl sl23 z22 g1.1 (Int.le_refl _) g1.2.1 g1.2.2) rfl) rfl rfl ?_
    refine t1 8 rfl (td (objs' := [.box (bSNet a0_n), ob368, ob366, ob368]) (v := av370) 14 rfl rfl rfl rfl rfl (fun _ => EOp.eq (e_makeL (c := (cInt .i64)) (d0 := 0) rfl rfl rfl rfl rfl sl22 z3 rfl rfl rfl g3.1 (Int.le_refl _) g3.2.1 g3.2.2) rfl) rfl rfl ?_)
    refine t1 9 rfl (td (objs' := [.box (bSNet a0_n), ob368, ob366, ob368]) (v := av377) 15 rfl rfl rfl rfl rfl (fun _ => EOp.eq (EOp.qd rfl rfl (q_build2 rfl rfl pl78 rfl)) rfl) rfl rfl ?_)
    refine t1 10 rfl (td (objs' := [.box (bSNet a0_n), ob368, ob366, ob368, ob378]) (v := .c (.ptr 4 0)) 16 rfl rfl rfl rfl rfl (fun _ => EOp.eq (e_box rfl rfl rfl rfl rfl rfl) rfl) rfl rfl ?_)
    refine t1 11 rfl (td (objs' := [.box (bSNet a0_n), ob368, ob366, ob368, ob378]) (v := .c (.ptr 4 0)) 3 rfl rfl rfl rfl rfl (fun _ => EOp.eq (EOp.qd rfl rfl (q_assign rfl rfl)) rfl) rfl rfl ?_)
    exact tl rfl (Sub.trans (Sub.nilBox (id := 4) (j := 0) (T := 75) (k := 2) (g := gL cSEdge dSEdge ([] : List SEdge)) rfl rfl) (sub_gen [0, 4, 5, 2, 1, 3] rfl rfl (zall rfl rfl) ⟨bx rfl rfl rfl, bx rfl rfl rfl, oa rfl, ⟨none, rfl, trivial⟩, oa rfl, oa rfl, trivial⟩))
   ·refine td (objs' := [.box (bSNet a0_n), ob368, ob368]) (v := av369) 14 rfl rfl rfl rfl rfl (fun _ => EOp.eq (e_makeL (c := (cInt .i64)) (d0 := 0) rfl rfl rfl rfl rfl sl22 z3 rfl rfl rfl g3.1 (Int.le_refl _) g3.2.1 g3.2.2) rfl) rfl rfl ?_
    refine t1 2 rfl (td (objs' := [.box (bSNet a0_n), ob368, ob368, ob366]) (v := av379) 8 rfl rfl rfl rfl rfl (fun _ => EOp.eq (e_makeRows (T := 3) (k := 1) (cInt .i64) 0 rfl rfl rfl rfl rfl sl23 z22 g1.1 (Int.le_refl _) g1.2.1 g1.2.2) rfl) rfl rfl ?_)
    refine t1 9 rfl (td (objs' := [.box (bSNet a0_n), ob368, ob368, ob366]) (v := av380) 15 rfl rfl rfl rfl rfl (fun _ => EOp.eq (EOp.qd rfl rfl (q_build2 rfl rfl pl78 rfl)) rfl) rfl rfl ?_)
    refine t1 10 rfl (td (objs' := [.box (bSNet a0_n), ob368, ob368, ob366, ob381]) (v := .c (.ptr 4 0)) 16 rfl rfl rfl rfl rfl (fun _ => EOp.eq (e_box rfl rfl rfl rfl rfl rfl) rfl) rfl rfl ?_)
    refine t1 11 rfl (td (objs' := [.box (bSNet a0_n), ob368, ob368, ob366, ob381]) (v := .c (.ptr 4 0)) 3 rfl rfl rfl rfl rfl (fun _ => EOp.eq (EOp.qd rfl rfl (q_assign rfl rfl)) rfl) rfl rfl ?_)
    exact tl rfl (Sub.trans (Sub.nilBox (id := 4) (j := 0) (T := 75) (k := 2) (g := gL cSEdge dSEdge ([] : List SEdge)) rfl rfl) (sub_gen [0, 4, 5, 3, 1, 2] rfl rfl (zall rfl rfl) ⟨bx rfl rfl rfl, bx rfl rfl rfl, oa rfl, ⟨none, rfl, trivial⟩, oa rfl, oa rfl, trivial⟩))
  ·refine td (objs' := [.box (bSNet a0_n), ob368]) (v := av375) 14 rfl rfl rfl rfl rfl (fun _ => EOp.eq (e_makeL (c := (cInt .i64)) (d0 := 0) rfl rfl rfl rfl rfl sl22 z3 rfl rfl rfl g3.1 (Int.le_refl _) g3.2.1 g3.2.2) rfl) rfl rfl ?_
   refine TTree.node 2 [5] rfl (AllP.cons ?_ (AllP.cons ?_ AllP.nil))
   ·refine td (objs' := [.box (bSNet a0_n), ob368, ob366]) (v := av376) 8 rfl rfl rfl rfl rfl (fun _ => EOp.eq (e_makeRows (T := 3) (k := 1) (cInt .i64) 0 rfl rfl rfl rfl rfl sl23 z22 g1.1 (Int.le_refl _) g1.2.1 g1.2.2) rfl) rfl rfl ?_
    refine t1 5 rfl (td (objs' := [.box (bSNet a0_n), ob368, ob366, ob368]) (v := av370) 11 rfl rfl rfl rfl rfl (fun _ => EOp.eq (e_makeL (c := (cInt .i64)) (d0 := 0) rfl rfl rfl rfl rfl sl22 z3 rfl rfl rfl g2.1 (Int.le_refl _) g2.2.1 g2.2.2) rfl) rfl rfl ?_)
    refine t1 9 rfl (td (objs' := [.box (bSNet a0_n), ob368, ob366, ob368]) (v := av382) 15 rfl rfl rfl rfl rfl (fun _ => EOp.eq (EOp.qd rfl rfl (q_build2 rfl rfl pl78 rfl)) rfl) rfl rfl ?_)
    refine t1 10 rfl (td (objs' := [.box (bSNet a0_n), ob368, ob366, ob368, ob383]) (v := .c (.ptr 4 0)) 16 rfl rfl rfl rfl rfl (fun _ => EOp.eq (e_box rfl rfl rfl rfl rfl rfl) rfl) rfl rfl ?_)
    refine t1 11 rfl (td (objs' := [.box (bSNet a0_n), ob368, ob366, ob368, ob383]) (v := .c (.ptr 4 0)) 3 rfl rfl rfl rfl rfl (fun _ => EOp.eq (EOp.qd rfl rfl (q_assign rfl rfl)) rfl) rfl rfl ?_)
    exact tl rfl (Sub.trans (Sub.nilBox (id := 4) (j := 0) (T := 75) (k := 2) (g := gL cSEdge dSEdge ([] : List SEdge)) rfl rfl) (sub_gen [0, 4, 5, 2, 3, 1] rfl rfl (zall rfl rfl) ⟨bx rfl rfl rfl, bx rfl rfl rfl, oa rfl, ⟨none, rfl, trivial⟩, oa rfl, oa rfl, trivial⟩))
   ·refine td (objs' := [.box (bSNet a0_n), ob368, ob368]) (v := av369) 11 rfl rfl rfl rfl rfl (fun _ => EOp.eq (e_makeL (c := (cInt .i64)) (d0 := 0) rfl rfl rfl rfl rfl sl22 z3 rfl rfl rfl g2.1 (Int.le_refl _) g2.2.1 g2.2.2) rfl) rfl rfl ?_
    refine t1 2 rfl (td (objs' := [.box (bSNet a0_n), ob368, ob368, ob366]) (v := av379) 8 rfl rfl rfl rfl rfl (fun _ => EOp.eq (e_makeRows (T := 3) (k := 1) (cInt .i64) 0 rfl rfl rfl rfl rfl sl23 z22 g1.1 (Int.le_refl _) g1.2.1 g1.2.2) rfl) rfl rfl ?_)
    refine t1 9 rfl (td (objs' := [.box (bSNet a0_n), ob368, ob368, ob366]) (v := av384) 15 rfl rfl rfl rfl rfl (fun _ => EOp.eq (EOp.qd rfl rfl (q_build2 rfl rfl pl78 rfl)) rfl) rfl rfl ?_)
    refine t1 10 rfl (td (objs' := [.box (bSNet a0_n), ob368, ob368, ob366, ob385]) (v := .c (.ptr 4 0)) 16 rfl rfl rfl rfl rfl (fun _ => EOp.eq (e_box rfl rfl rfl rfl rfl rfl) rfl) rfl rfl ?_)
    refine t1 11 rfl (td (objs' := [.box (bSNet a0_n), ob368, ob368, ob366, ob385]) (v := .c (.ptr 4 0)) 3 rfl rfl rfl rfl rfl (fun _ => EOp.eq (EOp.qd rfl rfl (q_assign rfl rfl)) rfl) rfl rfl ?_)
    exact tl rfl (Sub.trans (Sub.nilBox (id := 4) (j := 0) (T := 75) (k := 2) (g := gL cSEdge dSEdge ([] : List SEdge)) rfl rfl) (sub_gen [0, 4, 5, 3, 2, 1] rfl rfl (zall rfl rfl) ⟨bx rfl rfl rfl, bx rfl rfl rfl, oa rfl, ⟨none, rfl, trivial⟩, oa rfl, oa rfl, trivial⟩))
 let S3 := fun (o1_4 : List SEdge) => fun (o2_5 : List (List Int)) => (⟨[(3, .c (.ptr 0 0))], [.box [.own 1 o1_4.length, .own 2 o2_5.length, .own 3 (List.replicate a0_n.Nodes.toNat (0 : Int)).length, .own 4 (List.replicate a0_n.Nodes.toNat (0 : Int)).length], aSEdge 75 o1_4, .rows 22 3 1 o2_5.length (rLen o2_5) (rGet (cInt .i64) 0 o2_5) none, aI 3 (List.replicate a0_n.Nodes.toNat (0 : Int)), aI 3 (List.replicate a0_n.Nodes.toNat (0 : Int))]⟩ : St)
 refine SCode.join (σ := (List SEdge) × (List (List Int))) (S := fun s => (S3 s.1 s.2)) (g := fun s => flow_build_own_p6 a0_n s.1 s.2 = some r) ?_ ?_
 rotate_left
 ·refine SCode.seq (SCode.region (sq rfl rfl (q_field_ptr rfl rfl fd49_1) (sq rfl rfl (q_load_ptr rfl rfl rfl rfl ty47) (sq rfl rfl (q_len_vec rfl rfl sl47) (sm rfl rfl ?_)))))
  let y3 := List.replicate a0_n.Nodes.toNat ([] : List Int)
  let y4 := List.replicate a0_n.Nodes.toNat (0 : Int)
  refine SOps.sub (st' := ⟨[(3, .c (.ptr 0 0)), (18, .c (vSArc a0_n.Arcs)), (19, ci (((a0_n.Arcs).length : Int))), (20, ci 0)], [.box [.own 1 (([] : List SEdge)).length, .own 2 y3.length, .own 3 y4.length, .own 4 y4.length], aSEdge 75 (([] : List SEdge)), .rows 22 3 1 y3.length (rLen y3) (rGet (cInt .i64) 0 y3) none, aI 3 y4, aI 3 y4]⟩) (sub_gen [1, 2, 3, 4, 5] rfl rfl (zall rfl rfl) ⟨bx rfl rfl rfl, oa rfl, ⟨none, rfl, trivial⟩, oa rfl, oa rfl, trivial⟩) (SOps.nil (SCode.block ?_))
  let S2 := fun (t20_20 : Int) => fun (o1_21 : List SEdge) => fun (o2_22 : List (List Int)) => (⟨[(3, .c (.ptr 0 0)), (18, .c (vSArc a0_n.Arcs)), (19, ci (((a0_n.Arcs).length : Int))), (20, ci t20_20)], [.box [.own 1 o1_21.length, .own 2 o2_22.length, .own 3 (List.replicate a0_n.Nodes.toNat (0 : Int)).length, .own 4 (List.replicate a0_n.Nodes.toNat (0 : Int)).length], aSEdge 75 o1_21, .rows 22 3 1 o2_22.length (rLen o2_22) (rGet (cInt .i64) 0 o2_22) none, aI 3 (List.replicate a0_n.Nodes.toNat (0 : Int)), aI 3 (List.replicate a0_n.Nodes.toNat (0 : Int))]⟩ : St)
  refine SCode.sub (st' := (S2 0 (([] : List SEdge)) (List.replicate a0_n.Nodes.toNat ([] : List Int)))) (sub_gen [0, 1, 2, 3, 4] rfl rfl (zall rfl rfl) ⟨bx rfl rfl rfl, oa rfl, ⟨none, rfl, trivial⟩, oa rfl, oa rfl, trivial⟩) ?_
  refine (SCode.loop (σ := Nat × (Int × (List SEdge) × (List (List Int)))) (S := fun s => (S2 s.2.1 s.2.2.1 s.2.2.2)) (g := fun s => flow_build_own_l36 a0_n s.1 s.2.1 s.2.2.1 s.2.2.2 = some r) (μ := fun s => s.1) (F, (0, ([] : List SEdge), List.replicate a0_n.Nodes.toNat ([] : List Int))) h ?_)
  rintro ⟨n_36, ⟨t20_20, o1_21, o2_22⟩⟩ h
  try dsimp only at h
  show SCode _ _ _ (S2 t20_20 o1_21 o2_22) _
  cases n_36 with
  | zero => cases h
  | succ n_36 =>
   rw [flow_build_own_l36] at h
   unfold flow_build_own_b36 at h
   refine SCode.seq (SCode.region (sq rfl rfl (q_lss rfl rfl rfl) ?_))
   let y5 := List.replicate a0_n.Nodes.toNat (0 : Int)
   refine SOps.sub (st' := ⟨[(3, .c (.ptr 0 0)), (18, .c (vSArc a0_n.Arcs)), (19, ci (((a0_n.Arcs).length : Int))), (20, ci t20_20), (21, .c (.bool (decide (t20_20 < ((a0_n.Arcs).length : Int)))))], [.box [.own 1 o1_21.length, .own 2 o2_22.length, .own 3 y5.length, .own 4 y5.length], aSEdge 75 o1_21, .rows 22 3 1 o2_22.length (rLen o2_22) (rGet (cInt .i64) 0 o2_22) none, aI 3 y5, aI 3 y5]⟩) (sub_gen [0, 1, 2, 3, 4] rfl rfl (zall rfl rfl) ⟨bx rfl rfl rfl, oa rfl, ⟨none, rfl, trivial⟩, oa rfl, oa rfl, trivial⟩) (SOps.nil (SCode.seq ?_))
   rcases cond_out h with ⟨g37, h⟩ | ⟨g37, h⟩
   ·refine SCode.cond_t rfl g37 (SCode.skip (SCode.seq (SCode.block (SCode.seq ?_))))
    obtain ⟨g38, h⟩ := guard_out h
    refine SCode.region (sm rfl rfl (sq rfl rfl (q_index_vec rfl rfl rfl sl47 rfl g38.1 g38.2) (sq rfl rfl (q_load_eptr_all rfl rfl rfl ty63) (se rfl rfl (e_alloc rfl rfl rfl z63) (sa rfl rfl (se rfl rfl (e_store_box rfl rfl rfl rfl rfl ty63 rfl rfl rfl rfl) ?_))))))
    let y6 := List.replicate a0_n.Nodes.toNat (0 : Int)
    refine SOps.sub (st' := ⟨[(3, .c (.ptr 0 0)), (4, ci t20_20), (5, .c (.ptr 5 0)), (18, .c (vSArc a0_n.Arcs)), (19, ci (((a0_n.Arcs).length : Int))), (20, ci t20_20)], [.box [.own 1 o1_21.length, .own 2 o2_22.length, .own 3 y6.length, .own 4 y6.length], aSEdge 75 o1_21, .rows 22 3 1 o2_22.length (rLen o2_22) (rGet (cInt .i64) 0 o2_22) none, aI 3 y6, aI 3 y6, .box (bSArc (a0_n.Arcs.getD t20_20.toNat dSArc))]⟩) (sub_gen [0, 1, 2, 3, 4, 5] rfl rfl (zall rfl rfl) ⟨bx rfl rfl rfl, oa rfl, ⟨none, rfl, trivial⟩, oa rfl, oa rfl, bx rfl rfl rfl, trivial⟩) (SOps.nil (SCode.seq ?_))
    obtain ⟨g39, h⟩ := guard_out h
    let ob357 : Ob := .box [.own 1 o1_21.length, .own 2 o2_22.length, .own 3 (List.replicate a0_n.Nodes.toNat (0 : Int)).length, .own 4 (List.replicate a0_n.Nodes.toNat (0 : Int)).length]
    let ob358 : Ob := .rows 22 3 1 o2_22.length (rLen o2_22) (rGet (cInt .i64) 0 o2_22) none
    let ob359 : Ob := aI 3 (List.replicate a0_n.Nodes.toNat (0 : Int))
    let ob360 : Ob := .box (bSArc (a0_n.Arcs.getD t20_20.toNat dSArc))
    let ob362 : Ob := aSEdge 75 (o1_21 ++ ([SEdge.mk ((a0_n.Arcs.getD t20_20.toNat dSArc).To) ((a0_n.Arcs.getD t20_20.toNat dSArc).Cap), SEdge.mk ((a0_n.Arcs.getD t20_20.toNat dSArc).From) 0]))
    let ob364 : Ob := .box [.own 6 (o1_21 ++ ([SEdge.mk ((a0_n.Arcs.getD t20_20.toNat dSArc).To) ((a0_n.Arcs.getD t20_20.toNat dSArc).Cap), SEdge.mk ((a0_n.Arcs.getD t20_20.toNat dSArc).From) 0])).length, .own 2 o2_22.length, .own 3 (List.replicate a0_n.Nodes.toNat (0 : Int)).length, .own 4 (List.replicate a0_n.Nodes.toNat (0 : Int)).length]
    let av363 : AV := .c (.own 6 (o1_21 ++ ([SEdge.mk ((a0_n.Arcs.getD t20_20.toNat dSArc).To) ((a0_n.Arcs.getD t20_20.toNat dSArc).Cap), SEdge.mk ((a0_n.Arcs.getD t20_20.toNat dSArc).From) 0])).length)
    let y7 := a0_n.Arcs.getD t20_20.toNat dSArc
    let y8 := List.replicate a0_n.Nodes.toNat (0 : Int)
    let y9 := [SEdge.mk (y7.To) (y7.Cap), SEdge.mk (y7.From) 0]
    refine SCode.draw2 (sH := [(38, .c (vSEdge y9)), (37, .a [.int .i64 (y7.From), .int .i64 0]), (36, ci (y7.From)), (35, .c (.ptr 5 0)), (34, .a [.int .i64 (y7.To), .int .i64 (y7.Cap)]), (33, ci (y7.Cap)), (32, .c (.ptr 5 2)), (31, ci (y7.To)), (30, .c (.ptr 5 1)), (29, .c (.own 1 o1_21.length)), (28, .c (.ptr 0 0)), (27, .c (.ptr 0 0)), (26, .c (.ptr 0 0)), (25, .c (.ptr 0 0)), (3, .c (.ptr 0 0)), (4, ci t20_20), (5, .c (.ptr 5 0)), (18, .c (vSArc a0_n.Arcs)), (19, ci (((a0_n.Arcs).length : Int))), (20, ci t20_20)]) mixed [[], [], [1], [1, 2], [1, 2, 3], [], [5], [], [7], [5, 6, 7, 8], [], [10], [10, 11], [5, 6, 7, 8, 9, 10, 11, 12], [1, 2, 3, 4, 5, 6, 7, 8, 9, 10, 11, 12, 13], [0, 1, 2, 3, 4, 5, 6, 7, 8, 9, 10, 11, 12, 13, 14], [0, 1, 2, 3, 4, 5, 6, 7, 8, 9, 10, 11, 12, 13, 14, 15], [0, 1, 2, 3, 4, 5, 6, 7, 8, 9, 10, 11, 12, 13, 14, 15, 16]] [14, 15, 16, 17] (fun h => List.getD [[1]] h []) rfl ?_ ⟨[(3, .c (.ptr 0 0)), (4, ci t20_20), (5, .c (.ptr 5 0)), (18, .c (vSArc a0_n.Arcs)), (19, ci (((a0_n.Arcs).length : Int))), (20, ci t20_20)], [.box [.own 1 (o1_21 ++ y9).length, .own 2 o2_22.length, .own 3 y8.length, .own 4 y8.length], aSEdge 75 (o1_21 ++ y9), .rows 22 3 1 o2_22.length (rLen o2_22) (rGet (cInt .i64) 0 o2_22) none, aI 3 y8, aI 3 y8, .box (bSArc y7)]⟩ ?_ ?_
    ·refine HChain.run rfl rfl (.plain rfl) rfl (fun f x => q_move rfl rfl) (HChain.run rfl rfl (.plain rfl) rfl (fun f x => q_move rfl rfl) (HChain.run rfl rfl (.plain rfl) rfl (fun f x => q_nilCheck rfl rfl rfl) (HChain.run rfl rfl (.plain rfl) rfl (fun f x => q_field_ptr rfl rfl fd78_0) (HChain.run rfl rfl (.plain rfl) rfl (fun f x => q_load_ptr rfl rfl rfl rfl ty76) (HChain.run rfl rfl (.plain rfl) rfl (fun f x => q_field_ptr rfl rfl fd63_1) (HChain.run rfl rfl (.plain rfl) rfl (fun f x => q_load_ptr rfl rfl rfl rfl ty3) (HChain.run rfl rfl (.plain rfl) rfl (fun f x => q_field_ptr rfl rfl fd63_2) (HChain.run rfl rfl (.plain rfl) rfl (fun f x => q_load_ptr rfl rfl rfl rfl ty3) (HChain.run rfl rfl (.plain rfl) rfl (fun f x => q_build2 rfl rfl pl75 rfl) (HChain.run rfl rfl (.plain rfl) rfl (fun f x => q_field_ptr rfl rfl fd63_0) (HChain.run rfl rfl (.plain rfl) rfl (fun f x => q_load_ptr rfl rfl rfl rfl ty3) (HChain.run rfl rfl (.plain rfl) rfl (fun f x => q_build2 rfl rfl pl75 rfl) (HChain.run rfl rfl (.plain rfl) rfl (fun f x => q_bsliceL (c := cSEdge) (d0 := dSEdge) [SEdge.mk ((a0_n.Arcs.getD t20_20.toNat dSArc).To) ((a0_n.Arcs.getD t20_20.toNat dSArc).Cap), SEdge.mk ((a0_n.Arcs.getD t20_20.toNat dSArc).From) 0] rfl rfl sl76 z75 rfl rfl rfl rfl rfl rfl rfl) (HChain.tail rfl (HChain.tail rfl ?_)))))))))))))))
     refine HChain.tail rfl (HChain.tail rfl ?_)
     exact HChain.nil _ _
    ·refine t1 14 rfl (TStep.d (objs' := [ob357, .dead, ob358, ob359, ob359, ob360, ob362]) (v := av363) [1] 39 rfl rfl rfl rfl rfl (fun s2 => by refine EOp.eq (e_appendL (c := cSEdge) (d0 := dSEdge) (l := o1_21) (l2 := [SEdge.mk ((a0_n.Arcs.getD t20_20.toNat dSArc).To) ((a0_n.Arcs.getD t20_20.toNat dSArc).Cap), SEdge.mk ((a0_n.Arcs.getD t20_20.toNat dSArc).From) 0]) rfl rfl rfl rfl rfl rfl (.inl rfl) sl76 z75 rfl rfl oneSEdge g39.1 g39.2) ?_; rfl) ⟨rfl, ⟨⟨⟨⟨⟨⟨trivial, .inr rfl⟩, .inl rfl⟩, .inr rfl⟩, .inr rfl⟩, .inr rfl⟩, .inr rfl⟩, ?_⟩)
     refine t1 15 rfl (td (objs' := [ob357, .dead, ob358, ob359, ob359, ob360, ob362]) (v := .c (.ptr 0 0)) 40 rfl rfl rfl rfl rfl (fun _ => EOp.eq (EOp.qd rfl rfl (q_nilCheck rfl rfl rfl)) rfl) rfl rfl ?_)
     refine t1 16 rfl (td (objs' := [ob357, .dead, ob358, ob359, ob359, ob360, ob362]) (v := .c (.ptr 0 0)) 41 rfl rfl rfl rfl rfl (fun _ => EOp.eq (EOp.qd rfl rfl (q_field_ptr rfl rfl fd78_0)) rfl) rfl rfl ?_)
     refine t1 17 rfl (TStep.n (objs' := [ob364, .dead, ob358, ob359, ob359, ob360, ob362]) [0] rfl rfl rfl rfl (fun s2 => by refine EOp.eq (e_store_box rfl rfl rfl rfl rfl ty76 rfl rfl rfl rfl) ?_; rfl) ⟨rfl, ⟨⟨⟨⟨⟨⟨trivial, .inl rfl⟩, .inr rfl⟩, .inr rfl⟩, .inr rfl⟩, .inr rfl⟩, .inr rfl⟩, ?_⟩)
     exact tl rfl (sub_gen [0, 6, 2, 3, 4, 5] rfl rfl (zall rfl rfl) ⟨bx rfl rfl rfl, oa rfl, ⟨none, rfl, trivial⟩, oa rfl, oa rfl, bx rfl rfl rfl, trivial⟩)
    refine SCode.seq ?_
    obtain ⟨g41, h⟩ := guard_out h
    let y10 := a0_n.Arcs.getD t20_20.toNat dSArc
    let y11 := List.replicate a0_n.Nodes.toNat (0 : Int)
    refine SCode.sub (st' := ⟨[(3, .c (.ptr 0 0)), (4, ci t20_20), (5, .c (.ptr 5 0)), (18, .c (vSArc a0_n.Arcs)), (19, ci (((a0_n.Arcs).length : Int))), (20, ci t20_20)], [.box [.own 1 (o1_21 ++ ([SEdge.mk (y10.To) (y10.Cap), SEdge.mk (y10.From) 0])).length, .own 2 o2_22.length, .own 3 y11.length, .own 4 y11.length], aSEdge 75 (o1_21 ++ ([SEdge.mk (y10.To) (y10.Cap), SEdge.mk (y10.From) 0])), .rows 22 3 1 o2_22.length (rLen o2_22) (rGet (cInt .i64) 0 o2_22) (some (((y10.From).toNat), .own 6 (o2_22.getD ((y10.From).toNat) []).length)), aI 3 y11, aI 3 y11, .box (bSArc y10), aI 3 (o2_22.getD ((y10.From).toNat) [])]⟩) (Sub.focus (F := 2) (h := (y10.From).toNat) rfl (toNat_lt g41)) ?_
    obtain ⟨g42, h⟩ := guard_out h
    obtain ⟨g43, h⟩ := guard_out h
    obtain ⟨g44, h⟩ := guard_out h
    let ob346 : Ob := .box [.own 1 (o1_21 ++ ([SEdge.mk ((a0_n.Arcs.getD t20_20.toNat dSArc).To) ((a0_n.Arcs.getD t20_20.toNat dSArc).Cap), SEdge.mk ((a0_n.Arcs.getD t20_20.toNat dSArc).From) 0])).length, .own 2 o2_22.length, .own 3 (List.replicate a0_n.Nodes.toNat (0 : Int)).length, .own 4 (List.replicate a0_n.Nodes.toNat (0 : Int)).length]
    let ob347 : Ob := aSEdge 75 (o1_21 ++ ([SEdge.mk ((a0_n.Arcs.getD t20_20.toNat dSArc).To) ((a0_n.Arcs.getD t20_20.toNat dSArc).Cap), SEdge.mk ((a0_n.Arcs.getD t20_20.toNat dSArc).From) 0]))
    let ob348 : Ob := .rows 22 3 1 o2_22.length (rLen o2_22) (rGet (cInt .i64) 0 o2_22) (some ((((a0_n.Arcs.getD t20_20.toNat dSArc).From).toNat), .own 6 (o2_22.getD (((a0_n.Arcs.getD t20_20.toNat dSArc).From).toNat) []).length))
    let ob349 : Ob := aI 3 (List.replicate a0_n.Nodes.toNat (0 : Int))
    let ob350 : Ob := .box (bSArc (a0_n.Arcs.getD t20_20.toNat dSArc))
    let ob351 : Ob := aI 3 (o2_22.getD (((a0_n.Arcs.getD t20_20.toNat dSArc).From).toNat) [])
    let ob353 : Ob := aI 3 ((o2_22.getD (((a0_n.Arcs.getD t20_20.toNat dSArc).From).toNat) []) ++ ([IntKind.wrap .i64 (2 * t20_20)]))
    let ob356 : Ob := .rows 22 3 1 o2_22.length (rLen o2_22) (rGet (cInt .i64) 0 o2_22) (some ((((a0_n.Arcs.getD t20_20.toNat dSArc).From).toNat), .own 7 ((o2_22.getD (((a0_n.Arcs.getD t20_20.toNat dSArc).From).toNat) []) ++ ([IntKind.wrap .i64 (2 * t20_20)])).length))
    let av354 : AV := .c (.own 7 ((o2_22.getD (((a0_n.Arcs.getD t20_20.toNat dSArc).From).toNat) []) ++ ([IntKind.wrap .i64 (2 * t20_20)])).length)
    let av355 : AV := .c (.aptr 2 1 (((a0_n.Arcs.getD t20_20.toNat dSArc).From).toNat) 0)
    let y12 := a0_n.Arcs.getD t20_20.toNat dSArc
    let y13 := o2_22.set ((y12.From).toNat) ((o2_22.getD ((y12.From).toNat) []) ++ ([IntKind.wrap .i64 (2 * t20_20)]))
    let y14 := List.replicate a0_n.Nodes.toNat (0 : Int)
    refine SCode.draw2 (sH := [(58, .c (vI ([IntKind.wrap .i64 (2 * t20_20)]))), (57, ci (IntKind.wrap .i64 (2 * t20_20))), (56, ci t20_20), (55, .c (.own 6 (o2_22.getD ((y12.From).toNat) []).length)), (54, .c (.aptr 2 1 ((y12.From).toNat) 0)), (53, ci (y12.From)), (52, .c (.ptr 5 0)), (51, .c (.own 2 o2_22.length)), (50, .c (.ptr 0 1)), (49, .c (.ptr 0 0)), (48, .c (.ptr 0 0)), (47, ci (y12.From)), (46, .c (.ptr 5 0)), (45, .c (.own 2 o2_22.length)), (44, .c (.ptr 0 1)), (43, .c (.ptr 0 0)), (42, .c (.ptr 0 0)), (3, .c (.ptr 0 0)), (4, ci t20_20), (5, .c (.ptr 5 0)), (18, .c (vSArc a0_n.Arcs)), (19, ci (((a0_n.Arcs).length : Int))), (20, ci t20_20)]) mixed [[], [0], [0, 1], [0, 1, 2], [], [4], [], [6], [6, 7], [6, 7, 8], [], [10], [6, 7, 8, 9, 10, 11], [6, 7, 8, 9, 10, 11, 12], [], [14], [14, 15], [6, 7, 8, 9, 10, 11, 12, 13, 14, 15, 16], [0, 1, 2, 3, 4, 5, 6, 7, 8, 9, 10, 11, 12, 13, 14, 15, 16, 17], [0, 1, 2, 3, 4, 5, 6, 7, 8, 9, 10, 11, 12, 13, 14, 15, 16, 17, 18]] [17, 18, 19] (fun h => List.getD [[6], [6], [6], [6], [6], [6]] h []) rfl ?_ ⟨[(3, .c (.ptr 0 0)), (4, ci t20_20), (5, .c (.ptr 5 0)), (18, .c (vSArc a0_n.Arcs)), (19, ci (((a0_n.Arcs).length : Int))), (20, ci t20_20)], [.box [.own 1 (o1_21 ++ ([SEdge.mk (y12.To) (y12.Cap), SEdge.mk (y12.From) 0])).length, .own 2 y13.length, .own 3 y14.length, .own 4 y14.length], aSEdge 75 (o1_21 ++ ([SEdge.mk (y12.To) (y12.Cap), SEdge.mk (y12.From) 0])), .rows 22 3 1 y13.length (rLen y13) (rGet (cInt .i64) 0 y13) none, aI 3 y14, aI 3 y14, .box (bSArc y12)]⟩ ?_ ?_
    ·refine HChain.run rfl rfl (.plain rfl) rfl (fun f x => q_move rfl rfl) (HChain.run rfl rfl (.plain rfl) rfl (fun f x => q_nilCheck rfl rfl rfl) (HChain.run rfl rfl (.plain rfl) rfl (fun f x => q_field_ptr rfl rfl fd78_1) (HChain.run rfl rfl (.plain rfl) rfl (fun f x => q_load_ptr rfl rfl rfl rfl ty23) (HChain.run rfl rfl (.plain rfl) rfl (fun f x => q_field_ptr rfl rfl fd63_0) (HChain.run rfl rfl (.plain rfl) rfl (fun f x => q_load_ptr rfl rfl rfl rfl ty3) (HChain.run rfl rfl (.plain rfl) rfl (fun f x => q_move rfl rfl) (HChain.run rfl rfl (.plain rfl) rfl (fun f x => q_nilCheck rfl rfl rfl) (HChain.run rfl rfl (.plain rfl) rfl (fun f x => q_field_ptr rfl rfl fd78_1) (HChain.run rfl rfl (.plain rfl) rfl (fun f x => q_load_ptr rfl rfl rfl rfl ty23) (HChain.run rfl rfl (.plain rfl) rfl (fun f x => q_field_ptr rfl rfl fd63_0) (HChain.run rfl rfl (.plain rfl) rfl (fun f x => q_load_ptr rfl rfl rfl rfl ty3) (HChain.run rfl rfl (.plain rfl) rfl (fun f x => q_index_own rfl rfl rfl sl23 g42.1 g42.2) (HChain.run rfl rfl (.plain rfl) rfl (fun f x => q_load_hole rfl rfl rfl (toNat_lt g42) ty22) (HChain.run rfl rfl (.plain rfl) rfl (fun f x => q_move rfl rfl) (HChain.run rfl rfl (.plain rfl) rfl (fun f x => q_mul rfl rfl rfl) ?_)))))))))))))))
     refine HChain.run rfl rfl (.plain rfl) rfl (fun f x => q_bsliceL (c := (cInt .i64)) (d0 := 0) [IntKind.wrap .i64 (2 * t20_20)] rfl rfl sl22 z3 rfl rfl rfl rfl rfl rfl rfl) (HChain.tail rfl (HChain.tail rfl (HChain.tail rfl ?_)))
     exact HChain.nil _ _
    ·refine t1 17 rfl (TStep.d (objs' := [ob346, ob347, ob348, ob349, ob349, ob350, .dead, ob353]) (v := av354) [6] 59 rfl rfl rfl rfl rfl (fun s2 => by refine EOp.eq (e_appendL (c := (cInt .i64)) (d0 := 0) (l := o2_22.getD (((a0_n.Arcs.getD t20_20.toNat dSArc).From).toNat) []) (l2 := [IntKind.wrap .i64 (2 * t20_20)]) rfl rfl rfl rfl rfl rfl (.inl rfl) sl22 z3 rfl rfl oneInt g43.1 g43.2) ?_; rfl) ⟨rfl, ⟨⟨⟨⟨⟨⟨⟨trivial, .inr rfl⟩, .inr rfl⟩, .inr rfl⟩, .inr rfl⟩, .inr rfl⟩, .inr rfl⟩, .inl rfl⟩, ?_⟩)
     refine t1 18 rfl (td (objs' := [ob346, ob347, ob348, ob349, ob349, ob350, .dead, ob353]) (v := av355) 60 rfl rfl rfl rfl rfl (fun _ => EOp.eq (EOp.qd rfl rfl (q_index_own rfl rfl rfl sl23 g44.1 g44.2)) rfl) rfl rfl ?_)
     refine t1 19 rfl (TStep.n (objs' := [ob346, ob347, ob356, ob349, ob349, ob350, .dead, ob353]) [2] rfl rfl rfl rfl (fun s2 => by refine EOp.eq (e_store_hole rfl rfl rfl rfl rfl (toNat_lt g44) ty22 rfl) ?_; rfl) ⟨rfl, ⟨⟨⟨⟨⟨⟨⟨trivial, .inr rfl⟩, .inr rfl⟩, .inl rfl⟩, .inr rfl⟩, .inr rfl⟩, .inr rfl⟩, .inr rfl⟩, ?_⟩)
     exact tl rfl (Sub.trans (Sub.unfocusL (F := 2) (j := 7) rfl rfl rfl) (sub_gen [0, 1, 2, 3, 4, 5] rfl rfl (zall rfl rfl) ⟨⟨_, rfl, ⟨ii rfl rfl, .inl ⟨rfl, congrArg (Cell.own 2) (List.length_set : (o2_22.set (((a0_n.Arcs.getD t20_20.toNat dSArc).From).toNat) ((o2_22.getD (((a0_n.Arcs.getD t20_20.toNat dSArc).From).toNat) []) ++ ([IntKind.wrap .i64 (2 * t20_20)]))).length = o2_22.length).symm⟩, ii rfl rfl, ii rfl rfl, trivial⟩⟩, oa rfl, ⟨none, rfl, trivial⟩, oa rfl, oa rfl, bx rfl rfl rfl, trivial⟩))
    obtain ⟨g46, h⟩ := guard_out h
    let y16 := a0_n.Arcs.getD t20_20.toNat dSArc
    let y15 := o2_22.set ((y16.From).toNat) ((o2_22.getD ((y16.From).toNat) []) ++ ([IntKind.wrap .i64 (2 * t20_20)]))
    let y17 := List.replicate a0_n.Nodes.toNat (0 : Int)
    refine SCode.sub (st' := ⟨[(3, .c (.ptr 0 0)), (4, ci t20_20), (5, .c (.ptr 5 0)), (18, .c (vSArc a0_n.Arcs)), (19, ci (((a0_n.Arcs).length : Int))), (20, ci t20_20)], [.box [.own 1 (o1_21 ++ ([SEdge.mk (y16.To) (y16.Cap), SEdge.mk (y16.From) 0])).length, .own 2 y15.length, .own 3 y17.length, .own 4 y17.length], aSEdge 75 (o1_21 ++ ([SEdge.mk (y16.To) (y16.Cap), SEdge.mk (y16.From) 0])), .rows 22 3 1 y15.length (rLen y15) (rGet (cInt .i64) 0 y15) (some (((y16.To).toNat), .own 6 (y15.getD ((y16.To).toNat) []).length)), aI 3 y17, aI 3 y17, .box (bSArc y16), aI 3 (y15.getD ((y16.To).toNat) [])]⟩) (Sub.focus (F := 2) (h := (y16.To).toNat) rfl (toNat_lt g46)) ?_
    obtain ⟨g47, h⟩ := guard_out h
    obtain ⟨g48, h⟩ := guard_out h
    obtain ⟨g49, h⟩ := guard_out h
    let ob335 : Ob := .box [.own 1 (o1_21 ++ ([SEdge.mk ((a0_n.Arcs.getD t20_20.toNat dSArc).To) ((a0_n.Arcs.getD t20_20.toNat dSArc).Cap), SEdge.mk ((a0_n.Arcs.getD t20_20.toNat dSArc).From) 0])).length, .own 2 (o2_22.set (((a0_n.Arcs.getD t20_20.toNat dSArc).From).toNat) ((o2_22.getD (((a0_n.Arcs.getD t20_20.toNat dSArc).From).toNat) []) ++ ([IntKind.wrap .i64 (2 * t20_20)]))).length, .own 3 (List.replicate a0_n.Nodes.toNat (0 : Int)).length, .own 4 (List.replicate a0_n.Nodes.toNat (0 : Int)).length]
    let ob336 : Ob := aSEdge 75 (o1_21 ++ ([SEdge.mk ((a0_n.Arcs.getD t20_20.toNat dSArc).To) ((a0_n.Arcs.getD t20_20.toNat dSArc).Cap), SEdge.mk ((a0_n.Arcs.getD t20_20.toNat dSArc).From) 0]))
    let ob337 : Ob := .rows 22 3 1 (o2_22.set (((a0_n.Arcs.getD t20_20.toNat dSArc).From).toNat) ((o2_22.getD (((a0_n.Arcs.getD t20_20.toNat dSArc).From).toNat) []) ++ ([IntKind.wrap .i64 (2 * t20_20)]))).length (rLen (o2_22.set (((a0_n.Arcs.getD t20_20.toNat dSArc).From).toNat) ((o2_22.getD (((a0_n.Arcs.getD t20_20.toNat dSArc).From).toNat) []) ++ ([IntKind.wrap .i64 (2 * t20_20)])))) (rGet (cInt .i64) 0 (o2_22.set (((a0_n.Arcs.getD t20_20.toNat dSArc).From).toNat) ((o2_22.getD (((a0_n.Arcs.getD t20_20.toNat dSArc).From).toNat) []) ++ ([IntKind.wrap .i64 (2 * t20_20)])))) (some ((((a0_n.Arcs.getD t20_20.toNat dSArc).To).toNat), .own 6 ((o2_22.set (((a0_n.Arcs.getD t20_20.toNat dSArc).From).toNat) ((o2_22.getD (((a0_n.Arcs.getD t20_20.toNat dSArc).From).toNat) []) ++ ([IntKind.wrap .i64 (2 * t20_20)]))).getD (((a0_n.Arcs.getD t20_20.toNat dSArc).To).toNat) []).length))
    let ob338 : Ob := aI 3 (List.replicate a0_n.Nodes.toNat (0 : Int))
    let ob339 : Ob := .box (bSArc (a0_n.Arcs.getD t20_20.toNat dSArc))
    let ob340 : Ob := aI 3 ((o2_22.set (((a0_n.Arcs.getD t20_20.toNat dSArc).From).toNat) ((o2_22.getD (((a0_n.Arcs.getD t20_20.toNat dSArc).From).toNat) []) ++ ([IntKind.wrap .i64 (2 * t20_20)]))).getD (((a0_n.Arcs.getD t20_20.toNat dSArc).To).toNat) [])
    let ob342 : Ob := aI 3 (((o2_22.set (((a0_n.Arcs.getD t20_20.toNat dSArc).From).toNat) ((o2_22.getD (((a0_n.Arcs.getD t20_20.toNat dSArc).From).toNat) []) ++ ([IntKind.wrap .i64 (2 * t20_20)]))).getD (((a0_n.Arcs.getD t20_20.toNat dSArc).To).toNat) []) ++ ([IntKind.wrap .i64 (IntKind.wrap .i64 (2 * t20_20) + 1)]))
    let ob345 : Ob := .rows 22 3 1 (o2_22.set (((a0_n.Arcs.getD t20_20.toNat dSArc).From).toNat) ((o2_22.getD (((a0_n.Arcs.getD t20_20.toNat dSArc).From).toNat) []) ++ ([IntKind.wrap .i64 (2 * t20_20)]))).length (rLen (o2_22.set (((a0_n.Arcs.getD t20_20.toNat dSArc).From).toNat) ((o2_22.getD (((a0_n.Arcs.getD t20_20.toNat dSArc).From).toNat) []) ++ ([IntKind.wrap .i64 (2 * t20_20)])))) (rGet (cInt .i64) 0 (o2_22.set (((a0_n.Arcs.getD t20_20.toNat dSArc).From).toNat) ((o2_22.getD (((a0_n.Arcs.getD t20_20.toNat dSArc).From).toNat) []) ++ ([IntKind.wrap .i64 (2 * t20_20)])))) (some ((((a0_n.Arcs.getD t20_20.toNat dSArc).To).toNat), .own 7 (((o2_22.set (((a0_n.Arcs.getD t20_20.toNat dSArc).From).toNat) ((o2_22.getD (((a0_n.Arcs.getD t20_20.toNat dSArc).From).toNat) []) ++ ([IntKind.wrap .i64 (2 * t20_20)]))).getD (((a0_n.Arcs.getD t20_20.toNat dSArc).To).toNat) []) ++ ([IntKind.wrap .i64 (IntKind.wrap .i64 (2 * t20_20) + 1)])).length))
    let av343 : AV := .c (.own 7 (((o2_22.set (((a0_n.Arcs.getD t20_20.toNat dSArc).From).toNat) ((o2_22.getD (((a0_n.Arcs.getD t20_20.toNat dSArc).From).toNat) []) ++ ([IntKind.wrap .i64 (2 * t20_20)]))).getD (((a0_n.Arcs.getD t20_20.toNat dSArc).To).toNat) []) ++ ([IntKind.wrap .i64 (IntKind.wrap .i64 (2 * t20_20) + 1)])).length)
    let av344 : AV := .c (.aptr 2 1 (((a0_n.Arcs.getD t20_20.toNat dSArc).To).toNat) 0)
    let y20 := a0_n.Arcs.getD t20_20.toNat dSArc
    let y18 := o2_22.set ((y20.From).toNat) ((o2_22.getD ((y20.From).toNat) []) ++ ([IntKind.wrap .i64 (2 * t20_20)]))
    let y19 := y18.set ((y20.To).toNat) ((y18.getD ((y20.To).toNat) []) ++ ([IntKind.wrap .i64 (IntKind.wrap .i64 (2 * t20_20) + 1)]))
    let y21 := List.replicate a0_n.Nodes.toNat (0 : Int)
    refine SCode.draw2 (sH := [(78, .c (vI ([IntKind.wrap .i64 (IntKind.wrap .i64 (2 * t20_20) + 1)]))), (77, ci (IntKind.wrap .i64 (IntKind.wrap .i64 (2 * t20_20) + 1))), (76, ci (IntKind.wrap .i64 (2 * t20_20))), (75, ci t20_20), (74, .c (.own 6 (y18.getD ((y20.To).toNat) []).length)), (73, .c (.aptr 2 1 ((y20.To).toNat) 0)), (72, ci (y20.To)), (71, .c (.ptr 5 1)), (70, .c (.own 2 y18.length)), (69, .c (.ptr 0 1)), (68, .c (.ptr 0 0)), (67, .c (.ptr 0 0)), (66, ci (y20.To)), (65, .c (.ptr 5 1)), (64, .c (.own 2 y18.length)), (63, .c (.ptr 0 1)), (62, .c (.ptr 0 0)), (61, .c (.ptr 0 0)), (3, .c (.ptr 0 0)), (4, ci t20_20), (5, .c (.ptr 5 0)), (18, .c (vSArc a0_n.Arcs)), (19, ci (((a0_n.Arcs).length : Int))), (20, ci t20_20)]) mixed [[], [0], [0, 1], [0, 1, 2], [], [4], [], [6], [6, 7], [6, 7, 8], [], [10], [6, 7, 8, 9, 10, 11], [6, 7, 8, 9, 10, 11, 12], [], [14], [14, 15], [14, 15, 16], [6, 7, 8, 9, 10, 11, 12, 13, 14, 15, 16, 17], [0, 1, 2, 3, 4, 5, 6, 7, 8, 9, 10, 11, 12, 13, 14, 15, 16, 17, 18], [0, 1, 2, 3, 4, 5, 6, 7, 8, 9, 10, 11, 12, 13, 14, 15, 16, 17, 18, 19]] [18, 19, 20] (fun h => List.getD [[6], [6], [6], [6], [6], [6]] h []) rfl ?_ ⟨[(3, .c (.ptr 0 0)), (18, .c (vSArc a0_n.Arcs)), (19, ci (((a0_n.Arcs).length : Int))), (20, ci t20_20)], [.box [.own 1 (o1_21 ++ ([SEdge.mk (y20.To) (y20.Cap), SEdge.mk (y20.From) 0])).length, .own 2 y19.length, .own 3 y21.length, .own 4 y21.length], aSEdge 75 (o1_21 ++ ([SEdge.mk (y20.To) (y20.Cap), SEdge.mk (y20.From) 0])), .rows 22 3 1 y19.length (rLen y19) (rGet (cInt .i64) 0 y19) none, aI 3 y21, aI 3 y21]⟩ ?_ ?_
    ·refine HChain.run rfl rfl (.plain rfl) rfl (fun f x => q_move rfl rfl) (HChain.run rfl rfl (.plain rfl) rfl (fun f x => q_nilCheck rfl rfl rfl) (HChain.run rfl rfl (.plain rfl) rfl (fun f x => q_field_ptr rfl rfl fd78_1) (HChain.run rfl rfl (.plain rfl) rfl (fun f x => q_load_ptr rfl rfl rfl rfl ty23) (HChain.run rfl rfl (.plain rfl) rfl (fun f x => q_field_ptr rfl rfl fd63_1) (HChain.run rfl rfl (.plain rfl) rfl (fun f x => q_load_ptr rfl rfl rfl rfl ty3) (HChain.run rfl rfl (.plain rfl) rfl (fun f x => q_move rfl rfl) (HChain.run rfl rfl (.plain rfl) rfl (fun f x => q_nilCheck rfl rfl rfl) (HChain.run rfl rfl (.plain rfl) rfl (fun f x => q_field_ptr rfl rfl fd78_1) (HChain.run rfl rfl (.plain rfl) rfl (fun f x => q_load_ptr rfl rfl rfl rfl ty23) (HChain.run rfl rfl (.plain rfl) rfl (fun f x => q_field_ptr rfl rfl fd63_1) (HChain.run rfl rfl (.plain rfl) rfl (fun f x => q_load_ptr rfl rfl rfl rfl ty3) (HChain.run rfl rfl (.plain rfl) rfl (fun f x => q_index_own rfl rfl rfl sl23 g47.1 g47.2) (HChain.run rfl rfl (.plain rfl) rfl (fun f x => q_load_hole rfl rfl rfl (toNat_lt g47) ty22) (HChain.run rfl rfl (.plain rfl) rfl (fun f x => q_move rfl rfl) (HChain.run rfl rfl (.plain rfl) rfl (fun f x => q_mul rfl rfl rfl) ?_)))))))))))))))
     refine HChain.run rfl rfl (.plain rfl) rfl (fun f x => q_add rfl rfl rfl) (HChain.run rfl rfl (.plain rfl) rfl (fun f x => q_bsliceL (c := (cInt .i64)) (d0 := 0) [IntKind.wrap .i64 (IntKind.wrap .i64 (2 * t20_20) + 1)] rfl rfl sl22 z3 rfl rfl rfl rfl rfl rfl rfl) (HChain.tail rfl (HChain.tail rfl (HChain.tail rfl ?_))))
     exact HChain.nil _ _
    ·refine t1 18 rfl (TStep.d (objs' := [ob335, ob336, ob337, ob338, ob338, ob339, .dead, ob342]) (v := av343) [6] 79 rfl rfl rfl rfl rfl (fun s2 => by refine EOp.eq (e_appendL (c := (cInt .i64)) (d0 := 0) (l := (o2_22.set (((a0_n.Arcs.getD t20_20.toNat dSArc).From).toNat) ((o2_22.getD (((a0_n.Arcs.getD t20_20.toNat dSArc).From).toNat) []) ++ ([IntKind.wrap .i64 (2 * t20_20)]))).getD (((a0_n.Arcs.getD t20_20.toNat dSArc).To).toNat) []) (l2 := [IntKind.wrap .i64 (IntKind.wrap .i64 (2 * t20_20) + 1)]) rfl rfl rfl rfl rfl rfl (.inl rfl) sl22 z3 rfl rfl oneInt g48.1 g48.2) ?_; rfl) ⟨rfl, ⟨⟨⟨⟨⟨⟨⟨trivial, .inr rfl⟩, .inr rfl⟩, .inr rfl⟩, .inr rfl⟩, .inr rfl⟩, .inr rfl⟩, .inl rfl⟩, ?_⟩)
     refine t1 19 rfl (td (objs' := [ob335, ob336, ob337, ob338, ob338, ob339, .dead, ob342]) (v := av344) 80 rfl rfl rfl rfl rfl (fun _ => EOp.eq (EOp.qd rfl rfl (q_index_own rfl rfl rfl sl23 g49.1 g49.2)) rfl) rfl rfl ?_)
     refine t1 20 rfl (TStep.n (objs' := [ob335, ob336, ob345, ob338, ob338, ob339, .dead, ob342]) [2] rfl rfl rfl rfl (fun s2 => by refine EOp.eq (e_store_hole rfl rfl rfl rfl rfl (toNat_lt g49) ty22 rfl) ?_; rfl) ⟨rfl, ⟨⟨⟨⟨⟨⟨⟨trivial, .inr rfl⟩, .inr rfl⟩, .inl rfl⟩, .inr rfl⟩, .inr rfl⟩, .inr rfl⟩, .inr rfl⟩, ?_⟩)
     let y22 := o2_22.set (((a0_n.Arcs.getD t20_20.toNat dSArc).From).toNat) ((o2_22.getD (((a0_n.Arcs.getD t20_20.toNat dSArc).From).toNat) []) ++ ([IntKind.wrap .i64 (2 * t20_20)]))
     exact tl rfl (Sub.trans (Sub.unfocusL (F := 2) (j := 7) rfl rfl rfl) (sub_gen [0, 1, 2, 3, 4] rfl rfl (zall rfl rfl) ⟨⟨_, rfl, ⟨ii rfl rfl, .inl ⟨rfl, congrArg (Cell.own 2) (List.length_set : (y22.set (((a0_n.Arcs.getD t20_20.toNat dSArc).To).toNat) ((y22.getD (((a0_n.Arcs.getD t20_20.toNat dSArc).To).toNat) []) ++ ([IntKind.wrap .i64 (IntKind.wrap .i64 (2 * t20_20) + 1)]))).length = y22.length).symm⟩, ii rfl rfl, ii rfl rfl, trivial⟩⟩, oa rfl, ⟨none, rfl, trivial⟩, oa rfl, oa rfl, trivial⟩))
    refine SCode.region (sq rfl rfl (q_add rfl rfl rfl) (sm rfl rfl ?_))
    let y23 := (o2_22.set (((a0_n.Arcs.getD t20_20.toNat dSArc).From).toNat) ((o2_22.getD (((a0_n.Arcs.getD t20_20.toNat dSArc).From).toNat) []) ++ ([IntKind.wrap .i64 (2 * t20_20)]))).set (((a0_n.Arcs.getD t20_20.toNat dSArc).To).toNat) (((o2_22.set (((a0_n.Arcs.getD t20_20.toNat dSArc).From).toNat) ((o2_22.getD (((a0_n.Arcs.getD t20_20.toNat dSArc).From).toNat) []) ++ ([IntKind.wrap .i64 (2 * t20_20)]))).getD (((a0_n.Arcs.getD t20_20.toNat dSArc).To).toNat) []) ++ ([IntKind.wrap .i64 (IntKind.wrap .i64 (2 * t20_20) + 1)]))
    let y24 := o1_21 ++ ([SEdge.mk ((a0_n.Arcs.getD t20_20.toNat dSArc).To) ((a0_n.Arcs.getD t20_20.toNat dSArc).Cap), SEdge.mk ((a0_n.Arcs.getD t20_20.toNat dSArc).From) 0])
    let y25 := List.replicate a0_n.Nodes.toNat (0 : Int)
    refine SOps.sub (st' := ⟨[(3, .c (.ptr 0 0)), (18, .c (vSArc a0_n.Arcs)), (19, ci (((a0_n.Arcs).length : Int))), (20, ci (IntKind.wrap .i64 (t20_20 + 1)))], [.box [.own 1 y24.length, .own 2 y23.length, .own 3 y25.length, .own 4 y25.length], aSEdge 75 y24, .rows 22 3 1 y23.length (rLen y23) (rGet (cInt .i64) 0 y23) none, aI 3 y25, aI 3 y25]⟩) (sub_gen [0, 1, 2, 3, 4] rfl rfl (zall rfl rfl) ⟨bx rfl rfl rfl, oa rfl, ⟨none, rfl, trivial⟩, oa rfl, oa rfl, trivial⟩) (SOps.nil ?_)
    let y26 := a0_n.Arcs.getD t20_20.toNat dSArc
    let y27 := o2_22.set ((y26.From).toNat) ((o2_22.getD ((y26.From).toNat) []) ++ ([IntKind.wrap .i64 (2 * t20_20)]))
    exact ⟨(n_36, (IntKind.wrap .i64 (t20_20 + 1), o1_21 ++ ([SEdge.mk (y26.To) (y26.Cap), SEdge.mk (y26.From) 0]), y27.set ((y26.To).toNat) ((y27.getD ((y26.To).toNat) []) ++ ([IntKind.wrap .i64 (IntKind.wrap .i64 (2 * t20_20) + 1)])))), h, Nat.lt_succ_self n_36, sub_gen [0, 1, 2, 3, 4] rfl rfl (zall rfl rfl) ⟨bx rfl rfl rfl, oa rfl, ⟨none, rfl, trivial⟩, oa rfl, oa rfl, trivial⟩⟩
   refine SCode.cond_f rfl g37 (SCode.exit ?_)
   exact ⟨(o1_21, o2_22), h, sub_gen [0, 1, 2, 3, 4] rfl rfl (zall rfl rfl) ⟨bx rfl rfl rfl, oa rfl, ⟨none, rfl, trivial⟩, oa rfl, oa rfl, trivial⟩⟩
 rintro ⟨o1_4, o2_5⟩ h
 show SCode _ _ _ (S3 o1_4 o2_5) _
 try dsimp only at h
 unfold flow_build_own_p6 at h
 refine SCode.seq (SCode.region (sm rfl rfl (sa rfl rfl ?_)))
 let y28 := List.replicate a0_n.Nodes.toNat (0 : Int)
 refine SOps.sub (st' := ⟨[(2, .c (.ptr 0 0))], [.box [.own 1 o1_4.length, .own 2 o2_5.length, .own 3 y28.length, .own 4 y28.length], aSEdge 75 o1_4, .rows 22 3 1 o2_5.length (rLen o2_5) (rGet (cInt .i64) 0 o2_5) none, aI 3 y28, aI 3 y28]⟩) (sub_gen [0, 1, 2, 3, 4] rfl rfl (zall rfl rfl) ⟨bx rfl rfl rfl, oa rfl, ⟨none, rfl, trivial⟩, oa rfl, oa rfl, trivial⟩) (SOps.nil (SCode.ret ?_))
 obtain rfl := Option.some.inj h
 let y29 := List.replicate a0_n.Nodes.toNat (0 : Int)
 exact ⟨⟨[(2, .c (.ptr 0 0))], [.box [.own 1 o1_4.length, vR o2_5, .own 2 y29.length, .own 3 y29.length], aSEdge 75 o1_4, aI 3 y29, aI 3 y29]⟩, _, sub_gen [0, 1, 3, 4] rfl rfl (zall rfl rfl) ⟨⟨_, rfl, ⟨ii rfl rfl, .inr (.inr (.inr (.inr (.inr (.inl ⟨_, _, _, _, _, _, _, _, _, rfl, rfl, rfl, Nat.le_refl _, fun _ _ => ⟨_, rfl, fun _ _ _ _ => rfl⟩, by decide⟩))))), ii rfl rfl, ii rfl rfl, trivial⟩⟩, oa rfl, oa rfl, oa rfl, trivial⟩, resA1 (v := .c (.ptr 0 0)) rfl rfl, ⟨rfl, rfl⟩⟩
theorem flow_Max_own_ok (F : Nat) (a0_n : SNet) (a1_source : Int) (a2_sink : Int) (r : Int × (List Int) × Int) (h : flow_Max_own F a0_n a1_source a2_sink = some r) :
  SFun Try.prog 40 [] [.a (bSNet a0_n), ci a1_source, ci a2_sink] (fun x os => x = .t [.c (.int .i64 r.1), .c (.own 0 r.2.1.length), .c (.int .i64 r.2.2)] ∧ os = [aI 3 r.2.1]) := by
 refine SFun.of (n := 52) Try.func40 rfl rfl rfl ?_
 unfold flow_Max_own at h
 show SCode _ _ _ ⟨[(0, .a (bSNet a0_n)), (1, ci a1_source), (2, ci a2_sink)], []⟩ _
 refine SCode.seq (SCode.region (se rfl rfl (e_box rfl rfl rfl rfl rfl rfl) (sa rfl rfl (sa rfl rfl (SOps.nilArrL (T := 3) (k := 1) (cInt .i64) 0 (s := 7) rfl rfl (sa rfl rfl (SOps.nil (SCode.seq (SCode.seq ?_)))))))))
 obtain ⟨c_1, g2, h⟩ := bind_out h
 try dsimp only at h
 refine SCode.region (sq rfl rfl (q_load_ptr_all rfl rfl rfl rfl rfl ty49) (sm rfl rfl (sm rfl rfl (sq rfl rfl (q_call (flow_valid_ok F a0_n a1_source a2_sink c_1 g2) [] rfl fn47 ⟨⟨rfl, rfl⟩, ⟨_, rfl, .inl ⟨rfl, rfl⟩⟩, ⟨_, rfl, .inl ⟨rfl, rfl⟩⟩, trivial⟩ (.inl rfl)) (sa rfl rfl (SOps.nil (SCode.seq (SCode.region (sm rfl rfl (sq rfl rfl (q_neq rfl rfl rfl) (SOps.nil ?_)))))))))))
 rcases cond_out h with ⟨g3, h⟩ | ⟨g3, h⟩
 ·refine SCode.cond_t rfl g3 (SCode.seq (SCode.region (sm rfl rfl (sa rfl rfl (sa rfl rfl (SOps.nilArrL (T := 3) (k := 1) (cInt .i64) 0 (s := 7) rfl rfl (sa rfl rfl (SOps.nil (SCode.ret ?_)))))))))
  obtain rfl := Option.some.inj h
  exact ⟨⟨[(6, ci 0), (7, .c (.own 0 (([] : List Int)).length)), (8, ci c_1)], [aI 3 (([] : List Int))]⟩, _, sub_gen [2] rfl rfl (zall rfl rfl) ⟨oa rfl, trivial⟩, resA3 (v1 := .c (.int .i64 0)) (v2 := .c (.own 0 (([] : List Int)).length)) (v3 := .c (.int .i64 c_1)) rfl rfl rfl rfl, ⟨rfl, rfl⟩⟩
 refine SCode.cond_f rfl g3 (SCode.skip (SCode.seq ?_))
 obtain ⟨c_4, g5, h⟩ := bind_out h
 try dsimp only at h
 refine SCode.region (sq rfl rfl (q_load_ptr_all rfl rfl rfl rfl rfl ty49) (se rfl rfl (e_call (flow_build_own_ok F a0_n c_4 g5) [] rfl fn48 rfl rfl rfl rfl rfl rfl rfl rfl) (sa rfl rfl (SOps.nil (SCode.seq ?_)))))
 obtain ⟨c_6, g7, h⟩ := bind_out h
 try dsimp only at h
 refine SCode.region (sm rfl rfl (sm rfl rfl (sm rfl rfl (se rfl rfl (e_call (flow_graph_run_ok F c_4.1 c_4.2.1 c_4.2.2.1 c_4.2.2.2 a1_source a2_sink c_6 g7) [2, 3, 4, 5] rfl fn49 rfl rfl rfl rfl rfl rfl rfl rfl) (sa rfl rfl (SOps.sub (st' := ⟨[(3, .c (.ptr 0 0)), (10, .c (.ptr 1 0)), (11, ci c_6.1)], [.box (bSNet a0_n), .box [.own 2 c_6.2.1.length, vR c_4.2.1, .own 3 c_6.2.2.1.length, .own 4 c_6.2.2.2.length], aSEdge 75 c_6.2.1, aI 3 c_6.2.2.1, aI 3 c_6.2.2.2]⟩) (sub_gen [0, 2, 3, 4, 5] rfl rfl (zall rfl rfl) ⟨bx rfl rfl rfl, bx rfl rfl rfl, oa rfl, oa rfl, oa rfl, trivial⟩) (SOps.nil (SCode.seq ?_))))))))
 obtain ⟨g8, h⟩ := guard_out h
 refine SCode.region (sq rfl rfl (q_field_ptr rfl rfl fd49_1) (sq rfl rfl (q_load_ptr rfl rfl rfl rfl ty47) (sq rfl rfl (q_len_vec rfl rfl sl47) (se rfl rfl (e_makeL (c := (cInt .i64)) (d0 := 0) rfl rfl rfl rfl rfl sl22 z3 rfl rfl rfl g8.1 (Int.le_refl _) g8.2.1 g8.2.2) (sa rfl rfl (SOps.nil ?_))))))
 let S3 := fun (o0_9 : List Int) => (⟨[(11, ci c_6.1), (12, .c (.own 0 o0_9.length))], [aI 3 o0_9]⟩ : St)
 refine SCode.join (σ := (List Int)) (S := fun s => (S3 s)) (g := fun s => flow_Max_own_p10 c_6 s = some r) ?_ ?_
 rotate_left
 ·refine SCode.seq (SCode.region (sm rfl rfl (sq rfl rfl (q_len_own rfl rfl sl22) (sm rfl rfl (SOps.nil (SCode.block ?_))))))
  let S2 := fun (t33_14 : Int) => fun (o4_15 : List Int) => (⟨[(10, .c (.ptr 0 0)), (11, ci c_6.1), (12, .c (.own 4 o4_15.length)), (32, ci (((List.replicate (((a0_n.Arcs).length : Int)).toNat (0 : Int)).length : Int))), (33, ci t33_14)], [.box [.own 1 c_6.2.1.length, vR c_4.2.1, .own 2 c_6.2.2.1.length, .own 3 c_6.2.2.2.length], aSEdge 75 c_6.2.1, aI 3 c_6.2.2.1, aI 3 c_6.2.2.2, aI 3 o4_15]⟩ : St)
  refine SCode.sub (st' := (S2 0 (List.replicate (((a0_n.Arcs).length : Int)).toNat (0 : Int)))) (sub_gen [1, 2, 3, 4, 5] rfl rfl (zall rfl rfl) ⟨bx rfl rfl rfl, oa rfl, oa rfl, oa rfl, oa rfl, trivial⟩) ?_
  refine (SCode.loop (σ := Nat × (Int × (List Int))) (S := fun s => (S2 s.2.1 s.2.2)) (g := fun s => flow_Max_own_l19 a0_n c_6 s.1 s.2.1 s.2.2 = some r) (μ := fun s => s.1) (F, (0, List.replicate (((a0_n.Arcs).length : Int)).toNat (0 : Int))) h ?_)
  rintro ⟨n_19, ⟨t33_14, o4_15⟩⟩ h
  try dsimp only at h
  show SCode _ _ _ (S2 t33_14 o4_15) _
  cases n_19 with
  | zero => cases h
  | succ n_19 =>
   rw [flow_Max_own_l19] at h
   unfold flow_Max_own_b19 at h
   refine SCode.seq (SCode.region (sq rfl rfl (q_lss rfl rfl rfl) (SOps.nil (SCode.seq ?_))))
   rcases cond_out h with ⟨g20, h⟩ | ⟨g20, h⟩
   ·refine SCode.cond_t rfl g20 (SCode.skip (SCode.seq (SCode.block (SCode.seq (SCode.region (sm rfl rfl (sa rfl rfl (SOps.nil ?_))))))))
    obtain ⟨g21, h⟩ := guard_out h
    obtain ⟨g22, h⟩ := guard_out h
    refine SCode.region (sm rfl rfl (sm rfl rfl (sm rfl rfl (sq rfl rfl (q_nilCheck rfl rfl rfl) (sq rfl rfl (q_field_ptr rfl rfl fd78_0) (sq rfl rfl (q_load_ptr rfl rfl rfl rfl ty76) (sm rfl rfl (sq rfl rfl (q_mul rfl rfl rfl) (sq rfl rfl (q_add rfl rfl rfl) (sq rfl rfl (q_index_own rfl rfl rfl sl76 g21.1 g21.2) (sq rfl rfl (q_field_aptr rfl rfl fd75_1) (sq rfl rfl (q_load_aptr rfl rfl rfl (toNat_lt g21) rfl ty3) (sq rfl rfl (q_index_own rfl rfl rfl sl22 g22.1 g22.2) (se rfl rfl (e_storeL ((c_6.2.1.getD ((IntKind.wrap .i64 (IntKind.wrap .i64 (2 * t33_14) + 1)).toNat) dSEdge).room) rfl rfl rfl rfl rfl (toNat_lt g22) ty3 rfl rfl rfl rfl rfl rfl) ?_))))))))))))))
    let y1 := o4_15.set t33_14.toNat ((c_6.2.1.getD ((IntKind.wrap .i64 (IntKind.wrap .i64 (2 * t33_14) + 1)).toNat) dSEdge).room)
    refine SOps.sub (st' := ⟨[(10, .c (.ptr 0 0)), (11, ci c_6.1), (12, .c (.own 4 y1.length)), (32, ci (((List.replicate (((a0_n.Arcs).length : Int)).toNat (0 : Int)).length : Int))), (33, ci t33_14)], [.box [.own 1 c_6.2.1.length, vR c_4.2.1, .own 2 c_6.2.2.1.length, .own 3 c_6.2.2.2.length], aSEdge 75 c_6.2.1, aI 3 c_6.2.2.1, aI 3 c_6.2.2.2, aI 3 y1]⟩) (sub_gen [0, 1, 2, 3, 4] rfl rfl ⟨zc rfl rfl, zc rfl rfl, ⟨_, rfl, .inl ⟨rfl, congrArg (Cell.own 4) (List.length_set : y1.length = o4_15.length).symm⟩⟩, zc rfl rfl, zc rfl rfl, trivial⟩ ⟨bx rfl rfl rfl, oa rfl, oa rfl, oa rfl, oa rfl, trivial⟩) (SOps.nil (SCode.region (sq rfl rfl (q_add rfl rfl rfl) (sm rfl rfl (SOps.nil ?_)))))
    exact ⟨(n_19, (IntKind.wrap .i64 (t33_14 + 1), o4_15.set t33_14.toNat ((c_6.2.1.getD ((IntKind.wrap .i64 (IntKind.wrap .i64 (2 * t33_14) + 1)).toNat) dSEdge).room))), h, Nat.lt_succ_self n_19, sub_gen [0, 1, 2, 3, 4] rfl rfl (zall rfl rfl) ⟨bx rfl rfl rfl, oa rfl, oa rfl, oa rfl, oa rfl, trivial⟩⟩
   refine SCode.cond_f rfl g20 (SCode.exit ?_)
   exact ⟨o4_15, h, sub_gen [4] rfl rfl (zall rfl rfl) ⟨oa rfl, trivial⟩⟩
 rintro o0_9 h
 show SCode _ _ _ (S3 o0_9) _
 try dsimp only at h
 unfold flow_Max_own_p10 at h
 refine SCode.seq (SCode.region (sm rfl rfl (sm rfl rfl (sa rfl rfl (sa rfl rfl (sa rfl rfl (SOps.nil (SCode.ret ?_))))))))
 obtain rfl := Option.some.inj h
 exact ⟨⟨[(6, ci c_6.1), (7, .c (.own 0 o0_9.length)), (8, ci 0)], [aI 3 o0_9]⟩, _, sub_gen [0] rfl rfl (zall rfl rfl) ⟨oa rfl, trivial⟩, resA3 (v1 := .c (.int .i64 c_6.1)) (v2 := .c (.own 0 o0_9.length)) (v3 := .c (.int .i64 0)) rfl rfl rfl rfl, ⟨rfl, rfl⟩⟩
theorem plan_route_ok (F : Nat) (a0_n : SNet) (a1_energy : List Int) (r : (List Int) × Bool × (List SArc)) (h : plan_route F a0_n a1_energy = some r) :
  SFun Try.prog 26 [aSArc 63 a0_n.Arcs] [.a [.int .i64 a0_n.Nodes, .own 0 a0_n.Arcs.length], .c (vI a1_energy)] (fun x os => x = .t [.c (vI r.1), .c (.bool r.2.1)] ∧ os = [aSArc 63 r.2.2]) := by
 refine SFun.of (n := 43) Try.func26 rfl rfl rfl ?_
 unfold plan_route at h
 show SCode _ _ _ ⟨[(0, .a [.int .i64 a0_n.Nodes, .own 0 a0_n.Arcs.length]), (1, .c (vI a1_energy))], [aSArc 63 a0_n.Arcs]⟩ _
 refine SCode.seq (SCode.region (se rfl rfl (e_box rfl rfl rfl rfl rfl rfl) (sa rfl rfl (sa rfl rfl (SOps.nil (SCode.seq (SCode.region (sa rfl rfl (SOps.nil ?_)))))))))
 let S3 := fun (total_1 : Int) => fun (o0_2 : List SArc) => (⟨[(2, .c (.ptr 1 0)), (6, ci total_1)], [aSArc 63 o0_2, .box [.int .i64 a0_n.Nodes, .own 0 o0_2.length]]⟩ : St)
 refine SCode.join (σ := Int × (List SArc)) (S := fun s => (S3 s.1 s.2)) (g := fun s => plan_route_p6 F a0_n s.1 s.2 = some r) ?_ ?_
 rotate_left
 ·refine SCode.seq (SCode.region (sm rfl rfl (sq rfl rfl (q_len_vec rfl rfl sl22) (sm rfl rfl (SOps.nil (SCode.block ?_))))))
  let S2 := fun (total_10 : Int) => fun (t14_11 : Int) => fun (o0_12 : List SArc) => (⟨[(2, .c (.ptr 1 0)), (6, ci total_10), (12, .c (vI a1_energy)), (13, ci (((a1_energy).length : Int))), (14, ci t14_11)], [aSArc 63 o0_12, .box [.int .i64 a0_n.Nodes, .own 0 o0_12.length]]⟩ : St)
  refine SCode.sub (st' := (S2 0 0 a0_n.Arcs)) (sub_gen [0, 1] rfl rfl (zall rfl rfl) ⟨oa rfl, bx rfl rfl rfl, trivial⟩) ?_
  refine (SCode.loop (σ := Nat × (Int × Int × (List SArc))) (S := fun s => (S2 s.2.1 s.2.2.1 s.2.2.2)) (g := fun s => plan_route_l16 F a0_n a1_energy s.1 s.2.1 s.2.2.1 s.2.2.2 = some r) (μ := fun s => s.1) (F, (0, 0, a0_n.Arcs)) h ?_)
  rintro ⟨n_16, ⟨total_10, t14_11, o0_12⟩⟩ h
  try dsimp only at h
  show SCode _ _ _ (S2 total_10 t14_11 o0_12) _
  cases n_16 with
  | zero => cases h
  | succ n_16 =>
   rw [plan_route_l16] at h
   unfold plan_route_b16 at h
   refine SCode.seq (SCode.region (sq rfl rfl (q_lss rfl rfl rfl) (SOps.nil (SCode.seq ?_))))
   rcases cond_out h with ⟨g17, h⟩ | ⟨g17, h⟩
   ·refine SCode.cond_t rfl g17 (SCode.skip (SCode.seq (SCode.block (SCode.seq ?_))))
    obtain ⟨g18, h⟩ := guard_out h
    refine SCode.region (sm rfl rfl (sq rfl rfl (q_index_vec rfl rfl rfl sl22 rfl g18.1 g18.2) (sq rfl rfl (q_load_eptr rfl rfl ty3) (sa rfl rfl (sa rfl rfl (SOps.nil (SCode.seq ?_)))))))
    obtain ⟨g19, h⟩ := guard_out h
    refine SCode.region (sq rfl rfl (q_field_ptr rfl rfl fd49_1) (sq rfl rfl (q_load_ptr rfl rfl rfl rfl ty47) (sm rfl rfl (sm rfl rfl (sq rfl rfl (q_index_own rfl rfl rfl sl47 g19.1 g19.2) (sq rfl rfl (q_field_aptr rfl rfl fd63_2) (se rfl rfl (e_storeL (SArc.mk ((o0_12.getD t14_11.toNat dSArc).From) ((o0_12.getD t14_11.toNat dSArc).To) (a1_energy.getD t14_11.toNat 0)) rfl rfl rfl rfl rfl (toNat_lt g19) ty3 rfl rfl rfl rfl rfl rfl) ?_)))))))
    let y1 := o0_12.set t14_11.toNat (SArc.mk ((o0_12.getD t14_11.toNat dSArc).From) ((o0_12.getD t14_11.toNat dSArc).To) (a1_energy.getD t14_11.toNat 0))
    refine SOps.sub (st' := ⟨[(2, .c (.ptr 1 0)), (6, ci total_10), (8, ci (a1_energy.getD t14_11.toNat 0)), (12, .c (vI a1_energy)), (13, ci (((a1_energy).length : Int))), (14, ci t14_11)], [aSArc 63 y1, .box [.int .i64 a0_n.Nodes, .own 0 y1.length]]⟩) (sub_gen [0, 1] rfl rfl (zall rfl rfl) ⟨oa rfl, ⟨_, rfl, ⟨ii rfl rfl, .inl ⟨rfl, congrArg (Cell.own 0) (List.length_set : y1.length = o0_12.length).symm⟩, trivial⟩⟩, trivial⟩) (SOps.nil (SCode.region (sm rfl rfl (sm rfl rfl (sq rfl rfl (q_add rfl rfl rfl) (sa rfl rfl (SOps.nil (SCode.region (sq rfl rfl (q_add rfl rfl rfl) (sm rfl rfl (SOps.nil ?_)))))))))))
    exact ⟨(n_16, (IntKind.wrap .i64 (total_10 + a1_energy.getD t14_11.toNat 0), IntKind.wrap .i64 (t14_11 + 1), o0_12.set t14_11.toNat (SArc.mk ((o0_12.getD t14_11.toNat dSArc).From) ((o0_12.getD t14_11.toNat dSArc).To) (a1_energy.getD t14_11.toNat 0)))), h, Nat.lt_succ_self n_16, sub_gen [0, 1] rfl rfl (zall rfl rfl) ⟨oa rfl, bx rfl rfl rfl, trivial⟩⟩
   refine SCode.cond_f rfl g17 (SCode.exit ?_)
   exact ⟨(total_10, o0_12), h, sub_gen [0, 1] rfl rfl (zall rfl rfl) ⟨oa rfl, bx rfl rfl rfl, trivial⟩⟩
 rintro ⟨total_1, o0_2⟩ h
 show SCode _ _ _ (S3 total_1 o0_2) _
 try dsimp only at h
 unfold plan_route_p6 at h
 refine SCode.seq ?_
 obtain ⟨c_3, g4, h⟩ := bind_out h
 try dsimp only at h
 refine SCode.region (sq rfl rfl (q_load_ptr_all rfl rfl rfl rfl rfl ty49) (se rfl rfl (e_callL (flow_Max_own_ok F (SNet.mk a0_n.Nodes o0_2) 0 1 c_3 g4) [] [0] rfl fn40 rfl rfl rfl rfl rfl rfl rfl rfl (nrs ⟨fun _ _ => rfl, trivial⟩) ⟨⟨.inl ⟨rfl, rfl⟩, .inr (.inl ⟨_, _, _, _, _, _, _, rfl, rfl, rfl, Nat.le_refl _, fun _ _ _ _ => rfl, (.head _)⟩), trivial⟩, .inl ⟨rfl, rfl⟩, .inl ⟨rfl, rfl⟩, trivial⟩) (sm rfl rfl (sq rfl rfl (q_extract rfl rfl rfl) (sq rfl rfl (q_extract rfl rfl rfl) (sq rfl rfl (q_extract rfl rfl rfl) (sa rfl rfl (sa rfl rfl (sa rfl rfl (SOps.nil (SCode.seq ?_)))))))))))
 rcases cond_out h with ⟨g5, h⟩ | ⟨g5, h⟩
 ·refine SCode.region (sm rfl rfl (sm rfl rfl (sq rfl rfl (q_eql rfl rfl rfl) (sm rfl rfl (SOps.q rfl (.guard 3 38 true rfl rfl (gT g5)) rfl (q_move rfl rfl) (SOps.q rfl (.guard 3 38 true rfl rfl (gT g5)) rfl (q_move rfl rfl) (SOps.q rfl (.guard 3 38 true rfl rfl (gT g5)) rfl (q_eql rfl rfl rfl) (sq rfl rfl (q_pick_t rfl rfl g5 rfl) (sa rfl rfl (sa rfl rfl (SOps.sub (st' := ⟨[(4, .c (.own 1 c_3.2.1.length)), (5, .c (.bool (decide (c_3.1 = total_1))))], [aSArc 63 o0_2, aI 3 c_3.2.1]⟩) (sub_gen [0, 2] rfl rfl (zall rfl rfl) ⟨oa rfl, oa rfl, trivial⟩) (SOps.nil (SCode.ret ?_)))))))))))))
  obtain rfl := Option.some.inj h
  exact ⟨⟨[(4, .c (vI c_3.2.1)), (5, .c (.bool (decide (c_3.1 = total_1))))], [aSArc 63 o0_2]⟩, _, sub_gen [0] rfl rfl ⟨⟨_, rfl, .inr (.inl ⟨_, _, _, _, _, _, _, rfl, rfl, rfl, Nat.le_refl _, fun _ _ _ _ => rfl, nm rfl⟩)⟩, zc rfl rfl, trivial⟩ ⟨oa rfl, trivial⟩, resA2 (v1 := .c (vI c_3.2.1)) (v2 := .c (.bool (decide (c_3.1 = total_1)))) rfl rfl rfl, ⟨rfl, rfl⟩⟩
 refine SCode.region (sm rfl rfl (sm rfl rfl (sq rfl rfl (q_eql rfl rfl rfl) (sm rfl rfl (SOps.skip rfl 3 38 true rfl rfl (.inl (gF g5)) rfl (SOps.skip rfl 3 38 true rfl rfl (.inl (gF g5)) rfl (SOps.skip rfl 3 38 true rfl rfl (.inl (gF g5)) rfl (sq rfl rfl (q_pick_f rfl rfl g5 rfl) (sa rfl rfl (sa rfl rfl (SOps.sub (st' := ⟨[(4, .c (.own 1 c_3.2.1.length)), (5, .c (.bool false))], [aSArc 63 o0_2, aI 3 c_3.2.1]⟩) (sub_gen [0, 2] rfl rfl (zall rfl rfl) ⟨oa rfl, oa rfl, trivial⟩) (SOps.nil (SCode.ret ?_)))))))))))))
 obtain rfl := Option.some.inj h
 exact ⟨⟨[(4, .c (vI c_3.2.1)), (5, .c (.bool false))], [aSArc 63 o0_2]⟩, _, sub_gen [0] rfl rfl ⟨⟨_, rfl, .inr (.inl ⟨_, _, _, _, _, _, _, rfl, rfl, rfl, Nat.le_refl _, fun _ _ _ _ => rfl, nm rfl⟩)⟩, zc rfl rfl, trivial⟩ ⟨oa rfl, trivial⟩, resA2 (v1 := .c (vI c_3.2.1)) (v2 := .c (.bool false)) rfl rfl rfl, ⟨rfl, rfl⟩⟩
theorem plan_usable_ok (F : Nat) (a0_p : SProblem) (a1_d : SDemand) (a2_slot : Int) (r : Bool) (h : plan_usable F a0_p a1_d a2_slot = some r) :
  SFun Try.prog 36 [] [.a (bSProblem a0_p), .a (bSDemand a1_d), ci a2_slot] (fun x _ => x = .c (.bool r)) := by
 refine SFun.of (n := 28) Try.func36 rfl rfl rfl ?_
 unfold plan_usable at h
 show SCode _ _ _ ⟨[(0, .a (bSProblem a0_p)), (1, .a (bSDemand a1_d)), (2, ci a2_slot)], []⟩ _
 refine SCode.seq (SCode.region (se rfl rfl (e_box rfl rfl rfl rfl rfl rfl) (se rfl rfl (e_box rfl rfl rfl rfl rfl rfl) (sa rfl rfl (SOps.nil (SCode.seq (SCode.region (sq rfl rfl (q_field_ptr rfl rfl fd26_2) (sq rfl rfl (q_load_ptr rfl rfl rfl rfl ty3) (sm rfl rfl (sq rfl rfl (q_field_ptr rfl rfl fd26_3) (sq rfl rfl (q_load_ptr rfl rfl rfl rfl ty3) (sq rfl rfl (q_mul rfl rfl rfl) (sq rfl rfl (q_add rfl rfl rfl) (sa rfl rfl ?_)))))))))))))))
 refine SOps.nil (SCode.seq ?_)
 rcases cond_out h with ⟨g1, h⟩ | ⟨g1, h⟩
 ·refine SCode.region (sq rfl rfl (q_field_ptr rfl rfl fd39_3) (sq rfl rfl (q_load_ptr rfl rfl rfl rfl ty3) (sm rfl rfl (sq rfl rfl (q_leq rfl rfl rfl) (sm rfl rfl (SOps.q rfl (.guard 4 19 true rfl rfl (gT g1)) rfl (q_move rfl rfl) (SOps.q rfl (.guard 4 19 true rfl rfl (gT g1)) rfl (q_field_ptr rfl rfl fd26_3) (SOps.q rfl (.guard 4 19 true rfl rfl (gT g1)) rfl (q_load_ptr rfl rfl rfl rfl ty3) (SOps.q rfl (.guard 4 19 true rfl rfl (gT g1)) rfl (q_add rfl rfl rfl) (SOps.q rfl (.guard 4 19 true rfl rfl (gT g1)) rfl (q_field_ptr rfl rfl fd39_4) (SOps.q rfl (.guard 4 19 true rfl rfl (gT g1)) rfl (q_load_ptr rfl rfl rfl rfl ty3) (SOps.q rfl (.guard 4 19 true rfl rfl (gT g1)) rfl (q_leq rfl rfl rfl) (sq rfl rfl (q_pick_t rfl rfl g1 rfl) (sa rfl rfl (SOps.sub (st' := ⟨[(6, .c (.bool (decide (IntKind.wrap .i64 (IntKind.wrap .i64 (a0_p.From + IntKind.wrap .i64 (a2_slot * a0_p.Length)) + a0_p.Length) ≤ a1_d.Depart))))], []⟩) (sub_gen [] rfl rfl (zall rfl rfl) trivial) ?_)))))))))))))))
  refine SOps.nil (SCode.ret ?_)
  obtain rfl := Option.some.inj h
  exact ⟨⟨[(6, .c (.bool (decide (IntKind.wrap .i64 (IntKind.wrap .i64 (a0_p.From + IntKind.wrap .i64 (a2_slot * a0_p.Length)) + a0_p.Length) ≤ a1_d.Depart))))], []⟩, _, sub_gen [] rfl rfl (zall rfl rfl) trivial, resA1 (v := .c (.bool (decide (IntKind.wrap .i64 (IntKind.wrap .i64 (a0_p.From + IntKind.wrap .i64 (a2_slot * a0_p.Length)) + a0_p.Length) ≤ a1_d.Depart)))) rfl rfl, rfl⟩
 refine SCode.region (sq rfl rfl (q_field_ptr rfl rfl fd39_3) (sq rfl rfl (q_load_ptr rfl rfl rfl rfl ty3) (sm rfl rfl (sq rfl rfl (q_leq rfl rfl rfl) (sm rfl rfl (SOps.skip rfl 4 19 true rfl rfl (.inl (gF g1)) rfl (SOps.skip rfl 4 19 true rfl rfl (.inl (gF g1)) rfl (SOps.skip rfl 4 19 true rfl rfl (.inl (gF g1)) rfl (SOps.skip rfl 4 19 true rfl rfl (.inl (gF g1)) rfl (SOps.skip rfl 4 19 true rfl rfl (.inl (gF g1)) rfl (SOps.skip rfl 4 19 true rfl rfl (.inl (gF g1)) rfl (SOps.skip rfl 4 19 true rfl rfl (.inl (gF g1)) rfl (sq rfl rfl (q_pick_f rfl rfl g1 rfl) (sa rfl rfl (SOps.sub (st' := ⟨[(6, .c (.bool false))], []⟩) (sub_gen [] rfl rfl (zall rfl rfl) trivial) ?_)))))))))))))))
 refine SOps.nil (SCode.ret ?_)
 obtain rfl := Option.some.inj h
 exact ⟨⟨[(6, .c (.bool false))], []⟩, _, sub_gen [] rfl rfl (zall rfl rfl) trivial, resA1 (v := .c (.bool false)) rfl rfl, rfl⟩
end Go.Proofs.Ytfefnffdocmlmaa.W
