/- Written by a program of ours (wip/eng/gen.py): the functions compute their models. -/
import Derived.Test.YtbepoingholchaaFacts
import Derived.Test.YtbepoingholchaaV3x1
namespace Go.Proofs.Ytbepoingholchaa.W
open Go Go.Proofs Go.Proofs.Ytbepoingholchaa.E Go.Proofs.Ytbepoingholchaa.M
set_option linter.unusedVariables false
set_option maxRecDepth 100000 in
set_option maxHeartbeats 8000000 in
theorem flow_graph_push_ok (F : Nat) : ∀ (a0_g_edges : List SEdge) (a0_g_out : List (List Int)) (a0_g_level : List Int) (a0_g_turn : List Int) (a1_u : Int) (a2_sink : Int) (a3_most : Int) (r : Int × (List SEdge) × (List Int)) (h : flow_graph_push F a0_g_edges a0_g_out a0_g_level a0_g_turn a1_u a2_sink a3_most = some r),
    SFun Try.prog 34 [.box [.own 1 a0_g_edges.length, .vec a0_g_out.length 1 (gL (cVec 1 (cInt .i64) 0) ([]) a0_g_out), .own 2 a0_g_level.length, .own 3 a0_g_turn.length], .arr 59 2 a0_g_edges.length (gL cSEdge dSEdge a0_g_edges), .arr 3 1 a0_g_level.length (gL (cInt .i64) 0 a0_g_level), .arr 3 1 a0_g_turn.length (gL (cInt .i64) 0 a0_g_turn)] [.c (.ptr 0 0), .c (.int .i64 a1_u), .c (.int .i64 a2_sink), .c (.int .i64 a3_most)] (fun x os => x = .c (.int .i64 r.1) ∧ os = [.box [.own 1 r.2.1.length, .vec a0_g_out.length 1 (gL (cVec 1 (cInt .i64) 0) ([]) a0_g_out), .own 2 a0_g_level.length, .own 3 r.2.2.length], .arr 59 2 r.2.1.length (gL cSEdge dSEdge r.2.1), .arr 3 1 a0_g_level.length (gL (cInt .i64) 0 a0_g_level), .arr 3 1 r.2.2.length (gL (cInt .i64) 0 r.2.2)]) := by
  induction F with
  | zero => intro a0_g_edges a0_g_out a0_g_level a0_g_turn a1_u a2_sink a3_most r h; exact absurd (show (none : Option (Int × (List SEdge) × (List Int))) = some r from h) (by simp)
  | succ F ih =>
    intro a0_g_edges a0_g_out a0_g_level a0_g_turn a1_u a2_sink a3_most r h
    replace h : flow_graph_push_r F (fun a0_g_edges a0_g_out a0_g_level a0_g_turn a1_u a2_sink a3_most => flow_graph_push F a0_g_edges a0_g_out a0_g_level a0_g_turn a1_u a2_sink a3_most) a0_g_edges a0_g_out a0_g_level a0_g_turn a1_u a2_sink a3_most = some r := h
    obtain ⟨rec_, hrec_⟩ : ∃ g : (List SEdge) → (List (List Int)) → (List Int) → (List Int) → Int → Int → Int → Option (Int × (List SEdge) × (List Int)), g = fun a0_g_edges a0_g_out a0_g_level a0_g_turn a1_u a2_sink a3_most => flow_graph_push F a0_g_edges a0_g_out a0_g_level a0_g_turn a1_u a2_sink a3_most := ⟨_, rfl⟩
    rw [← hrec_] at h
    replace ih : ∀ (a0_g_edges : List SEdge) (a0_g_out : List (List Int)) (a0_g_level : List Int) (a0_g_turn : List Int) (a1_u : Int) (a2_sink : Int) (a3_most : Int) (r : Int × (List SEdge) × (List Int)) (h : rec_ a0_g_edges a0_g_out a0_g_level a0_g_turn a1_u a2_sink a3_most = some r), SFun Try.prog 34 [.box [.own 1 a0_g_edges.length, .vec a0_g_out.length 1 (gL (cVec 1 (cInt .i64) 0) ([]) a0_g_out), .own 2 a0_g_level.length, .own 3 a0_g_turn.length], .arr 59 2 a0_g_edges.length (gL cSEdge dSEdge a0_g_edges), .arr 3 1 a0_g_level.length (gL (cInt .i64) 0 a0_g_level), .arr 3 1 a0_g_turn.length (gL (cInt .i64) 0 a0_g_turn)] [.c (.ptr 0 0), .c (.int .i64 a1_u), .c (.int .i64 a2_sink), .c (.int .i64 a3_most)] (fun x os => x = .c (.int .i64 r.1) ∧ os = [.box [.own 1 r.2.1.length, .vec a0_g_out.length 1 (gL (cVec 1 (cInt .i64) 0) ([]) a0_g_out), .own 2 a0_g_level.length, .own 3 r.2.2.length], .arr 59 2 r.2.1.length (gL cSEdge dSEdge r.2.1), .arr 3 1 a0_g_level.length (gL (cInt .i64) 0 a0_g_level), .arr 3 1 r.2.2.length (gL (cInt .i64) 0 r.2.2)]) := by subst hrec_; exact ih
    clear hrec_
    refine SFun.of (n := 134) Try.func34 rfl rfl rfl ?_
    unfold flow_graph_push_r at h
    show SCode _ _ _ ⟨[(0, .c (.ptr 0 0)), (1, .c (.int .i64 a1_u)), (2, .c (.int .i64 a2_sink)), (3, .c (.int .i64 a3_most))], [.box [.own 1 a0_g_edges.length, .vec a0_g_out.length 1 (gL (cVec 1 (cInt .i64) 0) ([]) a0_g_out), .own 2 a0_g_level.length, .own 3 a0_g_turn.length], .arr 59 2 a0_g_edges.length (gL cSEdge dSEdge a0_g_edges), .arr 3 1 a0_g_level.length (gL (cInt .i64) 0 a0_g_level), .arr 3 1 a0_g_turn.length (gL (cInt .i64) 0 a0_g_turn)]⟩ _
    refine SCode.seq ?_
    refine SCode.region (show SOps _ _ _ [0] _ _ from ?_)
    refine SOps.q rfl (.plain rfl) rfl (q_assign rfl rfl) ?_
    refine SOps.sub (st' := ⟨[(0, .c (.ptr 0 0)), (1, .c (.int .i64 a1_u)), (2, .c (.int .i64 a2_sink)), (3, .c (.int .i64 a3_most))], [.box [.own 1 a0_g_edges.length, .vec a0_g_out.length 1 (gL (cVec 1 (cInt .i64) 0) ([]) a0_g_out), .own 2 a0_g_level.length, .own 3 a0_g_turn.length], .arr 59 2 a0_g_edges.length (gL cSEdge dSEdge a0_g_edges), .arr 3 1 a0_g_level.length (gL (cInt .i64) 0 a0_g_level), .arr 3 1 a0_g_turn.length (gL (cInt .i64) 0 a0_g_turn)]⟩) (sub_gen [0, 1, 2, 3] rfl rfl ⟨zc rfl rfl, zc rfl rfl, zc rfl rfl, zc rfl rfl, trivial⟩ ⟨⟨_, rfl, ⟨ii rfl rfl, ii rfl rfl, ii rfl rfl, ii rfl rfl, trivial⟩⟩, oa rfl, oa rfl, oa rfl, trivial⟩) ?_
    refine SOps.nil ?_
    refine SCode.seq ?_
    refine SCode.seq ?_
    refine SCode.region (show SOps _ _ _ [0, 1, 2] _ _ from ?_)
    refine SOps.q rfl (.plain rfl) rfl (q_move rfl rfl) ?_
    refine SOps.q rfl (.plain rfl) rfl (q_move rfl rfl) ?_
    refine SOps.q rfl (.plain rfl) rfl (q_eql rfl rfl rfl) ?_
    refine SOps.sub (st' := ⟨[(0, .c (.ptr 0 0)), (1, .c (.int .i64 a1_u)), (2, .c (.int .i64 a2_sink)), (3, .c (.int .i64 a3_most)), (14, .c (.bool (decide (a1_u = a2_sink))))], [.box [.own 1 a0_g_edges.length, .vec a0_g_out.length 1 (gL (cVec 1 (cInt .i64) 0) ([]) a0_g_out), .own 2 a0_g_level.length, .own 3 a0_g_turn.length], .arr 59 2 a0_g_edges.length (gL cSEdge dSEdge a0_g_edges), .arr 3 1 a0_g_level.length (gL (cInt .i64) 0 a0_g_level), .arr 3 1 a0_g_turn.length (gL (cInt .i64) 0 a0_g_turn)]⟩) (sub_gen [0, 1, 2, 3] rfl rfl ⟨zc rfl rfl, zc rfl rfl, zc rfl rfl, zc rfl rfl, zc rfl rfl, trivial⟩ ⟨⟨_, rfl, ⟨ii rfl rfl, ii rfl rfl, ii rfl rfl, ii rfl rfl, trivial⟩⟩, oa rfl, oa rfl, oa rfl, trivial⟩) ?_
    refine SOps.nil ?_
    rcases cond_out h with ⟨g1, h⟩ | ⟨g1, h⟩
    · refine SCode.cond_t rfl g1 ?_
      refine SCode.seq ?_
      refine SCode.region (show SOps _ _ _ [0, 1] _ _ from ?_)
      refine SOps.q rfl (.plain rfl) rfl (q_move rfl rfl) ?_
      refine SOps.q rfl (.plain rfl) rfl (q_assign rfl rfl) ?_
      refine SOps.sub (st' := ⟨[(8, .c (.int .i64 a3_most))], [.box [.own 1 a0_g_edges.length, .vec a0_g_out.length 1 (gL (cVec 1 (cInt .i64) 0) ([]) a0_g_out), .own 2 a0_g_level.length, .own 3 a0_g_turn.length], .arr 59 2 a0_g_edges.length (gL cSEdge dSEdge a0_g_edges), .arr 3 1 a0_g_level.length (gL (cInt .i64) 0 a0_g_level), .arr 3 1 a0_g_turn.length (gL (cInt .i64) 0 a0_g_turn)]⟩) (sub_gen [0, 1, 2, 3] rfl rfl ⟨zc rfl rfl, trivial⟩ ⟨⟨_, rfl, ⟨ii rfl rfl, ii rfl rfl, ii rfl rfl, ii rfl rfl, trivial⟩⟩, oa rfl, oa rfl, oa rfl, trivial⟩) ?_
      refine SOps.nil ?_
      refine SCode.ret ?_
      obtain rfl := Option.some.inj h
      exact ⟨⟨[(8, .c (.int .i64 a3_most))], [.box [.own 1 a0_g_edges.length, .vec a0_g_out.length 1 (gL (cVec 1 (cInt .i64) 0) ([]) a0_g_out), .own 2 a0_g_level.length, .own 3 a0_g_turn.length], .arr 59 2 a0_g_edges.length (gL cSEdge dSEdge a0_g_edges), .arr 3 1 a0_g_level.length (gL (cInt .i64) 0 a0_g_level), .arr 3 1 a0_g_turn.length (gL (cInt .i64) 0 a0_g_turn)]⟩, _, sub_gen [0, 1, 2, 3] rfl rfl ⟨zc rfl rfl, trivial⟩ ⟨⟨_, rfl, ⟨ii rfl rfl, ii rfl rfl, ii rfl rfl, ii rfl rfl, trivial⟩⟩, oa rfl, oa rfl, oa rfl, trivial⟩, resA1 (v := .c (.int .i64 a3_most)) rfl rfl, ⟨rfl, rfl⟩⟩
    refine SCode.cond_f rfl g1 ?_
    refine SCode.skip ?_
    refine SCode.join (σ := (List SEdge) × (List Int)) (S := fun s => ⟨[], [.box [.own 1 s.1.length, .vec a0_g_out.length 1 (gL (cVec 1 (cInt .i64) 0) ([]) a0_g_out), .own 2 a0_g_level.length, .own 3 s.2.length], .arr 59 2 s.1.length (gL cSEdge dSEdge s.1), .arr 3 1 a0_g_level.length (gL (cInt .i64) 0 a0_g_level), .arr 3 1 s.2.length (gL (cInt .i64) 0 s.2)]⟩) (g := fun s => flow_graph_push_p4 s.1 s.2 = some r) ?_ ?_
    rotate_left
    · refine SCode.block ?_
      refine SCode.sub (st' := ⟨[(0, .c (.ptr 0 0)), (1, .c (.int .i64 a1_u)), (2, .c (.int .i64 a2_sink)), (3, .c (.int .i64 a3_most))], [.box [.own 1 a0_g_edges.length, .vec a0_g_out.length 1 (gL (cVec 1 (cInt .i64) 0) ([]) a0_g_out), .own 2 a0_g_level.length, .own 3 a0_g_turn.length], .arr 59 2 a0_g_edges.length (gL cSEdge dSEdge a0_g_edges), .arr 3 1 a0_g_level.length (gL (cInt .i64) 0 a0_g_level), .arr 3 1 a0_g_turn.length (gL (cInt .i64) 0 a0_g_turn)]⟩) (sub_gen [0, 1, 2, 3] rfl rfl ⟨zc rfl rfl, zc rfl rfl, zc rfl rfl, zc rfl rfl, trivial⟩ ⟨⟨_, rfl, ⟨ii rfl rfl, ii rfl rfl, ii rfl rfl, ii rfl rfl, trivial⟩⟩, oa rfl, oa rfl, oa rfl, trivial⟩) ?_
      refine (SCode.loop (σ := Nat × ((List SEdge) × (List Int))) (S := fun s => ⟨[(0, .c (.ptr 0 0)), (1, .c (.int .i64 a1_u)), (2, .c (.int .i64 a2_sink)), (3, .c (.int .i64 a3_most))], [.box [.own 1 s.2.1.length, .vec a0_g_out.length 1 (gL (cVec 1 (cInt .i64) 0) ([]) a0_g_out), .own 2 a0_g_level.length, .own 3 s.2.2.length], .arr 59 2 s.2.1.length (gL cSEdge dSEdge s.2.1), .arr 3 1 a0_g_level.length (gL (cInt .i64) 0 a0_g_level), .arr 3 1 s.2.2.length (gL (cInt .i64) 0 s.2.2)]⟩) (g := fun s => flow_graph_push_l57 a0_g_out a0_g_level a1_u a2_sink a3_most rec_ s.1 s.2.1 s.2.2 = some r) (μ := fun s => s.1) (F, (a0_g_edges, a0_g_turn)) h ?_)
      rintro ⟨n_57, ⟨o1_30, o3_31⟩⟩ h
      replace h : flow_graph_push_l57 a0_g_out a0_g_level a1_u a2_sink a3_most rec_ n_57 o1_30 o3_31 = some r := h
      show SCode _ _ _ ⟨[(0, .c (.ptr 0 0)), (1, .c (.int .i64 a1_u)), (2, .c (.int .i64 a2_sink)), (3, .c (.int .i64 a3_most))], [.box [.own 1 o1_30.length, .vec a0_g_out.length 1 (gL (cVec 1 (cInt .i64) 0) ([]) a0_g_out), .own 2 a0_g_level.length, .own 3 o3_31.length], .arr 59 2 o1_30.length (gL cSEdge dSEdge o1_30), .arr 3 1 a0_g_level.length (gL (cInt .i64) 0 a0_g_level), .arr 3 1 o3_31.length (gL (cInt .i64) 0 o3_31)]⟩ _
      cases n_57 with
      | zero => cases h
      | succ n_57 =>
        replace h : flow_graph_push_b57 a0_g_out a0_g_level a1_u a2_sink a3_most rec_ (fun o1_30 o3_31 => flow_graph_push_l57 a0_g_out a0_g_level a1_u a2_sink a3_most rec_ n_57 o1_30 o3_31) o1_30 o3_31 = some r := h
        unfold flow_graph_push_b57 at h
        refine SCode.seq ?_
        refine SCode.seq ?_
        obtain ⟨g58, h⟩ := guard_out h
        obtain ⟨g59, h⟩ := guard_out h
        refine SCode.draw (s' := [(31, .c (.bool (decide (o3_31.getD a1_u.toNat 0 < ((a0_g_out.getD a1_u.toNat ([])).length : Int))))), (30, .c (.int .i64 (((a0_g_out.getD a1_u.toNat ([])).length : Int)))), (29, .c (.vec (a0_g_out.getD a1_u.toNat ([])).length 1 (gL (cInt .i64) 0 (a0_g_out.getD a1_u.toNat ([]))))), (28, .c (.eptr 1 ((cVec 1 (cInt .i64) 0) (a0_g_out.getD a1_u.toNat ([]))) 0)), (27, .c (.int .i64 a1_u)), (26, .c (.vec a0_g_out.length 1 (gL (cVec 1 (cInt .i64) 0) ([]) a0_g_out))), (25, .c (.ptr 0 1)), (24, .c (.ptr 0 0)), (23, .c (.ptr 0 0)), (22, .c (.int .i64 (o3_31.getD a1_u.toNat 0))), (21, .c (.aptr 3 1 a1_u.toNat 0)), (20, .c (.int .i64 a1_u)), (19, .c (.own 3 o3_31.length)), (18, .c (.ptr 0 3)), (17, .c (.ptr 0 0)), (16, .c (.ptr 0 0)), (0, .c (.ptr 0 0)), (1, .c (.int .i64 a1_u)), (2, .c (.int .i64 a2_sink)), (3, .c (.int .i64 a3_most))]) mixed [[], [0], [0, 1], [0, 1, 2], [], [0, 1, 2, 3, 4], [0, 1, 2, 3, 4, 5], [], [7], [7, 8], [7, 8, 9], [], [7, 8, 9, 10, 11], [7, 8, 9, 10, 11, 12], [7, 8, 9, 10, 11, 12, 13], [0, 1, 2, 3, 4, 5, 6, 7, 8, 9, 10, 11, 12, 13, 14]] 16 0 rfl rfl ?_ ?_
        · refine QChain.run rfl (.plain rfl) rfl (q_move rfl rfl) ?_
          refine QChain.run rfl (.plain rfl) rfl (q_nilCheck rfl rfl rfl) ?_
          refine QChain.run rfl (.plain rfl) rfl (q_field_ptr rfl rfl fd63_3) ?_
          refine QChain.run rfl (.plain rfl) rfl (q_load_ptr rfl rfl rfl rfl ty30) ?_
          refine QChain.run rfl (.plain rfl) rfl (q_move rfl rfl) ?_
          refine QChain.run rfl (.plain rfl) rfl (q_index_own rfl rfl rfl sl30 g58.1 g58.2) ?_
          refine QChain.run rfl (.plain rfl) rfl (q_load_aptr rfl rfl rfl (toNat_lt g58) rfl ty3) ?_
          refine QChain.run rfl (.plain rfl) rfl (q_move rfl rfl) ?_
          refine QChain.run rfl (.plain rfl) rfl (q_nilCheck rfl rfl rfl) ?_
          refine QChain.run rfl (.plain rfl) rfl (q_field_ptr rfl rfl fd63_1) ?_
          refine QChain.run rfl (.plain rfl) rfl (q_load_ptr rfl rfl rfl rfl ty61) ?_
          refine QChain.run rfl (.plain rfl) rfl (q_move rfl rfl) ?_
          refine QChain.run rfl (.plain rfl) rfl (q_index_vec rfl rfl rfl sl61 rfl g59.1 g59.2) ?_
          refine QChain.run rfl (.plain rfl) rfl (q_load_eptr rfl rfl ty30) ?_
          refine QChain.run rfl (.plain rfl) rfl (q_len_vec rfl rfl sl30) ?_
          refine QChain.run rfl (.plain rfl) rfl (q_lss rfl rfl rfl) ?_
          exact QChain.nil _ _
        refine (show SOps _ _ _ [] _ _ from ?_)
        refine SOps.sub (st' := ⟨[(0, .c (.ptr 0 0)), (1, .c (.int .i64 a1_u)), (2, .c (.int .i64 a2_sink)), (3, .c (.int .i64 a3_most)), (31, .c (.bool (decide (o3_31.getD a1_u.toNat 0 < ((a0_g_out.getD a1_u.toNat ([])).length : Int)))))], [.box [.own 1 o1_30.length, .vec a0_g_out.length 1 (gL (cVec 1 (cInt .i64) 0) ([]) a0_g_out), .own 2 a0_g_level.length, .own 3 o3_31.length], .arr 59 2 o1_30.length (gL cSEdge dSEdge o1_30), .arr 3 1 a0_g_level.length (gL (cInt .i64) 0 a0_g_level), .arr 3 1 o3_31.length (gL (cInt .i64) 0 o3_31)]⟩) (sub_gen [0, 1, 2, 3] rfl rfl ⟨zc rfl rfl, zc rfl rfl, zc rfl rfl, zc rfl rfl, zc rfl rfl, trivial⟩ ⟨⟨_, rfl, ⟨ii rfl rfl, ii rfl rfl, ii rfl rfl, ii rfl rfl, trivial⟩⟩, oa rfl, oa rfl, oa rfl, trivial⟩) ?_
        refine SOps.nil ?_
        rcases cond_out h with ⟨g60, h⟩ | ⟨g60, h⟩
        · refine SCode.cond_t rfl g60 ?_
          refine SCode.skip ?_
          refine SCode.join (σ := (List SEdge) × (List Int)) (S := fun s => ⟨[(0, .c (.ptr 0 0)), (1, .c (.int .i64 a1_u)), (2, .c (.int .i64 a2_sink)), (3, .c (.int .i64 a3_most))], [.box [.own 1 s.1.length, .vec a0_g_out.length 1 (gL (cVec 1 (cInt .i64) 0) ([]) a0_g_out), .own 2 a0_g_level.length, .own 3 s.2.length], .arr 59 2 s.1.length (gL cSEdge dSEdge s.1), .arr 3 1 a0_g_level.length (gL (cInt .i64) 0 a0_g_level), .arr 3 1 s.2.length (gL (cInt .i64) 0 s.2)]⟩) (g := fun s => flow_graph_push_p65 a1_u (fun o1_30 o3_31 => flow_graph_push_l57 a0_g_out a0_g_level a1_u a2_sink a3_most rec_ n_57 o1_30 o3_31) s.1 s.2 = some r) ?_ ?_
          rotate_left
          · refine SCode.block ?_
            refine SCode.seq ?_
            obtain ⟨g66, h⟩ := guard_out h
            obtain ⟨g67, h⟩ := guard_out h
            obtain ⟨g68, h⟩ := guard_out h
            refine SCode.draw (s' := [(9, .c (.int .i64 ((a0_g_out.getD a1_u.toNat ([])).getD (o3_31.getD a1_u.toNat 0).toNat 0))), (56, .c (.int .i64 ((a0_g_out.getD a1_u.toNat ([])).getD (o3_31.getD a1_u.toNat 0).toNat 0))), (55, .c (.eptr 1 ((cInt .i64) ((a0_g_out.getD a1_u.toNat ([])).getD (o3_31.getD a1_u.toNat 0).toNat 0)) 0)), (54, .c (.int .i64 (o3_31.getD a1_u.toNat 0))), (53, .c (.aptr 3 1 a1_u.toNat 0)), (52, .c (.int .i64 a1_u)), (51, .c (.own 3 o3_31.length)), (50, .c (.ptr 0 3)), (49, .c (.ptr 0 0)), (48, .c (.ptr 0 0)), (47, .c (.vec (a0_g_out.getD a1_u.toNat ([])).length 1 (gL (cInt .i64) 0 (a0_g_out.getD a1_u.toNat ([]))))), (46, .c (.eptr 1 ((cVec 1 (cInt .i64) 0) (a0_g_out.getD a1_u.toNat ([]))) 0)), (45, .c (.int .i64 a1_u)), (44, .c (.vec a0_g_out.length 1 (gL (cVec 1 (cInt .i64) 0) ([]) a0_g_out))), (43, .c (.ptr 0 1)), (42, .c (.ptr 0 0)), (41, .c (.ptr 0 0)), (0, .c (.ptr 0 0)), (1, .c (.int .i64 a1_u)), (2, .c (.int .i64 a2_sink)), (3, .c (.int .i64 a3_most)), (31, .c (.bool (decide (o3_31.getD a1_u.toNat 0 < ((a0_g_out.getD a1_u.toNat ([])).length : Int)))))]) mixed [[], [0], [0, 1], [0, 1, 2], [], [0, 1, 2, 3, 4], [0, 1, 2, 3, 4, 5], [], [7], [7, 8], [7, 8, 9], [], [7, 8, 9, 10, 11], [7, 8, 9, 10, 11, 12], [0, 1, 2, 3, 4, 5, 6, 7, 8, 9, 10, 11, 12, 13], [0, 1, 2, 3, 4, 5, 6, 7, 8, 9, 10, 11, 12, 13, 14], [0, 1, 2, 3, 4, 5, 6, 7, 8, 9, 10, 11, 12, 13, 14, 15]] 17 0 rfl rfl ?_ ?_
            · refine QChain.run rfl (.plain rfl) rfl (q_move rfl rfl) ?_
              refine QChain.run rfl (.plain rfl) rfl (q_nilCheck rfl rfl rfl) ?_
              refine QChain.run rfl (.plain rfl) rfl (q_field_ptr rfl rfl fd63_1) ?_
              refine QChain.run rfl (.plain rfl) rfl (q_load_ptr rfl rfl rfl rfl ty61) ?_
              refine QChain.run rfl (.plain rfl) rfl (q_move rfl rfl) ?_
              refine QChain.run rfl (.plain rfl) rfl (q_index_vec rfl rfl rfl sl61 rfl g66.1 g66.2) ?_
              refine QChain.run rfl (.plain rfl) rfl (q_load_eptr rfl rfl ty30) ?_
              refine QChain.run rfl (.plain rfl) rfl (q_move rfl rfl) ?_
              refine QChain.run rfl (.plain rfl) rfl (q_nilCheck rfl rfl rfl) ?_
              refine QChain.run rfl (.plain rfl) rfl (q_field_ptr rfl rfl fd63_3) ?_
              refine QChain.run rfl (.plain rfl) rfl (q_load_ptr rfl rfl rfl rfl ty30) ?_
              refine QChain.run rfl (.plain rfl) rfl (q_move rfl rfl) ?_
              refine QChain.run rfl (.plain rfl) rfl (q_index_own rfl rfl rfl sl30 g67.1 g67.2) ?_
              refine QChain.run rfl (.plain rfl) rfl (q_load_aptr rfl rfl rfl (toNat_lt g67) rfl ty3) ?_
              refine QChain.run rfl (.plain rfl) rfl (q_index_vec rfl rfl rfl sl30 rfl g68.1 g68.2) ?_
              refine QChain.run rfl (.plain rfl) rfl (q_load_eptr rfl rfl ty3) ?_
              refine QChain.run rfl (.plain rfl) rfl (q_assign rfl rfl) ?_
              exact QChain.nil _ _
            refine (show SOps _ _ _ [] _ _ from ?_)
            refine SOps.sub (st' := ⟨[(0, .c (.ptr 0 0)), (1, .c (.int .i64 a1_u)), (2, .c (.int .i64 a2_sink)), (3, .c (.int .i64 a3_most)), (9, .c (.int .i64 ((a0_g_out.getD a1_u.toNat ([])).getD (o3_31.getD a1_u.toNat 0).toNat 0)))], [.box [.own 1 o1_30.length, .vec a0_g_out.length 1 (gL (cVec 1 (cInt .i64) 0) ([]) a0_g_out), .own 2 a0_g_level.length, .own 3 o3_31.length], .arr 59 2 o1_30.length (gL cSEdge dSEdge o1_30), .arr 3 1 a0_g_level.length (gL (cInt .i64) 0 a0_g_level), .arr 3 1 o3_31.length (gL (cInt .i64) 0 o3_31)]⟩) (sub_gen [0, 1, 2, 3] rfl rfl ⟨zc rfl rfl, zc rfl rfl, zc rfl rfl, zc rfl rfl, zc rfl rfl, trivial⟩ ⟨⟨_, rfl, ⟨ii rfl rfl, ii rfl rfl, ii rfl rfl, ii rfl rfl, trivial⟩⟩, oa rfl, oa rfl, oa rfl, trivial⟩) ?_
            refine SOps.nil ?_
            refine SCode.seq ?_
            obtain ⟨g69, h⟩ := guard_out h
            refine SCode.region (show SOps _ _ _ [0, 1, 2, 3, 4, 5, 6, 7, 8] _ _ from ?_)
            refine SOps.q rfl (.plain rfl) rfl (q_move rfl rfl) ?_
            refine SOps.q rfl (.plain rfl) rfl (q_nilCheck rfl rfl rfl) ?_
            refine SOps.q rfl (.plain rfl) rfl (q_field_ptr rfl rfl fd63_0) ?_
            refine SOps.q rfl (.plain rfl) rfl (q_load_ptr rfl rfl rfl rfl ty60) ?_
            refine SOps.q rfl (.plain rfl) rfl (q_move rfl rfl) ?_
            refine SOps.q rfl (.plain rfl) rfl (q_index_own rfl rfl rfl sl60 g69.1 g69.2) ?_
            refine SOps.q rfl (.plain rfl) rfl (q_field_aptr rfl rfl fd59_0) ?_
            refine SOps.q rfl (.plain rfl) rfl (q_load_aptr rfl rfl rfl (toNat_lt g69) rfl ty3) ?_
            refine SOps.q rfl (.plain rfl) rfl (q_assign rfl rfl) ?_
            refine SOps.sub (st' := ⟨[(0, .c (.ptr 0 0)), (1, .c (.int .i64 a1_u)), (2, .c (.int .i64 a2_sink)), (3, .c (.int .i64 a3_most)), (9, .c (.int .i64 ((a0_g_out.getD a1_u.toNat ([])).getD (o3_31.getD a1_u.toNat 0).toNat 0))), (10, .c (.int .i64 ((o1_30.getD (((a0_g_out.getD a1_u.toNat ([])).getD (o3_31.getD a1_u.toNat 0).toNat 0).toNat) dSEdge).to)))], [.box [.own 1 o1_30.length, .vec a0_g_out.length 1 (gL (cVec 1 (cInt .i64) 0) ([]) a0_g_out), .own 2 a0_g_level.length, .own 3 o3_31.length], .arr 59 2 o1_30.length (gL cSEdge dSEdge o1_30), .arr 3 1 a0_g_level.length (gL (cInt .i64) 0 a0_g_level), .arr 3 1 o3_31.length (gL (cInt .i64) 0 o3_31)]⟩) (sub_gen [0, 1, 2, 3] rfl rfl ⟨zc rfl rfl, zc rfl rfl, zc rfl rfl, zc rfl rfl, zc rfl rfl, zc rfl rfl, trivial⟩ ⟨⟨_, rfl, ⟨ii rfl rfl, ii rfl rfl, ii rfl rfl, ii rfl rfl, trivial⟩⟩, oa rfl, oa rfl, oa rfl, trivial⟩) ?_
            refine SOps.nil ?_
            refine SCode.seq ?_
            refine SCode.seq ?_
            obtain ⟨g70, h⟩ := guard_out h
            rcases cond_out h with ⟨g71, h⟩ | ⟨g71, h⟩
            · refine SCode.draw (s' := [(91, .c (.bool true)), (90, .c (.raw (.tuple #[]))), (89, .c (.raw (.tuple #[]))), (88, .c (.raw (.tuple #[]))), (87, .c (.raw (.tuple #[]))), (86, .c (.raw (.tuple #[]))), (85, .c (.raw (.tuple #[]))), (84, .c (.raw (.tuple #[]))), (83, .c (.raw (.tuple #[]))), (82, .c (.raw (.tuple #[]))), (81, .c (.raw (.tuple #[]))), (80, .c (.raw (.tuple #[]))), (79, .c (.raw (.tuple #[]))), (78, .c (.raw (.tuple #[]))), (77, .c (.raw (.tuple #[]))), (76, .c (.raw (.tuple #[]))), (75, .c (.raw (.tuple #[]))), (74, .c (.bool (decide ((o1_30.getD (((a0_g_out.getD a1_u.toNat ([])).getD (o3_31.getD a1_u.toNat 0).toNat 0).toNat) dSEdge).room = 0)))), (73, .c (.bool (decide ((o1_30.getD (((a0_g_out.getD a1_u.toNat ([])).getD (o3_31.getD a1_u.toNat 0).toNat 0).toNat) dSEdge).room = 0)))), (72, .c (.int .i64 ((o1_30.getD (((a0_g_out.getD a1_u.toNat ([])).getD (o3_31.getD a1_u.toNat 0).toNat 0).toNat) dSEdge).room))), (71, .c (.aptr 1 2 (((a0_g_out.getD a1_u.toNat ([])).getD (o3_31.getD a1_u.toNat 0).toNat 0).toNat) 1)), (70, .c (.aptr 1 2 (((a0_g_out.getD a1_u.toNat ([])).getD (o3_31.getD a1_u.toNat 0).toNat 0).toNat) 0)), (69, .c (.int .i64 ((a0_g_out.getD a1_u.toNat ([])).getD (o3_31.getD a1_u.toNat 0).toNat 0))), (68, .c (.own 1 o1_30.length)), (67, .c (.ptr 0 0)), (66, .c (.ptr 0 0)), (65, .c (.ptr 0 0)), (0, .c (.ptr 0 0)), (1, .c (.int .i64 a1_u)), (2, .c (.int .i64 a2_sink)), (3, .c (.int .i64 a3_most)), (9, .c (.int .i64 ((a0_g_out.getD a1_u.toNat ([])).getD (o3_31.getD a1_u.toNat 0).toNat 0))), (10, .c (.int .i64 ((o1_30.getD (((a0_g_out.getD a1_u.toNat ([])).getD (o3_31.getD a1_u.toNat 0).toNat 0).toNat) dSEdge).to)))]) mixed [[], [0], [0, 1], [0, 1, 2], [], [0, 1, 2, 3, 4], [0, 1, 2, 3, 4, 5], [0, 1, 2, 3, 4, 5, 6], [0, 1, 2, 3, 4, 5, 6, 7], [0, 1, 2, 3, 4, 5, 6, 7, 8], [0, 1, 2, 3, 4, 5, 6, 7, 8, 9], [0, 1, 2, 3, 4, 5, 6, 7, 8, 9, 10], [0, 1, 2, 3, 4, 5, 6, 7, 8, 9, 10, 11], [0, 1, 2, 3, 4, 5, 6, 7, 8, 9, 10, 11, 12], [0, 1, 2, 3, 4, 5, 6, 7, 8, 9], [0, 1, 2, 3, 4, 5, 6, 7, 8, 9, 10, 11, 12, 13, 14], [0, 1, 2, 3, 4, 5, 6, 7, 8, 9, 10, 11, 12, 13, 14, 15], [0, 1, 2, 3, 4, 5, 6, 7, 8, 9], [0, 1, 2, 3, 4, 5, 6, 7, 8, 9, 17], [0, 1, 2, 3, 4, 5, 6, 7, 8, 9, 17, 18], [0, 1, 2, 3, 4, 5, 6, 7, 8, 9, 17, 18, 19], [0, 1, 2, 3, 4, 5, 6, 7, 8, 9], [0, 1, 2, 3, 4, 5, 6, 7, 8, 9, 17, 18, 19, 20, 21], [0, 1, 2, 3, 4, 5, 6, 7, 8, 9, 17, 18, 19, 20, 21, 22], [0, 1, 2, 3, 4, 5, 6, 7, 8, 9, 17, 18, 19, 20, 21, 22, 23], [0, 1, 2, 3, 4, 5, 6, 7, 8, 9, 10, 11, 12, 13, 14, 15, 16, 17, 18, 19, 20, 21, 22, 23, 24], [0, 1, 2, 3, 4, 5, 6, 7, 8, 9, 10, 11, 12, 13, 14, 15, 16, 17, 18, 19, 20, 21, 22, 23, 24, 25]] 27 0 rfl rfl ?_ ?_
              · refine QChain.run rfl (.plain rfl) rfl (q_move rfl rfl) ?_
                refine QChain.run rfl (.plain rfl) rfl (q_nilCheck rfl rfl rfl) ?_
                refine QChain.run rfl (.plain rfl) rfl (q_field_ptr rfl rfl fd63_0) ?_
                refine QChain.run rfl (.plain rfl) rfl (q_load_ptr rfl rfl rfl rfl ty60) ?_
                refine QChain.run rfl (.plain rfl) rfl (q_move rfl rfl) ?_
                refine QChain.run rfl (.plain rfl) rfl (q_index_own rfl rfl rfl sl60 g70.1 g70.2) ?_
                refine QChain.run rfl (.plain rfl) rfl (q_field_aptr rfl rfl fd59_1) ?_
                refine QChain.run rfl (.plain rfl) rfl (q_load_aptr rfl rfl rfl (toNat_lt g70) rfl ty3) ?_
                refine QChain.run rfl (.plain rfl) rfl (q_eql rfl rfl rfl) ?_
                refine QChain.run rfl (.plain rfl) rfl (q_move rfl rfl) ?_
                refine QChain.skip rfl ⟨9, 74, false, rfl, rfl, (.inl (gT g71))⟩ rfl ?_
                refine QChain.skip rfl ⟨9, 74, false, rfl, rfl, (.inl (gT g71))⟩ rfl ?_
                refine QChain.skip rfl ⟨9, 74, false, rfl, rfl, (.inl (gT g71))⟩ rfl ?_
                refine QChain.skip rfl ⟨9, 74, false, rfl, rfl, (.inl (gT g71))⟩ rfl ?_
                refine QChain.skip rfl ⟨9, 74, false, rfl, rfl, (.inl (gT g71))⟩ rfl ?_
                refine QChain.skip rfl ⟨9, 74, false, rfl, rfl, (.inl (gT g71))⟩ rfl ?_
                refine QChain.skip rfl ⟨9, 74, false, rfl, rfl, (.inl (gT g71))⟩ rfl ?_
                refine QChain.skip rfl ⟨9, 74, false, rfl, rfl, (.inl (gT g71))⟩ rfl ?_
                refine QChain.skip rfl ⟨9, 74, false, rfl, rfl, (.inl (gT g71))⟩ rfl ?_
                refine QChain.skip rfl ⟨9, 74, false, rfl, rfl, (.inl (gT g71))⟩ rfl ?_
                refine QChain.skip rfl ⟨9, 74, false, rfl, rfl, (.inl (gT g71))⟩ rfl ?_
                refine QChain.skip rfl ⟨9, 74, false, rfl, rfl, (.inl (gT g71))⟩ rfl ?_
                refine QChain.skip rfl ⟨9, 74, false, rfl, rfl, (.inl (gT g71))⟩ rfl ?_
                refine QChain.skip rfl ⟨9, 74, false, rfl, rfl, (.inl (gT g71))⟩ rfl ?_
                refine QChain.skip rfl ⟨9, 74, false, rfl, rfl, (.inl (gT g71))⟩ rfl ?_
                refine QChain.skip rfl ⟨9, 74, false, rfl, rfl, (.inl (gT g71))⟩ rfl ?_
                refine QChain.run rfl (.plain rfl) rfl (q_pick_t rfl rfl g71 rfl) ?_
                exact QChain.nil _ _
              refine (show SOps _ _ _ [] _ _ from ?_)
              refine SOps.sub (st' := ⟨[(0, .c (.ptr 0 0)), (1, .c (.int .i64 a1_u)), (2, .c (.int .i64 a2_sink)), (3, .c (.int .i64 a3_most)), (9, .c (.int .i64 ((a0_g_out.getD a1_u.toNat ([])).getD (o3_31.getD a1_u.toNat 0).toNat 0))), (10, .c (.int .i64 ((o1_30.getD (((a0_g_out.getD a1_u.toNat ([])).getD (o3_31.getD a1_u.toNat 0).toNat 0).toNat) dSEdge).to))), (91, .c (.bool true))], [.box [.own 1 o1_30.length, .vec a0_g_out.length 1 (gL (cVec 1 (cInt .i64) 0) ([]) a0_g_out), .own 2 a0_g_level.length, .own 3 o3_31.length], .arr 59 2 o1_30.length (gL cSEdge dSEdge o1_30), .arr 3 1 a0_g_level.length (gL (cInt .i64) 0 a0_g_level), .arr 3 1 o3_31.length (gL (cInt .i64) 0 o3_31)]⟩) (sub_gen [0, 1, 2, 3] rfl rfl ⟨zc rfl rfl, zc rfl rfl, zc rfl rfl, zc rfl rfl, zc rfl rfl, zc rfl rfl, zc rfl rfl, trivial⟩ ⟨⟨_, rfl, ⟨ii rfl rfl, ii rfl rfl, ii rfl rfl, ii rfl rfl, trivial⟩⟩, oa rfl, oa rfl, oa rfl, trivial⟩) ?_
              refine SOps.nil ?_
              refine SCode.cond_t rfl rfl ?_
              refine SCode.exit ?_
              exact ⟨(o1_30, o3_31), h, sub_gen [0, 1, 2, 3] rfl rfl ⟨zc rfl rfl, zc rfl rfl, zc rfl rfl, zc rfl rfl, trivial⟩ ⟨⟨_, rfl, ⟨ii rfl rfl, ii rfl rfl, ii rfl rfl, ii rfl rfl, trivial⟩⟩, oa rfl, oa rfl, oa rfl, trivial⟩⟩
            obtain ⟨g72, h⟩ := guard_out h
            obtain ⟨g73, h⟩ := guard_out h
            refine SCode.draw (s' := [(91, .c (.bool ((!decide (a0_g_level.getD (((o1_30.getD (((a0_g_out.getD a1_u.toNat ([])).getD (o3_31.getD a1_u.toNat 0).toNat 0).toNat) dSEdge).to).toNat) 0 = IntKind.wrap .i64 (a0_g_level.getD a1_u.toNat 0 + 1)))))), (90, .c (.bool ((!decide (a0_g_level.getD (((o1_30.getD (((a0_g_out.getD a1_u.toNat ([])).getD (o3_31.getD a1_u.toNat 0).toNat 0).toNat) dSEdge).to).toNat) 0 = IntKind.wrap .i64 (a0_g_level.getD a1_u.toNat 0 + 1)))))), (89, .c (.int .i64 (IntKind.wrap .i64 (a0_g_level.getD a1_u.toNat 0 + 1)))), (88, .c (.int .i64 (a0_g_level.getD a1_u.toNat 0))), (87, .c (.aptr 2 1 a1_u.toNat 0)), (86, .c (.int .i64 a1_u)), (85, .c (.own 2 a0_g_level.length)), (84, .c (.ptr 0 2)), (83, .c (.ptr 0 0)), (82, .c (.ptr 0 0)), (81, .c (.int .i64 (a0_g_level.getD (((o1_30.getD (((a0_g_out.getD a1_u.toNat ([])).getD (o3_31.getD a1_u.toNat 0).toNat 0).toNat) dSEdge).to).toNat) 0))), (80, .c (.aptr 2 1 (((o1_30.getD (((a0_g_out.getD a1_u.toNat ([])).getD (o3_31.getD a1_u.toNat 0).toNat 0).toNat) dSEdge).to).toNat) 0)), (79, .c (.int .i64 ((o1_30.getD (((a0_g_out.getD a1_u.toNat ([])).getD (o3_31.getD a1_u.toNat 0).toNat 0).toNat) dSEdge).to))), (78, .c (.own 2 a0_g_level.length)), (77, .c (.ptr 0 2)), (76, .c (.ptr 0 0)), (75, .c (.ptr 0 0)), (74, .c (.bool (decide ((o1_30.getD (((a0_g_out.getD a1_u.toNat ([])).getD (o3_31.getD a1_u.toNat 0).toNat 0).toNat) dSEdge).room = 0)))), (73, .c (.bool (decide ((o1_30.getD (((a0_g_out.getD a1_u.toNat ([])).getD (o3_31.getD a1_u.toNat 0).toNat 0).toNat) dSEdge).room = 0)))), (72, .c (.int .i64 ((o1_30.getD (((a0_g_out.getD a1_u.toNat ([])).getD (o3_31.getD a1_u.toNat 0).toNat 0).toNat) dSEdge).room))), (71, .c (.aptr 1 2 (((a0_g_out.getD a1_u.toNat ([])).getD (o3_31.getD a1_u.toNat 0).toNat 0).toNat) 1)), (70, .c (.aptr 1 2 (((a0_g_out.getD a1_u.toNat ([])).getD (o3_31.getD a1_u.toNat 0).toNat 0).toNat) 0)), (69, .c (.int .i64 ((a0_g_out.getD a1_u.toNat ([])).getD (o3_31.getD a1_u.toNat 0).toNat 0))), (68, .c (.own 1 o1_30.length)), (67, .c (.ptr 0 0)), (66, .c (.ptr 0 0)), (65, .c (.ptr 0 0)), (0, .c (.ptr 0 0)), (1, .c (.int .i64 a1_u)), (2, .c (.int .i64 a2_sink)), (3, .c (.int .i64 a3_most)), (9, .c (.int .i64 ((a0_g_out.getD a1_u.toNat ([])).getD (o3_31.getD a1_u.toNat 0).toNat 0))), (10, .c (.int .i64 ((o1_30.getD (((a0_g_out.getD a1_u.toNat ([])).getD (o3_31.getD a1_u.toNat 0).toNat 0).toNat) dSEdge).to)))]) mixed [[], [0], [0, 1], [0, 1, 2], [], [0, 1, 2, 3, 4], [0, 1, 2, 3, 4, 5], [0, 1, 2, 3, 4, 5, 6], [0, 1, 2, 3, 4, 5, 6, 7], [0, 1, 2, 3, 4, 5, 6, 7, 8], [0, 1, 2, 3, 4, 5, 6, 7, 8, 9], [0, 1, 2, 3, 4, 5, 6, 7, 8, 9, 10], [0, 1, 2, 3, 4, 5, 6, 7, 8, 9, 10, 11], [0, 1, 2, 3, 4, 5, 6, 7, 8, 9, 10, 11, 12], [0, 1, 2, 3, 4, 5, 6, 7, 8, 9], [0, 1, 2, 3, 4, 5, 6, 7, 8, 9, 10, 11, 12, 13, 14], [0, 1, 2, 3, 4, 5, 6, 7, 8, 9, 10, 11, 12, 13, 14, 15], [0, 1, 2, 3, 4, 5, 6, 7, 8, 9], [0, 1, 2, 3, 4, 5, 6, 7, 8, 9, 17], [0, 1, 2, 3, 4, 5, 6, 7, 8, 9, 17, 18], [0, 1, 2, 3, 4, 5, 6, 7, 8, 9, 17, 18, 19], [0, 1, 2, 3, 4, 5, 6, 7, 8, 9], [0, 1, 2, 3, 4, 5, 6, 7, 8, 9, 17, 18, 19, 20, 21], [0, 1, 2, 3, 4, 5, 6, 7, 8, 9, 17, 18, 19, 20, 21, 22], [0, 1, 2, 3, 4, 5, 6, 7, 8, 9, 17, 18, 19, 20, 21, 22, 23], [0, 1, 2, 3, 4, 5, 6, 7, 8, 9, 10, 11, 12, 13, 14, 15, 16, 17, 18, 19, 20, 21, 22, 23, 24], [0, 1, 2, 3, 4, 5, 6, 7, 8, 9, 10, 11, 12, 13, 14, 15, 16, 17, 18, 19, 20, 21, 22, 23, 24, 25]] 27 0 rfl rfl ?_ ?_
            · refine QChain.run rfl (.plain rfl) rfl (q_move rfl rfl) ?_
              refine QChain.run rfl (.plain rfl) rfl (q_nilCheck rfl rfl rfl) ?_
              refine QChain.run rfl (.plain rfl) rfl (q_field_ptr rfl rfl fd63_0) ?_
              refine QChain.run rfl (.plain rfl) rfl (q_load_ptr rfl rfl rfl rfl ty60) ?_
              refine QChain.run rfl (.plain rfl) rfl (q_move rfl rfl) ?_
              refine QChain.run rfl (.plain rfl) rfl (q_index_own rfl rfl rfl sl60 g70.1 g70.2) ?_
              refine QChain.run rfl (.plain rfl) rfl (q_field_aptr rfl rfl fd59_1) ?_
              refine QChain.run rfl (.plain rfl) rfl (q_load_aptr rfl rfl rfl (toNat_lt g70) rfl ty3) ?_
              refine QChain.run rfl (.plain rfl) rfl (q_eql rfl rfl rfl) ?_
              refine QChain.run rfl (.plain rfl) rfl (q_move rfl rfl) ?_
              refine QChain.run rfl (.guard 9 74 false rfl rfl (gF g71)) rfl (q_move rfl rfl) ?_
              refine QChain.run rfl (.guard 9 74 false rfl rfl (gF g71)) rfl (q_nilCheck rfl rfl rfl) ?_
              refine QChain.run rfl (.guard 9 74 false rfl rfl (gF g71)) rfl (q_field_ptr rfl rfl fd63_2) ?_
              refine QChain.run rfl (.guard 9 74 false rfl rfl (gF g71)) rfl (q_load_ptr rfl rfl rfl rfl ty30) ?_
              refine QChain.run rfl (.guard 9 74 false rfl rfl (gF g71)) rfl (q_move rfl rfl) ?_
              refine QChain.run rfl (.guard 9 74 false rfl rfl (gF g71)) rfl (q_index_own rfl rfl rfl sl30 g72.1 g72.2) ?_
              refine QChain.run rfl (.guard 9 74 false rfl rfl (gF g71)) rfl (q_load_aptr rfl rfl rfl (toNat_lt g72) rfl ty3) ?_
              refine QChain.run rfl (.guard 9 74 false rfl rfl (gF g71)) rfl (q_move rfl rfl) ?_
              refine QChain.run rfl (.guard 9 74 false rfl rfl (gF g71)) rfl (q_nilCheck rfl rfl rfl) ?_
              refine QChain.run rfl (.guard 9 74 false rfl rfl (gF g71)) rfl (q_field_ptr rfl rfl fd63_2) ?_
              refine QChain.run rfl (.guard 9 74 false rfl rfl (gF g71)) rfl (q_load_ptr rfl rfl rfl rfl ty30) ?_
              refine QChain.run rfl (.guard 9 74 false rfl rfl (gF g71)) rfl (q_move rfl rfl) ?_
              refine QChain.run rfl (.guard 9 74 false rfl rfl (gF g71)) rfl (q_index_own rfl rfl rfl sl30 g73.1 g73.2) ?_
              refine QChain.run rfl (.guard 9 74 false rfl rfl (gF g71)) rfl (q_load_aptr rfl rfl rfl (toNat_lt g73) rfl ty3) ?_
              refine QChain.run rfl (.guard 9 74 false rfl rfl (gF g71)) rfl (q_add rfl rfl rfl) ?_
              refine QChain.run rfl (.guard 9 74 false rfl rfl (gF g71)) rfl (q_neq rfl rfl rfl) ?_
              refine QChain.run rfl (.plain rfl) rfl (q_pick_f rfl rfl g71 rfl) ?_
              exact QChain.nil _ _
            refine (show SOps _ _ _ [] _ _ from ?_)
            refine SOps.sub (st' := ⟨[(0, .c (.ptr 0 0)), (1, .c (.int .i64 a1_u)), (2, .c (.int .i64 a2_sink)), (3, .c (.int .i64 a3_most)), (9, .c (.int .i64 ((a0_g_out.getD a1_u.toNat ([])).getD (o3_31.getD a1_u.toNat 0).toNat 0))), (10, .c (.int .i64 ((o1_30.getD (((a0_g_out.getD a1_u.toNat ([])).getD (o3_31.getD a1_u.toNat 0).toNat 0).toNat) dSEdge).to))), (91, .c (.bool ((!decide (a0_g_level.getD (((o1_30.getD (((a0_g_out.getD a1_u.toNat ([])).getD (o3_31.getD a1_u.toNat 0).toNat 0).toNat) dSEdge).to).toNat) 0 = IntKind.wrap .i64 (a0_g_level.getD a1_u.toNat 0 + 1))))))], [.box [.own 1 o1_30.length, .vec a0_g_out.length 1 (gL (cVec 1 (cInt .i64) 0) ([]) a0_g_out), .own 2 a0_g_level.length, .own 3 o3_31.length], .arr 59 2 o1_30.length (gL cSEdge dSEdge o1_30), .arr 3 1 a0_g_level.length (gL (cInt .i64) 0 a0_g_level), .arr 3 1 o3_31.length (gL (cInt .i64) 0 o3_31)]⟩) (sub_gen [0, 1, 2, 3] rfl rfl ⟨zc rfl rfl, zc rfl rfl, zc rfl rfl, zc rfl rfl, zc rfl rfl, zc rfl rfl, zc rfl rfl, trivial⟩ ⟨⟨_, rfl, ⟨ii rfl rfl, ii rfl rfl, ii rfl rfl, ii rfl rfl, trivial⟩⟩, oa rfl, oa rfl, oa rfl, trivial⟩) ?_
            refine SOps.nil ?_
            rcases cond_out h with ⟨g74, h⟩ | ⟨g74, h⟩
            · refine SCode.cond_t rfl g74 ?_
              refine SCode.exit ?_
              exact ⟨(o1_30, o3_31), h, sub_gen [0, 1, 2, 3] rfl rfl ⟨zc rfl rfl, zc rfl rfl, zc rfl rfl, zc rfl rfl, trivial⟩ ⟨⟨_, rfl, ⟨ii rfl rfl, ii rfl rfl, ii rfl rfl, ii rfl rfl, trivial⟩⟩, oa rfl, oa rfl, oa rfl, trivial⟩⟩
            refine SCode.cond_f rfl g74 ?_
            refine SCode.skip ?_
            refine SCode.seq ?_
            obtain ⟨g75, h⟩ := guard_out h
            obtain ⟨c_76, g77, h⟩ := bind_out h
            try dsimp only at h
            refine SCode.region (show SOps _ _ _ [0, 1, 2, 3, 4, 5, 6, 7, 8, 9, 10, 11, 12, 13, 14] _ _ from ?_)
            refine SOps.q rfl (.plain rfl) rfl (q_move rfl rfl) ?_
            refine SOps.q rfl (.plain rfl) rfl (q_move rfl rfl) ?_
            refine SOps.q rfl (.plain rfl) rfl (q_move rfl rfl) ?_
            refine SOps.q rfl (.plain rfl) rfl (q_move rfl rfl) ?_
            refine SOps.q rfl (.plain rfl) rfl (q_move rfl rfl) ?_
            refine SOps.q rfl (.plain rfl) rfl (q_nilCheck rfl rfl rfl) ?_
            refine SOps.q rfl (.plain rfl) rfl (q_field_ptr rfl rfl fd63_0) ?_
            refine SOps.q rfl (.plain rfl) rfl (q_load_ptr rfl rfl rfl rfl ty60) ?_
            refine SOps.q rfl (.plain rfl) rfl (q_move rfl rfl) ?_
            refine SOps.q rfl (.plain rfl) rfl (q_index_own rfl rfl rfl sl60 g75.1 g75.2) ?_
            refine SOps.q rfl (.plain rfl) rfl (q_field_aptr rfl rfl fd59_1) ?_
            refine SOps.q rfl (.plain rfl) rfl (q_load_aptr rfl rfl rfl (toNat_lt g75) rfl ty3) ?_
            refine SOps.q rfl (.plain rfl) rfl (q_min rfl rfl rfl) ?_
            refine SOps.e rfl (.plain rfl) (e_call (ih o1_30 a0_g_out a0_g_level o3_31 ((o1_30.getD (((a0_g_out.getD a1_u.toNat ([])).getD (o3_31.getD a1_u.toNat 0).toNat 0).toNat) dSEdge).to) a2_sink ((if (o1_30.getD (((a0_g_out.getD a1_u.toNat ([])).getD (o3_31.getD a1_u.toNat 0).toNat 0).toNat) dSEdge).room < a3_most then (o1_30.getD (((a0_g_out.getD a1_u.toNat ([])).getD (o3_31.getD a1_u.toNat 0).toNat 0).toNat) dSEdge).room else a3_most)) c_76 g77) [0, 1, 2, 3] rfl fn34 rfl rfl rfl rfl rfl rfl rfl rfl) ?_
            refine SOps.q rfl (.plain rfl) rfl (q_assign rfl rfl) ?_
            refine SOps.sub (st' := ⟨[(0, .c (.ptr 0 0)), (1, .c (.int .i64 a1_u)), (2, .c (.int .i64 a2_sink)), (3, .c (.int .i64 a3_most)), (9, .c (.int .i64 ((a0_g_out.getD a1_u.toNat ([])).getD (o3_31.getD a1_u.toNat 0).toNat 0))), (11, .c (.int .i64 c_76.1))], [.box [.own 1 c_76.2.1.length, .vec a0_g_out.length 1 (gL (cVec 1 (cInt .i64) 0) ([]) a0_g_out), .own 2 a0_g_level.length, .own 3 c_76.2.2.length], .arr 59 2 c_76.2.1.length (gL cSEdge dSEdge c_76.2.1), .arr 3 1 a0_g_level.length (gL (cInt .i64) 0 a0_g_level), .arr 3 1 c_76.2.2.length (gL (cInt .i64) 0 c_76.2.2)]⟩) (sub_gen [0, 1, 2, 3] rfl rfl ⟨zc rfl rfl, zc rfl rfl, zc rfl rfl, zc rfl rfl, zc rfl rfl, zc rfl rfl, trivial⟩ ⟨⟨_, rfl, ⟨ii rfl rfl, ii rfl rfl, ii rfl rfl, ii rfl rfl, trivial⟩⟩, oa rfl, oa rfl, oa rfl, trivial⟩) ?_
            refine SOps.nil ?_
            refine SCode.seq ?_
            refine SCode.region (show SOps _ _ _ [0, 1] _ _ from ?_)
            refine SOps.q rfl (.plain rfl) rfl (q_move rfl rfl) ?_
            refine SOps.q rfl (.plain rfl) rfl (q_gtr rfl rfl rfl) ?_
            refine SOps.sub (st' := ⟨[(0, .c (.ptr 0 0)), (1, .c (.int .i64 a1_u)), (2, .c (.int .i64 a2_sink)), (3, .c (.int .i64 a3_most)), (9, .c (.int .i64 ((a0_g_out.getD a1_u.toNat ([])).getD (o3_31.getD a1_u.toNat 0).toNat 0))), (11, .c (.int .i64 c_76.1)), (107, .c (.bool (decide (0 < c_76.1))))], [.box [.own 1 c_76.2.1.length, .vec a0_g_out.length 1 (gL (cVec 1 (cInt .i64) 0) ([]) a0_g_out), .own 2 a0_g_level.length, .own 3 c_76.2.2.length], .arr 59 2 c_76.2.1.length (gL cSEdge dSEdge c_76.2.1), .arr 3 1 a0_g_level.length (gL (cInt .i64) 0 a0_g_level), .arr 3 1 c_76.2.2.length (gL (cInt .i64) 0 c_76.2.2)]⟩) (sub_gen [0, 1, 2, 3] rfl rfl ⟨zc rfl rfl, zc rfl rfl, zc rfl rfl, zc rfl rfl, zc rfl rfl, zc rfl rfl, zc rfl rfl, trivial⟩ ⟨⟨_, rfl, ⟨ii rfl rfl, ii rfl rfl, ii rfl rfl, ii rfl rfl, trivial⟩⟩, oa rfl, oa rfl, oa rfl, trivial⟩) ?_
            refine SOps.nil ?_
            rcases cond_out h with ⟨g78, h⟩ | ⟨g78, h⟩
            · refine SCode.cond_t rfl g78 ?_
              refine SCode.seq ?_
              obtain ⟨g79, h⟩ := guard_out h
              obtain ⟨g80, h⟩ := guard_out h
              refine SCode.region (show SOps _ _ _ [0, 1, 2, 3, 4, 5, 6, 7, 8, 9, 10, 11, 12] _ _ from ?_)
              refine SOps.q rfl (.plain rfl) rfl (q_move rfl rfl) ?_
              refine SOps.q rfl (.plain rfl) rfl (q_nilCheck rfl rfl rfl) ?_
              refine SOps.q rfl (.plain rfl) rfl (q_field_ptr rfl rfl fd63_0) ?_
              refine SOps.q rfl (.plain rfl) rfl (q_load_ptr rfl rfl rfl rfl ty60) ?_
              refine SOps.q rfl (.plain rfl) rfl (q_move rfl rfl) ?_
              refine SOps.q rfl (.plain rfl) rfl (q_index_own rfl rfl rfl sl60 g79.1 g79.2) ?_
              refine SOps.q rfl (.plain rfl) rfl (q_field_aptr rfl rfl fd59_1) ?_
              refine SOps.q rfl (.plain rfl) rfl (q_load_aptr rfl rfl rfl (toNat_lt g79) rfl ty3) ?_
              refine SOps.q rfl (.plain rfl) rfl (q_move rfl rfl) ?_
              refine SOps.q rfl (.plain rfl) rfl (q_sub rfl rfl rfl) ?_
              refine SOps.q rfl (.plain rfl) rfl (q_index_own rfl rfl rfl sl60 g80.1 g80.2) ?_
              refine SOps.q rfl (.plain rfl) rfl (q_field_aptr rfl rfl fd59_1) ?_
              refine SOps.e rfl (.plain rfl) (e_storeL (SEdge.mk ((c_76.2.1.getD (((a0_g_out.getD a1_u.toNat ([])).getD (o3_31.getD a1_u.toNat 0).toNat 0).toNat) dSEdge).to) (IntKind.wrap .i64 ((c_76.2.1.getD (((a0_g_out.getD a1_u.toNat ([])).getD (o3_31.getD a1_u.toNat 0).toNat 0).toNat) dSEdge).room - c_76.1))) rfl rfl rfl rfl rfl (toNat_lt g80) ty3 rfl rfl rfl rfl rfl rfl) ?_
              refine SOps.sub (st' := ⟨[(0, .c (.ptr 0 0)), (9, .c (.int .i64 ((a0_g_out.getD a1_u.toNat ([])).getD (o3_31.getD a1_u.toNat 0).toNat 0))), (11, .c (.int .i64 c_76.1))], [.box [.own 1 (c_76.2.1.set (((a0_g_out.getD a1_u.toNat ([])).getD (o3_31.getD a1_u.toNat 0).toNat 0).toNat) (SEdge.mk ((c_76.2.1.getD (((a0_g_out.getD a1_u.toNat ([])).getD (o3_31.getD a1_u.toNat 0).toNat 0).toNat) dSEdge).to) (IntKind.wrap .i64 ((c_76.2.1.getD (((a0_g_out.getD a1_u.toNat ([])).getD (o3_31.getD a1_u.toNat 0).toNat 0).toNat) dSEdge).room - c_76.1)))).length, .vec a0_g_out.length 1 (gL (cVec 1 (cInt .i64) 0) ([]) a0_g_out), .own 2 a0_g_level.length, .own 3 c_76.2.2.length], .arr 59 2 (c_76.2.1.set (((a0_g_out.getD a1_u.toNat ([])).getD (o3_31.getD a1_u.toNat 0).toNat 0).toNat) (SEdge.mk ((c_76.2.1.getD (((a0_g_out.getD a1_u.toNat ([])).getD (o3_31.getD a1_u.toNat 0).toNat 0).toNat) dSEdge).to) (IntKind.wrap .i64 ((c_76.2.1.getD (((a0_g_out.getD a1_u.toNat ([])).getD (o3_31.getD a1_u.toNat 0).toNat 0).toNat) dSEdge).room - c_76.1)))).length (gL cSEdge dSEdge (c_76.2.1.set (((a0_g_out.getD a1_u.toNat ([])).getD (o3_31.getD a1_u.toNat 0).toNat 0).toNat) (SEdge.mk ((c_76.2.1.getD (((a0_g_out.getD a1_u.toNat ([])).getD (o3_31.getD a1_u.toNat 0).toNat 0).toNat) dSEdge).to) (IntKind.wrap .i64 ((c_76.2.1.getD (((a0_g_out.getD a1_u.toNat ([])).getD (o3_31.getD a1_u.toNat 0).toNat 0).toNat) dSEdge).room - c_76.1))))), .arr 3 1 a0_g_level.length (gL (cInt .i64) 0 a0_g_level), .arr 3 1 c_76.2.2.length (gL (cInt .i64) 0 c_76.2.2)]⟩) (sub_gen [0, 1, 2, 3] rfl rfl ⟨zc rfl rfl, zc rfl rfl, zc rfl rfl, trivial⟩ ⟨⟨_, rfl, ⟨.inl ⟨rfl, congrArg (Cell.own 1) (List.length_set : (c_76.2.1.set (((a0_g_out.getD a1_u.toNat ([])).getD (o3_31.getD a1_u.toNat 0).toNat 0).toNat) (SEdge.mk ((c_76.2.1.getD (((a0_g_out.getD a1_u.toNat ([])).getD (o3_31.getD a1_u.toNat 0).toNat 0).toNat) dSEdge).to) (IntKind.wrap .i64 ((c_76.2.1.getD (((a0_g_out.getD a1_u.toNat ([])).getD (o3_31.getD a1_u.toNat 0).toNat 0).toNat) dSEdge).room - c_76.1)))).length = c_76.2.1.length).symm⟩, ii rfl rfl, ii rfl rfl, ii rfl rfl, trivial⟩⟩, oa rfl, oa rfl, oa rfl, trivial⟩) ?_
              refine SOps.nil ?_
              refine SCode.seq ?_
              obtain ⟨g81, h⟩ := guard_out h
              obtain ⟨g82, h⟩ := guard_out h
              refine SCode.region (show SOps _ _ _ [0, 1, 2, 3, 4, 5, 6, 7, 8, 9, 10, 11, 12, 13] _ _ from ?_)
              refine SOps.q rfl (.plain rfl) rfl (q_move rfl rfl) ?_
              refine SOps.q rfl (.plain rfl) rfl (q_nilCheck rfl rfl rfl) ?_
              refine SOps.q rfl (.plain rfl) rfl (q_field_ptr rfl rfl fd63_0) ?_
              refine SOps.q rfl (.plain rfl) rfl (q_load_ptr rfl rfl rfl rfl ty60) ?_
              refine SOps.q rfl (.plain rfl) rfl (q_move rfl rfl) ?_
              refine SOps.q rfl (.plain rfl) rfl (q_xor rfl rfl rfl) ?_
              refine SOps.q rfl (.plain rfl) rfl (q_index_own rfl rfl rfl sl60 g81.1 g81.2) ?_
              refine SOps.q rfl (.plain rfl) rfl (q_field_aptr rfl rfl fd59_1) ?_
              refine SOps.q rfl (.plain rfl) rfl (q_load_aptr rfl rfl rfl (toNat_lt g81) rfl ty3) ?_
              refine SOps.q rfl (.plain rfl) rfl (q_move rfl rfl) ?_
              refine SOps.q rfl (.plain rfl) rfl (q_add rfl rfl rfl) ?_
              refine SOps.q rfl (.plain rfl) rfl (q_index_own rfl rfl rfl sl60 g82.1 g82.2) ?_
              refine SOps.q rfl (.plain rfl) rfl (q_field_aptr rfl rfl fd59_1) ?_
              refine SOps.e rfl (.plain rfl) (e_storeL (SEdge.mk (((c_76.2.1.set (((a0_g_out.getD a1_u.toNat ([])).getD (o3_31.getD a1_u.toNat 0).toNat 0).toNat) (SEdge.mk ((c_76.2.1.getD (((a0_g_out.getD a1_u.toNat ([])).getD (o3_31.getD a1_u.toNat 0).toNat 0).toNat) dSEdge).to) (IntKind.wrap .i64 ((c_76.2.1.getD (((a0_g_out.getD a1_u.toNat ([])).getD (o3_31.getD a1_u.toNat 0).toNat 0).toNat) dSEdge).room - c_76.1)))).getD ((iXor .i64 ((a0_g_out.getD a1_u.toNat ([])).getD (o3_31.getD a1_u.toNat 0).toNat 0) 1).toNat) dSEdge).to) (IntKind.wrap .i64 (((c_76.2.1.set (((a0_g_out.getD a1_u.toNat ([])).getD (o3_31.getD a1_u.toNat 0).toNat 0).toNat) (SEdge.mk ((c_76.2.1.getD (((a0_g_out.getD a1_u.toNat ([])).getD (o3_31.getD a1_u.toNat 0).toNat 0).toNat) dSEdge).to) (IntKind.wrap .i64 ((c_76.2.1.getD (((a0_g_out.getD a1_u.toNat ([])).getD (o3_31.getD a1_u.toNat 0).toNat 0).toNat) dSEdge).room - c_76.1)))).getD ((iXor .i64 ((a0_g_out.getD a1_u.toNat ([])).getD (o3_31.getD a1_u.toNat 0).toNat 0) 1).toNat) dSEdge).room + c_76.1))) rfl rfl rfl rfl rfl (toNat_lt g82) ty3 rfl rfl rfl rfl rfl rfl) ?_
              refine SOps.sub (st' := ⟨[(11, .c (.int .i64 c_76.1))], [.box [.own 1 ((c_76.2.1.set (((a0_g_out.getD a1_u.toNat ([])).getD (o3_31.getD a1_u.toNat 0).toNat 0).toNat) (SEdge.mk ((c_76.2.1.getD (((a0_g_out.getD a1_u.toNat ([])).getD (o3_31.getD a1_u.toNat 0).toNat 0).toNat) dSEdge).to) (IntKind.wrap .i64 ((c_76.2.1.getD (((a0_g_out.getD a1_u.toNat ([])).getD (o3_31.getD a1_u.toNat 0).toNat 0).toNat) dSEdge).room - c_76.1)))).set ((iXor .i64 ((a0_g_out.getD a1_u.toNat ([])).getD (o3_31.getD a1_u.toNat 0).toNat 0) 1).toNat) (SEdge.mk (((c_76.2.1.set (((a0_g_out.getD a1_u.toNat ([])).getD (o3_31.getD a1_u.toNat 0).toNat 0).toNat) (SEdge.mk ((c_76.2.1.getD (((a0_g_out.getD a1_u.toNat ([])).getD (o3_31.getD a1_u.toNat 0).toNat 0).toNat) dSEdge).to) (IntKind.wrap .i64 ((c_76.2.1.getD (((a0_g_out.getD a1_u.toNat ([])).getD (o3_31.getD a1_u.toNat 0).toNat 0).toNat) dSEdge).room - c_76.1)))).getD ((iXor .i64 ((a0_g_out.getD a1_u.toNat ([])).getD (o3_31.getD a1_u.toNat 0).toNat 0) 1).toNat) dSEdge).to) (IntKind.wrap .i64 (((c_76.2.1.set (((a0_g_out.getD a1_u.toNat ([])).getD (o3_31.getD a1_u.toNat 0).toNat 0).toNat) (SEdge.mk ((c_76.2.1.getD (((a0_g_out.getD a1_u.toNat ([])).getD (o3_31.getD a1_u.toNat 0).toNat 0).toNat) dSEdge).to) (IntKind.wrap .i64 ((c_76.2.1.getD (((a0_g_out.getD a1_u.toNat ([])).getD (o3_31.getD a1_u.toNat 0).toNat 0).toNat) dSEdge).room - c_76.1)))).getD ((iXor .i64 ((a0_g_out.getD a1_u.toNat ([])).getD (o3_31.getD a1_u.toNat 0).toNat 0) 1).toNat) dSEdge).room + c_76.1)))).length, .vec a0_g_out.length 1 (gL (cVec 1 (cInt .i64) 0) ([]) a0_g_out), .own 2 a0_g_level.length, .own 3 c_76.2.2.length], .arr 59 2 ((c_76.2.1.set (((a0_g_out.getD a1_u.toNat ([])).getD (o3_31.getD a1_u.toNat 0).toNat 0).toNat) (SEdge.mk ((c_76.2.1.getD (((a0_g_out.getD a1_u.toNat ([])).getD (o3_31.getD a1_u.toNat 0).toNat 0).toNat) dSEdge).to) (IntKind.wrap .i64 ((c_76.2.1.getD (((a0_g_out.getD a1_u.toNat ([])).getD (o3_31.getD a1_u.toNat 0).toNat 0).toNat) dSEdge).room - c_76.1)))).set ((iXor .i64 ((a0_g_out.getD a1_u.toNat ([])).getD (o3_31.getD a1_u.toNat 0).toNat 0) 1).toNat) (SEdge.mk (((c_76.2.1.set (((a0_g_out.getD a1_u.toNat ([])).getD (o3_31.getD a1_u.toNat 0).toNat 0).toNat) (SEdge.mk ((c_76.2.1.getD (((a0_g_out.getD a1_u.toNat ([])).getD (o3_31.getD a1_u.toNat 0).toNat 0).toNat) dSEdge).to) (IntKind.wrap .i64 ((c_76.2.1.getD (((a0_g_out.getD a1_u.toNat ([])).getD (o3_31.getD a1_u.toNat 0).toNat 0).toNat) dSEdge).room - c_76.1)))).getD ((iXor .i64 ((a0_g_out.getD a1_u.toNat ([])).getD (o3_31.getD a1_u.toNat 0).toNat 0) 1).toNat) dSEdge).to) (IntKind.wrap .i64 (((c_76.2.1.set (((a0_g_out.getD a1_u.toNat ([])).getD (o3_31.getD a1_u.toNat 0).toNat 0).toNat) (SEdge.mk ((c_76.2.1.getD (((a0_g_out.getD a1_u.toNat ([])).getD (o3_31.getD a1_u.toNat 0).toNat 0).toNat) dSEdge).to) (IntKind.wrap .i64 ((c_76.2.1.getD (((a0_g_out.getD a1_u.toNat ([])).getD (o3_31.getD a1_u.toNat 0).toNat 0).toNat) dSEdge).room - c_76.1)))).getD ((iXor .i64 ((a0_g_out.getD a1_u.toNat ([])).getD (o3_31.getD a1_u.toNat 0).toNat 0) 1).toNat) dSEdge).room + c_76.1)))).length (gL cSEdge dSEdge ((c_76.2.1.set (((a0_g_out.getD a1_u.toNat ([])).getD (o3_31.getD a1_u.toNat 0).toNat 0).toNat) (SEdge.mk ((c_76.2.1.getD (((a0_g_out.getD a1_u.toNat ([])).getD (o3_31.getD a1_u.toNat 0).toNat 0).toNat) dSEdge).to) (IntKind.wrap .i64 ((c_76.2.1.getD (((a0_g_out.getD a1_u.toNat ([])).getD (o3_31.getD a1_u.toNat 0).toNat 0).toNat) dSEdge).room - c_76.1)))).set ((iXor .i64 ((a0_g_out.getD a1_u.toNat ([])).getD (o3_31.getD a1_u.toNat 0).toNat 0) 1).toNat) (SEdge.mk (((c_76.2.1.set (((a0_g_out.getD a1_u.toNat ([])).getD (o3_31.getD a1_u.toNat 0).toNat 0).toNat) (SEdge.mk ((c_76.2.1.getD (((a0_g_out.getD a1_u.toNat ([])).getD (o3_31.getD a1_u.toNat 0).toNat 0).toNat) dSEdge).to) (IntKind.wrap .i64 ((c_76.2.1.getD (((a0_g_out.getD a1_u.toNat ([])).getD (o3_31.getD a1_u.toNat 0).toNat 0).toNat) dSEdge).room - c_76.1)))).getD ((iXor .i64 ((a0_g_out.getD a1_u.toNat ([])).getD (o3_31.getD a1_u.toNat 0).toNat 0) 1).toNat) dSEdge).to) (IntKind.wrap .i64 (((c_76.2.1.set (((a0_g_out.getD a1_u.toNat ([])).getD (o3_31.getD a1_u.toNat 0).toNat 0).toNat) (SEdge.mk ((c_76.2.1.getD (((a0_g_out.getD a1_u.toNat ([])).getD (o3_31.getD a1_u.toNat 0).toNat 0).toNat) dSEdge).to) (IntKind.wrap .i64 ((c_76.2.1.getD (((a0_g_out.getD a1_u.toNat ([])).getD (o3_31.getD a1_u.toNat 0).toNat 0).toNat) dSEdge).room - c_76.1)))).getD ((iXor .i64 ((a0_g_out.getD a1_u.toNat ([])).getD (o3_31.getD a1_u.toNat 0).toNat 0) 1).toNat) dSEdge).room + c_76.1))))), .arr 3 1 a0_g_level.length (gL (cInt .i64) 0 a0_g_level), .arr 3 1 c_76.2.2.length (gL (cInt .i64) 0 c_76.2.2)]⟩) (sub_gen [0, 1, 2, 3] rfl rfl ⟨zc rfl rfl, trivial⟩ ⟨⟨_, rfl, ⟨.inl ⟨rfl, congrArg (Cell.own 1) (List.length_set : ((c_76.2.1.set (((a0_g_out.getD a1_u.toNat ([])).getD (o3_31.getD a1_u.toNat 0).toNat 0).toNat) (SEdge.mk ((c_76.2.1.getD (((a0_g_out.getD a1_u.toNat ([])).getD (o3_31.getD a1_u.toNat 0).toNat 0).toNat) dSEdge).to) (IntKind.wrap .i64 ((c_76.2.1.getD (((a0_g_out.getD a1_u.toNat ([])).getD (o3_31.getD a1_u.toNat 0).toNat 0).toNat) dSEdge).room - c_76.1)))).set ((iXor .i64 ((a0_g_out.getD a1_u.toNat ([])).getD (o3_31.getD a1_u.toNat 0).toNat 0) 1).toNat) (SEdge.mk (((c_76.2.1.set (((a0_g_out.getD a1_u.toNat ([])).getD (o3_31.getD a1_u.toNat 0).toNat 0).toNat) (SEdge.mk ((c_76.2.1.getD (((a0_g_out.getD a1_u.toNat ([])).getD (o3_31.getD a1_u.toNat 0).toNat 0).toNat) dSEdge).to) (IntKind.wrap .i64 ((c_76.2.1.getD (((a0_g_out.getD a1_u.toNat ([])).getD (o3_31.getD a1_u.toNat 0).toNat 0).toNat) dSEdge).room - c_76.1)))).getD ((iXor .i64 ((a0_g_out.getD a1_u.toNat ([])).getD (o3_31.getD a1_u.toNat 0).toNat 0) 1).toNat) dSEdge).to) (IntKind.wrap .i64 (((c_76.2.1.set (((a0_g_out.getD a1_u.toNat ([])).getD (o3_31.getD a1_u.toNat 0).toNat 0).toNat) (SEdge.mk ((c_76.2.1.getD (((a0_g_out.getD a1_u.toNat ([])).getD (o3_31.getD a1_u.toNat 0).toNat 0).toNat) dSEdge).to) (IntKind.wrap .i64 ((c_76.2.1.getD (((a0_g_out.getD a1_u.toNat ([])).getD (o3_31.getD a1_u.toNat 0).toNat 0).toNat) dSEdge).room - c_76.1)))).getD ((iXor .i64 ((a0_g_out.getD a1_u.toNat ([])).getD (o3_31.getD a1_u.toNat 0).toNat 0) 1).toNat) dSEdge).room + c_76.1)))).length = (c_76.2.1.set (((a0_g_out.getD a1_u.toNat ([])).getD (o3_31.getD a1_u.toNat 0).toNat 0).toNat) (SEdge.mk ((c_76.2.1.getD (((a0_g_out.getD a1_u.toNat ([])).getD (o3_31.getD a1_u.toNat 0).toNat 0).toNat) dSEdge).to) (IntKind.wrap .i64 ((c_76.2.1.getD (((a0_g_out.getD a1_u.toNat ([])).getD (o3_31.getD a1_u.toNat 0).toNat 0).toNat) dSEdge).room - c_76.1)))).length).symm⟩, ii rfl rfl, ii rfl rfl, ii rfl rfl, trivial⟩⟩, oa rfl, oa rfl, oa rfl, trivial⟩) ?_
              refine SOps.nil ?_
              refine SCode.seq ?_
              refine SCode.region (show SOps _ _ _ [0, 1] _ _ from ?_)
              refine SOps.q rfl (.plain rfl) rfl (q_move rfl rfl) ?_
              refine SOps.q rfl (.plain rfl) rfl (q_assign rfl rfl) ?_
              refine SOps.sub (st' := ⟨[(8, .c (.int .i64 c_76.1))], [.box [.own 1 ((c_76.2.1.set (((a0_g_out.getD a1_u.toNat ([])).getD (o3_31.getD a1_u.toNat 0).toNat 0).toNat) (SEdge.mk ((c_76.2.1.getD (((a0_g_out.getD a1_u.toNat ([])).getD (o3_31.getD a1_u.toNat 0).toNat 0).toNat) dSEdge).to) (IntKind.wrap .i64 ((c_76.2.1.getD (((a0_g_out.getD a1_u.toNat ([])).getD (o3_31.getD a1_u.toNat 0).toNat 0).toNat) dSEdge).room - c_76.1)))).set ((iXor .i64 ((a0_g_out.getD a1_u.toNat ([])).getD (o3_31.getD a1_u.toNat 0).toNat 0) 1).toNat) (SEdge.mk (((c_76.2.1.set (((a0_g_out.getD a1_u.toNat ([])).getD (o3_31.getD a1_u.toNat 0).toNat 0).toNat) (SEdge.mk ((c_76.2.1.getD (((a0_g_out.getD a1_u.toNat ([])).getD (o3_31.getD a1_u.toNat 0).toNat 0).toNat) dSEdge).to) (IntKind.wrap .i64 ((c_76.2.1.getD (((a0_g_out.getD a1_u.toNat ([])).getD (o3_31.getD a1_u.toNat 0).toNat 0).toNat) dSEdge).room - c_76.1)))).getD ((iXor .i64 ((a0_g_out.getD a1_u.toNat ([])).getD (o3_31.getD a1_u.toNat 0).toNat 0) 1).toNat) dSEdge).to) (IntKind.wrap .i64 (((c_76.2.1.set (((a0_g_out.getD a1_u.toNat ([])).getD (o3_31.getD a1_u.toNat 0).toNat 0).toNat) (SEdge.mk ((c_76.2.1.getD (((a0_g_out.getD a1_u.toNat ([])).getD (o3_31.getD a1_u.toNat 0).toNat 0).toNat) dSEdge).to) (IntKind.wrap .i64 ((c_76.2.1.getD (((a0_g_out.getD a1_u.toNat ([])).getD (o3_31.getD a1_u.toNat 0).toNat 0).toNat) dSEdge).room - c_76.1)))).getD ((iXor .i64 ((a0_g_out.getD a1_u.toNat ([])).getD (o3_31.getD a1_u.toNat 0).toNat 0) 1).toNat) dSEdge).room + c_76.1)))).length, .vec a0_g_out.length 1 (gL (cVec 1 (cInt .i64) 0) ([]) a0_g_out), .own 2 a0_g_level.length, .own 3 c_76.2.2.length], .arr 59 2 ((c_76.2.1.set (((a0_g_out.getD a1_u.toNat ([])).getD (o3_31.getD a1_u.toNat 0).toNat 0).toNat) (SEdge.mk ((c_76.2.1.getD (((a0_g_out.getD a1_u.toNat ([])).getD (o3_31.getD a1_u.toNat 0).toNat 0).toNat) dSEdge).to) (IntKind.wrap .i64 ((c_76.2.1.getD (((a0_g_out.getD a1_u.toNat ([])).getD (o3_31.getD a1_u.toNat 0).toNat 0).toNat) dSEdge).room - c_76.1)))).set ((iXor .i64 ((a0_g_out.getD a1_u.toNat ([])).getD (o3_31.getD a1_u.toNat 0).toNat 0) 1).toNat) (SEdge.mk (((c_76.2.1.set (((a0_g_out.getD a1_u.toNat ([])).getD (o3_31.getD a1_u.toNat 0).toNat 0).toNat) (SEdge.mk ((c_76.2.1.getD (((a0_g_out.getD a1_u.toNat ([])).getD (o3_31.getD a1_u.toNat 0).toNat 0).toNat) dSEdge).to) (IntKind.wrap .i64 ((c_76.2.1.getD (((a0_g_out.getD a1_u.toNat ([])).getD (o3_31.getD a1_u.toNat 0).toNat 0).toNat) dSEdge).room - c_76.1)))).getD ((iXor .i64 ((a0_g_out.getD a1_u.toNat ([])).getD (o3_31.getD a1_u.toNat 0).toNat 0) 1).toNat) dSEdge).to) (IntKind.wrap .i64 (((c_76.2.1.set (((a0_g_out.getD a1_u.toNat ([])).getD (o3_31.getD a1_u.toNat 0).toNat 0).toNat) (SEdge.mk ((c_76.2.1.getD (((a0_g_out.getD a1_u.toNat ([])).getD (o3_31.getD a1_u.toNat 0).toNat 0).toNat) dSEdge).to) (IntKind.wrap .i64 ((c_76.2.1.getD (((a0_g_out.getD a1_u.toNat ([])).getD (o3_31.getD a1_u.toNat 0).toNat 0).toNat) dSEdge).room - c_76.1)))).getD ((iXor .i64 ((a0_g_out.getD a1_u.toNat ([])).getD (o3_31.getD a1_u.toNat 0).toNat 0) 1).toNat) dSEdge).room + c_76.1)))).length (gL cSEdge dSEdge ((c_76.2.1.set (((a0_g_out.getD a1_u.toNat ([])).getD (o3_31.getD a1_u.toNat 0).toNat 0).toNat) (SEdge.mk ((c_76.2.1.getD (((a0_g_out.getD a1_u.toNat ([])).getD (o3_31.getD a1_u.toNat 0).toNat 0).toNat) dSEdge).to) (IntKind.wrap .i64 ((c_76.2.1.getD (((a0_g_out.getD a1_u.toNat ([])).getD (o3_31.getD a1_u.toNat 0).toNat 0).toNat) dSEdge).room - c_76.1)))).set ((iXor .i64 ((a0_g_out.getD a1_u.toNat ([])).getD (o3_31.getD a1_u.toNat 0).toNat 0) 1).toNat) (SEdge.mk (((c_76.2.1.set (((a0_g_out.getD a1_u.toNat ([])).getD (o3_31.getD a1_u.toNat 0).toNat 0).toNat) (SEdge.mk ((c_76.2.1.getD (((a0_g_out.getD a1_u.toNat ([])).getD (o3_31.getD a1_u.toNat 0).toNat 0).toNat) dSEdge).to) (IntKind.wrap .i64 ((c_76.2.1.getD (((a0_g_out.getD a1_u.toNat ([])).getD (o3_31.getD a1_u.toNat 0).toNat 0).toNat) dSEdge).room - c_76.1)))).getD ((iXor .i64 ((a0_g_out.getD a1_u.toNat ([])).getD (o3_31.getD a1_u.toNat 0).toNat 0) 1).toNat) dSEdge).to) (IntKind.wrap .i64 (((c_76.2.1.set (((a0_g_out.getD a1_u.toNat ([])).getD (o3_31.getD a1_u.toNat 0).toNat 0).toNat) (SEdge.mk ((c_76.2.1.getD (((a0_g_out.getD a1_u.toNat ([])).getD (o3_31.getD a1_u.toNat 0).toNat 0).toNat) dSEdge).to) (IntKind.wrap .i64 ((c_76.2.1.getD (((a0_g_out.getD a1_u.toNat ([])).getD (o3_31.getD a1_u.toNat 0).toNat 0).toNat) dSEdge).room - c_76.1)))).getD ((iXor .i64 ((a0_g_out.getD a1_u.toNat ([])).getD (o3_31.getD a1_u.toNat 0).toNat 0) 1).toNat) dSEdge).room + c_76.1))))), .arr 3 1 a0_g_level.length (gL (cInt .i64) 0 a0_g_level), .arr 3 1 c_76.2.2.length (gL (cInt .i64) 0 c_76.2.2)]⟩) (sub_gen [0, 1, 2, 3] rfl rfl ⟨zc rfl rfl, trivial⟩ ⟨⟨_, rfl, ⟨ii rfl rfl, ii rfl rfl, ii rfl rfl, ii rfl rfl, trivial⟩⟩, oa rfl, oa rfl, oa rfl, trivial⟩) ?_
              refine SOps.nil ?_
              refine SCode.ret ?_
              obtain rfl := Option.some.inj h
              exact ⟨⟨[(8, .c (.int .i64 c_76.1))], [.box [.own 1 ((c_76.2.1.set (((a0_g_out.getD a1_u.toNat ([])).getD (o3_31.getD a1_u.toNat 0).toNat 0).toNat) (SEdge.mk ((c_76.2.1.getD (((a0_g_out.getD a1_u.toNat ([])).getD (o3_31.getD a1_u.toNat 0).toNat 0).toNat) dSEdge).to) (IntKind.wrap .i64 ((c_76.2.1.getD (((a0_g_out.getD a1_u.toNat ([])).getD (o3_31.getD a1_u.toNat 0).toNat 0).toNat) dSEdge).room - c_76.1)))).set ((iXor .i64 ((a0_g_out.getD a1_u.toNat ([])).getD (o3_31.getD a1_u.toNat 0).toNat 0) 1).toNat) (SEdge.mk (((c_76.2.1.set (((a0_g_out.getD a1_u.toNat ([])).getD (o3_31.getD a1_u.toNat 0).toNat 0).toNat) (SEdge.mk ((c_76.2.1.getD (((a0_g_out.getD a1_u.toNat ([])).getD (o3_31.getD a1_u.toNat 0).toNat 0).toNat) dSEdge).to) (IntKind.wrap .i64 ((c_76.2.1.getD (((a0_g_out.getD a1_u.toNat ([])).getD (o3_31.getD a1_u.toNat 0).toNat 0).toNat) dSEdge).room - c_76.1)))).getD ((iXor .i64 ((a0_g_out.getD a1_u.toNat ([])).getD (o3_31.getD a1_u.toNat 0).toNat 0) 1).toNat) dSEdge).to) (IntKind.wrap .i64 (((c_76.2.1.set (((a0_g_out.getD a1_u.toNat ([])).getD (o3_31.getD a1_u.toNat 0).toNat 0).toNat) (SEdge.mk ((c_76.2.1.getD (((a0_g_out.getD a1_u.toNat ([])).getD (o3_31.getD a1_u.toNat 0).toNat 0).toNat) dSEdge).to) (IntKind.wrap .i64 ((c_76.2.1.getD (((a0_g_out.getD a1_u.toNat ([])).getD (o3_31.getD a1_u.toNat 0).toNat 0).toNat) dSEdge).room - c_76.1)))).getD ((iXor .i64 ((a0_g_out.getD a1_u.toNat ([])).getD (o3_31.getD a1_u.toNat 0).toNat 0) 1).toNat) dSEdge).room + c_76.1)))).length, .vec a0_g_out.length 1 (gL (cVec 1 (cInt .i64) 0) ([]) a0_g_out), .own 2 a0_g_level.length, .own 3 c_76.2.2.length], .arr 59 2 ((c_76.2.1.set (((a0_g_out.getD a1_u.toNat ([])).getD (o3_31.getD a1_u.toNat 0).toNat 0).toNat) (SEdge.mk ((c_76.2.1.getD (((a0_g_out.getD a1_u.toNat ([])).getD (o3_31.getD a1_u.toNat 0).toNat 0).toNat) dSEdge).to) (IntKind.wrap .i64 ((c_76.2.1.getD (((a0_g_out.getD a1_u.toNat ([])).getD (o3_31.getD a1_u.toNat 0).toNat 0).toNat) dSEdge).room - c_76.1)))).set ((iXor .i64 ((a0_g_out.getD a1_u.toNat ([])).getD (o3_31.getD a1_u.toNat 0).toNat 0) 1).toNat) (SEdge.mk (((c_76.2.1.set (((a0_g_out.getD a1_u.toNat ([])).getD (o3_31.getD a1_u.toNat 0).toNat 0).toNat) (SEdge.mk ((c_76.2.1.getD (((a0_g_out.getD a1_u.toNat ([])).getD (o3_31.getD a1_u.toNat 0).toNat 0).toNat) dSEdge).to) (IntKind.wrap .i64 ((c_76.2.1.getD (((a0_g_out.getD a1_u.toNat ([])).getD (o3_31.getD a1_u.toNat 0).toNat 0).toNat) dSEdge).room - c_76.1)))).getD ((iXor .i64 ((a0_g_out.getD a1_u.toNat ([])).getD (o3_31.getD a1_u.toNat 0).toNat 0) 1).toNat) dSEdge).to) (IntKind.wrap .i64 (((c_76.2.1.set (((a0_g_out.getD a1_u.toNat ([])).getD (o3_31.getD a1_u.toNat 0).toNat 0).toNat) (SEdge.mk ((c_76.2.1.getD (((a0_g_out.getD a1_u.toNat ([])).getD (o3_31.getD a1_u.toNat 0).toNat 0).toNat) dSEdge).to) (IntKind.wrap .i64 ((c_76.2.1.getD (((a0_g_out.getD a1_u.toNat ([])).getD (o3_31.getD a1_u.toNat 0).toNat 0).toNat) dSEdge).room - c_76.1)))).getD ((iXor .i64 ((a0_g_out.getD a1_u.toNat ([])).getD (o3_31.getD a1_u.toNat 0).toNat 0) 1).toNat) dSEdge).room + c_76.1)))).length (gL cSEdge dSEdge ((c_76.2.1.set (((a0_g_out.getD a1_u.toNat ([])).getD (o3_31.getD a1_u.toNat 0).toNat 0).toNat) (SEdge.mk ((c_76.2.1.getD (((a0_g_out.getD a1_u.toNat ([])).getD (o3_31.getD a1_u.toNat 0).toNat 0).toNat) dSEdge).to) (IntKind.wrap .i64 ((c_76.2.1.getD (((a0_g_out.getD a1_u.toNat ([])).getD (o3_31.getD a1_u.toNat 0).toNat 0).toNat) dSEdge).room - c_76.1)))).set ((iXor .i64 ((a0_g_out.getD a1_u.toNat ([])).getD (o3_31.getD a1_u.toNat 0).toNat 0) 1).toNat) (SEdge.mk (((c_76.2.1.set (((a0_g_out.getD a1_u.toNat ([])).getD (o3_31.getD a1_u.toNat 0).toNat 0).toNat) (SEdge.mk ((c_76.2.1.getD (((a0_g_out.getD a1_u.toNat ([])).getD (o3_31.getD a1_u.toNat 0).toNat 0).toNat) dSEdge).to) (IntKind.wrap .i64 ((c_76.2.1.getD (((a0_g_out.getD a1_u.toNat ([])).getD (o3_31.getD a1_u.toNat 0).toNat 0).toNat) dSEdge).room - c_76.1)))).getD ((iXor .i64 ((a0_g_out.getD a1_u.toNat ([])).getD (o3_31.getD a1_u.toNat 0).toNat 0) 1).toNat) dSEdge).to) (IntKind.wrap .i64 (((c_76.2.1.set (((a0_g_out.getD a1_u.toNat ([])).getD (o3_31.getD a1_u.toNat 0).toNat 0).toNat) (SEdge.mk ((c_76.2.1.getD (((a0_g_out.getD a1_u.toNat ([])).getD (o3_31.getD a1_u.toNat 0).toNat 0).toNat) dSEdge).to) (IntKind.wrap .i64 ((c_76.2.1.getD (((a0_g_out.getD a1_u.toNat ([])).getD (o3_31.getD a1_u.toNat 0).toNat 0).toNat) dSEdge).room - c_76.1)))).getD ((iXor .i64 ((a0_g_out.getD a1_u.toNat ([])).getD (o3_31.getD a1_u.toNat 0).toNat 0) 1).toNat) dSEdge).room + c_76.1))))), .arr 3 1 a0_g_level.length (gL (cInt .i64) 0 a0_g_level), .arr 3 1 c_76.2.2.length (gL (cInt .i64) 0 c_76.2.2)]⟩, _, sub_gen [0, 1, 2, 3] rfl rfl ⟨zc rfl rfl, trivial⟩ ⟨⟨_, rfl, ⟨ii rfl rfl, ii rfl rfl, ii rfl rfl, ii rfl rfl, trivial⟩⟩, oa rfl, oa rfl, oa rfl, trivial⟩, resA1 (v := .c (.int .i64 c_76.1)) rfl rfl, ⟨rfl, rfl⟩⟩
            refine SCode.cond_f rfl g78 ?_
            refine SCode.skip ?_
            exact ⟨(c_76.2.1, c_76.2.2), h, sub_gen [0, 1, 2, 3] rfl rfl ⟨zc rfl rfl, zc rfl rfl, zc rfl rfl, zc rfl rfl, trivial⟩ ⟨⟨_, rfl, ⟨ii rfl rfl, ii rfl rfl, ii rfl rfl, ii rfl rfl, trivial⟩⟩, oa rfl, oa rfl, oa rfl, trivial⟩⟩
          rintro ⟨o1_61, o3_62⟩ h
          show SCode _ _ _ ⟨[(0, .c (.ptr 0 0)), (1, .c (.int .i64 a1_u)), (2, .c (.int .i64 a2_sink)), (3, .c (.int .i64 a3_most))], [.box [.own 1 o1_61.length, .vec a0_g_out.length 1 (gL (cVec 1 (cInt .i64) 0) ([]) a0_g_out), .own 2 a0_g_level.length, .own 3 o3_62.length], .arr 59 2 o1_61.length (gL cSEdge dSEdge o1_61), .arr 3 1 a0_g_level.length (gL (cInt .i64) 0 a0_g_level), .arr 3 1 o3_62.length (gL (cInt .i64) 0 o3_62)]⟩ _
          replace h : flow_graph_push_p65 a1_u (fun o1_30 o3_31 => flow_graph_push_l57 a0_g_out a0_g_level a1_u a2_sink a3_most rec_ n_57 o1_30 o3_31) o1_61 o3_62 = some r := h
          unfold flow_graph_push_p65 at h
          obtain ⟨g63, h⟩ := guard_out h
          obtain ⟨g64, h⟩ := guard_out h
          refine SCode.region (show SOps _ _ _ [0, 1, 2, 3, 4, 5, 6, 7, 8, 9] _ _ from ?_)
          refine SOps.q rfl (.plain rfl) rfl (q_move rfl rfl) ?_
          refine SOps.q rfl (.plain rfl) rfl (q_nilCheck rfl rfl rfl) ?_
          refine SOps.q rfl (.plain rfl) rfl (q_field_ptr rfl rfl fd63_3) ?_
          refine SOps.q rfl (.plain rfl) rfl (q_load_ptr rfl rfl rfl rfl ty30) ?_
          refine SOps.q rfl (.plain rfl) rfl (q_move rfl rfl) ?_
          refine SOps.q rfl (.plain rfl) rfl (q_index_own rfl rfl rfl sl30 g63.1 g63.2) ?_
          refine SOps.q rfl (.plain rfl) rfl (q_load_aptr rfl rfl rfl (toNat_lt g63) rfl ty3) ?_
          refine SOps.q rfl (.plain rfl) rfl (q_add rfl rfl rfl) ?_
          refine SOps.q rfl (.plain rfl) rfl (q_index_own rfl rfl rfl sl30 g64.1 g64.2) ?_
          refine SOps.e rfl (.plain rfl) (e_storeL (IntKind.wrap .i64 (o3_62.getD a1_u.toNat 0 + 1)) rfl rfl rfl rfl rfl (toNat_lt g64) ty3 rfl rfl rfl rfl rfl rfl) ?_
          refine SOps.sub (st' := ⟨[(0, .c (.ptr 0 0)), (1, .c (.int .i64 a1_u)), (2, .c (.int .i64 a2_sink)), (3, .c (.int .i64 a3_most))], [.box [.own 1 o1_61.length, .vec a0_g_out.length 1 (gL (cVec 1 (cInt .i64) 0) ([]) a0_g_out), .own 2 a0_g_level.length, .own 3 (o3_62.set a1_u.toNat (IntKind.wrap .i64 (o3_62.getD a1_u.toNat 0 + 1))).length], .arr 59 2 o1_61.length (gL cSEdge dSEdge o1_61), .arr 3 1 a0_g_level.length (gL (cInt .i64) 0 a0_g_level), .arr 3 1 (o3_62.set a1_u.toNat (IntKind.wrap .i64 (o3_62.getD a1_u.toNat 0 + 1))).length (gL (cInt .i64) 0 (o3_62.set a1_u.toNat (IntKind.wrap .i64 (o3_62.getD a1_u.toNat 0 + 1))))]⟩) (sub_gen [0, 1, 2, 3] rfl rfl ⟨zc rfl rfl, zc rfl rfl, zc rfl rfl, zc rfl rfl, trivial⟩ ⟨⟨_, rfl, ⟨ii rfl rfl, ii rfl rfl, ii rfl rfl, .inl ⟨rfl, congrArg (Cell.own 3) (List.length_set : (o3_62.set a1_u.toNat (IntKind.wrap .i64 (o3_62.getD a1_u.toNat 0 + 1))).length = o3_62.length).symm⟩, trivial⟩⟩, oa rfl, oa rfl, oa rfl, trivial⟩) ?_
          refine SOps.nil ?_
          exact ⟨(n_57, (o1_61, o3_62.set a1_u.toNat (IntKind.wrap .i64 (o3_62.getD a1_u.toNat 0 + 1)))), h, Nat.lt_succ_self n_57, sub_gen [0, 1, 2, 3] rfl rfl ⟨zc rfl rfl, zc rfl rfl, zc rfl rfl, zc rfl rfl, trivial⟩ ⟨⟨_, rfl, ⟨ii rfl rfl, ii rfl rfl, ii rfl rfl, ii rfl rfl, trivial⟩⟩, oa rfl, oa rfl, oa rfl, trivial⟩⟩
        refine SCode.cond_f rfl g60 ?_
        refine SCode.exit ?_
        exact ⟨(o1_30, o3_31), h, sub_gen [0, 1, 2, 3] rfl rfl trivial ⟨⟨_, rfl, ⟨ii rfl rfl, ii rfl rfl, ii rfl rfl, ii rfl rfl, trivial⟩⟩, oa rfl, oa rfl, oa rfl, trivial⟩⟩
    rintro ⟨o1_2, o3_3⟩ h
    show SCode _ _ _ ⟨[], [.box [.own 1 o1_2.length, .vec a0_g_out.length 1 (gL (cVec 1 (cInt .i64) 0) ([]) a0_g_out), .own 2 a0_g_level.length, .own 3 o3_3.length], .arr 59 2 o1_2.length (gL cSEdge dSEdge o1_2), .arr 3 1 a0_g_level.length (gL (cInt .i64) 0 a0_g_level), .arr 3 1 o3_3.length (gL (cInt .i64) 0 o3_3)]⟩ _
    replace h : flow_graph_push_p4 o1_2 o3_3 = some r := h
    unfold flow_graph_push_p4 at h
    refine SCode.seq ?_
    refine SCode.region (show SOps _ _ _ [0] _ _ from ?_)
    refine SOps.q rfl (.plain rfl) rfl (q_assign rfl rfl) ?_
    refine SOps.sub (st' := ⟨[(8, .c (.int .i64 0))], [.box [.own 1 o1_2.length, .vec a0_g_out.length 1 (gL (cVec 1 (cInt .i64) 0) ([]) a0_g_out), .own 2 a0_g_level.length, .own 3 o3_3.length], .arr 59 2 o1_2.length (gL cSEdge dSEdge o1_2), .arr 3 1 a0_g_level.length (gL (cInt .i64) 0 a0_g_level), .arr 3 1 o3_3.length (gL (cInt .i64) 0 o3_3)]⟩) (sub_gen [0, 1, 2, 3] rfl rfl ⟨zc rfl rfl, trivial⟩ ⟨⟨_, rfl, ⟨ii rfl rfl, ii rfl rfl, ii rfl rfl, ii rfl rfl, trivial⟩⟩, oa rfl, oa rfl, oa rfl, trivial⟩) ?_
    refine SOps.nil ?_
    refine SCode.ret ?_
    obtain rfl := Option.some.inj h
    exact ⟨⟨[(8, .c (.int .i64 0))], [.box [.own 1 o1_2.length, .vec a0_g_out.length 1 (gL (cVec 1 (cInt .i64) 0) ([]) a0_g_out), .own 2 a0_g_level.length, .own 3 o3_3.length], .arr 59 2 o1_2.length (gL cSEdge dSEdge o1_2), .arr 3 1 a0_g_level.length (gL (cInt .i64) 0 a0_g_level), .arr 3 1 o3_3.length (gL (cInt .i64) 0 o3_3)]⟩, _, sub_gen [0, 1, 2, 3] rfl rfl ⟨zc rfl rfl, trivial⟩ ⟨⟨_, rfl, ⟨ii rfl rfl, ii rfl rfl, ii rfl rfl, ii rfl rfl, trivial⟩⟩, oa rfl, oa rfl, oa rfl, trivial⟩, resA1 (v := .c (.int .i64 0)) rfl rfl, ⟨rfl, rfl⟩⟩
set_option maxRecDepth 100000 in
set_option maxHeartbeats 8000000 in
theorem flow_graph_run_ok (F : Nat) (a0_g_edges : List SEdge) (a0_g_out : List (List Int)) (a0_g_level : List Int) (a0_g_turn : List Int) (a1_source : Int) (a2_sink : Int) (r : Int × (List SEdge) × (List Int) × (List Int)) (h : flow_graph_run F a0_g_edges a0_g_out a0_g_level a0_g_turn a1_source a2_sink = some r) :
    SFun Try.prog 29 [.box [.own 1 a0_g_edges.length, .vec a0_g_out.length 1 (gL (cVec 1 (cInt .i64) 0) ([]) a0_g_out), .own 2 a0_g_level.length, .own 3 a0_g_turn.length], .arr 59 2 a0_g_edges.length (gL cSEdge dSEdge a0_g_edges), .arr 3 1 a0_g_level.length (gL (cInt .i64) 0 a0_g_level), .arr 3 1 a0_g_turn.length (gL (cInt .i64) 0 a0_g_turn)] [.c (.ptr 0 0), .c (.int .i64 a1_source), .c (.int .i64 a2_sink)] (fun x os => x = .c (.int .i64 r.1) ∧ os = [.box [.own 1 r.2.1.length, .vec a0_g_out.length 1 (gL (cVec 1 (cInt .i64) 0) ([]) a0_g_out), .own 2 r.2.2.1.length, .own 3 r.2.2.2.length], .arr 59 2 r.2.1.length (gL cSEdge dSEdge r.2.1), .arr 3 1 r.2.2.1.length (gL (cInt .i64) 0 r.2.2.1), .arr 3 1 r.2.2.2.length (gL (cInt .i64) 0 r.2.2.2)]) := by
  refine SFun.of (n := 27) Try.func29 rfl rfl rfl ?_
  unfold flow_graph_run at h
  show SCode _ _ _ ⟨[(0, .c (.ptr 0 0)), (1, .c (.int .i64 a1_source)), (2, .c (.int .i64 a2_sink))], [.box [.own 1 a0_g_edges.length, .vec a0_g_out.length 1 (gL (cVec 1 (cInt .i64) 0) ([]) a0_g_out), .own 2 a0_g_level.length, .own 3 a0_g_turn.length], .arr 59 2 a0_g_edges.length (gL cSEdge dSEdge a0_g_edges), .arr 3 1 a0_g_level.length (gL (cInt .i64) 0 a0_g_level), .arr 3 1 a0_g_turn.length (gL (cInt .i64) 0 a0_g_turn)]⟩ _
  refine SCode.seq ?_
  refine SCode.region (show SOps _ _ _ [0] _ _ from ?_)
  refine SOps.q rfl (.plain rfl) rfl (q_assign rfl rfl) ?_
  refine SOps.sub (st' := ⟨[(0, .c (.ptr 0 0)), (1, .c (.int .i64 a1_source)), (2, .c (.int .i64 a2_sink))], [.box [.own 1 a0_g_edges.length, .vec a0_g_out.length 1 (gL (cVec 1 (cInt .i64) 0) ([]) a0_g_out), .own 2 a0_g_level.length, .own 3 a0_g_turn.length], .arr 59 2 a0_g_edges.length (gL cSEdge dSEdge a0_g_edges), .arr 3 1 a0_g_level.length (gL (cInt .i64) 0 a0_g_level), .arr 3 1 a0_g_turn.length (gL (cInt .i64) 0 a0_g_turn)]⟩) (sub_gen [0, 1, 2, 3] rfl rfl ⟨zc rfl rfl, zc rfl rfl, zc rfl rfl, trivial⟩ ⟨⟨_, rfl, ⟨ii rfl rfl, ii rfl rfl, ii rfl rfl, ii rfl rfl, trivial⟩⟩, oa rfl, oa rfl, oa rfl, trivial⟩) ?_
  refine SOps.nil ?_
  refine SCode.seq ?_
  refine SCode.region (show SOps _ _ _ [0] _ _ from ?_)
  refine SOps.q rfl (.plain rfl) rfl (q_assign rfl rfl) ?_
  refine SOps.sub (st' := ⟨[(0, .c (.ptr 0 0)), (1, .c (.int .i64 a1_source)), (2, .c (.int .i64 a2_sink)), (7, .c (.int .i64 0))], [.box [.own 1 a0_g_edges.length, .vec a0_g_out.length 1 (gL (cVec 1 (cInt .i64) 0) ([]) a0_g_out), .own 2 a0_g_level.length, .own 3 a0_g_turn.length], .arr 59 2 a0_g_edges.length (gL cSEdge dSEdge a0_g_edges), .arr 3 1 a0_g_level.length (gL (cInt .i64) 0 a0_g_level), .arr 3 1 a0_g_turn.length (gL (cInt .i64) 0 a0_g_turn)]⟩) (sub_gen [0, 1, 2, 3] rfl rfl ⟨zc rfl rfl, zc rfl rfl, zc rfl rfl, zc rfl rfl, trivial⟩ ⟨⟨_, rfl, ⟨ii rfl rfl, ii rfl rfl, ii rfl rfl, ii rfl rfl, trivial⟩⟩, oa rfl, oa rfl, oa rfl, trivial⟩) ?_
  refine SOps.nil ?_
  refine SCode.join (σ := Int × (List SEdge) × (List Int) × (List Int)) (S := fun s => ⟨[(7, .c (.int .i64 s.1))], [.box [.own 1 s.2.1.length, .vec a0_g_out.length 1 (gL (cVec 1 (cInt .i64) 0) ([]) a0_g_out), .own 2 s.2.2.1.length, .own 3 s.2.2.2.length], .arr 59 2 s.2.1.length (gL cSEdge dSEdge s.2.1), .arr 3 1 s.2.2.1.length (gL (cInt .i64) 0 s.2.2.1), .arr 3 1 s.2.2.2.length (gL (cInt .i64) 0 s.2.2.2)]⟩) (g := fun s => flow_graph_run_p5 s.1 s.2.1 s.2.2.1 s.2.2.2 = some r) ?_ ?_
  rotate_left
  · refine SCode.block ?_
    refine SCode.sub (st' := ⟨[(0, .c (.ptr 0 0)), (1, .c (.int .i64 a1_source)), (2, .c (.int .i64 a2_sink)), (7, .c (.int .i64 0))], [.box [.own 1 a0_g_edges.length, .vec a0_g_out.length 1 (gL (cVec 1 (cInt .i64) 0) ([]) a0_g_out), .own 2 a0_g_level.length, .own 3 a0_g_turn.length], .arr 59 2 a0_g_edges.length (gL cSEdge dSEdge a0_g_edges), .arr 3 1 a0_g_level.length (gL (cInt .i64) 0 a0_g_level), .arr 3 1 a0_g_turn.length (gL (cInt .i64) 0 a0_g_turn)]⟩) (sub_gen [0, 1, 2, 3] rfl rfl ⟨zc rfl rfl, zc rfl rfl, zc rfl rfl, zc rfl rfl, trivial⟩ ⟨⟨_, rfl, ⟨ii rfl rfl, ii rfl rfl, ii rfl rfl, ii rfl rfl, trivial⟩⟩, oa rfl, oa rfl, oa rfl, trivial⟩) ?_
    refine (SCode.loop (σ := Nat × (Int × (List SEdge) × (List Int) × (List Int))) (S := fun s => ⟨[(0, .c (.ptr 0 0)), (1, .c (.int .i64 a1_source)), (2, .c (.int .i64 a2_sink)), (7, .c (.int .i64 s.2.1))], [.box [.own 1 s.2.2.1.length, .vec a0_g_out.length 1 (gL (cVec 1 (cInt .i64) 0) ([]) a0_g_out), .own 2 s.2.2.2.1.length, .own 3 s.2.2.2.2.length], .arr 59 2 s.2.2.1.length (gL cSEdge dSEdge s.2.2.1), .arr 3 1 s.2.2.2.1.length (gL (cInt .i64) 0 s.2.2.2.1), .arr 3 1 s.2.2.2.2.length (gL (cInt .i64) 0 s.2.2.2.2)]⟩) (g := fun s => flow_graph_run_l66 F a0_g_out a1_source a2_sink s.1 s.2.1 s.2.2.1 s.2.2.2.1 s.2.2.2.2 = some r) (μ := fun s => s.1) (F, (0, a0_g_edges, a0_g_level, a0_g_turn)) h ?_)
    rintro ⟨n_66, ⟨value_43, o1_44, o2_45, o3_46⟩⟩ h
    replace h : flow_graph_run_l66 F a0_g_out a1_source a2_sink n_66 value_43 o1_44 o2_45 o3_46 = some r := h
    show SCode _ _ _ ⟨[(0, .c (.ptr 0 0)), (1, .c (.int .i64 a1_source)), (2, .c (.int .i64 a2_sink)), (7, .c (.int .i64 value_43))], [.box [.own 1 o1_44.length, .vec a0_g_out.length 1 (gL (cVec 1 (cInt .i64) 0) ([]) a0_g_out), .own 2 o2_45.length, .own 3 o3_46.length], .arr 59 2 o1_44.length (gL cSEdge dSEdge o1_44), .arr 3 1 o2_45.length (gL (cInt .i64) 0 o2_45), .arr 3 1 o3_46.length (gL (cInt .i64) 0 o3_46)]⟩ _
    cases n_66 with
    | zero => cases h
    | succ n_66 =>
      replace h : flow_graph_run_b66 F a0_g_out a1_source a2_sink (fun value_43 o1_44 o2_45 o3_46 => flow_graph_run_l66 F a0_g_out a1_source a2_sink n_66 value_43 o1_44 o2_45 o3_46) value_43 o1_44 o2_45 o3_46 = some r := h
      unfold flow_graph_run_b66 at h
      refine SCode.seq ?_
      refine SCode.seq ?_
      obtain ⟨c_67, g68, h⟩ := bind_out h
      try dsimp only at h
      refine SCode.region (show SOps _ _ _ [0, 1, 2, 3] _ _ from ?_)
      refine SOps.q rfl (.plain rfl) rfl (q_move rfl rfl) ?_
      refine SOps.q rfl (.plain rfl) rfl (q_move rfl rfl) ?_
      refine SOps.q rfl (.plain rfl) rfl (q_move rfl rfl) ?_
      refine SOps.e rfl (.plain rfl) (e_call (flow_graph_search_ok F o1_44 a0_g_out o2_45 o3_46 a1_source a2_sink c_67 g68) [0, 1, 2, 3] rfl fn33 rfl rfl rfl rfl rfl rfl rfl rfl) ?_
      refine SOps.sub (st' := ⟨[(0, .c (.ptr 0 0)), (1, .c (.int .i64 a1_source)), (2, .c (.int .i64 a2_sink)), (7, .c (.int .i64 value_43)), (12, .c (.bool c_67.1))], [.box [.own 1 o1_44.length, .vec a0_g_out.length 1 (gL (cVec 1 (cInt .i64) 0) ([]) a0_g_out), .own 2 c_67.2.1.length, .own 3 c_67.2.2.length], .arr 59 2 o1_44.length (gL cSEdge dSEdge o1_44), .arr 3 1 c_67.2.1.length (gL (cInt .i64) 0 c_67.2.1), .arr 3 1 c_67.2.2.length (gL (cInt .i64) 0 c_67.2.2)]⟩) (sub_gen [0, 1, 2, 3] rfl rfl ⟨zc rfl rfl, zc rfl rfl, zc rfl rfl, zc rfl rfl, zc rfl rfl, trivial⟩ ⟨⟨_, rfl, ⟨ii rfl rfl, ii rfl rfl, ii rfl rfl, ii rfl rfl, trivial⟩⟩, oa rfl, oa rfl, oa rfl, trivial⟩) ?_
      refine SOps.nil ?_
      rcases cond_out h with ⟨g69, h⟩ | ⟨g69, h⟩
      · refine SCode.cond_t rfl g69 ?_
        refine SCode.skip ?_
        refine SCode.block ?_
        refine SCode.seq ?_
        obtain ⟨c_70, g71, h⟩ := bind_out h
        try dsimp only at h
        refine SCode.region (show SOps _ _ _ [0, 1, 2, 3, 4] _ _ from ?_)
        refine SOps.q rfl (.plain rfl) rfl (q_move rfl rfl) ?_
        refine SOps.q rfl (.plain rfl) rfl (q_move rfl rfl) ?_
        refine SOps.q rfl (.plain rfl) rfl (q_move rfl rfl) ?_
        refine SOps.e rfl (.plain rfl) (e_call (flow_graph_push_ok F o1_44 a0_g_out c_67.2.1 c_67.2.2 a1_source a2_sink 4611686018427387904 c_70 g71) [0, 1, 2, 3] rfl fn34 rfl rfl rfl rfl rfl rfl rfl rfl) ?_
        refine SOps.q rfl (.plain rfl) rfl (q_assign rfl rfl) ?_
        refine SOps.sub (st' := ⟨[(0, .c (.ptr 0 0)), (1, .c (.int .i64 a1_source)), (2, .c (.int .i64 a2_sink)), (7, .c (.int .i64 value_43)), (8, .c (.int .i64 c_70.1))], [.box [.own 1 c_70.2.1.length, .vec a0_g_out.length 1 (gL (cVec 1 (cInt .i64) 0) ([]) a0_g_out), .own 2 c_67.2.1.length, .own 3 c_70.2.2.length], .arr 59 2 c_70.2.1.length (gL cSEdge dSEdge c_70.2.1), .arr 3 1 c_67.2.1.length (gL (cInt .i64) 0 c_67.2.1), .arr 3 1 c_70.2.2.length (gL (cInt .i64) 0 c_70.2.2)]⟩) (sub_gen [0, 1, 2, 3] rfl rfl ⟨zc rfl rfl, zc rfl rfl, zc rfl rfl, zc rfl rfl, zc rfl rfl, trivial⟩ ⟨⟨_, rfl, ⟨ii rfl rfl, ii rfl rfl, ii rfl rfl, ii rfl rfl, trivial⟩⟩, oa rfl, oa rfl, oa rfl, trivial⟩) ?_
        refine SOps.nil ?_
        refine SCode.block ?_
        refine SCode.sub (st' := ⟨[(0, .c (.ptr 0 0)), (1, .c (.int .i64 a1_source)), (2, .c (.int .i64 a2_sink)), (7, .c (.int .i64 value_43)), (8, .c (.int .i64 c_70.1))], [.box [.own 1 c_70.2.1.length, .vec a0_g_out.length 1 (gL (cVec 1 (cInt .i64) 0) ([]) a0_g_out), .own 2 c_67.2.1.length, .own 3 c_70.2.2.length], .arr 59 2 c_70.2.1.length (gL cSEdge dSEdge c_70.2.1), .arr 3 1 c_67.2.1.length (gL (cInt .i64) 0 c_67.2.1), .arr 3 1 c_70.2.2.length (gL (cInt .i64) 0 c_70.2.2)]⟩) (sub_gen [0, 1, 2, 3] rfl rfl ⟨zc rfl rfl, zc rfl rfl, zc rfl rfl, zc rfl rfl, zc rfl rfl, trivial⟩ ⟨⟨_, rfl, ⟨ii rfl rfl, ii rfl rfl, ii rfl rfl, ii rfl rfl, trivial⟩⟩, oa rfl, oa rfl, oa rfl, trivial⟩) ?_
        refine (SCode.loop (σ := Nat × (Int × Int × (List SEdge) × (List Int))) (S := fun s => ⟨[(0, .c (.ptr 0 0)), (1, .c (.int .i64 a1_source)), (2, .c (.int .i64 a2_sink)), (7, .c (.int .i64 s.2.1)), (8, .c (.int .i64 s.2.2.1))], [.box [.own 1 s.2.2.2.1.length, .vec a0_g_out.length 1 (gL (cVec 1 (cInt .i64) 0) ([]) a0_g_out), .own 2 c_67.2.1.length, .own 3 s.2.2.2.2.length], .arr 59 2 s.2.2.2.1.length (gL cSEdge dSEdge s.2.2.2.1), .arr 3 1 c_67.2.1.length (gL (cInt .i64) 0 c_67.2.1), .arr 3 1 s.2.2.2.2.length (gL (cInt .i64) 0 s.2.2.2.2)]⟩) (g := fun s => flow_graph_run_l82 F a0_g_out a1_source a2_sink (fun value_43 o1_44 o2_45 o3_46 => flow_graph_run_l66 F a0_g_out a1_source a2_sink n_66 value_43 o1_44 o2_45 o3_46) c_67 s.1 s.2.1 s.2.2.1 s.2.2.2.1 s.2.2.2.2 = some r) (μ := fun s => s.1) (F, (value_43, c_70.1, c_70.2.1, c_70.2.2)) h ?_)
        rintro ⟨n_82, ⟨value_75, n_76, o1_77, o3_78⟩⟩ h
        replace h : flow_graph_run_l82 F a0_g_out a1_source a2_sink (fun value_43 o1_44 o2_45 o3_46 => flow_graph_run_l66 F a0_g_out a1_source a2_sink n_66 value_43 o1_44 o2_45 o3_46) c_67 n_82 value_75 n_76 o1_77 o3_78 = some r := h
        show SCode _ _ _ ⟨[(0, .c (.ptr 0 0)), (1, .c (.int .i64 a1_source)), (2, .c (.int .i64 a2_sink)), (7, .c (.int .i64 value_75)), (8, .c (.int .i64 n_76))], [.box [.own 1 o1_77.length, .vec a0_g_out.length 1 (gL (cVec 1 (cInt .i64) 0) ([]) a0_g_out), .own 2 c_67.2.1.length, .own 3 o3_78.length], .arr 59 2 o1_77.length (gL cSEdge dSEdge o1_77), .arr 3 1 c_67.2.1.length (gL (cInt .i64) 0 c_67.2.1), .arr 3 1 o3_78.length (gL (cInt .i64) 0 o3_78)]⟩ _
        cases n_82 with
        | zero => cases h
        | succ n_82 =>
          replace h : flow_graph_run_b82 F a0_g_out a1_source a2_sink (fun value_43 o1_44 o2_45 o3_46 => flow_graph_run_l66 F a0_g_out a1_source a2_sink n_66 value_43 o1_44 o2_45 o3_46) c_67 (fun value_75 n_76 o1_77 o3_78 => flow_graph_run_l82 F a0_g_out a1_source a2_sink (fun value_43 o1_44 o2_45 o3_46 => flow_graph_run_l66 F a0_g_out a1_source a2_sink n_66 value_43 o1_44 o2_45 o3_46) c_67 n_82 value_75 n_76 o1_77 o3_78) value_75 n_76 o1_77 o3_78 = some r := h
          unfold flow_graph_run_b82 at h
          refine SCode.seq ?_
          refine SCode.seq ?_
          refine SCode.region (show SOps _ _ _ [0, 1] _ _ from ?_)
          refine SOps.q rfl (.plain rfl) rfl (q_move rfl rfl) ?_
          refine SOps.q rfl (.plain rfl) rfl (q_gtr rfl rfl rfl) ?_
          refine SOps.sub (st' := ⟨[(0, .c (.ptr 0 0)), (1, .c (.int .i64 a1_source)), (2, .c (.int .i64 a2_sink)), (7, .c (.int .i64 value_75)), (8, .c (.int .i64 n_76)), (18, .c (.bool (decide (0 < n_76))))], [.box [.own 1 o1_77.length, .vec a0_g_out.length 1 (gL (cVec 1 (cInt .i64) 0) ([]) a0_g_out), .own 2 c_67.2.1.length, .own 3 o3_78.length], .arr 59 2 o1_77.length (gL cSEdge dSEdge o1_77), .arr 3 1 c_67.2.1.length (gL (cInt .i64) 0 c_67.2.1), .arr 3 1 o3_78.length (gL (cInt .i64) 0 o3_78)]⟩) (sub_gen [0, 1, 2, 3] rfl rfl ⟨zc rfl rfl, zc rfl rfl, zc rfl rfl, zc rfl rfl, zc rfl rfl, zc rfl rfl, trivial⟩ ⟨⟨_, rfl, ⟨ii rfl rfl, ii rfl rfl, ii rfl rfl, ii rfl rfl, trivial⟩⟩, oa rfl, oa rfl, oa rfl, trivial⟩) ?_
          refine SOps.nil ?_
          rcases cond_out h with ⟨g83, h⟩ | ⟨g83, h⟩
          · refine SCode.cond_t rfl g83 ?_
            refine SCode.skip ?_
            refine SCode.seq ?_
            refine SCode.block ?_
            refine SCode.region (show SOps _ _ _ [0, 1, 2, 3] _ _ from ?_)
            refine SOps.q rfl (.plain rfl) rfl (q_move rfl rfl) ?_
            refine SOps.q rfl (.plain rfl) rfl (q_move rfl rfl) ?_
            refine SOps.q rfl (.plain rfl) rfl (q_add rfl rfl rfl) ?_
            refine SOps.q rfl (.plain rfl) rfl (q_assign rfl rfl) ?_
            refine SOps.sub (st' := ⟨[(0, .c (.ptr 0 0)), (1, .c (.int .i64 a1_source)), (2, .c (.int .i64 a2_sink)), (7, .c (.int .i64 (IntKind.wrap .i64 (value_75 + n_76))))], [.box [.own 1 o1_77.length, .vec a0_g_out.length 1 (gL (cVec 1 (cInt .i64) 0) ([]) a0_g_out), .own 2 c_67.2.1.length, .own 3 o3_78.length], .arr 59 2 o1_77.length (gL cSEdge dSEdge o1_77), .arr 3 1 c_67.2.1.length (gL (cInt .i64) 0 c_67.2.1), .arr 3 1 o3_78.length (gL (cInt .i64) 0 o3_78)]⟩) (sub_gen [0, 1, 2, 3] rfl rfl ⟨zc rfl rfl, zc rfl rfl, zc rfl rfl, zc rfl rfl, trivial⟩ ⟨⟨_, rfl, ⟨ii rfl rfl, ii rfl rfl, ii rfl rfl, ii rfl rfl, trivial⟩⟩, oa rfl, oa rfl, oa rfl, trivial⟩) ?_
            refine SOps.nil ?_
            obtain ⟨c_84, g85, h⟩ := bind_out h
            try dsimp only at h
            refine SCode.region (show SOps _ _ _ [0, 1, 2, 3, 4] _ _ from ?_)
            refine SOps.q rfl (.plain rfl) rfl (q_move rfl rfl) ?_
            refine SOps.q rfl (.plain rfl) rfl (q_move rfl rfl) ?_
            refine SOps.q rfl (.plain rfl) rfl (q_move rfl rfl) ?_
            refine SOps.e rfl (.plain rfl) (e_call (flow_graph_push_ok F o1_77 a0_g_out c_67.2.1 o3_78 a1_source a2_sink 4611686018427387904 c_84 g85) [0, 1, 2, 3] rfl fn34 rfl rfl rfl rfl rfl rfl rfl rfl) ?_
            refine SOps.q rfl (.plain rfl) rfl (q_assign rfl rfl) ?_
            refine SOps.sub (st' := ⟨[(0, .c (.ptr 0 0)), (1, .c (.int .i64 a1_source)), (2, .c (.int .i64 a2_sink)), (7, .c (.int .i64 (IntKind.wrap .i64 (value_75 + n_76)))), (8, .c (.int .i64 c_84.1))], [.box [.own 1 c_84.2.1.length, .vec a0_g_out.length 1 (gL (cVec 1 (cInt .i64) 0) ([]) a0_g_out), .own 2 c_67.2.1.length, .own 3 c_84.2.2.length], .arr 59 2 c_84.2.1.length (gL cSEdge dSEdge c_84.2.1), .arr 3 1 c_67.2.1.length (gL (cInt .i64) 0 c_67.2.1), .arr 3 1 c_84.2.2.length (gL (cInt .i64) 0 c_84.2.2)]⟩) (sub_gen [0, 1, 2, 3] rfl rfl ⟨zc rfl rfl, zc rfl rfl, zc rfl rfl, zc rfl rfl, zc rfl rfl, trivial⟩ ⟨⟨_, rfl, ⟨ii rfl rfl, ii rfl rfl, ii rfl rfl, ii rfl rfl, trivial⟩⟩, oa rfl, oa rfl, oa rfl, trivial⟩) ?_
            refine SOps.nil ?_
            exact ⟨(n_82, (IntKind.wrap .i64 (value_75 + n_76), c_84.1, c_84.2.1, c_84.2.2)), h, Nat.lt_succ_self n_82, sub_gen [0, 1, 2, 3] rfl rfl ⟨zc rfl rfl, zc rfl rfl, zc rfl rfl, zc rfl rfl, zc rfl rfl, trivial⟩ ⟨⟨_, rfl, ⟨ii rfl rfl, ii rfl rfl, ii rfl rfl, ii rfl rfl, trivial⟩⟩, oa rfl, oa rfl, oa rfl, trivial⟩⟩
          refine SCode.cond_f rfl g83 ?_
          refine SCode.exit ?_
          exact ⟨(n_66, (value_75, o1_77, c_67.2.1, o3_78)), h, Nat.lt_succ_self n_66, sub_gen [0, 1, 2, 3] rfl rfl ⟨zc rfl rfl, zc rfl rfl, zc rfl rfl, zc rfl rfl, trivial⟩ ⟨⟨_, rfl, ⟨ii rfl rfl, ii rfl rfl, ii rfl rfl, ii rfl rfl, trivial⟩⟩, oa rfl, oa rfl, oa rfl, trivial⟩⟩
      refine SCode.cond_f rfl g69 ?_
      refine SCode.exit ?_
      exact ⟨(value_43, o1_44, c_67.2.1, c_67.2.2), h, sub_gen [0, 1, 2, 3] rfl rfl ⟨zc rfl rfl, trivial⟩ ⟨⟨_, rfl, ⟨ii rfl rfl, ii rfl rfl, ii rfl rfl, ii rfl rfl, trivial⟩⟩, oa rfl, oa rfl, oa rfl, trivial⟩⟩
  rintro ⟨value_1, o1_2, o2_3, o3_4⟩ h
  show SCode _ _ _ ⟨[(7, .c (.int .i64 value_1))], [.box [.own 1 o1_2.length, .vec a0_g_out.length 1 (gL (cVec 1 (cInt .i64) 0) ([]) a0_g_out), .own 2 o2_3.length, .own 3 o3_4.length], .arr 59 2 o1_2.length (gL cSEdge dSEdge o1_2), .arr 3 1 o2_3.length (gL (cInt .i64) 0 o2_3), .arr 3 1 o3_4.length (gL (cInt .i64) 0 o3_4)]⟩ _
  replace h : flow_graph_run_p5 value_1 o1_2 o2_3 o3_4 = some r := h
  unfold flow_graph_run_p5 at h
  refine SCode.seq ?_
  refine SCode.region (show SOps _ _ _ [0, 1] _ _ from ?_)
  refine SOps.q rfl (.plain rfl) rfl (q_move rfl rfl) ?_
  refine SOps.q rfl (.plain rfl) rfl (q_assign rfl rfl) ?_
  refine SOps.sub (st' := ⟨[(6, .c (.int .i64 value_1))], [.box [.own 1 o1_2.length, .vec a0_g_out.length 1 (gL (cVec 1 (cInt .i64) 0) ([]) a0_g_out), .own 2 o2_3.length, .own 3 o3_4.length], .arr 59 2 o1_2.length (gL cSEdge dSEdge o1_2), .arr 3 1 o2_3.length (gL (cInt .i64) 0 o2_3), .arr 3 1 o3_4.length (gL (cInt .i64) 0 o3_4)]⟩) (sub_gen [0, 1, 2, 3] rfl rfl ⟨zc rfl rfl, trivial⟩ ⟨⟨_, rfl, ⟨ii rfl rfl, ii rfl rfl, ii rfl rfl, ii rfl rfl, trivial⟩⟩, oa rfl, oa rfl, oa rfl, trivial⟩) ?_
  refine SOps.nil ?_
  refine SCode.ret ?_
  obtain rfl := Option.some.inj h
  exact ⟨⟨[(6, .c (.int .i64 value_1))], [.box [.own 1 o1_2.length, .vec a0_g_out.length 1 (gL (cVec 1 (cInt .i64) 0) ([]) a0_g_out), .own 2 o2_3.length, .own 3 o3_4.length], .arr 59 2 o1_2.length (gL cSEdge dSEdge o1_2), .arr 3 1 o2_3.length (gL (cInt .i64) 0 o2_3), .arr 3 1 o3_4.length (gL (cInt .i64) 0 o3_4)]⟩, _, sub_gen [0, 1, 2, 3] rfl rfl ⟨zc rfl rfl, trivial⟩ ⟨⟨_, rfl, ⟨ii rfl rfl, ii rfl rfl, ii rfl rfl, ii rfl rfl, trivial⟩⟩, oa rfl, oa rfl, oa rfl, trivial⟩, resA1 (v := .c (.int .i64 value_1)) rfl rfl, ⟨rfl, rfl⟩⟩
end Go.Proofs.Ytbepoingholchaa.W
