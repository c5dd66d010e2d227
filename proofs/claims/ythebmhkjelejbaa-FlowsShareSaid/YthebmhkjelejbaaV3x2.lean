/- Written by a program of ours (wip/eng/gen.py): the functions compute their models. -/
import Derived.Test.YthebmhkjelejbaaFacts
import Derived.Test.YthebmhkjelejbaaV3x1
namespace Go.Proofs.Ythebmhkjelejbaa.W
open Go Go.Proofs Go.Proofs.Ythebmhkjelejbaa.E Go.Proofs.Ythebmhkjelejbaa.M
set_option linter.unusedVariables false
set_option maxRecDepth 100000 in
set_option maxHeartbeats 8000000 in
theorem flow_graph_search_ok (F : Nat) (a0_g_edges : List SEdge) (a0_g_out : List (List Int)) (a0_g_level : List Int) (a0_g_turn : List Int) (a1_source : Int) (a2_sink : Int) (r : Bool × (List Int) × (List Int)) (h : flow_graph_search F a0_g_edges a0_g_out a0_g_level a0_g_turn a1_source a2_sink = some r) :
    SFun Try.prog 20 [.box [.own 1 a0_g_edges.length, .vec a0_g_out.length 1 (gL (cVec 1 (cInt .i64) 0) ([]) a0_g_out), .own 2 a0_g_level.length, .own 3 a0_g_turn.length], .arr 41 2 a0_g_edges.length (gL cSEdge dSEdge a0_g_edges), .arr 3 1 a0_g_level.length (gL (cInt .i64) 0 a0_g_level), .arr 3 1 a0_g_turn.length (gL (cInt .i64) 0 a0_g_turn)] [.c (.ptr 0 0), .c (.int .i64 a1_source), .c (.int .i64 a2_sink)] (fun x os => x = .c (.bool r.1) ∧ os = [.box [.own 1 a0_g_edges.length, .vec a0_g_out.length 1 (gL (cVec 1 (cInt .i64) 0) ([]) a0_g_out), .own 2 r.2.1.length, .own 3 r.2.2.length], .arr 41 2 a0_g_edges.length (gL cSEdge dSEdge a0_g_edges), .arr 3 1 r.2.1.length (gL (cInt .i64) 0 r.2.1), .arr 3 1 r.2.2.length (gL (cInt .i64) 0 r.2.2)]) := by
  refine SFun.of (n := 122) Try.func20 rfl rfl rfl ?_
  unfold flow_graph_search at h
  show SCode _ _ _ ⟨[(0, .c (.ptr 0 0)), (1, .c (.int .i64 a1_source)), (2, .c (.int .i64 a2_sink))], [.box [.own 1 a0_g_edges.length, .vec a0_g_out.length 1 (gL (cVec 1 (cInt .i64) 0) ([]) a0_g_out), .own 2 a0_g_level.length, .own 3 a0_g_turn.length], .arr 41 2 a0_g_edges.length (gL cSEdge dSEdge a0_g_edges), .arr 3 1 a0_g_level.length (gL (cInt .i64) 0 a0_g_level), .arr 3 1 a0_g_turn.length (gL (cInt .i64) 0 a0_g_turn)]⟩ _
  refine SCode.seq ?_
  refine SCode.region (show SOps _ _ _ [0] _ _ from ?_)
  refine SOps.q rfl (.plain rfl) rfl (q_assign rfl rfl) ?_
  refine SOps.sub (st' := ⟨[(0, .c (.ptr 0 0)), (1, .c (.int .i64 a1_source)), (2, .c (.int .i64 a2_sink))], [.box [.own 1 a0_g_edges.length, .vec a0_g_out.length 1 (gL (cVec 1 (cInt .i64) 0) ([]) a0_g_out), .own 2 a0_g_level.length, .own 3 a0_g_turn.length], .arr 41 2 a0_g_edges.length (gL cSEdge dSEdge a0_g_edges), .arr 3 1 a0_g_level.length (gL (cInt .i64) 0 a0_g_level), .arr 3 1 a0_g_turn.length (gL (cInt .i64) 0 a0_g_turn)]⟩) (sub_gen [0, 1, 2, 3] rfl rfl ⟨zc rfl rfl, zc rfl rfl, zc rfl rfl, trivial⟩ ⟨⟨_, rfl, ⟨ii rfl rfl, ii rfl rfl, ii rfl rfl, ii rfl rfl, trivial⟩⟩, oa rfl, oa rfl, oa rfl, trivial⟩) ?_
  refine SOps.nil ?_
  refine SCode.scope (fun _ _ h => h) ?_
  refine SCode.join (σ := (List Int) × (List Int)) (S := fun s => ⟨[(0, .c (.ptr 0 0)), (1, .c (.int .i64 a1_source)), (2, .c (.int .i64 a2_sink))], [.box [.own 1 a0_g_edges.length, .vec a0_g_out.length 1 (gL (cVec 1 (cInt .i64) 0) ([]) a0_g_out), .own 2 s.1.length, .own 3 s.2.length], .arr 41 2 a0_g_edges.length (gL cSEdge dSEdge a0_g_edges), .arr 3 1 s.1.length (gL (cInt .i64) 0 s.1), .arr 3 1 s.2.length (gL (cInt .i64) 0 s.2)]⟩) (g := fun s => flow_graph_search_p167 F a0_g_edges a0_g_out a1_source a2_sink s.1 s.2 = some r) ?_ ?_
  rotate_left
  · refine SCode.seq ?_
    refine SCode.region (show SOps _ _ _ [0, 1, 2, 3, 4, 5] _ _ from ?_)
    refine SOps.q rfl (.plain rfl) rfl (q_move rfl rfl) ?_
    refine SOps.q rfl (.plain rfl) rfl (q_nilCheck rfl rfl rfl) ?_
    refine SOps.q rfl (.plain rfl) rfl (q_field_ptr rfl rfl fd45_2) ?_
    refine SOps.q rfl (.plain rfl) rfl (q_load_ptr rfl rfl rfl rfl ty22) ?_
    refine SOps.q rfl (.plain rfl) rfl (q_len_own rfl rfl sl22) ?_
    refine SOps.q rfl (.plain rfl) rfl (q_move rfl rfl) ?_
    refine SOps.sub (st' := ⟨[(0, .c (.ptr 0 0)), (1, .c (.int .i64 a1_source)), (2, .c (.int .i64 a2_sink)), (18, .c (.int .i64 (((a0_g_level).length : Int)))), (19, .c (.int .i64 0))], [.box [.own 1 a0_g_edges.length, .vec a0_g_out.length 1 (gL (cVec 1 (cInt .i64) 0) ([]) a0_g_out), .own 2 a0_g_level.length, .own 3 a0_g_turn.length], .arr 41 2 a0_g_edges.length (gL cSEdge dSEdge a0_g_edges), .arr 3 1 a0_g_level.length (gL (cInt .i64) 0 a0_g_level), .arr 3 1 a0_g_turn.length (gL (cInt .i64) 0 a0_g_turn)]⟩) (sub_gen [0, 1, 2, 3] rfl rfl ⟨zc rfl rfl, zc rfl rfl, zc rfl rfl, zc rfl rfl, zc rfl rfl, trivial⟩ ⟨⟨_, rfl, ⟨ii rfl rfl, ii rfl rfl, ii rfl rfl, ii rfl rfl, trivial⟩⟩, oa rfl, oa rfl, oa rfl, trivial⟩) ?_
    refine SOps.nil ?_
    refine SCode.block ?_
    refine SCode.sub (st' := ⟨[(0, .c (.ptr 0 0)), (1, .c (.int .i64 a1_source)), (2, .c (.int .i64 a2_sink)), (18, .c (.int .i64 (((a0_g_level).length : Int)))), (19, .c (.int .i64 0))], [.box [.own 1 a0_g_edges.length, .vec a0_g_out.length 1 (gL (cVec 1 (cInt .i64) 0) ([]) a0_g_out), .own 2 a0_g_level.length, .own 3 a0_g_turn.length], .arr 41 2 a0_g_edges.length (gL cSEdge dSEdge a0_g_edges), .arr 3 1 a0_g_level.length (gL (cInt .i64) 0 a0_g_level), .arr 3 1 a0_g_turn.length (gL (cInt .i64) 0 a0_g_turn)]⟩) (sub_gen [0, 1, 2, 3] rfl rfl ⟨zc rfl rfl, zc rfl rfl, zc rfl rfl, zc rfl rfl, zc rfl rfl, trivial⟩ ⟨⟨_, rfl, ⟨ii rfl rfl, ii rfl rfl, ii rfl rfl, ii rfl rfl, trivial⟩⟩, oa rfl, oa rfl, oa rfl, trivial⟩) ?_
    refine (SCode.loop (σ := Nat × (Int × (List Int) × (List Int))) (S := fun s => ⟨[(0, .c (.ptr 0 0)), (1, .c (.int .i64 a1_source)), (2, .c (.int .i64 a2_sink)), (18, .c (.int .i64 (((a0_g_level).length : Int)))), (19, .c (.int .i64 s.2.1))], [.box [.own 1 a0_g_edges.length, .vec a0_g_out.length 1 (gL (cVec 1 (cInt .i64) 0) ([]) a0_g_out), .own 2 s.2.2.1.length, .own 3 s.2.2.2.length], .arr 41 2 a0_g_edges.length (gL cSEdge dSEdge a0_g_edges), .arr 3 1 s.2.2.1.length (gL (cInt .i64) 0 s.2.2.1), .arr 3 1 s.2.2.2.length (gL (cInt .i64) 0 s.2.2.2)]⟩) (g := fun s => flow_graph_search_l177 F a0_g_edges a0_g_out a0_g_level a1_source a2_sink s.1 s.2.1 s.2.2.1 s.2.2.2 = some r) (μ := fun s => s.1) (F, (0, a0_g_level, a0_g_turn)) h ?_)
    rintro ⟨n_177, ⟨t19_171, o2_172, o3_173⟩⟩ h
    replace h : flow_graph_search_l177 F a0_g_edges a0_g_out a0_g_level a1_source a2_sink n_177 t19_171 o2_172 o3_173 = some r := h
    show SCode _ _ _ ⟨[(0, .c (.ptr 0 0)), (1, .c (.int .i64 a1_source)), (2, .c (.int .i64 a2_sink)), (18, .c (.int .i64 (((a0_g_level).length : Int)))), (19, .c (.int .i64 t19_171))], [.box [.own 1 a0_g_edges.length, .vec a0_g_out.length 1 (gL (cVec 1 (cInt .i64) 0) ([]) a0_g_out), .own 2 o2_172.length, .own 3 o3_173.length], .arr 41 2 a0_g_edges.length (gL cSEdge dSEdge a0_g_edges), .arr 3 1 o2_172.length (gL (cInt .i64) 0 o2_172), .arr 3 1 o3_173.length (gL (cInt .i64) 0 o3_173)]⟩ _
    cases n_177 with
    | zero => cases h
    | succ n_177 =>
      replace h : flow_graph_search_b177 F a0_g_edges a0_g_out a0_g_level a1_source a2_sink (fun t19_171 o2_172 o3_173 => flow_graph_search_l177 F a0_g_edges a0_g_out a0_g_level a1_source a2_sink n_177 t19_171 o2_172 o3_173) t19_171 o2_172 o3_173 = some r := h
      unfold flow_graph_search_b177 at h
      refine SCode.seq ?_
      refine SCode.region (show SOps _ _ _ [0] _ _ from ?_)
      refine SOps.q rfl (.plain rfl) rfl (q_lss rfl rfl rfl) ?_
      refine SOps.sub (st' := ⟨[(0, .c (.ptr 0 0)), (1, .c (.int .i64 a1_source)), (2, .c (.int .i64 a2_sink)), (18, .c (.int .i64 (((a0_g_level).length : Int)))), (19, .c (.int .i64 t19_171)), (20, .c (.bool (decide (t19_171 < ((a0_g_level).length : Int)))))], [.box [.own 1 a0_g_edges.length, .vec a0_g_out.length 1 (gL (cVec 1 (cInt .i64) 0) ([]) a0_g_out), .own 2 o2_172.length, .own 3 o3_173.length], .arr 41 2 a0_g_edges.length (gL cSEdge dSEdge a0_g_edges), .arr 3 1 o2_172.length (gL (cInt .i64) 0 o2_172), .arr 3 1 o3_173.length (gL (cInt .i64) 0 o3_173)]⟩) (sub_gen [0, 1, 2, 3] rfl rfl ⟨zc rfl rfl, zc rfl rfl, zc rfl rfl, zc rfl rfl, zc rfl rfl, zc rfl rfl, trivial⟩ ⟨⟨_, rfl, ⟨ii rfl rfl, ii rfl rfl, ii rfl rfl, ii rfl rfl, trivial⟩⟩, oa rfl, oa rfl, oa rfl, trivial⟩) ?_
      refine SOps.nil ?_
      refine SCode.seq ?_
      rcases cond_out h with ⟨g178, h⟩ | ⟨g178, h⟩
      · refine SCode.cond_t rfl g178 ?_
        refine SCode.skip ?_
        refine SCode.seq ?_
        refine SCode.block ?_
        refine SCode.seq ?_
        refine SCode.region (show SOps _ _ _ [0, 1] _ _ from ?_)
        refine SOps.q rfl (.plain rfl) rfl (q_move rfl rfl) ?_
        refine SOps.q rfl (.plain rfl) rfl (q_assign rfl rfl) ?_
        refine SOps.sub (st' := ⟨[(0, .c (.ptr 0 0)), (1, .c (.int .i64 a1_source)), (2, .c (.int .i64 a2_sink)), (7, .c (.int .i64 t19_171)), (18, .c (.int .i64 (((a0_g_level).length : Int)))), (19, .c (.int .i64 t19_171))], [.box [.own 1 a0_g_edges.length, .vec a0_g_out.length 1 (gL (cVec 1 (cInt .i64) 0) ([]) a0_g_out), .own 2 o2_172.length, .own 3 o3_173.length], .arr 41 2 a0_g_edges.length (gL cSEdge dSEdge a0_g_edges), .arr 3 1 o2_172.length (gL (cInt .i64) 0 o2_172), .arr 3 1 o3_173.length (gL (cInt .i64) 0 o3_173)]⟩) (sub_gen [0, 1, 2, 3] rfl rfl ⟨zc rfl rfl, zc rfl rfl, zc rfl rfl, zc rfl rfl, zc rfl rfl, zc rfl rfl, trivial⟩ ⟨⟨_, rfl, ⟨ii rfl rfl, ii rfl rfl, ii rfl rfl, ii rfl rfl, trivial⟩⟩, oa rfl, oa rfl, oa rfl, trivial⟩) ?_
        refine SOps.nil ?_
        refine SCode.seq ?_
        obtain ⟨g179, h⟩ := guard_out h
        refine SCode.region (show SOps _ _ _ [0, 1, 2, 3, 4, 5, 6] _ _ from ?_)
        refine SOps.q rfl (.plain rfl) rfl (q_move rfl rfl) ?_
        refine SOps.q rfl (.plain rfl) rfl (q_nilCheck rfl rfl rfl) ?_
        refine SOps.q rfl (.plain rfl) rfl (q_field_ptr rfl rfl fd45_2) ?_
        refine SOps.q rfl (.plain rfl) rfl (q_load_ptr rfl rfl rfl rfl ty22) ?_
        refine SOps.q rfl (.plain rfl) rfl (q_move rfl rfl) ?_
        refine SOps.q rfl (.plain rfl) rfl (q_index_own rfl rfl rfl sl22 g179.1 g179.2) ?_
        refine SOps.e rfl (.plain rfl) (e_storeL ((-1)) rfl rfl rfl rfl rfl (toNat_lt g179) ty3 rfl rfl rfl rfl rfl rfl) ?_
        refine SOps.sub (st' := ⟨[(0, .c (.ptr 0 0)), (1, .c (.int .i64 a1_source)), (2, .c (.int .i64 a2_sink)), (7, .c (.int .i64 t19_171)), (18, .c (.int .i64 (((a0_g_level).length : Int)))), (19, .c (.int .i64 t19_171))], [.box [.own 1 a0_g_edges.length, .vec a0_g_out.length 1 (gL (cVec 1 (cInt .i64) 0) ([]) a0_g_out), .own 2 (o2_172.set t19_171.toNat ((-1))).length, .own 3 o3_173.length], .arr 41 2 a0_g_edges.length (gL cSEdge dSEdge a0_g_edges), .arr 3 1 (o2_172.set t19_171.toNat ((-1))).length (gL (cInt .i64) 0 (o2_172.set t19_171.toNat ((-1)))), .arr 3 1 o3_173.length (gL (cInt .i64) 0 o3_173)]⟩) (sub_gen [0, 1, 2, 3] rfl rfl ⟨zc rfl rfl, zc rfl rfl, zc rfl rfl, zc rfl rfl, zc rfl rfl, zc rfl rfl, trivial⟩ ⟨⟨_, rfl, ⟨ii rfl rfl, ii rfl rfl, .inl ⟨rfl, congrArg (Cell.own 2) (List.length_set : (o2_172.set t19_171.toNat ((-1))).length = o2_172.length).symm⟩, ii rfl rfl, trivial⟩⟩, oa rfl, oa rfl, oa rfl, trivial⟩) ?_
        refine SOps.nil ?_
        obtain ⟨g180, h⟩ := guard_out h
        refine SCode.region (show SOps _ _ _ [0, 1, 2, 3, 4, 5, 6] _ _ from ?_)
        refine SOps.q rfl (.plain rfl) rfl (q_move rfl rfl) ?_
        refine SOps.q rfl (.plain rfl) rfl (q_nilCheck rfl rfl rfl) ?_
        refine SOps.q rfl (.plain rfl) rfl (q_field_ptr rfl rfl fd45_3) ?_
        refine SOps.q rfl (.plain rfl) rfl (q_load_ptr rfl rfl rfl rfl ty22) ?_
        refine SOps.q rfl (.plain rfl) rfl (q_move rfl rfl) ?_
        refine SOps.q rfl (.plain rfl) rfl (q_index_own rfl rfl rfl sl22 g180.1 g180.2) ?_
        refine SOps.e rfl (.plain rfl) (e_storeL 0 rfl rfl rfl rfl rfl (toNat_lt g180) ty3 rfl rfl rfl rfl rfl rfl) ?_
        refine SOps.sub (st' := ⟨[(0, .c (.ptr 0 0)), (1, .c (.int .i64 a1_source)), (2, .c (.int .i64 a2_sink)), (18, .c (.int .i64 (((a0_g_level).length : Int)))), (19, .c (.int .i64 t19_171))], [.box [.own 1 a0_g_edges.length, .vec a0_g_out.length 1 (gL (cVec 1 (cInt .i64) 0) ([]) a0_g_out), .own 2 (o2_172.set t19_171.toNat ((-1))).length, .own 3 (o3_173.set t19_171.toNat 0).length], .arr 41 2 a0_g_edges.length (gL cSEdge dSEdge a0_g_edges), .arr 3 1 (o2_172.set t19_171.toNat ((-1))).length (gL (cInt .i64) 0 (o2_172.set t19_171.toNat ((-1)))), .arr 3 1 (o3_173.set t19_171.toNat 0).length (gL (cInt .i64) 0 (o3_173.set t19_171.toNat 0))]⟩) (sub_gen [0, 1, 2, 3] rfl rfl ⟨zc rfl rfl, zc rfl rfl, zc rfl rfl, zc rfl rfl, zc rfl rfl, trivial⟩ ⟨⟨_, rfl, ⟨ii rfl rfl, ii rfl rfl, ii rfl rfl, .inl ⟨rfl, congrArg (Cell.own 3) (List.length_set : (o3_173.set t19_171.toNat 0).length = o3_173.length).symm⟩, trivial⟩⟩, oa rfl, oa rfl, oa rfl, trivial⟩) ?_
        refine SOps.nil ?_
        refine SCode.region (show SOps _ _ _ [0, 1] _ _ from ?_)
        refine SOps.q rfl (.plain rfl) rfl (q_add rfl rfl rfl) ?_
        refine SOps.q rfl (.plain rfl) rfl (q_move rfl rfl) ?_
        refine SOps.sub (st' := ⟨[(0, .c (.ptr 0 0)), (1, .c (.int .i64 a1_source)), (2, .c (.int .i64 a2_sink)), (18, .c (.int .i64 (((a0_g_level).length : Int)))), (19, .c (.int .i64 (IntKind.wrap .i64 (t19_171 + 1))))], [.box [.own 1 a0_g_edges.length, .vec a0_g_out.length 1 (gL (cVec 1 (cInt .i64) 0) ([]) a0_g_out), .own 2 (o2_172.set t19_171.toNat ((-1))).length, .own 3 (o3_173.set t19_171.toNat 0).length], .arr 41 2 a0_g_edges.length (gL cSEdge dSEdge a0_g_edges), .arr 3 1 (o2_172.set t19_171.toNat ((-1))).length (gL (cInt .i64) 0 (o2_172.set t19_171.toNat ((-1)))), .arr 3 1 (o3_173.set t19_171.toNat 0).length (gL (cInt .i64) 0 (o3_173.set t19_171.toNat 0))]⟩) (sub_gen [0, 1, 2, 3] rfl rfl ⟨zc rfl rfl, zc rfl rfl, zc rfl rfl, zc rfl rfl, zc rfl rfl, trivial⟩ ⟨⟨_, rfl, ⟨ii rfl rfl, ii rfl rfl, ii rfl rfl, ii rfl rfl, trivial⟩⟩, oa rfl, oa rfl, oa rfl, trivial⟩) ?_
        refine SOps.nil ?_
        exact ⟨(n_177, (IntKind.wrap .i64 (t19_171 + 1), o2_172.set t19_171.toNat ((-1)), o3_173.set t19_171.toNat 0)), h, Nat.lt_succ_self n_177, sub_gen [0, 1, 2, 3] rfl rfl ⟨zc rfl rfl, zc rfl rfl, zc rfl rfl, zc rfl rfl, zc rfl rfl, trivial⟩ ⟨⟨_, rfl, ⟨ii rfl rfl, ii rfl rfl, ii rfl rfl, ii rfl rfl, trivial⟩⟩, oa rfl, oa rfl, oa rfl, trivial⟩⟩
      refine SCode.cond_f rfl g178 ?_
      refine SCode.exit ?_
      exact ⟨(o2_172, o3_173), h, sub_gen [0, 1, 2, 3] rfl rfl ⟨zc rfl rfl, zc rfl rfl, zc rfl rfl, trivial⟩ ⟨⟨_, rfl, ⟨ii rfl rfl, ii rfl rfl, ii rfl rfl, ii rfl rfl, trivial⟩⟩, oa rfl, oa rfl, oa rfl, trivial⟩⟩
  rintro ⟨o2_1, o3_2⟩ h
  show SCode _ _ _ ⟨[(0, .c (.ptr 0 0)), (1, .c (.int .i64 a1_source)), (2, .c (.int .i64 a2_sink))], [.box [.own 1 a0_g_edges.length, .vec a0_g_out.length 1 (gL (cVec 1 (cInt .i64) 0) ([]) a0_g_out), .own 2 o2_1.length, .own 3 o3_2.length], .arr 41 2 a0_g_edges.length (gL cSEdge dSEdge a0_g_edges), .arr 3 1 o2_1.length (gL (cInt .i64) 0 o2_1), .arr 3 1 o3_2.length (gL (cInt .i64) 0 o3_2)]⟩ _
  replace h : flow_graph_search_p167 F a0_g_edges a0_g_out a1_source a2_sink o2_1 o3_2 = some r := h
  unfold flow_graph_search_p167 at h
  refine SCode.seq ?_
  obtain ⟨g3, h⟩ := guard_out h
  refine SCode.region (show SOps _ _ _ [0, 1, 2, 3, 4, 5, 6] _ _ from ?_)
  refine SOps.q rfl (.plain rfl) rfl (q_move rfl rfl) ?_
  refine SOps.q rfl (.plain rfl) rfl (q_nilCheck rfl rfl rfl) ?_
  refine SOps.q rfl (.plain rfl) rfl (q_field_ptr rfl rfl fd45_2) ?_
  refine SOps.q rfl (.plain rfl) rfl (q_load_ptr rfl rfl rfl rfl ty22) ?_
  refine SOps.q rfl (.plain rfl) rfl (q_move rfl rfl) ?_
  refine SOps.q rfl (.plain rfl) rfl (q_index_own rfl rfl rfl sl22 g3.1 g3.2) ?_
  refine SOps.e rfl (.plain rfl) (e_storeL 0 rfl rfl rfl rfl rfl (toNat_lt g3) ty3 rfl rfl rfl rfl rfl rfl) ?_
  refine SOps.sub (st' := ⟨[(0, .c (.ptr 0 0)), (1, .c (.int .i64 a1_source)), (2, .c (.int .i64 a2_sink))], [.box [.own 1 a0_g_edges.length, .vec a0_g_out.length 1 (gL (cVec 1 (cInt .i64) 0) ([]) a0_g_out), .own 2 (o2_1.set a1_source.toNat 0).length, .own 3 o3_2.length], .arr 41 2 a0_g_edges.length (gL cSEdge dSEdge a0_g_edges), .arr 3 1 (o2_1.set a1_source.toNat 0).length (gL (cInt .i64) 0 (o2_1.set a1_source.toNat 0)), .arr 3 1 o3_2.length (gL (cInt .i64) 0 o3_2)]⟩) (sub_gen [0, 1, 2, 3] rfl rfl ⟨zc rfl rfl, zc rfl rfl, zc rfl rfl, trivial⟩ ⟨⟨_, rfl, ⟨ii rfl rfl, ii rfl rfl, .inl ⟨rfl, congrArg (Cell.own 2) (List.length_set : (o2_1.set a1_source.toNat 0).length = o2_1.length).symm⟩, ii rfl rfl, trivial⟩⟩, oa rfl, oa rfl, oa rfl, trivial⟩) ?_
  refine SOps.nil ?_
  refine SCode.seq ?_
  refine SCode.region (show SOps _ _ _ [0, 1, 2] _ _ from ?_)
  refine SOps.q rfl (.plain rfl) rfl (q_move rfl rfl) ?_
  refine SOps.e rfl (.plain rfl) (e_bsliceL (c := (cInt .i64)) (d0 := 0) [a1_source] rfl rfl rfl rfl sl22 z3 rfl rfl rfl rfl rfl rfl rfl) ?_
  refine SOps.q rfl (.plain rfl) rfl (q_assign rfl rfl) ?_
  refine SOps.sub (st' := ⟨[(0, .c (.ptr 0 0)), (2, .c (.int .i64 a2_sink)), (8, .c (.own 4 ([a1_source]).length))], [.box [.own 1 a0_g_edges.length, .vec a0_g_out.length 1 (gL (cVec 1 (cInt .i64) 0) ([]) a0_g_out), .own 2 (o2_1.set a1_source.toNat 0).length, .own 3 o3_2.length], .arr 41 2 a0_g_edges.length (gL cSEdge dSEdge a0_g_edges), .arr 3 1 (o2_1.set a1_source.toNat 0).length (gL (cInt .i64) 0 (o2_1.set a1_source.toNat 0)), .arr 3 1 o3_2.length (gL (cInt .i64) 0 o3_2), .arr 3 1 ([a1_source]).length (gL (cInt .i64) 0 ([a1_source]))]⟩) (sub_gen [0, 1, 2, 3, 4] rfl rfl ⟨zc rfl rfl, zc rfl rfl, zc rfl rfl, trivial⟩ ⟨⟨_, rfl, ⟨ii rfl rfl, ii rfl rfl, ii rfl rfl, ii rfl rfl, trivial⟩⟩, oa rfl, oa rfl, oa rfl, oa rfl, trivial⟩) ?_
  refine SOps.nil ?_
  refine SCode.seq ?_
  refine SCode.label ?_
  refine SCode.join (σ := (List Int)) (S := fun s => ⟨[(0, .c (.ptr 0 0)), (2, .c (.int .i64 a2_sink))], [.box [.own 1 a0_g_edges.length, .vec a0_g_out.length 1 (gL (cVec 1 (cInt .i64) 0) ([]) a0_g_out), .own 2 s.length, .own 3 o3_2.length], .arr 41 2 a0_g_edges.length (gL cSEdge dSEdge a0_g_edges), .arr 3 1 s.length (gL (cInt .i64) 0 s), .arr 3 1 o3_2.length (gL (cInt .i64) 0 o3_2)]⟩) (g := fun s => flow_graph_search_p6 a2_sink o3_2 s = some r) ?_ ?_
  rotate_left
  · refine SCode.seq ?_
    refine SCode.region (show SOps _ _ _ [0] _ _ from ?_)
    refine SOps.q rfl (.plain rfl) rfl (q_assign rfl rfl) ?_
    refine SOps.sub (st' := ⟨[(0, .c (.ptr 0 0)), (2, .c (.int .i64 a2_sink)), (8, .c (.own 4 ([a1_source]).length)), (9, .c (.int .i64 0))], [.box [.own 1 a0_g_edges.length, .vec a0_g_out.length 1 (gL (cVec 1 (cInt .i64) 0) ([]) a0_g_out), .own 2 (o2_1.set a1_source.toNat 0).length, .own 3 o3_2.length], .arr 41 2 a0_g_edges.length (gL cSEdge dSEdge a0_g_edges), .arr 3 1 (o2_1.set a1_source.toNat 0).length (gL (cInt .i64) 0 (o2_1.set a1_source.toNat 0)), .arr 3 1 o3_2.length (gL (cInt .i64) 0 o3_2), .arr 3 1 ([a1_source]).length (gL (cInt .i64) 0 ([a1_source]))]⟩) (sub_gen [0, 1, 2, 3, 4] rfl rfl ⟨zc rfl rfl, zc rfl rfl, zc rfl rfl, zc rfl rfl, trivial⟩ ⟨⟨_, rfl, ⟨ii rfl rfl, ii rfl rfl, ii rfl rfl, ii rfl rfl, trivial⟩⟩, oa rfl, oa rfl, oa rfl, oa rfl, trivial⟩) ?_
    refine SOps.nil ?_
    refine SCode.block ?_
    refine SCode.sub (st' := ⟨[(0, .c (.ptr 0 0)), (2, .c (.int .i64 a2_sink)), (8, .c (.own 4 ([a1_source]).length)), (9, .c (.int .i64 0))], [.box [.own 1 a0_g_edges.length, .vec a0_g_out.length 1 (gL (cVec 1 (cInt .i64) 0) ([]) a0_g_out), .own 2 (o2_1.set a1_source.toNat 0).length, .own 3 o3_2.length], .arr 41 2 a0_g_edges.length (gL cSEdge dSEdge a0_g_edges), .arr 3 1 (o2_1.set a1_source.toNat 0).length (gL (cInt .i64) 0 (o2_1.set a1_source.toNat 0)), .arr 3 1 o3_2.length (gL (cInt .i64) 0 o3_2), .arr 3 1 ([a1_source]).length (gL (cInt .i64) 0 ([a1_source]))]⟩) (sub_gen [0, 1, 2, 3, 4] rfl rfl ⟨zc rfl rfl, zc rfl rfl, zc rfl rfl, zc rfl rfl, trivial⟩ ⟨⟨_, rfl, ⟨ii rfl rfl, ii rfl rfl, ii rfl rfl, ii rfl rfl, trivial⟩⟩, oa rfl, oa rfl, oa rfl, oa rfl, trivial⟩) ?_
    refine (SCode.loop (σ := Nat × (Int × (List Int) × (List Int))) (S := fun s => ⟨[(0, .c (.ptr 0 0)), (2, .c (.int .i64 a2_sink)), (8, .c (.own 4 s.2.2.2.length)), (9, .c (.int .i64 s.2.1))], [.box [.own 1 a0_g_edges.length, .vec a0_g_out.length 1 (gL (cVec 1 (cInt .i64) 0) ([]) a0_g_out), .own 2 s.2.2.1.length, .own 3 o3_2.length], .arr 41 2 a0_g_edges.length (gL cSEdge dSEdge a0_g_edges), .arr 3 1 s.2.2.1.length (gL (cInt .i64) 0 s.2.2.1), .arr 3 1 o3_2.length (gL (cInt .i64) 0 o3_2), .arr 3 1 s.2.2.2.length (gL (cInt .i64) 0 s.2.2.2)]⟩) (g := fun s => flow_graph_search_l114 F a0_g_edges a0_g_out a2_sink o3_2 s.1 s.2.1 s.2.2.1 s.2.2.2 = some r) (μ := fun s => s.1) (F, (0, o2_1.set a1_source.toNat 0, [a1_source])) h ?_)
    rintro ⟨n_114, ⟨i_59, o2_60, o4_61⟩⟩ h
    replace h : flow_graph_search_l114 F a0_g_edges a0_g_out a2_sink o3_2 n_114 i_59 o2_60 o4_61 = some r := h
    show SCode _ _ _ ⟨[(0, .c (.ptr 0 0)), (2, .c (.int .i64 a2_sink)), (8, .c (.own 4 o4_61.length)), (9, .c (.int .i64 i_59))], [.box [.own 1 a0_g_edges.length, .vec a0_g_out.length 1 (gL (cVec 1 (cInt .i64) 0) ([]) a0_g_out), .own 2 o2_60.length, .own 3 o3_2.length], .arr 41 2 a0_g_edges.length (gL cSEdge dSEdge a0_g_edges), .arr 3 1 o2_60.length (gL (cInt .i64) 0 o2_60), .arr 3 1 o3_2.length (gL (cInt .i64) 0 o3_2), .arr 3 1 o4_61.length (gL (cInt .i64) 0 o4_61)]⟩ _
    cases n_114 with
    | zero => cases h
    | succ n_114 =>
      replace h : flow_graph_search_b114 F a0_g_edges a0_g_out a2_sink o3_2 (fun i_59 o2_60 o4_61 => flow_graph_search_l114 F a0_g_edges a0_g_out a2_sink o3_2 n_114 i_59 o2_60 o4_61) i_59 o2_60 o4_61 = some r := h
      unfold flow_graph_search_b114 at h
      refine SCode.seq ?_
      refine SCode.seq ?_
      refine SCode.region (show SOps _ _ _ [0, 1, 2, 3] _ _ from ?_)
      refine SOps.q rfl (.plain rfl) rfl (q_move rfl rfl) ?_
      refine SOps.q rfl (.plain rfl) rfl (q_move rfl rfl) ?_
      refine SOps.q rfl (.plain rfl) rfl (q_len_own rfl rfl sl22) ?_
      refine SOps.q rfl (.plain rfl) rfl (q_lss rfl rfl rfl) ?_
      refine SOps.sub (st' := ⟨[(0, .c (.ptr 0 0)), (2, .c (.int .i64 a2_sink)), (8, .c (.own 4 o4_61.length)), (9, .c (.int .i64 i_59)), (46, .c (.bool (decide (i_59 < ((o4_61).length : Int)))))], [.box [.own 1 a0_g_edges.length, .vec a0_g_out.length 1 (gL (cVec 1 (cInt .i64) 0) ([]) a0_g_out), .own 2 o2_60.length, .own 3 o3_2.length], .arr 41 2 a0_g_edges.length (gL cSEdge dSEdge a0_g_edges), .arr 3 1 o2_60.length (gL (cInt .i64) 0 o2_60), .arr 3 1 o3_2.length (gL (cInt .i64) 0 o3_2), .arr 3 1 o4_61.length (gL (cInt .i64) 0 o4_61)]⟩) (sub_gen [0, 1, 2, 3, 4] rfl rfl ⟨zc rfl rfl, zc rfl rfl, zc rfl rfl, zc rfl rfl, zc rfl rfl, trivial⟩ ⟨⟨_, rfl, ⟨ii rfl rfl, ii rfl rfl, ii rfl rfl, ii rfl rfl, trivial⟩⟩, oa rfl, oa rfl, oa rfl, oa rfl, trivial⟩) ?_
      refine SOps.nil ?_
      rcases cond_out h with ⟨g115, h⟩ | ⟨g115, h⟩
      · refine SCode.cond_t rfl g115 ?_
        refine SCode.skip ?_
        refine SCode.join (σ := (List Int) × (List Int)) (S := fun s => ⟨[(0, .c (.ptr 0 0)), (2, .c (.int .i64 a2_sink)), (8, .c (.own 4 s.2.length)), (9, .c (.int .i64 i_59))], [.box [.own 1 a0_g_edges.length, .vec a0_g_out.length 1 (gL (cVec 1 (cInt .i64) 0) ([]) a0_g_out), .own 2 s.1.length, .own 3 o3_2.length], .arr 41 2 a0_g_edges.length (gL cSEdge dSEdge a0_g_edges), .arr 3 1 s.1.length (gL (cInt .i64) 0 s.1), .arr 3 1 o3_2.length (gL (cInt .i64) 0 o3_2), .arr 3 1 s.2.length (gL (cInt .i64) 0 s.2)]⟩) (g := fun s => flow_graph_search_p118 i_59 (fun i_59 o2_60 o4_61 => flow_graph_search_l114 F a0_g_edges a0_g_out a2_sink o3_2 n_114 i_59 o2_60 o4_61) s.1 s.2 = some r) ?_ ?_
        rotate_left
        · refine SCode.block ?_
          refine SCode.seq ?_
          obtain ⟨g119, h⟩ := guard_out h
          refine SCode.region (show SOps _ _ _ [0, 1, 2, 3, 4] _ _ from ?_)
          refine SOps.q rfl (.plain rfl) rfl (q_move rfl rfl) ?_
          refine SOps.q rfl (.plain rfl) rfl (q_move rfl rfl) ?_
          refine SOps.q rfl (.plain rfl) rfl (q_index_own rfl rfl rfl sl22 g119.1 g119.2) ?_
          refine SOps.q rfl (.plain rfl) rfl (q_load_aptr rfl rfl rfl (toNat_lt g119) rfl ty3) ?_
          refine SOps.q rfl (.plain rfl) rfl (q_assign rfl rfl) ?_
          refine SOps.sub (st' := ⟨[(0, .c (.ptr 0 0)), (2, .c (.int .i64 a2_sink)), (8, .c (.own 4 o4_61.length)), (9, .c (.int .i64 i_59)), (10, .c (.int .i64 (o4_61.getD i_59.toNat 0)))], [.box [.own 1 a0_g_edges.length, .vec a0_g_out.length 1 (gL (cVec 1 (cInt .i64) 0) ([]) a0_g_out), .own 2 o2_60.length, .own 3 o3_2.length], .arr 41 2 a0_g_edges.length (gL cSEdge dSEdge a0_g_edges), .arr 3 1 o2_60.length (gL (cInt .i64) 0 o2_60), .arr 3 1 o3_2.length (gL (cInt .i64) 0 o3_2), .arr 3 1 o4_61.length (gL (cInt .i64) 0 o4_61)]⟩) (sub_gen [0, 1, 2, 3, 4] rfl rfl ⟨zc rfl rfl, zc rfl rfl, zc rfl rfl, zc rfl rfl, zc rfl rfl, trivial⟩ ⟨⟨_, rfl, ⟨ii rfl rfl, ii rfl rfl, ii rfl rfl, ii rfl rfl, trivial⟩⟩, oa rfl, oa rfl, oa rfl, oa rfl, trivial⟩) ?_
          refine SOps.nil ?_
          refine SCode.seq ?_
          obtain ⟨g120, h⟩ := guard_out h
          refine SCode.region (show SOps _ _ _ [0, 1, 2, 3, 4, 5, 6, 7, 8] _ _ from ?_)
          refine SOps.q rfl (.plain rfl) rfl (q_move rfl rfl) ?_
          refine SOps.q rfl (.plain rfl) rfl (q_nilCheck rfl rfl rfl) ?_
          refine SOps.q rfl (.plain rfl) rfl (q_field_ptr rfl rfl fd45_1) ?_
          refine SOps.q rfl (.plain rfl) rfl (q_load_ptr rfl rfl rfl rfl ty43) ?_
          refine SOps.q rfl (.plain rfl) rfl (q_move rfl rfl) ?_
          refine SOps.q rfl (.plain rfl) rfl (q_index_vec rfl rfl rfl sl43 rfl g120.1 g120.2) ?_
          refine SOps.q rfl (.plain rfl) rfl (q_load_eptr rfl rfl ty22) ?_
          refine SOps.q rfl (.plain rfl) rfl (q_len_vec rfl rfl sl22) ?_
          refine SOps.q rfl (.plain rfl) rfl (q_move rfl rfl) ?_
          refine SOps.sub (st' := ⟨[(0, .c (.ptr 0 0)), (2, .c (.int .i64 a2_sink)), (8, .c (.own 4 o4_61.length)), (9, .c (.int .i64 i_59)), (10, .c (.int .i64 (o4_61.getD i_59.toNat 0))), (59, .c (.vec (a0_g_out.getD (o4_61.getD i_59.toNat 0).toNat ([])).length 1 (gL (cInt .i64) 0 (a0_g_out.getD (o4_61.getD i_59.toNat 0).toNat ([]))))), (60, .c (.int .i64 (((a0_g_out.getD (o4_61.getD i_59.toNat 0).toNat ([])).length : Int)))), (61, .c (.int .i64 0))], [.box [.own 1 a0_g_edges.length, .vec a0_g_out.length 1 (gL (cVec 1 (cInt .i64) 0) ([]) a0_g_out), .own 2 o2_60.length, .own 3 o3_2.length], .arr 41 2 a0_g_edges.length (gL cSEdge dSEdge a0_g_edges), .arr 3 1 o2_60.length (gL (cInt .i64) 0 o2_60), .arr 3 1 o3_2.length (gL (cInt .i64) 0 o3_2), .arr 3 1 o4_61.length (gL (cInt .i64) 0 o4_61)]⟩) (sub_gen [0, 1, 2, 3, 4] rfl rfl ⟨zc rfl rfl, zc rfl rfl, zc rfl rfl, zc rfl rfl, zc rfl rfl, zc rfl rfl, zc rfl rfl, zc rfl rfl, trivial⟩ ⟨⟨_, rfl, ⟨ii rfl rfl, ii rfl rfl, ii rfl rfl, ii rfl rfl, trivial⟩⟩, oa rfl, oa rfl, oa rfl, oa rfl, trivial⟩) ?_
          refine SOps.nil ?_
          refine SCode.block ?_
          refine SCode.sub (st' := ⟨[(0, .c (.ptr 0 0)), (2, .c (.int .i64 a2_sink)), (8, .c (.own 4 o4_61.length)), (9, .c (.int .i64 i_59)), (10, .c (.int .i64 (o4_61.getD i_59.toNat 0))), (59, .c (.vec (a0_g_out.getD (o4_61.getD i_59.toNat 0).toNat ([])).length 1 (gL (cInt .i64) 0 (a0_g_out.getD (o4_61.getD i_59.toNat 0).toNat ([]))))), (60, .c (.int .i64 (((a0_g_out.getD (o4_61.getD i_59.toNat 0).toNat ([])).length : Int)))), (61, .c (.int .i64 0))], [.box [.own 1 a0_g_edges.length, .vec a0_g_out.length 1 (gL (cVec 1 (cInt .i64) 0) ([]) a0_g_out), .own 2 o2_60.length, .own 3 o3_2.length], .arr 41 2 a0_g_edges.length (gL cSEdge dSEdge a0_g_edges), .arr 3 1 o2_60.length (gL (cInt .i64) 0 o2_60), .arr 3 1 o3_2.length (gL (cInt .i64) 0 o3_2), .arr 3 1 o4_61.length (gL (cInt .i64) 0 o4_61)]⟩) (sub_gen [0, 1, 2, 3, 4] rfl rfl ⟨zc rfl rfl, zc rfl rfl, zc rfl rfl, zc rfl rfl, zc rfl rfl, zc rfl rfl, zc rfl rfl, zc rfl rfl, trivial⟩ ⟨⟨_, rfl, ⟨ii rfl rfl, ii rfl rfl, ii rfl rfl, ii rfl rfl, trivial⟩⟩, oa rfl, oa rfl, oa rfl, oa rfl, trivial⟩) ?_
          refine (SCode.loop (σ := Nat × (Int × (List Int) × (List Int))) (S := fun s => ⟨[(0, .c (.ptr 0 0)), (2, .c (.int .i64 a2_sink)), (8, .c (.own 4 s.2.2.2.length)), (9, .c (.int .i64 i_59)), (10, .c (.int .i64 (o4_61.getD i_59.toNat 0))), (59, .c (.vec (a0_g_out.getD (o4_61.getD i_59.toNat 0).toNat ([])).length 1 (gL (cInt .i64) 0 (a0_g_out.getD (o4_61.getD i_59.toNat 0).toNat ([]))))), (60, .c (.int .i64 (((a0_g_out.getD (o4_61.getD i_59.toNat 0).toNat ([])).length : Int)))), (61, .c (.int .i64 s.2.1))], [.box [.own 1 a0_g_edges.length, .vec a0_g_out.length 1 (gL (cVec 1 (cInt .i64) 0) ([]) a0_g_out), .own 2 s.2.2.1.length, .own 3 o3_2.length], .arr 41 2 a0_g_edges.length (gL cSEdge dSEdge a0_g_edges), .arr 3 1 s.2.2.1.length (gL (cInt .i64) 0 s.2.2.1), .arr 3 1 o3_2.length (gL (cInt .i64) 0 o3_2), .arr 3 1 s.2.2.2.length (gL (cInt .i64) 0 s.2.2.2)]⟩) (g := fun s => flow_graph_search_l152 a0_g_edges a0_g_out a2_sink o3_2 i_59 o4_61 (fun i_59 o2_60 o4_61 => flow_graph_search_l114 F a0_g_edges a0_g_out a2_sink o3_2 n_114 i_59 o2_60 o4_61) s.1 s.2.1 s.2.2.1 s.2.2.2 = some r) (μ := fun s => s.1) (F, (0, o2_60, o4_61)) h ?_)
          rintro ⟨n_152, ⟨t61_135, o2_136, o4_137⟩⟩ h
          replace h : flow_graph_search_l152 a0_g_edges a0_g_out a2_sink o3_2 i_59 o4_61 (fun i_59 o2_60 o4_61 => flow_graph_search_l114 F a0_g_edges a0_g_out a2_sink o3_2 n_114 i_59 o2_60 o4_61) n_152 t61_135 o2_136 o4_137 = some r := h
          show SCode _ _ _ ⟨[(0, .c (.ptr 0 0)), (2, .c (.int .i64 a2_sink)), (8, .c (.own 4 o4_137.length)), (9, .c (.int .i64 i_59)), (10, .c (.int .i64 (o4_61.getD i_59.toNat 0))), (59, .c (.vec (a0_g_out.getD (o4_61.getD i_59.toNat 0).toNat ([])).length 1 (gL (cInt .i64) 0 (a0_g_out.getD (o4_61.getD i_59.toNat 0).toNat ([]))))), (60, .c (.int .i64 (((a0_g_out.getD (o4_61.getD i_59.toNat 0).toNat ([])).length : Int)))), (61, .c (.int .i64 t61_135))], [.box [.own 1 a0_g_edges.length, .vec a0_g_out.length 1 (gL (cVec 1 (cInt .i64) 0) ([]) a0_g_out), .own 2 o2_136.length, .own 3 o3_2.length], .arr 41 2 a0_g_edges.length (gL cSEdge dSEdge a0_g_edges), .arr 3 1 o2_136.length (gL (cInt .i64) 0 o2_136), .arr 3 1 o3_2.length (gL (cInt .i64) 0 o3_2), .arr 3 1 o4_137.length (gL (cInt .i64) 0 o4_137)]⟩ _
          cases n_152 with
          | zero => cases h
          | succ n_152 =>
            replace h : flow_graph_search_b152 a0_g_edges a0_g_out a2_sink o3_2 i_59 o4_61 (fun i_59 o2_60 o4_61 => flow_graph_search_l114 F a0_g_edges a0_g_out a2_sink o3_2 n_114 i_59 o2_60 o4_61) (fun t61_135 o2_136 o4_137 => flow_graph_search_l152 a0_g_edges a0_g_out a2_sink o3_2 i_59 o4_61 (fun i_59 o2_60 o4_61 => flow_graph_search_l114 F a0_g_edges a0_g_out a2_sink o3_2 n_114 i_59 o2_60 o4_61) n_152 t61_135 o2_136 o4_137) t61_135 o2_136 o4_137 = some r := h
            unfold flow_graph_search_b152 at h
            refine SCode.seq ?_
            refine SCode.region (show SOps _ _ _ [0] _ _ from ?_)
            refine SOps.q rfl (.plain rfl) rfl (q_lss rfl rfl rfl) ?_
            refine SOps.sub (st' := ⟨[(0, .c (.ptr 0 0)), (2, .c (.int .i64 a2_sink)), (8, .c (.own 4 o4_137.length)), (9, .c (.int .i64 i_59)), (10, .c (.int .i64 (o4_61.getD i_59.toNat 0))), (59, .c (.vec (a0_g_out.getD (o4_61.getD i_59.toNat 0).toNat ([])).length 1 (gL (cInt .i64) 0 (a0_g_out.getD (o4_61.getD i_59.toNat 0).toNat ([]))))), (60, .c (.int .i64 (((a0_g_out.getD (o4_61.getD i_59.toNat 0).toNat ([])).length : Int)))), (61, .c (.int .i64 t61_135)), (62, .c (.bool (decide (t61_135 < ((a0_g_out.getD (o4_61.getD i_59.toNat 0).toNat ([])).length : Int)))))], [.box [.own 1 a0_g_edges.length, .vec a0_g_out.length 1 (gL (cVec 1 (cInt .i64) 0) ([]) a0_g_out), .own 2 o2_136.length, .own 3 o3_2.length], .arr 41 2 a0_g_edges.length (gL cSEdge dSEdge a0_g_edges), .arr 3 1 o2_136.length (gL (cInt .i64) 0 o2_136), .arr 3 1 o3_2.length (gL (cInt .i64) 0 o3_2), .arr 3 1 o4_137.length (gL (cInt .i64) 0 o4_137)]⟩) (sub_gen [0, 1, 2, 3, 4] rfl rfl ⟨zc rfl rfl, zc rfl rfl, zc rfl rfl, zc rfl rfl, zc rfl rfl, zc rfl rfl, zc rfl rfl, zc rfl rfl, zc rfl rfl, trivial⟩ ⟨⟨_, rfl, ⟨ii rfl rfl, ii rfl rfl, ii rfl rfl, ii rfl rfl, trivial⟩⟩, oa rfl, oa rfl, oa rfl, oa rfl, trivial⟩) ?_
            refine SOps.nil ?_
            refine SCode.seq ?_
            rcases cond_out h with ⟨g153, h⟩ | ⟨g153, h⟩
            · refine SCode.cond_t rfl g153 ?_
              refine SCode.skip ?_
              refine SCode.join (σ := (List Int) × (List Int)) (S := fun s => ⟨[(0, .c (.ptr 0 0)), (2, .c (.int .i64 a2_sink)), (8, .c (.own 4 s.2.length)), (9, .c (.int .i64 i_59)), (10, .c (.int .i64 (o4_61.getD i_59.toNat 0))), (59, .c (.vec (a0_g_out.getD (o4_61.getD i_59.toNat 0).toNat ([])).length 1 (gL (cInt .i64) 0 (a0_g_out.getD (o4_61.getD i_59.toNat 0).toNat ([]))))), (60, .c (.int .i64 (((a0_g_out.getD (o4_61.getD i_59.toNat 0).toNat ([])).length : Int)))), (61, .c (.int .i64 t61_135))], [.box [.own 1 a0_g_edges.length, .vec a0_g_out.length 1 (gL (cVec 1 (cInt .i64) 0) ([]) a0_g_out), .own 2 s.1.length, .own 3 o3_2.length], .arr 41 2 a0_g_edges.length (gL cSEdge dSEdge a0_g_edges), .arr 3 1 s.1.length (gL (cInt .i64) 0 s.1), .arr 3 1 o3_2.length (gL (cInt .i64) 0 o3_2), .arr 3 1 s.2.length (gL (cInt .i64) 0 s.2)]⟩) (g := fun s => flow_graph_search_p156 t61_135 (fun t61_135 o2_136 o4_137 => flow_graph_search_l152 a0_g_edges a0_g_out a2_sink o3_2 i_59 o4_61 (fun i_59 o2_60 o4_61 => flow_graph_search_l114 F a0_g_edges a0_g_out a2_sink o3_2 n_114 i_59 o2_60 o4_61) n_152 t61_135 o2_136 o4_137) s.1 s.2 = some r) ?_ ?_
              rotate_left
              · refine SCode.block ?_
                refine SCode.seq ?_
                obtain ⟨g157, h⟩ := guard_out h
                refine SCode.region (show SOps _ _ _ [0, 1, 2] _ _ from ?_)
                refine SOps.q rfl (.plain rfl) rfl (q_index_vec rfl rfl rfl sl22 rfl g157.1 g157.2) ?_
                refine SOps.q rfl (.plain rfl) rfl (q_load_eptr rfl rfl ty3) ?_
                refine SOps.q rfl (.plain rfl) rfl (q_assign rfl rfl) ?_
                refine SOps.sub (st' := ⟨[(0, .c (.ptr 0 0)), (2, .c (.int .i64 a2_sink)), (8, .c (.own 4 o4_137.length)), (9, .c (.int .i64 i_59)), (10, .c (.int .i64 (o4_61.getD i_59.toNat 0))), (12, .c (.int .i64 ((a0_g_out.getD (o4_61.getD i_59.toNat 0).toNat ([])).getD t61_135.toNat 0))), (59, .c (.vec (a0_g_out.getD (o4_61.getD i_59.toNat 0).toNat ([])).length 1 (gL (cInt .i64) 0 (a0_g_out.getD (o4_61.getD i_59.toNat 0).toNat ([]))))), (60, .c (.int .i64 (((a0_g_out.getD (o4_61.getD i_59.toNat 0).toNat ([])).length : Int)))), (61, .c (.int .i64 t61_135))], [.box [.own 1 a0_g_edges.length, .vec a0_g_out.length 1 (gL (cVec 1 (cInt .i64) 0) ([]) a0_g_out), .own 2 o2_136.length, .own 3 o3_2.length], .arr 41 2 a0_g_edges.length (gL cSEdge dSEdge a0_g_edges), .arr 3 1 o2_136.length (gL (cInt .i64) 0 o2_136), .arr 3 1 o3_2.length (gL (cInt .i64) 0 o3_2), .arr 3 1 o4_137.length (gL (cInt .i64) 0 o4_137)]⟩) (sub_gen [0, 1, 2, 3, 4] rfl rfl ⟨zc rfl rfl, zc rfl rfl, zc rfl rfl, zc rfl rfl, zc rfl rfl, zc rfl rfl, zc rfl rfl, zc rfl rfl, zc rfl rfl, trivial⟩ ⟨⟨_, rfl, ⟨ii rfl rfl, ii rfl rfl, ii rfl rfl, ii rfl rfl, trivial⟩⟩, oa rfl, oa rfl, oa rfl, oa rfl, trivial⟩) ?_
                refine SOps.nil ?_
                refine SCode.seq ?_
                obtain ⟨g158, h⟩ := guard_out h
                refine SCode.region (show SOps _ _ _ [0, 1, 2, 3, 4, 5, 6, 7, 8] _ _ from ?_)
                refine SOps.q rfl (.plain rfl) rfl (q_move rfl rfl) ?_
                refine SOps.q rfl (.plain rfl) rfl (q_nilCheck rfl rfl rfl) ?_
                refine SOps.q rfl (.plain rfl) rfl (q_field_ptr rfl rfl fd45_0) ?_
                refine SOps.q rfl (.plain rfl) rfl (q_load_ptr rfl rfl rfl rfl ty42) ?_
                refine SOps.q rfl (.plain rfl) rfl (q_move rfl rfl) ?_
                refine SOps.q rfl (.plain rfl) rfl (q_index_own rfl rfl rfl sl42 g158.1 g158.2) ?_
                refine SOps.q rfl (.plain rfl) rfl (q_field_aptr rfl rfl fd41_0) ?_
                refine SOps.q rfl (.plain rfl) rfl (q_load_aptr rfl rfl rfl (toNat_lt g158) rfl ty3) ?_
                refine SOps.q rfl (.plain rfl) rfl (q_assign rfl rfl) ?_
                refine SOps.sub (st' := ⟨[(0, .c (.ptr 0 0)), (2, .c (.int .i64 a2_sink)), (8, .c (.own 4 o4_137.length)), (9, .c (.int .i64 i_59)), (10, .c (.int .i64 (o4_61.getD i_59.toNat 0))), (12, .c (.int .i64 ((a0_g_out.getD (o4_61.getD i_59.toNat 0).toNat ([])).getD t61_135.toNat 0))), (13, .c (.int .i64 ((a0_g_edges.getD (((a0_g_out.getD (o4_61.getD i_59.toNat 0).toNat ([])).getD t61_135.toNat 0).toNat) dSEdge).to))), (59, .c (.vec (a0_g_out.getD (o4_61.getD i_59.toNat 0).toNat ([])).length 1 (gL (cInt .i64) 0 (a0_g_out.getD (o4_61.getD i_59.toNat 0).toNat ([]))))), (60, .c (.int .i64 (((a0_g_out.getD (o4_61.getD i_59.toNat 0).toNat ([])).length : Int)))), (61, .c (.int .i64 t61_135))], [.box [.own 1 a0_g_edges.length, .vec a0_g_out.length 1 (gL (cVec 1 (cInt .i64) 0) ([]) a0_g_out), .own 2 o2_136.length, .own 3 o3_2.length], .arr 41 2 a0_g_edges.length (gL cSEdge dSEdge a0_g_edges), .arr 3 1 o2_136.length (gL (cInt .i64) 0 o2_136), .arr 3 1 o3_2.length (gL (cInt .i64) 0 o3_2), .arr 3 1 o4_137.length (gL (cInt .i64) 0 o4_137)]⟩) (sub_gen [0, 1, 2, 3, 4] rfl rfl ⟨zc rfl rfl, zc rfl rfl, zc rfl rfl, zc rfl rfl, zc rfl rfl, zc rfl rfl, zc rfl rfl, zc rfl rfl, zc rfl rfl, zc rfl rfl, trivial⟩ ⟨⟨_, rfl, ⟨ii rfl rfl, ii rfl rfl, ii rfl rfl, ii rfl rfl, trivial⟩⟩, oa rfl, oa rfl, oa rfl, oa rfl, trivial⟩) ?_
                refine SOps.nil ?_
                refine SCode.seq ?_
                refine SCode.seq ?_
                obtain ⟨g159, h⟩ := guard_out h
                rcases cond_out h with ⟨g160, h⟩ | ⟨g160, h⟩
                · refine SCode.region (show SOps _ _ _ [0, 1, 2, 3, 4, 5, 6, 7, 8, 9, 10, 11, 12, 13, 14, 15, 16, 17, 18] _ _ from ?_)
                  refine SOps.q rfl (.plain rfl) rfl (q_move rfl rfl) ?_
                  refine SOps.q rfl (.plain rfl) rfl (q_nilCheck rfl rfl rfl) ?_
                  refine SOps.q rfl (.plain rfl) rfl (q_field_ptr rfl rfl fd45_0) ?_
                  refine SOps.q rfl (.plain rfl) rfl (q_load_ptr rfl rfl rfl rfl ty42) ?_
                  refine SOps.q rfl (.plain rfl) rfl (q_move rfl rfl) ?_
                  refine SOps.q rfl (.plain rfl) rfl (q_index_own rfl rfl rfl sl42 g159.1 g159.2) ?_
                  refine SOps.q rfl (.plain rfl) rfl (q_field_aptr rfl rfl fd41_1) ?_
                  refine SOps.q rfl (.plain rfl) rfl (q_load_aptr rfl rfl rfl (toNat_lt g159) rfl ty3) ?_
                  refine SOps.q rfl (.plain rfl) rfl (q_eql rfl rfl rfl) ?_
                  refine SOps.q rfl (.plain rfl) rfl (q_move rfl rfl) ?_
                  refine SOps.skip rfl 9 82 false rfl rfl (.inl (gT g160)) rfl ?_
                  refine SOps.skip rfl 9 82 false rfl rfl (.inl (gT g160)) rfl ?_
                  refine SOps.skip rfl 9 82 false rfl rfl (.inl (gT g160)) rfl ?_
                  refine SOps.skip rfl 9 82 false rfl rfl (.inl (gT g160)) rfl ?_
                  refine SOps.skip rfl 9 82 false rfl rfl (.inl (gT g160)) rfl ?_
                  refine SOps.skip rfl 9 82 false rfl rfl (.inl (gT g160)) rfl ?_
                  refine SOps.skip rfl 9 82 false rfl rfl (.inl (gT g160)) rfl ?_
                  refine SOps.skip rfl 9 82 false rfl rfl (.inl (gT g160)) rfl ?_
                  refine SOps.q rfl (.plain rfl) rfl (q_pick_t rfl rfl g160 rfl) ?_
                  refine SOps.sub (st' := ⟨[(0, .c (.ptr 0 0)), (2, .c (.int .i64 a2_sink)), (8, .c (.own 4 o4_137.length)), (9, .c (.int .i64 i_59)), (10, .c (.int .i64 (o4_61.getD i_59.toNat 0))), (13, .c (.int .i64 ((a0_g_edges.getD (((a0_g_out.getD (o4_61.getD i_59.toNat 0).toNat ([])).getD t61_135.toNat 0).toNat) dSEdge).to))), (59, .c (.vec (a0_g_out.getD (o4_61.getD i_59.toNat 0).toNat ([])).length 1 (gL (cInt .i64) 0 (a0_g_out.getD (o4_61.getD i_59.toNat 0).toNat ([]))))), (60, .c (.int .i64 (((a0_g_out.getD (o4_61.getD i_59.toNat 0).toNat ([])).length : Int)))), (61, .c (.int .i64 t61_135)), (91, .c (.bool true))], [.box [.own 1 a0_g_edges.length, .vec a0_g_out.length 1 (gL (cVec 1 (cInt .i64) 0) ([]) a0_g_out), .own 2 o2_136.length, .own 3 o3_2.length], .arr 41 2 a0_g_edges.length (gL cSEdge dSEdge a0_g_edges), .arr 3 1 o2_136.length (gL (cInt .i64) 0 o2_136), .arr 3 1 o3_2.length (gL (cInt .i64) 0 o3_2), .arr 3 1 o4_137.length (gL (cInt .i64) 0 o4_137)]⟩) (sub_gen [0, 1, 2, 3, 4] rfl rfl ⟨zc rfl rfl, zc rfl rfl, zc rfl rfl, zc rfl rfl, zc rfl rfl, zc rfl rfl, zc rfl rfl, zc rfl rfl, zc rfl rfl, zc rfl rfl, trivial⟩ ⟨⟨_, rfl, ⟨ii rfl rfl, ii rfl rfl, ii rfl rfl, ii rfl rfl, trivial⟩⟩, oa rfl, oa rfl, oa rfl, oa rfl, trivial⟩) ?_
                  refine SOps.nil ?_
                  refine SCode.cond_t rfl rfl ?_
                  refine SCode.exit ?_
                  exact ⟨(o2_136, o4_137), h, sub_gen [0, 1, 2, 3, 4] rfl rfl ⟨zc rfl rfl, zc rfl rfl, zc rfl rfl, zc rfl rfl, zc rfl rfl, zc rfl rfl, zc rfl rfl, zc rfl rfl, trivial⟩ ⟨⟨_, rfl, ⟨ii rfl rfl, ii rfl rfl, ii rfl rfl, ii rfl rfl, trivial⟩⟩, oa rfl, oa rfl, oa rfl, oa rfl, trivial⟩⟩
                obtain ⟨g161, h⟩ := guard_out h
                refine SCode.region (show SOps _ _ _ [0, 1, 2, 3, 4, 5, 6, 7, 8, 9, 10, 11, 12, 13, 14, 15, 16, 17, 18] _ _ from ?_)
                refine SOps.q rfl (.plain rfl) rfl (q_move rfl rfl) ?_
                refine SOps.q rfl (.plain rfl) rfl (q_nilCheck rfl rfl rfl) ?_
                refine SOps.q rfl (.plain rfl) rfl (q_field_ptr rfl rfl fd45_0) ?_
                refine SOps.q rfl (.plain rfl) rfl (q_load_ptr rfl rfl rfl rfl ty42) ?_
                refine SOps.q rfl (.plain rfl) rfl (q_move rfl rfl) ?_
                refine SOps.q rfl (.plain rfl) rfl (q_index_own rfl rfl rfl sl42 g159.1 g159.2) ?_
                refine SOps.q rfl (.plain rfl) rfl (q_field_aptr rfl rfl fd41_1) ?_
                refine SOps.q rfl (.plain rfl) rfl (q_load_aptr rfl rfl rfl (toNat_lt g159) rfl ty3) ?_
                refine SOps.q rfl (.plain rfl) rfl (q_eql rfl rfl rfl) ?_
                refine SOps.q rfl (.plain rfl) rfl (q_move rfl rfl) ?_
                refine SOps.q rfl (.guard 9 82 false rfl rfl (gF g160)) rfl (q_move rfl rfl) ?_
                refine SOps.q rfl (.guard 9 82 false rfl rfl (gF g160)) rfl (q_nilCheck rfl rfl rfl) ?_
                refine SOps.q rfl (.guard 9 82 false rfl rfl (gF g160)) rfl (q_field_ptr rfl rfl fd45_2) ?_
                refine SOps.q rfl (.guard 9 82 false rfl rfl (gF g160)) rfl (q_load_ptr rfl rfl rfl rfl ty22) ?_
                refine SOps.q rfl (.guard 9 82 false rfl rfl (gF g160)) rfl (q_move rfl rfl) ?_
                refine SOps.q rfl (.guard 9 82 false rfl rfl (gF g160)) rfl (q_index_own rfl rfl rfl sl22 g161.1 g161.2) ?_
                refine SOps.q rfl (.guard 9 82 false rfl rfl (gF g160)) rfl (q_load_aptr rfl rfl rfl (toNat_lt g161) rfl ty3) ?_
                refine SOps.q rfl (.guard 9 82 false rfl rfl (gF g160)) rfl (q_geq rfl rfl rfl) ?_
                refine SOps.q rfl (.plain rfl) rfl (q_pick_f rfl rfl g160 rfl) ?_
                refine SOps.sub (st' := ⟨[(0, .c (.ptr 0 0)), (2, .c (.int .i64 a2_sink)), (8, .c (.own 4 o4_137.length)), (9, .c (.int .i64 i_59)), (10, .c (.int .i64 (o4_61.getD i_59.toNat 0))), (13, .c (.int .i64 ((a0_g_edges.getD (((a0_g_out.getD (o4_61.getD i_59.toNat 0).toNat ([])).getD t61_135.toNat 0).toNat) dSEdge).to))), (59, .c (.vec (a0_g_out.getD (o4_61.getD i_59.toNat 0).toNat ([])).length 1 (gL (cInt .i64) 0 (a0_g_out.getD (o4_61.getD i_59.toNat 0).toNat ([]))))), (60, .c (.int .i64 (((a0_g_out.getD (o4_61.getD i_59.toNat 0).toNat ([])).length : Int)))), (61, .c (.int .i64 t61_135)), (91, .c (.bool (decide (0 ≤ o2_136.getD (((a0_g_edges.getD (((a0_g_out.getD (o4_61.getD i_59.toNat 0).toNat ([])).getD t61_135.toNat 0).toNat) dSEdge).to).toNat) 0))))], [.box [.own 1 a0_g_edges.length, .vec a0_g_out.length 1 (gL (cVec 1 (cInt .i64) 0) ([]) a0_g_out), .own 2 o2_136.length, .own 3 o3_2.length], .arr 41 2 a0_g_edges.length (gL cSEdge dSEdge a0_g_edges), .arr 3 1 o2_136.length (gL (cInt .i64) 0 o2_136), .arr 3 1 o3_2.length (gL (cInt .i64) 0 o3_2), .arr 3 1 o4_137.length (gL (cInt .i64) 0 o4_137)]⟩) (sub_gen [0, 1, 2, 3, 4] rfl rfl ⟨zc rfl rfl, zc rfl rfl, zc rfl rfl, zc rfl rfl, zc rfl rfl, zc rfl rfl, zc rfl rfl, zc rfl rfl, zc rfl rfl, zc rfl rfl, trivial⟩ ⟨⟨_, rfl, ⟨ii rfl rfl, ii rfl rfl, ii rfl rfl, ii rfl rfl, trivial⟩⟩, oa rfl, oa rfl, oa rfl, oa rfl, trivial⟩) ?_
                refine SOps.nil ?_
                rcases cond_out h with ⟨g162, h⟩ | ⟨g162, h⟩
                · refine SCode.cond_t rfl g162 ?_
                  refine SCode.exit ?_
                  exact ⟨(o2_136, o4_137), h, sub_gen [0, 1, 2, 3, 4] rfl rfl ⟨zc rfl rfl, zc rfl rfl, zc rfl rfl, zc rfl rfl, zc rfl rfl, zc rfl rfl, zc rfl rfl, zc rfl rfl, trivial⟩ ⟨⟨_, rfl, ⟨ii rfl rfl, ii rfl rfl, ii rfl rfl, ii rfl rfl, trivial⟩⟩, oa rfl, oa rfl, oa rfl, oa rfl, trivial⟩⟩
                refine SCode.cond_f rfl g162 ?_
                refine SCode.skip ?_
                refine SCode.seq ?_
                obtain ⟨g163, h⟩ := guard_out h
                obtain ⟨g164, h⟩ := guard_out h
                refine SCode.draw (s' := [(105, .c (.aptr 2 1 (((a0_g_edges.getD (((a0_g_out.getD (o4_61.getD i_59.toNat 0).toNat ([])).getD t61_135.toNat 0).toNat) dSEdge).to).toNat) 0)), (104, .c (.int .i64 (IntKind.wrap .i64 (o2_136.getD ((o4_61.getD i_59.toNat 0).toNat) 0 + 1)))), (103, .c (.int .i64 (o2_136.getD ((o4_61.getD i_59.toNat 0).toNat) 0))), (102, .c (.aptr 2 1 ((o4_61.getD i_59.toNat 0).toNat) 0)), (101, .c (.int .i64 (o4_61.getD i_59.toNat 0))), (100, .c (.own 2 o2_136.length)), (99, .c (.ptr 0 2)), (98, .c (.ptr 0 0)), (97, .c (.ptr 0 0)), (96, .c (.int .i64 ((a0_g_edges.getD (((a0_g_out.getD (o4_61.getD i_59.toNat 0).toNat ([])).getD t61_135.toNat 0).toNat) dSEdge).to))), (95, .c (.own 2 o2_136.length)), (94, .c (.ptr 0 2)), (93, .c (.ptr 0 0)), (92, .c (.ptr 0 0)), (0, .c (.ptr 0 0)), (2, .c (.int .i64 a2_sink)), (8, .c (.own 4 o4_137.length)), (9, .c (.int .i64 i_59)), (10, .c (.int .i64 (o4_61.getD i_59.toNat 0))), (13, .c (.int .i64 ((a0_g_edges.getD (((a0_g_out.getD (o4_61.getD i_59.toNat 0).toNat ([])).getD t61_135.toNat 0).toNat) dSEdge).to))), (59, .c (.vec (a0_g_out.getD (o4_61.getD i_59.toNat 0).toNat ([])).length 1 (gL (cInt .i64) 0 (a0_g_out.getD (o4_61.getD i_59.toNat 0).toNat ([]))))), (60, .c (.int .i64 (((a0_g_out.getD (o4_61.getD i_59.toNat 0).toNat ([])).length : Int)))), (61, .c (.int .i64 t61_135)), (91, .c (.bool (decide (0 ≤ o2_136.getD (((a0_g_edges.getD (((a0_g_out.getD (o4_61.getD i_59.toNat 0).toNat ([])).getD t61_135.toNat 0).toNat) dSEdge).to).toNat) 0))))]) mixed [[], [0], [0, 1], [0, 1, 2], [], [], [5], [5, 6], [5, 6, 7], [], [5, 6, 7, 8, 9], [5, 6, 7, 8, 9, 10], [5, 6, 7, 8, 9, 10, 11], [0, 1, 2, 3, 4, 5, 6, 7, 8, 9, 10, 11, 12], [0, 1, 2, 3, 4, 5, 6, 7, 8, 9, 10, 11, 12, 13]] 14 1 rfl rfl ?_ ?_
                · refine QChain.run rfl (.plain rfl) rfl (q_move rfl rfl) ?_
                  refine QChain.run rfl (.plain rfl) rfl (q_nilCheck rfl rfl rfl) ?_
                  refine QChain.run rfl (.plain rfl) rfl (q_field_ptr rfl rfl fd45_2) ?_
                  refine QChain.run rfl (.plain rfl) rfl (q_load_ptr rfl rfl rfl rfl ty22) ?_
                  refine QChain.run rfl (.plain rfl) rfl (q_move rfl rfl) ?_
                  refine QChain.run rfl (.plain rfl) rfl (q_move rfl rfl) ?_
                  refine QChain.run rfl (.plain rfl) rfl (q_nilCheck rfl rfl rfl) ?_
                  refine QChain.run rfl (.plain rfl) rfl (q_field_ptr rfl rfl fd45_2) ?_
                  refine QChain.run rfl (.plain rfl) rfl (q_load_ptr rfl rfl rfl rfl ty22) ?_
                  refine QChain.run rfl (.plain rfl) rfl (q_move rfl rfl) ?_
                  refine QChain.run rfl (.plain rfl) rfl (q_index_own rfl rfl rfl sl22 g163.1 g163.2) ?_
                  refine QChain.run rfl (.plain rfl) rfl (q_load_aptr rfl rfl rfl (toNat_lt g163) rfl ty3) ?_
                  refine QChain.run rfl (.plain rfl) rfl (q_add rfl rfl rfl) ?_
                  refine QChain.run rfl (.plain rfl) rfl (q_index_own rfl rfl rfl sl22 g164.1 g164.2) ?_
                  exact QChain.nil _ _
                refine (show SOps _ _ _ [14] _ _ from ?_)
                refine SOps.e rfl (.plain rfl) (e_storeL (IntKind.wrap .i64 (o2_136.getD ((o4_61.getD i_59.toNat 0).toNat) 0 + 1)) rfl rfl rfl rfl rfl (toNat_lt g164) ty3 rfl rfl rfl rfl rfl rfl) ?_
                refine SOps.sub (st' := ⟨[(0, .c (.ptr 0 0)), (2, .c (.int .i64 a2_sink)), (8, .c (.own 4 o4_137.length)), (9, .c (.int .i64 i_59)), (10, .c (.int .i64 (o4_61.getD i_59.toNat 0))), (13, .c (.int .i64 ((a0_g_edges.getD (((a0_g_out.getD (o4_61.getD i_59.toNat 0).toNat ([])).getD t61_135.toNat 0).toNat) dSEdge).to))), (59, .c (.vec (a0_g_out.getD (o4_61.getD i_59.toNat 0).toNat ([])).length 1 (gL (cInt .i64) 0 (a0_g_out.getD (o4_61.getD i_59.toNat 0).toNat ([]))))), (60, .c (.int .i64 (((a0_g_out.getD (o4_61.getD i_59.toNat 0).toNat ([])).length : Int)))), (61, .c (.int .i64 t61_135))], [.box [.own 1 a0_g_edges.length, .vec a0_g_out.length 1 (gL (cVec 1 (cInt .i64) 0) ([]) a0_g_out), .own 2 (o2_136.set (((a0_g_edges.getD (((a0_g_out.getD (o4_61.getD i_59.toNat 0).toNat ([])).getD t61_135.toNat 0).toNat) dSEdge).to).toNat) (IntKind.wrap .i64 (o2_136.getD ((o4_61.getD i_59.toNat 0).toNat) 0 + 1))).length, .own 3 o3_2.length], .arr 41 2 a0_g_edges.length (gL cSEdge dSEdge a0_g_edges), .arr 3 1 (o2_136.set (((a0_g_edges.getD (((a0_g_out.getD (o4_61.getD i_59.toNat 0).toNat ([])).getD t61_135.toNat 0).toNat) dSEdge).to).toNat) (IntKind.wrap .i64 (o2_136.getD ((o4_61.getD i_59.toNat 0).toNat) 0 + 1))).length (gL (cInt .i64) 0 (o2_136.set (((a0_g_edges.getD (((a0_g_out.getD (o4_61.getD i_59.toNat 0).toNat ([])).getD t61_135.toNat 0).toNat) dSEdge).to).toNat) (IntKind.wrap .i64 (o2_136.getD ((o4_61.getD i_59.toNat 0).toNat) 0 + 1)))), .arr 3 1 o3_2.length (gL (cInt .i64) 0 o3_2), .arr 3 1 o4_137.length (gL (cInt .i64) 0 o4_137)]⟩) (sub_gen [0, 1, 2, 3, 4] rfl rfl ⟨zc rfl rfl, zc rfl rfl, zc rfl rfl, zc rfl rfl, zc rfl rfl, zc rfl rfl, zc rfl rfl, zc rfl rfl, zc rfl rfl, trivial⟩ ⟨⟨_, rfl, ⟨ii rfl rfl, ii rfl rfl, .inl ⟨rfl, congrArg (Cell.own 2) (List.length_set : (o2_136.set (((a0_g_edges.getD (((a0_g_out.getD (o4_61.getD i_59.toNat 0).toNat ([])).getD t61_135.toNat 0).toNat) dSEdge).to).toNat) (IntKind.wrap .i64 (o2_136.getD ((o4_61.getD i_59.toNat 0).toNat) 0 + 1))).length = o2_136.length).symm⟩, ii rfl rfl, trivial⟩⟩, oa rfl, oa rfl, oa rfl, oa rfl, trivial⟩) ?_
                refine SOps.nil ?_
                refine SCode.seq ?_
                refine SCode.seq ?_
                refine SCode.region (show SOps _ _ _ [0, 1, 2] _ _ from ?_)
                refine SOps.q rfl (.plain rfl) rfl (q_move rfl rfl) ?_
                refine SOps.q rfl (.plain rfl) rfl (q_move rfl rfl) ?_
                refine SOps.q rfl (.plain rfl) rfl (q_eql rfl rfl rfl) ?_
                refine SOps.sub (st' := ⟨[(0, .c (.ptr 0 0)), (2, .c (.int .i64 a2_sink)), (8, .c (.own 4 o4_137.length)), (9, .c (.int .i64 i_59)), (10, .c (.int .i64 (o4_61.getD i_59.toNat 0))), (13, .c (.int .i64 ((a0_g_edges.getD (((a0_g_out.getD (o4_61.getD i_59.toNat 0).toNat ([])).getD t61_135.toNat 0).toNat) dSEdge).to))), (59, .c (.vec (a0_g_out.getD (o4_61.getD i_59.toNat 0).toNat ([])).length 1 (gL (cInt .i64) 0 (a0_g_out.getD (o4_61.getD i_59.toNat 0).toNat ([]))))), (60, .c (.int .i64 (((a0_g_out.getD (o4_61.getD i_59.toNat 0).toNat ([])).length : Int)))), (61, .c (.int .i64 t61_135)), (108, .c (.bool (decide ((a0_g_edges.getD (((a0_g_out.getD (o4_61.getD i_59.toNat 0).toNat ([])).getD t61_135.toNat 0).toNat) dSEdge).to = a2_sink))))], [.box [.own 1 a0_g_edges.length, .vec a0_g_out.length 1 (gL (cVec 1 (cInt .i64) 0) ([]) a0_g_out), .own 2 (o2_136.set (((a0_g_edges.getD (((a0_g_out.getD (o4_61.getD i_59.toNat 0).toNat ([])).getD t61_135.toNat 0).toNat) dSEdge).to).toNat) (IntKind.wrap .i64 (o2_136.getD ((o4_61.getD i_59.toNat 0).toNat) 0 + 1))).length, .own 3 o3_2.length], .arr 41 2 a0_g_edges.length (gL cSEdge dSEdge a0_g_edges), .arr 3 1 (o2_136.set (((a0_g_edges.getD (((a0_g_out.getD (o4_61.getD i_59.toNat 0).toNat ([])).getD t61_135.toNat 0).toNat) dSEdge).to).toNat) (IntKind.wrap .i64 (o2_136.getD ((o4_61.getD i_59.toNat 0).toNat) 0 + 1))).length (gL (cInt .i64) 0 (o2_136.set (((a0_g_edges.getD (((a0_g_out.getD (o4_61.getD i_59.toNat 0).toNat ([])).getD t61_135.toNat 0).toNat) dSEdge).to).toNat) (IntKind.wrap .i64 (o2_136.getD ((o4_61.getD i_59.toNat 0).toNat) 0 + 1)))), .arr 3 1 o3_2.length (gL (cInt .i64) 0 o3_2), .arr 3 1 o4_137.length (gL (cInt .i64) 0 o4_137)]⟩) (sub_gen [0, 1, 2, 3, 4] rfl rfl ⟨zc rfl rfl, zc rfl rfl, zc rfl rfl, zc rfl rfl, zc rfl rfl, zc rfl rfl, zc rfl rfl, zc rfl rfl, zc rfl rfl, zc rfl rfl, trivial⟩ ⟨⟨_, rfl, ⟨ii rfl rfl, ii rfl rfl, ii rfl rfl, ii rfl rfl, trivial⟩⟩, oa rfl, oa rfl, oa rfl, oa rfl, trivial⟩) ?_
                refine SOps.nil ?_
                rcases cond_out h with ⟨g165, h⟩ | ⟨g165, h⟩
                · refine SCode.cond_t rfl g165 ?_
                  refine SCode.exit ?_
                  exact ⟨o2_136.set (((a0_g_edges.getD (((a0_g_out.getD (o4_61.getD i_59.toNat 0).toNat ([])).getD t61_135.toNat 0).toNat) dSEdge).to).toNat) (IntKind.wrap .i64 (o2_136.getD ((o4_61.getD i_59.toNat 0).toNat) 0 + 1)), h, sub_gen [0, 1, 2, 3] rfl rfl ⟨zc rfl rfl, zc rfl rfl, trivial⟩ ⟨⟨_, rfl, ⟨ii rfl rfl, ii rfl rfl, ii rfl rfl, ii rfl rfl, trivial⟩⟩, oa rfl, oa rfl, oa rfl, trivial⟩⟩
                refine SCode.cond_f rfl g165 ?_
                refine SCode.skip ?_
                obtain ⟨g166, h⟩ := guard_out h
                refine SCode.region (show SOps _ _ _ [0, 1, 2, 3, 4] _ _ from ?_)
                refine SOps.q rfl (.plain rfl) rfl (q_move rfl rfl) ?_
                refine SOps.q rfl (.plain rfl) rfl (q_move rfl rfl) ?_
                refine SOps.q rfl (.plain rfl) rfl (q_bsliceL (c := (cInt .i64)) (d0 := 0) [(a0_g_edges.getD (((a0_g_out.getD (o4_61.getD i_59.toNat 0).toNat ([])).getD t61_135.toNat 0).toNat) dSEdge).to] rfl rfl sl22 z3 rfl rfl rfl rfl rfl rfl rfl) ?_
                refine SOps.e rfl (.plain rfl) (e_appendL (c := (cInt .i64)) (d0 := 0) (l := o4_137) (l2 := [(a0_g_edges.getD (((a0_g_out.getD (o4_61.getD i_59.toNat 0).toNat ([])).getD t61_135.toNat 0).toNat) dSEdge).to]) rfl rfl rfl rfl rfl rfl (.inl rfl) sl22 z3 rfl rfl oneInt g166.1 g166.2) ?_
                refine SOps.q rfl (.plain rfl) rfl (q_assign rfl rfl) ?_
                refine SOps.sub (st' := ⟨[(0, .c (.ptr 0 0)), (2, .c (.int .i64 a2_sink)), (8, .c (.own 4 (o4_137 ++ ([(a0_g_edges.getD (((a0_g_out.getD (o4_61.getD i_59.toNat 0).toNat ([])).getD t61_135.toNat 0).toNat) dSEdge).to])).length)), (9, .c (.int .i64 i_59)), (10, .c (.int .i64 (o4_61.getD i_59.toNat 0))), (59, .c (.vec (a0_g_out.getD (o4_61.getD i_59.toNat 0).toNat ([])).length 1 (gL (cInt .i64) 0 (a0_g_out.getD (o4_61.getD i_59.toNat 0).toNat ([]))))), (60, .c (.int .i64 (((a0_g_out.getD (o4_61.getD i_59.toNat 0).toNat ([])).length : Int)))), (61, .c (.int .i64 t61_135))], [.box [.own 1 a0_g_edges.length, .vec a0_g_out.length 1 (gL (cVec 1 (cInt .i64) 0) ([]) a0_g_out), .own 2 (o2_136.set (((a0_g_edges.getD (((a0_g_out.getD (o4_61.getD i_59.toNat 0).toNat ([])).getD t61_135.toNat 0).toNat) dSEdge).to).toNat) (IntKind.wrap .i64 (o2_136.getD ((o4_61.getD i_59.toNat 0).toNat) 0 + 1))).length, .own 3 o3_2.length], .arr 41 2 a0_g_edges.length (gL cSEdge dSEdge a0_g_edges), .arr 3 1 (o2_136.set (((a0_g_edges.getD (((a0_g_out.getD (o4_61.getD i_59.toNat 0).toNat ([])).getD t61_135.toNat 0).toNat) dSEdge).to).toNat) (IntKind.wrap .i64 (o2_136.getD ((o4_61.getD i_59.toNat 0).toNat) 0 + 1))).length (gL (cInt .i64) 0 (o2_136.set (((a0_g_edges.getD (((a0_g_out.getD (o4_61.getD i_59.toNat 0).toNat ([])).getD t61_135.toNat 0).toNat) dSEdge).to).toNat) (IntKind.wrap .i64 (o2_136.getD ((o4_61.getD i_59.toNat 0).toNat) 0 + 1)))), .arr 3 1 o3_2.length (gL (cInt .i64) 0 o3_2), .arr 3 1 (o4_137 ++ ([(a0_g_edges.getD (((a0_g_out.getD (o4_61.getD i_59.toNat 0).toNat ([])).getD t61_135.toNat 0).toNat) dSEdge).to])).length (gL (cInt .i64) 0 (o4_137 ++ ([(a0_g_edges.getD (((a0_g_out.getD (o4_61.getD i_59.toNat 0).toNat ([])).getD t61_135.toNat 0).toNat) dSEdge).to])))]⟩) (sub_gen [0, 1, 2, 3, 5] rfl rfl ⟨zc rfl rfl, zc rfl rfl, zc rfl rfl, zc rfl rfl, zc rfl rfl, zc rfl rfl, zc rfl rfl, zc rfl rfl, trivial⟩ ⟨⟨_, rfl, ⟨ii rfl rfl, ii rfl rfl, ii rfl rfl, ii rfl rfl, trivial⟩⟩, oa rfl, oa rfl, oa rfl, oa rfl, trivial⟩) ?_
                refine SOps.nil ?_
                exact ⟨(o2_136.set (((a0_g_edges.getD (((a0_g_out.getD (o4_61.getD i_59.toNat 0).toNat ([])).getD t61_135.toNat 0).toNat) dSEdge).to).toNat) (IntKind.wrap .i64 (o2_136.getD ((o4_61.getD i_59.toNat 0).toNat) 0 + 1)), o4_137 ++ ([(a0_g_edges.getD (((a0_g_out.getD (o4_61.getD i_59.toNat 0).toNat ([])).getD t61_135.toNat 0).toNat) dSEdge).to])), h, sub_gen [0, 1, 2, 3, 4] rfl rfl ⟨zc rfl rfl, zc rfl rfl, zc rfl rfl, zc rfl rfl, zc rfl rfl, zc rfl rfl, zc rfl rfl, zc rfl rfl, trivial⟩ ⟨⟨_, rfl, ⟨ii rfl rfl, ii rfl rfl, ii rfl rfl, ii rfl rfl, trivial⟩⟩, oa rfl, oa rfl, oa rfl, oa rfl, trivial⟩⟩
              rintro ⟨o2_154, o4_155⟩ h
              show SCode _ _ _ ⟨[(0, .c (.ptr 0 0)), (2, .c (.int .i64 a2_sink)), (8, .c (.own 4 o4_155.length)), (9, .c (.int .i64 i_59)), (10, .c (.int .i64 (o4_61.getD i_59.toNat 0))), (59, .c (.vec (a0_g_out.getD (o4_61.getD i_59.toNat 0).toNat ([])).length 1 (gL (cInt .i64) 0 (a0_g_out.getD (o4_61.getD i_59.toNat 0).toNat ([]))))), (60, .c (.int .i64 (((a0_g_out.getD (o4_61.getD i_59.toNat 0).toNat ([])).length : Int)))), (61, .c (.int .i64 t61_135))], [.box [.own 1 a0_g_edges.length, .vec a0_g_out.length 1 (gL (cVec 1 (cInt .i64) 0) ([]) a0_g_out), .own 2 o2_154.length, .own 3 o3_2.length], .arr 41 2 a0_g_edges.length (gL cSEdge dSEdge a0_g_edges), .arr 3 1 o2_154.length (gL (cInt .i64) 0 o2_154), .arr 3 1 o3_2.length (gL (cInt .i64) 0 o3_2), .arr 3 1 o4_155.length (gL (cInt .i64) 0 o4_155)]⟩ _
              replace h : flow_graph_search_p156 t61_135 (fun t61_135 o2_136 o4_137 => flow_graph_search_l152 a0_g_edges a0_g_out a2_sink o3_2 i_59 o4_61 (fun i_59 o2_60 o4_61 => flow_graph_search_l114 F a0_g_edges a0_g_out a2_sink o3_2 n_114 i_59 o2_60 o4_61) n_152 t61_135 o2_136 o4_137) o2_154 o4_155 = some r := h
              unfold flow_graph_search_p156 at h
              refine SCode.region (show SOps _ _ _ [0, 1] _ _ from ?_)
              refine SOps.q rfl (.plain rfl) rfl (q_add rfl rfl rfl) ?_
              refine SOps.q rfl (.plain rfl) rfl (q_move rfl rfl) ?_
              refine SOps.sub (st' := ⟨[(0, .c (.ptr 0 0)), (2, .c (.int .i64 a2_sink)), (8, .c (.own 4 o4_155.length)), (9, .c (.int .i64 i_59)), (10, .c (.int .i64 (o4_61.getD i_59.toNat 0))), (59, .c (.vec (a0_g_out.getD (o4_61.getD i_59.toNat 0).toNat ([])).length 1 (gL (cInt .i64) 0 (a0_g_out.getD (o4_61.getD i_59.toNat 0).toNat ([]))))), (60, .c (.int .i64 (((a0_g_out.getD (o4_61.getD i_59.toNat 0).toNat ([])).length : Int)))), (61, .c (.int .i64 (IntKind.wrap .i64 (t61_135 + 1))))], [.box [.own 1 a0_g_edges.length, .vec a0_g_out.length 1 (gL (cVec 1 (cInt .i64) 0) ([]) a0_g_out), .own 2 o2_154.length, .own 3 o3_2.length], .arr 41 2 a0_g_edges.length (gL cSEdge dSEdge a0_g_edges), .arr 3 1 o2_154.length (gL (cInt .i64) 0 o2_154), .arr 3 1 o3_2.length (gL (cInt .i64) 0 o3_2), .arr 3 1 o4_155.length (gL (cInt .i64) 0 o4_155)]⟩) (sub_gen [0, 1, 2, 3, 4] rfl rfl ⟨zc rfl rfl, zc rfl rfl, zc rfl rfl, zc rfl rfl, zc rfl rfl, zc rfl rfl, zc rfl rfl, zc rfl rfl, trivial⟩ ⟨⟨_, rfl, ⟨ii rfl rfl, ii rfl rfl, ii rfl rfl, ii rfl rfl, trivial⟩⟩, oa rfl, oa rfl, oa rfl, oa rfl, trivial⟩) ?_
              refine SOps.nil ?_
              exact ⟨(n_152, (IntKind.wrap .i64 (t61_135 + 1), o2_154, o4_155)), h, Nat.lt_succ_self n_152, sub_gen [0, 1, 2, 3, 4] rfl rfl ⟨zc rfl rfl, zc rfl rfl, zc rfl rfl, zc rfl rfl, zc rfl rfl, zc rfl rfl, zc rfl rfl, zc rfl rfl, trivial⟩ ⟨⟨_, rfl, ⟨ii rfl rfl, ii rfl rfl, ii rfl rfl, ii rfl rfl, trivial⟩⟩, oa rfl, oa rfl, oa rfl, oa rfl, trivial⟩⟩
            refine SCode.cond_f rfl g153 ?_
            refine SCode.exit ?_
            exact ⟨(o2_136, o4_137), h, sub_gen [0, 1, 2, 3, 4] rfl rfl ⟨zc rfl rfl, zc rfl rfl, zc rfl rfl, zc rfl rfl, trivial⟩ ⟨⟨_, rfl, ⟨ii rfl rfl, ii rfl rfl, ii rfl rfl, ii rfl rfl, trivial⟩⟩, oa rfl, oa rfl, oa rfl, oa rfl, trivial⟩⟩
        rintro ⟨o2_116, o4_117⟩ h
        show SCode _ _ _ ⟨[(0, .c (.ptr 0 0)), (2, .c (.int .i64 a2_sink)), (8, .c (.own 4 o4_117.length)), (9, .c (.int .i64 i_59))], [.box [.own 1 a0_g_edges.length, .vec a0_g_out.length 1 (gL (cVec 1 (cInt .i64) 0) ([]) a0_g_out), .own 2 o2_116.length, .own 3 o3_2.length], .arr 41 2 a0_g_edges.length (gL cSEdge dSEdge a0_g_edges), .arr 3 1 o2_116.length (gL (cInt .i64) 0 o2_116), .arr 3 1 o3_2.length (gL (cInt .i64) 0 o3_2), .arr 3 1 o4_117.length (gL (cInt .i64) 0 o4_117)]⟩ _
        replace h : flow_graph_search_p118 i_59 (fun i_59 o2_60 o4_61 => flow_graph_search_l114 F a0_g_edges a0_g_out a2_sink o3_2 n_114 i_59 o2_60 o4_61) o2_116 o4_117 = some r := h
        unfold flow_graph_search_p118 at h
        refine SCode.region (show SOps _ _ _ [0, 1, 2] _ _ from ?_)
        refine SOps.q rfl (.plain rfl) rfl (q_move rfl rfl) ?_
        refine SOps.q rfl (.plain rfl) rfl (q_add rfl rfl rfl) ?_
        refine SOps.q rfl (.plain rfl) rfl (q_assign rfl rfl) ?_
        refine SOps.sub (st' := ⟨[(0, .c (.ptr 0 0)), (2, .c (.int .i64 a2_sink)), (8, .c (.own 4 o4_117.length)), (9, .c (.int .i64 (IntKind.wrap .i64 (i_59 + 1))))], [.box [.own 1 a0_g_edges.length, .vec a0_g_out.length 1 (gL (cVec 1 (cInt .i64) 0) ([]) a0_g_out), .own 2 o2_116.length, .own 3 o3_2.length], .arr 41 2 a0_g_edges.length (gL cSEdge dSEdge a0_g_edges), .arr 3 1 o2_116.length (gL (cInt .i64) 0 o2_116), .arr 3 1 o3_2.length (gL (cInt .i64) 0 o3_2), .arr 3 1 o4_117.length (gL (cInt .i64) 0 o4_117)]⟩) (sub_gen [0, 1, 2, 3, 4] rfl rfl ⟨zc rfl rfl, zc rfl rfl, zc rfl rfl, zc rfl rfl, trivial⟩ ⟨⟨_, rfl, ⟨ii rfl rfl, ii rfl rfl, ii rfl rfl, ii rfl rfl, trivial⟩⟩, oa rfl, oa rfl, oa rfl, oa rfl, trivial⟩) ?_
        refine SOps.nil ?_
        exact ⟨(n_114, (IntKind.wrap .i64 (i_59 + 1), o2_116, o4_117)), h, Nat.lt_succ_self n_114, sub_gen [0, 1, 2, 3, 4] rfl rfl ⟨zc rfl rfl, zc rfl rfl, zc rfl rfl, zc rfl rfl, trivial⟩ ⟨⟨_, rfl, ⟨ii rfl rfl, ii rfl rfl, ii rfl rfl, ii rfl rfl, trivial⟩⟩, oa rfl, oa rfl, oa rfl, oa rfl, trivial⟩⟩
      refine SCode.cond_f rfl g115 ?_
      refine SCode.exit ?_
      exact ⟨o2_60, h, sub_gen [0, 1, 2, 3] rfl rfl ⟨zc rfl rfl, zc rfl rfl, trivial⟩ ⟨⟨_, rfl, ⟨ii rfl rfl, ii rfl rfl, ii rfl rfl, ii rfl rfl, trivial⟩⟩, oa rfl, oa rfl, oa rfl, trivial⟩⟩
  rintro o2_4 h
  show SCode _ _ _ ⟨[(0, .c (.ptr 0 0)), (2, .c (.int .i64 a2_sink))], [.box [.own 1 a0_g_edges.length, .vec a0_g_out.length 1 (gL (cVec 1 (cInt .i64) 0) ([]) a0_g_out), .own 2 o2_4.length, .own 3 o3_2.length], .arr 41 2 a0_g_edges.length (gL cSEdge dSEdge a0_g_edges), .arr 3 1 o2_4.length (gL (cInt .i64) 0 o2_4), .arr 3 1 o3_2.length (gL (cInt .i64) 0 o3_2)]⟩ _
  replace h : flow_graph_search_p6 a2_sink o3_2 o2_4 = some r := h
  unfold flow_graph_search_p6 at h
  refine SCode.seq ?_
  obtain ⟨g5, h⟩ := guard_out h
  refine SCode.region (show SOps _ _ _ [0, 1, 2, 3, 4, 5, 6, 7, 8] _ _ from ?_)
  refine SOps.q rfl (.plain rfl) rfl (q_move rfl rfl) ?_
  refine SOps.q rfl (.plain rfl) rfl (q_nilCheck rfl rfl rfl) ?_
  refine SOps.q rfl (.plain rfl) rfl (q_field_ptr rfl rfl fd45_2) ?_
  refine SOps.q rfl (.plain rfl) rfl (q_load_ptr rfl rfl rfl rfl ty22) ?_
  refine SOps.q rfl (.plain rfl) rfl (q_move rfl rfl) ?_
  refine SOps.q rfl (.plain rfl) rfl (q_index_own rfl rfl rfl sl22 g5.1 g5.2) ?_
  refine SOps.q rfl (.plain rfl) rfl (q_load_aptr rfl rfl rfl (toNat_lt g5) rfl ty3) ?_
  refine SOps.q rfl (.plain rfl) rfl (q_geq rfl rfl rfl) ?_
  refine SOps.q rfl (.plain rfl) rfl (q_assign rfl rfl) ?_
  refine SOps.sub (st' := ⟨[(6, .c (.bool (decide (0 ≤ o2_4.getD a2_sink.toNat 0))))], [.box [.own 1 a0_g_edges.length, .vec a0_g_out.length 1 (gL (cVec 1 (cInt .i64) 0) ([]) a0_g_out), .own 2 o2_4.length, .own 3 o3_2.length], .arr 41 2 a0_g_edges.length (gL cSEdge dSEdge a0_g_edges), .arr 3 1 o2_4.length (gL (cInt .i64) 0 o2_4), .arr 3 1 o3_2.length (gL (cInt .i64) 0 o3_2)]⟩) (sub_gen [0, 1, 2, 3] rfl rfl ⟨zc rfl rfl, trivial⟩ ⟨⟨_, rfl, ⟨ii rfl rfl, ii rfl rfl, ii rfl rfl, ii rfl rfl, trivial⟩⟩, oa rfl, oa rfl, oa rfl, trivial⟩) ?_
  refine SOps.nil ?_
  refine SCode.ret ?_
  obtain rfl := Option.some.inj h
  exact ⟨⟨[(6, .c (.bool (decide (0 ≤ o2_4.getD a2_sink.toNat 0))))], [.box [.own 1 a0_g_edges.length, .vec a0_g_out.length 1 (gL (cVec 1 (cInt .i64) 0) ([]) a0_g_out), .own 2 o2_4.length, .own 3 o3_2.length], .arr 41 2 a0_g_edges.length (gL cSEdge dSEdge a0_g_edges), .arr 3 1 o2_4.length (gL (cInt .i64) 0 o2_4), .arr 3 1 o3_2.length (gL (cInt .i64) 0 o3_2)]⟩, _, sub_gen [0, 1, 2, 3] rfl rfl ⟨zc rfl rfl, trivial⟩ ⟨⟨_, rfl, ⟨ii rfl rfl, ii rfl rfl, ii rfl rfl, ii rfl rfl, trivial⟩⟩, oa rfl, oa rfl, oa rfl, trivial⟩, resA1 (v := .c (.bool (decide (0 ≤ o2_4.getD a2_sink.toNat 0)))) rfl rfl, ⟨rfl, rfl⟩⟩
end Go.Proofs.Ythebmhkjelejbaa.W
