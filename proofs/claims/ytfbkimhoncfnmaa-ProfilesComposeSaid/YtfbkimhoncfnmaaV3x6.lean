/- Written by a program of ours (wip/eng/gen.py): the functions compute their models. -/
import Derived.Test.YtfbkimhoncfnmaaFacts
import Derived.Test.YtfbkimhoncfnmaaV3x5
namespace Go.Proofs.Ytfbkimhoncfnmaa.W
open Go Go.Proofs Go.Proofs.Ytfbkimhoncfnmaa.E Go.Proofs.Ytfbkimhoncfnmaa.M
set_option linter.unusedVariables false
set_option maxRecDepth 100000 in
set_option maxHeartbeats 8000000 in
theorem compose_pause_ok (F : Nat) (a0_l : List SProfile) (a1_start : Int) (a2_t : Int) (r : Int) (h : compose_pause F a0_l a1_start a2_t = some r) :
    SFun Try.prog 25 [] [.c (.vec a0_l.length 11 (gL cSProfile dSProfile a0_l)), .c (.int .i64 a1_start), .c (.int .i64 a2_t)] (fun x _ => x = .c (.int .i64 r)) := by
  refine SFun.of (n := 57) Try.func25 rfl rfl rfl ?_
  unfold compose_pause at h
  show SCode _ _ _ ⟨[(0, .c (.vec a0_l.length 11 (gL cSProfile dSProfile a0_l))), (1, .c (.int .i64 a1_start)), (2, .c (.int .i64 a2_t))], []⟩ _
  refine SCode.seq ?_
  refine SCode.region (show SOps _ _ _ [0] _ _ from ?_)
  refine SOps.q rfl (.plain rfl) rfl (q_assign rfl rfl) ?_
  refine SOps.sub (st' := ⟨[(0, .c (.vec a0_l.length 11 (gL cSProfile dSProfile a0_l))), (1, .c (.int .i64 a1_start)), (2, .c (.int .i64 a2_t))], []⟩) (sub_gen [] rfl rfl ⟨zc rfl rfl, zc rfl rfl, zc rfl rfl, trivial⟩ trivial) ?_
  refine SOps.nil ?_
  refine SCode.seq ?_
  refine SCode.region (show SOps _ _ _ [0] _ _ from ?_)
  refine SOps.q rfl (.plain rfl) rfl (q_assign rfl rfl) ?_
  refine SOps.sub (st' := ⟨[(0, .c (.vec a0_l.length 11 (gL cSProfile dSProfile a0_l))), (1, .c (.int .i64 a1_start)), (2, .c (.int .i64 a2_t)), (7, .c (.int .i64 268435457))], []⟩) (sub_gen [] rfl rfl ⟨zc rfl rfl, zc rfl rfl, zc rfl rfl, zc rfl rfl, trivial⟩ trivial) ?_
  refine SOps.nil ?_
  refine SCode.join (σ := Int) (S := fun s => ⟨[(7, .c (.int .i64 s))], []⟩) (g := fun s => compose_pause_p2 s = some r) ?_ ?_
  rotate_left
  · refine SCode.seq ?_
    refine SCode.region (show SOps _ _ _ [0, 1, 2] _ _ from ?_)
    refine SOps.q rfl (.plain rfl) rfl (q_move rfl rfl) ?_
    refine SOps.q rfl (.plain rfl) rfl (q_len_vec rfl rfl sl22) ?_
    refine SOps.q rfl (.plain rfl) rfl (q_move rfl rfl) ?_
    refine SOps.sub (st' := ⟨[(1, .c (.int .i64 a1_start)), (2, .c (.int .i64 a2_t)), (7, .c (.int .i64 268435457)), (13, .c (.vec a0_l.length 11 (gL cSProfile dSProfile a0_l))), (14, .c (.int .i64 (((a0_l).length : Int)))), (15, .c (.int .i64 0))], []⟩) (sub_gen [] rfl rfl ⟨zc rfl rfl, zc rfl rfl, zc rfl rfl, zc rfl rfl, zc rfl rfl, zc rfl rfl, trivial⟩ trivial) ?_
    refine SOps.nil ?_
    refine SCode.block ?_
    refine SCode.sub (st' := ⟨[(1, .c (.int .i64 a1_start)), (2, .c (.int .i64 a2_t)), (7, .c (.int .i64 268435457)), (13, .c (.vec a0_l.length 11 (gL cSProfile dSProfile a0_l))), (14, .c (.int .i64 (((a0_l).length : Int)))), (15, .c (.int .i64 0))], []⟩) (sub_gen [] rfl rfl ⟨zc rfl rfl, zc rfl rfl, zc rfl rfl, zc rfl rfl, zc rfl rfl, zc rfl rfl, trivial⟩ trivial) ?_
    refine (SCode.loop (σ := Nat × (Int × Int)) (S := fun s => ⟨[(1, .c (.int .i64 a1_start)), (2, .c (.int .i64 a2_t)), (7, .c (.int .i64 s.2.1)), (13, .c (.vec a0_l.length 11 (gL cSProfile dSProfile a0_l))), (14, .c (.int .i64 (((a0_l).length : Int)))), (15, .c (.int .i64 s.2.2))], []⟩) (g := fun s => compose_pause_l67 F a0_l a1_start a2_t s.1 s.2.1 s.2.2 = some r) (μ := fun s => s.1) (F, (268435457, 0)) h ?_)
    rintro ⟨n_67, ⟨best_34, t15_35⟩⟩ h
    replace h : compose_pause_l67 F a0_l a1_start a2_t n_67 best_34 t15_35 = some r := h
    show SCode _ _ _ ⟨[(1, .c (.int .i64 a1_start)), (2, .c (.int .i64 a2_t)), (7, .c (.int .i64 best_34)), (13, .c (.vec a0_l.length 11 (gL cSProfile dSProfile a0_l))), (14, .c (.int .i64 (((a0_l).length : Int)))), (15, .c (.int .i64 t15_35))], []⟩ _
    cases n_67 with
    | zero => cases h
    | succ n_67 =>
      replace h : compose_pause_b67 F a0_l a1_start a2_t (fun best_34 t15_35 => compose_pause_l67 F a0_l a1_start a2_t n_67 best_34 t15_35) best_34 t15_35 = some r := h
      unfold compose_pause_b67 at h
      refine SCode.seq ?_
      refine SCode.region (show SOps _ _ _ [0] _ _ from ?_)
      refine SOps.q rfl (.plain rfl) rfl (q_lss rfl rfl rfl) ?_
      refine SOps.sub (st' := ⟨[(1, .c (.int .i64 a1_start)), (2, .c (.int .i64 a2_t)), (7, .c (.int .i64 best_34)), (13, .c (.vec a0_l.length 11 (gL cSProfile dSProfile a0_l))), (14, .c (.int .i64 (((a0_l).length : Int)))), (15, .c (.int .i64 t15_35)), (16, .c (.bool (decide (t15_35 < ((a0_l).length : Int)))))], []⟩) (sub_gen [] rfl rfl ⟨zc rfl rfl, zc rfl rfl, zc rfl rfl, zc rfl rfl, zc rfl rfl, zc rfl rfl, zc rfl rfl, trivial⟩ trivial) ?_
      refine SOps.nil ?_
      refine SCode.seq ?_
      rcases cond_out h with ⟨g68, h⟩ | ⟨g68, h⟩
      · refine SCode.cond_t rfl g68 ?_
        refine SCode.skip ?_
        refine SCode.join (σ := Int) (S := fun s => ⟨[(1, .c (.int .i64 a1_start)), (2, .c (.int .i64 a2_t)), (7, .c (.int .i64 s)), (13, .c (.vec a0_l.length 11 (gL cSProfile dSProfile a0_l))), (14, .c (.int .i64 (((a0_l).length : Int)))), (15, .c (.int .i64 t15_35))], []⟩) (g := fun s => compose_pause_p70 t15_35 (fun best_34 t15_35 => compose_pause_l67 F a0_l a1_start a2_t n_67 best_34 t15_35) s = some r) ?_ ?_
        rotate_left
        · refine SCode.block ?_
          refine SCode.seq ?_
          obtain ⟨g71, h⟩ := guard_out h
          refine SCode.region (show SOps _ _ _ [0, 1, 2, 3] _ _ from ?_)
          refine SOps.q rfl (.plain rfl) rfl (q_index_vec rfl rfl rfl sl22 rfl g71.1 g71.2) ?_
          refine SOps.q rfl (.plain rfl) rfl (q_load_eptr_all rfl rfl rfl ty29) ?_
          refine SOps.e rfl (.plain rfl) (e_alloc rfl rfl rfl z29) ?_
          refine SOps.e rfl (.plain rfl) (e_store_box rfl rfl rfl rfl rfl ty29 rfl rfl rfl rfl) ?_
          refine SOps.sub (st' := ⟨[(1, .c (.int .i64 a1_start)), (2, .c (.int .i64 a2_t)), (7, .c (.int .i64 best_34)), (9, .c (.ptr 0 0)), (13, .c (.vec a0_l.length 11 (gL cSProfile dSProfile a0_l))), (14, .c (.int .i64 (((a0_l).length : Int)))), (15, .c (.int .i64 t15_35))], [.box [.int .i64 ((a0_l.getD t15_35.toNat dSProfile).ID), .int .i64 ((a0_l.getD t15_35.toNat dSProfile).Level), .int .i64 ((a0_l.getD t15_35.toNat dSProfile).Purpose), .int .i64 ((a0_l.getD t15_35.toNat dSProfile).Kind), .int .i64 ((a0_l.getD t15_35.toNat dSProfile).Conn), .str ((a0_l.getD t15_35.toNat dSProfile).Txn), .int .i64 ((a0_l.getD t15_35.toNat dSProfile).Span_From), .int .i64 ((a0_l.getD t15_35.toNat dSProfile).Span_To), .int .i64 ((a0_l.getD t15_35.toNat dSProfile).Start), .int .i64 ((a0_l.getD t15_35.toNat dSProfile).Duration), .vec ((a0_l.getD t15_35.toNat dSProfile).Periods).length 2 (gL cSPeriod dSPeriod ((a0_l.getD t15_35.toNat dSProfile).Periods))]]⟩) (sub_gen [0] rfl rfl ⟨zc rfl rfl, zc rfl rfl, zc rfl rfl, zc rfl rfl, zc rfl rfl, zc rfl rfl, zc rfl rfl, trivial⟩ ⟨⟨_, rfl, ⟨ii rfl rfl, ii rfl rfl, ii rfl rfl, ii rfl rfl, ii rfl rfl, ii rfl rfl, ii rfl rfl, ii rfl rfl, ii rfl rfl, ii rfl rfl, ii rfl rfl, trivial⟩⟩, trivial⟩) ?_
          refine SOps.nil ?_
          refine SCode.seq ?_
          refine SCode.region (show SOps _ _ _ [0, 1, 2, 3, 4, 5, 6, 7, 8, 9, 10] _ _ from ?_)
          refine SOps.q rfl (.plain rfl) rfl (q_field_ptr rfl rfl fd29_6) ?_
          refine SOps.q rfl (.plain rfl) rfl (q_field_ptr rfl rfl fd26_0) ?_
          refine SOps.q rfl (.plain rfl) rfl (q_load_ptr rfl rfl rfl rfl ty3) ?_
          refine SOps.q rfl (.plain rfl) rfl (q_field_ptr rfl rfl fd29_6) ?_
          refine SOps.q rfl (.plain rfl) rfl (q_field_ptr rfl rfl fd26_1) ?_
          refine SOps.q rfl (.plain rfl) rfl (q_load_ptr rfl rfl rfl rfl ty3) ?_
          refine SOps.q rfl (.plain rfl) rfl (q_field_ptr rfl rfl fd29_7) ?_
          refine SOps.q rfl (.plain rfl) rfl (q_load_ptr rfl rfl rfl rfl ty3) ?_
          refine SOps.q rfl (.plain rfl) rfl (q_buildArr rfl rfl ar71 z71 rfl) ?_
          refine SOps.e rfl (.plain rfl) (e_alloc rfl rfl rfl z71) ?_
          refine SOps.e rfl (.plain rfl) (e_store_box rfl rfl rfl rfl rfl ty71 rfl rfl rfl rfl) ?_
          refine SOps.sub (st' := ⟨[(1, .c (.int .i64 a1_start)), (2, .c (.int .i64 a2_t)), (7, .c (.int .i64 best_34)), (9, .c (.ptr 0 0)), (10, .c (.ptr 1 0)), (13, .c (.vec a0_l.length 11 (gL cSProfile dSProfile a0_l))), (14, .c (.int .i64 (((a0_l).length : Int)))), (15, .c (.int .i64 t15_35))], [.box [.int .i64 ((a0_l.getD t15_35.toNat dSProfile).ID), .int .i64 ((a0_l.getD t15_35.toNat dSProfile).Level), .int .i64 ((a0_l.getD t15_35.toNat dSProfile).Purpose), .int .i64 ((a0_l.getD t15_35.toNat dSProfile).Kind), .int .i64 ((a0_l.getD t15_35.toNat dSProfile).Conn), .str ((a0_l.getD t15_35.toNat dSProfile).Txn), .int .i64 ((a0_l.getD t15_35.toNat dSProfile).Span_From), .int .i64 ((a0_l.getD t15_35.toNat dSProfile).Span_To), .int .i64 ((a0_l.getD t15_35.toNat dSProfile).Start), .int .i64 ((a0_l.getD t15_35.toNat dSProfile).Duration), .vec ((a0_l.getD t15_35.toNat dSProfile).Periods).length 2 (gL cSPeriod dSPeriod ((a0_l.getD t15_35.toNat dSProfile).Periods))], .box [.int .i64 ((a0_l.getD t15_35.toNat dSProfile).Span_From), .int .i64 ((a0_l.getD t15_35.toNat dSProfile).Span_To), .int .i64 ((a0_l.getD t15_35.toNat dSProfile).Start)]]⟩) (sub_gen [0, 1] rfl rfl ⟨zc rfl rfl, zc rfl rfl, zc rfl rfl, zc rfl rfl, zc rfl rfl, zc rfl rfl, zc rfl rfl, zc rfl rfl, trivial⟩ ⟨⟨_, rfl, ⟨ii rfl rfl, ii rfl rfl, ii rfl rfl, ii rfl rfl, ii rfl rfl, ii rfl rfl, ii rfl rfl, ii rfl rfl, ii rfl rfl, ii rfl rfl, ii rfl rfl, trivial⟩⟩, ⟨_, rfl, ⟨ii rfl rfl, ii rfl rfl, ii rfl rfl, trivial⟩⟩, trivial⟩) ?_
          refine SOps.nil ?_
          refine SCode.join (σ := Int) (S := fun s => ⟨[(1, .c (.int .i64 a1_start)), (2, .c (.int .i64 a2_t)), (7, .c (.int .i64 best_34)), (10, .c (.ptr 0 0)), (13, .c (.vec a0_l.length 11 (gL cSProfile dSProfile a0_l))), (14, .c (.int .i64 (((a0_l).length : Int)))), (15, .c (.int .i64 t15_35))], [.box [.int .i64 s, .int .i64 ((a0_l.getD t15_35.toNat dSProfile).Span_To), .int .i64 ((a0_l.getD t15_35.toNat dSProfile).Start)]]⟩) (g := fun s => compose_pause_p94 F a0_l a2_t best_34 t15_35 (fun best_34 t15_35 => compose_pause_l67 F a0_l a1_start a2_t n_67 best_34 t15_35) s = some r) ?_ ?_
          rotate_left
          · refine SCode.seq ?_
            rcases cond_out h with ⟨g95, h⟩ | ⟨g95, h⟩
            · refine SCode.region (show SOps _ _ _ [0, 1, 2, 3, 4, 5, 6, 7] _ _ from ?_)
              refine SOps.q rfl (.plain rfl) rfl (q_field_ptr rfl rfl fd29_3) ?_
              refine SOps.q rfl (.plain rfl) rfl (q_load_ptr rfl rfl rfl rfl ty3) ?_
              refine SOps.q rfl (.plain rfl) rfl (q_neq rfl rfl rfl) ?_
              refine SOps.q rfl (.plain rfl) rfl (q_move rfl rfl) ?_
              refine SOps.q rfl (.guard 3 31 true rfl rfl (gT g95)) rfl (q_field_ptr rfl rfl fd29_3) ?_
              refine SOps.q rfl (.guard 3 31 true rfl rfl (gT g95)) rfl (q_load_ptr rfl rfl rfl rfl ty3) ?_
              refine SOps.q rfl (.guard 3 31 true rfl rfl (gT g95)) rfl (q_neq rfl rfl rfl) ?_
              refine SOps.q rfl (.plain rfl) rfl (q_pick_t rfl rfl g95 rfl) ?_
              refine SOps.sub (st' := ⟨[(1, .c (.int .i64 a1_start)), (2, .c (.int .i64 a2_t)), (7, .c (.int .i64 best_34)), (9, .c (.ptr 0 0)), (10, .c (.ptr 1 0)), (13, .c (.vec a0_l.length 11 (gL cSProfile dSProfile a0_l))), (14, .c (.int .i64 (((a0_l).length : Int)))), (15, .c (.int .i64 t15_35)), (35, .c (.bool ((!decide ((a0_l.getD t15_35.toNat dSProfile).Kind = 3)))))], [.box [.int .i64 ((a0_l.getD t15_35.toNat dSProfile).ID), .int .i64 ((a0_l.getD t15_35.toNat dSProfile).Level), .int .i64 ((a0_l.getD t15_35.toNat dSProfile).Purpose), .int .i64 ((a0_l.getD t15_35.toNat dSProfile).Kind), .int .i64 ((a0_l.getD t15_35.toNat dSProfile).Conn), .str ((a0_l.getD t15_35.toNat dSProfile).Txn), .int .i64 ((a0_l.getD t15_35.toNat dSProfile).Span_From), .int .i64 ((a0_l.getD t15_35.toNat dSProfile).Span_To), .int .i64 ((a0_l.getD t15_35.toNat dSProfile).Start), .int .i64 ((a0_l.getD t15_35.toNat dSProfile).Duration), .vec ((a0_l.getD t15_35.toNat dSProfile).Periods).length 2 (gL cSPeriod dSPeriod ((a0_l.getD t15_35.toNat dSProfile).Periods))], .box [.int .i64 ((a0_l.getD t15_35.toNat dSProfile).Span_From), .int .i64 ((a0_l.getD t15_35.toNat dSProfile).Span_To), .int .i64 ((a0_l.getD t15_35.toNat dSProfile).Start)]]⟩) (sub_gen [0, 1] rfl rfl ⟨zc rfl rfl, zc rfl rfl, zc rfl rfl, zc rfl rfl, zc rfl rfl, zc rfl rfl, zc rfl rfl, zc rfl rfl, zc rfl rfl, trivial⟩ ⟨⟨_, rfl, ⟨ii rfl rfl, ii rfl rfl, ii rfl rfl, ii rfl rfl, ii rfl rfl, ii rfl rfl, ii rfl rfl, ii rfl rfl, ii rfl rfl, ii rfl rfl, ii rfl rfl, trivial⟩⟩, ⟨_, rfl, ⟨ii rfl rfl, ii rfl rfl, ii rfl rfl, trivial⟩⟩, trivial⟩) ?_
              refine SOps.nil ?_
              rcases cond_out h with ⟨g96, h⟩ | ⟨g96, h⟩
              · refine SCode.cond_t rfl g96 ?_
                obtain ⟨c_97, g98, h⟩ := bind_out h
                try dsimp only at h
                refine SCode.region (show SOps _ _ _ [0, 1, 2, 3, 4, 5] _ _ from ?_)
                refine SOps.q rfl (.plain rfl) rfl (q_load_ptr_all rfl rfl rfl rfl rfl ty29) ?_
                refine SOps.q rfl (.plain rfl) rfl (q_move rfl rfl) ?_
                refine SOps.q rfl (.plain rfl) rfl (q_move rfl rfl) ?_
                refine SOps.q rfl (.plain rfl) rfl (q_call (profile_Next_ok F (a0_l.getD t15_35.toNat dSProfile) a1_start a2_t c_97 g98) [] rfl fn33 ⟨⟨rfl, rfl⟩, ⟨_, rfl, .inl ⟨rfl, rfl⟩⟩, ⟨_, rfl, .inl ⟨rfl, rfl⟩⟩, trivial⟩ (.inl rfl)) ?_
                refine SOps.q rfl (.plain rfl) rfl (q_indexAddr_ptr rfl rfl rfl ar71 (by decide) (by decide)) ?_
                refine SOps.e rfl (.plain rfl) (e_store_box rfl rfl rfl rfl rfl ty3 rfl rfl rfl rfl) ?_
                refine SOps.sub (st' := ⟨[(1, .c (.int .i64 a1_start)), (2, .c (.int .i64 a2_t)), (7, .c (.int .i64 best_34)), (10, .c (.ptr 0 0)), (13, .c (.vec a0_l.length 11 (gL cSProfile dSProfile a0_l))), (14, .c (.int .i64 (((a0_l).length : Int)))), (15, .c (.int .i64 t15_35))], [.box [.int .i64 c_97, .int .i64 ((a0_l.getD t15_35.toNat dSProfile).Span_To), .int .i64 ((a0_l.getD t15_35.toNat dSProfile).Start)]]⟩) (sub_gen [1] rfl rfl ⟨zc rfl rfl, zc rfl rfl, zc rfl rfl, zc rfl rfl, zc rfl rfl, zc rfl rfl, zc rfl rfl, trivial⟩ ⟨⟨_, rfl, ⟨ii rfl rfl, ii rfl rfl, ii rfl rfl, trivial⟩⟩, trivial⟩) ?_
                refine SOps.nil ?_
                exact ⟨c_97, h, sub_gen [0] rfl rfl ⟨zc rfl rfl, zc rfl rfl, zc rfl rfl, zc rfl rfl, zc rfl rfl, zc rfl rfl, zc rfl rfl, trivial⟩ ⟨⟨_, rfl, ⟨ii rfl rfl, ii rfl rfl, ii rfl rfl, trivial⟩⟩, trivial⟩⟩
              refine SCode.cond_f rfl g96 ?_
              refine SCode.skip ?_
              exact ⟨(a0_l.getD t15_35.toNat dSProfile).Span_From, h, sub_gen [1] rfl rfl ⟨zc rfl rfl, zc rfl rfl, zc rfl rfl, zc rfl rfl, zc rfl rfl, zc rfl rfl, zc rfl rfl, trivial⟩ ⟨⟨_, rfl, ⟨ii rfl rfl, ii rfl rfl, ii rfl rfl, trivial⟩⟩, trivial⟩⟩
            refine SCode.region (show SOps _ _ _ [0, 1, 2, 3, 4, 5, 6, 7] _ _ from ?_)
            refine SOps.q rfl (.plain rfl) rfl (q_field_ptr rfl rfl fd29_3) ?_
            refine SOps.q rfl (.plain rfl) rfl (q_load_ptr rfl rfl rfl rfl ty3) ?_
            refine SOps.q rfl (.plain rfl) rfl (q_neq rfl rfl rfl) ?_
            refine SOps.q rfl (.plain rfl) rfl (q_move rfl rfl) ?_
            refine SOps.skip rfl 3 31 true rfl rfl (.inl (gF g95)) rfl ?_
            refine SOps.skip rfl 3 31 true rfl rfl (.inl (gF g95)) rfl ?_
            refine SOps.skip rfl 3 31 true rfl rfl (.inl (gF g95)) rfl ?_
            refine SOps.q rfl (.plain rfl) rfl (q_pick_f rfl rfl g95 rfl) ?_
            refine SOps.sub (st' := ⟨[(1, .c (.int .i64 a1_start)), (2, .c (.int .i64 a2_t)), (7, .c (.int .i64 best_34)), (9, .c (.ptr 0 0)), (10, .c (.ptr 1 0)), (13, .c (.vec a0_l.length 11 (gL cSProfile dSProfile a0_l))), (14, .c (.int .i64 (((a0_l).length : Int)))), (15, .c (.int .i64 t15_35)), (35, .c (.bool false))], [.box [.int .i64 ((a0_l.getD t15_35.toNat dSProfile).ID), .int .i64 ((a0_l.getD t15_35.toNat dSProfile).Level), .int .i64 ((a0_l.getD t15_35.toNat dSProfile).Purpose), .int .i64 ((a0_l.getD t15_35.toNat dSProfile).Kind), .int .i64 ((a0_l.getD t15_35.toNat dSProfile).Conn), .str ((a0_l.getD t15_35.toNat dSProfile).Txn), .int .i64 ((a0_l.getD t15_35.toNat dSProfile).Span_From), .int .i64 ((a0_l.getD t15_35.toNat dSProfile).Span_To), .int .i64 ((a0_l.getD t15_35.toNat dSProfile).Start), .int .i64 ((a0_l.getD t15_35.toNat dSProfile).Duration), .vec ((a0_l.getD t15_35.toNat dSProfile).Periods).length 2 (gL cSPeriod dSPeriod ((a0_l.getD t15_35.toNat dSProfile).Periods))], .box [.int .i64 ((a0_l.getD t15_35.toNat dSProfile).Span_From), .int .i64 ((a0_l.getD t15_35.toNat dSProfile).Span_To), .int .i64 ((a0_l.getD t15_35.toNat dSProfile).Start)]]⟩) (sub_gen [0, 1] rfl rfl ⟨zc rfl rfl, zc rfl rfl, zc rfl rfl, zc rfl rfl, zc rfl rfl, zc rfl rfl, zc rfl rfl, zc rfl rfl, zc rfl rfl, trivial⟩ ⟨⟨_, rfl, ⟨ii rfl rfl, ii rfl rfl, ii rfl rfl, ii rfl rfl, ii rfl rfl, ii rfl rfl, ii rfl rfl, ii rfl rfl, ii rfl rfl, ii rfl rfl, ii rfl rfl, trivial⟩⟩, ⟨_, rfl, ⟨ii rfl rfl, ii rfl rfl, ii rfl rfl, trivial⟩⟩, trivial⟩) ?_
            refine SOps.nil ?_
            refine SCode.cond_f rfl rfl ?_
            refine SCode.skip ?_
            exact ⟨(a0_l.getD t15_35.toNat dSProfile).Span_From, h, sub_gen [1] rfl rfl ⟨zc rfl rfl, zc rfl rfl, zc rfl rfl, zc rfl rfl, zc rfl rfl, zc rfl rfl, zc rfl rfl, trivial⟩ ⟨⟨_, rfl, ⟨ii rfl rfl, ii rfl rfl, ii rfl rfl, trivial⟩⟩, trivial⟩⟩
          rintro b0_72 h
          show SCode _ _ _ ⟨[(1, .c (.int .i64 a1_start)), (2, .c (.int .i64 a2_t)), (7, .c (.int .i64 best_34)), (10, .c (.ptr 0 0)), (13, .c (.vec a0_l.length 11 (gL cSProfile dSProfile a0_l))), (14, .c (.int .i64 (((a0_l).length : Int)))), (15, .c (.int .i64 t15_35))], [.box [.int .i64 b0_72, .int .i64 ((a0_l.getD t15_35.toNat dSProfile).Span_To), .int .i64 ((a0_l.getD t15_35.toNat dSProfile).Start)]]⟩ _
          replace h : compose_pause_p94 F a0_l a2_t best_34 t15_35 (fun best_34 t15_35 => compose_pause_l67 F a0_l a1_start a2_t n_67 best_34 t15_35) b0_72 = some r := h
          unfold compose_pause_p94 at h
          refine SCode.seq ?_
          refine SCode.region (show SOps _ _ _ [0, 1] _ _ from ?_)
          refine SOps.q rfl (.plain rfl) rfl (q_load_ptr_all rfl rfl rfl rfl rfl ty71) ?_
          refine SOps.q rfl (.plain rfl) rfl (q_move rfl rfl) ?_
          refine SOps.sub (st' := ⟨[(1, .c (.int .i64 a1_start)), (2, .c (.int .i64 a2_t)), (7, .c (.int .i64 best_34)), (13, .c (.vec a0_l.length 11 (gL cSProfile dSProfile a0_l))), (14, .c (.int .i64 (((a0_l).length : Int)))), (15, .c (.int .i64 t15_35)), (41, .a [.int .i64 b0_72, .int .i64 ((a0_l.getD t15_35.toNat dSProfile).Span_To), .int .i64 ((a0_l.getD t15_35.toNat dSProfile).Start)]), (42, .c (.int .i64 0))], []⟩) (sub_gen [] rfl rfl ⟨zc rfl rfl, zc rfl rfl, zc rfl rfl, zc rfl rfl, zc rfl rfl, zc rfl rfl, ⟨_, rfl, ⟨ii rfl rfl, ii rfl rfl, ii rfl rfl, trivial⟩⟩, zc rfl rfl, trivial⟩ trivial) ?_
          refine SOps.nil ?_
          refine SCode.block ?_
          refine SCode.sub (st' := ⟨[(1, .c (.int .i64 a1_start)), (2, .c (.int .i64 a2_t)), (7, .c (.int .i64 best_34)), (13, .c (.vec a0_l.length 11 (gL cSProfile dSProfile a0_l))), (14, .c (.int .i64 (((a0_l).length : Int)))), (15, .c (.int .i64 t15_35)), (41, .a [.int .i64 b0_72, .int .i64 ((a0_l.getD t15_35.toNat dSProfile).Span_To), .int .i64 ((a0_l.getD t15_35.toNat dSProfile).Start)]), (42, .c (.int .i64 0))], []⟩) (sub_gen [] rfl rfl ⟨zc rfl rfl, zc rfl rfl, zc rfl rfl, zc rfl rfl, zc rfl rfl, zc rfl rfl, ⟨_, rfl, ⟨ii rfl rfl, ii rfl rfl, ii rfl rfl, trivial⟩⟩, zc rfl rfl, trivial⟩ trivial) ?_
          refine (SCode.loop (σ := Nat × (Int × Int)) (S := fun s => ⟨[(1, .c (.int .i64 a1_start)), (2, .c (.int .i64 a2_t)), (7, .c (.int .i64 s.2.1)), (13, .c (.vec a0_l.length 11 (gL cSProfile dSProfile a0_l))), (14, .c (.int .i64 (((a0_l).length : Int)))), (15, .c (.int .i64 t15_35)), (41, .a [.int .i64 b0_72, .int .i64 ((a0_l.getD t15_35.toNat dSProfile).Span_To), .int .i64 ((a0_l.getD t15_35.toNat dSProfile).Start)]), (42, .c (.int .i64 s.2.2))], []⟩) (g := fun s => compose_pause_l87 a0_l a2_t t15_35 (fun best_34 t15_35 => compose_pause_l67 F a0_l a1_start a2_t n_67 best_34 t15_35) b0_72 s.1 s.2.1 s.2.2 = some r) (μ := fun s => s.1) (F, (best_34, 0)) h ?_)
          rintro ⟨n_87, ⟨best_79, t42_80⟩⟩ h
          replace h : compose_pause_l87 a0_l a2_t t15_35 (fun best_34 t15_35 => compose_pause_l67 F a0_l a1_start a2_t n_67 best_34 t15_35) b0_72 n_87 best_79 t42_80 = some r := h
          show SCode _ _ _ ⟨[(1, .c (.int .i64 a1_start)), (2, .c (.int .i64 a2_t)), (7, .c (.int .i64 best_79)), (13, .c (.vec a0_l.length 11 (gL cSProfile dSProfile a0_l))), (14, .c (.int .i64 (((a0_l).length : Int)))), (15, .c (.int .i64 t15_35)), (41, .a [.int .i64 b0_72, .int .i64 ((a0_l.getD t15_35.toNat dSProfile).Span_To), .int .i64 ((a0_l.getD t15_35.toNat dSProfile).Start)]), (42, .c (.int .i64 t42_80))], []⟩ _
          cases n_87 with
          | zero => cases h
          | succ n_87 =>
            replace h : compose_pause_b87 a0_l a2_t t15_35 (fun best_34 t15_35 => compose_pause_l67 F a0_l a1_start a2_t n_67 best_34 t15_35) b0_72 (fun best_79 t42_80 => compose_pause_l87 a0_l a2_t t15_35 (fun best_34 t15_35 => compose_pause_l67 F a0_l a1_start a2_t n_67 best_34 t15_35) b0_72 n_87 best_79 t42_80) best_79 t42_80 = some r := h
            unfold compose_pause_b87 at h
            refine SCode.seq ?_
            refine SCode.region (show SOps _ _ _ [0] _ _ from ?_)
            refine SOps.q rfl (.plain rfl) rfl (q_lss rfl rfl rfl) ?_
            refine SOps.sub (st' := ⟨[(1, .c (.int .i64 a1_start)), (2, .c (.int .i64 a2_t)), (7, .c (.int .i64 best_79)), (13, .c (.vec a0_l.length 11 (gL cSProfile dSProfile a0_l))), (14, .c (.int .i64 (((a0_l).length : Int)))), (15, .c (.int .i64 t15_35)), (41, .a [.int .i64 b0_72, .int .i64 ((a0_l.getD t15_35.toNat dSProfile).Span_To), .int .i64 ((a0_l.getD t15_35.toNat dSProfile).Start)]), (42, .c (.int .i64 t42_80)), (43, .c (.bool (decide (t42_80 < 3))))], []⟩) (sub_gen [] rfl rfl ⟨zc rfl rfl, zc rfl rfl, zc rfl rfl, zc rfl rfl, zc rfl rfl, zc rfl rfl, ⟨_, rfl, ⟨ii rfl rfl, ii rfl rfl, ii rfl rfl, trivial⟩⟩, zc rfl rfl, zc rfl rfl, trivial⟩ trivial) ?_
            refine SOps.nil ?_
            refine SCode.seq ?_
            rcases cond_out h with ⟨g88, h⟩ | ⟨g88, h⟩
            · refine SCode.cond_t rfl g88 ?_
              refine SCode.skip ?_
              refine SCode.join (σ := Int) (S := fun s => ⟨[(1, .c (.int .i64 a1_start)), (2, .c (.int .i64 a2_t)), (7, .c (.int .i64 s)), (13, .c (.vec a0_l.length 11 (gL cSProfile dSProfile a0_l))), (14, .c (.int .i64 (((a0_l).length : Int)))), (15, .c (.int .i64 t15_35)), (41, .a [.int .i64 b0_72, .int .i64 ((a0_l.getD t15_35.toNat dSProfile).Span_To), .int .i64 ((a0_l.getD t15_35.toNat dSProfile).Start)]), (42, .c (.int .i64 t42_80))], []⟩) (g := fun s => compose_pause_p90 t42_80 (fun best_79 t42_80 => compose_pause_l87 a0_l a2_t t15_35 (fun best_34 t15_35 => compose_pause_l67 F a0_l a1_start a2_t n_67 best_34 t15_35) b0_72 n_87 best_79 t42_80) s = some r) ?_ ?_
              rotate_left
              · refine SCode.block ?_
                refine SCode.seq ?_
                obtain ⟨g91, h⟩ := guard_out h
                refine SCode.region (show SOps _ _ _ [0, 1] _ _ from ?_)
                refine SOps.q rfl (.plain rfl) rfl (q_index_agg (c := (cInt .i64)) (d0 := 0) (l := [b0_72, (a0_l.getD t15_35.toNat dSProfile).Span_To, (a0_l.getD t15_35.toNat dSProfile).Start]) rfl rfl rfl ar71 ty3 rfl g91.1 g91.2) ?_
                refine SOps.q rfl (.plain rfl) rfl (q_assign rfl rfl) ?_
                refine SOps.sub (st' := ⟨[(1, .c (.int .i64 a1_start)), (2, .c (.int .i64 a2_t)), (7, .c (.int .i64 best_79)), (12, .c (.int .i64 (([b0_72, (a0_l.getD t15_35.toNat dSProfile).Span_To, (a0_l.getD t15_35.toNat dSProfile).Start] : List Int).getD t42_80.toNat 0))), (13, .c (.vec a0_l.length 11 (gL cSProfile dSProfile a0_l))), (14, .c (.int .i64 (((a0_l).length : Int)))), (15, .c (.int .i64 t15_35)), (41, .a [.int .i64 b0_72, .int .i64 ((a0_l.getD t15_35.toNat dSProfile).Span_To), .int .i64 ((a0_l.getD t15_35.toNat dSProfile).Start)]), (42, .c (.int .i64 t42_80))], []⟩) (sub_gen [] rfl rfl ⟨zc rfl rfl, zc rfl rfl, zc rfl rfl, zc rfl rfl, zc rfl rfl, zc rfl rfl, zc rfl rfl, ⟨_, rfl, ⟨ii rfl rfl, ii rfl rfl, ii rfl rfl, trivial⟩⟩, zc rfl rfl, trivial⟩ trivial) ?_
                refine SOps.nil ?_
                refine SCode.seq ?_
                rcases cond_out h with ⟨g92, h⟩ | ⟨g92, h⟩
                · refine SCode.region (show SOps _ _ _ [0, 1, 2, 3, 4, 5, 6, 7] _ _ from ?_)
                  refine SOps.q rfl (.plain rfl) rfl (q_move rfl rfl) ?_
                  refine SOps.q rfl (.plain rfl) rfl (q_move rfl rfl) ?_
                  refine SOps.q rfl (.plain rfl) rfl (q_gtr rfl rfl rfl) ?_
                  refine SOps.q rfl (.plain rfl) rfl (q_move rfl rfl) ?_
                  refine SOps.q rfl (.guard 3 48 true rfl rfl (gT g92)) rfl (q_move rfl rfl) ?_
                  refine SOps.q rfl (.guard 3 48 true rfl rfl (gT g92)) rfl (q_move rfl rfl) ?_
                  refine SOps.q rfl (.guard 3 48 true rfl rfl (gT g92)) rfl (q_lss rfl rfl rfl) ?_
                  refine SOps.q rfl (.plain rfl) rfl (q_pick_t rfl rfl g92 rfl) ?_
                  refine SOps.sub (st' := ⟨[(1, .c (.int .i64 a1_start)), (2, .c (.int .i64 a2_t)), (7, .c (.int .i64 best_79)), (12, .c (.int .i64 (([b0_72, (a0_l.getD t15_35.toNat dSProfile).Span_To, (a0_l.getD t15_35.toNat dSProfile).Start] : List Int).getD t42_80.toNat 0))), (13, .c (.vec a0_l.length 11 (gL cSProfile dSProfile a0_l))), (14, .c (.int .i64 (((a0_l).length : Int)))), (15, .c (.int .i64 t15_35)), (41, .a [.int .i64 b0_72, .int .i64 ((a0_l.getD t15_35.toNat dSProfile).Span_To), .int .i64 ((a0_l.getD t15_35.toNat dSProfile).Start)]), (42, .c (.int .i64 t42_80)), (52, .c (.bool (decide (([b0_72, (a0_l.getD t15_35.toNat dSProfile).Span_To, (a0_l.getD t15_35.toNat dSProfile).Start] : List Int).getD t42_80.toNat 0 < best_79))))], []⟩) (sub_gen [] rfl rfl ⟨zc rfl rfl, zc rfl rfl, zc rfl rfl, zc rfl rfl, zc rfl rfl, zc rfl rfl, zc rfl rfl, ⟨_, rfl, ⟨ii rfl rfl, ii rfl rfl, ii rfl rfl, trivial⟩⟩, zc rfl rfl, zc rfl rfl, trivial⟩ trivial) ?_
                  refine SOps.nil ?_
                  rcases cond_out h with ⟨g93, h⟩ | ⟨g93, h⟩
                  · refine SCode.cond_t rfl g93 ?_
                    refine SCode.region (show SOps _ _ _ [0, 1] _ _ from ?_)
                    refine SOps.q rfl (.plain rfl) rfl (q_move rfl rfl) ?_
                    refine SOps.q rfl (.plain rfl) rfl (q_assign rfl rfl) ?_
                    refine SOps.sub (st' := ⟨[(1, .c (.int .i64 a1_start)), (2, .c (.int .i64 a2_t)), (7, .c (.int .i64 (([b0_72, (a0_l.getD t15_35.toNat dSProfile).Span_To, (a0_l.getD t15_35.toNat dSProfile).Start] : List Int).getD t42_80.toNat 0))), (13, .c (.vec a0_l.length 11 (gL cSProfile dSProfile a0_l))), (14, .c (.int .i64 (((a0_l).length : Int)))), (15, .c (.int .i64 t15_35)), (41, .a [.int .i64 b0_72, .int .i64 ((a0_l.getD t15_35.toNat dSProfile).Span_To), .int .i64 ((a0_l.getD t15_35.toNat dSProfile).Start)]), (42, .c (.int .i64 t42_80))], []⟩) (sub_gen [] rfl rfl ⟨zc rfl rfl, zc rfl rfl, zc rfl rfl, zc rfl rfl, zc rfl rfl, zc rfl rfl, ⟨_, rfl, ⟨ii rfl rfl, ii rfl rfl, ii rfl rfl, trivial⟩⟩, zc rfl rfl, trivial⟩ trivial) ?_
                    refine SOps.nil ?_
                    exact ⟨([b0_72, (a0_l.getD t15_35.toNat dSProfile).Span_To, (a0_l.getD t15_35.toNat dSProfile).Start] : List Int).getD t42_80.toNat 0, h, sub_gen [] rfl rfl ⟨zc rfl rfl, zc rfl rfl, zc rfl rfl, zc rfl rfl, zc rfl rfl, zc rfl rfl, ⟨_, rfl, ⟨ii rfl rfl, ii rfl rfl, ii rfl rfl, trivial⟩⟩, zc rfl rfl, trivial⟩ trivial⟩
                  refine SCode.cond_f rfl g93 ?_
                  refine SCode.skip ?_
                  exact ⟨best_79, h, sub_gen [] rfl rfl ⟨zc rfl rfl, zc rfl rfl, zc rfl rfl, zc rfl rfl, zc rfl rfl, zc rfl rfl, ⟨_, rfl, ⟨ii rfl rfl, ii rfl rfl, ii rfl rfl, trivial⟩⟩, zc rfl rfl, trivial⟩ trivial⟩
                refine SCode.region (show SOps _ _ _ [0, 1, 2, 3, 4, 5, 6, 7] _ _ from ?_)
                refine SOps.q rfl (.plain rfl) rfl (q_move rfl rfl) ?_
                refine SOps.q rfl (.plain rfl) rfl (q_move rfl rfl) ?_
                refine SOps.q rfl (.plain rfl) rfl (q_gtr rfl rfl rfl) ?_
                refine SOps.q rfl (.plain rfl) rfl (q_move rfl rfl) ?_
                refine SOps.skip rfl 3 48 true rfl rfl (.inl (gF g92)) rfl ?_
                refine SOps.skip rfl 3 48 true rfl rfl (.inl (gF g92)) rfl ?_
                refine SOps.skip rfl 3 48 true rfl rfl (.inl (gF g92)) rfl ?_
                refine SOps.q rfl (.plain rfl) rfl (q_pick_f rfl rfl g92 rfl) ?_
                refine SOps.sub (st' := ⟨[(1, .c (.int .i64 a1_start)), (2, .c (.int .i64 a2_t)), (7, .c (.int .i64 best_79)), (12, .c (.int .i64 (([b0_72, (a0_l.getD t15_35.toNat dSProfile).Span_To, (a0_l.getD t15_35.toNat dSProfile).Start] : List Int).getD t42_80.toNat 0))), (13, .c (.vec a0_l.length 11 (gL cSProfile dSProfile a0_l))), (14, .c (.int .i64 (((a0_l).length : Int)))), (15, .c (.int .i64 t15_35)), (41, .a [.int .i64 b0_72, .int .i64 ((a0_l.getD t15_35.toNat dSProfile).Span_To), .int .i64 ((a0_l.getD t15_35.toNat dSProfile).Start)]), (42, .c (.int .i64 t42_80)), (52, .c (.bool false))], []⟩) (sub_gen [] rfl rfl ⟨zc rfl rfl, zc rfl rfl, zc rfl rfl, zc rfl rfl, zc rfl rfl, zc rfl rfl, zc rfl rfl, ⟨_, rfl, ⟨ii rfl rfl, ii rfl rfl, ii rfl rfl, trivial⟩⟩, zc rfl rfl, zc rfl rfl, trivial⟩ trivial) ?_
                refine SOps.nil ?_
                refine SCode.cond_f rfl rfl ?_
                refine SCode.skip ?_
                exact ⟨best_79, h, sub_gen [] rfl rfl ⟨zc rfl rfl, zc rfl rfl, zc rfl rfl, zc rfl rfl, zc rfl rfl, zc rfl rfl, ⟨_, rfl, ⟨ii rfl rfl, ii rfl rfl, ii rfl rfl, trivial⟩⟩, zc rfl rfl, trivial⟩ trivial⟩
              rintro best_89 h
              show SCode _ _ _ ⟨[(1, .c (.int .i64 a1_start)), (2, .c (.int .i64 a2_t)), (7, .c (.int .i64 best_89)), (13, .c (.vec a0_l.length 11 (gL cSProfile dSProfile a0_l))), (14, .c (.int .i64 (((a0_l).length : Int)))), (15, .c (.int .i64 t15_35)), (41, .a [.int .i64 b0_72, .int .i64 ((a0_l.getD t15_35.toNat dSProfile).Span_To), .int .i64 ((a0_l.getD t15_35.toNat dSProfile).Start)]), (42, .c (.int .i64 t42_80))], []⟩ _
              replace h : compose_pause_p90 t42_80 (fun best_79 t42_80 => compose_pause_l87 a0_l a2_t t15_35 (fun best_34 t15_35 => compose_pause_l67 F a0_l a1_start a2_t n_67 best_34 t15_35) b0_72 n_87 best_79 t42_80) best_89 = some r := h
              unfold compose_pause_p90 at h
              refine SCode.region (show SOps _ _ _ [0, 1] _ _ from ?_)
              refine SOps.q rfl (.plain rfl) rfl (q_add rfl rfl rfl) ?_
              refine SOps.q rfl (.plain rfl) rfl (q_move rfl rfl) ?_
              refine SOps.sub (st' := ⟨[(1, .c (.int .i64 a1_start)), (2, .c (.int .i64 a2_t)), (7, .c (.int .i64 best_89)), (13, .c (.vec a0_l.length 11 (gL cSProfile dSProfile a0_l))), (14, .c (.int .i64 (((a0_l).length : Int)))), (15, .c (.int .i64 t15_35)), (41, .a [.int .i64 b0_72, .int .i64 ((a0_l.getD t15_35.toNat dSProfile).Span_To), .int .i64 ((a0_l.getD t15_35.toNat dSProfile).Start)]), (42, .c (.int .i64 (IntKind.wrap .i64 (t42_80 + 1))))], []⟩) (sub_gen [] rfl rfl ⟨zc rfl rfl, zc rfl rfl, zc rfl rfl, zc rfl rfl, zc rfl rfl, zc rfl rfl, ⟨_, rfl, ⟨ii rfl rfl, ii rfl rfl, ii rfl rfl, trivial⟩⟩, zc rfl rfl, trivial⟩ trivial) ?_
              refine SOps.nil ?_
              exact ⟨(n_87, (best_89, IntKind.wrap .i64 (t42_80 + 1))), h, Nat.lt_succ_self n_87, sub_gen [] rfl rfl ⟨zc rfl rfl, zc rfl rfl, zc rfl rfl, zc rfl rfl, zc rfl rfl, zc rfl rfl, ⟨_, rfl, ⟨ii rfl rfl, ii rfl rfl, ii rfl rfl, trivial⟩⟩, zc rfl rfl, trivial⟩ trivial⟩
            refine SCode.cond_f rfl g88 ?_
            refine SCode.exit ?_
            exact ⟨best_79, h, sub_gen [] rfl rfl ⟨zc rfl rfl, zc rfl rfl, zc rfl rfl, zc rfl rfl, zc rfl rfl, zc rfl rfl, trivial⟩ trivial⟩
        rintro best_69 h
        show SCode _ _ _ ⟨[(1, .c (.int .i64 a1_start)), (2, .c (.int .i64 a2_t)), (7, .c (.int .i64 best_69)), (13, .c (.vec a0_l.length 11 (gL cSProfile dSProfile a0_l))), (14, .c (.int .i64 (((a0_l).length : Int)))), (15, .c (.int .i64 t15_35))], []⟩ _
        replace h : compose_pause_p70 t15_35 (fun best_34 t15_35 => compose_pause_l67 F a0_l a1_start a2_t n_67 best_34 t15_35) best_69 = some r := h
        unfold compose_pause_p70 at h
        refine SCode.region (show SOps _ _ _ [0, 1] _ _ from ?_)
        refine SOps.q rfl (.plain rfl) rfl (q_add rfl rfl rfl) ?_
        refine SOps.q rfl (.plain rfl) rfl (q_move rfl rfl) ?_
        refine SOps.sub (st' := ⟨[(1, .c (.int .i64 a1_start)), (2, .c (.int .i64 a2_t)), (7, .c (.int .i64 best_69)), (13, .c (.vec a0_l.length 11 (gL cSProfile dSProfile a0_l))), (14, .c (.int .i64 (((a0_l).length : Int)))), (15, .c (.int .i64 (IntKind.wrap .i64 (t15_35 + 1))))], []⟩) (sub_gen [] rfl rfl ⟨zc rfl rfl, zc rfl rfl, zc rfl rfl, zc rfl rfl, zc rfl rfl, zc rfl rfl, trivial⟩ trivial) ?_
        refine SOps.nil ?_
        exact ⟨(n_67, (best_69, IntKind.wrap .i64 (t15_35 + 1))), h, Nat.lt_succ_self n_67, sub_gen [] rfl rfl ⟨zc rfl rfl, zc rfl rfl, zc rfl rfl, zc rfl rfl, zc rfl rfl, zc rfl rfl, trivial⟩ trivial⟩
      refine SCode.cond_f rfl g68 ?_
      refine SCode.exit ?_
      exact ⟨best_34, h, sub_gen [] rfl rfl ⟨zc rfl rfl, trivial⟩ trivial⟩
  rintro best_1 h
  show SCode _ _ _ ⟨[(7, .c (.int .i64 best_1))], []⟩ _
  replace h : compose_pause_p2 best_1 = some r := h
  unfold compose_pause_p2 at h
  refine SCode.seq ?_
  refine SCode.region (show SOps _ _ _ [0, 1] _ _ from ?_)
  refine SOps.q rfl (.plain rfl) rfl (q_move rfl rfl) ?_
  refine SOps.q rfl (.plain rfl) rfl (q_assign rfl rfl) ?_
  refine SOps.sub (st' := ⟨[(6, .c (.int .i64 best_1))], []⟩) (sub_gen [] rfl rfl ⟨zc rfl rfl, trivial⟩ trivial) ?_
  refine SOps.nil ?_
  refine SCode.ret ?_
  obtain rfl := Option.some.inj h
  exact ⟨⟨[(6, .c (.int .i64 best_1))], []⟩, _, sub_gen [] rfl rfl ⟨zc rfl rfl, trivial⟩ trivial, resA1 (v := .c (.int .i64 best_1)) rfl rfl, rfl⟩
set_option maxRecDepth 100000 in
set_option maxHeartbeats 8000000 in
theorem compose_earliest_ok (F : Nat) (a0_l : List SProfile) (a1_start : Int) (a2_t : Int) (a3_ahead : List Int) (r : Int × (List Int)) (h : compose_earliest F a0_l a1_start a2_t a3_ahead = some r) :
    SFun Try.prog 26 [.arr 3 1 a3_ahead.length (gL (cInt .i64) 0 a3_ahead)] [.c (.vec a0_l.length 11 (gL cSProfile dSProfile a0_l)), .c (.int .i64 a1_start), .c (.int .i64 a2_t), .c (.own 0 a3_ahead.length)] (fun x os => x = .c (.int .i64 r.1) ∧ os = [.arr 3 1 r.2.length (gL (cInt .i64) 0 r.2)]) := by
  refine SFun.of (n := 48) Try.func26 rfl rfl rfl ?_
  unfold compose_earliest at h
  show SCode _ _ _ ⟨[(0, .c (.vec a0_l.length 11 (gL cSProfile dSProfile a0_l))), (1, .c (.int .i64 a1_start)), (2, .c (.int .i64 a2_t)), (3, .c (.own 0 a3_ahead.length))], [.arr 3 1 a3_ahead.length (gL (cInt .i64) 0 a3_ahead)]⟩ _
  refine SCode.seq ?_
  refine SCode.region (show SOps _ _ _ [0] _ _ from ?_)
  refine SOps.q rfl (.plain rfl) rfl (q_assign rfl rfl) ?_
  refine SOps.sub (st' := ⟨[(0, .c (.vec a0_l.length 11 (gL cSProfile dSProfile a0_l))), (1, .c (.int .i64 a1_start)), (2, .c (.int .i64 a2_t)), (3, .c (.own 0 a3_ahead.length))], [.arr 3 1 a3_ahead.length (gL (cInt .i64) 0 a3_ahead)]⟩) (sub_gen [0] rfl rfl ⟨zc rfl rfl, zc rfl rfl, zc rfl rfl, zc rfl rfl, trivial⟩ ⟨oa rfl, trivial⟩) ?_
  refine SOps.nil ?_
  refine SCode.seq ?_
  refine SCode.region (show SOps _ _ _ [0] _ _ from ?_)
  refine SOps.q rfl (.plain rfl) rfl (q_assign rfl rfl) ?_
  refine SOps.sub (st' := ⟨[(0, .c (.vec a0_l.length 11 (gL cSProfile dSProfile a0_l))), (1, .c (.int .i64 a1_start)), (2, .c (.int .i64 a2_t)), (3, .c (.own 0 a3_ahead.length)), (9, .c (.int .i64 268435457))], [.arr 3 1 a3_ahead.length (gL (cInt .i64) 0 a3_ahead)]⟩) (sub_gen [0] rfl rfl ⟨zc rfl rfl, zc rfl rfl, zc rfl rfl, zc rfl rfl, zc rfl rfl, trivial⟩ ⟨oa rfl, trivial⟩) ?_
  refine SOps.nil ?_
  refine SCode.join (σ := Int × (List Int)) (S := fun s => ⟨[(9, .c (.int .i64 s.1))], [.arr 3 1 s.2.length (gL (cInt .i64) 0 s.2)]⟩) (g := fun s => compose_earliest_p3 s.1 s.2 = some r) ?_ ?_
  rotate_left
  · refine SCode.seq ?_
    refine SCode.region (show SOps _ _ _ [0, 1, 2] _ _ from ?_)
    refine SOps.q rfl (.plain rfl) rfl (q_move rfl rfl) ?_
    refine SOps.q rfl (.plain rfl) rfl (q_len_vec rfl rfl sl22) ?_
    refine SOps.q rfl (.plain rfl) rfl (q_move rfl rfl) ?_
    refine SOps.sub (st' := ⟨[(1, .c (.int .i64 a1_start)), (2, .c (.int .i64 a2_t)), (3, .c (.own 0 a3_ahead.length)), (9, .c (.int .i64 268435457)), (12, .c (.vec a0_l.length 11 (gL cSProfile dSProfile a0_l))), (13, .c (.int .i64 (((a0_l).length : Int)))), (14, .c (.int .i64 0))], [.arr 3 1 a3_ahead.length (gL (cInt .i64) 0 a3_ahead)]⟩) (sub_gen [0] rfl rfl ⟨zc rfl rfl, zc rfl rfl, zc rfl rfl, zc rfl rfl, zc rfl rfl, zc rfl rfl, zc rfl rfl, trivial⟩ ⟨oa rfl, trivial⟩) ?_
    refine SOps.nil ?_
    refine SCode.block ?_
    refine SCode.sub (st' := ⟨[(1, .c (.int .i64 a1_start)), (2, .c (.int .i64 a2_t)), (3, .c (.own 0 a3_ahead.length)), (9, .c (.int .i64 268435457)), (12, .c (.vec a0_l.length 11 (gL cSProfile dSProfile a0_l))), (13, .c (.int .i64 (((a0_l).length : Int)))), (14, .c (.int .i64 0))], [.arr 3 1 a3_ahead.length (gL (cInt .i64) 0 a3_ahead)]⟩) (sub_gen [0] rfl rfl ⟨zc rfl rfl, zc rfl rfl, zc rfl rfl, zc rfl rfl, zc rfl rfl, zc rfl rfl, zc rfl rfl, trivial⟩ ⟨oa rfl, trivial⟩) ?_
    refine (SCode.loop (σ := Nat × (Int × Int × (List Int))) (S := fun s => ⟨[(1, .c (.int .i64 a1_start)), (2, .c (.int .i64 a2_t)), (3, .c (.own 0 s.2.2.2.length)), (9, .c (.int .i64 s.2.1)), (12, .c (.vec a0_l.length 11 (gL cSProfile dSProfile a0_l))), (13, .c (.int .i64 (((a0_l).length : Int)))), (14, .c (.int .i64 s.2.2.1))], [.arr 3 1 s.2.2.2.length (gL (cInt .i64) 0 s.2.2.2)]⟩) (g := fun s => compose_earliest_l33 F a0_l a1_start a2_t s.1 s.2.1 s.2.2.1 s.2.2.2 = some r) (μ := fun s => s.1) (F, (268435457, 0, a3_ahead)) h ?_)
    rintro ⟨n_33, ⟨best_17, t14_18, o0_19⟩⟩ h
    replace h : compose_earliest_l33 F a0_l a1_start a2_t n_33 best_17 t14_18 o0_19 = some r := h
    show SCode _ _ _ ⟨[(1, .c (.int .i64 a1_start)), (2, .c (.int .i64 a2_t)), (3, .c (.own 0 o0_19.length)), (9, .c (.int .i64 best_17)), (12, .c (.vec a0_l.length 11 (gL cSProfile dSProfile a0_l))), (13, .c (.int .i64 (((a0_l).length : Int)))), (14, .c (.int .i64 t14_18))], [.arr 3 1 o0_19.length (gL (cInt .i64) 0 o0_19)]⟩ _
    cases n_33 with
    | zero => cases h
    | succ n_33 =>
      replace h : compose_earliest_b33 F a0_l a1_start a2_t (fun best_17 t14_18 o0_19 => compose_earliest_l33 F a0_l a1_start a2_t n_33 best_17 t14_18 o0_19) best_17 t14_18 o0_19 = some r := h
      unfold compose_earliest_b33 at h
      refine SCode.seq ?_
      refine SCode.region (show SOps _ _ _ [0] _ _ from ?_)
      refine SOps.q rfl (.plain rfl) rfl (q_lss rfl rfl rfl) ?_
      refine SOps.sub (st' := ⟨[(1, .c (.int .i64 a1_start)), (2, .c (.int .i64 a2_t)), (3, .c (.own 0 o0_19.length)), (9, .c (.int .i64 best_17)), (12, .c (.vec a0_l.length 11 (gL cSProfile dSProfile a0_l))), (13, .c (.int .i64 (((a0_l).length : Int)))), (14, .c (.int .i64 t14_18)), (15, .c (.bool (decide (t14_18 < ((a0_l).length : Int)))))], [.arr 3 1 o0_19.length (gL (cInt .i64) 0 o0_19)]⟩) (sub_gen [0] rfl rfl ⟨zc rfl rfl, zc rfl rfl, zc rfl rfl, zc rfl rfl, zc rfl rfl, zc rfl rfl, zc rfl rfl, zc rfl rfl, trivial⟩ ⟨oa rfl, trivial⟩) ?_
      refine SOps.nil ?_
      refine SCode.seq ?_
      rcases cond_out h with ⟨g34, h⟩ | ⟨g34, h⟩
      · refine SCode.cond_t rfl g34 ?_
        refine SCode.skip ?_
        refine SCode.seq ?_
        refine SCode.block ?_
        refine SCode.seq ?_
        obtain ⟨g35, h⟩ := guard_out h
        refine SCode.region (show SOps _ _ _ [0, 1, 2, 3, 4, 5] _ _ from ?_)
        refine SOps.q rfl (.plain rfl) rfl (q_move rfl rfl) ?_
        refine SOps.q rfl (.plain rfl) rfl (q_index_vec rfl rfl rfl sl22 rfl g35.1 g35.2) ?_
        refine SOps.q rfl (.plain rfl) rfl (q_load_eptr_all rfl rfl rfl ty29) ?_
        refine SOps.e rfl (.plain rfl) (e_alloc rfl rfl rfl z29) ?_
        refine SOps.q rfl (.plain rfl) rfl (q_assign rfl rfl) ?_
        refine SOps.e rfl (.plain rfl) (e_store_box rfl rfl rfl rfl rfl ty29 rfl rfl rfl rfl) ?_
        refine SOps.sub (st' := ⟨[(1, .c (.int .i64 a1_start)), (2, .c (.int .i64 a2_t)), (3, .c (.own 0 o0_19.length)), (9, .c (.int .i64 best_17)), (10, .c (.int .i64 t14_18)), (11, .c (.ptr 1 0)), (12, .c (.vec a0_l.length 11 (gL cSProfile dSProfile a0_l))), (13, .c (.int .i64 (((a0_l).length : Int)))), (14, .c (.int .i64 t14_18))], [.arr 3 1 o0_19.length (gL (cInt .i64) 0 o0_19), .box [.int .i64 ((a0_l.getD t14_18.toNat dSProfile).ID), .int .i64 ((a0_l.getD t14_18.toNat dSProfile).Level), .int .i64 ((a0_l.getD t14_18.toNat dSProfile).Purpose), .int .i64 ((a0_l.getD t14_18.toNat dSProfile).Kind), .int .i64 ((a0_l.getD t14_18.toNat dSProfile).Conn), .str ((a0_l.getD t14_18.toNat dSProfile).Txn), .int .i64 ((a0_l.getD t14_18.toNat dSProfile).Span_From), .int .i64 ((a0_l.getD t14_18.toNat dSProfile).Span_To), .int .i64 ((a0_l.getD t14_18.toNat dSProfile).Start), .int .i64 ((a0_l.getD t14_18.toNat dSProfile).Duration), .vec ((a0_l.getD t14_18.toNat dSProfile).Periods).length 2 (gL cSPeriod dSPeriod ((a0_l.getD t14_18.toNat dSProfile).Periods))]]⟩) (sub_gen [0, 1] rfl rfl ⟨zc rfl rfl, zc rfl rfl, zc rfl rfl, zc rfl rfl, zc rfl rfl, zc rfl rfl, zc rfl rfl, zc rfl rfl, zc rfl rfl, trivial⟩ ⟨oa rfl, ⟨_, rfl, ⟨ii rfl rfl, ii rfl rfl, ii rfl rfl, ii rfl rfl, ii rfl rfl, ii rfl rfl, ii rfl rfl, ii rfl rfl, ii rfl rfl, ii rfl rfl, ii rfl rfl, trivial⟩⟩, trivial⟩) ?_
        refine SOps.nil ?_
        refine SCode.join (σ := (List Int)) (S := fun s => ⟨[(1, .c (.int .i64 a1_start)), (2, .c (.int .i64 a2_t)), (3, .c (.own 0 s.length)), (9, .c (.int .i64 best_17)), (10, .c (.int .i64 t14_18)), (12, .c (.vec a0_l.length 11 (gL cSProfile dSProfile a0_l))), (13, .c (.int .i64 (((a0_l).length : Int)))), (14, .c (.int .i64 t14_18))], [.arr 3 1 s.length (gL (cInt .i64) 0 s)]⟩) (g := fun s => compose_earliest_p38 best_17 t14_18 (fun best_17 t14_18 o0_19 => compose_earliest_l33 F a0_l a1_start a2_t n_33 best_17 t14_18 o0_19) s = some r) ?_ ?_
        rotate_left
        · refine SCode.seq ?_
          obtain ⟨g39, h⟩ := guard_out h
          refine SCode.region (show SOps _ _ _ [0, 1, 2, 3, 4, 5] _ _ from ?_)
          refine SOps.q rfl (.plain rfl) rfl (q_move rfl rfl) ?_
          refine SOps.q rfl (.plain rfl) rfl (q_move rfl rfl) ?_
          refine SOps.q rfl (.plain rfl) rfl (q_index_own rfl rfl rfl sl64 g39.1 g39.2) ?_
          refine SOps.q rfl (.plain rfl) rfl (q_load_aptr rfl rfl rfl (toNat_lt g39) rfl ty3) ?_
          refine SOps.q rfl (.plain rfl) rfl (q_move rfl rfl) ?_
          refine SOps.q rfl (.plain rfl) rfl (q_leq rfl rfl rfl) ?_
          refine SOps.sub (st' := ⟨[(1, .c (.int .i64 a1_start)), (2, .c (.int .i64 a2_t)), (3, .c (.own 0 o0_19.length)), (9, .c (.int .i64 best_17)), (10, .c (.int .i64 t14_18)), (11, .c (.ptr 1 0)), (12, .c (.vec a0_l.length 11 (gL cSProfile dSProfile a0_l))), (13, .c (.int .i64 (((a0_l).length : Int)))), (14, .c (.int .i64 t14_18)), (24, .c (.bool (decide (o0_19.getD t14_18.toNat 0 ≤ a2_t))))], [.arr 3 1 o0_19.length (gL (cInt .i64) 0 o0_19), .box [.int .i64 ((a0_l.getD t14_18.toNat dSProfile).ID), .int .i64 ((a0_l.getD t14_18.toNat dSProfile).Level), .int .i64 ((a0_l.getD t14_18.toNat dSProfile).Purpose), .int .i64 ((a0_l.getD t14_18.toNat dSProfile).Kind), .int .i64 ((a0_l.getD t14_18.toNat dSProfile).Conn), .str ((a0_l.getD t14_18.toNat dSProfile).Txn), .int .i64 ((a0_l.getD t14_18.toNat dSProfile).Span_From), .int .i64 ((a0_l.getD t14_18.toNat dSProfile).Span_To), .int .i64 ((a0_l.getD t14_18.toNat dSProfile).Start), .int .i64 ((a0_l.getD t14_18.toNat dSProfile).Duration), .vec ((a0_l.getD t14_18.toNat dSProfile).Periods).length 2 (gL cSPeriod dSPeriod ((a0_l.getD t14_18.toNat dSProfile).Periods))]]⟩) (sub_gen [0, 1] rfl rfl ⟨zc rfl rfl, zc rfl rfl, zc rfl rfl, zc rfl rfl, zc rfl rfl, zc rfl rfl, zc rfl rfl, zc rfl rfl, zc rfl rfl, zc rfl rfl, trivial⟩ ⟨oa rfl, ⟨_, rfl, ⟨ii rfl rfl, ii rfl rfl, ii rfl rfl, ii rfl rfl, ii rfl rfl, ii rfl rfl, ii rfl rfl, ii rfl rfl, ii rfl rfl, ii rfl rfl, ii rfl rfl, trivial⟩⟩, trivial⟩) ?_
          refine SOps.nil ?_
          rcases cond_out h with ⟨g40, h⟩ | ⟨g40, h⟩
          · refine SCode.cond_t rfl g40 ?_
            refine SCode.seq ?_
            obtain ⟨c_41, g42, h⟩ := bind_out h
            try dsimp only at h
            obtain ⟨g43, h⟩ := guard_out h
            refine SCode.region (show SOps _ _ _ [0, 1, 2, 3, 4, 5, 6, 7] _ _ from ?_)
            refine SOps.q rfl (.plain rfl) rfl (q_move rfl rfl) ?_
            refine SOps.q rfl (.plain rfl) rfl (q_move rfl rfl) ?_
            refine SOps.q rfl (.plain rfl) rfl (q_load_ptr_all rfl rfl rfl rfl rfl ty29) ?_
            refine SOps.q rfl (.plain rfl) rfl (q_move rfl rfl) ?_
            refine SOps.q rfl (.plain rfl) rfl (q_move rfl rfl) ?_
            refine SOps.q rfl (.plain rfl) rfl (q_call (profile_Next_ok F (a0_l.getD t14_18.toNat dSProfile) a1_start a2_t c_41 g42) [] rfl fn33 ⟨⟨rfl, rfl⟩, ⟨_, rfl, .inl ⟨rfl, rfl⟩⟩, ⟨_, rfl, .inl ⟨rfl, rfl⟩⟩, trivial⟩ (.inl rfl)) ?_
            refine SOps.q rfl (.plain rfl) rfl (q_index_own rfl rfl rfl sl64 g43.1 g43.2) ?_
            refine SOps.e rfl (.plain rfl) (e_storeL c_41 rfl rfl rfl rfl rfl (toNat_lt g43) ty3 rfl rfl rfl rfl rfl rfl) ?_
            refine SOps.sub (st' := ⟨[(1, .c (.int .i64 a1_start)), (2, .c (.int .i64 a2_t)), (3, .c (.own 0 (o0_19.set t14_18.toNat c_41).length)), (9, .c (.int .i64 best_17)), (10, .c (.int .i64 t14_18)), (12, .c (.vec a0_l.length 11 (gL cSProfile dSProfile a0_l))), (13, .c (.int .i64 (((a0_l).length : Int)))), (14, .c (.int .i64 t14_18))], [.arr 3 1 (o0_19.set t14_18.toNat c_41).length (gL (cInt .i64) 0 (o0_19.set t14_18.toNat c_41))]⟩) (sub_gen [0] rfl rfl ⟨zc rfl rfl, zc rfl rfl, ⟨_, rfl, .inl ⟨rfl, congrArg (Cell.own 0) (List.length_set : (o0_19.set t14_18.toNat c_41).length = o0_19.length).symm⟩⟩, zc rfl rfl, zc rfl rfl, zc rfl rfl, zc rfl rfl, zc rfl rfl, trivial⟩ ⟨oa rfl, trivial⟩) ?_
            refine SOps.nil ?_
            refine SCode.seq ?_
            obtain ⟨g44, h⟩ := guard_out h
            refine SCode.region (show SOps _ _ _ [0, 1, 2, 3, 4] _ _ from ?_)
            refine SOps.q rfl (.plain rfl) rfl (q_move rfl rfl) ?_
            refine SOps.q rfl (.plain rfl) rfl (q_move rfl rfl) ?_
            refine SOps.q rfl (.plain rfl) rfl (q_index_own rfl rfl rfl sl64 g44.1 g44.2) ?_
            refine SOps.q rfl (.plain rfl) rfl (q_load_aptr rfl rfl rfl (toNat_lt g44) rfl ty3) ?_
            refine SOps.q rfl (.plain rfl) rfl (q_lss rfl rfl rfl) ?_
            refine SOps.sub (st' := ⟨[(1, .c (.int .i64 a1_start)), (2, .c (.int .i64 a2_t)), (3, .c (.own 0 (o0_19.set t14_18.toNat c_41).length)), (9, .c (.int .i64 best_17)), (10, .c (.int .i64 t14_18)), (12, .c (.vec a0_l.length 11 (gL cSProfile dSProfile a0_l))), (13, .c (.int .i64 (((a0_l).length : Int)))), (14, .c (.int .i64 t14_18)), (36, .c (.bool (decide ((o0_19.set t14_18.toNat c_41).getD t14_18.toNat 0 < 0))))], [.arr 3 1 (o0_19.set t14_18.toNat c_41).length (gL (cInt .i64) 0 (o0_19.set t14_18.toNat c_41))]⟩) (sub_gen [0] rfl rfl ⟨zc rfl rfl, zc rfl rfl, zc rfl rfl, zc rfl rfl, zc rfl rfl, zc rfl rfl, zc rfl rfl, zc rfl rfl, zc rfl rfl, trivial⟩ ⟨oa rfl, trivial⟩) ?_
            refine SOps.nil ?_
            rcases cond_out h with ⟨g45, h⟩ | ⟨g45, h⟩
            · refine SCode.cond_t rfl g45 ?_
              obtain ⟨g46, h⟩ := guard_out h
              refine SCode.region (show SOps _ _ _ [0, 1, 2, 3] _ _ from ?_)
              refine SOps.q rfl (.plain rfl) rfl (q_move rfl rfl) ?_
              refine SOps.q rfl (.plain rfl) rfl (q_move rfl rfl) ?_
              refine SOps.q rfl (.plain rfl) rfl (q_index_own rfl rfl rfl sl64 g46.1 g46.2) ?_
              refine SOps.e rfl (.plain rfl) (e_storeL 268435457 rfl rfl rfl rfl rfl (toNat_lt g46) ty3 rfl rfl rfl rfl rfl rfl) ?_
              refine SOps.sub (st' := ⟨[(1, .c (.int .i64 a1_start)), (2, .c (.int .i64 a2_t)), (3, .c (.own 0 ((o0_19.set t14_18.toNat c_41).set t14_18.toNat 268435457).length)), (9, .c (.int .i64 best_17)), (10, .c (.int .i64 t14_18)), (12, .c (.vec a0_l.length 11 (gL cSProfile dSProfile a0_l))), (13, .c (.int .i64 (((a0_l).length : Int)))), (14, .c (.int .i64 t14_18))], [.arr 3 1 ((o0_19.set t14_18.toNat c_41).set t14_18.toNat 268435457).length (gL (cInt .i64) 0 ((o0_19.set t14_18.toNat c_41).set t14_18.toNat 268435457))]⟩) (sub_gen [0] rfl rfl ⟨zc rfl rfl, zc rfl rfl, ⟨_, rfl, .inl ⟨rfl, congrArg (Cell.own 0) (List.length_set : ((o0_19.set t14_18.toNat c_41).set t14_18.toNat 268435457).length = (o0_19.set t14_18.toNat c_41).length).symm⟩⟩, zc rfl rfl, zc rfl rfl, zc rfl rfl, zc rfl rfl, zc rfl rfl, trivial⟩ ⟨oa rfl, trivial⟩) ?_
              refine SOps.nil ?_
              exact ⟨(o0_19.set t14_18.toNat c_41).set t14_18.toNat 268435457, h, sub_gen [0] rfl rfl ⟨zc rfl rfl, zc rfl rfl, zc rfl rfl, zc rfl rfl, zc rfl rfl, zc rfl rfl, zc rfl rfl, zc rfl rfl, trivial⟩ ⟨oa rfl, trivial⟩⟩
            refine SCode.cond_f rfl g45 ?_
            refine SCode.skip ?_
            exact ⟨o0_19.set t14_18.toNat c_41, h, sub_gen [0] rfl rfl ⟨zc rfl rfl, zc rfl rfl, zc rfl rfl, zc rfl rfl, zc rfl rfl, zc rfl rfl, zc rfl rfl, zc rfl rfl, trivial⟩ ⟨oa rfl, trivial⟩⟩
          refine SCode.cond_f rfl g40 ?_
          refine SCode.skip ?_
          exact ⟨o0_19, h, sub_gen [0] rfl rfl ⟨zc rfl rfl, zc rfl rfl, zc rfl rfl, zc rfl rfl, zc rfl rfl, zc rfl rfl, zc rfl rfl, zc rfl rfl, trivial⟩ ⟨oa rfl, trivial⟩⟩
        rintro o0_36 h
        show SCode _ _ _ ⟨[(1, .c (.int .i64 a1_start)), (2, .c (.int .i64 a2_t)), (3, .c (.own 0 o0_36.length)), (9, .c (.int .i64 best_17)), (10, .c (.int .i64 t14_18)), (12, .c (.vec a0_l.length 11 (gL cSProfile dSProfile a0_l))), (13, .c (.int .i64 (((a0_l).length : Int)))), (14, .c (.int .i64 t14_18))], [.arr 3 1 o0_36.length (gL (cInt .i64) 0 o0_36)]⟩ _
        replace h : compose_earliest_p38 best_17 t14_18 (fun best_17 t14_18 o0_19 => compose_earliest_l33 F a0_l a1_start a2_t n_33 best_17 t14_18 o0_19) o0_36 = some r := h
        unfold compose_earliest_p38 at h
        obtain ⟨g37, h⟩ := guard_out h
        refine SCode.region (show SOps _ _ _ [0, 1, 2, 3, 4, 5, 6] _ _ from ?_)
        refine SOps.q rfl (.plain rfl) rfl (q_move rfl rfl) ?_
        refine SOps.q rfl (.plain rfl) rfl (q_move rfl rfl) ?_
        refine SOps.q rfl (.plain rfl) rfl (q_move rfl rfl) ?_
        refine SOps.q rfl (.plain rfl) rfl (q_index_own rfl rfl rfl sl64 g37.1 g37.2) ?_
        refine SOps.q rfl (.plain rfl) rfl (q_load_aptr rfl rfl rfl (toNat_lt g37) rfl ty3) ?_
        refine SOps.q rfl (.plain rfl) rfl (q_min rfl rfl rfl) ?_
        refine SOps.q rfl (.plain rfl) rfl (q_assign rfl rfl) ?_
        refine SOps.sub (st' := ⟨[(1, .c (.int .i64 a1_start)), (2, .c (.int .i64 a2_t)), (3, .c (.own 0 o0_36.length)), (9, .c (.int .i64 ((if o0_36.getD t14_18.toNat 0 < best_17 then o0_36.getD t14_18.toNat 0 else best_17)))), (12, .c (.vec a0_l.length 11 (gL cSProfile dSProfile a0_l))), (13, .c (.int .i64 (((a0_l).length : Int)))), (14, .c (.int .i64 t14_18))], [.arr 3 1 o0_36.length (gL (cInt .i64) 0 o0_36)]⟩) (sub_gen [0] rfl rfl ⟨zc rfl rfl, zc rfl rfl, zc rfl rfl, zc rfl rfl, zc rfl rfl, zc rfl rfl, zc rfl rfl, trivial⟩ ⟨oa rfl, trivial⟩) ?_
        refine SOps.nil ?_
        refine SCode.region (show SOps _ _ _ [0, 1] _ _ from ?_)
        refine SOps.q rfl (.plain rfl) rfl (q_add rfl rfl rfl) ?_
        refine SOps.q rfl (.plain rfl) rfl (q_move rfl rfl) ?_
        refine SOps.sub (st' := ⟨[(1, .c (.int .i64 a1_start)), (2, .c (.int .i64 a2_t)), (3, .c (.own 0 o0_36.length)), (9, .c (.int .i64 ((if o0_36.getD t14_18.toNat 0 < best_17 then o0_36.getD t14_18.toNat 0 else best_17)))), (12, .c (.vec a0_l.length 11 (gL cSProfile dSProfile a0_l))), (13, .c (.int .i64 (((a0_l).length : Int)))), (14, .c (.int .i64 (IntKind.wrap .i64 (t14_18 + 1))))], [.arr 3 1 o0_36.length (gL (cInt .i64) 0 o0_36)]⟩) (sub_gen [0] rfl rfl ⟨zc rfl rfl, zc rfl rfl, zc rfl rfl, zc rfl rfl, zc rfl rfl, zc rfl rfl, zc rfl rfl, trivial⟩ ⟨oa rfl, trivial⟩) ?_
        refine SOps.nil ?_
        exact ⟨(n_33, ((if o0_36.getD t14_18.toNat 0 < best_17 then o0_36.getD t14_18.toNat 0 else best_17), IntKind.wrap .i64 (t14_18 + 1), o0_36)), h, Nat.lt_succ_self n_33, sub_gen [0] rfl rfl ⟨zc rfl rfl, zc rfl rfl, zc rfl rfl, zc rfl rfl, zc rfl rfl, zc rfl rfl, zc rfl rfl, trivial⟩ ⟨oa rfl, trivial⟩⟩
      refine SCode.cond_f rfl g34 ?_
      refine SCode.exit ?_
      exact ⟨(best_17, o0_19), h, sub_gen [0] rfl rfl ⟨zc rfl rfl, trivial⟩ ⟨oa rfl, trivial⟩⟩
  rintro ⟨best_1, o0_2⟩ h
  show SCode _ _ _ ⟨[(9, .c (.int .i64 best_1))], [.arr 3 1 o0_2.length (gL (cInt .i64) 0 o0_2)]⟩ _
  replace h : compose_earliest_p3 best_1 o0_2 = some r := h
  unfold compose_earliest_p3 at h
  refine SCode.seq ?_
  refine SCode.region (show SOps _ _ _ [0, 1] _ _ from ?_)
  refine SOps.q rfl (.plain rfl) rfl (q_move rfl rfl) ?_
  refine SOps.q rfl (.plain rfl) rfl (q_assign rfl rfl) ?_
  refine SOps.sub (st' := ⟨[(8, .c (.int .i64 best_1))], [.arr 3 1 o0_2.length (gL (cInt .i64) 0 o0_2)]⟩) (sub_gen [0] rfl rfl ⟨zc rfl rfl, trivial⟩ ⟨oa rfl, trivial⟩) ?_
  refine SOps.nil ?_
  refine SCode.ret ?_
  obtain rfl := Option.some.inj h
  exact ⟨⟨[(8, .c (.int .i64 best_1))], [.arr 3 1 o0_2.length (gL (cInt .i64) 0 o0_2)]⟩, _, sub_gen [0] rfl rfl ⟨zc rfl rfl, trivial⟩ ⟨oa rfl, trivial⟩, resA1 (v := .c (.int .i64 best_1)) rfl rfl, ⟨rfl, rfl⟩⟩
set_option maxRecDepth 100000 in
set_option maxHeartbeats 8000000 in
theorem compose_next_ok (F : Nat) (a0_l : List SProfile) (a1_start : Int) (a2_t : Int) (a3_last : Int) (r : Int) (h : compose_next F a0_l a1_start a2_t a3_last = some r) :
    SFun Try.prog 17 [] [.c (.vec a0_l.length 11 (gL cSProfile dSProfile a0_l)), .c (.int .i64 a1_start), .c (.int .i64 a2_t), .c (.int .i64 a3_last)] (fun x _ => x = .c (.int .i64 r)) := by
  refine SFun.of (n := 75) Try.func17 rfl rfl rfl ?_
  unfold compose_next at h
  show SCode _ _ _ ⟨[(0, .c (.vec a0_l.length 11 (gL cSProfile dSProfile a0_l))), (1, .c (.int .i64 a1_start)), (2, .c (.int .i64 a2_t)), (3, .c (.int .i64 a3_last))], []⟩ _
  refine SCode.seq ?_
  refine SCode.region (show SOps _ _ _ [0] _ _ from ?_)
  refine SOps.q rfl (.plain rfl) rfl (q_assign rfl rfl) ?_
  refine SOps.sub (st' := ⟨[(0, .c (.vec a0_l.length 11 (gL cSProfile dSProfile a0_l))), (1, .c (.int .i64 a1_start)), (2, .c (.int .i64 a2_t)), (3, .c (.int .i64 a3_last))], []⟩) (sub_gen [] rfl rfl ⟨zc rfl rfl, zc rfl rfl, zc rfl rfl, zc rfl rfl, trivial⟩ trivial) ?_
  refine SOps.nil ?_
  refine SCode.join (σ := Int) (S := fun s => ⟨[(0, .c (.vec a0_l.length 11 (gL cSProfile dSProfile a0_l))), (1, .c (.int .i64 a1_start)), (2, .c (.int .i64 s)), (3, .c (.int .i64 a3_last))], []⟩) (g := fun s => compose_next_p66 F a0_l a1_start a3_last s = some r) ?_ ?_
  rotate_left
  · refine SCode.seq ?_
    refine SCode.region (show SOps _ _ _ [0, 1] _ _ from ?_)
    refine SOps.q rfl (.plain rfl) rfl (q_move rfl rfl) ?_
    refine SOps.q rfl (.plain rfl) rfl (q_lss rfl rfl rfl) ?_
    refine SOps.sub (st' := ⟨[(0, .c (.vec a0_l.length 11 (gL cSProfile dSProfile a0_l))), (1, .c (.int .i64 a1_start)), (2, .c (.int .i64 a2_t)), (3, .c (.int .i64 a3_last)), (14, .c (.bool (decide (a2_t < 0))))], []⟩) (sub_gen [] rfl rfl ⟨zc rfl rfl, zc rfl rfl, zc rfl rfl, zc rfl rfl, zc rfl rfl, trivial⟩ trivial) ?_
    refine SOps.nil ?_
    rcases cond_out h with ⟨g67, h⟩ | ⟨g67, h⟩
    · refine SCode.cond_t rfl g67 ?_
      refine SCode.join (σ := Unit) (S := fun s => ⟨[(0, .c (.vec a0_l.length 11 (gL cSProfile dSProfile a0_l))), (1, .c (.int .i64 a1_start)), (3, .c (.int .i64 a3_last))], []⟩) (g := fun s => compose_next_p68 F a0_l a1_start a3_last = some r) ?_ ?_
      rotate_left
      · refine SCode.seq ?_
        rcases cond_out h with ⟨g69, h⟩ | ⟨g69, h⟩
        · obtain ⟨c_70, g71, h⟩ := bind_out h
          try dsimp only at h
          obtain ⟨c_72, g73, h⟩ := bind_out h
          try dsimp only at h
          refine SCode.region (show SOps _ _ _ [0, 1, 2, 3, 4, 5, 6, 7, 8, 9, 10] _ _ from ?_)
          refine SOps.q rfl (.plain rfl) rfl (q_move rfl rfl) ?_
          refine SOps.q rfl (.plain rfl) rfl (q_geq rfl rfl rfl) ?_
          refine SOps.q rfl (.plain rfl) rfl (q_move rfl rfl) ?_
          refine SOps.q rfl (.guard 2 17 true rfl rfl (gT g69)) rfl (q_move rfl rfl) ?_
          refine SOps.q rfl (.guard 2 17 true rfl rfl (gT g69)) rfl (q_move rfl rfl) ?_
          refine SOps.q rfl (.guard 2 17 true rfl rfl (gT g69)) rfl (q_call (compose_limit_ok F a0_l a1_start 0 c_70 g71) [] rfl fn18 ⟨⟨_, rfl, .inl ⟨rfl, rfl⟩⟩, ⟨_, rfl, .inl ⟨rfl, rfl⟩⟩, ⟨_, rfl, .inl ⟨rfl, rfl⟩⟩, trivial⟩ (.inl rfl)) ?_
          refine SOps.q rfl (.guard 2 17 true rfl rfl (gT g69)) rfl (q_move rfl rfl) ?_
          refine SOps.q rfl (.guard 2 17 true rfl rfl (gT g69)) rfl (q_move rfl rfl) ?_
          refine SOps.q rfl (.guard 2 17 true rfl rfl (gT g69)) rfl (q_call (compose_limit_ok F a0_l a1_start ((-1)) c_72 g73) [] rfl fn18 ⟨⟨_, rfl, .inl ⟨rfl, rfl⟩⟩, ⟨_, rfl, .inl ⟨rfl, rfl⟩⟩, ⟨_, rfl, .inl ⟨rfl, rfl⟩⟩, trivial⟩ (.inl rfl)) ?_
          refine SOps.q rfl (.guard 2 17 true rfl rfl (gT g69)) rfl (q_neq rfl rfl rfl) ?_
          refine SOps.q rfl (.plain rfl) rfl (q_pick_t rfl rfl g69 rfl) ?_
          refine SOps.sub (st' := ⟨[(0, .c (.vec a0_l.length 11 (gL cSProfile dSProfile a0_l))), (1, .c (.int .i64 a1_start)), (3, .c (.int .i64 a3_last)), (25, .c (.bool ((!decide (c_70 = c_72)))))], []⟩) (sub_gen [] rfl rfl ⟨zc rfl rfl, zc rfl rfl, zc rfl rfl, zc rfl rfl, trivial⟩ trivial) ?_
          refine SOps.nil ?_
          rcases cond_out h with ⟨g74, h⟩ | ⟨g74, h⟩
          · refine SCode.cond_t rfl g74 ?_
            refine SCode.seq ?_
            refine SCode.region (show SOps _ _ _ [0] _ _ from ?_)
            refine SOps.q rfl (.plain rfl) rfl (q_assign rfl rfl) ?_
            refine SOps.sub (st' := ⟨[(8, .c (.int .i64 0))], []⟩) (sub_gen [] rfl rfl ⟨zc rfl rfl, trivial⟩ trivial) ?_
            refine SOps.nil ?_
            refine SCode.ret ?_
            obtain rfl := Option.some.inj h
            exact ⟨⟨[(8, .c (.int .i64 0))], []⟩, _, sub_gen [] rfl rfl ⟨zc rfl rfl, trivial⟩ trivial, resA1 (v := .c (.int .i64 0)) rfl rfl, rfl⟩
          refine SCode.cond_f rfl g74 ?_
          refine SCode.skip ?_
          exact ⟨(), h, sub_gen [] rfl rfl ⟨zc rfl rfl, zc rfl rfl, zc rfl rfl, trivial⟩ trivial⟩
        refine SCode.region (show SOps _ _ _ [0, 1, 2, 3, 4, 5, 6, 7, 8, 9, 10] _ _ from ?_)
        refine SOps.q rfl (.plain rfl) rfl (q_move rfl rfl) ?_
        refine SOps.q rfl (.plain rfl) rfl (q_geq rfl rfl rfl) ?_
        refine SOps.q rfl (.plain rfl) rfl (q_move rfl rfl) ?_
        refine SOps.skip rfl 2 17 true rfl rfl (.inl (gF g69)) rfl ?_
        refine SOps.skip rfl 2 17 true rfl rfl (.inl (gF g69)) rfl ?_
        refine SOps.skip rfl 2 17 true rfl rfl (.inl (gF g69)) rfl ?_
        refine SOps.skip rfl 2 17 true rfl rfl (.inl (gF g69)) rfl ?_
        refine SOps.skip rfl 2 17 true rfl rfl (.inl (gF g69)) rfl ?_
        refine SOps.skip rfl 2 17 true rfl rfl (.inl (gF g69)) rfl ?_
        refine SOps.skip rfl 2 17 true rfl rfl (.inl (gF g69)) rfl ?_
        refine SOps.q rfl (.plain rfl) rfl (q_pick_f rfl rfl g69 rfl) ?_
        refine SOps.sub (st' := ⟨[(0, .c (.vec a0_l.length 11 (gL cSProfile dSProfile a0_l))), (1, .c (.int .i64 a1_start)), (3, .c (.int .i64 a3_last)), (25, .c (.bool false))], []⟩) (sub_gen [] rfl rfl ⟨zc rfl rfl, zc rfl rfl, zc rfl rfl, zc rfl rfl, trivial⟩ trivial) ?_
        refine SOps.nil ?_
        refine SCode.cond_f rfl rfl ?_
        refine SCode.skip ?_
        exact ⟨(), h, sub_gen [] rfl rfl ⟨zc rfl rfl, zc rfl rfl, zc rfl rfl, trivial⟩ trivial⟩
      rintro ⟨⟩ h
      show SCode _ _ _ ⟨[(0, .c (.vec a0_l.length 11 (gL cSProfile dSProfile a0_l))), (1, .c (.int .i64 a1_start)), (3, .c (.int .i64 a3_last))], []⟩ _
      replace h : compose_next_p68 F a0_l a1_start a3_last = some r := h
      unfold compose_next_p68 at h
      refine SCode.region (show SOps _ _ _ [0] _ _ from ?_)
      refine SOps.q rfl (.plain rfl) rfl (q_assign rfl rfl) ?_
      refine SOps.sub (st' := ⟨[(0, .c (.vec a0_l.length 11 (gL cSProfile dSProfile a0_l))), (1, .c (.int .i64 a1_start)), (2, .c (.int .i64 0)), (3, .c (.int .i64 a3_last))], []⟩) (sub_gen [] rfl rfl ⟨zc rfl rfl, zc rfl rfl, zc rfl rfl, zc rfl rfl, trivial⟩ trivial) ?_
      refine SOps.nil ?_
      exact ⟨0, h, sub_gen [] rfl rfl ⟨zc rfl rfl, zc rfl rfl, zc rfl rfl, zc rfl rfl, trivial⟩ trivial⟩
    refine SCode.cond_f rfl g67 ?_
    refine SCode.skip ?_
    exact ⟨a2_t, h, sub_gen [] rfl rfl ⟨zc rfl rfl, zc rfl rfl, zc rfl rfl, zc rfl rfl, trivial⟩ trivial⟩
  rintro t_1 h
  show SCode _ _ _ ⟨[(0, .c (.vec a0_l.length 11 (gL cSProfile dSProfile a0_l))), (1, .c (.int .i64 a1_start)), (2, .c (.int .i64 t_1)), (3, .c (.int .i64 a3_last))], []⟩ _
  replace h : compose_next_p66 F a0_l a1_start a3_last t_1 = some r := h
  unfold compose_next_p66 at h
  refine SCode.seq ?_
  obtain ⟨c_2, g3, h⟩ := bind_out h
  try dsimp only at h
  refine SCode.region (show SOps _ _ _ [0, 1, 2, 3, 4, 5, 6] _ _ from ?_)
  refine SOps.q rfl (.plain rfl) rfl (q_move rfl rfl) ?_
  refine SOps.q rfl (.plain rfl) rfl (q_move rfl rfl) ?_
  refine SOps.q rfl (.plain rfl) rfl (q_move rfl rfl) ?_
  refine SOps.q rfl (.plain rfl) rfl (q_move rfl rfl) ?_
  refine SOps.q rfl (.plain rfl) rfl (q_call (compose_pause_ok F a0_l a1_start t_1 c_2 g3) [] rfl fn25 ⟨⟨_, rfl, .inl ⟨rfl, rfl⟩⟩, ⟨_, rfl, .inl ⟨rfl, rfl⟩⟩, ⟨_, rfl, .inl ⟨rfl, rfl⟩⟩, trivial⟩ (.inl rfl)) ?_
  refine SOps.q rfl (.plain rfl) rfl (q_assign rfl rfl) ?_
  refine SOps.q rfl (.plain rfl) rfl (q_assign rfl rfl) ?_
  refine SOps.sub (st' := ⟨[(0, .c (.vec a0_l.length 11 (gL cSProfile dSProfile a0_l))), (1, .c (.int .i64 a1_start)), (2, .c (.int .i64 t_1)), (3, .c (.int .i64 a3_last)), (9, .c (.int .i64 t_1)), (10, .c (.int .i64 c_2))], []⟩) (sub_gen [] rfl rfl ⟨zc rfl rfl, zc rfl rfl, zc rfl rfl, zc rfl rfl, zc rfl rfl, zc rfl rfl, trivial⟩ trivial) ?_
  refine SOps.nil ?_
  refine SCode.seq ?_
  obtain ⟨g4, h⟩ := guard_out h
  refine SCode.region (show SOps _ _ _ [0, 1, 2, 3] _ _ from ?_)
  refine SOps.q rfl (.plain rfl) rfl (q_move rfl rfl) ?_
  refine SOps.q rfl (.plain rfl) rfl (q_len_vec rfl rfl sl22) ?_
  refine SOps.e rfl (.plain rfl) (e_makeL (c := (cInt .i64)) (d0 := 0) rfl rfl rfl rfl rfl sl64 z3 rfl rfl rfl g4.1 (Int.le_refl _) g4.2.1 g4.2.2) ?_
  refine SOps.q rfl (.plain rfl) rfl (q_assign rfl rfl) ?_
  refine SOps.sub (st' := ⟨[(0, .c (.vec a0_l.length 11 (gL cSProfile dSProfile a0_l))), (1, .c (.int .i64 a1_start)), (2, .c (.int .i64 t_1)), (3, .c (.int .i64 a3_last)), (9, .c (.int .i64 t_1)), (10, .c (.int .i64 c_2)), (11, .c (.own 0 (List.replicate (((a0_l).length : Int)).toNat (0 : Int)).length))], [.arr 3 1 (List.replicate (((a0_l).length : Int)).toNat (0 : Int)).length (gL (cInt .i64) 0 (List.replicate (((a0_l).length : Int)).toNat (0 : Int)))]⟩) (sub_gen [0] rfl rfl ⟨zc rfl rfl, zc rfl rfl, zc rfl rfl, zc rfl rfl, zc rfl rfl, zc rfl rfl, zc rfl rfl, trivial⟩ ⟨oa rfl, trivial⟩) ?_
  refine SOps.nil ?_
  refine SCode.join (σ := Unit) (S := fun s => ⟨[], []⟩) (g := fun s => compose_next_p5 = some r) ?_ ?_
  rotate_left
  · refine SCode.block ?_
    refine SCode.sub (st' := ⟨[(0, .c (.vec a0_l.length 11 (gL cSProfile dSProfile a0_l))), (1, .c (.int .i64 a1_start)), (2, .c (.int .i64 t_1)), (3, .c (.int .i64 a3_last)), (9, .c (.int .i64 t_1)), (10, .c (.int .i64 c_2)), (11, .c (.own 0 (List.replicate (((a0_l).length : Int)).toNat (0 : Int)).length))], [.arr 3 1 (List.replicate (((a0_l).length : Int)).toNat (0 : Int)).length (gL (cInt .i64) 0 (List.replicate (((a0_l).length : Int)).toNat (0 : Int)))]⟩) (sub_gen [0] rfl rfl ⟨zc rfl rfl, zc rfl rfl, zc rfl rfl, zc rfl rfl, zc rfl rfl, zc rfl rfl, zc rfl rfl, trivial⟩ ⟨oa rfl, trivial⟩) ?_
    refine (SCode.loop (σ := Nat × (Int × Int × Int × (List Int))) (S := fun s => ⟨[(0, .c (.vec a0_l.length 11 (gL cSProfile dSProfile a0_l))), (1, .c (.int .i64 a1_start)), (2, .c (.int .i64 s.2.1)), (3, .c (.int .i64 a3_last)), (9, .c (.int .i64 s.2.2.1)), (10, .c (.int .i64 s.2.2.2.1)), (11, .c (.own 0 s.2.2.2.2.length))], [.arr 3 1 s.2.2.2.2.length (gL (cInt .i64) 0 s.2.2.2.2)]⟩) (g := fun s => compose_next_l48 F a0_l a1_start a3_last s.1 s.2.1 s.2.2.1 s.2.2.2.1 s.2.2.2.2 = some r) (μ := fun s => s.1) (F, (t_1, t_1, c_2, List.replicate (((a0_l).length : Int)).toNat (0 : Int))) h ?_)
    rintro ⟨n_48, ⟨t_27, begin_28, end_29, o0_30⟩⟩ h
    replace h : compose_next_l48 F a0_l a1_start a3_last n_48 t_27 begin_28 end_29 o0_30 = some r := h
    show SCode _ _ _ ⟨[(0, .c (.vec a0_l.length 11 (gL cSProfile dSProfile a0_l))), (1, .c (.int .i64 a1_start)), (2, .c (.int .i64 t_27)), (3, .c (.int .i64 a3_last)), (9, .c (.int .i64 begin_28)), (10, .c (.int .i64 end_29)), (11, .c (.own 0 o0_30.length))], [.arr 3 1 o0_30.length (gL (cInt .i64) 0 o0_30)]⟩ _
    cases n_48 with
    | zero => cases h
    | succ n_48 =>
      replace h : compose_next_b48 F a0_l a1_start a3_last (fun t_27 begin_28 end_29 o0_30 => compose_next_l48 F a0_l a1_start a3_last n_48 t_27 begin_28 end_29 o0_30) t_27 begin_28 end_29 o0_30 = some r := h
      unfold compose_next_b48 at h
      refine SCode.seq ?_
      refine SCode.seq ?_
      refine SCode.region (show SOps _ _ _ [0, 1, 2] _ _ from ?_)
      refine SOps.q rfl (.plain rfl) rfl (q_move rfl rfl) ?_
      refine SOps.q rfl (.plain rfl) rfl (q_move rfl rfl) ?_
      refine SOps.q rfl (.plain rfl) rfl (q_lss rfl rfl rfl) ?_
      refine SOps.sub (st' := ⟨[(0, .c (.vec a0_l.length 11 (gL cSProfile dSProfile a0_l))), (1, .c (.int .i64 a1_start)), (2, .c (.int .i64 t_27)), (3, .c (.int .i64 a3_last)), (9, .c (.int .i64 begin_28)), (10, .c (.int .i64 end_29)), (11, .c (.own 0 o0_30.length)), (36, .c (.bool (decide (t_27 < a3_last))))], [.arr 3 1 o0_30.length (gL (cInt .i64) 0 o0_30)]⟩) (sub_gen [0] rfl rfl ⟨zc rfl rfl, zc rfl rfl, zc rfl rfl, zc rfl rfl, zc rfl rfl, zc rfl rfl, zc rfl rfl, zc rfl rfl, trivial⟩ ⟨oa rfl, trivial⟩) ?_
      refine SOps.nil ?_
      rcases cond_out h with ⟨g49, h⟩ | ⟨g49, h⟩
      · refine SCode.cond_t rfl g49 ?_
        refine SCode.skip ?_
        refine SCode.block ?_
        refine SCode.seq ?_
        obtain ⟨c_50, g51, h⟩ := bind_out h
        try dsimp only at h
        obtain ⟨g52, h⟩ := guard_out h
        refine SCode.region (show SOps _ _ _ [0, 1, 2, 3, 4, 5] _ _ from ?_)
        refine SOps.q rfl (.plain rfl) rfl (q_move rfl rfl) ?_
        refine SOps.q rfl (.plain rfl) rfl (q_move rfl rfl) ?_
        refine SOps.q rfl (.plain rfl) rfl (q_move rfl rfl) ?_
        refine SOps.q rfl (.plain rfl) rfl (q_move rfl rfl) ?_
        refine SOps.e rfl (.plain rfl) (e_call (compose_earliest_ok F a0_l a1_start t_27 o0_30 c_50 g51) [0] rfl fn26 rfl rfl rfl rfl rfl rfl rfl rfl) ?_
        refine SOps.q rfl (.plain rfl) rfl (q_assign rfl rfl) ?_
        refine SOps.sub (st' := ⟨[(0, .c (.vec a0_l.length 11 (gL cSProfile dSProfile a0_l))), (1, .c (.int .i64 a1_start)), (3, .c (.int .i64 a3_last)), (9, .c (.int .i64 begin_28)), (10, .c (.int .i64 end_29)), (11, .c (.own 0 c_50.2.length)), (12, .c (.int .i64 c_50.1))], [.arr 3 1 c_50.2.length (gL (cInt .i64) 0 c_50.2)]⟩) (sub_gen [0] rfl rfl ⟨zc rfl rfl, zc rfl rfl, zc rfl rfl, zc rfl rfl, zc rfl rfl, ⟨_, rfl, .inl ⟨rfl, congrArg (Cell.own 0) g52.symm⟩⟩, zc rfl rfl, trivial⟩ ⟨oa rfl, trivial⟩) ?_
        refine SOps.nil ?_
        refine SCode.join (σ := Int) (S := fun s => ⟨[(0, .c (.vec a0_l.length 11 (gL cSProfile dSProfile a0_l))), (1, .c (.int .i64 a1_start)), (3, .c (.int .i64 a3_last)), (9, .c (.int .i64 begin_28)), (10, .c (.int .i64 end_29)), (11, .c (.own 0 c_50.2.length)), (12, .c (.int .i64 s))], [.arr 3 1 c_50.2.length (gL (cInt .i64) 0 c_50.2)]⟩) (g := fun s => compose_next_p63 F a0_l a1_start a3_last begin_28 end_29 (fun t_27 begin_28 end_29 o0_30 => compose_next_l48 F a0_l a1_start a3_last n_48 t_27 begin_28 end_29 o0_30) c_50 s = some r) ?_ ?_
        rotate_left
        · refine SCode.seq ?_
          rcases cond_out h with ⟨g64, h⟩ | ⟨g64, h⟩
          · refine SCode.region (show SOps _ _ _ [0, 1, 2, 3, 4, 5, 6, 7, 8] _ _ from ?_)
            refine SOps.q rfl (.plain rfl) rfl (q_move rfl rfl) ?_
            refine SOps.q rfl (.plain rfl) rfl (q_move rfl rfl) ?_
            refine SOps.q rfl (.plain rfl) rfl (q_gtr rfl rfl rfl) ?_
            refine SOps.q rfl (.plain rfl) rfl (q_move rfl rfl) ?_
            refine SOps.skip rfl 3 45 false rfl rfl (.inl (gT g64)) rfl ?_
            refine SOps.skip rfl 3 45 false rfl rfl (.inl (gT g64)) rfl ?_
            refine SOps.skip rfl 3 45 false rfl rfl (.inl (gT g64)) rfl ?_
            refine SOps.skip rfl 3 45 false rfl rfl (.inl (gT g64)) rfl ?_
            refine SOps.q rfl (.plain rfl) rfl (q_pick_t rfl rfl g64 rfl) ?_
            refine SOps.sub (st' := ⟨[(0, .c (.vec a0_l.length 11 (gL cSProfile dSProfile a0_l))), (1, .c (.int .i64 a1_start)), (3, .c (.int .i64 a3_last)), (9, .c (.int .i64 begin_28)), (10, .c (.int .i64 end_29)), (11, .c (.own 0 c_50.2.length)), (12, .c (.int .i64 c_50.1)), (50, .c (.bool true))], [.arr 3 1 c_50.2.length (gL (cInt .i64) 0 c_50.2)]⟩) (sub_gen [0] rfl rfl ⟨zc rfl rfl, zc rfl rfl, zc rfl rfl, zc rfl rfl, zc rfl rfl, zc rfl rfl, zc rfl rfl, zc rfl rfl, trivial⟩ ⟨oa rfl, trivial⟩) ?_
            refine SOps.nil ?_
            refine SCode.cond_t rfl rfl ?_
            refine SCode.region (show SOps _ _ _ [0, 1] _ _ from ?_)
            refine SOps.q rfl (.plain rfl) rfl (q_move rfl rfl) ?_
            refine SOps.q rfl (.plain rfl) rfl (q_assign rfl rfl) ?_
            refine SOps.sub (st' := ⟨[(0, .c (.vec a0_l.length 11 (gL cSProfile dSProfile a0_l))), (1, .c (.int .i64 a1_start)), (3, .c (.int .i64 a3_last)), (9, .c (.int .i64 begin_28)), (10, .c (.int .i64 end_29)), (11, .c (.own 0 c_50.2.length)), (12, .c (.int .i64 end_29))], [.arr 3 1 c_50.2.length (gL (cInt .i64) 0 c_50.2)]⟩) (sub_gen [0] rfl rfl ⟨zc rfl rfl, zc rfl rfl, zc rfl rfl, zc rfl rfl, zc rfl rfl, zc rfl rfl, zc rfl rfl, trivial⟩ ⟨oa rfl, trivial⟩) ?_
            refine SOps.nil ?_
            exact ⟨end_29, h, sub_gen [0] rfl rfl ⟨zc rfl rfl, zc rfl rfl, zc rfl rfl, zc rfl rfl, zc rfl rfl, zc rfl rfl, zc rfl rfl, trivial⟩ ⟨oa rfl, trivial⟩⟩
          refine SCode.region (show SOps _ _ _ [0, 1, 2, 3, 4, 5, 6, 7, 8] _ _ from ?_)
          refine SOps.q rfl (.plain rfl) rfl (q_move rfl rfl) ?_
          refine SOps.q rfl (.plain rfl) rfl (q_move rfl rfl) ?_
          refine SOps.q rfl (.plain rfl) rfl (q_gtr rfl rfl rfl) ?_
          refine SOps.q rfl (.plain rfl) rfl (q_move rfl rfl) ?_
          refine SOps.q rfl (.guard 3 45 false rfl rfl (gF g64)) rfl (q_move rfl rfl) ?_
          refine SOps.q rfl (.guard 3 45 false rfl rfl (gF g64)) rfl (q_move rfl rfl) ?_
          refine SOps.q rfl (.guard 3 45 false rfl rfl (gF g64)) rfl (q_sub rfl rfl rfl) ?_
          refine SOps.q rfl (.guard 3 45 false rfl rfl (gF g64)) rfl (q_gtr rfl rfl rfl) ?_
          refine SOps.q rfl (.plain rfl) rfl (q_pick_f rfl rfl g64 rfl) ?_
          refine SOps.sub (st' := ⟨[(0, .c (.vec a0_l.length 11 (gL cSProfile dSProfile a0_l))), (1, .c (.int .i64 a1_start)), (3, .c (.int .i64 a3_last)), (9, .c (.int .i64 begin_28)), (10, .c (.int .i64 end_29)), (11, .c (.own 0 c_50.2.length)), (12, .c (.int .i64 c_50.1)), (50, .c (.bool (decide (10080 < IntKind.wrap .i64 (c_50.1 - begin_28)))))], [.arr 3 1 c_50.2.length (gL (cInt .i64) 0 c_50.2)]⟩) (sub_gen [0] rfl rfl ⟨zc rfl rfl, zc rfl rfl, zc rfl rfl, zc rfl rfl, zc rfl rfl, zc rfl rfl, zc rfl rfl, zc rfl rfl, trivial⟩ ⟨oa rfl, trivial⟩) ?_
          refine SOps.nil ?_
          rcases cond_out h with ⟨g65, h⟩ | ⟨g65, h⟩
          · refine SCode.cond_t rfl g65 ?_
            refine SCode.region (show SOps _ _ _ [0, 1] _ _ from ?_)
            refine SOps.q rfl (.plain rfl) rfl (q_move rfl rfl) ?_
            refine SOps.q rfl (.plain rfl) rfl (q_assign rfl rfl) ?_
            refine SOps.sub (st' := ⟨[(0, .c (.vec a0_l.length 11 (gL cSProfile dSProfile a0_l))), (1, .c (.int .i64 a1_start)), (3, .c (.int .i64 a3_last)), (9, .c (.int .i64 begin_28)), (10, .c (.int .i64 end_29)), (11, .c (.own 0 c_50.2.length)), (12, .c (.int .i64 end_29))], [.arr 3 1 c_50.2.length (gL (cInt .i64) 0 c_50.2)]⟩) (sub_gen [0] rfl rfl ⟨zc rfl rfl, zc rfl rfl, zc rfl rfl, zc rfl rfl, zc rfl rfl, zc rfl rfl, zc rfl rfl, trivial⟩ ⟨oa rfl, trivial⟩) ?_
            refine SOps.nil ?_
            exact ⟨end_29, h, sub_gen [0] rfl rfl ⟨zc rfl rfl, zc rfl rfl, zc rfl rfl, zc rfl rfl, zc rfl rfl, zc rfl rfl, zc rfl rfl, trivial⟩ ⟨oa rfl, trivial⟩⟩
          refine SCode.cond_f rfl g65 ?_
          refine SCode.skip ?_
          exact ⟨c_50.1, h, sub_gen [0] rfl rfl ⟨zc rfl rfl, zc rfl rfl, zc rfl rfl, zc rfl rfl, zc rfl rfl, zc rfl rfl, zc rfl rfl, trivial⟩ ⟨oa rfl, trivial⟩⟩
        rintro c_53 h
        show SCode _ _ _ ⟨[(0, .c (.vec a0_l.length 11 (gL cSProfile dSProfile a0_l))), (1, .c (.int .i64 a1_start)), (3, .c (.int .i64 a3_last)), (9, .c (.int .i64 begin_28)), (10, .c (.int .i64 end_29)), (11, .c (.own 0 c_50.2.length)), (12, .c (.int .i64 c_53))], [.arr 3 1 c_50.2.length (gL (cInt .i64) 0 c_50.2)]⟩ _
        replace h : compose_next_p63 F a0_l a1_start a3_last begin_28 end_29 (fun t_27 begin_28 end_29 o0_30 => compose_next_l48 F a0_l a1_start a3_last n_48 t_27 begin_28 end_29 o0_30) c_50 c_53 = some r := h
        unfold compose_next_p63 at h
        refine SCode.seq ?_
        refine SCode.seq ?_
        refine SCode.region (show SOps _ _ _ [0, 1, 2] _ _ from ?_)
        refine SOps.q rfl (.plain rfl) rfl (q_move rfl rfl) ?_
        refine SOps.q rfl (.plain rfl) rfl (q_move rfl rfl) ?_
        refine SOps.q rfl (.plain rfl) rfl (q_gtr rfl rfl rfl) ?_
        refine SOps.sub (st' := ⟨[(0, .c (.vec a0_l.length 11 (gL cSProfile dSProfile a0_l))), (1, .c (.int .i64 a1_start)), (3, .c (.int .i64 a3_last)), (9, .c (.int .i64 begin_28)), (10, .c (.int .i64 end_29)), (11, .c (.own 0 c_50.2.length)), (12, .c (.int .i64 c_53)), (54, .c (.bool (decide (a3_last < c_53))))], [.arr 3 1 c_50.2.length (gL (cInt .i64) 0 c_50.2)]⟩) (sub_gen [0] rfl rfl ⟨zc rfl rfl, zc rfl rfl, zc rfl rfl, zc rfl rfl, zc rfl rfl, zc rfl rfl, zc rfl rfl, zc rfl rfl, trivial⟩ ⟨oa rfl, trivial⟩) ?_
        refine SOps.nil ?_
        rcases cond_out h with ⟨g54, h⟩ | ⟨g54, h⟩
        · refine SCode.cond_t rfl g54 ?_
          refine SCode.seq ?_
          refine SCode.region (show SOps _ _ _ [0] _ _ from ?_)
          refine SOps.q rfl (.plain rfl) rfl (q_assign rfl rfl) ?_
          refine SOps.sub (st' := ⟨[(8, .c (.int .i64 ((-1))))], []⟩) (sub_gen [] rfl rfl ⟨zc rfl rfl, trivial⟩ trivial) ?_
          refine SOps.nil ?_
          refine SCode.ret ?_
          obtain rfl := Option.some.inj h
          exact ⟨⟨[(8, .c (.int .i64 ((-1))))], []⟩, _, sub_gen [] rfl rfl ⟨zc rfl rfl, trivial⟩ trivial, resA1 (v := .c (.int .i64 ((-1)))) rfl rfl, rfl⟩
        refine SCode.cond_f rfl g54 ?_
        refine SCode.skip ?_
        refine SCode.seq ?_
        refine SCode.seq ?_
        obtain ⟨c_55, g56, h⟩ := bind_out h
        try dsimp only at h
        obtain ⟨c_57, g58, h⟩ := bind_out h
        try dsimp only at h
        refine SCode.region (show SOps _ _ _ [0, 1, 2, 3, 4, 5, 6, 7, 8, 9] _ _ from ?_)
        refine SOps.q rfl (.plain rfl) rfl (q_move rfl rfl) ?_
        refine SOps.q rfl (.plain rfl) rfl (q_move rfl rfl) ?_
        refine SOps.q rfl (.plain rfl) rfl (q_move rfl rfl) ?_
        refine SOps.q rfl (.plain rfl) rfl (q_call (compose_limit_ok F a0_l a1_start c_53 c_55 g56) [] rfl fn18 ⟨⟨_, rfl, .inl ⟨rfl, rfl⟩⟩, ⟨_, rfl, .inl ⟨rfl, rfl⟩⟩, ⟨_, rfl, .inl ⟨rfl, rfl⟩⟩, trivial⟩ (.inl rfl)) ?_
        refine SOps.q rfl (.plain rfl) rfl (q_move rfl rfl) ?_
        refine SOps.q rfl (.plain rfl) rfl (q_move rfl rfl) ?_
        refine SOps.q rfl (.plain rfl) rfl (q_move rfl rfl) ?_
        refine SOps.q rfl (.plain rfl) rfl (q_sub rfl rfl rfl) ?_
        refine SOps.q rfl (.plain rfl) rfl (q_call (compose_limit_ok F a0_l a1_start (IntKind.wrap .i64 (c_53 - 1)) c_57 g58) [] rfl fn18 ⟨⟨_, rfl, .inl ⟨rfl, rfl⟩⟩, ⟨_, rfl, .inl ⟨rfl, rfl⟩⟩, ⟨_, rfl, .inl ⟨rfl, rfl⟩⟩, trivial⟩ (.inl rfl)) ?_
        refine SOps.q rfl (.plain rfl) rfl (q_neq rfl rfl rfl) ?_
        refine SOps.sub (st' := ⟨[(0, .c (.vec a0_l.length 11 (gL cSProfile dSProfile a0_l))), (1, .c (.int .i64 a1_start)), (3, .c (.int .i64 a3_last)), (9, .c (.int .i64 begin_28)), (10, .c (.int .i64 end_29)), (11, .c (.own 0 c_50.2.length)), (12, .c (.int .i64 c_53)), (64, .c (.bool ((!decide (c_55 = c_57)))))], [.arr 3 1 c_50.2.length (gL (cInt .i64) 0 c_50.2)]⟩) (sub_gen [0] rfl rfl ⟨zc rfl rfl, zc rfl rfl, zc rfl rfl, zc rfl rfl, zc rfl rfl, zc rfl rfl, zc rfl rfl, zc rfl rfl, trivial⟩ ⟨oa rfl, trivial⟩) ?_
        refine SOps.nil ?_
        rcases cond_out h with ⟨g59, h⟩ | ⟨g59, h⟩
        · refine SCode.cond_t rfl g59 ?_
          refine SCode.seq ?_
          refine SCode.region (show SOps _ _ _ [0, 1] _ _ from ?_)
          refine SOps.q rfl (.plain rfl) rfl (q_move rfl rfl) ?_
          refine SOps.q rfl (.plain rfl) rfl (q_assign rfl rfl) ?_
          refine SOps.sub (st' := ⟨[(8, .c (.int .i64 c_53))], []⟩) (sub_gen [] rfl rfl ⟨zc rfl rfl, trivial⟩ trivial) ?_
          refine SOps.nil ?_
          refine SCode.ret ?_
          obtain rfl := Option.some.inj h
          exact ⟨⟨[(8, .c (.int .i64 c_53))], []⟩, _, sub_gen [] rfl rfl ⟨zc rfl rfl, trivial⟩ trivial, resA1 (v := .c (.int .i64 c_53)) rfl rfl, rfl⟩
        refine SCode.cond_f rfl g59 ?_
        refine SCode.skip ?_
        refine SCode.seq ?_
        refine SCode.region (show SOps _ _ _ [0, 1] _ _ from ?_)
        refine SOps.q rfl (.plain rfl) rfl (q_move rfl rfl) ?_
        refine SOps.q rfl (.plain rfl) rfl (q_assign rfl rfl) ?_
        refine SOps.sub (st' := ⟨[(0, .c (.vec a0_l.length 11 (gL cSProfile dSProfile a0_l))), (1, .c (.int .i64 a1_start)), (2, .c (.int .i64 c_53)), (3, .c (.int .i64 a3_last)), (9, .c (.int .i64 begin_28)), (10, .c (.int .i64 end_29)), (11, .c (.own 0 c_50.2.length)), (12, .c (.int .i64 c_53))], [.arr 3 1 c_50.2.length (gL (cInt .i64) 0 c_50.2)]⟩) (sub_gen [0] rfl rfl ⟨zc rfl rfl, zc rfl rfl, zc rfl rfl, zc rfl rfl, zc rfl rfl, zc rfl rfl, zc rfl rfl, zc rfl rfl, trivial⟩ ⟨oa rfl, trivial⟩) ?_
        refine SOps.nil ?_
        refine SCode.seq ?_
        refine SCode.region (show SOps _ _ _ [0, 1, 2] _ _ from ?_)
        refine SOps.q rfl (.plain rfl) rfl (q_move rfl rfl) ?_
        refine SOps.q rfl (.plain rfl) rfl (q_move rfl rfl) ?_
        refine SOps.q rfl (.plain rfl) rfl (q_eql rfl rfl rfl) ?_
        refine SOps.sub (st' := ⟨[(0, .c (.vec a0_l.length 11 (gL cSProfile dSProfile a0_l))), (1, .c (.int .i64 a1_start)), (2, .c (.int .i64 c_53)), (3, .c (.int .i64 a3_last)), (9, .c (.int .i64 begin_28)), (10, .c (.int .i64 end_29)), (11, .c (.own 0 c_50.2.length)), (12, .c (.int .i64 c_53)), (69, .c (.bool (decide (c_53 = end_29))))], [.arr 3 1 c_50.2.length (gL (cInt .i64) 0 c_50.2)]⟩) (sub_gen [0] rfl rfl ⟨zc rfl rfl, zc rfl rfl, zc rfl rfl, zc rfl rfl, zc rfl rfl, zc rfl rfl, zc rfl rfl, zc rfl rfl, zc rfl rfl, trivial⟩ ⟨oa rfl, trivial⟩) ?_
        refine SOps.nil ?_
        rcases cond_out h with ⟨g60, h⟩ | ⟨g60, h⟩
        · refine SCode.cond_t rfl g60 ?_
          obtain ⟨c_61, g62, h⟩ := bind_out h
          try dsimp only at h
          refine SCode.region (show SOps _ _ _ [0, 1, 2, 3, 4, 5, 6] _ _ from ?_)
          refine SOps.q rfl (.plain rfl) rfl (q_move rfl rfl) ?_
          refine SOps.q rfl (.plain rfl) rfl (q_move rfl rfl) ?_
          refine SOps.q rfl (.plain rfl) rfl (q_move rfl rfl) ?_
          refine SOps.q rfl (.plain rfl) rfl (q_move rfl rfl) ?_
          refine SOps.q rfl (.plain rfl) rfl (q_call (compose_pause_ok F a0_l a1_start c_53 c_61 g62) [] rfl fn25 ⟨⟨_, rfl, .inl ⟨rfl, rfl⟩⟩, ⟨_, rfl, .inl ⟨rfl, rfl⟩⟩, ⟨_, rfl, .inl ⟨rfl, rfl⟩⟩, trivial⟩ (.inl rfl)) ?_
          refine SOps.q rfl (.plain rfl) rfl (q_assign rfl rfl) ?_
          refine SOps.q rfl (.plain rfl) rfl (q_assign rfl rfl) ?_
          refine SOps.sub (st' := ⟨[(0, .c (.vec a0_l.length 11 (gL cSProfile dSProfile a0_l))), (1, .c (.int .i64 a1_start)), (2, .c (.int .i64 c_53)), (3, .c (.int .i64 a3_last)), (9, .c (.int .i64 c_53)), (10, .c (.int .i64 c_61)), (11, .c (.own 0 c_50.2.length))], [.arr 3 1 c_50.2.length (gL (cInt .i64) 0 c_50.2)]⟩) (sub_gen [0] rfl rfl ⟨zc rfl rfl, zc rfl rfl, zc rfl rfl, zc rfl rfl, zc rfl rfl, zc rfl rfl, zc rfl rfl, trivial⟩ ⟨oa rfl, trivial⟩) ?_
          refine SOps.nil ?_
          exact ⟨(n_48, (c_53, c_53, c_61, c_50.2)), h, Nat.lt_succ_self n_48, sub_gen [0] rfl rfl ⟨zc rfl rfl, zc rfl rfl, zc rfl rfl, zc rfl rfl, zc rfl rfl, zc rfl rfl, zc rfl rfl, trivial⟩ ⟨oa rfl, trivial⟩⟩
        refine SCode.cond_f rfl g60 ?_
        refine SCode.skip ?_
        exact ⟨(n_48, (c_53, begin_28, end_29, c_50.2)), h, Nat.lt_succ_self n_48, sub_gen [0] rfl rfl ⟨zc rfl rfl, zc rfl rfl, zc rfl rfl, zc rfl rfl, zc rfl rfl, zc rfl rfl, zc rfl rfl, trivial⟩ ⟨oa rfl, trivial⟩⟩
      refine SCode.cond_f rfl g49 ?_
      refine SCode.exit ?_
      exact ⟨(), h, sub_gen [] rfl rfl trivial trivial⟩
  rintro ⟨⟩ h
  show SCode _ _ _ ⟨[], []⟩ _
  replace h : compose_next_p5 = some r := h
  unfold compose_next_p5 at h
  refine SCode.seq ?_
  refine SCode.region (show SOps _ _ _ [0] _ _ from ?_)
  refine SOps.q rfl (.plain rfl) rfl (q_assign rfl rfl) ?_
  refine SOps.sub (st' := ⟨[(8, .c (.int .i64 ((-1))))], []⟩) (sub_gen [] rfl rfl ⟨zc rfl rfl, trivial⟩ trivial) ?_
  refine SOps.nil ?_
  refine SCode.ret ?_
  obtain rfl := Option.some.inj h
  exact ⟨⟨[(8, .c (.int .i64 ((-1))))], []⟩, _, sub_gen [] rfl rfl ⟨zc rfl rfl, trivial⟩ trivial, resA1 (v := .c (.int .i64 ((-1)))) rfl rfl, rfl⟩
end Go.Proofs.Ytfbkimhoncfnmaa.W
