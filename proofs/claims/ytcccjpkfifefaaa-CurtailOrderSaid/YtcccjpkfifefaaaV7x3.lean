/- Written by a program of ours (wip/eng/gen.py): the functions compute their models. -/
import Derived.Test.YtcccjpkfifefaaaFacts
import Derived.Test.YtcccjpkfifefaaaV7x2
namespace Go.Proofs.Ytcccjpkfifefaaa.W
open Go Go.Proofs Go.Proofs.Ytcccjpkfifefaaa.E Go.Proofs.Ytcccjpkfifefaaa.M
set_option linter.unusedVariables false
set_option maxRecDepth 100000 in
set_option maxHeartbeats 8000000 in
theorem curtail_differs_ok (F : Nat) (a0_l : List SCurtail) (a1_t : Int) (r : Bool) (h : curtail_differs F a0_l a1_t = some r) :
    SFun Try.prog 29 [] [.c (.vec a0_l.length 7 (gL cSCurtail dSCurtail a0_l)), .c (.int .i64 a1_t)] (fun x _ => x = .c (.bool r)) := by
  refine SFun.of (n := 38) Try.func29 rfl rfl rfl ?_
  unfold curtail_differs at h
  show SCode _ _ _ ⟨[(0, .c (.vec a0_l.length 7 (gL cSCurtail dSCurtail a0_l))), (1, .c (.int .i64 a1_t))], []⟩ _
  refine SCode.seq ?_
  refine SCode.region (show SOps _ _ _ [0] _ _ from ?_)
  refine SOps.q rfl (.plain rfl) rfl (q_assign rfl rfl) ?_
  refine SOps.sub (st' := ⟨[(0, .c (.vec a0_l.length 7 (gL cSCurtail dSCurtail a0_l))), (1, .c (.int .i64 a1_t))], []⟩) (sub_gen [] rfl rfl ⟨zc rfl rfl, zc rfl rfl, trivial⟩ trivial) ?_
  refine SOps.nil ?_
  refine SCode.join (σ := Unit) (S := fun s => ⟨[], []⟩) (g := fun s => curtail_differs_p1 = some r) ?_ ?_
  rotate_left
  · refine SCode.seq ?_
    refine SCode.region (show SOps _ _ _ [0, 1, 2] _ _ from ?_)
    refine SOps.q rfl (.plain rfl) rfl (q_move rfl rfl) ?_
    refine SOps.q rfl (.plain rfl) rfl (q_len_vec rfl rfl sl34) ?_
    refine SOps.q rfl (.plain rfl) rfl (q_move rfl rfl) ?_
    refine SOps.sub (st' := ⟨[(0, .c (.vec a0_l.length 7 (gL cSCurtail dSCurtail a0_l))), (1, .c (.int .i64 a1_t)), (7, .c (.vec a0_l.length 7 (gL cSCurtail dSCurtail a0_l))), (8, .c (.int .i64 (((a0_l).length : Int)))), (9, .c (.int .i64 0))], []⟩) (sub_gen [] rfl rfl ⟨zc rfl rfl, zc rfl rfl, zc rfl rfl, zc rfl rfl, zc rfl rfl, trivial⟩ trivial) ?_
    refine SOps.nil ?_
    refine SCode.block ?_
    refine SCode.sub (st' := ⟨[(0, .c (.vec a0_l.length 7 (gL cSCurtail dSCurtail a0_l))), (1, .c (.int .i64 a1_t)), (7, .c (.vec a0_l.length 7 (gL cSCurtail dSCurtail a0_l))), (8, .c (.int .i64 (((a0_l).length : Int)))), (9, .c (.int .i64 0))], []⟩) (sub_gen [] rfl rfl ⟨zc rfl rfl, zc rfl rfl, zc rfl rfl, zc rfl rfl, zc rfl rfl, trivial⟩ trivial) ?_
    refine (SCode.loop (σ := Nat × Int) (S := fun s => ⟨[(0, .c (.vec a0_l.length 7 (gL cSCurtail dSCurtail a0_l))), (1, .c (.int .i64 a1_t)), (7, .c (.vec a0_l.length 7 (gL cSCurtail dSCurtail a0_l))), (8, .c (.int .i64 (((a0_l).length : Int)))), (9, .c (.int .i64 s.2))], []⟩) (g := fun s => curtail_differs_l25 F a0_l a1_t s.1 s.2 = some r) (μ := fun s => s.1) (F, 0) h ?_)
    rintro ⟨n_25, t9_13⟩ h
    replace h : curtail_differs_l25 F a0_l a1_t n_25 t9_13 = some r := h
    show SCode _ _ _ ⟨[(0, .c (.vec a0_l.length 7 (gL cSCurtail dSCurtail a0_l))), (1, .c (.int .i64 a1_t)), (7, .c (.vec a0_l.length 7 (gL cSCurtail dSCurtail a0_l))), (8, .c (.int .i64 (((a0_l).length : Int)))), (9, .c (.int .i64 t9_13))], []⟩ _
    cases n_25 with
    | zero => cases h
    | succ n_25 =>
      replace h : curtail_differs_b25 F a0_l a1_t (fun t9_13 => curtail_differs_l25 F a0_l a1_t n_25 t9_13) t9_13 = some r := h
      unfold curtail_differs_b25 at h
      refine SCode.seq ?_
      refine SCode.region (show SOps _ _ _ [0] _ _ from ?_)
      refine SOps.q rfl (.plain rfl) rfl (q_lss rfl rfl rfl) ?_
      refine SOps.sub (st' := ⟨[(0, .c (.vec a0_l.length 7 (gL cSCurtail dSCurtail a0_l))), (1, .c (.int .i64 a1_t)), (7, .c (.vec a0_l.length 7 (gL cSCurtail dSCurtail a0_l))), (8, .c (.int .i64 (((a0_l).length : Int)))), (9, .c (.int .i64 t9_13)), (10, .c (.bool (decide (t9_13 < ((a0_l).length : Int)))))], []⟩) (sub_gen [] rfl rfl ⟨zc rfl rfl, zc rfl rfl, zc rfl rfl, zc rfl rfl, zc rfl rfl, zc rfl rfl, trivial⟩ trivial) ?_
      refine SOps.nil ?_
      refine SCode.seq ?_
      rcases cond_out h with ⟨g26, h⟩ | ⟨g26, h⟩
      · refine SCode.cond_t rfl g26 ?_
        refine SCode.skip ?_
        refine SCode.join (σ := Unit) (S := fun s => ⟨[(0, .c (.vec a0_l.length 7 (gL cSCurtail dSCurtail a0_l))), (1, .c (.int .i64 a1_t)), (7, .c (.vec a0_l.length 7 (gL cSCurtail dSCurtail a0_l))), (8, .c (.int .i64 (((a0_l).length : Int)))), (9, .c (.int .i64 t9_13))], []⟩) (g := fun s => curtail_differs_p27 t9_13 (fun t9_13 => curtail_differs_l25 F a0_l a1_t n_25 t9_13) = some r) ?_ ?_
        rotate_left
        · refine SCode.block ?_
          refine SCode.seq ?_
          obtain ⟨g28, h⟩ := guard_out h
          refine SCode.region (show SOps _ _ _ [0, 1, 2, 3] _ _ from ?_)
          refine SOps.q rfl (.plain rfl) rfl (q_index_vec rfl rfl rfl sl34 rfl g28.1 g28.2) ?_
          refine SOps.q rfl (.plain rfl) rfl (q_load_eptr_all rfl rfl rfl ty25) ?_
          refine SOps.e rfl (.plain rfl) (e_alloc rfl rfl rfl z25) ?_
          refine SOps.e rfl (.plain rfl) (e_store_box rfl rfl rfl rfl rfl ty25 rfl rfl rfl rfl) ?_
          refine SOps.sub (st' := ⟨[(0, .c (.vec a0_l.length 7 (gL cSCurtail dSCurtail a0_l))), (1, .c (.int .i64 a1_t)), (6, .c (.ptr 0 0)), (7, .c (.vec a0_l.length 7 (gL cSCurtail dSCurtail a0_l))), (8, .c (.int .i64 (((a0_l).length : Int)))), (9, .c (.int .i64 t9_13))], [.box [.str ((a0_l.getD t9_13.toNat dSCurtail).Name), .int .i64 ((a0_l.getD t9_13.toNat dSCurtail).Version), .int .i64 ((a0_l.getD t9_13.toNat dSCurtail).Feeder), .int .i64 ((a0_l.getD t9_13.toNat dSCurtail).Span_From), .int .i64 ((a0_l.getD t9_13.toNat dSCurtail).Span_To), .int .i64 ((a0_l.getD t9_13.toNat dSCurtail).Total), .bool ((a0_l.getD t9_13.toNat dSCurtail).Cancelled)]]⟩) (sub_gen [0] rfl rfl ⟨zc rfl rfl, zc rfl rfl, zc rfl rfl, zc rfl rfl, zc rfl rfl, zc rfl rfl, trivial⟩ ⟨⟨_, rfl, ⟨ii rfl rfl, ii rfl rfl, ii rfl rfl, ii rfl rfl, ii rfl rfl, ii rfl rfl, ii rfl rfl, trivial⟩⟩, trivial⟩) ?_
          refine SOps.nil ?_
          refine SCode.join (σ := Unit) (S := fun s => ⟨[(0, .c (.vec a0_l.length 7 (gL cSCurtail dSCurtail a0_l))), (1, .c (.int .i64 a1_t)), (6, .c (.ptr 0 0)), (7, .c (.vec a0_l.length 7 (gL cSCurtail dSCurtail a0_l))), (8, .c (.int .i64 (((a0_l).length : Int)))), (9, .c (.int .i64 t9_13))], [.box [.str ((a0_l.getD t9_13.toNat dSCurtail).Name), .int .i64 ((a0_l.getD t9_13.toNat dSCurtail).Version), .int .i64 ((a0_l.getD t9_13.toNat dSCurtail).Feeder), .int .i64 ((a0_l.getD t9_13.toNat dSCurtail).Span_From), .int .i64 ((a0_l.getD t9_13.toNat dSCurtail).Span_To), .int .i64 ((a0_l.getD t9_13.toNat dSCurtail).Total), .bool ((a0_l.getD t9_13.toNat dSCurtail).Cancelled)]]⟩) (g := fun s => curtail_differs_p34 F a0_l a1_t t9_13 (fun t9_13 => curtail_differs_l25 F a0_l a1_t n_25 t9_13) = some r) ?_ ?_
          rotate_left
          · refine SCode.seq ?_
            rcases cond_out h with ⟨g35, h⟩ | ⟨g35, h⟩
            · refine SCode.region (show SOps _ _ _ [0, 1, 2, 3, 4, 5, 6, 7, 8, 9, 10, 11] _ _ from ?_)
              refine SOps.q rfl (.plain rfl) rfl (q_field_ptr rfl rfl fd25_3) ?_
              refine SOps.q rfl (.plain rfl) rfl (q_field_ptr rfl rfl fd23_0) ?_
              refine SOps.q rfl (.plain rfl) rfl (q_load_ptr rfl rfl rfl rfl ty3) ?_
              refine SOps.q rfl (.plain rfl) rfl (q_move rfl rfl) ?_
              refine SOps.q rfl (.plain rfl) rfl (q_neq rfl rfl rfl) ?_
              refine SOps.q rfl (.plain rfl) rfl (q_move rfl rfl) ?_
              refine SOps.q rfl (.guard 5 18 true rfl rfl (gT g35)) rfl (q_field_ptr rfl rfl fd25_3) ?_
              refine SOps.q rfl (.guard 5 18 true rfl rfl (gT g35)) rfl (q_field_ptr rfl rfl fd23_1) ?_
              refine SOps.q rfl (.guard 5 18 true rfl rfl (gT g35)) rfl (q_load_ptr rfl rfl rfl rfl ty3) ?_
              refine SOps.q rfl (.guard 5 18 true rfl rfl (gT g35)) rfl (q_move rfl rfl) ?_
              refine SOps.q rfl (.guard 5 18 true rfl rfl (gT g35)) rfl (q_neq rfl rfl rfl) ?_
              refine SOps.q rfl (.plain rfl) rfl (q_pick_t rfl rfl g35 rfl) ?_
              refine SOps.sub (st' := ⟨[(0, .c (.vec a0_l.length 7 (gL cSCurtail dSCurtail a0_l))), (1, .c (.int .i64 a1_t)), (6, .c (.ptr 0 0)), (7, .c (.vec a0_l.length 7 (gL cSCurtail dSCurtail a0_l))), (8, .c (.int .i64 (((a0_l).length : Int)))), (9, .c (.int .i64 t9_13)), (24, .c (.bool ((!decide ((a0_l.getD t9_13.toNat dSCurtail).Span_To = a1_t)))))], [.box [.str ((a0_l.getD t9_13.toNat dSCurtail).Name), .int .i64 ((a0_l.getD t9_13.toNat dSCurtail).Version), .int .i64 ((a0_l.getD t9_13.toNat dSCurtail).Feeder), .int .i64 ((a0_l.getD t9_13.toNat dSCurtail).Span_From), .int .i64 ((a0_l.getD t9_13.toNat dSCurtail).Span_To), .int .i64 ((a0_l.getD t9_13.toNat dSCurtail).Total), .bool ((a0_l.getD t9_13.toNat dSCurtail).Cancelled)]]⟩) (sub_gen [0] rfl rfl ⟨zc rfl rfl, zc rfl rfl, zc rfl rfl, zc rfl rfl, zc rfl rfl, zc rfl rfl, zc rfl rfl, trivial⟩ ⟨⟨_, rfl, ⟨ii rfl rfl, ii rfl rfl, ii rfl rfl, ii rfl rfl, ii rfl rfl, ii rfl rfl, ii rfl rfl, trivial⟩⟩, trivial⟩) ?_
              refine SOps.nil ?_
              rcases cond_out h with ⟨g36, h⟩ | ⟨g36, h⟩
              · refine SCode.cond_t rfl g36 ?_
                refine SCode.exit ?_
                exact ⟨(), h, sub_gen [] rfl rfl ⟨zc rfl rfl, zc rfl rfl, zc rfl rfl, zc rfl rfl, zc rfl rfl, trivial⟩ trivial⟩
              refine SCode.cond_f rfl g36 ?_
              refine SCode.skip ?_
              exact ⟨(), h, sub_gen [0] rfl rfl ⟨zc rfl rfl, zc rfl rfl, zc rfl rfl, zc rfl rfl, zc rfl rfl, zc rfl rfl, trivial⟩ ⟨⟨_, rfl, ⟨ii rfl rfl, ii rfl rfl, ii rfl rfl, ii rfl rfl, ii rfl rfl, ii rfl rfl, ii rfl rfl, trivial⟩⟩, trivial⟩⟩
            refine SCode.region (show SOps _ _ _ [0, 1, 2, 3, 4, 5, 6, 7, 8, 9, 10, 11] _ _ from ?_)
            refine SOps.q rfl (.plain rfl) rfl (q_field_ptr rfl rfl fd25_3) ?_
            refine SOps.q rfl (.plain rfl) rfl (q_field_ptr rfl rfl fd23_0) ?_
            refine SOps.q rfl (.plain rfl) rfl (q_load_ptr rfl rfl rfl rfl ty3) ?_
            refine SOps.q rfl (.plain rfl) rfl (q_move rfl rfl) ?_
            refine SOps.q rfl (.plain rfl) rfl (q_neq rfl rfl rfl) ?_
            refine SOps.q rfl (.plain rfl) rfl (q_move rfl rfl) ?_
            refine SOps.skip rfl 5 18 true rfl rfl (.inl (gF g35)) rfl ?_
            refine SOps.skip rfl 5 18 true rfl rfl (.inl (gF g35)) rfl ?_
            refine SOps.skip rfl 5 18 true rfl rfl (.inl (gF g35)) rfl ?_
            refine SOps.skip rfl 5 18 true rfl rfl (.inl (gF g35)) rfl ?_
            refine SOps.skip rfl 5 18 true rfl rfl (.inl (gF g35)) rfl ?_
            refine SOps.q rfl (.plain rfl) rfl (q_pick_f rfl rfl g35 rfl) ?_
            refine SOps.sub (st' := ⟨[(0, .c (.vec a0_l.length 7 (gL cSCurtail dSCurtail a0_l))), (1, .c (.int .i64 a1_t)), (6, .c (.ptr 0 0)), (7, .c (.vec a0_l.length 7 (gL cSCurtail dSCurtail a0_l))), (8, .c (.int .i64 (((a0_l).length : Int)))), (9, .c (.int .i64 t9_13)), (24, .c (.bool false))], [.box [.str ((a0_l.getD t9_13.toNat dSCurtail).Name), .int .i64 ((a0_l.getD t9_13.toNat dSCurtail).Version), .int .i64 ((a0_l.getD t9_13.toNat dSCurtail).Feeder), .int .i64 ((a0_l.getD t9_13.toNat dSCurtail).Span_From), .int .i64 ((a0_l.getD t9_13.toNat dSCurtail).Span_To), .int .i64 ((a0_l.getD t9_13.toNat dSCurtail).Total), .bool ((a0_l.getD t9_13.toNat dSCurtail).Cancelled)]]⟩) (sub_gen [0] rfl rfl ⟨zc rfl rfl, zc rfl rfl, zc rfl rfl, zc rfl rfl, zc rfl rfl, zc rfl rfl, zc rfl rfl, trivial⟩ ⟨⟨_, rfl, ⟨ii rfl rfl, ii rfl rfl, ii rfl rfl, ii rfl rfl, ii rfl rfl, ii rfl rfl, ii rfl rfl, trivial⟩⟩, trivial⟩) ?_
            refine SOps.nil ?_
            refine SCode.cond_f rfl rfl ?_
            refine SCode.skip ?_
            exact ⟨(), h, sub_gen [0] rfl rfl ⟨zc rfl rfl, zc rfl rfl, zc rfl rfl, zc rfl rfl, zc rfl rfl, zc rfl rfl, trivial⟩ ⟨⟨_, rfl, ⟨ii rfl rfl, ii rfl rfl, ii rfl rfl, ii rfl rfl, ii rfl rfl, ii rfl rfl, ii rfl rfl, trivial⟩⟩, trivial⟩⟩
          rintro ⟨⟩ h
          show SCode _ _ _ ⟨[(0, .c (.vec a0_l.length 7 (gL cSCurtail dSCurtail a0_l))), (1, .c (.int .i64 a1_t)), (6, .c (.ptr 0 0)), (7, .c (.vec a0_l.length 7 (gL cSCurtail dSCurtail a0_l))), (8, .c (.int .i64 (((a0_l).length : Int)))), (9, .c (.int .i64 t9_13))], [.box [.str ((a0_l.getD t9_13.toNat dSCurtail).Name), .int .i64 ((a0_l.getD t9_13.toNat dSCurtail).Version), .int .i64 ((a0_l.getD t9_13.toNat dSCurtail).Feeder), .int .i64 ((a0_l.getD t9_13.toNat dSCurtail).Span_From), .int .i64 ((a0_l.getD t9_13.toNat dSCurtail).Span_To), .int .i64 ((a0_l.getD t9_13.toNat dSCurtail).Total), .bool ((a0_l.getD t9_13.toNat dSCurtail).Cancelled)]]⟩ _
          replace h : curtail_differs_p34 F a0_l a1_t t9_13 (fun t9_13 => curtail_differs_l25 F a0_l a1_t n_25 t9_13) = some r := h
          unfold curtail_differs_p34 at h
          refine SCode.seq ?_
          obtain ⟨c_29, g30, h⟩ := bind_out h
          try dsimp only at h
          obtain ⟨c_31, g32, h⟩ := bind_out h
          try dsimp only at h
          refine SCode.draw (s' := [(36, .c (.bool ((!decide (c_29 = c_31))))), (35, .c (.int .i64 c_31)), (34, .c (.int .i64 (IntKind.wrap .i64 (a1_t - 1)))), (33, .c (.int .i64 a1_t)), (32, .c (.int .i64 ((a0_l.getD t9_13.toNat dSCurtail).Feeder))), (31, .c (.ptr 0 2)), (30, .c (.vec a0_l.length 7 (gL cSCurtail dSCurtail a0_l))), (29, .c (.int .i64 c_29)), (28, .c (.int .i64 a1_t)), (27, .c (.int .i64 ((a0_l.getD t9_13.toNat dSCurtail).Feeder))), (26, .c (.ptr 0 2)), (25, .c (.vec a0_l.length 7 (gL cSCurtail dSCurtail a0_l))), (0, .c (.vec a0_l.length 7 (gL cSCurtail dSCurtail a0_l))), (1, .c (.int .i64 a1_t)), (6, .c (.ptr 0 0)), (7, .c (.vec a0_l.length 7 (gL cSCurtail dSCurtail a0_l))), (8, .c (.int .i64 (((a0_l).length : Int)))), (9, .c (.int .i64 t9_13))]) mixed [[], [], [1], [], [0, 1, 2, 3], [], [], [6], [], [8], [0, 1, 2, 3, 4, 5, 6, 7, 8, 9], [0, 1, 2, 3, 4, 5, 6, 7, 8, 9, 10]] 12 0 rfl rfl ?_ ?_
          · refine QChain.run rfl (.plain rfl) rfl (q_move rfl rfl) ?_
            refine QChain.run rfl (.plain rfl) rfl (q_field_ptr rfl rfl fd25_2) ?_
            refine QChain.run rfl (.plain rfl) rfl (q_load_ptr rfl rfl rfl rfl ty3) ?_
            refine QChain.run rfl (.plain rfl) rfl (q_move rfl rfl) ?_
            refine QChain.run rfl (.plain rfl) rfl (q_call (curtail_At_ok F a0_l ((a0_l.getD t9_13.toNat dSCurtail).Feeder) a1_t c_29 g30) [] rfl fn16 ⟨⟨_, rfl, .inl ⟨rfl, rfl⟩⟩, ⟨_, rfl, .inl ⟨rfl, rfl⟩⟩, ⟨_, rfl, .inl ⟨rfl, rfl⟩⟩, trivial⟩ (.inl rfl)) ?_
            refine QChain.run rfl (.plain rfl) rfl (q_move rfl rfl) ?_
            refine QChain.run rfl (.plain rfl) rfl (q_field_ptr rfl rfl fd25_2) ?_
            refine QChain.run rfl (.plain rfl) rfl (q_load_ptr rfl rfl rfl rfl ty3) ?_
            refine QChain.run rfl (.plain rfl) rfl (q_move rfl rfl) ?_
            refine QChain.run rfl (.plain rfl) rfl (q_sub rfl rfl rfl) ?_
            refine QChain.run rfl (.plain rfl) rfl (q_call (curtail_At_ok F a0_l ((a0_l.getD t9_13.toNat dSCurtail).Feeder) (IntKind.wrap .i64 (a1_t - 1)) c_31 g32) [] rfl fn16 ⟨⟨_, rfl, .inl ⟨rfl, rfl⟩⟩, ⟨_, rfl, .inl ⟨rfl, rfl⟩⟩, ⟨_, rfl, .inl ⟨rfl, rfl⟩⟩, trivial⟩ (.inl rfl)) ?_
            refine QChain.run rfl (.plain rfl) rfl (q_neq rfl rfl rfl) ?_
            exact QChain.nil _ _
          refine (show SOps _ _ _ [] _ _ from ?_)
          refine SOps.sub (st' := ⟨[(0, .c (.vec a0_l.length 7 (gL cSCurtail dSCurtail a0_l))), (1, .c (.int .i64 a1_t)), (7, .c (.vec a0_l.length 7 (gL cSCurtail dSCurtail a0_l))), (8, .c (.int .i64 (((a0_l).length : Int)))), (9, .c (.int .i64 t9_13)), (36, .c (.bool ((!decide (c_29 = c_31)))))], []⟩) (sub_gen [] rfl rfl ⟨zc rfl rfl, zc rfl rfl, zc rfl rfl, zc rfl rfl, zc rfl rfl, zc rfl rfl, trivial⟩ trivial) ?_
          refine SOps.nil ?_
          rcases cond_out h with ⟨g33, h⟩ | ⟨g33, h⟩
          · refine SCode.cond_t rfl g33 ?_
            refine SCode.seq ?_
            refine SCode.region (show SOps _ _ _ [0] _ _ from ?_)
            refine SOps.q rfl (.plain rfl) rfl (q_assign rfl rfl) ?_
            refine SOps.sub (st' := ⟨[(4, .c (.bool true))], []⟩) (sub_gen [] rfl rfl ⟨zc rfl rfl, trivial⟩ trivial) ?_
            refine SOps.nil ?_
            refine SCode.ret ?_
            obtain rfl := Option.some.inj h
            exact ⟨⟨[(4, .c (.bool true))], []⟩, _, sub_gen [] rfl rfl ⟨zc rfl rfl, trivial⟩ trivial, resA1 (v := .c (.bool true)) rfl rfl, rfl⟩
          refine SCode.cond_f rfl g33 ?_
          refine SCode.skip ?_
          exact ⟨(), h, sub_gen [] rfl rfl ⟨zc rfl rfl, zc rfl rfl, zc rfl rfl, zc rfl rfl, zc rfl rfl, trivial⟩ trivial⟩
        rintro ⟨⟩ h
        show SCode _ _ _ ⟨[(0, .c (.vec a0_l.length 7 (gL cSCurtail dSCurtail a0_l))), (1, .c (.int .i64 a1_t)), (7, .c (.vec a0_l.length 7 (gL cSCurtail dSCurtail a0_l))), (8, .c (.int .i64 (((a0_l).length : Int)))), (9, .c (.int .i64 t9_13))], []⟩ _
        replace h : curtail_differs_p27 t9_13 (fun t9_13 => curtail_differs_l25 F a0_l a1_t n_25 t9_13) = some r := h
        unfold curtail_differs_p27 at h
        refine SCode.region (show SOps _ _ _ [0, 1] _ _ from ?_)
        refine SOps.q rfl (.plain rfl) rfl (q_add rfl rfl rfl) ?_
        refine SOps.q rfl (.plain rfl) rfl (q_move rfl rfl) ?_
        refine SOps.sub (st' := ⟨[(0, .c (.vec a0_l.length 7 (gL cSCurtail dSCurtail a0_l))), (1, .c (.int .i64 a1_t)), (7, .c (.vec a0_l.length 7 (gL cSCurtail dSCurtail a0_l))), (8, .c (.int .i64 (((a0_l).length : Int)))), (9, .c (.int .i64 (IntKind.wrap .i64 (t9_13 + 1))))], []⟩) (sub_gen [] rfl rfl ⟨zc rfl rfl, zc rfl rfl, zc rfl rfl, zc rfl rfl, zc rfl rfl, trivial⟩ trivial) ?_
        refine SOps.nil ?_
        exact ⟨(n_25, IntKind.wrap .i64 (t9_13 + 1)), h, Nat.lt_succ_self n_25, sub_gen [] rfl rfl ⟨zc rfl rfl, zc rfl rfl, zc rfl rfl, zc rfl rfl, zc rfl rfl, trivial⟩ trivial⟩
      refine SCode.cond_f rfl g26 ?_
      refine SCode.exit ?_
      exact ⟨(), h, sub_gen [] rfl rfl trivial trivial⟩
  rintro ⟨⟩ h
  show SCode _ _ _ ⟨[], []⟩ _
  replace h : curtail_differs_p1 = some r := h
  unfold curtail_differs_p1 at h
  refine SCode.seq ?_
  refine SCode.region (show SOps _ _ _ [0] _ _ from ?_)
  refine SOps.q rfl (.plain rfl) rfl (q_assign rfl rfl) ?_
  refine SOps.sub (st' := ⟨[(4, .c (.bool false))], []⟩) (sub_gen [] rfl rfl ⟨zc rfl rfl, trivial⟩ trivial) ?_
  refine SOps.nil ?_
  refine SCode.ret ?_
  obtain rfl := Option.some.inj h
  exact ⟨⟨[(4, .c (.bool false))], []⟩, _, sub_gen [] rfl rfl ⟨zc rfl rfl, trivial⟩ trivial, resA1 (v := .c (.bool false)) rfl rfl, rfl⟩
set_option maxRecDepth 100000 in
set_option maxHeartbeats 8000000 in
theorem curtail_Next_ok (F : Nat) (a0_l : List SCurtail) (a1_t : Int) (r : Int) (h : curtail_Next F a0_l a1_t = some r) :
    SFun Try.prog 18 [] [.c (.vec a0_l.length 7 (gL cSCurtail dSCurtail a0_l)), .c (.int .i64 a1_t)] (fun x _ => x = .c (.int .i64 r)) := by
  refine SFun.of (n := 56) Try.func18 rfl rfl rfl ?_
  unfold curtail_Next at h
  show SCode _ _ _ ⟨[(0, .c (.vec a0_l.length 7 (gL cSCurtail dSCurtail a0_l))), (1, .c (.int .i64 a1_t))], []⟩ _
  refine SCode.seq ?_
  refine SCode.region (show SOps _ _ _ [0] _ _ from ?_)
  refine SOps.q rfl (.plain rfl) rfl (q_assign rfl rfl) ?_
  refine SOps.sub (st' := ⟨[(0, .c (.vec a0_l.length 7 (gL cSCurtail dSCurtail a0_l))), (1, .c (.int .i64 a1_t))], []⟩) (sub_gen [] rfl rfl ⟨zc rfl rfl, zc rfl rfl, trivial⟩ trivial) ?_
  refine SOps.nil ?_
  refine SCode.seq ?_
  refine SCode.region (show SOps _ _ _ [0] _ _ from ?_)
  refine SOps.q rfl (.plain rfl) rfl (q_assign rfl rfl) ?_
  refine SOps.nilArrL (T := 3) (k := 1) (cInt .i64) 0 (s := 5) rfl rfl ?_
  refine SOps.sub (st' := ⟨[(0, .c (.vec a0_l.length 7 (gL cSCurtail dSCurtail a0_l))), (1, .c (.int .i64 a1_t)), (5, .c (.own 0 (([] : List Int)).length))], [.arr 3 1 (([] : List Int)).length (gL (cInt .i64) 0 (([] : List Int)))]⟩) (sub_gen [0] rfl rfl ⟨zc rfl rfl, zc rfl rfl, zc rfl rfl, trivial⟩ ⟨oa rfl, trivial⟩) ?_
  refine SOps.nil ?_
  refine SCode.join (σ := (List Int)) (S := fun s => ⟨[(0, .c (.vec a0_l.length 7 (gL cSCurtail dSCurtail a0_l))), (5, .c (.own 0 s.length))], [.arr 3 1 s.length (gL (cInt .i64) 0 s)]⟩) (g := fun s => curtail_Next_p25 F a0_l s = some r) ?_ ?_
  rotate_left
  · refine SCode.seq ?_
    refine SCode.region (show SOps _ _ _ [0, 1, 2] _ _ from ?_)
    refine SOps.q rfl (.plain rfl) rfl (q_move rfl rfl) ?_
    refine SOps.q rfl (.plain rfl) rfl (q_len_vec rfl rfl sl34) ?_
    refine SOps.q rfl (.plain rfl) rfl (q_move rfl rfl) ?_
    refine SOps.sub (st' := ⟨[(0, .c (.vec a0_l.length 7 (gL cSCurtail dSCurtail a0_l))), (1, .c (.int .i64 a1_t)), (5, .c (.own 0 (([] : List Int)).length)), (12, .c (.vec a0_l.length 7 (gL cSCurtail dSCurtail a0_l))), (13, .c (.int .i64 (((a0_l).length : Int)))), (14, .c (.int .i64 0))], [.arr 3 1 (([] : List Int)).length (gL (cInt .i64) 0 (([] : List Int)))]⟩) (sub_gen [0] rfl rfl ⟨zc rfl rfl, zc rfl rfl, zc rfl rfl, zc rfl rfl, zc rfl rfl, zc rfl rfl, trivial⟩ ⟨oa rfl, trivial⟩) ?_
    refine SOps.nil ?_
    refine SCode.block ?_
    refine SCode.sub (st' := ⟨[(0, .c (.vec a0_l.length 7 (gL cSCurtail dSCurtail a0_l))), (1, .c (.int .i64 a1_t)), (5, .c (.own 0 ([] : List Int).length)), (12, .c (.vec a0_l.length 7 (gL cSCurtail dSCurtail a0_l))), (13, .c (.int .i64 (((a0_l).length : Int)))), (14, .c (.int .i64 0))], [.arr 3 1 ([] : List Int).length (gL (cInt .i64) 0 ([] : List Int))]⟩) (sub_gen [0] rfl rfl ⟨zc rfl rfl, zc rfl rfl, zc rfl rfl, zc rfl rfl, zc rfl rfl, zc rfl rfl, trivial⟩ ⟨oa rfl, trivial⟩) ?_
    refine (SCode.loop (σ := Nat × (Int × (List Int))) (S := fun s => ⟨[(0, .c (.vec a0_l.length 7 (gL cSCurtail dSCurtail a0_l))), (1, .c (.int .i64 a1_t)), (5, .c (.own 0 s.2.2.length)), (12, .c (.vec a0_l.length 7 (gL cSCurtail dSCurtail a0_l))), (13, .c (.int .i64 (((a0_l).length : Int)))), (14, .c (.int .i64 s.2.1))], [.arr 3 1 s.2.2.length (gL (cInt .i64) 0 s.2.2)]⟩) (g := fun s => curtail_Next_l84 F a0_l a1_t s.1 s.2.1 s.2.2 = some r) (μ := fun s => s.1) (F, (0, ([] : List Int))) h ?_)
    rintro ⟨n_84, ⟨t14_54, o0_55⟩⟩ h
    replace h : curtail_Next_l84 F a0_l a1_t n_84 t14_54 o0_55 = some r := h
    show SCode _ _ _ ⟨[(0, .c (.vec a0_l.length 7 (gL cSCurtail dSCurtail a0_l))), (1, .c (.int .i64 a1_t)), (5, .c (.own 0 o0_55.length)), (12, .c (.vec a0_l.length 7 (gL cSCurtail dSCurtail a0_l))), (13, .c (.int .i64 (((a0_l).length : Int)))), (14, .c (.int .i64 t14_54))], [.arr 3 1 o0_55.length (gL (cInt .i64) 0 o0_55)]⟩ _
    cases n_84 with
    | zero => cases h
    | succ n_84 =>
      replace h : curtail_Next_b84 F a0_l a1_t (fun t14_54 o0_55 => curtail_Next_l84 F a0_l a1_t n_84 t14_54 o0_55) t14_54 o0_55 = some r := h
      unfold curtail_Next_b84 at h
      refine SCode.seq ?_
      refine SCode.region (show SOps _ _ _ [0] _ _ from ?_)
      refine SOps.q rfl (.plain rfl) rfl (q_lss rfl rfl rfl) ?_
      refine SOps.sub (st' := ⟨[(0, .c (.vec a0_l.length 7 (gL cSCurtail dSCurtail a0_l))), (1, .c (.int .i64 a1_t)), (5, .c (.own 0 o0_55.length)), (12, .c (.vec a0_l.length 7 (gL cSCurtail dSCurtail a0_l))), (13, .c (.int .i64 (((a0_l).length : Int)))), (14, .c (.int .i64 t14_54)), (15, .c (.bool (decide (t14_54 < ((a0_l).length : Int)))))], [.arr 3 1 o0_55.length (gL (cInt .i64) 0 o0_55)]⟩) (sub_gen [0] rfl rfl ⟨zc rfl rfl, zc rfl rfl, zc rfl rfl, zc rfl rfl, zc rfl rfl, zc rfl rfl, zc rfl rfl, trivial⟩ ⟨oa rfl, trivial⟩) ?_
      refine SOps.nil ?_
      refine SCode.seq ?_
      rcases cond_out h with ⟨g85, h⟩ | ⟨g85, h⟩
      · refine SCode.cond_t rfl g85 ?_
        refine SCode.skip ?_
        refine SCode.join (σ := (List Int)) (S := fun s => ⟨[(0, .c (.vec a0_l.length 7 (gL cSCurtail dSCurtail a0_l))), (1, .c (.int .i64 a1_t)), (5, .c (.own 0 s.length)), (12, .c (.vec a0_l.length 7 (gL cSCurtail dSCurtail a0_l))), (13, .c (.int .i64 (((a0_l).length : Int)))), (14, .c (.int .i64 t14_54))], [.arr 3 1 s.length (gL (cInt .i64) 0 s)]⟩) (g := fun s => curtail_Next_p87 t14_54 (fun t14_54 o0_55 => curtail_Next_l84 F a0_l a1_t n_84 t14_54 o0_55) s = some r) ?_ ?_
        rotate_left
        · refine SCode.block ?_
          refine SCode.seq ?_
          obtain ⟨g88, h⟩ := guard_out h
          refine SCode.region (show SOps _ _ _ [0, 1, 2, 3] _ _ from ?_)
          refine SOps.q rfl (.plain rfl) rfl (q_index_vec rfl rfl rfl sl34 rfl g88.1 g88.2) ?_
          refine SOps.q rfl (.plain rfl) rfl (q_load_eptr_all rfl rfl rfl ty25) ?_
          refine SOps.e rfl (.plain rfl) (e_alloc rfl rfl rfl z25) ?_
          refine SOps.e rfl (.plain rfl) (e_store_box rfl rfl rfl rfl rfl ty25 rfl rfl rfl rfl) ?_
          refine SOps.sub (st' := ⟨[(0, .c (.vec a0_l.length 7 (gL cSCurtail dSCurtail a0_l))), (1, .c (.int .i64 a1_t)), (5, .c (.own 0 o0_55.length)), (7, .c (.ptr 1 0)), (12, .c (.vec a0_l.length 7 (gL cSCurtail dSCurtail a0_l))), (13, .c (.int .i64 (((a0_l).length : Int)))), (14, .c (.int .i64 t14_54))], [.arr 3 1 o0_55.length (gL (cInt .i64) 0 o0_55), .box [.str ((a0_l.getD t14_54.toNat dSCurtail).Name), .int .i64 ((a0_l.getD t14_54.toNat dSCurtail).Version), .int .i64 ((a0_l.getD t14_54.toNat dSCurtail).Feeder), .int .i64 ((a0_l.getD t14_54.toNat dSCurtail).Span_From), .int .i64 ((a0_l.getD t14_54.toNat dSCurtail).Span_To), .int .i64 ((a0_l.getD t14_54.toNat dSCurtail).Total), .bool ((a0_l.getD t14_54.toNat dSCurtail).Cancelled)]]⟩) (sub_gen [0, 1] rfl rfl ⟨zc rfl rfl, zc rfl rfl, zc rfl rfl, zc rfl rfl, zc rfl rfl, zc rfl rfl, zc rfl rfl, trivial⟩ ⟨oa rfl, ⟨_, rfl, ⟨ii rfl rfl, ii rfl rfl, ii rfl rfl, ii rfl rfl, ii rfl rfl, ii rfl rfl, ii rfl rfl, trivial⟩⟩, trivial⟩) ?_
          refine SOps.nil ?_
          refine SCode.seq ?_
          refine SCode.region (show SOps _ _ _ [0, 1, 2, 3, 4, 5, 6, 7] _ _ from ?_)
          refine SOps.q rfl (.plain rfl) rfl (q_field_ptr rfl rfl fd25_3) ?_
          refine SOps.q rfl (.plain rfl) rfl (q_field_ptr rfl rfl fd23_0) ?_
          refine SOps.q rfl (.plain rfl) rfl (q_load_ptr rfl rfl rfl rfl ty3) ?_
          refine SOps.q rfl (.plain rfl) rfl (q_field_ptr rfl rfl fd25_3) ?_
          refine SOps.q rfl (.plain rfl) rfl (q_field_ptr rfl rfl fd23_1) ?_
          refine SOps.q rfl (.plain rfl) rfl (q_load_ptr rfl rfl rfl rfl ty3) ?_
          refine SOps.q rfl (.plain rfl) rfl (q_buildArr rfl rfl ar55 z55 rfl) ?_
          refine SOps.q rfl (.plain rfl) rfl (q_move rfl rfl) ?_
          refine SOps.sub (st' := ⟨[(0, .c (.vec a0_l.length 7 (gL cSCurtail dSCurtail a0_l))), (1, .c (.int .i64 a1_t)), (5, .c (.own 0 o0_55.length)), (7, .c (.ptr 1 0)), (12, .c (.vec a0_l.length 7 (gL cSCurtail dSCurtail a0_l))), (13, .c (.int .i64 (((a0_l).length : Int)))), (14, .c (.int .i64 t14_54)), (24, .a [.int .i64 ((a0_l.getD t14_54.toNat dSCurtail).Span_From), .int .i64 ((a0_l.getD t14_54.toNat dSCurtail).Span_To)]), (25, .c (.int .i64 0))], [.arr 3 1 o0_55.length (gL (cInt .i64) 0 o0_55), .box [.str ((a0_l.getD t14_54.toNat dSCurtail).Name), .int .i64 ((a0_l.getD t14_54.toNat dSCurtail).Version), .int .i64 ((a0_l.getD t14_54.toNat dSCurtail).Feeder), .int .i64 ((a0_l.getD t14_54.toNat dSCurtail).Span_From), .int .i64 ((a0_l.getD t14_54.toNat dSCurtail).Span_To), .int .i64 ((a0_l.getD t14_54.toNat dSCurtail).Total), .bool ((a0_l.getD t14_54.toNat dSCurtail).Cancelled)]]⟩) (sub_gen [0, 1] rfl rfl ⟨zc rfl rfl, zc rfl rfl, zc rfl rfl, zc rfl rfl, zc rfl rfl, zc rfl rfl, zc rfl rfl, ⟨_, rfl, ⟨ii rfl rfl, ii rfl rfl, trivial⟩⟩, zc rfl rfl, trivial⟩ ⟨oa rfl, ⟨_, rfl, ⟨ii rfl rfl, ii rfl rfl, ii rfl rfl, ii rfl rfl, ii rfl rfl, ii rfl rfl, ii rfl rfl, trivial⟩⟩, trivial⟩) ?_
          refine SOps.nil ?_
          refine SCode.block ?_
          refine SCode.sub (st' := ⟨[(0, .c (.vec a0_l.length 7 (gL cSCurtail dSCurtail a0_l))), (1, .c (.int .i64 a1_t)), (5, .c (.own 0 o0_55.length)), (7, .c (.ptr 1 0)), (12, .c (.vec a0_l.length 7 (gL cSCurtail dSCurtail a0_l))), (13, .c (.int .i64 (((a0_l).length : Int)))), (14, .c (.int .i64 t14_54)), (24, .a [.int .i64 ((a0_l.getD t14_54.toNat dSCurtail).Span_From), .int .i64 ((a0_l.getD t14_54.toNat dSCurtail).Span_To)]), (25, .c (.int .i64 0))], [.arr 3 1 o0_55.length (gL (cInt .i64) 0 o0_55), .box [.str ((a0_l.getD t14_54.toNat dSCurtail).Name), .int .i64 ((a0_l.getD t14_54.toNat dSCurtail).Version), .int .i64 ((a0_l.getD t14_54.toNat dSCurtail).Feeder), .int .i64 ((a0_l.getD t14_54.toNat dSCurtail).Span_From), .int .i64 ((a0_l.getD t14_54.toNat dSCurtail).Span_To), .int .i64 ((a0_l.getD t14_54.toNat dSCurtail).Total), .bool ((a0_l.getD t14_54.toNat dSCurtail).Cancelled)]]⟩) (sub_gen [0, 1] rfl rfl ⟨zc rfl rfl, zc rfl rfl, zc rfl rfl, zc rfl rfl, zc rfl rfl, zc rfl rfl, zc rfl rfl, ⟨_, rfl, ⟨ii rfl rfl, ii rfl rfl, trivial⟩⟩, zc rfl rfl, trivial⟩ ⟨oa rfl, ⟨_, rfl, ⟨ii rfl rfl, ii rfl rfl, ii rfl rfl, ii rfl rfl, ii rfl rfl, ii rfl rfl, ii rfl rfl, trivial⟩⟩, trivial⟩) ?_
          refine (SCode.loop (σ := Nat × (Int × (List Int))) (S := fun s => ⟨[(0, .c (.vec a0_l.length 7 (gL cSCurtail dSCurtail a0_l))), (1, .c (.int .i64 a1_t)), (5, .c (.own 0 s.2.2.length)), (7, .c (.ptr 1 0)), (12, .c (.vec a0_l.length 7 (gL cSCurtail dSCurtail a0_l))), (13, .c (.int .i64 (((a0_l).length : Int)))), (14, .c (.int .i64 t14_54)), (24, .a [.int .i64 ((a0_l.getD t14_54.toNat dSCurtail).Span_From), .int .i64 ((a0_l.getD t14_54.toNat dSCurtail).Span_To)]), (25, .c (.int .i64 s.2.1))], [.arr 3 1 s.2.2.length (gL (cInt .i64) 0 s.2.2), .box [.str ((a0_l.getD t14_54.toNat dSCurtail).Name), .int .i64 ((a0_l.getD t14_54.toNat dSCurtail).Version), .int .i64 ((a0_l.getD t14_54.toNat dSCurtail).Feeder), .int .i64 ((a0_l.getD t14_54.toNat dSCurtail).Span_From), .int .i64 ((a0_l.getD t14_54.toNat dSCurtail).Span_To), .int .i64 ((a0_l.getD t14_54.toNat dSCurtail).Total), .bool ((a0_l.getD t14_54.toNat dSCurtail).Cancelled)]]⟩) (g := fun s => curtail_Next_l105 a0_l a1_t t14_54 (fun t14_54 o0_55 => curtail_Next_l84 F a0_l a1_t n_84 t14_54 o0_55) s.1 s.2.1 s.2.2 = some r) (μ := fun s => s.1) (F, (0, o0_55)) h ?_)
          rintro ⟨n_105, ⟨t25_96, o0_97⟩⟩ h
          replace h : curtail_Next_l105 a0_l a1_t t14_54 (fun t14_54 o0_55 => curtail_Next_l84 F a0_l a1_t n_84 t14_54 o0_55) n_105 t25_96 o0_97 = some r := h
          show SCode _ _ _ ⟨[(0, .c (.vec a0_l.length 7 (gL cSCurtail dSCurtail a0_l))), (1, .c (.int .i64 a1_t)), (5, .c (.own 0 o0_97.length)), (7, .c (.ptr 1 0)), (12, .c (.vec a0_l.length 7 (gL cSCurtail dSCurtail a0_l))), (13, .c (.int .i64 (((a0_l).length : Int)))), (14, .c (.int .i64 t14_54)), (24, .a [.int .i64 ((a0_l.getD t14_54.toNat dSCurtail).Span_From), .int .i64 ((a0_l.getD t14_54.toNat dSCurtail).Span_To)]), (25, .c (.int .i64 t25_96))], [.arr 3 1 o0_97.length (gL (cInt .i64) 0 o0_97), .box [.str ((a0_l.getD t14_54.toNat dSCurtail).Name), .int .i64 ((a0_l.getD t14_54.toNat dSCurtail).Version), .int .i64 ((a0_l.getD t14_54.toNat dSCurtail).Feeder), .int .i64 ((a0_l.getD t14_54.toNat dSCurtail).Span_From), .int .i64 ((a0_l.getD t14_54.toNat dSCurtail).Span_To), .int .i64 ((a0_l.getD t14_54.toNat dSCurtail).Total), .bool ((a0_l.getD t14_54.toNat dSCurtail).Cancelled)]]⟩ _
          cases n_105 with
          | zero => cases h
          | succ n_105 =>
            replace h : curtail_Next_b105 a0_l a1_t t14_54 (fun t14_54 o0_55 => curtail_Next_l84 F a0_l a1_t n_84 t14_54 o0_55) (fun t25_96 o0_97 => curtail_Next_l105 a0_l a1_t t14_54 (fun t14_54 o0_55 => curtail_Next_l84 F a0_l a1_t n_84 t14_54 o0_55) n_105 t25_96 o0_97) t25_96 o0_97 = some r := h
            unfold curtail_Next_b105 at h
            refine SCode.seq ?_
            refine SCode.region (show SOps _ _ _ [0] _ _ from ?_)
            refine SOps.q rfl (.plain rfl) rfl (q_lss rfl rfl rfl) ?_
            refine SOps.sub (st' := ⟨[(0, .c (.vec a0_l.length 7 (gL cSCurtail dSCurtail a0_l))), (1, .c (.int .i64 a1_t)), (5, .c (.own 0 o0_97.length)), (7, .c (.ptr 1 0)), (12, .c (.vec a0_l.length 7 (gL cSCurtail dSCurtail a0_l))), (13, .c (.int .i64 (((a0_l).length : Int)))), (14, .c (.int .i64 t14_54)), (24, .a [.int .i64 ((a0_l.getD t14_54.toNat dSCurtail).Span_From), .int .i64 ((a0_l.getD t14_54.toNat dSCurtail).Span_To)]), (25, .c (.int .i64 t25_96)), (26, .c (.bool (decide (t25_96 < 2))))], [.arr 3 1 o0_97.length (gL (cInt .i64) 0 o0_97), .box [.str ((a0_l.getD t14_54.toNat dSCurtail).Name), .int .i64 ((a0_l.getD t14_54.toNat dSCurtail).Version), .int .i64 ((a0_l.getD t14_54.toNat dSCurtail).Feeder), .int .i64 ((a0_l.getD t14_54.toNat dSCurtail).Span_From), .int .i64 ((a0_l.getD t14_54.toNat dSCurtail).Span_To), .int .i64 ((a0_l.getD t14_54.toNat dSCurtail).Total), .bool ((a0_l.getD t14_54.toNat dSCurtail).Cancelled)]]⟩) (sub_gen [0, 1] rfl rfl ⟨zc rfl rfl, zc rfl rfl, zc rfl rfl, zc rfl rfl, zc rfl rfl, zc rfl rfl, zc rfl rfl, ⟨_, rfl, ⟨ii rfl rfl, ii rfl rfl, trivial⟩⟩, zc rfl rfl, zc rfl rfl, trivial⟩ ⟨oa rfl, ⟨_, rfl, ⟨ii rfl rfl, ii rfl rfl, ii rfl rfl, ii rfl rfl, ii rfl rfl, ii rfl rfl, ii rfl rfl, trivial⟩⟩, trivial⟩) ?_
            refine SOps.nil ?_
            refine SCode.seq ?_
            rcases cond_out h with ⟨g106, h⟩ | ⟨g106, h⟩
            · refine SCode.cond_t rfl g106 ?_
              refine SCode.skip ?_
              refine SCode.join (σ := (List Int)) (S := fun s => ⟨[(0, .c (.vec a0_l.length 7 (gL cSCurtail dSCurtail a0_l))), (1, .c (.int .i64 a1_t)), (5, .c (.own 0 s.length)), (7, .c (.ptr 1 0)), (12, .c (.vec a0_l.length 7 (gL cSCurtail dSCurtail a0_l))), (13, .c (.int .i64 (((a0_l).length : Int)))), (14, .c (.int .i64 t14_54)), (24, .a [.int .i64 ((a0_l.getD t14_54.toNat dSCurtail).Span_From), .int .i64 ((a0_l.getD t14_54.toNat dSCurtail).Span_To)]), (25, .c (.int .i64 t25_96))], [.arr 3 1 s.length (gL (cInt .i64) 0 s), .box [.str ((a0_l.getD t14_54.toNat dSCurtail).Name), .int .i64 ((a0_l.getD t14_54.toNat dSCurtail).Version), .int .i64 ((a0_l.getD t14_54.toNat dSCurtail).Feeder), .int .i64 ((a0_l.getD t14_54.toNat dSCurtail).Span_From), .int .i64 ((a0_l.getD t14_54.toNat dSCurtail).Span_To), .int .i64 ((a0_l.getD t14_54.toNat dSCurtail).Total), .bool ((a0_l.getD t14_54.toNat dSCurtail).Cancelled)]]⟩) (g := fun s => curtail_Next_p108 t25_96 (fun t25_96 o0_97 => curtail_Next_l105 a0_l a1_t t14_54 (fun t14_54 o0_55 => curtail_Next_l84 F a0_l a1_t n_84 t14_54 o0_55) n_105 t25_96 o0_97) s = some r) ?_ ?_
              rotate_left
              · refine SCode.block ?_
                refine SCode.seq ?_
                obtain ⟨g109, h⟩ := guard_out h
                refine SCode.region (show SOps _ _ _ [0, 1] _ _ from ?_)
                refine SOps.q rfl (.plain rfl) rfl (q_index_agg (c := (cInt .i64)) (d0 := 0) (l := [(a0_l.getD t14_54.toNat dSCurtail).Span_From, (a0_l.getD t14_54.toNat dSCurtail).Span_To]) rfl rfl rfl ar55 ty3 rfl g109.1 g109.2) ?_
                refine SOps.q rfl (.plain rfl) rfl (q_assign rfl rfl) ?_
                refine SOps.sub (st' := ⟨[(0, .c (.vec a0_l.length 7 (gL cSCurtail dSCurtail a0_l))), (1, .c (.int .i64 a1_t)), (5, .c (.own 0 o0_97.length)), (7, .c (.ptr 1 0)), (9, .c (.int .i64 (([(a0_l.getD t14_54.toNat dSCurtail).Span_From, (a0_l.getD t14_54.toNat dSCurtail).Span_To] : List Int).getD t25_96.toNat 0))), (12, .c (.vec a0_l.length 7 (gL cSCurtail dSCurtail a0_l))), (13, .c (.int .i64 (((a0_l).length : Int)))), (14, .c (.int .i64 t14_54)), (24, .a [.int .i64 ((a0_l.getD t14_54.toNat dSCurtail).Span_From), .int .i64 ((a0_l.getD t14_54.toNat dSCurtail).Span_To)]), (25, .c (.int .i64 t25_96))], [.arr 3 1 o0_97.length (gL (cInt .i64) 0 o0_97), .box [.str ((a0_l.getD t14_54.toNat dSCurtail).Name), .int .i64 ((a0_l.getD t14_54.toNat dSCurtail).Version), .int .i64 ((a0_l.getD t14_54.toNat dSCurtail).Feeder), .int .i64 ((a0_l.getD t14_54.toNat dSCurtail).Span_From), .int .i64 ((a0_l.getD t14_54.toNat dSCurtail).Span_To), .int .i64 ((a0_l.getD t14_54.toNat dSCurtail).Total), .bool ((a0_l.getD t14_54.toNat dSCurtail).Cancelled)]]⟩) (sub_gen [0, 1] rfl rfl ⟨zc rfl rfl, zc rfl rfl, zc rfl rfl, zc rfl rfl, zc rfl rfl, zc rfl rfl, zc rfl rfl, zc rfl rfl, ⟨_, rfl, ⟨ii rfl rfl, ii rfl rfl, trivial⟩⟩, zc rfl rfl, trivial⟩ ⟨oa rfl, ⟨_, rfl, ⟨ii rfl rfl, ii rfl rfl, ii rfl rfl, ii rfl rfl, ii rfl rfl, ii rfl rfl, ii rfl rfl, trivial⟩⟩, trivial⟩) ?_
                refine SOps.nil ?_
                refine SCode.seq ?_
                rcases cond_out h with ⟨g110, h⟩ | ⟨g110, h⟩
                · refine SCode.region (show SOps _ _ _ [0, 1, 2, 3, 4, 5, 6, 7] _ _ from ?_)
                  refine SOps.q rfl (.plain rfl) rfl (q_field_ptr rfl rfl fd25_5) ?_
                  refine SOps.q rfl (.plain rfl) rfl (q_load_ptr rfl rfl rfl rfl ty4) ?_
                  refine SOps.q rfl (.plain rfl) rfl (q_not rfl rfl) ?_
                  refine SOps.q rfl (.plain rfl) rfl (q_move rfl rfl) ?_
                  refine SOps.q rfl (.guard 3 31 true rfl rfl (gT g110)) rfl (q_move rfl rfl) ?_
                  refine SOps.q rfl (.guard 3 31 true rfl rfl (gT g110)) rfl (q_move rfl rfl) ?_
                  refine SOps.q rfl (.guard 3 31 true rfl rfl (gT g110)) rfl (q_gtr rfl rfl rfl) ?_
                  refine SOps.q rfl (.plain rfl) rfl (q_pick_t rfl rfl g110 rfl) ?_
                  refine SOps.sub (st' := ⟨[(0, .c (.vec a0_l.length 7 (gL cSCurtail dSCurtail a0_l))), (1, .c (.int .i64 a1_t)), (5, .c (.own 0 o0_97.length)), (7, .c (.ptr 1 0)), (9, .c (.int .i64 (([(a0_l.getD t14_54.toNat dSCurtail).Span_From, (a0_l.getD t14_54.toNat dSCurtail).Span_To] : List Int).getD t25_96.toNat 0))), (12, .c (.vec a0_l.length 7 (gL cSCurtail dSCurtail a0_l))), (13, .c (.int .i64 (((a0_l).length : Int)))), (14, .c (.int .i64 t14_54)), (24, .a [.int .i64 ((a0_l.getD t14_54.toNat dSCurtail).Span_From), .int .i64 ((a0_l.getD t14_54.toNat dSCurtail).Span_To)]), (25, .c (.int .i64 t25_96)), (35, .c (.bool (decide (a1_t < ([(a0_l.getD t14_54.toNat dSCurtail).Span_From, (a0_l.getD t14_54.toNat dSCurtail).Span_To] : List Int).getD t25_96.toNat 0))))], [.arr 3 1 o0_97.length (gL (cInt .i64) 0 o0_97), .box [.str ((a0_l.getD t14_54.toNat dSCurtail).Name), .int .i64 ((a0_l.getD t14_54.toNat dSCurtail).Version), .int .i64 ((a0_l.getD t14_54.toNat dSCurtail).Feeder), .int .i64 ((a0_l.getD t14_54.toNat dSCurtail).Span_From), .int .i64 ((a0_l.getD t14_54.toNat dSCurtail).Span_To), .int .i64 ((a0_l.getD t14_54.toNat dSCurtail).Total), .bool ((a0_l.getD t14_54.toNat dSCurtail).Cancelled)]]⟩) (sub_gen [0, 1] rfl rfl ⟨zc rfl rfl, zc rfl rfl, zc rfl rfl, zc rfl rfl, zc rfl rfl, zc rfl rfl, zc rfl rfl, zc rfl rfl, ⟨_, rfl, ⟨ii rfl rfl, ii rfl rfl, trivial⟩⟩, zc rfl rfl, zc rfl rfl, trivial⟩ ⟨oa rfl, ⟨_, rfl, ⟨ii rfl rfl, ii rfl rfl, ii rfl rfl, ii rfl rfl, ii rfl rfl, ii rfl rfl, ii rfl rfl, trivial⟩⟩, trivial⟩) ?_
                  refine SOps.nil ?_
                  rcases cond_out h with ⟨g111, h⟩ | ⟨g111, h⟩
                  · refine SCode.cond_t rfl g111 ?_
                    obtain ⟨g112, h⟩ := guard_out h
                    refine SCode.region (show SOps _ _ _ [0, 1, 2, 3, 4] _ _ from ?_)
                    refine SOps.q rfl (.plain rfl) rfl (q_move rfl rfl) ?_
                    refine SOps.q rfl (.plain rfl) rfl (q_move rfl rfl) ?_
                    refine SOps.q rfl (.plain rfl) rfl (q_bsliceL (c := (cInt .i64)) (d0 := 0) [([(a0_l.getD t14_54.toNat dSCurtail).Span_From, (a0_l.getD t14_54.toNat dSCurtail).Span_To] : List Int).getD t25_96.toNat 0] rfl rfl sl54 z3 rfl rfl rfl rfl rfl rfl rfl) ?_
                    refine SOps.e rfl (.plain rfl) (e_appendL (c := (cInt .i64)) (d0 := 0) (l := o0_97) (l2 := [([(a0_l.getD t14_54.toNat dSCurtail).Span_From, (a0_l.getD t14_54.toNat dSCurtail).Span_To] : List Int).getD t25_96.toNat 0]) rfl rfl rfl rfl rfl rfl (.inl rfl) sl54 z3 rfl rfl oneInt g112.1 g112.2) ?_
                    refine SOps.q rfl (.plain rfl) rfl (q_assign rfl rfl) ?_
                    refine SOps.sub (st' := ⟨[(0, .c (.vec a0_l.length 7 (gL cSCurtail dSCurtail a0_l))), (1, .c (.int .i64 a1_t)), (5, .c (.own 0 (o0_97 ++ ([([(a0_l.getD t14_54.toNat dSCurtail).Span_From, (a0_l.getD t14_54.toNat dSCurtail).Span_To] : List Int).getD t25_96.toNat 0])).length)), (7, .c (.ptr 1 0)), (12, .c (.vec a0_l.length 7 (gL cSCurtail dSCurtail a0_l))), (13, .c (.int .i64 (((a0_l).length : Int)))), (14, .c (.int .i64 t14_54)), (24, .a [.int .i64 ((a0_l.getD t14_54.toNat dSCurtail).Span_From), .int .i64 ((a0_l.getD t14_54.toNat dSCurtail).Span_To)]), (25, .c (.int .i64 t25_96))], [.arr 3 1 (o0_97 ++ ([([(a0_l.getD t14_54.toNat dSCurtail).Span_From, (a0_l.getD t14_54.toNat dSCurtail).Span_To] : List Int).getD t25_96.toNat 0])).length (gL (cInt .i64) 0 (o0_97 ++ ([([(a0_l.getD t14_54.toNat dSCurtail).Span_From, (a0_l.getD t14_54.toNat dSCurtail).Span_To] : List Int).getD t25_96.toNat 0]))), .box [.str ((a0_l.getD t14_54.toNat dSCurtail).Name), .int .i64 ((a0_l.getD t14_54.toNat dSCurtail).Version), .int .i64 ((a0_l.getD t14_54.toNat dSCurtail).Feeder), .int .i64 ((a0_l.getD t14_54.toNat dSCurtail).Span_From), .int .i64 ((a0_l.getD t14_54.toNat dSCurtail).Span_To), .int .i64 ((a0_l.getD t14_54.toNat dSCurtail).Total), .bool ((a0_l.getD t14_54.toNat dSCurtail).Cancelled)]]⟩) (sub_gen [2, 1] rfl rfl ⟨zc rfl rfl, zc rfl rfl, zc rfl rfl, zc rfl rfl, zc rfl rfl, zc rfl rfl, zc rfl rfl, ⟨_, rfl, ⟨ii rfl rfl, ii rfl rfl, trivial⟩⟩, zc rfl rfl, trivial⟩ ⟨oa rfl, ⟨_, rfl, ⟨ii rfl rfl, ii rfl rfl, ii rfl rfl, ii rfl rfl, ii rfl rfl, ii rfl rfl, ii rfl rfl, trivial⟩⟩, trivial⟩) ?_
                    refine SOps.nil ?_
                    exact ⟨o0_97 ++ ([([(a0_l.getD t14_54.toNat dSCurtail).Span_From, (a0_l.getD t14_54.toNat dSCurtail).Span_To] : List Int).getD t25_96.toNat 0]), h, sub_gen [0, 1] rfl rfl ⟨zc rfl rfl, zc rfl rfl, zc rfl rfl, zc rfl rfl, zc rfl rfl, zc rfl rfl, zc rfl rfl, ⟨_, rfl, ⟨ii rfl rfl, ii rfl rfl, trivial⟩⟩, zc rfl rfl, trivial⟩ ⟨oa rfl, ⟨_, rfl, ⟨ii rfl rfl, ii rfl rfl, ii rfl rfl, ii rfl rfl, ii rfl rfl, ii rfl rfl, ii rfl rfl, trivial⟩⟩, trivial⟩⟩
                  refine SCode.cond_f rfl g111 ?_
                  refine SCode.skip ?_
                  exact ⟨o0_97, h, sub_gen [0, 1] rfl rfl ⟨zc rfl rfl, zc rfl rfl, zc rfl rfl, zc rfl rfl, zc rfl rfl, zc rfl rfl, zc rfl rfl, ⟨_, rfl, ⟨ii rfl rfl, ii rfl rfl, trivial⟩⟩, zc rfl rfl, trivial⟩ ⟨oa rfl, ⟨_, rfl, ⟨ii rfl rfl, ii rfl rfl, ii rfl rfl, ii rfl rfl, ii rfl rfl, ii rfl rfl, ii rfl rfl, trivial⟩⟩, trivial⟩⟩
                refine SCode.region (show SOps _ _ _ [0, 1, 2, 3, 4, 5, 6, 7] _ _ from ?_)
                refine SOps.q rfl (.plain rfl) rfl (q_field_ptr rfl rfl fd25_5) ?_
                refine SOps.q rfl (.plain rfl) rfl (q_load_ptr rfl rfl rfl rfl ty4) ?_
                refine SOps.q rfl (.plain rfl) rfl (q_not rfl rfl) ?_
                refine SOps.q rfl (.plain rfl) rfl (q_move rfl rfl) ?_
                refine SOps.skip rfl 3 31 true rfl rfl (.inl (gF g110)) rfl ?_
                refine SOps.skip rfl 3 31 true rfl rfl (.inl (gF g110)) rfl ?_
                refine SOps.skip rfl 3 31 true rfl rfl (.inl (gF g110)) rfl ?_
                refine SOps.q rfl (.plain rfl) rfl (q_pick_f rfl rfl g110 rfl) ?_
                refine SOps.sub (st' := ⟨[(0, .c (.vec a0_l.length 7 (gL cSCurtail dSCurtail a0_l))), (1, .c (.int .i64 a1_t)), (5, .c (.own 0 o0_97.length)), (7, .c (.ptr 1 0)), (9, .c (.int .i64 (([(a0_l.getD t14_54.toNat dSCurtail).Span_From, (a0_l.getD t14_54.toNat dSCurtail).Span_To] : List Int).getD t25_96.toNat 0))), (12, .c (.vec a0_l.length 7 (gL cSCurtail dSCurtail a0_l))), (13, .c (.int .i64 (((a0_l).length : Int)))), (14, .c (.int .i64 t14_54)), (24, .a [.int .i64 ((a0_l.getD t14_54.toNat dSCurtail).Span_From), .int .i64 ((a0_l.getD t14_54.toNat dSCurtail).Span_To)]), (25, .c (.int .i64 t25_96)), (35, .c (.bool false))], [.arr 3 1 o0_97.length (gL (cInt .i64) 0 o0_97), .box [.str ((a0_l.getD t14_54.toNat dSCurtail).Name), .int .i64 ((a0_l.getD t14_54.toNat dSCurtail).Version), .int .i64 ((a0_l.getD t14_54.toNat dSCurtail).Feeder), .int .i64 ((a0_l.getD t14_54.toNat dSCurtail).Span_From), .int .i64 ((a0_l.getD t14_54.toNat dSCurtail).Span_To), .int .i64 ((a0_l.getD t14_54.toNat dSCurtail).Total), .bool ((a0_l.getD t14_54.toNat dSCurtail).Cancelled)]]⟩) (sub_gen [0, 1] rfl rfl ⟨zc rfl rfl, zc rfl rfl, zc rfl rfl, zc rfl rfl, zc rfl rfl, zc rfl rfl, zc rfl rfl, zc rfl rfl, ⟨_, rfl, ⟨ii rfl rfl, ii rfl rfl, trivial⟩⟩, zc rfl rfl, zc rfl rfl, trivial⟩ ⟨oa rfl, ⟨_, rfl, ⟨ii rfl rfl, ii rfl rfl, ii rfl rfl, ii rfl rfl, ii rfl rfl, ii rfl rfl, ii rfl rfl, trivial⟩⟩, trivial⟩) ?_
                refine SOps.nil ?_
                refine SCode.cond_f rfl rfl ?_
                refine SCode.skip ?_
                exact ⟨o0_97, h, sub_gen [0, 1] rfl rfl ⟨zc rfl rfl, zc rfl rfl, zc rfl rfl, zc rfl rfl, zc rfl rfl, zc rfl rfl, zc rfl rfl, ⟨_, rfl, ⟨ii rfl rfl, ii rfl rfl, trivial⟩⟩, zc rfl rfl, trivial⟩ ⟨oa rfl, ⟨_, rfl, ⟨ii rfl rfl, ii rfl rfl, ii rfl rfl, ii rfl rfl, ii rfl rfl, ii rfl rfl, ii rfl rfl, trivial⟩⟩, trivial⟩⟩
              rintro o0_107 h
              show SCode _ _ _ ⟨[(0, .c (.vec a0_l.length 7 (gL cSCurtail dSCurtail a0_l))), (1, .c (.int .i64 a1_t)), (5, .c (.own 0 o0_107.length)), (7, .c (.ptr 1 0)), (12, .c (.vec a0_l.length 7 (gL cSCurtail dSCurtail a0_l))), (13, .c (.int .i64 (((a0_l).length : Int)))), (14, .c (.int .i64 t14_54)), (24, .a [.int .i64 ((a0_l.getD t14_54.toNat dSCurtail).Span_From), .int .i64 ((a0_l.getD t14_54.toNat dSCurtail).Span_To)]), (25, .c (.int .i64 t25_96))], [.arr 3 1 o0_107.length (gL (cInt .i64) 0 o0_107), .box [.str ((a0_l.getD t14_54.toNat dSCurtail).Name), .int .i64 ((a0_l.getD t14_54.toNat dSCurtail).Version), .int .i64 ((a0_l.getD t14_54.toNat dSCurtail).Feeder), .int .i64 ((a0_l.getD t14_54.toNat dSCurtail).Span_From), .int .i64 ((a0_l.getD t14_54.toNat dSCurtail).Span_To), .int .i64 ((a0_l.getD t14_54.toNat dSCurtail).Total), .bool ((a0_l.getD t14_54.toNat dSCurtail).Cancelled)]]⟩ _
              replace h : curtail_Next_p108 t25_96 (fun t25_96 o0_97 => curtail_Next_l105 a0_l a1_t t14_54 (fun t14_54 o0_55 => curtail_Next_l84 F a0_l a1_t n_84 t14_54 o0_55) n_105 t25_96 o0_97) o0_107 = some r := h
              unfold curtail_Next_p108 at h
              refine SCode.region (show SOps _ _ _ [0, 1] _ _ from ?_)
              refine SOps.q rfl (.plain rfl) rfl (q_add rfl rfl rfl) ?_
              refine SOps.q rfl (.plain rfl) rfl (q_move rfl rfl) ?_
              refine SOps.sub (st' := ⟨[(0, .c (.vec a0_l.length 7 (gL cSCurtail dSCurtail a0_l))), (1, .c (.int .i64 a1_t)), (5, .c (.own 0 o0_107.length)), (7, .c (.ptr 1 0)), (12, .c (.vec a0_l.length 7 (gL cSCurtail dSCurtail a0_l))), (13, .c (.int .i64 (((a0_l).length : Int)))), (14, .c (.int .i64 t14_54)), (24, .a [.int .i64 ((a0_l.getD t14_54.toNat dSCurtail).Span_From), .int .i64 ((a0_l.getD t14_54.toNat dSCurtail).Span_To)]), (25, .c (.int .i64 (IntKind.wrap .i64 (t25_96 + 1))))], [.arr 3 1 o0_107.length (gL (cInt .i64) 0 o0_107), .box [.str ((a0_l.getD t14_54.toNat dSCurtail).Name), .int .i64 ((a0_l.getD t14_54.toNat dSCurtail).Version), .int .i64 ((a0_l.getD t14_54.toNat dSCurtail).Feeder), .int .i64 ((a0_l.getD t14_54.toNat dSCurtail).Span_From), .int .i64 ((a0_l.getD t14_54.toNat dSCurtail).Span_To), .int .i64 ((a0_l.getD t14_54.toNat dSCurtail).Total), .bool ((a0_l.getD t14_54.toNat dSCurtail).Cancelled)]]⟩) (sub_gen [0, 1] rfl rfl ⟨zc rfl rfl, zc rfl rfl, zc rfl rfl, zc rfl rfl, zc rfl rfl, zc rfl rfl, zc rfl rfl, ⟨_, rfl, ⟨ii rfl rfl, ii rfl rfl, trivial⟩⟩, zc rfl rfl, trivial⟩ ⟨oa rfl, ⟨_, rfl, ⟨ii rfl rfl, ii rfl rfl, ii rfl rfl, ii rfl rfl, ii rfl rfl, ii rfl rfl, ii rfl rfl, trivial⟩⟩, trivial⟩) ?_
              refine SOps.nil ?_
              exact ⟨(n_105, (IntKind.wrap .i64 (t25_96 + 1), o0_107)), h, Nat.lt_succ_self n_105, sub_gen [0, 1] rfl rfl ⟨zc rfl rfl, zc rfl rfl, zc rfl rfl, zc rfl rfl, zc rfl rfl, zc rfl rfl, zc rfl rfl, ⟨_, rfl, ⟨ii rfl rfl, ii rfl rfl, trivial⟩⟩, zc rfl rfl, trivial⟩ ⟨oa rfl, ⟨_, rfl, ⟨ii rfl rfl, ii rfl rfl, ii rfl rfl, ii rfl rfl, ii rfl rfl, ii rfl rfl, ii rfl rfl, trivial⟩⟩, trivial⟩⟩
            refine SCode.cond_f rfl g106 ?_
            refine SCode.exit ?_
            exact ⟨o0_97, h, sub_gen [0] rfl rfl ⟨zc rfl rfl, zc rfl rfl, zc rfl rfl, zc rfl rfl, zc rfl rfl, zc rfl rfl, trivial⟩ ⟨oa rfl, trivial⟩⟩
        rintro o0_86 h
        show SCode _ _ _ ⟨[(0, .c (.vec a0_l.length 7 (gL cSCurtail dSCurtail a0_l))), (1, .c (.int .i64 a1_t)), (5, .c (.own 0 o0_86.length)), (12, .c (.vec a0_l.length 7 (gL cSCurtail dSCurtail a0_l))), (13, .c (.int .i64 (((a0_l).length : Int)))), (14, .c (.int .i64 t14_54))], [.arr 3 1 o0_86.length (gL (cInt .i64) 0 o0_86)]⟩ _
        replace h : curtail_Next_p87 t14_54 (fun t14_54 o0_55 => curtail_Next_l84 F a0_l a1_t n_84 t14_54 o0_55) o0_86 = some r := h
        unfold curtail_Next_p87 at h
        refine SCode.region (show SOps _ _ _ [0, 1] _ _ from ?_)
        refine SOps.q rfl (.plain rfl) rfl (q_add rfl rfl rfl) ?_
        refine SOps.q rfl (.plain rfl) rfl (q_move rfl rfl) ?_
        refine SOps.sub (st' := ⟨[(0, .c (.vec a0_l.length 7 (gL cSCurtail dSCurtail a0_l))), (1, .c (.int .i64 a1_t)), (5, .c (.own 0 o0_86.length)), (12, .c (.vec a0_l.length 7 (gL cSCurtail dSCurtail a0_l))), (13, .c (.int .i64 (((a0_l).length : Int)))), (14, .c (.int .i64 (IntKind.wrap .i64 (t14_54 + 1))))], [.arr 3 1 o0_86.length (gL (cInt .i64) 0 o0_86)]⟩) (sub_gen [0] rfl rfl ⟨zc rfl rfl, zc rfl rfl, zc rfl rfl, zc rfl rfl, zc rfl rfl, zc rfl rfl, trivial⟩ ⟨oa rfl, trivial⟩) ?_
        refine SOps.nil ?_
        exact ⟨(n_84, (IntKind.wrap .i64 (t14_54 + 1), o0_86)), h, Nat.lt_succ_self n_84, sub_gen [0] rfl rfl ⟨zc rfl rfl, zc rfl rfl, zc rfl rfl, zc rfl rfl, zc rfl rfl, zc rfl rfl, trivial⟩ ⟨oa rfl, trivial⟩⟩
      refine SCode.cond_f rfl g85 ?_
      refine SCode.exit ?_
      exact ⟨o0_55, h, sub_gen [0] rfl rfl ⟨zc rfl rfl, zc rfl rfl, trivial⟩ ⟨oa rfl, trivial⟩⟩
  rintro o0_1 h
  show SCode _ _ _ ⟨[(0, .c (.vec a0_l.length 7 (gL cSCurtail dSCurtail a0_l))), (5, .c (.own 0 o0_1.length))], [.arr 3 1 o0_1.length (gL (cInt .i64) 0 o0_1)]⟩ _
  replace h : curtail_Next_p25 F a0_l o0_1 = some r := h
  unfold curtail_Next_p25 at h
  refine SCode.seq ?_
  obtain ⟨c_2, g3, h⟩ := bind_out h
  try dsimp only at h
  obtain ⟨g4, h⟩ := guard_out h
  refine SCode.region (show SOps _ _ _ [0, 1] _ _ from ?_)
  refine SOps.q rfl (.plain rfl) rfl (q_move rfl rfl) ?_
  refine SOps.e rfl (.plain rfl) (e_call (slices_Sort_int_int_ok F o0_1 c_2 g3) [0] rfl fn27 rfl rfl rfl rfl rfl rfl rfl rfl) ?_
  refine SOps.sub (st' := ⟨[(0, .c (.vec a0_l.length 7 (gL cSCurtail dSCurtail a0_l))), (5, .c (.own 0 c_2.length))], [.arr 3 1 c_2.length (gL (cInt .i64) 0 c_2)]⟩) (sub_gen [0] rfl rfl ⟨zc rfl rfl, ⟨_, rfl, .inl ⟨rfl, congrArg (Cell.own 0) g4.symm⟩⟩, trivial⟩ ⟨oa rfl, trivial⟩) ?_
  refine SOps.nil ?_
  refine SCode.join (σ := Unit) (S := fun s => ⟨[], []⟩) (g := fun s => curtail_Next_p5 = some r) ?_ ?_
  rotate_left
  · refine SCode.seq ?_
    obtain ⟨c_6, g7, h⟩ := bind_out h
    try dsimp only at h
    refine SCode.region (show SOps _ _ _ [0, 1, 2, 3] _ _ from ?_)
    refine SOps.q rfl (.plain rfl) rfl (q_move rfl rfl) ?_
    refine SOps.e rfl (.plain rfl) (e_call (slices_Compact_int_int_ok F c_2 c_6 g7) [0] rfl fn28 rfl rfl rfl rfl rfl rfl rfl rfl) ?_
    refine SOps.q rfl (.plain rfl) rfl (q_len_own rfl rfl sl54) ?_
    refine SOps.q rfl (.plain rfl) rfl (q_move rfl rfl) ?_
    refine SOps.sub (st' := ⟨[(0, .c (.vec a0_l.length 7 (gL cSCurtail dSCurtail a0_l))), (45, .c (.own 0 c_6.length)), (46, .c (.int .i64 (((c_6).length : Int)))), (47, .c (.int .i64 0))], [.arr 3 1 c_6.length (gL (cInt .i64) 0 c_6)]⟩) (sub_gen [0] rfl rfl ⟨zc rfl rfl, zc rfl rfl, zc rfl rfl, zc rfl rfl, trivial⟩ ⟨oa rfl, trivial⟩) ?_
    refine SOps.nil ?_
    refine SCode.block ?_
    refine SCode.sub (st' := ⟨[(0, .c (.vec a0_l.length 7 (gL cSCurtail dSCurtail a0_l))), (45, .c (.own 0 c_6.length)), (46, .c (.int .i64 (((c_6).length : Int)))), (47, .c (.int .i64 0))], [.arr 3 1 c_6.length (gL (cInt .i64) 0 c_6)]⟩) (sub_gen [0] rfl rfl ⟨zc rfl rfl, zc rfl rfl, zc rfl rfl, zc rfl rfl, trivial⟩ ⟨oa rfl, trivial⟩) ?_
    refine (SCode.loop (σ := Nat × Int) (S := fun s => ⟨[(0, .c (.vec a0_l.length 7 (gL cSCurtail dSCurtail a0_l))), (45, .c (.own 0 c_6.length)), (46, .c (.int .i64 (((c_6).length : Int)))), (47, .c (.int .i64 s.2))], [.arr 3 1 c_6.length (gL (cInt .i64) 0 c_6)]⟩) (g := fun s => curtail_Next_l19 F a0_l c_6 s.1 s.2 = some r) (μ := fun s => s.1) (F, 0) h ?_)
    rintro ⟨n_19, t47_13⟩ h
    replace h : curtail_Next_l19 F a0_l c_6 n_19 t47_13 = some r := h
    show SCode _ _ _ ⟨[(0, .c (.vec a0_l.length 7 (gL cSCurtail dSCurtail a0_l))), (45, .c (.own 0 c_6.length)), (46, .c (.int .i64 (((c_6).length : Int)))), (47, .c (.int .i64 t47_13))], [.arr 3 1 c_6.length (gL (cInt .i64) 0 c_6)]⟩ _
    cases n_19 with
    | zero => cases h
    | succ n_19 =>
      replace h : curtail_Next_b19 F a0_l c_6 (fun t47_13 => curtail_Next_l19 F a0_l c_6 n_19 t47_13) t47_13 = some r := h
      unfold curtail_Next_b19 at h
      refine SCode.seq ?_
      refine SCode.region (show SOps _ _ _ [0] _ _ from ?_)
      refine SOps.q rfl (.plain rfl) rfl (q_lss rfl rfl rfl) ?_
      refine SOps.sub (st' := ⟨[(0, .c (.vec a0_l.length 7 (gL cSCurtail dSCurtail a0_l))), (45, .c (.own 0 c_6.length)), (46, .c (.int .i64 (((c_6).length : Int)))), (47, .c (.int .i64 t47_13)), (48, .c (.bool (decide (t47_13 < ((c_6).length : Int)))))], [.arr 3 1 c_6.length (gL (cInt .i64) 0 c_6)]⟩) (sub_gen [0] rfl rfl ⟨zc rfl rfl, zc rfl rfl, zc rfl rfl, zc rfl rfl, zc rfl rfl, trivial⟩ ⟨oa rfl, trivial⟩) ?_
      refine SOps.nil ?_
      refine SCode.seq ?_
      rcases cond_out h with ⟨g20, h⟩ | ⟨g20, h⟩
      · refine SCode.cond_t rfl g20 ?_
        refine SCode.skip ?_
        refine SCode.seq ?_
        refine SCode.block ?_
        refine SCode.seq ?_
        obtain ⟨g21, h⟩ := guard_out h
        refine SCode.region (show SOps _ _ _ [0, 1, 2] _ _ from ?_)
        refine SOps.q rfl (.plain rfl) rfl (q_index_own rfl rfl rfl sl54 g21.1 g21.2) ?_
        refine SOps.q rfl (.plain rfl) rfl (q_load_aptr rfl rfl rfl (toNat_lt g21) rfl ty3) ?_
        refine SOps.q rfl (.plain rfl) rfl (q_assign rfl rfl) ?_
        refine SOps.sub (st' := ⟨[(0, .c (.vec a0_l.length 7 (gL cSCurtail dSCurtail a0_l))), (11, .c (.int .i64 (c_6.getD t47_13.toNat 0))), (45, .c (.own 0 c_6.length)), (46, .c (.int .i64 (((c_6).length : Int)))), (47, .c (.int .i64 t47_13))], [.arr 3 1 c_6.length (gL (cInt .i64) 0 c_6)]⟩) (sub_gen [0] rfl rfl ⟨zc rfl rfl, zc rfl rfl, zc rfl rfl, zc rfl rfl, zc rfl rfl, trivial⟩ ⟨oa rfl, trivial⟩) ?_
        refine SOps.nil ?_
        refine SCode.seq ?_
        obtain ⟨c_22, g23, h⟩ := bind_out h
        try dsimp only at h
        refine SCode.region (show SOps _ _ _ [0, 1, 2] _ _ from ?_)
        refine SOps.q rfl (.plain rfl) rfl (q_move rfl rfl) ?_
        refine SOps.q rfl (.plain rfl) rfl (q_move rfl rfl) ?_
        refine SOps.q rfl (.plain rfl) rfl (q_call (curtail_differs_ok F a0_l (c_6.getD t47_13.toNat 0) c_22 g23) [] rfl fn29 ⟨⟨_, rfl, .inl ⟨rfl, rfl⟩⟩, ⟨_, rfl, .inl ⟨rfl, rfl⟩⟩, trivial⟩ (.inl rfl)) ?_
        refine SOps.sub (st' := ⟨[(0, .c (.vec a0_l.length 7 (gL cSCurtail dSCurtail a0_l))), (11, .c (.int .i64 (c_6.getD t47_13.toNat 0))), (45, .c (.own 0 c_6.length)), (46, .c (.int .i64 (((c_6).length : Int)))), (47, .c (.int .i64 t47_13)), (53, .c (.bool c_22))], [.arr 3 1 c_6.length (gL (cInt .i64) 0 c_6)]⟩) (sub_gen [0] rfl rfl ⟨zc rfl rfl, zc rfl rfl, zc rfl rfl, zc rfl rfl, zc rfl rfl, zc rfl rfl, trivial⟩ ⟨oa rfl, trivial⟩) ?_
        refine SOps.nil ?_
        rcases cond_out h with ⟨g24, h⟩ | ⟨g24, h⟩
        · refine SCode.cond_t rfl g24 ?_
          refine SCode.seq ?_
          refine SCode.region (show SOps _ _ _ [0, 1] _ _ from ?_)
          refine SOps.q rfl (.plain rfl) rfl (q_move rfl rfl) ?_
          refine SOps.q rfl (.plain rfl) rfl (q_assign rfl rfl) ?_
          refine SOps.sub (st' := ⟨[(4, .c (.int .i64 (c_6.getD t47_13.toNat 0)))], []⟩) (sub_gen [] rfl rfl ⟨zc rfl rfl, trivial⟩ trivial) ?_
          refine SOps.nil ?_
          refine SCode.ret ?_
          obtain rfl := Option.some.inj h
          exact ⟨⟨[(4, .c (.int .i64 (c_6.getD t47_13.toNat 0)))], []⟩, _, sub_gen [] rfl rfl ⟨zc rfl rfl, trivial⟩ trivial, resA1 (v := .c (.int .i64 (c_6.getD t47_13.toNat 0))) rfl rfl, rfl⟩
        refine SCode.cond_f rfl g24 ?_
        refine SCode.skip ?_
        refine SCode.region (show SOps _ _ _ [0, 1] _ _ from ?_)
        refine SOps.q rfl (.plain rfl) rfl (q_add rfl rfl rfl) ?_
        refine SOps.q rfl (.plain rfl) rfl (q_move rfl rfl) ?_
        refine SOps.sub (st' := ⟨[(0, .c (.vec a0_l.length 7 (gL cSCurtail dSCurtail a0_l))), (45, .c (.own 0 c_6.length)), (46, .c (.int .i64 (((c_6).length : Int)))), (47, .c (.int .i64 (IntKind.wrap .i64 (t47_13 + 1))))], [.arr 3 1 c_6.length (gL (cInt .i64) 0 c_6)]⟩) (sub_gen [0] rfl rfl ⟨zc rfl rfl, zc rfl rfl, zc rfl rfl, zc rfl rfl, trivial⟩ ⟨oa rfl, trivial⟩) ?_
        refine SOps.nil ?_
        exact ⟨(n_19, IntKind.wrap .i64 (t47_13 + 1)), h, Nat.lt_succ_self n_19, sub_gen [0] rfl rfl ⟨zc rfl rfl, zc rfl rfl, zc rfl rfl, zc rfl rfl, trivial⟩ ⟨oa rfl, trivial⟩⟩
      refine SCode.cond_f rfl g20 ?_
      refine SCode.exit ?_
      exact ⟨(), h, sub_gen [] rfl rfl trivial trivial⟩
  rintro ⟨⟩ h
  show SCode _ _ _ ⟨[], []⟩ _
  replace h : curtail_Next_p5 = some r := h
  unfold curtail_Next_p5 at h
  refine SCode.seq ?_
  refine SCode.region (show SOps _ _ _ [0] _ _ from ?_)
  refine SOps.q rfl (.plain rfl) rfl (q_assign rfl rfl) ?_
  refine SOps.sub (st' := ⟨[(4, .c (.int .i64 ((-1))))], []⟩) (sub_gen [] rfl rfl ⟨zc rfl rfl, trivial⟩ trivial) ?_
  refine SOps.nil ?_
  refine SCode.ret ?_
  obtain rfl := Option.some.inj h
  exact ⟨⟨[(4, .c (.int .i64 ((-1))))], []⟩, _, sub_gen [] rfl rfl ⟨zc rfl rfl, trivial⟩ trivial, resA1 (v := .c (.int .i64 ((-1)))) rfl rfl, rfl⟩
end Go.Proofs.Ytcccjpkfifefaaa.W
