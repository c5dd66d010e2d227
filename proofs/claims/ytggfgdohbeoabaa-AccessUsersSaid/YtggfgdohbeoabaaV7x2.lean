/- Written by a program of ours (wip/eng/gen.py): the functions compute their models. -/
import Derived.Test.YtggfgdohbeoabaaFacts
import Derived.Test.YtggfgdohbeoabaaV7x1
namespace Go.Proofs.Ytggfgdohbeoabaa.W
open Go Go.Proofs Go.Proofs.Ytggfgdohbeoabaa.E Go.Proofs.Ytggfgdohbeoabaa.M
set_option linter.unusedVariables false
set_option maxRecDepth 100000 in
set_option maxHeartbeats 8000000 in
theorem access_validGrant_ok (F : Nat) (a0_known : List (ByteArray × SRole)) (a1_before : List SGrant) (a2_g : SGrant) (r : Int) (h : access_validGrant F a0_known a1_before a2_g = some r) :
    SFun Try.prog 27 [.map a0_known.length (kG a0_known) (vG (mA 4 cSRole) dSRole a0_known)] [.c (.mp 0), .c (.vec a1_before.length 4 (gL cSGrant dSGrant a1_before)), .a [.str a2_g.User, .str a2_g.Role, .int .i64 a2_g.Span_From, .int .i64 a2_g.Span_To]] (fun x os => x = .c (.int .i64 r) ∧ os = [.map a0_known.length (kG a0_known) (vG (mA 4 cSRole) dSRole a0_known)]) := by
  refine SFun.of (n := 79) Try.func27 rfl rfl rfl ?_
  unfold access_validGrant at h
  show SCode _ _ _ ⟨[(0, .c (.mp 0)), (1, .c (.vec a1_before.length 4 (gL cSGrant dSGrant a1_before))), (2, .a [.str a2_g.User, .str a2_g.Role, .int .i64 a2_g.Span_From, .int .i64 a2_g.Span_To])], [.map a0_known.length (kG a0_known) (vG (mA 4 cSRole) dSRole a0_known)]⟩ _
  refine SCode.seq ?_
  refine SCode.region (show SOps _ _ _ [0, 1] _ _ from ?_)
  refine SOps.e rfl (.plain rfl) (e_box rfl rfl rfl rfl rfl rfl) ?_
  refine SOps.q rfl (.plain rfl) rfl (q_assign rfl rfl) ?_
  refine SOps.sub (st' := ⟨[(0, .c (.mp 0)), (1, .c (.vec a1_before.length 4 (gL cSGrant dSGrant a1_before))), (5, .c (.ptr 1 0))], [.map a0_known.length (kG a0_known) (vG (mA 4 cSRole) dSRole a0_known), .box [.str a2_g.User, .str a2_g.Role, .int .i64 a2_g.Span_From, .int .i64 a2_g.Span_To]]⟩) (sub_gen [0, 1] rfl rfl ⟨zc rfl rfl, zc rfl rfl, zc rfl rfl, trivial⟩ ⟨rfl, ⟨_, rfl, ⟨ii rfl rfl, ii rfl rfl, ii rfl rfl, ii rfl rfl, trivial⟩⟩, trivial⟩) ?_
  refine SOps.nil ?_
  refine SCode.seq ?_
  refine SCode.seq ?_
  obtain ⟨c_1, g2, h⟩ := bind_out h
  try dsimp only at h
  refine SCode.region (show SOps _ _ _ [0, 1, 2, 3] _ _ from ?_)
  refine SOps.q rfl (.plain rfl) rfl (q_field_ptr rfl rfl fd37_0) ?_
  refine SOps.q rfl (.plain rfl) rfl (q_load_ptr rfl rfl rfl rfl ty9) ?_
  refine SOps.q rfl (.plain rfl) rfl (q_call (ident_Valid_ok F a2_g.User c_1 g2) [] rfl fn24 ⟨⟨_, rfl, .inl ⟨rfl, rfl⟩⟩, trivial⟩ (.inl rfl)) ?_
  refine SOps.q rfl (.plain rfl) rfl (q_not rfl rfl) ?_
  refine SOps.sub (st' := ⟨[(0, .c (.mp 0)), (1, .c (.vec a1_before.length 4 (gL cSGrant dSGrant a1_before))), (5, .c (.ptr 1 0)), (14, .c (.bool ((!c_1))))], [.map a0_known.length (kG a0_known) (vG (mA 4 cSRole) dSRole a0_known), .box [.str a2_g.User, .str a2_g.Role, .int .i64 a2_g.Span_From, .int .i64 a2_g.Span_To]]⟩) (sub_gen [0, 1] rfl rfl ⟨zc rfl rfl, zc rfl rfl, zc rfl rfl, zc rfl rfl, trivial⟩ ⟨rfl, ⟨_, rfl, ⟨ii rfl rfl, ii rfl rfl, ii rfl rfl, ii rfl rfl, trivial⟩⟩, trivial⟩) ?_
  refine SOps.nil ?_
  rcases cond_out h with ⟨g3, h⟩ | ⟨g3, h⟩
  · refine SCode.cond_t rfl g3 ?_
    refine SCode.seq ?_
    refine SCode.region (show SOps _ _ _ [0] _ _ from ?_)
    refine SOps.q rfl (.plain rfl) rfl (q_assign rfl rfl) ?_
    refine SOps.sub (st' := ⟨[(6, .c (.int .i64 4))], [.map a0_known.length (kG a0_known) (vG (mA 4 cSRole) dSRole a0_known)]⟩) (sub_gen [0] rfl rfl ⟨zc rfl rfl, trivial⟩ ⟨rfl, trivial⟩) ?_
    refine SOps.nil ?_
    refine SCode.ret ?_
    obtain rfl := Option.some.inj h
    exact ⟨⟨[(6, .c (.int .i64 4))], [.map a0_known.length (kG a0_known) (vG (mA 4 cSRole) dSRole a0_known)]⟩, _, sub_gen [0] rfl rfl ⟨zc rfl rfl, trivial⟩ ⟨rfl, trivial⟩, resA1 (v := .c (.int .i64 4)) rfl rfl, ⟨rfl, rfl⟩⟩
  refine SCode.cond_f rfl g3 ?_
  refine SCode.skip ?_
  refine SCode.seq ?_
  refine SCode.seq ?_
  rcases cond_out h with ⟨g4, h⟩ | ⟨g4, h⟩
  · refine SCode.region (show SOps _ _ _ [0, 1, 2, 3, 4, 5, 6, 7, 8, 9] _ _ from ?_)
    refine SOps.q rfl (.plain rfl) rfl (q_move rfl rfl) ?_
    refine SOps.q rfl (.plain rfl) rfl (q_field_ptr rfl rfl fd37_1) ?_
    refine SOps.q rfl (.plain rfl) rfl (q_load_ptr rfl rfl rfl rfl ty9) ?_
    refine SOps.q rfl (.plain rfl) rfl (q_lookup_t (mv := (mA 4 cSRole)) (d0 := dSRole) (l := a0_known) (s := a2_g.Role) g4 rfl rfl rfl rfl mp55) ?_
    refine SOps.q rfl (.plain rfl) rfl (q_move rfl rfl) ?_
    refine SOps.q rfl (.plain rfl) rfl (q_extract rfl rfl rfl) ?_
    refine SOps.q rfl (.plain rfl) rfl (q_extract rfl rfl rfl) ?_
    refine SOps.e rfl (.plain rfl) (e_alloc rfl rfl rfl z51) ?_
    refine SOps.e rfl (.plain rfl) (e_store_box rfl rfl rfl rfl rfl ty51 rfl rfl rfl rfl) ?_
    refine SOps.q rfl (.plain rfl) rfl (q_assign rfl rfl) ?_
    refine SOps.sub (st' := ⟨[(1, .c (.vec a1_before.length 4 (gL cSGrant dSGrant a1_before))), (5, .c (.ptr 1 0)), (8, .c (.bool true))], [.map a0_known.length (kG a0_known) (vG (mA 4 cSRole) dSRole a0_known), .box [.str a2_g.User, .str a2_g.Role, .int .i64 a2_g.Span_From, .int .i64 a2_g.Span_To]]⟩) (sub_gen [0, 1] rfl rfl ⟨zc rfl rfl, zc rfl rfl, zc rfl rfl, trivial⟩ ⟨rfl, ⟨_, rfl, ⟨ii rfl rfl, ii rfl rfl, ii rfl rfl, ii rfl rfl, trivial⟩⟩, trivial⟩) ?_
    refine SOps.nil ?_
    refine SCode.seq ?_
    refine SCode.region (show SOps _ _ _ [0, 1] _ _ from ?_)
    refine SOps.q rfl (.plain rfl) rfl (q_move rfl rfl) ?_
    refine SOps.q rfl (.plain rfl) rfl (q_not rfl rfl) ?_
    refine SOps.sub (st' := ⟨[(1, .c (.vec a1_before.length 4 (gL cSGrant dSGrant a1_before))), (5, .c (.ptr 1 0)), (23, .c (.bool false))], [.map a0_known.length (kG a0_known) (vG (mA 4 cSRole) dSRole a0_known), .box [.str a2_g.User, .str a2_g.Role, .int .i64 a2_g.Span_From, .int .i64 a2_g.Span_To]]⟩) (sub_gen [0, 1] rfl rfl ⟨zc rfl rfl, zc rfl rfl, zc rfl rfl, trivial⟩ ⟨rfl, ⟨_, rfl, ⟨ii rfl rfl, ii rfl rfl, ii rfl rfl, ii rfl rfl, trivial⟩⟩, trivial⟩) ?_
    refine SOps.nil ?_
    refine SCode.cond_f rfl rfl ?_
    refine SCode.skip ?_
    refine SCode.seq ?_
    refine SCode.seq ?_
    rcases cond_out h with ⟨g5, h⟩ | ⟨g5, h⟩
    · refine SCode.region (show SOps _ _ _ [0, 1, 2, 3, 4, 5, 6, 7, 8, 9] _ _ from ?_)
      refine SOps.q rfl (.plain rfl) rfl (q_field_ptr rfl rfl fd37_2) ?_
      refine SOps.q rfl (.plain rfl) rfl (q_field_ptr rfl rfl fd35_0) ?_
      refine SOps.q rfl (.plain rfl) rfl (q_load_ptr rfl rfl rfl rfl ty3) ?_
      refine SOps.q rfl (.plain rfl) rfl (q_lss rfl rfl rfl) ?_
      refine SOps.q rfl (.plain rfl) rfl (q_move rfl rfl) ?_
      refine SOps.skip rfl 4 28 false rfl rfl (.inl (gT g5)) rfl ?_
      refine SOps.skip rfl 4 28 false rfl rfl (.inl (gT g5)) rfl ?_
      refine SOps.skip rfl 4 28 false rfl rfl (.inl (gT g5)) rfl ?_
      refine SOps.skip rfl 4 28 false rfl rfl (.inl (gT g5)) rfl ?_
      refine SOps.q rfl (.plain rfl) rfl (q_pick_t rfl rfl g5 rfl) ?_
      refine SOps.sub (st' := ⟨[(1, .c (.vec a1_before.length 4 (gL cSGrant dSGrant a1_before))), (5, .c (.ptr 1 0)), (33, .c (.bool true))], [.map a0_known.length (kG a0_known) (vG (mA 4 cSRole) dSRole a0_known), .box [.str a2_g.User, .str a2_g.Role, .int .i64 a2_g.Span_From, .int .i64 a2_g.Span_To]]⟩) (sub_gen [0, 1] rfl rfl ⟨zc rfl rfl, zc rfl rfl, zc rfl rfl, trivial⟩ ⟨rfl, ⟨_, rfl, ⟨ii rfl rfl, ii rfl rfl, ii rfl rfl, ii rfl rfl, trivial⟩⟩, trivial⟩) ?_
      refine SOps.nil ?_
      refine SCode.cond_t rfl rfl ?_
      refine SCode.seq ?_
      refine SCode.region (show SOps _ _ _ [0] _ _ from ?_)
      refine SOps.q rfl (.plain rfl) rfl (q_assign rfl rfl) ?_
      refine SOps.sub (st' := ⟨[(6, .c (.int .i64 2))], [.map a0_known.length (kG a0_known) (vG (mA 4 cSRole) dSRole a0_known)]⟩) (sub_gen [0] rfl rfl ⟨zc rfl rfl, trivial⟩ ⟨rfl, trivial⟩) ?_
      refine SOps.nil ?_
      refine SCode.ret ?_
      obtain rfl := Option.some.inj h
      exact ⟨⟨[(6, .c (.int .i64 2))], [.map a0_known.length (kG a0_known) (vG (mA 4 cSRole) dSRole a0_known)]⟩, _, sub_gen [0] rfl rfl ⟨zc rfl rfl, trivial⟩ ⟨rfl, trivial⟩, resA1 (v := .c (.int .i64 2)) rfl rfl, ⟨rfl, rfl⟩⟩
    refine SCode.region (show SOps _ _ _ [0, 1, 2, 3, 4, 5, 6, 7, 8, 9] _ _ from ?_)
    refine SOps.q rfl (.plain rfl) rfl (q_field_ptr rfl rfl fd37_2) ?_
    refine SOps.q rfl (.plain rfl) rfl (q_field_ptr rfl rfl fd35_0) ?_
    refine SOps.q rfl (.plain rfl) rfl (q_load_ptr rfl rfl rfl rfl ty3) ?_
    refine SOps.q rfl (.plain rfl) rfl (q_lss rfl rfl rfl) ?_
    refine SOps.q rfl (.plain rfl) rfl (q_move rfl rfl) ?_
    refine SOps.q rfl (.guard 4 28 false rfl rfl (gF g5)) rfl (q_field_ptr rfl rfl fd37_2) ?_
    refine SOps.q rfl (.guard 4 28 false rfl rfl (gF g5)) rfl (q_field_ptr rfl rfl fd35_0) ?_
    refine SOps.q rfl (.guard 4 28 false rfl rfl (gF g5)) rfl (q_load_ptr rfl rfl rfl rfl ty3) ?_
    refine SOps.q rfl (.guard 4 28 false rfl rfl (gF g5)) rfl (q_gtr rfl rfl rfl) ?_
    refine SOps.q rfl (.plain rfl) rfl (q_pick_f rfl rfl g5 rfl) ?_
    refine SOps.sub (st' := ⟨[(1, .c (.vec a1_before.length 4 (gL cSGrant dSGrant a1_before))), (5, .c (.ptr 1 0)), (33, .c (.bool (decide (268435456 < a2_g.Span_From))))], [.map a0_known.length (kG a0_known) (vG (mA 4 cSRole) dSRole a0_known), .box [.str a2_g.User, .str a2_g.Role, .int .i64 a2_g.Span_From, .int .i64 a2_g.Span_To]]⟩) (sub_gen [0, 1] rfl rfl ⟨zc rfl rfl, zc rfl rfl, zc rfl rfl, trivial⟩ ⟨rfl, ⟨_, rfl, ⟨ii rfl rfl, ii rfl rfl, ii rfl rfl, ii rfl rfl, trivial⟩⟩, trivial⟩) ?_
    refine SOps.nil ?_
    rcases cond_out h with ⟨g6, h⟩ | ⟨g6, h⟩
    · refine SCode.cond_t rfl g6 ?_
      refine SCode.seq ?_
      refine SCode.region (show SOps _ _ _ [0] _ _ from ?_)
      refine SOps.q rfl (.plain rfl) rfl (q_assign rfl rfl) ?_
      refine SOps.sub (st' := ⟨[(6, .c (.int .i64 2))], [.map a0_known.length (kG a0_known) (vG (mA 4 cSRole) dSRole a0_known)]⟩) (sub_gen [0] rfl rfl ⟨zc rfl rfl, trivial⟩ ⟨rfl, trivial⟩) ?_
      refine SOps.nil ?_
      refine SCode.ret ?_
      obtain rfl := Option.some.inj h
      exact ⟨⟨[(6, .c (.int .i64 2))], [.map a0_known.length (kG a0_known) (vG (mA 4 cSRole) dSRole a0_known)]⟩, _, sub_gen [0] rfl rfl ⟨zc rfl rfl, trivial⟩ ⟨rfl, trivial⟩, resA1 (v := .c (.int .i64 2)) rfl rfl, ⟨rfl, rfl⟩⟩
    refine SCode.cond_f rfl g6 ?_
    refine SCode.skip ?_
    refine SCode.join (σ := Unit) (S := fun s => ⟨[(1, .c (.vec a1_before.length 4 (gL cSGrant dSGrant a1_before))), (5, .c (.ptr 1 0))], [.map a0_known.length (kG a0_known) (vG (mA 4 cSRole) dSRole a0_known), .box [.str a2_g.User, .str a2_g.Role, .int .i64 a2_g.Span_From, .int .i64 a2_g.Span_To]]⟩) (g := fun s => access_validGrant_p34 F a1_before a2_g = some r) ?_ ?_
    rotate_left
    · refine SCode.seq ?_
      rcases cond_out h with ⟨g35, h⟩ | ⟨g35, h⟩
      · rcases cond_out h with ⟨g36, h⟩ | ⟨g36, h⟩
        · refine SCode.region (show SOps _ _ _ [0, 1, 2, 3, 4, 5, 6, 7, 8, 9, 10, 11, 12, 13, 14, 15, 16, 17, 18] _ _ from ?_)
          refine SOps.q rfl (.plain rfl) rfl (q_field_ptr rfl rfl fd37_2) ?_
          refine SOps.q rfl (.plain rfl) rfl (q_field_ptr rfl rfl fd35_1) ?_
          refine SOps.q rfl (.plain rfl) rfl (q_load_ptr rfl rfl rfl rfl ty3) ?_
          refine SOps.q rfl (.plain rfl) rfl (q_neq rfl rfl rfl) ?_
          refine SOps.q rfl (.plain rfl) rfl (q_move rfl rfl) ?_
          refine SOps.q rfl (.guard 4 38 true rfl rfl (gT g35)) rfl (q_field_ptr rfl rfl fd37_2) ?_
          refine SOps.q rfl (.guard 4 38 true rfl rfl (gT g35)) rfl (q_field_ptr rfl rfl fd35_1) ?_
          refine SOps.q rfl (.guard 4 38 true rfl rfl (gT g35)) rfl (q_load_ptr rfl rfl rfl rfl ty3) ?_
          refine SOps.q rfl (.guard 4 38 true rfl rfl (gT g35)) rfl (q_field_ptr rfl rfl fd37_2) ?_
          refine SOps.q rfl (.guard 4 38 true rfl rfl (gT g35)) rfl (q_field_ptr rfl rfl fd35_0) ?_
          refine SOps.q rfl (.guard 4 38 true rfl rfl (gT g35)) rfl (q_load_ptr rfl rfl rfl rfl ty3) ?_
          refine SOps.q rfl (.guard 4 38 true rfl rfl (gT g35)) rfl (q_lss rfl rfl rfl) ?_
          refine SOps.q rfl (.guard 4 38 true rfl rfl (gT g35)) rfl (q_move rfl rfl) ?_
          refine SOps.skip rfl 12 46 false rfl rfl (.inl (gT g36)) rfl ?_
          refine SOps.skip rfl 12 46 false rfl rfl (.inl (gT g36)) rfl ?_
          refine SOps.skip rfl 12 46 false rfl rfl (.inl (gT g36)) rfl ?_
          refine SOps.skip rfl 12 46 false rfl rfl (.inl (gT g36)) rfl ?_
          refine SOps.q rfl (.guard 4 38 true rfl rfl (gT g35)) rfl (q_pick_t rfl rfl g36 rfl) ?_
          refine SOps.q rfl (.plain rfl) rfl (q_pick_t rfl rfl g35 rfl) ?_
          refine SOps.sub (st' := ⟨[(1, .c (.vec a1_before.length 4 (gL cSGrant dSGrant a1_before))), (5, .c (.ptr 1 0)), (52, .c (.bool true))], [.map a0_known.length (kG a0_known) (vG (mA 4 cSRole) dSRole a0_known), .box [.str a2_g.User, .str a2_g.Role, .int .i64 a2_g.Span_From, .int .i64 a2_g.Span_To]]⟩) (sub_gen [0, 1] rfl rfl ⟨zc rfl rfl, zc rfl rfl, zc rfl rfl, trivial⟩ ⟨rfl, ⟨_, rfl, ⟨ii rfl rfl, ii rfl rfl, ii rfl rfl, ii rfl rfl, trivial⟩⟩, trivial⟩) ?_
          refine SOps.nil ?_
          refine SCode.cond_t rfl rfl ?_
          refine SCode.seq ?_
          refine SCode.region (show SOps _ _ _ [0] _ _ from ?_)
          refine SOps.q rfl (.plain rfl) rfl (q_assign rfl rfl) ?_
          refine SOps.sub (st' := ⟨[(6, .c (.int .i64 2))], [.map a0_known.length (kG a0_known) (vG (mA 4 cSRole) dSRole a0_known)]⟩) (sub_gen [0] rfl rfl ⟨zc rfl rfl, trivial⟩ ⟨rfl, trivial⟩) ?_
          refine SOps.nil ?_
          refine SCode.ret ?_
          obtain rfl := Option.some.inj h
          exact ⟨⟨[(6, .c (.int .i64 2))], [.map a0_known.length (kG a0_known) (vG (mA 4 cSRole) dSRole a0_known)]⟩, _, sub_gen [0] rfl rfl ⟨zc rfl rfl, trivial⟩ ⟨rfl, trivial⟩, resA1 (v := .c (.int .i64 2)) rfl rfl, ⟨rfl, rfl⟩⟩
        refine SCode.region (show SOps _ _ _ [0, 1, 2, 3, 4, 5, 6, 7, 8, 9, 10, 11, 12, 13, 14, 15, 16, 17, 18] _ _ from ?_)
        refine SOps.q rfl (.plain rfl) rfl (q_field_ptr rfl rfl fd37_2) ?_
        refine SOps.q rfl (.plain rfl) rfl (q_field_ptr rfl rfl fd35_1) ?_
        refine SOps.q rfl (.plain rfl) rfl (q_load_ptr rfl rfl rfl rfl ty3) ?_
        refine SOps.q rfl (.plain rfl) rfl (q_neq rfl rfl rfl) ?_
        refine SOps.q rfl (.plain rfl) rfl (q_move rfl rfl) ?_
        refine SOps.q rfl (.guard 4 38 true rfl rfl (gT g35)) rfl (q_field_ptr rfl rfl fd37_2) ?_
        refine SOps.q rfl (.guard 4 38 true rfl rfl (gT g35)) rfl (q_field_ptr rfl rfl fd35_1) ?_
        refine SOps.q rfl (.guard 4 38 true rfl rfl (gT g35)) rfl (q_load_ptr rfl rfl rfl rfl ty3) ?_
        refine SOps.q rfl (.guard 4 38 true rfl rfl (gT g35)) rfl (q_field_ptr rfl rfl fd37_2) ?_
        refine SOps.q rfl (.guard 4 38 true rfl rfl (gT g35)) rfl (q_field_ptr rfl rfl fd35_0) ?_
        refine SOps.q rfl (.guard 4 38 true rfl rfl (gT g35)) rfl (q_load_ptr rfl rfl rfl rfl ty3) ?_
        refine SOps.q rfl (.guard 4 38 true rfl rfl (gT g35)) rfl (q_lss rfl rfl rfl) ?_
        refine SOps.q rfl (.guard 4 38 true rfl rfl (gT g35)) rfl (q_move rfl rfl) ?_
        refine SOps.q rfl (.guard 12 46 false rfl rfl (gF g36)) rfl (q_field_ptr rfl rfl fd37_2) ?_
        refine SOps.q rfl (.guard 12 46 false rfl rfl (gF g36)) rfl (q_field_ptr rfl rfl fd35_1) ?_
        refine SOps.q rfl (.guard 12 46 false rfl rfl (gF g36)) rfl (q_load_ptr rfl rfl rfl rfl ty3) ?_
        refine SOps.q rfl (.guard 12 46 false rfl rfl (gF g36)) rfl (q_gtr rfl rfl rfl) ?_
        refine SOps.q rfl (.guard 4 38 true rfl rfl (gT g35)) rfl (q_pick_f rfl rfl g36 rfl) ?_
        refine SOps.q rfl (.plain rfl) rfl (q_pick_t rfl rfl g35 rfl) ?_
        refine SOps.sub (st' := ⟨[(1, .c (.vec a1_before.length 4 (gL cSGrant dSGrant a1_before))), (5, .c (.ptr 1 0)), (52, .c (.bool (decide (268435456 < a2_g.Span_To))))], [.map a0_known.length (kG a0_known) (vG (mA 4 cSRole) dSRole a0_known), .box [.str a2_g.User, .str a2_g.Role, .int .i64 a2_g.Span_From, .int .i64 a2_g.Span_To]]⟩) (sub_gen [0, 1] rfl rfl ⟨zc rfl rfl, zc rfl rfl, zc rfl rfl, trivial⟩ ⟨rfl, ⟨_, rfl, ⟨ii rfl rfl, ii rfl rfl, ii rfl rfl, ii rfl rfl, trivial⟩⟩, trivial⟩) ?_
        refine SOps.nil ?_
        rcases cond_out h with ⟨g37, h⟩ | ⟨g37, h⟩
        · refine SCode.cond_t rfl g37 ?_
          refine SCode.seq ?_
          refine SCode.region (show SOps _ _ _ [0] _ _ from ?_)
          refine SOps.q rfl (.plain rfl) rfl (q_assign rfl rfl) ?_
          refine SOps.sub (st' := ⟨[(6, .c (.int .i64 2))], [.map a0_known.length (kG a0_known) (vG (mA 4 cSRole) dSRole a0_known)]⟩) (sub_gen [0] rfl rfl ⟨zc rfl rfl, trivial⟩ ⟨rfl, trivial⟩) ?_
          refine SOps.nil ?_
          refine SCode.ret ?_
          obtain rfl := Option.some.inj h
          exact ⟨⟨[(6, .c (.int .i64 2))], [.map a0_known.length (kG a0_known) (vG (mA 4 cSRole) dSRole a0_known)]⟩, _, sub_gen [0] rfl rfl ⟨zc rfl rfl, trivial⟩ ⟨rfl, trivial⟩, resA1 (v := .c (.int .i64 2)) rfl rfl, ⟨rfl, rfl⟩⟩
        refine SCode.cond_f rfl g37 ?_
        refine SCode.skip ?_
        exact ⟨(), h, sub_gen [0, 1] rfl rfl ⟨zc rfl rfl, zc rfl rfl, trivial⟩ ⟨rfl, ⟨_, rfl, ⟨ii rfl rfl, ii rfl rfl, ii rfl rfl, ii rfl rfl, trivial⟩⟩, trivial⟩⟩
      refine SCode.region (show SOps _ _ _ [0, 1, 2, 3, 4, 5, 6, 7, 8, 9, 10, 11, 12, 13, 14, 15, 16, 17, 18] _ _ from ?_)
      refine SOps.q rfl (.plain rfl) rfl (q_field_ptr rfl rfl fd37_2) ?_
      refine SOps.q rfl (.plain rfl) rfl (q_field_ptr rfl rfl fd35_1) ?_
      refine SOps.q rfl (.plain rfl) rfl (q_load_ptr rfl rfl rfl rfl ty3) ?_
      refine SOps.q rfl (.plain rfl) rfl (q_neq rfl rfl rfl) ?_
      refine SOps.q rfl (.plain rfl) rfl (q_move rfl rfl) ?_
      refine SOps.skip rfl 4 38 true rfl rfl (.inl (gF g35)) rfl ?_
      refine SOps.skip rfl 4 38 true rfl rfl (.inl (gF g35)) rfl ?_
      refine SOps.skip rfl 4 38 true rfl rfl (.inl (gF g35)) rfl ?_
      refine SOps.skip rfl 4 38 true rfl rfl (.inl (gF g35)) rfl ?_
      refine SOps.skip rfl 4 38 true rfl rfl (.inl (gF g35)) rfl ?_
      refine SOps.skip rfl 4 38 true rfl rfl (.inl (gF g35)) rfl ?_
      refine SOps.skip rfl 4 38 true rfl rfl (.inl (gF g35)) rfl ?_
      refine SOps.skip rfl 4 38 true rfl rfl (.inl (gF g35)) rfl ?_
      refine SOps.skip rfl 12 46 false rfl rfl (.inr rfl) rfl ?_
      refine SOps.skip rfl 12 46 false rfl rfl (.inr rfl) rfl ?_
      refine SOps.skip rfl 12 46 false rfl rfl (.inr rfl) rfl ?_
      refine SOps.skip rfl 12 46 false rfl rfl (.inr rfl) rfl ?_
      refine SOps.skip rfl 4 38 true rfl rfl (.inl (gF g35)) rfl ?_
      refine SOps.q rfl (.plain rfl) rfl (q_pick_f rfl rfl g35 rfl) ?_
      refine SOps.sub (st' := ⟨[(1, .c (.vec a1_before.length 4 (gL cSGrant dSGrant a1_before))), (5, .c (.ptr 1 0)), (52, .c (.bool false))], [.map a0_known.length (kG a0_known) (vG (mA 4 cSRole) dSRole a0_known), .box [.str a2_g.User, .str a2_g.Role, .int .i64 a2_g.Span_From, .int .i64 a2_g.Span_To]]⟩) (sub_gen [0, 1] rfl rfl ⟨zc rfl rfl, zc rfl rfl, zc rfl rfl, trivial⟩ ⟨rfl, ⟨_, rfl, ⟨ii rfl rfl, ii rfl rfl, ii rfl rfl, ii rfl rfl, trivial⟩⟩, trivial⟩) ?_
      refine SOps.nil ?_
      refine SCode.cond_f rfl rfl ?_
      refine SCode.skip ?_
      exact ⟨(), h, sub_gen [0, 1] rfl rfl ⟨zc rfl rfl, zc rfl rfl, trivial⟩ ⟨rfl, ⟨_, rfl, ⟨ii rfl rfl, ii rfl rfl, ii rfl rfl, ii rfl rfl, trivial⟩⟩, trivial⟩⟩
    rintro ⟨⟩ h
    show SCode _ _ _ ⟨[(1, .c (.vec a1_before.length 4 (gL cSGrant dSGrant a1_before))), (5, .c (.ptr 1 0))], [.map a0_known.length (kG a0_known) (vG (mA 4 cSRole) dSRole a0_known), .box [.str a2_g.User, .str a2_g.Role, .int .i64 a2_g.Span_From, .int .i64 a2_g.Span_To]]⟩ _
    replace h : access_validGrant_p34 F a1_before a2_g = some r := h
    unfold access_validGrant_p34 at h
    refine SCode.join (σ := Unit) (S := fun s => ⟨[], [.map a0_known.length (kG a0_known) (vG (mA 4 cSRole) dSRole a0_known)]⟩) (g := fun s => access_validGrant_p7 = some r) ?_ ?_
    rotate_left
    · refine SCode.seq ?_
      refine SCode.region (show SOps _ _ _ [0, 1, 2] _ _ from ?_)
      refine SOps.q rfl (.plain rfl) rfl (q_move rfl rfl) ?_
      refine SOps.q rfl (.plain rfl) rfl (q_len_vec rfl rfl sl23) ?_
      refine SOps.q rfl (.plain rfl) rfl (q_move rfl rfl) ?_
      refine SOps.sub (st' := ⟨[(5, .c (.ptr 1 0)), (53, .c (.vec a1_before.length 4 (gL cSGrant dSGrant a1_before))), (54, .c (.int .i64 (((a1_before).length : Int)))), (55, .c (.int .i64 0))], [.map a0_known.length (kG a0_known) (vG (mA 4 cSRole) dSRole a0_known), .box [.str a2_g.User, .str a2_g.Role, .int .i64 a2_g.Span_From, .int .i64 a2_g.Span_To]]⟩) (sub_gen [0, 1] rfl rfl ⟨zc rfl rfl, zc rfl rfl, zc rfl rfl, zc rfl rfl, trivial⟩ ⟨rfl, ⟨_, rfl, ⟨ii rfl rfl, ii rfl rfl, ii rfl rfl, ii rfl rfl, trivial⟩⟩, trivial⟩) ?_
      refine SOps.nil ?_
      refine SCode.block ?_
      refine SCode.sub (st' := ⟨[(5, .c (.ptr 1 0)), (53, .c (.vec a1_before.length 4 (gL cSGrant dSGrant a1_before))), (54, .c (.int .i64 (((a1_before).length : Int)))), (55, .c (.int .i64 0))], [.map a0_known.length (kG a0_known) (vG (mA 4 cSRole) dSRole a0_known), .box [.str a2_g.User, .str a2_g.Role, .int .i64 a2_g.Span_From, .int .i64 a2_g.Span_To]]⟩) (sub_gen [0, 1] rfl rfl ⟨zc rfl rfl, zc rfl rfl, zc rfl rfl, zc rfl rfl, trivial⟩ ⟨rfl, ⟨_, rfl, ⟨ii rfl rfl, ii rfl rfl, ii rfl rfl, ii rfl rfl, trivial⟩⟩, trivial⟩) ?_
      refine (SCode.loop (σ := Nat × Int) (S := fun s => ⟨[(5, .c (.ptr 1 0)), (53, .c (.vec a1_before.length 4 (gL cSGrant dSGrant a1_before))), (54, .c (.int .i64 (((a1_before).length : Int)))), (55, .c (.int .i64 s.2))], [.map a0_known.length (kG a0_known) (vG (mA 4 cSRole) dSRole a0_known), .box [.str a2_g.User, .str a2_g.Role, .int .i64 a2_g.Span_From, .int .i64 a2_g.Span_To]]⟩) (g := fun s => access_validGrant_l25 F a1_before a2_g s.1 s.2 = some r) (μ := fun s => s.1) (F, 0) h ?_)
      rintro ⟨n_25, t55_16⟩ h
      replace h : access_validGrant_l25 F a1_before a2_g n_25 t55_16 = some r := h
      show SCode _ _ _ ⟨[(5, .c (.ptr 1 0)), (53, .c (.vec a1_before.length 4 (gL cSGrant dSGrant a1_before))), (54, .c (.int .i64 (((a1_before).length : Int)))), (55, .c (.int .i64 t55_16))], [.map a0_known.length (kG a0_known) (vG (mA 4 cSRole) dSRole a0_known), .box [.str a2_g.User, .str a2_g.Role, .int .i64 a2_g.Span_From, .int .i64 a2_g.Span_To]]⟩ _
      cases n_25 with
      | zero => cases h
      | succ n_25 =>
        replace h : access_validGrant_b25 F a1_before a2_g (fun t55_16 => access_validGrant_l25 F a1_before a2_g n_25 t55_16) t55_16 = some r := h
        unfold access_validGrant_b25 at h
        refine SCode.seq ?_
        refine SCode.region (show SOps _ _ _ [0] _ _ from ?_)
        refine SOps.q rfl (.plain rfl) rfl (q_lss rfl rfl rfl) ?_
        refine SOps.sub (st' := ⟨[(5, .c (.ptr 1 0)), (53, .c (.vec a1_before.length 4 (gL cSGrant dSGrant a1_before))), (54, .c (.int .i64 (((a1_before).length : Int)))), (55, .c (.int .i64 t55_16)), (56, .c (.bool (decide (t55_16 < ((a1_before).length : Int)))))], [.map a0_known.length (kG a0_known) (vG (mA 4 cSRole) dSRole a0_known), .box [.str a2_g.User, .str a2_g.Role, .int .i64 a2_g.Span_From, .int .i64 a2_g.Span_To]]⟩) (sub_gen [0, 1] rfl rfl ⟨zc rfl rfl, zc rfl rfl, zc rfl rfl, zc rfl rfl, zc rfl rfl, trivial⟩ ⟨rfl, ⟨_, rfl, ⟨ii rfl rfl, ii rfl rfl, ii rfl rfl, ii rfl rfl, trivial⟩⟩, trivial⟩) ?_
        refine SOps.nil ?_
        refine SCode.seq ?_
        rcases cond_out h with ⟨g26, h⟩ | ⟨g26, h⟩
        · refine SCode.cond_t rfl g26 ?_
          refine SCode.skip ?_
          refine SCode.join (σ := Unit) (S := fun s => ⟨[(5, .c (.ptr 1 0)), (53, .c (.vec a1_before.length 4 (gL cSGrant dSGrant a1_before))), (54, .c (.int .i64 (((a1_before).length : Int)))), (55, .c (.int .i64 t55_16))], [.map a0_known.length (kG a0_known) (vG (mA 4 cSRole) dSRole a0_known), .box [.str a2_g.User, .str a2_g.Role, .int .i64 a2_g.Span_From, .int .i64 a2_g.Span_To]]⟩) (g := fun s => access_validGrant_p27 t55_16 (fun t55_16 => access_validGrant_l25 F a1_before a2_g n_25 t55_16) = some r) ?_ ?_
          rotate_left
          · refine SCode.block ?_
            refine SCode.seq ?_
            obtain ⟨g28, h⟩ := guard_out h
            refine SCode.region (show SOps _ _ _ [0, 1, 2, 3] _ _ from ?_)
            refine SOps.q rfl (.plain rfl) rfl (q_index_vec rfl rfl rfl sl23 rfl g28.1 g28.2) ?_
            refine SOps.q rfl (.plain rfl) rfl (q_load_eptr_all rfl rfl rfl ty37) ?_
            refine SOps.e rfl (.plain rfl) (e_alloc rfl rfl rfl z37) ?_
            refine SOps.e rfl (.plain rfl) (e_store_box rfl rfl rfl rfl rfl ty37 rfl rfl rfl rfl) ?_
            refine SOps.sub (st' := ⟨[(5, .c (.ptr 1 0)), (10, .c (.ptr 2 0)), (53, .c (.vec a1_before.length 4 (gL cSGrant dSGrant a1_before))), (54, .c (.int .i64 (((a1_before).length : Int)))), (55, .c (.int .i64 t55_16))], [.map a0_known.length (kG a0_known) (vG (mA 4 cSRole) dSRole a0_known), .box [.str a2_g.User, .str a2_g.Role, .int .i64 a2_g.Span_From, .int .i64 a2_g.Span_To], .box [.str ((a1_before.getD t55_16.toNat dSGrant).User), .str ((a1_before.getD t55_16.toNat dSGrant).Role), .int .i64 ((a1_before.getD t55_16.toNat dSGrant).Span_From), .int .i64 ((a1_before.getD t55_16.toNat dSGrant).Span_To)]]⟩) (sub_gen [0, 1, 2] rfl rfl ⟨zc rfl rfl, zc rfl rfl, zc rfl rfl, zc rfl rfl, zc rfl rfl, trivial⟩ ⟨rfl, ⟨_, rfl, ⟨ii rfl rfl, ii rfl rfl, ii rfl rfl, ii rfl rfl, trivial⟩⟩, ⟨_, rfl, ⟨ii rfl rfl, ii rfl rfl, ii rfl rfl, ii rfl rfl, trivial⟩⟩, trivial⟩) ?_
            refine SOps.nil ?_
            refine SCode.seq ?_
            rcases cond_out h with ⟨g29, h⟩ | ⟨g29, h⟩
            · rcases cond_out h with ⟨g30, h⟩ | ⟨g30, h⟩
              · obtain ⟨c_31, g32, h⟩ := bind_out h
                try dsimp only at h
                refine SCode.region (show SOps _ _ _ [0, 1, 2, 3, 4, 5, 6, 7, 8, 9, 10, 11, 12, 13, 14, 15, 16, 17, 18] _ _ from ?_)
                refine SOps.q rfl (.plain rfl) rfl (q_field_ptr rfl rfl fd37_0) ?_
                refine SOps.q rfl (.plain rfl) rfl (q_load_ptr rfl rfl rfl rfl ty9) ?_
                refine SOps.q rfl (.plain rfl) rfl (q_field_ptr rfl rfl fd37_0) ?_
                refine SOps.q rfl (.plain rfl) rfl (q_load_ptr rfl rfl rfl rfl ty9) ?_
                refine SOps.q rfl (.plain rfl) rfl (q_eqlS rfl rfl rfl) ?_
                refine SOps.q rfl (.plain rfl) rfl (q_move rfl rfl) ?_
                refine SOps.q rfl (.guard 5 64 true rfl rfl (gT g29)) rfl (q_field_ptr rfl rfl fd37_1) ?_
                refine SOps.q rfl (.guard 5 64 true rfl rfl (gT g29)) rfl (q_load_ptr rfl rfl rfl rfl ty9) ?_
                refine SOps.q rfl (.guard 5 64 true rfl rfl (gT g29)) rfl (q_field_ptr rfl rfl fd37_1) ?_
                refine SOps.q rfl (.guard 5 64 true rfl rfl (gT g29)) rfl (q_load_ptr rfl rfl rfl rfl ty9) ?_
                refine SOps.q rfl (.guard 5 64 true rfl rfl (gT g29)) rfl (q_eqlS rfl rfl rfl) ?_
                refine SOps.q rfl (.plain rfl) rfl (q_pick_t rfl rfl g29 rfl) ?_
                refine SOps.q rfl (.plain rfl) rfl (q_move rfl rfl) ?_
                refine SOps.q rfl (.guard 12 71 true rfl rfl (gT g30)) rfl (q_field_ptr rfl rfl fd37_2) ?_
                refine SOps.q rfl (.guard 12 71 true rfl rfl (gT g30)) rfl (q_load_ptr_all rfl rfl rfl rfl rfl ty35) ?_
                refine SOps.q rfl (.guard 12 71 true rfl rfl (gT g30)) rfl (q_field_ptr rfl rfl fd37_2) ?_
                refine SOps.q rfl (.guard 12 71 true rfl rfl (gT g30)) rfl (q_load_ptr_all rfl rfl rfl rfl rfl ty35) ?_
                refine SOps.q rfl (.guard 12 71 true rfl rfl (gT g30)) rfl (q_call (access_overlap_ok F (SSpan.mk ((a1_before.getD t55_16.toNat dSGrant).Span_From) ((a1_before.getD t55_16.toNat dSGrant).Span_To)) (SSpan.mk a2_g.Span_From a2_g.Span_To) c_31 g32) [] rfl fn39 ⟨⟨rfl, rfl⟩, ⟨rfl, rfl⟩, trivial⟩ (.inl rfl)) ?_
                refine SOps.q rfl (.plain rfl) rfl (q_pick_t rfl rfl g30 rfl) ?_
                refine SOps.sub (st' := ⟨[(5, .c (.ptr 1 0)), (53, .c (.vec a1_before.length 4 (gL cSGrant dSGrant a1_before))), (54, .c (.int .i64 (((a1_before).length : Int)))), (55, .c (.int .i64 t55_16)), (77, .c (.bool c_31))], [.map a0_known.length (kG a0_known) (vG (mA 4 cSRole) dSRole a0_known), .box [.str a2_g.User, .str a2_g.Role, .int .i64 a2_g.Span_From, .int .i64 a2_g.Span_To]]⟩) (sub_gen [0, 1] rfl rfl ⟨zc rfl rfl, zc rfl rfl, zc rfl rfl, zc rfl rfl, zc rfl rfl, trivial⟩ ⟨rfl, ⟨_, rfl, ⟨ii rfl rfl, ii rfl rfl, ii rfl rfl, ii rfl rfl, trivial⟩⟩, trivial⟩) ?_
                refine SOps.nil ?_
                rcases cond_out h with ⟨g33, h⟩ | ⟨g33, h⟩
                · refine SCode.cond_t rfl g33 ?_
                  refine SCode.seq ?_
                  refine SCode.region (show SOps _ _ _ [0] _ _ from ?_)
                  refine SOps.q rfl (.plain rfl) rfl (q_assign rfl rfl) ?_
                  refine SOps.sub (st' := ⟨[(6, .c (.int .i64 9))], [.map a0_known.length (kG a0_known) (vG (mA 4 cSRole) dSRole a0_known)]⟩) (sub_gen [0] rfl rfl ⟨zc rfl rfl, trivial⟩ ⟨rfl, trivial⟩) ?_
                  refine SOps.nil ?_
                  refine SCode.ret ?_
                  obtain rfl := Option.some.inj h
                  exact ⟨⟨[(6, .c (.int .i64 9))], [.map a0_known.length (kG a0_known) (vG (mA 4 cSRole) dSRole a0_known)]⟩, _, sub_gen [0] rfl rfl ⟨zc rfl rfl, trivial⟩ ⟨rfl, trivial⟩, resA1 (v := .c (.int .i64 9)) rfl rfl, ⟨rfl, rfl⟩⟩
                refine SCode.cond_f rfl g33 ?_
                refine SCode.skip ?_
                exact ⟨(), h, sub_gen [0, 1] rfl rfl ⟨zc rfl rfl, zc rfl rfl, zc rfl rfl, zc rfl rfl, trivial⟩ ⟨rfl, ⟨_, rfl, ⟨ii rfl rfl, ii rfl rfl, ii rfl rfl, ii rfl rfl, trivial⟩⟩, trivial⟩⟩
              refine SCode.region (show SOps _ _ _ [0, 1, 2, 3, 4, 5, 6, 7, 8, 9, 10, 11, 12, 13, 14, 15, 16, 17, 18] _ _ from ?_)
              refine SOps.q rfl (.plain rfl) rfl (q_field_ptr rfl rfl fd37_0) ?_
              refine SOps.q rfl (.plain rfl) rfl (q_load_ptr rfl rfl rfl rfl ty9) ?_
              refine SOps.q rfl (.plain rfl) rfl (q_field_ptr rfl rfl fd37_0) ?_
              refine SOps.q rfl (.plain rfl) rfl (q_load_ptr rfl rfl rfl rfl ty9) ?_
              refine SOps.q rfl (.plain rfl) rfl (q_eqlS rfl rfl rfl) ?_
              refine SOps.q rfl (.plain rfl) rfl (q_move rfl rfl) ?_
              refine SOps.q rfl (.guard 5 64 true rfl rfl (gT g29)) rfl (q_field_ptr rfl rfl fd37_1) ?_
              refine SOps.q rfl (.guard 5 64 true rfl rfl (gT g29)) rfl (q_load_ptr rfl rfl rfl rfl ty9) ?_
              refine SOps.q rfl (.guard 5 64 true rfl rfl (gT g29)) rfl (q_field_ptr rfl rfl fd37_1) ?_
              refine SOps.q rfl (.guard 5 64 true rfl rfl (gT g29)) rfl (q_load_ptr rfl rfl rfl rfl ty9) ?_
              refine SOps.q rfl (.guard 5 64 true rfl rfl (gT g29)) rfl (q_eqlS rfl rfl rfl) ?_
              refine SOps.q rfl (.plain rfl) rfl (q_pick_t rfl rfl g29 rfl) ?_
              refine SOps.q rfl (.plain rfl) rfl (q_move rfl rfl) ?_
              refine SOps.skip rfl 12 71 true rfl rfl (.inl (gF g30)) rfl ?_
              refine SOps.skip rfl 12 71 true rfl rfl (.inl (gF g30)) rfl ?_
              refine SOps.skip rfl 12 71 true rfl rfl (.inl (gF g30)) rfl ?_
              refine SOps.skip rfl 12 71 true rfl rfl (.inl (gF g30)) rfl ?_
              refine SOps.skip rfl 12 71 true rfl rfl (.inl (gF g30)) rfl ?_
              refine SOps.q rfl (.plain rfl) rfl (q_pick_f rfl rfl g30 rfl) ?_
              refine SOps.sub (st' := ⟨[(5, .c (.ptr 1 0)), (53, .c (.vec a1_before.length 4 (gL cSGrant dSGrant a1_before))), (54, .c (.int .i64 (((a1_before).length : Int)))), (55, .c (.int .i64 t55_16)), (77, .c (.bool false))], [.map a0_known.length (kG a0_known) (vG (mA 4 cSRole) dSRole a0_known), .box [.str a2_g.User, .str a2_g.Role, .int .i64 a2_g.Span_From, .int .i64 a2_g.Span_To]]⟩) (sub_gen [0, 1] rfl rfl ⟨zc rfl rfl, zc rfl rfl, zc rfl rfl, zc rfl rfl, zc rfl rfl, trivial⟩ ⟨rfl, ⟨_, rfl, ⟨ii rfl rfl, ii rfl rfl, ii rfl rfl, ii rfl rfl, trivial⟩⟩, trivial⟩) ?_
              refine SOps.nil ?_
              refine SCode.cond_f rfl rfl ?_
              refine SCode.skip ?_
              exact ⟨(), h, sub_gen [0, 1] rfl rfl ⟨zc rfl rfl, zc rfl rfl, zc rfl rfl, zc rfl rfl, trivial⟩ ⟨rfl, ⟨_, rfl, ⟨ii rfl rfl, ii rfl rfl, ii rfl rfl, ii rfl rfl, trivial⟩⟩, trivial⟩⟩
            refine SCode.region (show SOps _ _ _ [0, 1, 2, 3, 4, 5, 6, 7, 8, 9, 10, 11, 12, 13, 14, 15, 16, 17, 18] _ _ from ?_)
            refine SOps.q rfl (.plain rfl) rfl (q_field_ptr rfl rfl fd37_0) ?_
            refine SOps.q rfl (.plain rfl) rfl (q_load_ptr rfl rfl rfl rfl ty9) ?_
            refine SOps.q rfl (.plain rfl) rfl (q_field_ptr rfl rfl fd37_0) ?_
            refine SOps.q rfl (.plain rfl) rfl (q_load_ptr rfl rfl rfl rfl ty9) ?_
            refine SOps.q rfl (.plain rfl) rfl (q_eqlS rfl rfl rfl) ?_
            refine SOps.q rfl (.plain rfl) rfl (q_move rfl rfl) ?_
            refine SOps.skip rfl 5 64 true rfl rfl (.inl (gF g29)) rfl ?_
            refine SOps.skip rfl 5 64 true rfl rfl (.inl (gF g29)) rfl ?_
            refine SOps.skip rfl 5 64 true rfl rfl (.inl (gF g29)) rfl ?_
            refine SOps.skip rfl 5 64 true rfl rfl (.inl (gF g29)) rfl ?_
            refine SOps.skip rfl 5 64 true rfl rfl (.inl (gF g29)) rfl ?_
            refine SOps.q rfl (.plain rfl) rfl (q_pick_f rfl rfl g29 rfl) ?_
            refine SOps.q rfl (.plain rfl) rfl (q_move rfl rfl) ?_
            refine SOps.skip rfl 12 71 true rfl rfl (.inl rfl) rfl ?_
            refine SOps.skip rfl 12 71 true rfl rfl (.inl rfl) rfl ?_
            refine SOps.skip rfl 12 71 true rfl rfl (.inl rfl) rfl ?_
            refine SOps.skip rfl 12 71 true rfl rfl (.inl rfl) rfl ?_
            refine SOps.skip rfl 12 71 true rfl rfl (.inl rfl) rfl ?_
            refine SOps.q rfl (.plain rfl) rfl (q_pick_f rfl rfl rfl rfl) ?_
            refine SOps.sub (st' := ⟨[(5, .c (.ptr 1 0)), (53, .c (.vec a1_before.length 4 (gL cSGrant dSGrant a1_before))), (54, .c (.int .i64 (((a1_before).length : Int)))), (55, .c (.int .i64 t55_16)), (77, .c (.bool false))], [.map a0_known.length (kG a0_known) (vG (mA 4 cSRole) dSRole a0_known), .box [.str a2_g.User, .str a2_g.Role, .int .i64 a2_g.Span_From, .int .i64 a2_g.Span_To]]⟩) (sub_gen [0, 1] rfl rfl ⟨zc rfl rfl, zc rfl rfl, zc rfl rfl, zc rfl rfl, zc rfl rfl, trivial⟩ ⟨rfl, ⟨_, rfl, ⟨ii rfl rfl, ii rfl rfl, ii rfl rfl, ii rfl rfl, trivial⟩⟩, trivial⟩) ?_
            refine SOps.nil ?_
            refine SCode.cond_f rfl rfl ?_
            refine SCode.skip ?_
            exact ⟨(), h, sub_gen [0, 1] rfl rfl ⟨zc rfl rfl, zc rfl rfl, zc rfl rfl, zc rfl rfl, trivial⟩ ⟨rfl, ⟨_, rfl, ⟨ii rfl rfl, ii rfl rfl, ii rfl rfl, ii rfl rfl, trivial⟩⟩, trivial⟩⟩
          rintro ⟨⟩ h
          show SCode _ _ _ ⟨[(5, .c (.ptr 1 0)), (53, .c (.vec a1_before.length 4 (gL cSGrant dSGrant a1_before))), (54, .c (.int .i64 (((a1_before).length : Int)))), (55, .c (.int .i64 t55_16))], [.map a0_known.length (kG a0_known) (vG (mA 4 cSRole) dSRole a0_known), .box [.str a2_g.User, .str a2_g.Role, .int .i64 a2_g.Span_From, .int .i64 a2_g.Span_To]]⟩ _
          replace h : access_validGrant_p27 t55_16 (fun t55_16 => access_validGrant_l25 F a1_before a2_g n_25 t55_16) = some r := h
          unfold access_validGrant_p27 at h
          refine SCode.region (show SOps _ _ _ [0, 1] _ _ from ?_)
          refine SOps.q rfl (.plain rfl) rfl (q_add rfl rfl rfl) ?_
          refine SOps.q rfl (.plain rfl) rfl (q_move rfl rfl) ?_
          refine SOps.sub (st' := ⟨[(5, .c (.ptr 1 0)), (53, .c (.vec a1_before.length 4 (gL cSGrant dSGrant a1_before))), (54, .c (.int .i64 (((a1_before).length : Int)))), (55, .c (.int .i64 (IntKind.wrap .i64 (t55_16 + 1))))], [.map a0_known.length (kG a0_known) (vG (mA 4 cSRole) dSRole a0_known), .box [.str a2_g.User, .str a2_g.Role, .int .i64 a2_g.Span_From, .int .i64 a2_g.Span_To]]⟩) (sub_gen [0, 1] rfl rfl ⟨zc rfl rfl, zc rfl rfl, zc rfl rfl, zc rfl rfl, trivial⟩ ⟨rfl, ⟨_, rfl, ⟨ii rfl rfl, ii rfl rfl, ii rfl rfl, ii rfl rfl, trivial⟩⟩, trivial⟩) ?_
          refine SOps.nil ?_
          exact ⟨(n_25, IntKind.wrap .i64 (t55_16 + 1)), h, Nat.lt_succ_self n_25, sub_gen [0, 1] rfl rfl ⟨zc rfl rfl, zc rfl rfl, zc rfl rfl, zc rfl rfl, trivial⟩ ⟨rfl, ⟨_, rfl, ⟨ii rfl rfl, ii rfl rfl, ii rfl rfl, ii rfl rfl, trivial⟩⟩, trivial⟩⟩
        refine SCode.cond_f rfl g26 ?_
        refine SCode.exit ?_
        exact ⟨(), h, sub_gen [0] rfl rfl trivial ⟨rfl, trivial⟩⟩
    rintro ⟨⟩ h
    show SCode _ _ _ ⟨[], [.map a0_known.length (kG a0_known) (vG (mA 4 cSRole) dSRole a0_known)]⟩ _
    replace h : access_validGrant_p7 = some r := h
    unfold access_validGrant_p7 at h
    refine SCode.seq ?_
    refine SCode.region (show SOps _ _ _ [0] _ _ from ?_)
    refine SOps.q rfl (.plain rfl) rfl (q_assign rfl rfl) ?_
    refine SOps.sub (st' := ⟨[(6, .c (.int .i64 0))], [.map a0_known.length (kG a0_known) (vG (mA 4 cSRole) dSRole a0_known)]⟩) (sub_gen [0] rfl rfl ⟨zc rfl rfl, trivial⟩ ⟨rfl, trivial⟩) ?_
    refine SOps.nil ?_
    refine SCode.ret ?_
    obtain rfl := Option.some.inj h
    exact ⟨⟨[(6, .c (.int .i64 0))], [.map a0_known.length (kG a0_known) (vG (mA 4 cSRole) dSRole a0_known)]⟩, _, sub_gen [0] rfl rfl ⟨zc rfl rfl, trivial⟩ ⟨rfl, trivial⟩, resA1 (v := .c (.int .i64 0)) rfl rfl, ⟨rfl, rfl⟩⟩
  refine SCode.region (show SOps _ _ _ [0, 1, 2, 3, 4, 5, 6, 7, 8, 9] _ _ from ?_)
  refine SOps.q rfl (.plain rfl) rfl (q_move rfl rfl) ?_
  refine SOps.q rfl (.plain rfl) rfl (q_field_ptr rfl rfl fd37_1) ?_
  refine SOps.q rfl (.plain rfl) rfl (q_load_ptr rfl rfl rfl rfl ty9) ?_
  refine SOps.q rfl (.plain rfl) rfl (q_lookup_f (mv := (mA 4 cSRole)) (d0 := dSRole) (l := a0_known) (s := a2_g.Role) (zv := .a [.str ByteArray.empty, .raw (.slice none 0 0), .str ByteArray.empty, .bool false]) g4 rfl rfl rfl rfl mp55 z51 rfl) ?_
  refine SOps.q rfl (.plain rfl) rfl (q_move rfl rfl) ?_
  refine SOps.q rfl (.plain rfl) rfl (q_extract rfl rfl rfl) ?_
  refine SOps.q rfl (.plain rfl) rfl (q_extract rfl rfl rfl) ?_
  refine SOps.e rfl (.plain rfl) (e_alloc rfl rfl rfl z51) ?_
  refine SOps.e rfl (.plain rfl) (e_store_box rfl rfl rfl rfl rfl ty51 rfl rfl rfl rfl) ?_
  refine SOps.q rfl (.plain rfl) rfl (q_assign rfl rfl) ?_
  refine SOps.sub (st' := ⟨[(1, .c (.vec a1_before.length 4 (gL cSGrant dSGrant a1_before))), (5, .c (.ptr 1 0)), (8, .c (.bool false))], [.map a0_known.length (kG a0_known) (vG (mA 4 cSRole) dSRole a0_known), .box [.str a2_g.User, .str a2_g.Role, .int .i64 a2_g.Span_From, .int .i64 a2_g.Span_To]]⟩) (sub_gen [0, 1] rfl rfl ⟨zc rfl rfl, zc rfl rfl, zc rfl rfl, trivial⟩ ⟨rfl, ⟨_, rfl, ⟨ii rfl rfl, ii rfl rfl, ii rfl rfl, ii rfl rfl, trivial⟩⟩, trivial⟩) ?_
  refine SOps.nil ?_
  refine SCode.seq ?_
  refine SCode.region (show SOps _ _ _ [0, 1] _ _ from ?_)
  refine SOps.q rfl (.plain rfl) rfl (q_move rfl rfl) ?_
  refine SOps.q rfl (.plain rfl) rfl (q_not rfl rfl) ?_
  refine SOps.sub (st' := ⟨[(1, .c (.vec a1_before.length 4 (gL cSGrant dSGrant a1_before))), (5, .c (.ptr 1 0)), (23, .c (.bool true))], [.map a0_known.length (kG a0_known) (vG (mA 4 cSRole) dSRole a0_known), .box [.str a2_g.User, .str a2_g.Role, .int .i64 a2_g.Span_From, .int .i64 a2_g.Span_To]]⟩) (sub_gen [0, 1] rfl rfl ⟨zc rfl rfl, zc rfl rfl, zc rfl rfl, trivial⟩ ⟨rfl, ⟨_, rfl, ⟨ii rfl rfl, ii rfl rfl, ii rfl rfl, ii rfl rfl, trivial⟩⟩, trivial⟩) ?_
  refine SOps.nil ?_
  refine SCode.cond_t rfl rfl ?_
  refine SCode.seq ?_
  refine SCode.region (show SOps _ _ _ [0] _ _ from ?_)
  refine SOps.q rfl (.plain rfl) rfl (q_assign rfl rfl) ?_
  refine SOps.sub (st' := ⟨[(6, .c (.int .i64 8))], [.map a0_known.length (kG a0_known) (vG (mA 4 cSRole) dSRole a0_known)]⟩) (sub_gen [0] rfl rfl ⟨zc rfl rfl, trivial⟩ ⟨rfl, trivial⟩) ?_
  refine SOps.nil ?_
  refine SCode.ret ?_
  obtain rfl := Option.some.inj h
  exact ⟨⟨[(6, .c (.int .i64 8))], [.map a0_known.length (kG a0_known) (vG (mA 4 cSRole) dSRole a0_known)]⟩, _, sub_gen [0] rfl rfl ⟨zc rfl rfl, trivial⟩ ⟨rfl, trivial⟩, resA1 (v := .c (.int .i64 8)) rfl rfl, ⟨rfl, rfl⟩⟩
set_option maxRecDepth 100000 in
set_option maxHeartbeats 8000000 in
theorem access_byName_own_ok (F : Nat) (a0_roles : List SRole) (r : List (ByteArray × SRole)) (h : access_byName_own F a0_roles = some r) :
    SFun Try.prog 26 [] [.c (.vec a0_roles.length 4 (gL cSRole dSRole a0_roles))] (fun x os => x = .c (.mp 0) ∧ os = [.map r.length (kG r) (vG (mA 4 cSRole) dSRole r)]) := by
  refine SFun.of (n := 21) Try.func26 rfl rfl rfl ?_
  unfold access_byName_own at h
  show SCode _ _ _ ⟨[(0, .c (.vec a0_roles.length 4 (gL cSRole dSRole a0_roles)))], []⟩ _
  refine SCode.seq ?_
  refine SCode.region (show SOps _ _ _ [0] _ _ from ?_)
  refine SOps.q rfl (.plain rfl) rfl (q_assign rfl rfl) ?_
  refine SOps.sub (st' := ⟨[(0, .c (.vec a0_roles.length 4 (gL cSRole dSRole a0_roles)))], []⟩) (sub_gen [] rfl rfl ⟨zc rfl rfl, trivial⟩ trivial) ?_
  refine SOps.nil ?_
  refine SCode.seq ?_
  refine SCode.region (show SOps _ _ _ [0, 1, 2, 3] _ _ from ?_)
  refine SOps.q rfl (.plain rfl) rfl (q_move rfl rfl) ?_
  refine SOps.q rfl (.plain rfl) rfl (q_len_vec rfl rfl sl22) ?_
  refine SOps.e rfl (.plain rfl) (e_makeMap (α := SRole) (mv := (mA 4 cSRole)) (d0 := dSRole) rfl rfl rfl mp55 (.inr ⟨_, _, _, rfl, rfl⟩)) ?_
  refine SOps.q rfl (.plain rfl) rfl (q_assign rfl rfl) ?_
  refine SOps.sub (st' := ⟨[(0, .c (.vec a0_roles.length 4 (gL cSRole dSRole a0_roles))), (3, .c (.mp 0))], [.map (([] : List (ByteArray × SRole))).length (kG (([] : List (ByteArray × SRole)))) (vG (mA 4 cSRole) dSRole (([] : List (ByteArray × SRole))))]⟩) (sub_gen [0] rfl rfl ⟨zc rfl rfl, zc rfl rfl, trivial⟩ ⟨rfl, trivial⟩) ?_
  refine SOps.nil ?_
  refine SCode.join (σ := (List (ByteArray × SRole))) (S := fun s => ⟨[(3, .c (.mp 0))], [.map s.length (kG s) (vG (mA 4 cSRole) dSRole s)]⟩) (g := fun s => access_byName_own_p2 s = some r) ?_ ?_
  rotate_left
  · refine SCode.seq ?_
    refine SCode.region (show SOps _ _ _ [0, 1, 2] _ _ from ?_)
    refine SOps.q rfl (.plain rfl) rfl (q_move rfl rfl) ?_
    refine SOps.q rfl (.plain rfl) rfl (q_len_vec rfl rfl sl22) ?_
    refine SOps.q rfl (.plain rfl) rfl (q_move rfl rfl) ?_
    refine SOps.sub (st' := ⟨[(3, .c (.mp 0)), (9, .c (.vec a0_roles.length 4 (gL cSRole dSRole a0_roles))), (10, .c (.int .i64 (((a0_roles).length : Int)))), (11, .c (.int .i64 0))], [.map (([] : List (ByteArray × SRole))).length (kG (([] : List (ByteArray × SRole)))) (vG (mA 4 cSRole) dSRole (([] : List (ByteArray × SRole))))]⟩) (sub_gen [0] rfl rfl ⟨zc rfl rfl, zc rfl rfl, zc rfl rfl, zc rfl rfl, trivial⟩ ⟨rfl, trivial⟩) ?_
    refine SOps.nil ?_
    refine SCode.block ?_
    refine SCode.sub (st' := ⟨[(3, .c (.mp 0)), (9, .c (.vec a0_roles.length 4 (gL cSRole dSRole a0_roles))), (10, .c (.int .i64 (((a0_roles).length : Int)))), (11, .c (.int .i64 0))], [.map (([] : List (ByteArray × SRole))).length (kG (([] : List (ByteArray × SRole)))) (vG (mA 4 cSRole) dSRole (([] : List (ByteArray × SRole))))]⟩) (sub_gen [0] rfl rfl ⟨zc rfl rfl, zc rfl rfl, zc rfl rfl, zc rfl rfl, trivial⟩ ⟨rfl, trivial⟩) ?_
    refine (SCode.loop (σ := Nat × (Int × (List (ByteArray × SRole)))) (S := fun s => ⟨[(3, .c (.mp 0)), (9, .c (.vec a0_roles.length 4 (gL cSRole dSRole a0_roles))), (10, .c (.int .i64 (((a0_roles).length : Int)))), (11, .c (.int .i64 s.2.1))], [.map s.2.2.length (kG s.2.2) (vG (mA 4 cSRole) dSRole s.2.2)]⟩) (g := fun s => access_byName_own_l9 a0_roles s.1 s.2.1 s.2.2 = some r) (μ := fun s => s.1) (F, (0, ([] : List (ByteArray × SRole)))) h ?_)
    rintro ⟨n_9, ⟨t11_5, o0_6⟩⟩ h
    replace h : access_byName_own_l9 a0_roles n_9 t11_5 o0_6 = some r := h
    show SCode _ _ _ ⟨[(3, .c (.mp 0)), (9, .c (.vec a0_roles.length 4 (gL cSRole dSRole a0_roles))), (10, .c (.int .i64 (((a0_roles).length : Int)))), (11, .c (.int .i64 t11_5))], [.map o0_6.length (kG o0_6) (vG (mA 4 cSRole) dSRole o0_6)]⟩ _
    cases n_9 with
    | zero => cases h
    | succ n_9 =>
      replace h : access_byName_own_b9 a0_roles (fun t11_5 o0_6 => access_byName_own_l9 a0_roles n_9 t11_5 o0_6) t11_5 o0_6 = some r := h
      unfold access_byName_own_b9 at h
      refine SCode.seq ?_
      refine SCode.region (show SOps _ _ _ [0] _ _ from ?_)
      refine SOps.q rfl (.plain rfl) rfl (q_lss rfl rfl rfl) ?_
      refine SOps.sub (st' := ⟨[(3, .c (.mp 0)), (9, .c (.vec a0_roles.length 4 (gL cSRole dSRole a0_roles))), (10, .c (.int .i64 (((a0_roles).length : Int)))), (11, .c (.int .i64 t11_5)), (12, .c (.bool (decide (t11_5 < ((a0_roles).length : Int)))))], [.map o0_6.length (kG o0_6) (vG (mA 4 cSRole) dSRole o0_6)]⟩) (sub_gen [0] rfl rfl ⟨zc rfl rfl, zc rfl rfl, zc rfl rfl, zc rfl rfl, zc rfl rfl, trivial⟩ ⟨rfl, trivial⟩) ?_
      refine SOps.nil ?_
      refine SCode.seq ?_
      rcases cond_out h with ⟨g10, h⟩ | ⟨g10, h⟩
      · refine SCode.cond_t rfl g10 ?_
        refine SCode.skip ?_
        refine SCode.seq ?_
        refine SCode.block ?_
        refine SCode.seq ?_
        obtain ⟨g11, h⟩ := guard_out h
        refine SCode.region (show SOps _ _ _ [0, 1, 2, 3] _ _ from ?_)
        refine SOps.q rfl (.plain rfl) rfl (q_index_vec rfl rfl rfl sl22 rfl g11.1 g11.2) ?_
        refine SOps.q rfl (.plain rfl) rfl (q_load_eptr_all rfl rfl rfl ty51) ?_
        refine SOps.e rfl (.plain rfl) (e_alloc rfl rfl rfl z51) ?_
        refine SOps.e rfl (.plain rfl) (e_store_box rfl rfl rfl rfl rfl ty51 rfl rfl rfl rfl) ?_
        refine SOps.sub (st' := ⟨[(3, .c (.mp 0)), (5, .c (.ptr 1 0)), (9, .c (.vec a0_roles.length 4 (gL cSRole dSRole a0_roles))), (10, .c (.int .i64 (((a0_roles).length : Int)))), (11, .c (.int .i64 t11_5))], [.map o0_6.length (kG o0_6) (vG (mA 4 cSRole) dSRole o0_6), .box [.str ((a0_roles.getD t11_5.toNat dSRole).Name), .vec ((a0_roles.getD t11_5.toNat dSRole).Actions).length 1 (gL (cInt .i64) 0 ((a0_roles.getD t11_5.toNat dSRole).Actions)), .str ((a0_roles.getD t11_5.toNat dSRole).Prefix), .bool ((a0_roles.getD t11_5.toNat dSRole).Deny)]]⟩) (sub_gen [0, 1] rfl rfl ⟨zc rfl rfl, zc rfl rfl, zc rfl rfl, zc rfl rfl, zc rfl rfl, trivial⟩ ⟨rfl, ⟨_, rfl, ⟨ii rfl rfl, ii rfl rfl, ii rfl rfl, ii rfl rfl, trivial⟩⟩, trivial⟩) ?_
        refine SOps.nil ?_
        refine SCode.region (show SOps _ _ _ [0, 1, 2, 3, 4] _ _ from ?_)
        refine SOps.q rfl (.plain rfl) rfl (q_move rfl rfl) ?_
        refine SOps.q rfl (.plain rfl) rfl (q_field_ptr rfl rfl fd51_0) ?_
        refine SOps.q rfl (.plain rfl) rfl (q_load_ptr rfl rfl rfl rfl ty9) ?_
        refine SOps.q rfl (.plain rfl) rfl (q_load_ptr_all rfl rfl rfl rfl rfl ty51) ?_
        refine SOps.e rfl (.plain rfl) (e_mapUpdate (mv := (mA 4 cSRole)) (d0 := dSRole) (l := o0_6) (s := (a0_roles.getD t11_5.toNat dSRole).Name) (v' := a0_roles.getD t11_5.toNat dSRole) rfl rfl rfl rfl rfl rfl rfl mp55) ?_
        refine SOps.sub (st' := ⟨[(3, .c (.mp 0)), (9, .c (.vec a0_roles.length 4 (gL cSRole dSRole a0_roles))), (10, .c (.int .i64 (((a0_roles).length : Int)))), (11, .c (.int .i64 t11_5))], [.map (aset o0_6 ((a0_roles.getD t11_5.toNat dSRole).Name) (a0_roles.getD t11_5.toNat dSRole)).length (kG (aset o0_6 ((a0_roles.getD t11_5.toNat dSRole).Name) (a0_roles.getD t11_5.toNat dSRole))) (vG (mA 4 cSRole) dSRole (aset o0_6 ((a0_roles.getD t11_5.toNat dSRole).Name) (a0_roles.getD t11_5.toNat dSRole)))]⟩) (sub_gen [0] rfl rfl ⟨zc rfl rfl, zc rfl rfl, zc rfl rfl, zc rfl rfl, trivial⟩ ⟨rfl, trivial⟩) ?_
        refine SOps.nil ?_
        refine SCode.region (show SOps _ _ _ [0, 1] _ _ from ?_)
        refine SOps.q rfl (.plain rfl) rfl (q_add rfl rfl rfl) ?_
        refine SOps.q rfl (.plain rfl) rfl (q_move rfl rfl) ?_
        refine SOps.sub (st' := ⟨[(3, .c (.mp 0)), (9, .c (.vec a0_roles.length 4 (gL cSRole dSRole a0_roles))), (10, .c (.int .i64 (((a0_roles).length : Int)))), (11, .c (.int .i64 (IntKind.wrap .i64 (t11_5 + 1))))], [.map (aset o0_6 ((a0_roles.getD t11_5.toNat dSRole).Name) (a0_roles.getD t11_5.toNat dSRole)).length (kG (aset o0_6 ((a0_roles.getD t11_5.toNat dSRole).Name) (a0_roles.getD t11_5.toNat dSRole))) (vG (mA 4 cSRole) dSRole (aset o0_6 ((a0_roles.getD t11_5.toNat dSRole).Name) (a0_roles.getD t11_5.toNat dSRole)))]⟩) (sub_gen [0] rfl rfl ⟨zc rfl rfl, zc rfl rfl, zc rfl rfl, zc rfl rfl, trivial⟩ ⟨rfl, trivial⟩) ?_
        refine SOps.nil ?_
        exact ⟨(n_9, (IntKind.wrap .i64 (t11_5 + 1), aset o0_6 ((a0_roles.getD t11_5.toNat dSRole).Name) (a0_roles.getD t11_5.toNat dSRole))), h, Nat.lt_succ_self n_9, sub_gen [0] rfl rfl ⟨zc rfl rfl, zc rfl rfl, zc rfl rfl, zc rfl rfl, trivial⟩ ⟨rfl, trivial⟩⟩
      refine SCode.cond_f rfl g10 ?_
      refine SCode.exit ?_
      exact ⟨o0_6, h, sub_gen [0] rfl rfl ⟨zc rfl rfl, trivial⟩ ⟨rfl, trivial⟩⟩
  rintro o0_1 h
  show SCode _ _ _ ⟨[(3, .c (.mp 0))], [.map o0_1.length (kG o0_1) (vG (mA 4 cSRole) dSRole o0_1)]⟩ _
  replace h : access_byName_own_p2 o0_1 = some r := h
  unfold access_byName_own_p2 at h
  refine SCode.seq ?_
  refine SCode.region (show SOps _ _ _ [0, 1] _ _ from ?_)
  refine SOps.q rfl (.plain rfl) rfl (q_move rfl rfl) ?_
  refine SOps.q rfl (.plain rfl) rfl (q_assign rfl rfl) ?_
  refine SOps.sub (st' := ⟨[(2, .c (.mp 0))], [.map o0_1.length (kG o0_1) (vG (mA 4 cSRole) dSRole o0_1)]⟩) (sub_gen [0] rfl rfl ⟨zc rfl rfl, trivial⟩ ⟨rfl, trivial⟩) ?_
  refine SOps.nil ?_
  refine SCode.ret ?_
  obtain rfl := Option.some.inj h
  exact ⟨⟨[(2, .c (.mp 0))], [.map o0_1.length (kG o0_1) (vG (mA 4 cSRole) dSRole o0_1)]⟩, _, sub_gen [0] rfl rfl ⟨zc rfl rfl, trivial⟩ ⟨rfl, trivial⟩, resA1 (v := .c (.mp 0)) rfl rfl, ⟨rfl, rfl⟩⟩
set_option maxRecDepth 100000 in
set_option maxHeartbeats 8000000 in
theorem access_Valid_ok (F : Nat) (a0_roles : List SRole) (a1_grants : List SGrant) (r : Int) (h : access_Valid F a0_roles a1_grants = some r) :
    SFun Try.prog 12 [] [.c (.vec a0_roles.length 4 (gL cSRole dSRole a0_roles)), .c (.vec a1_grants.length 4 (gL cSGrant dSGrant a1_grants))] (fun x _ => x = .c (.int .i64 r)) := by
  refine SFun.of (n := 64) Try.func12 rfl rfl rfl ?_
  unfold access_Valid at h
  show SCode _ _ _ ⟨[(0, .c (.vec a0_roles.length 4 (gL cSRole dSRole a0_roles))), (1, .c (.vec a1_grants.length 4 (gL cSGrant dSGrant a1_grants)))], []⟩ _
  refine SCode.seq ?_
  refine SCode.region (show SOps _ _ _ [0] _ _ from ?_)
  refine SOps.q rfl (.plain rfl) rfl (q_assign rfl rfl) ?_
  refine SOps.sub (st' := ⟨[(0, .c (.vec a0_roles.length 4 (gL cSRole dSRole a0_roles))), (1, .c (.vec a1_grants.length 4 (gL cSGrant dSGrant a1_grants)))], []⟩) (sub_gen [] rfl rfl ⟨zc rfl rfl, zc rfl rfl, trivial⟩ trivial) ?_
  refine SOps.nil ?_
  refine SCode.seq ?_
  refine SCode.seq ?_
  refine SCode.region (show SOps _ _ _ [0, 1, 2] _ _ from ?_)
  refine SOps.q rfl (.plain rfl) rfl (q_move rfl rfl) ?_
  refine SOps.q rfl (.plain rfl) rfl (q_len_vec rfl rfl sl22) ?_
  refine SOps.q rfl (.plain rfl) rfl (q_gtr rfl rfl rfl) ?_
  refine SOps.sub (st' := ⟨[(0, .c (.vec a0_roles.length 4 (gL cSRole dSRole a0_roles))), (1, .c (.vec a1_grants.length 4 (gL cSGrant dSGrant a1_grants))), (15, .c (.bool (decide (32 < ((a0_roles).length : Int)))))], []⟩) (sub_gen [] rfl rfl ⟨zc rfl rfl, zc rfl rfl, zc rfl rfl, trivial⟩ trivial) ?_
  refine SOps.nil ?_
  rcases cond_out h with ⟨g1, h⟩ | ⟨g1, h⟩
  · refine SCode.cond_t rfl g1 ?_
    refine SCode.seq ?_
    refine SCode.region (show SOps _ _ _ [0] _ _ from ?_)
    refine SOps.q rfl (.plain rfl) rfl (q_assign rfl rfl) ?_
    refine SOps.sub (st' := ⟨[(4, .c (.int .i64 3))], []⟩) (sub_gen [] rfl rfl ⟨zc rfl rfl, trivial⟩ trivial) ?_
    refine SOps.nil ?_
    refine SCode.ret ?_
    obtain rfl := Option.some.inj h
    exact ⟨⟨[(4, .c (.int .i64 3))], []⟩, _, sub_gen [] rfl rfl ⟨zc rfl rfl, trivial⟩ trivial, resA1 (v := .c (.int .i64 3)) rfl rfl, rfl⟩
  refine SCode.cond_f rfl g1 ?_
  refine SCode.skip ?_
  refine SCode.seq ?_
  refine SCode.region (show SOps _ _ _ [0, 1, 2, 3] _ _ from ?_)
  refine SOps.q rfl (.plain rfl) rfl (q_move rfl rfl) ?_
  refine SOps.q rfl (.plain rfl) rfl (q_len_vec rfl rfl sl22) ?_
  refine SOps.e rfl (.plain rfl) (e_makeMap (α := Bool) (mv := (mC cBool)) (d0 := false) rfl rfl rfl mp52 (.inr ⟨_, _, _, rfl, rfl⟩)) ?_
  refine SOps.q rfl (.plain rfl) rfl (q_assign rfl rfl) ?_
  refine SOps.sub (st' := ⟨[(0, .c (.vec a0_roles.length 4 (gL cSRole dSRole a0_roles))), (1, .c (.vec a1_grants.length 4 (gL cSGrant dSGrant a1_grants))), (5, .c (.mp 0))], [.map (([] : List (ByteArray × Bool))).length (kG (([] : List (ByteArray × Bool)))) (vG (mC cBool) false (([] : List (ByteArray × Bool))))]⟩) (sub_gen [0] rfl rfl ⟨zc rfl rfl, zc rfl rfl, zc rfl rfl, trivial⟩ ⟨rfl, trivial⟩) ?_
  refine SOps.nil ?_
  refine SCode.join (σ := Unit) (S := fun s => ⟨[(0, .c (.vec a0_roles.length 4 (gL cSRole dSRole a0_roles))), (1, .c (.vec a1_grants.length 4 (gL cSGrant dSGrant a1_grants)))], []⟩) (g := fun s => access_Valid_p26 F a0_roles a1_grants = some r) ?_ ?_
  rotate_left
  · refine SCode.seq ?_
    refine SCode.region (show SOps _ _ _ [0, 1, 2] _ _ from ?_)
    refine SOps.q rfl (.plain rfl) rfl (q_move rfl rfl) ?_
    refine SOps.q rfl (.plain rfl) rfl (q_len_vec rfl rfl sl22) ?_
    refine SOps.q rfl (.plain rfl) rfl (q_move rfl rfl) ?_
    refine SOps.sub (st' := ⟨[(0, .c (.vec a0_roles.length 4 (gL cSRole dSRole a0_roles))), (1, .c (.vec a1_grants.length 4 (gL cSGrant dSGrant a1_grants))), (5, .c (.mp 0)), (19, .c (.vec a0_roles.length 4 (gL cSRole dSRole a0_roles))), (20, .c (.int .i64 (((a0_roles).length : Int)))), (21, .c (.int .i64 0))], [.map (([] : List (ByteArray × Bool))).length (kG (([] : List (ByteArray × Bool)))) (vG (mC cBool) false (([] : List (ByteArray × Bool))))]⟩) (sub_gen [0] rfl rfl ⟨zc rfl rfl, zc rfl rfl, zc rfl rfl, zc rfl rfl, zc rfl rfl, zc rfl rfl, trivial⟩ ⟨rfl, trivial⟩) ?_
    refine SOps.nil ?_
    refine SCode.block ?_
    refine SCode.sub (st' := ⟨[(0, .c (.vec a0_roles.length 4 (gL cSRole dSRole a0_roles))), (1, .c (.vec a1_grants.length 4 (gL cSGrant dSGrant a1_grants))), (5, .c (.mp 0)), (19, .c (.vec a0_roles.length 4 (gL cSRole dSRole a0_roles))), (20, .c (.int .i64 (((a0_roles).length : Int)))), (21, .c (.int .i64 0))], [.map (([] : List (ByteArray × Bool))).length (kG (([] : List (ByteArray × Bool)))) (vG (mC cBool) false (([] : List (ByteArray × Bool))))]⟩) (sub_gen [0] rfl rfl ⟨zc rfl rfl, zc rfl rfl, zc rfl rfl, zc rfl rfl, zc rfl rfl, zc rfl rfl, trivial⟩ ⟨rfl, trivial⟩) ?_
    refine (SCode.loop (σ := Nat × (Int × (List (ByteArray × Bool)))) (S := fun s => ⟨[(0, .c (.vec a0_roles.length 4 (gL cSRole dSRole a0_roles))), (1, .c (.vec a1_grants.length 4 (gL cSGrant dSGrant a1_grants))), (5, .c (.mp 0)), (19, .c (.vec a0_roles.length 4 (gL cSRole dSRole a0_roles))), (20, .c (.int .i64 (((a0_roles).length : Int)))), (21, .c (.int .i64 s.2.1))], [.map s.2.2.length (kG s.2.2) (vG (mC cBool) false s.2.2)]⟩) (g := fun s => access_Valid_l47 F a0_roles a1_grants s.1 s.2.1 s.2.2 = some r) (μ := fun s => s.1) (F, (0, ([] : List (ByteArray × Bool)))) h ?_)
    rintro ⟨n_47, ⟨t21_36, o0_37⟩⟩ h
    replace h : access_Valid_l47 F a0_roles a1_grants n_47 t21_36 o0_37 = some r := h
    show SCode _ _ _ ⟨[(0, .c (.vec a0_roles.length 4 (gL cSRole dSRole a0_roles))), (1, .c (.vec a1_grants.length 4 (gL cSGrant dSGrant a1_grants))), (5, .c (.mp 0)), (19, .c (.vec a0_roles.length 4 (gL cSRole dSRole a0_roles))), (20, .c (.int .i64 (((a0_roles).length : Int)))), (21, .c (.int .i64 t21_36))], [.map o0_37.length (kG o0_37) (vG (mC cBool) false o0_37)]⟩ _
    cases n_47 with
    | zero => cases h
    | succ n_47 =>
      replace h : access_Valid_b47 F a0_roles a1_grants (fun t21_36 o0_37 => access_Valid_l47 F a0_roles a1_grants n_47 t21_36 o0_37) t21_36 o0_37 = some r := h
      unfold access_Valid_b47 at h
      refine SCode.seq ?_
      refine SCode.region (show SOps _ _ _ [0] _ _ from ?_)
      refine SOps.q rfl (.plain rfl) rfl (q_lss rfl rfl rfl) ?_
      refine SOps.sub (st' := ⟨[(0, .c (.vec a0_roles.length 4 (gL cSRole dSRole a0_roles))), (1, .c (.vec a1_grants.length 4 (gL cSGrant dSGrant a1_grants))), (5, .c (.mp 0)), (19, .c (.vec a0_roles.length 4 (gL cSRole dSRole a0_roles))), (20, .c (.int .i64 (((a0_roles).length : Int)))), (21, .c (.int .i64 t21_36)), (22, .c (.bool (decide (t21_36 < ((a0_roles).length : Int)))))], [.map o0_37.length (kG o0_37) (vG (mC cBool) false o0_37)]⟩) (sub_gen [0] rfl rfl ⟨zc rfl rfl, zc rfl rfl, zc rfl rfl, zc rfl rfl, zc rfl rfl, zc rfl rfl, zc rfl rfl, trivial⟩ ⟨rfl, trivial⟩) ?_
      refine SOps.nil ?_
      refine SCode.seq ?_
      rcases cond_out h with ⟨g48, h⟩ | ⟨g48, h⟩
      · refine SCode.cond_t rfl g48 ?_
        refine SCode.skip ?_
        refine SCode.seq ?_
        refine SCode.block ?_
        refine SCode.seq ?_
        obtain ⟨g49, h⟩ := guard_out h
        refine SCode.region (show SOps _ _ _ [0, 1, 2, 3] _ _ from ?_)
        refine SOps.q rfl (.plain rfl) rfl (q_index_vec rfl rfl rfl sl22 rfl g49.1 g49.2) ?_
        refine SOps.q rfl (.plain rfl) rfl (q_load_eptr_all rfl rfl rfl ty51) ?_
        refine SOps.e rfl (.plain rfl) (e_alloc rfl rfl rfl z51) ?_
        refine SOps.e rfl (.plain rfl) (e_store_box rfl rfl rfl rfl rfl ty51 rfl rfl rfl rfl) ?_
        refine SOps.sub (st' := ⟨[(0, .c (.vec a0_roles.length 4 (gL cSRole dSRole a0_roles))), (1, .c (.vec a1_grants.length 4 (gL cSGrant dSGrant a1_grants))), (5, .c (.mp 0)), (7, .c (.ptr 1 0)), (19, .c (.vec a0_roles.length 4 (gL cSRole dSRole a0_roles))), (20, .c (.int .i64 (((a0_roles).length : Int)))), (21, .c (.int .i64 t21_36))], [.map o0_37.length (kG o0_37) (vG (mC cBool) false o0_37), .box [.str ((a0_roles.getD t21_36.toNat dSRole).Name), .vec ((a0_roles.getD t21_36.toNat dSRole).Actions).length 1 (gL (cInt .i64) 0 ((a0_roles.getD t21_36.toNat dSRole).Actions)), .str ((a0_roles.getD t21_36.toNat dSRole).Prefix), .bool ((a0_roles.getD t21_36.toNat dSRole).Deny)]]⟩) (sub_gen [0, 1] rfl rfl ⟨zc rfl rfl, zc rfl rfl, zc rfl rfl, zc rfl rfl, zc rfl rfl, zc rfl rfl, zc rfl rfl, trivial⟩ ⟨rfl, ⟨_, rfl, ⟨ii rfl rfl, ii rfl rfl, ii rfl rfl, ii rfl rfl, trivial⟩⟩, trivial⟩) ?_
        refine SOps.nil ?_
        refine SCode.seq ?_
        refine SCode.seq ?_
        obtain ⟨c_50, g51, h⟩ := bind_out h
        try dsimp only at h
        refine SCode.region (show SOps _ _ _ [0, 1, 2, 3] _ _ from ?_)
        refine SOps.q rfl (.plain rfl) rfl (q_field_ptr rfl rfl fd51_0) ?_
        refine SOps.q rfl (.plain rfl) rfl (q_load_ptr rfl rfl rfl rfl ty9) ?_
        refine SOps.q rfl (.plain rfl) rfl (q_call (ident_Valid_ok F ((a0_roles.getD t21_36.toNat dSRole).Name) c_50 g51) [] rfl fn24 ⟨⟨_, rfl, .inl ⟨rfl, rfl⟩⟩, trivial⟩ (.inl rfl)) ?_
        refine SOps.q rfl (.plain rfl) rfl (q_not rfl rfl) ?_
        refine SOps.sub (st' := ⟨[(0, .c (.vec a0_roles.length 4 (gL cSRole dSRole a0_roles))), (1, .c (.vec a1_grants.length 4 (gL cSGrant dSGrant a1_grants))), (5, .c (.mp 0)), (7, .c (.ptr 1 0)), (19, .c (.vec a0_roles.length 4 (gL cSRole dSRole a0_roles))), (20, .c (.int .i64 (((a0_roles).length : Int)))), (21, .c (.int .i64 t21_36)), (28, .c (.bool ((!c_50))))], [.map o0_37.length (kG o0_37) (vG (mC cBool) false o0_37), .box [.str ((a0_roles.getD t21_36.toNat dSRole).Name), .vec ((a0_roles.getD t21_36.toNat dSRole).Actions).length 1 (gL (cInt .i64) 0 ((a0_roles.getD t21_36.toNat dSRole).Actions)), .str ((a0_roles.getD t21_36.toNat dSRole).Prefix), .bool ((a0_roles.getD t21_36.toNat dSRole).Deny)]]⟩) (sub_gen [0, 1] rfl rfl ⟨zc rfl rfl, zc rfl rfl, zc rfl rfl, zc rfl rfl, zc rfl rfl, zc rfl rfl, zc rfl rfl, zc rfl rfl, trivial⟩ ⟨rfl, ⟨_, rfl, ⟨ii rfl rfl, ii rfl rfl, ii rfl rfl, ii rfl rfl, trivial⟩⟩, trivial⟩) ?_
        refine SOps.nil ?_
        rcases cond_out h with ⟨g52, h⟩ | ⟨g52, h⟩
        · refine SCode.cond_t rfl g52 ?_
          refine SCode.seq ?_
          refine SCode.region (show SOps _ _ _ [0] _ _ from ?_)
          refine SOps.q rfl (.plain rfl) rfl (q_assign rfl rfl) ?_
          refine SOps.sub (st' := ⟨[(4, .c (.int .i64 4))], []⟩) (sub_gen [] rfl rfl ⟨zc rfl rfl, trivial⟩ trivial) ?_
          refine SOps.nil ?_
          refine SCode.ret ?_
          obtain rfl := Option.some.inj h
          exact ⟨⟨[(4, .c (.int .i64 4))], []⟩, _, sub_gen [] rfl rfl ⟨zc rfl rfl, trivial⟩ trivial, resA1 (v := .c (.int .i64 4)) rfl rfl, rfl⟩
        refine SCode.cond_f rfl g52 ?_
        refine SCode.skip ?_
        refine SCode.seq ?_
        refine SCode.seq ?_
        refine SCode.region (show SOps _ _ _ [0, 1, 2, 3] _ _ from ?_)
        refine SOps.q rfl (.plain rfl) rfl (q_move rfl rfl) ?_
        refine SOps.q rfl (.plain rfl) rfl (q_field_ptr rfl rfl fd51_0) ?_
        refine SOps.q rfl (.plain rfl) rfl (q_load_ptr rfl rfl rfl rfl ty9) ?_
        refine SOps.q rfl (.plain rfl) rfl (q_lookup (mv := (mC cBool)) (d0 := false) (l := o0_37) (s := (a0_roles.getD t21_36.toNat dSRole).Name) rfl rfl rfl rfl mp52 z4 rfl) ?_
        refine SOps.sub (st' := ⟨[(0, .c (.vec a0_roles.length 4 (gL cSRole dSRole a0_roles))), (1, .c (.vec a1_grants.length 4 (gL cSGrant dSGrant a1_grants))), (5, .c (.mp 0)), (7, .c (.ptr 1 0)), (19, .c (.vec a0_roles.length 4 (gL cSRole dSRole a0_roles))), (20, .c (.int .i64 (((a0_roles).length : Int)))), (21, .c (.int .i64 t21_36)), (32, .c (.bool ((alook o0_37 ((a0_roles.getD t21_36.toNat dSRole).Name)).getD false)))], [.map o0_37.length (kG o0_37) (vG (mC cBool) false o0_37), .box [.str ((a0_roles.getD t21_36.toNat dSRole).Name), .vec ((a0_roles.getD t21_36.toNat dSRole).Actions).length 1 (gL (cInt .i64) 0 ((a0_roles.getD t21_36.toNat dSRole).Actions)), .str ((a0_roles.getD t21_36.toNat dSRole).Prefix), .bool ((a0_roles.getD t21_36.toNat dSRole).Deny)]]⟩) (sub_gen [0, 1] rfl rfl ⟨zc rfl rfl, zc rfl rfl, zc rfl rfl, zc rfl rfl, zc rfl rfl, zc rfl rfl, zc rfl rfl, zc rfl rfl, trivial⟩ ⟨rfl, ⟨_, rfl, ⟨ii rfl rfl, ii rfl rfl, ii rfl rfl, ii rfl rfl, trivial⟩⟩, trivial⟩) ?_
        refine SOps.nil ?_
        rcases cond_out h with ⟨g53, h⟩ | ⟨g53, h⟩
        · refine SCode.cond_t rfl g53 ?_
          refine SCode.seq ?_
          refine SCode.region (show SOps _ _ _ [0] _ _ from ?_)
          refine SOps.q rfl (.plain rfl) rfl (q_assign rfl rfl) ?_
          refine SOps.sub (st' := ⟨[(4, .c (.int .i64 9))], []⟩) (sub_gen [] rfl rfl ⟨zc rfl rfl, trivial⟩ trivial) ?_
          refine SOps.nil ?_
          refine SCode.ret ?_
          obtain rfl := Option.some.inj h
          exact ⟨⟨[(4, .c (.int .i64 9))], []⟩, _, sub_gen [] rfl rfl ⟨zc rfl rfl, trivial⟩ trivial, resA1 (v := .c (.int .i64 9)) rfl rfl, rfl⟩
        refine SCode.cond_f rfl g53 ?_
        refine SCode.skip ?_
        refine SCode.seq ?_
        refine SCode.region (show SOps _ _ _ [0, 1, 2, 3] _ _ from ?_)
        refine SOps.q rfl (.plain rfl) rfl (q_move rfl rfl) ?_
        refine SOps.q rfl (.plain rfl) rfl (q_field_ptr rfl rfl fd51_0) ?_
        refine SOps.q rfl (.plain rfl) rfl (q_load_ptr rfl rfl rfl rfl ty9) ?_
        refine SOps.e rfl (.plain rfl) (e_mapUpdate (mv := (mC cBool)) (d0 := false) (l := o0_37) (s := (a0_roles.getD t21_36.toNat dSRole).Name) (v' := true) rfl rfl rfl rfl rfl rfl rfl mp52) ?_
        refine SOps.sub (st' := ⟨[(0, .c (.vec a0_roles.length 4 (gL cSRole dSRole a0_roles))), (1, .c (.vec a1_grants.length 4 (gL cSGrant dSGrant a1_grants))), (5, .c (.mp 0)), (7, .c (.ptr 1 0)), (19, .c (.vec a0_roles.length 4 (gL cSRole dSRole a0_roles))), (20, .c (.int .i64 (((a0_roles).length : Int)))), (21, .c (.int .i64 t21_36))], [.map (aset o0_37 ((a0_roles.getD t21_36.toNat dSRole).Name) true).length (kG (aset o0_37 ((a0_roles.getD t21_36.toNat dSRole).Name) true)) (vG (mC cBool) false (aset o0_37 ((a0_roles.getD t21_36.toNat dSRole).Name) true)), .box [.str ((a0_roles.getD t21_36.toNat dSRole).Name), .vec ((a0_roles.getD t21_36.toNat dSRole).Actions).length 1 (gL (cInt .i64) 0 ((a0_roles.getD t21_36.toNat dSRole).Actions)), .str ((a0_roles.getD t21_36.toNat dSRole).Prefix), .bool ((a0_roles.getD t21_36.toNat dSRole).Deny)]]⟩) (sub_gen [0, 1] rfl rfl ⟨zc rfl rfl, zc rfl rfl, zc rfl rfl, zc rfl rfl, zc rfl rfl, zc rfl rfl, zc rfl rfl, trivial⟩ ⟨rfl, ⟨_, rfl, ⟨ii rfl rfl, ii rfl rfl, ii rfl rfl, ii rfl rfl, trivial⟩⟩, trivial⟩) ?_
        refine SOps.nil ?_
        refine SCode.seq ?_
        obtain ⟨c_54, g55, h⟩ := bind_out h
        try dsimp only at h
        refine SCode.region (show SOps _ _ _ [0, 1, 2] _ _ from ?_)
        refine SOps.q rfl (.plain rfl) rfl (q_load_ptr_all rfl rfl rfl rfl rfl ty51) ?_
        refine SOps.q rfl (.plain rfl) rfl (q_call (access_validRole_ok F (a0_roles.getD t21_36.toNat dSRole) c_54 g55) [] rfl fn25 ⟨⟨rfl, rfl⟩, trivial⟩ (.inl rfl)) ?_
        refine SOps.q rfl (.plain rfl) rfl (q_assign rfl rfl) ?_
        refine SOps.sub (st' := ⟨[(0, .c (.vec a0_roles.length 4 (gL cSRole dSRole a0_roles))), (1, .c (.vec a1_grants.length 4 (gL cSGrant dSGrant a1_grants))), (5, .c (.mp 0)), (8, .c (.int .i64 c_54)), (19, .c (.vec a0_roles.length 4 (gL cSRole dSRole a0_roles))), (20, .c (.int .i64 (((a0_roles).length : Int)))), (21, .c (.int .i64 t21_36))], [.map (aset o0_37 ((a0_roles.getD t21_36.toNat dSRole).Name) true).length (kG (aset o0_37 ((a0_roles.getD t21_36.toNat dSRole).Name) true)) (vG (mC cBool) false (aset o0_37 ((a0_roles.getD t21_36.toNat dSRole).Name) true))]⟩) (sub_gen [0] rfl rfl ⟨zc rfl rfl, zc rfl rfl, zc rfl rfl, zc rfl rfl, zc rfl rfl, zc rfl rfl, zc rfl rfl, trivial⟩ ⟨rfl, trivial⟩) ?_
        refine SOps.nil ?_
        refine SCode.seq ?_
        refine SCode.region (show SOps _ _ _ [0, 1] _ _ from ?_)
        refine SOps.q rfl (.plain rfl) rfl (q_move rfl rfl) ?_
        refine SOps.q rfl (.plain rfl) rfl (q_neq rfl rfl rfl) ?_
        refine SOps.sub (st' := ⟨[(0, .c (.vec a0_roles.length 4 (gL cSRole dSRole a0_roles))), (1, .c (.vec a1_grants.length 4 (gL cSGrant dSGrant a1_grants))), (5, .c (.mp 0)), (8, .c (.int .i64 c_54)), (19, .c (.vec a0_roles.length 4 (gL cSRole dSRole a0_roles))), (20, .c (.int .i64 (((a0_roles).length : Int)))), (21, .c (.int .i64 t21_36)), (39, .c (.bool ((!decide (c_54 = 0)))))], [.map (aset o0_37 ((a0_roles.getD t21_36.toNat dSRole).Name) true).length (kG (aset o0_37 ((a0_roles.getD t21_36.toNat dSRole).Name) true)) (vG (mC cBool) false (aset o0_37 ((a0_roles.getD t21_36.toNat dSRole).Name) true))]⟩) (sub_gen [0] rfl rfl ⟨zc rfl rfl, zc rfl rfl, zc rfl rfl, zc rfl rfl, zc rfl rfl, zc rfl rfl, zc rfl rfl, zc rfl rfl, trivial⟩ ⟨rfl, trivial⟩) ?_
        refine SOps.nil ?_
        rcases cond_out h with ⟨g56, h⟩ | ⟨g56, h⟩
        · refine SCode.cond_t rfl g56 ?_
          refine SCode.seq ?_
          refine SCode.region (show SOps _ _ _ [0, 1] _ _ from ?_)
          refine SOps.q rfl (.plain rfl) rfl (q_move rfl rfl) ?_
          refine SOps.q rfl (.plain rfl) rfl (q_assign rfl rfl) ?_
          refine SOps.sub (st' := ⟨[(4, .c (.int .i64 c_54))], []⟩) (sub_gen [] rfl rfl ⟨zc rfl rfl, trivial⟩ trivial) ?_
          refine SOps.nil ?_
          refine SCode.ret ?_
          obtain rfl := Option.some.inj h
          exact ⟨⟨[(4, .c (.int .i64 c_54))], []⟩, _, sub_gen [] rfl rfl ⟨zc rfl rfl, trivial⟩ trivial, resA1 (v := .c (.int .i64 c_54)) rfl rfl, rfl⟩
        refine SCode.cond_f rfl g56 ?_
        refine SCode.skip ?_
        refine SCode.region (show SOps _ _ _ [0, 1] _ _ from ?_)
        refine SOps.q rfl (.plain rfl) rfl (q_add rfl rfl rfl) ?_
        refine SOps.q rfl (.plain rfl) rfl (q_move rfl rfl) ?_
        refine SOps.sub (st' := ⟨[(0, .c (.vec a0_roles.length 4 (gL cSRole dSRole a0_roles))), (1, .c (.vec a1_grants.length 4 (gL cSGrant dSGrant a1_grants))), (5, .c (.mp 0)), (19, .c (.vec a0_roles.length 4 (gL cSRole dSRole a0_roles))), (20, .c (.int .i64 (((a0_roles).length : Int)))), (21, .c (.int .i64 (IntKind.wrap .i64 (t21_36 + 1))))], [.map (aset o0_37 ((a0_roles.getD t21_36.toNat dSRole).Name) true).length (kG (aset o0_37 ((a0_roles.getD t21_36.toNat dSRole).Name) true)) (vG (mC cBool) false (aset o0_37 ((a0_roles.getD t21_36.toNat dSRole).Name) true))]⟩) (sub_gen [0] rfl rfl ⟨zc rfl rfl, zc rfl rfl, zc rfl rfl, zc rfl rfl, zc rfl rfl, zc rfl rfl, trivial⟩ ⟨rfl, trivial⟩) ?_
        refine SOps.nil ?_
        exact ⟨(n_47, (IntKind.wrap .i64 (t21_36 + 1), aset o0_37 ((a0_roles.getD t21_36.toNat dSRole).Name) true)), h, Nat.lt_succ_self n_47, sub_gen [0] rfl rfl ⟨zc rfl rfl, zc rfl rfl, zc rfl rfl, zc rfl rfl, zc rfl rfl, zc rfl rfl, trivial⟩ ⟨rfl, trivial⟩⟩
      refine SCode.cond_f rfl g48 ?_
      refine SCode.exit ?_
      exact ⟨(), h, sub_gen [] rfl rfl ⟨zc rfl rfl, zc rfl rfl, trivial⟩ trivial⟩
  rintro ⟨⟩ h
  show SCode _ _ _ ⟨[(0, .c (.vec a0_roles.length 4 (gL cSRole dSRole a0_roles))), (1, .c (.vec a1_grants.length 4 (gL cSGrant dSGrant a1_grants)))], []⟩ _
  replace h : access_Valid_p26 F a0_roles a1_grants = some r := h
  unfold access_Valid_p26 at h
  refine SCode.seq ?_
  refine SCode.seq ?_
  refine SCode.region (show SOps _ _ _ [0, 1, 2] _ _ from ?_)
  refine SOps.q rfl (.plain rfl) rfl (q_move rfl rfl) ?_
  refine SOps.q rfl (.plain rfl) rfl (q_len_vec rfl rfl sl23) ?_
  refine SOps.q rfl (.plain rfl) rfl (q_gtr rfl rfl rfl) ?_
  refine SOps.sub (st' := ⟨[(0, .c (.vec a0_roles.length 4 (gL cSRole dSRole a0_roles))), (1, .c (.vec a1_grants.length 4 (gL cSGrant dSGrant a1_grants))), (44, .c (.bool (decide (256 < ((a1_grants).length : Int)))))], []⟩) (sub_gen [] rfl rfl ⟨zc rfl rfl, zc rfl rfl, zc rfl rfl, trivial⟩ trivial) ?_
  refine SOps.nil ?_
  rcases cond_out h with ⟨g2, h⟩ | ⟨g2, h⟩
  · refine SCode.cond_t rfl g2 ?_
    refine SCode.seq ?_
    refine SCode.region (show SOps _ _ _ [0] _ _ from ?_)
    refine SOps.q rfl (.plain rfl) rfl (q_assign rfl rfl) ?_
    refine SOps.sub (st' := ⟨[(4, .c (.int .i64 3))], []⟩) (sub_gen [] rfl rfl ⟨zc rfl rfl, trivial⟩ trivial) ?_
    refine SOps.nil ?_
    refine SCode.ret ?_
    obtain rfl := Option.some.inj h
    exact ⟨⟨[(4, .c (.int .i64 3))], []⟩, _, sub_gen [] rfl rfl ⟨zc rfl rfl, trivial⟩ trivial, resA1 (v := .c (.int .i64 3)) rfl rfl, rfl⟩
  refine SCode.cond_f rfl g2 ?_
  refine SCode.skip ?_
  refine SCode.seq ?_
  obtain ⟨c_3, g4, h⟩ := bind_out h
  try dsimp only at h
  refine SCode.region (show SOps _ _ _ [0, 1, 2] _ _ from ?_)
  refine SOps.q rfl (.plain rfl) rfl (q_move rfl rfl) ?_
  refine SOps.e rfl (.plain rfl) (e_call (access_byName_own_ok F a0_roles c_3 g4) [] rfl fn26 rfl rfl rfl rfl rfl rfl rfl rfl) ?_
  refine SOps.q rfl (.plain rfl) rfl (q_assign rfl rfl) ?_
  refine SOps.sub (st' := ⟨[(1, .c (.vec a1_grants.length 4 (gL cSGrant dSGrant a1_grants))), (9, .c (.mp 0))], [.map c_3.length (kG c_3) (vG (mA 4 cSRole) dSRole c_3)]⟩) (sub_gen [0] rfl rfl ⟨zc rfl rfl, zc rfl rfl, trivial⟩ ⟨rfl, trivial⟩) ?_
  refine SOps.nil ?_
  refine SCode.join (σ := Unit) (S := fun s => ⟨[], []⟩) (g := fun s => access_Valid_p5 = some r) ?_ ?_
  rotate_left
  · refine SCode.seq ?_
    refine SCode.region (show SOps _ _ _ [0, 1, 2] _ _ from ?_)
    refine SOps.q rfl (.plain rfl) rfl (q_move rfl rfl) ?_
    refine SOps.q rfl (.plain rfl) rfl (q_len_vec rfl rfl sl23) ?_
    refine SOps.q rfl (.plain rfl) rfl (q_move rfl rfl) ?_
    refine SOps.sub (st' := ⟨[(1, .c (.vec a1_grants.length 4 (gL cSGrant dSGrant a1_grants))), (9, .c (.mp 0)), (47, .c (.vec a1_grants.length 4 (gL cSGrant dSGrant a1_grants))), (48, .c (.int .i64 (((a1_grants).length : Int)))), (49, .c (.int .i64 0))], [.map c_3.length (kG c_3) (vG (mA 4 cSRole) dSRole c_3)]⟩) (sub_gen [0] rfl rfl ⟨zc rfl rfl, zc rfl rfl, zc rfl rfl, zc rfl rfl, zc rfl rfl, trivial⟩ ⟨rfl, trivial⟩) ?_
    refine SOps.nil ?_
    refine SCode.block ?_
    refine SCode.sub (st' := ⟨[(1, .c (.vec a1_grants.length 4 (gL cSGrant dSGrant a1_grants))), (9, .c (.mp 0)), (47, .c (.vec a1_grants.length 4 (gL cSGrant dSGrant a1_grants))), (48, .c (.int .i64 (((a1_grants).length : Int)))), (49, .c (.int .i64 0))], [.map c_3.length (kG c_3) (vG (mA 4 cSRole) dSRole c_3)]⟩) (sub_gen [0] rfl rfl ⟨zc rfl rfl, zc rfl rfl, zc rfl rfl, zc rfl rfl, zc rfl rfl, trivial⟩ ⟨rfl, trivial⟩) ?_
    refine (SCode.loop (σ := Nat × Int) (S := fun s => ⟨[(1, .c (.vec a1_grants.length 4 (gL cSGrant dSGrant a1_grants))), (9, .c (.mp 0)), (47, .c (.vec a1_grants.length 4 (gL cSGrant dSGrant a1_grants))), (48, .c (.int .i64 (((a1_grants).length : Int)))), (49, .c (.int .i64 s.2))], [.map c_3.length (kG c_3) (vG (mA 4 cSRole) dSRole c_3)]⟩) (g := fun s => access_Valid_l19 F a1_grants c_3 s.1 s.2 = some r) (μ := fun s => s.1) (F, 0) h ?_)
    rintro ⟨n_19, t49_12⟩ h
    replace h : access_Valid_l19 F a1_grants c_3 n_19 t49_12 = some r := h
    show SCode _ _ _ ⟨[(1, .c (.vec a1_grants.length 4 (gL cSGrant dSGrant a1_grants))), (9, .c (.mp 0)), (47, .c (.vec a1_grants.length 4 (gL cSGrant dSGrant a1_grants))), (48, .c (.int .i64 (((a1_grants).length : Int)))), (49, .c (.int .i64 t49_12))], [.map c_3.length (kG c_3) (vG (mA 4 cSRole) dSRole c_3)]⟩ _
    cases n_19 with
    | zero => cases h
    | succ n_19 =>
      replace h : access_Valid_b19 F a1_grants c_3 (fun t49_12 => access_Valid_l19 F a1_grants c_3 n_19 t49_12) t49_12 = some r := h
      unfold access_Valid_b19 at h
      refine SCode.seq ?_
      refine SCode.region (show SOps _ _ _ [0] _ _ from ?_)
      refine SOps.q rfl (.plain rfl) rfl (q_lss rfl rfl rfl) ?_
      refine SOps.sub (st' := ⟨[(1, .c (.vec a1_grants.length 4 (gL cSGrant dSGrant a1_grants))), (9, .c (.mp 0)), (47, .c (.vec a1_grants.length 4 (gL cSGrant dSGrant a1_grants))), (48, .c (.int .i64 (((a1_grants).length : Int)))), (49, .c (.int .i64 t49_12)), (50, .c (.bool (decide (t49_12 < ((a1_grants).length : Int)))))], [.map c_3.length (kG c_3) (vG (mA 4 cSRole) dSRole c_3)]⟩) (sub_gen [0] rfl rfl ⟨zc rfl rfl, zc rfl rfl, zc rfl rfl, zc rfl rfl, zc rfl rfl, zc rfl rfl, trivial⟩ ⟨rfl, trivial⟩) ?_
      refine SOps.nil ?_
      refine SCode.seq ?_
      rcases cond_out h with ⟨g20, h⟩ | ⟨g20, h⟩
      · refine SCode.cond_t rfl g20 ?_
        refine SCode.skip ?_
        refine SCode.seq ?_
        refine SCode.block ?_
        refine SCode.seq ?_
        obtain ⟨g21, h⟩ := guard_out h
        refine SCode.region (show SOps _ _ _ [0, 1, 2, 3, 4, 5] _ _ from ?_)
        refine SOps.q rfl (.plain rfl) rfl (q_move rfl rfl) ?_
        refine SOps.q rfl (.plain rfl) rfl (q_index_vec rfl rfl rfl sl23 rfl g21.1 g21.2) ?_
        refine SOps.q rfl (.plain rfl) rfl (q_load_eptr_all rfl rfl rfl ty37) ?_
        refine SOps.e rfl (.plain rfl) (e_alloc rfl rfl rfl z37) ?_
        refine SOps.q rfl (.plain rfl) rfl (q_assign rfl rfl) ?_
        refine SOps.e rfl (.plain rfl) (e_store_box rfl rfl rfl rfl rfl ty37 rfl rfl rfl rfl) ?_
        refine SOps.sub (st' := ⟨[(1, .c (.vec a1_grants.length 4 (gL cSGrant dSGrant a1_grants))), (9, .c (.mp 0)), (10, .c (.int .i64 t49_12)), (11, .c (.ptr 1 0)), (47, .c (.vec a1_grants.length 4 (gL cSGrant dSGrant a1_grants))), (48, .c (.int .i64 (((a1_grants).length : Int)))), (49, .c (.int .i64 t49_12))], [.map c_3.length (kG c_3) (vG (mA 4 cSRole) dSRole c_3), .box [.str ((a1_grants.getD t49_12.toNat dSGrant).User), .str ((a1_grants.getD t49_12.toNat dSGrant).Role), .int .i64 ((a1_grants.getD t49_12.toNat dSGrant).Span_From), .int .i64 ((a1_grants.getD t49_12.toNat dSGrant).Span_To)]]⟩) (sub_gen [0, 1] rfl rfl ⟨zc rfl rfl, zc rfl rfl, zc rfl rfl, zc rfl rfl, zc rfl rfl, zc rfl rfl, zc rfl rfl, trivial⟩ ⟨rfl, ⟨_, rfl, ⟨ii rfl rfl, ii rfl rfl, ii rfl rfl, ii rfl rfl, trivial⟩⟩, trivial⟩) ?_
        refine SOps.nil ?_
        refine SCode.seq ?_
        obtain ⟨g22, h⟩ := guard_out h
        obtain ⟨c_23, g24, h⟩ := bind_out h
        try dsimp only at h
        refine SCode.draw (s' := [(58, .a [.str ((a1_grants.getD t49_12.toNat dSGrant).User), .str ((a1_grants.getD t49_12.toNat dSGrant).Role), .int .i64 ((a1_grants.getD t49_12.toNat dSGrant).Span_From), .int .i64 ((a1_grants.getD t49_12.toNat dSGrant).Span_To)]), (57, .c (.vec (subL a1_grants 0 (t49_12 : Int).toNat).length 4 (gL cSGrant dSGrant (subL a1_grants 0 (t49_12 : Int).toNat)))), (56, .c (.int .i64 t49_12)), (55, .c (.vec a1_grants.length 4 (gL cSGrant dSGrant a1_grants))), (54, .c (.mp 0)), (1, .c (.vec a1_grants.length 4 (gL cSGrant dSGrant a1_grants))), (9, .c (.mp 0)), (10, .c (.int .i64 t49_12)), (11, .c (.ptr 1 0)), (47, .c (.vec a1_grants.length 4 (gL cSGrant dSGrant a1_grants))), (48, .c (.int .i64 (((a1_grants).length : Int)))), (49, .c (.int .i64 t49_12))]) mixed [[], [], [], [1, 2], [], [0, 1, 2, 3, 4], [0, 1, 2, 3, 4, 5]] 5 2 rfl rfl ?_ ?_
        · refine QChain.run rfl (.plain rfl) rfl (q_move rfl rfl) ?_
          refine QChain.run rfl (.plain rfl) rfl (q_move rfl rfl) ?_
          refine QChain.run rfl (.plain rfl) rfl (q_move rfl rfl) ?_
          refine QChain.run rfl (.plain rfl) rfl (q_slice_h rfl rfl rfl sl23 g22.1 g22.2) ?_
          refine QChain.run rfl (.plain rfl) rfl (q_load_ptr_all rfl rfl rfl rfl rfl ty37) ?_
          exact QChain.nil _ _
        refine (show SOps _ _ _ [5, 6] _ _ from ?_)
        refine SOps.e rfl (.plain rfl) (e_call (access_validGrant_ok F c_3 (subL a1_grants 0 (t49_12 : Int).toNat) (a1_grants.getD t49_12.toNat dSGrant) c_23 g24) [0] rfl fn27 rfl rfl rfl rfl rfl rfl rfl rfl) ?_
        refine SOps.q rfl (.plain rfl) rfl (q_assign rfl rfl) ?_
        refine SOps.sub (st' := ⟨[(1, .c (.vec a1_grants.length 4 (gL cSGrant dSGrant a1_grants))), (9, .c (.mp 0)), (12, .c (.int .i64 c_23)), (47, .c (.vec a1_grants.length 4 (gL cSGrant dSGrant a1_grants))), (48, .c (.int .i64 (((a1_grants).length : Int)))), (49, .c (.int .i64 t49_12))], [.map c_3.length (kG c_3) (vG (mA 4 cSRole) dSRole c_3)]⟩) (sub_gen [0] rfl rfl ⟨zc rfl rfl, zc rfl rfl, zc rfl rfl, zc rfl rfl, zc rfl rfl, zc rfl rfl, trivial⟩ ⟨rfl, trivial⟩) ?_
        refine SOps.nil ?_
        refine SCode.seq ?_
        refine SCode.region (show SOps _ _ _ [0, 1] _ _ from ?_)
        refine SOps.q rfl (.plain rfl) rfl (q_move rfl rfl) ?_
        refine SOps.q rfl (.plain rfl) rfl (q_neq rfl rfl rfl) ?_
        refine SOps.sub (st' := ⟨[(1, .c (.vec a1_grants.length 4 (gL cSGrant dSGrant a1_grants))), (9, .c (.mp 0)), (12, .c (.int .i64 c_23)), (47, .c (.vec a1_grants.length 4 (gL cSGrant dSGrant a1_grants))), (48, .c (.int .i64 (((a1_grants).length : Int)))), (49, .c (.int .i64 t49_12)), (61, .c (.bool ((!decide (c_23 = 0)))))], [.map c_3.length (kG c_3) (vG (mA 4 cSRole) dSRole c_3)]⟩) (sub_gen [0] rfl rfl ⟨zc rfl rfl, zc rfl rfl, zc rfl rfl, zc rfl rfl, zc rfl rfl, zc rfl rfl, zc rfl rfl, trivial⟩ ⟨rfl, trivial⟩) ?_
        refine SOps.nil ?_
        rcases cond_out h with ⟨g25, h⟩ | ⟨g25, h⟩
        · refine SCode.cond_t rfl g25 ?_
          refine SCode.seq ?_
          refine SCode.region (show SOps _ _ _ [0, 1] _ _ from ?_)
          refine SOps.q rfl (.plain rfl) rfl (q_move rfl rfl) ?_
          refine SOps.q rfl (.plain rfl) rfl (q_assign rfl rfl) ?_
          refine SOps.sub (st' := ⟨[(4, .c (.int .i64 c_23))], []⟩) (sub_gen [] rfl rfl ⟨zc rfl rfl, trivial⟩ trivial) ?_
          refine SOps.nil ?_
          refine SCode.ret ?_
          obtain rfl := Option.some.inj h
          exact ⟨⟨[(4, .c (.int .i64 c_23))], []⟩, _, sub_gen [] rfl rfl ⟨zc rfl rfl, trivial⟩ trivial, resA1 (v := .c (.int .i64 c_23)) rfl rfl, rfl⟩
        refine SCode.cond_f rfl g25 ?_
        refine SCode.skip ?_
        refine SCode.region (show SOps _ _ _ [0, 1] _ _ from ?_)
        refine SOps.q rfl (.plain rfl) rfl (q_add rfl rfl rfl) ?_
        refine SOps.q rfl (.plain rfl) rfl (q_move rfl rfl) ?_
        refine SOps.sub (st' := ⟨[(1, .c (.vec a1_grants.length 4 (gL cSGrant dSGrant a1_grants))), (9, .c (.mp 0)), (47, .c (.vec a1_grants.length 4 (gL cSGrant dSGrant a1_grants))), (48, .c (.int .i64 (((a1_grants).length : Int)))), (49, .c (.int .i64 (IntKind.wrap .i64 (t49_12 + 1))))], [.map c_3.length (kG c_3) (vG (mA 4 cSRole) dSRole c_3)]⟩) (sub_gen [0] rfl rfl ⟨zc rfl rfl, zc rfl rfl, zc rfl rfl, zc rfl rfl, zc rfl rfl, trivial⟩ ⟨rfl, trivial⟩) ?_
        refine SOps.nil ?_
        exact ⟨(n_19, IntKind.wrap .i64 (t49_12 + 1)), h, Nat.lt_succ_self n_19, sub_gen [0] rfl rfl ⟨zc rfl rfl, zc rfl rfl, zc rfl rfl, zc rfl rfl, zc rfl rfl, trivial⟩ ⟨rfl, trivial⟩⟩
      refine SCode.cond_f rfl g20 ?_
      refine SCode.exit ?_
      exact ⟨(), h, sub_gen [] rfl rfl trivial trivial⟩
  rintro ⟨⟩ h
  show SCode _ _ _ ⟨[], []⟩ _
  replace h : access_Valid_p5 = some r := h
  unfold access_Valid_p5 at h
  refine SCode.seq ?_
  refine SCode.region (show SOps _ _ _ [0] _ _ from ?_)
  refine SOps.q rfl (.plain rfl) rfl (q_assign rfl rfl) ?_
  refine SOps.sub (st' := ⟨[(4, .c (.int .i64 0))], []⟩) (sub_gen [] rfl rfl ⟨zc rfl rfl, trivial⟩ trivial) ?_
  refine SOps.nil ?_
  refine SCode.ret ?_
  obtain rfl := Option.some.inj h
  exact ⟨⟨[(4, .c (.int .i64 0))], []⟩, _, sub_gen [] rfl rfl ⟨zc rfl rfl, trivial⟩ trivial, resA1 (v := .c (.int .i64 0)) rfl rfl, rfl⟩
set_option maxRecDepth 100000 in
set_option maxHeartbeats 8000000 in
theorem slices_Index_int_int_ok (F : Nat) (a0_s : List Int) (a1_v : Int) (r : Int) (h : slices_Index_int_int F a0_s a1_v = some r) :
    SFun Try.prog 60 [] [.c (.vec a0_s.length 1 (gL (cInt .i64) 0 a0_s)), .c (.int .i64 a1_v)] (fun x _ => x = .c (.int .i64 r)) := by
  refine SFun.of (n := 19) Try.func60 rfl rfl rfl ?_
  unfold slices_Index_int_int at h
  show SCode _ _ _ ⟨[(0, .c (.vec a0_s.length 1 (gL (cInt .i64) 0 a0_s))), (1, .c (.int .i64 a1_v))], []⟩ _
  refine SCode.seq ?_
  refine SCode.region (show SOps _ _ _ [0] _ _ from ?_)
  refine SOps.q rfl (.plain rfl) rfl (q_assign rfl rfl) ?_
  refine SOps.sub (st' := ⟨[(0, .c (.vec a0_s.length 1 (gL (cInt .i64) 0 a0_s))), (1, .c (.int .i64 a1_v))], []⟩) (sub_gen [] rfl rfl ⟨zc rfl rfl, zc rfl rfl, trivial⟩ trivial) ?_
  refine SOps.nil ?_
  refine SCode.join (σ := Unit) (S := fun s => ⟨[], []⟩) (g := fun s => slices_Index_int_int_p1 = some r) ?_ ?_
  rotate_left
  · refine SCode.seq ?_
    refine SCode.region (show SOps _ _ _ [0, 1, 2] _ _ from ?_)
    refine SOps.q rfl (.plain rfl) rfl (q_move rfl rfl) ?_
    refine SOps.q rfl (.plain rfl) rfl (q_len_vec rfl rfl sl48) ?_
    refine SOps.q rfl (.plain rfl) rfl (q_move rfl rfl) ?_
    refine SOps.sub (st' := ⟨[(0, .c (.vec a0_s.length 1 (gL (cInt .i64) 0 a0_s))), (1, .c (.int .i64 a1_v)), (7, .c (.int .i64 (((a0_s).length : Int)))), (8, .c (.int .i64 0))], []⟩) (sub_gen [] rfl rfl ⟨zc rfl rfl, zc rfl rfl, zc rfl rfl, zc rfl rfl, trivial⟩ trivial) ?_
    refine SOps.nil ?_
    refine SCode.block ?_
    refine SCode.sub (st' := ⟨[(0, .c (.vec a0_s.length 1 (gL (cInt .i64) 0 a0_s))), (1, .c (.int .i64 a1_v)), (7, .c (.int .i64 (((a0_s).length : Int)))), (8, .c (.int .i64 0))], []⟩) (sub_gen [] rfl rfl ⟨zc rfl rfl, zc rfl rfl, zc rfl rfl, zc rfl rfl, trivial⟩ trivial) ?_
    refine (SCode.loop (σ := Nat × Int) (S := fun s => ⟨[(0, .c (.vec a0_s.length 1 (gL (cInt .i64) 0 a0_s))), (1, .c (.int .i64 a1_v)), (7, .c (.int .i64 (((a0_s).length : Int)))), (8, .c (.int .i64 s.2))], []⟩) (g := fun s => slices_Index_int_int_l9 a0_s a1_v s.1 s.2 = some r) (μ := fun s => s.1) (F, 0) h ?_)
    rintro ⟨n_9, t8_5⟩ h
    replace h : slices_Index_int_int_l9 a0_s a1_v n_9 t8_5 = some r := h
    show SCode _ _ _ ⟨[(0, .c (.vec a0_s.length 1 (gL (cInt .i64) 0 a0_s))), (1, .c (.int .i64 a1_v)), (7, .c (.int .i64 (((a0_s).length : Int)))), (8, .c (.int .i64 t8_5))], []⟩ _
    cases n_9 with
    | zero => cases h
    | succ n_9 =>
      replace h : slices_Index_int_int_b9 a0_s a1_v (fun t8_5 => slices_Index_int_int_l9 a0_s a1_v n_9 t8_5) t8_5 = some r := h
      unfold slices_Index_int_int_b9 at h
      refine SCode.seq ?_
      refine SCode.region (show SOps _ _ _ [0] _ _ from ?_)
      refine SOps.q rfl (.plain rfl) rfl (q_lss rfl rfl rfl) ?_
      refine SOps.sub (st' := ⟨[(0, .c (.vec a0_s.length 1 (gL (cInt .i64) 0 a0_s))), (1, .c (.int .i64 a1_v)), (7, .c (.int .i64 (((a0_s).length : Int)))), (8, .c (.int .i64 t8_5)), (9, .c (.bool (decide (t8_5 < ((a0_s).length : Int)))))], []⟩) (sub_gen [] rfl rfl ⟨zc rfl rfl, zc rfl rfl, zc rfl rfl, zc rfl rfl, zc rfl rfl, trivial⟩ trivial) ?_
      refine SOps.nil ?_
      refine SCode.seq ?_
      rcases cond_out h with ⟨g10, h⟩ | ⟨g10, h⟩
      · refine SCode.cond_t rfl g10 ?_
        refine SCode.skip ?_
        refine SCode.seq ?_
        refine SCode.block ?_
        refine SCode.seq ?_
        refine SCode.region (show SOps _ _ _ [0, 1] _ _ from ?_)
        refine SOps.q rfl (.plain rfl) rfl (q_move rfl rfl) ?_
        refine SOps.q rfl (.plain rfl) rfl (q_assign rfl rfl) ?_
        refine SOps.sub (st' := ⟨[(0, .c (.vec a0_s.length 1 (gL (cInt .i64) 0 a0_s))), (1, .c (.int .i64 a1_v)), (5, .c (.int .i64 t8_5)), (7, .c (.int .i64 (((a0_s).length : Int)))), (8, .c (.int .i64 t8_5))], []⟩) (sub_gen [] rfl rfl ⟨zc rfl rfl, zc rfl rfl, zc rfl rfl, zc rfl rfl, zc rfl rfl, trivial⟩ trivial) ?_
        refine SOps.nil ?_
        refine SCode.seq ?_
        obtain ⟨g11, h⟩ := guard_out h
        refine SCode.region (show SOps _ _ _ [0, 1, 2, 3, 4, 5] _ _ from ?_)
        refine SOps.q rfl (.plain rfl) rfl (q_move rfl rfl) ?_
        refine SOps.q rfl (.plain rfl) rfl (q_move rfl rfl) ?_
        refine SOps.q rfl (.plain rfl) rfl (q_move rfl rfl) ?_
        refine SOps.q rfl (.plain rfl) rfl (q_index_vec rfl rfl rfl sl48 rfl g11.1 g11.2) ?_
        refine SOps.q rfl (.plain rfl) rfl (q_load_eptr rfl rfl ty3) ?_
        refine SOps.q rfl (.plain rfl) rfl (q_eql rfl rfl rfl) ?_
        refine SOps.sub (st' := ⟨[(0, .c (.vec a0_s.length 1 (gL (cInt .i64) 0 a0_s))), (1, .c (.int .i64 a1_v)), (5, .c (.int .i64 t8_5)), (7, .c (.int .i64 (((a0_s).length : Int)))), (8, .c (.int .i64 t8_5)), (16, .c (.bool (decide (a1_v = a0_s.getD t8_5.toNat 0))))], []⟩) (sub_gen [] rfl rfl ⟨zc rfl rfl, zc rfl rfl, zc rfl rfl, zc rfl rfl, zc rfl rfl, zc rfl rfl, trivial⟩ trivial) ?_
        refine SOps.nil ?_
        rcases cond_out h with ⟨g12, h⟩ | ⟨g12, h⟩
        · refine SCode.cond_t rfl g12 ?_
          refine SCode.seq ?_
          refine SCode.region (show SOps _ _ _ [0, 1] _ _ from ?_)
          refine SOps.q rfl (.plain rfl) rfl (q_move rfl rfl) ?_
          refine SOps.q rfl (.plain rfl) rfl (q_assign rfl rfl) ?_
          refine SOps.sub (st' := ⟨[(4, .c (.int .i64 t8_5))], []⟩) (sub_gen [] rfl rfl ⟨zc rfl rfl, trivial⟩ trivial) ?_
          refine SOps.nil ?_
          refine SCode.ret ?_
          obtain rfl := Option.some.inj h
          exact ⟨⟨[(4, .c (.int .i64 t8_5))], []⟩, _, sub_gen [] rfl rfl ⟨zc rfl rfl, trivial⟩ trivial, resA1 (v := .c (.int .i64 t8_5)) rfl rfl, rfl⟩
        refine SCode.cond_f rfl g12 ?_
        refine SCode.skip ?_
        refine SCode.region (show SOps _ _ _ [0, 1] _ _ from ?_)
        refine SOps.q rfl (.plain rfl) rfl (q_add rfl rfl rfl) ?_
        refine SOps.q rfl (.plain rfl) rfl (q_move rfl rfl) ?_
        refine SOps.sub (st' := ⟨[(0, .c (.vec a0_s.length 1 (gL (cInt .i64) 0 a0_s))), (1, .c (.int .i64 a1_v)), (7, .c (.int .i64 (((a0_s).length : Int)))), (8, .c (.int .i64 (IntKind.wrap .i64 (t8_5 + 1))))], []⟩) (sub_gen [] rfl rfl ⟨zc rfl rfl, zc rfl rfl, zc rfl rfl, zc rfl rfl, trivial⟩ trivial) ?_
        refine SOps.nil ?_
        exact ⟨(n_9, IntKind.wrap .i64 (t8_5 + 1)), h, Nat.lt_succ_self n_9, sub_gen [] rfl rfl ⟨zc rfl rfl, zc rfl rfl, zc rfl rfl, zc rfl rfl, trivial⟩ trivial⟩
      refine SCode.cond_f rfl g10 ?_
      refine SCode.exit ?_
      exact ⟨(), h, sub_gen [] rfl rfl trivial trivial⟩
  rintro ⟨⟩ h
  show SCode _ _ _ ⟨[], []⟩ _
  replace h : slices_Index_int_int_p1 = some r := h
  unfold slices_Index_int_int_p1 at h
  refine SCode.seq ?_
  refine SCode.region (show SOps _ _ _ [0] _ _ from ?_)
  refine SOps.q rfl (.plain rfl) rfl (q_assign rfl rfl) ?_
  refine SOps.sub (st' := ⟨[(4, .c (.int .i64 ((-1))))], []⟩) (sub_gen [] rfl rfl ⟨zc rfl rfl, trivial⟩ trivial) ?_
  refine SOps.nil ?_
  refine SCode.ret ?_
  obtain rfl := Option.some.inj h
  exact ⟨⟨[(4, .c (.int .i64 ((-1))))], []⟩, _, sub_gen [] rfl rfl ⟨zc rfl rfl, trivial⟩ trivial, resA1 (v := .c (.int .i64 ((-1)))) rfl rfl, rfl⟩
set_option maxRecDepth 100000 in
set_option maxHeartbeats 8000000 in
theorem slices_Contains_int_int_ok (F : Nat) (a0_s : List Int) (a1_v : Int) (r : Bool) (h : slices_Contains_int_int F a0_s a1_v = some r) :
    SFun Try.prog 46 [] [.c (.vec a0_s.length 1 (gL (cInt .i64) 0 a0_s)), .c (.int .i64 a1_v)] (fun x _ => x = .c (.bool r)) := by
  refine SFun.of (n := 9) Try.func46 rfl rfl rfl ?_
  unfold slices_Contains_int_int at h
  show SCode _ _ _ ⟨[(0, .c (.vec a0_s.length 1 (gL (cInt .i64) 0 a0_s))), (1, .c (.int .i64 a1_v))], []⟩ _
  refine SCode.seq ?_
  refine SCode.region (show SOps _ _ _ [0] _ _ from ?_)
  refine SOps.q rfl (.plain rfl) rfl (q_assign rfl rfl) ?_
  refine SOps.sub (st' := ⟨[(0, .c (.vec a0_s.length 1 (gL (cInt .i64) 0 a0_s))), (1, .c (.int .i64 a1_v))], []⟩) (sub_gen [] rfl rfl ⟨zc rfl rfl, zc rfl rfl, trivial⟩ trivial) ?_
  refine SOps.nil ?_
  refine SCode.seq ?_
  obtain ⟨c_1, g2, h⟩ := bind_out h
  try dsimp only at h
  refine SCode.region (show SOps _ _ _ [0, 1, 2, 3, 4] _ _ from ?_)
  refine SOps.q rfl (.plain rfl) rfl (q_move rfl rfl) ?_
  refine SOps.q rfl (.plain rfl) rfl (q_move rfl rfl) ?_
  refine SOps.q rfl (.plain rfl) rfl (q_call (slices_Index_int_int_ok F a0_s a1_v c_1 g2) [] rfl fn60 ⟨⟨_, rfl, .inl ⟨rfl, rfl⟩⟩, ⟨_, rfl, .inl ⟨rfl, rfl⟩⟩, trivial⟩ (.inl rfl)) ?_
  refine SOps.q rfl (.plain rfl) rfl (q_geq rfl rfl rfl) ?_
  refine SOps.q rfl (.plain rfl) rfl (q_assign rfl rfl) ?_
  refine SOps.sub (st' := ⟨[(4, .c (.bool (decide (0 ≤ c_1))))], []⟩) (sub_gen [] rfl rfl ⟨zc rfl rfl, trivial⟩ trivial) ?_
  refine SOps.nil ?_
  refine SCode.ret ?_
  obtain rfl := Option.some.inj h
  exact ⟨⟨[(4, .c (.bool (decide (0 ≤ c_1))))], []⟩, _, sub_gen [] rfl rfl ⟨zc rfl rfl, trivial⟩ trivial, resA1 (v := .c (.bool (decide (0 ≤ c_1)))) rfl rfl, rfl⟩
set_option maxRecDepth 100000 in
set_option maxHeartbeats 8000000 in
theorem internal_stringslite_HasPrefix_ok (F : Nat) (a0_s : ByteArray) (a1_prefix : ByteArray) (r : Bool) (h : internal_stringslite_HasPrefix F a0_s a1_prefix = some r) :
    SFun Try.prog 61 [] [.c (.str a0_s), .c (.str a1_prefix)] (fun x _ => x = .c (.bool r)) := by
  refine SFun.of (n := 18) Try.func61 rfl rfl rfl ?_
  unfold internal_stringslite_HasPrefix at h
  show SCode _ _ _ ⟨[(0, .c (.str a0_s)), (1, .c (.str a1_prefix))], []⟩ _
  refine SCode.seq ?_
  refine SCode.region (show SOps _ _ _ [0] _ _ from ?_)
  refine SOps.q rfl (.plain rfl) rfl (q_assign rfl rfl) ?_
  refine SOps.sub (st' := ⟨[(0, .c (.str a0_s)), (1, .c (.str a1_prefix))], []⟩) (sub_gen [] rfl rfl ⟨zc rfl rfl, zc rfl rfl, trivial⟩ trivial) ?_
  refine SOps.nil ?_
  refine SCode.seq ?_
  rcases cond_out h with ⟨g1, h⟩ | ⟨g1, h⟩
  · obtain ⟨g2, h⟩ := guard_out h
    refine SCode.region (show SOps _ _ _ [0, 1, 2, 3, 4, 5, 6, 7, 8, 9, 10, 11, 12, 13] _ _ from ?_)
    refine SOps.q rfl (.plain rfl) rfl (q_move rfl rfl) ?_
    refine SOps.q rfl (.plain rfl) rfl (q_len_str rfl rfl un9) ?_
    refine SOps.q rfl (.plain rfl) rfl (q_move rfl rfl) ?_
    refine SOps.q rfl (.plain rfl) rfl (q_len_str rfl rfl un9) ?_
    refine SOps.q rfl (.plain rfl) rfl (q_geq rfl rfl rfl) ?_
    refine SOps.q rfl (.plain rfl) rfl (q_move rfl rfl) ?_
    refine SOps.q rfl (.guard 5 10 true rfl rfl (gT g1)) rfl (q_move rfl rfl) ?_
    refine SOps.q rfl (.guard 5 10 true rfl rfl (gT g1)) rfl (q_move rfl rfl) ?_
    refine SOps.q rfl (.guard 5 10 true rfl rfl (gT g1)) rfl (q_len_str rfl rfl un9) ?_
    refine SOps.q rfl (.guard 5 10 true rfl rfl (gT g1)) rfl (q_sslice_h rfl rfl rfl un9 g2.1 g2.2) ?_
    refine SOps.q rfl (.guard 5 10 true rfl rfl (gT g1)) rfl (q_move rfl rfl) ?_
    refine SOps.q rfl (.guard 5 10 true rfl rfl (gT g1)) rfl (q_eqlS rfl rfl rfl) ?_
    refine SOps.q rfl (.plain rfl) rfl (q_pick_t rfl rfl g1 rfl) ?_
    refine SOps.q rfl (.plain rfl) rfl (q_assign rfl rfl) ?_
    refine SOps.sub (st' := ⟨[(4, .c (.bool (sEq (sSub a0_s 0 ((a1_prefix.size : Int)).toNat) a1_prefix)))], []⟩) (sub_gen [] rfl rfl ⟨zc rfl rfl, trivial⟩ trivial) ?_
    refine SOps.nil ?_
    refine SCode.ret ?_
    obtain rfl := Option.some.inj h
    exact ⟨⟨[(4, .c (.bool (sEq (sSub a0_s 0 ((a1_prefix.size : Int)).toNat) a1_prefix)))], []⟩, _, sub_gen [] rfl rfl ⟨zc rfl rfl, trivial⟩ trivial, resA1 (v := .c (.bool (sEq (sSub a0_s 0 ((a1_prefix.size : Int)).toNat) a1_prefix))) rfl rfl, rfl⟩
  refine SCode.region (show SOps _ _ _ [0, 1, 2, 3, 4, 5, 6, 7, 8, 9, 10, 11, 12, 13] _ _ from ?_)
  refine SOps.q rfl (.plain rfl) rfl (q_move rfl rfl) ?_
  refine SOps.q rfl (.plain rfl) rfl (q_len_str rfl rfl un9) ?_
  refine SOps.q rfl (.plain rfl) rfl (q_move rfl rfl) ?_
  refine SOps.q rfl (.plain rfl) rfl (q_len_str rfl rfl un9) ?_
  refine SOps.q rfl (.plain rfl) rfl (q_geq rfl rfl rfl) ?_
  refine SOps.q rfl (.plain rfl) rfl (q_move rfl rfl) ?_
  refine SOps.skip rfl 5 10 true rfl rfl (.inl (gF g1)) rfl ?_
  refine SOps.skip rfl 5 10 true rfl rfl (.inl (gF g1)) rfl ?_
  refine SOps.skip rfl 5 10 true rfl rfl (.inl (gF g1)) rfl ?_
  refine SOps.skip rfl 5 10 true rfl rfl (.inl (gF g1)) rfl ?_
  refine SOps.skip rfl 5 10 true rfl rfl (.inl (gF g1)) rfl ?_
  refine SOps.skip rfl 5 10 true rfl rfl (.inl (gF g1)) rfl ?_
  refine SOps.q rfl (.plain rfl) rfl (q_pick_f rfl rfl g1 rfl) ?_
  refine SOps.q rfl (.plain rfl) rfl (q_assign rfl rfl) ?_
  refine SOps.sub (st' := ⟨[(4, .c (.bool false))], []⟩) (sub_gen [] rfl rfl ⟨zc rfl rfl, trivial⟩ trivial) ?_
  refine SOps.nil ?_
  refine SCode.ret ?_
  obtain rfl := Option.some.inj h
  exact ⟨⟨[(4, .c (.bool false))], []⟩, _, sub_gen [] rfl rfl ⟨zc rfl rfl, trivial⟩ trivial, resA1 (v := .c (.bool false)) rfl rfl, rfl⟩
set_option maxRecDepth 100000 in
set_option maxHeartbeats 8000000 in
theorem strings_HasPrefix_ok (F : Nat) (a0_s : ByteArray) (a1_prefix : ByteArray) (r : Bool) (h : strings_HasPrefix F a0_s a1_prefix = some r) :
    SFun Try.prog 47 [] [.c (.str a0_s), .c (.str a1_prefix)] (fun x _ => x = .c (.bool r)) := by
  refine SFun.of (n := 8) Try.func47 rfl rfl rfl ?_
  unfold strings_HasPrefix at h
  show SCode _ _ _ ⟨[(0, .c (.str a0_s)), (1, .c (.str a1_prefix))], []⟩ _
  refine SCode.seq ?_
  refine SCode.region (show SOps _ _ _ [0] _ _ from ?_)
  refine SOps.q rfl (.plain rfl) rfl (q_assign rfl rfl) ?_
  refine SOps.sub (st' := ⟨[(0, .c (.str a0_s)), (1, .c (.str a1_prefix))], []⟩) (sub_gen [] rfl rfl ⟨zc rfl rfl, zc rfl rfl, trivial⟩ trivial) ?_
  refine SOps.nil ?_
  refine SCode.seq ?_
  obtain ⟨c_1, g2, h⟩ := bind_out h
  try dsimp only at h
  refine SCode.region (show SOps _ _ _ [0, 1, 2, 3] _ _ from ?_)
  refine SOps.q rfl (.plain rfl) rfl (q_move rfl rfl) ?_
  refine SOps.q rfl (.plain rfl) rfl (q_move rfl rfl) ?_
  refine SOps.q rfl (.plain rfl) rfl (q_call (internal_stringslite_HasPrefix_ok F a0_s a1_prefix c_1 g2) [] rfl fn61 ⟨⟨_, rfl, .inl ⟨rfl, rfl⟩⟩, ⟨_, rfl, .inl ⟨rfl, rfl⟩⟩, trivial⟩ (.inl rfl)) ?_
  refine SOps.q rfl (.plain rfl) rfl (q_assign rfl rfl) ?_
  refine SOps.sub (st' := ⟨[(4, .c (.bool c_1))], []⟩) (sub_gen [] rfl rfl ⟨zc rfl rfl, trivial⟩ trivial) ?_
  refine SOps.nil ?_
  refine SCode.ret ?_
  obtain rfl := Option.some.inj h
  exact ⟨⟨[(4, .c (.bool c_1))], []⟩, _, sub_gen [] rfl rfl ⟨zc rfl rfl, trivial⟩ trivial, resA1 (v := .c (.bool c_1)) rfl rfl, rfl⟩
set_option maxRecDepth 100000 in
set_option maxHeartbeats 8000000 in
theorem access_covers_ok (F : Nat) (a0_r : SRole) (a1_action : Int) (a2_object : ByteArray) (r : Bool) (h : access_covers F a0_r a1_action a2_object = some r) :
    SFun Try.prog 42 [] [.a [.str a0_r.Name, .vec a0_r.Actions.length 1 (gL (cInt .i64) 0 a0_r.Actions), .str a0_r.Prefix, .bool a0_r.Deny], .c (.int .i64 a1_action), .c (.str a2_object)] (fun x _ => x = .c (.bool r)) := by
  refine SFun.of (n := 17) Try.func42 rfl rfl rfl ?_
  unfold access_covers at h
  show SCode _ _ _ ⟨[(0, .a [.str a0_r.Name, .vec a0_r.Actions.length 1 (gL (cInt .i64) 0 a0_r.Actions), .str a0_r.Prefix, .bool a0_r.Deny]), (1, .c (.int .i64 a1_action)), (2, .c (.str a2_object))], []⟩ _
  refine SCode.seq ?_
  refine SCode.region (show SOps _ _ _ [0, 1] _ _ from ?_)
  refine SOps.e rfl (.plain rfl) (e_box rfl rfl rfl rfl rfl rfl) ?_
  refine SOps.q rfl (.plain rfl) rfl (q_assign rfl rfl) ?_
  refine SOps.sub (st' := ⟨[(1, .c (.int .i64 a1_action)), (2, .c (.str a2_object)), (3, .c (.ptr 0 0))], [.box [.str a0_r.Name, .vec a0_r.Actions.length 1 (gL (cInt .i64) 0 a0_r.Actions), .str a0_r.Prefix, .bool a0_r.Deny]]⟩) (sub_gen [0] rfl rfl ⟨zc rfl rfl, zc rfl rfl, zc rfl rfl, trivial⟩ ⟨⟨_, rfl, ⟨ii rfl rfl, ii rfl rfl, ii rfl rfl, ii rfl rfl, trivial⟩⟩, trivial⟩) ?_
  refine SOps.nil ?_
  refine SCode.seq ?_
  obtain ⟨c_1, g2, h⟩ := bind_out h
  try dsimp only at h
  rcases cond_out h with ⟨g3, h⟩ | ⟨g3, h⟩
  · obtain ⟨c_4, g5, h⟩ := bind_out h
    try dsimp only at h
    refine SCode.region (show SOps _ _ _ [0, 1, 2, 3, 4, 5, 6, 7, 8, 9, 10] _ _ from ?_)
    refine SOps.q rfl (.plain rfl) rfl (q_field_ptr rfl rfl fd51_1) ?_
    refine SOps.q rfl (.plain rfl) rfl (q_load_ptr rfl rfl rfl rfl ty48) ?_
    refine SOps.q rfl (.plain rfl) rfl (q_move rfl rfl) ?_
    refine SOps.q rfl (.plain rfl) rfl (q_call (slices_Contains_int_int_ok F a0_r.Actions a1_action c_1 g2) [] rfl fn46 ⟨⟨_, rfl, .inl ⟨rfl, rfl⟩⟩, ⟨_, rfl, .inl ⟨rfl, rfl⟩⟩, trivial⟩ (.inl rfl)) ?_
    refine SOps.q rfl (.plain rfl) rfl (q_move rfl rfl) ?_
    refine SOps.q rfl (.guard 4 11 true rfl rfl (gT g3)) rfl (q_move rfl rfl) ?_
    refine SOps.q rfl (.guard 4 11 true rfl rfl (gT g3)) rfl (q_field_ptr rfl rfl fd51_2) ?_
    refine SOps.q rfl (.guard 4 11 true rfl rfl (gT g3)) rfl (q_load_ptr rfl rfl rfl rfl ty9) ?_
    refine SOps.q rfl (.guard 4 11 true rfl rfl (gT g3)) rfl (q_call (strings_HasPrefix_ok F a2_object a0_r.Prefix c_4 g5) [] rfl fn47 ⟨⟨_, rfl, .inl ⟨rfl, rfl⟩⟩, ⟨_, rfl, .inl ⟨rfl, rfl⟩⟩, trivial⟩ (.inl rfl)) ?_
    refine SOps.q rfl (.plain rfl) rfl (q_pick_t rfl rfl g3 rfl) ?_
    refine SOps.q rfl (.plain rfl) rfl (q_assign rfl rfl) ?_
    refine SOps.sub (st' := ⟨[(6, .c (.bool c_4))], []⟩) (sub_gen [] rfl rfl ⟨zc rfl rfl, trivial⟩ trivial) ?_
    refine SOps.nil ?_
    refine SCode.ret ?_
    obtain rfl := Option.some.inj h
    exact ⟨⟨[(6, .c (.bool c_4))], []⟩, _, sub_gen [] rfl rfl ⟨zc rfl rfl, trivial⟩ trivial, resA1 (v := .c (.bool c_4)) rfl rfl, rfl⟩
  refine SCode.region (show SOps _ _ _ [0, 1, 2, 3, 4, 5, 6, 7, 8, 9, 10] _ _ from ?_)
  refine SOps.q rfl (.plain rfl) rfl (q_field_ptr rfl rfl fd51_1) ?_
  refine SOps.q rfl (.plain rfl) rfl (q_load_ptr rfl rfl rfl rfl ty48) ?_
  refine SOps.q rfl (.plain rfl) rfl (q_move rfl rfl) ?_
  refine SOps.q rfl (.plain rfl) rfl (q_call (slices_Contains_int_int_ok F a0_r.Actions a1_action c_1 g2) [] rfl fn46 ⟨⟨_, rfl, .inl ⟨rfl, rfl⟩⟩, ⟨_, rfl, .inl ⟨rfl, rfl⟩⟩, trivial⟩ (.inl rfl)) ?_
  refine SOps.q rfl (.plain rfl) rfl (q_move rfl rfl) ?_
  refine SOps.skip rfl 4 11 true rfl rfl (.inl (gF g3)) rfl ?_
  refine SOps.skip rfl 4 11 true rfl rfl (.inl (gF g3)) rfl ?_
  refine SOps.skip rfl 4 11 true rfl rfl (.inl (gF g3)) rfl ?_
  refine SOps.skip rfl 4 11 true rfl rfl (.inl (gF g3)) rfl ?_
  refine SOps.q rfl (.plain rfl) rfl (q_pick_f rfl rfl g3 rfl) ?_
  refine SOps.q rfl (.plain rfl) rfl (q_assign rfl rfl) ?_
  refine SOps.sub (st' := ⟨[(6, .c (.bool false))], []⟩) (sub_gen [] rfl rfl ⟨zc rfl rfl, trivial⟩ trivial) ?_
  refine SOps.nil ?_
  refine SCode.ret ?_
  obtain rfl := Option.some.inj h
  exact ⟨⟨[(6, .c (.bool false))], []⟩, _, sub_gen [] rfl rfl ⟨zc rfl rfl, trivial⟩ trivial, resA1 (v := .c (.bool false)) rfl rfl, rfl⟩
end Go.Proofs.Ytggfgdohbeoabaa.W
