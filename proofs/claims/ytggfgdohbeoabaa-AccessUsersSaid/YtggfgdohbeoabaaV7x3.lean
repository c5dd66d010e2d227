/- Written by a program of ours (wip/eng/gen.py): the functions compute their models. -/
import Derived.Test.YtggfgdohbeoabaaFacts
import Derived.Test.YtggfgdohbeoabaaV7x2
import Derived.Test.YtggfgdohbeoabaaShelf
namespace Go.Proofs.Ytggfgdohbeoabaa.W
open Go Go.Proofs Go.Proofs.Ytggfgdohbeoabaa.E Go.Proofs.Ytggfgdohbeoabaa.M
set_option linter.unusedVariables false
set_option maxRecDepth 100000 in
set_option maxHeartbeats 8000000 in
theorem access_allowed_ok (F : Nat) (a0_known : List (ByteArray × SRole)) (a1_grants : List SGrant) (a2_user : ByteArray) (a3_action : Int) (a4_object : ByteArray) (a5_now : Int) (r : Bool) (h : access_allowed F a0_known a1_grants a2_user a3_action a4_object a5_now = some r) :
    SFun Try.prog 30 [.map a0_known.length (kG a0_known) (vG (mA 4 cSRole) dSRole a0_known)] [.c (.mp 0), .c (.vec a1_grants.length 4 (gL cSGrant dSGrant a1_grants)), .c (.str a2_user), .c (.int .i64 a3_action), .c (.str a4_object), .c (.int .i64 a5_now)] (fun x os => x = .c (.bool r) ∧ os = [.map a0_known.length (kG a0_known) (vG (mA 4 cSRole) dSRole a0_known)]) := by
  refine SFun.of (n := 47) Try.func30 rfl rfl rfl ?_
  unfold access_allowed at h
  show SCode _ _ _ ⟨[(0, .c (.mp 0)), (1, .c (.vec a1_grants.length 4 (gL cSGrant dSGrant a1_grants))), (2, .c (.str a2_user)), (3, .c (.int .i64 a3_action)), (4, .c (.str a4_object)), (5, .c (.int .i64 a5_now))], [.map a0_known.length (kG a0_known) (vG (mA 4 cSRole) dSRole a0_known)]⟩ _
  refine SCode.seq ?_
  refine SCode.region (show SOps _ _ _ [0] _ _ from ?_)
  refine SOps.q rfl (.plain rfl) rfl (q_assign rfl rfl) ?_
  refine SOps.sub (st' := ⟨[(0, .c (.mp 0)), (1, .c (.vec a1_grants.length 4 (gL cSGrant dSGrant a1_grants))), (2, .c (.str a2_user)), (3, .c (.int .i64 a3_action)), (4, .c (.str a4_object)), (5, .c (.int .i64 a5_now))], [.map a0_known.length (kG a0_known) (vG (mA 4 cSRole) dSRole a0_known)]⟩) (sub_gen [0] rfl rfl ⟨zc rfl rfl, zc rfl rfl, zc rfl rfl, zc rfl rfl, zc rfl rfl, zc rfl rfl, trivial⟩ ⟨rfl, trivial⟩) ?_
  refine SOps.nil ?_
  refine SCode.seq ?_
  refine SCode.region (show SOps _ _ _ [0] _ _ from ?_)
  refine SOps.q rfl (.plain rfl) rfl (q_assign rfl rfl) ?_
  refine SOps.sub (st' := ⟨[(0, .c (.mp 0)), (1, .c (.vec a1_grants.length 4 (gL cSGrant dSGrant a1_grants))), (2, .c (.str a2_user)), (3, .c (.int .i64 a3_action)), (4, .c (.str a4_object)), (5, .c (.int .i64 a5_now)), (13, .c (.bool false))], [.map a0_known.length (kG a0_known) (vG (mA 4 cSRole) dSRole a0_known)]⟩) (sub_gen [0] rfl rfl ⟨zc rfl rfl, zc rfl rfl, zc rfl rfl, zc rfl rfl, zc rfl rfl, zc rfl rfl, zc rfl rfl, trivial⟩ ⟨rfl, trivial⟩) ?_
  refine SOps.nil ?_
  refine SCode.join (σ := Bool) (S := fun s => ⟨[(13, .c (.bool s))], [.map a0_known.length (kG a0_known) (vG (mA 4 cSRole) dSRole a0_known)]⟩) (g := fun s => access_allowed_p2 s = some r) ?_ ?_
  rotate_left
  · refine SCode.seq ?_
    refine SCode.region (show SOps _ _ _ [0, 1, 2] _ _ from ?_)
    refine SOps.q rfl (.plain rfl) rfl (q_move rfl rfl) ?_
    refine SOps.q rfl (.plain rfl) rfl (q_len_vec rfl rfl sl23) ?_
    refine SOps.q rfl (.plain rfl) rfl (q_move rfl rfl) ?_
    refine SOps.sub (st' := ⟨[(0, .c (.mp 0)), (2, .c (.str a2_user)), (3, .c (.int .i64 a3_action)), (4, .c (.str a4_object)), (5, .c (.int .i64 a5_now)), (13, .c (.bool false)), (17, .c (.vec a1_grants.length 4 (gL cSGrant dSGrant a1_grants))), (18, .c (.int .i64 (((a1_grants).length : Int)))), (19, .c (.int .i64 0))], [.map a0_known.length (kG a0_known) (vG (mA 4 cSRole) dSRole a0_known)]⟩) (sub_gen [0] rfl rfl ⟨zc rfl rfl, zc rfl rfl, zc rfl rfl, zc rfl rfl, zc rfl rfl, zc rfl rfl, zc rfl rfl, zc rfl rfl, zc rfl rfl, trivial⟩ ⟨rfl, trivial⟩) ?_
    refine SOps.nil ?_
    refine SCode.block ?_
    refine SCode.sub (st' := ⟨[(0, .c (.mp 0)), (2, .c (.str a2_user)), (3, .c (.int .i64 a3_action)), (4, .c (.str a4_object)), (5, .c (.int .i64 a5_now)), (13, .c (.bool false)), (17, .c (.vec a1_grants.length 4 (gL cSGrant dSGrant a1_grants))), (18, .c (.int .i64 (((a1_grants).length : Int)))), (19, .c (.int .i64 0))], [.map a0_known.length (kG a0_known) (vG (mA 4 cSRole) dSRole a0_known)]⟩) (sub_gen [0] rfl rfl ⟨zc rfl rfl, zc rfl rfl, zc rfl rfl, zc rfl rfl, zc rfl rfl, zc rfl rfl, zc rfl rfl, zc rfl rfl, zc rfl rfl, trivial⟩ ⟨rfl, trivial⟩) ?_
    refine (SCode.loop (σ := Nat × (Bool × Int)) (S := fun s => ⟨[(0, .c (.mp 0)), (2, .c (.str a2_user)), (3, .c (.int .i64 a3_action)), (4, .c (.str a4_object)), (5, .c (.int .i64 a5_now)), (13, .c (.bool s.2.1)), (17, .c (.vec a1_grants.length 4 (gL cSGrant dSGrant a1_grants))), (18, .c (.int .i64 (((a1_grants).length : Int)))), (19, .c (.int .i64 s.2.2))], [.map a0_known.length (kG a0_known) (vG (mA 4 cSRole) dSRole a0_known)]⟩) (g := fun s => access_allowed_l33 F a0_known a1_grants a2_user a3_action a4_object a5_now s.1 s.2.1 s.2.2 = some r) (μ := fun s => s.1) (F, (false, 0)) h ?_)
    rintro ⟨n_33, ⟨given_17, t19_18⟩⟩ h
    replace h : access_allowed_l33 F a0_known a1_grants a2_user a3_action a4_object a5_now n_33 given_17 t19_18 = some r := h
    show SCode _ _ _ ⟨[(0, .c (.mp 0)), (2, .c (.str a2_user)), (3, .c (.int .i64 a3_action)), (4, .c (.str a4_object)), (5, .c (.int .i64 a5_now)), (13, .c (.bool given_17)), (17, .c (.vec a1_grants.length 4 (gL cSGrant dSGrant a1_grants))), (18, .c (.int .i64 (((a1_grants).length : Int)))), (19, .c (.int .i64 t19_18))], [.map a0_known.length (kG a0_known) (vG (mA 4 cSRole) dSRole a0_known)]⟩ _
    cases n_33 with
    | zero => cases h
    | succ n_33 =>
      replace h : access_allowed_b33 F a0_known a1_grants a2_user a3_action a4_object a5_now (fun given_17 t19_18 => access_allowed_l33 F a0_known a1_grants a2_user a3_action a4_object a5_now n_33 given_17 t19_18) given_17 t19_18 = some r := h
      unfold access_allowed_b33 at h
      refine SCode.seq ?_
      refine SCode.region (show SOps _ _ _ [0] _ _ from ?_)
      refine SOps.q rfl (.plain rfl) rfl (q_lss rfl rfl rfl) ?_
      refine SOps.sub (st' := ⟨[(0, .c (.mp 0)), (2, .c (.str a2_user)), (3, .c (.int .i64 a3_action)), (4, .c (.str a4_object)), (5, .c (.int .i64 a5_now)), (13, .c (.bool given_17)), (17, .c (.vec a1_grants.length 4 (gL cSGrant dSGrant a1_grants))), (18, .c (.int .i64 (((a1_grants).length : Int)))), (19, .c (.int .i64 t19_18)), (20, .c (.bool (decide (t19_18 < ((a1_grants).length : Int)))))], [.map a0_known.length (kG a0_known) (vG (mA 4 cSRole) dSRole a0_known)]⟩) (sub_gen [0] rfl rfl ⟨zc rfl rfl, zc rfl rfl, zc rfl rfl, zc rfl rfl, zc rfl rfl, zc rfl rfl, zc rfl rfl, zc rfl rfl, zc rfl rfl, zc rfl rfl, trivial⟩ ⟨rfl, trivial⟩) ?_
      refine SOps.nil ?_
      refine SCode.seq ?_
      rcases cond_out h with ⟨g34, h⟩ | ⟨g34, h⟩
      · refine SCode.cond_t rfl g34 ?_
        refine SCode.skip ?_
        refine SCode.join (σ := Bool) (S := fun s => ⟨[(0, .c (.mp 0)), (2, .c (.str a2_user)), (3, .c (.int .i64 a3_action)), (4, .c (.str a4_object)), (5, .c (.int .i64 a5_now)), (13, .c (.bool s)), (17, .c (.vec a1_grants.length 4 (gL cSGrant dSGrant a1_grants))), (18, .c (.int .i64 (((a1_grants).length : Int)))), (19, .c (.int .i64 t19_18))], [.map a0_known.length (kG a0_known) (vG (mA 4 cSRole) dSRole a0_known)]⟩) (g := fun s => access_allowed_p36 t19_18 (fun given_17 t19_18 => access_allowed_l33 F a0_known a1_grants a2_user a3_action a4_object a5_now n_33 given_17 t19_18) s = some r) ?_ ?_
        rotate_left
        · refine SCode.block ?_
          refine SCode.seq ?_
          obtain ⟨g37, h⟩ := guard_out h
          refine SCode.region (show SOps _ _ _ [0, 1, 2, 3] _ _ from ?_)
          refine SOps.q rfl (.plain rfl) rfl (q_index_vec rfl rfl rfl sl23 rfl g37.1 g37.2) ?_
          refine SOps.q rfl (.plain rfl) rfl (q_load_eptr_all rfl rfl rfl ty37) ?_
          refine SOps.e rfl (.plain rfl) (e_alloc rfl rfl rfl z37) ?_
          refine SOps.e rfl (.plain rfl) (e_store_box rfl rfl rfl rfl rfl ty37 rfl rfl rfl rfl) ?_
          refine SOps.sub (st' := ⟨[(0, .c (.mp 0)), (2, .c (.str a2_user)), (3, .c (.int .i64 a3_action)), (4, .c (.str a4_object)), (5, .c (.int .i64 a5_now)), (13, .c (.bool given_17)), (15, .c (.ptr 1 0)), (17, .c (.vec a1_grants.length 4 (gL cSGrant dSGrant a1_grants))), (18, .c (.int .i64 (((a1_grants).length : Int)))), (19, .c (.int .i64 t19_18))], [.map a0_known.length (kG a0_known) (vG (mA 4 cSRole) dSRole a0_known), .box [.str ((a1_grants.getD t19_18.toNat dSGrant).User), .str ((a1_grants.getD t19_18.toNat dSGrant).Role), .int .i64 ((a1_grants.getD t19_18.toNat dSGrant).Span_From), .int .i64 ((a1_grants.getD t19_18.toNat dSGrant).Span_To)]]⟩) (sub_gen [0, 1] rfl rfl ⟨zc rfl rfl, zc rfl rfl, zc rfl rfl, zc rfl rfl, zc rfl rfl, zc rfl rfl, zc rfl rfl, zc rfl rfl, zc rfl rfl, zc rfl rfl, trivial⟩ ⟨rfl, ⟨_, rfl, ⟨ii rfl rfl, ii rfl rfl, ii rfl rfl, ii rfl rfl, trivial⟩⟩, trivial⟩) ?_
          refine SOps.nil ?_
          refine SCode.seq ?_
          refine SCode.seq ?_
          rcases cond_out h with ⟨g38, h⟩ | ⟨g38, h⟩
          · refine SCode.region (show SOps _ _ _ [0, 1, 2, 3, 4, 5, 6, 7, 8, 9, 10] _ _ from ?_)
            refine SOps.q rfl (.plain rfl) rfl (q_field_ptr rfl rfl fd37_0) ?_
            refine SOps.q rfl (.plain rfl) rfl (q_load_ptr rfl rfl rfl rfl ty9) ?_
            refine SOps.q rfl (.plain rfl) rfl (q_move rfl rfl) ?_
            refine SOps.q rfl (.plain rfl) rfl (q_neqS rfl rfl rfl) ?_
            refine SOps.q rfl (.plain rfl) rfl (q_move rfl rfl) ?_
            refine SOps.skip rfl 4 27 false rfl rfl (.inl (gT g38)) rfl ?_
            refine SOps.skip rfl 4 27 false rfl rfl (.inl (gT g38)) rfl ?_
            refine SOps.skip rfl 4 27 false rfl rfl (.inl (gT g38)) rfl ?_
            refine SOps.skip rfl 4 27 false rfl rfl (.inl (gT g38)) rfl ?_
            refine SOps.skip rfl 4 27 false rfl rfl (.inl (gT g38)) rfl ?_
            refine SOps.q rfl (.plain rfl) rfl (q_pick_t rfl rfl g38 rfl) ?_
            refine SOps.sub (st' := ⟨[(0, .c (.mp 0)), (2, .c (.str a2_user)), (3, .c (.int .i64 a3_action)), (4, .c (.str a4_object)), (5, .c (.int .i64 a5_now)), (13, .c (.bool given_17)), (15, .c (.ptr 1 0)), (17, .c (.vec a1_grants.length 4 (gL cSGrant dSGrant a1_grants))), (18, .c (.int .i64 (((a1_grants).length : Int)))), (19, .c (.int .i64 t19_18)), (33, .c (.bool true))], [.map a0_known.length (kG a0_known) (vG (mA 4 cSRole) dSRole a0_known), .box [.str ((a1_grants.getD t19_18.toNat dSGrant).User), .str ((a1_grants.getD t19_18.toNat dSGrant).Role), .int .i64 ((a1_grants.getD t19_18.toNat dSGrant).Span_From), .int .i64 ((a1_grants.getD t19_18.toNat dSGrant).Span_To)]]⟩) (sub_gen [0, 1] rfl rfl ⟨zc rfl rfl, zc rfl rfl, zc rfl rfl, zc rfl rfl, zc rfl rfl, zc rfl rfl, zc rfl rfl, zc rfl rfl, zc rfl rfl, zc rfl rfl, zc rfl rfl, trivial⟩ ⟨rfl, ⟨_, rfl, ⟨ii rfl rfl, ii rfl rfl, ii rfl rfl, ii rfl rfl, trivial⟩⟩, trivial⟩) ?_
            refine SOps.nil ?_
            refine SCode.cond_t rfl rfl ?_
            refine SCode.exit ?_
            exact ⟨given_17, h, sub_gen [0] rfl rfl ⟨zc rfl rfl, zc rfl rfl, zc rfl rfl, zc rfl rfl, zc rfl rfl, zc rfl rfl, zc rfl rfl, zc rfl rfl, zc rfl rfl, trivial⟩ ⟨rfl, trivial⟩⟩
          obtain ⟨c_39, g40, h⟩ := bind_out h
          try dsimp only at h
          refine SCode.region (show SOps _ _ _ [0, 1, 2, 3, 4, 5, 6, 7, 8, 9, 10] _ _ from ?_)
          refine SOps.q rfl (.plain rfl) rfl (q_field_ptr rfl rfl fd37_0) ?_
          refine SOps.q rfl (.plain rfl) rfl (q_load_ptr rfl rfl rfl rfl ty9) ?_
          refine SOps.q rfl (.plain rfl) rfl (q_move rfl rfl) ?_
          refine SOps.q rfl (.plain rfl) rfl (q_neqS rfl rfl rfl) ?_
          refine SOps.q rfl (.plain rfl) rfl (q_move rfl rfl) ?_
          refine SOps.q rfl (.guard 4 27 false rfl rfl (gF g38)) rfl (q_field_ptr rfl rfl fd37_2) ?_
          refine SOps.q rfl (.guard 4 27 false rfl rfl (gF g38)) rfl (q_load_ptr_all rfl rfl rfl rfl rfl ty35) ?_
          refine SOps.q rfl (.guard 4 27 false rfl rfl (gF g38)) rfl (q_move rfl rfl) ?_
          refine SOps.q rfl (.guard 4 27 false rfl rfl (gF g38)) rfl (q_call (access_holds_ok F (SSpan.mk ((a1_grants.getD t19_18.toNat dSGrant).Span_From) ((a1_grants.getD t19_18.toNat dSGrant).Span_To)) a5_now c_39 g40) [] rfl fn34 ⟨⟨rfl, rfl⟩, ⟨_, rfl, .inl ⟨rfl, rfl⟩⟩, trivial⟩ (.inl rfl)) ?_
          refine SOps.q rfl (.guard 4 27 false rfl rfl (gF g38)) rfl (q_not rfl rfl) ?_
          refine SOps.q rfl (.plain rfl) rfl (q_pick_f rfl rfl g38 rfl) ?_
          refine SOps.sub (st' := ⟨[(0, .c (.mp 0)), (2, .c (.str a2_user)), (3, .c (.int .i64 a3_action)), (4, .c (.str a4_object)), (5, .c (.int .i64 a5_now)), (13, .c (.bool given_17)), (15, .c (.ptr 1 0)), (17, .c (.vec a1_grants.length 4 (gL cSGrant dSGrant a1_grants))), (18, .c (.int .i64 (((a1_grants).length : Int)))), (19, .c (.int .i64 t19_18)), (33, .c (.bool ((!c_39))))], [.map a0_known.length (kG a0_known) (vG (mA 4 cSRole) dSRole a0_known), .box [.str ((a1_grants.getD t19_18.toNat dSGrant).User), .str ((a1_grants.getD t19_18.toNat dSGrant).Role), .int .i64 ((a1_grants.getD t19_18.toNat dSGrant).Span_From), .int .i64 ((a1_grants.getD t19_18.toNat dSGrant).Span_To)]]⟩) (sub_gen [0, 1] rfl rfl ⟨zc rfl rfl, zc rfl rfl, zc rfl rfl, zc rfl rfl, zc rfl rfl, zc rfl rfl, zc rfl rfl, zc rfl rfl, zc rfl rfl, zc rfl rfl, zc rfl rfl, trivial⟩ ⟨rfl, ⟨_, rfl, ⟨ii rfl rfl, ii rfl rfl, ii rfl rfl, ii rfl rfl, trivial⟩⟩, trivial⟩) ?_
          refine SOps.nil ?_
          rcases cond_out h with ⟨g41, h⟩ | ⟨g41, h⟩
          · refine SCode.cond_t rfl g41 ?_
            refine SCode.exit ?_
            exact ⟨given_17, h, sub_gen [0] rfl rfl ⟨zc rfl rfl, zc rfl rfl, zc rfl rfl, zc rfl rfl, zc rfl rfl, zc rfl rfl, zc rfl rfl, zc rfl rfl, zc rfl rfl, trivial⟩ ⟨rfl, trivial⟩⟩
          refine SCode.cond_f rfl g41 ?_
          refine SCode.skip ?_
          refine SCode.seq ?_
          obtain ⟨e_42, g43, h⟩ := bind_out h
          try dsimp only at h
          refine SCode.region (show SOps _ _ _ [0, 1, 2, 3, 4, 5] _ _ from ?_)
          refine SOps.q rfl (.plain rfl) rfl (q_move rfl rfl) ?_
          refine SOps.q rfl (.plain rfl) rfl (q_field_ptr rfl rfl fd37_1) ?_
          refine SOps.q rfl (.plain rfl) rfl (q_load_ptr rfl rfl rfl rfl ty9) ?_
          refine SOps.q rfl (.plain rfl) rfl (q_lookup_some (mv := (mA 4 cSRole)) (d0 := dSRole) (l := a0_known) (s := (a1_grants.getD t19_18.toNat dSGrant).Role) rfl rfl rfl rfl mp55 g43) ?_
          refine SOps.e rfl (.plain rfl) (e_alloc rfl rfl rfl z51) ?_
          refine SOps.e rfl (.plain rfl) (e_store_box rfl rfl rfl rfl rfl ty51 rfl rfl rfl rfl) ?_
          refine SOps.sub (st' := ⟨[(0, .c (.mp 0)), (2, .c (.str a2_user)), (3, .c (.int .i64 a3_action)), (4, .c (.str a4_object)), (5, .c (.int .i64 a5_now)), (13, .c (.bool given_17)), (16, .c (.ptr 1 0)), (17, .c (.vec a1_grants.length 4 (gL cSGrant dSGrant a1_grants))), (18, .c (.int .i64 (((a1_grants).length : Int)))), (19, .c (.int .i64 t19_18))], [.map a0_known.length (kG a0_known) (vG (mA 4 cSRole) dSRole a0_known), .box [.str e_42.Name, .vec e_42.Actions.length 1 (gL (cInt .i64) 0 e_42.Actions), .str e_42.Prefix, .bool e_42.Deny]]⟩) (sub_gen [0, 2] rfl rfl ⟨zc rfl rfl, zc rfl rfl, zc rfl rfl, zc rfl rfl, zc rfl rfl, zc rfl rfl, zc rfl rfl, zc rfl rfl, zc rfl rfl, zc rfl rfl, trivial⟩ ⟨rfl, ⟨_, rfl, ⟨ii rfl rfl, ii rfl rfl, ii rfl rfl, ii rfl rfl, trivial⟩⟩, trivial⟩) ?_
          refine SOps.nil ?_
          refine SCode.seq ?_
          refine SCode.seq ?_
          obtain ⟨c_44, g45, h⟩ := bind_out h
          try dsimp only at h
          refine SCode.region (show SOps _ _ _ [0, 1, 2, 3, 4] _ _ from ?_)
          refine SOps.q rfl (.plain rfl) rfl (q_load_ptr_all rfl rfl rfl rfl rfl ty51) ?_
          refine SOps.q rfl (.plain rfl) rfl (q_move rfl rfl) ?_
          refine SOps.q rfl (.plain rfl) rfl (q_move rfl rfl) ?_
          refine SOps.q rfl (.plain rfl) rfl (q_call (access_covers_ok F e_42 a3_action a4_object c_44 g45) [] rfl fn42 ⟨⟨rfl, rfl⟩, ⟨_, rfl, .inl ⟨rfl, rfl⟩⟩, ⟨_, rfl, .inl ⟨rfl, rfl⟩⟩, trivial⟩ (.inl rfl)) ?_
          refine SOps.q rfl (.plain rfl) rfl (q_not rfl rfl) ?_
          refine SOps.sub (st' := ⟨[(0, .c (.mp 0)), (2, .c (.str a2_user)), (3, .c (.int .i64 a3_action)), (4, .c (.str a4_object)), (5, .c (.int .i64 a5_now)), (13, .c (.bool given_17)), (16, .c (.ptr 1 0)), (17, .c (.vec a1_grants.length 4 (gL cSGrant dSGrant a1_grants))), (18, .c (.int .i64 (((a1_grants).length : Int)))), (19, .c (.int .i64 t19_18)), (42, .c (.bool ((!c_44))))], [.map a0_known.length (kG a0_known) (vG (mA 4 cSRole) dSRole a0_known), .box [.str e_42.Name, .vec e_42.Actions.length 1 (gL (cInt .i64) 0 e_42.Actions), .str e_42.Prefix, .bool e_42.Deny]]⟩) (sub_gen [0, 1] rfl rfl ⟨zc rfl rfl, zc rfl rfl, zc rfl rfl, zc rfl rfl, zc rfl rfl, zc rfl rfl, zc rfl rfl, zc rfl rfl, zc rfl rfl, zc rfl rfl, zc rfl rfl, trivial⟩ ⟨rfl, ⟨_, rfl, ⟨ii rfl rfl, ii rfl rfl, ii rfl rfl, ii rfl rfl, trivial⟩⟩, trivial⟩) ?_
          refine SOps.nil ?_
          rcases cond_out h with ⟨g46, h⟩ | ⟨g46, h⟩
          · refine SCode.cond_t rfl g46 ?_
            refine SCode.exit ?_
            exact ⟨given_17, h, sub_gen [0] rfl rfl ⟨zc rfl rfl, zc rfl rfl, zc rfl rfl, zc rfl rfl, zc rfl rfl, zc rfl rfl, zc rfl rfl, zc rfl rfl, zc rfl rfl, trivial⟩ ⟨rfl, trivial⟩⟩
          refine SCode.cond_f rfl g46 ?_
          refine SCode.skip ?_
          refine SCode.seq ?_
          refine SCode.seq ?_
          refine SCode.region (show SOps _ _ _ [0, 1] _ _ from ?_)
          refine SOps.q rfl (.plain rfl) rfl (q_field_ptr rfl rfl fd51_3) ?_
          refine SOps.q rfl (.plain rfl) rfl (q_load_ptr rfl rfl rfl rfl ty4) ?_
          refine SOps.sub (st' := ⟨[(0, .c (.mp 0)), (2, .c (.str a2_user)), (3, .c (.int .i64 a3_action)), (4, .c (.str a4_object)), (5, .c (.int .i64 a5_now)), (17, .c (.vec a1_grants.length 4 (gL cSGrant dSGrant a1_grants))), (18, .c (.int .i64 (((a1_grants).length : Int)))), (19, .c (.int .i64 t19_18)), (44, .c (.bool e_42.Deny))], [.map a0_known.length (kG a0_known) (vG (mA 4 cSRole) dSRole a0_known)]⟩) (sub_gen [0] rfl rfl ⟨zc rfl rfl, zc rfl rfl, zc rfl rfl, zc rfl rfl, zc rfl rfl, zc rfl rfl, zc rfl rfl, zc rfl rfl, zc rfl rfl, trivial⟩ ⟨rfl, trivial⟩) ?_
          refine SOps.nil ?_
          rcases cond_out h with ⟨g47, h⟩ | ⟨g47, h⟩
          · refine SCode.cond_t rfl g47 ?_
            refine SCode.seq ?_
            refine SCode.region (show SOps _ _ _ [0] _ _ from ?_)
            refine SOps.q rfl (.plain rfl) rfl (q_assign rfl rfl) ?_
            refine SOps.sub (st' := ⟨[(12, .c (.bool false))], [.map a0_known.length (kG a0_known) (vG (mA 4 cSRole) dSRole a0_known)]⟩) (sub_gen [0] rfl rfl ⟨zc rfl rfl, trivial⟩ ⟨rfl, trivial⟩) ?_
            refine SOps.nil ?_
            refine SCode.ret ?_
            obtain rfl := Option.some.inj h
            exact ⟨⟨[(12, .c (.bool false))], [.map a0_known.length (kG a0_known) (vG (mA 4 cSRole) dSRole a0_known)]⟩, _, sub_gen [0] rfl rfl ⟨zc rfl rfl, trivial⟩ ⟨rfl, trivial⟩, resA1 (v := .c (.bool false)) rfl rfl, ⟨rfl, rfl⟩⟩
          refine SCode.cond_f rfl g47 ?_
          refine SCode.skip ?_
          refine SCode.region (show SOps _ _ _ [0] _ _ from ?_)
          refine SOps.q rfl (.plain rfl) rfl (q_assign rfl rfl) ?_
          refine SOps.sub (st' := ⟨[(0, .c (.mp 0)), (2, .c (.str a2_user)), (3, .c (.int .i64 a3_action)), (4, .c (.str a4_object)), (5, .c (.int .i64 a5_now)), (13, .c (.bool true)), (17, .c (.vec a1_grants.length 4 (gL cSGrant dSGrant a1_grants))), (18, .c (.int .i64 (((a1_grants).length : Int)))), (19, .c (.int .i64 t19_18))], [.map a0_known.length (kG a0_known) (vG (mA 4 cSRole) dSRole a0_known)]⟩) (sub_gen [0] rfl rfl ⟨zc rfl rfl, zc rfl rfl, zc rfl rfl, zc rfl rfl, zc rfl rfl, zc rfl rfl, zc rfl rfl, zc rfl rfl, zc rfl rfl, trivial⟩ ⟨rfl, trivial⟩) ?_
          refine SOps.nil ?_
          exact ⟨true, h, sub_gen [0] rfl rfl ⟨zc rfl rfl, zc rfl rfl, zc rfl rfl, zc rfl rfl, zc rfl rfl, zc rfl rfl, zc rfl rfl, zc rfl rfl, zc rfl rfl, trivial⟩ ⟨rfl, trivial⟩⟩
        rintro given_35 h
        show SCode _ _ _ ⟨[(0, .c (.mp 0)), (2, .c (.str a2_user)), (3, .c (.int .i64 a3_action)), (4, .c (.str a4_object)), (5, .c (.int .i64 a5_now)), (13, .c (.bool given_35)), (17, .c (.vec a1_grants.length 4 (gL cSGrant dSGrant a1_grants))), (18, .c (.int .i64 (((a1_grants).length : Int)))), (19, .c (.int .i64 t19_18))], [.map a0_known.length (kG a0_known) (vG (mA 4 cSRole) dSRole a0_known)]⟩ _
        replace h : access_allowed_p36 t19_18 (fun given_17 t19_18 => access_allowed_l33 F a0_known a1_grants a2_user a3_action a4_object a5_now n_33 given_17 t19_18) given_35 = some r := h
        unfold access_allowed_p36 at h
        refine SCode.region (show SOps _ _ _ [0, 1] _ _ from ?_)
        refine SOps.q rfl (.plain rfl) rfl (q_add rfl rfl rfl) ?_
        refine SOps.q rfl (.plain rfl) rfl (q_move rfl rfl) ?_
        refine SOps.sub (st' := ⟨[(0, .c (.mp 0)), (2, .c (.str a2_user)), (3, .c (.int .i64 a3_action)), (4, .c (.str a4_object)), (5, .c (.int .i64 a5_now)), (13, .c (.bool given_35)), (17, .c (.vec a1_grants.length 4 (gL cSGrant dSGrant a1_grants))), (18, .c (.int .i64 (((a1_grants).length : Int)))), (19, .c (.int .i64 (IntKind.wrap .i64 (t19_18 + 1))))], [.map a0_known.length (kG a0_known) (vG (mA 4 cSRole) dSRole a0_known)]⟩) (sub_gen [0] rfl rfl ⟨zc rfl rfl, zc rfl rfl, zc rfl rfl, zc rfl rfl, zc rfl rfl, zc rfl rfl, zc rfl rfl, zc rfl rfl, zc rfl rfl, trivial⟩ ⟨rfl, trivial⟩) ?_
        refine SOps.nil ?_
        exact ⟨(n_33, (given_35, IntKind.wrap .i64 (t19_18 + 1))), h, Nat.lt_succ_self n_33, sub_gen [0] rfl rfl ⟨zc rfl rfl, zc rfl rfl, zc rfl rfl, zc rfl rfl, zc rfl rfl, zc rfl rfl, zc rfl rfl, zc rfl rfl, zc rfl rfl, trivial⟩ ⟨rfl, trivial⟩⟩
      refine SCode.cond_f rfl g34 ?_
      refine SCode.exit ?_
      exact ⟨given_17, h, sub_gen [0] rfl rfl ⟨zc rfl rfl, trivial⟩ ⟨rfl, trivial⟩⟩
  rintro given_1 h
  show SCode _ _ _ ⟨[(13, .c (.bool given_1))], [.map a0_known.length (kG a0_known) (vG (mA 4 cSRole) dSRole a0_known)]⟩ _
  replace h : access_allowed_p2 given_1 = some r := h
  unfold access_allowed_p2 at h
  refine SCode.seq ?_
  refine SCode.region (show SOps _ _ _ [0, 1] _ _ from ?_)
  refine SOps.q rfl (.plain rfl) rfl (q_move rfl rfl) ?_
  refine SOps.q rfl (.plain rfl) rfl (q_assign rfl rfl) ?_
  refine SOps.sub (st' := ⟨[(12, .c (.bool given_1))], [.map a0_known.length (kG a0_known) (vG (mA 4 cSRole) dSRole a0_known)]⟩) (sub_gen [0] rfl rfl ⟨zc rfl rfl, trivial⟩ ⟨rfl, trivial⟩) ?_
  refine SOps.nil ?_
  refine SCode.ret ?_
  obtain rfl := Option.some.inj h
  exact ⟨⟨[(12, .c (.bool given_1))], [.map a0_known.length (kG a0_known) (vG (mA 4 cSRole) dSRole a0_known)]⟩, _, sub_gen [0] rfl rfl ⟨zc rfl rfl, trivial⟩ ⟨rfl, trivial⟩, resA1 (v := .c (.bool given_1)) rfl rfl, ⟨rfl, rfl⟩⟩
set_option maxRecDepth 100000 in
set_option maxHeartbeats 8000000 in
theorem access_Allowed_ok (F : Nat) (a0_roles : List SRole) (a1_grants : List SGrant) (a2_user : ByteArray) (a3_action : Int) (a4_object : ByteArray) (a5_now : Int) (r : Bool) (h : access_Allowed F a0_roles a1_grants a2_user a3_action a4_object a5_now = some r) :
    SFun Try.prog 14 [] [.c (.vec a0_roles.length 4 (gL cSRole dSRole a0_roles)), .c (.vec a1_grants.length 4 (gL cSGrant dSGrant a1_grants)), .c (.str a2_user), .c (.int .i64 a3_action), .c (.str a4_object), .c (.int .i64 a5_now)] (fun x _ => x = .c (.bool r)) := by
  refine SFun.of (n := 25) Try.func14 rfl rfl rfl ?_
  unfold access_Allowed at h
  show SCode _ _ _ ⟨[(0, .c (.vec a0_roles.length 4 (gL cSRole dSRole a0_roles))), (1, .c (.vec a1_grants.length 4 (gL cSGrant dSGrant a1_grants))), (2, .c (.str a2_user)), (3, .c (.int .i64 a3_action)), (4, .c (.str a4_object)), (5, .c (.int .i64 a5_now))], []⟩ _
  refine SCode.seq ?_
  refine SCode.region (show SOps _ _ _ [0] _ _ from ?_)
  refine SOps.q rfl (.plain rfl) rfl (q_assign rfl rfl) ?_
  refine SOps.sub (st' := ⟨[(0, .c (.vec a0_roles.length 4 (gL cSRole dSRole a0_roles))), (1, .c (.vec a1_grants.length 4 (gL cSGrant dSGrant a1_grants))), (2, .c (.str a2_user)), (3, .c (.int .i64 a3_action)), (4, .c (.str a4_object)), (5, .c (.int .i64 a5_now))], []⟩) (sub_gen [] rfl rfl ⟨zc rfl rfl, zc rfl rfl, zc rfl rfl, zc rfl rfl, zc rfl rfl, zc rfl rfl, trivial⟩ trivial) ?_
  refine SOps.nil ?_
  refine SCode.seq ?_
  refine SCode.seq ?_
  obtain ⟨c_1, g2, h⟩ := bind_out h
  try dsimp only at h
  refine SCode.region (show SOps _ _ _ [0, 1, 2, 3] _ _ from ?_)
  refine SOps.q rfl (.plain rfl) rfl (q_move rfl rfl) ?_
  refine SOps.q rfl (.plain rfl) rfl (q_move rfl rfl) ?_
  refine SOps.q rfl (.plain rfl) rfl (q_call (access_Valid_ok F a0_roles a1_grants c_1 g2) [] rfl fn12 ⟨⟨_, rfl, .inl ⟨rfl, rfl⟩⟩, ⟨_, rfl, .inl ⟨rfl, rfl⟩⟩, trivial⟩ (.inl rfl)) ?_
  refine SOps.q rfl (.plain rfl) rfl (q_neq rfl rfl rfl) ?_
  refine SOps.sub (st' := ⟨[(0, .c (.vec a0_roles.length 4 (gL cSRole dSRole a0_roles))), (1, .c (.vec a1_grants.length 4 (gL cSGrant dSGrant a1_grants))), (2, .c (.str a2_user)), (3, .c (.int .i64 a3_action)), (4, .c (.str a4_object)), (5, .c (.int .i64 a5_now)), (16, .c (.bool ((!decide (c_1 = 0)))))], []⟩) (sub_gen [] rfl rfl ⟨zc rfl rfl, zc rfl rfl, zc rfl rfl, zc rfl rfl, zc rfl rfl, zc rfl rfl, zc rfl rfl, trivial⟩ trivial) ?_
  refine SOps.nil ?_
  rcases cond_out h with ⟨g3, h⟩ | ⟨g3, h⟩
  · refine SCode.cond_t rfl g3 ?_
    refine SCode.seq ?_
    refine SCode.region (show SOps _ _ _ [0] _ _ from ?_)
    refine SOps.q rfl (.plain rfl) rfl (q_assign rfl rfl) ?_
    refine SOps.sub (st' := ⟨[(12, .c (.bool false))], []⟩) (sub_gen [] rfl rfl ⟨zc rfl rfl, trivial⟩ trivial) ?_
    refine SOps.nil ?_
    refine SCode.ret ?_
    obtain rfl := Option.some.inj h
    exact ⟨⟨[(12, .c (.bool false))], []⟩, _, sub_gen [] rfl rfl ⟨zc rfl rfl, trivial⟩ trivial, resA1 (v := .c (.bool false)) rfl rfl, rfl⟩
  refine SCode.cond_f rfl g3 ?_
  refine SCode.skip ?_
  refine SCode.seq ?_
  obtain ⟨c_4, g5, h⟩ := bind_out h
  try dsimp only at h
  obtain ⟨c_6, g7, h⟩ := bind_out h
  try dsimp only at h
  refine SCode.region (show SOps _ _ _ [0, 1, 2, 3, 4, 5, 6, 7, 8] _ _ from ?_)
  refine SOps.q rfl (.plain rfl) rfl (q_move rfl rfl) ?_
  refine SOps.e rfl (.plain rfl) (e_call (access_byName_own_ok F a0_roles c_4 g5) [] rfl fn26 rfl rfl rfl rfl rfl rfl rfl rfl) ?_
  refine SOps.q rfl (.plain rfl) rfl (q_move rfl rfl) ?_
  refine SOps.q rfl (.plain rfl) rfl (q_move rfl rfl) ?_
  refine SOps.q rfl (.plain rfl) rfl (q_move rfl rfl) ?_
  refine SOps.q rfl (.plain rfl) rfl (q_move rfl rfl) ?_
  refine SOps.q rfl (.plain rfl) rfl (q_move rfl rfl) ?_
  refine SOps.e rfl (.plain rfl) (e_call (access_allowed_ok F c_4 a1_grants a2_user a3_action a4_object a5_now c_6 g7) [0] rfl fn30 rfl rfl rfl rfl rfl rfl rfl rfl) ?_
  refine SOps.q rfl (.plain rfl) rfl (q_assign rfl rfl) ?_
  refine SOps.sub (st' := ⟨[(12, .c (.bool c_6))], []⟩) (sub_gen [] rfl rfl ⟨zc rfl rfl, trivial⟩ trivial) ?_
  refine SOps.nil ?_
  refine SCode.ret ?_
  obtain rfl := Option.some.inj h
  exact ⟨⟨[(12, .c (.bool c_6))], []⟩, _, sub_gen [] rfl rfl ⟨zc rfl rfl, trivial⟩ trivial, resA1 (v := .c (.bool c_6)) rfl rfl, rfl⟩
set_option maxRecDepth 100000 in
set_option maxHeartbeats 8000000 in
theorem access_Give_ok (F : Nat) (a0_roles : List SRole) (a1_grants : List SGrant) (a2_g : SGrant) (r : (List SGrant) × Int) (h : access_Give F a0_roles a1_grants a2_g = some r) :
    SFun Try.prog 16 [] [.c (.vec a0_roles.length 4 (gL cSRole dSRole a0_roles)), .c (.vec a1_grants.length 4 (gL cSGrant dSGrant a1_grants)), .a [.str a2_g.User, .str a2_g.Role, .int .i64 a2_g.Span_From, .int .i64 a2_g.Span_To]] (fun x _ => x = .t [.c (.vec r.1.length 4 (gL cSGrant dSGrant r.1)), .c (.int .i64 r.2)]) := by
  refine SFun.of (n := 37) Try.func16 rfl rfl rfl ?_
  unfold access_Give at h
  show SCode _ _ _ ⟨[(0, .c (.vec a0_roles.length 4 (gL cSRole dSRole a0_roles))), (1, .c (.vec a1_grants.length 4 (gL cSGrant dSGrant a1_grants))), (2, .a [.str a2_g.User, .str a2_g.Role, .int .i64 a2_g.Span_From, .int .i64 a2_g.Span_To])], []⟩ _
  refine SCode.seq ?_
  refine SCode.region (show SOps _ _ _ [0, 1, 2] _ _ from ?_)
  refine SOps.e rfl (.plain rfl) (e_box rfl rfl rfl rfl rfl rfl) ?_
  refine SOps.q rfl (.plain rfl) rfl (q_assign rfl rfl) ?_
  refine SOps.q rfl (.plain rfl) rfl (q_assign rfl rfl) ?_
  refine SOps.sub (st' := ⟨[(0, .c (.vec a0_roles.length 4 (gL cSRole dSRole a0_roles))), (1, .c (.vec a1_grants.length 4 (gL cSGrant dSGrant a1_grants))), (5, .c (.ptr 0 0))], [.box [.str a2_g.User, .str a2_g.Role, .int .i64 a2_g.Span_From, .int .i64 a2_g.Span_To]]⟩) (sub_gen [0] rfl rfl ⟨zc rfl rfl, zc rfl rfl, zc rfl rfl, trivial⟩ ⟨⟨_, rfl, ⟨ii rfl rfl, ii rfl rfl, ii rfl rfl, ii rfl rfl, trivial⟩⟩, trivial⟩) ?_
  refine SOps.nil ?_
  refine SCode.seq ?_
  refine SCode.seq ?_
  obtain ⟨c_1, g2, h⟩ := bind_out h
  try dsimp only at h
  refine SCode.region (show SOps _ _ _ [0, 1, 2, 3] _ _ from ?_)
  refine SOps.q rfl (.plain rfl) rfl (q_move rfl rfl) ?_
  refine SOps.q rfl (.plain rfl) rfl (q_move rfl rfl) ?_
  refine SOps.q rfl (.plain rfl) rfl (q_call (access_Valid_ok F a0_roles a1_grants c_1 g2) [] rfl fn12 ⟨⟨_, rfl, .inl ⟨rfl, rfl⟩⟩, ⟨_, rfl, .inl ⟨rfl, rfl⟩⟩, trivial⟩ (.inl rfl)) ?_
  refine SOps.q rfl (.plain rfl) rfl (q_assign rfl rfl) ?_
  refine SOps.sub (st' := ⟨[(0, .c (.vec a0_roles.length 4 (gL cSRole dSRole a0_roles))), (1, .c (.vec a1_grants.length 4 (gL cSGrant dSGrant a1_grants))), (5, .c (.ptr 0 0)), (8, .c (.int .i64 c_1))], [.box [.str a2_g.User, .str a2_g.Role, .int .i64 a2_g.Span_From, .int .i64 a2_g.Span_To]]⟩) (sub_gen [0] rfl rfl ⟨zc rfl rfl, zc rfl rfl, zc rfl rfl, zc rfl rfl, trivial⟩ ⟨⟨_, rfl, ⟨ii rfl rfl, ii rfl rfl, ii rfl rfl, ii rfl rfl, trivial⟩⟩, trivial⟩) ?_
  refine SOps.nil ?_
  refine SCode.seq ?_
  refine SCode.region (show SOps _ _ _ [0, 1] _ _ from ?_)
  refine SOps.q rfl (.plain rfl) rfl (q_move rfl rfl) ?_
  refine SOps.q rfl (.plain rfl) rfl (q_neq rfl rfl rfl) ?_
  refine SOps.sub (st' := ⟨[(0, .c (.vec a0_roles.length 4 (gL cSRole dSRole a0_roles))), (1, .c (.vec a1_grants.length 4 (gL cSGrant dSGrant a1_grants))), (5, .c (.ptr 0 0)), (8, .c (.int .i64 c_1)), (15, .c (.bool ((!decide (c_1 = 0)))))], [.box [.str a2_g.User, .str a2_g.Role, .int .i64 a2_g.Span_From, .int .i64 a2_g.Span_To]]⟩) (sub_gen [0] rfl rfl ⟨zc rfl rfl, zc rfl rfl, zc rfl rfl, zc rfl rfl, zc rfl rfl, trivial⟩ ⟨⟨_, rfl, ⟨ii rfl rfl, ii rfl rfl, ii rfl rfl, ii rfl rfl, trivial⟩⟩, trivial⟩) ?_
  refine SOps.nil ?_
  rcases cond_out h with ⟨g3, h⟩ | ⟨g3, h⟩
  · refine SCode.cond_t rfl g3 ?_
    refine SCode.seq ?_
    refine SCode.region (show SOps _ _ _ [0, 1, 2] _ _ from ?_)
    refine SOps.q rfl (.plain rfl) rfl (q_move rfl rfl) ?_
    refine SOps.q rfl (.plain rfl) rfl (q_assign rfl rfl) ?_
    refine SOps.q rfl (.plain rfl) rfl (q_assign rfl rfl) ?_
    refine SOps.sub (st' := ⟨[(6, .c (.raw (.slice none 0 0))), (7, .c (.int .i64 c_1))], []⟩) (sub_gen [] rfl rfl ⟨zc rfl rfl, zc rfl rfl, trivial⟩ trivial) ?_
    refine SOps.nil ?_
    refine SCode.ret ?_
    obtain rfl := Option.some.inj h
    exact ⟨⟨[(6, .c (.vec (([] : List SGrant)).length 4 (gL cSGrant dSGrant (([] : List SGrant))))), (7, .c (.int .i64 c_1))], []⟩, _, sub_gen [] rfl rfl ⟨⟨_, rfl, .inr (.inr (.inr (.inl ⟨_, _, rfl, rfl⟩)))⟩, zc rfl rfl, trivial⟩ trivial, resA2 (v1 := .c (.vec (([] : List SGrant)).length 4 (gL cSGrant dSGrant (([] : List SGrant))))) (v2 := .c (.int .i64 c_1)) rfl rfl rfl, rfl⟩
  refine SCode.cond_f rfl g3 ?_
  refine SCode.skip ?_
  refine SCode.seq ?_
  obtain ⟨g4, h⟩ := guard_out h
  refine SCode.region (show SOps _ _ _ [0, 1, 2, 3, 4, 5, 6] _ _ from ?_)
  refine SOps.q rfl (.plain rfl) rfl (q_move rfl rfl) ?_
  refine SOps.q rfl (.plain rfl) rfl (q_len_vec rfl rfl sl23) ?_
  refine SOps.q rfl (.plain rfl) rfl (q_move rfl rfl) ?_
  refine SOps.q rfl (.plain rfl) rfl (q_len_vec rfl rfl sl23) ?_
  refine SOps.q rfl (.plain rfl) rfl (q_add rfl rfl rfl) ?_
  refine SOps.e rfl (.plain rfl) (e_makeL (c := cSGrant) (d0 := dSGrant) rfl rfl rfl rfl rfl sl23 z37 rfl rfl rfl g4.1 g4.2.1 g4.2.2.1 g4.2.2.2) ?_
  refine SOps.q rfl (.plain rfl) rfl (q_assign rfl rfl) ?_
  refine SOps.sub (st' := ⟨[(0, .c (.vec a0_roles.length 4 (gL cSRole dSRole a0_roles))), (1, .c (.vec a1_grants.length 4 (gL cSGrant dSGrant a1_grants))), (5, .c (.ptr 0 0)), (9, .c (.own 1 (List.replicate (((a1_grants).length : Int)).toNat dSGrant).length))], [.box [.str a2_g.User, .str a2_g.Role, .int .i64 a2_g.Span_From, .int .i64 a2_g.Span_To], .arr 37 4 (List.replicate (((a1_grants).length : Int)).toNat dSGrant).length (gL cSGrant dSGrant (List.replicate (((a1_grants).length : Int)).toNat dSGrant))]⟩) (sub_gen [0, 1] rfl rfl ⟨zc rfl rfl, zc rfl rfl, zc rfl rfl, zc rfl rfl, trivial⟩ ⟨⟨_, rfl, ⟨ii rfl rfl, ii rfl rfl, ii rfl rfl, ii rfl rfl, trivial⟩⟩, oa rfl, trivial⟩) ?_
  refine SOps.nil ?_
  refine SCode.seq ?_
  refine SCode.region (show SOps _ _ _ [0, 1, 2] _ _ from ?_)
  refine SOps.q rfl (.plain rfl) rfl (q_move rfl rfl) ?_
  refine SOps.q rfl (.plain rfl) rfl (q_move rfl rfl) ?_
  refine SOps.e rfl (.plain rfl) (e_copyL (c := cSGrant) (d0 := dSGrant) (l := List.replicate (((a1_grants).length : Int)).toNat dSGrant) (s := a1_grants) (lo := 0) (n := (List.replicate (((a1_grants).length : Int)).toNat dSGrant).length) (m := min (a1_grants).length ((List.replicate (((a1_grants).length : Int)).toNat dSGrant).length)) rfl rfl rfl (.inr ⟨rfl, rfl⟩) rfl rfl (.inl rfl) sl23 rfl oneSGrant (Nat.le_of_eq (Nat.zero_add _)) rfl) ?_
  refine SOps.sub (st' := ⟨[(0, .c (.vec a0_roles.length 4 (gL cSRole dSRole a0_roles))), (5, .c (.ptr 0 0)), (9, .c (.own 1 (copyL (List.replicate (((a1_grants).length : Int)).toNat dSGrant) 0 ((List.replicate (((a1_grants).length : Int)).toNat dSGrant).length) a1_grants).length))], [.box [.str a2_g.User, .str a2_g.Role, .int .i64 a2_g.Span_From, .int .i64 a2_g.Span_To], .arr 37 4 (copyL (List.replicate (((a1_grants).length : Int)).toNat dSGrant) 0 ((List.replicate (((a1_grants).length : Int)).toNat dSGrant).length) a1_grants).length (gL cSGrant dSGrant (copyL (List.replicate (((a1_grants).length : Int)).toNat dSGrant) 0 ((List.replicate (((a1_grants).length : Int)).toNat dSGrant).length) a1_grants))]⟩) (sub_gen [0, 1] rfl rfl ⟨zc rfl rfl, zc rfl rfl, ⟨_, rfl, .inl ⟨rfl, congrArg (Cell.own 1) (copyL_len (l := List.replicate (((a1_grants).length : Int)).toNat dSGrant) (s := a1_grants) (lo := 0) (n := (List.replicate (((a1_grants).length : Int)).toNat dSGrant).length) (Nat.le_of_eq (Nat.zero_add _))).symm⟩⟩, trivial⟩ ⟨⟨_, rfl, ⟨ii rfl rfl, ii rfl rfl, ii rfl rfl, ii rfl rfl, trivial⟩⟩, oa rfl, trivial⟩) ?_
  refine SOps.nil ?_
  refine SCode.seq ?_
  obtain ⟨g5, h⟩ := guard_out h
  refine SCode.region (show SOps _ _ _ [0, 1, 2, 3, 4] _ _ from ?_)
  refine SOps.q rfl (.plain rfl) rfl (q_move rfl rfl) ?_
  refine SOps.q rfl (.plain rfl) rfl (q_load_ptr_all rfl rfl rfl rfl rfl ty37) ?_
  refine SOps.q rfl (.plain rfl) rfl (q_bsliceL (c := cSGrant) (d0 := dSGrant) [a2_g] rfl rfl sl23 z37 rfl rfl rfl rfl rfl rfl rfl) ?_
  refine SOps.e rfl (.plain rfl) (e_appendL (c := cSGrant) (d0 := dSGrant) (l := copyL (List.replicate (((a1_grants).length : Int)).toNat dSGrant) 0 ((List.replicate (((a1_grants).length : Int)).toNat dSGrant).length) a1_grants) (l2 := [a2_g]) rfl rfl rfl rfl rfl rfl (.inl rfl) sl23 z37 rfl rfl oneSGrant g5.1 g5.2) ?_
  refine SOps.q rfl (.plain rfl) rfl (q_assign rfl rfl) ?_
  refine SOps.sub (st' := ⟨[(0, .c (.vec a0_roles.length 4 (gL cSRole dSRole a0_roles))), (9, .c (.own 0 ((copyL (List.replicate (((a1_grants).length : Int)).toNat dSGrant) 0 ((List.replicate (((a1_grants).length : Int)).toNat dSGrant).length) a1_grants) ++ ([a2_g])).length))], [.arr 37 4 ((copyL (List.replicate (((a1_grants).length : Int)).toNat dSGrant) 0 ((List.replicate (((a1_grants).length : Int)).toNat dSGrant).length) a1_grants) ++ ([a2_g])).length (gL cSGrant dSGrant ((copyL (List.replicate (((a1_grants).length : Int)).toNat dSGrant) 0 ((List.replicate (((a1_grants).length : Int)).toNat dSGrant).length) a1_grants) ++ ([a2_g])))]⟩) (sub_gen [2] rfl rfl ⟨zc rfl rfl, zc rfl rfl, trivial⟩ ⟨oa rfl, trivial⟩) ?_
  refine SOps.nil ?_
  refine SCode.seq ?_
  refine SCode.seq ?_
  obtain ⟨c_6, g7, h⟩ := bind_out h
  try dsimp only at h
  refine SCode.region (show SOps _ _ _ [0, 1, 2, 3] _ _ from ?_)
  refine SOps.q rfl (.plain rfl) rfl (q_move rfl rfl) ?_
  refine SOps.q rfl (.plain rfl) rfl (q_move rfl rfl) ?_
  refine SOps.q rfl (.plain rfl) rfl (q_call (access_Valid_ok F a0_roles ((copyL (List.replicate (((a1_grants).length : Int)).toNat dSGrant) 0 ((List.replicate (((a1_grants).length : Int)).toNat dSGrant).length) a1_grants) ++ ([a2_g])) c_6 g7) [0] rfl fn12 ⟨⟨_, rfl, .inl ⟨rfl, rfl⟩⟩, ⟨_, rfl, .inr (.inl ⟨_, _, _, _, _, _, _, rfl, rfl, rfl, Nat.le_refl _, fun _ _ _ _ => rfl, by decide⟩)⟩, trivial⟩ (.inr rfl)) ?_
  refine SOps.q rfl (.plain rfl) rfl (q_assign rfl rfl) ?_
  refine SOps.sub (st' := ⟨[(9, .c (.own 0 ((copyL (List.replicate (((a1_grants).length : Int)).toNat dSGrant) 0 ((List.replicate (((a1_grants).length : Int)).toNat dSGrant).length) a1_grants) ++ ([a2_g])).length)), (10, .c (.int .i64 c_6))], [.arr 37 4 ((copyL (List.replicate (((a1_grants).length : Int)).toNat dSGrant) 0 ((List.replicate (((a1_grants).length : Int)).toNat dSGrant).length) a1_grants) ++ ([a2_g])).length (gL cSGrant dSGrant ((copyL (List.replicate (((a1_grants).length : Int)).toNat dSGrant) 0 ((List.replicate (((a1_grants).length : Int)).toNat dSGrant).length) a1_grants) ++ ([a2_g])))]⟩) (sub_gen [0] rfl rfl ⟨zc rfl rfl, zc rfl rfl, trivial⟩ ⟨oa rfl, trivial⟩) ?_
  refine SOps.nil ?_
  refine SCode.seq ?_
  refine SCode.region (show SOps _ _ _ [0, 1] _ _ from ?_)
  refine SOps.q rfl (.plain rfl) rfl (q_move rfl rfl) ?_
  refine SOps.q rfl (.plain rfl) rfl (q_neq rfl rfl rfl) ?_
  refine SOps.sub (st' := ⟨[(9, .c (.own 0 ((copyL (List.replicate (((a1_grants).length : Int)).toNat dSGrant) 0 ((List.replicate (((a1_grants).length : Int)).toNat dSGrant).length) a1_grants) ++ ([a2_g])).length)), (10, .c (.int .i64 c_6)), (34, .c (.bool ((!decide (c_6 = 0)))))], [.arr 37 4 ((copyL (List.replicate (((a1_grants).length : Int)).toNat dSGrant) 0 ((List.replicate (((a1_grants).length : Int)).toNat dSGrant).length) a1_grants) ++ ([a2_g])).length (gL cSGrant dSGrant ((copyL (List.replicate (((a1_grants).length : Int)).toNat dSGrant) 0 ((List.replicate (((a1_grants).length : Int)).toNat dSGrant).length) a1_grants) ++ ([a2_g])))]⟩) (sub_gen [0] rfl rfl ⟨zc rfl rfl, zc rfl rfl, zc rfl rfl, trivial⟩ ⟨oa rfl, trivial⟩) ?_
  refine SOps.nil ?_
  rcases cond_out h with ⟨g8, h⟩ | ⟨g8, h⟩
  · refine SCode.cond_t rfl g8 ?_
    refine SCode.seq ?_
    refine SCode.region (show SOps _ _ _ [0, 1, 2] _ _ from ?_)
    refine SOps.q rfl (.plain rfl) rfl (q_move rfl rfl) ?_
    refine SOps.q rfl (.plain rfl) rfl (q_assign rfl rfl) ?_
    refine SOps.q rfl (.plain rfl) rfl (q_assign rfl rfl) ?_
    refine SOps.sub (st' := ⟨[(6, .c (.raw (.slice none 0 0))), (7, .c (.int .i64 c_6))], []⟩) (sub_gen [] rfl rfl ⟨zc rfl rfl, zc rfl rfl, trivial⟩ trivial) ?_
    refine SOps.nil ?_
    refine SCode.ret ?_
    obtain rfl := Option.some.inj h
    exact ⟨⟨[(6, .c (.vec (([] : List SGrant)).length 4 (gL cSGrant dSGrant (([] : List SGrant))))), (7, .c (.int .i64 c_6))], []⟩, _, sub_gen [] rfl rfl ⟨⟨_, rfl, .inr (.inr (.inr (.inl ⟨_, _, rfl, rfl⟩)))⟩, zc rfl rfl, trivial⟩ trivial, resA2 (v1 := .c (.vec (([] : List SGrant)).length 4 (gL cSGrant dSGrant (([] : List SGrant))))) (v2 := .c (.int .i64 c_6)) rfl rfl rfl, rfl⟩
  refine SCode.cond_f rfl g8 ?_
  refine SCode.skip ?_
  refine SCode.seq ?_
  refine SCode.region (show SOps _ _ _ [0, 1, 2] _ _ from ?_)
  refine SOps.q rfl (.plain rfl) rfl (q_move rfl rfl) ?_
  refine SOps.q rfl (.plain rfl) rfl (q_assign rfl rfl) ?_
  refine SOps.q rfl (.plain rfl) rfl (q_assign rfl rfl) ?_
  refine SOps.sub (st' := ⟨[(6, .c (.own 0 ((copyL (List.replicate (((a1_grants).length : Int)).toNat dSGrant) 0 ((List.replicate (((a1_grants).length : Int)).toNat dSGrant).length) a1_grants) ++ ([a2_g])).length)), (7, .c (.int .i64 0))], [.arr 37 4 ((copyL (List.replicate (((a1_grants).length : Int)).toNat dSGrant) 0 ((List.replicate (((a1_grants).length : Int)).toNat dSGrant).length) a1_grants) ++ ([a2_g])).length (gL cSGrant dSGrant ((copyL (List.replicate (((a1_grants).length : Int)).toNat dSGrant) 0 ((List.replicate (((a1_grants).length : Int)).toNat dSGrant).length) a1_grants) ++ ([a2_g])))]⟩) (sub_gen [0] rfl rfl ⟨zc rfl rfl, zc rfl rfl, trivial⟩ ⟨oa rfl, trivial⟩) ?_
  refine SOps.nil ?_
  refine SCode.ret ?_
  obtain rfl := Option.some.inj h
  exact ⟨⟨[(6, .c (.vec ((copyL (List.replicate (((a1_grants).length : Int)).toNat dSGrant) 0 ((List.replicate (((a1_grants).length : Int)).toNat dSGrant).length) a1_grants) ++ ([a2_g])).length 4 (gL cSGrant dSGrant ((copyL (List.replicate (((a1_grants).length : Int)).toNat dSGrant) 0 ((List.replicate (((a1_grants).length : Int)).toNat dSGrant).length) a1_grants) ++ ([a2_g]))))), (7, .c (.int .i64 0))], []⟩, _, sub_gen [] rfl rfl ⟨⟨_, rfl, .inr (.inl ⟨_, _, _, _, _, _, _, rfl, rfl, rfl, Nat.le_refl _, fun _ _ _ _ => rfl, by decide⟩)⟩, zc rfl rfl, trivial⟩ trivial, resA2 (v1 := .c (.vec ((copyL (List.replicate (((a1_grants).length : Int)).toNat dSGrant) 0 ((List.replicate (((a1_grants).length : Int)).toNat dSGrant).length) a1_grants) ++ ([a2_g])).length 4 (gL cSGrant dSGrant ((copyL (List.replicate (((a1_grants).length : Int)).toNat dSGrant) 0 ((List.replicate (((a1_grants).length : Int)).toNat dSGrant).length) a1_grants) ++ ([a2_g]))))) (v2 := .c (.int .i64 0)) rfl rfl rfl, rfl⟩
set_option maxRecDepth 100000 in
set_option maxHeartbeats 8000000 in
theorem slices_Clone_api_Grant_api_Grant_own_ok (F : Nat) (a0_s : List SGrant) (r : List SGrant) (h : slices_Clone_api_Grant_api_Grant_own F a0_s = some r) :
    SFun Try.prog 35 [] [.c (.vec a0_s.length 4 (gL cSGrant dSGrant a0_s))] (fun x os => x = .c (.own 0 r.length) ∧ os = [.arr 37 4 r.length (gL cSGrant dSGrant r)]) := by
  refine SFun.of (n := 8) Try.func35 rfl rfl rfl ?_
  unfold slices_Clone_api_Grant_api_Grant_own at h
  show SCode _ _ _ ⟨[(0, .c (.vec a0_s.length 4 (gL cSGrant dSGrant a0_s)))], []⟩ _
  refine SCode.seq ?_
  refine SCode.region (show SOps _ _ _ [0] _ _ from ?_)
  refine SOps.q rfl (.plain rfl) rfl (q_assign rfl rfl) ?_
  refine SOps.nilArrL (T := 37) (k := 4) cSGrant dSGrant (s := 2) rfl rfl ?_
  refine SOps.sub (st' := ⟨[(0, .c (.vec a0_s.length 4 (gL cSGrant dSGrant a0_s)))], []⟩) (sub_gen [] rfl rfl ⟨zc rfl rfl, trivial⟩ trivial) ?_
  refine SOps.nil ?_
  refine SCode.seq ?_
  refine SCode.seq ?_
  refine SCode.region (show SOps _ _ _ [0, 1] _ _ from ?_)
  refine SOps.q rfl (.plain rfl) rfl (q_move rfl rfl) ?_
  refine SOps.nilcmp rfl (.plain rfl) rfl rfl rfl rfl rfl us23 (by decide) (fun hl => ?_) ?_
  · obtain rfl := List.length_eq_zero_iff.1 hl
    obtain ⟨_, h⟩ := guard_out h
    refine SOps.sub (st' := ⟨[(0, .c (.vec (([] : List SGrant)).length 4 (gL cSGrant dSGrant (([] : List SGrant))))), (4, .c (.bool true))], []⟩) (sub_gen [] rfl rfl ⟨zc rfl rfl, zc rfl rfl, trivial⟩ trivial) ?_
    refine SOps.nil ?_
    refine SCode.cond_t rfl rfl ?_
    refine SCode.seq ?_
    refine SCode.region (show SOps _ _ _ [0] _ _ from ?_)
    refine SOps.q rfl (.plain rfl) rfl (q_assign rfl rfl) ?_
    refine SOps.nilArrL (T := 37) (k := 4) cSGrant dSGrant (s := 2) rfl rfl ?_
    refine SOps.sub (st' := ⟨[(2, .c (.own 0 (([] : List SGrant)).length))], [.arr 37 4 (([] : List SGrant)).length (gL cSGrant dSGrant (([] : List SGrant)))]⟩) (sub_gen [0] rfl rfl ⟨zc rfl rfl, trivial⟩ ⟨oa rfl, trivial⟩) ?_
    refine SOps.nil ?_
    refine SCode.ret ?_
    obtain rfl := Option.some.inj h
    exact ⟨⟨[(2, .c (.own 0 (([] : List SGrant)).length))], [.arr 37 4 (([] : List SGrant)).length (gL cSGrant dSGrant (([] : List SGrant)))]⟩, _, sub_gen [0] rfl rfl ⟨zc rfl rfl, trivial⟩ ⟨oa rfl, trivial⟩, resA1 (v := .c (.own 0 (([] : List SGrant)).length)) rfl rfl, ⟨rfl, rfl⟩⟩
  refine SOps.sub (st' := ⟨[(0, .c (.vec a0_s.length 4 (gL cSGrant dSGrant a0_s))), (4, .c (.bool false))], []⟩) (sub_gen [] rfl rfl ⟨zc rfl rfl, zc rfl rfl, trivial⟩ trivial) ?_
  refine SOps.nil ?_
  refine SCode.cond_f rfl rfl ?_
  refine SCode.skip ?_
  refine SCode.seq ?_
  obtain ⟨g1, h⟩ := guard_out h
  refine SCode.region (show SOps _ _ _ [0, 1, 2, 3] _ _ from ?_)
  refine SOps.e rfl (.plain rfl) (e_bslice0L (α := SGrant) (c := cSGrant) (d0 := dSGrant) rfl rfl rfl rfl sl23) ?_
  refine SOps.q rfl (.plain rfl) rfl (q_move rfl rfl) ?_
  refine SOps.e rfl (.plain rfl) (e_appendL (c := cSGrant) (d0 := dSGrant) (l := ([] : List SGrant)) (l2 := a0_s) rfl rfl rfl rfl rfl rfl (.inl rfl) sl23 z37 rfl rfl oneSGrant g1.1 g1.2) ?_
  refine SOps.q rfl (.plain rfl) rfl (q_assign rfl rfl) ?_
  refine SOps.sub (st' := ⟨[(2, .c (.own 0 ((([] : List SGrant)) ++ a0_s).length))], [.arr 37 4 ((([] : List SGrant)) ++ a0_s).length (gL cSGrant dSGrant ((([] : List SGrant)) ++ a0_s))]⟩) (sub_gen [1] rfl rfl ⟨zc rfl rfl, trivial⟩ ⟨oa rfl, trivial⟩) ?_
  refine SOps.nil ?_
  refine SCode.ret ?_
  obtain rfl := Option.some.inj h
  exact ⟨⟨[(2, .c (.own 0 ((([] : List SGrant)) ++ a0_s).length))], [.arr 37 4 ((([] : List SGrant)) ++ a0_s).length (gL cSGrant dSGrant ((([] : List SGrant)) ++ a0_s))]⟩, _, sub_gen [0] rfl rfl ⟨zc rfl rfl, trivial⟩ ⟨oa rfl, trivial⟩, resA1 (v := .c (.own 0 ((([] : List SGrant)) ++ a0_s).length)) rfl rfl, ⟨rfl, rfl⟩⟩
set_option maxRecDepth 100000 in
set_option maxHeartbeats 8000000 in
theorem access_Take_ok (F : Nat) (a0_grants : List SGrant) (a1_user : ByteArray) (a2_role : ByteArray) (a3_now : Int) (r : (List SGrant) × Int) (h : access_Take F a0_grants a1_user a2_role a3_now = some r) :
    SFun Try.prog 19 [] [.c (.vec a0_grants.length 4 (gL cSGrant dSGrant a0_grants)), .c (.str a1_user), .c (.str a2_role), .c (.int .i64 a3_now)] (fun x _ => x = .t [.c (.vec r.1.length 4 (gL cSGrant dSGrant r.1)), .c (.int .i64 r.2)]) := by
  refine SFun.of (n := 54) Try.func19 rfl rfl rfl ?_
  unfold access_Take at h
  show SCode _ _ _ ⟨[(0, .c (.vec a0_grants.length 4 (gL cSGrant dSGrant a0_grants))), (1, .c (.str a1_user)), (2, .c (.str a2_role)), (3, .c (.int .i64 a3_now))], []⟩ _
  refine SCode.seq ?_
  refine SCode.region (show SOps _ _ _ [0, 1] _ _ from ?_)
  refine SOps.q rfl (.plain rfl) rfl (q_assign rfl rfl) ?_
  refine SOps.q rfl (.plain rfl) rfl (q_assign rfl rfl) ?_
  refine SOps.sub (st' := ⟨[(0, .c (.vec a0_grants.length 4 (gL cSGrant dSGrant a0_grants))), (1, .c (.str a1_user)), (2, .c (.str a2_role)), (3, .c (.int .i64 a3_now))], []⟩) (sub_gen [] rfl rfl ⟨zc rfl rfl, zc rfl rfl, zc rfl rfl, zc rfl rfl, trivial⟩ trivial) ?_
  refine SOps.nil ?_
  refine SCode.seq ?_
  refine SCode.seq ?_
  rcases cond_out h with ⟨g1, h⟩ | ⟨g1, h⟩
  · refine SCode.region (show SOps _ _ _ [0, 1, 2, 3, 4, 5] _ _ from ?_)
    refine SOps.q rfl (.plain rfl) rfl (q_move rfl rfl) ?_
    refine SOps.q rfl (.plain rfl) rfl (q_lss rfl rfl rfl) ?_
    refine SOps.q rfl (.plain rfl) rfl (q_move rfl rfl) ?_
    refine SOps.skip rfl 2 15 false rfl rfl (.inl (gT g1)) rfl ?_
    refine SOps.skip rfl 2 15 false rfl rfl (.inl (gT g1)) rfl ?_
    refine SOps.q rfl (.plain rfl) rfl (q_pick_t rfl rfl g1 rfl) ?_
    refine SOps.sub (st' := ⟨[(0, .c (.vec a0_grants.length 4 (gL cSGrant dSGrant a0_grants))), (1, .c (.str a1_user)), (2, .c (.str a2_role)), (3, .c (.int .i64 a3_now)), (18, .c (.bool true))], []⟩) (sub_gen [] rfl rfl ⟨zc rfl rfl, zc rfl rfl, zc rfl rfl, zc rfl rfl, zc rfl rfl, trivial⟩ trivial) ?_
    refine SOps.nil ?_
    refine SCode.cond_t rfl rfl ?_
    refine SCode.seq ?_
    refine SCode.region (show SOps _ _ _ [0, 1, 2] _ _ from ?_)
    refine SOps.q rfl (.plain rfl) rfl (q_move rfl rfl) ?_
    refine SOps.q rfl (.plain rfl) rfl (q_assign rfl rfl) ?_
    refine SOps.q rfl (.plain rfl) rfl (q_assign rfl rfl) ?_
    refine SOps.sub (st' := ⟨[(8, .c (.vec a0_grants.length 4 (gL cSGrant dSGrant a0_grants))), (9, .c (.int .i64 2))], []⟩) (sub_gen [] rfl rfl ⟨zc rfl rfl, zc rfl rfl, trivial⟩ trivial) ?_
    refine SOps.nil ?_
    refine SCode.ret ?_
    obtain rfl := Option.some.inj h
    exact ⟨⟨[(8, .c (.vec a0_grants.length 4 (gL cSGrant dSGrant a0_grants))), (9, .c (.int .i64 2))], []⟩, _, sub_gen [] rfl rfl ⟨zc rfl rfl, zc rfl rfl, trivial⟩ trivial, resA2 (v1 := .c (.vec a0_grants.length 4 (gL cSGrant dSGrant a0_grants))) (v2 := .c (.int .i64 2)) rfl rfl rfl, rfl⟩
  refine SCode.region (show SOps _ _ _ [0, 1, 2, 3, 4, 5] _ _ from ?_)
  refine SOps.q rfl (.plain rfl) rfl (q_move rfl rfl) ?_
  refine SOps.q rfl (.plain rfl) rfl (q_lss rfl rfl rfl) ?_
  refine SOps.q rfl (.plain rfl) rfl (q_move rfl rfl) ?_
  refine SOps.q rfl (.guard 2 15 false rfl rfl (gF g1)) rfl (q_move rfl rfl) ?_
  refine SOps.q rfl (.guard 2 15 false rfl rfl (gF g1)) rfl (q_gtr rfl rfl rfl) ?_
  refine SOps.q rfl (.plain rfl) rfl (q_pick_f rfl rfl g1 rfl) ?_
  refine SOps.sub (st' := ⟨[(0, .c (.vec a0_grants.length 4 (gL cSGrant dSGrant a0_grants))), (1, .c (.str a1_user)), (2, .c (.str a2_role)), (3, .c (.int .i64 a3_now)), (18, .c (.bool (decide (268435456 < a3_now))))], []⟩) (sub_gen [] rfl rfl ⟨zc rfl rfl, zc rfl rfl, zc rfl rfl, zc rfl rfl, zc rfl rfl, trivial⟩ trivial) ?_
  refine SOps.nil ?_
  rcases cond_out h with ⟨g2, h⟩ | ⟨g2, h⟩
  · refine SCode.cond_t rfl g2 ?_
    refine SCode.seq ?_
    refine SCode.region (show SOps _ _ _ [0, 1, 2] _ _ from ?_)
    refine SOps.q rfl (.plain rfl) rfl (q_move rfl rfl) ?_
    refine SOps.q rfl (.plain rfl) rfl (q_assign rfl rfl) ?_
    refine SOps.q rfl (.plain rfl) rfl (q_assign rfl rfl) ?_
    refine SOps.sub (st' := ⟨[(8, .c (.vec a0_grants.length 4 (gL cSGrant dSGrant a0_grants))), (9, .c (.int .i64 2))], []⟩) (sub_gen [] rfl rfl ⟨zc rfl rfl, zc rfl rfl, trivial⟩ trivial) ?_
    refine SOps.nil ?_
    refine SCode.ret ?_
    obtain rfl := Option.some.inj h
    exact ⟨⟨[(8, .c (.vec a0_grants.length 4 (gL cSGrant dSGrant a0_grants))), (9, .c (.int .i64 2))], []⟩, _, sub_gen [] rfl rfl ⟨zc rfl rfl, zc rfl rfl, trivial⟩ trivial, resA2 (v1 := .c (.vec a0_grants.length 4 (gL cSGrant dSGrant a0_grants))) (v2 := .c (.int .i64 2)) rfl rfl rfl, rfl⟩
  refine SCode.cond_f rfl g2 ?_
  refine SCode.skip ?_
  refine SCode.join (σ := Unit) (S := fun s => ⟨[(0, .c (.vec a0_grants.length 4 (gL cSGrant dSGrant a0_grants)))], []⟩) (g := fun s => access_Take_p3 a0_grants = some r) ?_ ?_
  rotate_left
  · refine SCode.seq ?_
    refine SCode.region (show SOps _ _ _ [0, 1, 2] _ _ from ?_)
    refine SOps.q rfl (.plain rfl) rfl (q_move rfl rfl) ?_
    refine SOps.q rfl (.plain rfl) rfl (q_len_vec rfl rfl sl23) ?_
    refine SOps.q rfl (.plain rfl) rfl (q_move rfl rfl) ?_
    refine SOps.sub (st' := ⟨[(0, .c (.vec a0_grants.length 4 (gL cSGrant dSGrant a0_grants))), (1, .c (.str a1_user)), (2, .c (.str a2_role)), (3, .c (.int .i64 a3_now)), (20, .c (.vec a0_grants.length 4 (gL cSGrant dSGrant a0_grants))), (21, .c (.int .i64 (((a0_grants).length : Int)))), (22, .c (.int .i64 0))], []⟩) (sub_gen [] rfl rfl ⟨zc rfl rfl, zc rfl rfl, zc rfl rfl, zc rfl rfl, zc rfl rfl, zc rfl rfl, zc rfl rfl, trivial⟩ trivial) ?_
    refine SOps.nil ?_
    refine SCode.block ?_
    refine SCode.sub (st' := ⟨[(0, .c (.vec a0_grants.length 4 (gL cSGrant dSGrant a0_grants))), (1, .c (.str a1_user)), (2, .c (.str a2_role)), (3, .c (.int .i64 a3_now)), (20, .c (.vec a0_grants.length 4 (gL cSGrant dSGrant a0_grants))), (21, .c (.int .i64 (((a0_grants).length : Int)))), (22, .c (.int .i64 0))], []⟩) (sub_gen [] rfl rfl ⟨zc rfl rfl, zc rfl rfl, zc rfl rfl, zc rfl rfl, zc rfl rfl, zc rfl rfl, zc rfl rfl, trivial⟩ trivial) ?_
    refine (SCode.loop (σ := Nat × Int) (S := fun s => ⟨[(0, .c (.vec a0_grants.length 4 (gL cSGrant dSGrant a0_grants))), (1, .c (.str a1_user)), (2, .c (.str a2_role)), (3, .c (.int .i64 a3_now)), (20, .c (.vec a0_grants.length 4 (gL cSGrant dSGrant a0_grants))), (21, .c (.int .i64 (((a0_grants).length : Int)))), (22, .c (.int .i64 s.2))], []⟩) (g := fun s => access_Take_l29 F a0_grants a1_user a2_role a3_now s.1 s.2 = some r) (μ := fun s => s.1) (F, 0) h ?_)
    rintro ⟨n_29, t22_16⟩ h
    replace h : access_Take_l29 F a0_grants a1_user a2_role a3_now n_29 t22_16 = some r := h
    show SCode _ _ _ ⟨[(0, .c (.vec a0_grants.length 4 (gL cSGrant dSGrant a0_grants))), (1, .c (.str a1_user)), (2, .c (.str a2_role)), (3, .c (.int .i64 a3_now)), (20, .c (.vec a0_grants.length 4 (gL cSGrant dSGrant a0_grants))), (21, .c (.int .i64 (((a0_grants).length : Int)))), (22, .c (.int .i64 t22_16))], []⟩ _
    cases n_29 with
    | zero => cases h
    | succ n_29 =>
      replace h : access_Take_b29 F a0_grants a1_user a2_role a3_now (fun t22_16 => access_Take_l29 F a0_grants a1_user a2_role a3_now n_29 t22_16) t22_16 = some r := h
      unfold access_Take_b29 at h
      refine SCode.seq ?_
      refine SCode.region (show SOps _ _ _ [0] _ _ from ?_)
      refine SOps.q rfl (.plain rfl) rfl (q_lss rfl rfl rfl) ?_
      refine SOps.sub (st' := ⟨[(0, .c (.vec a0_grants.length 4 (gL cSGrant dSGrant a0_grants))), (1, .c (.str a1_user)), (2, .c (.str a2_role)), (3, .c (.int .i64 a3_now)), (20, .c (.vec a0_grants.length 4 (gL cSGrant dSGrant a0_grants))), (21, .c (.int .i64 (((a0_grants).length : Int)))), (22, .c (.int .i64 t22_16)), (23, .c (.bool (decide (t22_16 < ((a0_grants).length : Int)))))], []⟩) (sub_gen [] rfl rfl ⟨zc rfl rfl, zc rfl rfl, zc rfl rfl, zc rfl rfl, zc rfl rfl, zc rfl rfl, zc rfl rfl, zc rfl rfl, trivial⟩ trivial) ?_
      refine SOps.nil ?_
      refine SCode.seq ?_
      rcases cond_out h with ⟨g30, h⟩ | ⟨g30, h⟩
      · refine SCode.cond_t rfl g30 ?_
        refine SCode.skip ?_
        refine SCode.seq ?_
        refine SCode.block ?_
        refine SCode.seq ?_
        obtain ⟨g31, h⟩ := guard_out h
        refine SCode.region (show SOps _ _ _ [0, 1, 2, 3, 4, 5] _ _ from ?_)
        refine SOps.q rfl (.plain rfl) rfl (q_move rfl rfl) ?_
        refine SOps.q rfl (.plain rfl) rfl (q_index_vec rfl rfl rfl sl23 rfl g31.1 g31.2) ?_
        refine SOps.q rfl (.plain rfl) rfl (q_load_eptr_all rfl rfl rfl ty37) ?_
        refine SOps.e rfl (.plain rfl) (e_alloc rfl rfl rfl z37) ?_
        refine SOps.q rfl (.plain rfl) rfl (q_assign rfl rfl) ?_
        refine SOps.e rfl (.plain rfl) (e_store_box rfl rfl rfl rfl rfl ty37 rfl rfl rfl rfl) ?_
        refine SOps.sub (st' := ⟨[(0, .c (.vec a0_grants.length 4 (gL cSGrant dSGrant a0_grants))), (1, .c (.str a1_user)), (2, .c (.str a2_role)), (3, .c (.int .i64 a3_now)), (10, .c (.int .i64 t22_16)), (11, .c (.ptr 0 0)), (20, .c (.vec a0_grants.length 4 (gL cSGrant dSGrant a0_grants))), (21, .c (.int .i64 (((a0_grants).length : Int)))), (22, .c (.int .i64 t22_16))], [.box [.str ((a0_grants.getD t22_16.toNat dSGrant).User), .str ((a0_grants.getD t22_16.toNat dSGrant).Role), .int .i64 ((a0_grants.getD t22_16.toNat dSGrant).Span_From), .int .i64 ((a0_grants.getD t22_16.toNat dSGrant).Span_To)]]⟩) (sub_gen [0] rfl rfl ⟨zc rfl rfl, zc rfl rfl, zc rfl rfl, zc rfl rfl, zc rfl rfl, zc rfl rfl, zc rfl rfl, zc rfl rfl, zc rfl rfl, trivial⟩ ⟨⟨_, rfl, ⟨ii rfl rfl, ii rfl rfl, ii rfl rfl, ii rfl rfl, trivial⟩⟩, trivial⟩) ?_
        refine SOps.nil ?_
        refine SCode.join (σ := Bool) (S := fun s => ⟨[(0, .c (.vec a0_grants.length 4 (gL cSGrant dSGrant a0_grants))), (1, .c (.str a1_user)), (2, .c (.str a2_role)), (3, .c (.int .i64 a3_now)), (10, .c (.int .i64 t22_16)), (20, .c (.vec a0_grants.length 4 (gL cSGrant dSGrant a0_grants))), (21, .c (.int .i64 (((a0_grants).length : Int)))), (22, .c (.int .i64 t22_16)), (42, .c (.bool s))], []⟩) (g := fun s => access_Take_p37 F a0_grants a3_now t22_16 (fun t22_16 => access_Take_l29 F a0_grants a1_user a2_role a3_now n_29 t22_16) s = some r) ?_ ?_
        rotate_left
        · rcases cond_out h with ⟨g38, h⟩ | ⟨g38, h⟩
          · rcases cond_out h with ⟨g39, h⟩ | ⟨g39, h⟩
            · obtain ⟨c_40, g41, h⟩ := bind_out h
              try dsimp only at h
              refine SCode.region (show SOps _ _ _ [0, 1, 2, 3, 4, 5, 6, 7, 8, 9, 10, 11, 12, 13, 14, 15] _ _ from ?_)
              refine SOps.q rfl (.plain rfl) rfl (q_field_ptr rfl rfl fd37_0) ?_
              refine SOps.q rfl (.plain rfl) rfl (q_load_ptr rfl rfl rfl rfl ty9) ?_
              refine SOps.q rfl (.plain rfl) rfl (q_move rfl rfl) ?_
              refine SOps.q rfl (.plain rfl) rfl (q_eqlS rfl rfl rfl) ?_
              refine SOps.q rfl (.plain rfl) rfl (q_move rfl rfl) ?_
              refine SOps.q rfl (.guard 4 31 true rfl rfl (gT g38)) rfl (q_field_ptr rfl rfl fd37_1) ?_
              refine SOps.q rfl (.guard 4 31 true rfl rfl (gT g38)) rfl (q_load_ptr rfl rfl rfl rfl ty9) ?_
              refine SOps.q rfl (.guard 4 31 true rfl rfl (gT g38)) rfl (q_move rfl rfl) ?_
              refine SOps.q rfl (.guard 4 31 true rfl rfl (gT g38)) rfl (q_eqlS rfl rfl rfl) ?_
              refine SOps.q rfl (.plain rfl) rfl (q_pick_t rfl rfl g38 rfl) ?_
              refine SOps.q rfl (.plain rfl) rfl (q_move rfl rfl) ?_
              refine SOps.q rfl (.guard 10 37 true rfl rfl (gT g39)) rfl (q_field_ptr rfl rfl fd37_2) ?_
              refine SOps.q rfl (.guard 10 37 true rfl rfl (gT g39)) rfl (q_load_ptr_all rfl rfl rfl rfl rfl ty35) ?_
              refine SOps.q rfl (.guard 10 37 true rfl rfl (gT g39)) rfl (q_move rfl rfl) ?_
              refine SOps.q rfl (.guard 10 37 true rfl rfl (gT g39)) rfl (q_call (access_holds_ok F (SSpan.mk ((a0_grants.getD t22_16.toNat dSGrant).Span_From) ((a0_grants.getD t22_16.toNat dSGrant).Span_To)) a3_now c_40 g41) [] rfl fn34 ⟨⟨rfl, rfl⟩, ⟨_, rfl, .inl ⟨rfl, rfl⟩⟩, trivial⟩ (.inl rfl)) ?_
              refine SOps.q rfl (.plain rfl) rfl (q_pick_t rfl rfl g39 rfl) ?_
              refine SOps.sub (st' := ⟨[(0, .c (.vec a0_grants.length 4 (gL cSGrant dSGrant a0_grants))), (1, .c (.str a1_user)), (2, .c (.str a2_role)), (3, .c (.int .i64 a3_now)), (10, .c (.int .i64 t22_16)), (20, .c (.vec a0_grants.length 4 (gL cSGrant dSGrant a0_grants))), (21, .c (.int .i64 (((a0_grants).length : Int)))), (22, .c (.int .i64 t22_16)), (42, .c (.bool c_40))], []⟩) (sub_gen [] rfl rfl ⟨zc rfl rfl, zc rfl rfl, zc rfl rfl, zc rfl rfl, zc rfl rfl, zc rfl rfl, zc rfl rfl, zc rfl rfl, zc rfl rfl, trivial⟩ trivial) ?_
              refine SOps.nil ?_
              exact ⟨c_40, h, sub_gen [] rfl rfl ⟨zc rfl rfl, zc rfl rfl, zc rfl rfl, zc rfl rfl, zc rfl rfl, zc rfl rfl, zc rfl rfl, zc rfl rfl, zc rfl rfl, trivial⟩ trivial⟩
            refine SCode.region (show SOps _ _ _ [0, 1, 2, 3, 4, 5, 6, 7, 8, 9, 10, 11, 12, 13, 14, 15] _ _ from ?_)
            refine SOps.q rfl (.plain rfl) rfl (q_field_ptr rfl rfl fd37_0) ?_
            refine SOps.q rfl (.plain rfl) rfl (q_load_ptr rfl rfl rfl rfl ty9) ?_
            refine SOps.q rfl (.plain rfl) rfl (q_move rfl rfl) ?_
            refine SOps.q rfl (.plain rfl) rfl (q_eqlS rfl rfl rfl) ?_
            refine SOps.q rfl (.plain rfl) rfl (q_move rfl rfl) ?_
            refine SOps.q rfl (.guard 4 31 true rfl rfl (gT g38)) rfl (q_field_ptr rfl rfl fd37_1) ?_
            refine SOps.q rfl (.guard 4 31 true rfl rfl (gT g38)) rfl (q_load_ptr rfl rfl rfl rfl ty9) ?_
            refine SOps.q rfl (.guard 4 31 true rfl rfl (gT g38)) rfl (q_move rfl rfl) ?_
            refine SOps.q rfl (.guard 4 31 true rfl rfl (gT g38)) rfl (q_eqlS rfl rfl rfl) ?_
            refine SOps.q rfl (.plain rfl) rfl (q_pick_t rfl rfl g38 rfl) ?_
            refine SOps.q rfl (.plain rfl) rfl (q_move rfl rfl) ?_
            refine SOps.skip rfl 10 37 true rfl rfl (.inl (gF g39)) rfl ?_
            refine SOps.skip rfl 10 37 true rfl rfl (.inl (gF g39)) rfl ?_
            refine SOps.skip rfl 10 37 true rfl rfl (.inl (gF g39)) rfl ?_
            refine SOps.skip rfl 10 37 true rfl rfl (.inl (gF g39)) rfl ?_
            refine SOps.q rfl (.plain rfl) rfl (q_pick_f rfl rfl g39 rfl) ?_
            refine SOps.sub (st' := ⟨[(0, .c (.vec a0_grants.length 4 (gL cSGrant dSGrant a0_grants))), (1, .c (.str a1_user)), (2, .c (.str a2_role)), (3, .c (.int .i64 a3_now)), (10, .c (.int .i64 t22_16)), (20, .c (.vec a0_grants.length 4 (gL cSGrant dSGrant a0_grants))), (21, .c (.int .i64 (((a0_grants).length : Int)))), (22, .c (.int .i64 t22_16)), (42, .c (.bool false))], []⟩) (sub_gen [] rfl rfl ⟨zc rfl rfl, zc rfl rfl, zc rfl rfl, zc rfl rfl, zc rfl rfl, zc rfl rfl, zc rfl rfl, zc rfl rfl, zc rfl rfl, trivial⟩ trivial) ?_
            refine SOps.nil ?_
            exact ⟨false, h, sub_gen [] rfl rfl ⟨zc rfl rfl, zc rfl rfl, zc rfl rfl, zc rfl rfl, zc rfl rfl, zc rfl rfl, zc rfl rfl, zc rfl rfl, zc rfl rfl, trivial⟩ trivial⟩
          refine SCode.region (show SOps _ _ _ [0, 1, 2, 3, 4, 5, 6, 7, 8, 9, 10, 11, 12, 13, 14, 15] _ _ from ?_)
          refine SOps.q rfl (.plain rfl) rfl (q_field_ptr rfl rfl fd37_0) ?_
          refine SOps.q rfl (.plain rfl) rfl (q_load_ptr rfl rfl rfl rfl ty9) ?_
          refine SOps.q rfl (.plain rfl) rfl (q_move rfl rfl) ?_
          refine SOps.q rfl (.plain rfl) rfl (q_eqlS rfl rfl rfl) ?_
          refine SOps.q rfl (.plain rfl) rfl (q_move rfl rfl) ?_
          refine SOps.skip rfl 4 31 true rfl rfl (.inl (gF g38)) rfl ?_
          refine SOps.skip rfl 4 31 true rfl rfl (.inl (gF g38)) rfl ?_
          refine SOps.skip rfl 4 31 true rfl rfl (.inl (gF g38)) rfl ?_
          refine SOps.skip rfl 4 31 true rfl rfl (.inl (gF g38)) rfl ?_
          refine SOps.q rfl (.plain rfl) rfl (q_pick_f rfl rfl g38 rfl) ?_
          refine SOps.q rfl (.plain rfl) rfl (q_move rfl rfl) ?_
          refine SOps.skip rfl 10 37 true rfl rfl (.inl rfl) rfl ?_
          refine SOps.skip rfl 10 37 true rfl rfl (.inl rfl) rfl ?_
          refine SOps.skip rfl 10 37 true rfl rfl (.inl rfl) rfl ?_
          refine SOps.skip rfl 10 37 true rfl rfl (.inl rfl) rfl ?_
          refine SOps.q rfl (.plain rfl) rfl (q_pick_f rfl rfl rfl rfl) ?_
          refine SOps.sub (st' := ⟨[(0, .c (.vec a0_grants.length 4 (gL cSGrant dSGrant a0_grants))), (1, .c (.str a1_user)), (2, .c (.str a2_role)), (3, .c (.int .i64 a3_now)), (10, .c (.int .i64 t22_16)), (20, .c (.vec a0_grants.length 4 (gL cSGrant dSGrant a0_grants))), (21, .c (.int .i64 (((a0_grants).length : Int)))), (22, .c (.int .i64 t22_16)), (42, .c (.bool false))], []⟩) (sub_gen [] rfl rfl ⟨zc rfl rfl, zc rfl rfl, zc rfl rfl, zc rfl rfl, zc rfl rfl, zc rfl rfl, zc rfl rfl, zc rfl rfl, zc rfl rfl, trivial⟩ trivial) ?_
          refine SOps.nil ?_
          exact ⟨false, h, sub_gen [] rfl rfl ⟨zc rfl rfl, zc rfl rfl, zc rfl rfl, zc rfl rfl, zc rfl rfl, zc rfl rfl, zc rfl rfl, zc rfl rfl, zc rfl rfl, trivial⟩ trivial⟩
        rintro t42_32 h
        show SCode _ _ _ ⟨[(0, .c (.vec a0_grants.length 4 (gL cSGrant dSGrant a0_grants))), (1, .c (.str a1_user)), (2, .c (.str a2_role)), (3, .c (.int .i64 a3_now)), (10, .c (.int .i64 t22_16)), (20, .c (.vec a0_grants.length 4 (gL cSGrant dSGrant a0_grants))), (21, .c (.int .i64 (((a0_grants).length : Int)))), (22, .c (.int .i64 t22_16)), (42, .c (.bool t42_32))], []⟩ _
        replace h : access_Take_p37 F a0_grants a3_now t22_16 (fun t22_16 => access_Take_l29 F a0_grants a1_user a2_role a3_now n_29 t22_16) t42_32 = some r := h
        unfold access_Take_p37 at h
        rcases cond_out h with ⟨g33, h⟩ | ⟨g33, h⟩
        · refine SCode.cond_t rfl g33 ?_
          refine SCode.seq ?_
          obtain ⟨c_34, g35, h⟩ := bind_out h
          try dsimp only at h
          refine SCode.region (show SOps _ _ _ [0, 1, 2] _ _ from ?_)
          refine SOps.q rfl (.plain rfl) rfl (q_move rfl rfl) ?_
          refine SOps.e rfl (.plain rfl) (e_call (slices_Clone_api_Grant_api_Grant_own_ok F a0_grants c_34 g35) [] rfl fn35 rfl rfl rfl rfl rfl rfl rfl rfl) ?_
          refine SOps.q rfl (.plain rfl) rfl (q_assign rfl rfl) ?_
          refine SOps.sub (st' := ⟨[(3, .c (.int .i64 a3_now)), (10, .c (.int .i64 t22_16)), (12, .c (.own 0 c_34.length))], [.arr 37 4 c_34.length (gL cSGrant dSGrant c_34)]⟩) (sub_gen [0] rfl rfl ⟨zc rfl rfl, zc rfl rfl, zc rfl rfl, trivial⟩ ⟨oa rfl, trivial⟩) ?_
          refine SOps.nil ?_
          refine SCode.seq ?_
          obtain ⟨g36, h⟩ := guard_out h
          refine SCode.region (show SOps _ _ _ [0, 1, 2, 3, 4, 5, 6] _ _ from ?_)
          refine SOps.q rfl (.plain rfl) rfl (q_move rfl rfl) ?_
          refine SOps.q rfl (.plain rfl) rfl (q_move rfl rfl) ?_
          refine SOps.q rfl (.plain rfl) rfl (q_move rfl rfl) ?_
          refine SOps.q rfl (.plain rfl) rfl (q_index_own rfl rfl rfl sl23 g36.1 g36.2) ?_
          refine SOps.q rfl (.plain rfl) rfl (q_field_aptr rfl rfl fd37_2) ?_
          refine SOps.q rfl (.plain rfl) rfl (q_field_aptr rfl rfl fd35_1) ?_
          refine SOps.e rfl (.plain rfl) (e_storeL (SGrant.mk ((c_34.getD t22_16.toNat dSGrant).User) ((c_34.getD t22_16.toNat dSGrant).Role) ((c_34.getD t22_16.toNat dSGrant).Span_From) a3_now) rfl rfl rfl rfl rfl (toNat_lt g36) ty3 rfl rfl rfl rfl rfl rfl) ?_
          refine SOps.sub (st' := ⟨[(12, .c (.own 0 (c_34.set t22_16.toNat (SGrant.mk ((c_34.getD t22_16.toNat dSGrant).User) ((c_34.getD t22_16.toNat dSGrant).Role) ((c_34.getD t22_16.toNat dSGrant).Span_From) a3_now)).length))], [.arr 37 4 (c_34.set t22_16.toNat (SGrant.mk ((c_34.getD t22_16.toNat dSGrant).User) ((c_34.getD t22_16.toNat dSGrant).Role) ((c_34.getD t22_16.toNat dSGrant).Span_From) a3_now)).length (gL cSGrant dSGrant (c_34.set t22_16.toNat (SGrant.mk ((c_34.getD t22_16.toNat dSGrant).User) ((c_34.getD t22_16.toNat dSGrant).Role) ((c_34.getD t22_16.toNat dSGrant).Span_From) a3_now)))]⟩) (sub_gen [0] rfl rfl ⟨⟨_, rfl, .inl ⟨rfl, congrArg (Cell.own 0) (List.length_set : (c_34.set t22_16.toNat (SGrant.mk ((c_34.getD t22_16.toNat dSGrant).User) ((c_34.getD t22_16.toNat dSGrant).Role) ((c_34.getD t22_16.toNat dSGrant).Span_From) a3_now)).length = c_34.length).symm⟩⟩, trivial⟩ ⟨oa rfl, trivial⟩) ?_
          refine SOps.nil ?_
          refine SCode.seq ?_
          refine SCode.region (show SOps _ _ _ [0, 1, 2] _ _ from ?_)
          refine SOps.q rfl (.plain rfl) rfl (q_move rfl rfl) ?_
          refine SOps.q rfl (.plain rfl) rfl (q_assign rfl rfl) ?_
          refine SOps.q rfl (.plain rfl) rfl (q_assign rfl rfl) ?_
          refine SOps.sub (st' := ⟨[(8, .c (.own 0 (c_34.set t22_16.toNat (SGrant.mk ((c_34.getD t22_16.toNat dSGrant).User) ((c_34.getD t22_16.toNat dSGrant).Role) ((c_34.getD t22_16.toNat dSGrant).Span_From) a3_now)).length)), (9, .c (.int .i64 0))], [.arr 37 4 (c_34.set t22_16.toNat (SGrant.mk ((c_34.getD t22_16.toNat dSGrant).User) ((c_34.getD t22_16.toNat dSGrant).Role) ((c_34.getD t22_16.toNat dSGrant).Span_From) a3_now)).length (gL cSGrant dSGrant (c_34.set t22_16.toNat (SGrant.mk ((c_34.getD t22_16.toNat dSGrant).User) ((c_34.getD t22_16.toNat dSGrant).Role) ((c_34.getD t22_16.toNat dSGrant).Span_From) a3_now)))]⟩) (sub_gen [0] rfl rfl ⟨zc rfl rfl, zc rfl rfl, trivial⟩ ⟨oa rfl, trivial⟩) ?_
          refine SOps.nil ?_
          refine SCode.ret ?_
          obtain rfl := Option.some.inj h
          exact ⟨⟨[(8, .c (.vec (c_34.set t22_16.toNat (SGrant.mk ((c_34.getD t22_16.toNat dSGrant).User) ((c_34.getD t22_16.toNat dSGrant).Role) ((c_34.getD t22_16.toNat dSGrant).Span_From) a3_now)).length 4 (gL cSGrant dSGrant (c_34.set t22_16.toNat (SGrant.mk ((c_34.getD t22_16.toNat dSGrant).User) ((c_34.getD t22_16.toNat dSGrant).Role) ((c_34.getD t22_16.toNat dSGrant).Span_From) a3_now))))), (9, .c (.int .i64 0))], []⟩, _, sub_gen [] rfl rfl ⟨⟨_, rfl, .inr (.inl ⟨_, _, _, _, _, _, _, rfl, rfl, rfl, Nat.le_refl _, fun _ _ _ _ => rfl, by decide⟩)⟩, zc rfl rfl, trivial⟩ trivial, resA2 (v1 := .c (.vec (c_34.set t22_16.toNat (SGrant.mk ((c_34.getD t22_16.toNat dSGrant).User) ((c_34.getD t22_16.toNat dSGrant).Role) ((c_34.getD t22_16.toNat dSGrant).Span_From) a3_now)).length 4 (gL cSGrant dSGrant (c_34.set t22_16.toNat (SGrant.mk ((c_34.getD t22_16.toNat dSGrant).User) ((c_34.getD t22_16.toNat dSGrant).Role) ((c_34.getD t22_16.toNat dSGrant).Span_From) a3_now))))) (v2 := .c (.int .i64 0)) rfl rfl rfl, rfl⟩
        refine SCode.cond_f rfl g33 ?_
        refine SCode.skip ?_
        refine SCode.region (show SOps _ _ _ [0, 1] _ _ from ?_)
        refine SOps.q rfl (.plain rfl) rfl (q_add rfl rfl rfl) ?_
        refine SOps.q rfl (.plain rfl) rfl (q_move rfl rfl) ?_
        refine SOps.sub (st' := ⟨[(0, .c (.vec a0_grants.length 4 (gL cSGrant dSGrant a0_grants))), (1, .c (.str a1_user)), (2, .c (.str a2_role)), (3, .c (.int .i64 a3_now)), (20, .c (.vec a0_grants.length 4 (gL cSGrant dSGrant a0_grants))), (21, .c (.int .i64 (((a0_grants).length : Int)))), (22, .c (.int .i64 (IntKind.wrap .i64 (t22_16 + 1))))], []⟩) (sub_gen [] rfl rfl ⟨zc rfl rfl, zc rfl rfl, zc rfl rfl, zc rfl rfl, zc rfl rfl, zc rfl rfl, zc rfl rfl, trivial⟩ trivial) ?_
        refine SOps.nil ?_
        exact ⟨(n_29, IntKind.wrap .i64 (t22_16 + 1)), h, Nat.lt_succ_self n_29, sub_gen [] rfl rfl ⟨zc rfl rfl, zc rfl rfl, zc rfl rfl, zc rfl rfl, zc rfl rfl, zc rfl rfl, zc rfl rfl, trivial⟩ trivial⟩
      refine SCode.cond_f rfl g30 ?_
      refine SCode.exit ?_
      exact ⟨(), h, sub_gen [] rfl rfl ⟨zc rfl rfl, trivial⟩ trivial⟩
  rintro ⟨⟩ h
  show SCode _ _ _ ⟨[(0, .c (.vec a0_grants.length 4 (gL cSGrant dSGrant a0_grants)))], []⟩ _
  replace h : access_Take_p3 a0_grants = some r := h
  unfold access_Take_p3 at h
  refine SCode.seq ?_
  refine SCode.region (show SOps _ _ _ [0, 1, 2] _ _ from ?_)
  refine SOps.q rfl (.plain rfl) rfl (q_move rfl rfl) ?_
  refine SOps.q rfl (.plain rfl) rfl (q_assign rfl rfl) ?_
  refine SOps.q rfl (.plain rfl) rfl (q_assign rfl rfl) ?_
  refine SOps.sub (st' := ⟨[(8, .c (.vec a0_grants.length 4 (gL cSGrant dSGrant a0_grants))), (9, .c (.int .i64 8))], []⟩) (sub_gen [] rfl rfl ⟨zc rfl rfl, zc rfl rfl, trivial⟩ trivial) ?_
  refine SOps.nil ?_
  refine SCode.ret ?_
  obtain rfl := Option.some.inj h
  exact ⟨⟨[(8, .c (.vec a0_grants.length 4 (gL cSGrant dSGrant a0_grants))), (9, .c (.int .i64 8))], []⟩, _, sub_gen [] rfl rfl ⟨zc rfl rfl, zc rfl rfl, trivial⟩ trivial, resA2 (v1 := .c (.vec a0_grants.length 4 (gL cSGrant dSGrant a0_grants))) (v2 := .c (.int .i64 8)) rfl rfl rfl, rfl⟩
theorem slices_Sort_string_string_ok (F : Nat) (a0_x : List ByteArray) (r : List ByteArray) (h : slices_Sort_string_string F a0_x = some r) :
    SFun Try.prog 37 [.arr 9 1 a0_x.length (gL cStr ByteArray.empty a0_x)] [.c (.own 0 a0_x.length)] (fun x os => x = .t [] ∧ os = [.arr 9 1 r.length (gL cStr ByteArray.empty r)]) := by
  obtain ⟨hg, h⟩ := guard_out h
  obtain rfl := Option.some.inj h
  exact sfun_sortS (fun blk off cap zs w => Try.slices_Sort_string blk off cap zs w) (fun p cap w => Try.slices_Sort_string_none p cap w) a0_x hg
set_option maxRecDepth 100000 in
set_option maxHeartbeats 8000000 in
theorem access_Users_ok (F : Nat) (a0_roles : List SRole) (a1_grants : List SGrant) (a2_action : Int) (a3_object : ByteArray) (a4_now : Int) (r : List ByteArray) (h : access_Users F a0_roles a1_grants a2_action a3_object a4_now = some r) :
    SFun Try.prog 21 [] [.c (.vec a0_roles.length 4 (gL cSRole dSRole a0_roles)), .c (.vec a1_grants.length 4 (gL cSGrant dSGrant a1_grants)), .c (.int .i64 a2_action), .c (.str a3_object), .c (.int .i64 a4_now)] (fun x _ => x = .c (.vec r.length 1 (gL cStr ByteArray.empty r))) := by
  refine SFun.of (n := 55) Try.func21 rfl rfl rfl ?_
  unfold access_Users at h
  show SCode _ _ _ ⟨[(0, .c (.vec a0_roles.length 4 (gL cSRole dSRole a0_roles))), (1, .c (.vec a1_grants.length 4 (gL cSGrant dSGrant a1_grants))), (2, .c (.int .i64 a2_action)), (3, .c (.str a3_object)), (4, .c (.int .i64 a4_now))], []⟩ _
  refine SCode.seq ?_
  refine SCode.region (show SOps _ _ _ [0] _ _ from ?_)
  refine SOps.q rfl (.plain rfl) rfl (q_assign rfl rfl) ?_
  refine SOps.sub (st' := ⟨[(0, .c (.vec a0_roles.length 4 (gL cSRole dSRole a0_roles))), (1, .c (.vec a1_grants.length 4 (gL cSGrant dSGrant a1_grants))), (2, .c (.int .i64 a2_action)), (3, .c (.str a3_object)), (4, .c (.int .i64 a4_now))], []⟩) (sub_gen [] rfl rfl ⟨zc rfl rfl, zc rfl rfl, zc rfl rfl, zc rfl rfl, zc rfl rfl, trivial⟩ trivial) ?_
  refine SOps.nil ?_
  refine SCode.seq ?_
  refine SCode.seq ?_
  obtain ⟨c_1, g2, h⟩ := bind_out h
  try dsimp only at h
  refine SCode.region (show SOps _ _ _ [0, 1, 2, 3] _ _ from ?_)
  refine SOps.q rfl (.plain rfl) rfl (q_move rfl rfl) ?_
  refine SOps.q rfl (.plain rfl) rfl (q_move rfl rfl) ?_
  refine SOps.q rfl (.plain rfl) rfl (q_call (access_Valid_ok F a0_roles a1_grants c_1 g2) [] rfl fn12 ⟨⟨_, rfl, .inl ⟨rfl, rfl⟩⟩, ⟨_, rfl, .inl ⟨rfl, rfl⟩⟩, trivial⟩ (.inl rfl)) ?_
  refine SOps.q rfl (.plain rfl) rfl (q_neq rfl rfl rfl) ?_
  refine SOps.sub (st' := ⟨[(0, .c (.vec a0_roles.length 4 (gL cSRole dSRole a0_roles))), (1, .c (.vec a1_grants.length 4 (gL cSGrant dSGrant a1_grants))), (2, .c (.int .i64 a2_action)), (3, .c (.str a3_object)), (4, .c (.int .i64 a4_now)), (19, .c (.bool ((!decide (c_1 = 0)))))], []⟩) (sub_gen [] rfl rfl ⟨zc rfl rfl, zc rfl rfl, zc rfl rfl, zc rfl rfl, zc rfl rfl, zc rfl rfl, trivial⟩ trivial) ?_
  refine SOps.nil ?_
  rcases cond_out h with ⟨g3, h⟩ | ⟨g3, h⟩
  · refine SCode.cond_t rfl g3 ?_
    refine SCode.seq ?_
    refine SCode.region (show SOps _ _ _ [0] _ _ from ?_)
    refine SOps.q rfl (.plain rfl) rfl (q_assign rfl rfl) ?_
    refine SOps.sub (st' := ⟨[(10, .c (.raw (.slice none 0 0)))], []⟩) (sub_gen [] rfl rfl ⟨zc rfl rfl, trivial⟩ trivial) ?_
    refine SOps.nil ?_
    refine SCode.ret ?_
    obtain rfl := Option.some.inj h
    exact ⟨⟨[(10, .c (.vec (([] : List ByteArray)).length 1 (gL cStr ByteArray.empty (([] : List ByteArray)))))], []⟩, _, sub_gen [] rfl rfl ⟨⟨_, rfl, .inr (.inr (.inr (.inl ⟨_, _, rfl, rfl⟩)))⟩, trivial⟩ trivial, resA1 (v := .c (.vec (([] : List ByteArray)).length 1 (gL cStr ByteArray.empty (([] : List ByteArray))))) rfl rfl, rfl⟩
  refine SCode.cond_f rfl g3 ?_
  refine SCode.skip ?_
  refine SCode.seq ?_
  obtain ⟨c_4, g5, h⟩ := bind_out h
  try dsimp only at h
  refine SCode.region (show SOps _ _ _ [0, 1, 2] _ _ from ?_)
  refine SOps.q rfl (.plain rfl) rfl (q_move rfl rfl) ?_
  refine SOps.e rfl (.plain rfl) (e_call (access_byName_own_ok F a0_roles c_4 g5) [] rfl fn26 rfl rfl rfl rfl rfl rfl rfl rfl) ?_
  refine SOps.q rfl (.plain rfl) rfl (q_assign rfl rfl) ?_
  refine SOps.sub (st' := ⟨[(1, .c (.vec a1_grants.length 4 (gL cSGrant dSGrant a1_grants))), (2, .c (.int .i64 a2_action)), (3, .c (.str a3_object)), (4, .c (.int .i64 a4_now)), (11, .c (.mp 0))], [.map c_4.length (kG c_4) (vG (mA 4 cSRole) dSRole c_4)]⟩) (sub_gen [0] rfl rfl ⟨zc rfl rfl, zc rfl rfl, zc rfl rfl, zc rfl rfl, zc rfl rfl, trivial⟩ ⟨rfl, trivial⟩) ?_
  refine SOps.nil ?_
  refine SCode.seq ?_
  refine SCode.region (show SOps _ _ _ [0, 1, 2, 3] _ _ from ?_)
  refine SOps.q rfl (.plain rfl) rfl (q_move rfl rfl) ?_
  refine SOps.q rfl (.plain rfl) rfl (q_len_vec rfl rfl sl23) ?_
  refine SOps.e rfl (.plain rfl) (e_makeMap (α := Bool) (mv := (mC cBool)) (d0 := false) rfl rfl rfl mp52 (.inr ⟨_, _, _, rfl, rfl⟩)) ?_
  refine SOps.q rfl (.plain rfl) rfl (q_assign rfl rfl) ?_
  refine SOps.sub (st' := ⟨[(1, .c (.vec a1_grants.length 4 (gL cSGrant dSGrant a1_grants))), (2, .c (.int .i64 a2_action)), (3, .c (.str a3_object)), (4, .c (.int .i64 a4_now)), (11, .c (.mp 0)), (12, .c (.mp 1))], [.map c_4.length (kG c_4) (vG (mA 4 cSRole) dSRole c_4), .map (([] : List (ByteArray × Bool))).length (kG (([] : List (ByteArray × Bool)))) (vG (mC cBool) false (([] : List (ByteArray × Bool))))]⟩) (sub_gen [0, 1] rfl rfl ⟨zc rfl rfl, zc rfl rfl, zc rfl rfl, zc rfl rfl, zc rfl rfl, zc rfl rfl, trivial⟩ ⟨rfl, rfl, trivial⟩) ?_
  refine SOps.nil ?_
  refine SCode.seq ?_
  refine SCode.region (show SOps _ _ _ [0] _ _ from ?_)
  refine SOps.q rfl (.plain rfl) rfl (q_assign rfl rfl) ?_
  refine SOps.nilArrL (T := 9) (k := 1) cStr ByteArray.empty (s := 13) rfl rfl ?_
  refine SOps.sub (st' := ⟨[(1, .c (.vec a1_grants.length 4 (gL cSGrant dSGrant a1_grants))), (2, .c (.int .i64 a2_action)), (3, .c (.str a3_object)), (4, .c (.int .i64 a4_now)), (11, .c (.mp 0)), (12, .c (.mp 1)), (13, .c (.own 2 (([] : List ByteArray)).length))], [.map c_4.length (kG c_4) (vG (mA 4 cSRole) dSRole c_4), .map (([] : List (ByteArray × Bool))).length (kG (([] : List (ByteArray × Bool)))) (vG (mC cBool) false (([] : List (ByteArray × Bool)))), .arr 9 1 (([] : List ByteArray)).length (gL cStr ByteArray.empty (([] : List ByteArray)))]⟩) (sub_gen [0, 1, 2] rfl rfl ⟨zc rfl rfl, zc rfl rfl, zc rfl rfl, zc rfl rfl, zc rfl rfl, zc rfl rfl, zc rfl rfl, trivial⟩ ⟨rfl, rfl, oa rfl, trivial⟩) ?_
  refine SOps.nil ?_
  refine SCode.join (σ := (List ByteArray)) (S := fun s => ⟨[(13, .c (.own 0 s.length))], [.arr 9 1 s.length (gL cStr ByteArray.empty s)]⟩) (g := fun s => access_Users_p10 F s = some r) ?_ ?_
  rotate_left
  · refine SCode.seq ?_
    refine SCode.region (show SOps _ _ _ [0, 1, 2] _ _ from ?_)
    refine SOps.q rfl (.plain rfl) rfl (q_move rfl rfl) ?_
    refine SOps.q rfl (.plain rfl) rfl (q_len_vec rfl rfl sl23) ?_
    refine SOps.q rfl (.plain rfl) rfl (q_move rfl rfl) ?_
    refine SOps.sub (st' := ⟨[(1, .c (.vec a1_grants.length 4 (gL cSGrant dSGrant a1_grants))), (2, .c (.int .i64 a2_action)), (3, .c (.str a3_object)), (4, .c (.int .i64 a4_now)), (11, .c (.mp 0)), (12, .c (.mp 1)), (13, .c (.own 2 (([] : List ByteArray)).length)), (25, .c (.vec a1_grants.length 4 (gL cSGrant dSGrant a1_grants))), (26, .c (.int .i64 (((a1_grants).length : Int)))), (27, .c (.int .i64 0))], [.map c_4.length (kG c_4) (vG (mA 4 cSRole) dSRole c_4), .map (([] : List (ByteArray × Bool))).length (kG (([] : List (ByteArray × Bool)))) (vG (mC cBool) false (([] : List (ByteArray × Bool)))), .arr 9 1 (([] : List ByteArray)).length (gL cStr ByteArray.empty (([] : List ByteArray)))]⟩) (sub_gen [0, 1, 2] rfl rfl ⟨zc rfl rfl, zc rfl rfl, zc rfl rfl, zc rfl rfl, zc rfl rfl, zc rfl rfl, zc rfl rfl, zc rfl rfl, zc rfl rfl, zc rfl rfl, trivial⟩ ⟨rfl, rfl, oa rfl, trivial⟩) ?_
    refine SOps.nil ?_
    refine SCode.block ?_
    refine SCode.sub (st' := ⟨[(1, .c (.vec a1_grants.length 4 (gL cSGrant dSGrant a1_grants))), (2, .c (.int .i64 a2_action)), (3, .c (.str a3_object)), (4, .c (.int .i64 a4_now)), (11, .c (.mp 0)), (12, .c (.mp 1)), (13, .c (.own 2 ([] : List ByteArray).length)), (25, .c (.vec a1_grants.length 4 (gL cSGrant dSGrant a1_grants))), (26, .c (.int .i64 (((a1_grants).length : Int)))), (27, .c (.int .i64 0))], [.map c_4.length (kG c_4) (vG (mA 4 cSRole) dSRole c_4), .map (([] : List (ByteArray × Bool))).length (kG (([] : List (ByteArray × Bool)))) (vG (mC cBool) false (([] : List (ByteArray × Bool)))), .arr 9 1 ([] : List ByteArray).length (gL cStr ByteArray.empty ([] : List ByteArray))]⟩) (sub_gen [0, 1, 2] rfl rfl ⟨zc rfl rfl, zc rfl rfl, zc rfl rfl, zc rfl rfl, zc rfl rfl, zc rfl rfl, zc rfl rfl, zc rfl rfl, zc rfl rfl, zc rfl rfl, trivial⟩ ⟨rfl, rfl, oa rfl, trivial⟩) ?_
    refine (SCode.loop (σ := Nat × (Int × (List (ByteArray × Bool)) × (List ByteArray))) (S := fun s => ⟨[(1, .c (.vec a1_grants.length 4 (gL cSGrant dSGrant a1_grants))), (2, .c (.int .i64 a2_action)), (3, .c (.str a3_object)), (4, .c (.int .i64 a4_now)), (11, .c (.mp 0)), (12, .c (.mp 1)), (13, .c (.own 2 s.2.2.2.length)), (25, .c (.vec a1_grants.length 4 (gL cSGrant dSGrant a1_grants))), (26, .c (.int .i64 (((a1_grants).length : Int)))), (27, .c (.int .i64 s.2.1))], [.map c_4.length (kG c_4) (vG (mA 4 cSRole) dSRole c_4), .map s.2.2.1.length (kG s.2.2.1) (vG (mC cBool) false s.2.2.1), .arr 9 1 s.2.2.2.length (gL cStr ByteArray.empty s.2.2.2)]⟩) (g := fun s => access_Users_l34 F a1_grants a2_action a3_object a4_now c_4 s.1 s.2.1 s.2.2.1 s.2.2.2 = some r) (μ := fun s => s.1) (F, (0, ([] : List (ByteArray × Bool)), ([] : List ByteArray))) h ?_)
    rintro ⟨n_34, ⟨t27_21, o1_22, o2_23⟩⟩ h
    replace h : access_Users_l34 F a1_grants a2_action a3_object a4_now c_4 n_34 t27_21 o1_22 o2_23 = some r := h
    show SCode _ _ _ ⟨[(1, .c (.vec a1_grants.length 4 (gL cSGrant dSGrant a1_grants))), (2, .c (.int .i64 a2_action)), (3, .c (.str a3_object)), (4, .c (.int .i64 a4_now)), (11, .c (.mp 0)), (12, .c (.mp 1)), (13, .c (.own 2 o2_23.length)), (25, .c (.vec a1_grants.length 4 (gL cSGrant dSGrant a1_grants))), (26, .c (.int .i64 (((a1_grants).length : Int)))), (27, .c (.int .i64 t27_21))], [.map c_4.length (kG c_4) (vG (mA 4 cSRole) dSRole c_4), .map o1_22.length (kG o1_22) (vG (mC cBool) false o1_22), .arr 9 1 o2_23.length (gL cStr ByteArray.empty o2_23)]⟩ _
    cases n_34 with
    | zero => cases h
    | succ n_34 =>
      replace h : access_Users_b34 F a1_grants a2_action a3_object a4_now c_4 (fun t27_21 o1_22 o2_23 => access_Users_l34 F a1_grants a2_action a3_object a4_now c_4 n_34 t27_21 o1_22 o2_23) t27_21 o1_22 o2_23 = some r := h
      unfold access_Users_b34 at h
      refine SCode.seq ?_
      refine SCode.region (show SOps _ _ _ [0] _ _ from ?_)
      refine SOps.q rfl (.plain rfl) rfl (q_lss rfl rfl rfl) ?_
      refine SOps.sub (st' := ⟨[(1, .c (.vec a1_grants.length 4 (gL cSGrant dSGrant a1_grants))), (2, .c (.int .i64 a2_action)), (3, .c (.str a3_object)), (4, .c (.int .i64 a4_now)), (11, .c (.mp 0)), (12, .c (.mp 1)), (13, .c (.own 2 o2_23.length)), (25, .c (.vec a1_grants.length 4 (gL cSGrant dSGrant a1_grants))), (26, .c (.int .i64 (((a1_grants).length : Int)))), (27, .c (.int .i64 t27_21)), (28, .c (.bool (decide (t27_21 < ((a1_grants).length : Int)))))], [.map c_4.length (kG c_4) (vG (mA 4 cSRole) dSRole c_4), .map o1_22.length (kG o1_22) (vG (mC cBool) false o1_22), .arr 9 1 o2_23.length (gL cStr ByteArray.empty o2_23)]⟩) (sub_gen [0, 1, 2] rfl rfl ⟨zc rfl rfl, zc rfl rfl, zc rfl rfl, zc rfl rfl, zc rfl rfl, zc rfl rfl, zc rfl rfl, zc rfl rfl, zc rfl rfl, zc rfl rfl, zc rfl rfl, trivial⟩ ⟨rfl, rfl, oa rfl, trivial⟩) ?_
      refine SOps.nil ?_
      refine SCode.seq ?_
      rcases cond_out h with ⟨g35, h⟩ | ⟨g35, h⟩
      · refine SCode.cond_t rfl g35 ?_
        refine SCode.skip ?_
        refine SCode.join (σ := (List (ByteArray × Bool)) × (List ByteArray)) (S := fun s => ⟨[(1, .c (.vec a1_grants.length 4 (gL cSGrant dSGrant a1_grants))), (2, .c (.int .i64 a2_action)), (3, .c (.str a3_object)), (4, .c (.int .i64 a4_now)), (11, .c (.mp 0)), (12, .c (.mp 1)), (13, .c (.own 2 s.2.length)), (25, .c (.vec a1_grants.length 4 (gL cSGrant dSGrant a1_grants))), (26, .c (.int .i64 (((a1_grants).length : Int)))), (27, .c (.int .i64 t27_21))], [.map c_4.length (kG c_4) (vG (mA 4 cSRole) dSRole c_4), .map s.1.length (kG s.1) (vG (mC cBool) false s.1), .arr 9 1 s.2.length (gL cStr ByteArray.empty s.2)]⟩) (g := fun s => access_Users_p38 t27_21 (fun t27_21 o1_22 o2_23 => access_Users_l34 F a1_grants a2_action a3_object a4_now c_4 n_34 t27_21 o1_22 o2_23) s.1 s.2 = some r) ?_ ?_
        rotate_left
        · refine SCode.block ?_
          refine SCode.seq ?_
          obtain ⟨g39, h⟩ := guard_out h
          refine SCode.region (show SOps _ _ _ [0, 1, 2, 3] _ _ from ?_)
          refine SOps.q rfl (.plain rfl) rfl (q_index_vec rfl rfl rfl sl23 rfl g39.1 g39.2) ?_
          refine SOps.q rfl (.plain rfl) rfl (q_load_eptr_all rfl rfl rfl ty37) ?_
          refine SOps.e rfl (.plain rfl) (e_alloc rfl rfl rfl z37) ?_
          refine SOps.e rfl (.plain rfl) (e_store_box rfl rfl rfl rfl rfl ty37 rfl rfl rfl rfl) ?_
          refine SOps.sub (st' := ⟨[(1, .c (.vec a1_grants.length 4 (gL cSGrant dSGrant a1_grants))), (2, .c (.int .i64 a2_action)), (3, .c (.str a3_object)), (4, .c (.int .i64 a4_now)), (11, .c (.mp 0)), (12, .c (.mp 1)), (13, .c (.own 2 o2_23.length)), (15, .c (.ptr 3 0)), (25, .c (.vec a1_grants.length 4 (gL cSGrant dSGrant a1_grants))), (26, .c (.int .i64 (((a1_grants).length : Int)))), (27, .c (.int .i64 t27_21))], [.map c_4.length (kG c_4) (vG (mA 4 cSRole) dSRole c_4), .map o1_22.length (kG o1_22) (vG (mC cBool) false o1_22), .arr 9 1 o2_23.length (gL cStr ByteArray.empty o2_23), .box [.str ((a1_grants.getD t27_21.toNat dSGrant).User), .str ((a1_grants.getD t27_21.toNat dSGrant).Role), .int .i64 ((a1_grants.getD t27_21.toNat dSGrant).Span_From), .int .i64 ((a1_grants.getD t27_21.toNat dSGrant).Span_To)]]⟩) (sub_gen [0, 1, 2, 3] rfl rfl ⟨zc rfl rfl, zc rfl rfl, zc rfl rfl, zc rfl rfl, zc rfl rfl, zc rfl rfl, zc rfl rfl, zc rfl rfl, zc rfl rfl, zc rfl rfl, zc rfl rfl, trivial⟩ ⟨rfl, rfl, oa rfl, ⟨_, rfl, ⟨ii rfl rfl, ii rfl rfl, ii rfl rfl, ii rfl rfl, trivial⟩⟩, trivial⟩) ?_
          refine SOps.nil ?_
          refine SCode.seq ?_
          refine SCode.seq ?_
          refine SCode.region (show SOps _ _ _ [0, 1, 2, 3] _ _ from ?_)
          refine SOps.q rfl (.plain rfl) rfl (q_move rfl rfl) ?_
          refine SOps.q rfl (.plain rfl) rfl (q_field_ptr rfl rfl fd37_0) ?_
          refine SOps.q rfl (.plain rfl) rfl (q_load_ptr rfl rfl rfl rfl ty9) ?_
          refine SOps.q rfl (.plain rfl) rfl (q_lookup (mv := (mC cBool)) (d0 := false) (l := o1_22) (s := (a1_grants.getD t27_21.toNat dSGrant).User) rfl rfl rfl rfl mp52 z4 rfl) ?_
          refine SOps.sub (st' := ⟨[(1, .c (.vec a1_grants.length 4 (gL cSGrant dSGrant a1_grants))), (2, .c (.int .i64 a2_action)), (3, .c (.str a3_object)), (4, .c (.int .i64 a4_now)), (11, .c (.mp 0)), (12, .c (.mp 1)), (13, .c (.own 2 o2_23.length)), (15, .c (.ptr 3 0)), (25, .c (.vec a1_grants.length 4 (gL cSGrant dSGrant a1_grants))), (26, .c (.int .i64 (((a1_grants).length : Int)))), (27, .c (.int .i64 t27_21)), (34, .c (.bool ((alook o1_22 ((a1_grants.getD t27_21.toNat dSGrant).User)).getD false)))], [.map c_4.length (kG c_4) (vG (mA 4 cSRole) dSRole c_4), .map o1_22.length (kG o1_22) (vG (mC cBool) false o1_22), .arr 9 1 o2_23.length (gL cStr ByteArray.empty o2_23), .box [.str ((a1_grants.getD t27_21.toNat dSGrant).User), .str ((a1_grants.getD t27_21.toNat dSGrant).Role), .int .i64 ((a1_grants.getD t27_21.toNat dSGrant).Span_From), .int .i64 ((a1_grants.getD t27_21.toNat dSGrant).Span_To)]]⟩) (sub_gen [0, 1, 2, 3] rfl rfl ⟨zc rfl rfl, zc rfl rfl, zc rfl rfl, zc rfl rfl, zc rfl rfl, zc rfl rfl, zc rfl rfl, zc rfl rfl, zc rfl rfl, zc rfl rfl, zc rfl rfl, zc rfl rfl, trivial⟩ ⟨rfl, rfl, oa rfl, ⟨_, rfl, ⟨ii rfl rfl, ii rfl rfl, ii rfl rfl, ii rfl rfl, trivial⟩⟩, trivial⟩) ?_
          refine SOps.nil ?_
          rcases cond_out h with ⟨g40, h⟩ | ⟨g40, h⟩
          · refine SCode.cond_t rfl g40 ?_
            refine SCode.exit ?_
            exact ⟨(o1_22, o2_23), h, sub_gen [0, 1, 2] rfl rfl ⟨zc rfl rfl, zc rfl rfl, zc rfl rfl, zc rfl rfl, zc rfl rfl, zc rfl rfl, zc rfl rfl, zc rfl rfl, zc rfl rfl, zc rfl rfl, trivial⟩ ⟨rfl, rfl, oa rfl, trivial⟩⟩
          refine SCode.cond_f rfl g40 ?_
          refine SCode.skip ?_
          refine SCode.seq ?_
          refine SCode.region (show SOps _ _ _ [0, 1, 2, 3] _ _ from ?_)
          refine SOps.q rfl (.plain rfl) rfl (q_move rfl rfl) ?_
          refine SOps.q rfl (.plain rfl) rfl (q_field_ptr rfl rfl fd37_0) ?_
          refine SOps.q rfl (.plain rfl) rfl (q_load_ptr rfl rfl rfl rfl ty9) ?_
          refine SOps.e rfl (.plain rfl) (e_mapUpdate (mv := (mC cBool)) (d0 := false) (l := o1_22) (s := (a1_grants.getD t27_21.toNat dSGrant).User) (v' := true) rfl rfl rfl rfl rfl rfl rfl mp52) ?_
          refine SOps.sub (st' := ⟨[(1, .c (.vec a1_grants.length 4 (gL cSGrant dSGrant a1_grants))), (2, .c (.int .i64 a2_action)), (3, .c (.str a3_object)), (4, .c (.int .i64 a4_now)), (11, .c (.mp 0)), (12, .c (.mp 1)), (13, .c (.own 2 o2_23.length)), (15, .c (.ptr 3 0)), (25, .c (.vec a1_grants.length 4 (gL cSGrant dSGrant a1_grants))), (26, .c (.int .i64 (((a1_grants).length : Int)))), (27, .c (.int .i64 t27_21))], [.map c_4.length (kG c_4) (vG (mA 4 cSRole) dSRole c_4), .map (aset o1_22 ((a1_grants.getD t27_21.toNat dSGrant).User) true).length (kG (aset o1_22 ((a1_grants.getD t27_21.toNat dSGrant).User) true)) (vG (mC cBool) false (aset o1_22 ((a1_grants.getD t27_21.toNat dSGrant).User) true)), .arr 9 1 o2_23.length (gL cStr ByteArray.empty o2_23), .box [.str ((a1_grants.getD t27_21.toNat dSGrant).User), .str ((a1_grants.getD t27_21.toNat dSGrant).Role), .int .i64 ((a1_grants.getD t27_21.toNat dSGrant).Span_From), .int .i64 ((a1_grants.getD t27_21.toNat dSGrant).Span_To)]]⟩) (sub_gen [0, 1, 2, 3] rfl rfl ⟨zc rfl rfl, zc rfl rfl, zc rfl rfl, zc rfl rfl, zc rfl rfl, zc rfl rfl, zc rfl rfl, zc rfl rfl, zc rfl rfl, zc rfl rfl, zc rfl rfl, trivial⟩ ⟨rfl, rfl, oa rfl, ⟨_, rfl, ⟨ii rfl rfl, ii rfl rfl, ii rfl rfl, ii rfl rfl, trivial⟩⟩, trivial⟩) ?_
          refine SOps.nil ?_
          refine SCode.seq ?_
          obtain ⟨c_41, g42, h⟩ := bind_out h
          try dsimp only at h
          refine SCode.region (show SOps _ _ _ [0, 1, 2, 3, 4, 5, 6, 7] _ _ from ?_)
          refine SOps.q rfl (.plain rfl) rfl (q_move rfl rfl) ?_
          refine SOps.q rfl (.plain rfl) rfl (q_move rfl rfl) ?_
          refine SOps.q rfl (.plain rfl) rfl (q_field_ptr rfl rfl fd37_0) ?_
          refine SOps.q rfl (.plain rfl) rfl (q_load_ptr rfl rfl rfl rfl ty9) ?_
          refine SOps.q rfl (.plain rfl) rfl (q_move rfl rfl) ?_
          refine SOps.q rfl (.plain rfl) rfl (q_move rfl rfl) ?_
          refine SOps.q rfl (.plain rfl) rfl (q_move rfl rfl) ?_
          refine SOps.e rfl (.plain rfl) (e_call (access_allowed_ok F c_4 a1_grants ((a1_grants.getD t27_21.toNat dSGrant).User) a2_action a3_object a4_now c_41 g42) [0] rfl fn30 rfl rfl rfl rfl rfl rfl rfl rfl) ?_
          refine SOps.sub (st' := ⟨[(1, .c (.vec a1_grants.length 4 (gL cSGrant dSGrant a1_grants))), (2, .c (.int .i64 a2_action)), (3, .c (.str a3_object)), (4, .c (.int .i64 a4_now)), (11, .c (.mp 0)), (12, .c (.mp 1)), (13, .c (.own 2 o2_23.length)), (15, .c (.ptr 3 0)), (25, .c (.vec a1_grants.length 4 (gL cSGrant dSGrant a1_grants))), (26, .c (.int .i64 (((a1_grants).length : Int)))), (27, .c (.int .i64 t27_21)), (45, .c (.bool c_41))], [.map c_4.length (kG c_4) (vG (mA 4 cSRole) dSRole c_4), .map (aset o1_22 ((a1_grants.getD t27_21.toNat dSGrant).User) true).length (kG (aset o1_22 ((a1_grants.getD t27_21.toNat dSGrant).User) true)) (vG (mC cBool) false (aset o1_22 ((a1_grants.getD t27_21.toNat dSGrant).User) true)), .arr 9 1 o2_23.length (gL cStr ByteArray.empty o2_23), .box [.str ((a1_grants.getD t27_21.toNat dSGrant).User), .str ((a1_grants.getD t27_21.toNat dSGrant).Role), .int .i64 ((a1_grants.getD t27_21.toNat dSGrant).Span_From), .int .i64 ((a1_grants.getD t27_21.toNat dSGrant).Span_To)]]⟩) (sub_gen [0, 1, 2, 3] rfl rfl ⟨zc rfl rfl, zc rfl rfl, zc rfl rfl, zc rfl rfl, zc rfl rfl, zc rfl rfl, zc rfl rfl, zc rfl rfl, zc rfl rfl, zc rfl rfl, zc rfl rfl, zc rfl rfl, trivial⟩ ⟨rfl, rfl, oa rfl, ⟨_, rfl, ⟨ii rfl rfl, ii rfl rfl, ii rfl rfl, ii rfl rfl, trivial⟩⟩, trivial⟩) ?_
          refine SOps.nil ?_
          rcases cond_out h with ⟨g43, h⟩ | ⟨g43, h⟩
          · refine SCode.cond_t rfl g43 ?_
            obtain ⟨g44, h⟩ := guard_out h
            refine SCode.region (show SOps _ _ _ [0, 1, 2, 3, 4, 5] _ _ from ?_)
            refine SOps.q rfl (.plain rfl) rfl (q_move rfl rfl) ?_
            refine SOps.q rfl (.plain rfl) rfl (q_field_ptr rfl rfl fd37_0) ?_
            refine SOps.q rfl (.plain rfl) rfl (q_load_ptr rfl rfl rfl rfl ty9) ?_
            refine SOps.q rfl (.plain rfl) rfl (q_bsliceL (c := cStr) (d0 := ByteArray.empty) [(a1_grants.getD t27_21.toNat dSGrant).User] rfl rfl sl44 z9 rfl rfl rfl rfl rfl rfl rfl) ?_
            refine SOps.e rfl (.plain rfl) (e_appendL (c := cStr) (d0 := ByteArray.empty) (l := o2_23) (l2 := [(a1_grants.getD t27_21.toNat dSGrant).User]) rfl rfl rfl rfl rfl rfl (.inl rfl) sl44 z9 rfl rfl oneStr g44.1 g44.2) ?_
            refine SOps.q rfl (.plain rfl) rfl (q_assign rfl rfl) ?_
            refine SOps.sub (st' := ⟨[(1, .c (.vec a1_grants.length 4 (gL cSGrant dSGrant a1_grants))), (2, .c (.int .i64 a2_action)), (3, .c (.str a3_object)), (4, .c (.int .i64 a4_now)), (11, .c (.mp 0)), (12, .c (.mp 1)), (13, .c (.own 2 (o2_23 ++ ([(a1_grants.getD t27_21.toNat dSGrant).User])).length)), (25, .c (.vec a1_grants.length 4 (gL cSGrant dSGrant a1_grants))), (26, .c (.int .i64 (((a1_grants).length : Int)))), (27, .c (.int .i64 t27_21))], [.map c_4.length (kG c_4) (vG (mA 4 cSRole) dSRole c_4), .map (aset o1_22 ((a1_grants.getD t27_21.toNat dSGrant).User) true).length (kG (aset o1_22 ((a1_grants.getD t27_21.toNat dSGrant).User) true)) (vG (mC cBool) false (aset o1_22 ((a1_grants.getD t27_21.toNat dSGrant).User) true)), .arr 9 1 (o2_23 ++ ([(a1_grants.getD t27_21.toNat dSGrant).User])).length (gL cStr ByteArray.empty (o2_23 ++ ([(a1_grants.getD t27_21.toNat dSGrant).User])))]⟩) (sub_gen [0, 1, 4] rfl rfl ⟨zc rfl rfl, zc rfl rfl, zc rfl rfl, zc rfl rfl, zc rfl rfl, zc rfl rfl, zc rfl rfl, zc rfl rfl, zc rfl rfl, zc rfl rfl, trivial⟩ ⟨rfl, rfl, oa rfl, trivial⟩) ?_
            refine SOps.nil ?_
            exact ⟨(aset o1_22 ((a1_grants.getD t27_21.toNat dSGrant).User) true, o2_23 ++ ([(a1_grants.getD t27_21.toNat dSGrant).User])), h, sub_gen [0, 1, 2] rfl rfl ⟨zc rfl rfl, zc rfl rfl, zc rfl rfl, zc rfl rfl, zc rfl rfl, zc rfl rfl, zc rfl rfl, zc rfl rfl, zc rfl rfl, zc rfl rfl, trivial⟩ ⟨rfl, rfl, oa rfl, trivial⟩⟩
          refine SCode.cond_f rfl g43 ?_
          refine SCode.skip ?_
          exact ⟨(aset o1_22 ((a1_grants.getD t27_21.toNat dSGrant).User) true, o2_23), h, sub_gen [0, 1, 2] rfl rfl ⟨zc rfl rfl, zc rfl rfl, zc rfl rfl, zc rfl rfl, zc rfl rfl, zc rfl rfl, zc rfl rfl, zc rfl rfl, zc rfl rfl, zc rfl rfl, trivial⟩ ⟨rfl, rfl, oa rfl, trivial⟩⟩
        rintro ⟨o1_36, o2_37⟩ h
        show SCode _ _ _ ⟨[(1, .c (.vec a1_grants.length 4 (gL cSGrant dSGrant a1_grants))), (2, .c (.int .i64 a2_action)), (3, .c (.str a3_object)), (4, .c (.int .i64 a4_now)), (11, .c (.mp 0)), (12, .c (.mp 1)), (13, .c (.own 2 o2_37.length)), (25, .c (.vec a1_grants.length 4 (gL cSGrant dSGrant a1_grants))), (26, .c (.int .i64 (((a1_grants).length : Int)))), (27, .c (.int .i64 t27_21))], [.map c_4.length (kG c_4) (vG (mA 4 cSRole) dSRole c_4), .map o1_36.length (kG o1_36) (vG (mC cBool) false o1_36), .arr 9 1 o2_37.length (gL cStr ByteArray.empty o2_37)]⟩ _
        replace h : access_Users_p38 t27_21 (fun t27_21 o1_22 o2_23 => access_Users_l34 F a1_grants a2_action a3_object a4_now c_4 n_34 t27_21 o1_22 o2_23) o1_36 o2_37 = some r := h
        unfold access_Users_p38 at h
        refine SCode.region (show SOps _ _ _ [0, 1] _ _ from ?_)
        refine SOps.q rfl (.plain rfl) rfl (q_add rfl rfl rfl) ?_
        refine SOps.q rfl (.plain rfl) rfl (q_move rfl rfl) ?_
        refine SOps.sub (st' := ⟨[(1, .c (.vec a1_grants.length 4 (gL cSGrant dSGrant a1_grants))), (2, .c (.int .i64 a2_action)), (3, .c (.str a3_object)), (4, .c (.int .i64 a4_now)), (11, .c (.mp 0)), (12, .c (.mp 1)), (13, .c (.own 2 o2_37.length)), (25, .c (.vec a1_grants.length 4 (gL cSGrant dSGrant a1_grants))), (26, .c (.int .i64 (((a1_grants).length : Int)))), (27, .c (.int .i64 (IntKind.wrap .i64 (t27_21 + 1))))], [.map c_4.length (kG c_4) (vG (mA 4 cSRole) dSRole c_4), .map o1_36.length (kG o1_36) (vG (mC cBool) false o1_36), .arr 9 1 o2_37.length (gL cStr ByteArray.empty o2_37)]⟩) (sub_gen [0, 1, 2] rfl rfl ⟨zc rfl rfl, zc rfl rfl, zc rfl rfl, zc rfl rfl, zc rfl rfl, zc rfl rfl, zc rfl rfl, zc rfl rfl, zc rfl rfl, zc rfl rfl, trivial⟩ ⟨rfl, rfl, oa rfl, trivial⟩) ?_
        refine SOps.nil ?_
        exact ⟨(n_34, (IntKind.wrap .i64 (t27_21 + 1), o1_36, o2_37)), h, Nat.lt_succ_self n_34, sub_gen [0, 1, 2] rfl rfl ⟨zc rfl rfl, zc rfl rfl, zc rfl rfl, zc rfl rfl, zc rfl rfl, zc rfl rfl, zc rfl rfl, zc rfl rfl, zc rfl rfl, zc rfl rfl, trivial⟩ ⟨rfl, rfl, oa rfl, trivial⟩⟩
      refine SCode.cond_f rfl g35 ?_
      refine SCode.exit ?_
      exact ⟨o2_23, h, sub_gen [2] rfl rfl ⟨zc rfl rfl, trivial⟩ ⟨oa rfl, trivial⟩⟩
  rintro o0_6 h
  show SCode _ _ _ ⟨[(13, .c (.own 0 o0_6.length))], [.arr 9 1 o0_6.length (gL cStr ByteArray.empty o0_6)]⟩ _
  replace h : access_Users_p10 F o0_6 = some r := h
  unfold access_Users_p10 at h
  refine SCode.seq ?_
  obtain ⟨c_7, g8, h⟩ := bind_out h
  try dsimp only at h
  obtain ⟨g9, h⟩ := guard_out h
  refine SCode.region (show SOps _ _ _ [0, 1] _ _ from ?_)
  refine SOps.q rfl (.plain rfl) rfl (q_move rfl rfl) ?_
  refine SOps.e rfl (.plain rfl) (e_call (slices_Sort_string_string_ok F o0_6 c_7 g8) [0] rfl fn37 rfl rfl rfl rfl rfl rfl rfl rfl) ?_
  refine SOps.sub (st' := ⟨[(13, .c (.own 0 c_7.length))], [.arr 9 1 c_7.length (gL cStr ByteArray.empty c_7)]⟩) (sub_gen [0] rfl rfl ⟨⟨_, rfl, .inl ⟨rfl, congrArg (Cell.own 0) g9.symm⟩⟩, trivial⟩ ⟨oa rfl, trivial⟩) ?_
  refine SOps.nil ?_
  refine SCode.seq ?_
  refine SCode.region (show SOps _ _ _ [0, 1] _ _ from ?_)
  refine SOps.q rfl (.plain rfl) rfl (q_move rfl rfl) ?_
  refine SOps.q rfl (.plain rfl) rfl (q_assign rfl rfl) ?_
  refine SOps.sub (st' := ⟨[(10, .c (.own 0 c_7.length))], [.arr 9 1 c_7.length (gL cStr ByteArray.empty c_7)]⟩) (sub_gen [0] rfl rfl ⟨zc rfl rfl, trivial⟩ ⟨oa rfl, trivial⟩) ?_
  refine SOps.nil ?_
  refine SCode.ret ?_
  obtain rfl := Option.some.inj h
  exact ⟨⟨[(10, .c (.vec c_7.length 1 (gL cStr ByteArray.empty c_7)))], []⟩, _, sub_gen [] rfl rfl ⟨⟨_, rfl, .inr (.inl ⟨_, _, _, _, _, _, _, rfl, rfl, rfl, Nat.le_refl _, fun _ _ _ _ => rfl, by decide⟩)⟩, trivial⟩ trivial, resA1 (v := .c (.vec c_7.length 1 (gL cStr ByteArray.empty c_7))) rfl rfl, rfl⟩
end Go.Proofs.Ytggfgdohbeoabaa.W
