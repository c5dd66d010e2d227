/- Written by a program of ours (wip/eng/gen.py): the functions compute their models. -/
import Derived.Test.YtjpooimkhkhgkaaFacts
import Derived.Test.YtjpooimkhkhgkaaV6x1
import Derived.Test.YtjpooimkhkhgkaaShelf
namespace Go.Proofs.Ytjpooimkhkhgkaa.W
open Go Go.Proofs Go.Proofs.Ytjpooimkhkhgkaa.E Go.Proofs.Ytjpooimkhkhgkaa.M
set_option linter.unusedVariables false
set_option maxRecDepth 100000 in
set_option maxHeartbeats 8000000 in
theorem compose_determining_1_ok (F : Nat) (a0_purpose : Int) (a1f0 : List SProfile) (a2f0 : Int) (a3f0 : Int) (r : SLead × Bool) (h : compose_determining_1 F a0_purpose a1f0 a2f0 a3f0 = some r) :
    SFun Try.prog 32 [] [.c (.int .i64 a0_purpose), .c (.eptr 1 ((cVec 11 cSProfile dSProfile) a1f0) 0), .c (.eptr 1 ((cInt .i64) a2f0) 0), .c (.eptr 1 ((cInt .i64) a3f0) 0)] (fun x _ => x = .t [.a [.int .i64 r.1.id, .int .i64 r.1.level, .int .i64 r.1.limit], .c (.bool r.2)]) := by
  refine SFun.of (n := 12) Try.func32 rfl rfl rfl ?_
  unfold compose_determining_1 at h
  show SCode _ _ _ ⟨[(0, .c (.int .i64 a0_purpose)), (1, .c (.eptr 1 ((cVec 11 cSProfile dSProfile) a1f0) 0)), (2, .c (.eptr 1 ((cInt .i64) a2f0) 0)), (3, .c (.eptr 1 ((cInt .i64) a3f0) 0))], []⟩ _
  refine SCode.seq ?_
  refine SCode.region (show SOps _ _ _ [0, 1, 2] _ _ from ?_)
  refine SOps.e rfl (.plain rfl) (e_box rfl rfl rfl rfl rfl rfl) ?_
  refine SOps.e rfl (.plain rfl) (e_alloc rfl rfl rfl z55) ?_
  refine SOps.q rfl (.plain rfl) rfl (q_assign rfl rfl) ?_
  refine SOps.sub (st' := ⟨[(1, .c (.eptr 1 ((cVec 11 cSProfile dSProfile) a1f0) 0)), (2, .c (.eptr 1 ((cInt .i64) a2f0) 0)), (3, .c (.eptr 1 ((cInt .i64) a3f0) 0)), (4, .c (.ptr 0 0)), (5, .c (.ptr 1 0))], [.box [.int .i64 a0_purpose], .box [.int .i64 0, .int .i64 0, .int .i64 0]]⟩) (sub_gen [0, 1] rfl rfl ⟨zc rfl rfl, zc rfl rfl, zc rfl rfl, zc rfl rfl, zc rfl rfl, trivial⟩ ⟨⟨_, rfl, ⟨ii rfl rfl, trivial⟩⟩, ⟨_, rfl, ⟨ii rfl rfl, ii rfl rfl, ii rfl rfl, trivial⟩⟩, trivial⟩) ?_
  refine SOps.nil ?_
  refine SCode.seq ?_
  obtain ⟨c_1, g2, h⟩ := bind_out h
  try dsimp only at h
  refine SCode.region (show SOps _ _ _ [0, 1, 2, 3, 4, 5, 6] _ _ from ?_)
  refine SOps.q rfl (.plain rfl) rfl (q_load_eptr rfl rfl ty22) ?_
  refine SOps.sub (st' := ⟨[(1, .c (.eptr 1 ((cVec 11 cSProfile dSProfile) a1f0) 0)), (2, .c (.eptr 1 ((cInt .i64) a2f0) 0)), (3, .c (.eptr 1 ((cInt .i64) a3f0) 0)), (4, .c (.eptr 1 ((cInt .i64) a0_purpose) 0)), (5, .c (.ptr 0 0)), (7, .c (.vec a1f0.length 11 (gL cSProfile dSProfile a1f0)))], [.box [.int .i64 0, .int .i64 0, .int .i64 0]]⟩) (sub_gen [1] rfl rfl ⟨zc rfl rfl, zc rfl rfl, zc rfl rfl, ⟨_, rfl, .inr (.inr (.inr (.inr ⟨_, _, _, _, _, rfl, rfl, rfl, by decide, by decide, boxG [.int .i64 a0_purpose] rfl rfl rfl⟩)))⟩, zc rfl rfl, zc rfl rfl, trivial⟩ ⟨⟨_, rfl, ⟨ii rfl rfl, ii rfl rfl, ii rfl rfl, trivial⟩⟩, trivial⟩) ?_
  refine SOps.q rfl (.plain rfl) rfl (q_makeFunc (cs := [.eptr 1 ((cInt .i64) a0_purpose) 0, .eptr 1 ((cInt .i64) a2f0) 0, .eptr 1 ((cInt .i64) a3f0) 0]) rfl rfl rfl) ?_
  refine SOps.q rfl (.plain rfl) rfl (q_call (compose_leading_f1_34_ok F a1f0 a0_purpose a2f0 a3f0 c_1 g2) [] rfl fn33 ⟨⟨_, rfl, .inl ⟨rfl, rfl⟩⟩, ⟨_, rfl, .inl ⟨rfl, rfl⟩⟩, trivial⟩ (.inl rfl)) ?_
  refine SOps.q rfl (.plain rfl) rfl (q_extract rfl rfl rfl) ?_
  refine SOps.q rfl (.plain rfl) rfl (q_extract rfl rfl rfl) ?_
  refine SOps.e rfl (.plain rfl) (e_store_box rfl rfl rfl rfl rfl ty55 rfl rfl rfl rfl) ?_
  refine SOps.q rfl (.plain rfl) rfl (q_assign rfl rfl) ?_
  refine SOps.sub (st' := ⟨[(5, .c (.ptr 0 0)), (6, .c (.bool c_1.2))], [.box [.int .i64 c_1.1.id, .int .i64 c_1.1.level, .int .i64 c_1.1.limit]]⟩) (sub_gen [0] rfl rfl ⟨zc rfl rfl, zc rfl rfl, trivial⟩ ⟨⟨_, rfl, ⟨ii rfl rfl, ii rfl rfl, ii rfl rfl, trivial⟩⟩, trivial⟩) ?_
  refine SOps.nil ?_
  refine SCode.ret ?_
  obtain rfl := Option.some.inj h
  exact ⟨⟨[(5, .c (.ptr 0 0)), (6, .c (.bool c_1.2))], [.box [.int .i64 c_1.1.id, .int .i64 c_1.1.level, .int .i64 c_1.1.limit]]⟩, _, sub_gen [0] rfl rfl ⟨zc rfl rfl, zc rfl rfl, trivial⟩ ⟨⟨_, rfl, ⟨ii rfl rfl, ii rfl rfl, ii rfl rfl, trivial⟩⟩, trivial⟩, resA2 (v1 := .a [.int .i64 c_1.1.id, .int .i64 c_1.1.level, .int .i64 c_1.1.limit]) (v2 := .c (.bool c_1.2)) rfl ⟨_, rfl, rfl, ty55⟩ rfl, rfl⟩
set_option maxRecDepth 100000 in
set_option maxHeartbeats 8000000 in
theorem compose_determining_ok (F : Nat) (a0_l : List SProfile) (a1_start : Int) (a2_t : Int) (r : SLead × Bool) (h : compose_determining F a0_l a1_start a2_t = some r) :
    SFun Try.prog 24 [] [.c (.vec a0_l.length 11 (gL cSProfile dSProfile a0_l)), .c (.int .i64 a1_start), .c (.int .i64 a2_t)] (fun x _ => x = .t [.a [.int .i64 r.1.id, .int .i64 r.1.level, .int .i64 r.1.limit], .c (.bool r.2)]) := by
  refine SFun.of (n := 46) Try.func24 rfl rfl rfl ?_
  unfold compose_determining at h
  show SCode _ _ _ ⟨[(0, .c (.vec a0_l.length 11 (gL cSProfile dSProfile a0_l))), (1, .c (.int .i64 a1_start)), (2, .c (.int .i64 a2_t))], []⟩ _
  refine SCode.seq ?_
  refine SCode.region (show SOps _ _ _ [0, 1, 2, 3, 4] _ _ from ?_)
  refine SOps.e rfl (.plain rfl) (e_box rfl rfl rfl rfl rfl rfl) ?_
  refine SOps.e rfl (.plain rfl) (e_box rfl rfl rfl rfl rfl rfl) ?_
  refine SOps.e rfl (.plain rfl) (e_box rfl rfl rfl rfl rfl rfl) ?_
  refine SOps.e rfl (.plain rfl) (e_alloc rfl rfl rfl z55) ?_
  refine SOps.q rfl (.plain rfl) rfl (q_assign rfl rfl) ?_
  refine SOps.sub (st' := ⟨[(3, .c (.ptr 0 0)), (4, .c (.ptr 1 0)), (5, .c (.ptr 2 0)), (6, .c (.ptr 3 0))], [.box [.vec a0_l.length 11 (gL cSProfile dSProfile a0_l)], .box [.int .i64 a1_start], .box [.int .i64 a2_t], .box [.int .i64 0, .int .i64 0, .int .i64 0]]⟩) (sub_gen [0, 1, 2, 3] rfl rfl ⟨zc rfl rfl, zc rfl rfl, zc rfl rfl, zc rfl rfl, trivial⟩ ⟨⟨_, rfl, ⟨ii rfl rfl, trivial⟩⟩, ⟨_, rfl, ⟨ii rfl rfl, trivial⟩⟩, ⟨_, rfl, ⟨ii rfl rfl, trivial⟩⟩, ⟨_, rfl, ⟨ii rfl rfl, ii rfl rfl, ii rfl rfl, trivial⟩⟩, trivial⟩) ?_
  refine SOps.nil ?_
  refine SCode.seq ?_
  refine SCode.region (show SOps _ _ _ [0, 1] _ _ from ?_)
  refine SOps.sub (st' := ⟨[(3, .c (.eptr 1 ((cVec 11 cSProfile dSProfile) a0_l) 0)), (4, .c (.eptr 1 ((cInt .i64) a1_start) 0)), (5, .c (.eptr 1 ((cInt .i64) a2_t) 0)), (6, .c (.ptr 0 0))], [.box [.int .i64 0, .int .i64 0, .int .i64 0]]⟩) (sub_gen [3] rfl rfl ⟨⟨_, rfl, .inr (.inr (.inr (.inr ⟨_, _, _, _, _, rfl, rfl, rfl, by decide, by decide, boxG [.vec a0_l.length 11 (gL cSProfile dSProfile a0_l)] rfl rfl rfl⟩)))⟩, ⟨_, rfl, .inr (.inr (.inr (.inr ⟨_, _, _, _, _, rfl, rfl, rfl, by decide, by decide, boxG [.int .i64 a1_start] rfl rfl rfl⟩)))⟩, ⟨_, rfl, .inr (.inr (.inr (.inr ⟨_, _, _, _, _, rfl, rfl, rfl, by decide, by decide, boxG [.int .i64 a2_t] rfl rfl rfl⟩)))⟩, zc rfl rfl, trivial⟩ ⟨⟨_, rfl, ⟨ii rfl rfl, ii rfl rfl, ii rfl rfl, trivial⟩⟩, trivial⟩) ?_
  refine SOps.q rfl (.plain rfl) rfl (q_makeFunc (cs := [.eptr 1 ((cVec 11 cSProfile dSProfile) a0_l) 0, .eptr 1 ((cInt .i64) a1_start) 0, .eptr 1 ((cInt .i64) a2_t) 0]) rfl rfl rfl) ?_
  refine SOps.q rfl (.plain rfl) rfl (q_assign rfl rfl) ?_
  refine SOps.sub (st' := ⟨[(6, .c (.ptr 0 0)), (8, .c (.fn 32 3 (cellsG [.eptr 1 ((cVec 11 cSProfile dSProfile) a0_l) 0, .eptr 1 ((cInt .i64) a1_start) 0, .eptr 1 ((cInt .i64) a2_t) 0])))], [.box [.int .i64 0, .int .i64 0, .int .i64 0]]⟩) (sub_gen [0] rfl rfl ⟨zc rfl rfl, zc rfl rfl, trivial⟩ ⟨⟨_, rfl, ⟨ii rfl rfl, ii rfl rfl, ii rfl rfl, trivial⟩⟩, trivial⟩) ?_
  refine SOps.nil ?_
  refine SCode.seq ?_
  obtain ⟨c_1, g2, h⟩ := bind_out h
  try dsimp only at h
  refine SCode.region (show SOps _ _ _ [0, 1, 2, 3, 4, 5, 6, 7] _ _ from ?_)
  refine SOps.q rfl (.plain rfl) rfl (q_move rfl rfl) ?_
  refine SOps.q rfl (.plain rfl) rfl (q_callv (cs := [.eptr 1 ((cVec 11 cSProfile dSProfile) a0_l) 0, .eptr 1 ((cInt .i64) a1_start) 0, .eptr 1 ((cInt .i64) a2_t) 0]) (compose_determining_1_ok F 3 a0_l a1_start a2_t c_1 g2) [] rfl rfl fn32 ⟨⟨_, rfl, .inl ⟨rfl, rfl⟩⟩, ⟨_, rfl, .inl ⟨rfl, rfl⟩⟩, ⟨_, rfl, .inl ⟨rfl, rfl⟩⟩, ⟨_, rfl, .inl ⟨rfl, rfl⟩⟩, trivial⟩ (.inl rfl)) ?_
  refine SOps.q rfl (.plain rfl) rfl (q_move rfl rfl) ?_
  refine SOps.q rfl (.plain rfl) rfl (q_extract rfl rfl rfl) ?_
  refine SOps.q rfl (.plain rfl) rfl (q_extract rfl rfl rfl) ?_
  refine SOps.e rfl (.plain rfl) (e_alloc rfl rfl rfl z55) ?_
  refine SOps.e rfl (.plain rfl) (e_store_box rfl rfl rfl rfl rfl ty55 rfl rfl rfl rfl) ?_
  refine SOps.q rfl (.plain rfl) rfl (q_assign rfl rfl) ?_
  refine SOps.sub (st' := ⟨[(6, .c (.ptr 0 0)), (8, .c (.fn 32 3 (cellsG [.eptr 1 ((cVec 11 cSProfile dSProfile) a0_l) 0, .eptr 1 ((cInt .i64) a1_start) 0, .eptr 1 ((cInt .i64) a2_t) 0]))), (9, .c (.ptr 1 0)), (10, .c (.bool c_1.2))], [.box [.int .i64 0, .int .i64 0, .int .i64 0], .box [.int .i64 c_1.1.id, .int .i64 c_1.1.level, .int .i64 c_1.1.limit]]⟩) (sub_gen [0, 1] rfl rfl ⟨zc rfl rfl, zc rfl rfl, zc rfl rfl, zc rfl rfl, trivial⟩ ⟨⟨_, rfl, ⟨ii rfl rfl, ii rfl rfl, ii rfl rfl, trivial⟩⟩, ⟨_, rfl, ⟨ii rfl rfl, ii rfl rfl, ii rfl rfl, trivial⟩⟩, trivial⟩) ?_
  refine SOps.nil ?_
  refine SCode.join (σ := Bool × Int × Int × Int) (S := fun s => ⟨[(6, .c (.ptr 0 0)), (8, .c (.fn 32 3 (cellsG [.eptr 1 ((cVec 11 cSProfile dSProfile) a0_l) 0, .eptr 1 ((cInt .i64) a1_start) 0, .eptr 1 ((cInt .i64) a2_t) 0]))), (9, .c (.ptr 1 0)), (10, .c (.bool s.1))], [.box [.int .i64 0, .int .i64 0, .int .i64 0], .box [.int .i64 s.2.1, .int .i64 s.2.2.1, .int .i64 s.2.2.2]]⟩) (g := fun s => compose_determining_p13 F a0_l a1_start a2_t s.1 s.2.1 s.2.2.1 s.2.2.2 = some r) ?_ ?_
  rotate_left
  · refine SCode.seq ?_
    refine SCode.region (show SOps _ _ _ [0, 1] _ _ from ?_)
    refine SOps.q rfl (.plain rfl) rfl (q_move rfl rfl) ?_
    refine SOps.q rfl (.plain rfl) rfl (q_not rfl rfl) ?_
    refine SOps.sub (st' := ⟨[(6, .c (.ptr 0 0)), (8, .c (.fn 32 3 (cellsG [.eptr 1 ((cVec 11 cSProfile dSProfile) a0_l) 0, .eptr 1 ((cInt .i64) a1_start) 0, .eptr 1 ((cInt .i64) a2_t) 0]))), (9, .c (.ptr 1 0)), (10, .c (.bool c_1.2)), (20, .c (.bool ((!c_1.2))))], [.box [.int .i64 0, .int .i64 0, .int .i64 0], .box [.int .i64 c_1.1.id, .int .i64 c_1.1.level, .int .i64 c_1.1.limit]]⟩) (sub_gen [0, 1] rfl rfl ⟨zc rfl rfl, zc rfl rfl, zc rfl rfl, zc rfl rfl, zc rfl rfl, trivial⟩ ⟨⟨_, rfl, ⟨ii rfl rfl, ii rfl rfl, ii rfl rfl, trivial⟩⟩, ⟨_, rfl, ⟨ii rfl rfl, ii rfl rfl, ii rfl rfl, trivial⟩⟩, trivial⟩) ?_
    refine SOps.nil ?_
    rcases cond_out h with ⟨g14, h⟩ | ⟨g14, h⟩
    · refine SCode.cond_t rfl g14 ?_
      obtain ⟨c_15, g16, h⟩ := bind_out h
      try dsimp only at h
      refine SCode.region (show SOps _ _ _ [0, 1, 2, 3, 4, 5, 6] _ _ from ?_)
      refine SOps.q rfl (.plain rfl) rfl (q_move rfl rfl) ?_
      refine SOps.q rfl (.plain rfl) rfl (q_callv (cs := [.eptr 1 ((cVec 11 cSProfile dSProfile) a0_l) 0, .eptr 1 ((cInt .i64) a1_start) 0, .eptr 1 ((cInt .i64) a2_t) 0]) (compose_determining_1_ok F 2 a0_l a1_start a2_t c_15 g16) [] rfl rfl fn32 ⟨⟨_, rfl, .inl ⟨rfl, rfl⟩⟩, ⟨_, rfl, .inl ⟨rfl, rfl⟩⟩, ⟨_, rfl, .inl ⟨rfl, rfl⟩⟩, ⟨_, rfl, .inl ⟨rfl, rfl⟩⟩, trivial⟩ (.inl rfl)) ?_
      refine SOps.q rfl (.plain rfl) rfl (q_move rfl rfl) ?_
      refine SOps.q rfl (.plain rfl) rfl (q_extract rfl rfl rfl) ?_
      refine SOps.q rfl (.plain rfl) rfl (q_extract rfl rfl rfl) ?_
      refine SOps.e rfl (.plain rfl) (e_store_box rfl rfl rfl rfl rfl ty55 rfl rfl rfl rfl) ?_
      refine SOps.q rfl (.plain rfl) rfl (q_assign rfl rfl) ?_
      refine SOps.sub (st' := ⟨[(6, .c (.ptr 0 0)), (8, .c (.fn 32 3 (cellsG [.eptr 1 ((cVec 11 cSProfile dSProfile) a0_l) 0, .eptr 1 ((cInt .i64) a1_start) 0, .eptr 1 ((cInt .i64) a2_t) 0]))), (9, .c (.ptr 1 0)), (10, .c (.bool c_15.2))], [.box [.int .i64 0, .int .i64 0, .int .i64 0], .box [.int .i64 c_15.1.id, .int .i64 c_15.1.level, .int .i64 c_15.1.limit]]⟩) (sub_gen [0, 1] rfl rfl ⟨zc rfl rfl, zc rfl rfl, zc rfl rfl, zc rfl rfl, trivial⟩ ⟨⟨_, rfl, ⟨ii rfl rfl, ii rfl rfl, ii rfl rfl, trivial⟩⟩, ⟨_, rfl, ⟨ii rfl rfl, ii rfl rfl, ii rfl rfl, trivial⟩⟩, trivial⟩) ?_
      refine SOps.nil ?_
      exact ⟨(c_15.2, c_15.1.id, c_15.1.level, c_15.1.limit), h, sub_gen [0, 1] rfl rfl ⟨zc rfl rfl, zc rfl rfl, zc rfl rfl, zc rfl rfl, trivial⟩ ⟨⟨_, rfl, ⟨ii rfl rfl, ii rfl rfl, ii rfl rfl, trivial⟩⟩, ⟨_, rfl, ⟨ii rfl rfl, ii rfl rfl, ii rfl rfl, trivial⟩⟩, trivial⟩⟩
    refine SCode.cond_f rfl g14 ?_
    refine SCode.skip ?_
    exact ⟨(c_1.2, c_1.1.id, c_1.1.level, c_1.1.limit), h, sub_gen [0, 1] rfl rfl ⟨zc rfl rfl, zc rfl rfl, zc rfl rfl, zc rfl rfl, trivial⟩ ⟨⟨_, rfl, ⟨ii rfl rfl, ii rfl rfl, ii rfl rfl, trivial⟩⟩, ⟨_, rfl, ⟨ii rfl rfl, ii rfl rfl, ii rfl rfl, trivial⟩⟩, trivial⟩⟩
  rintro ⟨held_3, b1_4, b1_5, b1_6⟩ h
  show SCode _ _ _ ⟨[(6, .c (.ptr 0 0)), (8, .c (.fn 32 3 (cellsG [.eptr 1 ((cVec 11 cSProfile dSProfile) a0_l) 0, .eptr 1 ((cInt .i64) a1_start) 0, .eptr 1 ((cInt .i64) a2_t) 0]))), (9, .c (.ptr 1 0)), (10, .c (.bool held_3))], [.box [.int .i64 0, .int .i64 0, .int .i64 0], .box [.int .i64 b1_4, .int .i64 b1_5, .int .i64 b1_6]]⟩ _
  replace h : compose_determining_p13 F a0_l a1_start a2_t held_3 b1_4 b1_5 b1_6 = some r := h
  unfold compose_determining_p13 at h
  refine SCode.seq ?_
  obtain ⟨c_7, g8, h⟩ := bind_out h
  try dsimp only at h
  refine SCode.region (show SOps _ _ _ [0, 1, 2, 3, 4, 5, 6, 7] _ _ from ?_)
  refine SOps.q rfl (.plain rfl) rfl (q_move rfl rfl) ?_
  refine SOps.q rfl (.plain rfl) rfl (q_callv (cs := [.eptr 1 ((cVec 11 cSProfile dSProfile) a0_l) 0, .eptr 1 ((cInt .i64) a1_start) 0, .eptr 1 ((cInt .i64) a2_t) 0]) (compose_determining_1_ok F 1 a0_l a1_start a2_t c_7 g8) [] rfl rfl fn32 ⟨⟨_, rfl, .inl ⟨rfl, rfl⟩⟩, ⟨_, rfl, .inl ⟨rfl, rfl⟩⟩, ⟨_, rfl, .inl ⟨rfl, rfl⟩⟩, ⟨_, rfl, .inl ⟨rfl, rfl⟩⟩, trivial⟩ (.inl rfl)) ?_
  refine SOps.q rfl (.plain rfl) rfl (q_move rfl rfl) ?_
  refine SOps.q rfl (.plain rfl) rfl (q_extract rfl rfl rfl) ?_
  refine SOps.q rfl (.plain rfl) rfl (q_extract rfl rfl rfl) ?_
  refine SOps.e rfl (.plain rfl) (e_alloc rfl rfl rfl z55) ?_
  refine SOps.e rfl (.plain rfl) (e_store_box rfl rfl rfl rfl rfl ty55 rfl rfl rfl rfl) ?_
  refine SOps.q rfl (.plain rfl) rfl (q_assign rfl rfl) ?_
  refine SOps.sub (st' := ⟨[(6, .c (.ptr 0 0)), (9, .c (.ptr 1 0)), (10, .c (.bool held_3)), (11, .c (.ptr 2 0)), (12, .c (.bool c_7.2))], [.box [.int .i64 0, .int .i64 0, .int .i64 0], .box [.int .i64 b1_4, .int .i64 b1_5, .int .i64 b1_6], .box [.int .i64 c_7.1.id, .int .i64 c_7.1.level, .int .i64 c_7.1.limit]]⟩) (sub_gen [0, 1, 2] rfl rfl ⟨zc rfl rfl, zc rfl rfl, zc rfl rfl, zc rfl rfl, zc rfl rfl, trivial⟩ ⟨⟨_, rfl, ⟨ii rfl rfl, ii rfl rfl, ii rfl rfl, trivial⟩⟩, ⟨_, rfl, ⟨ii rfl rfl, ii rfl rfl, ii rfl rfl, trivial⟩⟩, ⟨_, rfl, ⟨ii rfl rfl, ii rfl rfl, ii rfl rfl, trivial⟩⟩, trivial⟩) ?_
  refine SOps.nil ?_
  refine SCode.join (σ := Unit) (S := fun s => ⟨[(6, .c (.ptr 0 0)), (9, .c (.ptr 1 0)), (10, .c (.bool held_3))], [.box [.int .i64 0, .int .i64 0, .int .i64 0], .box [.int .i64 b1_4, .int .i64 b1_5, .int .i64 b1_6]]⟩) (g := fun s => compose_determining_p9 held_3 b1_4 b1_5 b1_6 = some r) ?_ ?_
  rotate_left
  · refine SCode.seq ?_
    rcases cond_out h with ⟨g10, h⟩ | ⟨g10, h⟩
    · rcases cond_out h with ⟨g11, h⟩ | ⟨g11, h⟩
      · refine SCode.region (show SOps _ _ _ [0, 1, 2, 3, 4, 5, 6, 7, 8, 9, 10, 11] _ _ from ?_)
        refine SOps.q rfl (.plain rfl) rfl (q_move rfl rfl) ?_
        refine SOps.q rfl (.plain rfl) rfl (q_move rfl rfl) ?_
        refine SOps.q rfl (.guard 1 32 true rfl rfl (gT g10)) rfl (q_move rfl rfl) ?_
        refine SOps.q rfl (.guard 1 32 true rfl rfl (gT g10)) rfl (q_not rfl rfl) ?_
        refine SOps.q rfl (.guard 1 32 true rfl rfl (gT g10)) rfl (q_move rfl rfl) ?_
        refine SOps.skip rfl 4 35 false rfl rfl (.inl (gT g11)) rfl ?_
        refine SOps.skip rfl 4 35 false rfl rfl (.inl (gT g11)) rfl ?_
        refine SOps.skip rfl 4 35 false rfl rfl (.inl (gT g11)) rfl ?_
        refine SOps.skip rfl 4 35 false rfl rfl (.inl (gT g11)) rfl ?_
        refine SOps.skip rfl 4 35 false rfl rfl (.inl (gT g11)) rfl ?_
        refine SOps.q rfl (.guard 1 32 true rfl rfl (gT g10)) rfl (q_pick_t rfl rfl g11 rfl) ?_
        refine SOps.q rfl (.plain rfl) rfl (q_pick_t rfl rfl g10 rfl) ?_
        refine SOps.sub (st' := ⟨[(6, .c (.ptr 0 0)), (9, .c (.ptr 1 0)), (10, .c (.bool held_3)), (11, .c (.ptr 2 0)), (42, .c (.bool true))], [.box [.int .i64 0, .int .i64 0, .int .i64 0], .box [.int .i64 b1_4, .int .i64 b1_5, .int .i64 b1_6], .box [.int .i64 c_7.1.id, .int .i64 c_7.1.level, .int .i64 c_7.1.limit]]⟩) (sub_gen [0, 1, 2] rfl rfl ⟨zc rfl rfl, zc rfl rfl, zc rfl rfl, zc rfl rfl, zc rfl rfl, trivial⟩ ⟨⟨_, rfl, ⟨ii rfl rfl, ii rfl rfl, ii rfl rfl, trivial⟩⟩, ⟨_, rfl, ⟨ii rfl rfl, ii rfl rfl, ii rfl rfl, trivial⟩⟩, ⟨_, rfl, ⟨ii rfl rfl, ii rfl rfl, ii rfl rfl, trivial⟩⟩, trivial⟩) ?_
        refine SOps.nil ?_
        refine SCode.cond_t rfl rfl ?_
        refine SCode.seq ?_
        refine SCode.region (show SOps _ _ _ [0, 1, 2] _ _ from ?_)
        refine SOps.q rfl (.plain rfl) rfl (q_load_ptr_all rfl rfl rfl rfl rfl ty55) ?_
        refine SOps.e rfl (.plain rfl) (e_store_box rfl rfl rfl rfl rfl ty55 rfl rfl rfl rfl) ?_
        refine SOps.q rfl (.plain rfl) rfl (q_assign rfl rfl) ?_
        refine SOps.sub (st' := ⟨[(6, .c (.ptr 0 0)), (7, .c (.bool true))], [.box [.int .i64 c_7.1.id, .int .i64 c_7.1.level, .int .i64 c_7.1.limit]]⟩) (sub_gen [0] rfl rfl ⟨zc rfl rfl, zc rfl rfl, trivial⟩ ⟨⟨_, rfl, ⟨ii rfl rfl, ii rfl rfl, ii rfl rfl, trivial⟩⟩, trivial⟩) ?_
        refine SOps.nil ?_
        refine SCode.ret ?_
        obtain rfl := Option.some.inj h
        exact ⟨⟨[(6, .c (.ptr 0 0)), (7, .c (.bool true))], [.box [.int .i64 c_7.1.id, .int .i64 c_7.1.level, .int .i64 c_7.1.limit]]⟩, _, sub_gen [0] rfl rfl ⟨zc rfl rfl, zc rfl rfl, trivial⟩ ⟨⟨_, rfl, ⟨ii rfl rfl, ii rfl rfl, ii rfl rfl, trivial⟩⟩, trivial⟩, resA2 (v1 := .a [.int .i64 c_7.1.id, .int .i64 c_7.1.level, .int .i64 c_7.1.limit]) (v2 := .c (.bool true)) rfl ⟨_, rfl, rfl, ty55⟩ rfl, rfl⟩
      refine SCode.region (show SOps _ _ _ [0, 1, 2, 3, 4, 5, 6, 7, 8, 9, 10, 11] _ _ from ?_)
      refine SOps.q rfl (.plain rfl) rfl (q_move rfl rfl) ?_
      refine SOps.q rfl (.plain rfl) rfl (q_move rfl rfl) ?_
      refine SOps.q rfl (.guard 1 32 true rfl rfl (gT g10)) rfl (q_move rfl rfl) ?_
      refine SOps.q rfl (.guard 1 32 true rfl rfl (gT g10)) rfl (q_not rfl rfl) ?_
      refine SOps.q rfl (.guard 1 32 true rfl rfl (gT g10)) rfl (q_move rfl rfl) ?_
      refine SOps.q rfl (.guard 4 35 false rfl rfl (gF g11)) rfl (q_field_ptr rfl rfl fd55_2) ?_
      refine SOps.q rfl (.guard 4 35 false rfl rfl (gF g11)) rfl (q_load_ptr rfl rfl rfl rfl ty3) ?_
      refine SOps.q rfl (.guard 4 35 false rfl rfl (gF g11)) rfl (q_field_ptr rfl rfl fd55_2) ?_
      refine SOps.q rfl (.guard 4 35 false rfl rfl (gF g11)) rfl (q_load_ptr rfl rfl rfl rfl ty3) ?_
      refine SOps.q rfl (.guard 4 35 false rfl rfl (gF g11)) rfl (q_leq rfl rfl rfl) ?_
      refine SOps.q rfl (.guard 1 32 true rfl rfl (gT g10)) rfl (q_pick_f rfl rfl g11 rfl) ?_
      refine SOps.q rfl (.plain rfl) rfl (q_pick_t rfl rfl g10 rfl) ?_
      refine SOps.sub (st' := ⟨[(6, .c (.ptr 0 0)), (9, .c (.ptr 1 0)), (10, .c (.bool held_3)), (11, .c (.ptr 2 0)), (42, .c (.bool (decide (c_7.1.limit ≤ b1_6))))], [.box [.int .i64 0, .int .i64 0, .int .i64 0], .box [.int .i64 b1_4, .int .i64 b1_5, .int .i64 b1_6], .box [.int .i64 c_7.1.id, .int .i64 c_7.1.level, .int .i64 c_7.1.limit]]⟩) (sub_gen [0, 1, 2] rfl rfl ⟨zc rfl rfl, zc rfl rfl, zc rfl rfl, zc rfl rfl, zc rfl rfl, trivial⟩ ⟨⟨_, rfl, ⟨ii rfl rfl, ii rfl rfl, ii rfl rfl, trivial⟩⟩, ⟨_, rfl, ⟨ii rfl rfl, ii rfl rfl, ii rfl rfl, trivial⟩⟩, ⟨_, rfl, ⟨ii rfl rfl, ii rfl rfl, ii rfl rfl, trivial⟩⟩, trivial⟩) ?_
      refine SOps.nil ?_
      rcases cond_out h with ⟨g12, h⟩ | ⟨g12, h⟩
      · refine SCode.cond_t rfl g12 ?_
        refine SCode.seq ?_
        refine SCode.region (show SOps _ _ _ [0, 1, 2] _ _ from ?_)
        refine SOps.q rfl (.plain rfl) rfl (q_load_ptr_all rfl rfl rfl rfl rfl ty55) ?_
        refine SOps.e rfl (.plain rfl) (e_store_box rfl rfl rfl rfl rfl ty55 rfl rfl rfl rfl) ?_
        refine SOps.q rfl (.plain rfl) rfl (q_assign rfl rfl) ?_
        refine SOps.sub (st' := ⟨[(6, .c (.ptr 0 0)), (7, .c (.bool true))], [.box [.int .i64 c_7.1.id, .int .i64 c_7.1.level, .int .i64 c_7.1.limit]]⟩) (sub_gen [0] rfl rfl ⟨zc rfl rfl, zc rfl rfl, trivial⟩ ⟨⟨_, rfl, ⟨ii rfl rfl, ii rfl rfl, ii rfl rfl, trivial⟩⟩, trivial⟩) ?_
        refine SOps.nil ?_
        refine SCode.ret ?_
        obtain rfl := Option.some.inj h
        exact ⟨⟨[(6, .c (.ptr 0 0)), (7, .c (.bool true))], [.box [.int .i64 c_7.1.id, .int .i64 c_7.1.level, .int .i64 c_7.1.limit]]⟩, _, sub_gen [0] rfl rfl ⟨zc rfl rfl, zc rfl rfl, trivial⟩ ⟨⟨_, rfl, ⟨ii rfl rfl, ii rfl rfl, ii rfl rfl, trivial⟩⟩, trivial⟩, resA2 (v1 := .a [.int .i64 c_7.1.id, .int .i64 c_7.1.level, .int .i64 c_7.1.limit]) (v2 := .c (.bool true)) rfl ⟨_, rfl, rfl, ty55⟩ rfl, rfl⟩
      refine SCode.cond_f rfl g12 ?_
      refine SCode.skip ?_
      exact ⟨(), h, sub_gen [0, 1] rfl rfl ⟨zc rfl rfl, zc rfl rfl, zc rfl rfl, trivial⟩ ⟨⟨_, rfl, ⟨ii rfl rfl, ii rfl rfl, ii rfl rfl, trivial⟩⟩, ⟨_, rfl, ⟨ii rfl rfl, ii rfl rfl, ii rfl rfl, trivial⟩⟩, trivial⟩⟩
    refine SCode.region (show SOps _ _ _ [0, 1, 2, 3, 4, 5, 6, 7, 8, 9, 10, 11] _ _ from ?_)
    refine SOps.q rfl (.plain rfl) rfl (q_move rfl rfl) ?_
    refine SOps.q rfl (.plain rfl) rfl (q_move rfl rfl) ?_
    refine SOps.skip rfl 1 32 true rfl rfl (.inl (gF g10)) rfl ?_
    refine SOps.skip rfl 1 32 true rfl rfl (.inl (gF g10)) rfl ?_
    refine SOps.skip rfl 1 32 true rfl rfl (.inl (gF g10)) rfl ?_
    refine SOps.skip rfl 4 35 false rfl rfl (.inr rfl) rfl ?_
    refine SOps.skip rfl 4 35 false rfl rfl (.inr rfl) rfl ?_
    refine SOps.skip rfl 4 35 false rfl rfl (.inr rfl) rfl ?_
    refine SOps.skip rfl 4 35 false rfl rfl (.inr rfl) rfl ?_
    refine SOps.skip rfl 4 35 false rfl rfl (.inr rfl) rfl ?_
    refine SOps.skip rfl 1 32 true rfl rfl (.inl (gF g10)) rfl ?_
    refine SOps.q rfl (.plain rfl) rfl (q_pick_f rfl rfl g10 rfl) ?_
    refine SOps.sub (st' := ⟨[(6, .c (.ptr 0 0)), (9, .c (.ptr 1 0)), (10, .c (.bool held_3)), (11, .c (.ptr 2 0)), (42, .c (.bool false))], [.box [.int .i64 0, .int .i64 0, .int .i64 0], .box [.int .i64 b1_4, .int .i64 b1_5, .int .i64 b1_6], .box [.int .i64 c_7.1.id, .int .i64 c_7.1.level, .int .i64 c_7.1.limit]]⟩) (sub_gen [0, 1, 2] rfl rfl ⟨zc rfl rfl, zc rfl rfl, zc rfl rfl, zc rfl rfl, zc rfl rfl, trivial⟩ ⟨⟨_, rfl, ⟨ii rfl rfl, ii rfl rfl, ii rfl rfl, trivial⟩⟩, ⟨_, rfl, ⟨ii rfl rfl, ii rfl rfl, ii rfl rfl, trivial⟩⟩, ⟨_, rfl, ⟨ii rfl rfl, ii rfl rfl, ii rfl rfl, trivial⟩⟩, trivial⟩) ?_
    refine SOps.nil ?_
    refine SCode.cond_f rfl rfl ?_
    refine SCode.skip ?_
    exact ⟨(), h, sub_gen [0, 1] rfl rfl ⟨zc rfl rfl, zc rfl rfl, zc rfl rfl, trivial⟩ ⟨⟨_, rfl, ⟨ii rfl rfl, ii rfl rfl, ii rfl rfl, trivial⟩⟩, ⟨_, rfl, ⟨ii rfl rfl, ii rfl rfl, ii rfl rfl, trivial⟩⟩, trivial⟩⟩
  rintro ⟨⟩ h
  show SCode _ _ _ ⟨[(6, .c (.ptr 0 0)), (9, .c (.ptr 1 0)), (10, .c (.bool held_3))], [.box [.int .i64 0, .int .i64 0, .int .i64 0], .box [.int .i64 b1_4, .int .i64 b1_5, .int .i64 b1_6]]⟩ _
  replace h : compose_determining_p9 held_3 b1_4 b1_5 b1_6 = some r := h
  unfold compose_determining_p9 at h
  refine SCode.seq ?_
  refine SCode.region (show SOps _ _ _ [0, 1, 2, 3] _ _ from ?_)
  refine SOps.q rfl (.plain rfl) rfl (q_load_ptr_all rfl rfl rfl rfl rfl ty55) ?_
  refine SOps.q rfl (.plain rfl) rfl (q_move rfl rfl) ?_
  refine SOps.e rfl (.plain rfl) (e_store_box rfl rfl rfl rfl rfl ty55 rfl rfl rfl rfl) ?_
  refine SOps.q rfl (.plain rfl) rfl (q_assign rfl rfl) ?_
  refine SOps.sub (st' := ⟨[(6, .c (.ptr 0 0)), (7, .c (.bool held_3))], [.box [.int .i64 b1_4, .int .i64 b1_5, .int .i64 b1_6]]⟩) (sub_gen [0] rfl rfl ⟨zc rfl rfl, zc rfl rfl, trivial⟩ ⟨⟨_, rfl, ⟨ii rfl rfl, ii rfl rfl, ii rfl rfl, trivial⟩⟩, trivial⟩) ?_
  refine SOps.nil ?_
  refine SCode.ret ?_
  obtain rfl := Option.some.inj h
  exact ⟨⟨[(6, .c (.ptr 0 0)), (7, .c (.bool held_3))], [.box [.int .i64 b1_4, .int .i64 b1_5, .int .i64 b1_6]]⟩, _, sub_gen [0] rfl rfl ⟨zc rfl rfl, zc rfl rfl, trivial⟩ ⟨⟨_, rfl, ⟨ii rfl rfl, ii rfl rfl, ii rfl rfl, trivial⟩⟩, trivial⟩, resA2 (v1 := .a [.int .i64 b1_4, .int .i64 b1_5, .int .i64 b1_6]) (v2 := .c (.bool held_3)) rfl ⟨_, rfl, rfl, ty55⟩ rfl, rfl⟩
set_option maxRecDepth 100000 in
set_option maxHeartbeats 8000000 in
theorem compose_limit_ok (F : Nat) (a0_l : List SProfile) (a1_start : Int) (a2_t : Int) (r : Int) (h : compose_limit F a0_l a1_start a2_t = some r) :
    SFun Try.prog 22 [] [.c (.vec a0_l.length 11 (gL cSProfile dSProfile a0_l)), .c (.int .i64 a1_start), .c (.int .i64 a2_t)] (fun x _ => x = .c (.int .i64 r)) := by
  refine SFun.of (n := 19) Try.func22 rfl rfl rfl ?_
  unfold compose_limit at h
  show SCode _ _ _ ⟨[(0, .c (.vec a0_l.length 11 (gL cSProfile dSProfile a0_l))), (1, .c (.int .i64 a1_start)), (2, .c (.int .i64 a2_t))], []⟩ _
  refine SCode.seq ?_
  refine SCode.region (show SOps _ _ _ [0] _ _ from ?_)
  refine SOps.q rfl (.plain rfl) rfl (q_assign rfl rfl) ?_
  refine SOps.sub (st' := ⟨[(0, .c (.vec a0_l.length 11 (gL cSProfile dSProfile a0_l))), (1, .c (.int .i64 a1_start)), (2, .c (.int .i64 a2_t))], []⟩) (sub_gen [] rfl rfl ⟨zc rfl rfl, zc rfl rfl, zc rfl rfl, trivial⟩ trivial) ?_
  refine SOps.nil ?_
  refine SCode.seq ?_
  refine SCode.seq ?_
  obtain ⟨c_1, g2, h⟩ := bind_out h
  try dsimp only at h
  refine SCode.region (show SOps _ _ _ [0, 1, 2, 3, 4, 5, 6, 7, 8, 9] _ _ from ?_)
  refine SOps.q rfl (.plain rfl) rfl (q_move rfl rfl) ?_
  refine SOps.q rfl (.plain rfl) rfl (q_move rfl rfl) ?_
  refine SOps.q rfl (.plain rfl) rfl (q_move rfl rfl) ?_
  refine SOps.q rfl (.plain rfl) rfl (q_call (compose_determining_ok F a0_l a1_start a2_t c_1 g2) [] rfl fn24 ⟨⟨_, rfl, .inl ⟨rfl, rfl⟩⟩, ⟨_, rfl, .inl ⟨rfl, rfl⟩⟩, ⟨_, rfl, .inl ⟨rfl, rfl⟩⟩, trivial⟩ (.inl rfl)) ?_
  refine SOps.q rfl (.plain rfl) rfl (q_move rfl rfl) ?_
  refine SOps.q rfl (.plain rfl) rfl (q_extract rfl rfl rfl) ?_
  refine SOps.q rfl (.plain rfl) rfl (q_extract rfl rfl rfl) ?_
  refine SOps.e rfl (.plain rfl) (e_alloc rfl rfl rfl z55) ?_
  refine SOps.e rfl (.plain rfl) (e_store_box rfl rfl rfl rfl rfl ty55 rfl rfl rfl rfl) ?_
  refine SOps.q rfl (.plain rfl) rfl (q_assign rfl rfl) ?_
  refine SOps.sub (st' := ⟨[(7, .c (.ptr 0 0)), (8, .c (.bool c_1.2))], [.box [.int .i64 c_1.1.id, .int .i64 c_1.1.level, .int .i64 c_1.1.limit]]⟩) (sub_gen [0] rfl rfl ⟨zc rfl rfl, zc rfl rfl, trivial⟩ ⟨⟨_, rfl, ⟨ii rfl rfl, ii rfl rfl, ii rfl rfl, trivial⟩⟩, trivial⟩) ?_
  refine SOps.nil ?_
  refine SCode.seq ?_
  refine SCode.region (show SOps _ _ _ [0] _ _ from ?_)
  refine SOps.q rfl (.plain rfl) rfl (q_move rfl rfl) ?_
  refine SOps.sub (st' := ⟨[(7, .c (.ptr 0 0)), (16, .c (.bool c_1.2))], [.box [.int .i64 c_1.1.id, .int .i64 c_1.1.level, .int .i64 c_1.1.limit]]⟩) (sub_gen [0] rfl rfl ⟨zc rfl rfl, zc rfl rfl, trivial⟩ ⟨⟨_, rfl, ⟨ii rfl rfl, ii rfl rfl, ii rfl rfl, trivial⟩⟩, trivial⟩) ?_
  refine SOps.nil ?_
  rcases cond_out h with ⟨g3, h⟩ | ⟨g3, h⟩
  · refine SCode.cond_t rfl g3 ?_
    refine SCode.seq ?_
    refine SCode.region (show SOps _ _ _ [0, 1, 2] _ _ from ?_)
    refine SOps.q rfl (.plain rfl) rfl (q_field_ptr rfl rfl fd55_2) ?_
    refine SOps.q rfl (.plain rfl) rfl (q_load_ptr rfl rfl rfl rfl ty3) ?_
    refine SOps.q rfl (.plain rfl) rfl (q_assign rfl rfl) ?_
    refine SOps.sub (st' := ⟨[(6, .c (.int .i64 c_1.1.limit))], []⟩) (sub_gen [] rfl rfl ⟨zc rfl rfl, trivial⟩ trivial) ?_
    refine SOps.nil ?_
    refine SCode.ret ?_
    obtain rfl := Option.some.inj h
    exact ⟨⟨[(6, .c (.int .i64 c_1.1.limit))], []⟩, _, sub_gen [] rfl rfl ⟨zc rfl rfl, trivial⟩ trivial, resA1 (v := .c (.int .i64 c_1.1.limit)) rfl rfl, rfl⟩
  refine SCode.cond_f rfl g3 ?_
  refine SCode.skip ?_
  refine SCode.seq ?_
  refine SCode.region (show SOps _ _ _ [0] _ _ from ?_)
  refine SOps.q rfl (.plain rfl) rfl (q_assign rfl rfl) ?_
  refine SOps.sub (st' := ⟨[(6, .c (.int .i64 1073741824))], []⟩) (sub_gen [] rfl rfl ⟨zc rfl rfl, trivial⟩ trivial) ?_
  refine SOps.nil ?_
  refine SCode.ret ?_
  obtain rfl := Option.some.inj h
  exact ⟨⟨[(6, .c (.int .i64 1073741824))], []⟩, _, sub_gen [] rfl rfl ⟨zc rfl rfl, trivial⟩ trivial, resA1 (v := .c (.int .i64 1073741824)) rfl rfl, rfl⟩
set_option maxRecDepth 100000 in
set_option maxHeartbeats 8000000 in
theorem compose_candidates_ok (F : Nat) (a0_l : List SProfile) (a1_conn : Int) (a2_txn : ByteArray) (r : List SProfile) (h : compose_candidates F a0_l a1_conn a2_txn = some r) :
    SFun Try.prog 23 [] [.c (.vec a0_l.length 11 (gL cSProfile dSProfile a0_l)), .c (.int .i64 a1_conn), .c (.str a2_txn)] (fun x _ => x = .c (.vec r.length 11 (gL cSProfile dSProfile r))) := by
  refine SFun.of (n := 52) Try.func23 rfl rfl rfl ?_
  unfold compose_candidates at h
  show SCode _ _ _ ⟨[(0, .c (.vec a0_l.length 11 (gL cSProfile dSProfile a0_l))), (1, .c (.int .i64 a1_conn)), (2, .c (.str a2_txn))], []⟩ _
  refine SCode.seq ?_
  refine SCode.region (show SOps _ _ _ [0] _ _ from ?_)
  refine SOps.q rfl (.plain rfl) rfl (q_assign rfl rfl) ?_
  refine SOps.sub (st' := ⟨[(0, .c (.vec a0_l.length 11 (gL cSProfile dSProfile a0_l))), (1, .c (.int .i64 a1_conn)), (2, .c (.str a2_txn))], []⟩) (sub_gen [] rfl rfl ⟨zc rfl rfl, zc rfl rfl, zc rfl rfl, trivial⟩ trivial) ?_
  refine SOps.nil ?_
  refine SCode.seq ?_
  refine SCode.region (show SOps _ _ _ [0] _ _ from ?_)
  refine SOps.q rfl (.plain rfl) rfl (q_assign rfl rfl) ?_
  refine SOps.nilArrL (T := 31) (k := 11) cSProfile dSProfile (s := 7) rfl rfl ?_
  refine SOps.sub (st' := ⟨[(0, .c (.vec a0_l.length 11 (gL cSProfile dSProfile a0_l))), (1, .c (.int .i64 a1_conn)), (2, .c (.str a2_txn)), (7, .c (.own 0 (([] : List SProfile)).length))], [.arr 31 11 (([] : List SProfile)).length (gL cSProfile dSProfile (([] : List SProfile)))]⟩) (sub_gen [0] rfl rfl ⟨zc rfl rfl, zc rfl rfl, zc rfl rfl, zc rfl rfl, trivial⟩ ⟨oa rfl, trivial⟩) ?_
  refine SOps.nil ?_
  refine SCode.join (σ := (List SProfile)) (S := fun s => ⟨[(7, .c (.own 0 s.length))], [.arr 31 11 s.length (gL cSProfile dSProfile s)]⟩) (g := fun s => compose_candidates_p2 s = some r) ?_ ?_
  rotate_left
  · refine SCode.seq ?_
    refine SCode.region (show SOps _ _ _ [0, 1, 2] _ _ from ?_)
    refine SOps.q rfl (.plain rfl) rfl (q_move rfl rfl) ?_
    refine SOps.q rfl (.plain rfl) rfl (q_len_vec rfl rfl sl22) ?_
    refine SOps.q rfl (.plain rfl) rfl (q_move rfl rfl) ?_
    refine SOps.sub (st' := ⟨[(1, .c (.int .i64 a1_conn)), (2, .c (.str a2_txn)), (7, .c (.own 0 (([] : List SProfile)).length)), (10, .c (.vec a0_l.length 11 (gL cSProfile dSProfile a0_l))), (11, .c (.int .i64 (((a0_l).length : Int)))), (12, .c (.int .i64 0))], [.arr 31 11 (([] : List SProfile)).length (gL cSProfile dSProfile (([] : List SProfile)))]⟩) (sub_gen [0] rfl rfl ⟨zc rfl rfl, zc rfl rfl, zc rfl rfl, zc rfl rfl, zc rfl rfl, zc rfl rfl, trivial⟩ ⟨oa rfl, trivial⟩) ?_
    refine SOps.nil ?_
    refine SCode.block ?_
    refine SCode.sub (st' := ⟨[(1, .c (.int .i64 a1_conn)), (2, .c (.str a2_txn)), (7, .c (.own 0 ([] : List SProfile).length)), (10, .c (.vec a0_l.length 11 (gL cSProfile dSProfile a0_l))), (11, .c (.int .i64 (((a0_l).length : Int)))), (12, .c (.int .i64 0))], [.arr 31 11 ([] : List SProfile).length (gL cSProfile dSProfile ([] : List SProfile))]⟩) (sub_gen [0] rfl rfl ⟨zc rfl rfl, zc rfl rfl, zc rfl rfl, zc rfl rfl, zc rfl rfl, zc rfl rfl, trivial⟩ ⟨oa rfl, trivial⟩) ?_
    refine (SCode.loop (σ := Nat × (Int × (List SProfile))) (S := fun s => ⟨[(1, .c (.int .i64 a1_conn)), (2, .c (.str a2_txn)), (7, .c (.own 0 s.2.2.length)), (10, .c (.vec a0_l.length 11 (gL cSProfile dSProfile a0_l))), (11, .c (.int .i64 (((a0_l).length : Int)))), (12, .c (.int .i64 s.2.1))], [.arr 31 11 s.2.2.length (gL cSProfile dSProfile s.2.2)]⟩) (g := fun s => compose_candidates_l35 a0_l a1_conn a2_txn s.1 s.2.1 s.2.2 = some r) (μ := fun s => s.1) (F, (0, ([] : List SProfile))) h ?_)
    rintro ⟨n_35, ⟨t12_18, o0_19⟩⟩ h
    replace h : compose_candidates_l35 a0_l a1_conn a2_txn n_35 t12_18 o0_19 = some r := h
    show SCode _ _ _ ⟨[(1, .c (.int .i64 a1_conn)), (2, .c (.str a2_txn)), (7, .c (.own 0 o0_19.length)), (10, .c (.vec a0_l.length 11 (gL cSProfile dSProfile a0_l))), (11, .c (.int .i64 (((a0_l).length : Int)))), (12, .c (.int .i64 t12_18))], [.arr 31 11 o0_19.length (gL cSProfile dSProfile o0_19)]⟩ _
    cases n_35 with
    | zero => cases h
    | succ n_35 =>
      replace h : compose_candidates_b35 a0_l a1_conn a2_txn (fun t12_18 o0_19 => compose_candidates_l35 a0_l a1_conn a2_txn n_35 t12_18 o0_19) t12_18 o0_19 = some r := h
      unfold compose_candidates_b35 at h
      refine SCode.seq ?_
      refine SCode.region (show SOps _ _ _ [0] _ _ from ?_)
      refine SOps.q rfl (.plain rfl) rfl (q_lss rfl rfl rfl) ?_
      refine SOps.sub (st' := ⟨[(1, .c (.int .i64 a1_conn)), (2, .c (.str a2_txn)), (7, .c (.own 0 o0_19.length)), (10, .c (.vec a0_l.length 11 (gL cSProfile dSProfile a0_l))), (11, .c (.int .i64 (((a0_l).length : Int)))), (12, .c (.int .i64 t12_18)), (13, .c (.bool (decide (t12_18 < ((a0_l).length : Int)))))], [.arr 31 11 o0_19.length (gL cSProfile dSProfile o0_19)]⟩) (sub_gen [0] rfl rfl ⟨zc rfl rfl, zc rfl rfl, zc rfl rfl, zc rfl rfl, zc rfl rfl, zc rfl rfl, zc rfl rfl, trivial⟩ ⟨oa rfl, trivial⟩) ?_
      refine SOps.nil ?_
      refine SCode.seq ?_
      rcases cond_out h with ⟨g36, h⟩ | ⟨g36, h⟩
      · refine SCode.cond_t rfl g36 ?_
        refine SCode.skip ?_
        refine SCode.join (σ := (List SProfile)) (S := fun s => ⟨[(1, .c (.int .i64 a1_conn)), (2, .c (.str a2_txn)), (7, .c (.own 0 s.length)), (10, .c (.vec a0_l.length 11 (gL cSProfile dSProfile a0_l))), (11, .c (.int .i64 (((a0_l).length : Int)))), (12, .c (.int .i64 t12_18))], [.arr 31 11 s.length (gL cSProfile dSProfile s)]⟩) (g := fun s => compose_candidates_p38 t12_18 (fun t12_18 o0_19 => compose_candidates_l35 a0_l a1_conn a2_txn n_35 t12_18 o0_19) s = some r) ?_ ?_
        rotate_left
        · refine SCode.block ?_
          refine SCode.seq ?_
          obtain ⟨g39, h⟩ := guard_out h
          refine SCode.region (show SOps _ _ _ [0, 1, 2, 3] _ _ from ?_)
          refine SOps.q rfl (.plain rfl) rfl (q_index_vec rfl rfl rfl sl22 rfl g39.1 g39.2) ?_
          refine SOps.q rfl (.plain rfl) rfl (q_load_eptr_all rfl rfl rfl ty31) ?_
          refine SOps.e rfl (.plain rfl) (e_alloc rfl rfl rfl z31) ?_
          refine SOps.e rfl (.plain rfl) (e_store_box rfl rfl rfl rfl rfl ty31 rfl rfl rfl rfl) ?_
          refine SOps.sub (st' := ⟨[(1, .c (.int .i64 a1_conn)), (2, .c (.str a2_txn)), (7, .c (.own 0 o0_19.length)), (9, .c (.ptr 1 0)), (10, .c (.vec a0_l.length 11 (gL cSProfile dSProfile a0_l))), (11, .c (.int .i64 (((a0_l).length : Int)))), (12, .c (.int .i64 t12_18))], [.arr 31 11 o0_19.length (gL cSProfile dSProfile o0_19), .box [.int .i64 ((a0_l.getD t12_18.toNat dSProfile).ID), .int .i64 ((a0_l.getD t12_18.toNat dSProfile).Level), .int .i64 ((a0_l.getD t12_18.toNat dSProfile).Purpose), .int .i64 ((a0_l.getD t12_18.toNat dSProfile).Kind), .int .i64 ((a0_l.getD t12_18.toNat dSProfile).Conn), .str ((a0_l.getD t12_18.toNat dSProfile).Txn), .int .i64 ((a0_l.getD t12_18.toNat dSProfile).Span_From), .int .i64 ((a0_l.getD t12_18.toNat dSProfile).Span_To), .int .i64 ((a0_l.getD t12_18.toNat dSProfile).Start), .int .i64 ((a0_l.getD t12_18.toNat dSProfile).Duration), .vec ((a0_l.getD t12_18.toNat dSProfile).Periods).length 2 (gL cSPeriod dSPeriod ((a0_l.getD t12_18.toNat dSProfile).Periods))]]⟩) (sub_gen [0, 1] rfl rfl ⟨zc rfl rfl, zc rfl rfl, zc rfl rfl, zc rfl rfl, zc rfl rfl, zc rfl rfl, zc rfl rfl, trivial⟩ ⟨oa rfl, ⟨_, rfl, ⟨ii rfl rfl, ii rfl rfl, ii rfl rfl, ii rfl rfl, ii rfl rfl, ii rfl rfl, ii rfl rfl, ii rfl rfl, ii rfl rfl, ii rfl rfl, ii rfl rfl, trivial⟩⟩, trivial⟩) ?_
          refine SOps.nil ?_
          refine SCode.join (σ := Unit) (S := fun s => ⟨[(1, .c (.int .i64 a1_conn)), (2, .c (.str a2_txn)), (7, .c (.own 0 o0_19.length)), (9, .c (.ptr 1 0)), (10, .c (.vec a0_l.length 11 (gL cSProfile dSProfile a0_l))), (11, .c (.int .i64 (((a0_l).length : Int)))), (12, .c (.int .i64 t12_18))], [.arr 31 11 o0_19.length (gL cSProfile dSProfile o0_19), .box [.int .i64 ((a0_l.getD t12_18.toNat dSProfile).ID), .int .i64 ((a0_l.getD t12_18.toNat dSProfile).Level), .int .i64 ((a0_l.getD t12_18.toNat dSProfile).Purpose), .int .i64 ((a0_l.getD t12_18.toNat dSProfile).Kind), .int .i64 ((a0_l.getD t12_18.toNat dSProfile).Conn), .str ((a0_l.getD t12_18.toNat dSProfile).Txn), .int .i64 ((a0_l.getD t12_18.toNat dSProfile).Span_From), .int .i64 ((a0_l.getD t12_18.toNat dSProfile).Span_To), .int .i64 ((a0_l.getD t12_18.toNat dSProfile).Start), .int .i64 ((a0_l.getD t12_18.toNat dSProfile).Duration), .vec ((a0_l.getD t12_18.toNat dSProfile).Periods).length 2 (gL cSPeriod dSPeriod ((a0_l.getD t12_18.toNat dSProfile).Periods))]]⟩) (g := fun s => compose_candidates_p48 a0_l a2_txn t12_18 o0_19 (fun t12_18 o0_19 => compose_candidates_l35 a0_l a1_conn a2_txn n_35 t12_18 o0_19) = some r) ?_ ?_
          rotate_left
          · refine SCode.seq ?_
            rcases cond_out h with ⟨g49, h⟩ | ⟨g49, h⟩
            · refine SCode.region (show SOps _ _ _ [0, 1, 2, 3, 4, 5, 6, 7, 8] _ _ from ?_)
              refine SOps.q rfl (.plain rfl) rfl (q_field_ptr rfl rfl fd31_4) ?_
              refine SOps.q rfl (.plain rfl) rfl (q_load_ptr rfl rfl rfl rfl ty3) ?_
              refine SOps.q rfl (.plain rfl) rfl (q_neq rfl rfl rfl) ?_
              refine SOps.q rfl (.plain rfl) rfl (q_move rfl rfl) ?_
              refine SOps.q rfl (.guard 3 19 true rfl rfl (gT g49)) rfl (q_field_ptr rfl rfl fd31_4) ?_
              refine SOps.q rfl (.guard 3 19 true rfl rfl (gT g49)) rfl (q_load_ptr rfl rfl rfl rfl ty3) ?_
              refine SOps.q rfl (.guard 3 19 true rfl rfl (gT g49)) rfl (q_move rfl rfl) ?_
              refine SOps.q rfl (.guard 3 19 true rfl rfl (gT g49)) rfl (q_neq rfl rfl rfl) ?_
              refine SOps.q rfl (.plain rfl) rfl (q_pick_t rfl rfl g49 rfl) ?_
              refine SOps.sub (st' := ⟨[(1, .c (.int .i64 a1_conn)), (2, .c (.str a2_txn)), (7, .c (.own 0 o0_19.length)), (9, .c (.ptr 1 0)), (10, .c (.vec a0_l.length 11 (gL cSProfile dSProfile a0_l))), (11, .c (.int .i64 (((a0_l).length : Int)))), (12, .c (.int .i64 t12_18)), (24, .c (.bool ((!decide ((a0_l.getD t12_18.toNat dSProfile).Conn = a1_conn)))))], [.arr 31 11 o0_19.length (gL cSProfile dSProfile o0_19), .box [.int .i64 ((a0_l.getD t12_18.toNat dSProfile).ID), .int .i64 ((a0_l.getD t12_18.toNat dSProfile).Level), .int .i64 ((a0_l.getD t12_18.toNat dSProfile).Purpose), .int .i64 ((a0_l.getD t12_18.toNat dSProfile).Kind), .int .i64 ((a0_l.getD t12_18.toNat dSProfile).Conn), .str ((a0_l.getD t12_18.toNat dSProfile).Txn), .int .i64 ((a0_l.getD t12_18.toNat dSProfile).Span_From), .int .i64 ((a0_l.getD t12_18.toNat dSProfile).Span_To), .int .i64 ((a0_l.getD t12_18.toNat dSProfile).Start), .int .i64 ((a0_l.getD t12_18.toNat dSProfile).Duration), .vec ((a0_l.getD t12_18.toNat dSProfile).Periods).length 2 (gL cSPeriod dSPeriod ((a0_l.getD t12_18.toNat dSProfile).Periods))]]⟩) (sub_gen [0, 1] rfl rfl ⟨zc rfl rfl, zc rfl rfl, zc rfl rfl, zc rfl rfl, zc rfl rfl, zc rfl rfl, zc rfl rfl, zc rfl rfl, trivial⟩ ⟨oa rfl, ⟨_, rfl, ⟨ii rfl rfl, ii rfl rfl, ii rfl rfl, ii rfl rfl, ii rfl rfl, ii rfl rfl, ii rfl rfl, ii rfl rfl, ii rfl rfl, ii rfl rfl, ii rfl rfl, trivial⟩⟩, trivial⟩) ?_
              refine SOps.nil ?_
              rcases cond_out h with ⟨g50, h⟩ | ⟨g50, h⟩
              · refine SCode.cond_t rfl g50 ?_
                refine SCode.exit ?_
                exact ⟨o0_19, h, sub_gen [0] rfl rfl ⟨zc rfl rfl, zc rfl rfl, zc rfl rfl, zc rfl rfl, zc rfl rfl, zc rfl rfl, trivial⟩ ⟨oa rfl, trivial⟩⟩
              refine SCode.cond_f rfl g50 ?_
              refine SCode.skip ?_
              exact ⟨(), h, sub_gen [0, 1] rfl rfl ⟨zc rfl rfl, zc rfl rfl, zc rfl rfl, zc rfl rfl, zc rfl rfl, zc rfl rfl, zc rfl rfl, trivial⟩ ⟨oa rfl, ⟨_, rfl, ⟨ii rfl rfl, ii rfl rfl, ii rfl rfl, ii rfl rfl, ii rfl rfl, ii rfl rfl, ii rfl rfl, ii rfl rfl, ii rfl rfl, ii rfl rfl, ii rfl rfl, trivial⟩⟩, trivial⟩⟩
            refine SCode.region (show SOps _ _ _ [0, 1, 2, 3, 4, 5, 6, 7, 8] _ _ from ?_)
            refine SOps.q rfl (.plain rfl) rfl (q_field_ptr rfl rfl fd31_4) ?_
            refine SOps.q rfl (.plain rfl) rfl (q_load_ptr rfl rfl rfl rfl ty3) ?_
            refine SOps.q rfl (.plain rfl) rfl (q_neq rfl rfl rfl) ?_
            refine SOps.q rfl (.plain rfl) rfl (q_move rfl rfl) ?_
            refine SOps.skip rfl 3 19 true rfl rfl (.inl (gF g49)) rfl ?_
            refine SOps.skip rfl 3 19 true rfl rfl (.inl (gF g49)) rfl ?_
            refine SOps.skip rfl 3 19 true rfl rfl (.inl (gF g49)) rfl ?_
            refine SOps.skip rfl 3 19 true rfl rfl (.inl (gF g49)) rfl ?_
            refine SOps.q rfl (.plain rfl) rfl (q_pick_f rfl rfl g49 rfl) ?_
            refine SOps.sub (st' := ⟨[(1, .c (.int .i64 a1_conn)), (2, .c (.str a2_txn)), (7, .c (.own 0 o0_19.length)), (9, .c (.ptr 1 0)), (10, .c (.vec a0_l.length 11 (gL cSProfile dSProfile a0_l))), (11, .c (.int .i64 (((a0_l).length : Int)))), (12, .c (.int .i64 t12_18)), (24, .c (.bool false))], [.arr 31 11 o0_19.length (gL cSProfile dSProfile o0_19), .box [.int .i64 ((a0_l.getD t12_18.toNat dSProfile).ID), .int .i64 ((a0_l.getD t12_18.toNat dSProfile).Level), .int .i64 ((a0_l.getD t12_18.toNat dSProfile).Purpose), .int .i64 ((a0_l.getD t12_18.toNat dSProfile).Kind), .int .i64 ((a0_l.getD t12_18.toNat dSProfile).Conn), .str ((a0_l.getD t12_18.toNat dSProfile).Txn), .int .i64 ((a0_l.getD t12_18.toNat dSProfile).Span_From), .int .i64 ((a0_l.getD t12_18.toNat dSProfile).Span_To), .int .i64 ((a0_l.getD t12_18.toNat dSProfile).Start), .int .i64 ((a0_l.getD t12_18.toNat dSProfile).Duration), .vec ((a0_l.getD t12_18.toNat dSProfile).Periods).length 2 (gL cSPeriod dSPeriod ((a0_l.getD t12_18.toNat dSProfile).Periods))]]⟩) (sub_gen [0, 1] rfl rfl ⟨zc rfl rfl, zc rfl rfl, zc rfl rfl, zc rfl rfl, zc rfl rfl, zc rfl rfl, zc rfl rfl, zc rfl rfl, trivial⟩ ⟨oa rfl, ⟨_, rfl, ⟨ii rfl rfl, ii rfl rfl, ii rfl rfl, ii rfl rfl, ii rfl rfl, ii rfl rfl, ii rfl rfl, ii rfl rfl, ii rfl rfl, ii rfl rfl, ii rfl rfl, trivial⟩⟩, trivial⟩) ?_
            refine SOps.nil ?_
            refine SCode.cond_f rfl rfl ?_
            refine SCode.skip ?_
            exact ⟨(), h, sub_gen [0, 1] rfl rfl ⟨zc rfl rfl, zc rfl rfl, zc rfl rfl, zc rfl rfl, zc rfl rfl, zc rfl rfl, zc rfl rfl, trivial⟩ ⟨oa rfl, ⟨_, rfl, ⟨ii rfl rfl, ii rfl rfl, ii rfl rfl, ii rfl rfl, ii rfl rfl, ii rfl rfl, ii rfl rfl, ii rfl rfl, ii rfl rfl, ii rfl rfl, ii rfl rfl, trivial⟩⟩, trivial⟩⟩
          rintro ⟨⟩ h
          show SCode _ _ _ ⟨[(1, .c (.int .i64 a1_conn)), (2, .c (.str a2_txn)), (7, .c (.own 0 o0_19.length)), (9, .c (.ptr 1 0)), (10, .c (.vec a0_l.length 11 (gL cSProfile dSProfile a0_l))), (11, .c (.int .i64 (((a0_l).length : Int)))), (12, .c (.int .i64 t12_18))], [.arr 31 11 o0_19.length (gL cSProfile dSProfile o0_19), .box [.int .i64 ((a0_l.getD t12_18.toNat dSProfile).ID), .int .i64 ((a0_l.getD t12_18.toNat dSProfile).Level), .int .i64 ((a0_l.getD t12_18.toNat dSProfile).Purpose), .int .i64 ((a0_l.getD t12_18.toNat dSProfile).Kind), .int .i64 ((a0_l.getD t12_18.toNat dSProfile).Conn), .str ((a0_l.getD t12_18.toNat dSProfile).Txn), .int .i64 ((a0_l.getD t12_18.toNat dSProfile).Span_From), .int .i64 ((a0_l.getD t12_18.toNat dSProfile).Span_To), .int .i64 ((a0_l.getD t12_18.toNat dSProfile).Start), .int .i64 ((a0_l.getD t12_18.toNat dSProfile).Duration), .vec ((a0_l.getD t12_18.toNat dSProfile).Periods).length 2 (gL cSPeriod dSPeriod ((a0_l.getD t12_18.toNat dSProfile).Periods))]]⟩ _
          replace h : compose_candidates_p48 a0_l a2_txn t12_18 o0_19 (fun t12_18 o0_19 => compose_candidates_l35 a0_l a1_conn a2_txn n_35 t12_18 o0_19) = some r := h
          unfold compose_candidates_p48 at h
          refine SCode.join (σ := Unit) (S := fun s => ⟨[(1, .c (.int .i64 a1_conn)), (2, .c (.str a2_txn)), (7, .c (.own 0 o0_19.length)), (9, .c (.ptr 1 0)), (10, .c (.vec a0_l.length 11 (gL cSProfile dSProfile a0_l))), (11, .c (.int .i64 (((a0_l).length : Int)))), (12, .c (.int .i64 t12_18))], [.arr 31 11 o0_19.length (gL cSProfile dSProfile o0_19), .box [.int .i64 ((a0_l.getD t12_18.toNat dSProfile).ID), .int .i64 ((a0_l.getD t12_18.toNat dSProfile).Level), .int .i64 ((a0_l.getD t12_18.toNat dSProfile).Purpose), .int .i64 ((a0_l.getD t12_18.toNat dSProfile).Kind), .int .i64 ((a0_l.getD t12_18.toNat dSProfile).Conn), .str ((a0_l.getD t12_18.toNat dSProfile).Txn), .int .i64 ((a0_l.getD t12_18.toNat dSProfile).Span_From), .int .i64 ((a0_l.getD t12_18.toNat dSProfile).Span_To), .int .i64 ((a0_l.getD t12_18.toNat dSProfile).Start), .int .i64 ((a0_l.getD t12_18.toNat dSProfile).Duration), .vec ((a0_l.getD t12_18.toNat dSProfile).Periods).length 2 (gL cSPeriod dSPeriod ((a0_l.getD t12_18.toNat dSProfile).Periods))]]⟩) (g := fun s => compose_candidates_p45 a0_l a2_txn t12_18 o0_19 (fun t12_18 o0_19 => compose_candidates_l35 a0_l a1_conn a2_txn n_35 t12_18 o0_19) = some r) ?_ ?_
          rotate_left
          · refine SCode.seq ?_
            rcases cond_out h with ⟨g46, h⟩ | ⟨g46, h⟩
            · refine SCode.region (show SOps _ _ _ [0, 1, 2, 3, 4, 5, 6, 7, 8] _ _ from ?_)
              refine SOps.q rfl (.plain rfl) rfl (q_field_ptr rfl rfl fd31_2) ?_
              refine SOps.q rfl (.plain rfl) rfl (q_load_ptr rfl rfl rfl rfl ty3) ?_
              refine SOps.q rfl (.plain rfl) rfl (q_eql rfl rfl rfl) ?_
              refine SOps.q rfl (.plain rfl) rfl (q_move rfl rfl) ?_
              refine SOps.q rfl (.guard 3 28 true rfl rfl (gT g46)) rfl (q_field_ptr rfl rfl fd31_5) ?_
              refine SOps.q rfl (.guard 3 28 true rfl rfl (gT g46)) rfl (q_load_ptr rfl rfl rfl rfl ty9) ?_
              refine SOps.q rfl (.guard 3 28 true rfl rfl (gT g46)) rfl (q_move rfl rfl) ?_
              refine SOps.q rfl (.guard 3 28 true rfl rfl (gT g46)) rfl (q_neqS rfl rfl rfl) ?_
              refine SOps.q rfl (.plain rfl) rfl (q_pick_t rfl rfl g46 rfl) ?_
              refine SOps.sub (st' := ⟨[(1, .c (.int .i64 a1_conn)), (2, .c (.str a2_txn)), (7, .c (.own 0 o0_19.length)), (9, .c (.ptr 1 0)), (10, .c (.vec a0_l.length 11 (gL cSProfile dSProfile a0_l))), (11, .c (.int .i64 (((a0_l).length : Int)))), (12, .c (.int .i64 t12_18)), (33, .c (.bool ((!(sEq ((a0_l.getD t12_18.toNat dSProfile).Txn) a2_txn)))))], [.arr 31 11 o0_19.length (gL cSProfile dSProfile o0_19), .box [.int .i64 ((a0_l.getD t12_18.toNat dSProfile).ID), .int .i64 ((a0_l.getD t12_18.toNat dSProfile).Level), .int .i64 ((a0_l.getD t12_18.toNat dSProfile).Purpose), .int .i64 ((a0_l.getD t12_18.toNat dSProfile).Kind), .int .i64 ((a0_l.getD t12_18.toNat dSProfile).Conn), .str ((a0_l.getD t12_18.toNat dSProfile).Txn), .int .i64 ((a0_l.getD t12_18.toNat dSProfile).Span_From), .int .i64 ((a0_l.getD t12_18.toNat dSProfile).Span_To), .int .i64 ((a0_l.getD t12_18.toNat dSProfile).Start), .int .i64 ((a0_l.getD t12_18.toNat dSProfile).Duration), .vec ((a0_l.getD t12_18.toNat dSProfile).Periods).length 2 (gL cSPeriod dSPeriod ((a0_l.getD t12_18.toNat dSProfile).Periods))]]⟩) (sub_gen [0, 1] rfl rfl ⟨zc rfl rfl, zc rfl rfl, zc rfl rfl, zc rfl rfl, zc rfl rfl, zc rfl rfl, zc rfl rfl, zc rfl rfl, trivial⟩ ⟨oa rfl, ⟨_, rfl, ⟨ii rfl rfl, ii rfl rfl, ii rfl rfl, ii rfl rfl, ii rfl rfl, ii rfl rfl, ii rfl rfl, ii rfl rfl, ii rfl rfl, ii rfl rfl, ii rfl rfl, trivial⟩⟩, trivial⟩) ?_
              refine SOps.nil ?_
              rcases cond_out h with ⟨g47, h⟩ | ⟨g47, h⟩
              · refine SCode.cond_t rfl g47 ?_
                refine SCode.exit ?_
                exact ⟨o0_19, h, sub_gen [0] rfl rfl ⟨zc rfl rfl, zc rfl rfl, zc rfl rfl, zc rfl rfl, zc rfl rfl, zc rfl rfl, trivial⟩ ⟨oa rfl, trivial⟩⟩
              refine SCode.cond_f rfl g47 ?_
              refine SCode.skip ?_
              exact ⟨(), h, sub_gen [0, 1] rfl rfl ⟨zc rfl rfl, zc rfl rfl, zc rfl rfl, zc rfl rfl, zc rfl rfl, zc rfl rfl, zc rfl rfl, trivial⟩ ⟨oa rfl, ⟨_, rfl, ⟨ii rfl rfl, ii rfl rfl, ii rfl rfl, ii rfl rfl, ii rfl rfl, ii rfl rfl, ii rfl rfl, ii rfl rfl, ii rfl rfl, ii rfl rfl, ii rfl rfl, trivial⟩⟩, trivial⟩⟩
            refine SCode.region (show SOps _ _ _ [0, 1, 2, 3, 4, 5, 6, 7, 8] _ _ from ?_)
            refine SOps.q rfl (.plain rfl) rfl (q_field_ptr rfl rfl fd31_2) ?_
            refine SOps.q rfl (.plain rfl) rfl (q_load_ptr rfl rfl rfl rfl ty3) ?_
            refine SOps.q rfl (.plain rfl) rfl (q_eql rfl rfl rfl) ?_
            refine SOps.q rfl (.plain rfl) rfl (q_move rfl rfl) ?_
            refine SOps.skip rfl 3 28 true rfl rfl (.inl (gF g46)) rfl ?_
            refine SOps.skip rfl 3 28 true rfl rfl (.inl (gF g46)) rfl ?_
            refine SOps.skip rfl 3 28 true rfl rfl (.inl (gF g46)) rfl ?_
            refine SOps.skip rfl 3 28 true rfl rfl (.inl (gF g46)) rfl ?_
            refine SOps.q rfl (.plain rfl) rfl (q_pick_f rfl rfl g46 rfl) ?_
            refine SOps.sub (st' := ⟨[(1, .c (.int .i64 a1_conn)), (2, .c (.str a2_txn)), (7, .c (.own 0 o0_19.length)), (9, .c (.ptr 1 0)), (10, .c (.vec a0_l.length 11 (gL cSProfile dSProfile a0_l))), (11, .c (.int .i64 (((a0_l).length : Int)))), (12, .c (.int .i64 t12_18)), (33, .c (.bool false))], [.arr 31 11 o0_19.length (gL cSProfile dSProfile o0_19), .box [.int .i64 ((a0_l.getD t12_18.toNat dSProfile).ID), .int .i64 ((a0_l.getD t12_18.toNat dSProfile).Level), .int .i64 ((a0_l.getD t12_18.toNat dSProfile).Purpose), .int .i64 ((a0_l.getD t12_18.toNat dSProfile).Kind), .int .i64 ((a0_l.getD t12_18.toNat dSProfile).Conn), .str ((a0_l.getD t12_18.toNat dSProfile).Txn), .int .i64 ((a0_l.getD t12_18.toNat dSProfile).Span_From), .int .i64 ((a0_l.getD t12_18.toNat dSProfile).Span_To), .int .i64 ((a0_l.getD t12_18.toNat dSProfile).Start), .int .i64 ((a0_l.getD t12_18.toNat dSProfile).Duration), .vec ((a0_l.getD t12_18.toNat dSProfile).Periods).length 2 (gL cSPeriod dSPeriod ((a0_l.getD t12_18.toNat dSProfile).Periods))]]⟩) (sub_gen [0, 1] rfl rfl ⟨zc rfl rfl, zc rfl rfl, zc rfl rfl, zc rfl rfl, zc rfl rfl, zc rfl rfl, zc rfl rfl, zc rfl rfl, trivial⟩ ⟨oa rfl, ⟨_, rfl, ⟨ii rfl rfl, ii rfl rfl, ii rfl rfl, ii rfl rfl, ii rfl rfl, ii rfl rfl, ii rfl rfl, ii rfl rfl, ii rfl rfl, ii rfl rfl, ii rfl rfl, trivial⟩⟩, trivial⟩) ?_
            refine SOps.nil ?_
            refine SCode.cond_f rfl rfl ?_
            refine SCode.skip ?_
            exact ⟨(), h, sub_gen [0, 1] rfl rfl ⟨zc rfl rfl, zc rfl rfl, zc rfl rfl, zc rfl rfl, zc rfl rfl, zc rfl rfl, zc rfl rfl, trivial⟩ ⟨oa rfl, ⟨_, rfl, ⟨ii rfl rfl, ii rfl rfl, ii rfl rfl, ii rfl rfl, ii rfl rfl, ii rfl rfl, ii rfl rfl, ii rfl rfl, ii rfl rfl, ii rfl rfl, ii rfl rfl, trivial⟩⟩, trivial⟩⟩
          rintro ⟨⟩ h
          show SCode _ _ _ ⟨[(1, .c (.int .i64 a1_conn)), (2, .c (.str a2_txn)), (7, .c (.own 0 o0_19.length)), (9, .c (.ptr 1 0)), (10, .c (.vec a0_l.length 11 (gL cSProfile dSProfile a0_l))), (11, .c (.int .i64 (((a0_l).length : Int)))), (12, .c (.int .i64 t12_18))], [.arr 31 11 o0_19.length (gL cSProfile dSProfile o0_19), .box [.int .i64 ((a0_l.getD t12_18.toNat dSProfile).ID), .int .i64 ((a0_l.getD t12_18.toNat dSProfile).Level), .int .i64 ((a0_l.getD t12_18.toNat dSProfile).Purpose), .int .i64 ((a0_l.getD t12_18.toNat dSProfile).Kind), .int .i64 ((a0_l.getD t12_18.toNat dSProfile).Conn), .str ((a0_l.getD t12_18.toNat dSProfile).Txn), .int .i64 ((a0_l.getD t12_18.toNat dSProfile).Span_From), .int .i64 ((a0_l.getD t12_18.toNat dSProfile).Span_To), .int .i64 ((a0_l.getD t12_18.toNat dSProfile).Start), .int .i64 ((a0_l.getD t12_18.toNat dSProfile).Duration), .vec ((a0_l.getD t12_18.toNat dSProfile).Periods).length 2 (gL cSPeriod dSPeriod ((a0_l.getD t12_18.toNat dSProfile).Periods))]]⟩ _
          replace h : compose_candidates_p45 a0_l a2_txn t12_18 o0_19 (fun t12_18 o0_19 => compose_candidates_l35 a0_l a1_conn a2_txn n_35 t12_18 o0_19) = some r := h
          unfold compose_candidates_p45 at h
          refine SCode.join (σ := Unit) (S := fun s => ⟨[(1, .c (.int .i64 a1_conn)), (2, .c (.str a2_txn)), (7, .c (.own 0 o0_19.length)), (9, .c (.ptr 1 0)), (10, .c (.vec a0_l.length 11 (gL cSProfile dSProfile a0_l))), (11, .c (.int .i64 (((a0_l).length : Int)))), (12, .c (.int .i64 t12_18))], [.arr 31 11 o0_19.length (gL cSProfile dSProfile o0_19), .box [.int .i64 ((a0_l.getD t12_18.toNat dSProfile).ID), .int .i64 ((a0_l.getD t12_18.toNat dSProfile).Level), .int .i64 ((a0_l.getD t12_18.toNat dSProfile).Purpose), .int .i64 ((a0_l.getD t12_18.toNat dSProfile).Kind), .int .i64 ((a0_l.getD t12_18.toNat dSProfile).Conn), .str ((a0_l.getD t12_18.toNat dSProfile).Txn), .int .i64 ((a0_l.getD t12_18.toNat dSProfile).Span_From), .int .i64 ((a0_l.getD t12_18.toNat dSProfile).Span_To), .int .i64 ((a0_l.getD t12_18.toNat dSProfile).Start), .int .i64 ((a0_l.getD t12_18.toNat dSProfile).Duration), .vec ((a0_l.getD t12_18.toNat dSProfile).Periods).length 2 (gL cSPeriod dSPeriod ((a0_l.getD t12_18.toNat dSProfile).Periods))]]⟩) (g := fun s => compose_candidates_p41 a0_l t12_18 o0_19 (fun t12_18 o0_19 => compose_candidates_l35 a0_l a1_conn a2_txn n_35 t12_18 o0_19) = some r) ?_ ?_
          rotate_left
          · refine SCode.seq ?_
            rcases cond_out h with ⟨g42, h⟩ | ⟨g42, h⟩
            · rcases cond_out h with ⟨g43, h⟩ | ⟨g43, h⟩
              · refine SCode.region (show SOps _ _ _ [0, 1, 2, 3, 4, 5, 6, 7, 8, 9, 10, 11] _ _ from ?_)
                refine SOps.q rfl (.plain rfl) rfl (q_move rfl rfl) ?_
                refine SOps.q rfl (.plain rfl) rfl (q_eqlS rfl rfl rfl) ?_
                refine SOps.q rfl (.plain rfl) rfl (q_move rfl rfl) ?_
                refine SOps.q rfl (.guard 2 36 true rfl rfl (gT g42)) rfl (q_field_ptr rfl rfl fd31_2) ?_
                refine SOps.q rfl (.guard 2 36 true rfl rfl (gT g42)) rfl (q_load_ptr rfl rfl rfl rfl ty3) ?_
                refine SOps.q rfl (.guard 2 36 true rfl rfl (gT g42)) rfl (q_eql rfl rfl rfl) ?_
                refine SOps.q rfl (.guard 2 36 true rfl rfl (gT g42)) rfl (q_move rfl rfl) ?_
                refine SOps.skip rfl 6 40 false rfl rfl (.inl (gT g43)) rfl ?_
                refine SOps.skip rfl 6 40 false rfl rfl (.inl (gT g43)) rfl ?_
                refine SOps.skip rfl 6 40 false rfl rfl (.inl (gT g43)) rfl ?_
                refine SOps.q rfl (.guard 2 36 true rfl rfl (gT g42)) rfl (q_pick_t rfl rfl g43 rfl) ?_
                refine SOps.q rfl (.plain rfl) rfl (q_pick_t rfl rfl g42 rfl) ?_
                refine SOps.sub (st' := ⟨[(1, .c (.int .i64 a1_conn)), (2, .c (.str a2_txn)), (7, .c (.own 0 o0_19.length)), (9, .c (.ptr 1 0)), (10, .c (.vec a0_l.length 11 (gL cSProfile dSProfile a0_l))), (11, .c (.int .i64 (((a0_l).length : Int)))), (12, .c (.int .i64 t12_18)), (45, .c (.bool true))], [.arr 31 11 o0_19.length (gL cSProfile dSProfile o0_19), .box [.int .i64 ((a0_l.getD t12_18.toNat dSProfile).ID), .int .i64 ((a0_l.getD t12_18.toNat dSProfile).Level), .int .i64 ((a0_l.getD t12_18.toNat dSProfile).Purpose), .int .i64 ((a0_l.getD t12_18.toNat dSProfile).Kind), .int .i64 ((a0_l.getD t12_18.toNat dSProfile).Conn), .str ((a0_l.getD t12_18.toNat dSProfile).Txn), .int .i64 ((a0_l.getD t12_18.toNat dSProfile).Span_From), .int .i64 ((a0_l.getD t12_18.toNat dSProfile).Span_To), .int .i64 ((a0_l.getD t12_18.toNat dSProfile).Start), .int .i64 ((a0_l.getD t12_18.toNat dSProfile).Duration), .vec ((a0_l.getD t12_18.toNat dSProfile).Periods).length 2 (gL cSPeriod dSPeriod ((a0_l.getD t12_18.toNat dSProfile).Periods))]]⟩) (sub_gen [0, 1] rfl rfl ⟨zc rfl rfl, zc rfl rfl, zc rfl rfl, zc rfl rfl, zc rfl rfl, zc rfl rfl, zc rfl rfl, zc rfl rfl, trivial⟩ ⟨oa rfl, ⟨_, rfl, ⟨ii rfl rfl, ii rfl rfl, ii rfl rfl, ii rfl rfl, ii rfl rfl, ii rfl rfl, ii rfl rfl, ii rfl rfl, ii rfl rfl, ii rfl rfl, ii rfl rfl, trivial⟩⟩, trivial⟩) ?_
                refine SOps.nil ?_
                refine SCode.cond_t rfl rfl ?_
                refine SCode.exit ?_
                exact ⟨o0_19, h, sub_gen [0] rfl rfl ⟨zc rfl rfl, zc rfl rfl, zc rfl rfl, zc rfl rfl, zc rfl rfl, zc rfl rfl, trivial⟩ ⟨oa rfl, trivial⟩⟩
              refine SCode.region (show SOps _ _ _ [0, 1, 2, 3, 4, 5, 6, 7, 8, 9, 10, 11] _ _ from ?_)
              refine SOps.q rfl (.plain rfl) rfl (q_move rfl rfl) ?_
              refine SOps.q rfl (.plain rfl) rfl (q_eqlS rfl rfl rfl) ?_
              refine SOps.q rfl (.plain rfl) rfl (q_move rfl rfl) ?_
              refine SOps.q rfl (.guard 2 36 true rfl rfl (gT g42)) rfl (q_field_ptr rfl rfl fd31_2) ?_
              refine SOps.q rfl (.guard 2 36 true rfl rfl (gT g42)) rfl (q_load_ptr rfl rfl rfl rfl ty3) ?_
              refine SOps.q rfl (.guard 2 36 true rfl rfl (gT g42)) rfl (q_eql rfl rfl rfl) ?_
              refine SOps.q rfl (.guard 2 36 true rfl rfl (gT g42)) rfl (q_move rfl rfl) ?_
              refine SOps.q rfl (.guard 6 40 false rfl rfl (gF g43)) rfl (q_field_ptr rfl rfl fd31_3) ?_
              refine SOps.q rfl (.guard 6 40 false rfl rfl (gF g43)) rfl (q_load_ptr rfl rfl rfl rfl ty3) ?_
              refine SOps.q rfl (.guard 6 40 false rfl rfl (gF g43)) rfl (q_eql rfl rfl rfl) ?_
              refine SOps.q rfl (.guard 2 36 true rfl rfl (gT g42)) rfl (q_pick_f rfl rfl g43 rfl) ?_
              refine SOps.q rfl (.plain rfl) rfl (q_pick_t rfl rfl g42 rfl) ?_
              refine SOps.sub (st' := ⟨[(1, .c (.int .i64 a1_conn)), (2, .c (.str a2_txn)), (7, .c (.own 0 o0_19.length)), (9, .c (.ptr 1 0)), (10, .c (.vec a0_l.length 11 (gL cSProfile dSProfile a0_l))), (11, .c (.int .i64 (((a0_l).length : Int)))), (12, .c (.int .i64 t12_18)), (45, .c (.bool (decide ((a0_l.getD t12_18.toNat dSProfile).Kind = 4))))], [.arr 31 11 o0_19.length (gL cSProfile dSProfile o0_19), .box [.int .i64 ((a0_l.getD t12_18.toNat dSProfile).ID), .int .i64 ((a0_l.getD t12_18.toNat dSProfile).Level), .int .i64 ((a0_l.getD t12_18.toNat dSProfile).Purpose), .int .i64 ((a0_l.getD t12_18.toNat dSProfile).Kind), .int .i64 ((a0_l.getD t12_18.toNat dSProfile).Conn), .str ((a0_l.getD t12_18.toNat dSProfile).Txn), .int .i64 ((a0_l.getD t12_18.toNat dSProfile).Span_From), .int .i64 ((a0_l.getD t12_18.toNat dSProfile).Span_To), .int .i64 ((a0_l.getD t12_18.toNat dSProfile).Start), .int .i64 ((a0_l.getD t12_18.toNat dSProfile).Duration), .vec ((a0_l.getD t12_18.toNat dSProfile).Periods).length 2 (gL cSPeriod dSPeriod ((a0_l.getD t12_18.toNat dSProfile).Periods))]]⟩) (sub_gen [0, 1] rfl rfl ⟨zc rfl rfl, zc rfl rfl, zc rfl rfl, zc rfl rfl, zc rfl rfl, zc rfl rfl, zc rfl rfl, zc rfl rfl, trivial⟩ ⟨oa rfl, ⟨_, rfl, ⟨ii rfl rfl, ii rfl rfl, ii rfl rfl, ii rfl rfl, ii rfl rfl, ii rfl rfl, ii rfl rfl, ii rfl rfl, ii rfl rfl, ii rfl rfl, ii rfl rfl, trivial⟩⟩, trivial⟩) ?_
              refine SOps.nil ?_
              rcases cond_out h with ⟨g44, h⟩ | ⟨g44, h⟩
              · refine SCode.cond_t rfl g44 ?_
                refine SCode.exit ?_
                exact ⟨o0_19, h, sub_gen [0] rfl rfl ⟨zc rfl rfl, zc rfl rfl, zc rfl rfl, zc rfl rfl, zc rfl rfl, zc rfl rfl, trivial⟩ ⟨oa rfl, trivial⟩⟩
              refine SCode.cond_f rfl g44 ?_
              refine SCode.skip ?_
              exact ⟨(), h, sub_gen [0, 1] rfl rfl ⟨zc rfl rfl, zc rfl rfl, zc rfl rfl, zc rfl rfl, zc rfl rfl, zc rfl rfl, zc rfl rfl, trivial⟩ ⟨oa rfl, ⟨_, rfl, ⟨ii rfl rfl, ii rfl rfl, ii rfl rfl, ii rfl rfl, ii rfl rfl, ii rfl rfl, ii rfl rfl, ii rfl rfl, ii rfl rfl, ii rfl rfl, ii rfl rfl, trivial⟩⟩, trivial⟩⟩
            refine SCode.region (show SOps _ _ _ [0, 1, 2, 3, 4, 5, 6, 7, 8, 9, 10, 11] _ _ from ?_)
            refine SOps.q rfl (.plain rfl) rfl (q_move rfl rfl) ?_
            refine SOps.q rfl (.plain rfl) rfl (q_eqlS rfl rfl rfl) ?_
            refine SOps.q rfl (.plain rfl) rfl (q_move rfl rfl) ?_
            refine SOps.skip rfl 2 36 true rfl rfl (.inl (gF g42)) rfl ?_
            refine SOps.skip rfl 2 36 true rfl rfl (.inl (gF g42)) rfl ?_
            refine SOps.skip rfl 2 36 true rfl rfl (.inl (gF g42)) rfl ?_
            refine SOps.skip rfl 2 36 true rfl rfl (.inl (gF g42)) rfl ?_
            refine SOps.skip rfl 6 40 false rfl rfl (.inr rfl) rfl ?_
            refine SOps.skip rfl 6 40 false rfl rfl (.inr rfl) rfl ?_
            refine SOps.skip rfl 6 40 false rfl rfl (.inr rfl) rfl ?_
            refine SOps.skip rfl 2 36 true rfl rfl (.inl (gF g42)) rfl ?_
            refine SOps.q rfl (.plain rfl) rfl (q_pick_f rfl rfl g42 rfl) ?_
            refine SOps.sub (st' := ⟨[(1, .c (.int .i64 a1_conn)), (2, .c (.str a2_txn)), (7, .c (.own 0 o0_19.length)), (9, .c (.ptr 1 0)), (10, .c (.vec a0_l.length 11 (gL cSProfile dSProfile a0_l))), (11, .c (.int .i64 (((a0_l).length : Int)))), (12, .c (.int .i64 t12_18)), (45, .c (.bool false))], [.arr 31 11 o0_19.length (gL cSProfile dSProfile o0_19), .box [.int .i64 ((a0_l.getD t12_18.toNat dSProfile).ID), .int .i64 ((a0_l.getD t12_18.toNat dSProfile).Level), .int .i64 ((a0_l.getD t12_18.toNat dSProfile).Purpose), .int .i64 ((a0_l.getD t12_18.toNat dSProfile).Kind), .int .i64 ((a0_l.getD t12_18.toNat dSProfile).Conn), .str ((a0_l.getD t12_18.toNat dSProfile).Txn), .int .i64 ((a0_l.getD t12_18.toNat dSProfile).Span_From), .int .i64 ((a0_l.getD t12_18.toNat dSProfile).Span_To), .int .i64 ((a0_l.getD t12_18.toNat dSProfile).Start), .int .i64 ((a0_l.getD t12_18.toNat dSProfile).Duration), .vec ((a0_l.getD t12_18.toNat dSProfile).Periods).length 2 (gL cSPeriod dSPeriod ((a0_l.getD t12_18.toNat dSProfile).Periods))]]⟩) (sub_gen [0, 1] rfl rfl ⟨zc rfl rfl, zc rfl rfl, zc rfl rfl, zc rfl rfl, zc rfl rfl, zc rfl rfl, zc rfl rfl, zc rfl rfl, trivial⟩ ⟨oa rfl, ⟨_, rfl, ⟨ii rfl rfl, ii rfl rfl, ii rfl rfl, ii rfl rfl, ii rfl rfl, ii rfl rfl, ii rfl rfl, ii rfl rfl, ii rfl rfl, ii rfl rfl, ii rfl rfl, trivial⟩⟩, trivial⟩) ?_
            refine SOps.nil ?_
            refine SCode.cond_f rfl rfl ?_
            refine SCode.skip ?_
            exact ⟨(), h, sub_gen [0, 1] rfl rfl ⟨zc rfl rfl, zc rfl rfl, zc rfl rfl, zc rfl rfl, zc rfl rfl, zc rfl rfl, zc rfl rfl, trivial⟩ ⟨oa rfl, ⟨_, rfl, ⟨ii rfl rfl, ii rfl rfl, ii rfl rfl, ii rfl rfl, ii rfl rfl, ii rfl rfl, ii rfl rfl, ii rfl rfl, ii rfl rfl, ii rfl rfl, ii rfl rfl, trivial⟩⟩, trivial⟩⟩
          rintro ⟨⟩ h
          show SCode _ _ _ ⟨[(1, .c (.int .i64 a1_conn)), (2, .c (.str a2_txn)), (7, .c (.own 0 o0_19.length)), (9, .c (.ptr 1 0)), (10, .c (.vec a0_l.length 11 (gL cSProfile dSProfile a0_l))), (11, .c (.int .i64 (((a0_l).length : Int)))), (12, .c (.int .i64 t12_18))], [.arr 31 11 o0_19.length (gL cSProfile dSProfile o0_19), .box [.int .i64 ((a0_l.getD t12_18.toNat dSProfile).ID), .int .i64 ((a0_l.getD t12_18.toNat dSProfile).Level), .int .i64 ((a0_l.getD t12_18.toNat dSProfile).Purpose), .int .i64 ((a0_l.getD t12_18.toNat dSProfile).Kind), .int .i64 ((a0_l.getD t12_18.toNat dSProfile).Conn), .str ((a0_l.getD t12_18.toNat dSProfile).Txn), .int .i64 ((a0_l.getD t12_18.toNat dSProfile).Span_From), .int .i64 ((a0_l.getD t12_18.toNat dSProfile).Span_To), .int .i64 ((a0_l.getD t12_18.toNat dSProfile).Start), .int .i64 ((a0_l.getD t12_18.toNat dSProfile).Duration), .vec ((a0_l.getD t12_18.toNat dSProfile).Periods).length 2 (gL cSPeriod dSPeriod ((a0_l.getD t12_18.toNat dSProfile).Periods))]]⟩ _
          replace h : compose_candidates_p41 a0_l t12_18 o0_19 (fun t12_18 o0_19 => compose_candidates_l35 a0_l a1_conn a2_txn n_35 t12_18 o0_19) = some r := h
          unfold compose_candidates_p41 at h
          obtain ⟨g40, h⟩ := guard_out h
          refine SCode.region (show SOps _ _ _ [0, 1, 2, 3, 4] _ _ from ?_)
          refine SOps.q rfl (.plain rfl) rfl (q_move rfl rfl) ?_
          refine SOps.q rfl (.plain rfl) rfl (q_load_ptr_all rfl rfl rfl rfl rfl ty31) ?_
          refine SOps.q rfl (.plain rfl) rfl (q_bsliceL (c := cSProfile) (d0 := dSProfile) [a0_l.getD t12_18.toNat dSProfile] rfl rfl sl22 z31 rfl rfl rfl rfl rfl rfl rfl) ?_
          refine SOps.e rfl (.plain rfl) (e_appendL (c := cSProfile) (d0 := dSProfile) (l := o0_19) (l2 := [a0_l.getD t12_18.toNat dSProfile]) rfl rfl rfl rfl rfl rfl (.inl rfl) sl22 z31 rfl rfl oneSProfile g40.1 g40.2) ?_
          refine SOps.q rfl (.plain rfl) rfl (q_assign rfl rfl) ?_
          refine SOps.sub (st' := ⟨[(1, .c (.int .i64 a1_conn)), (2, .c (.str a2_txn)), (7, .c (.own 0 (o0_19 ++ ([a0_l.getD t12_18.toNat dSProfile])).length)), (10, .c (.vec a0_l.length 11 (gL cSProfile dSProfile a0_l))), (11, .c (.int .i64 (((a0_l).length : Int)))), (12, .c (.int .i64 t12_18))], [.arr 31 11 (o0_19 ++ ([a0_l.getD t12_18.toNat dSProfile])).length (gL cSProfile dSProfile (o0_19 ++ ([a0_l.getD t12_18.toNat dSProfile])))]⟩) (sub_gen [2] rfl rfl ⟨zc rfl rfl, zc rfl rfl, zc rfl rfl, zc rfl rfl, zc rfl rfl, zc rfl rfl, trivial⟩ ⟨oa rfl, trivial⟩) ?_
          refine SOps.nil ?_
          exact ⟨o0_19 ++ ([a0_l.getD t12_18.toNat dSProfile]), h, sub_gen [0] rfl rfl ⟨zc rfl rfl, zc rfl rfl, zc rfl rfl, zc rfl rfl, zc rfl rfl, zc rfl rfl, trivial⟩ ⟨oa rfl, trivial⟩⟩
        rintro o0_37 h
        show SCode _ _ _ ⟨[(1, .c (.int .i64 a1_conn)), (2, .c (.str a2_txn)), (7, .c (.own 0 o0_37.length)), (10, .c (.vec a0_l.length 11 (gL cSProfile dSProfile a0_l))), (11, .c (.int .i64 (((a0_l).length : Int)))), (12, .c (.int .i64 t12_18))], [.arr 31 11 o0_37.length (gL cSProfile dSProfile o0_37)]⟩ _
        replace h : compose_candidates_p38 t12_18 (fun t12_18 o0_19 => compose_candidates_l35 a0_l a1_conn a2_txn n_35 t12_18 o0_19) o0_37 = some r := h
        unfold compose_candidates_p38 at h
        refine SCode.region (show SOps _ _ _ [0, 1] _ _ from ?_)
        refine SOps.q rfl (.plain rfl) rfl (q_add rfl rfl rfl) ?_
        refine SOps.q rfl (.plain rfl) rfl (q_move rfl rfl) ?_
        refine SOps.sub (st' := ⟨[(1, .c (.int .i64 a1_conn)), (2, .c (.str a2_txn)), (7, .c (.own 0 o0_37.length)), (10, .c (.vec a0_l.length 11 (gL cSProfile dSProfile a0_l))), (11, .c (.int .i64 (((a0_l).length : Int)))), (12, .c (.int .i64 (IntKind.wrap .i64 (t12_18 + 1))))], [.arr 31 11 o0_37.length (gL cSProfile dSProfile o0_37)]⟩) (sub_gen [0] rfl rfl ⟨zc rfl rfl, zc rfl rfl, zc rfl rfl, zc rfl rfl, zc rfl rfl, zc rfl rfl, trivial⟩ ⟨oa rfl, trivial⟩) ?_
        refine SOps.nil ?_
        exact ⟨(n_35, (IntKind.wrap .i64 (t12_18 + 1), o0_37)), h, Nat.lt_succ_self n_35, sub_gen [0] rfl rfl ⟨zc rfl rfl, zc rfl rfl, zc rfl rfl, zc rfl rfl, zc rfl rfl, zc rfl rfl, trivial⟩ ⟨oa rfl, trivial⟩⟩
      refine SCode.cond_f rfl g36 ?_
      refine SCode.exit ?_
      exact ⟨o0_19, h, sub_gen [0] rfl rfl ⟨zc rfl rfl, trivial⟩ ⟨oa rfl, trivial⟩⟩
  rintro o0_1 h
  show SCode _ _ _ ⟨[(7, .c (.own 0 o0_1.length))], [.arr 31 11 o0_1.length (gL cSProfile dSProfile o0_1)]⟩ _
  replace h : compose_candidates_p2 o0_1 = some r := h
  unfold compose_candidates_p2 at h
  refine SCode.seq ?_
  refine SCode.region (show SOps _ _ _ [0, 1] _ _ from ?_)
  refine SOps.q rfl (.plain rfl) rfl (q_move rfl rfl) ?_
  refine SOps.q rfl (.plain rfl) rfl (q_assign rfl rfl) ?_
  refine SOps.sub (st' := ⟨[(6, .c (.own 0 o0_1.length))], [.arr 31 11 o0_1.length (gL cSProfile dSProfile o0_1)]⟩) (sub_gen [0] rfl rfl ⟨zc rfl rfl, trivial⟩ ⟨oa rfl, trivial⟩) ?_
  refine SOps.nil ?_
  refine SCode.ret ?_
  obtain rfl := Option.some.inj h
  exact ⟨⟨[(6, .c (.vec o0_1.length 11 (gL cSProfile dSProfile o0_1)))], []⟩, _, sub_gen [] rfl rfl ⟨⟨_, rfl, .inr (.inl ⟨_, _, _, _, _, _, _, rfl, rfl, rfl, Nat.le_refl _, fun _ _ _ _ => rfl, by decide⟩)⟩, trivial⟩ trivial, resA1 (v := .c (.vec o0_1.length 11 (gL cSProfile dSProfile o0_1))) rfl rfl, rfl⟩
theorem slices_Sort_int_int_ok (F : Nat) (a0_x : List Int) (r : List Int) (h : slices_Sort_int_int F a0_x = some r) :
    SFun Try.prog 48 [.arr 3 1 a0_x.length (gL (cInt .i64) 0 a0_x)] [.c (.own 0 a0_x.length)] (fun x os => x = .t [] ∧ os = [.arr 3 1 r.length (gL (cInt .i64) 0 r)]) := by
  obtain ⟨hg, h⟩ := guard_out h
  obtain rfl := Option.some.inj h
  exact sfun_sort (fun blk off cap zs w => Try.slices_Sort_int blk off cap zs w) (fun p cap w => Try.slices_Sort_int_none p cap w) a0_x hg
end Go.Proofs.Ytjpooimkhkhgkaa.W
