/- Written by a program of ours (wip/eng/gen.py): the functions compute their models. -/
import Derived.Test.YtcccjpkfifefaaaFacts
import Derived.Test.YtcccjpkfifefaaaV7x3
namespace Go.Proofs.Ytcccjpkfifefaaa.W
open Go Go.Proofs Go.Proofs.Ytcccjpkfifefaaa.E Go.Proofs.Ytcccjpkfifefaaa.M
set_option linter.unusedVariables false
set_option maxRecDepth 100000 in
set_option maxHeartbeats 8000000 in
theorem chargenetlaw13_exampleHolds_ok (F : Nat)  (r : Bool) (h : chargenetlaw13_exampleHolds F  = some r) :
    SFun Try.prog 9 [] [] (fun x _ => x = .c (.bool r)) := by
  refine SFun.of (n := 121) Try.func9 rfl rfl rfl ?_
  unfold chargenetlaw13_exampleHolds at h
  show SCode _ _ _ ⟨[], []⟩ _
  refine SCode.seq ?_
  refine SCode.region (show SOps _ _ _ [0] _ _ from ?_)
  refine SOps.q rfl (.plain rfl) rfl (q_assign rfl rfl) ?_
  refine SOps.sub (st' := ⟨[], []⟩) (sub_gen [] rfl rfl trivial trivial) ?_
  refine SOps.nil ?_
  refine SCode.seq ?_
  refine SCode.region (show SOps _ _ _ [0, 1, 2, 3] _ _ from ?_)
  refine SOps.q rfl (.plain rfl) rfl (q_build2 rfl rfl pl23 rfl) ?_
  refine SOps.q rfl (.plain rfl) rfl (q_build2 rfl rfl pl25 rfl) ?_
  refine SOps.e rfl (.plain rfl) (e_alloc rfl rfl rfl z25) ?_
  refine SOps.e rfl (.plain rfl) (e_store_box rfl rfl rfl rfl rfl ty25 rfl rfl rfl rfl) ?_
  refine SOps.sub (st' := ⟨[(1, .c (.ptr 0 0))], [.box [.str (ByteArray.mk #[101]), .int .i64 2, .int .i64 0, .int .i64 10, .int .i64 20, .int .i64 5000, .bool false]]⟩) (sub_gen [0] rfl rfl ⟨zc rfl rfl, trivial⟩ ⟨⟨_, rfl, ⟨ii rfl rfl, ii rfl rfl, ii rfl rfl, ii rfl rfl, ii rfl rfl, ii rfl rfl, ii rfl rfl, trivial⟩⟩, trivial⟩) ?_
  refine SOps.nil ?_
  refine SCode.seq ?_
  refine SCode.region (show SOps _ _ _ [0, 1, 2, 3] _ _ from ?_)
  refine SOps.q rfl (.plain rfl) rfl (q_build2 rfl rfl pl23 rfl) ?_
  refine SOps.q rfl (.plain rfl) rfl (q_build2 rfl rfl pl25 rfl) ?_
  refine SOps.e rfl (.plain rfl) (e_alloc rfl rfl rfl z25) ?_
  refine SOps.e rfl (.plain rfl) (e_store_box rfl rfl rfl rfl rfl ty25 rfl rfl rfl rfl) ?_
  refine SOps.sub (st' := ⟨[(1, .c (.ptr 0 0)), (2, .c (.ptr 1 0))], [.box [.str (ByteArray.mk #[101]), .int .i64 2, .int .i64 0, .int .i64 10, .int .i64 20, .int .i64 5000, .bool false], .box [.str (ByteArray.mk #[102]), .int .i64 1, .int .i64 0, .int .i64 15, .int .i64 30, .int .i64 3000, .bool false]]⟩) (sub_gen [0, 1] rfl rfl ⟨zc rfl rfl, zc rfl rfl, trivial⟩ ⟨⟨_, rfl, ⟨ii rfl rfl, ii rfl rfl, ii rfl rfl, ii rfl rfl, ii rfl rfl, ii rfl rfl, ii rfl rfl, trivial⟩⟩, ⟨_, rfl, ⟨ii rfl rfl, ii rfl rfl, ii rfl rfl, ii rfl rfl, ii rfl rfl, ii rfl rfl, ii rfl rfl, trivial⟩⟩, trivial⟩) ?_
  refine SOps.nil ?_
  refine SCode.seq ?_
  obtain ⟨g1, h⟩ := guard_out h
  refine SCode.region (show SOps _ _ _ [0, 1, 2, 3] _ _ from ?_)
  refine SOps.e rfl (.plain rfl) (e_makeL (c := cSFeeder) (d0 := dSFeeder) rfl rfl rfl rfl rfl sl27 z108 rfl rfl rfl g1.1 (Int.le_refl _) g1.2.1 g1.2.2) ?_
  refine SOps.q rfl (.plain rfl) rfl (q_build2 rfl rfl pl30 rfl) ?_
  refine SOps.e rfl (.plain rfl) (e_alloc rfl rfl rfl z30) ?_
  refine SOps.e rfl (.plain rfl) (e_store_box rfl rfl rfl rfl rfl ty30 rfl rfl rfl rfl) ?_
  refine SOps.sub (st' := ⟨[(1, .c (.ptr 0 0)), (2, .c (.ptr 1 0)), (3, .c (.ptr 2 0))], [.box [.str (ByteArray.mk #[101]), .int .i64 2, .int .i64 0, .int .i64 10, .int .i64 20, .int .i64 5000, .bool false], .box [.str (ByteArray.mk #[102]), .int .i64 1, .int .i64 0, .int .i64 15, .int .i64 30, .int .i64 3000, .bool false], .box [.str ByteArray.empty, .own 3 (List.replicate (1 : Int).toNat dSFeeder).length, .raw (.slice none 0 0)], .arr 108 5 (List.replicate (1 : Int).toNat dSFeeder).length (gL cSFeeder dSFeeder (List.replicate (1 : Int).toNat dSFeeder))]⟩) (sub_gen [0, 1, 3, 2] rfl rfl ⟨zc rfl rfl, zc rfl rfl, zc rfl rfl, trivial⟩ ⟨⟨_, rfl, ⟨ii rfl rfl, ii rfl rfl, ii rfl rfl, ii rfl rfl, ii rfl rfl, ii rfl rfl, ii rfl rfl, trivial⟩⟩, ⟨_, rfl, ⟨ii rfl rfl, ii rfl rfl, ii rfl rfl, ii rfl rfl, ii rfl rfl, ii rfl rfl, ii rfl rfl, trivial⟩⟩, ⟨_, rfl, ⟨ii rfl rfl, ii rfl rfl, ii rfl rfl, trivial⟩⟩, oa rfl, trivial⟩) ?_
  refine SOps.nil ?_
  refine SCode.seq ?_
  refine SCode.region (show SOps _ _ _ [0, 1, 2] _ _ from ?_)
  refine SOps.q rfl (.plain rfl) rfl (q_load_ptr_all rfl rfl rfl rfl rfl ty25) ?_
  refine SOps.e rfl (.plain rfl) (e_alloc rfl rfl rfl z25) ?_
  refine SOps.e rfl (.plain rfl) (e_store_box rfl rfl rfl rfl rfl ty25 rfl rfl rfl rfl) ?_
  refine SOps.sub (st' := ⟨[(1, .c (.ptr 0 0)), (2, .c (.ptr 1 0)), (3, .c (.ptr 2 0)), (4, .c (.ptr 4 0))], [.box [.str (ByteArray.mk #[101]), .int .i64 2, .int .i64 0, .int .i64 10, .int .i64 20, .int .i64 5000, .bool false], .box [.str (ByteArray.mk #[102]), .int .i64 1, .int .i64 0, .int .i64 15, .int .i64 30, .int .i64 3000, .bool false], .box [.str ByteArray.empty, .own 3 (List.replicate (1 : Int).toNat dSFeeder).length, .raw (.slice none 0 0)], .arr 108 5 (List.replicate (1 : Int).toNat dSFeeder).length (gL cSFeeder dSFeeder (List.replicate (1 : Int).toNat dSFeeder)), .box [.str (ByteArray.mk #[101]), .int .i64 2, .int .i64 0, .int .i64 10, .int .i64 20, .int .i64 5000, .bool false]]⟩) (sub_gen [0, 1, 2, 3, 4] rfl rfl ⟨zc rfl rfl, zc rfl rfl, zc rfl rfl, zc rfl rfl, trivial⟩ ⟨⟨_, rfl, ⟨ii rfl rfl, ii rfl rfl, ii rfl rfl, ii rfl rfl, ii rfl rfl, ii rfl rfl, ii rfl rfl, trivial⟩⟩, ⟨_, rfl, ⟨ii rfl rfl, ii rfl rfl, ii rfl rfl, ii rfl rfl, ii rfl rfl, ii rfl rfl, ii rfl rfl, trivial⟩⟩, ⟨_, rfl, ⟨ii rfl rfl, ii rfl rfl, ii rfl rfl, trivial⟩⟩, oa rfl, ⟨_, rfl, ⟨ii rfl rfl, ii rfl rfl, ii rfl rfl, ii rfl rfl, ii rfl rfl, ii rfl rfl, ii rfl rfl, trivial⟩⟩, trivial⟩) ?_
  refine SOps.nil ?_
  refine SCode.seq ?_
  refine SCode.region (show SOps _ _ _ [0, 1] _ _ from ?_)
  refine SOps.q rfl (.plain rfl) rfl (q_field_ptr rfl rfl fd25_2) ?_
  refine SOps.e rfl (.plain rfl) (e_store_box rfl rfl rfl rfl rfl ty3 rfl rfl rfl rfl) ?_
  refine SOps.sub (st' := ⟨[(1, .c (.ptr 0 0)), (2, .c (.ptr 1 0)), (3, .c (.ptr 2 0)), (4, .c (.ptr 4 0))], [.box [.str (ByteArray.mk #[101]), .int .i64 2, .int .i64 0, .int .i64 10, .int .i64 20, .int .i64 5000, .bool false], .box [.str (ByteArray.mk #[102]), .int .i64 1, .int .i64 0, .int .i64 15, .int .i64 30, .int .i64 3000, .bool false], .box [.str ByteArray.empty, .own 3 (List.replicate (1 : Int).toNat dSFeeder).length, .raw (.slice none 0 0)], .arr 108 5 (List.replicate (1 : Int).toNat dSFeeder).length (gL cSFeeder dSFeeder (List.replicate (1 : Int).toNat dSFeeder)), .box [.str (ByteArray.mk #[101]), .int .i64 2, .int .i64 1, .int .i64 10, .int .i64 20, .int .i64 5000, .bool false]]⟩) (sub_gen [0, 1, 2, 3, 4] rfl rfl ⟨zc rfl rfl, zc rfl rfl, zc rfl rfl, zc rfl rfl, trivial⟩ ⟨⟨_, rfl, ⟨ii rfl rfl, ii rfl rfl, ii rfl rfl, ii rfl rfl, ii rfl rfl, ii rfl rfl, ii rfl rfl, trivial⟩⟩, ⟨_, rfl, ⟨ii rfl rfl, ii rfl rfl, ii rfl rfl, ii rfl rfl, ii rfl rfl, ii rfl rfl, ii rfl rfl, trivial⟩⟩, ⟨_, rfl, ⟨ii rfl rfl, ii rfl rfl, ii rfl rfl, trivial⟩⟩, oa rfl, ⟨_, rfl, ⟨ii rfl rfl, ii rfl rfl, ii rfl rfl, ii rfl rfl, ii rfl rfl, ii rfl rfl, ii rfl rfl, trivial⟩⟩, trivial⟩) ?_
  refine SOps.nil ?_
  refine SCode.seq ?_
  obtain ⟨c_2, g3, h⟩ := bind_out h
  try dsimp only at h
  refine SCode.region (show SOps _ _ _ [0, 1, 2, 3, 4, 5, 6] _ _ from ?_)
  refine SOps.q rfl (.plain rfl) rfl (q_load_ptr_all rfl rfl rfl rfl rfl ty25) ?_
  refine SOps.q rfl (.plain rfl) rfl (q_call (curtail_Put_ok F (([] : List SCurtail)) (SCurtail.mk (ByteArray.mk #[102]) 1 0 15 30 3000 false) c_2 g3) [] rfl fn12 ⟨⟨_, rfl, .inr (.inr ⟨_, _, rfl, rfl⟩)⟩, ⟨rfl, rfl⟩, trivial⟩ (.inl rfl)) ?_
  refine SOps.q rfl (.plain rfl) rfl (q_move rfl rfl) ?_
  refine SOps.q rfl (.plain rfl) rfl (q_extract rfl rfl rfl) ?_
  refine SOps.q rfl (.plain rfl) rfl (q_extract rfl rfl rfl) ?_
  refine SOps.q rfl (.plain rfl) rfl (q_assign rfl rfl) ?_
  refine SOps.q rfl (.plain rfl) rfl (q_assign rfl rfl) ?_
  refine SOps.sub (st' := ⟨[(1, .c (.ptr 0 0)), (2, .c (.ptr 1 0)), (3, .c (.ptr 2 0)), (4, .c (.ptr 4 0)), (5, .c (.vec c_2.1.length 7 (gL cSCurtail dSCurtail c_2.1))), (6, .c (.int .i64 c_2.2))], [.box [.str (ByteArray.mk #[101]), .int .i64 2, .int .i64 0, .int .i64 10, .int .i64 20, .int .i64 5000, .bool false], .box [.str (ByteArray.mk #[102]), .int .i64 1, .int .i64 0, .int .i64 15, .int .i64 30, .int .i64 3000, .bool false], .box [.str ByteArray.empty, .own 3 (List.replicate (1 : Int).toNat dSFeeder).length, .raw (.slice none 0 0)], .arr 108 5 (List.replicate (1 : Int).toNat dSFeeder).length (gL cSFeeder dSFeeder (List.replicate (1 : Int).toNat dSFeeder)), .box [.str (ByteArray.mk #[101]), .int .i64 2, .int .i64 1, .int .i64 10, .int .i64 20, .int .i64 5000, .bool false]]⟩) (sub_gen [0, 1, 2, 3, 4] rfl rfl ⟨zc rfl rfl, zc rfl rfl, zc rfl rfl, zc rfl rfl, zc rfl rfl, zc rfl rfl, trivial⟩ ⟨⟨_, rfl, ⟨ii rfl rfl, ii rfl rfl, ii rfl rfl, ii rfl rfl, ii rfl rfl, ii rfl rfl, ii rfl rfl, trivial⟩⟩, ⟨_, rfl, ⟨ii rfl rfl, ii rfl rfl, ii rfl rfl, ii rfl rfl, ii rfl rfl, ii rfl rfl, ii rfl rfl, trivial⟩⟩, ⟨_, rfl, ⟨ii rfl rfl, ii rfl rfl, ii rfl rfl, trivial⟩⟩, oa rfl, ⟨_, rfl, ⟨ii rfl rfl, ii rfl rfl, ii rfl rfl, ii rfl rfl, ii rfl rfl, ii rfl rfl, ii rfl rfl, trivial⟩⟩, trivial⟩) ?_
  refine SOps.nil ?_
  refine SCode.seq ?_
  obtain ⟨c_4, g5, h⟩ := bind_out h
  try dsimp only at h
  refine SCode.region (show SOps _ _ _ [0, 1, 2, 3, 4, 5, 6, 7] _ _ from ?_)
  refine SOps.q rfl (.plain rfl) rfl (q_move rfl rfl) ?_
  refine SOps.q rfl (.plain rfl) rfl (q_load_ptr_all rfl rfl rfl rfl rfl ty25) ?_
  refine SOps.q rfl (.plain rfl) rfl (q_call (curtail_Put_ok F c_2.1 (SCurtail.mk (ByteArray.mk #[101]) 2 0 10 20 5000 false) c_4 g5) [] rfl fn12 ⟨⟨_, rfl, .inl ⟨rfl, rfl⟩⟩, ⟨rfl, rfl⟩, trivial⟩ (.inl rfl)) ?_
  refine SOps.q rfl (.plain rfl) rfl (q_move rfl rfl) ?_
  refine SOps.q rfl (.plain rfl) rfl (q_extract rfl rfl rfl) ?_
  refine SOps.q rfl (.plain rfl) rfl (q_extract rfl rfl rfl) ?_
  refine SOps.q rfl (.plain rfl) rfl (q_assign rfl rfl) ?_
  refine SOps.q rfl (.plain rfl) rfl (q_assign rfl rfl) ?_
  refine SOps.sub (st' := ⟨[(1, .c (.ptr 0 0)), (2, .c (.ptr 1 0)), (3, .c (.ptr 2 0)), (4, .c (.ptr 4 0)), (5, .c (.vec c_4.1.length 7 (gL cSCurtail dSCurtail c_4.1))), (6, .c (.int .i64 c_2.2)), (7, .c (.int .i64 c_4.2))], [.box [.str (ByteArray.mk #[101]), .int .i64 2, .int .i64 0, .int .i64 10, .int .i64 20, .int .i64 5000, .bool false], .box [.str (ByteArray.mk #[102]), .int .i64 1, .int .i64 0, .int .i64 15, .int .i64 30, .int .i64 3000, .bool false], .box [.str ByteArray.empty, .own 3 (List.replicate (1 : Int).toNat dSFeeder).length, .raw (.slice none 0 0)], .arr 108 5 (List.replicate (1 : Int).toNat dSFeeder).length (gL cSFeeder dSFeeder (List.replicate (1 : Int).toNat dSFeeder)), .box [.str (ByteArray.mk #[101]), .int .i64 2, .int .i64 1, .int .i64 10, .int .i64 20, .int .i64 5000, .bool false]]⟩) (sub_gen [0, 1, 2, 3, 4] rfl rfl ⟨zc rfl rfl, zc rfl rfl, zc rfl rfl, zc rfl rfl, zc rfl rfl, zc rfl rfl, zc rfl rfl, trivial⟩ ⟨⟨_, rfl, ⟨ii rfl rfl, ii rfl rfl, ii rfl rfl, ii rfl rfl, ii rfl rfl, ii rfl rfl, ii rfl rfl, trivial⟩⟩, ⟨_, rfl, ⟨ii rfl rfl, ii rfl rfl, ii rfl rfl, ii rfl rfl, ii rfl rfl, ii rfl rfl, ii rfl rfl, trivial⟩⟩, ⟨_, rfl, ⟨ii rfl rfl, ii rfl rfl, ii rfl rfl, trivial⟩⟩, oa rfl, ⟨_, rfl, ⟨ii rfl rfl, ii rfl rfl, ii rfl rfl, ii rfl rfl, ii rfl rfl, ii rfl rfl, ii rfl rfl, trivial⟩⟩, trivial⟩) ?_
  refine SOps.nil ?_
  refine SCode.seq ?_
  refine SCode.region (show SOps _ _ _ [0, 1, 2] _ _ from ?_)
  refine SOps.q rfl (.plain rfl) rfl (q_load_ptr_all rfl rfl rfl rfl rfl ty25) ?_
  refine SOps.e rfl (.plain rfl) (e_alloc rfl rfl rfl z25) ?_
  refine SOps.e rfl (.plain rfl) (e_store_box rfl rfl rfl rfl rfl ty25 rfl rfl rfl rfl) ?_
  refine SOps.sub (st' := ⟨[(1, .c (.ptr 0 0)), (2, .c (.ptr 1 0)), (3, .c (.ptr 2 0)), (4, .c (.ptr 4 0)), (5, .c (.vec c_4.1.length 7 (gL cSCurtail dSCurtail c_4.1))), (6, .c (.int .i64 c_2.2)), (7, .c (.int .i64 c_4.2)), (8, .c (.ptr 5 0))], [.box [.str (ByteArray.mk #[101]), .int .i64 2, .int .i64 0, .int .i64 10, .int .i64 20, .int .i64 5000, .bool false], .box [.str (ByteArray.mk #[102]), .int .i64 1, .int .i64 0, .int .i64 15, .int .i64 30, .int .i64 3000, .bool false], .box [.str ByteArray.empty, .own 3 (List.replicate (1 : Int).toNat dSFeeder).length, .raw (.slice none 0 0)], .arr 108 5 (List.replicate (1 : Int).toNat dSFeeder).length (gL cSFeeder dSFeeder (List.replicate (1 : Int).toNat dSFeeder)), .box [.str (ByteArray.mk #[101]), .int .i64 2, .int .i64 1, .int .i64 10, .int .i64 20, .int .i64 5000, .bool false], .box [.str (ByteArray.mk #[101]), .int .i64 2, .int .i64 0, .int .i64 10, .int .i64 20, .int .i64 5000, .bool false]]⟩) (sub_gen [0, 1, 2, 3, 4, 5] rfl rfl ⟨zc rfl rfl, zc rfl rfl, zc rfl rfl, zc rfl rfl, zc rfl rfl, zc rfl rfl, zc rfl rfl, zc rfl rfl, trivial⟩ ⟨⟨_, rfl, ⟨ii rfl rfl, ii rfl rfl, ii rfl rfl, ii rfl rfl, ii rfl rfl, ii rfl rfl, ii rfl rfl, trivial⟩⟩, ⟨_, rfl, ⟨ii rfl rfl, ii rfl rfl, ii rfl rfl, ii rfl rfl, ii rfl rfl, ii rfl rfl, ii rfl rfl, trivial⟩⟩, ⟨_, rfl, ⟨ii rfl rfl, ii rfl rfl, ii rfl rfl, trivial⟩⟩, oa rfl, ⟨_, rfl, ⟨ii rfl rfl, ii rfl rfl, ii rfl rfl, ii rfl rfl, ii rfl rfl, ii rfl rfl, ii rfl rfl, trivial⟩⟩, ⟨_, rfl, ⟨ii rfl rfl, ii rfl rfl, ii rfl rfl, ii rfl rfl, ii rfl rfl, ii rfl rfl, ii rfl rfl, trivial⟩⟩, trivial⟩) ?_
  refine SOps.nil ?_
  refine SCode.seq ?_
  refine SCode.region (show SOps _ _ _ [0, 1] _ _ from ?_)
  refine SOps.q rfl (.plain rfl) rfl (q_field_ptr rfl rfl fd25_1) ?_
  refine SOps.e rfl (.plain rfl) (e_store_box rfl rfl rfl rfl rfl ty3 rfl rfl rfl rfl) ?_
  refine SOps.sub (st' := ⟨[(1, .c (.ptr 0 0)), (2, .c (.ptr 1 0)), (3, .c (.ptr 2 0)), (4, .c (.ptr 4 0)), (5, .c (.vec c_4.1.length 7 (gL cSCurtail dSCurtail c_4.1))), (6, .c (.int .i64 c_2.2)), (7, .c (.int .i64 c_4.2)), (8, .c (.ptr 5 0))], [.box [.str (ByteArray.mk #[101]), .int .i64 2, .int .i64 0, .int .i64 10, .int .i64 20, .int .i64 5000, .bool false], .box [.str (ByteArray.mk #[102]), .int .i64 1, .int .i64 0, .int .i64 15, .int .i64 30, .int .i64 3000, .bool false], .box [.str ByteArray.empty, .own 3 (List.replicate (1 : Int).toNat dSFeeder).length, .raw (.slice none 0 0)], .arr 108 5 (List.replicate (1 : Int).toNat dSFeeder).length (gL cSFeeder dSFeeder (List.replicate (1 : Int).toNat dSFeeder)), .box [.str (ByteArray.mk #[101]), .int .i64 2, .int .i64 1, .int .i64 10, .int .i64 20, .int .i64 5000, .bool false], .box [.str (ByteArray.mk #[101]), .int .i64 1, .int .i64 0, .int .i64 10, .int .i64 20, .int .i64 5000, .bool false]]⟩) (sub_gen [0, 1, 2, 3, 4, 5] rfl rfl ⟨zc rfl rfl, zc rfl rfl, zc rfl rfl, zc rfl rfl, zc rfl rfl, zc rfl rfl, zc rfl rfl, zc rfl rfl, trivial⟩ ⟨⟨_, rfl, ⟨ii rfl rfl, ii rfl rfl, ii rfl rfl, ii rfl rfl, ii rfl rfl, ii rfl rfl, ii rfl rfl, trivial⟩⟩, ⟨_, rfl, ⟨ii rfl rfl, ii rfl rfl, ii rfl rfl, ii rfl rfl, ii rfl rfl, ii rfl rfl, ii rfl rfl, trivial⟩⟩, ⟨_, rfl, ⟨ii rfl rfl, ii rfl rfl, ii rfl rfl, trivial⟩⟩, oa rfl, ⟨_, rfl, ⟨ii rfl rfl, ii rfl rfl, ii rfl rfl, ii rfl rfl, ii rfl rfl, ii rfl rfl, ii rfl rfl, trivial⟩⟩, ⟨_, rfl, ⟨ii rfl rfl, ii rfl rfl, ii rfl rfl, ii rfl rfl, ii rfl rfl, ii rfl rfl, ii rfl rfl, trivial⟩⟩, trivial⟩) ?_
  refine SOps.nil ?_
  refine SCode.seq ?_
  obtain ⟨c_6, g7, h⟩ := bind_out h
  try dsimp only at h
  refine SCode.region (show SOps _ _ _ [0, 1, 2, 3, 4, 5, 6, 7] _ _ from ?_)
  refine SOps.q rfl (.plain rfl) rfl (q_move rfl rfl) ?_
  refine SOps.q rfl (.plain rfl) rfl (q_load_ptr_all rfl rfl rfl rfl rfl ty25) ?_
  refine SOps.q rfl (.plain rfl) rfl (q_call (curtail_Put_ok F c_4.1 (SCurtail.mk (ByteArray.mk #[101]) 1 0 10 20 5000 false) c_6 g7) [] rfl fn12 ⟨⟨_, rfl, .inl ⟨rfl, rfl⟩⟩, ⟨rfl, rfl⟩, trivial⟩ (.inl rfl)) ?_
  refine SOps.q rfl (.plain rfl) rfl (q_move rfl rfl) ?_
  refine SOps.q rfl (.plain rfl) rfl (q_extract rfl rfl rfl) ?_
  refine SOps.q rfl (.plain rfl) rfl (q_extract rfl rfl rfl) ?_
  refine SOps.q rfl (.plain rfl) rfl (q_assign rfl rfl) ?_
  refine SOps.q rfl (.plain rfl) rfl (q_assign rfl rfl) ?_
  refine SOps.sub (st' := ⟨[(1, .c (.ptr 0 0)), (2, .c (.ptr 1 0)), (3, .c (.ptr 2 0)), (4, .c (.ptr 4 0)), (5, .c (.vec c_4.1.length 7 (gL cSCurtail dSCurtail c_4.1))), (6, .c (.int .i64 c_2.2)), (7, .c (.int .i64 c_4.2)), (8, .c (.ptr 5 0)), (10, .c (.int .i64 c_6.2))], [.box [.str (ByteArray.mk #[101]), .int .i64 2, .int .i64 0, .int .i64 10, .int .i64 20, .int .i64 5000, .bool false], .box [.str (ByteArray.mk #[102]), .int .i64 1, .int .i64 0, .int .i64 15, .int .i64 30, .int .i64 3000, .bool false], .box [.str ByteArray.empty, .own 3 (List.replicate (1 : Int).toNat dSFeeder).length, .raw (.slice none 0 0)], .arr 108 5 (List.replicate (1 : Int).toNat dSFeeder).length (gL cSFeeder dSFeeder (List.replicate (1 : Int).toNat dSFeeder)), .box [.str (ByteArray.mk #[101]), .int .i64 2, .int .i64 1, .int .i64 10, .int .i64 20, .int .i64 5000, .bool false], .box [.str (ByteArray.mk #[101]), .int .i64 1, .int .i64 0, .int .i64 10, .int .i64 20, .int .i64 5000, .bool false]]⟩) (sub_gen [0, 1, 2, 3, 4, 5] rfl rfl ⟨zc rfl rfl, zc rfl rfl, zc rfl rfl, zc rfl rfl, zc rfl rfl, zc rfl rfl, zc rfl rfl, zc rfl rfl, zc rfl rfl, trivial⟩ ⟨⟨_, rfl, ⟨ii rfl rfl, ii rfl rfl, ii rfl rfl, ii rfl rfl, ii rfl rfl, ii rfl rfl, ii rfl rfl, trivial⟩⟩, ⟨_, rfl, ⟨ii rfl rfl, ii rfl rfl, ii rfl rfl, ii rfl rfl, ii rfl rfl, ii rfl rfl, ii rfl rfl, trivial⟩⟩, ⟨_, rfl, ⟨ii rfl rfl, ii rfl rfl, ii rfl rfl, trivial⟩⟩, oa rfl, ⟨_, rfl, ⟨ii rfl rfl, ii rfl rfl, ii rfl rfl, ii rfl rfl, ii rfl rfl, ii rfl rfl, ii rfl rfl, trivial⟩⟩, ⟨_, rfl, ⟨ii rfl rfl, ii rfl rfl, ii rfl rfl, ii rfl rfl, ii rfl rfl, ii rfl rfl, ii rfl rfl, trivial⟩⟩, trivial⟩) ?_
  refine SOps.nil ?_
  refine SCode.seq ?_
  refine SCode.region (show SOps _ _ _ [0, 1, 2, 3] _ _ from ?_)
  refine SOps.q rfl (.plain rfl) rfl (q_field_ptr rfl rfl fd25_1) ?_
  refine SOps.e rfl (.plain rfl) (e_store_box rfl rfl rfl rfl rfl ty3 rfl rfl rfl rfl) ?_
  refine SOps.q rfl (.plain rfl) rfl (q_field_ptr rfl rfl fd25_4) ?_
  refine SOps.e rfl (.plain rfl) (e_store_box rfl rfl rfl rfl rfl ty3 rfl rfl rfl rfl) ?_
  refine SOps.sub (st' := ⟨[(1, .c (.ptr 0 0)), (2, .c (.ptr 1 0)), (3, .c (.ptr 2 0)), (4, .c (.ptr 4 0)), (5, .c (.vec c_4.1.length 7 (gL cSCurtail dSCurtail c_4.1))), (6, .c (.int .i64 c_2.2)), (7, .c (.int .i64 c_4.2)), (8, .c (.ptr 5 0)), (10, .c (.int .i64 c_6.2))], [.box [.str (ByteArray.mk #[101]), .int .i64 2, .int .i64 0, .int .i64 10, .int .i64 20, .int .i64 5000, .bool false], .box [.str (ByteArray.mk #[102]), .int .i64 1, .int .i64 0, .int .i64 15, .int .i64 30, .int .i64 3000, .bool false], .box [.str ByteArray.empty, .own 3 (List.replicate (1 : Int).toNat dSFeeder).length, .raw (.slice none 0 0)], .arr 108 5 (List.replicate (1 : Int).toNat dSFeeder).length (gL cSFeeder dSFeeder (List.replicate (1 : Int).toNat dSFeeder)), .box [.str (ByteArray.mk #[101]), .int .i64 2, .int .i64 1, .int .i64 10, .int .i64 20, .int .i64 5000, .bool false], .box [.str (ByteArray.mk #[101]), .int .i64 2, .int .i64 0, .int .i64 10, .int .i64 20, .int .i64 1, .bool false]]⟩) (sub_gen [0, 1, 2, 3, 4, 5] rfl rfl ⟨zc rfl rfl, zc rfl rfl, zc rfl rfl, zc rfl rfl, zc rfl rfl, zc rfl rfl, zc rfl rfl, zc rfl rfl, zc rfl rfl, trivial⟩ ⟨⟨_, rfl, ⟨ii rfl rfl, ii rfl rfl, ii rfl rfl, ii rfl rfl, ii rfl rfl, ii rfl rfl, ii rfl rfl, trivial⟩⟩, ⟨_, rfl, ⟨ii rfl rfl, ii rfl rfl, ii rfl rfl, ii rfl rfl, ii rfl rfl, ii rfl rfl, ii rfl rfl, trivial⟩⟩, ⟨_, rfl, ⟨ii rfl rfl, ii rfl rfl, ii rfl rfl, trivial⟩⟩, oa rfl, ⟨_, rfl, ⟨ii rfl rfl, ii rfl rfl, ii rfl rfl, ii rfl rfl, ii rfl rfl, ii rfl rfl, ii rfl rfl, trivial⟩⟩, ⟨_, rfl, ⟨ii rfl rfl, ii rfl rfl, ii rfl rfl, ii rfl rfl, ii rfl rfl, ii rfl rfl, ii rfl rfl, trivial⟩⟩, trivial⟩) ?_
  refine SOps.nil ?_
  refine SCode.seq ?_
  obtain ⟨c_8, g9, h⟩ := bind_out h
  try dsimp only at h
  refine SCode.region (show SOps _ _ _ [0, 1, 2, 3, 4, 5, 6, 7] _ _ from ?_)
  refine SOps.q rfl (.plain rfl) rfl (q_move rfl rfl) ?_
  refine SOps.q rfl (.plain rfl) rfl (q_load_ptr_all rfl rfl rfl rfl rfl ty25) ?_
  refine SOps.q rfl (.plain rfl) rfl (q_call (curtail_Put_ok F c_4.1 (SCurtail.mk (ByteArray.mk #[101]) 2 0 10 20 1 false) c_8 g9) [] rfl fn12 ⟨⟨_, rfl, .inl ⟨rfl, rfl⟩⟩, ⟨rfl, rfl⟩, trivial⟩ (.inl rfl)) ?_
  refine SOps.q rfl (.plain rfl) rfl (q_move rfl rfl) ?_
  refine SOps.q rfl (.plain rfl) rfl (q_extract rfl rfl rfl) ?_
  refine SOps.q rfl (.plain rfl) rfl (q_extract rfl rfl rfl) ?_
  refine SOps.q rfl (.plain rfl) rfl (q_assign rfl rfl) ?_
  refine SOps.q rfl (.plain rfl) rfl (q_assign rfl rfl) ?_
  refine SOps.sub (st' := ⟨[(1, .c (.ptr 0 0)), (2, .c (.ptr 1 0)), (3, .c (.ptr 2 0)), (4, .c (.ptr 4 0)), (5, .c (.vec c_4.1.length 7 (gL cSCurtail dSCurtail c_4.1))), (6, .c (.int .i64 c_2.2)), (7, .c (.int .i64 c_4.2)), (10, .c (.int .i64 c_6.2)), (12, .c (.int .i64 c_8.2))], [.box [.str (ByteArray.mk #[101]), .int .i64 2, .int .i64 0, .int .i64 10, .int .i64 20, .int .i64 5000, .bool false], .box [.str (ByteArray.mk #[102]), .int .i64 1, .int .i64 0, .int .i64 15, .int .i64 30, .int .i64 3000, .bool false], .box [.str ByteArray.empty, .own 3 (List.replicate (1 : Int).toNat dSFeeder).length, .raw (.slice none 0 0)], .arr 108 5 (List.replicate (1 : Int).toNat dSFeeder).length (gL cSFeeder dSFeeder (List.replicate (1 : Int).toNat dSFeeder)), .box [.str (ByteArray.mk #[101]), .int .i64 2, .int .i64 1, .int .i64 10, .int .i64 20, .int .i64 5000, .bool false]]⟩) (sub_gen [0, 1, 2, 3, 4] rfl rfl ⟨zc rfl rfl, zc rfl rfl, zc rfl rfl, zc rfl rfl, zc rfl rfl, zc rfl rfl, zc rfl rfl, zc rfl rfl, zc rfl rfl, trivial⟩ ⟨⟨_, rfl, ⟨ii rfl rfl, ii rfl rfl, ii rfl rfl, ii rfl rfl, ii rfl rfl, ii rfl rfl, ii rfl rfl, trivial⟩⟩, ⟨_, rfl, ⟨ii rfl rfl, ii rfl rfl, ii rfl rfl, ii rfl rfl, ii rfl rfl, ii rfl rfl, ii rfl rfl, trivial⟩⟩, ⟨_, rfl, ⟨ii rfl rfl, ii rfl rfl, ii rfl rfl, trivial⟩⟩, oa rfl, ⟨_, rfl, ⟨ii rfl rfl, ii rfl rfl, ii rfl rfl, ii rfl rfl, ii rfl rfl, ii rfl rfl, ii rfl rfl, trivial⟩⟩, trivial⟩) ?_
  refine SOps.nil ?_
  refine SCode.seq ?_
  refine SCode.sub (st' := ⟨[(1, .c (.ptr 0 0)), (2, .c (.ptr 1 0)), (3, .c (.ptr 2 0)), (4, .c (.ptr 3 0)), (5, .c (.vec c_4.1.length 7 (gL cSCurtail dSCurtail c_4.1))), (6, .c (.int .i64 c_2.2)), (7, .c (.int .i64 c_4.2)), (10, .c (.int .i64 c_6.2)), (12, .c (.int .i64 c_8.2))], [.box [.str (ByteArray.mk #[101]), .int .i64 2, .int .i64 0, .int .i64 10, .int .i64 20, .int .i64 5000, .bool false], .box [.str (ByteArray.mk #[102]), .int .i64 1, .int .i64 0, .int .i64 15, .int .i64 30, .int .i64 3000, .bool false], .box [.str ByteArray.empty, .vec (List.replicate (1 : Int).toNat dSFeeder).length 5 (gL cSFeeder dSFeeder (List.replicate (1 : Int).toNat dSFeeder)), .vec (([] : List SPoint)).length 5 (gL cSPoint dSPoint (([] : List SPoint)))], .box [.str (ByteArray.mk #[101]), .int .i64 2, .int .i64 1, .int .i64 10, .int .i64 20, .int .i64 5000, .bool false]]⟩) (sub_gen [0, 1, 2, 4] rfl rfl ⟨zc rfl rfl, zc rfl rfl, zc rfl rfl, zc rfl rfl, zc rfl rfl, zc rfl rfl, zc rfl rfl, zc rfl rfl, zc rfl rfl, trivial⟩ ⟨⟨_, rfl, ⟨ii rfl rfl, ii rfl rfl, ii rfl rfl, ii rfl rfl, ii rfl rfl, ii rfl rfl, ii rfl rfl, trivial⟩⟩, ⟨_, rfl, ⟨ii rfl rfl, ii rfl rfl, ii rfl rfl, ii rfl rfl, ii rfl rfl, ii rfl rfl, ii rfl rfl, trivial⟩⟩, ⟨_, rfl, ⟨ii rfl rfl, .inr (.inl ⟨_, _, _, _, _, _, _, rfl, rfl, rfl, Nat.le_refl _, fun _ _ _ _ => rfl, by decide⟩), .inr (.inr (.inr (.inl ⟨_, _, rfl, rfl⟩))), trivial⟩⟩, ⟨_, rfl, ⟨ii rfl rfl, ii rfl rfl, ii rfl rfl, ii rfl rfl, ii rfl rfl, ii rfl rfl, ii rfl rfl, trivial⟩⟩, trivial⟩) ?_
  obtain ⟨c_10, g11, h⟩ := bind_out h
  try dsimp only at h
  rcases cond_out h with ⟨g12, h⟩ | ⟨g12, h⟩
  · obtain ⟨c_13, g14, h⟩ := bind_out h
    try dsimp only at h
    rcases cond_out h with ⟨g15, h⟩ | ⟨g15, h⟩
    · rcases cond_out h with ⟨g16, h⟩ | ⟨g16, h⟩
      · rcases cond_out h with ⟨g17, h⟩ | ⟨g17, h⟩
        · obtain ⟨c_18, g19, h⟩ := bind_out h
          try dsimp only at h
          rcases cond_out h with ⟨g20, h⟩ | ⟨g20, h⟩
          · rcases cond_out h with ⟨g21, h⟩ | ⟨g21, h⟩
            · rcases cond_out h with ⟨g22, h⟩ | ⟨g22, h⟩
              · obtain ⟨c_23, g24, h⟩ := bind_out h
                try dsimp only at h
                rcases cond_out h with ⟨g25, h⟩ | ⟨g25, h⟩
                · obtain ⟨c_26, g27, h⟩ := bind_out h
                  try dsimp only at h
                  rcases cond_out h with ⟨g28, h⟩ | ⟨g28, h⟩
                  · obtain ⟨c_29, g30, h⟩ := bind_out h
                    try dsimp only at h
                    rcases cond_out h with ⟨g31, h⟩ | ⟨g31, h⟩
                    · obtain ⟨c_32, g33, h⟩ := bind_out h
                      try dsimp only at h
                      rcases cond_out h with ⟨g34, h⟩ | ⟨g34, h⟩
                      · obtain ⟨c_35, g36, h⟩ := bind_out h
                        try dsimp only at h
                        rcases cond_out h with ⟨g37, h⟩ | ⟨g37, h⟩
                        · obtain ⟨c_38, g39, h⟩ := bind_out h
                          try dsimp only at h
                          rcases cond_out h with ⟨g40, h⟩ | ⟨g40, h⟩
                          · obtain ⟨c_41, g42, h⟩ := bind_out h
                            try dsimp only at h
                            rcases cond_out h with ⟨g43, h⟩ | ⟨g43, h⟩
                            · obtain ⟨c_44, g45, h⟩ := bind_out h
                              try dsimp only at h
                              refine SCode.region (show SOps _ _ _ [0, 1, 2, 3, 4, 5, 6, 7, 8, 9, 10, 11, 12, 13, 14, 15, 16, 17, 18, 19, 20, 21, 22, 23, 24, 25, 26, 27, 28, 29, 30, 31, 32, 33, 34, 35, 36, 37, 38, 39, 40, 41, 42, 43, 44, 45, 46, 47, 48, 49, 50, 51, 52, 53, 54, 55, 56, 57, 58, 59, 60, 61, 62, 63, 64, 65, 66, 67, 68, 69, 70, 71, 72, 73] _ _ from ?_)
                              refine SOps.q rfl (.plain rfl) rfl (q_load_ptr_all rfl rfl rfl rfl rfl ty25) ?_
                              refine SOps.q rfl (.plain rfl) rfl (q_load_ptr_all rfl rfl rfl rfl rfl ty30) ?_
                              refine SOps.q rfl (.plain rfl) rfl (q_call (curtail_Valid_ok F (SCurtail.mk (ByteArray.mk #[101]) 2 0 10 20 5000 false) (SSite.mk ByteArray.empty (List.replicate (1 : Int).toNat dSFeeder) (([] : List SPoint))) c_10 g11) [] rfl fn10 ⟨⟨rfl, rfl⟩, ⟨rfl, rfl⟩, trivial⟩ (.inl rfl)) ?_
                              refine SOps.q rfl (.plain rfl) rfl (q_eql rfl rfl rfl) ?_
                              refine SOps.q rfl (.plain rfl) rfl (q_move rfl rfl) ?_
                              refine SOps.q rfl (.guard 4 52 true rfl rfl (gT g12)) rfl (q_load_ptr_all rfl rfl rfl rfl rfl ty25) ?_
                              refine SOps.q rfl (.guard 4 52 true rfl rfl (gT g12)) rfl (q_load_ptr_all rfl rfl rfl rfl rfl ty30) ?_
                              refine SOps.q rfl (.guard 4 52 true rfl rfl (gT g12)) rfl (q_call (curtail_Valid_ok F (SCurtail.mk (ByteArray.mk #[101]) 2 1 10 20 5000 false) (SSite.mk ByteArray.empty (List.replicate (1 : Int).toNat dSFeeder) (([] : List SPoint))) c_13 g14) [] rfl fn10 ⟨⟨rfl, rfl⟩, ⟨rfl, rfl⟩, trivial⟩ (.inl rfl)) ?_
                              refine SOps.q rfl (.guard 4 52 true rfl rfl (gT g12)) rfl (q_eql rfl rfl rfl) ?_
                              refine SOps.q rfl (.plain rfl) rfl (q_pick_t rfl rfl g12 rfl) ?_
                              refine SOps.q rfl (.plain rfl) rfl (q_move rfl rfl) ?_
                              refine SOps.q rfl (.guard 10 58 true rfl rfl (gT g15)) rfl (q_move rfl rfl) ?_
                              refine SOps.q rfl (.guard 10 58 true rfl rfl (gT g15)) rfl (q_eql rfl rfl rfl) ?_
                              refine SOps.q rfl (.plain rfl) rfl (q_pick_t rfl rfl g15 rfl) ?_
                              refine SOps.q rfl (.plain rfl) rfl (q_move rfl rfl) ?_
                              refine SOps.q rfl (.guard 14 62 true rfl rfl (gT g16)) rfl (q_move rfl rfl) ?_
                              refine SOps.q rfl (.guard 14 62 true rfl rfl (gT g16)) rfl (q_eql rfl rfl rfl) ?_
                              refine SOps.q rfl (.plain rfl) rfl (q_pick_t rfl rfl g16 rfl) ?_
                              refine SOps.q rfl (.plain rfl) rfl (q_move rfl rfl) ?_
                              refine SOps.q rfl (.guard 18 66 true rfl rfl (gT g17)) rfl (q_move rfl rfl) ?_
                              refine SOps.q rfl (.guard 18 66 true rfl rfl (gT g17)) rfl (q_load_ptr_all rfl rfl rfl rfl rfl ty25) ?_
                              refine SOps.q rfl (.guard 18 66 true rfl rfl (gT g17)) rfl (q_load_ptr_all rfl rfl rfl rfl rfl ty25) ?_
                              refine SOps.q rfl (.guard 18 66 true rfl rfl (gT g17)) rfl (q_bsliceL (c := cSCurtail) (d0 := dSCurtail) [SCurtail.mk (ByteArray.mk #[101]) 2 0 10 20 5000 false, SCurtail.mk (ByteArray.mk #[102]) 1 0 15 30 3000 false] rfl rfl sl34 z25 rfl rfl rfl rfl rfl rfl rfl) ?_
                              refine SOps.q rfl (.guard 18 66 true rfl rfl (gT g17)) rfl (q_call (slices_Equal_api_Curtail_api_Curtail_ok F c_4.1 ([SCurtail.mk (ByteArray.mk #[101]) 2 0 10 20 5000 false, SCurtail.mk (ByteArray.mk #[102]) 1 0 15 30 3000 false]) c_18 g19) [] rfl fn14 ⟨⟨_, rfl, .inl ⟨rfl, rfl⟩⟩, ⟨_, rfl, .inl ⟨rfl, rfl⟩⟩, trivial⟩ (.inl rfl)) ?_
                              refine SOps.q rfl (.plain rfl) rfl (q_pick_t rfl rfl g17 rfl) ?_
                              refine SOps.q rfl (.plain rfl) rfl (q_move rfl rfl) ?_
                              refine SOps.q rfl (.guard 25 73 true rfl rfl (gT g20)) rfl (q_move rfl rfl) ?_
                              refine SOps.q rfl (.guard 25 73 true rfl rfl (gT g20)) rfl (q_eql rfl rfl rfl) ?_
                              refine SOps.q rfl (.plain rfl) rfl (q_pick_t rfl rfl g20 rfl) ?_
                              refine SOps.q rfl (.plain rfl) rfl (q_move rfl rfl) ?_
                              refine SOps.q rfl (.guard 29 77 true rfl rfl (gT g21)) rfl (q_move rfl rfl) ?_
                              refine SOps.q rfl (.guard 29 77 true rfl rfl (gT g21)) rfl (q_eql rfl rfl rfl) ?_
                              refine SOps.q rfl (.plain rfl) rfl (q_pick_t rfl rfl g21 rfl) ?_
                              refine SOps.q rfl (.plain rfl) rfl (q_move rfl rfl) ?_
                              refine SOps.q rfl (.guard 33 81 true rfl rfl (gT g22)) rfl (q_move rfl rfl) ?_
                              refine SOps.q rfl (.guard 33 81 true rfl rfl (gT g22)) rfl (q_call (curtail_At_ok F c_4.1 0 12 c_23 g24) [] rfl fn16 ⟨⟨_, rfl, .inl ⟨rfl, rfl⟩⟩, ⟨_, rfl, .inl ⟨rfl, rfl⟩⟩, ⟨_, rfl, .inl ⟨rfl, rfl⟩⟩, trivial⟩ (.inl rfl)) ?_
                              refine SOps.q rfl (.guard 33 81 true rfl rfl (gT g22)) rfl (q_eql rfl rfl rfl) ?_
                              refine SOps.q rfl (.plain rfl) rfl (q_pick_t rfl rfl g22 rfl) ?_
                              refine SOps.q rfl (.plain rfl) rfl (q_move rfl rfl) ?_
                              refine SOps.q rfl (.guard 38 86 true rfl rfl (gT g25)) rfl (q_move rfl rfl) ?_
                              refine SOps.q rfl (.guard 38 86 true rfl rfl (gT g25)) rfl (q_call (curtail_At_ok F c_4.1 0 15 c_26 g27) [] rfl fn16 ⟨⟨_, rfl, .inl ⟨rfl, rfl⟩⟩, ⟨_, rfl, .inl ⟨rfl, rfl⟩⟩, ⟨_, rfl, .inl ⟨rfl, rfl⟩⟩, trivial⟩ (.inl rfl)) ?_
                              refine SOps.q rfl (.guard 38 86 true rfl rfl (gT g25)) rfl (q_eql rfl rfl rfl) ?_
                              refine SOps.q rfl (.plain rfl) rfl (q_pick_t rfl rfl g25 rfl) ?_
                              refine SOps.q rfl (.plain rfl) rfl (q_move rfl rfl) ?_
                              refine SOps.q rfl (.guard 43 91 true rfl rfl (gT g28)) rfl (q_move rfl rfl) ?_
                              refine SOps.q rfl (.guard 43 91 true rfl rfl (gT g28)) rfl (q_call (curtail_At_ok F c_4.1 0 30 c_29 g30) [] rfl fn16 ⟨⟨_, rfl, .inl ⟨rfl, rfl⟩⟩, ⟨_, rfl, .inl ⟨rfl, rfl⟩⟩, ⟨_, rfl, .inl ⟨rfl, rfl⟩⟩, trivial⟩ (.inl rfl)) ?_
                              refine SOps.q rfl (.guard 43 91 true rfl rfl (gT g28)) rfl (q_eql rfl rfl rfl) ?_
                              refine SOps.q rfl (.plain rfl) rfl (q_pick_t rfl rfl g28 rfl) ?_
                              refine SOps.q rfl (.plain rfl) rfl (q_move rfl rfl) ?_
                              refine SOps.q rfl (.guard 48 96 true rfl rfl (gT g31)) rfl (q_move rfl rfl) ?_
                              refine SOps.q rfl (.guard 48 96 true rfl rfl (gT g31)) rfl (q_call (curtail_At_ok F c_4.1 1 15 c_32 g33) [] rfl fn16 ⟨⟨_, rfl, .inl ⟨rfl, rfl⟩⟩, ⟨_, rfl, .inl ⟨rfl, rfl⟩⟩, ⟨_, rfl, .inl ⟨rfl, rfl⟩⟩, trivial⟩ (.inl rfl)) ?_
                              refine SOps.q rfl (.guard 48 96 true rfl rfl (gT g31)) rfl (q_eql rfl rfl rfl) ?_
                              refine SOps.q rfl (.plain rfl) rfl (q_pick_t rfl rfl g31 rfl) ?_
                              refine SOps.q rfl (.plain rfl) rfl (q_move rfl rfl) ?_
                              refine SOps.q rfl (.guard 53 101 true rfl rfl (gT g34)) rfl (q_move rfl rfl) ?_
                              refine SOps.q rfl (.guard 53 101 true rfl rfl (gT g34)) rfl (q_call (curtail_Next_ok F c_4.1 0 c_35 g36) [] rfl fn18 ⟨⟨_, rfl, .inl ⟨rfl, rfl⟩⟩, ⟨_, rfl, .inl ⟨rfl, rfl⟩⟩, trivial⟩ (.inl rfl)) ?_
                              refine SOps.q rfl (.guard 53 101 true rfl rfl (gT g34)) rfl (q_eql rfl rfl rfl) ?_
                              refine SOps.q rfl (.plain rfl) rfl (q_pick_t rfl rfl g34 rfl) ?_
                              refine SOps.q rfl (.plain rfl) rfl (q_move rfl rfl) ?_
                              refine SOps.q rfl (.guard 58 106 true rfl rfl (gT g37)) rfl (q_move rfl rfl) ?_
                              refine SOps.q rfl (.guard 58 106 true rfl rfl (gT g37)) rfl (q_call (curtail_Next_ok F c_4.1 10 c_38 g39) [] rfl fn18 ⟨⟨_, rfl, .inl ⟨rfl, rfl⟩⟩, ⟨_, rfl, .inl ⟨rfl, rfl⟩⟩, trivial⟩ (.inl rfl)) ?_
                              refine SOps.q rfl (.guard 58 106 true rfl rfl (gT g37)) rfl (q_eql rfl rfl rfl) ?_
                              refine SOps.q rfl (.plain rfl) rfl (q_pick_t rfl rfl g37 rfl) ?_
                              refine SOps.q rfl (.plain rfl) rfl (q_move rfl rfl) ?_
                              refine SOps.q rfl (.guard 63 111 true rfl rfl (gT g40)) rfl (q_move rfl rfl) ?_
                              refine SOps.q rfl (.guard 63 111 true rfl rfl (gT g40)) rfl (q_call (curtail_Next_ok F c_4.1 15 c_41 g42) [] rfl fn18 ⟨⟨_, rfl, .inl ⟨rfl, rfl⟩⟩, ⟨_, rfl, .inl ⟨rfl, rfl⟩⟩, trivial⟩ (.inl rfl)) ?_
                              refine SOps.q rfl (.guard 63 111 true rfl rfl (gT g40)) rfl (q_eql rfl rfl rfl) ?_
                              refine SOps.q rfl (.plain rfl) rfl (q_pick_t rfl rfl g40 rfl) ?_
                              refine SOps.q rfl (.plain rfl) rfl (q_move rfl rfl) ?_
                              refine SOps.q rfl (.guard 68 116 true rfl rfl (gT g43)) rfl (q_move rfl rfl) ?_
                              refine SOps.q rfl (.guard 68 116 true rfl rfl (gT g43)) rfl (q_call (curtail_Next_ok F c_4.1 30 c_44 g45) [] rfl fn18 ⟨⟨_, rfl, .inl ⟨rfl, rfl⟩⟩, ⟨_, rfl, .inl ⟨rfl, rfl⟩⟩, trivial⟩ (.inl rfl)) ?_
                              refine SOps.q rfl (.guard 68 116 true rfl rfl (gT g43)) rfl (q_eql rfl rfl rfl) ?_
                              refine SOps.q rfl (.plain rfl) rfl (q_pick_t rfl rfl g43 rfl) ?_
                              refine SOps.q rfl (.plain rfl) rfl (q_assign rfl rfl) ?_
                              refine SOps.sub (st' := ⟨[(0, .c (.bool (decide (c_44 = (-1)))))], []⟩) (sub_gen [] rfl rfl ⟨zc rfl rfl, trivial⟩ trivial) ?_
                              refine SOps.nil ?_
                              refine SCode.ret ?_
                              obtain rfl := Option.some.inj h
                              exact ⟨⟨[(0, .c (.bool (decide (c_44 = (-1)))))], []⟩, _, sub_gen [] rfl rfl ⟨zc rfl rfl, trivial⟩ trivial, resA1 (v := .c (.bool (decide (c_44 = (-1))))) rfl rfl, rfl⟩
                            refine SCode.region (show SOps _ _ _ [0, 1, 2, 3, 4, 5, 6, 7, 8, 9, 10, 11, 12, 13, 14, 15, 16, 17, 18, 19, 20, 21, 22, 23, 24, 25, 26, 27, 28, 29, 30, 31, 32, 33, 34, 35, 36, 37, 38, 39, 40, 41, 42, 43, 44, 45, 46, 47, 48, 49, 50, 51, 52, 53, 54, 55, 56, 57, 58, 59, 60, 61, 62, 63, 64, 65, 66, 67, 68, 69, 70, 71, 72, 73] _ _ from ?_)
                            refine SOps.q rfl (.plain rfl) rfl (q_load_ptr_all rfl rfl rfl rfl rfl ty25) ?_
                            refine SOps.q rfl (.plain rfl) rfl (q_load_ptr_all rfl rfl rfl rfl rfl ty30) ?_
                            refine SOps.q rfl (.plain rfl) rfl (q_call (curtail_Valid_ok F (SCurtail.mk (ByteArray.mk #[101]) 2 0 10 20 5000 false) (SSite.mk ByteArray.empty (List.replicate (1 : Int).toNat dSFeeder) (([] : List SPoint))) c_10 g11) [] rfl fn10 ⟨⟨rfl, rfl⟩, ⟨rfl, rfl⟩, trivial⟩ (.inl rfl)) ?_
                            refine SOps.q rfl (.plain rfl) rfl (q_eql rfl rfl rfl) ?_
                            refine SOps.q rfl (.plain rfl) rfl (q_move rfl rfl) ?_
                            refine SOps.q rfl (.guard 4 52 true rfl rfl (gT g12)) rfl (q_load_ptr_all rfl rfl rfl rfl rfl ty25) ?_
                            refine SOps.q rfl (.guard 4 52 true rfl rfl (gT g12)) rfl (q_load_ptr_all rfl rfl rfl rfl rfl ty30) ?_
                            refine SOps.q rfl (.guard 4 52 true rfl rfl (gT g12)) rfl (q_call (curtail_Valid_ok F (SCurtail.mk (ByteArray.mk #[101]) 2 1 10 20 5000 false) (SSite.mk ByteArray.empty (List.replicate (1 : Int).toNat dSFeeder) (([] : List SPoint))) c_13 g14) [] rfl fn10 ⟨⟨rfl, rfl⟩, ⟨rfl, rfl⟩, trivial⟩ (.inl rfl)) ?_
                            refine SOps.q rfl (.guard 4 52 true rfl rfl (gT g12)) rfl (q_eql rfl rfl rfl) ?_
                            refine SOps.q rfl (.plain rfl) rfl (q_pick_t rfl rfl g12 rfl) ?_
                            refine SOps.q rfl (.plain rfl) rfl (q_move rfl rfl) ?_
                            refine SOps.q rfl (.guard 10 58 true rfl rfl (gT g15)) rfl (q_move rfl rfl) ?_
                            refine SOps.q rfl (.guard 10 58 true rfl rfl (gT g15)) rfl (q_eql rfl rfl rfl) ?_
                            refine SOps.q rfl (.plain rfl) rfl (q_pick_t rfl rfl g15 rfl) ?_
                            refine SOps.q rfl (.plain rfl) rfl (q_move rfl rfl) ?_
                            refine SOps.q rfl (.guard 14 62 true rfl rfl (gT g16)) rfl (q_move rfl rfl) ?_
                            refine SOps.q rfl (.guard 14 62 true rfl rfl (gT g16)) rfl (q_eql rfl rfl rfl) ?_
                            refine SOps.q rfl (.plain rfl) rfl (q_pick_t rfl rfl g16 rfl) ?_
                            refine SOps.q rfl (.plain rfl) rfl (q_move rfl rfl) ?_
                            refine SOps.q rfl (.guard 18 66 true rfl rfl (gT g17)) rfl (q_move rfl rfl) ?_
                            refine SOps.q rfl (.guard 18 66 true rfl rfl (gT g17)) rfl (q_load_ptr_all rfl rfl rfl rfl rfl ty25) ?_
                            refine SOps.q rfl (.guard 18 66 true rfl rfl (gT g17)) rfl (q_load_ptr_all rfl rfl rfl rfl rfl ty25) ?_
                            refine SOps.q rfl (.guard 18 66 true rfl rfl (gT g17)) rfl (q_bsliceL (c := cSCurtail) (d0 := dSCurtail) [SCurtail.mk (ByteArray.mk #[101]) 2 0 10 20 5000 false, SCurtail.mk (ByteArray.mk #[102]) 1 0 15 30 3000 false] rfl rfl sl34 z25 rfl rfl rfl rfl rfl rfl rfl) ?_
                            refine SOps.q rfl (.guard 18 66 true rfl rfl (gT g17)) rfl (q_call (slices_Equal_api_Curtail_api_Curtail_ok F c_4.1 ([SCurtail.mk (ByteArray.mk #[101]) 2 0 10 20 5000 false, SCurtail.mk (ByteArray.mk #[102]) 1 0 15 30 3000 false]) c_18 g19) [] rfl fn14 ⟨⟨_, rfl, .inl ⟨rfl, rfl⟩⟩, ⟨_, rfl, .inl ⟨rfl, rfl⟩⟩, trivial⟩ (.inl rfl)) ?_
                            refine SOps.q rfl (.plain rfl) rfl (q_pick_t rfl rfl g17 rfl) ?_
                            refine SOps.q rfl (.plain rfl) rfl (q_move rfl rfl) ?_
                            refine SOps.q rfl (.guard 25 73 true rfl rfl (gT g20)) rfl (q_move rfl rfl) ?_
                            refine SOps.q rfl (.guard 25 73 true rfl rfl (gT g20)) rfl (q_eql rfl rfl rfl) ?_
                            refine SOps.q rfl (.plain rfl) rfl (q_pick_t rfl rfl g20 rfl) ?_
                            refine SOps.q rfl (.plain rfl) rfl (q_move rfl rfl) ?_
                            refine SOps.q rfl (.guard 29 77 true rfl rfl (gT g21)) rfl (q_move rfl rfl) ?_
                            refine SOps.q rfl (.guard 29 77 true rfl rfl (gT g21)) rfl (q_eql rfl rfl rfl) ?_
                            refine SOps.q rfl (.plain rfl) rfl (q_pick_t rfl rfl g21 rfl) ?_
                            refine SOps.q rfl (.plain rfl) rfl (q_move rfl rfl) ?_
                            refine SOps.q rfl (.guard 33 81 true rfl rfl (gT g22)) rfl (q_move rfl rfl) ?_
                            refine SOps.q rfl (.guard 33 81 true rfl rfl (gT g22)) rfl (q_call (curtail_At_ok F c_4.1 0 12 c_23 g24) [] rfl fn16 ⟨⟨_, rfl, .inl ⟨rfl, rfl⟩⟩, ⟨_, rfl, .inl ⟨rfl, rfl⟩⟩, ⟨_, rfl, .inl ⟨rfl, rfl⟩⟩, trivial⟩ (.inl rfl)) ?_
                            refine SOps.q rfl (.guard 33 81 true rfl rfl (gT g22)) rfl (q_eql rfl rfl rfl) ?_
                            refine SOps.q rfl (.plain rfl) rfl (q_pick_t rfl rfl g22 rfl) ?_
                            refine SOps.q rfl (.plain rfl) rfl (q_move rfl rfl) ?_
                            refine SOps.q rfl (.guard 38 86 true rfl rfl (gT g25)) rfl (q_move rfl rfl) ?_
                            refine SOps.q rfl (.guard 38 86 true rfl rfl (gT g25)) rfl (q_call (curtail_At_ok F c_4.1 0 15 c_26 g27) [] rfl fn16 ⟨⟨_, rfl, .inl ⟨rfl, rfl⟩⟩, ⟨_, rfl, .inl ⟨rfl, rfl⟩⟩, ⟨_, rfl, .inl ⟨rfl, rfl⟩⟩, trivial⟩ (.inl rfl)) ?_
                            refine SOps.q rfl (.guard 38 86 true rfl rfl (gT g25)) rfl (q_eql rfl rfl rfl) ?_
                            refine SOps.q rfl (.plain rfl) rfl (q_pick_t rfl rfl g25 rfl) ?_
                            refine SOps.q rfl (.plain rfl) rfl (q_move rfl rfl) ?_
                            refine SOps.q rfl (.guard 43 91 true rfl rfl (gT g28)) rfl (q_move rfl rfl) ?_
                            refine SOps.q rfl (.guard 43 91 true rfl rfl (gT g28)) rfl (q_call (curtail_At_ok F c_4.1 0 30 c_29 g30) [] rfl fn16 ⟨⟨_, rfl, .inl ⟨rfl, rfl⟩⟩, ⟨_, rfl, .inl ⟨rfl, rfl⟩⟩, ⟨_, rfl, .inl ⟨rfl, rfl⟩⟩, trivial⟩ (.inl rfl)) ?_
                            refine SOps.q rfl (.guard 43 91 true rfl rfl (gT g28)) rfl (q_eql rfl rfl rfl) ?_
                            refine SOps.q rfl (.plain rfl) rfl (q_pick_t rfl rfl g28 rfl) ?_
                            refine SOps.q rfl (.plain rfl) rfl (q_move rfl rfl) ?_
                            refine SOps.q rfl (.guard 48 96 true rfl rfl (gT g31)) rfl (q_move rfl rfl) ?_
                            refine SOps.q rfl (.guard 48 96 true rfl rfl (gT g31)) rfl (q_call (curtail_At_ok F c_4.1 1 15 c_32 g33) [] rfl fn16 ⟨⟨_, rfl, .inl ⟨rfl, rfl⟩⟩, ⟨_, rfl, .inl ⟨rfl, rfl⟩⟩, ⟨_, rfl, .inl ⟨rfl, rfl⟩⟩, trivial⟩ (.inl rfl)) ?_
                            refine SOps.q rfl (.guard 48 96 true rfl rfl (gT g31)) rfl (q_eql rfl rfl rfl) ?_
                            refine SOps.q rfl (.plain rfl) rfl (q_pick_t rfl rfl g31 rfl) ?_
                            refine SOps.q rfl (.plain rfl) rfl (q_move rfl rfl) ?_
                            refine SOps.q rfl (.guard 53 101 true rfl rfl (gT g34)) rfl (q_move rfl rfl) ?_
                            refine SOps.q rfl (.guard 53 101 true rfl rfl (gT g34)) rfl (q_call (curtail_Next_ok F c_4.1 0 c_35 g36) [] rfl fn18 ⟨⟨_, rfl, .inl ⟨rfl, rfl⟩⟩, ⟨_, rfl, .inl ⟨rfl, rfl⟩⟩, trivial⟩ (.inl rfl)) ?_
                            refine SOps.q rfl (.guard 53 101 true rfl rfl (gT g34)) rfl (q_eql rfl rfl rfl) ?_
                            refine SOps.q rfl (.plain rfl) rfl (q_pick_t rfl rfl g34 rfl) ?_
                            refine SOps.q rfl (.plain rfl) rfl (q_move rfl rfl) ?_
                            refine SOps.q rfl (.guard 58 106 true rfl rfl (gT g37)) rfl (q_move rfl rfl) ?_
                            refine SOps.q rfl (.guard 58 106 true rfl rfl (gT g37)) rfl (q_call (curtail_Next_ok F c_4.1 10 c_38 g39) [] rfl fn18 ⟨⟨_, rfl, .inl ⟨rfl, rfl⟩⟩, ⟨_, rfl, .inl ⟨rfl, rfl⟩⟩, trivial⟩ (.inl rfl)) ?_
                            refine SOps.q rfl (.guard 58 106 true rfl rfl (gT g37)) rfl (q_eql rfl rfl rfl) ?_
                            refine SOps.q rfl (.plain rfl) rfl (q_pick_t rfl rfl g37 rfl) ?_
                            refine SOps.q rfl (.plain rfl) rfl (q_move rfl rfl) ?_
                            refine SOps.q rfl (.guard 63 111 true rfl rfl (gT g40)) rfl (q_move rfl rfl) ?_
                            refine SOps.q rfl (.guard 63 111 true rfl rfl (gT g40)) rfl (q_call (curtail_Next_ok F c_4.1 15 c_41 g42) [] rfl fn18 ⟨⟨_, rfl, .inl ⟨rfl, rfl⟩⟩, ⟨_, rfl, .inl ⟨rfl, rfl⟩⟩, trivial⟩ (.inl rfl)) ?_
                            refine SOps.q rfl (.guard 63 111 true rfl rfl (gT g40)) rfl (q_eql rfl rfl rfl) ?_
                            refine SOps.q rfl (.plain rfl) rfl (q_pick_t rfl rfl g40 rfl) ?_
                            refine SOps.q rfl (.plain rfl) rfl (q_move rfl rfl) ?_
                            refine SOps.skip rfl 68 116 true rfl rfl (.inl (gF g43)) rfl ?_
                            refine SOps.skip rfl 68 116 true rfl rfl (.inl (gF g43)) rfl ?_
                            refine SOps.skip rfl 68 116 true rfl rfl (.inl (gF g43)) rfl ?_
                            refine SOps.q rfl (.plain rfl) rfl (q_pick_f rfl rfl g43 rfl) ?_
                            refine SOps.q rfl (.plain rfl) rfl (q_assign rfl rfl) ?_
                            refine SOps.sub (st' := ⟨[(0, .c (.bool false))], []⟩) (sub_gen [] rfl rfl ⟨zc rfl rfl, trivial⟩ trivial) ?_
                            refine SOps.nil ?_
                            refine SCode.ret ?_
                            obtain rfl := Option.some.inj h
                            exact ⟨⟨[(0, .c (.bool false))], []⟩, _, sub_gen [] rfl rfl ⟨zc rfl rfl, trivial⟩ trivial, resA1 (v := .c (.bool false)) rfl rfl, rfl⟩
                          refine SCode.region (show SOps _ _ _ [0, 1, 2, 3, 4, 5, 6, 7, 8, 9, 10, 11, 12, 13, 14, 15, 16, 17, 18, 19, 20, 21, 22, 23, 24, 25, 26, 27, 28, 29, 30, 31, 32, 33, 34, 35, 36, 37, 38, 39, 40, 41, 42, 43, 44, 45, 46, 47, 48, 49, 50, 51, 52, 53, 54, 55, 56, 57, 58, 59, 60, 61, 62, 63, 64, 65, 66, 67, 68, 69, 70, 71, 72, 73] _ _ from ?_)
                          refine SOps.q rfl (.plain rfl) rfl (q_load_ptr_all rfl rfl rfl rfl rfl ty25) ?_
                          refine SOps.q rfl (.plain rfl) rfl (q_load_ptr_all rfl rfl rfl rfl rfl ty30) ?_
                          refine SOps.q rfl (.plain rfl) rfl (q_call (curtail_Valid_ok F (SCurtail.mk (ByteArray.mk #[101]) 2 0 10 20 5000 false) (SSite.mk ByteArray.empty (List.replicate (1 : Int).toNat dSFeeder) (([] : List SPoint))) c_10 g11) [] rfl fn10 ⟨⟨rfl, rfl⟩, ⟨rfl, rfl⟩, trivial⟩ (.inl rfl)) ?_
                          refine SOps.q rfl (.plain rfl) rfl (q_eql rfl rfl rfl) ?_
                          refine SOps.q rfl (.plain rfl) rfl (q_move rfl rfl) ?_
                          refine SOps.q rfl (.guard 4 52 true rfl rfl (gT g12)) rfl (q_load_ptr_all rfl rfl rfl rfl rfl ty25) ?_
                          refine SOps.q rfl (.guard 4 52 true rfl rfl (gT g12)) rfl (q_load_ptr_all rfl rfl rfl rfl rfl ty30) ?_
                          refine SOps.q rfl (.guard 4 52 true rfl rfl (gT g12)) rfl (q_call (curtail_Valid_ok F (SCurtail.mk (ByteArray.mk #[101]) 2 1 10 20 5000 false) (SSite.mk ByteArray.empty (List.replicate (1 : Int).toNat dSFeeder) (([] : List SPoint))) c_13 g14) [] rfl fn10 ⟨⟨rfl, rfl⟩, ⟨rfl, rfl⟩, trivial⟩ (.inl rfl)) ?_
                          refine SOps.q rfl (.guard 4 52 true rfl rfl (gT g12)) rfl (q_eql rfl rfl rfl) ?_
                          refine SOps.q rfl (.plain rfl) rfl (q_pick_t rfl rfl g12 rfl) ?_
                          refine SOps.q rfl (.plain rfl) rfl (q_move rfl rfl) ?_
                          refine SOps.q rfl (.guard 10 58 true rfl rfl (gT g15)) rfl (q_move rfl rfl) ?_
                          refine SOps.q rfl (.guard 10 58 true rfl rfl (gT g15)) rfl (q_eql rfl rfl rfl) ?_
                          refine SOps.q rfl (.plain rfl) rfl (q_pick_t rfl rfl g15 rfl) ?_
                          refine SOps.q rfl (.plain rfl) rfl (q_move rfl rfl) ?_
                          refine SOps.q rfl (.guard 14 62 true rfl rfl (gT g16)) rfl (q_move rfl rfl) ?_
                          refine SOps.q rfl (.guard 14 62 true rfl rfl (gT g16)) rfl (q_eql rfl rfl rfl) ?_
                          refine SOps.q rfl (.plain rfl) rfl (q_pick_t rfl rfl g16 rfl) ?_
                          refine SOps.q rfl (.plain rfl) rfl (q_move rfl rfl) ?_
                          refine SOps.q rfl (.guard 18 66 true rfl rfl (gT g17)) rfl (q_move rfl rfl) ?_
                          refine SOps.q rfl (.guard 18 66 true rfl rfl (gT g17)) rfl (q_load_ptr_all rfl rfl rfl rfl rfl ty25) ?_
                          refine SOps.q rfl (.guard 18 66 true rfl rfl (gT g17)) rfl (q_load_ptr_all rfl rfl rfl rfl rfl ty25) ?_
                          refine SOps.q rfl (.guard 18 66 true rfl rfl (gT g17)) rfl (q_bsliceL (c := cSCurtail) (d0 := dSCurtail) [SCurtail.mk (ByteArray.mk #[101]) 2 0 10 20 5000 false, SCurtail.mk (ByteArray.mk #[102]) 1 0 15 30 3000 false] rfl rfl sl34 z25 rfl rfl rfl rfl rfl rfl rfl) ?_
                          refine SOps.q rfl (.guard 18 66 true rfl rfl (gT g17)) rfl (q_call (slices_Equal_api_Curtail_api_Curtail_ok F c_4.1 ([SCurtail.mk (ByteArray.mk #[101]) 2 0 10 20 5000 false, SCurtail.mk (ByteArray.mk #[102]) 1 0 15 30 3000 false]) c_18 g19) [] rfl fn14 ⟨⟨_, rfl, .inl ⟨rfl, rfl⟩⟩, ⟨_, rfl, .inl ⟨rfl, rfl⟩⟩, trivial⟩ (.inl rfl)) ?_
                          refine SOps.q rfl (.plain rfl) rfl (q_pick_t rfl rfl g17 rfl) ?_
                          refine SOps.q rfl (.plain rfl) rfl (q_move rfl rfl) ?_
                          refine SOps.q rfl (.guard 25 73 true rfl rfl (gT g20)) rfl (q_move rfl rfl) ?_
                          refine SOps.q rfl (.guard 25 73 true rfl rfl (gT g20)) rfl (q_eql rfl rfl rfl) ?_
                          refine SOps.q rfl (.plain rfl) rfl (q_pick_t rfl rfl g20 rfl) ?_
                          refine SOps.q rfl (.plain rfl) rfl (q_move rfl rfl) ?_
                          refine SOps.q rfl (.guard 29 77 true rfl rfl (gT g21)) rfl (q_move rfl rfl) ?_
                          refine SOps.q rfl (.guard 29 77 true rfl rfl (gT g21)) rfl (q_eql rfl rfl rfl) ?_
                          refine SOps.q rfl (.plain rfl) rfl (q_pick_t rfl rfl g21 rfl) ?_
                          refine SOps.q rfl (.plain rfl) rfl (q_move rfl rfl) ?_
                          refine SOps.q rfl (.guard 33 81 true rfl rfl (gT g22)) rfl (q_move rfl rfl) ?_
                          refine SOps.q rfl (.guard 33 81 true rfl rfl (gT g22)) rfl (q_call (curtail_At_ok F c_4.1 0 12 c_23 g24) [] rfl fn16 ⟨⟨_, rfl, .inl ⟨rfl, rfl⟩⟩, ⟨_, rfl, .inl ⟨rfl, rfl⟩⟩, ⟨_, rfl, .inl ⟨rfl, rfl⟩⟩, trivial⟩ (.inl rfl)) ?_
                          refine SOps.q rfl (.guard 33 81 true rfl rfl (gT g22)) rfl (q_eql rfl rfl rfl) ?_
                          refine SOps.q rfl (.plain rfl) rfl (q_pick_t rfl rfl g22 rfl) ?_
                          refine SOps.q rfl (.plain rfl) rfl (q_move rfl rfl) ?_
                          refine SOps.q rfl (.guard 38 86 true rfl rfl (gT g25)) rfl (q_move rfl rfl) ?_
                          refine SOps.q rfl (.guard 38 86 true rfl rfl (gT g25)) rfl (q_call (curtail_At_ok F c_4.1 0 15 c_26 g27) [] rfl fn16 ⟨⟨_, rfl, .inl ⟨rfl, rfl⟩⟩, ⟨_, rfl, .inl ⟨rfl, rfl⟩⟩, ⟨_, rfl, .inl ⟨rfl, rfl⟩⟩, trivial⟩ (.inl rfl)) ?_
                          refine SOps.q rfl (.guard 38 86 true rfl rfl (gT g25)) rfl (q_eql rfl rfl rfl) ?_
                          refine SOps.q rfl (.plain rfl) rfl (q_pick_t rfl rfl g25 rfl) ?_
                          refine SOps.q rfl (.plain rfl) rfl (q_move rfl rfl) ?_
                          refine SOps.q rfl (.guard 43 91 true rfl rfl (gT g28)) rfl (q_move rfl rfl) ?_
                          refine SOps.q rfl (.guard 43 91 true rfl rfl (gT g28)) rfl (q_call (curtail_At_ok F c_4.1 0 30 c_29 g30) [] rfl fn16 ⟨⟨_, rfl, .inl ⟨rfl, rfl⟩⟩, ⟨_, rfl, .inl ⟨rfl, rfl⟩⟩, ⟨_, rfl, .inl ⟨rfl, rfl⟩⟩, trivial⟩ (.inl rfl)) ?_
                          refine SOps.q rfl (.guard 43 91 true rfl rfl (gT g28)) rfl (q_eql rfl rfl rfl) ?_
                          refine SOps.q rfl (.plain rfl) rfl (q_pick_t rfl rfl g28 rfl) ?_
                          refine SOps.q rfl (.plain rfl) rfl (q_move rfl rfl) ?_
                          refine SOps.q rfl (.guard 48 96 true rfl rfl (gT g31)) rfl (q_move rfl rfl) ?_
                          refine SOps.q rfl (.guard 48 96 true rfl rfl (gT g31)) rfl (q_call (curtail_At_ok F c_4.1 1 15 c_32 g33) [] rfl fn16 ⟨⟨_, rfl, .inl ⟨rfl, rfl⟩⟩, ⟨_, rfl, .inl ⟨rfl, rfl⟩⟩, ⟨_, rfl, .inl ⟨rfl, rfl⟩⟩, trivial⟩ (.inl rfl)) ?_
                          refine SOps.q rfl (.guard 48 96 true rfl rfl (gT g31)) rfl (q_eql rfl rfl rfl) ?_
                          refine SOps.q rfl (.plain rfl) rfl (q_pick_t rfl rfl g31 rfl) ?_
                          refine SOps.q rfl (.plain rfl) rfl (q_move rfl rfl) ?_
                          refine SOps.q rfl (.guard 53 101 true rfl rfl (gT g34)) rfl (q_move rfl rfl) ?_
                          refine SOps.q rfl (.guard 53 101 true rfl rfl (gT g34)) rfl (q_call (curtail_Next_ok F c_4.1 0 c_35 g36) [] rfl fn18 ⟨⟨_, rfl, .inl ⟨rfl, rfl⟩⟩, ⟨_, rfl, .inl ⟨rfl, rfl⟩⟩, trivial⟩ (.inl rfl)) ?_
                          refine SOps.q rfl (.guard 53 101 true rfl rfl (gT g34)) rfl (q_eql rfl rfl rfl) ?_
                          refine SOps.q rfl (.plain rfl) rfl (q_pick_t rfl rfl g34 rfl) ?_
                          refine SOps.q rfl (.plain rfl) rfl (q_move rfl rfl) ?_
                          refine SOps.q rfl (.guard 58 106 true rfl rfl (gT g37)) rfl (q_move rfl rfl) ?_
                          refine SOps.q rfl (.guard 58 106 true rfl rfl (gT g37)) rfl (q_call (curtail_Next_ok F c_4.1 10 c_38 g39) [] rfl fn18 ⟨⟨_, rfl, .inl ⟨rfl, rfl⟩⟩, ⟨_, rfl, .inl ⟨rfl, rfl⟩⟩, trivial⟩ (.inl rfl)) ?_
                          refine SOps.q rfl (.guard 58 106 true rfl rfl (gT g37)) rfl (q_eql rfl rfl rfl) ?_
                          refine SOps.q rfl (.plain rfl) rfl (q_pick_t rfl rfl g37 rfl) ?_
                          refine SOps.q rfl (.plain rfl) rfl (q_move rfl rfl) ?_
                          refine SOps.skip rfl 63 111 true rfl rfl (.inl (gF g40)) rfl ?_
                          refine SOps.skip rfl 63 111 true rfl rfl (.inl (gF g40)) rfl ?_
                          refine SOps.skip rfl 63 111 true rfl rfl (.inl (gF g40)) rfl ?_
                          refine SOps.q rfl (.plain rfl) rfl (q_pick_f rfl rfl g40 rfl) ?_
                          refine SOps.q rfl (.plain rfl) rfl (q_move rfl rfl) ?_
                          refine SOps.skip rfl 68 116 true rfl rfl (.inl rfl) rfl ?_
                          refine SOps.skip rfl 68 116 true rfl rfl (.inl rfl) rfl ?_
                          refine SOps.skip rfl 68 116 true rfl rfl (.inl rfl) rfl ?_
                          refine SOps.q rfl (.plain rfl) rfl (q_pick_f rfl rfl rfl rfl) ?_
                          refine SOps.q rfl (.plain rfl) rfl (q_assign rfl rfl) ?_
                          refine SOps.sub (st' := ⟨[(0, .c (.bool false))], []⟩) (sub_gen [] rfl rfl ⟨zc rfl rfl, trivial⟩ trivial) ?_
                          refine SOps.nil ?_
                          refine SCode.ret ?_
                          obtain rfl := Option.some.inj h
                          exact ⟨⟨[(0, .c (.bool false))], []⟩, _, sub_gen [] rfl rfl ⟨zc rfl rfl, trivial⟩ trivial, resA1 (v := .c (.bool false)) rfl rfl, rfl⟩
                        refine SCode.region (show SOps _ _ _ [0, 1, 2, 3, 4, 5, 6, 7, 8, 9, 10, 11, 12, 13, 14, 15, 16, 17, 18, 19, 20, 21, 22, 23, 24, 25, 26, 27, 28, 29, 30, 31, 32, 33, 34, 35, 36, 37, 38, 39, 40, 41, 42, 43, 44, 45, 46, 47, 48, 49, 50, 51, 52, 53, 54, 55, 56, 57, 58, 59, 60, 61, 62, 63, 64, 65, 66, 67, 68, 69, 70, 71, 72, 73] _ _ from ?_)
                        refine SOps.q rfl (.plain rfl) rfl (q_load_ptr_all rfl rfl rfl rfl rfl ty25) ?_
                        refine SOps.q rfl (.plain rfl) rfl (q_load_ptr_all rfl rfl rfl rfl rfl ty30) ?_
                        refine SOps.q rfl (.plain rfl) rfl (q_call (curtail_Valid_ok F (SCurtail.mk (ByteArray.mk #[101]) 2 0 10 20 5000 false) (SSite.mk ByteArray.empty (List.replicate (1 : Int).toNat dSFeeder) (([] : List SPoint))) c_10 g11) [] rfl fn10 ⟨⟨rfl, rfl⟩, ⟨rfl, rfl⟩, trivial⟩ (.inl rfl)) ?_
                        refine SOps.q rfl (.plain rfl) rfl (q_eql rfl rfl rfl) ?_
                        refine SOps.q rfl (.plain rfl) rfl (q_move rfl rfl) ?_
                        refine SOps.q rfl (.guard 4 52 true rfl rfl (gT g12)) rfl (q_load_ptr_all rfl rfl rfl rfl rfl ty25) ?_
                        refine SOps.q rfl (.guard 4 52 true rfl rfl (gT g12)) rfl (q_load_ptr_all rfl rfl rfl rfl rfl ty30) ?_
                        refine SOps.q rfl (.guard 4 52 true rfl rfl (gT g12)) rfl (q_call (curtail_Valid_ok F (SCurtail.mk (ByteArray.mk #[101]) 2 1 10 20 5000 false) (SSite.mk ByteArray.empty (List.replicate (1 : Int).toNat dSFeeder) (([] : List SPoint))) c_13 g14) [] rfl fn10 ⟨⟨rfl, rfl⟩, ⟨rfl, rfl⟩, trivial⟩ (.inl rfl)) ?_
                        refine SOps.q rfl (.guard 4 52 true rfl rfl (gT g12)) rfl (q_eql rfl rfl rfl) ?_
                        refine SOps.q rfl (.plain rfl) rfl (q_pick_t rfl rfl g12 rfl) ?_
                        refine SOps.q rfl (.plain rfl) rfl (q_move rfl rfl) ?_
                        refine SOps.q rfl (.guard 10 58 true rfl rfl (gT g15)) rfl (q_move rfl rfl) ?_
                        refine SOps.q rfl (.guard 10 58 true rfl rfl (gT g15)) rfl (q_eql rfl rfl rfl) ?_
                        refine SOps.q rfl (.plain rfl) rfl (q_pick_t rfl rfl g15 rfl) ?_
                        refine SOps.q rfl (.plain rfl) rfl (q_move rfl rfl) ?_
                        refine SOps.q rfl (.guard 14 62 true rfl rfl (gT g16)) rfl (q_move rfl rfl) ?_
                        refine SOps.q rfl (.guard 14 62 true rfl rfl (gT g16)) rfl (q_eql rfl rfl rfl) ?_
                        refine SOps.q rfl (.plain rfl) rfl (q_pick_t rfl rfl g16 rfl) ?_
                        refine SOps.q rfl (.plain rfl) rfl (q_move rfl rfl) ?_
                        refine SOps.q rfl (.guard 18 66 true rfl rfl (gT g17)) rfl (q_move rfl rfl) ?_
                        refine SOps.q rfl (.guard 18 66 true rfl rfl (gT g17)) rfl (q_load_ptr_all rfl rfl rfl rfl rfl ty25) ?_
                        refine SOps.q rfl (.guard 18 66 true rfl rfl (gT g17)) rfl (q_load_ptr_all rfl rfl rfl rfl rfl ty25) ?_
                        refine SOps.q rfl (.guard 18 66 true rfl rfl (gT g17)) rfl (q_bsliceL (c := cSCurtail) (d0 := dSCurtail) [SCurtail.mk (ByteArray.mk #[101]) 2 0 10 20 5000 false, SCurtail.mk (ByteArray.mk #[102]) 1 0 15 30 3000 false] rfl rfl sl34 z25 rfl rfl rfl rfl rfl rfl rfl) ?_
                        refine SOps.q rfl (.guard 18 66 true rfl rfl (gT g17)) rfl (q_call (slices_Equal_api_Curtail_api_Curtail_ok F c_4.1 ([SCurtail.mk (ByteArray.mk #[101]) 2 0 10 20 5000 false, SCurtail.mk (ByteArray.mk #[102]) 1 0 15 30 3000 false]) c_18 g19) [] rfl fn14 ⟨⟨_, rfl, .inl ⟨rfl, rfl⟩⟩, ⟨_, rfl, .inl ⟨rfl, rfl⟩⟩, trivial⟩ (.inl rfl)) ?_
                        refine SOps.q rfl (.plain rfl) rfl (q_pick_t rfl rfl g17 rfl) ?_
                        refine SOps.q rfl (.plain rfl) rfl (q_move rfl rfl) ?_
                        refine SOps.q rfl (.guard 25 73 true rfl rfl (gT g20)) rfl (q_move rfl rfl) ?_
                        refine SOps.q rfl (.guard 25 73 true rfl rfl (gT g20)) rfl (q_eql rfl rfl rfl) ?_
                        refine SOps.q rfl (.plain rfl) rfl (q_pick_t rfl rfl g20 rfl) ?_
                        refine SOps.q rfl (.plain rfl) rfl (q_move rfl rfl) ?_
                        refine SOps.q rfl (.guard 29 77 true rfl rfl (gT g21)) rfl (q_move rfl rfl) ?_
                        refine SOps.q rfl (.guard 29 77 true rfl rfl (gT g21)) rfl (q_eql rfl rfl rfl) ?_
                        refine SOps.q rfl (.plain rfl) rfl (q_pick_t rfl rfl g21 rfl) ?_
                        refine SOps.q rfl (.plain rfl) rfl (q_move rfl rfl) ?_
                        refine SOps.q rfl (.guard 33 81 true rfl rfl (gT g22)) rfl (q_move rfl rfl) ?_
                        refine SOps.q rfl (.guard 33 81 true rfl rfl (gT g22)) rfl (q_call (curtail_At_ok F c_4.1 0 12 c_23 g24) [] rfl fn16 ⟨⟨_, rfl, .inl ⟨rfl, rfl⟩⟩, ⟨_, rfl, .inl ⟨rfl, rfl⟩⟩, ⟨_, rfl, .inl ⟨rfl, rfl⟩⟩, trivial⟩ (.inl rfl)) ?_
                        refine SOps.q rfl (.guard 33 81 true rfl rfl (gT g22)) rfl (q_eql rfl rfl rfl) ?_
                        refine SOps.q rfl (.plain rfl) rfl (q_pick_t rfl rfl g22 rfl) ?_
                        refine SOps.q rfl (.plain rfl) rfl (q_move rfl rfl) ?_
                        refine SOps.q rfl (.guard 38 86 true rfl rfl (gT g25)) rfl (q_move rfl rfl) ?_
                        refine SOps.q rfl (.guard 38 86 true rfl rfl (gT g25)) rfl (q_call (curtail_At_ok F c_4.1 0 15 c_26 g27) [] rfl fn16 ⟨⟨_, rfl, .inl ⟨rfl, rfl⟩⟩, ⟨_, rfl, .inl ⟨rfl, rfl⟩⟩, ⟨_, rfl, .inl ⟨rfl, rfl⟩⟩, trivial⟩ (.inl rfl)) ?_
                        refine SOps.q rfl (.guard 38 86 true rfl rfl (gT g25)) rfl (q_eql rfl rfl rfl) ?_
                        refine SOps.q rfl (.plain rfl) rfl (q_pick_t rfl rfl g25 rfl) ?_
                        refine SOps.q rfl (.plain rfl) rfl (q_move rfl rfl) ?_
                        refine SOps.q rfl (.guard 43 91 true rfl rfl (gT g28)) rfl (q_move rfl rfl) ?_
                        refine SOps.q rfl (.guard 43 91 true rfl rfl (gT g28)) rfl (q_call (curtail_At_ok F c_4.1 0 30 c_29 g30) [] rfl fn16 ⟨⟨_, rfl, .inl ⟨rfl, rfl⟩⟩, ⟨_, rfl, .inl ⟨rfl, rfl⟩⟩, ⟨_, rfl, .inl ⟨rfl, rfl⟩⟩, trivial⟩ (.inl rfl)) ?_
                        refine SOps.q rfl (.guard 43 91 true rfl rfl (gT g28)) rfl (q_eql rfl rfl rfl) ?_
                        refine SOps.q rfl (.plain rfl) rfl (q_pick_t rfl rfl g28 rfl) ?_
                        refine SOps.q rfl (.plain rfl) rfl (q_move rfl rfl) ?_
                        refine SOps.q rfl (.guard 48 96 true rfl rfl (gT g31)) rfl (q_move rfl rfl) ?_
                        refine SOps.q rfl (.guard 48 96 true rfl rfl (gT g31)) rfl (q_call (curtail_At_ok F c_4.1 1 15 c_32 g33) [] rfl fn16 ⟨⟨_, rfl, .inl ⟨rfl, rfl⟩⟩, ⟨_, rfl, .inl ⟨rfl, rfl⟩⟩, ⟨_, rfl, .inl ⟨rfl, rfl⟩⟩, trivial⟩ (.inl rfl)) ?_
                        refine SOps.q rfl (.guard 48 96 true rfl rfl (gT g31)) rfl (q_eql rfl rfl rfl) ?_
                        refine SOps.q rfl (.plain rfl) rfl (q_pick_t rfl rfl g31 rfl) ?_
                        refine SOps.q rfl (.plain rfl) rfl (q_move rfl rfl) ?_
                        refine SOps.q rfl (.guard 53 101 true rfl rfl (gT g34)) rfl (q_move rfl rfl) ?_
                        refine SOps.q rfl (.guard 53 101 true rfl rfl (gT g34)) rfl (q_call (curtail_Next_ok F c_4.1 0 c_35 g36) [] rfl fn18 ⟨⟨_, rfl, .inl ⟨rfl, rfl⟩⟩, ⟨_, rfl, .inl ⟨rfl, rfl⟩⟩, trivial⟩ (.inl rfl)) ?_
                        refine SOps.q rfl (.guard 53 101 true rfl rfl (gT g34)) rfl (q_eql rfl rfl rfl) ?_
                        refine SOps.q rfl (.plain rfl) rfl (q_pick_t rfl rfl g34 rfl) ?_
                        refine SOps.q rfl (.plain rfl) rfl (q_move rfl rfl) ?_
                        refine SOps.skip rfl 58 106 true rfl rfl (.inl (gF g37)) rfl ?_
                        refine SOps.skip rfl 58 106 true rfl rfl (.inl (gF g37)) rfl ?_
                        refine SOps.skip rfl 58 106 true rfl rfl (.inl (gF g37)) rfl ?_
                        refine SOps.q rfl (.plain rfl) rfl (q_pick_f rfl rfl g37 rfl) ?_
                        refine SOps.q rfl (.plain rfl) rfl (q_move rfl rfl) ?_
                        refine SOps.skip rfl 63 111 true rfl rfl (.inl rfl) rfl ?_
                        refine SOps.skip rfl 63 111 true rfl rfl (.inl rfl) rfl ?_
                        refine SOps.skip rfl 63 111 true rfl rfl (.inl rfl) rfl ?_
                        refine SOps.q rfl (.plain rfl) rfl (q_pick_f rfl rfl rfl rfl) ?_
                        refine SOps.q rfl (.plain rfl) rfl (q_move rfl rfl) ?_
                        refine SOps.skip rfl 68 116 true rfl rfl (.inl rfl) rfl ?_
                        refine SOps.skip rfl 68 116 true rfl rfl (.inl rfl) rfl ?_
                        refine SOps.skip rfl 68 116 true rfl rfl (.inl rfl) rfl ?_
                        refine SOps.q rfl (.plain rfl) rfl (q_pick_f rfl rfl rfl rfl) ?_
                        refine SOps.q rfl (.plain rfl) rfl (q_assign rfl rfl) ?_
                        refine SOps.sub (st' := ⟨[(0, .c (.bool false))], []⟩) (sub_gen [] rfl rfl ⟨zc rfl rfl, trivial⟩ trivial) ?_
                        refine SOps.nil ?_
                        refine SCode.ret ?_
                        obtain rfl := Option.some.inj h
                        exact ⟨⟨[(0, .c (.bool false))], []⟩, _, sub_gen [] rfl rfl ⟨zc rfl rfl, trivial⟩ trivial, resA1 (v := .c (.bool false)) rfl rfl, rfl⟩
                      refine SCode.region (show SOps _ _ _ [0, 1, 2, 3, 4, 5, 6, 7, 8, 9, 10, 11, 12, 13, 14, 15, 16, 17, 18, 19, 20, 21, 22, 23, 24, 25, 26, 27, 28, 29, 30, 31, 32, 33, 34, 35, 36, 37, 38, 39, 40, 41, 42, 43, 44, 45, 46, 47, 48, 49, 50, 51, 52, 53, 54, 55, 56, 57, 58, 59, 60, 61, 62, 63, 64, 65, 66, 67, 68, 69, 70, 71, 72, 73] _ _ from ?_)
                      refine SOps.q rfl (.plain rfl) rfl (q_load_ptr_all rfl rfl rfl rfl rfl ty25) ?_
                      refine SOps.q rfl (.plain rfl) rfl (q_load_ptr_all rfl rfl rfl rfl rfl ty30) ?_
                      refine SOps.q rfl (.plain rfl) rfl (q_call (curtail_Valid_ok F (SCurtail.mk (ByteArray.mk #[101]) 2 0 10 20 5000 false) (SSite.mk ByteArray.empty (List.replicate (1 : Int).toNat dSFeeder) (([] : List SPoint))) c_10 g11) [] rfl fn10 ⟨⟨rfl, rfl⟩, ⟨rfl, rfl⟩, trivial⟩ (.inl rfl)) ?_
                      refine SOps.q rfl (.plain rfl) rfl (q_eql rfl rfl rfl) ?_
                      refine SOps.q rfl (.plain rfl) rfl (q_move rfl rfl) ?_
                      refine SOps.q rfl (.guard 4 52 true rfl rfl (gT g12)) rfl (q_load_ptr_all rfl rfl rfl rfl rfl ty25) ?_
                      refine SOps.q rfl (.guard 4 52 true rfl rfl (gT g12)) rfl (q_load_ptr_all rfl rfl rfl rfl rfl ty30) ?_
                      refine SOps.q rfl (.guard 4 52 true rfl rfl (gT g12)) rfl (q_call (curtail_Valid_ok F (SCurtail.mk (ByteArray.mk #[101]) 2 1 10 20 5000 false) (SSite.mk ByteArray.empty (List.replicate (1 : Int).toNat dSFeeder) (([] : List SPoint))) c_13 g14) [] rfl fn10 ⟨⟨rfl, rfl⟩, ⟨rfl, rfl⟩, trivial⟩ (.inl rfl)) ?_
                      refine SOps.q rfl (.guard 4 52 true rfl rfl (gT g12)) rfl (q_eql rfl rfl rfl) ?_
                      refine SOps.q rfl (.plain rfl) rfl (q_pick_t rfl rfl g12 rfl) ?_
                      refine SOps.q rfl (.plain rfl) rfl (q_move rfl rfl) ?_
                      refine SOps.q rfl (.guard 10 58 true rfl rfl (gT g15)) rfl (q_move rfl rfl) ?_
                      refine SOps.q rfl (.guard 10 58 true rfl rfl (gT g15)) rfl (q_eql rfl rfl rfl) ?_
                      refine SOps.q rfl (.plain rfl) rfl (q_pick_t rfl rfl g15 rfl) ?_
                      refine SOps.q rfl (.plain rfl) rfl (q_move rfl rfl) ?_
                      refine SOps.q rfl (.guard 14 62 true rfl rfl (gT g16)) rfl (q_move rfl rfl) ?_
                      refine SOps.q rfl (.guard 14 62 true rfl rfl (gT g16)) rfl (q_eql rfl rfl rfl) ?_
                      refine SOps.q rfl (.plain rfl) rfl (q_pick_t rfl rfl g16 rfl) ?_
                      refine SOps.q rfl (.plain rfl) rfl (q_move rfl rfl) ?_
                      refine SOps.q rfl (.guard 18 66 true rfl rfl (gT g17)) rfl (q_move rfl rfl) ?_
                      refine SOps.q rfl (.guard 18 66 true rfl rfl (gT g17)) rfl (q_load_ptr_all rfl rfl rfl rfl rfl ty25) ?_
                      refine SOps.q rfl (.guard 18 66 true rfl rfl (gT g17)) rfl (q_load_ptr_all rfl rfl rfl rfl rfl ty25) ?_
                      refine SOps.q rfl (.guard 18 66 true rfl rfl (gT g17)) rfl (q_bsliceL (c := cSCurtail) (d0 := dSCurtail) [SCurtail.mk (ByteArray.mk #[101]) 2 0 10 20 5000 false, SCurtail.mk (ByteArray.mk #[102]) 1 0 15 30 3000 false] rfl rfl sl34 z25 rfl rfl rfl rfl rfl rfl rfl) ?_
                      refine SOps.q rfl (.guard 18 66 true rfl rfl (gT g17)) rfl (q_call (slices_Equal_api_Curtail_api_Curtail_ok F c_4.1 ([SCurtail.mk (ByteArray.mk #[101]) 2 0 10 20 5000 false, SCurtail.mk (ByteArray.mk #[102]) 1 0 15 30 3000 false]) c_18 g19) [] rfl fn14 ⟨⟨_, rfl, .inl ⟨rfl, rfl⟩⟩, ⟨_, rfl, .inl ⟨rfl, rfl⟩⟩, trivial⟩ (.inl rfl)) ?_
                      refine SOps.q rfl (.plain rfl) rfl (q_pick_t rfl rfl g17 rfl) ?_
                      refine SOps.q rfl (.plain rfl) rfl (q_move rfl rfl) ?_
                      refine SOps.q rfl (.guard 25 73 true rfl rfl (gT g20)) rfl (q_move rfl rfl) ?_
                      refine SOps.q rfl (.guard 25 73 true rfl rfl (gT g20)) rfl (q_eql rfl rfl rfl) ?_
                      refine SOps.q rfl (.plain rfl) rfl (q_pick_t rfl rfl g20 rfl) ?_
                      refine SOps.q rfl (.plain rfl) rfl (q_move rfl rfl) ?_
                      refine SOps.q rfl (.guard 29 77 true rfl rfl (gT g21)) rfl (q_move rfl rfl) ?_
                      refine SOps.q rfl (.guard 29 77 true rfl rfl (gT g21)) rfl (q_eql rfl rfl rfl) ?_
                      refine SOps.q rfl (.plain rfl) rfl (q_pick_t rfl rfl g21 rfl) ?_
                      refine SOps.q rfl (.plain rfl) rfl (q_move rfl rfl) ?_
                      refine SOps.q rfl (.guard 33 81 true rfl rfl (gT g22)) rfl (q_move rfl rfl) ?_
                      refine SOps.q rfl (.guard 33 81 true rfl rfl (gT g22)) rfl (q_call (curtail_At_ok F c_4.1 0 12 c_23 g24) [] rfl fn16 ⟨⟨_, rfl, .inl ⟨rfl, rfl⟩⟩, ⟨_, rfl, .inl ⟨rfl, rfl⟩⟩, ⟨_, rfl, .inl ⟨rfl, rfl⟩⟩, trivial⟩ (.inl rfl)) ?_
                      refine SOps.q rfl (.guard 33 81 true rfl rfl (gT g22)) rfl (q_eql rfl rfl rfl) ?_
                      refine SOps.q rfl (.plain rfl) rfl (q_pick_t rfl rfl g22 rfl) ?_
                      refine SOps.q rfl (.plain rfl) rfl (q_move rfl rfl) ?_
                      refine SOps.q rfl (.guard 38 86 true rfl rfl (gT g25)) rfl (q_move rfl rfl) ?_
                      refine SOps.q rfl (.guard 38 86 true rfl rfl (gT g25)) rfl (q_call (curtail_At_ok F c_4.1 0 15 c_26 g27) [] rfl fn16 ⟨⟨_, rfl, .inl ⟨rfl, rfl⟩⟩, ⟨_, rfl, .inl ⟨rfl, rfl⟩⟩, ⟨_, rfl, .inl ⟨rfl, rfl⟩⟩, trivial⟩ (.inl rfl)) ?_
                      refine SOps.q rfl (.guard 38 86 true rfl rfl (gT g25)) rfl (q_eql rfl rfl rfl) ?_
                      refine SOps.q rfl (.plain rfl) rfl (q_pick_t rfl rfl g25 rfl) ?_
                      refine SOps.q rfl (.plain rfl) rfl (q_move rfl rfl) ?_
                      refine SOps.q rfl (.guard 43 91 true rfl rfl (gT g28)) rfl (q_move rfl rfl) ?_
                      refine SOps.q rfl (.guard 43 91 true rfl rfl (gT g28)) rfl (q_call (curtail_At_ok F c_4.1 0 30 c_29 g30) [] rfl fn16 ⟨⟨_, rfl, .inl ⟨rfl, rfl⟩⟩, ⟨_, rfl, .inl ⟨rfl, rfl⟩⟩, ⟨_, rfl, .inl ⟨rfl, rfl⟩⟩, trivial⟩ (.inl rfl)) ?_
                      refine SOps.q rfl (.guard 43 91 true rfl rfl (gT g28)) rfl (q_eql rfl rfl rfl) ?_
                      refine SOps.q rfl (.plain rfl) rfl (q_pick_t rfl rfl g28 rfl) ?_
                      refine SOps.q rfl (.plain rfl) rfl (q_move rfl rfl) ?_
                      refine SOps.q rfl (.guard 48 96 true rfl rfl (gT g31)) rfl (q_move rfl rfl) ?_
                      refine SOps.q rfl (.guard 48 96 true rfl rfl (gT g31)) rfl (q_call (curtail_At_ok F c_4.1 1 15 c_32 g33) [] rfl fn16 ⟨⟨_, rfl, .inl ⟨rfl, rfl⟩⟩, ⟨_, rfl, .inl ⟨rfl, rfl⟩⟩, ⟨_, rfl, .inl ⟨rfl, rfl⟩⟩, trivial⟩ (.inl rfl)) ?_
                      refine SOps.q rfl (.guard 48 96 true rfl rfl (gT g31)) rfl (q_eql rfl rfl rfl) ?_
                      refine SOps.q rfl (.plain rfl) rfl (q_pick_t rfl rfl g31 rfl) ?_
                      refine SOps.q rfl (.plain rfl) rfl (q_move rfl rfl) ?_
                      refine SOps.skip rfl 53 101 true rfl rfl (.inl (gF g34)) rfl ?_
                      refine SOps.skip rfl 53 101 true rfl rfl (.inl (gF g34)) rfl ?_
                      refine SOps.skip rfl 53 101 true rfl rfl (.inl (gF g34)) rfl ?_
                      refine SOps.q rfl (.plain rfl) rfl (q_pick_f rfl rfl g34 rfl) ?_
                      refine SOps.q rfl (.plain rfl) rfl (q_move rfl rfl) ?_
                      refine SOps.skip rfl 58 106 true rfl rfl (.inl rfl) rfl ?_
                      refine SOps.skip rfl 58 106 true rfl rfl (.inl rfl) rfl ?_
                      refine SOps.skip rfl 58 106 true rfl rfl (.inl rfl) rfl ?_
                      refine SOps.q rfl (.plain rfl) rfl (q_pick_f rfl rfl rfl rfl) ?_
                      refine SOps.q rfl (.plain rfl) rfl (q_move rfl rfl) ?_
                      refine SOps.skip rfl 63 111 true rfl rfl (.inl rfl) rfl ?_
                      refine SOps.skip rfl 63 111 true rfl rfl (.inl rfl) rfl ?_
                      refine SOps.skip rfl 63 111 true rfl rfl (.inl rfl) rfl ?_
                      refine SOps.q rfl (.plain rfl) rfl (q_pick_f rfl rfl rfl rfl) ?_
                      refine SOps.q rfl (.plain rfl) rfl (q_move rfl rfl) ?_
                      refine SOps.skip rfl 68 116 true rfl rfl (.inl rfl) rfl ?_
                      refine SOps.skip rfl 68 116 true rfl rfl (.inl rfl) rfl ?_
                      refine SOps.skip rfl 68 116 true rfl rfl (.inl rfl) rfl ?_
                      refine SOps.q rfl (.plain rfl) rfl (q_pick_f rfl rfl rfl rfl) ?_
                      refine SOps.q rfl (.plain rfl) rfl (q_assign rfl rfl) ?_
                      refine SOps.sub (st' := ⟨[(0, .c (.bool false))], []⟩) (sub_gen [] rfl rfl ⟨zc rfl rfl, trivial⟩ trivial) ?_
                      refine SOps.nil ?_
                      refine SCode.ret ?_
                      obtain rfl := Option.some.inj h
                      exact ⟨⟨[(0, .c (.bool false))], []⟩, _, sub_gen [] rfl rfl ⟨zc rfl rfl, trivial⟩ trivial, resA1 (v := .c (.bool false)) rfl rfl, rfl⟩
                    refine SCode.region (show SOps _ _ _ [0, 1, 2, 3, 4, 5, 6, 7, 8, 9, 10, 11, 12, 13, 14, 15, 16, 17, 18, 19, 20, 21, 22, 23, 24, 25, 26, 27, 28, 29, 30, 31, 32, 33, 34, 35, 36, 37, 38, 39, 40, 41, 42, 43, 44, 45, 46, 47, 48, 49, 50, 51, 52, 53, 54, 55, 56, 57, 58, 59, 60, 61, 62, 63, 64, 65, 66, 67, 68, 69, 70, 71, 72, 73] _ _ from ?_)
                    refine SOps.q rfl (.plain rfl) rfl (q_load_ptr_all rfl rfl rfl rfl rfl ty25) ?_
                    refine SOps.q rfl (.plain rfl) rfl (q_load_ptr_all rfl rfl rfl rfl rfl ty30) ?_
                    refine SOps.q rfl (.plain rfl) rfl (q_call (curtail_Valid_ok F (SCurtail.mk (ByteArray.mk #[101]) 2 0 10 20 5000 false) (SSite.mk ByteArray.empty (List.replicate (1 : Int).toNat dSFeeder) (([] : List SPoint))) c_10 g11) [] rfl fn10 ⟨⟨rfl, rfl⟩, ⟨rfl, rfl⟩, trivial⟩ (.inl rfl)) ?_
                    refine SOps.q rfl (.plain rfl) rfl (q_eql rfl rfl rfl) ?_
                    refine SOps.q rfl (.plain rfl) rfl (q_move rfl rfl) ?_
                    refine SOps.q rfl (.guard 4 52 true rfl rfl (gT g12)) rfl (q_load_ptr_all rfl rfl rfl rfl rfl ty25) ?_
                    refine SOps.q rfl (.guard 4 52 true rfl rfl (gT g12)) rfl (q_load_ptr_all rfl rfl rfl rfl rfl ty30) ?_
                    refine SOps.q rfl (.guard 4 52 true rfl rfl (gT g12)) rfl (q_call (curtail_Valid_ok F (SCurtail.mk (ByteArray.mk #[101]) 2 1 10 20 5000 false) (SSite.mk ByteArray.empty (List.replicate (1 : Int).toNat dSFeeder) (([] : List SPoint))) c_13 g14) [] rfl fn10 ⟨⟨rfl, rfl⟩, ⟨rfl, rfl⟩, trivial⟩ (.inl rfl)) ?_
                    refine SOps.q rfl (.guard 4 52 true rfl rfl (gT g12)) rfl (q_eql rfl rfl rfl) ?_
                    refine SOps.q rfl (.plain rfl) rfl (q_pick_t rfl rfl g12 rfl) ?_
                    refine SOps.q rfl (.plain rfl) rfl (q_move rfl rfl) ?_
                    refine SOps.q rfl (.guard 10 58 true rfl rfl (gT g15)) rfl (q_move rfl rfl) ?_
                    refine SOps.q rfl (.guard 10 58 true rfl rfl (gT g15)) rfl (q_eql rfl rfl rfl) ?_
                    refine SOps.q rfl (.plain rfl) rfl (q_pick_t rfl rfl g15 rfl) ?_
                    refine SOps.q rfl (.plain rfl) rfl (q_move rfl rfl) ?_
                    refine SOps.q rfl (.guard 14 62 true rfl rfl (gT g16)) rfl (q_move rfl rfl) ?_
                    refine SOps.q rfl (.guard 14 62 true rfl rfl (gT g16)) rfl (q_eql rfl rfl rfl) ?_
                    refine SOps.q rfl (.plain rfl) rfl (q_pick_t rfl rfl g16 rfl) ?_
                    refine SOps.q rfl (.plain rfl) rfl (q_move rfl rfl) ?_
                    refine SOps.q rfl (.guard 18 66 true rfl rfl (gT g17)) rfl (q_move rfl rfl) ?_
                    refine SOps.q rfl (.guard 18 66 true rfl rfl (gT g17)) rfl (q_load_ptr_all rfl rfl rfl rfl rfl ty25) ?_
                    refine SOps.q rfl (.guard 18 66 true rfl rfl (gT g17)) rfl (q_load_ptr_all rfl rfl rfl rfl rfl ty25) ?_
                    refine SOps.q rfl (.guard 18 66 true rfl rfl (gT g17)) rfl (q_bsliceL (c := cSCurtail) (d0 := dSCurtail) [SCurtail.mk (ByteArray.mk #[101]) 2 0 10 20 5000 false, SCurtail.mk (ByteArray.mk #[102]) 1 0 15 30 3000 false] rfl rfl sl34 z25 rfl rfl rfl rfl rfl rfl rfl) ?_
                    refine SOps.q rfl (.guard 18 66 true rfl rfl (gT g17)) rfl (q_call (slices_Equal_api_Curtail_api_Curtail_ok F c_4.1 ([SCurtail.mk (ByteArray.mk #[101]) 2 0 10 20 5000 false, SCurtail.mk (ByteArray.mk #[102]) 1 0 15 30 3000 false]) c_18 g19) [] rfl fn14 ⟨⟨_, rfl, .inl ⟨rfl, rfl⟩⟩, ⟨_, rfl, .inl ⟨rfl, rfl⟩⟩, trivial⟩ (.inl rfl)) ?_
                    refine SOps.q rfl (.plain rfl) rfl (q_pick_t rfl rfl g17 rfl) ?_
                    refine SOps.q rfl (.plain rfl) rfl (q_move rfl rfl) ?_
                    refine SOps.q rfl (.guard 25 73 true rfl rfl (gT g20)) rfl (q_move rfl rfl) ?_
                    refine SOps.q rfl (.guard 25 73 true rfl rfl (gT g20)) rfl (q_eql rfl rfl rfl) ?_
                    refine SOps.q rfl (.plain rfl) rfl (q_pick_t rfl rfl g20 rfl) ?_
                    refine SOps.q rfl (.plain rfl) rfl (q_move rfl rfl) ?_
                    refine SOps.q rfl (.guard 29 77 true rfl rfl (gT g21)) rfl (q_move rfl rfl) ?_
                    refine SOps.q rfl (.guard 29 77 true rfl rfl (gT g21)) rfl (q_eql rfl rfl rfl) ?_
                    refine SOps.q rfl (.plain rfl) rfl (q_pick_t rfl rfl g21 rfl) ?_
                    refine SOps.q rfl (.plain rfl) rfl (q_move rfl rfl) ?_
                    refine SOps.q rfl (.guard 33 81 true rfl rfl (gT g22)) rfl (q_move rfl rfl) ?_
                    refine SOps.q rfl (.guard 33 81 true rfl rfl (gT g22)) rfl (q_call (curtail_At_ok F c_4.1 0 12 c_23 g24) [] rfl fn16 ⟨⟨_, rfl, .inl ⟨rfl, rfl⟩⟩, ⟨_, rfl, .inl ⟨rfl, rfl⟩⟩, ⟨_, rfl, .inl ⟨rfl, rfl⟩⟩, trivial⟩ (.inl rfl)) ?_
                    refine SOps.q rfl (.guard 33 81 true rfl rfl (gT g22)) rfl (q_eql rfl rfl rfl) ?_
                    refine SOps.q rfl (.plain rfl) rfl (q_pick_t rfl rfl g22 rfl) ?_
                    refine SOps.q rfl (.plain rfl) rfl (q_move rfl rfl) ?_
                    refine SOps.q rfl (.guard 38 86 true rfl rfl (gT g25)) rfl (q_move rfl rfl) ?_
                    refine SOps.q rfl (.guard 38 86 true rfl rfl (gT g25)) rfl (q_call (curtail_At_ok F c_4.1 0 15 c_26 g27) [] rfl fn16 ⟨⟨_, rfl, .inl ⟨rfl, rfl⟩⟩, ⟨_, rfl, .inl ⟨rfl, rfl⟩⟩, ⟨_, rfl, .inl ⟨rfl, rfl⟩⟩, trivial⟩ (.inl rfl)) ?_
                    refine SOps.q rfl (.guard 38 86 true rfl rfl (gT g25)) rfl (q_eql rfl rfl rfl) ?_
                    refine SOps.q rfl (.plain rfl) rfl (q_pick_t rfl rfl g25 rfl) ?_
                    refine SOps.q rfl (.plain rfl) rfl (q_move rfl rfl) ?_
                    refine SOps.q rfl (.guard 43 91 true rfl rfl (gT g28)) rfl (q_move rfl rfl) ?_
                    refine SOps.q rfl (.guard 43 91 true rfl rfl (gT g28)) rfl (q_call (curtail_At_ok F c_4.1 0 30 c_29 g30) [] rfl fn16 ⟨⟨_, rfl, .inl ⟨rfl, rfl⟩⟩, ⟨_, rfl, .inl ⟨rfl, rfl⟩⟩, ⟨_, rfl, .inl ⟨rfl, rfl⟩⟩, trivial⟩ (.inl rfl)) ?_
                    refine SOps.q rfl (.guard 43 91 true rfl rfl (gT g28)) rfl (q_eql rfl rfl rfl) ?_
                    refine SOps.q rfl (.plain rfl) rfl (q_pick_t rfl rfl g28 rfl) ?_
                    refine SOps.q rfl (.plain rfl) rfl (q_move rfl rfl) ?_
                    refine SOps.skip rfl 48 96 true rfl rfl (.inl (gF g31)) rfl ?_
                    refine SOps.skip rfl 48 96 true rfl rfl (.inl (gF g31)) rfl ?_
                    refine SOps.skip rfl 48 96 true rfl rfl (.inl (gF g31)) rfl ?_
                    refine SOps.q rfl (.plain rfl) rfl (q_pick_f rfl rfl g31 rfl) ?_
                    refine SOps.q rfl (.plain rfl) rfl (q_move rfl rfl) ?_
                    refine SOps.skip rfl 53 101 true rfl rfl (.inl rfl) rfl ?_
                    refine SOps.skip rfl 53 101 true rfl rfl (.inl rfl) rfl ?_
                    refine SOps.skip rfl 53 101 true rfl rfl (.inl rfl) rfl ?_
                    refine SOps.q rfl (.plain rfl) rfl (q_pick_f rfl rfl rfl rfl) ?_
                    refine SOps.q rfl (.plain rfl) rfl (q_move rfl rfl) ?_
                    refine SOps.skip rfl 58 106 true rfl rfl (.inl rfl) rfl ?_
                    refine SOps.skip rfl 58 106 true rfl rfl (.inl rfl) rfl ?_
                    refine SOps.skip rfl 58 106 true rfl rfl (.inl rfl) rfl ?_
                    refine SOps.q rfl (.plain rfl) rfl (q_pick_f rfl rfl rfl rfl) ?_
                    refine SOps.q rfl (.plain rfl) rfl (q_move rfl rfl) ?_
                    refine SOps.skip rfl 63 111 true rfl rfl (.inl rfl) rfl ?_
                    refine SOps.skip rfl 63 111 true rfl rfl (.inl rfl) rfl ?_
                    refine SOps.skip rfl 63 111 true rfl rfl (.inl rfl) rfl ?_
                    refine SOps.q rfl (.plain rfl) rfl (q_pick_f rfl rfl rfl rfl) ?_
                    refine SOps.q rfl (.plain rfl) rfl (q_move rfl rfl) ?_
                    refine SOps.skip rfl 68 116 true rfl rfl (.inl rfl) rfl ?_
                    refine SOps.skip rfl 68 116 true rfl rfl (.inl rfl) rfl ?_
                    refine SOps.skip rfl 68 116 true rfl rfl (.inl rfl) rfl ?_
                    refine SOps.q rfl (.plain rfl) rfl (q_pick_f rfl rfl rfl rfl) ?_
                    refine SOps.q rfl (.plain rfl) rfl (q_assign rfl rfl) ?_
                    refine SOps.sub (st' := ⟨[(0, .c (.bool false))], []⟩) (sub_gen [] rfl rfl ⟨zc rfl rfl, trivial⟩ trivial) ?_
                    refine SOps.nil ?_
                    refine SCode.ret ?_
                    obtain rfl := Option.some.inj h
                    exact ⟨⟨[(0, .c (.bool false))], []⟩, _, sub_gen [] rfl rfl ⟨zc rfl rfl, trivial⟩ trivial, resA1 (v := .c (.bool false)) rfl rfl, rfl⟩
                  refine SCode.region (show SOps _ _ _ [0, 1, 2, 3, 4, 5, 6, 7, 8, 9, 10, 11, 12, 13, 14, 15, 16, 17, 18, 19, 20, 21, 22, 23, 24, 25, 26, 27, 28, 29, 30, 31, 32, 33, 34, 35, 36, 37, 38, 39, 40, 41, 42, 43, 44, 45, 46, 47, 48, 49, 50, 51, 52, 53, 54, 55, 56, 57, 58, 59, 60, 61, 62, 63, 64, 65, 66, 67, 68, 69, 70, 71, 72, 73] _ _ from ?_)
                  refine SOps.q rfl (.plain rfl) rfl (q_load_ptr_all rfl rfl rfl rfl rfl ty25) ?_
                  refine SOps.q rfl (.plain rfl) rfl (q_load_ptr_all rfl rfl rfl rfl rfl ty30) ?_
                  refine SOps.q rfl (.plain rfl) rfl (q_call (curtail_Valid_ok F (SCurtail.mk (ByteArray.mk #[101]) 2 0 10 20 5000 false) (SSite.mk ByteArray.empty (List.replicate (1 : Int).toNat dSFeeder) (([] : List SPoint))) c_10 g11) [] rfl fn10 ⟨⟨rfl, rfl⟩, ⟨rfl, rfl⟩, trivial⟩ (.inl rfl)) ?_
                  refine SOps.q rfl (.plain rfl) rfl (q_eql rfl rfl rfl) ?_
                  refine SOps.q rfl (.plain rfl) rfl (q_move rfl rfl) ?_
                  refine SOps.q rfl (.guard 4 52 true rfl rfl (gT g12)) rfl (q_load_ptr_all rfl rfl rfl rfl rfl ty25) ?_
                  refine SOps.q rfl (.guard 4 52 true rfl rfl (gT g12)) rfl (q_load_ptr_all rfl rfl rfl rfl rfl ty30) ?_
                  refine SOps.q rfl (.guard 4 52 true rfl rfl (gT g12)) rfl (q_call (curtail_Valid_ok F (SCurtail.mk (ByteArray.mk #[101]) 2 1 10 20 5000 false) (SSite.mk ByteArray.empty (List.replicate (1 : Int).toNat dSFeeder) (([] : List SPoint))) c_13 g14) [] rfl fn10 ⟨⟨rfl, rfl⟩, ⟨rfl, rfl⟩, trivial⟩ (.inl rfl)) ?_
                  refine SOps.q rfl (.guard 4 52 true rfl rfl (gT g12)) rfl (q_eql rfl rfl rfl) ?_
                  refine SOps.q rfl (.plain rfl) rfl (q_pick_t rfl rfl g12 rfl) ?_
                  refine SOps.q rfl (.plain rfl) rfl (q_move rfl rfl) ?_
                  refine SOps.q rfl (.guard 10 58 true rfl rfl (gT g15)) rfl (q_move rfl rfl) ?_
                  refine SOps.q rfl (.guard 10 58 true rfl rfl (gT g15)) rfl (q_eql rfl rfl rfl) ?_
                  refine SOps.q rfl (.plain rfl) rfl (q_pick_t rfl rfl g15 rfl) ?_
                  refine SOps.q rfl (.plain rfl) rfl (q_move rfl rfl) ?_
                  refine SOps.q rfl (.guard 14 62 true rfl rfl (gT g16)) rfl (q_move rfl rfl) ?_
                  refine SOps.q rfl (.guard 14 62 true rfl rfl (gT g16)) rfl (q_eql rfl rfl rfl) ?_
                  refine SOps.q rfl (.plain rfl) rfl (q_pick_t rfl rfl g16 rfl) ?_
                  refine SOps.q rfl (.plain rfl) rfl (q_move rfl rfl) ?_
                  refine SOps.q rfl (.guard 18 66 true rfl rfl (gT g17)) rfl (q_move rfl rfl) ?_
                  refine SOps.q rfl (.guard 18 66 true rfl rfl (gT g17)) rfl (q_load_ptr_all rfl rfl rfl rfl rfl ty25) ?_
                  refine SOps.q rfl (.guard 18 66 true rfl rfl (gT g17)) rfl (q_load_ptr_all rfl rfl rfl rfl rfl ty25) ?_
                  refine SOps.q rfl (.guard 18 66 true rfl rfl (gT g17)) rfl (q_bsliceL (c := cSCurtail) (d0 := dSCurtail) [SCurtail.mk (ByteArray.mk #[101]) 2 0 10 20 5000 false, SCurtail.mk (ByteArray.mk #[102]) 1 0 15 30 3000 false] rfl rfl sl34 z25 rfl rfl rfl rfl rfl rfl rfl) ?_
                  refine SOps.q rfl (.guard 18 66 true rfl rfl (gT g17)) rfl (q_call (slices_Equal_api_Curtail_api_Curtail_ok F c_4.1 ([SCurtail.mk (ByteArray.mk #[101]) 2 0 10 20 5000 false, SCurtail.mk (ByteArray.mk #[102]) 1 0 15 30 3000 false]) c_18 g19) [] rfl fn14 ⟨⟨_, rfl, .inl ⟨rfl, rfl⟩⟩, ⟨_, rfl, .inl ⟨rfl, rfl⟩⟩, trivial⟩ (.inl rfl)) ?_
                  refine SOps.q rfl (.plain rfl) rfl (q_pick_t rfl rfl g17 rfl) ?_
                  refine SOps.q rfl (.plain rfl) rfl (q_move rfl rfl) ?_
                  refine SOps.q rfl (.guard 25 73 true rfl rfl (gT g20)) rfl (q_move rfl rfl) ?_
                  refine SOps.q rfl (.guard 25 73 true rfl rfl (gT g20)) rfl (q_eql rfl rfl rfl) ?_
                  refine SOps.q rfl (.plain rfl) rfl (q_pick_t rfl rfl g20 rfl) ?_
                  refine SOps.q rfl (.plain rfl) rfl (q_move rfl rfl) ?_
                  refine SOps.q rfl (.guard 29 77 true rfl rfl (gT g21)) rfl (q_move rfl rfl) ?_
                  refine SOps.q rfl (.guard 29 77 true rfl rfl (gT g21)) rfl (q_eql rfl rfl rfl) ?_
                  refine SOps.q rfl (.plain rfl) rfl (q_pick_t rfl rfl g21 rfl) ?_
                  refine SOps.q rfl (.plain rfl) rfl (q_move rfl rfl) ?_
                  refine SOps.q rfl (.guard 33 81 true rfl rfl (gT g22)) rfl (q_move rfl rfl) ?_
                  refine SOps.q rfl (.guard 33 81 true rfl rfl (gT g22)) rfl (q_call (curtail_At_ok F c_4.1 0 12 c_23 g24) [] rfl fn16 ⟨⟨_, rfl, .inl ⟨rfl, rfl⟩⟩, ⟨_, rfl, .inl ⟨rfl, rfl⟩⟩, ⟨_, rfl, .inl ⟨rfl, rfl⟩⟩, trivial⟩ (.inl rfl)) ?_
                  refine SOps.q rfl (.guard 33 81 true rfl rfl (gT g22)) rfl (q_eql rfl rfl rfl) ?_
                  refine SOps.q rfl (.plain rfl) rfl (q_pick_t rfl rfl g22 rfl) ?_
                  refine SOps.q rfl (.plain rfl) rfl (q_move rfl rfl) ?_
                  refine SOps.q rfl (.guard 38 86 true rfl rfl (gT g25)) rfl (q_move rfl rfl) ?_
                  refine SOps.q rfl (.guard 38 86 true rfl rfl (gT g25)) rfl (q_call (curtail_At_ok F c_4.1 0 15 c_26 g27) [] rfl fn16 ⟨⟨_, rfl, .inl ⟨rfl, rfl⟩⟩, ⟨_, rfl, .inl ⟨rfl, rfl⟩⟩, ⟨_, rfl, .inl ⟨rfl, rfl⟩⟩, trivial⟩ (.inl rfl)) ?_
                  refine SOps.q rfl (.guard 38 86 true rfl rfl (gT g25)) rfl (q_eql rfl rfl rfl) ?_
                  refine SOps.q rfl (.plain rfl) rfl (q_pick_t rfl rfl g25 rfl) ?_
                  refine SOps.q rfl (.plain rfl) rfl (q_move rfl rfl) ?_
                  refine SOps.skip rfl 43 91 true rfl rfl (.inl (gF g28)) rfl ?_
                  refine SOps.skip rfl 43 91 true rfl rfl (.inl (gF g28)) rfl ?_
                  refine SOps.skip rfl 43 91 true rfl rfl (.inl (gF g28)) rfl ?_
                  refine SOps.q rfl (.plain rfl) rfl (q_pick_f rfl rfl g28 rfl) ?_
                  refine SOps.q rfl (.plain rfl) rfl (q_move rfl rfl) ?_
                  refine SOps.skip rfl 48 96 true rfl rfl (.inl rfl) rfl ?_
                  refine SOps.skip rfl 48 96 true rfl rfl (.inl rfl) rfl ?_
                  refine SOps.skip rfl 48 96 true rfl rfl (.inl rfl) rfl ?_
                  refine SOps.q rfl (.plain rfl) rfl (q_pick_f rfl rfl rfl rfl) ?_
                  refine SOps.q rfl (.plain rfl) rfl (q_move rfl rfl) ?_
                  refine SOps.skip rfl 53 101 true rfl rfl (.inl rfl) rfl ?_
                  refine SOps.skip rfl 53 101 true rfl rfl (.inl rfl) rfl ?_
                  refine SOps.skip rfl 53 101 true rfl rfl (.inl rfl) rfl ?_
                  refine SOps.q rfl (.plain rfl) rfl (q_pick_f rfl rfl rfl rfl) ?_
                  refine SOps.q rfl (.plain rfl) rfl (q_move rfl rfl) ?_
                  refine SOps.skip rfl 58 106 true rfl rfl (.inl rfl) rfl ?_
                  refine SOps.skip rfl 58 106 true rfl rfl (.inl rfl) rfl ?_
                  refine SOps.skip rfl 58 106 true rfl rfl (.inl rfl) rfl ?_
                  refine SOps.q rfl (.plain rfl) rfl (q_pick_f rfl rfl rfl rfl) ?_
                  refine SOps.q rfl (.plain rfl) rfl (q_move rfl rfl) ?_
                  refine SOps.skip rfl 63 111 true rfl rfl (.inl rfl) rfl ?_
                  refine SOps.skip rfl 63 111 true rfl rfl (.inl rfl) rfl ?_
                  refine SOps.skip rfl 63 111 true rfl rfl (.inl rfl) rfl ?_
                  refine SOps.q rfl (.plain rfl) rfl (q_pick_f rfl rfl rfl rfl) ?_
                  refine SOps.q rfl (.plain rfl) rfl (q_move rfl rfl) ?_
                  refine SOps.skip rfl 68 116 true rfl rfl (.inl rfl) rfl ?_
                  refine SOps.skip rfl 68 116 true rfl rfl (.inl rfl) rfl ?_
                  refine SOps.skip rfl 68 116 true rfl rfl (.inl rfl) rfl ?_
                  refine SOps.q rfl (.plain rfl) rfl (q_pick_f rfl rfl rfl rfl) ?_
                  refine SOps.q rfl (.plain rfl) rfl (q_assign rfl rfl) ?_
                  refine SOps.sub (st' := ⟨[(0, .c (.bool false))], []⟩) (sub_gen [] rfl rfl ⟨zc rfl rfl, trivial⟩ trivial) ?_
                  refine SOps.nil ?_
                  refine SCode.ret ?_
                  obtain rfl := Option.some.inj h
                  exact ⟨⟨[(0, .c (.bool false))], []⟩, _, sub_gen [] rfl rfl ⟨zc rfl rfl, trivial⟩ trivial, resA1 (v := .c (.bool false)) rfl rfl, rfl⟩
                refine SCode.region (show SOps _ _ _ [0, 1, 2, 3, 4, 5, 6, 7, 8, 9, 10, 11, 12, 13, 14, 15, 16, 17, 18, 19, 20, 21, 22, 23, 24, 25, 26, 27, 28, 29, 30, 31, 32, 33, 34, 35, 36, 37, 38, 39, 40, 41, 42, 43, 44, 45, 46, 47, 48, 49, 50, 51, 52, 53, 54, 55, 56, 57, 58, 59, 60, 61, 62, 63, 64, 65, 66, 67, 68, 69, 70, 71, 72, 73] _ _ from ?_)
                refine SOps.q rfl (.plain rfl) rfl (q_load_ptr_all rfl rfl rfl rfl rfl ty25) ?_
                refine SOps.q rfl (.plain rfl) rfl (q_load_ptr_all rfl rfl rfl rfl rfl ty30) ?_
                refine SOps.q rfl (.plain rfl) rfl (q_call (curtail_Valid_ok F (SCurtail.mk (ByteArray.mk #[101]) 2 0 10 20 5000 false) (SSite.mk ByteArray.empty (List.replicate (1 : Int).toNat dSFeeder) (([] : List SPoint))) c_10 g11) [] rfl fn10 ⟨⟨rfl, rfl⟩, ⟨rfl, rfl⟩, trivial⟩ (.inl rfl)) ?_
                refine SOps.q rfl (.plain rfl) rfl (q_eql rfl rfl rfl) ?_
                refine SOps.q rfl (.plain rfl) rfl (q_move rfl rfl) ?_
                refine SOps.q rfl (.guard 4 52 true rfl rfl (gT g12)) rfl (q_load_ptr_all rfl rfl rfl rfl rfl ty25) ?_
                refine SOps.q rfl (.guard 4 52 true rfl rfl (gT g12)) rfl (q_load_ptr_all rfl rfl rfl rfl rfl ty30) ?_
                refine SOps.q rfl (.guard 4 52 true rfl rfl (gT g12)) rfl (q_call (curtail_Valid_ok F (SCurtail.mk (ByteArray.mk #[101]) 2 1 10 20 5000 false) (SSite.mk ByteArray.empty (List.replicate (1 : Int).toNat dSFeeder) (([] : List SPoint))) c_13 g14) [] rfl fn10 ⟨⟨rfl, rfl⟩, ⟨rfl, rfl⟩, trivial⟩ (.inl rfl)) ?_
                refine SOps.q rfl (.guard 4 52 true rfl rfl (gT g12)) rfl (q_eql rfl rfl rfl) ?_
                refine SOps.q rfl (.plain rfl) rfl (q_pick_t rfl rfl g12 rfl) ?_
                refine SOps.q rfl (.plain rfl) rfl (q_move rfl rfl) ?_
                refine SOps.q rfl (.guard 10 58 true rfl rfl (gT g15)) rfl (q_move rfl rfl) ?_
                refine SOps.q rfl (.guard 10 58 true rfl rfl (gT g15)) rfl (q_eql rfl rfl rfl) ?_
                refine SOps.q rfl (.plain rfl) rfl (q_pick_t rfl rfl g15 rfl) ?_
                refine SOps.q rfl (.plain rfl) rfl (q_move rfl rfl) ?_
                refine SOps.q rfl (.guard 14 62 true rfl rfl (gT g16)) rfl (q_move rfl rfl) ?_
                refine SOps.q rfl (.guard 14 62 true rfl rfl (gT g16)) rfl (q_eql rfl rfl rfl) ?_
                refine SOps.q rfl (.plain rfl) rfl (q_pick_t rfl rfl g16 rfl) ?_
                refine SOps.q rfl (.plain rfl) rfl (q_move rfl rfl) ?_
                refine SOps.q rfl (.guard 18 66 true rfl rfl (gT g17)) rfl (q_move rfl rfl) ?_
                refine SOps.q rfl (.guard 18 66 true rfl rfl (gT g17)) rfl (q_load_ptr_all rfl rfl rfl rfl rfl ty25) ?_
                refine SOps.q rfl (.guard 18 66 true rfl rfl (gT g17)) rfl (q_load_ptr_all rfl rfl rfl rfl rfl ty25) ?_
                refine SOps.q rfl (.guard 18 66 true rfl rfl (gT g17)) rfl (q_bsliceL (c := cSCurtail) (d0 := dSCurtail) [SCurtail.mk (ByteArray.mk #[101]) 2 0 10 20 5000 false, SCurtail.mk (ByteArray.mk #[102]) 1 0 15 30 3000 false] rfl rfl sl34 z25 rfl rfl rfl rfl rfl rfl rfl) ?_
                refine SOps.q rfl (.guard 18 66 true rfl rfl (gT g17)) rfl (q_call (slices_Equal_api_Curtail_api_Curtail_ok F c_4.1 ([SCurtail.mk (ByteArray.mk #[101]) 2 0 10 20 5000 false, SCurtail.mk (ByteArray.mk #[102]) 1 0 15 30 3000 false]) c_18 g19) [] rfl fn14 ⟨⟨_, rfl, .inl ⟨rfl, rfl⟩⟩, ⟨_, rfl, .inl ⟨rfl, rfl⟩⟩, trivial⟩ (.inl rfl)) ?_
                refine SOps.q rfl (.plain rfl) rfl (q_pick_t rfl rfl g17 rfl) ?_
                refine SOps.q rfl (.plain rfl) rfl (q_move rfl rfl) ?_
                refine SOps.q rfl (.guard 25 73 true rfl rfl (gT g20)) rfl (q_move rfl rfl) ?_
                refine SOps.q rfl (.guard 25 73 true rfl rfl (gT g20)) rfl (q_eql rfl rfl rfl) ?_
                refine SOps.q rfl (.plain rfl) rfl (q_pick_t rfl rfl g20 rfl) ?_
                refine SOps.q rfl (.plain rfl) rfl (q_move rfl rfl) ?_
                refine SOps.q rfl (.guard 29 77 true rfl rfl (gT g21)) rfl (q_move rfl rfl) ?_
                refine SOps.q rfl (.guard 29 77 true rfl rfl (gT g21)) rfl (q_eql rfl rfl rfl) ?_
                refine SOps.q rfl (.plain rfl) rfl (q_pick_t rfl rfl g21 rfl) ?_
                refine SOps.q rfl (.plain rfl) rfl (q_move rfl rfl) ?_
                refine SOps.q rfl (.guard 33 81 true rfl rfl (gT g22)) rfl (q_move rfl rfl) ?_
                refine SOps.q rfl (.guard 33 81 true rfl rfl (gT g22)) rfl (q_call (curtail_At_ok F c_4.1 0 12 c_23 g24) [] rfl fn16 ⟨⟨_, rfl, .inl ⟨rfl, rfl⟩⟩, ⟨_, rfl, .inl ⟨rfl, rfl⟩⟩, ⟨_, rfl, .inl ⟨rfl, rfl⟩⟩, trivial⟩ (.inl rfl)) ?_
                refine SOps.q rfl (.guard 33 81 true rfl rfl (gT g22)) rfl (q_eql rfl rfl rfl) ?_
                refine SOps.q rfl (.plain rfl) rfl (q_pick_t rfl rfl g22 rfl) ?_
                refine SOps.q rfl (.plain rfl) rfl (q_move rfl rfl) ?_
                refine SOps.skip rfl 38 86 true rfl rfl (.inl (gF g25)) rfl ?_
                refine SOps.skip rfl 38 86 true rfl rfl (.inl (gF g25)) rfl ?_
                refine SOps.skip rfl 38 86 true rfl rfl (.inl (gF g25)) rfl ?_
                refine SOps.q rfl (.plain rfl) rfl (q_pick_f rfl rfl g25 rfl) ?_
                refine SOps.q rfl (.plain rfl) rfl (q_move rfl rfl) ?_
                refine SOps.skip rfl 43 91 true rfl rfl (.inl rfl) rfl ?_
                refine SOps.skip rfl 43 91 true rfl rfl (.inl rfl) rfl ?_
                refine SOps.skip rfl 43 91 true rfl rfl (.inl rfl) rfl ?_
                refine SOps.q rfl (.plain rfl) rfl (q_pick_f rfl rfl rfl rfl) ?_
                refine SOps.q rfl (.plain rfl) rfl (q_move rfl rfl) ?_
                refine SOps.skip rfl 48 96 true rfl rfl (.inl rfl) rfl ?_
                refine SOps.skip rfl 48 96 true rfl rfl (.inl rfl) rfl ?_
                refine SOps.skip rfl 48 96 true rfl rfl (.inl rfl) rfl ?_
                refine SOps.q rfl (.plain rfl) rfl (q_pick_f rfl rfl rfl rfl) ?_
                refine SOps.q rfl (.plain rfl) rfl (q_move rfl rfl) ?_
                refine SOps.skip rfl 53 101 true rfl rfl (.inl rfl) rfl ?_
                refine SOps.skip rfl 53 101 true rfl rfl (.inl rfl) rfl ?_
                refine SOps.skip rfl 53 101 true rfl rfl (.inl rfl) rfl ?_
                refine SOps.q rfl (.plain rfl) rfl (q_pick_f rfl rfl rfl rfl) ?_
                refine SOps.q rfl (.plain rfl) rfl (q_move rfl rfl) ?_
                refine SOps.skip rfl 58 106 true rfl rfl (.inl rfl) rfl ?_
                refine SOps.skip rfl 58 106 true rfl rfl (.inl rfl) rfl ?_
                refine SOps.skip rfl 58 106 true rfl rfl (.inl rfl) rfl ?_
                refine SOps.q rfl (.plain rfl) rfl (q_pick_f rfl rfl rfl rfl) ?_
                refine SOps.q rfl (.plain rfl) rfl (q_move rfl rfl) ?_
                refine SOps.skip rfl 63 111 true rfl rfl (.inl rfl) rfl ?_
                refine SOps.skip rfl 63 111 true rfl rfl (.inl rfl) rfl ?_
                refine SOps.skip rfl 63 111 true rfl rfl (.inl rfl) rfl ?_
                refine SOps.q rfl (.plain rfl) rfl (q_pick_f rfl rfl rfl rfl) ?_
                refine SOps.q rfl (.plain rfl) rfl (q_move rfl rfl) ?_
                refine SOps.skip rfl 68 116 true rfl rfl (.inl rfl) rfl ?_
                refine SOps.skip rfl 68 116 true rfl rfl (.inl rfl) rfl ?_
                refine SOps.skip rfl 68 116 true rfl rfl (.inl rfl) rfl ?_
                refine SOps.q rfl (.plain rfl) rfl (q_pick_f rfl rfl rfl rfl) ?_
                refine SOps.q rfl (.plain rfl) rfl (q_assign rfl rfl) ?_
                refine SOps.sub (st' := ⟨[(0, .c (.bool false))], []⟩) (sub_gen [] rfl rfl ⟨zc rfl rfl, trivial⟩ trivial) ?_
                refine SOps.nil ?_
                refine SCode.ret ?_
                obtain rfl := Option.some.inj h
                exact ⟨⟨[(0, .c (.bool false))], []⟩, _, sub_gen [] rfl rfl ⟨zc rfl rfl, trivial⟩ trivial, resA1 (v := .c (.bool false)) rfl rfl, rfl⟩
              refine SCode.region (show SOps _ _ _ [0, 1, 2, 3, 4, 5, 6, 7, 8, 9, 10, 11, 12, 13, 14, 15, 16, 17, 18, 19, 20, 21, 22, 23, 24, 25, 26, 27, 28, 29, 30, 31, 32, 33, 34, 35, 36, 37, 38, 39, 40, 41, 42, 43, 44, 45, 46, 47, 48, 49, 50, 51, 52, 53, 54, 55, 56, 57, 58, 59, 60, 61, 62, 63, 64, 65, 66, 67, 68, 69, 70, 71, 72, 73] _ _ from ?_)
              refine SOps.q rfl (.plain rfl) rfl (q_load_ptr_all rfl rfl rfl rfl rfl ty25) ?_
              refine SOps.q rfl (.plain rfl) rfl (q_load_ptr_all rfl rfl rfl rfl rfl ty30) ?_
              refine SOps.q rfl (.plain rfl) rfl (q_call (curtail_Valid_ok F (SCurtail.mk (ByteArray.mk #[101]) 2 0 10 20 5000 false) (SSite.mk ByteArray.empty (List.replicate (1 : Int).toNat dSFeeder) (([] : List SPoint))) c_10 g11) [] rfl fn10 ⟨⟨rfl, rfl⟩, ⟨rfl, rfl⟩, trivial⟩ (.inl rfl)) ?_
              refine SOps.q rfl (.plain rfl) rfl (q_eql rfl rfl rfl) ?_
              refine SOps.q rfl (.plain rfl) rfl (q_move rfl rfl) ?_
              refine SOps.q rfl (.guard 4 52 true rfl rfl (gT g12)) rfl (q_load_ptr_all rfl rfl rfl rfl rfl ty25) ?_
              refine SOps.q rfl (.guard 4 52 true rfl rfl (gT g12)) rfl (q_load_ptr_all rfl rfl rfl rfl rfl ty30) ?_
              refine SOps.q rfl (.guard 4 52 true rfl rfl (gT g12)) rfl (q_call (curtail_Valid_ok F (SCurtail.mk (ByteArray.mk #[101]) 2 1 10 20 5000 false) (SSite.mk ByteArray.empty (List.replicate (1 : Int).toNat dSFeeder) (([] : List SPoint))) c_13 g14) [] rfl fn10 ⟨⟨rfl, rfl⟩, ⟨rfl, rfl⟩, trivial⟩ (.inl rfl)) ?_
              refine SOps.q rfl (.guard 4 52 true rfl rfl (gT g12)) rfl (q_eql rfl rfl rfl) ?_
              refine SOps.q rfl (.plain rfl) rfl (q_pick_t rfl rfl g12 rfl) ?_
              refine SOps.q rfl (.plain rfl) rfl (q_move rfl rfl) ?_
              refine SOps.q rfl (.guard 10 58 true rfl rfl (gT g15)) rfl (q_move rfl rfl) ?_
              refine SOps.q rfl (.guard 10 58 true rfl rfl (gT g15)) rfl (q_eql rfl rfl rfl) ?_
              refine SOps.q rfl (.plain rfl) rfl (q_pick_t rfl rfl g15 rfl) ?_
              refine SOps.q rfl (.plain rfl) rfl (q_move rfl rfl) ?_
              refine SOps.q rfl (.guard 14 62 true rfl rfl (gT g16)) rfl (q_move rfl rfl) ?_
              refine SOps.q rfl (.guard 14 62 true rfl rfl (gT g16)) rfl (q_eql rfl rfl rfl) ?_
              refine SOps.q rfl (.plain rfl) rfl (q_pick_t rfl rfl g16 rfl) ?_
              refine SOps.q rfl (.plain rfl) rfl (q_move rfl rfl) ?_
              refine SOps.q rfl (.guard 18 66 true rfl rfl (gT g17)) rfl (q_move rfl rfl) ?_
              refine SOps.q rfl (.guard 18 66 true rfl rfl (gT g17)) rfl (q_load_ptr_all rfl rfl rfl rfl rfl ty25) ?_
              refine SOps.q rfl (.guard 18 66 true rfl rfl (gT g17)) rfl (q_load_ptr_all rfl rfl rfl rfl rfl ty25) ?_
              refine SOps.q rfl (.guard 18 66 true rfl rfl (gT g17)) rfl (q_bsliceL (c := cSCurtail) (d0 := dSCurtail) [SCurtail.mk (ByteArray.mk #[101]) 2 0 10 20 5000 false, SCurtail.mk (ByteArray.mk #[102]) 1 0 15 30 3000 false] rfl rfl sl34 z25 rfl rfl rfl rfl rfl rfl rfl) ?_
              refine SOps.q rfl (.guard 18 66 true rfl rfl (gT g17)) rfl (q_call (slices_Equal_api_Curtail_api_Curtail_ok F c_4.1 ([SCurtail.mk (ByteArray.mk #[101]) 2 0 10 20 5000 false, SCurtail.mk (ByteArray.mk #[102]) 1 0 15 30 3000 false]) c_18 g19) [] rfl fn14 ⟨⟨_, rfl, .inl ⟨rfl, rfl⟩⟩, ⟨_, rfl, .inl ⟨rfl, rfl⟩⟩, trivial⟩ (.inl rfl)) ?_
              refine SOps.q rfl (.plain rfl) rfl (q_pick_t rfl rfl g17 rfl) ?_
              refine SOps.q rfl (.plain rfl) rfl (q_move rfl rfl) ?_
              refine SOps.q rfl (.guard 25 73 true rfl rfl (gT g20)) rfl (q_move rfl rfl) ?_
              refine SOps.q rfl (.guard 25 73 true rfl rfl (gT g20)) rfl (q_eql rfl rfl rfl) ?_
              refine SOps.q rfl (.plain rfl) rfl (q_pick_t rfl rfl g20 rfl) ?_
              refine SOps.q rfl (.plain rfl) rfl (q_move rfl rfl) ?_
              refine SOps.q rfl (.guard 29 77 true rfl rfl (gT g21)) rfl (q_move rfl rfl) ?_
              refine SOps.q rfl (.guard 29 77 true rfl rfl (gT g21)) rfl (q_eql rfl rfl rfl) ?_
              refine SOps.q rfl (.plain rfl) rfl (q_pick_t rfl rfl g21 rfl) ?_
              refine SOps.q rfl (.plain rfl) rfl (q_move rfl rfl) ?_
              refine SOps.skip rfl 33 81 true rfl rfl (.inl (gF g22)) rfl ?_
              refine SOps.skip rfl 33 81 true rfl rfl (.inl (gF g22)) rfl ?_
              refine SOps.skip rfl 33 81 true rfl rfl (.inl (gF g22)) rfl ?_
              refine SOps.q rfl (.plain rfl) rfl (q_pick_f rfl rfl g22 rfl) ?_
              refine SOps.q rfl (.plain rfl) rfl (q_move rfl rfl) ?_
              refine SOps.skip rfl 38 86 true rfl rfl (.inl rfl) rfl ?_
              refine SOps.skip rfl 38 86 true rfl rfl (.inl rfl) rfl ?_
              refine SOps.skip rfl 38 86 true rfl rfl (.inl rfl) rfl ?_
              refine SOps.q rfl (.plain rfl) rfl (q_pick_f rfl rfl rfl rfl) ?_
              refine SOps.q rfl (.plain rfl) rfl (q_move rfl rfl) ?_
              refine SOps.skip rfl 43 91 true rfl rfl (.inl rfl) rfl ?_
              refine SOps.skip rfl 43 91 true rfl rfl (.inl rfl) rfl ?_
              refine SOps.skip rfl 43 91 true rfl rfl (.inl rfl) rfl ?_
              refine SOps.q rfl (.plain rfl) rfl (q_pick_f rfl rfl rfl rfl) ?_
              refine SOps.q rfl (.plain rfl) rfl (q_move rfl rfl) ?_
              refine SOps.skip rfl 48 96 true rfl rfl (.inl rfl) rfl ?_
              refine SOps.skip rfl 48 96 true rfl rfl (.inl rfl) rfl ?_
              refine SOps.skip rfl 48 96 true rfl rfl (.inl rfl) rfl ?_
              refine SOps.q rfl (.plain rfl) rfl (q_pick_f rfl rfl rfl rfl) ?_
              refine SOps.q rfl (.plain rfl) rfl (q_move rfl rfl) ?_
              refine SOps.skip rfl 53 101 true rfl rfl (.inl rfl) rfl ?_
              refine SOps.skip rfl 53 101 true rfl rfl (.inl rfl) rfl ?_
              refine SOps.skip rfl 53 101 true rfl rfl (.inl rfl) rfl ?_
              refine SOps.q rfl (.plain rfl) rfl (q_pick_f rfl rfl rfl rfl) ?_
              refine SOps.q rfl (.plain rfl) rfl (q_move rfl rfl) ?_
              refine SOps.skip rfl 58 106 true rfl rfl (.inl rfl) rfl ?_
              refine SOps.skip rfl 58 106 true rfl rfl (.inl rfl) rfl ?_
              refine SOps.skip rfl 58 106 true rfl rfl (.inl rfl) rfl ?_
              refine SOps.q rfl (.plain rfl) rfl (q_pick_f rfl rfl rfl rfl) ?_
              refine SOps.q rfl (.plain rfl) rfl (q_move rfl rfl) ?_
              refine SOps.skip rfl 63 111 true rfl rfl (.inl rfl) rfl ?_
              refine SOps.skip rfl 63 111 true rfl rfl (.inl rfl) rfl ?_
              refine SOps.skip rfl 63 111 true rfl rfl (.inl rfl) rfl ?_
              refine SOps.q rfl (.plain rfl) rfl (q_pick_f rfl rfl rfl rfl) ?_
              refine SOps.q rfl (.plain rfl) rfl (q_move rfl rfl) ?_
              refine SOps.skip rfl 68 116 true rfl rfl (.inl rfl) rfl ?_
              refine SOps.skip rfl 68 116 true rfl rfl (.inl rfl) rfl ?_
              refine SOps.skip rfl 68 116 true rfl rfl (.inl rfl) rfl ?_
              refine SOps.q rfl (.plain rfl) rfl (q_pick_f rfl rfl rfl rfl) ?_
              refine SOps.q rfl (.plain rfl) rfl (q_assign rfl rfl) ?_
              refine SOps.sub (st' := ⟨[(0, .c (.bool false))], []⟩) (sub_gen [] rfl rfl ⟨zc rfl rfl, trivial⟩ trivial) ?_
              refine SOps.nil ?_
              refine SCode.ret ?_
              obtain rfl := Option.some.inj h
              exact ⟨⟨[(0, .c (.bool false))], []⟩, _, sub_gen [] rfl rfl ⟨zc rfl rfl, trivial⟩ trivial, resA1 (v := .c (.bool false)) rfl rfl, rfl⟩
            refine SCode.region (show SOps _ _ _ [0, 1, 2, 3, 4, 5, 6, 7, 8, 9, 10, 11, 12, 13, 14, 15, 16, 17, 18, 19, 20, 21, 22, 23, 24, 25, 26, 27, 28, 29, 30, 31, 32, 33, 34, 35, 36, 37, 38, 39, 40, 41, 42, 43, 44, 45, 46, 47, 48, 49, 50, 51, 52, 53, 54, 55, 56, 57, 58, 59, 60, 61, 62, 63, 64, 65, 66, 67, 68, 69, 70, 71, 72, 73] _ _ from ?_)
            refine SOps.q rfl (.plain rfl) rfl (q_load_ptr_all rfl rfl rfl rfl rfl ty25) ?_
            refine SOps.q rfl (.plain rfl) rfl (q_load_ptr_all rfl rfl rfl rfl rfl ty30) ?_
            refine SOps.q rfl (.plain rfl) rfl (q_call (curtail_Valid_ok F (SCurtail.mk (ByteArray.mk #[101]) 2 0 10 20 5000 false) (SSite.mk ByteArray.empty (List.replicate (1 : Int).toNat dSFeeder) (([] : List SPoint))) c_10 g11) [] rfl fn10 ⟨⟨rfl, rfl⟩, ⟨rfl, rfl⟩, trivial⟩ (.inl rfl)) ?_
            refine SOps.q rfl (.plain rfl) rfl (q_eql rfl rfl rfl) ?_
            refine SOps.q rfl (.plain rfl) rfl (q_move rfl rfl) ?_
            refine SOps.q rfl (.guard 4 52 true rfl rfl (gT g12)) rfl (q_load_ptr_all rfl rfl rfl rfl rfl ty25) ?_
            refine SOps.q rfl (.guard 4 52 true rfl rfl (gT g12)) rfl (q_load_ptr_all rfl rfl rfl rfl rfl ty30) ?_
            refine SOps.q rfl (.guard 4 52 true rfl rfl (gT g12)) rfl (q_call (curtail_Valid_ok F (SCurtail.mk (ByteArray.mk #[101]) 2 1 10 20 5000 false) (SSite.mk ByteArray.empty (List.replicate (1 : Int).toNat dSFeeder) (([] : List SPoint))) c_13 g14) [] rfl fn10 ⟨⟨rfl, rfl⟩, ⟨rfl, rfl⟩, trivial⟩ (.inl rfl)) ?_
            refine SOps.q rfl (.guard 4 52 true rfl rfl (gT g12)) rfl (q_eql rfl rfl rfl) ?_
            refine SOps.q rfl (.plain rfl) rfl (q_pick_t rfl rfl g12 rfl) ?_
            refine SOps.q rfl (.plain rfl) rfl (q_move rfl rfl) ?_
            refine SOps.q rfl (.guard 10 58 true rfl rfl (gT g15)) rfl (q_move rfl rfl) ?_
            refine SOps.q rfl (.guard 10 58 true rfl rfl (gT g15)) rfl (q_eql rfl rfl rfl) ?_
            refine SOps.q rfl (.plain rfl) rfl (q_pick_t rfl rfl g15 rfl) ?_
            refine SOps.q rfl (.plain rfl) rfl (q_move rfl rfl) ?_
            refine SOps.q rfl (.guard 14 62 true rfl rfl (gT g16)) rfl (q_move rfl rfl) ?_
            refine SOps.q rfl (.guard 14 62 true rfl rfl (gT g16)) rfl (q_eql rfl rfl rfl) ?_
            refine SOps.q rfl (.plain rfl) rfl (q_pick_t rfl rfl g16 rfl) ?_
            refine SOps.q rfl (.plain rfl) rfl (q_move rfl rfl) ?_
            refine SOps.q rfl (.guard 18 66 true rfl rfl (gT g17)) rfl (q_move rfl rfl) ?_
            refine SOps.q rfl (.guard 18 66 true rfl rfl (gT g17)) rfl (q_load_ptr_all rfl rfl rfl rfl rfl ty25) ?_
            refine SOps.q rfl (.guard 18 66 true rfl rfl (gT g17)) rfl (q_load_ptr_all rfl rfl rfl rfl rfl ty25) ?_
            refine SOps.q rfl (.guard 18 66 true rfl rfl (gT g17)) rfl (q_bsliceL (c := cSCurtail) (d0 := dSCurtail) [SCurtail.mk (ByteArray.mk #[101]) 2 0 10 20 5000 false, SCurtail.mk (ByteArray.mk #[102]) 1 0 15 30 3000 false] rfl rfl sl34 z25 rfl rfl rfl rfl rfl rfl rfl) ?_
            refine SOps.q rfl (.guard 18 66 true rfl rfl (gT g17)) rfl (q_call (slices_Equal_api_Curtail_api_Curtail_ok F c_4.1 ([SCurtail.mk (ByteArray.mk #[101]) 2 0 10 20 5000 false, SCurtail.mk (ByteArray.mk #[102]) 1 0 15 30 3000 false]) c_18 g19) [] rfl fn14 ⟨⟨_, rfl, .inl ⟨rfl, rfl⟩⟩, ⟨_, rfl, .inl ⟨rfl, rfl⟩⟩, trivial⟩ (.inl rfl)) ?_
            refine SOps.q rfl (.plain rfl) rfl (q_pick_t rfl rfl g17 rfl) ?_
            refine SOps.q rfl (.plain rfl) rfl (q_move rfl rfl) ?_
            refine SOps.q rfl (.guard 25 73 true rfl rfl (gT g20)) rfl (q_move rfl rfl) ?_
            refine SOps.q rfl (.guard 25 73 true rfl rfl (gT g20)) rfl (q_eql rfl rfl rfl) ?_
            refine SOps.q rfl (.plain rfl) rfl (q_pick_t rfl rfl g20 rfl) ?_
            refine SOps.q rfl (.plain rfl) rfl (q_move rfl rfl) ?_
            refine SOps.skip rfl 29 77 true rfl rfl (.inl (gF g21)) rfl ?_
            refine SOps.skip rfl 29 77 true rfl rfl (.inl (gF g21)) rfl ?_
            refine SOps.q rfl (.plain rfl) rfl (q_pick_f rfl rfl g21 rfl) ?_
            refine SOps.q rfl (.plain rfl) rfl (q_move rfl rfl) ?_
            refine SOps.skip rfl 33 81 true rfl rfl (.inl rfl) rfl ?_
            refine SOps.skip rfl 33 81 true rfl rfl (.inl rfl) rfl ?_
            refine SOps.skip rfl 33 81 true rfl rfl (.inl rfl) rfl ?_
            refine SOps.q rfl (.plain rfl) rfl (q_pick_f rfl rfl rfl rfl) ?_
            refine SOps.q rfl (.plain rfl) rfl (q_move rfl rfl) ?_
            refine SOps.skip rfl 38 86 true rfl rfl (.inl rfl) rfl ?_
            refine SOps.skip rfl 38 86 true rfl rfl (.inl rfl) rfl ?_
            refine SOps.skip rfl 38 86 true rfl rfl (.inl rfl) rfl ?_
            refine SOps.q rfl (.plain rfl) rfl (q_pick_f rfl rfl rfl rfl) ?_
            refine SOps.q rfl (.plain rfl) rfl (q_move rfl rfl) ?_
            refine SOps.skip rfl 43 91 true rfl rfl (.inl rfl) rfl ?_
            refine SOps.skip rfl 43 91 true rfl rfl (.inl rfl) rfl ?_
            refine SOps.skip rfl 43 91 true rfl rfl (.inl rfl) rfl ?_
            refine SOps.q rfl (.plain rfl) rfl (q_pick_f rfl rfl rfl rfl) ?_
            refine SOps.q rfl (.plain rfl) rfl (q_move rfl rfl) ?_
            refine SOps.skip rfl 48 96 true rfl rfl (.inl rfl) rfl ?_
            refine SOps.skip rfl 48 96 true rfl rfl (.inl rfl) rfl ?_
            refine SOps.skip rfl 48 96 true rfl rfl (.inl rfl) rfl ?_
            refine SOps.q rfl (.plain rfl) rfl (q_pick_f rfl rfl rfl rfl) ?_
            refine SOps.q rfl (.plain rfl) rfl (q_move rfl rfl) ?_
            refine SOps.skip rfl 53 101 true rfl rfl (.inl rfl) rfl ?_
            refine SOps.skip rfl 53 101 true rfl rfl (.inl rfl) rfl ?_
            refine SOps.skip rfl 53 101 true rfl rfl (.inl rfl) rfl ?_
            refine SOps.q rfl (.plain rfl) rfl (q_pick_f rfl rfl rfl rfl) ?_
            refine SOps.q rfl (.plain rfl) rfl (q_move rfl rfl) ?_
            refine SOps.skip rfl 58 106 true rfl rfl (.inl rfl) rfl ?_
            refine SOps.skip rfl 58 106 true rfl rfl (.inl rfl) rfl ?_
            refine SOps.skip rfl 58 106 true rfl rfl (.inl rfl) rfl ?_
            refine SOps.q rfl (.plain rfl) rfl (q_pick_f rfl rfl rfl rfl) ?_
            refine SOps.q rfl (.plain rfl) rfl (q_move rfl rfl) ?_
            refine SOps.skip rfl 63 111 true rfl rfl (.inl rfl) rfl ?_
            refine SOps.skip rfl 63 111 true rfl rfl (.inl rfl) rfl ?_
            refine SOps.skip rfl 63 111 true rfl rfl (.inl rfl) rfl ?_
            refine SOps.q rfl (.plain rfl) rfl (q_pick_f rfl rfl rfl rfl) ?_
            refine SOps.q rfl (.plain rfl) rfl (q_move rfl rfl) ?_
            refine SOps.skip rfl 68 116 true rfl rfl (.inl rfl) rfl ?_
            refine SOps.skip rfl 68 116 true rfl rfl (.inl rfl) rfl ?_
            refine SOps.skip rfl 68 116 true rfl rfl (.inl rfl) rfl ?_
            refine SOps.q rfl (.plain rfl) rfl (q_pick_f rfl rfl rfl rfl) ?_
            refine SOps.q rfl (.plain rfl) rfl (q_assign rfl rfl) ?_
            refine SOps.sub (st' := ⟨[(0, .c (.bool false))], []⟩) (sub_gen [] rfl rfl ⟨zc rfl rfl, trivial⟩ trivial) ?_
            refine SOps.nil ?_
            refine SCode.ret ?_
            obtain rfl := Option.some.inj h
            exact ⟨⟨[(0, .c (.bool false))], []⟩, _, sub_gen [] rfl rfl ⟨zc rfl rfl, trivial⟩ trivial, resA1 (v := .c (.bool false)) rfl rfl, rfl⟩
          refine SCode.region (show SOps _ _ _ [0, 1, 2, 3, 4, 5, 6, 7, 8, 9, 10, 11, 12, 13, 14, 15, 16, 17, 18, 19, 20, 21, 22, 23, 24, 25, 26, 27, 28, 29, 30, 31, 32, 33, 34, 35, 36, 37, 38, 39, 40, 41, 42, 43, 44, 45, 46, 47, 48, 49, 50, 51, 52, 53, 54, 55, 56, 57, 58, 59, 60, 61, 62, 63, 64, 65, 66, 67, 68, 69, 70, 71, 72, 73] _ _ from ?_)
          refine SOps.q rfl (.plain rfl) rfl (q_load_ptr_all rfl rfl rfl rfl rfl ty25) ?_
          refine SOps.q rfl (.plain rfl) rfl (q_load_ptr_all rfl rfl rfl rfl rfl ty30) ?_
          refine SOps.q rfl (.plain rfl) rfl (q_call (curtail_Valid_ok F (SCurtail.mk (ByteArray.mk #[101]) 2 0 10 20 5000 false) (SSite.mk ByteArray.empty (List.replicate (1 : Int).toNat dSFeeder) (([] : List SPoint))) c_10 g11) [] rfl fn10 ⟨⟨rfl, rfl⟩, ⟨rfl, rfl⟩, trivial⟩ (.inl rfl)) ?_
          refine SOps.q rfl (.plain rfl) rfl (q_eql rfl rfl rfl) ?_
          refine SOps.q rfl (.plain rfl) rfl (q_move rfl rfl) ?_
          refine SOps.q rfl (.guard 4 52 true rfl rfl (gT g12)) rfl (q_load_ptr_all rfl rfl rfl rfl rfl ty25) ?_
          refine SOps.q rfl (.guard 4 52 true rfl rfl (gT g12)) rfl (q_load_ptr_all rfl rfl rfl rfl rfl ty30) ?_
          refine SOps.q rfl (.guard 4 52 true rfl rfl (gT g12)) rfl (q_call (curtail_Valid_ok F (SCurtail.mk (ByteArray.mk #[101]) 2 1 10 20 5000 false) (SSite.mk ByteArray.empty (List.replicate (1 : Int).toNat dSFeeder) (([] : List SPoint))) c_13 g14) [] rfl fn10 ⟨⟨rfl, rfl⟩, ⟨rfl, rfl⟩, trivial⟩ (.inl rfl)) ?_
          refine SOps.q rfl (.guard 4 52 true rfl rfl (gT g12)) rfl (q_eql rfl rfl rfl) ?_
          refine SOps.q rfl (.plain rfl) rfl (q_pick_t rfl rfl g12 rfl) ?_
          refine SOps.q rfl (.plain rfl) rfl (q_move rfl rfl) ?_
          refine SOps.q rfl (.guard 10 58 true rfl rfl (gT g15)) rfl (q_move rfl rfl) ?_
          refine SOps.q rfl (.guard 10 58 true rfl rfl (gT g15)) rfl (q_eql rfl rfl rfl) ?_
          refine SOps.q rfl (.plain rfl) rfl (q_pick_t rfl rfl g15 rfl) ?_
          refine SOps.q rfl (.plain rfl) rfl (q_move rfl rfl) ?_
          refine SOps.q rfl (.guard 14 62 true rfl rfl (gT g16)) rfl (q_move rfl rfl) ?_
          refine SOps.q rfl (.guard 14 62 true rfl rfl (gT g16)) rfl (q_eql rfl rfl rfl) ?_
          refine SOps.q rfl (.plain rfl) rfl (q_pick_t rfl rfl g16 rfl) ?_
          refine SOps.q rfl (.plain rfl) rfl (q_move rfl rfl) ?_
          refine SOps.q rfl (.guard 18 66 true rfl rfl (gT g17)) rfl (q_move rfl rfl) ?_
          refine SOps.q rfl (.guard 18 66 true rfl rfl (gT g17)) rfl (q_load_ptr_all rfl rfl rfl rfl rfl ty25) ?_
          refine SOps.q rfl (.guard 18 66 true rfl rfl (gT g17)) rfl (q_load_ptr_all rfl rfl rfl rfl rfl ty25) ?_
          refine SOps.q rfl (.guard 18 66 true rfl rfl (gT g17)) rfl (q_bsliceL (c := cSCurtail) (d0 := dSCurtail) [SCurtail.mk (ByteArray.mk #[101]) 2 0 10 20 5000 false, SCurtail.mk (ByteArray.mk #[102]) 1 0 15 30 3000 false] rfl rfl sl34 z25 rfl rfl rfl rfl rfl rfl rfl) ?_
          refine SOps.q rfl (.guard 18 66 true rfl rfl (gT g17)) rfl (q_call (slices_Equal_api_Curtail_api_Curtail_ok F c_4.1 ([SCurtail.mk (ByteArray.mk #[101]) 2 0 10 20 5000 false, SCurtail.mk (ByteArray.mk #[102]) 1 0 15 30 3000 false]) c_18 g19) [] rfl fn14 ⟨⟨_, rfl, .inl ⟨rfl, rfl⟩⟩, ⟨_, rfl, .inl ⟨rfl, rfl⟩⟩, trivial⟩ (.inl rfl)) ?_
          refine SOps.q rfl (.plain rfl) rfl (q_pick_t rfl rfl g17 rfl) ?_
          refine SOps.q rfl (.plain rfl) rfl (q_move rfl rfl) ?_
          refine SOps.skip rfl 25 73 true rfl rfl (.inl (gF g20)) rfl ?_
          refine SOps.skip rfl 25 73 true rfl rfl (.inl (gF g20)) rfl ?_
          refine SOps.q rfl (.plain rfl) rfl (q_pick_f rfl rfl g20 rfl) ?_
          refine SOps.q rfl (.plain rfl) rfl (q_move rfl rfl) ?_
          refine SOps.skip rfl 29 77 true rfl rfl (.inl rfl) rfl ?_
          refine SOps.skip rfl 29 77 true rfl rfl (.inl rfl) rfl ?_
          refine SOps.q rfl (.plain rfl) rfl (q_pick_f rfl rfl rfl rfl) ?_
          refine SOps.q rfl (.plain rfl) rfl (q_move rfl rfl) ?_
          refine SOps.skip rfl 33 81 true rfl rfl (.inl rfl) rfl ?_
          refine SOps.skip rfl 33 81 true rfl rfl (.inl rfl) rfl ?_
          refine SOps.skip rfl 33 81 true rfl rfl (.inl rfl) rfl ?_
          refine SOps.q rfl (.plain rfl) rfl (q_pick_f rfl rfl rfl rfl) ?_
          refine SOps.q rfl (.plain rfl) rfl (q_move rfl rfl) ?_
          refine SOps.skip rfl 38 86 true rfl rfl (.inl rfl) rfl ?_
          refine SOps.skip rfl 38 86 true rfl rfl (.inl rfl) rfl ?_
          refine SOps.skip rfl 38 86 true rfl rfl (.inl rfl) rfl ?_
          refine SOps.q rfl (.plain rfl) rfl (q_pick_f rfl rfl rfl rfl) ?_
          refine SOps.q rfl (.plain rfl) rfl (q_move rfl rfl) ?_
          refine SOps.skip rfl 43 91 true rfl rfl (.inl rfl) rfl ?_
          refine SOps.skip rfl 43 91 true rfl rfl (.inl rfl) rfl ?_
          refine SOps.skip rfl 43 91 true rfl rfl (.inl rfl) rfl ?_
          refine SOps.q rfl (.plain rfl) rfl (q_pick_f rfl rfl rfl rfl) ?_
          refine SOps.q rfl (.plain rfl) rfl (q_move rfl rfl) ?_
          refine SOps.skip rfl 48 96 true rfl rfl (.inl rfl) rfl ?_
          refine SOps.skip rfl 48 96 true rfl rfl (.inl rfl) rfl ?_
          refine SOps.skip rfl 48 96 true rfl rfl (.inl rfl) rfl ?_
          refine SOps.q rfl (.plain rfl) rfl (q_pick_f rfl rfl rfl rfl) ?_
          refine SOps.q rfl (.plain rfl) rfl (q_move rfl rfl) ?_
          refine SOps.skip rfl 53 101 true rfl rfl (.inl rfl) rfl ?_
          refine SOps.skip rfl 53 101 true rfl rfl (.inl rfl) rfl ?_
          refine SOps.skip rfl 53 101 true rfl rfl (.inl rfl) rfl ?_
          refine SOps.q rfl (.plain rfl) rfl (q_pick_f rfl rfl rfl rfl) ?_
          refine SOps.q rfl (.plain rfl) rfl (q_move rfl rfl) ?_
          refine SOps.skip rfl 58 106 true rfl rfl (.inl rfl) rfl ?_
          refine SOps.skip rfl 58 106 true rfl rfl (.inl rfl) rfl ?_
          refine SOps.skip rfl 58 106 true rfl rfl (.inl rfl) rfl ?_
          refine SOps.q rfl (.plain rfl) rfl (q_pick_f rfl rfl rfl rfl) ?_
          refine SOps.q rfl (.plain rfl) rfl (q_move rfl rfl) ?_
          refine SOps.skip rfl 63 111 true rfl rfl (.inl rfl) rfl ?_
          refine SOps.skip rfl 63 111 true rfl rfl (.inl rfl) rfl ?_
          refine SOps.skip rfl 63 111 true rfl rfl (.inl rfl) rfl ?_
          refine SOps.q rfl (.plain rfl) rfl (q_pick_f rfl rfl rfl rfl) ?_
          refine SOps.q rfl (.plain rfl) rfl (q_move rfl rfl) ?_
          refine SOps.skip rfl 68 116 true rfl rfl (.inl rfl) rfl ?_
          refine SOps.skip rfl 68 116 true rfl rfl (.inl rfl) rfl ?_
          refine SOps.skip rfl 68 116 true rfl rfl (.inl rfl) rfl ?_
          refine SOps.q rfl (.plain rfl) rfl (q_pick_f rfl rfl rfl rfl) ?_
          refine SOps.q rfl (.plain rfl) rfl (q_assign rfl rfl) ?_
          refine SOps.sub (st' := ⟨[(0, .c (.bool false))], []⟩) (sub_gen [] rfl rfl ⟨zc rfl rfl, trivial⟩ trivial) ?_
          refine SOps.nil ?_
          refine SCode.ret ?_
          obtain rfl := Option.some.inj h
          exact ⟨⟨[(0, .c (.bool false))], []⟩, _, sub_gen [] rfl rfl ⟨zc rfl rfl, trivial⟩ trivial, resA1 (v := .c (.bool false)) rfl rfl, rfl⟩
        refine SCode.region (show SOps _ _ _ [0, 1, 2, 3, 4, 5, 6, 7, 8, 9, 10, 11, 12, 13, 14, 15, 16, 17, 18, 19, 20, 21, 22, 23, 24, 25, 26, 27, 28, 29, 30, 31, 32, 33, 34, 35, 36, 37, 38, 39, 40, 41, 42, 43, 44, 45, 46, 47, 48, 49, 50, 51, 52, 53, 54, 55, 56, 57, 58, 59, 60, 61, 62, 63, 64, 65, 66, 67, 68, 69, 70, 71, 72, 73] _ _ from ?_)
        refine SOps.q rfl (.plain rfl) rfl (q_load_ptr_all rfl rfl rfl rfl rfl ty25) ?_
        refine SOps.q rfl (.plain rfl) rfl (q_load_ptr_all rfl rfl rfl rfl rfl ty30) ?_
        refine SOps.q rfl (.plain rfl) rfl (q_call (curtail_Valid_ok F (SCurtail.mk (ByteArray.mk #[101]) 2 0 10 20 5000 false) (SSite.mk ByteArray.empty (List.replicate (1 : Int).toNat dSFeeder) (([] : List SPoint))) c_10 g11) [] rfl fn10 ⟨⟨rfl, rfl⟩, ⟨rfl, rfl⟩, trivial⟩ (.inl rfl)) ?_
        refine SOps.q rfl (.plain rfl) rfl (q_eql rfl rfl rfl) ?_
        refine SOps.q rfl (.plain rfl) rfl (q_move rfl rfl) ?_
        refine SOps.q rfl (.guard 4 52 true rfl rfl (gT g12)) rfl (q_load_ptr_all rfl rfl rfl rfl rfl ty25) ?_
        refine SOps.q rfl (.guard 4 52 true rfl rfl (gT g12)) rfl (q_load_ptr_all rfl rfl rfl rfl rfl ty30) ?_
        refine SOps.q rfl (.guard 4 52 true rfl rfl (gT g12)) rfl (q_call (curtail_Valid_ok F (SCurtail.mk (ByteArray.mk #[101]) 2 1 10 20 5000 false) (SSite.mk ByteArray.empty (List.replicate (1 : Int).toNat dSFeeder) (([] : List SPoint))) c_13 g14) [] rfl fn10 ⟨⟨rfl, rfl⟩, ⟨rfl, rfl⟩, trivial⟩ (.inl rfl)) ?_
        refine SOps.q rfl (.guard 4 52 true rfl rfl (gT g12)) rfl (q_eql rfl rfl rfl) ?_
        refine SOps.q rfl (.plain rfl) rfl (q_pick_t rfl rfl g12 rfl) ?_
        refine SOps.q rfl (.plain rfl) rfl (q_move rfl rfl) ?_
        refine SOps.q rfl (.guard 10 58 true rfl rfl (gT g15)) rfl (q_move rfl rfl) ?_
        refine SOps.q rfl (.guard 10 58 true rfl rfl (gT g15)) rfl (q_eql rfl rfl rfl) ?_
        refine SOps.q rfl (.plain rfl) rfl (q_pick_t rfl rfl g15 rfl) ?_
        refine SOps.q rfl (.plain rfl) rfl (q_move rfl rfl) ?_
        refine SOps.q rfl (.guard 14 62 true rfl rfl (gT g16)) rfl (q_move rfl rfl) ?_
        refine SOps.q rfl (.guard 14 62 true rfl rfl (gT g16)) rfl (q_eql rfl rfl rfl) ?_
        refine SOps.q rfl (.plain rfl) rfl (q_pick_t rfl rfl g16 rfl) ?_
        refine SOps.q rfl (.plain rfl) rfl (q_move rfl rfl) ?_
        refine SOps.skip rfl 18 66 true rfl rfl (.inl (gF g17)) rfl ?_
        refine SOps.skip rfl 18 66 true rfl rfl (.inl (gF g17)) rfl ?_
        refine SOps.skip rfl 18 66 true rfl rfl (.inl (gF g17)) rfl ?_
        refine SOps.skip rfl 18 66 true rfl rfl (.inl (gF g17)) rfl ?_
        refine SOps.skip rfl 18 66 true rfl rfl (.inl (gF g17)) rfl ?_
        refine SOps.q rfl (.plain rfl) rfl (q_pick_f rfl rfl g17 rfl) ?_
        refine SOps.q rfl (.plain rfl) rfl (q_move rfl rfl) ?_
        refine SOps.skip rfl 25 73 true rfl rfl (.inl rfl) rfl ?_
        refine SOps.skip rfl 25 73 true rfl rfl (.inl rfl) rfl ?_
        refine SOps.q rfl (.plain rfl) rfl (q_pick_f rfl rfl rfl rfl) ?_
        refine SOps.q rfl (.plain rfl) rfl (q_move rfl rfl) ?_
        refine SOps.skip rfl 29 77 true rfl rfl (.inl rfl) rfl ?_
        refine SOps.skip rfl 29 77 true rfl rfl (.inl rfl) rfl ?_
        refine SOps.q rfl (.plain rfl) rfl (q_pick_f rfl rfl rfl rfl) ?_
        refine SOps.q rfl (.plain rfl) rfl (q_move rfl rfl) ?_
        refine SOps.skip rfl 33 81 true rfl rfl (.inl rfl) rfl ?_
        refine SOps.skip rfl 33 81 true rfl rfl (.inl rfl) rfl ?_
        refine SOps.skip rfl 33 81 true rfl rfl (.inl rfl) rfl ?_
        refine SOps.q rfl (.plain rfl) rfl (q_pick_f rfl rfl rfl rfl) ?_
        refine SOps.q rfl (.plain rfl) rfl (q_move rfl rfl) ?_
        refine SOps.skip rfl 38 86 true rfl rfl (.inl rfl) rfl ?_
        refine SOps.skip rfl 38 86 true rfl rfl (.inl rfl) rfl ?_
        refine SOps.skip rfl 38 86 true rfl rfl (.inl rfl) rfl ?_
        refine SOps.q rfl (.plain rfl) rfl (q_pick_f rfl rfl rfl rfl) ?_
        refine SOps.q rfl (.plain rfl) rfl (q_move rfl rfl) ?_
        refine SOps.skip rfl 43 91 true rfl rfl (.inl rfl) rfl ?_
        refine SOps.skip rfl 43 91 true rfl rfl (.inl rfl) rfl ?_
        refine SOps.skip rfl 43 91 true rfl rfl (.inl rfl) rfl ?_
        refine SOps.q rfl (.plain rfl) rfl (q_pick_f rfl rfl rfl rfl) ?_
        refine SOps.q rfl (.plain rfl) rfl (q_move rfl rfl) ?_
        refine SOps.skip rfl 48 96 true rfl rfl (.inl rfl) rfl ?_
        refine SOps.skip rfl 48 96 true rfl rfl (.inl rfl) rfl ?_
        refine SOps.skip rfl 48 96 true rfl rfl (.inl rfl) rfl ?_
        refine SOps.q rfl (.plain rfl) rfl (q_pick_f rfl rfl rfl rfl) ?_
        refine SOps.q rfl (.plain rfl) rfl (q_move rfl rfl) ?_
        refine SOps.skip rfl 53 101 true rfl rfl (.inl rfl) rfl ?_
        refine SOps.skip rfl 53 101 true rfl rfl (.inl rfl) rfl ?_
        refine SOps.skip rfl 53 101 true rfl rfl (.inl rfl) rfl ?_
        refine SOps.q rfl (.plain rfl) rfl (q_pick_f rfl rfl rfl rfl) ?_
        refine SOps.q rfl (.plain rfl) rfl (q_move rfl rfl) ?_
        refine SOps.skip rfl 58 106 true rfl rfl (.inl rfl) rfl ?_
        refine SOps.skip rfl 58 106 true rfl rfl (.inl rfl) rfl ?_
        refine SOps.skip rfl 58 106 true rfl rfl (.inl rfl) rfl ?_
        refine SOps.q rfl (.plain rfl) rfl (q_pick_f rfl rfl rfl rfl) ?_
        refine SOps.q rfl (.plain rfl) rfl (q_move rfl rfl) ?_
        refine SOps.skip rfl 63 111 true rfl rfl (.inl rfl) rfl ?_
        refine SOps.skip rfl 63 111 true rfl rfl (.inl rfl) rfl ?_
        refine SOps.skip rfl 63 111 true rfl rfl (.inl rfl) rfl ?_
        refine SOps.q rfl (.plain rfl) rfl (q_pick_f rfl rfl rfl rfl) ?_
        refine SOps.q rfl (.plain rfl) rfl (q_move rfl rfl) ?_
        refine SOps.skip rfl 68 116 true rfl rfl (.inl rfl) rfl ?_
        refine SOps.skip rfl 68 116 true rfl rfl (.inl rfl) rfl ?_
        refine SOps.skip rfl 68 116 true rfl rfl (.inl rfl) rfl ?_
        refine SOps.q rfl (.plain rfl) rfl (q_pick_f rfl rfl rfl rfl) ?_
        refine SOps.q rfl (.plain rfl) rfl (q_assign rfl rfl) ?_
        refine SOps.sub (st' := ⟨[(0, .c (.bool false))], []⟩) (sub_gen [] rfl rfl ⟨zc rfl rfl, trivial⟩ trivial) ?_
        refine SOps.nil ?_
        refine SCode.ret ?_
        obtain rfl := Option.some.inj h
        exact ⟨⟨[(0, .c (.bool false))], []⟩, _, sub_gen [] rfl rfl ⟨zc rfl rfl, trivial⟩ trivial, resA1 (v := .c (.bool false)) rfl rfl, rfl⟩
      refine SCode.region (show SOps _ _ _ [0, 1, 2, 3, 4, 5, 6, 7, 8, 9, 10, 11, 12, 13, 14, 15, 16, 17, 18, 19, 20, 21, 22, 23, 24, 25, 26, 27, 28, 29, 30, 31, 32, 33, 34, 35, 36, 37, 38, 39, 40, 41, 42, 43, 44, 45, 46, 47, 48, 49, 50, 51, 52, 53, 54, 55, 56, 57, 58, 59, 60, 61, 62, 63, 64, 65, 66, 67, 68, 69, 70, 71, 72, 73] _ _ from ?_)
      refine SOps.q rfl (.plain rfl) rfl (q_load_ptr_all rfl rfl rfl rfl rfl ty25) ?_
      refine SOps.q rfl (.plain rfl) rfl (q_load_ptr_all rfl rfl rfl rfl rfl ty30) ?_
      refine SOps.q rfl (.plain rfl) rfl (q_call (curtail_Valid_ok F (SCurtail.mk (ByteArray.mk #[101]) 2 0 10 20 5000 false) (SSite.mk ByteArray.empty (List.replicate (1 : Int).toNat dSFeeder) (([] : List SPoint))) c_10 g11) [] rfl fn10 ⟨⟨rfl, rfl⟩, ⟨rfl, rfl⟩, trivial⟩ (.inl rfl)) ?_
      refine SOps.q rfl (.plain rfl) rfl (q_eql rfl rfl rfl) ?_
      refine SOps.q rfl (.plain rfl) rfl (q_move rfl rfl) ?_
      refine SOps.q rfl (.guard 4 52 true rfl rfl (gT g12)) rfl (q_load_ptr_all rfl rfl rfl rfl rfl ty25) ?_
      refine SOps.q rfl (.guard 4 52 true rfl rfl (gT g12)) rfl (q_load_ptr_all rfl rfl rfl rfl rfl ty30) ?_
      refine SOps.q rfl (.guard 4 52 true rfl rfl (gT g12)) rfl (q_call (curtail_Valid_ok F (SCurtail.mk (ByteArray.mk #[101]) 2 1 10 20 5000 false) (SSite.mk ByteArray.empty (List.replicate (1 : Int).toNat dSFeeder) (([] : List SPoint))) c_13 g14) [] rfl fn10 ⟨⟨rfl, rfl⟩, ⟨rfl, rfl⟩, trivial⟩ (.inl rfl)) ?_
      refine SOps.q rfl (.guard 4 52 true rfl rfl (gT g12)) rfl (q_eql rfl rfl rfl) ?_
      refine SOps.q rfl (.plain rfl) rfl (q_pick_t rfl rfl g12 rfl) ?_
      refine SOps.q rfl (.plain rfl) rfl (q_move rfl rfl) ?_
      refine SOps.q rfl (.guard 10 58 true rfl rfl (gT g15)) rfl (q_move rfl rfl) ?_
      refine SOps.q rfl (.guard 10 58 true rfl rfl (gT g15)) rfl (q_eql rfl rfl rfl) ?_
      refine SOps.q rfl (.plain rfl) rfl (q_pick_t rfl rfl g15 rfl) ?_
      refine SOps.q rfl (.plain rfl) rfl (q_move rfl rfl) ?_
      refine SOps.skip rfl 14 62 true rfl rfl (.inl (gF g16)) rfl ?_
      refine SOps.skip rfl 14 62 true rfl rfl (.inl (gF g16)) rfl ?_
      refine SOps.q rfl (.plain rfl) rfl (q_pick_f rfl rfl g16 rfl) ?_
      refine SOps.q rfl (.plain rfl) rfl (q_move rfl rfl) ?_
      refine SOps.skip rfl 18 66 true rfl rfl (.inl rfl) rfl ?_
      refine SOps.skip rfl 18 66 true rfl rfl (.inl rfl) rfl ?_
      refine SOps.skip rfl 18 66 true rfl rfl (.inl rfl) rfl ?_
      refine SOps.skip rfl 18 66 true rfl rfl (.inl rfl) rfl ?_
      refine SOps.skip rfl 18 66 true rfl rfl (.inl rfl) rfl ?_
      refine SOps.q rfl (.plain rfl) rfl (q_pick_f rfl rfl rfl rfl) ?_
      refine SOps.q rfl (.plain rfl) rfl (q_move rfl rfl) ?_
      refine SOps.skip rfl 25 73 true rfl rfl (.inl rfl) rfl ?_
      refine SOps.skip rfl 25 73 true rfl rfl (.inl rfl) rfl ?_
      refine SOps.q rfl (.plain rfl) rfl (q_pick_f rfl rfl rfl rfl) ?_
      refine SOps.q rfl (.plain rfl) rfl (q_move rfl rfl) ?_
      refine SOps.skip rfl 29 77 true rfl rfl (.inl rfl) rfl ?_
      refine SOps.skip rfl 29 77 true rfl rfl (.inl rfl) rfl ?_
      refine SOps.q rfl (.plain rfl) rfl (q_pick_f rfl rfl rfl rfl) ?_
      refine SOps.q rfl (.plain rfl) rfl (q_move rfl rfl) ?_
      refine SOps.skip rfl 33 81 true rfl rfl (.inl rfl) rfl ?_
      refine SOps.skip rfl 33 81 true rfl rfl (.inl rfl) rfl ?_
      refine SOps.skip rfl 33 81 true rfl rfl (.inl rfl) rfl ?_
      refine SOps.q rfl (.plain rfl) rfl (q_pick_f rfl rfl rfl rfl) ?_
      refine SOps.q rfl (.plain rfl) rfl (q_move rfl rfl) ?_
      refine SOps.skip rfl 38 86 true rfl rfl (.inl rfl) rfl ?_
      refine SOps.skip rfl 38 86 true rfl rfl (.inl rfl) rfl ?_
      refine SOps.skip rfl 38 86 true rfl rfl (.inl rfl) rfl ?_
      refine SOps.q rfl (.plain rfl) rfl (q_pick_f rfl rfl rfl rfl) ?_
      refine SOps.q rfl (.plain rfl) rfl (q_move rfl rfl) ?_
      refine SOps.skip rfl 43 91 true rfl rfl (.inl rfl) rfl ?_
      refine SOps.skip rfl 43 91 true rfl rfl (.inl rfl) rfl ?_
      refine SOps.skip rfl 43 91 true rfl rfl (.inl rfl) rfl ?_
      refine SOps.q rfl (.plain rfl) rfl (q_pick_f rfl rfl rfl rfl) ?_
      refine SOps.q rfl (.plain rfl) rfl (q_move rfl rfl) ?_
      refine SOps.skip rfl 48 96 true rfl rfl (.inl rfl) rfl ?_
      refine SOps.skip rfl 48 96 true rfl rfl (.inl rfl) rfl ?_
      refine SOps.skip rfl 48 96 true rfl rfl (.inl rfl) rfl ?_
      refine SOps.q rfl (.plain rfl) rfl (q_pick_f rfl rfl rfl rfl) ?_
      refine SOps.q rfl (.plain rfl) rfl (q_move rfl rfl) ?_
      refine SOps.skip rfl 53 101 true rfl rfl (.inl rfl) rfl ?_
      refine SOps.skip rfl 53 101 true rfl rfl (.inl rfl) rfl ?_
      refine SOps.skip rfl 53 101 true rfl rfl (.inl rfl) rfl ?_
      refine SOps.q rfl (.plain rfl) rfl (q_pick_f rfl rfl rfl rfl) ?_
      refine SOps.q rfl (.plain rfl) rfl (q_move rfl rfl) ?_
      refine SOps.skip rfl 58 106 true rfl rfl (.inl rfl) rfl ?_
      refine SOps.skip rfl 58 106 true rfl rfl (.inl rfl) rfl ?_
      refine SOps.skip rfl 58 106 true rfl rfl (.inl rfl) rfl ?_
      refine SOps.q rfl (.plain rfl) rfl (q_pick_f rfl rfl rfl rfl) ?_
      refine SOps.q rfl (.plain rfl) rfl (q_move rfl rfl) ?_
      refine SOps.skip rfl 63 111 true rfl rfl (.inl rfl) rfl ?_
      refine SOps.skip rfl 63 111 true rfl rfl (.inl rfl) rfl ?_
      refine SOps.skip rfl 63 111 true rfl rfl (.inl rfl) rfl ?_
      refine SOps.q rfl (.plain rfl) rfl (q_pick_f rfl rfl rfl rfl) ?_
      refine SOps.q rfl (.plain rfl) rfl (q_move rfl rfl) ?_
      refine SOps.skip rfl 68 116 true rfl rfl (.inl rfl) rfl ?_
      refine SOps.skip rfl 68 116 true rfl rfl (.inl rfl) rfl ?_
      refine SOps.skip rfl 68 116 true rfl rfl (.inl rfl) rfl ?_
      refine SOps.q rfl (.plain rfl) rfl (q_pick_f rfl rfl rfl rfl) ?_
      refine SOps.q rfl (.plain rfl) rfl (q_assign rfl rfl) ?_
      refine SOps.sub (st' := ⟨[(0, .c (.bool false))], []⟩) (sub_gen [] rfl rfl ⟨zc rfl rfl, trivial⟩ trivial) ?_
      refine SOps.nil ?_
      refine SCode.ret ?_
      obtain rfl := Option.some.inj h
      exact ⟨⟨[(0, .c (.bool false))], []⟩, _, sub_gen [] rfl rfl ⟨zc rfl rfl, trivial⟩ trivial, resA1 (v := .c (.bool false)) rfl rfl, rfl⟩
    refine SCode.region (show SOps _ _ _ [0, 1, 2, 3, 4, 5, 6, 7, 8, 9, 10, 11, 12, 13, 14, 15, 16, 17, 18, 19, 20, 21, 22, 23, 24, 25, 26, 27, 28, 29, 30, 31, 32, 33, 34, 35, 36, 37, 38, 39, 40, 41, 42, 43, 44, 45, 46, 47, 48, 49, 50, 51, 52, 53, 54, 55, 56, 57, 58, 59, 60, 61, 62, 63, 64, 65, 66, 67, 68, 69, 70, 71, 72, 73] _ _ from ?_)
    refine SOps.q rfl (.plain rfl) rfl (q_load_ptr_all rfl rfl rfl rfl rfl ty25) ?_
    refine SOps.q rfl (.plain rfl) rfl (q_load_ptr_all rfl rfl rfl rfl rfl ty30) ?_
    refine SOps.q rfl (.plain rfl) rfl (q_call (curtail_Valid_ok F (SCurtail.mk (ByteArray.mk #[101]) 2 0 10 20 5000 false) (SSite.mk ByteArray.empty (List.replicate (1 : Int).toNat dSFeeder) (([] : List SPoint))) c_10 g11) [] rfl fn10 ⟨⟨rfl, rfl⟩, ⟨rfl, rfl⟩, trivial⟩ (.inl rfl)) ?_
    refine SOps.q rfl (.plain rfl) rfl (q_eql rfl rfl rfl) ?_
    refine SOps.q rfl (.plain rfl) rfl (q_move rfl rfl) ?_
    refine SOps.q rfl (.guard 4 52 true rfl rfl (gT g12)) rfl (q_load_ptr_all rfl rfl rfl rfl rfl ty25) ?_
    refine SOps.q rfl (.guard 4 52 true rfl rfl (gT g12)) rfl (q_load_ptr_all rfl rfl rfl rfl rfl ty30) ?_
    refine SOps.q rfl (.guard 4 52 true rfl rfl (gT g12)) rfl (q_call (curtail_Valid_ok F (SCurtail.mk (ByteArray.mk #[101]) 2 1 10 20 5000 false) (SSite.mk ByteArray.empty (List.replicate (1 : Int).toNat dSFeeder) (([] : List SPoint))) c_13 g14) [] rfl fn10 ⟨⟨rfl, rfl⟩, ⟨rfl, rfl⟩, trivial⟩ (.inl rfl)) ?_
    refine SOps.q rfl (.guard 4 52 true rfl rfl (gT g12)) rfl (q_eql rfl rfl rfl) ?_
    refine SOps.q rfl (.plain rfl) rfl (q_pick_t rfl rfl g12 rfl) ?_
    refine SOps.q rfl (.plain rfl) rfl (q_move rfl rfl) ?_
    refine SOps.skip rfl 10 58 true rfl rfl (.inl (gF g15)) rfl ?_
    refine SOps.skip rfl 10 58 true rfl rfl (.inl (gF g15)) rfl ?_
    refine SOps.q rfl (.plain rfl) rfl (q_pick_f rfl rfl g15 rfl) ?_
    refine SOps.q rfl (.plain rfl) rfl (q_move rfl rfl) ?_
    refine SOps.skip rfl 14 62 true rfl rfl (.inl rfl) rfl ?_
    refine SOps.skip rfl 14 62 true rfl rfl (.inl rfl) rfl ?_
    refine SOps.q rfl (.plain rfl) rfl (q_pick_f rfl rfl rfl rfl) ?_
    refine SOps.q rfl (.plain rfl) rfl (q_move rfl rfl) ?_
    refine SOps.skip rfl 18 66 true rfl rfl (.inl rfl) rfl ?_
    refine SOps.skip rfl 18 66 true rfl rfl (.inl rfl) rfl ?_
    refine SOps.skip rfl 18 66 true rfl rfl (.inl rfl) rfl ?_
    refine SOps.skip rfl 18 66 true rfl rfl (.inl rfl) rfl ?_
    refine SOps.skip rfl 18 66 true rfl rfl (.inl rfl) rfl ?_
    refine SOps.q rfl (.plain rfl) rfl (q_pick_f rfl rfl rfl rfl) ?_
    refine SOps.q rfl (.plain rfl) rfl (q_move rfl rfl) ?_
    refine SOps.skip rfl 25 73 true rfl rfl (.inl rfl) rfl ?_
    refine SOps.skip rfl 25 73 true rfl rfl (.inl rfl) rfl ?_
    refine SOps.q rfl (.plain rfl) rfl (q_pick_f rfl rfl rfl rfl) ?_
    refine SOps.q rfl (.plain rfl) rfl (q_move rfl rfl) ?_
    refine SOps.skip rfl 29 77 true rfl rfl (.inl rfl) rfl ?_
    refine SOps.skip rfl 29 77 true rfl rfl (.inl rfl) rfl ?_
    refine SOps.q rfl (.plain rfl) rfl (q_pick_f rfl rfl rfl rfl) ?_
    refine SOps.q rfl (.plain rfl) rfl (q_move rfl rfl) ?_
    refine SOps.skip rfl 33 81 true rfl rfl (.inl rfl) rfl ?_
    refine SOps.skip rfl 33 81 true rfl rfl (.inl rfl) rfl ?_
    refine SOps.skip rfl 33 81 true rfl rfl (.inl rfl) rfl ?_
    refine SOps.q rfl (.plain rfl) rfl (q_pick_f rfl rfl rfl rfl) ?_
    refine SOps.q rfl (.plain rfl) rfl (q_move rfl rfl) ?_
    refine SOps.skip rfl 38 86 true rfl rfl (.inl rfl) rfl ?_
    refine SOps.skip rfl 38 86 true rfl rfl (.inl rfl) rfl ?_
    refine SOps.skip rfl 38 86 true rfl rfl (.inl rfl) rfl ?_
    refine SOps.q rfl (.plain rfl) rfl (q_pick_f rfl rfl rfl rfl) ?_
    refine SOps.q rfl (.plain rfl) rfl (q_move rfl rfl) ?_
    refine SOps.skip rfl 43 91 true rfl rfl (.inl rfl) rfl ?_
    refine SOps.skip rfl 43 91 true rfl rfl (.inl rfl) rfl ?_
    refine SOps.skip rfl 43 91 true rfl rfl (.inl rfl) rfl ?_
    refine SOps.q rfl (.plain rfl) rfl (q_pick_f rfl rfl rfl rfl) ?_
    refine SOps.q rfl (.plain rfl) rfl (q_move rfl rfl) ?_
    refine SOps.skip rfl 48 96 true rfl rfl (.inl rfl) rfl ?_
    refine SOps.skip rfl 48 96 true rfl rfl (.inl rfl) rfl ?_
    refine SOps.skip rfl 48 96 true rfl rfl (.inl rfl) rfl ?_
    refine SOps.q rfl (.plain rfl) rfl (q_pick_f rfl rfl rfl rfl) ?_
    refine SOps.q rfl (.plain rfl) rfl (q_move rfl rfl) ?_
    refine SOps.skip rfl 53 101 true rfl rfl (.inl rfl) rfl ?_
    refine SOps.skip rfl 53 101 true rfl rfl (.inl rfl) rfl ?_
    refine SOps.skip rfl 53 101 true rfl rfl (.inl rfl) rfl ?_
    refine SOps.q rfl (.plain rfl) rfl (q_pick_f rfl rfl rfl rfl) ?_
    refine SOps.q rfl (.plain rfl) rfl (q_move rfl rfl) ?_
    refine SOps.skip rfl 58 106 true rfl rfl (.inl rfl) rfl ?_
    refine SOps.skip rfl 58 106 true rfl rfl (.inl rfl) rfl ?_
    refine SOps.skip rfl 58 106 true rfl rfl (.inl rfl) rfl ?_
    refine SOps.q rfl (.plain rfl) rfl (q_pick_f rfl rfl rfl rfl) ?_
    refine SOps.q rfl (.plain rfl) rfl (q_move rfl rfl) ?_
    refine SOps.skip rfl 63 111 true rfl rfl (.inl rfl) rfl ?_
    refine SOps.skip rfl 63 111 true rfl rfl (.inl rfl) rfl ?_
    refine SOps.skip rfl 63 111 true rfl rfl (.inl rfl) rfl ?_
    refine SOps.q rfl (.plain rfl) rfl (q_pick_f rfl rfl rfl rfl) ?_
    refine SOps.q rfl (.plain rfl) rfl (q_move rfl rfl) ?_
    refine SOps.skip rfl 68 116 true rfl rfl (.inl rfl) rfl ?_
    refine SOps.skip rfl 68 116 true rfl rfl (.inl rfl) rfl ?_
    refine SOps.skip rfl 68 116 true rfl rfl (.inl rfl) rfl ?_
    refine SOps.q rfl (.plain rfl) rfl (q_pick_f rfl rfl rfl rfl) ?_
    refine SOps.q rfl (.plain rfl) rfl (q_assign rfl rfl) ?_
    refine SOps.sub (st' := ⟨[(0, .c (.bool false))], []⟩) (sub_gen [] rfl rfl ⟨zc rfl rfl, trivial⟩ trivial) ?_
    refine SOps.nil ?_
    refine SCode.ret ?_
    obtain rfl := Option.some.inj h
    exact ⟨⟨[(0, .c (.bool false))], []⟩, _, sub_gen [] rfl rfl ⟨zc rfl rfl, trivial⟩ trivial, resA1 (v := .c (.bool false)) rfl rfl, rfl⟩
  refine SCode.region (show SOps _ _ _ [0, 1, 2, 3, 4, 5, 6, 7, 8, 9, 10, 11, 12, 13, 14, 15, 16, 17, 18, 19, 20, 21, 22, 23, 24, 25, 26, 27, 28, 29, 30, 31, 32, 33, 34, 35, 36, 37, 38, 39, 40, 41, 42, 43, 44, 45, 46, 47, 48, 49, 50, 51, 52, 53, 54, 55, 56, 57, 58, 59, 60, 61, 62, 63, 64, 65, 66, 67, 68, 69, 70, 71, 72, 73] _ _ from ?_)
  refine SOps.q rfl (.plain rfl) rfl (q_load_ptr_all rfl rfl rfl rfl rfl ty25) ?_
  refine SOps.q rfl (.plain rfl) rfl (q_load_ptr_all rfl rfl rfl rfl rfl ty30) ?_
  refine SOps.q rfl (.plain rfl) rfl (q_call (curtail_Valid_ok F (SCurtail.mk (ByteArray.mk #[101]) 2 0 10 20 5000 false) (SSite.mk ByteArray.empty (List.replicate (1 : Int).toNat dSFeeder) (([] : List SPoint))) c_10 g11) [] rfl fn10 ⟨⟨rfl, rfl⟩, ⟨rfl, rfl⟩, trivial⟩ (.inl rfl)) ?_
  refine SOps.q rfl (.plain rfl) rfl (q_eql rfl rfl rfl) ?_
  refine SOps.q rfl (.plain rfl) rfl (q_move rfl rfl) ?_
  refine SOps.skip rfl 4 52 true rfl rfl (.inl (gF g12)) rfl ?_
  refine SOps.skip rfl 4 52 true rfl rfl (.inl (gF g12)) rfl ?_
  refine SOps.skip rfl 4 52 true rfl rfl (.inl (gF g12)) rfl ?_
  refine SOps.skip rfl 4 52 true rfl rfl (.inl (gF g12)) rfl ?_
  refine SOps.q rfl (.plain rfl) rfl (q_pick_f rfl rfl g12 rfl) ?_
  refine SOps.q rfl (.plain rfl) rfl (q_move rfl rfl) ?_
  refine SOps.skip rfl 10 58 true rfl rfl (.inl rfl) rfl ?_
  refine SOps.skip rfl 10 58 true rfl rfl (.inl rfl) rfl ?_
  refine SOps.q rfl (.plain rfl) rfl (q_pick_f rfl rfl rfl rfl) ?_
  refine SOps.q rfl (.plain rfl) rfl (q_move rfl rfl) ?_
  refine SOps.skip rfl 14 62 true rfl rfl (.inl rfl) rfl ?_
  refine SOps.skip rfl 14 62 true rfl rfl (.inl rfl) rfl ?_
  refine SOps.q rfl (.plain rfl) rfl (q_pick_f rfl rfl rfl rfl) ?_
  refine SOps.q rfl (.plain rfl) rfl (q_move rfl rfl) ?_
  refine SOps.skip rfl 18 66 true rfl rfl (.inl rfl) rfl ?_
  refine SOps.skip rfl 18 66 true rfl rfl (.inl rfl) rfl ?_
  refine SOps.skip rfl 18 66 true rfl rfl (.inl rfl) rfl ?_
  refine SOps.skip rfl 18 66 true rfl rfl (.inl rfl) rfl ?_
  refine SOps.skip rfl 18 66 true rfl rfl (.inl rfl) rfl ?_
  refine SOps.q rfl (.plain rfl) rfl (q_pick_f rfl rfl rfl rfl) ?_
  refine SOps.q rfl (.plain rfl) rfl (q_move rfl rfl) ?_
  refine SOps.skip rfl 25 73 true rfl rfl (.inl rfl) rfl ?_
  refine SOps.skip rfl 25 73 true rfl rfl (.inl rfl) rfl ?_
  refine SOps.q rfl (.plain rfl) rfl (q_pick_f rfl rfl rfl rfl) ?_
  refine SOps.q rfl (.plain rfl) rfl (q_move rfl rfl) ?_
  refine SOps.skip rfl 29 77 true rfl rfl (.inl rfl) rfl ?_
  refine SOps.skip rfl 29 77 true rfl rfl (.inl rfl) rfl ?_
  refine SOps.q rfl (.plain rfl) rfl (q_pick_f rfl rfl rfl rfl) ?_
  refine SOps.q rfl (.plain rfl) rfl (q_move rfl rfl) ?_
  refine SOps.skip rfl 33 81 true rfl rfl (.inl rfl) rfl ?_
  refine SOps.skip rfl 33 81 true rfl rfl (.inl rfl) rfl ?_
  refine SOps.skip rfl 33 81 true rfl rfl (.inl rfl) rfl ?_
  refine SOps.q rfl (.plain rfl) rfl (q_pick_f rfl rfl rfl rfl) ?_
  refine SOps.q rfl (.plain rfl) rfl (q_move rfl rfl) ?_
  refine SOps.skip rfl 38 86 true rfl rfl (.inl rfl) rfl ?_
  refine SOps.skip rfl 38 86 true rfl rfl (.inl rfl) rfl ?_
  refine SOps.skip rfl 38 86 true rfl rfl (.inl rfl) rfl ?_
  refine SOps.q rfl (.plain rfl) rfl (q_pick_f rfl rfl rfl rfl) ?_
  refine SOps.q rfl (.plain rfl) rfl (q_move rfl rfl) ?_
  refine SOps.skip rfl 43 91 true rfl rfl (.inl rfl) rfl ?_
  refine SOps.skip rfl 43 91 true rfl rfl (.inl rfl) rfl ?_
  refine SOps.skip rfl 43 91 true rfl rfl (.inl rfl) rfl ?_
  refine SOps.q rfl (.plain rfl) rfl (q_pick_f rfl rfl rfl rfl) ?_
  refine SOps.q rfl (.plain rfl) rfl (q_move rfl rfl) ?_
  refine SOps.skip rfl 48 96 true rfl rfl (.inl rfl) rfl ?_
  refine SOps.skip rfl 48 96 true rfl rfl (.inl rfl) rfl ?_
  refine SOps.skip rfl 48 96 true rfl rfl (.inl rfl) rfl ?_
  refine SOps.q rfl (.plain rfl) rfl (q_pick_f rfl rfl rfl rfl) ?_
  refine SOps.q rfl (.plain rfl) rfl (q_move rfl rfl) ?_
  refine SOps.skip rfl 53 101 true rfl rfl (.inl rfl) rfl ?_
  refine SOps.skip rfl 53 101 true rfl rfl (.inl rfl) rfl ?_
  refine SOps.skip rfl 53 101 true rfl rfl (.inl rfl) rfl ?_
  refine SOps.q rfl (.plain rfl) rfl (q_pick_f rfl rfl rfl rfl) ?_
  refine SOps.q rfl (.plain rfl) rfl (q_move rfl rfl) ?_
  refine SOps.skip rfl 58 106 true rfl rfl (.inl rfl) rfl ?_
  refine SOps.skip rfl 58 106 true rfl rfl (.inl rfl) rfl ?_
  refine SOps.skip rfl 58 106 true rfl rfl (.inl rfl) rfl ?_
  refine SOps.q rfl (.plain rfl) rfl (q_pick_f rfl rfl rfl rfl) ?_
  refine SOps.q rfl (.plain rfl) rfl (q_move rfl rfl) ?_
  refine SOps.skip rfl 63 111 true rfl rfl (.inl rfl) rfl ?_
  refine SOps.skip rfl 63 111 true rfl rfl (.inl rfl) rfl ?_
  refine SOps.skip rfl 63 111 true rfl rfl (.inl rfl) rfl ?_
  refine SOps.q rfl (.plain rfl) rfl (q_pick_f rfl rfl rfl rfl) ?_
  refine SOps.q rfl (.plain rfl) rfl (q_move rfl rfl) ?_
  refine SOps.skip rfl 68 116 true rfl rfl (.inl rfl) rfl ?_
  refine SOps.skip rfl 68 116 true rfl rfl (.inl rfl) rfl ?_
  refine SOps.skip rfl 68 116 true rfl rfl (.inl rfl) rfl ?_
  refine SOps.q rfl (.plain rfl) rfl (q_pick_f rfl rfl rfl rfl) ?_
  refine SOps.q rfl (.plain rfl) rfl (q_assign rfl rfl) ?_
  refine SOps.sub (st' := ⟨[(0, .c (.bool false))], []⟩) (sub_gen [] rfl rfl ⟨zc rfl rfl, trivial⟩ trivial) ?_
  refine SOps.nil ?_
  refine SCode.ret ?_
  obtain rfl := Option.some.inj h
  exact ⟨⟨[(0, .c (.bool false))], []⟩, _, sub_gen [] rfl rfl ⟨zc rfl rfl, trivial⟩ trivial, resA1 (v := .c (.bool false)) rfl rfl, rfl⟩
end Go.Proofs.Ytcccjpkfifefaaa.W
