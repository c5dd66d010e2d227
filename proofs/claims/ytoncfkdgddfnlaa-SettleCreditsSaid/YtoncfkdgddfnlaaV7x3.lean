/- Written by a program of ours (wip/eng/gen.py): the functions compute their models. -/
import Derived.Test.YtoncfkdgddfnlaaFacts
import Derived.Test.YtoncfkdgddfnlaaV7x2
namespace Go.Proofs.Ytoncfkdgddfnlaa.W
open Go Go.Proofs Go.Proofs.Ytoncfkdgddfnlaa.E Go.Proofs.Ytoncfkdgddfnlaa.M
set_option linter.unusedVariables false
set_option maxRecDepth 100000
set_option maxHeartbeats 8000000
theorem chargenetref46_Credit_ok (F : Nat) (a0_c : SCDR) (a1_id : ByteArray) (r : SCDR × Int) (h : chargenetref46_Credit F a0_c a1_id = some r) :
  SFun Try.prog 18 [] [.a (bSCDR a0_c), .c (.str a1_id)] (fun x _ => x = .t [.a [.str r.1.ID, .str r.1.Operator, .str r.1.Provider, .str r.1.Session, .int .i64 r.1.Version, .int .i64 r.1.Start, .int .i64 r.1.End, .int .i64 r.1.Energy, .str r.1.Tariff, .str r.1.Currency, vSItem r.1.Items, .int .i64 r.1.Total, .bool r.1.Credit, .str r.1.Ref], .c (.int .i64 r.2)]) := by
 refine SFun.of (n := 42) Try.func18 rfl rfl rfl ?_
 unfold chargenetref46_Credit at h
 show SCode _ _ _ ⟨[(0, .a (bSCDR a0_c)), (1, .c (.str a1_id))], []⟩ _
 refine SCode.seq (SCode.region (se rfl rfl (e_box rfl rfl rfl rfl rfl rfl) (se rfl rfl (e_alloc rfl rfl rfl z47) (sa rfl rfl (SOps.nil (SCode.seq (SCode.seq ?_)))))))
 obtain ⟨c_1, g2, h⟩ := bind_out h
 try dsimp only at h
 refine SCode.region (sq rfl rfl (q_load_ptr_all rfl rfl rfl rfl rfl ty47) (sq rfl rfl (q_call (chargenetref46_Valid_ok F a0_c c_1 g2) [] rfl fn17 ⟨⟨rfl, rfl⟩, trivial⟩ (.inl rfl)) (sa rfl rfl (SOps.nil (SCode.seq (SCode.region (sm rfl rfl (sq rfl rfl (q_neq rfl rfl rfl) (SOps.nil ?_)))))))))
 rcases cond_out h with ⟨g3, h⟩ | ⟨g3, h⟩
 ·refine SCode.cond_t rfl g3 (SCode.seq (SCode.region (sq rfl rfl (q_build2 rfl rfl pl47 rfl) (sm rfl rfl (se rfl rfl (e_store_box rfl rfl rfl rfl rfl ty47 rfl rfl rfl rfl) (sa rfl rfl (SOps.nil (SCode.ret ?_))))))))
  obtain rfl := Option.some.inj h
  let y1 := (SCDR.mk ByteArray.empty ByteArray.empty ByteArray.empty ByteArray.empty 0 0 0 0 ByteArray.empty ByteArray.empty ([]) 0 false ByteArray.empty).Items
  exact ⟨⟨[(4, .c (.ptr 0 0)), (5, ci c_1)], [.box [.str ByteArray.empty, .str ByteArray.empty, .str ByteArray.empty, .str ByteArray.empty, .int .i64 0, .int .i64 0, .int .i64 0, .int .i64 0, .str ByteArray.empty, .str ByteArray.empty, vSItem y1, .int .i64 0, .bool false, .str ByteArray.empty]]⟩, _, sub_gen [1] rfl rfl (zall rfl rfl) ⟨⟨_, rfl, ⟨ii rfl rfl, ii rfl rfl, ii rfl rfl, ii rfl rfl, ii rfl rfl, ii rfl rfl, ii rfl rfl, ii rfl rfl, ii rfl rfl, ii rfl rfl, .inr (.inr (.inr (.inl ⟨_, _, rfl, rfl⟩))), ii rfl rfl, ii rfl rfl, ii rfl rfl, trivial⟩⟩, trivial⟩, resA2 (v1 := .a [.str ByteArray.empty, .str ByteArray.empty, .str ByteArray.empty, .str ByteArray.empty, .int .i64 0, .int .i64 0, .int .i64 0, .int .i64 0, .str ByteArray.empty, .str ByteArray.empty, vSItem y1, .int .i64 0, .bool false, .str ByteArray.empty]) (v2 := .c (.int .i64 c_1)) rfl ⟨_, rfl, rfl, ty47⟩ rfl, rfl⟩
 refine SCode.cond_f rfl g3 (SCode.skip (SCode.seq (SCode.seq (SCode.region (sq rfl rfl (q_field_ptr rfl rfl fd47_12) (sq rfl rfl (q_load_ptr rfl rfl rfl rfl ty4) (SOps.nil ?_)))))))
 rcases cond_out h with ⟨g4, h⟩ | ⟨g4, h⟩
 ·refine SCode.cond_t rfl g4 (SCode.seq (SCode.region (sq rfl rfl (q_build2 rfl rfl pl47 rfl) (se rfl rfl (e_store_box rfl rfl rfl rfl rfl ty47 rfl rfl rfl rfl) (sa rfl rfl (SOps.nil (SCode.ret ?_)))))))
  obtain rfl := Option.some.inj h
  let y2 := (SCDR.mk ByteArray.empty ByteArray.empty ByteArray.empty ByteArray.empty 0 0 0 0 ByteArray.empty ByteArray.empty ([]) 0 false ByteArray.empty).Items
  exact ⟨⟨[(4, .c (.ptr 0 0)), (5, ci 10)], [.box [.str ByteArray.empty, .str ByteArray.empty, .str ByteArray.empty, .str ByteArray.empty, .int .i64 0, .int .i64 0, .int .i64 0, .int .i64 0, .str ByteArray.empty, .str ByteArray.empty, vSItem y2, .int .i64 0, .bool false, .str ByteArray.empty]]⟩, _, sub_gen [1] rfl rfl (zall rfl rfl) ⟨⟨_, rfl, ⟨ii rfl rfl, ii rfl rfl, ii rfl rfl, ii rfl rfl, ii rfl rfl, ii rfl rfl, ii rfl rfl, ii rfl rfl, ii rfl rfl, ii rfl rfl, .inr (.inr (.inr (.inl ⟨_, _, rfl, rfl⟩))), ii rfl rfl, ii rfl rfl, ii rfl rfl, trivial⟩⟩, trivial⟩, resA2 (v1 := .a [.str ByteArray.empty, .str ByteArray.empty, .str ByteArray.empty, .str ByteArray.empty, .int .i64 0, .int .i64 0, .int .i64 0, .int .i64 0, .str ByteArray.empty, .str ByteArray.empty, vSItem y2, .int .i64 0, .bool false, .str ByteArray.empty]) (v2 := .c (.int .i64 10)) rfl ⟨_, rfl, rfl, ty47⟩ rfl, rfl⟩
 refine SCode.cond_f rfl g4 (SCode.skip (SCode.seq (SCode.seq ?_)))
 obtain ⟨c_5, g6, h⟩ := bind_out h
 try dsimp only at h
 refine SCode.region (sm rfl rfl (sq rfl rfl (q_call (chargenetref01_Valid_ok F a1_id c_5 g6) [] rfl fn24 ⟨⟨_, rfl, .inl ⟨rfl, rfl⟩⟩, trivial⟩ (.inl rfl)) (sq rfl rfl (q_not rfl rfl) (SOps.nil ?_))))
 rcases cond_out h with ⟨g7, h⟩ | ⟨g7, h⟩
 ·refine SCode.cond_t rfl g7 (SCode.seq (SCode.region (sq rfl rfl (q_build2 rfl rfl pl47 rfl) (se rfl rfl (e_store_box rfl rfl rfl rfl rfl ty47 rfl rfl rfl rfl) (sa rfl rfl (SOps.nil (SCode.ret ?_)))))))
  obtain rfl := Option.some.inj h
  let y3 := (SCDR.mk ByteArray.empty ByteArray.empty ByteArray.empty ByteArray.empty 0 0 0 0 ByteArray.empty ByteArray.empty ([]) 0 false ByteArray.empty).Items
  exact ⟨⟨[(4, .c (.ptr 0 0)), (5, ci 4)], [.box [.str ByteArray.empty, .str ByteArray.empty, .str ByteArray.empty, .str ByteArray.empty, .int .i64 0, .int .i64 0, .int .i64 0, .int .i64 0, .str ByteArray.empty, .str ByteArray.empty, vSItem y3, .int .i64 0, .bool false, .str ByteArray.empty]]⟩, _, sub_gen [1] rfl rfl (zall rfl rfl) ⟨⟨_, rfl, ⟨ii rfl rfl, ii rfl rfl, ii rfl rfl, ii rfl rfl, ii rfl rfl, ii rfl rfl, ii rfl rfl, ii rfl rfl, ii rfl rfl, ii rfl rfl, .inr (.inr (.inr (.inl ⟨_, _, rfl, rfl⟩))), ii rfl rfl, ii rfl rfl, ii rfl rfl, trivial⟩⟩, trivial⟩, resA2 (v1 := .a [.str ByteArray.empty, .str ByteArray.empty, .str ByteArray.empty, .str ByteArray.empty, .int .i64 0, .int .i64 0, .int .i64 0, .int .i64 0, .str ByteArray.empty, .str ByteArray.empty, vSItem y3, .int .i64 0, .bool false, .str ByteArray.empty]) (v2 := .c (.int .i64 4)) rfl ⟨_, rfl, rfl, ty47⟩ rfl, rfl⟩
 refine SCode.cond_f rfl g7 (SCode.skip (SCode.seq (SCode.seq (SCode.region (sm rfl rfl (sq rfl rfl (q_field_ptr rfl rfl fd47_0) (sq rfl rfl (q_load_ptr rfl rfl rfl rfl ty9) (sq rfl rfl (q_eqlS rfl rfl rfl) (SOps.nil ?_)))))))))
 rcases cond_out h with ⟨g8, h⟩ | ⟨g8, h⟩
 ·refine SCode.cond_t rfl g8 (SCode.seq (SCode.region (sq rfl rfl (q_build2 rfl rfl pl47 rfl) (se rfl rfl (e_store_box rfl rfl rfl rfl rfl ty47 rfl rfl rfl rfl) (sa rfl rfl (SOps.sub (st' := ⟨[(4, .c (.ptr 0 0)), (5, ci 9)], [.box [.str ByteArray.empty, .str ByteArray.empty, .str ByteArray.empty, .str ByteArray.empty, .int .i64 0, .int .i64 0, .int .i64 0, .int .i64 0, .str ByteArray.empty, .str ByteArray.empty, .raw (.slice none 0 0), .int .i64 0, .bool false, .str ByteArray.empty]]⟩) (sub_gen [1] rfl rfl (zall rfl rfl) ⟨bx rfl rfl rfl, trivial⟩) (SOps.nil (SCode.ret ?_))))))))
  obtain rfl := Option.some.inj h
  let y4 := (SCDR.mk ByteArray.empty ByteArray.empty ByteArray.empty ByteArray.empty 0 0 0 0 ByteArray.empty ByteArray.empty ([]) 0 false ByteArray.empty).Items
  exact ⟨⟨[(4, .c (.ptr 0 0)), (5, ci 9)], [.box [.str ByteArray.empty, .str ByteArray.empty, .str ByteArray.empty, .str ByteArray.empty, .int .i64 0, .int .i64 0, .int .i64 0, .int .i64 0, .str ByteArray.empty, .str ByteArray.empty, vSItem y4, .int .i64 0, .bool false, .str ByteArray.empty]]⟩, _, sub_gen [0] rfl rfl (zall rfl rfl) ⟨⟨_, rfl, ⟨ii rfl rfl, ii rfl rfl, ii rfl rfl, ii rfl rfl, ii rfl rfl, ii rfl rfl, ii rfl rfl, ii rfl rfl, ii rfl rfl, ii rfl rfl, .inr (.inr (.inr (.inl ⟨_, _, rfl, rfl⟩))), ii rfl rfl, ii rfl rfl, ii rfl rfl, trivial⟩⟩, trivial⟩, resA2 (v1 := .a [.str ByteArray.empty, .str ByteArray.empty, .str ByteArray.empty, .str ByteArray.empty, .int .i64 0, .int .i64 0, .int .i64 0, .int .i64 0, .str ByteArray.empty, .str ByteArray.empty, vSItem y4, .int .i64 0, .bool false, .str ByteArray.empty]) (v2 := .c (.int .i64 9)) rfl ⟨_, rfl, rfl, ty47⟩ rfl, rfl⟩
 refine SCode.cond_f rfl g8 (SCode.skip (SCode.seq (SCode.region (sq rfl rfl (q_load_ptr_all rfl rfl rfl rfl rfl ty47) (se rfl rfl (e_alloc rfl rfl rfl z47) (se rfl rfl (e_store_box rfl rfl rfl rfl rfl ty47 rfl rfl rfl rfl) (SOps.sub (st' := ⟨[(1, .c (.str a1_id)), (2, .c (.ptr 0 0)), (4, .c (.ptr 1 0)), (7, .c (.ptr 2 0))], [.box (bSCDR a0_c), .box [.str ByteArray.empty, .str ByteArray.empty, .str ByteArray.empty, .str ByteArray.empty, .int .i64 0, .int .i64 0, .int .i64 0, .int .i64 0, .str ByteArray.empty, .str ByteArray.empty, .raw (.slice none 0 0), .int .i64 0, .bool false, .str ByteArray.empty], .box (bSCDR a0_c)]⟩) (sub_gen [0, 1, 2] rfl rfl (zall rfl rfl) ⟨bx rfl rfl rfl, bx rfl rfl rfl, bx rfl rfl rfl, trivial⟩) (SOps.nil (SCode.seq ?_)))))))))
 obtain ⟨c_9, g10, h⟩ := bind_out h
 try dsimp only at h
 let ob1 : Ob := .box [.str ByteArray.empty, .str ByteArray.empty, .str ByteArray.empty, .str ByteArray.empty, .int .i64 0, .int .i64 0, .int .i64 0, .int .i64 0, .str ByteArray.empty, .str ByteArray.empty, .raw (.slice none 0 0), .int .i64 0, .bool false, .str ByteArray.empty]
 let ob3 : Ob := .box [.str a1_id, .str a0_c.Operator, .str a0_c.Provider, .str a0_c.Session, .int .i64 a0_c.Version, .int .i64 a0_c.Start, .int .i64 a0_c.End, .int .i64 a0_c.Energy, .str a0_c.Tariff, .str a0_c.Currency, vSItem a0_c.Items, .int .i64 a0_c.Total, .bool a0_c.Credit, .str a0_c.Ref]
 let ob4 : Ob := .box [.str a1_id, .str a0_c.Operator, .str a0_c.Provider, .str a0_c.Session, .int .i64 a0_c.Version, .int .i64 a0_c.Start, .int .i64 a0_c.End, .int .i64 a0_c.Energy, .str a0_c.Tariff, .str a0_c.Currency, vSItem a0_c.Items, .int .i64 a0_c.Total, .bool true, .str a0_c.Ref]
 let ob5 : Ob := .box [.str a1_id, .str a0_c.Operator, .str a0_c.Provider, .str a0_c.Session, .int .i64 a0_c.Version, .int .i64 a0_c.Start, .int .i64 a0_c.End, .int .i64 a0_c.Energy, .str a0_c.Tariff, .str a0_c.Currency, vSItem a0_c.Items, .int .i64 a0_c.Total, .bool true, .str a0_c.ID]
 let ob6 : Ob := .box [.str a1_id, .str a0_c.Operator, .str a0_c.Provider, .str a0_c.Session, .int .i64 a0_c.Version, .int .i64 a0_c.Start, .int .i64 a0_c.End, .int .i64 a0_c.Energy, .str a0_c.Tariff, .str a0_c.Currency, vSItem a0_c.Items, .int .i64 (IntKind.wrap .i64 (0 - a0_c.Total)), .bool true, .str a0_c.ID]
 let ob7 : Ob := .box [.str a1_id, .str a0_c.Operator, .str a0_c.Provider, .str a0_c.Session, .int .i64 a0_c.Version, .int .i64 a0_c.Start, .int .i64 a0_c.End, .int .i64 a0_c.Energy, .str a0_c.Tariff, .str a0_c.Currency, vSItem c_9, .int .i64 (IntKind.wrap .i64 (0 - a0_c.Total)), .bool true, .str a0_c.ID]
 refine SCode.draw2 (sH := [(36, .c (.ptr 2 0)), (35, .c (vSItem c_9)), (34, .c (vSItem a0_c.Items)), (33, .c (.ptr 0 10)), (32, ci (IntKind.wrap .i64 (0 - a0_c.Total))), (31, ci a0_c.Total), (30, .c (.ptr 0 11)), (29, .c (.str a0_c.ID)), (28, .c (.ptr 0 0)), (27, .c (.str a1_id)), (1, .c (.str a1_id)), (2, .c (.ptr 0 0)), (4, .c (.ptr 1 0)), (7, .c (.ptr 2 0))]) mixed [[], [], [1], [], [3], [3, 4], [], [6], [6, 7], [0], [0, 6, 7, 8, 9], [0, 6, 7, 8, 9, 10], [0, 6, 7, 8, 9, 10, 11], [0, 1, 2, 6, 7, 8, 9, 10, 11, 12], [0, 1, 2, 6, 7, 8, 9, 10, 11, 12, 13], [0, 1, 2, 3, 4, 5, 6, 7, 8, 9, 10, 11, 12, 13, 14], [0, 1, 2, 3, 4, 5, 6, 7, 8, 9, 10, 11, 12, 13, 14, 15], [0, 1, 2, 3, 4, 5, 6, 7, 8, 9, 10, 11, 12, 13, 14, 15, 16], [0, 1, 2, 3, 4, 5, 6, 7, 8, 9, 10, 11, 12, 13, 14, 15, 16, 17]] [10, 11, 12, 13, 14, 15, 16, 17, 18] (fun h => List.getD [[], [2], [2], [2], [2], [2]] h []) rfl ?_ ⟨[(4, .c (.ptr 0 0)), (7, .c (.ptr 1 0))], [.box [.str ByteArray.empty, .str ByteArray.empty, .str ByteArray.empty, .str ByteArray.empty, .int .i64 0, .int .i64 0, .int .i64 0, .int .i64 0, .str ByteArray.empty, .str ByteArray.empty, .raw (.slice none 0 0), .int .i64 0, .bool false, .str ByteArray.empty], .box [.str a1_id, .str a0_c.Operator, .str a0_c.Provider, .str a0_c.Session, .int .i64 a0_c.Version, .int .i64 a0_c.Start, .int .i64 a0_c.End, .int .i64 a0_c.Energy, .str a0_c.Tariff, .str a0_c.Currency, vSItem c_9, .int .i64 (IntKind.wrap .i64 (0 - a0_c.Total)), .bool true, .str a0_c.ID]]⟩ ?_ ?_
 ·refine HChain.run rfl rfl (.plain rfl) rfl (fun f x => q_move rfl rfl) (HChain.run rfl rfl (.plain rfl) rfl (fun f x => q_field_ptr rfl rfl fd47_0) (HChain.run rfl rfl (.plain rfl) rfl (fun f x => q_load_ptr rfl rfl rfl rfl ty9) (HChain.run rfl rfl (.plain rfl) rfl (fun f x => q_field_ptr rfl rfl fd47_11) (HChain.run rfl rfl (.plain rfl) rfl (fun f x => q_load_ptr rfl rfl rfl rfl ty3) (HChain.run rfl rfl (.plain rfl) rfl (fun f x => q_neg rfl rfl) (HChain.run rfl rfl (.plain rfl) rfl (fun f x => q_field_ptr rfl rfl fd47_10) (HChain.run rfl rfl (.plain rfl) rfl (fun f x => q_load_ptr rfl rfl rfl rfl ty45) (HChain.run rfl rfl (.plain rfl) rfl (fun f x => q_call (chargenetref43_Negate_ok F a0_c.Items c_9 g10) [] rfl fn37 ⟨⟨_, rfl, .inl ⟨rfl, rfl⟩⟩, trivial⟩ (.inl rfl)) (HChain.run rfl rfl (.plain rfl) rfl (fun f x => q_field_ptr rfl rfl fd47_0) (HChain.tail rfl (HChain.tail rfl (HChain.tail rfl (HChain.tail rfl (HChain.tail rfl (HChain.tail rfl ?_)))))))))))))))
  refine HChain.tail rfl (HChain.tail rfl (HChain.tail rfl ?_))
  exact HChain.nil _ _
 ·refine t1 10 rfl (TStep.n (objs' := [.box (bSCDR a0_c), ob1, ob3]) [2] rfl rfl rfl rfl (fun s2 => by refine EOp.eq (e_store_box rfl rfl rfl rfl rfl ty9 rfl rfl rfl rfl) ?_; rfl) ⟨rfl, ⟨⟨⟨trivial, .inr rfl⟩, .inr rfl⟩, .inl rfl⟩, ?_⟩)
  refine t1 11 rfl (td (objs' := [.box (bSCDR a0_c), ob1, ob3]) (v := .c (.ptr 2 12)) 37 rfl rfl rfl rfl rfl (fun _ => EOp.eq (EOp.qd rfl rfl (q_field_ptr rfl rfl fd47_12)) rfl) rfl rfl ?_)
  refine t1 12 rfl (TStep.n (objs' := [.box (bSCDR a0_c), ob1, ob4]) [2] rfl rfl rfl rfl (fun s2 => by refine EOp.eq (e_store_box rfl rfl rfl rfl rfl ty4 rfl rfl rfl rfl) ?_; rfl) ⟨rfl, ⟨⟨⟨trivial, .inr rfl⟩, .inr rfl⟩, .inl rfl⟩, ?_⟩)
  refine t1 13 rfl (td (objs' := [.box (bSCDR a0_c), ob1, ob4]) (v := .c (.ptr 2 13)) 38 rfl rfl rfl rfl rfl (fun _ => EOp.eq (EOp.qd rfl rfl (q_field_ptr rfl rfl fd47_13)) rfl) rfl rfl ?_)
  refine t1 14 rfl (TStep.n (objs' := [.box (bSCDR a0_c), ob1, ob5]) [2] rfl rfl rfl rfl (fun s2 => by refine EOp.eq (e_store_box rfl rfl rfl rfl rfl ty9 rfl rfl rfl rfl) ?_; rfl) ⟨rfl, ⟨⟨⟨trivial, .inr rfl⟩, .inr rfl⟩, .inl rfl⟩, ?_⟩)
  refine t1 15 rfl (td (objs' := [.box (bSCDR a0_c), ob1, ob5]) (v := .c (.ptr 2 11)) 39 rfl rfl rfl rfl rfl (fun _ => EOp.eq (EOp.qd rfl rfl (q_field_ptr rfl rfl fd47_11)) rfl) rfl rfl ?_)
  refine t1 16 rfl (TStep.n (objs' := [.box (bSCDR a0_c), ob1, ob6]) [2] rfl rfl rfl rfl (fun s2 => by refine EOp.eq (e_store_box rfl rfl rfl rfl rfl ty3 rfl rfl rfl rfl) ?_; rfl) ⟨rfl, ⟨⟨⟨trivial, .inr rfl⟩, .inr rfl⟩, .inl rfl⟩, ?_⟩)
  refine t1 17 rfl (td (objs' := [.box (bSCDR a0_c), ob1, ob6]) (v := .c (.ptr 2 10)) 40 rfl rfl rfl rfl rfl (fun _ => EOp.eq (EOp.qd rfl rfl (q_field_ptr rfl rfl fd47_10)) rfl) rfl rfl ?_)
  refine t1 18 rfl (TStep.n (objs' := [.box (bSCDR a0_c), ob1, ob7]) [2] rfl rfl rfl rfl (fun s2 => by refine EOp.eq (e_store_box rfl rfl rfl rfl rfl ty45 rfl rfl rfl rfl) ?_; rfl) ⟨rfl, ⟨⟨⟨trivial, .inr rfl⟩, .inr rfl⟩, .inl rfl⟩, ?_⟩)
  exact tl rfl (sub_gen [1, 2] rfl rfl (zall rfl rfl) ⟨bx rfl rfl rfl, bx rfl rfl rfl, trivial⟩)
 refine SCode.seq (SCode.region (sq rfl rfl (q_load_ptr_all rfl rfl rfl rfl rfl ty47) (se rfl rfl (e_store_box rfl rfl rfl rfl rfl ty47 rfl rfl rfl rfl) (sa rfl rfl (SOps.nil (SCode.ret ?_))))))
 obtain rfl := Option.some.inj h
 exact ⟨⟨[(4, .c (.ptr 0 0)), (5, ci 0)], [.box [.str a1_id, .str a0_c.Operator, .str a0_c.Provider, .str a0_c.Session, .int .i64 a0_c.Version, .int .i64 a0_c.Start, .int .i64 a0_c.End, .int .i64 a0_c.Energy, .str a0_c.Tariff, .str a0_c.Currency, vSItem c_9, .int .i64 (IntKind.wrap .i64 (0 - a0_c.Total)), .bool true, .str a0_c.ID]]⟩, _, sub_gen [0] rfl rfl (zall rfl rfl) ⟨bx rfl rfl rfl, trivial⟩, resA2 (v1 := .a [.str a1_id, .str a0_c.Operator, .str a0_c.Provider, .str a0_c.Session, .int .i64 a0_c.Version, .int .i64 a0_c.Start, .int .i64 a0_c.End, .int .i64 a0_c.Energy, .str a0_c.Tariff, .str a0_c.Currency, vSItem c_9, .int .i64 (IntKind.wrap .i64 (0 - a0_c.Total)), .bool true, .str a0_c.ID]) (v2 := .c (.int .i64 0)) rfl ⟨_, rfl, rfl, ty47⟩ rfl, rfl⟩
theorem cdr_names_ok (F : Nat) (a0_l : List ByteArray) (r : Int) (h : cdr_names F a0_l = some r) :
  SFun Try.prog 54 [] [.c (.vec a0_l.length 1 (gL cStr ByteArray.empty a0_l))] (fun x _ => x = ci r) := by
 refine SFun.of (n := 15) Try.func54 rfl rfl rfl ?_
 unfold cdr_names at h
 show SCode _ _ _ ⟨[(0, .c (.vec a0_l.length 1 (gL cStr ByteArray.empty a0_l)))], []⟩ _
 refine SCode.seq (SCode.region (sa rfl rfl (SOps.nil ?_)))
 let S3 := (⟨[], []⟩ : St)
 refine SCode.join (σ := Unit) (S := fun s => S3) (g := fun s => cdr_names_p1 = some r) ?_ ?_
 rotate_left
 ·refine SCode.seq (SCode.region (sm rfl rfl (sq rfl rfl (q_len_vec rfl rfl sl57) (sm rfl rfl (SOps.nil (SCode.block ?_))))))
  let S2 := fun (t7_7 : Int) => (⟨[(5, .c (.vec a0_l.length 1 (gL cStr ByteArray.empty a0_l))), (6, ci (((a0_l).length : Int))), (7, ci t7_7)], []⟩ : St)
  refine SCode.sub (st' := (S2 0)) (sub_gen [] rfl rfl (zall rfl rfl) trivial) ?_
  refine (SCode.loop (σ := Nat × Int) (S := fun s => (S2 s.2)) (g := fun s => cdr_names_l13 F a0_l s.1 s.2 = some r) (μ := fun s => s.1) (F, 0) h ?_)
  rintro ⟨n_13, t7_7⟩ h
  try dsimp only at h
  show SCode _ _ _ (S2 t7_7) _
  cases n_13 with
  | zero => cases h
  | succ n_13 =>
   rw [cdr_names_l13] at h
   unfold cdr_names_b13 at h
   refine SCode.seq (SCode.region (sq rfl rfl (q_lss rfl rfl rfl) (SOps.nil (SCode.seq ?_))))
   rcases cond_out h with ⟨g14, h⟩ | ⟨g14, h⟩
   ·refine SCode.cond_t rfl g14 (SCode.skip (SCode.seq (SCode.block (SCode.seq ?_))))
    obtain ⟨g15, h⟩ := guard_out h
    refine SCode.region (sq rfl rfl (q_index_vec rfl rfl rfl sl57 rfl g15.1 g15.2) (sq rfl rfl (q_load_eptr rfl rfl ty9) (sa rfl rfl (SOps.nil (SCode.seq ?_)))))
    obtain ⟨c_16, g17, h⟩ := bind_out h
    try dsimp only at h
    refine SCode.region (sm rfl rfl (sq rfl rfl (q_call (ident_Valid_ok F (a0_l.getD t7_7.toNat ByteArray.empty) c_16 g17) [] rfl fn48 ⟨⟨_, rfl, .inl ⟨rfl, rfl⟩⟩, trivial⟩ (.inl rfl)) (sq rfl rfl (q_not rfl rfl) (SOps.nil ?_))))
    rcases cond_out h with ⟨g18, h⟩ | ⟨g18, h⟩
    ·refine SCode.cond_t rfl g18 (SCode.seq (SCode.region (sa rfl rfl (SOps.nil (SCode.ret ?_)))))
     obtain rfl := Option.some.inj h
     exact ⟨⟨[(2, ci 4)], []⟩, _, sub_gen [] rfl rfl (zall rfl rfl) trivial, resA1 (v := .c (.int .i64 4)) rfl rfl, rfl⟩
    refine SCode.cond_f rfl g18 (SCode.skip (SCode.region (sq rfl rfl (q_add rfl rfl rfl) (sm rfl rfl (SOps.nil ?_)))))
    exact ⟨(n_13, IntKind.wrap .i64 (t7_7 + 1)), h, Nat.lt_succ_self n_13, sub_gen [] rfl rfl (zall rfl rfl) trivial⟩
   refine SCode.cond_f rfl g14 (SCode.exit ?_)
   exact ⟨(), h, sub_gen [] rfl rfl trivial trivial⟩
 rintro ⟨⟩ h
 show SCode _ _ _ S3 _
 try dsimp only at h
 unfold cdr_names_p1 at h
 refine SCode.seq (SCode.region (sa rfl rfl (SOps.nil (SCode.ret ?_))))
 obtain rfl := Option.some.inj h
 exact ⟨⟨[(2, ci 0)], []⟩, _, sub_gen [] rfl rfl (zall rfl rfl) trivial, resA1 (v := .c (.int .i64 0)) rfl rfl, rfl⟩
theorem cdr_within_ok (F : Nat) (a0_least : Int) (a1_most : Int) (a2_l : List Int) (r : Bool) (h : cdr_within F a0_least a1_most a2_l = some r) :
  SFun Try.prog 55 [] [ci a0_least, ci a1_most, .c (vI a2_l)] (fun x _ => x = .c (.bool r)) := by
 refine SFun.of (n := 24) Try.func55 rfl rfl rfl ?_
 unfold cdr_within at h
 show SCode _ _ _ ⟨[(0, ci a0_least), (1, ci a1_most), (2, .c (vI a2_l))], []⟩ _
 refine SCode.seq (SCode.region (sa rfl rfl (SOps.nil ?_)))
 let S3 := (⟨[], []⟩ : St)
 refine SCode.join (σ := Unit) (S := fun s => S3) (g := fun s => cdr_within_p1 = some r) ?_ ?_
 rotate_left
 ·refine SCode.seq (SCode.region (sm rfl rfl (sq rfl rfl (q_len_vec rfl rfl sl70) (sm rfl rfl (SOps.nil (SCode.block ?_))))))
  let S2 := fun (t11_6 : Int) => (⟨[(0, ci a0_least), (1, ci a1_most), (9, .c (vI a2_l)), (10, ci (((a2_l).length : Int))), (11, ci t11_6)], []⟩ : St)
  refine SCode.sub (st' := (S2 0)) (sub_gen [] rfl rfl (zall rfl rfl) trivial) ?_
  refine (SCode.loop (σ := Nat × Int) (S := fun s => (S2 s.2)) (g := fun s => cdr_within_l11 a0_least a1_most a2_l s.1 s.2 = some r) (μ := fun s => s.1) (F, 0) h ?_)
  rintro ⟨n_11, t11_6⟩ h
  try dsimp only at h
  show SCode _ _ _ (S2 t11_6) _
  cases n_11 with
  | zero => cases h
  | succ n_11 =>
   rw [cdr_within_l11] at h
   unfold cdr_within_b11 at h
   refine SCode.seq (SCode.region (sq rfl rfl (q_lss rfl rfl rfl) (SOps.nil (SCode.seq ?_))))
   rcases cond_out h with ⟨g12, h⟩ | ⟨g12, h⟩
   ·refine SCode.cond_t rfl g12 (SCode.skip (SCode.seq (SCode.block (SCode.seq ?_))))
    obtain ⟨g13, h⟩ := guard_out h
    refine SCode.region (sq rfl rfl (q_index_vec rfl rfl rfl sl70 rfl g13.1 g13.2) (sq rfl rfl (q_load_eptr rfl rfl ty3) (sa rfl rfl (SOps.nil (SCode.seq ?_)))))
    rcases cond_out h with ⟨g14, h⟩ | ⟨g14, h⟩
    ·refine SCode.region (sm rfl rfl (sm rfl rfl (sq rfl rfl (q_lss rfl rfl rfl) (sm rfl rfl (SOps.skip rfl 3 18 false rfl rfl (.inl (gT g14)) rfl (SOps.skip rfl 3 18 false rfl rfl (.inl (gT g14)) rfl (SOps.skip rfl 3 18 false rfl rfl (.inl (gT g14)) rfl (sq rfl rfl (q_pick_t rfl rfl g14 rfl) (SOps.nil (SCode.cond_t rfl rfl (SCode.seq (SCode.region (sa rfl rfl (SOps.nil (SCode.ret ?_)))))))))))))))
     obtain rfl := Option.some.inj h
     exact ⟨⟨[(6, .c (.bool false))], []⟩, _, sub_gen [] rfl rfl (zall rfl rfl) trivial, resA1 (v := .c (.bool false)) rfl rfl, rfl⟩
    refine SCode.region (sm rfl rfl (sm rfl rfl (sq rfl rfl (q_lss rfl rfl rfl) (sm rfl rfl (SOps.q rfl (.guard 3 18 false rfl rfl (gF g14)) rfl (q_move rfl rfl) (SOps.q rfl (.guard 3 18 false rfl rfl (gF g14)) rfl (q_move rfl rfl) (SOps.q rfl (.guard 3 18 false rfl rfl (gF g14)) rfl (q_gtr rfl rfl rfl) (sq rfl rfl (q_pick_f rfl rfl g14 rfl) (SOps.nil ?_)))))))))
    rcases cond_out h with ⟨g15, h⟩ | ⟨g15, h⟩
    ·refine SCode.cond_t rfl g15 (SCode.seq (SCode.region (sa rfl rfl (SOps.nil (SCode.ret ?_)))))
     obtain rfl := Option.some.inj h
     exact ⟨⟨[(6, .c (.bool false))], []⟩, _, sub_gen [] rfl rfl (zall rfl rfl) trivial, resA1 (v := .c (.bool false)) rfl rfl, rfl⟩
    refine SCode.cond_f rfl g15 (SCode.skip (SCode.region (sq rfl rfl (q_add rfl rfl rfl) (sm rfl rfl (SOps.nil ?_)))))
    exact ⟨(n_11, IntKind.wrap .i64 (t11_6 + 1)), h, Nat.lt_succ_self n_11, sub_gen [] rfl rfl (zall rfl rfl) trivial⟩
   refine SCode.cond_f rfl g12 (SCode.exit ?_)
   exact ⟨(), h, sub_gen [] rfl rfl trivial trivial⟩
 rintro ⟨⟩ h
 show SCode _ _ _ S3 _
 try dsimp only at h
 unfold cdr_within_p1 at h
 refine SCode.seq (SCode.region (sa rfl rfl (SOps.nil (SCode.ret ?_))))
 obtain rfl := Option.some.inj h
 exact ⟨⟨[(6, .c (.bool true))], []⟩, _, sub_gen [] rfl rfl (zall rfl rfl) trivial, resA1 (v := .c (.bool true)) rfl rfl, rfl⟩
theorem cdr_isCurrency_ok (F : Nat) (a0_s : ByteArray) (r : Bool) (h : cdr_isCurrency F a0_s = some r) :
  SFun Try.prog 56 [] [.c (.str a0_s)] (fun x _ => x = .c (.bool r)) := by
 refine SFun.of (n := 23) Try.func56 rfl rfl rfl ?_
 unfold cdr_isCurrency at h
 show SCode _ _ _ ⟨[(0, .c (.str a0_s))], []⟩ _
 refine SCode.seq (SCode.region (sa rfl rfl (SOps.nil (SCode.seq (SCode.seq (SCode.region (sm rfl rfl (sq rfl rfl (q_len_str rfl rfl un9) (sq rfl rfl (q_neq rfl rfl rfl) (SOps.nil ?_))))))))))
 rcases cond_out h with ⟨g1, h⟩ | ⟨g1, h⟩
 ·refine SCode.cond_t rfl g1 (SCode.seq (SCode.region (sa rfl rfl (SOps.nil (SCode.ret ?_)))))
  obtain rfl := Option.some.inj h
  exact ⟨⟨[(2, .c (.bool false))], []⟩, _, sub_gen [] rfl rfl (zall rfl rfl) trivial, resA1 (v := .c (.bool false)) rfl rfl, rfl⟩
 refine SCode.cond_f rfl g1 (SCode.skip ?_)
 let S3 := (⟨[], []⟩ : St)
 refine SCode.join (σ := Unit) (S := fun s => S3) (g := fun s => cdr_isCurrency_p2 = some r) ?_ ?_
 rotate_left
 ·refine SCode.seq (SCode.region (sm rfl rfl (sq rfl rfl (q_len_str rfl rfl un9) (sm rfl rfl (SOps.nil (SCode.block ?_))))))
  let S2 := fun (t9_8 : Int) => (⟨[(0, .c (.str a0_s)), (8, ci ((a0_s.size : Int))), (9, ci t9_8)], []⟩ : St)
  refine SCode.sub (st' := (S2 0)) (sub_gen [] rfl rfl (zall rfl rfl) trivial) ?_
  refine (SCode.loop (σ := Nat × Int) (S := fun s => (S2 s.2)) (g := fun s => cdr_isCurrency_l14 a0_s s.1 s.2 = some r) (μ := fun s => s.1) (F, 0) h ?_)
  rintro ⟨n_14, t9_8⟩ h
  try dsimp only at h
  show SCode _ _ _ (S2 t9_8) _
  cases n_14 with
  | zero => cases h
  | succ n_14 =>
   rw [cdr_isCurrency_l14] at h
   unfold cdr_isCurrency_b14 at h
   refine SCode.seq (SCode.region (sq rfl rfl (q_lss rfl rfl rfl) (SOps.nil (SCode.seq ?_))))
   rcases cond_out h with ⟨g15, h⟩ | ⟨g15, h⟩
   ·refine SCode.cond_t rfl g15 (SCode.skip (SCode.seq (SCode.block (SCode.seq (SCode.region (sm rfl rfl (sa rfl rfl (SOps.nil (SCode.seq ?_)))))))))
    obtain ⟨g16, h⟩ := guard_out h
    rcases cond_out h with ⟨g17, h⟩ | ⟨g17, h⟩
    ·refine SCode.region (sm rfl rfl (sm rfl rfl (sq rfl rfl (q_index_str rfl rfl rfl un9 g16.1 g16.2) (sq rfl rfl (q_lss rfl rfl rfl) (sm rfl rfl (SOps.skip rfl 4 16 false rfl rfl (.inl (gT g17)) rfl (SOps.skip rfl 4 16 false rfl rfl (.inl (gT g17)) rfl (SOps.skip rfl 4 16 false rfl rfl (.inl (gT g17)) rfl (SOps.skip rfl 4 16 false rfl rfl (.inl (gT g17)) rfl (sq rfl rfl (q_pick_t rfl rfl g17 rfl) (SOps.nil (SCode.cond_t rfl rfl (SCode.seq (SCode.region (sa rfl rfl ?_)))))))))))))))
     refine SOps.nil (SCode.ret ?_)
     obtain rfl := Option.some.inj h
     exact ⟨⟨[(2, .c (.bool false))], []⟩, _, sub_gen [] rfl rfl (zall rfl rfl) trivial, resA1 (v := .c (.bool false)) rfl rfl, rfl⟩
    obtain ⟨g18, h⟩ := guard_out h
    refine SCode.region (sm rfl rfl (sm rfl rfl (sq rfl rfl (q_index_str rfl rfl rfl un9 g16.1 g16.2) (sq rfl rfl (q_lss rfl rfl rfl) (sm rfl rfl (SOps.q rfl (.guard 4 16 false rfl rfl (gF g17)) rfl (q_move rfl rfl) (SOps.q rfl (.guard 4 16 false rfl rfl (gF g17)) rfl (q_move rfl rfl) (SOps.q rfl (.guard 4 16 false rfl rfl (gF g17)) rfl (q_index_str rfl rfl rfl un9 g18.1 g18.2) (SOps.q rfl (.guard 4 16 false rfl rfl (gF g17)) rfl (q_gtr rfl rfl rfl) (sq rfl rfl (q_pick_f rfl rfl g17 rfl) (SOps.nil ?_)))))))))))
    rcases cond_out h with ⟨g19, h⟩ | ⟨g19, h⟩
    ·refine SCode.cond_t rfl g19 (SCode.seq (SCode.region (sa rfl rfl (SOps.nil (SCode.ret ?_)))))
     obtain rfl := Option.some.inj h
     exact ⟨⟨[(2, .c (.bool false))], []⟩, _, sub_gen [] rfl rfl (zall rfl rfl) trivial, resA1 (v := .c (.bool false)) rfl rfl, rfl⟩
    refine SCode.cond_f rfl g19 (SCode.skip (SCode.region (sq rfl rfl (q_add rfl rfl rfl) (sm rfl rfl (SOps.nil ?_)))))
    exact ⟨(n_14, IntKind.wrap .i64 (t9_8 + 1)), h, Nat.lt_succ_self n_14, sub_gen [] rfl rfl (zall rfl rfl) trivial⟩
   refine SCode.cond_f rfl g15 (SCode.exit ?_)
   exact ⟨(), h, sub_gen [] rfl rfl trivial trivial⟩
 rintro ⟨⟩ h
 show SCode _ _ _ S3 _
 try dsimp only at h
 unfold cdr_isCurrency_p2 at h
 refine SCode.seq (SCode.region (sa rfl rfl (SOps.nil (SCode.ret ?_))))
 obtain rfl := Option.some.inj h
 exact ⟨⟨[(2, .c (.bool true))], []⟩, _, sub_gen [] rfl rfl (zall rfl rfl) trivial, resA1 (v := .c (.bool true)) rfl rfl, rfl⟩
theorem cdr_validItem_ok (F : Nat) (a0_i : SItem) (r : Bool) (h : cdr_validItem F a0_i = some r) :
  SFun Try.prog 71 [] [.a (bSItem a0_i)] (fun x _ => x = .c (.bool r)) := by
 refine SFun.of (n := 39) Try.func71 rfl rfl rfl ?_
 unfold cdr_validItem at h
 show SCode _ _ _ ⟨[(0, .a (bSItem a0_i))], []⟩ _
 refine SCode.seq (SCode.region (se rfl rfl (e_box rfl rfl rfl rfl rfl rfl) (sa rfl rfl (SOps.nil (SCode.seq ?_)))))
 obtain ⟨c_1, g2, h⟩ := bind_out h
 try dsimp only at h
 rcases cond_out h with ⟨g3, h⟩ | ⟨g3, h⟩
 ·obtain ⟨c_4, g5, h⟩ := bind_out h
  try dsimp only at h
  rcases cond_out h with ⟨g6, h⟩ | ⟨g6, h⟩
  ·obtain ⟨c_7, g8, h⟩ := bind_out h
   try dsimp only at h
   rcases cond_out h with ⟨g9, h⟩ | ⟨g9, h⟩
   ·obtain ⟨c_10, g11, h⟩ := bind_out h
    try dsimp only at h
    rcases cond_out h with ⟨g12, h⟩ | ⟨g12, h⟩
    ·refine SCode.region (sq rfl rfl (q_field_ptr rfl rfl fd81_0) (sq rfl rfl (q_load_ptr rfl rfl rfl rfl ty3) (sq rfl rfl (q_bsliceL (c := (cInt .i64)) (d0 := 0) [a0_i.Kind] rfl rfl sl70 z3 rfl rfl rfl rfl rfl rfl rfl) (sq rfl rfl (q_call (cdr_within_ok F 1 4 ([a0_i.Kind]) c_1 g2) [] rfl fn55 ⟨⟨_, rfl, .inl ⟨rfl, rfl⟩⟩, ⟨_, rfl, .inl ⟨rfl, rfl⟩⟩, ⟨_, rfl, .inl ⟨rfl, rfl⟩⟩, trivial⟩ (.inl rfl)) (sm rfl rfl (SOps.q rfl (.guard 4 7 true rfl rfl (gT g3)) rfl (q_field_ptr rfl rfl fd81_2) (SOps.q rfl (.guard 4 7 true rfl rfl (gT g3)) rfl (q_load_ptr rfl rfl rfl rfl ty3) (SOps.q rfl (.guard 4 7 true rfl rfl (gT g3)) rfl (q_bsliceL (c := (cInt .i64)) (d0 := 0) [a0_i.Tax] rfl rfl sl70 z3 rfl rfl rfl rfl rfl rfl rfl) (SOps.q rfl (.guard 4 7 true rfl rfl (gT g3)) rfl (q_call (cdr_within_ok F 0 10000 ([a0_i.Tax]) c_4 g5) [] rfl fn55 ⟨⟨_, rfl, .inl ⟨rfl, rfl⟩⟩, ⟨_, rfl, .inl ⟨rfl, rfl⟩⟩, ⟨_, rfl, .inl ⟨rfl, rfl⟩⟩, trivial⟩ (.inl rfl)) (sq rfl rfl (q_pick_t rfl rfl g3 rfl) (sm rfl rfl (SOps.q rfl (.guard 10 13 true rfl rfl (gT g6)) rfl (q_field_ptr rfl rfl fd81_4) (SOps.q rfl (.guard 10 13 true rfl rfl (gT g6)) rfl (q_load_ptr rfl rfl rfl rfl ty3) (SOps.q rfl (.guard 10 13 true rfl rfl (gT g6)) rfl (q_field_ptr rfl rfl fd81_5) (SOps.q rfl (.guard 10 13 true rfl rfl (gT g6)) rfl (q_load_ptr rfl rfl rfl rfl ty3) ?_)))))))))))))))
     refine SOps.q rfl (.guard 10 13 true rfl rfl (gT g6)) rfl (q_field_ptr rfl rfl fd81_1) (SOps.q rfl (.guard 10 13 true rfl rfl (gT g6)) rfl (q_load_ptr rfl rfl rfl rfl ty3) (SOps.q rfl (.guard 10 13 true rfl rfl (gT g6)) rfl (q_bsliceL (c := (cInt .i64)) (d0 := 0) [a0_i.Net, a0_i.Vat, a0_i.Price] rfl rfl sl70 z3 rfl rfl rfl rfl rfl rfl rfl) (SOps.q rfl (.guard 10 13 true rfl rfl (gT g6)) rfl (q_call (cdr_within_ok F ((-36028797018963968)) 36028797018963968 ([a0_i.Net, a0_i.Vat, a0_i.Price]) c_7 g8) [] rfl fn55 ⟨⟨_, rfl, .inl ⟨rfl, rfl⟩⟩, ⟨_, rfl, .inl ⟨rfl, rfl⟩⟩, ⟨_, rfl, .inl ⟨rfl, rfl⟩⟩, trivial⟩ (.inl rfl)) (sq rfl rfl (q_pick_t rfl rfl g6 rfl) (sm rfl rfl (SOps.q rfl (.guard 20 23 true rfl rfl (gT g9)) rfl (q_field_ptr rfl rfl fd81_3) (SOps.q rfl (.guard 20 23 true rfl rfl (gT g9)) rfl (q_load_ptr rfl rfl rfl rfl ty3) (SOps.q rfl (.guard 20 23 true rfl rfl (gT g9)) rfl (q_bsliceL (c := (cInt .i64)) (d0 := 0) [a0_i.Quantity] rfl rfl sl70 z3 rfl rfl rfl rfl rfl rfl rfl) (SOps.q rfl (.guard 20 23 true rfl rfl (gT g9)) rfl (q_call (cdr_within_ok F 0 36028797018963968 ([a0_i.Quantity]) c_10 g11) [] rfl fn55 ⟨⟨_, rfl, .inl ⟨rfl, rfl⟩⟩, ⟨_, rfl, .inl ⟨rfl, rfl⟩⟩, ⟨_, rfl, .inl ⟨rfl, rfl⟩⟩, trivial⟩ (.inl rfl)) (sq rfl rfl (q_pick_t rfl rfl g9 rfl) (sm rfl rfl (SOps.q rfl (.guard 26 29 true rfl rfl (gT g12)) rfl (q_field_ptr rfl rfl fd81_6) (SOps.q rfl (.guard 26 29 true rfl rfl (gT g12)) rfl (q_load_ptr rfl rfl rfl rfl ty3) (SOps.q rfl (.guard 26 29 true rfl rfl (gT g12)) rfl (q_field_ptr rfl rfl fd81_4) (SOps.q rfl (.guard 26 29 true rfl rfl (gT g12)) rfl (q_load_ptr rfl rfl rfl rfl ty3) ?_)))))))))))))))
     refine SOps.q rfl (.guard 26 29 true rfl rfl (gT g12)) rfl (q_field_ptr rfl rfl fd81_5) (SOps.q rfl (.guard 26 29 true rfl rfl (gT g12)) rfl (q_load_ptr rfl rfl rfl rfl ty3) (SOps.q rfl (.guard 26 29 true rfl rfl (gT g12)) rfl (q_add rfl rfl rfl) (SOps.q rfl (.guard 26 29 true rfl rfl (gT g12)) rfl (q_eql rfl rfl rfl) (sq rfl rfl (q_pick_t rfl rfl g12 rfl) (sa rfl rfl (SOps.sub (st' := ⟨[(2, .c (.bool (decide (a0_i.Gross = IntKind.wrap .i64 (a0_i.Net + a0_i.Vat)))))], []⟩) (sub_gen [] rfl rfl (zall rfl rfl) trivial) (SOps.nil (SCode.ret ?_))))))))
     obtain rfl := Option.some.inj h
     exact ⟨⟨[(2, .c (.bool (decide (a0_i.Gross = IntKind.wrap .i64 (a0_i.Net + a0_i.Vat)))))], []⟩, _, sub_gen [] rfl rfl (zall rfl rfl) trivial, resA1 (v := .c (.bool (decide (a0_i.Gross = IntKind.wrap .i64 (a0_i.Net + a0_i.Vat))))) rfl rfl, rfl⟩
    refine SCode.region (sq rfl rfl (q_field_ptr rfl rfl fd81_0) (sq rfl rfl (q_load_ptr rfl rfl rfl rfl ty3) (sq rfl rfl (q_bsliceL (c := (cInt .i64)) (d0 := 0) [a0_i.Kind] rfl rfl sl70 z3 rfl rfl rfl rfl rfl rfl rfl) (sq rfl rfl (q_call (cdr_within_ok F 1 4 ([a0_i.Kind]) c_1 g2) [] rfl fn55 ⟨⟨_, rfl, .inl ⟨rfl, rfl⟩⟩, ⟨_, rfl, .inl ⟨rfl, rfl⟩⟩, ⟨_, rfl, .inl ⟨rfl, rfl⟩⟩, trivial⟩ (.inl rfl)) (sm rfl rfl (SOps.q rfl (.guard 4 7 true rfl rfl (gT g3)) rfl (q_field_ptr rfl rfl fd81_2) (SOps.q rfl (.guard 4 7 true rfl rfl (gT g3)) rfl (q_load_ptr rfl rfl rfl rfl ty3) (SOps.q rfl (.guard 4 7 true rfl rfl (gT g3)) rfl (q_bsliceL (c := (cInt .i64)) (d0 := 0) [a0_i.Tax] rfl rfl sl70 z3 rfl rfl rfl rfl rfl rfl rfl) (SOps.q rfl (.guard 4 7 true rfl rfl (gT g3)) rfl (q_call (cdr_within_ok F 0 10000 ([a0_i.Tax]) c_4 g5) [] rfl fn55 ⟨⟨_, rfl, .inl ⟨rfl, rfl⟩⟩, ⟨_, rfl, .inl ⟨rfl, rfl⟩⟩, ⟨_, rfl, .inl ⟨rfl, rfl⟩⟩, trivial⟩ (.inl rfl)) (sq rfl rfl (q_pick_t rfl rfl g3 rfl) (sm rfl rfl (SOps.q rfl (.guard 10 13 true rfl rfl (gT g6)) rfl (q_field_ptr rfl rfl fd81_4) (SOps.q rfl (.guard 10 13 true rfl rfl (gT g6)) rfl (q_load_ptr rfl rfl rfl rfl ty3) (SOps.q rfl (.guard 10 13 true rfl rfl (gT g6)) rfl (q_field_ptr rfl rfl fd81_5) (SOps.q rfl (.guard 10 13 true rfl rfl (gT g6)) rfl (q_load_ptr rfl rfl rfl rfl ty3) ?_)))))))))))))))
    refine SOps.q rfl (.guard 10 13 true rfl rfl (gT g6)) rfl (q_field_ptr rfl rfl fd81_1) (SOps.q rfl (.guard 10 13 true rfl rfl (gT g6)) rfl (q_load_ptr rfl rfl rfl rfl ty3) (SOps.q rfl (.guard 10 13 true rfl rfl (gT g6)) rfl (q_bsliceL (c := (cInt .i64)) (d0 := 0) [a0_i.Net, a0_i.Vat, a0_i.Price] rfl rfl sl70 z3 rfl rfl rfl rfl rfl rfl rfl) (SOps.q rfl (.guard 10 13 true rfl rfl (gT g6)) rfl (q_call (cdr_within_ok F ((-36028797018963968)) 36028797018963968 ([a0_i.Net, a0_i.Vat, a0_i.Price]) c_7 g8) [] rfl fn55 ⟨⟨_, rfl, .inl ⟨rfl, rfl⟩⟩, ⟨_, rfl, .inl ⟨rfl, rfl⟩⟩, ⟨_, rfl, .inl ⟨rfl, rfl⟩⟩, trivial⟩ (.inl rfl)) (sq rfl rfl (q_pick_t rfl rfl g6 rfl) (sm rfl rfl (SOps.q rfl (.guard 20 23 true rfl rfl (gT g9)) rfl (q_field_ptr rfl rfl fd81_3) (SOps.q rfl (.guard 20 23 true rfl rfl (gT g9)) rfl (q_load_ptr rfl rfl rfl rfl ty3) (SOps.q rfl (.guard 20 23 true rfl rfl (gT g9)) rfl (q_bsliceL (c := (cInt .i64)) (d0 := 0) [a0_i.Quantity] rfl rfl sl70 z3 rfl rfl rfl rfl rfl rfl rfl) (SOps.q rfl (.guard 20 23 true rfl rfl (gT g9)) rfl (q_call (cdr_within_ok F 0 36028797018963968 ([a0_i.Quantity]) c_10 g11) [] rfl fn55 ⟨⟨_, rfl, .inl ⟨rfl, rfl⟩⟩, ⟨_, rfl, .inl ⟨rfl, rfl⟩⟩, ⟨_, rfl, .inl ⟨rfl, rfl⟩⟩, trivial⟩ (.inl rfl)) (sq rfl rfl (q_pick_t rfl rfl g9 rfl) (sm rfl rfl (SOps.skip rfl 26 29 true rfl rfl (.inl (gF g12)) rfl (SOps.skip rfl 26 29 true rfl rfl (.inl (gF g12)) rfl (SOps.skip rfl 26 29 true rfl rfl (.inl (gF g12)) rfl (SOps.skip rfl 26 29 true rfl rfl (.inl (gF g12)) rfl ?_)))))))))))))))
    refine SOps.skip rfl 26 29 true rfl rfl (.inl (gF g12)) rfl (SOps.skip rfl 26 29 true rfl rfl (.inl (gF g12)) rfl (SOps.skip rfl 26 29 true rfl rfl (.inl (gF g12)) rfl (SOps.skip rfl 26 29 true rfl rfl (.inl (gF g12)) rfl (sq rfl rfl (q_pick_f rfl rfl g12 rfl) (sa rfl rfl (SOps.sub (st' := ⟨[(2, .c (.bool false))], []⟩) (sub_gen [] rfl rfl (zall rfl rfl) trivial) (SOps.nil (SCode.ret ?_))))))))
    obtain rfl := Option.some.inj h
    exact ⟨⟨[(2, .c (.bool false))], []⟩, _, sub_gen [] rfl rfl (zall rfl rfl) trivial, resA1 (v := .c (.bool false)) rfl rfl, rfl⟩
   refine SCode.region (sq rfl rfl (q_field_ptr rfl rfl fd81_0) (sq rfl rfl (q_load_ptr rfl rfl rfl rfl ty3) (sq rfl rfl (q_bsliceL (c := (cInt .i64)) (d0 := 0) [a0_i.Kind] rfl rfl sl70 z3 rfl rfl rfl rfl rfl rfl rfl) (sq rfl rfl (q_call (cdr_within_ok F 1 4 ([a0_i.Kind]) c_1 g2) [] rfl fn55 ⟨⟨_, rfl, .inl ⟨rfl, rfl⟩⟩, ⟨_, rfl, .inl ⟨rfl, rfl⟩⟩, ⟨_, rfl, .inl ⟨rfl, rfl⟩⟩, trivial⟩ (.inl rfl)) (sm rfl rfl (SOps.q rfl (.guard 4 7 true rfl rfl (gT g3)) rfl (q_field_ptr rfl rfl fd81_2) (SOps.q rfl (.guard 4 7 true rfl rfl (gT g3)) rfl (q_load_ptr rfl rfl rfl rfl ty3) (SOps.q rfl (.guard 4 7 true rfl rfl (gT g3)) rfl (q_bsliceL (c := (cInt .i64)) (d0 := 0) [a0_i.Tax] rfl rfl sl70 z3 rfl rfl rfl rfl rfl rfl rfl) (SOps.q rfl (.guard 4 7 true rfl rfl (gT g3)) rfl (q_call (cdr_within_ok F 0 10000 ([a0_i.Tax]) c_4 g5) [] rfl fn55 ⟨⟨_, rfl, .inl ⟨rfl, rfl⟩⟩, ⟨_, rfl, .inl ⟨rfl, rfl⟩⟩, ⟨_, rfl, .inl ⟨rfl, rfl⟩⟩, trivial⟩ (.inl rfl)) (sq rfl rfl (q_pick_t rfl rfl g3 rfl) (sm rfl rfl (SOps.q rfl (.guard 10 13 true rfl rfl (gT g6)) rfl (q_field_ptr rfl rfl fd81_4) (SOps.q rfl (.guard 10 13 true rfl rfl (gT g6)) rfl (q_load_ptr rfl rfl rfl rfl ty3) (SOps.q rfl (.guard 10 13 true rfl rfl (gT g6)) rfl (q_field_ptr rfl rfl fd81_5) (SOps.q rfl (.guard 10 13 true rfl rfl (gT g6)) rfl (q_load_ptr rfl rfl rfl rfl ty3) ?_)))))))))))))))
   refine SOps.q rfl (.guard 10 13 true rfl rfl (gT g6)) rfl (q_field_ptr rfl rfl fd81_1) (SOps.q rfl (.guard 10 13 true rfl rfl (gT g6)) rfl (q_load_ptr rfl rfl rfl rfl ty3) (SOps.q rfl (.guard 10 13 true rfl rfl (gT g6)) rfl (q_bsliceL (c := (cInt .i64)) (d0 := 0) [a0_i.Net, a0_i.Vat, a0_i.Price] rfl rfl sl70 z3 rfl rfl rfl rfl rfl rfl rfl) (SOps.q rfl (.guard 10 13 true rfl rfl (gT g6)) rfl (q_call (cdr_within_ok F ((-36028797018963968)) 36028797018963968 ([a0_i.Net, a0_i.Vat, a0_i.Price]) c_7 g8) [] rfl fn55 ⟨⟨_, rfl, .inl ⟨rfl, rfl⟩⟩, ⟨_, rfl, .inl ⟨rfl, rfl⟩⟩, ⟨_, rfl, .inl ⟨rfl, rfl⟩⟩, trivial⟩ (.inl rfl)) (sq rfl rfl (q_pick_t rfl rfl g6 rfl) (sm rfl rfl (SOps.skip rfl 20 23 true rfl rfl (.inl (gF g9)) rfl (SOps.skip rfl 20 23 true rfl rfl (.inl (gF g9)) rfl (SOps.skip rfl 20 23 true rfl rfl (.inl (gF g9)) rfl (SOps.skip rfl 20 23 true rfl rfl (.inl (gF g9)) rfl (sq rfl rfl (q_pick_f rfl rfl g9 rfl) (sm rfl rfl (SOps.skip rfl 26 29 true rfl rfl (.inl rfl) rfl (SOps.skip rfl 26 29 true rfl rfl (.inl rfl) rfl (SOps.skip rfl 26 29 true rfl rfl (.inl rfl) rfl (SOps.skip rfl 26 29 true rfl rfl (.inl rfl) rfl ?_)))))))))))))))
   refine SOps.skip rfl 26 29 true rfl rfl (.inl rfl) rfl (SOps.skip rfl 26 29 true rfl rfl (.inl rfl) rfl (SOps.skip rfl 26 29 true rfl rfl (.inl rfl) rfl (SOps.skip rfl 26 29 true rfl rfl (.inl rfl) rfl (sq rfl rfl (q_pick_f rfl rfl rfl rfl) (sa rfl rfl (SOps.sub (st' := ⟨[(2, .c (.bool false))], []⟩) (sub_gen [] rfl rfl (zall rfl rfl) trivial) (SOps.nil (SCode.ret ?_))))))))
   obtain rfl := Option.some.inj h
   exact ⟨⟨[(2, .c (.bool false))], []⟩, _, sub_gen [] rfl rfl (zall rfl rfl) trivial, resA1 (v := .c (.bool false)) rfl rfl, rfl⟩
  refine SCode.region (sq rfl rfl (q_field_ptr rfl rfl fd81_0) (sq rfl rfl (q_load_ptr rfl rfl rfl rfl ty3) (sq rfl rfl (q_bsliceL (c := (cInt .i64)) (d0 := 0) [a0_i.Kind] rfl rfl sl70 z3 rfl rfl rfl rfl rfl rfl rfl) (sq rfl rfl (q_call (cdr_within_ok F 1 4 ([a0_i.Kind]) c_1 g2) [] rfl fn55 ⟨⟨_, rfl, .inl ⟨rfl, rfl⟩⟩, ⟨_, rfl, .inl ⟨rfl, rfl⟩⟩, ⟨_, rfl, .inl ⟨rfl, rfl⟩⟩, trivial⟩ (.inl rfl)) (sm rfl rfl (SOps.q rfl (.guard 4 7 true rfl rfl (gT g3)) rfl (q_field_ptr rfl rfl fd81_2) (SOps.q rfl (.guard 4 7 true rfl rfl (gT g3)) rfl (q_load_ptr rfl rfl rfl rfl ty3) (SOps.q rfl (.guard 4 7 true rfl rfl (gT g3)) rfl (q_bsliceL (c := (cInt .i64)) (d0 := 0) [a0_i.Tax] rfl rfl sl70 z3 rfl rfl rfl rfl rfl rfl rfl) (SOps.q rfl (.guard 4 7 true rfl rfl (gT g3)) rfl (q_call (cdr_within_ok F 0 10000 ([a0_i.Tax]) c_4 g5) [] rfl fn55 ⟨⟨_, rfl, .inl ⟨rfl, rfl⟩⟩, ⟨_, rfl, .inl ⟨rfl, rfl⟩⟩, ⟨_, rfl, .inl ⟨rfl, rfl⟩⟩, trivial⟩ (.inl rfl)) (sq rfl rfl (q_pick_t rfl rfl g3 rfl) (sm rfl rfl (SOps.skip rfl 10 13 true rfl rfl (.inl (gF g6)) rfl (SOps.skip rfl 10 13 true rfl rfl (.inl (gF g6)) rfl (SOps.skip rfl 10 13 true rfl rfl (.inl (gF g6)) rfl (SOps.skip rfl 10 13 true rfl rfl (.inl (gF g6)) rfl ?_)))))))))))))))
  refine SOps.skip rfl 10 13 true rfl rfl (.inl (gF g6)) rfl (SOps.skip rfl 10 13 true rfl rfl (.inl (gF g6)) rfl (SOps.skip rfl 10 13 true rfl rfl (.inl (gF g6)) rfl (SOps.skip rfl 10 13 true rfl rfl (.inl (gF g6)) rfl (sq rfl rfl (q_pick_f rfl rfl g6 rfl) (sm rfl rfl (SOps.skip rfl 20 23 true rfl rfl (.inl rfl) rfl (SOps.skip rfl 20 23 true rfl rfl (.inl rfl) rfl (SOps.skip rfl 20 23 true rfl rfl (.inl rfl) rfl (SOps.skip rfl 20 23 true rfl rfl (.inl rfl) rfl (sq rfl rfl (q_pick_f rfl rfl rfl rfl) (sm rfl rfl (SOps.skip rfl 26 29 true rfl rfl (.inl rfl) rfl (SOps.skip rfl 26 29 true rfl rfl (.inl rfl) rfl (SOps.skip rfl 26 29 true rfl rfl (.inl rfl) rfl (SOps.skip rfl 26 29 true rfl rfl (.inl rfl) rfl ?_)))))))))))))))
  refine SOps.skip rfl 26 29 true rfl rfl (.inl rfl) rfl (SOps.skip rfl 26 29 true rfl rfl (.inl rfl) rfl (SOps.skip rfl 26 29 true rfl rfl (.inl rfl) rfl (SOps.skip rfl 26 29 true rfl rfl (.inl rfl) rfl (sq rfl rfl (q_pick_f rfl rfl rfl rfl) (sa rfl rfl (SOps.sub (st' := ⟨[(2, .c (.bool false))], []⟩) (sub_gen [] rfl rfl (zall rfl rfl) trivial) (SOps.nil (SCode.ret ?_))))))))
  obtain rfl := Option.some.inj h
  exact ⟨⟨[(2, .c (.bool false))], []⟩, _, sub_gen [] rfl rfl (zall rfl rfl) trivial, resA1 (v := .c (.bool false)) rfl rfl, rfl⟩
 refine SCode.region (sq rfl rfl (q_field_ptr rfl rfl fd81_0) (sq rfl rfl (q_load_ptr rfl rfl rfl rfl ty3) (sq rfl rfl (q_bsliceL (c := (cInt .i64)) (d0 := 0) [a0_i.Kind] rfl rfl sl70 z3 rfl rfl rfl rfl rfl rfl rfl) (sq rfl rfl (q_call (cdr_within_ok F 1 4 ([a0_i.Kind]) c_1 g2) [] rfl fn55 ⟨⟨_, rfl, .inl ⟨rfl, rfl⟩⟩, ⟨_, rfl, .inl ⟨rfl, rfl⟩⟩, ⟨_, rfl, .inl ⟨rfl, rfl⟩⟩, trivial⟩ (.inl rfl)) (sm rfl rfl (SOps.skip rfl 4 7 true rfl rfl (.inl (gF g3)) rfl (SOps.skip rfl 4 7 true rfl rfl (.inl (gF g3)) rfl (SOps.skip rfl 4 7 true rfl rfl (.inl (gF g3)) rfl (SOps.skip rfl 4 7 true rfl rfl (.inl (gF g3)) rfl (sq rfl rfl (q_pick_f rfl rfl g3 rfl) (sm rfl rfl (SOps.skip rfl 10 13 true rfl rfl (.inl rfl) rfl (SOps.skip rfl 10 13 true rfl rfl (.inl rfl) rfl (SOps.skip rfl 10 13 true rfl rfl (.inl rfl) rfl (SOps.skip rfl 10 13 true rfl rfl (.inl rfl) rfl ?_)))))))))))))))
 refine SOps.skip rfl 10 13 true rfl rfl (.inl rfl) rfl (SOps.skip rfl 10 13 true rfl rfl (.inl rfl) rfl (SOps.skip rfl 10 13 true rfl rfl (.inl rfl) rfl (SOps.skip rfl 10 13 true rfl rfl (.inl rfl) rfl (sq rfl rfl (q_pick_f rfl rfl rfl rfl) (sm rfl rfl (SOps.skip rfl 20 23 true rfl rfl (.inl rfl) rfl (SOps.skip rfl 20 23 true rfl rfl (.inl rfl) rfl (SOps.skip rfl 20 23 true rfl rfl (.inl rfl) rfl (SOps.skip rfl 20 23 true rfl rfl (.inl rfl) rfl (sq rfl rfl (q_pick_f rfl rfl rfl rfl) (sm rfl rfl (SOps.skip rfl 26 29 true rfl rfl (.inl rfl) rfl (SOps.skip rfl 26 29 true rfl rfl (.inl rfl) rfl (SOps.skip rfl 26 29 true rfl rfl (.inl rfl) rfl (SOps.skip rfl 26 29 true rfl rfl (.inl rfl) rfl ?_)))))))))))))))
 refine SOps.skip rfl 26 29 true rfl rfl (.inl rfl) rfl (SOps.skip rfl 26 29 true rfl rfl (.inl rfl) rfl (SOps.skip rfl 26 29 true rfl rfl (.inl rfl) rfl (SOps.skip rfl 26 29 true rfl rfl (.inl rfl) rfl (sq rfl rfl (q_pick_f rfl rfl rfl rfl) (sa rfl rfl (SOps.sub (st' := ⟨[(2, .c (.bool false))], []⟩) (sub_gen [] rfl rfl (zall rfl rfl) trivial) (SOps.nil (SCode.ret ?_))))))))
 obtain rfl := Option.some.inj h
 exact ⟨⟨[(2, .c (.bool false))], []⟩, _, sub_gen [] rfl rfl (zall rfl rfl) trivial, resA1 (v := .c (.bool false)) rfl rfl, rfl⟩
theorem cdr_validItems_ok (F : Nat) (a0_c : SCDR) (r : Int) (h : cdr_validItems F a0_c = some r) :
  SFun Try.prog 57 [] [.a (bSCDR a0_c)] (fun x _ => x = ci r) := by
 refine SFun.of (n := 29) Try.func57 rfl rfl rfl ?_
 unfold cdr_validItems at h
 show SCode _ _ _ ⟨[(0, .a (bSCDR a0_c))], []⟩ _
 refine SCode.seq (SCode.region (se rfl rfl (e_box rfl rfl rfl rfl rfl rfl) (sa rfl rfl (SOps.nil (SCode.seq (SCode.seq (SCode.region (sq rfl rfl (q_field_ptr rfl rfl fd47_10) (sq rfl rfl (q_load_ptr rfl rfl rfl rfl ty45) (sq rfl rfl (q_len_vec rfl rfl sl45) (sq rfl rfl (q_gtr rfl rfl rfl) (SOps.nil ?_))))))))))))
 rcases cond_out h with ⟨g1, h⟩ | ⟨g1, h⟩
 ·refine SCode.cond_t rfl g1 (SCode.seq (SCode.region (sa rfl rfl (SOps.nil (SCode.ret ?_)))))
  obtain rfl := Option.some.inj h
  exact ⟨⟨[(2, ci 3)], []⟩, _, sub_gen [] rfl rfl (zall rfl rfl) trivial, resA1 (v := .c (.int .i64 3)) rfl rfl, rfl⟩
 refine SCode.cond_f rfl g1 (SCode.skip (SCode.seq (SCode.region (sa rfl rfl (SOps.nil ?_)))))
 let S3 := fun (total_2 : Int) => (⟨[(1, .c (.ptr 0 0)), (3, ci total_2)], [.box (bSCDR a0_c)]⟩ : St)
 refine SCode.join (σ := Int) (S := fun s => (S3 s)) (g := fun s => cdr_validItems_p4 a0_c s = some r) ?_ ?_
 rotate_left
 ·refine SCode.seq (SCode.region (sq rfl rfl (q_field_ptr rfl rfl fd47_10) (sq rfl rfl (q_load_ptr rfl rfl rfl rfl ty45) (sq rfl rfl (q_len_vec rfl rfl sl45) (sm rfl rfl (SOps.nil (SCode.block ?_)))))))
  let S2 := fun (total_10 : Int) => fun (t13_11 : Int) => (⟨[(1, .c (.ptr 0 0)), (3, ci total_10), (11, .c (vSItem a0_c.Items)), (12, ci (((a0_c.Items).length : Int))), (13, ci t13_11)], [.box (bSCDR a0_c)]⟩ : St)
  refine SCode.sub (st' := (S2 0 0)) (sub_gen [0] rfl rfl (zall rfl rfl) ⟨bx rfl rfl rfl, trivial⟩) ?_
  refine (SCode.loop (σ := Nat × (Int × Int)) (S := fun s => (S2 s.2.1 s.2.2)) (g := fun s => cdr_validItems_l17 F a0_c s.1 s.2.1 s.2.2 = some r) (μ := fun s => s.1) (F, (0, 0)) h ?_)
  rintro ⟨n_17, ⟨total_10, t13_11⟩⟩ h
  try dsimp only at h
  show SCode _ _ _ (S2 total_10 t13_11) _
  cases n_17 with
  | zero => cases h
  | succ n_17 =>
   rw [cdr_validItems_l17] at h
   unfold cdr_validItems_b17 at h
   refine SCode.seq (SCode.region (sq rfl rfl (q_lss rfl rfl rfl) (SOps.nil (SCode.seq ?_))))
   rcases cond_out h with ⟨g18, h⟩ | ⟨g18, h⟩
   ·refine SCode.cond_t rfl g18 (SCode.skip (SCode.seq (SCode.block (SCode.seq ?_))))
    obtain ⟨g19, h⟩ := guard_out h
    refine SCode.region (sq rfl rfl (q_index_vec rfl rfl rfl sl45 rfl g19.1 g19.2) (sq rfl rfl (q_load_eptr_all rfl rfl rfl ty81) (se rfl rfl (e_alloc rfl rfl rfl z81) (se rfl rfl (e_store_box rfl rfl rfl rfl rfl ty81 rfl rfl rfl rfl) (SOps.nil (SCode.seq (SCode.seq ?_)))))))
    obtain ⟨c_20, g21, h⟩ := bind_out h
    try dsimp only at h
    refine SCode.region (sq rfl rfl (q_load_ptr_all rfl rfl rfl rfl rfl ty81) (sq rfl rfl (q_call (cdr_validItem_ok F (a0_c.Items.getD t13_11.toNat dSItem) c_20 g21) [] rfl fn71 ⟨⟨rfl, rfl⟩, trivial⟩ (.inl rfl)) (sq rfl rfl (q_not rfl rfl) (SOps.nil ?_))))
    rcases cond_out h with ⟨g22, h⟩ | ⟨g22, h⟩
    ·refine SCode.cond_t rfl g22 (SCode.seq (SCode.region (sa rfl rfl (SOps.nil (SCode.ret ?_)))))
     obtain rfl := Option.some.inj h
     exact ⟨⟨[(2, ci 1)], []⟩, _, sub_gen [] rfl rfl (zall rfl rfl) trivial, resA1 (v := .c (.int .i64 1)) rfl rfl, rfl⟩
    refine SCode.cond_f rfl g22 (SCode.skip (SCode.region (sm rfl rfl (sq rfl rfl (q_field_ptr rfl rfl fd81_6) (sq rfl rfl (q_load_ptr rfl rfl rfl rfl ty3) (sq rfl rfl (q_add rfl rfl rfl) (sa rfl rfl (SOps.nil (SCode.region (sq rfl rfl (q_add rfl rfl rfl) (sm rfl rfl (SOps.nil ?_))))))))))))
    exact ⟨(n_17, (IntKind.wrap .i64 (total_10 + (a0_c.Items.getD t13_11.toNat dSItem).Gross), IntKind.wrap .i64 (t13_11 + 1))), h, Nat.lt_succ_self n_17, sub_gen [0] rfl rfl (zall rfl rfl) ⟨bx rfl rfl rfl, trivial⟩⟩
   refine SCode.cond_f rfl g18 (SCode.exit ?_)
   exact ⟨total_10, h, sub_gen [0] rfl rfl (zall rfl rfl) ⟨bx rfl rfl rfl, trivial⟩⟩
 rintro total_2 h
 show SCode _ _ _ (S3 total_2) _
 try dsimp only at h
 unfold cdr_validItems_p4 at h
 refine SCode.seq (SCode.seq (SCode.region (sq rfl rfl (q_field_ptr rfl rfl fd47_11) (sq rfl rfl (q_load_ptr rfl rfl rfl rfl ty3) (sm rfl rfl (sq rfl rfl (q_neq rfl rfl rfl) (SOps.nil ?_)))))))
 rcases cond_out h with ⟨g3, h⟩ | ⟨g3, h⟩
 ·refine SCode.cond_t rfl g3 (SCode.seq (SCode.region (sa rfl rfl (SOps.nil (SCode.ret ?_)))))
  obtain rfl := Option.some.inj h
  exact ⟨⟨[(2, ci 1)], []⟩, _, sub_gen [] rfl rfl (zall rfl rfl) trivial, resA1 (v := .c (.int .i64 1)) rfl rfl, rfl⟩
 refine SCode.cond_f rfl g3 (SCode.skip (SCode.seq (SCode.region (sa rfl rfl (SOps.nil (SCode.ret ?_))))))
 obtain rfl := Option.some.inj h
 exact ⟨⟨[(2, ci 0)], []⟩, _, sub_gen [] rfl rfl (zall rfl rfl) trivial, resA1 (v := .c (.int .i64 0)) rfl rfl, rfl⟩
theorem cdr_validRef_ok (F : Nat) (a0_c : SCDR) (r : Int) (h : cdr_validRef F a0_c = some r) :
  SFun Try.prog 58 [] [.a (bSCDR a0_c)] (fun x _ => x = ci r) := by
 refine SFun.of (n := 18) Try.func58 rfl rfl rfl ?_
 unfold cdr_validRef at h
 show SCode _ _ _ ⟨[(0, .a (bSCDR a0_c))], []⟩ _
 refine SCode.seq (SCode.region (se rfl rfl (e_box rfl rfl rfl rfl rfl rfl) (sa rfl rfl (SOps.nil (SCode.seq (SCode.seq (SCode.region (sq rfl rfl (q_field_ptr rfl rfl fd47_12) (sq rfl rfl (q_load_ptr rfl rfl rfl rfl ty4) (sq rfl rfl (q_not rfl rfl) (SOps.nil ?_)))))))))))
 rcases cond_out h with ⟨g1, h⟩ | ⟨g1, h⟩
 ·refine SCode.cond_t rfl g1 (SCode.seq (SCode.seq (SCode.region (sq rfl rfl (q_field_ptr rfl rfl fd47_13) (sq rfl rfl (q_load_ptr rfl rfl rfl rfl ty9) (sq rfl rfl (q_neqS rfl rfl rfl) (SOps.nil ?_)))))))
  rcases cond_out h with ⟨g2, h⟩ | ⟨g2, h⟩
  ·refine SCode.cond_t rfl g2 (SCode.seq (SCode.region (sa rfl rfl (SOps.nil (SCode.ret ?_)))))
   obtain rfl := Option.some.inj h
   exact ⟨⟨[(2, ci 1)], []⟩, _, sub_gen [] rfl rfl (zall rfl rfl) trivial, resA1 (v := .c (.int .i64 1)) rfl rfl, rfl⟩
  refine SCode.cond_f rfl g2 (SCode.skip (SCode.seq (SCode.region (sa rfl rfl (SOps.nil (SCode.ret ?_))))))
  obtain rfl := Option.some.inj h
  exact ⟨⟨[(2, ci 0)], []⟩, _, sub_gen [] rfl rfl (zall rfl rfl) trivial, resA1 (v := .c (.int .i64 0)) rfl rfl, rfl⟩
 refine SCode.cond_f rfl g1 (SCode.skip (SCode.seq (SCode.seq ?_)))
 obtain ⟨c_3, g4, h⟩ := bind_out h
 try dsimp only at h
 refine SCode.region (sq rfl rfl (q_field_ptr rfl rfl fd47_13) (sq rfl rfl (q_load_ptr rfl rfl rfl rfl ty9) (sq rfl rfl (q_call (ident_Valid_ok F a0_c.Ref c_3 g4) [] rfl fn48 ⟨⟨_, rfl, .inl ⟨rfl, rfl⟩⟩, trivial⟩ (.inl rfl)) (sq rfl rfl (q_not rfl rfl) (SOps.nil ?_)))))
 rcases cond_out h with ⟨g5, h⟩ | ⟨g5, h⟩
 ·refine SCode.cond_t rfl g5 (SCode.seq (SCode.region (sa rfl rfl (SOps.nil (SCode.ret ?_)))))
  obtain rfl := Option.some.inj h
  exact ⟨⟨[(2, ci 4)], []⟩, _, sub_gen [] rfl rfl (zall rfl rfl) trivial, resA1 (v := .c (.int .i64 4)) rfl rfl, rfl⟩
 refine SCode.cond_f rfl g5 (SCode.skip (SCode.seq (SCode.seq (SCode.region (sq rfl rfl (q_field_ptr rfl rfl fd47_13) (sq rfl rfl (q_load_ptr rfl rfl rfl rfl ty9) (sq rfl rfl (q_field_ptr rfl rfl fd47_0) (sq rfl rfl (q_load_ptr rfl rfl rfl rfl ty9) (sq rfl rfl (q_eqlS rfl rfl rfl) (SOps.nil ?_))))))))))
 rcases cond_out h with ⟨g6, h⟩ | ⟨g6, h⟩
 ·refine SCode.cond_t rfl g6 (SCode.seq (SCode.region (sa rfl rfl (SOps.nil (SCode.ret ?_)))))
  obtain rfl := Option.some.inj h
  exact ⟨⟨[(2, ci 1)], []⟩, _, sub_gen [] rfl rfl (zall rfl rfl) trivial, resA1 (v := .c (.int .i64 1)) rfl rfl, rfl⟩
 refine SCode.cond_f rfl g6 (SCode.skip (SCode.seq (SCode.region (sa rfl rfl (SOps.nil (SCode.ret ?_))))))
 obtain rfl := Option.some.inj h
 exact ⟨⟨[(2, ci 0)], []⟩, _, sub_gen [] rfl rfl (zall rfl rfl) trivial, resA1 (v := .c (.int .i64 0)) rfl rfl, rfl⟩
theorem cdr_Valid_ok (F : Nat) (a0_c : SCDR) (r : Int) (h : cdr_Valid F a0_c = some r) :
  SFun Try.prog 45 [] [.a (bSCDR a0_c)] (fun x _ => x = ci r) := by
 refine SFun.of (n := 64) Try.func45 rfl rfl rfl ?_
 unfold cdr_Valid at h
 show SCode _ _ _ ⟨[(0, .a (bSCDR a0_c))], []⟩ _
 refine SCode.seq (SCode.region (se rfl rfl (e_box rfl rfl rfl rfl rfl rfl) (sa rfl rfl (SOps.nil (SCode.seq (SCode.seq ?_))))))
 obtain ⟨c_1, g2, h⟩ := bind_out h
 try dsimp only at h
 refine SCode.region (sq rfl rfl (q_field_ptr rfl rfl fd47_0) (sq rfl rfl (q_load_ptr rfl rfl rfl rfl ty9) (sq rfl rfl (q_field_ptr rfl rfl fd47_1) (sq rfl rfl (q_load_ptr rfl rfl rfl rfl ty9) (sq rfl rfl (q_field_ptr rfl rfl fd47_2) (sq rfl rfl (q_load_ptr rfl rfl rfl rfl ty9) (sq rfl rfl (q_field_ptr rfl rfl fd47_3) (sq rfl rfl (q_load_ptr rfl rfl rfl rfl ty9) (sq rfl rfl (q_field_ptr rfl rfl fd47_8) (sq rfl rfl (q_load_ptr rfl rfl rfl rfl ty9) (sq rfl rfl (q_bsliceL (c := cStr) (d0 := ByteArray.empty) [a0_c.ID, a0_c.Operator, a0_c.Provider, a0_c.Session, a0_c.Tariff] rfl rfl sl57 z9 rfl rfl rfl rfl rfl rfl rfl) (sq rfl rfl (q_call (cdr_names_ok F ([a0_c.ID, a0_c.Operator, a0_c.Provider, a0_c.Session, a0_c.Tariff]) c_1 g2) [] rfl fn54 ⟨⟨_, rfl, .inl ⟨rfl, rfl⟩⟩, trivial⟩ (.inl rfl)) (sa rfl rfl (SOps.nil (SCode.seq ?_)))))))))))))))
 refine SCode.region (sm rfl rfl (sq rfl rfl (q_neq rfl rfl rfl) (SOps.nil ?_)))
 rcases cond_out h with ⟨g3, h⟩ | ⟨g3, h⟩
 ·refine SCode.cond_t rfl g3 (SCode.seq (SCode.region (sm rfl rfl (sa rfl rfl (SOps.sub (st' := ⟨[(2, ci c_1)], []⟩) (sub_gen [] rfl rfl (zall rfl rfl) trivial) (SOps.nil (SCode.ret ?_)))))))
  obtain rfl := Option.some.inj h
  exact ⟨⟨[(2, ci c_1)], []⟩, _, sub_gen [] rfl rfl (zall rfl rfl) trivial, resA1 (v := .c (.int .i64 c_1)) rfl rfl, rfl⟩
 refine SCode.cond_f rfl g3 (SCode.skip (SCode.seq (SCode.seq (SCode.region (sq rfl rfl (q_field_ptr rfl rfl fd47_1) (sq rfl rfl (q_load_ptr rfl rfl rfl rfl ty9) (sq rfl rfl (q_field_ptr rfl rfl fd47_2) (sq rfl rfl (q_load_ptr rfl rfl rfl rfl ty9) (sq rfl rfl (q_eqlS rfl rfl rfl) (SOps.sub (st' := ⟨[(1, .c (.ptr 0 0)), (24, .c (.bool (sEq a0_c.Operator a0_c.Provider)))], [.box (bSCDR a0_c)]⟩) (sub_gen [0] rfl rfl (zall rfl rfl) ⟨bx rfl rfl rfl, trivial⟩) (SOps.nil ?_)))))))))))
 rcases cond_out h with ⟨g4, h⟩ | ⟨g4, h⟩
 ·refine SCode.cond_t rfl g4 (SCode.seq (SCode.region (sa rfl rfl (SOps.nil (SCode.ret ?_)))))
  obtain rfl := Option.some.inj h
  exact ⟨⟨[(2, ci 1)], []⟩, _, sub_gen [] rfl rfl (zall rfl rfl) trivial, resA1 (v := .c (.int .i64 1)) rfl rfl, rfl⟩
 refine SCode.cond_f rfl g4 (SCode.skip (SCode.seq (SCode.seq ?_)))
 obtain ⟨c_5, g6, h⟩ := bind_out h
 try dsimp only at h
 rcases cond_out h with ⟨g7, h⟩ | ⟨g7, h⟩
 ·refine SCode.region (sq rfl rfl (q_field_ptr rfl rfl fd47_4) (sq rfl rfl (q_load_ptr rfl rfl rfl rfl ty3) (sq rfl rfl (q_bsliceL (c := (cInt .i64)) (d0 := 0) [a0_c.Version] rfl rfl sl70 z3 rfl rfl rfl rfl rfl rfl rfl) (sq rfl rfl (q_call (cdr_within_ok F 1 2147483647 ([a0_c.Version]) c_5 g6) [] rfl fn55 ⟨⟨_, rfl, .inl ⟨rfl, rfl⟩⟩, ⟨_, rfl, .inl ⟨rfl, rfl⟩⟩, ⟨_, rfl, .inl ⟨rfl, rfl⟩⟩, trivial⟩ (.inl rfl)) (sq rfl rfl (q_not rfl rfl) (sm rfl rfl (SOps.skip rfl 5 30 false rfl rfl (.inl (gT g7)) rfl (SOps.skip rfl 5 30 false rfl rfl (.inl (gT g7)) rfl (SOps.skip rfl 5 30 false rfl rfl (.inl (gT g7)) rfl (SOps.skip rfl 5 30 false rfl rfl (.inl (gT g7)) rfl (SOps.skip rfl 5 30 false rfl rfl (.inl (gT g7)) rfl (SOps.skip rfl 5 30 false rfl rfl (.inl (gT g7)) rfl (SOps.skip rfl 5 30 false rfl rfl (.inl (gT g7)) rfl (sq rfl rfl (q_pick_t rfl rfl g7 rfl) (sm rfl rfl ?_)))))))))))))))
  refine SOps.skip rfl 14 39 false rfl rfl (.inl rfl) rfl (SOps.skip rfl 14 39 false rfl rfl (.inl rfl) rfl (SOps.skip rfl 14 39 false rfl rfl (.inl rfl) rfl (SOps.skip rfl 14 39 false rfl rfl (.inl rfl) rfl (SOps.skip rfl 14 39 false rfl rfl (.inl rfl) rfl (sq rfl rfl (q_pick_t rfl rfl rfl rfl) (sm rfl rfl (SOps.skip rfl 21 46 false rfl rfl (.inl rfl) rfl (SOps.skip rfl 21 46 false rfl rfl (.inl rfl) rfl (SOps.skip rfl 21 46 false rfl rfl (.inl rfl) rfl (SOps.skip rfl 21 46 false rfl rfl (.inl rfl) rfl (SOps.skip rfl 21 46 false rfl rfl (.inl rfl) rfl (sq rfl rfl (q_pick_t rfl rfl rfl rfl) (SOps.sub (st' := ⟨[(1, .c (.ptr 0 0)), (52, .c (.bool true))], [.box (bSCDR a0_c)]⟩) (sub_gen [0] rfl rfl (zall rfl rfl) ⟨bx rfl rfl rfl, trivial⟩) (SOps.nil (SCode.cond_t rfl rfl ?_)))))))))))))))
  refine SCode.seq (SCode.region (sa rfl rfl (SOps.nil (SCode.ret ?_))))
  obtain rfl := Option.some.inj h
  exact ⟨⟨[(2, ci 2)], []⟩, _, sub_gen [] rfl rfl (zall rfl rfl) trivial, resA1 (v := .c (.int .i64 2)) rfl rfl, rfl⟩
 obtain ⟨c_8, g9, h⟩ := bind_out h
 try dsimp only at h
 rcases cond_out h with ⟨g10, h⟩ | ⟨g10, h⟩
 ·refine SCode.region (sq rfl rfl (q_field_ptr rfl rfl fd47_4) (sq rfl rfl (q_load_ptr rfl rfl rfl rfl ty3) (sq rfl rfl (q_bsliceL (c := (cInt .i64)) (d0 := 0) [a0_c.Version] rfl rfl sl70 z3 rfl rfl rfl rfl rfl rfl rfl) (sq rfl rfl (q_call (cdr_within_ok F 1 2147483647 ([a0_c.Version]) c_5 g6) [] rfl fn55 ⟨⟨_, rfl, .inl ⟨rfl, rfl⟩⟩, ⟨_, rfl, .inl ⟨rfl, rfl⟩⟩, ⟨_, rfl, .inl ⟨rfl, rfl⟩⟩, trivial⟩ (.inl rfl)) (sq rfl rfl (q_not rfl rfl) (sm rfl rfl (SOps.q rfl (.guard 5 30 false rfl rfl (gF g7)) rfl (q_field_ptr rfl rfl fd47_5) (SOps.q rfl (.guard 5 30 false rfl rfl (gF g7)) rfl (q_load_ptr rfl rfl rfl rfl ty3) (SOps.q rfl (.guard 5 30 false rfl rfl (gF g7)) rfl (q_field_ptr rfl rfl fd47_6) (SOps.q rfl (.guard 5 30 false rfl rfl (gF g7)) rfl (q_load_ptr rfl rfl rfl rfl ty3) (SOps.q rfl (.guard 5 30 false rfl rfl (gF g7)) rfl (q_bsliceL (c := (cInt .i64)) (d0 := 0) [a0_c.Start, a0_c.End] rfl rfl sl70 z3 rfl rfl rfl rfl rfl rfl rfl) (SOps.q rfl (.guard 5 30 false rfl rfl (gF g7)) rfl (q_call (cdr_within_ok F 0 268435456 ([a0_c.Start, a0_c.End]) c_8 g9) [] rfl fn55 ⟨⟨_, rfl, .inl ⟨rfl, rfl⟩⟩, ⟨_, rfl, .inl ⟨rfl, rfl⟩⟩, ⟨_, rfl, .inl ⟨rfl, rfl⟩⟩, trivial⟩ (.inl rfl)) (SOps.q rfl (.guard 5 30 false rfl rfl (gF g7)) rfl (q_not rfl rfl) (sq rfl rfl (q_pick_f rfl rfl g7 rfl) (sm rfl rfl ?_)))))))))))))))
  refine SOps.skip rfl 14 39 false rfl rfl (.inl (gT g10)) rfl (SOps.skip rfl 14 39 false rfl rfl (.inl (gT g10)) rfl (SOps.skip rfl 14 39 false rfl rfl (.inl (gT g10)) rfl (SOps.skip rfl 14 39 false rfl rfl (.inl (gT g10)) rfl (SOps.skip rfl 14 39 false rfl rfl (.inl (gT g10)) rfl (sq rfl rfl (q_pick_t rfl rfl g10 rfl) (sm rfl rfl (SOps.skip rfl 21 46 false rfl rfl (.inl rfl) rfl (SOps.skip rfl 21 46 false rfl rfl (.inl rfl) rfl (SOps.skip rfl 21 46 false rfl rfl (.inl rfl) rfl (SOps.skip rfl 21 46 false rfl rfl (.inl rfl) rfl (SOps.skip rfl 21 46 false rfl rfl (.inl rfl) rfl (sq rfl rfl (q_pick_t rfl rfl rfl rfl) (SOps.sub (st' := ⟨[(1, .c (.ptr 0 0)), (52, .c (.bool true))], [.box (bSCDR a0_c)]⟩) (sub_gen [0] rfl rfl (zall rfl rfl) ⟨bx rfl rfl rfl, trivial⟩) (SOps.nil (SCode.cond_t rfl rfl ?_)))))))))))))))
  refine SCode.seq (SCode.region (sa rfl rfl (SOps.nil (SCode.ret ?_))))
  obtain rfl := Option.some.inj h
  exact ⟨⟨[(2, ci 2)], []⟩, _, sub_gen [] rfl rfl (zall rfl rfl) trivial, resA1 (v := .c (.int .i64 2)) rfl rfl, rfl⟩
 rcases cond_out h with ⟨g11, h⟩ | ⟨g11, h⟩
 ·refine SCode.region (sq rfl rfl (q_field_ptr rfl rfl fd47_4) (sq rfl rfl (q_load_ptr rfl rfl rfl rfl ty3) (sq rfl rfl (q_bsliceL (c := (cInt .i64)) (d0 := 0) [a0_c.Version] rfl rfl sl70 z3 rfl rfl rfl rfl rfl rfl rfl) (sq rfl rfl (q_call (cdr_within_ok F 1 2147483647 ([a0_c.Version]) c_5 g6) [] rfl fn55 ⟨⟨_, rfl, .inl ⟨rfl, rfl⟩⟩, ⟨_, rfl, .inl ⟨rfl, rfl⟩⟩, ⟨_, rfl, .inl ⟨rfl, rfl⟩⟩, trivial⟩ (.inl rfl)) (sq rfl rfl (q_not rfl rfl) (sm rfl rfl (SOps.q rfl (.guard 5 30 false rfl rfl (gF g7)) rfl (q_field_ptr rfl rfl fd47_5) (SOps.q rfl (.guard 5 30 false rfl rfl (gF g7)) rfl (q_load_ptr rfl rfl rfl rfl ty3) (SOps.q rfl (.guard 5 30 false rfl rfl (gF g7)) rfl (q_field_ptr rfl rfl fd47_6) (SOps.q rfl (.guard 5 30 false rfl rfl (gF g7)) rfl (q_load_ptr rfl rfl rfl rfl ty3) (SOps.q rfl (.guard 5 30 false rfl rfl (gF g7)) rfl (q_bsliceL (c := (cInt .i64)) (d0 := 0) [a0_c.Start, a0_c.End] rfl rfl sl70 z3 rfl rfl rfl rfl rfl rfl rfl) (SOps.q rfl (.guard 5 30 false rfl rfl (gF g7)) rfl (q_call (cdr_within_ok F 0 268435456 ([a0_c.Start, a0_c.End]) c_8 g9) [] rfl fn55 ⟨⟨_, rfl, .inl ⟨rfl, rfl⟩⟩, ⟨_, rfl, .inl ⟨rfl, rfl⟩⟩, ⟨_, rfl, .inl ⟨rfl, rfl⟩⟩, trivial⟩ (.inl rfl)) (SOps.q rfl (.guard 5 30 false rfl rfl (gF g7)) rfl (q_not rfl rfl) (sq rfl rfl (q_pick_f rfl rfl g7 rfl) (sm rfl rfl ?_)))))))))))))))
  refine SOps.q rfl (.guard 14 39 false rfl rfl (gF g10)) rfl (q_field_ptr rfl rfl fd47_5) (SOps.q rfl (.guard 14 39 false rfl rfl (gF g10)) rfl (q_load_ptr rfl rfl rfl rfl ty3) (SOps.q rfl (.guard 14 39 false rfl rfl (gF g10)) rfl (q_field_ptr rfl rfl fd47_6) (SOps.q rfl (.guard 14 39 false rfl rfl (gF g10)) rfl (q_load_ptr rfl rfl rfl rfl ty3) (SOps.q rfl (.guard 14 39 false rfl rfl (gF g10)) rfl (q_gtr rfl rfl rfl) (sq rfl rfl (q_pick_f rfl rfl g10 rfl) (sm rfl rfl (SOps.skip rfl 21 46 false rfl rfl (.inl (gT g11)) rfl (SOps.skip rfl 21 46 false rfl rfl (.inl (gT g11)) rfl (SOps.skip rfl 21 46 false rfl rfl (.inl (gT g11)) rfl (SOps.skip rfl 21 46 false rfl rfl (.inl (gT g11)) rfl (SOps.skip rfl 21 46 false rfl rfl (.inl (gT g11)) rfl (sq rfl rfl (q_pick_t rfl rfl g11 rfl) (SOps.sub (st' := ⟨[(1, .c (.ptr 0 0)), (52, .c (.bool true))], [.box (bSCDR a0_c)]⟩) (sub_gen [0] rfl rfl (zall rfl rfl) ⟨bx rfl rfl rfl, trivial⟩) (SOps.nil (SCode.cond_t rfl rfl ?_)))))))))))))))
  refine SCode.seq (SCode.region (sa rfl rfl (SOps.nil (SCode.ret ?_))))
  obtain rfl := Option.some.inj h
  exact ⟨⟨[(2, ci 2)], []⟩, _, sub_gen [] rfl rfl (zall rfl rfl) trivial, resA1 (v := .c (.int .i64 2)) rfl rfl, rfl⟩
 obtain ⟨c_12, g13, h⟩ := bind_out h
 try dsimp only at h
 refine SCode.region (sq rfl rfl (q_field_ptr rfl rfl fd47_4) (sq rfl rfl (q_load_ptr rfl rfl rfl rfl ty3) (sq rfl rfl (q_bsliceL (c := (cInt .i64)) (d0 := 0) [a0_c.Version] rfl rfl sl70 z3 rfl rfl rfl rfl rfl rfl rfl) (sq rfl rfl (q_call (cdr_within_ok F 1 2147483647 ([a0_c.Version]) c_5 g6) [] rfl fn55 ⟨⟨_, rfl, .inl ⟨rfl, rfl⟩⟩, ⟨_, rfl, .inl ⟨rfl, rfl⟩⟩, ⟨_, rfl, .inl ⟨rfl, rfl⟩⟩, trivial⟩ (.inl rfl)) (sq rfl rfl (q_not rfl rfl) (sm rfl rfl (SOps.q rfl (.guard 5 30 false rfl rfl (gF g7)) rfl (q_field_ptr rfl rfl fd47_5) (SOps.q rfl (.guard 5 30 false rfl rfl (gF g7)) rfl (q_load_ptr rfl rfl rfl rfl ty3) (SOps.q rfl (.guard 5 30 false rfl rfl (gF g7)) rfl (q_field_ptr rfl rfl fd47_6) (SOps.q rfl (.guard 5 30 false rfl rfl (gF g7)) rfl (q_load_ptr rfl rfl rfl rfl ty3) (SOps.q rfl (.guard 5 30 false rfl rfl (gF g7)) rfl (q_bsliceL (c := (cInt .i64)) (d0 := 0) [a0_c.Start, a0_c.End] rfl rfl sl70 z3 rfl rfl rfl rfl rfl rfl rfl) (SOps.q rfl (.guard 5 30 false rfl rfl (gF g7)) rfl (q_call (cdr_within_ok F 0 268435456 ([a0_c.Start, a0_c.End]) c_8 g9) [] rfl fn55 ⟨⟨_, rfl, .inl ⟨rfl, rfl⟩⟩, ⟨_, rfl, .inl ⟨rfl, rfl⟩⟩, ⟨_, rfl, .inl ⟨rfl, rfl⟩⟩, trivial⟩ (.inl rfl)) (SOps.q rfl (.guard 5 30 false rfl rfl (gF g7)) rfl (q_not rfl rfl) (sq rfl rfl (q_pick_f rfl rfl g7 rfl) (sm rfl rfl ?_)))))))))))))))
 refine SOps.q rfl (.guard 14 39 false rfl rfl (gF g10)) rfl (q_field_ptr rfl rfl fd47_5) (SOps.q rfl (.guard 14 39 false rfl rfl (gF g10)) rfl (q_load_ptr rfl rfl rfl rfl ty3) (SOps.q rfl (.guard 14 39 false rfl rfl (gF g10)) rfl (q_field_ptr rfl rfl fd47_6) (SOps.q rfl (.guard 14 39 false rfl rfl (gF g10)) rfl (q_load_ptr rfl rfl rfl rfl ty3) (SOps.q rfl (.guard 14 39 false rfl rfl (gF g10)) rfl (q_gtr rfl rfl rfl) (sq rfl rfl (q_pick_f rfl rfl g10 rfl) (sm rfl rfl (SOps.q rfl (.guard 21 46 false rfl rfl (gF g11)) rfl (q_field_ptr rfl rfl fd47_7) (SOps.q rfl (.guard 21 46 false rfl rfl (gF g11)) rfl (q_load_ptr rfl rfl rfl rfl ty3) (SOps.q rfl (.guard 21 46 false rfl rfl (gF g11)) rfl (q_bsliceL (c := (cInt .i64)) (d0 := 0) [a0_c.Energy] rfl rfl sl70 z3 rfl rfl rfl rfl rfl rfl rfl) (SOps.q rfl (.guard 21 46 false rfl rfl (gF g11)) rfl (q_call (cdr_within_ok F 0 36028797018963968 ([a0_c.Energy]) c_12 g13) [] rfl fn55 ⟨⟨_, rfl, .inl ⟨rfl, rfl⟩⟩, ⟨_, rfl, .inl ⟨rfl, rfl⟩⟩, ⟨_, rfl, .inl ⟨rfl, rfl⟩⟩, trivial⟩ (.inl rfl)) (SOps.q rfl (.guard 21 46 false rfl rfl (gF g11)) rfl (q_not rfl rfl) (sq rfl rfl (q_pick_f rfl rfl g11 rfl) (SOps.sub (st' := ⟨[(1, .c (.ptr 0 0)), (52, .c (.bool ((!c_12))))], [.box (bSCDR a0_c)]⟩) (sub_gen [0] rfl rfl (zall rfl rfl) ⟨bx rfl rfl rfl, trivial⟩) (SOps.nil ?_))))))))))))))
 rcases cond_out h with ⟨g14, h⟩ | ⟨g14, h⟩
 ·refine SCode.cond_t rfl g14 (SCode.seq (SCode.region (sa rfl rfl (SOps.nil (SCode.ret ?_)))))
  obtain rfl := Option.some.inj h
  exact ⟨⟨[(2, ci 2)], []⟩, _, sub_gen [] rfl rfl (zall rfl rfl) trivial, resA1 (v := .c (.int .i64 2)) rfl rfl, rfl⟩
 refine SCode.cond_f rfl g14 (SCode.skip (SCode.seq (SCode.seq ?_)))
 obtain ⟨c_15, g16, h⟩ := bind_out h
 try dsimp only at h
 refine SCode.region (sq rfl rfl (q_field_ptr rfl rfl fd47_9) (sq rfl rfl (q_load_ptr rfl rfl rfl rfl ty9) (sq rfl rfl (q_call (cdr_isCurrency_ok F a0_c.Currency c_15 g16) [] rfl fn56 ⟨⟨_, rfl, .inl ⟨rfl, rfl⟩⟩, trivial⟩ (.inl rfl)) (sq rfl rfl (q_not rfl rfl) (SOps.nil ?_)))))
 rcases cond_out h with ⟨g17, h⟩ | ⟨g17, h⟩
 ·refine SCode.cond_t rfl g17 (SCode.seq (SCode.region (sa rfl rfl (SOps.nil (SCode.ret ?_)))))
  obtain rfl := Option.some.inj h
  exact ⟨⟨[(2, ci 21)], []⟩, _, sub_gen [] rfl rfl (zall rfl rfl) trivial, resA1 (v := .c (.int .i64 21)) rfl rfl, rfl⟩
 refine SCode.cond_f rfl g17 (SCode.skip (SCode.seq (SCode.seq ?_)))
 obtain ⟨c_18, g19, h⟩ := bind_out h
 try dsimp only at h
 refine SCode.region (sq rfl rfl (q_load_ptr_all rfl rfl rfl rfl rfl ty47) (sq rfl rfl (q_call (cdr_validItems_ok F a0_c c_18 g19) [] rfl fn57 ⟨⟨rfl, rfl⟩, trivial⟩ (.inl rfl)) (sa rfl rfl (SOps.nil (SCode.seq (SCode.region (sm rfl rfl (sq rfl rfl (q_neq rfl rfl rfl) (SOps.nil ?_)))))))))
 rcases cond_out h with ⟨g20, h⟩ | ⟨g20, h⟩
 ·refine SCode.cond_t rfl g20 (SCode.seq (SCode.region (sm rfl rfl (sa rfl rfl (SOps.nil (SCode.ret ?_))))))
  obtain rfl := Option.some.inj h
  exact ⟨⟨[(2, ci c_18)], []⟩, _, sub_gen [] rfl rfl (zall rfl rfl) trivial, resA1 (v := .c (.int .i64 c_18)) rfl rfl, rfl⟩
 refine SCode.cond_f rfl g20 (SCode.skip (SCode.seq ?_))
 obtain ⟨c_21, g22, h⟩ := bind_out h
 try dsimp only at h
 refine SCode.region (sq rfl rfl (q_load_ptr_all rfl rfl rfl rfl rfl ty47) (sq rfl rfl (q_call (cdr_validRef_ok F a0_c c_21 g22) [] rfl fn58 ⟨⟨rfl, rfl⟩, trivial⟩ (.inl rfl)) (sa rfl rfl (SOps.nil (SCode.ret ?_)))))
 obtain rfl := Option.some.inj h
 exact ⟨⟨[(2, ci c_21)], []⟩, _, sub_gen [] rfl rfl (zall rfl rfl) trivial, resA1 (v := .c (.int .i64 c_21)) rfl rfl, rfl⟩
theorem dispute_Valid_ok (F : Nat) (a0_d : SDispute) (r : Int) (h : dispute_Valid F a0_d = some r) :
  SFun Try.prog 46 [] [.a (bSDispute a0_d)] (fun x _ => x = ci r) := by
 refine SFun.of (n := 58) Try.func46 rfl rfl rfl ?_
 unfold dispute_Valid at h
 show SCode _ _ _ ⟨[(0, .a (bSDispute a0_d))], []⟩ _
 refine SCode.seq (SCode.region (se rfl rfl (e_box rfl rfl rfl rfl rfl rfl) (sa rfl rfl (SOps.nil (SCode.seq (SCode.seq ?_))))))
 obtain ⟨c_1, g2, h⟩ := bind_out h
 try dsimp only at h
 rcases cond_out h with ⟨g3, h⟩ | ⟨g3, h⟩
 ·refine SCode.region (sq rfl rfl (q_field_ptr rfl rfl fd72_0) (sq rfl rfl (q_load_ptr rfl rfl rfl rfl ty9) (sq rfl rfl (q_call (ident_Valid_ok F a0_d.CDR c_1 g2) [] rfl fn48 ⟨⟨_, rfl, .inl ⟨rfl, rfl⟩⟩, trivial⟩ (.inl rfl)) (sq rfl rfl (q_not rfl rfl) (sm rfl rfl (SOps.skip rfl 4 7 false rfl rfl (.inl (gT g3)) rfl (SOps.skip rfl 4 7 false rfl rfl (.inl (gT g3)) rfl (SOps.skip rfl 4 7 false rfl rfl (.inl (gT g3)) rfl (SOps.skip rfl 4 7 false rfl rfl (.inl (gT g3)) rfl (sq rfl rfl (q_pick_t rfl rfl g3 rfl) (SOps.nil (SCode.cond_t rfl rfl (SCode.seq (SCode.region (sa rfl rfl ?_)))))))))))))))
  refine SOps.nil (SCode.ret ?_)
  obtain rfl := Option.some.inj h
  exact ⟨⟨[(2, ci 4)], []⟩, _, sub_gen [] rfl rfl (zall rfl rfl) trivial, resA1 (v := .c (.int .i64 4)) rfl rfl, rfl⟩
 obtain ⟨c_4, g5, h⟩ := bind_out h
 try dsimp only at h
 refine SCode.region (sq rfl rfl (q_field_ptr rfl rfl fd72_0) (sq rfl rfl (q_load_ptr rfl rfl rfl rfl ty9) (sq rfl rfl (q_call (ident_Valid_ok F a0_d.CDR c_1 g2) [] rfl fn48 ⟨⟨_, rfl, .inl ⟨rfl, rfl⟩⟩, trivial⟩ (.inl rfl)) (sq rfl rfl (q_not rfl rfl) (sm rfl rfl (SOps.q rfl (.guard 4 7 false rfl rfl (gF g3)) rfl (q_field_ptr rfl rfl fd72_1) (SOps.q rfl (.guard 4 7 false rfl rfl (gF g3)) rfl (q_load_ptr rfl rfl rfl rfl ty9) (SOps.q rfl (.guard 4 7 false rfl rfl (gF g3)) rfl (q_call (ident_Valid_ok F a0_d.By c_4 g5) [] rfl fn48 ⟨⟨_, rfl, .inl ⟨rfl, rfl⟩⟩, trivial⟩ (.inl rfl)) (SOps.q rfl (.guard 4 7 false rfl rfl (gF g3)) rfl (q_not rfl rfl) (sq rfl rfl (q_pick_f rfl rfl g3 rfl) (SOps.nil ?_)))))))))))
 rcases cond_out h with ⟨g6, h⟩ | ⟨g6, h⟩
 ·refine SCode.cond_t rfl g6 (SCode.seq (SCode.region (sa rfl rfl (SOps.nil (SCode.ret ?_)))))
  obtain rfl := Option.some.inj h
  exact ⟨⟨[(2, ci 4)], []⟩, _, sub_gen [] rfl rfl (zall rfl rfl) trivial, resA1 (v := .c (.int .i64 4)) rfl rfl, rfl⟩
 refine SCode.cond_f rfl g6 (SCode.skip (SCode.seq (SCode.seq ?_)))
 rcases cond_out h with ⟨g7, h⟩ | ⟨g7, h⟩
 ·refine SCode.region (sq rfl rfl (q_field_ptr rfl rfl fd72_2) (sq rfl rfl (q_load_ptr rfl rfl rfl rfl ty3) (sq rfl rfl (q_lss rfl rfl rfl) (sm rfl rfl (SOps.skip rfl 3 16 false rfl rfl (.inl (gT g7)) rfl (SOps.skip rfl 3 16 false rfl rfl (.inl (gT g7)) rfl (SOps.skip rfl 3 16 false rfl rfl (.inl (gT g7)) rfl (sq rfl rfl (q_pick_t rfl rfl g7 rfl) (sm rfl rfl (SOps.skip rfl 8 21 false rfl rfl (.inl rfl) rfl (SOps.skip rfl 8 21 false rfl rfl (.inl rfl) rfl (SOps.skip rfl 8 21 false rfl rfl (.inl rfl) rfl (sq rfl rfl (q_pick_t rfl rfl rfl rfl) (sm rfl rfl (SOps.skip rfl 13 26 false rfl rfl (.inl rfl) rfl ?_)))))))))))))))
  refine SOps.skip rfl 13 26 false rfl rfl (.inl rfl) rfl (SOps.skip rfl 13 26 false rfl rfl (.inl rfl) rfl (sq rfl rfl (q_pick_t rfl rfl rfl rfl) (SOps.sub (st' := ⟨[(1, .c (.ptr 0 0)), (30, .c (.bool true))], [.box (bSDispute a0_d)]⟩) (sub_gen [0] rfl rfl (zall rfl rfl) ⟨bx rfl rfl rfl, trivial⟩) (SOps.nil (SCode.cond_t rfl rfl (SCode.seq (SCode.region (sa rfl rfl (SOps.nil (SCode.ret ?_))))))))))
  obtain rfl := Option.some.inj h
  exact ⟨⟨[(2, ci 2)], []⟩, _, sub_gen [] rfl rfl (zall rfl rfl) trivial, resA1 (v := .c (.int .i64 2)) rfl rfl, rfl⟩
 rcases cond_out h with ⟨g8, h⟩ | ⟨g8, h⟩
 ·refine SCode.region (sq rfl rfl (q_field_ptr rfl rfl fd72_2) (sq rfl rfl (q_load_ptr rfl rfl rfl rfl ty3) (sq rfl rfl (q_lss rfl rfl rfl) (sm rfl rfl (SOps.q rfl (.guard 3 16 false rfl rfl (gF g7)) rfl (q_field_ptr rfl rfl fd72_2) (SOps.q rfl (.guard 3 16 false rfl rfl (gF g7)) rfl (q_load_ptr rfl rfl rfl rfl ty3) (SOps.q rfl (.guard 3 16 false rfl rfl (gF g7)) rfl (q_gtr rfl rfl rfl) (sq rfl rfl (q_pick_f rfl rfl g7 rfl) (sm rfl rfl (SOps.skip rfl 8 21 false rfl rfl (.inl (gT g8)) rfl (SOps.skip rfl 8 21 false rfl rfl (.inl (gT g8)) rfl (SOps.skip rfl 8 21 false rfl rfl (.inl (gT g8)) rfl (sq rfl rfl (q_pick_t rfl rfl g8 rfl) (sm rfl rfl (SOps.skip rfl 13 26 false rfl rfl (.inl rfl) rfl ?_)))))))))))))))
  refine SOps.skip rfl 13 26 false rfl rfl (.inl rfl) rfl (SOps.skip rfl 13 26 false rfl rfl (.inl rfl) rfl (sq rfl rfl (q_pick_t rfl rfl rfl rfl) (SOps.sub (st' := ⟨[(1, .c (.ptr 0 0)), (30, .c (.bool true))], [.box (bSDispute a0_d)]⟩) (sub_gen [0] rfl rfl (zall rfl rfl) ⟨bx rfl rfl rfl, trivial⟩) (SOps.nil (SCode.cond_t rfl rfl (SCode.seq (SCode.region (sa rfl rfl (SOps.nil (SCode.ret ?_))))))))))
  obtain rfl := Option.some.inj h
  exact ⟨⟨[(2, ci 2)], []⟩, _, sub_gen [] rfl rfl (zall rfl rfl) trivial, resA1 (v := .c (.int .i64 2)) rfl rfl, rfl⟩
 rcases cond_out h with ⟨g9, h⟩ | ⟨g9, h⟩
 ·refine SCode.region (sq rfl rfl (q_field_ptr rfl rfl fd72_2) (sq rfl rfl (q_load_ptr rfl rfl rfl rfl ty3) (sq rfl rfl (q_lss rfl rfl rfl) (sm rfl rfl (SOps.q rfl (.guard 3 16 false rfl rfl (gF g7)) rfl (q_field_ptr rfl rfl fd72_2) (SOps.q rfl (.guard 3 16 false rfl rfl (gF g7)) rfl (q_load_ptr rfl rfl rfl rfl ty3) (SOps.q rfl (.guard 3 16 false rfl rfl (gF g7)) rfl (q_gtr rfl rfl rfl) (sq rfl rfl (q_pick_f rfl rfl g7 rfl) (sm rfl rfl (SOps.q rfl (.guard 8 21 false rfl rfl (gF g8)) rfl (q_field_ptr rfl rfl fd72_3) (SOps.q rfl (.guard 8 21 false rfl rfl (gF g8)) rfl (q_load_ptr rfl rfl rfl rfl ty3) (SOps.q rfl (.guard 8 21 false rfl rfl (gF g8)) rfl (q_lss rfl rfl rfl) (sq rfl rfl (q_pick_f rfl rfl g8 rfl) (sm rfl rfl (SOps.skip rfl 13 26 false rfl rfl (.inl (gT g9)) rfl ?_)))))))))))))))
  refine SOps.skip rfl 13 26 false rfl rfl (.inl (gT g9)) rfl (SOps.skip rfl 13 26 false rfl rfl (.inl (gT g9)) rfl (sq rfl rfl (q_pick_t rfl rfl g9 rfl) (SOps.sub (st' := ⟨[(1, .c (.ptr 0 0)), (30, .c (.bool true))], [.box (bSDispute a0_d)]⟩) (sub_gen [0] rfl rfl (zall rfl rfl) ⟨bx rfl rfl rfl, trivial⟩) (SOps.nil (SCode.cond_t rfl rfl (SCode.seq (SCode.region (sa rfl rfl (SOps.nil (SCode.ret ?_))))))))))
  obtain rfl := Option.some.inj h
  exact ⟨⟨[(2, ci 2)], []⟩, _, sub_gen [] rfl rfl (zall rfl rfl) trivial, resA1 (v := .c (.int .i64 2)) rfl rfl, rfl⟩
 refine SCode.region (sq rfl rfl (q_field_ptr rfl rfl fd72_2) (sq rfl rfl (q_load_ptr rfl rfl rfl rfl ty3) (sq rfl rfl (q_lss rfl rfl rfl) (sm rfl rfl (SOps.q rfl (.guard 3 16 false rfl rfl (gF g7)) rfl (q_field_ptr rfl rfl fd72_2) (SOps.q rfl (.guard 3 16 false rfl rfl (gF g7)) rfl (q_load_ptr rfl rfl rfl rfl ty3) (SOps.q rfl (.guard 3 16 false rfl rfl (gF g7)) rfl (q_gtr rfl rfl rfl) (sq rfl rfl (q_pick_f rfl rfl g7 rfl) (sm rfl rfl (SOps.q rfl (.guard 8 21 false rfl rfl (gF g8)) rfl (q_field_ptr rfl rfl fd72_3) (SOps.q rfl (.guard 8 21 false rfl rfl (gF g8)) rfl (q_load_ptr rfl rfl rfl rfl ty3) (SOps.q rfl (.guard 8 21 false rfl rfl (gF g8)) rfl (q_lss rfl rfl rfl) (sq rfl rfl (q_pick_f rfl rfl g8 rfl) (sm rfl rfl (SOps.q rfl (.guard 13 26 false rfl rfl (gF g9)) rfl (q_field_ptr rfl rfl fd72_3) ?_)))))))))))))))
 refine SOps.q rfl (.guard 13 26 false rfl rfl (gF g9)) rfl (q_load_ptr rfl rfl rfl rfl ty3) (SOps.q rfl (.guard 13 26 false rfl rfl (gF g9)) rfl (q_gtr rfl rfl rfl) (sq rfl rfl (q_pick_f rfl rfl g9 rfl) (SOps.sub (st' := ⟨[(1, .c (.ptr 0 0)), (30, .c (.bool (decide (268435456 < a0_d.Opened))))], [.box (bSDispute a0_d)]⟩) (sub_gen [0] rfl rfl (zall rfl rfl) ⟨bx rfl rfl rfl, trivial⟩) (SOps.nil ?_))))
 rcases cond_out h with ⟨g10, h⟩ | ⟨g10, h⟩
 ·refine SCode.cond_t rfl g10 (SCode.seq (SCode.region (sa rfl rfl (SOps.nil (SCode.ret ?_)))))
  obtain rfl := Option.some.inj h
  exact ⟨⟨[(2, ci 2)], []⟩, _, sub_gen [] rfl rfl (zall rfl rfl) trivial, resA1 (v := .c (.int .i64 2)) rfl rfl, rfl⟩
 refine SCode.cond_f rfl g10 (SCode.skip (SCode.seq (SCode.seq ?_)))
 rcases cond_out h with ⟨g11, h⟩ | ⟨g11, h⟩
 ·refine SCode.region (sq rfl rfl (q_field_ptr rfl rfl fd72_4) (sq rfl rfl (q_load_ptr rfl rfl rfl rfl ty3) (sq rfl rfl (q_lss rfl rfl rfl) (sm rfl rfl (SOps.skip rfl 3 34 false rfl rfl (.inl (gT g11)) rfl (SOps.skip rfl 3 34 false rfl rfl (.inl (gT g11)) rfl (SOps.skip rfl 3 34 false rfl rfl (.inl (gT g11)) rfl (sq rfl rfl (q_pick_t rfl rfl g11 rfl) (sm rfl rfl (SOps.skip rfl 8 39 false rfl rfl (.inl rfl) rfl (SOps.skip rfl 8 39 false rfl rfl (.inl rfl) rfl (SOps.skip rfl 8 39 false rfl rfl (.inl rfl) rfl (sq rfl rfl (q_pick_t rfl rfl rfl rfl) (sm rfl rfl (SOps.skip rfl 13 44 false rfl rfl (.inl rfl) rfl ?_)))))))))))))))
  refine SOps.skip rfl 13 44 false rfl rfl (.inl rfl) rfl (SOps.skip rfl 13 44 false rfl rfl (.inl rfl) rfl (SOps.skip rfl 13 44 false rfl rfl (.inl rfl) rfl (SOps.skip rfl 13 44 false rfl rfl (.inl rfl) rfl (sq rfl rfl (q_pick_t rfl rfl rfl rfl) (SOps.sub (st' := ⟨[(1, .c (.ptr 0 0)), (50, .c (.bool true))], [.box (bSDispute a0_d)]⟩) (sub_gen [0] rfl rfl (zall rfl rfl) ⟨bx rfl rfl rfl, trivial⟩) (SOps.nil (SCode.cond_t rfl rfl (SCode.seq (SCode.region (sa rfl rfl (SOps.nil (SCode.ret ?_))))))))))))
  obtain rfl := Option.some.inj h
  exact ⟨⟨[(2, ci 2)], []⟩, _, sub_gen [] rfl rfl (zall rfl rfl) trivial, resA1 (v := .c (.int .i64 2)) rfl rfl, rfl⟩
 rcases cond_out h with ⟨g12, h⟩ | ⟨g12, h⟩
 ·refine SCode.region (sq rfl rfl (q_field_ptr rfl rfl fd72_4) (sq rfl rfl (q_load_ptr rfl rfl rfl rfl ty3) (sq rfl rfl (q_lss rfl rfl rfl) (sm rfl rfl (SOps.q rfl (.guard 3 34 false rfl rfl (gF g11)) rfl (q_field_ptr rfl rfl fd72_4) (SOps.q rfl (.guard 3 34 false rfl rfl (gF g11)) rfl (q_load_ptr rfl rfl rfl rfl ty3) (SOps.q rfl (.guard 3 34 false rfl rfl (gF g11)) rfl (q_gtr rfl rfl rfl) (sq rfl rfl (q_pick_f rfl rfl g11 rfl) (sm rfl rfl (SOps.skip rfl 8 39 false rfl rfl (.inl (gT g12)) rfl (SOps.skip rfl 8 39 false rfl rfl (.inl (gT g12)) rfl (SOps.skip rfl 8 39 false rfl rfl (.inl (gT g12)) rfl (sq rfl rfl (q_pick_t rfl rfl g12 rfl) (sm rfl rfl (SOps.skip rfl 13 44 false rfl rfl (.inl rfl) rfl ?_)))))))))))))))
  refine SOps.skip rfl 13 44 false rfl rfl (.inl rfl) rfl (SOps.skip rfl 13 44 false rfl rfl (.inl rfl) rfl (SOps.skip rfl 13 44 false rfl rfl (.inl rfl) rfl (SOps.skip rfl 13 44 false rfl rfl (.inl rfl) rfl (sq rfl rfl (q_pick_t rfl rfl rfl rfl) (SOps.sub (st' := ⟨[(1, .c (.ptr 0 0)), (50, .c (.bool true))], [.box (bSDispute a0_d)]⟩) (sub_gen [0] rfl rfl (zall rfl rfl) ⟨bx rfl rfl rfl, trivial⟩) (SOps.nil (SCode.cond_t rfl rfl (SCode.seq (SCode.region (sa rfl rfl (SOps.nil (SCode.ret ?_))))))))))))
  obtain rfl := Option.some.inj h
  exact ⟨⟨[(2, ci 2)], []⟩, _, sub_gen [] rfl rfl (zall rfl rfl) trivial, resA1 (v := .c (.int .i64 2)) rfl rfl, rfl⟩
 rcases cond_out h with ⟨g13, h⟩ | ⟨g13, h⟩
 ·refine SCode.region (sq rfl rfl (q_field_ptr rfl rfl fd72_4) (sq rfl rfl (q_load_ptr rfl rfl rfl rfl ty3) (sq rfl rfl (q_lss rfl rfl rfl) (sm rfl rfl (SOps.q rfl (.guard 3 34 false rfl rfl (gF g11)) rfl (q_field_ptr rfl rfl fd72_4) (SOps.q rfl (.guard 3 34 false rfl rfl (gF g11)) rfl (q_load_ptr rfl rfl rfl rfl ty3) (SOps.q rfl (.guard 3 34 false rfl rfl (gF g11)) rfl (q_gtr rfl rfl rfl) (sq rfl rfl (q_pick_f rfl rfl g11 rfl) (sm rfl rfl (SOps.q rfl (.guard 8 39 false rfl rfl (gF g12)) rfl (q_field_ptr rfl rfl fd72_5) (SOps.q rfl (.guard 8 39 false rfl rfl (gF g12)) rfl (q_load_ptr rfl rfl rfl rfl ty3) (SOps.q rfl (.guard 8 39 false rfl rfl (gF g12)) rfl (q_lss rfl rfl rfl) (sq rfl rfl (q_pick_f rfl rfl g12 rfl) (sm rfl rfl (SOps.skip rfl 13 44 false rfl rfl (.inl (gT g13)) rfl ?_)))))))))))))))
  refine SOps.skip rfl 13 44 false rfl rfl (.inl (gT g13)) rfl (SOps.skip rfl 13 44 false rfl rfl (.inl (gT g13)) rfl (SOps.skip rfl 13 44 false rfl rfl (.inl (gT g13)) rfl (SOps.skip rfl 13 44 false rfl rfl (.inl (gT g13)) rfl (sq rfl rfl (q_pick_t rfl rfl g13 rfl) (SOps.sub (st' := ⟨[(1, .c (.ptr 0 0)), (50, .c (.bool true))], [.box (bSDispute a0_d)]⟩) (sub_gen [0] rfl rfl (zall rfl rfl) ⟨bx rfl rfl rfl, trivial⟩) (SOps.nil (SCode.cond_t rfl rfl (SCode.seq (SCode.region (sa rfl rfl (SOps.nil (SCode.ret ?_))))))))))))
  obtain rfl := Option.some.inj h
  exact ⟨⟨[(2, ci 2)], []⟩, _, sub_gen [] rfl rfl (zall rfl rfl) trivial, resA1 (v := .c (.int .i64 2)) rfl rfl, rfl⟩
 refine SCode.region (sq rfl rfl (q_field_ptr rfl rfl fd72_4) (sq rfl rfl (q_load_ptr rfl rfl rfl rfl ty3) (sq rfl rfl (q_lss rfl rfl rfl) (sm rfl rfl (SOps.q rfl (.guard 3 34 false rfl rfl (gF g11)) rfl (q_field_ptr rfl rfl fd72_4) (SOps.q rfl (.guard 3 34 false rfl rfl (gF g11)) rfl (q_load_ptr rfl rfl rfl rfl ty3) (SOps.q rfl (.guard 3 34 false rfl rfl (gF g11)) rfl (q_gtr rfl rfl rfl) (sq rfl rfl (q_pick_f rfl rfl g11 rfl) (sm rfl rfl (SOps.q rfl (.guard 8 39 false rfl rfl (gF g12)) rfl (q_field_ptr rfl rfl fd72_5) (SOps.q rfl (.guard 8 39 false rfl rfl (gF g12)) rfl (q_load_ptr rfl rfl rfl rfl ty3) (SOps.q rfl (.guard 8 39 false rfl rfl (gF g12)) rfl (q_lss rfl rfl rfl) (sq rfl rfl (q_pick_f rfl rfl g12 rfl) (sm rfl rfl (SOps.q rfl (.guard 13 44 false rfl rfl (gF g13)) rfl (q_field_ptr rfl rfl fd72_5) ?_)))))))))))))))
 refine SOps.q rfl (.guard 13 44 false rfl rfl (gF g13)) rfl (q_load_ptr rfl rfl rfl rfl ty3) (SOps.q rfl (.guard 13 44 false rfl rfl (gF g13)) rfl (q_field_ptr rfl rfl fd72_4) (SOps.q rfl (.guard 13 44 false rfl rfl (gF g13)) rfl (q_load_ptr rfl rfl rfl rfl ty3) (SOps.q rfl (.guard 13 44 false rfl rfl (gF g13)) rfl (q_gtr rfl rfl rfl) (sq rfl rfl (q_pick_f rfl rfl g13 rfl) (SOps.sub (st' := ⟨[(1, .c (.ptr 0 0)), (50, .c (.bool (decide (a0_d.Claim < a0_d.Granted))))], [.box (bSDispute a0_d)]⟩) (sub_gen [0] rfl rfl (zall rfl rfl) ⟨bx rfl rfl rfl, trivial⟩) (SOps.nil ?_))))))
 rcases cond_out h with ⟨g14, h⟩ | ⟨g14, h⟩
 ·refine SCode.cond_t rfl g14 (SCode.seq (SCode.region (sa rfl rfl (SOps.nil (SCode.ret ?_)))))
  obtain rfl := Option.some.inj h
  exact ⟨⟨[(2, ci 2)], []⟩, _, sub_gen [] rfl rfl (zall rfl rfl) trivial, resA1 (v := .c (.int .i64 2)) rfl rfl, rfl⟩
 refine SCode.cond_f rfl g14 (SCode.skip (SCode.seq (SCode.seq (SCode.region (sq rfl rfl (q_field_ptr rfl rfl fd72_5) (sq rfl rfl (q_load_ptr rfl rfl rfl rfl ty3) (sq rfl rfl (q_eql rfl rfl rfl) (sq rfl rfl (q_field_ptr rfl rfl fd72_2) (sq rfl rfl (q_load_ptr rfl rfl rfl rfl ty3) (sq rfl rfl (q_neq rfl rfl rfl) (sq rfl rfl (q_neqB rfl rfl rfl un4) (SOps.nil ?_))))))))))))
 rcases cond_out h with ⟨g15, h⟩ | ⟨g15, h⟩
 ·refine SCode.cond_t rfl g15 (SCode.seq (SCode.region (sa rfl rfl (SOps.nil (SCode.ret ?_)))))
  obtain rfl := Option.some.inj h
  exact ⟨⟨[(2, ci 1)], []⟩, _, sub_gen [] rfl rfl (zall rfl rfl) trivial, resA1 (v := .c (.int .i64 1)) rfl rfl, rfl⟩
 refine SCode.cond_f rfl g15 (SCode.skip (SCode.seq (SCode.region (sa rfl rfl (SOps.nil (SCode.ret ?_))))))
 obtain rfl := Option.some.inj h
 exact ⟨⟨[(2, ci 0)], []⟩, _, sub_gen [] rfl rfl (zall rfl rfl) trivial, resA1 (v := .c (.int .i64 0)) rfl rfl, rfl⟩
theorem settle_check_ok (F : Nat) (a0_l : List SCDR) (a1_ds : List SDispute) (a2_creditor : ByteArray) (a3_debtor : ByteArray) (a4_currency : ByteArray) (a5_s : SSpan) (r : Int) (h : settle_check F a0_l a1_ds a2_creditor a3_debtor a4_currency a5_s = some r) :
  SFun Try.prog 28 [] [.c (vSCDR a0_l), .c (vSDispute a1_ds), .c (.str a2_creditor), .c (.str a3_debtor), .c (.str a4_currency), .a (bSSpan a5_s)] (fun x _ => x = ci r) := by
 refine SFun.of (n := 68) Try.func28 rfl rfl rfl ?_
 unfold settle_check at h
 show SCode _ _ _ ⟨[(0, .c (vSCDR a0_l)), (1, .c (vSDispute a1_ds)), (2, .c (.str a2_creditor)), (3, .c (.str a3_debtor)), (4, .c (.str a4_currency)), (5, .a (bSSpan a5_s))], []⟩ _
 refine SCode.seq (SCode.region (se rfl rfl (e_box rfl rfl rfl rfl rfl rfl) (sa rfl rfl (SOps.nil ?_))))
 let S6 := (⟨[(1, .c (vSDispute a1_ds)), (2, .c (.str a2_creditor)), (3, .c (.str a3_debtor)), (4, .c (.str a4_currency)), (11, .c (.ptr 0 0))], [.box (bSSpan a5_s)]⟩ : St)
 refine SCode.join (σ := Unit) (S := fun s => S6) (g := fun s => settle_check_p28 F a1_ds a2_creditor a3_debtor a4_currency a5_s = some r) ?_ ?_
 rotate_left
 ·refine SCode.seq (SCode.region (sm rfl rfl (sq rfl rfl (q_len_vec rfl rfl sl36) (sm rfl rfl (SOps.nil (SCode.block ?_))))))
  let S5 := fun (t22_34 : Int) => (⟨[(1, .c (vSDispute a1_ds)), (2, .c (.str a2_creditor)), (3, .c (.str a3_debtor)), (4, .c (.str a4_currency)), (11, .c (.ptr 0 0)), (20, .c (vSCDR a0_l)), (21, ci (((a0_l).length : Int))), (22, ci t22_34)], [.box (bSSpan a5_s)]⟩ : St)
  refine SCode.sub (st' := (S5 0)) (sub_gen [0] rfl rfl (zall rfl rfl) ⟨bx rfl rfl rfl, trivial⟩) ?_
  refine (SCode.loop (σ := Nat × Int) (S := fun s => (S5 s.2)) (g := fun s => settle_check_l40 F a0_l a1_ds a2_creditor a3_debtor a4_currency a5_s s.1 s.2 = some r) (μ := fun s => s.1) (F, 0) h ?_)
  rintro ⟨n_40, t22_34⟩ h
  try dsimp only at h
  show SCode _ _ _ (S5 t22_34) _
  cases n_40 with
  | zero => cases h
  | succ n_40 =>
   rw [settle_check_l40] at h
   unfold settle_check_b40 at h
   refine SCode.seq (SCode.region (sq rfl rfl (q_lss rfl rfl rfl) (SOps.nil (SCode.seq ?_))))
   rcases cond_out h with ⟨g41, h⟩ | ⟨g41, h⟩
   ·refine SCode.cond_t rfl g41 (SCode.skip (SCode.seq (SCode.block (SCode.seq ?_))))
    obtain ⟨g42, h⟩ := guard_out h
    refine SCode.region (sq rfl rfl (q_index_vec rfl rfl rfl sl36 rfl g42.1 g42.2) (sq rfl rfl (q_load_eptr_all rfl rfl rfl ty47) (se rfl rfl (e_alloc rfl rfl rfl z47) (se rfl rfl (e_store_box rfl rfl rfl rfl rfl ty47 rfl rfl rfl rfl) (SOps.nil (SCode.seq ?_))))))
    obtain ⟨c_43, g44, h⟩ := bind_out h
    try dsimp only at h
    refine SCode.region (sq rfl rfl (q_load_ptr_all rfl rfl rfl rfl rfl ty47) (sq rfl rfl (q_call (cdr_Valid_ok F (a0_l.getD t22_34.toNat dSCDR) c_43 g44) [] rfl fn45 ⟨⟨rfl, rfl⟩, trivial⟩ (.inl rfl)) (sa rfl rfl (SOps.nil (SCode.seq (SCode.region (sm rfl rfl (sq rfl rfl (q_neq rfl rfl rfl) (SOps.nil ?_)))))))))
    rcases cond_out h with ⟨g45, h⟩ | ⟨g45, h⟩
    ·refine SCode.cond_t rfl g45 (SCode.seq (SCode.region (sm rfl rfl (sa rfl rfl (SOps.nil (SCode.ret ?_))))))
     obtain rfl := Option.some.inj h
     exact ⟨⟨[(12, ci c_43)], []⟩, _, sub_gen [] rfl rfl (zall rfl rfl) trivial, resA1 (v := .c (.int .i64 c_43)) rfl rfl, rfl⟩
    refine SCode.cond_f rfl g45 (SCode.skip (SCode.region (sq rfl rfl (q_add rfl rfl rfl) (sm rfl rfl (SOps.nil ?_)))))
    exact ⟨(n_40, IntKind.wrap .i64 (t22_34 + 1)), h, Nat.lt_succ_self n_40, sub_gen [0] rfl rfl (zall rfl rfl) ⟨bx rfl rfl rfl, trivial⟩⟩
   refine SCode.cond_f rfl g41 (SCode.exit ?_)
   exact ⟨(), h, sub_gen [0] rfl rfl (zall rfl rfl) ⟨bx rfl rfl rfl, trivial⟩⟩
 rintro ⟨⟩ h
 show SCode _ _ _ S6 _
 try dsimp only at h
 unfold settle_check_p28 at h
 let S4 := (⟨[(2, .c (.str a2_creditor)), (3, .c (.str a3_debtor)), (4, .c (.str a4_currency)), (11, .c (.ptr 0 0))], [.box (bSSpan a5_s)]⟩ : St)
 refine SCode.join (σ := Unit) (S := fun s => S4) (g := fun s => settle_check_p10 F a2_creditor a3_debtor a4_currency a5_s = some r) ?_ ?_
 rotate_left
 ·refine SCode.seq (SCode.region (sm rfl rfl (sq rfl rfl (q_len_vec rfl rfl sl37) (sm rfl rfl (SOps.nil (SCode.block ?_))))))
  let S3 := fun (t34_16 : Int) => (⟨[(2, .c (.str a2_creditor)), (3, .c (.str a3_debtor)), (4, .c (.str a4_currency)), (11, .c (.ptr 0 0)), (32, .c (vSDispute a1_ds)), (33, ci (((a1_ds).length : Int))), (34, ci t34_16)], [.box (bSSpan a5_s)]⟩ : St)
  refine SCode.sub (st' := (S3 0)) (sub_gen [0] rfl rfl (zall rfl rfl) ⟨bx rfl rfl rfl, trivial⟩) ?_
  refine (SCode.loop (σ := Nat × Int) (S := fun s => (S3 s.2)) (g := fun s => settle_check_l22 F a1_ds a2_creditor a3_debtor a4_currency a5_s s.1 s.2 = some r) (μ := fun s => s.1) (F, 0) h ?_)
  rintro ⟨n_22, t34_16⟩ h
  try dsimp only at h
  show SCode _ _ _ (S3 t34_16) _
  cases n_22 with
  | zero => cases h
  | succ n_22 =>
   rw [settle_check_l22] at h
   unfold settle_check_b22 at h
   refine SCode.seq (SCode.region (sq rfl rfl (q_lss rfl rfl rfl) (SOps.nil (SCode.seq ?_))))
   rcases cond_out h with ⟨g23, h⟩ | ⟨g23, h⟩
   ·refine SCode.cond_t rfl g23 (SCode.skip (SCode.seq (SCode.block (SCode.seq ?_))))
    obtain ⟨g24, h⟩ := guard_out h
    refine SCode.region (sq rfl rfl (q_index_vec rfl rfl rfl sl37 rfl g24.1 g24.2) (sq rfl rfl (q_load_eptr_all rfl rfl rfl ty72) (se rfl rfl (e_alloc rfl rfl rfl z72) (se rfl rfl (e_store_box rfl rfl rfl rfl rfl ty72 rfl rfl rfl rfl) (SOps.nil (SCode.seq ?_))))))
    obtain ⟨c_25, g26, h⟩ := bind_out h
    try dsimp only at h
    refine SCode.region (sq rfl rfl (q_load_ptr_all rfl rfl rfl rfl rfl ty72) (sq rfl rfl (q_call (dispute_Valid_ok F (a1_ds.getD t34_16.toNat dSDispute) c_25 g26) [] rfl fn46 ⟨⟨rfl, rfl⟩, trivial⟩ (.inl rfl)) (sa rfl rfl (SOps.nil (SCode.seq (SCode.region (sm rfl rfl (sq rfl rfl (q_neq rfl rfl rfl) (SOps.nil ?_)))))))))
    rcases cond_out h with ⟨g27, h⟩ | ⟨g27, h⟩
    ·refine SCode.cond_t rfl g27 (SCode.seq (SCode.region (sm rfl rfl (sa rfl rfl (SOps.nil (SCode.ret ?_))))))
     obtain rfl := Option.some.inj h
     exact ⟨⟨[(12, ci c_25)], []⟩, _, sub_gen [] rfl rfl (zall rfl rfl) trivial, resA1 (v := .c (.int .i64 c_25)) rfl rfl, rfl⟩
    refine SCode.cond_f rfl g27 (SCode.skip (SCode.region (sq rfl rfl (q_add rfl rfl rfl) (sm rfl rfl (SOps.nil ?_)))))
    exact ⟨(n_22, IntKind.wrap .i64 (t34_16 + 1)), h, Nat.lt_succ_self n_22, sub_gen [0] rfl rfl (zall rfl rfl) ⟨bx rfl rfl rfl, trivial⟩⟩
   refine SCode.cond_f rfl g23 (SCode.exit ?_)
   exact ⟨(), h, sub_gen [0] rfl rfl (zall rfl rfl) ⟨bx rfl rfl rfl, trivial⟩⟩
 rintro ⟨⟩ h
 show SCode _ _ _ S4 _
 try dsimp only at h
 unfold settle_check_p10 at h
 refine SCode.seq (SCode.seq ?_)
 obtain ⟨c_1, g2, h⟩ := bind_out h
 try dsimp only at h
 refine SCode.region (sm rfl rfl (sm rfl rfl (sq rfl rfl (q_call (settle_parties_ok F a2_creditor a3_debtor c_1 g2) [] rfl fn38 ⟨⟨_, rfl, .inl ⟨rfl, rfl⟩⟩, ⟨_, rfl, .inl ⟨rfl, rfl⟩⟩, trivial⟩ (.inl rfl)) (sa rfl rfl (SOps.nil (SCode.seq (SCode.region (sm rfl rfl (sq rfl rfl (q_neq rfl rfl rfl) (SOps.nil ?_))))))))))
 rcases cond_out h with ⟨g3, h⟩ | ⟨g3, h⟩
 ·refine SCode.cond_t rfl g3 (SCode.seq (SCode.region (sm rfl rfl (sa rfl rfl (SOps.nil (SCode.ret ?_))))))
  obtain rfl := Option.some.inj h
  exact ⟨⟨[(12, ci c_1)], []⟩, _, sub_gen [] rfl rfl (zall rfl rfl) trivial, resA1 (v := .c (.int .i64 c_1)) rfl rfl, rfl⟩
 refine SCode.cond_f rfl g3 (SCode.skip (SCode.seq (SCode.seq ?_)))
 obtain ⟨c_4, g5, h⟩ := bind_out h
 try dsimp only at h
 refine SCode.region (sm rfl rfl (sq rfl rfl (q_call (settle_isCurrency_ok F a4_currency c_4 g5) [] rfl fn39 ⟨⟨_, rfl, .inl ⟨rfl, rfl⟩⟩, trivial⟩ (.inl rfl)) (sq rfl rfl (q_not rfl rfl) (SOps.nil ?_))))
 rcases cond_out h with ⟨g6, h⟩ | ⟨g6, h⟩
 ·refine SCode.cond_t rfl g6 (SCode.seq (SCode.region (sa rfl rfl (SOps.nil (SCode.ret ?_)))))
  obtain rfl := Option.some.inj h
  exact ⟨⟨[(12, ci 21)], []⟩, _, sub_gen [] rfl rfl (zall rfl rfl) trivial, resA1 (v := .c (.int .i64 21)) rfl rfl, rfl⟩
 refine SCode.cond_f rfl g6 (SCode.skip (SCode.seq (SCode.seq ?_)))
 rcases cond_out h with ⟨g7, h⟩ | ⟨g7, h⟩
 ·refine SCode.region (sq rfl rfl (q_field_ptr rfl rfl fd39_0) (sq rfl rfl (q_load_ptr rfl rfl rfl rfl ty3) (sq rfl rfl (q_lss rfl rfl rfl) (sm rfl rfl (SOps.skip rfl 3 56 false rfl rfl (.inl (gT g7)) rfl (SOps.skip rfl 3 56 false rfl rfl (.inl (gT g7)) rfl (SOps.skip rfl 3 56 false rfl rfl (.inl (gT g7)) rfl (SOps.skip rfl 3 56 false rfl rfl (.inl (gT g7)) rfl (SOps.skip rfl 3 56 false rfl rfl (.inl (gT g7)) rfl (sq rfl rfl (q_pick_t rfl rfl g7 rfl) (sm rfl rfl (SOps.skip rfl 10 63 false rfl rfl (.inl rfl) rfl (SOps.skip rfl 10 63 false rfl rfl (.inl rfl) rfl (SOps.skip rfl 10 63 false rfl rfl (.inl rfl) rfl (sq rfl rfl (q_pick_t rfl rfl rfl rfl) ?_)))))))))))))))
  refine SOps.sub (st' := ⟨[(67, .c (.bool true))], []⟩) (sub_gen [] rfl rfl (zall rfl rfl) trivial) (SOps.nil (SCode.cond_t rfl rfl (SCode.seq (SCode.region (sa rfl rfl (SOps.nil (SCode.ret ?_)))))))
  obtain rfl := Option.some.inj h
  exact ⟨⟨[(12, ci 2)], []⟩, _, sub_gen [] rfl rfl (zall rfl rfl) trivial, resA1 (v := .c (.int .i64 2)) rfl rfl, rfl⟩
 rcases cond_out h with ⟨g8, h⟩ | ⟨g8, h⟩
 ·refine SCode.region (sq rfl rfl (q_field_ptr rfl rfl fd39_0) (sq rfl rfl (q_load_ptr rfl rfl rfl rfl ty3) (sq rfl rfl (q_lss rfl rfl rfl) (sm rfl rfl (SOps.q rfl (.guard 3 56 false rfl rfl (gF g7)) rfl (q_field_ptr rfl rfl fd39_0) (SOps.q rfl (.guard 3 56 false rfl rfl (gF g7)) rfl (q_load_ptr rfl rfl rfl rfl ty3) (SOps.q rfl (.guard 3 56 false rfl rfl (gF g7)) rfl (q_field_ptr rfl rfl fd39_1) (SOps.q rfl (.guard 3 56 false rfl rfl (gF g7)) rfl (q_load_ptr rfl rfl rfl rfl ty3) (SOps.q rfl (.guard 3 56 false rfl rfl (gF g7)) rfl (q_gtr rfl rfl rfl) (sq rfl rfl (q_pick_f rfl rfl g7 rfl) (sm rfl rfl (SOps.skip rfl 10 63 false rfl rfl (.inl (gT g8)) rfl (SOps.skip rfl 10 63 false rfl rfl (.inl (gT g8)) rfl (SOps.skip rfl 10 63 false rfl rfl (.inl (gT g8)) rfl (sq rfl rfl (q_pick_t rfl rfl g8 rfl) ?_)))))))))))))))
  refine SOps.sub (st' := ⟨[(67, .c (.bool true))], []⟩) (sub_gen [] rfl rfl (zall rfl rfl) trivial) (SOps.nil (SCode.cond_t rfl rfl (SCode.seq (SCode.region (sa rfl rfl (SOps.nil (SCode.ret ?_)))))))
  obtain rfl := Option.some.inj h
  exact ⟨⟨[(12, ci 2)], []⟩, _, sub_gen [] rfl rfl (zall rfl rfl) trivial, resA1 (v := .c (.int .i64 2)) rfl rfl, rfl⟩
 refine SCode.region (sq rfl rfl (q_field_ptr rfl rfl fd39_0) (sq rfl rfl (q_load_ptr rfl rfl rfl rfl ty3) (sq rfl rfl (q_lss rfl rfl rfl) (sm rfl rfl (SOps.q rfl (.guard 3 56 false rfl rfl (gF g7)) rfl (q_field_ptr rfl rfl fd39_0) (SOps.q rfl (.guard 3 56 false rfl rfl (gF g7)) rfl (q_load_ptr rfl rfl rfl rfl ty3) (SOps.q rfl (.guard 3 56 false rfl rfl (gF g7)) rfl (q_field_ptr rfl rfl fd39_1) (SOps.q rfl (.guard 3 56 false rfl rfl (gF g7)) rfl (q_load_ptr rfl rfl rfl rfl ty3) (SOps.q rfl (.guard 3 56 false rfl rfl (gF g7)) rfl (q_gtr rfl rfl rfl) (sq rfl rfl (q_pick_f rfl rfl g7 rfl) (sm rfl rfl (SOps.q rfl (.guard 10 63 false rfl rfl (gF g8)) rfl (q_field_ptr rfl rfl fd39_1) (SOps.q rfl (.guard 10 63 false rfl rfl (gF g8)) rfl (q_load_ptr rfl rfl rfl rfl ty3) (SOps.q rfl (.guard 10 63 false rfl rfl (gF g8)) rfl (q_gtr rfl rfl rfl) (sq rfl rfl (q_pick_f rfl rfl g8 rfl) ?_)))))))))))))))
 refine SOps.sub (st' := ⟨[(67, .c (.bool (decide (268435456 < a5_s.To))))], []⟩) (sub_gen [] rfl rfl (zall rfl rfl) trivial) (SOps.nil ?_)
 rcases cond_out h with ⟨g9, h⟩ | ⟨g9, h⟩
 ·refine SCode.cond_t rfl g9 (SCode.seq (SCode.region (sa rfl rfl (SOps.nil (SCode.ret ?_)))))
  obtain rfl := Option.some.inj h
  exact ⟨⟨[(12, ci 2)], []⟩, _, sub_gen [] rfl rfl (zall rfl rfl) trivial, resA1 (v := .c (.int .i64 2)) rfl rfl, rfl⟩
 refine SCode.cond_f rfl g9 (SCode.skip (SCode.seq (SCode.region (sa rfl rfl (SOps.nil (SCode.ret ?_))))))
 obtain rfl := Option.some.inj h
 exact ⟨⟨[(12, ci 0)], []⟩, _, sub_gen [] rfl rfl (zall rfl rfl) trivial, resA1 (v := .c (.int .i64 0)) rfl rfl, rfl⟩
theorem dispute_Amount_ok (F : Nat) (a0_c : SCDR) (a1_l : List SDispute) (r : Int) (h : dispute_Amount F a0_c a1_l = some r) :
  SFun Try.prog 30 [] [.a (bSCDR a0_c), .c (vSDispute a1_l)] (fun x _ => x = ci r) := by
 refine SFun.of (n := 31) Try.func30 rfl rfl rfl ?_
 unfold dispute_Amount at h
 show SCode _ _ _ ⟨[(0, .a (bSCDR a0_c)), (1, .c (vSDispute a1_l))], []⟩ _
 refine SCode.seq (SCode.region (se rfl rfl (e_box rfl rfl rfl rfl rfl rfl) (sa rfl rfl (SOps.nil ?_))))
 let S9 := (⟨[(2, .c (.ptr 0 0))], [.box (bSCDR a0_c)]⟩ : St)
 refine SCode.join (σ := Unit) (S := fun s => S9) (g := fun s => dispute_Amount_p1 a0_c = some r) ?_ ?_
 rotate_left
 ·refine SCode.seq (SCode.region (sm rfl rfl (sq rfl rfl (q_len_vec rfl rfl sl37) (sm rfl rfl (SOps.nil (SCode.block ?_))))))
  let S8 := fun (t9_7 : Int) => (⟨[(2, .c (.ptr 0 0)), (7, .c (vSDispute a1_l)), (8, ci (((a1_l).length : Int))), (9, ci t9_7)], [.box (bSCDR a0_c)]⟩ : St)
  refine SCode.sub (st' := (S8 0)) (sub_gen [0] rfl rfl (zall rfl rfl) ⟨bx rfl rfl rfl, trivial⟩) ?_
  refine (SCode.loop (σ := Nat × Int) (S := fun s => (S8 s.2)) (g := fun s => dispute_Amount_l13 a0_c a1_l s.1 s.2 = some r) (μ := fun s => s.1) (F, 0) h ?_)
  rintro ⟨n_13, t9_7⟩ h
  try dsimp only at h
  show SCode _ _ _ (S8 t9_7) _
  cases n_13 with
  | zero => cases h
  | succ n_13 =>
   rw [dispute_Amount_l13] at h
   unfold dispute_Amount_b13 at h
   refine SCode.seq (SCode.region (sq rfl rfl (q_lss rfl rfl rfl) (SOps.nil (SCode.seq ?_))))
   rcases cond_out h with ⟨g14, h⟩ | ⟨g14, h⟩
   ·refine SCode.cond_t rfl g14 (SCode.skip ?_)
    let S7 := (⟨[(2, .c (.ptr 0 0)), (7, .c (vSDispute a1_l)), (8, ci (((a1_l).length : Int))), (9, ci t9_7)], [.box (bSCDR a0_c)]⟩ : St)
    refine SCode.join (σ := Unit) (S := fun s => S7) (g := fun s => dispute_Amount_p15 t9_7 (fun t9_7 => dispute_Amount_l13 a0_c a1_l n_13 t9_7) = some r) ?_ ?_
    rotate_left
    ·refine SCode.block (SCode.seq ?_)
     obtain ⟨g16, h⟩ := guard_out h
     refine SCode.region (sq rfl rfl (q_index_vec rfl rfl rfl sl37 rfl g16.1 g16.2) (sq rfl rfl (q_load_eptr_all rfl rfl rfl ty72) (se rfl rfl (e_alloc rfl rfl rfl z72) (se rfl rfl (e_store_box rfl rfl rfl rfl rfl ty72 rfl rfl rfl rfl) (SOps.nil (SCode.seq ?_))))))
     rcases cond_out h with ⟨g17, h⟩ | ⟨g17, h⟩
     ·refine SCode.region (sq rfl rfl (q_field_ptr rfl rfl fd72_0) (sq rfl rfl (q_load_ptr rfl rfl rfl rfl ty9) (sq rfl rfl (q_field_ptr rfl rfl fd47_0) (sq rfl rfl (q_load_ptr rfl rfl rfl rfl ty9) (sq rfl rfl (q_eqlS rfl rfl rfl) (sm rfl rfl (SOps.q rfl (.guard 5 18 true rfl rfl (gT g17)) rfl (q_field_ptr rfl rfl fd72_2) (SOps.q rfl (.guard 5 18 true rfl rfl (gT g17)) rfl (q_load_ptr rfl rfl rfl rfl ty3) (SOps.q rfl (.guard 5 18 true rfl rfl (gT g17)) rfl (q_eql rfl rfl rfl) (sq rfl rfl (q_pick_t rfl rfl g17 rfl) (SOps.nil ?_)))))))))))
      rcases cond_out h with ⟨g18, h⟩ | ⟨g18, h⟩
      ·refine SCode.cond_t rfl g18 (SCode.seq (SCode.region (sq rfl rfl (q_field_ptr rfl rfl fd47_11) (sq rfl rfl (q_load_ptr rfl rfl rfl rfl ty3) (sq rfl rfl (q_field_ptr rfl rfl fd72_5) (sq rfl rfl (q_load_ptr rfl rfl rfl rfl ty3) (sq rfl rfl (q_sub rfl rfl rfl) (sa rfl rfl (SOps.sub (st' := ⟨[(4, ci (IntKind.wrap .i64 (a0_c.Total - (a1_l.getD t9_7.toNat dSDispute).Granted)))], []⟩) (sub_gen [] rfl rfl (zall rfl rfl) trivial) (SOps.nil (SCode.ret ?_)))))))))))
       obtain rfl := Option.some.inj h
       exact ⟨⟨[(4, ci (IntKind.wrap .i64 (a0_c.Total - (a1_l.getD t9_7.toNat dSDispute).Granted)))], []⟩, _, sub_gen [] rfl rfl (zall rfl rfl) trivial, resA1 (v := .c (.int .i64 (IntKind.wrap .i64 (a0_c.Total - (a1_l.getD t9_7.toNat dSDispute).Granted)))) rfl rfl, rfl⟩
      refine SCode.cond_f rfl g18 (SCode.skip ?_)
      exact ⟨(), h, sub_gen [0] rfl rfl (zall rfl rfl) ⟨bx rfl rfl rfl, trivial⟩⟩
     refine SCode.region (sq rfl rfl (q_field_ptr rfl rfl fd72_0) (sq rfl rfl (q_load_ptr rfl rfl rfl rfl ty9) (sq rfl rfl (q_field_ptr rfl rfl fd47_0) (sq rfl rfl (q_load_ptr rfl rfl rfl rfl ty9) (sq rfl rfl (q_eqlS rfl rfl rfl) (sm rfl rfl (SOps.skip rfl 5 18 true rfl rfl (.inl (gF g17)) rfl (SOps.skip rfl 5 18 true rfl rfl (.inl (gF g17)) rfl (SOps.skip rfl 5 18 true rfl rfl (.inl (gF g17)) rfl (sq rfl rfl (q_pick_f rfl rfl g17 rfl) (SOps.nil (SCode.cond_f rfl rfl (SCode.skip ?_)))))))))))))
     exact ⟨(), h, sub_gen [0] rfl rfl (zall rfl rfl) ⟨bx rfl rfl rfl, trivial⟩⟩
    rintro ⟨⟩ h
    show SCode _ _ _ S7 _
    try dsimp only at h
    unfold dispute_Amount_p15 at h
    refine SCode.region (sq rfl rfl (q_add rfl rfl rfl) (sm rfl rfl (SOps.nil ?_)))
    exact ⟨(n_13, IntKind.wrap .i64 (t9_7 + 1)), h, Nat.lt_succ_self n_13, sub_gen [0] rfl rfl (zall rfl rfl) ⟨bx rfl rfl rfl, trivial⟩⟩
   refine SCode.cond_f rfl g14 (SCode.exit ?_)
   exact ⟨(), h, sub_gen [0] rfl rfl (zall rfl rfl) ⟨bx rfl rfl rfl, trivial⟩⟩
 rintro ⟨⟩ h
 show SCode _ _ _ S9 _
 try dsimp only at h
 unfold dispute_Amount_p1 at h
 refine SCode.seq (SCode.region (sq rfl rfl (q_field_ptr rfl rfl fd47_11) (sq rfl rfl (q_load_ptr rfl rfl rfl rfl ty3) (sa rfl rfl (SOps.nil (SCode.ret ?_))))))
 obtain rfl := Option.some.inj h
 exact ⟨⟨[(4, ci a0_c.Total)], []⟩, _, sub_gen [] rfl rfl (zall rfl rfl) trivial, resA1 (v := .c (.int .i64 a0_c.Total)) rfl rfl, rfl⟩
end Go.Proofs.Ytoncfkdgddfnlaa.W
