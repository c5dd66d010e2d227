/- Written by a program of ours (wip/eng/gen.py): the functions compute their models. -/
import Derived.Test.YtoncfkdgddfnlaaFacts
import Derived.Test.YtoncfkdgddfnlaaKeys
namespace Go.Proofs.Ytoncfkdgddfnlaa.W
open Go Go.Proofs Go.Proofs.Ytoncfkdgddfnlaa.E Go.Proofs.Ytoncfkdgddfnlaa.M
set_option linter.unusedVariables false
set_option maxRecDepth 100000
set_option maxHeartbeats 8000000
theorem ident_value_ok (F : Nat) (a0_r : Int) (r : Int) (h : ident_value F a0_r = some r) :
  SFun Try.prog 59 [] [.c (.int .i32 a0_r)] (fun x _ => x = ci r) := by
 refine SFun.of (n := 35) Try.func59 rfl rfl rfl ?_
 unfold ident_value at h
 show SCode _ _ _ ⟨[(0, .c (.int .i32 a0_r))], []⟩ _
 refine SCode.seq (SCode.region (sa rfl rfl (SOps.nil ?_)))
 let S5 := (⟨[], []⟩ : St)
 refine SCode.join (σ := Unit) (S := fun s => S5) (g := fun s => ident_value_p1 = some r) ?_ ?_
 rotate_left
 ·refine SCode.block ?_
  let S4 := fun (t3_2 : Bool) => (⟨[(0, .c (.int .i32 a0_r)), (3, .c (.bool t3_2))], []⟩ : St)
  refine SCode.join (σ := Bool) (S := fun s => (S4 s)) (g := fun s => ident_value_p10 a0_r s = some r) ?_ ?_
  rotate_left
  ·rcases cond_out h with ⟨g11, h⟩ | ⟨g11, h⟩
   ·refine SCode.region (sm rfl rfl (sq rfl rfl (q_geq rfl rfl rfl) (sm rfl rfl (SOps.q rfl (.guard 2 6 true rfl rfl (gT g11)) rfl (q_move rfl rfl) (SOps.q rfl (.guard 2 6 true rfl rfl (gT g11)) rfl (q_leq rfl rfl rfl) (sq rfl rfl (q_pick_t rfl rfl g11 rfl) (sa rfl rfl (SOps.nil ?_))))))))
    exact ⟨decide (a0_r ≤ 57), h, sub_gen [] rfl rfl (zall rfl rfl) trivial⟩
   refine SCode.region (sm rfl rfl (sq rfl rfl (q_geq rfl rfl rfl) (sm rfl rfl (SOps.skip rfl 2 6 true rfl rfl (.inl (gF g11)) rfl (SOps.skip rfl 2 6 true rfl rfl (.inl (gF g11)) rfl (sq rfl rfl (q_pick_f rfl rfl g11 rfl) (sa rfl rfl (SOps.nil ?_))))))))
   exact ⟨false, h, sub_gen [] rfl rfl (zall rfl rfl) trivial⟩
  rintro t3_2 h
  show SCode _ _ _ (S4 t3_2) _
  try dsimp only at h
  unfold ident_value_p10 at h
  rcases cond_out h with ⟨g3, h⟩ | ⟨g3, h⟩
  ·refine SCode.cond_t rfl g3 (SCode.seq (SCode.region (sm rfl rfl (sq rfl rfl (q_sub rfl rfl rfl) (sq rfl rfl (q_convert rfl rfl un21 un3) (sa rfl rfl (SOps.nil (SCode.ret ?_))))))))
   obtain rfl := Option.some.inj h
   exact ⟨⟨[(2, ci (IntKind.wrap .i64 (IntKind.wrap .i32 (a0_r - 48))))], []⟩, _, sub_gen [] rfl rfl (zall rfl rfl) trivial, resA1 (v := .c (.int .i64 (IntKind.wrap .i64 (IntKind.wrap .i32 (a0_r - 48))))) rfl rfl, rfl⟩
  refine SCode.cond_f rfl g3 ?_
  let S3 := fun (t13_4 : Bool) => (⟨[(0, .c (.int .i32 a0_r)), (13, .c (.bool t13_4))], []⟩ : St)
  refine SCode.join (σ := Bool) (S := fun s => (S3 s)) (g := fun s => ident_value_p8 a0_r s = some r) ?_ ?_
  rotate_left
  ·rcases cond_out h with ⟨g9, h⟩ | ⟨g9, h⟩
   ·refine SCode.region (sm rfl rfl (sq rfl rfl (q_geq rfl rfl rfl) (sm rfl rfl (SOps.q rfl (.guard 2 16 true rfl rfl (gT g9)) rfl (q_move rfl rfl) (SOps.q rfl (.guard 2 16 true rfl rfl (gT g9)) rfl (q_leq rfl rfl rfl) (sq rfl rfl (q_pick_t rfl rfl g9 rfl) (sa rfl rfl (SOps.nil ?_))))))))
    exact ⟨decide (a0_r ≤ 90), h, sub_gen [] rfl rfl (zall rfl rfl) trivial⟩
   refine SCode.region (sm rfl rfl (sq rfl rfl (q_geq rfl rfl rfl) (sm rfl rfl (SOps.skip rfl 2 16 true rfl rfl (.inl (gF g9)) rfl (SOps.skip rfl 2 16 true rfl rfl (.inl (gF g9)) rfl (sq rfl rfl (q_pick_f rfl rfl g9 rfl) (sa rfl rfl (SOps.nil ?_))))))))
   exact ⟨false, h, sub_gen [] rfl rfl (zall rfl rfl) trivial⟩
  rintro t13_4 h
  show SCode _ _ _ (S3 t13_4) _
  try dsimp only at h
  unfold ident_value_p8 at h
  rcases cond_out h with ⟨g5, h⟩ | ⟨g5, h⟩
  ·refine SCode.cond_t rfl g5 (SCode.seq (SCode.region (sm rfl rfl (sq rfl rfl (q_sub rfl rfl rfl) (sq rfl rfl (q_convert rfl rfl un21 un3) (sq rfl rfl (q_add rfl rfl rfl) (sa rfl rfl (SOps.nil (SCode.ret ?_)))))))))
   obtain rfl := Option.some.inj h
   exact ⟨⟨[(2, ci (IntKind.wrap .i64 (IntKind.wrap .i64 (IntKind.wrap .i32 (a0_r - 65)) + 10)))], []⟩, _, sub_gen [] rfl rfl (zall rfl rfl) trivial, resA1 (v := .c (.int .i64 (IntKind.wrap .i64 (IntKind.wrap .i64 (IntKind.wrap .i32 (a0_r - 65)) + 10)))) rfl rfl, rfl⟩
  refine SCode.cond_f rfl g5 (SCode.seq ?_)
  rcases cond_out h with ⟨g6, h⟩ | ⟨g6, h⟩
  ·refine SCode.region (sm rfl rfl (sq rfl rfl (q_geq rfl rfl rfl) (sm rfl rfl (SOps.q rfl (.guard 2 27 true rfl rfl (gT g6)) rfl (q_move rfl rfl) (SOps.q rfl (.guard 2 27 true rfl rfl (gT g6)) rfl (q_leq rfl rfl rfl) (sq rfl rfl (q_pick_t rfl rfl g6 rfl) (sa rfl rfl (SOps.nil ?_))))))))
   rcases cond_out h with ⟨g7, h⟩ | ⟨g7, h⟩
   ·refine SCode.cond_t rfl g7 (SCode.seq (SCode.region (sm rfl rfl (sq rfl rfl (q_sub rfl rfl rfl) (sq rfl rfl (q_convert rfl rfl un21 un3) (sq rfl rfl (q_add rfl rfl rfl) (sa rfl rfl (SOps.nil (SCode.ret ?_)))))))))
    obtain rfl := Option.some.inj h
    exact ⟨⟨[(2, ci (IntKind.wrap .i64 (IntKind.wrap .i64 (IntKind.wrap .i32 (a0_r - 97)) + 10)))], []⟩, _, sub_gen [] rfl rfl (zall rfl rfl) trivial, resA1 (v := .c (.int .i64 (IntKind.wrap .i64 (IntKind.wrap .i64 (IntKind.wrap .i32 (a0_r - 97)) + 10)))) rfl rfl, rfl⟩
   refine SCode.cond_f rfl g7 (SCode.skip ?_)
   exact ⟨(), h, sub_gen [] rfl rfl trivial trivial⟩
  refine SCode.region (sm rfl rfl (sq rfl rfl (q_geq rfl rfl rfl) (sm rfl rfl (SOps.skip rfl 2 27 true rfl rfl (.inl (gF g6)) rfl (SOps.skip rfl 2 27 true rfl rfl (.inl (gF g6)) rfl (sq rfl rfl (q_pick_f rfl rfl g6 rfl) (sa rfl rfl (SOps.nil (SCode.cond_f rfl rfl (SCode.skip ?_))))))))))
  exact ⟨(), h, sub_gen [] rfl rfl trivial trivial⟩
 rintro ⟨⟩ h
 show SCode _ _ _ S5 _
 try dsimp only at h
 unfold ident_value_p1 at h
 refine SCode.seq (SCode.region (sa rfl rfl (SOps.nil (SCode.ret ?_))))
 obtain rfl := Option.some.inj h
 exact ⟨⟨[(2, ci ((-1)))], []⟩, _, sub_gen [] rfl rfl (zall rfl rfl) trivial, resA1 (v := .c (.int .i64 ((-1)))) rfl rfl, rfl⟩
theorem ident_Valid_ok (F : Nat) (a0_s : ByteArray) (r : Bool) (h : ident_Valid F a0_s = some r) :
  SFun Try.prog 48 [] [.c (.str a0_s)] (fun x _ => x = .c (.bool r)) := by
 refine SFun.of (n := 28) Try.func48 rfl rfl rfl ?_
 unfold ident_Valid at h
 show SCode _ _ _ ⟨[(0, .c (.str a0_s))], []⟩ _
 refine SCode.seq (SCode.region (sa rfl rfl (SOps.nil (SCode.seq (SCode.seq ?_)))))
 rcases cond_out h with ⟨g1, h⟩ | ⟨g1, h⟩
 ·refine SCode.region (sm rfl rfl (sq rfl rfl (q_len_str rfl rfl un9) (sq rfl rfl (q_lss rfl rfl rfl) (sm rfl rfl (SOps.skip rfl 3 8 false rfl rfl (.inl (gT g1)) rfl (SOps.skip rfl 3 8 false rfl rfl (.inl (gT g1)) rfl (SOps.skip rfl 3 8 false rfl rfl (.inl (gT g1)) rfl (sq rfl rfl (q_pick_t rfl rfl g1 rfl) (SOps.nil (SCode.cond_t rfl rfl (SCode.seq (SCode.region (sa rfl rfl (SOps.nil (SCode.ret ?_)))))))))))))))
  obtain rfl := Option.some.inj h
  exact ⟨⟨[(2, .c (.bool false))], []⟩, _, sub_gen [] rfl rfl (zall rfl rfl) trivial, resA1 (v := .c (.bool false)) rfl rfl, rfl⟩
 refine SCode.region (sm rfl rfl (sq rfl rfl (q_len_str rfl rfl un9) (sq rfl rfl (q_lss rfl rfl rfl) (sm rfl rfl (SOps.q rfl (.guard 3 8 false rfl rfl (gF g1)) rfl (q_move rfl rfl) (SOps.q rfl (.guard 3 8 false rfl rfl (gF g1)) rfl (q_len_str rfl rfl un9) (SOps.q rfl (.guard 3 8 false rfl rfl (gF g1)) rfl (q_gtr rfl rfl rfl) (sq rfl rfl (q_pick_f rfl rfl g1 rfl) (SOps.nil ?_)))))))))
 rcases cond_out h with ⟨g2, h⟩ | ⟨g2, h⟩
 ·refine SCode.cond_t rfl g2 (SCode.seq (SCode.region (sa rfl rfl (SOps.nil (SCode.ret ?_)))))
  obtain rfl := Option.some.inj h
  exact ⟨⟨[(2, .c (.bool false))], []⟩, _, sub_gen [] rfl rfl (zall rfl rfl) trivial, resA1 (v := .c (.bool false)) rfl rfl, rfl⟩
 refine SCode.cond_f rfl g2 (SCode.skip ?_)
 let S15 := (⟨[], []⟩ : St)
 refine SCode.join (σ := Unit) (S := fun s => S15) (g := fun s => ident_Valid_p3 = some r) ?_ ?_
 rotate_left
 ·refine SCode.seq (SCode.region (sm rfl rfl (se rfl rfl (e_range rfl rfl rfl rfl un9) (SOps.nil (SCode.block ?_)))))
  let S14 := fun (pos_17 : Nat) => (⟨[(14, .c (.ptr 0 0))], [.raw (.stringIter a0_s pos_17)]⟩ : St)
  refine SCode.sub (st' := (S14 0)) (sub_gen [0] rfl rfl (zall rfl rfl) ⟨rfl, trivial⟩) ?_
  refine (SCode.loop (σ := Nat × Nat) (S := fun s => (S14 s.2)) (g := fun s => ident_Valid_l29 F a0_s s.1 s.2 = some r) (μ := fun s => s.1) (F, 0) h ?_)
  rintro ⟨n_29, pos_17⟩ h
  try dsimp only at h
  show SCode _ _ _ (S14 pos_17) _
  cases n_29 with
  | zero => cases h
  | succ n_29 =>
   rw [ident_Valid_l29] at h
   unfold ident_Valid_b29 at h
   refine SCode.seq ?_
   rcases cond_out h with ⟨g30, h⟩ | ⟨g30, h⟩
   ·refine SCode.region (se rfl rfl (e_next_t rfl rfl rfl rfl rfl g30) (sq rfl rfl (q_extract rfl rfl rfl) (SOps.nil (SCode.seq (SCode.cond_t rfl rfl (SCode.skip (SCode.block (SCode.seq (SCode.region (sq rfl rfl (q_extract rfl rfl rfl) (sa rfl rfl (SOps.nil (SCode.seq (SCode.seq (SCode.region ?_)))))))))))))))
    refine sm rfl rfl (SOps.nil (SCode.block ?_))
    let S13 := fun (t19_31 : Bool) => (⟨[(4, .c (.int .i32 (((Utf8.decode a0_s pos_17).1 : Int)))), (14, .c (.ptr 0 0)), (19, .c (.bool t19_31))], [.raw (.stringIter a0_s (pos_17 + (Utf8.decode a0_s pos_17).2))]⟩ : St)
    refine SCode.join (σ := Bool) (S := fun s => (S13 s)) (g := fun s => ident_Valid_p36 F a0_s pos_17 (fun pos_17 => ident_Valid_l29 F a0_s n_29 pos_17) s = some r) ?_ ?_
    rotate_left
    ·refine SCode.seq (SCode.region (sq rfl rfl (q_eql rfl rfl rfl) (sa rfl rfl (SOps.nil ?_))))
     rcases cond_out h with ⟨g37, h⟩ | ⟨g37, h⟩
     ·refine SCode.cond_t rfl g37 (SCode.skip ?_)
      exact ⟨decide (((Utf8.decode a0_s pos_17).1 : Int) = 45), h, sub_gen [0] rfl rfl (zall rfl rfl) ⟨rfl, trivial⟩⟩
     refine SCode.cond_f rfl g37 (SCode.seq (SCode.region (sq rfl rfl (q_eql rfl rfl rfl) (sa rfl rfl (SOps.nil ?_)))))
     rcases cond_out h with ⟨g38, h⟩ | ⟨g38, h⟩
     ·refine SCode.cond_t rfl g38 (SCode.skip ?_)
      exact ⟨decide (((Utf8.decode a0_s pos_17).1 : Int) = 95), h, sub_gen [0] rfl rfl (zall rfl rfl) ⟨rfl, trivial⟩⟩
     refine SCode.cond_f rfl g38 (SCode.seq (SCode.region (sq rfl rfl (q_eql rfl rfl rfl) (sa rfl rfl (SOps.nil ?_)))))
     rcases cond_out h with ⟨g39, h⟩ | ⟨g39, h⟩
     ·refine SCode.cond_t rfl g39 (SCode.skip ?_)
      exact ⟨decide (((Utf8.decode a0_s pos_17).1 : Int) = 46), h, sub_gen [0] rfl rfl (zall rfl rfl) ⟨rfl, trivial⟩⟩
     refine SCode.cond_f rfl g39 (SCode.seq (SCode.region (sq rfl rfl (q_eql rfl rfl rfl) (sa rfl rfl (SOps.nil ?_)))))
     rcases cond_out h with ⟨g40, h⟩ | ⟨g40, h⟩
     ·refine SCode.cond_t rfl g40 (SCode.skip ?_)
      exact ⟨decide (((Utf8.decode a0_s pos_17).1 : Int) = 58), h, sub_gen [0] rfl rfl (zall rfl rfl) ⟨rfl, trivial⟩⟩
     refine SCode.cond_f rfl g40 (SCode.region (sq rfl rfl (q_eql rfl rfl rfl) (sa rfl rfl (SOps.nil ?_))))
     exact ⟨decide (((Utf8.decode a0_s pos_17).1 : Int) = 42), h, sub_gen [0] rfl rfl (zall rfl rfl) ⟨rfl, trivial⟩⟩
    rintro t19_31 h
    show SCode _ _ _ (S13 t19_31) _
    try dsimp only at h
    unfold ident_Valid_p36 at h
    rcases cond_out h with ⟨g32, h⟩ | ⟨g32, h⟩
    ·refine SCode.cond_t rfl g32 (SCode.exit ?_)
     exact ⟨(n_29, pos_17 + (Utf8.decode a0_s pos_17).2), h, Nat.lt_succ_self n_29, sub_gen [0] rfl rfl (zall rfl rfl) ⟨rfl, trivial⟩⟩
    refine SCode.cond_f rfl g32 (SCode.skip (SCode.seq ?_))
    obtain ⟨c_33, g34, h⟩ := bind_out h
    try dsimp only at h
    refine SCode.region (sm rfl rfl (sq rfl rfl (q_call (ident_value_ok F (((Utf8.decode a0_s pos_17).1 : Int)) c_33 g34) [] rfl fn59 ⟨⟨_, rfl, .inl ⟨rfl, rfl⟩⟩, trivial⟩ (.inl rfl)) (sq rfl rfl (q_lss rfl rfl rfl) (SOps.nil ?_))))
    rcases cond_out h with ⟨g35, h⟩ | ⟨g35, h⟩
    ·refine SCode.cond_t rfl g35 (SCode.seq (SCode.region (sa rfl rfl (SOps.nil (SCode.ret ?_)))))
     obtain rfl := Option.some.inj h
     exact ⟨⟨[(2, .c (.bool false))], []⟩, _, sub_gen [] rfl rfl (zall rfl rfl) trivial, resA1 (v := .c (.bool false)) rfl rfl, rfl⟩
    refine SCode.cond_f rfl g35 (SCode.skip ?_)
    exact ⟨(n_29, pos_17 + (Utf8.decode a0_s pos_17).2), h, Nat.lt_succ_self n_29, sub_gen [0] rfl rfl (zall rfl rfl) ⟨rfl, trivial⟩⟩
   refine SCode.region (sq rfl rfl (q_next_f rfl rfl rfl g30) (sq rfl rfl (q_extract rfl rfl rfl) (SOps.nil (SCode.seq (SCode.cond_f rfl rfl (SCode.exit ?_))))))
   exact ⟨(), h, sub_gen [] rfl rfl trivial trivial⟩
 rintro ⟨⟩ h
 show SCode _ _ _ S15 _
 try dsimp only at h
 unfold ident_Valid_p3 at h
 refine SCode.seq (SCode.region (sa rfl rfl (SOps.nil (SCode.ret ?_))))
 obtain rfl := Option.some.inj h
 exact ⟨⟨[(2, .c (.bool true))], []⟩, _, sub_gen [] rfl rfl (zall rfl rfl) trivial, resA1 (v := .c (.bool true)) rfl rfl, rfl⟩
theorem settle_parties_ok (F : Nat) (a0_a : ByteArray) (a1_b : ByteArray) (r : Int) (h : settle_parties F a0_a a1_b = some r) :
  SFun Try.prog 38 [] [.c (.str a0_a), .c (.str a1_b)] (fun x _ => x = ci r) := by
 refine SFun.of (n := 16) Try.func38 rfl rfl rfl ?_
 unfold settle_parties at h
 show SCode _ _ _ ⟨[(0, .c (.str a0_a)), (1, .c (.str a1_b))], []⟩ _
 refine SCode.seq (SCode.region (sa rfl rfl (SOps.nil (SCode.seq (SCode.seq ?_)))))
 obtain ⟨c_1, g2, h⟩ := bind_out h
 try dsimp only at h
 rcases cond_out h with ⟨g3, h⟩ | ⟨g3, h⟩
 ·refine SCode.region (sm rfl rfl (sq rfl rfl (q_call (ident_Valid_ok F a0_a c_1 g2) [] rfl fn48 ⟨⟨_, rfl, .inl ⟨rfl, rfl⟩⟩, trivial⟩ (.inl rfl)) (sq rfl rfl (q_not rfl rfl) (sm rfl rfl (SOps.skip rfl 3 8 false rfl rfl (.inl (gT g3)) rfl (SOps.skip rfl 3 8 false rfl rfl (.inl (gT g3)) rfl (SOps.skip rfl 3 8 false rfl rfl (.inl (gT g3)) rfl (sq rfl rfl (q_pick_t rfl rfl g3 rfl) (SOps.nil (SCode.cond_t rfl rfl (SCode.seq (SCode.region (sa rfl rfl (SOps.nil (SCode.ret ?_)))))))))))))))
  obtain rfl := Option.some.inj h
  exact ⟨⟨[(4, ci 4)], []⟩, _, sub_gen [] rfl rfl (zall rfl rfl) trivial, resA1 (v := .c (.int .i64 4)) rfl rfl, rfl⟩
 obtain ⟨c_4, g5, h⟩ := bind_out h
 try dsimp only at h
 refine SCode.region (sm rfl rfl (sq rfl rfl (q_call (ident_Valid_ok F a0_a c_1 g2) [] rfl fn48 ⟨⟨_, rfl, .inl ⟨rfl, rfl⟩⟩, trivial⟩ (.inl rfl)) (sq rfl rfl (q_not rfl rfl) (sm rfl rfl (SOps.q rfl (.guard 3 8 false rfl rfl (gF g3)) rfl (q_move rfl rfl) (SOps.q rfl (.guard 3 8 false rfl rfl (gF g3)) rfl (q_call (ident_Valid_ok F a1_b c_4 g5) [] rfl fn48 ⟨⟨_, rfl, .inl ⟨rfl, rfl⟩⟩, trivial⟩ (.inl rfl)) (SOps.q rfl (.guard 3 8 false rfl rfl (gF g3)) rfl (q_not rfl rfl) (sq rfl rfl (q_pick_f rfl rfl g3 rfl) (SOps.nil ?_)))))))))
 rcases cond_out h with ⟨g6, h⟩ | ⟨g6, h⟩
 ·refine SCode.cond_t rfl g6 (SCode.seq (SCode.region (sa rfl rfl (SOps.nil (SCode.ret ?_)))))
  obtain rfl := Option.some.inj h
  exact ⟨⟨[(4, ci 4)], []⟩, _, sub_gen [] rfl rfl (zall rfl rfl) trivial, resA1 (v := .c (.int .i64 4)) rfl rfl, rfl⟩
 refine SCode.cond_f rfl g6 (SCode.skip (SCode.seq (SCode.seq (SCode.region (sm rfl rfl (sm rfl rfl (sq rfl rfl (q_eqlS rfl rfl rfl) (SOps.nil ?_))))))))
 rcases cond_out h with ⟨g7, h⟩ | ⟨g7, h⟩
 ·refine SCode.cond_t rfl g7 (SCode.seq (SCode.region (sa rfl rfl (SOps.nil (SCode.ret ?_)))))
  obtain rfl := Option.some.inj h
  exact ⟨⟨[(4, ci 1)], []⟩, _, sub_gen [] rfl rfl (zall rfl rfl) trivial, resA1 (v := .c (.int .i64 1)) rfl rfl, rfl⟩
 refine SCode.cond_f rfl g7 (SCode.skip (SCode.seq (SCode.region (sa rfl rfl (SOps.nil (SCode.ret ?_))))))
 obtain rfl := Option.some.inj h
 exact ⟨⟨[(4, ci 0)], []⟩, _, sub_gen [] rfl rfl (zall rfl rfl) trivial, resA1 (v := .c (.int .i64 0)) rfl rfl, rfl⟩
theorem settle_isCurrency_ok (F : Nat) (a0_s : ByteArray) (r : Bool) (h : settle_isCurrency F a0_s = some r) :
  SFun Try.prog 39 [] [.c (.str a0_s)] (fun x _ => x = .c (.bool r)) := by
 refine SFun.of (n := 23) Try.func39 rfl rfl rfl ?_
 unfold settle_isCurrency at h
 show SCode _ _ _ ⟨[(0, .c (.str a0_s))], []⟩ _
 refine SCode.seq (SCode.region (sa rfl rfl (SOps.nil (SCode.seq (SCode.seq (SCode.region (sm rfl rfl (sq rfl rfl (q_len_str rfl rfl un9) (sq rfl rfl (q_neq rfl rfl rfl) (SOps.nil ?_))))))))))
 rcases cond_out h with ⟨g1, h⟩ | ⟨g1, h⟩
 ·refine SCode.cond_t rfl g1 (SCode.seq (SCode.region (sa rfl rfl (SOps.nil (SCode.ret ?_)))))
  obtain rfl := Option.some.inj h
  exact ⟨⟨[(2, .c (.bool false))], []⟩, _, sub_gen [] rfl rfl (zall rfl rfl) trivial, resA1 (v := .c (.bool false)) rfl rfl, rfl⟩
 refine SCode.cond_f rfl g1 (SCode.skip ?_)
 let S3 := (⟨[], []⟩ : St)
 refine SCode.join (σ := Unit) (S := fun s => S3) (g := fun s => settle_isCurrency_p2 = some r) ?_ ?_
 rotate_left
 ·refine SCode.seq (SCode.region (sm rfl rfl (sq rfl rfl (q_len_str rfl rfl un9) (sm rfl rfl (SOps.nil (SCode.block ?_))))))
  let S2 := fun (t9_8 : Int) => (⟨[(0, .c (.str a0_s)), (8, ci ((a0_s.size : Int))), (9, ci t9_8)], []⟩ : St)
  refine SCode.sub (st' := (S2 0)) (sub_gen [] rfl rfl (zall rfl rfl) trivial) ?_
  refine (SCode.loop (σ := Nat × Int) (S := fun s => (S2 s.2)) (g := fun s => settle_isCurrency_l14 a0_s s.1 s.2 = some r) (μ := fun s => s.1) (F, 0) h ?_)
  rintro ⟨n_14, t9_8⟩ h
  try dsimp only at h
  show SCode _ _ _ (S2 t9_8) _
  cases n_14 with
  | zero => cases h
  | succ n_14 =>
   rw [settle_isCurrency_l14] at h
   unfold settle_isCurrency_b14 at h
   refine SCode.seq (SCode.region (sq rfl rfl (q_lss rfl rfl rfl) (SOps.nil (SCode.seq ?_))))
   rcases cond_out h with ⟨g15, h⟩ | ⟨g15, h⟩
   ·refine SCode.cond_t rfl g15 (SCode.skip (SCode.seq (SCode.block (SCode.seq (SCode.region (sm rfl rfl (sa rfl rfl (SOps.nil (SCode.seq ?_)))))))))
    obtain ⟨g16, h⟩ := guard_out h
    rcases cond_out h with ⟨g17, h⟩ | ⟨g17, h⟩
    ·refine SCode.region (sm rfl rfl (sm rfl rfl (sq rfl rfl (q_index_str rfl rfl rfl un9 g16.1 g16.2) (sq rfl rfl (q_lss rfl rfl rfl) (sm rfl rfl (SOps.skip rfl 4 16 false rfl rfl (.inl (gT g17)) rfl (SOps.skip rfl 4 16 false rfl rfl (.inl (gT g17)) rfl (SOps.skip rfl 4 16 false rfl rfl (.inl (gT g17)) rfl (SOps.skip rfl 4 16 false rfl rfl (.inl (gT g17)) rfl (sq rfl rfl (q_pick_t rfl rfl g17 rfl) (SOps.nil (SCode.cond_t rfl rfl (SCode.seq (SCode.region (sa rfl rfl ?_)))))))))))))))
     refine SOps.nil (SCode.ret ?_)
     obtain rfl := Option.some.inj h
     exact ⟨⟨[(2, .c (.bool false))], []⟩, _, sub_gen [] rfl rfl (zall rfl rfl) trivial, resA1 (v := .c (.bool false)) rfl rfl, rfl⟩
    obtain ⟨g18, h⟩ := guard_out h
    refine SCode.region (sm rfl rfl (sm rfl rfl (sq rfl rfl (q_index_str rfl rfl rfl un9 g16.1 g16.2) (sq rfl rfl (q_lss rfl rfl rfl) (sm rfl rfl (SOps.q rfl (.guard 4 16 false rfl rfl (gF g17)) rfl (q_move rfl rfl) (SOps.q rfl (.guard 4 16 false rfl rfl (gF g17)) rfl (q_move rfl rfl) (SOps.q rfl (.guard 4 16 false rfl rfl (gF g17)) rfl (q_index_str rfl rfl rfl un9 g18.1 g18.2) (SOps.q rfl (.guard 4 16 false rfl rfl (gF g17)) rfl (q_gtr rfl rfl rfl) (sq rfl rfl (q_pick_f rfl rfl g17 rfl) (SOps.nil ?_)))))))))))
    rcases cond_out h with ⟨g19, h⟩ | ⟨g19, h⟩
    ·refine SCode.cond_t rfl g19 (SCode.seq (SCode.region (sa rfl rfl (SOps.nil (SCode.ret ?_)))))
     obtain rfl := Option.some.inj h
     exact ⟨⟨[(2, .c (.bool false))], []⟩, _, sub_gen [] rfl rfl (zall rfl rfl) trivial, resA1 (v := .c (.bool false)) rfl rfl, rfl⟩
    refine SCode.cond_f rfl g19 (SCode.skip (SCode.region (sq rfl rfl (q_add rfl rfl rfl) (sm rfl rfl (SOps.nil ?_)))))
    exact ⟨(n_14, IntKind.wrap .i64 (t9_8 + 1)), h, Nat.lt_succ_self n_14, sub_gen [] rfl rfl (zall rfl rfl) trivial⟩
   refine SCode.cond_f rfl g15 (SCode.exit ?_)
   exact ⟨(), h, sub_gen [] rfl rfl trivial trivial⟩
 rintro ⟨⟩ h
 show SCode _ _ _ S3 _
 try dsimp only at h
 unfold settle_isCurrency_p2 at h
 refine SCode.seq (SCode.region (sa rfl rfl (SOps.nil (SCode.ret ?_))))
 obtain rfl := Option.some.inj h
 exact ⟨⟨[(2, .c (.bool true))], []⟩, _, sub_gen [] rfl rfl (zall rfl rfl) trivial, resA1 (v := .c (.bool true)) rfl rfl, rfl⟩
theorem settle_checkBalance_ok (F : Nat) (a0_b : SBalance) (r : Int) (h : settle_checkBalance F a0_b = some r) :
  SFun Try.prog 20 [] [.a (bSBalance a0_b)] (fun x _ => x = ci r) := by
 refine SFun.of (n := 24) Try.func20 rfl rfl rfl ?_
 unfold settle_checkBalance at h
 show SCode _ _ _ ⟨[(0, .a (bSBalance a0_b))], []⟩ _
 refine SCode.seq (SCode.region (se rfl rfl (e_box rfl rfl rfl rfl rfl rfl) (sa rfl rfl (SOps.nil (SCode.seq (SCode.seq ?_))))))
 obtain ⟨c_1, g2, h⟩ := bind_out h
 try dsimp only at h
 refine SCode.region (sq rfl rfl (q_field_ptr rfl rfl fd35_0) (sq rfl rfl (q_load_ptr rfl rfl rfl rfl ty9) (sq rfl rfl (q_field_ptr rfl rfl fd35_1) (sq rfl rfl (q_load_ptr rfl rfl rfl rfl ty9) (sq rfl rfl (q_call (settle_parties_ok F a0_b.Creditor a0_b.Debtor c_1 g2) [] rfl fn38 ⟨⟨_, rfl, .inl ⟨rfl, rfl⟩⟩, ⟨_, rfl, .inl ⟨rfl, rfl⟩⟩, trivial⟩ (.inl rfl)) (sa rfl rfl (SOps.nil (SCode.seq (SCode.region (sm rfl rfl (sq rfl rfl (q_neq rfl rfl rfl) (SOps.nil ?_))))))))))))
 rcases cond_out h with ⟨g3, h⟩ | ⟨g3, h⟩
 ·refine SCode.cond_t rfl g3 (SCode.seq (SCode.region (sm rfl rfl (sa rfl rfl (SOps.nil (SCode.ret ?_))))))
  obtain rfl := Option.some.inj h
  exact ⟨⟨[(2, ci c_1)], []⟩, _, sub_gen [] rfl rfl (zall rfl rfl) trivial, resA1 (v := .c (.int .i64 c_1)) rfl rfl, rfl⟩
 refine SCode.cond_f rfl g3 (SCode.skip (SCode.seq (SCode.seq ?_)))
 obtain ⟨c_4, g5, h⟩ := bind_out h
 try dsimp only at h
 refine SCode.region (sq rfl rfl (q_field_ptr rfl rfl fd35_2) (sq rfl rfl (q_load_ptr rfl rfl rfl rfl ty9) (sq rfl rfl (q_call (settle_isCurrency_ok F a0_b.Currency c_4 g5) [] rfl fn39 ⟨⟨_, rfl, .inl ⟨rfl, rfl⟩⟩, trivial⟩ (.inl rfl)) (sq rfl rfl (q_not rfl rfl) (SOps.nil ?_)))))
 rcases cond_out h with ⟨g6, h⟩ | ⟨g6, h⟩
 ·refine SCode.cond_t rfl g6 (SCode.seq (SCode.region (sa rfl rfl (SOps.nil (SCode.ret ?_)))))
  obtain rfl := Option.some.inj h
  exact ⟨⟨[(2, ci 21)], []⟩, _, sub_gen [] rfl rfl (zall rfl rfl) trivial, resA1 (v := .c (.int .i64 21)) rfl rfl, rfl⟩
 refine SCode.cond_f rfl g6 (SCode.skip (SCode.seq (SCode.seq ?_)))
 rcases cond_out h with ⟨g7, h⟩ | ⟨g7, h⟩
 ·refine SCode.region (sq rfl rfl (q_field_ptr rfl rfl fd35_3) (sq rfl rfl (q_load_ptr rfl rfl rfl rfl ty3) (sq rfl rfl (q_lss rfl rfl rfl) (sm rfl rfl (SOps.skip rfl 3 19 false rfl rfl (.inl (gT g7)) rfl (SOps.skip rfl 3 19 false rfl rfl (.inl (gT g7)) rfl (SOps.skip rfl 3 19 false rfl rfl (.inl (gT g7)) rfl (sq rfl rfl (q_pick_t rfl rfl g7 rfl) (SOps.sub (st' := ⟨[(23, .c (.bool true))], []⟩) (sub_gen [] rfl rfl (zall rfl rfl) trivial) (SOps.nil (SCode.cond_t rfl rfl (SCode.seq (SCode.region (sa rfl rfl (SOps.nil ?_)))))))))))))))
  refine SCode.ret ?_
  obtain rfl := Option.some.inj h
  exact ⟨⟨[(2, ci 2)], []⟩, _, sub_gen [] rfl rfl (zall rfl rfl) trivial, resA1 (v := .c (.int .i64 2)) rfl rfl, rfl⟩
 refine SCode.region (sq rfl rfl (q_field_ptr rfl rfl fd35_3) (sq rfl rfl (q_load_ptr rfl rfl rfl rfl ty3) (sq rfl rfl (q_lss rfl rfl rfl) (sm rfl rfl (SOps.q rfl (.guard 3 19 false rfl rfl (gF g7)) rfl (q_field_ptr rfl rfl fd35_3) (SOps.q rfl (.guard 3 19 false rfl rfl (gF g7)) rfl (q_load_ptr rfl rfl rfl rfl ty3) (SOps.q rfl (.guard 3 19 false rfl rfl (gF g7)) rfl (q_gtr rfl rfl rfl) (sq rfl rfl (q_pick_f rfl rfl g7 rfl) (SOps.sub (st' := ⟨[(23, .c (.bool (decide (1099511627776 < a0_b.Amount))))], []⟩) (sub_gen [] rfl rfl (zall rfl rfl) trivial) (SOps.nil ?_))))))))))
 rcases cond_out h with ⟨g8, h⟩ | ⟨g8, h⟩
 ·refine SCode.cond_t rfl g8 (SCode.seq (SCode.region (sa rfl rfl (SOps.nil (SCode.ret ?_)))))
  obtain rfl := Option.some.inj h
  exact ⟨⟨[(2, ci 2)], []⟩, _, sub_gen [] rfl rfl (zall rfl rfl) trivial, resA1 (v := .c (.int .i64 2)) rfl rfl, rfl⟩
 refine SCode.cond_f rfl g8 (SCode.skip (SCode.seq (SCode.region (sa rfl rfl (SOps.nil (SCode.ret ?_))))))
 obtain rfl := Option.some.inj h
 exact ⟨⟨[(2, ci 0)], []⟩, _, sub_gen [] rfl rfl (zall rfl rfl) trivial, resA1 (v := .c (.int .i64 0)) rfl rfl, rfl⟩
theorem settle_net_ok (F : Nat) (a0_positions : List (ByteArray × Int)) (a1_currency : ByteArray) (r : List SBalance) (h : settle_net F a0_positions a1_currency = some r) :
  SFun Try.prog 23 [.map a0_positions.length (kG a0_positions) (vG (mC (cInt .i64)) 0 a0_positions)] [.c (.mp 0), .c (.str a1_currency)] (fun x os => x = .c (vSBalance r) ∧ os = [.map a0_positions.length (kG a0_positions) (vG (mC (cInt .i64)) 0 a0_positions)]) := by
 refine SFun.of (n := 101) Try.func23 rfl rfl rfl ?_
 unfold settle_net at h
 show SCode _ _ _ ⟨[(0, .c (.mp 0)), (1, .c (.str a1_currency))], [.map a0_positions.length (kG a0_positions) (vG (mC (cInt .i64)) 0 a0_positions)]⟩ _
 refine SCode.seq (SCode.region (sa rfl rfl (SOps.nil (SCode.seq ?_))))
 obtain ⟨g1, h⟩ := guard_out h
 refine SCode.region (sm rfl rfl (se rfl rfl (e_keys keysC43 rfl fn43 rfl rfl rfl) (se rfl rfl (e_sortK (l := a0_positions) sortedC43 g1 rfl fn21 rfl rfl rfl rfl rfl) (sa rfl rfl (SOps.nil (SCode.seq ?_))))))
 obtain ⟨g2, h⟩ := guard_out h
 refine SCode.region (sm rfl rfl (sq rfl rfl (q_len_own rfl rfl sl57) (se rfl rfl (e_makeL (c := (cInt .i64)) (d0 := 0) rfl rfl rfl rfl rfl sl70 z3 rfl rfl rfl g2.1 (Int.le_refl _) g2.2.1 g2.2.2) (sa rfl rfl (SOps.nil ?_)))))
 let S168 := fun (o2_3 : List Int) => (⟨[(1, .c (.str a1_currency)), (5, .c (.own 1 (sortB (a0_positions.map Prod.fst)).length)), (6, .c (.own 2 o2_3.length))], [.map a0_positions.length (kG a0_positions) (vG (mC (cInt .i64)) 0 a0_positions), .arr 9 1 (sortB (a0_positions.map Prod.fst)).length (gL cStr ByteArray.empty (sortB (a0_positions.map Prod.fst))), aI 3 o2_3]⟩ : St)
 refine SCode.join (σ := (List Int)) (S := fun s => (S168 s)) (g := fun s => settle_net_p186 F a0_positions a1_currency s = some r) ?_ ?_
 rotate_left
 ·refine SCode.seq (SCode.region (sm rfl rfl (sq rfl rfl (q_len_own rfl rfl sl57) (sm rfl rfl (SOps.nil (SCode.block ?_))))))
  let S167 := fun (t23_190 : Int) => fun (o2_191 : List Int) => (⟨[(0, .c (.mp 0)), (1, .c (.str a1_currency)), (5, .c (.own 1 (sortB (a0_positions.map Prod.fst)).length)), (6, .c (.own 2 o2_191.length)), (21, .c (.own 1 (sortB (a0_positions.map Prod.fst)).length)), (22, ci (((sortB (a0_positions.map Prod.fst)).length : Int))), (23, ci t23_190)], [.map a0_positions.length (kG a0_positions) (vG (mC (cInt .i64)) 0 a0_positions), .arr 9 1 (sortB (a0_positions.map Prod.fst)).length (gL cStr ByteArray.empty (sortB (a0_positions.map Prod.fst))), aI 3 o2_191]⟩ : St)
  refine SCode.sub (st' := (S167 0 (List.replicate (((sortB (a0_positions.map Prod.fst)).length : Int)).toNat (0 : Int)))) (sub_gen [0, 2, 3] rfl rfl (zall rfl rfl) ⟨rfl, oa rfl, oa rfl, trivial⟩) ?_
  refine (SCode.loop (σ := Nat × (Int × (List Int))) (S := fun s => (S167 s.2.1 s.2.2)) (g := fun s => settle_net_l195 F a0_positions a1_currency s.1 s.2.1 s.2.2 = some r) (μ := fun s => s.1) (F, (0, List.replicate (((sortB (a0_positions.map Prod.fst)).length : Int)).toNat (0 : Int))) h ?_)
  rintro ⟨n_195, ⟨t23_190, o2_191⟩⟩ h
  try dsimp only at h
  show SCode _ _ _ (S167 t23_190 o2_191) _
  cases n_195 with
  | zero => cases h
  | succ n_195 =>
   rw [settle_net_l195] at h
   unfold settle_net_b195 at h
   refine SCode.seq (SCode.region (sq rfl rfl (q_lss rfl rfl rfl) (SOps.nil (SCode.seq ?_))))
   rcases cond_out h with ⟨g196, h⟩ | ⟨g196, h⟩
   ·refine SCode.cond_t rfl g196 (SCode.skip (SCode.seq (SCode.block (SCode.seq ?_))))
    obtain ⟨g197, h⟩ := guard_out h
    refine SCode.region (sm rfl rfl (sq rfl rfl (q_index_own rfl rfl rfl sl57 g197.1 g197.2) (sq rfl rfl (q_load_aptr rfl rfl rfl (toNat_lt g197) rfl ty9) (sa rfl rfl (sa rfl rfl (SOps.nil ?_))))))
    obtain ⟨g198, h⟩ := guard_out h
    refine SCode.region (sm rfl rfl (sm rfl rfl (sm rfl rfl (sm rfl rfl (sq rfl rfl (q_lookup (mv := (mC (cInt .i64))) (d0 := 0) (l := a0_positions) (s := (sortB (a0_positions.map Prod.fst)).getD t23_190.toNat ByteArray.empty) rfl rfl rfl rfl mp56 z3 rfl) (sq rfl rfl (q_index_own rfl rfl rfl sl70 g198.1 g198.2) (se rfl rfl (e_storeL ((alook a0_positions ((sortB (a0_positions.map Prod.fst)).getD t23_190.toNat ByteArray.empty)).getD 0) rfl rfl rfl rfl rfl (toNat_lt g198) ty3 rfl rfl rfl rfl rfl rfl) ?_)))))))
    let y2 := sortB (a0_positions.map Prod.fst)
    let y1 := o2_191.set t23_190.toNat ((alook a0_positions (y2.getD t23_190.toNat ByteArray.empty)).getD 0)
    refine SOps.sub (st' := ⟨[(0, .c (.mp 0)), (1, .c (.str a1_currency)), (5, .c (.own 1 y2.length)), (6, .c (.own 2 y1.length)), (21, .c (.own 1 y2.length)), (22, ci ((y2.length : Int))), (23, ci t23_190)], [.map a0_positions.length (kG a0_positions) (vG (mC (cInt .i64)) 0 a0_positions), .arr 9 1 y2.length (gL cStr ByteArray.empty y2), aI 3 y1]⟩) (sub_gen [0, 1, 2] rfl rfl ⟨zc rfl rfl, zc rfl rfl, zc rfl rfl, ⟨_, rfl, .inl ⟨rfl, congrArg (Cell.own 2) (List.length_set : y1.length = o2_191.length).symm⟩⟩, zc rfl rfl, zc rfl rfl, zc rfl rfl, trivial⟩ ⟨rfl, oa rfl, oa rfl, trivial⟩) (SOps.nil (SCode.region (sq rfl rfl (q_add rfl rfl rfl) (sm rfl rfl (SOps.nil ?_)))))
    exact ⟨(n_195, (IntKind.wrap .i64 (t23_190 + 1), o2_191.set t23_190.toNat ((alook a0_positions ((sortB (a0_positions.map Prod.fst)).getD t23_190.toNat ByteArray.empty)).getD 0))), h, Nat.lt_succ_self n_195, sub_gen [0, 1, 2] rfl rfl (zall rfl rfl) ⟨rfl, oa rfl, oa rfl, trivial⟩⟩
   refine SCode.cond_f rfl g196 (SCode.exit ?_)
   exact ⟨o2_191, h, sub_gen [0, 1, 2] rfl rfl (zall rfl rfl) ⟨rfl, oa rfl, oa rfl, trivial⟩⟩
 rintro o2_3 h
 show SCode _ _ _ (S168 o2_3) _
 try dsimp only at h
 unfold settle_net_p186 at h
 refine SCode.seq (SCode.region (sa rfl rfl (SOps.nilArrL (T := 35) (k := 4) cSBalance dSBalance (s := 9) rfl rfl (SOps.nil ?_))))
 let S166 := fun (o1_4 : List SBalance) => (⟨[(9, .c (.own 1 o1_4.length))], [.map a0_positions.length (kG a0_positions) (vG (mC (cInt .i64)) 0 a0_positions), aSBalance 35 o1_4]⟩ : St)
 refine SCode.join (σ := (List SBalance)) (S := fun s => (S166 s)) (g := fun s => settle_net_p5 s = some r) ?_ ?_
 rotate_left
 ·refine SCode.block ?_
  let S165 := fun (o2_65 : List Int) => fun (o3_66 : List SBalance) => (⟨[(1, .c (.str a1_currency)), (5, .c (.own 1 (sortB (a0_positions.map Prod.fst)).length)), (6, .c (.own 2 o2_65.length)), (9, .c (.own 3 o3_66.length))], [.map a0_positions.length (kG a0_positions) (vG (mC (cInt .i64)) 0 a0_positions), .arr 9 1 (sortB (a0_positions.map Prod.fst)).length (gL cStr ByteArray.empty (sortB (a0_positions.map Prod.fst))), aI 3 o2_65, aSBalance 35 o3_66]⟩ : St)
  refine SCode.sub (st' := (S165 o2_3 (([] : List SBalance)))) (sub_gen [0, 1, 2, 3] rfl rfl (zall rfl rfl) ⟨rfl, oa rfl, oa rfl, oa rfl, trivial⟩) ?_
  refine (SCode.loop (σ := Nat × ((List Int) × (List SBalance))) (S := fun s => (S165 s.2.1 s.2.2)) (g := fun s => settle_net_l126 F a0_positions a1_currency s.1 s.2.1 s.2.2 = some r) (μ := fun s => s.1) (F, (o2_3, ([] : List SBalance))) h ?_)
  rintro ⟨n_126, ⟨o2_65, o3_66⟩⟩ h
  try dsimp only at h
  show SCode _ _ _ (S165 o2_65 o3_66) _
  cases n_126 with
  | zero => cases h
  | succ n_126 =>
   rw [settle_net_l126] at h
   unfold settle_net_b126 at h
   refine SCode.seq (SCode.seq (SCode.region (sm rfl rfl (sq rfl rfl (q_len_own rfl rfl sl70) (sq rfl rfl (q_gtr rfl rfl rfl) (SOps.nil ?_))))))
   rcases cond_out h with ⟨g127, h⟩ | ⟨g127, h⟩
   ·refine SCode.cond_t rfl g127 (SCode.skip (SCode.block (SCode.seq (SCode.region (sa rfl rfl (sa rfl rfl (SOps.nil ?_)))))))
    let S164 := fun (greatest_128 : Int) => fun (least_129 : Int) => (⟨[(1, .c (.str a1_currency)), (5, .c (.own 1 (sortB (a0_positions.map Prod.fst)).length)), (6, .c (.own 2 o2_65.length)), (9, .c (.own 3 o3_66.length)), (10, ci greatest_128), (11, ci least_129)], [.map a0_positions.length (kG a0_positions) (vG (mC (cInt .i64)) 0 a0_positions), .arr 9 1 (sortB (a0_positions.map Prod.fst)).length (gL cStr ByteArray.empty (sortB (a0_positions.map Prod.fst))), aI 3 o2_65, aSBalance 35 o3_66]⟩ : St)
    refine SCode.join (σ := Int × Int) (S := fun s => (S164 s.1 s.2)) (g := fun s => settle_net_p140 a0_positions a1_currency o2_65 o3_66 (fun o2_65 o3_66 => settle_net_l126 F a0_positions a1_currency n_126 o2_65 o3_66) s.1 s.2 = some r) ?_ ?_
    rotate_left
    ·refine SCode.seq (SCode.region (sm rfl rfl (sq rfl rfl (q_len_own rfl rfl sl70) (sm rfl rfl (SOps.nil (SCode.block ?_))))))
     let S163 := fun (greatest_161 : Int) => fun (least_162 : Int) => fun (t40_149 : Int) => (⟨[(1, .c (.str a1_currency)), (5, .c (.own 1 (sortB (a0_positions.map Prod.fst)).length)), (6, .c (.own 2 o2_65.length)), (9, .c (.own 3 o3_66.length)), (10, ci greatest_161), (11, ci least_162), (38, .c (.own 2 o2_65.length)), (39, ci (((o2_65).length : Int))), (40, ci t40_149)], [.map a0_positions.length (kG a0_positions) (vG (mC (cInt .i64)) 0 a0_positions), .arr 9 1 (sortB (a0_positions.map Prod.fst)).length (gL cStr ByteArray.empty (sortB (a0_positions.map Prod.fst))), aI 3 o2_65, aSBalance 35 o3_66]⟩ : St)
     refine SCode.sub (st' := (S163 0 0 0)) (sub_gen [0, 1, 2, 3] rfl rfl (zall rfl rfl) ⟨rfl, oa rfl, oa rfl, oa rfl, trivial⟩) ?_
     refine (SCode.loop (σ := Nat × (Int × Int × Int)) (S := fun s => (S163 s.2.1 s.2.2.1 s.2.2.2)) (g := fun s => settle_net_l174 a0_positions a1_currency o2_65 o3_66 (fun o2_65 o3_66 => settle_net_l126 F a0_positions a1_currency n_126 o2_65 o3_66) s.1 s.2.1 s.2.2.1 s.2.2.2 = some r) (μ := fun s => s.1) (F, (0, 0, 0)) h ?_)
     rintro ⟨n_174, ⟨greatest_161, least_162, t40_149⟩⟩ h
     try dsimp only at h
     show SCode _ _ _ (S163 greatest_161 least_162 t40_149) _
     cases n_174 with
     | zero => cases h
     | succ n_174 =>
      rw [settle_net_l174] at h
      unfold settle_net_b174 at h
      refine SCode.seq (SCode.region (sq rfl rfl (q_lss rfl rfl rfl) (SOps.nil (SCode.seq ?_))))
      rcases cond_out h with ⟨g175, h⟩ | ⟨g175, h⟩
      ·refine SCode.cond_t rfl g175 (SCode.skip ?_)
       let S162 := fun (greatest_177 : Int) => fun (least_176 : Int) => (⟨[(1, .c (.str a1_currency)), (5, .c (.own 1 (sortB (a0_positions.map Prod.fst)).length)), (6, .c (.own 2 o2_65.length)), (9, .c (.own 3 o3_66.length)), (10, ci greatest_177), (11, ci least_176), (38, .c (.own 2 o2_65.length)), (39, ci (((o2_65).length : Int))), (40, ci t40_149)], [.map a0_positions.length (kG a0_positions) (vG (mC (cInt .i64)) 0 a0_positions), .arr 9 1 (sortB (a0_positions.map Prod.fst)).length (gL cStr ByteArray.empty (sortB (a0_positions.map Prod.fst))), aI 3 o2_65, aSBalance 35 o3_66]⟩ : St)
       refine SCode.join (σ := Int × Int) (S := fun s => (S162 s.1 s.2)) (g := fun s => settle_net_p178 t40_149 (fun greatest_161 least_162 t40_149 => settle_net_l174 a0_positions a1_currency o2_65 o3_66 (fun o2_65 o3_66 => settle_net_l126 F a0_positions a1_currency n_126 o2_65 o3_66) n_174 greatest_161 least_162 t40_149) s.1 s.2 = some r) ?_ ?_
       rotate_left
       ·refine SCode.block (SCode.seq ?_)
        obtain ⟨g179, h⟩ := guard_out h
        refine SCode.region (sm rfl rfl (sq rfl rfl (q_index_own rfl rfl rfl sl70 g179.1 g179.2) (sq rfl rfl (q_load_aptr rfl rfl rfl (toNat_lt g179) rfl ty3) (sa rfl rfl (sa rfl rfl (SOps.nil ?_))))))
        let S161 := fun (greatest_180 : Int) => (⟨[(1, .c (.str a1_currency)), (5, .c (.own 1 (sortB (a0_positions.map Prod.fst)).length)), (6, .c (.own 2 o2_65.length)), (9, .c (.own 3 o3_66.length)), (10, ci greatest_180), (11, ci least_162), (12, ci t40_149), (13, ci (o2_65.getD t40_149.toNat 0)), (38, .c (.own 2 o2_65.length)), (39, ci (((o2_65).length : Int))), (40, ci t40_149)], [.map a0_positions.length (kG a0_positions) (vG (mC (cInt .i64)) 0 a0_positions), .arr 9 1 (sortB (a0_positions.map Prod.fst)).length (gL cStr ByteArray.empty (sortB (a0_positions.map Prod.fst))), aI 3 o2_65, aSBalance 35 o3_66]⟩ : St)
        refine SCode.join (σ := Int) (S := fun s => (S161 s)) (g := fun s => settle_net_p183 o2_65 t40_149 least_162 (fun greatest_161 least_162 t40_149 => settle_net_l174 a0_positions a1_currency o2_65 o3_66 (fun o2_65 o3_66 => settle_net_l126 F a0_positions a1_currency n_126 o2_65 o3_66) n_174 greatest_161 least_162 t40_149) s = some r) ?_ ?_
        rotate_left
        ·refine SCode.seq ?_
         obtain ⟨g184, h⟩ := guard_out h
         refine SCode.region (sm rfl rfl (sm rfl rfl (sm rfl rfl (sq rfl rfl (q_index_own rfl rfl rfl sl70 g184.1 g184.2) (sq rfl rfl (q_load_aptr rfl rfl rfl (toNat_lt g184) rfl ty3) (sq rfl rfl (q_gtr rfl rfl rfl) (SOps.nil ?_)))))))
         rcases cond_out h with ⟨g185, h⟩ | ⟨g185, h⟩
         ·refine SCode.cond_t rfl g185 (SCode.region (sm rfl rfl (sa rfl rfl (SOps.nil ?_))))
          exact ⟨t40_149, h, sub_gen [0, 1, 2, 3] rfl rfl (zall rfl rfl) ⟨rfl, oa rfl, oa rfl, oa rfl, trivial⟩⟩
         refine SCode.cond_f rfl g185 (SCode.skip ?_)
         exact ⟨greatest_161, h, sub_gen [0, 1, 2, 3] rfl rfl (zall rfl rfl) ⟨rfl, oa rfl, oa rfl, oa rfl, trivial⟩⟩
        rintro greatest_180 h
        show SCode _ _ _ (S161 greatest_180) _
        try dsimp only at h
        unfold settle_net_p183 at h
        refine SCode.seq ?_
        obtain ⟨g181, h⟩ := guard_out h
        refine SCode.region (sm rfl rfl (sm rfl rfl (sm rfl rfl (sq rfl rfl (q_index_own rfl rfl rfl sl70 g181.1 g181.2) (sq rfl rfl (q_load_aptr rfl rfl rfl (toNat_lt g181) rfl ty3) (sq rfl rfl (q_lss rfl rfl rfl) (SOps.nil ?_)))))))
        rcases cond_out h with ⟨g182, h⟩ | ⟨g182, h⟩
        ·refine SCode.cond_t rfl g182 (SCode.region (sm rfl rfl (sa rfl rfl (SOps.nil ?_))))
         exact ⟨(greatest_180, t40_149), h, sub_gen [0, 1, 2, 3] rfl rfl (zall rfl rfl) ⟨rfl, oa rfl, oa rfl, oa rfl, trivial⟩⟩
        refine SCode.cond_f rfl g182 (SCode.skip ?_)
        exact ⟨(greatest_180, least_162), h, sub_gen [0, 1, 2, 3] rfl rfl (zall rfl rfl) ⟨rfl, oa rfl, oa rfl, oa rfl, trivial⟩⟩
       rintro ⟨greatest_177, least_176⟩ h
       show SCode _ _ _ (S162 greatest_177 least_176) _
       try dsimp only at h
       unfold settle_net_p178 at h
       refine SCode.region (sq rfl rfl (q_add rfl rfl rfl) (sm rfl rfl (SOps.nil ?_)))
       exact ⟨(n_174, (greatest_177, least_176, IntKind.wrap .i64 (t40_149 + 1))), h, Nat.lt_succ_self n_174, sub_gen [0, 1, 2, 3] rfl rfl (zall rfl rfl) ⟨rfl, oa rfl, oa rfl, oa rfl, trivial⟩⟩
      refine SCode.cond_f rfl g175 (SCode.exit ?_)
      exact ⟨(greatest_161, least_162), h, sub_gen [0, 1, 2, 3] rfl rfl (zall rfl rfl) ⟨rfl, oa rfl, oa rfl, oa rfl, trivial⟩⟩
    rintro ⟨greatest_128, least_129⟩ h
    show SCode _ _ _ (S164 greatest_128 least_129) _
    try dsimp only at h
    unfold settle_net_p140 at h
    refine SCode.seq ?_
    obtain ⟨g130, h⟩ := guard_out h
    obtain ⟨g131, h⟩ := guard_out h
    refine SCode.drawK mixed [[], [], [0, 1], [0, 1, 2], [], [], [4, 5], [4, 5, 6], [4, 5, 6, 7], [0, 1, 2, 3, 4, 5, 6, 7, 8], [0, 1, 2, 3, 4, 5, 6, 7, 8, 9]] 11 0 rfl rfl (qm rfl rfl (qm rfl rfl (qr rfl rfl (q_index_own rfl rfl rfl sl70 g130.1 g130.2) (qr rfl rfl (q_load_aptr rfl rfl rfl (toNat_lt g130) rfl ty3) (qm rfl rfl (qm rfl rfl (qr rfl rfl (q_index_own rfl rfl rfl sl70 g131.1 g131.2) (qr rfl rfl (q_load_aptr rfl rfl rfl (toNat_lt g131) rfl ty3) (qr rfl rfl (q_neg rfl rfl) (qr rfl rfl (q_min rfl rfl rfl) (qr rfl rfl (q_assign rfl rfl) (QK.nil (SOps.sub (st' := ⟨[(1, .c (.str a1_currency)), (5, .c (.own 1 (sortB (a0_positions.map Prod.fst)).length)), (6, .c (.own 2 o2_65.length)), (9, .c (.own 3 o3_66.length)), (10, ci greatest_128), (11, ci least_129), (14, ci ((if IntKind.wrap .i64 (0 - o2_65.getD least_129.toNat 0) < o2_65.getD greatest_128.toNat 0 then IntKind.wrap .i64 (0 - o2_65.getD least_129.toNat 0) else o2_65.getD greatest_128.toNat 0)))], [.map a0_positions.length (kG a0_positions) (vG (mC (cInt .i64)) 0 a0_positions), .arr 9 1 (sortB (a0_positions.map Prod.fst)).length (gL cStr ByteArray.empty (sortB (a0_positions.map Prod.fst))), aI 3 o2_65, aSBalance 35 o3_66]⟩) (sub_gen [0, 1, 2, 3] rfl rfl (zall rfl rfl) ⟨rfl, oa rfl, oa rfl, oa rfl, trivial⟩) (SOps.nil (SCode.seq ?_)))))))))))))))
    refine SCode.seq (SCode.region (sm rfl rfl (sq rfl rfl (q_leq rfl rfl rfl) (SOps.nil ?_))))
    rcases cond_out h with ⟨g132, h⟩ | ⟨g132, h⟩
    ·refine SCode.cond_t rfl g132 (SCode.exit ?_)
     exact ⟨o3_66, h, sub_gen [0, 3] rfl rfl (zall rfl rfl) ⟨rfl, oa rfl, trivial⟩⟩
    refine SCode.cond_f rfl g132 (SCode.skip (SCode.seq (SCode.sub (st' := ⟨[(1, .c (.str a1_currency)), (5, .c (.own 1 (sortB (a0_positions.map Prod.fst)).length)), (6, .c (.own 2 o2_65.length)), (9, .c (.own 3 o3_66.length)), (10, ci greatest_128), (11, ci least_129), (14, ci ((if IntKind.wrap .i64 (0 - o2_65.getD least_129.toNat 0) < o2_65.getD greatest_128.toNat 0 then IntKind.wrap .i64 (0 - o2_65.getD least_129.toNat 0) else o2_65.getD greatest_128.toNat 0)))], [.map a0_positions.length (kG a0_positions) (vG (mC (cInt .i64)) 0 a0_positions), .arr 9 1 (sortB (a0_positions.map Prod.fst)).length (gL cStr ByteArray.empty (sortB (a0_positions.map Prod.fst))), aI 3 o2_65, aSBalance 35 o3_66]⟩) (sub_gen [0, 1, 2, 3] rfl rfl (zall rfl rfl) ⟨rfl, oa rfl, oa rfl, oa rfl, trivial⟩) ?_)))
    obtain ⟨g133, h⟩ := guard_out h
    obtain ⟨g134, h⟩ := guard_out h
    obtain ⟨g135, h⟩ := guard_out h
    refine SCode.drawK mixed [[], [], [], [1, 2], [1, 2, 3], [], [], [5, 6], [5, 6, 7], [], [], [1, 2, 3, 4, 5, 6, 7, 8, 9, 10], [1, 2, 3, 4, 5, 6, 7, 8, 9, 10, 11], [0, 1, 2, 3, 4, 5, 6, 7, 8, 9, 10, 11, 12], [0, 1, 2, 3, 4, 5, 6, 7, 8, 9, 10, 11, 12, 13]] 13 2 rfl rfl (qm rfl rfl (qm rfl rfl (qm rfl rfl (qr rfl rfl (q_index_own rfl rfl rfl sl57 g133.1 g133.2) (qr rfl rfl (q_load_aptr rfl rfl rfl (toNat_lt g133) rfl ty9) (qm rfl rfl (qm rfl rfl (qr rfl rfl (q_index_own rfl rfl rfl sl57 g134.1 g134.2) (qr rfl rfl (q_load_aptr rfl rfl rfl (toNat_lt g134) rfl ty9) (qm rfl rfl (qm rfl rfl (qr rfl rfl (q_build2 rfl rfl pl35 rfl) (qr rfl rfl (q_bsliceL (c := cSBalance) (d0 := dSBalance) [SBalance.mk ((sortB (a0_positions.map Prod.fst)).getD greatest_128.toNat ByteArray.empty) ((sortB (a0_positions.map Prod.fst)).getD least_129.toNat ByteArray.empty) a1_currency ((if IntKind.wrap .i64 (0 - o2_65.getD least_129.toNat 0) < o2_65.getD greatest_128.toNat 0 then IntKind.wrap .i64 (0 - o2_65.getD least_129.toNat 0) else o2_65.getD greatest_128.toNat 0))] rfl rfl sl22 z35 rfl rfl rfl rfl rfl rfl rfl) (QK.nil (se rfl rfl (e_appendL (c := cSBalance) (d0 := dSBalance) (l := o3_66) (l2 := [SBalance.mk ((sortB (a0_positions.map Prod.fst)).getD greatest_128.toNat ByteArray.empty) ((sortB (a0_positions.map Prod.fst)).getD least_129.toNat ByteArray.empty) a1_currency ((if IntKind.wrap .i64 (0 - o2_65.getD least_129.toNat 0) < o2_65.getD greatest_128.toNat 0 then IntKind.wrap .i64 (0 - o2_65.getD least_129.toNat 0) else o2_65.getD greatest_128.toNat 0))]) rfl rfl rfl rfl rfl rfl (.inl rfl) sl22 z35 rfl rfl oneSBalance g135.1 g135.2) ?_)))))))))))))))
    refine sa rfl rfl ?_
    let y3 := sortB (a0_positions.map Prod.fst)
    let y4 := 0 - o2_65.getD least_129.toNat 0
    refine SOps.sub (st' := ⟨[(1, .c (.str a1_currency)), (5, .c (.own 1 y3.length)), (6, .c (.own 2 o2_65.length)), (9, .c (.own 3 (o3_66 ++ ([SBalance.mk (y3.getD greatest_128.toNat ByteArray.empty) (y3.getD least_129.toNat ByteArray.empty) a1_currency ((if IntKind.wrap .i64 y4 < o2_65.getD greatest_128.toNat 0 then IntKind.wrap .i64 y4 else o2_65.getD greatest_128.toNat 0))])).length)), (10, ci greatest_128), (11, ci least_129), (14, ci ((if IntKind.wrap .i64 y4 < o2_65.getD greatest_128.toNat 0 then IntKind.wrap .i64 y4 else o2_65.getD greatest_128.toNat 0)))], [.map a0_positions.length (kG a0_positions) (vG (mC (cInt .i64)) 0 a0_positions), .arr 9 1 y3.length (gL cStr ByteArray.empty y3), aI 3 o2_65, aSBalance 35 (o3_66 ++ ([SBalance.mk (y3.getD greatest_128.toNat ByteArray.empty) (y3.getD least_129.toNat ByteArray.empty) a1_currency ((if IntKind.wrap .i64 y4 < o2_65.getD greatest_128.toNat 0 then IntKind.wrap .i64 y4 else o2_65.getD greatest_128.toNat 0))]))]⟩) (sub_gen [0, 1, 2, 4] rfl rfl (zall rfl rfl) ⟨rfl, oa rfl, oa rfl, oa rfl, trivial⟩) (SOps.nil (SCode.seq ?_))
    obtain ⟨g136, h⟩ := guard_out h
    obtain ⟨g137, h⟩ := guard_out h
    refine SCode.region (sm rfl rfl (sm rfl rfl (sq rfl rfl (q_index_own rfl rfl rfl sl70 g136.1 g136.2) (sq rfl rfl (q_load_aptr rfl rfl rfl (toNat_lt g136) rfl ty3) (sm rfl rfl (sq rfl rfl (q_sub rfl rfl rfl) (sq rfl rfl (q_index_own rfl rfl rfl sl70 g137.1 g137.2) (se rfl rfl (e_storeL (IntKind.wrap .i64 (o2_65.getD greatest_128.toNat 0 - (if IntKind.wrap .i64 (0 - o2_65.getD least_129.toNat 0) < o2_65.getD greatest_128.toNat 0 then IntKind.wrap .i64 (0 - o2_65.getD least_129.toNat 0) else o2_65.getD greatest_128.toNat 0))) rfl rfl rfl rfl rfl (toNat_lt g137) ty3 rfl rfl rfl rfl rfl rfl) ?_))))))))
    let y5 := 0 - o2_65.getD least_129.toNat 0
    let y6 := sortB (a0_positions.map Prod.fst)
    refine SOps.sub (st' := ⟨[(1, .c (.str a1_currency)), (5, .c (.own 1 y6.length)), (6, .c (.own 2 (o2_65.set greatest_128.toNat (IntKind.wrap .i64 (o2_65.getD greatest_128.toNat 0 - (if IntKind.wrap .i64 y5 < o2_65.getD greatest_128.toNat 0 then IntKind.wrap .i64 y5 else o2_65.getD greatest_128.toNat 0)))).length)), (9, .c (.own 3 (o3_66 ++ ([SBalance.mk (y6.getD greatest_128.toNat ByteArray.empty) (y6.getD least_129.toNat ByteArray.empty) a1_currency ((if IntKind.wrap .i64 y5 < o2_65.getD greatest_128.toNat 0 then IntKind.wrap .i64 y5 else o2_65.getD greatest_128.toNat 0))])).length)), (11, ci least_129), (14, ci ((if IntKind.wrap .i64 y5 < o2_65.getD greatest_128.toNat 0 then IntKind.wrap .i64 y5 else o2_65.getD greatest_128.toNat 0)))], [.map a0_positions.length (kG a0_positions) (vG (mC (cInt .i64)) 0 a0_positions), .arr 9 1 y6.length (gL cStr ByteArray.empty y6), aI 3 (o2_65.set greatest_128.toNat (IntKind.wrap .i64 (o2_65.getD greatest_128.toNat 0 - (if IntKind.wrap .i64 y5 < o2_65.getD greatest_128.toNat 0 then IntKind.wrap .i64 y5 else o2_65.getD greatest_128.toNat 0)))), aSBalance 35 (o3_66 ++ ([SBalance.mk (y6.getD greatest_128.toNat ByteArray.empty) (y6.getD least_129.toNat ByteArray.empty) a1_currency ((if IntKind.wrap .i64 y5 < o2_65.getD greatest_128.toNat 0 then IntKind.wrap .i64 y5 else o2_65.getD greatest_128.toNat 0))]))]⟩) (sub_gen [0, 1, 2, 3] rfl rfl ⟨zc rfl rfl, zc rfl rfl, ⟨_, rfl, .inl ⟨rfl, congrArg (Cell.own 2) (List.length_set : (o2_65.set greatest_128.toNat (IntKind.wrap .i64 (o2_65.getD greatest_128.toNat 0 - (if IntKind.wrap .i64 y5 < o2_65.getD greatest_128.toNat 0 then IntKind.wrap .i64 y5 else o2_65.getD greatest_128.toNat 0)))).length = o2_65.length).symm⟩⟩, zc rfl rfl, zc rfl rfl, zc rfl rfl, trivial⟩ ⟨rfl, oa rfl, oa rfl, oa rfl, trivial⟩) (SOps.nil ?_)
    obtain ⟨g138, h⟩ := guard_out h
    obtain ⟨g139, h⟩ := guard_out h
    refine SCode.region (sm rfl rfl (sm rfl rfl (sq rfl rfl (q_index_own rfl rfl rfl sl70 g138.1 g138.2) (sq rfl rfl (q_load_aptr rfl rfl rfl (toNat_lt g138) rfl ty3) (sm rfl rfl (sq rfl rfl (q_add rfl rfl rfl) (sq rfl rfl (q_index_own rfl rfl rfl sl70 g139.1 g139.2) ?_)))))))
    let y7 := 0 - o2_65.getD least_129.toNat 0
    refine se rfl rfl (e_storeL (IntKind.wrap .i64 ((o2_65.set greatest_128.toNat (IntKind.wrap .i64 (o2_65.getD greatest_128.toNat 0 - (if IntKind.wrap .i64 y7 < o2_65.getD greatest_128.toNat 0 then IntKind.wrap .i64 y7 else o2_65.getD greatest_128.toNat 0)))).getD least_129.toNat 0 + (if IntKind.wrap .i64 y7 < o2_65.getD greatest_128.toNat 0 then IntKind.wrap .i64 y7 else o2_65.getD greatest_128.toNat 0))) rfl rfl rfl rfl rfl (toNat_lt g139) ty3 rfl rfl rfl rfl rfl rfl) ?_
    let y8 := 0 - o2_65.getD least_129.toNat 0
    let y9 := sortB (a0_positions.map Prod.fst)
    refine SOps.sub (st' := ⟨[(1, .c (.str a1_currency)), (5, .c (.own 1 y9.length)), (6, .c (.own 2 ((o2_65.set greatest_128.toNat (IntKind.wrap .i64 (o2_65.getD greatest_128.toNat 0 - (if IntKind.wrap .i64 y8 < o2_65.getD greatest_128.toNat 0 then IntKind.wrap .i64 y8 else o2_65.getD greatest_128.toNat 0)))).set least_129.toNat (IntKind.wrap .i64 ((o2_65.set greatest_128.toNat (IntKind.wrap .i64 (o2_65.getD greatest_128.toNat 0 - (if IntKind.wrap .i64 y8 < o2_65.getD greatest_128.toNat 0 then IntKind.wrap .i64 y8 else o2_65.getD greatest_128.toNat 0)))).getD least_129.toNat 0 + (if IntKind.wrap .i64 y8 < o2_65.getD greatest_128.toNat 0 then IntKind.wrap .i64 y8 else o2_65.getD greatest_128.toNat 0)))).length)), (9, .c (.own 3 (o3_66 ++ ([SBalance.mk (y9.getD greatest_128.toNat ByteArray.empty) (y9.getD least_129.toNat ByteArray.empty) a1_currency ((if IntKind.wrap .i64 y8 < o2_65.getD greatest_128.toNat 0 then IntKind.wrap .i64 y8 else o2_65.getD greatest_128.toNat 0))])).length))], [.map a0_positions.length (kG a0_positions) (vG (mC (cInt .i64)) 0 a0_positions), .arr 9 1 y9.length (gL cStr ByteArray.empty y9), aI 3 ((o2_65.set greatest_128.toNat (IntKind.wrap .i64 (o2_65.getD greatest_128.toNat 0 - (if IntKind.wrap .i64 y8 < o2_65.getD greatest_128.toNat 0 then IntKind.wrap .i64 y8 else o2_65.getD greatest_128.toNat 0)))).set least_129.toNat (IntKind.wrap .i64 ((o2_65.set greatest_128.toNat (IntKind.wrap .i64 (o2_65.getD greatest_128.toNat 0 - (if IntKind.wrap .i64 y8 < o2_65.getD greatest_128.toNat 0 then IntKind.wrap .i64 y8 else o2_65.getD greatest_128.toNat 0)))).getD least_129.toNat 0 + (if IntKind.wrap .i64 y8 < o2_65.getD greatest_128.toNat 0 then IntKind.wrap .i64 y8 else o2_65.getD greatest_128.toNat 0)))), aSBalance 35 (o3_66 ++ ([SBalance.mk (y9.getD greatest_128.toNat ByteArray.empty) (y9.getD least_129.toNat ByteArray.empty) a1_currency ((if IntKind.wrap .i64 y8 < o2_65.getD greatest_128.toNat 0 then IntKind.wrap .i64 y8 else o2_65.getD greatest_128.toNat 0))]))]⟩) (sub_gen [0, 1, 2, 3] rfl rfl ⟨zc rfl rfl, zc rfl rfl, ⟨_, rfl, .inl ⟨rfl, congrArg (Cell.own 2) (List.length_set : ((o2_65.set greatest_128.toNat (IntKind.wrap .i64 (o2_65.getD greatest_128.toNat 0 - (if IntKind.wrap .i64 y8 < o2_65.getD greatest_128.toNat 0 then IntKind.wrap .i64 y8 else o2_65.getD greatest_128.toNat 0)))).set least_129.toNat (IntKind.wrap .i64 ((o2_65.set greatest_128.toNat (IntKind.wrap .i64 (o2_65.getD greatest_128.toNat 0 - (if IntKind.wrap .i64 y8 < o2_65.getD greatest_128.toNat 0 then IntKind.wrap .i64 y8 else o2_65.getD greatest_128.toNat 0)))).getD least_129.toNat 0 + (if IntKind.wrap .i64 y8 < o2_65.getD greatest_128.toNat 0 then IntKind.wrap .i64 y8 else o2_65.getD greatest_128.toNat 0)))).length = (o2_65.set greatest_128.toNat (IntKind.wrap .i64 (o2_65.getD greatest_128.toNat 0 - (if IntKind.wrap .i64 y8 < o2_65.getD greatest_128.toNat 0 then IntKind.wrap .i64 y8 else o2_65.getD greatest_128.toNat 0)))).length).symm⟩⟩, zc rfl rfl, trivial⟩ ⟨rfl, oa rfl, oa rfl, oa rfl, trivial⟩) (SOps.nil ?_)
    let y10 := 0 - o2_65.getD least_129.toNat 0
    exact ⟨(n_126, ((o2_65.set greatest_128.toNat (IntKind.wrap .i64 (o2_65.getD greatest_128.toNat 0 - (if IntKind.wrap .i64 y10 < o2_65.getD greatest_128.toNat 0 then IntKind.wrap .i64 y10 else o2_65.getD greatest_128.toNat 0)))).set least_129.toNat (IntKind.wrap .i64 ((o2_65.set greatest_128.toNat (IntKind.wrap .i64 (o2_65.getD greatest_128.toNat 0 - (if IntKind.wrap .i64 y10 < o2_65.getD greatest_128.toNat 0 then IntKind.wrap .i64 y10 else o2_65.getD greatest_128.toNat 0)))).getD least_129.toNat 0 + (if IntKind.wrap .i64 y10 < o2_65.getD greatest_128.toNat 0 then IntKind.wrap .i64 y10 else o2_65.getD greatest_128.toNat 0))), o3_66 ++ ([SBalance.mk ((sortB (a0_positions.map Prod.fst)).getD greatest_128.toNat ByteArray.empty) ((sortB (a0_positions.map Prod.fst)).getD least_129.toNat ByteArray.empty) a1_currency ((if IntKind.wrap .i64 y10 < o2_65.getD greatest_128.toNat 0 then IntKind.wrap .i64 y10 else o2_65.getD greatest_128.toNat 0))]))), h, Nat.lt_succ_self n_126, sub_gen [0, 1, 2, 3] rfl rfl (zall rfl rfl) ⟨rfl, oa rfl, oa rfl, oa rfl, trivial⟩⟩
   refine SCode.cond_f rfl g127 (SCode.exit ?_)
   exact ⟨o3_66, h, sub_gen [0, 3] rfl rfl (zall rfl rfl) ⟨rfl, oa rfl, trivial⟩⟩
 rintro o1_4 h
 show SCode _ _ _ (S166 o1_4) _
 try dsimp only at h
 unfold settle_net_p5 at h
 refine SCode.seq (SCode.region (sm rfl rfl (sa rfl rfl (SOps.nil (SCode.ret ?_)))))
 obtain rfl := Option.some.inj h
 exact ⟨⟨[(4, .c (vSBalance o1_4))], [.map a0_positions.length (kG a0_positions) (vG (mC (cInt .i64)) 0 a0_positions)]⟩, _, sub_gen [0] rfl rfl ⟨⟨_, rfl, .inr (.inl ⟨_, _, _, _, _, _, _, rfl, rfl, rfl, Nat.le_refl _, fun _ _ _ _ => rfl, nm rfl⟩)⟩, trivial⟩ ⟨rfl, trivial⟩, resA1 (v := .c (vSBalance o1_4)) rfl rfl, ⟨rfl, rfl⟩⟩
theorem settle_Net_ok (F : Nat) (a0_l : List SBalance) (r : (List SBalance) × Int) (h : settle_Net F a0_l = some r) :
  SFun Try.prog 9 [] [.c (vSBalance a0_l)] (fun x _ => x = .t [.c (vSBalance r.1), .c (.int .i64 r.2)]) := by
 refine SFun.of (n := 82) Try.func9 rfl rfl rfl ?_
 unfold settle_Net at h
 show SCode _ _ _ ⟨[(0, .c (vSBalance a0_l))], []⟩ _
 refine SCode.seq (SCode.region (sa rfl rfl (sa rfl rfl (SOps.nil (SCode.seq (SCode.seq (SCode.region (sm rfl rfl (sq rfl rfl (q_len_vec rfl rfl sl22) (sq rfl rfl (q_gtr rfl rfl rfl) (SOps.nil ?_)))))))))))
 rcases cond_out h with ⟨g1, h⟩ | ⟨g1, h⟩
 ·refine SCode.cond_t rfl g1 (SCode.seq (SCode.region (sa rfl rfl (sa rfl rfl (SOps.nil (SCode.ret ?_))))))
  obtain rfl := Option.some.inj h
  exact ⟨⟨[(2, .c (vSBalance (([] : List SBalance)))), (3, ci 3)], []⟩, _, sub_gen [] rfl rfl ⟨⟨_, rfl, .inr (.inr (.inr (.inl ⟨_, _, rfl, rfl⟩)))⟩, zc rfl rfl, trivial⟩ trivial, resA2 (v1 := .c (vSBalance (([] : List SBalance)))) (v2 := .c (.int .i64 3)) rfl rfl rfl, rfl⟩
 refine SCode.cond_f rfl g1 (SCode.skip ?_)
 let S21 := (⟨[(0, .c (vSBalance a0_l))], []⟩ : St)
 refine SCode.join (σ := Unit) (S := fun s => S21) (g := fun s => settle_Net_p52 F a0_l = some r) ?_ ?_
 rotate_left
 ·refine SCode.seq (SCode.region (sm rfl rfl (sq rfl rfl (q_len_vec rfl rfl sl22) (sm rfl rfl (SOps.nil (SCode.block ?_))))))
  let S20 := fun (t18_58 : Int) => (⟨[(0, .c (vSBalance a0_l)), (16, .c (vSBalance a0_l)), (17, ci (((a0_l).length : Int))), (18, ci t18_58)], []⟩ : St)
  refine SCode.sub (st' := (S20 0)) (sub_gen [] rfl rfl (zall rfl rfl) trivial) ?_
  refine (SCode.loop (σ := Nat × Int) (S := fun s => (S20 s.2)) (g := fun s => settle_Net_l64 F a0_l s.1 s.2 = some r) (μ := fun s => s.1) (F, 0) h ?_)
  rintro ⟨n_64, t18_58⟩ h
  try dsimp only at h
  show SCode _ _ _ (S20 t18_58) _
  cases n_64 with
  | zero => cases h
  | succ n_64 =>
   rw [settle_Net_l64] at h
   unfold settle_Net_b64 at h
   refine SCode.seq (SCode.region (sq rfl rfl (q_lss rfl rfl rfl) (SOps.nil (SCode.seq ?_))))
   rcases cond_out h with ⟨g65, h⟩ | ⟨g65, h⟩
   ·refine SCode.cond_t rfl g65 (SCode.skip (SCode.seq (SCode.block (SCode.seq ?_))))
    obtain ⟨g66, h⟩ := guard_out h
    refine SCode.region (sq rfl rfl (q_index_vec rfl rfl rfl sl22 rfl g66.1 g66.2) (sq rfl rfl (q_load_eptr_all rfl rfl rfl ty35) (se rfl rfl (e_alloc rfl rfl rfl z35) (se rfl rfl (e_store_box rfl rfl rfl rfl rfl ty35 rfl rfl rfl rfl) (SOps.nil (SCode.seq ?_))))))
    obtain ⟨c_67, g68, h⟩ := bind_out h
    try dsimp only at h
    refine SCode.region (sq rfl rfl (q_load_ptr_all rfl rfl rfl rfl rfl ty35) (sq rfl rfl (q_call (settle_checkBalance_ok F (a0_l.getD t18_58.toNat dSBalance) c_67 g68) [] rfl fn20 ⟨⟨rfl, rfl⟩, trivial⟩ (.inl rfl)) (sa rfl rfl (SOps.nil (SCode.seq (SCode.region (sm rfl rfl (sq rfl rfl (q_neq rfl rfl rfl) (SOps.nil ?_)))))))))
    rcases cond_out h with ⟨g69, h⟩ | ⟨g69, h⟩
    ·refine SCode.cond_t rfl g69 (SCode.seq (SCode.region (sm rfl rfl (sa rfl rfl (sa rfl rfl (SOps.nil (SCode.ret ?_)))))))
     obtain rfl := Option.some.inj h
     exact ⟨⟨[(2, .c (vSBalance (([] : List SBalance)))), (3, ci c_67)], []⟩, _, sub_gen [] rfl rfl ⟨⟨_, rfl, .inr (.inr (.inr (.inl ⟨_, _, rfl, rfl⟩)))⟩, zc rfl rfl, trivial⟩ trivial, resA2 (v1 := .c (vSBalance (([] : List SBalance)))) (v2 := .c (.int .i64 c_67)) rfl rfl rfl, rfl⟩
    refine SCode.cond_f rfl g69 (SCode.skip (SCode.region (sq rfl rfl (q_add rfl rfl rfl) (sm rfl rfl (SOps.nil ?_)))))
    exact ⟨(n_64, IntKind.wrap .i64 (t18_58 + 1)), h, Nat.lt_succ_self n_64, sub_gen [] rfl rfl (zall rfl rfl) trivial⟩
   refine SCode.cond_f rfl g65 (SCode.exit ?_)
   exact ⟨(), h, sub_gen [] rfl rfl (zall rfl rfl) trivial⟩
 rintro ⟨⟩ h
 show SCode _ _ _ S21 _
 try dsimp only at h
 unfold settle_Net_p52 at h
 refine SCode.seq (SCode.region (se rfl rfl (e_makeMaps (mv := (mC (cInt .i64))) (d0 := 0) rfl rfl rfl mp55 (.inl rfl)) (sa rfl rfl (SOps.sub (st' := ⟨[(0, .c (vSBalance a0_l)), (7, .c (.mp 0))], [mmO (mC (cInt .i64)) 0 (([] : List (ByteArray × (List (ByteArray × Int))))) none]⟩) (sub_gen [0] rfl rfl (zall rfl rfl) ⟨⟨none, rfl, trivial⟩, trivial⟩) (SOps.nil ?_)))))
 let S19 := fun (o0_2 : List (ByteArray × (List (ByteArray × Int)))) => (⟨[(7, .c (.mp 0))], [mmO (mC (cInt .i64)) 0 o0_2 none]⟩ : St)
 refine SCode.join (σ := (List (ByteArray × (List (ByteArray × Int))))) (S := fun s => (S19 s)) (g := fun s => settle_Net_p27 F s = some r) ?_ ?_
 rotate_left
 ·refine SCode.seq (SCode.region (sm rfl rfl (sq rfl rfl (q_len_vec rfl rfl sl22) (sm rfl rfl (SOps.sub (st' := ⟨[(7, .c (.mp 0)), (29, .c (vSBalance a0_l)), (30, ci (((a0_l).length : Int))), (31, ci 0)], [mmO (mC (cInt .i64)) 0 (([] : List (ByteArray × (List (ByteArray × Int))))) none]⟩) (sub_gen [0] rfl rfl (zall rfl rfl) ⟨⟨none, rfl, trivial⟩, trivial⟩) (SOps.nil (SCode.block ?_)))))))
  let S18 := fun (t31_35 : Int) => fun (o0_36 : List (ByteArray × (List (ByteArray × Int)))) => (⟨[(7, .c (.mp 0)), (29, .c (vSBalance a0_l)), (30, ci (((a0_l).length : Int))), (31, ci t31_35)], [mmO (mC (cInt .i64)) 0 o0_36 none]⟩ : St)
  refine SCode.sub (st' := (S18 0 (([] : List (ByteArray × (List (ByteArray × Int))))))) (sub_gen [0] rfl rfl (zall rfl rfl) ⟨⟨none, rfl, trivial⟩, trivial⟩) ?_
  refine (SCode.loop (σ := Nat × (Int × (List (ByteArray × (List (ByteArray × Int)))))) (S := fun s => (S18 s.2.1 s.2.2)) (g := fun s => settle_Net_l44 F a0_l s.1 s.2.1 s.2.2 = some r) (μ := fun s => s.1) (F, (0, ([] : List (ByteArray × (List (ByteArray × Int)))))) h ?_)
  rintro ⟨n_44, ⟨t31_35, o0_36⟩⟩ h
  try dsimp only at h
  show SCode _ _ _ (S18 t31_35 o0_36) _
  cases n_44 with
  | zero => cases h
  | succ n_44 =>
   rw [settle_Net_l44] at h
   unfold settle_Net_b44 at h
   refine SCode.seq (SCode.region (sq rfl rfl (q_lss rfl rfl rfl) (SOps.sub (st' := ⟨[(7, .c (.mp 0)), (29, .c (vSBalance a0_l)), (30, ci (((a0_l).length : Int))), (31, ci t31_35), (32, .c (.bool (decide (t31_35 < ((a0_l).length : Int)))))], [mmO (mC (cInt .i64)) 0 o0_36 none]⟩) (sub_gen [0] rfl rfl (zall rfl rfl) ⟨⟨none, rfl, trivial⟩, trivial⟩) (SOps.nil (SCode.seq ?_)))))
   rcases cond_out h with ⟨g45, h⟩ | ⟨g45, h⟩
   ·refine SCode.cond_t rfl g45 (SCode.skip (SCode.seq (SCode.block (SCode.seq ?_))))
    obtain ⟨g46, h⟩ := guard_out h
    refine SCode.region (sq rfl rfl (q_index_vec rfl rfl rfl sl22 rfl g46.1 g46.2) (sq rfl rfl (q_load_eptr_all rfl rfl rfl ty35) (se rfl rfl (e_alloc rfl rfl rfl z35) (se rfl rfl (e_store_box rfl rfl rfl rfl rfl ty35 rfl rfl rfl rfl) (SOps.sub (st' := ⟨[(7, .c (.mp 0)), (9, .c (.ptr 1 0)), (29, .c (vSBalance a0_l)), (30, ci (((a0_l).length : Int))), (31, ci t31_35)], [mmO (mC (cInt .i64)) 0 o0_36 none, .box (bSBalance (a0_l.getD t31_35.toNat dSBalance))]⟩) (sub_gen [0, 1] rfl rfl (zall rfl rfl) ⟨⟨none, rfl, trivial⟩, bx rfl rfl rfl, trivial⟩) (SOps.nil ?_))))))
    let S17 := fun (o0_47 : List (ByteArray × (List (ByteArray × Int)))) => (⟨[(7, .c (.mp 0)), (9, .c (.ptr 1 0)), (29, .c (vSBalance a0_l)), (30, ci (((a0_l).length : Int))), (31, ci t31_35)], [mmO (mC (cInt .i64)) 0 o0_47 none, .box (bSBalance (a0_l.getD t31_35.toNat dSBalance))]⟩ : St)
    refine SCode.join (σ := (List (ByteArray × (List (ByteArray × Int))))) (S := fun s => (S17 s)) (g := fun s => settle_Net_p50 a0_l t31_35 (fun t31_35 o0_36 => settle_Net_l44 F a0_l n_44 t31_35 o0_36) s = some r) ?_ ?_
    rotate_left
    ·refine SCode.seq ?_
     rcases cond_out h with ⟨g51, h⟩ | ⟨g51, h⟩
     ·refine SCode.region (sm rfl rfl (sq rfl rfl (q_field_ptr rfl rfl fd35_2) (sq rfl rfl (q_load_ptr rfl rfl rfl rfl ty9) (SOps.sub (st' := ⟨[(7, .c (.mp 0)), (9, .c (.ptr 1 0)), (29, .c (vSBalance a0_l)), (30, ci (((a0_l).length : Int))), (31, ci t31_35), (35, .c (.mp 0)), (36, .c (.ptr 1 2)), (37, .c (.str ((a0_l.getD t31_35.toNat dSBalance).Currency)))], [mmO (mC (cInt .i64)) 0 o0_36 none, .box (bSBalance (a0_l.getD t31_35.toNat dSBalance))]⟩) (sub_gen [0, 1] rfl rfl (zall rfl rfl) ⟨⟨none, rfl, trivial⟩, bx rfl rfl rfl, trivial⟩) ?_))))
      let y1 := a0_l.getD t31_35.toNat dSBalance
      refine SOps.sub (st' := ⟨[(7, .c (.mp 0)), (9, .c (.ptr 1 0)), (29, .c (vSBalance a0_l)), (30, ci (((a0_l).length : Int))), (31, ci t31_35), (35, .c (.mp 0)), (36, .c (.ptr 1 2)), (37, .c (.str (y1.Currency)))], [mmO (mC (cInt .i64)) 0 o0_36 (some (aix o0_36 (y1.Currency), .mp 2)), .box (bSBalance y1), .map ((alook o0_36 (y1.Currency)).getD []).length (kG ((alook o0_36 (y1.Currency)).getD [])) (vG (mC (cInt .i64)) 0 ((alook o0_36 (y1.Currency)).getD []))]⟩) (Sub.focusM (F := 0) (mv := (mC (cInt .i64))) (d0 := 0) (l := o0_36) (s := y1.Currency) rfl g51) (sq rfl rfl (q_lookup_hole (mv := (mC (cInt .i64))) (d0 := 0) (l := o0_36) (s := (a0_l.getD t31_35.toNat dSBalance).Currency) g51 rfl rfl rfl rfl mp55) (sq rfl rfl (q_eqlM rfl rfl rfl rfl mt56) (SOps.sub (st' := ⟨[(7, .c (.mp 0)), (9, .c (.ptr 1 0)), (29, .c (vSBalance a0_l)), (30, ci (((a0_l).length : Int))), (31, ci t31_35), (39, .c (.bool false))], [mmO (mC (cInt .i64)) 0 o0_36 none, .box (bSBalance (a0_l.getD t31_35.toNat dSBalance))]⟩) (Sub.trans (Sub.unfocusMR (F := 0) (j := 2) (mv := (mC (cInt .i64))) (d0 := 0) (l := o0_36) (s := (a0_l.getD t31_35.toNat dSBalance).Currency) g51 rfl rfl) (sub_gen [0, 1] rfl rfl (zall rfl rfl) ⟨⟨none, rfl, trivial⟩, bx rfl rfl rfl, trivial⟩)) (SOps.nil (SCode.cond_f rfl rfl (SCode.skip ?_))))))
      exact ⟨o0_36, h, sub_gen [0, 1] rfl rfl (zall rfl rfl) ⟨⟨none, rfl, trivial⟩, bx rfl rfl rfl, trivial⟩⟩
     refine SCode.region (sm rfl rfl (sq rfl rfl (q_field_ptr rfl rfl fd35_2) (sq rfl rfl (q_load_ptr rfl rfl rfl rfl ty9) (sq rfl rfl (q_lookup_no (mv := (mC (cInt .i64))) (d0 := 0) (l := o0_36) (s := (a0_l.getD t31_35.toNat dSBalance).Currency) g51 rfl rfl rfl rfl mp55 z56) (sq rfl rfl (q_eqlM rfl rfl rfl rfl mt56) (SOps.sub (st' := ⟨[(7, .c (.mp 0)), (9, .c (.ptr 1 0)), (29, .c (vSBalance a0_l)), (30, ci (((a0_l).length : Int))), (31, ci t31_35), (39, .c (.bool true))], [mmO (mC (cInt .i64)) 0 o0_36 none, .box (bSBalance (a0_l.getD t31_35.toNat dSBalance))]⟩) (sub_gen [0, 1] rfl rfl (zall rfl rfl) ⟨⟨none, rfl, trivial⟩, bx rfl rfl rfl, trivial⟩) (SOps.nil (SCode.cond_t rfl rfl (SCode.region (sm rfl rfl (sq rfl rfl (q_field_ptr rfl rfl fd35_2) (sq rfl rfl (q_load_ptr rfl rfl rfl rfl ty9) (se rfl rfl (e_makeMap (α := Int) (mv := (mC (cInt .i64))) (d0 := 0) rfl rfl rfl mp56 (.inl rfl)) (se rfl rfl (e_mapUpdateM (mv := (mC (cInt .i64))) (d0 := 0) (l := o0_36) (s := (a0_l.getD t31_35.toNat dSBalance).Currency) g51 rfl rfl rfl rfl rfl rfl mp55) ?_))))))))))))))
     let y2 := a0_l.getD t31_35.toNat dSBalance
     refine SOps.sub (st' := ⟨[(7, .c (.mp 0)), (9, .c (.ptr 1 0)), (29, .c (vSBalance a0_l)), (30, ci (((a0_l).length : Int))), (31, ci t31_35)], [mmO (mC (cInt .i64)) 0 (aset (o0_36 ++ [(y2.Currency, [])]) (y2.Currency) (([] : List (ByteArray × Int)))) none, .box (bSBalance y2)]⟩) (Sub.trans (Sub.unfocusM (F := 0) (j := 2) (mv := (mC (cInt .i64))) (d0 := 0) (l := o0_36 ++ [(y2.Currency, [])]) (s := y2.Currency) (L := ([] : List (ByteArray × Int))) (alook_new _ g51) rfl rfl) (sub_gen [0, 1] rfl rfl (zall rfl rfl) ⟨⟨none, rfl, trivial⟩, bx rfl rfl rfl, trivial⟩)) (SOps.nil ?_)
     exact ⟨aset (o0_36 ++ [((a0_l.getD t31_35.toNat dSBalance).Currency, [])]) ((a0_l.getD t31_35.toNat dSBalance).Currency) (([] : List (ByteArray × Int))), h, sub_gen [0, 1] rfl rfl (zall rfl rfl) ⟨⟨none, rfl, trivial⟩, bx rfl rfl rfl, trivial⟩⟩
    rintro o0_47 h
    show SCode _ _ _ (S17 o0_47) _
    try dsimp only at h
    unfold settle_Net_p50 at h
    refine SCode.seq ?_
    obtain ⟨g48, h⟩ := guard_out h
    refine SCode.region (sm rfl rfl (sq rfl rfl (q_field_ptr rfl rfl fd35_2) (sq rfl rfl (q_load_ptr rfl rfl rfl rfl ty9) (SOps.sub (st' := ⟨[(7, .c (.mp 0)), (9, .c (.ptr 1 0)), (29, .c (vSBalance a0_l)), (30, ci (((a0_l).length : Int))), (31, ci t31_35), (44, .c (.mp 0)), (45, .c (.ptr 1 2)), (46, .c (.str ((a0_l.getD t31_35.toNat dSBalance).Currency)))], [mmO (mC (cInt .i64)) 0 o0_47 none, .box (bSBalance (a0_l.getD t31_35.toNat dSBalance))]⟩) (sub_gen [0, 1] rfl rfl (zall rfl rfl) ⟨⟨none, rfl, trivial⟩, bx rfl rfl rfl, trivial⟩) ?_))))
    let y3 := a0_l.getD t31_35.toNat dSBalance
    refine SOps.sub (st' := ⟨[(7, .c (.mp 0)), (9, .c (.ptr 1 0)), (29, .c (vSBalance a0_l)), (30, ci (((a0_l).length : Int))), (31, ci t31_35), (44, .c (.mp 0)), (45, .c (.ptr 1 2)), (46, .c (.str (y3.Currency)))], [mmO (mC (cInt .i64)) 0 o0_47 (some (aix o0_47 (y3.Currency), .mp 2)), .box (bSBalance y3), .map ((alook o0_47 (y3.Currency)).getD []).length (kG ((alook o0_47 (y3.Currency)).getD [])) (vG (mC (cInt .i64)) 0 ((alook o0_47 (y3.Currency)).getD []))]⟩) (Sub.focusM (F := 0) (mv := (mC (cInt .i64))) (d0 := 0) (l := o0_47) (s := y3.Currency) rfl g48) (sq rfl rfl (q_lookup_hole (mv := (mC (cInt .i64))) (d0 := 0) (l := o0_47) (s := (a0_l.getD t31_35.toNat dSBalance).Currency) g48 rfl rfl rfl rfl mp55) (sq rfl rfl (q_field_ptr rfl rfl fd35_0) (sq rfl rfl (q_load_ptr rfl rfl rfl rfl ty9) (sq rfl rfl (q_lookup (mv := (mC (cInt .i64))) (d0 := 0) (l := (alook o0_47 ((a0_l.getD t31_35.toNat dSBalance).Currency)).getD []) (s := (a0_l.getD t31_35.toNat dSBalance).Creditor) rfl rfl rfl rfl mp56 z3 rfl) (sq rfl rfl (q_field_ptr rfl rfl fd35_3) (sq rfl rfl (q_load_ptr rfl rfl rfl rfl ty3) (sq rfl rfl (q_add rfl rfl rfl) ?_)))))))
    let y4 := a0_l.getD t31_35.toNat dSBalance
    refine se rfl rfl (e_mapUpdate (mv := (mC (cInt .i64))) (d0 := 0) (l := (alook o0_47 (y4.Currency)).getD []) (s := y4.Creditor) (v' := IntKind.wrap .i64 ((alook ((alook o0_47 (y4.Currency)).getD []) (y4.Creditor)).getD 0 + y4.Amount)) rfl rfl rfl rfl rfl rfl rfl mp56) ?_
    let y5 := a0_l.getD t31_35.toNat dSBalance
    let y6 := (alook o0_47 (y5.Currency)).getD []
    refine SOps.sub (st' := ⟨[(7, .c (.mp 0)), (9, .c (.ptr 1 0)), (29, .c (vSBalance a0_l)), (30, ci (((a0_l).length : Int))), (31, ci t31_35)], [mmO (mC (cInt .i64)) 0 (aset o0_47 (y5.Currency) (aset y6 (y5.Creditor) (IntKind.wrap .i64 ((alook y6 (y5.Creditor)).getD 0 + y5.Amount)))) none, .box (bSBalance y5)]⟩) (Sub.trans (Sub.unfocusM (F := 0) (j := 2) (mv := (mC (cInt .i64))) (d0 := 0) (l := o0_47) (s := y5.Currency) (L := aset y6 (y5.Creditor) (IntKind.wrap .i64 ((alook y6 (y5.Creditor)).getD 0 + y5.Amount))) g48 rfl rfl) (sub_gen [0, 1] rfl rfl (zall rfl rfl) ⟨⟨none, rfl, trivial⟩, bx rfl rfl rfl, trivial⟩)) (SOps.nil ?_)
    obtain ⟨g49, h⟩ := guard_out h
    refine SCode.region (sm rfl rfl (sq rfl rfl (q_field_ptr rfl rfl fd35_2) (sq rfl rfl (q_load_ptr rfl rfl rfl rfl ty9) ?_)))
    let y7 := a0_l.getD t31_35.toNat dSBalance
    refine SOps.sub (st' := ⟨[(7, .c (.mp 0)), (9, .c (.ptr 1 0)), (29, .c (vSBalance a0_l)), (30, ci (((a0_l).length : Int))), (31, ci t31_35), (54, .c (.mp 0)), (55, .c (.ptr 1 2)), (56, .c (.str (y7.Currency)))], [mmO (mC (cInt .i64)) 0 (aset o0_47 (y7.Currency) (aset ((alook o0_47 (y7.Currency)).getD []) (y7.Creditor) (IntKind.wrap .i64 ((alook ((alook o0_47 (y7.Currency)).getD []) (y7.Creditor)).getD 0 + y7.Amount)))) none, .box (bSBalance y7)]⟩) (sub_gen [0, 1] rfl rfl (zall rfl rfl) ⟨⟨none, rfl, trivial⟩, bx rfl rfl rfl, trivial⟩) ?_
    let y9 := (a0_l.getD t31_35.toNat dSBalance).Currency
    let y8 := aset ((alook o0_47 y9).getD []) ((a0_l.getD t31_35.toNat dSBalance).Creditor) (IntKind.wrap .i64 ((alook ((alook o0_47 y9).getD []) ((a0_l.getD t31_35.toNat dSBalance).Creditor)).getD 0 + (a0_l.getD t31_35.toNat dSBalance).Amount))
    refine SOps.sub (st' := ⟨[(7, .c (.mp 0)), (9, .c (.ptr 1 0)), (29, .c (vSBalance a0_l)), (30, ci (((a0_l).length : Int))), (31, ci t31_35), (54, .c (.mp 0)), (55, .c (.ptr 1 2)), (56, .c (.str y9))], [mmO (mC (cInt .i64)) 0 (aset o0_47 y9 y8) (some (aix (aset o0_47 y9 y8) y9, .mp 2)), .box (bSBalance (a0_l.getD t31_35.toNat dSBalance)), .map ((alook (aset o0_47 y9 y8) y9).getD []).length (kG ((alook (aset o0_47 y9 y8) y9).getD [])) (vG (mC (cInt .i64)) 0 ((alook (aset o0_47 y9 y8) y9).getD []))]⟩) (Sub.focusM (F := 0) (mv := (mC (cInt .i64))) (d0 := 0) (l := aset o0_47 y9 y8) (s := (a0_l.getD t31_35.toNat dSBalance).Currency) rfl g49) ?_
    let y10 := a0_l.getD t31_35.toNat dSBalance
    refine sq rfl rfl (q_lookup_hole (mv := (mC (cInt .i64))) (d0 := 0) (l := aset o0_47 (y10.Currency) (aset ((alook o0_47 (y10.Currency)).getD []) (y10.Creditor) (IntKind.wrap .i64 ((alook ((alook o0_47 (y10.Currency)).getD []) (y10.Creditor)).getD 0 + y10.Amount)))) (s := y10.Currency) g49 rfl rfl rfl rfl mp55) (sq rfl rfl (q_field_ptr rfl rfl fd35_1) (sq rfl rfl (q_load_ptr rfl rfl rfl rfl ty9) ?_))
    let y11 := a0_l.getD t31_35.toNat dSBalance
    refine sq rfl rfl (q_lookup (mv := (mC (cInt .i64))) (d0 := 0) (l := (alook (aset o0_47 (y11.Currency) (aset ((alook o0_47 (y11.Currency)).getD []) (y11.Creditor) (IntKind.wrap .i64 ((alook ((alook o0_47 (y11.Currency)).getD []) (y11.Creditor)).getD 0 + y11.Amount)))) (y11.Currency)).getD []) (s := y11.Debtor) rfl rfl rfl rfl mp56 z3 rfl) (sq rfl rfl (q_field_ptr rfl rfl fd35_3) (sq rfl rfl (q_load_ptr rfl rfl rfl rfl ty3) (sq rfl rfl (q_sub rfl rfl rfl) ?_)))
    let y12 := a0_l.getD t31_35.toNat dSBalance
    let y13 := alook (aset o0_47 (y12.Currency) (aset ((alook o0_47 (y12.Currency)).getD []) (y12.Creditor) (IntKind.wrap .i64 ((alook ((alook o0_47 (y12.Currency)).getD []) (y12.Creditor)).getD 0 + y12.Amount)))) (y12.Currency)
    refine se rfl rfl (e_mapUpdate (mv := (mC (cInt .i64))) (d0 := 0) (l := y13.getD []) (s := y12.Debtor) (v' := IntKind.wrap .i64 ((alook (y13.getD []) (y12.Debtor)).getD 0 - y12.Amount)) rfl rfl rfl rfl rfl rfl rfl mp56) ?_
    let y15 := a0_l.getD t31_35.toNat dSBalance
    let y14 := aset ((alook o0_47 (y15.Currency)).getD []) (y15.Creditor) (IntKind.wrap .i64 ((alook ((alook o0_47 (y15.Currency)).getD []) (y15.Creditor)).getD 0 + y15.Amount))
    let y16 := (alook (aset o0_47 (y15.Currency) y14) (y15.Currency)).getD []
    refine SOps.sub (st' := ⟨[(7, .c (.mp 0)), (29, .c (vSBalance a0_l)), (30, ci (((a0_l).length : Int))), (31, ci t31_35)], [mmO (mC (cInt .i64)) 0 (aset (aset o0_47 (y15.Currency) y14) (y15.Currency) (aset y16 (y15.Debtor) (IntKind.wrap .i64 ((alook y16 (y15.Debtor)).getD 0 - y15.Amount)))) none]⟩) (Sub.trans (Sub.unfocusM (F := 0) (j := 2) (mv := (mC (cInt .i64))) (d0 := 0) (l := aset o0_47 (y15.Currency) y14) (s := y15.Currency) (L := aset y16 (y15.Debtor) (IntKind.wrap .i64 ((alook y16 (y15.Debtor)).getD 0 - y15.Amount))) g49 rfl rfl) (sub_gen [0] rfl rfl (zall rfl rfl) ⟨⟨none, rfl, trivial⟩, trivial⟩)) (SOps.nil (SCode.region (sq rfl rfl (q_add rfl rfl rfl) (sm rfl rfl ?_))))
    let y18 := a0_l.getD t31_35.toNat dSBalance
    let y17 := aset o0_47 (y18.Currency) (aset ((alook o0_47 (y18.Currency)).getD []) (y18.Creditor) (IntKind.wrap .i64 ((alook ((alook o0_47 (y18.Currency)).getD []) (y18.Creditor)).getD 0 + y18.Amount)))
    refine SOps.sub (st' := ⟨[(7, .c (.mp 0)), (29, .c (vSBalance a0_l)), (30, ci (((a0_l).length : Int))), (31, ci (IntKind.wrap .i64 (t31_35 + 1)))], [mmO (mC (cInt .i64)) 0 (aset y17 (y18.Currency) (aset ((alook y17 (y18.Currency)).getD []) (y18.Debtor) (IntKind.wrap .i64 ((alook ((alook y17 (y18.Currency)).getD []) (y18.Debtor)).getD 0 - y18.Amount)))) none]⟩) (sub_gen [0] rfl rfl (zall rfl rfl) ⟨⟨none, rfl, trivial⟩, trivial⟩) (SOps.nil ?_)
    let y20 := a0_l.getD t31_35.toNat dSBalance
    let y19 := aset o0_47 (y20.Currency) (aset ((alook o0_47 (y20.Currency)).getD []) (y20.Creditor) (IntKind.wrap .i64 ((alook ((alook o0_47 (y20.Currency)).getD []) (y20.Creditor)).getD 0 + y20.Amount)))
    exact ⟨(n_44, (IntKind.wrap .i64 (t31_35 + 1), aset y19 (y20.Currency) (aset ((alook y19 (y20.Currency)).getD []) (y20.Debtor) (IntKind.wrap .i64 ((alook ((alook y19 (y20.Currency)).getD []) (y20.Debtor)).getD 0 - y20.Amount))))), h, Nat.lt_succ_self n_44, sub_gen [0] rfl rfl (zall rfl rfl) ⟨⟨none, rfl, trivial⟩, trivial⟩⟩
   refine SCode.cond_f rfl g45 (SCode.exit ?_)
   exact ⟨o0_36, h, sub_gen [0] rfl rfl (zall rfl rfl) ⟨⟨none, rfl, trivial⟩, trivial⟩⟩
 rintro o0_2 h
 show SCode _ _ _ (S19 o0_2) _
 try dsimp only at h
 unfold settle_Net_p27 at h
 refine SCode.seq (SCode.region (sa rfl rfl (SOps.nilArrL (T := 35) (k := 4) cSBalance dSBalance (s := 10) rfl rfl (SOps.sub (st' := ⟨[(7, .c (.mp 0)), (10, .c (.own 1 (([] : List SBalance)).length))], [mmO (mC (cInt .i64)) 0 o0_2 none, aSBalance 35 (([] : List SBalance))]⟩) (sub_gen [0, 1] rfl rfl (zall rfl rfl) ⟨⟨none, rfl, trivial⟩, oa rfl, trivial⟩) (SOps.nil ?_)))))
 let S11 := fun (o0_3 : List SBalance) => (⟨[(10, .c (.own 0 o0_3.length))], [aSBalance 35 o0_3]⟩ : St)
 refine SCode.join (σ := (List SBalance)) (S := fun s => (S11 s)) (g := fun s => settle_Net_p4 s = some r) ?_ ?_
 rotate_left
 ·refine SCode.seq ?_
  obtain ⟨g5, h⟩ := guard_out h
  refine SCode.region (sm rfl rfl (se rfl rfl (e_keys keysC22 rfl fn22 rfl rfl rfl) (se rfl rfl (e_sortKM (l := o0_2) sortedC22 g5 rfl fn21 rfl rfl rfl rfl rfl) (sq rfl rfl (q_len_own rfl rfl sl57) (sm rfl rfl (SOps.sub (st' := ⟨[(7, .c (.mp 0)), (10, .c (.own 1 (([] : List SBalance)).length)), (67, .c (.own 2 (sortB (o0_2.map Prod.fst)).length)), (68, ci (((sortB (o0_2.map Prod.fst)).length : Int))), (69, ci 0)], [mmO (mC (cInt .i64)) 0 o0_2 none, aSBalance 35 (([] : List SBalance)), .arr 9 1 (sortB (o0_2.map Prod.fst)).length (gL cStr ByteArray.empty (sortB (o0_2.map Prod.fst)))]⟩) (sub_gen [0, 1, 3] rfl rfl (zall rfl rfl) ⟨⟨none, rfl, trivial⟩, oa rfl, oa rfl, trivial⟩) (SOps.nil (SCode.block ?_))))))))
  let S10 := fun (t69_12 : Int) => fun (o1_13 : List SBalance) => (⟨[(7, .c (.mp 0)), (10, .c (.own 1 o1_13.length)), (67, .c (.own 2 (sortB (o0_2.map Prod.fst)).length)), (68, ci (((sortB (o0_2.map Prod.fst)).length : Int))), (69, ci t69_12)], [mmO (mC (cInt .i64)) 0 o0_2 none, aSBalance 35 o1_13, .arr 9 1 (sortB (o0_2.map Prod.fst)).length (gL cStr ByteArray.empty (sortB (o0_2.map Prod.fst)))]⟩ : St)
  refine SCode.sub (st' := (S10 0 (([] : List SBalance)))) (sub_gen [0, 1, 2] rfl rfl (zall rfl rfl) ⟨⟨none, rfl, trivial⟩, oa rfl, oa rfl, trivial⟩) ?_
  refine (SCode.loop (σ := Nat × (Int × (List SBalance))) (S := fun s => (S10 s.2.1 s.2.2)) (g := fun s => settle_Net_l20 F o0_2 s.1 s.2.1 s.2.2 = some r) (μ := fun s => s.1) (F, (0, ([] : List SBalance))) h ?_)
  rintro ⟨n_20, ⟨t69_12, o1_13⟩⟩ h
  try dsimp only at h
  show SCode _ _ _ (S10 t69_12 o1_13) _
  cases n_20 with
  | zero => cases h
  | succ n_20 =>
   rw [settle_Net_l20] at h
   unfold settle_Net_b20 at h
   refine SCode.seq (SCode.region (sq rfl rfl (q_lss rfl rfl rfl) ?_))
   let y21 := sortB (o0_2.map Prod.fst)
   refine SOps.sub (st' := ⟨[(7, .c (.mp 0)), (10, .c (.own 1 o1_13.length)), (67, .c (.own 2 y21.length)), (68, ci ((y21.length : Int))), (69, ci t69_12), (70, .c (.bool (decide (t69_12 < (y21.length : Int)))))], [mmO (mC (cInt .i64)) 0 o0_2 none, aSBalance 35 o1_13, .arr 9 1 y21.length (gL cStr ByteArray.empty y21)]⟩) (sub_gen [0, 1, 2] rfl rfl (zall rfl rfl) ⟨⟨none, rfl, trivial⟩, oa rfl, oa rfl, trivial⟩) (SOps.nil (SCode.seq ?_))
   rcases cond_out h with ⟨g21, h⟩ | ⟨g21, h⟩
   ·refine SCode.cond_t rfl g21 (SCode.skip (SCode.seq (SCode.block (SCode.seq ?_))))
    obtain ⟨g22, h⟩ := guard_out h
    refine SCode.region (sq rfl rfl (q_index_own rfl rfl rfl sl57 g22.1 g22.2) (sq rfl rfl (q_load_aptr rfl rfl rfl (toNat_lt g22) rfl ty9) (sa rfl rfl ?_)))
    let y22 := sortB (o0_2.map Prod.fst)
    refine SOps.sub (st' := ⟨[(7, .c (.mp 0)), (10, .c (.own 1 o1_13.length)), (12, .c (.str (y22.getD t69_12.toNat ByteArray.empty))), (67, .c (.own 2 y22.length)), (68, ci ((y22.length : Int))), (69, ci t69_12)], [mmO (mC (cInt .i64)) 0 o0_2 none, aSBalance 35 o1_13, .arr 9 1 y22.length (gL cStr ByteArray.empty y22)]⟩) (sub_gen [0, 1, 2] rfl rfl (zall rfl rfl) ⟨⟨none, rfl, trivial⟩, oa rfl, oa rfl, trivial⟩) (SOps.nil ?_)
    obtain ⟨g23, h⟩ := guard_out h
    obtain ⟨c_24, g25, h⟩ := bind_out h
    try dsimp only at h
    obtain ⟨g26, h⟩ := guard_out h
    refine SCode.region (sm rfl rfl (sm rfl rfl (sm rfl rfl ?_)))
    let y23 := sortB (o0_2.map Prod.fst)
    refine SOps.sub (st' := ⟨[(7, .c (.mp 0)), (10, .c (.own 1 o1_13.length)), (12, .c (.str (y23.getD t69_12.toNat ByteArray.empty))), (67, .c (.own 2 y23.length)), (68, ci ((y23.length : Int))), (69, ci t69_12), (73, .c (.own 1 o1_13.length)), (74, .c (.mp 0)), (75, .c (.str (y23.getD t69_12.toNat ByteArray.empty)))], [mmO (mC (cInt .i64)) 0 o0_2 none, aSBalance 35 o1_13, .arr 9 1 y23.length (gL cStr ByteArray.empty y23)]⟩) (sub_gen [0, 1, 2] rfl rfl (zall rfl rfl) ⟨⟨none, rfl, trivial⟩, oa rfl, oa rfl, trivial⟩) ?_
    let y25 := sortB (o0_2.map Prod.fst)
    let y24 := y25.getD t69_12.toNat ByteArray.empty
    refine SOps.sub (st' := ⟨[(7, .c (.mp 0)), (10, .c (.own 1 o1_13.length)), (12, .c (.str y24)), (67, .c (.own 2 y25.length)), (68, ci ((y25.length : Int))), (69, ci t69_12), (73, .c (.own 1 o1_13.length)), (74, .c (.mp 0)), (75, .c (.str y24))], [mmO (mC (cInt .i64)) 0 o0_2 (some (aix o0_2 y24, .mp 3)), aSBalance 35 o1_13, .arr 9 1 y25.length (gL cStr ByteArray.empty y25), .map ((alook o0_2 y24).getD []).length (kG ((alook o0_2 y24).getD [])) (vG (mC (cInt .i64)) 0 ((alook o0_2 y24).getD []))]⟩) (Sub.focusM (F := 0) (mv := (mC (cInt .i64))) (d0 := 0) (l := o0_2) (s := y25.getD t69_12.toNat ByteArray.empty) rfl g23) (sq rfl rfl (q_lookup_hole (mv := (mC (cInt .i64))) (d0 := 0) (l := o0_2) (s := (sortB (o0_2.map Prod.fst)).getD t69_12.toNat ByteArray.empty) g23 rfl rfl rfl rfl mp55) (sm rfl rfl (se rfl rfl (e_call (settle_net_ok F ((alook o0_2 ((sortB (o0_2.map Prod.fst)).getD t69_12.toNat ByteArray.empty)).getD []) ((sortB (o0_2.map Prod.fst)).getD t69_12.toNat ByteArray.empty) c_24 g25) [3] rfl fn23 rfl rfl rfl rfl rfl rfl rfl rfl) (se rfl rfl (e_appendL (c := cSBalance) (d0 := dSBalance) (l := o1_13) (l2 := c_24) rfl rfl rfl rfl rfl rfl (.inl rfl) sl22 z35 rfl rfl oneSBalance g26.1 g26.2) (sa rfl rfl ?_)))))
    let y26 := sortB (o0_2.map Prod.fst)
    refine SOps.sub (st' := ⟨[(7, .c (.mp 0)), (10, .c (.own 1 (o1_13 ++ c_24).length)), (67, .c (.own 2 y26.length)), (68, ci ((y26.length : Int))), (69, ci t69_12)], [mmO (mC (cInt .i64)) 0 o0_2 none, aSBalance 35 (o1_13 ++ c_24), .arr 9 1 y26.length (gL cStr ByteArray.empty y26)]⟩) (Sub.trans (Sub.unfocusMR (F := 0) (j := 3) (mv := (mC (cInt .i64))) (d0 := 0) (l := o0_2) (s := y26.getD t69_12.toNat ByteArray.empty) g23 rfl rfl) (sub_gen [0, 4, 2] rfl rfl (zall rfl rfl) ⟨⟨none, rfl, trivial⟩, oa rfl, oa rfl, trivial⟩)) (SOps.nil (SCode.region (sq rfl rfl (q_add rfl rfl rfl) (sm rfl rfl (SOps.sub (st' := ⟨[(7, .c (.mp 0)), (10, .c (.own 1 (o1_13 ++ c_24).length)), (67, .c (.own 2 (sortB (o0_2.map Prod.fst)).length)), (68, ci (((sortB (o0_2.map Prod.fst)).length : Int))), (69, ci (IntKind.wrap .i64 (t69_12 + 1)))], [mmO (mC (cInt .i64)) 0 o0_2 none, aSBalance 35 (o1_13 ++ c_24), .arr 9 1 (sortB (o0_2.map Prod.fst)).length (gL cStr ByteArray.empty (sortB (o0_2.map Prod.fst)))]⟩) (sub_gen [0, 1, 2] rfl rfl (zall rfl rfl) ⟨⟨none, rfl, trivial⟩, oa rfl, oa rfl, trivial⟩) (SOps.nil ?_))))))
    exact ⟨(n_20, (IntKind.wrap .i64 (t69_12 + 1), o1_13 ++ c_24)), h, Nat.lt_succ_self n_20, sub_gen [0, 1, 2] rfl rfl (zall rfl rfl) ⟨⟨none, rfl, trivial⟩, oa rfl, oa rfl, trivial⟩⟩
   refine SCode.cond_f rfl g21 (SCode.exit ?_)
   exact ⟨o1_13, h, sub_gen [1] rfl rfl (zall rfl rfl) ⟨oa rfl, trivial⟩⟩
 rintro o0_3 h
 show SCode _ _ _ (S11 o0_3) _
 try dsimp only at h
 unfold settle_Net_p4 at h
 refine SCode.seq (SCode.region (sm rfl rfl (sa rfl rfl (sa rfl rfl (SOps.nil (SCode.ret ?_))))))
 obtain rfl := Option.some.inj h
 exact ⟨⟨[(2, .c (vSBalance o0_3)), (3, ci 0)], []⟩, _, sub_gen [] rfl rfl ⟨⟨_, rfl, .inr (.inl ⟨_, _, _, _, _, _, _, rfl, rfl, rfl, Nat.le_refl _, fun _ _ _ _ => rfl, nm rfl⟩)⟩, zc rfl rfl, trivial⟩ trivial, resA2 (v1 := .c (vSBalance o0_3)) (v2 := .c (.int .i64 0)) rfl rfl rfl, rfl⟩
theorem chargenetlaw49_exampleHolds_ok (F : Nat)  (r : Bool) (h : chargenetlaw49_exampleHolds F  = some r) :
  SFun Try.prog 8 [] [] (fun x _ => x = .c (.bool r)) := by
 refine SFun.of (n := 42) Try.func8 rfl rfl rfl ?_
 unfold chargenetlaw49_exampleHolds at h
 show SCode _ _ _ ⟨[], []⟩ _
 refine SCode.seq (SCode.region (sa rfl rfl (SOps.nil (SCode.seq ?_))))
 obtain ⟨c_1, g2, h⟩ := bind_out h
 try dsimp only at h
 refine SCode.region (sq rfl rfl (q_build2 rfl rfl pl35 rfl) (sq rfl rfl (q_build2 rfl rfl pl35 rfl) (sq rfl rfl (q_bsliceL (c := cSBalance) (d0 := dSBalance) [SBalance.mk (ByteArray.mk #[65]) (ByteArray.mk #[66]) (ByteArray.mk #[69, 85, 82]) 5, SBalance.mk (ByteArray.mk #[66]) (ByteArray.mk #[67]) (ByteArray.mk #[69, 85, 82]) 5] rfl rfl sl22 z35 rfl rfl rfl rfl rfl rfl rfl) (sq rfl rfl (q_call (settle_Net_ok F ([SBalance.mk (ByteArray.mk #[65]) (ByteArray.mk #[66]) (ByteArray.mk #[69, 85, 82]) 5, SBalance.mk (ByteArray.mk #[66]) (ByteArray.mk #[67]) (ByteArray.mk #[69, 85, 82]) 5]) c_1 g2) [] rfl fn9 ⟨⟨_, rfl, .inl ⟨rfl, rfl⟩⟩, trivial⟩ (.inl rfl)) (sm rfl rfl (sq rfl rfl (q_extract rfl rfl rfl) (sq rfl rfl (q_extract rfl rfl rfl) (sa rfl rfl (sa rfl rfl (SOps.nil (SCode.seq ?_)))))))))))
 obtain ⟨c_3, g4, h⟩ := bind_out h
 try dsimp only at h
 refine SCode.region (sq rfl rfl (q_build2 rfl rfl pl35 rfl) (sq rfl rfl (q_build2 rfl rfl pl35 rfl) (sq rfl rfl (q_bsliceL (c := cSBalance) (d0 := dSBalance) [SBalance.mk (ByteArray.mk #[65]) (ByteArray.mk #[66]) (ByteArray.mk #[69, 85, 82]) 5, SBalance.mk (ByteArray.mk #[66]) (ByteArray.mk #[65]) (ByteArray.mk #[69, 85, 82]) 5] rfl rfl sl22 z35 rfl rfl rfl rfl rfl rfl rfl) (sq rfl rfl (q_call (settle_Net_ok F ([SBalance.mk (ByteArray.mk #[65]) (ByteArray.mk #[66]) (ByteArray.mk #[69, 85, 82]) 5, SBalance.mk (ByteArray.mk #[66]) (ByteArray.mk #[65]) (ByteArray.mk #[69, 85, 82]) 5]) c_3 g4) [] rfl fn9 ⟨⟨_, rfl, .inl ⟨rfl, rfl⟩⟩, trivial⟩ (.inl rfl)) (sm rfl rfl (sq rfl rfl (q_extract rfl rfl rfl) (sq rfl rfl (q_extract rfl rfl rfl) (sa rfl rfl (sa rfl rfl (SOps.sub (st' := ⟨[(1, .c (vSBalance c_1.1)), (2, ci c_1.2), (3, .c (vSBalance c_3.1)), (4, ci c_3.2)], []⟩) (sub_gen [] rfl rfl (zall rfl rfl) trivial) (SOps.nil (SCode.seq ?_))))))))))))
 rcases cond_out h with ⟨g5, h⟩ | ⟨g5, h⟩
 ·rcases cond_out h with ⟨g6, h⟩ | ⟨g6, h⟩
  ·rcases cond_out h with ⟨g7, h⟩ | ⟨g7, h⟩
   ·rcases cond_out h with ⟨g8, h⟩ | ⟨g8, h⟩
    ·obtain ⟨g9, h⟩ := guard_out h
     refine SCode.region (sm rfl rfl (sq rfl rfl (q_eql rfl rfl rfl) (sm rfl rfl (SOps.q rfl (.guard 2 21 true rfl rfl (gT g5)) rfl (q_move rfl rfl) (SOps.q rfl (.guard 2 21 true rfl rfl (gT g5)) rfl (q_eql rfl rfl rfl) (sq rfl rfl (q_pick_t rfl rfl g5 rfl) (sm rfl rfl (SOps.q rfl (.guard 6 25 true rfl rfl (gT g6)) rfl (q_move rfl rfl) (SOps.q rfl (.guard 6 25 true rfl rfl (gT g6)) rfl (q_len_vec rfl rfl sl22) (SOps.q rfl (.guard 6 25 true rfl rfl (gT g6)) rfl (q_eql rfl rfl rfl) (sq rfl rfl (q_pick_t rfl rfl g6 rfl) (sm rfl rfl (SOps.q rfl (.guard 11 30 true rfl rfl (gT g7)) rfl (q_move rfl rfl) (SOps.q rfl (.guard 11 30 true rfl rfl (gT g7)) rfl (q_len_vec rfl rfl sl22) (SOps.q rfl (.guard 11 30 true rfl rfl (gT g7)) rfl (q_eql rfl rfl rfl) ?_)))))))))))))))
     refine sq rfl rfl (q_pick_t rfl rfl g7 rfl) (sm rfl rfl (SOps.q rfl (.guard 16 35 true rfl rfl (gT g8)) rfl (q_move rfl rfl) (SOps.q rfl (.guard 16 35 true rfl rfl (gT g8)) rfl (q_index_vec rfl rfl rfl sl22 rfl g9.1 g9.2) (SOps.q rfl (.guard 16 35 true rfl rfl (gT g8)) rfl (q_load_eptr_all rfl rfl rfl ty35) (SOps.q rfl (.guard 16 35 true rfl rfl (gT g8)) rfl (q_build2 rfl rfl pl35 rfl) (SOps.q rfl (.guard 16 35 true rfl rfl (gT g8)) rfl (q_eqAgg (neg := false) rfl (.inl rfl) rfl rfl eqt35 rfl) (sq rfl rfl (q_pick_t rfl rfl g8 rfl) (sa rfl rfl ?_))))))))
     let y1 := c_1.1.getD (0 : Int).toNat dSBalance
     refine SOps.sub (st' := ⟨[(0, .c (.bool ((xor false (sEq (y1.Creditor) (ByteArray.mk #[65]) && (sEq (y1.Debtor) (ByteArray.mk #[67]) && (sEq (y1.Currency) (ByteArray.mk #[69, 85, 82]) && (decide (y1.Amount = 5) && true))))))))], []⟩) (sub_gen [] rfl rfl (zall rfl rfl) trivial) (SOps.nil (SCode.ret ?_))
     obtain rfl := Option.some.inj h
     let y2 := c_1.1.getD (0 : Int).toNat dSBalance
     exact ⟨⟨[(0, .c (.bool ((xor false (sEq (y2.Creditor) (ByteArray.mk #[65]) && (sEq (y2.Debtor) (ByteArray.mk #[67]) && (sEq (y2.Currency) (ByteArray.mk #[69, 85, 82]) && (decide (y2.Amount = 5) && true))))))))], []⟩, _, sub_gen [] rfl rfl (zall rfl rfl) trivial, resA1 (v := .c (.bool ((xor false (sEq (y2.Creditor) (ByteArray.mk #[65]) && (sEq (y2.Debtor) (ByteArray.mk #[67]) && (sEq (y2.Currency) (ByteArray.mk #[69, 85, 82]) && (decide (y2.Amount = 5) && true)))))))) rfl rfl, rfl⟩
    refine SCode.region (sm rfl rfl (sq rfl rfl (q_eql rfl rfl rfl) (sm rfl rfl (SOps.q rfl (.guard 2 21 true rfl rfl (gT g5)) rfl (q_move rfl rfl) (SOps.q rfl (.guard 2 21 true rfl rfl (gT g5)) rfl (q_eql rfl rfl rfl) (sq rfl rfl (q_pick_t rfl rfl g5 rfl) (sm rfl rfl (SOps.q rfl (.guard 6 25 true rfl rfl (gT g6)) rfl (q_move rfl rfl) (SOps.q rfl (.guard 6 25 true rfl rfl (gT g6)) rfl (q_len_vec rfl rfl sl22) (SOps.q rfl (.guard 6 25 true rfl rfl (gT g6)) rfl (q_eql rfl rfl rfl) (sq rfl rfl (q_pick_t rfl rfl g6 rfl) (sm rfl rfl (SOps.q rfl (.guard 11 30 true rfl rfl (gT g7)) rfl (q_move rfl rfl) (SOps.q rfl (.guard 11 30 true rfl rfl (gT g7)) rfl (q_len_vec rfl rfl sl22) (SOps.q rfl (.guard 11 30 true rfl rfl (gT g7)) rfl (q_eql rfl rfl rfl) ?_)))))))))))))))
    refine sq rfl rfl (q_pick_t rfl rfl g7 rfl) (sm rfl rfl (SOps.skip rfl 16 35 true rfl rfl (.inl (gF g8)) rfl (SOps.skip rfl 16 35 true rfl rfl (.inl (gF g8)) rfl (SOps.skip rfl 16 35 true rfl rfl (.inl (gF g8)) rfl (SOps.skip rfl 16 35 true rfl rfl (.inl (gF g8)) rfl (SOps.skip rfl 16 35 true rfl rfl (.inl (gF g8)) rfl (sq rfl rfl (q_pick_f rfl rfl g8 rfl) (sa rfl rfl (SOps.sub (st' := ⟨[(0, .c (.bool false))], []⟩) (sub_gen [] rfl rfl (zall rfl rfl) trivial) (SOps.nil (SCode.ret ?_)))))))))))
    obtain rfl := Option.some.inj h
    exact ⟨⟨[(0, .c (.bool false))], []⟩, _, sub_gen [] rfl rfl (zall rfl rfl) trivial, resA1 (v := .c (.bool false)) rfl rfl, rfl⟩
   refine SCode.region (sm rfl rfl (sq rfl rfl (q_eql rfl rfl rfl) (sm rfl rfl (SOps.q rfl (.guard 2 21 true rfl rfl (gT g5)) rfl (q_move rfl rfl) (SOps.q rfl (.guard 2 21 true rfl rfl (gT g5)) rfl (q_eql rfl rfl rfl) (sq rfl rfl (q_pick_t rfl rfl g5 rfl) (sm rfl rfl (SOps.q rfl (.guard 6 25 true rfl rfl (gT g6)) rfl (q_move rfl rfl) (SOps.q rfl (.guard 6 25 true rfl rfl (gT g6)) rfl (q_len_vec rfl rfl sl22) (SOps.q rfl (.guard 6 25 true rfl rfl (gT g6)) rfl (q_eql rfl rfl rfl) (sq rfl rfl (q_pick_t rfl rfl g6 rfl) (sm rfl rfl (SOps.skip rfl 11 30 true rfl rfl (.inl (gF g7)) rfl (SOps.skip rfl 11 30 true rfl rfl (.inl (gF g7)) rfl (SOps.skip rfl 11 30 true rfl rfl (.inl (gF g7)) rfl ?_)))))))))))))))
   refine sq rfl rfl (q_pick_f rfl rfl g7 rfl) (sm rfl rfl (SOps.skip rfl 16 35 true rfl rfl (.inl rfl) rfl (SOps.skip rfl 16 35 true rfl rfl (.inl rfl) rfl (SOps.skip rfl 16 35 true rfl rfl (.inl rfl) rfl (SOps.skip rfl 16 35 true rfl rfl (.inl rfl) rfl (SOps.skip rfl 16 35 true rfl rfl (.inl rfl) rfl (sq rfl rfl (q_pick_f rfl rfl rfl rfl) (sa rfl rfl (SOps.sub (st' := ⟨[(0, .c (.bool false))], []⟩) (sub_gen [] rfl rfl (zall rfl rfl) trivial) (SOps.nil (SCode.ret ?_)))))))))))
   obtain rfl := Option.some.inj h
   exact ⟨⟨[(0, .c (.bool false))], []⟩, _, sub_gen [] rfl rfl (zall rfl rfl) trivial, resA1 (v := .c (.bool false)) rfl rfl, rfl⟩
  refine SCode.region (sm rfl rfl (sq rfl rfl (q_eql rfl rfl rfl) (sm rfl rfl (SOps.q rfl (.guard 2 21 true rfl rfl (gT g5)) rfl (q_move rfl rfl) (SOps.q rfl (.guard 2 21 true rfl rfl (gT g5)) rfl (q_eql rfl rfl rfl) (sq rfl rfl (q_pick_t rfl rfl g5 rfl) (sm rfl rfl (SOps.skip rfl 6 25 true rfl rfl (.inl (gF g6)) rfl (SOps.skip rfl 6 25 true rfl rfl (.inl (gF g6)) rfl (SOps.skip rfl 6 25 true rfl rfl (.inl (gF g6)) rfl (sq rfl rfl (q_pick_f rfl rfl g6 rfl) (sm rfl rfl (SOps.skip rfl 11 30 true rfl rfl (.inl rfl) rfl (SOps.skip rfl 11 30 true rfl rfl (.inl rfl) rfl (SOps.skip rfl 11 30 true rfl rfl (.inl rfl) rfl ?_)))))))))))))))
  refine sq rfl rfl (q_pick_f rfl rfl rfl rfl) (sm rfl rfl (SOps.skip rfl 16 35 true rfl rfl (.inl rfl) rfl (SOps.skip rfl 16 35 true rfl rfl (.inl rfl) rfl (SOps.skip rfl 16 35 true rfl rfl (.inl rfl) rfl (SOps.skip rfl 16 35 true rfl rfl (.inl rfl) rfl (SOps.skip rfl 16 35 true rfl rfl (.inl rfl) rfl (sq rfl rfl (q_pick_f rfl rfl rfl rfl) (sa rfl rfl (SOps.sub (st' := ⟨[(0, .c (.bool false))], []⟩) (sub_gen [] rfl rfl (zall rfl rfl) trivial) (SOps.nil (SCode.ret ?_)))))))))))
  obtain rfl := Option.some.inj h
  exact ⟨⟨[(0, .c (.bool false))], []⟩, _, sub_gen [] rfl rfl (zall rfl rfl) trivial, resA1 (v := .c (.bool false)) rfl rfl, rfl⟩
 refine SCode.region (sm rfl rfl (sq rfl rfl (q_eql rfl rfl rfl) (sm rfl rfl (SOps.skip rfl 2 21 true rfl rfl (.inl (gF g5)) rfl (SOps.skip rfl 2 21 true rfl rfl (.inl (gF g5)) rfl (sq rfl rfl (q_pick_f rfl rfl g5 rfl) (sm rfl rfl (SOps.skip rfl 6 25 true rfl rfl (.inl rfl) rfl (SOps.skip rfl 6 25 true rfl rfl (.inl rfl) rfl (SOps.skip rfl 6 25 true rfl rfl (.inl rfl) rfl (sq rfl rfl (q_pick_f rfl rfl rfl rfl) (sm rfl rfl (SOps.skip rfl 11 30 true rfl rfl (.inl rfl) rfl (SOps.skip rfl 11 30 true rfl rfl (.inl rfl) rfl (SOps.skip rfl 11 30 true rfl rfl (.inl rfl) rfl ?_)))))))))))))))
 refine sq rfl rfl (q_pick_f rfl rfl rfl rfl) (sm rfl rfl (SOps.skip rfl 16 35 true rfl rfl (.inl rfl) rfl (SOps.skip rfl 16 35 true rfl rfl (.inl rfl) rfl (SOps.skip rfl 16 35 true rfl rfl (.inl rfl) rfl (SOps.skip rfl 16 35 true rfl rfl (.inl rfl) rfl (SOps.skip rfl 16 35 true rfl rfl (.inl rfl) rfl (sq rfl rfl (q_pick_f rfl rfl rfl rfl) (sa rfl rfl (SOps.sub (st' := ⟨[(0, .c (.bool false))], []⟩) (sub_gen [] rfl rfl (zall rfl rfl) trivial) (SOps.nil (SCode.ret ?_)))))))))))
 obtain rfl := Option.some.inj h
 exact ⟨⟨[(0, .c (.bool false))], []⟩, _, sub_gen [] rfl rfl (zall rfl rfl) trivial, resA1 (v := .c (.bool false)) rfl rfl, rfl⟩
theorem chargenetlaw49_Small_ok (F : Nat) (a0_c : SCase) (r : Bool) (h : chargenetlaw49_Small F a0_c = some r) :
  SFun Try.prog 14 [] [.a (bSCase a0_c)] (fun x _ => x = .c (.bool r)) := by
 refine SFun.of (n := 39) Try.func14 rfl rfl rfl ?_
 unfold chargenetlaw49_Small at h
 show SCode _ _ _ ⟨[(0, .a (bSCase a0_c))], []⟩ _
 refine SCode.seq (SCode.region (se rfl rfl (e_box rfl rfl rfl rfl rfl rfl) (sa rfl rfl (SOps.nil ?_))))
 let S3 := (⟨[(1, .c (.ptr 0 0))], [.box (bSCase a0_c)]⟩ : St)
 refine SCode.join (σ := Unit) (S := fun s => S3) (g := fun s => chargenetlaw49_Small_p4 a0_c = some r) ?_ ?_
 rotate_left
 ·refine SCode.seq (SCode.region (sq rfl rfl (q_field_ptr rfl rfl fd41_0) (sq rfl rfl (q_load_ptr rfl rfl rfl rfl ty36) (sq rfl rfl (q_len_vec rfl rfl sl36) (sm rfl rfl (SOps.nil (SCode.block ?_)))))))
  let S2 := fun (t8_8 : Int) => (⟨[(1, .c (.ptr 0 0)), (6, .c (vSCDR a0_c.CDRs)), (7, ci (((a0_c.CDRs).length : Int))), (8, ci t8_8)], [.box (bSCase a0_c)]⟩ : St)
  refine SCode.sub (st' := (S2 0)) (sub_gen [0] rfl rfl (zall rfl rfl) ⟨bx rfl rfl rfl, trivial⟩) ?_
  refine (SCode.loop (σ := Nat × Int) (S := fun s => (S2 s.2)) (g := fun s => chargenetlaw49_Small_l12 a0_c s.1 s.2 = some r) (μ := fun s => s.1) (F, 0) h ?_)
  rintro ⟨n_12, t8_8⟩ h
  try dsimp only at h
  show SCode _ _ _ (S2 t8_8) _
  cases n_12 with
  | zero => cases h
  | succ n_12 =>
   rw [chargenetlaw49_Small_l12] at h
   unfold chargenetlaw49_Small_b12 at h
   refine SCode.seq (SCode.region (sq rfl rfl (q_lss rfl rfl rfl) (SOps.nil (SCode.seq ?_))))
   rcases cond_out h with ⟨g13, h⟩ | ⟨g13, h⟩
   ·refine SCode.cond_t rfl g13 (SCode.skip (SCode.seq (SCode.block (SCode.seq ?_))))
    obtain ⟨g14, h⟩ := guard_out h
    refine SCode.region (sq rfl rfl (q_index_vec rfl rfl rfl sl36 rfl g14.1 g14.2) (sq rfl rfl (q_load_eptr_all rfl rfl rfl ty47) (se rfl rfl (e_alloc rfl rfl rfl z47) (se rfl rfl (e_store_box rfl rfl rfl rfl rfl ty47 rfl rfl rfl rfl) (SOps.nil (SCode.seq (SCode.region (sq rfl rfl (q_field_ptr rfl rfl fd47_10) (sq rfl rfl (q_load_ptr rfl rfl rfl rfl ty45) (sq rfl rfl (q_len_vec rfl rfl sl45) (sq rfl rfl (q_gtr rfl rfl rfl) (SOps.nil ?_))))))))))))
    rcases cond_out h with ⟨g15, h⟩ | ⟨g15, h⟩
    ·refine SCode.cond_t rfl g15 (SCode.seq (SCode.region (sa rfl rfl (SOps.nil (SCode.ret ?_)))))
     obtain rfl := Option.some.inj h
     exact ⟨⟨[(2, .c (.bool false))], []⟩, _, sub_gen [] rfl rfl (zall rfl rfl) trivial, resA1 (v := .c (.bool false)) rfl rfl, rfl⟩
    refine SCode.cond_f rfl g15 (SCode.skip (SCode.region (sq rfl rfl (q_add rfl rfl rfl) (sm rfl rfl (SOps.nil ?_)))))
    exact ⟨(n_12, IntKind.wrap .i64 (t8_8 + 1)), h, Nat.lt_succ_self n_12, sub_gen [0] rfl rfl (zall rfl rfl) ⟨bx rfl rfl rfl, trivial⟩⟩
   refine SCode.cond_f rfl g13 (SCode.exit ?_)
   exact ⟨(), h, sub_gen [0] rfl rfl (zall rfl rfl) ⟨bx rfl rfl rfl, trivial⟩⟩
 rintro ⟨⟩ h
 show SCode _ _ _ S3 _
 try dsimp only at h
 unfold chargenetlaw49_Small_p4 at h
 refine SCode.seq ?_
 rcases cond_out h with ⟨g1, h⟩ | ⟨g1, h⟩
 ·rcases cond_out h with ⟨g2, h⟩ | ⟨g2, h⟩
  ·rcases cond_out h with ⟨g3, h⟩ | ⟨g3, h⟩
   ·refine SCode.region (sq rfl rfl (q_field_ptr rfl rfl fd41_0) (sq rfl rfl (q_load_ptr rfl rfl rfl rfl ty36) (sq rfl rfl (q_len_vec rfl rfl sl36) (sq rfl rfl (q_leq rfl rfl rfl) (sm rfl rfl (SOps.q rfl (.guard 4 21 true rfl rfl (gT g1)) rfl (q_field_ptr rfl rfl fd41_1) (SOps.q rfl (.guard 4 21 true rfl rfl (gT g1)) rfl (q_load_ptr rfl rfl rfl rfl ty37) (SOps.q rfl (.guard 4 21 true rfl rfl (gT g1)) rfl (q_len_vec rfl rfl sl37) (SOps.q rfl (.guard 4 21 true rfl rfl (gT g1)) rfl (q_leq rfl rfl rfl) (sq rfl rfl (q_pick_t rfl rfl g1 rfl) (sm rfl rfl (SOps.q rfl (.guard 10 27 true rfl rfl (gT g2)) rfl (q_field_ptr rfl rfl fd41_2) (SOps.q rfl (.guard 10 27 true rfl rfl (gT g2)) rfl (q_load_ptr rfl rfl rfl rfl ty9) (SOps.q rfl (.guard 10 27 true rfl rfl (gT g2)) rfl (q_len_str rfl rfl un9) (SOps.q rfl (.guard 10 27 true rfl rfl (gT g2)) rfl (q_leq rfl rfl rfl) ?_)))))))))))))))
    refine sq rfl rfl (q_pick_t rfl rfl g2 rfl) (sm rfl rfl (SOps.q rfl (.guard 16 33 true rfl rfl (gT g3)) rfl (q_field_ptr rfl rfl fd41_3) (SOps.q rfl (.guard 16 33 true rfl rfl (gT g3)) rfl (q_load_ptr rfl rfl rfl rfl ty9) (SOps.q rfl (.guard 16 33 true rfl rfl (gT g3)) rfl (q_len_str rfl rfl un9) (SOps.q rfl (.guard 16 33 true rfl rfl (gT g3)) rfl (q_leq rfl rfl rfl) (sq rfl rfl (q_pick_t rfl rfl g3 rfl) (sa rfl rfl (SOps.sub (st' := ⟨[(2, .c (.bool (decide ((a0_c.B.size : Int) ≤ 100))))], []⟩) (sub_gen [] rfl rfl (zall rfl rfl) trivial) (SOps.nil (SCode.ret ?_))))))))))
    obtain rfl := Option.some.inj h
    exact ⟨⟨[(2, .c (.bool (decide ((a0_c.B.size : Int) ≤ 100))))], []⟩, _, sub_gen [] rfl rfl (zall rfl rfl) trivial, resA1 (v := .c (.bool (decide ((a0_c.B.size : Int) ≤ 100)))) rfl rfl, rfl⟩
   refine SCode.region (sq rfl rfl (q_field_ptr rfl rfl fd41_0) (sq rfl rfl (q_load_ptr rfl rfl rfl rfl ty36) (sq rfl rfl (q_len_vec rfl rfl sl36) (sq rfl rfl (q_leq rfl rfl rfl) (sm rfl rfl (SOps.q rfl (.guard 4 21 true rfl rfl (gT g1)) rfl (q_field_ptr rfl rfl fd41_1) (SOps.q rfl (.guard 4 21 true rfl rfl (gT g1)) rfl (q_load_ptr rfl rfl rfl rfl ty37) (SOps.q rfl (.guard 4 21 true rfl rfl (gT g1)) rfl (q_len_vec rfl rfl sl37) (SOps.q rfl (.guard 4 21 true rfl rfl (gT g1)) rfl (q_leq rfl rfl rfl) (sq rfl rfl (q_pick_t rfl rfl g1 rfl) (sm rfl rfl (SOps.q rfl (.guard 10 27 true rfl rfl (gT g2)) rfl (q_field_ptr rfl rfl fd41_2) (SOps.q rfl (.guard 10 27 true rfl rfl (gT g2)) rfl (q_load_ptr rfl rfl rfl rfl ty9) (SOps.q rfl (.guard 10 27 true rfl rfl (gT g2)) rfl (q_len_str rfl rfl un9) (SOps.q rfl (.guard 10 27 true rfl rfl (gT g2)) rfl (q_leq rfl rfl rfl) ?_)))))))))))))))
   refine sq rfl rfl (q_pick_t rfl rfl g2 rfl) (sm rfl rfl (SOps.skip rfl 16 33 true rfl rfl (.inl (gF g3)) rfl (SOps.skip rfl 16 33 true rfl rfl (.inl (gF g3)) rfl (SOps.skip rfl 16 33 true rfl rfl (.inl (gF g3)) rfl (SOps.skip rfl 16 33 true rfl rfl (.inl (gF g3)) rfl (sq rfl rfl (q_pick_f rfl rfl g3 rfl) (sa rfl rfl (SOps.sub (st' := ⟨[(2, .c (.bool false))], []⟩) (sub_gen [] rfl rfl (zall rfl rfl) trivial) (SOps.nil (SCode.ret ?_))))))))))
   obtain rfl := Option.some.inj h
   exact ⟨⟨[(2, .c (.bool false))], []⟩, _, sub_gen [] rfl rfl (zall rfl rfl) trivial, resA1 (v := .c (.bool false)) rfl rfl, rfl⟩
  refine SCode.region (sq rfl rfl (q_field_ptr rfl rfl fd41_0) (sq rfl rfl (q_load_ptr rfl rfl rfl rfl ty36) (sq rfl rfl (q_len_vec rfl rfl sl36) (sq rfl rfl (q_leq rfl rfl rfl) (sm rfl rfl (SOps.q rfl (.guard 4 21 true rfl rfl (gT g1)) rfl (q_field_ptr rfl rfl fd41_1) (SOps.q rfl (.guard 4 21 true rfl rfl (gT g1)) rfl (q_load_ptr rfl rfl rfl rfl ty37) (SOps.q rfl (.guard 4 21 true rfl rfl (gT g1)) rfl (q_len_vec rfl rfl sl37) (SOps.q rfl (.guard 4 21 true rfl rfl (gT g1)) rfl (q_leq rfl rfl rfl) (sq rfl rfl (q_pick_t rfl rfl g1 rfl) (sm rfl rfl (SOps.skip rfl 10 27 true rfl rfl (.inl (gF g2)) rfl (SOps.skip rfl 10 27 true rfl rfl (.inl (gF g2)) rfl (SOps.skip rfl 10 27 true rfl rfl (.inl (gF g2)) rfl (SOps.skip rfl 10 27 true rfl rfl (.inl (gF g2)) rfl ?_)))))))))))))))
  refine sq rfl rfl (q_pick_f rfl rfl g2 rfl) (sm rfl rfl (SOps.skip rfl 16 33 true rfl rfl (.inl rfl) rfl (SOps.skip rfl 16 33 true rfl rfl (.inl rfl) rfl (SOps.skip rfl 16 33 true rfl rfl (.inl rfl) rfl (SOps.skip rfl 16 33 true rfl rfl (.inl rfl) rfl (sq rfl rfl (q_pick_f rfl rfl rfl rfl) (sa rfl rfl (SOps.sub (st' := ⟨[(2, .c (.bool false))], []⟩) (sub_gen [] rfl rfl (zall rfl rfl) trivial) (SOps.nil (SCode.ret ?_))))))))))
  obtain rfl := Option.some.inj h
  exact ⟨⟨[(2, .c (.bool false))], []⟩, _, sub_gen [] rfl rfl (zall rfl rfl) trivial, resA1 (v := .c (.bool false)) rfl rfl, rfl⟩
 refine SCode.region (sq rfl rfl (q_field_ptr rfl rfl fd41_0) (sq rfl rfl (q_load_ptr rfl rfl rfl rfl ty36) (sq rfl rfl (q_len_vec rfl rfl sl36) (sq rfl rfl (q_leq rfl rfl rfl) (sm rfl rfl (SOps.skip rfl 4 21 true rfl rfl (.inl (gF g1)) rfl (SOps.skip rfl 4 21 true rfl rfl (.inl (gF g1)) rfl (SOps.skip rfl 4 21 true rfl rfl (.inl (gF g1)) rfl (SOps.skip rfl 4 21 true rfl rfl (.inl (gF g1)) rfl (sq rfl rfl (q_pick_f rfl rfl g1 rfl) (sm rfl rfl (SOps.skip rfl 10 27 true rfl rfl (.inl rfl) rfl (SOps.skip rfl 10 27 true rfl rfl (.inl rfl) rfl (SOps.skip rfl 10 27 true rfl rfl (.inl rfl) rfl (SOps.skip rfl 10 27 true rfl rfl (.inl rfl) rfl ?_)))))))))))))))
 refine sq rfl rfl (q_pick_f rfl rfl rfl rfl) (sm rfl rfl (SOps.skip rfl 16 33 true rfl rfl (.inl rfl) rfl (SOps.skip rfl 16 33 true rfl rfl (.inl rfl) rfl (SOps.skip rfl 16 33 true rfl rfl (.inl rfl) rfl (SOps.skip rfl 16 33 true rfl rfl (.inl rfl) rfl (sq rfl rfl (q_pick_f rfl rfl rfl rfl) (sa rfl rfl (SOps.sub (st' := ⟨[(2, .c (.bool false))], []⟩) (sub_gen [] rfl rfl (zall rfl rfl) trivial) (SOps.nil (SCode.ret ?_))))))))))
 obtain rfl := Option.some.inj h
 exact ⟨⟨[(2, .c (.bool false))], []⟩, _, sub_gen [] rfl rfl (zall rfl rfl) trivial, resA1 (v := .c (.bool false)) rfl rfl, rfl⟩
theorem chargenetref01_Capital_ok (F : Nat) (a0_c : Int) (r : Int) (h : chargenetref01_Capital F a0_c = some r) :
  SFun Try.prog 53 [] [.c (.int .u8 a0_c)] (fun x _ => x = .c (.int .u8 r)) := by
 refine SFun.of (n := 12) Try.func53 rfl rfl rfl ?_
 unfold chargenetref01_Capital at h
 show SCode _ _ _ ⟨[(0, .c (.int .u8 a0_c))], []⟩ _
 refine SCode.seq (SCode.region (sa rfl rfl (SOps.nil ?_)))
 let S1 := (⟨[(0, .c (.int .u8 a0_c))], []⟩ : St)
 refine SCode.join (σ := Unit) (S := fun s => S1) (g := fun s => chargenetref01_Capital_p1 a0_c = some r) ?_ ?_
 rotate_left
 ·refine SCode.seq ?_
  rcases cond_out h with ⟨g2, h⟩ | ⟨g2, h⟩
  ·refine SCode.region (sm rfl rfl (sq rfl rfl (q_geq rfl rfl rfl) (sm rfl rfl (SOps.q rfl (.guard 2 5 true rfl rfl (gT g2)) rfl (q_move rfl rfl) (SOps.q rfl (.guard 2 5 true rfl rfl (gT g2)) rfl (q_leq rfl rfl rfl) (sq rfl rfl (q_pick_t rfl rfl g2 rfl) (SOps.nil ?_)))))))
   rcases cond_out h with ⟨g3, h⟩ | ⟨g3, h⟩
   ·refine SCode.cond_t rfl g3 (SCode.seq (SCode.region (sm rfl rfl (sq rfl rfl (q_sub rfl rfl rfl) (sa rfl rfl (SOps.nil (SCode.ret ?_)))))))
    obtain rfl := Option.some.inj h
    exact ⟨⟨[(2, .c (.int .u8 (IntKind.wrap .u8 (a0_c - 32))))], []⟩, _, sub_gen [] rfl rfl (zall rfl rfl) trivial, resA1 (v := .c (.int .u8 (IntKind.wrap .u8 (a0_c - 32)))) rfl rfl, rfl⟩
   refine SCode.cond_f rfl g3 (SCode.skip ?_)
   exact ⟨(), h, sub_gen [] rfl rfl (zall rfl rfl) trivial⟩
  refine SCode.region (sm rfl rfl (sq rfl rfl (q_geq rfl rfl rfl) (sm rfl rfl (SOps.skip rfl 2 5 true rfl rfl (.inl (gF g2)) rfl (SOps.skip rfl 2 5 true rfl rfl (.inl (gF g2)) rfl (sq rfl rfl (q_pick_f rfl rfl g2 rfl) (SOps.nil (SCode.cond_f rfl rfl (SCode.skip ?_)))))))))
  exact ⟨(), h, sub_gen [] rfl rfl (zall rfl rfl) trivial⟩
 rintro ⟨⟩ h
 show SCode _ _ _ S1 _
 try dsimp only at h
 unfold chargenetref01_Capital_p1 at h
 refine SCode.seq (SCode.region (sm rfl rfl (sa rfl rfl (SOps.nil (SCode.ret ?_)))))
 obtain rfl := Option.some.inj h
 exact ⟨⟨[(2, .c (.int .u8 a0_c))], []⟩, _, sub_gen [] rfl rfl (zall rfl rfl) trivial, resA1 (v := .c (.int .u8 a0_c)) rfl rfl, rfl⟩
end Go.Proofs.Ytoncfkdgddfnlaa.W
