/- Written by a program of ours (wip/eng/gen.py): the functions compute their models. -/
import Derived.Test.YtoncfkdgddfnlaaFacts
import Derived.Test.YtoncfkdgddfnlaaV3x1
namespace Go.Proofs.Ytoncfkdgddfnlaa.W
open Go Go.Proofs Go.Proofs.Ytoncfkdgddfnlaa.E Go.Proofs.Ytoncfkdgddfnlaa.M
set_option linter.unusedVariables false
set_option maxRecDepth 100000
set_option maxHeartbeats 8000000
theorem chargenetref01_Valid_ok (F : Nat) (a0_s : ByteArray) (r : Bool) (h : chargenetref01_Valid F a0_s = some r) :
  SFun Try.prog 24 [] [.c (.str a0_s)] (fun x _ => x = .c (.bool r)) := by
 refine SFun.of (n := 45) Try.func24 rfl rfl rfl ?_
 unfold chargenetref01_Valid at h
 show SCode _ _ _ ⟨[(0, .c (.str a0_s))], []⟩ _
 refine SCode.seq (SCode.region (sa rfl rfl (SOps.nil (SCode.seq (SCode.seq ?_)))))
 rcases cond_out h with ⟨g1, h⟩ | ⟨g1, h⟩
 ·refine SCode.region (sm rfl rfl (sq rfl rfl (q_len_str rfl rfl un9) (sq rfl rfl (q_lss rfl rfl rfl) (sm rfl rfl (SOps.skip rfl 3 8 false rfl rfl (.inl (gT g1)) rfl (SOps.skip rfl 3 8 false rfl rfl (.inl (gT g1)) rfl (SOps.skip rfl 3 8 false rfl rfl (.inl (gT g1)) rfl (sq rfl rfl (q_pick_t rfl rfl g1 rfl) (SOps.nil (SCode.cond_t rfl rfl (SCode.seq (SCode.region (sa rfl rfl (SOps.nil (SCode.ret ?_)))))))))))))))
  obtain rfl := Option.some.inj h
  exact ⟨⟨[(2, .c (.bool false))], []⟩, _, sub_gen [] rfl rfl (zall rfl rfl) trivial, resA1 (v := .c (.bool false)) rfl rfl, rfl⟩
 refine SCode.region (sm rfl rfl (sq rfl rfl (q_len_str rfl rfl un9) (sq rfl rfl (q_lss rfl rfl rfl) (sm rfl rfl (SOps.q rfl (.guard 3 8 false rfl rfl (gF g1)) rfl (q_move rfl rfl) (SOps.q rfl (.guard 3 8 false rfl rfl (gF g1)) rfl (q_len_str rfl rfl un9) (SOps.q rfl (.guard 3 8 false rfl rfl (gF g1)) rfl (q_gtr rfl rfl rfl) (sq rfl rfl (q_pick_f rfl rfl g1 rfl) (SOps.nil ?_)))))))))
 rcases cond_out h with ⟨g2, h⟩ | ⟨g2, h⟩
 ·refine SCode.cond_t rfl g2 (SCode.seq (SCode.region (sa rfl rfl (SOps.nil (SCode.ret ?_)))))
  obtain rfl := Option.some.inj h
  exact ⟨⟨[(2, .c (.bool false))], []⟩, _, sub_gen [] rfl rfl (zall rfl rfl) trivial, resA1 (v := .c (.bool false)) rfl rfl, rfl⟩
 refine SCode.cond_f rfl g2 (SCode.skip ?_)
 let S9 := (⟨[], []⟩ : St)
 refine SCode.join (σ := Unit) (S := fun s => S9) (g := fun s => chargenetref01_Valid_p3 = some r) ?_ ?_
 rotate_left
 ·refine SCode.seq (SCode.region (sa rfl rfl (SOps.nil (SCode.block ?_))))
  let S8 := fun (i_15 : Int) => (⟨[(0, .c (.str a0_s)), (3, ci i_15)], []⟩ : St)
  refine SCode.sub (st' := (S8 0)) (sub_gen [] rfl rfl (zall rfl rfl) trivial) ?_
  refine (SCode.loop (σ := Nat × Int) (S := fun s => (S8 s.2)) (g := fun s => chargenetref01_Valid_l27 F a0_s s.1 s.2 = some r) (μ := fun s => s.1) (F, 0) h ?_)
  rintro ⟨n_27, i_15⟩ h
  try dsimp only at h
  show SCode _ _ _ (S8 i_15) _
  cases n_27 with
  | zero => cases h
  | succ n_27 =>
   rw [chargenetref01_Valid_l27] at h
   unfold chargenetref01_Valid_b27 at h
   refine SCode.seq (SCode.seq (SCode.region (sm rfl rfl (sm rfl rfl (sq rfl rfl (q_len_str rfl rfl un9) (sq rfl rfl (q_lss rfl rfl rfl) (SOps.nil ?_)))))))
   rcases cond_out h with ⟨g28, h⟩ | ⟨g28, h⟩
   ·refine SCode.cond_t rfl g28 (SCode.skip ?_)
    let S7 := (⟨[(0, .c (.str a0_s)), (3, ci i_15)], []⟩ : St)
    refine SCode.join (σ := Unit) (S := fun s => S7) (g := fun s => chargenetref01_Valid_p29 i_15 (fun i_15 => chargenetref01_Valid_l27 F a0_s n_27 i_15) = some r) ?_ ?_
    rotate_left
    ·refine SCode.block (SCode.seq ?_)
     obtain ⟨g30, h⟩ := guard_out h
     refine SCode.region (sm rfl rfl (sm rfl rfl (sq rfl rfl (q_index_str rfl rfl rfl un9 g30.1 g30.2) (sa rfl rfl (SOps.nil (SCode.seq ?_))))))
     obtain ⟨c_31, g32, h⟩ := bind_out h
     try dsimp only at h
     rcases cond_out h with ⟨g33, h⟩ | ⟨g33, h⟩
     ·rcases cond_out h with ⟨g34, h⟩ | ⟨g34, h⟩
      ·rcases cond_out h with ⟨g35, h⟩ | ⟨g35, h⟩
       ·rcases cond_out h with ⟨g36, h⟩ | ⟨g36, h⟩
        ·rcases cond_out h with ⟨g37, h⟩ | ⟨g37, h⟩
         ·refine SCode.region (sm rfl rfl (sq rfl rfl (q_call (chargenetref01_Value_ok F (sGet a0_s i_15.toNat) c_31 g32) [] rfl fn44 ⟨⟨_, rfl, .inl ⟨rfl, rfl⟩⟩, trivial⟩ (.inl rfl)) (sq rfl rfl (q_lss rfl rfl rfl) (sm rfl rfl (SOps.q rfl (.guard 3 25 true rfl rfl (gT g33)) rfl (q_move rfl rfl) (SOps.q rfl (.guard 3 25 true rfl rfl (gT g33)) rfl (q_neq rfl rfl rfl) (sq rfl rfl (q_pick_t rfl rfl g33 rfl) (sm rfl rfl (SOps.q rfl (.guard 7 29 true rfl rfl (gT g34)) rfl (q_move rfl rfl) (SOps.q rfl (.guard 7 29 true rfl rfl (gT g34)) rfl (q_neq rfl rfl rfl) (sq rfl rfl (q_pick_t rfl rfl g34 rfl) (sm rfl rfl (SOps.q rfl (.guard 11 33 true rfl rfl (gT g35)) rfl (q_move rfl rfl) (SOps.q rfl (.guard 11 33 true rfl rfl (gT g35)) rfl (q_neq rfl rfl rfl) (sq rfl rfl (q_pick_t rfl rfl g35 rfl) ?_)))))))))))))))
          refine sm rfl rfl (SOps.q rfl (.guard 15 37 true rfl rfl (gT g36)) rfl (q_move rfl rfl) (SOps.q rfl (.guard 15 37 true rfl rfl (gT g36)) rfl (q_neq rfl rfl rfl) (sq rfl rfl (q_pick_t rfl rfl g36 rfl) (sm rfl rfl (SOps.q rfl (.guard 19 41 true rfl rfl (gT g37)) rfl (q_move rfl rfl) (SOps.q rfl (.guard 19 41 true rfl rfl (gT g37)) rfl (q_neq rfl rfl rfl) (sq rfl rfl (q_pick_t rfl rfl g37 rfl) (SOps.sub (st' := ⟨[(0, .c (.str a0_s)), (3, ci i_15), (44, .c (.bool ((!decide (sGet a0_s i_15.toNat = 42)))))], []⟩) (sub_gen [] rfl rfl (zall rfl rfl) trivial) (SOps.nil ?_)))))))))
          rcases cond_out h with ⟨g38, h⟩ | ⟨g38, h⟩
          ·refine SCode.cond_t rfl g38 (SCode.seq (SCode.region (sa rfl rfl (SOps.nil (SCode.ret ?_)))))
           obtain rfl := Option.some.inj h
           exact ⟨⟨[(2, .c (.bool false))], []⟩, _, sub_gen [] rfl rfl (zall rfl rfl) trivial, resA1 (v := .c (.bool false)) rfl rfl, rfl⟩
          refine SCode.cond_f rfl g38 (SCode.skip ?_)
          exact ⟨(), h, sub_gen [] rfl rfl (zall rfl rfl) trivial⟩
         refine SCode.region (sm rfl rfl (sq rfl rfl (q_call (chargenetref01_Value_ok F (sGet a0_s i_15.toNat) c_31 g32) [] rfl fn44 ⟨⟨_, rfl, .inl ⟨rfl, rfl⟩⟩, trivial⟩ (.inl rfl)) (sq rfl rfl (q_lss rfl rfl rfl) (sm rfl rfl (SOps.q rfl (.guard 3 25 true rfl rfl (gT g33)) rfl (q_move rfl rfl) (SOps.q rfl (.guard 3 25 true rfl rfl (gT g33)) rfl (q_neq rfl rfl rfl) (sq rfl rfl (q_pick_t rfl rfl g33 rfl) (sm rfl rfl (SOps.q rfl (.guard 7 29 true rfl rfl (gT g34)) rfl (q_move rfl rfl) (SOps.q rfl (.guard 7 29 true rfl rfl (gT g34)) rfl (q_neq rfl rfl rfl) (sq rfl rfl (q_pick_t rfl rfl g34 rfl) (sm rfl rfl (SOps.q rfl (.guard 11 33 true rfl rfl (gT g35)) rfl (q_move rfl rfl) (SOps.q rfl (.guard 11 33 true rfl rfl (gT g35)) rfl (q_neq rfl rfl rfl) (sq rfl rfl (q_pick_t rfl rfl g35 rfl) ?_)))))))))))))))
         refine sm rfl rfl (SOps.q rfl (.guard 15 37 true rfl rfl (gT g36)) rfl (q_move rfl rfl) (SOps.q rfl (.guard 15 37 true rfl rfl (gT g36)) rfl (q_neq rfl rfl rfl) (sq rfl rfl (q_pick_t rfl rfl g36 rfl) (sm rfl rfl (SOps.skip rfl 19 41 true rfl rfl (.inl (gF g37)) rfl (SOps.skip rfl 19 41 true rfl rfl (.inl (gF g37)) rfl (sq rfl rfl (q_pick_f rfl rfl g37 rfl) (SOps.sub (st' := ⟨[(0, .c (.str a0_s)), (3, ci i_15), (44, .c (.bool false))], []⟩) (sub_gen [] rfl rfl (zall rfl rfl) trivial) (SOps.nil (SCode.cond_f rfl rfl (SCode.skip ?_)))))))))))
         exact ⟨(), h, sub_gen [] rfl rfl (zall rfl rfl) trivial⟩
        refine SCode.region (sm rfl rfl (sq rfl rfl (q_call (chargenetref01_Value_ok F (sGet a0_s i_15.toNat) c_31 g32) [] rfl fn44 ⟨⟨_, rfl, .inl ⟨rfl, rfl⟩⟩, trivial⟩ (.inl rfl)) (sq rfl rfl (q_lss rfl rfl rfl) (sm rfl rfl (SOps.q rfl (.guard 3 25 true rfl rfl (gT g33)) rfl (q_move rfl rfl) (SOps.q rfl (.guard 3 25 true rfl rfl (gT g33)) rfl (q_neq rfl rfl rfl) (sq rfl rfl (q_pick_t rfl rfl g33 rfl) (sm rfl rfl (SOps.q rfl (.guard 7 29 true rfl rfl (gT g34)) rfl (q_move rfl rfl) (SOps.q rfl (.guard 7 29 true rfl rfl (gT g34)) rfl (q_neq rfl rfl rfl) (sq rfl rfl (q_pick_t rfl rfl g34 rfl) (sm rfl rfl (SOps.q rfl (.guard 11 33 true rfl rfl (gT g35)) rfl (q_move rfl rfl) (SOps.q rfl (.guard 11 33 true rfl rfl (gT g35)) rfl (q_neq rfl rfl rfl) (sq rfl rfl (q_pick_t rfl rfl g35 rfl) ?_)))))))))))))))
        refine sm rfl rfl (SOps.skip rfl 15 37 true rfl rfl (.inl (gF g36)) rfl (SOps.skip rfl 15 37 true rfl rfl (.inl (gF g36)) rfl (sq rfl rfl (q_pick_f rfl rfl g36 rfl) (sm rfl rfl (SOps.skip rfl 19 41 true rfl rfl (.inl rfl) rfl (SOps.skip rfl 19 41 true rfl rfl (.inl rfl) rfl (sq rfl rfl (q_pick_f rfl rfl rfl rfl) (SOps.sub (st' := ⟨[(0, .c (.str a0_s)), (3, ci i_15), (44, .c (.bool false))], []⟩) (sub_gen [] rfl rfl (zall rfl rfl) trivial) (SOps.nil (SCode.cond_f rfl rfl (SCode.skip ?_)))))))))))
        exact ⟨(), h, sub_gen [] rfl rfl (zall rfl rfl) trivial⟩
       refine SCode.region (sm rfl rfl (sq rfl rfl (q_call (chargenetref01_Value_ok F (sGet a0_s i_15.toNat) c_31 g32) [] rfl fn44 ⟨⟨_, rfl, .inl ⟨rfl, rfl⟩⟩, trivial⟩ (.inl rfl)) (sq rfl rfl (q_lss rfl rfl rfl) (sm rfl rfl (SOps.q rfl (.guard 3 25 true rfl rfl (gT g33)) rfl (q_move rfl rfl) (SOps.q rfl (.guard 3 25 true rfl rfl (gT g33)) rfl (q_neq rfl rfl rfl) (sq rfl rfl (q_pick_t rfl rfl g33 rfl) (sm rfl rfl (SOps.q rfl (.guard 7 29 true rfl rfl (gT g34)) rfl (q_move rfl rfl) (SOps.q rfl (.guard 7 29 true rfl rfl (gT g34)) rfl (q_neq rfl rfl rfl) (sq rfl rfl (q_pick_t rfl rfl g34 rfl) (sm rfl rfl (SOps.skip rfl 11 33 true rfl rfl (.inl (gF g35)) rfl (SOps.skip rfl 11 33 true rfl rfl (.inl (gF g35)) rfl (sq rfl rfl (q_pick_f rfl rfl g35 rfl) ?_)))))))))))))))
       refine sm rfl rfl (SOps.skip rfl 15 37 true rfl rfl (.inl rfl) rfl (SOps.skip rfl 15 37 true rfl rfl (.inl rfl) rfl (sq rfl rfl (q_pick_f rfl rfl rfl rfl) (sm rfl rfl (SOps.skip rfl 19 41 true rfl rfl (.inl rfl) rfl (SOps.skip rfl 19 41 true rfl rfl (.inl rfl) rfl (sq rfl rfl (q_pick_f rfl rfl rfl rfl) (SOps.sub (st' := ⟨[(0, .c (.str a0_s)), (3, ci i_15), (44, .c (.bool false))], []⟩) (sub_gen [] rfl rfl (zall rfl rfl) trivial) (SOps.nil (SCode.cond_f rfl rfl (SCode.skip ?_)))))))))))
       exact ⟨(), h, sub_gen [] rfl rfl (zall rfl rfl) trivial⟩
      refine SCode.region (sm rfl rfl (sq rfl rfl (q_call (chargenetref01_Value_ok F (sGet a0_s i_15.toNat) c_31 g32) [] rfl fn44 ⟨⟨_, rfl, .inl ⟨rfl, rfl⟩⟩, trivial⟩ (.inl rfl)) (sq rfl rfl (q_lss rfl rfl rfl) (sm rfl rfl (SOps.q rfl (.guard 3 25 true rfl rfl (gT g33)) rfl (q_move rfl rfl) (SOps.q rfl (.guard 3 25 true rfl rfl (gT g33)) rfl (q_neq rfl rfl rfl) (sq rfl rfl (q_pick_t rfl rfl g33 rfl) (sm rfl rfl (SOps.skip rfl 7 29 true rfl rfl (.inl (gF g34)) rfl (SOps.skip rfl 7 29 true rfl rfl (.inl (gF g34)) rfl (sq rfl rfl (q_pick_f rfl rfl g34 rfl) (sm rfl rfl (SOps.skip rfl 11 33 true rfl rfl (.inl rfl) rfl (SOps.skip rfl 11 33 true rfl rfl (.inl rfl) rfl (sq rfl rfl (q_pick_f rfl rfl rfl rfl) ?_)))))))))))))))
      refine sm rfl rfl (SOps.skip rfl 15 37 true rfl rfl (.inl rfl) rfl (SOps.skip rfl 15 37 true rfl rfl (.inl rfl) rfl (sq rfl rfl (q_pick_f rfl rfl rfl rfl) (sm rfl rfl (SOps.skip rfl 19 41 true rfl rfl (.inl rfl) rfl (SOps.skip rfl 19 41 true rfl rfl (.inl rfl) rfl (sq rfl rfl (q_pick_f rfl rfl rfl rfl) (SOps.sub (st' := ⟨[(0, .c (.str a0_s)), (3, ci i_15), (44, .c (.bool false))], []⟩) (sub_gen [] rfl rfl (zall rfl rfl) trivial) (SOps.nil (SCode.cond_f rfl rfl (SCode.skip ?_)))))))))))
      exact ⟨(), h, sub_gen [] rfl rfl (zall rfl rfl) trivial⟩
     refine SCode.region (sm rfl rfl (sq rfl rfl (q_call (chargenetref01_Value_ok F (sGet a0_s i_15.toNat) c_31 g32) [] rfl fn44 ⟨⟨_, rfl, .inl ⟨rfl, rfl⟩⟩, trivial⟩ (.inl rfl)) (sq rfl rfl (q_lss rfl rfl rfl) (sm rfl rfl (SOps.skip rfl 3 25 true rfl rfl (.inl (gF g33)) rfl (SOps.skip rfl 3 25 true rfl rfl (.inl (gF g33)) rfl (sq rfl rfl (q_pick_f rfl rfl g33 rfl) (sm rfl rfl (SOps.skip rfl 7 29 true rfl rfl (.inl rfl) rfl (SOps.skip rfl 7 29 true rfl rfl (.inl rfl) rfl (sq rfl rfl (q_pick_f rfl rfl rfl rfl) (sm rfl rfl (SOps.skip rfl 11 33 true rfl rfl (.inl rfl) rfl (SOps.skip rfl 11 33 true rfl rfl (.inl rfl) rfl (sq rfl rfl (q_pick_f rfl rfl rfl rfl) ?_)))))))))))))))
     refine sm rfl rfl (SOps.skip rfl 15 37 true rfl rfl (.inl rfl) rfl (SOps.skip rfl 15 37 true rfl rfl (.inl rfl) rfl (sq rfl rfl (q_pick_f rfl rfl rfl rfl) (sm rfl rfl (SOps.skip rfl 19 41 true rfl rfl (.inl rfl) rfl (SOps.skip rfl 19 41 true rfl rfl (.inl rfl) rfl (sq rfl rfl (q_pick_f rfl rfl rfl rfl) (SOps.sub (st' := ⟨[(0, .c (.str a0_s)), (3, ci i_15), (44, .c (.bool false))], []⟩) (sub_gen [] rfl rfl (zall rfl rfl) trivial) (SOps.nil (SCode.cond_f rfl rfl (SCode.skip ?_)))))))))))
     exact ⟨(), h, sub_gen [] rfl rfl (zall rfl rfl) trivial⟩
    rintro ⟨⟩ h
    show SCode _ _ _ S7 _
    try dsimp only at h
    unfold chargenetref01_Valid_p29 at h
    refine SCode.region (sm rfl rfl (sq rfl rfl (q_add rfl rfl rfl) (sa rfl rfl (SOps.nil ?_))))
    exact ⟨(n_27, IntKind.wrap .i64 (i_15 + 1)), h, Nat.lt_succ_self n_27, sub_gen [] rfl rfl (zall rfl rfl) trivial⟩
   refine SCode.cond_f rfl g28 (SCode.exit ?_)
   exact ⟨(), h, sub_gen [] rfl rfl trivial trivial⟩
 rintro ⟨⟩ h
 show SCode _ _ _ S9 _
 try dsimp only at h
 unfold chargenetref01_Valid_p3 at h
 refine SCode.seq (SCode.region (sa rfl rfl (SOps.nil (SCode.ret ?_))))
 obtain rfl := Option.some.inj h
 exact ⟨⟨[(2, .c (.bool true))], []⟩, _, sub_gen [] rfl rfl (zall rfl rfl) trivial, resA1 (v := .c (.bool true)) rfl rfl, rfl⟩
theorem chargenetref49_currency_ok (F : Nat) (a0_s : ByteArray) (r : Bool) (h : chargenetref49_currency F a0_s = some r) :
  SFun Try.prog 25 [] [.c (.str a0_s)] (fun x _ => x = .c (.bool r)) := by
 refine SFun.of (n := 23) Try.func25 rfl rfl rfl ?_
 unfold chargenetref49_currency at h
 show SCode _ _ _ ⟨[(0, .c (.str a0_s))], []⟩ _
 refine SCode.seq (SCode.region (sa rfl rfl (SOps.nil (SCode.seq (SCode.seq (SCode.region (sm rfl rfl (sq rfl rfl (q_len_str rfl rfl un9) (sq rfl rfl (q_neq rfl rfl rfl) (SOps.nil ?_))))))))))
 rcases cond_out h with ⟨g1, h⟩ | ⟨g1, h⟩
 ·refine SCode.cond_t rfl g1 (SCode.seq (SCode.region (sa rfl rfl (SOps.nil (SCode.ret ?_)))))
  obtain rfl := Option.some.inj h
  exact ⟨⟨[(2, .c (.bool false))], []⟩, _, sub_gen [] rfl rfl (zall rfl rfl) trivial, resA1 (v := .c (.bool false)) rfl rfl, rfl⟩
 refine SCode.cond_f rfl g1 (SCode.skip ?_)
 let S3 := (⟨[], []⟩ : St)
 refine SCode.join (σ := Unit) (S := fun s => S3) (g := fun s => chargenetref49_currency_p2 = some r) ?_ ?_
 rotate_left
 ·refine SCode.seq (SCode.region (sm rfl rfl (sq rfl rfl (q_len_str rfl rfl un9) (sm rfl rfl (SOps.nil (SCode.block ?_))))))
  let S2 := fun (t9_8 : Int) => (⟨[(0, .c (.str a0_s)), (8, ci ((a0_s.size : Int))), (9, ci t9_8)], []⟩ : St)
  refine SCode.sub (st' := (S2 0)) (sub_gen [] rfl rfl (zall rfl rfl) trivial) ?_
  refine (SCode.loop (σ := Nat × Int) (S := fun s => (S2 s.2)) (g := fun s => chargenetref49_currency_l14 a0_s s.1 s.2 = some r) (μ := fun s => s.1) (F, 0) h ?_)
  rintro ⟨n_14, t9_8⟩ h
  try dsimp only at h
  show SCode _ _ _ (S2 t9_8) _
  cases n_14 with
  | zero => cases h
  | succ n_14 =>
   rw [chargenetref49_currency_l14] at h
   unfold chargenetref49_currency_b14 at h
   refine SCode.seq (SCode.region (sq rfl rfl (q_lss rfl rfl rfl) (SOps.nil (SCode.seq ?_))))
   rcases cond_out h with ⟨g15, h⟩ | ⟨g15, h⟩
   ·refine SCode.cond_t rfl g15 (SCode.skip (SCode.seq (SCode.block (SCode.seq (SCode.region (sm rfl rfl (sa rfl rfl (SOps.nil (SCode.seq ?_)))))))))
    obtain ⟨g16, h⟩ := guard_out h
    rcases cond_out h with ⟨g17, h⟩ | ⟨g17, h⟩
    ·refine SCode.region (sm rfl rfl (sm rfl rfl (sq rfl rfl (q_index_str rfl rfl rfl un9 g16.1 g16.2) (sq rfl rfl (q_lss rfl rfl rfl) (sm rfl rfl (SOps.skip rfl 4 16 false rfl rfl (.inl (gT g17)) rfl (SOps.skip rfl 4 16 false rfl rfl (.inl (gT g17)) rfl (SOps.skip rfl 4 16 false rfl rfl (.inl (gT g17)) rfl (SOps.skip rfl 4 16 false rfl rfl (.inl (gT g17)) rfl (sq rfl rfl (q_pick_t rfl rfl g17 rfl) (SOps.nil (SCode.cond_t rfl rfl (SCode.seq (SCode.region (sa rfl rfl ?_)))))))))))))))
     refine SOps.nil (SCode.ret ?_)
     obtain rfl := Option.some.inj h
     exact ⟨⟨[(2, .c (.bool false))], []⟩, _, sub_gen [] rfl rfl (zall rfl rfl) trivial, resA1 (v := .c (.bool false)) rfl rfl, rfl⟩
    obtain ⟨g18, h⟩ := guard_out h
    refine SCode.region (sm rfl rfl (sm rfl rfl (sq rfl rfl (q_index_str rfl rfl rfl un9 g16.1 g16.2) (sq rfl rfl (q_lss rfl rfl rfl) (sm rfl rfl (SOps.q rfl (.guard 4 16 false rfl rfl (gF g17)) rfl (q_move rfl rfl) (SOps.q rfl (.guard 4 16 false rfl rfl (gF g17)) rfl (q_move rfl rfl) (SOps.q rfl (.guard 4 16 false rfl rfl (gF g17)) rfl (q_index_str rfl rfl rfl un9 g18.1 g18.2) (SOps.q rfl (.guard 4 16 false rfl rfl (gF g17)) rfl (q_gtr rfl rfl rfl) (sq rfl rfl (q_pick_f rfl rfl g17 rfl) (SOps.nil ?_)))))))))))
    rcases cond_out h with ⟨g19, h⟩ | ⟨g19, h⟩
    ·refine SCode.cond_t rfl g19 (SCode.seq (SCode.region (sa rfl rfl (SOps.nil (SCode.ret ?_)))))
     obtain rfl := Option.some.inj h
     exact ⟨⟨[(2, .c (.bool false))], []⟩, _, sub_gen [] rfl rfl (zall rfl rfl) trivial, resA1 (v := .c (.bool false)) rfl rfl, rfl⟩
    refine SCode.cond_f rfl g19 (SCode.skip (SCode.region (sq rfl rfl (q_add rfl rfl rfl) (sm rfl rfl (SOps.nil ?_)))))
    exact ⟨(n_14, IntKind.wrap .i64 (t9_8 + 1)), h, Nat.lt_succ_self n_14, sub_gen [] rfl rfl (zall rfl rfl) trivial⟩
   refine SCode.cond_f rfl g15 (SCode.exit ?_)
   exact ⟨(), h, sub_gen [] rfl rfl trivial trivial⟩
 rintro ⟨⟩ h
 show SCode _ _ _ S3 _
 try dsimp only at h
 unfold chargenetref49_currency_p2 at h
 refine SCode.seq (SCode.region (sa rfl rfl (SOps.nil (SCode.ret ?_))))
 obtain rfl := Option.some.inj h
 exact ⟨⟨[(2, .c (.bool true))], []⟩, _, sub_gen [] rfl rfl (zall rfl rfl) trivial, resA1 (v := .c (.bool true)) rfl rfl, rfl⟩
theorem chargenetref49_extremes_ok (F : Nat) (a0_l : List SPosition) (r : Int × Int × Bool) (h : chargenetref49_extremes F a0_l = some r) :
  SFun Try.prog 26 [] [.c (vSPosition a0_l)] (fun x _ => x = .t [.c (.int .i64 r.1), .c (.int .i64 r.2.1), .c (.bool r.2.2)]) := by
 refine SFun.of (n := 87) Try.func26 rfl rfl rfl ?_
 unfold chargenetref49_extremes at h
 show SCode _ _ _ ⟨[(0, .c (vSPosition a0_l))], []⟩ _
 refine SCode.seq (SCode.region (sa rfl rfl (sa rfl rfl (sa rfl rfl (SOps.nil ?_)))))
 let S285 := (⟨[], []⟩ : St)
 refine SCode.join (σ := Unit) (S := fun s => S285) (g := fun s => chargenetref49_extremes_p1 = some r) ?_ ?_
 rotate_left
 ·refine SCode.seq (SCode.region (sm rfl rfl (sq rfl rfl (q_len_vec rfl rfl sl29) (sm rfl rfl (SOps.nil (SCode.block ?_))))))
  let S284 := fun (t13_82 : Int) => (⟨[(0, .c (vSPosition a0_l)), (11, .c (vSPosition a0_l)), (12, ci (((a0_l).length : Int))), (13, ci t13_82)], []⟩ : St)
  refine SCode.sub (st' := (S284 0)) (sub_gen [] rfl rfl (zall rfl rfl) trivial) ?_
  refine (SCode.loop (σ := Nat × Int) (S := fun s => (S284 s.2)) (g := fun s => chargenetref49_extremes_l148 F a0_l s.1 s.2 = some r) (μ := fun s => s.1) (F, 0) h ?_)
  rintro ⟨n_148, t13_82⟩ h
  try dsimp only at h
  show SCode _ _ _ (S284 t13_82) _
  cases n_148 with
  | zero => cases h
  | succ n_148 =>
   rw [chargenetref49_extremes_l148] at h
   unfold chargenetref49_extremes_b148 at h
   refine SCode.seq (SCode.region (sq rfl rfl (q_lss rfl rfl rfl) (SOps.nil (SCode.seq ?_))))
   rcases cond_out h with ⟨g149, h⟩ | ⟨g149, h⟩
   ·refine SCode.cond_t rfl g149 (SCode.skip ?_)
    let S283 := (⟨[(0, .c (vSPosition a0_l)), (11, .c (vSPosition a0_l)), (12, ci (((a0_l).length : Int))), (13, ci t13_82)], []⟩ : St)
    refine SCode.join (σ := Unit) (S := fun s => S283) (g := fun s => chargenetref49_extremes_p150 t13_82 (fun t13_82 => chargenetref49_extremes_l148 F a0_l n_148 t13_82) = some r) ?_ ?_
    rotate_left
    ·refine SCode.block (SCode.seq ?_)
     obtain ⟨g151, h⟩ := guard_out h
     refine SCode.region (sm rfl rfl (sq rfl rfl (q_index_vec rfl rfl rfl sl29 rfl g151.1 g151.2) (sq rfl rfl (q_load_eptr_all rfl rfl rfl ty32) (se rfl rfl (e_alloc rfl rfl rfl z32) (sa rfl rfl (se rfl rfl (e_store_box rfl rfl rfl rfl rfl ty32 rfl rfl rfl rfl) (SOps.nil (SCode.seq (SCode.seq (SCode.region (sq rfl rfl (q_field_ptr rfl rfl fd32_2) (sq rfl rfl (q_load_ptr rfl rfl rfl rfl ty3) (sq rfl rfl (q_eql rfl rfl rfl) (SOps.nil ?_))))))))))))))
     rcases cond_out h with ⟨g152, h⟩ | ⟨g152, h⟩
     ·refine SCode.cond_t rfl g152 (SCode.exit ?_)
      exact ⟨(), h, sub_gen [] rfl rfl (zall rfl rfl) trivial⟩
     refine SCode.cond_f rfl g152 (SCode.skip (SCode.seq (SCode.region (sm rfl rfl (sm rfl rfl (sa rfl rfl (sa rfl rfl (SOps.nil ?_))))))))
     let S282 := fun (most_153 : Int) => fun (least_154 : Int) => (⟨[(7, ci most_153), (8, ci least_154)], []⟩ : St)
     refine SCode.join (σ := Int × Int) (S := fun s => (S282 s.1 s.2)) (g := fun s => chargenetref49_extremes_p155 s.1 s.2 = some r) ?_ ?_
     rotate_left
     ·refine SCode.seq (SCode.region (sm rfl rfl (sq rfl rfl (q_len_vec rfl rfl sl29) (sm rfl rfl (SOps.nil (SCode.block ?_))))))
      let S281 := fun (most_174 : Int) => fun (least_175 : Int) => fun (t25_176 : Int) => (⟨[(0, .c (vSPosition a0_l)), (6, .c (.ptr 0 0)), (7, ci most_174), (8, ci least_175), (23, .c (vSPosition a0_l)), (24, ci (((a0_l).length : Int))), (25, ci t25_176)], [.box (bSPosition (a0_l.getD t13_82.toNat dSPosition))]⟩ : St)
      refine SCode.sub (st' := (S281 t13_82 t13_82 0)) (sub_gen [0] rfl rfl (zall rfl rfl) ⟨bx rfl rfl rfl, trivial⟩) ?_
      refine (SCode.loop (σ := Nat × (Int × Int × Int)) (S := fun s => (S281 s.2.1 s.2.2.1 s.2.2.2)) (g := fun s => chargenetref49_extremes_l195 a0_l t13_82 s.1 s.2.1 s.2.2.1 s.2.2.2 = some r) (μ := fun s => s.1) (F, (t13_82, t13_82, 0)) h ?_)
      rintro ⟨n_195, ⟨most_174, least_175, t25_176⟩⟩ h
      try dsimp only at h
      show SCode _ _ _ (S281 most_174 least_175 t25_176) _
      cases n_195 with
      | zero => cases h
      | succ n_195 =>
       rw [chargenetref49_extremes_l195] at h
       unfold chargenetref49_extremes_b195 at h
       refine SCode.seq (SCode.region (sq rfl rfl (q_lss rfl rfl rfl) (SOps.nil (SCode.seq ?_))))
       rcases cond_out h with ⟨g196, h⟩ | ⟨g196, h⟩
       ·refine SCode.cond_t rfl g196 (SCode.skip ?_)
        let S280 := fun (most_197 : Int) => fun (least_198 : Int) => (⟨[(0, .c (vSPosition a0_l)), (6, .c (.ptr 0 0)), (7, ci most_197), (8, ci least_198), (23, .c (vSPosition a0_l)), (24, ci (((a0_l).length : Int))), (25, ci t25_176)], [.box (bSPosition (a0_l.getD t13_82.toNat dSPosition))]⟩ : St)
        refine SCode.join (σ := Int × Int) (S := fun s => (S280 s.1 s.2)) (g := fun s => chargenetref49_extremes_p199 t25_176 (fun most_174 least_175 t25_176 => chargenetref49_extremes_l195 a0_l t13_82 n_195 most_174 least_175 t25_176) s.1 s.2 = some r) ?_ ?_
        rotate_left
        ·refine SCode.block (SCode.seq ?_)
         obtain ⟨g200, h⟩ := guard_out h
         refine SCode.region (sm rfl rfl (sq rfl rfl (q_index_vec rfl rfl rfl sl29 rfl g200.1 g200.2) (sq rfl rfl (q_load_eptr_all rfl rfl rfl ty32) (se rfl rfl (e_alloc rfl rfl rfl z32) (sa rfl rfl (se rfl rfl (e_store_box rfl rfl rfl rfl rfl ty32 rfl rfl rfl rfl) (SOps.nil (SCode.seq (SCode.seq (SCode.region (sq rfl rfl (q_field_ptr rfl rfl fd32_0) (sq rfl rfl (q_load_ptr rfl rfl rfl rfl ty9) (sq rfl rfl (q_field_ptr rfl rfl fd32_0) (sq rfl rfl (q_load_ptr rfl rfl rfl rfl ty9) (sq rfl rfl (q_neqS rfl rfl rfl) ?_)))))))))))))))
         refine SOps.nil ?_
         rcases cond_out h with ⟨g201, h⟩ | ⟨g201, h⟩
         ·refine SCode.cond_t rfl g201 (SCode.exit ?_)
          exact ⟨(most_174, least_175), h, sub_gen [0] rfl rfl (zall rfl rfl) ⟨bx rfl rfl rfl, trivial⟩⟩
         refine SCode.cond_f rfl g201 (SCode.skip ?_)
         let S279 := fun (most_202 : Int) => (⟨[(0, .c (vSPosition a0_l)), (6, .c (.ptr 0 0)), (7, ci most_202), (8, ci least_175), (9, ci t25_176), (10, .c (.ptr 1 0)), (23, .c (vSPosition a0_l)), (24, ci (((a0_l).length : Int))), (25, ci t25_176)], [.box (bSPosition (a0_l.getD t13_82.toNat dSPosition)), .box (bSPosition (a0_l.getD t25_176.toNat dSPosition))]⟩ : St)
         refine SCode.join (σ := Int) (S := fun s => (S279 s)) (g := fun s => chargenetref49_extremes_p208 a0_l least_175 t25_176 (fun most_174 least_175 t25_176 => chargenetref49_extremes_l195 a0_l t13_82 n_195 most_174 least_175 t25_176) s = some r) ?_ ?_
         rotate_left
         ·refine SCode.seq (SCode.sub (st' := ⟨[(0, .c (vSPosition a0_l)), (6, .c (.ptr 0 0)), (7, ci most_174), (8, ci least_175), (9, ci t25_176), (10, .c (.ptr 1 0)), (23, .c (vSPosition a0_l)), (24, ci (((a0_l).length : Int))), (25, ci t25_176)], [.box (bSPosition (a0_l.getD t13_82.toNat dSPosition)), .box (bSPosition (a0_l.getD t25_176.toNat dSPosition))]⟩) (sub_gen [0, 1] rfl rfl (zall rfl rfl) ⟨bx rfl rfl rfl, bx rfl rfl rfl, trivial⟩) ?_)
          obtain ⟨g209, h⟩ := guard_out h
          rcases cond_out h with ⟨g210, h⟩ | ⟨g210, h⟩
          ·refine SCode.drawK mixed [[], [0], [], [], [2, 3], [2, 3, 4], [2, 3, 4, 5], [0, 1, 2, 3, 4, 5, 6], [0, 1, 2, 3, 4, 5, 6, 7], [0, 1, 2, 3, 4, 5, 6, 7, 8], [0, 1, 2, 3, 4, 5, 6, 7, 8, 9], [0, 1, 2, 3, 4, 5, 6, 7, 8], [0, 1, 2, 3, 4, 5, 6, 7, 8], [0, 1, 2, 3, 4, 5, 6, 7, 8, 11, 12], [0, 1, 2, 3, 4, 5, 6, 7, 8, 11, 12, 13], [0, 1, 2, 3, 4, 5, 6, 7, 8, 11, 12, 13, 14], [0, 1, 2, 3, 4, 5, 6, 7, 8, 9, 10, 11, 12, 13, 14, 15], [0, 1, 2, 3, 4, 5, 6, 7, 8, 9, 10, 11, 12, 13, 14, 15, 16], [0, 1, 2, 3, 4, 5, 6, 7, 8, 9, 10, 11, 12, 13, 14, 15, 16, 17], [0, 1, 2, 3, 4, 5, 6, 7, 8, 9, 10, 11, 12, 13, 14, 15, 16, 17], [0, 1, 2, 3, 4, 5, 6, 7, 8, 9, 10, 11, 12, 13, 14, 15, 16, 17, 18, 19], [0, 1, 2, 3, 4, 5, 6, 7, 8, 9, 10, 11, 12, 13, 14, 15, 16, 17, 18, 19, 20], [0, 1, 2, 3, 4, 5, 6, 7, 8, 9, 10, 11, 12, 13, 14, 15, 16, 17, 18, 19, 20, 21]] 23 0 rfl rfl (qr rfl rfl (q_field_ptr rfl rfl fd32_2) (qr rfl rfl (q_load_ptr rfl rfl rfl rfl ty3) (qm rfl rfl (qm rfl rfl (qr rfl rfl (q_index_vec rfl rfl rfl sl29 rfl g209.1 g209.2) (qr rfl rfl (q_field_eptr rfl rfl fd32_2 rfl) (qr rfl rfl (q_load_eptr rfl rfl ty3) (qr rfl rfl (q_gtr rfl rfl rfl) (qm rfl rfl (QK.skip rfl ⟨8, 43, false, rfl, rfl, (.inl (gT g210))⟩ rfl (QK.skip rfl ⟨8, 43, false, rfl, rfl, (.inl (gT g210))⟩ rfl (QK.skip rfl ⟨8, 43, false, rfl, rfl, (.inl (gT g210))⟩ rfl (QK.skip rfl ⟨8, 43, false, rfl, rfl, (.inl (gT g210))⟩ rfl (QK.skip rfl ⟨8, 43, false, rfl, rfl, (.inl (gT g210))⟩ rfl (QK.skip rfl ⟨8, 43, false, rfl, rfl, (.inl (gT g210))⟩ rfl ?_)))))))))))))))
           refine QK.skip rfl ⟨8, 43, false, rfl, rfl, (.inl (gT g210))⟩ rfl (QK.skip rfl ⟨8, 43, false, rfl, rfl, (.inl (gT g210))⟩ rfl (QK.skip rfl ⟨8, 43, false, rfl, rfl, (.inl (gT g210))⟩ rfl (QK.skip rfl ⟨17, 52, true, rfl, rfl, (.inr rfl)⟩ rfl (QK.skip rfl ⟨17, 52, true, rfl, rfl, (.inr rfl)⟩ rfl (QK.skip rfl ⟨17, 52, true, rfl, rfl, (.inr rfl)⟩ rfl (QK.skip rfl ⟨8, 43, false, rfl, rfl, (.inl (gT g210))⟩ rfl (qr rfl rfl (q_pick_t rfl rfl g210 rfl) (QK.nil (SOps.sub (st' := ⟨[(0, .c (vSPosition a0_l)), (6, .c (.ptr 0 0)), (7, ci most_174), (8, ci least_175), (9, ci t25_176), (10, .c (.ptr 1 0)), (23, .c (vSPosition a0_l)), (24, ci (((a0_l).length : Int))), (25, ci t25_176), (57, .c (.bool true))], [.box (bSPosition (a0_l.getD t13_82.toNat dSPosition)), .box (bSPosition (a0_l.getD t25_176.toNat dSPosition))]⟩) (sub_gen [0, 1] rfl rfl (zall rfl rfl) ⟨bx rfl rfl rfl, bx rfl rfl rfl, trivial⟩) (SOps.nil (SCode.cond_t rfl rfl (SCode.region (sm rfl rfl (sa rfl rfl (SOps.nil ?_)))))))))))))))
           exact ⟨t25_176, h, sub_gen [0, 1] rfl rfl (zall rfl rfl) ⟨bx rfl rfl rfl, bx rfl rfl rfl, trivial⟩⟩
          obtain ⟨g211, h⟩ := guard_out h
          rcases cond_out h with ⟨g212, h⟩ | ⟨g212, h⟩
          ·refine SCode.drawK mixed [[], [0], [], [], [2, 3], [2, 3, 4], [2, 3, 4, 5], [0, 1, 2, 3, 4, 5, 6], [0, 1, 2, 3, 4, 5, 6, 7], [0, 1, 2, 3, 4, 5, 6, 7, 8], [0, 1, 2, 3, 4, 5, 6, 7, 8, 9], [0, 1, 2, 3, 4, 5, 6, 7, 8], [0, 1, 2, 3, 4, 5, 6, 7, 8], [0, 1, 2, 3, 4, 5, 6, 7, 8, 11, 12], [0, 1, 2, 3, 4, 5, 6, 7, 8, 11, 12, 13], [0, 1, 2, 3, 4, 5, 6, 7, 8, 11, 12, 13, 14], [0, 1, 2, 3, 4, 5, 6, 7, 8, 9, 10, 11, 12, 13, 14, 15], [0, 1, 2, 3, 4, 5, 6, 7, 8, 9, 10, 11, 12, 13, 14, 15, 16], [0, 1, 2, 3, 4, 5, 6, 7, 8, 9, 10, 11, 12, 13, 14, 15, 16, 17], [0, 1, 2, 3, 4, 5, 6, 7, 8, 9, 10, 11, 12, 13, 14, 15, 16, 17], [0, 1, 2, 3, 4, 5, 6, 7, 8, 9, 10, 11, 12, 13, 14, 15, 16, 17, 18, 19], [0, 1, 2, 3, 4, 5, 6, 7, 8, 9, 10, 11, 12, 13, 14, 15, 16, 17, 18, 19, 20], [0, 1, 2, 3, 4, 5, 6, 7, 8, 9, 10, 11, 12, 13, 14, 15, 16, 17, 18, 19, 20, 21]] 23 0 rfl rfl (qr rfl rfl (q_field_ptr rfl rfl fd32_2) (qr rfl rfl (q_load_ptr rfl rfl rfl rfl ty3) (qm rfl rfl (qm rfl rfl (qr rfl rfl (q_index_vec rfl rfl rfl sl29 rfl g209.1 g209.2) (qr rfl rfl (q_field_eptr rfl rfl fd32_2 rfl) (qr rfl rfl (q_load_eptr rfl rfl ty3) (qr rfl rfl (q_gtr rfl rfl rfl) (qm rfl rfl (QK.run rfl (.guard 8 43 false rfl rfl (gF g210)) rfl (q_field_ptr rfl rfl fd32_2) (QK.run rfl (.guard 8 43 false rfl rfl (gF g210)) rfl (q_load_ptr rfl rfl rfl rfl ty3) (QK.run rfl (.guard 8 43 false rfl rfl (gF g210)) rfl (q_move rfl rfl) (QK.run rfl (.guard 8 43 false rfl rfl (gF g210)) rfl (q_move rfl rfl) (QK.run rfl (.guard 8 43 false rfl rfl (gF g210)) rfl (q_index_vec rfl rfl rfl sl29 rfl g211.1 g211.2) (QK.run rfl (.guard 8 43 false rfl rfl (gF g210)) rfl (q_field_eptr rfl rfl fd32_2 rfl) ?_)))))))))))))))
           refine QK.run rfl (.guard 8 43 false rfl rfl (gF g210)) rfl (q_load_eptr rfl rfl ty3) (QK.run rfl (.guard 8 43 false rfl rfl (gF g210)) rfl (q_eql rfl rfl rfl) (QK.run rfl (.guard 8 43 false rfl rfl (gF g210)) rfl (q_move rfl rfl) (QK.run rfl (.guard 17 52 true rfl rfl (gT g212)) rfl (q_move rfl rfl) (QK.run rfl (.guard 17 52 true rfl rfl (gT g212)) rfl (q_move rfl rfl) (QK.run rfl (.guard 17 52 true rfl rfl (gT g212)) rfl (q_lss rfl rfl rfl) (QK.run rfl (.guard 8 43 false rfl rfl (gF g210)) rfl (q_pick_t rfl rfl g212 rfl) (qr rfl rfl (q_pick_f rfl rfl g210 rfl) (QK.nil (SOps.sub (st' := ⟨[(0, .c (vSPosition a0_l)), (6, .c (.ptr 0 0)), (7, ci most_174), (8, ci least_175), (9, ci t25_176), (10, .c (.ptr 1 0)), (23, .c (vSPosition a0_l)), (24, ci (((a0_l).length : Int))), (25, ci t25_176), (57, .c (.bool (decide (t25_176 < most_174))))], [.box (bSPosition (a0_l.getD t13_82.toNat dSPosition)), .box (bSPosition (a0_l.getD t25_176.toNat dSPosition))]⟩) (sub_gen [0, 1] rfl rfl (zall rfl rfl) ⟨bx rfl rfl rfl, bx rfl rfl rfl, trivial⟩) (SOps.nil ?_))))))))))
           rcases cond_out h with ⟨g213, h⟩ | ⟨g213, h⟩
           ·refine SCode.cond_t rfl g213 (SCode.region (sm rfl rfl (sa rfl rfl (SOps.nil ?_))))
            exact ⟨t25_176, h, sub_gen [0, 1] rfl rfl (zall rfl rfl) ⟨bx rfl rfl rfl, bx rfl rfl rfl, trivial⟩⟩
           refine SCode.cond_f rfl g213 (SCode.skip ?_)
           exact ⟨most_174, h, sub_gen [0, 1] rfl rfl (zall rfl rfl) ⟨bx rfl rfl rfl, bx rfl rfl rfl, trivial⟩⟩
          refine SCode.drawK mixed [[], [0], [], [], [2, 3], [2, 3, 4], [2, 3, 4, 5], [0, 1, 2, 3, 4, 5, 6], [0, 1, 2, 3, 4, 5, 6, 7], [0, 1, 2, 3, 4, 5, 6, 7, 8], [0, 1, 2, 3, 4, 5, 6, 7, 8, 9], [0, 1, 2, 3, 4, 5, 6, 7, 8], [0, 1, 2, 3, 4, 5, 6, 7, 8], [0, 1, 2, 3, 4, 5, 6, 7, 8, 11, 12], [0, 1, 2, 3, 4, 5, 6, 7, 8, 11, 12, 13], [0, 1, 2, 3, 4, 5, 6, 7, 8, 11, 12, 13, 14], [0, 1, 2, 3, 4, 5, 6, 7, 8, 9, 10, 11, 12, 13, 14, 15], [0, 1, 2, 3, 4, 5, 6, 7, 8, 9, 10, 11, 12, 13, 14, 15, 16], [0, 1, 2, 3, 4, 5, 6, 7, 8, 9, 10, 11, 12, 13, 14, 15, 16, 17], [0, 1, 2, 3, 4, 5, 6, 7, 8, 9, 10, 11, 12, 13, 14, 15, 16, 17], [0, 1, 2, 3, 4, 5, 6, 7, 8, 9, 10, 11, 12, 13, 14, 15, 16, 17, 18, 19], [0, 1, 2, 3, 4, 5, 6, 7, 8, 9, 10, 11, 12, 13, 14, 15, 16, 17, 18, 19, 20], [0, 1, 2, 3, 4, 5, 6, 7, 8, 9, 10, 11, 12, 13, 14, 15, 16, 17, 18, 19, 20, 21]] 23 0 rfl rfl (qr rfl rfl (q_field_ptr rfl rfl fd32_2) (qr rfl rfl (q_load_ptr rfl rfl rfl rfl ty3) (qm rfl rfl (qm rfl rfl (qr rfl rfl (q_index_vec rfl rfl rfl sl29 rfl g209.1 g209.2) (qr rfl rfl (q_field_eptr rfl rfl fd32_2 rfl) (qr rfl rfl (q_load_eptr rfl rfl ty3) (qr rfl rfl (q_gtr rfl rfl rfl) (qm rfl rfl (QK.run rfl (.guard 8 43 false rfl rfl (gF g210)) rfl (q_field_ptr rfl rfl fd32_2) (QK.run rfl (.guard 8 43 false rfl rfl (gF g210)) rfl (q_load_ptr rfl rfl rfl rfl ty3) (QK.run rfl (.guard 8 43 false rfl rfl (gF g210)) rfl (q_move rfl rfl) (QK.run rfl (.guard 8 43 false rfl rfl (gF g210)) rfl (q_move rfl rfl) (QK.run rfl (.guard 8 43 false rfl rfl (gF g210)) rfl (q_index_vec rfl rfl rfl sl29 rfl g211.1 g211.2) (QK.run rfl (.guard 8 43 false rfl rfl (gF g210)) rfl (q_field_eptr rfl rfl fd32_2 rfl) ?_)))))))))))))))
          refine QK.run rfl (.guard 8 43 false rfl rfl (gF g210)) rfl (q_load_eptr rfl rfl ty3) (QK.run rfl (.guard 8 43 false rfl rfl (gF g210)) rfl (q_eql rfl rfl rfl) (QK.run rfl (.guard 8 43 false rfl rfl (gF g210)) rfl (q_move rfl rfl) (QK.skip rfl ⟨17, 52, true, rfl, rfl, (.inl (gF g212))⟩ rfl (QK.skip rfl ⟨17, 52, true, rfl, rfl, (.inl (gF g212))⟩ rfl (QK.skip rfl ⟨17, 52, true, rfl, rfl, (.inl (gF g212))⟩ rfl (QK.run rfl (.guard 8 43 false rfl rfl (gF g210)) rfl (q_pick_f rfl rfl g212 rfl) (qr rfl rfl (q_pick_f rfl rfl g210 rfl) (QK.nil (SOps.sub (st' := ⟨[(0, .c (vSPosition a0_l)), (6, .c (.ptr 0 0)), (7, ci most_174), (8, ci least_175), (9, ci t25_176), (10, .c (.ptr 1 0)), (23, .c (vSPosition a0_l)), (24, ci (((a0_l).length : Int))), (25, ci t25_176), (57, .c (.bool false))], [.box (bSPosition (a0_l.getD t13_82.toNat dSPosition)), .box (bSPosition (a0_l.getD t25_176.toNat dSPosition))]⟩) (sub_gen [0, 1] rfl rfl (zall rfl rfl) ⟨bx rfl rfl rfl, bx rfl rfl rfl, trivial⟩) (SOps.nil (SCode.cond_f rfl rfl (SCode.skip ?_))))))))))))
          exact ⟨most_174, h, sub_gen [0, 1] rfl rfl (zall rfl rfl) ⟨bx rfl rfl rfl, bx rfl rfl rfl, trivial⟩⟩
         rintro most_202 h
         show SCode _ _ _ (S279 most_202) _
         try dsimp only at h
         unfold chargenetref49_extremes_p208 at h
         refine SCode.seq ?_
         obtain ⟨g203, h⟩ := guard_out h
         rcases cond_out h with ⟨g204, h⟩ | ⟨g204, h⟩
         ·refine SCode.drawK mixed [[], [0], [], [], [2, 3], [2, 3, 4], [2, 3, 4, 5], [0, 1, 2, 3, 4, 5, 6], [0, 1, 2, 3, 4, 5, 6, 7], [0, 1, 2, 3, 4, 5, 6, 7, 8], [0, 1, 2, 3, 4, 5, 6, 7, 8, 9], [0, 1, 2, 3, 4, 5, 6, 7, 8], [0, 1, 2, 3, 4, 5, 6, 7, 8], [0, 1, 2, 3, 4, 5, 6, 7, 8, 11, 12], [0, 1, 2, 3, 4, 5, 6, 7, 8, 11, 12, 13], [0, 1, 2, 3, 4, 5, 6, 7, 8, 11, 12, 13, 14], [0, 1, 2, 3, 4, 5, 6, 7, 8, 9, 10, 11, 12, 13, 14, 15], [0, 1, 2, 3, 4, 5, 6, 7, 8, 9, 10, 11, 12, 13, 14, 15, 16], [0, 1, 2, 3, 4, 5, 6, 7, 8, 9, 10, 11, 12, 13, 14, 15, 16, 17], [0, 1, 2, 3, 4, 5, 6, 7, 8, 9, 10, 11, 12, 13, 14, 15, 16, 17], [0, 1, 2, 3, 4, 5, 6, 7, 8, 9, 10, 11, 12, 13, 14, 15, 16, 17, 18, 19], [0, 1, 2, 3, 4, 5, 6, 7, 8, 9, 10, 11, 12, 13, 14, 15, 16, 17, 18, 19, 20], [0, 1, 2, 3, 4, 5, 6, 7, 8, 9, 10, 11, 12, 13, 14, 15, 16, 17, 18, 19, 20, 21]] 23 0 rfl rfl (qr rfl rfl (q_field_ptr rfl rfl fd32_2) (qr rfl rfl (q_load_ptr rfl rfl rfl rfl ty3) (qm rfl rfl (qm rfl rfl (qr rfl rfl (q_index_vec rfl rfl rfl sl29 rfl g203.1 g203.2) (qr rfl rfl (q_field_eptr rfl rfl fd32_2 rfl) (qr rfl rfl (q_load_eptr rfl rfl ty3) (qr rfl rfl (q_lss rfl rfl rfl) (qm rfl rfl (QK.skip rfl ⟨8, 67, false, rfl, rfl, (.inl (gT g204))⟩ rfl (QK.skip rfl ⟨8, 67, false, rfl, rfl, (.inl (gT g204))⟩ rfl (QK.skip rfl ⟨8, 67, false, rfl, rfl, (.inl (gT g204))⟩ rfl (QK.skip rfl ⟨8, 67, false, rfl, rfl, (.inl (gT g204))⟩ rfl (QK.skip rfl ⟨8, 67, false, rfl, rfl, (.inl (gT g204))⟩ rfl (QK.skip rfl ⟨8, 67, false, rfl, rfl, (.inl (gT g204))⟩ rfl ?_)))))))))))))))
          refine QK.skip rfl ⟨8, 67, false, rfl, rfl, (.inl (gT g204))⟩ rfl (QK.skip rfl ⟨8, 67, false, rfl, rfl, (.inl (gT g204))⟩ rfl (QK.skip rfl ⟨8, 67, false, rfl, rfl, (.inl (gT g204))⟩ rfl (QK.skip rfl ⟨17, 76, true, rfl, rfl, (.inr rfl)⟩ rfl (QK.skip rfl ⟨17, 76, true, rfl, rfl, (.inr rfl)⟩ rfl (QK.skip rfl ⟨17, 76, true, rfl, rfl, (.inr rfl)⟩ rfl (QK.skip rfl ⟨8, 67, false, rfl, rfl, (.inl (gT g204))⟩ rfl (qr rfl rfl (q_pick_t rfl rfl g204 rfl) (QK.nil (SOps.sub (st' := ⟨[(0, .c (vSPosition a0_l)), (6, .c (.ptr 0 0)), (7, ci most_202), (8, ci least_175), (9, ci t25_176), (23, .c (vSPosition a0_l)), (24, ci (((a0_l).length : Int))), (25, ci t25_176), (81, .c (.bool true))], [.box (bSPosition (a0_l.getD t13_82.toNat dSPosition))]⟩) (sub_gen [0] rfl rfl (zall rfl rfl) ⟨bx rfl rfl rfl, trivial⟩) (SOps.nil (SCode.cond_t rfl rfl (SCode.region (sm rfl rfl (sa rfl rfl (SOps.nil ?_)))))))))))))))
          exact ⟨(most_202, t25_176), h, sub_gen [0] rfl rfl (zall rfl rfl) ⟨bx rfl rfl rfl, trivial⟩⟩
         obtain ⟨g205, h⟩ := guard_out h
         rcases cond_out h with ⟨g206, h⟩ | ⟨g206, h⟩
         ·refine SCode.drawK mixed [[], [0], [], [], [2, 3], [2, 3, 4], [2, 3, 4, 5], [0, 1, 2, 3, 4, 5, 6], [0, 1, 2, 3, 4, 5, 6, 7], [0, 1, 2, 3, 4, 5, 6, 7, 8], [0, 1, 2, 3, 4, 5, 6, 7, 8, 9], [0, 1, 2, 3, 4, 5, 6, 7, 8], [0, 1, 2, 3, 4, 5, 6, 7, 8], [0, 1, 2, 3, 4, 5, 6, 7, 8, 11, 12], [0, 1, 2, 3, 4, 5, 6, 7, 8, 11, 12, 13], [0, 1, 2, 3, 4, 5, 6, 7, 8, 11, 12, 13, 14], [0, 1, 2, 3, 4, 5, 6, 7, 8, 9, 10, 11, 12, 13, 14, 15], [0, 1, 2, 3, 4, 5, 6, 7, 8, 9, 10, 11, 12, 13, 14, 15, 16], [0, 1, 2, 3, 4, 5, 6, 7, 8, 9, 10, 11, 12, 13, 14, 15, 16, 17], [0, 1, 2, 3, 4, 5, 6, 7, 8, 9, 10, 11, 12, 13, 14, 15, 16, 17], [0, 1, 2, 3, 4, 5, 6, 7, 8, 9, 10, 11, 12, 13, 14, 15, 16, 17, 18, 19], [0, 1, 2, 3, 4, 5, 6, 7, 8, 9, 10, 11, 12, 13, 14, 15, 16, 17, 18, 19, 20], [0, 1, 2, 3, 4, 5, 6, 7, 8, 9, 10, 11, 12, 13, 14, 15, 16, 17, 18, 19, 20, 21]] 23 0 rfl rfl (qr rfl rfl (q_field_ptr rfl rfl fd32_2) (qr rfl rfl (q_load_ptr rfl rfl rfl rfl ty3) (qm rfl rfl (qm rfl rfl (qr rfl rfl (q_index_vec rfl rfl rfl sl29 rfl g203.1 g203.2) (qr rfl rfl (q_field_eptr rfl rfl fd32_2 rfl) (qr rfl rfl (q_load_eptr rfl rfl ty3) (qr rfl rfl (q_lss rfl rfl rfl) (qm rfl rfl (QK.run rfl (.guard 8 67 false rfl rfl (gF g204)) rfl (q_field_ptr rfl rfl fd32_2) (QK.run rfl (.guard 8 67 false rfl rfl (gF g204)) rfl (q_load_ptr rfl rfl rfl rfl ty3) (QK.run rfl (.guard 8 67 false rfl rfl (gF g204)) rfl (q_move rfl rfl) (QK.run rfl (.guard 8 67 false rfl rfl (gF g204)) rfl (q_move rfl rfl) (QK.run rfl (.guard 8 67 false rfl rfl (gF g204)) rfl (q_index_vec rfl rfl rfl sl29 rfl g205.1 g205.2) (QK.run rfl (.guard 8 67 false rfl rfl (gF g204)) rfl (q_field_eptr rfl rfl fd32_2 rfl) ?_)))))))))))))))
          refine QK.run rfl (.guard 8 67 false rfl rfl (gF g204)) rfl (q_load_eptr rfl rfl ty3) (QK.run rfl (.guard 8 67 false rfl rfl (gF g204)) rfl (q_eql rfl rfl rfl) (QK.run rfl (.guard 8 67 false rfl rfl (gF g204)) rfl (q_move rfl rfl) (QK.run rfl (.guard 17 76 true rfl rfl (gT g206)) rfl (q_move rfl rfl) (QK.run rfl (.guard 17 76 true rfl rfl (gT g206)) rfl (q_move rfl rfl) (QK.run rfl (.guard 17 76 true rfl rfl (gT g206)) rfl (q_lss rfl rfl rfl) (QK.run rfl (.guard 8 67 false rfl rfl (gF g204)) rfl (q_pick_t rfl rfl g206 rfl) (qr rfl rfl (q_pick_f rfl rfl g204 rfl) (QK.nil (SOps.sub (st' := ⟨[(0, .c (vSPosition a0_l)), (6, .c (.ptr 0 0)), (7, ci most_202), (8, ci least_175), (9, ci t25_176), (23, .c (vSPosition a0_l)), (24, ci (((a0_l).length : Int))), (25, ci t25_176), (81, .c (.bool (decide (t25_176 < least_175))))], [.box (bSPosition (a0_l.getD t13_82.toNat dSPosition))]⟩) (sub_gen [0] rfl rfl (zall rfl rfl) ⟨bx rfl rfl rfl, trivial⟩) (SOps.nil ?_))))))))))
          rcases cond_out h with ⟨g207, h⟩ | ⟨g207, h⟩
          ·refine SCode.cond_t rfl g207 (SCode.region (sm rfl rfl (sa rfl rfl (SOps.nil ?_))))
           exact ⟨(most_202, t25_176), h, sub_gen [0] rfl rfl (zall rfl rfl) ⟨bx rfl rfl rfl, trivial⟩⟩
          refine SCode.cond_f rfl g207 (SCode.skip ?_)
          exact ⟨(most_202, least_175), h, sub_gen [0] rfl rfl (zall rfl rfl) ⟨bx rfl rfl rfl, trivial⟩⟩
         refine SCode.drawK mixed [[], [0], [], [], [2, 3], [2, 3, 4], [2, 3, 4, 5], [0, 1, 2, 3, 4, 5, 6], [0, 1, 2, 3, 4, 5, 6, 7], [0, 1, 2, 3, 4, 5, 6, 7, 8], [0, 1, 2, 3, 4, 5, 6, 7, 8, 9], [0, 1, 2, 3, 4, 5, 6, 7, 8], [0, 1, 2, 3, 4, 5, 6, 7, 8], [0, 1, 2, 3, 4, 5, 6, 7, 8, 11, 12], [0, 1, 2, 3, 4, 5, 6, 7, 8, 11, 12, 13], [0, 1, 2, 3, 4, 5, 6, 7, 8, 11, 12, 13, 14], [0, 1, 2, 3, 4, 5, 6, 7, 8, 9, 10, 11, 12, 13, 14, 15], [0, 1, 2, 3, 4, 5, 6, 7, 8, 9, 10, 11, 12, 13, 14, 15, 16], [0, 1, 2, 3, 4, 5, 6, 7, 8, 9, 10, 11, 12, 13, 14, 15, 16, 17], [0, 1, 2, 3, 4, 5, 6, 7, 8, 9, 10, 11, 12, 13, 14, 15, 16, 17], [0, 1, 2, 3, 4, 5, 6, 7, 8, 9, 10, 11, 12, 13, 14, 15, 16, 17, 18, 19], [0, 1, 2, 3, 4, 5, 6, 7, 8, 9, 10, 11, 12, 13, 14, 15, 16, 17, 18, 19, 20], [0, 1, 2, 3, 4, 5, 6, 7, 8, 9, 10, 11, 12, 13, 14, 15, 16, 17, 18, 19, 20, 21]] 23 0 rfl rfl (qr rfl rfl (q_field_ptr rfl rfl fd32_2) (qr rfl rfl (q_load_ptr rfl rfl rfl rfl ty3) (qm rfl rfl (qm rfl rfl (qr rfl rfl (q_index_vec rfl rfl rfl sl29 rfl g203.1 g203.2) (qr rfl rfl (q_field_eptr rfl rfl fd32_2 rfl) (qr rfl rfl (q_load_eptr rfl rfl ty3) (qr rfl rfl (q_lss rfl rfl rfl) (qm rfl rfl (QK.run rfl (.guard 8 67 false rfl rfl (gF g204)) rfl (q_field_ptr rfl rfl fd32_2) (QK.run rfl (.guard 8 67 false rfl rfl (gF g204)) rfl (q_load_ptr rfl rfl rfl rfl ty3) (QK.run rfl (.guard 8 67 false rfl rfl (gF g204)) rfl (q_move rfl rfl) (QK.run rfl (.guard 8 67 false rfl rfl (gF g204)) rfl (q_move rfl rfl) (QK.run rfl (.guard 8 67 false rfl rfl (gF g204)) rfl (q_index_vec rfl rfl rfl sl29 rfl g205.1 g205.2) (QK.run rfl (.guard 8 67 false rfl rfl (gF g204)) rfl (q_field_eptr rfl rfl fd32_2 rfl) ?_)))))))))))))))
         refine QK.run rfl (.guard 8 67 false rfl rfl (gF g204)) rfl (q_load_eptr rfl rfl ty3) (QK.run rfl (.guard 8 67 false rfl rfl (gF g204)) rfl (q_eql rfl rfl rfl) (QK.run rfl (.guard 8 67 false rfl rfl (gF g204)) rfl (q_move rfl rfl) (QK.skip rfl ⟨17, 76, true, rfl, rfl, (.inl (gF g206))⟩ rfl (QK.skip rfl ⟨17, 76, true, rfl, rfl, (.inl (gF g206))⟩ rfl (QK.skip rfl ⟨17, 76, true, rfl, rfl, (.inl (gF g206))⟩ rfl (QK.run rfl (.guard 8 67 false rfl rfl (gF g204)) rfl (q_pick_f rfl rfl g206 rfl) (qr rfl rfl (q_pick_f rfl rfl g204 rfl) (QK.nil (SOps.sub (st' := ⟨[(0, .c (vSPosition a0_l)), (6, .c (.ptr 0 0)), (7, ci most_202), (8, ci least_175), (9, ci t25_176), (23, .c (vSPosition a0_l)), (24, ci (((a0_l).length : Int))), (25, ci t25_176), (81, .c (.bool false))], [.box (bSPosition (a0_l.getD t13_82.toNat dSPosition))]⟩) (sub_gen [0] rfl rfl (zall rfl rfl) ⟨bx rfl rfl rfl, trivial⟩) (SOps.nil (SCode.cond_f rfl rfl (SCode.skip ?_))))))))))))
         exact ⟨(most_202, least_175), h, sub_gen [0] rfl rfl (zall rfl rfl) ⟨bx rfl rfl rfl, trivial⟩⟩
        rintro ⟨most_197, least_198⟩ h
        show SCode _ _ _ (S280 most_197 least_198) _
        try dsimp only at h
        unfold chargenetref49_extremes_p199 at h
        refine SCode.region (sq rfl rfl (q_add rfl rfl rfl) (sm rfl rfl (SOps.nil ?_)))
        exact ⟨(n_195, (most_197, least_198, IntKind.wrap .i64 (t25_176 + 1))), h, Nat.lt_succ_self n_195, sub_gen [0] rfl rfl (zall rfl rfl) ⟨bx rfl rfl rfl, trivial⟩⟩
       refine SCode.cond_f rfl g196 (SCode.exit ?_)
       exact ⟨(most_174, least_175), h, sub_gen [] rfl rfl (zall rfl rfl) trivial⟩
     rintro ⟨most_153, least_154⟩ h
     show SCode _ _ _ (S282 most_153 least_154) _
     try dsimp only at h
     unfold chargenetref49_extremes_p155 at h
     refine SCode.seq (SCode.region (sm rfl rfl (sm rfl rfl (sa rfl rfl (sa rfl rfl (sa rfl rfl (SOps.nil (SCode.ret ?_))))))))
     obtain rfl := Option.some.inj h
     exact ⟨⟨[(2, ci most_153), (3, ci least_154), (4, .c (.bool true))], []⟩, _, sub_gen [] rfl rfl (zall rfl rfl) trivial, resA3 (v1 := .c (.int .i64 most_153)) (v2 := .c (.int .i64 least_154)) (v3 := .c (.bool true)) rfl rfl rfl rfl, rfl⟩
    rintro ⟨⟩ h
    show SCode _ _ _ S283 _
    try dsimp only at h
    unfold chargenetref49_extremes_p150 at h
    refine SCode.region (sq rfl rfl (q_add rfl rfl rfl) (sm rfl rfl (SOps.nil ?_)))
    exact ⟨(n_148, IntKind.wrap .i64 (t13_82 + 1)), h, Nat.lt_succ_self n_148, sub_gen [] rfl rfl (zall rfl rfl) trivial⟩
   refine SCode.cond_f rfl g149 (SCode.exit ?_)
   exact ⟨(), h, sub_gen [] rfl rfl trivial trivial⟩
 rintro ⟨⟩ h
 show SCode _ _ _ S285 _
 try dsimp only at h
 unfold chargenetref49_extremes_p1 at h
 refine SCode.seq (SCode.region (sa rfl rfl (sa rfl rfl (sa rfl rfl (SOps.nil (SCode.ret ?_))))))
 obtain rfl := Option.some.inj h
 exact ⟨⟨[(2, ci 0), (3, ci 0), (4, .c (.bool false))], []⟩, _, sub_gen [] rfl rfl (zall rfl rfl) trivial, resA3 (v1 := .c (.int .i64 0)) (v2 := .c (.int .i64 0)) (v3 := .c (.bool false)) rfl rfl rfl rfl, rfl⟩
theorem chargenetref49_add_ok (F : Nat) (a0_l : List SPosition) (a1_cur : ByteArray) (a2_party : ByteArray) (a3_n : Int) (r : List SPosition) (h : chargenetref49_add F a0_l a1_cur a2_party a3_n = some r) :
  SFun Try.prog 27 [aSPosition 32 a0_l] [.c (.own 0 a0_l.length), .c (.str a1_cur), .c (.str a2_party), ci a3_n] (fun x os => x = .c (.own 1 r.length) ∧ os = [.dead, aSPosition 32 r]) := by
 refine SFun.of (n := 46) Try.func27 rfl rfl rfl ?_
 unfold chargenetref49_add at h
 show SCode _ _ _ ⟨[(0, .c (.own 0 a0_l.length)), (1, .c (.str a1_cur)), (2, .c (.str a2_party)), (3, ci a3_n)], [aSPosition 32 a0_l]⟩ _
 refine SCode.seq (SCode.region (sa rfl rfl (SOps.nil ?_)))
 let S9 := (⟨[(0, .c (.own 0 a0_l.length)), (1, .c (.str a1_cur)), (2, .c (.str a2_party)), (3, ci a3_n)], [aSPosition 32 a0_l]⟩ : St)
 refine SCode.join (σ := Unit) (S := fun s => S9) (g := fun s => chargenetref49_add_p2 a0_l a1_cur a2_party a3_n = some r) ?_ ?_
 rotate_left
 ·refine SCode.seq (SCode.region (sm rfl rfl (sq rfl rfl (q_len_own rfl rfl sl29) (sm rfl rfl (SOps.nil (SCode.block ?_))))))
  let S8 := fun (t13_10 : Int) => (⟨[(0, .c (.own 0 a0_l.length)), (1, .c (.str a1_cur)), (2, .c (.str a2_party)), (3, ci a3_n), (11, .c (.own 0 a0_l.length)), (12, ci (((a0_l).length : Int))), (13, ci t13_10)], [aSPosition 32 a0_l]⟩ : St)
  refine SCode.sub (st' := (S8 0)) (sub_gen [0] rfl rfl (zall rfl rfl) ⟨oa rfl, trivial⟩) ?_
  refine (SCode.loop (σ := Nat × Int) (S := fun s => (S8 s.2)) (g := fun s => chargenetref49_add_l18 a0_l a1_cur a2_party a3_n s.1 s.2 = some r) (μ := fun s => s.1) (F, 0) h ?_)
  rintro ⟨n_18, t13_10⟩ h
  try dsimp only at h
  show SCode _ _ _ (S8 t13_10) _
  cases n_18 with
  | zero => cases h
  | succ n_18 =>
   rw [chargenetref49_add_l18] at h
   unfold chargenetref49_add_b18 at h
   refine SCode.seq (SCode.region (sq rfl rfl (q_lss rfl rfl rfl) (SOps.nil (SCode.seq ?_))))
   rcases cond_out h with ⟨g19, h⟩ | ⟨g19, h⟩
   ·refine SCode.cond_t rfl g19 (SCode.skip ?_)
    let S7 := (⟨[(0, .c (.own 0 a0_l.length)), (1, .c (.str a1_cur)), (2, .c (.str a2_party)), (3, ci a3_n), (11, .c (.own 0 a0_l.length)), (12, ci (((a0_l).length : Int))), (13, ci t13_10)], [aSPosition 32 a0_l]⟩ : St)
    refine SCode.join (σ := Unit) (S := fun s => S7) (g := fun s => chargenetref49_add_p20 t13_10 (fun t13_10 => chargenetref49_add_l18 a0_l a1_cur a2_party a3_n n_18 t13_10) = some r) ?_ ?_
    rotate_left
    ·refine SCode.block (SCode.seq ?_)
     obtain ⟨g21, h⟩ := guard_out h
     refine SCode.region (sm rfl rfl (sq rfl rfl (q_index_own rfl rfl rfl sl29 g21.1 g21.2) (sq rfl rfl (q_load_aptr_all rfl rfl rfl (toNat_lt g21) rfl ty32) (se rfl rfl (e_alloc rfl rfl rfl z32) (sa rfl rfl (se rfl rfl (e_store_box rfl rfl rfl rfl rfl ty32 rfl rfl rfl rfl) (SOps.nil (SCode.seq ?_))))))))
     rcases cond_out h with ⟨g22, h⟩ | ⟨g22, h⟩
     ·refine SCode.region (sq rfl rfl (q_field_ptr rfl rfl fd32_0) (sq rfl rfl (q_load_ptr rfl rfl rfl rfl ty9) (sm rfl rfl (sq rfl rfl (q_eqlS rfl rfl rfl) (sm rfl rfl (SOps.q rfl (.guard 4 22 true rfl rfl (gT g22)) rfl (q_field_ptr rfl rfl fd32_1) (SOps.q rfl (.guard 4 22 true rfl rfl (gT g22)) rfl (q_load_ptr rfl rfl rfl rfl ty9) (SOps.q rfl (.guard 4 22 true rfl rfl (gT g22)) rfl (q_move rfl rfl) (SOps.q rfl (.guard 4 22 true rfl rfl (gT g22)) rfl (q_eqlS rfl rfl rfl) (sq rfl rfl (q_pick_t rfl rfl g22 rfl) (SOps.nil ?_)))))))))))
      rcases cond_out h with ⟨g23, h⟩ | ⟨g23, h⟩
      ·refine SCode.cond_t rfl g23 (SCode.seq ?_)
       obtain ⟨g24, h⟩ := guard_out h
       obtain ⟨g25, h⟩ := guard_out h
       refine SCode.region (sm rfl rfl (sm rfl rfl (sq rfl rfl (q_index_own rfl rfl rfl sl29 g24.1 g24.2) (sq rfl rfl (q_field_aptr rfl rfl fd32_2) (sq rfl rfl (q_load_aptr rfl rfl rfl (toNat_lt g24) rfl ty3) (sm rfl rfl (sq rfl rfl (q_add rfl rfl rfl) (sq rfl rfl (q_index_own rfl rfl rfl sl29 g25.1 g25.2) (sq rfl rfl (q_field_aptr rfl rfl fd32_2) (se rfl rfl (e_storeL (SPosition.mk ((a0_l.getD t13_10.toNat dSPosition).Currency) ((a0_l.getD t13_10.toNat dSPosition).Party) (IntKind.wrap .i64 ((a0_l.getD t13_10.toNat dSPosition).Amount + a3_n))) rfl rfl rfl rfl rfl (toNat_lt g25) ty3 rfl rfl rfl rfl rfl rfl) ?_))))))))))
       let y1 := a0_l.set t13_10.toNat (SPosition.mk ((a0_l.getD t13_10.toNat dSPosition).Currency) ((a0_l.getD t13_10.toNat dSPosition).Party) (IntKind.wrap .i64 ((a0_l.getD t13_10.toNat dSPosition).Amount + a3_n)))
       refine SOps.sub (st' := ⟨[(0, .c (.own 0 y1.length))], [aSPosition 32 y1]⟩) (sub_gen [0] rfl rfl ⟨⟨_, rfl, .inl ⟨rfl, congrArg (Cell.own 0) (List.length_set : y1.length = a0_l.length).symm⟩⟩, trivial⟩ ⟨oa rfl, trivial⟩) (SOps.nil (SCode.seq (SCode.region (sm rfl rfl (sa rfl rfl (SOps.nil (SCode.ret ?_)))))))
       obtain rfl := Option.some.inj h
       let y2 := a0_l.set t13_10.toNat (SPosition.mk ((a0_l.getD t13_10.toNat dSPosition).Currency) ((a0_l.getD t13_10.toNat dSPosition).Party) (IntKind.wrap .i64 ((a0_l.getD t13_10.toNat dSPosition).Amount + a3_n)))
       exact ⟨⟨[(8, .c (.own 1 y2.length))], [.dead, aSPosition 32 y2]⟩, _, Sub.trans (show Sub _ _ ⟨[(8, .c (.own 0 y2.length))], [aSPosition 32 y2]⟩ from sub_gen [0] rfl rfl (zall rfl rfl) ⟨oa rfl, trivial⟩) (Sub.move (F := 0) (r := 8) rfl rfl), resA1 (v := .c (.own 1 y2.length)) rfl rfl, ⟨rfl, rfl⟩⟩
      refine SCode.cond_f rfl g23 (SCode.skip ?_)
      exact ⟨(), h, sub_gen [0] rfl rfl (zall rfl rfl) ⟨oa rfl, trivial⟩⟩
     refine SCode.region (sq rfl rfl (q_field_ptr rfl rfl fd32_0) (sq rfl rfl (q_load_ptr rfl rfl rfl rfl ty9) (sm rfl rfl (sq rfl rfl (q_eqlS rfl rfl rfl) (sm rfl rfl (SOps.skip rfl 4 22 true rfl rfl (.inl (gF g22)) rfl (SOps.skip rfl 4 22 true rfl rfl (.inl (gF g22)) rfl (SOps.skip rfl 4 22 true rfl rfl (.inl (gF g22)) rfl (SOps.skip rfl 4 22 true rfl rfl (.inl (gF g22)) rfl (sq rfl rfl (q_pick_f rfl rfl g22 rfl) (SOps.nil (SCode.cond_f rfl rfl (SCode.skip ?_)))))))))))))
     exact ⟨(), h, sub_gen [0] rfl rfl (zall rfl rfl) ⟨oa rfl, trivial⟩⟩
    rintro ⟨⟩ h
    show SCode _ _ _ S7 _
    try dsimp only at h
    unfold chargenetref49_add_p20 at h
    refine SCode.region (sq rfl rfl (q_add rfl rfl rfl) (sm rfl rfl (SOps.nil ?_)))
    exact ⟨(n_18, IntKind.wrap .i64 (t13_10 + 1)), h, Nat.lt_succ_self n_18, sub_gen [0] rfl rfl (zall rfl rfl) ⟨oa rfl, trivial⟩⟩
   refine SCode.cond_f rfl g19 (SCode.exit ?_)
   exact ⟨(), h, sub_gen [0] rfl rfl (zall rfl rfl) ⟨oa rfl, trivial⟩⟩
 rintro ⟨⟩ h
 show SCode _ _ _ S9 _
 try dsimp only at h
 unfold chargenetref49_add_p2 at h
 refine SCode.seq ?_
 obtain ⟨g1, h⟩ := guard_out h
 refine SCode.region (sm rfl rfl (sm rfl rfl (sm rfl rfl (sm rfl rfl (sq rfl rfl (q_build2 rfl rfl pl32 rfl) (sq rfl rfl (q_bsliceL (c := cSPosition) (d0 := dSPosition) [SPosition.mk a1_cur a2_party a3_n] rfl rfl sl29 z32 rfl rfl rfl rfl rfl rfl rfl) (se rfl rfl (e_appendL (c := cSPosition) (d0 := dSPosition) (l := a0_l) (l2 := [SPosition.mk a1_cur a2_party a3_n]) rfl rfl rfl rfl rfl rfl (.inl rfl) sl29 z32 rfl rfl oneSPosition g1.1 g1.2) (sa rfl rfl (SOps.sub (st' := ⟨[(8, .c (.own 1 (a0_l ++ ([SPosition.mk a1_cur a2_party a3_n])).length))], [.dead, aSPosition 32 (a0_l ++ ([SPosition.mk a1_cur a2_party a3_n]))]⟩) (sub_gen [0, 1] rfl rfl (zall rfl rfl) ⟨trivial, oa rfl, trivial⟩) (SOps.nil (SCode.ret ?_)))))))))))
 obtain rfl := Option.some.inj h
 exact ⟨⟨[(8, .c (.own 1 (a0_l ++ ([SPosition.mk a1_cur a2_party a3_n])).length))], [.dead, aSPosition 32 (a0_l ++ ([SPosition.mk a1_cur a2_party a3_n]))]⟩, _, sub_gen [0, 1] rfl rfl (zall rfl rfl) ⟨trivial, oa rfl, trivial⟩, resA1 (v := .c (.own 1 (a0_l ++ ([SPosition.mk a1_cur a2_party a3_n])).length)) rfl rfl, ⟨rfl, rfl⟩⟩
theorem chargenetref49_Positions_own_ok (F : Nat) (a0_l : List SBalance) (r : List SPosition) (h : chargenetref49_Positions_own F a0_l = some r) :
  SFun Try.prog 12 [] [.c (vSBalance a0_l)] (fun x os => x = .c (.own 0 r.length) ∧ os = [aSPosition 32 r]) := by
 refine SFun.of (n := 102) Try.func12 rfl rfl rfl ?_
 unfold chargenetref49_Positions_own at h
 show SCode _ _ _ ⟨[(0, .c (vSBalance a0_l))], []⟩ _
 refine SCode.seq (SCode.region (sa rfl rfl (SOps.nilArrL (T := 32) (k := 3) cSPosition dSPosition (s := 2) rfl rfl (SOps.nil (SCode.seq (SCode.region (sa rfl rfl (SOps.nilArrL (T := 32) (k := 3) cSPosition dSPosition (s := 3) rfl rfl (SOps.nil ?_)))))))))
 let S60 := fun (o0_1 : List SPosition) => (⟨[(3, .c (.own 0 o0_1.length))], [aSPosition 32 o0_1]⟩ : St)
 refine SCode.join (σ := (List SPosition)) (S := fun s => (S60 s)) (g := fun s => chargenetref49_Positions_own_p160 F s = some r) ?_ ?_
 rotate_left
 ·refine SCode.seq (SCode.region (sm rfl rfl (sq rfl rfl (q_len_vec rfl rfl sl22) (sm rfl rfl (SOps.nil (SCode.block ?_))))))
  let S59 := fun (t10_167 : Int) => fun (o0_168 : List SPosition) => (⟨[(3, .c (.own 0 o0_168.length)), (8, .c (vSBalance a0_l)), (9, ci (((a0_l).length : Int))), (10, ci t10_167)], [aSPosition 32 o0_168]⟩ : St)
  refine SCode.sub (st' := (S59 0 (([] : List SPosition)))) (sub_gen [1] rfl rfl (zall rfl rfl) ⟨oa rfl, trivial⟩) ?_
  refine (SCode.loop (σ := Nat × (Int × (List SPosition))) (S := fun s => (S59 s.2.1 s.2.2)) (g := fun s => chargenetref49_Positions_own_l175 F a0_l s.1 s.2.1 s.2.2 = some r) (μ := fun s => s.1) (F, (0, ([] : List SPosition))) h ?_)
  rintro ⟨n_175, ⟨t10_167, o0_168⟩⟩ h
  try dsimp only at h
  show SCode _ _ _ (S59 t10_167 o0_168) _
  cases n_175 with
  | zero => cases h
  | succ n_175 =>
   rw [chargenetref49_Positions_own_l175] at h
   unfold chargenetref49_Positions_own_b175 at h
   refine SCode.seq (SCode.region (sq rfl rfl (q_lss rfl rfl rfl) (SOps.nil (SCode.seq ?_))))
   rcases cond_out h with ⟨g176, h⟩ | ⟨g176, h⟩
   ·refine SCode.cond_t rfl g176 (SCode.skip (SCode.seq (SCode.block (SCode.seq ?_))))
    obtain ⟨g177, h⟩ := guard_out h
    refine SCode.region (sq rfl rfl (q_index_vec rfl rfl rfl sl22 rfl g177.1 g177.2) (sq rfl rfl (q_load_eptr_all rfl rfl rfl ty35) (se rfl rfl (e_alloc rfl rfl rfl z35) (se rfl rfl (e_store_box rfl rfl rfl rfl rfl ty35 rfl rfl rfl rfl) (SOps.nil (SCode.seq ?_))))))
    obtain ⟨c_178, g179, h⟩ := bind_out h
    try dsimp only at h
    refine SCode.region (sm rfl rfl (sq rfl rfl (q_field_ptr rfl rfl fd35_2) (sq rfl rfl (q_load_ptr rfl rfl rfl rfl ty9) (sq rfl rfl (q_field_ptr rfl rfl fd35_0) (sq rfl rfl (q_load_ptr rfl rfl rfl rfl ty9) (sq rfl rfl (q_field_ptr rfl rfl fd35_3) (sq rfl rfl (q_load_ptr rfl rfl rfl rfl ty3) (se rfl rfl (e_call (chargenetref49_add_ok F o0_168 ((a0_l.getD t10_167.toNat dSBalance).Currency) ((a0_l.getD t10_167.toNat dSBalance).Creditor) ((a0_l.getD t10_167.toNat dSBalance).Amount) c_178 g179) [0] rfl fn27 rfl rfl rfl rfl rfl rfl rfl rfl) (sa rfl rfl (SOps.sub (st' := ⟨[(3, .c (.own 0 c_178.length)), (5, .c (.ptr 1 0)), (8, .c (vSBalance a0_l)), (9, ci (((a0_l).length : Int))), (10, ci t10_167)], [aSPosition 32 c_178, .box (bSBalance (a0_l.getD t10_167.toNat dSBalance))]⟩) (sub_gen [2, 1] rfl rfl (zall rfl rfl) ⟨oa rfl, bx rfl rfl rfl, trivial⟩) (SOps.nil ?_)))))))))))
    obtain ⟨c_180, g181, h⟩ := bind_out h
    try dsimp only at h
    refine SCode.region (sm rfl rfl (sq rfl rfl (q_field_ptr rfl rfl fd35_2) (sq rfl rfl (q_load_ptr rfl rfl rfl rfl ty9) (sq rfl rfl (q_field_ptr rfl rfl fd35_1) (sq rfl rfl (q_load_ptr rfl rfl rfl rfl ty9) (sq rfl rfl (q_field_ptr rfl rfl fd35_3) (sq rfl rfl (q_load_ptr rfl rfl rfl rfl ty3) (sq rfl rfl (q_neg rfl rfl) (se rfl rfl (e_call (chargenetref49_add_ok F c_178 ((a0_l.getD t10_167.toNat dSBalance).Currency) ((a0_l.getD t10_167.toNat dSBalance).Debtor) (IntKind.wrap .i64 (0 - (a0_l.getD t10_167.toNat dSBalance).Amount)) c_180 g181) [0] rfl fn27 rfl rfl rfl rfl rfl rfl rfl rfl) (sa rfl rfl (SOps.sub (st' := ⟨[(3, .c (.own 0 c_180.length)), (8, .c (vSBalance a0_l)), (9, ci (((a0_l).length : Int))), (10, ci t10_167)], [aSPosition 32 c_180]⟩) (sub_gen [2] rfl rfl (zall rfl rfl) ⟨oa rfl, trivial⟩) (SOps.nil (SCode.region (sq rfl rfl (q_add rfl rfl rfl) (sm rfl rfl ?_)))))))))))))))
    refine SOps.nil ?_
    exact ⟨(n_175, (IntKind.wrap .i64 (t10_167 + 1), c_180)), h, Nat.lt_succ_self n_175, sub_gen [0] rfl rfl (zall rfl rfl) ⟨oa rfl, trivial⟩⟩
   refine SCode.cond_f rfl g176 (SCode.exit ?_)
   exact ⟨o0_168, h, sub_gen [0] rfl rfl (zall rfl rfl) ⟨oa rfl, trivial⟩⟩
 rintro o0_1 h
 show SCode _ _ _ (S60 o0_1) _
 try dsimp only at h
 unfold chargenetref49_Positions_own_p160 at h
 let S58 := fun (o0_2 : List SPosition) => (⟨[(3, .c (.own 0 o0_2.length))], [aSPosition 32 o0_2]⟩ : St)
 refine SCode.join (σ := (List SPosition)) (S := fun s => (S58 s)) (g := fun s => chargenetref49_Positions_own_p3 s = some r) ?_ ?_
 rotate_left
 ·refine SCode.seq (SCode.region (sm rfl rfl (sq rfl rfl (q_len_own rfl rfl sl29) (sm rfl rfl (SOps.nil (SCode.block ?_))))))
  let S57 := fun (t34_55 : Int) => fun (o0_56 : List SPosition) => (⟨[(3, .c (.own 0 o0_56.length)), (33, ci (((o0_1).length : Int))), (34, ci t34_55)], [aSPosition 32 o0_56]⟩ : St)
  refine SCode.sub (st' := (S57 0 o0_1)) (sub_gen [0] rfl rfl (zall rfl rfl) ⟨oa rfl, trivial⟩) ?_
  refine (SCode.loop (σ := Nat × (Int × (List SPosition))) (S := fun s => (S57 s.2.1 s.2.2)) (g := fun s => chargenetref49_Positions_own_l108 F o0_1 s.1 s.2.1 s.2.2 = some r) (μ := fun s => s.1) (F, (0, o0_1)) h ?_)
  rintro ⟨n_108, ⟨t34_55, o0_56⟩⟩ h
  try dsimp only at h
  show SCode _ _ _ (S57 t34_55 o0_56) _
  cases n_108 with
  | zero => cases h
  | succ n_108 =>
   rw [chargenetref49_Positions_own_l108] at h
   unfold chargenetref49_Positions_own_b108 at h
   refine SCode.seq (SCode.region (sq rfl rfl (q_lss rfl rfl rfl) (SOps.nil (SCode.seq ?_))))
   rcases cond_out h with ⟨g109, h⟩ | ⟨g109, h⟩
   ·refine SCode.cond_t rfl g109 (SCode.skip ?_)
    let S56 := fun (o0_110 : List SPosition) => (⟨[(3, .c (.own 0 o0_110.length)), (33, ci (((o0_1).length : Int))), (34, ci t34_55)], [aSPosition 32 o0_110]⟩ : St)
    refine SCode.join (σ := (List SPosition)) (S := fun s => (S56 s)) (g := fun s => chargenetref49_Positions_own_p111 t34_55 (fun t34_55 o0_56 => chargenetref49_Positions_own_l108 F o0_1 n_108 t34_55 o0_56) s = some r) ?_ ?_
    rotate_left
    ·refine SCode.block (SCode.seq (SCode.region (sm rfl rfl (sa rfl rfl (SOps.nil (SCode.seq (SCode.region (sm rfl rfl (sa rfl rfl (SOps.nil (SCode.block ?_)))))))))))
     let S55 := fun (j_127 : Int) => fun (o0_128 : List SPosition) => (⟨[(3, .c (.own 0 o0_128.length)), (7, ci j_127), (33, ci (((o0_1).length : Int))), (34, ci t34_55)], [aSPosition 32 o0_128]⟩ : St)
     refine SCode.sub (st' := (S55 t34_55 o0_56)) (sub_gen [0] rfl rfl (zall rfl rfl) ⟨oa rfl, trivial⟩) ?_
     refine (SCode.loop (σ := Nat × (Int × (List SPosition))) (S := fun s => (S55 s.2.1 s.2.2)) (g := fun s => chargenetref49_Positions_own_l144 t34_55 (fun t34_55 o0_56 => chargenetref49_Positions_own_l108 F o0_1 n_108 t34_55 o0_56) s.1 s.2.1 s.2.2 = some r) (μ := fun s => s.1) (F, (t34_55, o0_56)) h ?_)
     rintro ⟨n_144, ⟨j_127, o0_128⟩⟩ h
     try dsimp only at h
     show SCode _ _ _ (S55 j_127 o0_128) _
     cases n_144 with
     | zero => cases h
     | succ n_144 =>
      rw [chargenetref49_Positions_own_l144] at h
      unfold chargenetref49_Positions_own_b144 at h
      let S54 := (⟨[(3, .c (.own 0 o0_128.length)), (7, ci j_127), (33, ci (((o0_1).length : Int))), (34, ci t34_55)], [aSPosition 32 o0_128]⟩ : St)
      refine SCode.join (σ := Unit) (S := fun s => S54) (g := fun s => chargenetref49_Positions_own_p149 j_127 o0_128 (fun j_127 o0_128 => chargenetref49_Positions_own_l144 t34_55 (fun t34_55 o0_56 => chargenetref49_Positions_own_l108 F o0_1 n_108 t34_55 o0_56) n_144 j_127 o0_128) = some r) ?_ ?_
      rotate_left
      ·refine SCode.seq ?_
       rcases cond_out h with ⟨g150, h⟩ | ⟨g150, h⟩
       ·obtain ⟨g151, h⟩ := guard_out h
        obtain ⟨g152, h⟩ := guard_out h
        rcases cond_out h with ⟨g153, h⟩ | ⟨g153, h⟩
        ·refine SCode.drawK mixed [[], [0], [0, 1], [0, 1, 2], [0, 1, 2], [0, 1, 2, 4], [0, 1, 2, 3, 4, 5], [0, 1, 2, 3, 4, 5, 6], [0, 1, 2, 3, 4, 5, 6, 7], [0, 1, 2], [0, 1, 2], [0, 1, 2, 9, 10], [0, 1, 2, 9, 10, 11], [0, 1, 2, 9, 10, 11, 12], [0, 1, 2, 3, 4, 5, 6, 7, 8, 9, 10, 11, 12, 13], [0, 1, 2, 3, 4, 5, 6, 7, 8, 9, 10, 11, 12, 13, 14], [0, 1, 2, 3, 4, 5, 6, 7, 8, 9, 10, 11, 12, 13, 14, 15], [0, 1, 2, 3, 4, 5, 6, 7, 8, 9, 10, 11, 12, 13, 14, 15], [0, 1, 2, 3, 4, 5, 6, 7, 8, 9, 10, 11, 12, 13, 14, 15, 17], [0, 1, 2, 3, 4, 5, 6, 7, 8, 9, 10, 11, 12, 13, 14, 15, 16, 17, 18], [0, 1, 2, 3, 4, 5, 6, 7, 8, 9, 10, 11, 12, 13, 14, 15, 16, 17, 18, 19], [0, 1, 2, 3, 4, 5, 6, 7, 8, 9, 10, 11, 12, 13, 14, 15, 16, 17, 18, 19, 20], [0, 1, 2, 3, 4, 5, 6, 7, 8, 9, 10, 11, 12, 13, 14, 15], [0, 1, 2, 3, 4, 5, 6, 7, 8, 9, 10, 11, 12, 13, 14, 15], [0, 1, 2, 3, 4, 5, 6, 7, 8, 9, 10, 11, 12, 13, 14, 15, 22, 23], [0, 1, 2, 3, 4, 5, 6, 7, 8, 9, 10, 11, 12, 13, 14, 15, 22, 23, 24], [0, 1, 2, 3, 4, 5, 6, 7, 8, 9, 10, 11, 12, 13, 14, 15, 22, 23, 24, 25], [0, 1, 2, 3, 4, 5, 6, 7, 8, 9, 10, 11, 12, 13, 14, 15, 16, 17, 18, 19, 20, 21, 22, 23, 24, 25, 26], [0, 1, 2, 3, 4, 5, 6, 7, 8, 9, 10, 11, 12, 13, 14, 15, 16, 17, 18, 19, 20, 21, 22, 23, 24, 25, 26, 27], [0, 1, 2, 3, 4, 5, 6, 7, 8, 9, 10, 11, 12, 13, 14, 15, 16, 17, 18, 19, 20, 21, 22, 23, 24, 25, 26, 27, 28], [0, 1, 2, 3, 4, 5, 6, 7, 8, 9, 10, 11, 12, 13, 14, 15, 16, 17, 18, 19, 20, 21, 22, 23, 24, 25, 26, 27, 28], [0, 1, 2, 3, 4, 5, 6, 7, 8, 9, 10, 11, 12, 13, 14, 15, 16, 17, 18, 19, 20, 21, 22, 23, 24, 25, 26, 27, 28, 30], [0, 1, 2, 3, 4, 5, 6, 7, 8, 9, 10, 11, 12, 13, 14, 15, 16, 17, 18, 19, 20, 21, 22, 23, 24, 25, 26, 27, 28, 29, 30, 31], [0, 1, 2, 3, 4, 5, 6, 7, 8, 9, 10, 11, 12, 13, 14, 15, 16, 17, 18, 19, 20, 21, 22, 23, 24, 25, 26, 27, 28, 29, 30, 31, 32], [0, 1, 2, 3, 4, 5, 6, 7, 8, 9, 10, 11, 12, 13, 14, 15, 16, 17, 18, 19, 20, 21, 22, 23, 24, 25, 26, 27, 28, 29, 30, 31, 32, 33], [0, 1, 2, 3, 4, 5, 6, 7, 8, 9, 10, 11, 12, 13, 14, 15, 16, 17, 18, 19, 20, 21, 22, 23, 24, 25, 26, 27, 28], [0, 1, 2, 3, 4, 5, 6, 7, 8, 9, 10, 11, 12, 13, 14, 15, 16, 17, 18, 19, 20, 21, 22, 23, 24, 25, 26, 27, 28], [0, 1, 2, 3, 4, 5, 6, 7, 8, 9, 10, 11, 12, 13, 14, 15, 16, 17, 18, 19, 20, 21, 22, 23, 24, 25, 26, 27, 28, 35, 36], [0, 1, 2, 3, 4, 5, 6, 7, 8, 9, 10, 11, 12, 13, 14, 15, 16, 17, 18, 19, 20, 21, 22, 23, 24, 25, 26, 27, 28, 35, 36, 37], [0, 1, 2, 3, 4, 5, 6, 7, 8, 9, 10, 11, 12, 13, 14, 15, 16, 17, 18, 19, 20, 21, 22, 23, 24, 25, 26, 27, 28, 35, 36, 37, 38], [0, 1, 2, 3, 4, 5, 6, 7, 8, 9, 10, 11, 12, 13, 14, 15, 16, 17, 18, 19, 20, 21, 22, 23, 24, 25, 26, 27, 28, 29, 30, 31, 32, 33, 34, 35, 36, 37, 38, 39], [0, 1, 2, 3, 4, 5, 6, 7, 8, 9, 10, 11, 12, 13, 14, 15, 16, 17, 18, 19, 20, 21, 22, 23, 24, 25, 26, 27, 28, 29, 30, 31, 32, 33, 34, 35, 36, 37, 38, 39, 40], [0, 1, 2, 3, 4, 5, 6, 7, 8, 9, 10, 11, 12, 13, 14, 15, 16, 17, 18, 19, 20, 21, 22, 23, 24, 25, 26, 27, 28, 29, 30, 31, 32, 33, 34, 35, 36, 37, 38, 39, 40, 41], [0, 1, 2, 3, 4, 5, 6, 7, 8, 9, 10, 11, 12, 13, 14, 15, 16, 17, 18, 19, 20, 21, 22, 23, 24, 25, 26, 27, 28, 29, 30, 31, 32, 33, 34, 35, 36, 37, 38, 39, 40, 41, 42]] 44 0 rfl rfl (qm rfl rfl (qr rfl rfl (q_gtr rfl rfl rfl) (qm rfl rfl (QK.run rfl (.guard 2 40 true rfl rfl (gT g150)) rfl (q_move rfl rfl) (QK.run rfl (.guard 2 40 true rfl rfl (gT g150)) rfl (q_move rfl rfl) (QK.run rfl (.guard 2 40 true rfl rfl (gT g150)) rfl (q_sub rfl rfl rfl) (QK.run rfl (.guard 2 40 true rfl rfl (gT g150)) rfl (q_index_own rfl rfl rfl sl29 g151.1 g151.2) (QK.run rfl (.guard 2 40 true rfl rfl (gT g150)) rfl (q_field_aptr rfl rfl fd32_0) (QK.run rfl (.guard 2 40 true rfl rfl (gT g150)) rfl (q_load_aptr rfl rfl rfl (toNat_lt g151) rfl ty9) (QK.run rfl (.guard 2 40 true rfl rfl (gT g150)) rfl (q_move rfl rfl) (QK.run rfl (.guard 2 40 true rfl rfl (gT g150)) rfl (q_move rfl rfl) (QK.run rfl (.guard 2 40 true rfl rfl (gT g150)) rfl (q_index_own rfl rfl rfl sl29 g152.1 g152.2) (QK.run rfl (.guard 2 40 true rfl rfl (gT g150)) rfl (q_field_aptr rfl rfl fd32_0) (QK.run rfl (.guard 2 40 true rfl rfl (gT g150)) rfl (q_load_aptr rfl rfl rfl (toNat_lt g152) rfl ty9) (QK.run rfl (.guard 2 40 true rfl rfl (gT g150)) rfl (q_gtrS rfl rfl rfl) ?_)))))))))))))))
         refine QK.run rfl (.guard 2 40 true rfl rfl (gT g150)) rfl (q_move rfl rfl) (QK.skip rfl ⟨15, 53, false, rfl, rfl, (.inl (gT g153))⟩ rfl (QK.skip rfl ⟨15, 53, false, rfl, rfl, (.inl (gT g153))⟩ rfl (QK.skip rfl ⟨15, 53, false, rfl, rfl, (.inl (gT g153))⟩ rfl (QK.skip rfl ⟨15, 53, false, rfl, rfl, (.inl (gT g153))⟩ rfl (QK.skip rfl ⟨15, 53, false, rfl, rfl, (.inl (gT g153))⟩ rfl (QK.skip rfl ⟨15, 53, false, rfl, rfl, (.inl (gT g153))⟩ rfl (QK.skip rfl ⟨15, 53, false, rfl, rfl, (.inl (gT g153))⟩ rfl (QK.skip rfl ⟨15, 53, false, rfl, rfl, (.inl (gT g153))⟩ rfl (QK.skip rfl ⟨15, 53, false, rfl, rfl, (.inl (gT g153))⟩ rfl (QK.skip rfl ⟨15, 53, false, rfl, rfl, (.inl (gT g153))⟩ rfl (QK.skip rfl ⟨15, 53, false, rfl, rfl, (.inl (gT g153))⟩ rfl (QK.skip rfl ⟨15, 53, false, rfl, rfl, (.inl (gT g153))⟩ rfl (QK.skip rfl ⟨15, 53, false, rfl, rfl, (.inl (gT g153))⟩ rfl (QK.skip rfl ⟨28, 66, true, rfl, rfl, (.inr rfl)⟩ rfl (QK.skip rfl ⟨28, 66, true, rfl, rfl, (.inr rfl)⟩ rfl ?_)))))))))))))))
         refine QK.skip rfl ⟨28, 66, true, rfl, rfl, (.inr rfl)⟩ rfl (QK.skip rfl ⟨28, 66, true, rfl, rfl, (.inr rfl)⟩ rfl (QK.skip rfl ⟨28, 66, true, rfl, rfl, (.inr rfl)⟩ rfl (QK.skip rfl ⟨28, 66, true, rfl, rfl, (.inr rfl)⟩ rfl (QK.skip rfl ⟨28, 66, true, rfl, rfl, (.inr rfl)⟩ rfl (QK.skip rfl ⟨28, 66, true, rfl, rfl, (.inr rfl)⟩ rfl (QK.skip rfl ⟨28, 66, true, rfl, rfl, (.inr rfl)⟩ rfl (QK.skip rfl ⟨28, 66, true, rfl, rfl, (.inr rfl)⟩ rfl (QK.skip rfl ⟨28, 66, true, rfl, rfl, (.inr rfl)⟩ rfl (QK.skip rfl ⟨28, 66, true, rfl, rfl, (.inr rfl)⟩ rfl (QK.skip rfl ⟨15, 53, false, rfl, rfl, (.inl (gT g153))⟩ rfl (QK.run rfl (.guard 2 40 true rfl rfl (gT g150)) rfl (q_pick_t rfl rfl g153 rfl) (qr rfl rfl (q_pick_t rfl rfl g150 rfl) (QK.nil (SOps.sub (st' := ⟨[(3, .c (.own 0 o0_128.length)), (7, ci j_127), (33, ci (((o0_1).length : Int))), (34, ci t34_55), (81, .c (.bool true))], [aSPosition 32 o0_128]⟩) (sub_gen [0] rfl rfl (zall rfl rfl) ⟨oa rfl, trivial⟩) (SOps.nil ?_)))))))))))))))
         refine SCode.cond_t rfl rfl (SCode.skip ?_)
         exact ⟨(), h, sub_gen [0] rfl rfl (zall rfl rfl) ⟨oa rfl, trivial⟩⟩
        obtain ⟨g154, h⟩ := guard_out h
        obtain ⟨g155, h⟩ := guard_out h
        rcases cond_out h with ⟨g156, h⟩ | ⟨g156, h⟩
        ·obtain ⟨g157, h⟩ := guard_out h
         obtain ⟨g158, h⟩ := guard_out h
         refine SCode.drawK mixed [[], [0], [0, 1], [0, 1, 2], [0, 1, 2], [0, 1, 2, 4], [0, 1, 2, 3, 4, 5], [0, 1, 2, 3, 4, 5, 6], [0, 1, 2, 3, 4, 5, 6, 7], [0, 1, 2], [0, 1, 2], [0, 1, 2, 9, 10], [0, 1, 2, 9, 10, 11], [0, 1, 2, 9, 10, 11, 12], [0, 1, 2, 3, 4, 5, 6, 7, 8, 9, 10, 11, 12, 13], [0, 1, 2, 3, 4, 5, 6, 7, 8, 9, 10, 11, 12, 13, 14], [0, 1, 2, 3, 4, 5, 6, 7, 8, 9, 10, 11, 12, 13, 14, 15], [0, 1, 2, 3, 4, 5, 6, 7, 8, 9, 10, 11, 12, 13, 14, 15], [0, 1, 2, 3, 4, 5, 6, 7, 8, 9, 10, 11, 12, 13, 14, 15, 17], [0, 1, 2, 3, 4, 5, 6, 7, 8, 9, 10, 11, 12, 13, 14, 15, 16, 17, 18], [0, 1, 2, 3, 4, 5, 6, 7, 8, 9, 10, 11, 12, 13, 14, 15, 16, 17, 18, 19], [0, 1, 2, 3, 4, 5, 6, 7, 8, 9, 10, 11, 12, 13, 14, 15, 16, 17, 18, 19, 20], [0, 1, 2, 3, 4, 5, 6, 7, 8, 9, 10, 11, 12, 13, 14, 15], [0, 1, 2, 3, 4, 5, 6, 7, 8, 9, 10, 11, 12, 13, 14, 15], [0, 1, 2, 3, 4, 5, 6, 7, 8, 9, 10, 11, 12, 13, 14, 15, 22, 23], [0, 1, 2, 3, 4, 5, 6, 7, 8, 9, 10, 11, 12, 13, 14, 15, 22, 23, 24], [0, 1, 2, 3, 4, 5, 6, 7, 8, 9, 10, 11, 12, 13, 14, 15, 22, 23, 24, 25], [0, 1, 2, 3, 4, 5, 6, 7, 8, 9, 10, 11, 12, 13, 14, 15, 16, 17, 18, 19, 20, 21, 22, 23, 24, 25, 26], [0, 1, 2, 3, 4, 5, 6, 7, 8, 9, 10, 11, 12, 13, 14, 15, 16, 17, 18, 19, 20, 21, 22, 23, 24, 25, 26, 27], [0, 1, 2, 3, 4, 5, 6, 7, 8, 9, 10, 11, 12, 13, 14, 15, 16, 17, 18, 19, 20, 21, 22, 23, 24, 25, 26, 27, 28], [0, 1, 2, 3, 4, 5, 6, 7, 8, 9, 10, 11, 12, 13, 14, 15, 16, 17, 18, 19, 20, 21, 22, 23, 24, 25, 26, 27, 28], [0, 1, 2, 3, 4, 5, 6, 7, 8, 9, 10, 11, 12, 13, 14, 15, 16, 17, 18, 19, 20, 21, 22, 23, 24, 25, 26, 27, 28, 30], [0, 1, 2, 3, 4, 5, 6, 7, 8, 9, 10, 11, 12, 13, 14, 15, 16, 17, 18, 19, 20, 21, 22, 23, 24, 25, 26, 27, 28, 29, 30, 31], [0, 1, 2, 3, 4, 5, 6, 7, 8, 9, 10, 11, 12, 13, 14, 15, 16, 17, 18, 19, 20, 21, 22, 23, 24, 25, 26, 27, 28, 29, 30, 31, 32], [0, 1, 2, 3, 4, 5, 6, 7, 8, 9, 10, 11, 12, 13, 14, 15, 16, 17, 18, 19, 20, 21, 22, 23, 24, 25, 26, 27, 28, 29, 30, 31, 32, 33], [0, 1, 2, 3, 4, 5, 6, 7, 8, 9, 10, 11, 12, 13, 14, 15, 16, 17, 18, 19, 20, 21, 22, 23, 24, 25, 26, 27, 28], [0, 1, 2, 3, 4, 5, 6, 7, 8, 9, 10, 11, 12, 13, 14, 15, 16, 17, 18, 19, 20, 21, 22, 23, 24, 25, 26, 27, 28], [0, 1, 2, 3, 4, 5, 6, 7, 8, 9, 10, 11, 12, 13, 14, 15, 16, 17, 18, 19, 20, 21, 22, 23, 24, 25, 26, 27, 28, 35, 36], [0, 1, 2, 3, 4, 5, 6, 7, 8, 9, 10, 11, 12, 13, 14, 15, 16, 17, 18, 19, 20, 21, 22, 23, 24, 25, 26, 27, 28, 35, 36, 37], [0, 1, 2, 3, 4, 5, 6, 7, 8, 9, 10, 11, 12, 13, 14, 15, 16, 17, 18, 19, 20, 21, 22, 23, 24, 25, 26, 27, 28, 35, 36, 37, 38], [0, 1, 2, 3, 4, 5, 6, 7, 8, 9, 10, 11, 12, 13, 14, 15, 16, 17, 18, 19, 20, 21, 22, 23, 24, 25, 26, 27, 28, 29, 30, 31, 32, 33, 34, 35, 36, 37, 38, 39], [0, 1, 2, 3, 4, 5, 6, 7, 8, 9, 10, 11, 12, 13, 14, 15, 16, 17, 18, 19, 20, 21, 22, 23, 24, 25, 26, 27, 28, 29, 30, 31, 32, 33, 34, 35, 36, 37, 38, 39, 40], [0, 1, 2, 3, 4, 5, 6, 7, 8, 9, 10, 11, 12, 13, 14, 15, 16, 17, 18, 19, 20, 21, 22, 23, 24, 25, 26, 27, 28, 29, 30, 31, 32, 33, 34, 35, 36, 37, 38, 39, 40, 41], [0, 1, 2, 3, 4, 5, 6, 7, 8, 9, 10, 11, 12, 13, 14, 15, 16, 17, 18, 19, 20, 21, 22, 23, 24, 25, 26, 27, 28, 29, 30, 31, 32, 33, 34, 35, 36, 37, 38, 39, 40, 41, 42]] 44 0 rfl rfl (qm rfl rfl (qr rfl rfl (q_gtr rfl rfl rfl) (qm rfl rfl (QK.run rfl (.guard 2 40 true rfl rfl (gT g150)) rfl (q_move rfl rfl) (QK.run rfl (.guard 2 40 true rfl rfl (gT g150)) rfl (q_move rfl rfl) (QK.run rfl (.guard 2 40 true rfl rfl (gT g150)) rfl (q_sub rfl rfl rfl) (QK.run rfl (.guard 2 40 true rfl rfl (gT g150)) rfl (q_index_own rfl rfl rfl sl29 g151.1 g151.2) (QK.run rfl (.guard 2 40 true rfl rfl (gT g150)) rfl (q_field_aptr rfl rfl fd32_0) (QK.run rfl (.guard 2 40 true rfl rfl (gT g150)) rfl (q_load_aptr rfl rfl rfl (toNat_lt g151) rfl ty9) (QK.run rfl (.guard 2 40 true rfl rfl (gT g150)) rfl (q_move rfl rfl) (QK.run rfl (.guard 2 40 true rfl rfl (gT g150)) rfl (q_move rfl rfl) (QK.run rfl (.guard 2 40 true rfl rfl (gT g150)) rfl (q_index_own rfl rfl rfl sl29 g152.1 g152.2) (QK.run rfl (.guard 2 40 true rfl rfl (gT g150)) rfl (q_field_aptr rfl rfl fd32_0) (QK.run rfl (.guard 2 40 true rfl rfl (gT g150)) rfl (q_load_aptr rfl rfl rfl (toNat_lt g152) rfl ty9) (QK.run rfl (.guard 2 40 true rfl rfl (gT g150)) rfl (q_gtrS rfl rfl rfl) ?_)))))))))))))))
         refine QK.run rfl (.guard 2 40 true rfl rfl (gT g150)) rfl (q_move rfl rfl) (QK.run rfl (.guard 15 53 false rfl rfl (gF g153)) rfl (q_move rfl rfl) (QK.run rfl (.guard 15 53 false rfl rfl (gF g153)) rfl (q_move rfl rfl) (QK.run rfl (.guard 15 53 false rfl rfl (gF g153)) rfl (q_sub rfl rfl rfl) (QK.run rfl (.guard 15 53 false rfl rfl (gF g153)) rfl (q_index_own rfl rfl rfl sl29 g154.1 g154.2) (QK.run rfl (.guard 15 53 false rfl rfl (gF g153)) rfl (q_field_aptr rfl rfl fd32_0) (QK.run rfl (.guard 15 53 false rfl rfl (gF g153)) rfl (q_load_aptr rfl rfl rfl (toNat_lt g154) rfl ty9) (QK.run rfl (.guard 15 53 false rfl rfl (gF g153)) rfl (q_move rfl rfl) (QK.run rfl (.guard 15 53 false rfl rfl (gF g153)) rfl (q_move rfl rfl) (QK.run rfl (.guard 15 53 false rfl rfl (gF g153)) rfl (q_index_own rfl rfl rfl sl29 g155.1 g155.2) (QK.run rfl (.guard 15 53 false rfl rfl (gF g153)) rfl (q_field_aptr rfl rfl fd32_0) (QK.run rfl (.guard 15 53 false rfl rfl (gF g153)) rfl (q_load_aptr rfl rfl rfl (toNat_lt g155) rfl ty9) (QK.run rfl (.guard 15 53 false rfl rfl (gF g153)) rfl (q_eqlS rfl rfl rfl) (QK.run rfl (.guard 15 53 false rfl rfl (gF g153)) rfl (q_move rfl rfl) (QK.run rfl (.guard 28 66 true rfl rfl (gT g156)) rfl (q_move rfl rfl) (QK.run rfl (.guard 28 66 true rfl rfl (gT g156)) rfl (q_move rfl rfl) ?_)))))))))))))))
         refine QK.run rfl (.guard 28 66 true rfl rfl (gT g156)) rfl (q_sub rfl rfl rfl) (QK.run rfl (.guard 28 66 true rfl rfl (gT g156)) rfl (q_index_own rfl rfl rfl sl29 g157.1 g157.2) (QK.run rfl (.guard 28 66 true rfl rfl (gT g156)) rfl (q_field_aptr rfl rfl fd32_1) (QK.run rfl (.guard 28 66 true rfl rfl (gT g156)) rfl (q_load_aptr rfl rfl rfl (toNat_lt g157) rfl ty9) (QK.run rfl (.guard 28 66 true rfl rfl (gT g156)) rfl (q_move rfl rfl) (QK.run rfl (.guard 28 66 true rfl rfl (gT g156)) rfl (q_move rfl rfl) (QK.run rfl (.guard 28 66 true rfl rfl (gT g156)) rfl (q_index_own rfl rfl rfl sl29 g158.1 g158.2) (QK.run rfl (.guard 28 66 true rfl rfl (gT g156)) rfl (q_field_aptr rfl rfl fd32_1) (QK.run rfl (.guard 28 66 true rfl rfl (gT g156)) rfl (q_load_aptr rfl rfl rfl (toNat_lt g158) rfl ty9) (QK.run rfl (.guard 28 66 true rfl rfl (gT g156)) rfl (q_gtrS rfl rfl rfl) (QK.run rfl (.guard 15 53 false rfl rfl (gF g153)) rfl (q_pick_t rfl rfl g156 rfl) (QK.run rfl (.guard 2 40 true rfl rfl (gT g150)) rfl (q_pick_f rfl rfl g153 rfl) (qr rfl rfl (q_pick_t rfl rfl g150 rfl) (QK.nil (SOps.sub (st' := ⟨[(3, .c (.own 0 o0_128.length)), (7, ci j_127), (33, ci (((o0_1).length : Int))), (34, ci t34_55), (81, .c (.bool ((!(sLt ((o0_128.getD ((IntKind.wrap .i64 (j_127 - 1)).toNat) dSPosition).Party) ((o0_128.getD j_127.toNat dSPosition).Party) || sEq ((o0_128.getD ((IntKind.wrap .i64 (j_127 - 1)).toNat) dSPosition).Party) ((o0_128.getD j_127.toNat dSPosition).Party))))))], [aSPosition 32 o0_128]⟩) (sub_gen [0] rfl rfl (zall rfl rfl) ⟨oa rfl, trivial⟩) (SOps.nil ?_)))))))))))))))
         rcases cond_out h with ⟨g159, h⟩ | ⟨g159, h⟩
         ·refine SCode.cond_t rfl g159 (SCode.skip ?_)
          exact ⟨(), h, sub_gen [0] rfl rfl (zall rfl rfl) ⟨oa rfl, trivial⟩⟩
         refine SCode.cond_f rfl g159 (SCode.exit ?_)
         exact ⟨o0_128, h, sub_gen [0] rfl rfl (zall rfl rfl) ⟨oa rfl, trivial⟩⟩
        refine SCode.drawK mixed [[], [0], [0, 1], [0, 1, 2], [0, 1, 2], [0, 1, 2, 4], [0, 1, 2, 3, 4, 5], [0, 1, 2, 3, 4, 5, 6], [0, 1, 2, 3, 4, 5, 6, 7], [0, 1, 2], [0, 1, 2], [0, 1, 2, 9, 10], [0, 1, 2, 9, 10, 11], [0, 1, 2, 9, 10, 11, 12], [0, 1, 2, 3, 4, 5, 6, 7, 8, 9, 10, 11, 12, 13], [0, 1, 2, 3, 4, 5, 6, 7, 8, 9, 10, 11, 12, 13, 14], [0, 1, 2, 3, 4, 5, 6, 7, 8, 9, 10, 11, 12, 13, 14, 15], [0, 1, 2, 3, 4, 5, 6, 7, 8, 9, 10, 11, 12, 13, 14, 15], [0, 1, 2, 3, 4, 5, 6, 7, 8, 9, 10, 11, 12, 13, 14, 15, 17], [0, 1, 2, 3, 4, 5, 6, 7, 8, 9, 10, 11, 12, 13, 14, 15, 16, 17, 18], [0, 1, 2, 3, 4, 5, 6, 7, 8, 9, 10, 11, 12, 13, 14, 15, 16, 17, 18, 19], [0, 1, 2, 3, 4, 5, 6, 7, 8, 9, 10, 11, 12, 13, 14, 15, 16, 17, 18, 19, 20], [0, 1, 2, 3, 4, 5, 6, 7, 8, 9, 10, 11, 12, 13, 14, 15], [0, 1, 2, 3, 4, 5, 6, 7, 8, 9, 10, 11, 12, 13, 14, 15], [0, 1, 2, 3, 4, 5, 6, 7, 8, 9, 10, 11, 12, 13, 14, 15, 22, 23], [0, 1, 2, 3, 4, 5, 6, 7, 8, 9, 10, 11, 12, 13, 14, 15, 22, 23, 24], [0, 1, 2, 3, 4, 5, 6, 7, 8, 9, 10, 11, 12, 13, 14, 15, 22, 23, 24, 25], [0, 1, 2, 3, 4, 5, 6, 7, 8, 9, 10, 11, 12, 13, 14, 15, 16, 17, 18, 19, 20, 21, 22, 23, 24, 25, 26], [0, 1, 2, 3, 4, 5, 6, 7, 8, 9, 10, 11, 12, 13, 14, 15, 16, 17, 18, 19, 20, 21, 22, 23, 24, 25, 26, 27], [0, 1, 2, 3, 4, 5, 6, 7, 8, 9, 10, 11, 12, 13, 14, 15, 16, 17, 18, 19, 20, 21, 22, 23, 24, 25, 26, 27, 28], [0, 1, 2, 3, 4, 5, 6, 7, 8, 9, 10, 11, 12, 13, 14, 15, 16, 17, 18, 19, 20, 21, 22, 23, 24, 25, 26, 27, 28], [0, 1, 2, 3, 4, 5, 6, 7, 8, 9, 10, 11, 12, 13, 14, 15, 16, 17, 18, 19, 20, 21, 22, 23, 24, 25, 26, 27, 28, 30], [0, 1, 2, 3, 4, 5, 6, 7, 8, 9, 10, 11, 12, 13, 14, 15, 16, 17, 18, 19, 20, 21, 22, 23, 24, 25, 26, 27, 28, 29, 30, 31], [0, 1, 2, 3, 4, 5, 6, 7, 8, 9, 10, 11, 12, 13, 14, 15, 16, 17, 18, 19, 20, 21, 22, 23, 24, 25, 26, 27, 28, 29, 30, 31, 32], [0, 1, 2, 3, 4, 5, 6, 7, 8, 9, 10, 11, 12, 13, 14, 15, 16, 17, 18, 19, 20, 21, 22, 23, 24, 25, 26, 27, 28, 29, 30, 31, 32, 33], [0, 1, 2, 3, 4, 5, 6, 7, 8, 9, 10, 11, 12, 13, 14, 15, 16, 17, 18, 19, 20, 21, 22, 23, 24, 25, 26, 27, 28], [0, 1, 2, 3, 4, 5, 6, 7, 8, 9, 10, 11, 12, 13, 14, 15, 16, 17, 18, 19, 20, 21, 22, 23, 24, 25, 26, 27, 28], [0, 1, 2, 3, 4, 5, 6, 7, 8, 9, 10, 11, 12, 13, 14, 15, 16, 17, 18, 19, 20, 21, 22, 23, 24, 25, 26, 27, 28, 35, 36], [0, 1, 2, 3, 4, 5, 6, 7, 8, 9, 10, 11, 12, 13, 14, 15, 16, 17, 18, 19, 20, 21, 22, 23, 24, 25, 26, 27, 28, 35, 36, 37], [0, 1, 2, 3, 4, 5, 6, 7, 8, 9, 10, 11, 12, 13, 14, 15, 16, 17, 18, 19, 20, 21, 22, 23, 24, 25, 26, 27, 28, 35, 36, 37, 38], [0, 1, 2, 3, 4, 5, 6, 7, 8, 9, 10, 11, 12, 13, 14, 15, 16, 17, 18, 19, 20, 21, 22, 23, 24, 25, 26, 27, 28, 29, 30, 31, 32, 33, 34, 35, 36, 37, 38, 39], [0, 1, 2, 3, 4, 5, 6, 7, 8, 9, 10, 11, 12, 13, 14, 15, 16, 17, 18, 19, 20, 21, 22, 23, 24, 25, 26, 27, 28, 29, 30, 31, 32, 33, 34, 35, 36, 37, 38, 39, 40], [0, 1, 2, 3, 4, 5, 6, 7, 8, 9, 10, 11, 12, 13, 14, 15, 16, 17, 18, 19, 20, 21, 22, 23, 24, 25, 26, 27, 28, 29, 30, 31, 32, 33, 34, 35, 36, 37, 38, 39, 40, 41], [0, 1, 2, 3, 4, 5, 6, 7, 8, 9, 10, 11, 12, 13, 14, 15, 16, 17, 18, 19, 20, 21, 22, 23, 24, 25, 26, 27, 28, 29, 30, 31, 32, 33, 34, 35, 36, 37, 38, 39, 40, 41, 42]] 44 0 rfl rfl (qm rfl rfl (qr rfl rfl (q_gtr rfl rfl rfl) (qm rfl rfl (QK.run rfl (.guard 2 40 true rfl rfl (gT g150)) rfl (q_move rfl rfl) (QK.run rfl (.guard 2 40 true rfl rfl (gT g150)) rfl (q_move rfl rfl) (QK.run rfl (.guard 2 40 true rfl rfl (gT g150)) rfl (q_sub rfl rfl rfl) (QK.run rfl (.guard 2 40 true rfl rfl (gT g150)) rfl (q_index_own rfl rfl rfl sl29 g151.1 g151.2) (QK.run rfl (.guard 2 40 true rfl rfl (gT g150)) rfl (q_field_aptr rfl rfl fd32_0) (QK.run rfl (.guard 2 40 true rfl rfl (gT g150)) rfl (q_load_aptr rfl rfl rfl (toNat_lt g151) rfl ty9) (QK.run rfl (.guard 2 40 true rfl rfl (gT g150)) rfl (q_move rfl rfl) (QK.run rfl (.guard 2 40 true rfl rfl (gT g150)) rfl (q_move rfl rfl) (QK.run rfl (.guard 2 40 true rfl rfl (gT g150)) rfl (q_index_own rfl rfl rfl sl29 g152.1 g152.2) (QK.run rfl (.guard 2 40 true rfl rfl (gT g150)) rfl (q_field_aptr rfl rfl fd32_0) (QK.run rfl (.guard 2 40 true rfl rfl (gT g150)) rfl (q_load_aptr rfl rfl rfl (toNat_lt g152) rfl ty9) (QK.run rfl (.guard 2 40 true rfl rfl (gT g150)) rfl (q_gtrS rfl rfl rfl) ?_)))))))))))))))
        refine QK.run rfl (.guard 2 40 true rfl rfl (gT g150)) rfl (q_move rfl rfl) (QK.run rfl (.guard 15 53 false rfl rfl (gF g153)) rfl (q_move rfl rfl) (QK.run rfl (.guard 15 53 false rfl rfl (gF g153)) rfl (q_move rfl rfl) (QK.run rfl (.guard 15 53 false rfl rfl (gF g153)) rfl (q_sub rfl rfl rfl) (QK.run rfl (.guard 15 53 false rfl rfl (gF g153)) rfl (q_index_own rfl rfl rfl sl29 g154.1 g154.2) (QK.run rfl (.guard 15 53 false rfl rfl (gF g153)) rfl (q_field_aptr rfl rfl fd32_0) (QK.run rfl (.guard 15 53 false rfl rfl (gF g153)) rfl (q_load_aptr rfl rfl rfl (toNat_lt g154) rfl ty9) (QK.run rfl (.guard 15 53 false rfl rfl (gF g153)) rfl (q_move rfl rfl) (QK.run rfl (.guard 15 53 false rfl rfl (gF g153)) rfl (q_move rfl rfl) (QK.run rfl (.guard 15 53 false rfl rfl (gF g153)) rfl (q_index_own rfl rfl rfl sl29 g155.1 g155.2) (QK.run rfl (.guard 15 53 false rfl rfl (gF g153)) rfl (q_field_aptr rfl rfl fd32_0) (QK.run rfl (.guard 15 53 false rfl rfl (gF g153)) rfl (q_load_aptr rfl rfl rfl (toNat_lt g155) rfl ty9) (QK.run rfl (.guard 15 53 false rfl rfl (gF g153)) rfl (q_eqlS rfl rfl rfl) (QK.run rfl (.guard 15 53 false rfl rfl (gF g153)) rfl (q_move rfl rfl) (QK.skip rfl ⟨28, 66, true, rfl, rfl, (.inl (gF g156))⟩ rfl (QK.skip rfl ⟨28, 66, true, rfl, rfl, (.inl (gF g156))⟩ rfl ?_)))))))))))))))
        refine QK.skip rfl ⟨28, 66, true, rfl, rfl, (.inl (gF g156))⟩ rfl (QK.skip rfl ⟨28, 66, true, rfl, rfl, (.inl (gF g156))⟩ rfl (QK.skip rfl ⟨28, 66, true, rfl, rfl, (.inl (gF g156))⟩ rfl (QK.skip rfl ⟨28, 66, true, rfl, rfl, (.inl (gF g156))⟩ rfl (QK.skip rfl ⟨28, 66, true, rfl, rfl, (.inl (gF g156))⟩ rfl (QK.skip rfl ⟨28, 66, true, rfl, rfl, (.inl (gF g156))⟩ rfl (QK.skip rfl ⟨28, 66, true, rfl, rfl, (.inl (gF g156))⟩ rfl (QK.skip rfl ⟨28, 66, true, rfl, rfl, (.inl (gF g156))⟩ rfl (QK.skip rfl ⟨28, 66, true, rfl, rfl, (.inl (gF g156))⟩ rfl (QK.skip rfl ⟨28, 66, true, rfl, rfl, (.inl (gF g156))⟩ rfl (QK.run rfl (.guard 15 53 false rfl rfl (gF g153)) rfl (q_pick_f rfl rfl g156 rfl) (QK.run rfl (.guard 2 40 true rfl rfl (gT g150)) rfl (q_pick_f rfl rfl g153 rfl) (qr rfl rfl (q_pick_t rfl rfl g150 rfl) (QK.nil (SOps.sub (st' := ⟨[(3, .c (.own 0 o0_128.length)), (7, ci j_127), (33, ci (((o0_1).length : Int))), (34, ci t34_55), (81, .c (.bool false))], [aSPosition 32 o0_128]⟩) (sub_gen [0] rfl rfl (zall rfl rfl) ⟨oa rfl, trivial⟩) (SOps.nil ?_)))))))))))))))
        refine SCode.cond_f rfl rfl (SCode.exit ?_)
        exact ⟨o0_128, h, sub_gen [0] rfl rfl (zall rfl rfl) ⟨oa rfl, trivial⟩⟩
       refine SCode.drawK mixed [[], [0], [0, 1], [0, 1, 2], [0, 1, 2], [0, 1, 2, 4], [0, 1, 2, 3, 4, 5], [0, 1, 2, 3, 4, 5, 6], [0, 1, 2, 3, 4, 5, 6, 7], [0, 1, 2], [0, 1, 2], [0, 1, 2, 9, 10], [0, 1, 2, 9, 10, 11], [0, 1, 2, 9, 10, 11, 12], [0, 1, 2, 3, 4, 5, 6, 7, 8, 9, 10, 11, 12, 13], [0, 1, 2, 3, 4, 5, 6, 7, 8, 9, 10, 11, 12, 13, 14], [0, 1, 2, 3, 4, 5, 6, 7, 8, 9, 10, 11, 12, 13, 14, 15], [0, 1, 2, 3, 4, 5, 6, 7, 8, 9, 10, 11, 12, 13, 14, 15], [0, 1, 2, 3, 4, 5, 6, 7, 8, 9, 10, 11, 12, 13, 14, 15, 17], [0, 1, 2, 3, 4, 5, 6, 7, 8, 9, 10, 11, 12, 13, 14, 15, 16, 17, 18], [0, 1, 2, 3, 4, 5, 6, 7, 8, 9, 10, 11, 12, 13, 14, 15, 16, 17, 18, 19], [0, 1, 2, 3, 4, 5, 6, 7, 8, 9, 10, 11, 12, 13, 14, 15, 16, 17, 18, 19, 20], [0, 1, 2, 3, 4, 5, 6, 7, 8, 9, 10, 11, 12, 13, 14, 15], [0, 1, 2, 3, 4, 5, 6, 7, 8, 9, 10, 11, 12, 13, 14, 15], [0, 1, 2, 3, 4, 5, 6, 7, 8, 9, 10, 11, 12, 13, 14, 15, 22, 23], [0, 1, 2, 3, 4, 5, 6, 7, 8, 9, 10, 11, 12, 13, 14, 15, 22, 23, 24], [0, 1, 2, 3, 4, 5, 6, 7, 8, 9, 10, 11, 12, 13, 14, 15, 22, 23, 24, 25], [0, 1, 2, 3, 4, 5, 6, 7, 8, 9, 10, 11, 12, 13, 14, 15, 16, 17, 18, 19, 20, 21, 22, 23, 24, 25, 26], [0, 1, 2, 3, 4, 5, 6, 7, 8, 9, 10, 11, 12, 13, 14, 15, 16, 17, 18, 19, 20, 21, 22, 23, 24, 25, 26, 27], [0, 1, 2, 3, 4, 5, 6, 7, 8, 9, 10, 11, 12, 13, 14, 15, 16, 17, 18, 19, 20, 21, 22, 23, 24, 25, 26, 27, 28], [0, 1, 2, 3, 4, 5, 6, 7, 8, 9, 10, 11, 12, 13, 14, 15, 16, 17, 18, 19, 20, 21, 22, 23, 24, 25, 26, 27, 28], [0, 1, 2, 3, 4, 5, 6, 7, 8, 9, 10, 11, 12, 13, 14, 15, 16, 17, 18, 19, 20, 21, 22, 23, 24, 25, 26, 27, 28, 30], [0, 1, 2, 3, 4, 5, 6, 7, 8, 9, 10, 11, 12, 13, 14, 15, 16, 17, 18, 19, 20, 21, 22, 23, 24, 25, 26, 27, 28, 29, 30, 31], [0, 1, 2, 3, 4, 5, 6, 7, 8, 9, 10, 11, 12, 13, 14, 15, 16, 17, 18, 19, 20, 21, 22, 23, 24, 25, 26, 27, 28, 29, 30, 31, 32], [0, 1, 2, 3, 4, 5, 6, 7, 8, 9, 10, 11, 12, 13, 14, 15, 16, 17, 18, 19, 20, 21, 22, 23, 24, 25, 26, 27, 28, 29, 30, 31, 32, 33], [0, 1, 2, 3, 4, 5, 6, 7, 8, 9, 10, 11, 12, 13, 14, 15, 16, 17, 18, 19, 20, 21, 22, 23, 24, 25, 26, 27, 28], [0, 1, 2, 3, 4, 5, 6, 7, 8, 9, 10, 11, 12, 13, 14, 15, 16, 17, 18, 19, 20, 21, 22, 23, 24, 25, 26, 27, 28], [0, 1, 2, 3, 4, 5, 6, 7, 8, 9, 10, 11, 12, 13, 14, 15, 16, 17, 18, 19, 20, 21, 22, 23, 24, 25, 26, 27, 28, 35, 36], [0, 1, 2, 3, 4, 5, 6, 7, 8, 9, 10, 11, 12, 13, 14, 15, 16, 17, 18, 19, 20, 21, 22, 23, 24, 25, 26, 27, 28, 35, 36, 37], [0, 1, 2, 3, 4, 5, 6, 7, 8, 9, 10, 11, 12, 13, 14, 15, 16, 17, 18, 19, 20, 21, 22, 23, 24, 25, 26, 27, 28, 35, 36, 37, 38], [0, 1, 2, 3, 4, 5, 6, 7, 8, 9, 10, 11, 12, 13, 14, 15, 16, 17, 18, 19, 20, 21, 22, 23, 24, 25, 26, 27, 28, 29, 30, 31, 32, 33, 34, 35, 36, 37, 38, 39], [0, 1, 2, 3, 4, 5, 6, 7, 8, 9, 10, 11, 12, 13, 14, 15, 16, 17, 18, 19, 20, 21, 22, 23, 24, 25, 26, 27, 28, 29, 30, 31, 32, 33, 34, 35, 36, 37, 38, 39, 40], [0, 1, 2, 3, 4, 5, 6, 7, 8, 9, 10, 11, 12, 13, 14, 15, 16, 17, 18, 19, 20, 21, 22, 23, 24, 25, 26, 27, 28, 29, 30, 31, 32, 33, 34, 35, 36, 37, 38, 39, 40, 41], [0, 1, 2, 3, 4, 5, 6, 7, 8, 9, 10, 11, 12, 13, 14, 15, 16, 17, 18, 19, 20, 21, 22, 23, 24, 25, 26, 27, 28, 29, 30, 31, 32, 33, 34, 35, 36, 37, 38, 39, 40, 41, 42]] 44 0 rfl rfl (qm rfl rfl (qr rfl rfl (q_gtr rfl rfl rfl) (qm rfl rfl (QK.skip rfl ⟨2, 40, true, rfl, rfl, (.inl (gF g150))⟩ rfl (QK.skip rfl ⟨2, 40, true, rfl, rfl, (.inl (gF g150))⟩ rfl (QK.skip rfl ⟨2, 40, true, rfl, rfl, (.inl (gF g150))⟩ rfl (QK.skip rfl ⟨2, 40, true, rfl, rfl, (.inl (gF g150))⟩ rfl (QK.skip rfl ⟨2, 40, true, rfl, rfl, (.inl (gF g150))⟩ rfl (QK.skip rfl ⟨2, 40, true, rfl, rfl, (.inl (gF g150))⟩ rfl (QK.skip rfl ⟨2, 40, true, rfl, rfl, (.inl (gF g150))⟩ rfl (QK.skip rfl ⟨2, 40, true, rfl, rfl, (.inl (gF g150))⟩ rfl (QK.skip rfl ⟨2, 40, true, rfl, rfl, (.inl (gF g150))⟩ rfl (QK.skip rfl ⟨2, 40, true, rfl, rfl, (.inl (gF g150))⟩ rfl (QK.skip rfl ⟨2, 40, true, rfl, rfl, (.inl (gF g150))⟩ rfl (QK.skip rfl ⟨2, 40, true, rfl, rfl, (.inl (gF g150))⟩ rfl ?_)))))))))))))))
       refine QK.skip rfl ⟨2, 40, true, rfl, rfl, (.inl (gF g150))⟩ rfl (QK.skip rfl ⟨15, 53, false, rfl, rfl, (.inr rfl)⟩ rfl (QK.skip rfl ⟨15, 53, false, rfl, rfl, (.inr rfl)⟩ rfl (QK.skip rfl ⟨15, 53, false, rfl, rfl, (.inr rfl)⟩ rfl (QK.skip rfl ⟨15, 53, false, rfl, rfl, (.inr rfl)⟩ rfl (QK.skip rfl ⟨15, 53, false, rfl, rfl, (.inr rfl)⟩ rfl (QK.skip rfl ⟨15, 53, false, rfl, rfl, (.inr rfl)⟩ rfl (QK.skip rfl ⟨15, 53, false, rfl, rfl, (.inr rfl)⟩ rfl (QK.skip rfl ⟨15, 53, false, rfl, rfl, (.inr rfl)⟩ rfl (QK.skip rfl ⟨15, 53, false, rfl, rfl, (.inr rfl)⟩ rfl (QK.skip rfl ⟨15, 53, false, rfl, rfl, (.inr rfl)⟩ rfl (QK.skip rfl ⟨15, 53, false, rfl, rfl, (.inr rfl)⟩ rfl (QK.skip rfl ⟨15, 53, false, rfl, rfl, (.inr rfl)⟩ rfl (QK.skip rfl ⟨15, 53, false, rfl, rfl, (.inr rfl)⟩ rfl (QK.skip rfl ⟨28, 66, true, rfl, rfl, (.inr rfl)⟩ rfl (QK.skip rfl ⟨28, 66, true, rfl, rfl, (.inr rfl)⟩ rfl ?_)))))))))))))))
       refine QK.skip rfl ⟨28, 66, true, rfl, rfl, (.inr rfl)⟩ rfl (QK.skip rfl ⟨28, 66, true, rfl, rfl, (.inr rfl)⟩ rfl (QK.skip rfl ⟨28, 66, true, rfl, rfl, (.inr rfl)⟩ rfl (QK.skip rfl ⟨28, 66, true, rfl, rfl, (.inr rfl)⟩ rfl (QK.skip rfl ⟨28, 66, true, rfl, rfl, (.inr rfl)⟩ rfl (QK.skip rfl ⟨28, 66, true, rfl, rfl, (.inr rfl)⟩ rfl (QK.skip rfl ⟨28, 66, true, rfl, rfl, (.inr rfl)⟩ rfl (QK.skip rfl ⟨28, 66, true, rfl, rfl, (.inr rfl)⟩ rfl (QK.skip rfl ⟨28, 66, true, rfl, rfl, (.inr rfl)⟩ rfl (QK.skip rfl ⟨28, 66, true, rfl, rfl, (.inr rfl)⟩ rfl (QK.skip rfl ⟨15, 53, false, rfl, rfl, (.inr rfl)⟩ rfl (QK.skip rfl ⟨2, 40, true, rfl, rfl, (.inl (gF g150))⟩ rfl (qr rfl rfl (q_pick_f rfl rfl g150 rfl) (QK.nil (SOps.sub (st' := ⟨[(3, .c (.own 0 o0_128.length)), (7, ci j_127), (33, ci (((o0_1).length : Int))), (34, ci t34_55), (81, .c (.bool false))], [aSPosition 32 o0_128]⟩) (sub_gen [0] rfl rfl (zall rfl rfl) ⟨oa rfl, trivial⟩) (SOps.nil ?_)))))))))))))))
       refine SCode.cond_f rfl rfl (SCode.exit ?_)
       exact ⟨o0_128, h, sub_gen [0] rfl rfl (zall rfl rfl) ⟨oa rfl, trivial⟩⟩
      rintro ⟨⟩ h
      show SCode _ _ _ S54 _
      try dsimp only at h
      unfold chargenetref49_Positions_own_p149 at h
      refine SCode.seq (SCode.block ?_)
      obtain ⟨g145, h⟩ := guard_out h
      obtain ⟨g146, h⟩ := guard_out h
      obtain ⟨g147, h⟩ := guard_out h
      obtain ⟨g148, h⟩ := guard_out h
      let ob215 : Ob := aSPosition 32 (o0_128.set ((IntKind.wrap .i64 (j_127 - 1)).toNat) (o0_128.getD j_127.toNat dSPosition))
      let ob216 : Ob := aSPosition 32 ((o0_128.set ((IntKind.wrap .i64 (j_127 - 1)).toNat) (o0_128.getD j_127.toNat dSPosition)).set j_127.toNat (o0_128.getD ((IntKind.wrap .i64 (j_127 - 1)).toNat) dSPosition))
      let y1 := IntKind.wrap .i64 (j_127 - 1)
      let y2 := (o0_128.set (y1.toNat) (o0_128.getD j_127.toNat dSPosition)).set j_127.toNat (o0_128.getD (y1.toNat) dSPosition)
      refine SCode.draw2 (sH := [(98, .c (.aptr 0 3 (y1.toNat) 0)), (97, .a (bSPosition (o0_128.getD (y1.toNat) dSPosition))), (96, .c (.aptr 0 3 (y1.toNat) 0)), (95, ci y1), (94, ci j_127), (93, .c (.own 0 o0_128.length)), (92, .a (bSPosition (o0_128.getD j_127.toNat dSPosition))), (91, .c (.aptr 0 3 j_127.toNat 0)), (90, ci j_127), (89, .c (.own 0 o0_128.length)), (88, ci j_127), (87, .c (.own 0 o0_128.length)), (86, ci y1), (85, ci j_127), (84, .c (.own 0 o0_128.length)), (3, .c (.own 0 o0_128.length)), (7, ci j_127), (33, ci (((o0_1).length : Int))), (34, ci t34_55)]) mixed [[], [], [1], [], [], [], [], [5, 6], [5, 6, 7], [], [], [10], [9, 10, 11], [9, 10, 11, 12], [0, 1, 2, 5, 6, 7, 8, 9, 10, 11, 12, 13], [0, 1, 2, 5, 6, 7, 8, 9, 10, 11, 12, 13, 14], [0, 1, 2, 3, 4, 5, 6, 7, 8, 9, 10, 11, 12, 13, 14, 15], [0, 1, 2, 3, 4, 5, 6, 7, 8, 9, 10, 11, 12, 13, 14, 15, 16]] [15, 16, 17] (fun h => List.getD [[], [], [], [0], [0]] h []) rfl ?_ ⟨[(3, .c (.own 0 y2.length)), (7, ci j_127), (33, ci (((o0_1).length : Int))), (34, ci t34_55)], [aSPosition 32 y2]⟩ ?_ ?_
      ·refine HChain.run rfl rfl (.plain rfl) rfl (fun f x => q_move rfl rfl) (HChain.run rfl rfl (.plain rfl) rfl (fun f x => q_move rfl rfl) (HChain.run rfl rfl (.plain rfl) rfl (fun f x => q_sub rfl rfl rfl) (HChain.run rfl rfl (.plain rfl) rfl (fun f x => q_move rfl rfl) (HChain.run rfl rfl (.plain rfl) rfl (fun f x => q_move rfl rfl) (HChain.run rfl rfl (.plain rfl) rfl (fun f x => q_move rfl rfl) (HChain.run rfl rfl (.plain rfl) rfl (fun f x => q_move rfl rfl) (HChain.run rfl rfl (.plain rfl) rfl (fun f x => q_index_own rfl rfl rfl sl29 g145.1 g145.2) (HChain.run rfl rfl (.plain rfl) rfl (fun f x => q_load_aptr_all rfl rfl rfl (toNat_lt g145) rfl ty32) (HChain.run rfl rfl (.plain rfl) rfl (fun f x => q_move rfl rfl) (HChain.run rfl rfl (.plain rfl) rfl (fun f x => q_move rfl rfl) (HChain.run rfl rfl (.plain rfl) rfl (fun f x => q_sub rfl rfl rfl) (HChain.run rfl rfl (.plain rfl) rfl (fun f x => q_index_own rfl rfl rfl sl29 g146.1 g146.2) (HChain.run rfl rfl (.plain rfl) rfl (fun f x => q_load_aptr_all rfl rfl rfl (toNat_lt g146) rfl ty32) (HChain.run rfl rfl (.plain rfl) rfl (fun f x => q_index_own rfl rfl rfl sl29 g147.1 g147.2) (HChain.tail rfl ?_)))))))))))))))
       refine HChain.tail rfl (HChain.tail rfl ?_)
       exact HChain.nil _ _
      ·refine t1 15 rfl (TStep.n (objs' := [ob215]) [0] rfl rfl rfl rfl (fun s2 => by refine EOp.eq (e_storeL (o0_128.getD j_127.toNat dSPosition) rfl rfl rfl rfl rfl (toNat_lt g147) ty32 rfl rfl rfl rfl rfl rfl) ?_; rfl) ⟨rfl, ⟨trivial, .inl rfl⟩, ?_⟩)
       refine t1 16 rfl (td (objs' := [ob215]) (v := .c (.aptr 0 3 j_127.toNat 0)) 99 rfl rfl rfl rfl rfl (fun _ => EOp.eq (EOp.qd rfl rfl (q_index_own rfl rfl rfl sl29 g148.1 (lenlt (List.length_set : (o0_128.set ((IntKind.wrap .i64 (j_127 - 1)).toNat) (o0_128.getD j_127.toNat dSPosition)).length = o0_128.length) g148.2))) rfl) rfl rfl ?_)
       refine t1 17 rfl (TStep.n (objs' := [ob216]) [0] rfl rfl rfl rfl (fun s2 => by refine EOp.eq (e_storeL (o0_128.getD ((IntKind.wrap .i64 (j_127 - 1)).toNat) dSPosition) rfl rfl rfl rfl rfl (toNat_lt g148) ty32 rfl rfl rfl rfl rfl rfl) ?_; rfl) ⟨rfl, ⟨trivial, .inl rfl⟩, ?_⟩)
       let y3 := o0_128.set ((IntKind.wrap .i64 (j_127 - 1)).toNat) (o0_128.getD j_127.toNat dSPosition)
       exact tl rfl (sub_gen [0] rfl rfl ⟨⟨_, rfl, .inl ⟨rfl, congrArg (Cell.own 0) ((List.length_set : (y3.set j_127.toNat (o0_128.getD ((IntKind.wrap .i64 (j_127 - 1)).toNat) dSPosition)).length = y3.length).trans (List.length_set : y3.length = o0_128.length)).symm⟩⟩, zc rfl rfl, zc rfl rfl, zc rfl rfl, trivial⟩ ⟨oa rfl, trivial⟩)
      refine SCode.region (sm rfl rfl (sq rfl rfl (q_sub rfl rfl rfl) (sa rfl rfl (SOps.nil ?_))))
      exact ⟨(n_144, (IntKind.wrap .i64 (j_127 - 1), (o0_128.set ((IntKind.wrap .i64 (j_127 - 1)).toNat) (o0_128.getD j_127.toNat dSPosition)).set j_127.toNat (o0_128.getD ((IntKind.wrap .i64 (j_127 - 1)).toNat) dSPosition))), h, Nat.lt_succ_self n_144, sub_gen [0] rfl rfl (zall rfl rfl) ⟨oa rfl, trivial⟩⟩
    rintro o0_110 h
    show SCode _ _ _ (S56 o0_110) _
    try dsimp only at h
    unfold chargenetref49_Positions_own_p111 at h
    refine SCode.region (sq rfl rfl (q_add rfl rfl rfl) (sm rfl rfl (SOps.nil ?_)))
    exact ⟨(n_108, (IntKind.wrap .i64 (t34_55 + 1), o0_110)), h, Nat.lt_succ_self n_108, sub_gen [0] rfl rfl (zall rfl rfl) ⟨oa rfl, trivial⟩⟩
   refine SCode.cond_f rfl g109 (SCode.exit ?_)
   exact ⟨o0_56, h, sub_gen [0] rfl rfl (zall rfl rfl) ⟨oa rfl, trivial⟩⟩
 rintro o0_2 h
 show SCode _ _ _ (S58 o0_2) _
 try dsimp only at h
 unfold chargenetref49_Positions_own_p3 at h
 refine SCode.seq (SCode.region (sm rfl rfl (sa rfl rfl (SOps.nil (SCode.ret ?_)))))
 obtain rfl := Option.some.inj h
 exact ⟨⟨[(2, .c (.own 0 o0_2.length))], [aSPosition 32 o0_2]⟩, _, sub_gen [0] rfl rfl (zall rfl rfl) ⟨oa rfl, trivial⟩, resA1 (v := .c (.own 0 o0_2.length)) rfl rfl, ⟨rfl, rfl⟩⟩
end Go.Proofs.Ytoncfkdgddfnlaa.W
