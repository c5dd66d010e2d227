/- Written by a program of ours (wip/eng/gen.py): the functions compute their models. -/
import Derived.Test.YtoncfkdgddfnlaaFacts
import Derived.Test.YtoncfkdgddfnlaaV7x1
namespace Go.Proofs.Ytoncfkdgddfnlaa.W
open Go Go.Proofs Go.Proofs.Ytoncfkdgddfnlaa.E Go.Proofs.Ytoncfkdgddfnlaa.M
set_option linter.unusedVariables false
set_option maxRecDepth 100000
set_option maxHeartbeats 8000000
theorem chargenetref01_Value_ok (F : Nat) (a0_c : Int) (r : Int) (h : chargenetref01_Value F a0_c = some r) :
  SFun Try.prog 44 [] [.c (.int .u8 a0_c)] (fun x _ => x = ci r) := by
 refine SFun.of (n := 14) Try.func44 rfl rfl rfl ?_
 unfold chargenetref01_Value at h
 show SCode _ _ _ ⟨[(0, .c (.int .u8 a0_c))], []⟩ _
 refine SCode.seq (SCode.region (sa rfl rfl (SOps.nil ?_)))
 let S3 := (⟨[], []⟩ : St)
 refine SCode.join (σ := Unit) (S := fun s => S3) (g := fun s => chargenetref01_Value_p1 = some r) ?_ ?_
 rotate_left
 ·refine SCode.seq (SCode.region (sa rfl rfl (SOps.nil (SCode.block ?_))))
  let S2 := fun (v_7 : Int) => (⟨[(0, .c (.int .u8 a0_c)), (3, ci v_7)], []⟩ : St)
  refine SCode.sub (st' := (S2 0)) (sub_gen [] rfl rfl (zall rfl rfl) trivial) ?_
  refine (SCode.loop (σ := Nat × Int) (S := fun s => (S2 s.2)) (g := fun s => chargenetref01_Value_l13 F a0_c s.1 s.2 = some r) (μ := fun s => s.1) (F, 0) h ?_)
  rintro ⟨n_13, v_7⟩ h
  try dsimp only at h
  show SCode _ _ _ (S2 v_7) _
  cases n_13 with
  | zero => cases h
  | succ n_13 =>
   rw [chargenetref01_Value_l13] at h
   unfold chargenetref01_Value_b13 at h
   refine SCode.seq (SCode.seq (SCode.region (sm rfl rfl (sq rfl rfl (q_lss rfl rfl rfl) (SOps.nil ?_)))))
   rcases cond_out h with ⟨g14, h⟩ | ⟨g14, h⟩
   ·refine SCode.cond_t rfl g14 (SCode.skip (SCode.seq (SCode.block (SCode.seq (SCode.sub (st' := ⟨[(0, .c (.int .u8 a0_c)), (3, ci v_7)], []⟩) (sub_gen [] rfl rfl (zall rfl rfl) trivial) ?_)))))
    obtain ⟨g15, h⟩ := guard_out h
    obtain ⟨c_16, g17, h⟩ := bind_out h
    try dsimp only at h
    refine SCode.drawK mixed [[], [0], [], [2], [0, 1, 2, 3]] 5 0 rfl rfl (qm rfl rfl (qr rfl rfl (q_index_str rfl rfl rfl un9 g15.1 g15.2) (qm rfl rfl (qr rfl rfl (q_call (chargenetref01_Capital_ok F a0_c c_16 g17) [] rfl fn53 ⟨⟨_, rfl, .inl ⟨rfl, rfl⟩⟩, trivial⟩ (.inl rfl)) (qr rfl rfl (q_eql rfl rfl rfl) (QK.nil (SOps.sub (st' := ⟨[(0, .c (.int .u8 a0_c)), (3, ci v_7), (12, .c (.bool (decide (sGet (ByteArray.mk #[48, 49, 50, 51, 52, 53, 54, 55, 56, 57, 65, 66, 67, 68, 69, 70, 71, 72, 73, 74, 75, 76, 77, 78, 79, 80, 81, 82, 83, 84, 85, 86, 87, 88, 89, 90]) v_7.toNat = c_16))))], []⟩) (sub_gen [] rfl rfl (zall rfl rfl) trivial) (SOps.nil ?_))))))))
    rcases cond_out h with ⟨g18, h⟩ | ⟨g18, h⟩
    ·refine SCode.cond_t rfl g18 (SCode.seq (SCode.region (sm rfl rfl (sa rfl rfl (SOps.nil (SCode.ret ?_))))))
     obtain rfl := Option.some.inj h
     exact ⟨⟨[(2, ci v_7)], []⟩, _, sub_gen [] rfl rfl (zall rfl rfl) trivial, resA1 (v := .c (.int .i64 v_7)) rfl rfl, rfl⟩
    refine SCode.cond_f rfl g18 (SCode.skip (SCode.region (sm rfl rfl (sq rfl rfl (q_add rfl rfl rfl) (sa rfl rfl (SOps.nil ?_))))))
    exact ⟨(n_13, IntKind.wrap .i64 (v_7 + 1)), h, Nat.lt_succ_self n_13, sub_gen [] rfl rfl (zall rfl rfl) trivial⟩
   refine SCode.cond_f rfl g14 (SCode.exit ?_)
   exact ⟨(), h, sub_gen [] rfl rfl trivial trivial⟩
 rintro ⟨⟩ h
 show SCode _ _ _ S3 _
 try dsimp only at h
 unfold chargenetref01_Value_p1 at h
 refine SCode.seq (SCode.region (sa rfl rfl (SOps.nil (SCode.ret ?_))))
 obtain rfl := Option.some.inj h
 exact ⟨⟨[(2, ci ((-1)))], []⟩, _, sub_gen [] rfl rfl (zall rfl rfl) trivial, resA1 (v := .c (.int .i64 ((-1)))) rfl rfl, rfl⟩
theorem chargenetref01_Valid_ok (F : Nat) (a0_s : ByteArray) (r : Bool) (h : chargenetref01_Valid F a0_s = some r) :
  SFun Try.prog 24 [] [.c (.str a0_s)] (fun x _ => x = .c (.bool r)) := by
 refine SFun.of (n := 45) Try.func24 rfl rfl rfl ?_
 unfold chargenetref01_Valid at h
 show SCode _ _ _ ⟨[(0, .c (.str a0_s))], []⟩ _
 refine SCode.seq (SCode.region (sa rfl rfl (SOps.nil (SCode.seq (SCode.seq ?_)))))
 rcases cond_out h with ⟨g1, h⟩ | ⟨g1, h⟩
 ·refine SCode.region (sm rfl rfl (sq rfl rfl (q_len_str rfl rfl un9) (sq rfl rfl (q_lss rfl rfl rfl) (sm rfl rfl (SOps.skip rfl 3 8 false rfl rfl (.inl (gT g1)) rfl (SOps.skip rfl 3 8 false rfl rfl (.inl (gT g1)) rfl (SOps.skip rfl 3 8 false rfl rfl (.inl (gT g1)) rfl (sq rfl rfl (q_pick_t rfl rfl g1 rfl) (SOps.nil (SCode.cond_t rfl rfl (SCode.seq (SCode.region (sa rfl rfl (SOps.nil (SCode.ret ?_)))))))))))))))
  obtain rfl := Option.some.inj h
  exact ⟨⟨[(2, .c (.bool false))], []⟩, _, sub_gen [] rfl rfl (zall rfl rfl) trivial, resA1 (v := .c (.bool false)) rfl rfl, rfl⟩
 refine SCode.region (sm rfl rfl (sq rfl rfl (q_len_str rfl rfl un9) (sq rfl rfl (q_lss rfl rfl rfl) (sm rfl rfl (SOps.q rfl (.guard 3 8 false rfl rfl (gF g1)) rfl (q_move rfl rfl) (SOps.q rfl (.guard 3 8 false rfl rfl (gF g1)) rfl (q_len_str rfl rfl un9) (SOps.q rfl (.guard 3 8 false rfl rfl (gF g1)) rfl (q_gtr rfl rfl rfl) (sq rfl rfl (q_pick_f rfl rfl g1 rfl) (SOps.nil ?_)))))))))
 rcases cond_out h with ⟨g2, h⟩ | ⟨g2, h⟩
 ·refine SCode.cond_t rfl g2 (SCode.seq (SCode.region (sa rfl rfl (SOps.nil (SCode.ret ?_)))))
  obtain rfl := Option.some.inj h
  exact ⟨⟨[(2, .c (.bool false))], []⟩, _, sub_gen [] rfl rfl (zall rfl rfl) trivial, resA1 (v := .c (.bool false)) rfl rfl, rfl⟩
 refine SCode.cond_f rfl g2 (SCode.skip ?_)
 let S9 := (⟨[], []⟩ : St)
 refine SCode.join (σ := Unit) (S := fun s => S9) (g := fun s => chargenetref01_Valid_p3 = some r) ?_ ?_
 rotate_left
 ·refine SCode.seq (SCode.region (sa rfl rfl (SOps.nil (SCode.block ?_))))
  let S8 := fun (i_15 : Int) => (⟨[(0, .c (.str a0_s)), (3, ci i_15)], []⟩ : St)
  refine SCode.sub (st' := (S8 0)) (sub_gen [] rfl rfl (zall rfl rfl) trivial) ?_
  refine (SCode.loop (σ := Nat × Int) (S := fun s => (S8 s.2)) (g := fun s => chargenetref01_Valid_l27 F a0_s s.1 s.2 = some r) (μ := fun s => s.1) (F, 0) h ?_)
  rintro ⟨n_27, i_15⟩ h
  try dsimp only at h
  show SCode _ _ _ (S8 i_15) _
  cases n_27 with
  | zero => cases h
  | succ n_27 =>
   rw [chargenetref01_Valid_l27] at h
   unfold chargenetref01_Valid_b27 at h
   refine SCode.seq (SCode.seq (SCode.region (sm rfl rfl (sm rfl rfl (sq rfl rfl (q_len_str rfl rfl un9) (sq rfl rfl (q_lss rfl rfl rfl) (SOps.nil ?_)))))))
   rcases cond_out h with ⟨g28, h⟩ | ⟨g28, h⟩
   ·refine SCode.cond_t rfl g28 (SCode.skip ?_)
    let S7 := (⟨[(0, .c (.str a0_s)), (3, ci i_15)], []⟩ : St)
    refine SCode.join (σ := Unit) (S := fun s => S7) (g := fun s => chargenetref01_Valid_p29 i_15 (fun i_15 => chargenetref01_Valid_l27 F a0_s n_27 i_15) = some r) ?_ ?_
    rotate_left
    ·refine SCode.block (SCode.seq ?_)
     obtain ⟨g30, h⟩ := guard_out h
     refine SCode.region (sm rfl rfl (sm rfl rfl (sq rfl rfl (q_index_str rfl rfl rfl un9 g30.1 g30.2) (sa rfl rfl (SOps.nil (SCode.seq ?_))))))
     obtain ⟨c_31, g32, h⟩ := bind_out h
     try dsimp only at h
     rcases cond_out h with ⟨g33, h⟩ | ⟨g33, h⟩
     ·rcases cond_out h with ⟨g34, h⟩ | ⟨g34, h⟩
      ·rcases cond_out h with ⟨g35, h⟩ | ⟨g35, h⟩
       ·rcases cond_out h with ⟨g36, h⟩ | ⟨g36, h⟩
        ·rcases cond_out h with ⟨g37, h⟩ | ⟨g37, h⟩
         ·refine SCode.region (sm rfl rfl (sq rfl rfl (q_call (chargenetref01_Value_ok F (sGet a0_s i_15.toNat) c_31 g32) [] rfl fn44 ⟨⟨_, rfl, .inl ⟨rfl, rfl⟩⟩, trivial⟩ (.inl rfl)) (sq rfl rfl (q_lss rfl rfl rfl) (sm rfl rfl (SOps.q rfl (.guard 3 25 true rfl rfl (gT g33)) rfl (q_move rfl rfl) (SOps.q rfl (.guard 3 25 true rfl rfl (gT g33)) rfl (q_neq rfl rfl rfl) (sq rfl rfl (q_pick_t rfl rfl g33 rfl) (sm rfl rfl (SOps.q rfl (.guard 7 29 true rfl rfl (gT g34)) rfl (q_move rfl rfl) (SOps.q rfl (.guard 7 29 true rfl rfl (gT g34)) rfl (q_neq rfl rfl rfl) (sq rfl rfl (q_pick_t rfl rfl g34 rfl) (sm rfl rfl (SOps.q rfl (.guard 11 33 true rfl rfl (gT g35)) rfl (q_move rfl rfl) (SOps.q rfl (.guard 11 33 true rfl rfl (gT g35)) rfl (q_neq rfl rfl rfl) (sq rfl rfl (q_pick_t rfl rfl g35 rfl) ?_)))))))))))))))
          refine sm rfl rfl (SOps.q rfl (.guard 15 37 true rfl rfl (gT g36)) rfl (q_move rfl rfl) (SOps.q rfl (.guard 15 37 true rfl rfl (gT g36)) rfl (q_neq rfl rfl rfl) (sq rfl rfl (q_pick_t rfl rfl g36 rfl) (sm rfl rfl (SOps.q rfl (.guard 19 41 true rfl rfl (gT g37)) rfl (q_move rfl rfl) (SOps.q rfl (.guard 19 41 true rfl rfl (gT g37)) rfl (q_neq rfl rfl rfl) (sq rfl rfl (q_pick_t rfl rfl g37 rfl) (SOps.sub (st' := ⟨[(0, .c (.str a0_s)), (3, ci i_15), (44, .c (.bool ((!decide (sGet a0_s i_15.toNat = 42)))))], []⟩) (sub_gen [] rfl rfl (zall rfl rfl) trivial) (SOps.nil ?_)))))))))
          rcases cond_out h with ⟨g38, h⟩ | ⟨g38, h⟩
          ·refine SCode.cond_t rfl g38 (SCode.seq (SCode.region (sa rfl rfl (SOps.nil (SCode.ret ?_)))))
           obtain rfl := Option.some.inj h
           exact ⟨⟨[(2, .c (.bool false))], []⟩, _, sub_gen [] rfl rfl (zall rfl rfl) trivial, resA1 (v := .c (.bool false)) rfl rfl, rfl⟩
          refine SCode.cond_f rfl g38 (SCode.skip ?_)
          exact ⟨(), h, sub_gen [] rfl rfl (zall rfl rfl) trivial⟩
         refine SCode.region (sm rfl rfl (sq rfl rfl (q_call (chargenetref01_Value_ok F (sGet a0_s i_15.toNat) c_31 g32) [] rfl fn44 ⟨⟨_, rfl, .inl ⟨rfl, rfl⟩⟩, trivial⟩ (.inl rfl)) (sq rfl rfl (q_lss rfl rfl rfl) (sm rfl rfl (SOps.q rfl (.guard 3 25 true rfl rfl (gT g33)) rfl (q_move rfl rfl) (SOps.q rfl (.guard 3 25 true rfl rfl (gT g33)) rfl (q_neq rfl rfl rfl) (sq rfl rfl (q_pick_t rfl rfl g33 rfl) (sm rfl rfl (SOps.q rfl (.guard 7 29 true rfl rfl (gT g34)) rfl (q_move rfl rfl) (SOps.q rfl (.guard 7 29 true rfl rfl (gT g34)) rfl (q_neq rfl rfl rfl) (sq rfl rfl (q_pick_t rfl rfl g34 rfl) (sm rfl rfl (SOps.q rfl (.guard 11 33 true rfl rfl (gT g35)) rfl (q_move rfl rfl) (SOps.q rfl (.guard 11 33 true rfl rfl (gT g35)) rfl (q_neq rfl rfl rfl) (sq rfl rfl (q_pick_t rfl rfl g35 rfl) ?_)))))))))))))))
         refine sm rfl rfl (SOps.q rfl (.guard 15 37 true rfl rfl (gT g36)) rfl (q_move rfl rfl) (SOps.q rfl (.guard 15 37 true rfl rfl (gT g36)) rfl (q_neq rfl rfl rfl) (sq rfl rfl (q_pick_t rfl rfl g36 rfl) (sm rfl rfl (SOps.skip rfl 19 41 true rfl rfl (.inl (gF g37)) rfl (SOps.skip rfl 19 41 true rfl rfl (.inl (gF g37)) rfl (sq rfl rfl (q_pick_f rfl rfl g37 rfl) (SOps.sub (st' := ⟨[(0, .c (.str a0_s)), (3, ci i_15), (44, .c (.bool false))], []⟩) (sub_gen [] rfl rfl (zall rfl rfl) trivial) (SOps.nil (SCode.cond_f rfl rfl (SCode.skip ?_)))))))))))
         exact ⟨(), h, sub_gen [] rfl rfl (zall rfl rfl) trivial⟩
        refine SCode.region (sm rfl rfl (sq rfl rfl (q_call (chargenetref01_Value_ok F (sGet a0_s i_15.toNat) c_31 g32) [] rfl fn44 ⟨⟨_, rfl, .inl ⟨rfl, rfl⟩⟩, trivial⟩ (.inl rfl)) (sq rfl rfl (q_lss rfl rfl rfl) (sm rfl rfl (SOps.q rfl (.guard 3 25 true rfl rfl (gT g33)) rfl (q_move rfl rfl) (SOps.q rfl (.guard 3 25 true rfl rfl (gT g33)) rfl (q_neq rfl rfl rfl) (sq rfl rfl (q_pick_t rfl rfl g33 rfl) (sm rfl rfl (SOps.q rfl (.guard 7 29 true rfl rfl (gT g34)) rfl (q_move rfl rfl) (SOps.q rfl (.guard 7 29 true rfl rfl (gT g34)) rfl (q_neq rfl rfl rfl) (sq rfl rfl (q_pick_t rfl rfl g34 rfl) (sm rfl rfl (SOps.q rfl (.guard 11 33 true rfl rfl (gT g35)) rfl (q_move rfl rfl) (SOps.q rfl (.guard 11 33 true rfl rfl (gT g35)) rfl (q_neq rfl rfl rfl) (sq rfl rfl (q_pick_t rfl rfl g35 rfl) ?_)))))))))))))))
        refine sm rfl rfl (SOps.skip rfl 15 37 true rfl rfl (.inl (gF g36)) rfl (SOps.skip rfl 15 37 true rfl rfl (.inl (gF g36)) rfl (sq rfl rfl (q_pick_f rfl rfl g36 rfl) (sm rfl rfl (SOps.skip rfl 19 41 true rfl rfl (.inl rfl) rfl (SOps.skip rfl 19 41 true rfl rfl (.inl rfl) rfl (sq rfl rfl (q_pick_f rfl rfl rfl rfl) (SOps.sub (st' := ⟨[(0, .c (.str a0_s)), (3, ci i_15), (44, .c (.bool false))], []⟩) (sub_gen [] rfl rfl (zall rfl rfl) trivial) (SOps.nil (SCode.cond_f rfl rfl (SCode.skip ?_)))))))))))
        exact ⟨(), h, sub_gen [] rfl rfl (zall rfl rfl) trivial⟩
       refine SCode.region (sm rfl rfl (sq rfl rfl (q_call (chargenetref01_Value_ok F (sGet a0_s i_15.toNat) c_31 g32) [] rfl fn44 ⟨⟨_, rfl, .inl ⟨rfl, rfl⟩⟩, trivial⟩ (.inl rfl)) (sq rfl rfl (q_lss rfl rfl rfl) (sm rfl rfl (SOps.q rfl (.guard 3 25 true rfl rfl (gT g33)) rfl (q_move rfl rfl) (SOps.q rfl (.guard 3 25 true rfl rfl (gT g33)) rfl (q_neq rfl rfl rfl) (sq rfl rfl (q_pick_t rfl rfl g33 rfl) (sm rfl rfl (SOps.q rfl (.guard 7 29 true rfl rfl (gT g34)) rfl (q_move rfl rfl) (SOps.q rfl (.guard 7 29 true rfl rfl (gT g34)) rfl (q_neq rfl rfl rfl) (sq rfl rfl (q_pick_t rfl rfl g34 rfl) (sm rfl rfl (SOps.skip rfl 11 33 true rfl rfl (.inl (gF g35)) rfl (SOps.skip rfl 11 33 true rfl rfl (.inl (gF g35)) rfl (sq rfl rfl (q_pick_f rfl rfl g35 rfl) ?_)))))))))))))))
       refine sm rfl rfl (SOps.skip rfl 15 37 true rfl rfl (.inl rfl) rfl (SOps.skip rfl 15 37 true rfl rfl (.inl rfl) rfl (sq rfl rfl (q_pick_f rfl rfl rfl rfl) (sm rfl rfl (SOps.skip rfl 19 41 true rfl rfl (.inl rfl) rfl (SOps.skip rfl 19 41 true rfl rfl (.inl rfl) rfl (sq rfl rfl (q_pick_f rfl rfl rfl rfl) (SOps.sub (st' := ⟨[(0, .c (.str a0_s)), (3, ci i_15), (44, .c (.bool false))], []⟩) (sub_gen [] rfl rfl (zall rfl rfl) trivial) (SOps.nil (SCode.cond_f rfl rfl (SCode.skip ?_)))))))))))
       exact ⟨(), h, sub_gen [] rfl rfl (zall rfl rfl) trivial⟩
      refine SCode.region (sm rfl rfl (sq rfl rfl (q_call (chargenetref01_Value_ok F (sGet a0_s i_15.toNat) c_31 g32) [] rfl fn44 ⟨⟨_, rfl, .inl ⟨rfl, rfl⟩⟩, trivial⟩ (.inl rfl)) (sq rfl rfl (q_lss rfl rfl rfl) (sm rfl rfl (SOps.q rfl (.guard 3 25 true rfl rfl (gT g33)) rfl (q_move rfl rfl) (SOps.q rfl (.guard 3 25 true rfl rfl (gT g33)) rfl (q_neq rfl rfl rfl) (sq rfl rfl (q_pick_t rfl rfl g33 rfl) (sm rfl rfl (SOps.skip rfl 7 29 true rfl rfl (.inl (gF g34)) rfl (SOps.skip rfl 7 29 true rfl rfl (.inl (gF g34)) rfl (sq rfl rfl (q_pick_f rfl rfl g34 rfl) (sm rfl rfl (SOps.skip rfl 11 33 true rfl rfl (.inl rfl) rfl (SOps.skip rfl 11 33 true rfl rfl (.inl rfl) rfl (sq rfl rfl (q_pick_f rfl rfl rfl rfl) ?_)))))))))))))))
      refine sm rfl rfl (SOps.skip rfl 15 37 true rfl rfl (.inl rfl) rfl (SOps.skip rfl 15 37 true rfl rfl (.inl rfl) rfl (sq rfl rfl (q_pick_f rfl rfl rfl rfl) (sm rfl rfl (SOps.skip rfl 19 41 true rfl rfl (.inl rfl) rfl (SOps.skip rfl 19 41 true rfl rfl (.inl rfl) rfl (sq rfl rfl (q_pick_f rfl rfl rfl rfl) (SOps.sub (st' := ⟨[(0, .c (.str a0_s)), (3, ci i_15), (44, .c (.bool false))], []⟩) (sub_gen [] rfl rfl (zall rfl rfl) trivial) (SOps.nil (SCode.cond_f rfl rfl (SCode.skip ?_)))))))))))
      exact ⟨(), h, sub_gen [] rfl rfl (zall rfl rfl) trivial⟩
     refine SCode.region (sm rfl rfl (sq rfl rfl (q_call (chargenetref01_Value_ok F (sGet a0_s i_15.toNat) c_31 g32) [] rfl fn44 ⟨⟨_, rfl, .inl ⟨rfl, rfl⟩⟩, trivial⟩ (.inl rfl)) (sq rfl rfl (q_lss rfl rfl rfl) (sm rfl rfl (SOps.skip rfl 3 25 true rfl rfl (.inl (gF g33)) rfl (SOps.skip rfl 3 25 true rfl rfl (.inl (gF g33)) rfl (sq rfl rfl (q_pick_f rfl rfl g33 rfl) (sm rfl rfl (SOps.skip rfl 7 29 true rfl rfl (.inl rfl) rfl (SOps.skip rfl 7 29 true rfl rfl (.inl rfl) rfl (sq rfl rfl (q_pick_f rfl rfl rfl rfl) (sm rfl rfl (SOps.skip rfl 11 33 true rfl rfl (.inl rfl) rfl (SOps.skip rfl 11 33 true rfl rfl (.inl rfl) rfl (sq rfl rfl (q_pick_f rfl rfl rfl rfl) ?_)))))))))))))))
     refine sm rfl rfl (SOps.skip rfl 15 37 true rfl rfl (.inl rfl) rfl (SOps.skip rfl 15 37 true rfl rfl (.inl rfl) rfl (sq rfl rfl (q_pick_f rfl rfl rfl rfl) (sm rfl rfl (SOps.skip rfl 19 41 true rfl rfl (.inl rfl) rfl (SOps.skip rfl 19 41 true rfl rfl (.inl rfl) rfl (sq rfl rfl (q_pick_f rfl rfl rfl rfl) (SOps.sub (st' := ⟨[(0, .c (.str a0_s)), (3, ci i_15), (44, .c (.bool false))], []⟩) (sub_gen [] rfl rfl (zall rfl rfl) trivial) (SOps.nil (SCode.cond_f rfl rfl (SCode.skip ?_)))))))))))
     exact ⟨(), h, sub_gen [] rfl rfl (zall rfl rfl) trivial⟩
    rintro ⟨⟩ h
    show SCode _ _ _ S7 _
    try dsimp only at h
    unfold chargenetref01_Valid_p29 at h
    refine SCode.region (sm rfl rfl (sq rfl rfl (q_add rfl rfl rfl) (sa rfl rfl (SOps.nil ?_))))
    exact ⟨(n_27, IntKind.wrap .i64 (i_15 + 1)), h, Nat.lt_succ_self n_27, sub_gen [] rfl rfl (zall rfl rfl) trivial⟩
   refine SCode.cond_f rfl g28 (SCode.exit ?_)
   exact ⟨(), h, sub_gen [] rfl rfl trivial trivial⟩
 rintro ⟨⟩ h
 show SCode _ _ _ S9 _
 try dsimp only at h
 unfold chargenetref01_Valid_p3 at h
 refine SCode.seq (SCode.region (sa rfl rfl (SOps.nil (SCode.ret ?_))))
 obtain rfl := Option.some.inj h
 exact ⟨⟨[(2, .c (.bool true))], []⟩, _, sub_gen [] rfl rfl (zall rfl rfl) trivial, resA1 (v := .c (.bool true)) rfl rfl, rfl⟩
theorem chargenetref46_in_ok (F : Nat) (a0_x : Int) (a1_low : Int) (a2_high : Int) (r : Bool) (h : chargenetref46_in F a0_x a1_low a2_high = some r) :
  SFun Try.prog 34 [] [ci a0_x, ci a1_low, ci a2_high] (fun x _ => x = .c (.bool r)) := by
 refine SFun.of (n := 15) Try.func34 rfl rfl rfl ?_
 unfold chargenetref46_in at h
 show SCode _ _ _ ⟨[(0, ci a0_x), (1, ci a1_low), (2, ci a2_high)], []⟩ _
 refine SCode.seq (SCode.region (sa rfl rfl (SOps.nil (SCode.seq ?_))))
 rcases cond_out h with ⟨g1, h⟩ | ⟨g1, h⟩
 ·refine SCode.region (sm rfl rfl (sm rfl rfl (sq rfl rfl (q_geq rfl rfl rfl) (sm rfl rfl (SOps.q rfl (.guard 3 10 true rfl rfl (gT g1)) rfl (q_move rfl rfl) (SOps.q rfl (.guard 3 10 true rfl rfl (gT g1)) rfl (q_move rfl rfl) (SOps.q rfl (.guard 3 10 true rfl rfl (gT g1)) rfl (q_leq rfl rfl rfl) (sq rfl rfl (q_pick_t rfl rfl g1 rfl) (sa rfl rfl (SOps.nil (SCode.ret ?_)))))))))))
  obtain rfl := Option.some.inj h
  exact ⟨⟨[(6, .c (.bool (decide (a0_x ≤ a2_high))))], []⟩, _, sub_gen [] rfl rfl (zall rfl rfl) trivial, resA1 (v := .c (.bool (decide (a0_x ≤ a2_high)))) rfl rfl, rfl⟩
 refine SCode.region (sm rfl rfl (sm rfl rfl (sq rfl rfl (q_geq rfl rfl rfl) (sm rfl rfl (SOps.skip rfl 3 10 true rfl rfl (.inl (gF g1)) rfl (SOps.skip rfl 3 10 true rfl rfl (.inl (gF g1)) rfl (SOps.skip rfl 3 10 true rfl rfl (.inl (gF g1)) rfl (sq rfl rfl (q_pick_f rfl rfl g1 rfl) (sa rfl rfl (SOps.nil (SCode.ret ?_)))))))))))
 obtain rfl := Option.some.inj h
 exact ⟨⟨[(6, .c (.bool false))], []⟩, _, sub_gen [] rfl rfl (zall rfl rfl) trivial, resA1 (v := .c (.bool false)) rfl rfl, rfl⟩
theorem chargenetref46_currency_ok (F : Nat) (a0_s : ByteArray) (r : Bool) (h : chargenetref46_currency F a0_s = some r) :
  SFun Try.prog 35 [] [.c (.str a0_s)] (fun x _ => x = .c (.bool r)) := by
 refine SFun.of (n := 23) Try.func35 rfl rfl rfl ?_
 unfold chargenetref46_currency at h
 show SCode _ _ _ ⟨[(0, .c (.str a0_s))], []⟩ _
 refine SCode.seq (SCode.region (sa rfl rfl (SOps.nil ?_)))
 let S3 := (⟨[(0, .c (.str a0_s))], []⟩ : St)
 refine SCode.join (σ := Unit) (S := fun s => S3) (g := fun s => chargenetref46_currency_p1 a0_s = some r) ?_ ?_
 rotate_left
 ·refine SCode.seq (SCode.region (sa rfl rfl (SOps.nil (SCode.block ?_))))
  let S2 := fun (i_7 : Int) => (⟨[(0, .c (.str a0_s)), (3, ci i_7)], []⟩ : St)
  refine SCode.sub (st' := (S2 0)) (sub_gen [] rfl rfl (zall rfl rfl) trivial) ?_
  refine (SCode.loop (σ := Nat × Int) (S := fun s => (S2 s.2)) (g := fun s => chargenetref46_currency_l13 a0_s s.1 s.2 = some r) (μ := fun s => s.1) (F, 0) h ?_)
  rintro ⟨n_13, i_7⟩ h
  try dsimp only at h
  show SCode _ _ _ (S2 i_7) _
  cases n_13 with
  | zero => cases h
  | succ n_13 =>
   rw [chargenetref46_currency_l13] at h
   unfold chargenetref46_currency_b13 at h
   refine SCode.seq (SCode.seq (SCode.region (sm rfl rfl (sm rfl rfl (sq rfl rfl (q_len_str rfl rfl un9) (sq rfl rfl (q_lss rfl rfl rfl) (SOps.nil ?_)))))))
   rcases cond_out h with ⟨g14, h⟩ | ⟨g14, h⟩
   ·refine SCode.cond_t rfl g14 (SCode.skip (SCode.seq (SCode.block (SCode.seq ?_))))
    obtain ⟨g15, h⟩ := guard_out h
    rcases cond_out h with ⟨g16, h⟩ | ⟨g16, h⟩
    ·refine SCode.region (sm rfl rfl (sm rfl rfl (sq rfl rfl (q_index_str rfl rfl rfl un9 g15.1 g15.2) (sq rfl rfl (q_lss rfl rfl rfl) (sm rfl rfl (SOps.skip rfl 4 14 false rfl rfl (.inl (gT g16)) rfl (SOps.skip rfl 4 14 false rfl rfl (.inl (gT g16)) rfl (SOps.skip rfl 4 14 false rfl rfl (.inl (gT g16)) rfl (SOps.skip rfl 4 14 false rfl rfl (.inl (gT g16)) rfl (sq rfl rfl (q_pick_t rfl rfl g16 rfl) (SOps.nil (SCode.cond_t rfl rfl (SCode.seq (SCode.region (sa rfl rfl ?_)))))))))))))))
     refine SOps.nil (SCode.ret ?_)
     obtain rfl := Option.some.inj h
     exact ⟨⟨[(2, .c (.bool false))], []⟩, _, sub_gen [] rfl rfl (zall rfl rfl) trivial, resA1 (v := .c (.bool false)) rfl rfl, rfl⟩
    obtain ⟨g17, h⟩ := guard_out h
    refine SCode.region (sm rfl rfl (sm rfl rfl (sq rfl rfl (q_index_str rfl rfl rfl un9 g15.1 g15.2) (sq rfl rfl (q_lss rfl rfl rfl) (sm rfl rfl (SOps.q rfl (.guard 4 14 false rfl rfl (gF g16)) rfl (q_move rfl rfl) (SOps.q rfl (.guard 4 14 false rfl rfl (gF g16)) rfl (q_move rfl rfl) (SOps.q rfl (.guard 4 14 false rfl rfl (gF g16)) rfl (q_index_str rfl rfl rfl un9 g17.1 g17.2) (SOps.q rfl (.guard 4 14 false rfl rfl (gF g16)) rfl (q_gtr rfl rfl rfl) (sq rfl rfl (q_pick_f rfl rfl g16 rfl) (SOps.nil ?_)))))))))))
    rcases cond_out h with ⟨g18, h⟩ | ⟨g18, h⟩
    ·refine SCode.cond_t rfl g18 (SCode.seq (SCode.region (sa rfl rfl (SOps.nil (SCode.ret ?_)))))
     obtain rfl := Option.some.inj h
     exact ⟨⟨[(2, .c (.bool false))], []⟩, _, sub_gen [] rfl rfl (zall rfl rfl) trivial, resA1 (v := .c (.bool false)) rfl rfl, rfl⟩
    refine SCode.cond_f rfl g18 (SCode.skip (SCode.region (sm rfl rfl (sq rfl rfl (q_add rfl rfl rfl) (sa rfl rfl (SOps.nil ?_))))))
    exact ⟨(n_13, IntKind.wrap .i64 (i_7 + 1)), h, Nat.lt_succ_self n_13, sub_gen [] rfl rfl (zall rfl rfl) trivial⟩
   refine SCode.cond_f rfl g14 (SCode.exit ?_)
   exact ⟨(), h, sub_gen [] rfl rfl (zall rfl rfl) trivial⟩
 rintro ⟨⟩ h
 show SCode _ _ _ S3 _
 try dsimp only at h
 unfold chargenetref46_currency_p1 at h
 refine SCode.seq (SCode.region (sm rfl rfl (sq rfl rfl (q_len_str rfl rfl un9) (sq rfl rfl (q_eql rfl rfl rfl) (sa rfl rfl (SOps.nil (SCode.ret ?_)))))))
 obtain rfl := Option.some.inj h
 exact ⟨⟨[(2, .c (.bool (decide ((a0_s.size : Int) = 3))))], []⟩, _, sub_gen [] rfl rfl (zall rfl rfl) trivial, resA1 (v := .c (.bool (decide ((a0_s.size : Int) = 3)))) rfl rfl, rfl⟩
theorem chargenetref46_item_ok (F : Nat) (a0_x : SItem) (r : Bool) (h : chargenetref46_item F a0_x = some r) :
  SFun Try.prog 36 [] [.a (bSItem a0_x)] (fun x _ => x = .c (.bool r)) := by
 refine SFun.of (n := 41) Try.func36 rfl rfl rfl ?_
 unfold chargenetref46_item at h
 show SCode _ _ _ ⟨[(0, .a (bSItem a0_x))], []⟩ _
 refine SCode.seq (SCode.region (se rfl rfl (e_box rfl rfl rfl rfl rfl rfl) (sa rfl rfl (SOps.nil (SCode.seq ?_)))))
 obtain ⟨c_1, g2, h⟩ := bind_out h
 try dsimp only at h
 rcases cond_out h with ⟨g3, h⟩ | ⟨g3, h⟩
 ·obtain ⟨c_4, g5, h⟩ := bind_out h
  try dsimp only at h
  rcases cond_out h with ⟨g6, h⟩ | ⟨g6, h⟩
  ·obtain ⟨c_7, g8, h⟩ := bind_out h
   try dsimp only at h
   rcases cond_out h with ⟨g9, h⟩ | ⟨g9, h⟩
   ·obtain ⟨c_10, g11, h⟩ := bind_out h
    try dsimp only at h
    rcases cond_out h with ⟨g12, h⟩ | ⟨g12, h⟩
    ·obtain ⟨c_13, g14, h⟩ := bind_out h
     try dsimp only at h
     rcases cond_out h with ⟨g15, h⟩ | ⟨g15, h⟩
     ·obtain ⟨c_16, g17, h⟩ := bind_out h
      try dsimp only at h
      rcases cond_out h with ⟨g18, h⟩ | ⟨g18, h⟩
      ·refine SCode.region (sq rfl rfl (q_field_ptr rfl rfl fd81_0) (sq rfl rfl (q_load_ptr rfl rfl rfl rfl ty3) (sq rfl rfl (q_call (chargenetref46_in_ok F a0_x.Kind 1 4 c_1 g2) [] rfl fn34 ⟨⟨_, rfl, .inl ⟨rfl, rfl⟩⟩, ⟨_, rfl, .inl ⟨rfl, rfl⟩⟩, ⟨_, rfl, .inl ⟨rfl, rfl⟩⟩, trivial⟩ (.inl rfl)) (sm rfl rfl (SOps.q rfl (.guard 3 6 true rfl rfl (gT g3)) rfl (q_field_ptr rfl rfl fd81_2) (SOps.q rfl (.guard 3 6 true rfl rfl (gT g3)) rfl (q_load_ptr rfl rfl rfl rfl ty3) (SOps.q rfl (.guard 3 6 true rfl rfl (gT g3)) rfl (q_call (chargenetref46_in_ok F a0_x.Tax 0 10000 c_4 g5) [] rfl fn34 ⟨⟨_, rfl, .inl ⟨rfl, rfl⟩⟩, ⟨_, rfl, .inl ⟨rfl, rfl⟩⟩, ⟨_, rfl, .inl ⟨rfl, rfl⟩⟩, trivial⟩ (.inl rfl)) (sq rfl rfl (q_pick_t rfl rfl g3 rfl) (sm rfl rfl (SOps.q rfl (.guard 8 11 true rfl rfl (gT g6)) rfl (q_field_ptr rfl rfl fd81_4) (SOps.q rfl (.guard 8 11 true rfl rfl (gT g6)) rfl (q_load_ptr rfl rfl rfl rfl ty3) (SOps.q rfl (.guard 8 11 true rfl rfl (gT g6)) rfl (q_call (chargenetref46_in_ok F a0_x.Net ((-36028797018963968)) 36028797018963968 c_7 g8) [] rfl fn34 ⟨⟨_, rfl, .inl ⟨rfl, rfl⟩⟩, ⟨_, rfl, .inl ⟨rfl, rfl⟩⟩, ⟨_, rfl, .inl ⟨rfl, rfl⟩⟩, trivial⟩ (.inl rfl)) (sq rfl rfl (q_pick_t rfl rfl g6 rfl) (sm rfl rfl (SOps.q rfl (.guard 13 16 true rfl rfl (gT g9)) rfl (q_field_ptr rfl rfl fd81_5) ?_)))))))))))))))
       refine SOps.q rfl (.guard 13 16 true rfl rfl (gT g9)) rfl (q_load_ptr rfl rfl rfl rfl ty3) (SOps.q rfl (.guard 13 16 true rfl rfl (gT g9)) rfl (q_call (chargenetref46_in_ok F a0_x.Vat ((-36028797018963968)) 36028797018963968 c_10 g11) [] rfl fn34 ⟨⟨_, rfl, .inl ⟨rfl, rfl⟩⟩, ⟨_, rfl, .inl ⟨rfl, rfl⟩⟩, ⟨_, rfl, .inl ⟨rfl, rfl⟩⟩, trivial⟩ (.inl rfl)) (sq rfl rfl (q_pick_t rfl rfl g9 rfl) (sm rfl rfl (SOps.q rfl (.guard 18 21 true rfl rfl (gT g12)) rfl (q_field_ptr rfl rfl fd81_1) (SOps.q rfl (.guard 18 21 true rfl rfl (gT g12)) rfl (q_load_ptr rfl rfl rfl rfl ty3) (SOps.q rfl (.guard 18 21 true rfl rfl (gT g12)) rfl (q_call (chargenetref46_in_ok F a0_x.Price ((-36028797018963968)) 36028797018963968 c_13 g14) [] rfl fn34 ⟨⟨_, rfl, .inl ⟨rfl, rfl⟩⟩, ⟨_, rfl, .inl ⟨rfl, rfl⟩⟩, ⟨_, rfl, .inl ⟨rfl, rfl⟩⟩, trivial⟩ (.inl rfl)) (sq rfl rfl (q_pick_t rfl rfl g12 rfl) (sm rfl rfl (SOps.q rfl (.guard 23 26 true rfl rfl (gT g15)) rfl (q_field_ptr rfl rfl fd81_3) (SOps.q rfl (.guard 23 26 true rfl rfl (gT g15)) rfl (q_load_ptr rfl rfl rfl rfl ty3) (SOps.q rfl (.guard 23 26 true rfl rfl (gT g15)) rfl (q_call (chargenetref46_in_ok F a0_x.Quantity 0 36028797018963968 c_16 g17) [] rfl fn34 ⟨⟨_, rfl, .inl ⟨rfl, rfl⟩⟩, ⟨_, rfl, .inl ⟨rfl, rfl⟩⟩, ⟨_, rfl, .inl ⟨rfl, rfl⟩⟩, trivial⟩ (.inl rfl)) (sq rfl rfl (q_pick_t rfl rfl g15 rfl) (sm rfl rfl (SOps.q rfl (.guard 28 31 true rfl rfl (gT g18)) rfl (q_field_ptr rfl rfl fd81_6) (SOps.q rfl (.guard 28 31 true rfl rfl (gT g18)) rfl (q_load_ptr rfl rfl rfl rfl ty3) ?_)))))))))))))))
       refine SOps.q rfl (.guard 28 31 true rfl rfl (gT g18)) rfl (q_field_ptr rfl rfl fd81_4) (SOps.q rfl (.guard 28 31 true rfl rfl (gT g18)) rfl (q_load_ptr rfl rfl rfl rfl ty3) (SOps.q rfl (.guard 28 31 true rfl rfl (gT g18)) rfl (q_field_ptr rfl rfl fd81_5) (SOps.q rfl (.guard 28 31 true rfl rfl (gT g18)) rfl (q_load_ptr rfl rfl rfl rfl ty3) (SOps.q rfl (.guard 28 31 true rfl rfl (gT g18)) rfl (q_add rfl rfl rfl) (SOps.q rfl (.guard 28 31 true rfl rfl (gT g18)) rfl (q_eql rfl rfl rfl) (sq rfl rfl (q_pick_t rfl rfl g18 rfl) (sa rfl rfl (SOps.sub (st' := ⟨[(2, .c (.bool (decide (a0_x.Gross = IntKind.wrap .i64 (a0_x.Net + a0_x.Vat)))))], []⟩) (sub_gen [] rfl rfl (zall rfl rfl) trivial) (SOps.nil (SCode.ret ?_))))))))))
       obtain rfl := Option.some.inj h
       exact ⟨⟨[(2, .c (.bool (decide (a0_x.Gross = IntKind.wrap .i64 (a0_x.Net + a0_x.Vat)))))], []⟩, _, sub_gen [] rfl rfl (zall rfl rfl) trivial, resA1 (v := .c (.bool (decide (a0_x.Gross = IntKind.wrap .i64 (a0_x.Net + a0_x.Vat))))) rfl rfl, rfl⟩
      refine SCode.region (sq rfl rfl (q_field_ptr rfl rfl fd81_0) (sq rfl rfl (q_load_ptr rfl rfl rfl rfl ty3) (sq rfl rfl (q_call (chargenetref46_in_ok F a0_x.Kind 1 4 c_1 g2) [] rfl fn34 ⟨⟨_, rfl, .inl ⟨rfl, rfl⟩⟩, ⟨_, rfl, .inl ⟨rfl, rfl⟩⟩, ⟨_, rfl, .inl ⟨rfl, rfl⟩⟩, trivial⟩ (.inl rfl)) (sm rfl rfl (SOps.q rfl (.guard 3 6 true rfl rfl (gT g3)) rfl (q_field_ptr rfl rfl fd81_2) (SOps.q rfl (.guard 3 6 true rfl rfl (gT g3)) rfl (q_load_ptr rfl rfl rfl rfl ty3) (SOps.q rfl (.guard 3 6 true rfl rfl (gT g3)) rfl (q_call (chargenetref46_in_ok F a0_x.Tax 0 10000 c_4 g5) [] rfl fn34 ⟨⟨_, rfl, .inl ⟨rfl, rfl⟩⟩, ⟨_, rfl, .inl ⟨rfl, rfl⟩⟩, ⟨_, rfl, .inl ⟨rfl, rfl⟩⟩, trivial⟩ (.inl rfl)) (sq rfl rfl (q_pick_t rfl rfl g3 rfl) (sm rfl rfl (SOps.q rfl (.guard 8 11 true rfl rfl (gT g6)) rfl (q_field_ptr rfl rfl fd81_4) (SOps.q rfl (.guard 8 11 true rfl rfl (gT g6)) rfl (q_load_ptr rfl rfl rfl rfl ty3) (SOps.q rfl (.guard 8 11 true rfl rfl (gT g6)) rfl (q_call (chargenetref46_in_ok F a0_x.Net ((-36028797018963968)) 36028797018963968 c_7 g8) [] rfl fn34 ⟨⟨_, rfl, .inl ⟨rfl, rfl⟩⟩, ⟨_, rfl, .inl ⟨rfl, rfl⟩⟩, ⟨_, rfl, .inl ⟨rfl, rfl⟩⟩, trivial⟩ (.inl rfl)) (sq rfl rfl (q_pick_t rfl rfl g6 rfl) (sm rfl rfl (SOps.q rfl (.guard 13 16 true rfl rfl (gT g9)) rfl (q_field_ptr rfl rfl fd81_5) ?_)))))))))))))))
      refine SOps.q rfl (.guard 13 16 true rfl rfl (gT g9)) rfl (q_load_ptr rfl rfl rfl rfl ty3) (SOps.q rfl (.guard 13 16 true rfl rfl (gT g9)) rfl (q_call (chargenetref46_in_ok F a0_x.Vat ((-36028797018963968)) 36028797018963968 c_10 g11) [] rfl fn34 ⟨⟨_, rfl, .inl ⟨rfl, rfl⟩⟩, ⟨_, rfl, .inl ⟨rfl, rfl⟩⟩, ⟨_, rfl, .inl ⟨rfl, rfl⟩⟩, trivial⟩ (.inl rfl)) (sq rfl rfl (q_pick_t rfl rfl g9 rfl) (sm rfl rfl (SOps.q rfl (.guard 18 21 true rfl rfl (gT g12)) rfl (q_field_ptr rfl rfl fd81_1) (SOps.q rfl (.guard 18 21 true rfl rfl (gT g12)) rfl (q_load_ptr rfl rfl rfl rfl ty3) (SOps.q rfl (.guard 18 21 true rfl rfl (gT g12)) rfl (q_call (chargenetref46_in_ok F a0_x.Price ((-36028797018963968)) 36028797018963968 c_13 g14) [] rfl fn34 ⟨⟨_, rfl, .inl ⟨rfl, rfl⟩⟩, ⟨_, rfl, .inl ⟨rfl, rfl⟩⟩, ⟨_, rfl, .inl ⟨rfl, rfl⟩⟩, trivial⟩ (.inl rfl)) (sq rfl rfl (q_pick_t rfl rfl g12 rfl) (sm rfl rfl (SOps.q rfl (.guard 23 26 true rfl rfl (gT g15)) rfl (q_field_ptr rfl rfl fd81_3) (SOps.q rfl (.guard 23 26 true rfl rfl (gT g15)) rfl (q_load_ptr rfl rfl rfl rfl ty3) (SOps.q rfl (.guard 23 26 true rfl rfl (gT g15)) rfl (q_call (chargenetref46_in_ok F a0_x.Quantity 0 36028797018963968 c_16 g17) [] rfl fn34 ⟨⟨_, rfl, .inl ⟨rfl, rfl⟩⟩, ⟨_, rfl, .inl ⟨rfl, rfl⟩⟩, ⟨_, rfl, .inl ⟨rfl, rfl⟩⟩, trivial⟩ (.inl rfl)) (sq rfl rfl (q_pick_t rfl rfl g15 rfl) (sm rfl rfl (SOps.skip rfl 28 31 true rfl rfl (.inl (gF g18)) rfl (SOps.skip rfl 28 31 true rfl rfl (.inl (gF g18)) rfl ?_)))))))))))))))
      refine SOps.skip rfl 28 31 true rfl rfl (.inl (gF g18)) rfl (SOps.skip rfl 28 31 true rfl rfl (.inl (gF g18)) rfl (SOps.skip rfl 28 31 true rfl rfl (.inl (gF g18)) rfl (SOps.skip rfl 28 31 true rfl rfl (.inl (gF g18)) rfl (SOps.skip rfl 28 31 true rfl rfl (.inl (gF g18)) rfl (SOps.skip rfl 28 31 true rfl rfl (.inl (gF g18)) rfl (sq rfl rfl (q_pick_f rfl rfl g18 rfl) (sa rfl rfl (SOps.sub (st' := ⟨[(2, .c (.bool false))], []⟩) (sub_gen [] rfl rfl (zall rfl rfl) trivial) (SOps.nil (SCode.ret ?_))))))))))
      obtain rfl := Option.some.inj h
      exact ⟨⟨[(2, .c (.bool false))], []⟩, _, sub_gen [] rfl rfl (zall rfl rfl) trivial, resA1 (v := .c (.bool false)) rfl rfl, rfl⟩
     refine SCode.region (sq rfl rfl (q_field_ptr rfl rfl fd81_0) (sq rfl rfl (q_load_ptr rfl rfl rfl rfl ty3) (sq rfl rfl (q_call (chargenetref46_in_ok F a0_x.Kind 1 4 c_1 g2) [] rfl fn34 ⟨⟨_, rfl, .inl ⟨rfl, rfl⟩⟩, ⟨_, rfl, .inl ⟨rfl, rfl⟩⟩, ⟨_, rfl, .inl ⟨rfl, rfl⟩⟩, trivial⟩ (.inl rfl)) (sm rfl rfl (SOps.q rfl (.guard 3 6 true rfl rfl (gT g3)) rfl (q_field_ptr rfl rfl fd81_2) (SOps.q rfl (.guard 3 6 true rfl rfl (gT g3)) rfl (q_load_ptr rfl rfl rfl rfl ty3) (SOps.q rfl (.guard 3 6 true rfl rfl (gT g3)) rfl (q_call (chargenetref46_in_ok F a0_x.Tax 0 10000 c_4 g5) [] rfl fn34 ⟨⟨_, rfl, .inl ⟨rfl, rfl⟩⟩, ⟨_, rfl, .inl ⟨rfl, rfl⟩⟩, ⟨_, rfl, .inl ⟨rfl, rfl⟩⟩, trivial⟩ (.inl rfl)) (sq rfl rfl (q_pick_t rfl rfl g3 rfl) (sm rfl rfl (SOps.q rfl (.guard 8 11 true rfl rfl (gT g6)) rfl (q_field_ptr rfl rfl fd81_4) (SOps.q rfl (.guard 8 11 true rfl rfl (gT g6)) rfl (q_load_ptr rfl rfl rfl rfl ty3) (SOps.q rfl (.guard 8 11 true rfl rfl (gT g6)) rfl (q_call (chargenetref46_in_ok F a0_x.Net ((-36028797018963968)) 36028797018963968 c_7 g8) [] rfl fn34 ⟨⟨_, rfl, .inl ⟨rfl, rfl⟩⟩, ⟨_, rfl, .inl ⟨rfl, rfl⟩⟩, ⟨_, rfl, .inl ⟨rfl, rfl⟩⟩, trivial⟩ (.inl rfl)) (sq rfl rfl (q_pick_t rfl rfl g6 rfl) (sm rfl rfl (SOps.q rfl (.guard 13 16 true rfl rfl (gT g9)) rfl (q_field_ptr rfl rfl fd81_5) ?_)))))))))))))))
     refine SOps.q rfl (.guard 13 16 true rfl rfl (gT g9)) rfl (q_load_ptr rfl rfl rfl rfl ty3) (SOps.q rfl (.guard 13 16 true rfl rfl (gT g9)) rfl (q_call (chargenetref46_in_ok F a0_x.Vat ((-36028797018963968)) 36028797018963968 c_10 g11) [] rfl fn34 ⟨⟨_, rfl, .inl ⟨rfl, rfl⟩⟩, ⟨_, rfl, .inl ⟨rfl, rfl⟩⟩, ⟨_, rfl, .inl ⟨rfl, rfl⟩⟩, trivial⟩ (.inl rfl)) (sq rfl rfl (q_pick_t rfl rfl g9 rfl) (sm rfl rfl (SOps.q rfl (.guard 18 21 true rfl rfl (gT g12)) rfl (q_field_ptr rfl rfl fd81_1) (SOps.q rfl (.guard 18 21 true rfl rfl (gT g12)) rfl (q_load_ptr rfl rfl rfl rfl ty3) (SOps.q rfl (.guard 18 21 true rfl rfl (gT g12)) rfl (q_call (chargenetref46_in_ok F a0_x.Price ((-36028797018963968)) 36028797018963968 c_13 g14) [] rfl fn34 ⟨⟨_, rfl, .inl ⟨rfl, rfl⟩⟩, ⟨_, rfl, .inl ⟨rfl, rfl⟩⟩, ⟨_, rfl, .inl ⟨rfl, rfl⟩⟩, trivial⟩ (.inl rfl)) (sq rfl rfl (q_pick_t rfl rfl g12 rfl) (sm rfl rfl (SOps.skip rfl 23 26 true rfl rfl (.inl (gF g15)) rfl (SOps.skip rfl 23 26 true rfl rfl (.inl (gF g15)) rfl (SOps.skip rfl 23 26 true rfl rfl (.inl (gF g15)) rfl (sq rfl rfl (q_pick_f rfl rfl g15 rfl) (sm rfl rfl (SOps.skip rfl 28 31 true rfl rfl (.inl rfl) rfl (SOps.skip rfl 28 31 true rfl rfl (.inl rfl) rfl ?_)))))))))))))))
     refine SOps.skip rfl 28 31 true rfl rfl (.inl rfl) rfl (SOps.skip rfl 28 31 true rfl rfl (.inl rfl) rfl (SOps.skip rfl 28 31 true rfl rfl (.inl rfl) rfl (SOps.skip rfl 28 31 true rfl rfl (.inl rfl) rfl (SOps.skip rfl 28 31 true rfl rfl (.inl rfl) rfl (SOps.skip rfl 28 31 true rfl rfl (.inl rfl) rfl (sq rfl rfl (q_pick_f rfl rfl rfl rfl) (sa rfl rfl (SOps.sub (st' := ⟨[(2, .c (.bool false))], []⟩) (sub_gen [] rfl rfl (zall rfl rfl) trivial) (SOps.nil (SCode.ret ?_))))))))))
     obtain rfl := Option.some.inj h
     exact ⟨⟨[(2, .c (.bool false))], []⟩, _, sub_gen [] rfl rfl (zall rfl rfl) trivial, resA1 (v := .c (.bool false)) rfl rfl, rfl⟩
    refine SCode.region (sq rfl rfl (q_field_ptr rfl rfl fd81_0) (sq rfl rfl (q_load_ptr rfl rfl rfl rfl ty3) (sq rfl rfl (q_call (chargenetref46_in_ok F a0_x.Kind 1 4 c_1 g2) [] rfl fn34 ⟨⟨_, rfl, .inl ⟨rfl, rfl⟩⟩, ⟨_, rfl, .inl ⟨rfl, rfl⟩⟩, ⟨_, rfl, .inl ⟨rfl, rfl⟩⟩, trivial⟩ (.inl rfl)) (sm rfl rfl (SOps.q rfl (.guard 3 6 true rfl rfl (gT g3)) rfl (q_field_ptr rfl rfl fd81_2) (SOps.q rfl (.guard 3 6 true rfl rfl (gT g3)) rfl (q_load_ptr rfl rfl rfl rfl ty3) (SOps.q rfl (.guard 3 6 true rfl rfl (gT g3)) rfl (q_call (chargenetref46_in_ok F a0_x.Tax 0 10000 c_4 g5) [] rfl fn34 ⟨⟨_, rfl, .inl ⟨rfl, rfl⟩⟩, ⟨_, rfl, .inl ⟨rfl, rfl⟩⟩, ⟨_, rfl, .inl ⟨rfl, rfl⟩⟩, trivial⟩ (.inl rfl)) (sq rfl rfl (q_pick_t rfl rfl g3 rfl) (sm rfl rfl (SOps.q rfl (.guard 8 11 true rfl rfl (gT g6)) rfl (q_field_ptr rfl rfl fd81_4) (SOps.q rfl (.guard 8 11 true rfl rfl (gT g6)) rfl (q_load_ptr rfl rfl rfl rfl ty3) (SOps.q rfl (.guard 8 11 true rfl rfl (gT g6)) rfl (q_call (chargenetref46_in_ok F a0_x.Net ((-36028797018963968)) 36028797018963968 c_7 g8) [] rfl fn34 ⟨⟨_, rfl, .inl ⟨rfl, rfl⟩⟩, ⟨_, rfl, .inl ⟨rfl, rfl⟩⟩, ⟨_, rfl, .inl ⟨rfl, rfl⟩⟩, trivial⟩ (.inl rfl)) (sq rfl rfl (q_pick_t rfl rfl g6 rfl) (sm rfl rfl (SOps.q rfl (.guard 13 16 true rfl rfl (gT g9)) rfl (q_field_ptr rfl rfl fd81_5) ?_)))))))))))))))
    refine SOps.q rfl (.guard 13 16 true rfl rfl (gT g9)) rfl (q_load_ptr rfl rfl rfl rfl ty3) (SOps.q rfl (.guard 13 16 true rfl rfl (gT g9)) rfl (q_call (chargenetref46_in_ok F a0_x.Vat ((-36028797018963968)) 36028797018963968 c_10 g11) [] rfl fn34 ⟨⟨_, rfl, .inl ⟨rfl, rfl⟩⟩, ⟨_, rfl, .inl ⟨rfl, rfl⟩⟩, ⟨_, rfl, .inl ⟨rfl, rfl⟩⟩, trivial⟩ (.inl rfl)) (sq rfl rfl (q_pick_t rfl rfl g9 rfl) (sm rfl rfl (SOps.skip rfl 18 21 true rfl rfl (.inl (gF g12)) rfl (SOps.skip rfl 18 21 true rfl rfl (.inl (gF g12)) rfl (SOps.skip rfl 18 21 true rfl rfl (.inl (gF g12)) rfl (sq rfl rfl (q_pick_f rfl rfl g12 rfl) (sm rfl rfl (SOps.skip rfl 23 26 true rfl rfl (.inl rfl) rfl (SOps.skip rfl 23 26 true rfl rfl (.inl rfl) rfl (SOps.skip rfl 23 26 true rfl rfl (.inl rfl) rfl (sq rfl rfl (q_pick_f rfl rfl rfl rfl) (sm rfl rfl (SOps.skip rfl 28 31 true rfl rfl (.inl rfl) rfl (SOps.skip rfl 28 31 true rfl rfl (.inl rfl) rfl ?_)))))))))))))))
    refine SOps.skip rfl 28 31 true rfl rfl (.inl rfl) rfl (SOps.skip rfl 28 31 true rfl rfl (.inl rfl) rfl (SOps.skip rfl 28 31 true rfl rfl (.inl rfl) rfl (SOps.skip rfl 28 31 true rfl rfl (.inl rfl) rfl (SOps.skip rfl 28 31 true rfl rfl (.inl rfl) rfl (SOps.skip rfl 28 31 true rfl rfl (.inl rfl) rfl (sq rfl rfl (q_pick_f rfl rfl rfl rfl) (sa rfl rfl (SOps.sub (st' := ⟨[(2, .c (.bool false))], []⟩) (sub_gen [] rfl rfl (zall rfl rfl) trivial) (SOps.nil (SCode.ret ?_))))))))))
    obtain rfl := Option.some.inj h
    exact ⟨⟨[(2, .c (.bool false))], []⟩, _, sub_gen [] rfl rfl (zall rfl rfl) trivial, resA1 (v := .c (.bool false)) rfl rfl, rfl⟩
   refine SCode.region (sq rfl rfl (q_field_ptr rfl rfl fd81_0) (sq rfl rfl (q_load_ptr rfl rfl rfl rfl ty3) (sq rfl rfl (q_call (chargenetref46_in_ok F a0_x.Kind 1 4 c_1 g2) [] rfl fn34 ⟨⟨_, rfl, .inl ⟨rfl, rfl⟩⟩, ⟨_, rfl, .inl ⟨rfl, rfl⟩⟩, ⟨_, rfl, .inl ⟨rfl, rfl⟩⟩, trivial⟩ (.inl rfl)) (sm rfl rfl (SOps.q rfl (.guard 3 6 true rfl rfl (gT g3)) rfl (q_field_ptr rfl rfl fd81_2) (SOps.q rfl (.guard 3 6 true rfl rfl (gT g3)) rfl (q_load_ptr rfl rfl rfl rfl ty3) (SOps.q rfl (.guard 3 6 true rfl rfl (gT g3)) rfl (q_call (chargenetref46_in_ok F a0_x.Tax 0 10000 c_4 g5) [] rfl fn34 ⟨⟨_, rfl, .inl ⟨rfl, rfl⟩⟩, ⟨_, rfl, .inl ⟨rfl, rfl⟩⟩, ⟨_, rfl, .inl ⟨rfl, rfl⟩⟩, trivial⟩ (.inl rfl)) (sq rfl rfl (q_pick_t rfl rfl g3 rfl) (sm rfl rfl (SOps.q rfl (.guard 8 11 true rfl rfl (gT g6)) rfl (q_field_ptr rfl rfl fd81_4) (SOps.q rfl (.guard 8 11 true rfl rfl (gT g6)) rfl (q_load_ptr rfl rfl rfl rfl ty3) (SOps.q rfl (.guard 8 11 true rfl rfl (gT g6)) rfl (q_call (chargenetref46_in_ok F a0_x.Net ((-36028797018963968)) 36028797018963968 c_7 g8) [] rfl fn34 ⟨⟨_, rfl, .inl ⟨rfl, rfl⟩⟩, ⟨_, rfl, .inl ⟨rfl, rfl⟩⟩, ⟨_, rfl, .inl ⟨rfl, rfl⟩⟩, trivial⟩ (.inl rfl)) (sq rfl rfl (q_pick_t rfl rfl g6 rfl) (sm rfl rfl (SOps.skip rfl 13 16 true rfl rfl (.inl (gF g9)) rfl ?_)))))))))))))))
   refine SOps.skip rfl 13 16 true rfl rfl (.inl (gF g9)) rfl (SOps.skip rfl 13 16 true rfl rfl (.inl (gF g9)) rfl (sq rfl rfl (q_pick_f rfl rfl g9 rfl) (sm rfl rfl (SOps.skip rfl 18 21 true rfl rfl (.inl rfl) rfl (SOps.skip rfl 18 21 true rfl rfl (.inl rfl) rfl (SOps.skip rfl 18 21 true rfl rfl (.inl rfl) rfl (sq rfl rfl (q_pick_f rfl rfl rfl rfl) (sm rfl rfl (SOps.skip rfl 23 26 true rfl rfl (.inl rfl) rfl (SOps.skip rfl 23 26 true rfl rfl (.inl rfl) rfl (SOps.skip rfl 23 26 true rfl rfl (.inl rfl) rfl (sq rfl rfl (q_pick_f rfl rfl rfl rfl) (sm rfl rfl (SOps.skip rfl 28 31 true rfl rfl (.inl rfl) rfl (SOps.skip rfl 28 31 true rfl rfl (.inl rfl) rfl ?_)))))))))))))))
   refine SOps.skip rfl 28 31 true rfl rfl (.inl rfl) rfl (SOps.skip rfl 28 31 true rfl rfl (.inl rfl) rfl (SOps.skip rfl 28 31 true rfl rfl (.inl rfl) rfl (SOps.skip rfl 28 31 true rfl rfl (.inl rfl) rfl (SOps.skip rfl 28 31 true rfl rfl (.inl rfl) rfl (SOps.skip rfl 28 31 true rfl rfl (.inl rfl) rfl (sq rfl rfl (q_pick_f rfl rfl rfl rfl) (sa rfl rfl (SOps.sub (st' := ⟨[(2, .c (.bool false))], []⟩) (sub_gen [] rfl rfl (zall rfl rfl) trivial) (SOps.nil (SCode.ret ?_))))))))))
   obtain rfl := Option.some.inj h
   exact ⟨⟨[(2, .c (.bool false))], []⟩, _, sub_gen [] rfl rfl (zall rfl rfl) trivial, resA1 (v := .c (.bool false)) rfl rfl, rfl⟩
  refine SCode.region (sq rfl rfl (q_field_ptr rfl rfl fd81_0) (sq rfl rfl (q_load_ptr rfl rfl rfl rfl ty3) (sq rfl rfl (q_call (chargenetref46_in_ok F a0_x.Kind 1 4 c_1 g2) [] rfl fn34 ⟨⟨_, rfl, .inl ⟨rfl, rfl⟩⟩, ⟨_, rfl, .inl ⟨rfl, rfl⟩⟩, ⟨_, rfl, .inl ⟨rfl, rfl⟩⟩, trivial⟩ (.inl rfl)) (sm rfl rfl (SOps.q rfl (.guard 3 6 true rfl rfl (gT g3)) rfl (q_field_ptr rfl rfl fd81_2) (SOps.q rfl (.guard 3 6 true rfl rfl (gT g3)) rfl (q_load_ptr rfl rfl rfl rfl ty3) (SOps.q rfl (.guard 3 6 true rfl rfl (gT g3)) rfl (q_call (chargenetref46_in_ok F a0_x.Tax 0 10000 c_4 g5) [] rfl fn34 ⟨⟨_, rfl, .inl ⟨rfl, rfl⟩⟩, ⟨_, rfl, .inl ⟨rfl, rfl⟩⟩, ⟨_, rfl, .inl ⟨rfl, rfl⟩⟩, trivial⟩ (.inl rfl)) (sq rfl rfl (q_pick_t rfl rfl g3 rfl) (sm rfl rfl (SOps.skip rfl 8 11 true rfl rfl (.inl (gF g6)) rfl (SOps.skip rfl 8 11 true rfl rfl (.inl (gF g6)) rfl (SOps.skip rfl 8 11 true rfl rfl (.inl (gF g6)) rfl (sq rfl rfl (q_pick_f rfl rfl g6 rfl) (sm rfl rfl (SOps.skip rfl 13 16 true rfl rfl (.inl rfl) rfl ?_)))))))))))))))
  refine SOps.skip rfl 13 16 true rfl rfl (.inl rfl) rfl (SOps.skip rfl 13 16 true rfl rfl (.inl rfl) rfl (sq rfl rfl (q_pick_f rfl rfl rfl rfl) (sm rfl rfl (SOps.skip rfl 18 21 true rfl rfl (.inl rfl) rfl (SOps.skip rfl 18 21 true rfl rfl (.inl rfl) rfl (SOps.skip rfl 18 21 true rfl rfl (.inl rfl) rfl (sq rfl rfl (q_pick_f rfl rfl rfl rfl) (sm rfl rfl (SOps.skip rfl 23 26 true rfl rfl (.inl rfl) rfl (SOps.skip rfl 23 26 true rfl rfl (.inl rfl) rfl (SOps.skip rfl 23 26 true rfl rfl (.inl rfl) rfl (sq rfl rfl (q_pick_f rfl rfl rfl rfl) (sm rfl rfl (SOps.skip rfl 28 31 true rfl rfl (.inl rfl) rfl (SOps.skip rfl 28 31 true rfl rfl (.inl rfl) rfl ?_)))))))))))))))
  refine SOps.skip rfl 28 31 true rfl rfl (.inl rfl) rfl (SOps.skip rfl 28 31 true rfl rfl (.inl rfl) rfl (SOps.skip rfl 28 31 true rfl rfl (.inl rfl) rfl (SOps.skip rfl 28 31 true rfl rfl (.inl rfl) rfl (SOps.skip rfl 28 31 true rfl rfl (.inl rfl) rfl (SOps.skip rfl 28 31 true rfl rfl (.inl rfl) rfl (sq rfl rfl (q_pick_f rfl rfl rfl rfl) (sa rfl rfl (SOps.sub (st' := ⟨[(2, .c (.bool false))], []⟩) (sub_gen [] rfl rfl (zall rfl rfl) trivial) (SOps.nil (SCode.ret ?_))))))))))
  obtain rfl := Option.some.inj h
  exact ⟨⟨[(2, .c (.bool false))], []⟩, _, sub_gen [] rfl rfl (zall rfl rfl) trivial, resA1 (v := .c (.bool false)) rfl rfl, rfl⟩
 refine SCode.region (sq rfl rfl (q_field_ptr rfl rfl fd81_0) (sq rfl rfl (q_load_ptr rfl rfl rfl rfl ty3) (sq rfl rfl (q_call (chargenetref46_in_ok F a0_x.Kind 1 4 c_1 g2) [] rfl fn34 ⟨⟨_, rfl, .inl ⟨rfl, rfl⟩⟩, ⟨_, rfl, .inl ⟨rfl, rfl⟩⟩, ⟨_, rfl, .inl ⟨rfl, rfl⟩⟩, trivial⟩ (.inl rfl)) (sm rfl rfl (SOps.skip rfl 3 6 true rfl rfl (.inl (gF g3)) rfl (SOps.skip rfl 3 6 true rfl rfl (.inl (gF g3)) rfl (SOps.skip rfl 3 6 true rfl rfl (.inl (gF g3)) rfl (sq rfl rfl (q_pick_f rfl rfl g3 rfl) (sm rfl rfl (SOps.skip rfl 8 11 true rfl rfl (.inl rfl) rfl (SOps.skip rfl 8 11 true rfl rfl (.inl rfl) rfl (SOps.skip rfl 8 11 true rfl rfl (.inl rfl) rfl (sq rfl rfl (q_pick_f rfl rfl rfl rfl) (sm rfl rfl (SOps.skip rfl 13 16 true rfl rfl (.inl rfl) rfl ?_)))))))))))))))
 refine SOps.skip rfl 13 16 true rfl rfl (.inl rfl) rfl (SOps.skip rfl 13 16 true rfl rfl (.inl rfl) rfl (sq rfl rfl (q_pick_f rfl rfl rfl rfl) (sm rfl rfl (SOps.skip rfl 18 21 true rfl rfl (.inl rfl) rfl (SOps.skip rfl 18 21 true rfl rfl (.inl rfl) rfl (SOps.skip rfl 18 21 true rfl rfl (.inl rfl) rfl (sq rfl rfl (q_pick_f rfl rfl rfl rfl) (sm rfl rfl (SOps.skip rfl 23 26 true rfl rfl (.inl rfl) rfl (SOps.skip rfl 23 26 true rfl rfl (.inl rfl) rfl (SOps.skip rfl 23 26 true rfl rfl (.inl rfl) rfl (sq rfl rfl (q_pick_f rfl rfl rfl rfl) (sm rfl rfl (SOps.skip rfl 28 31 true rfl rfl (.inl rfl) rfl (SOps.skip rfl 28 31 true rfl rfl (.inl rfl) rfl ?_)))))))))))))))
 refine SOps.skip rfl 28 31 true rfl rfl (.inl rfl) rfl (SOps.skip rfl 28 31 true rfl rfl (.inl rfl) rfl (SOps.skip rfl 28 31 true rfl rfl (.inl rfl) rfl (SOps.skip rfl 28 31 true rfl rfl (.inl rfl) rfl (SOps.skip rfl 28 31 true rfl rfl (.inl rfl) rfl (SOps.skip rfl 28 31 true rfl rfl (.inl rfl) rfl (sq rfl rfl (q_pick_f rfl rfl rfl rfl) (sa rfl rfl (SOps.sub (st' := ⟨[(2, .c (.bool false))], []⟩) (sub_gen [] rfl rfl (zall rfl rfl) trivial) (SOps.nil (SCode.ret ?_))))))))))
 obtain rfl := Option.some.inj h
 exact ⟨⟨[(2, .c (.bool false))], []⟩, _, sub_gen [] rfl rfl (zall rfl rfl) trivial, resA1 (v := .c (.bool false)) rfl rfl, rfl⟩
theorem chargenetref46_Valid_ok (F : Nat) (a0_c : SCDR) (r : Int) (h : chargenetref46_Valid F a0_c = some r) :
  SFun Try.prog 17 [] [.a (bSCDR a0_c)] (fun x _ => x = ci r) := by
 refine SFun.of (n := 126) Try.func17 rfl rfl rfl ?_
 unfold chargenetref46_Valid at h
 show SCode _ _ _ ⟨[(0, .a (bSCDR a0_c))], []⟩ _
 refine SCode.seq (SCode.region (se rfl rfl (e_box rfl rfl rfl rfl rfl rfl) (sa rfl rfl (SOps.nil (SCode.seq (SCode.seq ?_))))))
 obtain ⟨c_1, g2, h⟩ := bind_out h
 try dsimp only at h
 rcases cond_out h with ⟨g3, h⟩ | ⟨g3, h⟩
 ·refine SCode.region (sq rfl rfl (q_field_ptr rfl rfl fd47_0) (sq rfl rfl (q_load_ptr rfl rfl rfl rfl ty9) (sq rfl rfl (q_call (chargenetref01_Valid_ok F a0_c.ID c_1 g2) [] rfl fn24 ⟨⟨_, rfl, .inl ⟨rfl, rfl⟩⟩, trivial⟩ (.inl rfl)) (sq rfl rfl (q_not rfl rfl) (sm rfl rfl (SOps.skip rfl 4 9 false rfl rfl (.inl (gT g3)) rfl (SOps.skip rfl 4 9 false rfl rfl (.inl (gT g3)) rfl (SOps.skip rfl 4 9 false rfl rfl (.inl (gT g3)) rfl (SOps.skip rfl 4 9 false rfl rfl (.inl (gT g3)) rfl (sq rfl rfl (q_pick_t rfl rfl g3 rfl) (sm rfl rfl (SOps.skip rfl 10 15 false rfl rfl (.inl rfl) rfl (SOps.skip rfl 10 15 false rfl rfl (.inl rfl) rfl (SOps.skip rfl 10 15 false rfl rfl (.inl rfl) rfl (SOps.skip rfl 10 15 false rfl rfl (.inl rfl) rfl ?_)))))))))))))))
  refine sq rfl rfl (q_pick_t rfl rfl rfl rfl) (sm rfl rfl (SOps.skip rfl 16 21 false rfl rfl (.inl rfl) rfl (SOps.skip rfl 16 21 false rfl rfl (.inl rfl) rfl (SOps.skip rfl 16 21 false rfl rfl (.inl rfl) rfl (SOps.skip rfl 16 21 false rfl rfl (.inl rfl) rfl (sq rfl rfl (q_pick_t rfl rfl rfl rfl) (sm rfl rfl (SOps.skip rfl 22 27 false rfl rfl (.inl rfl) rfl (SOps.skip rfl 22 27 false rfl rfl (.inl rfl) rfl (SOps.skip rfl 22 27 false rfl rfl (.inl rfl) rfl (SOps.skip rfl 22 27 false rfl rfl (.inl rfl) rfl (sq rfl rfl (q_pick_t rfl rfl rfl rfl) (SOps.sub (st' := ⟨[(1, .c (.ptr 0 0)), (32, .c (.bool true))], [.box (bSCDR a0_c)]⟩) (sub_gen [0] rfl rfl (zall rfl rfl) ⟨bx rfl rfl rfl, trivial⟩) (SOps.nil (SCode.cond_t rfl rfl ?_)))))))))))))))
  refine SCode.seq (SCode.region (sa rfl rfl (SOps.nil (SCode.ret ?_))))
  obtain rfl := Option.some.inj h
  exact ⟨⟨[(2, ci 4)], []⟩, _, sub_gen [] rfl rfl (zall rfl rfl) trivial, resA1 (v := .c (.int .i64 4)) rfl rfl, rfl⟩
 obtain ⟨c_4, g5, h⟩ := bind_out h
 try dsimp only at h
 rcases cond_out h with ⟨g6, h⟩ | ⟨g6, h⟩
 ·refine SCode.region (sq rfl rfl (q_field_ptr rfl rfl fd47_0) (sq rfl rfl (q_load_ptr rfl rfl rfl rfl ty9) (sq rfl rfl (q_call (chargenetref01_Valid_ok F a0_c.ID c_1 g2) [] rfl fn24 ⟨⟨_, rfl, .inl ⟨rfl, rfl⟩⟩, trivial⟩ (.inl rfl)) (sq rfl rfl (q_not rfl rfl) (sm rfl rfl (SOps.q rfl (.guard 4 9 false rfl rfl (gF g3)) rfl (q_field_ptr rfl rfl fd47_1) (SOps.q rfl (.guard 4 9 false rfl rfl (gF g3)) rfl (q_load_ptr rfl rfl rfl rfl ty9) (SOps.q rfl (.guard 4 9 false rfl rfl (gF g3)) rfl (q_call (chargenetref01_Valid_ok F a0_c.Operator c_4 g5) [] rfl fn24 ⟨⟨_, rfl, .inl ⟨rfl, rfl⟩⟩, trivial⟩ (.inl rfl)) (SOps.q rfl (.guard 4 9 false rfl rfl (gF g3)) rfl (q_not rfl rfl) (sq rfl rfl (q_pick_f rfl rfl g3 rfl) (sm rfl rfl (SOps.skip rfl 10 15 false rfl rfl (.inl (gT g6)) rfl (SOps.skip rfl 10 15 false rfl rfl (.inl (gT g6)) rfl (SOps.skip rfl 10 15 false rfl rfl (.inl (gT g6)) rfl (SOps.skip rfl 10 15 false rfl rfl (.inl (gT g6)) rfl ?_)))))))))))))))
  refine sq rfl rfl (q_pick_t rfl rfl g6 rfl) (sm rfl rfl (SOps.skip rfl 16 21 false rfl rfl (.inl rfl) rfl (SOps.skip rfl 16 21 false rfl rfl (.inl rfl) rfl (SOps.skip rfl 16 21 false rfl rfl (.inl rfl) rfl (SOps.skip rfl 16 21 false rfl rfl (.inl rfl) rfl (sq rfl rfl (q_pick_t rfl rfl rfl rfl) (sm rfl rfl (SOps.skip rfl 22 27 false rfl rfl (.inl rfl) rfl (SOps.skip rfl 22 27 false rfl rfl (.inl rfl) rfl (SOps.skip rfl 22 27 false rfl rfl (.inl rfl) rfl (SOps.skip rfl 22 27 false rfl rfl (.inl rfl) rfl (sq rfl rfl (q_pick_t rfl rfl rfl rfl) (SOps.sub (st' := ⟨[(1, .c (.ptr 0 0)), (32, .c (.bool true))], [.box (bSCDR a0_c)]⟩) (sub_gen [0] rfl rfl (zall rfl rfl) ⟨bx rfl rfl rfl, trivial⟩) (SOps.nil (SCode.cond_t rfl rfl ?_)))))))))))))))
  refine SCode.seq (SCode.region (sa rfl rfl (SOps.nil (SCode.ret ?_))))
  obtain rfl := Option.some.inj h
  exact ⟨⟨[(2, ci 4)], []⟩, _, sub_gen [] rfl rfl (zall rfl rfl) trivial, resA1 (v := .c (.int .i64 4)) rfl rfl, rfl⟩
 obtain ⟨c_7, g8, h⟩ := bind_out h
 try dsimp only at h
 rcases cond_out h with ⟨g9, h⟩ | ⟨g9, h⟩
 ·refine SCode.region (sq rfl rfl (q_field_ptr rfl rfl fd47_0) (sq rfl rfl (q_load_ptr rfl rfl rfl rfl ty9) (sq rfl rfl (q_call (chargenetref01_Valid_ok F a0_c.ID c_1 g2) [] rfl fn24 ⟨⟨_, rfl, .inl ⟨rfl, rfl⟩⟩, trivial⟩ (.inl rfl)) (sq rfl rfl (q_not rfl rfl) (sm rfl rfl (SOps.q rfl (.guard 4 9 false rfl rfl (gF g3)) rfl (q_field_ptr rfl rfl fd47_1) (SOps.q rfl (.guard 4 9 false rfl rfl (gF g3)) rfl (q_load_ptr rfl rfl rfl rfl ty9) (SOps.q rfl (.guard 4 9 false rfl rfl (gF g3)) rfl (q_call (chargenetref01_Valid_ok F a0_c.Operator c_4 g5) [] rfl fn24 ⟨⟨_, rfl, .inl ⟨rfl, rfl⟩⟩, trivial⟩ (.inl rfl)) (SOps.q rfl (.guard 4 9 false rfl rfl (gF g3)) rfl (q_not rfl rfl) (sq rfl rfl (q_pick_f rfl rfl g3 rfl) (sm rfl rfl (SOps.q rfl (.guard 10 15 false rfl rfl (gF g6)) rfl (q_field_ptr rfl rfl fd47_2) (SOps.q rfl (.guard 10 15 false rfl rfl (gF g6)) rfl (q_load_ptr rfl rfl rfl rfl ty9) (SOps.q rfl (.guard 10 15 false rfl rfl (gF g6)) rfl (q_call (chargenetref01_Valid_ok F a0_c.Provider c_7 g8) [] rfl fn24 ⟨⟨_, rfl, .inl ⟨rfl, rfl⟩⟩, trivial⟩ (.inl rfl)) (SOps.q rfl (.guard 10 15 false rfl rfl (gF g6)) rfl (q_not rfl rfl) ?_)))))))))))))))
  refine sq rfl rfl (q_pick_f rfl rfl g6 rfl) (sm rfl rfl (SOps.skip rfl 16 21 false rfl rfl (.inl (gT g9)) rfl (SOps.skip rfl 16 21 false rfl rfl (.inl (gT g9)) rfl (SOps.skip rfl 16 21 false rfl rfl (.inl (gT g9)) rfl (SOps.skip rfl 16 21 false rfl rfl (.inl (gT g9)) rfl (sq rfl rfl (q_pick_t rfl rfl g9 rfl) (sm rfl rfl (SOps.skip rfl 22 27 false rfl rfl (.inl rfl) rfl (SOps.skip rfl 22 27 false rfl rfl (.inl rfl) rfl (SOps.skip rfl 22 27 false rfl rfl (.inl rfl) rfl (SOps.skip rfl 22 27 false rfl rfl (.inl rfl) rfl (sq rfl rfl (q_pick_t rfl rfl rfl rfl) (SOps.sub (st' := ⟨[(1, .c (.ptr 0 0)), (32, .c (.bool true))], [.box (bSCDR a0_c)]⟩) (sub_gen [0] rfl rfl (zall rfl rfl) ⟨bx rfl rfl rfl, trivial⟩) (SOps.nil (SCode.cond_t rfl rfl ?_)))))))))))))))
  refine SCode.seq (SCode.region (sa rfl rfl (SOps.nil (SCode.ret ?_))))
  obtain rfl := Option.some.inj h
  exact ⟨⟨[(2, ci 4)], []⟩, _, sub_gen [] rfl rfl (zall rfl rfl) trivial, resA1 (v := .c (.int .i64 4)) rfl rfl, rfl⟩
 obtain ⟨c_10, g11, h⟩ := bind_out h
 try dsimp only at h
 rcases cond_out h with ⟨g12, h⟩ | ⟨g12, h⟩
 ·refine SCode.region (sq rfl rfl (q_field_ptr rfl rfl fd47_0) (sq rfl rfl (q_load_ptr rfl rfl rfl rfl ty9) (sq rfl rfl (q_call (chargenetref01_Valid_ok F a0_c.ID c_1 g2) [] rfl fn24 ⟨⟨_, rfl, .inl ⟨rfl, rfl⟩⟩, trivial⟩ (.inl rfl)) (sq rfl rfl (q_not rfl rfl) (sm rfl rfl (SOps.q rfl (.guard 4 9 false rfl rfl (gF g3)) rfl (q_field_ptr rfl rfl fd47_1) (SOps.q rfl (.guard 4 9 false rfl rfl (gF g3)) rfl (q_load_ptr rfl rfl rfl rfl ty9) (SOps.q rfl (.guard 4 9 false rfl rfl (gF g3)) rfl (q_call (chargenetref01_Valid_ok F a0_c.Operator c_4 g5) [] rfl fn24 ⟨⟨_, rfl, .inl ⟨rfl, rfl⟩⟩, trivial⟩ (.inl rfl)) (SOps.q rfl (.guard 4 9 false rfl rfl (gF g3)) rfl (q_not rfl rfl) (sq rfl rfl (q_pick_f rfl rfl g3 rfl) (sm rfl rfl (SOps.q rfl (.guard 10 15 false rfl rfl (gF g6)) rfl (q_field_ptr rfl rfl fd47_2) (SOps.q rfl (.guard 10 15 false rfl rfl (gF g6)) rfl (q_load_ptr rfl rfl rfl rfl ty9) (SOps.q rfl (.guard 10 15 false rfl rfl (gF g6)) rfl (q_call (chargenetref01_Valid_ok F a0_c.Provider c_7 g8) [] rfl fn24 ⟨⟨_, rfl, .inl ⟨rfl, rfl⟩⟩, trivial⟩ (.inl rfl)) (SOps.q rfl (.guard 10 15 false rfl rfl (gF g6)) rfl (q_not rfl rfl) ?_)))))))))))))))
  refine sq rfl rfl (q_pick_f rfl rfl g6 rfl) (sm rfl rfl (SOps.q rfl (.guard 16 21 false rfl rfl (gF g9)) rfl (q_field_ptr rfl rfl fd47_3) (SOps.q rfl (.guard 16 21 false rfl rfl (gF g9)) rfl (q_load_ptr rfl rfl rfl rfl ty9) (SOps.q rfl (.guard 16 21 false rfl rfl (gF g9)) rfl (q_call (chargenetref01_Valid_ok F a0_c.Session c_10 g11) [] rfl fn24 ⟨⟨_, rfl, .inl ⟨rfl, rfl⟩⟩, trivial⟩ (.inl rfl)) (SOps.q rfl (.guard 16 21 false rfl rfl (gF g9)) rfl (q_not rfl rfl) (sq rfl rfl (q_pick_f rfl rfl g9 rfl) (sm rfl rfl (SOps.skip rfl 22 27 false rfl rfl (.inl (gT g12)) rfl (SOps.skip rfl 22 27 false rfl rfl (.inl (gT g12)) rfl (SOps.skip rfl 22 27 false rfl rfl (.inl (gT g12)) rfl (SOps.skip rfl 22 27 false rfl rfl (.inl (gT g12)) rfl (sq rfl rfl (q_pick_t rfl rfl g12 rfl) (SOps.sub (st' := ⟨[(1, .c (.ptr 0 0)), (32, .c (.bool true))], [.box (bSCDR a0_c)]⟩) (sub_gen [0] rfl rfl (zall rfl rfl) ⟨bx rfl rfl rfl, trivial⟩) (SOps.nil (SCode.cond_t rfl rfl ?_)))))))))))))))
  refine SCode.seq (SCode.region (sa rfl rfl (SOps.nil (SCode.ret ?_))))
  obtain rfl := Option.some.inj h
  exact ⟨⟨[(2, ci 4)], []⟩, _, sub_gen [] rfl rfl (zall rfl rfl) trivial, resA1 (v := .c (.int .i64 4)) rfl rfl, rfl⟩
 obtain ⟨c_13, g14, h⟩ := bind_out h
 try dsimp only at h
 refine SCode.region (sq rfl rfl (q_field_ptr rfl rfl fd47_0) (sq rfl rfl (q_load_ptr rfl rfl rfl rfl ty9) (sq rfl rfl (q_call (chargenetref01_Valid_ok F a0_c.ID c_1 g2) [] rfl fn24 ⟨⟨_, rfl, .inl ⟨rfl, rfl⟩⟩, trivial⟩ (.inl rfl)) (sq rfl rfl (q_not rfl rfl) (sm rfl rfl (SOps.q rfl (.guard 4 9 false rfl rfl (gF g3)) rfl (q_field_ptr rfl rfl fd47_1) (SOps.q rfl (.guard 4 9 false rfl rfl (gF g3)) rfl (q_load_ptr rfl rfl rfl rfl ty9) (SOps.q rfl (.guard 4 9 false rfl rfl (gF g3)) rfl (q_call (chargenetref01_Valid_ok F a0_c.Operator c_4 g5) [] rfl fn24 ⟨⟨_, rfl, .inl ⟨rfl, rfl⟩⟩, trivial⟩ (.inl rfl)) (SOps.q rfl (.guard 4 9 false rfl rfl (gF g3)) rfl (q_not rfl rfl) (sq rfl rfl (q_pick_f rfl rfl g3 rfl) (sm rfl rfl (SOps.q rfl (.guard 10 15 false rfl rfl (gF g6)) rfl (q_field_ptr rfl rfl fd47_2) (SOps.q rfl (.guard 10 15 false rfl rfl (gF g6)) rfl (q_load_ptr rfl rfl rfl rfl ty9) (SOps.q rfl (.guard 10 15 false rfl rfl (gF g6)) rfl (q_call (chargenetref01_Valid_ok F a0_c.Provider c_7 g8) [] rfl fn24 ⟨⟨_, rfl, .inl ⟨rfl, rfl⟩⟩, trivial⟩ (.inl rfl)) (SOps.q rfl (.guard 10 15 false rfl rfl (gF g6)) rfl (q_not rfl rfl) ?_)))))))))))))))
 refine sq rfl rfl (q_pick_f rfl rfl g6 rfl) (sm rfl rfl (SOps.q rfl (.guard 16 21 false rfl rfl (gF g9)) rfl (q_field_ptr rfl rfl fd47_3) (SOps.q rfl (.guard 16 21 false rfl rfl (gF g9)) rfl (q_load_ptr rfl rfl rfl rfl ty9) (SOps.q rfl (.guard 16 21 false rfl rfl (gF g9)) rfl (q_call (chargenetref01_Valid_ok F a0_c.Session c_10 g11) [] rfl fn24 ⟨⟨_, rfl, .inl ⟨rfl, rfl⟩⟩, trivial⟩ (.inl rfl)) (SOps.q rfl (.guard 16 21 false rfl rfl (gF g9)) rfl (q_not rfl rfl) (sq rfl rfl (q_pick_f rfl rfl g9 rfl) (sm rfl rfl (SOps.q rfl (.guard 22 27 false rfl rfl (gF g12)) rfl (q_field_ptr rfl rfl fd47_8) (SOps.q rfl (.guard 22 27 false rfl rfl (gF g12)) rfl (q_load_ptr rfl rfl rfl rfl ty9) (SOps.q rfl (.guard 22 27 false rfl rfl (gF g12)) rfl (q_call (chargenetref01_Valid_ok F a0_c.Tariff c_13 g14) [] rfl fn24 ⟨⟨_, rfl, .inl ⟨rfl, rfl⟩⟩, trivial⟩ (.inl rfl)) (SOps.q rfl (.guard 22 27 false rfl rfl (gF g12)) rfl (q_not rfl rfl) (sq rfl rfl (q_pick_f rfl rfl g12 rfl) (SOps.sub (st' := ⟨[(1, .c (.ptr 0 0)), (32, .c (.bool ((!c_13))))], [.box (bSCDR a0_c)]⟩) (sub_gen [0] rfl rfl (zall rfl rfl) ⟨bx rfl rfl rfl, trivial⟩) (SOps.nil ?_))))))))))))))
 rcases cond_out h with ⟨g15, h⟩ | ⟨g15, h⟩
 ·refine SCode.cond_t rfl g15 (SCode.seq (SCode.region (sa rfl rfl (SOps.nil (SCode.ret ?_)))))
  obtain rfl := Option.some.inj h
  exact ⟨⟨[(2, ci 4)], []⟩, _, sub_gen [] rfl rfl (zall rfl rfl) trivial, resA1 (v := .c (.int .i64 4)) rfl rfl, rfl⟩
 refine SCode.cond_f rfl g15 (SCode.skip (SCode.seq (SCode.seq (SCode.region (sq rfl rfl (q_field_ptr rfl rfl fd47_1) (sq rfl rfl (q_load_ptr rfl rfl rfl rfl ty9) (sq rfl rfl (q_field_ptr rfl rfl fd47_2) (sq rfl rfl (q_load_ptr rfl rfl rfl rfl ty9) (sq rfl rfl (q_eqlS rfl rfl rfl) (SOps.nil ?_))))))))))
 rcases cond_out h with ⟨g16, h⟩ | ⟨g16, h⟩
 ·refine SCode.cond_t rfl g16 (SCode.seq (SCode.region (sa rfl rfl (SOps.nil (SCode.ret ?_)))))
  obtain rfl := Option.some.inj h
  exact ⟨⟨[(2, ci 1)], []⟩, _, sub_gen [] rfl rfl (zall rfl rfl) trivial, resA1 (v := .c (.int .i64 1)) rfl rfl, rfl⟩
 refine SCode.cond_f rfl g16 (SCode.skip (SCode.seq (SCode.seq ?_)))
 obtain ⟨c_17, g18, h⟩ := bind_out h
 try dsimp only at h
 rcases cond_out h with ⟨g19, h⟩ | ⟨g19, h⟩
 ·refine SCode.region (sq rfl rfl (q_field_ptr rfl rfl fd47_4) (sq rfl rfl (q_load_ptr rfl rfl rfl rfl ty3) (sq rfl rfl (q_call (chargenetref46_in_ok F a0_c.Version 1 2147483647 c_17 g18) [] rfl fn34 ⟨⟨_, rfl, .inl ⟨rfl, rfl⟩⟩, ⟨_, rfl, .inl ⟨rfl, rfl⟩⟩, ⟨_, rfl, .inl ⟨rfl, rfl⟩⟩, trivial⟩ (.inl rfl)) (sq rfl rfl (q_not rfl rfl) (sm rfl rfl (SOps.skip rfl 4 42 false rfl rfl (.inl (gT g19)) rfl (SOps.skip rfl 4 42 false rfl rfl (.inl (gT g19)) rfl (SOps.skip rfl 4 42 false rfl rfl (.inl (gT g19)) rfl (sq rfl rfl (q_pick_t rfl rfl g19 rfl) (sm rfl rfl (SOps.skip rfl 9 47 false rfl rfl (.inl rfl) rfl (SOps.skip rfl 9 47 false rfl rfl (.inl rfl) rfl (SOps.skip rfl 9 47 false rfl rfl (.inl rfl) rfl (SOps.skip rfl 9 47 false rfl rfl (.inl rfl) rfl (SOps.skip rfl 9 47 false rfl rfl (.inl rfl) rfl ?_)))))))))))))))
  refine sq rfl rfl (q_pick_t rfl rfl rfl rfl) (sm rfl rfl (SOps.skip rfl 16 54 false rfl rfl (.inl rfl) rfl (SOps.skip rfl 16 54 false rfl rfl (.inl rfl) rfl (SOps.skip rfl 16 54 false rfl rfl (.inl rfl) rfl (sq rfl rfl (q_pick_t rfl rfl rfl rfl) (sm rfl rfl (SOps.skip rfl 21 59 false rfl rfl (.inl rfl) rfl (SOps.skip rfl 21 59 false rfl rfl (.inl rfl) rfl (SOps.skip rfl 21 59 false rfl rfl (.inl rfl) rfl (SOps.skip rfl 21 59 false rfl rfl (.inl rfl) rfl (sq rfl rfl (q_pick_t rfl rfl rfl rfl) (SOps.sub (st' := ⟨[(1, .c (.ptr 0 0)), (64, .c (.bool true))], [.box (bSCDR a0_c)]⟩) (sub_gen [0] rfl rfl (zall rfl rfl) ⟨bx rfl rfl rfl, trivial⟩) (SOps.nil (SCode.cond_t rfl rfl (SCode.seq ?_)))))))))))))))
  refine SCode.region (sa rfl rfl (SOps.nil (SCode.ret ?_)))
  obtain rfl := Option.some.inj h
  exact ⟨⟨[(2, ci 2)], []⟩, _, sub_gen [] rfl rfl (zall rfl rfl) trivial, resA1 (v := .c (.int .i64 2)) rfl rfl, rfl⟩
 rcases cond_out h with ⟨g20, h⟩ | ⟨g20, h⟩
 ·refine SCode.region (sq rfl rfl (q_field_ptr rfl rfl fd47_4) (sq rfl rfl (q_load_ptr rfl rfl rfl rfl ty3) (sq rfl rfl (q_call (chargenetref46_in_ok F a0_c.Version 1 2147483647 c_17 g18) [] rfl fn34 ⟨⟨_, rfl, .inl ⟨rfl, rfl⟩⟩, ⟨_, rfl, .inl ⟨rfl, rfl⟩⟩, ⟨_, rfl, .inl ⟨rfl, rfl⟩⟩, trivial⟩ (.inl rfl)) (sq rfl rfl (q_not rfl rfl) (sm rfl rfl (SOps.q rfl (.guard 4 42 false rfl rfl (gF g19)) rfl (q_field_ptr rfl rfl fd47_5) (SOps.q rfl (.guard 4 42 false rfl rfl (gF g19)) rfl (q_load_ptr rfl rfl rfl rfl ty3) (SOps.q rfl (.guard 4 42 false rfl rfl (gF g19)) rfl (q_lss rfl rfl rfl) (sq rfl rfl (q_pick_f rfl rfl g19 rfl) (sm rfl rfl (SOps.skip rfl 9 47 false rfl rfl (.inl (gT g20)) rfl (SOps.skip rfl 9 47 false rfl rfl (.inl (gT g20)) rfl (SOps.skip rfl 9 47 false rfl rfl (.inl (gT g20)) rfl (SOps.skip rfl 9 47 false rfl rfl (.inl (gT g20)) rfl (SOps.skip rfl 9 47 false rfl rfl (.inl (gT g20)) rfl ?_)))))))))))))))
  refine sq rfl rfl (q_pick_t rfl rfl g20 rfl) (sm rfl rfl (SOps.skip rfl 16 54 false rfl rfl (.inl rfl) rfl (SOps.skip rfl 16 54 false rfl rfl (.inl rfl) rfl (SOps.skip rfl 16 54 false rfl rfl (.inl rfl) rfl (sq rfl rfl (q_pick_t rfl rfl rfl rfl) (sm rfl rfl (SOps.skip rfl 21 59 false rfl rfl (.inl rfl) rfl (SOps.skip rfl 21 59 false rfl rfl (.inl rfl) rfl (SOps.skip rfl 21 59 false rfl rfl (.inl rfl) rfl (SOps.skip rfl 21 59 false rfl rfl (.inl rfl) rfl (sq rfl rfl (q_pick_t rfl rfl rfl rfl) (SOps.sub (st' := ⟨[(1, .c (.ptr 0 0)), (64, .c (.bool true))], [.box (bSCDR a0_c)]⟩) (sub_gen [0] rfl rfl (zall rfl rfl) ⟨bx rfl rfl rfl, trivial⟩) (SOps.nil (SCode.cond_t rfl rfl (SCode.seq ?_)))))))))))))))
  refine SCode.region (sa rfl rfl (SOps.nil (SCode.ret ?_)))
  obtain rfl := Option.some.inj h
  exact ⟨⟨[(2, ci 2)], []⟩, _, sub_gen [] rfl rfl (zall rfl rfl) trivial, resA1 (v := .c (.int .i64 2)) rfl rfl, rfl⟩
 rcases cond_out h with ⟨g21, h⟩ | ⟨g21, h⟩
 ·refine SCode.region (sq rfl rfl (q_field_ptr rfl rfl fd47_4) (sq rfl rfl (q_load_ptr rfl rfl rfl rfl ty3) (sq rfl rfl (q_call (chargenetref46_in_ok F a0_c.Version 1 2147483647 c_17 g18) [] rfl fn34 ⟨⟨_, rfl, .inl ⟨rfl, rfl⟩⟩, ⟨_, rfl, .inl ⟨rfl, rfl⟩⟩, ⟨_, rfl, .inl ⟨rfl, rfl⟩⟩, trivial⟩ (.inl rfl)) (sq rfl rfl (q_not rfl rfl) (sm rfl rfl (SOps.q rfl (.guard 4 42 false rfl rfl (gF g19)) rfl (q_field_ptr rfl rfl fd47_5) (SOps.q rfl (.guard 4 42 false rfl rfl (gF g19)) rfl (q_load_ptr rfl rfl rfl rfl ty3) (SOps.q rfl (.guard 4 42 false rfl rfl (gF g19)) rfl (q_lss rfl rfl rfl) (sq rfl rfl (q_pick_f rfl rfl g19 rfl) (sm rfl rfl (SOps.q rfl (.guard 9 47 false rfl rfl (gF g20)) rfl (q_field_ptr rfl rfl fd47_5) (SOps.q rfl (.guard 9 47 false rfl rfl (gF g20)) rfl (q_load_ptr rfl rfl rfl rfl ty3) (SOps.q rfl (.guard 9 47 false rfl rfl (gF g20)) rfl (q_field_ptr rfl rfl fd47_6) (SOps.q rfl (.guard 9 47 false rfl rfl (gF g20)) rfl (q_load_ptr rfl rfl rfl rfl ty3) (SOps.q rfl (.guard 9 47 false rfl rfl (gF g20)) rfl (q_gtr rfl rfl rfl) ?_)))))))))))))))
  refine sq rfl rfl (q_pick_f rfl rfl g20 rfl) (sm rfl rfl (SOps.skip rfl 16 54 false rfl rfl (.inl (gT g21)) rfl (SOps.skip rfl 16 54 false rfl rfl (.inl (gT g21)) rfl (SOps.skip rfl 16 54 false rfl rfl (.inl (gT g21)) rfl (sq rfl rfl (q_pick_t rfl rfl g21 rfl) (sm rfl rfl (SOps.skip rfl 21 59 false rfl rfl (.inl rfl) rfl (SOps.skip rfl 21 59 false rfl rfl (.inl rfl) rfl (SOps.skip rfl 21 59 false rfl rfl (.inl rfl) rfl (SOps.skip rfl 21 59 false rfl rfl (.inl rfl) rfl (sq rfl rfl (q_pick_t rfl rfl rfl rfl) (SOps.sub (st' := ⟨[(1, .c (.ptr 0 0)), (64, .c (.bool true))], [.box (bSCDR a0_c)]⟩) (sub_gen [0] rfl rfl (zall rfl rfl) ⟨bx rfl rfl rfl, trivial⟩) (SOps.nil (SCode.cond_t rfl rfl (SCode.seq ?_)))))))))))))))
  refine SCode.region (sa rfl rfl (SOps.nil (SCode.ret ?_)))
  obtain rfl := Option.some.inj h
  exact ⟨⟨[(2, ci 2)], []⟩, _, sub_gen [] rfl rfl (zall rfl rfl) trivial, resA1 (v := .c (.int .i64 2)) rfl rfl, rfl⟩
 rcases cond_out h with ⟨g22, h⟩ | ⟨g22, h⟩
 ·refine SCode.region (sq rfl rfl (q_field_ptr rfl rfl fd47_4) (sq rfl rfl (q_load_ptr rfl rfl rfl rfl ty3) (sq rfl rfl (q_call (chargenetref46_in_ok F a0_c.Version 1 2147483647 c_17 g18) [] rfl fn34 ⟨⟨_, rfl, .inl ⟨rfl, rfl⟩⟩, ⟨_, rfl, .inl ⟨rfl, rfl⟩⟩, ⟨_, rfl, .inl ⟨rfl, rfl⟩⟩, trivial⟩ (.inl rfl)) (sq rfl rfl (q_not rfl rfl) (sm rfl rfl (SOps.q rfl (.guard 4 42 false rfl rfl (gF g19)) rfl (q_field_ptr rfl rfl fd47_5) (SOps.q rfl (.guard 4 42 false rfl rfl (gF g19)) rfl (q_load_ptr rfl rfl rfl rfl ty3) (SOps.q rfl (.guard 4 42 false rfl rfl (gF g19)) rfl (q_lss rfl rfl rfl) (sq rfl rfl (q_pick_f rfl rfl g19 rfl) (sm rfl rfl (SOps.q rfl (.guard 9 47 false rfl rfl (gF g20)) rfl (q_field_ptr rfl rfl fd47_5) (SOps.q rfl (.guard 9 47 false rfl rfl (gF g20)) rfl (q_load_ptr rfl rfl rfl rfl ty3) (SOps.q rfl (.guard 9 47 false rfl rfl (gF g20)) rfl (q_field_ptr rfl rfl fd47_6) (SOps.q rfl (.guard 9 47 false rfl rfl (gF g20)) rfl (q_load_ptr rfl rfl rfl rfl ty3) (SOps.q rfl (.guard 9 47 false rfl rfl (gF g20)) rfl (q_gtr rfl rfl rfl) ?_)))))))))))))))
  refine sq rfl rfl (q_pick_f rfl rfl g20 rfl) (sm rfl rfl (SOps.q rfl (.guard 16 54 false rfl rfl (gF g21)) rfl (q_field_ptr rfl rfl fd47_6) (SOps.q rfl (.guard 16 54 false rfl rfl (gF g21)) rfl (q_load_ptr rfl rfl rfl rfl ty3) (SOps.q rfl (.guard 16 54 false rfl rfl (gF g21)) rfl (q_gtr rfl rfl rfl) (sq rfl rfl (q_pick_f rfl rfl g21 rfl) (sm rfl rfl (SOps.skip rfl 21 59 false rfl rfl (.inl (gT g22)) rfl (SOps.skip rfl 21 59 false rfl rfl (.inl (gT g22)) rfl (SOps.skip rfl 21 59 false rfl rfl (.inl (gT g22)) rfl (SOps.skip rfl 21 59 false rfl rfl (.inl (gT g22)) rfl (sq rfl rfl (q_pick_t rfl rfl g22 rfl) (SOps.sub (st' := ⟨[(1, .c (.ptr 0 0)), (64, .c (.bool true))], [.box (bSCDR a0_c)]⟩) (sub_gen [0] rfl rfl (zall rfl rfl) ⟨bx rfl rfl rfl, trivial⟩) (SOps.nil (SCode.cond_t rfl rfl (SCode.seq ?_)))))))))))))))
  refine SCode.region (sa rfl rfl (SOps.nil (SCode.ret ?_)))
  obtain rfl := Option.some.inj h
  exact ⟨⟨[(2, ci 2)], []⟩, _, sub_gen [] rfl rfl (zall rfl rfl) trivial, resA1 (v := .c (.int .i64 2)) rfl rfl, rfl⟩
 obtain ⟨c_23, g24, h⟩ := bind_out h
 try dsimp only at h
 refine SCode.region (sq rfl rfl (q_field_ptr rfl rfl fd47_4) (sq rfl rfl (q_load_ptr rfl rfl rfl rfl ty3) (sq rfl rfl (q_call (chargenetref46_in_ok F a0_c.Version 1 2147483647 c_17 g18) [] rfl fn34 ⟨⟨_, rfl, .inl ⟨rfl, rfl⟩⟩, ⟨_, rfl, .inl ⟨rfl, rfl⟩⟩, ⟨_, rfl, .inl ⟨rfl, rfl⟩⟩, trivial⟩ (.inl rfl)) (sq rfl rfl (q_not rfl rfl) (sm rfl rfl (SOps.q rfl (.guard 4 42 false rfl rfl (gF g19)) rfl (q_field_ptr rfl rfl fd47_5) (SOps.q rfl (.guard 4 42 false rfl rfl (gF g19)) rfl (q_load_ptr rfl rfl rfl rfl ty3) (SOps.q rfl (.guard 4 42 false rfl rfl (gF g19)) rfl (q_lss rfl rfl rfl) (sq rfl rfl (q_pick_f rfl rfl g19 rfl) (sm rfl rfl (SOps.q rfl (.guard 9 47 false rfl rfl (gF g20)) rfl (q_field_ptr rfl rfl fd47_5) (SOps.q rfl (.guard 9 47 false rfl rfl (gF g20)) rfl (q_load_ptr rfl rfl rfl rfl ty3) (SOps.q rfl (.guard 9 47 false rfl rfl (gF g20)) rfl (q_field_ptr rfl rfl fd47_6) (SOps.q rfl (.guard 9 47 false rfl rfl (gF g20)) rfl (q_load_ptr rfl rfl rfl rfl ty3) (SOps.q rfl (.guard 9 47 false rfl rfl (gF g20)) rfl (q_gtr rfl rfl rfl) ?_)))))))))))))))
 refine sq rfl rfl (q_pick_f rfl rfl g20 rfl) (sm rfl rfl (SOps.q rfl (.guard 16 54 false rfl rfl (gF g21)) rfl (q_field_ptr rfl rfl fd47_6) (SOps.q rfl (.guard 16 54 false rfl rfl (gF g21)) rfl (q_load_ptr rfl rfl rfl rfl ty3) (SOps.q rfl (.guard 16 54 false rfl rfl (gF g21)) rfl (q_gtr rfl rfl rfl) (sq rfl rfl (q_pick_f rfl rfl g21 rfl) (sm rfl rfl (SOps.q rfl (.guard 21 59 false rfl rfl (gF g22)) rfl (q_field_ptr rfl rfl fd47_7) (SOps.q rfl (.guard 21 59 false rfl rfl (gF g22)) rfl (q_load_ptr rfl rfl rfl rfl ty3) (SOps.q rfl (.guard 21 59 false rfl rfl (gF g22)) rfl (q_call (chargenetref46_in_ok F a0_c.Energy 0 36028797018963968 c_23 g24) [] rfl fn34 ⟨⟨_, rfl, .inl ⟨rfl, rfl⟩⟩, ⟨_, rfl, .inl ⟨rfl, rfl⟩⟩, ⟨_, rfl, .inl ⟨rfl, rfl⟩⟩, trivial⟩ (.inl rfl)) (SOps.q rfl (.guard 21 59 false rfl rfl (gF g22)) rfl (q_not rfl rfl) (sq rfl rfl (q_pick_f rfl rfl g22 rfl) (SOps.sub (st' := ⟨[(1, .c (.ptr 0 0)), (64, .c (.bool ((!c_23))))], [.box (bSCDR a0_c)]⟩) (sub_gen [0] rfl rfl (zall rfl rfl) ⟨bx rfl rfl rfl, trivial⟩) (SOps.nil ?_)))))))))))))
 rcases cond_out h with ⟨g25, h⟩ | ⟨g25, h⟩
 ·refine SCode.cond_t rfl g25 (SCode.seq (SCode.region (sa rfl rfl (SOps.nil (SCode.ret ?_)))))
  obtain rfl := Option.some.inj h
  exact ⟨⟨[(2, ci 2)], []⟩, _, sub_gen [] rfl rfl (zall rfl rfl) trivial, resA1 (v := .c (.int .i64 2)) rfl rfl, rfl⟩
 refine SCode.cond_f rfl g25 (SCode.skip (SCode.seq (SCode.seq ?_)))
 obtain ⟨c_26, g27, h⟩ := bind_out h
 try dsimp only at h
 refine SCode.region (sq rfl rfl (q_field_ptr rfl rfl fd47_9) (sq rfl rfl (q_load_ptr rfl rfl rfl rfl ty9) (sq rfl rfl (q_call (chargenetref46_currency_ok F a0_c.Currency c_26 g27) [] rfl fn35 ⟨⟨_, rfl, .inl ⟨rfl, rfl⟩⟩, trivial⟩ (.inl rfl)) (sq rfl rfl (q_not rfl rfl) (SOps.nil ?_)))))
 rcases cond_out h with ⟨g28, h⟩ | ⟨g28, h⟩
 ·refine SCode.cond_t rfl g28 (SCode.seq (SCode.region (sa rfl rfl (SOps.nil (SCode.ret ?_)))))
  obtain rfl := Option.some.inj h
  exact ⟨⟨[(2, ci 21)], []⟩, _, sub_gen [] rfl rfl (zall rfl rfl) trivial, resA1 (v := .c (.int .i64 21)) rfl rfl, rfl⟩
 refine SCode.cond_f rfl g28 (SCode.skip (SCode.seq (SCode.seq (SCode.region (sq rfl rfl (q_field_ptr rfl rfl fd47_10) (sq rfl rfl (q_load_ptr rfl rfl rfl rfl ty45) (sq rfl rfl (q_len_vec rfl rfl sl45) (sq rfl rfl (q_gtr rfl rfl rfl) (SOps.nil ?_)))))))))
 rcases cond_out h with ⟨g29, h⟩ | ⟨g29, h⟩
 ·refine SCode.cond_t rfl g29 (SCode.seq (SCode.region (sa rfl rfl (SOps.nil (SCode.ret ?_)))))
  obtain rfl := Option.some.inj h
  exact ⟨⟨[(2, ci 3)], []⟩, _, sub_gen [] rfl rfl (zall rfl rfl) trivial, resA1 (v := .c (.int .i64 3)) rfl rfl, rfl⟩
 refine SCode.cond_f rfl g29 (SCode.skip (SCode.seq (SCode.region (sa rfl rfl (SOps.nil ?_)))))
 let S5 := fun (sum_30 : Int) => (⟨[(1, .c (.ptr 0 0)), (3, ci sum_30)], [.box (bSCDR a0_c)]⟩ : St)
 refine SCode.join (σ := Int) (S := fun s => (S5 s)) (g := fun s => chargenetref46_Valid_p44 F a0_c s = some r) ?_ ?_
 rotate_left
 ·refine SCode.seq (SCode.region (sa rfl rfl (SOps.nil (SCode.block ?_))))
  let S4 := fun (sum_51 : Int) => fun (i_52 : Int) => (⟨[(1, .c (.ptr 0 0)), (3, ci sum_51), (4, ci i_52)], [.box (bSCDR a0_c)]⟩ : St)
  refine SCode.sub (st' := (S4 0 0)) (sub_gen [0] rfl rfl (zall rfl rfl) ⟨bx rfl rfl rfl, trivial⟩) ?_
  refine (SCode.loop (σ := Nat × (Int × Int)) (S := fun s => (S4 s.2.1 s.2.2)) (g := fun s => chargenetref46_Valid_l59 F a0_c s.1 s.2.1 s.2.2 = some r) (μ := fun s => s.1) (F, (0, 0)) h ?_)
  rintro ⟨n_59, ⟨sum_51, i_52⟩⟩ h
  try dsimp only at h
  show SCode _ _ _ (S4 sum_51 i_52) _
  cases n_59 with
  | zero => cases h
  | succ n_59 =>
   rw [chargenetref46_Valid_l59] at h
   unfold chargenetref46_Valid_b59 at h
   refine SCode.seq (SCode.seq (SCode.region (sm rfl rfl (sq rfl rfl (q_field_ptr rfl rfl fd47_10) (sq rfl rfl (q_load_ptr rfl rfl rfl rfl ty45) (sq rfl rfl (q_len_vec rfl rfl sl45) (sq rfl rfl (q_lss rfl rfl rfl) (SOps.nil ?_))))))))
   rcases cond_out h with ⟨g60, h⟩ | ⟨g60, h⟩
   ·refine SCode.cond_t rfl g60 (SCode.skip (SCode.seq (SCode.block (SCode.seq (SCode.seq ?_)))))
    obtain ⟨g61, h⟩ := guard_out h
    obtain ⟨c_62, g63, h⟩ := bind_out h
    try dsimp only at h
    refine SCode.region (sq rfl rfl (q_field_ptr rfl rfl fd47_10) (sq rfl rfl (q_load_ptr rfl rfl rfl rfl ty45) (sm rfl rfl (sq rfl rfl (q_index_vec rfl rfl rfl sl45 rfl g61.1 g61.2) (sq rfl rfl (q_load_eptr_all rfl rfl rfl ty81) (sq rfl rfl (q_call (chargenetref46_item_ok F (a0_c.Items.getD i_52.toNat dSItem) c_62 g63) [] rfl fn36 ⟨⟨rfl, rfl⟩, trivial⟩ (.inl rfl)) (sq rfl rfl (q_not rfl rfl) (SOps.nil ?_))))))))
    rcases cond_out h with ⟨g64, h⟩ | ⟨g64, h⟩
    ·refine SCode.cond_t rfl g64 (SCode.seq (SCode.region (sa rfl rfl (SOps.nil (SCode.ret ?_)))))
     obtain rfl := Option.some.inj h
     exact ⟨⟨[(2, ci 1)], []⟩, _, sub_gen [] rfl rfl (zall rfl rfl) trivial, resA1 (v := .c (.int .i64 1)) rfl rfl, rfl⟩
    refine SCode.cond_f rfl g64 (SCode.skip ?_)
    obtain ⟨g65, h⟩ := guard_out h
    refine SCode.region (sm rfl rfl (sq rfl rfl (q_field_ptr rfl rfl fd47_10) (sq rfl rfl (q_load_ptr rfl rfl rfl rfl ty45) (sm rfl rfl (sq rfl rfl (q_index_vec rfl rfl rfl sl45 rfl g65.1 g65.2) (sq rfl rfl (q_field_eptr rfl rfl fd81_6 rfl) (sq rfl rfl (q_load_eptr rfl rfl ty3) (sq rfl rfl (q_add rfl rfl rfl) (sa rfl rfl (SOps.sub (st' := ⟨[(1, .c (.ptr 0 0)), (3, ci (IntKind.wrap .i64 (sum_51 + (a0_c.Items.getD i_52.toNat dSItem).Gross))), (4, ci i_52)], [.box (bSCDR a0_c)]⟩) (sub_gen [0] rfl rfl (zall rfl rfl) ⟨bx rfl rfl rfl, trivial⟩) (SOps.nil (SCode.region (sm rfl rfl (sq rfl rfl (q_add rfl rfl rfl) (sa rfl rfl ?_)))))))))))))))
    refine SOps.nil ?_
    exact ⟨(n_59, (IntKind.wrap .i64 (sum_51 + (a0_c.Items.getD i_52.toNat dSItem).Gross), IntKind.wrap .i64 (i_52 + 1))), h, Nat.lt_succ_self n_59, sub_gen [0] rfl rfl (zall rfl rfl) ⟨bx rfl rfl rfl, trivial⟩⟩
   refine SCode.cond_f rfl g60 (SCode.exit ?_)
   exact ⟨sum_51, h, sub_gen [0] rfl rfl (zall rfl rfl) ⟨bx rfl rfl rfl, trivial⟩⟩
 rintro sum_30 h
 show SCode _ _ _ (S5 sum_30) _
 try dsimp only at h
 unfold chargenetref46_Valid_p44 at h
 refine SCode.seq (SCode.seq (SCode.region (sq rfl rfl (q_field_ptr rfl rfl fd47_11) (sq rfl rfl (q_load_ptr rfl rfl rfl rfl ty3) (sm rfl rfl (sq rfl rfl (q_neq rfl rfl rfl) (SOps.nil ?_)))))))
 rcases cond_out h with ⟨g31, h⟩ | ⟨g31, h⟩
 ·refine SCode.cond_t rfl g31 (SCode.seq (SCode.region (sa rfl rfl (SOps.nil (SCode.ret ?_)))))
  obtain rfl := Option.some.inj h
  exact ⟨⟨[(2, ci 1)], []⟩, _, sub_gen [] rfl rfl (zall rfl rfl) trivial, resA1 (v := .c (.int .i64 1)) rfl rfl, rfl⟩
 refine SCode.cond_f rfl g31 (SCode.skip ?_)
 let S3 := (⟨[(1, .c (.ptr 0 0))], [.box (bSCDR a0_c)]⟩ : St)
 refine SCode.join (σ := Unit) (S := fun s => S3) (g := fun s => chargenetref46_Valid_p39 a0_c = some r) ?_ ?_
 rotate_left
 ·refine SCode.seq ?_
  rcases cond_out h with ⟨g40, h⟩ | ⟨g40, h⟩
  ·obtain ⟨c_41, g42, h⟩ := bind_out h
   try dsimp only at h
   refine SCode.region (sq rfl rfl (q_field_ptr rfl rfl fd47_12) (sq rfl rfl (q_load_ptr rfl rfl rfl rfl ty4) (sm rfl rfl (SOps.q rfl (.guard 2 101 true rfl rfl (gT g40)) rfl (q_field_ptr rfl rfl fd47_13) (SOps.q rfl (.guard 2 101 true rfl rfl (gT g40)) rfl (q_load_ptr rfl rfl rfl rfl ty9) (SOps.q rfl (.guard 2 101 true rfl rfl (gT g40)) rfl (q_call (chargenetref01_Valid_ok F a0_c.Ref c_41 g42) [] rfl fn24 ⟨⟨_, rfl, .inl ⟨rfl, rfl⟩⟩, trivial⟩ (.inl rfl)) (SOps.q rfl (.guard 2 101 true rfl rfl (gT g40)) rfl (q_not rfl rfl) (sq rfl rfl (q_pick_t rfl rfl g40 rfl) (SOps.nil ?_)))))))))
   rcases cond_out h with ⟨g43, h⟩ | ⟨g43, h⟩
   ·refine SCode.cond_t rfl g43 (SCode.seq (SCode.region (sa rfl rfl (SOps.nil (SCode.ret ?_)))))
    obtain rfl := Option.some.inj h
    exact ⟨⟨[(2, ci 4)], []⟩, _, sub_gen [] rfl rfl (zall rfl rfl) trivial, resA1 (v := .c (.int .i64 4)) rfl rfl, rfl⟩
   refine SCode.cond_f rfl g43 (SCode.skip ?_)
   exact ⟨(), h, sub_gen [0] rfl rfl (zall rfl rfl) ⟨bx rfl rfl rfl, trivial⟩⟩
  refine SCode.region (sq rfl rfl (q_field_ptr rfl rfl fd47_12) (sq rfl rfl (q_load_ptr rfl rfl rfl rfl ty4) (sm rfl rfl (SOps.skip rfl 2 101 true rfl rfl (.inl (gF g40)) rfl (SOps.skip rfl 2 101 true rfl rfl (.inl (gF g40)) rfl (SOps.skip rfl 2 101 true rfl rfl (.inl (gF g40)) rfl (SOps.skip rfl 2 101 true rfl rfl (.inl (gF g40)) rfl (sq rfl rfl (q_pick_f rfl rfl g40 rfl) (SOps.nil (SCode.cond_f rfl rfl (SCode.skip ?_)))))))))))
  exact ⟨(), h, sub_gen [0] rfl rfl (zall rfl rfl) ⟨bx rfl rfl rfl, trivial⟩⟩
 rintro ⟨⟩ h
 show SCode _ _ _ S3 _
 try dsimp only at h
 unfold chargenetref46_Valid_p39 at h
 let S2 := (⟨[], []⟩ : St)
 refine SCode.join (σ := Unit) (S := fun s => S2) (g := fun s => chargenetref46_Valid_p32 = some r) ?_ ?_
 rotate_left
 ·refine SCode.seq ?_
  rcases cond_out h with ⟨g33, h⟩ | ⟨g33, h⟩
  ·rcases cond_out h with ⟨g34, h⟩ | ⟨g34, h⟩
   ·refine SCode.region (sq rfl rfl (q_field_ptr rfl rfl fd47_12) (sq rfl rfl (q_load_ptr rfl rfl rfl rfl ty4) (sm rfl rfl (SOps.q rfl (.guard 2 109 true rfl rfl (gT g33)) rfl (q_field_ptr rfl rfl fd47_13) (SOps.q rfl (.guard 2 109 true rfl rfl (gT g33)) rfl (q_load_ptr rfl rfl rfl rfl ty9) (SOps.q rfl (.guard 2 109 true rfl rfl (gT g33)) rfl (q_field_ptr rfl rfl fd47_0) (SOps.q rfl (.guard 2 109 true rfl rfl (gT g33)) rfl (q_load_ptr rfl rfl rfl rfl ty9) (SOps.q rfl (.guard 2 109 true rfl rfl (gT g33)) rfl (q_eqlS rfl rfl rfl) (sq rfl rfl (q_pick_t rfl rfl g33 rfl) (sm rfl rfl (SOps.skip rfl 9 116 false rfl rfl (.inl (gT g34)) rfl (SOps.skip rfl 9 116 false rfl rfl (.inl (gT g34)) rfl (SOps.skip rfl 9 116 false rfl rfl (.inl (gT g34)) rfl (SOps.skip rfl 9 116 false rfl rfl (.inl (gT g34)) rfl (SOps.skip rfl 13 120 true rfl rfl (.inr rfl) rfl ?_)))))))))))))))
    refine SOps.skip rfl 13 120 true rfl rfl (.inr rfl) rfl (SOps.skip rfl 13 120 true rfl rfl (.inr rfl) rfl (SOps.skip rfl 9 116 false rfl rfl (.inl (gT g34)) rfl (sq rfl rfl (q_pick_t rfl rfl g34 rfl) (SOps.sub (st' := ⟨[(125, .c (.bool true))], []⟩) (sub_gen [] rfl rfl (zall rfl rfl) trivial) (SOps.nil (SCode.cond_t rfl rfl (SCode.seq (SCode.region (sa rfl rfl (SOps.nil (SCode.ret ?_)))))))))))
    obtain rfl := Option.some.inj h
    exact ⟨⟨[(2, ci 1)], []⟩, _, sub_gen [] rfl rfl (zall rfl rfl) trivial, resA1 (v := .c (.int .i64 1)) rfl rfl, rfl⟩
   rcases cond_out h with ⟨g35, h⟩ | ⟨g35, h⟩
   ·refine SCode.region (sq rfl rfl (q_field_ptr rfl rfl fd47_12) (sq rfl rfl (q_load_ptr rfl rfl rfl rfl ty4) (sm rfl rfl (SOps.q rfl (.guard 2 109 true rfl rfl (gT g33)) rfl (q_field_ptr rfl rfl fd47_13) (SOps.q rfl (.guard 2 109 true rfl rfl (gT g33)) rfl (q_load_ptr rfl rfl rfl rfl ty9) (SOps.q rfl (.guard 2 109 true rfl rfl (gT g33)) rfl (q_field_ptr rfl rfl fd47_0) (SOps.q rfl (.guard 2 109 true rfl rfl (gT g33)) rfl (q_load_ptr rfl rfl rfl rfl ty9) (SOps.q rfl (.guard 2 109 true rfl rfl (gT g33)) rfl (q_eqlS rfl rfl rfl) (sq rfl rfl (q_pick_t rfl rfl g33 rfl) (sm rfl rfl (SOps.q rfl (.guard 9 116 false rfl rfl (gF g34)) rfl (q_field_ptr rfl rfl fd47_12) (SOps.q rfl (.guard 9 116 false rfl rfl (gF g34)) rfl (q_load_ptr rfl rfl rfl rfl ty4) (SOps.q rfl (.guard 9 116 false rfl rfl (gF g34)) rfl (q_not rfl rfl) (SOps.q rfl (.guard 9 116 false rfl rfl (gF g34)) rfl (q_move rfl rfl) (SOps.q rfl (.guard 13 120 true rfl rfl (gT g35)) rfl (q_field_ptr rfl rfl fd47_13) ?_)))))))))))))))
    refine SOps.q rfl (.guard 13 120 true rfl rfl (gT g35)) rfl (q_load_ptr rfl rfl rfl rfl ty9) (SOps.q rfl (.guard 13 120 true rfl rfl (gT g35)) rfl (q_neqS rfl rfl rfl) (SOps.q rfl (.guard 9 116 false rfl rfl (gF g34)) rfl (q_pick_t rfl rfl g35 rfl) (sq rfl rfl (q_pick_f rfl rfl g34 rfl) (SOps.sub (st' := ⟨[(125, .c (.bool ((!(sEq a0_c.Ref ByteArray.empty)))))], []⟩) (sub_gen [] rfl rfl (zall rfl rfl) trivial) (SOps.nil ?_)))))
    rcases cond_out h with ⟨g36, h⟩ | ⟨g36, h⟩
    ·refine SCode.cond_t rfl g36 (SCode.seq (SCode.region (sa rfl rfl (SOps.nil (SCode.ret ?_)))))
     obtain rfl := Option.some.inj h
     exact ⟨⟨[(2, ci 1)], []⟩, _, sub_gen [] rfl rfl (zall rfl rfl) trivial, resA1 (v := .c (.int .i64 1)) rfl rfl, rfl⟩
    refine SCode.cond_f rfl g36 (SCode.skip ?_)
    exact ⟨(), h, sub_gen [] rfl rfl trivial trivial⟩
   refine SCode.region (sq rfl rfl (q_field_ptr rfl rfl fd47_12) (sq rfl rfl (q_load_ptr rfl rfl rfl rfl ty4) (sm rfl rfl (SOps.q rfl (.guard 2 109 true rfl rfl (gT g33)) rfl (q_field_ptr rfl rfl fd47_13) (SOps.q rfl (.guard 2 109 true rfl rfl (gT g33)) rfl (q_load_ptr rfl rfl rfl rfl ty9) (SOps.q rfl (.guard 2 109 true rfl rfl (gT g33)) rfl (q_field_ptr rfl rfl fd47_0) (SOps.q rfl (.guard 2 109 true rfl rfl (gT g33)) rfl (q_load_ptr rfl rfl rfl rfl ty9) (SOps.q rfl (.guard 2 109 true rfl rfl (gT g33)) rfl (q_eqlS rfl rfl rfl) (sq rfl rfl (q_pick_t rfl rfl g33 rfl) (sm rfl rfl (SOps.q rfl (.guard 9 116 false rfl rfl (gF g34)) rfl (q_field_ptr rfl rfl fd47_12) (SOps.q rfl (.guard 9 116 false rfl rfl (gF g34)) rfl (q_load_ptr rfl rfl rfl rfl ty4) (SOps.q rfl (.guard 9 116 false rfl rfl (gF g34)) rfl (q_not rfl rfl) (SOps.q rfl (.guard 9 116 false rfl rfl (gF g34)) rfl (q_move rfl rfl) (SOps.skip rfl 13 120 true rfl rfl (.inl (gF g35)) rfl ?_)))))))))))))))
   refine SOps.skip rfl 13 120 true rfl rfl (.inl (gF g35)) rfl (SOps.skip rfl 13 120 true rfl rfl (.inl (gF g35)) rfl (SOps.q rfl (.guard 9 116 false rfl rfl (gF g34)) rfl (q_pick_f rfl rfl g35 rfl) (sq rfl rfl (q_pick_f rfl rfl g34 rfl) (SOps.sub (st' := ⟨[(125, .c (.bool false))], []⟩) (sub_gen [] rfl rfl (zall rfl rfl) trivial) (SOps.nil (SCode.cond_f rfl rfl (SCode.skip ?_)))))))
   exact ⟨(), h, sub_gen [] rfl rfl trivial trivial⟩
  rcases cond_out h with ⟨g37, h⟩ | ⟨g37, h⟩
  ·refine SCode.region (sq rfl rfl (q_field_ptr rfl rfl fd47_12) (sq rfl rfl (q_load_ptr rfl rfl rfl rfl ty4) (sm rfl rfl (SOps.skip rfl 2 109 true rfl rfl (.inl (gF g33)) rfl (SOps.skip rfl 2 109 true rfl rfl (.inl (gF g33)) rfl (SOps.skip rfl 2 109 true rfl rfl (.inl (gF g33)) rfl (SOps.skip rfl 2 109 true rfl rfl (.inl (gF g33)) rfl (SOps.skip rfl 2 109 true rfl rfl (.inl (gF g33)) rfl (sq rfl rfl (q_pick_f rfl rfl g33 rfl) (sm rfl rfl (SOps.q rfl (.guard 9 116 false rfl rfl rfl) rfl (q_field_ptr rfl rfl fd47_12) (SOps.q rfl (.guard 9 116 false rfl rfl rfl) rfl (q_load_ptr rfl rfl rfl rfl ty4) (SOps.q rfl (.guard 9 116 false rfl rfl rfl) rfl (q_not rfl rfl) (SOps.q rfl (.guard 9 116 false rfl rfl rfl) rfl (q_move rfl rfl) (SOps.q rfl (.guard 13 120 true rfl rfl (gT g37)) rfl (q_field_ptr rfl rfl fd47_13) ?_)))))))))))))))
   refine SOps.q rfl (.guard 13 120 true rfl rfl (gT g37)) rfl (q_load_ptr rfl rfl rfl rfl ty9) (SOps.q rfl (.guard 13 120 true rfl rfl (gT g37)) rfl (q_neqS rfl rfl rfl) (SOps.q rfl (.guard 9 116 false rfl rfl rfl) rfl (q_pick_t rfl rfl g37 rfl) (sq rfl rfl (q_pick_f rfl rfl rfl rfl) (SOps.sub (st' := ⟨[(125, .c (.bool ((!(sEq a0_c.Ref ByteArray.empty)))))], []⟩) (sub_gen [] rfl rfl (zall rfl rfl) trivial) (SOps.nil ?_)))))
   rcases cond_out h with ⟨g38, h⟩ | ⟨g38, h⟩
   ·refine SCode.cond_t rfl g38 (SCode.seq (SCode.region (sa rfl rfl (SOps.nil (SCode.ret ?_)))))
    obtain rfl := Option.some.inj h
    exact ⟨⟨[(2, ci 1)], []⟩, _, sub_gen [] rfl rfl (zall rfl rfl) trivial, resA1 (v := .c (.int .i64 1)) rfl rfl, rfl⟩
   refine SCode.cond_f rfl g38 (SCode.skip ?_)
   exact ⟨(), h, sub_gen [] rfl rfl trivial trivial⟩
  refine SCode.region (sq rfl rfl (q_field_ptr rfl rfl fd47_12) (sq rfl rfl (q_load_ptr rfl rfl rfl rfl ty4) (sm rfl rfl (SOps.skip rfl 2 109 true rfl rfl (.inl (gF g33)) rfl (SOps.skip rfl 2 109 true rfl rfl (.inl (gF g33)) rfl (SOps.skip rfl 2 109 true rfl rfl (.inl (gF g33)) rfl (SOps.skip rfl 2 109 true rfl rfl (.inl (gF g33)) rfl (SOps.skip rfl 2 109 true rfl rfl (.inl (gF g33)) rfl (sq rfl rfl (q_pick_f rfl rfl g33 rfl) (sm rfl rfl (SOps.q rfl (.guard 9 116 false rfl rfl rfl) rfl (q_field_ptr rfl rfl fd47_12) (SOps.q rfl (.guard 9 116 false rfl rfl rfl) rfl (q_load_ptr rfl rfl rfl rfl ty4) (SOps.q rfl (.guard 9 116 false rfl rfl rfl) rfl (q_not rfl rfl) (SOps.q rfl (.guard 9 116 false rfl rfl rfl) rfl (q_move rfl rfl) (SOps.skip rfl 13 120 true rfl rfl (.inl (gF g37)) rfl ?_)))))))))))))))
  refine SOps.skip rfl 13 120 true rfl rfl (.inl (gF g37)) rfl (SOps.skip rfl 13 120 true rfl rfl (.inl (gF g37)) rfl (SOps.q rfl (.guard 9 116 false rfl rfl rfl) rfl (q_pick_f rfl rfl g37 rfl) (sq rfl rfl (q_pick_f rfl rfl rfl rfl) (SOps.sub (st' := ⟨[(125, .c (.bool false))], []⟩) (sub_gen [] rfl rfl (zall rfl rfl) trivial) (SOps.nil (SCode.cond_f rfl rfl (SCode.skip ?_)))))))
  exact ⟨(), h, sub_gen [] rfl rfl trivial trivial⟩
 rintro ⟨⟩ h
 show SCode _ _ _ S2 _
 try dsimp only at h
 unfold chargenetref46_Valid_p32 at h
 refine SCode.seq (SCode.region (sa rfl rfl (SOps.nil (SCode.ret ?_))))
 obtain rfl := Option.some.inj h
 exact ⟨⟨[(2, ci 0)], []⟩, _, sub_gen [] rfl rfl (zall rfl rfl) trivial, resA1 (v := .c (.int .i64 0)) rfl rfl, rfl⟩
theorem chargenetref43_Negate_ok (F : Nat) (a0_l : List SItem) (r : List SItem) (h : chargenetref43_Negate F a0_l = some r) :
  SFun Try.prog 37 [] [.c (vSItem a0_l)] (fun x _ => x = .c (vSItem r)) := by
 refine SFun.of (n := 37) Try.func37 rfl rfl rfl ?_
 unfold chargenetref43_Negate at h
 show SCode _ _ _ ⟨[(0, .c (vSItem a0_l))], []⟩ _
 refine SCode.seq (SCode.region (sa rfl rfl (SOps.nil (SCode.seq (SCode.region (sa rfl rfl (SOps.nilArrL (T := 81) (k := 7) cSItem dSItem (s := 3) rfl rfl (SOps.nil ?_))))))))
 let S3 := fun (o0_1 : List SItem) => (⟨[(3, .c (.own 0 o0_1.length))], [aSItem 81 o0_1]⟩ : St)
 refine SCode.join (σ := (List SItem)) (S := fun s => (S3 s)) (g := fun s => chargenetref43_Negate_p2 s = some r) ?_ ?_
 rotate_left
 ·refine SCode.seq (SCode.region (sa rfl rfl (SOps.nil (SCode.block ?_))))
  let S2 := fun (i_6 : Int) => fun (o0_7 : List SItem) => (⟨[(0, .c (vSItem a0_l)), (3, .c (.own 0 o0_7.length)), (4, ci i_6)], [aSItem 81 o0_7]⟩ : St)
  refine SCode.sub (st' := (S2 0 (([] : List SItem)))) (sub_gen [0] rfl rfl (zall rfl rfl) ⟨oa rfl, trivial⟩) ?_
  refine (SCode.loop (σ := Nat × (Int × (List SItem))) (S := fun s => (S2 s.2.1 s.2.2)) (g := fun s => chargenetref43_Negate_l11 a0_l s.1 s.2.1 s.2.2 = some r) (μ := fun s => s.1) (F, (0, ([] : List SItem))) h ?_)
  rintro ⟨n_11, ⟨i_6, o0_7⟩⟩ h
  try dsimp only at h
  show SCode _ _ _ (S2 i_6 o0_7) _
  cases n_11 with
  | zero => cases h
  | succ n_11 =>
   rw [chargenetref43_Negate_l11] at h
   unfold chargenetref43_Negate_b11 at h
   refine SCode.seq (SCode.seq (SCode.region (sm rfl rfl (sm rfl rfl (sq rfl rfl (q_len_vec rfl rfl sl45) (sq rfl rfl (q_lss rfl rfl rfl) (SOps.nil ?_)))))))
   rcases cond_out h with ⟨g12, h⟩ | ⟨g12, h⟩
   ·refine SCode.cond_t rfl g12 (SCode.skip (SCode.seq (SCode.block (SCode.seq ?_))))
    obtain ⟨g13, h⟩ := guard_out h
    refine SCode.region (sm rfl rfl (sm rfl rfl (sq rfl rfl (q_index_vec rfl rfl rfl sl45 rfl g13.1 g13.2) (sq rfl rfl (q_load_eptr_all rfl rfl rfl ty81) (se rfl rfl (e_alloc rfl rfl rfl z81) (se rfl rfl (e_store_box rfl rfl rfl rfl rfl ty81 rfl rfl rfl rfl) (SOps.nil (SCode.seq (SCode.region (sq rfl rfl (q_field_ptr rfl rfl fd81_1) (sq rfl rfl (q_load_ptr rfl rfl rfl rfl ty3) (sq rfl rfl (q_neg rfl rfl) (sq rfl rfl (q_field_ptr rfl rfl fd81_4) (sq rfl rfl (q_load_ptr rfl rfl rfl rfl ty3) (sq rfl rfl (q_neg rfl rfl) ?_)))))))))))))))
    refine sq rfl rfl (q_field_ptr rfl rfl fd81_5) (sq rfl rfl (q_load_ptr rfl rfl rfl rfl ty3) (sq rfl rfl (q_neg rfl rfl) (sq rfl rfl (q_field_ptr rfl rfl fd81_6) (sq rfl rfl (q_load_ptr rfl rfl rfl rfl ty3) (sq rfl rfl (q_neg rfl rfl) (sq rfl rfl (q_field_ptr rfl rfl fd81_1) (se rfl rfl (e_store_box rfl rfl rfl rfl rfl ty3 rfl rfl rfl rfl) (sq rfl rfl (q_field_ptr rfl rfl fd81_4) (se rfl rfl (e_store_box rfl rfl rfl rfl rfl ty3 rfl rfl rfl rfl) (sq rfl rfl (q_field_ptr rfl rfl fd81_5) (se rfl rfl (e_store_box rfl rfl rfl rfl rfl ty3 rfl rfl rfl rfl) (sq rfl rfl (q_field_ptr rfl rfl fd81_6) (se rfl rfl (e_store_box rfl rfl rfl rfl rfl ty3 rfl rfl rfl rfl) ?_)))))))))))))
    let y1 := a0_l.getD i_6.toNat dSItem
    refine SOps.sub (st' := ⟨[(0, .c (vSItem a0_l)), (3, .c (.own 0 o0_7.length)), (4, ci i_6), (5, .c (.ptr 1 0))], [aSItem 81 o0_7, .box [.int .i64 (y1.Kind), .int .i64 (IntKind.wrap .i64 (0 - y1.Price)), .int .i64 (y1.Tax), .int .i64 (y1.Quantity), .int .i64 (IntKind.wrap .i64 (0 - y1.Net)), .int .i64 (IntKind.wrap .i64 (0 - y1.Vat)), .int .i64 (IntKind.wrap .i64 (0 - y1.Gross))]]⟩) (sub_gen [0, 1] rfl rfl (zall rfl rfl) ⟨oa rfl, bx rfl rfl rfl, trivial⟩) (SOps.nil ?_)
    obtain ⟨g14, h⟩ := guard_out h
    refine SCode.region (sm rfl rfl (sq rfl rfl (q_load_ptr_all rfl rfl rfl rfl rfl ty81) ?_))
    let y2 := a0_l.getD i_6.toNat dSItem
    refine sq rfl rfl (q_bsliceL (c := cSItem) (d0 := dSItem) [SItem.mk (y2.Kind) (IntKind.wrap .i64 (0 - y2.Price)) (y2.Tax) (y2.Quantity) (IntKind.wrap .i64 (0 - y2.Net)) (IntKind.wrap .i64 (0 - y2.Vat)) (IntKind.wrap .i64 (0 - y2.Gross))] rfl rfl sl45 z81 rfl rfl rfl rfl rfl rfl rfl) ?_
    let y3 := a0_l.getD i_6.toNat dSItem
    refine se rfl rfl (e_appendL (c := cSItem) (d0 := dSItem) (l := o0_7) (l2 := [SItem.mk (y3.Kind) (IntKind.wrap .i64 (0 - y3.Price)) (y3.Tax) (y3.Quantity) (IntKind.wrap .i64 (0 - y3.Net)) (IntKind.wrap .i64 (0 - y3.Vat)) (IntKind.wrap .i64 (0 - y3.Gross))]) rfl rfl rfl rfl rfl rfl (.inl rfl) sl45 z81 rfl rfl oneSItem g14.1 g14.2) (sa rfl rfl ?_)
    let y4 := o0_7 ++ ([SItem.mk ((a0_l.getD i_6.toNat dSItem).Kind) (IntKind.wrap .i64 (0 - (a0_l.getD i_6.toNat dSItem).Price)) ((a0_l.getD i_6.toNat dSItem).Tax) ((a0_l.getD i_6.toNat dSItem).Quantity) (IntKind.wrap .i64 (0 - (a0_l.getD i_6.toNat dSItem).Net)) (IntKind.wrap .i64 (0 - (a0_l.getD i_6.toNat dSItem).Vat)) (IntKind.wrap .i64 (0 - (a0_l.getD i_6.toNat dSItem).Gross))])
    refine SOps.sub (st' := ⟨[(0, .c (vSItem a0_l)), (3, .c (.own 0 y4.length)), (4, ci i_6)], [aSItem 81 y4]⟩) (sub_gen [2] rfl rfl (zall rfl rfl) ⟨oa rfl, trivial⟩) (SOps.nil (SCode.region (sm rfl rfl (sq rfl rfl (q_add rfl rfl rfl) (sa rfl rfl (SOps.nil ?_))))))
    let y5 := a0_l.getD i_6.toNat dSItem
    exact ⟨(n_11, (IntKind.wrap .i64 (i_6 + 1), o0_7 ++ ([SItem.mk (y5.Kind) (IntKind.wrap .i64 (0 - y5.Price)) (y5.Tax) (y5.Quantity) (IntKind.wrap .i64 (0 - y5.Net)) (IntKind.wrap .i64 (0 - y5.Vat)) (IntKind.wrap .i64 (0 - y5.Gross))]))), h, Nat.lt_succ_self n_11, sub_gen [0] rfl rfl (zall rfl rfl) ⟨oa rfl, trivial⟩⟩
   refine SCode.cond_f rfl g12 (SCode.exit ?_)
   exact ⟨o0_7, h, sub_gen [0] rfl rfl (zall rfl rfl) ⟨oa rfl, trivial⟩⟩
 rintro o0_1 h
 show SCode _ _ _ (S3 o0_1) _
 try dsimp only at h
 unfold chargenetref43_Negate_p2 at h
 refine SCode.seq (SCode.region (sm rfl rfl (sa rfl rfl (SOps.nil (SCode.ret ?_)))))
 obtain rfl := Option.some.inj h
 exact ⟨⟨[(2, .c (vSItem o0_1))], []⟩, _, sub_gen [] rfl rfl ⟨⟨_, rfl, .inr (.inl ⟨_, _, _, _, _, _, _, rfl, rfl, rfl, Nat.le_refl _, fun _ _ _ _ => rfl, nm rfl⟩)⟩, trivial⟩ trivial, resA1 (v := .c (vSItem o0_1)) rfl rfl, rfl⟩
end Go.Proofs.Ytoncfkdgddfnlaa.W
