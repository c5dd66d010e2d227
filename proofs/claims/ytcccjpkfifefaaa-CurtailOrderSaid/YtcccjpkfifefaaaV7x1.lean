/- Written by a program of ours (wip/eng/gen.py): the functions compute their models. -/
import Derived.Test.YtcccjpkfifefaaaFacts
namespace Go.Proofs.Ytcccjpkfifefaaa.W
open Go Go.Proofs Go.Proofs.Ytcccjpkfifefaaa.E Go.Proofs.Ytcccjpkfifefaaa.M
set_option linter.unusedVariables false
set_option maxRecDepth 100000 in
set_option maxHeartbeats 8000000 in
theorem ident_value_ok (F : Nat) (a0_r : Int) (r : Int) (h : ident_value F a0_r = some r) :
    SFun Try.prog 36 [] [.c (.int .i32 a0_r)] (fun x _ => x = .c (.int .i64 r)) := by
  refine SFun.of (n := 35) Try.func36 rfl rfl rfl ?_
  unfold ident_value at h
  show SCode _ _ _ ⟨[(0, .c (.int .i32 a0_r))], []⟩ _
  refine SCode.seq ?_
  refine SCode.region (show SOps _ _ _ [0] _ _ from ?_)
  refine SOps.q rfl (.plain rfl) rfl (q_assign rfl rfl) ?_
  refine SOps.sub (st' := ⟨[(0, .c (.int .i32 a0_r))], []⟩) (sub_gen [] rfl rfl ⟨zc rfl rfl, trivial⟩ trivial) ?_
  refine SOps.nil ?_
  refine SCode.join (σ := Unit) (S := fun s => ⟨[], []⟩) (g := fun s => ident_value_p1 = some r) ?_ ?_
  rotate_left
  · refine SCode.block ?_
    refine SCode.join (σ := Bool) (S := fun s => ⟨[(0, .c (.int .i32 a0_r)), (3, .c (.bool s))], []⟩) (g := fun s => ident_value_p10 a0_r s = some r) ?_ ?_
    rotate_left
    · rcases cond_out h with ⟨g11, h⟩ | ⟨g11, h⟩
      · refine SCode.region (show SOps _ _ _ [0, 1, 2, 3, 4, 5, 6] _ _ from ?_)
        refine SOps.q rfl (.plain rfl) rfl (q_move rfl rfl) ?_
        refine SOps.q rfl (.plain rfl) rfl (q_geq rfl rfl rfl) ?_
        refine SOps.q rfl (.plain rfl) rfl (q_move rfl rfl) ?_
        refine SOps.q rfl (.guard 2 6 true rfl rfl (gT g11)) rfl (q_move rfl rfl) ?_
        refine SOps.q rfl (.guard 2 6 true rfl rfl (gT g11)) rfl (q_leq rfl rfl rfl) ?_
        refine SOps.q rfl (.plain rfl) rfl (q_pick_t rfl rfl g11 rfl) ?_
        refine SOps.q rfl (.plain rfl) rfl (q_assign rfl rfl) ?_
        refine SOps.sub (st' := ⟨[(0, .c (.int .i32 a0_r)), (3, .c (.bool (decide (a0_r ≤ 57))))], []⟩) (sub_gen [] rfl rfl ⟨zc rfl rfl, zc rfl rfl, trivial⟩ trivial) ?_
        refine SOps.nil ?_
        exact ⟨decide (a0_r ≤ 57), h, sub_gen [] rfl rfl ⟨zc rfl rfl, zc rfl rfl, trivial⟩ trivial⟩
      refine SCode.region (show SOps _ _ _ [0, 1, 2, 3, 4, 5, 6] _ _ from ?_)
      refine SOps.q rfl (.plain rfl) rfl (q_move rfl rfl) ?_
      refine SOps.q rfl (.plain rfl) rfl (q_geq rfl rfl rfl) ?_
      refine SOps.q rfl (.plain rfl) rfl (q_move rfl rfl) ?_
      refine SOps.skip rfl 2 6 true rfl rfl (.inl (gF g11)) rfl ?_
      refine SOps.skip rfl 2 6 true rfl rfl (.inl (gF g11)) rfl ?_
      refine SOps.q rfl (.plain rfl) rfl (q_pick_f rfl rfl g11 rfl) ?_
      refine SOps.q rfl (.plain rfl) rfl (q_assign rfl rfl) ?_
      refine SOps.sub (st' := ⟨[(0, .c (.int .i32 a0_r)), (3, .c (.bool false))], []⟩) (sub_gen [] rfl rfl ⟨zc rfl rfl, zc rfl rfl, trivial⟩ trivial) ?_
      refine SOps.nil ?_
      exact ⟨false, h, sub_gen [] rfl rfl ⟨zc rfl rfl, zc rfl rfl, trivial⟩ trivial⟩
    rintro t3_2 h
    show SCode _ _ _ ⟨[(0, .c (.int .i32 a0_r)), (3, .c (.bool t3_2))], []⟩ _
    replace h : ident_value_p10 a0_r t3_2 = some r := h
    unfold ident_value_p10 at h
    rcases cond_out h with ⟨g3, h⟩ | ⟨g3, h⟩
    · refine SCode.cond_t rfl g3 ?_
      refine SCode.seq ?_
      refine SCode.region (show SOps _ _ _ [0, 1, 2, 3] _ _ from ?_)
      refine SOps.q rfl (.plain rfl) rfl (q_move rfl rfl) ?_
      refine SOps.q rfl (.plain rfl) rfl (q_sub rfl rfl rfl) ?_
      refine SOps.q rfl (.plain rfl) rfl (q_convert rfl rfl un21 un3) ?_
      refine SOps.q rfl (.plain rfl) rfl (q_assign rfl rfl) ?_
      refine SOps.sub (st' := ⟨[(2, .c (.int .i64 (IntKind.wrap .i64 (IntKind.wrap .i32 (a0_r - 48)))))], []⟩) (sub_gen [] rfl rfl ⟨zc rfl rfl, trivial⟩ trivial) ?_
      refine SOps.nil ?_
      refine SCode.ret ?_
      obtain rfl := Option.some.inj h
      exact ⟨⟨[(2, .c (.int .i64 (IntKind.wrap .i64 (IntKind.wrap .i32 (a0_r - 48)))))], []⟩, _, sub_gen [] rfl rfl ⟨zc rfl rfl, trivial⟩ trivial, resA1 (v := .c (.int .i64 (IntKind.wrap .i64 (IntKind.wrap .i32 (a0_r - 48))))) rfl rfl, rfl⟩
    refine SCode.cond_f rfl g3 ?_
    refine SCode.join (σ := Bool) (S := fun s => ⟨[(0, .c (.int .i32 a0_r)), (13, .c (.bool s))], []⟩) (g := fun s => ident_value_p8 a0_r s = some r) ?_ ?_
    rotate_left
    · rcases cond_out h with ⟨g9, h⟩ | ⟨g9, h⟩
      · refine SCode.region (show SOps _ _ _ [0, 1, 2, 3, 4, 5, 6] _ _ from ?_)
        refine SOps.q rfl (.plain rfl) rfl (q_move rfl rfl) ?_
        refine SOps.q rfl (.plain rfl) rfl (q_geq rfl rfl rfl) ?_
        refine SOps.q rfl (.plain rfl) rfl (q_move rfl rfl) ?_
        refine SOps.q rfl (.guard 2 16 true rfl rfl (gT g9)) rfl (q_move rfl rfl) ?_
        refine SOps.q rfl (.guard 2 16 true rfl rfl (gT g9)) rfl (q_leq rfl rfl rfl) ?_
        refine SOps.q rfl (.plain rfl) rfl (q_pick_t rfl rfl g9 rfl) ?_
        refine SOps.q rfl (.plain rfl) rfl (q_assign rfl rfl) ?_
        refine SOps.sub (st' := ⟨[(0, .c (.int .i32 a0_r)), (13, .c (.bool (decide (a0_r ≤ 90))))], []⟩) (sub_gen [] rfl rfl ⟨zc rfl rfl, zc rfl rfl, trivial⟩ trivial) ?_
        refine SOps.nil ?_
        exact ⟨decide (a0_r ≤ 90), h, sub_gen [] rfl rfl ⟨zc rfl rfl, zc rfl rfl, trivial⟩ trivial⟩
      refine SCode.region (show SOps _ _ _ [0, 1, 2, 3, 4, 5, 6] _ _ from ?_)
      refine SOps.q rfl (.plain rfl) rfl (q_move rfl rfl) ?_
      refine SOps.q rfl (.plain rfl) rfl (q_geq rfl rfl rfl) ?_
      refine SOps.q rfl (.plain rfl) rfl (q_move rfl rfl) ?_
      refine SOps.skip rfl 2 16 true rfl rfl (.inl (gF g9)) rfl ?_
      refine SOps.skip rfl 2 16 true rfl rfl (.inl (gF g9)) rfl ?_
      refine SOps.q rfl (.plain rfl) rfl (q_pick_f rfl rfl g9 rfl) ?_
      refine SOps.q rfl (.plain rfl) rfl (q_assign rfl rfl) ?_
      refine SOps.sub (st' := ⟨[(0, .c (.int .i32 a0_r)), (13, .c (.bool false))], []⟩) (sub_gen [] rfl rfl ⟨zc rfl rfl, zc rfl rfl, trivial⟩ trivial) ?_
      refine SOps.nil ?_
      exact ⟨false, h, sub_gen [] rfl rfl ⟨zc rfl rfl, zc rfl rfl, trivial⟩ trivial⟩
    rintro t13_4 h
    show SCode _ _ _ ⟨[(0, .c (.int .i32 a0_r)), (13, .c (.bool t13_4))], []⟩ _
    replace h : ident_value_p8 a0_r t13_4 = some r := h
    unfold ident_value_p8 at h
    rcases cond_out h with ⟨g5, h⟩ | ⟨g5, h⟩
    · refine SCode.cond_t rfl g5 ?_
      refine SCode.seq ?_
      refine SCode.region (show SOps _ _ _ [0, 1, 2, 3, 4] _ _ from ?_)
      refine SOps.q rfl (.plain rfl) rfl (q_move rfl rfl) ?_
      refine SOps.q rfl (.plain rfl) rfl (q_sub rfl rfl rfl) ?_
      refine SOps.q rfl (.plain rfl) rfl (q_convert rfl rfl un21 un3) ?_
      refine SOps.q rfl (.plain rfl) rfl (q_add rfl rfl rfl) ?_
      refine SOps.q rfl (.plain rfl) rfl (q_assign rfl rfl) ?_
      refine SOps.sub (st' := ⟨[(2, .c (.int .i64 (IntKind.wrap .i64 (IntKind.wrap .i64 (IntKind.wrap .i32 (a0_r - 65)) + 10))))], []⟩) (sub_gen [] rfl rfl ⟨zc rfl rfl, trivial⟩ trivial) ?_
      refine SOps.nil ?_
      refine SCode.ret ?_
      obtain rfl := Option.some.inj h
      exact ⟨⟨[(2, .c (.int .i64 (IntKind.wrap .i64 (IntKind.wrap .i64 (IntKind.wrap .i32 (a0_r - 65)) + 10))))], []⟩, _, sub_gen [] rfl rfl ⟨zc rfl rfl, trivial⟩ trivial, resA1 (v := .c (.int .i64 (IntKind.wrap .i64 (IntKind.wrap .i64 (IntKind.wrap .i32 (a0_r - 65)) + 10)))) rfl rfl, rfl⟩
    refine SCode.cond_f rfl g5 ?_
    refine SCode.seq ?_
    rcases cond_out h with ⟨g6, h⟩ | ⟨g6, h⟩
    · refine SCode.region (show SOps _ _ _ [0, 1, 2, 3, 4, 5, 6] _ _ from ?_)
      refine SOps.q rfl (.plain rfl) rfl (q_move rfl rfl) ?_
      refine SOps.q rfl (.plain rfl) rfl (q_geq rfl rfl rfl) ?_
      refine SOps.q rfl (.plain rfl) rfl (q_move rfl rfl) ?_
      refine SOps.q rfl (.guard 2 27 true rfl rfl (gT g6)) rfl (q_move rfl rfl) ?_
      refine SOps.q rfl (.guard 2 27 true rfl rfl (gT g6)) rfl (q_leq rfl rfl rfl) ?_
      refine SOps.q rfl (.plain rfl) rfl (q_pick_t rfl rfl g6 rfl) ?_
      refine SOps.q rfl (.plain rfl) rfl (q_assign rfl rfl) ?_
      refine SOps.sub (st' := ⟨[(0, .c (.int .i32 a0_r)), (24, .c (.bool (decide (a0_r ≤ 122))))], []⟩) (sub_gen [] rfl rfl ⟨zc rfl rfl, zc rfl rfl, trivial⟩ trivial) ?_
      refine SOps.nil ?_
      rcases cond_out h with ⟨g7, h⟩ | ⟨g7, h⟩
      · refine SCode.cond_t rfl g7 ?_
        refine SCode.seq ?_
        refine SCode.region (show SOps _ _ _ [0, 1, 2, 3, 4] _ _ from ?_)
        refine SOps.q rfl (.plain rfl) rfl (q_move rfl rfl) ?_
        refine SOps.q rfl (.plain rfl) rfl (q_sub rfl rfl rfl) ?_
        refine SOps.q rfl (.plain rfl) rfl (q_convert rfl rfl un21 un3) ?_
        refine SOps.q rfl (.plain rfl) rfl (q_add rfl rfl rfl) ?_
        refine SOps.q rfl (.plain rfl) rfl (q_assign rfl rfl) ?_
        refine SOps.sub (st' := ⟨[(2, .c (.int .i64 (IntKind.wrap .i64 (IntKind.wrap .i64 (IntKind.wrap .i32 (a0_r - 97)) + 10))))], []⟩) (sub_gen [] rfl rfl ⟨zc rfl rfl, trivial⟩ trivial) ?_
        refine SOps.nil ?_
        refine SCode.ret ?_
        obtain rfl := Option.some.inj h
        exact ⟨⟨[(2, .c (.int .i64 (IntKind.wrap .i64 (IntKind.wrap .i64 (IntKind.wrap .i32 (a0_r - 97)) + 10))))], []⟩, _, sub_gen [] rfl rfl ⟨zc rfl rfl, trivial⟩ trivial, resA1 (v := .c (.int .i64 (IntKind.wrap .i64 (IntKind.wrap .i64 (IntKind.wrap .i32 (a0_r - 97)) + 10)))) rfl rfl, rfl⟩
      refine SCode.cond_f rfl g7 ?_
      refine SCode.skip ?_
      exact ⟨(), h, sub_gen [] rfl rfl trivial trivial⟩
    refine SCode.region (show SOps _ _ _ [0, 1, 2, 3, 4, 5, 6] _ _ from ?_)
    refine SOps.q rfl (.plain rfl) rfl (q_move rfl rfl) ?_
    refine SOps.q rfl (.plain rfl) rfl (q_geq rfl rfl rfl) ?_
    refine SOps.q rfl (.plain rfl) rfl (q_move rfl rfl) ?_
    refine SOps.skip rfl 2 27 true rfl rfl (.inl (gF g6)) rfl ?_
    refine SOps.skip rfl 2 27 true rfl rfl (.inl (gF g6)) rfl ?_
    refine SOps.q rfl (.plain rfl) rfl (q_pick_f rfl rfl g6 rfl) ?_
    refine SOps.q rfl (.plain rfl) rfl (q_assign rfl rfl) ?_
    refine SOps.sub (st' := ⟨[(0, .c (.int .i32 a0_r)), (24, .c (.bool false))], []⟩) (sub_gen [] rfl rfl ⟨zc rfl rfl, zc rfl rfl, trivial⟩ trivial) ?_
    refine SOps.nil ?_
    refine SCode.cond_f rfl rfl ?_
    refine SCode.skip ?_
    exact ⟨(), h, sub_gen [] rfl rfl trivial trivial⟩
  rintro ⟨⟩ h
  show SCode _ _ _ ⟨[], []⟩ _
  replace h : ident_value_p1 = some r := h
  unfold ident_value_p1 at h
  refine SCode.seq ?_
  refine SCode.region (show SOps _ _ _ [0] _ _ from ?_)
  refine SOps.q rfl (.plain rfl) rfl (q_assign rfl rfl) ?_
  refine SOps.sub (st' := ⟨[(2, .c (.int .i64 ((-1))))], []⟩) (sub_gen [] rfl rfl ⟨zc rfl rfl, trivial⟩ trivial) ?_
  refine SOps.nil ?_
  refine SCode.ret ?_
  obtain rfl := Option.some.inj h
  exact ⟨⟨[(2, .c (.int .i64 ((-1))))], []⟩, _, sub_gen [] rfl rfl ⟨zc rfl rfl, trivial⟩ trivial, resA1 (v := .c (.int .i64 ((-1)))) rfl rfl, rfl⟩
set_option maxRecDepth 100000 in
set_option maxHeartbeats 8000000 in
theorem ident_Valid_ok (F : Nat) (a0_s : ByteArray) (r : Bool) (h : ident_Valid F a0_s = some r) :
    SFun Try.prog 32 [] [.c (.str a0_s)] (fun x _ => x = .c (.bool r)) := by
  refine SFun.of (n := 28) Try.func32 rfl rfl rfl ?_
  unfold ident_Valid at h
  show SCode _ _ _ ⟨[(0, .c (.str a0_s))], []⟩ _
  refine SCode.seq ?_
  refine SCode.region (show SOps _ _ _ [0] _ _ from ?_)
  refine SOps.q rfl (.plain rfl) rfl (q_assign rfl rfl) ?_
  refine SOps.sub (st' := ⟨[(0, .c (.str a0_s))], []⟩) (sub_gen [] rfl rfl ⟨zc rfl rfl, trivial⟩ trivial) ?_
  refine SOps.nil ?_
  refine SCode.seq ?_
  refine SCode.seq ?_
  rcases cond_out h with ⟨g1, h⟩ | ⟨g1, h⟩
  · refine SCode.region (show SOps _ _ _ [0, 1, 2, 3, 4, 5, 6, 7] _ _ from ?_)
    refine SOps.q rfl (.plain rfl) rfl (q_move rfl rfl) ?_
    refine SOps.q rfl (.plain rfl) rfl (q_len_str rfl rfl un9) ?_
    refine SOps.q rfl (.plain rfl) rfl (q_lss rfl rfl rfl) ?_
    refine SOps.q rfl (.plain rfl) rfl (q_move rfl rfl) ?_
    refine SOps.skip rfl 3 8 false rfl rfl (.inl (gT g1)) rfl ?_
    refine SOps.skip rfl 3 8 false rfl rfl (.inl (gT g1)) rfl ?_
    refine SOps.skip rfl 3 8 false rfl rfl (.inl (gT g1)) rfl ?_
    refine SOps.q rfl (.plain rfl) rfl (q_pick_t rfl rfl g1 rfl) ?_
    refine SOps.sub (st' := ⟨[(0, .c (.str a0_s)), (12, .c (.bool true))], []⟩) (sub_gen [] rfl rfl ⟨zc rfl rfl, zc rfl rfl, trivial⟩ trivial) ?_
    refine SOps.nil ?_
    refine SCode.cond_t rfl rfl ?_
    refine SCode.seq ?_
    refine SCode.region (show SOps _ _ _ [0] _ _ from ?_)
    refine SOps.q rfl (.plain rfl) rfl (q_assign rfl rfl) ?_
    refine SOps.sub (st' := ⟨[(2, .c (.bool false))], []⟩) (sub_gen [] rfl rfl ⟨zc rfl rfl, trivial⟩ trivial) ?_
    refine SOps.nil ?_
    refine SCode.ret ?_
    obtain rfl := Option.some.inj h
    exact ⟨⟨[(2, .c (.bool false))], []⟩, _, sub_gen [] rfl rfl ⟨zc rfl rfl, trivial⟩ trivial, resA1 (v := .c (.bool false)) rfl rfl, rfl⟩
  refine SCode.region (show SOps _ _ _ [0, 1, 2, 3, 4, 5, 6, 7] _ _ from ?_)
  refine SOps.q rfl (.plain rfl) rfl (q_move rfl rfl) ?_
  refine SOps.q rfl (.plain rfl) rfl (q_len_str rfl rfl un9) ?_
  refine SOps.q rfl (.plain rfl) rfl (q_lss rfl rfl rfl) ?_
  refine SOps.q rfl (.plain rfl) rfl (q_move rfl rfl) ?_
  refine SOps.q rfl (.guard 3 8 false rfl rfl (gF g1)) rfl (q_move rfl rfl) ?_
  refine SOps.q rfl (.guard 3 8 false rfl rfl (gF g1)) rfl (q_len_str rfl rfl un9) ?_
  refine SOps.q rfl (.guard 3 8 false rfl rfl (gF g1)) rfl (q_gtr rfl rfl rfl) ?_
  refine SOps.q rfl (.plain rfl) rfl (q_pick_f rfl rfl g1 rfl) ?_
  refine SOps.sub (st' := ⟨[(0, .c (.str a0_s)), (12, .c (.bool (decide (36 < (a0_s.size : Int)))))], []⟩) (sub_gen [] rfl rfl ⟨zc rfl rfl, zc rfl rfl, trivial⟩ trivial) ?_
  refine SOps.nil ?_
  rcases cond_out h with ⟨g2, h⟩ | ⟨g2, h⟩
  · refine SCode.cond_t rfl g2 ?_
    refine SCode.seq ?_
    refine SCode.region (show SOps _ _ _ [0] _ _ from ?_)
    refine SOps.q rfl (.plain rfl) rfl (q_assign rfl rfl) ?_
    refine SOps.sub (st' := ⟨[(2, .c (.bool false))], []⟩) (sub_gen [] rfl rfl ⟨zc rfl rfl, trivial⟩ trivial) ?_
    refine SOps.nil ?_
    refine SCode.ret ?_
    obtain rfl := Option.some.inj h
    exact ⟨⟨[(2, .c (.bool false))], []⟩, _, sub_gen [] rfl rfl ⟨zc rfl rfl, trivial⟩ trivial, resA1 (v := .c (.bool false)) rfl rfl, rfl⟩
  refine SCode.cond_f rfl g2 ?_
  refine SCode.skip ?_
  refine SCode.join (σ := Unit) (S := fun s => ⟨[], []⟩) (g := fun s => ident_Valid_p3 = some r) ?_ ?_
  rotate_left
  · refine SCode.seq ?_
    refine SCode.region (show SOps _ _ _ [0, 1] _ _ from ?_)
    refine SOps.q rfl (.plain rfl) rfl (q_move rfl rfl) ?_
    refine SOps.e rfl (.plain rfl) (e_range rfl rfl rfl rfl un9) ?_
    refine SOps.sub (st' := ⟨[(14, .c (.ptr 0 0))], [.raw (.stringIter a0_s 0)]⟩) (sub_gen [0] rfl rfl ⟨zc rfl rfl, trivial⟩ ⟨rfl, trivial⟩) ?_
    refine SOps.nil ?_
    refine SCode.block ?_
    refine SCode.sub (st' := ⟨[(14, .c (.ptr 0 0))], [.raw (.stringIter a0_s 0)]⟩) (sub_gen [0] rfl rfl ⟨zc rfl rfl, trivial⟩ ⟨rfl, trivial⟩) ?_
    refine (SCode.loop (σ := Nat × Nat) (S := fun s => ⟨[(14, .c (.ptr 0 0))], [.raw (.stringIter a0_s s.2)]⟩) (g := fun s => ident_Valid_l29 F a0_s s.1 s.2 = some r) (μ := fun s => s.1) (F, 0) h ?_)
    rintro ⟨n_29, pos_17⟩ h
    replace h : ident_Valid_l29 F a0_s n_29 pos_17 = some r := h
    show SCode _ _ _ ⟨[(14, .c (.ptr 0 0))], [.raw (.stringIter a0_s pos_17)]⟩ _
    cases n_29 with
    | zero => cases h
    | succ n_29 =>
      replace h : ident_Valid_b29 F a0_s (fun pos_17 => ident_Valid_l29 F a0_s n_29 pos_17) pos_17 = some r := h
      unfold ident_Valid_b29 at h
      refine SCode.seq ?_
      rcases cond_out h with ⟨g30, h⟩ | ⟨g30, h⟩
      · refine SCode.region (show SOps _ _ _ [0, 1] _ _ from ?_)
        refine SOps.e rfl (.plain rfl) (e_next_t rfl rfl rfl rfl rfl g30) ?_
        refine SOps.q rfl (.plain rfl) rfl (q_extract rfl rfl rfl) ?_
        refine SOps.sub (st' := ⟨[(14, .c (.ptr 0 0)), (15, .t [.c (.bool true), .c (.int .i64 ((pos_17 : Int))), .c (.int .i32 (((Utf8.decode a0_s pos_17).1 : Int)))]), (16, .c (.bool true))], [.raw (.stringIter a0_s (pos_17 + (Utf8.decode a0_s pos_17).2))]⟩) (sub_gen [0] rfl rfl ⟨zc rfl rfl, ⟨rfl, rfl⟩, zc rfl rfl, trivial⟩ ⟨rfl, trivial⟩) ?_
        refine SOps.nil ?_
        refine SCode.seq ?_
        refine SCode.cond_t rfl rfl ?_
        refine SCode.skip ?_
        refine SCode.block ?_
        refine SCode.seq ?_
        refine SCode.region (show SOps _ _ _ [0, 1] _ _ from ?_)
        refine SOps.q rfl (.plain rfl) rfl (q_extract rfl rfl rfl) ?_
        refine SOps.q rfl (.plain rfl) rfl (q_assign rfl rfl) ?_
        refine SOps.sub (st' := ⟨[(4, .c (.int .i32 (((Utf8.decode a0_s pos_17).1 : Int)))), (14, .c (.ptr 0 0))], [.raw (.stringIter a0_s (pos_17 + (Utf8.decode a0_s pos_17).2))]⟩) (sub_gen [0] rfl rfl ⟨zc rfl rfl, zc rfl rfl, trivial⟩ ⟨rfl, trivial⟩) ?_
        refine SOps.nil ?_
        refine SCode.seq ?_
        refine SCode.seq ?_
        refine SCode.region (show SOps _ _ _ [0] _ _ from ?_)
        refine SOps.q rfl (.plain rfl) rfl (q_move rfl rfl) ?_
        refine SOps.sub (st' := ⟨[(4, .c (.int .i32 (((Utf8.decode a0_s pos_17).1 : Int)))), (14, .c (.ptr 0 0)), (18, .c (.int .i32 (((Utf8.decode a0_s pos_17).1 : Int))))], [.raw (.stringIter a0_s (pos_17 + (Utf8.decode a0_s pos_17).2))]⟩) (sub_gen [0] rfl rfl ⟨zc rfl rfl, zc rfl rfl, zc rfl rfl, trivial⟩ ⟨rfl, trivial⟩) ?_
        refine SOps.nil ?_
        refine SCode.block ?_
        refine SCode.join (σ := Bool) (S := fun s => ⟨[(4, .c (.int .i32 (((Utf8.decode a0_s pos_17).1 : Int)))), (14, .c (.ptr 0 0)), (19, .c (.bool s))], [.raw (.stringIter a0_s (pos_17 + (Utf8.decode a0_s pos_17).2))]⟩) (g := fun s => ident_Valid_p36 F a0_s pos_17 (fun pos_17 => ident_Valid_l29 F a0_s n_29 pos_17) s = some r) ?_ ?_
        rotate_left
        · refine SCode.seq ?_
          refine SCode.region (show SOps _ _ _ [0, 1] _ _ from ?_)
          refine SOps.q rfl (.plain rfl) rfl (q_eql rfl rfl rfl) ?_
          refine SOps.q rfl (.plain rfl) rfl (q_assign rfl rfl) ?_
          refine SOps.sub (st' := ⟨[(4, .c (.int .i32 (((Utf8.decode a0_s pos_17).1 : Int)))), (14, .c (.ptr 0 0)), (18, .c (.int .i32 (((Utf8.decode a0_s pos_17).1 : Int)))), (19, .c (.bool (decide (((Utf8.decode a0_s pos_17).1 : Int) = 45))))], [.raw (.stringIter a0_s (pos_17 + (Utf8.decode a0_s pos_17).2))]⟩) (sub_gen [0] rfl rfl ⟨zc rfl rfl, zc rfl rfl, zc rfl rfl, zc rfl rfl, trivial⟩ ⟨rfl, trivial⟩) ?_
          refine SOps.nil ?_
          rcases cond_out h with ⟨g37, h⟩ | ⟨g37, h⟩
          · refine SCode.cond_t rfl g37 ?_
            refine SCode.skip ?_
            exact ⟨decide (((Utf8.decode a0_s pos_17).1 : Int) = 45), h, sub_gen [0] rfl rfl ⟨zc rfl rfl, zc rfl rfl, zc rfl rfl, trivial⟩ ⟨rfl, trivial⟩⟩
          refine SCode.cond_f rfl g37 ?_
          refine SCode.seq ?_
          refine SCode.region (show SOps _ _ _ [0, 1] _ _ from ?_)
          refine SOps.q rfl (.plain rfl) rfl (q_eql rfl rfl rfl) ?_
          refine SOps.q rfl (.plain rfl) rfl (q_assign rfl rfl) ?_
          refine SOps.sub (st' := ⟨[(4, .c (.int .i32 (((Utf8.decode a0_s pos_17).1 : Int)))), (14, .c (.ptr 0 0)), (18, .c (.int .i32 (((Utf8.decode a0_s pos_17).1 : Int)))), (19, .c (.bool (decide (((Utf8.decode a0_s pos_17).1 : Int) = 95))))], [.raw (.stringIter a0_s (pos_17 + (Utf8.decode a0_s pos_17).2))]⟩) (sub_gen [0] rfl rfl ⟨zc rfl rfl, zc rfl rfl, zc rfl rfl, zc rfl rfl, trivial⟩ ⟨rfl, trivial⟩) ?_
          refine SOps.nil ?_
          rcases cond_out h with ⟨g38, h⟩ | ⟨g38, h⟩
          · refine SCode.cond_t rfl g38 ?_
            refine SCode.skip ?_
            exact ⟨decide (((Utf8.decode a0_s pos_17).1 : Int) = 95), h, sub_gen [0] rfl rfl ⟨zc rfl rfl, zc rfl rfl, zc rfl rfl, trivial⟩ ⟨rfl, trivial⟩⟩
          refine SCode.cond_f rfl g38 ?_
          refine SCode.seq ?_
          refine SCode.region (show SOps _ _ _ [0, 1] _ _ from ?_)
          refine SOps.q rfl (.plain rfl) rfl (q_eql rfl rfl rfl) ?_
          refine SOps.q rfl (.plain rfl) rfl (q_assign rfl rfl) ?_
          refine SOps.sub (st' := ⟨[(4, .c (.int .i32 (((Utf8.decode a0_s pos_17).1 : Int)))), (14, .c (.ptr 0 0)), (18, .c (.int .i32 (((Utf8.decode a0_s pos_17).1 : Int)))), (19, .c (.bool (decide (((Utf8.decode a0_s pos_17).1 : Int) = 46))))], [.raw (.stringIter a0_s (pos_17 + (Utf8.decode a0_s pos_17).2))]⟩) (sub_gen [0] rfl rfl ⟨zc rfl rfl, zc rfl rfl, zc rfl rfl, zc rfl rfl, trivial⟩ ⟨rfl, trivial⟩) ?_
          refine SOps.nil ?_
          rcases cond_out h with ⟨g39, h⟩ | ⟨g39, h⟩
          · refine SCode.cond_t rfl g39 ?_
            refine SCode.skip ?_
            exact ⟨decide (((Utf8.decode a0_s pos_17).1 : Int) = 46), h, sub_gen [0] rfl rfl ⟨zc rfl rfl, zc rfl rfl, zc rfl rfl, trivial⟩ ⟨rfl, trivial⟩⟩
          refine SCode.cond_f rfl g39 ?_
          refine SCode.seq ?_
          refine SCode.region (show SOps _ _ _ [0, 1] _ _ from ?_)
          refine SOps.q rfl (.plain rfl) rfl (q_eql rfl rfl rfl) ?_
          refine SOps.q rfl (.plain rfl) rfl (q_assign rfl rfl) ?_
          refine SOps.sub (st' := ⟨[(4, .c (.int .i32 (((Utf8.decode a0_s pos_17).1 : Int)))), (14, .c (.ptr 0 0)), (18, .c (.int .i32 (((Utf8.decode a0_s pos_17).1 : Int)))), (19, .c (.bool (decide (((Utf8.decode a0_s pos_17).1 : Int) = 58))))], [.raw (.stringIter a0_s (pos_17 + (Utf8.decode a0_s pos_17).2))]⟩) (sub_gen [0] rfl rfl ⟨zc rfl rfl, zc rfl rfl, zc rfl rfl, zc rfl rfl, trivial⟩ ⟨rfl, trivial⟩) ?_
          refine SOps.nil ?_
          rcases cond_out h with ⟨g40, h⟩ | ⟨g40, h⟩
          · refine SCode.cond_t rfl g40 ?_
            refine SCode.skip ?_
            exact ⟨decide (((Utf8.decode a0_s pos_17).1 : Int) = 58), h, sub_gen [0] rfl rfl ⟨zc rfl rfl, zc rfl rfl, zc rfl rfl, trivial⟩ ⟨rfl, trivial⟩⟩
          refine SCode.cond_f rfl g40 ?_
          refine SCode.region (show SOps _ _ _ [0, 1] _ _ from ?_)
          refine SOps.q rfl (.plain rfl) rfl (q_eql rfl rfl rfl) ?_
          refine SOps.q rfl (.plain rfl) rfl (q_assign rfl rfl) ?_
          refine SOps.sub (st' := ⟨[(4, .c (.int .i32 (((Utf8.decode a0_s pos_17).1 : Int)))), (14, .c (.ptr 0 0)), (19, .c (.bool (decide (((Utf8.decode a0_s pos_17).1 : Int) = 42))))], [.raw (.stringIter a0_s (pos_17 + (Utf8.decode a0_s pos_17).2))]⟩) (sub_gen [0] rfl rfl ⟨zc rfl rfl, zc rfl rfl, zc rfl rfl, trivial⟩ ⟨rfl, trivial⟩) ?_
          refine SOps.nil ?_
          exact ⟨decide (((Utf8.decode a0_s pos_17).1 : Int) = 42), h, sub_gen [0] rfl rfl ⟨zc rfl rfl, zc rfl rfl, zc rfl rfl, trivial⟩ ⟨rfl, trivial⟩⟩
        rintro t19_31 h
        show SCode _ _ _ ⟨[(4, .c (.int .i32 (((Utf8.decode a0_s pos_17).1 : Int)))), (14, .c (.ptr 0 0)), (19, .c (.bool t19_31))], [.raw (.stringIter a0_s (pos_17 + (Utf8.decode a0_s pos_17).2))]⟩ _
        replace h : ident_Valid_p36 F a0_s pos_17 (fun pos_17 => ident_Valid_l29 F a0_s n_29 pos_17) t19_31 = some r := h
        unfold ident_Valid_p36 at h
        rcases cond_out h with ⟨g32, h⟩ | ⟨g32, h⟩
        · refine SCode.cond_t rfl g32 ?_
          refine SCode.exit ?_
          exact ⟨(n_29, pos_17 + (Utf8.decode a0_s pos_17).2), h, Nat.lt_succ_self n_29, sub_gen [0] rfl rfl ⟨zc rfl rfl, trivial⟩ ⟨rfl, trivial⟩⟩
        refine SCode.cond_f rfl g32 ?_
        refine SCode.skip ?_
        refine SCode.seq ?_
        obtain ⟨c_33, g34, h⟩ := bind_out h
        try dsimp only at h
        refine SCode.region (show SOps _ _ _ [0, 1, 2] _ _ from ?_)
        refine SOps.q rfl (.plain rfl) rfl (q_move rfl rfl) ?_
        refine SOps.q rfl (.plain rfl) rfl (q_call (ident_value_ok F (((Utf8.decode a0_s pos_17).1 : Int)) c_33 g34) [] rfl fn36 ⟨⟨_, rfl, .inl ⟨rfl, rfl⟩⟩, trivial⟩ (.inl rfl)) ?_
        refine SOps.q rfl (.plain rfl) rfl (q_lss rfl rfl rfl) ?_
        refine SOps.sub (st' := ⟨[(14, .c (.ptr 0 0)), (27, .c (.bool (decide (c_33 < 0))))], [.raw (.stringIter a0_s (pos_17 + (Utf8.decode a0_s pos_17).2))]⟩) (sub_gen [0] rfl rfl ⟨zc rfl rfl, zc rfl rfl, trivial⟩ ⟨rfl, trivial⟩) ?_
        refine SOps.nil ?_
        rcases cond_out h with ⟨g35, h⟩ | ⟨g35, h⟩
        · refine SCode.cond_t rfl g35 ?_
          refine SCode.seq ?_
          refine SCode.region (show SOps _ _ _ [0] _ _ from ?_)
          refine SOps.q rfl (.plain rfl) rfl (q_assign rfl rfl) ?_
          refine SOps.sub (st' := ⟨[(2, .c (.bool false))], []⟩) (sub_gen [] rfl rfl ⟨zc rfl rfl, trivial⟩ trivial) ?_
          refine SOps.nil ?_
          refine SCode.ret ?_
          obtain rfl := Option.some.inj h
          exact ⟨⟨[(2, .c (.bool false))], []⟩, _, sub_gen [] rfl rfl ⟨zc rfl rfl, trivial⟩ trivial, resA1 (v := .c (.bool false)) rfl rfl, rfl⟩
        refine SCode.cond_f rfl g35 ?_
        refine SCode.skip ?_
        exact ⟨(n_29, pos_17 + (Utf8.decode a0_s pos_17).2), h, Nat.lt_succ_self n_29, sub_gen [0] rfl rfl ⟨zc rfl rfl, trivial⟩ ⟨rfl, trivial⟩⟩
      refine SCode.region (show SOps _ _ _ [0, 1] _ _ from ?_)
      refine SOps.q rfl (.plain rfl) rfl (q_next_f rfl rfl rfl g30) ?_
      refine SOps.q rfl (.plain rfl) rfl (q_extract rfl rfl rfl) ?_
      refine SOps.sub (st' := ⟨[(14, .c (.ptr 0 0)), (15, .t [.c (.bool false)]), (16, .c (.bool false))], [.raw (.stringIter a0_s pos_17)]⟩) (sub_gen [0] rfl rfl ⟨zc rfl rfl, ⟨rfl, rfl⟩, zc rfl rfl, trivial⟩ ⟨rfl, trivial⟩) ?_
      refine SOps.nil ?_
      refine SCode.seq ?_
      refine SCode.cond_f rfl rfl ?_
      refine SCode.exit ?_
      exact ⟨(), h, sub_gen [] rfl rfl trivial trivial⟩
  rintro ⟨⟩ h
  show SCode _ _ _ ⟨[], []⟩ _
  replace h : ident_Valid_p3 = some r := h
  unfold ident_Valid_p3 at h
  refine SCode.seq ?_
  refine SCode.region (show SOps _ _ _ [0] _ _ from ?_)
  refine SOps.q rfl (.plain rfl) rfl (q_assign rfl rfl) ?_
  refine SOps.sub (st' := ⟨[(2, .c (.bool true))], []⟩) (sub_gen [] rfl rfl ⟨zc rfl rfl, trivial⟩ trivial) ?_
  refine SOps.nil ?_
  refine SCode.ret ?_
  obtain rfl := Option.some.inj h
  exact ⟨⟨[(2, .c (.bool true))], []⟩, _, sub_gen [] rfl rfl ⟨zc rfl rfl, trivial⟩ trivial, resA1 (v := .c (.bool true)) rfl rfl, rfl⟩
set_option maxRecDepth 100000 in
set_option maxHeartbeats 8000000 in
theorem curtail_check_ok (F : Nat) (a0_c : SCurtail) (a1_feeders : Int) (r : Int) (h : curtail_check F a0_c a1_feeders = some r) :
    SFun Try.prog 23 [] [.a [.str a0_c.Name, .int .i64 a0_c.Version, .int .i64 a0_c.Feeder, .int .i64 a0_c.Span_From, .int .i64 a0_c.Span_To, .int .i64 a0_c.Total, .bool a0_c.Cancelled], .c (.int .i64 a1_feeders)] (fun x _ => x = .c (.int .i64 r)) := by
  refine SFun.of (n := 52) Try.func23 rfl rfl rfl ?_
  unfold curtail_check at h
  show SCode _ _ _ ⟨[(0, .a [.str a0_c.Name, .int .i64 a0_c.Version, .int .i64 a0_c.Feeder, .int .i64 a0_c.Span_From, .int .i64 a0_c.Span_To, .int .i64 a0_c.Total, .bool a0_c.Cancelled]), (1, .c (.int .i64 a1_feeders))], []⟩ _
  refine SCode.seq ?_
  refine SCode.region (show SOps _ _ _ [0, 1] _ _ from ?_)
  refine SOps.e rfl (.plain rfl) (e_box rfl rfl rfl rfl rfl rfl) ?_
  refine SOps.q rfl (.plain rfl) rfl (q_assign rfl rfl) ?_
  refine SOps.sub (st' := ⟨[(1, .c (.int .i64 a1_feeders)), (2, .c (.ptr 0 0))], [.box [.str a0_c.Name, .int .i64 a0_c.Version, .int .i64 a0_c.Feeder, .int .i64 a0_c.Span_From, .int .i64 a0_c.Span_To, .int .i64 a0_c.Total, .bool a0_c.Cancelled]]⟩) (sub_gen [0] rfl rfl ⟨zc rfl rfl, zc rfl rfl, trivial⟩ ⟨⟨_, rfl, ⟨ii rfl rfl, ii rfl rfl, ii rfl rfl, ii rfl rfl, ii rfl rfl, ii rfl rfl, ii rfl rfl, trivial⟩⟩, trivial⟩) ?_
  refine SOps.nil ?_
  refine SCode.seq ?_
  refine SCode.seq ?_
  obtain ⟨c_1, g2, h⟩ := bind_out h
  try dsimp only at h
  refine SCode.region (show SOps _ _ _ [0, 1, 2, 3] _ _ from ?_)
  refine SOps.q rfl (.plain rfl) rfl (q_field_ptr rfl rfl fd25_0) ?_
  refine SOps.q rfl (.plain rfl) rfl (q_load_ptr rfl rfl rfl rfl ty9) ?_
  refine SOps.q rfl (.plain rfl) rfl (q_call (ident_Valid_ok F a0_c.Name c_1 g2) [] rfl fn32 ⟨⟨_, rfl, .inl ⟨rfl, rfl⟩⟩, trivial⟩ (.inl rfl)) ?_
  refine SOps.q rfl (.plain rfl) rfl (q_not rfl rfl) ?_
  refine SOps.sub (st' := ⟨[(1, .c (.int .i64 a1_feeders)), (2, .c (.ptr 0 0)), (8, .c (.bool ((!c_1))))], [.box [.str a0_c.Name, .int .i64 a0_c.Version, .int .i64 a0_c.Feeder, .int .i64 a0_c.Span_From, .int .i64 a0_c.Span_To, .int .i64 a0_c.Total, .bool a0_c.Cancelled]]⟩) (sub_gen [0] rfl rfl ⟨zc rfl rfl, zc rfl rfl, zc rfl rfl, trivial⟩ ⟨⟨_, rfl, ⟨ii rfl rfl, ii rfl rfl, ii rfl rfl, ii rfl rfl, ii rfl rfl, ii rfl rfl, ii rfl rfl, trivial⟩⟩, trivial⟩) ?_
  refine SOps.nil ?_
  rcases cond_out h with ⟨g3, h⟩ | ⟨g3, h⟩
  · refine SCode.cond_t rfl g3 ?_
    refine SCode.seq ?_
    refine SCode.region (show SOps _ _ _ [0] _ _ from ?_)
    refine SOps.q rfl (.plain rfl) rfl (q_assign rfl rfl) ?_
    refine SOps.sub (st' := ⟨[(4, .c (.int .i64 4))], []⟩) (sub_gen [] rfl rfl ⟨zc rfl rfl, trivial⟩ trivial) ?_
    refine SOps.nil ?_
    refine SCode.ret ?_
    obtain rfl := Option.some.inj h
    exact ⟨⟨[(4, .c (.int .i64 4))], []⟩, _, sub_gen [] rfl rfl ⟨zc rfl rfl, trivial⟩ trivial, resA1 (v := .c (.int .i64 4)) rfl rfl, rfl⟩
  refine SCode.cond_f rfl g3 ?_
  refine SCode.skip ?_
  refine SCode.seq ?_
  refine SCode.seq ?_
  rcases cond_out h with ⟨g4, h⟩ | ⟨g4, h⟩
  · refine SCode.region (show SOps _ _ _ [0, 1, 2, 3, 4, 5, 6, 7, 8, 9, 10, 11, 12, 13, 14, 15, 16, 17, 18, 19, 20, 21, 22, 23] _ _ from ?_)
    refine SOps.q rfl (.plain rfl) rfl (q_field_ptr rfl rfl fd25_1) ?_
    refine SOps.q rfl (.plain rfl) rfl (q_load_ptr rfl rfl rfl rfl ty3) ?_
    refine SOps.q rfl (.plain rfl) rfl (q_lss rfl rfl rfl) ?_
    refine SOps.q rfl (.plain rfl) rfl (q_move rfl rfl) ?_
    refine SOps.skip rfl 3 12 false rfl rfl (.inl (gT g4)) rfl ?_
    refine SOps.skip rfl 3 12 false rfl rfl (.inl (gT g4)) rfl ?_
    refine SOps.skip rfl 3 12 false rfl rfl (.inl (gT g4)) rfl ?_
    refine SOps.q rfl (.plain rfl) rfl (q_pick_t rfl rfl g4 rfl) ?_
    refine SOps.q rfl (.plain rfl) rfl (q_move rfl rfl) ?_
    refine SOps.skip rfl 8 17 false rfl rfl (.inl rfl) rfl ?_
    refine SOps.skip rfl 8 17 false rfl rfl (.inl rfl) rfl ?_
    refine SOps.skip rfl 8 17 false rfl rfl (.inl rfl) rfl ?_
    refine SOps.skip rfl 8 17 false rfl rfl (.inl rfl) rfl ?_
    refine SOps.q rfl (.plain rfl) rfl (q_pick_t rfl rfl rfl rfl) ?_
    refine SOps.q rfl (.plain rfl) rfl (q_move rfl rfl) ?_
    refine SOps.skip rfl 14 23 false rfl rfl (.inl rfl) rfl ?_
    refine SOps.skip rfl 14 23 false rfl rfl (.inl rfl) rfl ?_
    refine SOps.skip rfl 14 23 false rfl rfl (.inl rfl) rfl ?_
    refine SOps.q rfl (.plain rfl) rfl (q_pick_t rfl rfl rfl rfl) ?_
    refine SOps.q rfl (.plain rfl) rfl (q_move rfl rfl) ?_
    refine SOps.skip rfl 19 28 false rfl rfl (.inl rfl) rfl ?_
    refine SOps.skip rfl 19 28 false rfl rfl (.inl rfl) rfl ?_
    refine SOps.skip rfl 19 28 false rfl rfl (.inl rfl) rfl ?_
    refine SOps.q rfl (.plain rfl) rfl (q_pick_t rfl rfl rfl rfl) ?_
    refine SOps.sub (st' := ⟨[(2, .c (.ptr 0 0)), (32, .c (.bool true))], [.box [.str a0_c.Name, .int .i64 a0_c.Version, .int .i64 a0_c.Feeder, .int .i64 a0_c.Span_From, .int .i64 a0_c.Span_To, .int .i64 a0_c.Total, .bool a0_c.Cancelled]]⟩) (sub_gen [0] rfl rfl ⟨zc rfl rfl, zc rfl rfl, trivial⟩ ⟨⟨_, rfl, ⟨ii rfl rfl, ii rfl rfl, ii rfl rfl, ii rfl rfl, ii rfl rfl, ii rfl rfl, ii rfl rfl, trivial⟩⟩, trivial⟩) ?_
    refine SOps.nil ?_
    refine SCode.cond_t rfl rfl ?_
    refine SCode.seq ?_
    refine SCode.region (show SOps _ _ _ [0] _ _ from ?_)
    refine SOps.q rfl (.plain rfl) rfl (q_assign rfl rfl) ?_
    refine SOps.sub (st' := ⟨[(4, .c (.int .i64 2))], []⟩) (sub_gen [] rfl rfl ⟨zc rfl rfl, trivial⟩ trivial) ?_
    refine SOps.nil ?_
    refine SCode.ret ?_
    obtain rfl := Option.some.inj h
    exact ⟨⟨[(4, .c (.int .i64 2))], []⟩, _, sub_gen [] rfl rfl ⟨zc rfl rfl, trivial⟩ trivial, resA1 (v := .c (.int .i64 2)) rfl rfl, rfl⟩
  rcases cond_out h with ⟨g5, h⟩ | ⟨g5, h⟩
  · refine SCode.region (show SOps _ _ _ [0, 1, 2, 3, 4, 5, 6, 7, 8, 9, 10, 11, 12, 13, 14, 15, 16, 17, 18, 19, 20, 21, 22, 23] _ _ from ?_)
    refine SOps.q rfl (.plain rfl) rfl (q_field_ptr rfl rfl fd25_1) ?_
    refine SOps.q rfl (.plain rfl) rfl (q_load_ptr rfl rfl rfl rfl ty3) ?_
    refine SOps.q rfl (.plain rfl) rfl (q_lss rfl rfl rfl) ?_
    refine SOps.q rfl (.plain rfl) rfl (q_move rfl rfl) ?_
    refine SOps.q rfl (.guard 3 12 false rfl rfl (gF g4)) rfl (q_field_ptr rfl rfl fd25_2) ?_
    refine SOps.q rfl (.guard 3 12 false rfl rfl (gF g4)) rfl (q_load_ptr rfl rfl rfl rfl ty3) ?_
    refine SOps.q rfl (.guard 3 12 false rfl rfl (gF g4)) rfl (q_lss rfl rfl rfl) ?_
    refine SOps.q rfl (.plain rfl) rfl (q_pick_f rfl rfl g4 rfl) ?_
    refine SOps.q rfl (.plain rfl) rfl (q_move rfl rfl) ?_
    refine SOps.skip rfl 8 17 false rfl rfl (.inl (gT g5)) rfl ?_
    refine SOps.skip rfl 8 17 false rfl rfl (.inl (gT g5)) rfl ?_
    refine SOps.skip rfl 8 17 false rfl rfl (.inl (gT g5)) rfl ?_
    refine SOps.skip rfl 8 17 false rfl rfl (.inl (gT g5)) rfl ?_
    refine SOps.q rfl (.plain rfl) rfl (q_pick_t rfl rfl g5 rfl) ?_
    refine SOps.q rfl (.plain rfl) rfl (q_move rfl rfl) ?_
    refine SOps.skip rfl 14 23 false rfl rfl (.inl rfl) rfl ?_
    refine SOps.skip rfl 14 23 false rfl rfl (.inl rfl) rfl ?_
    refine SOps.skip rfl 14 23 false rfl rfl (.inl rfl) rfl ?_
    refine SOps.q rfl (.plain rfl) rfl (q_pick_t rfl rfl rfl rfl) ?_
    refine SOps.q rfl (.plain rfl) rfl (q_move rfl rfl) ?_
    refine SOps.skip rfl 19 28 false rfl rfl (.inl rfl) rfl ?_
    refine SOps.skip rfl 19 28 false rfl rfl (.inl rfl) rfl ?_
    refine SOps.skip rfl 19 28 false rfl rfl (.inl rfl) rfl ?_
    refine SOps.q rfl (.plain rfl) rfl (q_pick_t rfl rfl rfl rfl) ?_
    refine SOps.sub (st' := ⟨[(2, .c (.ptr 0 0)), (32, .c (.bool true))], [.box [.str a0_c.Name, .int .i64 a0_c.Version, .int .i64 a0_c.Feeder, .int .i64 a0_c.Span_From, .int .i64 a0_c.Span_To, .int .i64 a0_c.Total, .bool a0_c.Cancelled]]⟩) (sub_gen [0] rfl rfl ⟨zc rfl rfl, zc rfl rfl, trivial⟩ ⟨⟨_, rfl, ⟨ii rfl rfl, ii rfl rfl, ii rfl rfl, ii rfl rfl, ii rfl rfl, ii rfl rfl, ii rfl rfl, trivial⟩⟩, trivial⟩) ?_
    refine SOps.nil ?_
    refine SCode.cond_t rfl rfl ?_
    refine SCode.seq ?_
    refine SCode.region (show SOps _ _ _ [0] _ _ from ?_)
    refine SOps.q rfl (.plain rfl) rfl (q_assign rfl rfl) ?_
    refine SOps.sub (st' := ⟨[(4, .c (.int .i64 2))], []⟩) (sub_gen [] rfl rfl ⟨zc rfl rfl, trivial⟩ trivial) ?_
    refine SOps.nil ?_
    refine SCode.ret ?_
    obtain rfl := Option.some.inj h
    exact ⟨⟨[(4, .c (.int .i64 2))], []⟩, _, sub_gen [] rfl rfl ⟨zc rfl rfl, trivial⟩ trivial, resA1 (v := .c (.int .i64 2)) rfl rfl, rfl⟩
  rcases cond_out h with ⟨g6, h⟩ | ⟨g6, h⟩
  · refine SCode.region (show SOps _ _ _ [0, 1, 2, 3, 4, 5, 6, 7, 8, 9, 10, 11, 12, 13, 14, 15, 16, 17, 18, 19, 20, 21, 22, 23] _ _ from ?_)
    refine SOps.q rfl (.plain rfl) rfl (q_field_ptr rfl rfl fd25_1) ?_
    refine SOps.q rfl (.plain rfl) rfl (q_load_ptr rfl rfl rfl rfl ty3) ?_
    refine SOps.q rfl (.plain rfl) rfl (q_lss rfl rfl rfl) ?_
    refine SOps.q rfl (.plain rfl) rfl (q_move rfl rfl) ?_
    refine SOps.q rfl (.guard 3 12 false rfl rfl (gF g4)) rfl (q_field_ptr rfl rfl fd25_2) ?_
    refine SOps.q rfl (.guard 3 12 false rfl rfl (gF g4)) rfl (q_load_ptr rfl rfl rfl rfl ty3) ?_
    refine SOps.q rfl (.guard 3 12 false rfl rfl (gF g4)) rfl (q_lss rfl rfl rfl) ?_
    refine SOps.q rfl (.plain rfl) rfl (q_pick_f rfl rfl g4 rfl) ?_
    refine SOps.q rfl (.plain rfl) rfl (q_move rfl rfl) ?_
    refine SOps.q rfl (.guard 8 17 false rfl rfl (gF g5)) rfl (q_field_ptr rfl rfl fd25_2) ?_
    refine SOps.q rfl (.guard 8 17 false rfl rfl (gF g5)) rfl (q_load_ptr rfl rfl rfl rfl ty3) ?_
    refine SOps.q rfl (.guard 8 17 false rfl rfl (gF g5)) rfl (q_move rfl rfl) ?_
    refine SOps.q rfl (.guard 8 17 false rfl rfl (gF g5)) rfl (q_geq rfl rfl rfl) ?_
    refine SOps.q rfl (.plain rfl) rfl (q_pick_f rfl rfl g5 rfl) ?_
    refine SOps.q rfl (.plain rfl) rfl (q_move rfl rfl) ?_
    refine SOps.skip rfl 14 23 false rfl rfl (.inl (gT g6)) rfl ?_
    refine SOps.skip rfl 14 23 false rfl rfl (.inl (gT g6)) rfl ?_
    refine SOps.skip rfl 14 23 false rfl rfl (.inl (gT g6)) rfl ?_
    refine SOps.q rfl (.plain rfl) rfl (q_pick_t rfl rfl g6 rfl) ?_
    refine SOps.q rfl (.plain rfl) rfl (q_move rfl rfl) ?_
    refine SOps.skip rfl 19 28 false rfl rfl (.inl rfl) rfl ?_
    refine SOps.skip rfl 19 28 false rfl rfl (.inl rfl) rfl ?_
    refine SOps.skip rfl 19 28 false rfl rfl (.inl rfl) rfl ?_
    refine SOps.q rfl (.plain rfl) rfl (q_pick_t rfl rfl rfl rfl) ?_
    refine SOps.sub (st' := ⟨[(2, .c (.ptr 0 0)), (32, .c (.bool true))], [.box [.str a0_c.Name, .int .i64 a0_c.Version, .int .i64 a0_c.Feeder, .int .i64 a0_c.Span_From, .int .i64 a0_c.Span_To, .int .i64 a0_c.Total, .bool a0_c.Cancelled]]⟩) (sub_gen [0] rfl rfl ⟨zc rfl rfl, zc rfl rfl, trivial⟩ ⟨⟨_, rfl, ⟨ii rfl rfl, ii rfl rfl, ii rfl rfl, ii rfl rfl, ii rfl rfl, ii rfl rfl, ii rfl rfl, trivial⟩⟩, trivial⟩) ?_
    refine SOps.nil ?_
    refine SCode.cond_t rfl rfl ?_
    refine SCode.seq ?_
    refine SCode.region (show SOps _ _ _ [0] _ _ from ?_)
    refine SOps.q rfl (.plain rfl) rfl (q_assign rfl rfl) ?_
    refine SOps.sub (st' := ⟨[(4, .c (.int .i64 2))], []⟩) (sub_gen [] rfl rfl ⟨zc rfl rfl, trivial⟩ trivial) ?_
    refine SOps.nil ?_
    refine SCode.ret ?_
    obtain rfl := Option.some.inj h
    exact ⟨⟨[(4, .c (.int .i64 2))], []⟩, _, sub_gen [] rfl rfl ⟨zc rfl rfl, trivial⟩ trivial, resA1 (v := .c (.int .i64 2)) rfl rfl, rfl⟩
  rcases cond_out h with ⟨g7, h⟩ | ⟨g7, h⟩
  · refine SCode.region (show SOps _ _ _ [0, 1, 2, 3, 4, 5, 6, 7, 8, 9, 10, 11, 12, 13, 14, 15, 16, 17, 18, 19, 20, 21, 22, 23] _ _ from ?_)
    refine SOps.q rfl (.plain rfl) rfl (q_field_ptr rfl rfl fd25_1) ?_
    refine SOps.q rfl (.plain rfl) rfl (q_load_ptr rfl rfl rfl rfl ty3) ?_
    refine SOps.q rfl (.plain rfl) rfl (q_lss rfl rfl rfl) ?_
    refine SOps.q rfl (.plain rfl) rfl (q_move rfl rfl) ?_
    refine SOps.q rfl (.guard 3 12 false rfl rfl (gF g4)) rfl (q_field_ptr rfl rfl fd25_2) ?_
    refine SOps.q rfl (.guard 3 12 false rfl rfl (gF g4)) rfl (q_load_ptr rfl rfl rfl rfl ty3) ?_
    refine SOps.q rfl (.guard 3 12 false rfl rfl (gF g4)) rfl (q_lss rfl rfl rfl) ?_
    refine SOps.q rfl (.plain rfl) rfl (q_pick_f rfl rfl g4 rfl) ?_
    refine SOps.q rfl (.plain rfl) rfl (q_move rfl rfl) ?_
    refine SOps.q rfl (.guard 8 17 false rfl rfl (gF g5)) rfl (q_field_ptr rfl rfl fd25_2) ?_
    refine SOps.q rfl (.guard 8 17 false rfl rfl (gF g5)) rfl (q_load_ptr rfl rfl rfl rfl ty3) ?_
    refine SOps.q rfl (.guard 8 17 false rfl rfl (gF g5)) rfl (q_move rfl rfl) ?_
    refine SOps.q rfl (.guard 8 17 false rfl rfl (gF g5)) rfl (q_geq rfl rfl rfl) ?_
    refine SOps.q rfl (.plain rfl) rfl (q_pick_f rfl rfl g5 rfl) ?_
    refine SOps.q rfl (.plain rfl) rfl (q_move rfl rfl) ?_
    refine SOps.q rfl (.guard 14 23 false rfl rfl (gF g6)) rfl (q_field_ptr rfl rfl fd25_4) ?_
    refine SOps.q rfl (.guard 14 23 false rfl rfl (gF g6)) rfl (q_load_ptr rfl rfl rfl rfl ty3) ?_
    refine SOps.q rfl (.guard 14 23 false rfl rfl (gF g6)) rfl (q_lss rfl rfl rfl) ?_
    refine SOps.q rfl (.plain rfl) rfl (q_pick_f rfl rfl g6 rfl) ?_
    refine SOps.q rfl (.plain rfl) rfl (q_move rfl rfl) ?_
    refine SOps.skip rfl 19 28 false rfl rfl (.inl (gT g7)) rfl ?_
    refine SOps.skip rfl 19 28 false rfl rfl (.inl (gT g7)) rfl ?_
    refine SOps.skip rfl 19 28 false rfl rfl (.inl (gT g7)) rfl ?_
    refine SOps.q rfl (.plain rfl) rfl (q_pick_t rfl rfl g7 rfl) ?_
    refine SOps.sub (st' := ⟨[(2, .c (.ptr 0 0)), (32, .c (.bool true))], [.box [.str a0_c.Name, .int .i64 a0_c.Version, .int .i64 a0_c.Feeder, .int .i64 a0_c.Span_From, .int .i64 a0_c.Span_To, .int .i64 a0_c.Total, .bool a0_c.Cancelled]]⟩) (sub_gen [0] rfl rfl ⟨zc rfl rfl, zc rfl rfl, trivial⟩ ⟨⟨_, rfl, ⟨ii rfl rfl, ii rfl rfl, ii rfl rfl, ii rfl rfl, ii rfl rfl, ii rfl rfl, ii rfl rfl, trivial⟩⟩, trivial⟩) ?_
    refine SOps.nil ?_
    refine SCode.cond_t rfl rfl ?_
    refine SCode.seq ?_
    refine SCode.region (show SOps _ _ _ [0] _ _ from ?_)
    refine SOps.q rfl (.plain rfl) rfl (q_assign rfl rfl) ?_
    refine SOps.sub (st' := ⟨[(4, .c (.int .i64 2))], []⟩) (sub_gen [] rfl rfl ⟨zc rfl rfl, trivial⟩ trivial) ?_
    refine SOps.nil ?_
    refine SCode.ret ?_
    obtain rfl := Option.some.inj h
    exact ⟨⟨[(4, .c (.int .i64 2))], []⟩, _, sub_gen [] rfl rfl ⟨zc rfl rfl, trivial⟩ trivial, resA1 (v := .c (.int .i64 2)) rfl rfl, rfl⟩
  refine SCode.region (show SOps _ _ _ [0, 1, 2, 3, 4, 5, 6, 7, 8, 9, 10, 11, 12, 13, 14, 15, 16, 17, 18, 19, 20, 21, 22, 23] _ _ from ?_)
  refine SOps.q rfl (.plain rfl) rfl (q_field_ptr rfl rfl fd25_1) ?_
  refine SOps.q rfl (.plain rfl) rfl (q_load_ptr rfl rfl rfl rfl ty3) ?_
  refine SOps.q rfl (.plain rfl) rfl (q_lss rfl rfl rfl) ?_
  refine SOps.q rfl (.plain rfl) rfl (q_move rfl rfl) ?_
  refine SOps.q rfl (.guard 3 12 false rfl rfl (gF g4)) rfl (q_field_ptr rfl rfl fd25_2) ?_
  refine SOps.q rfl (.guard 3 12 false rfl rfl (gF g4)) rfl (q_load_ptr rfl rfl rfl rfl ty3) ?_
  refine SOps.q rfl (.guard 3 12 false rfl rfl (gF g4)) rfl (q_lss rfl rfl rfl) ?_
  refine SOps.q rfl (.plain rfl) rfl (q_pick_f rfl rfl g4 rfl) ?_
  refine SOps.q rfl (.plain rfl) rfl (q_move rfl rfl) ?_
  refine SOps.q rfl (.guard 8 17 false rfl rfl (gF g5)) rfl (q_field_ptr rfl rfl fd25_2) ?_
  refine SOps.q rfl (.guard 8 17 false rfl rfl (gF g5)) rfl (q_load_ptr rfl rfl rfl rfl ty3) ?_
  refine SOps.q rfl (.guard 8 17 false rfl rfl (gF g5)) rfl (q_move rfl rfl) ?_
  refine SOps.q rfl (.guard 8 17 false rfl rfl (gF g5)) rfl (q_geq rfl rfl rfl) ?_
  refine SOps.q rfl (.plain rfl) rfl (q_pick_f rfl rfl g5 rfl) ?_
  refine SOps.q rfl (.plain rfl) rfl (q_move rfl rfl) ?_
  refine SOps.q rfl (.guard 14 23 false rfl rfl (gF g6)) rfl (q_field_ptr rfl rfl fd25_4) ?_
  refine SOps.q rfl (.guard 14 23 false rfl rfl (gF g6)) rfl (q_load_ptr rfl rfl rfl rfl ty3) ?_
  refine SOps.q rfl (.guard 14 23 false rfl rfl (gF g6)) rfl (q_lss rfl rfl rfl) ?_
  refine SOps.q rfl (.plain rfl) rfl (q_pick_f rfl rfl g6 rfl) ?_
  refine SOps.q rfl (.plain rfl) rfl (q_move rfl rfl) ?_
  refine SOps.q rfl (.guard 19 28 false rfl rfl (gF g7)) rfl (q_field_ptr rfl rfl fd25_4) ?_
  refine SOps.q rfl (.guard 19 28 false rfl rfl (gF g7)) rfl (q_load_ptr rfl rfl rfl rfl ty3) ?_
  refine SOps.q rfl (.guard 19 28 false rfl rfl (gF g7)) rfl (q_gtr rfl rfl rfl) ?_
  refine SOps.q rfl (.plain rfl) rfl (q_pick_f rfl rfl g7 rfl) ?_
  refine SOps.sub (st' := ⟨[(2, .c (.ptr 0 0)), (32, .c (.bool (decide (1073741824 < a0_c.Total))))], [.box [.str a0_c.Name, .int .i64 a0_c.Version, .int .i64 a0_c.Feeder, .int .i64 a0_c.Span_From, .int .i64 a0_c.Span_To, .int .i64 a0_c.Total, .bool a0_c.Cancelled]]⟩) (sub_gen [0] rfl rfl ⟨zc rfl rfl, zc rfl rfl, trivial⟩ ⟨⟨_, rfl, ⟨ii rfl rfl, ii rfl rfl, ii rfl rfl, ii rfl rfl, ii rfl rfl, ii rfl rfl, ii rfl rfl, trivial⟩⟩, trivial⟩) ?_
  refine SOps.nil ?_
  rcases cond_out h with ⟨g8, h⟩ | ⟨g8, h⟩
  · refine SCode.cond_t rfl g8 ?_
    refine SCode.seq ?_
    refine SCode.region (show SOps _ _ _ [0] _ _ from ?_)
    refine SOps.q rfl (.plain rfl) rfl (q_assign rfl rfl) ?_
    refine SOps.sub (st' := ⟨[(4, .c (.int .i64 2))], []⟩) (sub_gen [] rfl rfl ⟨zc rfl rfl, trivial⟩ trivial) ?_
    refine SOps.nil ?_
    refine SCode.ret ?_
    obtain rfl := Option.some.inj h
    exact ⟨⟨[(4, .c (.int .i64 2))], []⟩, _, sub_gen [] rfl rfl ⟨zc rfl rfl, trivial⟩ trivial, resA1 (v := .c (.int .i64 2)) rfl rfl, rfl⟩
  refine SCode.cond_f rfl g8 ?_
  refine SCode.skip ?_
  refine SCode.seq ?_
  refine SCode.seq ?_
  rcases cond_out h with ⟨g9, h⟩ | ⟨g9, h⟩
  · refine SCode.region (show SOps _ _ _ [0, 1, 2, 3, 4, 5, 6, 7, 8, 9, 10, 11, 12, 13, 14, 15, 16, 17, 18] _ _ from ?_)
    refine SOps.q rfl (.plain rfl) rfl (q_field_ptr rfl rfl fd25_3) ?_
    refine SOps.q rfl (.plain rfl) rfl (q_field_ptr rfl rfl fd23_0) ?_
    refine SOps.q rfl (.plain rfl) rfl (q_load_ptr rfl rfl rfl rfl ty3) ?_
    refine SOps.q rfl (.plain rfl) rfl (q_lss rfl rfl rfl) ?_
    refine SOps.q rfl (.plain rfl) rfl (q_move rfl rfl) ?_
    refine SOps.skip rfl 4 37 false rfl rfl (.inl (gT g9)) rfl ?_
    refine SOps.skip rfl 4 37 false rfl rfl (.inl (gT g9)) rfl ?_
    refine SOps.skip rfl 4 37 false rfl rfl (.inl (gT g9)) rfl ?_
    refine SOps.skip rfl 4 37 false rfl rfl (.inl (gT g9)) rfl ?_
    refine SOps.skip rfl 4 37 false rfl rfl (.inl (gT g9)) rfl ?_
    refine SOps.skip rfl 4 37 false rfl rfl (.inl (gT g9)) rfl ?_
    refine SOps.skip rfl 4 37 false rfl rfl (.inl (gT g9)) rfl ?_
    refine SOps.q rfl (.plain rfl) rfl (q_pick_t rfl rfl g9 rfl) ?_
    refine SOps.q rfl (.plain rfl) rfl (q_move rfl rfl) ?_
    refine SOps.skip rfl 13 46 false rfl rfl (.inl rfl) rfl ?_
    refine SOps.skip rfl 13 46 false rfl rfl (.inl rfl) rfl ?_
    refine SOps.skip rfl 13 46 false rfl rfl (.inl rfl) rfl ?_
    refine SOps.skip rfl 13 46 false rfl rfl (.inl rfl) rfl ?_
    refine SOps.q rfl (.plain rfl) rfl (q_pick_t rfl rfl rfl rfl) ?_
    refine SOps.sub (st' := ⟨[(51, .c (.bool true))], []⟩) (sub_gen [] rfl rfl ⟨zc rfl rfl, trivial⟩ trivial) ?_
    refine SOps.nil ?_
    refine SCode.cond_t rfl rfl ?_
    refine SCode.seq ?_
    refine SCode.region (show SOps _ _ _ [0] _ _ from ?_)
    refine SOps.q rfl (.plain rfl) rfl (q_assign rfl rfl) ?_
    refine SOps.sub (st' := ⟨[(4, .c (.int .i64 2))], []⟩) (sub_gen [] rfl rfl ⟨zc rfl rfl, trivial⟩ trivial) ?_
    refine SOps.nil ?_
    refine SCode.ret ?_
    obtain rfl := Option.some.inj h
    exact ⟨⟨[(4, .c (.int .i64 2))], []⟩, _, sub_gen [] rfl rfl ⟨zc rfl rfl, trivial⟩ trivial, resA1 (v := .c (.int .i64 2)) rfl rfl, rfl⟩
  rcases cond_out h with ⟨g10, h⟩ | ⟨g10, h⟩
  · refine SCode.region (show SOps _ _ _ [0, 1, 2, 3, 4, 5, 6, 7, 8, 9, 10, 11, 12, 13, 14, 15, 16, 17, 18] _ _ from ?_)
    refine SOps.q rfl (.plain rfl) rfl (q_field_ptr rfl rfl fd25_3) ?_
    refine SOps.q rfl (.plain rfl) rfl (q_field_ptr rfl rfl fd23_0) ?_
    refine SOps.q rfl (.plain rfl) rfl (q_load_ptr rfl rfl rfl rfl ty3) ?_
    refine SOps.q rfl (.plain rfl) rfl (q_lss rfl rfl rfl) ?_
    refine SOps.q rfl (.plain rfl) rfl (q_move rfl rfl) ?_
    refine SOps.q rfl (.guard 4 37 false rfl rfl (gF g9)) rfl (q_field_ptr rfl rfl fd25_3) ?_
    refine SOps.q rfl (.guard 4 37 false rfl rfl (gF g9)) rfl (q_field_ptr rfl rfl fd23_0) ?_
    refine SOps.q rfl (.guard 4 37 false rfl rfl (gF g9)) rfl (q_load_ptr rfl rfl rfl rfl ty3) ?_
    refine SOps.q rfl (.guard 4 37 false rfl rfl (gF g9)) rfl (q_field_ptr rfl rfl fd25_3) ?_
    refine SOps.q rfl (.guard 4 37 false rfl rfl (gF g9)) rfl (q_field_ptr rfl rfl fd23_1) ?_
    refine SOps.q rfl (.guard 4 37 false rfl rfl (gF g9)) rfl (q_load_ptr rfl rfl rfl rfl ty3) ?_
    refine SOps.q rfl (.guard 4 37 false rfl rfl (gF g9)) rfl (q_gtr rfl rfl rfl) ?_
    refine SOps.q rfl (.plain rfl) rfl (q_pick_f rfl rfl g9 rfl) ?_
    refine SOps.q rfl (.plain rfl) rfl (q_move rfl rfl) ?_
    refine SOps.skip rfl 13 46 false rfl rfl (.inl (gT g10)) rfl ?_
    refine SOps.skip rfl 13 46 false rfl rfl (.inl (gT g10)) rfl ?_
    refine SOps.skip rfl 13 46 false rfl rfl (.inl (gT g10)) rfl ?_
    refine SOps.skip rfl 13 46 false rfl rfl (.inl (gT g10)) rfl ?_
    refine SOps.q rfl (.plain rfl) rfl (q_pick_t rfl rfl g10 rfl) ?_
    refine SOps.sub (st' := ⟨[(51, .c (.bool true))], []⟩) (sub_gen [] rfl rfl ⟨zc rfl rfl, trivial⟩ trivial) ?_
    refine SOps.nil ?_
    refine SCode.cond_t rfl rfl ?_
    refine SCode.seq ?_
    refine SCode.region (show SOps _ _ _ [0] _ _ from ?_)
    refine SOps.q rfl (.plain rfl) rfl (q_assign rfl rfl) ?_
    refine SOps.sub (st' := ⟨[(4, .c (.int .i64 2))], []⟩) (sub_gen [] rfl rfl ⟨zc rfl rfl, trivial⟩ trivial) ?_
    refine SOps.nil ?_
    refine SCode.ret ?_
    obtain rfl := Option.some.inj h
    exact ⟨⟨[(4, .c (.int .i64 2))], []⟩, _, sub_gen [] rfl rfl ⟨zc rfl rfl, trivial⟩ trivial, resA1 (v := .c (.int .i64 2)) rfl rfl, rfl⟩
  refine SCode.region (show SOps _ _ _ [0, 1, 2, 3, 4, 5, 6, 7, 8, 9, 10, 11, 12, 13, 14, 15, 16, 17, 18] _ _ from ?_)
  refine SOps.q rfl (.plain rfl) rfl (q_field_ptr rfl rfl fd25_3) ?_
  refine SOps.q rfl (.plain rfl) rfl (q_field_ptr rfl rfl fd23_0) ?_
  refine SOps.q rfl (.plain rfl) rfl (q_load_ptr rfl rfl rfl rfl ty3) ?_
  refine SOps.q rfl (.plain rfl) rfl (q_lss rfl rfl rfl) ?_
  refine SOps.q rfl (.plain rfl) rfl (q_move rfl rfl) ?_
  refine SOps.q rfl (.guard 4 37 false rfl rfl (gF g9)) rfl (q_field_ptr rfl rfl fd25_3) ?_
  refine SOps.q rfl (.guard 4 37 false rfl rfl (gF g9)) rfl (q_field_ptr rfl rfl fd23_0) ?_
  refine SOps.q rfl (.guard 4 37 false rfl rfl (gF g9)) rfl (q_load_ptr rfl rfl rfl rfl ty3) ?_
  refine SOps.q rfl (.guard 4 37 false rfl rfl (gF g9)) rfl (q_field_ptr rfl rfl fd25_3) ?_
  refine SOps.q rfl (.guard 4 37 false rfl rfl (gF g9)) rfl (q_field_ptr rfl rfl fd23_1) ?_
  refine SOps.q rfl (.guard 4 37 false rfl rfl (gF g9)) rfl (q_load_ptr rfl rfl rfl rfl ty3) ?_
  refine SOps.q rfl (.guard 4 37 false rfl rfl (gF g9)) rfl (q_gtr rfl rfl rfl) ?_
  refine SOps.q rfl (.plain rfl) rfl (q_pick_f rfl rfl g9 rfl) ?_
  refine SOps.q rfl (.plain rfl) rfl (q_move rfl rfl) ?_
  refine SOps.q rfl (.guard 13 46 false rfl rfl (gF g10)) rfl (q_field_ptr rfl rfl fd25_3) ?_
  refine SOps.q rfl (.guard 13 46 false rfl rfl (gF g10)) rfl (q_field_ptr rfl rfl fd23_1) ?_
  refine SOps.q rfl (.guard 13 46 false rfl rfl (gF g10)) rfl (q_load_ptr rfl rfl rfl rfl ty3) ?_
  refine SOps.q rfl (.guard 13 46 false rfl rfl (gF g10)) rfl (q_gtr rfl rfl rfl) ?_
  refine SOps.q rfl (.plain rfl) rfl (q_pick_f rfl rfl g10 rfl) ?_
  refine SOps.sub (st' := ⟨[(51, .c (.bool (decide (268435456 < a0_c.Span_To))))], []⟩) (sub_gen [] rfl rfl ⟨zc rfl rfl, trivial⟩ trivial) ?_
  refine SOps.nil ?_
  rcases cond_out h with ⟨g11, h⟩ | ⟨g11, h⟩
  · refine SCode.cond_t rfl g11 ?_
    refine SCode.seq ?_
    refine SCode.region (show SOps _ _ _ [0] _ _ from ?_)
    refine SOps.q rfl (.plain rfl) rfl (q_assign rfl rfl) ?_
    refine SOps.sub (st' := ⟨[(4, .c (.int .i64 2))], []⟩) (sub_gen [] rfl rfl ⟨zc rfl rfl, trivial⟩ trivial) ?_
    refine SOps.nil ?_
    refine SCode.ret ?_
    obtain rfl := Option.some.inj h
    exact ⟨⟨[(4, .c (.int .i64 2))], []⟩, _, sub_gen [] rfl rfl ⟨zc rfl rfl, trivial⟩ trivial, resA1 (v := .c (.int .i64 2)) rfl rfl, rfl⟩
  refine SCode.cond_f rfl g11 ?_
  refine SCode.skip ?_
  refine SCode.seq ?_
  refine SCode.region (show SOps _ _ _ [0] _ _ from ?_)
  refine SOps.q rfl (.plain rfl) rfl (q_assign rfl rfl) ?_
  refine SOps.sub (st' := ⟨[(4, .c (.int .i64 0))], []⟩) (sub_gen [] rfl rfl ⟨zc rfl rfl, trivial⟩ trivial) ?_
  refine SOps.nil ?_
  refine SCode.ret ?_
  obtain rfl := Option.some.inj h
  exact ⟨⟨[(4, .c (.int .i64 0))], []⟩, _, sub_gen [] rfl rfl ⟨zc rfl rfl, trivial⟩ trivial, resA1 (v := .c (.int .i64 0)) rfl rfl, rfl⟩
set_option maxRecDepth 100000 in
set_option maxHeartbeats 8000000 in
theorem curtail_Valid_ok (F : Nat) (a0_c : SCurtail) (a1_s : SSite) (r : Int) (h : curtail_Valid F a0_c a1_s = some r) :
    SFun Try.prog 10 [] [.a [.str a0_c.Name, .int .i64 a0_c.Version, .int .i64 a0_c.Feeder, .int .i64 a0_c.Span_From, .int .i64 a0_c.Span_To, .int .i64 a0_c.Total, .bool a0_c.Cancelled], .a [.str a1_s.Name, .vec a1_s.Feeders.length 5 (gL cSFeeder dSFeeder a1_s.Feeders), .vec a1_s.Points.length 5 (gL cSPoint dSPoint a1_s.Points)]] (fun x _ => x = .c (.int .i64 r)) := by
  refine SFun.of (n := 10) Try.func10 rfl rfl rfl ?_
  unfold curtail_Valid at h
  show SCode _ _ _ ⟨[(0, .a [.str a0_c.Name, .int .i64 a0_c.Version, .int .i64 a0_c.Feeder, .int .i64 a0_c.Span_From, .int .i64 a0_c.Span_To, .int .i64 a0_c.Total, .bool a0_c.Cancelled]), (1, .a [.str a1_s.Name, .vec a1_s.Feeders.length 5 (gL cSFeeder dSFeeder a1_s.Feeders), .vec a1_s.Points.length 5 (gL cSPoint dSPoint a1_s.Points)])], []⟩ _
  refine SCode.seq ?_
  refine SCode.region (show SOps _ _ _ [0, 1, 2] _ _ from ?_)
  refine SOps.e rfl (.plain rfl) (e_box rfl rfl rfl rfl rfl rfl) ?_
  refine SOps.e rfl (.plain rfl) (e_box rfl rfl rfl rfl rfl rfl) ?_
  refine SOps.q rfl (.plain rfl) rfl (q_assign rfl rfl) ?_
  refine SOps.sub (st' := ⟨[(2, .c (.ptr 0 0)), (3, .c (.ptr 1 0))], [.box [.str a0_c.Name, .int .i64 a0_c.Version, .int .i64 a0_c.Feeder, .int .i64 a0_c.Span_From, .int .i64 a0_c.Span_To, .int .i64 a0_c.Total, .bool a0_c.Cancelled], .box [.str a1_s.Name, .vec a1_s.Feeders.length 5 (gL cSFeeder dSFeeder a1_s.Feeders), .vec a1_s.Points.length 5 (gL cSPoint dSPoint a1_s.Points)]]⟩) (sub_gen [0, 1] rfl rfl ⟨zc rfl rfl, zc rfl rfl, trivial⟩ ⟨⟨_, rfl, ⟨ii rfl rfl, ii rfl rfl, ii rfl rfl, ii rfl rfl, ii rfl rfl, ii rfl rfl, ii rfl rfl, trivial⟩⟩, ⟨_, rfl, ⟨ii rfl rfl, ii rfl rfl, ii rfl rfl, trivial⟩⟩, trivial⟩) ?_
  refine SOps.nil ?_
  refine SCode.seq ?_
  obtain ⟨c_1, g2, h⟩ := bind_out h
  try dsimp only at h
  refine SCode.region (show SOps _ _ _ [0, 1, 2, 3, 4, 5] _ _ from ?_)
  refine SOps.q rfl (.plain rfl) rfl (q_load_ptr_all rfl rfl rfl rfl rfl ty25) ?_
  refine SOps.q rfl (.plain rfl) rfl (q_field_ptr rfl rfl fd30_1) ?_
  refine SOps.q rfl (.plain rfl) rfl (q_load_ptr rfl rfl rfl rfl ty27) ?_
  refine SOps.q rfl (.plain rfl) rfl (q_len_vec rfl rfl sl27) ?_
  refine SOps.q rfl (.plain rfl) rfl (q_call (curtail_check_ok F a0_c (((a1_s.Feeders).length : Int)) c_1 g2) [] rfl fn23 ⟨⟨rfl, rfl⟩, ⟨_, rfl, .inl ⟨rfl, rfl⟩⟩, trivial⟩ (.inl rfl)) ?_
  refine SOps.q rfl (.plain rfl) rfl (q_assign rfl rfl) ?_
  refine SOps.sub (st' := ⟨[(4, .c (.int .i64 c_1))], []⟩) (sub_gen [] rfl rfl ⟨zc rfl rfl, trivial⟩ trivial) ?_
  refine SOps.nil ?_
  refine SCode.ret ?_
  obtain rfl := Option.some.inj h
  exact ⟨⟨[(4, .c (.int .i64 c_1))], []⟩, _, sub_gen [] rfl rfl ⟨zc rfl rfl, trivial⟩ trivial, resA1 (v := .c (.int .i64 c_1)) rfl rfl, rfl⟩
set_option maxRecDepth 100000 in
set_option maxHeartbeats 8000000 in
theorem curtail_replace_ok (F : Nat) (a0_l : List SCurtail) (a1_i : Int) (a2_c : SCurtail) (r : List SCurtail) (h : curtail_replace F a0_l a1_i a2_c = some r) :
    SFun Try.prog 25 [] [.c (.vec a0_l.length 7 (gL cSCurtail dSCurtail a0_l)), .c (.int .i64 a1_i), .a [.str a2_c.Name, .int .i64 a2_c.Version, .int .i64 a2_c.Feeder, .int .i64 a2_c.Span_From, .int .i64 a2_c.Span_To, .int .i64 a2_c.Total, .bool a2_c.Cancelled]] (fun x _ => x = .c (.vec r.length 7 (gL cSCurtail dSCurtail r))) := by
  refine SFun.of (n := 19) Try.func25 rfl rfl rfl ?_
  unfold curtail_replace at h
  show SCode _ _ _ ⟨[(0, .c (.vec a0_l.length 7 (gL cSCurtail dSCurtail a0_l))), (1, .c (.int .i64 a1_i)), (2, .a [.str a2_c.Name, .int .i64 a2_c.Version, .int .i64 a2_c.Feeder, .int .i64 a2_c.Span_From, .int .i64 a2_c.Span_To, .int .i64 a2_c.Total, .bool a2_c.Cancelled])], []⟩ _
  refine SCode.seq ?_
  refine SCode.region (show SOps _ _ _ [0, 1] _ _ from ?_)
  refine SOps.e rfl (.plain rfl) (e_box rfl rfl rfl rfl rfl rfl) ?_
  refine SOps.q rfl (.plain rfl) rfl (q_assign rfl rfl) ?_
  refine SOps.sub (st' := ⟨[(0, .c (.vec a0_l.length 7 (gL cSCurtail dSCurtail a0_l))), (1, .c (.int .i64 a1_i)), (5, .c (.ptr 0 0))], [.box [.str a2_c.Name, .int .i64 a2_c.Version, .int .i64 a2_c.Feeder, .int .i64 a2_c.Span_From, .int .i64 a2_c.Span_To, .int .i64 a2_c.Total, .bool a2_c.Cancelled]]⟩) (sub_gen [0] rfl rfl ⟨zc rfl rfl, zc rfl rfl, zc rfl rfl, trivial⟩ ⟨⟨_, rfl, ⟨ii rfl rfl, ii rfl rfl, ii rfl rfl, ii rfl rfl, ii rfl rfl, ii rfl rfl, ii rfl rfl, trivial⟩⟩, trivial⟩) ?_
  refine SOps.nil ?_
  refine SCode.seq ?_
  obtain ⟨g1, h⟩ := guard_out h
  refine SCode.region (show SOps _ _ _ [0, 1, 2, 3] _ _ from ?_)
  refine SOps.q rfl (.plain rfl) rfl (q_move rfl rfl) ?_
  refine SOps.q rfl (.plain rfl) rfl (q_len_vec rfl rfl sl34) ?_
  refine SOps.e rfl (.plain rfl) (e_makeL (c := cSCurtail) (d0 := dSCurtail) rfl rfl rfl rfl rfl sl34 z25 rfl rfl rfl g1.1 (Int.le_refl _) g1.2.1 g1.2.2) ?_
  refine SOps.q rfl (.plain rfl) rfl (q_assign rfl rfl) ?_
  refine SOps.sub (st' := ⟨[(0, .c (.vec a0_l.length 7 (gL cSCurtail dSCurtail a0_l))), (1, .c (.int .i64 a1_i)), (5, .c (.ptr 0 0)), (7, .c (.own 1 (List.replicate (((a0_l).length : Int)).toNat dSCurtail).length))], [.box [.str a2_c.Name, .int .i64 a2_c.Version, .int .i64 a2_c.Feeder, .int .i64 a2_c.Span_From, .int .i64 a2_c.Span_To, .int .i64 a2_c.Total, .bool a2_c.Cancelled], .arr 25 7 (List.replicate (((a0_l).length : Int)).toNat dSCurtail).length (gL cSCurtail dSCurtail (List.replicate (((a0_l).length : Int)).toNat dSCurtail))]⟩) (sub_gen [0, 1] rfl rfl ⟨zc rfl rfl, zc rfl rfl, zc rfl rfl, zc rfl rfl, trivial⟩ ⟨⟨_, rfl, ⟨ii rfl rfl, ii rfl rfl, ii rfl rfl, ii rfl rfl, ii rfl rfl, ii rfl rfl, ii rfl rfl, trivial⟩⟩, oa rfl, trivial⟩) ?_
  refine SOps.nil ?_
  refine SCode.seq ?_
  refine SCode.region (show SOps _ _ _ [0, 1, 2] _ _ from ?_)
  refine SOps.q rfl (.plain rfl) rfl (q_move rfl rfl) ?_
  refine SOps.q rfl (.plain rfl) rfl (q_move rfl rfl) ?_
  refine SOps.e rfl (.plain rfl) (e_copyL (c := cSCurtail) (d0 := dSCurtail) (l := List.replicate (((a0_l).length : Int)).toNat dSCurtail) (s := a0_l) (lo := 0) (n := (List.replicate (((a0_l).length : Int)).toNat dSCurtail).length) (m := min (a0_l).length ((List.replicate (((a0_l).length : Int)).toNat dSCurtail).length)) rfl rfl rfl (.inr ⟨rfl, rfl⟩) rfl rfl (.inl rfl) sl34 rfl oneSCurtail (Nat.le_of_eq (Nat.zero_add _)) rfl) ?_
  refine SOps.sub (st' := ⟨[(1, .c (.int .i64 a1_i)), (5, .c (.ptr 0 0)), (7, .c (.own 1 (copyL (List.replicate (((a0_l).length : Int)).toNat dSCurtail) 0 ((List.replicate (((a0_l).length : Int)).toNat dSCurtail).length) a0_l).length))], [.box [.str a2_c.Name, .int .i64 a2_c.Version, .int .i64 a2_c.Feeder, .int .i64 a2_c.Span_From, .int .i64 a2_c.Span_To, .int .i64 a2_c.Total, .bool a2_c.Cancelled], .arr 25 7 (copyL (List.replicate (((a0_l).length : Int)).toNat dSCurtail) 0 ((List.replicate (((a0_l).length : Int)).toNat dSCurtail).length) a0_l).length (gL cSCurtail dSCurtail (copyL (List.replicate (((a0_l).length : Int)).toNat dSCurtail) 0 ((List.replicate (((a0_l).length : Int)).toNat dSCurtail).length) a0_l))]⟩) (sub_gen [0, 1] rfl rfl ⟨zc rfl rfl, zc rfl rfl, ⟨_, rfl, .inl ⟨rfl, congrArg (Cell.own 1) (copyL_len (l := List.replicate (((a0_l).length : Int)).toNat dSCurtail) (s := a0_l) (lo := 0) (n := (List.replicate (((a0_l).length : Int)).toNat dSCurtail).length) (Nat.le_of_eq (Nat.zero_add _))).symm⟩⟩, trivial⟩ ⟨⟨_, rfl, ⟨ii rfl rfl, ii rfl rfl, ii rfl rfl, ii rfl rfl, ii rfl rfl, ii rfl rfl, ii rfl rfl, trivial⟩⟩, oa rfl, trivial⟩) ?_
  refine SOps.nil ?_
  refine SCode.seq ?_
  obtain ⟨g2, h⟩ := guard_out h
  refine SCode.region (show SOps _ _ _ [0, 1, 2, 3, 4] _ _ from ?_)
  refine SOps.q rfl (.plain rfl) rfl (q_move rfl rfl) ?_
  refine SOps.q rfl (.plain rfl) rfl (q_move rfl rfl) ?_
  refine SOps.q rfl (.plain rfl) rfl (q_load_ptr_all rfl rfl rfl rfl rfl ty25) ?_
  refine SOps.q rfl (.plain rfl) rfl (q_index_own rfl rfl rfl sl34 g2.1 g2.2) ?_
  refine SOps.e rfl (.plain rfl) (e_storeL a2_c rfl rfl rfl rfl rfl (toNat_lt g2) ty25 rfl rfl rfl rfl rfl rfl) ?_
  refine SOps.sub (st' := ⟨[(7, .c (.own 0 ((copyL (List.replicate (((a0_l).length : Int)).toNat dSCurtail) 0 ((List.replicate (((a0_l).length : Int)).toNat dSCurtail).length) a0_l).set a1_i.toNat a2_c).length))], [.arr 25 7 ((copyL (List.replicate (((a0_l).length : Int)).toNat dSCurtail) 0 ((List.replicate (((a0_l).length : Int)).toNat dSCurtail).length) a0_l).set a1_i.toNat a2_c).length (gL cSCurtail dSCurtail ((copyL (List.replicate (((a0_l).length : Int)).toNat dSCurtail) 0 ((List.replicate (((a0_l).length : Int)).toNat dSCurtail).length) a0_l).set a1_i.toNat a2_c))]⟩) (sub_gen [1] rfl rfl ⟨⟨_, rfl, .inl ⟨rfl, congrArg (Cell.own 1) (List.length_set : ((copyL (List.replicate (((a0_l).length : Int)).toNat dSCurtail) 0 ((List.replicate (((a0_l).length : Int)).toNat dSCurtail).length) a0_l).set a1_i.toNat a2_c).length = (copyL (List.replicate (((a0_l).length : Int)).toNat dSCurtail) 0 ((List.replicate (((a0_l).length : Int)).toNat dSCurtail).length) a0_l).length).symm⟩⟩, trivial⟩ ⟨oa rfl, trivial⟩) ?_
  refine SOps.nil ?_
  refine SCode.seq ?_
  refine SCode.region (show SOps _ _ _ [0, 1] _ _ from ?_)
  refine SOps.q rfl (.plain rfl) rfl (q_move rfl rfl) ?_
  refine SOps.q rfl (.plain rfl) rfl (q_assign rfl rfl) ?_
  refine SOps.sub (st' := ⟨[(6, .c (.own 0 ((copyL (List.replicate (((a0_l).length : Int)).toNat dSCurtail) 0 ((List.replicate (((a0_l).length : Int)).toNat dSCurtail).length) a0_l).set a1_i.toNat a2_c).length))], [.arr 25 7 ((copyL (List.replicate (((a0_l).length : Int)).toNat dSCurtail) 0 ((List.replicate (((a0_l).length : Int)).toNat dSCurtail).length) a0_l).set a1_i.toNat a2_c).length (gL cSCurtail dSCurtail ((copyL (List.replicate (((a0_l).length : Int)).toNat dSCurtail) 0 ((List.replicate (((a0_l).length : Int)).toNat dSCurtail).length) a0_l).set a1_i.toNat a2_c))]⟩) (sub_gen [0] rfl rfl ⟨zc rfl rfl, trivial⟩ ⟨oa rfl, trivial⟩) ?_
  refine SOps.nil ?_
  refine SCode.ret ?_
  obtain rfl := Option.some.inj h
  exact ⟨⟨[(6, .c (.vec ((copyL (List.replicate (((a0_l).length : Int)).toNat dSCurtail) 0 ((List.replicate (((a0_l).length : Int)).toNat dSCurtail).length) a0_l).set a1_i.toNat a2_c).length 7 (gL cSCurtail dSCurtail ((copyL (List.replicate (((a0_l).length : Int)).toNat dSCurtail) 0 ((List.replicate (((a0_l).length : Int)).toNat dSCurtail).length) a0_l).set a1_i.toNat a2_c))))], []⟩, _, sub_gen [] rfl rfl ⟨⟨_, rfl, .inr (.inl ⟨_, _, _, _, _, _, _, rfl, rfl, rfl, Nat.le_refl _, fun _ _ _ _ => rfl, by decide⟩)⟩, trivial⟩ trivial, resA1 (v := .c (.vec ((copyL (List.replicate (((a0_l).length : Int)).toNat dSCurtail) 0 ((List.replicate (((a0_l).length : Int)).toNat dSCurtail).length) a0_l).set a1_i.toNat a2_c).length 7 (gL cSCurtail dSCurtail ((copyL (List.replicate (((a0_l).length : Int)).toNat dSCurtail) 0 ((List.replicate (((a0_l).length : Int)).toNat dSCurtail).length) a0_l).set a1_i.toNat a2_c)))) rfl rfl, rfl⟩
set_option maxRecDepth 100000 in
set_option maxHeartbeats 8000000 in
theorem curtail_insert_ok (F : Nat) (a0_l : List SCurtail) (a1_i : Int) (a2_c : SCurtail) (r : List SCurtail) (h : curtail_insert F a0_l a1_i a2_c = some r) :
    SFun Try.prog 26 [] [.c (.vec a0_l.length 7 (gL cSCurtail dSCurtail a0_l)), .c (.int .i64 a1_i), .a [.str a2_c.Name, .int .i64 a2_c.Version, .int .i64 a2_c.Feeder, .int .i64 a2_c.Span_From, .int .i64 a2_c.Span_To, .int .i64 a2_c.Total, .bool a2_c.Cancelled]] (fun x _ => x = .c (.vec r.length 7 (gL cSCurtail dSCurtail r))) := by
  refine SFun.of (n := 30) Try.func26 rfl rfl rfl ?_
  unfold curtail_insert at h
  show SCode _ _ _ ⟨[(0, .c (.vec a0_l.length 7 (gL cSCurtail dSCurtail a0_l))), (1, .c (.int .i64 a1_i)), (2, .a [.str a2_c.Name, .int .i64 a2_c.Version, .int .i64 a2_c.Feeder, .int .i64 a2_c.Span_From, .int .i64 a2_c.Span_To, .int .i64 a2_c.Total, .bool a2_c.Cancelled])], []⟩ _
  refine SCode.seq ?_
  refine SCode.region (show SOps _ _ _ [0, 1] _ _ from ?_)
  refine SOps.e rfl (.plain rfl) (e_box rfl rfl rfl rfl rfl rfl) ?_
  refine SOps.q rfl (.plain rfl) rfl (q_assign rfl rfl) ?_
  refine SOps.sub (st' := ⟨[(0, .c (.vec a0_l.length 7 (gL cSCurtail dSCurtail a0_l))), (1, .c (.int .i64 a1_i)), (5, .c (.ptr 0 0))], [.box [.str a2_c.Name, .int .i64 a2_c.Version, .int .i64 a2_c.Feeder, .int .i64 a2_c.Span_From, .int .i64 a2_c.Span_To, .int .i64 a2_c.Total, .bool a2_c.Cancelled]]⟩) (sub_gen [0] rfl rfl ⟨zc rfl rfl, zc rfl rfl, zc rfl rfl, trivial⟩ ⟨⟨_, rfl, ⟨ii rfl rfl, ii rfl rfl, ii rfl rfl, ii rfl rfl, ii rfl rfl, ii rfl rfl, ii rfl rfl, trivial⟩⟩, trivial⟩) ?_
  refine SOps.nil ?_
  refine SCode.seq ?_
  obtain ⟨g1, h⟩ := guard_out h
  refine SCode.region (show SOps _ _ _ [0, 1, 2, 3, 4] _ _ from ?_)
  refine SOps.q rfl (.plain rfl) rfl (q_move rfl rfl) ?_
  refine SOps.q rfl (.plain rfl) rfl (q_len_vec rfl rfl sl34) ?_
  refine SOps.q rfl (.plain rfl) rfl (q_add rfl rfl rfl) ?_
  refine SOps.e rfl (.plain rfl) (e_makeL (c := cSCurtail) (d0 := dSCurtail) rfl rfl rfl rfl rfl sl34 z25 rfl rfl rfl g1.1 (Int.le_refl _) g1.2.1 g1.2.2) ?_
  refine SOps.q rfl (.plain rfl) rfl (q_assign rfl rfl) ?_
  refine SOps.sub (st' := ⟨[(0, .c (.vec a0_l.length 7 (gL cSCurtail dSCurtail a0_l))), (1, .c (.int .i64 a1_i)), (5, .c (.ptr 0 0)), (7, .c (.own 1 (List.replicate (IntKind.wrap .i64 (((a0_l).length : Int) + 1)).toNat dSCurtail).length))], [.box [.str a2_c.Name, .int .i64 a2_c.Version, .int .i64 a2_c.Feeder, .int .i64 a2_c.Span_From, .int .i64 a2_c.Span_To, .int .i64 a2_c.Total, .bool a2_c.Cancelled], .arr 25 7 (List.replicate (IntKind.wrap .i64 (((a0_l).length : Int) + 1)).toNat dSCurtail).length (gL cSCurtail dSCurtail (List.replicate (IntKind.wrap .i64 (((a0_l).length : Int) + 1)).toNat dSCurtail))]⟩) (sub_gen [0, 1] rfl rfl ⟨zc rfl rfl, zc rfl rfl, zc rfl rfl, zc rfl rfl, trivial⟩ ⟨⟨_, rfl, ⟨ii rfl rfl, ii rfl rfl, ii rfl rfl, ii rfl rfl, ii rfl rfl, ii rfl rfl, ii rfl rfl, trivial⟩⟩, oa rfl, trivial⟩) ?_
  refine SOps.nil ?_
  refine SCode.seq ?_
  obtain ⟨g2, h⟩ := guard_out h
  refine SCode.region (show SOps _ _ _ [0, 1, 2, 3, 4] _ _ from ?_)
  refine SOps.q rfl (.plain rfl) rfl (q_move rfl rfl) ?_
  refine SOps.q rfl (.plain rfl) rfl (q_move rfl rfl) ?_
  refine SOps.q rfl (.plain rfl) rfl (q_move rfl rfl) ?_
  refine SOps.q rfl (.plain rfl) rfl (q_slice_h rfl rfl rfl sl34 g2.1 g2.2) ?_
  refine SOps.e rfl (.plain rfl) (e_copyL (c := cSCurtail) (d0 := dSCurtail) (l := List.replicate (IntKind.wrap .i64 (((a0_l).length : Int) + 1)).toNat dSCurtail) (s := subL a0_l 0 (a1_i : Int).toNat) (lo := 0) (n := (List.replicate (IntKind.wrap .i64 (((a0_l).length : Int) + 1)).toNat dSCurtail).length) (m := min (subL a0_l 0 (a1_i : Int).toNat).length ((List.replicate (IntKind.wrap .i64 (((a0_l).length : Int) + 1)).toNat dSCurtail).length)) rfl rfl rfl (.inr ⟨rfl, rfl⟩) rfl rfl (.inl rfl) sl34 rfl oneSCurtail (Nat.le_of_eq (Nat.zero_add _)) rfl) ?_
  refine SOps.sub (st' := ⟨[(0, .c (.vec a0_l.length 7 (gL cSCurtail dSCurtail a0_l))), (1, .c (.int .i64 a1_i)), (5, .c (.ptr 0 0)), (7, .c (.own 1 (copyL (List.replicate (IntKind.wrap .i64 (((a0_l).length : Int) + 1)).toNat dSCurtail) 0 ((List.replicate (IntKind.wrap .i64 (((a0_l).length : Int) + 1)).toNat dSCurtail).length) (subL a0_l 0 (a1_i : Int).toNat)).length))], [.box [.str a2_c.Name, .int .i64 a2_c.Version, .int .i64 a2_c.Feeder, .int .i64 a2_c.Span_From, .int .i64 a2_c.Span_To, .int .i64 a2_c.Total, .bool a2_c.Cancelled], .arr 25 7 (copyL (List.replicate (IntKind.wrap .i64 (((a0_l).length : Int) + 1)).toNat dSCurtail) 0 ((List.replicate (IntKind.wrap .i64 (((a0_l).length : Int) + 1)).toNat dSCurtail).length) (subL a0_l 0 (a1_i : Int).toNat)).length (gL cSCurtail dSCurtail (copyL (List.replicate (IntKind.wrap .i64 (((a0_l).length : Int) + 1)).toNat dSCurtail) 0 ((List.replicate (IntKind.wrap .i64 (((a0_l).length : Int) + 1)).toNat dSCurtail).length) (subL a0_l 0 (a1_i : Int).toNat)))]⟩) (sub_gen [0, 1] rfl rfl ⟨zc rfl rfl, zc rfl rfl, zc rfl rfl, ⟨_, rfl, .inl ⟨rfl, congrArg (Cell.own 1) (copyL_len (l := List.replicate (IntKind.wrap .i64 (((a0_l).length : Int) + 1)).toNat dSCurtail) (s := subL a0_l 0 (a1_i : Int).toNat) (lo := 0) (n := (List.replicate (IntKind.wrap .i64 (((a0_l).length : Int) + 1)).toNat dSCurtail).length) (Nat.le_of_eq (Nat.zero_add _))).symm⟩⟩, trivial⟩ ⟨⟨_, rfl, ⟨ii rfl rfl, ii rfl rfl, ii rfl rfl, ii rfl rfl, ii rfl rfl, ii rfl rfl, ii rfl rfl, trivial⟩⟩, oa rfl, trivial⟩) ?_
  refine SOps.nil ?_
  refine SCode.seq ?_
  obtain ⟨g3, h⟩ := guard_out h
  refine SCode.region (show SOps _ _ _ [0, 1, 2, 3, 4] _ _ from ?_)
  refine SOps.q rfl (.plain rfl) rfl (q_move rfl rfl) ?_
  refine SOps.q rfl (.plain rfl) rfl (q_move rfl rfl) ?_
  refine SOps.q rfl (.plain rfl) rfl (q_load_ptr_all rfl rfl rfl rfl rfl ty25) ?_
  refine SOps.q rfl (.plain rfl) rfl (q_index_own rfl rfl rfl sl34 g3.1 g3.2) ?_
  refine SOps.e rfl (.plain rfl) (e_storeL a2_c rfl rfl rfl rfl rfl (toNat_lt g3) ty25 rfl rfl rfl rfl rfl rfl) ?_
  refine SOps.sub (st' := ⟨[(0, .c (.vec a0_l.length 7 (gL cSCurtail dSCurtail a0_l))), (1, .c (.int .i64 a1_i)), (7, .c (.own 0 ((copyL (List.replicate (IntKind.wrap .i64 (((a0_l).length : Int) + 1)).toNat dSCurtail) 0 ((List.replicate (IntKind.wrap .i64 (((a0_l).length : Int) + 1)).toNat dSCurtail).length) (subL a0_l 0 (a1_i : Int).toNat)).set a1_i.toNat a2_c).length))], [.arr 25 7 ((copyL (List.replicate (IntKind.wrap .i64 (((a0_l).length : Int) + 1)).toNat dSCurtail) 0 ((List.replicate (IntKind.wrap .i64 (((a0_l).length : Int) + 1)).toNat dSCurtail).length) (subL a0_l 0 (a1_i : Int).toNat)).set a1_i.toNat a2_c).length (gL cSCurtail dSCurtail ((copyL (List.replicate (IntKind.wrap .i64 (((a0_l).length : Int) + 1)).toNat dSCurtail) 0 ((List.replicate (IntKind.wrap .i64 (((a0_l).length : Int) + 1)).toNat dSCurtail).length) (subL a0_l 0 (a1_i : Int).toNat)).set a1_i.toNat a2_c))]⟩) (sub_gen [1] rfl rfl ⟨zc rfl rfl, zc rfl rfl, ⟨_, rfl, .inl ⟨rfl, congrArg (Cell.own 1) (List.length_set : ((copyL (List.replicate (IntKind.wrap .i64 (((a0_l).length : Int) + 1)).toNat dSCurtail) 0 ((List.replicate (IntKind.wrap .i64 (((a0_l).length : Int) + 1)).toNat dSCurtail).length) (subL a0_l 0 (a1_i : Int).toNat)).set a1_i.toNat a2_c).length = (copyL (List.replicate (IntKind.wrap .i64 (((a0_l).length : Int) + 1)).toNat dSCurtail) 0 ((List.replicate (IntKind.wrap .i64 (((a0_l).length : Int) + 1)).toNat dSCurtail).length) (subL a0_l 0 (a1_i : Int).toNat)).length).symm⟩⟩, trivial⟩ ⟨oa rfl, trivial⟩) ?_
  refine SOps.nil ?_
  refine SCode.seq ?_
  obtain ⟨g4, h⟩ := guard_out h
  obtain ⟨g5, h⟩ := guard_out h
  obtain ⟨g6, h⟩ := guard_out h
  refine SCode.draw (s' := [(27, .c (.vec (subL a0_l (a1_i : Int).toNat (a0_l).length).length 7 (gL cSCurtail dSCurtail (subL a0_l (a1_i : Int).toNat (a0_l).length)))), (26, .c (.int .i64 a1_i)), (25, .c (.vec a0_l.length 7 (gL cSCurtail dSCurtail a0_l))), (24, .c (.sub 0 ((IntKind.wrap .i64 (a1_i + 1) : Int).toNat) (((copyL (List.replicate (IntKind.wrap .i64 (((a0_l).length : Int) + 1)).toNat dSCurtail) 0 ((List.replicate (IntKind.wrap .i64 (((a0_l).length : Int) + 1)).toNat dSCurtail).length) (subL a0_l 0 (a1_i : Int).toNat)).set a1_i.toNat a2_c).length - (IntKind.wrap .i64 (a1_i + 1) : Int).toNat) 7)), (23, .c (.int .i64 (IntKind.wrap .i64 (a1_i + 1)))), (22, .c (.int .i64 a1_i)), (21, .c (.own 0 ((copyL (List.replicate (IntKind.wrap .i64 (((a0_l).length : Int) + 1)).toNat dSCurtail) 0 ((List.replicate (IntKind.wrap .i64 (((a0_l).length : Int) + 1)).toNat dSCurtail).length) (subL a0_l 0 (a1_i : Int).toNat)).set a1_i.toNat a2_c).length)), (0, .c (.vec a0_l.length 7 (gL cSCurtail dSCurtail a0_l))), (1, .c (.int .i64 a1_i)), (7, .c (.own 0 ((copyL (List.replicate (IntKind.wrap .i64 (((a0_l).length : Int) + 1)).toNat dSCurtail) 0 ((List.replicate (IntKind.wrap .i64 (((a0_l).length : Int) + 1)).toNat dSCurtail).length) (subL a0_l 0 (a1_i : Int).toNat)).set a1_i.toNat a2_c).length))]) mixed [[], [], [1], [0, 1, 2], [], [], [4, 5], [0, 1, 2, 3, 4, 5, 6]] 7 1 rfl rfl ?_ ?_
  · refine QChain.run rfl (.plain rfl) rfl (q_move rfl rfl) ?_
    refine QChain.run rfl (.plain rfl) rfl (q_move rfl rfl) ?_
    refine QChain.run rfl (.plain rfl) rfl (q_add rfl rfl rfl) ?_
    refine QChain.run rfl (.plain rfl) rfl (q_own_l rfl rfl rfl rfl sl34 g4.1 g4.2) ?_
    refine QChain.run rfl (.plain rfl) rfl (q_move rfl rfl) ?_
    refine QChain.run rfl (.plain rfl) rfl (q_move rfl rfl) ?_
    refine QChain.run rfl (.plain rfl) rfl (q_slice_l rfl rfl rfl sl34 g5.1 g5.2) ?_
    exact QChain.nil _ _
  refine (show SOps _ _ _ [7] _ _ from ?_)
  refine SOps.e rfl (.plain rfl) (e_copyL (c := cSCurtail) (d0 := dSCurtail) (l := (copyL (List.replicate (IntKind.wrap .i64 (((a0_l).length : Int) + 1)).toNat dSCurtail) 0 ((List.replicate (IntKind.wrap .i64 (((a0_l).length : Int) + 1)).toNat dSCurtail).length) (subL a0_l 0 (a1_i : Int).toNat)).set a1_i.toNat a2_c) (s := subL a0_l (a1_i : Int).toNat (a0_l).length) (lo := (IntKind.wrap .i64 (a1_i + 1) : Int).toNat) (n := ((copyL (List.replicate (IntKind.wrap .i64 (((a0_l).length : Int) + 1)).toNat dSCurtail) 0 ((List.replicate (IntKind.wrap .i64 (((a0_l).length : Int) + 1)).toNat dSCurtail).length) (subL a0_l 0 (a1_i : Int).toNat)).set a1_i.toNat a2_c).length - (IntKind.wrap .i64 (a1_i + 1) : Int).toNat) (m := min (subL a0_l (a1_i : Int).toNat (a0_l).length).length (((copyL (List.replicate (IntKind.wrap .i64 (((a0_l).length : Int) + 1)).toNat dSCurtail) 0 ((List.replicate (IntKind.wrap .i64 (((a0_l).length : Int) + 1)).toNat dSCurtail).length) (subL a0_l 0 (a1_i : Int).toNat)).set a1_i.toNat a2_c).length - (IntKind.wrap .i64 (a1_i + 1) : Int).toNat)) rfl rfl rfl (.inl rfl) rfl rfl (.inl rfl) sl34 rfl oneSCurtail g6 rfl) ?_
  refine SOps.sub (st' := ⟨[(7, .c (.own 0 (copyL ((copyL (List.replicate (IntKind.wrap .i64 (((a0_l).length : Int) + 1)).toNat dSCurtail) 0 ((List.replicate (IntKind.wrap .i64 (((a0_l).length : Int) + 1)).toNat dSCurtail).length) (subL a0_l 0 (a1_i : Int).toNat)).set a1_i.toNat a2_c) ((IntKind.wrap .i64 (a1_i + 1) : Int).toNat) (((copyL (List.replicate (IntKind.wrap .i64 (((a0_l).length : Int) + 1)).toNat dSCurtail) 0 ((List.replicate (IntKind.wrap .i64 (((a0_l).length : Int) + 1)).toNat dSCurtail).length) (subL a0_l 0 (a1_i : Int).toNat)).set a1_i.toNat a2_c).length - (IntKind.wrap .i64 (a1_i + 1) : Int).toNat) (subL a0_l (a1_i : Int).toNat (a0_l).length)).length))], [.arr 25 7 (copyL ((copyL (List.replicate (IntKind.wrap .i64 (((a0_l).length : Int) + 1)).toNat dSCurtail) 0 ((List.replicate (IntKind.wrap .i64 (((a0_l).length : Int) + 1)).toNat dSCurtail).length) (subL a0_l 0 (a1_i : Int).toNat)).set a1_i.toNat a2_c) ((IntKind.wrap .i64 (a1_i + 1) : Int).toNat) (((copyL (List.replicate (IntKind.wrap .i64 (((a0_l).length : Int) + 1)).toNat dSCurtail) 0 ((List.replicate (IntKind.wrap .i64 (((a0_l).length : Int) + 1)).toNat dSCurtail).length) (subL a0_l 0 (a1_i : Int).toNat)).set a1_i.toNat a2_c).length - (IntKind.wrap .i64 (a1_i + 1) : Int).toNat) (subL a0_l (a1_i : Int).toNat (a0_l).length)).length (gL cSCurtail dSCurtail (copyL ((copyL (List.replicate (IntKind.wrap .i64 (((a0_l).length : Int) + 1)).toNat dSCurtail) 0 ((List.replicate (IntKind.wrap .i64 (((a0_l).length : Int) + 1)).toNat dSCurtail).length) (subL a0_l 0 (a1_i : Int).toNat)).set a1_i.toNat a2_c) ((IntKind.wrap .i64 (a1_i + 1) : Int).toNat) (((copyL (List.replicate (IntKind.wrap .i64 (((a0_l).length : Int) + 1)).toNat dSCurtail) 0 ((List.replicate (IntKind.wrap .i64 (((a0_l).length : Int) + 1)).toNat dSCurtail).length) (subL a0_l 0 (a1_i : Int).toNat)).set a1_i.toNat a2_c).length - (IntKind.wrap .i64 (a1_i + 1) : Int).toNat) (subL a0_l (a1_i : Int).toNat (a0_l).length)))]⟩) (sub_gen [0] rfl rfl ⟨⟨_, rfl, .inl ⟨rfl, congrArg (Cell.own 0) (copyL_len (l := (copyL (List.replicate (IntKind.wrap .i64 (((a0_l).length : Int) + 1)).toNat dSCurtail) 0 ((List.replicate (IntKind.wrap .i64 (((a0_l).length : Int) + 1)).toNat dSCurtail).length) (subL a0_l 0 (a1_i : Int).toNat)).set a1_i.toNat a2_c) (s := subL a0_l (a1_i : Int).toNat (a0_l).length) (lo := (IntKind.wrap .i64 (a1_i + 1) : Int).toNat) (n := ((copyL (List.replicate (IntKind.wrap .i64 (((a0_l).length : Int) + 1)).toNat dSCurtail) 0 ((List.replicate (IntKind.wrap .i64 (((a0_l).length : Int) + 1)).toNat dSCurtail).length) (subL a0_l 0 (a1_i : Int).toNat)).set a1_i.toNat a2_c).length - (IntKind.wrap .i64 (a1_i + 1) : Int).toNat) g6).symm⟩⟩, trivial⟩ ⟨oa rfl, trivial⟩) ?_
  refine SOps.nil ?_
  refine SCode.seq ?_
  refine SCode.region (show SOps _ _ _ [0, 1] _ _ from ?_)
  refine SOps.q rfl (.plain rfl) rfl (q_move rfl rfl) ?_
  refine SOps.q rfl (.plain rfl) rfl (q_assign rfl rfl) ?_
  refine SOps.sub (st' := ⟨[(6, .c (.own 0 (copyL ((copyL (List.replicate (IntKind.wrap .i64 (((a0_l).length : Int) + 1)).toNat dSCurtail) 0 ((List.replicate (IntKind.wrap .i64 (((a0_l).length : Int) + 1)).toNat dSCurtail).length) (subL a0_l 0 (a1_i : Int).toNat)).set a1_i.toNat a2_c) ((IntKind.wrap .i64 (a1_i + 1) : Int).toNat) (((copyL (List.replicate (IntKind.wrap .i64 (((a0_l).length : Int) + 1)).toNat dSCurtail) 0 ((List.replicate (IntKind.wrap .i64 (((a0_l).length : Int) + 1)).toNat dSCurtail).length) (subL a0_l 0 (a1_i : Int).toNat)).set a1_i.toNat a2_c).length - (IntKind.wrap .i64 (a1_i + 1) : Int).toNat) (subL a0_l (a1_i : Int).toNat (a0_l).length)).length))], [.arr 25 7 (copyL ((copyL (List.replicate (IntKind.wrap .i64 (((a0_l).length : Int) + 1)).toNat dSCurtail) 0 ((List.replicate (IntKind.wrap .i64 (((a0_l).length : Int) + 1)).toNat dSCurtail).length) (subL a0_l 0 (a1_i : Int).toNat)).set a1_i.toNat a2_c) ((IntKind.wrap .i64 (a1_i + 1) : Int).toNat) (((copyL (List.replicate (IntKind.wrap .i64 (((a0_l).length : Int) + 1)).toNat dSCurtail) 0 ((List.replicate (IntKind.wrap .i64 (((a0_l).length : Int) + 1)).toNat dSCurtail).length) (subL a0_l 0 (a1_i : Int).toNat)).set a1_i.toNat a2_c).length - (IntKind.wrap .i64 (a1_i + 1) : Int).toNat) (subL a0_l (a1_i : Int).toNat (a0_l).length)).length (gL cSCurtail dSCurtail (copyL ((copyL (List.replicate (IntKind.wrap .i64 (((a0_l).length : Int) + 1)).toNat dSCurtail) 0 ((List.replicate (IntKind.wrap .i64 (((a0_l).length : Int) + 1)).toNat dSCurtail).length) (subL a0_l 0 (a1_i : Int).toNat)).set a1_i.toNat a2_c) ((IntKind.wrap .i64 (a1_i + 1) : Int).toNat) (((copyL (List.replicate (IntKind.wrap .i64 (((a0_l).length : Int) + 1)).toNat dSCurtail) 0 ((List.replicate (IntKind.wrap .i64 (((a0_l).length : Int) + 1)).toNat dSCurtail).length) (subL a0_l 0 (a1_i : Int).toNat)).set a1_i.toNat a2_c).length - (IntKind.wrap .i64 (a1_i + 1) : Int).toNat) (subL a0_l (a1_i : Int).toNat (a0_l).length)))]⟩) (sub_gen [0] rfl rfl ⟨zc rfl rfl, trivial⟩ ⟨oa rfl, trivial⟩) ?_
  refine SOps.nil ?_
  refine SCode.ret ?_
  obtain rfl := Option.some.inj h
  exact ⟨⟨[(6, .c (.vec (copyL ((copyL (List.replicate (IntKind.wrap .i64 (((a0_l).length : Int) + 1)).toNat dSCurtail) 0 ((List.replicate (IntKind.wrap .i64 (((a0_l).length : Int) + 1)).toNat dSCurtail).length) (subL a0_l 0 (a1_i : Int).toNat)).set a1_i.toNat a2_c) ((IntKind.wrap .i64 (a1_i + 1) : Int).toNat) (((copyL (List.replicate (IntKind.wrap .i64 (((a0_l).length : Int) + 1)).toNat dSCurtail) 0 ((List.replicate (IntKind.wrap .i64 (((a0_l).length : Int) + 1)).toNat dSCurtail).length) (subL a0_l 0 (a1_i : Int).toNat)).set a1_i.toNat a2_c).length - (IntKind.wrap .i64 (a1_i + 1) : Int).toNat) (subL a0_l (a1_i : Int).toNat (a0_l).length)).length 7 (gL cSCurtail dSCurtail (copyL ((copyL (List.replicate (IntKind.wrap .i64 (((a0_l).length : Int) + 1)).toNat dSCurtail) 0 ((List.replicate (IntKind.wrap .i64 (((a0_l).length : Int) + 1)).toNat dSCurtail).length) (subL a0_l 0 (a1_i : Int).toNat)).set a1_i.toNat a2_c) ((IntKind.wrap .i64 (a1_i + 1) : Int).toNat) (((copyL (List.replicate (IntKind.wrap .i64 (((a0_l).length : Int) + 1)).toNat dSCurtail) 0 ((List.replicate (IntKind.wrap .i64 (((a0_l).length : Int) + 1)).toNat dSCurtail).length) (subL a0_l 0 (a1_i : Int).toNat)).set a1_i.toNat a2_c).length - (IntKind.wrap .i64 (a1_i + 1) : Int).toNat) (subL a0_l (a1_i : Int).toNat (a0_l).length)))))], []⟩, _, sub_gen [] rfl rfl ⟨⟨_, rfl, .inr (.inl ⟨_, _, _, _, _, _, _, rfl, rfl, rfl, Nat.le_refl _, fun _ _ _ _ => rfl, by decide⟩)⟩, trivial⟩ trivial, resA1 (v := .c (.vec (copyL ((copyL (List.replicate (IntKind.wrap .i64 (((a0_l).length : Int) + 1)).toNat dSCurtail) 0 ((List.replicate (IntKind.wrap .i64 (((a0_l).length : Int) + 1)).toNat dSCurtail).length) (subL a0_l 0 (a1_i : Int).toNat)).set a1_i.toNat a2_c) ((IntKind.wrap .i64 (a1_i + 1) : Int).toNat) (((copyL (List.replicate (IntKind.wrap .i64 (((a0_l).length : Int) + 1)).toNat dSCurtail) 0 ((List.replicate (IntKind.wrap .i64 (((a0_l).length : Int) + 1)).toNat dSCurtail).length) (subL a0_l 0 (a1_i : Int).toNat)).set a1_i.toNat a2_c).length - (IntKind.wrap .i64 (a1_i + 1) : Int).toNat) (subL a0_l (a1_i : Int).toNat (a0_l).length)).length 7 (gL cSCurtail dSCurtail (copyL ((copyL (List.replicate (IntKind.wrap .i64 (((a0_l).length : Int) + 1)).toNat dSCurtail) 0 ((List.replicate (IntKind.wrap .i64 (((a0_l).length : Int) + 1)).toNat dSCurtail).length) (subL a0_l 0 (a1_i : Int).toNat)).set a1_i.toNat a2_c) ((IntKind.wrap .i64 (a1_i + 1) : Int).toNat) (((copyL (List.replicate (IntKind.wrap .i64 (((a0_l).length : Int) + 1)).toNat dSCurtail) 0 ((List.replicate (IntKind.wrap .i64 (((a0_l).length : Int) + 1)).toNat dSCurtail).length) (subL a0_l 0 (a1_i : Int).toNat)).set a1_i.toNat a2_c).length - (IntKind.wrap .i64 (a1_i + 1) : Int).toNat) (subL a0_l (a1_i : Int).toNat (a0_l).length))))) rfl rfl, rfl⟩
end Go.Proofs.Ytcccjpkfifefaaa.W
