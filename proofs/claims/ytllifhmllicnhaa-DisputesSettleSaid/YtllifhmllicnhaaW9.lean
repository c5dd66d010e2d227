/- Written by a program of ours (wip/eng/gen.py): chargenet/ident.Valid computes its model. -/
import Derived.Test.YtllifhmllicnhaaFacts
import Derived.Test.YtllifhmllicnhaaW15
namespace Go.Proofs.Ytllifhmllicnhaa.W
open Go Go.Proofs Go.Proofs.Ytllifhmllicnhaa.E Go.Proofs.Ytllifhmllicnhaa.M
set_option linter.unusedVariables false
theorem ident_Valid_ok (F : Nat) (a0_s : ByteArray) (r : Bool) (h : ident_Valid F a0_s = some r) :
    SFun Try.prog 9 [] [.c (.str a0_s)] (fun x _ => x = .c (.bool r)) := by
  refine SFun.of (n := 28) Try.func9 rfl rfl rfl ?_
  unfold ident_Valid at h
  show SCode _ _ _ ⟨[(0, .c (.str a0_s))], []⟩ _
  refine SCode.seq ?_
  refine SCode.region (show SOps _ _ _ [0] _ _ from ?_)
  refine SOps.q rfl (.plain rfl) rfl (q_assign rfl rfl) ?_
  refine SOps.sub (st' := ⟨[(0, .c (.str a0_s))], []⟩) (sub_gen [] rfl rfl ⟨⟨_, rfl, .inl ⟨rfl, rfl⟩⟩, trivial⟩ trivial) ?_
  refine SOps.nil ?_
  refine SCode.seq ?_
  refine SCode.seq ?_
  rcases cond_out h with ⟨g1, h⟩ | ⟨g1, h⟩
  · refine SCode.region (show SOps _ _ _ [0, 1, 2, 3, 4, 5, 6, 7] _ _ from ?_)
    refine SOps.q rfl (.plain rfl) rfl (q_move rfl rfl) ?_
    refine SOps.q rfl (.plain rfl) rfl (q_len_str rfl rfl un9) ?_
    refine SOps.q rfl (.plain rfl) rfl (q_lss rfl rfl rfl) ?_
    refine SOps.q rfl (.plain rfl) rfl (q_move rfl rfl) ?_
    refine SOps.skip rfl 3 8 false rfl rfl (.inl (gT g1)) rfl ?_
    refine SOps.skip rfl 3 8 false rfl rfl (.inl (gT g1)) rfl ?_
    refine SOps.skip rfl 3 8 false rfl rfl (.inl (gT g1)) rfl ?_
    refine SOps.q rfl (.plain rfl) rfl (q_pick_t rfl rfl g1 rfl) ?_
    refine SOps.sub (st' := ⟨[(0, .c (.str a0_s)), (12, .c (.bool true))], []⟩) (sub_gen [] rfl rfl ⟨⟨_, rfl, .inl ⟨rfl, rfl⟩⟩, ⟨_, rfl, .inl ⟨rfl, rfl⟩⟩, trivial⟩ trivial) ?_
    refine SOps.nil ?_
    refine SCode.cond_t rfl rfl ?_
    refine SCode.seq ?_
    refine SCode.region (show SOps _ _ _ [0] _ _ from ?_)
    refine SOps.q rfl (.plain rfl) rfl (q_assign rfl rfl) ?_
    refine SOps.sub (st' := ⟨[(2, .c (.bool false))], []⟩) (sub_gen [] rfl rfl ⟨⟨_, rfl, .inl ⟨rfl, rfl⟩⟩, trivial⟩ trivial) ?_
    refine SOps.nil ?_
    refine SCode.ret ?_
    obtain rfl := Option.some.inj h
    exact ⟨⟨[(2, .c (.bool false))], []⟩, _, sub_gen [] rfl rfl ⟨⟨_, rfl, .inl ⟨rfl, rfl⟩⟩, trivial⟩ trivial, resA1 (v := .c (.bool false)) rfl rfl, rfl⟩
  · refine SCode.region (show SOps _ _ _ [0, 1, 2, 3, 4, 5, 6, 7] _ _ from ?_)
    refine SOps.q rfl (.plain rfl) rfl (q_move rfl rfl) ?_
    refine SOps.q rfl (.plain rfl) rfl (q_len_str rfl rfl un9) ?_
    refine SOps.q rfl (.plain rfl) rfl (q_lss rfl rfl rfl) ?_
    refine SOps.q rfl (.plain rfl) rfl (q_move rfl rfl) ?_
    refine SOps.q rfl (.guard 3 8 false rfl rfl (gF g1)) rfl (q_move rfl rfl) ?_
    refine SOps.q rfl (.guard 3 8 false rfl rfl (gF g1)) rfl (q_len_str rfl rfl un9) ?_
    refine SOps.q rfl (.guard 3 8 false rfl rfl (gF g1)) rfl (q_gtr rfl rfl rfl) ?_
    refine SOps.q rfl (.plain rfl) rfl (q_pick_f rfl rfl g1 rfl) ?_
    refine SOps.sub (st' := ⟨[(0, .c (.str a0_s)), (12, .c (.bool (decide (36 < (a0_s.size : Int)))))], []⟩) (sub_gen [] rfl rfl ⟨⟨_, rfl, .inl ⟨rfl, rfl⟩⟩, ⟨_, rfl, .inl ⟨rfl, rfl⟩⟩, trivial⟩ trivial) ?_
    refine SOps.nil ?_
    rcases cond_out h with ⟨g2, h⟩ | ⟨g2, h⟩
    · refine SCode.cond_t rfl g2 ?_
      refine SCode.seq ?_
      refine SCode.region (show SOps _ _ _ [0] _ _ from ?_)
      refine SOps.q rfl (.plain rfl) rfl (q_assign rfl rfl) ?_
      refine SOps.sub (st' := ⟨[(2, .c (.bool false))], []⟩) (sub_gen [] rfl rfl ⟨⟨_, rfl, .inl ⟨rfl, rfl⟩⟩, trivial⟩ trivial) ?_
      refine SOps.nil ?_
      refine SCode.ret ?_
      obtain rfl := Option.some.inj h
      exact ⟨⟨[(2, .c (.bool false))], []⟩, _, sub_gen [] rfl rfl ⟨⟨_, rfl, .inl ⟨rfl, rfl⟩⟩, trivial⟩ trivial, resA1 (v := .c (.bool false)) rfl rfl, rfl⟩
    · refine SCode.cond_f rfl g2 ?_
      refine SCode.skip ?_
      refine SCode.join (σ := Unit) (S := fun s => ⟨[], []⟩) (g := fun s => ident_Valid_p3 = some r) ?_ ?_
      · rintro ⟨⟩ h
        show SCode _ _ _ ⟨[], []⟩ _
        replace h : ident_Valid_p3 = some r := h
        unfold ident_Valid_p3 at h
        refine SCode.seq ?_
        refine SCode.region (show SOps _ _ _ [0] _ _ from ?_)
        refine SOps.q rfl (.plain rfl) rfl (q_assign rfl rfl) ?_
        refine SOps.sub (st' := ⟨[(2, .c (.bool true))], []⟩) (sub_gen [] rfl rfl ⟨⟨_, rfl, .inl ⟨rfl, rfl⟩⟩, trivial⟩ trivial) ?_
        refine SOps.nil ?_
        refine SCode.ret ?_
        obtain rfl := Option.some.inj h
        exact ⟨⟨[(2, .c (.bool true))], []⟩, _, sub_gen [] rfl rfl ⟨⟨_, rfl, .inl ⟨rfl, rfl⟩⟩, trivial⟩ trivial, resA1 (v := .c (.bool true)) rfl rfl, rfl⟩
      · refine SCode.seq ?_
        refine SCode.region (show SOps _ _ _ [0, 1] _ _ from ?_)
        refine SOps.q rfl (.plain rfl) rfl (q_move rfl rfl) ?_
        refine SOps.e rfl (.plain rfl) (e_range rfl rfl rfl rfl un9) ?_
        refine SOps.sub (st' := ⟨[(14, .c (.ptr 0 0))], [.raw (.stringIter a0_s 0)]⟩) (sub_gen [0] rfl rfl ⟨⟨_, rfl, .inl ⟨rfl, rfl⟩⟩, trivial⟩ ⟨rfl, trivial⟩) ?_
        refine SOps.nil ?_
        refine SCode.block ?_
        refine SCode.sub (st' := ⟨[(14, .c (.ptr 0 0))], [.raw (.stringIter a0_s 0)]⟩) (sub_gen [0] rfl rfl ⟨⟨_, rfl, .inl ⟨rfl, rfl⟩⟩, trivial⟩ ⟨rfl, trivial⟩) ?_
        refine (SCode.loop (σ := Nat × Nat) (S := fun s => ⟨[(14, .c (.ptr 0 0))], [.raw (.stringIter a0_s s.2)]⟩) (g := fun s => ident_Valid_l29 F a0_s s.1 s.2 = some r) (μ := fun s => s.1) (F, 0) h ?_)
        rintro ⟨n_29, pos_17⟩ h
        replace h : ident_Valid_l29 F a0_s n_29 pos_17 = some r := h
        show SCode _ _ _ ⟨[(14, .c (.ptr 0 0))], [.raw (.stringIter a0_s pos_17)]⟩ _
        cases n_29 with
        | zero => cases h
        | succ n_29 =>
          replace h : ident_Valid_b29 F a0_s (fun pos_17 => ident_Valid_l29 F a0_s n_29 pos_17) pos_17 = some r := h
          unfold ident_Valid_b29 at h
          refine SCode.seq ?_
          rcases cond_out h with ⟨g30, h⟩ | ⟨g30, h⟩
          · refine SCode.region (show SOps _ _ _ [0, 1] _ _ from ?_)
            refine SOps.e rfl (.plain rfl) (e_next_t rfl rfl rfl rfl rfl g30) ?_
            refine SOps.q rfl (.plain rfl) rfl (q_extract rfl rfl rfl) ?_
            refine SOps.sub (st' := ⟨[(14, .c (.ptr 0 0)), (15, .t [.c (.bool true), .c (.int .i64 ((pos_17 : Int))), .c (.int .i32 (((Utf8.decode a0_s pos_17).1 : Int)))]), (16, .c (.bool true))], [.raw (.stringIter a0_s (pos_17 + (Utf8.decode a0_s pos_17).2))]⟩) (sub_gen [0] rfl rfl ⟨⟨_, rfl, .inl ⟨rfl, rfl⟩⟩, ⟨rfl, rfl⟩, ⟨_, rfl, .inl ⟨rfl, rfl⟩⟩, trivial⟩ ⟨rfl, trivial⟩) ?_
            refine SOps.nil ?_
            refine SCode.seq ?_
            refine SCode.cond_t rfl rfl ?_
            refine SCode.skip ?_
            refine SCode.block ?_
            refine SCode.seq ?_
            refine SCode.region (show SOps _ _ _ [0, 1] _ _ from ?_)
            refine SOps.q rfl (.plain rfl) rfl (q_extract rfl rfl rfl) ?_
            refine SOps.q rfl (.plain rfl) rfl (q_assign rfl rfl) ?_
            refine SOps.sub (st' := ⟨[(4, .c (.int .i32 (((Utf8.decode a0_s pos_17).1 : Int)))), (14, .c (.ptr 0 0))], [.raw (.stringIter a0_s (pos_17 + (Utf8.decode a0_s pos_17).2))]⟩) (sub_gen [0] rfl rfl ⟨⟨_, rfl, .inl ⟨rfl, rfl⟩⟩, ⟨_, rfl, .inl ⟨rfl, rfl⟩⟩, trivial⟩ ⟨rfl, trivial⟩) ?_
            refine SOps.nil ?_
            refine SCode.seq ?_
            refine SCode.seq ?_
            refine SCode.region (show SOps _ _ _ [0] _ _ from ?_)
            refine SOps.q rfl (.plain rfl) rfl (q_move rfl rfl) ?_
            refine SOps.sub (st' := ⟨[(4, .c (.int .i32 (((Utf8.decode a0_s pos_17).1 : Int)))), (14, .c (.ptr 0 0)), (18, .c (.int .i32 (((Utf8.decode a0_s pos_17).1 : Int))))], [.raw (.stringIter a0_s (pos_17 + (Utf8.decode a0_s pos_17).2))]⟩) (sub_gen [0] rfl rfl ⟨⟨_, rfl, .inl ⟨rfl, rfl⟩⟩, ⟨_, rfl, .inl ⟨rfl, rfl⟩⟩, ⟨_, rfl, .inl ⟨rfl, rfl⟩⟩, trivial⟩ ⟨rfl, trivial⟩) ?_
            refine SOps.nil ?_
            refine SCode.block ?_
            refine SCode.join (σ := Bool) (S := fun s => ⟨[(4, .c (.int .i32 (((Utf8.decode a0_s pos_17).1 : Int)))), (14, .c (.ptr 0 0)), (19, .c (.bool s))], [.raw (.stringIter a0_s (pos_17 + (Utf8.decode a0_s pos_17).2))]⟩) (g := fun s => ident_Valid_p36 F a0_s pos_17 (fun pos_17 => ident_Valid_l29 F a0_s n_29 pos_17) s = some r) ?_ ?_
            · rintro t19_31 h
              show SCode _ _ _ ⟨[(4, .c (.int .i32 (((Utf8.decode a0_s pos_17).1 : Int)))), (14, .c (.ptr 0 0)), (19, .c (.bool t19_31))], [.raw (.stringIter a0_s (pos_17 + (Utf8.decode a0_s pos_17).2))]⟩ _
              replace h : ident_Valid_p36 F a0_s pos_17 (fun pos_17 => ident_Valid_l29 F a0_s n_29 pos_17) t19_31 = some r := h
              unfold ident_Valid_p36 at h
              rcases cond_out h with ⟨g32, h⟩ | ⟨g32, h⟩
              · refine SCode.cond_t rfl g32 ?_
                refine SCode.exit ?_
                exact ⟨(n_29, pos_17 + (Utf8.decode a0_s pos_17).2), h, Nat.lt_succ_self n_29, sub_gen [0] rfl rfl ⟨⟨_, rfl, .inl ⟨rfl, rfl⟩⟩, trivial⟩ ⟨rfl, trivial⟩⟩
              · refine SCode.cond_f rfl g32 ?_
                refine SCode.skip ?_
                refine SCode.seq ?_
                obtain ⟨c_33, g34, h⟩ := bind_out h
                try dsimp only at h
                refine SCode.region (show SOps _ _ _ [0, 1, 2] _ _ from ?_)
                refine SOps.q rfl (.plain rfl) rfl (q_move rfl rfl) ?_
                refine SOps.q rfl (.plain rfl) rfl (q_call (ident_value_ok F (((Utf8.decode a0_s pos_17).1 : Int)) c_33 g34) [] rfl fn15 ⟨⟨_, rfl, .inl ⟨rfl, rfl⟩⟩, trivial⟩ (.inl rfl)) ?_
                refine SOps.q rfl (.plain rfl) rfl (q_lss rfl rfl rfl) ?_
                refine SOps.sub (st' := ⟨[(14, .c (.ptr 0 0)), (27, .c (.bool (decide (c_33 < 0))))], [.raw (.stringIter a0_s (pos_17 + (Utf8.decode a0_s pos_17).2))]⟩) (sub_gen [0] rfl rfl ⟨⟨_, rfl, .inl ⟨rfl, rfl⟩⟩, ⟨_, rfl, .inl ⟨rfl, rfl⟩⟩, trivial⟩ ⟨rfl, trivial⟩) ?_
                refine SOps.nil ?_
                rcases cond_out h with ⟨g35, h⟩ | ⟨g35, h⟩
                · refine SCode.cond_t rfl g35 ?_
                  refine SCode.seq ?_
                  refine SCode.region (show SOps _ _ _ [0] _ _ from ?_)
                  refine SOps.q rfl (.plain rfl) rfl (q_assign rfl rfl) ?_
                  refine SOps.sub (st' := ⟨[(2, .c (.bool false))], []⟩) (sub_gen [] rfl rfl ⟨⟨_, rfl, .inl ⟨rfl, rfl⟩⟩, trivial⟩ trivial) ?_
                  refine SOps.nil ?_
                  refine SCode.ret ?_
                  obtain rfl := Option.some.inj h
                  exact ⟨⟨[(2, .c (.bool false))], []⟩, _, sub_gen [] rfl rfl ⟨⟨_, rfl, .inl ⟨rfl, rfl⟩⟩, trivial⟩ trivial, resA1 (v := .c (.bool false)) rfl rfl, rfl⟩
                · refine SCode.cond_f rfl g35 ?_
                  refine SCode.skip ?_
                  exact ⟨(n_29, pos_17 + (Utf8.decode a0_s pos_17).2), h, Nat.lt_succ_self n_29, sub_gen [0] rfl rfl ⟨⟨_, rfl, .inl ⟨rfl, rfl⟩⟩, trivial⟩ ⟨rfl, trivial⟩⟩
            · refine SCode.seq ?_
              refine SCode.region (show SOps _ _ _ [0, 1] _ _ from ?_)
              refine SOps.q rfl (.plain rfl) rfl (q_eql rfl rfl rfl) ?_
              refine SOps.q rfl (.plain rfl) rfl (q_assign rfl rfl) ?_
              refine SOps.sub (st' := ⟨[(4, .c (.int .i32 (((Utf8.decode a0_s pos_17).1 : Int)))), (14, .c (.ptr 0 0)), (18, .c (.int .i32 (((Utf8.decode a0_s pos_17).1 : Int)))), (19, .c (.bool (decide (((Utf8.decode a0_s pos_17).1 : Int) = 45))))], [.raw (.stringIter a0_s (pos_17 + (Utf8.decode a0_s pos_17).2))]⟩) (sub_gen [0] rfl rfl ⟨⟨_, rfl, .inl ⟨rfl, rfl⟩⟩, ⟨_, rfl, .inl ⟨rfl, rfl⟩⟩, ⟨_, rfl, .inl ⟨rfl, rfl⟩⟩, ⟨_, rfl, .inl ⟨rfl, rfl⟩⟩, trivial⟩ ⟨rfl, trivial⟩) ?_
              refine SOps.nil ?_
              rcases cond_out h with ⟨g37, h⟩ | ⟨g37, h⟩
              · refine SCode.cond_t rfl g37 ?_
                refine SCode.skip ?_
                exact ⟨decide (((Utf8.decode a0_s pos_17).1 : Int) = 45), h, sub_gen [0] rfl rfl ⟨⟨_, rfl, .inl ⟨rfl, rfl⟩⟩, ⟨_, rfl, .inl ⟨rfl, rfl⟩⟩, ⟨_, rfl, .inl ⟨rfl, rfl⟩⟩, trivial⟩ ⟨rfl, trivial⟩⟩
              · refine SCode.cond_f rfl g37 ?_
                refine SCode.seq ?_
                refine SCode.region (show SOps _ _ _ [0, 1] _ _ from ?_)
                refine SOps.q rfl (.plain rfl) rfl (q_eql rfl rfl rfl) ?_
                refine SOps.q rfl (.plain rfl) rfl (q_assign rfl rfl) ?_
                refine SOps.sub (st' := ⟨[(4, .c (.int .i32 (((Utf8.decode a0_s pos_17).1 : Int)))), (14, .c (.ptr 0 0)), (18, .c (.int .i32 (((Utf8.decode a0_s pos_17).1 : Int)))), (19, .c (.bool (decide (((Utf8.decode a0_s pos_17).1 : Int) = 95))))], [.raw (.stringIter a0_s (pos_17 + (Utf8.decode a0_s pos_17).2))]⟩) (sub_gen [0] rfl rfl ⟨⟨_, rfl, .inl ⟨rfl, rfl⟩⟩, ⟨_, rfl, .inl ⟨rfl, rfl⟩⟩, ⟨_, rfl, .inl ⟨rfl, rfl⟩⟩, ⟨_, rfl, .inl ⟨rfl, rfl⟩⟩, trivial⟩ ⟨rfl, trivial⟩) ?_
                refine SOps.nil ?_
                rcases cond_out h with ⟨g38, h⟩ | ⟨g38, h⟩
                · refine SCode.cond_t rfl g38 ?_
                  refine SCode.skip ?_
                  exact ⟨decide (((Utf8.decode a0_s pos_17).1 : Int) = 95), h, sub_gen [0] rfl rfl ⟨⟨_, rfl, .inl ⟨rfl, rfl⟩⟩, ⟨_, rfl, .inl ⟨rfl, rfl⟩⟩, ⟨_, rfl, .inl ⟨rfl, rfl⟩⟩, trivial⟩ ⟨rfl, trivial⟩⟩
                · refine SCode.cond_f rfl g38 ?_
                  refine SCode.seq ?_
                  refine SCode.region (show SOps _ _ _ [0, 1] _ _ from ?_)
                  refine SOps.q rfl (.plain rfl) rfl (q_eql rfl rfl rfl) ?_
                  refine SOps.q rfl (.plain rfl) rfl (q_assign rfl rfl) ?_
                  refine SOps.sub (st' := ⟨[(4, .c (.int .i32 (((Utf8.decode a0_s pos_17).1 : Int)))), (14, .c (.ptr 0 0)), (18, .c (.int .i32 (((Utf8.decode a0_s pos_17).1 : Int)))), (19, .c (.bool (decide (((Utf8.decode a0_s pos_17).1 : Int) = 46))))], [.raw (.stringIter a0_s (pos_17 + (Utf8.decode a0_s pos_17).2))]⟩) (sub_gen [0] rfl rfl ⟨⟨_, rfl, .inl ⟨rfl, rfl⟩⟩, ⟨_, rfl, .inl ⟨rfl, rfl⟩⟩, ⟨_, rfl, .inl ⟨rfl, rfl⟩⟩, ⟨_, rfl, .inl ⟨rfl, rfl⟩⟩, trivial⟩ ⟨rfl, trivial⟩) ?_
                  refine SOps.nil ?_
                  rcases cond_out h with ⟨g39, h⟩ | ⟨g39, h⟩
                  · refine SCode.cond_t rfl g39 ?_
                    refine SCode.skip ?_
                    exact ⟨decide (((Utf8.decode a0_s pos_17).1 : Int) = 46), h, sub_gen [0] rfl rfl ⟨⟨_, rfl, .inl ⟨rfl, rfl⟩⟩, ⟨_, rfl, .inl ⟨rfl, rfl⟩⟩, ⟨_, rfl, .inl ⟨rfl, rfl⟩⟩, trivial⟩ ⟨rfl, trivial⟩⟩
                  · refine SCode.cond_f rfl g39 ?_
                    refine SCode.seq ?_
                    refine SCode.region (show SOps _ _ _ [0, 1] _ _ from ?_)
                    refine SOps.q rfl (.plain rfl) rfl (q_eql rfl rfl rfl) ?_
                    refine SOps.q rfl (.plain rfl) rfl (q_assign rfl rfl) ?_
                    refine SOps.sub (st' := ⟨[(4, .c (.int .i32 (((Utf8.decode a0_s pos_17).1 : Int)))), (14, .c (.ptr 0 0)), (18, .c (.int .i32 (((Utf8.decode a0_s pos_17).1 : Int)))), (19, .c (.bool (decide (((Utf8.decode a0_s pos_17).1 : Int) = 58))))], [.raw (.stringIter a0_s (pos_17 + (Utf8.decode a0_s pos_17).2))]⟩) (sub_gen [0] rfl rfl ⟨⟨_, rfl, .inl ⟨rfl, rfl⟩⟩, ⟨_, rfl, .inl ⟨rfl, rfl⟩⟩, ⟨_, rfl, .inl ⟨rfl, rfl⟩⟩, ⟨_, rfl, .inl ⟨rfl, rfl⟩⟩, trivial⟩ ⟨rfl, trivial⟩) ?_
                    refine SOps.nil ?_
                    rcases cond_out h with ⟨g40, h⟩ | ⟨g40, h⟩
                    · refine SCode.cond_t rfl g40 ?_
                      refine SCode.skip ?_
                      exact ⟨decide (((Utf8.decode a0_s pos_17).1 : Int) = 58), h, sub_gen [0] rfl rfl ⟨⟨_, rfl, .inl ⟨rfl, rfl⟩⟩, ⟨_, rfl, .inl ⟨rfl, rfl⟩⟩, ⟨_, rfl, .inl ⟨rfl, rfl⟩⟩, trivial⟩ ⟨rfl, trivial⟩⟩
                    · refine SCode.cond_f rfl g40 ?_
                      refine SCode.region (show SOps _ _ _ [0, 1] _ _ from ?_)
                      refine SOps.q rfl (.plain rfl) rfl (q_eql rfl rfl rfl) ?_
                      refine SOps.q rfl (.plain rfl) rfl (q_assign rfl rfl) ?_
                      refine SOps.sub (st' := ⟨[(4, .c (.int .i32 (((Utf8.decode a0_s pos_17).1 : Int)))), (14, .c (.ptr 0 0)), (19, .c (.bool (decide (((Utf8.decode a0_s pos_17).1 : Int) = 42))))], [.raw (.stringIter a0_s (pos_17 + (Utf8.decode a0_s pos_17).2))]⟩) (sub_gen [0] rfl rfl ⟨⟨_, rfl, .inl ⟨rfl, rfl⟩⟩, ⟨_, rfl, .inl ⟨rfl, rfl⟩⟩, ⟨_, rfl, .inl ⟨rfl, rfl⟩⟩, trivial⟩ ⟨rfl, trivial⟩) ?_
                      refine SOps.nil ?_
                      exact ⟨decide (((Utf8.decode a0_s pos_17).1 : Int) = 42), h, sub_gen [0] rfl rfl ⟨⟨_, rfl, .inl ⟨rfl, rfl⟩⟩, ⟨_, rfl, .inl ⟨rfl, rfl⟩⟩, ⟨_, rfl, .inl ⟨rfl, rfl⟩⟩, trivial⟩ ⟨rfl, trivial⟩⟩
          · refine SCode.region (show SOps _ _ _ [0, 1] _ _ from ?_)
            refine SOps.q rfl (.plain rfl) rfl (q_next_f rfl rfl rfl g30) ?_
            refine SOps.q rfl (.plain rfl) rfl (q_extract rfl rfl rfl) ?_
            refine SOps.sub (st' := ⟨[(14, .c (.ptr 0 0)), (15, .t [.c (.bool false)]), (16, .c (.bool false))], [.raw (.stringIter a0_s pos_17)]⟩) (sub_gen [0] rfl rfl ⟨⟨_, rfl, .inl ⟨rfl, rfl⟩⟩, ⟨rfl, rfl⟩, ⟨_, rfl, .inl ⟨rfl, rfl⟩⟩, trivial⟩ ⟨rfl, trivial⟩) ?_
            refine SOps.nil ?_
            refine SCode.seq ?_
            refine SCode.cond_f rfl rfl ?_
            refine SCode.exit ?_
            exact ⟨(), h, sub_gen [] rfl rfl trivial trivial⟩
end Go.Proofs.Ytllifhmllicnhaa.W
