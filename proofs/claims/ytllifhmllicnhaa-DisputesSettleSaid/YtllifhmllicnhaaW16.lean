/- Written by a program of ours (wip/eng/gen.py): chargenet/cdr.validItem computes its model. -/
import Derived.Test.YtllifhmllicnhaaFacts
import Derived.Test.YtllifhmllicnhaaW11
namespace Go.Proofs.Ytllifhmllicnhaa.W
open Go Go.Proofs Go.Proofs.Ytllifhmllicnhaa.E Go.Proofs.Ytllifhmllicnhaa.M
set_option linter.unusedVariables false
theorem cdr_validItem_ok (F : Nat) (a0_i : SItem) (r : Bool) (h : cdr_validItem F a0_i = some r) :
    SFun Try.prog 16 [] [.a [.int .i64 a0_i.Kind, .int .i64 a0_i.Price, .int .i64 a0_i.Tax, .int .i64 a0_i.Quantity, .int .i64 a0_i.Net, .int .i64 a0_i.Vat, .int .i64 a0_i.Gross]] (fun x _ => x = .c (.bool r)) := by
  refine SFun.of (n := 39) Try.func16 rfl rfl rfl ?_
  unfold cdr_validItem at h
  show SCode _ _ _ ⟨[(0, .a [.int .i64 a0_i.Kind, .int .i64 a0_i.Price, .int .i64 a0_i.Tax, .int .i64 a0_i.Quantity, .int .i64 a0_i.Net, .int .i64 a0_i.Vat, .int .i64 a0_i.Gross])], []⟩ _
  refine SCode.seq ?_
  refine SCode.region (show SOps _ _ _ [0, 1] _ _ from ?_)
  refine SOps.e rfl (.plain rfl) (e_box rfl rfl rfl rfl rfl rfl) ?_
  refine SOps.q rfl (.plain rfl) rfl (q_assign rfl rfl) ?_
  refine SOps.sub (st' := ⟨[(1, .c (.ptr 0 0))], [.box [.int .i64 a0_i.Kind, .int .i64 a0_i.Price, .int .i64 a0_i.Tax, .int .i64 a0_i.Quantity, .int .i64 a0_i.Net, .int .i64 a0_i.Vat, .int .i64 a0_i.Gross]]⟩) (sub_gen [0] rfl rfl ⟨⟨_, rfl, .inl ⟨rfl, rfl⟩⟩, trivial⟩ ⟨⟨_, rfl, ⟨.inl ⟨rfl, rfl⟩, .inl ⟨rfl, rfl⟩, .inl ⟨rfl, rfl⟩, .inl ⟨rfl, rfl⟩, .inl ⟨rfl, rfl⟩, .inl ⟨rfl, rfl⟩, .inl ⟨rfl, rfl⟩, trivial⟩⟩, trivial⟩) ?_
  refine SOps.nil ?_
  refine SCode.seq ?_
  obtain ⟨c_1, g2, h⟩ := bind_out h
  try dsimp only at h
  rcases cond_out h with ⟨g3, h⟩ | ⟨g3, h⟩
  · obtain ⟨c_4, g5, h⟩ := bind_out h
    try dsimp only at h
    rcases cond_out h with ⟨g6, h⟩ | ⟨g6, h⟩
    · obtain ⟨c_7, g8, h⟩ := bind_out h
      try dsimp only at h
      rcases cond_out h with ⟨g9, h⟩ | ⟨g9, h⟩
      · obtain ⟨c_10, g11, h⟩ := bind_out h
        try dsimp only at h
        rcases cond_out h with ⟨g12, h⟩ | ⟨g12, h⟩
        · refine SCode.region (show SOps _ _ _ [0, 1, 2, 3, 4, 5, 6, 7, 8, 9, 10, 11, 12, 13, 14, 15, 16, 17, 18, 19, 20, 21, 22, 23, 24, 25, 26, 27, 28, 29, 30, 31, 32, 33, 34, 35, 36] _ _ from ?_)
          refine SOps.q rfl (.plain rfl) rfl (q_field_ptr rfl rfl fd40_0) ?_
          refine SOps.q rfl (.plain rfl) rfl (q_load_ptr rfl rfl rfl rfl ty3) ?_
          refine SOps.q rfl (.plain rfl) rfl (q_bsliceL (c := (cInt .i64)) (d0 := 0) [a0_i.Kind] rfl rfl sl47 z3 rfl rfl rfl rfl rfl rfl rfl) ?_
          refine SOps.q rfl (.plain rfl) rfl (q_call (cdr_within_ok F 1 4 ([a0_i.Kind]) c_1 g2) [] rfl fn11 ⟨⟨_, rfl, .inl ⟨rfl, rfl⟩⟩, ⟨_, rfl, .inl ⟨rfl, rfl⟩⟩, ⟨_, rfl, .inl ⟨rfl, rfl⟩⟩, trivial⟩ (.inl rfl)) ?_
          refine SOps.q rfl (.plain rfl) rfl (q_move rfl rfl) ?_
          refine SOps.q rfl (.guard 4 7 true rfl rfl (gT g3)) rfl (q_field_ptr rfl rfl fd40_2) ?_
          refine SOps.q rfl (.guard 4 7 true rfl rfl (gT g3)) rfl (q_load_ptr rfl rfl rfl rfl ty3) ?_
          refine SOps.q rfl (.guard 4 7 true rfl rfl (gT g3)) rfl (q_bsliceL (c := (cInt .i64)) (d0 := 0) [a0_i.Tax] rfl rfl sl47 z3 rfl rfl rfl rfl rfl rfl rfl) ?_
          refine SOps.q rfl (.guard 4 7 true rfl rfl (gT g3)) rfl (q_call (cdr_within_ok F 0 10000 ([a0_i.Tax]) c_4 g5) [] rfl fn11 ⟨⟨_, rfl, .inl ⟨rfl, rfl⟩⟩, ⟨_, rfl, .inl ⟨rfl, rfl⟩⟩, ⟨_, rfl, .inl ⟨rfl, rfl⟩⟩, trivial⟩ (.inl rfl)) ?_
          refine SOps.q rfl (.plain rfl) rfl (q_pick_t rfl rfl g3 rfl) ?_
          refine SOps.q rfl (.plain rfl) rfl (q_move rfl rfl) ?_
          refine SOps.q rfl (.guard 10 13 true rfl rfl (gT g6)) rfl (q_field_ptr rfl rfl fd40_4) ?_
          refine SOps.q rfl (.guard 10 13 true rfl rfl (gT g6)) rfl (q_load_ptr rfl rfl rfl rfl ty3) ?_
          refine SOps.q rfl (.guard 10 13 true rfl rfl (gT g6)) rfl (q_field_ptr rfl rfl fd40_5) ?_
          refine SOps.q rfl (.guard 10 13 true rfl rfl (gT g6)) rfl (q_load_ptr rfl rfl rfl rfl ty3) ?_
          refine SOps.q rfl (.guard 10 13 true rfl rfl (gT g6)) rfl (q_field_ptr rfl rfl fd40_1) ?_
          refine SOps.q rfl (.guard 10 13 true rfl rfl (gT g6)) rfl (q_load_ptr rfl rfl rfl rfl ty3) ?_
          refine SOps.q rfl (.guard 10 13 true rfl rfl (gT g6)) rfl (q_bsliceL (c := (cInt .i64)) (d0 := 0) [a0_i.Net, a0_i.Vat, a0_i.Price] rfl rfl sl47 z3 rfl rfl rfl rfl rfl rfl rfl) ?_
          refine SOps.q rfl (.guard 10 13 true rfl rfl (gT g6)) rfl (q_call (cdr_within_ok F ((-36028797018963968)) 36028797018963968 ([a0_i.Net, a0_i.Vat, a0_i.Price]) c_7 g8) [] rfl fn11 ⟨⟨_, rfl, .inl ⟨rfl, rfl⟩⟩, ⟨_, rfl, .inl ⟨rfl, rfl⟩⟩, ⟨_, rfl, .inl ⟨rfl, rfl⟩⟩, trivial⟩ (.inl rfl)) ?_
          refine SOps.q rfl (.plain rfl) rfl (q_pick_t rfl rfl g6 rfl) ?_
          refine SOps.q rfl (.plain rfl) rfl (q_move rfl rfl) ?_
          refine SOps.q rfl (.guard 20 23 true rfl rfl (gT g9)) rfl (q_field_ptr rfl rfl fd40_3) ?_
          refine SOps.q rfl (.guard 20 23 true rfl rfl (gT g9)) rfl (q_load_ptr rfl rfl rfl rfl ty3) ?_
          refine SOps.q rfl (.guard 20 23 true rfl rfl (gT g9)) rfl (q_bsliceL (c := (cInt .i64)) (d0 := 0) [a0_i.Quantity] rfl rfl sl47 z3 rfl rfl rfl rfl rfl rfl rfl) ?_
          refine SOps.q rfl (.guard 20 23 true rfl rfl (gT g9)) rfl (q_call (cdr_within_ok F 0 36028797018963968 ([a0_i.Quantity]) c_10 g11) [] rfl fn11 ⟨⟨_, rfl, .inl ⟨rfl, rfl⟩⟩, ⟨_, rfl, .inl ⟨rfl, rfl⟩⟩, ⟨_, rfl, .inl ⟨rfl, rfl⟩⟩, trivial⟩ (.inl rfl)) ?_
          refine SOps.q rfl (.plain rfl) rfl (q_pick_t rfl rfl g9 rfl) ?_
          refine SOps.q rfl (.plain rfl) rfl (q_move rfl rfl) ?_
          refine SOps.q rfl (.guard 26 29 true rfl rfl (gT g12)) rfl (q_field_ptr rfl rfl fd40_6) ?_
          refine SOps.q rfl (.guard 26 29 true rfl rfl (gT g12)) rfl (q_load_ptr rfl rfl rfl rfl ty3) ?_
          refine SOps.q rfl (.guard 26 29 true rfl rfl (gT g12)) rfl (q_field_ptr rfl rfl fd40_4) ?_
          refine SOps.q rfl (.guard 26 29 true rfl rfl (gT g12)) rfl (q_load_ptr rfl rfl rfl rfl ty3) ?_
          refine SOps.q rfl (.guard 26 29 true rfl rfl (gT g12)) rfl (q_field_ptr rfl rfl fd40_5) ?_
          refine SOps.q rfl (.guard 26 29 true rfl rfl (gT g12)) rfl (q_load_ptr rfl rfl rfl rfl ty3) ?_
          refine SOps.q rfl (.guard 26 29 true rfl rfl (gT g12)) rfl (q_add rfl rfl rfl) ?_
          refine SOps.q rfl (.guard 26 29 true rfl rfl (gT g12)) rfl (q_eql rfl rfl rfl) ?_
          refine SOps.q rfl (.plain rfl) rfl (q_pick_t rfl rfl g12 rfl) ?_
          refine SOps.q rfl (.plain rfl) rfl (q_assign rfl rfl) ?_
          refine SOps.sub (st' := ⟨[(2, .c (.bool (decide (a0_i.Gross = IntKind.wrap .i64 (a0_i.Net + a0_i.Vat)))))], []⟩) (sub_gen [] rfl rfl ⟨⟨_, rfl, .inl ⟨rfl, rfl⟩⟩, trivial⟩ trivial) ?_
          refine SOps.nil ?_
          refine SCode.ret ?_
          obtain rfl := Option.some.inj h
          exact ⟨⟨[(2, .c (.bool (decide (a0_i.Gross = IntKind.wrap .i64 (a0_i.Net + a0_i.Vat)))))], []⟩, _, sub_gen [] rfl rfl ⟨⟨_, rfl, .inl ⟨rfl, rfl⟩⟩, trivial⟩ trivial, resA1 (v := .c (.bool (decide (a0_i.Gross = IntKind.wrap .i64 (a0_i.Net + a0_i.Vat))))) rfl rfl, rfl⟩
        · refine SCode.region (show SOps _ _ _ [0, 1, 2, 3, 4, 5, 6, 7, 8, 9, 10, 11, 12, 13, 14, 15, 16, 17, 18, 19, 20, 21, 22, 23, 24, 25, 26, 27, 28, 29, 30, 31, 32, 33, 34, 35, 36] _ _ from ?_)
          refine SOps.q rfl (.plain rfl) rfl (q_field_ptr rfl rfl fd40_0) ?_
          refine SOps.q rfl (.plain rfl) rfl (q_load_ptr rfl rfl rfl rfl ty3) ?_
          refine SOps.q rfl (.plain rfl) rfl (q_bsliceL (c := (cInt .i64)) (d0 := 0) [a0_i.Kind] rfl rfl sl47 z3 rfl rfl rfl rfl rfl rfl rfl) ?_
          refine SOps.q rfl (.plain rfl) rfl (q_call (cdr_within_ok F 1 4 ([a0_i.Kind]) c_1 g2) [] rfl fn11 ⟨⟨_, rfl, .inl ⟨rfl, rfl⟩⟩, ⟨_, rfl, .inl ⟨rfl, rfl⟩⟩, ⟨_, rfl, .inl ⟨rfl, rfl⟩⟩, trivial⟩ (.inl rfl)) ?_
          refine SOps.q rfl (.plain rfl) rfl (q_move rfl rfl) ?_
          refine SOps.q rfl (.guard 4 7 true rfl rfl (gT g3)) rfl (q_field_ptr rfl rfl fd40_2) ?_
          refine SOps.q rfl (.guard 4 7 true rfl rfl (gT g3)) rfl (q_load_ptr rfl rfl rfl rfl ty3) ?_
          refine SOps.q rfl (.guard 4 7 true rfl rfl (gT g3)) rfl (q_bsliceL (c := (cInt .i64)) (d0 := 0) [a0_i.Tax] rfl rfl sl47 z3 rfl rfl rfl rfl rfl rfl rfl) ?_
          refine SOps.q rfl (.guard 4 7 true rfl rfl (gT g3)) rfl (q_call (cdr_within_ok F 0 10000 ([a0_i.Tax]) c_4 g5) [] rfl fn11 ⟨⟨_, rfl, .inl ⟨rfl, rfl⟩⟩, ⟨_, rfl, .inl ⟨rfl, rfl⟩⟩, ⟨_, rfl, .inl ⟨rfl, rfl⟩⟩, trivial⟩ (.inl rfl)) ?_
          refine SOps.q rfl (.plain rfl) rfl (q_pick_t rfl rfl g3 rfl) ?_
          refine SOps.q rfl (.plain rfl) rfl (q_move rfl rfl) ?_
          refine SOps.q rfl (.guard 10 13 true rfl rfl (gT g6)) rfl (q_field_ptr rfl rfl fd40_4) ?_
          refine SOps.q rfl (.guard 10 13 true rfl rfl (gT g6)) rfl (q_load_ptr rfl rfl rfl rfl ty3) ?_
          refine SOps.q rfl (.guard 10 13 true rfl rfl (gT g6)) rfl (q_field_ptr rfl rfl fd40_5) ?_
          refine SOps.q rfl (.guard 10 13 true rfl rfl (gT g6)) rfl (q_load_ptr rfl rfl rfl rfl ty3) ?_
          refine SOps.q rfl (.guard 10 13 true rfl rfl (gT g6)) rfl (q_field_ptr rfl rfl fd40_1) ?_
          refine SOps.q rfl (.guard 10 13 true rfl rfl (gT g6)) rfl (q_load_ptr rfl rfl rfl rfl ty3) ?_
          refine SOps.q rfl (.guard 10 13 true rfl rfl (gT g6)) rfl (q_bsliceL (c := (cInt .i64)) (d0 := 0) [a0_i.Net, a0_i.Vat, a0_i.Price] rfl rfl sl47 z3 rfl rfl rfl rfl rfl rfl rfl) ?_
          refine SOps.q rfl (.guard 10 13 true rfl rfl (gT g6)) rfl (q_call (cdr_within_ok F ((-36028797018963968)) 36028797018963968 ([a0_i.Net, a0_i.Vat, a0_i.Price]) c_7 g8) [] rfl fn11 ⟨⟨_, rfl, .inl ⟨rfl, rfl⟩⟩, ⟨_, rfl, .inl ⟨rfl, rfl⟩⟩, ⟨_, rfl, .inl ⟨rfl, rfl⟩⟩, trivial⟩ (.inl rfl)) ?_
          refine SOps.q rfl (.plain rfl) rfl (q_pick_t rfl rfl g6 rfl) ?_
          refine SOps.q rfl (.plain rfl) rfl (q_move rfl rfl) ?_
          refine SOps.q rfl (.guard 20 23 true rfl rfl (gT g9)) rfl (q_field_ptr rfl rfl fd40_3) ?_
          refine SOps.q rfl (.guard 20 23 true rfl rfl (gT g9)) rfl (q_load_ptr rfl rfl rfl rfl ty3) ?_
          refine SOps.q rfl (.guard 20 23 true rfl rfl (gT g9)) rfl (q_bsliceL (c := (cInt .i64)) (d0 := 0) [a0_i.Quantity] rfl rfl sl47 z3 rfl rfl rfl rfl rfl rfl rfl) ?_
          refine SOps.q rfl (.guard 20 23 true rfl rfl (gT g9)) rfl (q_call (cdr_within_ok F 0 36028797018963968 ([a0_i.Quantity]) c_10 g11) [] rfl fn11 ⟨⟨_, rfl, .inl ⟨rfl, rfl⟩⟩, ⟨_, rfl, .inl ⟨rfl, rfl⟩⟩, ⟨_, rfl, .inl ⟨rfl, rfl⟩⟩, trivial⟩ (.inl rfl)) ?_
          refine SOps.q rfl (.plain rfl) rfl (q_pick_t rfl rfl g9 rfl) ?_
          refine SOps.q rfl (.plain rfl) rfl (q_move rfl rfl) ?_
          refine SOps.skip rfl 26 29 true rfl rfl (.inl (gF g12)) rfl ?_
          refine SOps.skip rfl 26 29 true rfl rfl (.inl (gF g12)) rfl ?_
          refine SOps.skip rfl 26 29 true rfl rfl (.inl (gF g12)) rfl ?_
          refine SOps.skip rfl 26 29 true rfl rfl (.inl (gF g12)) rfl ?_
          refine SOps.skip rfl 26 29 true rfl rfl (.inl (gF g12)) rfl ?_
          refine SOps.skip rfl 26 29 true rfl rfl (.inl (gF g12)) rfl ?_
          refine SOps.skip rfl 26 29 true rfl rfl (.inl (gF g12)) rfl ?_
          refine SOps.skip rfl 26 29 true rfl rfl (.inl (gF g12)) rfl ?_
          refine SOps.q rfl (.plain rfl) rfl (q_pick_f rfl rfl g12 rfl) ?_
          refine SOps.q rfl (.plain rfl) rfl (q_assign rfl rfl) ?_
          refine SOps.sub (st' := ⟨[(2, .c (.bool false))], []⟩) (sub_gen [] rfl rfl ⟨⟨_, rfl, .inl ⟨rfl, rfl⟩⟩, trivial⟩ trivial) ?_
          refine SOps.nil ?_
          refine SCode.ret ?_
          obtain rfl := Option.some.inj h
          exact ⟨⟨[(2, .c (.bool false))], []⟩, _, sub_gen [] rfl rfl ⟨⟨_, rfl, .inl ⟨rfl, rfl⟩⟩, trivial⟩ trivial, resA1 (v := .c (.bool false)) rfl rfl, rfl⟩
      · refine SCode.region (show SOps _ _ _ [0, 1, 2, 3, 4, 5, 6, 7, 8, 9, 10, 11, 12, 13, 14, 15, 16, 17, 18, 19, 20, 21, 22, 23, 24, 25, 26, 27, 28, 29, 30, 31, 32, 33, 34, 35, 36] _ _ from ?_)
        refine SOps.q rfl (.plain rfl) rfl (q_field_ptr rfl rfl fd40_0) ?_
        refine SOps.q rfl (.plain rfl) rfl (q_load_ptr rfl rfl rfl rfl ty3) ?_
        refine SOps.q rfl (.plain rfl) rfl (q_bsliceL (c := (cInt .i64)) (d0 := 0) [a0_i.Kind] rfl rfl sl47 z3 rfl rfl rfl rfl rfl rfl rfl) ?_
        refine SOps.q rfl (.plain rfl) rfl (q_call (cdr_within_ok F 1 4 ([a0_i.Kind]) c_1 g2) [] rfl fn11 ⟨⟨_, rfl, .inl ⟨rfl, rfl⟩⟩, ⟨_, rfl, .inl ⟨rfl, rfl⟩⟩, ⟨_, rfl, .inl ⟨rfl, rfl⟩⟩, trivial⟩ (.inl rfl)) ?_
        refine SOps.q rfl (.plain rfl) rfl (q_move rfl rfl) ?_
        refine SOps.q rfl (.guard 4 7 true rfl rfl (gT g3)) rfl (q_field_ptr rfl rfl fd40_2) ?_
        refine SOps.q rfl (.guard 4 7 true rfl rfl (gT g3)) rfl (q_load_ptr rfl rfl rfl rfl ty3) ?_
        refine SOps.q rfl (.guard 4 7 true rfl rfl (gT g3)) rfl (q_bsliceL (c := (cInt .i64)) (d0 := 0) [a0_i.Tax] rfl rfl sl47 z3 rfl rfl rfl rfl rfl rfl rfl) ?_
        refine SOps.q rfl (.guard 4 7 true rfl rfl (gT g3)) rfl (q_call (cdr_within_ok F 0 10000 ([a0_i.Tax]) c_4 g5) [] rfl fn11 ⟨⟨_, rfl, .inl ⟨rfl, rfl⟩⟩, ⟨_, rfl, .inl ⟨rfl, rfl⟩⟩, ⟨_, rfl, .inl ⟨rfl, rfl⟩⟩, trivial⟩ (.inl rfl)) ?_
        refine SOps.q rfl (.plain rfl) rfl (q_pick_t rfl rfl g3 rfl) ?_
        refine SOps.q rfl (.plain rfl) rfl (q_move rfl rfl) ?_
        refine SOps.q rfl (.guard 10 13 true rfl rfl (gT g6)) rfl (q_field_ptr rfl rfl fd40_4) ?_
        refine SOps.q rfl (.guard 10 13 true rfl rfl (gT g6)) rfl (q_load_ptr rfl rfl rfl rfl ty3) ?_
        refine SOps.q rfl (.guard 10 13 true rfl rfl (gT g6)) rfl (q_field_ptr rfl rfl fd40_5) ?_
        refine SOps.q rfl (.guard 10 13 true rfl rfl (gT g6)) rfl (q_load_ptr rfl rfl rfl rfl ty3) ?_
        refine SOps.q rfl (.guard 10 13 true rfl rfl (gT g6)) rfl (q_field_ptr rfl rfl fd40_1) ?_
        refine SOps.q rfl (.guard 10 13 true rfl rfl (gT g6)) rfl (q_load_ptr rfl rfl rfl rfl ty3) ?_
        refine SOps.q rfl (.guard 10 13 true rfl rfl (gT g6)) rfl (q_bsliceL (c := (cInt .i64)) (d0 := 0) [a0_i.Net, a0_i.Vat, a0_i.Price] rfl rfl sl47 z3 rfl rfl rfl rfl rfl rfl rfl) ?_
        refine SOps.q rfl (.guard 10 13 true rfl rfl (gT g6)) rfl (q_call (cdr_within_ok F ((-36028797018963968)) 36028797018963968 ([a0_i.Net, a0_i.Vat, a0_i.Price]) c_7 g8) [] rfl fn11 ⟨⟨_, rfl, .inl ⟨rfl, rfl⟩⟩, ⟨_, rfl, .inl ⟨rfl, rfl⟩⟩, ⟨_, rfl, .inl ⟨rfl, rfl⟩⟩, trivial⟩ (.inl rfl)) ?_
        refine SOps.q rfl (.plain rfl) rfl (q_pick_t rfl rfl g6 rfl) ?_
        refine SOps.q rfl (.plain rfl) rfl (q_move rfl rfl) ?_
        refine SOps.skip rfl 20 23 true rfl rfl (.inl (gF g9)) rfl ?_
        refine SOps.skip rfl 20 23 true rfl rfl (.inl (gF g9)) rfl ?_
        refine SOps.skip rfl 20 23 true rfl rfl (.inl (gF g9)) rfl ?_
        refine SOps.skip rfl 20 23 true rfl rfl (.inl (gF g9)) rfl ?_
        refine SOps.q rfl (.plain rfl) rfl (q_pick_f rfl rfl g9 rfl) ?_
        refine SOps.q rfl (.plain rfl) rfl (q_move rfl rfl) ?_
        refine SOps.skip rfl 26 29 true rfl rfl (.inl rfl) rfl ?_
        refine SOps.skip rfl 26 29 true rfl rfl (.inl rfl) rfl ?_
        refine SOps.skip rfl 26 29 true rfl rfl (.inl rfl) rfl ?_
        refine SOps.skip rfl 26 29 true rfl rfl (.inl rfl) rfl ?_
        refine SOps.skip rfl 26 29 true rfl rfl (.inl rfl) rfl ?_
        refine SOps.skip rfl 26 29 true rfl rfl (.inl rfl) rfl ?_
        refine SOps.skip rfl 26 29 true rfl rfl (.inl rfl) rfl ?_
        refine SOps.skip rfl 26 29 true rfl rfl (.inl rfl) rfl ?_
        refine SOps.q rfl (.plain rfl) rfl (q_pick_f rfl rfl rfl rfl) ?_
        refine SOps.q rfl (.plain rfl) rfl (q_assign rfl rfl) ?_
        refine SOps.sub (st' := ⟨[(2, .c (.bool false))], []⟩) (sub_gen [] rfl rfl ⟨⟨_, rfl, .inl ⟨rfl, rfl⟩⟩, trivial⟩ trivial) ?_
        refine SOps.nil ?_
        refine SCode.ret ?_
        obtain rfl := Option.some.inj h
        exact ⟨⟨[(2, .c (.bool false))], []⟩, _, sub_gen [] rfl rfl ⟨⟨_, rfl, .inl ⟨rfl, rfl⟩⟩, trivial⟩ trivial, resA1 (v := .c (.bool false)) rfl rfl, rfl⟩
    · refine SCode.region (show SOps _ _ _ [0, 1, 2, 3, 4, 5, 6, 7, 8, 9, 10, 11, 12, 13, 14, 15, 16, 17, 18, 19, 20, 21, 22, 23, 24, 25, 26, 27, 28, 29, 30, 31, 32, 33, 34, 35, 36] _ _ from ?_)
      refine SOps.q rfl (.plain rfl) rfl (q_field_ptr rfl rfl fd40_0) ?_
      refine SOps.q rfl (.plain rfl) rfl (q_load_ptr rfl rfl rfl rfl ty3) ?_
      refine SOps.q rfl (.plain rfl) rfl (q_bsliceL (c := (cInt .i64)) (d0 := 0) [a0_i.Kind] rfl rfl sl47 z3 rfl rfl rfl rfl rfl rfl rfl) ?_
      refine SOps.q rfl (.plain rfl) rfl (q_call (cdr_within_ok F 1 4 ([a0_i.Kind]) c_1 g2) [] rfl fn11 ⟨⟨_, rfl, .inl ⟨rfl, rfl⟩⟩, ⟨_, rfl, .inl ⟨rfl, rfl⟩⟩, ⟨_, rfl, .inl ⟨rfl, rfl⟩⟩, trivial⟩ (.inl rfl)) ?_
      refine SOps.q rfl (.plain rfl) rfl (q_move rfl rfl) ?_
      refine SOps.q rfl (.guard 4 7 true rfl rfl (gT g3)) rfl (q_field_ptr rfl rfl fd40_2) ?_
      refine SOps.q rfl (.guard 4 7 true rfl rfl (gT g3)) rfl (q_load_ptr rfl rfl rfl rfl ty3) ?_
      refine SOps.q rfl (.guard 4 7 true rfl rfl (gT g3)) rfl (q_bsliceL (c := (cInt .i64)) (d0 := 0) [a0_i.Tax] rfl rfl sl47 z3 rfl rfl rfl rfl rfl rfl rfl) ?_
      refine SOps.q rfl (.guard 4 7 true rfl rfl (gT g3)) rfl (q_call (cdr_within_ok F 0 10000 ([a0_i.Tax]) c_4 g5) [] rfl fn11 ⟨⟨_, rfl, .inl ⟨rfl, rfl⟩⟩, ⟨_, rfl, .inl ⟨rfl, rfl⟩⟩, ⟨_, rfl, .inl ⟨rfl, rfl⟩⟩, trivial⟩ (.inl rfl)) ?_
      refine SOps.q rfl (.plain rfl) rfl (q_pick_t rfl rfl g3 rfl) ?_
      refine SOps.q rfl (.plain rfl) rfl (q_move rfl rfl) ?_
      refine SOps.skip rfl 10 13 true rfl rfl (.inl (gF g6)) rfl ?_
      refine SOps.skip rfl 10 13 true rfl rfl (.inl (gF g6)) rfl ?_
      refine SOps.skip rfl 10 13 true rfl rfl (.inl (gF g6)) rfl ?_
      refine SOps.skip rfl 10 13 true rfl rfl (.inl (gF g6)) rfl ?_
      refine SOps.skip rfl 10 13 true rfl rfl (.inl (gF g6)) rfl ?_
      refine SOps.skip rfl 10 13 true rfl rfl (.inl (gF g6)) rfl ?_
      refine SOps.skip rfl 10 13 true rfl rfl (.inl (gF g6)) rfl ?_
      refine SOps.skip rfl 10 13 true rfl rfl (.inl (gF g6)) rfl ?_
      refine SOps.q rfl (.plain rfl) rfl (q_pick_f rfl rfl g6 rfl) ?_
      refine SOps.q rfl (.plain rfl) rfl (q_move rfl rfl) ?_
      refine SOps.skip rfl 20 23 true rfl rfl (.inl rfl) rfl ?_
      refine SOps.skip rfl 20 23 true rfl rfl (.inl rfl) rfl ?_
      refine SOps.skip rfl 20 23 true rfl rfl (.inl rfl) rfl ?_
      refine SOps.skip rfl 20 23 true rfl rfl (.inl rfl) rfl ?_
      refine SOps.q rfl (.plain rfl) rfl (q_pick_f rfl rfl rfl rfl) ?_
      refine SOps.q rfl (.plain rfl) rfl (q_move rfl rfl) ?_
      refine SOps.skip rfl 26 29 true rfl rfl (.inl rfl) rfl ?_
      refine SOps.skip rfl 26 29 true rfl rfl (.inl rfl) rfl ?_
      refine SOps.skip rfl 26 29 true rfl rfl (.inl rfl) rfl ?_
      refine SOps.skip rfl 26 29 true rfl rfl (.inl rfl) rfl ?_
      refine SOps.skip rfl 26 29 true rfl rfl (.inl rfl) rfl ?_
      refine SOps.skip rfl 26 29 true rfl rfl (.inl rfl) rfl ?_
      refine SOps.skip rfl 26 29 true rfl rfl (.inl rfl) rfl ?_
      refine SOps.skip rfl 26 29 true rfl rfl (.inl rfl) rfl ?_
      refine SOps.q rfl (.plain rfl) rfl (q_pick_f rfl rfl rfl rfl) ?_
      refine SOps.q rfl (.plain rfl) rfl (q_assign rfl rfl) ?_
      refine SOps.sub (st' := ⟨[(2, .c (.bool false))], []⟩) (sub_gen [] rfl rfl ⟨⟨_, rfl, .inl ⟨rfl, rfl⟩⟩, trivial⟩ trivial) ?_
      refine SOps.nil ?_
      refine SCode.ret ?_
      obtain rfl := Option.some.inj h
      exact ⟨⟨[(2, .c (.bool false))], []⟩, _, sub_gen [] rfl rfl ⟨⟨_, rfl, .inl ⟨rfl, rfl⟩⟩, trivial⟩ trivial, resA1 (v := .c (.bool false)) rfl rfl, rfl⟩
  · refine SCode.region (show SOps _ _ _ [0, 1, 2, 3, 4, 5, 6, 7, 8, 9, 10, 11, 12, 13, 14, 15, 16, 17, 18, 19, 20, 21, 22, 23, 24, 25, 26, 27, 28, 29, 30, 31, 32, 33, 34, 35, 36] _ _ from ?_)
    refine SOps.q rfl (.plain rfl) rfl (q_field_ptr rfl rfl fd40_0) ?_
    refine SOps.q rfl (.plain rfl) rfl (q_load_ptr rfl rfl rfl rfl ty3) ?_
    refine SOps.q rfl (.plain rfl) rfl (q_bsliceL (c := (cInt .i64)) (d0 := 0) [a0_i.Kind] rfl rfl sl47 z3 rfl rfl rfl rfl rfl rfl rfl) ?_
    refine SOps.q rfl (.plain rfl) rfl (q_call (cdr_within_ok F 1 4 ([a0_i.Kind]) c_1 g2) [] rfl fn11 ⟨⟨_, rfl, .inl ⟨rfl, rfl⟩⟩, ⟨_, rfl, .inl ⟨rfl, rfl⟩⟩, ⟨_, rfl, .inl ⟨rfl, rfl⟩⟩, trivial⟩ (.inl rfl)) ?_
    refine SOps.q rfl (.plain rfl) rfl (q_move rfl rfl) ?_
    refine SOps.skip rfl 4 7 true rfl rfl (.inl (gF g3)) rfl ?_
    refine SOps.skip rfl 4 7 true rfl rfl (.inl (gF g3)) rfl ?_
    refine SOps.skip rfl 4 7 true rfl rfl (.inl (gF g3)) rfl ?_
    refine SOps.skip rfl 4 7 true rfl rfl (.inl (gF g3)) rfl ?_
    refine SOps.q rfl (.plain rfl) rfl (q_pick_f rfl rfl g3 rfl) ?_
    refine SOps.q rfl (.plain rfl) rfl (q_move rfl rfl) ?_
    refine SOps.skip rfl 10 13 true rfl rfl (.inl rfl) rfl ?_
    refine SOps.skip rfl 10 13 true rfl rfl (.inl rfl) rfl ?_
    refine SOps.skip rfl 10 13 true rfl rfl (.inl rfl) rfl ?_
    refine SOps.skip rfl 10 13 true rfl rfl (.inl rfl) rfl ?_
    refine SOps.skip rfl 10 13 true rfl rfl (.inl rfl) rfl ?_
    refine SOps.skip rfl 10 13 true rfl rfl (.inl rfl) rfl ?_
    refine SOps.skip rfl 10 13 true rfl rfl (.inl rfl) rfl ?_
    refine SOps.skip rfl 10 13 true rfl rfl (.inl rfl) rfl ?_
    refine SOps.q rfl (.plain rfl) rfl (q_pick_f rfl rfl rfl rfl) ?_
    refine SOps.q rfl (.plain rfl) rfl (q_move rfl rfl) ?_
    refine SOps.skip rfl 20 23 true rfl rfl (.inl rfl) rfl ?_
    refine SOps.skip rfl 20 23 true rfl rfl (.inl rfl) rfl ?_
    refine SOps.skip rfl 20 23 true rfl rfl (.inl rfl) rfl ?_
    refine SOps.skip rfl 20 23 true rfl rfl (.inl rfl) rfl ?_
    refine SOps.q rfl (.plain rfl) rfl (q_pick_f rfl rfl rfl rfl) ?_
    refine SOps.q rfl (.plain rfl) rfl (q_move rfl rfl) ?_
    refine SOps.skip rfl 26 29 true rfl rfl (.inl rfl) rfl ?_
    refine SOps.skip rfl 26 29 true rfl rfl (.inl rfl) rfl ?_
    refine SOps.skip rfl 26 29 true rfl rfl (.inl rfl) rfl ?_
    refine SOps.skip rfl 26 29 true rfl rfl (.inl rfl) rfl ?_
    refine SOps.skip rfl 26 29 true rfl rfl (.inl rfl) rfl ?_
    refine SOps.skip rfl 26 29 true rfl rfl (.inl rfl) rfl ?_
    refine SOps.skip rfl 26 29 true rfl rfl (.inl rfl) rfl ?_
    refine SOps.skip rfl 26 29 true rfl rfl (.inl rfl) rfl ?_
    refine SOps.q rfl (.plain rfl) rfl (q_pick_f rfl rfl rfl rfl) ?_
    refine SOps.q rfl (.plain rfl) rfl (q_assign rfl rfl) ?_
    refine SOps.sub (st' := ⟨[(2, .c (.bool false))], []⟩) (sub_gen [] rfl rfl ⟨⟨_, rfl, .inl ⟨rfl, rfl⟩⟩, trivial⟩ trivial) ?_
    refine SOps.nil ?_
    refine SCode.ret ?_
    obtain rfl := Option.some.inj h
    exact ⟨⟨[(2, .c (.bool false))], []⟩, _, sub_gen [] rfl rfl ⟨⟨_, rfl, .inl ⟨rfl, rfl⟩⟩, trivial⟩ trivial, resA1 (v := .c (.bool false)) rfl rfl, rfl⟩
end Go.Proofs.Ytllifhmllicnhaa.W
