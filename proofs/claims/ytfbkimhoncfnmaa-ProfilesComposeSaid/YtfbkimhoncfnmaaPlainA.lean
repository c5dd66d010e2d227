/- Plain laws of chapter 16: what is valid, and what Limit says of a valid profile. -/
import Derived.Test.YtfbkimhoncfnmaaPlainR
import Derived.IntWalk
namespace Go.Proofs.Ytfbkimhoncfnmaa.M
open Go Go.Proofs.Ytfbkimhoncfnmaa.E Go.Proofs.Ytfbkimhoncfnmaa.W
set_option linter.unusedVariables false
set_option linter.unusedSimpArgs false

theorem wsucc (t : Nat) (h : t < 1000000) : IntKind.wrap .i64 ((t : Int) + 1) = ((t + 1 : Nat) : Int) := by
  rw [Go.IntWalk.i64_in _ (by omega)]; simp
theorem getD_nat {α : Type} (l : List α) (d : α) (t : Nat) (h : t < l.length) : l.getD ((t : Int)).toNat d = l[t] := by
  simp [List.getD_eq_getElem?_getD, h]
theorem guard_pos {α : Type} {c : Prop} [Decidable c] {x : Option α} (h : c) : E.guard c x = x := by simp [E.guard, h]
def alnum (r : Int) : Bool := decide (48 ≤ r ∧ r ≤ 57) || decide (65 ≤ r ∧ r ≤ 90) || decide (97 ≤ r ∧ r ≤ 122)
theorem ref_value_fin : ∀ c : Fin 256, ∃ v ∈ (chargenetref01_Value 300000060 ((c.val : Nat) : Int)).toList, decide (v < 0) = !alnum ((c.val : Nat) : Int) := by decide +kernel
theorem ref_value (c : Int) (h0 : 0 ≤ c) (h1 : c ≤ 255) : ∃ v, chargenetref01_Value 300000060 c = some v ∧ decide (v < 0) = !alnum c := by
  obtain ⟨v, hv, hs⟩ := ref_value_fin ⟨c.toNat, by omega⟩
  have hc : ((c.toNat : Nat) : Int) = c := by omega
  simp only [hc] at hv hs
  exact ⟨v, by simpa using hv, hs⟩
theorem sGet_range (s : ByteArray) (i : Nat) : 0 ≤ sGet s i ∧ sGet s i ≤ 255 := by
  unfold sGet
  have := (s.data.toList.getD i 0).toNat_lt
  omega
theorem opt_cond {α : Type} {b : Bool} {x y : Option α} (hx : ∃ v, x = some v) (hy : ∃ v, y = some v) : ∃ v, (bif b then x else y) = some v := by
  cases b <;> assumption
theorem opt_some {α : Type} (a : α) : ∃ v, some a = some v := ⟨a, rfl⟩
theorem ident_l_total (s : ByteArray) (hs : s.size ≤ 36) : ∀ (n pos : Nat), pos ≤ s.size → s.size < n + pos → ∃ b, chargenetref01_Valid_l27 300000060 s n (pos : Int) = some b
  | 0, pos, h1, h2 => by omega
  | n + 1, pos, h1, h2 => by
    simp only [chargenetref01_Valid_l27, chargenetref01_Valid_b27]
    by_cases hp : pos < s.size
    · have e1 : decide ((pos : Int) < (s.size : Int)) = true := by simpa using hp
      have e2 : 0 ≤ (pos : Int) ∧ (pos : Int) < (s.size : Int) := by omega
      obtain ⟨r0, r1⟩ := sGet_range s pos
      obtain ⟨v, hv, hsg⟩ := ref_value (sGet s pos) r0 r1
      have hnat : ((pos : Int)).toNat = pos := by omega
      obtain ⟨b, hb⟩ := ident_l_total s hs n (pos + 1) (by omega) (by omega)
      rw [e1, cond_true, guard_pos e2, hnat, hv]
      simp only [Option.bind_some, chargenetref01_Valid_p29, wsucc pos (by omega), hb]
      exact opt_cond (opt_cond (opt_cond (opt_cond (opt_cond (opt_cond (opt_some _) (opt_some _)) (opt_some _)) (opt_some _)) (opt_some _)) (opt_some _)) (opt_some _)
    · have e1 : decide ((pos : Int) < (s.size : Int)) = false := by simp; omega
      rw [e1]; exact ⟨_, rfl⟩
theorem ident_total (s : ByteArray) : ∃ b, chargenetref01_Valid 300000060 s = some b := by
  unfold chargenetref01_Valid
  cases decide ((s.size : Int) < 1) with
  | true => exact ⟨_, rfl⟩
  | false =>
    simp only [cond_false]
    cases h : decide ((36 : Int) < (s.size : Int)) with
    | true => exact ⟨_, rfl⟩
    | false =>
      have := of_decide_eq_false h
      exact ident_l_total s (by omega) 300000060 0 (by omega) (by omega)
theorem opt_bind {α β : Type} {x : Option α} {f : α → Option β} (hx : ∃ v, x = some v) (hf : ∀ v, ∃ u, f v = some u) : ∃ u, x.bind f = some u := by
  obtain ⟨v, rfl⟩ := hx; exact hf v
theorem last_ref (k : Int) : ∃ g, chargenetref15_last 300000060 k = some g ∧ g ≤ 268435456 := by
  unfold chargenetref15_last
  by_cases h3 : k = 3
  · subst h3; exact ⟨10079, by rfl, by decide⟩
  · by_cases h2 : k = 2
    · subst h2; exact ⟨1439, by rfl, by decide⟩
    · exact ⟨268435456, by simp [h3, h2], by decide⟩
theorem l49_total (p : SProfile) (hp : p.Periods.length ≤ 30) : ∀ (n t : Nat), t ≤ p.Periods.length → p.Periods.length < n + t → ∃ v, chargenetref15_Valid_l49 300000060 p n (t : Int) = some v
  | 0, t, h1, h2 => by omega
  | n + 1, t, h1, h2 => by
    obtain ⟨g, hg, _⟩ := last_ref p.Kind
    simp only [chargenetref15_Valid_l49, chargenetref15_Valid_b49]
    by_cases ht : t < p.Periods.length
    · have e1 : decide ((t : Int) < (p.Periods.length : Int)) = true := by simpa using ht
      have e2 : 0 ≤ (t : Int) ∧ (t : Int) < (p.Periods.length : Int) := by omega
      obtain ⟨v, hv⟩ := l49_total p hp n (t + 1) (by omega) (by omega)
      rw [e1, cond_true, guard_pos e2, hg]
      have h54 : ∃ u, chargenetref15_Valid_p54 p (t : Int) (fun i_29 => chargenetref15_Valid_l49 300000060 p n i_29) = some u := by
        unfold chargenetref15_Valid_p54
        simp only [wsucc t (by omega), hv]
        exact opt_cond (opt_some _) (opt_cond (opt_some _) (opt_some _))
      by_cases h0 : (0 : Int) < (t : Int)
      · rw [decide_eq_true h0, cond_true, guard_pos (by rw [Go.IntWalk.i64_in _ (by omega)]; omega), Option.bind_some]
        exact opt_cond (opt_cond (opt_some _) (opt_cond (opt_some _) (opt_cond (opt_some _) h54))) (opt_cond (opt_some _) (opt_cond (opt_some _) h54))
      · rw [decide_eq_false h0, cond_false]
        exact opt_cond (opt_cond (opt_some _) h54) h54
    · have e1 : decide ((t : Int) < (p.Periods.length : Int)) = false := by simp; omega
      rw [e1]; exact ⟨_, rfl⟩
theorem ref_valid_total (p : SProfile) : ∃ v, chargenetref15_Valid 300000060 p = some v := by
  have h3 : ∃ b, chargenetref15_times_p3 p = some b := opt_cond (opt_some _) (opt_cond (opt_some _) (opt_some _))
  have h8 : ∃ b, chargenetref15_times_p8 p = some b := opt_cond (opt_some _) (opt_cond (opt_some _) (opt_cond (opt_cond (opt_some _) h3) h3))
  have ht : ∃ b, chargenetref15_times 300000060 p = some b := opt_cond (opt_some _) (opt_cond (opt_some _) (opt_cond (opt_cond (opt_some _) (opt_cond (opt_some _) h8)) h8))
  have h69 : ∃ v, chargenetref15_Valid_p69 300000060 p = some v := by
    unfold chargenetref15_Valid_p69
    refine opt_bind ht fun b => opt_cond (opt_some _) ?_
    by_cases h24 : (24 : Int) < (p.Periods.length : Int)
    · rw [decide_eq_true h24]; exact opt_some _
    · rw [decide_eq_false h24, cond_false]
      exact opt_cond (opt_some _) (l49_total p (by omega) 300000060 0 (by omega) (by omega))
  have h76 : ∃ v, chargenetref15_Valid_p76 300000060 p = some v := by
    unfold chargenetref15_Valid_p76
    exact opt_cond (opt_cond (opt_some _) (opt_cond (opt_cond (opt_some _) h69) h69)) (opt_cond (opt_cond (opt_some _) h69) h69)
  have hf : ∃ b, chargenetref15_first 300000060 p = some b := by
    unfold chargenetref15_first
    repeat (first | exact opt_some _ | refine opt_cond ?_ (opt_some _))
  unfold chargenetref15_Valid
  refine opt_bind hf fun b => opt_cond (opt_some _) (opt_cond (opt_bind (ident_total p.Txn) fun c => opt_cond (opt_some _) (opt_cond (opt_cond (opt_some _) h76) h76)) (opt_cond (opt_cond (opt_some _) h76) h76))
theorem wf64 {a : Int} (h : (Lit.int .i64 a).wf = true) : -9223372036854775808 ≤ a ∧ a ≤ 9223372036854775807 := by
  simp [Lit.wf, IntKind.min, IntKind.max, IntKind.signed, IntKind.bits] at h
  omega
theorem valid_l_ok (p : SProfile) (hp : p.Periods.length ≤ 30) (g : Int) (hg : chargenetref15_last 300000060 p.Kind = some g) : ∀ (n t : Nat), chargenetref15_Valid_l49 300000060 p n (t : Int) = some 0 → t ≤ p.Periods.length →
    ∀ i (hi : i < p.Periods.length), t ≤ i → (i = 0 → p.Periods[i].At = 0) ∧ (∀ (h0 : 0 < i), p.Periods[i - 1].At < p.Periods[i].At ∧ p.Periods[i].At ≤ g) ∧ 0 ≤ p.Periods[i].Limit ∧ p.Periods[i].Limit ≤ 1048576
  | 0, t, h, ht => by cases h
  | n + 1, t, h, ht => by
    intro i hi hti
    simp only [chargenetref15_Valid_l49, chargenetref15_Valid_b49] at h
    have htl : t < p.Periods.length := by omega
    have e1 : decide ((t : Int) < (p.Periods.length : Int)) = true := by simpa using htl
    have e2 : 0 ≤ (t : Int) ∧ (t : Int) < (p.Periods.length : Int) := by omega
    rw [e1, cond_true, guard_pos e2] at h
    simp only [chargenetref15_Valid_p54, wsucc t (by omega), hg, Option.bind_some, getD_nat p.Periods _ t htl] at h
    have hl : (bif decide (p.Periods[t].Limit < 0) then some (2 : Int) else bif decide (1048576 < p.Periods[t].Limit) then some 2 else chargenetref15_Valid_l49 300000060 p n ((t + 1 : Nat) : Int)) = some 0 →
        0 ≤ p.Periods[t].Limit ∧ p.Periods[t].Limit ≤ 1048576 ∧ chargenetref15_Valid_l49 300000060 p n ((t + 1 : Nat) : Int) = some 0 := by
      intro h
      by_cases a1 : p.Periods[t].Limit < 0
      · simp [a1] at h
      · by_cases a2 : 1048576 < p.Periods[t].Limit
        · simp [a1, a2] at h
        · simp only [a1, a2, decide_false, cond_false] at h
          exact ⟨by omega, by omega, h⟩
    by_cases h0 : t = 0
    · subst h0
      by_cases a0 : p.Periods[0].At = 0
      · simp only [Int.natCast_zero, decide_true, cond_true, a0, Bool.not_true, cond_false, Int.lt_irrefl, decide_false] at h
        obtain ⟨l1, l2, l3⟩ := hl h
        by_cases hi0 : i = 0
        · subst hi0; exact ⟨fun _ => a0, fun h => absurd h (by omega), l1, l2⟩
        · exact valid_l_ok p hp g hg n 1 l3 (by omega) i hi (by omega)
      · simp [a0] at h
    · have n0 : ¬ ((t : Int) = 0) := by omega
      have n1 : (0 : Int) < (t : Int) := by omega
      have hw : IntKind.wrap .i64 ((t : Int) - 1) = ((t - 1 : Nat) : Int) := by rw [Go.IntWalk.i64_in _ (by omega)]; omega
      simp only [n0, n1, decide_false, decide_true, cond_false, cond_true, hw] at h
      rw [guard_pos (by omega), getD_nat p.Periods _ (t - 1) (by omega)] at h
      by_cases b1 : p.Periods[t].At ≤ p.Periods[t - 1].At
      · simp [b1] at h
      · by_cases b2 : g < p.Periods[t].At
        · simp [b1, b2] at h
        · simp only [b1, b2, decide_false, cond_false] at h
          obtain ⟨l1, l2, l3⟩ := hl h
          by_cases hit : i = t
          · subst hit; exact ⟨fun h => absurd h h0, fun _ => ⟨by omega, by omega⟩, l1, l2⟩
          · exact valid_l_ok p hp g hg n (t + 1) l3 (by omega) i hi (by omega)
theorem cond_some {α : Type} {b : Bool} {x y : Option α} {r : α} (h : (bif b then x else y) = some r) : (b = true ∧ x = some r) ∨ (b = false ∧ y = some r) := by
  cases b
  · exact .inr ⟨rfl, h⟩
  · exact .inl ⟨rfl, h⟩
structure VOk (p : SProfile) : Prop where
  kind : 1 ≤ p.Kind ∧ p.Kind ≤ 4
  from_ : 0 ≤ p.Span_From ∧ p.Span_From ≤ 268435456
  to : p.Span_To = -1 ∨ (p.Span_From ≤ p.Span_To ∧ p.Span_To ≤ 268435456)
  start : 0 ≤ p.Start ∧ p.Start ≤ 268435456
  rel : p.Kind = 4 → p.Start = 0
  dur : p.Duration = -1 ∨ (1 ≤ p.Duration ∧ p.Duration ≤ 268435456)
  len : 0 < p.Periods.length ∧ p.Periods.length ≤ 24
  at0 : ∀ i (hi : i < p.Periods.length), 0 ≤ p.Periods[i].At ∧ p.Periods[i].At ≤ 268435456 ∧ (i = 0 → p.Periods[i].At = 0)
theorem times_ok (p : SProfile) (h : chargenetref15_times 300000060 p = some true) : (0 ≤ p.Span_From ∧ p.Span_From ≤ 268435456) ∧ (p.Span_To = -1 ∨ (p.Span_From ≤ p.Span_To ∧ p.Span_To ≤ 268435456)) ∧
    (0 ≤ p.Start ∧ p.Start ≤ 268435456) ∧ (p.Kind = 4 → p.Start = 0) ∧ (p.Duration = -1 ∨ (1 ≤ p.Duration ∧ p.Duration ≤ 268435456)) := by
  unfold chargenetref15_times chargenetref15_times_p8 chargenetref15_times_p3 at h
  by_cases a1 : p.Span_From < 0
  · simp [a1] at h
  by_cases a2 : 268435456 < p.Span_From
  · simp [a1, a2] at h
  by_cases a5 : p.Start < 0
  · by_cases a3 : p.Span_To = -1 <;> by_cases a4 : p.Span_To < p.Span_From <;> by_cases a6 : 268435456 < p.Span_To <;> simp [a1, a2, a3, a4, a5, a6] at h
  by_cases a7 : 268435456 < p.Start
  · by_cases a3 : p.Span_To = -1 <;> by_cases a4 : p.Span_To < p.Span_From <;> by_cases a6 : 268435456 < p.Span_To <;> simp [a1, a2, a3, a4, a5, a6, a7] at h
  by_cases a3 : p.Span_To = -1 <;> by_cases a4 : p.Span_To < p.Span_From <;> by_cases a6 : 268435456 < p.Span_To <;> by_cases a8 : p.Kind = 4 <;> by_cases a9 : p.Start = 0 <;> by_cases b1 : p.Duration = -1 <;> by_cases b2 : 1 ≤ p.Duration <;>
    simp [a1, a2, a3, a4, a5, a6, a7, a8, a9, b1, b2] at h <;> refine ⟨by omega, ?_, by omega, fun _ => ?_, ?_⟩ <;> omega
theorem bind_out' {α β : Type} {x : Option α} {f : α → Option β} {r : β} (h : x.bind f = some r) : ∃ v, x = some v ∧ f v = some r := by
  cases x with
  | none => cases h
  | some v => exact ⟨v, rfl, h⟩
theorem numbers_ok (p : SProfile) (h : chargenetref15_first 300000060 p = some true) : 1 ≤ p.Kind ∧ p.Kind ≤ 4 := by
  unfold chargenetref15_first at h
  by_cases a1 : 1 ≤ p.Kind
  · by_cases a2 : p.Kind ≤ 4
    · exact ⟨a1, a2⟩
    · exfalso
      simp only [a1, a2, decide_true, decide_false, cond_true, cond_false] at h
      repeat (rcases cond_some h with ⟨_, h⟩ | ⟨_, h⟩ <;> try cases h)
  · exfalso
    simp only [a1, decide_false, cond_false] at h
    repeat (rcases cond_some h with ⟨_, h⟩ | ⟨_, h⟩ <;> try cases h)
theorem p69_ok (p : SProfile) (h : chargenetref15_Valid_p69 300000060 p = some 0) : chargenetref15_times 300000060 p = some true ∧ 0 < p.Periods.length ∧ p.Periods.length ≤ 24 ∧ chargenetref15_Valid_l49 300000060 p 300000060 0 = some 0 := by
  unfold chargenetref15_Valid_p69 at h
  obtain ⟨b, hb, h⟩ := bind_out' h
  cases b with
  | false => cases h
  | true =>
    simp only [Bool.not_true, cond_false] at h
    rcases cond_some h with ⟨_, h⟩ | ⟨h1, h⟩
    · cases h
    · rcases cond_some h with ⟨_, h⟩ | ⟨h2, h⟩
      · cases h
      · have h1 := of_decide_eq_false h1
        have h2 := of_decide_eq_false h2
        exact ⟨hb, by omega, by omega, h⟩
theorem p76_ok (p : SProfile) (h : chargenetref15_Valid_p76 300000060 p = some 0) : chargenetref15_Valid_p69 300000060 p = some 0 := by
  unfold chargenetref15_Valid_p76 at h
  rcases cond_some h with ⟨_, h⟩ | ⟨_, h⟩
  · rcases cond_some h with ⟨_, h⟩ | ⟨_, h⟩
    · cases h
    · rcases cond_some h with ⟨_, h⟩ | ⟨_, h⟩
      · rcases cond_some h with ⟨_, h⟩ | ⟨_, h⟩
        · cases h
        · exact h
      · exact h
  · rcases cond_some h with ⟨_, h⟩ | ⟨_, h⟩
    · rcases cond_some h with ⟨_, h⟩ | ⟨_, h⟩
      · cases h
      · exact h
    · exact h
theorem at_chain (p : SProfile) (g : Int) (hg : g ≤ 268435456) (h : ∀ i (hi : i < p.Periods.length), 0 ≤ i → (i = 0 → p.Periods[i].At = 0) ∧ (∀ (h0 : 0 < i), p.Periods[i - 1].At < p.Periods[i].At ∧ p.Periods[i].At ≤ g) ∧ 0 ≤ p.Periods[i].Limit ∧ p.Periods[i].Limit ≤ 1048576) :
    ∀ i (hi : i < p.Periods.length), 0 ≤ p.Periods[i].At ∧ p.Periods[i].At ≤ 268435456 ∧ (i = 0 → p.Periods[i].At = 0) := by
  intro i
  induction i with
  | zero => intro hi; have := (h 0 hi (Nat.le_refl _)).1 rfl; exact ⟨by omega, by omega, fun _ => this⟩
  | succ i ih =>
    intro hi
    have h1 := ih (by omega)
    have h2 := (h (i + 1) hi (by omega)).2.1 (by omega)
    simp only [Nat.add_sub_cancel] at h2
    exact ⟨by omega, by omega, fun h => absurd h (by omega)⟩
theorem valid_ok (p : SProfile) (h : chargenetref15_Valid 300000060 p = some 0) : VOk p := by
  have h0 := h
  unfold chargenetref15_Valid at h
  obtain ⟨b, hb, h⟩ := bind_out' h
  cases b with
  | false => cases h
  | true =>
    simp only [Bool.not_true, cond_false] at h
    have h76 : chargenetref15_Valid_p76 300000060 p = some 0 := by
      rcases cond_some h with ⟨_, h⟩ | ⟨_, h⟩
      · obtain ⟨c, hc, h⟩ := bind_out' h
        rcases cond_some h with ⟨_, h⟩ | ⟨_, h⟩
        · cases h
        · rcases cond_some h with ⟨_, h⟩ | ⟨_, h⟩
          · rcases cond_some h with ⟨_, h⟩ | ⟨_, h⟩
            · cases h
            · exact h
          · exact h
      · rcases cond_some h with ⟨_, h⟩ | ⟨_, h⟩
        · rcases cond_some h with ⟨_, h⟩ | ⟨_, h⟩
          · cases h
          · exact h
        · exact h
    obtain ⟨ht, hl1, hl2, hl⟩ := p69_ok p (p76_ok p h76)
    obtain ⟨g, hg, _⟩ := last_ref p.Kind
    have hgle : g ≤ 268435456 := by
      unfold chargenetref15_last at hg
      rcases cond_some hg with ⟨_, hg⟩ | ⟨_, hg⟩
      · cases hg; decide
      · rcases cond_some hg with ⟨_, hg⟩ | ⟨_, hg⟩ <;> cases hg <;> decide
    have hall := valid_l_ok p (by omega) g hg 300000060 0 (by simpa using hl) (by omega)
    obtain ⟨t1, t2, t3, t4, t5⟩ := times_ok p ht
    exact ⟨numbers_ok p hb, t1, t2, t3, t4, t5, ⟨hl1, hl2⟩, at_chain p g hgle hall⟩
theorem cycles (k : Int) : ∃ c, profile_cycle 300000060 k = some c ∧ chargenetref15_cycle 300000060 k = some c ∧ (c = 0 ∨ c = 1440 ∨ c = 10080) ∧ (k = 4 → c = 0) := by
  unfold profile_cycle profile_cycle_p5 profile_cycle_p4 profile_cycle_p2 chargenetref15_cycle
  by_cases h3 : k = 3
  · subst h3; exact ⟨10080, by rfl, by rfl, .inr (.inr rfl), fun h => absurd h (by decide)⟩
  · by_cases h2 : k = 2
    · subst h2; exact ⟨1440, by rfl, by rfl, .inr (.inl rfl), fun h => absurd h (by decide)⟩
    · exact ⟨0, by simp [h3, h2]; rfl, by simp [h3, h2], .inl rfl, fun _ => rfl⟩
theorem origin_eq (p : SProfile) (v : VOk p) (start t : Int) (hs : -9223372036854775808 ≤ start ∧ start ≤ 9223372036854775807) (ht : -9223372036854775808 ≤ t ∧ t ≤ 9223372036854775807) :
    ∃ r, profile_origin 300000060 p start t = some r ∧ chargenetref15_origin 300000060 p start t = some r ∧ (r.2 = true → r.1 ≤ t ∧ -9223372036854775808 ≤ r.1) := by
  obtain ⟨c, hc1, hc2, hc, hk⟩ := cycles p.Kind
  unfold profile_origin chargenetref15_origin profile_first chargenetref15_origin_p9
  rw [hc1, hc2]
  simp only [Option.bind_some, profile_gap, profile_origin_p5, chargenetref15_origin_p4]
  by_cases h4 : p.Kind = 4
  · have h0 := hk h4
    subst h0
    simp only [h4, decide_true, cond_true, Option.bind_some]
    by_cases hlt : t < start
    · simp only [hlt, decide_true, cond_true]
      exact ⟨_, rfl, rfl, fun h => by cases h⟩
    · simp only [hlt, decide_false, cond_false, Int.lt_irrefl]
      exact ⟨_, rfl, rfl, fun _ => ⟨by simp; omega, hs.1⟩⟩
  · have hst := v.start
    simp only [h4, decide_false, cond_false, Option.bind_some]
    by_cases hlt : t < p.Start
    · simp only [hlt, decide_true, cond_true]
      exact ⟨_, rfl, rfl, fun h => by cases h⟩
    · simp only [hlt, decide_false, cond_false]
      have e1 : IntKind.wrap .u64 t = t := Go.IntWalk.u64_in _ (by omega)
      have e2 : IntKind.wrap .u64 p.Start = p.Start := Go.IntWalk.u64_in _ (by omega)
      have e3 : IntKind.wrap .u64 (t - p.Start) = t - p.Start := Go.IntWalk.u64_in _ (by omega)
      have e4 : IntKind.wrap .i64 (t - p.Start) = t - p.Start := Go.IntWalk.i64_in _ (by omega)
      have e5 : IntKind.wrap .u64 c = c := Go.IntWalk.u64_in _ (by omega)
      rw [e1, e2, e3, e4, e5]
      rcases hc with rfl | rfl | rfl
      · exact ⟨_, rfl, rfl, fun _ => ⟨by simp; omega, by simp; omega⟩⟩
      · have b1 : 0 ≤ (t - p.Start).tmod 1440 := Int.tmod_nonneg _ (by omega)
        have b2 : (t - p.Start).tmod 1440 < 1440 := Int.tmod_lt_of_pos _ (by omega)
        have b3 : (t - p.Start).tmod 1440 ≤ t - p.Start := by rw [Int.tmod_eq_emod_of_nonneg (by omega)]; omega
        have e6 : IntKind.wrap .i64 ((t - p.Start).tmod 1440) = (t - p.Start).tmod 1440 := Go.IntWalk.i64_in _ (by omega)
        have e7 : IntKind.wrap .i64 (t - (t - p.Start).tmod 1440) = t - (t - p.Start).tmod 1440 := Go.IntWalk.i64_in _ (by omega)
        rw [e6, e7]
        exact ⟨_, rfl, rfl, fun _ => ⟨by simp; omega, by simp; omega⟩⟩
      · have b1 : 0 ≤ (t - p.Start).tmod 10080 := Int.tmod_nonneg _ (by omega)
        have b2 : (t - p.Start).tmod 10080 < 10080 := Int.tmod_lt_of_pos _ (by omega)
        have b3 : (t - p.Start).tmod 10080 ≤ t - p.Start := by rw [Int.tmod_eq_emod_of_nonneg (by omega)]; omega
        have e6 : IntKind.wrap .i64 ((t - p.Start).tmod 10080) = (t - p.Start).tmod 10080 := Go.IntWalk.i64_in _ (by omega)
        have e7 : IntKind.wrap .i64 (t - (t - p.Start).tmod 10080) = t - (t - p.Start).tmod 10080 := Go.IntWalk.i64_in _ (by omega)
        rw [e6, e7]
        exact ⟨_, rfl, rfl, fun _ => ⟨by simp; omega, by simp; omega⟩⟩
theorem lim_l (p : SProfile) (v : VOk p) (t : Int) (c : Int × Bool) (past : Int) (hp : past = IntKind.wrap .u64 (IntKind.wrap .u64 t - IntKind.wrap .u64 c.1)) : ∀ (n i : Nat) (lim : Int),
    profile_Limit_l26 p past n lim true (i : Int) = chargenetref15_Limit_l19 p t c n lim (i : Int)
  | 0, i, lim => rfl
  | n + 1, i, lim => by
    have hlen := v.len
    simp only [profile_Limit_l26, profile_Limit_b26, chargenetref15_Limit_l19, chargenetref15_Limit_b19]
    by_cases hi : i < p.Periods.length
    · have e1 : decide ((i : Int) < (p.Periods.length : Int)) = true := by simpa using hi
      have e2 : 0 ≤ (i : Int) ∧ (i : Int) < (p.Periods.length : Int) := by omega
      have ha := (v.at0 i hi).1
      rw [e1, cond_true, cond_true, guard_pos e2, guard_pos e2, guard_pos e2, getD_nat p.Periods _ i hi]
      simp only [ha, decide_true, cond_true, profile_Limit_p30, chargenetref15_Limit_p22, wsucc i (by omega), ← hp]
      rw [lim_l p v t c past hp n (i + 1), lim_l p v t c past hp n (i + 1)]
    · have e1 : decide ((i : Int) < (p.Periods.length : Int)) = false := by simp; omega
      rw [e1]; rfl
theorem lim_0 (p : SProfile) (v : VOk p) (t : Int) (c : Int × Bool) (past : Int) (hp : past = IntKind.wrap .u64 (IntKind.wrap .u64 t - IntKind.wrap .u64 c.1)) (h0 : 0 ≤ past) :
    profile_Limit_p34 300000060 p past = chargenetref15_Limit_p26 300000060 p t c := by
  have hlen := v.len
  show profile_Limit_b26 p past (fun a b d => profile_Limit_l26 p past 300000059 a b d) 0 false 0 = chargenetref15_Limit_b19 p t c (fun a b => chargenetref15_Limit_l19 p t c 300000059 a b) 0 0
  unfold profile_Limit_b26 chargenetref15_Limit_b19
  have e1 : decide ((0 : Int) < (p.Periods.length : Int)) = true := by simp; omega
  have e2 : 0 ≤ (0 : Int) ∧ (0 : Int) < (p.Periods.length : Int) := by omega
  have ha := (v.at0 0 hlen.1).2.2 rfl
  have hg : p.Periods.getD ((0 : Int)).toNat dSPeriod = p.Periods[0] := getD_nat p.Periods _ 0 hlen.1
  rw [e1, cond_true, cond_true, guard_pos e2, guard_pos e2, guard_pos e2, hg]
  have e3 : IntKind.wrap .u64 0 = 0 := by rfl
  simp only [ha, Int.le_refl, decide_true, cond_true, profile_Limit_p30, chargenetref15_Limit_p22, ← hp, e3, h0]
  exact lim_l p v t c past hp 300000059 1 _
theorem lim_total (p : SProfile) (v : VOk p) (t : Int) (c : Int × Bool) : ∀ (n i : Nat) (lim : Int), i ≤ p.Periods.length → p.Periods.length < n + i → ∃ r, chargenetref15_Limit_l19 p t c n lim (i : Int) = some r
  | 0, i, lim, h1, h2 => by omega
  | n + 1, i, lim, h1, h2 => by
    have hlen := v.len
    simp only [chargenetref15_Limit_l19, chargenetref15_Limit_b19]
    by_cases hi : i < p.Periods.length
    · have e1 : decide ((i : Int) < (p.Periods.length : Int)) = true := by simpa using hi
      have e2 : 0 ≤ (i : Int) ∧ (i : Int) < (p.Periods.length : Int) := by omega
      rw [e1, cond_true, guard_pos e2, guard_pos e2]
      simp only [chargenetref15_Limit_p22, wsucc i (by omega)]
      exact opt_cond (lim_total p v t c n (i + 1) _ (by omega) (by omega)) (lim_total p v t c n (i + 1) _ (by omega) (by omega))
    · have e1 : decide ((i : Int) < (p.Periods.length : Int)) = false := by simp; omega
      rw [e1]; exact ⟨_, rfl⟩
theorem u64_ge (n : Int) : 0 ≤ IntKind.wrap .u64 n := by rw [IntKind.wrap_u64]; omega
theorem limit_eq (p : SProfile) (v : VOk p) (start t : Int) (hs : -9223372036854775808 ≤ start ∧ start ≤ 9223372036854775807) (ht : -9223372036854775808 ≤ t ∧ t ≤ 9223372036854775807) :
    ∃ r, profile_Limit 300000060 p start t = some r ∧ chargenetref15_Limit 300000060 p start t = some r := by
  obtain ⟨o, h1, h2, _⟩ := origin_eq p v start t hs ht
  have h37 : profile_Limit_p37 300000060 p start t = chargenetref15_Limit_p30 300000060 p start t := by
    unfold profile_Limit_p37 chargenetref15_Limit_p30
    rw [h1, h2]
    simp only [Option.bind_some, profile_gap]
    rw [lim_0 p v t o _ rfl (u64_ge _)]
  have ht30 : ∃ r, chargenetref15_Limit_p30 300000060 p start t = some r := by
    unfold chargenetref15_Limit_p30
    rw [h2]
    have h26 : ∃ r, chargenetref15_Limit_p26 300000060 p t o = some r := lim_total p v t o 300000060 0 0 (by omega) (by have := v.len; omega)
    exact opt_cond (opt_some _) (opt_cond (opt_cond (opt_some _) h26) h26)
  have : profile_Limit 300000060 p start t = chargenetref15_Limit 300000060 p start t := by
    unfold profile_Limit chargenetref15_Limit
    rw [h37]
  obtain ⟨r, hr⟩ : ∃ r, chargenetref15_Limit 300000060 p start t = some r := by
    unfold chargenetref15_Limit
    exact opt_cond (opt_some _) (opt_cond (opt_cond (opt_some _) ht30) ht30)
  exact ⟨r, this.trans hr, hr⟩
def org (p : SProfile) (start : Int) : Int := if p.Kind = 4 then start else p.Start
def cyc (k : Int) : Int := if k = 3 then 10080 else if k = 2 then 1440 else 0
def per : List SPeriod → Int → Int → Int
  | [], _, n => n
  | d :: l, past, n => per l past (if d.At ≤ past then d.Limit else n)
def past (p : SProfile) (start t : Int) : Int := if cyc p.Kind = 0 then t - org p start else (t - org p start) % cyc p.Kind
def lim (p : SProfile) (start t : Int) : Int × Bool :=
  if t < p.Span_From then (0, false) else if p.Span_To ≠ -1 ∧ p.Span_To ≤ t then (0, false)
  else if t < org p start then (0, false) else if p.Duration ≠ -1 ∧ p.Duration ≤ past p start t then (0, false)
  else (per p.Periods (past p start t) 0, true)
theorem cyc_ref (k : Int) : chargenetref15_cycle 300000060 k = some (cyc k) := by
  unfold chargenetref15_cycle cyc
  by_cases h3 : k = 3
  · subst h3; rfl
  · by_cases h2 : k = 2
    · subst h2; rfl
    · simp [h3, h2]
theorem cyc_prof (k : Int) : profile_cycle 300000060 k = some (cyc k) := by
  obtain ⟨c, h1, h2, _⟩ := cycles k
  rw [cyc_ref] at h2; rw [h1, h2]
theorem cyc_cases (k : Int) : (cyc k = 0 ∧ k ≠ 2 ∧ k ≠ 3) ∨ (cyc k = 1440 ∧ k = 2) ∨ (cyc k = 10080 ∧ k = 3) := by
  unfold cyc
  by_cases h3 : k = 3
  · simp [h3]
  · by_cases h2 : k = 2 <;> simp [h3, h2]
theorem past_bound (p : SProfile) (v : VOk p) (start t : Int) (hs : -9223372036854775808 ≤ start ∧ start ≤ 9223372036854775807) (ht : -9223372036854775808 ≤ t ∧ t ≤ 9223372036854775807) (ho : org p start ≤ t) :
    0 ≤ past p start t ∧ past p start t < 18446744073709551616 ∧ past p start t ≤ t - org p start := by
  have hst := v.start
  have hb : -9223372036854775808 ≤ org p start := by unfold org; split <;> omega
  unfold past
  rcases cyc_cases p.Kind with ⟨h, _⟩ | ⟨h, _⟩ | ⟨h, _⟩ <;> rw [h] <;> simp <;> omega
theorem origin_ref (p : SProfile) (v : VOk p) (start t : Int) (hs : -9223372036854775808 ≤ start ∧ start ≤ 9223372036854775807) (ht : -9223372036854775808 ≤ t ∧ t ≤ 9223372036854775807) :
    chargenetref15_origin 300000060 p start t = some (if t < org p start then (0, false) else (t - past p start t, true)) := by
  have hst := v.start
  unfold chargenetref15_origin chargenetref15_origin_p9
  rw [cyc_ref]
  simp only [Option.bind_some, chargenetref15_origin_p4]
  by_cases h4 : p.Kind = 4
  · have hc : cyc p.Kind = 0 := by rw [h4]; rfl
    simp only [past, org, h4, decide_true, cond_true, if_true]
    have hc4 : cyc 4 = 0 := rfl
    by_cases hlt : t < start
    · simp [hlt]
    · simp [hlt, hc4]; omega
  · simp only [past, org, h4, decide_false, cond_false, if_false]
    by_cases hlt : t < p.Start
    · simp [hlt]
    · simp only [hlt, decide_false, cond_false, if_false]
      have e4 : IntKind.wrap .i64 (t - p.Start) = t - p.Start := Go.IntWalk.i64_in _ (by omega)
      rw [e4]
      rcases cyc_cases p.Kind with ⟨h, _⟩ | ⟨h, _⟩ | ⟨h, _⟩
      · rw [h]; simp; omega
      · rw [h, Int.tmod_eq_emod_of_nonneg (by omega)]
        have e7 : IntKind.wrap .i64 (t - (t - p.Start) % 1440) = t - (t - p.Start) % 1440 := Go.IntWalk.i64_in _ (by omega)
        rw [e7]; rfl
      · rw [h, Int.tmod_eq_emod_of_nonneg (by omega)]
        have e7 : IntKind.wrap .i64 (t - (t - p.Start) % 10080) = t - (t - p.Start) % 10080 := Go.IntWalk.i64_in _ (by omega)
        rw [e7]; rfl
theorem lim_per (p : SProfile) (v : VOk p) (t : Int) (c : Int × Bool) (ps : Int) (hp : IntKind.wrap .u64 (IntKind.wrap .u64 t - IntKind.wrap .u64 c.1) = ps) : ∀ (n i : Nat) (lim : Int), i ≤ p.Periods.length → p.Periods.length < n + i →
    chargenetref15_Limit_l19 p t c n lim (i : Int) = some (per (p.Periods.drop i) ps lim, true)
  | 0, i, lim, h1, h2 => by omega
  | n + 1, i, lim, h1, h2 => by
    have hlen := v.len
    simp only [chargenetref15_Limit_l19, chargenetref15_Limit_b19]
    by_cases hi : i < p.Periods.length
    · have e1 : decide ((i : Int) < (p.Periods.length : Int)) = true := by simpa using hi
      have e2 : 0 ≤ (i : Int) ∧ (i : Int) < (p.Periods.length : Int) := by omega
      have ha := (v.at0 i hi)
      have e3 : IntKind.wrap .u64 p.Periods[i].At = p.Periods[i].At := Go.IntWalk.u64_in _ (by omega)
      rw [e1, cond_true, guard_pos e2, guard_pos e2, getD_nat p.Periods _ i hi, e3, hp, List.drop_eq_getElem_cons hi]
      simp only [chargenetref15_Limit_p22, wsucc i (by omega), per]
      by_cases hle : p.Periods[i].At ≤ ps
      · simp only [hle, decide_true, cond_true, if_true]; exact lim_per p v t c ps hp n (i + 1) _ (by omega) (by omega)
      · simp only [hle, decide_false, cond_false, if_false]; exact lim_per p v t c ps hp n (i + 1) _ (by omega) (by omega)
    · have e1 : decide ((i : Int) < (p.Periods.length : Int)) = false := by simp; omega
      rw [e1, List.drop_eq_nil_of_le (by omega)]; rfl
theorem ref_lim (p : SProfile) (v : VOk p) (start t : Int) (hs : -9223372036854775808 ≤ start ∧ start ≤ 9223372036854775807) (ht : -9223372036854775808 ≤ t ∧ t ≤ 9223372036854775807) :
    chargenetref15_Limit 300000060 p start t = some (lim p start t) := by
  have hlen := v.len
  have hdur := v.dur
  unfold chargenetref15_Limit chargenetref15_Limit_p30 lim
  rw [origin_ref p v start t hs ht]
  by_cases h1 : t < p.Span_From
  · simp [h1]
  · simp only [h1, decide_false, cond_false, if_false]
    have key : ((some (if t < org p start then ((0 : Int), false) else (t - past p start t, true))).bind fun c_1 => bif (!c_1.2) then (some ((0, false))) else (bif (!decide (p.Duration = (-1))) then (bif decide (IntKind.wrap .u64 p.Duration ≤ IntKind.wrap .u64 (IntKind.wrap .u64 t - IntKind.wrap .u64 c_1.1)) then (some ((0, false))) else (chargenetref15_Limit_p26 300000060 p t c_1)) else (chargenetref15_Limit_p26 300000060 p t c_1)))
        = some (if t < org p start then (0, false) else if p.Duration ≠ -1 ∧ p.Duration ≤ past p start t then (0, false)
  else (per p.Periods (past p start t) 0, true)) := by
      by_cases ho : t < org p start
      · simp [ho]
      · obtain ⟨b1, b2, b3⟩ := past_bound p v start t hs ht (by omega)
        simp only [ho, if_false, Option.bind_some, Bool.not_true, cond_false]
        have hps : IntKind.wrap .u64 (IntKind.wrap .u64 t - IntKind.wrap .u64 (t - past p start t)) = past p start t := by
          simp only [IntKind.wrap_u64]; omega
        have hl : chargenetref15_Limit_p26 300000060 p t (t - past p start t, true) = some (per p.Periods (past p start t) 0, true) := by
          have h := lim_per p v t (t - past p start t, true) _ hps 300000060 0 0 (by omega) (by omega)
          unfold chargenetref15_Limit_p26; simpa only [Int.natCast_zero, List.drop_zero] using h
        rw [hl, hps]
        by_cases hd : p.Duration = -1
        · simp [hd]
        · have e5 : IntKind.wrap .u64 p.Duration = p.Duration := Go.IntWalk.u64_in _ (by omega)
          rw [e5]
          by_cases hd2 : p.Duration ≤ past p start t <;> simp [hd, hd2]
    rw [key]
    by_cases h2 : p.Span_To = -1
    · simp [h2]
    · by_cases h3 : p.Span_To ≤ t <;> simp [h2, h3]
theorem prof_lim (p : SProfile) (v : VOk p) (start t : Int) (hs : -9223372036854775808 ≤ start ∧ start ≤ 9223372036854775807) (ht : -9223372036854775808 ≤ t ∧ t ≤ 9223372036854775807) :
    profile_Limit 300000060 p start t = some (lim p start t) := by
  obtain ⟨r, h1, h2⟩ := limit_eq p v start t hs ht
  rw [ref_lim p v start t hs ht] at h2; rw [h1, h2]
end Go.Proofs.Ytfbkimhoncfnmaa.M
