/- The plain law of ComposeBounds: a further profile of the station of the highest level bounds the limit. -/
import Derived.Test.YtjpooimkhkhgkaaPlainB
namespace Go.Proofs.Ytjpooimkhkhgkaa.M
open Go Go.Proofs.Ytjpooimkhkhgkaa.E Go.Proofs.Ytjpooimkhkhgkaa.W
set_option linter.unusedVariables false
set_option linter.unusedSimpArgs false

def topP (n : Int) : SProfile := SProfile.mk 2147483647 8 1 1 0 ByteArray.empty 0 ((-1)) 0 ((-1)) ([SPeriod.mk 0 n])

theorem top_at (n : Int) (i : Nat) (hi : i < (topP n).Periods.length) : 0 ≤ (topP n).Periods[i].At ∧ (topP n).Periods[i].At ≤ 268435456 ∧ (i = 0 → (topP n).Periods[i].At = 0) := by
  have : i = 0 := by
    have : i < 1 := hi
    omega
  subst this
  simp [topP]
theorem top_ok (n : Int) : VOk (topP n) :=
  { kind := by simp [topP], from_ := by simp [topP], to := .inl rfl, start := by simp [topP], rel := fun _ => rfl, dur := .inl rfl, len := by simp [topP], at0 := top_at n }

theorem top_lim (n start t : Int) (ht : 0 ≤ t) : lim (topP n) start t = (n, true) := by
  unfold lim topP past org cyc
  simp only
  rw [if_neg (by omega), if_neg (by simp), if_neg (by simp; omega), if_neg (by simp)]
  simp [per, ht]

theorem ld_level (l : List SProfile) (hv : ∀ p ∈ l, p.Level < 8) (pu start t : Int) : ∀ (b : Option SLead), (b.isSome = true → oL b < 8) → ((l.foldl (stp pu start t) b).isSome = true → oL (l.foldl (stp pu start t) b) < 8) := by
  induction l with
  | nil => exact fun b h => h
  | cons p l ih =>
    intro b h
    rw [List.foldl_cons]
    refine ih (fun q hq => hv q (List.mem_cons_of_mem _ hq)) _ ?_
    unfold stp
    cases (decide (p.Purpose = pu) && (lim p start t).2 && better b p) with
    | false => exact h
    | true => exact fun _ => hv p (List.mem_cons_self ..)

theorem bound (l : List SProfile) (hv : ∀ p ∈ l, p.Level < 8) (n start t : Int) (ht : 0 ≤ t) (conn : Int) (txn : ByteArray) : lmt (dec ((l ++ [topP n]).filter (cdB conn txn)) start t) ≤ n := by
  have hc : cdB conn txn (topP n) = true := by
    unfold cdB topP
    simp
  have hf : (l ++ [topP n]).filter (cdB conn txn) = l.filter (cdB conn txn) ++ [topP n] := by
    rw [List.filter_append, List.filter_cons, hc]; rfl
  rw [hf]
  have hx : ld (l.filter (cdB conn txn) ++ [topP n]) 1 start t = some ⟨2147483647, 8, n⟩ := by
    unfold ld
    rw [List.foldl_append, List.foldl_cons, List.foldl_nil]
    have hlev := ld_level (l.filter (cdB conn txn)) (fun p hp => hv p (List.mem_filter.1 hp).1) 1 start t none (fun h => by cases h)
    generalize (l.filter (cdB conn txn)).foldl (stp 1 start t) none = b at hlev ⊢
    unfold stp
    rw [top_lim n start t ht]
    have : better b (topP n) = true := by
      unfold better
      cases b with
      | none => rfl
      | some x =>
        have h8 : oL (some x) < 8 := hlev rfl
        have : decide (oL (some x) < (topP n).Level) = true := decide_eq_true h8
        rw [this]; simp
    rw [this]; rfl
  unfold dec lmt
  rw [hx]
  cases hs : ses (l.filter (cdB conn txn) ++ [topP n]) start t with
  | none => simp [oV]
  | some y =>
    by_cases hq : n ≤ y.limit
    · simp [oV, hq]
    · simp [oV, hq]; omega

theorem bounds_l (q : SQuery) (hg : GoodQ q) (m : Int) (hm : 0 ≤ m ∧ m < 65536) : ∀ (n i : Nat), i ≤ q.L.length → q.L.length < n + i → (∀ j (hj : j < q.L.length), j < i → q.L[j].Level < 8) → chargenetlaw16_ComposeBounds_l23 300000060 q m n (i : Int) = some true
  | 0, i, h1, h2, _ => by omega
  | n + 1, i, h1, h2, hv => by
    have hlen := hg.len
    simp only [chargenetlaw16_ComposeBounds_l23, chargenetlaw16_ComposeBounds_b23]
    by_cases hi : i < q.L.length
    · have e1 : decide ((i : Int) < (q.L.length : Int)) = true := by simpa using hi
      rw [e1, cond_true, guard_pos (by omega), getD_nat q.L _ i hi, wsucc i (by omega)]
      by_cases h8 : 8 ≤ q.L[i].Level
      · rw [decide_eq_true h8]; rfl
      · rw [decide_eq_false h8, cond_false]
        cases decide (q.L[i].ID = 2147483647) with
        | true => rfl
        | false =>
          refine bounds_l q hg m hm n (i + 1) (by omega) (by omega) (fun j hj hji => ?_)
          by_cases hjj : j = i
          · subst hjj; omega
          · exact hv j hj (by omega)
    · have e1 : decide ((i : Int) < (q.L.length : Int)) = false := by simp; omega
      rw [e1, cond_false]
      unfold chargenetlaw16_ComposeBounds_p13
      have hw : IntKind.wrap .i64 m = m := Go.IntWalk.i64_in _ (by omega)
      have hs : -9223372036854775808 ≤ q.Start ∧ q.Start ≤ 9223372036854775807 := by have := hg.start; omega
      have ht : -9223372036854775808 ≤ q.T ∧ q.T ≤ 9223372036854775807 := by have := hg.t; omega
      have hall : ∀ p ∈ q.L, p.Level < 8 := by
        intro p hp
        obtain ⟨j, hj, rfl⟩ := List.getElem_of_mem hp
        exact hv j hj (by omega)
      rw [hw, List.nil_append, guard_pos (by simp; omega), guard_pos (by simp; omega)]
      have htop : SProfile.mk 2147483647 8 1 1 0 ByteArray.empty 0 ((-1)) 0 ((-1)) ([SPeriod.mk 0 m]) = topP m := rfl
      rw [htop, at_c (q.L ++ [topP m]) (by simp; omega) (fun p hp => by
        rcases List.mem_append.1 hp with hp | hp
        · exact hg.ok p hp
        · rw [List.mem_singleton.1 hp]; exact top_ok m) q.Conn q.Txn q.Start q.T hs ht, Option.bind_some, decide_eq_true (bound q.L hall m q.Start q.T hg.t.1 q.Conn q.Txn), example_ok]
      rfl

theorem plain_chargenetlaw16_ComposeBounds (a0 : SQuery) (a1 : Int) (w0 : okSQuery a0) (w1 : (Lit.int .u16 a1).wf = true) : ∃ F, chargenetlaw16_ComposeBounds F a0 a1 = some true := by
  refine ⟨300000060, ?_⟩
  unfold chargenetlaw16_ComposeBounds
  rw [example_ok]
  rcases good_eq a0 with h | ⟨h, hg⟩
  · rw [h]; rfl
  · rw [h]
    have hm : 0 ≤ a1 ∧ a1 < 65536 := by
      simp [Lit.wf, IntKind.min, IntKind.max, IntKind.signed, IntKind.bits] at w1
      omega
    have hlen := hg.len
    have := bounds_l a0 hg a1 hm 300000060 0 (by omega) (by omega) (fun j hj h => by omega)
    rw [Int.natCast_zero] at this
    simp only [Option.bind_some, Bool.not_true, cond_false]
    exact this
end Go.Proofs.Ytjpooimkhkhgkaa.M
