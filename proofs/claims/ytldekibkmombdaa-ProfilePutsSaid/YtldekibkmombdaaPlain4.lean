/- The plain law of ProfilePuts: both ways of putting agree, and clearing removes what was put. -/
import Derived.Test.YtldekibkmombdaaPlain3
namespace Go.Proofs.Ytldekibkmombdaa.M
open Go Go.Proofs.Ytldekibkmombdaa.E Go.Proofs.Ytldekibkmombdaa.W
set_option linter.unusedVariables false
set_option linter.unusedSimpArgs false

def keepB (p q : SProfile) : Bool := !decide (q.ID = p.ID) && !(decide (q.Purpose = p.Purpose) && (decide (q.Level = p.Level) && (decide (q.Conn = p.Conn) && sEq q.Txn p.Txn)))
def putEnd (l : List SProfile) (p : SProfile) (o : List SProfile) : Option (List SProfile × Int) := bif decide (16 ≤ (o.length : Int)) then some (l, 3) else some (o ++ [p], 0)

theorem p9_eq (l : List SProfile) (p : SProfile) (o : List SProfile) (hp : p.Periods.length ≤ 30) (ho : o.length ≤ 20) : profile_Put_p9 60 l p o = putEnd l p o := by
  unfold profile_Put_p9 putEnd
  rw [clone_eq 60 p hp]
  simp only [Option.bind_some]
  rw [guard_pos (by simp; omega)]
theorem p7_eq (l : List SProfile) (p : SProfile) (o : List SProfile) (ho : o.length ≤ 20) : chargenetref15_Put_p7 l p o = putEnd l p o := by
  unfold chargenetref15_Put_p7 putEnd
  rw [guard_pos (by simp; omega)]

theorem slot_eq (F : Nat) (a b : SProfile) : chargenetref15_slot F a b = some (decide (a.Purpose = b.Purpose) && (decide (a.Level = b.Level) && (decide (a.Conn = b.Conn) && sEq a.Txn b.Txn))) := by
  unfold chargenetref15_slot
  cases decide (a.Purpose = b.Purpose) <;> cases decide (a.Level = b.Level) <;> cases decide (a.Conn = b.Conn) <;> rfl

theorem put_l (l : List SProfile) (p : SProfile) (hl : l.length ≤ 20) (hs : l.all small = true) (hp : p.Periods.length ≤ 30) : ∀ (n t : Nat) (o : List SProfile), t ≤ l.length → l.length < n + t → o.length ≤ t →
    profile_Put_l38 60 l p n (t : Int) o = putEnd l p (o ++ (l.drop t).filter (keepB p))
  | 0, t, o, h1, h2, h3 => by omega
  | n + 1, t, o, h1, h2, h3 => by
    simp only [profile_Put_l38, profile_Put_b38]
    by_cases ht : t < l.length
    · have e1 : decide ((t : Int) < (l.length : Int)) = true := by simpa using ht
      have e2 : 0 ≤ (t : Int) ∧ (t : Int) < (l.length : Int) := by omega
      have hq : l[t].Periods.length ≤ 30 := by
        have := List.all_eq_true.1 hs l[t] (List.getElem_mem ht)
        simp [small] at this; exact this.1
      have ih0 := put_l l p hl hs hp n (t + 1) o (by omega) (by omega) (by omega)
      have ih1 := put_l l p hl hs hp n (t + 1) (o ++ [l[t]]) (by omega) (by omega) (by simp; omega)
      have hk : profile_Put_p47 60 l (t : Int) o (fun t18_23 o1_24 => profile_Put_l38 60 l p n t18_23 o1_24) = putEnd l p (o ++ [l[t]] ++ (l.drop (t + 1)).filter (keepB p)) := by
        unfold profile_Put_p47 profile_Put_p41
        rw [getD_nat l _ t ht, clone_eq 60 _ hq]
        simp only [Option.bind_some]
        rw [guard_pos (by simp; omega), wsucc t (by omega)]
        exact ih1
      rw [e1, cond_true, guard_pos e2, hk, getD_nat l _ t ht, List.drop_eq_getElem_cons ht]
      simp only [profile_Put_p41, wsucc t (by omega), ih0, List.filter_cons, keepB]
      by_cases a1 : l[t].ID = p.ID <;> by_cases a2 : l[t].Purpose = p.Purpose <;> by_cases a3 : l[t].Level = p.Level <;> by_cases a4 : l[t].Conn = p.Conn <;> by_cases a5 : sEq l[t].Txn p.Txn = true <;> simp [a1, a2, a3, a4, a5]
    · have e1 : decide ((t : Int) < (l.length : Int)) = false := by simp; omega
      rw [e1, cond_false, List.drop_eq_nil_of_le (by omega), p9_eq l p o hp (by omega)]
      simp

theorem put_ref_l (l : List SProfile) (p : SProfile) (hl : l.length ≤ 20) : ∀ (n t : Nat) (o : List SProfile), t ≤ l.length → l.length < n + t → o.length ≤ t →
    chargenetref15_Put_l32 60 l p n (t : Int) o = putEnd l p (o ++ (l.drop t).filter (keepB p))
  | 0, t, o, h1, h2, h3 => by omega
  | n + 1, t, o, h1, h2, h3 => by
    simp only [chargenetref15_Put_l32, chargenetref15_Put_b32]
    by_cases ht : t < l.length
    · have e1 : decide ((t : Int) < (l.length : Int)) = true := by simpa using ht
      have e2 : 0 ≤ (t : Int) ∧ (t : Int) < (l.length : Int) := by omega
      have ih0 := put_ref_l l p hl n (t + 1) o (by omega) (by omega) (by omega)
      have ih1 := put_ref_l l p hl n (t + 1) (o ++ [l[t]]) (by omega) (by omega) (by simp; omega)
      rw [e1, cond_true, guard_pos e2, getD_nat l _ t ht, List.drop_eq_getElem_cons ht, guard_pos e2, slot_eq, guard_pos e2, guard_pos (by simp; omega)]
      simp only [Option.bind_some, chargenetref15_Put_p35, wsucc t (by omega), ih0, ih1, List.filter_cons, keepB]
      by_cases a1 : l[t].ID = p.ID <;> by_cases a2 : l[t].Purpose = p.Purpose <;> by_cases a3 : l[t].Level = p.Level <;> by_cases a4 : l[t].Conn = p.Conn <;> by_cases a5 : sEq l[t].Txn p.Txn = true <;> simp [a1, a2, a3, a4, a5]
    · have e1 : decide ((t : Int) < (l.length : Int)) = false := by simp; omega
      rw [e1, cond_false, List.drop_eq_nil_of_le (by omega), p7_eq l p o (by omega)]
      simp

theorem put_eq (l : List SProfile) (p : SProfile) (hl : l.length ≤ 20) (hs : l.all small = true) (hp : p.Periods.length ≤ 30) :
    ∃ v, profile_Put 60 l p = (bif !decide (v = 0) then some (l, v) else putEnd l p (l.filter (keepB p))) ∧ chargenetref15_Put 60 l p = (bif !decide (v = 0) then some (l, v) else putEnd l p (l.filter (keepB p))) := by
  obtain ⟨v, hv⟩ := valid_total p hp
  refine ⟨v, ?_, ?_⟩
  · unfold profile_Put
    have := put_l l p hl hs hp 60 0 [] (by omega) (by omega) (by simp)
    simp only [Int.natCast_zero, List.drop_zero, List.nil_append] at this
    rw [hv, Option.bind_some, this]
  · unfold chargenetref15_Put
    have := put_ref_l l p hl 60 0 [] (by omega) (by omega) (by simp)
    simp only [Int.natCast_zero, List.drop_zero, List.nil_append] at this
    rw [← valid_eq p hp, hv, Option.bind_some, this]

theorem plain_chargenetlaw15_ProfilePuts (a0 : List SProfile) (a1 : SProfile) (w0 : okVec okSProfile a0) (w1 : okSProfile a1) : ∃ F, chargenetlaw15_ProfilePuts F a0 a1 = some true := by
  refine ⟨60, ?_⟩
  unfold chargenetlaw15_ProfilePuts
  rw [few_eq, awake60, Option.bind_some]
  cases hf : (decide (a0.length ≤ 20) && a0.all small) with
  | false => rfl
  | true =>
    simp only [Bool.and_eq_true, decide_eq_true_eq] at hf
    obtain ⟨hl, hs⟩ := hf
    simp only [Bool.not_true, cond_false, Option.bind_some]
    cases h1 : decide ((50 : Int) < (a1.Txn.size : Int)) with
    | true => rfl
    | false =>
      cases h2 : decide ((30 : Int) < (a1.Periods.length : Int)) with
      | true => rfl
      | false =>
        have hx : a1.Txn.size ≤ 50 := by have := of_decide_eq_false h1; omega
        have hp : a1.Periods.length ≤ 30 := by have := of_decide_eq_false h2; omega
        have hsp : small a1 = true := by simp [small, hx, hp]
        obtain ⟨v, e1, e2⟩ := put_eq a0 a1 hl hs hp
        rw [e1, e2]
        simp only [cond_false]
        cases hv : decide (v = 0) with
        | false =>
          simp only [Bool.not_false, cond_true, Option.bind_some, sameAll_self a0 (by omega) hs, hv, Bool.not_true, cond_false, decide_true]
        | true =>
          have hkf : (a0.filter (keepB a1)).all small = true := by
            rw [List.all_eq_true]
            intro x hx
            exact List.all_eq_true.1 hs x (List.mem_filter.1 hx).1
          have hkl : (a0.filter (keepB a1)).length ≤ a0.length := List.length_filter_le _ _
          simp only [Bool.not_true, cond_false, putEnd]
          cases h16 : decide ((16 : Int) ≤ ((a0.filter (keepB a1)).length : Int)) with
          | true =>
            simp only [cond_true, Option.bind_some, sameAll_self a0 (by omega) hs, Bool.not_true, cond_false, decide_true]
            rfl
          | false =>
            have hk16 : (a0.filter (keepB a1)).length < 16 := by have := of_decide_eq_false h16; omega
            obtain ⟨kk, hkk⟩ : ∃ kk, kk = a0.filter (keepB a1) := ⟨_, rfl⟩
            have hid : ∀ x ∈ kk, ¬ x.ID = a1.ID := by
              intro x hx
              rw [hkk] at hx
              have := (List.mem_filter.1 hx).2
              simp [keepB] at this
              exact this.1
            rw [← hkk] at hkf hkl hk16 ⊢
            have hms : (kk ++ [a1]).all small = true := by simp [hkf, hsp]
            have hml : (kk ++ [a1]).length ≤ 20 := by simp; omega
            have hfil : (kk ++ [a1]).filter (fun q => !decide (q.ID = a1.ID)) = kk := by
              rw [List.filter_append]
              have : kk.filter (fun q => !decide (q.ID = a1.ID)) = kk := List.filter_eq_self.2 fun x hx => by simp [hid x hx]
              rw [this]; simp
            have hw : IntKind.wrap .i64 (((kk ++ [a1]).length : Int) - 1) = (kk.length : Int) := by
              rw [Go.IntWalk.i64_in _ (by simp; omega)]; simp
            have hsub : subL (kk ++ [a1]) 0 ((kk.length : Int)).toNat = kk := by simp [subL]
            simp only [cond_false, Option.bind_some, sameAll_self _ (show (kk ++ [a1]).length ≤ 40 by omega) hms, Bool.not_true, decide_true, hw]
            rw [clear_eq _ _ hml hms, hfil]
            have hne : decide ((kk.length : Int) = ((kk ++ [a1]).length : Int)) = false := by simp; omega
            simp only [profile_Clear_p3, hne, cond_false, Option.bind_some]
            rw [guard_pos (by simp; omega), hsub, sameAll_self kk (by omega) hkf]
            rfl
end Go.Proofs.Ytldekibkmombdaa.M
