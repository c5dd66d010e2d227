/- Plain laws of chapter 15, in common: lists that are walked, compared, cloned. -/
import Derived.Test.YtldekibkmombdaaRead
import Derived.IntWalk
namespace Go.Proofs.Ytldekibkmombdaa.M
open Go Go.Proofs.Ytldekibkmombdaa.E Go.Proofs.Ytldekibkmombdaa.W
set_option linter.unusedSimpArgs false

theorem wsucc (t : Nat) (h : t < 1000000) : IntKind.wrap .i64 ((t : Int) + 1) = ((t + 1 : Nat) : Int) := by
  rw [Go.IntWalk.i64_in _ (by omega)]; simp
theorem getD_nat {α : Type} (l : List α) (d : α) (t : Nat) (h : t < l.length) : l.getD ((t : Int)).toNat d = l[t] := by
  simp [List.getD_eq_getElem?_getD, h]
theorem guard_pos {α : Type} {c : Prop} [Decidable c] {x : Option α} (h : c) : E.guard c x = x := by simp [E.guard, h]

theorem awake60 : chargenetlaw15_awake 300000060 = some true := by rfl

def small (p : SProfile) : Bool := decide (p.Periods.length ≤ 30) && decide (p.Txn.size ≤ 50)

theorem few_l (l : List SProfile) (hl : l.length ≤ 20) : ∀ (n t : Nat), t ≤ l.length → l.length < n + t → chargenetlaw15_few_l14 l n (t : Int) = some ((l.drop t).all small)
  | 0, t, h1, h2 => by omega
  | n + 1, t, h1, h2 => by
    simp only [chargenetlaw15_few_l14, chargenetlaw15_few_b14]
    by_cases ht : t < l.length
    · have e1 : decide ((t : Int) < (l.length : Int)) = true := by simpa using ht
      have e2 : 0 ≤ (t : Int) ∧ (t : Int) < (l.length : Int) := by omega
      have ih := few_l l hl n (t + 1) (by omega) (by omega)
      rw [e1, cond_true, guard_pos e2, getD_nat l _ t ht, guard_pos e2, wsucc t (by omega), ih, List.drop_eq_getElem_cons ht, List.all_cons]
      by_cases hp : l[t].Periods.length ≤ 30
      · have e3 : decide ((30 : Int) < (l[t].Periods.length : Int)) = false := by simp; omega
        rw [e3, cond_false]
        by_cases hx : l[t].Txn.size ≤ 50
        · have e4 : decide ((50 : Int) < (l[t].Txn.size : Int)) = false := by simp; omega
          rw [e4, cond_false]; simp [small, hp, hx]
        · have e4 : decide ((50 : Int) < (l[t].Txn.size : Int)) = true := by simp; omega
          rw [e4, cond_true]; simp [small, hp, hx]
      · have e3 : decide ((30 : Int) < (l[t].Periods.length : Int)) = true := by simp; omega
        rw [e3, cond_true]; simp [small, hp]
    · have e1 : decide ((t : Int) < (l.length : Int)) = false := by simp; omega
      rw [e1, cond_false, List.drop_eq_nil_of_le (by omega)]
      rfl

theorem few_eq (l : List SProfile) : chargenetlaw15_few 300000060 l = some (decide (l.length ≤ 20) && l.all small) := by
  unfold chargenetlaw15_few
  by_cases h : l.length ≤ 20
  · have e1 : decide ((20 : Int) < (l.length : Int)) = false := by simp; omega
    rw [e1, cond_false]
    have := few_l l h 300000060 0 (by omega) (by omega)
    simpa [h] using this
  · have e1 : decide ((20 : Int) < (l.length : Int)) = true := by simp; omega
    rw [e1, cond_true]; simp [h]

theorem clone_eq (F : Nat) (p : SProfile) (h : p.Periods.length ≤ 30) : profile_clone F p = some p := by
  unfold profile_clone slices_Clone_api_Period_api_Period
  rw [guard_pos (by simp; omega)]
  simp

theorem clear_l (F : Nat) (l : List SProfile) (id : Int) (hl : l.length ≤ 20) (hs : l.all small = true) : ∀ (n t : Nat) (o : List SProfile), t ≤ l.length → l.length < n + t → o.length ≤ t →
    profile_Clear_l22 F l id n (t : Int) o = profile_Clear_p3 l (o ++ (l.drop t).filter fun p => !decide (p.ID = id))
  | 0, t, o, h1, h2, h3 => by omega
  | n + 1, t, o, h1, h2, h3 => by
    simp only [profile_Clear_l22, profile_Clear_b22]
    by_cases ht : t < l.length
    · have e1 : decide ((t : Int) < (l.length : Int)) = true := by simpa using ht
      have e2 : 0 ≤ (t : Int) ∧ (t : Int) < (l.length : Int) := by omega
      have hp : l[t].Periods.length ≤ 30 := by
        have := List.all_eq_true.1 hs l[t] (List.getElem_mem ht)
        simp [small] at this; exact this.1
      rw [e1, cond_true, guard_pos e2, getD_nat l _ t ht, clone_eq F _ hp, List.drop_eq_getElem_cons ht]
      simp only [Option.bind_some, profile_Clear_p25, wsucc t (by omega)]
      cases hd : decide (l[t].ID = id) with
      | true =>
        simp only [Bool.not_true, cond_false, List.filter_cons, hd]
        exact clear_l F l id hl hs n (t + 1) o (by omega) (by omega) (by omega)
      | false =>
        simp only [Bool.not_false, cond_true, List.filter_cons, hd]
        rw [guard_pos (by simp; omega)]
        have := clear_l F l id hl hs n (t + 1) (o ++ [l[t]]) (by omega) (by omega) (by simp; omega)
        rw [this]; simp
    · have e1 : decide ((t : Int) < (l.length : Int)) = false := by simp; omega
      rw [e1, cond_false, List.drop_eq_nil_of_le (by omega)]
      simp

theorem clear_ref_l (l : List SProfile) (id : Int) (hl : l.length ≤ 20) : ∀ (n t : Nat) (o : List SProfile), t ≤ l.length → l.length < n + t → o.length ≤ t →
    chargenetref15_Clear_l20 l id n (t : Int) o = chargenetref15_Clear_p3 l (o ++ (l.drop t).filter fun p => !decide (p.ID = id))
  | 0, t, o, h1, h2, h3 => by omega
  | n + 1, t, o, h1, h2, h3 => by
    simp only [chargenetref15_Clear_l20, chargenetref15_Clear_b20]
    by_cases ht : t < l.length
    · have e1 : decide ((t : Int) < (l.length : Int)) = true := by simpa using ht
      have e2 : 0 ≤ (t : Int) ∧ (t : Int) < (l.length : Int) := by omega
      rw [e1, cond_true, guard_pos e2, getD_nat l _ t ht, List.drop_eq_getElem_cons ht]
      simp only [chargenetref15_Clear_p23, wsucc t (by omega)]
      cases hd : decide (l[t].ID = id) with
      | true =>
        simp only [Bool.not_true, cond_false, List.filter_cons, hd]
        exact clear_ref_l l id hl n (t + 1) o (by omega) (by omega) (by omega)
      | false =>
        simp only [Bool.not_false, cond_true, List.filter_cons, hd]
        rw [guard_pos e2, guard_pos (by simp; omega)]
        have := clear_ref_l l id hl n (t + 1) (o ++ [l[t]]) (by omega) (by omega) (by simp; omega)
        rw [this]; simp
    · have e1 : decide ((t : Int) < (l.length : Int)) = false := by simp; omega
      rw [e1, cond_false, List.drop_eq_nil_of_le (by omega)]
      simp

theorem clear_eq (l : List SProfile) (id : Int) (hl : l.length ≤ 20) (hs : l.all small = true) : profile_Clear 300000060 l id = profile_Clear_p3 l (l.filter fun p => !decide (p.ID = id)) := by
  have := clear_l 300000060 l id hl hs 300000060 0 [] (by omega) (by omega) (by simp)
  simpa [profile_Clear] using this
theorem clear_ref_eq (l : List SProfile) (id : Int) (hl : l.length ≤ 20) : chargenetref15_Clear 300000060 l id = profile_Clear_p3 l (l.filter fun p => !decide (p.ID = id)) := by
  have := clear_ref_l l id hl 300000060 0 [] (by omega) (by omega) (by simp)
  simpa [chargenetref15_Clear, chargenetref15_Clear_p3, profile_Clear_p3] using this

theorem sEq_refl (s : ByteArray) : sEq s s = true := by simp [sEq]

theorem same_l (p : SProfile) (h : p.Periods.length ≤ 30) : ∀ (n t : Nat), t ≤ p.Periods.length → p.Periods.length < n + t → chargenetref15_Same_l20 p p n (t : Int) = some true
  | 0, t, h1, h2 => by omega
  | n + 1, t, h1, h2 => by
    simp only [chargenetref15_Same_l20, chargenetref15_Same_b20]
    by_cases ht : t < p.Periods.length
    · have e1 : decide ((t : Int) < (p.Periods.length : Int)) = true := by simpa using ht
      have e2 : 0 ≤ (t : Int) ∧ (t : Int) < (p.Periods.length : Int) := by omega
      rw [e1, cond_true, guard_pos e2, guard_pos e2, wsucc t (by omega)]
      have ih := same_l p h n (t + 1) (by omega) (by omega)
      simpa using ih
    · have e1 : decide ((t : Int) < (p.Periods.length : Int)) = false := by simp; omega
      rw [e1, cond_false]; rfl

theorem same_self (p : SProfile) (h : p.Periods.length ≤ 30) : chargenetref15_Same 300000060 p p = some true := by
  have := same_l p h 300000060 0 (by omega) (by omega)
  simp [chargenetref15_Same, chargenetref15_slot, sEq_refl]
  exact this

theorem sameAll_l (l : List SProfile) (hl : l.length ≤ 40) (hs : l.all small = true) : ∀ (n t : Nat), t ≤ l.length → l.length < n + t → chargenetref15_SameAll_l16 300000060 l l n (t : Int) = some true
  | 0, t, h1, h2 => by omega
  | n + 1, t, h1, h2 => by
    simp only [chargenetref15_SameAll_l16, chargenetref15_SameAll_b16]
    by_cases ht : t < l.length
    · have e1 : decide ((t : Int) < (l.length : Int)) = true := by simpa using ht
      have e2 : 0 ≤ (t : Int) ∧ (t : Int) < (l.length : Int) := by omega
      have hp : l[t].Periods.length ≤ 30 := by
        have := List.all_eq_true.1 hs l[t] (List.getElem_mem ht)
        simp [small] at this; exact this.1
      rw [e1, cond_true, guard_pos e2, guard_pos e2, getD_nat l _ t ht, same_self _ hp, wsucc t (by omega)]
      have ih := sameAll_l l hl hs n (t + 1) (by omega) (by omega)
      simpa using ih
    · have e1 : decide ((t : Int) < (l.length : Int)) = false := by simp; omega
      rw [e1, cond_false]; rfl

theorem sameAll_self (l : List SProfile) (hl : l.length ≤ 40) (hs : l.all small = true) : chargenetref15_SameAll 300000060 l l = some true := by
  have := sameAll_l l hl hs 300000060 0 (by omega) (by omega)
  simpa [chargenetref15_SameAll] using this
end Go.Proofs.Ytldekibkmombdaa.M
