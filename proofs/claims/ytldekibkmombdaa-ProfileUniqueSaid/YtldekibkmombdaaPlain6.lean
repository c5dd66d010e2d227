/- The plain law of ProfileUnique: a list that Put builds has no two profiles with the same number, nor in the same place. -/
import Derived.Test.YtldekibkmombdaaPlain3
namespace Go.Proofs.Ytldekibkmombdaa.M
open Go Go.Proofs.Ytldekibkmombdaa.E Go.Proofs.Ytldekibkmombdaa.W
set_option linter.unusedVariables false
set_option linter.unusedSimpArgs false

def keepB (p q : SProfile) : Bool := !decide (q.ID = p.ID) && !(decide (q.Purpose = p.Purpose) && (decide (q.Level = p.Level) && (decide (q.Conn = p.Conn) && sEq q.Txn p.Txn)))
def putEnd (l : List SProfile) (p : SProfile) (o : List SProfile) : Option (List SProfile × Int) := bif decide (16 ≤ (o.length : Int)) then some (l, 3) else some (o ++ [p], 0)

theorem p9_eq (l : List SProfile) (p : SProfile) (o : List SProfile) (hp : p.Periods.length ≤ 30) (ho : o.length ≤ 20) : profile_Put_p9 300000060 l p o = putEnd l p o := by
  unfold profile_Put_p9 putEnd
  rw [clone_eq 300000060 p hp]
  simp only [Option.bind_some]
  rw [guard_pos (by simp; omega)]
theorem p7_eq (l : List SProfile) (p : SProfile) (o : List SProfile) (ho : o.length ≤ 20) : chargenetref15_Put_p7 l p o = putEnd l p o := by
  unfold chargenetref15_Put_p7 putEnd
  rw [guard_pos (by simp; omega)]

theorem slot_eq (F : Nat) (a b : SProfile) : chargenetref15_slot F a b = some (decide (a.Purpose = b.Purpose) && (decide (a.Level = b.Level) && (decide (a.Conn = b.Conn) && sEq a.Txn b.Txn))) := by
  unfold chargenetref15_slot
  cases decide (a.Purpose = b.Purpose) <;> cases decide (a.Level = b.Level) <;> cases decide (a.Conn = b.Conn) <;> rfl

theorem put_l (l : List SProfile) (p : SProfile) (hl : l.length ≤ 20) (hs : l.all small = true) (hp : p.Periods.length ≤ 30) : ∀ (n t : Nat) (o : List SProfile), t ≤ l.length → l.length < n + t → o.length ≤ t →
    profile_Put_l38 300000060 l p n (t : Int) o = putEnd l p (o ++ (l.drop t).filter (keepB p))
  | 0, t, o, h1, h2, h3 => by omega
  | n + 1, t, o, h1, h2, h3 => by
    simp only [profile_Put_l38, profile_Put_b38]
    by_cases ht : t < l.length
    · have e1 : decide ((t : Int) < (l.length : Int)) = true := by simpa using ht
      have e2 : 0 ≤ (t : Int) ∧ (t : Int) < (l.length : Int) := by omega
      have hq : l[t].Periods.length ≤ 30 := by
        have := List.all_eq_true.1 hs l[t] (List.getElem_mem ht)
        simp [small] at this; exact this.1
      have ih0 := put_l l p hl hs hp n (t + 1) o (by omega) (by omega) (by omega)
      have ih1 := put_l l p hl hs hp n (t + 1) (o ++ [l[t]]) (by omega) (by omega) (by simp; omega)
      have hk : profile_Put_p47 300000060 l (t : Int) o (fun t18_23 o1_24 => profile_Put_l38 300000060 l p n t18_23 o1_24) = putEnd l p (o ++ [l[t]] ++ (l.drop (t + 1)).filter (keepB p)) := by
        unfold profile_Put_p47 profile_Put_p41
        rw [getD_nat l _ t ht, clone_eq 300000060 _ hq]
        simp only [Option.bind_some]
        rw [guard_pos (by simp; omega), wsucc t (by omega)]
        exact ih1
      rw [e1, cond_true, guard_pos e2, hk, getD_nat l _ t ht, List.drop_eq_getElem_cons ht]
      simp only [profile_Put_p41, wsucc t (by omega), ih0, List.filter_cons, keepB]
      by_cases a1 : l[t].ID = p.ID <;> by_cases a2 : l[t].Purpose = p.Purpose <;> by_cases a3 : l[t].Level = p.Level <;> by_cases a4 : l[t].Conn = p.Conn <;> by_cases a5 : sEq l[t].Txn p.Txn = true <;> simp [a1, a2, a3, a4, a5]
    · have e1 : decide ((t : Int) < (l.length : Int)) = false := by simp; omega
      rw [e1, cond_false, List.drop_eq_nil_of_le (by omega), p9_eq l p o hp (by omega)]
      simp

theorem put_ref_l (l : List SProfile) (p : SProfile) (hl : l.length ≤ 20) : ∀ (n t : Nat) (o : List SProfile), t ≤ l.length → l.length < n + t → o.length ≤ t →
    chargenetref15_Put_l32 300000060 l p n (t : Int) o = putEnd l p (o ++ (l.drop t).filter (keepB p))
  | 0, t, o, h1, h2, h3 => by omega
  | n + 1, t, o, h1, h2, h3 => by
    simp only [chargenetref15_Put_l32, chargenetref15_Put_b32]
    by_cases ht : t < l.length
    · have e1 : decide ((t : Int) < (l.length : Int)) = true := by simpa using ht
      have e2 : 0 ≤ (t : Int) ∧ (t : Int) < (l.length : Int) := by omega
      have ih0 := put_ref_l l p hl n (t + 1) o (by omega) (by omega) (by omega)
      have ih1 := put_ref_l l p hl n (t + 1) (o ++ [l[t]]) (by omega) (by omega) (by simp; omega)
      rw [e1, cond_true, guard_pos e2, getD_nat l _ t ht, List.drop_eq_getElem_cons ht, guard_pos e2, slot_eq, guard_pos e2, guard_pos (by simp; omega)]
      simp only [Option.bind_some, chargenetref15_Put_p35, wsucc t (by omega), ih0, ih1, List.filter_cons, keepB]
      by_cases a1 : l[t].ID = p.ID <;> by_cases a2 : l[t].Purpose = p.Purpose <;> by_cases a3 : l[t].Level = p.Level <;> by_cases a4 : l[t].Conn = p.Conn <;> by_cases a5 : sEq l[t].Txn p.Txn = true <;> simp [a1, a2, a3, a4, a5]
    · have e1 : decide ((t : Int) < (l.length : Int)) = false := by simp; omega
      rw [e1, cond_false, List.drop_eq_nil_of_le (by omega), p7_eq l p o (by omega)]
      simp

theorem put_eq (l : List SProfile) (p : SProfile) (hl : l.length ≤ 20) (hs : l.all small = true) (hp : p.Periods.length ≤ 30) :
    ∃ v, profile_Put 300000060 l p = (bif !decide (v = 0) then some (l, v) else putEnd l p (l.filter (keepB p))) ∧ chargenetref15_Put 300000060 l p = (bif !decide (v = 0) then some (l, v) else putEnd l p (l.filter (keepB p))) := by
  obtain ⟨v, hv⟩ := valid_total p hp
  refine ⟨v, ?_, ?_⟩
  · unfold profile_Put
    have := put_l l p hl hs hp 300000060 0 [] (by omega) (by omega) (by simp)
    simp only [Int.natCast_zero, List.drop_zero, List.nil_append] at this
    rw [hv, Option.bind_some, this]
  · unfold chargenetref15_Put
    have := put_ref_l l p hl 300000060 0 [] (by omega) (by omega) (by simp)
    simp only [Int.natCast_zero, List.drop_zero, List.nil_append] at this
    rw [← valid_eq p hp, hv, Option.bind_some, this]

/-- Two profiles that may stand in one list. -/
def apart (a b : SProfile) : Prop := keepB b a = true
theorem apart_symm {a b : SProfile} (h : apart a b) : apart b a := by
  unfold apart keepB at *
  have e : sEq b.Txn a.Txn = sEq a.Txn b.Txn := by
    unfold sEq
    rw [Bool.eq_iff_iff, beq_iff_eq, beq_iff_eq]
    exact ⟨Eq.symm, Eq.symm⟩
  rw [e, show decide (b.ID = a.ID) = decide (a.ID = b.ID) from decide_eq_decide.2 ⟨Eq.symm, Eq.symm⟩, show decide (b.Purpose = a.Purpose) = decide (a.Purpose = b.Purpose) from decide_eq_decide.2 ⟨Eq.symm, Eq.symm⟩,
    show decide (b.Level = a.Level) = decide (a.Level = b.Level) from decide_eq_decide.2 ⟨Eq.symm, Eq.symm⟩, show decide (b.Conn = a.Conn) = decide (a.Conn = b.Conn) from decide_eq_decide.2 ⟨Eq.symm, Eq.symm⟩]
  exact h

theorem inner_l (m : List SProfile) (hm : m.length ≤ 16) (hp : m.Pairwise apart) (i : Nat) (hi : i < m.length) (K : Int → Option Bool) : ∀ (n k : Nat), k ≤ i → i < n + k →
    chargenetlaw15_ProfileUnique_l95 m (i : Int) K n (k : Int) = K (((i + 1 : Nat)) : Int)
  | 0, k, h1, h2 => by omega
  | n + 1, k, h1, h2 => by
    simp only [chargenetlaw15_ProfileUnique_l95, chargenetlaw15_ProfileUnique_b95, chargenetlaw15_ProfileUnique_p97, chargenetlaw15_ProfileUnique_p75]
    by_cases hk : k < i
    · have e1 : decide ((k : Int) < (i : Int)) = true := by simpa using hk
      have ha : apart m[i] m[k] := apart_symm (List.pairwise_iff_getElem.1 hp k i (by omega) hi hk)
      unfold apart keepB at ha
      rw [e1, cond_true, guard_pos (by omega), guard_pos (by omega), getD_nat m _ i hi, getD_nat m _ k (by omega), wsucc k (by omega), inner_l m hm hp i hi K n (k + 1) (by omega) (by omega)]
      simp only [Bool.and_eq_true, Bool.not_eq_true', Bool.and_eq_false_iff] at ha
      obtain ⟨h3, h4⟩ := ha
      rw [h3, cond_false]
      rcases h4 with h4 | h4 | h4 | h4 <;> rw [h4] <;> simp
    · have e1 : decide ((k : Int) < (i : Int)) = false := by simp; omega
      rw [e1, cond_false, wsucc i (by omega)]

theorem pairs_l (m : List SProfile) (hm : m.length ≤ 16) (hp : m.Pairwise apart) : ∀ (n i : Nat), i ≤ m.length → m.length < n + i → chargenetlaw15_ProfileUnique_l73 300000060 m n (i : Int) = some true
  | 0, i, h1, h2 => by omega
  | n + 1, i, h1, h2 => by
    simp only [chargenetlaw15_ProfileUnique_l73, chargenetlaw15_ProfileUnique_b73]
    by_cases hi : i < m.length
    · have e1 : decide ((i : Int) < (m.length : Int)) = true := by simpa using hi
      have h := inner_l m hm hp i hi (fun i => chargenetlaw15_ProfileUnique_l73 300000060 m n i) 300000060 0 (by omega) (by omega)
      rw [Int.natCast_zero] at h
      rw [e1, cond_true, h, pairs_l m hm hp n (i + 1) (by omega) (by omega)]
    · have e1 : decide ((i : Int) < (m.length : Int)) = false := by simp; omega
      rw [e1, cond_false]
      unfold chargenetlaw15_ProfileUnique_p9
      rw [awake60]; rfl

theorem small_periods {p : SProfile} (h : small p = true) : p.Periods.length ≤ 30 := by
  simp [small] at h; exact h.1

theorem put_shape (m : List SProfile) (p : SProfile) (hm : m.length ≤ 16) (hs : m.all small = true) (hp : small p = true) (hpw : m.Pairwise apart) :
    (∃ v, v ≠ 0 ∧ profile_Put 300000060 m p = some (m, v)) ∨ (∃ kk : List SProfile, profile_Put 300000060 m p = some (kk ++ [p], 0) ∧ kk.length < 16 ∧ (kk ++ [p]).all small = true ∧ (kk ++ [p]).Pairwise apart) := by
  obtain ⟨v, h1, _⟩ := put_eq m p (by omega) hs (small_periods hp)
  by_cases hv : v = 0
  · subst hv
    simp only [decide_true, Bool.not_true, cond_false] at h1
    rw [h1]
    unfold putEnd
    by_cases h16 : (16 : Int) ≤ ((m.filter (keepB p)).length : Int)
    · rw [show decide ((16 : Int) ≤ ((m.filter (keepB p)).length : Int)) = true by simpa using h16]
      exact .inl ⟨3, by decide, rfl⟩
    · rw [show decide ((16 : Int) ≤ ((m.filter (keepB p)).length : Int)) = false by simpa using h16]
      refine .inr ⟨m.filter (keepB p), rfl, by omega, ?_, ?_⟩
      · rw [List.all_append, Bool.and_eq_true]
        refine ⟨?_, by simp [hp]⟩
        rw [List.all_eq_true]
        intro x hx
        exact List.all_eq_true.1 hs x (List.mem_filter.1 hx).1
      · rw [List.pairwise_append]
        refine ⟨hpw.filter _, by simp, fun x hx y hy => ?_⟩
        simp only [List.mem_singleton] at hy
        subst hy
        exact (List.mem_filter.1 hx).2
  · rw [show decide (v = 0) = false by simpa using hv] at h1
    exact .inl ⟨v, hv, h1⟩

theorem unique_l (l : List SProfile) (hl : l.length ≤ 20) (hls : l.all small = true) : ∀ (n i : Nat) (m : List SProfile), i ≤ l.length → l.length < n + i → m.length ≤ 16 → m.all small = true → m.Pairwise apart →
    chargenetlaw15_ProfileUnique_l158 300000060 l n m (i : Int) = some true
  | 0, i, m, h1, h2, _, _, _ => by omega
  | n + 1, i, m, h1, h2, hm, hms, hmp => by
    simp only [chargenetlaw15_ProfileUnique_l158, chargenetlaw15_ProfileUnique_b158, chargenetlaw15_ProfileUnique_p163]
    by_cases hi : i < l.length
    · have e1 : decide ((i : Int) < (l.length : Int)) = true := by simpa using hi
      have hsp : small l[i] = true := List.all_eq_true.1 hls l[i] (List.getElem_mem hi)
      rw [e1, cond_true, guard_pos (by omega), getD_nat l _ i hi]
      rcases put_shape m l[i] hm hms hsp hmp with ⟨v, hv, hput⟩ | ⟨kk, hput, hkk, hks, hkp⟩
      · rw [hput, Option.bind_some]
        simp only [show decide (v = 0) = false by simpa using hv, Bool.not_false, cond_true, cond_false]
        rw [sameAll_self m (by omega) hms, Option.bind_some, wsucc i (by omega), unique_l l hl hls n (i + 1) m (by omega) (by omega) hm hms hmp]
        rfl
      · rw [hput, Option.bind_some]
        have hlen : ((kk ++ [l[i]]).length : Int) = (kk.length : Int) + 1 := by simp
        have hw : IntKind.wrap .i64 (((kk ++ [l[i]]).length : Int) - 1) = (kk.length : Int) := by
          rw [Go.IntWalk.i64_in _ (by simp; omega)]; simp
        have hget : (kk ++ [l[i]]).getD ((kk.length : Int)).toNat dSProfile = l[i] := by simp [List.getD]
        simp only [decide_true, Bool.not_true, cond_false, cond_true, hw]
        rw [show decide (((kk ++ [l[i]]).length : Int) = 0) = false by simp; omega, show decide ((16 : Int) < ((kk ++ [l[i]]).length : Int)) = false by simp; omega, cond_false, cond_false, guard_pos (by simp; omega), guard_pos (by omega), hget,
          same_self _ (small_periods hsp), Option.bind_some, wsucc i (by omega), unique_l l hl hls n (i + 1) (kk ++ [l[i]]) (by omega) (by omega) (by simp; omega) hks hkp]
        rfl
    · have e1 : decide ((i : Int) < (l.length : Int)) = false := by simp; omega
      rw [e1, cond_false]
      have := pairs_l m hm hmp 300000060 0 (by omega) (by omega)
      rw [Int.natCast_zero] at this
      unfold chargenetlaw15_ProfileUnique_p105
      exact this

theorem plain_chargenetlaw15_ProfileUnique (a0 : List SProfile) (w0 : okVec okSProfile a0) : ∃ F, chargenetlaw15_ProfileUnique F a0 = some true := by
  refine ⟨300000060, ?_⟩
  unfold chargenetlaw15_ProfileUnique
  rw [few_eq, awake60, Option.bind_some]
  cases hf : (decide (a0.length ≤ 20) && a0.all small) with
  | false => rfl
  | true =>
    simp only [Bool.and_eq_true, decide_eq_true_eq] at hf
    have := unique_l a0 hf.1 hf.2 300000060 0 [] (by omega) (by omega) (by simp) (by simp) List.Pairwise.nil
    rw [Int.natCast_zero] at this
    simp only [Bool.not_true, cond_false]
    exact this
end Go.Proofs.Ytldekibkmombdaa.M
