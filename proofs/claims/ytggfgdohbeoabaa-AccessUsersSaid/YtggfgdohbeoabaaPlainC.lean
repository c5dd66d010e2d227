/- Plain laws of chapter 39: what both functions Allowed return. -/
import Derived.Test.YtggfgdohbeoabaaPlainB
namespace Go.Proofs.Ytggfgdohbeoabaa.M
open Go Go.Proofs.Ytggfgdohbeoabaa.E Go.Proofs.Ytggfgdohbeoabaa.W
set_option linter.unusedVariables false
set_option linter.unusedSimpArgs false

def roleOf (roles : List SRole) (s : ByteArray) : Option SRole := roles.find? (fun x => sEq s x.Name)

theorem rs_distinct : ∀ (l before : List SRole), rsE before l = 0 → (∀ r ∈ l, has before r.Name = false) ∧ l.Pairwise (fun a b => sEq b.Name a.Name = false)
  | [], before, h => ⟨by simp, List.Pairwise.nil⟩
  | r :: l, before, h => by
    simp only [rsE] at h
    rcases Bool.eq_false_or_eq_true (idB r.Name) with q1 | q1
    · rcases Bool.eq_false_or_eq_true (has before r.Name) with q2 | q2
      · simp [q1, q2] at h
      · by_cases h0 : rE r = 0
        · simp only [q1, q2, h0] at h
          obtain ⟨h1, h2⟩ := rs_distinct l (before ++ [r]) (by simpa using h)
          have h3 : ∀ x ∈ l, has before x.Name = false ∧ sEq x.Name r.Name = false := by
            intro x hx
            have := h1 x hx
            rw [has_append, Bool.or_eq_false_iff] at this
            exact ⟨this.1, by simpa [has] using this.2⟩
          refine ⟨fun x hx => ?_, ?_⟩
          · rcases List.mem_cons.1 hx with rfl | hx
            · exact q2
            · exact (h3 x hx).1
          · rw [List.pairwise_cons]
            exact ⟨fun x hx => (h3 x hx).2, h2⟩
        · simp [q1, q2, h0] at h
    · simp [q1] at h

theorem find_of_mem (s : ByteArray) : ∀ (l : List SRole) (r : SRole), l.Pairwise (fun a b => sEq b.Name a.Name = false) → r ∈ l → sEq s r.Name = true → l.find? (fun x => sEq s x.Name) = some r
  | [], r, _, h, _ => by cases h
  | x :: l, r, hp, h, hs => by
    rw [List.pairwise_cons] at hp
    rcases List.mem_cons.1 h with rfl | h
    · simp [List.find?_cons, hs]
    · have hx : sEq s x.Name = false := by
        rw [sEq_false]
        intro he
        have h2 := hp.1 r h
        rw [sEq_false] at h2
        rw [sEq_iff] at hs
        exact h2 (by rw [← hs, he])
      rw [List.find?_cons, hx]
      exact find_of_mem s l r hp.2 h hs

theorem look_role (roles : List SRole) (known : List (ByteArray × SRole)) (hk : Known roles known) (hd : roles.Pairwise (fun a b => sEq b.Name a.Name = false)) (s : ByteArray) : alook known s = roleOf roles s := by
  obtain ⟨h1, h2⟩ := hk s
  cases ha : alook known s with
  | none =>
    rw [ha] at h1
    have : has roles s = false := h1.symm
    unfold has at this
    rw [List.any_eq_false] at this
    unfold roleOf
    symm
    rw [List.find?_eq_none]
    exact this
  | some r =>
    obtain ⟨h3, h4⟩ := h2 r ha
    exact (find_of_mem s roles r hd h3 h4).symm

/-! ### Covering -/
def covS (r : SRole) (a : Int) (o : ByteArray) : Bool := r.Actions.any (fun x => decide (x = a)) && (decide (r.Prefix.size ≤ o.size) && sEq (sSub o 0 r.Prefix.size) r.Prefix)

theorem index_l (l : List Int) (hl : l.length ≤ 900) (v : Int) : ∀ (n i : Nat), i ≤ l.length → l.length < n + i → ∃ r, slices_Index_int_int_l9 l v n (i : Int) = some r ∧ decide (0 ≤ r) = (l.drop i).any (fun x => decide (x = v))
  | 0, i, h1, h2 => by omega
  | n + 1, i, h1, h2 => by
    simp only [slices_Index_int_int_l9, slices_Index_int_int_b9]
    by_cases hi : i < l.length
    · have e1 : decide ((i : Int) < (l.length : Int)) = true := by simpa using hi
      rw [e1, cond_true, guard_pos (by omega), getD_nat l _ i hi, List.drop_eq_getElem_cons hi, List.any_cons]
      by_cases hv : v = l[i]
      · rw [show decide (v = l[i]) = true by simpa using hv]
        exact ⟨(i : Int), rfl, by rw [show decide (l[i] = v) = true from decide_eq_true hv.symm, Bool.true_or]; exact decide_eq_true (by omega)⟩
      · rw [show decide (v = l[i]) = false by simpa using hv, cond_false, wsucc i (by omega)]
        obtain ⟨r, hr, h⟩ := index_l l hl v n (i + 1) (by omega) (by omega)
        refine ⟨r, hr, ?_⟩
        rw [h]
        have : ¬ l[i] = v := fun h => hv h.symm
        rw [show decide (l[i] = v) = false from decide_eq_false this, Bool.false_or]
    · have e1 : decide ((i : Int) < (l.length : Int)) = false := by simp; omega
      rw [e1, cond_false, List.drop_eq_nil_of_le (by omega)]
      exact ⟨-1, rfl, rfl⟩

theorem covers_eq (r : SRole) (hr : r.Actions.length ≤ 110) (a : Int) (o : ByteArray) : access_covers 1000 r a o = some (covS r a o) := by
  unfold access_covers slices_Contains_int_int slices_Index_int_int strings_HasPrefix internal_stringslite_HasPrefix covS
  obtain ⟨q, h1, h2⟩ := index_l r.Actions (by omega) a 1000 0 (by omega) (by omega)
  simp only [Int.natCast_zero, List.drop_zero] at h1 h2
  rw [h1]
  simp only [Option.bind_some]
  rw [h2]
  by_cases hp : r.Prefix.size ≤ o.size
  · have : decide ((r.Prefix.size : Int) ≤ (o.size : Int)) = true := by simp; omega
    rw [this, guard_pos (by omega)]
    simp only [Int.toNat_natCast, hp, decide_true, Bool.true_and]
    cases r.Actions.any (fun x => decide (x = a)) <;> rfl
  · have : decide ((r.Prefix.size : Int) ≤ (o.size : Int)) = false := by simp; omega
    rw [this]
    simp only [hp, decide_false, Bool.false_and, Bool.and_false]
    cases r.Actions.any (fun x => decide (x = a)) <;> rfl

theorem ref_covers_l (r : SRole) (hr : r.Actions.length ≤ 110) (a : Int) : ∀ (n i : Nat), i ≤ r.Actions.length → r.Actions.length < n + i → chargenetref39_covers_l12 r a n (i : Int) = some ((r.Actions.drop i).any (fun x => decide (x = a)))
  | 0, i, h1, h2 => by omega
  | n + 1, i, h1, h2 => by
    simp only [chargenetref39_covers_l12, chargenetref39_covers_b12]
    by_cases hi : i < r.Actions.length
    · have e1 : decide ((i : Int) < (r.Actions.length : Int)) = true := by simpa using hi
      rw [e1, cond_true, guard_pos (by omega), getD_nat r.Actions _ i hi, List.drop_eq_getElem_cons hi, wsucc i (by omega), ref_covers_l r hr a n (i + 1) (by omega) (by omega), List.any_cons]
      by_cases hv : r.Actions[i] = a <;> simp [hv]
    · have e1 : decide ((i : Int) < (r.Actions.length : Int)) = false := by simp; omega
      rw [e1, cond_false, List.drop_eq_nil_of_le (by omega)]; rfl

theorem ref_covers_eq (r : SRole) (hr : r.Actions.length ≤ 110) (a : Int) (o : ByteArray) : chargenetref39_covers 1000 r a o = some (covS r a o) := by
  unfold chargenetref39_covers covS
  have h1 := ref_covers_l r hr a 1000 0 (by omega) (by omega)
  simp only [Int.natCast_zero, List.drop_zero] at h1
  rw [h1]
  by_cases hp : r.Prefix.size ≤ o.size
  · have : decide ((o.size : Int) < (r.Prefix.size : Int)) = false := by simp; omega
    rw [this, cond_false, guard_pos (by omega)]
    simp only [Int.toNat_natCast, hp, decide_true, Bool.true_and]
    cases sEq (sSub o 0 r.Prefix.size) r.Prefix <;> simp
  · have : decide ((o.size : Int) < (r.Prefix.size : Int)) = true := by simp; omega
    rw [this]
    simp only [hp, decide_false, Bool.false_and, Bool.and_false]; rfl

/-! ### Allowed -/
def app (u : ByteArray) (t : Int) (g : SGrant) : Bool := sEq g.User u && holdsS g t
def den (roles : List SRole) (u : ByteArray) (a : Int) (o : ByteArray) (t : Int) (g : SGrant) : Bool := app u t g && ((roleOf roles g.Role).any fun r => covS r a o && r.Deny)
def alw (roles : List SRole) (u : ByteArray) (a : Int) (o : ByteArray) (t : Int) (g : SGrant) : Bool := app u t g && ((roleOf roles g.Role).any fun r => covS r a o && !r.Deny)
def alS (roles : List SRole) (l : List SGrant) (u : ByteArray) (a : Int) (o : ByteArray) (t : Int) (given : Bool) : Bool := !(l.any (den roles u a o t)) && (given || l.any (alw roles u a o t))

theorem role_of_has (roles : List SRole) (s : ByteArray) (h : has roles s = true) : ∃ r, roleOf roles s = some r ∧ r ∈ roles := by
  unfold has at h
  rw [List.any_eq_true] at h
  obtain ⟨x, hx, hs⟩ := h
  cases hf : roleOf roles s with
  | none =>
    unfold roleOf at hf
    rw [List.find?_eq_none] at hf
    exact absurd hs (hf x hx)
  | some r => exact ⟨r, rfl, List.mem_of_find?_eq_some hf⟩

theorem alS_cons (roles : List SRole) (g : SGrant) (l : List SGrant) (u : ByteArray) (a : Int) (o : ByteArray) (t : Int) (given : Bool) (r : SRole) (hr : roleOf roles g.Role = some r) :
    alS roles (g :: l) u a o t given = if app u t g = false then alS roles l u a o t given else if covS r a o = false then alS roles l u a o t given else if r.Deny then false else alS roles l u a o t true := by
  unfold alS
  rw [List.any_cons, List.any_cons]
  unfold den alw
  rw [hr]
  rcases Bool.eq_false_or_eq_true (app u t g) with q1 | q1 <;> rcases Bool.eq_false_or_eq_true (covS r a o) with q2 | q2 <;> rcases Bool.eq_false_or_eq_true r.Deny with q3 | q3 <;> simp [q1, q2, q3]

theorem allowed_l (roles : List SRole) (known : List (ByteArray × SRole)) (hk : ∀ s, alook known s = roleOf roles s) (hra : ∀ r ∈ roles, r.Actions.length ≤ 110) (grants : List SGrant) (hl : grants.length ≤ 900) (hh : ∀ g ∈ grants, has roles g.Role = true)
    (u : ByteArray) (a : Int) (o : ByteArray) (t : Int) : ∀ (n i : Nat) (given : Bool), i ≤ grants.length → grants.length < n + i → access_allowed_l33 1000 known grants u a o t n given (i : Int) = some (alS roles (grants.drop i) u a o t given)
  | 0, i, given, h1, h2 => by omega
  | n + 1, i, given, h1, h2 => by
    simp only [access_allowed_l33, access_allowed_b33, access_allowed_p36]
    by_cases hi : i < grants.length
    · have e1 : decide ((i : Int) < (grants.length : Int)) = true := by simpa using hi
      obtain ⟨r, hr, hrm⟩ := role_of_has roles grants[i].Role (hh _ (List.getElem_mem hi))
      have ih := fun b => allowed_l roles known hk hra grants hl hh u a o t n (i + 1) b (by omega) (by omega)
      rw [e1, cond_true, guard_pos (by omega), getD_nat grants _ i hi, wsucc i (by omega), holds_eq, hk, hr, List.drop_eq_getElem_cons hi, alS_cons roles _ _ u a o t given r hr]
      simp only [Option.bind_some, ih, covers_eq r (hra r hrm)]
      have hap : app u t grants[i] = (sEq grants[i].User u && decide (grants[i].Span_From ≤ t ∧ (grants[i].Span_To = -1 ∨ t < grants[i].Span_To))) := rfl
      rw [hap]
      rcases Bool.eq_false_or_eq_true (sEq grants[i].User u) with q1 | q1 <;> rcases Bool.eq_false_or_eq_true (decide (grants[i].Span_From ≤ t ∧ (grants[i].Span_To = -1 ∨ t < grants[i].Span_To))) with q2 | q2 <;>
        rcases Bool.eq_false_or_eq_true (covS r a o) with q3 | q3 <;> rcases Bool.eq_false_or_eq_true r.Deny with q4 | q4 <;> simp only [q1, q2, q3, q4] <;> simp
    · have e1 : decide ((i : Int) < (grants.length : Int)) = false := by simp; omega
      rw [e1, cond_false, List.drop_eq_nil_of_le (by omega)]
      unfold access_allowed_p2 alS
      simp

theorem ref_allowed_l (roles : List SRole) (hr9 : roles.length ≤ 900) (hra : ∀ r ∈ roles, r.Actions.length ≤ 110) (grants : List SGrant) (hl : grants.length ≤ 900) (hh : ∀ g ∈ grants, has roles g.Role = true)
    (u : ByteArray) (a : Int) (o : ByteArray) (t : Int) : ∀ (n i : Nat) (given : Bool), i ≤ grants.length → grants.length < n + i → chargenetref39_Allowed_l42 1000 roles grants u a o t n given (i : Int) = some (alS roles (grants.drop i) u a o t given)
  | 0, i, given, h1, h2 => by omega
  | n + 1, i, given, h1, h2 => by
    simp only [chargenetref39_Allowed_l42, chargenetref39_Allowed_b42, chargenetref39_Allowed_p45]
    by_cases hi : i < grants.length
    · have e1 : decide ((i : Int) < (grants.length : Int)) = true := by simpa using hi
      obtain ⟨q, hq, hn⟩ := named_eq roles hr9 grants[i].Role
      rcases hn with ⟨_, hf, _⟩ | ⟨k, rfl, hk, _, hr⟩
      · rw [hh _ (List.getElem_mem hi)] at hf; cases hf
      · have hr' : roleOf roles grants[i].Role = some roles[k] := hr
        have hrm := hra roles[k] (List.getElem_mem hk)
        have ih := fun b => ref_allowed_l roles hr9 hra grants hl hh u a o t n (i + 1) b (by omega) (by omega)
        have g1 : ∀ x : Option Bool, E.guard ((0 : Int) ≤ (i : Int) ∧ (i : Int) < (grants.length : Int)) x = x := fun x => guard_pos (by omega)
        have g2 : ∀ x : Option Bool, E.guard ((0 : Int) ≤ (k : Int) ∧ (k : Int) < (roles.length : Int)) x = x := fun x => guard_pos (by omega)
        rw [e1, cond_true, List.drop_eq_getElem_cons hi, alS_cons roles _ _ u a o t given _ hr']
        simp only [g1, getD_nat grants _ i hi, wsucc i (by omega), ref_holds_eq, hq, Option.bind_some, g2, getD_nat roles _ k hk, ih, ref_covers_eq _ hrm]
        have hap : app u t grants[i] = (sEq grants[i].User u && holdsS grants[i] t) := rfl
        rw [hap]
        rcases Bool.eq_false_or_eq_true (sEq grants[i].User u) with q1 | q1 <;> rcases Bool.eq_false_or_eq_true (holdsS grants[i] t) with q2 | q2 <;>
          rcases Bool.eq_false_or_eq_true (covS roles[k] a o) with q3 | q3 <;> rcases Bool.eq_false_or_eq_true (roles[k]).Deny with q4 | q4 <;> simp only [q1, q2, q3, q4] <;> simp
    · have e1 : decide ((i : Int) < (grants.length : Int)) = false := by simp; omega
      rw [e1, cond_false, List.drop_eq_nil_of_le (by omega)]
      unfold chargenetref39_Allowed_p5 alS
      simp

/-! ### What is valid -/
theorem gs_zero (roles : List SRole) : ∀ (l before : List SGrant), gsE roles before l = 0 ↔ ∀ i (hi : i < l.length), gE roles (before ++ l.take i) l[i] = 0
  | [], before => by simp [gsE]
  | g :: l, before => by
    simp only [gsE]
    by_cases h0 : gE roles before g = 0
    · rw [if_neg (by simpa using h0), gs_zero roles l]
      constructor
      · intro h i hi
        cases i with
        | zero => simpa using h0
        | succ i =>
          have := h i (by simpa using hi)
          simpa using this
      · intro h i hi
        have := h (i + 1) (by simpa using hi)
        simpa using this
    · rw [if_pos (by simpa using h0)]
      constructor
      · intro h; exact absurd h h0
      · intro h
        have := h 0 (by simp)
        exact absurd (by simpa using this) h0

theorem vE_zero (roles : List SRole) (grants : List SGrant) : vE roles grants = 0 ↔ roles.length ≤ 32 ∧ rsE [] roles = 0 ∧ grants.length ≤ 256 ∧ ∀ i (hi : i < grants.length), gE roles (grants.take i) grants[i] = 0 := by
  unfold vE
  have hz := gs_zero roles grants []
  simp only [List.nil_append] at hz
  rw [← hz]
  by_cases h1 : 32 < roles.length <;> by_cases h2 : rsE [] roles = 0 <;> by_cases h3 : 256 < grants.length <;> simp [h1, h2, h3] <;> omega

theorem valid_has (roles : List SRole) (grants : List SGrant) (h : vE roles grants = 0) : ∀ g ∈ grants, has roles g.Role = true := by
  intro g hg
  obtain ⟨i, hi, rfl⟩ := List.getElem_of_mem hg
  exact (gE_span _ _ _ (((vE_zero roles grants).1 h).2.2.2 i hi)).2.1

theorem allowed_eq (roles : List SRole) (grants : List SGrant) (hs : small roles grants) (u : ByteArray) (a : Int) (o : ByteArray) (t : Int) : access_Allowed 1000 roles grants u a o t = some (if vE roles grants = 0 then alS roles grants u a o t false else false) := by
  unfold access_Allowed
  rw [valid_eq roles grants hs, Option.bind_some]
  by_cases h0 : vE roles grants = 0
  · obtain ⟨k, hk1, hk2⟩ := byName_eq roles (by have := hs.1; omega)
    have hd := (rs_distinct roles [] ((vE_zero roles grants).1 h0).2.1).2
    have h := allowed_l roles k (look_role roles k hk2 hd) hs.2.2 grants (by have := hs.2.1; omega) (valid_has roles grants h0) u a o t 1000 0 false (by omega) (by have := hs.2.1; omega)
    simp only [Int.natCast_zero, List.drop_zero] at h
    rw [hk1, if_pos h0, show decide (vE roles grants = 0) = true by simpa using h0]
    unfold access_allowed
    simp only [Bool.not_true, cond_false, Option.bind_some, h]
  · rw [if_neg h0, show decide (vE roles grants = 0) = false by simpa using h0]; rfl

theorem ref_allowed_eq (roles : List SRole) (grants : List SGrant) (hs : small roles grants) (u : ByteArray) (a : Int) (o : ByteArray) (t : Int) : chargenetref39_Allowed 1000 roles grants u a o t = some (if vE roles grants = 0 then alS roles grants u a o t false else false) := by
  unfold chargenetref39_Allowed
  rw [ref_valid_eq roles grants hs, Option.bind_some]
  by_cases h0 : vE roles grants = 0
  · have h := ref_allowed_l roles (by have := hs.1; omega) hs.2.2 grants (by have := hs.2.1; omega) (valid_has roles grants h0) u a o t 1000 0 false (by omega) (by have := hs.2.1; omega)
    simp only [Int.natCast_zero, List.drop_zero] at h
    rw [if_pos h0, show decide (vE roles grants = 0) = true by simpa using h0, h]; rfl
  · rw [if_neg h0, show decide (vE roles grants = 0) = false by simpa using h0]; rfl
end Go.Proofs.Ytggfgdohbeoabaa.M
