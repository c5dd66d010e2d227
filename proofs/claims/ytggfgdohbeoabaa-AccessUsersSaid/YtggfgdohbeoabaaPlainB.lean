/- Plain laws of chapter 39: what both functions Valid return. -/
import Derived.Test.YtggfgdohbeoabaaPlainA
namespace Go.Proofs.Ytggfgdohbeoabaa.M
open Go Go.Proofs.Ytggfgdohbeoabaa.E Go.Proofs.Ytggfgdohbeoabaa.W
set_option linter.unusedVariables false
set_option linter.unusedSimpArgs false

def idB (s : ByteArray) : Bool := (chargenetref01_Valid 1000 s).getD false
theorem id_ref (s : ByteArray) : chargenetref01_Valid 1000 s = some (idB s) := by
  obtain ⟨b, hb⟩ := ident_total s
  unfold idB; rw [hb]; rfl
theorem id_eq (s : ByteArray) : ident_Valid 1000 s = some (idB s) := by rw [ident_eq, id_ref]

def has (roles : List SRole) (s : ByteArray) : Bool := roles.any (fun r => sEq s r.Name)
theorem has_append (a b : List SRole) (s : ByteArray) : has (a ++ b) s = (has a s || has b s) := by simp [has]

/-! ### One role -/
theorem role_total (r : SRole) (h : r.Actions.length ≤ 110) : ∀ (n k : Nat), k ≤ r.Actions.length → r.Actions.length < n + k → ∃ e, access_validRole_l24 1000 r n (k : Int) = some e
  | 0, k, h1, h2 => by omega
  | n + 1, k, h1, h2 => by
    simp only [access_validRole_l24, access_validRole_b24]
    by_cases hk : k < r.Actions.length
    · have e1 : decide ((k : Int) < (r.Actions.length : Int)) = true := by simpa using hk
      have h26 : ∃ e, access_validRole_p26 (k : Int) (fun t8_15 => access_validRole_l24 1000 r n t8_15) = some e := by
        unfold access_validRole_p26
        rw [wsucc k (by omega)]
        exact role_total r h n (k + 1) (by omega) (by omega)
      rw [e1, cond_true, guard_pos (by omega)]
      refine opt_cond (opt_some _) (opt_cond (opt_some _) ?_)
      by_cases h0 : 0 < k
      · have w1 : IntKind.wrap .i64 ((k : Int) - 1) = ((k - 1 : Nat) : Int) := by rw [Go.IntWalk.i64_in _ (by omega)]; omega
        rw [show decide ((0 : Int) < (k : Int)) = true by simp; omega, cond_true, w1, guard_pos (by omega)]
        exact opt_cond (opt_some _) h26
      · rw [show decide ((0 : Int) < (k : Int)) = false by simp; omega, cond_false]; exact h26
    · have e1 : decide ((k : Int) < (r.Actions.length : Int)) = false := by simp; omega
      rw [e1, cond_false]
      unfold access_validRole_p6 access_validRole_p1
      rw [id_eq]
      exact opt_cond (opt_cond (opt_some _) (opt_some _)) (opt_some _)

def rE (r : SRole) : Int := (access_validRole 1000 r).getD 0
theorem role_eq (r : SRole) (h : r.Actions.length ≤ 110) : access_validRole 1000 r = some (rE r) := by
  obtain ⟨e, he⟩ := role_total r h 1000 0 (by omega) (by omega)
  have : access_validRole 1000 r = some e := by unfold access_validRole; simpa only [Int.natCast_zero] using he
  unfold rE; rw [this]; rfl

theorem ref_role_l (roles : List SRole) (hl : roles.length ≤ 40) (i : Nat) (hi : i < roles.length) (h : (roles[i]).Actions.length ≤ 110) : ∀ (n k : Nat), k ≤ (roles[i]).Actions.length → (roles[i]).Actions.length < n + k → chargenetref39_role_l36 1000 roles (i : Int) n (k : Int) = access_validRole_l24 1000 roles[i] n (k : Int)
  | 0, k, h1, h2 => by omega
  | n + 1, k, h1, h2 => by
    simp only [chargenetref39_role_l36, chargenetref39_role_b36, access_validRole_l24, access_validRole_b24, getD_nat roles _ i hi]
    by_cases hk : k < (roles[i]).Actions.length
    · have e1 : decide ((k : Int) < ((roles[i]).Actions.length : Int)) = true := by simpa using hk
      have h38 : chargenetref39_role_p38 (k : Int) (fun k_25 => chargenetref39_role_l36 1000 roles (i : Int) n k_25) = access_validRole_p26 (k : Int) (fun t8_15 => access_validRole_l24 1000 roles[i] n t8_15) := by
        unfold chargenetref39_role_p38 access_validRole_p26
        rw [wsucc k (by omega)]
        exact ref_role_l roles hl i hi h n (k + 1) (by omega) (by omega)
      have g1 : ∀ (x : Option Int), E.guard ((0 : Int) ≤ (k : Int) ∧ (k : Int) < ((roles[i]).Actions.length : Int)) x = x := fun x => guard_pos (by omega)
      rw [e1, cond_true, cond_true, h38]
      by_cases h0 : 0 < k
      · have w1 : IntKind.wrap .i64 ((k : Int) - 1) = ((k - 1 : Nat) : Int) := by rw [Go.IntWalk.i64_in _ (by omega)]; omega
        have g2 : ∀ (x : Option Int), E.guard ((0 : Int) ≤ ((k - 1 : Nat) : Int) ∧ ((k - 1 : Nat) : Int) < ((roles[i]).Actions.length : Int)) x = x := fun x => guard_pos (by omega)
        simp only [w1, g1, g2]
      · have d0 : decide ((0 : Int) < (k : Int)) = false := decide_eq_false (by omega)
        simp only [d0, cond_false, g1]
    · have e1 : decide ((k : Int) < ((roles[i]).Actions.length : Int)) = false := by simp; omega
      rw [e1, cond_false, cond_false]
      unfold chargenetref39_role_p14 access_validRole_p6 chargenetref39_role_p9 access_validRole_p1
      rw [getD_nat roles _ i hi, id_eq, id_ref]

theorem named_l (roles : List SRole) (hl : roles.length ≤ 900) (s : ByteArray) : ∀ (n i : Nat), i ≤ roles.length → roles.length < n + i → ∃ r : Int, chargenetref39_named_l9 roles s n (i : Int) = some r ∧
    ((r = -1 ∧ ∀ x ∈ roles.drop i, sEq s x.Name = false) ∨ ∃ k : Nat, r = (k : Int) ∧ i ≤ k ∧ ∃ hk : k < roles.length, sEq s roles[k].Name = true ∧ ∀ j (hj : j < roles.length), i ≤ j → j < k → sEq s roles[j].Name = false)
  | 0, i, h1, h2 => by omega
  | n + 1, i, h1, h2 => by
    simp only [chargenetref39_named_l9, chargenetref39_named_b9]
    by_cases hi : i < roles.length
    · have e1 : decide ((i : Int) < (roles.length : Int)) = true := by simpa using hi
      rw [e1, cond_true, guard_pos (by omega), getD_nat roles _ i hi, sEq_comm]
      cases hq : sEq s roles[i].Name with
      | true => exact ⟨(i : Int), rfl, .inr ⟨i, rfl, Nat.le_refl _, hi, hq, fun j _ h1 h2 => by omega⟩⟩
      | false =>
        rw [cond_false, wsucc i (by omega)]
        obtain ⟨r, hr, h⟩ := named_l roles hl s n (i + 1) (by omega) (by omega)
        refine ⟨r, hr, ?_⟩
        rcases h with ⟨h3, h4⟩ | ⟨k, h3, h4, hk, h5, h6⟩
        · refine .inl ⟨h3, fun x hx => ?_⟩
          rw [List.drop_eq_getElem_cons hi] at hx
          rcases List.mem_cons.1 hx with rfl | hx
          · exact hq
          · exact h4 x hx
        · refine .inr ⟨k, h3, by omega, hk, h5, fun j hj h7 h8 => ?_⟩
          by_cases hji : j = i
          · subst hji; exact hq
          · exact h6 j hj (by omega) h8
    · have e1 : decide ((i : Int) < (roles.length : Int)) = false := by simp; omega
      rw [e1, cond_false, List.drop_eq_nil_of_le (by omega)]
      exact ⟨-1, rfl, .inl ⟨rfl, by simp⟩⟩

/-- The place of a role, and that it is the first one of its name. -/
theorem named_eq (roles : List SRole) (hl : roles.length ≤ 900) (s : ByteArray) : ∃ r : Int, chargenetref39_named 1000 roles s = some r ∧
    ((r = -1 ∧ has roles s = false ∧ roles.find? (fun x => sEq s x.Name) = none) ∨ ∃ k : Nat, r = (k : Int) ∧ ∃ hk : k < roles.length, has roles s = true ∧ roles.find? (fun x => sEq s x.Name) = some roles[k]) := by
  obtain ⟨r, hr, h⟩ := named_l roles hl s 1000 0 (by omega) (by omega)
  simp only [Int.natCast_zero] at hr
  refine ⟨r, hr, ?_⟩
  rcases h with ⟨h1, h2⟩ | ⟨k, h1, _, hk, h2, h3⟩
  · rw [List.drop_zero] at h2
    refine .inl ⟨h1, ?_, ?_⟩
    · unfold has; rw [List.any_eq_false]; exact fun x hx => by simp [h2 x hx]
    · rw [List.find?_eq_none]; exact fun x hx => by simp [h2 x hx]
  · refine .inr ⟨k, h1, hk, ?_, ?_⟩
    · unfold has; rw [List.any_eq_true]; exact ⟨roles[k], List.getElem_mem hk, h2⟩
    · rw [List.find?_eq_some_iff_getElem]
      exact ⟨h2, k, hk, rfl, fun j hj => by simp [h3 j (by omega) (by omega) hj]⟩

/-! ### One grant -/
def spanOk (g : SGrant) : Bool := decide (0 ≤ g.Span_From ∧ g.Span_From ≤ 268435456 ∧ (g.Span_To = -1 ∨ (g.Span_From ≤ g.Span_To ∧ g.Span_To ≤ 268435456)))
def holdsS (g : SGrant) (t : Int) : Bool := decide (g.Span_From ≤ t ∧ (g.Span_To = -1 ∨ t < g.Span_To))
def ov (a b : SGrant) : Bool := holdsS a (if a.Span_From < b.Span_From then b.Span_From else a.Span_From) && holdsS b (if a.Span_From < b.Span_From then b.Span_From else a.Span_From)
def clash (before : List SGrant) (g : SGrant) : Bool := before.any (fun x => sEq x.User g.User && (sEq x.Role g.Role && ov x g))
def gE (roles : List SRole) (before : List SGrant) (g : SGrant) : Int := if idB g.User = false then 4 else if has roles g.Role = false then 8 else if spanOk g = false then 2 else if clash before g then 9 else 0

theorem holds_eq (a b t : Int) : access_holds 1000 (SSpan.mk a b) t = some (decide (a ≤ t ∧ (b = -1 ∨ t < b))) := by
  unfold access_holds
  by_cases h1 : a ≤ t <;> by_cases h2 : b = -1 <;> by_cases h3 : t < b <;> simp [h1, h2, h3]
theorem ref_holds_eq (g : SGrant) (t : Int) : chargenetref39_holds 1000 g t = some (holdsS g t) := by
  unfold chargenetref39_holds holdsS
  by_cases h1 : g.Span_From ≤ t <;> by_cases h2 : g.Span_To = -1 <;> by_cases h3 : t < g.Span_To <;> simp [h1, h2, h3]
theorem overlap_eq (a b : SGrant) : access_overlap 1000 (SSpan.mk a.Span_From a.Span_To) (SSpan.mk b.Span_From b.Span_To) = some (ov a b) := by
  unfold access_overlap
  simp only [holds_eq]
  unfold ov holdsS
  simp only [Option.bind_some]
  cases decide (a.Span_From ≤ (if a.Span_From < b.Span_From then b.Span_From else a.Span_From) ∧ (a.Span_To = -1 ∨ (if a.Span_From < b.Span_From then b.Span_From else a.Span_From) < a.Span_To)) <;> rfl

theorem clash_l (before : List SGrant) (hl : before.length ≤ 900) (g : SGrant) : ∀ (n k : Nat), k ≤ before.length → before.length < n + k → access_validGrant_l25 1000 before g n (k : Int) = some (if clash (before.drop k) g then 9 else 0)
  | 0, k, h1, h2 => by omega
  | n + 1, k, h1, h2 => by
    simp only [access_validGrant_l25, access_validGrant_b25]
    by_cases hk : k < before.length
    · have e1 : decide ((k : Int) < (before.length : Int)) = true := by simpa using hk
      have ih := clash_l before hl g n (k + 1) (by omega) (by omega)
      have h27 : access_validGrant_p27 (k : Int) (fun t55_16 => access_validGrant_l25 1000 before g n t55_16) = some (if clash (before.drop (k + 1)) g then 9 else 0) := by
        unfold access_validGrant_p27
        rw [wsucc k (by omega)]; exact ih
      rw [e1, cond_true, guard_pos (by omega), getD_nat before _ k hk, overlap_eq, h27, List.drop_eq_getElem_cons hk]
      simp only [Option.bind_some, clash, List.any_cons]
      rcases Bool.eq_false_or_eq_true (sEq before[k].User g.User) with q1 | q1 <;> rcases Bool.eq_false_or_eq_true (sEq before[k].Role g.Role) with q2 | q2 <;> rcases Bool.eq_false_or_eq_true (ov before[k] g) with q3 | q3 <;> simp only [q1, q2, q3] <;> simp
    · have e1 : decide ((k : Int) < (before.length : Int)) = false := by simp; omega
      rw [e1, cond_false, List.drop_eq_nil_of_le (by omega)]; rfl

theorem validGrant_eq (known : List (ByteArray × SRole)) (roles : List SRole) (hk : ∀ s, (alook known s).isSome = has roles s) (before : List SGrant) (hl : before.length ≤ 900) (g : SGrant) : access_validGrant 1000 known before g = some (gE roles before g) := by
  have h34 : access_validGrant_p34 1000 before g = some (if clash before g then 9 else 0) := by
    have := clash_l before hl g 1000 0 (by omega) (by omega)
    unfold access_validGrant_p34
    simpa only [Int.natCast_zero, List.drop_zero] using this
  unfold access_validGrant gE spanOk
  rw [id_eq, hk, h34]
  simp only [Option.bind_some]
  cases idB g.User with
  | false => rfl
  | true =>
    cases has roles g.Role with
    | false => rfl
    | true =>
      by_cases a1 : g.Span_From < 0 <;> by_cases a2 : 268435456 < g.Span_From <;> by_cases a3 : g.Span_To = -1 <;> by_cases a4 : g.Span_To < g.Span_From <;> by_cases a5 : 268435456 < g.Span_To <;>
        simp [a1, a2, a3, a4, a5, Int.not_le.2, Int.not_lt.1, Int.not_lt, Int.not_le] <;> (try omega)

def mn (a b : SGrant) : Bool := decide ((if a.Span_From < b.Span_From then b.Span_From else a.Span_From) < (if (if b.Span_To = -1 then 268435457 else b.Span_To) < (if a.Span_To = -1 then 268435457 else a.Span_To) then (if b.Span_To = -1 then 268435457 else b.Span_To) else (if a.Span_To = -1 then 268435457 else a.Span_To)))
theorem mn_ov (a b : SGrant) (ha : spanOk a = true) (hb : spanOk b = true) : mn a b = ov a b := by
  unfold spanOk at ha hb
  have ha := of_decide_eq_true ha
  have hb := of_decide_eq_true hb
  unfold mn ov holdsS
  rw [Bool.eq_iff_iff]
  simp only [Bool.and_eq_true, decide_eq_true_eq]
  obtain ⟨uF, uR, aF, aT⟩ := a
  obtain ⟨vF, vR, bF, bT⟩ := b
  simp only at ha hb ⊢
  have hf : ∃ m, m = (if aF < bF then bF else aF) := ⟨_, rfl⟩
  obtain ⟨m, hm⟩ := hf
  rw [← hm]
  have hm2 : aF ≤ m ∧ bF ≤ m ∧ m ≤ 268435456 := by rw [hm]; split <;> omega
  have key : ∀ T : Int, (T = -1 ∨ (0 ≤ T ∧ T ≤ 268435456)) → (m < (if T = -1 then 268435457 else T) ↔ (T = -1 ∨ m < T)) := by
    intro T hT
    by_cases h : T = -1
    · rw [if_pos h]; constructor
      · intro _; exact .inl h
      · intro _; omega
    · rw [if_neg h]; constructor
      · intro h2; exact .inr h2
      · rintro (h2 | h2)
        · exact absurd h2 h
        · exact h2
  have hmin : ∀ x y : Int, (m < (if x < y then x else y) ↔ (m < x ∧ m < y)) := by
    intro x y
    by_cases h : x < y
    · rw [if_pos h]; constructor
      · intro h2; exact ⟨h2, by omega⟩
      · intro h2; exact h2.1
    · rw [if_neg h]; constructor
      · intro h2; exact ⟨by omega, h2⟩
      · intro h2; exact h2.2
  rw [hmin, key aT (by omega), key bT (by omega)]
  constructor
  · rintro ⟨h1, h2⟩; exact ⟨⟨hm2.1, h2⟩, hm2.2.1, h1⟩
  · rintro ⟨⟨_, h2⟩, _, h1⟩; exact ⟨h1, h2⟩

theorem end_eq (a b : Int) : chargenetref39_end 1000 (SSpan.mk a b) = some (if b = -1 then 268435457 else b) := by
  unfold chargenetref39_end
  by_cases h : b = -1 <;> simp [h]

theorem ref_clash_l (grants : List SGrant) (hl : grants.length ≤ 900) (i : Nat) (hi : i < grants.length) (hg : spanOk grants[i] = true) (hb : ∀ j (hj : j < grants.length), j < i → spanOk grants[j] = true) : ∀ (n k : Nat), k ≤ i → i < n + k →
    chargenetref39_grant_l30 1000 grants (i : Int) n (k : Int) = some (if clash ((grants.take i).drop k) grants[i] then 9 else 0)
  | 0, k, h1, h2 => by omega
  | n + 1, k, h1, h2 => by
    simp only [chargenetref39_grant_l30, chargenetref39_grant_b30, getD_nat grants _ i hi]
    by_cases hk : k < i
    · have hkl : k < grants.length := by omega
      have e1 : decide ((k : Int) < (i : Int)) = true := by simpa using hk
      have ih := ref_clash_l grants hl i hi hg hb n (k + 1) (by omega) (by omega)
      have h32 : chargenetref39_grant_p32 (k : Int) (fun k_19 => chargenetref39_grant_l30 1000 grants (i : Int) n k_19) = some (if clash ((grants.take i).drop (k + 1)) grants[i] then 9 else 0) := by
        unfold chargenetref39_grant_p32
        rw [wsucc k (by omega)]; exact ih
      have hkt : k < (grants.take i).length := by rw [List.length_take]; omega
      rw [e1, cond_true, guard_pos (by omega), getD_nat grants _ k hkl, end_eq, end_eq, h32, List.drop_eq_getElem_cons hkt, List.getElem_take]
      simp only [Option.bind_some, clash, List.any_cons]
      have hmn := mn_ov grants[k] grants[i] (hb k hkl hk) hg
      unfold mn at hmn
      rw [hmn]
      rcases Bool.eq_false_or_eq_true (sEq grants[k].User grants[i].User) with q1 | q1 <;> rcases Bool.eq_false_or_eq_true (sEq grants[k].Role grants[i].Role) with q2 | q2 <;> rcases Bool.eq_false_or_eq_true (ov grants[k] grants[i]) with q3 | q3 <;> simp only [q1, q2, q3] <;> simp
    · have e1 : decide ((k : Int) < (i : Int)) = false := by simp; omega
      rw [e1, cond_false, List.drop_eq_nil_of_le (by rw [List.length_take]; omega)]; rfl

theorem ref_grant_eq (roles : List SRole) (hr : roles.length ≤ 900) (grants : List SGrant) (hl : grants.length ≤ 900) (i : Nat) (hi : i < grants.length) (hb : ∀ j (hj : j < grants.length), j < i → spanOk grants[j] = true) :
    chargenetref39_grant 1000 roles grants (i : Int) = some (gE roles (grants.take i) grants[i]) := by
  unfold chargenetref39_grant gE
  obtain ⟨r, h1, h2⟩ := named_eq roles hr grants[i].Role
  rw [guard_pos (by omega), getD_nat grants _ i hi, id_ref, h1]
  simp only [Option.bind_some]
  cases idB grants[i].User with
  | false => rfl
  | true =>
    rcases h2 with ⟨rfl, h2, _⟩ | ⟨k, rfl, _, h2, _⟩
    · rw [h2]; rfl
    · rw [h2, show decide ((k : Int) < 0) = false from decide_eq_false (by omega)]
      by_cases hs : spanOk grants[i] = true
      · have h41 : chargenetref39_grant_p41 1000 grants (i : Int) = some (if clash (grants.take i) grants[i] then 9 else 0) := by
          have := ref_clash_l grants hl i hi hs hb 1000 0 (by omega) (by omega)
          unfold chargenetref39_grant_p41
          simpa only [Int.natCast_zero, List.drop_zero] using this
        have hs' := of_decide_eq_true hs
        rw [h41, hs]
        unfold chargenetref02_Right
        by_cases a3 : grants[i].Span_To = -1
        · simp [a3, hs'.1, hs'.2.1]
        · have a4 : ¬ grants[i].Span_To < grants[i].Span_From := by omega
          have a5 : ¬ 268435456 < grants[i].Span_To := by omega
          simp [a3, a4, a5, hs'.1, hs'.2.1]
      · have hs2 : spanOk grants[i] = false := by simpa using hs
        rw [hs2]
        have hs' := of_decide_eq_false hs2
        unfold chargenetref02_Right
        by_cases a1 : 0 ≤ grants[i].Span_From <;> by_cases a2 : grants[i].Span_From ≤ 268435456 <;> by_cases a3 : grants[i].Span_To = -1 <;> by_cases a4 : grants[i].Span_To < grants[i].Span_From <;> by_cases a5 : 268435456 < grants[i].Span_To <;>
          simp [a1, a2, a3, a4, a5] <;> (exfalso; omega)

/-! ### All of them -/
def gsE (roles : List SRole) : List SGrant → List SGrant → Int
  | _, [] => 0
  | before, g :: l => if gE roles before g ≠ 0 then gE roles before g else gsE roles (before ++ [g]) l
def rsE : List SRole → List SRole → Int
  | _, [] => 0
  | before, r :: l => if idB r.Name = false then 4 else if has before r.Name then 9 else if rE r ≠ 0 then rE r else rsE (before ++ [r]) l
def vE (roles : List SRole) (grants : List SGrant) : Int := if 32 < roles.length then 3 else if rsE [] roles ≠ 0 then rsE [] roles else if 256 < grants.length then 3 else gsE roles [] grants

theorem gs_l (roles : List SRole) (known : List (ByteArray × SRole)) (hk : ∀ s, (alook known s).isSome = has roles s) (grants : List SGrant) (hl : grants.length ≤ 900) : ∀ (n i : Nat), i ≤ grants.length → grants.length < n + i →
    access_Valid_l19 1000 grants known n (i : Int) = some (gsE roles (grants.take i) (grants.drop i))
  | 0, i, h1, h2 => by omega
  | n + 1, i, h1, h2 => by
    simp only [access_Valid_l19, access_Valid_b19]
    by_cases hi : i < grants.length
    · have e1 : decide ((i : Int) < (grants.length : Int)) = true := by simpa using hi
      have hs : subL grants 0 ((i : Int)).toNat = grants.take i := by simp [subL]
      rw [e1, cond_true, guard_pos (by omega), guard_pos (by omega), getD_nat grants _ i hi, hs, validGrant_eq known roles hk _ (by rw [List.length_take]; omega), Option.bind_some, wsucc i (by omega), gs_l roles known hk grants hl n (i + 1) (by omega) (by omega), List.drop_eq_getElem_cons hi]
      simp only [gsE, List.take_succ_eq_append_getElem hi]
      by_cases h0 : gE roles (grants.take i) grants[i] = 0 <;> simp [h0]
    · have e1 : decide ((i : Int) < (grants.length : Int)) = false := by simp; omega
      rw [e1, cond_false, List.drop_eq_nil_of_le (by omega)]; rfl

theorem gE_span (roles : List SRole) (before : List SGrant) (g : SGrant) (h : gE roles before g = 0) : idB g.User = true ∧ has roles g.Role = true ∧ spanOk g = true ∧ clash before g = false := by
  unfold gE at h
  cases h1 : idB g.User <;> cases h2 : has roles g.Role <;> cases h3 : spanOk g <;> cases h4 : clash before g <;> simp [h1, h2, h3, h4] at h ⊢

theorem ref_gs_l (roles : List SRole) (hr : roles.length ≤ 900) (grants : List SGrant) (hl : grants.length ≤ 900) : ∀ (n i : Nat), i ≤ grants.length → grants.length < n + i → (∀ j (hj : j < grants.length), j < i → spanOk grants[j] = true) →
    chargenetref39_Valid_l13 1000 roles grants n (i : Int) = some (gsE roles (grants.take i) (grants.drop i))
  | 0, i, h1, h2, _ => by omega
  | n + 1, i, h1, h2, hb => by
    simp only [chargenetref39_Valid_l13, chargenetref39_Valid_b13]
    by_cases hi : i < grants.length
    · have e1 : decide ((i : Int) < (grants.length : Int)) = true := by simpa using hi
      rw [e1, cond_true, ref_grant_eq roles hr grants hl i hi hb, Option.bind_some, wsucc i (by omega), List.drop_eq_getElem_cons hi]
      simp only [gsE]
      by_cases h0 : gE roles (grants.take i) grants[i] = 0
      · have hsp := (gE_span _ _ _ h0).2.2.1
        rw [ref_gs_l roles hr grants hl n (i + 1) (by omega) (by omega) (fun j hj hji => by
          by_cases hjj : j = i
          · subst hjj; exact hsp
          · exact hb j hj (by omega)), List.take_succ_eq_append_getElem hi]
        simp [h0]
      · simp [h0]
    · have e1 : decide ((i : Int) < (grants.length : Int)) = false := by simp; omega
      rw [e1, cond_false, List.drop_eq_nil_of_le (by omega)]; rfl

/-- What byName holds. -/
def Known (roles : List SRole) (known : List (ByteArray × SRole)) : Prop := ∀ s, (alook known s).isSome = has roles s ∧ ∀ r, alook known s = some r → r ∈ roles ∧ sEq s r.Name = true

theorem byName_l (roles : List SRole) (hl : roles.length ≤ 900) : ∀ (n i : Nat) (o : List (ByteArray × SRole)), i ≤ roles.length → roles.length < n + i → Known (roles.take i) o → ∃ k, access_byName_own_l9 roles n (i : Int) o = some k ∧ Known roles k
  | 0, i, o, h1, h2, _ => by omega
  | n + 1, i, o, h1, h2, hk => by
    simp only [access_byName_own_l9, access_byName_own_b9]
    by_cases hi : i < roles.length
    · have e1 : decide ((i : Int) < (roles.length : Int)) = true := by simpa using hi
      rw [e1, cond_true, guard_pos (by omega), getD_nat roles _ i hi, wsucc i (by omega)]
      refine byName_l roles hl n (i + 1) _ (by omega) (by omega) (fun s => ?_)
      obtain ⟨k1, k2⟩ := hk s
      rw [List.take_succ_eq_append_getElem hi, alook_aset, has_append]
      by_cases hq : sEq s roles[i].Name = true
      · rw [if_pos hq]
        refine ⟨by simp [has, hq], fun r hr => ?_⟩
        cases hr
        exact ⟨List.mem_append_right _ (by simp), hq⟩
      · rw [if_neg hq]
        refine ⟨by rw [k1]; simp [has, hq], fun r hr => ?_⟩
        exact ⟨List.mem_append_left _ (k2 r hr).1, (k2 r hr).2⟩
    · have e1 : decide ((i : Int) < (roles.length : Int)) = false := by simp; omega
      rw [e1, cond_false]
      rw [List.take_of_length_le (by omega)] at hk
      exact ⟨o, rfl, hk⟩

theorem byName_eq (roles : List SRole) (hl : roles.length ≤ 900) : ∃ k, access_byName_own 1000 roles = some k ∧ Known roles k := by
  obtain ⟨k, h1, h2⟩ := byName_l roles hl 1000 0 [] (by omega) (by omega) (fun s => by simp [has, alook_nil])
  exact ⟨k, by unfold access_byName_own; simpa only [Int.natCast_zero] using h1, h2⟩

def small (roles : List SRole) (grants : List SGrant) : Prop := roles.length ≤ 40 ∧ grants.length ≤ 301 ∧ ∀ r ∈ roles, r.Actions.length ≤ 110

theorem rs_l (roles : List SRole) (grants : List SGrant) (hsm : small roles grants) : ∀ (n i : Nat) (o : List (ByteArray × Bool)), i ≤ roles.length → roles.length < n + i → (∀ s, (alook o s).getD false = has (roles.take i) s) →
    access_Valid_l47 1000 roles grants n (i : Int) o = some (if rsE (roles.take i) (roles.drop i) ≠ 0 then rsE (roles.take i) (roles.drop i) else if 256 < grants.length then 3 else gsE roles [] grants)
  | 0, i, o, h1, h2, _ => by omega
  | n + 1, i, o, h1, h2, ho => by
    have hl := hsm.1
    simp only [access_Valid_l47, access_Valid_b47]
    by_cases hi : i < roles.length
    · have e1 : decide ((i : Int) < (roles.length : Int)) = true := by simpa using hi
      rw [e1, cond_true, guard_pos (by omega), getD_nat roles _ i hi, id_eq, ho, role_eq _ (hsm.2.2 _ (List.getElem_mem hi)), List.drop_eq_getElem_cons hi]
      simp only [Option.bind_some, rsE]
      rcases Bool.eq_false_or_eq_true (idB roles[i].Name) with q1 | q1
      · rcases Bool.eq_false_or_eq_true (has (roles.take i) roles[i].Name) with q2 | q2
        · simp only [q1, q2]; simp
        · by_cases h0 : rE roles[i] = 0
          · have ih := rs_l roles grants hsm n (i + 1) (aset o roles[i].Name true) (by omega) (by omega) (fun s => by
              rw [alook_aset, List.take_succ_eq_append_getElem hi, has_append, ← ho]
              by_cases hq : sEq s roles[i].Name = true
              · rw [if_pos hq]; simp [has, hq]
              · rw [if_neg hq]; simp [has, hq])
            rw [wsucc i (by omega), ih, List.take_succ_eq_append_getElem hi]
            simp only [q1, q2, h0]; simp
          · simp only [q1, q2, h0]; simp [h0]
      · simp only [q1]; simp
    · have e1 : decide ((i : Int) < (roles.length : Int)) = false := by simp; omega
      rw [e1, cond_false, List.drop_eq_nil_of_le (by omega)]
      unfold access_Valid_p26
      obtain ⟨k, hk1, hk2⟩ := byName_eq roles (by omega)
      have hg := gs_l roles k (fun s => (hk2 s).1) grants (by have := hsm.2.1; omega) 1000 0 (by omega) (by have := hsm.2.1; omega)
      simp only [Int.natCast_zero, List.take_zero, List.drop_zero] at hg
      rw [hk1, Option.bind_some, hg]
      by_cases h : 256 < grants.length
      · have : decide ((256 : Int) < (grants.length : Int)) = true := by simp; omega
        rw [this]; simp [rsE, h]
      · have : decide ((256 : Int) < (grants.length : Int)) = false := by simp; omega
        rw [this]; simp [rsE, h]

theorem valid_eq (roles : List SRole) (grants : List SGrant) (hsm : small roles grants) : access_Valid 1000 roles grants = some (vE roles grants) := by
  unfold access_Valid vE
  have h := rs_l roles grants hsm 1000 0 [] (by omega) (by have := hsm.1; omega) (fun s => by simp [has, alook_nil])
  simp only [Int.natCast_zero, List.take_zero, List.drop_zero] at h
  rw [h]
  by_cases h3 : 32 < roles.length
  · have : decide ((32 : Int) < (roles.length : Int)) = true := by simp; omega
    rw [this, if_pos h3]; rfl
  · have : decide ((32 : Int) < (roles.length : Int)) = false := by simp; omega
    rw [this, if_neg h3]; rfl

theorem ref_role_eq (roles : List SRole) (hl : roles.length ≤ 40) (ha : ∀ r ∈ roles, r.Actions.length ≤ 110) (i : Nat) (hi : i < roles.length) :
    chargenetref39_role 1000 roles (i : Int) = some (if idB roles[i].Name = false then 4 else if has (roles.take i) roles[i].Name then 9 else rE roles[i]) := by
  unfold chargenetref39_role
  have hs : subL roles 0 ((i : Int)).toNat = roles.take i := by simp [subL]
  obtain ⟨r, h1, h2⟩ := named_eq (roles.take i) (by rw [List.length_take]; omega) roles[i].Name
  have hra := ha _ (List.getElem_mem hi)
  have h36 : chargenetref39_role_l36 1000 roles (i : Int) 1000 0 = some (rE roles[i]) := by
    have := ref_role_l roles hl i hi hra 1000 0 (by omega) (by omega)
    simp only [Int.natCast_zero] at this
    rw [this, ← role_eq _ hra]; rfl
  rw [guard_pos (by omega), getD_nat roles _ i hi, id_ref, Option.bind_some, guard_pos (by omega), hs, h1, h36]
  simp only [Option.bind_some]
  cases idB roles[i].Name with
  | false => rfl
  | true =>
    rcases h2 with ⟨rfl, h2, _⟩ | ⟨k, rfl, _, h2, _⟩
    · rw [h2]; rfl
    · rw [h2, show decide ((0 : Int) ≤ (k : Int)) = true by simp]; rfl

theorem ref_rs_l (roles : List SRole) (grants : List SGrant) (hsm : small roles grants) : ∀ (n i : Nat), i ≤ roles.length → roles.length < n + i →
    chargenetref39_Valid_l28 1000 roles grants n (i : Int) = some (if rsE (roles.take i) (roles.drop i) ≠ 0 then rsE (roles.take i) (roles.drop i) else if 256 < grants.length then 3 else gsE roles [] grants)
  | 0, i, h1, h2 => by omega
  | n + 1, i, h1, h2 => by
    have hl := hsm.1
    simp only [chargenetref39_Valid_l28, chargenetref39_Valid_b28]
    by_cases hi : i < roles.length
    · have e1 : decide ((i : Int) < (roles.length : Int)) = true := by simpa using hi
      have ih := ref_rs_l roles grants hsm n (i + 1) (by omega) (by omega)
      rw [e1, cond_true, ref_role_eq roles hl hsm.2.2 i hi, wsucc i (by omega), ih, List.drop_eq_getElem_cons hi, List.take_succ_eq_append_getElem hi]
      simp only [Option.bind_some, rsE]
      rcases Bool.eq_false_or_eq_true (idB roles[i].Name) with q1 | q1
      · rcases Bool.eq_false_or_eq_true (has (roles.take i) roles[i].Name) with q2 | q2
        · simp only [q1, q2]; simp
        · by_cases h0 : rE roles[i] = 0
          · simp only [q1, q2, h0]; simp
          · simp only [q1, q2, h0]; simp [h0]
      · simp only [q1]; simp
    · have e1 : decide ((i : Int) < (roles.length : Int)) = false := by simp; omega
      rw [e1, cond_false, List.drop_eq_nil_of_le (by omega)]
      unfold chargenetref39_Valid_p18
      have hg := ref_gs_l roles (by omega) grants (by have := hsm.2.1; omega) 1000 0 (by omega) (by have := hsm.2.1; omega) (fun j _ h => absurd h (by omega))
      simp only [Int.natCast_zero, List.take_zero, List.drop_zero] at hg
      rw [hg]
      by_cases h : 256 < grants.length
      · have : decide ((256 : Int) < (grants.length : Int)) = true := by simp; omega
        rw [this]; simp [rsE, h]
      · have : decide ((256 : Int) < (grants.length : Int)) = false := by simp; omega
        rw [this]; simp [rsE, h]

theorem ref_valid_eq (roles : List SRole) (grants : List SGrant) (hsm : small roles grants) : chargenetref39_Valid 1000 roles grants = some (vE roles grants) := by
  unfold chargenetref39_Valid vE
  have h := ref_rs_l roles grants hsm 1000 0 (by omega) (by have := hsm.1; omega)
  simp only [Int.natCast_zero, List.take_zero, List.drop_zero] at h
  rw [h]
  by_cases h3 : 32 < roles.length
  · have : decide ((32 : Int) < (roles.length : Int)) = true := by simp; omega
    rw [this, if_pos h3]; rfl
  · have : decide ((32 : Int) < (roles.length : Int)) = false := by simp; omega
    rw [this, if_neg h3]; rfl

theorem small_l (x : SCase) (hr : x.Roles.length ≤ 40) : ∀ (n i : Nat), i ≤ x.Roles.length → x.Roles.length < n + i → ∃ b, chargenetlaw39_small_l11 x n (i : Int) = some b ∧ (b = true → ∀ r ∈ x.Roles.drop i, r.Actions.length ≤ 110)
  | 0, i, h1, h2 => by omega
  | n + 1, i, h1, h2 => by
    simp only [chargenetlaw39_small_l11, chargenetlaw39_small_b11]
    by_cases hi : i < x.Roles.length
    · have e1 : decide ((i : Int) < (x.Roles.length : Int)) = true := by simpa using hi
      obtain ⟨b, hb, hbi⟩ := small_l x hr n (i + 1) (by omega) (by omega)
      rw [e1, cond_true, guard_pos (by omega), getD_nat x.Roles _ i hi, wsucc i (by omega), hb]
      by_cases h : (110 : Int) < ((x.Roles[i]).Actions.length : Int)
      · rw [show decide ((110 : Int) < ((x.Roles[i]).Actions.length : Int)) = true by simpa using h]
        exact ⟨false, rfl, fun h => by cases h⟩
      · rw [show decide ((110 : Int) < ((x.Roles[i]).Actions.length : Int)) = false by simpa using h]
        refine ⟨b, rfl, fun hb r hr => ?_⟩
        rw [List.drop_eq_getElem_cons hi] at hr
        rcases List.mem_cons.1 hr with rfl | hr
        · omega
        · exact hbi hb r hr
    · have e1 : decide ((i : Int) < (x.Roles.length : Int)) = false := by simp; omega
      rw [e1, cond_false, List.drop_eq_nil_of_le (by omega)]
      exact ⟨true, rfl, fun _ => by simp⟩

theorem small_eq (x : SCase) : chargenetlaw39_small 1000 x = some false ∨ (chargenetlaw39_small 1000 x = some true ∧ small x.Roles x.Grants ∧ x.Grants.length ≤ 300) := by
  unfold chargenetlaw39_small
  by_cases h1 : (40 : Int) < (x.Roles.length : Int)
  · left; simp [h1]
  · by_cases h2 : (300 : Int) < (x.Grants.length : Int)
    · left; simp [h1, h2]
    · obtain ⟨b, hb, hbi⟩ := small_l x (by omega) 1000 0 (by omega) (by omega)
      simp only [Int.natCast_zero, List.drop_zero] at hb hbi
      rw [show decide ((40 : Int) < (x.Roles.length : Int)) = false by simpa using h1, show decide ((300 : Int) < (x.Grants.length : Int)) = false by simpa using h2, hb]
      cases b with
      | false => left; rfl
      | true => right; exact ⟨rfl, ⟨by omega, by omega, hbi rfl⟩, by omega⟩
end Go.Proofs.Ytggfgdohbeoabaa.M
