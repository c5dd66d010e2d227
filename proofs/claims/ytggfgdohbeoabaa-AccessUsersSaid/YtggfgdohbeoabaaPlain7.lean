/- The plain law of AccessUsers: both functions Users return the same. -/
import Derived.Test.YtggfgdohbeoabaaPlainD
namespace Go.Proofs.Ytggfgdohbeoabaa.M
open Go Go.Proofs.Ytggfgdohbeoabaa.E Go.Proofs.Ytggfgdohbeoabaa.W
set_option linter.unusedVariables false
set_option linter.unusedSimpArgs false

theorem idB_empty : idB ByteArray.empty = false := by unfold idB; rfl

/-- What Users collects: the users of grants who may. -/
def Who (grants : List SGrant) (A : ByteArray → Bool) (u : ByteArray) : Prop := (∃ g ∈ grants, g.User = u) ∧ A u = true

theorem allowed_known (roles : List SRole) (grants : List SGrant) (hs : small roles grants) (h0 : vE roles grants = 0) (k : List (ByteArray × SRole)) (hk : Known roles k) (u : ByteArray) (a : Int) (o : ByteArray) (t : Int) :
    access_allowed 1000 k grants u a o t = some (alS roles grants u a o t false) := by
  have hd := (rs_distinct roles [] ((vE_zero roles grants).1 h0).2.1).2
  have h := allowed_l roles k (look_role roles k hk hd) hs.2.2 grants (by have := hs.2.1; omega) (valid_has roles grants h0) u a o t 1000 0 false (by omega) (by have := hs.2.1; omega)
  simp only [Int.natCast_zero, List.drop_zero] at h
  unfold access_allowed
  simp only [Option.bind_some, h]

theorem mem_take_succ {grants : List SGrant} {i : Nat} (hi : i < grants.length) (P : SGrant → Prop) : (∃ g ∈ grants.take (i + 1), P g) ↔ (∃ g ∈ grants.take i, P g) ∨ P grants[i] := by
  rw [List.take_succ_eq_append_getElem hi]
  simp only [List.mem_append, List.mem_singleton]
  constructor
  · rintro ⟨g, h | rfl, hp⟩
    · exact .inl ⟨g, h, hp⟩
    · exact .inr hp
  · rintro (⟨g, h, hp⟩ | hp)
    · exact ⟨g, .inl h, hp⟩
    · exact ⟨_, .inr rfl, hp⟩

theorem users_l (grants : List SGrant) (hl : grants.length ≤ 20) (a : Int) (o : ByteArray) (t : Int) (k : List (ByteArray × SRole)) (A : ByteArray → Bool) (hA : ∀ u, access_allowed 1000 k grants u a o t = some (A u)) :
    ∀ (n i : Nat) (m : List (ByteArray × Bool)) (us : List ByteArray), i ≤ grants.length → grants.length < n + i →
      (∀ s, (alook m s).getD false = true ↔ ∃ g ∈ grants.take i, g.User = s) → us.Nodup → (∀ u, u ∈ us ↔ Who (grants.take i) A u) → us.length ≤ i →
      ∃ L, access_Users_l34 1000 grants a o t k n (i : Int) m us = some (sortB L) ∧ L.Nodup ∧ ∀ u, u ∈ L ↔ Who grants A u
  | 0, i, m, us, h1, h2, _, _, _, _ => by omega
  | n + 1, i, m, us, h1, h2, hm, hn, hu, hlen => by
    simp only [access_Users_l34, access_Users_b34, access_Users_p38, access_Users_p10]
    by_cases hi : i < grants.length
    · have e1 : decide ((i : Int) < (grants.length : Int)) = true := by simpa using hi
      rw [e1, cond_true, guard_pos (by omega), getD_nat grants _ i hi, wsucc i (by omega), hA, Option.bind_some]
      cases hq : (alook m grants[i].User).getD false with
      | true =>
        have hold : ∃ g ∈ grants.take i, g.User = grants[i].User := (hm _).1 hq
        refine users_l grants hl a o t k A hA n (i + 1) m us (by omega) (by omega) (fun s => ?_) hn (fun u => ?_) (by omega)
        · rw [mem_take_succ hi, hm]
          exact ⟨.inl, fun h => h.elim id (fun h => by rw [← h]; exact hold)⟩
        · rw [hu]
          unfold Who
          rw [mem_take_succ hi (fun g => g.User = u)]
          exact ⟨fun h => ⟨.inl h.1, h.2⟩, fun h => ⟨h.1.elim id (fun h => by rw [← h]; exact hold), h.2⟩⟩
      | false =>
        have hnew : ¬ ∃ g ∈ grants.take i, g.User = grants[i].User := fun h => by rw [(hm _).2 h] at hq; cases hq
        have hm' : ∀ s, (alook (aset m grants[i].User true) s).getD false = true ↔ ∃ g ∈ grants.take (i + 1), g.User = s := by
          intro s
          rw [mem_take_succ hi, alook_aset]
          by_cases hs : sEq s grants[i].User = true
          · rw [if_pos hs]
            have := (sEq_iff _ _).1 hs
            simp [this]
          · rw [if_neg hs, hm]
            have : grants[i].User ≠ s := fun h => hs ((sEq_iff _ _).2 h.symm)
            simp [this]
        cases hAu : A grants[i].User with
        | true =>
          simp only [cond_true, cond_false]
          rw [guard_pos (by simp; omega)]
          refine users_l grants hl a o t k A hA n (i + 1) _ _ (by omega) (by omega) hm' ?_ (fun u => ?_) (by simp; omega)
          · rw [List.nodup_append]
            refine ⟨hn, by simp, fun x hx y hy => ?_⟩
            simp only [List.mem_singleton] at hy
            subst hy
            rintro rfl
            exact hnew ((hu _).1 hx).1
          · unfold Who
            rw [mem_take_succ hi (fun g => g.User = u), List.mem_append, hu, List.mem_singleton]
            unfold Who
            constructor
            · rintro (⟨h, h'⟩ | rfl)
              · exact ⟨.inl h, h'⟩
              · exact ⟨.inr rfl, hAu⟩
            · rintro ⟨h | h, h'⟩
              · exact .inl ⟨h, h'⟩
              · exact .inr h.symm
        | false =>
          simp only [cond_true, cond_false]
          refine users_l grants hl a o t k A hA n (i + 1) _ _ (by omega) (by omega) hm' hn (fun u => ?_) (by omega)
          rw [hu]
          unfold Who
          rw [mem_take_succ hi (fun g => g.User = u)]
          constructor
          · rintro ⟨h, h'⟩; exact ⟨.inl h, h'⟩
          · rintro ⟨h | h, h'⟩
            · exact ⟨h, h'⟩
            · rw [← h, hAu] at h'; cases h'
    · have e1 : decide ((i : Int) < (grants.length : Int)) = false := by simp; omega
      have hie : grants.take i = grants := List.take_of_length_le (by omega)
      rw [e1, cond_false]
      unfold slices_Sort_string_string
      rw [guard_pos (by omega), Option.bind_some, guard_pos (sortB_len us)]
      rw [hie] at hu
      exact ⟨us, rfl, hn, hu⟩

/-! ### The reference: the least one, again and again -/
/-- u is still to come, behind those of o. -/
def aft (o : List ByteArray) (u : ByteArray) : Prop := ∀ x ∈ o, sLt x u = true

/-- What one round leaves: nobody, or the least one who is still to come. -/
def Least (l : List SGrant) (A : ByteArray → Bool) (o : List ByteArray) (v : ByteArray) : Prop :=
  (v = ByteArray.empty ∧ ∀ u, Who l A u → ¬ aft o u) ∨ (v ≠ ByteArray.empty ∧ Who l A v ∧ aft o v ∧ ∀ u, Who l A u → aft o u → u = v ∨ sLt v u = true)

theorem last_aft (o : List ByteArray) (ho : o.Pairwise (fun a b => sLt a b = true)) (h : 0 < o.length) (u : ByteArray) : aft o u ↔ sLt (o.getD (o.length - 1) ByteArray.empty) u = true := by
  have e : o.getD (o.length - 1) ByteArray.empty = o[o.length - 1] := by simp [List.getD, List.getElem?_eq_getElem (show o.length - 1 < o.length by omega)]
  rw [e]
  constructor
  · intro ha; exact ha _ (List.getElem_mem _)
  · intro hl x hx
    obtain ⟨j, hj, rfl⟩ := List.getElem_of_mem hx
    by_cases hjl : j = o.length - 1
    · subst hjl; exact hl
    · exact sLt_trans (List.pairwise_iff_getElem.1 ho j (o.length - 1) hj (by omega) (by omega)) hl

theorem least_step (l : List SGrant) (A : ByteArray → Bool) (o : List ByteArray) (v : ByteArray) (i : Nat) (hi : i < l.length) (hne : l[i].User ≠ ByteArray.empty) (h : Least (l.take i) A o v) :
    (aft o l[i].User → (v = ByteArray.empty ∨ sLt l[i].User v = true) → A l[i].User = true → Least (l.take (i + 1)) A o l[i].User) ∧
    (¬ (aft o l[i].User ∧ (v = ByteArray.empty ∨ sLt l[i].User v = true) ∧ A l[i].User = true) → Least (l.take (i + 1)) A o v) := by
  have hw : ∀ u, Who (l.take (i + 1)) A u ↔ Who (l.take i) A u ∨ (l[i].User = u ∧ A u = true) := by
    intro u
    unfold Who
    rw [mem_take_succ hi (fun g => g.User = u)]
    constructor
    · rintro ⟨h | h, h'⟩
      · exact .inl ⟨h, h'⟩
      · exact .inr ⟨h, h'⟩
    · rintro (⟨h, h'⟩ | ⟨h, h'⟩)
      · exact ⟨.inl h, h'⟩
      · exact ⟨.inr h, h'⟩
  refine ⟨fun h1 h2 h3 => .inr ⟨hne, (hw _).2 (.inr ⟨rfl, h3⟩), h1, fun u hu ha => ?_⟩, fun hn => ?_⟩
  · rcases (hw u).1 hu with h4 | ⟨h4, _⟩
    · rcases h with ⟨_, h5⟩ | ⟨h6, _, _, h5⟩
      · exact absurd ha (h5 u h4)
      · rcases h2 with h2 | h2
        · exact absurd h2 h6
        · rcases h5 u h4 ha with rfl | h7
          · exact .inr h2
          · exact .inr (sLt_trans h2 h7)
    · exact .inl h4.symm
  · rcases h with ⟨h5, h6⟩ | ⟨h5, h6, h7, h8⟩
    · refine .inl ⟨h5, fun u hu ha => ?_⟩
      rcases (hw u).1 hu with h4 | ⟨h4, h9⟩
      · exact h6 u h4 ha
      · subst h4
        exact hn ⟨ha, .inl h5, h9⟩
    · refine .inr ⟨h5, (hw v).2 (.inl h6), h7, fun u hu ha => ?_⟩
      rcases (hw u).1 hu with h4 | ⟨h4, h9⟩
      · exact h8 u h4 ha
      · subst h4
        rcases sLt_tri v l[i].User with q | q | q
        · exact .inr q
        · exact .inl q.symm
        · exact absurd ⟨ha, .inr q, h9⟩ hn

/-- Whether u is taken up. -/
def upB (o : List ByteArray) (v u : ByteArray) (b : Bool) : Bool :=
  (decide ((o.length : Int) = 0) || !(sLt u (o.getD (o.length - 1) ByteArray.empty) || sEq u (o.getD (o.length - 1) ByteArray.empty))) && (sEq v ByteArray.empty || sLt u v) && b

theorem upB_iff (o : List ByteArray) (ho : o.Pairwise (fun a b => sLt a b = true)) (v u : ByteArray) (b : Bool) : upB o v u b = true ↔ aft o u ∧ (v = ByteArray.empty ∨ sLt u v = true) ∧ b = true := by
  unfold upB
  rw [Bool.and_eq_true, Bool.and_eq_true, Bool.or_eq_true, Bool.or_eq_true, sEq_iff]
  have : (decide ((o.length : Int) = 0) = true ∨ (!(sLt u (o.getD (o.length - 1) ByteArray.empty) || sEq u (o.getD (o.length - 1) ByteArray.empty))) = true) ↔ aft o u := by
    by_cases h0 : o.length = 0
    · have ha : aft o u := by rw [List.length_eq_zero_iff.1 h0]; intro x hx; cases hx
      simp [h0, ha]
    · rw [last_aft o ho (by omega)]
      have : ¬ ((o.length : Int) = 0) := by omega
      simp only [this, decide_false, Bool.false_eq_true, false_or, Bool.not_eq_true', Bool.or_eq_false_iff]
      constructor
      · rintro ⟨h1, h2⟩
        rcases sLt_tri u (o.getD (o.length - 1) ByteArray.empty) with q | q | q
        · rw [h1] at q; cases q
        · rw [(sEq_iff _ _).2 q] at h2; cases h2
        · exact q
      · intro h
        refine ⟨?_, ?_⟩
        · cases q : sLt u (o.getD (o.length - 1) ByteArray.empty) with
          | false => rfl
          | true => have := sLt_trans h q; rw [sLt_irrefl] at this; cases this
        · rw [sEq_false]
          intro he
          rw [he, sLt_irrefl] at h; cases h
  rw [this, and_assoc]

theorem wpred (n : Nat) (h : n ≤ 1000) (h0 : 0 < n) : IntKind.wrap .i64 ((n : Int) - 1) = ((n - 1 : Nat) : Int) := by
  have e : ((n : Int) - 1) = ((n - 1 : Nat) : Int) := by omega
  rw [e]
  rcases Nat.eq_zero_or_pos (n - 1) with h1 | h1
  · rw [h1]; rfl
  · have := wsucc (n - 1 - 1) (by omega)
    have e2 : ((n - 1 - 1 : Nat) : Int) + 1 = ((n - 1 : Nat) : Int) := by omega
    rw [e2] at this
    rw [this]
    congr 1; omega

theorem inner_l (roles : List SRole) (grants : List SGrant) (hl : grants.length ≤ 20) (a : Int) (ob : ByteArray) (t : Int) (A : ByteArray → Bool) (hA : ∀ u, chargenetref39_Allowed 1000 roles grants u a ob t = some (A u))
    (hAe : A ByteArray.empty = false) (o : List ByteArray) (ho : o.Pairwise (fun a b => sLt a b = true)) (hol : o.length ≤ 20) (K : List ByteArray → Option (List ByteArray)) :
    ∀ (n i : Nat) (v : ByteArray), i ≤ grants.length → grants.length < n + i → Least (grants.take i) A o v →
      ∃ v', Least grants A o v' ∧ chargenetref39_Users_l207 1000 roles grants a ob t o K n v (i : Int) = chargenetref39_Users_p158 o K v'
  | 0, i, v, h1, h2, _ => by omega
  | n + 1, i, v, h1, h2, h => by
    simp only [chargenetref39_Users_l207, chargenetref39_Users_b207, chargenetref39_Users_p210]
    by_cases hi : i < grants.length
    · have e1 : decide ((i : Int) < (grants.length : Int)) = true := by simpa using hi
      have ih := fun v hv => inner_l roles grants hl a ob t A hA hAe o ho hol K n (i + 1) v (by omega) (by omega) hv
      rw [e1, cond_true, guard_pos (by omega)]
      simp only [getD_nat grants _ i hi, wsucc i (by omega), hA, Option.bind_some]
      have key : ∀ X Y : Option (List ByteArray), (bif decide ((o.length : Int) = 0) then (bif sEq v ByteArray.empty then (bif A grants[i].User then X else Y) else (bif sLt grants[i].User v then (bif A grants[i].User then X else Y) else Y))
          else E.guard ((0 : Int) ≤ IntKind.wrap .i64 ((o.length : Int) - 1) ∧ IntKind.wrap .i64 ((o.length : Int) - 1) < (o.length : Int)) (bif !(sLt grants[i].User (o.getD (IntKind.wrap .i64 ((o.length : Int) - 1)).toNat ByteArray.empty) || sEq grants[i].User (o.getD (IntKind.wrap .i64 ((o.length : Int) - 1)).toNat ByteArray.empty)) then
            (bif sEq v ByteArray.empty then (bif A grants[i].User then X else Y) else (bif sLt grants[i].User v then (bif A grants[i].User then X else Y) else Y)) else Y)) = bif upB o v grants[i].User (A grants[i].User) then X else Y := by
        intro X Y
        unfold upB
        by_cases h0 : o.length = 0
        · rw [show decide ((o.length : Int) = 0) = true by simpa using h0]
          cases sEq v ByteArray.empty <;> cases sLt grants[i].User v <;> cases A grants[i].User <;> rfl
        · rw [show decide ((o.length : Int) = 0) = false by simp; simpa using h0, wpred _ (by omega) (by omega), cond_false, guard_pos (by omega), Int.toNat_natCast]
          cases sLt grants[i].User (o.getD (o.length - 1) ByteArray.empty) <;> cases sEq grants[i].User (o.getD (o.length - 1) ByteArray.empty) <;> cases sEq v ByteArray.empty <;> cases sLt grants[i].User v <;> cases A grants[i].User <;> rfl
      rw [key]
      by_cases hue : grants[i].User = ByteArray.empty
      · -- a user without a name may nothing
        have hAu : A grants[i].User = false := by rw [hue]; exact hAe
        have hst : Least (grants.take (i + 1)) A o v := by
          have hw : ∀ u, Who (grants.take (i + 1)) A u ↔ Who (grants.take i) A u := by
            intro u
            unfold Who
            rw [mem_take_succ hi (fun g => g.User = u)]
            constructor
            · rintro ⟨h | h, h'⟩
              · exact ⟨h, h'⟩
              · rw [← h, hAu] at h'; cases h'
            · rintro ⟨h, h'⟩; exact ⟨.inl h, h'⟩
          unfold Least at h ⊢
          simp only [hw]
          exact h
        rw [show upB o v grants[i].User (A grants[i].User) = false by unfold upB; rw [hAu, Bool.and_false]]
        exact ih v hst
      · obtain ⟨s1, s2⟩ := least_step grants A o v i hi hue h
        cases hc : upB o v grants[i].User (A grants[i].User) with
        | true =>
          obtain ⟨c1, c2, c3⟩ := (upB_iff o ho v _ _).1 hc
          exact ih _ (s1 c1 c2 c3)
        | false =>
          refine ih _ (s2 fun hh => ?_)
          rw [(upB_iff o ho v _ _).2 hh] at hc; cases hc
    · have e1 : decide ((i : Int) < (grants.length : Int)) = false := by simp; omega
      rw [e1, cond_false]
      rw [List.take_of_length_le (by omega)] at h
      exact ⟨v, h, rfl⟩

theorem asc_nodup {o : List ByteArray} (ho : o.Pairwise (fun a b => sLt a b = true)) : o.Nodup :=
  ho.imp (fun h he => by rw [he, sLt_irrefl] at h; cases h)

theorem outer_l (roles : List SRole) (grants : List SGrant) (hl : grants.length ≤ 20) (a : Int) (ob : ByteArray) (t : Int) (A : ByteArray → Bool) (hA : ∀ u, chargenetref39_Allowed 1000 roles grants u a ob t = some (A u))
    (hAe : A ByteArray.empty = false) : ∀ (n : Nat) (o : List ByteArray), 22 ≤ n + o.length → o.Pairwise (fun a b => sLt a b = true) → (∀ u, u ∈ o → Who grants A u) → (∀ u, Who grants A u → u ∈ o ∨ aft o u) →
      ∃ R, chargenetref39_Users_l154 1000 roles grants a ob t n o = some R ∧ R.Pairwise (fun a b => sLt a b = true) ∧ ∀ u, u ∈ R ↔ Who grants A u := by
  intro n
  have hsmall : ∀ o : List ByteArray, o.Pairwise (fun a b => sLt a b = true) → (∀ u, u ∈ o → Who grants A u) → o.length ≤ 20 := by
    intro o ho h
    have : o.length ≤ (grants.map SGrant.User).length := List.Nodup.length_le_of_subset (asc_nodup ho) (fun u hu => by
      obtain ⟨⟨g, hg, he⟩, _⟩ := h u hu
      exact List.mem_map.2 ⟨g, hg, he⟩)
    rw [List.length_map] at this
    omega
  induction n with
  | zero => intro o h1 ho h2 _; have := hsmall o ho h2; omega
  | succ n ih =>
    intro o h1 ho h2 h3
    have hol := hsmall o ho h2
    obtain ⟨v, hv, he⟩ := inner_l roles grants hl a ob t A hA hAe o ho hol (fun o => chargenetref39_Users_l154 1000 roles grants a ob t n o) 1000 0 ByteArray.empty (by omega) (by omega) (.inl ⟨rfl, fun u hu => by obtain ⟨⟨g, hg, _⟩, _⟩ := hu; simp at hg⟩)
    simp only [chargenetref39_Users_l154, chargenetref39_Users_b154]
    simp only [Int.natCast_zero] at he
    rw [he]
    unfold chargenetref39_Users_p158
    rcases hv with ⟨h4, h5⟩ | ⟨h4, h5, h6, h7⟩
    · rw [h4, sEq_self]
      refine ⟨o, rfl, ho, fun u => ⟨h2 u, fun hu => (h3 u hu).elim id (fun ha => absurd ha (h5 u hu))⟩⟩
    · rw [(sEq_false _ _).2 h4, cond_false, guard_pos (by simp; omega)]
      refine ih (o ++ [v]) (by simp; omega) ?_ (fun u hu => ?_) (fun u hu => ?_)
      · rw [List.pairwise_append]
        refine ⟨ho, by simp, fun x hx y hy => ?_⟩
        simp only [List.mem_singleton] at hy
        subst hy
        exact h6 x hx
      · rcases List.mem_append.1 hu with h | h
        · exact h2 u h
        · simp only [List.mem_singleton] at h
          subst h; exact h5
      · rcases h3 u hu with h | h
        · exact .inl (List.mem_append.2 (.inl h))
        · rcases h7 u hu h with rfl | h8
          · exact .inl (List.mem_append.2 (.inr (by simp)))
          · refine .inr (fun x hx => ?_)
            rcases List.mem_append.1 hx with hx | hx
            · exact h x hx
            · simp only [List.mem_singleton] at hx
              subst hx; exact h8

/-- Two ascending lists with the same members are one. -/
theorem asc_unique {a b : List ByteArray} (ha : a.Pairwise (fun a b => sLt a b = true)) (hb : b.Pairwise (fun a b => sLt a b = true)) (h : ∀ u, u ∈ a ↔ u ∈ b) : a = b := by
  refine List.Perm.eq_of_pairwise (le := fun a b : ByteArray => sLt a b = true) (fun x y _ _ h1 h2 => ?_) ha hb ((List.perm_ext_iff_of_nodup (asc_nodup ha) (asc_nodup hb)).2 h)
  have := sLt_trans h1 h2
  rw [sLt_irrefl] at this; cases this

theorem sortB_asc (l : List ByteArray) (h : l.Nodup) : (sortB l).Pairwise (fun a b => sLt a b = true) := by
  have h1 := sortB_sorted l
  have h2 : (sortB l).Nodup := (sortB_perm l).nodup_iff.2 h
  refine (h1.and h2).imp (fun {x y} h => ?_)
  obtain ⟨h3, h4⟩ := h
  rcases sLt_tri x y with q | q | q
  · exact q
  · exact absurd q h4
  · exfalso
    have q' : bsL y < bsL x := by
      have : Op.bytesLess (bsL y) (bsL x) = true := q
      rw [bless_lt] at this
      simpa using this
    exact absurd h3 (Std.not_le.2 q')

theorem eq_l (b : List ByteArray) (hl : b.length ≤ 900) : ∀ (n i : Nat), i ≤ b.length → b.length < n + i → chargenetlaw39_AccessUsers_l26 1000 b b n (i : Int) = some true
  | 0, i, h1, h2 => by omega
  | n + 1, i, h1, h2 => by
    simp only [chargenetlaw39_AccessUsers_l26, chargenetlaw39_AccessUsers_b26]
    by_cases hi : i < b.length
    · have e1 : decide ((i : Int) < (b.length : Int)) = true := by simpa using hi
      rw [e1, cond_true, guard_pos (by omega), guard_pos (by omega), wsucc i (by omega), eq_l b hl n (i + 1) (by omega) (by omega), sEq_self]
      rfl
    · have e1 : decide ((i : Int) < (b.length : Int)) = false := by simp; omega
      rw [e1, cond_false]
      unfold chargenetlaw39_AccessUsers_p16
      rw [example_ok]; rfl

theorem plain_chargenetlaw39_AccessUsers (a0 : SCase) (a1 : SAsk) (w0 : okSCase a0) (w1 : okSAsk a1) : ∃ F, chargenetlaw39_AccessUsers F a0 a1 = some true := by
  refine ⟨1000, ?_⟩
  unfold chargenetlaw39_AccessUsers
  rw [example_ok]
  rcases small_eq a0 with h | ⟨h, hs, _⟩
  · rw [h]; rfl
  · rw [h]
    simp only [Option.bind_some, Bool.not_true, cond_false]
    by_cases h20 : (20 : Int) < (a0.Grants.length : Int)
    · rw [show decide ((20 : Int) < (a0.Grants.length : Int)) = true by simpa using h20]; rfl
    · have hl : a0.Grants.length ≤ 20 := by omega
      rw [show decide ((20 : Int) < (a0.Grants.length : Int)) = false by simpa using h20, cond_false]
      obtain ⟨A, hAd⟩ : ∃ A : ByteArray → Bool, ∀ u, A u = if vE a0.Roles a0.Grants = 0 then alS a0.Roles a0.Grants u a1.Action a1.Object a1.Now false else false := ⟨_, fun _ => rfl⟩
      have hA : ∀ u, chargenetref39_Allowed 1000 a0.Roles a0.Grants u a1.Action a1.Object a1.Now = some (A u) := fun u => by rw [ref_allowed_eq _ _ hs, hAd]
      have hAe : A ByteArray.empty = false := by
        rw [hAd]
        split
        · rename_i h0
          unfold alS
          have : a0.Grants.any (alw a0.Roles ByteArray.empty a1.Action a1.Object a1.Now) = false := by
            rw [List.any_eq_false]
            intro g hg hh
            obtain ⟨i, hi, rfl⟩ := List.getElem_of_mem hg
            have := (gE_span _ _ _ (((vE_zero _ _).1 h0).2.2.2 i hi)).1
            unfold alw app at hh
            simp only [Bool.and_eq_true] at hh
            rw [(sEq_iff _ _).1 hh.1.1] at this
            exact absurd this (by rw [idB_empty]; decide)
          rw [this]; simp
        · rfl
      obtain ⟨R, hR, hR2, hR3⟩ := outer_l a0.Roles a0.Grants hl a1.Action a1.Object a1.Now A hA hAe 1000 [] (by simp) List.Pairwise.nil (fun u hu => by cases hu) (fun u _ => .inr (fun x hx => by cases hx))
      have hb : chargenetref39_Users 1000 a0.Roles a0.Grants a1.Action a1.Object a1.Now = some R := hR
      have ha : access_Users 1000 a0.Roles a0.Grants a1.Action a1.Object a1.Now = some R := by
        unfold access_Users
        rw [valid_eq _ _ hs, Option.bind_some]
        by_cases h0 : vE a0.Roles a0.Grants = 0
        · obtain ⟨k, hk1, hk2⟩ := byName_eq a0.Roles (by have := hs.1; omega)
          obtain ⟨L, hL1, hL2, hL3⟩ := users_l a0.Grants hl a1.Action a1.Object a1.Now k A (fun u => by rw [allowed_known _ _ hs h0 k hk2, hAd, if_pos h0]) 1000 0 [] [] (by omega) (by omega) (fun s => by rw [show alook ([] : List (ByteArray × Bool)) s = none from rfl]; simp) List.nodup_nil (fun u => by simp [Who]) (by simp)
          rw [h0, hk1]
          simp only [Int.natCast_zero] at hL1
          simp only [decide_true, Bool.not_true, cond_false, Option.bind_some, hL1]
          congr 1
          refine asc_unique (sortB_asc L hL2) hR2 (fun u => ?_)
          rw [(sortB_perm L).mem_iff, hL3, hR3]
        · rw [show decide (vE a0.Roles a0.Grants = 0) = false by simpa using h0]
          have : R = [] := by
            apply List.eq_nil_iff_forall_not_mem.2
            intro u hu
            have := ((hR3 u).1 hu).2
            rw [hAd, if_neg h0] at this; cases this
          rw [this]; rfl
      have hRl : R.length ≤ 900 := by
        have : R.length ≤ (a0.Grants.map SGrant.User).length := List.Nodup.length_le_of_subset (asc_nodup hR2) (fun u hu => by
          obtain ⟨⟨g, hg, he⟩, _⟩ := (hR3 u).1 hu
          exact List.mem_map.2 ⟨g, hg, he⟩)
        rw [List.length_map] at this
        omega
      have := eq_l R hRl 1000 0 (by omega) (by omega)
      simp only [Int.natCast_zero] at this
      rw [ha, hb]
      simp [this]
end Go.Proofs.Ytggfgdohbeoabaa.M
