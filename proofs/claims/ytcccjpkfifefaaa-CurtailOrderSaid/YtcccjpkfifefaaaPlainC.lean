/- Plain laws of chapter 13: the limit at a time; where it changes; both functions Next return the next such time. -/
import Derived.Test.YtcccjpkfifefaaaPlainB
namespace Go.Proofs.Ytcccjpkfifefaaa.M
open Go Go.Proofs.Ytcccjpkfifefaaa.E Go.Proofs.Ytcccjpkfifefaaa.W
set_option linter.unusedVariables false
set_option linter.unusedSimpArgs false

def act (c : SCurtail) (t : Int) : Prop := c.Cancelled = false ∧ c.Span_From ≤ t ∧ t < c.Span_To
instance (c : SCurtail) (t : Int) : Decidable (act c t) := inferInstanceAs (Decidable (_ ∧ _))
def stp (f t lim : Int) (c : SCurtail) : Int := if c.Feeder = f ∧ act c t then (if c.Total < lim then c.Total else lim) else lim
def atS (l : List SCurtail) (f t : Int) : Int := l.foldl (stp f t) 1073741824

theorem at_l (l : List SCurtail) (h : l.length ≤ 900) (f t : Int) : ∀ (n i : Nat) (lim : Int), i ≤ l.length → l.length < n + i → curtail_At_l21 l f t n lim (i : Int) = some ((l.drop i).foldl (stp f t) lim)
  | 0, i, lim, h1, h2 => by omega
  | n + 1, i, lim, h1, h2 => by
    simp only [curtail_At_l21, curtail_At_b21]
    by_cases hi : i < l.length
    · have e1 : decide ((i : Int) < (l.length : Int)) = true := by simpa using hi
      rw [e1, cond_true, guard_pos (by omega), getD_nat l _ i hi, List.drop_eq_getElem_cons hi, List.foldl_cons]
      simp only [curtail_At_p24, wsucc i (by omega)]
      have hs : stp f t lim l[i] = if l[i].Feeder = f ∧ act l[i] t then (if l[i].Total < lim then l[i].Total else lim) else lim := rfl
      rw [at_l l h f t n (i + 1) _ (by omega) (by omega), at_l l h f t n (i + 1) _ (by omega) (by omega)]
      unfold act at hs
      by_cases a1 : l[i].Feeder = f <;> cases a2 : l[i].Cancelled <;> by_cases a3 : l[i].Span_From ≤ t <;> by_cases a4 : t < l[i].Span_To <;> simp [a1, a2, a3, a4] at hs ⊢ <;> rw [hs]
    · have e1 : decide ((i : Int) < (l.length : Int)) = false := by simp; omega
      rw [e1, cond_false, List.drop_eq_nil_of_le (by omega)]; rfl

theorem at_eq (l : List SCurtail) (h : l.length ≤ 900) (f t : Int) : curtail_At 1000 l f t = some (atS l f t) := by
  have := at_l l h f t 1000 0 1073741824 (by omega) (by omega)
  unfold curtail_At atS; simpa only [Int.natCast_zero, List.drop_zero] using this

theorem ref_at_l (l : List SCurtail) (f t : Int) : ∀ (n : Nat) (a b : Int), chargenetref13_At_l21 l f t n a b = curtail_At_l21 l f t n a b
  | 0, _, _ => rfl
  | n + 1, a, b => by
    simp only [chargenetref13_At_l21, chargenetref13_At_b21, curtail_At_l21, curtail_At_b21, chargenetref13_At_p24, curtail_At_p24, ref_at_l l f t n]
    rfl
theorem ref_at_eq (l : List SCurtail) (h : l.length ≤ 900) (f t : Int) : chargenetref13_At 1000 l f t = some (atS l f t) := by
  rw [← at_eq l h]
  exact ref_at_l l f t 1000 _ _

/-- Some feeder's limit is another than a minute before. -/
def Chg (l : List SCurtail) (u : Int) : Prop := ∃ f, 0 ≤ f ∧ f < 32 ∧ atS l f u ≠ atS l f (u - 1)

theorem fold_same (f u v : Int) : ∀ (l : List SCurtail) (lim : Int), (∀ c ∈ l, c.Feeder = f → (act c u ↔ act c v)) → l.foldl (stp f u) lim = l.foldl (stp f v) lim
  | [], _, _ => rfl
  | c :: l, lim, h => by
    have hc : stp f u lim c = stp f v lim c := by
      unfold stp
      by_cases a : c.Feeder = f
      · have := h c (List.mem_cons_self ..) a
        simp only [a, true_and, this]
      · simp [a]
    rw [List.foldl_cons, List.foldl_cons, hc]
    exact fold_same f u v l _ (fun d hd => h d (List.mem_cons_of_mem _ hd))

theorem chg_event (l : List SCurtail) (f u : Int) (h : atS l f u ≠ atS l f (u - 1)) : ∃ c ∈ l, c.Feeder = f ∧ c.Cancelled = false ∧ (c.Span_From = u ∨ c.Span_To = u) := by
  apply Decidable.byContradiction
  intro hn
  apply h
  refine fold_same f u (u - 1) l _ (fun c hc hf => ?_)
  unfold act
  cases hcc : c.Cancelled with
  | true => simp
  | false =>
    have h1 : c.Span_From ≠ u := fun he => hn ⟨c, hc, hf, hcc, .inl he⟩
    have h2 : c.Span_To ≠ u := fun he => hn ⟨c, hc, hf, hcc, .inr he⟩
    simp only [true_and]
    omega

def Lim13 (l : List SCurtail) : Prop := l.length ≤ 64 ∧ ∀ x ∈ l, Ok x

theorem chg_range (l : List SCurtail) (hl : Lim13 l) (u : Int) (h : Chg l u) : 0 ≤ u ∧ u ≤ 268435456 := by
  obtain ⟨f, _, _, hf⟩ := h
  obtain ⟨c, hc, _, _, hu⟩ := chg_event l f u hf
  have := (hl.2 c hc).span
  omega

theorem changes_l (l : List SCurtail) (hl : Lim13 l) (u : Int) (hu : 0 ≤ u ∧ u ≤ 268435456) : ∀ (n f : Nat), f ≤ 32 → 32 < n + f → ∃ b, chargenetref13_changes_l15 1000 l u n (f : Int) = some b ∧ (b = true ↔ ∃ g : Int, (f : Int) ≤ g ∧ g < 32 ∧ atS l g u ≠ atS l g (u - 1))
  | 0, f, h1, h2 => by omega
  | n + 1, f, h1, h2 => by
    have hlen := hl.1
    simp only [chargenetref13_changes_l15, chargenetref13_changes_b15]
    by_cases hf : f < 32
    · have e1 : decide ((f : Int) < 32) = true := by simp; omega
      have w1 : IntKind.wrap .i64 (u - 1) = u - 1 := Go.IntWalk.i64_in _ (by omega)
      obtain ⟨b, hb, hbi⟩ := changes_l l hl u hu n (f + 1) (by omega) (by omega)
      rw [e1, cond_true, ref_at_eq l (by omega), w1, ref_at_eq l (by omega), wsucc f (by omega), hb]
      simp only [Option.bind_some]
      by_cases he : atS l (f : Int) u = atS l (f : Int) (u - 1)
      · rw [show decide (atS l (f : Int) u = atS l (f : Int) (u - 1)) = true by simpa using he]
        refine ⟨b, rfl, ?_⟩
        rw [hbi]
        constructor
        · rintro ⟨g, g1, g2, g3⟩; exact ⟨g, by omega, g2, g3⟩
        · rintro ⟨g, g1, g2, g3⟩
          refine ⟨g, ?_, g2, g3⟩
          have : g ≠ (f : Int) := by rintro rfl; exact g3 he
          omega
      · rw [show decide (atS l (f : Int) u = atS l (f : Int) (u - 1)) = false by simpa using he]
        exact ⟨true, rfl, by simp; exact ⟨(f : Int), by omega, by omega, he⟩⟩
    · have e1 : decide ((f : Int) < 32) = false := by simp; omega
      rw [e1, cond_false]
      refine ⟨false, rfl, ?_⟩
      constructor
      · intro h; cases h
      · rintro ⟨g, g1, g2, _⟩; omega

theorem changes_eq (l : List SCurtail) (hl : Lim13 l) (u : Int) (hu : 0 ≤ u ∧ u ≤ 268435456) : ∃ b, chargenetref13_changes 1000 l u = some b ∧ (b = true ↔ Chg l u) := by
  obtain ⟨b, hb, hbi⟩ := changes_l l hl u hu 1000 0 (by omega) (by omega)
  exact ⟨b, by unfold chargenetref13_changes; simpa only [Int.natCast_zero] using hb, by rw [hbi]; unfold Chg; simp⟩

theorem differs_l (l : List SCurtail) (hl : Lim13 l) (u : Int) (hu : 0 ≤ u ∧ u ≤ 268435456) : ∀ (n i : Nat), i ≤ l.length → l.length < n + i → ∃ b, curtail_differs_l25 1000 l u n (i : Int) = some b ∧ (b = true ↔ ∃ c ∈ l.drop i, (c.Span_From = u ∨ c.Span_To = u) ∧ atS l c.Feeder u ≠ atS l c.Feeder (u - 1))
  | 0, i, h1, h2 => by omega
  | n + 1, i, h1, h2 => by
    have hlen := hl.1
    simp only [curtail_differs_l25, curtail_differs_b25]
    by_cases hi : i < l.length
    · have e1 : decide ((i : Int) < (l.length : Int)) = true := by simpa using hi
      have w1 : IntKind.wrap .i64 (u - 1) = u - 1 := Go.IntWalk.i64_in _ (by omega)
      obtain ⟨b, hb, hbi⟩ := differs_l l hl u hu n (i + 1) (by omega) (by omega)
      rw [e1, cond_true, guard_pos (by omega), getD_nat l _ i hi, List.drop_eq_getElem_cons hi]
      have h27 : curtail_differs_p27 (i : Int) (fun t9_13 => curtail_differs_l25 1000 l u n t9_13) = some b := by
        unfold curtail_differs_p27
        rw [wsucc i (by omega)]; exact hb
      have h34 : curtail_differs_p34 1000 l u (i : Int) (fun t9_13 => curtail_differs_l25 1000 l u n t9_13) = some (if atS l l[i].Feeder u = atS l l[i].Feeder (u - 1) then b else true) := by
        unfold curtail_differs_p34
        rw [getD_nat l _ i hi, at_eq l (by omega), w1, at_eq l (by omega), h27]
        simp only [Option.bind_some]
        by_cases he : atS l l[i].Feeder u = atS l l[i].Feeder (u - 1) <;> simp [he]
      rw [h27, h34]
      by_cases hm : l[i].Span_From = u ∨ l[i].Span_To = u
      · have hbif : (bif !decide (l[i].Span_From = u) then bif !decide (l[i].Span_To = u) then some b else some (if atS l l[i].Feeder u = atS l l[i].Feeder (u - 1) then b else true) else some (if atS l l[i].Feeder u = atS l l[i].Feeder (u - 1) then b else true)) = some (if atS l l[i].Feeder u = atS l l[i].Feeder (u - 1) then b else true) := by
          rcases hm with hm | hm
          · simp [hm]
          · by_cases h3 : l[i].Span_From = u <;> simp [hm, h3]
        rw [hbif]
        refine ⟨_, rfl, ?_⟩
        by_cases he : atS l l[i].Feeder u = atS l l[i].Feeder (u - 1)
        · rw [if_pos he, hbi]
          constructor
          · rintro ⟨c, hc, h⟩; exact ⟨c, List.mem_cons_of_mem _ hc, h⟩
          · rintro ⟨c, hc, h⟩
            rcases List.mem_cons.1 hc with rfl | hc
            · exact absurd he h.2
            · exact ⟨c, hc, h⟩
        · rw [if_neg he]
          simp only [true_iff]
          exact ⟨l[i], List.mem_cons_self .., hm, he⟩
      · have h1 : ¬ l[i].Span_From = u := fun h => hm (.inl h)
        have h2 : ¬ l[i].Span_To = u := fun h => hm (.inr h)
        simp only [h1, h2, decide_false, Bool.not_false, cond_true]
        refine ⟨b, rfl, ?_⟩
        rw [hbi]
        constructor
        · rintro ⟨c, hc, h⟩; exact ⟨c, List.mem_cons_of_mem _ hc, h⟩
        · rintro ⟨c, hc, h⟩
          rcases List.mem_cons.1 hc with rfl | hc
          · exact absurd h.1 hm
          · exact ⟨c, hc, h⟩
    · have e1 : decide ((i : Int) < (l.length : Int)) = false := by simp; omega
      rw [e1, cond_false, List.drop_eq_nil_of_le (by omega)]
      exact ⟨false, rfl, by simp⟩

theorem differs_eq (l : List SCurtail) (hl : Lim13 l) (u : Int) (hu : 0 ≤ u ∧ u ≤ 268435456) : ∃ b, curtail_differs 1000 l u = some b ∧ (b = true ↔ Chg l u) := by
  obtain ⟨b, hb, hbi⟩ := differs_l l hl u hu 1000 0 (by omega) (by have := hl.1; omega)
  refine ⟨b, by unfold curtail_differs; simpa only [Int.natCast_zero] using hb, ?_⟩
  rw [hbi, List.drop_zero]
  constructor
  · rintro ⟨c, hc, _, h⟩
    have := (hl.2 c hc).feeder
    exact ⟨c.Feeder, this.1, this.2, h⟩
  · rintro ⟨f, _, _, h⟩
    obtain ⟨c, hc, hf, _, hu⟩ := chg_event l f u h
    exact ⟨c, hc, hu, by rw [hf]; exact h⟩

def IsNext (l : List SCurtail) (t r : Int) : Prop := (r = -1 ∧ ∀ u, t < u → ¬ Chg l u) ∨ (0 ≤ r ∧ t < r ∧ Chg l r ∧ ∀ u, t < u → u < r → ¬ Chg l u)

theorem isNext_unique (l : List SCurtail) (t r r' : Int) (h1 : IsNext l t r) (h2 : IsNext l t r') : r = r' := by
  rcases h1 with ⟨rfl, h1⟩ | ⟨a0, a, b, c⟩ <;> rcases h2 with ⟨rfl, h2⟩ | ⟨a0', a', b', c'⟩
  · rfl
  · exact absurd b' (h1 _ a')
  · exact absurd b (h2 _ a)
  · rcases Int.lt_trichotomy r r' with h | h | h
    · exact absurd b (c' _ a h)
    · exact h
    · exact absurd b' (c _ a' h)

/-! ### The reference's Next -/
def tm (l : List SCurtail) (i : Nat) : Int := if i % 2 = 1 then (l.getD (i / 2) dSCurtail).Span_To else (l.getD (i / 2) dSCurtail).Span_From

def Best (l : List SCurtail) (t best : Int) (i : Nat) : Prop :=
  (best = -1 ∨ (0 ≤ best ∧ t < best ∧ Chg l best)) ∧ ∀ j, j < i → t < tm l j → Chg l (tm l j) → 0 ≤ best ∧ best ≤ tm l j

theorem tm_range (l : List SCurtail) (hl : Lim13 l) (i : Nat) (h : i < 2 * l.length) : 0 ≤ tm l i ∧ tm l i ≤ 268435456 := by
  have hi : i / 2 < l.length := by omega
  have := (hl.2 (l[i / 2]) (List.getElem_mem hi)).span
  unfold tm
  have e : l.getD (i / 2) dSCurtail = l[i / 2] := by simp [List.getD_eq_getElem?_getD, hi]
  rw [e]
  split <;> omega

theorem ref_next_l (l : List SCurtail) (hl : Lim13 l) (t : Int) : ∀ (n i : Nat) (best : Int), i ≤ 2 * l.length → 2 * l.length < n + i → Best l t best i → ∃ r, chargenetref13_Next_l39 1000 l t n best (i : Int) = some r ∧ Best l t r (2 * l.length)
  | 0, i, best, h1, h2, _ => by omega
  | n + 1, i, best, h1, h2, hb => by
    have hlen := hl.1
    simp only [chargenetref13_Next_l39, chargenetref13_Next_b39]
    have w0 : IntKind.wrap .i64 (2 * (l.length : Int)) = ((2 * l.length : Nat) : Int) := by rw [Go.IntWalk.i64_in _ (by omega)]; omega
    have w1 : IntKind.wrap .i64 (Int.tdiv (i : Int) 2) = ((i / 2 : Nat) : Int) := by
      have : Int.tdiv (i : Int) 2 = ((i / 2 : Nat) : Int) := by rw [Int.tdiv_eq_ediv_of_nonneg (by omega)]; omega
      rw [this, Go.IntWalk.i64_in _ (by omega)]
    have w2 : Int.tmod (i : Int) 2 = ((i % 2 : Nat) : Int) := by rw [Int.tmod_eq_emod_of_nonneg (by omega)]; omega
    rw [w0, w1, w2]
    by_cases hi : i < 2 * l.length
    · have e1 : decide ((i : Int) < ((2 * l.length : Nat) : Int)) = true := by simp; omega
      have htr := tm_range l hl i hi
      rw [e1, cond_true, guard_pos (by omega), guard_pos (by omega)]
      have hat : ∀ x, x = tm l i → ∃ r, chargenetref13_Next_p54 1000 l t best (i : Int) (fun best_20 i_21 => chargenetref13_Next_l39 1000 l t n best_20 i_21) x = some r ∧ Best l t r (2 * l.length) := by
        intro x hx
        have go : ∀ b', Best l t b' (i + 1) → ∃ r, chargenetref13_Next_p42 (i : Int) (fun best_20 i_21 => chargenetref13_Next_l39 1000 l t n best_20 i_21) b' = some r ∧ Best l t r (2 * l.length) := by
          intro b' hb'
          unfold chargenetref13_Next_p42
          rw [wsucc i (by omega)]
          exact ref_next_l l hl t n (i + 1) b' (by omega) (by omega) hb'
        obtain ⟨cb, hcb, hcbi⟩ := changes_eq l hl x (by omega)
        have keep : (t < x → Chg l x → 0 ≤ best ∧ best ≤ x) → Best l t best (i + 1) := by
          intro hk
          refine ⟨hb.1, fun j hj h3 h4 => ?_⟩
          by_cases hji : j = i
          · subst hji; rw [← hx] at h3 h4 ⊢; exact hk h3 h4
          · exact hb.2 j (by omega) h3 h4
        have take : t < x → Chg l x → (best < 0 ∨ x < best) → Best l t x (i + 1) := by
          intro h3 h4 h5
          refine ⟨.inr ⟨by omega, h3, h4⟩, fun j hj h6 h7 => ?_⟩
          by_cases hji : j = i
          · subst hji; omega
          · have := hb.2 j (by omega) h6 h7
            omega
        unfold chargenetref13_Next_p54
        rw [hcb]
        simp only [Option.bind_some]
        by_cases a1 : t < x
        · by_cases a2 : best < 0
          · cases cb with
            | true => simp only [a1, a2, decide_true, cond_true]; exact go x (take a1 (hcbi.1 rfl) (.inl a2))
            | false =>
              simp only [a1, a2, decide_true, cond_true, cond_false]
              exact go best (keep (fun _ h => by have := hcbi.2 h; cases this))
          · by_cases a3 : x < best
            · cases cb with
              | true => simp only [a1, a2, a3, decide_true, decide_false, cond_true, cond_false]; exact go x (take a1 (hcbi.1 rfl) (.inr a3))
              | false =>
                simp only [a1, a2, a3, decide_true, decide_false, cond_true, cond_false]
                exact go best (keep (fun _ h => by have := hcbi.2 h; cases this))
            · simp only [a1, a2, a3, decide_true, decide_false, cond_true, cond_false]
              exact go best (keep (fun _ _ => by omega))
        · simp only [a1, decide_false, cond_false]
          exact go best (keep (fun h _ => absurd h a1))
      have hg : l.getD (((i / 2 : Nat) : Int)).toNat dSCurtail = l.getD (i / 2) dSCurtail := by rw [Int.toNat_natCast]
      rw [hg]
      by_cases hodd : i % 2 = 1
      · have : decide (((i % 2 : Nat) : Int) = 1) = true := by simp; omega
        rw [this, cond_true]
        exact hat _ (by unfold tm; rw [if_pos hodd])
      · have : decide (((i % 2 : Nat) : Int) = 1) = false := by simp; omega
        rw [this, cond_false]
        exact hat _ (by unfold tm; rw [if_neg hodd])
    · have e1 : decide ((i : Int) < ((2 * l.length : Nat) : Int)) = false := by simp; omega
      rw [e1, cond_false]
      have : i = 2 * l.length := by omega
      subst this
      exact ⟨best, rfl, hb⟩

theorem chg_tm (l : List SCurtail) (u : Int) (h : Chg l u) : ∃ j, j < 2 * l.length ∧ tm l j = u := by
  obtain ⟨f, _, _, hf⟩ := h
  obtain ⟨c, hc, _, _, hu⟩ := chg_event l f u hf
  obtain ⟨k, hk, rfl⟩ := List.getElem_of_mem hc
  rcases hu with hu | hu
  · refine ⟨2 * k, by omega, ?_⟩
    unfold tm
    rw [if_neg (by omega), show 2 * k / 2 = k by omega, List.getD_eq_getElem?_getD, List.getElem?_eq_getElem hk]; exact hu
  · refine ⟨2 * k + 1, by omega, ?_⟩
    unfold tm
    rw [if_pos (by omega), show (2 * k + 1) / 2 = k by omega, List.getD_eq_getElem?_getD, List.getElem?_eq_getElem hk]; exact hu

theorem ref_next (l : List SCurtail) (hl : Lim13 l) (t : Int) : ∃ r, chargenetref13_Next 1000 l t = some r ∧ IsNext l t r := by
  obtain ⟨r, hr, h1, h2⟩ := ref_next_l l hl t 1000 0 (-1) (by omega) (by have := hl.1; omega) ⟨.inl rfl, fun j hj => absurd hj (by omega)⟩
  refine ⟨r, by unfold chargenetref13_Next; simpa only [Int.natCast_zero] using hr, ?_⟩
  have h3 : ∀ u, t < u → Chg l u → 0 ≤ r ∧ r ≤ u := by
    intro u hu hc
    obtain ⟨j, hj, rfl⟩ := chg_tm l u hc
    exact h2 j hj hu hc
  rcases h1 with h1 | ⟨h1, h4, h5⟩
  · exact .inl ⟨h1, fun u hu hc => by have := h3 u hu hc; omega⟩
  · exact .inr ⟨h1, h4, h5, fun u hu hlt hc => by have := h3 u hu hc; omega⟩
end Go.Proofs.Ytcccjpkfifefaaa.M
