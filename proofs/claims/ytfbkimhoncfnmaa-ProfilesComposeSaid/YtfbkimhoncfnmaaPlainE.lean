/- The plain law of ComposeSeries: the composed limits within a span, found by jumps from change to change, are those of every minute. -/
import Derived.Test.YtfbkimhoncfnmaaPlainD
namespace Go.Proofs.Ytfbkimhoncfnmaa.M
open Go Go.Proofs.Ytfbkimhoncfnmaa.E Go.Proofs.Ytfbkimhoncfnmaa.W
set_option linter.unusedVariables false
set_option linter.unusedSimpArgs false

/-- The composed limit. -/
def G (l : List SProfile) (start u : Int) : Int := lmt (dec l start u)

theorem ld_same (pu start u w : Int) : ∀ (l : List SProfile) (b : Option SLead), (∀ p ∈ l, lim p start u = lim p start w) → l.foldl (stp pu start u) b = l.foldl (stp pu start w) b
  | [], b, h => rfl
  | p :: l, b, h => by
    rw [List.foldl_cons, List.foldl_cons]
    have : stp pu start u b p = stp pu start w b p := by unfold stp; rw [h p (List.mem_cons_self ..)]
    rw [this]
    exact ld_same pu start u w l _ (fun q hq => h q (List.mem_cons_of_mem _ hq))

theorem G_same (l : List SProfile) (start u w : Int) (h : ∀ p ∈ l, lim p start u = lim p start w) : G l start u = G l start w := by
  unfold G dec ses ld
  rw [ld_same 1 start u w l none h, ld_same 2 start u w l none h, ld_same 3 start u w l none h]

theorem G_step (l : List SProfile) (start u : Int) (h : ∀ p ∈ l, ¬ chg p start u) : G l start u = G l start (u - 1) :=
  (G_same l start (u - 1) u (fun p hp => by
    have := h p hp
    unfold chg at this
    exact Decidable.not_not.1 this)).symm

/-! ### Pauses -/
/-- Up to e from t on, p only recurs. -/
structure Quiet (p : SProfile) (start t e : Int) : Prop where
  fr : cyc p.Kind ≠ 0 → t < p.Span_From → e ≤ p.Span_From
  nx : cyc p.Kind = 0 → ∀ u, t < u → u ≤ 268435456 → chg p start u → e ≤ u
  to : t < p.Span_To → e ≤ p.Span_To
  st : t < p.Start → e ≤ p.Start

theorem Quiet.less {p : SProfile} {start t e e' : Int} (h : Quiet p start t e) (he : e' ≤ e) : Quiet p start t e' :=
  ⟨fun a b => Int.le_trans he (h.fr a b), fun a u b c d => Int.le_trans he (h.nx a u b c d), fun a => Int.le_trans he (h.to a), fun a => Int.le_trans he (h.st a)⟩

def mn (t b c : Int) : Int := if t < c then (if c < b then c else b) else b
theorem mn_spec (t b c : Int) (h : t < b) : t < mn t b c ∧ mn t b c ≤ b ∧ (t < c → mn t b c ≤ c) := by
  unfold mn; split <;> (try split) <;> omega

theorem pause_87 (l : List SProfile) (t t15 : Int) (kl : Int → Int → Option Int) (b0 : Int) (p : SProfile) (hp : l.getD t15.toNat dSProfile = p) (hT : 0 ≤ t15 ∧ t15 < 1000) (best : Int) (n : Nat) :
    compose_pause_l87 l t t15 kl b0 (n + 4) best 0 = kl (mn t (mn t (mn t best b0) p.Span_To) p.Start) (t15 + 1) := by
  have hw : IntKind.wrap .i64 (t15 + 1) = t15 + 1 := Go.IntWalk.i64_in _ (by omega)
  have key : ∀ (b c : Int) (X : Int → Option Int), (bif decide (t < c) then (bif decide (c < b) then X c else X b) else X b) = X (mn t b c) := by
    intro b c X
    unfold mn
    by_cases h1 : t < c
    · rw [decide_eq_true h1, if_pos h1, cond_true]
      by_cases h2 : c < b
      · rw [decide_eq_true h2, if_pos h2]; rfl
      · rw [decide_eq_false h2, if_neg h2]; rfl
    · rw [decide_eq_false h1, if_neg h1]; rfl
  rw [compose_pause_l87]; unfold compose_pause_b87
  rw [hp]
  have g0 : ∀ X : Option Int, E.guard ((0 : Int) ≤ 0 ∧ (0 : Int) < 3) X = X := fun X => guard_pos (by omega)
  have g1 : ∀ X : Option Int, E.guard ((0 : Int) ≤ 1 ∧ (1 : Int) < 3) X = X := fun X => guard_pos (by omega)
  have g2 : ∀ X : Option Int, E.guard ((0 : Int) ≤ 2 ∧ (2 : Int) < 3) X = X := fun X => guard_pos (by omega)
  have w1 : IntKind.wrap .i64 ((0 : Int) + 1) = 1 := by rfl
  have w2 : IntKind.wrap .i64 ((1 : Int) + 1) = 2 := by rfl
  have w3 : IntKind.wrap .i64 ((2 : Int) + 1) = 3 := by rfl
  unfold compose_pause_p90
  rw [show decide ((0 : Int) < 3) = true from rfl, cond_true, g0, w1]
  rw [show ([b0, p.Span_To, p.Start] : List Int).getD ((0 : Int)).toNat 0 = b0 from rfl]
  rw [key best b0 (fun b => compose_pause_l87 l t t15 kl b0 (n + 3) b 1)]
  rw [compose_pause_l87]; unfold compose_pause_b87
  rw [hp]
  unfold compose_pause_p90
  rw [show decide ((1 : Int) < 3) = true from rfl, cond_true, g1, w2]
  rw [show ([b0, p.Span_To, p.Start] : List Int).getD ((1 : Int)).toNat 0 = p.Span_To from rfl]
  rw [key _ p.Span_To (fun b => compose_pause_l87 l t t15 kl b0 (n + 2) b 2)]
  rw [compose_pause_l87]; unfold compose_pause_b87
  rw [hp]
  unfold compose_pause_p90
  rw [show decide ((2 : Int) < 3) = true from rfl, cond_true, g2, w3]
  rw [show ([b0, p.Span_To, p.Start] : List Int).getD ((2 : Int)).toNat 0 = p.Start from rfl]
  rw [key _ p.Start (fun b => compose_pause_l87 l t t15 kl b0 (n + 1) b 3)]
  rw [compose_pause_l87]; unfold compose_pause_b87
  rw [show decide ((3 : Int) < 3) = false from rfl, cond_false]
  unfold compose_pause_p70
  rw [hw]

theorem pause_l (l : List SProfile) (hl : l.length ≤ 100) (hv : ∀ p ∈ l, VOk p) (start t : Int) (hs : -9223372036854775808 ≤ start ∧ start ≤ 9223372036854775807) (ht : 0 ≤ t ∧ t ≤ 268435456) : ∀ (n i : Nat) (best : Int), i ≤ l.length → l.length < n + i → t < best → best ≤ 268435457 →
    (∀ j (hj : j < l.length), j < i → Quiet l[j] start t best) → ∃ e, compose_pause_l67 300000060 l start t n best (i : Int) = some e ∧ t < e ∧ e ≤ 268435457 ∧ ∀ p ∈ l, Quiet p start t e
  | 0, i, best, h1, h2, _, _, _ => by omega
  | n + 1, i, best, h1, h2, hb, hb2, hq => by
    simp only [compose_pause_l67, compose_pause_b67]
    by_cases hi : i < l.length
    · have e1 : decide ((i : Int) < (l.length : Int)) = true := by simpa using hi
      have hvi := hv l[i] (List.getElem_mem hi)
      obtain ⟨r, hr1, hr2⟩ := prof_next l[i] hvi start t hs ht
      have hgi : l.getD ((i : Int)).toNat dSProfile = l[i] := getD_nat l _ i hi
      have h94 : ∀ b0, compose_pause_p94 300000060 l t best (i : Int) (fun best_34 t15_35 => compose_pause_l67 300000060 l start t n best_34 t15_35) b0 = compose_pause_l67 300000060 l start t n (mn t (mn t (mn t best b0) l[i].Span_To) l[i].Start) ((i + 1 : Nat) : Int) := by
        intro b0
        unfold compose_pause_p94
        exact pause_87 l t (i : Int) _ b0 l[i] hgi (by omega) best 300000056
      rw [e1, cond_true, guard_pos (by omega), hgi, hr1, Option.bind_some, h94, h94]
      have hfin : ∀ b0, (cyc l[i].Kind ≠ 0 → b0 = l[i].Span_From) → (cyc l[i].Kind = 0 → b0 = r) →
          ∃ e, compose_pause_l67 300000060 l start t n (mn t (mn t (mn t best b0) l[i].Span_To) l[i].Start) ((i + 1 : Nat) : Int) = some e ∧ t < e ∧ e ≤ 268435457 ∧ ∀ p ∈ l, Quiet p start t e := by
        intro b0 hb0 hb1
        obtain ⟨m1, m2, m3⟩ := mn_spec t best b0 hb
        obtain ⟨m4, m5, m6⟩ := mn_spec t (mn t best b0) l[i].Span_To m1
        obtain ⟨m7, m8, m9⟩ := mn_spec t (mn t (mn t best b0) l[i].Span_To) l[i].Start m4
        refine pause_l l hl hv start t hs ht n (i + 1) _ (by omega) (by omega) m7 (by omega) (fun j hj hji => ?_)
        by_cases hjj : j = i
        · subst hjj
          refine ⟨fun hc hf => ?_, fun hc u hu hu2 hch => ?_, fun h => ?_, fun h => ?_⟩
          · have := m3 (by rw [hb0 hc]; exact hf)
            rw [hb0 hc] at this m8 m5
            rw [hb0 hc]
            omega
          · have hbr := hb1 hc
            rcases hr2 with ⟨_, hno⟩ | ⟨h3, h4, h5, h6⟩
            · exact absurd hch (hno u hu hu2)
            · have h7 := m3 (by rw [hbr]; exact h3)
              have h8 : r ≤ u := by
                by_cases h : u < r
                · exact absurd hch (h6 u hu h)
                · omega
              rw [hbr] at h7 m8 m5 ⊢
              omega
          · have := m6 h; omega
          · exact m9 h
        · exact (hq j hj (by omega)).less (by omega)
      have hcc := cyc_cases l[i].Kind
      by_cases k2 : l[i].Kind = 2
      · rw [show decide (l[i].Kind = 2) = true by simpa using k2]
        exact hfin _ (fun _ => rfl) (fun h => by omega)
      · rw [show decide (l[i].Kind = 2) = false by simpa using k2]
        by_cases k3 : l[i].Kind = 3
        · rw [show decide (l[i].Kind = 3) = true by simpa using k3]
          exact hfin _ (fun _ => rfl) (fun h => by omega)
        · rw [show decide (l[i].Kind = 3) = false by simpa using k3]
          exact hfin r (fun h => by omega) (fun _ => rfl)
    · have e1 : decide ((i : Int) < (l.length : Int)) = false := by simp; omega
      rw [e1, cond_false]
      refine ⟨best, rfl, hb, hb2, fun p hp => ?_⟩
      obtain ⟨j, hj, rfl⟩ := List.getElem_of_mem hp
      exact hq j hj (by omega)

theorem pause_eq (l : List SProfile) (hl : l.length ≤ 100) (hv : ∀ p ∈ l, VOk p) (start t : Int) (hs : -9223372036854775808 ≤ start ∧ start ≤ 9223372036854775807) (ht : 0 ≤ t ∧ t ≤ 268435456) :
    ∃ e, compose_pause 300000060 l start t = some e ∧ t < e ∧ e ≤ 268435457 ∧ ∀ p ∈ l, Quiet p start t e := by
  have := pause_l l hl hv start t hs ht 300000060 0 268435457 (by omega) (by omega) (by omega) (by omega) (fun j hj h => by omega)
  unfold compose_pause
  simpa only [Int.natCast_zero] using this

/-! ### The next changes of the profiles -/
/-- p does not change behind t before a. -/
def Fst (p : SProfile) (start t a : Int) : Prop := t < a ∧ a ≤ 268435457 ∧ ∀ u, t < u → u < a → ¬ chg p start u

theorem Fst.later {p : SProfile} {start t t' a : Int} (h : Fst p start t a) (h1 : t ≤ t') (h2 : t' < a) : Fst p start t' a := ⟨h2, h.2.1, fun u h3 h4 => h.2.2 u (by omega) h4⟩

def AH (l : List SProfile) (start t : Int) (ah : List Int) : Prop := ah.length = l.length ∧ ∀ j (hj : j < l.length), ah.getD j 0 ≤ t ∨ Fst l[j] start t (ah.getD j 0)

theorem earliest_l (l : List SProfile) (hl : l.length ≤ 100) (hv : ∀ p ∈ l, VOk p) (start t : Int) (hs : -9223372036854775808 ≤ start ∧ start ≤ 9223372036854775807) (ht : 0 ≤ t ∧ t ≤ 268435456) : ∀ (n i : Nat) (best : Int) (ah : List Int), i ≤ l.length → l.length < n + i → AH l start t ah → t < best → best ≤ 268435457 →
    (∀ j (hj : j < l.length), j < i → Fst l[j] start t (ah.getD j 0) ∧ best ≤ ah.getD j 0) →
    ∃ c ah', compose_earliest_l33 300000060 l start t n best (i : Int) ah = some (c, ah') ∧ t < c ∧ c ≤ 268435457 ∧ AH l start t ah' ∧ ∀ p ∈ l, ∀ u, t < u → u < c → ¬ chg p start u
  | 0, i, best, ah, h1, h2, _, _, _, _ => by omega
  | n + 1, i, best, ah, h1, h2, ha, hb, hb2, hq => by
    obtain ⟨hlen, hah⟩ := ha
    simp only [compose_earliest_l33, compose_earliest_b33]
    by_cases hi : i < l.length
    · have e1 : decide ((i : Int) < (l.length : Int)) = true := by simpa using hi
      have hvi := hv l[i] (List.getElem_mem hi)
      obtain ⟨r, hr1, hr2⟩ := prof_next l[i] hvi start t hs ht
      have hgi : l.getD ((i : Int)).toNat dSProfile = l[i] := getD_nat l _ i hi
      -- what comes behind the entry of i is right
      have h38 : ∀ ah2 : List Int, ah2.length = l.length → Fst l[i] start t (ah2.getD i 0) → (∀ j, j < l.length → j ≠ i → ah2.getD j 0 = ah.getD j 0) →
          ∃ c ah', compose_earliest_p38 best (i : Int) (fun best_17 t14_18 o0_19 => compose_earliest_l33 300000060 l start t n best_17 t14_18 o0_19) ah2 = some (c, ah') ∧ t < c ∧ c ≤ 268435457 ∧ AH l start t ah' ∧ ∀ p ∈ l, ∀ u, t < u → u < c → ¬ chg p start u := by
        intro ah2 hlen2 hf hoth
        unfold compose_earliest_p38
        rw [guard_pos (by omega), wsucc i (by omega), Int.toNat_natCast]
        have hah2 : AH l start t ah2 := ⟨hlen2, fun j hj => by
          by_cases hji : j = i
          · subst hji; exact .inr hf
          · rw [hoth j hj hji]; exact hah j hj⟩
        refine earliest_l l hl hv start t hs ht n (i + 1) _ ah2 (by omega) (by omega) hah2 ?_ ?_ (fun j hj hji => ?_)
        · split
          · exact hf.1
          · exact hb
        · split <;> omega
        · by_cases hjj : j = i
          · subst hjj
            refine ⟨hf, ?_⟩
            split <;> omega
          · obtain ⟨h3, h4⟩ := hq j hj (by omega)
            rw [hoth j hj hjj]
            refine ⟨h3, ?_⟩
            split <;> omega
      rw [e1, cond_true, guard_pos (by omega), guard_pos (by omega), hgi, hr1, Int.toNat_natCast]
      by_cases hst : ah.getD i 0 ≤ t
      · rw [decide_eq_true hst, cond_true, Option.bind_some, guard_pos (by omega), guard_pos (by simp; omega)]
        have hset : (ah.set i r).getD i 0 = r := by simp [List.getD, show i < ah.length by omega]
        have hoth : ∀ (x : Int) (j : Nat), j ≠ i → (ah.set i x).getD j 0 = ah.getD j 0 := by
          intro x j hj
          simp [List.getD, List.getElem?_set_ne (Ne.symm hj)]
        rw [hset]
        rcases hr2 with ⟨h3, h4⟩ | ⟨h3, h4, h5, h6⟩
        · rw [decide_eq_true (show r < 0 by omega), cond_true, guard_pos (by simp; omega), List.set_set]
          refine h38 _ (by simpa using hlen) ?_ (fun j hj hji => hoth _ j hji)
          have : (ah.set i 268435457).getD i 0 = 268435457 := by simp [List.getD, show i < ah.length by omega]
          rw [this]
          exact ⟨by omega, by omega, fun u h7 h8 => h4 u h7 (by omega)⟩
        · rw [decide_eq_false (show ¬ r < 0 by omega), cond_false]
          refine h38 _ (by simpa using hlen) ?_ (fun j hj hji => hoth _ j hji)
          rw [hset]
          exact ⟨h3, by omega, h6⟩
      · rw [decide_eq_false hst, cond_false]
        exact h38 ah hlen ((hah i hi).resolve_left hst) (fun _ _ _ => rfl)
    · have e1 : decide ((i : Int) < (l.length : Int)) = false := by simp; omega
      rw [e1, cond_false]
      refine ⟨best, ah, rfl, hb, hb2, ⟨hlen, hah⟩, fun p hp u h3 h4 => ?_⟩
      obtain ⟨j, hj, rfl⟩ := List.getElem_of_mem hp
      obtain ⟨h5, h6⟩ := hq j hj (by omega)
      exact h5.2.2 u h3 (by omega)

theorem earliest_eq (l : List SProfile) (hl : l.length ≤ 100) (hv : ∀ p ∈ l, VOk p) (start t : Int) (hs : -9223372036854775808 ≤ start ∧ start ≤ 9223372036854775807) (ht : 0 ≤ t ∧ t ≤ 268435456) (ah : List Int) (ha : AH l start t ah) :
    ∃ c ah', compose_earliest 300000060 l start t ah = some (c, ah') ∧ t < c ∧ c ≤ 268435457 ∧ AH l start t ah' ∧ ∀ p ∈ l, ∀ u, t < u → u < c → ¬ chg p start u := by
  have := earliest_l l hl hv start t hs ht 300000060 0 268435457 ah (by omega) (by omega) ha (by omega) (by omega) (fun j hj h => by omega)
  unfold compose_earliest
  simpa only [Int.natCast_zero] using this

/-! ### All limits recur weekly within a pause -/
theorem week (p : SProfile) (v : VOk p) (start b e x : Int) (hq : Quiet p start b e) (hb : 0 ≤ b) (he : e ≤ 268435457) (hx : b ≤ x) (hxe : x + 10080 < e) : lim p start (x + 10080) = lim p start x := by
  have hcc := cyc_cases p.Kind
  by_cases hc : cyc p.Kind = 0
  · have h1 : ∀ y, b ≤ y → y < e → lim p start y = lim p start b := fun y hy hye => lim_const' p start b y hy (fun u h3 h4 hch => by
      have := hq.nx hc u h3 (by omega) hch
      omega)
    rw [h1 _ (by omega) hxe, h1 x hx (by omega)]
  · have horg : org p start = p.Start := by unfold org; rw [if_neg (by omega)]
    by_cases h1 : x < p.Span_From
    · have := hq.fr hc (by omega)
      unfold lim
      rw [if_pos (by omega), if_pos h1]
    · by_cases h2 : p.Span_To ≠ -1 ∧ p.Span_To ≤ x
      · unfold lim
        rw [if_neg (by omega), if_pos ⟨h2.1, by omega⟩, if_neg h1, if_pos h2]
      · have h2' : p.Span_To = -1 ∨ x + 10080 < p.Span_To := by
          by_cases h3 : p.Span_To = -1
          · exact .inl h3
          · have := hq.to (by omega)
            exact .inr (by omega)
        by_cases h4 : x < org p start
        · have := hq.st (by omega)
          unfold lim
          rw [if_neg (by omega), if_neg (by omega), if_pos (by omega), if_neg h1, if_neg h2, if_pos h4]
        · rcases hcc with hcc | hcc | hcc
          · exact absurd hcc.1 hc
          · have st : ∀ y, x ≤ y → y + 1440 ≤ x + 10080 → lim p start (y + 1440) = lim p start y := by
              intro y hy hy2
              have := lim_per_add p start y (by omega) (by omega) (by omega) hc
              rw [hcc.1] at this
              exact this
            rw [show x + 10080 = x + 1440 + 1440 + 1440 + 1440 + 1440 + 1440 + 1440 by omega, st _ (by omega) (by omega), st _ (by omega) (by omega), st _ (by omega) (by omega), st _ (by omega) (by omega), st _ (by omega) (by omega), st _ (by omega) (by omega), st _ (by omega) (by omega)]
          · have := lim_per_add p start x (by omega) (by omega) (by omega) hc
            rw [hcc.1] at this
            exact this

/-- If nothing has changed for more than a week from b on, nothing changes before the pause ends. -/
theorem quiet_on (l : List SProfile) (hv : ∀ p ∈ l, VOk p) (start b e c : Int) (hq : ∀ p ∈ l, Quiet p start b e) (hb : 0 ≤ b) (he : e ≤ 268435457) (hc : 10080 < c - b) (h : ∀ u, b < u → u < c → G l start u = G l start (u - 1)) :
    ∀ (n : Nat) (u : Int), u ≤ b + n → b < u → u < e → G l start u = G l start (u - 1) := by
  intro n
  induction n using Nat.strongRecOn with
  | _ n ih =>
    intro u hn hu hue
    by_cases huc : u < c
    · exact h u hu huc
    · have h1 : G l start u = G l start (u - 10080) := by
        have := G_same l start (u - 10080 + 10080) (u - 10080) (fun p hp => week p (hv p hp) start b e (u - 10080) (hq p hp) hb he (by omega) (by omega))
        rwa [show u - 10080 + 10080 = u by omega] at this
      have h2 : G l start (u - 1) = G l start (u - 10080 - 1) := by
        have := G_same l start (u - 10080 - 1 + 10080) (u - 10080 - 1) (fun p hp => week p (hv p hp) start b e (u - 10080 - 1) (hq p hp) hb he (by omega) (by omega))
        rwa [show u - 10080 - 1 + 10080 = u - 1 by omega] at this
      rw [h1, h2]
      exact ih (n - 10080) (by omega) (u - 10080) (by omega) (by omega) (by omega)

/-- What next returns. -/
def NextG (l : List SProfile) (start t last r : Int) : Prop :=
  (r = -1 ∧ ∀ u, t < u → u ≤ last → G l start u = G l start (u - 1)) ∨ (t < r ∧ r ≤ last ∧ G l start r ≠ G l start (r - 1) ∧ ∀ u, t < u → u < r → G l start u = G l start (u - 1))

theorem next_c (l : List SProfile) (hl : l.length ≤ 100) (hv : ∀ p ∈ l, VOk p) (start t0 last : Int) (hs : -9223372036854775808 ≤ start ∧ start ≤ 9223372036854775807) (h0 : 0 ≤ t0) (hlast : last ≤ 268435456) : ∀ (n : Nat) (t b e : Int) (ah : List Int), t0 ≤ t → t ≤ 268435456 → (∀ u, t0 < u → u ≤ t → G l start u = G l start (u - 1)) →
    t0 ≤ b → b ≤ t → t < e → e ≤ 268435457 → (∀ p ∈ l, Quiet p start b e) → AH l start t ah → last - t < n ∧ 0 < n → ∃ r, compose_next_l48 300000060 l start last n t b e ah = some r ∧ NextG l start t0 last r
  | 0, t, b, e, ah, h1, h1', h2, h3, h4, h5, h6, h7, h8, h9 => by omega
  | n + 1, t, b, e, ah, h1, h1', h2, h3, h4, h5, h6, h7, h8, h9 => by
    simp only [compose_next_l48, compose_next_b48, compose_next_p5]
    by_cases hlt : t < last
    · rw [decide_eq_true hlt, cond_true]
      obtain ⟨c0, ah', he1, he2, he3, he4, he5⟩ := earliest_eq l hl hv start t hs (by omega) ah h8
      have hw : IntKind.wrap .i64 (c0 - b) = c0 - b := Go.IntWalk.i64_in _ (by omega)
      rw [he1, Option.bind_some, guard_pos (by rw [he4.1, h8.1]), hw]
      have h10 : ∀ u, t0 < u → u < c0 → G l start u = G l start (u - 1) := fun u h11 h12 => by
        by_cases h13 : u ≤ t
        · exact h2 u h11 h13
        · exact G_step l start u (fun p hp => he5 p hp u (by omega) h12)
      -- from c on
      have h63 : ∀ c, t < c → c ≤ e → (c < e → c ≤ c0) → (∀ u, t0 < u → u < c → G l start u = G l start (u - 1)) →
          ∃ r, compose_next_p63 300000060 l start last b e (fun t_27 begin_28 end_29 o0_30 => compose_next_l48 300000060 l start last n t_27 begin_28 end_29 o0_30) (c0, ah') c = some r ∧ NextG l start t0 last r := by
        intro c hc1 hc2 hc3 hc4
        unfold compose_next_p63
        by_cases hcl : last < c
        · rw [decide_eq_true hcl]
          exact ⟨-1, rfl, .inl ⟨rfl, fun u h11 h12 => hc4 u h11 (by omega)⟩⟩
        · have hw1 : IntKind.wrap .i64 (c - 1) = c - 1 := Go.IntWalk.i64_in _ (by omega)
          rw [decide_eq_false hcl, cond_false, limit_c l hl hv start c hs (by omega), hw1, limit_c l hl hv start (c - 1) hs (by omega), Option.bind_some, Option.bind_some]
          by_cases hg : lmt (dec l start c) = lmt (dec l start (c - 1))
          · rw [show decide (lmt (dec l start c) = lmt (dec l start (c - 1))) = true by simpa using hg, Bool.not_true, cond_false]
            have h14 : ∀ u, t0 < u → u ≤ c → G l start u = G l start (u - 1) := fun u h11 h12 => by
              by_cases h13 : u < c
              · exact hc4 u h11 h13
              · have : u = c := by omega
                subst this; exact hg
            have hah : AH l start c ah' := ⟨he4.1, fun j hj => by
              rcases he4.2 j hj with h15 | h15
              · exact .inl (by omega)
              · by_cases h16 : ah'.getD j 0 ≤ c
                · exact .inl h16
                · exact .inr (h15.later (by omega) (by omega))⟩
            by_cases hce : c = e
            · obtain ⟨e', hp1, hp2, hp3, hp4⟩ := pause_eq l hl hv start c hs (by omega)
              rw [show decide (c = e) = true by simpa using hce, cond_true, hp1, Option.bind_some]
              exact next_c l hl hv start t0 last hs h0 hlast n c c e' ah' (by omega) (by omega) h14 (by omega) (by omega) hp2 hp3 hp4 hah (by omega)
            · rw [show decide (c = e) = false by simpa using hce, cond_false]
              exact next_c l hl hv start t0 last hs h0 hlast n c b e ah' (by omega) (by omega) h14 h3 (by omega) (by omega) h6 h7 hah (by omega)
          · rw [show decide (lmt (dec l start c) = lmt (dec l start (c - 1))) = false by simpa using hg]
            exact ⟨c, rfl, .inr ⟨by omega, by omega, hg, hc4⟩⟩
      by_cases k1 : e < c0
      · rw [decide_eq_true k1, cond_true]
        exact h63 e h5 (Int.le_refl _) (fun h => by omega) (fun u h11 h12 => h10 u h11 (by omega))
      · rw [decide_eq_false k1, cond_false]
        by_cases k2 : 10080 < c0 - b
        · rw [decide_eq_true k2, cond_true]
          refine h63 e h5 (Int.le_refl _) (fun h => by omega) (fun u h11 h12 => ?_)
          by_cases h13 : u < c0
          · exact h10 u h11 h13
          · exact quiet_on l hv start b e c0 h7 (by omega) h6 k2 (fun w h14 h15 => h10 w (by omega) h15) (u - b).toNat u (by omega) (by omega) h12
        · rw [decide_eq_false k2, cond_false]
          exact h63 c0 he2 (by omega) (fun _ => Int.le_refl _) h10
    · rw [decide_eq_false hlt]
      exact ⟨-1, rfl, .inl ⟨rfl, fun u h11 h12 => h2 u h11 (by omega)⟩⟩

theorem next_eq (l : List SProfile) (hl : l.length ≤ 100) (hv : ∀ p ∈ l, VOk p) (start t last : Int) (hs : -9223372036854775808 ≤ start ∧ start ≤ 9223372036854775807) (ht : 0 ≤ t ∧ t ≤ 268435456) (hlast : last ≤ 268435456) :
    ∃ r, compose_next 300000060 l start t last = some r ∧ NextG l start t last r := by
  unfold compose_next compose_next_p66
  obtain ⟨e, hp1, hp2, hp3, hp4⟩ := pause_eq l hl hv start t hs ht
  rw [decide_eq_false (show ¬ t < 0 by omega), cond_false, hp1, Option.bind_some, guard_pos (by omega)]
  refine next_c l hl hv start t last hs ht.1 hlast 300000060 t t e _ (Int.le_refl _) ht.2 (fun u h1 h2 => by omega) (Int.le_refl _) (Int.le_refl _) hp2 hp3 hp4 ⟨by simp, fun j hj => .inl ?_⟩ (by omega)
  have : (List.replicate ((l.length : Int)).toNat (0 : Int)).getD j 0 = 0 := by rw [List.getD_eq_getElem?_getD, List.getElem?_replicate]; split <;> rfl
  rw [this]; exact ht.1

/-! ### The series -/
/-- The steps of g from t on, m minutes; v is the last value. -/
def R (g : Int → Int) : Nat → Int → Option Int → List SStep
  | 0, _, _ => []
  | n + 1, t, v => if v = some (g t) then R g n (t + 1) v else SStep.mk t (g t) :: R g n (t + 1) (some (g t))
def fin (L : List SStep) : List SStep × Int := if 512 < L.length then ([], 3) else (L, 0)

theorem R_skip (g : Int → Int) (x : Int) : ∀ (k m : Nat) (t : Int), (∀ u, t ≤ u → u < t + k → g u = x) → R g (k + m) t (some x) = R g m (t + k) (some x)
  | 0, m, t, h => by simp
  | k + 1, m, t, h => by
    rw [show k + 1 + m = (k + m) + 1 by omega, R, if_pos (by rw [h t (by omega) (by omega)])]
    rw [R_skip g x k m (t + 1) (fun u h1 h2 => h u (by omega) (by omega))]
    congr 1; omega

theorem R_len (g : Int → Int) : ∀ (m : Nat) (t : Int) (v : Option Int), (R g m t v).length ≤ m
  | 0, _, _ => by simp [R]
  | n + 1, t, v => by
    rw [R]
    split
    · have := R_len g n (t + 1) v; omega
    · have := R_len g n (t + 1) (some (g t)); simp; omega

theorem series_c (l : List SProfile) (hl : l.length ≤ 100) (hv : ∀ p ∈ l, VOk p) (start : Int) (s : SSpan) (hs : -9223372036854775808 ≤ start ∧ start ≤ 9223372036854775807) (hto : s.To ≤ 268435456) :
    ∀ (n m : Nat) (t : Int) (o : List SStep), 0 ≤ t → s.To = t + m + 1 → m + 1 < n → o.length ≤ 512 → compose_Series_l27 300000060 start s l n t o = some (fin (o ++ SStep.mk t (G l start t) :: R (G l start) m (t + 1) (some (G l start t))))
  | 0, m, t, o, h1, h2, h3, h4 => by omega
  | n + 1, m, t, o, h1, h2, h3, h4 => by
    have hw : IntKind.wrap .i64 (s.To - 1) = s.To - 1 := Go.IntWalk.i64_in _ (by omega)
    have hrl := R_len (G l start) m (t + 1) (some (G l start t))
    simp only [compose_Series_l27, compose_Series_b27]
    rw [decide_eq_true h1, decide_eq_true (show t < s.To by omega), cond_true, cond_true]
    by_cases h5 : o.length = 512
    · rw [decide_eq_true (by omega), cond_true]
      unfold fin
      rw [if_pos (by simp; omega)]
    · rw [decide_eq_false (by omega), cond_false, limit_c l hl hv start t hs (by omega), Option.bind_some, guard_pos (by simp; omega), hw]
      obtain ⟨r, hr1, hr2⟩ := next_eq l hl hv start t (s.To - 1) hs (by omega) (by omega)
      rw [hr1, Option.bind_some]
      show compose_Series_l27 300000060 start s l n r (o ++ [SStep.mk t (G l start t)]) = _
      have hconst : ∀ k : Nat, (∀ u, t < u → u < t + 1 + k → G l start u = G l start (u - 1)) → ∀ u, t + 1 ≤ u → u < t + 1 + k → G l start u = G l start t := by
        intro k h u h6 h7
        have key : ∀ (j : Nat), t + j < t + 1 + k → G l start (t + j) = G l start t := by
          intro j
          induction j with
          | zero => intro _; simp
          | succ j ih =>
            intro hj
            rw [h (t + (j + 1 : Nat)) (by omega) hj, show t + ((j + 1 : Nat) : Int) - 1 = t + j by omega]
            exact ih (by omega)
        have := key (u - t).toNat (by omega)
        rwa [show t + (((u - t).toNat : Nat) : Int) = u by omega] at this
      rcases hr2 with ⟨h6, h7⟩ | ⟨h6, h7, h8, h9⟩
      · subst h6
        have e1 : R (G l start) m (t + 1) (some (G l start t)) = [] := by
          have := R_skip (G l start) (G l start t) m 0 (t + 1) (hconst m (fun u h8 h9 => h7 u h8 (by omega)))
          simpa [R] using this
        rw [e1]
        cases n with
        | zero => omega
        | succ n =>
          simp only [compose_Series_l27, compose_Series_b27, compose_Series_p8]
          rw [decide_eq_false (show ¬ (0 : Int) ≤ -1 by omega), cond_false]
          unfold fin
          rw [if_neg (by simp; omega)]
      · obtain ⟨k, hk⟩ : ∃ k : Nat, r = t + 1 + k := ⟨(r - t - 1).toNat, by omega⟩
        obtain ⟨q, hq⟩ : ∃ q : Nat, m = k + (q + 1) := ⟨m - k - 1, by omega⟩
        have e1 : R (G l start) m (t + 1) (some (G l start t)) = SStep.mk r (G l start r) :: R (G l start) q (r + 1) (some (G l start r)) := by
          rw [hq, R_skip (G l start) (G l start t) k (q + 1) (t + 1) (hconst k (fun u h10 h11 => h9 u h10 (by omega))), ← hk, R, if_neg]
          intro h10
          have h11 : G l start t = G l start r := Option.some.inj h10
          have h12 : G l start (r - 1) = G l start t := by
            by_cases hk0 : k = 0
            · congr 1; omega
            · exact hconst k (fun u h10 h11 => h9 u h10 (by omega)) (r - 1) (by omega) (by omega)
          exact h8 (by rw [h12]; exact h11.symm)
        rw [e1, series_c l hl hv start s hs hto n q r _ (by omega) (by omega) (by omega) (by simp; omega)]
        simp

theorem series_0 (l : List SProfile) (start : Int) (s : SSpan) (t : Int) (h1 : 0 ≤ t) (h2 : s.To ≤ t) (n : Nat) : compose_Series_l27 300000060 start s l (n + 1) t [] = some ([], 0) := by
  simp only [compose_Series_l27, compose_Series_b27, compose_Series_p8]
  rw [decide_eq_true h1, decide_eq_false (show ¬ t < s.To by omega)]; rfl
theorem fin_len (L : List SStep) : (fin L).1.length ≤ 512 := by
  unfold fin; split
  · simp
  · simp only; omega

end Go.Proofs.Ytfbkimhoncfnmaa.M
