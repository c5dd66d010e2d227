/- Plain laws: the composed limit. -/
import Derived.Test.YtfbkimhoncfnmaaPlainB
namespace Go.Proofs.Ytfbkimhoncfnmaa.M
open Go Go.Proofs.Ytfbkimhoncfnmaa.E Go.Proofs.Ytfbkimhoncfnmaa.W
set_option linter.unusedVariables false
set_option linter.unusedSimpArgs false
theorem sEq_iff (a b : ByteArray) : sEq a b = true ↔ a = b := by
  unfold sEq
  rw [beq_iff_eq]
  constructor
  · intro h
    cases a; cases b
    congr 1
    exact Array.toList_inj.1 h
  · rintro rfl; rfl
def cdB (conn : Int) (txn : ByteArray) (p : SProfile) : Bool :=
  (decide (p.Conn = 0) || decide (p.Conn = conn)) && (!(decide (p.Purpose = 3) && !(sEq p.Txn txn)) && !(sEq txn ByteArray.empty && (decide (p.Purpose = 3) || decide (p.Kind = 4))))
theorem cands_l (l : List SProfile) (hl : l.length ≤ 100) (conn : Int) (txn : ByteArray) : ∀ (n i : Nat) (o : List SProfile), i ≤ l.length → l.length < n + i → o.length ≤ i →
    compose_candidates_l35 l conn txn n (i : Int) o = some (o ++ (l.drop i).filter (cdB conn txn))
  | 0, i, o, h1, h2, h3 => by omega
  | n + 1, i, o, h1, h2, h3 => by
    simp only [compose_candidates_l35, compose_candidates_b35, compose_candidates_p48, compose_candidates_p45, compose_candidates_p41, compose_candidates_p38]
    by_cases hi : i < l.length
    · have e1 : decide ((i : Int) < (l.length : Int)) = true := by simpa using hi
      have ih0 := cands_l l hl conn txn n (i + 1) o (by omega) (by omega) (by omega)
      have ih1 := cands_l l hl conn txn n (i + 1) (o ++ [l[i]]) (by omega) (by omega) (by simp; omega)
      have hg : ∀ X : Option (List SProfile), E.guard ((o.length + [l[i]].length) * 112 ≤ 140737488355328 ∧ o.length + [l[i]].length ≤ 140737488355328) X = X := fun X => guard_pos (by simp; omega)
      rw [e1, cond_true, guard_pos (by omega)]
      simp only [getD_nat l _ i hi, wsucc i (by omega), ih0, ih1, hg]
      rw [List.drop_eq_getElem_cons hi, List.filter_cons]
      unfold cdB
      cases decide (l[i].Conn = 0) <;> cases decide (l[i].Conn = conn) <;> cases decide (l[i].Purpose = 3) <;> cases sEq l[i].Txn txn <;> cases sEq txn ByteArray.empty <;> cases decide (l[i].Kind = 4) <;> simp
    · have e1 : decide ((i : Int) < (l.length : Int)) = false := by simp; omega
      rw [e1, cond_false, List.drop_eq_nil_of_le (by omega)]
      simp [compose_candidates_p2]
theorem cands_eq (l : List SProfile) (hl : l.length ≤ 100) (conn : Int) (txn : ByteArray) : compose_candidates 300000060 l conn txn = some (l.filter (cdB conn txn)) := by
  unfold compose_candidates
  have := cands_l l hl conn txn 300000060 0 [] (by omega) (by omega) (by simp)
  simpa only [Int.natCast_zero, List.drop_zero, List.nil_append] using this
def oI : Option SLead → Int
  | none => 0
  | some x => x.id
def oL : Option SLead → Int
  | none => 0
  | some x => x.level
def oV : Option SLead → Int
  | none => 0
  | some x => x.limit
def better (b : Option SLead) (p : SProfile) : Bool := !b.isSome || (decide (oL b < p.Level) || (decide (p.Level = oL b) && decide (oI b < p.ID)))
def stp (pu start t : Int) (b : Option SLead) (p : SProfile) : Option SLead :=
  bif decide (p.Purpose = pu) && (lim p start t).2 && better b p then some ⟨p.ID, p.Level, (lim p start t).1⟩ else b
def ld (l : List SProfile) (pu start t : Int) : Option SLead := l.foldl (stp pu start t) none
theorem leading_l (l : List SProfile) (hl : l.length ≤ 100) (hv : ∀ p ∈ l, VOk p) (pu start t : Int) (hs : -9223372036854775808 ≤ start ∧ start ≤ 9223372036854775807) (ht : -9223372036854775808 ≤ t ∧ t ≤ 9223372036854775807) : ∀ (n i : Nat) (b : Option SLead), i ≤ l.length → l.length < n + i →
    ∃ r, r = (l.drop i).foldl (stp pu start t) b ∧ compose_leading_f1_31_l35 300000060 l pu start t n b.isSome (i : Int) (oI b) (oL b) (oV b) = some (SLead.mk (oI r) (oL r) (oV r), r.isSome)
  | 0, i, b, h1, h2 => by omega
  | n + 1, i, b, h1, h2 => by
    simp only [compose_leading_f1_31_l35, compose_leading_f1_31_b35, compose_leading_f1_31_p41]
    by_cases hi : i < l.length
    · have e1 : decide ((i : Int) < (l.length : Int)) = true := by simpa using hi
      obtain ⟨r, hr, ih⟩ := leading_l l hl hv pu start t hs ht n (i + 1) (stp pu start t b l[i]) (by omega) (by omega)
      refine ⟨r, by rw [hr, List.drop_eq_getElem_cons hi, List.foldl_cons], ?_⟩
      have hd : compose_determining_1_1 300000060 l[i] pu start t = some (if l[i].Purpose = pu then lim l[i] start t else (0, false)) := by
        unfold compose_determining_1_1
        rw [prof_lim _ (hv _ (List.getElem_mem hi)) start t hs ht]
        by_cases hp : l[i].Purpose = pu <;> simp [hp]
      rw [e1, cond_true, guard_pos (by omega)]
      simp only [getD_nat l _ i hi, wsucc i (by omega), hd, Option.bind_some]
      unfold stp better at ih
      by_cases hp : l[i].Purpose = pu
      · rw [if_pos hp]
        rw [show decide (l[i].Purpose = pu) = true by simpa using hp] at ih
        generalize lim l[i] start t = z at ih ⊢
        obtain ⟨lv, lk⟩ := z
        cases lk
        · simpa using ih
        · cases b with
          | none => simpa [oI, oL, oV] using ih
          | some x =>
            by_cases q1 : x.level < l[i].Level
            · simpa [oI, oL, oV, q1] using ih
            · by_cases q2 : l[i].Level = x.level
              · by_cases q3 : x.id < l[i].ID
                · simpa [oI, oL, oV, q1, q2, q3] using ih
                · simpa [oI, oL, oV, q1, q2, q3] using ih
              · simpa [oI, oL, oV, q1, q2] using ih
      · rw [if_neg hp]
        rw [show decide (l[i].Purpose = pu) = false by simpa using hp] at ih
        simpa using ih
    · have e1 : decide ((i : Int) < (l.length : Int)) = false := by simp; omega
      refine ⟨b, by rw [List.drop_eq_nil_of_le (by omega)]; rfl, ?_⟩
      rw [e1, cond_false]; rfl
theorem determining_1_eq (l : List SProfile) (hl : l.length ≤ 100) (hv : ∀ p ∈ l, VOk p) (pu start t : Int) (hs : -9223372036854775808 ≤ start ∧ start ≤ 9223372036854775807) (ht : -9223372036854775808 ≤ t ∧ t ≤ 9223372036854775807) :
    compose_determining_1 300000060 pu l start t = some (SLead.mk (oI (ld l pu start t)) (oL (ld l pu start t)) (oV (ld l pu start t)), (ld l pu start t).isSome) := by
  unfold compose_determining_1 compose_leading_f1_31
  obtain ⟨r, hr, h⟩ := leading_l l hl hv pu start t hs ht 300000060 0 none (by omega) (by omega)
  simp only [Int.natCast_zero, List.drop_zero] at h hr
  have hr' : r = ld l pu start t := hr
  have h' : compose_leading_f1_31_l35 300000060 l pu start t 300000060 false 0 0 0 0 = some (SLead.mk (oI r) (oL r) (oV r), r.isSome) := h
  rw [h', hr']
  rfl
def ses (l : List SProfile) (start t : Int) : Option SLead := bif (ld l 3 start t).isSome then ld l 3 start t else ld l 2 start t
def dec (l : List SProfile) (start t : Int) : Option SLead :=
  bif (ld l 1 start t).isSome && (!(ses l start t).isSome || decide (oV (ld l 1 start t) ≤ oV (ses l start t))) then ld l 1 start t else ses l start t
def lmt (b : Option SLead) : Int := bif b.isSome then oV b else 1073741824
theorem determining_eq (l : List SProfile) (hl : l.length ≤ 100) (hv : ∀ p ∈ l, VOk p) (start t : Int) (hs : -9223372036854775808 ≤ start ∧ start ≤ 9223372036854775807) (ht : -9223372036854775808 ≤ t ∧ t ≤ 9223372036854775807) :
    compose_determining 300000060 l start t = some (SLead.mk (oI (dec l start t)) (oL (dec l start t)) (oV (dec l start t)), (dec l start t).isSome) := by
  unfold compose_determining compose_determining_p13 compose_determining_p9
  rw [determining_1_eq l hl hv 3 start t hs ht, determining_1_eq l hl hv 2 start t hs ht, determining_1_eq l hl hv 1 start t hs ht]
  simp only [Option.bind_some]
  unfold dec ses
  cases h3 : ld l 3 start t with
  | some x =>
    cases h1 : ld l 1 start t with
    | none => rfl
    | some y =>
      by_cases hq : oV (some y) ≤ oV (some x)
      · simp [hq]
      · simp [hq]
  | none =>
    cases h2 : ld l 2 start t with
    | none => cases h1 : ld l 1 start t <;> rfl
    | some x =>
      cases h1 : ld l 1 start t with
      | none => rfl
      | some y =>
        by_cases hq : oV (some y) ≤ oV (some x)
        · simp [hq]
        · simp [hq]
theorem limit_c (l : List SProfile) (hl : l.length ≤ 100) (hv : ∀ p ∈ l, VOk p) (start t : Int) (hs : -9223372036854775808 ≤ start ∧ start ≤ 9223372036854775807) (ht : -9223372036854775808 ≤ t ∧ t ≤ 9223372036854775807) :
    compose_limit 300000060 l start t = some (lmt (dec l start t)) := by
  unfold compose_limit lmt
  rw [determining_eq l hl hv start t hs ht]
  cases dec l start t <;> rfl
theorem at_c (l : List SProfile) (hl : l.length ≤ 100) (hv : ∀ p ∈ l, VOk p) (conn : Int) (txn : ByteArray) (start t : Int) (hs : -9223372036854775808 ≤ start ∧ start ≤ 9223372036854775807) (ht : -9223372036854775808 ≤ t ∧ t ≤ 9223372036854775807) :
    compose_At 300000060 l conn txn start t = some (lmt (dec (l.filter (cdB conn txn)) start t)) := by
  unfold compose_At
  rw [cands_eq l hl, Option.bind_some, limit_c _ (Nat.le_trans (List.length_filter_le _ _) hl) (fun p hp => hv p (List.mem_filter.1 hp).1) start t hs ht]
  rfl
end Go.Proofs.Ytfbkimhoncfnmaa.M
