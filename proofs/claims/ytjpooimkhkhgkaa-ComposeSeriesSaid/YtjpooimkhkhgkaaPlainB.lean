/- Plain laws of chapter 16: the determining profile of a list, as both functions find it. -/
import Derived.Test.YtjpooimkhkhgkaaPlainA
namespace Go.Proofs.Ytjpooimkhkhgkaa.M
open Go Go.Proofs.Ytjpooimkhkhgkaa.E Go.Proofs.Ytjpooimkhkhgkaa.W
set_option linter.unusedVariables false
set_option linter.unusedSimpArgs false

theorem example_ok : chargenetlaw16_exampleHolds 300000060 = some true := by rfl

theorem sEq_iff (a b : ByteArray) : sEq a b = true ↔ a = b := by
  unfold sEq
  rw [beq_iff_eq]
  constructor
  · intro h
    cases a; cases b
    congr 1
    exact Array.toList_inj.1 h
  · rintro rfl; rfl

/-! ### Candidates -/
def cdB (conn : Int) (txn : ByteArray) (p : SProfile) : Bool :=
  (decide (p.Conn = 0) || decide (p.Conn = conn)) && (!(decide (p.Purpose = 3) && !(sEq p.Txn txn)) && !(sEq txn ByteArray.empty && (decide (p.Purpose = 3) || decide (p.Kind = 4))))

theorem cands_l (l : List SProfile) (hl : l.length ≤ 100) (conn : Int) (txn : ByteArray) : ∀ (n i : Nat) (o : List SProfile), i ≤ l.length → l.length < n + i → o.length ≤ i →
    compose_candidates_l35 l conn txn n (i : Int) o = some (o ++ (l.drop i).filter (cdB conn txn))
  | 0, i, o, h1, h2, h3 => by omega
  | n + 1, i, o, h1, h2, h3 => by
    simp only [compose_candidates_l35, compose_candidates_b35, compose_candidates_p48, compose_candidates_p45, compose_candidates_p41, compose_candidates_p38]
    by_cases hi : i < l.length
    · have e1 : decide ((i : Int) < (l.length : Int)) = true := by simpa using hi
      have ih0 := cands_l l hl conn txn n (i + 1) o (by omega) (by omega) (by omega)
      have ih1 := cands_l l hl conn txn n (i + 1) (o ++ [l[i]]) (by omega) (by omega) (by simp; omega)
      have hg : ∀ X : Option (List SProfile), E.guard ((o.length + [l[i]].length) * 112 ≤ 140737488355328 ∧ o.length + [l[i]].length ≤ 140737488355328) X = X := fun X => guard_pos (by simp; omega)
      rw [e1, cond_true, guard_pos (by omega)]
      simp only [getD_nat l _ i hi, wsucc i (by omega), ih0, ih1, hg]
      rw [List.drop_eq_getElem_cons hi, List.filter_cons]
      unfold cdB
      cases decide (l[i].Conn = 0) <;> cases decide (l[i].Conn = conn) <;> cases decide (l[i].Purpose = 3) <;> cases sEq l[i].Txn txn <;> cases sEq txn ByteArray.empty <;> cases decide (l[i].Kind = 4) <;> simp
    · have e1 : decide ((i : Int) < (l.length : Int)) = false := by simp; omega
      rw [e1, cond_false, List.drop_eq_nil_of_le (by omega)]
      simp [compose_candidates_p2]

theorem cands_eq (l : List SProfile) (hl : l.length ≤ 100) (conn : Int) (txn : ByteArray) : compose_candidates 300000060 l conn txn = some (l.filter (cdB conn txn)) := by
  unfold compose_candidates
  have := cands_l l hl conn txn 300000060 0 [] (by omega) (by omega) (by simp)
  simpa only [Int.natCast_zero, List.drop_zero, List.nil_append] using this

theorem ref_cand (p : SProfile) (conn : Int) (txn : ByteArray) : chargenetref16_candidate 300000060 p conn txn = some (cdB conn txn p) := by
  unfold chargenetref16_candidate chargenetref16_candidate_p4 cdB
  by_cases he : sEq txn ByteArray.empty = true
  · rw [he]
    cases decide (p.Conn = 0) <;> cases decide (p.Conn = conn) <;> cases decide (p.Purpose = 3) <;> cases sEq p.Txn txn <;> cases decide (p.Kind = 4) <;> rfl
  · rw [show sEq txn ByteArray.empty = false by simpa using he]
    cases decide (p.Conn = 0) <;> cases decide (p.Conn = conn) <;> cases decide (p.Purpose = 3) <;> cases sEq p.Txn txn <;> rfl

/-! ### The leading profile -/
def oI : Option SLead → Int
  | none => 0
  | some x => x.id
def oL : Option SLead → Int
  | none => 0
  | some x => x.level
def oV : Option SLead → Int
  | none => 0
  | some x => x.limit
def better (b : Option SLead) (p : SProfile) : Bool := !b.isSome || (decide (oL b < p.Level) || (decide (p.Level = oL b) && decide (oI b < p.ID)))
def stp (pu start t : Int) (b : Option SLead) (p : SProfile) : Option SLead :=
  bif decide (p.Purpose = pu) && (lim p start t).2 && better b p then some ⟨p.ID, p.Level, (lim p start t).1⟩ else b
def ld (l : List SProfile) (pu start t : Int) : Option SLead := l.foldl (stp pu start t) none

theorem leading_l (l : List SProfile) (hl : l.length ≤ 100) (hv : ∀ p ∈ l, VOk p) (pu start t : Int) (hs : -9223372036854775808 ≤ start ∧ start ≤ 9223372036854775807) (ht : -9223372036854775808 ≤ t ∧ t ≤ 9223372036854775807) : ∀ (n i : Nat) (b : Option SLead), i ≤ l.length → l.length < n + i →
    ∃ r, r = (l.drop i).foldl (stp pu start t) b ∧ compose_leading_f1_34_l35 300000060 l pu start t n b.isSome (i : Int) (oI b) (oL b) (oV b) = some (SLead.mk (oI r) (oL r) (oV r), r.isSome)
  | 0, i, b, h1, h2 => by omega
  | n + 1, i, b, h1, h2 => by
    simp only [compose_leading_f1_34_l35, compose_leading_f1_34_b35, compose_leading_f1_34_p41]
    by_cases hi : i < l.length
    · have e1 : decide ((i : Int) < (l.length : Int)) = true := by simpa using hi
      obtain ⟨r, hr, ih⟩ := leading_l l hl hv pu start t hs ht n (i + 1) (stp pu start t b l[i]) (by omega) (by omega)
      refine ⟨r, by rw [hr, List.drop_eq_getElem_cons hi, List.foldl_cons], ?_⟩
      have hd : compose_determining_1_1 300000060 l[i] pu start t = some (if l[i].Purpose = pu then lim l[i] start t else (0, false)) := by
        unfold compose_determining_1_1
        rw [prof_lim _ (hv _ (List.getElem_mem hi)) start t hs ht]
        by_cases hp : l[i].Purpose = pu <;> simp [hp]
      rw [e1, cond_true, guard_pos (by omega)]
      simp only [getD_nat l _ i hi, wsucc i (by omega), hd, Option.bind_some]
      unfold stp better at ih
      by_cases hp : l[i].Purpose = pu
      · rw [if_pos hp]
        rw [show decide (l[i].Purpose = pu) = true by simpa using hp] at ih
        generalize lim l[i] start t = z at ih ⊢
        obtain ⟨lv, lk⟩ := z
        cases lk
        · simpa using ih
        · cases b with
          | none => simpa [oI, oL, oV] using ih
          | some x =>
            by_cases q1 : x.level < l[i].Level
            · simpa [oI, oL, oV, q1] using ih
            · by_cases q2 : l[i].Level = x.level
              · by_cases q3 : x.id < l[i].ID
                · simpa [oI, oL, oV, q1, q2, q3] using ih
                · simpa [oI, oL, oV, q1, q2, q3] using ih
              · simpa [oI, oL, oV, q1, q2] using ih
      · rw [if_neg hp]
        rw [show decide (l[i].Purpose = pu) = false by simpa using hp] at ih
        simpa using ih
    · have e1 : decide ((i : Int) < (l.length : Int)) = false := by simp; omega
      refine ⟨b, by rw [List.drop_eq_nil_of_le (by omega)]; rfl, ?_⟩
      rw [e1, cond_false]; rfl

theorem determining_1_eq (l : List SProfile) (hl : l.length ≤ 100) (hv : ∀ p ∈ l, VOk p) (pu start t : Int) (hs : -9223372036854775808 ≤ start ∧ start ≤ 9223372036854775807) (ht : -9223372036854775808 ≤ t ∧ t ≤ 9223372036854775807) :
    compose_determining_1 300000060 pu l start t = some (SLead.mk (oI (ld l pu start t)) (oL (ld l pu start t)) (oV (ld l pu start t)), (ld l pu start t).isSome) := by
  unfold compose_determining_1 compose_leading_f1_34
  obtain ⟨r, hr, h⟩ := leading_l l hl hv pu start t hs ht 300000060 0 none (by omega) (by omega)
  simp only [Int.natCast_zero, List.drop_zero] at h hr
  have hr' : r = ld l pu start t := hr
  have h' : compose_leading_f1_34_l35 300000060 l pu start t 300000060 false 0 0 0 0 = some (SLead.mk (oI r) (oL r) (oV r), r.isSome) := h
  rw [h', hr']
  rfl

theorem ref_leading_l (l : List SProfile) (hl : l.length ≤ 100) (hv : ∀ p ∈ l, VOk p) (pu conn : Int) (txn : ByteArray) (start t : Int) (hs : -9223372036854775808 ≤ start ∧ start ≤ 9223372036854775807) (ht : -9223372036854775808 ≤ t ∧ t ≤ 9223372036854775807) :
    ∀ (n i : Nat) (b : Option SLead) (b3 b4 b5 : Int) (b6 : ByteArray) (b7 b8 b9 b10 : Int) (b11 : List SPeriod), i ≤ l.length → l.length < n + i →
    ∃ q : SProfile, ∃ r, r = ((l.drop i).filter (cdB conn txn)).foldl (stp pu start t) b ∧ q.ID = oI r ∧ chargenetref16_leading_l79 300000060 l pu conn txn start t n (oV b) b.isSome (i : Int) (oI b) (oL b) b3 b4 b5 b6 b7 b8 b9 b10 b11 = some (q, oV r, r.isSome)
  | 0, i, b, b3, b4, b5, b6, b7, b8, b9, b10, b11, h1, h2 => by omega
  | n + 1, i, b, b3, b4, b5, b6, b7, b8, b9, b10, b11, h1, h2 => by
    simp only [chargenetref16_leading_l79, chargenetref16_leading_b79, chargenetref16_leading_p94]
    by_cases hi : i < l.length
    · have e1 : decide ((i : Int) < (l.length : Int)) = true := by simpa using hi
      rw [e1, cond_true, guard_pos (by omega), List.drop_eq_getElem_cons hi, List.filter_cons]
      simp only [getD_nat l _ i hi, wsucc i (by omega), ref_cand, ref_lim _ (hv _ (List.getElem_mem hi)) start t hs ht, Option.bind_some]
      by_cases hc : cdB conn txn l[i] = true
      · rw [if_pos hc, List.foldl_cons, hc]
        have hu : stp pu start t b l[i] = bif decide (l[i].Purpose = pu) && (lim l[i] start t).2 && better b l[i] then some ⟨l[i].ID, l[i].Level, (lim l[i] start t).1⟩ else b := rfl
        unfold better at hu
        have keep : stp pu start t b l[i] = b → ∃ q : SProfile, ∃ r, r = ((l.drop (i + 1)).filter (cdB conn txn)).foldl (stp pu start t) (stp pu start t b l[i]) ∧ q.ID = oI r ∧ chargenetref16_leading_l79 300000060 l pu conn txn start t n (oV b) b.isSome ((i + 1 : Nat) : Int) (oI b) (oL b) b3 b4 b5 b6 b7 b8 b9 b10 b11 = some (q, oV r, r.isSome) := by
          intro he
          rw [he]
          exact ref_leading_l l hl hv pu conn txn start t hs ht n (i + 1) b b3 b4 b5 b6 b7 b8 b9 b10 b11 (by omega) (by omega)
        have take : stp pu start t b l[i] = some ⟨l[i].ID, l[i].Level, (lim l[i] start t).1⟩ → ∃ q : SProfile, ∃ r, r = ((l.drop (i + 1)).filter (cdB conn txn)).foldl (stp pu start t) (stp pu start t b l[i]) ∧ q.ID = oI r ∧
            chargenetref16_leading_l79 300000060 l pu conn txn start t n (lim l[i] start t).1 true ((i + 1 : Nat) : Int) l[i].ID l[i].Level l[i].Purpose l[i].Kind l[i].Conn l[i].Txn l[i].Span_From l[i].Span_To l[i].Start l[i].Duration l[i].Periods = some (q, oV r, r.isSome) := by
          intro he
          rw [he]
          exact ref_leading_l l hl hv pu conn txn start t hs ht n (i + 1) (some ⟨l[i].ID, l[i].Level, (lim l[i] start t).1⟩) l[i].Purpose l[i].Kind l[i].Conn l[i].Txn l[i].Span_From l[i].Span_To l[i].Start l[i].Duration l[i].Periods (by omega) (by omega)
        by_cases hp : l[i].Purpose = pu
        · rw [show decide (l[i].Purpose = pu) = true by simpa using hp] at hu ⊢
          cases hk : (lim l[i] start t).2 with
          | false =>
            rw [hk] at hu
            simpa using keep (by simpa using hu)
          | true =>
            rw [hk] at hu
            cases b with
            | none => simpa using take (by simpa using hu)
            | some x =>
              by_cases q1 : x.level < l[i].Level
              · have := take (by simpa [oI, oL, q1] using hu)
                simpa [oI, oL, oV, q1] using this
              · by_cases q2 : l[i].Level = x.level
                · by_cases q3 : x.id < l[i].ID
                  · have := take (by simpa [oI, oL, q1, q2, q3] using hu)
                    simpa [oI, oL, oV, q1, q2, q3] using this
                  · have := keep (by simpa [oI, oL, q1, q2, q3] using hu)
                    simpa [oI, oL, oV, q1, q2, q3] using this
                · have := keep (by simpa [oI, oL, q1, q2] using hu)
                  simpa [oI, oL, oV, q1, q2] using this
        · rw [show decide (l[i].Purpose = pu) = false by simpa using hp] at hu ⊢
          simpa using keep (by simpa using hu)
      · rw [if_neg hc, show cdB conn txn l[i] = false by simpa using hc]
        have ih := ref_leading_l l hl hv pu conn txn start t hs ht n (i + 1) b b3 b4 b5 b6 b7 b8 b9 b10 b11 (by omega) (by omega)
        by_cases hp : l[i].Purpose = pu
        · simpa [hp] using ih
        · simpa [hp] using ih
    · have e1 : decide ((i : Int) < (l.length : Int)) = false := by simp; omega
      rw [e1, cond_false, List.drop_eq_nil_of_le (by omega)]
      exact ⟨_, b, rfl, rfl, rfl⟩

theorem ref_leading_eq (l : List SProfile) (hl : l.length ≤ 100) (hv : ∀ p ∈ l, VOk p) (pu conn : Int) (txn : ByteArray) (start t : Int) (hs : -9223372036854775808 ≤ start ∧ start ≤ 9223372036854775807) (ht : -9223372036854775808 ≤ t ∧ t ≤ 9223372036854775807) :
    ∃ q : SProfile, q.ID = oI (ld (l.filter (cdB conn txn)) pu start t) ∧ chargenetref16_leading 300000060 l pu conn txn start t = some (q, oV (ld (l.filter (cdB conn txn)) pu start t), (ld (l.filter (cdB conn txn)) pu start t).isSome) := by
  obtain ⟨q, r, hr, hq, h⟩ := ref_leading_l l hl hv pu conn txn start t hs ht 300000060 0 none 0 0 0 ByteArray.empty 0 0 0 0 [] (by omega) (by omega)
  simp only [Int.natCast_zero, List.drop_zero] at h hr
  have hr' : r = ld (l.filter (cdB conn txn)) pu start t := hr
  rw [hr'] at hq h
  exact ⟨q, hq, h⟩

/-! ### The determining profile -/
def ses (l : List SProfile) (start t : Int) : Option SLead := bif (ld l 3 start t).isSome then ld l 3 start t else ld l 2 start t
def dec (l : List SProfile) (start t : Int) : Option SLead :=
  bif (ld l 1 start t).isSome && (!(ses l start t).isSome || decide (oV (ld l 1 start t) ≤ oV (ses l start t))) then ld l 1 start t else ses l start t
def lmt (b : Option SLead) : Int := bif b.isSome then oV b else 1073741824

theorem determining_eq (l : List SProfile) (hl : l.length ≤ 100) (hv : ∀ p ∈ l, VOk p) (start t : Int) (hs : -9223372036854775808 ≤ start ∧ start ≤ 9223372036854775807) (ht : -9223372036854775808 ≤ t ∧ t ≤ 9223372036854775807) :
    compose_determining 300000060 l start t = some (SLead.mk (oI (dec l start t)) (oL (dec l start t)) (oV (dec l start t)), (dec l start t).isSome) := by
  unfold compose_determining compose_determining_p13 compose_determining_p9
  rw [determining_1_eq l hl hv 3 start t hs ht, determining_1_eq l hl hv 2 start t hs ht, determining_1_eq l hl hv 1 start t hs ht]
  simp only [Option.bind_some]
  unfold dec ses
  cases h3 : ld l 3 start t with
  | some x =>
    cases h1 : ld l 1 start t with
    | none => rfl
    | some y =>
      by_cases hq : oV (some y) ≤ oV (some x)
      · simp [hq]
      · simp [hq]
  | none =>
    cases h2 : ld l 2 start t with
    | none => cases h1 : ld l 1 start t <;> rfl
    | some x =>
      cases h1 : ld l 1 start t with
      | none => rfl
      | some y =>
        by_cases hq : oV (some y) ≤ oV (some x)
        · simp [hq]
        · simp [hq]

theorem limit_c (l : List SProfile) (hl : l.length ≤ 100) (hv : ∀ p ∈ l, VOk p) (start t : Int) (hs : -9223372036854775808 ≤ start ∧ start ≤ 9223372036854775807) (ht : -9223372036854775808 ≤ t ∧ t ≤ 9223372036854775807) :
    compose_limit 300000060 l start t = some (lmt (dec l start t)) := by
  unfold compose_limit lmt
  rw [determining_eq l hl hv start t hs ht]
  cases dec l start t <;> rfl

theorem decide_ref (l : List SProfile) (hl : l.length ≤ 100) (hv : ∀ p ∈ l, VOk p) (conn : Int) (txn : ByteArray) (start t : Int) (hs : -9223372036854775808 ≤ start ∧ start ≤ 9223372036854775807) (ht : -9223372036854775808 ≤ t ∧ t ≤ 9223372036854775807) :
    chargenetref16_decide 300000060 l conn txn start t = some (lmt (dec (l.filter (cdB conn txn)) start t), oI (dec (l.filter (cdB conn txn)) start t), (dec (l.filter (cdB conn txn)) start t).isSome) := by
  obtain ⟨q3, i3, e3⟩ := ref_leading_eq l hl hv 3 conn txn start t hs ht
  obtain ⟨q2, i2, e2⟩ := ref_leading_eq l hl hv 2 conn txn start t hs ht
  obtain ⟨q1, i1, e1⟩ := ref_leading_eq l hl hv 1 conn txn start t hs ht
  unfold chargenetref16_decide chargenetref16_decide_p24 chargenetref16_decide_p21
  rw [e3, e2, e1]
  simp only [Option.bind_some, i3, i2, i1]
  unfold dec ses lmt
  generalize l.filter (cdB conn txn) = m
  cases h3 : ld m 3 start t with
  | some x =>
    cases h1 : ld m 1 start t with
    | none => rfl
    | some y =>
      by_cases hq : oV (some y) ≤ oV (some x)
      · simp [hq]
      · simp [hq]
  | none =>
    cases h2 : ld m 2 start t with
    | none => cases h1 : ld m 1 start t <;> rfl
    | some x =>
      cases h1 : ld m 1 start t with
      | none => rfl
      | some y =>
        by_cases hq : oV (some y) ≤ oV (some x)
        · simp [hq]
        · simp [hq]

theorem at_c (l : List SProfile) (hl : l.length ≤ 100) (hv : ∀ p ∈ l, VOk p) (conn : Int) (txn : ByteArray) (start t : Int) (hs : -9223372036854775808 ≤ start ∧ start ≤ 9223372036854775807) (ht : -9223372036854775808 ≤ t ∧ t ≤ 9223372036854775807) :
    compose_At 300000060 l conn txn start t = some (lmt (dec (l.filter (cdB conn txn)) start t)) := by
  unfold compose_At
  rw [cands_eq l hl, Option.bind_some, limit_c _ (Nat.le_trans (List.length_filter_le _ _) hl) (fun p hp => hv p (List.mem_filter.1 hp).1) start t hs ht]
  rfl
theorem at_ref (l : List SProfile) (hl : l.length ≤ 100) (hv : ∀ p ∈ l, VOk p) (conn : Int) (txn : ByteArray) (start t : Int) (hs : -9223372036854775808 ≤ start ∧ start ≤ 9223372036854775807) (ht : -9223372036854775808 ≤ t ∧ t ≤ 9223372036854775807) :
    chargenetref16_At 300000060 l conn txn start t = some (lmt (dec (l.filter (cdB conn txn)) start t)) := by
  unfold chargenetref16_At
  rw [decide_ref l hl hv conn txn start t hs ht]
  rfl

/-! ### Good queries -/
theorem good_l61 (q : SQuery) (hl : q.L.length ≤ 12) (i : Nat) (hi : i < q.L.length) (K : Int → Option Bool) : ∀ (n k : Nat), k ≤ i → i < n + k →
    chargenetlaw16_Good_l61 q (i : Int) K n (k : Int) = some false ∨ chargenetlaw16_Good_l61 q (i : Int) K n (k : Int) = K ((i + 1 : Nat) : Int)
  | 0, k, h1, h2 => by omega
  | n + 1, k, h1, h2 => by
    have hlen : (subL q.L 0 ((i : Int)).toNat).length = i := by rw [Int.toNat_natCast, subL_len (by omega)]; omega
    simp only [chargenetlaw16_Good_l61, chargenetlaw16_Good_b61, chargenetlaw16_Good_p48, hlen]
    by_cases hk : k < i
    · have e1 : decide ((k : Int) < (i : Int)) = true := by simpa using hk
      rw [e1, cond_true, guard_pos (by omega), wsucc k (by omega)]
      have ih := good_l61 q hl i hi K n (k + 1) (by omega) (by omega)
      cases decide (((subL q.L 0 ((i : Int)).toNat).getD ((k : Int)).toNat dSProfile).ID = (q.L.getD ((i : Int)).toNat dSProfile).ID) with
      | true => exact .inl rfl
      | false => exact ih
    · have e1 : decide ((k : Int) < (i : Int)) = false := by simp; omega
      rw [e1, cond_false, wsucc i (by omega)]
      exact .inr rfl

theorem good_l46 (q : SQuery) (hl : q.L.length ≤ 12) : ∀ (n i : Nat), i ≤ q.L.length → q.L.length < n + i → (∀ j (hj : j < q.L.length), j < i → VOk q.L[j]) →
    chargenetlaw16_Good_l46 300000060 q n (i : Int) = some false ∨ (chargenetlaw16_Good_l46 300000060 q n (i : Int) = some true ∧ ∀ p ∈ q.L, VOk p)
  | 0, i, h1, h2, _ => by omega
  | n + 1, i, h1, h2, hv => by
    simp only [chargenetlaw16_Good_l46, chargenetlaw16_Good_b46]
    by_cases hi : i < q.L.length
    · have e1 : decide ((i : Int) < (q.L.length : Int)) = true := by simpa using hi
      obtain ⟨v, hvv⟩ := ref_valid_total q.L[i]
      rw [e1, cond_true, guard_pos (by omega), getD_nat q.L _ i hi, hvv, Option.bind_some, guard_pos (by omega)]
      by_cases h0 : v = 0
      · subst h0
        have hok := valid_ok q.L[i] hvv
        simp only [decide_true, Bool.not_true, cond_false]
        have h61 := good_l61 q hl i hi (fun t44_27 => chargenetlaw16_Good_l46 300000060 q n t44_27) 300000060 0 (by omega) (by omega)
        rw [Int.natCast_zero] at h61
        rcases h61 with h | h
        · exact .inl h
        · rw [h]
          refine good_l46 q hl n (i + 1) (by omega) (by omega) (fun j hj hji => ?_)
          by_cases hjj : j = i
          · subst hjj; exact hok
          · exact hv j hj (by omega)
      · rw [show decide (v = 0) = false by simpa using h0]
        exact .inl rfl
    · have e1 : decide ((i : Int) < (q.L.length : Int)) = false := by simp; omega
      rw [e1, cond_false]
      refine .inr ⟨rfl, fun p hp => ?_⟩
      obtain ⟨j, hj, rfl⟩ := List.getElem_of_mem hp
      exact hv j hj (by omega)

structure GoodQ (q : SQuery) : Prop where
  len : q.L.length ≤ 12
  start : 0 ≤ q.Start ∧ q.Start ≤ 1000000
  t : 0 ≤ q.T ∧ q.T ≤ 1000000
  length : 0 ≤ q.Length ∧ q.Length ≤ 3000
  ok : ∀ p ∈ q.L, VOk p

theorem good_eq (q : SQuery) : chargenetlaw16_Good 300000060 q = some false ∨ (chargenetlaw16_Good 300000060 q = some true ∧ GoodQ q) := by
  unfold chargenetlaw16_Good
  by_cases h1 : (12 : Int) < (q.L.length : Int)
  · rw [decide_eq_true h1]; exact .inl rfl
  rw [decide_eq_false h1, cond_false]
  by_cases h2 : q.Start < 0
  · rw [decide_eq_true h2]; exact .inl rfl
  rw [decide_eq_false h2, cond_false]
  by_cases h3 : 1000000 < q.Start
  · rw [decide_eq_true h3]; exact .inl rfl
  rw [decide_eq_false h3, cond_false]
  by_cases h4 : q.T < 0
  · rw [decide_eq_true h4]; exact .inl rfl
  rw [decide_eq_false h4, cond_false]
  by_cases h5 : 1000000 < q.T
  · rw [decide_eq_true h5]; exact .inl rfl
  rw [decide_eq_false h5, cond_false]
  by_cases h6 : q.Length < 0
  · rw [decide_eq_true h6]; exact .inl rfl
  rw [decide_eq_false h6, cond_false]
  by_cases h7 : 3000 < q.Length
  · rw [decide_eq_true h7]; exact .inl rfl
  rw [decide_eq_false h7, cond_false]
  have := good_l46 q (by omega) 300000060 0 (by omega) (by omega) (fun j hj h => by omega)
  rw [Int.natCast_zero] at this
  rcases this with h | ⟨h, hv⟩
  · exact .inl h
  · exact .inr ⟨h, ⟨by omega, by omega, by omega, by omega, hv⟩⟩
end Go.Proofs.Ytjpooimkhkhgkaa.M
