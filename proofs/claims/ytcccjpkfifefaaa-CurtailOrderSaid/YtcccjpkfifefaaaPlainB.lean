/- Plain laws of chapter 13: both functions Put do the same to a list in the order of names. -/
import Derived.Test.YtcccjpkfifefaaaPlainA
namespace Go.Proofs.Ytcccjpkfifefaaa.M
open Go Go.Proofs.Ytcccjpkfifefaaa.E Go.Proofs.Ytcccjpkfifefaaa.W
set_option linter.unusedVariables false
set_option linter.unusedSimpArgs false

def pos (c : SCurtail) : List SCurtail → Nat
  | [] => 0
  | x :: l => if sLt x.Name c.Name then pos c l + 1 else 0

theorem pos_le (c : SCurtail) : ∀ l, pos c l ≤ l.length
  | [] => Nat.le_refl _
  | x :: l => by
    simp only [pos]
    split
    · simp [pos_le c l]
    · simp
theorem pos_lt (c : SCurtail) : ∀ (l : List SCurtail) (j : Nat) (hj : j < l.length), j < pos c l → sLt l[j].Name c.Name = true
  | [], j, hj, _ => by simp at hj
  | x :: l, 0, hj, h => by
    simp only [pos] at h
    split at h
    · assumption
    · omega
  | x :: l, j + 1, hj, h => by
    simp only [pos] at h
    split at h
    · exact pos_lt c l j (by simpa using hj) (by omega)
    · omega
theorem pos_at (c : SCurtail) : ∀ (l : List SCurtail) (h : pos c l < l.length), sLt (l[pos c l]'h).Name c.Name = false
  | [], h => by simp at h
  | x :: l, h => by
    by_cases hx : sLt x.Name c.Name = true
    · have e : pos c (x :: l) = pos c l + 1 := by simp [pos, hx]
      simp only [e, List.getElem_cons_succ]
      exact pos_at c l (by simpa [e] using h)
    · have e : pos c (x :: l) = 0 := by simp [pos, hx]
      simp only [e, List.getElem_cons_zero]
      simpa using hx

def Srt (l : List SCurtail) : Prop := l.Pairwise (fun x y => sLt x.Name y.Name = true)

/-- What Put does, where the event is right. -/
def putS (l : List SCurtail) (c : SCurtail) : List SCurtail × Int :=
  if h : pos c l < l.length then
    (if sEq (l[pos c l]'h).Name c.Name then
      (if c.Version < (l[pos c l]'h).Version then (l, 11) else if (l[pos c l]'h).Version < c.Version then (l.set (pos c l) c, 0) else if eqS c (l[pos c l]'h) then (l, 0) else (l, 23))
    else if 64 ≤ l.length then (l, 3) else (l.take (pos c l) ++ c :: l.drop (pos c l), 0))
  else if 64 ≤ l.length then (l, 3) else (l.take (pos c l) ++ c :: l.drop (pos c l), 0)

theorem replace_eq (l : List SCurtail) (k : Nat) (c : SCurtail) (hk : k < l.length) (hl : l.length ≤ 64) : curtail_replace 1000 l (k : Int) c = some (l.set k c) := by
  unfold curtail_replace
  have e : copyL (List.replicate (((l).length : Int)).toNat dSCurtail) 0 ((List.replicate (((l).length : Int)).toNat dSCurtail).length) l = l := by
    unfold copyL
    simp
  rw [e, guard_pos (by omega), guard_pos (by omega)]
  simp

theorem insert_list {α : Type} (l : List α) (k : Nat) (c d : α) (hk : k ≤ l.length) :
    copyL ((copyL (List.replicate (l.length + 1) d) 0 (List.replicate (l.length + 1) d).length (subL l 0 k)).set k c) (k + 1) (((copyL (List.replicate (l.length + 1) d) 0 (List.replicate (l.length + 1) d).length (subL l 0 k)).set k c).length - (k + 1)) (subL l k l.length) = l.take k ++ c :: l.drop k := by
  have e1 : subL l 0 k = l.take k := by simp [subL]
  have e2 : subL l k l.length = l.drop k := by simp only [subL]; exact List.take_of_length_le (by simp)
  have e3 : copyL (List.replicate (l.length + 1) d) 0 (List.replicate (l.length + 1) d).length (l.take k) = l.take k ++ d :: List.replicate (l.length - k) d := by
    unfold copyL
    simp only [List.take_zero, List.nil_append, List.length_replicate, Nat.zero_add, List.length_take, List.drop_replicate]
    rw [List.take_of_length_le (by simp; omega)]
    congr 1
    rw [show l.length + 1 - min (l.length + 1) (min k l.length) = (l.length - k) + 1 by omega]
    rfl
  have e4 : (l.take k ++ d :: List.replicate (l.length - k) d).set k c = l.take k ++ c :: List.replicate (l.length - k) d := by
    rw [List.set_append_right _ _ (by simp; omega)]
    congr 1
    simp only [List.length_take]
    rw [show k - min k l.length = 0 by omega]
    rfl
  rw [e1, e2, e3, e4]
  unfold copyL
  have hlen : (l.take k ++ c :: List.replicate (l.length - k) d).length = l.length + 1 := by simp; omega
  rw [hlen]
  have t1 : (l.take k ++ c :: List.replicate (l.length - k) d).take (k + 1) = l.take k ++ [c] := by
    rw [List.take_append]
    simp only [List.length_take, List.take_take]
    rw [show min (k + 1) k = k by omega, show k + 1 - min k l.length = 1 by omega]
    rfl
  rw [t1]
  have t2 : (l.take k ++ c :: List.replicate (l.length - k) d).drop (k + 1 + min (l.length + 1 - (k + 1)) (l.drop k).length) = [] := by
    apply List.drop_eq_nil_of_le
    rw [hlen]
    simp only [List.length_drop]
    omega
  have t3 : (l.drop k).take (l.length + 1 - (k + 1)) = l.drop k := List.take_of_length_le (by rw [List.length_drop]; omega)
  rw [t2, List.append_nil, t3]
  simp

theorem insert_eq (l : List SCurtail) (k : Nat) (c : SCurtail) (hk : k ≤ l.length) (hl : l.length < 64) : curtail_insert 1000 l (k : Int) c = some (l.take k ++ c :: l.drop k) := by
  have w1 : IntKind.wrap .i64 ((l.length : Int) + 1) = ((l.length + 1 : Nat) : Int) := wsucc _ (by omega)
  have w2 : IntKind.wrap .i64 ((k : Int) + 1) = ((k + 1 : Nat) : Int) := wsucc _ (by omega)
  have key := insert_list l k c dSCurtail hk
  unfold curtail_insert
  rw [w1, w2]
  simp only [Int.toNat_natCast]
  have hA : (copyL (List.replicate (l.length + 1) dSCurtail) 0 (List.replicate (l.length + 1) dSCurtail).length (subL l 0 k)).length = l.length + 1 := by
    rw [copyL_len (by simp)]; simp
  have hB : ((copyL (List.replicate (l.length + 1) dSCurtail) 0 (List.replicate (l.length + 1) dSCurtail).length (subL l 0 k)).set k c).length = l.length + 1 := by rw [List.length_set, hA]
  rw [key]
  rw [guard_pos (by omega), guard_pos (by omega), guard_pos (by omega), guard_pos (by omega), guard_pos (by omega), guard_pos (by omega)]

theorem put_p21 (l : List SCurtail) (hl : l.length ≤ 64) (c : SCurtail) : curtail_Put_p21 1000 l c ((pos c l : Nat) : Int) = some (putS l c) := by
  have hk := pos_le c l
  unfold curtail_Put_p21 putS
  by_cases h : pos c l < l.length
  · have e1 : decide (((pos c l : Nat) : Int) < (l.length : Int)) = true := by simpa using h
    have e2 : (0 : Int) ≤ ((pos c l : Nat) : Int) ∧ ((pos c l : Nat) : Int) < (l.length : Int) := by omega
    rw [e1, cond_true, guard_pos e2, getD_nat l _ _ h, dif_pos h]
    unfold curtail_Put_p18
    cases hq : sEq (l[pos c l]).Name c.Name with
    | true =>
      rw [cond_true, guard_pos e2, guard_pos e2, guard_pos e2, getD_nat l _ _ h, if_pos rfl]
      by_cases v1 : c.Version < (l[pos c l]).Version
      · simp only [v1, decide_true, cond_true, if_true]
      · simp only [v1, decide_false, cond_false, if_false]
        by_cases v2 : (l[pos c l]).Version < c.Version
        · simp only [v2, decide_true, cond_true, if_true, replace_eq l _ c h hl]; rfl
        · simp only [v2, decide_false, cond_false, if_false]
          change (bif xor true (eqS c l[pos c l]) then _ else _) = _
          cases eqS c l[pos c l] <;> rfl
    | false =>
      rw [cond_false]
      simp only [Bool.false_eq_true, if_false]
      by_cases h64 : 64 ≤ l.length
      · have : decide ((64 : Int) ≤ (l.length : Int)) = true := by simp; omega
        rw [this, if_pos h64]; rfl
      · have : decide ((64 : Int) ≤ (l.length : Int)) = false := by simp; omega
        rw [this, if_neg h64, cond_false, insert_eq l _ c hk (by omega)]; rfl
  · have e1 : decide (((pos c l : Nat) : Int) < (l.length : Int)) = false := by simp; omega
    rw [e1, cond_false, dif_neg h]
    unfold curtail_Put_p18
    rw [cond_false]
    by_cases h64 : 64 ≤ l.length
    · have : decide ((64 : Int) ≤ (l.length : Int)) = true := by simp; omega
      rw [this, if_pos h64]; rfl
    · have : decide ((64 : Int) ≤ (l.length : Int)) = false := by simp; omega
      rw [this, if_neg h64, cond_false, insert_eq l _ c hk (by omega)]; rfl

theorem put_l29 (l : List SCurtail) (hl : l.length ≤ 64) (c : SCurtail) : ∀ (n t : Nat), t ≤ pos c l → pos c l < n + t → curtail_Put_l29 1000 l c n (t : Int) = some (putS l c)
  | 0, t, h1, h2 => by omega
  | n + 1, t, h1, h2 => by
    have hk := pos_le c l
    simp only [curtail_Put_l29, curtail_Put_b29]
    by_cases ht : t < pos c l
    · have hlt : t < l.length := by omega
      have e1 : decide ((t : Int) < (l.length : Int)) = true := by simpa using hlt
      rw [e1, cond_true, guard_pos (by omega), getD_nat l _ t hlt, pos_lt c l t hlt ht, cond_true, wsucc t (by omega)]
      exact put_l29 l hl c n (t + 1) (by omega) (by omega)
    · have hte : t = pos c l := by omega
      subst hte
      by_cases hlt : pos c l < l.length
      · have e1 : decide (((pos c l : Nat) : Int) < (l.length : Int)) = true := by simpa using hlt
        rw [e1, cond_true, guard_pos (by omega), getD_nat l _ _ hlt, pos_at c l hlt, cond_false]
        exact put_p21 l hl c
      · have e1 : decide (((pos c l : Nat) : Int) < (l.length : Int)) = false := by simp; omega
        rw [e1, cond_false]
        exact put_p21 l hl c

/-! ### The reference -/
theorem p8_eq (l out : List SCurtail) : chargenetref13_Put_p8 l out = some (if 64 < out.length then (l, 3) else (out, 0)) := by
  unfold chargenetref13_Put_p8
  by_cases h : 64 < out.length
  · have : decide ((64 : Int) < (out.length : Int)) = true := by simp; omega
    rw [this, if_pos h]; rfl
  · have : decide ((64 : Int) < (out.length : Int)) = false := by simp; omega
    rw [this, if_neg h]; rfl

theorem ref_rest (l : List SCurtail) (hl : l.length ≤ 64) (c : SCurtail) : ∀ (n t : Nat) (out : List SCurtail), t ≤ l.length → l.length < n + t → out.length ≤ t + 1 → (∀ j (hj : j < l.length), t ≤ j → sEq l[j].Name c.Name = false) →
    chargenetref13_Put_l60 l c n true (t : Int) out = chargenetref13_Put_p8 l (out ++ l.drop t)
  | 0, t, out, h1, h2, _, _ => by omega
  | n + 1, t, out, h1, h2, h3, h4 => by
    simp only [chargenetref13_Put_l60, chargenetref13_Put_b60]
    by_cases ht : t < l.length
    · have e1 : decide ((t : Int) < (l.length : Int)) = true := by simpa using ht
      rw [e1, cond_true, guard_pos (by omega), getD_nat l _ t ht, h4 t ht (Nat.le_refl _), cond_false]
      simp only [Bool.not_true, cond_false]
      unfold chargenetref13_Put_p79 chargenetref13_Put_p64
      rw [guard_pos (by omega), guard_pos (by simp; omega), getD_nat l _ t ht, wsucc t (by omega)]
      refine (ref_rest l hl c n (t + 1) (out ++ [l[t]]) (by omega) (by omega) (by simp; omega) (fun j hj h => h4 j hj (by omega))).trans ?_
      rw [List.drop_eq_getElem_cons ht]
      simp
    · have e1 : decide ((t : Int) < (l.length : Int)) = false := by simp; omega
      rw [e1, cond_false, List.drop_eq_nil_of_le (by omega), List.append_nil]
      unfold chargenetref13_Put_p11
      rfl

theorem ref_at (l : List SCurtail) (hs : Srt l) (hl : l.length ≤ 64) (c : SCurtail) (n : Nat) (hn : l.length + 1 < n + pos c l) : chargenetref13_Put_l60 l c (n + 1) false ((pos c l : Nat) : Int) (l.take (pos c l)) = some (putS l c) := by
  have hk := pos_le c l
  simp only [chargenetref13_Put_l60, chargenetref13_Put_b60]
  unfold putS
  by_cases h : pos c l < l.length
  · have e1 : decide (((pos c l : Nat) : Int) < (l.length : Int)) = true := by simpa using h
    have e2 : (0 : Int) ≤ ((pos c l : Nat) : Int) ∧ ((pos c l : Nat) : Int) < (l.length : Int) := by omega
    have hat := pos_at c l h
    rw [e1, cond_true, guard_pos e2, getD_nat l _ _ h, dif_pos h]
    cases hq : sEq (l[pos c l]).Name c.Name with
    | true =>
      have hname : (l[pos c l]).Name = c.Name := (sEq_iff _ _).1 hq
      have hrest : ∀ j (hj : j < l.length), pos c l + 1 ≤ j → sEq l[j].Name c.Name = false := by
        intro j hj hjk
        rw [sEq_false, ← hname]
        exact fun h' => sLt_ne (List.pairwise_iff_getElem.1 hs (pos c l) j h hj (by omega)) h'.symm
      have hset : l.take (pos c l) ++ [c] ++ l.drop (pos c l + 1) = l.set (pos c l) c := by
        rw [List.set_eq_take_append_cons_drop, if_pos h]; simp
      have h70 : chargenetref13_Put_p70 c ((pos c l : Nat) : Int) (l.take (pos c l)) (fun done_34 i_35 o1_36 => chargenetref13_Put_l60 l c n done_34 i_35 o1_36) = some (l.set (pos c l) c, 0) := by
        unfold chargenetref13_Put_p70 chargenetref13_Put_p64
        rw [guard_pos (by simp; omega), wsucc _ (by omega)]
        refine (ref_rest l hl c n (pos c l + 1) (l.take (pos c l) ++ [c]) (by omega) (by omega) (by simp; omega) hrest).trans ?_
        rw [p8_eq, hset, List.length_set, if_neg (by omega)]
      rw [cond_true, guard_pos e2, guard_pos e2, guard_pos e2, h70, if_pos rfl]
      by_cases v1 : c.Version < (l[pos c l]).Version
      · simp only [v1, decide_true, cond_true, if_true]
      · simp only [v1, decide_false, cond_false, if_false]
        by_cases v2 : (l[pos c l]).Version < c.Version
        · have v3 : ¬ c.Version = (l[pos c l]).Version := by omega
          simp only [v2, v3, decide_false, cond_false, if_true]
        · have v3 : c.Version = (l[pos c l]).Version := by omega
          rw [show decide (c.Version = l[pos c l].Version) = true by simpa using v3, cond_true, if_neg v2]
          have hx : (xor true (sEq c.Name l[pos c l].Name && (true && (decide (c.Feeder = l[pos c l].Feeder) && (decide (c.Span_From = l[pos c l].Span_From) && (decide (c.Span_To = l[pos c l].Span_To) && (decide (c.Total = l[pos c l].Total) && (c.Cancelled == l[pos c l].Cancelled && true)))))))) = !(eqS c l[pos c l]) := by
            unfold eqS
            rw [show decide (c.Version = l[pos c l].Version) = true by simpa using v3]
            simp
          rw [hx]
          cases he : eqS c l[pos c l] with
          | true =>
            have hc := (eqS_iff _ _).1 he
            have hself : l.set (pos c l) c = l := by
              conv => lhs; rw [hc]
              rw [← hc]
              have : l.set (pos c l) (l[pos c l]) = l := by simp
              rw [← hc] at this
              exact this
            rw [hself]; rfl
          | false => rfl
    | false =>
      have hne := (sEq_false _ _).1 hq
      have hrest : ∀ j (hj : j < l.length), pos c l + 1 ≤ j → sEq l[j].Name c.Name = false := by
        intro j hj hjk
        rw [sEq_false]
        intro h'
        have := List.pairwise_iff_getElem.1 hs (pos c l) j h hj (by omega)
        rw [h'] at this
        rw [this] at hat; cases hat
      have hins : l.take (pos c l) ++ [c] ++ [l[pos c l]] ++ l.drop (pos c l + 1) = l.take (pos c l) ++ c :: l.drop (pos c l) := by
        rw [List.drop_eq_getElem_cons h]; simp
      rw [cond_false]
      simp only [Bool.not_false, cond_true]
      rw [guard_pos e2, hat, Bool.false_or, Bool.not_false, cond_true, guard_pos (by simp; omega)]
      unfold chargenetref13_Put_p79 chargenetref13_Put_p64
      rw [guard_pos e2, guard_pos (by simp; omega), getD_nat l _ _ h, wsucc _ (by omega)]
      refine (ref_rest l hl c n (pos c l + 1) (l.take (pos c l) ++ [c] ++ [l[pos c l]]) (by omega) (by omega) (by simp; omega) hrest).trans ?_
      rw [p8_eq, hins]
      simp only [Bool.false_eq_true, if_false]
      have hlen : (l.take (pos c l) ++ c :: l.drop (pos c l)).length = l.length + 1 := by simp; omega
      rw [hlen]
      by_cases h64 : 64 ≤ l.length
      · rw [if_pos (by omega), if_pos h64]
      · rw [if_neg (by omega), if_neg h64]
  · have e1 : decide (((pos c l : Nat) : Int) < (l.length : Int)) = false := by simp; omega
    rw [e1, cond_false, dif_neg h]
    unfold chargenetref13_Put_p11
    have hd : l.drop (pos c l) = [] := List.drop_eq_nil_of_le (by omega)
    rw [Bool.not_false, cond_true, guard_pos (by simp; omega), p8_eq, hd]
    have hlen : (l.take (pos c l) ++ [c]).length = l.length + 1 := by simp; omega
    rw [hlen]
    by_cases h64 : 64 ≤ l.length
    · rw [if_pos (by omega), if_pos h64]
    · rw [if_neg (by omega), if_neg h64]

theorem ref_l60 (l : List SCurtail) (hs : Srt l) (hl : l.length ≤ 64) (c : SCurtail) : ∀ (n t : Nat), t ≤ pos c l → l.length + 2 < n + t → chargenetref13_Put_l60 l c n false (t : Int) (l.take t) = some (putS l c)
  | 0, t, h1, h2 => by have := pos_le c l; omega
  | n + 1, t, h1, h2 => by
    have hk := pos_le c l
    by_cases ht : t < pos c l
    · have hlt : t < l.length := by omega
      have e1 : decide ((t : Int) < (l.length : Int)) = true := by simpa using hlt
      have hls := pos_lt c l t hlt ht
      simp only [chargenetref13_Put_l60, chargenetref13_Put_b60]
      rw [e1, cond_true, guard_pos (by omega), getD_nat l _ t hlt, (sEq_false _ _).2 (sLt_ne hls), cond_false]
      simp only [Bool.not_false, cond_true]
      rw [guard_pos (by omega), hls, Bool.true_or, Bool.not_true, cond_false]
      unfold chargenetref13_Put_p79 chargenetref13_Put_p64
      have htk : l.take t ++ [l[t]] = l.take (t + 1) := (List.take_succ_eq_append_getElem hlt).symm
      rw [guard_pos (by omega), guard_pos (by simp; omega), getD_nat l _ t hlt, wsucc t (by omega), htk]
      exact ref_l60 l hs hl c n (t + 1) (by omega) (by omega)
    · have hte : t = pos c l := by omega
      subst hte
      exact ref_at l hs hl c n (by omega)

/-! ### Both, and what is kept -/
structure Inv (l : List SCurtail) : Prop where
  srt : Srt l
  len : l.length ≤ 64
  ok : ∀ x ∈ l, Ok x

def putT (l : List SCurtail) (c : SCurtail) (r : List SCurtail × Int) : Prop :=
  (r.2 ≠ 0 ∧ r.1 = l) ∨ (r.2 = 0 ∧ Ok c ∧ r.1 = (putS l c).1 ∧ (putS l c).2 = 0)

theorem putS_fail (l : List SCurtail) (c : SCurtail) (h : (putS l c).2 ≠ 0) : (putS l c).1 = l := by
  unfold putS at h ⊢
  by_cases a : pos c l < l.length
  · rw [dif_pos a] at h ⊢
    by_cases b : sEq (l[pos c l]).Name c.Name = true
    · rw [if_pos b] at h ⊢
      by_cases d : c.Version < (l[pos c l]).Version
      · rw [if_pos d]
      · rw [if_neg d] at h ⊢
        by_cases e : (l[pos c l]).Version < c.Version
        · rw [if_pos e] at h; exact absurd rfl h
        · rw [if_neg e]
          by_cases f : eqS c l[pos c l] = true
          · rw [if_pos f]
          · rw [if_neg f]
    · rw [if_neg b] at h ⊢
      by_cases g : 64 ≤ l.length
      · rw [if_pos g]
      · rw [if_neg g] at h; exact absurd rfl h
  · rw [dif_neg a] at h ⊢
    by_cases g : 64 ≤ l.length
    · rw [if_pos g]
    · rw [if_neg g] at h; exact absurd rfl h

theorem put_both (l : List SCurtail) (hi : Inv l) (c : SCurtail) : ∃ r, curtail_Put 1000 l c = some r ∧ chargenetref13_Put 1000 l c = some r ∧ putT l c r := by
  unfold curtail_Put chargenetref13_Put
  obtain ⟨e, he⟩ := check_total c 32
  rw [← check_eq, he]
  simp only [Option.bind_some]
  by_cases h0 : e = 0
  · subst h0
    simp only [decide_true, Bool.not_true, cond_false]
    have h1 := put_l29 l hi.len c 1000 0 (by omega) (by have := pos_le c l; have := hi.len; omega)
    have h2 := ref_l60 l hi.srt hi.len c 1000 0 (by omega) (by have := hi.len; omega)
    simp only [Int.natCast_zero, List.take_zero] at h1 h2
    refine ⟨_, h1, h2, ?_⟩
    by_cases hp : (putS l c).2 = 0
    · exact .inr ⟨hp, check_ok c he, rfl, hp⟩
    · refine .inl ⟨hp, ?_⟩
      exact putS_fail l c hp
  · simp only [h0, decide_false, Bool.not_false, cond_true]
    exact ⟨_, rfl, rfl, .inl ⟨h0, rfl⟩⟩

/-- Where it succeeds, the event lies in its place. -/
theorem putS_shape (l : List SCurtail) (hs : Srt l) (c : SCurtail) (h : (putS l c).2 = 0) : ∃ m, pos c l ≤ m ∧ m ≤ l.length ∧ (putS l c).1 = l.take (pos c l) ++ c :: l.drop m ∧ (putS l c).1.length ≤ max l.length 64 ∧
    (∀ x ∈ l.take (pos c l), sLt x.Name c.Name = true) ∧ (∀ x ∈ l.drop m, sLt c.Name x.Name = true) ∧ (m = pos c l ∨ ∃ h : pos c l < l.length, m = pos c l + 1 ∧ (l[pos c l]'h).Name = c.Name) := by
  have hk := pos_le c l
  have hpre : ∀ x ∈ l.take (pos c l), sLt x.Name c.Name = true := by
    intro x hx
    obtain ⟨j, hj, rfl⟩ := List.getElem_of_mem hx
    rw [List.getElem_take]
    rw [List.length_take] at hj
    exact pos_lt c l j (by omega) (by omega)
  have found : ∀ (hlt : pos c l < l.length), (l[pos c l]'hlt).Name = c.Name → ∀ x ∈ l.drop (pos c l + 1), sLt c.Name x.Name = true := by
    intro hlt hn x hx
    obtain ⟨j, hj, rfl⟩ := List.getElem_of_mem hx
    rw [List.getElem_drop, ← hn]
    rw [List.length_drop] at hj
    exact List.pairwise_iff_getElem.1 hs (pos c l) (pos c l + 1 + j) hlt (by omega) (by omega)
  have fresh : (∀ (hlt : pos c l < l.length), sEq (l[pos c l]'hlt).Name c.Name = false) → ∀ x ∈ l.drop (pos c l), sLt c.Name x.Name = true := by
    intro hne x hx
    obtain ⟨j, hj, rfl⟩ := List.getElem_of_mem hx
    rw [List.length_drop] at hj
    have hlt : pos c l < l.length := by omega
    have h1 : sLt c.Name (l[pos c l]'hlt).Name = true := by
      rcases sLt_tri (l[pos c l]'hlt).Name c.Name with h | h | h
      · rw [pos_at c l hlt] at h; cases h
      · exact absurd h ((sEq_false _ _).1 (hne hlt))
      · exact h
    rw [List.getElem_drop]
    cases j with
    | zero => simpa using h1
    | succ j => exact sLt_trans h1 (List.pairwise_iff_getElem.1 hs (pos c l) (pos c l + (j + 1)) hlt (by omega) (by omega))
  have ins : (l.take (pos c l) ++ c :: l.drop (pos c l)).length = l.length + 1 := by simp; omega
  unfold putS at h ⊢
  by_cases hlt : pos c l < l.length
  · rw [dif_pos hlt] at h ⊢
    by_cases hq : sEq (l[pos c l]).Name c.Name = true
    · have hn := (sEq_iff _ _).1 hq
      rw [if_pos hq] at h ⊢
      refine ⟨pos c l + 1, by omega, by omega, ?_, ?_, hpre, found hlt hn, .inr ⟨hlt, rfl, hn⟩⟩
      · by_cases v1 : c.Version < (l[pos c l]).Version
        · rw [if_pos v1] at h; cases h
        · rw [if_neg v1] at h ⊢
          by_cases v2 : (l[pos c l]).Version < c.Version
          · rw [if_pos v2]; simp [List.set_eq_take_append_cons_drop, hlt]
          · rw [if_neg v2] at h ⊢
            by_cases v3 : eqS c l[pos c l] = true
            · rw [if_pos v3]
              have hc := (eqS_iff _ _).1 v3
              show l = _
              conv => lhs; rw [← List.take_append_drop (pos c l) l, List.drop_eq_getElem_cons hlt, ← hc]
            · rw [if_neg v3] at h; cases h
      · split
        · simp; omega
        · split
          · simp; omega
          · split <;> simp <;> omega
    · rw [if_neg hq] at h ⊢
      by_cases h64 : 64 ≤ l.length
      · rw [if_pos h64] at h; cases h
      · rw [if_neg h64]
        exact ⟨pos c l, Nat.le_refl _, hk, rfl, by show (l.take (pos c l) ++ c :: l.drop (pos c l)).length ≤ _; omega, hpre, fresh (fun _ => by simpa using hq), .inl rfl⟩
  · rw [dif_neg hlt] at h ⊢
    by_cases h64 : 64 ≤ l.length
    · rw [if_pos h64] at h; cases h
    · rw [if_neg h64]
      exact ⟨pos c l, Nat.le_refl _, hk, rfl, by show (l.take (pos c l) ++ c :: l.drop (pos c l)).length ≤ _; omega, hpre, fresh (fun h => absurd h hlt), .inl rfl⟩

theorem put_inv (l : List SCurtail) (hi : Inv l) (c : SCurtail) (r : List SCurtail × Int) (hr : putT l c r) : Inv r.1 := by
  rcases hr with ⟨_, h⟩ | ⟨_, hc, h1, h2⟩
  · rw [h]; exact hi
  · obtain ⟨m, g1, g2, g3, g4, g5, g6, _⟩ := putS_shape l hi.srt c h2
    rw [h1]
    have hlen := hi.len
    refine ⟨?_, by omega, ?_⟩
    · unfold Srt
      rw [g3, List.pairwise_append]
      refine ⟨hi.srt.take, ?_, ?_⟩
      · rw [List.pairwise_cons]
        exact ⟨g6, hi.srt.drop⟩
      · intro x hx y hy
        rcases List.mem_cons.1 hy with rfl | hy
        · exact g5 x hx
        · exact sLt_trans (g5 x hx) (g6 y hy)
    · intro x hx
      rw [g3] at hx
      rcases List.mem_append.1 hx with hx | hx
      · exact hi.ok x (List.mem_of_mem_take hx)
      · rcases List.mem_cons.1 hx with rfl | hx
        · exact hc
        · exact hi.ok x (List.mem_of_mem_drop hx)

theorem inv_nil : Inv [] := ⟨List.Pairwise.nil, by simp, by simp⟩
end Go.Proofs.Ytcccjpkfifefaaa.M
