/- Tables of rows: an array of slices, each with memory of its own. A row is taken out, and laid back. -/
import Derived.Test.YtfefnffdocmlmaaEngT
namespace Go.Proofs.Ytfefnffdocmlmaa.E
open Go Go.RowKit
set_option linter.unusedVariables false
def rLen {α : Type} (l : List (List α)) (i : Nat) : Nat := (l.getD i []).length
def rGet {α : Type} (c : α → Nat → Cell) (d : α) (l : List (List α)) (i : Nat) : Nat → Nat → Cell := gL c d (l.getD i [])
theorem Sub.reform {N : Fr} {st : St} {objs' : List Ob} (h : ∀ (e : Env) (loc : Loc) (w : World), HRep e st.objs loc w → ∃ loc', Step e st.objs loc w objs' loc' w) : Sub N st ⟨st.slots, objs'⟩ := by
 intro e loc a w hr
 obtain ⟨loc', hs⟩ := h e loc w hr.heap
 exact ⟨loc', hr.step hs⟩
theorem set_case {objs : List Ob} {id : Nat} {o' : Ob} (hid : id < objs.length) : ∀ i o2, (objs.set id o')[i]? = some o2 → (i ≠ id ∧ objs[i]? = some o2) ∨ (i = id ∧ o2 = o') := by
 intro i o2 hi
 rw [List.getElem?_set] at hi
 by_cases hii : id = i
 ·subst hii
  simp [hid] at hi
  exact .inr ⟨rfl, hi.symm⟩
 ·rw [if_neg hii] at hi
  exact .inl ⟨fun hh => hii hh.symm, hi⟩
theorem Sub.toRows {N : Fr} {st : St} {id H T k n : Nat} {get : Nat → Nat → Cell} {len : Nat → Nat} {g : Nat → Nat → Nat → Cell} (hob : st.objs[id]? = some (.arr H 1 n get)) (hg : ∀ i, i < n → get i 0 = .raw (.slice none 0 0)) (hlen : ∀ i, i < n → len i = 0) :
  Sub N st ⟨st.slots, st.objs.set id (.rows H T k n len g none)⟩ := by
 refine Sub.reform fun e loc w hr => ?_
 have hid : id < st.objs.length := (List.getElem?_eq_some_iff.1 hob).1
 have hcase := set_case (o' := .rows H T k n len g none) hid
 let loc' : Loc := ⟨loc.b, fun i r => if i = id then none else loc.f i r⟩
 have hf : ∀ i, i ≠ id → loc'.f i = loc.f i := fun i hi => by funext r; show (if i = id then _ else _) = _; rw [if_neg hi]
 have hfid : loc'.f id = fun _ => none := by funext r; show (if id = id then _ else _) = _; rw [if_pos rfl]
 have hin : ∀ (i : Nat) (o2 : Ob) (s : Option Nat) (b2 c2 : Nat), (st.objs.set id (.rows H T k n len g none))[i]? = some o2 → o2.has s = true → loc'.at i s = some (b2, c2) → ∃ o3, st.objs[i]? = some o3 ∧ o3.has s = true ∧ loc.at i s = some (b2, c2) := by
  intro i o2 s b2 c2 h1 h2 h3
  rcases hcase i o2 h1 with ⟨hne, h4⟩ | ⟨rfl, rfl⟩
  ·refine ⟨o2, h4, h2, ?_⟩
   cases s with
   | none => exact h3
   | some r => have := congrFun (hf i hne) r; rw [← h3]; exact this.symm
  ·cases s with
   | none => exact ⟨_, hob, rfl, h3⟩
   | some r => rw [show loc'.at i (some r) = loc'.f i r from rfl, hfid] at h3; cases h3
 refine ⟨loc', hr.step (fun _ => False) (Keep.refl _ _) (fun _ h => h.elim) (by simp) (fun _ _ => rfl) ?_ ?_ ?_⟩
 ·rintro b2 ⟨i, o2, s, c2, h1, h2, h3⟩
  obtain ⟨o3, h4, h5, h6⟩ := hin i o2 s b2 c2 h1 h2 h3
  exact ⟨.inl ⟨i, o3, s, c2, h4, h5, h6⟩, (hr.fresh i o3 s b2 c2 h4 h5 h6).1⟩
 ·intro i j o1 o2 s s' b1 c1 c2 h1 h2 h3 h4 h5 h6
  obtain ⟨o3, h7, h8, h9⟩ := hin i o1 s b1 c1 h1 h2 h5
  obtain ⟨o4, h10, h11, h12⟩ := hin j o2 s' b1 c2 h3 h4 h6
  exact hr.inj i j o3 o4 s s' b1 c1 c2 h7 h8 h10 h11 h9 h12
 ·intro hle i o2 h1
  rcases hcase i o2 h1 with ⟨hne, h4⟩ | ⟨rfl, rfl⟩
  ·exact .inl ⟨h4, (List.getElem?_eq_some_iff.1 h4).1, hf i hne, fun _ _ _ _ _ hf => hf⟩
  ·right
   have hrep := hr.rep i _ hob
   rw [hfid]
   show RepO _ (loc i) _ _
   cases hl : loc i with
   | none => rw [hl] at hrep; exact hrep
   | some bc =>
    obtain ⟨b, c⟩ := bc
    rw [hl] at hrep
    obtain ⟨arr, hh, h2, h3, h4, h5⟩ := hrep
    refine ⟨arr, hh, by rw [h2]; simp, h3, h4, fun i' hi' => ?_⟩
    obtain ⟨y, hy, hry⟩ := h5 i' hi' 0 (by omega)
    rw [hg i' hi'] at hry
    exact ⟨y, by simpa using hy, ⟨hry, hlen i' hi'⟩, hlen i' hi'⟩
theorem Sub.focus {N : Fr} {st : St} {F H T k n h : Nat} {len : Nat → Nat} {get : Nat → Nat → Nat → Cell} (hob : st.objs[F]? = some (.rows H T k n len get none)) (hh : h < n) :
  Sub N st ⟨st.slots, st.objs.set F (.rows H T k n len get (some (h, .own st.objs.length (len h)))) ++ [.arr T k (len h) (get h)]⟩ := by
 refine Sub.reform fun e loc w hr => ?_
 have hid : F < st.objs.length := (List.getElem?_eq_some_iff.1 hob).1
 obtain ⟨N0, hN0⟩ : ∃ N0, N0 = st.objs.length := ⟨_, rfl⟩
 let o1 : Ob := .rows H T k n len get (some (h, .own st.objs.length (len h)))
 let o2 : Ob := .arr T k (len h) (get h)
 let loc' : Loc := locAdd loc st.objs.length (loc.f F h)
 have hlo : ∀ i, i < st.objs.length → loc' i = loc i := fun i hi => by show (locAdd loc st.objs.length (loc.f F h)).b i = _; simp only [locAdd]; rw [if_neg (by omega)]
 have hlf : ∀ i, i < st.objs.length → loc'.f i = loc.f i := fun i hi => by funext r; show (locAdd loc st.objs.length (loc.f F h)).f i r = _; simp only [locAdd]; rw [if_neg (by omega)]
 have hls : ∀ i s, i < st.objs.length → loc'.at i s = loc.at i s := fun i s hi => by
  cases s with
  | none => exact hlo i hi
  | some r => exact congrFun (hlf i hi) r
 have hlnew : loc' st.objs.length = loc.f F h := by show (locAdd loc st.objs.length (loc.f F h)).b _ = _; simp [locAdd]
 have hcase : ∀ (i : Nat) (o3 : Ob), (st.objs.set F o1 ++ [o2])[i]? = some o3 → (i < st.objs.length ∧ i ≠ F ∧ st.objs[i]? = some o3) ∨ (i = F ∧ o3 = o1) ∨ (i = st.objs.length ∧ o3 = o2) := by
  intro i o3 hi
  rcases Nat.lt_or_ge i st.objs.length with hlt | hge
  ·rw [List.getElem?_append_left (by simpa using hlt)] at hi
   rcases set_case hid i o3 hi with ⟨h1, h2⟩ | h1
   ·exact .inl ⟨hlt, h1, h2⟩
   ·exact .inr (.inl h1)
  ·rw [List.getElem?_append_right (by simpa using hge)] at hi
   simp only [List.length_set] at hi
   cases hq : i - st.objs.length with
   | zero => rw [hq] at hi; simp at hi; exact .inr (.inr ⟨by omega, hi.symm⟩)
   | succ q => rw [hq] at hi; simp at hi
 -- every owned place was owned before, under another name perhaps
 have hin : ∀ (i : Nat) (o3 : Ob) (s : Option Nat) (b2 c2 : Nat), (st.objs.set F o1 ++ [o2])[i]? = some o3 → o3.has s = true → loc'.at i s = some (b2, c2) →
   ∃ i' s' o4, st.objs[i']? = some o4 ∧ o4.has s' = true ∧ loc.at i' s' = some (b2, c2) ∧ ((i = i' ∧ s = s' ∧ i < st.objs.length ∧ ¬ (i = F ∧ s = some h)) ∨ (i = st.objs.length ∧ s = none ∧ i' = F ∧ s' = some h)) := by
  intro i o3 s b2 c2 h1 h2 h3
  rcases hcase i o3 h1 with ⟨hi, hne, h4⟩ | ⟨rfl, rfl⟩ | ⟨rfl, rfl⟩
  ·rw [hls i s hi] at h3
   exact ⟨i, s, o3, h4, h2, h3, .inl ⟨rfl, rfl, hi, fun hh => hne hh.1⟩⟩
  ·rw [hls i s hid] at h3
   refine ⟨i, s, _, hob, ?_, h3, .inl ⟨rfl, rfl, hid, ?_⟩⟩
   ·cases s with
    | none => rfl
    | some r =>
     simp only [o1, Ob.has, Ob.mem, Bool.and_eq_true] at h2 ⊢
     exact ⟨h2.1, trivial⟩
   ·rintro ⟨_, rfl⟩
    simp [o1, Ob.has, Ob.mem] at h2
  ·cases s with
   | none =>
    have h3' : loc' st.objs.length = some (b2, c2) := h3
    rw [hlnew] at h3'
    exact ⟨F, some h, _, hob, by simp [Ob.has, Ob.mem, Nat.blt_eq, hh], h3', .inr ⟨rfl, rfl, rfl, rfl⟩⟩
   | some r => simp [o2, Ob.has, Ob.mem] at h2
 refine ⟨loc', hr.step (fun _ => False) (Keep.refl _ _) (fun _ h => h.elim) (by simp) hlo ?_ ?_ ?_⟩
 ·rintro b2 ⟨i, o3, s, c2, h1, h2, h3⟩
  obtain ⟨i', s', o4, h4, h5, h6, _⟩ := hin i o3 s b2 c2 h1 h2 h3
  exact ⟨.inl ⟨i', o4, s', c2, h4, h5, h6⟩, (hr.fresh i' o4 s' b2 c2 h4 h5 h6).1⟩
 ·intro i j p1 p2 s s' b1 c1 c2 h1 h2 h3 h4 h5 h6
  obtain ⟨i1, s1, o5, h7, h8, h9, hA⟩ := hin i p1 s b1 c1 h1 h2 h5
  obtain ⟨i2, s2, o6, h10, h11, h12, hB⟩ := hin j p2 s' b1 c2 h3 h4 h6
  obtain ⟨e1, e2⟩ := hr.inj i1 i2 o5 o6 s1 s2 b1 c1 c2 h7 h8 h10 h11 h9 h12
  subst e1 e2
  rcases hA with ⟨rfl, rfl, hi, hn⟩ | ⟨rfl, rfl, rfl, rfl⟩ <;> rcases hB with ⟨rfl, rfl, hj, hm⟩ | ⟨rfl, rfl, hb, hc⟩
  ·exact ⟨rfl, rfl⟩
  ·exact absurd ⟨hb, hc⟩ hn
  ·exact absurd ⟨rfl, rfl⟩ hm
  ·exact ⟨rfl, rfl⟩
 ·intro hle i o3 h1
  rcases hcase i o3 h1 with ⟨hi, hne, h4⟩ | ⟨rfl, rfl⟩ | ⟨rfl, rfl⟩
  ·exact .inl ⟨h4, hi, hlf i hi, fun _ _ _ _ _ hf => hf⟩
  ·right
   have hrep := hr.rep i _ hob
   rw [hlo i hid, hlf i hid]
   cases hl : loc i with
   | none => rw [hl] at hrep; exact hrep
   | some bc =>
    obtain ⟨b, c⟩ := bc
    rw [hl] at hrep
    obtain ⟨arr, hh2, h2, h3, h4, h5⟩ := hrep
    refine ⟨arr, hh2, h2, h3, h4, fun i' hi' => ?_⟩
    obtain ⟨y, hy, hrv, hra⟩ := h5 i' hi'
    refine ⟨y, hy, fun he => ?_, fun hne => ⟨hrv, hra.mono hle (fun _ _ _ => rfl)⟩⟩
    subst he
    refine ⟨rfl, by show st.objs.length < (st.objs.set i o1 ++ [o2]).length; simp, ?_⟩
    show match loc' st.objs.length with | none => _ | some (b, c) => _
    rw [hlnew]
    exact hrv
  ·right
   have hrep := hr.rep F _ hob
   rw [hlnew]
   cases hl : loc F with
   | none => rw [hl] at hrep; have : n = 0 := hrep; omega
   | some bc =>
    obtain ⟨b, c⟩ := bc
    rw [hl] at hrep
    obtain ⟨arr, hh2, h2, h3, h4, h5⟩ := hrep
    obtain ⟨y, hy, hrv, hra⟩ := h5 h hh
    exact hra.mono hle (fun _ _ _ => rfl)
theorem Sub.unfocus {N : Fr} {st : St} {F H T k n h j m : Nat} {len : Nat → Nat} {get : Nat → Nat → Nat → Cell} {len' : Nat → Nat} {get' : Nat → Nat → Nat → Cell} {g : Nat → Nat → Cell} (hob : st.objs[F]? = some (.rows H T k n len get (some (h, .own j m)))) (hobj : st.objs[j]? = some (.arr T k m g))
  (hne : ∀ i, i < n → i ≠ h → len' i = len i ∧ ∀ a, a < len i → ∀ q, q < k → get' i a q = get i a q) (heq : h < n → len' h = m ∧ ∀ a, a < m → ∀ q, q < k → get' h a q = g a q) :
  Sub N st ⟨st.slots, (st.objs.set F (.rows H T k n len' get' none)).set j .dead⟩ := by
 refine Sub.reform fun e loc w hr => ?_
 have hid : F < st.objs.length := (List.getElem?_eq_some_iff.1 hob).1
 have hjd : j < st.objs.length := (List.getElem?_eq_some_iff.1 hobj).1
 have hFj : F ≠ j := by
  intro h
  subst h
  rw [hob] at hobj
  cases hobj
 let o1 : Ob := .rows H T k n len' get' none
 let loc' : Loc := ⟨loc.b, fun i r => if i = F ∧ r = h then loc j else loc.f i r⟩
 have hf : ∀ i, i ≠ F → loc'.f i = loc.f i := fun i hi => by funext r; show (if i = F ∧ r = h then _ else _) = _; rw [if_neg (fun hh => hi hh.1)]
 have hfF : ∀ r, r ≠ h → loc'.f F r = loc.f F r := fun r hr => by show (if F = F ∧ r = h then _ else _) = _; rw [if_neg (fun hh => hr hh.2)]
 have hfh : loc'.f F h = loc j := by show (if F = F ∧ h = h then _ else _) = _; rw [if_pos ⟨rfl, rfl⟩]
 have hcase : ∀ (i : Nat) (o3 : Ob), ((st.objs.set F o1).set j .dead)[i]? = some o3 → (i ≠ F ∧ i ≠ j ∧ st.objs[i]? = some o3) ∨ (i = F ∧ o3 = o1) ∨ (i = j ∧ o3 = .dead) := by
  intro i o3 hi
  rcases set_case (by simpa using hjd) i o3 hi with ⟨h1, h2⟩ | h1
  ·rcases set_case hid i o3 h2 with ⟨h3, h4⟩ | h3
   ·exact .inl ⟨h3, h1, h4⟩
   ·exact .inr (.inl h3)
  ·exact .inr (.inr h1)
 have hin : ∀ (i : Nat) (o3 : Ob) (s : Option Nat) (b2 c2 : Nat), ((st.objs.set F o1).set j .dead)[i]? = some o3 → o3.has s = true → loc'.at i s = some (b2, c2) →
   ∃ i' s' o4, st.objs[i']? = some o4 ∧ o4.has s' = true ∧ loc.at i' s' = some (b2, c2) ∧ ((i = i' ∧ s = s' ∧ i' ≠ j) ∨ (i = F ∧ s = some h ∧ i' = j ∧ s' = none)) := by
  intro i o3 s b2 c2 h1 h2 h3
  rcases hcase i o3 h1 with ⟨hi, hne, h4⟩ | ⟨rfl, rfl⟩ | ⟨rfl, rfl⟩
  ·refine ⟨i, s, o3, h4, h2, ?_, .inl ⟨rfl, rfl, hne⟩⟩
   cases s with
   | none => exact h3
   | some r => have := congrFun (hf i hi) r; rw [← h3]; exact this.symm
  ·cases s with
   | none => exact ⟨i, none, _, hob, rfl, h3, .inl ⟨rfl, rfl, hFj⟩⟩
   | some r =>
    by_cases hrh : r = h
    ·subst hrh
     have h3' : loc'.f i r = some (b2, c2) := h3
     rw [hfh] at h3'
     exact ⟨j, none, _, hobj, rfl, h3', .inr ⟨rfl, rfl, rfl, rfl⟩⟩
    ·have h3' : loc'.f i r = some (b2, c2) := h3
     rw [hfF r hrh] at h3'
     refine ⟨i, some r, _, hob, ?_, h3', .inl ⟨rfl, rfl, hFj⟩⟩
     simp only [o1, Ob.has, Ob.mem, Bool.and_eq_true] at h2 ⊢
     have hb : Nat.beq r h = false := Bool.eq_false_iff.2 (fun hh => hrh (Nat.eq_of_beq_eq_true hh))
     exact ⟨h2.1, by rw [hb]; rfl⟩
  ·cases s <;> simp [Ob.has, Ob.mem, Ob.live] at h2
 refine ⟨loc', hr.step (fun _ => False) (Keep.refl _ _) (fun _ h => h.elim) (by simp) (fun _ _ => rfl) ?_ ?_ ?_⟩
 ·rintro b2 ⟨i, o3, s, c2, h1, h2, h3⟩
  obtain ⟨i', s', o4, h4, h5, h6, _⟩ := hin i o3 s b2 c2 h1 h2 h3
  exact ⟨.inl ⟨i', o4, s', c2, h4, h5, h6⟩, (hr.fresh i' o4 s' b2 c2 h4 h5 h6).1⟩
 ·intro i i2 p1 p2 s s' b1 c1 c2 h1 h2 h3 h4 h5 h6
  obtain ⟨i1, s1, o5, h7, h8, h9, hA⟩ := hin i p1 s b1 c1 h1 h2 h5
  obtain ⟨i3, s2, o6, h10, h11, h12, hB⟩ := hin i2 p2 s' b1 c2 h3 h4 h6
  obtain ⟨e1, e2⟩ := hr.inj i1 i3 o5 o6 s1 s2 b1 c1 c2 h7 h8 h10 h11 h9 h12
  subst e1 e2
  rcases hA with ⟨rfl, rfl, hn⟩ | ⟨rfl, rfl, rfl, rfl⟩ <;> rcases hB with ⟨rfl, rfl, hm⟩ | ⟨rfl, rfl, hb, hc⟩
  ·exact ⟨rfl, rfl⟩
  ·exact absurd hb hn
  ·exact absurd rfl hm
  ·exact ⟨rfl, rfl⟩
 ·intro hle i o3 h1
  rcases hcase i o3 h1 with ⟨hi, hne, h4⟩ | ⟨rfl, rfl⟩ | ⟨rfl, rfl⟩
  ·exact .inl ⟨h4, (List.getElem?_eq_some_iff.1 h4).1, hf i hi, fun _ _ _ _ _ hf => hf⟩
  ·right
   have hrep := hr.rep i _ hob
   have hrepj := hr.rep j _ hobj
   show RepO _ (loc i) _ _
   cases hl : loc i with
   | none => rw [hl] at hrep; exact hrep
   | some bc =>
    obtain ⟨b, c⟩ := bc
    rw [hl] at hrep
    obtain ⟨arr, hh2, h2, h3, h4, h5⟩ := hrep
    refine ⟨arr, hh2, h2, h3, h4, fun i' hi' => ?_⟩
    obtain ⟨y, hy, hra⟩ := h5 i' hi'
    refine ⟨y, hy, ?_⟩
    have conv : ∀ (l : Option (Nat × Nat)) (n1 n2 : Nat) (g1 g2 : Nat → Nat → Cell), n1 = n2 → (∀ a, a < n2 → ∀ q, q < k → g1 a q = g2 a q) → RepArr (ctx e st.objs loc w) l T k n2 g2 → RepArr (ctx e ((st.objs.set i o1).set j .dead) loc' w) l T k n1 g1 := by
     intro l n1 n2 g1 g2 hn hgg hA
     subst hn
     have hA' := hA.mono hle (fun _ _ _ => rfl)
     cases l with
     | none => exact hA'
     | some bc =>
      obtain ⟨b, c⟩ := bc
      obtain ⟨arr, k1, k2, k3, k4, k5⟩ := hA'
      refine ⟨arr, k1, k2, k3, k4, fun a ha q hq => ?_⟩
      obtain ⟨y, hy, hr⟩ := k5 a ha q hq
      exact ⟨y, hy, by rw [hgg a ha q hq]; exact hr⟩
    by_cases hih : i' = h
    ·subst hih
     obtain ⟨e1, e2⟩ := heq hi'
     have h6 := hra.1 rfl
     obtain ⟨_, _, hm⟩ := h6
     show RowV (loc'.f i i') _ y ∧ RepArr _ (loc'.f i i') _ _ _ _
     rw [hfh, e1]
     exact ⟨hm, conv _ _ _ _ _ rfl e2 hrepj⟩
    ·obtain ⟨e1, e2⟩ := hne i' hi' hih
     obtain ⟨h6, h7⟩ := hra.2 hih
     show RowV (loc'.f i i') _ y ∧ RepArr _ (loc'.f i i') _ _ _ _
     rw [hfF i' hih, e1]
     exact ⟨h6, conv _ _ _ _ _ rfl e2 h7⟩
  ·right; trivial
section
variable {α : Type} {c : α → Nat → Cell} {d0 : α} {P : Program} {N : Fr} {o : Oper} {st : St} {x y : Operand} {t : TypeId} {d : Nat} {ev : Operand → AV} {objs : List Ob}
theorem Sub.unfocusL {F H T k h j m : Nat} {l : List (List α)} {l' : List α} (hm : l'.length = m) (hob : st.objs[F]? = some (.rows H T k l.length (rLen l) (rGet c d0 l) (some (h, .own j m)))) (hobj : st.objs[j]? = some (.arr T k l'.length (gL c d0 l'))) :
  Sub N st ⟨st.slots, (st.objs.set F (.rows H T k (l.set h l').length (rLen (l.set h l')) (rGet c d0 (l.set h l')) none)).set j .dead⟩ := by
 subst hm
 rw [List.length_set]
 have e1 : ∀ i, i ≠ h → (l.set h l').getD i [] = l.getD i [] := fun i hi => by rw [List.getD_eq_getElem?_getD, List.getD_eq_getElem?_getD, List.getElem?_set_ne (Ne.symm hi)]
 have e2 : h < l.length → (l.set h l').getD h [] = l' := fun hh => by rw [List.getD_eq_getElem?_getD, List.getElem?_set_self hh]; rfl
 exact Sub.unfocus hob hobj (fun i _ hi => by unfold rLen rGet; rw [e1 i hi]; exact ⟨rfl, fun _ _ _ _ => rfl⟩) (fun hh => by unfold rLen rGet; rw [e2 hh]; exact ⟨rfl, fun _ _ _ _ => rfl⟩)
theorem q_load_hole {F H T k n h : Nat} {len : Nat → Nat} {get : Nat → Nat → Nat → Cell} {q : Cell} (ho : o.op = .load t x) (hx : ev x = .c (.aptr F 1 h 0)) (hob : objs[F]? = some (.rows H T k n len get (some (h, q)))) (hi : h < n) (ht : tyB P t false 1 = true) : QOp P o ev objs (.c q) := by
 refine QOp.of_run fun e loc w a hr hh => ?_
 have h1 := hh x (by simp [ho, Op.operands]); rw [hx] at h1
 obtain ⟨_, hB, b, c, hl, hv⟩ := h1
 have hl' : loc F = some (b, c) := hl
 have hrep := hr.rep F _ hob
 rw [hl'] at hrep
 obtain ⟨arr, hh2, h2, h3, h4, h5⟩ := hrep
 obtain ⟨y, hy, hra⟩ := h5 h hi
 refine ⟨y, ?_, hra.1 rfl⟩
 have hh3 : w.heap[b]? = some (.cells arr H (0, 0)) := hh2
 have hcell : w.cell? ⟨b, h * 1 + 0, none⟩ = some y := by rw [cell_of_heap hh3]; simpa using hy
 simp only [execOp, ho, hv, Instr.loadAt, Instr.sureAddr, Sem.run_bind, Sem.run_pure, Result.andThen_ok, run_loadVar1 ht w _ _ hcell]
theorem e_store_hole {F H T k n h : Nat} {len : Nat → Nat} {get : Nat → Nat → Nat → Cell} {q q' : Cell} (ho : o.op = .store t x y) (hd : o.dst = none) (hx : evs st.slots x = .c (.aptr F 1 h 0)) (hob : st.objs[F]? = some (.rows H T k n len get (some (h, q)))) (hy : evs st.slots y = .c q')
  (hi : h < n) (ht : tyB P t false 1 = true) (h1 : q'.one = true) : EOp P N o st ⟨st.slots, st.objs.set F (.rows H T k n len get (some (h, q')))⟩ := by
 intro e loc a w hr K Q hK
 have h2 := hr.eval x; rw [hx] at h2
 have h3 := hr.eval y; rw [hy] at h3
 obtain ⟨_, _, b, c', hloc, hv⟩ := h2
 have hloc' : loc F = some (b, c') := hloc
 have hrep := hr.heap.rep F _ hob
 rw [hloc'] at hrep
 obtain ⟨arr, hh, hs, hnc, hcm, hg⟩ := hrep
 have h3' : RepC (ctx e st.objs loc w) true q' (a.eval y) := h3
 obtain ⟨hone, hcells⟩ := RepC.one h3' h1
 have hrun : (execOp a.eval o).run P w = .ok .skip (w.setRow b (arr.toList.take (h * 1 + 0) ++ (a.eval y).cells.toList ++ arr.toList.drop (h * 1 + 0 + (a.eval y).cells.toList.length)).toArray) := by
  have := run_storeVar' ht w b (h * 1 + 0) (a.eval y) H arr hh (by rw [hcells]; rfl) (by omega) (by rw [hcells]; intro u hu; simp at hu; subst hu; exact hone)
  simp only [execOp, ho, hv, Instr.storeAt, Instr.sureAddr, Sem.run_bind, Sem.run_pure, Result.andThen_ok, this]
 obtain ⟨nw, hnw⟩ : ∃ nw : Array Value, nw = (arr.toList.take (h * 1 + 0) ++ (a.eval y).cells.toList ++ arr.toList.drop (h * 1 + 0 + (a.eval y).cells.toList.length)).toArray := ⟨_, rfl⟩
 rw [← hnw] at hrun
 have hget : ∀ i, nw[i]? = if i = h then some (a.eval y) else arr[i]? := by
  intro i
  have e0 : (a.eval y).cells.toList = [a.eval y] := by rw [hcells]
  rw [hnw, e0]
  simp only [List.getElem?_toArray, Nat.mul_one, Nat.add_zero, List.length_cons, List.length_nil]
  have hlt : h < arr.size := by omega
  by_cases hih : i = h
  ·subst hih
   rw [if_pos rfl, List.append_assoc, List.getElem?_append_right (by rw [List.length_take]; exact Nat.min_le_left _ _), List.getElem?_append_left (by simp; omega)]
   simp [Nat.min_eq_left (Nat.le_of_lt hlt)]
  ·rw [if_neg hih]
   rcases Nat.lt_or_ge i h with hlt2 | hge
   ·rw [List.append_assoc, List.getElem?_append_left (by simp; omega), List.getElem?_take_of_lt hlt2]; simp
   ·rw [List.getElem?_append_right (by simp; omega), List.getElem?_drop]
    simp only [List.length_append, List.length_take, List.length_cons, List.length_nil, Array.length_toList]
    rw [Nat.min_eq_left (by omega), show h + (0 + 1) + (i - (h + (0 + 1))) = i by omega]
    simp
 have hsize : nw.size = arr.size := by
  rw [hnw]
  have e0 : (a.eval y).cells.toList = [a.eval y] := by rw [hcells]
  rw [e0]
  simp only [List.size_toArray, List.length_append, List.length_take, List.length_drop, Array.length_toList, List.length_cons, List.length_nil]
  omega
 unfold Oper.wp
 rw [hrun]
 have hstep := hr.step (hr.heap.write (o' := .rows H T k n len get (some (h, q'))) hob rfl hloc' (keep_setRow w b nw) (fun hle => by
  rw [hloc']
  refine ⟨nw, setRow_heap w b arr nw H _ hh, hsize.trans hs, hnc, hcm, fun i hi' => ?_⟩
  obtain ⟨y', hy', hra⟩ := hg i hi'
  rw [hget i]
  by_cases hih : i = h
  ·subst hih
   rw [if_pos rfl]
   exact ⟨_, rfl, fun _ => RepC.mono hle _ _ _ h3', fun hne => absurd rfl hne⟩
  ·rw [if_neg hih]
   have hbq : Nat.beq i h = false := Bool.eq_false_iff.2 (fun hh => hih (Nat.eq_of_beq_eq_true hh))
   refine ⟨y', hy', fun he => absurd he hih, fun _ => ⟨(hra.2 hih).1, ?_⟩⟩
   have hra2 := (hra.2 hih).2
   cases hlf : loc.f F i with
   | none => rw [hlf] at hra2; exact hra2
   | some bc =>
    obtain ⟨b2, c2⟩ := bc
    rw [hlf] at hra2
    refine hra2.mono hle (fun b3 c3 hl3 => ?_)
    cases hl3
    refine (keep_setRow w b nw).block b2 ?_ ?_
    ·exact (hr.heap.fresh F _ (some i) b2 c2 hob (by simp [Ob.has, Ob.mem, Nat.blt_eq, hi', hbq]) hlf).1
    ·intro hbb
     subst hbb
     have := (hr.heap.inj F F _ _ (some i) none b2 c2 c' hob (by simp [Ob.has, Ob.mem, Nat.blt_eq, hi', hbq]) hob rfl hlf hloc').2
     cases this))
 rw [Oper.upon_skip, hd]
 exact hK _ _ loc hstep
theorem e_makeRows {H T k bytes : Nat} {lx cx : Operand} {kl kc : IntKind} {l c1 : Int} (c : α → Nat → Cell) (d0 : α) (ho : o.op = .makeSlice t lx cx) (hd : o.dst = some d) (hN : Nat.blt d N.N = true) (hl : evs st.slots lx = .c (.int kl l)) (hc : evs st.slots cx = .c (.int kc c1))
  (ht : slB P t H 1 bytes = true) (hz : (P.info? H).map (·.zero) = some (some (.slice none 0 0))) (h0 : 0 ≤ l) (hlc : l ≤ c1) (hb : (bytes : Int) * c1 ≤ 281474976710656) (hm : c1 ≤ 281474976710656) :
  EOp P N o st ⟨(d, .c (.own st.objs.length (List.replicate l.toNat ([] : List α)).length)) :: st.slots, st.objs ++ [.rows H T k (List.replicate l.toNat ([] : List α)).length (rLen (List.replicate l.toNat ([] : List α))) (rGet c d0 (List.replicate l.toNat ([] : List α))) none]⟩ := by
 rw [List.length_replicate]
 refine (e_make ho hd hN hl hc ht hz rfl rfl h0 hlc hb hm).sub ?_
 have := Sub.toRows (N := N) (T := T) (k := k) (len := rLen (List.replicate l.toNat ([] : List α))) (g := rGet c d0 (List.replicate l.toNat ([] : List α))) (st := ⟨(d, .c (.own st.objs.length l.toNat)) :: st.slots, st.objs ++ [.arr H 1 l.toNat fun _ j => cellOf ((Value.slice none 0 0).cells.getD j undef)]⟩) (last_id _ _)
  (fun i hi => rfl) (fun i hi => by
   unfold rLen
   rw [List.getD_eq_getElem?_getD, List.getElem?_replicate]; split <;> rfl)
 rwa [set_last] at this
def iXor (k : IntKind) (m n : Int) : Int := k.wrap ((BitVec.ofInt k.bits m ^^^ BitVec.ofInt k.bits n).toNat : Nat)
theorem q_xor {k : IntKind} {m n : Int} {t1 t2 : TypeId} (ho : o.op = .binOp .xor t1 x y t2) (hx : ev x = .c (.int k m)) (hy : ev y = .c (.int k n)) : QOp P o ev objs (.c (.int k (iXor k m n))) :=
 q_binInt ho hx hy fun w => ⟨.int k (iXor k m n), by simp [eqGuard, binOp, Op.intBits, iXor], fun _ => rfl⟩
theorem Sub.nilBox {id j T k : Nat} {cs : List Cell} {g : Nat → Nat → Cell} (hob : st.objs[id]? = some (.box cs)) (hj : cs[j]? = some (.raw (.slice none 0 0))) :
  Sub N st ⟨st.slots, st.objs.set id (.box (cs.set j (.own st.objs.length 0))) ++ [.arr T k 0 g]⟩ := by
 refine Sub.reform fun e loc w hr => ?_
 have hid : id < st.objs.length := (List.getElem?_eq_some_iff.1 hob).1
 have hb := hr.birth (Below.refl _ _) (.arr T k 0 g) none (fun b c h => by cases h) (fun _ => rfl)
 have hob' : (st.objs ++ [.arr T k 0 g])[id]? = some (.box cs) := by rw [List.getElem?_append_left hid]; exact hob
 obtain ⟨b, c, arr, T', hl, hh, hL⟩ := hb.rep.box hob'
 have hw := hb.rep.write (o' := .box (cs.set j (.own st.objs.length 0))) hob' rfl hl (Keep.refl _ _) (fun hle => by
  refine ⟨b, c, arr, T', hl, hh, ?_⟩
  obtain ⟨v, hv, hrv⟩ := hL.get j _ hj
  have e1 : arr.toList = arr.toList.set j v := by
   apply List.ext_getElem?
   intro i
   by_cases hij : j = i
   ·subst hij
    have hlt := (List.getElem?_eq_some_iff.1 hv).1
    rw [List.getElem?_set_self hlt]; exact hv
   ·rw [List.getElem?_set_ne hij]
  rw [e1]
  refine (RepL.mono hle _ _ _ hL).set j _ v ⟨rfl, by show st.objs.length < _; simp, ?_⟩
  show match (locAdd loc st.objs.length none) st.objs.length with | none => _ | some (b, c) => _
  have : (locAdd loc st.objs.length none) st.objs.length = none := by simp [locAdd]
  rw [this]
  exact ⟨hrv, rfl⟩)
 rw [List.set_append_left _ _ hid] at hw
 exact ⟨_, hw.rep, ⟨fun b o y hO hc => hw.le.cell b o y (hb.le.own b o y hO hc) (hb.le.cell b o y hO hc), fun b o y hO hc => hw.le.own b o y (hb.le.own b o y hO hc) (hb.le.cell b o y hO hc), fun i hi => ⟨(hw.le.born i (hb.le.born i hi).1).1, (hw.le.born i (hb.le.born i hi).1).2.trans (hb.le.born i hi).2⟩⟩, Nat.le_trans hb.len hw.len, fun i hi => (hw.loc i (Nat.lt_of_lt_of_le hi hb.len)).trans (hb.loc i hi)⟩
end
end Go.Proofs.Ytfefnffdocmlmaa.E
