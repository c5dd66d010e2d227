/- Maps whose values are maps, each with memory of its own: one is taken out, written, and laid back. The keys of a map, sorted. -/
import Derived.Test.YtoncfkdgddfnlaaEngY
import Derived.Laws.Externs
namespace Go.Proofs.Ytoncfkdgddfnlaa.E
open Go Go.RowKit
set_option linter.unusedVariables false
section
variable {α β : Type}
def mmRow (l : List (ByteArray × List (ByteArray × α))) (i : Nat) : List (ByteArray × α) := (l.map Prod.snd).getD i []
def mmO (mv : α → V1) (d0 : α) (l : List (ByteArray × List (ByteArray × α))) (hole : Option (Nat × Cell)) : Ob :=
 .maps l.length (kG l) (fun i => (mmRow l i).length) (fun i => kG (mmRow l i)) (fun i => vG mv d0 (mmRow l i)) hole
def aix (l : List (ByteArray × β)) (s : ByteArray) : Nat := (aidx l s).getD 0
theorem aix_of {l : List (ByteArray × β)} {s : ByteArray} (hs : (alook l s).isSome = true) : aidx l s = some (aix l s) := by
 unfold aix
 cases h : aidx l s with
 | none => unfold alook at hs; rw [h] at hs; cases hs
 | some j => rfl
theorem alook_no {l : List (ByteArray × β)} {s : ByteArray} (hs : (alook l s).isSome = false) : aidx l s = none := by
 cases h : aidx l s with
 | none => rfl
 | some j => obtain ⟨hj, h2⟩ := alook_some (l := l) h; rw [h2] at hs; cases hs
theorem mmRow_aix {l : List (ByteArray × List (ByteArray × α))} {s : ByteArray} (hs : (alook l s).isSome = true) : aix l s < l.length ∧ mmRow l (aix l s) = (alook l s).getD [] := by
 obtain ⟨hj, h2⟩ := alook_some (l := l) (aix_of hs)
 refine ⟨hj, ?_⟩
 rw [h2, Option.getD_some]
 unfold mmRow
 rw [List.getD_eq_getElem?_getD, List.getElem?_map, List.getElem?_eq_getElem hj]
 rfl
theorem aidx_new : ∀ {l : List (ByteArray × β)} {s : ByteArray} (v : β), aidx l s = none → aidx (l ++ [(s, v)]) s = some l.length
 | [], s, v, _ => by
  have : sEq s s = true := by unfold sEq; simp
  simp [aidx, this]
 | (k, u) :: l, s, v, h => by
  simp only [aidx] at h
  cases hq : sEq s k with
  | true => rw [hq] at h; cases h
  | false =>
   rw [hq] at h
   simp only [cond_false, Option.map_eq_none_iff] at h
   have ih := aidx_new v h
   simp only [List.cons_append, aidx, hq, cond_false, ih, Option.map_some, List.length_cons]
theorem aix_new {l : List (ByteArray × β)} {s : ByteArray} (v : β) (hs : (alook l s).isSome = false) : aix (l ++ [(s, v)]) s = l.length := by
 unfold aix; rw [aidx_new v (alook_no hs)]; rfl
theorem alook_new {l : List (ByteArray × β)} {s : ByteArray} (v : β) (hs : (alook l s).isSome = false) : (alook (l ++ [(s, v)]) s).isSome = true := by
 unfold alook; rw [aidx_new v (alook_no hs)]; simp
theorem sEq_out {a b : ByteArray} (h : sEq a b = true) : a = b := by
 obtain ⟨⟨x⟩⟩ := a
 obtain ⟨⟨y⟩⟩ := b
 unfold sEq at h
 have : x = y := by simpa using h
 rw [this]
end
theorem Sub.focusG {N : Fr} {st : St} {F n h : Nat} {key : Nat → Cell} {len : Nat → Nat} {ik : Nat → Nat → Cell} {iv : Nat → Nat → V1} (hob : st.objs[F]? = some (.maps n key len ik iv none)) (hh : h < n) :
  Sub N st ⟨st.slots, st.objs.set F (.maps n key len ik iv (some (h, .mp st.objs.length))) ++ [.map (len h) (ik h) (iv h)]⟩ := by
 refine Sub.reform fun e loc w hr => ?_
 have hid : F < st.objs.length := (List.getElem?_eq_some_iff.1 hob).1
 let o1 : Ob := .maps n key len ik iv (some (h, .mp st.objs.length))
 let o2 : Ob := .map (len h) (ik h) (iv h)
 let loc' : Loc := locAdd loc st.objs.length (loc.f F h)
 have hlo : ∀ i, i < st.objs.length → loc' i = loc i := fun i hi => by show (locAdd loc st.objs.length (loc.f F h)).b i = _; simp only [locAdd]; rw [if_neg (by omega)]
 have hlf : ∀ i, i < st.objs.length → loc'.f i = loc.f i := fun i hi => by funext r; show (locAdd loc st.objs.length (loc.f F h)).f i r = _; simp only [locAdd]; rw [if_neg (by omega)]
 have hls : ∀ i s, i < st.objs.length → loc'.at i s = loc.at i s := fun i s hi => by
  cases s with
  | none => exact hlo i hi
  | some r => exact congrFun (hlf i hi) r
 have hlnew : loc' st.objs.length = loc.f F h := by show (locAdd loc st.objs.length (loc.f F h)).b _ = _; simp [locAdd]
 have hcase : ∀ (i : Nat) (o3 : Ob), (st.objs.set F o1 ++ [o2])[i]? = some o3 → (i < st.objs.length ∧ i ≠ F ∧ st.objs[i]? = some o3) ∨ (i = F ∧ o3 = o1) ∨ (i = st.objs.length ∧ o3 = o2) := by
  intro i o3 hi
  rcases Nat.lt_or_ge i st.objs.length with hlt | hge
  ·rw [List.getElem?_append_left (by simpa using hlt)] at hi
   rcases set_case hid i o3 hi with ⟨h1, h2⟩ | h1
   ·exact .inl ⟨hlt, h1, h2⟩
   ·exact .inr (.inl h1)
  ·rw [List.getElem?_append_right (by simpa using hge)] at hi
   simp only [List.length_set] at hi
   cases hq : i - st.objs.length with
   | zero => rw [hq] at hi; simp at hi; exact .inr (.inr ⟨by omega, hi.symm⟩)
   | succ q => rw [hq] at hi; simp at hi
 have hin : ∀ (i : Nat) (o3 : Ob) (s : Option Nat) (b2 c2 : Nat), (st.objs.set F o1 ++ [o2])[i]? = some o3 → o3.has s = true → loc'.at i s = some (b2, c2) →
   ∃ i' s' o4, st.objs[i']? = some o4 ∧ o4.has s' = true ∧ loc.at i' s' = some (b2, c2) ∧ ((i = i' ∧ s = s' ∧ i < st.objs.length ∧ ¬ (i = F ∧ s = some h)) ∨ (i = st.objs.length ∧ s = none ∧ i' = F ∧ s' = some h)) := by
  intro i o3 s b2 c2 h1 h2 h3
  rcases hcase i o3 h1 with ⟨hi, hne, h4⟩ | ⟨rfl, rfl⟩ | ⟨rfl, rfl⟩
  ·rw [hls i s hi] at h3
   exact ⟨i, s, o3, h4, h2, h3, .inl ⟨rfl, rfl, hi, fun hh => hne hh.1⟩⟩
  ·rw [hls i s hid] at h3
   refine ⟨i, s, _, hob, ?_, h3, .inl ⟨rfl, rfl, hid, ?_⟩⟩
   ·cases s with
    | none => rfl
    | some r =>
     simp only [o1, Ob.has, Ob.mem, Bool.and_eq_true] at h2 ⊢
     exact ⟨h2.1, trivial⟩
   ·rintro ⟨_, rfl⟩
    simp [o1, Ob.has, Ob.mem] at h2
  ·cases s with
   | none =>
    have h3' : loc' st.objs.length = some (b2, c2) := h3
    rw [hlnew] at h3'
    exact ⟨F, some h, _, hob, by simp [Ob.has, Ob.mem, Nat.blt_eq, hh], h3', .inr ⟨rfl, rfl, rfl, rfl⟩⟩
   | some r => simp [o2, Ob.has, Ob.mem] at h2
 refine ⟨loc', hr.step (fun _ => False) (Keep.refl _ _) (fun _ h => h.elim) (by simp) hlo ?_ ?_ ?_⟩
 ·rintro b2 ⟨i, o3, s, c2, h1, h2, h3⟩
  obtain ⟨i', s', o4, h4, h5, h6, _⟩ := hin i o3 s b2 c2 h1 h2 h3
  exact ⟨.inl ⟨i', o4, s', c2, h4, h5, h6⟩, (hr.fresh i' o4 s' b2 c2 h4 h5 h6).1⟩
 ·intro i j p1 p2 s s' b1 c1 c2 h1 h2 h3 h4 h5 h6
  obtain ⟨i1, s1, o5, h7, h8, h9, hA⟩ := hin i p1 s b1 c1 h1 h2 h5
  obtain ⟨i2, s2, o6, h10, h11, h12, hB⟩ := hin j p2 s' b1 c2 h3 h4 h6
  obtain ⟨e1, e2⟩ := hr.inj i1 i2 o5 o6 s1 s2 b1 c1 c2 h7 h8 h10 h11 h9 h12
  subst e1 e2
  rcases hA with ⟨rfl, rfl, hi, hn⟩ | ⟨rfl, rfl, rfl, rfl⟩ <;> rcases hB with ⟨rfl, rfl, hj, hm⟩ | ⟨rfl, rfl, hb, hc⟩
  ·exact ⟨rfl, rfl⟩
  ·exact absurd ⟨hb, hc⟩ hn
  ·exact absurd ⟨rfl, rfl⟩ hm
  ·exact ⟨rfl, rfl⟩
 ·intro hle i o3 h1
  rcases hcase i o3 h1 with ⟨hi, hne, h4⟩ | ⟨rfl, rfl⟩ | ⟨rfl, rfl⟩
  ·exact .inl ⟨h4, hi, hlf i hi, fun _ _ _ _ _ hf => hf⟩
  ·right
   obtain ⟨b, c, es, h5, h6, h7, h8⟩ := hr.rep i _ hob
   rw [hlo i hid, hlf i hid]
   refine ⟨b, c, es, h5, h6, h7, fun i' hi' => ?_⟩
   obtain ⟨en, k1, k2, k3, k4, k5⟩ := h8 i' hi'
   refine ⟨en, k1, k2, RepC.mono hle _ _ _ k3, fun he => ?_, fun hne => ⟨k4, k5.mono hle (fun _ _ _ => rfl)⟩⟩
   subst he
   obtain ⟨b2, c2, g1, g2⟩ := k4
   refine ⟨rfl, by show st.objs.length < (st.objs.set i o1 ++ [o2]).length; simp, b2, c2, ?_, g2⟩
   show loc' st.objs.length = _
   rw [hlnew]
   exact g1
  ·right
   obtain ⟨b, c, es, h5, h6, h7, h8⟩ := hr.rep F _ hob
   obtain ⟨en, k1, k2, k3, k4, k5⟩ := h8 h hh
   rw [hlnew]
   exact k5.mono hle (fun _ _ _ => rfl)
theorem Sub.unfocusG {N : Fr} {st : St} {F n h j m : Nat} {key key' : Nat → Cell} {len len' : Nat → Nat} {ik ik' : Nat → Nat → Cell} {iv iv' : Nat → Nat → V1} {kj : Nat → Cell} {gj : Nat → V1} (hob : st.objs[F]? = some (.maps n key len ik iv (some (h, .mp j)))) (hobj : st.objs[j]? = some (.map m kj gj))
  (hk : ∀ i, i < n → key' i = key i) (hne : ∀ i, i < n → i ≠ h → len' i = len i ∧ ik' i = ik i ∧ iv' i = iv i) (heq : h < n → len' h = m ∧ ik' h = kj ∧ iv' h = gj) :
  Sub N st ⟨st.slots, (st.objs.set F (.maps n key' len' ik' iv' none)).set j .dead⟩ := by
 refine Sub.reform fun e loc w hr => ?_
 have hid : F < st.objs.length := (List.getElem?_eq_some_iff.1 hob).1
 have hjd : j < st.objs.length := (List.getElem?_eq_some_iff.1 hobj).1
 have hFj : F ≠ j := by
  intro h
  subst h
  rw [hob] at hobj
  cases hobj
 let o1 : Ob := .maps n key' len' ik' iv' none
 let loc' : Loc := ⟨loc.b, fun i r => if i = F ∧ r = h then loc j else loc.f i r⟩
 have hf : ∀ i, i ≠ F → loc'.f i = loc.f i := fun i hi => by funext r; show (if i = F ∧ r = h then _ else _) = _; rw [if_neg (fun hh => hi hh.1)]
 have hfF : ∀ r, r ≠ h → loc'.f F r = loc.f F r := fun r hr => by show (if F = F ∧ r = h then _ else _) = _; rw [if_neg (fun hh => hr hh.2)]
 have hfh : loc'.f F h = loc j := by show (if F = F ∧ h = h then _ else _) = _; rw [if_pos ⟨rfl, rfl⟩]
 have hcase : ∀ (i : Nat) (o3 : Ob), ((st.objs.set F o1).set j .dead)[i]? = some o3 → (i ≠ F ∧ i ≠ j ∧ st.objs[i]? = some o3) ∨ (i = F ∧ o3 = o1) ∨ (i = j ∧ o3 = .dead) := by
  intro i o3 hi
  rcases set_case (by simpa using hjd) i o3 hi with ⟨h1, h2⟩ | h1
  ·rcases set_case hid i o3 h2 with ⟨h3, h4⟩ | h3
   ·exact .inl ⟨h3, h1, h4⟩
   ·exact .inr (.inl h3)
  ·exact .inr (.inr h1)
 have hin : ∀ (i : Nat) (o3 : Ob) (s : Option Nat) (b2 c2 : Nat), ((st.objs.set F o1).set j .dead)[i]? = some o3 → o3.has s = true → loc'.at i s = some (b2, c2) →
   ∃ i' s' o4, st.objs[i']? = some o4 ∧ o4.has s' = true ∧ loc.at i' s' = some (b2, c2) ∧ ((i = i' ∧ s = s' ∧ i' ≠ j) ∨ (i = F ∧ s = some h ∧ i' = j ∧ s' = none)) := by
  intro i o3 s b2 c2 h1 h2 h3
  rcases hcase i o3 h1 with ⟨hi, hne, h4⟩ | ⟨rfl, rfl⟩ | ⟨rfl, rfl⟩
  ·refine ⟨i, s, o3, h4, h2, ?_, .inl ⟨rfl, rfl, hne⟩⟩
   cases s with
   | none => exact h3
   | some r => have := congrFun (hf i hi) r; rw [← h3]; exact this.symm
  ·cases s with
   | none => exact ⟨i, none, _, hob, rfl, h3, .inl ⟨rfl, rfl, hFj⟩⟩
   | some r =>
    by_cases hrh : r = h
    ·subst hrh
     have h3' : loc'.f i r = some (b2, c2) := h3
     rw [hfh] at h3'
     exact ⟨j, none, _, hobj, rfl, h3', .inr ⟨rfl, rfl, rfl, rfl⟩⟩
    ·have h3' : loc'.f i r = some (b2, c2) := h3
     rw [hfF r hrh] at h3'
     refine ⟨i, some r, _, hob, ?_, h3', .inl ⟨rfl, rfl, hFj⟩⟩
     simp only [o1, Ob.has, Ob.mem, Bool.and_eq_true] at h2 ⊢
     have hb : Nat.beq r h = false := Bool.eq_false_iff.2 (fun hh => hrh (Nat.eq_of_beq_eq_true hh))
     exact ⟨h2.1, by rw [hb]; rfl⟩
  ·cases s <;> simp [Ob.has, Ob.mem, Ob.live] at h2
 refine ⟨loc', hr.step (fun _ => False) (Keep.refl _ _) (fun _ h => h.elim) (by simp) (fun _ _ => rfl) ?_ ?_ ?_⟩
 ·rintro b2 ⟨i, o3, s, c2, h1, h2, h3⟩
  obtain ⟨i', s', o4, h4, h5, h6, _⟩ := hin i o3 s b2 c2 h1 h2 h3
  exact ⟨.inl ⟨i', o4, s', c2, h4, h5, h6⟩, (hr.fresh i' o4 s' b2 c2 h4 h5 h6).1⟩
 ·intro i i2 p1 p2 s s' b1 c1 c2 h1 h2 h3 h4 h5 h6
  obtain ⟨i1, s1, o5, h7, h8, h9, hA⟩ := hin i p1 s b1 c1 h1 h2 h5
  obtain ⟨i3, s2, o6, h10, h11, h12, hB⟩ := hin i2 p2 s' b1 c2 h3 h4 h6
  obtain ⟨e1, e2⟩ := hr.inj i1 i3 o5 o6 s1 s2 b1 c1 c2 h7 h8 h10 h11 h9 h12
  subst e1 e2
  rcases hA with ⟨rfl, rfl, hn⟩ | ⟨rfl, rfl, rfl, rfl⟩ <;> rcases hB with ⟨rfl, rfl, hm⟩ | ⟨rfl, rfl, hb, hc⟩
  ·exact ⟨rfl, rfl⟩
  ·exact absurd hb hn
  ·exact absurd rfl hm
  ·exact ⟨rfl, rfl⟩
 ·intro hle i o3 h1
  rcases hcase i o3 h1 with ⟨hi, hne, h4⟩ | ⟨rfl, rfl⟩ | ⟨rfl, rfl⟩
  ·exact .inl ⟨h4, (List.getElem?_eq_some_iff.1 h4).1, hf i hi, fun _ _ _ _ _ hf => hf⟩
  ·right
   obtain ⟨b, c, es, h5, h6, h7, h8⟩ := hr.rep i _ hob
   have hrepj := hr.rep j _ hobj
   refine ⟨b, c, es, h5, h6, h7, fun i' hi' => ?_⟩
   obtain ⟨en, k1, k2, k3, k4⟩ := h8 i' hi'
   refine ⟨en, k1, k2, by rw [hk i' hi']; exact RepC.mono hle _ _ _ k3, ?_⟩
   show (∃ b c, loc'.f i i' = some (b, c) ∧ en.val = .map (some b)) ∧ RepMap _ (loc'.f i i') (len' i') (ik' i') (iv' i')
   by_cases hih : i' = h
   ·subst hih
    obtain ⟨e1, e2, e3⟩ := heq hi'
    obtain ⟨_, _, b2, c2, g1, g2⟩ := k4.1 rfl
    rw [hfh, e1, e2, e3]
    exact ⟨⟨b2, c2, g1, g2⟩, RepMap.mono (n := m) (key := kj) (get := gj) hle (fun _ _ _ => rfl) hrepj⟩
   ·obtain ⟨e1, e2, e3⟩ := hne i' hi' hih
    obtain ⟨g1, g2⟩ := k4.2 hih
    rw [hfF i' hih, e1, e2, e3]
    exact ⟨g1, g2.mono hle (fun _ _ _ => rfl)⟩
  ·right; trivial
section
variable {P : Program} {N : Fr} {o : Oper} {st : St} {x y z : Operand} {d : Nat} {ev : Operand → AV} {objs : List Ob} {α : Type} {mv : α → V1} {d0 : α} {l : List (ByteArray × List (ByteArray × α))} {id mt kt et : Nat} {s : ByteArray} {hole : Option (Nat × Cell)}
theorem Sub.focusM {F : Nat} (hob : st.objs[F]? = some (mmO mv d0 l none)) (hs : (alook l s).isSome = true) :
  Sub N st ⟨st.slots, st.objs.set F (mmO mv d0 l (some (aix l s, .mp st.objs.length))) ++ [.map ((alook l s).getD []).length (kG ((alook l s).getD [])) (vG mv d0 ((alook l s).getD []))]⟩ := by
 obtain ⟨h1, h2⟩ := mmRow_aix hs
 rw [← h2]
 exact Sub.focusG hob h1
theorem Sub.unfocusM {F j : Nat} {L : List (ByteArray × α)} (hs : (alook l s).isSome = true) (hob : st.objs[F]? = some (mmO mv d0 l (some (aix l s, .mp j)))) (hobj : st.objs[j]? = some (.map L.length (kG L) (vG mv d0 L))) :
  Sub N st ⟨st.slots, (st.objs.set F (mmO mv d0 (aset l s L) none)).set j .dead⟩ := by
 have hi := aix_of hs
 obtain ⟨h1, h2⟩ := mmRow_aix hs
 obtain ⟨_, hsq⟩ := aidx_lt l s _ hi
 have hset : aset l s L = l.set (aix l s) (s, L) := by unfold aset; rw [hi]
 have hkey := sEq_out hsq
 rw [hset]
 have hr : ∀ i, mmRow (l.set (aix l s) (s, L)) i = if i = aix l s then L else mmRow l i := fun i => by
  unfold mmRow
  rw [List.map_set]
  by_cases h : i = aix l s
  ·rw [if_pos h, h, List.getD_eq_getElem?_getD, List.getElem?_set_self (by simpa using h1)]; rfl
  ·rw [if_neg h, List.getD_eq_getElem?_getD, List.getElem?_set_ne (Ne.symm h), ← List.getD_eq_getElem?_getD]
 have hk : ∀ i, kG (l.set (aix l s) (s, L)) i = kG l i := fun i => by
  unfold kG
  rw [List.map_set]
  by_cases h : i = aix l s
  ·rw [h, List.getD_eq_getElem?_getD, List.getElem?_set_self (by simpa using h1), List.getD_eq_getElem?_getD, List.getElem?_map, List.getElem?_eq_getElem h1]
   exact congrArg Cell.str hkey
  ·rw [List.getD_eq_getElem?_getD, List.getElem?_set_ne (Ne.symm h), ← List.getD_eq_getElem?_getD]
 unfold mmO
 rw [List.length_set]
 exact Sub.unfocusG hob hobj (fun i _ => hk i) (fun i _ hne => by rw [hr i, if_neg hne]; exact ⟨rfl, rfl, rfl⟩) (fun _ => by rw [hr, if_pos rfl]; exact ⟨rfl, rfl, rfl⟩)
theorem maps_find {e : Env} {loc : Loc} {w : World} {u : Value} (hr : HRep e objs loc w) (hob : objs[id]? = some (mmO mv d0 l hole)) (hu : RepC (ctx e objs loc w) true (.mp id) u) (hm : mapB P mt kt et = true) (s : ByteArray) :
  ∃ b c es, u = .map (some b) ∧ loc id = some (b, c) ∧ w.heap[b]? = some (.map es l.length) ∧ es.size = l.length ∧ (∀ i, i < l.length → ∃ en, es[i]? = some en ∧ en.born = i ∧ RepC (ctx e objs loc w) false (kG l i) en.key ∧ MapAt (ctx e objs loc w) (loc.f id) (fun i => (mmRow l i).length) (fun i => kG (mmRow l i)) (fun i => vG mv d0 (mmRow l i)) i en.val hole) ∧
   (Instr.checkKey es.isEmpty 10000 kt (.string s)).run P w = .ok () w ∧ (Instr.checkKey false 10000 kt (.string s)).run P w = .ok () w ∧ (Instr.findKey kt (.string s) es.toList).run P w = .ok ((aidx l s).bind fun j => (es[j]?).map fun en => (j, en.val)) w := by
 obtain ⟨_, hB, b, c, hl, hv⟩ := hu
 have hl' : loc id = some (b, c) := hl
 have h3 := hr.rep id _ hob
 rw [hl'] at h3
 obtain ⟨b', c', es, h4, h5, h6, h7⟩ := h3
 cases h4
 obtain ⟨g1, g2⟩ := mapB_out hm
 have hkey : ∀ em, (Instr.checkKey em 10000 kt (.string s)).run P w = .ok () w := fun em => mp_key g2 s em 9999
 refine ⟨b, c, es, hv, hl', h5, h6, h7, hkey _, hkey _, ?_⟩
 have hf := find_now l es.toList s 0 (by simpa using h6) (fun j hj => by
  obtain ⟨en, k1, k2, k3, k4⟩ := h7 j hj
  refine ⟨en, by simpa using k1, ?_⟩
  have k3' : en.key = .string ((l.map Prod.fst).getD j ByteArray.empty) := k3
  rw [k3']
  simp [List.getD_eq_getElem?_getD, hj])
 rw [mp_find g2 hf]
 simp
theorem q_lookup_no (hs : (alook l s).isSome = false) (ho : o.op = .lookup mt x y false) (hx : ev x = .c (.mp id)) (hob : objs[id]? = some (mmO mv d0 l hole)) (hy : ev y = .c (.str s)) (hm : mapB P mt kt et = true)
  (hz : (P.info? et).map (·.zero) = some (some (.map none))) : QOp P o ev objs (.c (.raw (.map none))) := by
 refine QOp.of_run fun e loc w a hr hh => ?_
 have h1 := hh x (by simp [ho, Op.operands]); rw [hx] at h1
 have h2 := hh y (by simp [ho, Op.operands]); rw [hy] at h2
 have h2' : a.eval y = .string s := h2
 obtain ⟨b, c, es, hv, hl, h5, h6, h7, h8, _, h9⟩ := maps_find (mv := mv) (d0 := d0) (l := l) hr hob h1 hm s
 obtain ⟨g1, g2⟩ := mapB_out hm
 rw [alook_no hs] at h9
 cases hinf : P.info? et with
 | none => rw [hinf] at hz; cases hz
 | some inf =>
  rw [hinf] at hz
  have hzz : inf.zero = some (.map none) := by simpa using hz
  exact ⟨.map none, by simp [execOp, ho, hv, h2', Instr.lookup, run_underlying g1, mp_get h5, h8, h9, zeroValue, run_typeInfo w hinf, hzz], rfl⟩
theorem q_lookup_hole {q : Cell} (hs : (alook l s).isSome = true) (ho : o.op = .lookup mt x y false) (hx : ev x = .c (.mp id)) (hob : objs[id]? = some (mmO mv d0 l (some (aix l s, q)))) (hy : ev y = .c (.str s)) (hm : mapB P mt kt et = true) : QOp P o ev objs (.c q) := by
 refine QOp.of_run fun e loc w a hr hh => ?_
 have h1 := hh x (by simp [ho, Op.operands]); rw [hx] at h1
 have h2 := hh y (by simp [ho, Op.operands]); rw [hy] at h2
 have h2' : a.eval y = .string s := h2
 obtain ⟨b, c, es, hv, _, h5, h6, h7, h8, _, h9⟩ := maps_find (mv := mv) (d0 := d0) (l := l) hr hob h1 hm s
 obtain ⟨g1, g2⟩ := mapB_out hm
 rw [aix_of hs] at h9
 obtain ⟨en, k1, k2, k3, k4⟩ := h7 _ (mmRow_aix hs).1
 rw [Option.bind_some, k1, Option.map_some] at h9
 exact ⟨en.val, by simp [execOp, ho, hv, h2', Instr.lookup, run_underlying g1, mp_get h5, h8, h9], k4.1 rfl⟩
theorem e_makeMaps {r : Option Operand} (ho : o.op = .makeMap mt r) (hd : o.dst = some d) (hN : Nat.blt d N.N = true) (hm : mapB P mt kt et = true) (hres : r = none ∨ ∃ q k n, r = some q ∧ evs st.slots q = .c (.int k n)) :
  EOp P N o st ⟨(d, .c (.mp st.objs.length)) :: st.slots, st.objs ++ [mmO mv d0 [] none]⟩ := by
 intro e loc a w hr K Q hK
 obtain ⟨g1, g2⟩ := mapB_out hm
 have hrun : (execOp a.eval o).run P w = .ok (.value (.map (some w.heap.size))) (w.alloc (.map #[] 0)) := by
  rcases hres with rfl | ⟨q, k, n, rfl, hq⟩
  ·simp [execOp, ho, Instr.makeMap]
  ·have h2 := hr.eval q
   rw [hq] at h2
   have h2' : a.eval q = .int k n := h2
   simp [execOp, ho, Instr.makeMap, h2', run_underlying g1, asInt, asIntOf]
 unfold Oper.wp
 rw [hrun]
 have hs := hr.step (hr.heap.birth (below_alloc w (.map #[] 0)) (mmO mv d0 [] none) (some (w.heap.size, 0)) (fun b c h => by cases h; simp)
  (fun hle => ⟨_, _, #[], rfl, heap_new w _, rfl, fun i hi => absurd hi (Nat.not_lt_zero i)⟩))
 have := hs.put (some d) (fun s hs => by cases hs; simpa [Nat.blt_eq] using hN) (v := .c (.mp st.objs.length)) (u := .map (some w.heap.size)) ⟨rfl, by simp [ctx], w.heap.size, 0, by simp [ctx, locAdd], rfl⟩
 rw [Oper.upon_value, hd]
 exact hK _ _ _ this
theorem e_mapUpdateM {j : Nat} (hs : (alook l s).isSome = false) (ho : o.op = .mapUpdate mt x y z) (hd : o.dst = none) (hx : evs st.slots x = .c (.mp id)) (hob : st.objs[id]? = some (mmO mv d0 l none)) (hy : evs st.slots y = .c (.str s)) (hz : evs st.slots z = .c (.mp j)) (hm : mapB P mt kt et = true) :
  EOp P N o st ⟨st.slots, st.objs.set id (mmO mv d0 (l ++ [(s, [])]) (some (aix (l ++ [(s, [])]) s, .mp j)))⟩ := by
 intro e loc a w hr K Q hK
 have h1 := hr.eval x; rw [hx] at h1
 have h2 := hr.eval y; rw [hy] at h2
 have h3 := hr.eval z; rw [hz] at h3
 have h2' : a.eval y = .string s := h2
 obtain ⟨b, c, es, hv, hl, h5, h6, h7, _, h8, h9⟩ := maps_find (mv := mv) (d0 := d0) (l := l) hr.heap hob h1 hm s
 obtain ⟨g1, g2⟩ := mapB_out hm
 rw [alook_no hs] at h9
 rw [aix_new ([] : List (ByteArray × α)) hs] at hK
 have hbl : b < w.heap.size := (Array.getElem?_eq_some_iff.1 h5).1
 obtain ⟨w', hw'⟩ : ∃ w', w' = { w with heap := w.heap.setIfInBounds b (.map (es.push { key := .string s, val := a.eval z, born := l.length }) (l.length + 1)) } := ⟨_, rfl⟩
 have hrun : (execOp a.eval o).run P w = .ok .skip w' := by
  rw [hw']
  simp [execOp, ho, hv, h2', Instr.mapUpdate, run_underlying g1, mp_get h5, h8, h9, mp_set _ h5]
 unfold Oper.wp
 rw [hrun, Oper.upon_skip, hd]
 have hk : Keep (fun k => k = b) w w' := by
  refine ⟨by rw [hw'], by rw [hw'], by rw [hw'], by rw [hw']; simp, fun k hk hne => ?_⟩
  rw [hw']
  show (w.heap.setIfInBounds b _)[k]? = _
  rw [Array.getElem?_setIfInBounds_ne (Ne.symm hne)]
 have hnew : w'.heap[b]? = some (.map (es.push { key := .string s, val := a.eval z, born := l.length }) (l.length + 1)) := by
  rw [hw']
  show (w.heap.setIfInBounds b _)[b]? = _
  simp [hbl]
 have hkeep : ∀ i b2 c2, i < l.length → loc.f id i = some (b2, c2) → w'.heap[b2]? = w.heap[b2]? := by
  intro i b2 c2 hi h
  have hhas : (mmO mv d0 l none).has (some i) = true := by simp [mmO, Ob.has, Ob.mem, Nat.blt_eq, hi]
  have hb2 := (hr.heap.fresh id _ (some i) b2 c2 hob hhas h).1
  refine hk.block b2 hb2 (fun he => ?_)
  subst he
  have := (hr.heap.inj id id _ _ (some i) none b2 c2 c hob hhas hob rfl h hl).2
  cases this
 have hlen : (l ++ [(s, ([] : List (ByteArray × α)))]).length = l.length + 1 := by simp
 have hrow : ∀ i, i < l.length → mmRow (l ++ [(s, [])]) i = mmRow l i := fun i hi => by
  unfold mmRow
  rw [List.map_append, List.getD_eq_getElem?_getD, List.getElem?_append_left (by simpa using hi), ← List.getD_eq_getElem?_getD]
 refine hK _ _ loc (hr.step (hr.heap.write (o' := mmO mv d0 (l ++ [(s, [])]) (some (l.length, .mp j))) hob rfl hl hk (fun hle => ?_) (fun r hr => ?_)))
 ·rw [hl]
  generalize hcx : ctx e (st.objs.set id (mmO mv d0 (l ++ [(s, [])]) (some (l.length, .mp j)))) loc w' = cx at hle ⊢
  have hcw : cx.w = w' := by rw [← hcx]; rfl
  unfold mmO
  rw [hlen]
  refine ⟨b, c, _, rfl, by rw [hcw]; exact hnew, by simp [h6], fun i hi => ?_⟩
  by_cases hlt : i < l.length
  ·obtain ⟨en, k1, k2, k3, k4⟩ := h7 i hlt
   have e1 : kG (l ++ [(s, [])]) i = kG l i := by
    unfold kG
    rw [List.map_append, List.getD_eq_getElem?_getD, List.getElem?_append_left (by simpa using hlt), ← List.getD_eq_getElem?_getD]
   refine ⟨en, by rw [Array.getElem?_push, if_neg (by omega)]; exact k1, k2, by rw [e1]; exact RepC.mono hle _ _ _ k3, fun he => absurd he (by omega), fun _ => ?_⟩
   simp only
   rw [hrow i hlt]
   exact ⟨k4.1, k4.2.mono hle (fun b2 c2 h => by rw [hcw]; exact hkeep i b2 c2 hlt h)⟩
  ·have hie : i = l.length := by omega
   subst hie
   have e1 : kG (l ++ [(s, [])]) l.length = .str s := by
    unfold kG
    rw [List.map_append, List.getD_eq_getElem?_getD, List.getElem?_append_right (by simp)]
    simp
   refine ⟨{ key := .string s, val := a.eval z, born := l.length }, by rw [Array.getElem?_push, if_pos (by omega)], rfl, by rw [e1]; rfl, fun _ => RepC.mono hle _ _ _ h3, fun hne => absurd rfl hne⟩
 ·simp only [mmO, Ob.mem, hlen, Bool.and_eq_true, Nat.blt_eq] at hr ⊢
  refine ⟨?_, trivial⟩
  have h2 : Nat.beq r l.length = false := by simpa using hr.2
  have : r ≠ l.length := fun h => by subst h; simp at h2
  omega
def mapTB (P : Program) (t : TypeId) : Bool :=
 match P.underlying t with
 | some (.map _ _) => true
 | _ => false
def Cell.nilM : Cell → Option Bool
 | .mp _ => some false
 | .raw (.map none) => some true
 | _ => none
theorem run_equalM {t : TypeId} (ht : mapTB P t = true) {u : Value} {b : Bool} (hu : (b = false ∧ ∃ r, u = .map (some r)) ∨ (b = true ∧ u = .map none)) (w : World) : (Op.equal t u (.map none)).run P w = .ok b w := by
 unfold mapTB at ht
 split at ht
 ·rename_i p q hun
  have key : ∀ d, (Op.equalIn (d + 1) t u (.map none)).run P w = .ok b w := fun d => by
   rcases hu with ⟨rfl, r, rfl⟩ | ⟨rfl, rfl⟩ <;> simp [Op.equalIn, run_underlying hun]
  exact key 9999
 ·cases ht
theorem nilM_out {X : Ctx} {c : Cell} {v : Value} {b : Bool} (hc : c.nilM = some b) (h : RepC X true c v) : (b = false ∧ ∃ r, v = .map (some r)) ∨ (b = true ∧ v = .map none) := by
 cases c with
 | mp id =>
  cases hc
  obtain ⟨_, _, b, c, _, hv⟩ := h
  exact .inl ⟨rfl, b, hv⟩
 | raw u =>
  have hv : v = u := h
  cases u with
  | map r =>
   cases r with
   | none => cases hc; exact .inr ⟨rfl, hv⟩
   | some r => cases hc
  | _ => cases hc
 | _ => cases hc
theorem q_eqlM {c : Cell} {b : Bool} {t t2 : TypeId} (ho : o.op = .binOp .eql t x y t2) (hx : ev x = .c c) (hc : c.nilM = some b) (hy : ev y = .c (.raw (.map none))) (ht : mapTB P t = true) : QOp P o ev objs (.c (.bool b)) := by
 refine QOp.of_run fun e loc w a hr h => ?_
 have h1 := h x (by simp [ho, Op.operands]); rw [hx] at h1
 have h2 := h y (by simp [ho, Op.operands]); rw [hy] at h2
 have h2' : a.eval y = .map none := h2
 have hn := nilM_out hc h1
 obtain ⟨u, hu⟩ : ∃ u, u = a.eval x := ⟨_, rfl⟩
 rw [← hu] at hn
 have hb : (binOp .eql t u (.map none)).run P w = .ok (.bool b) w := by
  have e1 : binOp .eql t u (.map none) = (do pure (Value.bool (← Op.equal t u (.map none))) : Sem Value) := by
   rcases hn with ⟨_, r, rfl⟩ | ⟨_, rfl⟩ <;> rfl
  rw [e1]
  simp only [Sem.run_bind, run_equalM ht hn, Result.andThen_ok, Sem.run_pure]
 have hg : (eqGuard .eql t x y u (.map none)).run P w = .ok () w := by
  rcases hn with ⟨_, r, rfl⟩ | ⟨_, rfl⟩ <;> rfl
 refine ⟨.bool b, ?_, rfl⟩
 simp only [execOp, ho, h2', ← hu, Sem.run_bind, hg, hb, Result.andThen_ok, Sem.run_pure]
theorem Sub.unfocusMR {F j : Nat} (hs : (alook l s).isSome = true) (hob : st.objs[F]? = some (mmO mv d0 l (some (aix l s, .mp j)))) (hobj : st.objs[j]? = some (.map ((alook l s).getD []).length (kG ((alook l s).getD [])) (vG mv d0 ((alook l s).getD [])))) :
  Sub N st ⟨st.slots, (st.objs.set F (mmO mv d0 l none)).set j .dead⟩ := by
 obtain ⟨h1, h2⟩ := mmRow_aix hs
 exact Sub.unfocusG hob hobj (fun i _ => rfl) (fun i _ _ => ⟨rfl, rfl, rfl⟩) (fun _ => by rw [h2]; exact ⟨rfl, rfl, rfl⟩)
def ndS : List ByteArray → Bool
 | [] => true
 | k :: r => !(r.any (sEq k)) && ndS r
def keysOk (ks : List ByteArray) : Bool := ndS ks && (ks.all fun k => decide (k.size ≤ 9223372036854775807)) && decide (ks.length * 16 ≤ 140737488355328)
theorem ndS_out : ∀ {ks : List ByteArray}, ndS ks = true → ks.Nodup
 | [], _ => List.nodup_nil
 | k :: r, h => by
  simp only [ndS, Bool.and_eq_true, Bool.not_eq_true'] at h
  rw [List.nodup_cons]
  refine ⟨fun hm => ?_, ndS_out h.2⟩
  have : r.any (sEq k) = true := List.any_eq_true.2 ⟨k, hm, by unfold sEq; simp⟩
  rw [this] at h
  cases h.1
def KeysC (P : Program) (f g : FuncId) (T : TypeId) : Prop := ∀ (mb : Option Nat) (w : World), Calls P f #[.map mb] w fun e w' => e = .returned (.func (.func g) #[] #[.pointer (some ⟨w.heap.size, 0, none⟩)]) ∧ w' = w.alloc (.cells #[.map mb] T)
def SortedC (P : Program) (f g : FuncId) (T : TypeId) : Prop := ∀ (Bs b : Nat) (es : Array MapEntry) (ks : List ByteArray) (w : World), w.cell? ⟨Bs, 0, none⟩ = some (.map (some b)) → w.heap[b]? = some (.map es ks.length) → es.size = ks.length →
 (∀ i, i < ks.length → ∃ en, es[i]? = some en ∧ en.born = i ∧ en.key = .string (ks.getD i ByteArray.empty)) → keysOk ks = true →
 Calls P f #[.func (.func g) #[] #[.pointer (some ⟨Bs, 0, none⟩)]] w fun e w' => ∃ v, e = .returned v ∧ w'.ownsRow w.heap.size T 1 v ks.length ((sortB ks).map Value.string) ∧ Below w.heap.size w w'
theorem e_keys {f g : FuncId} {T : TypeId} {tys : Array TypeId} (hc : KeysC P f g T) (ho : o.op = .call { callee := .value (.func f), args := #[x], argTypes := tys }) (hfn : fnB P f = true) (hd : o.dst = some d) (hN : Nat.blt d N.N = true) (hx : evs st.slots x = .c (.mp id)) :
  EOp P N o st ⟨(d, .c (.fnp g st.objs.length)) :: st.slots, st.objs ++ [.box [.mp id]]⟩ := by
 intro e loc a w hr K Q hK
 have h1 := hr.eval x; rw [hx] at h1
 obtain ⟨_, hB, b, c, hl, hv⟩ := h1
 unfold Oper.wp
 rw [exec_call hfn ho, Oper.upon_enter]
 simp only [List.map_cons, List.map_nil, hv]
 refine (hc (some b) w).mono ?_
 rintro en w' ⟨rfl, rfl⟩
 have hs := hr.step (hr.heap.birth (below_alloc w (.cells #[.map (some b)] T)) (.box [.mp id]) (some (w.heap.size, 1)) (fun b c h => by cases h; simp)
  (fun hle => ⟨_, _, #[.map (some b)], T, rfl, heap_new w _, RepC.mono hle _ _ _ (show RepC _ true (.mp id) (.map (some b)) from ⟨rfl, hB, b, c, hl, rfl⟩), trivial⟩))
 have := hs.put (some d) (fun s hs => by cases hs; simpa [Nat.blt_eq] using hN) (v := .c (.fnp g st.objs.length)) (u := .func (.func g) #[] #[.pointer (some ⟨w.heap.size, 0, none⟩)]) ⟨rfl, by simp [ctx], w.heap.size, 1, by simp [ctx, locAdd], rfl⟩
 rw [hd]
 exact hK _ _ _ this
theorem sorted_core {β : Type} {l : List (ByteArray × β)} {f g : FuncId} {T : TypeId} {j : Nat} {tys : Array TypeId} (hc : SortedC P f g T) (hk : keysOk (l.map Prod.fst) = true) (ho : o.op = .call { callee := .value (.func f), args := #[x], argTypes := tys }) (hfn : fnB P f = true) (hd : o.dst = some d) (hN : Nat.blt d N.N = true) (hx : evs st.slots x = .c (.fnp g j))
  (hbox : st.objs[j]? = some (.box [.mp id]))
  (hob : ∀ (e : Env) (loc : Loc) (w : World) (b c : Nat), HRep e st.objs loc w → loc id = some (b, c) → ∃ es, w.heap[b]? = some (.map es l.length) ∧ es.size = l.length ∧ ∀ i, i < l.length → ∃ en, es[i]? = some en ∧ en.born = i ∧ RepC (ctx e st.objs loc w) false (kG l i) en.key) :
  EOp P N o st ⟨(d, .c (.own st.objs.length (sortB (l.map Prod.fst)).length)) :: st.slots, st.objs ++ [.arr T 1 (sortB (l.map Prod.fst)).length (gL cStr ByteArray.empty (sortB (l.map Prod.fst)))]⟩ := by
 intro e loc a w hr K Q hK
 have h1 := hr.eval x; rw [hx] at h1
 obtain ⟨_, hB, Bs, c, hl, hv⟩ := h1
 have hl' : loc j = some (Bs, c) := hl
 obtain ⟨b2, c2, arr, T2, h2, h3, h4⟩ := hr.heap.box hbox
 rw [hl'] at h2
 cases h2
 obtain ⟨y, hy, hry⟩ := h4.get 0 (.mp id) rfl
 obtain ⟨_, _, b, cb, hlb, rfl⟩ := hry
 have hlb' : loc id = some (b, cb) := hlb
 obtain ⟨es, g1, g2, g3⟩ := hob e loc w b cb hr.heap hlb'
 unfold Oper.wp
 rw [exec_call hfn ho, Oper.upon_enter]
 simp only [List.map_cons, List.map_nil, hv]
 have hlen : (l.map Prod.fst).length = l.length := List.length_map ..
 refine (hc Bs b es (l.map Prod.fst) w (by rw [cell_of_heap h3]; simpa using hy) (by rw [hlen]; exact g1) (by rw [hlen]; exact g2) (fun i hi => g3 i (by omega)) hk).mono ?_
 rintro en w' ⟨v, rfl, hrow, hb⟩
 have hsl : (sortB (l.map Prod.fst)).length = (l.map Prod.fst).length := sortB_len _
 obtain ⟨ys, hys⟩ : ∃ ys, ys = sortB (l.map Prod.fst) := ⟨_, rfl⟩
 rw [← hys] at hrow hsl hK
 rw [← hsl] at hrow
 rw [hd]
 rcases hrow.2 with ⟨rfl, hk0⟩ | ⟨gb, c3, cur, rfl, hbase, hgb, r1, r2, r3, r4⟩
 ·have hs := hr.step (hr.heap.birth hb (.arr T 1 ys.length (gL cStr ByteArray.empty ys)) none (fun b c h => by cases h) (fun _ => hk0))
  have := hs.put (some d) (fun s hs => by cases hs; simpa [Nat.blt_eq] using hN) (v := .c (.own st.objs.length ys.length)) (u := .slice none 0 0) ⟨rfl, by simp [ctx], by
   have h9 : (ctx e (st.objs ++ [Ob.arr T 1 ys.length (gL cStr ByteArray.empty ys)]) (locAdd loc st.objs.length none) w').loc st.objs.length = none := by simp [ctx, locAdd]
   rw [h9]
   exact ⟨rfl, hk0⟩⟩
  exact hK _ _ _ this
 ·have hs := hr.step (hr.heap.birth hb (.arr T 1 ys.length (gL cStr ByteArray.empty ys)) (some (gb, c3)) (fun b c h => by cases h; exact ⟨hbase, (Array.getElem?_eq_some_iff.1 hgb).1⟩) (fun _ => by
   refine ⟨cur, hgb, r3, r1, r2, fun i hi q hq => ?_⟩
   obtain rfl : q = 0 := by omega
   refine ⟨.string (ys.getD i ByteArray.empty), ?_, rfl⟩
   have h2 := congrArg (·[i]?) r4
   simp only [Nat.mul_one, List.getElem?_take_of_lt hi, List.getElem?_map] at h2
   rw [Nat.mul_one, Nat.add_zero, ← Array.getElem?_toList, h2, List.getElem?_eq_getElem hi, List.getD_eq_getElem?_getD, List.getElem?_eq_getElem hi]; rfl))
  have := hs.put (some d) (fun s hs => by cases hs; simpa [Nat.blt_eq] using hN) (v := .c (.own st.objs.length ys.length)) (u := .slice (some ⟨gb, 0, none⟩) ys.length c3) ⟨rfl, by simp [ctx], by
   have h9 : (ctx e (st.objs ++ [Ob.arr T 1 ys.length (gL cStr ByteArray.empty ys)]) (locAdd loc st.objs.length (some (gb, c3))) w').loc st.objs.length = some (gb, c3) := by simp [ctx, locAdd]
   rw [h9]⟩
  exact hK _ _ _ this
theorem e_sortK {β : Type} {mb : β → V1} {b0 : β} {l : List (ByteArray × β)} {f g : FuncId} {T : TypeId} {j : Nat} {tys : Array TypeId} (hc : SortedC P f g T) (hk : keysOk (l.map Prod.fst) = true) (ho : o.op = .call { callee := .value (.func f), args := #[x], argTypes := tys }) (hfn : fnB P f = true) (hd : o.dst = some d) (hN : Nat.blt d N.N = true) (hx : evs st.slots x = .c (.fnp g j))
  (hbox : st.objs[j]? = some (.box [.mp id])) (hob : st.objs[id]? = some (.map l.length (kG l) (vG mb b0 l))) :
  EOp P N o st ⟨(d, .c (.own st.objs.length (sortB (l.map Prod.fst)).length)) :: st.slots, st.objs ++ [.arr T 1 (sortB (l.map Prod.fst)).length (gL cStr ByteArray.empty (sortB (l.map Prod.fst)))]⟩ :=
 sorted_core hc hk ho hfn hd hN hx hbox fun e loc w b c hr hl => by
  obtain ⟨b', c', es, h4, h5, h6, h7⟩ := hr.rep id _ hob
  rw [hl] at h4
  cases h4
  exact ⟨es, h5, h6, fun i hi => by obtain ⟨en, k1, k2, k3, _⟩ := h7 i hi; exact ⟨en, k1, k2, k3⟩⟩
theorem e_sortKM {f g : FuncId} {T : TypeId} {j : Nat} {tys : Array TypeId} (hc : SortedC P f g T) (hk : keysOk (l.map Prod.fst) = true) (ho : o.op = .call { callee := .value (.func f), args := #[x], argTypes := tys }) (hfn : fnB P f = true) (hd : o.dst = some d) (hN : Nat.blt d N.N = true) (hx : evs st.slots x = .c (.fnp g j))
  (hbox : st.objs[j]? = some (.box [.mp id])) (hob : st.objs[id]? = some (mmO mv d0 l hole)) :
  EOp P N o st ⟨(d, .c (.own st.objs.length (sortB (l.map Prod.fst)).length)) :: st.slots, st.objs ++ [.arr T 1 (sortB (l.map Prod.fst)).length (gL cStr ByteArray.empty (sortB (l.map Prod.fst)))]⟩ :=
 sorted_core hc hk ho hfn hd hN hx hbox fun e loc w b c hr hl => by
  obtain ⟨b', c', es, h4, h5, h6, h7⟩ := hr.rep id _ hob
  rw [hl] at h4
  cases h4
  exact ⟨es, h5, h6, fun i hi => by obtain ⟨en, k1, k2, k3, _⟩ := h7 i hi; exact ⟨en, k1, k2, k3⟩⟩
end
theorem Sub.move {N : Fr} {st : St} {F T k n r : Nat} {get : Nat → Nat → Cell} (hob : st.objs[F]? = some (.arr T k n get)) (hs : look st.slots r = .c (.own F n)) :
  Sub N st ⟨[(r, .c (.own st.objs.length n))], st.objs.set F .dead ++ [.arr T k n get]⟩ := by
 intro e loc a w hr
 have hid : F < st.objs.length := (List.getElem?_eq_some_iff.1 hob).1
 let loc' : Loc := locAdd loc st.objs.length (loc F)
 have hlo : ∀ i, i < st.objs.length → loc' i = loc i := fun i hi => by show (locAdd loc st.objs.length (loc F)).b i = _; simp only [locAdd]; rw [if_neg (by omega)]
 have hlf : ∀ i, i < st.objs.length → loc'.f i = loc.f i := fun i hi => by funext q; show (locAdd loc st.objs.length (loc F)).f i q = _; simp only [locAdd]; rw [if_neg (by omega)]
 have hls : ∀ i s, i < st.objs.length → loc'.at i s = loc.at i s := fun i s hi => by
  cases s with
  | none => exact hlo i hi
  | some q => exact congrFun (hlf i hi) q
 have hlnew : loc' st.objs.length = loc F := by show (locAdd loc st.objs.length (loc F)).b _ = _; simp [locAdd]
 have hcase : ∀ (i : Nat) (o3 : Ob), (st.objs.set F .dead ++ [.arr T k n get])[i]? = some o3 → (i < st.objs.length ∧ i ≠ F ∧ st.objs[i]? = some o3) ∨ (i = F ∧ o3 = .dead) ∨ (i = st.objs.length ∧ o3 = .arr T k n get) := by
  intro i o3 hi
  rcases Nat.lt_or_ge i st.objs.length with hlt | hge
  ·rw [List.getElem?_append_left (by simpa using hlt)] at hi
   rcases set_case hid i o3 hi with ⟨h1, h2⟩ | h1
   ·exact .inl ⟨hlt, h1, h2⟩
   ·exact .inr (.inl h1)
  ·rw [List.getElem?_append_right (by simpa using hge)] at hi
   simp only [List.length_set] at hi
   cases hq : i - st.objs.length with
   | zero => rw [hq] at hi; simp at hi; exact .inr (.inr ⟨by omega, hi.symm⟩)
   | succ q => rw [hq] at hi; simp at hi
 have hin : ∀ (i : Nat) (o3 : Ob) (s : Option Nat) (b2 c2 : Nat), (st.objs.set F .dead ++ [.arr T k n get])[i]? = some o3 → o3.has s = true → loc'.at i s = some (b2, c2) →
   ∃ i' o4, st.objs[i']? = some o4 ∧ o4.has s = true ∧ loc.at i' s = some (b2, c2) ∧ ((i = i' ∧ i' ≠ F) ∨ (i = st.objs.length ∧ i' = F)) := by
  intro i o3 s b2 c2 h1 h2 h3
  rcases hcase i o3 h1 with ⟨hi, hne, h4⟩ | ⟨rfl, rfl⟩ | ⟨rfl, rfl⟩
  ·rw [hls i s hi] at h3
   exact ⟨i, o3, h4, h2, h3, .inl ⟨rfl, hne⟩⟩
  ·cases s <;> simp [Ob.has, Ob.mem, Ob.live] at h2
  ·cases s with
   | none =>
    have h3' : loc' st.objs.length = some (b2, c2) := h3
    rw [hlnew] at h3'
    exact ⟨F, _, hob, rfl, h3', .inr ⟨rfl, rfl⟩⟩
   | some q => simp [Ob.has, Ob.mem] at h2
 have hstep : Step e st.objs loc w (st.objs.set F .dead ++ [.arr T k n get]) loc' w := by
  refine hr.heap.step (fun _ => False) (Keep.refl _ _) (fun _ h => h.elim) (by simp) hlo ?_ ?_ ?_
  ·rintro b2 ⟨i, o3, s, c2, h1, h2, h3⟩
   obtain ⟨i', o4, h4, h5, h6, _⟩ := hin i o3 s b2 c2 h1 h2 h3
   exact ⟨.inl ⟨i', o4, s, c2, h4, h5, h6⟩, (hr.heap.fresh i' o4 s b2 c2 h4 h5 h6).1⟩
  ·intro i j p1 p2 s s' b1 c1 c2 h1 h2 h3 h4 h5 h6
   obtain ⟨i1, o5, h7, h8, h9, hA⟩ := hin i p1 s b1 c1 h1 h2 h5
   obtain ⟨i2, o6, h10, h11, h12, hB⟩ := hin j p2 s' b1 c2 h3 h4 h6
   obtain ⟨e1, e2⟩ := hr.heap.inj i1 i2 o5 o6 s s' b1 c1 c2 h7 h8 h10 h11 h9 h12
   subst e1 e2
   rcases hA with ⟨rfl, hi⟩ | ⟨rfl, h⟩ <;> rcases hB with ⟨rfl, hj⟩ | ⟨rfl, h'⟩
   ·exact ⟨rfl, rfl⟩
   ·exact absurd h' hi
   ·exact absurd h hj
   ·exact ⟨rfl, rfl⟩
  ·intro hle i o3 h1
   rcases hcase i o3 h1 with ⟨hi, hne, h4⟩ | ⟨rfl, rfl⟩ | ⟨rfl, rfl⟩
   ·exact .inl ⟨h4, hi, hlf i hi, fun _ _ _ _ _ hf => hf⟩
   ·right; trivial
   ·right
    have hrep := hr.heap.rep F _ hob
    rw [hlnew]
    exact RepArr.mono hle (fun _ _ _ => rfl) hrep
 have h2 := hr.step hstep
 refine ⟨loc', h2.heap, h2.size, h2.base, h2.n0le, h2.defers, fun t => ?_⟩
 by_cases ht : r = t
 ·subst ht
  have h3 := h2.slot r
  rw [hs] at h3
  rw [look_cons, if_pos rfl]
  obtain ⟨_, _, hm⟩ := h3
  refine ⟨rfl, by simp [ctx], ?_⟩
  have e1 : (ctx e (st.objs.set F .dead ++ [.arr T k n get]) loc' w).loc F = loc F := hlo F hid
  have e2 : (ctx e (st.objs.set F .dead ++ [.arr T k n get]) loc' w).loc st.objs.length = loc F := hlnew
  rw [e1] at hm
  rw [e2]
  exact hm
 ·rw [look_cons, if_neg ht]
  trivial
def AddC (P : Program) (f : FuncId) : Prop := ∀ (x y c : Int) (w : World), 0 ≤ x → 0 ≤ y → 0 ≤ c → c ≤ 1 →
 (callFunc f #[.int .u64 x, .int .u64 y, .int .u64 c]).run P w = .ok (.value (.tuple #[.int .u64 ((x + y + c) % 18446744073709551616), .int .u64 ((x + y + c) / 18446744073709551616)])) w
theorem AddC.of {P : Program} {f : FuncId} {fn : Func} (hf : P.funcs[f]? = some fn) (hname : (fn.name == "runtime.NumGoroutine") = false) (hb : fn.body.isNone = true) (hn : Extern.findNext fn = none) (he : Extern.find fn = some add64Entry) : AddC P f := by
 intro x y c w hx hy h0 h1
 rw [run_callFunc_extern hf hname hb hn he, run_add64 x y c hx hy h0 h1]
 rfl
theorem q_add64 {P : Program} {o : Oper} {ev : Operand → AV} {objs : List Ob} {f : FuncId} {x y z : Operand} {m n c : Int} {tys : Array TypeId} (hc : AddC P f) (ho : o.op = .call { callee := .value (.func f), args := #[x, y, z], argTypes := tys })
  (hx : ev x = .c (.int .u64 m)) (hy : ev y = .c (.int .u64 n)) (hz : ev z = .c (.int .u64 c)) (hb : 0 ≤ m ∧ 0 ≤ n ∧ 0 ≤ c ∧ c ≤ 1) :
  QOp P o ev objs (.t [.c (.int .u64 ((m + n + c) % 18446744073709551616)), .c (.int .u64 ((m + n + c) / 18446744073709551616))]) := by
 refine QOp.of_run fun e loc w a hr hh => ?_
 have h1 := hh x (by simp [ho, Op.operands, Call.operands]); rw [hx] at h1
 have h2 := hh y (by simp [ho, Op.operands, Call.operands]); rw [hy] at h2
 have h3 := hh z (by simp [ho, Op.operands, Call.operands]); rw [hz] at h3
 have h1' : a.eval x = .int .u64 m := h1
 have h2' : a.eval y = .int .u64 n := h2
 have h3' : a.eval z = .int .u64 c := h3
 have hrun := hc m n c w hb.1 hb.2.1 hb.2.2.1 hb.2.2.2
 refine ⟨.tuple #[.int .u64 ((m + n + c) % 18446744073709551616), .int .u64 ((m + n + c) / 18446744073709551616)], ?_, ⟨_, rfl, rfl, rfl, trivial⟩⟩
 simp only [execOp, ho, resolve, Act.eval, Deferred.ofValue, Sem.run_bind, Sem.run_pure, Result.andThen_ok, invoke]
 simp only [Array.map, List.map_toArray, h1', h2', h3']
 simpa [h1', h2', h3'] using hrun
end Go.Proofs.Ytoncfkdgddfnlaa.E
