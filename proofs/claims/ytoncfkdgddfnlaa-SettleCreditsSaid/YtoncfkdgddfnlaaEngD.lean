/- Operations that make memory or write it. -/
import Derived.Test.YtoncfkdgddfnlaaEngC
namespace Go.Proofs.Ytoncfkdgddfnlaa.E
open Go Go.RowKit
set_option linter.unusedVariables false
structure Step (e : Env) (objs : List Ob) (loc : Loc) (w : World) (objs' : List Ob) (loc' : Loc) (w' : World) : Prop where
 rep : HRep e objs' loc' w'
 le : (ctx e objs loc w).Le (ctx e objs' loc' w')
 len : objs.length ≤ objs'.length
 loc : ∀ i, i < objs.length → loc' i = loc i
theorem HRep.step {e : Env} {objs objs' : List Ob} {loc loc' : Loc} {w w' : World} (h : HRep e objs loc w) (Wr : Nat → Prop) (hk : Keep Wr w w') (hW : ∀ b, Wr b → owned objs loc b)
  (hlen : objs.length ≤ objs'.length) (hloc : ∀ i, i < objs.length → loc' i = loc i)
  (hown : ∀ b, owned objs' loc' b → (owned objs loc b ∨ w.heap.size ≤ b) ∧ b < w'.heap.size)
  (hinj : ∀ i j o o' s s' b c c', objs'[i]? = some o → o.has s = true → objs'[j]? = some o' → o'.has s' = true → loc'.at i s = some (b, c) → loc'.at j s' = some (b, c') → i = j ∧ s = s')
  (hrep : (ctx e objs loc w).Le (ctx e objs' loc' w') → ∀ i o, objs'[i]? = some o → (objs[i]? = some o ∧ i < objs.length ∧ loc'.f i = loc.f i ∧ ∀ s b c, loc.at i s = some (b, c) → o.has s = true → ¬ Wr b) ∨ RepO (ctx e objs' loc' w') (loc' i) (loc'.f i) o) :
  Step e objs loc w objs' loc' w' := by
 have hfresh0 : ∀ b, owned objs loc b → b < w.heap.size ∧ (e.w0.heap.size ≤ b ∨ e.M b) ∧ ¬ e.X b := by
  rintro b ⟨i, o, s, c, h1, h2, h3⟩
  exact ⟨(h.fresh i o s b c h1 h2 h3).1, (h.fresh i o s b c h1 h2 h3).2, h.notXs h1 h2 h3⟩
 have hle : (ctx e objs loc w).Le (ctx e objs' loc' w') := by
  refine ⟨fun b o y hO hc => ?_, fun b o y hO hc => ?_, fun i hi => ⟨Nat.lt_of_lt_of_le hi hlen, hloc i hi⟩⟩
  ·have hb := cell_lt hc
   refine (cell_heap (hk.block b hb (fun hw => hO (.inr (hW b hw)))) o).trans hc
  ·have hb : b < w.heap.size := cell_lt hc
   rintro (hx | ho)
   ·exact hO (.inl hx)
   ·rcases (hown b ho).1 with h1 | h1
    ·exact hO (.inr h1)
    ·omega
 refine ⟨⟨?_, h.xlt, fun i o ho => ?_, fun i o s b c ho hl hb => ?_, hinj⟩, hle, hlen, hloc⟩
 ·refine h.keep.trans' (hk.mono fun b hb hw => ?_)
  rcases (hfresh0 b (hW b hw)).2.1 with h1 | h1
  ·exact .inr h1
  ·exact .inl h1
 ·rcases hrep hle i o ho with ⟨h1, hi, hf, h2⟩ | h1
  ·rw [hloc i hi, hf]
   refine RepO.mono hle (fun s b c hl hlive => ?_) (h.rep i o h1)
   have hl' : loc.at i s = some (b, c) := by cases s <;> exact hl
   exact hk.block b (h.fresh i o s b c h1 hlive hl').1 (h2 s b c hl' hlive)
  ·exact h1
 ·obtain ⟨h1, h2⟩ := hown b ⟨i, o, s, c, ho, hl, hb⟩
  refine ⟨h2, ?_⟩
  rcases h1 with h1 | h1
  ·exact (hfresh0 b h1).2.1
  ·exact .inl (Nat.le_trans h.keep.size h1)
def locAdd (loc : Loc) (n : Nat) (l : Option (Nat × Nat)) : Loc := ⟨fun i => if i = n then l else loc i, fun i r => if i = n then none else loc.f i r⟩
theorem HRep.birth {e : Env} {objs : List Ob} {loc : Loc} {w w' : World} (h : HRep e objs loc w) (hb : Below w.heap.size w w') (o : Ob) (l : Option (Nat × Nat))
  (hl : ∀ b c, l = some (b, c) → w.heap.size ≤ b ∧ b < w'.heap.size)
  (ho : (ctx e objs loc w).Le (ctx e (objs ++ [o]) (locAdd loc objs.length l) w') → RepO (ctx e (objs ++ [o]) (locAdd loc objs.length l) w') l (fun _ => none) o) :
  Step e objs loc w (objs ++ [o]) (locAdd loc objs.length l) w' := by
 have hold : ∀ i, i < objs.length → (objs ++ [o])[i]? = objs[i]? := fun i hi => List.getElem?_append_left hi
 have hlo : ∀ i, i < objs.length → locAdd loc objs.length l i = loc i := fun i hi => by simp only [locAdd]; rw [if_neg (by omega)]
 have hlf : ∀ i, i < objs.length → (locAdd loc objs.length l).f i = loc.f i := fun i hi => by funext r; simp only [locAdd]; rw [if_neg (by omega)]
 have hls : ∀ i s, i < objs.length → (locAdd loc objs.length l).at i s = loc.at i s := fun i s hi => by
  cases s with
  | none => exact hlo i hi
  | some r => exact congrFun (hlf i hi) r
 have hln : ∀ s b c, (locAdd loc objs.length l).at objs.length s = some (b, c) → s = none ∧ l = some (b, c) := fun s b c h => by
  cases s with
  | none => exact ⟨rfl, by simpa [locAdd, Loc.at] using h⟩
  | some r => simp [locAdd, Loc.at] at h
 have hcase : ∀ i o', (objs ++ [o])[i]? = some o' → (i < objs.length ∧ objs[i]? = some o') ∨ (i = objs.length ∧ o' = o) := by
  intro i o' hi
  rcases Nat.lt_or_ge i objs.length with hlt | hge
  ·rw [hold i hlt] at hi; exact .inl ⟨hlt, hi⟩
  ·rw [List.getElem?_append_right hge] at hi
   cases hq : i - objs.length with
   | zero => rw [hq] at hi; simp at hi; exact .inr ⟨by omega, hi.symm⟩
   | succ q => rw [hq] at hi; simp at hi
 refine h.step (fun _ => False) ⟨hb.os, hb.tape, hb.output, hb.size, fun k hk _ => hb.block k hk⟩ (fun _ hf => hf.elim) (by simp) hlo ?_ ?_ ?_
 ·rintro b ⟨i, o', s, c, h1, h2, h3⟩
  rcases hcase i o' h1 with ⟨hi, h4⟩ | ⟨rfl, rfl⟩
  ·rw [hls i s hi] at h3
   exact ⟨.inl ⟨i, o', s, c, h4, h2, h3⟩, Nat.lt_of_lt_of_le (h.fresh i o' s b c h4 h2 h3).1 hb.size⟩
  ·have h7 := (hln s b c h3).2
   exact ⟨.inr (hl b c h7).1, (hl b c h7).2⟩
 ·intro i j o1 o2 s s' b c c' h1 h2 h3 h4 h5 h6
  rcases hcase i o1 h1 with ⟨hi, h7⟩ | ⟨rfl, rfl⟩ <;> rcases hcase j o2 h3 with ⟨hj, h8⟩ | ⟨rfl, rfl⟩
  ·rw [hls i s hi] at h5; rw [hls j s' hj] at h6
   exact h.inj i j o1 o2 s s' b c c' h7 h2 h8 h4 h5 h6
  ·rw [hls i s hi] at h5
   have := (h.fresh i o1 s b c h7 h2 h5).1; have := (hl b c' (hln s' b c' h6).2).1; omega
  ·rw [hls j s' hj] at h6
   have := (h.fresh j o2 s' b c' h8 h4 h6).1; have := (hl b c (hln s b c h5).2).1; omega
  ·exact ⟨rfl, (hln s b c h5).1.trans (hln s' b c' h6).1.symm⟩
 ·intro hle i o' h1
  rcases hcase i o' h1 with ⟨hi, h7⟩ | ⟨rfl, rfl⟩
  ·exact .inl ⟨h7, hi, hlf i hi, fun _ _ _ _ _ hf => hf⟩
  ·right
   have h1 : locAdd loc objs.length l objs.length = l := by simp [locAdd]
   have h2 : (locAdd loc objs.length l).f objs.length = fun _ => none := by funext r; simp [locAdd]
   rw [h1, h2]
   exact ho hle
theorem HRep.write {e : Env} {objs : List Ob} {loc : Loc} {w w' : World} (h : HRep e objs loc w) {id b c : Nat} {o o' : Ob} (ho : objs[id]? = some o) (hlv : o.live = true) (hl : loc id = some (b, c))
  (hk : Keep (fun k => k = b) w w')
  (hr : (ctx e objs loc w).Le (ctx e (objs.set id o') loc w') → RepO (ctx e (objs.set id o') loc w') (loc id) (loc.f id) o')
  (hmem : ∀ r, o'.mem r = true → o.mem r = true := by intro r h; exact h) :
  Step e objs loc w (objs.set id o') loc w' := by
 have hid : id < objs.length := (List.getElem?_eq_some_iff.1 ho).1
 have hhas : ∀ s, o'.has s = true → o.has s = true := fun s hs => by
  cases s with
  | none => exact hlv
  | some r => exact hmem r hs
 have hcase : ∀ i o2, (objs.set id o')[i]? = some o2 → (i ≠ id ∧ objs[i]? = some o2) ∨ (i = id ∧ o2 = o') := by
  intro i o2 hi
  rw [List.getElem?_set] at hi
  by_cases hii : id = i
  ·subst hii
   simp [hid] at hi
   exact .inr ⟨rfl, hi.symm⟩
  ·rw [if_neg hii] at hi
   exact .inl ⟨fun hh => hii hh.symm, hi⟩
 have hin : ∀ (i : Nat) (o2 : Ob) (s : Option Nat), (objs.set id o')[i]? = some o2 → o2.has s = true → ∃ o3, objs[i]? = some o3 ∧ o3.has s = true := by
  intro i o2 s h1 h2
  rcases hcase i o2 h1 with ⟨_, h4⟩ | ⟨rfl, rfl⟩
  ·exact ⟨o2, h4, h2⟩
  ·exact ⟨o, ho, hhas s h2⟩
 refine h.step (fun k => k = b) hk (fun k hk => by subst hk; exact ⟨id, o, none, c, ho, hlv, hl⟩) (by simp) (fun _ _ => rfl) ?_ ?_ ?_
 ·rintro b2 ⟨i, o2, s, c2, h1, h2, h3⟩
  obtain ⟨o3, h4, h5⟩ := hin i o2 s h1 h2
  exact ⟨.inl ⟨i, o3, s, c2, h4, h5, h3⟩, Nat.lt_of_lt_of_le (h.fresh i o3 s b2 c2 h4 h5 h3).1 hk.size⟩
 ·intro i j o1 o2 s s' b1 c1 c2 h1 h2 h3 h4 h5 h6
  obtain ⟨o3, h7, h8⟩ := hin i o1 s h1 h2
  obtain ⟨o4, h9, h10⟩ := hin j o2 s' h3 h4
  exact h.inj i j o3 o4 s s' b1 c1 c2 h7 h8 h9 h10 h5 h6
 ·intro hle i o2 h1
  rcases hcase i o2 h1 with ⟨hne, h4⟩ | ⟨rfl, rfl⟩
  ·refine .inl ⟨h4, (List.getElem?_eq_some_iff.1 h4).1, rfl, fun s b2 c2 h5 h6 h7 => ?_⟩
   subst h7
   exact hne (h.inj i id o2 o s none b2 c2 c h4 h6 ho hlv h5 hl).1
  ·exact .inr (hr hle)
theorem HRep.move {e : Env} {objs : List Ob} {loc : Loc} {w w' : World} (h : HRep e objs loc w) {id : Nat} {o : Ob} (o' : Ob) (ho : objs[id]? = some o) (hlv : o.live = true) (l : Option (Nat × Nat))
  (hk : Keep (fun k => ∃ c, loc id = some (k, c)) w w')
  (hl : ∀ b c, l = some (b, c) → ((∃ c', loc id = some (b, c')) ∨ w.heap.size ≤ b) ∧ b < w'.heap.size)
  (hr : (ctx e objs loc w).Le (ctx e (objs.set id .dead ++ [o']) (locAdd loc objs.length l) w') → RepO (ctx e (objs.set id .dead ++ [o']) (locAdd loc objs.length l) w') l (fun _ => none) o') :
  Step e objs loc w (objs.set id .dead ++ [o']) (locAdd loc objs.length l) w' := by
 have hid : id < objs.length := (List.getElem?_eq_some_iff.1 ho).1
 have hlo : ∀ i, i < objs.length → locAdd loc objs.length l i = loc i := fun i hi => by simp only [locAdd]; rw [if_neg (by omega)]
 have hlf : ∀ i, i < objs.length → (locAdd loc objs.length l).f i = loc.f i := fun i hi => by funext r; simp only [locAdd]; rw [if_neg (by omega)]
 have hls : ∀ i s, i < objs.length → (locAdd loc objs.length l).at i s = loc.at i s := fun i s hi => by
  cases s with
  | none => exact hlo i hi
  | some r => exact congrFun (hlf i hi) r
 have hln : ∀ s b c, (locAdd loc objs.length l).at objs.length s = some (b, c) → s = none ∧ l = some (b, c) := fun s b c h => by
  cases s with
  | none => exact ⟨rfl, by simpa [locAdd, Loc.at] using h⟩
  | some r => simp [locAdd, Loc.at] at h
 have hcase : ∀ (i : Nat) (o2 : Ob) (s : Option Nat), (objs.set id .dead ++ [o'])[i]? = some o2 → o2.has s = true → (i < objs.length ∧ i ≠ id ∧ objs[i]? = some o2) ∨ (i = objs.length ∧ o2 = o') := by
  intro i o2 s hi hlive
  have hlive := Ob.live_of_has hlive
  rcases Nat.lt_or_ge i objs.length with hlt | hge
  ·rw [List.getElem?_append_left (by simpa using hlt), List.getElem?_set] at hi
   by_cases hii : id = i
   ·subst hii
    simp [hid] at hi
    subst hi
    simp [Ob.live] at hlive
   ·rw [if_neg hii] at hi
    exact .inl ⟨hlt, fun hh => hii hh.symm, hi⟩
  ·rw [List.getElem?_append_right (by simpa using hge)] at hi
   simp only [List.length_set] at hi
   cases hq : i - objs.length with
   | zero => rw [hq] at hi; simp at hi; exact .inr ⟨by omega, hi.symm⟩
   | succ q => rw [hq] at hi; simp at hi
 refine h.step (fun k => ∃ c, loc id = some (k, c)) hk (fun k hk => by obtain ⟨c, hc⟩ := hk; exact ⟨id, o, none, c, ho, hlv, hc⟩) (by simp) hlo ?_ ?_ ?_
 ·rintro b2 ⟨i, o2, s, c2, h1, h2, h3⟩
  rcases hcase i o2 s h1 h2 with ⟨hi, hne, h4⟩ | ⟨rfl, rfl⟩
  ·rw [hls i s hi] at h3
   exact ⟨.inl ⟨i, o2, s, c2, h4, h2, h3⟩, Nat.lt_of_lt_of_le (h.fresh i o2 s b2 c2 h4 h2 h3).1 hk.size⟩
  ·obtain ⟨h5, h6⟩ := hl b2 c2 (hln s b2 c2 h3).2
   refine ⟨?_, h6⟩
   rcases h5 with ⟨c', h5⟩ | h5
   ·exact .inl ⟨id, o, none, c', ho, hlv, h5⟩
   ·exact .inr h5
 ·intro i j o1 o2 s s' b1 c1 c2 h1 h2 h3 h4 h5 h6
  rcases hcase i o1 s h1 h2 with ⟨hi, hne, h7⟩ | ⟨rfl, rfl⟩ <;> rcases hcase j o2 s' h3 h4 with ⟨hj, hne2, h8⟩ | ⟨rfl, rfl⟩
  ·rw [hls i s hi] at h5; rw [hls j s' hj] at h6
   exact h.inj i j o1 o2 s s' b1 c1 c2 h7 h2 h8 h4 h5 h6
  ·rw [hls i s hi] at h5
   rcases (hl b1 c2 (hln s' b1 c2 h6).2).1 with ⟨c', h9⟩ | h9
   ·exact absurd (h.inj i id o1 o s none b1 c1 c' h7 h2 ho hlv h5 h9).1 hne
   ·have := (h.fresh i o1 s b1 c1 h7 h2 h5).1; omega
  ·rw [hls j s' hj] at h6
   rcases (hl b1 c1 (hln s b1 c1 h5).2).1 with ⟨c', h9⟩ | h9
   ·exact absurd (h.inj j id o2 o s' none b1 c2 c' h8 h4 ho hlv h6 h9).1 hne2
   ·have := (h.fresh j o2 s' b1 c2 h8 h4 h6).1; omega
  ·exact ⟨rfl, (hln s b1 c1 h5).1.trans (hln s' b1 c2 h6).1.symm⟩
 ·intro hle i o2 h1
  by_cases hlive : o2.live = true
  ·rcases hcase i o2 none h1 hlive with ⟨hi, hne, h4⟩ | ⟨rfl, rfl⟩
   ·refine .inl ⟨h4, hi, hlf i hi, fun s b2 c2 h5 h6 h7 => ?_⟩
    obtain ⟨c', h7⟩ := h7
    exact hne (h.inj i id o2 o s none b2 c2 c' h4 h6 ho hlv h5 h7).1
   ·right
    have e1 : locAdd loc objs.length l objs.length = l := by simp [locAdd]
    have e2 : (locAdd loc objs.length l).f objs.length = fun _ => none := by funext r; simp [locAdd]
    rw [e1, e2]
    exact hr hle
  ·right
   cases o2 <;> simp_all [Ob.live, RepO]
def EOp (P : Program) (N : Fr) (o : Oper) (st st' : St) : Prop :=
 ∀ (e : Env) (loc : Loc) (a : Act) (w : World), SRep e N st loc a w →
  ∀ (K : Act → World → Prop) (Q : Exit → Act → World → Prop), (∀ a' w' loc', SRep e N st' loc' a' w' → K a' w') → o.wp P a w K Q
theorem SOps.e {P : Program} {N : Fr} {ops : Array Oper} {i : Nat} {rest : List Nat} {st st' : St} {K : St → Prop} {o : Oper} (ho : ops[i]? = some o) (hg : Runs ops st o)
  (q : EOp P N o st st') (k : SOps P N ops rest st' K) : SOps P N ops (i :: rest) st K := by
 intro e loc a w hr
 simp only [wpOps, ho]
 rw [if_pos (hg.wanted hr)]
 exact .inl (q e loc a w hr _ _ (fun a' w' loc' hr' => k e loc' a' w' hr'))
theorem SRep.step {e : Env} {N : Fr} {st : St} {loc loc' : Loc} {a : Act} {w w' : World} {objs' : List Ob} (h : SRep e N st loc a w)
  (hs : Step e st.objs loc w objs' loc' w') : SRep e N ⟨st.slots, objs'⟩ loc' a w' :=
 ⟨hs.rep, h.size, fun i hi => (hs.loc i (Nat.lt_of_lt_of_le hi h.n0le)).trans (h.base i hi), Nat.le_trans h.n0le hs.len, h.defers, fun t => RepA.mono hs.le _ _ (h.slot t)⟩
def Cell.one : Cell → Bool
 | .any => false
 | .raw v => v.oneCell'
 | _ => true
theorem RepC.one {x : Ctx} {t : Bool} {c : Cell} {v : Value} (h : RepC x t c v) (h1 : c.one = true) : v.oneCell' = true ∧ v.cells = #[v] := by
 have key : v.oneCell' = true := by
  cases c <;> simp [Cell.one] at h1
  ·cases h; rfl
  ·cases h; rfl
  ·cases h; rfl
  ·obtain ⟨a, c, rfl, _⟩ := h; rfl
  ·obtain ⟨_, b, off, rfl, _⟩ := h; rfl
  ·rename_i id len
   obtain ⟨_, _, hm⟩ := h
   cases hl : x.loc id with
   | none => rw [hl] at hm; obtain ⟨rfl, _⟩ := hm; rfl
   | some l => obtain ⟨b, c⟩ := l; rw [hl] at hm; have hm' : v = _ := hm; rw [hm']; rfl
  ·obtain ⟨_, _, b, c, _, rfl⟩ := h; rfl
  ·obtain ⟨_, _, b, c, _, rfl⟩ := h; rfl
  ·cases h; exact h1
  ·rename_i id lo n k
   obtain ⟨_, _, hm⟩ := h
   cases hl : x.loc id with
   | none => rw [hl] at hm; obtain ⟨rfl, _⟩ := hm; rfl
   | some l => obtain ⟨b, c⟩ := l; rw [hl] at hm; have hm' := hm.2; rw [hm']; rfl
  ·obtain ⟨vals, rfl, _⟩ := h; obtain ⟨g, a, b, e⟩ := fnVal_fn _ vals; rw [e]; rfl
  ·obtain ⟨_, _, b, c, _, rfl⟩ := h; rfl
  ·obtain ⟨_, _, b, c, _, rfl⟩ := h; rfl
 refine ⟨key, ?_⟩
 cases v <;> simp_all [Value.cells, Value.oneCell']
theorem RepL.one {x : Ctx} {t : Bool} : ∀ {cs : List Cell} {vs : List Value} (_ : RepL x t cs vs) (_ : cs.all Cell.one = true), ∀ v ∈ vs, v.oneCell' = true
 | [], [], _, _, v, hv => by cases hv
 | c :: cs, u :: vs, h, h1, v, hv => by
  simp only [List.all_cons, Bool.and_eq_true] at h1
  cases hv with
  | head => exact (RepC.one h.1 h1.1).1
  | tail _ hv => exact RepL.one h.2 h1.2 v hv
 | [], _ :: _, hv, _, _, _ => hv.elim
 | _ :: _, [], hv, _, _, _ => hv.elim
theorem below_alloc (w : World) (o : Obj) : Below w.heap.size w (w.alloc o) := (Below.refl _ _).alloc (Nat.le_refl _) o
theorem heap_new (w : World) (o : Obj) : (w.alloc o).heap[w.heap.size]? = some o := heap_alloc_new w o
def AV.cells : AV → List Cell
 | .c x => [x]
 | .a l => l
 | .t _ => []
section
variable {P : Program} {N : Fr} {o : Oper} {st : St} {x y : Operand} {t : TypeId} {d : Nat}
theorem birth_box {e : Env} {loc : Loc} {w : World} {a : Act} (hr : SRep e N st loc a w) (arr : Array Value) (T : TypeId) (cs : List Cell) (hL : RepL (ctx e st.objs loc w) true cs arr.toList) :
  SRep e N ⟨st.slots, st.objs ++ [.box cs]⟩ (locAdd loc st.objs.length (some (w.heap.size, 1))) a (w.alloc (.cells arr T)) := by
 refine hr.step (hr.heap.birth (below_alloc w _) (.box cs) (some (w.heap.size, 1)) (fun b c h => by cases h; simp) (fun hle => ?_))
 exact ⟨w.heap.size, 1, arr, T, rfl, heap_new w _, RepL.mono hle _ _ _ hL⟩
theorem ptr_new {e : Env} {objs : List Ob} {ob : Ob} {loc : Loc} {w w' : World} (b c : Nat) :
  RepA (ctx e (objs ++ [ob]) (locAdd loc objs.length (some (b, c))) w') (.c (.ptr objs.length 0)) (.pointer (some ⟨b, 0, none⟩)) :=
 ⟨rfl, by simp [ctx], b, c, by simp [ctx, locAdd], rfl⟩
theorem e_box {v : AV} (ho : o.op = .box t x) (hd : o.dst = some d) (hN : Nat.blt d N.N = true) (hx : evs st.slots x = v) (h1 : v.cells.all Cell.one = true) (h2 : v.cells.isEmpty = false) :
  EOp P N o st ⟨(d, .c (.ptr st.objs.length 0)) :: st.slots, st.objs ++ [.box v.cells]⟩ := by
 intro e loc a w hr K Q hK
 have hv := hr.eval x
 rw [hx] at hv
 have hcells : RepL (ctx e st.objs loc w) true v.cells (a.eval x).cells.toList := by
  cases v with
  | c c =>
   simp only [AV.cells, List.all_cons, List.all_nil, Bool.and_true] at h1
   have hv' : RepC (ctx e st.objs loc w) true c (a.eval x) := hv
   rw [(RepC.one hv' h1).2]
   exact ⟨hv', trivial⟩
  | a l =>
   obtain ⟨vs, hvs, hL⟩ := hv
   rw [hvs]
   exact hL
  | t l => simp [AV.cells] at h2
 have hrun : (execOp a.eval o).run P w = .ok (.value (.pointer (some ⟨w.heap.size, 0, none⟩))) (w.alloc (.cells (a.eval x).cells t)) := by
  simp [execOp, ho, Instr.box, newVar, newRow]
 unfold Oper.wp
 rw [hrun]
 have hs := birth_box hr (a.eval x).cells t v.cells hcells
 have := hs.put (some d) (fun s hs => by cases hs; simpa [Nat.blt_eq] using hN) (v := .c (.ptr st.objs.length 0)) (u := .pointer (some ⟨w.heap.size, 0, none⟩)) (ptr_new (w := w) _ _)
 rw [Oper.upon_value, hd]
 exact hK _ _ _ this
theorem e_alloc {z : Value} (ho : o.op = .alloc t) (hd : o.dst = some d) (hN : Nat.blt d N.N = true) (hz : (P.info? t).map (·.zero) = some (some z)) :
  EOp P N o st ⟨(d, .c (.ptr st.objs.length 0)) :: st.slots, st.objs ++ [.box (z.cells.toList.map cellOf)]⟩ := by
 intro e loc a w hr K Q hK
 have hcells : RepL (ctx e st.objs loc w) true (z.cells.toList.map cellOf) z.cells.toList :=
  RepL.of_get (by simp) (fun j c v h1 h2 => by
   simp only [List.getElem?_map] at h1
   rw [h2] at h1
   simp at h1
   subst h1
   exact rep_cellOf _ _ _)
 have hrun : (execOp a.eval o).run P w = .ok (.value (.pointer (some ⟨w.heap.size, 0, none⟩))) (w.alloc (.cells z.cells t)) := by
  cases hi : P.info? t with
  | none => rw [hi] at hz; simp at hz
  | some i =>
   rw [hi] at hz
   simp at hz
   simp [execOp, ho, Instr.alloc, zeroValue, typeInfo, hi, hz, newVar, newRow]
 unfold Oper.wp
 rw [hrun]
 have hs := birth_box hr z.cells t _ hcells
 have := hs.put (some d) (fun s hs => by cases hs; simpa [Nat.blt_eq] using hN) (v := .c (.ptr st.objs.length 0)) (u := .pointer (some ⟨w.heap.size, 0, none⟩)) (ptr_new (w := w) _ _)
 rw [Oper.upon_value, hd]
 exact hK _ _ _ this
def splice (cs : List Cell) (j : Nat) (l : List Cell) : List Cell := cs.take j ++ l ++ cs.drop (j + l.length)
theorem RepL.splice {x : Ctx} {t : Bool} {cs l : List Cell} {vs us : List Value} (h : RepL x t cs vs) (h2 : RepL x t l us) (j : Nat) : RepL x t (splice cs j l) (vs.take j ++ us ++ vs.drop (j + us.length)) := by
 unfold E.splice
 rw [h2.length]
 exact ((h.take j).append h2).append (h.drop _)
theorem keep_setRow (w : World) (b : Nat) (cs : Array Value) : Keep (fun k => k = b) w (w.setRow b cs) :=
 ⟨rfl, rfl, rfl, by simp [World.setRow], fun k _ hk => setRow_other w b k cs hk⟩
theorem run_storeVar' {P : Program} {t size : Nat} {agg : Bool} (h : tyB P t agg size = true) (w : World) (b o : Nat) (v : Value) (T : TypeId) (cur : Array Value) (hh : w.heap[b]? = some (.cells cur T (0, 0)))
  (hs : v.cells.size = size) (hfit : o + size ≤ cur.size) (h1 : ∀ u ∈ v.cells.toList, u.oneCell' = true) :
  (storeVar t ⟨b, o, none⟩ v).run P w = .ok () (w.setRow b (cur.toList.take o ++ v.cells.toList ++ cur.toList.drop (o + v.cells.toList.length)).toArray) := by
 have := run_storeCells_at P b o T v.cells.toList 0 cur w hh (by simp; omega) h1
 simp only [Nat.add_zero] at this
 simp [storeVar, run_sizeOf' h, hs, this]
theorem e_store_box {id j n : Nat} {cs : List Cell} {v : AV} {agg : Bool} (ho : o.op = .store t x y) (hd : o.dst = none) (hx : evs st.slots x = .c (.ptr id j)) (hob : st.objs[id]? = some (.box cs)) (hy : evs st.slots y = v)
  (ht : tyB P t agg n = true) (hn : v.cells.length = n) (h0 : v.cells.isEmpty = false) (h1 : v.cells.all Cell.one = true) (hfit : Nat.ble (j + n) cs.length = true) :
  EOp P N o st ⟨st.slots, st.objs.set id (.box (splice cs j v.cells))⟩ := by
 intro e loc a w hr K Q hK
 have hfit := Nat.le_of_ble_eq_true hfit
 have h2 := hr.eval x; rw [hx] at h2
 have h3 := hr.eval y; rw [hy] at h3
 obtain ⟨_, _, b, c', hloc, hv⟩ := h2
 obtain ⟨b2, c2, arr, T, hl2, hh, hL⟩ := hr.heap.box hob
 have hloc' : loc id = some (b, c') := hloc
 rw [hloc'] at hl2
 cases hl2
 have hcells : RepL (ctx e st.objs loc w) true v.cells (a.eval y).cells.toList := by
  cases v with
  | c c =>
   simp only [AV.cells, List.all_cons, List.all_nil, Bool.and_true] at h1
   have hv' : RepC (ctx e st.objs loc w) true c (a.eval y) := h3
   rw [(RepC.one hv' h1).2]
   exact ⟨hv', trivial⟩
  | a l =>
   obtain ⟨vs, hvs, hL⟩ := h3
   rw [hvs]
   exact hL
  | t l => simp [AV.cells] at h0
 have hlen := hcells.length
 have hlen2 := hL.length
 have hsz : (a.eval y).cells.size = n := by rw [← Array.length_toList, ← hlen, hn]
 have hrun : (execOp a.eval o).run P w = .ok .skip (w.setRow b (arr.toList.take j ++ (a.eval y).cells.toList ++ arr.toList.drop (j + (a.eval y).cells.toList.length)).toArray) := by
  have := run_storeVar' ht w b j (a.eval y) T arr hh hsz (by rw [← Array.length_toList, ← hlen2]; exact hfit) (RepL.one hcells h1)
  simp only [execOp, ho, hv, Instr.storeAt, Instr.sureAddr, Sem.run_bind, Sem.run_pure, Result.andThen_ok, this]
 obtain ⟨nw, hnw⟩ : ∃ nw : Array Value, nw = (arr.toList.take j ++ (a.eval y).cells.toList ++ arr.toList.drop (j + (a.eval y).cells.toList.length)).toArray := ⟨_, rfl⟩
 rw [← hnw] at hrun
 unfold Oper.wp
 rw [hrun]
 have hs := hr.step (hr.heap.write (o' := .box (splice cs j v.cells)) hob rfl hloc' (keep_setRow w b nw) (fun hle => by
  rw [hloc']
  refine ⟨b, c', nw, T, rfl, setRow_heap w b arr nw T _ hh, ?_⟩
  rw [show nw.toList = _ from congrArg Array.toList hnw]
  exact (RepL.mono hle _ _ _ hL).splice (RepL.mono hle _ _ _ hcells) j))
 rw [Oper.upon_skip, hd]
 exact hK _ _ loc hs
end
end Go.Proofs.Ytoncfkdgddfnlaa.E
