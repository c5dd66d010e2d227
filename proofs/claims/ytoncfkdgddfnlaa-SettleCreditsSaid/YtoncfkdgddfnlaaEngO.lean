/- Calls of functions that are handed objects of the caller's, and hand back others. -/
import Derived.Test.YtoncfkdgddfnlaaEngL
namespace Go.Proofs.Ytoncfkdgddfnlaa.E
open Go Go.RowKit
set_option linter.unusedVariables false
def renC (ρ : Nat → Nat) : Cell → Cell
 | .own id n => .own (ρ id) n
 | .ptr id j => .ptr (ρ id) j
 | .aptr id k i j => .aptr (ρ id) k i j
 | .sub id lo n k => .sub (ρ id) lo n k
 | .mp id => .mp (ρ id)
 | .fnp f id => .fnp f (ρ id)
 | c => c
def renV (ρ : Nat → Nat) : V1 → V1
 | .c c => .c (renC ρ c)
 | .a l => .a (l.map (renC ρ))
def renA (ρ : Nat → Nat) : AV → AV
 | .c c => .c (renC ρ c)
 | .a l => .a (l.map (renC ρ))
 | .t l => .t (l.map (renV ρ))
def renO (ρ : Nat → Nat) : Ob → Ob
 | .box cs => .box (cs.map (renC ρ))
 | o => o
def Cell.idLt (m : Nat) : Cell → Bool
 | .own id _ => Nat.blt id m
 | .ptr id _ => Nat.blt id m
 | .aptr id _ _ _ => Nat.blt id m
 | .sub id _ _ _ => Nat.blt id m
 | .mp id => Nat.blt id m
 | .fnp _ id => Nat.blt id m
 | _ => true
def V1.idLt (m : Nat) : V1 → Bool
 | .c x => Cell.idLt m x
 | .a l => l.all (Cell.idLt m)
def AV.idLt (m : Nat) : AV → Bool
 | .c x => Cell.idLt m x
 | .a l => l.all (Cell.idLt m)
 | .t l => l.all (V1.idLt m)
def Ob.idLt (m : Nat) : Ob → Bool
 | .box cs => cs.all (Cell.idLt m)
 | _ => true
theorem RepC.weak {x x' : Ctx} (hw : x'.w = x.w) (hO : ∀ b, x'.O b → x.O b) : ∀ (c : Cell) (v : Value), RepC x false c v → RepC x' false c v := by
 intro c
 induction c with
 | vec n k get ih =>
  rintro v ⟨ad, c, rfl, hc, hp⟩
  refine ⟨ad, c, rfl, hc, fun hn hk => ?_⟩
  obtain ⟨b, off, rfl, hnO, hcell⟩ := hp hn hk
  refine ⟨b, off, rfl, fun h => hnO (hO b h), fun i hi j hj => ?_⟩
  obtain ⟨y, hy, hr⟩ := hcell i hi j hj
  exact ⟨y, by rw [hw]; exact hy, ih i j y hr⟩
 | eptr k get j ih =>
  rintro v ⟨hj, b, off, rfl, hnO, hcell⟩
  refine ⟨hj, b, off, rfl, fun h => hnO (hO b h), fun j' hj' => ?_⟩
  obtain ⟨y, hy, hr⟩ := hcell j' hj'
  exact ⟨y, by rw [hw]; exact hy, ih j' y hr⟩
 | own id len => rintro v ⟨ht, _⟩; cases ht
 | ptr id j => rintro v ⟨ht, _⟩; cases ht
 | aptr id k i j => rintro v ⟨ht, _⟩; cases ht
 | sub id lo n k => rintro v ⟨ht, _⟩; cases ht
 | mp id => rintro v ⟨ht, _⟩; cases ht
 | fnp f id => rintro v ⟨ht, _⟩; cases ht
 | fn f n get ih =>
  rintro v ⟨vals, rfl, hs, hg⟩
  refine ⟨vals, rfl, hs, fun j hj => ?_⟩
  obtain ⟨y, hy, hr⟩ := hg j hj
  exact ⟨y, hy, ih j y hr⟩
 | _ => intro v h; exact h
theorem RepL.weak {x x' : Ctx} (hw : x'.w = x.w) (hO : ∀ b, x'.O b → x.O b) : ∀ (l : List Cell) (vs : List Value), RepL x false l vs → RepL x' false l vs
 | [], [], _ => trivial
 | c :: cs, v :: vs, h => ⟨RepC.weak hw hO c v h.1, RepL.weak hw hO cs vs h.2⟩
 | [], _ :: _, h => h.elim
 | _ :: _, [], h => h.elim
theorem RepF.weak {x x' : Ctx} (hw : x'.w = x.w) (hO : ∀ b, x'.O b → x.O b) (c : V1) (v : Value) (h : RepF x c v) : RepF x' c v := by
 cases c with
 | c c => exact RepC.weak hw hO c v h
 | a l => obtain ⟨vs, hv, hl⟩ := h; exact ⟨vs, hv, RepL.weak hw hO l _ hl⟩
def Cell.nr : Cell → Bool
 | .vec .. => false
 | .eptr .. => false
 | .fn .. => false
 | _ => true
def V1.nr : V1 → Bool
 | .c q => q.nr
 | .a l => l.all Cell.nr
def AV.nr : AV → Bool
 | .c q => q.nr
 | .a l => l.all Cell.nr
 | .t l => l.all V1.nr
def Ob.nr : Ob → Prop
 | .box cs => cs.all Cell.nr = true
 | .arr _ _ _ get => ∀ i j, (get i j).nr = true
 | .raw _ => True
 | .dead => True
 | _ => False
theorem RepC.weak2 {x x' : Ctx} (hw : x'.w = x.w) (c : Cell) (v : Value) (hO : c.nr = true ∨ ∀ b, x'.O b → x.O b) (h : RepC x false c v) : RepC x' false c v := by
 rcases hO with hn | hO
 ·cases c with
  | vec n k get => simp [Cell.nr] at hn
  | eptr k get j => simp [Cell.nr] at hn
  | fn f n get => simp [Cell.nr] at hn
  | own id n => exact absurd h.1 (by simp)
  | ptr id j => exact absurd h.1 (by simp)
  | aptr id k i j => exact absurd h.1 (by simp)
  | sub id lo n k => exact absurd h.1 (by simp)
  | mp id => exact absurd h.1 (by simp)
  | fnp f id => exact absurd h.1 (by simp)
  | _ => exact h
 ·exact RepC.weak hw hO c v h
theorem RepC.downR {x x' : Ctx} (ρ : Nat → Nat) (m : Nat) (hw : x'.w = x.w) (hO : ∀ b, x'.O b → x.O b) (hl : ∀ i, i < m → x'.B i ∧ x'.loc i = x.loc (ρ i)) (c : Cell) (t : Bool) (v : Value) (hi : c.idLt m = true)
  (h : RepC x t (renC ρ c) v) : RepC x' t c v := by
 cases c with
 | own id n =>
  obtain ⟨ht, _, hm⟩ := h
  have hlt : id < m := by simpa [Cell.idLt, Nat.blt_eq] using hi
  obtain ⟨h1, h2⟩ := hl id hlt
  exact ⟨ht, h1, by rw [h2]; exact hm⟩
 | ptr id j =>
  obtain ⟨ht, _, b, c, hm, hv⟩ := h
  have hlt : id < m := by simpa [Cell.idLt, Nat.blt_eq] using hi
  obtain ⟨h1, h2⟩ := hl id hlt
  exact ⟨ht, h1, b, c, by rw [h2]; exact hm, hv⟩
 | aptr id k i j =>
  obtain ⟨ht, _, b, c, hm, hv⟩ := h
  have hlt : id < m := by simpa [Cell.idLt, Nat.blt_eq] using hi
  obtain ⟨h1, h2⟩ := hl id hlt
  exact ⟨ht, h1, b, c, by rw [h2]; exact hm, hv⟩
 | sub id lo n k =>
  obtain ⟨ht, _, hm⟩ := h
  have hlt : id < m := by simpa [Cell.idLt, Nat.blt_eq] using hi
  obtain ⟨h1, h2⟩ := hl id hlt
  exact ⟨ht, h1, by rw [h2]; exact hm⟩
 | mp id =>
  obtain ⟨ht, _, b, c, hm, hv⟩ := h
  have hlt : id < m := by simpa [Cell.idLt, Nat.blt_eq] using hi
  obtain ⟨h1, h2⟩ := hl id hlt
  exact ⟨ht, h1, b, c, by rw [h2]; exact hm, hv⟩
 | fnp f id =>
  obtain ⟨ht, _, b, c, hm, hv⟩ := h
  have hlt : id < m := by simpa [Cell.idLt, Nat.blt_eq] using hi
  obtain ⟨h1, h2⟩ := hl id hlt
  exact ⟨ht, h1, b, c, by rw [h2]; exact hm, hv⟩
 | vec n k get => exact RepC.weak hw hO (.vec n k get) v h
 | eptr k get j => exact RepC.weak hw hO (.eptr k get j) v h
 | fn f n get => exact RepC.weak hw hO (.fn f n get) v h
 | _ => exact h
theorem RepC.upR {x x' : Ctx} (ρ : Nat → Nat) (hw : x'.w = x.w) (hl : ∀ i, x.B i → x'.B (ρ i) ∧ x'.loc (ρ i) = x.loc i) (c : Cell) (t : Bool) (v : Value) (hO : c.nr = true ∨ ∀ b, x'.O b → x.O b)
  (h : RepC x t c v) : RepC x' t (renC ρ c) v := by
 cases c with
 | own id n =>
  obtain ⟨ht, hB, hm⟩ := h
  obtain ⟨h1, h2⟩ := hl id hB
  refine ⟨ht, h1, ?_⟩
  rw [h2]; exact hm
 | ptr id j =>
  obtain ⟨ht, hB, b, c, hm, hv⟩ := h
  obtain ⟨h1, h2⟩ := hl id hB
  exact ⟨ht, h1, b, c, by rw [h2]; exact hm, hv⟩
 | aptr id k i j =>
  obtain ⟨ht, hB, b, c, hm, hv⟩ := h
  obtain ⟨h1, h2⟩ := hl id hB
  exact ⟨ht, h1, b, c, by rw [h2]; exact hm, hv⟩
 | sub id lo n k =>
  obtain ⟨ht, hB, hm⟩ := h
  obtain ⟨h1, h2⟩ := hl id hB
  refine ⟨ht, h1, ?_⟩
  rw [h2]; exact hm
 | mp id =>
  obtain ⟨ht, hB, b, c, hm, hv⟩ := h
  obtain ⟨h1, h2⟩ := hl id hB
  exact ⟨ht, h1, b, c, by rw [h2]; exact hm, hv⟩
 | fnp f id =>
  obtain ⟨ht, hB, b, c, hm, hv⟩ := h
  obtain ⟨h1, h2⟩ := hl id hB
  exact ⟨ht, h1, b, c, by rw [h2]; exact hm, hv⟩
 | vec n k get => exact RepC.weak2 hw (.vec n k get) v hO h
 | eptr k get j => exact RepC.weak2 hw (.eptr k get j) v hO h
 | fn f n get => exact RepC.weak2 hw (.fn f n get) v hO h
 | _ => exact h
theorem RepL.downR {x x' : Ctx} (ρ : Nat → Nat) (m : Nat) (hw : x'.w = x.w) (hO : ∀ b, x'.O b → x.O b) (hl : ∀ i, i < m → x'.B i ∧ x'.loc i = x.loc (ρ i)) (t : Bool) : ∀ (cs : List Cell) (vs : List Value), cs.all (Cell.idLt m) = true →
  RepL x t (cs.map (renC ρ)) vs → RepL x' t cs vs
 | [], [], _, _ => trivial
 | c :: cs, v :: vs, hi, h => by
  simp only [List.all_cons, Bool.and_eq_true] at hi
  exact ⟨RepC.downR ρ m hw hO hl c t v hi.1 h.1, RepL.downR ρ m hw hO hl t cs vs hi.2 h.2⟩
 | [], _ :: _, _, h => h.elim
 | _ :: _, [], _, h => h.elim
theorem RepL.upR {x x' : Ctx} (ρ : Nat → Nat) (hw : x'.w = x.w) (hl : ∀ i, x.B i → x'.B (ρ i) ∧ x'.loc (ρ i) = x.loc i) (t : Bool) : ∀ (cs : List Cell) (vs : List Value), (cs.all Cell.nr = true ∨ ∀ b, x'.O b → x.O b) →
  RepL x t cs vs → RepL x' t (cs.map (renC ρ)) vs
 | [], [], _, _ => trivial
 | c :: cs, v :: vs, hO, h => by
  have h1 : (c.nr = true ∨ ∀ b, x'.O b → x.O b) ∧ (cs.all Cell.nr = true ∨ ∀ b, x'.O b → x.O b) := by
   rcases hO with hn | hO
   ·simp only [List.all_cons, Bool.and_eq_true] at hn
    exact ⟨.inl hn.1, .inl hn.2⟩
   ·exact ⟨.inr hO, .inr hO⟩
  exact ⟨RepC.upR ρ hw hl c t v h1.1 h.1, RepL.upR ρ hw hl t cs vs h1.2 h.2⟩
 | [], _ :: _, _, h => h.elim
 | _ :: _, [], _, h => h.elim
theorem RepV1L.upR {x x' : Ctx} (ρ : Nat → Nat) (hw : x'.w = x.w) (hl : ∀ i, x.B i → x'.B (ρ i) ∧ x'.loc (ρ i) = x.loc i) : ∀ (cs : List V1) (vs : List Value), (cs.all V1.nr = true ∨ ∀ b, x'.O b → x.O b) →
  RepV1L x cs vs → RepV1L x' (cs.map (renV ρ)) vs
 | [], [], _, _ => trivial
 | c :: cs, v :: vs, hO, h => by
  have h1 : (c.nr = true ∨ ∀ b, x'.O b → x.O b) ∧ (cs.all V1.nr = true ∨ ∀ b, x'.O b → x.O b) := by
   rcases hO with hn | hO
   ·simp only [List.all_cons, Bool.and_eq_true] at hn
    exact ⟨.inl hn.1, .inl hn.2⟩
   ·exact ⟨.inr hO, .inr hO⟩
  refine ⟨?_, RepV1L.upR ρ hw hl cs vs h1.2 h.2⟩
  cases c with
  | c c => exact RepC.upR ρ hw hl c true v h1.1 h.1
  | a l => obtain ⟨us, rfl, hu⟩ := h.1; exact ⟨us, rfl, RepL.upR ρ hw hl true l _ h1.1 hu⟩
 | [], _ :: _, _, h => h.elim
 | _ :: _, [], _, h => h.elim
theorem RepA.upR {x x' : Ctx} (ρ : Nat → Nat) (hw : x'.w = x.w) (hl : ∀ i, x.B i → x'.B (ρ i) ∧ x'.loc (ρ i) = x.loc i) (c : AV) (v : Value) (hO : c.nr = true ∨ ∀ b, x'.O b → x.O b)
  (h : RepA x c v) : RepA x' (renA ρ c) v := by
 cases c with
 | c c => exact RepC.upR ρ hw hl c true v hO h
 | a l => obtain ⟨us, rfl, hu⟩ := h; exact ⟨us, rfl, RepL.upR ρ hw hl true l _ hO hu⟩
 | t l => obtain ⟨us, rfl, hu⟩ := h; exact ⟨us, rfl, RepV1L.upR ρ hw hl l _ hO hu⟩
theorem RepA.downR {x x' : Ctx} (ρ : Nat → Nat) (m : Nat) (hw : x'.w = x.w) (hO : ∀ b, x'.O b → x.O b) (hl : ∀ i, i < m → x'.B i ∧ x'.loc i = x.loc (ρ i)) (c : AV) (v : Value) (hi : c.idLt m = true)
  (h : RepA x (renA ρ c) v) : RepA x' c v := by
 cases c with
 | c c => exact RepC.downR ρ m hw hO hl c true v hi h
 | a l => obtain ⟨us, rfl, hu⟩ := h; exact ⟨us, rfl, RepL.downR ρ m hw hO hl true l _ hi hu⟩
 | t l =>
  obtain ⟨us, rfl, hu⟩ := h
  refine ⟨us, rfl, ?_⟩
  have key : ∀ (l : List V1) (vs : List Value), (AV.t l).idLt m = true → RepV1L x (l.map (renV ρ)) vs → RepV1L x' l vs := by
   intro l
   induction l with
   | nil => intro vs _ h; cases vs with
    | nil => trivial
    | cons _ _ => exact h.elim
   | cons c l ih =>
    intro vs hi h
    cases vs with
    | nil => exact h.elim
    | cons v vs =>
     simp only [AV.idLt, List.all_cons, Bool.and_eq_true] at hi
     have hi2 : (AV.t l).idLt m = true := hi.2
     refine ⟨?_, ih vs hi2 h.2⟩
     cases c with
     | c c => exact RepC.downR ρ m hw hO hl c true v hi.1 h.1
     | a l => obtain ⟨us, rfl, hu⟩ := h.1; exact ⟨us, rfl, RepL.downR ρ m hw hO hl true l _ hi.1 hu⟩
  exact key l _ hi hu
def putO : List Ob → List Nat → List Ob → List Ob
 | objs, [], os => objs ++ os
 | objs, id :: ids, o :: os => putO (objs.set id o) ids os
 | objs, _ :: _, [] => objs
theorem putO_get : ∀ (ids : List Nat) (objs os : List Ob), (∀ k ∈ ids, k < objs.length) → ids.Nodup → ids.length ≤ os.length →
  (∀ j, j < objs.length → j ∉ ids → (putO objs ids os)[j]? = objs[j]?) ∧ (∀ (i j : Nat), ids[i]? = some j → (putO objs ids os)[j]? = os[i]?) ∧
  (∀ j, objs.length ≤ j → (putO objs ids os)[j]? = os[ids.length + (j - objs.length)]?)
 | [], objs, os, _, _, _ => by
  refine ⟨fun j hj _ => (by simp only [putO]; exact List.getElem?_append_left hj), fun i j h => by simp at h, fun j hj => ?_⟩
  simp only [putO]
  rw [List.getElem?_append_right hj]; simp
 | id :: ids, objs, [], _, _, h => by simp at h
 | id :: ids, objs, o :: os, hlt, hn, hlen => by
  rw [List.nodup_cons] at hn
  have hid : id < objs.length := hlt id (by simp)
  obtain ⟨h1, h2, h3⟩ := putO_get ids (objs.set id o) os (fun k hk => by simpa using hlt k (by simp [hk])) hn.2 (by simpa using hlen)
  have hnot := h1 id (by simpa using hid) hn.1
  refine ⟨fun j hj hm => ?_, fun i j hij => ?_, fun j hj => ?_⟩
  ·simp only [List.mem_cons, not_or] at hm
   have := h1 j (by simpa using hj) hm.2
   simp only [putO]
   rw [this, List.getElem?_set_ne (Ne.symm hm.1)]
  ·cases i with
   | zero =>
    simp at hij
    subst hij
    simp only [putO]
    rw [hnot]; simp [hid]
   | succ i =>
    simp only [putO]
    rw [h2 i j (by simpa using hij)]; simp
  ·simp only [putO]
   rw [h3 j (by simpa using hj)]
   simp only [List.length_set, List.length_cons]
   rw [show ids.length + 1 + (j - objs.length) = (ids.length + (j - objs.length)) + 1 by omega]
   simp
theorem putO_len : ∀ (ids : List Nat) (objs os : List Ob), ids.length ≤ os.length → (putO objs ids os).length = objs.length + (os.length - ids.length)
 | [], objs, os, _ => by simp [putO]
 | id :: ids, objs, [], h => by simp at h
 | id :: ids, objs, o :: os, h => by
  simp only [putO]
  rw [putO_len ids _ os (by simpa using h)]
  simp
def rho (ids : List Nat) (n i : Nat) : Nat := match ids[i]? with
 | some k => k
 | none => n + (i - ids.length)
def ltB (n : Nat) (ids : List Nat) : Bool := ids.all fun k => Nat.blt k n
theorem renO_live {ρ : Nat → Nat} {o : Ob} : (renO ρ o).live = o.live := by cases o <;> rfl
theorem renO_has {ρ : Nat → Nat} {o : Ob} {s : Option Nat} : (renO ρ o).has s = o.has s := by cases s <;> cases o <;> rfl
def Ob.flatO : Ob → Bool
 | .rows .. => false
 | .arh .. => false
 | .maps .. => false
 | _ => true
theorem Ob.has_flat {o : Ob} {s : Option Nat} (h : o.flatO = true) (hs : o.has s = true) : s = none := by
 cases s with
 | none => rfl
 | some r => cases o <;> first | (simp [Ob.has, Ob.mem] at hs; done) | (simp [Ob.flatO] at h)
theorem nodup_of : ∀ {ids : List Nat}, nodupB ids = true → ids.Nodup
 | [], _ => List.nodup_nil
 | x :: r, h => by
  simp only [nodupB, Bool.and_eq_true, Bool.not_eq_true'] at h
  rw [List.nodup_cons]
  refine ⟨fun hm => ?_, nodup_of h.2⟩
  have : r.any (Nat.beq x) = true := List.any_eq_true.2 ⟨x, hm, by simp⟩
  rw [this] at h
  exact absurd h.1 (by simp)
section
variable {P : Program} {N : Fr} {o : Oper} {st : St} {d : Nat} {f : FuncId} {args : Array Operand} {tys : Array TypeId}
theorem call_step {avs : List AV} {res : AV} {cobjs cobjs' : List Ob} {e : Env} {loc : Loc} {a : Act} {w : World} (hf : SFun P f cobjs avs (fun r os => r = res ∧ os = cobjs')) (ids : List Nat)
  (hn : nodupB ids = true) (hlt : ltB st.objs.length ids = true) (hlen : ids.length = cobjs.length) (hob : ids.map (st.objs[·]?) = cobjs.map (fun o => some (renO (rho ids st.objs.length) o)))
  (hcid : cobjs.all (Ob.idLt cobjs.length) = true) (hfl : cobjs'.all Ob.flatO = true) (hfl0 : cobjs.all Ob.flatO = true) (lid : List Nat) (hdis : ids.all (fun k => !(lid.any (Nat.beq k))) = true) (hlid : lid = [] ∨ (res.nr = true ∧ ∀ o ∈ cobjs', o.nr)) (vals : List Value) (hr : SRep e N st loc a w) (hargs : ∀ (x' : Ctx), x'.w = w → (∀ b, x'.O b → (ctx e st.objs loc w).O b) →
   (∀ i, i < cobjs.length → x'.B i ∧ x'.loc i = loc (rho ids st.objs.length i)) → (∀ k ∈ lid, ∀ o' b c, st.objs[k]? = some o' → o'.live = true → loc k = some (b, c) → ¬ x'.O b) → RepAL x' avs vals) :
  Calls P f vals.toArray w fun en w' => ∃ v loc2, en = .returned v ∧ SRep e N ⟨st.slots, putO st.objs ids (cobjs'.map (renO (rho ids st.objs.length)))⟩ loc2 a w' ∧
   RepA (ctx e (putO st.objs ids (cobjs'.map (renO (rho ids st.objs.length)))) loc2 w') (renA (rho ids st.objs.length) res) v := by
 have hh := hr.heap
 have hnd := nodup_of hn
 have hlt' : ∀ k ∈ ids, k < st.objs.length := fun k hk => by
  simp only [ltB, List.all_eq_true] at hlt
  simpa [Nat.blt_eq] using hlt k hk
 obtain ⟨n, hN⟩ : ∃ n, n = st.objs.length := ⟨_, rfl⟩
 obtain ⟨ρ, hρ⟩ : ∃ ρ, ρ = rho ids st.objs.length := ⟨_, rfl⟩
 rw [← hρ] at hob hargs ⊢
 have hρlt : ∀ i (hi : i < ids.length), ids[i]? = some (ρ i) := by
  intro i hi
  rw [hρ]
  unfold rho
  rw [List.getElem?_eq_getElem hi]
 have hρge : ∀ i, ids.length ≤ i → ρ i = n + (i - ids.length) := by
  intro i hi
  rw [hρ]
  unfold rho
  rw [List.getElem?_eq_none hi, hN]
 have hρn : ∀ i, i < ids.length → ρ i < n := fun i hi => by rw [hN]; exact hlt' _ (List.mem_of_getElem? (hρlt i hi))
 have hobi : ∀ i o, cobjs[i]? = some o → st.objs[ρ i]? = some (renO ρ o) := by
  intro i o' ho'
  have hi : i < ids.length := by rw [hlen]; exact (List.getElem?_eq_some_iff.1 ho').1
  have h1 := congrArg (·[i]?) hob
  simp only [List.getElem?_map, ho', hρlt i hi, Option.map_some] at h1
  exact Option.some.inj h1
 -- what the callee sees
 let loc' : Loc := ⟨fun i => if i < ids.length then loc (ρ i) else none, fun _ _ => none⟩
 let X' : Nat → Prop := fun b => e.X b ∨ ∃ i o' s c, st.objs[i]? = some o' ∧ o'.has s = true ∧ loc.at i s = some (b, c) ∧ i ∉ ids ∧ i ∉ lid
 let e' : Env := ⟨w, fun b => owned cobjs loc' b, X', loc'.b, []⟩
 have hloc' : ∀ i, i < ids.length → loc' i = loc (ρ i) := fun i hi => by show (if i < ids.length then _ else _) = _; rw [if_pos hi]
 have hown : ∀ b, owned cobjs loc' b → ∃ i o' c, i < ids.length ∧ cobjs[i]? = some o' ∧ st.objs[ρ i]? = some (renO ρ o') ∧ o'.live = true ∧ loc (ρ i) = some (b, c) := by
  rintro b ⟨i, o', s, c, h1, h2, h3⟩
  have hi : i < ids.length := by rw [hlen]; exact (List.getElem?_eq_some_iff.1 h1).1
  have hs0 : s = none := by
   cases s with
   | none => rfl
   | some r => cases h3
  subst hs0
  have h3' : loc' i = some (b, c) := h3
  rw [hloc' i hi] at h3'
  exact ⟨i, o', c, hi, h1, hobi i o' h1, h2, h3'⟩
 have hownO : ∀ b, owned cobjs loc' b → owned st.objs loc b := fun b hb => by
  obtain ⟨i, o', c, _, _, h1, h2, h3⟩ := hown b hb
  exact ⟨ρ i, _, none, c, h1, by rw [renO_has]; exact h2, h3⟩
 have hO' : ∀ b, (ctx e' cobjs loc' w).O b → (ctx e st.objs loc w).O b := by
  rintro b ((hx | ⟨i, o', s, c, h1, h2, h3, _, _⟩) | ho)
  ·exact .inl hx
  ·exact .inr ⟨i, o', s, c, h1, h2, h3⟩
  ·exact .inr (hownO b ho)
 have hX'lt : ∀ b, X' b → b < w.heap.size := by
  rintro b (hx | ⟨i, o', s, c, h1, h2, h3, _, _⟩)
  ·exact Nat.lt_of_lt_of_le (hh.xlt b hx).1 hh.keep.size
  ·exact (hh.fresh i o' s b c h1 h2 h3).1
 have hXM : ∀ b, X' b → ¬ owned cobjs loc' b := by
  intro b hx ho
  obtain ⟨i, o', c, hi, _, h1, h2, h3⟩ := hown b ho
  rcases hx with hx | ⟨j, o2, s, c2, g1, g2, g3, g4, _⟩
  ·exact hh.notX h1 (by rw [renO_live]; exact h2) h3 hx
  ·have := (hh.inj j (ρ i) o2 _ s none b c2 c g1 g2 h1 (by rw [renO_has]; exact h2) g3 h3).1
   subst this
   exact g4 (List.mem_of_getElem? (hρlt i hi))
 have hlB : ∀ i, i < cobjs.length → (ctx e' cobjs loc' w).B i ∧ (ctx e' cobjs loc' w).loc i = (ctx e st.objs loc w).loc (ρ i) := fun i hi => ⟨hi, hloc' i (by omega)⟩
 have hr' : HRep e' cobjs loc' w := by
  refine ⟨Keep.refl _ _, fun b hb => ⟨hX'lt b hb, hXM b hb⟩, fun i o' h1 => ?_, fun i o' s b c h1 h2 h3 => ?_, fun i j o1 o2 s s' b c c' h1 h2 h3 h4 h5 h6 => ?_⟩
  ·have hi : i < ids.length := by rw [hlen]; exact (List.getElem?_eq_some_iff.1 h1).1
   have h2 := hh.rep (ρ i) _ (hobi i o' h1)
   rw [hloc' i hi]
   have hflo : o'.flatO = true := List.all_eq_true.1 hfl0 o' (List.mem_of_getElem? h1)
   have hid : o'.idLt cobjs.length = true := List.all_eq_true.1 hcid o' (List.mem_of_getElem? h1)
   cases o' with
   | dead => trivial
   | rows _ _ _ _ _ _ _ => simp [Ob.flatO] at hflo
   | arh _ _ _ _ _ => simp [Ob.flatO] at hflo
   | maps _ _ _ _ _ _ => simp [Ob.flatO] at hflo
   | raw ob => exact h2
   | map n key get =>
    obtain ⟨b, c, es, g1, g2, g3, g4⟩ := h2
    refine ⟨b, c, es, g1, g2, g3, fun i hi => ?_⟩
    obtain ⟨en, k1, k2, k3, k4⟩ := g4 i hi
    exact ⟨en, k1, k2, RepC.weak (x := ctx e st.objs loc w) (x' := ctx e' cobjs loc' w) rfl hO' _ _ k3, RepF.weak (x := ctx e st.objs loc w) (x' := ctx e' cobjs loc' w) rfl hO' _ _ k4⟩
   | box cs =>
    obtain ⟨b, c, arr, T, h3, h4, h5⟩ := h2
    exact ⟨b, c, arr, T, h3, h4, RepL.downR (x := ctx e st.objs loc w) (x' := ctx e' cobjs loc' w) ρ cobjs.length rfl hO' hlB true cs _ hid h5⟩
   | arr T k n get =>
    cases hl : loc (ρ i) with
    | none => rw [hl] at h2; exact h2
    | some bc =>
     obtain ⟨b, c⟩ := bc
     rw [hl] at h2
     obtain ⟨arr, g1, g2, g3, g4, g5⟩ := h2
     refine ⟨arr, g1, g2, g3, g4, fun i hi j hj => ?_⟩
     obtain ⟨y, hy, hrep⟩ := g5 i hi j hj
     exact ⟨y, hy, RepC.weak (x := ctx e st.objs loc w) (x' := ctx e' cobjs loc' w) rfl hO' _ y hrep⟩
  ·have hb : owned cobjs loc' b := ⟨i, o', s, c, h1, h2, h3⟩
   obtain ⟨i2, o2, c2, _, _, g1, g2, g3⟩ := hown b hb
   exact ⟨(hh.fresh (ρ i2) _ none b c2 g1 (by rw [renO_has]; exact g2) g3).1, .inr hb⟩
  ·have hi : i < ids.length := by rw [hlen]; exact (List.getElem?_eq_some_iff.1 h1).1
   have hj : j < ids.length := by rw [hlen]; exact (List.getElem?_eq_some_iff.1 h3).1
   obtain rfl : s = none := by
    cases s with
    | none => rfl
    | some r => cases h5
   obtain rfl : s' = none := by
    cases s' with
    | none => rfl
    | some r => cases h6
   have h5' : loc' i = some (b, c) := h5
   have h6' : loc' j = some (b, c') := h6
   rw [hloc' i hi] at h5'
   rw [hloc' j hj] at h6'
   have := (hh.inj (ρ i) (ρ j) _ _ none none b c c' (hobi i o1 h1) (by rw [renO_has]; exact h2) (hobi j o2 h3) (by rw [renO_has]; exact h4) h5' h6').1
   exact ⟨nodupB_out hn i j (ρ i) (hρlt i hi) (by rw [this]; exact hρlt j hj), rfl⟩
 have hlend : ∀ k ∈ lid, ∀ o' b c, st.objs[k]? = some o' → o'.live = true → loc k = some (b, c) → ¬ (ctx e' cobjs loc' w).O b := by
  intro k hk o' b c h1 h2 h3 ho
  rcases ho with (hx | ⟨i, o2, s, c2, g1, g2, g3, _, g4⟩) | ho
  ·exact hh.notX h1 h2 h3 hx
  ·have := (hh.inj i k o2 o' s none b c2 c g1 g2 h1 h2 g3 h3).1
   subst this
   exact g4 hk
  ·obtain ⟨i, o2, c2, hi, _, g1, g2, g3⟩ := hown b ho
   have := (hh.inj k (ρ i) o' _ none none b c c2 h1 h2 g1 (by rw [renO_has]; exact g2) h3 g3).1
   subst this
   have hm := List.all_eq_true.1 hdis _ (List.mem_of_getElem? (hρlt i hi))
   have : lid.any (Nat.beq (ρ i)) = true := List.any_eq_true.2 ⟨_, hk, by simp⟩
   rw [this] at hm
   exact absurd hm (by simp)
 refine (hf e' loc' w vals rfl (fun b => Iff.rfl) (fun _ => rfl) hr' (hargs _ rfl hO' hlB hlend)).mono ?_
 rintro en w' ⟨v, r, objs2, loc2, rfl, ⟨rfl, rfl⟩, hr2, hrep, hl2, hbase⟩
 -- behind the call
 have hk := hr2.keep
 let newobjs := putO st.objs ids (objs2.map (renO ρ))
 let locN : Loc := ⟨fun j => if j < n then loc j else loc2 (ids.length + (j - n)), fun j r => if j < n then loc.f j r else loc2.f (ids.length + (j - n)) r⟩
 obtain ⟨p1, p2, p3⟩ := putO_get ids st.objs (objs2.map (renO ρ)) hlt' hnd (by simp; omega)
 have plen := putO_len ids st.objs (objs2.map (renO ρ)) (by simp; omega)
 have hlocN : ∀ j, j < n → locN j = loc j := fun j hj => by show (if j < n then _ else _) = _; rw [if_pos hj]
 have hlocρ : ∀ i, i < objs2.length → locN (ρ i) = loc2 i := by
  intro i hi
  by_cases hil : i < ids.length
  ·rw [hlocN _ (hρn i hil), hbase i (by omega), hloc' i hil]
  ·rw [hρge i (by omega)]
   show (if _ < n then _ else _) = _
   rw [if_neg (by omega)]
   congr 1; omega
 -- every object behind the call is an old one that was not lent, or one of the callee's
 have hlocNf : ∀ j, j < n → locN.f j = loc.f j := fun j hj => by funext r; show (if j < n then _ else _) = _; rw [if_pos hj]
 have hflat : ∀ (i : Nat) (o2 : Ob), objs2[i]? = some o2 → o2.flatO = true := fun i o2 h => List.all_eq_true.1 hfl o2 (List.mem_of_getElem? h)
 have hcase : ∀ j o', newobjs[j]? = some o' → (j < n ∧ j ∉ ids ∧ st.objs[j]? = some o' ∧ locN j = loc j) ∨ ∃ i o2, i < objs2.length ∧ objs2[i]? = some o2 ∧ o' = renO ρ o2 ∧ j = ρ i ∧ locN j = loc2 i := by
  intro j o' hj
  by_cases hjn : j < n
  ·by_cases hm : j ∈ ids
   ·obtain ⟨i, hi⟩ := List.mem_iff_getElem?.1 hm
    have hil : i < ids.length := (List.getElem?_eq_some_iff.1 hi).1
    have h1 : newobjs[j]? = (objs2.map (renO ρ))[i]? := p2 i j hi
    rw [hj, List.getElem?_map] at h1
    have hjr : j = ρ i := by have := hρlt i hil; rw [hi] at this; exact Option.some.inj this
    cases ho2 : objs2[i]? with
    | none => rw [ho2] at h1; cases h1
    | some o2 =>
     rw [ho2] at h1
     have hlt2 := (List.getElem?_eq_some_iff.1 ho2).1
     exact .inr ⟨i, o2, hlt2, ho2, Option.some.inj h1, hjr, by rw [hjr]; exact hlocρ i hlt2⟩
   ·have h1 : newobjs[j]? = st.objs[j]? := p1 j (by omega) hm
    rw [hj] at h1
    exact .inl ⟨hjn, hm, h1.symm, hlocN j hjn⟩
  ·have h1 : newobjs[j]? = (objs2.map (renO ρ))[ids.length + (j - st.objs.length)]? := p3 j (by omega)
   rw [hj, List.getElem?_map] at h1
   rw [← hN] at h1
   cases ho2 : objs2[ids.length + (j - n)]? with
   | none => rw [ho2] at h1; cases h1
   | some o2 =>
    rw [ho2] at h1
    have hlt2 := (List.getElem?_eq_some_iff.1 ho2).1
    have hjr : j = ρ (ids.length + (j - n)) := by rw [hρge _ (by omega)]; omega
    exact .inr ⟨_, o2, hlt2, ho2, Option.some.inj h1, hjr, by
     show (if j < n then _ else _) = _
     rw [if_neg hjn]⟩
 have hown2 : ∀ i o2 b c, objs2[i]? = some o2 → o2.live = true → loc2 i = some (b, c) → b < w'.heap.size ∧ (w.heap.size ≤ b ∨ owned cobjs loc' b) := fun i o2 b c h1 h2 h3 => hr2.fresh i o2 none b c h1 h2 h3
 -- rows: those of the objects that were not lent
 have hatN : ∀ (j : Nat) (o' : Ob) (s : Option Nat) (b c : Nat), newobjs[j]? = some o' → o'.has s = true → locN.at j s = some (b, c) → (j < n ∧ j ∉ ids ∧ st.objs[j]? = some o' ∧ loc.at j s = some (b, c)) ∨ ∃ i o2, s = none ∧ i < objs2.length ∧ objs2[i]? = some o2 ∧ o' = renO ρ o2 ∧ j = ρ i ∧ o2.live = true ∧ loc2 i = some (b, c) := by
  intro j o' s b c h1 h2 h3
  rcases hcase j o' h1 with ⟨g1, g2, g3, g4⟩ | ⟨i, o2, g1, g2, rfl, rfl, g5⟩
  ·left
   refine ⟨g1, g2, g3, ?_⟩
   cases s with
   | none => exact g4.symm.trans h3
   | some r => have := congrFun (hlocNf j g1) r; rw [show loc.at j (some r) = loc.f j r from rfl, ← this]; exact h3
  ·right
   rw [renO_has] at h2
   have hs := Ob.has_flat (hflat i o2 g2) h2
   subst hs
   exact ⟨i, o2, rfl, g1, g2, rfl, rfl, h2, by rw [← g5]; exact h3⟩
 have hownN : ∀ b, owned newobjs locN b → owned st.objs loc b ∨ w.heap.size ≤ b := by
  rintro b ⟨j, o', s, c, h1, h2, h3⟩
  rcases hatN j o' s b c h1 h2 h3 with ⟨g1, g2, g3, g4⟩ | ⟨i, o2, rfl, g1, g2, rfl, rfl, g5, g6⟩
  ·exact .inl ⟨j, o', s, c, g3, h2, g4⟩
  ·rcases (hown2 i o2 b c g2 g5 g6).2 with h | h
   ·exact .inr h
   ·exact .inl (hownO b h)
 have hwO : ∀ b, owned st.objs loc b → b < w.heap.size := by
  rintro b ⟨i, o', s, c, h1, h2, h3⟩
  exact (hh.fresh i o' s b c h1 h2 h3).1
 have hle : (ctx e st.objs loc w).Le (ctx e newobjs locN w') := by
  refine ⟨fun b o' y hO hc => ?_, fun b o' y hO hc => ?_, fun i hi => ⟨?_, hlocN i (by rw [hN]; exact hi)⟩⟩
  ·exact (cell_heap (hk.block b (cell_lt hc) (fun hm => hO (.inr (hownO b hm)))) o').trans hc
  ·have hb := cell_lt hc
   rintro (hx | ho)
   ·exact hO (.inl hx)
   ·rcases hownN b ho with h | h
    ·exact hO (.inr h)
    ·have hb' : b < w.heap.size := hb
     omega
  ·show i < newobjs.length
   have hi' : i < st.objs.length := hi
   show i < (putO st.objs ids (objs2.map (renO ρ))).length
   rw [plen]; omega
 have hO2 : lid = [] → ∀ b, (ctx e newobjs locN w').O b → (ctx e' objs2 loc2 w').O b := by
  intro hl0
  rintro b (hx | ⟨j, o', s, c, h1, h2, h3⟩)
  ·exact .inl (.inl hx)
  ·rcases hatN j o' s b c h1 h2 h3 with ⟨g1, g2, g3, g4⟩ | ⟨i, o2, rfl, g1, g2, rfl, rfl, g5, g6⟩
   ·exact .inl (.inr ⟨j, o', s, c, g3, h2, g4, g2, by rw [hl0]; simp⟩)
   ·exact .inr ⟨i, o2, none, c, g2, g5, g6⟩
 have hB2 : ∀ i, (ctx e' objs2 loc2 w').B i → (ctx e newobjs locN w').B (ρ i) ∧ (ctx e newobjs locN w').loc (ρ i) = (ctx e' objs2 loc2 w').loc i := by
  intro i hi
  have hi' : i < objs2.length := hi
  refine ⟨?_, hlocρ i hi'⟩
  show ρ i < (putO st.objs ids (objs2.map (renO ρ))).length
  rw [plen]
  by_cases hil : i < ids.length
  ·have := hρn i hil; omega
  ·rw [hρge i (by omega)]; simp only [List.length_map]; omega
 have hnew : HRep e newobjs locN w' := by
  refine ⟨?_, hh.xlt, fun j o' h1 => ?_, fun j o' s b c h1 h2 h3 => ?_, fun j1 j2 o1 o2 s s' b c1 c2 h1 h2 h3 h4 h5 h6 => ?_⟩
  ·refine hh.keep.trans' (hk.mono fun b hb hm => ?_)
   obtain ⟨i, o', s, c, g1, g2, g3⟩ := hownO b hm
   rcases (hh.fresh i o' s b c g1 g2 g3).2 with h | h
   ·exact .inr h
   ·exact .inl h
  ·rcases hcase j o' h1 with ⟨g1, g2, g3, g4⟩ | ⟨i, o2, g1, g2, rfl, rfl, g5⟩
   ·rw [g4, hlocNf j g1]
    refine RepO.mono hle (fun s b c hl hlive => ?_) (hh.rep j o' g3)
    have hl' : loc.at j s = some (b, c) := by cases s <;> exact hl
    refine hk.block b (hh.fresh j o' s b c g3 hlive hl').1 (fun hm => ?_)
    obtain ⟨i2, o2, c2, hi2, _, k1, k2, k3⟩ := hown b hm
    have := (hh.inj j (ρ i2) o' _ s none b c c2 g3 hlive k1 (by rw [renO_has]; exact k2) hl' k3).1
    subst this
    exact g2 (List.mem_of_getElem? (hρlt i2 hi2))
   ·rw [g5]
    have h2 := hr2.rep i o2 g2
    have hflo := hflat i o2 g2
    cases o2 with
    | dead => trivial
    | rows _ _ _ _ _ _ _ => simp [Ob.flatO] at hflo
    | arh _ _ _ _ _ => simp [Ob.flatO] at hflo
    | maps _ _ _ _ _ _ => simp [Ob.flatO] at hflo
    | raw ob => exact h2
    | map n key get =>
     rcases hlid with hl0 | ⟨_, hn⟩
     ·obtain ⟨b, c, es, g1, g2, g3, g4⟩ := h2
      refine ⟨b, c, es, g1, g2, g3, fun i hi => ?_⟩
      obtain ⟨en, k1, k2, k3, k4⟩ := g4 i hi
      exact ⟨en, k1, k2, RepC.weak (x := ctx e' objs2 loc2 w') (x' := ctx e newobjs locN w') rfl (hO2 hl0) _ _ k3, RepF.weak (x := ctx e' objs2 loc2 w') (x' := ctx e newobjs locN w') rfl (hO2 hl0) _ _ k4⟩
     ·exact (hn _ (List.mem_of_getElem? g2)).elim
    | box cs =>
     obtain ⟨b, c, arr, T, k1, k2, k3⟩ := h2
     exact ⟨b, c, arr, T, k1, k2, RepL.upR (x := ctx e' objs2 loc2 w') (x' := ctx e newobjs locN w') ρ rfl hB2 true cs _ (hlid.elim (fun h => .inr (hO2 h)) (fun h => .inl (h.2 _ (List.mem_of_getElem? g2)))) k3⟩
    | arr T k n get =>
     cases hl : loc2 i with
     | none => rw [hl] at h2; exact h2
     | some bc =>
      obtain ⟨b, c⟩ := bc
      rw [hl] at h2
      obtain ⟨arr, k1, k2, k3, k4, k5⟩ := h2
      refine ⟨arr, k1, k2, k3, k4, fun i hi j hj => ?_⟩
      obtain ⟨y, hy, hrep⟩ := k5 i hi j hj
      exact ⟨y, hy, RepC.weak2 (x := ctx e' objs2 loc2 w') (x' := ctx e newobjs locN w') rfl _ y (hlid.elim (fun h => .inr (hO2 h)) (fun h => .inl (h.2 _ (List.mem_of_getElem? g2) _ _))) hrep⟩
  ·have hle0 := hh.keep.size
   rcases hatN j o' s b c h1 h2 h3 with ⟨g1, g2, g3, g4⟩ | ⟨i, o2, rfl, g1, g2, rfl, rfl, g5, g6⟩
   ·have := hh.fresh j o' s b c g3 h2 g4
    exact ⟨Nat.lt_of_lt_of_le this.1 hk.size, this.2⟩
   ·have h4 := hown2 i o2 b c g2 g5 g6
    refine ⟨h4.1, ?_⟩
    rcases h4.2 with h | h
    ·exact .inl (Nat.le_trans hle0 h)
    ·obtain ⟨i2, o3, s3, c3, k1, k2, k3⟩ := hownO b h
     exact (hh.fresh i2 o3 s3 b c3 k1 k2 k3).2
  ·rcases hatN j1 o1 s b c1 h1 h2 h5 with ⟨g1, g2, g3, g4⟩ | ⟨i, o3, rfl, g1, g2, rfl, rfl, g5, g6⟩ <;> rcases hatN j2 o2 s' b c2 h3 h4 h6 with ⟨k1, k2, k3, k4⟩ | ⟨i', o4, rfl, k1, k2, rfl, rfl, k5, k6⟩
   ·exact hh.inj j1 j2 o1 o2 s s' b c1 c2 g3 h2 k3 h4 g4 k4
   ·rcases (hown2 i' o4 b c2 k2 k5 k6).2 with h | h
    ·have := (hh.fresh j1 o1 s b c1 g3 h2 g4).1; omega
    ·obtain ⟨i2, o5, c5, hi2, _, m1, m2, m3⟩ := hown b h
     have := (hh.inj j1 (ρ i2) o1 _ s none b c1 c5 g3 h2 m1 (by rw [renO_has]; exact m2) g4 m3).1
     subst this
     exact absurd (List.mem_of_getElem? (hρlt i2 hi2)) g2
   ·rcases (hown2 i o3 b c1 g2 g5 g6).2 with h | h
    ·have := (hh.fresh j2 o2 s' b c2 k3 h4 k4).1; omega
    ·obtain ⟨i2, o5, c5, hi2, _, m1, m2, m3⟩ := hown b h
     have := (hh.inj j2 (ρ i2) o2 _ s' none b c2 c5 k3 h4 m1 (by rw [renO_has]; exact m2) k4 m3).1
     subst this
     exact absurd (List.mem_of_getElem? (hρlt i2 hi2)) k2
   ·have := (hr2.inj i i' o3 o4 none none b c1 c2 g2 g5 k2 k5 g6 k6).1
    exact ⟨by rw [this], rfl⟩
 refine ⟨v, locN, rfl, ⟨hnew, hr.size, fun i hi => (hlocN i (by have := hr.n0le; omega)).trans (hr.base i hi), ?_, hr.defers, fun t => RepA.mono hle _ _ (hr.slot t)⟩, RepA.upR (x := ctx e' objs2 loc2 w') (x' := ctx e newobjs locN w') ρ rfl hB2 r v (hlid.elim (fun h => .inr (hO2 h)) (fun h => .inl h.1)) hrep⟩
 show N.n0 ≤ (putO st.objs ids (objs2.map (renO ρ))).length
 have := hr.n0le
 rw [plen]; omega
theorem e_call {avs : List AV} {res : AV} {cobjs cobjs' : List Ob} (hf : SFun P f cobjs avs (fun r os => r = res ∧ os = cobjs')) (ids : List Nat) (ho : o.op = .call { callee := .value (.func f), args := args, argTypes := tys }) (hfn : fnB P f = true)
  (hd : o.dst.all (fun d => Nat.blt d N.N) = true) (hn : nodupB ids = true) (hlt : ltB st.objs.length ids = true) (hlen : ids.length = cobjs.length) (hob : ids.map (st.objs[·]?) = cobjs.map (fun o => some (renO (rho ids st.objs.length) o)))
  (hcid : cobjs.all (Ob.idLt cobjs.length) = true) (ha : args.toList.map (evs st.slots) = avs.map (renA (rho ids st.objs.length))) (haid : avs.all (AV.idLt cobjs.length) = true)
  (hfl : cobjs'.all Ob.flatO = true := by rfl) (hfl0 : cobjs.all Ob.flatO = true := by rfl) :
  EOp P N o st (St.put ⟨st.slots, putO st.objs ids (cobjs'.map (renO (rho ids st.objs.length)))⟩ o.dst (renA (rho ids st.objs.length) res)) := by
 intro e loc a w hr K Q hK
 unfold Oper.wp
 rw [exec_call hfn ho, Oper.upon_enter]
 have hargs : ∀ (x' : Ctx), x'.w = w → (∀ b, x'.O b → (ctx e st.objs loc w).O b) → (∀ i, i < cobjs.length → x'.B i ∧ x'.loc i = loc (rho ids st.objs.length i)) → (∀ k ∈ ([] : List Nat), ∀ o' b c, st.objs[k]? = some o' → o'.live = true → loc k = some (b, c) → ¬ x'.O b) → RepAL x' avs (args.toList.map a.eval) := by
  intro x' hw hO hl _
  have key : ∀ (l : List Operand) (avs : List AV), l.map (evs st.slots) = avs.map (renA (rho ids st.objs.length)) → avs.all (AV.idLt cobjs.length) = true → RepAL x' avs (l.map a.eval) := by
   intro l
   induction l with
   | nil => intro avs h _; cases avs with
    | nil => trivial
    | cons _ _ => simp at h
   | cons y l ih =>
    intro avs h hi
    cases avs with
    | nil => simp at h
    | cons av avs =>
     simp only [List.map_cons, List.cons.injEq] at h
     simp only [List.all_cons, Bool.and_eq_true] at hi
     refine ⟨?_, ih avs h.2 hi.2⟩
     have h1 := hr.eval y
     rw [h.1] at h1
     exact RepA.downR _ cobjs.length hw hO hl av _ hi.1 h1
  exact key args.toList avs ha haid
 refine (call_step hf ids hn hlt hlen hob hcid hfl hfl0 [] (List.all_eq_true.2 fun _ _ => rfl) (.inl rfl) _ hr hargs).mono ?_
 rintro en w' ⟨v, loc2, rfl, hr2, hrep⟩
 exact hK _ _ loc2 (hr2.put o.dst (fun t ht => by rw [ht] at hd; simpa [Nat.blt_eq] using hd) hrep)
end
end Go.Proofs.Ytoncfkdgddfnlaa.E
