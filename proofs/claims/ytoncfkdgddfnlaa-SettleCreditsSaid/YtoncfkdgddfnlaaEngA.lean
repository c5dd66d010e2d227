/- The abstract states of a walk: cells, objects, slots; what they say of a world; how it is carried on. -/
import Derived.WalkKit
import Derived.Deep.MidRow
import Derived.Laws.AppendOwn
import Derived.Laws.MakeOwn
import Derived.Below
import Derived.Orders
import Derived.Laws.Slices
namespace Go.Proofs.Ytoncfkdgddfnlaa.E
open Go Go.RowKit
set_option linter.unusedVariables false
inductive Cell where
 | any
 | int (k : IntKind) (n : Int)
 | bool (b : Bool)
 | str (s : ByteArray)
 | vec (n k : Nat) (get : Nat → Nat → Cell)
 | eptr (k : Nat) (get : Nat → Cell) (j : Nat)
 | own (id len : Nat)
 | ptr (id j : Nat)
 | aptr (id k i j : Nat)
 | raw (v : Value)
 | sub (id lo n k : Nat)
 | fn (f n : Nat) (get : Nat → Cell)
 | mp (id : Nat)
 | fnp (f id : Nat)
inductive V1 where
 | c (c : Cell)
 | a (cs : List Cell)
inductive AV where
 | c (c : Cell)
 | a (cs : List Cell)
 | t (vs : List V1)
inductive Ob where
 | dead
 | box (cs : List Cell)
 | arr (T k n : Nat) (get : Nat → Nat → Cell)
 | raw (ob : Obj)
 | map (n : Nat) (key : Nat → Cell) (get : Nat → V1)
 | rows (H T k n : Nat) (len : Nat → Nat) (get : Nat → Nat → Nat → Cell) (hole : Option (Nat × Cell))
 | arh (T n : Nat) (get : Nat → Cell) (h : Nat) (c : Cell)
 | maps (n : Nat) (key : Nat → Cell) (len : Nat → Nat) (ik : Nat → Nat → Cell) (iv : Nat → Nat → V1) (hole : Option (Nat × Cell))
def Ob.live : Ob → Bool
 | .dead => false
 | _ => true
def Ob.mem : Ob → Nat → Bool
 | .rows _ _ _ n _ _ hole, r => Nat.blt r n && (match hole with | none => true | some (h, _) => !(Nat.beq r h))
 | .maps n _ _ _ _ hole, r => Nat.blt r n && (match hole with | none => true | some (h, _) => !(Nat.beq r h))
 | _, _ => false
def Ob.has (o : Ob) : Option Nat → Bool
 | none => o.live
 | some r => o.mem r
structure Loc where
 b : Nat → Option (Nat × Nat)
 f : Nat → Nat → Option (Nat × Nat)
instance : CoeFun Loc (fun _ => Nat → Option (Nat × Nat)) := ⟨Loc.b⟩
def Loc.at (loc : Loc) (i : Nat) : Option Nat → Option (Nat × Nat)
 | none => loc.b i
 | some r => loc.f i r
structure Ctx where
 w : World
 O : Nat → Prop
 loc : Nat → Option (Nat × Nat)
 B : Nat → Prop
def boundB (f : Nat) : Bool := Nat.ble 1000000 f
def fnVal (f : Nat) (vals : Array Value) : Value :=
 match boundB f with
 | false => .func (.func f) #[] vals
 | true => .func (.func (f - 1000000)) vals #[]
theorem fnVal_fn (f : Nat) (vals : Array Value) : ∃ g a b, fnVal f vals = .func g a b := by
 unfold fnVal
 split <;> exact ⟨_, _, _, rfl⟩
def RepC (x : Ctx) : Bool → Cell → Value → Prop
 | _, .any, _ => True
 | _, .int k n, v => v = .int k n
 | _, .bool b, v => v = .bool b
 | _, .str s, v => v = .string s
 | _, .vec n k get, v => ∃ a c, v = .slice a n c ∧ n ≤ c ∧ (0 < n → 0 < k → ∃ b off, a = some ⟨b, off, none⟩ ∧ ¬ x.O b ∧
   ∀ i, i < n → ∀ j, j < k → ∃ y, x.w.cell? ⟨b, off + i * k + j, none⟩ = some y ∧ RepC x false (get i j) y)
 | _, .eptr k get j, v => j < k ∧ ∃ b off, v = .pointer (some ⟨b, off + j, none⟩) ∧ ¬ x.O b ∧
   ∀ j', j' < k → ∃ y, x.w.cell? ⟨b, off + j', none⟩ = some y ∧ RepC x false (get j') y
 | t, .own id len, v => t = true ∧ x.B id ∧ match x.loc id with
   | none => v = .slice none 0 0 ∧ len = 0
   | some (b, c) => v = .slice (some ⟨b, 0, none⟩) len c
 | t, .ptr id j, v => t = true ∧ x.B id ∧ ∃ b c, x.loc id = some (b, c) ∧ v = .pointer (some ⟨b, j, none⟩)
 | t, .aptr id k i j, v => t = true ∧ x.B id ∧ ∃ b c, x.loc id = some (b, c) ∧ v = .pointer (some ⟨b, i * k + j, none⟩)
 | _, .raw v', v => v = v'
 | t, .sub id lo n k, v => t = true ∧ x.B id ∧ match x.loc id with
   | none => v = .slice none 0 0 ∧ n = 0 ∧ lo = 0
   | some (b, c) => lo + n ≤ c ∧ v = sliced (some ⟨b, 0, none⟩) lo (lo + n) c k
 | _, .fn f n get, v => ∃ vals : Array Value, v = fnVal f vals ∧ vals.size = n ∧ ∀ j, j < n → ∃ y, vals[j]? = some y ∧ RepC x false (get j) y
 | t, .mp id, v => t = true ∧ x.B id ∧ ∃ b c, x.loc id = some (b, c) ∧ v = .map (some b)
 | t, .fnp f id, v => t = true ∧ x.B id ∧ ∃ b c, x.loc id = some (b, c) ∧ v = .func (.func f) #[] #[.pointer (some ⟨b, 0, none⟩)]
def RepL (x : Ctx) (t : Bool) : List Cell → List Value → Prop
 | [], [] => True
 | c :: cs, v :: vs => RepC x t c v ∧ RepL x t cs vs
 | _, _ => False
def RepV1 (x : Ctx) : V1 → Value → Prop
 | .c c, v => RepC x true c v
 | .a cs, v => ∃ vs, v = .agg vs ∧ RepL x true cs vs.toList
def RepV1L (x : Ctx) : List V1 → List Value → Prop
 | [], [] => True
 | c :: cs, v :: vs => RepV1 x c v ∧ RepV1L x cs vs
 | _, _ => False
def RepA (x : Ctx) : AV → Value → Prop
 | .c c, v => RepC x true c v
 | .a cs, v => ∃ vs, v = .agg vs ∧ RepL x true cs vs.toList
 | .t ws, v => ∃ vs, v = .tuple vs ∧ RepV1L x ws vs.toList
structure Ctx.Le (x x' : Ctx) : Prop where
 cell : ∀ b o y, ¬ x.O b → x.w.cell? ⟨b, o, none⟩ = some y → x'.w.cell? ⟨b, o, none⟩ = some y
 own : ∀ b o y, ¬ x.O b → x.w.cell? ⟨b, o, none⟩ = some y → ¬ x'.O b
 born : ∀ i, x.B i → x'.B i ∧ x'.loc i = x.loc i
theorem RepC.mono {x x' : Ctx} (h : x.Le x') : ∀ (c : Cell) (t : Bool) (v : Value), RepC x t c v → RepC x' t c v := by
 intro c
 induction c with
 | any => intro t v _; simp [RepC]
 | int k n => intro t v hv; simpa [RepC] using hv
 | bool b => intro t v hv; simpa [RepC] using hv
 | str s => intro t v hv; simpa [RepC] using hv
 | raw s => intro t v hv; simpa [RepC] using hv
 | vec n k get ih =>
  intro t v hv
  simp only [RepC] at hv ⊢
  obtain ⟨a, c, rfl, hc, hp⟩ := hv
  refine ⟨a, c, rfl, hc, fun hn hk => ?_⟩
  obtain ⟨b, off, rfl, hO, hcell⟩ := hp hn hk
  obtain ⟨y, hy, _⟩ := hcell 0 hn 0 hk
  refine ⟨b, off, rfl, h.own b _ y hO hy, fun i hi j hj => ?_⟩
  obtain ⟨y, hy, hr⟩ := hcell i hi j hj
  exact ⟨y, h.cell _ _ _ hO hy, ih i j _ _ hr⟩
 | eptr k get j ih =>
  intro t v hv
  simp only [RepC] at hv ⊢
  obtain ⟨hj, b, off, rfl, hO, hcell⟩ := hv
  obtain ⟨y, hy, _⟩ := hcell j hj
  refine ⟨hj, b, off, rfl, h.own b _ y hO hy, fun j' hj' => ?_⟩
  obtain ⟨y, hy, hr⟩ := hcell j' hj'
  exact ⟨y, h.cell _ _ _ hO hy, ih j' _ _ hr⟩
 | own id len =>
  intro t v hv
  simp only [RepC] at hv ⊢
  obtain ⟨ht, hB, hm⟩ := hv
  obtain ⟨h1, h2⟩ := h.born id hB
  exact ⟨ht, h1, by rw [h2]; exact hm⟩
 | ptr id j =>
  intro t v hv
  simp only [RepC] at hv ⊢
  obtain ⟨ht, hB, b, c, hl, hm⟩ := hv
  obtain ⟨h1, h2⟩ := h.born id hB
  exact ⟨ht, h1, b, c, by rw [h2]; exact hl, hm⟩
 | aptr id k i j =>
  intro t v hv
  simp only [RepC] at hv ⊢
  obtain ⟨ht, hB, b, c, hl, hm⟩ := hv
  obtain ⟨h1, h2⟩ := h.born id hB
  exact ⟨ht, h1, b, c, by rw [h2]; exact hl, hm⟩
 | sub id lo n k =>
  intro t v hv
  simp only [RepC] at hv ⊢
  obtain ⟨ht, hB, hm⟩ := hv
  obtain ⟨h1, h2⟩ := h.born id hB
  exact ⟨ht, h1, by rw [h2]; exact hm⟩
 | fn f n get ih =>
  intro t v hv
  simp only [RepC] at hv ⊢
  obtain ⟨vals, rfl, hs, hg⟩ := hv
  refine ⟨vals, rfl, hs, fun j hj => ?_⟩
  obtain ⟨y, hy, hr⟩ := hg j hj
  exact ⟨y, hy, ih j _ _ hr⟩
 | mp id =>
  intro t v hv
  simp only [RepC] at hv ⊢
  obtain ⟨ht, hB, b, c, hl, hm⟩ := hv
  obtain ⟨h1, h2⟩ := h.born id hB
  exact ⟨ht, h1, b, c, by rw [h2]; exact hl, hm⟩
 | fnp f id =>
  intro t v hv
  simp only [RepC] at hv ⊢
  obtain ⟨ht, hB, b, c, hl, hm⟩ := hv
  obtain ⟨h1, h2⟩ := h.born id hB
  exact ⟨ht, h1, b, c, by rw [h2]; exact hl, hm⟩
theorem RepL.mono {x x' : Ctx} (h : x.Le x') (t : Bool) : ∀ (cs : List Cell) (vs : List Value), RepL x t cs vs → RepL x' t cs vs
 | [], [], _ => trivial
 | _ :: cs, _ :: vs, hv => ⟨RepC.mono h _ _ _ hv.1, RepL.mono h t cs vs hv.2⟩
 | [], _ :: _, hv => hv.elim
 | _ :: _, [], hv => hv.elim
theorem RepV1.mono {x x' : Ctx} (h : x.Le x') (c : V1) (v : Value) (hv : RepV1 x c v) : RepV1 x' c v := by
 cases c with
 | c c => exact RepC.mono h _ _ _ hv
 | a cs => obtain ⟨vs, rfl, hl⟩ := hv; exact ⟨vs, rfl, RepL.mono h _ _ _ hl⟩
theorem RepV1L.mono {x x' : Ctx} (h : x.Le x') : ∀ (cs : List V1) (vs : List Value), RepV1L x cs vs → RepV1L x' cs vs
 | [], [], _ => trivial
 | _ :: cs, _ :: vs, hv => ⟨RepV1.mono h _ _ hv.1, RepV1L.mono h cs vs hv.2⟩
 | [], _ :: _, hv => hv.elim
 | _ :: _, [], hv => hv.elim
theorem RepA.mono {x x' : Ctx} (h : x.Le x') (c : AV) (v : Value) (hv : RepA x c v) : RepA x' c v := by
 cases c with
 | c c => exact RepC.mono h _ _ _ hv
 | a cs => obtain ⟨vs, rfl, hl⟩ := hv; exact ⟨vs, rfl, RepL.mono h _ _ _ hl⟩
 | t cs => obtain ⟨vs, rfl, hl⟩ := hv; exact ⟨vs, rfl, RepV1L.mono h _ _ hl⟩
theorem RepL.length {x : Ctx} {t : Bool} : ∀ {cs : List Cell} {vs : List Value}, RepL x t cs vs → cs.length = vs.length
 | [], [], _ => rfl
 | _ :: cs, _ :: vs, hv => by simp [RepL.length hv.2]
 | [], _ :: _, hv => hv.elim
 | _ :: _, [], hv => hv.elim
theorem RepL.get {x : Ctx} {t : Bool} : ∀ {cs : List Cell} {vs : List Value} (_ : RepL x t cs vs) (j : Nat) (c : Cell), cs[j]? = some c → ∃ v, vs[j]? = some v ∧ RepC x t c v
 | [], [], _, j, c, h => by simp at h
 | c :: cs, v :: vs, hv, 0, c', h => by simp at h; subst h; exact ⟨v, rfl, hv.1⟩
 | c :: cs, v :: vs, hv, j + 1, c', h => by
  simp at h
  obtain ⟨v', h1, h2⟩ := RepL.get hv.2 j c' h
  exact ⟨v', by simpa using h1, h2⟩
 | [], _ :: _, hv, _, _, _ => hv.elim
 | _ :: _, [], hv, _, _, _ => hv.elim
theorem RepL.set {x : Ctx} {t : Bool} : ∀ {cs : List Cell} {vs : List Value} (_ : RepL x t cs vs) (j : Nat) (c : Cell) (v : Value), RepC x t c v → RepL x t (cs.set j c) (vs.set j v)
 | [], [], _, j, c, v, _ => by simp [RepL]
 | _ :: cs, _ :: vs, hv, 0, c', v', h => ⟨h, hv.2⟩
 | _ :: cs, _ :: vs, hv, j + 1, c', v', h => ⟨hv.1, RepL.set hv.2 j c' v' h⟩
 | [], _ :: _, hv, _, _, _, _ => hv.elim
 | _ :: _, [], hv, _, _, _, _ => hv.elim
theorem RepL.append {x : Ctx} {t : Bool} : ∀ {cs cs' : List Cell} {vs vs' : List Value} (_ : RepL x t cs vs) (_ : RepL x t cs' vs'), RepL x t (cs ++ cs') (vs ++ vs')
 | [], _, [], _, _, h => h
 | _ :: cs, _, _ :: vs, _, hv, h => ⟨hv.1, RepL.append hv.2 h⟩
 | [], _, _ :: _, _, hv, _ => hv.elim
 | _ :: _, _, [], _, hv, _ => hv.elim
theorem RepL.of_get {x : Ctx} {t : Bool} : ∀ {cs : List Cell} {vs : List Value} (_ : cs.length = vs.length) (_ : ∀ (j : Nat) (c : Cell) (v : Value), cs[j]? = some c → vs[j]? = some v → RepC x t c v), RepL x t cs vs
 | [], [], _, _ => trivial
 | c :: cs, v :: vs, hl, h => ⟨h 0 c v rfl rfl, RepL.of_get (by simpa using hl) (fun j c v h1 h2 => h (j + 1) c v (by simpa using h1) (by simpa using h2))⟩
 | [], _ :: _, hl, _ => by simp at hl
 | _ :: _, [], hl, _ => by simp at hl
structure Keep (M : Nat → Prop) (w w' : World) : Prop where
 os : w'.os = w.os
 tape : w'.tape = w.tape
 output : w'.output = w.output
 size : w.heap.size ≤ w'.heap.size
 block : ∀ k, k < w.heap.size → ¬ M k → w'.heap[k]? = w.heap[k]?
theorem Keep.refl (M : Nat → Prop) (w : World) : Keep M w w := ⟨rfl, rfl, rfl, Nat.le_refl _, fun _ _ _ => rfl⟩
theorem Keep.trans {M : Nat → Prop} {a b c : World} (h : Keep M a b) (k : Keep M b c) : Keep M a c :=
 ⟨k.os.trans h.os, k.tape.trans h.tape, k.output.trans h.output, Nat.le_trans h.size k.size, fun i hi hm => (k.block i (Nat.lt_of_lt_of_le hi h.size) hm).trans (h.block i hi hm)⟩
theorem Keep.mono {M M' : Nat → Prop} {a b : World} (h : Keep M a b) (hm : ∀ k, k < a.heap.size → M k → M' k) : Keep M' a b :=
 ⟨h.os, h.tape, h.output, h.size, fun i hi hn => h.block i hi (fun hM => hn (hm i hi hM))⟩
theorem Keep.below {M : Nat → Prop} {a b : World} (h : Below a.heap.size a b) : Keep M a b :=
 ⟨h.os, h.tape, h.output, h.size, fun i hi _ => h.block i hi⟩
theorem Keep.toBelow {a b : World} (h : Keep (fun _ => False) a b) : Below a.heap.size a b :=
 ⟨h.os, h.tape, h.output, h.size, fun i hi => h.block i hi (fun hf => hf)⟩
theorem Keep.trans' {M : Nat → Prop} {a b c : World} (h : Keep M a b) (k : Keep (fun i => M i ∨ a.heap.size ≤ i) b c) : Keep M a c :=
 ⟨k.os.trans h.os, k.tape.trans h.tape, k.output.trans h.output, Nat.le_trans h.size k.size, fun i hi hm => (k.block i (Nat.lt_of_lt_of_le hi h.size) (fun hh => hh.elim hm (fun hl => by omega))).trans (h.block i hi hm)⟩
structure Env where
 w0 : World
 M : Nat → Prop
 X : Nat → Prop
 l0 : Nat → Option (Nat × Nat)
 D : List Deferred
structure Fr where
 N : Nat
 n0 : Nat
def Env.d (e : Env) (ds : List Deferred) : Env := ⟨e.w0, e.M, e.X, e.l0, ds⟩
def owned (objs : List Ob) (loc : Loc) (b : Nat) : Prop := ∃ i o s c, objs[i]? = some o ∧ o.has s = true ∧ loc.at i s = some (b, c)
def ctx (e : Env) (objs : List Ob) (loc : Loc) (w : World) : Ctx :=
 ⟨w, fun b => e.X b ∨ owned objs loc b, loc.b, fun i => i < objs.length⟩
def RepF (x : Ctx) : V1 → Value → Prop
 | .c c, v => RepC x false c v
 | .a cs, v => ∃ vs, v = .agg vs ∧ RepL x false cs vs.toList
theorem RepF.mono {x x' : Ctx} (h : x.Le x') (c : V1) (v : Value) (hv : RepF x c v) : RepF x' c v := by
 cases c with
 | c c => exact RepC.mono h _ _ _ hv
 | a l => obtain ⟨vs, rfl, hl⟩ := hv; exact ⟨vs, rfl, RepL.mono h _ _ _ hl⟩
def RepArr (x : Ctx) (l : Option (Nat × Nat)) (T k n : Nat) (get : Nat → Nat → Cell) : Prop :=
 match l with
 | none => n = 0
 | some (b, c) => ∃ arr, x.w.heap[b]? = some (.cells arr T (0, 0)) ∧ arr.size = c * k ∧ n ≤ c ∧ c ≤ maxLen ∧
   ∀ i, i < n → ∀ j, j < k → ∃ y, arr[i * k + j]? = some y ∧ RepC x false (get i j) y
def RowV (l : Option (Nat × Nat)) (n : Nat) (v : Value) : Prop :=
 match l with
 | none => v = .slice none 0 0 ∧ n = 0
 | some (b, c) => v = .slice (some ⟨b, 0, none⟩) n c
def RowAt (x : Ctx) (fl : Nat → Option (Nat × Nat)) (T k : Nat) (len : Nat → Nat) (get : Nat → Nat → Nat → Cell) (i : Nat) (y : Value) : Option (Nat × Cell) → Prop
 | none => RowV (fl i) (len i) y ∧ RepArr x (fl i) T k (len i) (get i)
 | some (h, c) => (i = h → RepC x true c y) ∧ (i ≠ h → RowV (fl i) (len i) y ∧ RepArr x (fl i) T k (len i) (get i))
def RepMap (x : Ctx) (l : Option (Nat × Nat)) (n : Nat) (key : Nat → Cell) (get : Nat → V1) : Prop :=
 ∃ b c es, l = some (b, c) ∧ x.w.heap[b]? = some (.map es n) ∧ es.size = n ∧ ∀ i, i < n → ∃ en, es[i]? = some en ∧ en.born = i ∧ RepC x false (key i) en.key ∧ RepF x (get i) en.val
def MapAt (x : Ctx) (fl : Nat → Option (Nat × Nat)) (len : Nat → Nat) (ik : Nat → Nat → Cell) (iv : Nat → Nat → V1) (i : Nat) (y : Value) : Option (Nat × Cell) → Prop
 | none => (∃ b c, fl i = some (b, c) ∧ y = .map (some b)) ∧ RepMap x (fl i) (len i) (ik i) (iv i)
 | some (h, c) => (i = h → RepC x true c y) ∧ (i ≠ h → (∃ b c, fl i = some (b, c) ∧ y = .map (some b)) ∧ RepMap x (fl i) (len i) (ik i) (iv i))
def RepO (x : Ctx) (l : Option (Nat × Nat)) (fl : Nat → Option (Nat × Nat)) : Ob → Prop
 | .dead => True
 | .arh T n get h c => match l with
  | none => n = 0
  | some (b, cp) => ∃ arr, x.w.heap[b]? = some (.cells arr T (0, 0)) ∧ arr.size = cp ∧ n ≤ cp ∧ cp ≤ maxLen ∧
    ∀ i, i < n → ∃ y, arr[i]? = some y ∧ (i = h → RepC x true c y) ∧ (i ≠ h → RepC x false (get i) y)
 | .rows H T k n len get hole => match l with
  | none => n = 0
  | some (b, c) => ∃ arr, x.w.heap[b]? = some (.cells arr H (0, 0)) ∧ arr.size = c ∧ n ≤ c ∧ c ≤ maxLen ∧
    ∀ i, i < n → ∃ y, arr[i]? = some y ∧ RowAt x fl T k len get i y hole
 | .box cs => ∃ b c arr T, l = some (b, c) ∧ x.w.heap[b]? = some (.cells arr T (0, 0)) ∧ RepL x true cs arr.toList
 | .raw ob => ∃ b c, l = some (b, c) ∧ x.w.heap[b]? = some ob
 | .map n key get => ∃ b c es, l = some (b, c) ∧ x.w.heap[b]? = some (.map es n) ∧ es.size = n ∧ ∀ i, i < n → ∃ en, es[i]? = some en ∧ en.born = i ∧ RepC x false (key i) en.key ∧ RepF x (get i) en.val
 | .maps n key len ik iv hole => ∃ b c es, l = some (b, c) ∧ x.w.heap[b]? = some (.map es n) ∧ es.size = n ∧ ∀ i, i < n → ∃ en, es[i]? = some en ∧ en.born = i ∧ RepC x false (key i) en.key ∧ MapAt x fl len ik iv i en.val hole
 | .arr T k n get => match l with
  | none => n = 0
  | some (b, c) => ∃ arr, x.w.heap[b]? = some (.cells arr T (0, 0)) ∧ arr.size = c * k ∧ n ≤ c ∧ c ≤ maxLen ∧
    ∀ i, i < n → ∀ j, j < k → ∃ y, arr[i * k + j]? = some y ∧ RepC x false (get i j) y
structure HRep (e : Env) (objs : List Ob) (loc : Loc) (w : World) : Prop where
 keep : Keep e.M e.w0 w
 xlt : ∀ b, e.X b → b < e.w0.heap.size ∧ ¬ e.M b
 rep : ∀ i o, objs[i]? = some o → RepO (ctx e objs loc w) (loc i) (loc.f i) o
 fresh : ∀ i o s b c, objs[i]? = some o → o.has s = true → loc.at i s = some (b, c) → b < w.heap.size ∧ (e.w0.heap.size ≤ b ∨ e.M b)
 inj : ∀ i j o o' s s' b c c', objs[i]? = some o → o.has s = true → objs[j]? = some o' → o'.has s' = true → loc.at i s = some (b, c) → loc.at j s' = some (b, c') → i = j ∧ s = s'
theorem HRep.d {e : Env} {objs : List Ob} {loc : Loc} {w : World} (h : HRep e objs loc w) (ds : List Deferred) : HRep (e.d ds) objs loc w := ⟨h.keep, h.xlt, h.rep, h.fresh, h.inj⟩
theorem HRep.d' {e : Env} {objs : List Ob} {loc : Loc} {w : World} {ds : List Deferred} (h : HRep (e.d ds) objs loc w) : HRep e objs loc w := ⟨h.keep, h.xlt, h.rep, h.fresh, h.inj⟩
theorem HRep.notX {e : Env} {objs : List Ob} {loc : Loc} {w : World} (h : HRep e objs loc w) {i : Nat} {o : Ob} {b c : Nat}
  (ho : objs[i]? = some o) (hl : o.live = true) (hb : loc i = some (b, c)) : ¬ e.X b := by
 intro hx
 obtain ⟨h1, h2⟩ := h.xlt b hx
 rcases (h.fresh i o none b c ho hl hb).2 with h3 | h3
 ·omega
 ·exact h2 h3
theorem HRep.notXs {e : Env} {objs : List Ob} {loc : Loc} {w : World} (h : HRep e objs loc w) {i : Nat} {o : Ob} {s : Option Nat} {b c : Nat}
  (ho : objs[i]? = some o) (hl : o.has s = true) (hb : loc.at i s = some (b, c)) : ¬ e.X b := by
 intro hx
 obtain ⟨h1, h2⟩ := h.xlt b hx
 rcases (h.fresh i o s b c ho hl hb).2 with h3 | h3
 ·omega
 ·exact h2 h3
theorem Ob.live_of_has {o : Ob} {s : Option Nat} (h : o.has s = true) : o.live = true := by
 cases s with
 | none => exact h
 | some r => cases o <;> first | rfl | cases h
theorem RepArr.mono {x x' : Ctx} (h : x.Le x') {l : Option (Nat × Nat)} {T k n : Nat} {get : Nat → Nat → Cell} (hb : ∀ b c, l = some (b, c) → x'.w.heap[b]? = x.w.heap[b]?) (hr : RepArr x l T k n get) : RepArr x' l T k n get := by
 cases l with
 | none => exact hr
 | some l =>
  obtain ⟨b, c⟩ := l
  obtain ⟨arr, hh, h1, h2, h3, h4⟩ := hr
  refine ⟨arr, by rw [hb b c rfl]; exact hh, h1, h2, h3, fun i hi j hj => ?_⟩
  obtain ⟨y, hy, hr⟩ := h4 i hi j hj
  exact ⟨y, hy, RepC.mono h _ _ _ hr⟩
theorem RepMap.mono {x x' : Ctx} (h : x.Le x') {l : Option (Nat × Nat)} {n : Nat} {key : Nat → Cell} {get : Nat → V1} (hb : ∀ b c, l = some (b, c) → x'.w.heap[b]? = x.w.heap[b]?) (hr : RepMap x l n key get) : RepMap x' l n key get := by
 obtain ⟨b, c, es, rfl, hh, hs, hg⟩ := hr
 refine ⟨b, c, es, rfl, by rw [hb b c rfl]; exact hh, hs, fun i hi => ?_⟩
 obtain ⟨en, h1, h2, h3, h4⟩ := hg i hi
 exact ⟨en, h1, h2, RepC.mono h _ _ _ h3, RepF.mono h _ _ h4⟩
def Loc1 (l : Option (Nat × Nat)) (fl : Nat → Option (Nat × Nat)) : Option Nat → Option (Nat × Nat)
 | none => l
 | some r => fl r
theorem RepO.mono {x x' : Ctx} (h : x.Le x') {l : Option (Nat × Nat)} {fl : Nat → Option (Nat × Nat)} {o : Ob} (hb : ∀ s b c, Loc1 l fl s = some (b, c) → o.has s = true → x'.w.heap[b]? = x.w.heap[b]?) (hr : RepO x l fl o) : RepO x' l fl o := by
 cases o with
 | dead => trivial
 | arh T n get q c =>
  cases l with
  | none => exact hr
  | some l =>
   obtain ⟨b, cp⟩ := l
   obtain ⟨arr, hh, h1, h2, h3, h4⟩ := hr
   refine ⟨arr, by rw [hb none b cp rfl rfl]; exact hh, h1, h2, h3, fun i hi => ?_⟩
   obtain ⟨y, hy, k1, k2⟩ := h4 i hi
   exact ⟨y, hy, fun he => RepC.mono h _ _ _ (k1 he), fun hne => RepC.mono h _ _ _ (k2 hne)⟩
 | rows H T k n len get hole =>
  cases l with
  | none => exact hr
  | some l =>
   obtain ⟨b, c⟩ := l
   obtain ⟨arr, hh, h1, h2, h3, h4⟩ := hr
   refine ⟨arr, by rw [hb none b c rfl rfl]; exact hh, h1, h2, h3, fun i hi => ?_⟩
   obtain ⟨y, hy, hr⟩ := h4 i hi
   refine ⟨y, hy, ?_⟩
   cases hole with
   | none => exact ⟨hr.1, hr.2.mono h (fun b c hl => hb (some i) b c hl (by simp [Ob.has, Ob.mem, Nat.blt_eq, hi]))⟩
   | some hc =>
    obtain ⟨q, qc⟩ := hc
    exact ⟨fun he => RepC.mono h _ _ _ (hr.1 he), fun hne => ⟨(hr.2 hne).1, (hr.2 hne).2.mono h (fun b c hl => hb (some i) b c hl (by
     have hne' : Nat.beq i q = false := Bool.eq_false_iff.2 (fun hh => hne (Nat.eq_of_beq_eq_true hh))
     simp [Ob.has, Ob.mem, Nat.blt_eq, hi, hne']))⟩⟩
 | box cs =>
  obtain ⟨b, c, arr, T, rfl, hh, hl⟩ := hr
  exact ⟨b, c, arr, T, rfl, by rw [hb none b c rfl rfl]; exact hh, RepL.mono h _ _ _ hl⟩
 | raw ob =>
  obtain ⟨b, c, rfl, hh⟩ := hr
  exact ⟨b, c, rfl, by rw [hb none b c rfl rfl]; exact hh⟩
 | map n key get =>
  obtain ⟨b, c, es, rfl, hh, hs, hg⟩ := hr
  refine ⟨b, c, es, rfl, by rw [hb none b c rfl rfl]; exact hh, hs, fun i hi => ?_⟩
  obtain ⟨en, h1, h2, h3, h4⟩ := hg i hi
  exact ⟨en, h1, h2, RepC.mono h _ _ _ h3, RepF.mono h _ _ h4⟩
 | maps n key len ik iv hole =>
  obtain ⟨b, c, es, rfl, hh, hs, hg⟩ := hr
  refine ⟨b, c, es, rfl, by rw [hb none b c rfl rfl]; exact hh, hs, fun i hi => ?_⟩
  obtain ⟨en, h1, h2, h3, h4⟩ := hg i hi
  refine ⟨en, h1, h2, RepC.mono h _ _ _ h3, ?_⟩
  cases hole with
  | none => exact ⟨h4.1, h4.2.mono h (fun b c hl => hb (some i) b c hl (by simp [Ob.has, Ob.mem, Nat.blt_eq, hi]))⟩
  | some hc =>
   obtain ⟨q, qc⟩ := hc
   exact ⟨fun he => RepC.mono h _ _ _ (h4.1 he), fun hne => ⟨(h4.2 hne).1, (h4.2 hne).2.mono h (fun b c hl => hb (some i) b c hl (by
    have hne' : Nat.beq i q = false := Bool.eq_false_iff.2 (fun hh => hne (Nat.eq_of_beq_eq_true hh))
    simp [Ob.has, Ob.mem, Nat.blt_eq, hi, hne']))⟩⟩
 | arr T k n get =>
  cases l with
  | none => exact hr
  | some l =>
   obtain ⟨b, c⟩ := l
   obtain ⟨arr, hh, h1, h2, h3, h4⟩ := hr
   refine ⟨arr, by rw [hb none b c rfl rfl]; exact hh, h1, h2, h3, fun i hi j hj => ?_⟩
   obtain ⟨y, hy, hr⟩ := h4 i hi j hj
   exact ⟨y, hy, RepC.mono h _ _ _ hr⟩
theorem cell_heap {w w' : World} {b : Nat} (h : w'.heap[b]? = w.heap[b]?) (o : Nat) : w'.cell? ⟨b, o, none⟩ = w.cell? ⟨b, o, none⟩ := by
 simp [World.cell?, h]
theorem cell_lt {w : World} {b o : Nat} {y : Value} (h : w.cell? ⟨b, o, none⟩ = some y) : b < w.heap.size :=
 World.block_lt_of_cell? w ⟨b, o, none⟩ h
theorem ctx_le_below {e : Env} {objs : List Ob} {loc : Loc} {w w' : World} (h : Below w.heap.size w w') : (ctx e objs loc w).Le (ctx e objs loc w') :=
 ⟨fun b o y _ hc => by
  have := cell_lt hc
  exact (cell_heap (h.block b this) o).trans hc, fun _ _ _ hO _ => hO, fun _ hB => ⟨hB, rfl⟩⟩
theorem HRep.below {e : Env} {objs : List Ob} {loc : Loc} {w w' : World} (hr : HRep e objs loc w) (h : Below w.heap.size w w') : HRep e objs loc w' :=
 ⟨hr.keep.trans' ⟨h.os, h.tape, h.output, h.size, fun i hi _ => h.block i hi⟩, hr.xlt,
 fun i o ho => RepO.mono (ctx_le_below h) (fun s b c hl hlive => h.block b (hr.fresh i o s b c ho hlive (by cases s <;> exact hl)).1) (hr.rep i o ho),
 fun i o s b c ho hl hb => ⟨Nat.lt_of_lt_of_le (hr.fresh i o s b c ho hl hb).1 h.size, (hr.fresh i o s b c ho hl hb).2⟩, hr.inj⟩
structure St where
 slots : List (Nat × AV)
 objs : List Ob
def look : List (Nat × AV) → Nat → AV
 | [], _ => .c .any
 | (u, v) :: r, t => match Nat.beq u t with
  | true => v
  | false => look r t
theorem look_cons (u : Nat) (v : AV) (r : List (Nat × AV)) (t : Nat) : look ((u, v) :: r) t = if u = t then v else look r t := by
 simp only [look]
 by_cases h : u = t
 ·subst h; simp
 ·have h2 : Nat.beq u t = false := by
   cases hb : Nat.beq u t with
   | false => rfl
   | true => exact absurd (Nat.eq_of_beq_eq_true hb) h
  rw [h2, if_neg h]
structure SRep (e : Env) (N : Fr) (st : St) (loc : Loc) (a : Act) (w : World) : Prop where
 heap : HRep e st.objs loc w
 size : a.tmps.size = N.N
 base : ∀ i, i < N.n0 → loc i = e.l0 i
 n0le : N.n0 ≤ st.objs.length
 defers : a.defers = e.D
 slot : ∀ t, RepA (ctx e st.objs loc w) (look st.slots t) (a.tmps.getD t undef)
def cellOf : Value → Cell
 | .int k n => .int k n
 | .bool b => .bool b
 | .string s => .str s
 | v => .raw v
def avOf : Value → AV
 | .agg cs => .a (cs.toList.map cellOf)
 | .tuple _ => .c .any
 | v => .c (cellOf v)
theorem rep_cellOf (x : Ctx) (t : Bool) (v : Value) : RepC x t (cellOf v) v := by cases v <;> simp [cellOf, RepC]
theorem rep_avOf (x : Ctx) (v : Value) : RepA x (avOf v) v := by
 cases v with
 | agg cs =>
  refine ⟨cs, rfl, ?_⟩
  refine RepL.of_get (by simp) (fun j c v h1 h2 => ?_)
  simp only [List.getElem?_map] at h1
  rw [h2] at h1
  simp at h1
  subst h1
  exact rep_cellOf _ _ _
 | tuple vs => simp [avOf, RepA, RepC]
 | _ => simp [avOf, RepA, cellOf, RepC]
def evs (slots : List (Nat × AV)) : Operand → AV
 | .tmp t => look slots t
 | .const v => avOf v
 | .global _ => .c .any
 | .func f => .c (.raw (.func (.func f) #[] #[]))
theorem SRep.eval {e : Env} {N : Fr} {st : St} {loc : Loc} {a : Act} {w : World} (h : SRep e N st loc a w) (x : Operand) :
  RepA (ctx e st.objs loc w) (evs st.slots x) (a.eval x) := by
 cases x with
 | tmp t => exact h.slot t
 | const v => exact rep_avOf _ v
 | global g => simp [evs, RepA, RepC]
 | func f => simp [evs, RepA, RepC, Act.eval]
def QOp (P : Program) (o : Oper) (ev : Operand → AV) (objs : List Ob) (v : AV) : Prop :=
 ∀ (e : Env) (loc : Loc) (w : World) (a : Act), HRep e objs loc w → (∀ x ∈ o.op.operands, RepA (ctx e objs loc w) (ev x) (a.eval x)) →
  ∀ (K : Act → World → Prop) (Q : Exit → Act → World → Prop), (∀ u w', Below w.heap.size w w' → RepA (ctx e objs loc w') v u → K (a.put o.dst u) w') → o.wp P a w K Q
def SOps (P : Program) (N : Fr) (ops : Array Oper) (l : List Nat) (st : St) (K : St → Prop) : Prop :=
 ∀ (e : Env) (loc : Loc) (a : Act) (w : World), SRep e N st loc a w →
  wpOps P ops (fun x a' w' => x = .normal ∧ ∃ st' loc', K st' ∧ SRep e N st' loc' a' w') l a w
def SCode (P : Program) (N : Fr) (c : Code) (st : St) (Q : Exit → St → Prop) : Prop :=
 ∀ (e : Env) (loc : Loc) (a : Act) (w : World), SRep e N st loc a w →
  c.wp P (fun x a' w' => ∃ st' loc', Q x st' ∧ SRep e N st' loc' a' w') a w
def St.put (st : St) (d : Option Tmp) (v : AV) : St :=
 match d with
 | some d => { st with slots := (d, v) :: st.slots }
 | none => st
theorem SRep.put {e : Env} {N : Fr} {st : St} {loc : Loc} {a : Act} {w : World} (h : SRep e N st loc a w) (d : Option Tmp) (hd : ∀ t, d = some t → t < N.N)
  {v : AV} {u : Value} (hv : RepA (ctx e st.objs loc w) v u) : SRep e N (st.put d v) loc (a.put d u) w := by
 cases d with
 | none => exact h
 | some t =>
  refine ⟨h.heap, by simp [Act.put, h.size], h.base, h.n0le, h.defers, fun s => ?_⟩
  simp only [St.put, look_cons, Act.put]
  by_cases hs : t = s
  ·subst hs
   have hlt : t < a.tmps.size := by rw [h.size]; exact hd t rfl
   rw [if_pos rfl]
   have : (a.tmps.setIfInBounds t u).getD t undef = u := by simp [Array.getD, hlt]
   rw [this]; exact hv
  ·rw [if_neg hs]
   have : (a.tmps.setIfInBounds t u).getD s undef = a.tmps.getD s undef := by
    simp [Array.getD_eq_getD_getElem?, Array.getElem?_setIfInBounds_ne hs]
   rw [this]; exact h.slot s
theorem SRep.below {e : Env} {N : Fr} {st : St} {loc : Loc} {a : Act} {w w' : World} (h : SRep e N st loc a w) (hb : Below w.heap.size w w') : SRep e N st loc a w' :=
 ⟨h.heap.below hb, h.size, h.base, h.n0le, h.defers, fun t => RepA.mono (ctx_le_below hb) _ _ (h.slot t)⟩
end Go.Proofs.Ytoncfkdgddfnlaa.E
