/- Knowing less: objects dropped, renamed, laid down for good. -/
import Derived.Test.YtoncfkdgddfnlaaEngD
namespace Go.Proofs.Ytoncfkdgddfnlaa.E
open Go Go.RowKit
set_option linter.unusedVariables false
def Cell.pers : Cell → Bool
 | .own .. => false
 | .ptr .. => false
 | .aptr .. => false
 | .sub .. => false
 | .mp .. => false
 | .fnp .. => false
 | _ => true
theorem RepC.down {x : Ctx} {t : Bool} {c : Cell} {v : Value} (h : RepC x t c v) (hp : c.pers = true) : RepC x false c v := by
 cases c <;> simp [Cell.pers] at hp <;> exact h
def Cell.ren (f : Nat → Nat) : Cell → Cell
 | .own id len => .own (f id) len
 | .ptr id j => .ptr (f id) j
 | .aptr id k i j => .aptr (f id) k i j
 | .sub id lo n k => .sub (f id) lo n k
 | .mp id => .mp (f id)
 | .fnp g id => .fnp g (f id)
 | c => c
def V1.ren (f : Nat → Nat) : V1 → V1
 | .c x => .c (x.ren f)
 | .a l => .a (l.map (Cell.ren f))
def Cell.ok (m : Nat) : Cell → Bool
 | .own id _ => Nat.blt id m
 | .ptr id _ => Nat.blt id m
 | .aptr id _ _ _ => Nat.blt id m
 | .sub id _ _ _ => Nat.blt id m
 | .mp id => Nat.blt id m
 | .fnp _ id => Nat.blt id m
 | _ => true
def V1.ok (m : Nat) : V1 → Bool
 | .c x => x.ok m
 | .a l => l.all (Cell.ok m)
def idOf (ids : List Nat) (i : Nat) : Nat := ids.getD i 0
def CSub (old : List Ob) (ids : List Nat) (c c' : Cell) : Prop :=
 (c'.ok ids.length = true ∧ c = c'.ren (idOf ids)) ∨
 (∃ id T k n len get get', c = .own id len ∧ c' = .vec len k get' ∧ old[id]? = some (.arr T k n get) ∧ len ≤ n ∧ (∀ i, i < len → ∀ j, j < k → get i j = get' i j) ∧ id ∉ ids) ∨
 (∃ n k get get', c = .vec n k get ∧ c' = .vec n k get' ∧ ∀ i, i < n → ∀ j, j < k → get i j = get' i j) ∨
 (∃ k get', c = .raw (.slice none 0 0) ∧ c' = .vec 0 k get') ∨
 (∃ id j k cs get', c = .ptr id j ∧ c' = .eptr k get' j ∧ old[id]? = some (.box cs) ∧ id ∉ ids ∧ j < k ∧ ∀ j', j' < k → ∃ x, cs[j']? = some x ∧ x.pers = true ∧ get' j' = x) ∨
 (∃ id H T k n len get m get', c = .own id m ∧ c' = .vec m 1 get' ∧ old[id]? = some (.rows H T k n len get none) ∧ m ≤ n ∧ (∀ i, i < m → ∃ g, get' i 0 = .vec (len i) k g ∧ ∀ a, a < len i → ∀ j, j < k → get i a j = g a j) ∧ id ∉ ids) ∨
 (∃ id T n get h j len Tr k nr getr m get' g, c = .own id m ∧ c' = .vec m 1 get' ∧ old[id]? = some (.arh T n get h (.own j len)) ∧ m ≤ n ∧ old[j]? = some (.arr Tr k nr getr) ∧ len ≤ nr ∧ get' h 0 = .vec len k g ∧ (∀ a, a < len → ∀ b, b < k → getr a b = g a b) ∧ (∀ i, i < m → i ≠ h → get' i 0 = get i) ∧ id ∉ ids ∧ j ∉ ids)
theorem ii {old : List Ob} {ids : List Nat} {c c' : Cell} (h1 : c'.ok ids.length = true) (h2 : c = c'.ren (idOf ids)) : CSub old ids c c' := .inl ⟨h1, h2⟩
def LSub (old : List Ob) (ids : List Nat) : List Cell → List Cell → Prop
 | [], [] => True
 | c :: cs, c' :: cs' => CSub old ids c c' ∧ LSub old ids cs cs'
 | _, _ => False
def ASub (old : List Ob) (ids : List Nat) : AV → AV → Prop
 | a, .c c' => ∃ c, a = .c c ∧ CSub old ids c c'
 | a, .a l' => ∃ l, a = .a l ∧ LSub old ids l l'
 | a, .t l' => (l'.all (V1.ok ids.length) = true) ∧ a = .t (l'.map (V1.ren (idOf ids)))
theorem zc {old : List Ob} {ids : List Nat} {a : AV} {c' : Cell} (h1 : a = .c (c'.ren (idOf ids))) (h2 : c'.ok ids.length = true) : ASub old ids a (.c c') := ⟨_, h1, .inl ⟨h2, rfl⟩⟩
def SlotsSub (st : St) (ids : List Nat) : List (Nat × AV) → Prop
 | [] => True
 | (t, v) :: r => ASub st.objs ids (look st.slots t) v ∧ SlotsSub st ids r
def HSub (old : List Ob) (ids : List Nat) : Option (Nat × Cell) → Option (Nat × Cell) → Prop
 | none, none => True
 | some (h, c), some (h', c') => h = h' ∧ CSub old ids c c'
 | _, _ => False
def OSub (old : List Ob) (ids : List Nat) (k : Nat) : Ob → Prop
 | .dead => True
 | .rows H T kk n len get hole => ∃ hole0, old[k]? = some (.rows H T kk n len get hole0) ∧ HSub old ids hole0 hole
 | .arh T n get h c => ∃ c0, old[k]? = some (.arh T n get h c0) ∧ CSub old ids c0 c
 | .maps n key len ik iv hole => ∃ hole0, old[k]? = some (.maps n key len ik iv hole0) ∧ HSub old ids hole0 hole
 | .box cs' => ∃ cs, old[k]? = some (.box cs) ∧ LSub old ids cs cs'
 | .raw ob => old[k]? = some (.raw ob)
 | .map n key get => old[k]? = some (.map n key get)
 | .arr T kk n get' => ∃ n0 get, old[k]? = some (.arr T kk n0 get) ∧ n ≤ n0 ∧ ∀ i, i < n → ∀ j, j < kk → get i j = get' i j
theorem oa {old : List Ob} {ids : List Nat} {k T kk n : Nat} {get : Nat → Nat → Cell} (h : old[k]? = some (.arr T kk n get)) : OSub old ids k (.arr T kk n get) := ⟨_, _, h, Nat.le_refl _, fun _ _ _ _ => rfl⟩
def ObsSub (old : List Ob) (ids : List Nat) : List Nat → List Ob → Prop
 | [], [] => True
 | k :: ks, o' :: r => OSub old ids k o' ∧ ObsSub old ids ks r
 | _, _ => False
def nodupB : List Nat → Bool
 | [] => true
 | x :: r => !(r.any (Nat.beq x)) && nodupB r
def preB : Nat → List Nat → Bool
 | 0, _ => true
 | n + 1, ids => preB n ids && (match ids[n]? with | some k => Nat.beq k n | none => false)
theorem nodupB_out : ∀ {ids : List Nat}, nodupB ids = true → ∀ (i j k : Nat), ids[i]? = some k → ids[j]? = some k → i = j
 | [], _, i, j, k, h, _ => by simp at h
 | x :: r, hb, i, j, k, hi, hj => by
  simp only [nodupB, Bool.and_eq_true, Bool.not_eq_true'] at hb
  have hx : ∀ k', k' ∈ r → k' ≠ x := by
   intro k' hk' he
   subst he
   have := hb.1
   rw [List.any_eq_false] at this
   exact this k' hk' (by simp)
  cases i with
  | zero =>
   cases j with
   | zero => rfl
   | succ j =>
    simp at hi hj
    exact absurd hi.symm (hx k (List.mem_of_getElem? hj))
  | succ i =>
   cases j with
   | zero =>
    simp at hi hj
    exact absurd hj.symm (hx k (List.mem_of_getElem? hi))
   | succ j =>
    simp at hi hj
    rw [nodupB_out hb.2 i j k hi hj]
theorem preB_out : ∀ {n : Nat} {ids : List Nat}, preB n ids = true → ∀ i, i < n → ids[i]? = some i
 | 0, _, _, i, hi => by omega
 | n + 1, ids, hb, i, hi => by
  simp only [preB, Bool.and_eq_true] at hb
  rcases Nat.lt_or_ge i n with h | h
  ·exact preB_out hb.1 i h
  ·have : i = n := by omega
   subst this
   have h2 := hb.2
   split at h2
   ·rename_i k hk
    rw [hk, Nat.eq_of_beq_eq_true h2]
   ·cases h2
def locRen (loc : Loc) (ids : List Nat) : Loc :=
 ⟨fun i => match ids[i]? with
  | some k => loc k
  | none => none, fun i => match ids[i]? with
  | some k => loc.f k
  | none => fun _ => none⟩
theorem HSub.mem {old : List Ob} {ids : List Nat} {H T kk n : Nat} {len : Nat → Nat} {get : Nat → Nat → Nat → Cell} : ∀ {a b : Option (Nat × Cell)}, HSub old ids a b → (Ob.rows H T kk n len get a).mem = (Ob.rows H T kk n len get b).mem
 | none, none, _ => rfl
 | some (h, c), some (h', c'), hs => by obtain ⟨rfl, _⟩ := hs; rfl
 | none, some _, hs => by simp [HSub] at hs
 | some _, none, hs => by simp [HSub] at hs
theorem HSub.memM {old : List Ob} {ids : List Nat} {n : Nat} {key : Nat → Cell} {len : Nat → Nat} {ik : Nat → Nat → Cell} {iv : Nat → Nat → V1} : ∀ {a b : Option (Nat × Cell)}, HSub old ids a b → (Ob.maps n key len ik iv a).mem = (Ob.maps n key len ik iv b).mem
 | none, none, _ => rfl
 | some (h, c), some (h', c'), hs => by obtain ⟨rfl, _⟩ := hs; rfl
 | none, some _, hs => by simp [HSub] at hs
 | some _, none, hs => by simp [HSub] at hs
theorem ObsSub.get {old : List Ob} {ids : List Nat} : ∀ {ks : List Nat} {os : List Ob} (_ : ObsSub old ids ks os) (i : Nat) (o : Ob), os[i]? = some o → ∃ k, ks[i]? = some k ∧ OSub old ids k o
 | [], [], _, i, o, h => by simp at h
 | k :: ks, o' :: r, h, 0, o, ho => by simp at ho; subst ho; exact ⟨k, rfl, h.1⟩
 | k :: ks, o' :: r, h, i + 1, o, ho => by
  simp at ho
  obtain ⟨k', h1, h2⟩ := ObsSub.get h.2 i o ho
  exact ⟨k', by simpa using h1, h2⟩
 | [], _ :: _, h, _, _, _ => h.elim
 | _ :: _, [], h, _, _, _ => h.elim
theorem ObsSub.length {old : List Ob} {ids : List Nat} : ∀ {ks : List Nat} {os : List Ob} (_ : ObsSub old ids ks os), ks.length = os.length
 | [], [], _ => rfl
 | _ :: ks, _ :: r, h => by simp [ObsSub.length h.2]
 | [], _ :: _, h => h.elim
 | _ :: _, [], h => h.elim
theorem sub_gen {N : Fr} {st st' : St} (ids : List Nat) (hn : nodupB ids = true) (hp : preB N.n0 ids = true) (hs : SlotsSub st ids st'.slots) (ho : ObsSub st.objs ids ids st'.objs) : Sub N st st' := by
 intro e loc a w hr
 have hlen := ho.length
 -- what is live now was live, under its old number
 have hlive : ∀ i o' s b c, st'.objs[i]? = some o' → o'.has s = true → (locRen loc ids).at i s = some (b, c) → ∃ k o, ids[i]? = some k ∧ st.objs[k]? = some o ∧ o.has s = true ∧ loc.at k s = some (b, c) := by
  intro i o' s b c h1 h2 h3
  obtain ⟨k, hk, hO⟩ := ho.get i o' h1
  have h4 : loc.at k s = some (b, c) := by
   cases s <;> simpa [locRen, Loc.at, hk] using h3
  cases o' with
  | dead => cases s <;> simp [Ob.live, Ob.has, Ob.mem] at h2
  | box cs' => obtain ⟨cs, h5, _⟩ := hO; exact ⟨k, _, hk, h5, by cases s <;> exact h2, h4⟩
  | raw ob => exact ⟨k, _, hk, hO, h2, h4⟩
  | map n key get => exact ⟨k, _, hk, hO, h2, h4⟩
  | arr T kk n get' => obtain ⟨n0, get, h5, _⟩ := hO; exact ⟨k, _, hk, h5, by cases s <;> exact h2, h4⟩
  | arh T n get q c0 => obtain ⟨c1, h5, _⟩ := hO; exact ⟨k, _, hk, h5, by cases s <;> exact h2, h4⟩
  | maps n key len ik iv hole =>
   obtain ⟨hole0, h5, h6⟩ := hO
   refine ⟨k, _, hk, h5, ?_, h4⟩
   cases s with
   | none => rfl
   | some r => exact (congrFun (h6.memM (n := n) (key := key) (len := len) (ik := ik) (iv := iv)) r).trans h2
  | rows H T kk n len get hole =>
   obtain ⟨hole0, h5, h6⟩ := hO
   refine ⟨k, _, hk, h5, ?_, h4⟩
   cases s with
   | none => rfl
   | some r => exact (congrFun (h6.mem (H := H) (T := T) (kk := kk) (n := n) (len := len) (get := get)) r).trans h2
 have hO : ∀ b, (ctx e st'.objs (locRen loc ids) w).O b → (ctx e st.objs loc w).O b := by
  rintro b (hx | ⟨i, o', s, c, h1, h2, h3⟩)
  ·exact .inl hx
  ·obtain ⟨k, o, _, h4, h5, h6⟩ := hlive i o' s b c h1 h2 h3
   exact .inr ⟨k, o, s, c, h4, h5, h6⟩
 have hfalse : ∀ (c : Cell) (v : Value), RepC (ctx e st.objs loc w) false c v → RepC (ctx e st'.objs (locRen loc ids) w) false c v := by
  intro c
  induction c with
  | vec n k get ih =>
   rintro v ⟨ad, c, rfl, hc, hp⟩
   refine ⟨ad, c, rfl, hc, fun hn hk => ?_⟩
   obtain ⟨b, off, rfl, hnO, hcell⟩ := hp hn hk
   refine ⟨b, off, rfl, fun h => hnO (hO b h), fun i hi j hj => ?_⟩
   obtain ⟨y, hy, hr⟩ := hcell i hi j hj
   exact ⟨y, hy, ih i j y hr⟩
  | eptr k get j ih =>
   rintro v ⟨hj, b, off, rfl, hnO, hcell⟩
   refine ⟨hj, b, off, rfl, fun h => hnO (hO b h), fun j' hj' => ?_⟩
   obtain ⟨y, hy, hr⟩ := hcell j' hj'
   exact ⟨y, hy, ih j' y hr⟩
  | own id len => rintro v ⟨ht, _⟩; cases ht
  | ptr id j => rintro v ⟨ht, _⟩; cases ht
  | aptr id k i j => rintro v ⟨ht, _⟩; cases ht
  | any => intro v h; exact h
  | int k n => intro v h; exact h
  | bool b => intro v h; exact h
  | str s => intro v h; exact h
  | raw u => intro v h; exact h
  | sub id lo n k => rintro v ⟨ht, _⟩; cases ht
  | mp id => rintro v ⟨ht, _⟩; cases ht
  | fnp f id => rintro v ⟨ht, _⟩; cases ht
  | fn f n get ih =>
   rintro v ⟨vals, rfl, hs, hg⟩
   refine ⟨vals, rfl, hs, fun j hj => ?_⟩
   obtain ⟨y, hy, hr⟩ := hg j hj
   exact ⟨y, hy, ih j y hr⟩
 have hLf : ∀ (l : List Cell) vs, RepL (ctx e st.objs loc w) false l vs → RepL (ctx e st'.objs (locRen loc ids) w) false l vs := by
  intro l
  induction l with
  | nil => intro vs hv; cases vs with
   | nil => trivial
   | cons _ _ => exact hv.elim
  | cons c cs ih =>
   intro vs hv
   cases vs with
   | nil => exact hv.elim
   | cons u us => exact ⟨hfalse c u hv.1, ih us hv.2⟩
 have hid : ∀ id, id < ids.length → (ctx e st'.objs (locRen loc ids) w).loc id = loc (idOf ids id) ∧ (ctx e st'.objs (locRen loc ids) w).B id := by
  intro id hlt
  have h1 : ids[id]? = some (ids.getD id 0) := by rw [List.getD_eq_getElem?_getD, List.getElem?_eq_getElem hlt]; rfl
  refine ⟨?_, by show id < st'.objs.length; omega⟩
  show (locRen loc ids).b id = loc (ids.getD id 0)
  simp only [locRen]
  rw [h1]
 have hC : ∀ c c' v, CSub st.objs ids c c' → RepC (ctx e st.objs loc w) true c v → RepC (ctx e st'.objs (locRen loc ids) w) true c' v := by
  rintro c c' v (⟨hok, rfl⟩ | ⟨id, T, k, n, len, get, get', rfl, rfl, hob, hle, hgg, hnid⟩ | ⟨n, k, get, get', rfl, rfl, hgg⟩ | ⟨k, get', rfl, rfl⟩ | ⟨id, j, k, cs, get', rfl, rfl, hob, hnid, hjk, hgg⟩ | ⟨id, H, T, k, n, len, get, m, get', rfl, rfl, hob, hle, hgg, hnid⟩ | ⟨id, T, n, get, h, jd, len, Tr, k, nr, getr, m, get', g, rfl, rfl, hob, hle, hobj, hlen2, hgh, hgg, hge, hnid, hjid⟩) hv
  ·cases c' with
   | own id len =>
    have hlt : id < ids.length := by simpa [Cell.ok, Nat.blt_eq] using hok
    obtain ⟨h1, h2⟩ := hid id hlt
    obtain ⟨_, _, hm⟩ := hv
    refine ⟨rfl, h2, ?_⟩
    rw [h1]; exact hm
   | ptr id j =>
    have hlt : id < ids.length := by simpa [Cell.ok, Nat.blt_eq] using hok
    obtain ⟨h1, h2⟩ := hid id hlt
    obtain ⟨_, _, b, c, hl, hm⟩ := hv
    exact ⟨rfl, h2, b, c, by rw [h1]; exact hl, hm⟩
   | aptr id k i j =>
    have hlt : id < ids.length := by simpa [Cell.ok, Nat.blt_eq] using hok
    obtain ⟨h1, h2⟩ := hid id hlt
    obtain ⟨_, _, b, c, hl, hm⟩ := hv
    exact ⟨rfl, h2, b, c, by rw [h1]; exact hl, hm⟩
   | vec n k get =>
    obtain ⟨ad, c, rfl, hc, hp⟩ := hv
    refine ⟨ad, c, rfl, hc, fun hn hk => ?_⟩
    obtain ⟨b, off, rfl, hnO, hcell⟩ := hp hn hk
    refine ⟨b, off, rfl, fun h => hnO (hO b h), fun i hi j hj => ?_⟩
    obtain ⟨y, hy, hr⟩ := hcell i hi j hj
    exact ⟨y, hy, hfalse _ y hr⟩
   | eptr k get j =>
    obtain ⟨hj, b, off, rfl, hnO, hcell⟩ := hv
    refine ⟨hj, b, off, rfl, fun h => hnO (hO b h), fun j' hj' => ?_⟩
    obtain ⟨y, hy, hr⟩ := hcell j' hj'
    exact ⟨y, hy, hfalse _ y hr⟩
   | any => exact hv
   | int k n => exact hv
   | bool b => exact hv
   | str s => exact hv
   | raw u => exact hv
   | sub id lo n k =>
    have hlt : id < ids.length := by simpa [Cell.ok, Nat.blt_eq] using hok
    obtain ⟨h1, h2⟩ := hid id hlt
    obtain ⟨_, _, hm⟩ := hv
    refine ⟨rfl, h2, ?_⟩
    rw [h1]; exact hm
   | mp id =>
    have hlt : id < ids.length := by simpa [Cell.ok, Nat.blt_eq] using hok
    obtain ⟨h1, h2⟩ := hid id hlt
    obtain ⟨_, _, b, c, hl, hm⟩ := hv
    exact ⟨rfl, h2, b, c, by rw [h1]; exact hl, hm⟩
   | fnp f id =>
    have hlt : id < ids.length := by simpa [Cell.ok, Nat.blt_eq] using hok
    obtain ⟨h1, h2⟩ := hid id hlt
    obtain ⟨_, _, b, c, hl, hm⟩ := hv
    exact ⟨rfl, h2, b, c, by rw [h1]; exact hl, hm⟩
   | fn f n get =>
    obtain ⟨vals, rfl, hs, hg⟩ := hv
    refine ⟨vals, rfl, hs, fun j hj => ?_⟩
    obtain ⟨y, hy, hr⟩ := hg j hj
    exact ⟨y, hy, hfalse _ y hr⟩
  ·obtain ⟨_, _, hm⟩ := hv
   cases hl : loc id with
   | none =>
    have : (ctx e st.objs loc w).loc id = none := hl
    rw [this] at hm
    obtain ⟨rfl, h0⟩ := hm
    subst h0
    exact ⟨none, 0, rfl, Nat.le_refl _, fun hn => absurd hn (Nat.lt_irrefl 0)⟩
   | some l =>
    obtain ⟨b, c⟩ := l
    have : (ctx e st.objs loc w).loc id = some (b, c) := hl
    rw [this] at hm
    have hm' : v = .slice (some ⟨b, 0, none⟩) len c := hm
    subst hm'
    obtain ⟨arr, hh, hsz, hnc, hcm, hg⟩ := hr.heap.arr hob hl
    refine ⟨_, c, rfl, Nat.le_trans hle hnc, fun hn0 hk0 => ⟨b, 0, rfl, ?_, fun i hi j hj => ?_⟩⟩
    ·rintro (hx | ⟨i, o', s, c2, h1, h2, h3⟩)
     ·exact hr.heap.notX hob rfl hl hx
     ·obtain ⟨k2, o2, hk2, h4, h5, h6⟩ := hlive i o' s b c2 h1 h2 h3
      have := (hr.heap.inj k2 id o2 _ s none b c2 c h4 h5 hob rfl h6 hl).1
      subst this
      exact hnid (List.mem_of_getElem? hk2)
    ·obtain ⟨y, hy, hrep⟩ := hg i (by omega) j hj
     refine ⟨y, ?_, ?_⟩
     ·show w.cell? ⟨b, 0 + i * k + j, none⟩ = some y
      rw [cell_of_heap hh, Nat.zero_add]; exact hy
     ·rw [← hgg i hi j hj]; exact hfalse _ y hrep
  ·obtain ⟨ad, c, rfl, hc, hp⟩ := hv
   refine ⟨ad, c, rfl, hc, fun hn hk => ?_⟩
   obtain ⟨b, off, rfl, hnO, hcell⟩ := hp hn hk
   refine ⟨b, off, rfl, fun h => hnO (hO b h), fun i hi j hj => ?_⟩
   obtain ⟨y, hy, hr⟩ := hcell i hi j hj
   exact ⟨y, hy, by rw [← hgg i hi j hj]; exact hfalse _ y hr⟩
  ·cases hv
   exact ⟨none, 0, rfl, Nat.le_refl _, fun hn => absurd hn (Nat.lt_irrefl 0)⟩
  ·obtain ⟨_, _, b, c, hl, hm⟩ := hv
   have hl' : loc id = some (b, c) := hl
   obtain ⟨b2, c2, arr, T, h6, h7, h8⟩ := hr.heap.box hob
   rw [hl'] at h6
   cases h6
   refine ⟨hjk, b, 0, by rw [hm, Nat.zero_add], ?_, fun j' hj' => ?_⟩
   ·rintro (hx | ⟨i, o', s, c2, h1, h2, h3⟩)
    ·exact hr.heap.notX hob rfl hl' hx
    ·obtain ⟨k2, o2, hk2, h4, h5, h6⟩ := hlive i o' s b c2 h1 h2 h3
     have := (hr.heap.inj k2 id o2 _ s none b c2 c h4 h5 hob rfl h6 hl').1
     subst this
     exact hnid (List.mem_of_getElem? hk2)
   ·obtain ⟨x, hx1, hx2, hx3⟩ := hgg j' hj'
    obtain ⟨y, hy, hrep⟩ := h8.get j' x hx1
    refine ⟨y, ?_, by rw [hx3]; exact hfalse _ y (RepC.down hrep hx2)⟩
    show w.cell? ⟨b, 0 + j', none⟩ = some y
    rw [cell_of_heap h7, Nat.zero_add]
    simpa using hy
  ·obtain ⟨_, _, hm⟩ := hv
   cases hl : loc id with
   | none =>
    have : (ctx e st.objs loc w).loc id = none := hl
    rw [this] at hm
    obtain ⟨rfl, h0⟩ := hm
    subst h0
    exact ⟨none, 0, rfl, Nat.le_refl _, fun hn => absurd hn (Nat.lt_irrefl 0)⟩
   | some l =>
    obtain ⟨b, c⟩ := l
    have : (ctx e st.objs loc w).loc id = some (b, c) := hl
    rw [this] at hm
    have hm' : v = .slice (some ⟨b, 0, none⟩) m c := hm
    subst hm'
    have hrep := hr.heap.rep id _ hob
    rw [hl] at hrep
    obtain ⟨arr, hh, hsz, hnc, hcm, hg⟩ := hrep
    have hnot : ∀ s b c, (Ob.rows H T k n len get none).has s = true → loc.at id s = some (b, c) → ¬ (ctx e st'.objs (locRen loc ids) w).O b := by
     rintro s b c hs hls (hx | ⟨i, o', s', c2, h1, h2, h3⟩)
     ·exact hr.heap.notXs hob hs hls hx
     ·obtain ⟨k2, o2, hk2, h4, h5, h6⟩ := hlive i o' s' b c2 h1 h2 h3
      have := (hr.heap.inj k2 id o2 _ s' s b c2 c h4 h5 hob hs h6 hls).1
      subst this
      exact hnid (List.mem_of_getElem? hk2)
    refine ⟨_, c, rfl, Nat.le_trans hle hnc, fun hn0 hk0 => ⟨b, 0, rfl, hnot none b c rfl hl, fun i hi j hj => ?_⟩⟩
    have hj0 : j = 0 := by omega
    subst hj0
    obtain ⟨y, hy, hrv, hra⟩ := hg i (by omega)
    obtain ⟨g, hg1, hg2⟩ := hgg i hi
    refine ⟨y, ?_, ?_⟩
    ·show w.cell? ⟨b, 0 + i * 1 + 0, none⟩ = some y
     have hh' : w.heap[b]? = some (.cells arr H (0, 0)) := hh
     rw [cell_of_heap hh']
     simpa using hy
    ·rw [hg1]
     cases hlf : loc.f id i with
     | none =>
      rw [hlf] at hrv
      obtain ⟨h1, h2⟩ := hrv
      exact ⟨none, 0, by rw [h2]; exact h1, by omega, fun hn => absurd hn (by omega)⟩
     | some bc =>
      obtain ⟨b2, c2⟩ := bc
      rw [hlf] at hrv hra
      obtain ⟨arr2, hh2, hsz2, hnc2, hcm2, hg3⟩ := hra
      refine ⟨_, c2, hrv, hnc2, fun hn1 hk1 => ⟨b2, 0, rfl, hnot (some i) b2 c2 (by simp [Ob.has, Ob.mem, Nat.blt_eq]; omega) hlf, fun a ha j hj => ?_⟩⟩
      obtain ⟨z, hz, hrz⟩ := hg3 a ha j hj
      refine ⟨z, ?_, by rw [← hg2 a ha j hj]; exact hfalse _ z hrz⟩
      show w.cell? ⟨b2, 0 + a * k + j, none⟩ = some z
      have hh2' : w.heap[b2]? = some (.cells arr2 T (0, 0)) := hh2
      rw [cell_of_heap hh2', Nat.zero_add]; exact hz
  ·obtain ⟨_, _, hm⟩ := hv
   cases hl : loc id with
   | none =>
    have : (ctx e st.objs loc w).loc id = none := hl
    rw [this] at hm
    obtain ⟨rfl, h0⟩ := hm
    subst h0
    exact ⟨none, 0, rfl, Nat.le_refl _, fun hn => absurd hn (Nat.lt_irrefl 0)⟩
   | some l =>
    obtain ⟨b, c⟩ := l
    have : (ctx e st.objs loc w).loc id = some (b, c) := hl
    rw [this] at hm
    have hm' : v = .slice (some ⟨b, 0, none⟩) m c := hm
    subst hm'
    have hrep := hr.heap.rep id _ hob
    rw [hl] at hrep
    obtain ⟨arr, hh, hsz, hnc, hcm, hg⟩ := hrep
    have hnot : ∀ (q : Nat) (o0 : Ob) (b c : Nat), st.objs[q]? = some o0 → o0.live = true → q ∉ ids → loc q = some (b, c) → ¬ (ctx e st'.objs (locRen loc ids) w).O b := by
     rintro q o0 b c ho hlv hq hlq (hx | ⟨i, o', s', c2, h1, h2, h3⟩)
     ·exact hr.heap.notX ho hlv hlq hx
     ·obtain ⟨k2, o2, hk2, h4, h5, h6⟩ := hlive i o' s' b c2 h1 h2 h3
      have := (hr.heap.inj k2 q o2 _ s' none b c2 c h4 h5 ho hlv h6 hlq).1
      subst this
      exact hq (List.mem_of_getElem? hk2)
    refine ⟨_, c, rfl, Nat.le_trans hle hnc, fun hn0 hk0 => ⟨b, 0, rfl, hnot id _ b c hob rfl hnid hl, fun i hi j0 hj0 => ?_⟩⟩
    have hj00 : j0 = 0 := by omega
    subst hj00
    obtain ⟨y, hy, k1, k2⟩ := hg i (by omega)
    refine ⟨y, ?_, ?_⟩
    ·show w.cell? ⟨b, 0 + i * 1 + 0, none⟩ = some y
     have hh' : w.heap[b]? = some (.cells arr T (0, 0)) := hh
     rw [cell_of_heap hh']
     simpa using hy
    ·by_cases hih : i = h
     ·subst hih
      rw [hgh]
      obtain ⟨_, _, hmj⟩ := k1 rfl
      cases hlj : loc jd with
      | none =>
       have : (ctx e st.objs loc w).loc jd = none := hlj
       rw [this] at hmj
       obtain ⟨h1, h2⟩ := hmj
       exact ⟨none, 0, by rw [h2]; exact h1, by omega, fun hn => absurd hn (by omega)⟩
      | some bc =>
       obtain ⟨b2, c2⟩ := bc
       have : (ctx e st.objs loc w).loc jd = some (b2, c2) := hlj
       rw [this] at hmj
       obtain ⟨arr2, hh2, hsz2, hnc2, hcm2, hg3⟩ := hr.heap.arr hobj hlj
       refine ⟨_, c2, hmj, Nat.le_trans hlen2 hnc2, fun hn1 hk1 => ⟨b2, 0, rfl, hnot jd _ b2 c2 hobj rfl hjid hlj, fun a ha b0 hb0 => ?_⟩⟩
       obtain ⟨z, hz, hrz⟩ := hg3 a (by omega) b0 hb0
       refine ⟨z, ?_, by rw [← hgg a ha b0 hb0]; exact hfalse _ z hrz⟩
       show w.cell? ⟨b2, 0 + a * k + b0, none⟩ = some z
       rw [cell_of_heap hh2, Nat.zero_add]; exact hz
     ·rw [hge i hi hih]; exact hfalse _ y (k2 hih)
 have hL : ∀ l l' vs, LSub st.objs ids l l' → RepL (ctx e st.objs loc w) true l vs → RepL (ctx e st'.objs (locRen loc ids) w) true l' vs := by
  intro l
  induction l with
  | nil =>
   intro l' vs hl hv
   cases l' with
   | nil => cases vs with
    | nil => trivial
    | cons _ _ => exact hv.elim
   | cons _ _ => exact hl.elim
  | cons c cs ih =>
   intro l' vs hl hv
   cases l' with
   | nil => exact hl.elim
   | cons c' cs' => cases vs with
    | nil => exact hv.elim
    | cons u us => exact ⟨hC c c' u hl.1 hv.1, ih cs' us hl.2 hv.2⟩
 have hLr : ∀ (l' : List Cell) vs, l'.all (Cell.ok ids.length) = true → RepL (ctx e st.objs loc w) true (l'.map (Cell.ren (idOf ids))) vs → RepL (ctx e st'.objs (locRen loc ids) w) true l' vs := by
  intro l'
  induction l' with
  | nil => intro vs _ hv; cases vs with
   | nil => trivial
   | cons _ _ => exact hv.elim
  | cons c cs ih =>
   intro vs hok hv
   simp only [List.all_cons, Bool.and_eq_true] at hok
   cases vs with
   | nil => exact hv.elim
   | cons u us => exact ⟨hC _ c u (.inl ⟨hok.1, rfl⟩) hv.1, ih us hok.2 hv.2⟩
 have hVr : ∀ (l' : List V1) vs, l'.all (V1.ok ids.length) = true → RepV1L (ctx e st.objs loc w) (l'.map (V1.ren (idOf ids))) vs → RepV1L (ctx e st'.objs (locRen loc ids) w) l' vs := by
  intro l'
  induction l' with
  | nil => intro vs _ hv; cases vs with
   | nil => trivial
   | cons _ _ => exact hv.elim
  | cons c cs ih =>
   intro vs hok hv
   simp only [List.all_cons, Bool.and_eq_true] at hok
   cases vs with
   | nil => exact hv.elim
   | cons u us =>
    refine ⟨?_, ih us hok.2 hv.2⟩
    cases c with
    | c x => exact hC _ x u (.inl ⟨hok.1, rfl⟩) hv.1
    | a l => obtain ⟨ws, rfl, hw⟩ := hv.1; exact ⟨ws, rfl, hLr l _ hok.1 hw⟩
 have hA : ∀ x x' v, ASub st.objs ids x x' → RepA (ctx e st.objs loc w) x v → RepA (ctx e st'.objs (locRen loc ids) w) x' v := by
  intro x x' v hx hv
  cases x' with
  | c c' => obtain ⟨c, rfl, hc⟩ := hx; exact hC c c' v hc hv
  | a l' => obtain ⟨l, rfl, hl⟩ := hx; obtain ⟨vs, rfl, hv⟩ := hv; exact ⟨vs, rfl, hL l l' _ hl hv⟩
  | t l' => obtain ⟨hok, rfl⟩ := hx; obtain ⟨vs, rfl, hv⟩ := hv; exact ⟨vs, rfl, hVr l' _ hok hv⟩
 refine ⟨locRen loc ids, ⟨hr.heap.keep, hr.heap.xlt, fun i o' h1 => ?_, fun i o' s b c h1 h2 h3 => ?_, fun i j o1 o2 s s' b c1 c2 h1 h2 h3 h4 h5 h6 => ?_⟩, hr.size, fun i hi => ?_, ?_, hr.defers, fun t => ?_⟩
 ·obtain ⟨k, hk, hOs⟩ := ho.get i o' h1
  have hlk : locRen loc ids i = loc k := by simp [locRen, hk]
  have hlkf : (locRen loc ids).f i = loc.f k := by simp [locRen, hk]
  rw [hlk, hlkf]
  cases o' with
  | dead => trivial
  | raw ob => exact hr.heap.rep k _ hOs
  | map n key get =>
   obtain ⟨b, c, es, h6, h7, h8, h9⟩ := hr.heap.rep k _ hOs
   refine ⟨b, c, es, h6, h7, h8, fun i hi => ?_⟩
   obtain ⟨en, g1, g2, g3, g4⟩ := h9 i hi
   refine ⟨en, g1, g2, hfalse _ _ g3, ?_⟩
   cases hq : get i with
   | c cc => rw [hq] at g4; exact hfalse _ _ g4
   | a l =>
    rw [hq] at g4
    obtain ⟨vs, hv, hl⟩ := g4
    exact ⟨vs, hv, hLf l _ hl⟩
  | maps n key len ik iv hole =>
   obtain ⟨hole0, h5, hsub⟩ := hOs
   obtain ⟨b, c, es, h6, h7, h8, h9⟩ := hr.heap.rep k _ h5
   have hF : ∀ (q : V1) (v : Value), RepF (ctx e st.objs loc w) q v → RepF (ctx e st'.objs (locRen loc ids) w) q v := fun q v hq => by
    cases q with
    | c cc => exact hfalse _ _ hq
    | a l => obtain ⟨vs, hv, hl⟩ := hq; exact ⟨vs, hv, hLf l _ hl⟩
   have hM : ∀ (l : Option (Nat × Nat)) (n : Nat) (key : Nat → Cell) (get : Nat → V1), RepMap (ctx e st.objs loc w) l n key get → RepMap (ctx e st'.objs (locRen loc ids) w) l n key get := by
    rintro l n key get ⟨b, c, es, h6, h7, h8, h9⟩
    refine ⟨b, c, es, h6, h7, h8, fun i hi => ?_⟩
    obtain ⟨en, g1, g2, g3, g4⟩ := h9 i hi
    exact ⟨en, g1, g2, hfalse _ _ g3, hF _ _ g4⟩
   refine ⟨b, c, es, h6, h7, h8, fun i hi => ?_⟩
   obtain ⟨en, g1, g2, g3, g4⟩ := h9 i hi
   refine ⟨en, g1, g2, hfalse _ _ g3, ?_⟩
   match hole0, hole, hsub with
   | none, none, _ => exact ⟨g4.1, hM _ _ _ _ g4.2⟩
   | some (q, cq), some (q', cq'), hsub =>
    obtain ⟨rfl, hcs⟩ := hsub
    exact ⟨fun he => hC _ _ _ hcs (g4.1 he), fun hne => ⟨(g4.2 hne).1, hM _ _ _ _ (g4.2 hne).2⟩⟩
  | box cs' =>
   obtain ⟨cs, h5, hls⟩ := hOs
   obtain ⟨b, c, arr, T, h6, h7, h8⟩ := hr.heap.box h5
   exact ⟨b, c, arr, T, h6, h7, hL cs cs' _ hls h8⟩
  | arr T kk n get' =>
   obtain ⟨n0, get, h5, hnn, hgg⟩ := hOs
   have h6 := hr.heap.rep k _ h5
   cases hl : loc k with
   | none => rw [hl] at h6; have h7 : n0 = 0 := h6; show n = 0; omega
   | some l =>
    obtain ⟨b, c⟩ := l
    rw [hl] at h6
    obtain ⟨arr, hh, hsz, hnc, hcm, hg⟩ := h6
    refine ⟨arr, hh, hsz, Nat.le_trans hnn hnc, hcm, fun i hi j hj => ?_⟩
    obtain ⟨y, hy, hrep⟩ := hg i (Nat.lt_of_lt_of_le hi hnn) j hj
    exact ⟨y, hy, by rw [← hgg i hi j hj]; exact hfalse _ y hrep⟩
  | arh T n get q c' =>
   obtain ⟨c0, h5, hsub⟩ := hOs
   have h6 := hr.heap.rep k _ h5
   cases hl : loc k with
   | none => rw [hl] at h6; exact h6
   | some l =>
    obtain ⟨b, cp⟩ := l
    rw [hl] at h6
    obtain ⟨arr, hh, hsz, hnc, hcm, hg⟩ := h6
    refine ⟨arr, hh, hsz, hnc, hcm, fun i hi => ?_⟩
    obtain ⟨y, hy, k1, k2⟩ := hg i hi
    exact ⟨y, hy, fun he => hC _ _ y hsub (k1 he), fun hne => hfalse _ y (k2 hne)⟩
  | rows H T kk n len get hole =>
   obtain ⟨hole0, h5, hsub⟩ := hOs
   have h6 := hr.heap.rep k _ h5
   cases hl : loc k with
   | none => rw [hl] at h6; exact h6
   | some l =>
    obtain ⟨b, c⟩ := l
    rw [hl] at h6
    obtain ⟨arr, hh, hsz, hnc, hcm, hg⟩ := h6
    have hrow : ∀ i y, RowV (loc.f k i) (len i) y ∧ RepArr (ctx e st.objs loc w) (loc.f k i) T kk (len i) (get i) → RowV (loc.f k i) (len i) y ∧ RepArr (ctx e st'.objs (locRen loc ids) w) (loc.f k i) T kk (len i) (get i) := by
     rintro i y ⟨k1, k2⟩
     refine ⟨k1, ?_⟩
     cases hlf : loc.f k i with
     | none => rw [hlf] at k2; exact k2
     | some bc =>
      obtain ⟨b2, c2⟩ := bc
      rw [hlf] at k2
      obtain ⟨arr2, g1, g2, g3, g4, g5⟩ := k2
      refine ⟨arr2, g1, g2, g3, g4, fun i hi j hj => ?_⟩
      obtain ⟨y, hy, hrep⟩ := g5 i hi j hj
      exact ⟨y, hy, hfalse _ y hrep⟩
    refine ⟨arr, hh, hsz, hnc, hcm, fun i hi => ?_⟩
    obtain ⟨y, hy, hrep⟩ := hg i hi
    refine ⟨y, hy, ?_⟩
    match hole0, hole, hsub with
    | none, none, _ => exact hrow i y hrep
    | some (q, cq), some (q', cq'), hsub =>
     obtain ⟨rfl, hcs⟩ := hsub
     exact ⟨fun he => hC _ _ y hcs (hrep.1 he), fun hne => hrow i y (hrep.2 hne)⟩
 ·obtain ⟨k, o, _, h4, h5, h6⟩ := hlive i o' s b c h1 h2 h3
  exact hr.heap.fresh k o s b c h4 h5 h6
 ·obtain ⟨k1, o3, hk1, h7, h8, h9⟩ := hlive i o1 s b c1 h1 h2 h5
  obtain ⟨k2, o4, hk2, h10, h11, h12⟩ := hlive j o2 s' b c2 h3 h4 h6
  obtain ⟨hkk, hss⟩ := hr.heap.inj k1 k2 o3 o4 s s' b c1 c2 h7 h8 h10 h11 h9 h12
  subst hkk
  exact ⟨nodupB_out hn i j k1 hk1 hk2, hss⟩
 ·have := preB_out hp i hi
  simp only [locRen, this]
  exact hr.base i hi
 ·rcases Nat.eq_zero_or_pos N.n0 with h | h
  ·omega
  ·have := preB_out hp (N.n0 - 1) (by omega)
   have := (List.getElem?_eq_some_iff.1 this).1
   omega
 ·have key : ∀ (l : List (Nat × AV)), SlotsSub st ids l → RepA (ctx e st'.objs (locRen loc ids) w) (look l t) (a.tmps.getD t undef) := by
   intro l
   induction l with
   | nil => intro _; simp [look, RepA, RepC]
   | cons p r ih =>
    obtain ⟨u, v⟩ := p
    intro hs
    rw [look_cons]
    by_cases hu : u = t
    ·subst hu
     rw [if_pos rfl]
     exact hA _ v _ hs.1 (hr.slot u)
    ·rw [if_neg hu]
     exact ih hs.2
  exact key st'.slots hs
theorem Sub.refl (N : Fr) (st : St) : Sub N st st := fun e loc a w hr => ⟨loc, hr⟩
theorem Sub.trans {N : Fr} {a b c : St} (h : Sub N a b) (k : Sub N b c) : Sub N a c := fun e loc x w hr => by
 obtain ⟨l1, h1⟩ := h e loc x w hr
 exact k e l1 x w h1
theorem SOps.sub {P : Program} {N : Fr} {ops : Array Oper} {l : List Nat} {st st' : St} {K : St → Prop} (hs : Sub N st st') (h : SOps P N ops l st' K) : SOps P N ops l st K := by
 intro e loc a w hr
 obtain ⟨loc', hr'⟩ := hs e loc a w hr
 exact h e loc' a w hr'
end Go.Proofs.Ytoncfkdgddfnlaa.E
