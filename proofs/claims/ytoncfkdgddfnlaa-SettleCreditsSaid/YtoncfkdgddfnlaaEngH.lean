/- Functions: how they are entered, called, left. -/
import Derived.Test.YtoncfkdgddfnlaaEngG
namespace Go.Proofs.Ytoncfkdgddfnlaa.E
open Go Go.RowKit
set_option linter.unusedVariables false
def RepAL (x : Ctx) : List AV → List Value → Prop
 | [], [] => True
 | c :: cs, v :: vs => RepA x c v ∧ RepAL x cs vs
 | _, _ => False
theorem RepAL.length {x : Ctx} : ∀ {cs : List AV} {vs : List Value}, RepAL x cs vs → cs.length = vs.length
 | [], [], _ => rfl
 | _ :: cs, _ :: vs, hv => by simp [RepAL.length hv.2]
 | [], _ :: _, hv => hv.elim
 | _ :: _, [], hv => hv.elim
def SFun (P : Program) (f : FuncId) (objs : List Ob) (args : List AV) (post : AV → List Ob → Prop) : Prop :=
 ∀ (e : Env) (loc : Loc) (w : World) (vals : List Value), e.w0 = w → (∀ b, e.M b ↔ owned objs loc b) → (∀ i, e.l0 i = loc i) → HRep e objs loc w → RepAL (ctx e objs loc w) args vals →
  Calls P f vals.toArray w fun en w' => ∃ v r objs' loc', en = .returned v ∧ post r objs' ∧ HRep e objs' loc' w' ∧ RepA (ctx e objs' loc' w') r v ∧ objs.length ≤ objs'.length ∧ ∀ i, i < objs.length → loc' i = loc i
def argSlots : Nat → List AV → List (Nat × AV)
 | _, [] => []
 | i, a :: r => (i, a) :: argSlots (i + 1) r
theorem look_args {x : Ctx} : ∀ (args : List AV) (vals : List Value) (i t : Nat), RepAL x args vals → i ≤ t → RepA x (look (argSlots i args) t) (vals.getD (t - i) undef)
 | [], [], i, t, _, _ => by simp [argSlots, look, RepA, RepC]
 | a :: r, v :: vs, i, t, h, hi => by
  simp only [argSlots, look_cons]
  by_cases ht : i = t
  ·subst ht
   rw [if_pos rfl]
   simpa using h.1
  ·rw [if_neg ht]
   have := look_args r vs (i + 1) t h.2 (by omega)
   rw [show t - i = (t - (i + 1)) + 1 by omega]
   simpa using this
 | [], _ :: _, _, _, h, _ => h.elim
 | _ :: _, [], _, _, h, _ => h.elim
def ResA (P : Program) (N : Fr) (fn : Func) (st : St) (r : AV) : Prop :=
 ∀ (e : Env) (loc : Loc) (a : Act) (w : World), SRep e N st loc a w → ∃ v, (results fn a.tmps).run P w = .ok v w ∧ RepA (ctx e st.objs loc w) r v
def RetOk (P : Program) (N : Fr) (fn : Func) (post : AV → List Ob → Prop) (st : St) : Prop := ∃ st' r, Sub N st st' ∧ ResA P N fn st' r ∧ post r st'.objs
def retQ (P : Program) (N : Fr) (fn : Func) (post : AV → List Ob → Prop) : Exit → St → Prop
 | .ret, st => RetOk P N fn post st
 | .normal, st => RetOk P N fn post st
 | _, _ => False
theorem SFun.of {P : Program} {f : FuncId} {fn : Func} {c : Code} {objs : List Ob} {args : List AV} {post : AV → List Ob → Prop} {n : Nat} (hf : P.funcs[f]? = some fn) (hb : fn.body = some c) (hN : fn.ntmps = n) (hle : Nat.ble args.length n = true)
  (h : SCode P ⟨n, objs.length⟩ c ⟨argSlots 0 args, objs⟩ (retQ P ⟨n, objs.length⟩ fn post)) : SFun P f objs args post := by
 intro e loc w vals hw hM hl hr hA
 have hle := Nat.le_of_ble_eq_true hle
 have hlen := hA.length
 refine calls_of_wp hf hb ?_
 have hS : SRep (e.d []) ⟨n, objs.length⟩ ⟨argSlots 0 args, objs⟩ loc { tmps := vals.toArray ++ Array.replicate (fn.ntmps - vals.toArray.size) undef, defers := [] } w := by
  refine ⟨hr.d _, by simp [hN]; omega, fun i _ => (hl i).symm, Nat.le_refl _, rfl, fun t => ?_⟩
  have := look_args (x := ctx (e.d []) objs loc w) args vals 0 t hA (Nat.zero_le _)
  have e1 : (vals.toArray ++ Array.replicate (fn.ntmps - vals.toArray.size) undef).getD t undef = vals.getD (t - 0) undef := by
   rw [Array.getD_eq_getD_getElem?, List.getD_eq_getElem?_getD, Nat.sub_zero]
   rw [Array.getElem?_append]
   by_cases ht : t < vals.length
   ·simp [ht]
   ·simp only [List.size_toArray, ht, if_false]
    rw [List.getElem?_eq_none (by omega), Array.getElem?_replicate]
    split <;> rfl
  rw [e1]
  exact this
 refine wp_mono (h (e.d []) loc _ w hS) ?_
 intro ex a' w' hq
 obtain ⟨st', loc', hq, hr'⟩ := hq
 have fin : RetOk P ⟨n, objs.length⟩ fn post st' → a'.defers = [] ∧ ∃ v, (results fn a'.tmps).run P w' = .ok v w' ∧ ∃ v2 r objs2 loc2, Ending.returned v = .returned v2 ∧ post r objs2 ∧ HRep e objs2 loc2 w' ∧ RepA (ctx e objs2 loc2 w') r v2 ∧ objs.length ≤ objs2.length ∧ ∀ i, i < objs.length → loc2 i = loc i := by
  rintro ⟨st2, r, hsub, hres, hpost⟩
  obtain ⟨loc2, hr2⟩ := hsub (e.d []) loc' a' w' hr'
  obtain ⟨v, hv, hrep⟩ := hres (e.d []) loc2 a' w' hr2
  exact ⟨hr'.defers, v, hv, v, r, st2.objs, loc2, rfl, hpost, hr2.heap.d', hrep, hr2.n0le, fun i hi => (hr2.base i hi).trans (hl i)⟩
 cases ex with
 | normal => exact fin hq
 | ret => exact fin hq
 | exit id => exact hq.elim
 | goto l => exact hq.elim
 | panic c => exact hq.elim
 | outgrown => exact hq.elim
def ResV (P : Program) (st : St) : ResultVar → V1 → Prop
 | .tmp t, v => look st.slots t = v.av
 | .cell t ty, .a cs => ∃ id, look st.slots t = .c (.ptr id 0) ∧ st.objs[id]? = some (.box cs) ∧ tyB P ty true cs.length = true
 | .cell t ty, .c c => ∃ id, look st.slots t = .c (.ptr id 0) ∧ st.objs[id]? = some (.box [c]) ∧ tyB P ty false 1 = true
def resRun (tmps : Array Value) : ResultVar → Sem Value
 | .tmp t => pure (tmps.getD t undef)
 | .cell a t => do loadVar t (← asAddr (tmps.getD a undef))
theorem resV_run {P : Program} {N : Fr} {st : St} {rv : ResultVar} {v : V1} (h : ResV P st rv v) {e : Env} {loc : Loc} {a : Act} {w : World} (hr : SRep e N st loc a w) :
  ∃ u, (resRun a.tmps rv).run P w = .ok u w ∧ RepV1 (ctx e st.objs loc w) v u := by
 cases rv with
 | tmp t =>
  have h1 := hr.slot t
  rw [show look st.slots t = v.av from h] at h1
  refine ⟨_, rfl, ?_⟩
  cases v <;> exact h1
 | cell t ty =>
  cases v with
  | a cs =>
   obtain ⟨id, h1, h2, h3⟩ := h
   have h4 := hr.slot t
   rw [h1] at h4
   obtain ⟨_, _, b, c, hl, hv⟩ := h4
   obtain ⟨b2, c2, arr, T, hl2, hh, hL⟩ := hr.heap.box h2
   have hl' : loc id = some (b, c) := hl
   rw [hl'] at hl2
   cases hl2
   have := run_loadVarN h3 w b 0 arr.toList (by rw [← hL.length]) (fun m v hm => by rw [cell_of_heap hh, Nat.zero_add]; simpa using hm)
   refine ⟨.agg arr, ?_, arr, rfl, hL⟩
   simp only [resRun, hv, asAddr, Sem.run_bind, Sem.run_pure, Result.andThen_ok, this]
  | c c0 =>
   obtain ⟨id, h1, h2, h3⟩ := h
   have h4 := hr.slot t
   rw [h1] at h4
   obtain ⟨_, _, b, c, hl, hv⟩ := h4
   obtain ⟨b2, c2, arr, T, hl2, hh, hL⟩ := hr.heap.box h2
   have hl' : loc id = some (b, c) := hl
   rw [hl'] at hl2
   cases hl2
   obtain ⟨v, hv2, hrep⟩ := hL.get 0 c0 rfl
   have hcell : w.cell? ⟨b, 0, none⟩ = some v := by rw [cell_of_heap hh]; simpa using hv2
   refine ⟨v, ?_, hrep⟩
   simp only [resRun, hv, asAddr, Sem.run_bind, Sem.run_pure, Result.andThen_ok, run_loadVar1 h3 w _ _ hcell]
theorem results_eq (fn : Func) (tmps : Array Value) : results fn tmps = (do
  let vs ← fn.results.mapM (resRun tmps)
  pure (if h : vs.size = 1 then vs[0] else .tuple vs)) := by
 unfold results
 congr 1
theorem resA1 {P : Program} {N : Fr} {fn : Func} {st : St} {rv : ResultVar} {v : V1} (hfn : fn.results = #[rv]) (h : ResV P st rv v) : ResA P N fn st v.av := by
 intro e loc a w hr
 obtain ⟨u, h1, h2⟩ := resV_run h hr
 refine ⟨u, ?_, by cases v <;> exact h2⟩
 rw [results_eq, hfn]
 simp [Array.mapM_eq_mapM_toList, h1]
theorem resA2 {P : Program} {N : Fr} {fn : Func} {st : St} {r1 r2 : ResultVar} {v1 v2 : V1} (hfn : fn.results = #[r1, r2]) (h1 : ResV P st r1 v1) (h2 : ResV P st r2 v2) : ResA P N fn st (.t [v1, v2]) := by
 intro e loc a w hr
 obtain ⟨u1, g1, k1⟩ := resV_run h1 hr
 obtain ⟨u2, g2, k2⟩ := resV_run h2 hr
 refine ⟨.tuple #[u1, u2], ?_, _, rfl, k1, k2, trivial⟩
 rw [results_eq, hfn]
 simp [Array.mapM_eq_mapM_toList, g1, g2]
def V1.pers : V1 → Bool
 | .c x => x.pers
 | .a l => l.all Cell.pers
def AV.pers : AV → Bool
 | .c x => x.pers
 | .a l => l.all Cell.pers
 | .t l => l.all V1.pers
theorem RepC.tr {x x' : Ctx} (hw : x'.w = x.w) (hO : ∀ b, x'.O b → x.O b) : ∀ (c : Cell) (t t' : Bool) (v : Value), c.pers = true → RepC x t c v → RepC x' t' c v := by
 have hf : ∀ (c : Cell) (v : Value), RepC x false c v → RepC x' false c v := by
  intro c
  induction c with
  | vec n k get ih =>
   rintro v ⟨ad, c, rfl, hc, hp⟩
   refine ⟨ad, c, rfl, hc, fun hn hk => ?_⟩
   obtain ⟨b, off, rfl, hnO, hcell⟩ := hp hn hk
   refine ⟨b, off, rfl, fun h => hnO (hO b h), fun i hi j hj => ?_⟩
   obtain ⟨y, hy, hr⟩ := hcell i hi j hj
   exact ⟨y, by rw [hw]; exact hy, ih i j y hr⟩
  | eptr k get j ih =>
   rintro v ⟨hj, b, off, rfl, hnO, hcell⟩
   refine ⟨hj, b, off, rfl, fun h => hnO (hO b h), fun j' hj' => ?_⟩
   obtain ⟨y, hy, hr⟩ := hcell j' hj'
   exact ⟨y, by rw [hw]; exact hy, ih j' y hr⟩
  | own id len => rintro v ⟨ht, _⟩; cases ht
  | ptr id j => rintro v ⟨ht, _⟩; cases ht
  | aptr id k i j => rintro v ⟨ht, _⟩; cases ht
  | any => intro v h; exact h
  | int k n => intro v h; exact h
  | bool b => intro v h; exact h
  | str s => intro v h; exact h
  | raw u => intro v h; exact h
  | sub id lo n k => rintro v ⟨ht, _⟩; cases ht
  | mp id => rintro v ⟨ht, _⟩; cases ht
  | fnp f id => rintro v ⟨ht, _⟩; cases ht
  | fn f n get ih =>
   rintro v ⟨vals, rfl, hs, hg⟩
   refine ⟨vals, rfl, hs, fun j hj => ?_⟩
   obtain ⟨y, hy, hr⟩ := hg j hj
   exact ⟨y, hy, ih j y hr⟩
 intro c t t' v hp h
 have := hf c v (h.down hp)
 cases t'
 ·exact this
 ·exact this.up
theorem RepL.tr {x x' : Ctx} (hw : x'.w = x.w) (hO : ∀ b, x'.O b → x.O b) : ∀ (cs : List Cell) (vs : List Value), cs.all Cell.pers = true → RepL x true cs vs → RepL x' true cs vs
 | [], [], _, _ => trivial
 | c :: cs, v :: vs, hp, h => by
  simp only [List.all_cons, Bool.and_eq_true] at hp
  exact ⟨RepC.tr hw hO c _ _ v hp.1 h.1, RepL.tr hw hO cs vs hp.2 h.2⟩
 | [], _ :: _, _, h => h.elim
 | _ :: _, [], _, h => h.elim
theorem RepV1L.tr {x x' : Ctx} (hw : x'.w = x.w) (hO : ∀ b, x'.O b → x.O b) : ∀ (cs : List V1) (vs : List Value), cs.all V1.pers = true → RepV1L x cs vs → RepV1L x' cs vs
 | [], [], _, _ => trivial
 | c :: cs, v :: vs, hp, h => by
  simp only [List.all_cons, Bool.and_eq_true] at hp
  refine ⟨?_, RepV1L.tr hw hO cs vs hp.2 h.2⟩
  cases c with
  | c q => exact RepC.tr hw hO q _ _ v hp.1 h.1
  | a l => obtain ⟨us, rfl, hl⟩ := h.1; exact ⟨us, rfl, RepL.tr hw hO l _ hp.1 hl⟩
 | [], _ :: _, _, h => h.elim
 | _ :: _, [], _, h => h.elim
theorem RepA.tr {x x' : Ctx} (hw : x'.w = x.w) (hO : ∀ b, x'.O b → x.O b) (c : AV) (v : Value) (hp : c.pers = true) (h : RepA x c v) : RepA x' c v := by
 cases c with
 | c q => exact RepC.tr hw hO q _ _ v hp h
 | a l => obtain ⟨us, rfl, hl⟩ := h; exact ⟨us, rfl, RepL.tr hw hO l _ hp hl⟩
 | t l => obtain ⟨us, rfl, hl⟩ := h; exact ⟨us, rfl, RepV1L.tr hw hO l _ hp hl⟩
def fnB (P : Program) (f : FuncId) : Bool :=
 match P.funcs[f]? with
 | some fn => !(fn.name == "runtime.NumGoroutine") && fn.body.isSome
 | none => false
theorem run_callFunc {P : Program} {f : FuncId} (h : fnB P f = true) (args : Array Value) (w : World) : (callFunc f args).run P w = .ok (.enter f args) w := by
 unfold fnB at h
 split at h
 ·rename_i fn hf
  simp only [Bool.and_eq_true, Bool.not_eq_true'] at h
  obtain ⟨h1, h2⟩ := h
  have h3 : ¬ fn.body = none := by cases hb : fn.body <;> simp_all
  have h4 : ¬ fn.name = "runtime.NumGoroutine" := by simpa using h1
  simp [callFunc, program, Sem.run_bind, Sem.run, hf, h4, h3]
 ·cases h
def Lent (objs : List Ob) (ids : List Nat) (c c' : Cell) : Prop :=
 (c'.pers = true ∧ c = c') ∨ (∃ id T k n len get get', c = .own id len ∧ c' = .vec len k get' ∧ objs[id]? = some (.arr T k n get) ∧ len ≤ n ∧ (∀ i, i < len → ∀ j, j < k → get i j = get' i j) ∧ id ∈ ids) ∨
 (∃ k get', c = .raw (.slice none 0 0) ∧ c' = .vec 0 k get')
def LentA (objs : List Ob) (ids : List Nat) : AV → AV → Prop
 | a, .c c' => ∃ c, a = .c c ∧ Lent objs ids c c'
 | a, a' => a = a' ∧ a'.pers = true
def LentL (objs : List Ob) (ids : List Nat) : List AV → List AV → Prop
 | [], [] => True
 | a :: r, b :: r' => LentA objs ids a b ∧ LentL objs ids r r'
 | _, _ => False
def Cell.flat : Cell → Bool
 | .own .. => false
 | .ptr .. => false
 | .aptr .. => false
 | .vec .. => false
 | .eptr .. => false
 | .sub .. => false
 | .mp .. => false
 | .fnp .. => false
 | .fn .. => false
 | _ => true
def V1.flat : V1 → Bool
 | .c x => x.flat
 | .a l => l.all Cell.flat
def AV.flat : AV → Bool
 | .c x => x.flat
 | .a l => l.all Cell.flat
 | .t l => l.all V1.flat
theorem RepC.fl {x x' : Ctx} (c : Cell) (t t' : Bool) (v : Value) (hp : c.flat = true) (h : RepC x t c v) : RepC x' t' c v := by
 cases c <;> simp [Cell.flat] at hp <;> exact h
theorem RepL.fl {x x' : Ctx} : ∀ (cs : List Cell) (vs : List Value), cs.all Cell.flat = true → RepL x true cs vs → RepL x' true cs vs
 | [], [], _, _ => trivial
 | c :: cs, v :: vs, hp, h => by
  simp only [List.all_cons, Bool.and_eq_true] at hp
  exact ⟨RepC.fl c _ _ v hp.1 h.1, RepL.fl cs vs hp.2 h.2⟩
 | [], _ :: _, _, h => h.elim
 | _ :: _, [], _, h => h.elim
theorem RepV1L.fl {x x' : Ctx} : ∀ (cs : List V1) (vs : List Value), cs.all V1.flat = true → RepV1L x cs vs → RepV1L x' cs vs
 | [], [], _, _ => trivial
 | c :: cs, v :: vs, hp, h => by
  simp only [List.all_cons, Bool.and_eq_true] at hp
  refine ⟨?_, RepV1L.fl cs vs hp.2 h.2⟩
  cases c with
  | c q => exact RepC.fl q _ _ v hp.1 h.1
  | a l => obtain ⟨us, rfl, hl⟩ := h.1; exact ⟨us, rfl, RepL.fl l _ hp.1 hl⟩
 | [], _ :: _, _, h => h.elim
 | _ :: _, [], _, h => h.elim
theorem RepA.fl {x x' : Ctx} (c : AV) (v : Value) (hp : c.flat = true) (h : RepA x c v) : RepA x' c v := by
 cases c with
 | c q => exact RepC.fl q _ _ v hp h
 | a l => obtain ⟨us, rfl, hl⟩ := h; exact ⟨us, rfl, RepL.fl l _ hp hl⟩
 | t l => obtain ⟨us, rfl, hl⟩ := h; exact ⟨us, rfl, RepV1L.fl l _ hp hl⟩
section
variable {P : Program} {N : Fr} {o : Oper} {st : St} {d : Nat} {ev : Operand → AV} {objs : List Ob} {f : FuncId} {args : Array Operand} {tys : Array TypeId}
theorem exec_call (hfn : fnB P f = true) (ho : o.op = .call { callee := .value (.func f), args := args, argTypes := tys }) (a : Act) (w : World) :
  (execOp a.eval o).run P w = .ok (.enter f (args.toList.map a.eval).toArray) w := by
 have h1 : args.map a.eval = (args.toList.map a.eval).toArray := by apply Array.ext'; simp
 simp only [execOp, ho, resolve, Act.eval, Deferred.ofValue, Sem.run_bind, Sem.run_pure, Result.andThen_ok, invoke]
 simp [run_callFunc hfn, h1]
theorem call_vals {avs : List AV} {res : AV} (hf : SFun P f [] avs (fun r _ => r = res)) (ids : List Nat) {ws : List AV} {vals : List Value} {e : Env} {loc : Loc} {w : World} (hr : HRep e objs loc w)
  (hws : RepAL (ctx e objs loc w) ws vals) (ha : LentL objs ids ws avs) (hres : (ids.isEmpty && res.pers) = true ∨ res.flat = true) :
  Calls P f vals.toArray w fun en w' => ∃ v, en = .returned v ∧ Below w.heap.size w w' ∧ RepA (ctx e objs loc w') res v := by
 have hXlt : ∀ b, (e.X b ∨ owned objs loc b) → b < w.heap.size := by
  rintro b (hx | ⟨i, o', s, c, h1, h2, h3⟩)
  ·exact Nat.lt_of_lt_of_le (hr.xlt b hx).1 hr.keep.size
  ·exact (hr.fresh i o' s b c h1 h2 h3).1
 let X' : Nat → Prop := fun b => e.X b ∨ ∃ i o' s c, objs[i]? = some o' ∧ o'.has s = true ∧ loc.at i s = some (b, c) ∧ i ∉ ids
 have hX'O : ∀ b, X' b → e.X b ∨ owned objs loc b := by
  rintro b (hx | ⟨i, o', s, c, h1, h2, h3, _⟩)
  ·exact .inl hx
  ·exact .inr ⟨i, o', s, c, h1, h2, h3⟩
 let e' : Env := ⟨w, fun _ => False, X', loc.b, []⟩
 have hO' : ∀ b, (ctx e' [] loc w).O b → (ctx e objs loc w).O b := by
  rintro b (hx | ⟨i, o', s, c, h1, _⟩)
  ·exact hX'O b hx
  ·simp at h1
 have hr' : HRep e' [] loc w := ⟨Keep.refl _ _, fun b hb => ⟨hXlt b (hX'O b hb), fun h => h⟩, fun i o' h => by simp at h, fun i o' s b c h => by simp at h, fun i j o1 o2 s s' b c c' h => by simp at h⟩
 have hargs : RepAL (ctx e' [] loc w) avs vals := by
  have key : ∀ (ws avs : List AV) (vals : List Value), RepAL (ctx e objs loc w) ws vals → LentL objs ids ws avs → RepAL (ctx e' [] loc w) avs vals := by
   intro ws
   induction ws with
   | nil =>
    intro avs vals hv h
    cases avs with
    | nil => cases vals with
     | nil => trivial
     | cons _ _ => exact hv.elim
    | cons _ _ => exact h.elim
   | cons x l ih =>
    intro avs vals hv h
    cases vals with
    | nil => exact hv.elim
    | cons u vals =>
    cases avs with
    | nil => exact h.elim
    | cons av avs =>
     refine ⟨?_, ih avs vals hv.2 h.2⟩
     have h1 := hv.1
     have h2 := h.1
     cases av with
     | c c' =>
      obtain ⟨c, hc, hl⟩ := h2
      rw [hc] at h1
      rcases hl with ⟨hp, rfl⟩ | ⟨id, T, k, n, len, get, get', rfl, rfl, hob, hle, hgg, hid⟩ | ⟨k, get', rfl, rfl⟩
      ·exact RepC.tr (x := ctx e objs loc w) (x' := ctx e' [] loc w) rfl hO' _ true true _ hp h1
      ·obtain ⟨_, _, hm⟩ := h1
       cases hl : loc id with
       | none =>
        have : (ctx e objs loc w).loc id = none := hl
        rw [this] at hm
        obtain ⟨hv, h0⟩ := hm
        subst h0
        exact ⟨none, 0, hv, Nat.le_refl _, fun hn => absurd hn (Nat.lt_irrefl 0)⟩
       | some bc =>
        obtain ⟨b, c⟩ := bc
        have : (ctx e objs loc w).loc id = some (b, c) := hl
        rw [this] at hm
        have hm' : u = .slice (some ⟨b, 0, none⟩) len c := hm
        obtain ⟨arr, hh2, hsz, hnc, hcm, hg⟩ := hr.arr hob hl
        refine ⟨_, c, hm', Nat.le_trans hle hnc, fun hn0 hk0 => ⟨b, 0, rfl, ?_, fun i hi j hj => ?_⟩⟩
        ·rintro ((hx | ⟨i, o', s, c2, g1, g2, g3, g4⟩) | ⟨i, o', s, c2, g1, _⟩)
         ·exact hr.notX hob rfl hl hx
         ·have := (hr.inj i id o' _ s none b c2 c g1 g2 hob rfl g3 hl).1
          subst this
          exact g4 hid
         ·simp at g1
        ·obtain ⟨y, hy, hrep⟩ := hg i (by omega) j hj
         refine ⟨y, ?_, ?_⟩
         ·show w.cell? ⟨b, 0 + i * k + j, none⟩ = some y
          rw [cell_of_heap hh2, Nat.zero_add]; exact hy
         ·rw [← hgg i hi j hj]
          have hpg : (get i j).pers = true := by
           cases hgq : get i j with
           | own id len => rw [hgq] at hrep; obtain ⟨ht, _⟩ := hrep; cases ht
           | ptr id j => rw [hgq] at hrep; obtain ⟨ht, _⟩ := hrep; cases ht
           | aptr id k i j => rw [hgq] at hrep; obtain ⟨ht, _⟩ := hrep; cases ht
           | sub id lo n k => rw [hgq] at hrep; obtain ⟨ht, _⟩ := hrep; cases ht
           | mp id => rw [hgq] at hrep; obtain ⟨ht, _⟩ := hrep; cases ht
           | fnp f id => rw [hgq] at hrep; obtain ⟨ht, _⟩ := hrep; cases ht
           | _ => rfl
          exact RepC.tr (x := ctx e objs loc w) (x' := ctx e' [] loc w) rfl hO' _ false false _ hpg hrep
      ·have h1' : u = .slice none 0 0 := h1
       exact ⟨none, 0, h1', Nat.le_refl _, fun hn => absurd hn (Nat.lt_irrefl 0)⟩
     | a l' => obtain ⟨hc, hp⟩ := h2; rw [hc] at h1; exact RepA.tr (x := ctx e objs loc w) (x' := ctx e' [] loc w) rfl hO' _ _ hp h1
     | t l' => obtain ⟨hc, hp⟩ := h2; rw [hc] at h1; exact RepA.tr (x := ctx e objs loc w) (x' := ctx e' [] loc w) rfl hO' _ _ hp h1
  exact key ws avs vals hws ha
 have hcall := hf e' loc w _ rfl (fun b => ⟨fun h => h.elim, fun ⟨i, o', s, c, h, _⟩ => by simp at h⟩) (fun _ => rfl) hr' hargs
 refine hcall.mono ?_
 rintro en w' ⟨v, r, objs', loc', rfl, rfl, hr2, hrep, _, _⟩
 have hb : Below w.heap.size w w' := hr2.keep.toBelow
 refine ⟨v, rfl, hb, ?_⟩
 rcases hres with hres | hres
 ·simp only [Bool.and_eq_true] at hres
  refine RepA.tr (x := ctx e' objs' loc' w') (x' := ctx e objs loc w') rfl (fun b hb => ?_) _ _ hres.2 hrep
  rcases hb with hx | ⟨i, o', s, c, h1, h2, h3⟩
  ·exact .inl (.inl hx)
  ·refine .inl (.inr ⟨i, o', s, c, h1, h2, h3, ?_⟩)
   have : ids = [] := by simpa using hres.1
   subst this
   simp
 ·exact RepA.fl _ _ hres hrep
theorem RepAL.of_ops {x : Ctx} {ev : Operand → AV} {a : Act} : ∀ (l : List Operand), (∀ y ∈ l, RepA x (ev y) (a.eval y)) → RepAL x (l.map ev) (l.map a.eval)
 | [], _ => trivial
 | y :: l, h => ⟨h y (by simp), RepAL.of_ops l (fun z hz => h z (by simp [hz]))⟩
theorem RepAL.append {x : Ctx} : ∀ {a b : List AV} {u v : List Value}, RepAL x a u → RepAL x b v → RepAL x (a ++ b) (u ++ v)
 | [], _, [], _, _, h => h
 | _ :: _, _, _ :: _, _, h1, h2 => ⟨h1.1, RepAL.append h1.2 h2⟩
 | [], _, _ :: _, _, h, _ => h.elim
 | _ :: _, _, [], _, h, _ => h.elim
theorem q_call {avs : List AV} {res : AV} (hf : SFun P f [] avs (fun r _ => r = res)) (ids : List Nat) (ho : o.op = .call { callee := .value (.func f), args := args, argTypes := tys }) (hfn : fnB P f = true)
  (ha : LentL objs ids (args.toList.map ev) avs) (hres : (ids.isEmpty && res.pers) = true ∨ res.flat = true) : QOp P o ev objs res := by
 intro e loc w a hr hh K Q hK
 have hws := RepAL.of_ops (ev := ev) (a := a) args.toList (fun x hx => hh x (by simp [ho, Op.operands, Call.operands]; right; simpa using hx))
 have hcall := call_vals hf ids hr hws ha hres
 unfold Oper.wp
 rw [exec_call hfn ho, Oper.upon_enter]
 refine hcall.mono ?_
 rintro en w' ⟨v, rfl, hb, hrep⟩
 exact hK v w' hb hrep
end
end Go.Proofs.Ytoncfkdgddfnlaa.E
