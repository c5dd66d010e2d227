/- Plain law of chapter 18: what is feasible stays feasible with less energy, a greater limit and a later departure. -/
import Derived.Test.YtfefnffdocmlmaaPlainN
import Derived.Test.YtfefnffdocmlmaaPlainV
namespace Go.Proofs.Ytfefnffdocmlmaa.M
open Go Go.Proofs Go.Proofs.Ytfefnffdocmlmaa.E Go.Proofs.Ytfefnffdocmlmaa.W
set_option linter.unusedVariables false
set_option linter.unusedSimpArgs false
structure Grown (p q : SProblem) : Prop where
 par : q.Parents = p.Parents
 frm : q.From = p.From
 len : q.Length = p.Length
 nc : q.Caps.length = p.Caps.length
 nd : q.Demands.length = p.Demands.length
 row : ∀ t, t < p.Caps.length → (q.Caps.getD t []).length = (p.Caps.getD t []).length
 cap : ∀ t f, t < p.Caps.length → f < p.Parents.length → (p.Caps.getD t []).getD f 0 ≤ (q.Caps.getD t []).getD f 0 ∧ (q.Caps.getD t []).getD f 0 ≤ 1073741824
 dem : ∀ i, i < p.Demands.length → (D q i).Feeder = (D p i).Feeder ∧ (D q i).Max = (D p i).Max ∧ (D q i).Energy = (D p i).Energy ∧ (D q i).Arrive = (D p i).Arrive ∧ (D p i).Depart ≤ (D q i).Depart ∧ (D q i).Depart ≤ 268435456
section
variable {p q : SProblem}
theorem Grown.vp (g : Grown p q) (h : VP p) : VP q where
 np := by rw [g.par]; exact h.np
 nc := by rw [g.nc]; exact h.nc
 nd := by rw [g.nd]; exact h.nd
 nodes := by rw [g.nd, g.nc, g.par]; exact h.nodes
 p0 := by rw [g.par]; exact h.p0
 par := fun f hf => by unfold okPar; rw [g.par] at hf ⊢; exact h.par f hf
 caplen := fun t ht => by rw [g.nc] at ht; rw [g.row t ht, g.par]; exact h.caplen t ht
 cap := fun t ht f hf => by
  rw [g.nc] at ht
  rw [g.par] at hf
  have h1 := h.cap t ht f hf
  have h2 := g.cap t f ht hf
  unfold okCap at h1 ⊢
  omega
 from0 := by rw [g.frm]; exact h.from0
 len := by rw [g.len]; exact h.len
 last := by rw [g.frm, g.nc, g.len]; exact h.last
 dem := fun i hi => by
  rw [g.nd] at hi
  have h1 := h.dem i hi
  have h2 := g.dem i hi
  have h3 : q.Demands.getD i dSDemand = D q i := rfl
  have h4 : p.Demands.getD i dSDemand = D p i := rfl
  rw [h4] at h1
  rw [h3]
  unfold okDem at h1 ⊢
  rw [g.par]
  omega
theorem Grown.nod (g : Grown p q) (t f : Nat) : nod q t f = nod p t f := by unfold M.nod; rw [g.nd, g.par]
theorem Grown.use (g : Grown p q) {i : Nat} (hi : i < p.Demands.length) (t : Nat) : useA q i t = useA p i t := by
 have h2 := g.dem i hi
 unfold useA
 rw [g.nod, g.len, h2.1, h2.2.1]
theorem Grown.us (g : Grown p q) {i : Nat} (hi : i < p.Demands.length) (t : Nat) (h : us p (D p i) t = true) : us q (D q i) t = true := by
 have h2 := g.dem i hi
 unfold M.us at h ⊢
 rw [g.frm, g.len]
 have := of_decide_eq_true h
 exact decide_eq_true (by omega)
theorem Grown.up (g : Grown p q) (t f : Nat) : up q t f = up p t f := by unfold M.up; rw [g.par, g.nod]
theorem Grown.lim (g : Grown p q) (h : VP p) {t f : Nat} (ht : t < p.Caps.length) (hf : f < p.Parents.length) : lim p t f ≤ lim q t f := by
 have h1 := (g.cap t f ht hf).1
 have h2 := h.len
 have h3 : (p.Caps.getD t []).getD f 0 * p.Length ≤ (q.Caps.getD t []).getD f 0 * p.Length := Int.mul_le_mul_of_nonneg_right h1 (by omega)
 unfold M.lim
 rw [g.len]
 split <;> split <;> omega
theorem bI_le {b : Bool} {x y : Int} (h : x ≤ y) : bI b x ≤ bI b y := by
 cases b
 ·exact Int.le_refl _
 ·exact h
theorem Grown.sUs (g : Grown p q) (h : VP p) (X : Nat → Bool) {i : Nat} (hi : i < p.Demands.length) : ∀ t, sm (cg X) (Us p i t) ≤ sm (cg X) (Us q i t)
 | 0 => Int.le_refl _
 | t + 1 => by
  have ih := g.sUs h X hi t
  simp only [Us]
  rw [sm_append, sm_append]
  have h0 : 0 ≤ cg X (useA p i t) := by
   have := h.ml hi
   exact (bI_bd (M := (useA p i t).Cap) ⟨this.1, Int.le_refl _⟩).1
  have h1 : cg X (useA q i t) = cg X (useA p i t) := by rw [g.use hi]
  cases a : M.us p (D p i) t with
  | true =>
   rw [g.us hi t a]
   simp only [cond_true, sm]
   omega
  | false =>
   cases b : M.us q (D q i) t with
   | true => simp only [cond_true, cond_false, sm]; omega
   | false => simp only [cond_false, sm]; omega
theorem Grown.sAllU (g : Grown p q) (h : VP p) (X : Nat → Bool) : ∀ n, n ≤ p.Demands.length → sm (cg X) (AllU p n) ≤ sm (cg X) (AllU q n)
 | 0, _ => Int.le_refl _
 | n + 1, hn => by
  have ih := g.sAllU h X n (by omega)
  have h1 := g.sUs h X (show n < p.Demands.length by omega) p.Caps.length
  simp only [AllU]
  rw [sm_append, sm_append, g.nc]
  omega
theorem Grown.sFs (g : Grown p q) (h : VP p) (X : Nat → Bool) {t : Nat} (ht : t < p.Caps.length) : ∀ f, f ≤ p.Parents.length → sm (cg X) (Fs p t f) ≤ sm (cg X) (Fs q t f)
 | 0, _ => Int.le_refl _
 | f + 1, hf => by
  have ih := g.sFs h X ht f (by omega)
  have h1 : cg X (feedA p t f) ≤ cg X (feedA q t f) := by
   unfold cg feedA
   rw [g.nod, g.up]
   exact bI_le (g.lim h ht (by omega))
  simp only [Fs]
  rw [sm_append, sm_append]
  simp only [sm]
  omega
theorem Grown.sAllF (g : Grown p q) (h : VP p) (X : Nat → Bool) : ∀ t, t ≤ p.Caps.length → sm (cg X) (AllF p t) ≤ sm (cg X) (AllF q t)
 | 0, _ => Int.le_refl _
 | t + 1, ht => by
  have ih := g.sAllF h X t (by omega)
  have h1 := g.sFs h X (show t < p.Caps.length by omega) p.Parents.length (Nat.le_refl _)
  simp only [AllF]
  rw [sm_append, sm_append, g.par]
  omega
theorem Grown.fit (g : Grown p q) (h : VP p) {e : Nat → Int} (he : Fit p e) : Fit q e := fun X h0 h1 => by
 have h2 := he X h0 h1
 have h3 := g.sAllU h X _ (Nat.le_refl _)
 have h4 := g.sAllF h X _ (Nat.le_refl _)
 rw [g.nd]
 unfold CX at h2 ⊢
 rw [g.nd, g.nc]
 omega
end
def lift (x : Int) : Int := if 1073741824 < IntKind.wrap .i64 (x + 1000) then 1073741824 else IntKind.wrap .i64 (x + 1000)
theorem lift_bd {x : Int} (h : 0 ≤ x ∧ x ≤ 1073741824) : x ≤ lift x ∧ lift x ≤ 1073741824 := by
 unfold lift
 rw [Go.IntWalk.i64_in (x + 1000) (by omega)]
 split <;> omega
theorem grow_l (F : Nat) (p : SProblem) (i s : Int) (c : (List Int) × Int) (t : Nat) (ht : Int.tmod (IntKind.wrap .i64 s) ((p.Caps.length : Int)) = (t : Int)) (htl : t < p.Caps.length) (hl : (p.Caps.getD t []).length ≤ 32) : ∀ (k f : Nat) (o : List Int), o.length = (p.Caps.getD t []).length → f ≤ o.length → o.length < k + f →
  ∃ o' : List Int, o'.length = o.length ∧ (∀ g, g < o.length → o'.getD g 0 = if g < f then o.getD g 0 else lift (o.getD g 0)) ∧ chargenetlaw18_PlanGrows_l48 F p i s c k (f : Int) o = chargenetlaw18_PlanGrows_p34 F p i s c o'
 | 0, f, o, h0, h1, h2 => by omega
 | k + 1, f, o, h0, h1, h2 => by
  simp only [chargenetlaw18_PlanGrows_l48, chargenetlaw18_PlanGrows_b48, List.nil_append]
  rw [ht, Int.toNat_natCast, Int.toNat_natCast]
  by_cases hi : f < o.length
  ·rw [decide_eq_true (show (f : Int) < ((p.Caps.getD t []).length : Int) by omega), cond_true, guard_pos (show (0 : Int) ≤ (t : Int) ∧ (t : Int) < (p.Caps.length : Int) by omega), guard_pos (show (0 : Int) ≤ (t : Int) ∧ (t : Int) < (p.Caps.length : Int) by omega), guard_pos (show (0 : Int) ≤ (f : Int) ∧ (f : Int) < (o.length : Int) by omega), guard_pos (show (0 : Int) ≤ (f : Int) ∧ (f : Int) < (o.length : Int) by omega), wsucc f (by omega)]
   obtain ⟨o', k1, k2, k3⟩ := grow_l F p i s c t ht htl hl k (f + 1) (o.set f (lift (o.getD f 0))) (by simpa using h0) (by simp; omega) (by simp; omega)
   refine ⟨o', by simpa using k1, fun g hg => ?_, k3⟩
   have hs := getD_set o f g (lift (o.getD f 0)) 0
   by_cases a : g = f
   ·subst a
    rw [if_pos ⟨rfl, hg⟩] at hs
    rw [k2 g (by simpa using hg), if_pos (show g < g + 1 by omega), if_neg (show ¬ g < g by omega), hs]
   ·rw [if_neg (fun hh => a hh.1)] at hs
    rw [k2 g (by simpa using hg), hs]
    by_cases b : g < f
    ·rw [if_pos (show g < f + 1 by omega), if_pos b]
    ·rw [if_neg (show ¬ g < f + 1 by omega), if_neg b]
  ·rw [decide_eq_false (show ¬ (f : Int) < ((p.Caps.getD t []).length : Int) by omega), cond_false]
   exact ⟨o, rfl, fun g hg => by rw [if_pos (by omega)], rfl⟩
theorem u8mod (x : Int) (h : (Lit.int .u8 x).wf = true) (n : Nat) (hn : 0 < n) : ∃ k : Nat, Int.tmod (IntKind.wrap .i64 x) (n : Int) = (k : Int) ∧ k < n := by
 have : 0 ≤ x ∧ x < 256 := by
  simp [Lit.wf, IntKind.min, IntKind.max, IntKind.signed, IntKind.bits] at h
  omega
 rw [Go.IntWalk.i64_in _ (by omega)]
 have h3 := Int.tmod_nonneg (n : Int) this.1
 have h4 := Int.tmod_lt_of_pos x (show (0 : Int) < (n : Int) by omega)
 exact ⟨(Int.tmod x (n : Int)).toNat, by omega, by omega⟩
theorem grown_of {p : SProblem} (h : VP p) {t k : Nat} (ht : t < p.Caps.length) (hk : k < p.Demands.length) {o : List Int} (ho : o.length = (p.Caps.getD t []).length) (hg : ∀ g, g < (p.Caps.getD t []).length → o.getD g 0 = lift ((p.Caps.getD t []).getD g 0)) {d : SDemand} (hd : d.Feeder = (D p k).Feeder ∧ d.Max = (D p k).Max ∧ d.Energy = (D p k).Energy ∧ d.Arrive = (D p k).Arrive ∧ (D p k).Depart ≤ d.Depart ∧ d.Depart ≤ 268435456) :
  Grown p ⟨p.Parents, p.Caps.set t o, p.From, p.Length, p.Demands.set k d⟩ where
 par := rfl
 frm := rfl
 len := rfl
 nc := by simp
 nd := by simp
 row := fun u hu => by
  show ((p.Caps.set t o).getD u []).length = _
  rw [getD_set]
  by_cases a : u = t
  ·rw [if_pos ⟨a, ht⟩, a, ho]
  ·rw [if_neg (fun hh => a hh.1)]
 cap := fun u f hu hf => by
  have hc := h.cap u hu f hf
  have hl := h.caplen u hu
  unfold okCap at hc
  show _ ≤ ((p.Caps.set t o).getD u []).getD f 0 ∧ ((p.Caps.set t o).getD u []).getD f 0 ≤ _
  rw [getD_set]
  by_cases a : u = t
  ·subst a
   rw [if_pos ⟨rfl, ht⟩, hg f (by omega)]
   exact lift_bd hc
  ·rw [if_neg (fun hh => a hh.1)]
   exact ⟨Int.le_refl _, hc.2⟩
 dem := fun i hi => by
  have hdi := h.dem i hi
  unfold okDem at hdi
  unfold D at hd ⊢
  show ((p.Demands.set k d).getD i dSDemand).Feeder = _ ∧ ((p.Demands.set k d).getD i dSDemand).Max = _ ∧ ((p.Demands.set k d).getD i dSDemand).Energy = _ ∧ ((p.Demands.set k d).getD i dSDemand).Arrive = _ ∧ _ ≤ ((p.Demands.set k d).getD i dSDemand).Depart ∧ ((p.Demands.set k d).getD i dSDemand).Depart ≤ _
  rw [getD_set]
  by_cases a : i = k
  ·subst a
   rw [if_pos ⟨rfl, hk⟩]
   exact hd
  ·rw [if_neg (fun hh => a hh.1)]
   exact ⟨rfl, rfl, rfl, rfl, Int.le_refl _, by omega⟩
theorem plain_chargenetlaw18_PlanGrows (a0 : SProblem) (a1 : Int) (a2 : Int) (w0 : okSProblem a0) (w1 : (Lit.int .u8 a1).wf = true) (w2 : (Lit.int .u8 a2).wf = true) : ∃ F, chargenetlaw18_PlanGrows F a0 a1 a2 = some true := by
 refine ⟨FF, ?_⟩
 obtain ⟨b, h1, h2⟩ := small_eq FF FF_ge a0
 unfold chargenetlaw18_PlanGrows
 rw [h1, ex_ok]
 simp only [Option.bind_some]
 cases b with
 | false => rfl
 | true =>
  rw [Bool.not_true, cond_false]
  obtain ⟨hp, hv, hv2, _⟩ := h2 rfl
  have hnd := hp.nd
  have hnc := hp.nc
  have hnp := hp.np
  by_cases c1 : (a0.Demands.length : Int) = 0
  ·rw [decide_eq_true c1]; rfl
  by_cases c2 : (a0.Caps.length : Int) = 0
  ·rw [decide_eq_false c1, decide_eq_true c2]; rfl
  rw [decide_eq_false c1, decide_eq_false c2, cond_false, cond_false]
  obtain ⟨fit, hf⟩ := fit_ex a0
  obtain ⟨r, r1, r2, _⟩ := pfair_eq hp FF FF_ge hv hf
  have hl := r2.1.len
  rw [r1, Option.bind_some]
  simp only [List.nil_append, List.length_nil]
  obtain ⟨k, hk1, hk2⟩ := u8mod a1 w1 r.length (by omega)
  obtain ⟨t, ht1, ht2⟩ := u8mod a2 w2 a0.Caps.length (by omega)
  rw [hk1, ht1, Int.toNat_natCast, Int.toNat_natCast, decide_eq_true (show (r.length : Int) = (a0.Demands.length : Int) by omega), decide_eq_true (show True from trivial), Bool.not_true, cond_false, cond_false]
  have hbk := r2.1.bd k (by omega)
  have hck := (En_caps hp).bd k (by omega)
  have hrow := hp.caplen t ht2
  have hh : 0 ≤ Int.tdiv (r.getD k 0) 2 ∧ Int.tdiv (r.getD k 0) 2 ≤ r.getD k 0 := by
   rw [Int.tdiv_eq_ediv_of_nonneg hbk.1]; omega
  rw [Go.IntWalk.i64_in (Int.tdiv (r.getD k 0) 2) (by omega)]
  obtain ⟨b1, q1, f1, _, f3, f4⟩ := feasible_eq hp FF FF_ge hv hv2 (r.set k (Int.tdiv (r.getD k 0) 2))
  have hen := (box_en hp r2.1).2
  have hq1 : q1 = 0 := f3.2 ⟨by simpa using hl, fun j hj => by
   rw [getD_set]
   split
   ·omega
   ·exact hen j (by simpa using hj)⟩
  have hfit : Fit a0 (ev r) := (hf r).1 r2.2.1
  have hb1 : b1 = true := (f4 hq1).2 (hfit.le fun i hi => by
   unfold ev
   rw [getD_set]
   split
   ·next hh2 => rw [hh2.1]; exact hh.2
   ·exact Int.le_refl _)
  rw [f1, hb1, Option.bind_some, Bool.not_true, cond_false, guard_pos (by omega), guard_pos (by omega), guard_pos (by omega), guard_pos (by omega), guard_pos (by omega), guard_pos (by omega), guard_pos (by omega), guard_pos (by omega), guard_pos (by omega), guard_pos (by omega)]
  obtain ⟨o, o1, o2, o3⟩ := grow_l FF a0 a1 a2 (r, 0) t ht1 ht2 (by omega) FF 0 (a0.Caps.getD t []) rfl (by omega) (by have := FF_ge; omega)
  rw [show ((0 : Nat) : Int) = 0 from rfl] at o3
  rw [o3]
  unfold chargenetlaw18_PlanGrows_p34
  simp only [List.nil_append, List.length_nil]
  rw [hk1, ht1, Int.toNat_natCast, Int.toNat_natCast, guard_pos (by omega), guard_pos (by omega), guard_pos (by omega)]
  have hdk := hp.dem k (by omega)
  have hD : a0.Demands.getD k dSDemand = D a0 k := rfl
  have hlen := hp.len
  rw [hD] at hdk ⊢
  unfold okDem at hdk
  rw [Go.IntWalk.i64_in ((D a0 k).Depart + a0.Length) (by omega)]
  generalize hx : (if 268435456 < (D a0 k).Depart + a0.Length then 268435456 else (D a0 k).Depart + a0.Length) = x
  have hx2 : (D a0 k).Depart ≤ x ∧ x ≤ 268435456 := by rw [← hx]; split <;> omega
  have hgr := grown_of hp ht2 (show k < a0.Demands.length by omega) o1 (fun g hg => by rw [o2 g hg, if_neg (by omega)]) (d := ⟨(D a0 k).Feeder, (D a0 k).Max, (D a0 k).Energy, (D a0 k).Arrive, x⟩) ⟨rfl, rfl, rfl, rfl, hx2⟩
  have hqv := hgr.vp hp
  obtain ⟨b2, q2, g1, _, g3, g4⟩ := feasible_eq hqv FF FF_ge hqv.valid.1 hqv.valid.2 r
  have hq2 : q2 = 0 := g3.2 ⟨by rw [hgr.nd]; exact hl, hen⟩
  have hb2 : b2 = true := (g4 hq2).2 (hgr.fit hp hfit)
  rw [g1, hb2]
  rfl
end Go.Proofs.Ytfefnffdocmlmaa.M
