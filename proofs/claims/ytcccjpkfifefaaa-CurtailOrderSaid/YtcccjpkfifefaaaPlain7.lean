/- The plain law of CurtailOrder: the order in which events are put does not matter. -/
import Derived.Test.YtcccjpkfifefaaaPlainD
namespace Go.Proofs.Ytcccjpkfifefaaa.M
open Go Go.Proofs.Ytcccjpkfifefaaa.E Go.Proofs.Ytcccjpkfifefaaa.W
set_option linter.unusedVariables false
set_option linter.unusedSimpArgs false

/-- The event is right. -/
def V (c : SCurtail) : Prop := curtail_check 1000 c 32 = some 0

theorem put_V (l : List SCurtail) (hl : l.length ≤ 64) (c : SCurtail) : (V c ∧ curtail_Put 1000 l c = some (putS l c)) ∨ (¬ V c ∧ ∃ e, e ≠ 0 ∧ curtail_Put 1000 l c = some (l, e)) := by
  unfold curtail_Put V
  obtain ⟨e, he⟩ := check_total c 32
  rw [he]
  simp only [Option.bind_some]
  by_cases h0 : e = 0
  · subst h0
    have h1 := put_l29 l hl c 1000 0 (by omega) (by have := pos_le c l; omega)
    simp only [Int.natCast_zero] at h1
    exact .inl ⟨rfl, by simpa using h1⟩
  · simp only [h0, decide_false, Bool.not_false, cond_true]
    exact .inr ⟨fun h => h0 (by simpa using h), e, h0, rfl⟩

/-- No two different events of l have the same name and version. -/
def Uq (l : List SCurtail) : Prop := ∀ x ∈ l, ∀ y ∈ l, x.Name = y.Name → x.Version = y.Version → x = y

/-- a is what is left of the events of p. -/
structure Left (p a : List SCurtail) : Prop where
  srt : Srt a
  mem : ∀ u ∈ a, u ∈ p ∧ V u
  top : ∀ w ∈ p, V w → ∃ u ∈ a, u.Name = w.Name ∧ w.Version ≤ u.Version

theorem srt_name {a : List SCurtail} (h : Srt a) : ∀ x ∈ a, ∀ y ∈ a, x.Name = y.Name → x = y := by
  intro x hx y hy he
  obtain ⟨i, hi, rfl⟩ := List.getElem_of_mem hx
  obtain ⟨j, hj, rfl⟩ := List.getElem_of_mem hy
  rcases Nat.lt_trichotomy i j with hij | hij | hij
  · have := List.pairwise_iff_getElem.1 h i j hi hj hij
    rw [he, sLt_irrefl] at this; cases this
  · subst hij; rfl
  · have := List.pairwise_iff_getElem.1 h j i hj hi hij
    rw [he, sLt_irrefl] at this; cases this

theorem srt_nodup {a : List SCurtail} (h : Srt a) : a.Nodup :=
  h.imp (fun h he => by rw [he, sLt_irrefl] at h; cases h)

theorem left_sub {p q a b : List SCurtail} (hu : Uq q) (hpq : ∀ x, x ∈ p ↔ x ∈ q) (ha : Left p a) (hb : Left q b) : ∀ u ∈ a, u ∈ b := by
  intro u hua
  obtain ⟨hp, hV⟩ := ha.mem u hua
  obtain ⟨v, hv, h1, h2⟩ := hb.top u ((hpq u).1 hp) hV
  obtain ⟨hq, hVv⟩ := hb.mem v hv
  obtain ⟨x, hx, h3, h4⟩ := ha.top v ((hpq v).2 hq) hVv
  have hxu : x = u := srt_name ha.srt x hx u hua (by rw [h3, h1])
  subst hxu
  have : v = x := hu v hq x ((hpq x).1 hp) h1 (by omega)
  rw [← this]; exact hv

theorem left_eq {p q a b : List SCurtail} (hu : Uq q) (hpq : ∀ x, x ∈ p ↔ x ∈ q) (ha : Left p a) (hb : Left q b) : a = b := by
  have hup : Uq p := fun x hx y hy => hu x ((hpq x).1 hx) y ((hpq y).1 hy)
  refine List.Perm.eq_of_pairwise (le := fun x y : SCurtail => sLt x.Name y.Name = true) (fun x y _ _ h1 h2 => ?_) ha.srt hb.srt ((List.perm_ext_iff_of_nodup (srt_nodup ha.srt) (srt_nodup hb.srt)).2 fun u => ⟨left_sub hu hpq ha hb u, left_sub hup (fun x => (hpq x).symm) hb ha u⟩)
  have := sLt_trans h1 h2
  rw [sLt_irrefl] at this; cases this

theorem left_len {p a : List SCurtail} (h : Left p a) : a.length ≤ p.length :=
  List.Nodup.length_le_of_subset (srt_nodup h.srt) (fun u hu => (h.mem u hu).1)

theorem pos_found (a : List SCurtail) (hs : Srt a) (c u : SCurtail) (hu : u ∈ a) (he : u.Name = c.Name) : ∃ h : pos c a < a.length, a[pos c a]'h = u := by
  obtain ⟨j, hj, rfl⟩ := List.getElem_of_mem hu
  have h1 : ¬ j < pos c a := fun h => by
    have := pos_lt c a j hj h
    rw [he, sLt_irrefl] at this; cases this
  have h2 : pos c a < a.length := by omega
  refine ⟨h2, ?_⟩
  rcases Nat.lt_or_eq_of_le (show pos c a ≤ j by omega) with h3 | h3
  · have h4 := List.pairwise_iff_getElem.1 hs (pos c a) j h2 hj h3
    rw [he] at h4
    rw [pos_at c a h2] at h4; cases h4
  · simp [h3]

theorem left_put (l p a : List SCurtail) (c : SCurtail) (hu : Uq l) (hpl : ∀ x ∈ p, x ∈ l) (hc : c ∈ l) (hV : V c) (h : Left p a) (hlen : a.length < 64) : (putS a c).2 = 0 ∧ Left (p ++ [c]) (putS a c).1 ∨ (putS a c).2 ≠ 0 ∧ (putS a c).1 = a ∧ Left (p ++ [c]) a := by
  have hold : (∃ u ∈ a, u.Name = c.Name ∧ c.Version ≤ u.Version) → Left (p ++ [c]) a := by
    rintro ⟨u, hu1, hu2, hu3⟩
    refine ⟨h.srt, fun x hx => ⟨List.mem_append.2 (.inl (h.mem x hx).1), (h.mem x hx).2⟩, fun w hw hVw => ?_⟩
    rcases List.mem_append.1 hw with hw | hw
    · exact h.top w hw hVw
    · simp only [List.mem_singleton] at hw
      subst hw
      exact ⟨u, hu1, hu2, hu3⟩
  have hnew : ∀ b : List SCurtail, Srt b → (∀ x, x ∈ b → x = c ∨ x ∈ a) → c ∈ b → (∀ x ∈ a, x.Name ≠ c.Name → x ∈ b) → (∀ x ∈ a, x.Name = c.Name → x.Version ≤ c.Version) → Left (p ++ [c]) b := by
    intro b h1 h2 h3 h4 h5
    refine ⟨h1, fun x hx => ?_, fun w hw hVw => ?_⟩
    · rcases h2 x hx with rfl | hx
      · exact ⟨by simp, hV⟩
      · exact ⟨List.mem_append.2 (.inl (h.mem x hx).1), (h.mem x hx).2⟩
    · rcases List.mem_append.1 hw with hw | hw
      · obtain ⟨u, hu1, hu2, hu3⟩ := h.top w hw hVw
        by_cases hn : u.Name = c.Name
        · exact ⟨c, h3, by rw [← hn, hu2], by have := h5 u hu1 hn; omega⟩
        · exact ⟨u, h4 u hu1 hn, hu2, hu3⟩
      · simp only [List.mem_singleton] at hw
        subst hw
        exact ⟨w, h3, rfl, Int.le_refl _⟩
  by_cases hex : ∃ u ∈ a, u.Name = c.Name
  · obtain ⟨u, hua, hun⟩ := hex
    obtain ⟨hk, hke⟩ := pos_found a h.srt c u hua hun
    have hseq : sEq (a[pos c a]'hk).Name c.Name = true := by rw [hke, sEq_iff]; exact hun
    have hsv := putS a c
    have huniq : ∀ x ∈ a, x.Name = c.Name → x = u := fun x hx hn => srt_name h.srt x hx u hua (by rw [hn, hun])
    unfold putS
    rw [dif_pos hk, if_pos hseq, hke]
    by_cases q1 : c.Version < u.Version
    · rw [if_pos q1]
      exact .inr ⟨(fun h => by cases h), rfl, hold ⟨u, hua, hun, by omega⟩⟩
    · rw [if_neg q1]
      by_cases q2 : u.Version < c.Version
      · rw [if_pos q2]
        refine .inl ⟨rfl, hnew _ ?_ ?_ ?_ ?_ ?_⟩
        · have hps : (putS a c) = (a.set (pos c a) c, 0) := by
            unfold putS
            rw [dif_pos hk, if_pos hseq, hke, if_neg q1, if_pos q2]
          obtain ⟨m, g1, g2, g3, _, g5, g6, _⟩ := putS_shape a h.srt c (by rw [hps])
          rw [hps] at g3
          simp only at g3
          rw [g3]
          unfold Srt
          rw [List.pairwise_append]
          refine ⟨h.srt.take, ?_, ?_⟩
          · rw [List.pairwise_cons]
            exact ⟨g6, h.srt.drop⟩
          · intro x hx y hy
            rcases List.mem_cons.1 hy with rfl | hy
            · exact g5 x hx
            · exact sLt_trans (g5 x hx) (g6 y hy)
        · intro x hx
          rcases List.mem_or_eq_of_mem_set hx with h | h
          · exact .inr h
          · exact .inl h
        · exact List.mem_set hk c
        · intro x hx hn
          obtain ⟨j, hj, rfl⟩ := List.getElem_of_mem hx
          have hjk : pos c a ≠ j := fun hjk => by
            subst hjk
            exact hn (by rw [hke]; exact hun)
          have : (a.set (pos c a) c)[j]'(by simpa using hj) = a[j] := List.getElem_set_ne hjk (by simpa using hj)
          rw [← this]
          exact List.getElem_mem _
        · intro x hx hn
          rw [huniq x hx hn]; omega
      · rw [if_neg q2]
        have hcu : c = u := hu c hc u (hpl u (h.mem u hua).1) hun.symm (by omega)
        rw [if_pos (by rw [hcu]; exact eqS_self u)]
        exact .inl ⟨rfl, hold ⟨u, hua, hun, by omega⟩⟩
  · have hps : putS a c = (a.take (pos c a) ++ c :: a.drop (pos c a), 0) := by
      unfold putS
      by_cases hk : pos c a < a.length
      · rw [dif_pos hk]
        have : ¬ sEq (a[pos c a]'hk).Name c.Name = true := fun hh => hex ⟨_, List.getElem_mem hk, (sEq_iff _ _).1 hh⟩
        rw [if_neg this, if_neg (by omega)]
      · rw [dif_neg hk, if_neg (by omega)]
    obtain ⟨m, g1, g2, g3, _, g5, g6, _⟩ := putS_shape a h.srt c (by rw [hps])
    have hmem : ∀ x, x ∈ a.take (pos c a) ++ c :: a.drop (pos c a) ↔ x = c ∨ x ∈ a := by
      intro x
      rw [List.mem_append, List.mem_cons]
      constructor
      · rintro (h | h | h)
        · exact .inr (List.mem_of_mem_take h)
        · exact .inl h
        · exact .inr (List.mem_of_mem_drop h)
      · rintro (h | h)
        · exact .inr (.inl h)
        · rw [← List.take_append_drop (pos c a) a, List.mem_append] at h
          exact h.elim .inl (fun h => .inr (.inr h))
    rw [hps]
    refine .inl ⟨rfl, hnew _ ?_ (fun x hx => (hmem x).1 hx) ((hmem c).2 (.inl rfl)) (fun x hx _ => (hmem x).2 (.inr hx)) (fun x hx hn => absurd ⟨x, hx, hn⟩ hex)⟩
    rw [hps] at g3
    have g3' : a.take (pos c a) ++ c :: a.drop (pos c a) = a.take (pos c a) ++ c :: a.drop m := g3
    rw [g3']
    unfold Srt
    rw [List.pairwise_append]
    refine ⟨h.srt.take, ?_, ?_⟩
    · rw [List.pairwise_cons]
      exact ⟨g6, h.srt.drop⟩
    · intro x hx y hy
      rcases List.mem_cons.1 hy with rfl | hy
      · exact g5 x hx
      · exact sLt_trans (g5 x hx) (g6 y hy)

theorem build_left (l : List SCurtail) (hl : l.length ≤ 64) (hu : Uq l) : ∀ (n t : Nat) (a : List SCurtail), Left (l.take t) a → t ≤ l.length → l.length < n + t → ∃ r, chargenetlaw13_build_l23 1000 l n a (t : Int) = some (r, true) ∧ Left l r
  | 0, t, a, hi, h1, h2 => by omega
  | n + 1, t, a, hi, h1, h2 => by
    simp only [chargenetlaw13_build_l23, chargenetlaw13_build_b23]
    by_cases ht : t < l.length
    · have e1 : decide ((t : Int) < (l.length : Int)) = true := by simpa using ht
      have hal : a.length < 64 := by have := left_len hi; rw [List.length_take] at this; omega
      have hst : ∃ r : List SCurtail × Int, curtail_Put 1000 a l[t] = some r ∧ Left (l.take (t + 1)) r.1 ∧ (r.2 ≠ 0 → r.1 = a) := by
        rw [List.take_succ_eq_append_getElem ht]
        rcases put_V a (by omega) l[t] with ⟨hV, hp⟩ | ⟨hV, e, he, hp⟩
        · refine ⟨_, hp, ?_⟩
          rcases left_put l (l.take t) a l[t] hu (fun x hx => List.mem_of_mem_take hx) (List.getElem_mem ht) hV hi hal with ⟨h3, h4⟩ | ⟨h3, h4, h5⟩
          · exact ⟨h4, fun h => absurd h3 h⟩
          · exact ⟨by rw [h4]; exact h5, fun _ => h4⟩
        · have key : Left (l.take t ++ [l[t]]) a := by
            refine ⟨hi.srt, fun x hx => ⟨List.mem_append.2 (.inl (hi.mem x hx).1), (hi.mem x hx).2⟩, fun w hw hVw => ?_⟩
            rcases List.mem_append.1 hw with hw | hw
            · exact hi.top w hw hVw
            · simp only [List.mem_singleton] at hw
              subst hw; exact absurd hVw hV
          exact ⟨_, hp, key, fun _ => rfl⟩
      obtain ⟨r, h3, hi2, h5⟩ := hst
      obtain ⟨q, hq, hqi⟩ := build_left l hl hu n (t + 1) r.1 hi2 (by omega) (by omega)
      have h28 : chargenetlaw13_build_p28 (t : Int) (fun out_12 t10_13 => chargenetlaw13_build_l23 1000 l n out_12 t10_13) r = some (q, true) := by
        unfold chargenetlaw13_build_p28
        rw [wsucc t (by omega)]; exact hq
      rw [e1, cond_true, guard_pos (by omega), getD_nat l _ t ht, h3, Option.bind_some, h28]
      by_cases h0 : r.2 = 0
      · rw [show decide (r.2 = 0) = true by simpa using h0]; exact ⟨q, rfl, hqi⟩
      · rw [show decide (r.2 = 0) = false by simpa using h0, h5 h0, equal_self a (by omega)]
        exact ⟨q, rfl, hqi⟩
    · have e1 : decide ((t : Int) < (l.length : Int)) = false := by simp; omega
      rw [e1, cond_false]
      rw [List.take_of_length_le (by omega)] at hi
      exact ⟨a, rfl, hi⟩

theorem build_order (l : List SCurtail) (hl : l.length ≤ 64) (hu : Uq l) : ∃ r, chargenetlaw13_build 1000 l = some (r, true) ∧ Left l r := by
  have := build_left l hl hu 1000 0 [] ⟨List.Pairwise.nil, (fun u hu => by cases hu), (fun w hw => by simp at hw)⟩ (by omega) (by omega)
  unfold chargenetlaw13_build
  simpa only [Int.natCast_zero] using this

theorem order_end (l m : List SCurtail) (hl : l.length ≤ 64) (hu : Uq l) (hp : m.Perm l) : chargenetlaw13_CurtailOrder_p19 1000 l m = some true := by
  have hum : Uq m := fun x hx y hy => hu x (hp.mem_iff.1 hx) y (hp.mem_iff.1 hy)
  obtain ⟨a, ha, hla⟩ := build_order l hl hu
  obtain ⟨b, hb, hlb⟩ := build_order m (by rw [hp.length_eq]; exact hl) hum
  have : a = b := left_eq hum (fun x => hp.mem_iff.symm) hla hlb
  subst this
  have hal := left_len hla
  unfold chargenetlaw13_CurtailOrder_p19
  rw [ha, hb]
  simp only [Option.bind_some, cond_true]
  rw [equal_self a (by omega), example_ok]
  rfl

theorem u8wrap (x : Int) (h : (Lit.int .u8 x).wf = true) : IntKind.wrap .i64 x = x ∧ 0 ≤ x := by
  have : 0 ≤ x ∧ x < 256 := by
    simp [Lit.wf, IntKind.min, IntKind.max, IntKind.signed, IntKind.bits] at h
    omega
  exact ⟨Go.IntWalk.i64_in _ (by omega), this.1⟩

theorem swap_l (l : List SCurtail) (hl : l.length ≤ 64) (hu : Uq l) (order : List Int) (ho : ∀ x ∈ order, (Lit.int .u8 x).wf = true) (c4 : List SCurtail) (hc4 : c4.length = l.length) : ∀ (n t : Nat) (m : List SCurtail), t ≤ l.length → l.length < n + t → m.Perm l →
    chargenetlaw13_CurtailOrder_l42 1000 l order c4 n (t : Int) m = some true
  | 0, t, m, h1, h2, _ => by omega
  | n + 1, t, m, h1, h2, hm => by
    simp only [chargenetlaw13_CurtailOrder_l42, chargenetlaw13_CurtailOrder_b42, chargenetlaw13_CurtailOrder_p45]
    have hml := hm.length_eq
    by_cases ht : t < l.length
    · have e1 : decide ((t : Int) < (c4.length : Int)) = true := by simp; omega
      rw [e1, cond_true, wsucc t (by omega)]
      by_cases hto : t < order.length
      · have e2 : decide ((t : Int) < (order.length : Int)) = true := by simpa using hto
        obtain ⟨w1, w2⟩ := u8wrap order[t] (ho _ (List.getElem_mem hto))
        obtain ⟨k, hk, hkl⟩ : ∃ k : Nat, Int.tmod order[t] (m.length : Int) = (k : Int) ∧ k < m.length := by
          have h3 := Int.tmod_nonneg (m.length : Int) w2
          have h4 := Int.tmod_lt_of_pos order[t] (show (0 : Int) < (m.length : Int) by omega)
          exact ⟨(Int.tmod order[t] (m.length : Int)).toNat, by omega, by omega⟩
        rw [e2, cond_true, guard_pos (by omega), getD_nat order _ t hto, w1, hk, guard_pos (by omega), guard_pos (by omega), guard_pos (by omega), guard_pos (by omega), guard_pos (by simp; omega), getD_nat m _ k hkl, getD_nat m _ t (by omega), Int.toNat_natCast, Int.toNat_natCast]
        exact swap_l l hl hu order ho c4 hc4 n (t + 1) _ (by omega) (by omega) ((List.set_set_perm (by omega) hkl).trans hm)
      · have e2 : decide ((t : Int) < (order.length : Int)) = false := by simp; omega
        rw [e2, cond_false]
        exact swap_l l hl hu order ho c4 hc4 n (t + 1) _ (by omega) (by omega) hm
    · have e1 : decide ((t : Int) < (c4.length : Int)) = false := by simp; omega
      rw [e1, cond_false]
      exact order_end l m hl hu hm

/-- The events of l up to i differ in name or version. -/
def Df (l : List SCurtail) (i k : Nat) : Prop := ∀ (hi : i < l.length) (hk : k < l.length), ¬ (l[i].Name = l[k].Name ∧ l[i].Version = l[k].Version)

theorem inner_l (l : List SCurtail) (hl : l.length ≤ 64) (i : Nat) (hi : i < l.length) (K : Int → Option Bool) : ∀ (n k : Nat), k ≤ i → i < n + k → (∀ j, j < k → Df l i j) →
    chargenetlaw13_CurtailOrder_l147 1000 l (i : Int) K n (k : Int) = some true ∨ ((∀ j, j < i → Df l i j) ∧ chargenetlaw13_CurtailOrder_l147 1000 l (i : Int) K n (k : Int) = K ((i + 1 : Nat) : Int))
  | 0, k, h1, h2, _ => by omega
  | n + 1, k, h1, h2, hd => by
    simp only [chargenetlaw13_CurtailOrder_l147, chargenetlaw13_CurtailOrder_b147, chargenetlaw13_CurtailOrder_p149, chargenetlaw13_CurtailOrder_p125]
    by_cases hk : k < i
    · have e1 : decide ((k : Int) < (i : Int)) = true := by simpa using hk
      have ih := inner_l l hl i hi K n (k + 1) (by omega) (by omega)
      rw [e1, cond_true, guard_pos (by omega), guard_pos (by omega), getD_nat l _ i hi, getD_nat l _ k (by omega), wsucc k (by omega), guard_pos (by omega), guard_pos (by omega), example_ok]
      by_cases hn : sEq l[i].Name l[k].Name = true
      · rw [hn, cond_true]
        by_cases hv : l[i].Version = l[k].Version
        · rw [show decide (l[i].Version = l[k].Version) = true by simpa using hv]
          exact .inl rfl
        · rw [show decide (l[i].Version = l[k].Version) = false by simpa using hv, cond_false]
          refine ih (fun j hj => ?_)
          by_cases hjk : j = k
          · subst hjk; exact fun _ _ hh => hv hh.2
          · exact hd j (by omega)
      · rw [show sEq l[i].Name l[k].Name = false by simpa using hn, cond_false]
        refine ih (fun j hj => ?_)
        by_cases hjk : j = k
        · subst hjk; exact fun _ _ hh => hn ((sEq_iff _ _).2 hh.1)
        · exact hd j (by omega)
    · have e1 : decide ((k : Int) < (i : Int)) = false := by simp; omega
      have : k = i := by omega
      subst this
      rw [e1, cond_false, wsucc k (by omega)]
      exact .inr ⟨hd, rfl⟩

theorem outer_l (l : List SCurtail) (hl : l.length ≤ 64) (order : List Int) (ho : ∀ x ∈ order, (Lit.int .u8 x).wf = true) (hc : slices_Clone_api_Curtail_api_Curtail_own 1000 l = some l) : ∀ (n i : Nat), i ≤ l.length → l.length < n + i → (∀ a b, a < i → b < a → Df l a b) →
    chargenetlaw13_CurtailOrder_l123 1000 l order n (i : Int) = some true
  | 0, i, h1, h2, _ => by omega
  | n + 1, i, h1, h2, hd => by
    simp only [chargenetlaw13_CurtailOrder_l123, chargenetlaw13_CurtailOrder_b123]
    by_cases hi : i < l.length
    · have e1 : decide ((i : Int) < (l.length : Int)) = true := by simpa using hi
      rw [e1, cond_true]
      rcases inner_l l hl i hi (fun i => chargenetlaw13_CurtailOrder_l123 1000 l order n i) 1000 0 (by omega) (by omega) (fun j hj => by omega) with h | ⟨h3, h⟩
      · exact h
      · rw [Int.natCast_zero] at h
        rw [h]
        refine outer_l l hl order ho hc n (i + 1) (by omega) (by omega) (fun a b ha hb => ?_)
        by_cases hai : a = i
        · subst hai; exact h3 b hb
        · exact hd a b (by omega) hb
    · have e1 : decide ((i : Int) < (l.length : Int)) = false := by simp; omega
      rw [e1, cond_false]
      have hie : i = l.length := by omega
      subst hie
      have hu : Uq l := by
        intro x hx y hy hn hv
        obtain ⟨a, ha, rfl⟩ := List.getElem_of_mem hx
        obtain ⟨b, hb, rfl⟩ := List.getElem_of_mem hy
        rcases Nat.lt_trichotomy a b with hab | hab | hab
        · exact absurd ⟨hn.symm, hv.symm⟩ (hd b a hb hab hb ha)
        · subst hab; rfl
        · exact absurd ⟨hn, hv⟩ (hd a b ha hab ha hb)
      unfold chargenetlaw13_CurtailOrder_p53
      rw [hc, Option.bind_some]
      have := swap_l l hl hu order ho l rfl 1000 0 l (by omega) (by omega) (List.Perm.refl _)
      rw [Int.natCast_zero] at this
      exact this

theorem clone_own (a : List SCurtail) (h : a.length ≤ 900) : slices_Clone_api_Curtail_api_Curtail_own 1000 a = some a := by
  unfold slices_Clone_api_Curtail_api_Curtail_own
  rw [guard_pos (by simp; omega)]; rfl

theorem plain_chargenetlaw13_CurtailOrder (a0 : List SCurtail) (a1 : List Int) (w0 : okVec okSCurtail a0) (w1 : okVec (fun x : Int => (Lit.int .u8 x).wf = true) a1) : ∃ F, chargenetlaw13_CurtailOrder F a0 a1 = some true := by
  refine ⟨1000, ?_⟩
  unfold chargenetlaw13_CurtailOrder
  rw [example_ok]
  by_cases h : (64 : Int) < (a0.length : Int)
  · simp [h]
  · rw [show decide ((64 : Int) < (a0.length : Int)) = false by simpa using h, cond_false]
    have := outer_l a0 (by omega) a1 (fun x hx => w1.2 x hx) (clone_own a0 (by omega)) 1000 0 (by omega) (by omega) (fun a b ha => by omega)
    rw [Int.natCast_zero] at this
    exact this
end Go.Proofs.Ytcccjpkfifefaaa.M
