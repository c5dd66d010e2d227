/- Plain laws of chapter 18: the fair energies, by turns. -/
import Derived.Test.YtfefnffdocmlmaaPlainJ
import Derived.Test.YtfefnffdocmlmaaPlainL
import Derived.Test.YtfefnffdocmlmaaPlainM
namespace Go.Proofs.Ytfefnffdocmlmaa.M
open Go Go.Proofs Go.Proofs.Ytfefnffdocmlmaa.E Go.Proofs.Ytfefnffdocmlmaa.W
set_option linter.unusedVariables false
set_option linter.unusedSimpArgs false
inductive Reach (n : Nat) (caps : List Int) (fit : List Int → Bool) : List Int → List Bool → List Int → Prop
 | done {x : List Int} {act : List Bool} (h : ∀ j, act.getD j false = false) : Reach n caps fit x act x
 | turn {x : List Int} {act : List Bool} {d : Int} {r : List Int} (hs : ∃ j, act.getD j false = true) (hd : Far n caps x act fit d)
   (k : Reach n caps fit (sg caps fit n 0 false (rs caps x act d) act).2.1 (sg caps fit n 0 false (rs caps x act d) act).2.2 r) : Reach n caps fit x act r
theorem sg_none {caps : List Int} {fit : List Int → Bool} {act : List Bool} (h : ∀ j, act.getD j false = false) : ∀ (k i : Nat) (left : Bool) (x : List Int), sg caps fit k i left x act = (left, x, act)
 | 0, _, _, _ => rfl
 | k + 1, i, left, x => by
  rw [sg, h i, cond_false]
  exact sg_none h k (i + 1) left x
theorem rs_none {n : Nat} {caps x : List Int} (hx : Box n caps x) {act : List Bool} (h : ∀ j, act.getD j false = false) (d : Int) : rs caps x act d = x := by
 refine ext_getD 0 (rs_len ..) (fun i hi => ?_)
 rw [rs_len] at hi
 rw [rs_get _ _ _ _ _ hi, if_neg (by rw [h i]; decide)]
theorem fit_ex (p : SProblem) : ∃ fit : List Int → Bool, ∀ l, fit l = true ↔ Fit p (ev l) :=
 ⟨fun l => @decide (Fit p (ev l)) (Classical.propDecidable _), fun l => @decide_eq_true_iff _ (Classical.propDecidable _)⟩
def En (p : SProblem) : Nat → List Int
 | 0 => []
 | i + 1 => En p i ++ [(D p i).Energy]
theorem En_len (p : SProblem) : ∀ n, (En p n).length = n
 | 0 => rfl
 | n + 1 => by simp [En, En_len p n]
theorem En_get (p : SProblem) : ∀ (n i : Nat), i < n → (En p n).getD i 0 = (D p i).Energy
 | 0, i, h => by omega
 | n + 1, i, h => by
  simp only [En]
  rw [getD_append, En_len]
  by_cases hi : i < n
  ·rw [if_pos hi, En_get p n i hi]
  ·rw [if_neg hi]
   have : i = n := by omega
   subst this
   simp
section
variable {p : SProblem} {fit : List Int → Bool}
theorem En_caps (h : VP p) : Caps p.Demands.length (En p p.Demands.length) := ⟨En_len ..  , by have := h.nd; omega, fun i hi => by
 have := h.dem i hi
 unfold okDem at this
 rw [En_get p _ i hi]
 unfold D
 omega⟩
theorem box_en (h : VP p) {l : List Int} (hb : Box p.Demands.length (En p p.Demands.length) l) : l.length = p.Demands.length ∧ enOk l := by
 refine ⟨hb.len, fun j hj => ?_⟩
 have h1 := hb.bd j (by have := hb.len; omega)
 have h2 := (En_caps h).bd j (by have := hb.len; omega)
 omega
theorem fit_mono (hf : ∀ l, fit l = true ↔ Fit p (ev l)) (n : Nat) (hn : n = p.Demands.length) (caps : List Int) : Mono n caps fit := fun l l' _ _ hle h =>
 (hf l).2 (((hf l').1 h).le (fun i hi => hle i (by omega)))
theorem fit_zero (h : VP p) (hf : ∀ l, fit l = true ↔ Fit p (ev l)) (n : Nat) : fit (List.replicate n 0) = true :=
 (hf _).2 ((Fit.zero h).le (fun i _ => by unfold ev; rw [getD_rep]; exact Int.le_refl _))
theorem call_fit (h : VP p) (F : Nat) (hF : 100000000000000000 ≤ F) (hf : ∀ l, fit l = true ↔ Fit p (ev l)) : ∀ l : List Int, Box p.Demands.length (En p p.Demands.length) l → ∀ A, (∃ e, A = PA p e) → ∃ A', (∃ e, A' = PA p e) ∧ plan_Fair_1 F l (NN p : Int) A = some (fit l, A') := by
 rintro l hb _ ⟨e, rfl⟩
 obtain ⟨hl, hen⟩ := box_en h hb
 obtain ⟨fl, ok, r1, r2, _⟩ := route_eq h F hF e l hl hen
 have hok : ok = fit l := by
  have := r2.trans (hf l).symm
  cases ok <;> cases hq : fit l <;> simp_all
 refine ⟨_, ⟨ev l, rfl⟩, ?_⟩
 unfold plan_Fair_1
 rw [r1, Option.bind_some, guard_pos (by unfold PA; simp only [List.length_append, Src_len]), hok]
theorem fcaps_l (h : VP p) (F : Nat) (c : SNet) : ∀ (k i : Nat), i ≤ p.Demands.length → p.Demands.length < k + i → plan_Fair_l18 F p c k (i : Int) (En p i) = plan_Fair_p9 F c (En p p.Demands.length)
 | 0, i, h1, h2 => by omega
 | k + 1, i, h1, h2 => by
  have hnd := h.nd
  simp only [plan_Fair_l18, plan_Fair_b18]
  by_cases hi : i < p.Demands.length
  ·rw [decide_eq_true (show (i : Int) < (p.Demands.length : Int) by omega), cond_true, guard_pos (show (0 : Int) ≤ (i : Int) ∧ (i : Int) < (p.Demands.length : Int) by omega), guard_pos (by simp only [List.length_cons, List.length_nil, En_len]; omega), Int.toNat_natCast, wsucc i (by omega)]
   exact fcaps_l h F c k (i + 1) (by omega) (by omega)
  ·have : i = p.Demands.length := by omega
   subst this
   rw [decide_eq_false (show ¬ ((p.Demands.length : Int) < (p.Demands.length : Int)) by omega), cond_false]
theorem pfair_eq (h : VP p) (F : Nat) (hF : 100000000000000000 ≤ F) (hv : plan_Valid F p = some 0) (hf : ∀ l, fit l = true ↔ Fit p (ev l)) :
  ∃ r, plan_Fair F p = some (r, 0) ∧ FairV p.Demands.length (En p p.Demands.length) fit r ∧ Reach p.Demands.length (En p p.Demands.length) fit (List.replicate p.Demands.length 0) (List.replicate p.Demands.length true) r := by
 have hnd := h.nd
 have hc := En_caps h
 have hm := fit_mono hf _ rfl (En p p.Demands.length)
 obtain ⟨n, hn⟩ : ∃ n, n = p.Demands.length := ⟨_, rfl⟩
 obtain ⟨caps, hcaps⟩ : ∃ caps, caps = En p n := ⟨_, rfl⟩
 rw [← hn] at hc hm
 have key := Fillf1_31.fill_eq (F := F) (by omega) (hcaps ▸ hc) (NN p : Int) (PS := fun A => ∃ e, A = PA p e) (fit := fit) (by rw [hcaps, hn]; exact call_fit h F hF hf)
  (fun t x act => FI n caps fit t x act ∧ ∀ r, Reach n caps fit x act r → Reach n caps fit (List.replicate n 0) (List.replicate n true) r) (fun r => FairV n caps fit r ∧ Reach n caps fit (List.replicate n 0) (List.replicate n true) r)
  (fun t x act hI => by obtain ⟨⟨⟨lam, _, hfm⟩, _⟩, _⟩ := hI; exact ⟨hfm.box, hfm.alen⟩)
  (fun t x act d htn hI hfar => by
   obtain ⟨hI, hook⟩ := hI
   obtain ⟨s1, s2⟩ := fm_step (hcaps ▸ hc) fit t x act d htn hI hfar
   obtain ⟨⟨lam, hl0, hfm⟩, _⟩ := hI
   have hb := hfm.box
   obtain ⟨g1, g2, g3, g4, g5⟩ := sg_act (n := n) (caps := caps) (fit := fit) n 0 false (rs caps x act d) act (by omega) ((rs_len ..).trans hb.len) hfm.alen
   by_cases hs : ∃ j, act.getD j false = true
   ·refine ⟨fun hl => ⟨s1 hl, hook _ (.turn hs hfar (.done fun j => ?_))⟩, fun hl => ⟨s2 hl, fun r hr => hook r (.turn hs hfar hr)⟩⟩
    by_cases hj : j < n
    ·exact (g5 hl).2 j (Nat.zero_le _) hj
    ·rw [List.getD_eq_getElem?_getD, List.getElem?_eq_none (by omega)]; rfl
   ·have hnone : ∀ j, act.getD j false = false := fun j => by
     cases hq : act.getD j false with
     | false => rfl
     | true => exact absurd ⟨j, hq⟩ hs
    have e1 := sg_none (caps := caps) (fit := fit) hnone n 0 false (rs caps x act d)
    have e2 := rs_none hb hnone d
    refine ⟨fun hl => ⟨s1 hl, ?_⟩, fun hl => ?_⟩
    ·rw [e1, e2]; exact hook x (.done hnone)
    ·rw [e1] at hl; cases hl)
  (fun x act hI => by
   obtain ⟨hI, hook⟩ := hI
   refine ⟨fm_end fit x act hI, hook x (.done fun j => ?_)⟩
   exact cnt_none act (by have := hI.2; omega) j)
  (fun h0 => ⟨fm_start (hcaps ▸ hc) fit h0, fun r hr => hr⟩) (A := PA p (fun _ => 0)) ⟨_, rfl⟩
 have hz := fit_zero h hf n
 rcases key with ⟨k1, _⟩ | ⟨_, r, A', k2, k3, k4⟩
 ·rw [hz] at k1; cases k1
 ·subst hcaps
  subst hn
  refine ⟨r, ?_, k3, k4⟩
  unfold plan_Fair
  rw [hv, Option.bind_some, decide_eq_true rfl, Bool.not_true, cond_false, network_eq h F hF, Option.bind_some]
  have e1 := fcaps_l h F ⟨(NN p : Int), PA p (fun _ => 0)⟩ F 0 (by omega) (by omega)
  refine Eq.trans e1 ?_
  unfold plan_Fair_p9
  rw [k2]
  rfl
end
end Go.Proofs.Ytfefnffdocmlmaa.M
