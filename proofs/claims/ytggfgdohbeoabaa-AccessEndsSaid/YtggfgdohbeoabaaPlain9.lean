/- The plain law of AccessEnds: after Take nothing changes before that time, nor for other users; the result is as valid as the grants. -/
import Derived.Test.YtggfgdohbeoabaaPlainD
namespace Go.Proofs.Ytggfgdohbeoabaa.M
open Go Go.Proofs.Ytggfgdohbeoabaa.E Go.Proofs.Ytggfgdohbeoabaa.W
set_option linter.unusedVariables false
set_option linter.unusedSimpArgs false

theorem gE_of (roles : List SRole) (before : List SGrant) (g : SGrant) (h1 : idB g.User = true) (h2 : has roles g.Role = true) (h3 : spanOk g = true) (h4 : clash before g = false) : gE roles before g = 0 := by
  unfold gE
  simp [h1, h2, h3, h4]

theorem holds_cut (g : SGrant) (now t : Int) (h0 : 0 ≤ now) (hn : holdsS g now = true) (h : holdsS (cut g now) t = true) : holdsS g t = true := by
  unfold holdsS cut at *
  have hn := of_decide_eq_true hn
  have h := of_decide_eq_true h
  simp only at h
  exact decide_eq_true (by omega)

theorem holds_before (g : SGrant) (now t : Int) (h0 : 0 ≤ now) (hn : holdsS g now = true) (ht : t < now) : holdsS (cut g now) t = holdsS g t := by
  unfold holdsS cut at *
  have hn := of_decide_eq_true hn
  rw [decide_eq_decide]
  simp only
  omega

theorem ov_left (a b : SGrant) (now : Int) (h0 : 0 ≤ now) (hn : holdsS a now = true) (h : ov (cut a now) b = true) : ov a b = true := by
  unfold ov at *
  rw [Bool.and_eq_true] at *
  exact ⟨holds_cut a now _ h0 hn h.1, h.2⟩
theorem ov_right (a b : SGrant) (now : Int) (h0 : 0 ≤ now) (hn : holdsS b now = true) (h : ov a (cut b now) = true) : ov a b = true := by
  unfold ov at *
  rw [Bool.and_eq_true] at *
  exact ⟨h.1, holds_cut b now _ h0 hn h.2⟩

theorem set_valid (roles : List SRole) (grants : List SGrant) (hv : vE roles grants = 0) (j : Nat) (hj : j < grants.length) (now : Int) (h0 : 0 ≤ now ∧ now ≤ 268435456) (hn : holdsS grants[j] now = true) : vE roles (grants.set j (cut grants[j] now)) = 0 := by
  rw [vE_zero] at hv ⊢
  obtain ⟨v1, v2, v3, v4⟩ := hv
  refine ⟨v1, v2, by simpa using v3, fun i hi => ?_⟩
  have hi' : i < grants.length := by simpa using hi
  obtain ⟨g1, g2, g3, g4⟩ := gE_span _ _ _ (v4 i hi')
  have hb : ∀ (h : SGrant) (hh : ∀ x ∈ grants.take i, (sEq x.User h.User && (sEq x.Role h.Role && ov x h)) = false), clash ((grants.set j (cut grants[j] now)).take i) h = false := by
    intro h hh
    unfold clash
    rw [List.any_eq_false]
    intro x hx
    obtain ⟨k, hk, rfl⟩ := List.getElem_of_mem hx
    rw [List.length_take, List.length_set] at hk
    have hkl : k < grants.length := by omega
    rw [List.getElem_take, List.getElem_set]
    have hm : grants[k] ∈ grants.take i := by
      rw [List.mem_take_iff_getElem]
      exact ⟨k, by omega, rfl⟩
    have hk2 := hh _ hm
    by_cases hjk : j = k
    · subst hjk
      rw [if_pos rfl]
      intro hc
      rw [Bool.and_eq_true, Bool.and_eq_true] at hc
      obtain ⟨c1, c2, c3⟩ := hc
      have c1' : sEq grants[j].User h.User = true := c1
      have c2' : sEq grants[j].Role h.Role = true := c2
      have := ov_left grants[j] h now h0.1 hn c3
      rw [c1', c2', this] at hk2
      cases hk2
    · rw [if_neg hjk, hk2]; simp
  have hcl : ∀ x ∈ grants.take i, (sEq x.User grants[i].User && (sEq x.Role grants[i].Role && ov x grants[i])) = false := by
    unfold clash at g4
    rw [List.any_eq_false] at g4
    intro x hx
    exact Bool.eq_false_iff.2 (g4 x hx)
  rw [List.getElem_set]
  by_cases hji : j = i
  · subst hji
    rw [if_pos rfl]
    refine gE_of _ _ _ g1 g2 ?_ (hb _ (fun x hx => ?_))
    · unfold spanOk cut at *
      unfold holdsS at hn
      have g3 := of_decide_eq_true g3
      have hn := of_decide_eq_true hn
      exact decide_eq_true (by simp only; omega)
    · have := hcl x hx
      rw [Bool.eq_false_iff] at this ⊢
      intro hc
      apply this
      rw [Bool.and_eq_true, Bool.and_eq_true] at hc ⊢
      exact ⟨hc.1, hc.2.1, ov_right x grants[j] now h0.1 hn hc.2.2⟩
  · rw [if_neg hji]
    exact gE_of _ _ _ g1 g2 g3 (hb _ hcl)

theorem any_set {α : Type} (p : α → Bool) (l : List α) (j : Nat) (hj : j < l.length) (c : α) (h : p c = p l[j]) : (l.set j c).any p = l.any p := by
  rw [Bool.eq_iff_iff, List.any_eq_true, List.any_eq_true]
  constructor
  · rintro ⟨x, hx, hp⟩
    rcases List.mem_or_eq_of_mem_set hx with hx | rfl
    · exact ⟨x, hx, hp⟩
    · exact ⟨l[j], List.getElem_mem hj, by rw [← h]; exact hp⟩
  · rintro ⟨x, hx, hp⟩
    obtain ⟨k, hk, rfl⟩ := List.getElem_of_mem hx
    by_cases hjk : j = k
    · subst hjk
      exact ⟨c, List.mem_set hj c, by rw [h]; exact hp⟩
    · refine ⟨l[k], ?_, hp⟩
      rw [List.mem_iff_getElem]
      exact ⟨k, by simpa using hk, by rw [List.getElem_set, if_neg hjk]⟩

theorem alS_set (roles : List SRole) (grants : List SGrant) (j : Nat) (hj : j < grants.length) (now : Int) (u : ByteArray) (a : Int) (o : ByteArray) (t : Int) (h : app u t (cut grants[j] now) = app u t grants[j]) :
    alS roles (grants.set j (cut grants[j] now)) u a o t false = alS roles grants u a o t false := by
  unfold alS
  rw [any_set _ grants j hj _ (show den roles u a o t (cut grants[j] now) = den roles u a o t grants[j] by unfold den; rw [h]; rfl), any_set _ grants j hj _ (show alw roles u a o t (cut grants[j] now) = alw roles u a o t grants[j] by unfold alw; rw [h]; rfl)]

theorem inner_l (x : SCase) (q : SAsk) (c : List SGrant × Int) (hs1 : small x.Roles x.Grants) (hs2 : small x.Roles c.1) (hsame : ∀ u t, 0 ≤ t → t < q.Now → access_Allowed 1000 x.Roles c.1 u q.Action q.Object t = access_Allowed 1000 x.Roles x.Grants u q.Action q.Object t)
    (i : Int) (kl : Int → Option Bool) : ∀ (n k : Nat), k ≤ 3 → 3 < n + k → chargenetlaw39_AccessEnds_l146 1000 x q c i kl n (k : Int) = chargenetlaw39_AccessEnds_p124 1000 x q c i kl
  | 0, k, h1, h2 => by omega
  | n + 1, k, h1, h2 => by
    simp only [chargenetlaw39_AccessEnds_l146, chargenetlaw39_AccessEnds_b146, chargenetlaw39_AccessEnds_p148]
    by_cases hk : k < 3
    · have e1 : decide ((k : Int) < (([IntKind.wrap .i64 (q.Now - 1), 0, IntKind.wrap .i64 (Int.tdiv q.Now 2)]).length : Int)) = true := decide_eq_true (by simp only [List.length_cons, List.length_nil]; omega)
      rw [e1, cond_true, guard_pos (by simp only [List.length_cons, List.length_nil]; omega), wsucc k (by omega), inner_l x q c hs1 hs2 hsame i kl n (k + 1) (by omega) (by omega)]
      generalize ([IntKind.wrap .i64 (q.Now - 1), 0, IntKind.wrap .i64 (Int.tdiv q.Now 2)]).getD ((k : Int)).toNat 0 = t
      by_cases t0 : 0 ≤ t
      · by_cases t1 : t < q.Now
        · rw [show decide (0 ≤ t) = true by simpa using t0, show decide (t < q.Now) = true by simpa using t1, cond_true, cond_true, hsame _ t t0 t1, allowed_eq _ _ hs1]
          simp
        · rw [show decide (0 ≤ t) = true by simpa using t0, show decide (t < q.Now) = false by simpa using t1]; rfl
      · rw [show decide (0 ≤ t) = false by simpa using t0]; rfl
    · have e1 : decide ((k : Int) < (([IntKind.wrap .i64 (q.Now - 1), 0, IntKind.wrap .i64 (Int.tdiv q.Now 2)]).length : Int)) = false := decide_eq_false (by simp only [List.length_cons, List.length_nil]; omega)
      rw [e1, cond_false]

theorem ends_l (x : SCase) (q : SAsk) (c : List SGrant × Int) (hs1 : small x.Roles x.Grants) (hs2 : small x.Roles c.1) (hsame : ∀ u t, 0 ≤ t → t < q.Now → access_Allowed 1000 x.Roles c.1 u q.Action q.Object t = access_Allowed 1000 x.Roles x.Grants u q.Action q.Object t)
    (hother : ∀ u, sEq u q.User = false → access_Allowed 1000 x.Roles c.1 u q.Action q.Object q.Now = access_Allowed 1000 x.Roles x.Grants u q.Action q.Object q.Now) : ∀ (n i : Nat), i ≤ x.Grants.length → x.Grants.length < n + i → chargenetlaw39_AccessEnds_l113 1000 x q c n (i : Int) = some true
  | 0, i, h1, h2 => by omega
  | n + 1, i, h1, h2 => by
    have hl := hs1.2.1
    simp only [chargenetlaw39_AccessEnds_l113, chargenetlaw39_AccessEnds_b113]
    have h25 : chargenetlaw39_AccessEnds_p25 1000 = some true := by
      unfold chargenetlaw39_AccessEnds_p25
      rw [example_ok]; rfl
    rw [h25]
    by_cases hi : i < x.Grants.length
    · have e1 : decide ((i : Int) < (x.Grants.length : Int)) = true := by simpa using hi
      rw [e1, cond_true]
      by_cases h20 : (i : Int) < 20
      · rw [show decide ((i : Int) < 20) = true by simpa using h20, cond_true, guard_pos (by omega)]
        have h := inner_l x q c hs1 hs2 hsame (i : Int) (fun i_69 => chargenetlaw39_AccessEnds_l113 1000 x q c n i_69) 1000 0 (by omega) (by omega)
        simp only [Int.natCast_zero] at h
        rw [h]
        unfold chargenetlaw39_AccessEnds_p124 chargenetlaw39_AccessEnds_p116
        rw [getD_nat x.Grants _ i hi, wsucc i (by omega)]
        simp only [ends_l x q c hs1 hs2 hsame hother n (i + 1) (by omega) (by omega)]
        rcases Bool.eq_false_or_eq_true (sEq x.Grants[i].User q.User) with q1 | q1
        · simp only [q1]; rfl
        · rw [hother _ q1, allowed_eq _ _ hs1]
          simp only [q1]
          simp
      · rw [show decide ((i : Int) < 20) = false by simpa using h20]; rfl
    · have e1 : decide ((i : Int) < (x.Grants.length : Int)) = false := by simp; omega
      rw [e1]; rfl

theorem plain_chargenetlaw39_AccessEnds (a0 : SCase) (a1 : SAsk) (a2 : ByteArray) (w0 : okSCase a0) (w1 : okSAsk a1) (w2 : a2.size ≤ maxLen) : ∃ F, chargenetlaw39_AccessEnds F a0 a1 a2 = some true := by
  refine ⟨1000, ?_⟩
  unfold chargenetlaw39_AccessEnds
  rw [example_ok]
  rcases small_eq a0 with h | ⟨h, hs, h3⟩
  · rw [h]; rfl
  · rw [h, valid_eq _ _ hs]
    simp only [Option.bind_some, Bool.not_true, cond_false]
    by_cases h0 : vE a0.Roles a0.Grants = 0
    · rw [show decide (vE a0.Roles a0.Grants = 0) = true by simpa using h0, take_eq _ h3]
      simp only [Option.bind_some, Bool.not_true, cond_false]
      have fail : ∀ c : List SGrant × Int, c.2 ≠ 0 → c.1 = a0.Grants → (bif !decide (c.2 = 0) then (chargenetref39_Same 1000 c.1 a0.Grants).bind fun c_14 => bif c_14 then some true else some false
          else (access_Valid 1000 a0.Roles c.1).bind fun c_19 => bif !decide (c_19 = 0) then some false else bif !decide ((c.1.length : Int) = (a0.Grants.length : Int)) then some false else chargenetlaw39_AccessEnds_l113 1000 a0 a1 c 1000 0) = some true := by
        intro c hc1 hc2
        rw [show decide (c.2 = 0) = false by simpa using hc1, hc2, same_self _ (by omega)]; rfl
      by_cases hn : 0 ≤ a1.Now ∧ a1.Now ≤ 268435456
      · rw [if_pos hn]
        rcases take_shape a0.Grants a1.User a2 a1.Now _ 0 rfl with ⟨t1, t2⟩ | ⟨t1, j, hj, hf, t2⟩
        · exact fail _ t1 t2
        · generalize takeS a0.Grants a1.User a2 a1.Now 0 = c at t1 t2
          unfold fits at hf
          rw [Bool.and_eq_true, Bool.and_eq_true] at hf
          obtain ⟨f1, f2, f3⟩ := hf
          have hv := set_valid a0.Roles a0.Grants h0 j hj a1.Now hn f3
          have hs2 : small a0.Roles c.1 := by rw [t2]; exact ⟨hs.1, by simpa using hs.2.1, hs.2.2⟩
          rw [show decide (c.2 = 0) = true by simpa using t1, valid_eq _ _ hs2]
          have hv2 : vE a0.Roles c.1 = 0 := by rw [t2]; exact hv
          have hlen : c.1.length = a0.Grants.length := by rw [t2]; simp
          rw [hv2, hlen]
          simp only [Option.bind_some, decide_true, Bool.not_true, cond_false]
          have h := ends_l a0 a1 c hs hs2 (fun u t t0 t3 => by
            rw [allowed_eq _ _ hs2, allowed_eq _ _ hs, if_pos hv2, if_pos h0, t2]
            rw [alS_set _ _ j hj _ _ _ _ _ (by unfold app; rw [holds_before _ _ _ hn.1 f3 t3]; rfl)])
            (fun u hu => by
            rw [allowed_eq _ _ hs2, allowed_eq _ _ hs, if_pos hv2, if_pos h0, t2]
            rw [alS_set _ _ j hj _ _ _ _ _ (by
              have hne : sEq a0.Grants[j].User u = false := by
                rw [sEq_false] at hu ⊢
                rw [sEq_iff] at f1
                rw [f1]; exact fun h => hu h.symm
              unfold app
              rw [show (cut a0.Grants[j] a1.Now).User = a0.Grants[j].User from rfl, hne]; rfl)]) 1000 0 (by omega) (by omega)
          simpa only [Int.natCast_zero] using h
      · rw [if_neg hn]
        exact fail _ (by intro h; cases h) rfl
    · rw [show decide (vE a0.Roles a0.Grants = 0) = false by simpa using h0]; rfl
end Go.Proofs.Ytggfgdohbeoabaa.M
