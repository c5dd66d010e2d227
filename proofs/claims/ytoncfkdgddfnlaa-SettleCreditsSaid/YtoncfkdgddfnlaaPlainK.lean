/- Plain laws of chapter 49: the checks of records and disputes, with any fuel that is enough. -/
import Derived.Test.YtoncfkdgddfnlaaPlainC
namespace Go.Proofs.Ytoncfkdgddfnlaa.M
open Go Go.Proofs.Ytoncfkdgddfnlaa.E Go.Proofs.Ytoncfkdgddfnlaa.W
set_option linter.unusedVariables false
set_option linter.unusedSimpArgs false
theorem example_k (k : Nat) : chargenetlaw49_exampleHolds (k + 10) = some true := by rfl
theorem example_F (F : Nat) (h : 1000 ≤ F) : chargenetlaw49_exampleHolds F = some true := by
 obtain ⟨k, rfl⟩ : ∃ k, F = k + 10 := ⟨F - 10, by omega⟩
 exact example_k k
def Le {α : Type} (x y : Option α) : Prop := ∀ r, x = some r → y = some r
theorem Le.rfl {α : Type} {x : Option α} : Le x x := fun _ h => h
theorem Le.cond {α : Type} {b : Bool} {x x' y y' : Option α} (h1 : Le x x') (h2 : Le y y') : Le (bif b then x else y) (bif b then x' else y') := by
 cases b
 ·exact h2
 ·exact h1
theorem Le.guard {α : Type} {c : Prop} [Decidable c] {x y : Option α} (h : Le x y) : Le (E.guard c x) (E.guard c y) := by
 unfold E.guard
 split
 ·exact h
 ·exact Le.rfl
theorem Le.bind {α β : Type} {x y : Option α} {f g : α → Option β} (h : Le x y) (hf : ∀ a, Le (f a) (g a)) : Le (x.bind f) (y.bind g) := by
 intro r hr
 cases hx : x with
 | none => rw [hx] at hr; cases hr
 | some a =>
  rw [hx] at hr
  rw [h a hx]
  exact hf a r hr
theorem value_le (F F' : Nat) (c : Int) : ∀ (n n' : Nat) (v : Int), n ≤ n' → Le (chargenetref01_Value_l13 F c n v) (chargenetref01_Value_l13 F' c n' v)
 | 0, n', v, h => fun r hr => by cases hr
 | n + 1, 0, v, h => by omega
 | n + 1, n' + 1, v, h => Le.cond (Le.guard (Le.bind (x := chargenetref01_Capital F c) (y := chargenetref01_Capital F' c) Le.rfl fun a => Le.cond Le.rfl (value_le F F' c n n' _ (by omega)))) Le.rfl
theorem valid_le (F F' : Nat) (hF : F ≤ F') (s : ByteArray) : ∀ (n n' : Nat) (i : Int), n ≤ n' → Le (chargenetref01_Valid_l27 F s n i) (chargenetref01_Valid_l27 F' s n' i)
 | 0, n', i, h => fun r hr => by cases hr
 | n + 1, 0, i, h => by omega
 | n + 1, n' + 1, i, h => by
  have ih := fun j => valid_le F F' hF s n n' j (by omega)
  exact Le.cond (Le.guard (Le.bind (value_le F F' _ F F' 0 hF) fun a => Le.cond (Le.cond (Le.cond (Le.cond (Le.cond (Le.cond Le.rfl (ih _)) (ih _)) (ih _)) (ih _)) (ih _)) (ih _))) Le.rfl
theorem id_refF (F : Nat) (hF : 1000 ≤ F) (s : ByteArray) : chargenetref01_Valid F s = some (idB s) := by
 have h : Le (chargenetref01_Valid 1000 s) (chargenetref01_Valid F s) := Le.cond Le.rfl (Le.cond Le.rfl (valid_le 1000 F hF s 1000 F 0 hF))
 exact h _ (id_ref s)
theorem ident_le (F F' : Nat) (s : ByteArray) : ∀ (n n' pos : Nat), n ≤ n' → Le (ident_Valid_l29 F s n pos) (ident_Valid_l29 F' s n' pos)
 | 0, n', i, h => fun r hr => by cases hr
 | n + 1, 0, i, h => by omega
 | n + 1, n' + 1, pos, h => by
  have ih := fun j => ident_le F F' s n n' j (by omega)
  have hp : ∀ b, Le (ident_Valid_p36 F s pos (fun j => ident_Valid_l29 F s n j) b) (ident_Valid_p36 F' s pos (fun j => ident_Valid_l29 F' s n' j) b) := fun b =>
   Le.cond (ih _) (Le.bind (x := ident_value F _) (y := ident_value F' _) Le.rfl fun a => Le.cond Le.rfl (ih _))
  simp only [ident_Valid_l29, ident_Valid_b29]
  repeat (first | exact Le.rfl | exact hp _ | exact ih _ | apply Le.cond | apply Le.guard)
theorem id_eqF (F : Nat) (hF : 1000 ≤ F) (s : ByteArray) : ident_Valid F s = some (idB s) := by
 have h : Le (ident_Valid 1000 s) (ident_Valid F s) := Le.cond Le.rfl (Le.cond Le.rfl (ident_le 1000 F s 1000 F 0 hF))
 exact h _ (id_eq s)
theorem wsuccB (t : Nat) (h : t < 9223372036854775807) : IntKind.wrap .i64 ((t : Int) + 1) = ((t + 1 : Nat) : Int) := by
 rw [Go.IntWalk.i64_in _ (by omega)]; omega
def capB (s : ByteArray) (i : Nat) : Bool := !decide (sGet s i < 65) && !decide (90 < sGet s i)
def capsB (s : ByteArray) : Nat → Nat → Bool
 | _, 0 => true
 | i, m + 1 => capB s i && capsB s (i + 1) m
def caps (s : ByteArray) (i : Nat) : Bool := capsB s i (s.size - i)
theorem caps_step (s : ByteArray) (i : Nat) (h : i < s.size) : caps s i = (capB s i && caps s (i + 1)) := by
 unfold caps
 obtain ⟨m, hm⟩ : ∃ m, s.size - i = m + 1 := ⟨s.size - i - 1, by omega⟩
 rw [hm, show s.size - (i + 1) = m by omega]; rfl
theorem caps_end (s : ByteArray) : caps s s.size = true := by unfold caps; rw [Nat.sub_self]; rfl
theorem cur49_l (s : ByteArray) (hs : s.size ≤ 9223372036854775807) : ∀ (n i : Nat), i ≤ s.size → s.size < n + i → chargenetref49_currency_l14 s n (i : Int) = some (caps s i)
 | 0, i, h1, h2 => by omega
 | n + 1, i, h1, h2 => by
  simp only [chargenetref49_currency_l14, chargenetref49_currency_b14]
  by_cases hi : i < s.size
  ·rw [show decide ((i : Int) < (s.size : Int)) = true by simpa using hi, cond_true, guard_pos (by omega), guard_pos (by omega), wsuccB i (by omega), cur49_l s hs n (i + 1) (by omega) (by omega), caps_step s i hi]
   unfold capB
   simp only [Int.toNat_natCast]
   cases decide (sGet s i < 65) <;> cases decide (90 < sGet s i) <;> rfl
  ·rw [show decide ((i : Int) < (s.size : Int)) = false from decide_eq_false (by omega), cond_false, show i = s.size by omega, caps_end]
   rfl
theorem cu49_eq (F : Nat) (hF : 1000 ≤ F) (s : ByteArray) : chargenetref49_currency F s = some (decide ((s.size : Int) = 3) && caps s 0) := by
 unfold chargenetref49_currency
 by_cases h : (s.size : Int) = 3
 ·rw [decide_eq_true h]
  exact cur49_l s (by omega) F 0 (by omega) (by omega)
 ·rw [decide_eq_false h]; rfl
theorem cu_is (s : ByteArray) : cuB s = (decide ((s.size : Int) = 3) && caps s 0) := by
 have h := cu49_eq 1000 (by omega) s
 rw [cu_ref] at h
 exact Option.some.inj h
theorem cu_refF (F : Nat) (hF : 1000 ≤ F) (s : ByteArray) : chargenetref49_currency F s = some (cuB s) := by rw [cu49_eq F hF, cu_is]
theorem cu_eqF (F : Nat) (hF : 1000 ≤ F) (s : ByteArray) : settle_isCurrency F s = some (cuB s) := by
 rw [← cu_refF F hF]
 unfold settle_isCurrency chargenetref49_currency
 rw [cu_l]
theorem cdr_cu_l (s : ByteArray) : ∀ (n : Nat) (i : Int), cdr_isCurrency_l14 s n i = chargenetref49_currency_l14 s n i
 | 0, i => rfl
 | n + 1, i => by
  simp only [cdr_isCurrency_l14, cdr_isCurrency_b14, chargenetref49_currency_l14, chargenetref49_currency_b14, cdr_cu_l s n]
  rfl
theorem cdr_cu (F : Nat) (hF : 1000 ≤ F) (s : ByteArray) : cdr_isCurrency F s = some (cuB s) := by
 rw [← cu_refF F hF]
 unfold cdr_isCurrency chargenetref49_currency
 rw [cdr_cu_l]
theorem partiesF (F : Nat) (hF : 1000 ≤ F) (a b : ByteArray) : settle_parties F a b = some (parE a b) := by
 unfold settle_parties parE
 rw [id_eqF F hF, id_eqF F hF]
 cases idB a <;> cases idB b <;> cases sEq a b <;> rfl
theorem within_l (lo hi : Int) (l : List Int) (hl : l.length ≤ 100) : ∀ (n i : Nat), i ≤ l.length → l.length < n + i → cdr_within_l11 lo hi l n (i : Int) = some ((l.drop i).all (fun x => decide (lo ≤ x) && decide (x ≤ hi)))
 | 0, i, h1, h2 => by omega
 | n + 1, i, h1, h2 => by
  simp only [cdr_within_l11, cdr_within_b11]
  by_cases hi' : i < l.length
  ·rw [show decide ((i : Int) < (l.length : Int)) = true by simpa using hi', cond_true, guard_pos (by omega), getD_nat l _ i hi', wsucc i (by omega), within_l lo hi l hl n (i + 1) (by omega) (by omega), List.drop_eq_getElem_cons hi', List.all_cons]
   by_cases q1 : l[i] < lo
   ·rw [decide_eq_true q1, decide_eq_false (show ¬ lo ≤ l[i] by omega)]; rfl
   ·rw [decide_eq_false q1, decide_eq_true (show lo ≤ l[i] by omega)]
    by_cases q2 : hi < l[i]
    ·rw [decide_eq_true q2, decide_eq_false (show ¬ l[i] ≤ hi by omega)]; rfl
    ·rw [decide_eq_false q2, decide_eq_true (show l[i] ≤ hi by omega)]; rfl
  ·rw [show decide ((i : Int) < (l.length : Int)) = false from decide_eq_false (by omega), cond_false, List.drop_eq_nil_of_le (by omega)]; rfl
theorem within_eq (F : Nat) (hF : 1000 ≤ F) (lo hi : Int) (l : List Int) (hl : l.length ≤ 100) : cdr_within F lo hi l = some (l.all (fun x => decide (lo ≤ x) && decide (x ≤ hi))) := by
 unfold cdr_within
 exact within_l lo hi l hl F 0 (by omega) (by omega)
theorem names_l (F : Nat) (hF : 1000 ≤ F) (l : List ByteArray) (hl : l.length ≤ 100) : ∀ (n i : Nat), i ≤ l.length → l.length < n + i → cdr_names_l13 F l n (i : Int) = some (bif (l.drop i).all idB then 0 else 4)
 | 0, i, h1, h2 => by omega
 | n + 1, i, h1, h2 => by
  simp only [cdr_names_l13, cdr_names_b13]
  by_cases hi : i < l.length
  ·rw [show decide ((i : Int) < (l.length : Int)) = true by simpa using hi, cond_true, guard_pos (by omega), getD_nat l _ i hi, wsucc i (by omega), names_l F hF l hl n (i + 1) (by omega) (by omega), id_eqF F hF, Option.bind_some, List.drop_eq_getElem_cons hi, List.all_cons]
   cases idB l[i] <;> rfl
  ·rw [show decide ((i : Int) < (l.length : Int)) = false from decide_eq_false (by omega), cond_false, List.drop_eq_nil_of_le (by omega)]; rfl
theorem names_eq (F : Nat) (hF : 1000 ≤ F) (l : List ByteArray) (hl : l.length ≤ 100) : cdr_names F l = some (bif l.all idB then 0 else 4) := by
 unfold cdr_names
 exact names_l F hF l hl F 0 (by omega) (by omega)
def btw (lo hi x : Int) : Bool := decide (lo ≤ x) && decide (x ≤ hi)
def okItem (x : SItem) : Bool := btw 1 4 x.Kind && (btw 0 10000 x.Tax && ((btw (-36028797018963968) 36028797018963968 x.Net && (btw (-36028797018963968) 36028797018963968 x.Vat && btw (-36028797018963968) 36028797018963968 x.Price)) && (btw 0 36028797018963968 x.Quantity && decide (x.Gross = IntKind.wrap .i64 (x.Net + x.Vat)))))
theorem validItem_eq (F : Nat) (hF : 1000 ≤ F) (x : SItem) : cdr_validItem F x = some (okItem x) := by
 unfold cdr_validItem okItem btw
 rw [within_eq F hF _ _ _ (by simp), within_eq F hF _ _ _ (by simp), within_eq F hF _ _ _ (by simp), within_eq F hF _ _ _ (by simp)]
 simp only [List.all_cons, List.all_nil, Bool.and_true, Option.bind_some]
 cases (decide (1 ≤ x.Kind) && decide (x.Kind ≤ 4)) <;> cases (decide (0 ≤ x.Tax) && decide (x.Tax ≤ 10000)) <;> cases (decide (-36028797018963968 ≤ x.Net) && decide (x.Net ≤ 36028797018963968) && (decide (-36028797018963968 ≤ x.Vat) && decide (x.Vat ≤ 36028797018963968) && (decide (-36028797018963968 ≤ x.Price) && decide (x.Price ≤ 36028797018963968)))) <;> cases (decide (0 ≤ x.Quantity) && decide (x.Quantity ≤ 36028797018963968)) <;> rfl
theorem in_eq (F : Nat) (x lo hi : Int) : chargenetref46_in F x lo hi = some (btw lo hi x) := by
 unfold chargenetref46_in btw
 cases decide (lo ≤ x) <;> rfl
theorem ref_item_eq (F : Nat) (x : SItem) : chargenetref46_item F x = some (okItem x) := by
 unfold chargenetref46_item okItem
 simp only [in_eq, Option.bind_some]
 cases btw 1 4 x.Kind <;> cases btw 0 10000 x.Tax <;> cases btw (-36028797018963968) 36028797018963968 x.Net <;> cases btw (-36028797018963968) 36028797018963968 x.Vat <;> cases btw (-36028797018963968) 36028797018963968 x.Price <;> cases btw 0 36028797018963968 x.Quantity <;> rfl
def itE (c : SCDR) : Int → List SItem → Int
 | t, [] => bif !decide (c.Total = t) then 1 else 0
 | t, x :: r => bif !(okItem x) then 1 else itE c (IntKind.wrap .i64 (t + x.Gross)) r
def refE (c : SCDR) : Int := bif !c.Credit then (bif !(sEq c.Ref ByteArray.empty) then 1 else 0) else bif !(idB c.Ref) then 4 else bif sEq c.Ref c.ID then 1 else 0
def rngB (c : SCDR) : Bool := btw 1 2147483647 c.Version && (decide (0 ≤ c.Start) && (decide (c.Start ≤ c.End) && (decide (c.End ≤ 268435456) && btw 0 36028797018963968 c.Energy)))
def cdrE (c : SCDR) : Int :=
 bif !(idB c.ID && (idB c.Operator && (idB c.Provider && (idB c.Session && idB c.Tariff)))) then 4 else bif sEq c.Operator c.Provider then 1 else bif !(rngB c) then 2 else bif !(cuB c.Currency) then 21 else bif decide (32 < (c.Items.length : Int)) then 3 else
  bif !decide (itE c 0 c.Items = 0) then itE c 0 c.Items else refE c
theorem items_l (F : Nat) (hF : 1000 ≤ F) (c : SCDR) (hl : c.Items.length ≤ 40) : ∀ (n i : Nat) (t : Int), i ≤ c.Items.length → c.Items.length < n + i → cdr_validItems_l17 F c n t (i : Int) = some (itE c t (c.Items.drop i))
 | 0, i, t, h1, h2 => by omega
 | n + 1, i, t, h1, h2 => by
  simp only [cdr_validItems_l17, cdr_validItems_b17]
  by_cases hi : i < c.Items.length
  ·rw [show decide ((i : Int) < (c.Items.length : Int)) = true by simpa using hi, cond_true, guard_pos (by omega), getD_nat c.Items _ i hi, validItem_eq F hF, Option.bind_some, wsucc i (by omega), items_l F hF c hl n (i + 1) _ (by omega) (by omega), List.drop_eq_getElem_cons hi]
   simp only [itE]
   cases okItem c.Items[i] <;> rfl
  ·rw [show decide ((i : Int) < (c.Items.length : Int)) = false from decide_eq_false (by omega), cond_false, List.drop_eq_nil_of_le (by omega)]
   unfold cdr_validItems_p4
   simp only [itE]
   cases decide (c.Total = t) <;> rfl
theorem items_eq (F : Nat) (hF : 1000 ≤ F) (c : SCDR) (hl : c.Items.length ≤ 40) : cdr_validItems F c = some (bif decide (32 < (c.Items.length : Int)) then 3 else itE c 0 c.Items) := by
 unfold cdr_validItems
 have := items_l F hF c hl F 0 0 (by omega) (by omega)
 simp only [Int.natCast_zero, List.drop_zero] at this
 rw [this]
 cases decide (32 < (c.Items.length : Int)) <;> rfl
theorem validRef_eq (F : Nat) (hF : 1000 ≤ F) (c : SCDR) : cdr_validRef F c = some (refE c) := by
 unfold cdr_validRef refE
 rw [id_eqF F hF]
 cases c.Credit <;> cases sEq c.Ref ByteArray.empty <;> cases idB c.Ref <;> cases sEq c.Ref c.ID <;> rfl
theorem cdr_eq (F : Nat) (hF : 1000 ≤ F) (c : SCDR) (hl : c.Items.length ≤ 40) : cdr_Valid F c = some (cdrE c) := by
 unfold cdr_Valid cdrE rngB
 rw [names_eq F hF _ (by simp), within_eq F hF _ _ _ (by simp), within_eq F hF _ _ _ (by simp), within_eq F hF _ _ _ (by simp), cdr_cu F hF, items_eq F hF c hl, validRef_eq F hF]
 simp only [List.all_cons, List.all_nil, Bool.and_true, Option.bind_some]
 cases (idB c.ID && (idB c.Operator && (idB c.Provider && (idB c.Session && idB c.Tariff))))
 ·rfl
 simp only [cond_true, decide_true, Bool.not_true, cond_false]
 rcases Bool.eq_false_or_eq_true (sEq c.Operator c.Provider) with hq | hq
 ·rw [hq]; rfl
 rw [hq]
 simp only [cond_false]
 rw [show (decide (1 ≤ c.Version) && decide (c.Version ≤ 2147483647)) = btw 1 2147483647 c.Version from rfl, show (decide (0 ≤ c.Energy) && decide (c.Energy ≤ 36028797018963968)) = btw 0 36028797018963968 c.Energy from rfl]
 cases btw 1 2147483647 c.Version
 ·rfl
 simp only [Bool.not_true, cond_false, Bool.true_and]
 by_cases q1 : c.End < c.Start
 ·have e : (decide (0 ≤ c.Start) && (decide (c.Start ≤ c.End) && (decide (c.End ≤ 268435456) && btw 0 36028797018963968 c.Energy))) = false := by
   rw [decide_eq_false (show ¬ c.Start ≤ c.End by omega)]; simp
  rw [e, decide_eq_true q1]
  cases (decide (0 ≤ c.Start) && decide (c.Start ≤ 268435456) && (decide (0 ≤ c.End) && decide (c.End ≤ 268435456))) <;> rfl
 ·have e : (decide (0 ≤ c.Start) && decide (c.Start ≤ 268435456) && (decide (0 ≤ c.End) && decide (c.End ≤ 268435456))) = (decide (0 ≤ c.Start) && decide (c.End ≤ 268435456)) := by
   rw [Bool.eq_iff_iff]
   simp only [Bool.and_eq_true, decide_eq_true_eq]
   constructor <;> intro h <;> refine ⟨?_, ?_⟩ <;> omega
  rw [e, decide_eq_false q1, decide_eq_true (show c.Start ≤ c.End by omega)]
  cases decide (0 ≤ c.Start)
  ·rfl
  cases decide (c.End ≤ 268435456)
  ·rfl
  cases btw 0 36028797018963968 c.Energy
  ·rfl
  simp only [Bool.true_and, Bool.not_true, cond_false, Bool.and_true]
  cases cuB c.Currency
  ·rfl
  simp only [Bool.not_true, cond_false]
  cases decide (32 < (c.Items.length : Int))
  ·simp only [cond_false]
   cases decide (itE c 0 c.Items = 0) <;> rfl
  ·rfl
theorem ref_cur_l (s : ByteArray) (hs : s.size ≤ 9223372036854775807) : ∀ (n i : Nat), i ≤ s.size → s.size < n + i → chargenetref46_currency_l13 s n (i : Int) = some (decide ((s.size : Int) = 3) && caps s i)
 | 0, i, h1, h2 => by omega
 | n + 1, i, h1, h2 => by
  simp only [chargenetref46_currency_l13, chargenetref46_currency_b13]
  by_cases hi : i < s.size
  ·rw [show decide ((i : Int) < (s.size : Int)) = true by simpa using hi, cond_true, guard_pos (by omega), guard_pos (by omega), wsuccB i (by omega), ref_cur_l s hs n (i + 1) (by omega) (by omega), caps_step s i hi]
   unfold capB
   simp only [Int.toNat_natCast]
   cases decide (sGet s i < 65) <;> cases decide (90 < sGet s i) <;> cases decide ((s.size : Int) = 3) <;> rfl
  ·rw [show decide ((i : Int) < (s.size : Int)) = false from decide_eq_false (by omega), cond_false, show i = s.size by omega, caps_end]
   unfold chargenetref46_currency_p1
   rw [Bool.and_true]
theorem ref_cur_eq (F : Nat) (s : ByteArray) (hs : s.size < F) (hm : s.size ≤ 9223372036854775807) : chargenetref46_currency F s = some (cuB s) := by
 unfold chargenetref46_currency
 rw [cu_is]
 exact ref_cur_l s hm F 0 (by omega) (by omega)
theorem ref_items_l (F : Nat) (hF : 1000 ≤ F) (c : SCDR) (hl : c.Items.length ≤ 40) : ∀ (n i : Nat) (t : Int), i ≤ c.Items.length → c.Items.length < n + i → chargenetref46_Valid_l59 F c n t (i : Int) = some (bif !decide (itE c t (c.Items.drop i) = 0) then itE c t (c.Items.drop i) else refE c)
 | 0, i, t, h1, h2 => by omega
 | n + 1, i, t, h1, h2 => by
  simp only [chargenetref46_Valid_l59, chargenetref46_Valid_b59]
  by_cases hi : i < c.Items.length
  ·rw [show decide ((i : Int) < (c.Items.length : Int)) = true by simpa using hi, cond_true, guard_pos (by omega), getD_nat c.Items _ i hi, ref_item_eq, Option.bind_some, wsucc i (by omega), guard_pos (by omega), ref_items_l F hF c hl n (i + 1) _ (by omega) (by omega), List.drop_eq_getElem_cons hi]
   simp only [itE]
   rcases Bool.eq_false_or_eq_true (okItem c.Items[i]) with hq | hq
   ·simp only [hq, Bool.not_true, cond_false]
   ·simp only [hq, Bool.not_false, cond_true]; rfl
  ·rw [show decide ((i : Int) < (c.Items.length : Int)) = false from decide_eq_false (by omega), cond_false, List.drop_eq_nil_of_le (by omega)]
   unfold chargenetref46_Valid_p44 chargenetref46_Valid_p39 chargenetref46_Valid_p32 refE
   simp only [itE, id_refF F hF]
   rcases Bool.eq_false_or_eq_true (decide (c.Total = t)) with hq | hq
   ·simp only [hq, Bool.not_true, cond_false, decide_true]
    cases c.Credit <;> cases sEq c.Ref ByteArray.empty <;> cases idB c.Ref <;> cases sEq c.Ref c.ID <;> rfl
   ·simp only [hq, Bool.not_false, cond_true]; rfl
theorem ref_cdr_eq (F : Nat) (hF : 1000 ≤ F) (c : SCDR) (hl : c.Items.length ≤ 40) (hs : c.Currency.size < F) (hm : c.Currency.size ≤ 9223372036854775807) : chargenetref46_Valid F c = some (cdrE c) := by
 unfold chargenetref46_Valid cdrE rngB
 have h := ref_items_l F hF c hl F 0 0 (by omega) (by omega)
 simp only [Int.natCast_zero, List.drop_zero] at h
 simp only [id_refF F hF, in_eq, ref_cur_eq F _ hs hm, Option.bind_some, h]
 cases idB c.ID <;> cases idB c.Operator <;> cases idB c.Provider <;> cases idB c.Session <;> cases idB c.Tariff <;> try rfl
 simp only [Bool.not_true, cond_false, Bool.and_true]
 cases sEq c.Operator c.Provider <;> try rfl
 simp only [cond_false]
 cases btw 1 2147483647 c.Version <;> try rfl
 simp only [Bool.not_true, cond_false, Bool.true_and]
 by_cases q1 : c.Start < 0
 ·rw [decide_eq_true q1, decide_eq_false (show ¬ 0 ≤ c.Start by omega)]; rfl
 rw [decide_eq_false q1, decide_eq_true (show 0 ≤ c.Start by omega)]
 by_cases q2 : c.End < c.Start
 ·rw [decide_eq_true q2, decide_eq_false (show ¬ c.Start ≤ c.End by omega)]; rfl
 rw [decide_eq_false q2, decide_eq_true (show c.Start ≤ c.End by omega)]
 by_cases q3 : 268435456 < c.End
 ·rw [decide_eq_true q3, decide_eq_false (show ¬ c.End ≤ 268435456 by omega)]; rfl
 rw [decide_eq_false q3, decide_eq_true (show c.End ≤ 268435456 by omega)]
 cases btw 0 36028797018963968 c.Energy <;> try rfl
 cases cuB c.Currency <;> cases decide (32 < (c.Items.length : Int)) <;> rfl
def disE (d : SDispute) : Int := (dispute_Valid 1000 d).getD 0
theorem dis_eq (F : Nat) (hF : 1000 ≤ F) (d : SDispute) : dispute_Valid F d = some (disE d) := by
 have e : dispute_Valid F d = dispute_Valid 1000 d := by
  unfold dispute_Valid
  rw [id_eqF F hF, id_eqF F hF, id_eqF 1000 (by omega), id_eqF 1000 (by omega)]
 obtain ⟨v, hv⟩ : ∃ v, dispute_Valid 1000 d = some v := by
  unfold dispute_Valid
  rw [id_eqF 1000 (by omega), id_eqF 1000 (by omega)]
  simp only [Option.bind_some]
  repeat (first | exact opt_some _ | apply opt_cond)
 unfold disE
 rw [e, hv]; rfl
end Go.Proofs.Ytoncfkdgddfnlaa.M
