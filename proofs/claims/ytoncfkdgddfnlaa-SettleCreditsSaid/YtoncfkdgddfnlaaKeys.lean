/- slices.Sorted(maps.Keys(m)) at this program: the shelf's contracts, turned to what the walk asks. -/
import Derived.Test.YtoncfkdgddfnlaaEngZ
import Derived.Test.YtoncfkdgddfnlaaShelf
import Derived.Shelf.SlIter.Sorted
import Derived.Shelf.SortM.Plain
import Derived.Shelf.SortM.SortNone
import Derived.Maps.Own
import Derived.Sort.KeysCollected
namespace Go.Proofs.Ytoncfkdgddfnlaa.E
open Go Go.RowKit Go.Maps Go.Sort Go.Shelf Go.Proofs
open Go.WideElems (Fit)
open Go.MapKept (Stamped)
set_option linter.unusedVariables false

def blind (v : Value) : Option (DataW Nat × List MemPlace) := some (.nil, [])

theorem keys_rg {P : Program} {k : TypeId} (hk : P.underlying k = some .string) {s : ByteArray} (hs : s.size ≤ maxLen) {en : MapEntry} (he : en.key = .string s) : WideElems.rd P k blind en = some (.string s.data.toList, .nil) := by
  unfold WideElems.rd
  rw [he, WideMaps.keyOf_string_mk hk hs]
  rfl

theorem fit_of {P : Program} {k : TypeId} (hk : P.underlying k = some .string) {es : Array MapEntry} {ks : List ByteArray} (hsz : es.size = ks.length)
    (hen : ∀ i, i < ks.length → ∃ en, es[i]? = some en ∧ en.born = i ∧ en.key = .string (ks.getD i ByteArray.empty)) (hok : keysOk ks = true) :
    Fit P k blind es ks.length ∧ es.toList.map (fun x => strOf (WideElems.rg P k blind x).1) = ks.map bsL := by
  simp only [keysOk, Bool.and_eq_true, List.all_eq_true, decide_eq_true_eq] at hok
  obtain ⟨⟨hnd, hsize⟩, hlen⟩ := hok
  have hget : ∀ i (hi : i < ks.length), ∃ en, es[i]? = some en ∧ en.born = i ∧ en.key = .string ks[i] ∧ ks[i].size ≤ maxLen := fun i hi => by
    obtain ⟨en, h1, h2, h3⟩ := hen i hi
    have h4 := hsize ks[i] (List.getElem_mem hi)
    refine ⟨en, h1, h2, ?_, by unfold maxLen; omega⟩
    rw [h3, List.getD_eq_getElem?_getD, List.getElem?_eq_getElem hi]; rfl
  have hborn : es.toList.map (·.born) = List.range ks.length := by
    apply List.ext_getElem?
    intro i
    rcases Nat.lt_or_ge i ks.length with hi | hi
    · obtain ⟨en, h1, h2, _⟩ := hget i hi
      rw [List.getElem?_map, Array.getElem?_toList, h1, List.getElem?_range hi]
      simp [h2]
    · rw [List.getElem?_eq_none (by simp; omega), List.getElem?_eq_none (by simp; omega)]
  have hkeys : es.toList.map (·.key) = ks.map Value.string := by
    apply List.ext_getElem?
    intro i
    rcases Nat.lt_or_ge i ks.length with hi | hi
    · obtain ⟨en, h1, _, h3, _⟩ := hget i hi
      rw [List.getElem?_map, Array.getElem?_toList, h1, List.getElem?_map, List.getElem?_eq_getElem hi]
      simp [h3]
    · rw [List.getElem?_eq_none (by simp; omega), List.getElem?_eq_none (by simp; omega)]
  refine ⟨⟨by rw [hsz]; unfold maxLen; omega, ⟨fun x hx => ?_, by rw [hborn]; exact List.nodup_range, ?_⟩, fun x hx => ?_⟩, ?_⟩
  · have : x.born ∈ es.toList.map (·.born) := List.mem_map.2 ⟨x, hx, rfl⟩
    rw [hborn] at this
    exact List.mem_range.1 this
  · rw [hkeys]
    have := ndS_out hnd
    rw [List.nodup_iff_pairwise_ne] at this ⊢
    exact List.pairwise_map.2 (this.imp fun h he => h (Value.string.inj he))
  · obtain ⟨i, hi, rfl⟩ := List.mem_iff_getElem.1 hx
    obtain ⟨en, h1, _, h3, h4⟩ := hget i (by simpa [hsz] using hi)
    have : es.toList[i] = en := by
      have h5 : es.toList[i]? = some en := by rw [Array.getElem?_toList]; exact h1
      rw [List.getElem?_eq_getElem hi] at h5
      exact Option.some.inj h5
    rw [this]
    exact ⟨_, keys_rg hk h4 h3⟩
  · apply List.ext_getElem?
    intro i
    rcases Nat.lt_or_ge i ks.length with hi | hi
    · obtain ⟨en, h1, _, h3, h4⟩ := hget i hi
      rw [List.getElem?_map, Array.getElem?_toList, h1, List.getElem?_map, List.getElem?_eq_getElem hi]
      unfold WideElems.rg
      rw [Option.map_some, keys_rg hk h4 h3]
      rfl
    · rw [List.getElem?_eq_none (by simp; omega), List.getElem?_eq_none (by simp; omega)]

theorem keys_perm {P : Program} {k : TypeId} {es : Array MapEntry} {ks : List ByteArray} (h : es.toList.map (fun x => strOf (WideElems.rg P k blind x).1) = ks.map bsL) :
    (strKeys (DataW.map ((es.toList.map (WideElems.rg P k blind)).foldr DataW.insert []))).Perm (ks.map bsL) := by
  have h1 := (Go.WideShapes.sorted_perm (es.toList.map (WideElems.rg P k blind))).map (fun p => strOf p.1)
  rw [List.map_map] at h1
  rw [← h]
  exact h1

theorem sorted_same {ss : List (List UInt8)} {ks : List ByteArray} (h : ss.Perm (ks.map bsL)) : (ss.mergeSort (fun x y => decide (x ≤ y))).map encStr = (sortB ks).map Value.string := by
  have h1 : (ss.mergeSort fun x y => decide (x ≤ y)) = (sortB ks).map bsL := by
    refine List.Perm.eq_of_pairwise (le := fun a b : List UInt8 => a ≤ b) (fun a b _ _ h1 h2 => Std.le_antisymm h1 h2) ?_ ?_ ((List.mergeSort_perm _ _).trans (h.trans ((sortB_perm ks).map bsL).symm))
    · have := List.pairwise_mergeSort (le := fun x y : List UInt8 => decide (x ≤ y)) (fun a b c h1 h2 => by simp at *; exact Std.le_trans h1 h2) (fun a b => by simp; exact Std.le_total) ss
      exact this.imp (fun h => by simpa using h)
    · rw [List.pairwise_map]; exact sortB_sorted ks
  rw [h1, List.map_map]
  exact List.map_congr_left fun s _ => enc_bsL s

theorem sorts21 (m : Nat) : AnyZ.SortsIn Try.prog Try.sorted21_ren Fence.wide m :=
  ⟨fun blk off cap ss W hH hblk hsz => callsIn_wide.2 (AnyM.slices_Sort_string Try.sort41 blk off cap ss W hH hblk hsz),
   fun p cap W => callsIn_wide.2 (AnyM.slices_Sort_string_none Try.sort41 p cap W)⟩

theorem keysC22 : KeysC Try.prog 22 42 55 := fun mb w => (callsIn_wide (n := 5)).1 (AnyZ.keys_in Try.keys22 Fence.wide 5 trivial rfl mb w)
theorem keysC43 : KeysC Try.prog 43 52 56 := fun mb w => (callsIn_wide (n := 5)).1 (AnyZ.keys_in Try.keys43 Fence.wide 5 trivial rfl mb w)

set_option maxHeartbeats 1000000 in
theorem sortedC22 : SortedC Try.prog 21 42 9 := by
  intro Bs b es ks w hcell hb hsz hen hok
  have hBs : Bs < w.heap.size := World.block_lt_of_cell? w ⟨Bs, 0, none⟩ hcell
  obtain ⟨hF, hmap⟩ := fit_of (P := Try.prog) (k := 9) Try.underlying9 hsz hen hok
  have hok' := hok
  simp only [keysOk, Bool.and_eq_true, decide_eq_true_eq] at hok'
  have hsize : Maps.size (DataW.map ((es.toList.map (WideElems.rg Try.prog 9 blind)).foldr DataW.insert [])) = ks.length := by
    show ((es.toList.map (WideElems.rg Try.prog 9 blind)).foldr DataW.insert []).length = _
    rw [(Go.WideShapes.sorted_perm _).length_eq]; simp [hsz]
  have hown : w.ownsMap Try.prog 9 blind b es.size (.map ((es.toList.map (WideElems.rg Try.prog 9 blind)).foldr DataW.insert [])) := ⟨es, ks.length, hb, hF, Nat.le_refl _, rfl⟩
  have hseq : SeqGives Fence.wide 2 Try.prog 42 #[.pointer (some ⟨Bs, 0, none⟩)] encStr _ _ w := AnyZ.keys_gives (ρ := Try.keys22_ren) { Try.keys22 with } Fence.wide 2 trivial rfl (by omega) Bs b es.size _ w hBs hcell hown
  have cS := AnyZ.sorted_in Try.sorted21 Fence.wide 5 trivial trivial trivial trivial rfl (by omega) (sorts21 _) (enters_of Try.func41 (by kernel_rfl) rfl) 42 #[.pointer (some ⟨Bs, 0, none⟩)] trivial (enters_of Try.func42 (by kernel_rfl) rfl) _ _ (by rw [hsize]; unfold maxLen; omega) (by rw [hsize]; exact hok'.2) w hseq
  refine ((callsIn_wide (n := 5)).1 cS).mono ?_
  rintro e w' ⟨v, ss, rfl, hS, hrow, _, hbl⟩
  have hp := hS.trans (keys_perm hmap)
  have hl : ss.length = ks.length := by rw [hp.length_eq]; simp
  exact ⟨v, rfl, by rw [← hl, ← sorted_same hp]; exact hrow, hbl⟩

set_option maxHeartbeats 1000000 in
theorem sortedC43 : SortedC Try.prog 21 52 9 := by
  intro Bs b es ks w hcell hb hsz hen hok
  have hBs : Bs < w.heap.size := World.block_lt_of_cell? w ⟨Bs, 0, none⟩ hcell
  obtain ⟨hF, hmap⟩ := fit_of (P := Try.prog) (k := 9) Try.underlying9 hsz hen hok
  have hok' := hok
  simp only [keysOk, Bool.and_eq_true, decide_eq_true_eq] at hok'
  have hsize : Maps.size (DataW.map ((es.toList.map (WideElems.rg Try.prog 9 blind)).foldr DataW.insert [])) = ks.length := by
    show ((es.toList.map (WideElems.rg Try.prog 9 blind)).foldr DataW.insert []).length = _
    rw [(Go.WideShapes.sorted_perm _).length_eq]; simp [hsz]
  have hown : w.ownsMap Try.prog 9 blind b es.size (.map ((es.toList.map (WideElems.rg Try.prog 9 blind)).foldr DataW.insert [])) := ⟨es, ks.length, hb, hF, Nat.le_refl _, rfl⟩
  have hseq : SeqGives Fence.wide 2 Try.prog 52 #[.pointer (some ⟨Bs, 0, none⟩)] encStr _ _ w := AnyZ.keys_gives (ρ := Try.keys43_ren) { Try.keys43 with } Fence.wide 2 trivial rfl (by omega) Bs b es.size _ w hBs hcell hown
  have cS := AnyZ.sorted_in Try.sorted21 Fence.wide 5 trivial trivial trivial trivial rfl (by omega) (sorts21 _) (enters_of Try.func41 (by kernel_rfl) rfl) 52 #[.pointer (some ⟨Bs, 0, none⟩)] trivial (enters_of Try.func52 (by kernel_rfl) rfl) _ _ (by rw [hsize]; unfold maxLen; omega) (by rw [hsize]; exact hok'.2) w hseq
  refine ((callsIn_wide (n := 5)).1 cS).mono ?_
  rintro e w' ⟨v, ss, rfl, hS, hrow, _, hbl⟩
  have hp := hS.trans (keys_perm hmap)
  have hl : ss.length = ks.length := by rw [hp.length_eq]; simp
  exact ⟨v, rfl, by rw [← hl, ← sorted_same hp]; exact hrow, hbl⟩
end Go.Proofs.Ytoncfkdgddfnlaa.E
