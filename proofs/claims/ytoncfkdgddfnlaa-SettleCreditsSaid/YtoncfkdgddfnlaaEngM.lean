/- From a contract to a call by hand. -/
import Derived.Test.YtoncfkdgddfnlaaEngL
import Derived.ProofKit
import Derived.OpenShut
import Derived.Carry
namespace Go.Proofs.Ytoncfkdgddfnlaa.E
open Go Go.RowKit
set_option linter.unusedVariables false
def loc0 : Loc := ⟨fun _ => none, fun _ _ => none⟩
def env0 (w : World) : Env := ⟨w, fun _ => False, fun _ => False, loc0.b, []⟩
theorem hrep0 (w : World) : HRep (env0 w) [] loc0 w :=
 ⟨Keep.refl _ _, fun b hb => hb.elim, fun i o h => by simp at h, fun i o s b c h => by simp at h, fun i j o o' s s' b c c' h => by simp at h⟩
theorem SFun.law {P : Program} {f : FuncId} {avs : List AV} {v : Value} {c : Cell} (hf : SFun P f [] avs (fun x _ => x = .c c)) (hc : ∀ x u, RepC x true c u → u = v) (w : World) {vals : List Value}
  (hA : RepAL (ctx (env0 w) [] loc0 w) avs vals) : Calls P f vals.toArray w fun en w' => en = .returned v ∧ Below w.heap.size w w' := by
 refine (hf (env0 w) loc0 w vals rfl (fun b => ⟨fun h => h.elim, fun ⟨i, o, s, c, h, _⟩ => by simp at h⟩) (fun _ => rfl) (hrep0 w) hA).mono ?_
 rintro en w' ⟨u, r, objs', loc', rfl, rfl, hh, hr, _, _⟩
 exact ⟨by rw [hc _ u hr], Keep.toBelow hh.keep⟩
theorem SFun.lawB {P : Program} {f : FuncId} {avs : List AV} {b : Bool} (hf : SFun P f [] avs (fun x _ => x = .c (.bool b))) (w : World) {vals : List Value}
  (hA : RepAL (ctx (env0 w) [] loc0 w) avs vals) : Calls P f vals.toArray w fun en w' => en = .returned (.bool b) ∧ Below w.heap.size w w' :=
 hf.law (fun _ _ h => h) w hA
section
open Go.ChangeShapes Go.WideShapes
variable {H : Type} {enc : TypeId × Value → H} {P : Program}
def rowedB (P : Program) (ts : List TypeId) : Bool := ts.all fun t => P.readableRec t && decide (t < P.types.size)
theorem trodAll_below (hl : laidOutB P = true) {W W' : World} (hb : Below W.heap.size W W') : ∀ {ts : List TypeId} {vs : List Value} {ds : List (DataW H)} {ps : List MemPlace}, rowedB P ts = true →
  DataW.TrodAll enc P W 0 (fun _ => true) true ts vs ds ps → (∀ x ∈ ps, x.block < W.heap.size) → DataW.TrodAll enc P W' 0 (fun b => decide (b < W.heap.size)) true ts vs ds ps
 | [], vs, ds, ps, _, h, _ => by obtain ⟨rfl, rfl, rfl⟩ := trodAll_nil h; exact trodAll_mk0
 | t :: ts, vs, ds, ps, hr, h, hlt => by
  obtain ⟨v, vs', d, ds', p, q, rfl, rfl, rfl, h1, h2⟩ := trodAll_cons h
  simp only [rowedB, List.all_cons, Bool.and_eq_true, decide_eq_true_eq] at hr
  exact trodAll_cons_mk (Below.trod hl hr.1.1 hr.1.2 h1 hb (fun x hx => hlt x (List.mem_append_left _ hx)))
   (trodAll_below hl hb (by simpa [rowedB] using hr.2) h2 (fun x hx => hlt x (List.mem_append_right _ hx)))
theorem post_law {f : Func} {s : ChangeSpec} {W W' : World} {args : Array Value} {ds gs : List (DataW H)} {before : List MemPlace} {tb : TypeId}
  (hvar : s.vars = []) (hW : DataW.Whole enc P f.params.toList s.vars false W args.toList ds gs before) (hl : laidOutB P = true) (hrow : rowedB P f.params.toList = true)
  (hfn : gs = [] → s.fn H (ds ++ gs) = { results := [.lit (.bool true)], args := ds }) (hres : f.resultTypes = #[tb]) (hu : P.underlying tb = some .bool) (hb : Below W.heap.size W W') :
  s.post enc P f false true false false W args (.bool true) W' := by
 have hW' := hW
 have hlt : ∀ p ∈ before, p.block < W.heap.size := hW.lt
 obtain ⟨p, q, hA, hV, hpq, hfz, hnd⟩ := hW
 rw [hvar] at hV
 obtain ⟨rfl, rfl⟩ := trodVars_none hV
 have hfn := hfn rfl
 simp only [List.append_nil] at hpq
 subst hpq
 refine ⟨ds, [], before, [], before, [], hW', ?_, ?_, ?_, hb.frame _, fun h => by cases h⟩
 ·rw [hfn, hres]
  exact trodAll_cons_mk (shut_bool hu _) trodAll_mk0
 ·rw [hfn]
  exact trodAll_below hl hb hrow hA hlt
 ·rw [hfn, hvar]
  rfl
end
end Go.Proofs.Ytoncfkdgddfnlaa.E
