/- The frame of a law: it answers true, its arguments read as they did, what it makes is new. No condition. -/
import Derived.Test.YtbibkhpfemphhaaRows
import Derived.WalkKit
import Derived.ProofKit
import Derived.OpenShut
import Derived.JoinedCond
import Derived.Carry
import Derived.Below
import Derived.ChangeSlices
import Derived.ChangeArms
import Derived.ChangeAt
import Derived.Deep.Matrix
namespace Go.Tn
open Go.ChangeShapes Go.WideShapes Go.ChangeAt Go.RowKit
variable {H : Type} {enc : TypeId × Value → H} {P : Program}

theorem own_Ytbibkhpfemphhaa : ownKnob Proofs.Try.prog.godebug = none := by kernel_rfl
theorem laid_Ytbibkhpfemphhaa : laidOutB Proofs.Try.prog = true := by kernel_rfl

theorem trodAll_below (hl : laidOutB P = true) {W W' : World} (hb : Below W.heap.size W W') : ∀ {ts : List TypeId} {vs : List Value} {ds : List (DataW H)} {ps : List MemPlace},
    ts.all (fun t => P.readableRec t && decide (t < P.types.size)) = true → DataW.TrodAll enc P W 0 (fun _ => true) true ts vs ds ps → (∀ x ∈ ps, x.block < W.heap.size) →
    DataW.TrodAll enc P W' 0 (fun b => decide (b < W.heap.size)) true ts vs ds ps
  | [], [], [], _, _, h, _ => h
  | t :: ts, v :: vs, d :: ds, ps, hr, h, hlt => by
    simp only [List.all_cons, Bool.and_eq_true, decide_eq_true_eq] at hr
    obtain ⟨p, q, h1, h2, rfl⟩ := h
    exact ⟨p, q, Below.trod hl hr.1.1 hr.1.2 h1 hb (fun x hx => hlt x (List.mem_append.2 (.inl hx))), trodAll_below hl hb hr.2 h2 (fun x hx => hlt x (List.mem_append.2 (.inr hx))), rfl⟩
  | [], _ :: _, _, _, _, h, _ => h.elim
  | [], [], _ :: _, _, _, h, _ => h.elim
  | _ :: _, [], _, _, _, h, _ => h.elim
  | _ :: _, _ :: _, [], _, _, h, _ => h.elim

/-- What a law's walk shows is what its row asks. -/
theorem law_post (hl : laidOutB P = true) {f : Func} {s : ChangeSpec} {W W' : World} {args : Array Value} {ds gs : List (DataW H)} {before : List MemPlace} {tb : TypeId}
    (hW : DataW.Whole enc P f.params.toList s.vars false W args.toList ds gs before) (hv : s.vars = []) (hr : f.params.toList.all (fun t => P.readableRec t && decide (t < P.types.size)) = true)
    (hres : f.resultTypes = #[tb]) (htb : P.underlying tb = some .bool) (hfn : s.fn H (ds ++ gs) = { results := [.lit (.bool true)], args := ds }) (hb : Below W.heap.size W W') :
    s.post enc P f false true false false W args (.bool true) W' := by
  have hlt : ∀ x ∈ before, x.block < W.heap.size := fun x hx => hW.lt x hx
  have hW' := hW
  obtain ⟨p, q, hA, hV, rfl, hfz, hnd⟩ := hW
  rw [hv] at hV
  obtain ⟨rfl, rfl⟩ := trodVars_none hV
  refine ⟨ds, [], p ++ [], [], p, [], hW', ?_, ?_, ?_, hb.frame _, fun h => by cases h⟩
  · rw [hres, hfn]
    exact trodAll_mk1 (shut_bool htb _)
  · rw [hfn]
    exact trodAll_below hl hb hr hA (fun x hx => hlt x (List.mem_append.2 (.inl hx)))
  · rw [hv, hfn]
    exact (rfl : ([] : List MemPlace) = [])

/-- A struct's fields, each read from its own cells. -/
theorem trod_field {W : World} {base : Nat} {sp : Nat → Bool} {hd : Bool} {fs : Array Field} {t : TypeId} {cs : List Value} {x : DataW H × List MemPlace} {fuel : Nat} (ht : P.underlying t = some (.struct fs)) (h : DataW.trod enc P W base sp hd fuel t cs = some x) :
    ∃ (xs : List (DataW H × List MemPlace)) (n : Nat), x.1 = .agg (xs.map (·.1)) ∧ cs.length = P.cellsOf t ∧ xs.length = fs.size ∧
      ∀ (i : Nat) (t' : TypeId) (o : Nat), (fs[i]?).map (fun f => (f.type, f.offset)) = some (t', o) → ∃ y, xs[i]? = some y ∧ DataW.trod enc P W base sp hd n t' ((cs.drop o).take (P.cellsOf t')) = some y := by
  obtain ⟨xs, n, _, rfl, h1, h2, h3⟩ := DataW.trod_struct ht h
  refine ⟨xs, n, rfl, h1, h2, fun i t' o hfo => ?_⟩
  obtain ⟨f, hf, hto⟩ := Option.map_eq_some_iff.1 hfo
  obtain ⟨rfl, rfl⟩ := Prod.mk.inj hto
  have hi : i < xs.length := by
    rcases Nat.lt_or_ge i fs.size with h' | h'
    · omega
    · rw [Array.getElem?_eq_none h'] at hf; cases hf
  exact ⟨xs[i], List.getElem?_eq_getElem hi, (h3 i f hf).trans (List.getElem?_eq_getElem hi)⟩
end Go.Tn
