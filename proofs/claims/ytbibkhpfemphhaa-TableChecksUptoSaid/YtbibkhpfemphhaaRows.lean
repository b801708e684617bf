/-
  No cell of these rows narrows 'for every input' (looked for: loops, veiled, ifaces, maps, wideKeys, modest, calm, conditions, laid).
  DERIVED. THE GIVEN ROWS OF THIS SEAT. 3 by the template 'for every input the law returns true; each argument reads behind the call as it read before'; 0 by the template 'total and deterministic' (their statements: YtbibkhpfemphhaaTotals.lean).
  GIVEN WITH THE SEED: the statements are not yours to turn. If you find one false, say at which input.
  Laid BY PROGRAM, IN A SANDBOX (cutbox-rows.mjs): the forced cells as the released guide's own fill.sh prints them over the translation 7919a2e5e0d5ef15… (all of the seat's roots in one cut). By AI agents, Wed Nov 11 2026. No macro, syntax, notation, axiom, sorry.
-/
import Derived.Test.YtbibkhpfemphhaaChecked
import GoSem.Claim
import GoSem.ClaimJoined
import GoSem.ClaimMapViews
import Derived.JoinedTies
import Derived.KernelRfl
namespace Go.Proofs.Ytbibkhpfemphhaa
/- THE CELL 'sum', in the pinned program and in every row, IS THE sha256 OF THE DUMP (.gsa) THAT YtbibkhpfemphhaaProg.lean LOADS. Nothing in Lean hashes anything: it is a label: what it is worth is what the hold of that sum in a sandbox is worth. -/
noncomputable def Try.pinned : Pinned := { name := "ytbibkhpfemphhaa", sum := "7919a2e5e0d5ef156ffd5edd8a6a23dea61292a4b47d8105acb7be3e3b17b9dd", checked := Try.checked }
namespace Rows
def none {H : Type} : Left H := { results := [], args := [] }

/-- 'tontinelaw09.TableChecks': WHATEVER THE INPUT: true; the input reads as it did. -/
def tableChecksSpec : ChangeSpec := { name := "tableChecks", fn := fun _ => fun
  | [d] => { results := [.lit (.bool true)], args := [d] }
  | _ => none }
def tableChecksRow : OpenClaim := { program := "ytbibkhpfemphhaa", sum := "7919a2e5e0d5ef156ffd5edd8a6a23dea61292a4b47d8105acb7be3e3b17b9dd", func := "tontine/tontinelaw09.TableChecks", spec := "tableChecks", apart := false }
def TableChecksSaid : Prop := tableChecksRow.holds Try.pinned (OpenSpec.ofChange tableChecksSpec)

/-- ITS FALSE NEIGHBOUR: 'it returns false'. Refute it at one input. -/
def tableChecksWrong : ChangeSpec := { name := "tableChecks", fn := fun _ => fun
  | [d] => { results := [.lit (.bool false)], args := [d] }
  | _ => none }
def TableChecksWrongFalsely : Prop := tableChecksRow.holds Try.pinned (OpenSpec.ofChange tableChecksWrong)

/-- 'tontinelaw09.TableLives': WHATEVER THE INPUT: true; the input reads as it did. -/
def tableLivesSpec : ChangeSpec := { name := "tableLives", fn := fun _ => fun
  | [d1, d2, d3] => { results := [.lit (.bool true)], args := [d1, d2, d3] }
  | _ => none }
def tableLivesRow : OpenClaim := { program := "ytbibkhpfemphhaa", sum := "7919a2e5e0d5ef156ffd5edd8a6a23dea61292a4b47d8105acb7be3e3b17b9dd", func := "tontine/tontinelaw09.TableLives", spec := "tableLives", recurses := true, apart := false }
def TableLivesSaid : Prop := tableLivesRow.holds Try.pinned (OpenSpec.ofChange tableLivesSpec)

/-- ITS FALSE NEIGHBOUR: 'it returns false'. Refute it at one input. -/
def tableLivesWrong : ChangeSpec := { name := "tableLives", fn := fun _ => fun
  | [d1, d2, d3] => { results := [.lit (.bool false)], args := [d1, d2, d3] }
  | _ => none }
def TableLivesWrongFalsely : Prop := tableLivesRow.holds Try.pinned (OpenSpec.ofChange tableLivesWrong)

/-- 'tontinelaw09.TableExpects': WHATEVER THE INPUT: true; the input reads as it did. -/
def tableExpectsSpec : ChangeSpec := { name := "tableExpects", fn := fun _ => fun
  | [d1, d2, d3, d4] => { results := [.lit (.bool true)], args := [d1, d2, d3, d4] }
  | _ => none }
def tableExpectsRow : OpenClaim := { program := "ytbibkhpfemphhaa", sum := "7919a2e5e0d5ef156ffd5edd8a6a23dea61292a4b47d8105acb7be3e3b17b9dd", func := "tontine/tontinelaw09.TableExpects", spec := "tableExpects", recurses := true, apart := false }
def TableExpectsSaid : Prop := tableExpectsRow.holds Try.pinned (OpenSpec.ofChange tableExpectsSpec)

/-- ITS FALSE NEIGHBOUR: 'it returns false'. Refute it at one input. -/
def tableExpectsWrong : ChangeSpec := { name := "tableExpects", fn := fun _ => fun
  | [d1, d2, d3, d4] => { results := [.lit (.bool false)], args := [d1, d2, d3, d4] }
  | _ => none }
def TableExpectsWrongFalsely : Prop := tableExpectsRow.holds Try.pinned (OpenSpec.ofChange tableExpectsWrong)

/- THE SECOND FORM. 'bulk': how many values and letters a reading holds, each counted each time it is reached (what is shared counts as often as it is met; a slice's spare places count too). A statement '..UptoSaid' is the law's where the arguments, and the package variables that the reading takes, are together of bulk at most 1048576: NARROWER than '..Said'. Prove '..Said' where nothing that the law and all that it calls make is longer than what came in: it says more and counts as full. Else prove '..UptoSaid'. A law counts once. -/
mutual
def uptoBulk {H : Type} : DataW H → Nat
  | .lit (.string bytes) => bytes.length + 1
  | .lit _ => 1
  | .nil => 1
  | .ptr d => uptoBulk d + 1
  | .slice elems spare => uptoBulkAll elems + uptoBulkAll spare + 1
  | .agg parts => uptoBulkAll parts + 1
  | .iface _ d => uptoBulk d + 1
  | .map entries => uptoBulkEntries entries + 1
  | .held _ => 1
def uptoBulkAll {H : Type} : List (DataW H) → Nat
  | [] => 0
  | d :: r => uptoBulk d + uptoBulkAll r
def uptoBulkEntries {H : Type} : List (Lit × DataW H) → Nat
  | [] => 0
  | x :: r => uptoBulkEntry x + uptoBulkEntries r
def uptoBulkEntry {H : Type} : Lit × DataW H → Nat
  | (.string bytes, d) => bytes.length + uptoBulk d + 1
  | (_, d) => uptoBulk d + 1
 end
def uptoSmall : (H : Type) → List (DataW H) → Bool := fun _ ds => decide (uptoBulkAll ds ≤ 1048576)
def OpenSpec.upto (s : _root_.Go.ChangeSpec) : _root_.Go.OpenSpec := { _root_.Go.OpenSpec.ofChange s with cond := some uptoSmall }

/-- 'tontinelaw09.TableChecks', WHERE WHAT IT READS IS OF BULK AT MOST 1048576: true; the input reads as it did. -/
def tableChecksUptoRow : OpenClaim := { program := "ytbibkhpfemphhaa", sum := "7919a2e5e0d5ef156ffd5edd8a6a23dea61292a4b47d8105acb7be3e3b17b9dd", func := "tontine/tontinelaw09.TableChecks", spec := "tableChecks", apart := false, narrowed := true }
def TableChecksUptoSaid : Prop := tableChecksUptoRow.holds Try.pinned (OpenSpec.upto tableChecksSpec)

/-- 'tontinelaw09.TableLives', WHERE WHAT IT READS IS OF BULK AT MOST 1048576: true; the input reads as it did. -/
def tableLivesUptoRow : OpenClaim := { program := "ytbibkhpfemphhaa", sum := "7919a2e5e0d5ef156ffd5edd8a6a23dea61292a4b47d8105acb7be3e3b17b9dd", func := "tontine/tontinelaw09.TableLives", spec := "tableLives", recurses := true, apart := false, narrowed := true }
def TableLivesUptoSaid : Prop := tableLivesUptoRow.holds Try.pinned (OpenSpec.upto tableLivesSpec)

/-- 'tontinelaw09.TableExpects', WHERE WHAT IT READS IS OF BULK AT MOST 1048576: true; the input reads as it did. -/
def tableExpectsUptoRow : OpenClaim := { program := "ytbibkhpfemphhaa", sum := "7919a2e5e0d5ef156ffd5edd8a6a23dea61292a4b47d8105acb7be3e3b17b9dd", func := "tontine/tontinelaw09.TableExpects", spec := "tableExpects", recurses := true, apart := false, narrowed := true }
def TableExpectsUptoSaid : Prop := tableExpectsUptoRow.holds Try.pinned (OpenSpec.upto tableExpectsSpec)

end Rows
end Go.Proofs.Ytbibkhpfemphhaa
