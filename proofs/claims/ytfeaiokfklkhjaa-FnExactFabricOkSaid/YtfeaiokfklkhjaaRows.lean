/-
  No cell of these rows narrows 'for every input' (looked for: loops, veiled, ifaces, maps, wideKeys, modest, calm, conditions, laid).
  DERIVED. THE GIVEN ROWS OF THIS SEAT. 3 by the template 'for every input the law returns true; each argument reads behind the call as it read before'; 0 by the template 'total and deterministic' (their statements: YtfeaiokfklkhjaaTotals.lean).
  GIVEN WITH THE SEED: the statements are not yours to turn. If you find one false, say at which input.
  Laid BY PROGRAM, IN A SANDBOX (cutbox-rows.mjs): the forced cells as the released guide's own fill.sh prints them over the translation 5ccb6bd09061229f… (all of the seat's roots in one cut). By AI agents, Wed Nov 11 2026. No macro, syntax, notation, axiom, sorry.
-/
import Derived.Test.YtfeaiokfklkhjaaChecked
import GoSem.Claim
import GoSem.ClaimJoined
import GoSem.ClaimMapViews
import Derived.JoinedTies
import Derived.KernelRfl
namespace Go.Proofs.Ytfeaiokfklkhjaa
/- THE CELL 'sum', in the pinned program and in every row, IS THE sha256 OF THE DUMP (.gsa) THAT YtfeaiokfklkhjaaProg.lean LOADS. Nothing in Lean hashes anything: it is a label: what it is worth is what the hold of that sum in a sandbox is worth. -/
noncomputable def Try.pinned : Pinned := { name := "ytfeaiokfklkhjaa", sum := "5ccb6bd09061229f6bed659d594d3d3525c611b159eff531a58694f01258d79b", checked := Try.checked }
namespace Rows
def none {H : Type} : Left H := { results := [], args := [] }

/-- 'laws.FnExactFabricOk': WHATEVER THE INPUT: true; the input reads as it did. -/
def fnExactFabricOkSpec : ChangeSpec := { name := "fnExactFabricOk", fn := fun _ => fun
  | [d] => { results := [.lit (.bool true)], args := [d] }
  | _ => none }
def fnExactFabricOkRow : OpenClaim := { program := "ytfeaiokfklkhjaa", sum := "5ccb6bd09061229f6bed659d594d3d3525c611b159eff531a58694f01258d79b", func := "loop.example/g00470/laws.FnExactFabricOk", spec := "fnExactFabricOk", apart := false }
def FnExactFabricOkSaid : Prop := fnExactFabricOkRow.holds Try.pinned (OpenSpec.ofChange fnExactFabricOkSpec)

/-- ITS FALSE NEIGHBOUR: 'it returns false'. Refute it at one input. -/
def fnExactFabricOkWrong : ChangeSpec := { name := "fnExactFabricOk", fn := fun _ => fun
  | [d] => { results := [.lit (.bool false)], args := [d] }
  | _ => none }
def FnExactFabricOkWrongFalsely : Prop := fnExactFabricOkRow.holds Try.pinned (OpenSpec.ofChange fnExactFabricOkWrong)

/-- 'laws.FnExactFabricNew': WHATEVER THE INPUT: true; the input reads as it did. -/
def fnExactFabricNewSpec : ChangeSpec := { name := "fnExactFabricNew", fn := fun _ => fun
  | [d] => { results := [.lit (.bool true)], args := [d] }
  | _ => none }
def fnExactFabricNewRow : OpenClaim := { program := "ytfeaiokfklkhjaa", sum := "5ccb6bd09061229f6bed659d594d3d3525c611b159eff531a58694f01258d79b", func := "loop.example/g00470/laws.FnExactFabricNew", spec := "fnExactFabricNew", apart := false }
def FnExactFabricNewSaid : Prop := fnExactFabricNewRow.holds Try.pinned (OpenSpec.ofChange fnExactFabricNewSpec)

/-- ITS FALSE NEIGHBOUR: 'it returns false'. Refute it at one input. -/
def fnExactFabricNewWrong : ChangeSpec := { name := "fnExactFabricNew", fn := fun _ => fun
  | [d] => { results := [.lit (.bool false)], args := [d] }
  | _ => none }
def FnExactFabricNewWrongFalsely : Prop := fnExactFabricNewRow.holds Try.pinned (OpenSpec.ofChange fnExactFabricNewWrong)

/-- 'laws.FnExactFromSnap': WHATEVER THE INPUT: true; the input reads as it did. -/
def fnExactFromSnapSpec : ChangeSpec := { name := "fnExactFromSnap", fn := fun _ => fun
  | [d1, d2] => { results := [.lit (.bool true)], args := [d1, d2] }
  | _ => none }
def fnExactFromSnapRow : OpenClaim := { program := "ytfeaiokfklkhjaa", sum := "5ccb6bd09061229f6bed659d594d3d3525c611b159eff531a58694f01258d79b", func := "loop.example/g00470/laws.FnExactFromSnap", spec := "fnExactFromSnap", apart := false }
def FnExactFromSnapSaid : Prop := fnExactFromSnapRow.holds Try.pinned (OpenSpec.ofChange fnExactFromSnapSpec)

/-- ITS FALSE NEIGHBOUR: 'it returns false'. Refute it at one input. -/
def fnExactFromSnapWrong : ChangeSpec := { name := "fnExactFromSnap", fn := fun _ => fun
  | [d1, d2] => { results := [.lit (.bool false)], args := [d1, d2] }
  | _ => none }
def FnExactFromSnapWrongFalsely : Prop := fnExactFromSnapRow.holds Try.pinned (OpenSpec.ofChange fnExactFromSnapWrong)

/- THE SECOND FORM. 'bulk': how many values and letters a reading holds, each counted each time it is reached (what is shared counts as often as it is met; a slice's spare places count too). A statement '..UptoSaid' is the law's where the arguments, and the package variables that the reading takes, are together of bulk at most 1048576: NARROWER than '..Said'. Prove '..Said' where nothing that the law and all that it calls make is longer than what came in: it says more and counts as full. Else prove '..UptoSaid'. A law counts once. -/
mutual
def uptoBulk {H : Type} : DataW H → Nat
  | .lit (.string bytes) => bytes.length + 1
  | .lit _ => 1
  | .nil => 1
  | .ptr d => uptoBulk d + 1
  | .slice elems spare => uptoBulkAll elems + uptoBulkAll spare + 1
  | .agg parts => uptoBulkAll parts + 1
  | .iface _ d => uptoBulk d + 1
  | .map entries => uptoBulkEntries entries + 1
  | .held _ => 1
def uptoBulkAll {H : Type} : List (DataW H) → Nat
  | [] => 0
  | d :: r => uptoBulk d + uptoBulkAll r
def uptoBulkEntries {H : Type} : List (Lit × DataW H) → Nat
  | [] => 0
  | x :: r => uptoBulkEntry x + uptoBulkEntries r
def uptoBulkEntry {H : Type} : Lit × DataW H → Nat
  | (.string bytes, d) => bytes.length + uptoBulk d + 1
  | (_, d) => uptoBulk d + 1
 end
def uptoSmall : (H : Type) → List (DataW H) → Bool := fun _ ds => decide (uptoBulkAll ds ≤ 1048576)
def OpenSpec.upto (s : _root_.Go.ChangeSpec) : _root_.Go.OpenSpec := { _root_.Go.OpenSpec.ofChange s with cond := some uptoSmall }

/-- 'laws.FnExactFabricOk', WHERE WHAT IT READS IS OF BULK AT MOST 1048576: true; the input reads as it did. -/
def fnExactFabricOkUptoRow : OpenClaim := { program := "ytfeaiokfklkhjaa", sum := "5ccb6bd09061229f6bed659d594d3d3525c611b159eff531a58694f01258d79b", func := "loop.example/g00470/laws.FnExactFabricOk", spec := "fnExactFabricOk", apart := false, narrowed := true }
def FnExactFabricOkUptoSaid : Prop := fnExactFabricOkUptoRow.holds Try.pinned (OpenSpec.upto fnExactFabricOkSpec)

/-- 'laws.FnExactFabricNew', WHERE WHAT IT READS IS OF BULK AT MOST 1048576: true; the input reads as it did. -/
def fnExactFabricNewUptoRow : OpenClaim := { program := "ytfeaiokfklkhjaa", sum := "5ccb6bd09061229f6bed659d594d3d3525c611b159eff531a58694f01258d79b", func := "loop.example/g00470/laws.FnExactFabricNew", spec := "fnExactFabricNew", apart := false, narrowed := true }
def FnExactFabricNewUptoSaid : Prop := fnExactFabricNewUptoRow.holds Try.pinned (OpenSpec.upto fnExactFabricNewSpec)

/-- 'laws.FnExactFromSnap', WHERE WHAT IT READS IS OF BULK AT MOST 1048576: true; the input reads as it did. -/
def fnExactFromSnapUptoRow : OpenClaim := { program := "ytfeaiokfklkhjaa", sum := "5ccb6bd09061229f6bed659d594d3d3525c611b159eff531a58694f01258d79b", func := "loop.example/g00470/laws.FnExactFromSnap", spec := "fnExactFromSnap", apart := false, narrowed := true }
def FnExactFromSnapUptoSaid : Prop := fnExactFromSnapUptoRow.holds Try.pinned (OpenSpec.upto fnExactFromSnapSpec)

end Rows
end Go.Proofs.Ytfeaiokfklkhjaa
