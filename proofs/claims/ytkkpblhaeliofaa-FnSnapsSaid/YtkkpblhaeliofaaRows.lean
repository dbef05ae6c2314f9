/-
  No cell of these rows narrows 'for every input' (looked for: loops, veiled, ifaces, maps, wideKeys, modest, calm, conditions, laid).
  DERIVED. THE GIVEN ROWS OF THIS SEAT. 3 by the template 'for every input the law returns true; each argument reads behind the call as it read before'; 0 by the template 'total and deterministic' (their statements: YtkkpblhaeliofaaTotals.lean).
  GIVEN WITH THE SEED: the statements are not yours to turn. If you find one false, say at which input.
  Laid BY PROGRAM, IN A SANDBOX (cutbox-rows.mjs): the forced cells as the released guide's own fill.sh prints them over the translation 5d63e8cea958b623… (all of the seat's roots in one cut). By AI agents, Wed Nov 11 2026. No macro, syntax, notation, axiom, sorry.
-/
import Derived.Test.YtkkpblhaeliofaaChecked
import GoSem.Claim
import GoSem.ClaimJoined
import GoSem.ClaimMapViews
import Derived.JoinedTies
import Derived.KernelRfl
namespace Go.Proofs.Ytkkpblhaeliofaa
/- THE CELL 'sum', in the pinned program and in every row, IS THE sha256 OF THE DUMP (.gsa) THAT YtkkpblhaeliofaaProg.lean LOADS. Nothing in Lean hashes anything: it is a label: what it is worth is what the hold of that sum in a sandbox is worth. -/
noncomputable def Try.pinned : Pinned := { name := "ytkkpblhaeliofaa", sum := "5d63e8cea958b623acabeffa9dc7aea0b7a1182232ffdf9ff2f051b0cfb04282", checked := Try.checked }
namespace Rows
def none {H : Type} : Left H := { results := [], args := [] }

/-- 'laws.FnExactSnapOf': WHATEVER THE INPUT: true; the input reads as it did. -/
def fnExactSnapOfSpec : ChangeSpec := { name := "fnExactSnapOf", fn := fun _ => fun
  | [d1, d2, d3, d4] => { results := [.lit (.bool true)], args := [d1, d2, d3, d4] }
  | _ => none }
def fnExactSnapOfRow : OpenClaim := { program := "ytkkpblhaeliofaa", sum := "5d63e8cea958b623acabeffa9dc7aea0b7a1182232ffdf9ff2f051b0cfb04282", func := "loop.example/g00470/laws.FnExactSnapOf", spec := "fnExactSnapOf", apart := false }
def FnExactSnapOfSaid : Prop := fnExactSnapOfRow.holds Try.pinned (OpenSpec.ofChange fnExactSnapOfSpec)

/-- ITS FALSE NEIGHBOUR: 'it returns false'. Refute it at one input. -/
def fnExactSnapOfWrong : ChangeSpec := { name := "fnExactSnapOf", fn := fun _ => fun
  | [d1, d2, d3, d4] => { results := [.lit (.bool false)], args := [d1, d2, d3, d4] }
  | _ => none }
def FnExactSnapOfWrongFalsely : Prop := fnExactSnapOfRow.holds Try.pinned (OpenSpec.ofChange fnExactSnapOfWrong)

/-- 'laws.FnFromSnap': WHATEVER THE INPUT: true; the input reads as it did. -/
def fnFromSnapSpec : ChangeSpec := { name := "fnFromSnap", fn := fun _ => fun
  | [d] => { results := [.lit (.bool true)], args := [d] }
  | _ => none }
def fnFromSnapRow : OpenClaim := { program := "ytkkpblhaeliofaa", sum := "5d63e8cea958b623acabeffa9dc7aea0b7a1182232ffdf9ff2f051b0cfb04282", func := "loop.example/g00470/laws.FnFromSnap", spec := "fnFromSnap", apart := false }
def FnFromSnapSaid : Prop := fnFromSnapRow.holds Try.pinned (OpenSpec.ofChange fnFromSnapSpec)

/-- ITS FALSE NEIGHBOUR: 'it returns false'. Refute it at one input. -/
def fnFromSnapWrong : ChangeSpec := { name := "fnFromSnap", fn := fun _ => fun
  | [d] => { results := [.lit (.bool false)], args := [d] }
  | _ => none }
def FnFromSnapWrongFalsely : Prop := fnFromSnapRow.holds Try.pinned (OpenSpec.ofChange fnFromSnapWrong)

/-- 'laws.FnSnaps': WHATEVER THE INPUT: true; the input reads as it did. -/
def fnSnapsSpec : ChangeSpec := { name := "fnSnaps", fn := fun _ => fun
  | [d] => { results := [.lit (.bool true)], args := [d] }
  | _ => none }
def fnSnapsRow : OpenClaim := { program := "ytkkpblhaeliofaa", sum := "5d63e8cea958b623acabeffa9dc7aea0b7a1182232ffdf9ff2f051b0cfb04282", func := "loop.example/g00470/laws.FnSnaps", spec := "fnSnaps", apart := false }
def FnSnapsSaid : Prop := fnSnapsRow.holds Try.pinned (OpenSpec.ofChange fnSnapsSpec)

/-- ITS FALSE NEIGHBOUR: 'it returns false'. Refute it at one input. -/
def fnSnapsWrong : ChangeSpec := { name := "fnSnaps", fn := fun _ => fun
  | [d] => { results := [.lit (.bool false)], args := [d] }
  | _ => none }
def FnSnapsWrongFalsely : Prop := fnSnapsRow.holds Try.pinned (OpenSpec.ofChange fnSnapsWrong)

/- THE SECOND FORM. 'bulk': how many values and letters a reading holds, each counted each time it is reached (what is shared counts as often as it is met; a slice's spare places count too). A statement '..UptoSaid' is the law's where the arguments, and the package variables that the reading takes, are together of bulk at most 1048576: NARROWER than '..Said'. Prove '..Said' where nothing that the law and all that it calls make is longer than what came in: it says more and counts as full. Else prove '..UptoSaid'. A law counts once. -/
mutual
def uptoBulk {H : Type} : DataW H → Nat
  | .lit (.string bytes) => bytes.length + 1
  | .lit _ => 1
  | .nil => 1
  | .ptr d => uptoBulk d + 1
  | .slice elems spare => uptoBulkAll elems + uptoBulkAll spare + 1
  | .agg parts => uptoBulkAll parts + 1
  | .iface _ d => uptoBulk d + 1
  | .map entries => uptoBulkEntries entries + 1
  | .held _ => 1
def uptoBulkAll {H : Type} : List (DataW H) → Nat
  | [] => 0
  | d :: r => uptoBulk d + uptoBulkAll r
def uptoBulkEntries {H : Type} : List (Lit × DataW H) → Nat
  | [] => 0
  | x :: r => uptoBulkEntry x + uptoBulkEntries r
def uptoBulkEntry {H : Type} : Lit × DataW H → Nat
  | (.string bytes, d) => bytes.length + uptoBulk d + 1
  | (_, d) => uptoBulk d + 1
 end
def uptoSmall : (H : Type) → List (DataW H) → Bool := fun _ ds => decide (uptoBulkAll ds ≤ 1048576)
def OpenSpec.upto (s : _root_.Go.ChangeSpec) : _root_.Go.OpenSpec := { _root_.Go.OpenSpec.ofChange s with cond := some uptoSmall }

/-- 'laws.FnExactSnapOf', WHERE WHAT IT READS IS OF BULK AT MOST 1048576: true; the input reads as it did. -/
def fnExactSnapOfUptoRow : OpenClaim := { program := "ytkkpblhaeliofaa", sum := "5d63e8cea958b623acabeffa9dc7aea0b7a1182232ffdf9ff2f051b0cfb04282", func := "loop.example/g00470/laws.FnExactSnapOf", spec := "fnExactSnapOf", apart := false, narrowed := true }
def FnExactSnapOfUptoSaid : Prop := fnExactSnapOfUptoRow.holds Try.pinned (OpenSpec.upto fnExactSnapOfSpec)

/-- 'laws.FnFromSnap', WHERE WHAT IT READS IS OF BULK AT MOST 1048576: true; the input reads as it did. -/
def fnFromSnapUptoRow : OpenClaim := { program := "ytkkpblhaeliofaa", sum := "5d63e8cea958b623acabeffa9dc7aea0b7a1182232ffdf9ff2f051b0cfb04282", func := "loop.example/g00470/laws.FnFromSnap", spec := "fnFromSnap", apart := false, narrowed := true }
def FnFromSnapUptoSaid : Prop := fnFromSnapUptoRow.holds Try.pinned (OpenSpec.upto fnFromSnapSpec)

/-- 'laws.FnSnaps', WHERE WHAT IT READS IS OF BULK AT MOST 1048576: true; the input reads as it did. -/
def fnSnapsUptoRow : OpenClaim := { program := "ytkkpblhaeliofaa", sum := "5d63e8cea958b623acabeffa9dc7aea0b7a1182232ffdf9ff2f051b0cfb04282", func := "loop.example/g00470/laws.FnSnaps", spec := "fnSnaps", apart := false, narrowed := true }
def FnSnapsUptoSaid : Prop := fnSnapsUptoRow.holds Try.pinned (OpenSpec.upto fnSnapsSpec)

end Rows
end Go.Proofs.Ytkkpblhaeliofaa
