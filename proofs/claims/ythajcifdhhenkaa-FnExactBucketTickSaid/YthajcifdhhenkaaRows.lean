/-
  No cell of these rows narrows 'for every input' (looked for: loops, veiled, ifaces, maps, wideKeys, modest, calm, conditions, laid).
  DERIVED. THE GIVEN ROWS OF THIS SEAT. 6 by the template 'for every input the law returns true; each argument reads behind the call as it read before'; 0 by the template 'total and deterministic' (their statements: YthajcifdhhenkaaTotals.lean).
  GIVEN WITH THE SEED: the statements are not yours to turn. If you find one false, say at which input.
  Laid BY PROGRAM, IN A SANDBOX (cutbox-rows.mjs): the forced cells as the released guide's own fill.sh prints them over the translation e828c4c8878c4946… (all of the seat's roots in one cut). By AI agents, Wed Nov 11 2026. No macro, syntax, notation, axiom, sorry.
-/
import Derived.Test.YthajcifdhhenkaaChecked
import GoSem.Claim
import GoSem.ClaimJoined
import GoSem.ClaimMapViews
import Derived.JoinedTies
import Derived.KernelRfl
namespace Go.Proofs.Ythajcifdhhenkaa
/- THE CELL 'sum', in the pinned program and in every row, IS THE sha256 OF THE DUMP (.gsa) THAT YthajcifdhhenkaaProg.lean LOADS. Nothing in Lean hashes anything: it is a label: what it is worth is what the hold of that sum in a sandbox is worth. -/
noncomputable def Try.pinned : Pinned := { name := "ythajcifdhhenkaa", sum := "e828c4c8878c4946199d684c9c8ab7b231d71d7fb979bd1b05cd42ab23bb81eb", checked := Try.checked }
namespace Rows
def none {H : Type} : Left H := { results := [], args := [] }

/-- 'laws.FnExactBucketOk': WHATEVER THE INPUT: true; the input reads as it did. -/
def fnExactBucketOkSpec : ChangeSpec := { name := "fnExactBucketOk", fn := fun _ => fun
  | [d] => { results := [.lit (.bool true)], args := [d] }
  | _ => none }
def fnExactBucketOkRow : OpenClaim := { program := "ythajcifdhhenkaa", sum := "e828c4c8878c4946199d684c9c8ab7b231d71d7fb979bd1b05cd42ab23bb81eb", func := "loop.example/g00470/laws.FnExactBucketOk", spec := "fnExactBucketOk", apart := false }
def FnExactBucketOkSaid : Prop := fnExactBucketOkRow.holds Try.pinned (OpenSpec.ofChange fnExactBucketOkSpec)

/-- ITS FALSE NEIGHBOUR: 'it returns false'. Refute it at one input. -/
def fnExactBucketOkWrong : ChangeSpec := { name := "fnExactBucketOk", fn := fun _ => fun
  | [d] => { results := [.lit (.bool false)], args := [d] }
  | _ => none }
def FnExactBucketOkWrongFalsely : Prop := fnExactBucketOkRow.holds Try.pinned (OpenSpec.ofChange fnExactBucketOkWrong)

/-- 'laws.FnExactUpOk': WHATEVER THE INPUT: true; the input reads as it did. -/
def fnExactUpOkSpec : ChangeSpec := { name := "fnExactUpOk", fn := fun _ => fun
  | [d] => { results := [.lit (.bool true)], args := [d] }
  | _ => none }
def fnExactUpOkRow : OpenClaim := { program := "ythajcifdhhenkaa", sum := "e828c4c8878c4946199d684c9c8ab7b231d71d7fb979bd1b05cd42ab23bb81eb", func := "loop.example/g00470/laws.FnExactUpOk", spec := "fnExactUpOk", apart := false }
def FnExactUpOkSaid : Prop := fnExactUpOkRow.holds Try.pinned (OpenSpec.ofChange fnExactUpOkSpec)

/-- ITS FALSE NEIGHBOUR: 'it returns false'. Refute it at one input. -/
def fnExactUpOkWrong : ChangeSpec := { name := "fnExactUpOk", fn := fun _ => fun
  | [d] => { results := [.lit (.bool false)], args := [d] }
  | _ => none }
def FnExactUpOkWrongFalsely : Prop := fnExactUpOkRow.holds Try.pinned (OpenSpec.ofChange fnExactUpOkWrong)

/-- 'laws.FnExactBucketNew': WHATEVER THE INPUT: true; the input reads as it did. -/
def fnExactBucketNewSpec : ChangeSpec := { name := "fnExactBucketNew", fn := fun _ => fun
  | [d1, d2] => { results := [.lit (.bool true)], args := [d1, d2] }
  | _ => none }
def fnExactBucketNewRow : OpenClaim := { program := "ythajcifdhhenkaa", sum := "e828c4c8878c4946199d684c9c8ab7b231d71d7fb979bd1b05cd42ab23bb81eb", func := "loop.example/g00470/laws.FnExactBucketNew", spec := "fnExactBucketNew", apart := false }
def FnExactBucketNewSaid : Prop := fnExactBucketNewRow.holds Try.pinned (OpenSpec.ofChange fnExactBucketNewSpec)

/-- ITS FALSE NEIGHBOUR: 'it returns false'. Refute it at one input. -/
def fnExactBucketNewWrong : ChangeSpec := { name := "fnExactBucketNew", fn := fun _ => fun
  | [d1, d2] => { results := [.lit (.bool false)], args := [d1, d2] }
  | _ => none }
def FnExactBucketNewWrongFalsely : Prop := fnExactBucketNewRow.holds Try.pinned (OpenSpec.ofChange fnExactBucketNewWrong)

/-- 'laws.FnExactAdmit': WHATEVER THE INPUT: true; the input reads as it did. -/
def fnExactAdmitSpec : ChangeSpec := { name := "fnExactAdmit", fn := fun _ => fun
  | [d1, d2] => { results := [.lit (.bool true)], args := [d1, d2] }
  | _ => none }
def fnExactAdmitRow : OpenClaim := { program := "ythajcifdhhenkaa", sum := "e828c4c8878c4946199d684c9c8ab7b231d71d7fb979bd1b05cd42ab23bb81eb", func := "loop.example/g00470/laws.FnExactAdmit", spec := "fnExactAdmit", apart := false }
def FnExactAdmitSaid : Prop := fnExactAdmitRow.holds Try.pinned (OpenSpec.ofChange fnExactAdmitSpec)

/-- ITS FALSE NEIGHBOUR: 'it returns false'. Refute it at one input. -/
def fnExactAdmitWrong : ChangeSpec := { name := "fnExactAdmit", fn := fun _ => fun
  | [d1, d2] => { results := [.lit (.bool false)], args := [d1, d2] }
  | _ => none }
def FnExactAdmitWrongFalsely : Prop := fnExactAdmitRow.holds Try.pinned (OpenSpec.ofChange fnExactAdmitWrong)

/-- 'laws.FnExactBpduOk': WHATEVER THE INPUT: true; the input reads as it did. -/
def fnExactBpduOkSpec : ChangeSpec := { name := "fnExactBpduOk", fn := fun _ => fun
  | [d] => { results := [.lit (.bool true)], args := [d] }
  | _ => none }
def fnExactBpduOkRow : OpenClaim := { program := "ythajcifdhhenkaa", sum := "e828c4c8878c4946199d684c9c8ab7b231d71d7fb979bd1b05cd42ab23bb81eb", func := "loop.example/g00470/laws.FnExactBpduOk", spec := "fnExactBpduOk", apart := false }
def FnExactBpduOkSaid : Prop := fnExactBpduOkRow.holds Try.pinned (OpenSpec.ofChange fnExactBpduOkSpec)

/-- ITS FALSE NEIGHBOUR: 'it returns false'. Refute it at one input. -/
def fnExactBpduOkWrong : ChangeSpec := { name := "fnExactBpduOk", fn := fun _ => fun
  | [d] => { results := [.lit (.bool false)], args := [d] }
  | _ => none }
def FnExactBpduOkWrongFalsely : Prop := fnExactBpduOkRow.holds Try.pinned (OpenSpec.ofChange fnExactBpduOkWrong)

/-- 'laws.FnExactBucketTick': WHATEVER THE INPUT: true; the input reads as it did. -/
def fnExactBucketTickSpec : ChangeSpec := { name := "fnExactBucketTick", fn := fun _ => fun
  | [d] => { results := [.lit (.bool true)], args := [d] }
  | _ => none }
def fnExactBucketTickRow : OpenClaim := { program := "ythajcifdhhenkaa", sum := "e828c4c8878c4946199d684c9c8ab7b231d71d7fb979bd1b05cd42ab23bb81eb", func := "loop.example/g00470/laws.FnExactBucketTick", spec := "fnExactBucketTick", apart := false }
def FnExactBucketTickSaid : Prop := fnExactBucketTickRow.holds Try.pinned (OpenSpec.ofChange fnExactBucketTickSpec)

/-- ITS FALSE NEIGHBOUR: 'it returns false'. Refute it at one input. -/
def fnExactBucketTickWrong : ChangeSpec := { name := "fnExactBucketTick", fn := fun _ => fun
  | [d] => { results := [.lit (.bool false)], args := [d] }
  | _ => none }
def FnExactBucketTickWrongFalsely : Prop := fnExactBucketTickRow.holds Try.pinned (OpenSpec.ofChange fnExactBucketTickWrong)

/- THE SECOND FORM. 'bulk': how many values and letters a reading holds, each counted each time it is reached (what is shared counts as often as it is met; a slice's spare places count too). A statement '..UptoSaid' is the law's where the arguments, and the package variables that the reading takes, are together of bulk at most 1048576: NARROWER than '..Said'. Prove '..Said' where nothing that the law and all that it calls make is longer than what came in: it says more and counts as full. Else prove '..UptoSaid'. A law counts once. -/
mutual
def uptoBulk {H : Type} : DataW H → Nat
  | .lit (.string bytes) => bytes.length + 1
  | .lit _ => 1
  | .nil => 1
  | .ptr d => uptoBulk d + 1
  | .slice elems spare => uptoBulkAll elems + uptoBulkAll spare + 1
  | .agg parts => uptoBulkAll parts + 1
  | .iface _ d => uptoBulk d + 1
  | .map entries => uptoBulkEntries entries + 1
  | .held _ => 1
def uptoBulkAll {H : Type} : List (DataW H) → Nat
  | [] => 0
  | d :: r => uptoBulk d + uptoBulkAll r
def uptoBulkEntries {H : Type} : List (Lit × DataW H) → Nat
  | [] => 0
  | x :: r => uptoBulkEntry x + uptoBulkEntries r
def uptoBulkEntry {H : Type} : Lit × DataW H → Nat
  | (.string bytes, d) => bytes.length + uptoBulk d + 1
  | (_, d) => uptoBulk d + 1
 end
def uptoSmall : (H : Type) → List (DataW H) → Bool := fun _ ds => decide (uptoBulkAll ds ≤ 1048576)
def OpenSpec.upto (s : _root_.Go.ChangeSpec) : _root_.Go.OpenSpec := { _root_.Go.OpenSpec.ofChange s with cond := some uptoSmall }

/-- 'laws.FnExactBucketOk', WHERE WHAT IT READS IS OF BULK AT MOST 1048576: true; the input reads as it did. -/
def fnExactBucketOkUptoRow : OpenClaim := { program := "ythajcifdhhenkaa", sum := "e828c4c8878c4946199d684c9c8ab7b231d71d7fb979bd1b05cd42ab23bb81eb", func := "loop.example/g00470/laws.FnExactBucketOk", spec := "fnExactBucketOk", apart := false, narrowed := true }
def FnExactBucketOkUptoSaid : Prop := fnExactBucketOkUptoRow.holds Try.pinned (OpenSpec.upto fnExactBucketOkSpec)

/-- 'laws.FnExactUpOk', WHERE WHAT IT READS IS OF BULK AT MOST 1048576: true; the input reads as it did. -/
def fnExactUpOkUptoRow : OpenClaim := { program := "ythajcifdhhenkaa", sum := "e828c4c8878c4946199d684c9c8ab7b231d71d7fb979bd1b05cd42ab23bb81eb", func := "loop.example/g00470/laws.FnExactUpOk", spec := "fnExactUpOk", apart := false, narrowed := true }
def FnExactUpOkUptoSaid : Prop := fnExactUpOkUptoRow.holds Try.pinned (OpenSpec.upto fnExactUpOkSpec)

/-- 'laws.FnExactBucketNew', WHERE WHAT IT READS IS OF BULK AT MOST 1048576: true; the input reads as it did. -/
def fnExactBucketNewUptoRow : OpenClaim := { program := "ythajcifdhhenkaa", sum := "e828c4c8878c4946199d684c9c8ab7b231d71d7fb979bd1b05cd42ab23bb81eb", func := "loop.example/g00470/laws.FnExactBucketNew", spec := "fnExactBucketNew", apart := false, narrowed := true }
def FnExactBucketNewUptoSaid : Prop := fnExactBucketNewUptoRow.holds Try.pinned (OpenSpec.upto fnExactBucketNewSpec)

/-- 'laws.FnExactAdmit', WHERE WHAT IT READS IS OF BULK AT MOST 1048576: true; the input reads as it did. -/
def fnExactAdmitUptoRow : OpenClaim := { program := "ythajcifdhhenkaa", sum := "e828c4c8878c4946199d684c9c8ab7b231d71d7fb979bd1b05cd42ab23bb81eb", func := "loop.example/g00470/laws.FnExactAdmit", spec := "fnExactAdmit", apart := false, narrowed := true }
def FnExactAdmitUptoSaid : Prop := fnExactAdmitUptoRow.holds Try.pinned (OpenSpec.upto fnExactAdmitSpec)

/-- 'laws.FnExactBpduOk', WHERE WHAT IT READS IS OF BULK AT MOST 1048576: true; the input reads as it did. -/
def fnExactBpduOkUptoRow : OpenClaim := { program := "ythajcifdhhenkaa", sum := "e828c4c8878c4946199d684c9c8ab7b231d71d7fb979bd1b05cd42ab23bb81eb", func := "loop.example/g00470/laws.FnExactBpduOk", spec := "fnExactBpduOk", apart := false, narrowed := true }
def FnExactBpduOkUptoSaid : Prop := fnExactBpduOkUptoRow.holds Try.pinned (OpenSpec.upto fnExactBpduOkSpec)

/-- 'laws.FnExactBucketTick', WHERE WHAT IT READS IS OF BULK AT MOST 1048576: true; the input reads as it did. -/
def fnExactBucketTickUptoRow : OpenClaim := { program := "ythajcifdhhenkaa", sum := "e828c4c8878c4946199d684c9c8ab7b231d71d7fb979bd1b05cd42ab23bb81eb", func := "loop.example/g00470/laws.FnExactBucketTick", spec := "fnExactBucketTick", apart := false, narrowed := true }
def FnExactBucketTickUptoSaid : Prop := fnExactBucketTickUptoRow.holds Try.pinned (OpenSpec.upto fnExactBucketTickSpec)

end Rows
end Go.Proofs.Ythajcifdhhenkaa
