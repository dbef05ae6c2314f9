/-
  No cell of these rows narrows 'for every input' (looked for: loops, veiled, ifaces, maps, wideKeys, modest, calm, conditions, laid).
  DERIVED. THE GIVEN ROWS OF THIS SEAT. 6 by the template 'for every input the law returns true; each argument reads behind the call as it read before'; 0 by the template 'total and deterministic' (their statements: YtgmmhnloobedjaaTotals.lean).
  GIVEN WITH THE SEED: the statements are not yours to turn. If you find one false, say at which input.
  Laid BY PROGRAM, IN A SANDBOX (cutbox-rows.mjs): the forced cells as the released guide's own fill.sh prints them over the translation 626d0d52c62095d4… (all of the seat's roots in one cut). By AI agents, Wed Nov 11 2026. No macro, syntax, notation, axiom, sorry.
-/
import Derived.Test.YtgmmhnloobedjaaChecked
import GoSem.Claim
import GoSem.ClaimJoined
import GoSem.ClaimMapViews
import Derived.JoinedTies
import Derived.KernelRfl
namespace Go.Proofs.Ytgmmhnloobedjaa
/- THE CELL 'sum', in the pinned program and in every row, IS THE sha256 OF THE DUMP (.gsa) THAT YtgmmhnloobedjaaProg.lean LOADS. Nothing in Lean hashes anything: it is a label: what it is worth is what the hold of that sum in a sandbox is worth. -/
noncomputable def Try.pinned : Pinned := { name := "ytgmmhnloobedjaa", sum := "626d0d52c62095d474afbd186d680ea580d38459464014d4514a916f4b650744", checked := Try.checked }
namespace Rows
def none {H : Type} : Left H := { results := [], args := [] }

/-- 'laws.FnExactFlagsOf': WHATEVER THE INPUT: true; the input reads as it did. -/
def fnExactFlagsOfSpec : ChangeSpec := { name := "fnExactFlagsOf", fn := fun _ => fun
  | [d] => { results := [.lit (.bool true)], args := [d] }
  | _ => none }
def fnExactFlagsOfRow : OpenClaim := { program := "ytgmmhnloobedjaa", sum := "626d0d52c62095d474afbd186d680ea580d38459464014d4514a916f4b650744", func := "loop.example/g00470/laws.FnExactFlagsOf", spec := "fnExactFlagsOf", apart := false }
def FnExactFlagsOfSaid : Prop := fnExactFlagsOfRow.holds Try.pinned (OpenSpec.ofChange fnExactFlagsOfSpec)

/-- ITS FALSE NEIGHBOUR: 'it returns false'. Refute it at one input. -/
def fnExactFlagsOfWrong : ChangeSpec := { name := "fnExactFlagsOf", fn := fun _ => fun
  | [d] => { results := [.lit (.bool false)], args := [d] }
  | _ => none }
def FnExactFlagsOfWrongFalsely : Prop := fnExactFlagsOfRow.holds Try.pinned (OpenSpec.ofChange fnExactFlagsOfWrong)

/-- 'laws.FnExactAdmitAll': WHATEVER THE INPUT: true; the input reads as it did. -/
def fnExactAdmitAllSpec : ChangeSpec := { name := "fnExactAdmitAll", fn := fun _ => fun
  | [d1, d2] => { results := [.lit (.bool true)], args := [d1, d2] }
  | _ => none }
def fnExactAdmitAllRow : OpenClaim := { program := "ytgmmhnloobedjaa", sum := "626d0d52c62095d474afbd186d680ea580d38459464014d4514a916f4b650744", func := "loop.example/g00470/laws.FnExactAdmitAll", spec := "fnExactAdmitAll", apart := false }
def FnExactAdmitAllSaid : Prop := fnExactAdmitAllRow.holds Try.pinned (OpenSpec.ofChange fnExactAdmitAllSpec)

/-- ITS FALSE NEIGHBOUR: 'it returns false'. Refute it at one input. -/
def fnExactAdmitAllWrong : ChangeSpec := { name := "fnExactAdmitAll", fn := fun _ => fun
  | [d1, d2] => { results := [.lit (.bool false)], args := [d1, d2] }
  | _ => none }
def FnExactAdmitAllWrongFalsely : Prop := fnExactAdmitAllRow.holds Try.pinned (OpenSpec.ofChange fnExactAdmitAllWrong)

/-- 'laws.FnExactClaimIn': WHATEVER THE INPUT: true; the input reads as it did. -/
def fnExactClaimInSpec : ChangeSpec := { name := "fnExactClaimIn", fn := fun _ => fun
  | [d1, d2] => { results := [.lit (.bool true)], args := [d1, d2] }
  | _ => none }
def fnExactClaimInRow : OpenClaim := { program := "ytgmmhnloobedjaa", sum := "626d0d52c62095d474afbd186d680ea580d38459464014d4514a916f4b650744", func := "loop.example/g00470/laws.FnExactClaimIn", spec := "fnExactClaimIn", apart := false }
def FnExactClaimInSaid : Prop := fnExactClaimInRow.holds Try.pinned (OpenSpec.ofChange fnExactClaimInSpec)

/-- ITS FALSE NEIGHBOUR: 'it returns false'. Refute it at one input. -/
def fnExactClaimInWrong : ChangeSpec := { name := "fnExactClaimIn", fn := fun _ => fun
  | [d1, d2] => { results := [.lit (.bool false)], args := [d1, d2] }
  | _ => none }
def FnExactClaimInWrongFalsely : Prop := fnExactClaimInRow.holds Try.pinned (OpenSpec.ofChange fnExactClaimInWrong)

/-- 'laws.FnExactCopyOk': WHATEVER THE INPUT: true; the input reads as it did. -/
def fnExactCopyOkSpec : ChangeSpec := { name := "fnExactCopyOk", fn := fun _ => fun
  | [d] => { results := [.lit (.bool true)], args := [d] }
  | _ => none }
def fnExactCopyOkRow : OpenClaim := { program := "ytgmmhnloobedjaa", sum := "626d0d52c62095d474afbd186d680ea580d38459464014d4514a916f4b650744", func := "loop.example/g00470/laws.FnExactCopyOk", spec := "fnExactCopyOk", apart := false }
def FnExactCopyOkSaid : Prop := fnExactCopyOkRow.holds Try.pinned (OpenSpec.ofChange fnExactCopyOkSpec)

/-- ITS FALSE NEIGHBOUR: 'it returns false'. Refute it at one input. -/
def fnExactCopyOkWrong : ChangeSpec := { name := "fnExactCopyOk", fn := fun _ => fun
  | [d] => { results := [.lit (.bool false)], args := [d] }
  | _ => none }
def FnExactCopyOkWrongFalsely : Prop := fnExactCopyOkRow.holds Try.pinned (OpenSpec.ofChange fnExactCopyOkWrong)

/-- 'laws.FnExactLacks': WHATEVER THE INPUT: true; the input reads as it did. -/
def fnExactLacksSpec : ChangeSpec := { name := "fnExactLacks", fn := fun _ => fun
  | [d1, d2] => { results := [.lit (.bool true)], args := [d1, d2] }
  | _ => none }
def fnExactLacksRow : OpenClaim := { program := "ytgmmhnloobedjaa", sum := "626d0d52c62095d474afbd186d680ea580d38459464014d4514a916f4b650744", func := "loop.example/g00470/laws.FnExactLacks", spec := "fnExactLacks", apart := false }
def FnExactLacksSaid : Prop := fnExactLacksRow.holds Try.pinned (OpenSpec.ofChange fnExactLacksSpec)

/-- ITS FALSE NEIGHBOUR: 'it returns false'. Refute it at one input. -/
def fnExactLacksWrong : ChangeSpec := { name := "fnExactLacks", fn := fun _ => fun
  | [d1, d2] => { results := [.lit (.bool false)], args := [d1, d2] }
  | _ => none }
def FnExactLacksWrongFalsely : Prop := fnExactLacksRow.holds Try.pinned (OpenSpec.ofChange fnExactLacksWrong)

/-- 'laws.FnExactBpduBytes': WHATEVER THE INPUT: true; the input reads as it did. -/
def fnExactBpduBytesSpec : ChangeSpec := { name := "fnExactBpduBytes", fn := fun _ => fun
  | [d] => { results := [.lit (.bool true)], args := [d] }
  | _ => none }
def fnExactBpduBytesRow : OpenClaim := { program := "ytgmmhnloobedjaa", sum := "626d0d52c62095d474afbd186d680ea580d38459464014d4514a916f4b650744", func := "loop.example/g00470/laws.FnExactBpduBytes", spec := "fnExactBpduBytes", apart := false }
def FnExactBpduBytesSaid : Prop := fnExactBpduBytesRow.holds Try.pinned (OpenSpec.ofChange fnExactBpduBytesSpec)

/-- ITS FALSE NEIGHBOUR: 'it returns false'. Refute it at one input. -/
def fnExactBpduBytesWrong : ChangeSpec := { name := "fnExactBpduBytes", fn := fun _ => fun
  | [d] => { results := [.lit (.bool false)], args := [d] }
  | _ => none }
def FnExactBpduBytesWrongFalsely : Prop := fnExactBpduBytesRow.holds Try.pinned (OpenSpec.ofChange fnExactBpduBytesWrong)

/- THE SECOND FORM. 'bulk': how many values and letters a reading holds, each counted each time it is reached (what is shared counts as often as it is met; a slice's spare places count too). A statement '..UptoSaid' is the law's where the arguments, and the package variables that the reading takes, are together of bulk at most 1048576: NARROWER than '..Said'. Prove '..Said' where nothing that the law and all that it calls make is longer than what came in: it says more and counts as full. Else prove '..UptoSaid'. A law counts once. -/
mutual
def uptoBulk {H : Type} : DataW H → Nat
  | .lit (.string bytes) => bytes.length + 1
  | .lit _ => 1
  | .nil => 1
  | .ptr d => uptoBulk d + 1
  | .slice elems spare => uptoBulkAll elems + uptoBulkAll spare + 1
  | .agg parts => uptoBulkAll parts + 1
  | .iface _ d => uptoBulk d + 1
  | .map entries => uptoBulkEntries entries + 1
  | .held _ => 1
def uptoBulkAll {H : Type} : List (DataW H) → Nat
  | [] => 0
  | d :: r => uptoBulk d + uptoBulkAll r
def uptoBulkEntries {H : Type} : List (Lit × DataW H) → Nat
  | [] => 0
  | x :: r => uptoBulkEntry x + uptoBulkEntries r
def uptoBulkEntry {H : Type} : Lit × DataW H → Nat
  | (.string bytes, d) => bytes.length + uptoBulk d + 1
  | (_, d) => uptoBulk d + 1
 end
def uptoSmall : (H : Type) → List (DataW H) → Bool := fun _ ds => decide (uptoBulkAll ds ≤ 1048576)
def OpenSpec.upto (s : _root_.Go.ChangeSpec) : _root_.Go.OpenSpec := { _root_.Go.OpenSpec.ofChange s with cond := some uptoSmall }

/-- 'laws.FnExactFlagsOf', WHERE WHAT IT READS IS OF BULK AT MOST 1048576: true; the input reads as it did. -/
def fnExactFlagsOfUptoRow : OpenClaim := { program := "ytgmmhnloobedjaa", sum := "626d0d52c62095d474afbd186d680ea580d38459464014d4514a916f4b650744", func := "loop.example/g00470/laws.FnExactFlagsOf", spec := "fnExactFlagsOf", apart := false, narrowed := true }
def FnExactFlagsOfUptoSaid : Prop := fnExactFlagsOfUptoRow.holds Try.pinned (OpenSpec.upto fnExactFlagsOfSpec)

/-- 'laws.FnExactAdmitAll', WHERE WHAT IT READS IS OF BULK AT MOST 1048576: true; the input reads as it did. -/
def fnExactAdmitAllUptoRow : OpenClaim := { program := "ytgmmhnloobedjaa", sum := "626d0d52c62095d474afbd186d680ea580d38459464014d4514a916f4b650744", func := "loop.example/g00470/laws.FnExactAdmitAll", spec := "fnExactAdmitAll", apart := false, narrowed := true }
def FnExactAdmitAllUptoSaid : Prop := fnExactAdmitAllUptoRow.holds Try.pinned (OpenSpec.upto fnExactAdmitAllSpec)

/-- 'laws.FnExactClaimIn', WHERE WHAT IT READS IS OF BULK AT MOST 1048576: true; the input reads as it did. -/
def fnExactClaimInUptoRow : OpenClaim := { program := "ytgmmhnloobedjaa", sum := "626d0d52c62095d474afbd186d680ea580d38459464014d4514a916f4b650744", func := "loop.example/g00470/laws.FnExactClaimIn", spec := "fnExactClaimIn", apart := false, narrowed := true }
def FnExactClaimInUptoSaid : Prop := fnExactClaimInUptoRow.holds Try.pinned (OpenSpec.upto fnExactClaimInSpec)

/-- 'laws.FnExactCopyOk', WHERE WHAT IT READS IS OF BULK AT MOST 1048576: true; the input reads as it did. -/
def fnExactCopyOkUptoRow : OpenClaim := { program := "ytgmmhnloobedjaa", sum := "626d0d52c62095d474afbd186d680ea580d38459464014d4514a916f4b650744", func := "loop.example/g00470/laws.FnExactCopyOk", spec := "fnExactCopyOk", apart := false, narrowed := true }
def FnExactCopyOkUptoSaid : Prop := fnExactCopyOkUptoRow.holds Try.pinned (OpenSpec.upto fnExactCopyOkSpec)

/-- 'laws.FnExactLacks', WHERE WHAT IT READS IS OF BULK AT MOST 1048576: true; the input reads as it did. -/
def fnExactLacksUptoRow : OpenClaim := { program := "ytgmmhnloobedjaa", sum := "626d0d52c62095d474afbd186d680ea580d38459464014d4514a916f4b650744", func := "loop.example/g00470/laws.FnExactLacks", spec := "fnExactLacks", apart := false, narrowed := true }
def FnExactLacksUptoSaid : Prop := fnExactLacksUptoRow.holds Try.pinned (OpenSpec.upto fnExactLacksSpec)

/-- 'laws.FnExactBpduBytes', WHERE WHAT IT READS IS OF BULK AT MOST 1048576: true; the input reads as it did. -/
def fnExactBpduBytesUptoRow : OpenClaim := { program := "ytgmmhnloobedjaa", sum := "626d0d52c62095d474afbd186d680ea580d38459464014d4514a916f4b650744", func := "loop.example/g00470/laws.FnExactBpduBytes", spec := "fnExactBpduBytes", apart := false, narrowed := true }
def FnExactBpduBytesUptoSaid : Prop := fnExactBpduBytesUptoRow.holds Try.pinned (OpenSpec.upto fnExactBpduBytesSpec)

end Rows
end Go.Proofs.Ytgmmhnloobedjaa
