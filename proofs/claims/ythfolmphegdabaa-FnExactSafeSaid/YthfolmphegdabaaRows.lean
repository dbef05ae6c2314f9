/-
  No cell of these rows narrows 'for every input' (looked for: loops, veiled, ifaces, maps, wideKeys, modest, calm, conditions, laid).
  DERIVED. THE GIVEN ROWS OF THIS SEAT. 5 by the template 'for every input the law returns true; each argument reads behind the call as it read before'; 0 by the template 'total and deterministic' (their statements: YthfolmphegdabaaTotals.lean).
  GIVEN WITH THE SEED: the statements are not yours to turn. If you find one false, say at which input.
  Laid BY PROGRAM, IN A SANDBOX (cutbox-rows.mjs): the forced cells as the released guide's own fill.sh prints them over the translation e4a8cd90c713d333… (all of the seat's roots in one cut). By AI agents, Wed Nov 11 2026. No macro, syntax, notation, axiom, sorry.
-/
import Derived.Test.YthfolmphegdabaaChecked
import GoSem.Claim
import GoSem.ClaimJoined
import GoSem.ClaimMapViews
import Derived.JoinedTies
import Derived.KernelRfl
namespace Go.Proofs.Ythfolmphegdabaa
/- THE CELL 'sum', in the pinned program and in every row, IS THE sha256 OF THE DUMP (.gsa) THAT YthfolmphegdabaaProg.lean LOADS. Nothing in Lean hashes anything: it is a label: what it is worth is what the hold of that sum in a sandbox is worth. -/
noncomputable def Try.pinned : Pinned := { name := "ythfolmphegdabaa", sum := "e4a8cd90c713d333753cbf5b4a0b7f04a58097e728261b19e279c627ee8452e9", checked := Try.checked }
namespace Rows
def none {H : Type} : Left H := { results := [], args := [] }

/-- 'laws.FnExactLag': WHATEVER THE INPUT: true; the input reads as it did. -/
def fnExactLagSpec : ChangeSpec := { name := "fnExactLag", fn := fun _ => fun
  | [d] => { results := [.lit (.bool true)], args := [d] }
  | _ => none }
def fnExactLagRow : OpenClaim := { program := "ythfolmphegdabaa", sum := "e4a8cd90c713d333753cbf5b4a0b7f04a58097e728261b19e279c627ee8452e9", func := "loop.example/g00470/laws.FnExactLag", spec := "fnExactLag", apart := false }
def FnExactLagSaid : Prop := fnExactLagRow.holds Try.pinned (OpenSpec.ofChange fnExactLagSpec)

/-- ITS FALSE NEIGHBOUR: 'it returns false'. Refute it at one input. -/
def fnExactLagWrong : ChangeSpec := { name := "fnExactLag", fn := fun _ => fun
  | [d] => { results := [.lit (.bool false)], args := [d] }
  | _ => none }
def FnExactLagWrongFalsely : Prop := fnExactLagRow.holds Try.pinned (OpenSpec.ofChange fnExactLagWrong)

/-- 'laws.FnExactBehind': WHATEVER THE INPUT: true; the input reads as it did. -/
def fnExactBehindSpec : ChangeSpec := { name := "fnExactBehind", fn := fun _ => fun
  | [d] => { results := [.lit (.bool true)], args := [d] }
  | _ => none }
def fnExactBehindRow : OpenClaim := { program := "ythfolmphegdabaa", sum := "e4a8cd90c713d333753cbf5b4a0b7f04a58097e728261b19e279c627ee8452e9", func := "loop.example/g00470/laws.FnExactBehind", spec := "fnExactBehind", apart := false }
def FnExactBehindSaid : Prop := fnExactBehindRow.holds Try.pinned (OpenSpec.ofChange fnExactBehindSpec)

/-- ITS FALSE NEIGHBOUR: 'it returns false'. Refute it at one input. -/
def fnExactBehindWrong : ChangeSpec := { name := "fnExactBehind", fn := fun _ => fun
  | [d] => { results := [.lit (.bool false)], args := [d] }
  | _ => none }
def FnExactBehindWrongFalsely : Prop := fnExactBehindRow.holds Try.pinned (OpenSpec.ofChange fnExactBehindWrong)

/-- 'laws.FnExactPathTo': WHATEVER THE INPUT: true; the input reads as it did. -/
def fnExactPathToSpec : ChangeSpec := { name := "fnExactPathTo", fn := fun _ => fun
  | [d1, d2, d3] => { results := [.lit (.bool true)], args := [d1, d2, d3] }
  | _ => none }
def fnExactPathToRow : OpenClaim := { program := "ythfolmphegdabaa", sum := "e4a8cd90c713d333753cbf5b4a0b7f04a58097e728261b19e279c627ee8452e9", func := "loop.example/g00470/laws.FnExactPathTo", spec := "fnExactPathTo", unfollowed := true, recurses := true, apart := false }
def FnExactPathToSaid : Prop := fnExactPathToRow.holds Try.pinned (OpenSpec.ofChange fnExactPathToSpec)

/-- ITS FALSE NEIGHBOUR: 'it returns false'. Refute it at one input. -/
def fnExactPathToWrong : ChangeSpec := { name := "fnExactPathTo", fn := fun _ => fun
  | [d1, d2, d3] => { results := [.lit (.bool false)], args := [d1, d2, d3] }
  | _ => none }
def FnExactPathToWrongFalsely : Prop := fnExactPathToRow.holds Try.pinned (OpenSpec.ofChange fnExactPathToWrong)

/-- 'laws.FnExactSafe': WHATEVER THE INPUT: true; the input reads as it did. -/
def fnExactSafeSpec : ChangeSpec := { name := "fnExactSafe", fn := fun _ => fun
  | [d] => { results := [.lit (.bool true)], args := [d] }
  | _ => none }
def fnExactSafeRow : OpenClaim := { program := "ythfolmphegdabaa", sum := "e4a8cd90c713d333753cbf5b4a0b7f04a58097e728261b19e279c627ee8452e9", func := "loop.example/g00470/laws.FnExactSafe", spec := "fnExactSafe", apart := false }
def FnExactSafeSaid : Prop := fnExactSafeRow.holds Try.pinned (OpenSpec.ofChange fnExactSafeSpec)

/-- ITS FALSE NEIGHBOUR: 'it returns false'. Refute it at one input. -/
def fnExactSafeWrong : ChangeSpec := { name := "fnExactSafe", fn := fun _ => fun
  | [d] => { results := [.lit (.bool false)], args := [d] }
  | _ => none }
def FnExactSafeWrongFalsely : Prop := fnExactSafeRow.holds Try.pinned (OpenSpec.ofChange fnExactSafeWrong)

/-- 'laws.FnExactSnapOf': WHATEVER THE INPUT: true; the input reads as it did. -/
def fnExactSnapOfSpec : ChangeSpec := { name := "fnExactSnapOf", fn := fun _ => fun
  | [d1, d2, d3, d4] => { results := [.lit (.bool true)], args := [d1, d2, d3, d4] }
  | _ => none }
def fnExactSnapOfRow : OpenClaim := { program := "ythfolmphegdabaa", sum := "e4a8cd90c713d333753cbf5b4a0b7f04a58097e728261b19e279c627ee8452e9", func := "loop.example/g00470/laws.FnExactSnapOf", spec := "fnExactSnapOf", apart := false }
def FnExactSnapOfSaid : Prop := fnExactSnapOfRow.holds Try.pinned (OpenSpec.ofChange fnExactSnapOfSpec)

/-- ITS FALSE NEIGHBOUR: 'it returns false'. Refute it at one input. -/
def fnExactSnapOfWrong : ChangeSpec := { name := "fnExactSnapOf", fn := fun _ => fun
  | [d1, d2, d3, d4] => { results := [.lit (.bool false)], args := [d1, d2, d3, d4] }
  | _ => none }
def FnExactSnapOfWrongFalsely : Prop := fnExactSnapOfRow.holds Try.pinned (OpenSpec.ofChange fnExactSnapOfWrong)

/- THE SECOND FORM. 'bulk': how many values and letters a reading holds, each counted each time it is reached (what is shared counts as often as it is met; a slice's spare places count too). A statement '..UptoSaid' is the law's where the arguments, and the package variables that the reading takes, are together of bulk at most 1048576: NARROWER than '..Said'. Prove '..Said' where nothing that the law and all that it calls make is longer than what came in: it says more and counts as full. Else prove '..UptoSaid'. A law counts once. -/
mutual
def uptoBulk {H : Type} : DataW H → Nat
  | .lit (.string bytes) => bytes.length + 1
  | .lit _ => 1
  | .nil => 1
  | .ptr d => uptoBulk d + 1
  | .slice elems spare => uptoBulkAll elems + uptoBulkAll spare + 1
  | .agg parts => uptoBulkAll parts + 1
  | .iface _ d => uptoBulk d + 1
  | .map entries => uptoBulkEntries entries + 1
  | .held _ => 1
def uptoBulkAll {H : Type} : List (DataW H) → Nat
  | [] => 0
  | d :: r => uptoBulk d + uptoBulkAll r
def uptoBulkEntries {H : Type} : List (Lit × DataW H) → Nat
  | [] => 0
  | x :: r => uptoBulkEntry x + uptoBulkEntries r
def uptoBulkEntry {H : Type} : Lit × DataW H → Nat
  | (.string bytes, d) => bytes.length + uptoBulk d + 1
  | (_, d) => uptoBulk d + 1
 end
def uptoSmall : (H : Type) → List (DataW H) → Bool := fun _ ds => decide (uptoBulkAll ds ≤ 1048576)
def OpenSpec.upto (s : _root_.Go.ChangeSpec) : _root_.Go.OpenSpec := { _root_.Go.OpenSpec.ofChange s with cond := some uptoSmall }

/-- 'laws.FnExactLag', WHERE WHAT IT READS IS OF BULK AT MOST 1048576: true; the input reads as it did. -/
def fnExactLagUptoRow : OpenClaim := { program := "ythfolmphegdabaa", sum := "e4a8cd90c713d333753cbf5b4a0b7f04a58097e728261b19e279c627ee8452e9", func := "loop.example/g00470/laws.FnExactLag", spec := "fnExactLag", apart := false, narrowed := true }
def FnExactLagUptoSaid : Prop := fnExactLagUptoRow.holds Try.pinned (OpenSpec.upto fnExactLagSpec)

/-- 'laws.FnExactBehind', WHERE WHAT IT READS IS OF BULK AT MOST 1048576: true; the input reads as it did. -/
def fnExactBehindUptoRow : OpenClaim := { program := "ythfolmphegdabaa", sum := "e4a8cd90c713d333753cbf5b4a0b7f04a58097e728261b19e279c627ee8452e9", func := "loop.example/g00470/laws.FnExactBehind", spec := "fnExactBehind", apart := false, narrowed := true }
def FnExactBehindUptoSaid : Prop := fnExactBehindUptoRow.holds Try.pinned (OpenSpec.upto fnExactBehindSpec)

/-- 'laws.FnExactPathTo', WHERE WHAT IT READS IS OF BULK AT MOST 1048576: true; the input reads as it did. -/
def fnExactPathToUptoRow : OpenClaim := { program := "ythfolmphegdabaa", sum := "e4a8cd90c713d333753cbf5b4a0b7f04a58097e728261b19e279c627ee8452e9", func := "loop.example/g00470/laws.FnExactPathTo", spec := "fnExactPathTo", unfollowed := true, recurses := true, apart := false, narrowed := true }
def FnExactPathToUptoSaid : Prop := fnExactPathToUptoRow.holds Try.pinned (OpenSpec.upto fnExactPathToSpec)

/-- 'laws.FnExactSafe', WHERE WHAT IT READS IS OF BULK AT MOST 1048576: true; the input reads as it did. -/
def fnExactSafeUptoRow : OpenClaim := { program := "ythfolmphegdabaa", sum := "e4a8cd90c713d333753cbf5b4a0b7f04a58097e728261b19e279c627ee8452e9", func := "loop.example/g00470/laws.FnExactSafe", spec := "fnExactSafe", apart := false, narrowed := true }
def FnExactSafeUptoSaid : Prop := fnExactSafeUptoRow.holds Try.pinned (OpenSpec.upto fnExactSafeSpec)

/-- 'laws.FnExactSnapOf', WHERE WHAT IT READS IS OF BULK AT MOST 1048576: true; the input reads as it did. -/
def fnExactSnapOfUptoRow : OpenClaim := { program := "ythfolmphegdabaa", sum := "e4a8cd90c713d333753cbf5b4a0b7f04a58097e728261b19e279c627ee8452e9", func := "loop.example/g00470/laws.FnExactSnapOf", spec := "fnExactSnapOf", apart := false, narrowed := true }
def FnExactSnapOfUptoSaid : Prop := fnExactSnapOfUptoRow.holds Try.pinned (OpenSpec.upto fnExactSnapOfSpec)

end Rows
end Go.Proofs.Ythfolmphegdabaa
